/- ViewEvents, walked. Conditions: those that the theorem names. -/
import Derived.Test.YthpmlnnjfmcglaaVX
import Derived.Test.YthpmlnnjfmcglaaQE
namespace Go.Proofs.Ythpmlnnjfmcglaa.VW
set_option linter.unusedVariables false
set_option linter.unusedSimpArgs false
open Go Go.RowKit Go.Proofs.YthpmlnnjfmcglaaS Go.Proofs.YthpmlnnjfmcglaaS.Asn Go.Proofs.Ythpmlnnjfmcglaa.PA Go.Proofs.YthpmlnnjfmcglaaW.PrintWords Go.Proofs.YthpmlnnjfmcglaaW.PrintLast Go.Proofs.YthpmlnnjfmcglaaW.PrintMore
theorem ar1 (q : Nat) (h : q ≤ 300) : wrap64 (q : Int) = (q : Int) := by unfold wrap64; omega
theorem ar2 (q : Nat) (h : q ≤ 300) : ((q : Int) + 1) % 4294967296 = (q : Int) + 1 := by omega
theorem ar3 (q : Nat) (h : q ≤ 300) : (q : Int) % 4294967296 = (q : Int) := by omega
theorem ar4 (i m : Nat) (h : i ≤ 300) (h2 : m ≤ i) : wrap64 ((i : Int) - (m : Int)) = (i : Int) - (m : Int) := by unfold wrap64; omega
theorem ar5 (i m j k : Nat) (h2 : m ≤ i) (hk : i - m + j = k) : (i : Int) - (m : Int) + (j : Int) = (k : Int) := by omega
set_option maxHeartbeats 4000000 in
set_option maxRecDepth 100000 in
theorem events_walk (a0 : Nat) (w : World) (h0 : a0 < 65536) :
    Calls Try.prog 4 #[.int .u16 (a0 : Int)] w fun e w' => e = .returned (.bool true) ∧ Below w.heap.size w w' := by
  have HS := Aside0.mk (sep_start w)
  obtain ⟨n, hn⟩ : ∃ r : Nat, a0 % 301 = r := ⟨_, rfl⟩
  have HN : Aside0 (n ≤ 300) := ⟨by omega⟩
  have r1 : ((a0 : Int) % 301) = (n : Int) := by omega
  clear h0 hn
  go_enter Try.func4, Try.ntmps4
  go_upto_region 8 with (first | (go_at_call 9; (with_reducible refine Calls.mono (examples_walk _) ?_); rintro e w1 ⟨rfl, hb_⟩; have n_ := sep_below HS.out hb_; clear hb_; have n0_ := Aside0.mk n_; clear HS n_; have HS := n0_; clear n0_) | (go_at_call 10; (with_reducible refine Calls.mono (view_New _) ?_); rintro e w2 ⟨p, rfl, hm_⟩; have n_ := sep_made_of HS.out (sep_only hm_); clear hm_; have n0_ := Aside0.mk n_; clear HS n_; have HS := n0_; clear n0_))
  rw [← SE_zero] at HS
  go_upto_region 9 with (fail)
  rw [r1]
  clear r1
  go_loopg [6] n (fun gg v6 wr => ∃ i : Nat, i ≤ n ∧ n - i ≤ gg ∧ v6 = .int .i64 (i : Int) ∧ Aside0 (Sep w (fun _ => False) (viewA p (SE i) ⋆ emp) wr))
  case atStart => exact ⟨0, Nat.zero_le _, by omega, rfl, HS⟩
  case round =>
    clear HS
    obtain ⟨i, hi, hgi, rfl, HS⟩ := hrel
    by_cases hlt : i < n
    · have c1b : decide ((i : Int) < (n : Int)) = true := decide_eq_true (Int.ofNat_lt.2 hlt); have c1n : decide (i < n) = true := decide_eq_true hlt; have c1q : (i < n) = True := eq_true hlt; have p0_ := eq_true (Int.natCast_nonneg i)
      have HI := Aside0.mk (And.intro hlt hgi)
      clear hi hgi hlt
      have HRC : Aside0 (rc i = ⟨1 + ((i % 3 : Nat) : Int), ((i / 3 % 2 : Nat) : Int), ((i / 3 : Nat) : Int) + 1, 1, 1⟩) := ⟨rfl⟩
      obtain ⟨c, hc⟩ : ∃ c, i % 3 = c := ⟨_, rfl⟩
      obtain ⟨q, hq⟩ : ∃ q, i / 3 = q := ⟨_, rfl⟩
      obtain ⟨s, hs⟩ : ∃ s, q % 2 = s := ⟨_, rfl⟩
      have f1 : ((i : Int) % 3) = (c : Int) := by omega
      have f2 : ((i : Int) / 3) = (q : Int) := by omega
      have f3 : wrap64 (q : Int) = (q : Int) := by have := HI.out; have := HN.out; unfold wrap64; omega
      have f4 : Int.tmod (q : Int) 2 = (s : Int) := by rw [← hs]; exact Int.tmod_eq_emod_of_nonneg (Int.natCast_nonneg q)
      have f5 : ((q : Int) + 1) % 4294967296 = (q : Int) + 1 := by have := HI.out; have := HN.out; omega
      have f6 : (q : Int) % 4294967296 = (q : Int) := by have := HI.out; have := HN.out; omega
      rw [hc, hq, hs] at HRC
      have HT := take_rc i
      rw [HRC.out] at HT
      have HT := Aside0.mk HT
      clear HRC hc hq hs
      go_upto_region 12 with (fail)
      have n_ := sep_l1 (sep_alloc HS.out #[.int .i64 (1 + (c : Int)), .int .i64 (s : Int), .int .u32 ((q : Int) + 1), .int .u32 0, .int .u16 0] 31)
      have n0_ := Aside0.mk n_; clear HS n_; have HS := n0_; clear n0_
      generalize wr.alloc (.cells #[.int .i64 (1 + (c : Int)), .int .i64 (s : Int), .int .u32 ((q : Int) + 1), .int .u32 0, .int .u16 0] 31) = wa at HS ⊢
      generalize wr.heap.size = g7 at HS ⊢
      obtain ⟨m1, m2, m3, m4, m5⟩ := facts5 (sep_l1 HS.out)
      have kf3 := sep_frozen (sep_l1 HS.out) 3
      have kf4 := sep_frozen (sep_l1 HS.out) 4
      go_upto_region 14 with (fail)
      have n_ := sep_l1 (sep_set (sep_set (sep_l1 HS.out) 3 (.int .u32 1)) 4 (.int .u16 1))
      rw [show ((#[.int .i64 (1 + (c : Int)), .int .i64 (s : Int), .int .u32 ((q : Int) + 1), .int .u32 0, .int .u16 0] : Array Value).setIfInBounds 3 (.int .u32 1)).setIfInBounds 4 (.int .u16 1) = #[.int .i64 (1 + (c : Int)), .int .i64 (s : Int), .int .u32 ((q : Int) + 1), .int .u32 1, .int .u16 1] from rfl] at n_
      have n0_ := Aside0.mk n_; clear HS n_; have HS := n0_; clear n0_
      generalize (wa.setCell ⟨g7, 3, none⟩ (.int .u32 1)).setCell ⟨g7, 4, none⟩ (.int .u16 1) = wb at HS ⊢
      clear m1 m2 m3 m4 m5 kf3 kf4
      obtain ⟨m1, m2, m3, m4, m5⟩ := facts5 (sep_l1 HS.out)
      go_wp2_with (go_at_call 14; obtain ⟨ok_, hp_, hk_⟩ := sep_use1 HS.out; have hx_ := view_Take p (SE i) ⟨1 + (c : Int), (s : Int), (q : Int) + 1, 1, 1⟩ _ ok_ (by rw [SE_len]; omega) (by show i ≤ _; have := HI.out; have := HN.out; omega) hp_; rw [HT.out] at hx_; dsimp only at hx_; (with_reducible refine Calls.mono hx_ ?_); rintro e w1 ⟨rfl, hq_⟩; have n_ := back1 hk_ hq_; clear hx_ hp_ hk_ hq_; have n0_ := Aside0.mk n_; clear HS n_; have HS := n0_; clear n0_; clear m1 m2 m3 m4 m5; clear c1b c1n c1q)
      have n_ := sep_drop (sep_l1 HS.out)
      have n0_ := Aside0.mk n_; clear HS n_; have HS := n0_; clear n0_
      go_roundg (n - (i + 1))
      case measure => have := HI.out; omega
      case rel => exact ⟨i + 1, HI.out.1, Nat.le_refl _, congrArg (Value.int .i64) (by have := HI.out; omega), HS⟩
    · obtain rfl : i = n := by omega
      have c2b : decide ((i : Int) < (i : Int)) = false := decide_eq_false (by omega)
      clear hi hgi hlt
      go_upto_region 18 with (go_at_call 16; obtain ⟨ok_, hp_, hk_⟩ := sep_use1 HS.out; have hx_ := view_Events p (SE i) _ ok_ (by rw [SE_len]; omega) hp_; (with_reducible refine Calls.mono hx_ ?_); rintro e w1 ⟨v_, rfl, hq_⟩; have n_ := back2 hk_ hq_; clear hx_ hp_ hk_ hq_; obtain ⟨Ae, ce, rfl, -, -⟩ := sep_row n_; have n0_ := Aside0.mk n_; clear HS n_; have HS := n0_; clear n0_)
      clear c2b
      obtain ⟨E, hE⟩ : ∃ E, (SE i).E = E := ⟨_, rfl⟩
      obtain ⟨m, hm⟩ : ∃ m, min i 128 = m := ⟨_, rfl⟩
      have hl : E.length = m := by rw [← hE, SE_len, hm]
      have hat : ∀ j, j < m → E[j]? = some (ek (i - m + j)) := by intro j hj; rw [← hE, SE_at i j (by omega), hm]
      have hmi : m ≤ i := by omega
      rw [hE, hl] at HS
      rw [hE, hl]
      have HE := Aside0.mk (And.intro hl (And.intro hat hmi))
      have hmm : (if (i : Int) < 128 then (i : Int) else 128) = (m : Int) := by omega
      have hmn : (if (128 : Int) < (i : Int) then 128 else (i : Int)) = (m : Int) := by omega
      have hmo : min (i : Int) 128 = (m : Int) := by omega
      have HM := Aside0.mk hm
      have z1 : ((m : Int) != (m : Int)) = false := by simp
      have z2 : IntKind.u64.wrap (i : Int) = (i : Int) := by have := HN.out; rw [IntKind.wrap_u64]; omega
      have z3 : (i : Int) % 18446744073709551616 = (i : Int) := by have := HN.out; omega
      clear hE hm hl hat hmi
      go_upto_region 21 with (go_at_call 13; obtain ⟨ok_, hp_, hk_⟩ := sep_use1 (sep_l1 HS.out); have hx_ := view_Seen p (SE i) _ ok_ hp_; rw [show (SE i).seen = i from rfl] at hx_; (with_reducible refine Calls.mono hx_ ?_); rintro e w1 ⟨rfl, hq_⟩; have n_ := back1 hk_ hq_; clear hx_ hp_ hk_ hq_; replace n_ := sep_l1 n_; have n0_ := Aside0.mk n_; clear HS n_; have HS := n0_; clear n0_)
      clear hmm hmn hmo z1 z2 z3
      go_loopg [11] m (fun gg v11 wr => ∃ j : Nat, j ≤ m ∧ m - j ≤ gg ∧ v11 = .int .i64 (j : Int) ∧ Aside0 (Sep w (fun _ => False) (row evK 46 (.slice Ae m ce) E ⋆ viewA p (SE i) ⋆ emp) wr))
      case atStart => exact ⟨0, Nat.zero_le _, by omega, rfl, HS⟩
      case round =>
        clear HS
        obtain ⟨j, hj, hgj, rfl, HS⟩ := hrel
        by_cases hjl : j < m
        · have c1b : decide ((j : Int) < (m : Int)) = true := decide_eq_true (Int.ofNat_lt.2 hjl); have c1n : decide (j < m) = true := decide_eq_true hjl; have c1q : (j < m) = True := eq_true hjl; have p0_ := eq_true (Int.natCast_nonneg j)
          obtain ⟨k, hk⟩ : ∃ k, i - m + j = k := ⟨_, rfl⟩
          have hx := HE.out.2.1 j hjl
          rw [hk] at hx
          have HJ := Aside0.mk (And.intro hjl hgj)
          have hkn : k ≤ 300 := by have := HE.out.2.2; have := HN.out; omega
          have g1 := ar4 i m HN.out HE.out.2.2
          have g2 := ar5 i m j k HE.out.2.2 hk
          have g3 := ar1 k hkn
          have HEK : Aside0 (ek k = ⟨1 + ((k % 3 : Nat) : Int), wasOf k, ((k / 3 % 2 : Nat) : Int), ((k / 3 : Nat) : Int) + 1⟩) := ⟨rfl⟩
          obtain ⟨c, hc⟩ : ∃ c, k % 3 = c := ⟨_, rfl⟩
          obtain ⟨q, hq⟩ : ∃ q, k / 3 = q := ⟨_, rfl⟩
          obtain ⟨s, hs⟩ : ∃ s, q % 2 = s := ⟨_, rfl⟩
          have f1 : ((k : Int) % 3) = (c : Int) := by omega
          have f2 : ((k : Int) / 3) = (q : Int) := by omega
          have hqn : q ≤ 300 := by rw [← hq]; exact Nat.le_trans (Nat.div_le_self _ _) hkn
          have f3 := ar1 q hqn
          have f4 : Int.tmod (q : Int) 2 = (s : Int) := by rw [← hs]; exact Int.tmod_eq_emod_of_nonneg (Int.natCast_nonneg q)
          have f5 := ar2 q hqn
          have f6 := ar3 q hqn
          clear hqn
          rw [hc, hq, hs] at HEK
          rw [HEK.out] at hx
          obtain ⟨ge, rfl⟩ := row_addr HS.out (by rw [HE.out.1]; exact Nat.lt_of_le_of_lt (Nat.zero_le _) hjl)
          obtain ⟨e0, -, e2, e3⟩ := ev_cells HS.out j _ hx
          dsimp only at e0 e2 e3
          have y0 := eq_true (Int.natCast_nonneg k)
          clear hc hq hs hk hx hkn hj hgj hjl HEK
          go_wp2
          go_roundg (m - (j + 1))
          case measure => have := HJ.out; omega
          case rel => exact ⟨j + 1, HJ.out.1, Nat.le_refl _, congrArg (Value.int .i64) (by have := HJ.out; have := HE.out.2.2; have := HN.out; unfold wrap64; omega), HS⟩
        · obtain rfl : j = m := by omega
          have c2b : decide ((j : Int) < (j : Int)) = false := decide_eq_false (by omega)
          go_wp2
          go_ret
          exact ⟨rfl, sep_below_of HS.out⟩
end Go.Proofs.Ythpmlnnjfmcglaa.VW
