/- DoubtMany, walked. Conditions: those that the theorem names. -/
import Derived.Test.YthoppcefadopeaaDX
import Derived.Test.YthoppcefadopeaaDR
import Derived.Test.YthoppcefadopeaaXI
namespace Go.Proofs.Ythoppcefadopeaa.DW
set_option linter.unusedVariables false
set_option linter.unusedSimpArgs false
open Go Go.RowKit Go.Proofs.YthoppcefadopeaaS Go.Proofs.YthoppcefadopeaaS.Asn Go.Proofs.Ythoppcefadopeaa.PA Go.Proofs.YthoppcefadopeaaW.PrintWords Go.Proofs.YthoppcefadopeaaW.PrintLast Go.Proofs.YthoppcefadopeaaW.PrintMore
/-- A number of the list, read later on. -/
theorem byte_now {w wr : World} {A : Option Addr} {l : List Int} (hr : Kd.C (Kd.int .u8) w A l.length l) (hok : ∀ x ∈ l, 0 ≤ x ∧ x < 256) (hb : Below w.heap.size w wr) (i : Nat) (hi : i < l.length) :
    ∃ (ad : Addr) (y q : Nat), A = some ad ∧ y % 16 = q ∧ at5 l i = (q : Int) ∧ y < 256 ∧ wr.cell? (ad.add i) = some (.int .u8 (y : Int)) := by
  obtain ⟨ad, rfl, kw⟩ := Kd.at_int hr (i : Int) (Int.natCast_nonneg i) (Int.ofNat_lt.2 hi)
  have h0 := hok (l.getD i 0) (by rw [List.getD_eq_getElem?_getD, List.getElem?_eq_getElem hi]; exact List.getElem_mem hi)
  obtain ⟨y, hy⟩ := Int.eq_ofNat_of_zero_le h0.1
  have hrd : rd l (i : Int) = (y : Int) := by unfold rd; rw [Int.toNat_natCast]; exact hy
  rw [Int.toNat_natCast, hrd] at kw
  refine ⟨ad, y, y % 16, rfl, rfl, ?_, by omega, (hb.cell (World.block_lt_of_cell? w _ kw)).trans kw⟩
  unfold at5
  rw [hy]
  omega
set_option maxHeartbeats 4000000 in
set_option maxRecDepth 100000 in
theorem many_walk (A1 : Option Addr) (c1 : Nat) (l : List Int) (w : World) (hr1 : Kd.C (Kd.int .u8) w A1 l.length l) (hc1 : l.length ≤ c1) (hok : ∀ x ∈ l, 0 ≤ x ∧ x < 256) :
    Calls Try.prog 6 #[.slice A1 l.length c1] w fun e w' => e = .returned (.bool true) ∧ Below w.heap.size w w' := by
  have HS := Aside0.mk (sep_start w)
  have HR1 := Aside0.mk hr1
  have HOK := Aside0.mk hok
  obtain ⟨m, hm⟩ : ∃ m, min l.length 30 = m := ⟨_, rfl⟩
  have HM : Aside0 (m ≤ 30 ∧ m ≤ l.length) := ⟨by omega⟩
  have hmm : (if (l.length : Int) < 30 then (l.length : Int) else 30) = (m : Int) := by omega
  have hmn : (if (30 : Int) < (l.length : Int) then 30 else (l.length : Int)) = (m : Int) := by omega
  have hmo : min (l.length : Int) 30 = (m : Int) := by omega
  clear hr1 hc1 hok hm
  go_enter Try.func6, Try.ntmps6
  go_upto_region 8 with (first | (go_at_call 9; (with_reducible refine Calls.mono (examples_walk _) ?_); rintro e w1 ⟨rfl, hb_⟩; have n_ := sep_below HS.out hb_; clear hb_; have n0_ := Aside0.mk n_; clear HS n_; have HS := n0_; clear n0_) | (go_at_call 10; (with_reducible refine Calls.mono (dt_New _) ?_); rintro e w2 ⟨p, rfl, hm_⟩; have n_ := sep_made_of HS.out (sep_only hm_); clear hm_; have n0_ := Aside0.mk n_; clear HS n_; have HS := n0_; clear n0_))
  clear hmm hmn hmo
  have n_ := HS.out
  rw [← MT_zero l] at n_
  have n0_ := Aside0.mk n_; clear HS n_; have HS := n0_; clear n0_
  go_upto_region 9 with (fail)
  go_loopg [6] m (fun gg v6 wr => ∃ i : Nat, i ≤ m ∧ m - i ≤ gg ∧ v6 = .int .i64 (i : Int) ∧ Aside0 (Sep w (fun _ => False) (doubtA p (MT l i 0) ⋆ emp) wr))
  case atStart => exact ⟨0, Nat.zero_le _, by omega, rfl, HS⟩
  case round =>
    clear HS
    obtain ⟨i, hi, hgi, rfl, HS⟩ := hrel
    by_cases hlt : i < m
    · have c1b : decide ((i : Int) < (m : Int)) = true := decide_eq_true (Int.ofNat_lt.2 hlt); have c1n : decide (i < m) = true := decide_eq_true hlt; have c1q : (i < m) = True := eq_true hlt; have p0_ := eq_true (Int.natCast_nonneg i)
      have hll : i < l.length := Nat.lt_of_lt_of_le hlt HM.out.2
      have c3b : decide ((i : Int) < (l.length : Int)) = true := decide_eq_true (Int.ofNat_lt.2 hll)
      have c3i : ((i : Int) < (l.length : Int)) = True := eq_true (Int.ofNat_lt.2 hll)
      have c3q := eq_true hll
      obtain ⟨ad, y, q, hA, hq, h5, hy, ka⟩ := byte_now HR1.out HOK.out (sep_below_of HS.out) i hll
      subst hA
      have hE := MT_begin l i (by have := HM.out; omega)
      rw [h5] at hE
      have HE := Aside0.mk (show beginE (MT l i 0) ((i : Int) + 1) 1 (q : Int) 5 = (0, MT l (i + 1) 0) from hE)
      have r2 : ((y : Int) % 16) = (q : Int) := by omega
      have r1 : Int.tmod (y : Int) 16 = (q : Int) := by rw [Int.tmod_eq_emod_of_nonneg (by omega)]; exact r2
      have w1_ : wrap64 ((i : Int) + 1) = (i : Int) + 1 := by have := HM.out; unfold wrap64; omega
      have w2_ : IntKind.u64.wrap (q : Int) = (q : Int) := by rw [IntKind.wrap_u64]; omega
      have HI := Aside0.mk (And.intro hlt hgi)
      clear hi hgi hlt hll hE hy hq h5
      go_wp2_with (go_at_call 18; obtain ⟨ok_, hp_, hk_⟩ := sep_use1 HS.out; have hx_ := dt_Begin p (MT l i 0) (((i : Int) + 1)) (1) ((q : Int)) (5) _ ok_ hp_; rw [HE.out] at hx_; dsimp only at hx_; (with_reducible refine Calls.mono hx_ ?_); rintro e w1 ⟨rfl, hq_⟩; have n_ := back1 hk_ hq_; clear hx_ hp_ hk_ hq_; have n0_ := Aside0.mk n_; clear HS n_; have HS := n0_; clear n0_)
      go_roundg (m - (i + 1))
      case measure => have := HI.out; omega
      case rel => exact ⟨i + 1, HI.out.1, Nat.le_refl _, congrArg (Value.int .i64) (by have := HI.out; have := HM.out; unfold wrap64; omega), HS⟩
    · obtain rfl : i = m := by omega
      have c2b : decide ((i : Int) < (i : Int)) = false := decide_eq_false (by omega)
      clear hi hgi hlt
      go_upto_region 15 with (fail)
      go_loopg [7, 8] 30 (fun gg v7 v8 wr => ∃ t : Nat, t ≤ 30 ∧ 30 - t ≤ gg ∧ v8 = .int .u64 (t : Int) ∧ v7 = .int .i64 ((cnt l i (t : Int) : Nat) : Int) ∧ Aside0 (Sep w (fun _ => False) (doubtA p (MT l i (t : Int)) ⋆ emp) wr))
      case atStart => exact ⟨0, Nat.zero_le _, by omega, rfl, by rw [show ((0 : Nat) : Int) = 0 from rfl, cnt_zero]; rfl, HS⟩
      case round =>
        clear HS
        obtain ⟨t, ht, hgt, rfl, rfl, HS⟩ := hrel
        by_cases ht30 : t < 30
        · have e1 : decide ((t : Int) < 30) = true := decide_eq_true (by omega)
          have e2 : ((t : Int) < 30) = True := eq_true (by omega)
          have e3 := eq_true ht30
          have HT := Aside0.mk (And.intro ht30 hgt)
          have HD := Aside0.mk (MT_due l i (t : Int) HM.out.1)
          have hcs := cnt_step l (t : Int) i
          have hle := cnt_le l i (t : Int)
          have hle2 := cnt_le l i ((t : Int) + 1)
          obtain ⟨C, hC⟩ : ∃ C, cnt l i (t : Int) = C := ⟨_, rfl⟩
          rw [hC] at hcs hle ⊢
          have HCS := Aside0.mk hcs
          have HC30 : Aside0 (C ≤ 30 ∧ C + (DL l (t : Int) i).length ≤ 30) := ⟨by have := HM.out; omega⟩
          clear ht hgt ht30 hC hcs hle hle2
          go_upto_region 18 with (go_at_call 16; obtain ⟨ok_, hp_, hk_⟩ := sep_use1 (id HS.out); have hx_ := dt_Due p (MT l i (t : Int)) ((t : Int)) _ ok_ (Good_MT l i (t : Int)) hp_; rw [HD.out] at hx_; dsimp only at hx_; (with_reducible refine Calls.mono hx_ ?_); rintro e w1 ⟨v_, rfl, hq_⟩; have n_ := back2 hk_ hq_; clear hx_ hp_ hk_ hq_; have n0_ := Aside0.mk n_; clear HS n_; have HS := n0_; clear n0_)
          obtain ⟨R, hmat, n_⟩ := items_open HS.out
          obtain ⟨hRL, hmt⟩ := hmat
          have HMT := Aside0.mk hmt
          obtain ⟨A, c, rfl, -, -⟩ := sep_row n_
          obtain ⟨K, hK⟩ : ∃ K, R.length = K := ⟨_, rfl⟩
          have HLK : Aside0 ((DL l (t : Int) i).length = K) := ⟨hRL.symm.trans hK⟩
          have HRK := Aside0.mk hK
          have HK30 : Aside0 (C + K ≤ 30) := ⟨by have := HC30.out; have := HLK.out; omega⟩
          rw [hK] at n_ ⊢
          have n0_ := Aside0.mk n_; clear HS n_; have HS := n0_; clear n0_
          clear hmt hRL hK
          go_upto_region 19 with (fail)
          go_loopg [7, 10] K (fun gg v7 v10 wr => ∃ kk : Nat, kk ≤ K ∧ K - kk ≤ gg ∧ v7 = .int .i64 ((C + kk : Nat) : Int) ∧ v10 = .int .i64 (kk : Int) ∧ Aside0 (Sep w (fun _ => False) (row ritK 53 (.slice A K c) R ⋆ pool (Kd.int .i64) (poolOf R (DL l (t : Int) i)) ⋆ doubtA p (MT l i ((t : Int) + 1)) ⋆ emp) wr))
          case atStart => exact ⟨0, Nat.zero_le _, by omega, rfl, rfl, HS⟩
          case round =>
            clear HS
            obtain ⟨kk, hkk, hgk, rfl, rfl, HS⟩ := hrel
            by_cases hlt2 : kk < K
            · have g1 : decide ((kk : Int) < (K : Int)) = true := decide_eq_true (Int.ofNat_lt.2 hlt2)
              have g2 : ((kk : Int) < (K : Int)) = True := eq_true (Int.ofNat_lt.2 hlt2)
              have g3 := eq_true hlt2
              have g4 := eq_true (Int.natCast_nonneg kk)
              obtain ⟨r, hr⟩ : ∃ r, R[kk]? = some r := ⟨_, List.getElem?_eq_getElem (by rw [HRK.out]; exact hlt2)⟩
              obtain ⟨x, hx⟩ : ∃ x, (DL l (t : Int) i)[kk]? = some x := ⟨_, List.getElem?_eq_getElem (by rw [HLK.out]; exact hlt2)⟩
              have hrx := (HMT.out kk r x hr hx).1
              obtain ⟨j, hj, hid, h5⟩ := DL_at l (t : Int) i kk x hx
              have hll : j < l.length := Nat.lt_of_lt_of_le hj HM.out.2
              obtain ⟨ad, y, q, hA, hq, hq5, hy, ka⟩ := byte_now HR1.out HOK.out (sep_below_of HS.out) j hll
              subst hA
              obtain ⟨gx, rfl⟩ := row_addr HS.out (by rw [HRK.out]; omega)
              have y0 := (rit_cells HS.out kk r hr).1
              obtain ⟨z, hz⟩ : ∃ z : Nat, j + 1 = z := ⟨_, rfl⟩
              have hrz : r.id = (z : Int) := by rw [hrx, hid, hz]
              rw [hrz] at y0
              have HRZ := Aside0.mk hrz
              have s1 : decide ((z : Int) < 1) = false := decide_eq_false (by omega)
              have s2 : ((z : Int) < 1) = False := eq_false (by omega)
              have s3 : decide ((z : Int) > (i : Int)) = false := decide_eq_false (by omega)
              have s4 : decide ((i : Int) < (z : Int)) = false := decide_eq_false (by omega)
              have s5 : ((i : Int) < (z : Int)) = False := eq_false (by omega)
              have s6 : (i < z) = False := eq_false (by omega)
              have s7 : wrap64 ((z : Int) - 1) = (j : Int) := by have := HM.out; unfold wrap64; omega
              have s8 := eq_true (Int.natCast_nonneg j)
              have s9 : ((j : Int) < (l.length : Int)) = True := eq_true (Int.ofNat_lt.2 hll)
              have s10 := eq_true hll
              have r2 : ((y : Int) % 16) = (q : Int) := by omega
              have r1 : Int.tmod (y : Int) 16 = (q : Int) := by rw [Int.tmod_eq_emod_of_nonneg (by omega)]; exact r2
              have w2_ : IntKind.u64.wrap (q : Int) = (q : Int) := by rw [IntKind.wrap_u64]; omega
              have w3_ : IntKind.u64.wrap ((q : Int) + 5) = (t : Int) := by rw [IntKind.wrap_u64]; omega
              have w4_ : ((t : Int) != (t : Int)) = false := by simp
              rcases Nat.eq_zero_or_pos kk with h0 | h0
              · have t1 : decide ((kk : Int) > 0) = false := decide_eq_false (by omega)
                have t2 : decide ((0 : Int) < (kk : Int)) = false := decide_eq_false (by omega)
                have t3 : ((0 : Int) < (kk : Int)) = False := eq_false (by omega)
                have t4 : (0 < kk) = False := eq_false (by omega)
                clear h0 hr hx hrx hj hid h5 hll hq hq5 hy hz hrz
                have HI := Aside0.mk (And.intro hlt2 hgk)
                clear hlt2 hgk hkk
                go_upto_region 22 with (fail)
                clear y0
                go_wp2
                go_roundg (K - (kk + 1))
                case measure => have := HI.out; omega
                case rel => exact ⟨kk + 1, HI.out.1, Nat.le_refl _, congrArg (Value.int .i64) (by have := HC30.out; have := HI.out; have := HK30.out; unfold wrap64; omega), congrArg (Value.int .i64) (by have := HI.out; have := HK30.out; unfold wrap64; omega), HS⟩
              · obtain ⟨k', hk'⟩ : ∃ k', kk = k' + 1 := ⟨kk - 1, by omega⟩
                have hkl : k' < K := by omega
                obtain ⟨r', hr'⟩ : ∃ r', R[k']? = some r' := ⟨_, List.getElem?_eq_getElem (by rw [HRK.out]; exact hkl)⟩
                obtain ⟨x', hx'⟩ : ∃ x', (DL l (t : Int) i)[k']? = some x' := ⟨_, List.getElem?_eq_getElem (by rw [HLK.out]; exact hkl)⟩
                have hrise := DL_rise l (t : Int) i k' x' x hx' (by rw [← hk']; exact hx)
                rw [← (HMT.out k' r' x' hr' hx').1, ← hrx, hrz] at hrise
                have v0 := (rit_cells HS.out k' r' hr').1
                have u1 : decide (r'.id ≥ (z : Int)) = false := decide_eq_false (by omega)
                have u2 : decide ((z : Int) ≤ r'.id) = false := decide_eq_false (by omega)
                have u3 : ((z : Int) ≤ r'.id) = False := eq_false (by omega)
                have t1 : decide ((kk : Int) > 0) = true := decide_eq_true (by omega)
                have t2 : decide ((0 : Int) < (kk : Int)) = true := decide_eq_true (by omega)
                have t3 : ((0 : Int) < (kk : Int)) = True := eq_true (by omega)
                have t4 : (0 < kk) = True := eq_true (by omega)
                have t5 : wrap64 ((kk : Int) - 1) = (k' : Int) := by have := HK30.out; unfold wrap64; omega
                have t6 := eq_true (Int.natCast_nonneg k')
                have t7 : ((k' : Int) < (K : Int)) = True := eq_true (by omega)
                have t8 := eq_true hkl
                clear h0 hr hx hrx hj hid h5 hll hq hq5 hy hz hrz hk' hkl hr' hx' hrise
                have HI := Aside0.mk (And.intro hlt2 hgk)
                clear hlt2 hgk hkk
                go_upto_region 22 with (fail)
                clear y0
                go_wp2
                go_roundg (K - (kk + 1))
                case measure => have := HI.out; omega
                case rel => exact ⟨kk + 1, HI.out.1, Nat.le_refl _, congrArg (Value.int .i64) (by have := HC30.out; have := HI.out; have := HK30.out; unfold wrap64; omega), congrArg (Value.int .i64) (by have := HI.out; have := HK30.out; unfold wrap64; omega), HS⟩
            · obtain rfl : kk = K := by omega
              have g1 : decide ((kk : Int) < (kk : Int)) = false := decide_eq_false (by omega)
              have n_ := sep_drop (sep_drop HS.out)
              have n0_ := Aside0.mk n_; clear HS n_; have HS := n0_; clear n0_
              clear hkk hgk hlt2
              go_wp2
              go_roundg (30 - (t + 1))
              case measure => have := HT.out; omega
              case rel => exact ⟨t + 1, HT.out.1, Nat.le_refl _, congrArg (Value.int .u64) (by have := HT.out; rw [IntKind.wrap_u64]; omega), congrArg (Value.int .i64) (by have h1 := HCS.out; have h2 := HLK.out; rw [show ((t + 1 : Nat) : Int) = (t : Int) + 1 from rfl]; omega), HS⟩
        · obtain rfl : t = 30 := by omega
          have e1 : decide (((30 : Nat) : Int) < 30) = false := by decide
          rw [show ((30 : Nat) : Int) = 30 from rfl, cnt_all]
          rw [show ((30 : Nat) : Int) = 30 from rfl] at HS
          have HIT := Aside0.mk (MT_items l i)
          clear ht hgt ht30
          go_wp2_with ((go_at_call 22; obtain ⟨ok_, hp_, hk_⟩ := sep_use1 (id HS.out); have hx_ := dt_Items p (MT l i 30) _ ok_ (Good_MT l i 30) hp_; rw [HIT.out] at hx_; (with_reducible refine Calls.mono hx_ ?_); rintro e w1 ⟨v_, rfl, hq_⟩; have n_ := back2 hk_ hq_; clear hx_ hp_ hk_ hq_; have n0_ := Aside0.mk n_; clear HS n_; have HS := n0_; clear n0_); obtain ⟨Az, cz, rfl, -⟩ := items_none HS.out)
          go_ret
          exact ⟨rfl, sep_below_of HS.out⟩
end Go.Proofs.Ythoppcefadopeaa.DW
