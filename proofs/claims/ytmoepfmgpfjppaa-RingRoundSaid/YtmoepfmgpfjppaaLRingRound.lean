/- RingRound, walked. Conditions: those that the theorem names. -/
import Derived.Test.YtmoepfmgpfjppaaLX
namespace Go.Proofs.Ytmoepfmgpfjppaa.LX
set_option linter.unusedVariables false
set_option linter.unusedSimpArgs false
open Go Go.RowKit Go.Proofs.YtmoepfmgpfjppaaS Go.Proofs.YtmoepfmgpfjppaaS.Asn Go.Proofs.Ytmoepfmgpfjppaa.PA Go.Proofs.Ytmoepfmgpfjppaa.MA Go.Proofs.Ytmoepfmgpfjppaa.RG Go.Proofs.YtmoepfmgpfjppaaW.PrintWords Go.Proofs.YtmoepfmgpfjppaaW.PrintLast Go.Proofs.YtmoepfmgpfjppaaW.PrintMore
/-- The numbers of the bits below k, each one more. -/
def bits1 (x : Nat) (k : Nat) : List Int := ((List.range k).filter (fun j => x / 2 ^ j % 2 = 1)).map (fun j : Nat => (j : Int) + 1)
theorem bits1_succ (x k : Nat) : bits1 x (k + 1) = bits1 x k ++ (if x / 2 ^ k % 2 = 1 then [(k : Int) + 1] else []) := by
  unfold bits1
  rw [List.range_succ, List.filter_append, List.map_append]
  congr 1
  by_cases h : x / 2 ^ k % 2 = 1
  · simp [h]
  · simp [h]
theorem bits1_mem {x k : Nat} {y : Int} (h : y ∈ bits1 x k) : ∃ j, j < k ∧ x / 2 ^ j % 2 = 1 ∧ y = ((j + 1 : Nat) : Int) := by
  unfold bits1 at h
  obtain ⟨j, hj, rfl⟩ := List.mem_map.1 h
  obtain ⟨h1, h2⟩ := List.mem_filter.1 hj
  exact ⟨j, List.mem_range.1 h1, by simpa using h2, by omega⟩
theorem bits1_nodup (x k : Nat) : (bits1 x k).Nodup := by
  unfold bits1 List.Nodup
  rw [List.pairwise_map]
  exact (List.Pairwise.filter _ List.nodup_range).imp (fun h e => h (by omega))
theorem bits1_len (x k : Nat) : (bits1 x k).length ≤ k := by
  unfold bits1
  rw [List.length_map]
  exact Nat.le_trans (List.length_filter_le _ _) (by simp)
theorem bit_t {x i : Nat} (h : x / 2 ^ i % 2 = 1) : (Int.tmod ((x : Int) / 2 ^ i) 2 == 1) = true := by
  have e : (x : Int) / 2 ^ i = ((x / 2 ^ i : Nat) : Int) := by simp
  rw [e, Int.tmod_eq_emod_of_nonneg (Int.natCast_nonneg _)]
  simp only [beq_iff_eq]
  omega
theorem bit_f {x i : Nat} (h : ¬ x / 2 ^ i % 2 = 1) : (Int.tmod ((x : Int) / 2 ^ i) 2 == 1) = false := by
  have e : (x : Int) / 2 ^ i = ((x / 2 ^ i : Nat) : Int) := by simp
  rw [e, Int.tmod_eq_emod_of_nonneg (Int.natCast_nonneg _)]
  simp only [beq_eq_false_iff_ne]
  omega
theorem bit_t0 {x i : Nat} (h : x / 2 ^ i % 2 = 1) : (Int.tmod ((x : Int) / 2 ^ i) 2 == 0) = false := by
  have e : (x : Int) / 2 ^ i = ((x / 2 ^ i : Nat) : Int) := by simp
  rw [e, Int.tmod_eq_emod_of_nonneg (Int.natCast_nonneg _)]
  simp only [beq_eq_false_iff_ne]
  omega
theorem head_get (q : List Int) (h : 0 < q.length) : q.headD 0 = q[0] := by
  cases q with
  | nil => simp at h
  | cons x xs => rfl
/-- One of a round. -/
theorem round_step (s : Int) (l : List Int) (i : Nat) (hi : i < l.length) : nx (if i = 0 then s else (mix s l).2) (if i = 0 then [] else (mix s l).1.drop i) l = ((mix s l).1[i]'(by rw [mix_length]; exact hi), true, (mix s l).2, (mix s l).1.drop (i + 1)) := by
  have hl : l ≠ [] := List.ne_nil_of_length_pos (by omega)
  have hm := mix_length s l
  have hp := mix_perm s l
  unfold nx
  rw [if_neg hl]
  by_cases h : i = 0
  · subst h
    rw [if_pos rfl, if_pos rfl, nxt3]
    have hlt : 0 < (mix s l).1.length := by omega
    show ((mix s l).1.headD 0, true, (mix s l).2, (mix s l).1.tail) = ((mix s l).1[0], true, (mix s l).2, (mix s l).1.drop 1)
    rw [head_get _ hlt, List.drop_one]
  · rw [if_neg h, if_neg h]
    have hlt : i < (mix s l).1.length := by omega
    rw [List.drop_eq_getElem_cons hlt, nxt3, if_pos (hp.mem_iff.1 (List.getElem_mem hlt))]
set_option maxHeartbeats 4000000 in
set_option maxRecDepth 100000 in
theorem round_walk (a0 : Int) (x : Nat) (m : Nat) (hx : x < 65536) (hm : m < 256) (w : World) :
    Calls Try.prog 4 #[.int .u64 a0, .int .u16 (x : Int), .int .u8 (m : Int)] w fun e w' => e = .returned (.bool true) ∧ Below w.heap.size w w' := by
  have HX := Aside0.mk hx
  have HM := Aside0.mk hm
  clear hx hm
  have HS := Aside0.mk (sep_start w)
  go_enter Try.func4, Try.ntmps4
  go_upto_region 7 with (first | (go_at_call 8; refine Calls.mono (examples_walk _) ?_; rintro e w1 ⟨rfl, hb_⟩; have n_ := sep_below HS.out hb_; clear hb_; have n0_ := Aside0.mk n_; clear HS n_; have HS := n0_; clear n0_) | (go_at_call 9; refine Calls.mono (ring_New a0 _) ?_; rintro e w2 ⟨p, rfl, hm_⟩; have n_ := sep_made_of HS.out (sep_only hm_); clear hm_; have n0_ := Aside0.mk n_; clear HS n_; have HS := n0_; clear n0_))
  go_upto_region 9 with (fail)
  go_loopg [9, 10] 16 (fun gg v9 v10 wr => ∃ i : Nat, i ≤ 16 ∧ 16 - i ≤ gg ∧ v10 = .int .i64 (i : Int) ∧ Aside0 (Sep w (fun _ => False) (row (Kd.int .i64) 3 v9 (bits1 x i) ⋆ ringA p a0 [] ⋆ emp) wr))
  case atStart => exact ⟨0, by omega, by omega, rfl, ⟨sep_row_nil HS.out⟩⟩
  case round =>
    clear HS
    obtain ⟨i, hi, hgi, rfl, HS⟩ := hrel
    by_cases hlt : i < 16
    · have c1b : decide ((i : Int) < 16) = true := decide_eq_true (by omega)
      have HLT := Aside0.mk (And.intro hlt hgi)
      have p0 : 0 ≤ (i : Int) := Int.natCast_nonneg i
      clear hgi hi
      by_cases hb : x / 2 ^ i % 2 = 1
      · have e1 := bit_t hb
        have HNX := Aside0.mk (bits1_succ x i)
        rw [if_pos hb] at HNX
        have hw := i_step i (by omega)
        have HLB := Aside0.mk (bits1_len x i)
        clear hb
        go_wp2_with (first | ((with_reducible refine gate_builtin (b := .append) (xs := #[.tmp 34, .tmp 37]) rfl ?_); at_builtin; refine wp_append (Kd.int .i64) rfl (.tmp 34) (.tmp 37) 33 3 (.int .i64 0) 8 rfl Try.underlying33 info3 rfl (by decide) (by omega) _ (bits1 x i) ((i : Int) + 1) [.int .i64 ((i : Int) + 1)] (by rfl) (by rfl) rfl HS.out (by have := HLB.out; have := HLT.out; omega) ?_; intro v1_ w4 n_; rw [← HNX.out] at n_; have n0_ := Aside0.mk n_; clear HS n_; have HS := n0_; clear n0_))
        go_roundg (16 - (i + 1))
        case measure => have := HLT.out; omega
        case rel => exact ⟨i + 1, HLT.out.1, Nat.le_refl _, congrArg (Value.int .i64) (by omega), HS⟩
      · have e1 := bit_f hb
        have HNX := Aside0.mk (bits1_succ x i)
        rw [if_neg hb, List.append_nil] at HNX
        clear hb
        go_wp2
        go_roundg (16 - (i + 1))
        case measure => have := HLT.out; omega
        case rel => exact ⟨i + 1, HLT.out.1, Nat.le_refl _, congrArg (Value.int .i64) (by omega), ⟨by rw [HNX.out]; exact HS.out⟩⟩
    · obtain rfl : i = 16 := by omega
      have HND := Aside0.mk (bits1_nodup x 16)
      have HME : Aside0 (∀ y ∈ bits1 x 16, ∃ j : Nat, j < 16 ∧ x / 2 ^ j % 2 = 1 ∧ y = (j : Int) + 1) := ⟨fun y hy => by
        obtain ⟨j, h1, h2, h3⟩ := bits1_mem hy
        exact ⟨j, h1, h2, by omega⟩⟩
      have HLB := Aside0.mk (bits1_len x 16)
      obtain ⟨A9, c9, rfl, hc9, -⟩ := sep_row HS.out
      have HC9 := Aside0.mk hc9
      have n_ := sep_l1 (row_rdo HS.out)
      have n0_ := Aside0.mk n_; clear HS n_; have HS := n0_; clear n0_
      generalize bits1 x 16 = l at HS HND HME HLB HC9 ⊢
      clear hc9 hi hgi hlt
      obtain ⟨K, eK, hK⟩ : ∃ K : Nat, Int.tmod (m : Int) 6 = (K : Int) ∧ K < 6 := ⟨m % 6, by rw [Int.tmod_eq_emod_of_nonneg (Int.natCast_nonneg _)]; rfl, Nat.mod_lt _ (by decide)⟩
      go_upto_region 14 with (fail)
      go_loopg [11] K (fun gg v11 wr => ∃ (n : Nat) (s : Int), n ≤ K ∧ K - n ≤ gg ∧ v11 = .int .i64 (n : Int) ∧ Aside0 (Sep w (fun _ => False) (ringA p s [] ⋆ rdo (Kd.int .i64) A9 l ⋆ emp) wr))
      case atStart => exact ⟨0, a0, by omega, by omega, rfl, HS⟩
      case round =>
        clear HS
        obtain ⟨n, s, hn, hgn, rfl, HS⟩ := hrel
        by_cases hlt : n < K
        · have c1b : decide ((n : Int) < (K : Int)) = true := decide_eq_true (by omega)
          have c1n : decide (n < K) = true := decide_eq_true hlt
          have c1q : (n < K) = True := eq_true hlt
          have HLT := Aside0.mk (And.intro hlt hgn)
          clear hn hgn hlt
          go_upto_region 18 with (fail)
          clear c1b c1n c1q
          have n_ : Sep w (fun _ => False) (pt _ (arrV 17 (fun v => .bool (decide ((v : Int) ∈ (mix s l).1.take 0)))) 45 ⋆ ringA p s [] ⋆ rdo (Kd.int .i64) A9 l ⋆ emp) (World.alloc _ (.cells #[.bool false, .bool false, .bool false, .bool false, .bool false, .bool false, .bool false, .bool false, .bool false, .bool false, .bool false, .bool false, .bool false, .bool false, .bool false, .bool false, .bool false] 45)) := sep_alloc HS.out (arrV 17 (fun v => .bool (decide ((v : Int) ∈ (mix s l).1.take 0)))) 45
          replace n_ := sep_l2 (sep_l2 n_)
          have n0_ := Aside0.mk n_; clear HS n_; have HS := n0_; clear n0_
          generalize hwz : World.alloc _ (.cells #[.bool false, .bool false, .bool false, .bool false, .bool false, .bool false, .bool false, .bool false, .bool false, .bool false, .bool false, .bool false, .bool false, .bool false, .bool false, .bool false, .bool false] 45) = wz at HS ⊢
          clear hwz
          generalize World.heap _ = hz at HS ⊢
          generalize hz.size = g at HS ⊢
          clear hz
          have HML := Aside0.mk (mix_length s l)
          have HMP := Aside0.mk (mix_perm s l)
          have HST := Aside0.mk (round_step s l)
          go_loopg [13] l.length (fun gg v13 wr => ∃ i : Nat, i ≤ l.length ∧ l.length - i ≤ gg ∧ v13 = .int .i64 (i : Int) ∧ Aside0 (Sep w (fun _ => False) (ringA p (if i = 0 then s else (mix s l).2) (if i = 0 then [] else (mix s l).1.drop i) ⋆ rdo (Kd.int .i64) A9 l ⋆ pt g (arrV 17 (fun v => .bool (decide ((v : Int) ∈ (mix s l).1.take i)))) 45 ⋆ emp) wr))
          case atStart => exact ⟨0, Nat.zero_le _, by omega, rfl, HS⟩
          case round =>
            clear HS
            obtain ⟨i, hi, hgi, rfl, HS⟩ := hrel
            by_cases hlt : i < l.length
            · have c1b : decide ((i : Int) < (l.length : Int)) = true := decide_eq_true (by omega)
              have c1n : decide (i < l.length) = true := decide_eq_true hlt
              have c1q : (i < l.length) = True := eq_true hlt
              have hst := HST.out i hlt
              have hlm : i < (mix s l).1.length := by rw [HML.out]; exact hlt
              obtain ⟨j, hj16, hjb, hid⟩ := HME.out _ (HMP.out.mem_iff.1 (List.getElem_mem hlm))
              have hnew : (j : Int) + 1 ∉ (mix s l).1.take i := by
                have hnd : (mix s l).1.Nodup := HMP.out.nodup_iff.2 HND.out
                rw [← hid]
                intro hmem
                obtain ⟨q, hq, he⟩ := List.mem_take_iff_getElem.1 hmem
                have := (List.getElem_inj hnd).1 he
                omega
              have htk : (mix s l).1.take (i + 1) = (mix s l).1.take i ++ [(j : Int) + 1] := by rw [List.take_succ_eq_append_getElem hlm, hid]
              rw [hid] at hst
              have HN := Aside0.mk hst
              have HTK := Aside0.mk htk
              have HNW := Aside0.mk hnew
              have HLT := Aside0.mk (And.intro hlt (And.intro hgi hj16))
              have e1 := bit_t0 hjb
              clear hst hlm hid hnew htk hi hgi hjb hlt
              have q1 : ((j : Int) + 1 < 1) = False := eq_false (by omega)
              have q2 : ((16 : Int) < (j : Int) + 1) = False := eq_false (by omega)
              have q3 : ((0 : Int) ≤ (j : Int) + 1) = True := eq_true (by omega)
              have q4 : ((j : Int) + 1 < 17) = True := eq_true (by omega)
              have q5 : decide ((j : Int) + 1 < 1) = false := decide_eq_false (by omega)
              have q6 : decide ((16 : Int) < (j : Int) + 1) = false := decide_eq_false (by omega)
              go_upto_region 23 with (go_at_call 15; obtain ⟨ok_, hp_, hk_⟩ := sep_use2 HS.out; have hx_ := ring_NextE HN.out HC9.out (by split; exact Nat.zero_le _; rw [List.length_drop, HML.out]; have := HLB.out; omega) (by have := HLB.out; omega) hp_; (with_reducible refine Calls.mono hx_ ?_); rintro e w5 ⟨rfl, hq_⟩; have n_ := back2 hk_ hq_; have k1 := (sep_cell (sep_l2 n_) (j + 1)).trans ((arrV_get _ (by omega)).trans (congrArg (fun b => some (Value.bool b)) (decide_eq_false (show ¬ ((j + 1 : Nat) : Int) ∈ (mix s l).1.take i from HNW.out)))); have kf := sep_frozen (sep_l2 n_) (j + 1); clear hx_ hp_ hk_ hq_; have n0_ := Aside0.mk n_; clear HS n_; have HS := n0_; clear n0_)
              go_wp2
              go_roundg (l.length - (i + 1))
              case measure => have := HLT.out; omega
              case rel =>
                refine ⟨i + 1, HLT.out.1, Nat.le_refl _, congrArg (Value.int .i64) (by unfold wrap64; have := HLT.out; have := HLB.out; omega), ⟨?_⟩⟩
                rw [if_neg (Nat.succ_ne_zero i), if_neg (Nat.succ_ne_zero i)]
                refine sep_l2 (sep_l2 (sep_head (sep_set (sep_l2 HS.out) (j + 1) (.bool true)) (fun ok h => ?_)))
                rw [arrV_set] at h
                have ec : arrV 17 (fun v => if v = j + 1 then Value.bool true else .bool (decide ((v : Int) ∈ (mix s l).1.take i))) = arrV 17 (fun v => .bool (decide ((v : Int) ∈ (mix s l).1.take (i + 1)))) := arrV_congr (fun v hv => by
                  rw [HTK.out]
                  by_cases hvj : v = j + 1
                  · subst hvj
                    rw [if_pos rfl, decide_eq_true (List.mem_append_right _ (List.mem_singleton.2 (by omega)))]
                  · rw [if_neg hvj]
                    exact congrArg Value.bool (decide_eq_decide.2 ⟨fun h => List.mem_append_left _ h, fun h => (List.mem_append.1 h).resolve_right (fun h => hvj (by have := List.mem_singleton.1 h; omega))⟩))
                rw [ec] at h
                exact h
            · obtain rfl : i = l.length := by omega
              have n_ := sep_drop (sep_l2 HS.out)
              have HS' : Aside0 (Sep w (fun _ => False) (ringA p (if l.length = 0 then s else (mix s l).2) [] ⋆ rdo (Kd.int .i64) A9 l ⋆ emp) _) := ⟨sep_head n_ (fun ok h => by
                by_cases hl : l.length = 0
                · rw [if_pos hl, if_pos hl] at h
                  rw [if_pos hl]
                  exact h
                · rw [if_neg hl, if_neg hl, List.drop_of_length_le (by rw [HML.out]; exact Nat.le_refl _)] at h
                  rw [if_neg hl]
                  exact h)⟩
              clear HS n_ hi hgi hlt
              generalize (if l.length = 0 then s else (mix s l).2) = s' at HS'
              go_wp2
              go_roundg (K - (n + 1))
              case measure => have := HLT.out; omega
              case rel => exact ⟨n + 1, s', HLT.out.1, Nat.le_refl _, congrArg (Value.int .i64) (by unfold wrap64; have := HLT.out; omega), HS'⟩
        · obtain rfl : n = K := by omega
          have hx0 : nx s [] [] = (0, false, s, []) := by simp [nx]
          have HX0 := Aside0.mk hx0
          clear hx0 hn hgn hlt
          go_upto_region 25 with (go_at_call 15; obtain ⟨ok_, hp_, hk_⟩ := sep_use2 (sep_l1 (sep_nil (d := Kd.int .i64) HS.out)); have hx_ := ring_NextE (c := 0) HX0.out (Nat.le_refl _) (Nat.zero_le _) (Nat.zero_le _) hp_; refine Calls.mono hx_ ?_; rintro e w5 ⟨rfl, hq_⟩; have n_ := back2 hk_ hq_; clear hx_ hp_ hk_ hq_; have n0_ := Aside0.mk n_; clear HS n_; have HS := n0_; clear n0_)
          by_cases hl : l.length = 0
          · have f1 : (l.length == 0) = true := by simp [hl]
            have f2 : decide ((l.length : Int) = 0) = true := decide_eq_true (by omega)
            have f3 : ((l.length : Int) == 0) = true := beq_iff_eq.2 (by omega)
            go_wp2
            go_ret
            exact ⟨rfl, sep_below_of HS.out⟩
          · have f1 : (l.length == 0) = false := by simp [hl]
            have f2 : decide ((l.length : Int) = 0) = false := decide_eq_false (by omega)
            have f3 : ((l.length : Int) == 0) = false := beq_eq_false_iff_ne.2 (by omega)
            have f4 := eq_false hl
            clear hl
            go_wp2_with (go_at_call 17; obtain ⟨ok_, hp_, hk_⟩ := sep_use1 HS.out; have hx_ := ring_Left p _ [] _ ok_ (Nat.zero_le _) hp_; (with_reducible refine Calls.mono hx_ ?_); rintro e w6 ⟨v6, rfl, hq_⟩; have n_ := back2 hk_ hq_; obtain ⟨A6, c6, rfl, -, -⟩ := sep_row n_; replace n_ := sep_drop n_; clear hx_ hp_ hk_ hq_; have n0_ := Aside0.mk n_; clear HS n_; have HS := n0_; clear n0_)
            go_ret
            exact ⟨rfl, sep_below_of HS.out⟩
end Go.Proofs.Ytmoepfmgpfjppaa.LX
