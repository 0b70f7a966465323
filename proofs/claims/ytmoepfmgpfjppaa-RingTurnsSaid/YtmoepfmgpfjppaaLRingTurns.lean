/- RingTurns, walked: nobody stays untold for more than 16 turns. Conditions: those that the theorem names. -/
import Derived.Test.YtmoepfmgpfjppaaLX
namespace Go.Proofs.Ytmoepfmgpfjppaa.LX
set_option linter.unusedVariables false
set_option linter.unusedSimpArgs false
open Go Go.RowKit Go.Proofs.YtmoepfmgpfjppaaS Go.Proofs.YtmoepfmgpfjppaaS.Asn Go.Proofs.Ytmoepfmgpfjppaa.PA Go.Proofs.Ytmoepfmgpfjppaa.MA Go.Proofs.Ytmoepfmgpfjppaa.RG Go.Proofs.YtmoepfmgpfjppaaW.PrintWords Go.Proofs.YtmoepfmgpfjppaaW.PrintLast Go.Proofs.YtmoepfmgpfjppaaW.PrintMore

/-! ## how long one may still wait -/
def pot (k : Int) (left : List Int) : Nat := if k ∈ left then left.idxOf k + 1 else left.length + 8
theorem pot_cons (k y : Int) (ys : List Int) (h : k ≠ y) : pot k (y :: ys) = pot k ys + 1 := by
  unfold pot
  by_cases hk : k ∈ ys
  · have hb : (y == k) = false := beq_eq_false_iff_ne.2 (Ne.symm h)
    rw [if_pos (List.mem_cons_of_mem _ hk), if_pos hk, List.idxOf_cons, hb]
    rfl
  · rw [if_neg (fun hm => hk ((List.mem_cons.1 hm).resolve_left h)), if_neg hk, List.length_cons]
theorem pot_le (k : Int) (left : List Int) (h : left.length ≤ 7) : 1 ≤ pot k left ∧ pot k left ≤ 15 := by
  unfold pot
  by_cases hk : k ∈ left
  · rw [if_pos hk]
    have := List.idxOf_lt_length_iff.2 hk
    omega
  · rw [if_neg hk]
    omega
theorem pot_step (s : Int) (l : List Int) (k : Int) (hl : l.length ≤ 8) (hk : k ∈ l) : ∀ left : List Int, k ≠ (nxt3 s left l).1 → pot k (nxt3 s left l).2.2 + 1 ≤ pot k left
  | [], hne => by
    have h1 := mix_length s l
    have hp := mix_perm s l
    rw [nxt3] at hne ⊢
    generalize (mix s l).1 = q at h1 hp hne ⊢
    cases q with
    | nil => exact absurd (hp.mem_iff.2 hk) (by simp)
    | cons x xs =>
      have hx : k ∈ xs := (List.mem_cons.1 (hp.mem_iff.2 hk)).resolve_left hne
      have h2 := List.idxOf_lt_length_iff.2 hx
      simp only [List.length_cons] at h1
      show (if k ∈ xs then xs.idxOf k + 1 else xs.length + 8) + 1 ≤ (if k ∈ ([] : List Int) then ([] : List Int).idxOf k + 1 else ([] : List Int).length + 8)
      rw [if_pos hx, if_neg (by simp)]
      simp only [List.length_nil]
      omega
  | y :: ys, hne => by
    rw [nxt3] at hne ⊢
    by_cases hy : y ∈ l
    · rw [if_pos hy] at hne ⊢
      rw [pot_cons k y ys hne]
      exact Nat.le_refl _
    · rw [if_neg hy] at hne ⊢
      have := pot_step s l k hl hk ys hne
      rw [pot_cons k y ys (fun e => hy (e ▸ hk))]
      omega
theorem nxt3_len7 (s : Int) (l : List Int) (hl : l.length ≤ 8) : ∀ left : List Int, left.length ≤ 7 → (nxt3 s left l).2.2.length ≤ 7
  | [], _ => by
    have h1 := mix_length s l
    rw [nxt3]
    show (mix s l).1.tail.length ≤ 7
    rw [List.length_tail]
    omega
  | y :: ys, h => by
    simp only [List.length_cons] at h
    rw [nxt3]
    by_cases hy : y ∈ l
    · rw [if_pos hy]
      show ys.length ≤ 7
      omega
    · rw [if_neg hy]
      exact nxt3_len7 s l hl ys (by omega)
/-- The numbers of the bits below k. -/
def bits0 (x : Nat) (k : Nat) : List Int := ((List.range k).filter (fun j => x / 2 ^ j % 2 = 1)).map (fun j : Nat => (j : Int))
theorem bits0_succ (x k : Nat) : bits0 x (k + 1) = bits0 x k ++ (if x / 2 ^ k % 2 = 1 then [(k : Int)] else []) := by
  unfold bits0
  rw [List.range_succ, List.filter_append, List.map_append]
  congr 1
  by_cases h : x / 2 ^ k % 2 = 1
  · simp [h]
  · simp [h]
theorem bits0_mem {x k : Nat} {y : Int} : y ∈ bits0 x k ↔ ∃ j, j < k ∧ x / 2 ^ j % 2 = 1 ∧ y = (j : Int) := by
  unfold bits0
  rw [List.mem_map]
  constructor
  · rintro ⟨j, hj, rfl⟩
    obtain ⟨h1, h2⟩ := List.mem_filter.1 hj
    exact ⟨j, List.mem_range.1 h1, by simpa using h2, rfl⟩
  · rintro ⟨j, h1, h2, rfl⟩
    exact ⟨j, List.mem_filter.2 ⟨List.mem_range.2 h1, by simpa using h2⟩, rfl⟩
theorem bits0_len (x k : Nat) : (bits0 x k).length ≤ k := by
  unfold bits0
  rw [List.length_map]
  exact Nat.le_trans (List.length_filter_le _ _) (by simp)
theorem bit_t {x i : Nat} (h : x / 2 ^ i % 2 = 1) : (Int.tmod ((x : Int) / 2 ^ i) 2 == 1) = true ∧ (Int.tmod ((x : Int) / 2 ^ i) 2 == 0) = false := by
  have e : (x : Int) / 2 ^ i = ((x / 2 ^ i : Nat) : Int) := by simp
  rw [e, Int.tmod_eq_emod_of_nonneg (Int.natCast_nonneg _)]
  simp only [beq_iff_eq, beq_eq_false_iff_ne]
  omega
theorem bit_f {x i : Nat} (h : ¬ x / 2 ^ i % 2 = 1) : (Int.tmod ((x : Int) / 2 ^ i) 2 == 1) = false ∧ (Int.tmod ((x : Int) / 2 ^ i) 2 == 0) = true := by
  have e : (x : Int) / 2 ^ i = ((x / 2 ^ i : Nat) : Int) := by simp
  rw [e, Int.tmod_eq_emod_of_nonneg (Int.natCast_nonneg _)]
  simp only [beq_iff_eq, beq_eq_false_iff_ne]
  omega
/-- How long each has waited, and may still: at most 16. -/
def Inv (f : Nat → Int) (left : List Int) : Prop := left.length ≤ 7 ∧ ∀ v, v < 8 → 0 ≤ f v ∧ f v + pot (v : Int) left ≤ 16
/-- Behind the first loop: who is not in the list waits no more. -/
def fz (f : Nat → Int) (x k : Nat) (v : Nat) : Int := if v < k ∧ ¬ x / 2 ^ v % 2 = 1 then 0 else f v
/-- Behind the second loop, at k. -/
def fw (f : Nat → Int) (x d k : Nat) (v : Nat) : Int := if v < k then (if v = d then 0 else if x / 2 ^ v % 2 = 1 then f v + 1 else f v) else f v
theorem inv_next {f : Nat → Int} {left : List Int} {x : Nat} {s : Int} (hI : Inv f left) (d : Nat) (hd : (nxt3 s left (bits0 x 8)).1 = (d : Int)) :
    Inv (fw (fz f x 8) x d 8) (nxt3 s left (bits0 x 8)).2.2 ∧ ∀ v, v < 8 → v ≠ d → x / 2 ^ v % 2 = 1 → fz f x 8 v + 1 ≤ 16 := by
  have h7 := nxt3_len7 s (bits0 x 8) (bits0_len x 8) left hI.1
  have hb : ∀ v, v < 8 → x / 2 ^ v % 2 = 1 → v ≠ d → f v + 1 + pot (v : Int) (nxt3 s left (bits0 x 8)).2.2 ≤ 16 := fun v hv hbit hne => by
    have h1 := pot_step s (bits0 x 8) (v : Int) (bits0_len x 8) (bits0_mem.2 ⟨v, hv, hbit, rfl⟩) left (by rw [hd]; omega)
    have h2 := (hI.2 v hv).2
    omega
  refine ⟨⟨h7, fun v hv => ?_⟩, fun v hv hne hbit => ?_⟩
  · have hp := pot_le (v : Int) _ h7
    have h0 := (hI.2 v hv).1
    unfold fw fz
    rw [if_pos hv]
    by_cases hvd : v = d
    · rw [if_pos hvd]; omega
    · rw [if_neg hvd]
      by_cases hbit : x / 2 ^ v % 2 = 1
      · rw [if_pos hbit, if_neg (fun h => h.2 hbit)]
        have := hb v hv hbit hvd
        omega
      · rw [if_neg hbit, if_pos ⟨hv, hbit⟩]
        omega
  · have := hb v hv hbit hne
    unfold fz
    rw [if_neg (fun h => h.2 hbit)]
    omega
theorem inv_none {f : Nat → Int} {left : List Int} {x : Nat} (hI : Inv f left) : Inv (fz f x 8) left := by
  refine ⟨hI.1, fun v hv => ?_⟩
  have hp := pot_le (v : Int) _ hI.1
  have h0 := hI.2 v hv
  unfold fz
  split <;> omega
theorem fz_zero (f : Nat → Int) (x v : Nat) : fz f x 0 v = f v := by unfold fz; rw [if_neg (by omega)]
theorem fz_bit {f : Nat → Int} {x k : Nat} (h : x / 2 ^ k % 2 = 1) (v : Nat) : fz f x (k + 1) v = fz f x k v := by
  unfold fz
  by_cases hv : v = k
  · subst hv
    rw [if_neg (fun h' => h'.2 h), if_neg (fun h' => h'.2 h)]
  · by_cases hc : v < k ∧ ¬ x / 2 ^ v % 2 = 1
    · rw [if_pos hc, if_pos ⟨by omega, hc.2⟩]
    · rw [if_neg hc, if_neg (fun h' => hc ⟨by omega, h'.2⟩)]
theorem fz_none {f : Nat → Int} {x k : Nat} (h : ¬ x / 2 ^ k % 2 = 1) (v : Nat) : fz f x (k + 1) v = if v = k then 0 else fz f x k v := by
  unfold fz
  by_cases hv : v = k
  · subst hv
    rw [if_pos rfl, if_pos ⟨by omega, h⟩]
  · rw [if_neg hv]
    by_cases hc : v < k ∧ ¬ x / 2 ^ v % 2 = 1
    · rw [if_pos hc, if_pos ⟨by omega, hc.2⟩]
    · rw [if_neg hc, if_neg (fun h' => hc ⟨by omega, h'.2⟩)]
theorem fw_zero (f : Nat → Int) (x d v : Nat) : fw f x d 0 v = f v := by unfold fw; rw [if_neg (by omega)]
theorem fw_at (f : Nat → Int) (x d k : Nat) : fw f x d k k = f k := by unfold fw; rw [if_neg (by omega)]
theorem fw_step (f : Nat → Int) (x d k v : Nat) : fw f x d (k + 1) v = if v = k then (if k = d then 0 else if x / 2 ^ k % 2 = 1 then f k + 1 else f k) else fw f x d k v := by
  unfold fw
  by_cases hv : v = k
  · subst hv
    rw [if_pos (by omega), if_pos rfl]
  · rw [if_neg hv]
    by_cases hc : v < k
    · rw [if_pos hc, if_pos (by omega)]
    · rw [if_neg hc, if_neg (by omega)]
set_option maxHeartbeats 4000000 in
set_option maxRecDepth 100000 in
theorem turns_walk (a0 : Int) (A1 : Option Addr) (c1 : Nat) (l1 : List Int) (w : World) (hr1 : Kd.C (Kd.int .u8) w A1 l1.length l1) (hc1 : l1.length ≤ c1) (hin : ∀ x ∈ l1, 0 ≤ x ∧ x < 256) :
    Calls Try.prog 5 #[.int .u64 a0, .slice A1 l1.length c1] w fun e w' => e = .returned (.bool true) ∧ Below w.heap.size w w' := by
  have HR1 := Aside0.mk hr1
  have HC1 := Aside0.mk hc1
  have HIN := Aside0.mk hin
  have hlen : l1.length ≤ 9223372036854775807 := hr1.2.1
  clear hr1 hc1 hin
  have HS := Aside0.mk (sep_start w)
  go_enter Try.func5, Try.ntmps5
  go_upto_region 7 with (first | (go_at_call 8; refine Calls.mono (examples_walk _) ?_; rintro e w1 ⟨rfl, hb_⟩; have n_ := sep_below HS.out hb_; clear hb_; have n0_ := Aside0.mk n_; clear HS n_; have HS := n0_; clear n0_) | (go_at_call 9; refine Calls.mono (ring_New a0 _) ?_; rintro e w2 ⟨p, rfl, hm_⟩; have n_ := sep_made_of HS.out (sep_only hm_); clear hm_; have n0_ := Aside0.mk n_; clear HS n_; have HS := n0_; clear n0_))
  go_upto_region 9 with (fail)
  have n_ : Sep w (fun _ => False) (pt _ (arrV 8 (fun v => .int .i64 0)) 47 ⋆ _) (World.alloc _ (.cells #[.int .i64 0, .int .i64 0, .int .i64 0, .int .i64 0, .int .i64 0, .int .i64 0, .int .i64 0, .int .i64 0] 47)) := sep_alloc HS.out (arrV 8 (fun v => .int .i64 0)) 47
  replace n_ := sep_l1 n_
  have n0_ := Aside0.mk n_; clear HS n_; have HS := n0_; clear n0_
  generalize hwz : World.alloc _ (.cells #[.int .i64 0, .int .i64 0, .int .i64 0, .int .i64 0, .int .i64 0, .int .i64 0, .int .i64 0, .int .i64 0] 47) = wz at HS ⊢
  clear hwz
  generalize World.heap _ = hz at HS ⊢
  generalize hz.size = g7 at HS ⊢
  clear hz
  go_loopg [8] 60 (fun gg v8 wr => ∃ (i : Nat) (f : Nat → Int) (s : Int) (left : List Int), i ≤ l1.length ∧ i ≤ 60 ∧ 60 - i ≤ gg ∧ v8 = .int .i64 (i : Int) ∧ Aside0 (Inv f left) ∧ Aside0 (Sep w (fun _ => False) (ringA p s left ⋆ pt g7 (arrV 8 (fun v => .int .i64 (f v))) 47 ⋆ emp) wr))
  case atStart => exact ⟨0, fun _ => 0, a0, [], Nat.zero_le _, by omega, by omega, rfl, ⟨⟨Nat.zero_le _, fun v hv => ⟨Int.le_refl _, by have := pot_le (v : Int) [] (Nat.zero_le _); show (0 : Int) + _ ≤ 16; omega⟩⟩⟩, HS⟩
  case round =>
    clear HS
    obtain ⟨i, f, s, left, hi1, hi60, hgg, rfl, HI, HS⟩ := hrel
    by_cases hb : i < l1.length ∧ i < 60
    · obtain ⟨hlt, h60⟩ := hb
      have c1b : decide ((i : Int) < (l1.length : Int)) = true := decide_eq_true (Int.ofNat_lt.2 hlt); have c1n : decide (i < l1.length) = true := decide_eq_true hlt; have c1q : (i < l1.length) = True := eq_true hlt; have p0_ := eq_true (Int.natCast_nonneg i)
      have c2b : decide ((i : Int) < 60) = true := decide_eq_true (by omega)
      obtain ⟨x, hx256, hxe⟩ : ∃ x : Nat, x < 256 ∧ l1[i] = (x : Int) := by
        have h := HIN.out l1[i] (List.getElem_mem hlt)
        exact ⟨l1[i].toNat, by omega, by omega⟩
      obtain ⟨ad, e_, hx⟩ := Kd.at_int HR1.out (i : Int) (Int.natCast_nonneg i) (Int.ofNat_lt.2 hlt)
      cases e_
      rw [Int.toNat_natCast, rd_get l1 i hlt, hxe] at hx
      have HXA := Aside0.mk hx
      have HX256 := Aside0.mk hx256
      have HI2 := Aside0.mk (And.intro hlt (And.intro h60 hgg))
      have hwi := i_step i (by omega)
      clear hx hxe hx256 hi1 hi60 hgg
      go_upto_region 13 with (fail)
      have HS0 : Aside0 (Sep w (fun _ => False) (row (Kd.int .i64) 3 (.slice none 0 0) (bits0 x 0) ⋆ pt g7 (arrV 8 (fun v => .int .i64 (fz f x 0 v))) 47 ⋆ ringA p s left ⋆ emp) _) := ⟨sep_row_nil (sep_head (sep_l1 HS.out) (fun ok h => by
        rw [arrV_congr (fun v _ => congrArg (Value.int .i64) (fz_zero f x v).symm)] at h
        exact h))⟩
      clear HS
      go_loopg [9, 10] 8 (fun gg v9 v10 wr => ∃ k : Nat, k ≤ 8 ∧ 8 - k ≤ gg ∧ v10 = .int .i64 (k : Int) ∧ Aside0 (Sep w (fun _ => False) (row (Kd.int .i64) 3 v9 (bits0 x k) ⋆ pt g7 (arrV 8 (fun v => .int .i64 (fz f x k v))) 47 ⋆ ringA p s left ⋆ emp) wr))
      case atStart => exact ⟨0, by omega, by omega, rfl, HS0⟩
      case round =>
        clear HS0
        obtain ⟨k, hk, hgk, rfl, HS⟩ := hrel
        have ka := ((sep_below_of HS.out).cell (World.block_lt_of_cell? w _ HXA.out)).trans HXA.out
        by_cases hlk : k < 8
        · have e8 : decide ((k : Int) < 8) = true := decide_eq_true (by omega)
          have p0 : 0 ≤ (k : Int) := Int.natCast_nonneg k
          have HLK := Aside0.mk (And.intro hlk hgk)
          clear hgk hk
          by_cases hbit : x / 2 ^ k % 2 = 1
          · have e1 := (bit_t hbit).1
            have HNX := Aside0.mk (bits0_succ x k)
            rw [if_pos hbit] at HNX
            have HFB : Aside0 (∀ v, fz f x (k + 1) v = fz f x k v) := ⟨fun v => fz_bit hbit v⟩
            have HLB := Aside0.mk (bits0_len x k)
            clear hbit
            go_wp2_with (first | ((with_reducible refine gate_builtin (b := .append) (xs := #[.tmp 43, .tmp 45]) rfl ?_); at_builtin; refine wp_append (Kd.int .i64) rfl (.tmp 43) (.tmp 45) 33 3 (.int .i64 0) 8 rfl Try.underlying33 info3 rfl (by decide) (by omega) _ (bits0 x k) (k : Int) [.int .i64 (k : Int)] (by rfl) (by rfl) rfl HS.out (by have := HLB.out; have := HLK.out; omega) ?_; intro v1_ w4 n_; rw [← HNX.out] at n_; have n0_ := Aside0.mk n_; clear HS n_; have HS := n0_; clear n0_))
            go_roundg (8 - (k + 1))
            case measure => have := HLK.out; omega
            case rel => exact ⟨k + 1, HLK.out.1, Nat.le_refl _, congrArg (Value.int .i64) (by omega), ⟨sep_l1 (sep_head (sep_l1 HS.out) (fun ok h => by
              rw [arrV_congr (fun v _ => congrArg (Value.int .i64) (HFB.out v).symm)] at h
              exact h))⟩⟩
          · have e1 := (bit_f hbit).1
            have HNX := Aside0.mk (bits0_succ x k)
            rw [if_neg hbit, List.append_nil] at HNX
            have HFB : Aside0 (∀ v, fz f x (k + 1) v = if v = k then 0 else fz f x k v) := ⟨fun v => fz_none hbit v⟩
            have km := (sep_cell (sep_l1 HS.out) k).trans (arrV_get _ hlk)
            have kf := sep_frozen (sep_l1 HS.out) k
            clear hbit
            go_wp2
            go_roundg (8 - (k + 1))
            case measure => have := HLK.out; omega
            case rel => exact ⟨k + 1, HLK.out.1, Nat.le_refl _, congrArg (Value.int .i64) (by omega), ⟨by
              rw [HNX.out]
              exact sep_l1 (sep_head (sep_set (sep_l1 HS.out) k (.int .i64 0)) (fun ok h => by
                rw [arrV_set] at h
                rw [arrV_congr (g := fun v => .int .i64 (fz f x (k + 1) v)) (fun v _ => by rw [HFB.out v]; split <;> rfl)] at h
                exact h))⟩⟩
        · obtain rfl : k = 8 := by omega
          obtain ⟨A9, c9, rfl, hc9, -⟩ := sep_row HS.out
          have HC9 := Aside0.mk hc9
          have n_ := sep_l2 (row_rdo HS.out)
          have n0_ := Aside0.mk n_; clear HS n_; have HS := n0_; clear n0_
          have HL8 := Aside0.mk (bits0_len x 8)
          have HLF : Aside0 (left.length ≤ 1000000) := ⟨Nat.le_trans HI.out.1 (by omega)⟩
          clear hk hgk hlk hc9
          by_cases hl : bits0 x 8 = []
          · have hn : nx s left (bits0 x 8) = (0, false, s, left) := by unfold nx; rw [if_pos hl]
            have hl0 : (bits0 x 8).length = 0 := by rw [hl]; rfl
            have HN := Aside0.mk hn
            have HL := Aside0.mk hl
            clear hn hl
            go_wp2_with (go_at_call 15; obtain ⟨ok_, hp_, hk_⟩ := sep_use2 HS.out; have hx_ := ring_NextE HN.out HC9.out HLF.out (by have := HL8.out; omega) hp_; rw [hl0] at hx_; (with_reducible refine Calls.mono hx_ ?_); rintro e w5 ⟨rfl, hq_⟩; have n_ := sep_drop (sep_l1 (back2 hk_ hq_)); clear hx_ hp_ hk_ hq_; have n0_ := Aside0.mk n_; clear HS n_; have HS := n0_; clear n0_)
            go_roundg (60 - (i + 1))
            case measure => have := HI2.out; omega
            case rel => exact ⟨i + 1, fz f x 8, s, left, HI2.out.1, HI2.out.2.1, Nat.le_refl _, congrArg (Value.int .i64) (by omega), ⟨inv_none HI.out⟩, HS⟩
          · obtain ⟨d, hd8, hdb, hde⟩ := bits0_mem.1 (nxt3_mem s (bits0 x 8) hl left)
            have hn : nx s left (bits0 x 8) = ((d : Int), true, (nxt3 s left (bits0 x 8)).2.1, (nxt3 s left (bits0 x 8)).2.2) := by unfold nx; rw [if_neg hl, hde]
            obtain ⟨hi1_, hi2_⟩ := inv_next HI.out d hde
            have HN := Aside0.mk hn
            have HV1 := Aside0.mk hi1_
            have HV2 := Aside0.mk hi2_
            have hp0 : 0 < (bits0 x 8).length := List.length_pos_iff.2 hl
            have y1 := eq_true hp0
            have y2 : decide (0 < (bits0 x 8).length) = true := decide_eq_true hp0
            have y3 : ((0 : Int) < ((bits0 x 8).length : Int)) = True := eq_true (by omega)
            have q3 : ((d : Int) < 0) = False := eq_false (by omega)
            have q4 : decide ((d : Int) < 0) = false := decide_eq_false (by omega)
            have q5 : ((7 : Int) < (d : Int)) = False := eq_false (by omega)
            have q6 : decide ((7 : Int) < (d : Int)) = false := decide_eq_false (by omega)
            have q7 := eq_true (Int.natCast_nonneg d)
            have e2 := (bit_t hdb).2
            have HDB := Aside0.mk hdb
            have HD8 := Aside0.mk hd8
            clear hn hi1_ hi2_ hp0 hl hdb
            generalize (nxt3 s left (bits0 x 8)).2.1 = s' at HN
            generalize (nxt3 s left (bits0 x 8)).2.2 = left' at HN HV1
            go_upto_region 25 with (go_at_call 15; obtain ⟨ok_, hp_, hk_⟩ := sep_use2 HS.out; have hx_ := ring_NextE HN.out HC9.out HLF.out (by have := HL8.out; omega) hp_; (with_reducible refine Calls.mono hx_ ?_); rintro e w5 ⟨rfl, hq_⟩; have n_ := sep_drop (sep_l1 (back2 hk_ hq_)); clear hx_ hp_ hk_ hq_ ka; have n0_ := Aside0.mk n_; clear HS n_; have HS := n0_; clear n0_; have ka := ((sep_below_of HS.out).cell (World.block_lt_of_cell? w _ HXA.out)).trans HXA.out)
            clear ka q3 q4 q5 q6 q7 e2 y1 y2 y3
            have HS1 : Aside0 (Sep w (fun _ => False) (ringA p s' left' ⋆ pt g7 (arrV 8 (fun v => .int .i64 (fw (fz f x 8) x d 0 v))) 47 ⋆ emp) _) := ⟨sep_l1 (sep_head (sep_l1 HS.out) (fun ok h => by
              rw [arrV_congr (fun v _ => congrArg (Value.int .i64) (fw_zero (fz f x 8) x d v).symm)] at h
              exact h))⟩
            clear HS
            go_loopg [13] 8 (fun gg v13 wr => ∃ k : Nat, k ≤ 8 ∧ 8 - k ≤ gg ∧ v13 = .int .i64 (k : Int) ∧ Aside0 (Sep w (fun _ => False) (ringA p s' left' ⋆ pt g7 (arrV 8 (fun v => .int .i64 (fw (fz f x 8) x d k v))) 47 ⋆ emp) wr))
            case atStart => exact ⟨0, by omega, by omega, rfl, HS1⟩
            case round =>
              clear HS1
              obtain ⟨k, hk, hgk, rfl, HS⟩ := hrel
              by_cases hlk : k < 8
              · have ka := ((sep_below_of HS.out).cell (World.block_lt_of_cell? w _ HXA.out)).trans HXA.out
                have e8 : decide ((k : Int) < 8) = true := decide_eq_true (by omega)
                have p0 : 0 ≤ (k : Int) := Int.natCast_nonneg k
                have HLK := Aside0.mk (And.intro hlk hgk)
                have km := (sep_cell (sep_l1 HS.out) k).trans (arrV_get _ hlk)
                rw [fw_at] at km
                have kf := sep_frozen (sep_l1 HS.out) k
                have v0 := ((inv_none (x := x) HI.out).2 k hlk)
                have vp := (pot_le (k : Int) left HI.out.1).1
                have HFS := Aside0.mk (fw_step (fz f x 8) x d k)
                have hv2 := HV2.out k hlk
                obtain ⟨V, hV⟩ : ∃ V, fz f x 8 k = V := ⟨_, rfl⟩
                rw [hV] at km v0 hv2 HFS
                have v1 : 0 ≤ V := v0.1
                have v2 : V ≤ 15 := by omega
                clear hgk hk v0 vp hV
                by_cases hbit : x / 2 ^ k % 2 = 1
                · have e1 := (bit_t hbit).1
                  rw [if_pos hbit] at HFS
                  by_cases hkd : k = d
                  · have g1 : ((k : Int) == (d : Int)) = true := beq_iff_eq.2 (by omega)
                    have g2 : (k == d) = true := beq_iff_eq.2 hkd
                    rw [if_pos hkd] at HFS
                    clear hbit hv2
                    have HKD := Aside0.mk hkd
                    clear hkd
                    go_wp2
                    go_roundg (8 - (k + 1))
                    case measure => have := HLK.out; omega
                    case rel => exact ⟨k + 1, HLK.out.1, Nat.le_refl _, congrArg (Value.int .i64) (by omega), ⟨sep_l1 (sep_head (sep_set (sep_set (sep_l1 HS.out) k (.int .i64 (V + 1))) k (.int .i64 0)) (fun ok h => by
                      rw [arrV_set, arrV_set] at h
                      rw [arrV_congr (g := fun v => .int .i64 (fw (fz f x 8) x d (k + 1) v)) (fun v _ => by rw [HFS.out v]; split <;> rfl)] at h
                      exact h))⟩⟩
                  · have g1 : ((k : Int) == (d : Int)) = false := beq_eq_false_iff_ne.2 (by omega)
                    have g2 : (k == d) = false := beq_eq_false_iff_ne.2 hkd
                    rw [if_neg hkd] at HFS
                    have t1 := hv2 hkd hbit
                    have t2 : ((16 : Int) < V + 1) = False := eq_false (by omega)
                    have t3 : decide ((16 : Int) < V + 1) = false := decide_eq_false (by omega)
                    clear hbit hv2 hkd t1
                    go_wp2
                    go_roundg (8 - (k + 1))
                    case measure => have := HLK.out; omega
                    case rel => exact ⟨k + 1, HLK.out.1, Nat.le_refl _, congrArg (Value.int .i64) (by omega), ⟨sep_l1 (sep_head (sep_set (sep_l1 HS.out) k (.int .i64 (V + 1))) (fun ok h => by
                      rw [arrV_set] at h
                      rw [arrV_congr (g := fun v => .int .i64 (fw (fz f x 8) x d (k + 1) v)) (fun v _ => by rw [HFS.out v]; split <;> rfl)] at h
                      exact h))⟩⟩
                · have e1 := (bit_f hbit).1
                  have hkd : k ≠ d := fun e => hbit (by rw [e]; exact HDB.out)
                  have g1 : ((k : Int) == (d : Int)) = false := beq_eq_false_iff_ne.2 (by omega)
                  have g2 : (k == d) = false := beq_eq_false_iff_ne.2 hkd
                  rw [if_neg hkd, if_neg hbit] at HFS
                  have t2 : ((16 : Int) < V) = False := eq_false (by omega)
                  have t3 : decide ((16 : Int) < V) = false := decide_eq_false (by omega)
                  have HVE : Aside0 (fw (fz f x 8) x d k k = V) := ⟨by
                    have h := km.symm.trans ((sep_cell (sep_l1 HS.out) k).trans (arrV_get _ hlk))
                    injection h with h
                    injection h with _ h
                    exact h.symm⟩
                  clear hbit hv2 hkd
                  go_wp2
                  go_roundg (8 - (k + 1))
                  case measure => have := HLK.out; omega
                  case rel => exact ⟨k + 1, HLK.out.1, Nat.le_refl _, congrArg (Value.int .i64) (by omega), ⟨sep_l1 (sep_head (sep_l1 HS.out) (fun ok h => by
                    rw [arrV_congr (g := fun v => .int .i64 (fw (fz f x 8) x d (k + 1) v)) (fun v _ => by
                      rw [HFS.out v]
                      by_cases hv : v = k
                      · rw [if_pos hv, hv, HVE.out]
                      · rw [if_neg hv])] at h
                    exact h))⟩⟩
              · obtain rfl : k = 8 := by omega
                clear hk hgk hlk
                go_wp2
                go_roundg (60 - (i + 1))
                case measure => have := HI2.out; omega
                case rel => exact ⟨i + 1, fw (fz f x 8) x d 8, s', left', HI2.out.1, HI2.out.2.1, Nat.le_refl _, congrArg (Value.int .i64) (by omega), HV1, HS⟩
    · have hc : (decide ((i : Int) < (l1.length : Int)) = false ∧ decide (i < l1.length) = false ∧ ((i : Int) < (l1.length : Int)) = False ∧ (i < l1.length) = False) ∨ ((decide ((i : Int) < (l1.length : Int)) = true ∧ decide (i < l1.length) = true ∧ ((i : Int) < (l1.length : Int)) = True ∧ (i < l1.length) = True) ∧ (decide ((i : Int) < 60) = false ∧ ((i : Int) < 60) = False ∧ (i < 60) = False)) := by
        by_cases hlt : i < l1.length
        · exact Or.inr ⟨⟨decide_eq_true (by omega), decide_eq_true hlt, eq_true (by omega), eq_true hlt⟩, ⟨decide_eq_false (by omega), eq_false (by omega), eq_false (by omega)⟩⟩
        · exact Or.inl ⟨decide_eq_false (by omega), decide_eq_false hlt, eq_false (by omega), eq_false hlt⟩
      clear hb hi1 hi60 hgg
      rcases hc with ⟨c1b, c1n, c1p, c1q⟩ | ⟨⟨c1b, c1n, c1p, c1q⟩, c2b, c2p, c2q⟩
      all_goals go_wp2
      all_goals go_ret
      all_goals exact ⟨rfl, sep_below_of HS.out⟩
end Go.Proofs.Ytmoepfmgpfjppaa.LX
