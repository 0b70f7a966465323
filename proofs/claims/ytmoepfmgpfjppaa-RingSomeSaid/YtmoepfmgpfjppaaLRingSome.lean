/- RingSome, walked. Conditions: those that the theorem names. -/
import Derived.Test.YtmoepfmgpfjppaaLX
import Derived.Deep.RegionHeld3
namespace Go.Proofs.Ytmoepfmgpfjppaa.LX
set_option linter.unusedVariables false
set_option linter.unusedSimpArgs false
open Go Go.RowKit Go.Proofs.YtmoepfmgpfjppaaS Go.Proofs.YtmoepfmgpfjppaaS.Asn Go.Proofs.Ytmoepfmgpfjppaa.PA Go.Proofs.Ytmoepfmgpfjppaa.MA Go.Proofs.Ytmoepfmgpfjppaa.RG Go.Proofs.YtmoepfmgpfjppaaW.PrintWords Go.Proofs.YtmoepfmgpfjppaaW.PrintLast Go.Proofs.YtmoepfmgpfjppaaW.PrintMore
attribute [local go_sem] max2_int max_two min2_int min_two
theorem facts3 {w0 w : World} {ok0 : Nat → Prop} {F : Asn} {g : Nat} {t : TypeId} {a b c : Value} (h : Sep w0 ok0 (pt g #[a, b, c] t ⋆ F) w) :
    w.cell? ⟨g, 0, none⟩ = some a ∧ w.cell? ⟨g, 1, none⟩ = some b ∧ w.cell? ⟨g, 2, none⟩ = some c :=
  ⟨sep_cell h 0, sep_cell h 1, sep_cell h 2⟩
theorem same_call {a : List Int} {A B : Option Addr} {c d : Nat} {w : World} (h : Kd.C (Kd.int .i64) w A a.length a) (hc : a.length ≤ c) (h' : Kd.C (Kd.int .i64) w B a.length a) (hd : a.length ≤ d) (hl : a.length ≤ 1000000) :
    Calls Try.prog 11 #[.slice A a.length c, .slice B a.length d] w fun e w' => e = .returned (.bool true) ∧ Drawn0 w w' :=
  scuttlebuttlaw13_same.calls (a.length + 2) A c a B d a true w h hc h' hd (same_self _ a (by omega) (by omega))
/-- How often numbers stand in a list. -/
def tal (l : List Int) (v : Nat) : Int := (l.count (v : Int) : Nat)
theorem lst_rng {l : List Int} (h : ∀ x ∈ l, 0 ≤ x ∧ x < 256) : ∀ x ∈ lst l, ∃ d : Nat, d < 10 ∧ x = (d : Int) := by
  intro x hx
  unfold lst at hx
  obtain ⟨y, hy, rfl⟩ := List.mem_map.1 hx
  have hr := h y (List.mem_of_mem_take hy)
  refine ⟨(y % 10).toNat, by omega, ?_⟩
  rw [Int.tmod_eq_emod_of_nonneg hr.1, wrap64_id (by omega) (by omega)]
  omega
theorem som_count {s : Int} {l : List Int} {k : Int} {m : List Int} {s' : Int} (h : som s l k = (m, s')) (v : Int) : m.count v ≤ l.count v := by
  have h1 : m = (mix s l).1.take (cutAt k l.length) := by
    unfold som at h
    exact (congrArg Prod.fst h).symm
  rw [h1, ← (mix_perm s l).count_eq v]
  exact (List.take_sublist _ _).count_le v
theorem tal_step (l : List Int) (d : Nat) (v : Nat) : tal (l ++ [(d : Int)]) v = if v = d then tal l d + 1 else tal l v := by
  unfold tal
  rw [List.count_append, List.count_singleton]
  by_cases h : v = d
  · subst h
    simp
  · rw [if_neg h]
    have : ((d : Int) == (v : Int)) = false := by simp; omega
    simp [this]
theorem tal_le (l : List Int) (d : Nat) : 0 ≤ tal l d ∧ tal l d ≤ l.length := by
  unfold tal
  have := List.count_le_length (a := (d : Int)) (l := l)
  omega
set_option maxHeartbeats 4000000 in
set_option maxRecDepth 100000 in
theorem some_walk (a0 : Int) (A1 : Option Addr) (c1 : Nat) (l1 : List Int) (kn : Nat) (w : World) (hr1 : Kd.C (Kd.int .u8) w A1 l1.length l1) (hc1 : l1.length ≤ c1) (hkn : kn < 256) (hin : ∀ x ∈ l1, 0 ≤ x ∧ x < 256) :
    Calls Try.prog 6 #[.int .u64 a0, .slice A1 l1.length c1, .int .u8 (kn : Int)] w fun e w' => e = .returned (.bool true) ∧ Below w.heap.size w w' := by
  have HR1 := Aside0.mk hr1
  have HC1 := Aside0.mk hc1
  have hk : wrap64 (Int.tmod (kn : Int) 15) = ((kn % 15 : Nat) : Int) := by rw [Int.tmod_eq_emod_of_nonneg (Int.natCast_nonneg _), wrap64_id (by omega) (by omega)]; omega
  have hk' : Int.tmod (kn : Int) 15 = ((kn % 15 : Nat) : Int) := by rw [Int.tmod_eq_emod_of_nonneg (Int.natCast_nonneg _)]; omega
  have hk15 : kn % 15 < 15 := Nat.mod_lt _ (by decide)
  generalize hkk : kn % 15 = kk at hk hk' hk15
  obtain ⟨i1, b1, s1, L1, hn1⟩ : ∃ i b s L, nx a0 [] (lst l1) = (i, b, s, L) := ⟨_, _, _, _, rfl⟩
  obtain ⟨m, s2, hmm⟩ : ∃ m s, som s1 (lst l1) (kk : Int) = (m, s) := ⟨_, _, rfl⟩
  have HN1 := Aside0.mk hn1
  have HM := Aside0.mk hmm
  clear hr1 hc1 hn1 hmm hkn hkk
  have HX := Aside0.mk (lst_length l1)
  have HL0 : Aside0 (([] : List Int).length ≤ 1000000) := ⟨Nat.zero_le _⟩
  have HL1 : Aside0 (L1.length ≤ 1000000) := ⟨by have h1 := nx_len HN1.out; have := HX.out; simp only [List.length_nil] at h1; omega⟩
  have HS := Aside0.mk (sep_start w)
  go_enter Try.func6, Try.ntmps6
  go_upto_region 5 with (first | (go_at_call 8; refine Calls.mono (examples_walk _) ?_; rintro e w1 ⟨rfl, hb_⟩; have n_ := sep_below HS.out hb_; clear hb_; have n0_ := Aside0.mk n_; clear HS n_; have HS := n0_; clear n0_))
  have n_ := sep_alloc HS.out #[.bool false, .slice A1 l1.length c1, .int .i64 (kk : Int)] 31
  have n0_ := Aside0.mk n_; clear HS n_; have HS := n0_; clear n0_
  generalize w1.alloc (.cells #[.bool false, .slice A1 l1.length c1, .int .i64 (kk : Int)] 31) = w2 at HS ⊢
  generalize w1.heap.size = g8 at HS ⊢
  go_upto_region 6 with (go_at_call 9; refine Calls.mono (ring_New a0 _) ?_; rintro e w3 ⟨p, rfl, hm_⟩; have n_ := sep_made_of HS.out (sep_only hm_); clear hm_; have n0_ := Aside0.mk n_; clear HS n_; have HS := n0_; clear n0_)
  go_upto_region 9 with (go_at_call 9; refine Calls.mono (ring_New a0 _) ?_; rintro e w4 ⟨q, rfl, hm_⟩; have n_ := sep_made_of HS.out (sep_only hm_); clear hm_; have n0_ := Aside0.mk n_; clear HS n_; have HS := n0_; clear n0_)
  obtain ⟨k1, k2, k3⟩ := facts3 (sep_l2 HS.out)
  go_upto_region 10 with (first | (go_at_call 13; have hx_ := list_call (a := false) (n := (kk : Int)) (Kd.C_below HR1.out (sep_below_of HS.out)) HC1.out; (with_reducible refine Calls.mono hx_ ?_); rintro e w3 ⟨v3_, rfl, hq_⟩; have n_ := sep_made_of HS.out (sep_only hq_); clear hx_ hq_; obtain ⟨v, cv, rfl, hcv, -⟩ := sep_row n_; have HCv := Aside0.mk hcv; clear hcv; replace n_ := sep_l2 (row_rdo n_); have n0_ := Aside0.mk n_; clear HS n_; have HS := n0_; clear n0_; clear k1 k2 k3; obtain ⟨k1, k2, k3⟩ := facts3 (sep_l3 HS.out)) | (go_at_call 15; obtain ⟨ok_, hp_, hk_⟩ := sep_use2 HS.out; have hx_ := ring_NextE HN1.out HCv.out HL0.out (by have := HX.out; omega) hp_; (with_reducible refine Calls.mono hx_ ?_); rintro e w5 ⟨rfl, hq_⟩; have n_ := sep_drop (sep_l1 (back2 hk_ hq_)); clear hx_ hp_ hk_ hq_ HCv; replace n_ := n_; have n0_ := Aside0.mk n_; clear HS n_; have HS := n0_; clear n0_; clear k1 k2 k3; obtain ⟨k1, k2, k3⟩ := facts3 (sep_l2 HS.out)))
  go_upto_region 11 with (first | (go_at_call 13; have hx_ := list_call (a := false) (n := (kk : Int)) (Kd.C_below HR1.out (sep_below_of HS.out)) HC1.out; (with_reducible refine Calls.mono hx_ ?_); rintro e w3 ⟨v3_, rfl, hq_⟩; have n_ := sep_made_of HS.out (sep_only hq_); clear hx_ hq_; obtain ⟨v, cv, rfl, hcv, -⟩ := sep_row n_; have HCv := Aside0.mk hcv; clear hcv; replace n_ := sep_l2 (row_rdo n_); have n0_ := Aside0.mk n_; clear HS n_; have HS := n0_; clear n0_; clear k1 k2 k3; obtain ⟨k1, k2, k3⟩ := facts3 (sep_l3 HS.out)) | (go_at_call 15; obtain ⟨ok_, hp_, hk_⟩ := sep_use2 HS.out; have hx_ := ring_NextE HN1.out HCv.out HL0.out (by have := HX.out; omega) hp_; (with_reducible refine Calls.mono hx_ ?_); rintro e w5 ⟨rfl, hq_⟩; have n_ := sep_drop (sep_l1 (back2 hk_ hq_)); clear hx_ hp_ hk_ hq_ HCv; replace n_ := n_; have n0_ := Aside0.mk n_; clear HS n_; have HS := n0_; clear n0_; clear k1 k2 k3; obtain ⟨k1, k2, k3⟩ := facts3 (sep_l2 HS.out)))
  go_upto_region 12 with (go_at_call 17; obtain ⟨ok_, hp_, hk_⟩ := sep_use1 (sep_l1 HS.out); have hx_ := ring_Left p _ L1 _ ok_ HL1.out hp_; (with_reducible refine Calls.mono hx_ ?_); rintro e w6 ⟨v6, rfl, hq_⟩; have n_ := back2 hk_ hq_; obtain ⟨A11, c11, rfl, hc11, -⟩ := sep_row n_; have HC11 := Aside0.mk hc11; clear hc11; replace n_ := row_rdo n_; clear hx_ hp_ hk_ hq_; have n0_ := Aside0.mk n_; clear HS n_; have HS := n0_; clear n0_; clear k1 k2 k3; obtain ⟨k1, k2, k3⟩ := facts3 (sep_l3 HS.out))
  replace HS := Aside0.mk (sep_drew HS.out)
  (first | go_region_held3 (fun w' => w'.cell? ⟨g8, 0, none⟩ = some (.bool false) ∧ w'.cell? ⟨g8, 1, none⟩ = some (.slice A1 l1.length c1) ∧ w'.cell? ⟨g8, 2, none⟩ = some (.int .i64 (kk : Int))) (exact ⟨k1, k2, k3⟩) (first | (go_at_call 13; have hx_ := list_call (a := false) (n := (kk : Int)) (Kd.C_below HR1.out (sep_below_of HS.out)) HC1.out; (with_reducible refine Calls.mono hx_ ?_); rintro e w3 ⟨v3_, rfl, hq_⟩; have n_ := sep_made_of HS.out (sep_only hq_); clear hx_ hq_; obtain ⟨v, cv, rfl, hcv, -⟩ := sep_row n_; have HCv := Aside0.mk hcv; clear hcv; replace n_ := sep_l2 (row_rdo n_); have n0_ := Aside0.mk n_; clear HS n_; have HS := n0_; clear n0_; clear k1 k2 k3; obtain ⟨k1, k2, k3⟩ := facts3 (sep_l4 HS.out)) | (go_at_call 12; obtain ⟨ok_, hp_, hk_⟩ := sep_use2 HS.out; have hx_ := ring_SomeE HM.out HCv.out (by have := HX.out; omega) hp_; (with_reducible refine Calls.mono hx_ ?_); rintro e w6 ⟨v6, rfl, hq_⟩; have n_ := sep_drop (sep_l2 (back3 hk_ hq_)); clear hx_ hp_ hk_ hq_ HCv; obtain ⟨A12, cA12, rfl, hcA12, -⟩ := sep_row n_; have HCA12 := Aside0.mk hcA12; clear hcA12; replace n_ := row_rdo n_; have n0_ := Aside0.mk n_; clear HS n_; have HS := n0_; clear n0_; clear k1 k2 k3; obtain ⟨k1, k2, k3⟩ := facts3 (sep_l4 HS.out))) | fail)
  go_upto_region 13 with (fail)
  replace HS := Aside0.mk (sep_drew HS.out)
  (first | go_region_held3 (fun w' => w'.cell? ⟨g8, 0, none⟩ = some (.bool false) ∧ w'.cell? ⟨g8, 1, none⟩ = some (.slice A1 l1.length c1) ∧ w'.cell? ⟨g8, 2, none⟩ = some (.int .i64 (kk : Int))) (exact ⟨k1, k2, k3⟩) (first | (go_at_call 13; have hx_ := list_call (a := false) (n := (kk : Int)) (Kd.C_below HR1.out (sep_below_of HS.out)) HC1.out; (with_reducible refine Calls.mono hx_ ?_); rintro e w3 ⟨v3_, rfl, hq_⟩; have n_ := sep_made_of HS.out (sep_only hq_); clear hx_ hq_; obtain ⟨v, cv, rfl, hcv, -⟩ := sep_row n_; have HCv := Aside0.mk hcv; clear hcv; replace n_ := sep_l4 (row_rdo n_); have n0_ := Aside0.mk n_; clear HS n_; have HS := n0_; clear n0_; clear k1 k2 k3; obtain ⟨k1, k2, k3⟩ := facts3 (sep_l5 HS.out)) | (go_at_call 12; obtain ⟨ok_, hp_, hk_⟩ := sep_use2 HS.out; have hx_ := ring_SomeE HM.out HCv.out (by have := HX.out; omega) hp_; (with_reducible refine Calls.mono hx_ ?_); rintro e w6 ⟨v6, rfl, hq_⟩; have n_ := sep_drop (sep_l2 (back3 hk_ hq_)); clear hx_ hp_ hk_ hq_ HCv; obtain ⟨A13, cA13, rfl, hcA13, -⟩ := sep_row n_; have HCA13 := Aside0.mk hcA13; clear hcA13; replace n_ := row_rdo n_; have n0_ := Aside0.mk n_; clear HS n_; have HS := n0_; clear n0_; clear k1 k2 k3; obtain ⟨k1, k2, k3⟩ := facts3 (sep_l5 HS.out))) | fail)
  have HML : Aside0 (m.length ≤ 12) := ⟨by
    have h1 : (som s1 (lst l1) (kk : Int)).1 = m := by rw [HM.out]
    rw [← h1]
    unfold som
    have := HX.out
    have := mix_length s1 (lst l1)
    simp only [List.length_take]
    omega⟩
  go_upto_region 15 with (go_at_call 11; have hx_ := same_call (sep_rdo (sep_l2 HS.out)) HCA12.out (sep_rdo HS.out) HCA13.out (by have := HML.out; omega); (with_reducible refine Calls.mono hx_ ?_); rintro e w7 ⟨rfl, hd_⟩; have n_ := sep_drop (sep_drawn HS.out hd_); clear hx_ hd_; have n0_ := Aside0.mk n_; clear HS n_; have HS := n0_; clear n0_; clear k1 k2 k3; obtain ⟨k1, k2, k3⟩ := facts3 (sep_l4 HS.out))
  go_upto_region 16 with (first | (go_at_call 17; obtain ⟨ok_, hp_, hk_⟩ := sep_use1 (sep_l2 HS.out); have hx_ := ring_Left p _ L1 _ ok_ HL1.out hp_; (with_reducible refine Calls.mono hx_ ?_); rintro e w8 ⟨v8, rfl, hq_⟩; have n_ := back2 hk_ hq_; obtain ⟨A15, c15, rfl, hc15, -⟩ := sep_row n_; have HC15 := Aside0.mk hc15; clear hc15; replace n_ := row_rdo n_; clear hx_ hp_ hk_ hq_; have n0_ := Aside0.mk n_; clear HS n_; have HS := n0_; clear n0_; clear k1 k2 k3; obtain ⟨k1, k2, k3⟩ := facts3 (sep_l5 HS.out)) | (go_at_call 11; have hx_ := same_call (sep_rdo (sep_l4 HS.out)) HC11.out (sep_rdo HS.out) HC15.out HL1.out; (with_reducible refine Calls.mono hx_ ?_); rintro e w9 ⟨rfl, hd_⟩; have n_ := sep_drop (sep_l3 (sep_drop (sep_drawn HS.out hd_))); clear hx_ hd_; have n0_ := Aside0.mk n_; clear HS n_; have HS := n0_; clear n0_; clear k1 k2 k3; obtain ⟨k1, k2, k3⟩ := facts3 (sep_l3 HS.out)))
  go_upto_region 17 with (fail)
  have n_ : Sep w (fun _ => False) (pt _ (arrV 10 (fun v => .int .i64 (tal ((lst l1).take 0) v))) 49 ⋆ _) (World.alloc _ (.cells #[.int .i64 0, .int .i64 0, .int .i64 0, .int .i64 0, .int .i64 0, .int .i64 0, .int .i64 0, .int .i64 0, .int .i64 0, .int .i64 0] 49)) := sep_alloc HS.out (arrV 10 (fun v => .int .i64 (tal ((lst l1).take 0) v))) 49
  have n0_ := Aside0.mk n_; clear HS n_; have HS := n0_; clear n0_
  generalize hwz : World.alloc _ (.cells #[.int .i64 0, .int .i64 0, .int .i64 0, .int .i64 0, .int .i64 0, .int .i64 0, .int .i64 0, .int .i64 0, .int .i64 0, .int .i64 0] 49) = wz at HS ⊢
  clear hwz
  generalize World.heap _ = hz at HS ⊢
  generalize hz.size = g16 at HS ⊢
  clear hz
  clear k1 k2 k3; obtain ⟨k1, k2, k3⟩ := facts3 (sep_l4 HS.out)
  go_upto_region 19 with (go_at_call 13; have hx_ := list_call (a := false) (n := (kk : Int)) (Kd.C_below HR1.out (sep_below_of HS.out)) HC1.out; (with_reducible refine Calls.mono hx_ ?_); rintro e w3 ⟨v3_, rfl, hq_⟩; have n_ := sep_made_of HS.out (sep_only hq_); clear hx_ hq_; obtain ⟨A17, cA17, rfl, hcA17, -⟩ := sep_row n_; have HCA17 := Aside0.mk hcA17; clear hcA17; replace n_ := row_rdo n_; have n0_ := Aside0.mk n_; clear HS n_; have HS := n0_; clear n0_; clear k1 k2 k3; obtain ⟨k1, k2, k3⟩ := facts3 (sep_l5 HS.out))
  have HXE : Aside0 (∀ x ∈ lst l1, ∃ d : Nat, d < 10 ∧ x = (d : Int)) := ⟨lst_rng hin⟩
  have HMP : Aside0 (∀ v, m.count v ≤ (lst l1).count v) := ⟨som_count HM.out⟩
  have HMX : Aside0 (∀ x ∈ m, x ∈ lst l1) := ⟨fun x hx => by
    have h1 := HMP.out x
    have h2 := List.count_pos_iff.2 hx
    exact List.count_pos_iff.1 (by omega)⟩
  clear hin
  generalize lst l1 = X at *
  have HML2 : Aside0 ((m.length : Int) = mn (kk : Int) (X.length : Int)) := ⟨by
    have h1 : m = (mix s1 X).1.take (cutAt (kk : Int) X.length) := by
      have h := HM.out
      unfold som at h
      exact (congrArg Prod.fst h).symm
    have h2 := mix_length s1 X
    rw [h1, List.length_take]
    unfold cutAt mx mn
    split <;> split <;> omega⟩
  clear k1 k2 k3
  go_loopg [18] X.length (fun gg v18 wr => ∃ i : Nat, i ≤ X.length ∧ X.length - i ≤ gg ∧ v18 = .int .i64 (i : Int) ∧ Aside0 (Sep w (fun _ => False) (rdo (Kd.int .i64) A17 X ⋆ pt g16 (arrV 10 (fun v => .int .i64 (tal (X.take i) v))) 49 ⋆ ringA p s2 L1 ⋆ ringA q s2 L1 ⋆ rdo (Kd.int .i64) A12 m ⋆ pt g8 #[.bool false, .slice A1 l1.length c1, .int .i64 (kk : Int)] 31 ⋆ emp) wr))
  case atStart => exact ⟨0, Nat.zero_le _, by omega, rfl, HS⟩
  case round =>
    clear HS
    obtain ⟨i, hi, hgi, rfl, HS⟩ := hrel
    by_cases hlt : i < X.length
    · have c1b : decide ((i : Int) < (X.length : Int)) = true := decide_eq_true (Int.ofNat_lt.2 hlt); have c1n : decide (i < X.length) = true := decide_eq_true hlt; have c1q : (i < X.length) = True := eq_true hlt; have p0_ := eq_true (Int.natCast_nonneg i)
      obtain ⟨ad, rfl, ka⟩ := Kd.at_int (sep_rdo HS.out) (i : Int) (Int.natCast_nonneg i) (Int.ofNat_lt.2 hlt)
      rw [Int.toNat_natCast, rd_get X i hlt] at ka
      obtain ⟨d, hd10, hxd⟩ := HXE.out _ (List.getElem_mem hlt)
      have htk : X.take (i + 1) = X.take i ++ [(d : Int)] := by rw [List.take_succ_eq_append_getElem hlt, hxd]
      rw [hxd] at ka
      have HTK := Aside0.mk htk
      have HLT := Aside0.mk (And.intro hlt (And.intro hgi hd10))
      have km := (sep_cell (sep_l1 HS.out) d).trans (arrV_get _ hd10)
      have kf := sep_frozen (sep_l1 HS.out) d
      have ht := tal_le (X.take i) d
      rw [List.length_take] at ht
      have hb := HX.out
      clear htk hxd hi hgi hlt
      have q1 : ((d : Int) < 10) = True := eq_true (by omega)
      have q2 := eq_true (Int.natCast_nonneg d)
      obtain ⟨T, hT⟩ : ∃ T, tal (X.take i) d = T := ⟨_, rfl⟩
      rw [hT] at km ht
      have HT := Aside0.mk hT
      clear hT
      have t0 : 0 ≤ T := ht.1
      have t1 : T ≤ 12 := by omega
      clear ht hb
      go_wp2
      go_roundg (X.length - (i + 1))
      case measure => have := HLT.out; omega
      case rel =>
        refine ⟨i + 1, HLT.out.1, Nat.le_refl _, congrArg (Value.int .i64) (by unfold wrap64; have := HLT.out; have := HX.out; omega), ⟨?_⟩⟩
        refine sep_l1 (sep_head (sep_set (sep_l1 HS.out) d (.int .i64 (T + 1))) (fun ok h => ?_))
        rw [arrV_set] at h
        have ec : arrV 10 (fun v => if v = d then Value.int .i64 (T + 1) else .int .i64 (tal (X.take i) v)) = arrV 10 (fun v => .int .i64 (tal (X.take (i + 1)) v)) := arrV_congr (fun v hv => by
          rw [HTK.out, tal_step, HT.out]
          split <;> rfl)
        rw [ec] at h
        exact h
    · obtain rfl : i = X.length := by omega
      rw [List.take_length] at HS
      clear hi hgi hlt
      go_upto_region 23 with (fail)
      go_loopg [19] m.length (fun gg v19 wr => ∃ i : Nat, i ≤ m.length ∧ m.length - i ≤ gg ∧ v19 = .int .i64 (i : Int) ∧ Aside0 (Sep w (fun _ => False) (pt g16 (arrV 10 (fun v => .int .i64 (tal X v - tal (m.take i) v))) 49 ⋆ rdo (Kd.int .i64) A12 m ⋆ ringA p s2 L1 ⋆ ringA q s2 L1 ⋆ pt g8 #[.bool false, .slice A1 l1.length c1, .int .i64 (kk : Int)] 31 ⋆ emp) wr))
      case atStart =>
        refine ⟨0, Nat.zero_le _, by omega, rfl, ⟨sep_head (sep_l1 (sep_l3 (sep_drop HS.out))) (fun ok h => ?_)⟩⟩
        have ec : arrV 10 (fun v => Value.int .i64 (tal X v)) = arrV 10 (fun v => .int .i64 (tal X v - tal (m.take 0) v)) := arrV_congr (fun v hv => by
          have e0 : tal (m.take 0) v = 0 := rfl
          rw [e0, Int.sub_zero])
        rw [ec] at h
        exact h
      case round =>
        clear HS
        obtain ⟨i, hi, hgi, rfl, HS⟩ := hrel
        by_cases hlt : i < m.length
        · have c1b : decide ((i : Int) < (m.length : Int)) = true := decide_eq_true (Int.ofNat_lt.2 hlt); have c1n : decide (i < m.length) = true := decide_eq_true hlt; have c1q : (i < m.length) = True := eq_true hlt; have p0_ := eq_true (Int.natCast_nonneg i)
          obtain ⟨ad, rfl, ka⟩ := Kd.at_int (sep_rdo (sep_l1 HS.out)) (i : Int) (Int.natCast_nonneg i) (Int.ofNat_lt.2 hlt)
          rw [Int.toNat_natCast, rd_get m i hlt] at ka
          obtain ⟨d, hd10, hxd⟩ := HXE.out _ (HMX.out _ (List.getElem_mem hlt))
          have HRD : Aside0 (rd m (i : Int) = (d : Int)) := ⟨by rw [rd_get m i hlt, hxd]⟩
          have htk : m.take (i + 1) = m.take i ++ [(d : Int)] := by rw [List.take_succ_eq_append_getElem hlt, hxd]
          rw [hxd] at ka
          have hcnt : tal (m.take i) d + 1 ≤ tal X d := by
            have h1 := HMP.out (d : Int)
            have h2 := (List.take_sublist (i + 1) m).count_le (d : Int)
            rw [htk, List.count_append, List.count_singleton] at h2
            simp only [beq_self_eq_true, if_true] at h2
            unfold tal
            omega
          have HTK := Aside0.mk htk
          have HLT := Aside0.mk (And.intro hlt (And.intro hgi hd10))
          have km := (sep_cell HS.out d).trans (arrV_get _ hd10)
          have kf := sep_frozen HS.out d
          have ht := tal_le X d
          have ht2 := tal_le (m.take i) d
          have hb := HX.out
          clear htk hxd hi hgi hlt
          have q1 : ((d : Int) < 10) = True := eq_true (by omega)
          have q2 := eq_true (Int.natCast_nonneg d)
          have q3 : ((d : Int) < 0) = False := eq_false (by omega)
          have q4 : decide ((d : Int) < 0) = false := decide_eq_false (by omega)
          have q5 : ((9 : Int) < (d : Int)) = False := eq_false (by omega)
          have q6 : decide ((9 : Int) < (d : Int)) = false := decide_eq_false (by omega)
          obtain ⟨T, hT⟩ : ∃ T, tal X d - tal (m.take i) d = T := ⟨_, rfl⟩
          rw [hT] at km
          have t0 : 1 ≤ T := by omega
          have t1 : T ≤ 12 := by omega
          have HT := Aside0.mk hT
          clear hT ht ht2 hb hcnt hd10
          have t2 : (T - 1 < 0) = False := eq_false (by omega)
          have t3 : decide (T - 1 < 0) = false := decide_eq_false (by omega)
          have t4 : (T < 1) = False := eq_false (by omega)
          have t5 : decide (T < 1) = false := decide_eq_false (by omega)
          go_upto_region 28 with (fail)
          have n_ := sep_set HS.out d (.int .i64 (T - 1))
          rw [arrV_set] at n_
          have n0_ := Aside0.mk n_; clear HS n_; have HS := n0_; clear n0_
          clear ka km kf
          generalize World.setCell _ ⟨g16, d, none⟩ (.int .i64 (T - 1)) = wz at HS ⊢
          obtain ⟨ad', e_, ka⟩ := Kd.at_int (sep_rdo (sep_l1 HS.out)) (i : Int) (Int.natCast_nonneg i) (Int.ofNat_lt.2 HLT.out.1)
          cases e_
          rw [Int.toNat_natCast, HRD.out] at ka
          have km := (sep_cell HS.out d).trans ((arrV_get _ HLT.out.2.2).trans (congrArg some (if_pos rfl)))
          go_wp2
          go_roundg (m.length - (i + 1))
          case measure => have := HLT.out; omega
          case rel =>
            refine ⟨i + 1, HLT.out.1, Nat.le_refl _, congrArg (Value.int .i64) (by unfold wrap64; have := HLT.out; have := HML.out; omega), ⟨?_⟩⟩
            refine sep_head HS.out (fun ok h => ?_)
            have ec : arrV 10 (fun v => if v = d then Value.int .i64 (T - 1) else .int .i64 (tal X v - tal (m.take i) v)) = arrV 10 (fun v => .int .i64 (tal X v - tal (m.take (i + 1)) v)) := arrV_congr (fun v hv => by
              rw [HTK.out, tal_step]
              by_cases hv : v = d
              · subst hv
                rw [if_pos rfl, if_pos rfl]
                exact congrArg (Value.int .i64) (by have := HT.out; omega)
              · rw [if_neg hv, if_neg hv])
            rw [ec] at h
            exact h
        · obtain rfl : i = m.length := by omega
          obtain ⟨k1, k2, k3⟩ := facts3 (sep_l4 HS.out)
          have n_ := sep_drop (sep_drop HS.out)
          have n0_ := Aside0.mk n_; clear HS n_; have HS := n0_; clear n0_
          clear hi hgi hlt
          have hml := HML2.out
          unfold mn at hml
          by_cases hk : (X.length : Int) < (kk : Int)
          · rw [if_pos hk] at hml
            have f1 : (m.length == X.length) = true := beq_iff_eq.2 (by omega)
            have f2 : ((m.length : Int) == (X.length : Int)) = true := beq_iff_eq.2 hml
            have f3 := eq_true hk
            have f4 : (X.length < kk) = True := eq_true (by omega)
            clear hk hml
            go_wp2_with (first | (go_at_call 18; obtain ⟨ok_, hp_, hk_⟩ := sep_use1 HS.out; have hx_ := ring_State p _ L1 _ ok_ hp_; (with_reducible refine Calls.mono hx_ ?_); rintro e w8 ⟨rfl, hq_⟩; have n_ := back1 hk_ hq_; clear hx_ hp_ hk_ hq_; have n0_ := Aside0.mk n_; clear HS n_; have HS := n0_; clear n0_) | (go_at_call 18; obtain ⟨ok_, hp_, hk_⟩ := sep_use1 (sep_l1 HS.out); have hx_ := ring_State q _ L1 _ ok_ hp_; (with_reducible refine Calls.mono hx_ ?_); rintro e w8 ⟨rfl, hq_⟩; have n_ := sep_l1 (back1 hk_ hq_); clear hx_ hp_ hk_ hq_; have n0_ := Aside0.mk n_; clear HS n_; have HS := n0_; clear n0_))
            go_ret
            exact ⟨rfl, sep_below_of HS.out⟩
          · rw [if_neg hk] at hml
            have f1 : (m.length == kk) = true := beq_iff_eq.2 (by omega)
            have f2 : ((m.length : Int) == (kk : Int)) = true := beq_iff_eq.2 hml
            have f3 := eq_false hk
            have f4 : (X.length < kk) = False := eq_false (by omega)
            clear hk hml
            go_wp2_with (first | (go_at_call 18; obtain ⟨ok_, hp_, hk_⟩ := sep_use1 HS.out; have hx_ := ring_State p _ L1 _ ok_ hp_; (with_reducible refine Calls.mono hx_ ?_); rintro e w8 ⟨rfl, hq_⟩; have n_ := back1 hk_ hq_; clear hx_ hp_ hk_ hq_; have n0_ := Aside0.mk n_; clear HS n_; have HS := n0_; clear n0_) | (go_at_call 18; obtain ⟨ok_, hp_, hk_⟩ := sep_use1 (sep_l1 HS.out); have hx_ := ring_State q _ L1 _ ok_ hp_; (with_reducible refine Calls.mono hx_ ?_); rintro e w8 ⟨rfl, hq_⟩; have n_ := sep_l1 (back1 hk_ hq_); clear hx_ hp_ hk_ hq_; have n0_ := Aside0.mk n_; clear HS n_; have HS := n0_; clear n0_))
            go_ret
            exact ⟨rfl, sep_below_of HS.out⟩
end Go.Proofs.Ytmoepfmgpfjppaa.LX
