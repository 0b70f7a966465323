/- DrawSome: for every seed, length up to 20 and number of picks the law answers true: some of a list are as many as are asked for, each from another place; the list stays. No condition. -/
import Derived.Test.YtbkileohjcijpaaMA
namespace Go.Proofs.Ytbkileohjcijpaa.Pure
open Go Go.RowKit Go.Proofs.Ytbkileohjcijpaa.PA Go.Proofs.Ytbkileohjcijpaa.MA Go.Proofs.YtbkileohjcijpaaW.PrintWords Go.Proofs.YtbkileohjcijpaaW.PrintLast Go.Proofs.YtbkileohjcijpaaW.PrintMore

/-- 100, 101, .. -/
def hund (m : Nat) : List Int := (List.range m).map fun (i : Nat) => 100 + (i : Int)
theorem hund_length (m : Nat) : (hund m).length = m := by simp [hund]
theorem hund_succ (m : Nat) : hund (m + 1) = hund m ++ [100 + (m : Int)] := by simp [hund, List.range_succ]
theorem hund_mem {m : Nat} {x : Int} : x ∈ hund m ↔ 100 ≤ x ∧ x < 100 + (m : Int) := by
  simp only [hund, List.mem_map, List.mem_range]
  constructor
  · rintro ⟨i, hi, rfl⟩
    omega
  · rintro ⟨h1, h2⟩
    exact ⟨(x - 100).toNat, by omega, by omega⟩
theorem hund_nodup (m : Nat) : (hund m).Nodup := by
  induction m with
  | zero => simp [hund]
  | succ m ih =>
    rw [hund_succ, List.nodup_append]
    refine ⟨ih, by simp, ?_⟩
    intro a ha b hb
    rw [List.mem_singleton.1 hb]
    have := hund_mem.1 ha
    omega
theorem hund_rd (m : Nat) (i : Nat) (hi : i < m) : rd (hund m) (i : Int) = 100 + (i : Int) := by
  simp [rd, hund, hi]

theorem l2_ok (m : Int) (M : Nat) (out all : List Int) (s : Int) (hM : M ≤ 20) (h1 : (out.length : Int) = mx (mn (wrap64 m) (M : Int)) 0) (h2 : all.length = M) :
    ∀ (d k i : Nat), M - i = d → i ≤ M → d < k → scuttlebuttlaw01_DrawSome.l2 k m (hund M) out all (i : Int) s s = some true := by
  intro d
  induction d with
  | zero =>
    intro k i hd hi hk
    obtain ⟨k, rfl⟩ : ∃ m, k = m + 1 := ⟨k - 1, by omega⟩
    simp only [scuttlebuttlaw01_DrawSome.l2]
    rw [if_neg (by rw [hund_length]; omega), hund_length, if_pos h1, if_pos trivial, h2]
    simp
  | succ d ih =>
    intro k i hd hi hk
    obtain ⟨k, rfl⟩ : ∃ m, k = m + 1 := ⟨k - 1, by omega⟩
    simp only [scuttlebuttlaw01_DrawSome.l2]
    rw [if_pos (by rw [hund_length]; omega), if_pos (by omega), if_pos (by rw [hund_rd _ _ (by omega), wrap64_id (by omega) (by omega)]), wrap64_id (by omega) (by omega), show ((i : Int) + 1) = ((i + 1 : Nat) : Int) by omega]
    exact ih k (i + 1) (by omega) (by omega) (by omega)

theorem l1_ok (m : Int) (M : Nat) (out all : List Int) (s : Int) (hM : M ≤ 20) (hin : ∀ x ∈ out, 100 ≤ x ∧ x < 100 + (M : Int)) (hnd : out.Nodup)
    (h1 : (out.length : Int) = mx (mn (wrap64 m) (M : Int)) 0) (h2 : all.length = M) (ho : out.length ≤ 20) :
    ∀ (d k i : Nat) (met : List Bool), out.length - i = d → i ≤ out.length → met.length = 21 → (∀ j, j < 21 → met.getD j false = true → 100 + (j : Int) ∈ out.take i) → d + 22 < k →
    scuttlebuttlaw01_DrawSome.l1 k m (hund M) out all met (i : Int) s s = some true := by
  intro d
  induction d with
  | zero =>
    intro k i met hd hi hml hmet hk
    obtain ⟨k, rfl⟩ : ∃ m, k = m + 1 := ⟨k - 1, by omega⟩
    simp only [scuttlebuttlaw01_DrawSome.l1]
    rw [if_neg (by omega)]
    exact l2_ok m M out all s hM h1 h2 M k 0 (by omega) (by omega) (by omega)
  | succ d ih =>
    intro k i met hd hi hml hmet hk
    obtain ⟨k, rfl⟩ : ∃ m, k = m + 1 := ⟨k - 1, by omega⟩
    have hlt : i < out.length := by omega
    have e : rd out (i : Int) = out[i] := by simp [rd, List.getD, hlt]
    have hr := hin out[i] (List.getElem_mem hlt)
    have hnot : ¬ out[i] ∈ out.take i := by
      intro h
      obtain ⟨j, hj, he⟩ := List.mem_iff_getElem.1 h
      rw [List.getElem_take] at he
      rw [List.length_take] at hj
      exact (List.pairwise_iff_getElem.1 hnd) j i (by omega) hlt (by omega) he
    simp only [scuttlebuttlaw01_DrawSome.l1]
    rw [e, hund_length]
    obtain ⟨n, hn⟩ : ∃ n : Nat, out[i] = 100 + (n : Int) := ⟨(out[i] - 100).toNat, by omega⟩
    have ew : wrap64 (out[i] - 100) = (n : Int) := by rw [wrap64_id (by omega) (by omega)]; omega
    rw [ew, if_pos (by omega), if_pos (by omega), if_neg (by omega), if_neg (by omega), if_pos (by omega), if_pos (by omega), Int.toNat_natCast, wrap64_id (by omega) (by omega), show ((i : Int) + 1) = ((i + 1 : Nat) : Int) by omega]
    rw [if_neg]
    · refine ih k (i + 1) _ (by omega) (by omega) (by rw [List.length_set]; exact hml) ?_ (by omega)
      intro j hj hmj
      rw [List.take_succ_eq_append_getElem hlt, List.mem_append]
      by_cases hjn : j = n
      · right
        rw [hjn, hn]
        simp
      · left
        refine hmet j hj ?_
        rw [List.getD_eq_getElem?_getD, List.getElem?_set_ne (by omega)] at hmj
        rw [List.getD_eq_getElem?_getD]
        exact hmj
    · intro hm
      unfold rdOf at hm
      rw [Int.toNat_natCast] at hm
      have := hmet n (by omega) hm
      rw [← hn] at this
      exact hnot this

theorem l0_ok (a n m : Int) (M : Nat) (hM : M ≤ 20) (hn : wrap64 (Int.tmod n 21) = (M : Int)) :
    ∀ (d k i : Nat), M - i = d → i ≤ M → d + 100 < k → scuttlebuttlaw01_DrawSome.l0 k a n m (hund i) (i : Int) = some true := by
  intro d
  induction d with
  | zero =>
    intro k i hd hi hk
    obtain ⟨k, rfl⟩ : ∃ m, k = m + 1 := ⟨k - 1, by omega⟩
    obtain rfl : i = M := by omega
    simp only [scuttlebuttlaw01_DrawSome.l0]
    rw [hn, if_neg (by omega)]
    unfold draw_New.f
    rw [Option.bind_some, some_eq _ _ _ _ (by rw [hund_length]; omega) (by rw [hund_length]; omega), Option.bind_some, Option.bind_some, mix_some _ _ _ (by rw [hund_length]; omega) (by rw [hund_length]; omega), Option.bind_some, if_pos (by decide)]
    have hp := mix_perm a (hund i)
    have hl := mix_length a (hund i)
    rw [hund_length] at hl
    have hs1 : (som a (hund i) (wrap64 m)).1 = (mix a (hund i)).1.take (cutAt (wrap64 m) i) := by unfold som; rw [hund_length]
    have hs2 : (som a (hund i) (wrap64 m)).2 = (mix a (hund i)).2 := rfl
    rw [hs1, hs2]
    generalize mix a (hund i) = X at *
    have hc := cut_rng (wrap64 m) i
    have hlen : (X.1.take (cutAt (wrap64 m) i)).length = cutAt (wrap64 m) i := by
      rw [List.length_take, hl]
      unfold cutAt
      omega
    refine l1_ok m i _ _ _ hM ?_ ?_ ?_ hl (by rw [hlen]; unfold cutAt; omega) (X.1.take (cutAt (wrap64 m) i)).length k 0 _ (by omega) (by omega) (by simp) ?_ (by rw [hlen]; unfold cutAt; omega)
    · intro x hx
      exact hund_mem.1 (hp.mem_iff.1 (List.mem_of_mem_take hx))
    · exact (List.take_sublist _ _).nodup (hp.nodup_iff.2 (hund_nodup i))
    · rw [hlen]
      unfold cutAt
      omega
    · intro j hj hm
      have hz : (List.replicate 21 false).getD j false = false := by rw [List.getD_eq_getElem?_getD, List.getElem?_replicate]; split <;> rfl
      rw [hz] at hm
      cases hm
  | succ d ih =>
    intro k i hd hi hk
    obtain ⟨k, rfl⟩ : ∃ m, k = m + 1 := ⟨k - 1, by omega⟩
    simp only [scuttlebuttlaw01_DrawSome.l0]
    rw [hn, if_pos (by omega), if_pos (by rw [hund_length]; omega), wrap64_id (by omega) (by omega), wrap64_id (by omega) (by omega), ← hund_succ, show ((i : Int) + 1) = ((i + 1 : Nat) : Int) by omega]
    exact ih k (i + 1) (by omega) (by omega) (by omega)

theorem DrawSome : scuttlebuttlaw01_DrawSome.Pure := by
  intro a n m ha hn hm
  have rn := wf_u8 hn
  have e : wrap64 (Int.tmod n 21) = ((n % 21).toNat : Int) := by rw [Int.tmod_eq_emod_of_nonneg rn.1, wrap64_id (by omega) (by omega)]; omega
  refine ⟨200, ?_⟩
  unfold scuttlebuttlaw01_DrawSome.f
  rw [examples_true 200 (by omega), Option.bind_some, if_pos rfl]
  exact l0_ok a n m (n % 21).toNat (by omega) e _ 200 0 rfl (by omega) (by omega)

end Go.Proofs.Ytbkileohjcijpaa.Pure
