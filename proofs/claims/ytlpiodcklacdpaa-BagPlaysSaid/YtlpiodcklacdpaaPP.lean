/- Both bags answer alike: plain. Conditions: those that each theorem names. -/
import Derived.Test.YtlpiodcklacdpaaXD
namespace Go.Proofs.Ytlpiodcklacdpaa.BG
set_option linter.unusedVariables false
set_option linter.unusedSimpArgs false
open Go Go.RowKit Go.Proofs.YtlpiodcklacdpaaS Go.Proofs.YtlpiodcklacdpaaS.Asn Go.Proofs.Ytlpiodcklacdpaa.PA Go.Proofs.YtlpiodcklacdpaaW.PrintWords Go.Proofs.YtlpiodcklacdpaaW.PrintLast Go.Proofs.YtlpiodcklacdpaaW.PrintMore Go.Proofs.Ytlpiodcklacdpaa.XD
/-- What is under way: no more than there is room for, and times that may be. -/
def St (room : Int) (l : List It) : Prop := (l.length : Int) ≤ room ∧ ∀ x ∈ l, itOk x
theorem rdy_all : ∀ {l : List It}, (∀ x ∈ l, itOk x) → rdy l 18446744073709551615 = l.length
  | [], _ => rfl
  | x :: l, h => by
    rw [rdy_cons, if_pos (h x List.mem_cons_self).2.1, rdy_all (fun y hy => h y (List.mem_cons_of_mem _ hy)), List.length_cons]
    omega
theorem pos_all : ∀ {l : List It} {k : Nat}, (∀ x ∈ l, itOk x) → k < l.length → pos 18446744073709551615 l k = k
  | [], k, _, hk => absurd hk (Nat.not_lt_zero _)
  | x :: l, 0, h, _ => pos0 (h x List.mem_cons_self).2.1
  | x :: l, k + 1, h, hk => by
    have hx := (h x List.mem_cons_self).2.1
    have : pos 18446744073709551615 (x :: l) (k + 1) = pos 18446744073709551615 l k + 1 := by simp [pos, hx]
    rw [this, pos_all (fun y hy => h y (List.mem_cons_of_mem _ hy)) (by simpa using hk)]
theorem find_pick {l : List It} (h : ∀ x ∈ l, itOk x) (pick : Int) : findE l 18446744073709551615 pick = pickE l pick := by
  unfold findE pickE
  rw [rdy_all h]
  by_cases h0 : pick < 0
  · rw [if_pos h0, if_pos h0]
  · rw [if_neg h0, if_neg h0]
    by_cases h1 : l.length = 0
    · rw [if_pos h1, if_pos h1]
    · rw [if_neg h1, if_neg h1, pos_all h (Nat.mod_lt _ (by omega))]
theorem drop_eq {room : Int} {l : List It} (h : St room l) (pick : Int) : dropE l pick = awayE l 18446744073709551615 pick := by
  unfold dropE awayE
  rw [find_pick h.2]
theorem twice_eq {room : Int} {l : List It} (h : St room l) (pick : Int) : rtwE room l pick = twiceE room l pick ∧ rtwL room l pick = twiceL room l pick := by
  unfold rtwE twiceE rtwL twiceL
  rw [find_pick h.2]
  exact ⟨rfl, rfl⟩
theorem delay_eq {room : Int} {l : List It} (h : St room l) (pick by_ : Int) : (pickE l pick).2 = delayE l pick ∧ rdelL l pick by_ = delayL l pick by_ := by
  unfold delayE rdelL delayL
  rw [find_pick h.2]
  exact ⟨rfl, rfl⟩
theorem St_away {room : Int} {l : List It} (h : St room l) (u pick : Int) : St room (awayE l u pick).2.2 := by
  unfold awayE
  split
  · refine ⟨?_, fun x hx => h.2 x ((List.eraseIdx_sublist l _).mem hx)⟩
    have := (List.eraseIdx_sublist l (findE l u pick).1.toNat).length_le
    have := h.1
    show (((l.eraseIdx _).length : Nat) : Int) ≤ room
    omega
  · exact h
theorem St_put {room : Int} {l : List It} {x : It} (h : St room l) (hx : itOk x) : St room (putL room l x) := by
  unfold putL
  by_cases h0 : putE room l x = 0
  · rw [if_pos h0]
    have hlt : (l.length : Int) < room := by
      unfold putE at h0
      split at h0
      · cases h0
      · split at h0
        · cases h0
        · split at h0
          · cases h0
          · omega
    refine ⟨by rw [List.length_append, List.length_singleton]; omega, fun y hy => ?_⟩
    rcases List.mem_append.1 hy with hy | hy
    · exact h.2 y hy
    · rw [List.mem_singleton.1 hy]; exact hx
  · rw [if_neg h0]
    exact h
theorem St_twice {room : Int} {l : List It} (h : St room l) (pick : Int) : St room (twiceL room l pick) := by
  unfold twiceL
  split
  · rename_i h0
    obtain ⟨k, hk, hlt⟩ := findE_lt h0
    rw [hk, Int.toNat_natCast, List.getD_eq_getElem?_getD, List.getElem?_eq_getElem hlt]
    exact St_put h (h.2 _ (List.getElem_mem hlt))
  · exact h
theorem St_delay {room : Int} {l : List It} (h : St room l) (pick by_ : Int) (hb : 0 ≤ by_) : St room (delayL l pick by_) := by
  unfold delayL
  split
  · refine ⟨by rw [List.length_modify]; exact h.1, fun x hx => ?_⟩
    obtain ⟨i, hi, rfl⟩ := List.mem_iff_getElem.1 hx
    rw [List.getElem_modify]
    have hl : i < l.length := by simpa using hi
    have hy := h.2 _ (List.getElem_mem hl)
    split
    · obtain ⟨a, b, c⟩ := hy
      refine ⟨?_, ?_, c⟩
      · show 0 ≤ BG.later _ _
        unfold BG.later latest
        omega
      · show BG.later _ _ ≤ _
        unfold BG.later latest
        omega
    · exact hy
  · exact h
theorem itOk_item {d : Dd} (h : ddOk d) : itOk d.item := by
  unfold Dd.item
  obtain ⟨_, _, hx, _⟩ := h
  split
  · refine ⟨?_, ?_, ?_⟩
    · show 0 ≤ d.x.t % 9; omega
    · show d.x.t % 9 ≤ _; omega
    · show (⟨#[109]⟩ ++ d.x.by_.extract 0 (min d.x.by_.size 9) : ByteArray).size ≤ _
      rw [ByteArray.size_append, ByteArray.size_extract]
      show 1 + _ ≤ _
      omega
  · exact hx
end Go.Proofs.Ytlpiodcklacdpaa.BG
