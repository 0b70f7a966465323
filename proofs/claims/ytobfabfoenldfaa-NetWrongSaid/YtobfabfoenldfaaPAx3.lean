/- Written by xprint.py, a program of this session: Go functions that the laws reach, each as a plain Lean function, and the proof that the Go code comes to what it says. No condition but those that each theorem names. -/
import Derived.Test.YtobfabfoenldfaaPAx0
import Derived.Test.YtobfabfoenldfaaPAx2
import Derived.WalkSpells
import Derived.WalkLawsBesides
import Derived.Laws.IdiomStrings
import Derived.Laws.BytesArg
import Derived.Test.YtobfabfoenldfaaXAux
namespace Go.Proofs.Ytobfabfoenldfaa.PA
open Go.RowKit Go.Proofs.YtobfabfoenldfaaW.PrintWords Go.Proofs.YtobfabfoenldfaaW.PrintLast Go.Proofs.YtobfabfoenldfaaW.PrintMore
attribute [local go_sem] max2_int min2_int max_two min_two max_three min_three max_four min_four   -- for this text's walks alone
set_option linter.unusedVariables false
set_option linter.unusedSimpArgs false

/-! ### rule_Passes: function 66 -/

def ipIs (ip : Int) (x : S28) : Bool := decide (x.f0 = ip)
theorem passes_1 (ip : Int) (B : Nat) (x : S28) (W : World) (hB : B < W.heap.size) (hc : W.cell? ⟨B, 0, none⟩ = some (.int .u32 ip)) :
    Calls Try.prog 71 #[.agg #[.int .u32 x.f0, .int .u16 x.f1], .pointer (some ⟨B, 0, none⟩)] W fun e w' => e = .returned (.bool (ipIs ip x)) ∧ Below W.heap.size W w' := by
  have hne : B ≠ W.heap.size := by omega
  go_enter Try.func71, Try.ntmps71
  go_wp2
  all_goals (go_ret; exact ⟨by simp only [ipIs]; cases h_ : (x.f0 == ip) <;> simp_all, (Below.refl _ W).alloc (Nat.le_refl _) _⟩)
set_option maxHeartbeats 4000000 in
theorem passes_idx (ip : Int) (B : Nat) (A : Option Addr) (c : Nat) (l : List S28) (w : World) (hB : B < w.heap.size) (hcell : w.cell? ⟨B, 0, none⟩ = some (.int .u32 ip)) (hr : Kd.C k28 w A l.length l) :
    Calls Try.prog 72 #[.slice A l.length c, .func (.func 71) #[] #[.pointer (some ⟨B, 0, none⟩)]] w fun e w' => ∃ r : Int, e = .returned (.int .i64 r) ∧ decide (r ≥ 0) = l.any (ipIs ip) ∧ Below w.heap.size w w' := by
  have hlen : l.length ≤ 9223372036854775807 := hr.2.1
  have hu := Try.underlying28
  have HR := Aside0.mk hr
  clear hr
  have HC := Aside0.mk hcell
  clear hcell
  go_enter Try.func72, Try.ntmps72
  go_wp2
  go_loopg [5, 8] l.length (fun gg _ s8 wr => ∃ kk : Nat, kk ≤ l.length ∧ l.length - kk ≤ gg ∧ s8 = .int .i64 kk ∧ Aside0 (Below w.heap.size w wr) ∧ Aside0 ((l.take kk).any (ipIs ip) = false))
  case atStart => exact ⟨0, Nat.zero_le _, by omega, rfl, ⟨Below.refl _ w⟩, ⟨by simp⟩⟩
  case round =>
    obtain ⟨kk, hkk, hg, rfl, BW, HA⟩ := hrel
    by_cases hlt : kk < l.length
    · have hltz : (kk : Int) < (l.length : Int) := by omega
      have hgez : 0 ≤ (kk : Int) := by omega
      obtain ⟨ad, rfl, hx0, hx1⟩ := at_T28 HR.out (kk : Int) hgez hltz
      rw [Int.toNat_natCast] at hx0 hx1
      replace hx0 := (BW.out.cell (World.block_lt_of_cell? w _ hx0)).trans hx0
      replace hx1 := (BW.out.cell (World.block_lt_of_cell? w _ hx1)).trans hx1
      have hcall := passes_1 ip B (rd_T28 l (kk : Int)) wr (Nat.lt_of_lt_of_le hB BW.out.size) ((BW.out.cell (p := ⟨B, 0, none⟩) hB).trans HC.out)
      have hel : l[kk]? = some (rd_T28 l (kk : Int)) := by
        unfold rd_T28
        rw [List.getD_eq_getElem?_getD, show (kk : Int).toNat = kk by omega, List.getElem?_eq_getElem hlt]
        rfl
      have HL := Aside0.mk hel
      clear hel
      generalize rd_T28 l (kk : Int) = y at hx0 hx1 hcall HL
      cases hq : ipIs ip y with
      | true =>
        rw [hq] at hcall
        go_wp2_with (go_at_call 71; refine hcall.mono ?_; rintro e w' ⟨rfl, hb'⟩)
        go_ret
        refine ⟨_, rfl, ?_, BW.out.trans (hb'.mono BW.out.size)⟩
        rw [show l.any (ipIs ip) = true from List.any_eq_true.2 ⟨y, List.mem_of_getElem? HL.out, hq⟩]
        exact decide_eq_true (by omega)
      | false =>
        rw [hq] at hcall
        go_wp2_with (go_at_call 71; refine hcall.mono ?_; rintro e w' ⟨rfl, hb'⟩)
        go_roundg (l.length - (kk + 1))
        case measure => omega
        case rel =>
          refine ⟨kk + 1, by omega, by omega, by go_num, ⟨BW.out.trans (hb'.mono BW.out.size)⟩, ⟨?_⟩⟩
          rw [List.take_add_one, HL.out, List.any_append, HA.out]
          simp [hq]
    · have hltz : ¬ (kk : Int) < (l.length : Int) := by omega
      have : kk = l.length := by omega
      subst this
      go_wp2
      go_ret
      refine ⟨-1, rfl, ?_, BW.out⟩
      have h := HA.out
      rw [List.take_length] at h
      rw [h]
      rfl
theorem passes_has (ip : Int) (B : Nat) (A : Option Addr) (c : Nat) (l : List S28) (z : Bool) (w : World) (hz : l.any (ipIs ip) = z) (hB : B < w.heap.size) (hcell : w.cell? ⟨B, 0, none⟩ = some (.int .u32 ip)) (hr : Kd.C k28 w A l.length l) :
    Calls Try.prog 70 #[.slice A l.length c, .func (.func 71) #[] #[.pointer (some ⟨B, 0, none⟩)]] w fun e w' => e = .returned (.bool z) ∧ Below w.heap.size w w' := by
  have hcall := passes_idx ip B A c l w hB hcell hr
  clear hcell hr
  go_enter Try.func70, Try.ntmps70
  go_wp2_with (go_at_call 72; refine hcall.mono ?_; rintro e w' ⟨r, rfl, hd, hb'⟩)
  go_ret
  rw [hz] at hd
  exact ⟨by rw [← hd]; rfl, hb'⟩
def rule_Passes.f (k : Nat) (a0_0 : Int) (a0_1 : Int) (l1 : List S28) (a2_0 : Int) (a2_1 : Int) : Option Bool := if a0_1 = 0 then some true else if a0_1 = 1 then some (l1.any (ipIs a2_0)) else if a0_1 = 2 then addr_Addr_44.f k l1 a2_0 a2_1 else some false
theorem rule_Passes.mono : ∀ a0 a1 a2 a3 a4 k, LeO (rule_Passes.f k a0 a1 a2 a3 a4) (rule_Passes.f (k + 1) a0 a1 a2 a3 a4) := by
  intro a0 a1 a2 a3 a4 k
  unfold rule_Passes.f
  refine LeO.ite (LeO.refl _) (LeO.ite (LeO.refl _) (LeO.ite (addr_Addr_44.mono _ _ _ _) (LeO.refl _)))
set_option maxHeartbeats 8000000 in
set_option maxRecDepth 100000 in
theorem rule_Passes.calls (k : Nat) (a0_0 : Int) (a0_1 : Int) (A1 : Option Addr) (c1 : Nat) (l1 : List (S28)) (a2_0 : Int) (a2_1 : Int) (r : Bool) (w : World) (hr1 : Kd.C k28 w A1 l1.length l1) (hc1 : l1.length ≤ c1) (h : rule_Passes.f k a0_0 a0_1 l1 a2_0 a2_1 = some r) :
    Calls Try.prog 66 #[.agg #[.int .i64 a0_0, .int .i64 a0_1], .slice A1 l1.length c1, .agg #[.int .u32 a2_0, .int .u16 a2_1]] w fun e w' => e = .returned (.bool r) ∧ Below w.heap.size w w' := by
  unfold rule_Passes.f at h
  by_cases h0 : a0_1 = 0
  · rw [if_pos h0] at h
    obtain rfl := Option.some.inj h
    subst h0
    clear h
    go_enter Try.func66, Try.ntmps66
    go_wp2
    go_ret
    exact ⟨rfl, by repeat (first | exact Below.refl _ _ | apply below_alloc | apply below_drew1 | apply pw_below_drewN | refine below_set ?_ (Nat.le_refl _))⟩
  · rw [if_neg h0] at h
    by_cases h1 : a0_1 = 1
    · rw [if_pos h1] at h
      obtain rfl := Option.some.inj h
      subst h1
      clear h h0
      generalize hz : l1.any (ipIs a2_0) = z
      go_enter Try.func66, Try.ntmps66
      go_wp2_with (go_at_call 70; refine Calls.mono (passes_has a2_0 _ A1 c1 l1 z _ hz ?hB ?hC ?hR) ?_; (case hR => ((with_reducible repeat (first | refine Kd.C_alloc ?_ _ | refine Kd.C_drew ?_)); exact hr1)); (case hB => (simp)); (case hC => (simp)); rintro e w1 ⟨rfl, hb⟩)
      go_ret
      exact ⟨rfl, below_step (by repeat (first | exact Below.refl _ _ | apply below_alloc | apply below_drew1 | apply pw_below_drewN | refine below_set ?_ (Nat.le_refl _))) hb⟩
    · rw [if_neg h1] at h
      by_cases h2 : a0_1 = 2
      · rw [if_pos h2] at h
        subst h2
        clear h0 h1
        go_enter Try.func66, Try.ntmps66
        go_wp2_with (go_at_call 44; refine Calls.mono (addr_Addr_44.calls k A1 c1 l1 a2_0 a2_1 _ _ ?hR hc1 h) ?_; (case hR => ((with_reducible repeat (first | refine Kd.C_alloc ?_ _ | refine Kd.C_drew ?_)); exact hr1)); rintro e w1 ⟨rfl, hb⟩)
        go_ret
        exact ⟨rfl, below_step (by repeat (first | exact Below.refl _ _ | apply below_alloc | apply below_drew1 | apply pw_below_drewN | refine below_set ?_ (Nat.le_refl _))) hb⟩
      · rw [if_neg h2] at h
        obtain rfl := Option.some.inj h
        clear h
        go_enter Try.func66, Try.ntmps66
        go_wp2
        go_ret
        exact ⟨rfl, by repeat (first | exact Below.refl _ _ | apply below_alloc | apply below_drew1 | apply pw_below_drewN | refine below_set ?_ (Nat.le_refl _))⟩


-- NOT PRINTED: function 48 (natbox_Box_In)

-- NOT PRINTED: function 32 (net_Net_arrive)

-- NOT PRINTED: function 12 (net_Net_Deliver)

-- NOT PRINTED: function 33 (natbox_Box_Rebind)

-- NOT PRINTED: function 13 (net_Net_Rebind)

-- NOT PRINTED: function 19 (net_Net_Bag)

-- NOT PRINTED: function 9 (scuttlebuttlaw20_examples)

-- NOT PRINTED: function 3 (scuttlebuttlaw20_NetBack)

-- NOT PRINTED: function 14 (scuttlebuttlaw20_Plan_plan)

-- NOT PRINTED: function 4 (scuttlebuttlaw20_NetWrong)

-- NOT PRINTED: function 5 (scuttlebuttlaw20_NetAnew)

-- NOT PRINTED: function 34 (bag_Bag_Drop)

-- NOT PRINTED: function 17 (net_Net_Drop)

-- NOT PRINTED: function 6 (scuttlebuttlaw20_NetArrives)

-- NOT PRINTED: function 20 (bag_Bag_Len)

-- NOT PRINTED: function 7 (scuttlebuttlaw20_NetFull)

-- NOT PRINTED: function 36 (bag_Bag_Delay)

-- NOT PRINTED: function 21 (net_Net_Delay)

-- NOT PRINTED: function 37 (bag_Bag_Twice)

-- NOT PRINTED: function 22 (net_Net_Twice)

-- NOT PRINTED: function 8 (scuttlebuttlaw20_NetDelays)

end Go.Proofs.Ytobfabfoenldfaa.PA
