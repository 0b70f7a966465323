/- Plain laws of a net with one box: who is answered. Conditions: those that each theorem names. -/
import Derived.Test.YtobfabfoenldfaaNX
namespace Go.Proofs.Ytobfabfoenldfaa.NW
set_option linter.unusedVariables false
set_option linter.unusedSimpArgs false
open Go Go.RowKit Go.Proofs.YtobfabfoenldfaaS Go.Proofs.YtobfabfoenldfaaS.Asn Go.Proofs.Ytobfabfoenldfaa.PA Go.Proofs.YtobfabfoenldfaaW.PrintWords Go.Proofs.YtobfabfoenldfaaW.PrintLast Go.Proofs.YtobfabfoenldfaaW.PrintMore
open Go.Proofs.Ytobfabfoenldfaa.BG
def nh : List Hs := [⟨1, 7, 0⟩, ⟨10, 7, 1⟩]
def L1 (m : Int) : List Bd := [bd1 ⟨10, 7⟩ (keyS m ⟨1, 7⟩) [⟨1, 7⟩] 50]
def L2 (m : Int) (s : S28) : List Bd := if m = 0 then [bd1 ⟨10, 7⟩ ⟨0, 0⟩ [⟨1, 7⟩, s] 51] else [bd1 ⟨10, 7⟩ (keyS m ⟨1, 7⟩) [⟨1, 7⟩] 50, ⟨10, 7, (keyS m s).f0, (keyS m s).f1, 20001, [s], 51⟩]
theorem ar_first (q : Nat) (m f : Int) (hm : m = 0 ∨ m = 1 ∨ m = 2) : OutIs q ⟨m, f, 9, 50, 8, []⟩ ⟨m, f, 9, 50, 8, L1 m⟩ 0 ⟨10, 7⟩ ⟨1, 7⟩ ⟨9, 20000⟩ :=
  out_first q m f 9 50 8 0 ⟨10, 7⟩ ⟨1, 7⟩ rfl rfl (by decide) (by decide) hm (by decide)
theorem ar_out (q : Nat) (m f : Int) (s : S28) (hm : m = 0 ∨ m = 1 ∨ m = 2) (h1 : s.f0 ≠ 1) (hs : noneB s.f0 s.f1 = false) : OutIs q ⟨m, f, 9, 50, 8, L1 m⟩ ⟨m, f, 9, 50, 8, L2 m s⟩ 1 ⟨10, 7⟩ s ⟨9, if m = 0 then 20000 else 20001⟩ := by
  intro W ok_ h
  have hlive : ∀ y ∈ L1 m, 1 < y.un := fun y hy => by obtain rfl := List.mem_singleton.1 hy; show (1 : Int) < 50; decide
  have hb1 : ∀ (a b : Int), hit s.f0 s.f1 ⟨1, 7⟩ = false := fun _ _ => by unfold hit; rw [beq_eq_false_iff_ne.2 h1]; rfl
  by_cases h0 : m = 0
  · subst h0
    have := Out_walk q ⟨0, f, 9, 50, 8, L1 0⟩ 1 ⟨10, 7⟩ s (bd1 ⟨10, 7⟩ ⟨0, 0⟩ [⟨1, 7⟩] 50) W ok_ rfl hs (by decide) (show (0 : Int) ≤ 50 ∧ (50 : Int) ≤ 1000000 by decide) hm hlive ⟨Nat.le_of_ble_eq_true rfl, fun hc => absurd hc (fun e => by cases e)⟩ rfl (Nat.le_of_ble_eq_true rfl) h
    have e : outL ⟨0, f, 9, 50, 8, L1 0⟩ 1 ⟨10, 7⟩ s (bd1 ⟨10, 7⟩ ⟨0, 0⟩ [⟨1, 7⟩] 50) = L2 0 s := by
      have em : metS [⟨1, 7⟩] s = [⟨1, 7⟩, s] := by
        unfold metS
        rw [if_neg]
        · rfl
        · simp only [List.any_cons, List.any_nil, Bool.or_false]
          rw [show hit s.f0 s.f1 ⟨1, 7⟩ = false by unfold hit; rw [beq_eq_false_iff_ne.2 h1]; rfl]
          exact Bool.false_ne_true
      show [({ (bd1 ⟨10, 7⟩ ⟨0, 0⟩ [⟨1, 7⟩] 50) with met := metS [⟨1, 7⟩] s, un := 1 + 50 } : Bd)] = _
      rw [em]
      rfl
    rw [e] at this
    exact this
  · have hk : bindX ⟨10, 7⟩ (keyS m s) (bd1 ⟨10, 7⟩ (keyS m ⟨1, 7⟩) [⟨1, 7⟩] 50) = false := by
      unfold bindX bd1
      have : ((keyS m ⟨1, 7⟩).f0 == (keyS m s).f0) = false := by
        rw [beq_eq_false_iff_ne]
        rcases hm with rfl | rfl | rfl
        · exact absurd rfl h0
        · exact fun e => h1 e.symm
        · exact fun e => h1 e.symm
      rw [this]
      rfl
    have ha : (L1 m).any (bindX ⟨10, 7⟩ (keyS m s)) = false := by
      unfold L1
      simp only [List.any_cons, List.any_nil, Bool.or_false]
      exact hk
    have hbl : bindL (L1 m) ⟨10, 7⟩ (keyS m s) = L1 m ++ [newB ⟨10, 7⟩ (keyS m s) 1] := by unfold bindL; rw [ha]; rfl
    have hbi : bindI (L1 m) ⟨10, 7⟩ (keyS m s) = 1 := by unfold bindI; rw [ha]; rfl
    have := Out_walk q ⟨m, f, 9, 50, 8, L1 m⟩ 1 ⟨10, 7⟩ s (newB ⟨10, 7⟩ (keyS m s) 1) W ok_ rfl hs (by decide) (show (0 : Int) ≤ 50 ∧ (50 : Int) ≤ 1000000 by decide) hm hlive ⟨Nat.le_of_ble_eq_true rfl, fun _ => ⟨.inr ⟨_, rfl, rfl⟩, by show ((1 : Nat) : Int) < 8; decide⟩⟩ (by
      show (bindL (L1 m) ⟨10, 7⟩ (keyS m s))[bindI (L1 m) ⟨10, 7⟩ (keyS m s)]? = _
      rw [hbl, hbi]; rfl) (Nat.le_of_ble_eq_true rfl) h
    have e : outL ⟨m, f, 9, 50, 8, L1 m⟩ 1 ⟨10, 7⟩ s (newB ⟨10, 7⟩ (keyS m s) 1) = L2 m s := by
      unfold outL
      show (bindL (L1 m) ⟨10, 7⟩ (keyS m s)).set (bindI (L1 m) ⟨10, 7⟩ (keyS m s)) _ = _
      rw [hbl, hbi]
      unfold L2
      rw [if_neg h0]
      rfl
    rw [e] at this
    rw [if_neg h0]
    exact this
/-- What the first binding's port brings in. -/
theorem ar_arr (p pb q : Nat) (m f now : Int) (x : Bd) (T : List Bd) (b : Bool) (s : S28) (by_ : ByteArray) (t : Int) (hs : noneB s.f0 s.f1 = false) (hn : 0 ≤ now ∧ now ≤ 1000000) (hT : T.length ≤ 1) (hlive : ∀ y ∈ x :: T, now < y.un) (hx : x.po = 20000 ∧ x.ii = 10 ∧ x.ip = 7) (hmet : x.met.length ≤ 10) (hb : passB f x.met s = b) :
    ∃ L, ArrIs p pb nh [q] (boxA q ⟨m, f, 9, 50, 8, x :: T⟩) (boxA q ⟨m, f, 9, 50, 8, L⟩) now ⟨s.f0, s.f1, 9, 20000, by_, t⟩ (if b = true then 2 else 0) := by
  have hi := in_at q m f 9 50 8 now (x :: T) 0 x b s hs hn (by decide) (by simpa using hT) hlive (by unfold idx; rw [if_pos (by simp [portX])]; simp [portX, List.findIdx_cons]) rfl hmet hb
  rw [hx.1] at hi
  cases b with
  | true =>
    refine ⟨inL true ⟨m, f, 9, 50, 8, x :: T⟩ now (x :: T) 0 x, ?_⟩
    have h2 := arr_in p pb q nh ⟨m, f, 9, 50, 8, x :: T⟩ ⟨m, f, 9, 50, 8, inL true ⟨m, f, 9, 50, 8, x :: T⟩ now (x :: T) 0 x⟩ now ⟨s.f0, s.f1, 9, 20000, by_, t⟩ ⟨10, 7⟩ 0 rfl (Nat.le_of_ble_eq_true rfl) rfl (by
      have : inA true x = ⟨10, 7⟩ := by unfold inA; rw [if_pos rfl, hx.2.1, hx.2.2]
      rw [← this]
      exact hi) (.inl rfl)
    rw [if_pos rfl, show idx (hostH ⟨10, 7, 1⟩) nh + 1 = 2 by decide +kernel] at h2
    exact h2
  | false =>
    refine ⟨inL false ⟨m, f, 9, 50, 8, x :: T⟩ now (x :: T) 0 x, ?_⟩
    have h2 := arr_in p pb q nh ⟨m, f, 9, 50, 8, x :: T⟩ ⟨m, f, 9, 50, 8, inL false ⟨m, f, 9, 50, 8, x :: T⟩ now (x :: T) 0 x⟩ now ⟨s.f0, s.f1, 9, 20000, by_, t⟩ ⟨0, 0⟩ 5 rfl (Nat.le_of_ble_eq_true rfl) rfl hi (.inr rfl)
    rw [if_neg (by decide)] at h2
    exact h2
def gets (m f : Int) (asked : Bool) : Bool := f == 0 || (asked && m == 0)
theorem ar_c (p pb q : Nat) (m f : Int) (s : S28) (asked : Bool) (by_ : ByteArray) (t : Int) (hf : f = 0 ∨ f = 1 ∨ f = 2) (h1 : s.f0 ≠ 1) (hs : noneB s.f0 s.f1 = false) :
    ∃ L, ArrIs p pb nh [q] (boxA q ⟨m, f, 9, 50, 8, if asked = true then L2 m s else L1 m⟩) (boxA q ⟨m, f, 9, 50, 8, L⟩) 2 ⟨s.f0, s.f1, 9, 20000, by_, t⟩ (if gets m f asked = true then 2 else 0) := by
  have n1 : ipIs s.f0 ⟨1, 7⟩ = false := by unfold ipIs; exact decide_eq_false (fun e => h1 e.symm)
  have n2 : hit s.f0 s.f1 ⟨1, 7⟩ = false := by unfold hit; rw [beq_eq_false_iff_ne.2 h1]; rfl
  have n3 : ipIs s.f0 s = true := by unfold ipIs; exact decide_eq_true rfl
  have n4 : hit s.f0 s.f1 s = true := by unfold hit; rw [beq_iff_eq.2 rfl, beq_iff_eq.2 rfl]; rfl
  have p1 : passB f [⟨1, 7⟩] s = (f == 0) := by
    rcases hf with rfl | rfl | rfl
    · rfl
    · show [(⟨1, 7⟩ : S28)].any (ipIs s.f0) = false; simp [n1]
    · show [(⟨1, 7⟩ : S28)].any (hit s.f0 s.f1) = false; simp [n2]
  have p2 : passB f [⟨1, 7⟩, s] s = true := by
    rcases hf with rfl | rfl | rfl
    · rfl
    · show [(⟨1, 7⟩ : S28), s].any (ipIs s.f0) = true; simp [n3]
    · show [(⟨1, 7⟩ : S28), s].any (hit s.f0 s.f1) = true; simp [n4]
  cases asked with
  | false =>
    have g : gets m f false = (f == 0) := by unfold gets; simp
    rw [g, ← p1]
    exact ar_arr p pb q m f 2 (bd1 ⟨10, 7⟩ (keyS m ⟨1, 7⟩) [⟨1, 7⟩] 50) [] _ s by_ t hs (by decide) (by decide) (fun y hy => by obtain rfl := List.mem_singleton.1 hy; show (2 : Int) < 50; decide) ⟨rfl, rfl, rfl⟩ (Nat.le_of_ble_eq_true rfl) rfl
  | true =>
    rw [if_pos rfl]
    by_cases h0 : m = 0
    · subst h0
      have g : gets 0 f true = true := by unfold gets; simp
      rw [g]
      exact ar_arr p pb q 0 f 2 (bd1 ⟨10, 7⟩ ⟨0, 0⟩ [⟨1, 7⟩, s] 51) [] true s by_ t hs (by decide) (by decide) (fun y hy => by obtain rfl := List.mem_singleton.1 hy; show (2 : Int) < 51; decide) ⟨rfl, rfl, rfl⟩ (Nat.le_of_ble_eq_true rfl) p2
    · have g : gets m f true = (f == 0) := by unfold gets; rw [beq_eq_false_iff_ne.2 h0]; simp
      rw [g, ← p1]
      unfold L2
      rw [if_neg h0]
      exact ar_arr p pb q m f 2 (bd1 ⟨10, 7⟩ (keyS m ⟨1, 7⟩) [⟨1, 7⟩] 50) [⟨10, 7, (keyS m s).f0, (keyS m s).f1, 20001, [s], 51⟩] _ s by_ t hs (by decide) (Nat.le_of_ble_eq_true rfl) (fun y hy => by
        rcases List.mem_cons.1 hy with rfl | hy
        · show (2 : Int) < 50; decide
        · obtain rfl := List.mem_singleton.1 hy
          show (2 : Int) < 51; decide) ⟨rfl, rfl, rfl⟩ (Nat.le_of_ble_eq_true rfl) rfl
theorem nR (m f : Int) (hm : m = 0 ∨ m = 1 ∨ m = 2) (hf : f = 0 ∨ f = 1 ∨ f = 2) : Right ⟨m, f, 9, 50, 8⟩ :=
  ⟨show 0 ≤ m ∧ m < 3 by omega, show 0 ≤ f ∧ f < 3 by omega, show (9 : Int) ≠ 0 by decide, show (0 : Int) ≤ 50 ∧ (50 : Int) ≤ 1000000 by decide, show (1 : Int) ≤ 8 by decide, show (8 : Int) ≤ 64 by decide⟩
theorem m3 (t : Int) (ht : 0 ≤ t ∧ t ≤ 255) : wrap64 (t.tmod 3) = 0 ∨ wrap64 (t.tmod 3) = 1 ∨ wrap64 (t.tmod 3) = 2 := by
  rw [Int.tmod_eq_emod_of_nonneg ht.1]
  unfold wrap64
  omega
theorem f3 (t : Int) : t.tdiv 3 % 256 % 3 = 0 ∨ t.tdiv 3 % 256 % 3 = 1 ∨ t.tdiv 3 % 256 % 3 = 2 := by
  generalize t.tdiv 3 = u
  omega
end Go.Proofs.Ytobfabfoenldfaa.NW
