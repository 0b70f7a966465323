/- The ring (package ring): what each of its functions does, told over separate blocks. Conditions: those that each theorem names. -/
import Derived.Test.YtmoepfmgpfjppaaSep
import Derived.Test.YtmoepfmgpfjppaaMA
namespace Go.Proofs.Ytmoepfmgpfjppaa.RG
set_option linter.unusedVariables false
set_option linter.unusedSimpArgs false
open Go Go.RowKit Go.Proofs.YtmoepfmgpfjppaaS Go.Proofs.YtmoepfmgpfjppaaS.Asn Go.Proofs.Ytmoepfmgpfjppaa.PA Go.Proofs.Ytmoepfmgpfjppaa.MA Go.Proofs.YtmoepfmgpfjppaaW.PrintWords Go.Proofs.YtmoepfmgpfjppaaW.PrintLast Go.Proofs.YtmoepfmgpfjppaaW.PrintMore

/-- A ring at block p: the stream's state, who is left. -/
def ringA (p : Nat) (s : Int) (left : List Int) : Asn :=
  ex fun q : Option Addr × Nat => fact (left.length ≤ q.2) ⋆ pt p #[.int .u64 s, .slice q.1 left.length q.2] 55 ⋆ rdo (Kd.int .i64) q.1 left
section
variable {w0 w : World} {ok0 : Nat → Prop} {F : Asn} {p : Nat} {s : Int} {left : List Int}
theorem ring_mk {A : Option Addr} {c : Nat} (h : Sep w0 ok0 (pt p #[.int .u64 s, .slice A left.length c] 55 ⋆ rdo (Kd.int .i64) A left ⋆ F) w) (hc : left.length ≤ c) : Sep w0 ok0 (ringA p s left ⋆ F) w := by
  refine sep_head (sep_fold h) (fun ok hh => ⟨(A, c), fun _ => False, ok, hc, hh, fun _ h => h.elim, fun _ h => h.elim, fun _ h => h⟩)
theorem ring_open (h : Sep w0 ok0 (ringA p s left ⋆ F) w) : ∃ A c, left.length ≤ c ∧ Sep w0 ok0 (pt p #[.int .u64 s, .slice A left.length c] 55 ⋆ rdo (Kd.int .i64) A left ⋆ F) w := by
  obtain ⟨⟨A, c⟩, h⟩ := sep_ex_star h
  obtain ⟨hc, h⟩ := sep_fact (sep_flat h)
  exact ⟨A, c, hc, sep_flat h⟩
end

theorem ring_New (a0 : Int) (w : World) : Calls Try.prog 9 #[.int .u64 a0] w fun e w' => ∃ p : Nat, e = .returned (.pointer (some ⟨p, 0, none⟩)) ∧ Sep w (fun _ => False) (ringA p a0 [] ⋆ emp) w' := by
  have HS := Aside0.mk (sep_start w)
  go_enter Try.func9, Try.ntmps9
  go_wp2_with (first | (go_at_call 19; refine Calls.mono (draw_New.calls a0 a0 _ rfl) ?_; rintro e w1 ⟨rfl, hb⟩; have n0_ := Aside0.mk (sep_below HS.out hb); clear HS hb; have HS := n0_; clear n0_))
  go_ret
  refine ⟨_, rfl, ring_mk (A := none) (c := 0) (sep_alloc (sep_new (A := rdo (Kd.int .i64) none []) HS.out (Below.refl _ _) (ok := fun _ => False) (Kd.F_nil _ _ _) (fun _ h => h.elim)) _ _) (Nat.le_refl _)⟩

theorem ring_State (p : Nat) (s : Int) (left : List Int) (w : World) (ok : Nat → Prop) (h : (ringA p s left ⋆ emp).H w ok) :
    Calls Try.prog 18 #[.pointer (some ⟨p, 0, none⟩)] w fun e w' => e = .returned (.int .u64 s) ∧ Sep w ok (ringA p s left ⋆ emp) w' := by
  have HS := Aside0.mk (sep_begin h)
  obtain ⟨A, c, hc, h1⟩ := ring_open (sep_begin h)
  have c0 := sep_cell h1 0
  have c1 := sep_cell h1 1
  clear h1 h hc
  go_enter Try.func18, Try.ntmps18
  go_wp2
  go_ret
  exact ⟨rfl, HS.out⟩
theorem ring_Left (p : Nat) (s : Int) (left : List Int) (w : World) (ok : Nat → Prop) (hm : left.length ≤ 1000000) (h : (ringA p s left ⋆ emp).H w ok) :
    Calls Try.prog 17 #[.pointer (some ⟨p, 0, none⟩)] w fun e w' => ∃ v, e = .returned v ∧ Sep w ok (row (Kd.int .i64) 3 v left ⋆ ringA p s left ⋆ emp) w' := by
  have HS := Aside0.mk (sep_begin h)
  obtain ⟨A, c, hc, h1⟩ := ring_open (sep_begin h)
  have c0 := sep_cell h1 0
  have c1 := sep_cell h1 1
  have HC := Aside0.mk (sep_rdo (sep_l1 h1))
  have HL := Aside0.mk hc
  have HM : Aside0 (slices_Clone_int_int.f left = some left) := ⟨by unfold slices_Clone_int_int.f; rw [if_pos (by omega)]⟩
  clear h1 h hc hm
  go_enter Try.func17, Try.ntmps17
  go_wp2_with (first | (go_at_call 26; refine Calls.mono (slices_Clone_int_int.calls A c left left _ HC.out HL.out HM.out) ?_; rintro e w1 ⟨v, rfl, hr, hb⟩; have n0_ := Aside0.mk (sep_made HS.out hr hb); clear HS hr hb c0 c1; have HS := n0_; clear n0_))
  go_ret
  exact ⟨_, rfl, HS.out⟩
theorem row_rdo {α : Type} {d : Kd α} {e n c : Nat} {A : Option Addr} {xs : List α} {w0 w : World} {ok0 : Nat → Prop} {F : Asn} (h : Sep w0 ok0 (row d e (.slice A n c) xs ⋆ F) w) : Sep w0 ok0 (rdo d A xs ⋆ F) w := by
  have hn := (sep_row' h).1
  subst hn
  exact sep_head h (fun ok hr => Kd.R_F hr)
theorem rdo_cut {A : Option Addr} {c : Nat} {id : Int} {xs : List Int} {w0 w : World} {ok0 : Nat → Prop} {F : Asn} (h : Sep w0 ok0 (rdo (Kd.int .i64) A (id :: xs) ⋆ F) w) (hc : xs.length + 1 ≤ c) : Sep w0 ok0 (rdo (Kd.int .i64) (if c = 1 then A else A.map (·.add 1)) xs ⋆ F) w :=
  sep_head h (fun ok hr => Kd.F_cut (m := 1) (c := c) (xs := id :: xs) hr (Nat.succ_le_succ (Nat.zero_le _)) hc)
def NextRel (w : World) (ok : Nat → Prop) (p : Nat) (s : Int) (left l : List Int) (A : Option Addr) (kq : Nat) (w' : World) : Prop :=
  ∃ (s1 : Int) (left1 : List Int), Aside0 (nxt3 s1 left1 l = nxt3 s left l) ∧ Aside0 (left1.length ≤ kq) ∧ Aside0 (left1.length ≤ 1000000) ∧ Aside0 (Sep w ok (ringA p s1 left1 ⋆ rdo (Kd.int .i64) A l ⋆ emp) w')
/-- The one that stands first, the others, the stream: of those that are left, or of the list mixed. -/
def Nxd (s : Int) (left l : List Int) (id : Int) (rest : List Int) (s2 : Int) : Prop := (left = [] → mix s l = (id :: rest, s2)) ∧ (left ≠ [] → left = id :: rest ∧ s2 = s)
theorem nxt3_none {s : Int} {left l : List Int} {id : Int} {rest : List Int} {s2 : Int} (hd : Nxd s left l id rest s2) (hn : id ∉ l) : left = id :: rest ∧ nxt3 s2 rest l = nxt3 s left l := by
  obtain ⟨h, h'⟩ := hd
  cases left with
  | nil =>
    exfalso
    have hp := mix_perm s l
    rw [h rfl] at hp
    exact hn (hp.mem_iff.1 List.mem_cons_self)
  | cons y ys =>
    obtain ⟨e, rfl⟩ := h' (by simp)
    injection e with e1 e2
    obtain rfl := e1.symm
    obtain rfl := e2.symm
    refine ⟨rfl, ?_⟩
    exact (show nxt3 s2 (id :: rest) l = nxt3 s2 rest l by rw [nxt3, if_neg hn]).symm
theorem nxt3_some {s : Int} {left l : List Int} {id : Int} {rest : List Int} {s2 : Int} (hd : Nxd s left l id rest s2) (hn : id ∈ l) : nxt3 s left l = (id, s2, rest) := by
  obtain ⟨h, h'⟩ := hd
  cases left with
  | nil => rw [nxt3, h rfl]; rfl
  | cons y ys =>
    obtain ⟨e, rfl⟩ := h' (by simp)
    injection e with e1 e2
    obtain rfl := e1.symm
    obtain rfl := e2.symm
    rw [nxt3, if_pos hn]
set_option maxHeartbeats 4000000 in
set_option maxRecDepth 100000 in
theorem ring_Next (p : Nat) (s : Int) (left l : List Int) (A : Option Addr) (c : Nat) (w : World) (ok : Nat → Prop) (hc : l.length ≤ c) (hm : left.length ≤ 1000000) (hlm : l.length ≤ 1000000) (h : (ringA p s left ⋆ rdo (Kd.int .i64) A l ⋆ emp).H w ok) :
    Calls Try.prog 15 #[.pointer (some ⟨p, 0, none⟩), .slice A l.length c] w fun e w' => e = .returned (.tuple #[.int .i64 (nx s left l).1, .bool (nx s left l).2.1]) ∧ Sep w ok (ringA p (nx s left l).2.2.1 (nx s left l).2.2.2 ⋆ rdo (Kd.int .i64) A l ⋆ emp) w' := by
  have HS := Aside0.mk (sep_begin h)
  clear h
  have HX := Aside0.mk (Eq.refl (nx s left l))
  unfold nx
  by_cases hl0 : l = []
  · rw [if_pos hl0]
    subst hl0
    go_enter Try.func15, Try.ntmps15
    go_wp2_with (first | (refine Go.Proofs.YtmoepfmgpfjppaaX.wp_scope_k ?_; intro Jg hJg; have HJg := Aside0.mk hJg; clear hJg))
    (try rw [Go.Proofs.YtmoepfmgpfjppaaX.jumps_ret])
    go_ret2
    exact ⟨rfl, HS.out⟩
  · rw [if_neg hl0]
    have hpos : 0 < l.length := List.length_pos_iff.2 hl0
    have t1 : decide ((l.length : Int) = 0) = false := decide_eq_false (by omega)
    have t2 : ((l.length : Int) == 0) = false := by simp; omega
    have t3 : (l.length = 0) = False := eq_false (by omega)
    have t4 : (l = []) = False := eq_false hl0
    have HC := Aside0.mk hc
    have HP := Aside0.mk hpos
    have HLM := Aside0.mk hlm
    have HM := Aside0.mk hm
    clear hc hpos hlm hm HX
    go_enter Try.func15, Try.ntmps15
    go_wp2_with (first | (refine Go.Proofs.YtmoepfmgpfjppaaX.wp_scope_k ?_; intro Jg hJg; have HJg := Aside0.mk hJg; clear hJg))
    refine wp_label ?_
    go_step
    (first | (show Code.wp _ _ _ _ _) | go_step)
    refine Go.Proofs.YtmoepfmgpfjppaaX.wp_label_ghost 0 [6, 10, 11, 12, 13, 14, 15, 16, 17, 18, 19, 20, 21, 22, 23, 24, 25, 26, 27, 28, 29, 30, 31, 32, 33, 34, 35, 36, 37, 38, 39, 40, 41, 42, 43, 44, 45, 46, 47, 48] (fun kq u w' => (NextRel w ok p s left l A) kq w') (left.length) ?hJ ?atStart ?round
    case hJ => exact fun a w h => HJg.out _ _ _ _ rfl (Go.Proofs.YtmoepfmgpfjppaaX.wp_skip_seq h)
    case atStart => exact ⟨s, left, ⟨rfl⟩, ⟨Nat.le_refl _⟩, HM, HS⟩
    case round =>
      clear HS
      intro gk u wr hrel Ji hI hH
      have hL : ∀ (kq : Nat) (u6 u10 u11 u12 u13 u14 u15 u16 u17 u18 u19 u20 u21 u22 u23 u24 u25 u26 u27 u28 u29 u30 u31 u32 u33 u34 u35 u36 u37 u38 u39 u40 u41 u42 u43 u44 u45 u46 u47 u48 : Value) (w' : World), (NextRel w ok p s left l A) kq w' → Ji kq ⟨Go.Proofs.YtmoepfmgpfjppaaX.setAll _ [6, 10, 11, 12, 13, 14, 15, 16, 17, 18, 19, 20, 21, 22, 23, 24, 25, 26, 27, 28, 29, 30, 31, 32, 33, 34, 35, 36, 37, 38, 39, 40, 41, 42, 43, 44, 45, 46, 47, 48] (Go.Proofs.YtmoepfmgpfjppaaX.sel [(6, u6), (10, u10), (11, u11), (12, u12), (13, u13), (14, u14), (15, u15), (16, u16), (17, u17), (18, u18), (19, u19), (20, u20), (21, u21), (22, u22), (23, u23), (24, u24), (25, u25), (26, u26), (27, u27), (28, u28), (29, u29), (30, u30), (31, u31), (32, u32), (33, u33), (34, u34), (35, u35), (36, u36), (37, u37), (38, u38), (39, u39), (40, u40), (41, u41), (42, u42), (43, u43), (44, u44), (45, u45), (46, u46), (47, u47), (48, u48)]), _⟩ w' := fun kq u6 u10 u11 u12 u13 u14 u15 u16 u17 u18 u19 u20 u21 u22 u23 u24 u25 u26 u27 u28 u29 u30 u31 u32 u33 u34 u35 u36 u37 u38 u39 u40 u41 u42 u43 u44 u45 u46 u47 u48 w' h => hI kq _ w' ⟨Go.Proofs.YtmoepfmgpfjppaaX.sel [(6, u6), (10, u10), (11, u11), (12, u12), (13, u13), (14, u14), (15, u15), (16, u16), (17, u17), (18, u18), (19, u19), (20, u20), (21, u21), (22, u22), (23, u23), (24, u24), (25, u25), (26, u26), (27, u27), (28, u28), (29, u29), (30, u30), (31, u31), (32, u32), (33, u33), (34, u34), (35, u35), (36, u36), (37, u37), (38, u38), (39, u39), (40, u40), (41, u41), (42, u42), (43, u43), (44, u44), (45, u45), (46, u46), (47, u47), (48, u48)], h, rfl⟩
      clear hI
      simp only [Go.Proofs.YtmoepfmgpfjppaaX.setAll, Go.Proofs.YtmoepfmgpfjppaaX.sel, Nat.reduceEqDiff, ↓reduceIte, List.setIfInBounds_toArray, List.set_cons_zero, List.set_cons_succ] at hL
      simp only [Go.Proofs.YtmoepfmgpfjppaaX.setAll, Go.Proofs.YtmoepfmgpfjppaaX.sel, Nat.reduceEqDiff, ↓reduceIte, List.setIfInBounds_toArray, List.set_cons_zero, List.set_cons_succ]
      generalize u 6 = u6 at hrel ⊢
      generalize u 10 = u10 at hrel ⊢
      generalize u 11 = u11 at hrel ⊢
      generalize u 12 = u12 at hrel ⊢
      generalize u 13 = u13 at hrel ⊢
      generalize u 14 = u14 at hrel ⊢
      generalize u 15 = u15 at hrel ⊢
      generalize u 16 = u16 at hrel ⊢
      generalize u 17 = u17 at hrel ⊢
      generalize u 18 = u18 at hrel ⊢
      generalize u 19 = u19 at hrel ⊢
      generalize u 20 = u20 at hrel ⊢
      generalize u 21 = u21 at hrel ⊢
      generalize u 22 = u22 at hrel ⊢
      generalize u 23 = u23 at hrel ⊢
      generalize u 24 = u24 at hrel ⊢
      generalize u 25 = u25 at hrel ⊢
      generalize u 26 = u26 at hrel ⊢
      generalize u 27 = u27 at hrel ⊢
      generalize u 28 = u28 at hrel ⊢
      generalize u 29 = u29 at hrel ⊢
      generalize u 30 = u30 at hrel ⊢
      generalize u 31 = u31 at hrel ⊢
      generalize u 32 = u32 at hrel ⊢
      generalize u 33 = u33 at hrel ⊢
      generalize u 34 = u34 at hrel ⊢
      generalize u 35 = u35 at hrel ⊢
      generalize u 36 = u36 at hrel ⊢
      generalize u 37 = u37 at hrel ⊢
      generalize u 38 = u38 at hrel ⊢
      generalize u 39 = u39 at hrel ⊢
      generalize u 40 = u40 at hrel ⊢
      generalize u 41 = u41 at hrel ⊢
      generalize u 42 = u42 at hrel ⊢
      generalize u 43 = u43 at hrel ⊢
      generalize u 44 = u44 at hrel ⊢
      generalize u 45 = u45 at hrel ⊢
      generalize u 46 = u46 at hrel ⊢
      generalize u 47 = u47 at hrel ⊢
      generalize u 48 = u48 at hrel ⊢
      clear u
      obtain ⟨s1, left1, HN, HK, HM1, HS⟩ := hrel
      obtain ⟨A1, c1, hc1, HS1⟩ := ring_open HS.out
      have HS1 := Aside0.mk HS1
      have HC1 := Aside0.mk hc1
      have HR := Aside0.mk (sep_rdo (sep_l2 HS1.out))
      have k0 := sep_cell HS1.out 0
      have k1 := sep_cell HS1.out 1
      have kf := sep_frozen HS1.out 1
      have kg := sep_frozen HS1.out 0
      clear HS hc1
      cases left1 with
      | nil =>
        obtain ⟨id, rest, s2, hmx⟩ : ∃ id rest s2, mix s1 l = (id :: rest, s2) := by
          have h1 := mix_length s1 l
          rcases hm : mix s1 l with ⟨m, s2⟩
          rw [hm] at h1
          cases m with
          | nil => have := HP.out; simp at h1; omega
          | cons x xs => exact ⟨x, xs, s2, rfl⟩
        have HMX : Aside0 (draw_Stream_Mix.f (l.length + 10) s1 l = some (id :: rest, s2)) := ⟨by rw [mix_some _ _ _ (by have := HLM.out; omega) (by omega), hmx]⟩
        have HE : Aside0 (Nxd s1 [] l id rest s2) := ⟨⟨fun _ => hmx, fun h => absurd rfl h⟩⟩
        clear hmx
        go_upto_region 6 with (first | (go_at_call 22; refine Calls.mono (draw_Stream_Mix.calls (l.length + 10) s1 A c l _ _ _ HR.out HC.out HMX.out) ?_; rintro e w2 ⟨v, rfl, hr, hb⟩; have HS2 := Aside0.mk (sep_made HS1.out hr hb); clear HS1 HR k0 k1 kf kg hr hb; obtain ⟨A2, c2, rfl, hc2, -⟩ := sep_row HS2.out; have HC2 := Aside0.mk hc2; clear hc2; have k0 := sep_cell (sep_l1 HS2.out) 0; have k1 := sep_cell (sep_l1 HS2.out) 1; have kf := sep_frozen (sep_l1 HS2.out) 1; have kg := sep_frozen (sep_l1 HS2.out) 0))
        have HS := Aside0.mk (row_rdo (sep_l1 (sep_set (sep_set (sep_l1 HS2.out) 1 (.slice A2 (id :: rest).length c2)) 0 (.int .u64 s2))))
        have HQ : Aside0 (Sep w ok (pt p #[.int .u64 s2, .slice A2 (rest.length + 1) c2] 55 ⋆ rdo (Kd.int .i64) A2 (id :: rest) ⋆ rdo (Kd.int .i64) A l ⋆ emp) ((w2.setCell ⟨p, 1, none⟩ (.slice A2 (rest.length + 1) c2)).setCell ⟨p, 0, none⟩ (.int .u64 s2))) := ⟨sep_l1 (sep_drop (sep_l2 HS.out))⟩
        clear HS HS2 k0 k1 kf kg HMX HC1
        have HM2 := HM1
        clear HM1
        generalize (w2.setCell ⟨p, 1, none⟩ (.slice A2 (rest.length + 1) c2)).setCell ⟨p, 0, none⟩ (.int .u64 s2) = wq at HQ ⊢
        have k0 : wq.cell? ⟨p, 0, none⟩ = some (.int .u64 s2) := sep_cell HQ.out 0
        have k1 : wq.cell? ⟨p, 1, none⟩ = some (.slice A2 (rest.length + 1) c2) := sep_cell HQ.out 1
        have kf := sep_frozen HQ.out 1
        obtain ⟨ad, rfl, ka⟩ := Kd.at_int (sep_rdo (sep_l1 HQ.out)) 0 (Int.le_refl _) (by simp)
        have ka' : wq.cell? ad = some (.int .i64 id) := ka
        clear ka
        obtain ⟨i0, hi0, _, hz0, _⟩ := info_parts info3
        have hcut := cut_from (P := Try.prog) 33 3 .i64 Try.underlying33 hi0 1 hz0 (some ad) (rest.length + 1) c2 1 (by decide) (by omega)
        go_region
        clear hcut hi0 hz0 k0 k1 kf ka'
        have HF := Aside0.mk (ring_mk (sep_l1 (rdo_cut (sep_l1 (sep_drew (sep_set HQ.out 1 (.slice (if c2 = 1 then some ad else (some ad).map (·.add 1)) rest.length (c2 - 1))))) HC2.out)) (Nat.le_sub_of_add_le HC2.out))
        replace HF : Aside0 (Sep w ok (ringA p s2 rest ⋆ rdo (Kd.int .i64) A l ⋆ emp) (wq.setCell ⟨p, 1, none⟩ (.slice (if c2 = 1 then some ad else some { block := ad.block, off := ad.off + 1 }) rest.length (c2 - 1))).drew) := HF
        clear HQ
        generalize (if c2 = 1 then some ad else some { block := ad.block, off := ad.off + 1 }) = A3 at HF ⊢
        generalize (wq.setCell ⟨p, 1, none⟩ (.slice A3 rest.length (c2 - 1))).drew = wz at HF ⊢
        have HR := Aside0.mk (sep_rdo (sep_l1 HF.out))
        by_cases hin : id ∈ l
        · have HI := Aside0.mk hin
          have HT : Aside0 (slices_Contains_int_int.f (l.length + 10) l id = some true) := ⟨by rw [contains_eq _ _ _ (by have := HLM.out; omega) (by omega), decide_eq_true hin]⟩
          clear hin
          go_wp2_with (first | (go_at_call 23; refine Calls.mono (slices_Contains_int_int.calls (l.length + 10) A c l id true _ HR.out HC.out HT.out) ?_; rintro e w3 ⟨rfl, hd⟩; have n0_ := Aside0.mk (sep_drawn HF.out hd); clear HF hd HR; have HF := n0_; clear n0_))
          (try rw [Go.Proofs.YtmoepfmgpfjppaaX.jumps_ret])
          go_ret2
          have e1 := nxt3_some HE.out HI.out
          rw [HN.out] at e1
          rw [e1]
          exact ⟨rfl, HF.out⟩
        · have HI := Aside0.mk hin
          have HT : Aside0 (slices_Contains_int_int.f (l.length + 10) l id = some false) := ⟨by rw [contains_eq _ _ _ (by have := HLM.out; omega) (by omega), decide_eq_false hin]⟩
          clear hin
          go_wp2_with (first | (go_at_call 23; refine Calls.mono (slices_Contains_int_int.calls (l.length + 10) A c l id false _ HR.out HC.out HT.out) ?_; rintro e w3 ⟨rfl, hd⟩; have n0_ := Aside0.mk (sep_drawn HF.out hd); clear HF hd HR; have HF := n0_; clear n0_))
          have e1 := nxt3_none HE.out HI.out
          have HE1 := Aside0.mk e1.2
          have HL1 := Aside0.mk (congrArg List.length e1.1)
          clear e1
          refine wp_goto ?_
          refine hH _ _ ?_
          refine Handed.intro (rest.length) ?measure ?_
          rotate_left
          refine hL _ _ _ _ _ _ _ _ _ _ _ _ _ _ _ _ _ _ _ _ _ _ _ _ _ _ _ _ _ _ _ _ _ _ _ _ _ _ _ _ _ _ ?rel
          case measure => have h1 := HL1.out; have h2 := HK.out; simp only [List.length_cons, List.length_nil] at h1 h2; omega
          case rel => exact ⟨s2, rest, ⟨HE1.out.trans HN.out⟩, ⟨Nat.le_refl _⟩, ⟨by have h1 := HL1.out; have h2 := HM2.out; simp only [List.length_cons, List.length_nil] at h1 h2; omega⟩, HF⟩
      | cons id rest =>
        have t5 : ((((id :: rest).length : Nat) : Int) == 0) = false := by simp; omega
        have HE : Aside0 (Nxd s1 (id :: rest) l id rest s1) := ⟨⟨fun h => by (cases h), fun _ => ⟨rfl, rfl⟩⟩⟩
        go_upto_region 6 with (fail)
        have HQ := HS1
        have HC2 := HC1
        have HM2 := HM1
        clear HM1 HC1 HR k0 k1 kf kg HS1
        have HK := HK
        have HK := HK
        generalize wr = wq at HQ ⊢
        generalize A1 = A2 at HQ ⊢
        generalize c1 = c2 at HQ HC2 ⊢
        have k0 : wq.cell? ⟨p, 0, none⟩ = some (.int .u64 s1) := sep_cell HQ.out 0
        have k1 : wq.cell? ⟨p, 1, none⟩ = some (.slice A2 (rest.length + 1) c2) := sep_cell HQ.out 1
        have kf := sep_frozen HQ.out 1
        obtain ⟨ad, rfl, ka⟩ := Kd.at_int (sep_rdo (sep_l1 HQ.out)) 0 (Int.le_refl _) (by simp)
        have ka' : wq.cell? ad = some (.int .i64 id) := ka
        clear ka
        obtain ⟨i0, hi0, _, hz0, _⟩ := info_parts info3
        have hcut := cut_from (P := Try.prog) 33 3 .i64 Try.underlying33 hi0 1 hz0 (some ad) (rest.length + 1) c2 1 (by decide) (by omega)
        go_region
        clear hcut hi0 hz0 k0 k1 kf ka'
        have HF := Aside0.mk (ring_mk (sep_l1 (rdo_cut (sep_l1 (sep_drew (sep_set HQ.out 1 (.slice (if c2 = 1 then some ad else (some ad).map (·.add 1)) rest.length (c2 - 1))))) HC2.out)) (Nat.le_sub_of_add_le HC2.out))
        replace HF : Aside0 (Sep w ok (ringA p s1 rest ⋆ rdo (Kd.int .i64) A l ⋆ emp) (wq.setCell ⟨p, 1, none⟩ (.slice (if c2 = 1 then some ad else some { block := ad.block, off := ad.off + 1 }) rest.length (c2 - 1))).drew) := HF
        clear HQ
        generalize (if c2 = 1 then some ad else some { block := ad.block, off := ad.off + 1 }) = A3 at HF ⊢
        generalize (wq.setCell ⟨p, 1, none⟩ (.slice A3 rest.length (c2 - 1))).drew = wz at HF ⊢
        have HR := Aside0.mk (sep_rdo (sep_l1 HF.out))
        by_cases hin : id ∈ l
        · have HI := Aside0.mk hin
          have HT : Aside0 (slices_Contains_int_int.f (l.length + 10) l id = some true) := ⟨by rw [contains_eq _ _ _ (by have := HLM.out; omega) (by omega), decide_eq_true hin]⟩
          clear hin
          go_wp2_with (first | (go_at_call 23; refine Calls.mono (slices_Contains_int_int.calls (l.length + 10) A c l id true _ HR.out HC.out HT.out) ?_; rintro e w3 ⟨rfl, hd⟩; have n0_ := Aside0.mk (sep_drawn HF.out hd); clear HF hd HR; have HF := n0_; clear n0_))
          (try rw [Go.Proofs.YtmoepfmgpfjppaaX.jumps_ret])
          go_ret2
          have e1 := nxt3_some HE.out HI.out
          rw [HN.out] at e1
          rw [e1]
          exact ⟨rfl, HF.out⟩
        · have HI := Aside0.mk hin
          have HT : Aside0 (slices_Contains_int_int.f (l.length + 10) l id = some false) := ⟨by rw [contains_eq _ _ _ (by have := HLM.out; omega) (by omega), decide_eq_false hin]⟩
          clear hin
          go_wp2_with (first | (go_at_call 23; refine Calls.mono (slices_Contains_int_int.calls (l.length + 10) A c l id false _ HR.out HC.out HT.out) ?_; rintro e w3 ⟨rfl, hd⟩; have n0_ := Aside0.mk (sep_drawn HF.out hd); clear HF hd HR; have HF := n0_; clear n0_))
          have e1 := nxt3_none HE.out HI.out
          have HE1 := Aside0.mk e1.2
          have HL1 := Aside0.mk (congrArg List.length e1.1)
          clear e1
          refine wp_goto ?_
          refine hH _ _ ?_
          refine Handed.intro (rest.length) ?measure ?_
          rotate_left
          refine hL _ _ _ _ _ _ _ _ _ _ _ _ _ _ _ _ _ _ _ _ _ _ _ _ _ _ _ _ _ _ _ _ _ _ _ _ _ _ _ _ _ _ ?rel
          case measure => have h1 := HL1.out; have h2 := HK.out; simp only [List.length_cons, List.length_nil] at h1 h2; omega
          case rel => exact ⟨s1, rest, ⟨HE1.out.trans HN.out⟩, ⟨Nat.le_refl _⟩, ⟨by have h1 := HL1.out; have h2 := HM2.out; simp only [List.length_cons, List.length_nil] at h1 h2; omega⟩, HF⟩
end Go.Proofs.Ytmoepfmgpfjppaa.RG
