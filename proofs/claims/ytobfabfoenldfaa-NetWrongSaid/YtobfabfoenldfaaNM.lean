/- Nets: arrive. Conditions: those that each theorem names. -/
import Derived.Test.YtobfabfoenldfaaNL
namespace Go.Proofs.Ytobfabfoenldfaa.NW
set_option linter.unusedVariables false
set_option linter.unusedSimpArgs false
open Go Go.RowKit Go.Proofs.YtobfabfoenldfaaS Go.Proofs.YtobfabfoenldfaaS.Asn Go.Proofs.Ytobfabfoenldfaa.PA Go.Proofs.YtobfabfoenldfaaW.PrintWords Go.Proofs.YtobfabfoenldfaaW.PrintLast Go.Proofs.YtobfabfoenldfaaW.PrintMore


open Go.Proofs.Ytobfabfoenldfaa.BG
theorem idx_lo {α : Type} (f : α → Bool) (l : List α) : -1 ≤ idx f l := by
  unfold idx
  split <;> omega
theorem idx_hi {α : Type} (f : α → Bool) (l : List α) : idx f l ≤ l.length := by
  unfold idx
  split
  · have := List.findIdx_le_length (xs := l) (p := f); omega
  · omega
set_option maxRecDepth 100000 in
theorem arrive_host (p : Nat) (now : Int) (src dst : S28) (A : Option Addr) (c : Nat) (hs : List Hs) (w : World) (hf : hs.any (hostH ⟨dst.f0, dst.f1, 0⟩) = true) (hl : hs.length ≤ 1000) (h0 : w.cell? ⟨p, 0, none⟩ = some (.slice A hs.length c)) (hr : hosK.C w A hs.length hs) :
    Calls Try.prog 32 #[.pointer (some ⟨p, 0, none⟩), .int .u64 now, .agg #[.int .u32 src.f0, .int .u16 src.f1], .agg #[.int .u32 dst.f0, .int .u16 dst.f1]] w fun e w' => e = .returned (.int .i64 (idx (hostH ⟨dst.f0, dst.f1, 0⟩) hs + 1)) ∧ Below w.heap.size w w' := by
  obtain ⟨k, y, hk, -, -, -⟩ := idx_at _ _ hf
  have HK := Aside0.mk hk
  have e1 : decide (0 < (k : Int) + 1) = true := decide_eq_true (by omega)
  have e2 : (0 < (k : Int) + 1) = True := eq_true (by omega)
  have e3 : decide ((k : Int) + 1 > 0) = true := decide_eq_true (by omega)
  rw [hk]
  clear hf hk
  have HS := Aside0.mk (sep_start w)
  have H0 := Aside0.mk h0
  have HR := Aside0.mk (And.intro hr hl)
  clear h0 hr hl
  go_enter Try.func32, Try.ntmps32
  go_upto_region 1 with (fail)
  have n_ := sep_allocg (sep_allocg HS.out #[.int .u32 src.f0, .int .u16 src.f1] 28 _ rfl) #[.int .u32 dst.f0, .int .u16 dst.f1] 28 _ (szS _ rfl)
  have n0_ := Aside0.mk n_; clear HS n_; have HS := n0_; clear n0_
  generalize World.alloc _ _ = wa at HS ⊢
  generalize w.heap.size + 1 = g7 at HS ⊢
  generalize w.heap.size = g6 at HS ⊢
  have m0 := sep_cell HS.out 0
  have m1 := sep_cell HS.out 1
  have p0 := cell_now H0.out (sep_below_of HS.out)
  go_wp2_with (go_at_call 47; have hx_ := net_find p dst 0 A c hs _ p0 (Kd.C_below HR.out.1 (sep_below_of HS.out)) HR.out.2; rw [HK.out] at hx_; (with_reducible refine Calls.mono hx_ ?_); rintro e w1 ⟨rfl, hb_⟩; have n_ := sep_below HS.out hb_; clear hx_ hb_; have n0_ := Aside0.mk n_; clear HS n_; have HS := n0_; clear n0_)
  go_ret
  exact ⟨rfl, sep_below_of HS.out⟩
def InIs (q : Nat) (B B2 : Bx) (now port : Int) (src ad : S28) (er : Int) : Prop := ∀ (W : World) (ok_ : Nat → Prop), (boxA q B ⋆ emp).H W ok_ → Calls Try.prog 48 #[.pointer (some ⟨q, 0, none⟩), .int .u64 now, .int .u16 port, .agg #[.int .u32 src.f0, .int .u16 src.f1]] W fun e w' => e = .returned (.tuple #[.agg #[.int .u32 ad.f0, .int .u16 ad.f1], .int .i64 er]) ∧ Sep W ok_ (boxA q B2 ⋆ emp) w'
theorem pt_now {w0 w : World} {ok0 : Nat → Prop} {B C F : Asn} {g n c q : Nat} (h : Sep w0 ok0 (B ⋆ C ⋆ row ptK 53 (.slice (some ⟨g, 0, none⟩) n c) [q] ⋆ F) w) : w.cell? ⟨g, 0, none⟩ = some (.pointer (some ⟨q, 0, none⟩)) := by
  obtain ⟨ad, e, k0⟩ := pt_at (sep_row' (sep_l2 h)).2.2 0 q rfl
  cases e
  rw [add_at] at k0
  exact k0
set_option maxHeartbeats 1000000 in
set_option maxRecDepth 100000 in
theorem arrive_in (p pb q : Nat) (now : Int) (src dst ad : S28) (er : Int) (hs : List Hs) (B B2 : Bx) (w : World) (ok : Nat → Prop) (hnf : hs.any (hostH ⟨dst.f0, dst.f1, 0⟩) = false) (hl : hs.length ≤ 1000) (hip : B.ip = dst.f0) (hin : InIs q B B2 now dst.f1 src ad er) (he : er = 0 ∨ er = 5) (h : (netA p hs [q] pb ⋆ boxA q B ⋆ emp).H w ok) :
    Calls Try.prog 32 #[.pointer (some ⟨p, 0, none⟩), .int .u64 now, .agg #[.int .u32 src.f0, .int .u16 src.f1], .agg #[.int .u32 dst.f0, .int .u16 dst.f1]] w fun e w' => e = .returned (.int .i64 (if er = 0 then idx (hostH ⟨ad.f0, ad.f1, 1⟩) hs + 1 else 0)) ∧ Sep w ok (netA p hs [q] pb ⋆ boxA q B2 ⋆ emp) w' := by
  have HIN := Aside0.mk (And.intro hin (And.intro he hip))
  clear hin he hip
  obtain ⟨A, c, A', c', hcc, hcc', n_⟩ := net_open (sep_begin h)
  have HCC := Aside0.mk (And.intro hcc hcc')
  have HS := Aside0.mk n_
  have HNF := Aside0.mk (And.intro (idx_none _ _ hnf) hl)
  clear h hcc hcc' n_ hnf hl
  have hq1 : ([q] : List Nat)[0]? = some q := rfl
  go_enter Try.func32, Try.ntmps32
  go_upto_region 1 with (fail)
  have n_ := sep_l5 (sep_l5 (sep_l5 (sep_l5 (sep_allocg (sep_allocg HS.out #[.int .u32 src.f0, .int .u16 src.f1] 28 _ rfl) #[.int .u32 dst.f0, .int .u16 dst.f1] 28 _ (szS _ rfl)))))
  have n0_ := Aside0.mk n_; clear HS n_; have HS := n0_; clear n0_
  generalize World.alloc _ _ = wa at HS ⊢
  generalize w.heap.size + 1 = g7 at HS ⊢
  generalize w.heap.size = g6 at HS ⊢
  have m0 := sep_cell (sep_l4 HS.out) 0
  have m1 := sep_cell (sep_l4 HS.out) 1
  have p0 : wa.cell? ⟨p, 0, none⟩ = some (.slice A hs.length c) := sep_cell HS.out 0
  go_upto_region 4 with (go_at_call 47; have hx_ := net_find p dst 0 A c hs _ p0 (sep_row' (sep_l1 HS.out)).2.2 HNF.out.2; rw [HNF.out.1] at hx_; (with_reducible refine Calls.mono hx_ ?_); rintro e w1 ⟨rfl, hb_⟩; have n_ := sep_below HS.out hb_; clear hx_ hb_; have n0_ := Aside0.mk n_; clear HS n_; have HS := n0_; clear n0_)
  clear m0 m1 p0
  have p1 := sep_cell HS.out 1
  obtain ⟨g9, hA⟩ := row_addr (sep_l2 HS.out) Nat.zero_lt_one
  subst hA
  clear p1
  have p1 := sep_cell HS.out 1
  go_upto_region 5 with (fail)
  clear p1
  go_loopg [10, 11, 25] 5 (fun gg _ _ s25 wr => s25 = .int .i64 0 ∧ Aside0 (Sep w ok (pt p #[.slice A hs.length c, .slice (some ⟨g9, 0, none⟩) [q].length c', .pointer (some ⟨pb, 0, none⟩)] 67 ⋆ row hosK 34 (.slice A hs.length c) hs ⋆ row ptK 53 (.slice (some ⟨g9, 0, none⟩) [q].length c') [q] ⋆ boxA q B ⋆ pt g7 #[.int .u32 dst.f0, .int .u16 dst.f1] 28 ⋆ pt g6 #[.int .u32 src.f0, .int .u16 src.f1] 28 ⋆ emp) wr))
  case atStart => exact ⟨rfl, HS⟩
  case round =>
    clear HS
    obtain ⟨rfl, HS⟩ := hrel
    have k0 := pt_now HS.out
    go_upto_region 7 with (fail)
    have n_ := sep_drew HS.out
    have n0_ := Aside0.mk n_; clear HS n_; have HS := n0_; clear n0_
    generalize hw_ : World.drew _ = wd at HS
    have m0 : wd.cell? ⟨g7, 0, none⟩ = some (.int .u32 dst.f0) := sep_cell (sep_l4 HS.out) 0
    have q2 : wd.cell? ⟨q, 2, none⟩ = some (.int .u32 B.ip) := (box_cells (sep_l3 HS.out)).2.2.1
    subst hw_
    have e1 : (B.ip == dst.f0) = true := beq_iff_eq.2 HIN.out.2.2
    have e2 := eq_true HIN.out.2.2
    have e3 : (B.ip != dst.f0) = false := by rw [bne, e1]; rfl
    go_region_held3 (fun w' => w'.cell? ⟨g7, 0, none⟩ = some (.int .u32 dst.f0)) (exact sep_cell (sep_l4 HS.out) 0) (first | (go_at_call 16; (with_reducible refine Calls.mono (box_IP q B.ip _ q2) ?_); rintro e w1 ⟨rfl, hb_⟩; have n_ := sep_below HS.out hb_; clear hb_; have n0_ := Aside0.mk n_; clear HS n_; have HS := n0_; clear n0_; skip) | fail)
    all_goals
      go_upto_region 8 with (fail)
      clear e1 e2 e3 k0 m0 q2
      have m1 := sep_cell (sep_l4 HS.out) 1
      have s0 := sep_cell (sep_l5 HS.out) 0
      have s1 := sep_cell (sep_l5 HS.out) 1
      go_upto_region 9 with (go_at_call 48; obtain ⟨ok_, hp_, hk_⟩ := sep_use1 (sep_l3 HS.out); have hx_ := HIN.out.1 _ ok_ hp_; (with_reducible refine Calls.mono hx_ ?_); rintro e w1 ⟨rfl, hq_⟩; have n_ := sep_l3 (sep_l3 (sep_l3 (back1 hk_ hq_))); clear hx_ hp_ hk_ hq_ m1 s0 s1; have n0_ := Aside0.mk n_; clear HS n_; have HS := n0_; clear n0_)
      have n_ := sep_l6 (sep_l6 (sep_l6 (sep_l6 (sep_l6 (sep_l6 (sep_allocg HS.out #[.int .u32 ad.f0, .int .u16 ad.f1] 28 _ rfl))))))
      have n0_ := Aside0.mk n_; clear HS n_; have HS := n0_; clear n0_
      generalize World.alloc _ _ = wc at HS ⊢
      generalize Array.size (World.heap _) = g12 at HS ⊢
      have p0 : wc.cell? ⟨p, 0, none⟩ = some (.slice A hs.length c) := sep_cell HS.out 0
      have a0 := sep_cell (sep_l6 HS.out) 0
      have a1 := sep_cell (sep_l6 HS.out) 1
      have hcase := HIN.out.2.1
      clear HIN
      rcases hcase with rfl | rfl
      · go_wp2_with (go_at_call 47; have hx_ := net_find p ad 1 A c hs _ p0 (sep_row' (sep_l1 HS.out)).2.2 HNF.out.2; (with_reducible refine Calls.mono hx_ ?_); rintro e w1 ⟨rfl, hb_⟩; have n_ := sep_below HS.out hb_; clear hx_ hb_; have n0_ := Aside0.mk n_; clear HS n_; have HS := n0_; clear n0_)
        go_ret
        exact ⟨rfl, net_mk (sep_drop (sep_l4 (sep_drop (sep_l4 (sep_drop (sep_l4 HS.out))))))⟩
      · go_wp2
        go_ret
        exact ⟨rfl, net_mk (sep_drop (sep_l4 (sep_drop (sep_l4 (sep_drop (sep_l4 HS.out))))))⟩
set_option maxHeartbeats 1000000 in
set_option maxRecDepth 100000 in
theorem arrive_out (p pb q : Nat) (now : Int) (src dst : S28) (hs : List Hs) (B : Bx) (w : World) (ok : Nat → Prop) (hnf : hs.any (hostH ⟨dst.f0, dst.f1, 0⟩) = false) (hl : hs.length ≤ 1000) (hip : B.ip ≠ dst.f0) (h : (netA p hs [q] pb ⋆ boxA q B ⋆ emp).H w ok) :
    Calls Try.prog 32 #[.pointer (some ⟨p, 0, none⟩), .int .u64 now, .agg #[.int .u32 src.f0, .int .u16 src.f1], .agg #[.int .u32 dst.f0, .int .u16 dst.f1]] w fun e w' => e = .returned (.int .i64 0) ∧ Sep w ok (netA p hs [q] pb ⋆ boxA q B ⋆ emp) w' := by
  have HIP := Aside0.mk hip
  clear hip
  obtain ⟨A, c, A', c', hcc, hcc', n_⟩ := net_open (sep_begin h)
  have HCC := Aside0.mk (And.intro hcc hcc')
  have HS := Aside0.mk n_
  have HNF := Aside0.mk (And.intro (idx_none _ _ hnf) hl)
  clear h hcc hcc' n_ hnf hl
  have hq1 : ([q] : List Nat)[0]? = some q := rfl
  go_enter Try.func32, Try.ntmps32
  go_upto_region 1 with (fail)
  have n_ := sep_l5 (sep_l5 (sep_l5 (sep_l5 (sep_allocg (sep_allocg HS.out #[.int .u32 src.f0, .int .u16 src.f1] 28 _ rfl) #[.int .u32 dst.f0, .int .u16 dst.f1] 28 _ (szS _ rfl)))))
  have n0_ := Aside0.mk n_; clear HS n_; have HS := n0_; clear n0_
  generalize World.alloc _ _ = wa at HS ⊢
  generalize w.heap.size + 1 = g7 at HS ⊢
  generalize w.heap.size = g6 at HS ⊢
  have m0 := sep_cell (sep_l4 HS.out) 0
  have m1 := sep_cell (sep_l4 HS.out) 1
  have p0 : wa.cell? ⟨p, 0, none⟩ = some (.slice A hs.length c) := sep_cell HS.out 0
  go_upto_region 4 with (go_at_call 47; have hx_ := net_find p dst 0 A c hs _ p0 (sep_row' (sep_l1 HS.out)).2.2 HNF.out.2; rw [HNF.out.1] at hx_; (with_reducible refine Calls.mono hx_ ?_); rintro e w1 ⟨rfl, hb_⟩; have n_ := sep_below HS.out hb_; clear hx_ hb_; have n0_ := Aside0.mk n_; clear HS n_; have HS := n0_; clear n0_)
  clear m0 m1 p0
  have p1 := sep_cell HS.out 1
  obtain ⟨g9, hA⟩ := row_addr (sep_l2 HS.out) Nat.zero_lt_one
  subst hA
  clear p1
  have p1 := sep_cell HS.out 1
  go_upto_region 5 with (fail)
  clear p1
  go_loopg [10, 11, 25] 5 (fun gg _ _ s25 wr => ∃ kk : Nat, kk ≤ 1 ∧ 2 - kk ≤ gg ∧ s25 = .int .i64 kk ∧ Aside0 (Sep w ok (pt p #[.slice A hs.length c, .slice (some ⟨g9, 0, none⟩) [q].length c', .pointer (some ⟨pb, 0, none⟩)] 67 ⋆ row hosK 34 (.slice A hs.length c) hs ⋆ row ptK 53 (.slice (some ⟨g9, 0, none⟩) [q].length c') [q] ⋆ boxA q B ⋆ pt g7 #[.int .u32 dst.f0, .int .u16 dst.f1] 28 ⋆ pt g6 #[.int .u32 src.f0, .int .u16 src.f1] 28 ⋆ emp) wr))
  case atStart => exact ⟨0, by omega, by omega, rfl, HS⟩
  case round =>
    clear HS
    obtain ⟨kk, hk1, hg, rfl, HS⟩ := hrel
    rcases Nat.lt_or_ge kk 1 with hlt | hge
    · obtain rfl : kk = 0 := by omega
      have HG := Aside0.mk hg
      clear hk1 hg hlt
      have k0 := pt_now HS.out
      go_upto_region 7 with (fail)
      have n_ := sep_drew HS.out
      have n0_ := Aside0.mk n_; clear HS n_; have HS := n0_; clear n0_
      generalize hw_ : World.drew _ = wd at HS
      have m0 : wd.cell? ⟨g7, 0, none⟩ = some (.int .u32 dst.f0) := sep_cell (sep_l4 HS.out) 0
      have q2 : wd.cell? ⟨q, 2, none⟩ = some (.int .u32 B.ip) := (box_cells (sep_l3 HS.out)).2.2.1
      subst hw_
      have e1 : (B.ip == dst.f0) = false := beq_eq_false_iff_ne.2 HIP.out
      have e2 := eq_false HIP.out
      have e3 : (B.ip != dst.f0) = true := by rw [bne, e1]; rfl
      go_region_held3 (fun w' => w'.cell? ⟨g7, 0, none⟩ = some (.int .u32 dst.f0)) (exact sep_cell (sep_l4 HS.out) 0) (first | (go_at_call 16; (with_reducible refine Calls.mono (box_IP q B.ip _ q2) ?_); rintro e w1 ⟨rfl, hb_⟩; have n_ := sep_below HS.out hb_; clear hb_; have n0_ := Aside0.mk n_; clear HS n_; have HS := n0_; clear n0_; skip) | fail)
      all_goals
        go_wp2
        go_roundg 1
        case measure => have := HG.out; omega
        case rel => exact ⟨1, by omega, by omega, rfl, HS⟩
    · obtain rfl : kk = 1 := by omega
      clear hk1 hg hge
      go_wp2
      go_ret
      exact ⟨rfl, net_mk (sep_drop (sep_l4 (sep_drop (sep_l4 HS.out))))⟩
end Go.Proofs.Ytobfabfoenldfaa.NW
