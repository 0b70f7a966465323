/- Nets: Rebind. Conditions: those that each theorem names. -/
import Derived.Test.YtobfabfoenldfaaNN
namespace Go.Proofs.Ytobfabfoenldfaa.NW
set_option linter.unusedVariables false
set_option linter.unusedSimpArgs false
open Go Go.RowKit Go.Proofs.YtobfabfoenldfaaS Go.Proofs.YtobfabfoenldfaaS.Asn Go.Proofs.Ytobfabfoenldfaa.PA Go.Proofs.YtobfabfoenldfaaW.PrintWords Go.Proofs.YtobfabfoenldfaaW.PrintLast Go.Proofs.YtobfabfoenldfaaW.PrintMore


open Go.Proofs.Ytobfabfoenldfaa.BG
set_option maxRecDepth 100000 in
theorem rebind_none (p : Nat) (k ip : Int) (A : Option Addr) (c : Nat) (qs : List Nat) (w : World) (hk : -1000 ≤ k ∧ k ≤ 1000) (hl : qs.length ≤ 100) (hb : boxP qs k = none) (h1 : w.cell? ⟨p, 1, none⟩ = some (.slice A qs.length c)) (hr : ptK.C w A qs.length qs) :
    Calls Try.prog 13 #[.pointer (some ⟨p, 0, none⟩), .int .i64 k, .int .u32 ip] w fun e w' => e = .returned (.int .i64 5) ∧ Below w.heap.size w w' := by
  have hx := net_Box p k A c qs w (by omega) hl h1 hr
  rw [hb] at hx
  have HX := Aside0.mk hx
  clear hx hk hl hb h1 hr
  go_enter Try.func13, Try.ntmps13
  go_wp2_with (go_at_call 15; (with_reducible refine Calls.mono HX.out ?_); rintro e w1 ⟨rfl, hb_⟩)
  go_ret
  exact ⟨rfl, hb_⟩
set_option maxRecDepth 100000 in
theorem rebind_taken (p : Nat) (k ip : Int) (A B : Option Addr) (c c2 : Nat) (qs : List Nat) (ips : List Int) (hs : List Hs) (q : Nat) (w : World) (hk : -1000 ≤ k ∧ k ≤ 1000) (hl : qs.length ≤ 100) (hi : ips.length = qs.length) (hb : boxP qs k = some ⟨q, 0, none⟩) (ht : owned ips ip (k - 1) = true ∨ hs.any (ipH ip) = true) (h0 : w.cell? ⟨p, 0, none⟩ = some (.slice B hs.length c2)) (hrh : hosK.C w B hs.length hs) (h1 : w.cell? ⟨p, 1, none⟩ = some (.slice A qs.length c)) (hr : ptK.C w A qs.length qs)
    (hc : ∀ (j : Nat) (q : Nat), qs[j]? = some q → w.cell? ⟨q, 2, none⟩ = some (.int .u32 (ips.getD j 0))) :
    Calls Try.prog 13 #[.pointer (some ⟨p, 0, none⟩), .int .i64 k, .int .u32 ip] w fun e w' => e = .returned (.int .i64 1) ∧ Below w.heap.size w w' := by
  have HS := Aside0.mk (sep_start w)
  have HQ := Aside0.mk (And.intro hl (And.intro hi hc))
  have H1 := Aside0.mk (And.intro h0 (And.intro hrh (And.intro h1 hr)))
  have hx := net_Box p k A c qs w (by omega) hl h1 hr
  rw [hb] at hx
  have HX := Aside0.mk hx
  have w1_ : wrap64 (k - 1) = k - 1 := by unfold wrap64; omega
  have w2_ : IntKind.i64.wrap (k - 1) = k - 1 := by rw [IntKind.wrap_i64]; omega
  clear hx hk hl hi hb h0 h1 hr hrh hc
  cases ho : owned ips ip (k - 1) with
  | true =>
    have HO := Aside0.mk ho
    clear ho ht
    go_enter Try.func13, Try.ntmps13
    go_wp2_with (first | (go_at_call 15; (with_reducible refine Calls.mono HX.out ?_); rintro e w1 ⟨rfl, hb_⟩; have n_ := sep_below HS.out hb_; clear hb_; have n0_ := Aside0.mk n_; clear HS n_; have HS := n0_; clear n0_) | (go_at_call 28; have hx_ := net_owned p ip (k - 1) A c qs ips _ HQ.out.1 HQ.out.2.1 (cell_now H1.out.2.2.1 (sep_below_of HS.out)) (Kd.C_below H1.out.2.2.2 (sep_below_of HS.out)) (fun j q hq => cell_now (HQ.out.2.2 j q hq) (sep_below_of HS.out)); rw [HO.out] at hx_; (with_reducible refine Calls.mono hx_ ?_); rintro e w1 ⟨rfl, hb_⟩; have n_ := sep_below HS.out hb_; clear hx_ hb_; have n0_ := Aside0.mk n_; clear HS n_; have HS := n0_; clear n0_))
    go_ret
    exact ⟨rfl, sep_below_of HS.out⟩
  | false =>
    have HO := Aside0.mk ho
    have HN := Aside0.mk (ht.resolve_left (by rw [ho]; decide))
    clear ho ht
    go_enter Try.func13, Try.ntmps13
    go_wp2_with (first | (go_at_call 15; (with_reducible refine Calls.mono HX.out ?_); rintro e w1 ⟨rfl, hb_⟩; have n_ := sep_below HS.out hb_; clear hb_; have n0_ := Aside0.mk n_; clear HS n_; have HS := n0_; clear n0_) | (go_at_call 28; have hx_ := net_owned p ip (k - 1) A c qs ips _ HQ.out.1 HQ.out.2.1 (cell_now H1.out.2.2.1 (sep_below_of HS.out)) (Kd.C_below H1.out.2.2.2 (sep_below_of HS.out)) (fun j q hq => cell_now (HQ.out.2.2 j q hq) (sep_below_of HS.out)); rw [HO.out] at hx_; (with_reducible refine Calls.mono hx_ ?_); rintro e w1 ⟨rfl, hb_⟩; have n_ := sep_below HS.out hb_; clear hx_ hb_; have n0_ := Aside0.mk n_; clear HS n_; have HS := n0_; clear n0_) | (go_at_call 29; have hx_ := net_inside p ip B c2 hs _ (cell_now H1.out.1 (sep_below_of HS.out)) (Kd.C_below H1.out.2.1 (sep_below_of HS.out)); rw [HN.out] at hx_; (with_reducible refine Calls.mono hx_ ?_); rintro e w1 ⟨rfl, hb_⟩; have n_ := sep_below HS.out hb_; clear hx_ hb_; have n0_ := Aside0.mk n_; clear HS n_; have HS := n0_; clear n0_))
    go_ret
    exact ⟨rfl, sep_below_of HS.out⟩
theorem net_cells {w0 w : World} {ok0 : Nat → Prop} {F : Asn} {p pb n1 c1 n2 c2 : Nat} {A B : Option Addr} {hs : List Hs} {qs : List Nat} (h : Sep w0 ok0 (pt p #[.slice A n1 c1, .slice B n2 c2, .pointer (some ⟨pb, 0, none⟩)] 67 ⋆ row hosK 34 (.slice A n1 c1) hs ⋆ row ptK 53 (.slice B n2 c2) qs ⋆ F) w) :
    w.cell? ⟨p, 0, none⟩ = some (.slice A n1 c1) ∧ hosK.C w A hs.length hs ∧ w.cell? ⟨p, 1, none⟩ = some (.slice B n2 c2) ∧ ptK.C w B qs.length qs ∧ w.cell? ⟨p, 2, none⟩ = some (.pointer (some ⟨pb, 0, none⟩)) :=
  ⟨sep_cell h 0, (sep_row' (sep_l1 h)).2.2, sep_cell h 1, (sep_row' (sep_l2 h)).2.2, sep_cell h 2⟩
/-- What the boxes' IPs are. -/
def IpsAre (X : Asn) (qs : List Nat) (ips : List Int) : Prop := ∀ (W : World) (ok_ : Nat → Prop), (X ⋆ emp).H W ok_ → ∀ (j : Nat) (q' : Nat), qs[j]? = some q' → W.cell? ⟨q', 2, none⟩ = some (.int .u32 (ips.getD j 0))
theorem ips_now {w0 w : World} {ok0 : Nat → Prop} {X F : Asn} {qs : List Nat} {ips : List Int} (hY : IpsAre X qs ips) (h : Sep w0 ok0 (X ⋆ F) w) : ∀ (j : Nat) (q' : Nat), qs[j]? = some q' → w.cell? ⟨q', 2, none⟩ = some (.int .u32 (ips.getD j 0)) := by
  obtain ⟨ok_, hp_, -⟩ := sep_use1 h
  exact hY w ok_ hp_
set_option maxRecDepth 100000 in
theorem rebind_ok (p pb : Nat) (k ip : Int) (qs : List Nat) (ips : List Int) (hs : List Hs) (q : Nat) (B : Bx) (Y : Asn) (w : World) (ok : Nat → Prop) (hk : -1000 ≤ k ∧ k ≤ 1000) (hl : qs.length ≤ 100) (hi : ips.length = qs.length) (hb : boxP qs k = some ⟨q, 0, none⟩) (ho : owned ips ip (k - 1) = false) (hn : hs.any (ipH ip) = false) (hip : ip ≠ 0) (hY : IpsAre (boxA q B ⋆ Y) qs ips) (h : (netA p hs qs pb ⋆ boxA q B ⋆ Y ⋆ emp).H w ok) :
    Calls Try.prog 13 #[.pointer (some ⟨p, 0, none⟩), .int .i64 k, .int .u32 ip] w fun e w' => e = .returned (.int .i64 0) ∧ Sep w ok (netA p hs qs pb ⋆ boxA q { B with ip := ip, l := [] } ⋆ Y ⋆ emp) w' := by
  obtain ⟨A, c, A', c', hcc, hcc', n_⟩ := net_open (sep_begin h)
  have HS := Aside0.mk n_
  have HB := Aside0.mk (And.intro hb (And.intro hl hi))
  have HO := Aside0.mk ho
  have HN := Aside0.mk hn
  have HY := Aside0.mk hY
  have HK := Aside0.mk (And.intro hk hip)
  have w1_ : wrap64 (k - 1) = k - 1 := by unfold wrap64; omega
  have w2_ : IntKind.i64.wrap (k - 1) = k - 1 := by rw [IntKind.wrap_i64]; omega
  clear n_ h hcc hcc' hb hl hi ho hn hY hk hip
  go_enter Try.func13, Try.ntmps13
  go_wp2_with (first
    | (go_at_call 15; obtain ⟨-, -, h1, hr, -⟩ := net_cells HS.out; have hx_ := net_Box p k A' c' qs _ (by have := HK.out.1; omega) HB.out.2.1 h1 hr; rw [HB.out.1] at hx_; (with_reducible refine Calls.mono hx_ ?_); rintro e w1 ⟨rfl, hb_⟩; have n_ := sep_below HS.out hb_; clear hx_ hb_ h1 hr; have n0_ := Aside0.mk n_; clear HS n_; have HS := n0_; clear n0_)
    | (go_at_call 28; obtain ⟨-, -, h1, hr, -⟩ := net_cells HS.out; have hx_ := net_owned p ip (k - 1) A' c' qs ips _ HB.out.2.1 HB.out.2.2 h1 hr (ips_now HY.out (sep_fold (sep_l4 (sep_l4 HS.out)))); rw [HO.out] at hx_; (with_reducible refine Calls.mono hx_ ?_); rintro e w1 ⟨rfl, hb_⟩; have n_ := sep_below HS.out hb_; clear hx_ hb_ h1 hr; have n0_ := Aside0.mk n_; clear HS n_; have HS := n0_; clear n0_)
    | (go_at_call 29; obtain ⟨h0, hrh, -, -, -⟩ := net_cells HS.out; have hx_ := net_inside p ip A c hs _ h0 hrh; rw [HN.out] at hx_; (with_reducible refine Calls.mono hx_ ?_); rintro e w1 ⟨rfl, hb_⟩; have n_ := sep_below HS.out hb_; clear hx_ hb_ h0 hrh; have n0_ := Aside0.mk n_; clear HS n_; have HS := n0_; clear n0_)
    | (go_at_call 33; obtain ⟨ok_, hp_, hk_⟩ := sep_use1 (sep_l3 HS.out); have hx_ := box_Rebind q B ip _ ok_ HK.out.2 hp_; (with_reducible refine Calls.mono hx_ ?_); rintro e w1 ⟨rfl, hq_⟩; have n_ := sep_l3 (sep_l3 (sep_l3 (back1 hk_ hq_))); clear hx_ hp_ hk_ hq_; have n0_ := Aside0.mk n_; clear HS n_; have HS := n0_; clear n0_))
  go_ret
  exact ⟨rfl, net_mk HS.out⟩
set_option maxRecDepth 100000 in
theorem rebind_zero (p pb : Nat) (k : Int) (qs : List Nat) (ips : List Int) (hs : List Hs) (q : Nat) (B : Bx) (Y : Asn) (w : World) (ok : Nat → Prop) (hk : -1000 ≤ k ∧ k ≤ 1000) (hl : qs.length ≤ 100) (hi : ips.length = qs.length) (hb : boxP qs k = some ⟨q, 0, none⟩) (ho : owned ips 0 (k - 1) = false) (hn : hs.any (ipH 0) = false) (hY : IpsAre (boxA q B ⋆ Y) qs ips) (h : (netA p hs qs pb ⋆ boxA q B ⋆ Y ⋆ emp).H w ok) :
    Calls Try.prog 13 #[.pointer (some ⟨p, 0, none⟩), .int .i64 k, .int .u32 0] w fun e w' => e = .returned (.int .i64 1) ∧ Sep w ok (netA p hs qs pb ⋆ boxA q B ⋆ Y ⋆ emp) w' := by
  obtain ⟨A, c, A', c', hcc, hcc', n_⟩ := net_open (sep_begin h)
  have HS := Aside0.mk n_
  have HB := Aside0.mk (And.intro hb (And.intro hl hi))
  have HO := Aside0.mk ho
  have HN := Aside0.mk hn
  have HY := Aside0.mk hY
  have HK := Aside0.mk (And.intro hk hk)
  have w1_ : wrap64 (k - 1) = k - 1 := by unfold wrap64; omega
  have w2_ : IntKind.i64.wrap (k - 1) = k - 1 := by rw [IntKind.wrap_i64]; omega
  clear n_ h hcc hcc' hb hl hi ho hn hY hk
  go_enter Try.func13, Try.ntmps13
  go_wp2_with (first
    | (go_at_call 15; obtain ⟨-, -, h1, hr, -⟩ := net_cells HS.out; have hx_ := net_Box p k A' c' qs _ (by have := HK.out.1; omega) HB.out.2.1 h1 hr; rw [HB.out.1] at hx_; (with_reducible refine Calls.mono hx_ ?_); rintro e w1 ⟨rfl, hb_⟩; have n_ := sep_below HS.out hb_; clear hx_ hb_ h1 hr; have n0_ := Aside0.mk n_; clear HS n_; have HS := n0_; clear n0_)
    | (go_at_call 28; obtain ⟨-, -, h1, hr, -⟩ := net_cells HS.out; have hx_ := net_owned p 0 (k - 1) A' c' qs ips _ HB.out.2.1 HB.out.2.2 h1 hr (ips_now HY.out (sep_fold (sep_l4 (sep_l4 HS.out)))); rw [HO.out] at hx_; (with_reducible refine Calls.mono hx_ ?_); rintro e w1 ⟨rfl, hb_⟩; have n_ := sep_below HS.out hb_; clear hx_ hb_ h1 hr; have n0_ := Aside0.mk n_; clear HS n_; have HS := n0_; clear n0_)
    | (go_at_call 29; obtain ⟨h0, hrh, -, -, -⟩ := net_cells HS.out; have hx_ := net_inside p 0 A c hs _ h0 hrh; rw [HN.out] at hx_; (with_reducible refine Calls.mono hx_ ?_); rintro e w1 ⟨rfl, hb_⟩; have n_ := sep_below HS.out hb_; clear hx_ hb_ h0 hrh; have n0_ := Aside0.mk n_; clear HS n_; have HS := n0_; clear n0_)
    | (go_at_call 33; (with_reducible refine Calls.mono (box_Rebind0 q _) ?_); rintro e w1 ⟨rfl, hb_⟩; have n_ := sep_below HS.out hb_; clear hb_; have n0_ := Aside0.mk n_; clear HS n_; have HS := n0_; clear n0_))
  go_ret
  exact ⟨rfl, net_mk HS.out⟩
end Go.Proofs.Ytobfabfoenldfaa.NW
