/- Nets: a net in memory; Send. Conditions: those that each theorem names. -/
import Derived.Test.YtobfabfoenldfaaNK
namespace Go.Proofs.Ytobfabfoenldfaa.NW
set_option linter.unusedVariables false
set_option linter.unusedSimpArgs false
open Go Go.RowKit Go.Proofs.YtobfabfoenldfaaS Go.Proofs.YtobfabfoenldfaaS.Asn Go.Proofs.Ytobfabfoenldfaa.PA Go.Proofs.YtobfabfoenldfaaW.PrintWords Go.Proofs.YtobfabfoenldfaaW.PrintLast Go.Proofs.YtobfabfoenldfaaW.PrintMore


open Go.Proofs.Ytobfabfoenldfaa.BG
/-- A net at block p: its hosts, its boxes' blocks, its bag's. -/
def netA (p : Nat) (hs : List Hs) (qs : List Nat) (pb : Nat) : Asn := ex fun v1 : Value => ex fun v2 : Value => pt p #[v1, v2, .pointer (some ⟨pb, 0, none⟩)] 67 ⋆ row hosK 34 v1 hs ⋆ row ptK 53 v2 qs
section
variable {w0 w : World} {ok0 : Nat → Prop} {F : Asn} {p pb : Nat} {hs : List Hs} {qs : List Nat}
theorem net_open (h : Sep w0 ok0 (netA p hs qs pb ⋆ F) w) : ∃ A c A' c', hs.length ≤ c ∧ qs.length ≤ c' ∧ Sep w0 ok0 (pt p #[.slice A hs.length c, .slice A' qs.length c', .pointer (some ⟨pb, 0, none⟩)] 67 ⋆ row hosK 34 (.slice A hs.length c) hs ⋆ row ptK 53 (.slice A' qs.length c') qs ⋆ F) w := by
  obtain ⟨v1, h⟩ := sep_ex_star h
  obtain ⟨v2, h⟩ := sep_ex_star h
  have h1 := sep_l2 (sep_flat (sep_l1 (sep_flat h)))
  obtain ⟨A, c, rfl, hc, -⟩ := sep_row (sep_l1 h1)
  obtain ⟨A', c', rfl, hc', -⟩ := sep_row (sep_l2 h1)
  exact ⟨A, c, A', c', hc, hc', h1⟩
theorem net_mk {v1 v2 : Value} (h : Sep w0 ok0 (pt p #[v1, v2, .pointer (some ⟨pb, 0, none⟩)] 67 ⋆ row hosK 34 v1 hs ⋆ row ptK 53 v2 qs ⋆ F) w) : Sep w0 ok0 (netA p hs qs pb ⋆ F) w :=
  sep_head (sep_fold (sep_l1 (sep_fold (sep_l2 (sep_l2 h))))) (fun ok hh => ⟨v1, v2, hh⟩)
end
theorem hos_now {w0 w : World} {ok0 : Nat → Prop} {B F : Asn} {g n c j : Nat} {hs : List Hs} {x : Hs} (h : Sep w0 ok0 (B ⋆ row hosK 34 (.slice (some ⟨g, 0, none⟩) n c) hs ⋆ F) w) (hj : hs[j]? = some x) : w.cell? ⟨g, j * 3, none⟩ = some (.int .u32 x.ip) ∧ w.cell? ⟨g, j * 3 + 1, none⟩ = some (.int .u16 x.po) ∧ w.cell? ⟨g, j * 3 + 2, none⟩ = some (.int .i64 x.bx) := by
  obtain ⟨ad, e, k0, k1, k2⟩ := hos_at (sep_row' (sep_l1 h)).2.2 j x hj
  cases e
  rw [add_at] at k0 k1 k2
  exact ⟨k0, k1, k2⟩
set_option maxHeartbeats 1000000 in
set_option maxRecDepth 100000 in
theorem send_plain (p pb : Nat) (hs : List Hs) (qs : List Nat) (l : List It) (room now : Int) (j : Nat) (h_ : Hs) (dst : S28) (s : ByteArray) (w : World) (ok : Nat → Prop) (hj : hs[j]? = some h_) (hb : h_.bx = 0) (ht : noneB dst.f0 dst.f1 = false) (hl : hs.length ≤ 100) (hq : qs.length ≤ 100) (h6 : room ≤ 256) (hn : 0 ≤ now ∧ now ≤ 1000000) (h : (netA p hs qs pb ⋆ bagA pb l room ⋆ emp).H w ok) :
    Calls Try.prog 11 #[.pointer (some ⟨p, 0, none⟩), .int .u64 now, .int .i64 ((j : Int) + 1), .agg #[.int .u32 dst.f0, .int .u16 dst.f1], .string s] w fun e w' => e = .returned (.int .i64 (putE room l ⟨h_.ip, h_.po, dst.f0, dst.f1, s, now + 1⟩)) ∧ Sep w ok (netA p hs qs pb ⋆ bagA pb (putL room l ⟨h_.ip, h_.po, dst.f0, dst.f1, s, now + 1⟩) room ⋆ emp) w' := by
  have HBX : Aside0 ((-9223372036854775807 ≤ h_.bx ∧ h_.bx ≤ 9223372036854775807) ∧ boxP qs h_.bx = none) := ⟨by omega, by unfold boxP; rw [if_pos (by omega)]⟩
  clear hb
  obtain ⟨A, c, A', c', hcc, hcc', n_⟩ := net_open (sep_begin h)
  have HCC := Aside0.mk (And.intro hcc hcc')
  have HS := Aside0.mk n_
  clear h hcc hcc' n_
  have hjl : j < hs.length := (List.getElem?_eq_some_iff.1 hj).1
  have HL := Aside0.mk (And.intro hj (And.intro hl (And.intro hq (And.intro h6 hn))))
  have H1 : Aside0 (addr_Addr_None.f dst.f0 dst.f1 = some false) := ⟨by rw [none_f, ht]⟩
  have r1 : decide (4611686018427387904 < now) = false := decide_eq_false (by omega)
  have r2 : (4611686018427387904 < now) = False := eq_false (by omega)
  have e1 : decide ((j : Int) + 1 < 1) = false := decide_eq_false (by omega)
  have e2 : ((j : Int) + 1 < 1) = False := eq_false (by omega)
  have e3 : decide ((hs.length : Int) < (j : Int) + 1) = false := decide_eq_false (by omega)
  have e4 : ((hs.length : Int) < (j : Int) + 1) = False := eq_false (by omega)
  have e5 : ((j : Int) < 0) = False := eq_false (by omega)
  have e6 : ((hs.length : Int) ≤ (j : Int)) = False := eq_false (by omega)
  have w1_ : wrap64 ((j : Int) + 1 - 1) = (j : Int) := by unfold wrap64; omega
  have w2_ : IntKind.i64.wrap ((j : Int) + 1 - 1) = (j : Int) := by rw [IntKind.wrap_i64]; omega
  have w3_ : wrap64 (j : Int) = (j : Int) := by unfold wrap64; omega
  have w4_ : IntKind.i64.wrap (j : Int) = (j : Int) := by rw [IntKind.wrap_i64]; omega
  have c1b : decide ((j : Int) < (hs.length : Int)) = true := decide_eq_true (Int.ofNat_lt.2 hjl); have c1n : decide (j < hs.length) = true := decide_eq_true hjl; have c1i : ((j : Int) < (hs.length : Int)) = True := eq_true (Int.ofNat_lt.2 hjl); have c1q : (j < hs.length) = True := eq_true hjl; have p0_ := eq_true (Int.natCast_nonneg j)
  obtain ⟨g, hA⟩ := row_addr (sep_l1 HS.out) (by omega)
  subst hA
  clear hj hl hq h6 hn ht hjl
  go_enter Try.func11, Try.ntmps11
  go_upto_region 1 with (fail)
  have n_ := sep_l4 (sep_l4 (sep_l4 (sep_l4 (sep_allocg HS.out #[.int .u32 dst.f0, .int .u16 dst.f1] 28 _ rfl))))
  have n0_ := Aside0.mk n_; clear HS n_; have HS := n0_; clear n0_
  generalize World.alloc _ _ = wa at HS ⊢
  generalize Array.size (World.heap _) = g8 at HS ⊢
  have p0 := sep_cell HS.out 0
  have p1 := sep_cell HS.out 1
  have m0 := sep_cell (sep_l4 HS.out) 0
  have m1 := sep_cell (sep_l4 HS.out) 1
  go_upto_region 3 with ((go_at_call 26; (with_reducible refine Calls.mono (addr_Addr_None.calls dst.f0 dst.f1 false _ H1.out) ?_); rintro e w1 ⟨rfl, hb_⟩; have n_ := sep_below HS.out hb_; clear hb_; have n0_ := Aside0.mk n_; clear HS n_; have HS := n0_; clear n0_; skip))
  clear p0 p1 m0 m1
  have p0 := sep_cell HS.out 0
  obtain ⟨k0, k1, k2⟩ := hos_now HS.out HL.out.1
  have q0 := sep_cell (sep_l4 HS.out) 0
  have q1 := sep_cell (sep_l4 HS.out) 1
  go_upto_region 4 with (fail)
  have n_ := sep_allocg HS.out #[.int .u32 h_.ip, .int .u16 h_.po, .int .i64 h_.bx] 34 _ rfl
  have n0_ := Aside0.mk n_; clear HS n_; have HS := n0_; clear n0_
  generalize World.alloc _ _ = wb at HS ⊢
  generalize Array.size (World.heap _) = g11 at HS ⊢
  have k3 := sep_cell HS.out 0
  have k4 := sep_cell HS.out 1
  clear k0 k1 k2
  go_upto_region 5 with (fail)
  have n_ := sep_l6 (sep_l6 (sep_l6 (sep_l6 (sep_l6 (sep_allocg HS.out #[.int .u32 h_.ip, .int .u16 h_.po] 28 _ rfl)))))
  have n0_ := Aside0.mk n_; clear HS n_; have HS := n0_; clear n0_
  generalize World.alloc _ _ = wc at HS ⊢
  generalize Array.size (World.heap _) = g12 at HS ⊢
  clear k3 k4 p0 q0 q1
  have k2 := sep_cell (sep_l6 HS.out) 2
  have p1 : wc.cell? ⟨p, 1, none⟩ = some (.slice A' qs.length c') := sep_cell HS.out 1
  go_upto_region 6 with ((go_at_call 15; (with_reducible refine Calls.mono (net_Box p h_.bx A' c' qs _ HBX.out.1 HL.out.2.2.1 p1 (sep_row' (sep_l2 HS.out)).2.2) ?_); rintro e w1 ⟨rfl, hb_⟩; have n_ := sep_below HS.out hb_; clear hb_; have n0_ := Aside0.mk n_; clear HS n_; have HS := n0_; clear n0_; rw [HBX.out.2]))
  clear k2 p1 e1 e2 e3 e4 e5 e6 w1_ w2_ w3_ w4_
  go_upto_region 8 with (fail)
  have a0 := sep_cell (sep_l5 HS.out) 0
  have a1 := sep_cell (sep_l5 HS.out) 1
  have b0 := sep_cell (sep_l4 HS.out) 0
  have b1 := sep_cell (sep_l4 HS.out) 1
  go_wp2_with (go_at_call 18; obtain ⟨ok_, hp_, hk_⟩ := sep_use2 (sep_l1 (sep_l3 HS.out)); have hx_ := net_Inject p pb _ _ l room now ⟨h_.ip, h_.po⟩ dst s _ ok_ HL.out.2.2.2.1 HL.out.2.2.2.2 hp_; (with_reducible refine Calls.mono hx_ ?_); rintro e w1 ⟨rfl, hq_⟩; have n_ := sep_l2 (sep_l3 (sep_l3 (back2 hk_ hq_))); clear hx_ hp_ hk_ hq_ a0 a1 b0 b1; have n0_ := Aside0.mk n_; clear HS n_; have HS := n0_; clear n0_)
  go_ret
  exact ⟨rfl, net_mk (sep_drop (sep_l4 (sep_drop (sep_l4 (sep_drop (sep_l4 HS.out))))))⟩
/-- What a box's Out does, at hand. -/
def OutIs (q : Nat) (B B2 : Bx) (now : Int) (src dst fr : S28) : Prop := ∀ (W : World) (ok_ : Nat → Prop), (boxA q B ⋆ emp).H W ok_ → Calls Try.prog 30 #[.pointer (some ⟨q, 0, none⟩), .int .u64 now, .agg #[.int .u32 src.f0, .int .u16 src.f1], .agg #[.int .u32 dst.f0, .int .u16 dst.f1]] W fun e w' => e = .returned (.tuple #[.agg #[.int .u32 fr.f0, .int .u16 fr.f1], .int .i64 0]) ∧ Sep W ok_ (boxA q B2 ⋆ emp) w'
set_option maxHeartbeats 1000000 in
set_option maxRecDepth 100000 in
theorem send_box (p pb : Nat) (hs : List Hs) (qs : List Nat) (l : List It) (room now : Int) (j : Nat) (h_ : Hs) (q : Nat) (B B2 : Bx) (dst fr : S28) (s : ByteArray) (w : World) (ok : Nat → Prop) (hj : hs[j]? = some h_) (hb0 : 0 ≤ h_.bx ∧ h_.bx ≤ 1000) (hb : boxP qs h_.bx = some ⟨q, 0, none⟩) (ht : noneB dst.f0 dst.f1 = false) (hl : hs.length ≤ 100) (hq : qs.length ≤ 100) (h6 : room ≤ 256) (hn : 0 ≤ now ∧ now ≤ 1000000) (hout : OutIs q B B2 now ⟨h_.ip, h_.po⟩ dst fr) (h : (netA p hs qs pb ⋆ bagA pb l room ⋆ boxA q B ⋆ emp).H w ok) :
    Calls Try.prog 11 #[.pointer (some ⟨p, 0, none⟩), .int .u64 now, .int .i64 ((j : Int) + 1), .agg #[.int .u32 dst.f0, .int .u16 dst.f1], .string s] w fun e w' => e = .returned (.int .i64 (putE room l ⟨fr.f0, fr.f1, dst.f0, dst.f1, s, now + 1⟩)) ∧ Sep w ok (netA p hs qs pb ⋆ bagA pb (putL room l ⟨fr.f0, fr.f1, dst.f0, dst.f1, s, now + 1⟩) room ⋆ boxA q B2 ⋆ emp) w' := by
  have HBX : Aside0 ((-9223372036854775807 ≤ h_.bx ∧ h_.bx ≤ 9223372036854775807) ∧ boxP qs h_.bx = some ⟨q, 0, none⟩) := ⟨by omega, hb⟩
  have HOUT := Aside0.mk hout
  clear hb hb0 hout
  obtain ⟨A, c, A', c', hcc, hcc', n_⟩ := net_open (sep_begin h)
  have HCC := Aside0.mk (And.intro hcc hcc')
  have HS := Aside0.mk n_
  clear h hcc hcc' n_
  have hjl : j < hs.length := (List.getElem?_eq_some_iff.1 hj).1
  have HL := Aside0.mk (And.intro hj (And.intro hl (And.intro hq (And.intro h6 hn))))
  have H1 : Aside0 (addr_Addr_None.f dst.f0 dst.f1 = some false) := ⟨by rw [none_f, ht]⟩
  have r1 : decide (4611686018427387904 < now) = false := decide_eq_false (by omega)
  have r2 : (4611686018427387904 < now) = False := eq_false (by omega)
  have e1 : decide ((j : Int) + 1 < 1) = false := decide_eq_false (by omega)
  have e2 : ((j : Int) + 1 < 1) = False := eq_false (by omega)
  have e3 : decide ((hs.length : Int) < (j : Int) + 1) = false := decide_eq_false (by omega)
  have e4 : ((hs.length : Int) < (j : Int) + 1) = False := eq_false (by omega)
  have e5 : ((j : Int) < 0) = False := eq_false (by omega)
  have e6 : ((hs.length : Int) ≤ (j : Int)) = False := eq_false (by omega)
  have w1_ : wrap64 ((j : Int) + 1 - 1) = (j : Int) := by unfold wrap64; omega
  have w2_ : IntKind.i64.wrap ((j : Int) + 1 - 1) = (j : Int) := by rw [IntKind.wrap_i64]; omega
  have w3_ : wrap64 (j : Int) = (j : Int) := by unfold wrap64; omega
  have w4_ : IntKind.i64.wrap (j : Int) = (j : Int) := by rw [IntKind.wrap_i64]; omega
  have c1b : decide ((j : Int) < (hs.length : Int)) = true := decide_eq_true (Int.ofNat_lt.2 hjl); have c1n : decide (j < hs.length) = true := decide_eq_true hjl; have c1i : ((j : Int) < (hs.length : Int)) = True := eq_true (Int.ofNat_lt.2 hjl); have c1q : (j < hs.length) = True := eq_true hjl; have p0_ := eq_true (Int.natCast_nonneg j)
  obtain ⟨g, hA⟩ := row_addr (sep_l1 HS.out) (by omega)
  subst hA
  clear hj hl hq h6 hn ht hjl
  go_enter Try.func11, Try.ntmps11
  go_upto_region 1 with (fail)
  have n_ := sep_l4 (sep_l4 (sep_l4 (sep_l4 (sep_allocg HS.out #[.int .u32 dst.f0, .int .u16 dst.f1] 28 _ rfl))))
  have n0_ := Aside0.mk n_; clear HS n_; have HS := n0_; clear n0_
  generalize World.alloc _ _ = wa at HS ⊢
  generalize Array.size (World.heap _) = g8 at HS ⊢
  have p0 := sep_cell HS.out 0
  have p1 := sep_cell HS.out 1
  have m0 := sep_cell (sep_l4 HS.out) 0
  have m1 := sep_cell (sep_l4 HS.out) 1
  go_upto_region 3 with ((go_at_call 26; (with_reducible refine Calls.mono (addr_Addr_None.calls dst.f0 dst.f1 false _ H1.out) ?_); rintro e w1 ⟨rfl, hb_⟩; have n_ := sep_below HS.out hb_; clear hb_; have n0_ := Aside0.mk n_; clear HS n_; have HS := n0_; clear n0_; skip))
  clear p0 p1 m0 m1
  have p0 := sep_cell HS.out 0
  obtain ⟨k0, k1, k2⟩ := hos_now HS.out HL.out.1
  have q0 := sep_cell (sep_l4 HS.out) 0
  have q1 := sep_cell (sep_l4 HS.out) 1
  go_upto_region 4 with (fail)
  have n_ := sep_allocg HS.out #[.int .u32 h_.ip, .int .u16 h_.po, .int .i64 h_.bx] 34 _ rfl
  have n0_ := Aside0.mk n_; clear HS n_; have HS := n0_; clear n0_
  generalize World.alloc _ _ = wb at HS ⊢
  generalize Array.size (World.heap _) = g11 at HS ⊢
  have k3 := sep_cell HS.out 0
  have k4 := sep_cell HS.out 1
  clear k0 k1 k2
  go_upto_region 5 with (fail)
  have n_ := sep_l6 (sep_l6 (sep_l6 (sep_l6 (sep_l6 (sep_allocg HS.out #[.int .u32 h_.ip, .int .u16 h_.po] 28 _ rfl)))))
  have n0_ := Aside0.mk n_; clear HS n_; have HS := n0_; clear n0_
  generalize World.alloc _ _ = wc at HS ⊢
  generalize Array.size (World.heap _) = g12 at HS ⊢
  clear k3 k4 p0 q0 q1
  have k2 := sep_cell (sep_l6 HS.out) 2
  have p1 : wc.cell? ⟨p, 1, none⟩ = some (.slice A' qs.length c') := sep_cell HS.out 1
  go_upto_region 6 with ((go_at_call 15; (with_reducible refine Calls.mono (net_Box p h_.bx A' c' qs _ HBX.out.1 HL.out.2.2.1 p1 (sep_row' (sep_l2 HS.out)).2.2) ?_); rintro e w1 ⟨rfl, hb_⟩; have n_ := sep_below HS.out hb_; clear hb_; have n0_ := Aside0.mk n_; clear HS n_; have HS := n0_; clear n0_; rw [HBX.out.2]))
  clear k2 p1 e1 e2 e3 e4 e5 e6 w1_ w2_ w3_ w4_
  have k3 := sep_cell (sep_l6 HS.out) 0
  have k4 := sep_cell (sep_l6 HS.out) 1
  have b0 := sep_cell (sep_l4 HS.out) 0
  have b1 := sep_cell (sep_l4 HS.out) 1
  go_upto_region 7 with (fail)
  go_upto_region 8 with (go_at_call 30; obtain ⟨ok_, hp_, hk_⟩ := sep_use1 (sep_l7 HS.out); have hx_ := HOUT.out _ ok_ hp_; (with_reducible refine Calls.mono hx_ ?_); rintro e w1 ⟨rfl, hq_⟩; have n_ := sep_l7 (sep_l7 (sep_l7 (sep_l7 (sep_l7 (sep_l7 (sep_l7 (back1 hk_ hq_))))))); clear hx_ hp_ hk_ hq_ k3 k4 b0 b1; have n0_ := Aside0.mk n_; clear HS n_; have HS := n0_; clear n0_; have k3 := sep_cell (sep_l5 HS.out) 0; have k4 := sep_cell (sep_l5 HS.out) 1; have f0 := sep_frozen (sep_l5 HS.out); have f00 := f0 0; have f01 := f0 1; clear f0)
  have n_ := sep_l5 (sep_l5 (sep_l5 (sep_l5 (sep_l5 (sep_set (sep_set (sep_l5 HS.out) 0 (.int .u32 fr.f0)) 1 (.int .u16 fr.f1))))))
  clear k3 k4 f00 f01
  have n0_ := Aside0.mk n_; clear HS n_; have HS := n0_; clear n0_
  generalize World.setCell _ _ _ = wd at HS ⊢
  have a0 := sep_cell (sep_l5 HS.out) 0
  have a1 := sep_cell (sep_l5 HS.out) 1
  have b0 := sep_cell (sep_l4 HS.out) 0
  have b1 := sep_cell (sep_l4 HS.out) 1
  go_wp2_with (go_at_call 18; obtain ⟨ok_, hp_, hk_⟩ := sep_use2 (sep_l1 (sep_l3 HS.out)); have hx_ := net_Inject p pb _ _ l room now fr dst s _ ok_ HL.out.2.2.2.1 HL.out.2.2.2.2 hp_; (with_reducible refine Calls.mono hx_ ?_); rintro e w1 ⟨rfl, hq_⟩; have n_ := sep_l2 (sep_l3 (sep_l3 (back2 hk_ hq_))); clear hx_ hp_ hk_ hq_ a0 a1 b0 b1; have n0_ := Aside0.mk n_; clear HS n_; have HS := n0_; clear n0_)
  go_ret
  exact ⟨rfl, net_mk (sep_drop (sep_l4 (sep_drop (sep_l4 (sep_drop (sep_l4 HS.out))))))⟩
set_option maxRecDepth 100000 in
theorem send_err (p : Nat) (now : Int) (k : Int) (dst : S28) (s : ByteArray) (A : Option Addr) (c : Nat) (hs : List Hs) (w : World) (hk : k < 1 ∨ (hs.length : Int) < k ∨ noneB dst.f0 dst.f1 = true) (h0 : w.cell? ⟨p, 0, none⟩ = some (.slice A hs.length c)) :
    Calls Try.prog 11 #[.pointer (some ⟨p, 0, none⟩), .int .u64 now, .int .i64 k, .agg #[.int .u32 dst.f0, .int .u16 dst.f1], .string s] w fun e w' => e = .returned (.int .i64 1) ∧ Below w.heap.size w w' := by
  have HS := Aside0.mk (sep_start w)
  have H0 := Aside0.mk h0
  clear h0
  by_cases c1 : k < 1
  · have e1 : decide (k < 1) = true := decide_eq_true c1
    have e2 := eq_true c1
    clear hk c1
    go_enter Try.func11, Try.ntmps11
    go_upto_region 1 with (fail)
    have n_ := sep_allocg HS.out #[.int .u32 dst.f0, .int .u16 dst.f1] 28 _ rfl
    have n0_ := Aside0.mk n_; clear HS n_; have HS := n0_; clear n0_
    generalize World.alloc _ _ = wa at HS ⊢
    generalize Array.size (World.heap _) = g8 at HS ⊢
    have p0 := cell_now H0.out (sep_below_of HS.out)
    have m0 := sep_cell HS.out 0
    have m1 := sep_cell HS.out 1
    go_wp2
    go_ret
    exact ⟨rfl, sep_below_of HS.out⟩
  have e1 : decide (k < 1) = false := decide_eq_false c1
  have e2 := eq_false c1
  by_cases c2 : (hs.length : Int) < k
  · have e3 : decide ((hs.length : Int) < k) = true := decide_eq_true c2
    have e4 := eq_true c2
    clear hk c1 c2
    go_enter Try.func11, Try.ntmps11
    go_upto_region 1 with (fail)
    have n_ := sep_allocg HS.out #[.int .u32 dst.f0, .int .u16 dst.f1] 28 _ rfl
    have n0_ := Aside0.mk n_; clear HS n_; have HS := n0_; clear n0_
    generalize World.alloc _ _ = wa at HS ⊢
    generalize Array.size (World.heap _) = g8 at HS ⊢
    have p0 := cell_now H0.out (sep_below_of HS.out)
    have m0 := sep_cell HS.out 0
    have m1 := sep_cell HS.out 1
    go_wp2
    go_ret
    exact ⟨rfl, sep_below_of HS.out⟩
  have e3 : decide ((hs.length : Int) < k) = false := decide_eq_false c2
  have e4 := eq_false c2
  have hn : noneB dst.f0 dst.f1 = true := by
    rcases hk with h | h | h
    · exact absurd h c1
    · exact absurd h c2
    · exact h
  have H1 : Aside0 (addr_Addr_None.f dst.f0 dst.f1 = some true) := ⟨by rw [none_f, hn]⟩
  clear hk c1 c2 hn
  go_enter Try.func11, Try.ntmps11
  go_upto_region 1 with (fail)
  have n_ := sep_allocg HS.out #[.int .u32 dst.f0, .int .u16 dst.f1] 28 _ rfl
  have n0_ := Aside0.mk n_; clear HS n_; have HS := n0_; clear n0_
  generalize World.alloc _ _ = wa at HS ⊢
  generalize Array.size (World.heap _) = g8 at HS ⊢
  have p0 := cell_now H0.out (sep_below_of HS.out)
  have m0 := sep_cell HS.out 0
  have m1 := sep_cell HS.out 1
  go_wp2_with ((go_at_call 26; (with_reducible refine Calls.mono (addr_Addr_None.calls dst.f0 dst.f1 true _ H1.out) ?_); rintro e w1 ⟨rfl, hb_⟩; have n_ := sep_below HS.out hb_; clear hb_; have n0_ := Aside0.mk n_; clear HS n_; have HS := n0_; clear n0_; skip))
  go_ret
  exact ⟨rfl, sep_below_of HS.out⟩
end Go.Proofs.Ytobfabfoenldfaa.NW
