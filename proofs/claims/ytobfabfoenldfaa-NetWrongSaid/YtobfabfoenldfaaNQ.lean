/- Nets: what the laws call, over a net as a whole. Conditions: those that each theorem names. -/
import Derived.Test.YtobfabfoenldfaaNP
namespace Go.Proofs.Ytobfabfoenldfaa.NW
set_option linter.unusedVariables false
set_option linter.unusedSimpArgs false
open Go Go.RowKit Go.Proofs.YtobfabfoenldfaaS Go.Proofs.YtobfabfoenldfaaS.Asn Go.Proofs.Ytobfabfoenldfaa.PA Go.Proofs.YtobfabfoenldfaaW.PrintWords Go.Proofs.YtobfabfoenldfaaW.PrintLast Go.Proofs.YtobfabfoenldfaaW.PrintMore

open Go.Proofs.Ytobfabfoenldfaa.BG
/-! ## literals -/
theorem lit_hos {w0 w : World} {ok0 : Nat → Prop} {F : Asn} {g : Nat} {t : TypeId} {cs : Array Value} (hs : List Hs) (h : Sep w0 ok0 (pt g cs t ⋆ F) w) (hl : hs.length ≤ 100) (hcs : ∀ (j : Nat) (x : Hs), hs[j]? = some x → cs[j * 3]? = some (.int .u32 x.ip) ∧ cs[j * 3 + 1]? = some (.int .u16 x.po) ∧ cs[j * 3 + 2]? = some (.int .i64 x.bx)) : hosK.C w (some ⟨g, 0, none⟩) hs.length hs := by
  refine ⟨rfl, by have : (100 : Int) ≤ maxLen := by decide
                  omega, fun _ => ⟨_, rfl, fun i y hy => ?_⟩⟩
  obtain ⟨h0, h1, h2⟩ := hcs i y hy
  refine ⟨y.cells, rfl, hosK_K w y, fun j u hu => ?_⟩
  rw [add_at, show hosK.sz = 3 from rfl, sep_cell h]
  match j, hu with
  | 0, hu => obtain rfl : _ = u := by simpa [Hs.cells] using hu
             exact h0
  | 1, hu => obtain rfl : _ = u := by simpa [Hs.cells] using hu
             exact h1
  | 2, hu => obtain rfl : _ = u := by simpa [Hs.cells] using hu
             exact h2
theorem lit_sp {w0 w : World} {ok0 : Nat → Prop} {F : Asn} {g : Nat} {t : TypeId} {cs : Array Value} (sp : List Sp) (h : Sep w0 ok0 (pt g cs t ⋆ F) w) (hl : sp.length ≤ 100) (hcs : ∀ (j : Nat) (x : Sp), sp[j]? = some x → cs[j * 5]? = some (.int .i64 x.mp) ∧ cs[j * 5 + 1]? = some (.int .i64 x.fl) ∧ cs[j * 5 + 2]? = some (.int .u32 x.ip) ∧ cs[j * 5 + 3]? = some (.int .u64 x.hold) ∧ cs[j * 5 + 4]? = some (.int .i64 x.room)) : spK.C w (some ⟨g, 0, none⟩) sp.length sp := by
  refine ⟨rfl, by have : (100 : Int) ≤ maxLen := by decide
                  omega, fun _ => ⟨_, rfl, fun i y hy => ?_⟩⟩
  obtain ⟨h0, h1, h2, h3, h4⟩ := hcs i y hy
  refine ⟨y.cells, rfl, spK_K w y, fun j u hu => ?_⟩
  rw [add_at, show spK.sz = 5 from rfl, sep_cell h]
  match j, hu with
  | 0, hu => obtain rfl : _ = u := by simpa [Sp.cells] using hu
             exact h0
  | 1, hu => obtain rfl : _ = u := by simpa [Sp.cells] using hu
             exact h1
  | 2, hu => obtain rfl : _ = u := by simpa [Sp.cells] using hu
             exact h2
  | 3, hu => obtain rfl : _ = u := by simpa [Sp.cells] using hu
             exact h3
  | 4, hu => obtain rfl : _ = u := by simpa [Sp.cells] using hu
             exact h4
/-! ## New -/
section
variable (A A2 : Option Addr) (c c2 : Nat) (hs : List Hs) (n : Nat) (room : Int) (w : World)
theorem new_zero (hn : hs.length = n) (h1 : 1 ≤ n ∧ n ≤ 32) (hr : 1 ≤ room ∧ room ≤ 256) (hb : hostsBad 0 [] hs = false) (hC : hosK.C w A n hs) :
    Calls Try.prog 10 #[.slice A n c, .slice none 0 0, .int .i64 room] w fun e w' => ∃ p pb, e = .returned (.tuple #[.pointer (some ⟨p, 0, none⟩), .int .i64 0]) ∧ Sep w (fun _ => False) (netA p hs [] pb ⋆ bagA pb [] room ⋆ emp) w' := by
  subst hn
  refine Calls.mono (net_New A none c 0 hs [] room w h1 (by decide) hr (fun s h => by cases h) hC ⟨rfl, by decide, fun h => absurd h (by decide)⟩) ?_
  intro e w' h
  unfold NewR at h
  rw [if_neg (by simp [hb, specsBad])] at h
  obtain ⟨p, pb, qs, he, hq, hS⟩ := h
  obtain rfl : qs = [] := List.length_eq_zero_iff.1 hq
  exact ⟨p, pb, he, sep_drop (sep_l2 hS)⟩
theorem new_one (s : Sp) (hn : hs.length = n) (h1 : 1 ≤ n ∧ n ≤ 32) (hr : 1 ≤ room ∧ room ≤ 256) (hR : Right s) (hb : hostsBad 1 [] hs = false) (hsb : specBad hs [] s = false) (hC : hosK.C w A n hs) (hC2 : spK.C w A2 1 [s]) :
    Calls Try.prog 10 #[.slice A n c, .slice A2 1 c2, .int .i64 room] w fun e w' => ∃ p pb q, e = .returned (.tuple #[.pointer (some ⟨p, 0, none⟩), .int .i64 0]) ∧ Sep w (fun _ => False) (netA p hs [q] pb ⋆ bagA pb [] room ⋆ boxA q s.bx ⋆ emp) w' := by
  subst hn
  refine Calls.mono (net_New A A2 c c2 hs [s] room w h1 (Nat.le_of_ble_eq_true rfl) hr (fun x hx => by obtain rfl := List.mem_singleton.1 hx; exact hR) hC hC2) ?_
  intro e w' h
  unfold NewR at h
  rw [if_neg (by
    have e1 : specsBad hs [] [s] = false := by unfold specsBad; rw [hsb]; rfl
    have e2 : hostsBad [s].length [] hs = false := hb
    rw [e1, e2]; decide)] at h
  obtain ⟨p, pb, qs, he, hq, hS⟩ := h
  obtain ⟨q, rfl⟩ := List.length_eq_one_iff.1 hq
  have hS : Sep w (fun _ => False) (netA p hs [q] pb ⋆ bagA pb [] room ⋆ (boxA q s.bx ⋆ emp) ⋆ emp) w' := hS
  have h1 := sep_drop (sep_l1 (sep_flat (sep_l2 hS)))
  exact ⟨p, pb, q, he, sep_l2 (sep_l2 h1)⟩
theorem new_two (s u : Sp) (hn : hs.length = n) (h1 : 1 ≤ n ∧ n ≤ 32) (hr : 1 ≤ room ∧ room ≤ 256) (hR : Right s) (hR2 : Right u) (hb : hostsBad 2 [] hs = false) (hsb : specsBad hs [] [s, u] = false) (hC : hosK.C w A n hs) (hC2 : spK.C w A2 2 [s, u]) :
    Calls Try.prog 10 #[.slice A n c, .slice A2 2 c2, .int .i64 room] w fun e w' => ∃ p pb q r, e = .returned (.tuple #[.pointer (some ⟨p, 0, none⟩), .int .i64 0]) ∧ Sep w (fun _ => False) (netA p hs [q, r] pb ⋆ boxA q s.bx ⋆ boxA r u.bx ⋆ emp) w' := by
  subst hn
  refine Calls.mono (net_New A A2 c c2 hs [s, u] room w h1 (Nat.le_of_ble_eq_true rfl) hr (fun x hx => by rcases List.mem_cons.1 hx with rfl | hx; exact hR; obtain rfl := List.mem_singleton.1 hx; exact hR2) hC hC2) ?_
  intro e w' h
  unfold NewR at h
  rw [if_neg (by
    have e2 : hostsBad [s, u].length [] hs = false := hb
    rw [hsb, e2]; decide)] at h
  obtain ⟨p, pb, qs, he, hq, hS⟩ := h
  match qs, hq with
  | [q, r], _ =>
    have hS : Sep w (fun _ => False) (netA p hs [q, r] pb ⋆ bagA pb [] room ⋆ (boxA q s.bx ⋆ (boxA r u.bx ⋆ emp)) ⋆ emp) w' := hS
    have h1 := sep_flat (sep_l1 (sep_flat (sep_l1 (sep_drop (sep_l1 hS)))))
    exact ⟨p, pb, q, r, he, sep_l2 (sep_l1 (sep_drop (sep_l1 h1)))⟩
end
/-! ## the bag -/
section
variable (p pb : Nat) (hs : List Hs) (qs : List Nat) (l : List It) (room now pick : Int) (w : World) (ok : Nat → Prop)
theorem inject_A (a b : S28) (s : ByteArray) (h6 : room ≤ 256) (hn : 0 ≤ now ∧ now ≤ 1000000) (h : (netA p hs qs pb ⋆ bagA pb l room ⋆ emp).H w ok) :
    Calls Try.prog 18 #[.pointer (some ⟨p, 0, none⟩), .int .u64 now, .agg #[.int .u32 a.f0, .int .u16 a.f1], .agg #[.int .u32 b.f0, .int .u16 b.f1], .string s] w fun e w' => e = .returned (.int .i64 (putE room l ⟨a.f0, a.f1, b.f0, b.f1, s, now + 1⟩)) ∧ Sep w ok (netA p hs qs pb ⋆ bagA pb (putL room l ⟨a.f0, a.f1, b.f0, b.f1, s, now + 1⟩) room ⋆ emp) w' := by
  obtain ⟨A, c, A', c', -, -, n_⟩ := net_open (sep_begin h)
  obtain ⟨ok_, hp_, hk_⟩ := sep_use2 (sep_l1 (sep_l3 n_))
  refine Calls.mono (net_Inject p pb _ _ l room now a b s _ ok_ h6 hn hp_) ?_
  rintro e w1 ⟨rfl, hq_⟩
  exact ⟨rfl, net_mk (sep_l2 (sep_l3 (sep_l3 (back2 hk_ hq_))))⟩
theorem drop_A (hp : pick ≤ 9223372036854775807) (h : (netA p hs qs pb ⋆ bagA pb l room ⋆ emp).H w ok) :
    Calls Try.prog 17 #[.pointer (some ⟨p, 0, none⟩), .int .i64 pick] w fun e w' => e = .returned (.int .i64 (awayE l 18446744073709551615 pick).2.1) ∧ Sep w ok (netA p hs qs pb ⋆ bagA pb (awayE l 18446744073709551615 pick).2.2 room ⋆ emp) w' := by
  obtain ⟨A, c, A', c', -, -, n_⟩ := net_open (sep_begin h)
  obtain ⟨ok_, hp_, hk_⟩ := sep_use2 (sep_l1 (sep_l3 n_))
  refine Calls.mono (net_Drop p pb _ _ l room pick _ ok_ hp hp_) ?_
  rintro e w1 ⟨rfl, hq_⟩
  exact ⟨rfl, net_mk (sep_l2 (sep_l3 (sep_l3 (back2 hk_ hq_))))⟩
theorem twice_A (h6 : room ≤ 256) (hp : pick ≤ 9223372036854775807) (h : (netA p hs qs pb ⋆ bagA pb l room ⋆ emp).H w ok) :
    Calls Try.prog 22 #[.pointer (some ⟨p, 0, none⟩), .int .i64 pick] w fun e w' => e = .returned (.int .i64 (twiceE room l pick)) ∧ Sep w ok (netA p hs qs pb ⋆ bagA pb (twiceL room l pick) room ⋆ emp) w' := by
  obtain ⟨A, c, A', c', -, -, n_⟩ := net_open (sep_begin h)
  obtain ⟨ok_, hp_, hk_⟩ := sep_use2 (sep_l1 (sep_l3 n_))
  refine Calls.mono (net_Twice p pb _ _ l room pick _ ok_ h6 hp hp_) ?_
  rintro e w1 ⟨rfl, hq_⟩
  exact ⟨rfl, net_mk (sep_l2 (sep_l3 (sep_l3 (back2 hk_ hq_))))⟩
theorem delay_A (by_ : Int) (hp : pick ≤ 9223372036854775807) (hb0 : 0 ≤ by_) (ht : ∀ x ∈ l, 0 ≤ x.t) (h : (netA p hs qs pb ⋆ bagA pb l room ⋆ emp).H w ok) :
    Calls Try.prog 21 #[.pointer (some ⟨p, 0, none⟩), .int .i64 pick, .int .u64 by_] w fun e w' => e = .returned (.int .i64 (delayE l pick)) ∧ Sep w ok (netA p hs qs pb ⋆ bagA pb (delayL l pick by_) room ⋆ emp) w' := by
  obtain ⟨A, c, A', c', -, -, n_⟩ := net_open (sep_begin h)
  obtain ⟨ok_, hp_, hk_⟩ := sep_use2 (sep_l1 (sep_l3 n_))
  refine Calls.mono (net_Delay p pb _ _ l room pick by_ _ ok_ hp hb0 ht hp_) ?_
  rintro e w1 ⟨rfl, hq_⟩
  exact ⟨rfl, net_mk (sep_l2 (sep_l3 (sep_l3 (back2 hk_ hq_))))⟩
theorem bag_A (h : (netA p hs qs pb ⋆ emp).H w ok) : Calls Try.prog 19 #[.pointer (some ⟨p, 0, none⟩)] w fun e w' => e = .returned (.pointer (some ⟨pb, 0, none⟩)) ∧ Below w.heap.size w w' := by
  obtain ⟨A, c, A', c', -, -, n_⟩ := net_open (sep_begin h)
  exact net_Bag p pb w (sep_cell n_ 2)
theorem box_A (k : Int) (hk : -1000 ≤ k ∧ k ≤ 1000) (hl : qs.length ≤ 100) (h : (netA p hs qs pb ⋆ emp).H w ok) : Calls Try.prog 15 #[.pointer (some ⟨p, 0, none⟩), .int .i64 k] w fun e w' => e = .returned (.pointer (boxP qs k)) ∧ Below w.heap.size w w' := by
  obtain ⟨A, c, A', c', -, -, n_⟩ := net_open (sep_begin h)
  obtain ⟨-, -, h1, hr, -⟩ := net_cells n_
  exact net_Box p k A' c' qs w (by omega) hl h1 hr
theorem none_A (k ip : Int) (hk : -1000 ≤ k ∧ k ≤ 1000) (hl : qs.length ≤ 100) (hb : boxP qs k = none) (h : (netA p hs qs pb ⋆ emp).H w ok) : Calls Try.prog 13 #[.pointer (some ⟨p, 0, none⟩), .int .i64 k, .int .u32 ip] w fun e w' => e = .returned (.int .i64 5) ∧ Below w.heap.size w w' := by
  obtain ⟨A, c, A', c', -, -, n_⟩ := net_open (sep_begin h)
  obtain ⟨-, -, h1, hr, -⟩ := net_cells n_
  exact rebind_none p k ip A' c' qs w hk hl hb h1 hr
theorem taken_A (k ip : Int) (ips : List Int) (q : Nat) (Y : Asn) (hk : -1000 ≤ k ∧ k ≤ 1000) (hl : qs.length ≤ 100) (hi : ips.length = qs.length) (hb : boxP qs k = some ⟨q, 0, none⟩) (ht : owned ips ip (k - 1) = true ∨ hs.any (ipH ip) = true) (hY : IpsAre Y qs ips) (h : (netA p hs qs pb ⋆ Y ⋆ emp).H w ok) : Calls Try.prog 13 #[.pointer (some ⟨p, 0, none⟩), .int .i64 k, .int .u32 ip] w fun e w' => e = .returned (.int .i64 1) ∧ Below w.heap.size w w' := by
  have hc := ips_now hY (sep_l1 (sep_begin h))
  obtain ⟨A, c, A', c', -, -, n_⟩ := net_open (sep_begin h)
  obtain ⟨h0, hrh, h1, hr, -⟩ := net_cells n_
  exact rebind_taken p k ip A' A c' c qs ips hs q w hk hl hi hb ht h0 hrh h1 hr hc
end
/-! ## what arrives -/
theorem arr_host (p pb : Nat) (hs : List Hs) (qs : List Nat) (X : Asn) (now : Int) (it : It) (hf : hs.any (hostH ⟨it.ti, it.tp, 0⟩) = true) (hl : hs.length ≤ 1000) : ArrIs p pb hs qs X X now it (idx (hostH ⟨it.ti, it.tp, 0⟩) hs + 1) := by
  intro W ok_ h
  have hB := sep_begin h
  obtain ⟨A, c, A', c', -, -, n_⟩ := net_open hB
  obtain ⟨h0, hrh, -, -, -⟩ := net_cells n_
  refine Calls.mono (arrive_host p now ⟨it.fi, it.fp⟩ ⟨it.ti, it.tp⟩ A c hs W hf hl h0 hrh) ?_
  rintro e w1 ⟨rfl, hb_⟩
  exact ⟨rfl, sep_below hB hb_⟩
theorem arr_in (p pb q : Nat) (hs : List Hs) (B B2 : Bx) (now : Int) (it : It) (ad : S28) (er : Int) (hnf : hs.any (hostH ⟨it.ti, it.tp, 0⟩) = false) (hl : hs.length ≤ 1000) (hip : B.ip = it.ti) (hin : InIs q B B2 now it.tp ⟨it.fi, it.fp⟩ ad er) (he : er = 0 ∨ er = 5) : ArrIs p pb hs [q] (boxA q B) (boxA q B2) now it (if er = 0 then idx (hostH ⟨ad.f0, ad.f1, 1⟩) hs + 1 else 0) :=
  fun W ok_ h => arrive_in p pb q now ⟨it.fi, it.fp⟩ ⟨it.ti, it.tp⟩ ad er hs B B2 W ok_ hnf hl hip hin he h
theorem arr_out (p pb q : Nat) (hs : List Hs) (B : Bx) (now : Int) (it : It) (hnf : hs.any (hostH ⟨it.ti, it.tp, 0⟩) = false) (hl : hs.length ≤ 1000) (hip : B.ip ≠ it.ti) : ArrIs p pb hs [q] (boxA q B) (boxA q B) now it 0 :=
  fun W ok_ h => arrive_out p pb q now ⟨it.fi, it.fp⟩ ⟨it.ti, it.tp⟩ hs B W ok_ hnf hl hip h
/-! ## a box's Out and In -/
/-- A binding that an answer may take. -/
def bd1 (src k : S28) (met : List S28) (un : Int) : Bd := ⟨src.f0, src.f1, k.f0, k.f1, 20000, met, un⟩
theorem out_first (q : Nat) (mp fl ip hold room now : Int) (src dst : S28) (hs : noneB src.f0 src.f1 = false) (hd : noneB dst.f0 dst.f1 = false) (hn : 0 ≤ now ∧ now ≤ 1000000) (hh : 0 ≤ hold ∧ hold ≤ 1000000) (hmp : mp = 0 ∨ mp = 1 ∨ mp = 2) (hr : 1 ≤ room) : OutIs q ⟨mp, fl, ip, hold, room, []⟩ ⟨mp, fl, ip, hold, room, [bd1 src (keyS mp dst) [dst] (now + hold)]⟩ now src dst ⟨ip, 20000⟩ := by
  intro W ok_ h
  have := Out_walk q ⟨mp, fl, ip, hold, room, []⟩ now src dst (newB src (keyS mp dst) 0) W ok_ hs hd hn hh hmp (fun y hy => by cases hy) ⟨Nat.le_of_ble_eq_true rfl, fun _ => ⟨.inl rfl, by show (0 : Int) < room; omega⟩⟩ rfl (Nat.le_of_ble_eq_true rfl) h
  exact this
theorem in_at (q : Nat) (mp fl ip hold room now : Int) (L : List Bd) (j : Nat) (x : Bd) (b : Bool) (src : S28) (hs : noneB src.f0 src.f1 = false) (hn : 0 ≤ now ∧ now ≤ 1000000) (hh : 0 ≤ hold ∧ hold ≤ 1000000) (hl : L.length ≤ 2) (hlive : ∀ x ∈ L, now < x.un) (hj : idx (portX x.po) L = (j : Int)) (hx : L[j]? = some x) (hmet : x.met.length ≤ 10) (hb : passB fl x.met src = b) : InIs q ⟨mp, fl, ip, hold, room, L⟩ ⟨mp, fl, ip, hold, room, inL b ⟨mp, fl, ip, hold, room, L⟩ now L j x⟩ now x.po src (inA b x) (inE b) :=
  fun W ok_ h => In_at q ⟨mp, fl, ip, hold, room, L⟩ now x.po src L j x b W ok_ (.inl ⟨rfl, hl, hlive⟩) hs hn hh hj hx hmet hb h
/-- Nobody has the port any more. -/
theorem in_gone (q : Nat) (B : Bx) (L : List Bd) (now port : Int) (src : S28) (hsw : Swept B now L) (hs : noneB src.f0 src.f1 = false) (hn : 0 ≤ now ∧ now ≤ 1000000) (hh : 0 ≤ B.hold ∧ B.hold ≤ 1000000) (hx : L.any (portX port) = false) : InIs q B { B with l := L } now port src ⟨0, 0⟩ 5 :=
  fun W ok_ h => In_none q B now port src L W ok_ hsw hs hn hh hx h
end Go.Proofs.Ytobfabfoenldfaa.NW
