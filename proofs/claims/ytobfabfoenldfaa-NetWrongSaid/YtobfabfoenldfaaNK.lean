/- Nets: Bag, Box, owned, Inject, Drop, Twice, Delay. Conditions: those that each theorem names. -/
import Derived.Test.YtobfabfoenldfaaNJ
namespace Go.Proofs.Ytobfabfoenldfaa.NW
set_option linter.unusedVariables false
set_option linter.unusedSimpArgs false
open Go Go.RowKit Go.Proofs.YtobfabfoenldfaaS Go.Proofs.YtobfabfoenldfaaS.Asn Go.Proofs.Ytobfabfoenldfaa.PA Go.Proofs.YtobfabfoenldfaaW.PrintWords Go.Proofs.YtobfabfoenldfaaW.PrintLast Go.Proofs.YtobfabfoenldfaaW.PrintMore


open Go.Proofs.Ytobfabfoenldfaa.BG
theorem net_Bag (p pb : Nat) (w : World) (h : w.cell? ⟨p, 2, none⟩ = some (.pointer (some ⟨pb, 0, none⟩))) : Calls Try.prog 19 #[.pointer (some ⟨p, 0, none⟩)] w fun e w' => e = .returned (.pointer (some ⟨pb, 0, none⟩)) ∧ Below w.heap.size w w' := by
  go_enter Try.func19, Try.ntmps19
  go_wp2
  go_ret
  exact ⟨rfl, Below.refl _ _⟩
/-- A pointer to a box, or none. -/
def boxP (qs : List Nat) (k : Int) : Option Addr := if k < 1 then none else (qs[(k - 1).toNat]?).map (fun q => ⟨q, 0, none⟩)
set_option maxRecDepth 100000 in
theorem net_Box (p : Nat) (k : Int) (A : Option Addr) (c : Nat) (qs : List Nat) (w : World) (hk : -9223372036854775807 ≤ k ∧ k ≤ 9223372036854775807) (hl : qs.length ≤ 100) (h1 : w.cell? ⟨p, 1, none⟩ = some (.slice A qs.length c)) (hr : ptK.C w A qs.length qs) :
    Calls Try.prog 15 #[.pointer (some ⟨p, 0, none⟩), .int .i64 k] w fun e w' => e = .returned (.pointer (boxP qs k)) ∧ Below w.heap.size w w' := by
  by_cases c1 : k < 1
  · have e1 : decide (k < 1) = true := decide_eq_true c1
    have e2 := eq_true c1
    have hb : boxP qs k = none := by unfold boxP; rw [if_pos c1]
    rw [hb]
    clear hr hk hl c1 hb
    go_enter Try.func15, Try.ntmps15
    go_wp2
    go_ret
    exact ⟨rfl, Below.refl _ _⟩
  have e1 : decide (k < 1) = false := decide_eq_false c1
  have e2 := eq_false c1
  by_cases c2 : (qs.length : Int) < k
  · have e3 : decide ((qs.length : Int) < k) = true := decide_eq_true c2
    have e4 := eq_true c2
    have hb : boxP qs k = none := by unfold boxP; rw [if_neg c1, List.getElem?_eq_none (by omega)]; rfl
    rw [hb]
    clear hr hk hl c1 c2 hb
    go_enter Try.func15, Try.ntmps15
    go_wp2
    go_ret
    exact ⟨rfl, Below.refl _ _⟩
  have e3 : decide ((qs.length : Int) < k) = false := decide_eq_false c2
  have e4 := eq_false c2
  obtain ⟨j, rfl⟩ : ∃ j : Nat, k = (j : Int) + 1 := ⟨(k - 1).toNat, by omega⟩
  have hj : j < qs.length := by omega
  obtain ⟨q, hq⟩ : ∃ q, qs[j]? = some q := ⟨_, List.getElem?_eq_getElem hj⟩
  have hb : boxP qs ((j : Int) + 1) = some ⟨q, 0, none⟩ := by unfold boxP; rw [if_neg c1, show ((j : Int) + 1 - 1).toNat = j by omega, hq]; rfl
  obtain ⟨ad, rfl, k0⟩ := pt_at hr j q hq
  have w1_ : wrap64 ((j : Int) + 1 - 1) = (j : Int) := by unfold wrap64; omega
  have w2_ : IntKind.i64.wrap ((j : Int) + 1 - 1) = (j : Int) := by rw [IntKind.wrap_i64]; omega
  have w3_ : wrap64 (j : Int) = (j : Int) := by unfold wrap64; omega
  have w4_ : IntKind.i64.wrap (j : Int) = (j : Int) := by rw [IntKind.wrap_i64]; omega
  have c1b : decide ((j : Int) < (qs.length : Int)) = true := decide_eq_true (Int.ofNat_lt.2 hj); have c1n : decide (j < qs.length) = true := decide_eq_true hj; have c1i : ((j : Int) < (qs.length : Int)) = True := eq_true (Int.ofNat_lt.2 hj); have c1q : (j < qs.length) = True := eq_true hj; have p0_ := eq_true (Int.natCast_nonneg j)
  rw [hb]
  rw [Nat.mul_one] at k0
  clear hr hk hl c1 c2 hb hj hq
  go_enter Try.func15, Try.ntmps15
  go_wp2
  go_ret
  exact ⟨rfl, Below.refl _ _⟩
def ownB (ips : List Int) (ip but : Int) (j : Nat) : Bool := decide ((j : Int) ≠ but) && (ips.getD j 0 == ip)
def owned (ips : List Int) (ip but : Int) : Bool := (List.range ips.length).any (ownB ips ip but)
set_option maxHeartbeats 1000000 in
theorem net_owned (p : Nat) (ip but : Int) (A : Option Addr) (c : Nat) (qs : List Nat) (ips : List Int) (w : World) (hl : qs.length ≤ 100) (hi : ips.length = qs.length) (h1 : w.cell? ⟨p, 1, none⟩ = some (.slice A qs.length c)) (hr : ptK.C w A qs.length qs)
    (hc : ∀ (j : Nat) (q : Nat), qs[j]? = some q → w.cell? ⟨q, 2, none⟩ = some (.int .u32 (ips.getD j 0))) :
    Calls Try.prog 28 #[.pointer (some ⟨p, 0, none⟩), .int .u32 ip, .int .i64 but] w fun e w' => e = .returned (.bool (owned ips ip but)) ∧ Below w.heap.size w w' := by
  have HL := Aside0.mk hl
  have HIL := Aside0.mk hi
  have HR := Aside0.mk hr
  have HC := Aside0.mk hc
  clear hr hc hl hi
  go_enter Try.func28, Try.ntmps28
  go_upto_region 2 with (fail)
  go_loopg [7, 8, 14] qs.length (fun gg _ _ s14 wr => ∃ kk : Nat, kk ≤ qs.length ∧ qs.length - kk ≤ gg ∧ s14 = .int .i64 kk ∧ Aside0 (Below w.heap.size w wr) ∧ Aside0 ((List.range kk).any (ownB ips ip but) = false))
  case atStart => exact ⟨0, Nat.zero_le _, by omega, rfl, ⟨Below.refl _ w⟩, ⟨by simp⟩⟩
  case round =>
    obtain ⟨kk, hkk, hg, rfl, BW, HA⟩ := hrel
    by_cases hlt : kk < qs.length
    · have c1b : decide ((kk : Int) < (qs.length : Int)) = true := decide_eq_true (Int.ofNat_lt.2 hlt); have c1n : decide (kk < qs.length) = true := decide_eq_true hlt; have c1i : ((kk : Int) < (qs.length : Int)) = True := eq_true (Int.ofNat_lt.2 hlt); have c1q : (kk < qs.length) = True := eq_true hlt; have p0_ := eq_true (Int.natCast_nonneg kk)
      obtain ⟨q, hq⟩ : ∃ q, qs[kk]? = some q := ⟨_, List.getElem?_eq_getElem hlt⟩
      obtain ⟨ad, rfl, k0⟩ := pt_at (Kd.C_below HR.out BW.out) kk q hq
      rw [Nat.mul_one] at k0
      have q2 := cell_now (HC.out kk q hq) BW.out
      have HI := Aside0.mk (And.intro hlt hg)
      clear hlt hkk hg hq
      have hb2 : ownB ips ip but kk = (decide ((kk : Int) ≠ but) && (ips.getD kk 0 == ip)) := rfl
      generalize ips.getD kk 0 = z at hb2 q2
      by_cases d1 : (kk : Int) = but
      · have e1 : ((kk : Int) == but) = true := beq_iff_eq.2 d1
        have e2 := eq_true d1
        have HB : Aside0 (ownB ips ip but kk = false) := ⟨by rw [hb2, d1]; simp⟩
        clear hb2 d1
        go_wp2
        go_roundg (qs.length - (kk + 1))
        case measure => have := HI.out; omega
        case rel =>
          refine ⟨kk + 1, by have := HI.out; omega, Nat.le_refl _, congrArg (Value.int .i64) (by have := HI.out; have := HL.out; unfold wrap64; omega), BW, ⟨?_⟩⟩
          rw [List.range_succ, List.any_append, HA.out]
          simp [HB.out]
      · have e1 : ((kk : Int) == but) = false := beq_eq_false_iff_ne.2 d1
        have e2 := eq_false d1
        by_cases d2 : z = ip
        · have e3 : (z == ip) = true := beq_iff_eq.2 d2
          have e4 := eq_true d2
          have HB : Aside0 (ownB ips ip but kk = true) := ⟨by rw [hb2, e3, decide_eq_true d1]; rfl⟩
          clear hb2 d1 d2
          go_wp2_with (go_at_call 16; (with_reducible refine Calls.mono (box_IP q z _ q2) ?_); rintro e w1 ⟨rfl, hb_⟩; have HB' := Aside0.mk hb_; clear hb_)
          go_ret
          have ho : owned ips ip but = true := List.any_eq_true.2 ⟨kk, List.mem_range.2 (by rw [HIL.out]; exact HI.out.1), HB.out⟩
          rw [ho]
          exact ⟨rfl, BW.out.trans (HB'.out.mono BW.out.size)⟩
        · have e3 : (z == ip) = false := beq_eq_false_iff_ne.2 d2
          have e4 := eq_false d2
          have HB : Aside0 (ownB ips ip but kk = false) := ⟨by rw [hb2, e3, Bool.and_false]⟩
          clear hb2 d1 d2
          go_wp2_with (go_at_call 16; (with_reducible refine Calls.mono (box_IP q z _ q2) ?_); rintro e w1 ⟨rfl, hb_⟩; have n_ := Aside0.mk (BW.out.trans (hb_.mono BW.out.size)); clear BW hb_; have BW := n_; clear n_)
          go_roundg (qs.length - (kk + 1))
          case measure => have := HI.out; omega
          case rel =>
            refine ⟨kk + 1, by have := HI.out; omega, Nat.le_refl _, congrArg (Value.int .i64) (by have := HI.out; have := HL.out; unfold wrap64; omega), BW, ⟨?_⟩⟩
            rw [List.range_succ, List.any_append, HA.out]
            simp [HB.out]
    · obtain rfl : kk = qs.length := by omega
      have c2b : decide ((qs.length : Int) < (qs.length : Int)) = false := decide_eq_false (by omega)
      go_wp2
      go_ret
      unfold owned
      rw [HIL.out, HA.out]
      exact ⟨rfl, BW.out⟩
theorem net_Drop (p pb : Nat) (v1 v2 : Value) (l : List It) (room pick : Int) (w : World) (ok : Nat → Prop) (hp : pick ≤ 9223372036854775807) (h : (pt p #[v1, v2, .pointer (some ⟨pb, 0, none⟩)] 67 ⋆ bagA pb l room ⋆ emp).H w ok) :
    Calls Try.prog 17 #[.pointer (some ⟨p, 0, none⟩), .int .i64 pick] w fun e w' => e = .returned (.int .i64 (awayE l 18446744073709551615 pick).2.1) ∧ Sep w ok (pt p #[v1, v2, .pointer (some ⟨pb, 0, none⟩)] 67 ⋆ bagA pb (awayE l 18446744073709551615 pick).2.2 room ⋆ emp) w' := by
  have HS := Aside0.mk (sep_begin h)
  have p2 := sep_cell HS.out 2
  clear h
  have HB := Aside0.mk (fun W ok_ hp_ => bag_Drop pb l room pick W ok_ hp hp_)
  obtain ⟨⟨it, er, l2⟩, hr⟩ : ∃ r, awayE l 18446744073709551615 pick = r := ⟨_, rfl⟩
  rw [hr] at HB ⊢
  have HC : Aside0 (∀ (W : World) (ok_ : Nat → Prop), (bagA pb l room ⋆ emp).H W ok_ → Calls Try.prog 34 #[.pointer (some ⟨pb, 0, none⟩), .int .i64 pick] W fun e w' => e = .returned (.tuple #[.agg #[.int .u32 it.fi, .int .u16 it.fp, .int .u32 it.ti, .int .u16 it.tp, .string it.by_, .int .u64 it.t], .int .i64 er]) ∧ Sep W ok_ (bagA pb l2 room ⋆ emp) w') := ⟨fun W ok_ hp_ => HB.out W ok_ hp_⟩
  clear HB hr hp
  go_enter Try.func17, Try.ntmps17
  go_wp2_with (go_at_call 34; obtain ⟨ok_, hp_, hk_⟩ := sep_use1 (sep_l1 HS.out); have hx_ := HC.out _ ok_ hp_; (with_reducible refine Calls.mono hx_ ?_); rintro e w1 ⟨rfl, hq_⟩; have n_ := sep_l1 (back1 hk_ hq_); clear hx_ hp_ hk_ hq_ p2; have n0_ := Aside0.mk n_; clear HS n_; have HS := n0_; clear n0_)
  go_ret
  exact ⟨rfl, sep_skip HS.out _⟩
theorem net_Twice (p pb : Nat) (v1 v2 : Value) (l : List It) (room pick : Int) (w : World) (ok : Nat → Prop) (h6 : room ≤ 256) (hp : pick ≤ 9223372036854775807) (h : (pt p #[v1, v2, .pointer (some ⟨pb, 0, none⟩)] 67 ⋆ bagA pb l room ⋆ emp).H w ok) :
    Calls Try.prog 22 #[.pointer (some ⟨p, 0, none⟩), .int .i64 pick] w fun e w' => e = .returned (.int .i64 (twiceE room l pick)) ∧ Sep w ok (pt p #[v1, v2, .pointer (some ⟨pb, 0, none⟩)] 67 ⋆ bagA pb (twiceL room l pick) room ⋆ emp) w' := by
  have HS := Aside0.mk (sep_begin h)
  have p2 := sep_cell HS.out 2
  clear h
  go_enter Try.func22, Try.ntmps22
  go_wp2_with (go_at_call 37; obtain ⟨ok_, hp_, hk_⟩ := sep_use1 (sep_l1 HS.out); have hx_ := bag_Twice pb l room pick _ ok_ h6 hp hp_; (with_reducible refine Calls.mono hx_ ?_); rintro e w1 ⟨rfl, hq_⟩; have n_ := sep_l1 (back1 hk_ hq_); clear hx_ hp_ hk_ hq_ p2; have n0_ := Aside0.mk n_; clear HS n_; have HS := n0_; clear n0_)
  go_ret
  exact ⟨rfl, HS.out⟩
theorem net_Delay (p pb : Nat) (v1 v2 : Value) (l : List It) (room pick by_ : Int) (w : World) (ok : Nat → Prop) (hp : pick ≤ 9223372036854775807) (hb0 : 0 ≤ by_) (ht : ∀ x ∈ l, 0 ≤ x.t) (h : (pt p #[v1, v2, .pointer (some ⟨pb, 0, none⟩)] 67 ⋆ bagA pb l room ⋆ emp).H w ok) :
    Calls Try.prog 21 #[.pointer (some ⟨p, 0, none⟩), .int .i64 pick, .int .u64 by_] w fun e w' => e = .returned (.int .i64 (delayE l pick)) ∧ Sep w ok (pt p #[v1, v2, .pointer (some ⟨pb, 0, none⟩)] 67 ⋆ bagA pb (delayL l pick by_) room ⋆ emp) w' := by
  have HS := Aside0.mk (sep_begin h)
  have p2 := sep_cell HS.out 2
  clear h
  go_enter Try.func21, Try.ntmps21
  go_wp2_with (go_at_call 36; obtain ⟨ok_, hp_, hk_⟩ := sep_use1 (sep_l1 HS.out); have hx_ := bag_Delay pb l room pick by_ _ ok_ hp hb0 ht hp_; (with_reducible refine Calls.mono hx_ ?_); rintro e w1 ⟨rfl, hq_⟩; have n_ := sep_l1 (back1 hk_ hq_); clear hx_ hp_ hk_ hq_ p2; have n0_ := Aside0.mk n_; clear HS n_; have HS := n0_; clear n0_)
  go_ret
  exact ⟨rfl, HS.out⟩
theorem keepJ {w0 w' : World} {ok0 : Nat → Prop} {C F : Asn} {p pb g7 g8 : Nat} {v1 v2 : Value} {a b : S28} (h : Sep w0 ok0 (pt p #[v1, v2, .pointer (some ⟨pb, 0, none⟩)] 67 ⋆ C ⋆ pt g8 #[.int .u32 b.f0, .int .u16 b.f1] 28 ⋆ pt g7 #[.int .u32 a.f0, .int .u16 a.f1] 28 ⋆ F) w') : w'.cell? ⟨p, 2, none⟩ = some (.pointer (some ⟨pb, 0, none⟩)) ∧ w'.cell? ⟨g7, 0, none⟩ = some (.int .u32 a.f0) ∧ w'.cell? ⟨g7, 1, none⟩ = some (.int .u16 a.f1) ∧ w'.cell? ⟨g8, 0, none⟩ = some (.int .u32 b.f0) ∧ w'.cell? ⟨g8, 1, none⟩ = some (.int .u16 b.f1) :=
  ⟨sep_cell h 2, sep_cell (sep_l3 h) 0, sep_cell (sep_l3 h) 1, sep_cell (sep_l2 h) 0, sep_cell (sep_l2 h) 1⟩
set_option maxRecDepth 100000 in
theorem net_Inject (p pb : Nat) (v1 v2 : Value) (l : List It) (room now : Int) (a b : S28) (s : ByteArray) (w : World) (ok : Nat → Prop) (h6 : room ≤ 256) (hn : 0 ≤ now ∧ now ≤ 1000000) (h : (pt p #[v1, v2, .pointer (some ⟨pb, 0, none⟩)] 67 ⋆ bagA pb l room ⋆ emp).H w ok) :
    Calls Try.prog 18 #[.pointer (some ⟨p, 0, none⟩), .int .u64 now, .agg #[.int .u32 a.f0, .int .u16 a.f1], .agg #[.int .u32 b.f0, .int .u16 b.f1], .string s] w fun e w' => e = .returned (.int .i64 (putE room l ⟨a.f0, a.f1, b.f0, b.f1, s, now + 1⟩)) ∧ Sep w ok (pt p #[v1, v2, .pointer (some ⟨pb, 0, none⟩)] 67 ⋆ bagA pb (putL room l ⟨a.f0, a.f1, b.f0, b.f1, s, now + 1⟩) room ⋆ emp) w' := by
  have HS := Aside0.mk (sep_begin h)
  have r1 : decide (4611686018427387904 < now) = false := decide_eq_false (by omega)
  have r2 : (4611686018427387904 < now) = False := eq_false (by omega)
  have r3 : IntKind.u64.wrap (now + 1) = now + 1 := by rw [IntKind.wrap_u64]; omega
  have HPUT : Aside0 (∀ (W : World) (ok_ : Nat → Prop), (bagA pb l room ⋆ emp).H W ok_ → Calls Try.prog 35 #[.pointer (some ⟨pb, 0, none⟩), .agg #[.int .u32 a.f0, .int .u16 a.f1, .int .u32 b.f0, .int .u16 b.f1, .string s, .int .u64 (now + 1)]] W fun e w' => e = .returned (.int .i64 (putE room l ⟨a.f0, a.f1, b.f0, b.f1, s, now + 1⟩)) ∧ Sep W ok_ (bagA pb (putL room l ⟨a.f0, a.f1, b.f0, b.f1, s, now + 1⟩) room ⋆ emp) w') := ⟨fun W ok_ hp_ => bag_PutE pb l room ⟨a.f0, a.f1, b.f0, b.f1, s, now + 1⟩ W ok_ h6 hp_⟩
  obtain ⟨r, hr⟩ : ∃ r, putE room l ⟨a.f0, a.f1, b.f0, b.f1, s, now + 1⟩ = r := ⟨_, rfl⟩
  obtain ⟨l2, hl2⟩ : ∃ l2, putL room l ⟨a.f0, a.f1, b.f0, b.f1, s, now + 1⟩ = l2 := ⟨_, rfl⟩
  rw [hr, hl2] at HPUT ⊢
  clear h hn
  go_enter Try.func18, Try.ntmps18
  go_upto_region 1 with (fail)
  have n_ := sep_l3 (sep_l3 (sep_allocg (sep_allocg HS.out #[.int .u32 a.f0, .int .u16 a.f1] 28 _ rfl) #[.int .u32 b.f0, .int .u16 b.f1] 28 _ (szS _ rfl)))
  have n0_ := Aside0.mk n_; clear HS n_; have HS := n0_; clear n0_
  generalize World.alloc _ _ = wa at HS ⊢
  generalize w.heap.size + 1 = g8 at HS ⊢
  generalize w.heap.size = g7 at HS ⊢
  go_upto_region 3 with (fail)
  have n_ := sep_drew HS.out
  have n0_ := Aside0.mk n_; clear HS n_; have HS := n0_; clear n0_
  generalize hw_ : World.drew _ = wd at HS
  obtain ⟨p2, m0, m1, m2, m3⟩ := keepJ HS.out
  subst hw_
  go_region_held3 (fun w' => w'.cell? ⟨p, 2, none⟩ = some (.pointer (some ⟨pb, 0, none⟩)) ∧ w'.cell? ⟨g7, 0, none⟩ = some (.int .u32 a.f0) ∧ w'.cell? ⟨g7, 1, none⟩ = some (.int .u16 a.f1) ∧ w'.cell? ⟨g8, 0, none⟩ = some (.int .u32 b.f0) ∧ w'.cell? ⟨g8, 1, none⟩ = some (.int .u16 b.f1)) (exact keepJ HS.out) (first | (go_at_call 35; obtain ⟨ok_, hp_, hk_⟩ := sep_use1 (sep_l1 HS.out); have hx_ := HPUT.out _ ok_ hp_; (with_reducible refine Calls.mono hx_ ?_); rintro e w1 ⟨rfl, hq_⟩; have n_ := sep_l1 (back1 hk_ hq_); clear hx_ hp_ hk_ hq_; have n0_ := Aside0.mk n_; clear HS n_; have HS := n0_; clear n0_) | fail)
  all_goals
    go_wp2
    go_ret
    exact ⟨rfl, sep_drop (sep_l2 (sep_drop (sep_l2 HS.out)))⟩
end Go.Proofs.Ytobfabfoenldfaa.NW
