/- The law's same, walked. Conditions: those that each theorem names. -/
import Derived.Test.YthoppcefadopeaaEZ
namespace Go.Proofs.Ythoppcefadopeaa.DW
set_option linter.unusedVariables false
set_option linter.unusedSimpArgs false
open Go Go.RowKit Go.Proofs.YthoppcefadopeaaS Go.Proofs.YthoppcefadopeaaS.Asn Go.Proofs.Ythoppcefadopeaa.PA Go.Proofs.YthoppcefadopeaaW.PrintWords Go.Proofs.YthoppcefadopeaaW.PrintLast Go.Proofs.YthoppcefadopeaaW.PrintMore
theorem same_keep1 {w w' : World} {ad : Addr} {R : List RIt} {i : Nat} {x : It} {A1 : Option Addr} {c1 : Nat} (hb : Below w.heap.size w w') (hA : ritK.C w (some ad) R.length R) (h : R[i]? = some ⟨x.id, x.inc, x.since, x.hold, A1, x.who.length, c1⟩) : w'.cell? (ad.add (i * 5)) = some (.int .i64 x.id) ∧ w'.cell? ⟨(ad.add (i * 5)).block, (ad.add (i * 5)).off + 1, none⟩ = some (.int .u32 x.inc) ∧ w'.cell? ⟨(ad.add (i * 5)).block, (ad.add (i * 5)).off + 2, none⟩ = some (.int .u64 x.since) ∧ w'.cell? ⟨(ad.add (i * 5)).block, (ad.add (i * 5)).off + 3, none⟩ = some (.int .u64 x.hold) ∧ w'.cell? ⟨(ad.add (i * 5)).block, (ad.add (i * 5)).off + 4, none⟩ = some (.slice A1 x.who.length c1) := by
  obtain ⟨ad_, h1, k0, k1, k2, k3, k4⟩ := rit_at (Kd.C_below hA hb) i _ h
  cases h1
  exact ⟨k0, k1, k2, k3, k4⟩
/-- An item in its own words. -/
theorem Mat_open {q : RIt} {x : It} (h : Mat q x) : ∃ A c, q = ⟨x.id, x.inc, x.since, x.hold, A, x.who.length, c⟩ ∧ x.who.length ≤ c := by
  obtain ⟨qi, qn, qs, qh, Aq, ql, cq⟩ := q
  obtain ⟨e1, e2, e3, e4, e5, hcap⟩ := h
  dsimp only at e1 e2 e3 e4 e5 hcap
  subst e1 e2 e3 e4 e5
  exact ⟨Aq, cq, rfl, hcap⟩
set_option maxHeartbeats 4000000 in
set_option maxRecDepth 100000 in
/-- Of the same items it says so. -/
theorem same_walk (A B : Option Addr) (c d : Nat) (R1 R2 : List RIt) (L : List It) (w : World) (hm1 : MatL R1 L) (hm2 : MatL R2 L) (hA : ritK.C w A R1.length R1) (hB : ritK.C w B R2.length R2) (hp1 : ∀ y ∈ poolOf R1 L, (Kd.int .i64).C w y.1 y.2.length y.2) (hp2 : ∀ y ∈ poolOf R2 L, (Kd.int .i64).C w y.1 y.2.length y.2) (hl : L.length ≤ 1000) (hf : ∀ x ∈ L, x.who.length ≤ 1000) :
    Calls Try.prog 15 #[.slice A L.length c, .slice B L.length d] w fun e w' => e = .returned (.bool true) ∧ Below w.heap.size w w' := by
  have HS := Aside0.mk (sep_start w)
  have HA := Aside0.mk hA
  have HB := Aside0.mk hB
  have HM := Aside0.mk (And.intro hm1 hm2)
  have HP := Aside0.mk (And.intro hp1 hp2)
  have HL := Aside0.mk (And.intro hl hf)
  clear hm1 hm2 hA hB hp1 hp2 hl hf
  go_enter Try.func15, Try.ntmps15
  go_upto_region 4 with (fail)
  go_loopg [5] L.length (fun gg v5 wr => ∃ i : Nat, i ≤ L.length ∧ L.length - i ≤ gg ∧ v5 = .int .i64 (i : Int) ∧ Aside0 (Sep w (fun _ => False) emp wr))
  case atStart => exact ⟨0, Nat.zero_le _, by omega, rfl, HS⟩
  case round =>
    clear HS
    obtain ⟨i, hi, hgi, rfl, HS⟩ := hrel
    by_cases hlt : i < L.length
    · have c1b : decide ((i : Int) < (L.length : Int)) = true := decide_eq_true (Int.ofNat_lt.2 hlt); have c1n : decide (i < L.length) = true := decide_eq_true hlt; have c1q : (i < L.length) = True := eq_true hlt; have p0_ := eq_true (Int.natCast_nonneg i)
      obtain ⟨x, hx⟩ : ∃ x, L[i]? = some x := ⟨_, List.getElem?_eq_getElem hlt⟩
      obtain ⟨q1, hq1, hqx1⟩ := MatL_get HM.out.1 hx
      obtain ⟨q2, hq2, hqx2⟩ := MatL_get HM.out.2 hx
      obtain ⟨A1, c1, rfl, hcap1⟩ := Mat_open hqx1
      obtain ⟨A2, c2, rfl, hcap2⟩ := Mat_open hqx2
      have HP1 := Aside0.mk (HP.out.1 _ (poolOf_at hq1 hx))
      have HP2 := Aside0.mk (HP.out.2 _ (poolOf_at hq2 hx))
      dsimp only at HP1 HP2
      obtain ⟨ad, rfl, -⟩ := rit_at HA.out i _ hq1
      obtain ⟨ae, rfl, -⟩ := rit_at HB.out i _ hq2
      have H1 := Aside0.mk hq1
      have H2 := Aside0.mk hq2
      have HI := Aside0.mk (And.intro hlt hgi)
      have HF := Aside0.mk (HL.out.2 x (List.mem_of_getElem? hx))
      clear hi hgi hlt hx hq1 hq2 hqx1 hqx2 hcap1 hcap2
      go_upto_region 6 with (fail)
      have n_ := sep_drew HS.out
      have n0_ := Aside0.mk n_; clear HS n_; have HS := n0_; clear n0_
      (try clear m0 m1 m2 m3 m4 k0 k1 k2 k3 k4); obtain ⟨k0, k1, k2, k3, k4⟩ := same_keep1 (sep_below_of HS.out) HA.out H1.out; obtain ⟨m0, m1, m2, m3, m4⟩ := same_keep1 (sep_below_of HS.out) HB.out H2.out
      dsimp only [List.append]
      go_region_held3 (fun w' => (w'.cell? (ae.add (i * 5)) = some (.int .i64 x.id) ∧ w'.cell? ⟨(ae.add (i * 5)).block, (ae.add (i * 5)).off + 1, none⟩ = some (.int .u32 x.inc) ∧ w'.cell? ⟨(ae.add (i * 5)).block, (ae.add (i * 5)).off + 2, none⟩ = some (.int .u64 x.since) ∧ w'.cell? ⟨(ae.add (i * 5)).block, (ae.add (i * 5)).off + 3, none⟩ = some (.int .u64 x.hold) ∧ w'.cell? ⟨(ae.add (i * 5)).block, (ae.add (i * 5)).off + 4, none⟩ = some (.slice A2 x.who.length c2)) ∧ (w'.cell? (ad.add (i * 5)) = some (.int .i64 x.id) ∧ w'.cell? ⟨(ad.add (i * 5)).block, (ad.add (i * 5)).off + 1, none⟩ = some (.int .u32 x.inc) ∧ w'.cell? ⟨(ad.add (i * 5)).block, (ad.add (i * 5)).off + 2, none⟩ = some (.int .u64 x.since) ∧ w'.cell? ⟨(ad.add (i * 5)).block, (ad.add (i * 5)).off + 3, none⟩ = some (.int .u64 x.hold) ∧ w'.cell? ⟨(ad.add (i * 5)).block, (ad.add (i * 5)).off + 4, none⟩ = some (.slice A1 x.who.length c1))) (exact ⟨⟨m0, m1, m2, m3, m4⟩, ⟨k0, k1, k2, k3, k4⟩⟩) (first | fail)
      all_goals
        go_upto_region 9 with (fail)
        clear m0 m1 m2 m3 m4 k0 k1 k2 k3 k4
        go_loopg [6] x.who.length (fun gg v6 wr => ∃ k : Nat, k ≤ x.who.length ∧ x.who.length - k ≤ gg ∧ v6 = .int .i64 (k : Int) ∧ Aside0 (Sep w (fun _ => False) emp wr))
        case atStart => exact ⟨0, Nat.zero_le _, by omega, rfl, HS⟩
        case round =>
          clear HS
          obtain ⟨k, hk, hgk, rfl, HS⟩ := hrel
          obtain ⟨-, -, -, -, k4⟩ := same_keep1 (sep_below_of HS.out) HA.out H1.out
          by_cases hlk : k < x.who.length
          · have e1b : decide ((k : Int) < (x.who.length : Int)) = true := decide_eq_true (Int.ofNat_lt.2 hlk)
            have e1n : decide (k < x.who.length) = true := decide_eq_true hlk
            have e1q := eq_true hlk
            have p2_ := eq_true (Int.natCast_nonneg k)
            obtain ⟨y, hy⟩ : ∃ y, x.who[k]? = some y := ⟨_, List.getElem?_eq_getElem hlk⟩
            obtain ⟨a1, rfl, -⟩ := int_at HP1.out k y hy
            obtain ⟨a2, rfl, -⟩ := int_at HP2.out k y hy
            have HIK := Aside0.mk (And.intro hlk hgk)
            have HY := Aside0.mk hy
            clear hk hgk hlk hy
            go_upto_region 11 with (fail)
            clear k4
            have n_ := sep_drew HS.out
            have n0_ := Aside0.mk n_; clear HS n_; have HS := n0_; clear n0_
            obtain ⟨-, -, -, -, k4⟩ := same_keep1 (sep_below_of HS.out) HA.out H1.out
            obtain ⟨-, -, -, -, m4⟩ := same_keep1 (sep_below_of HS.out) HB.out H2.out
            obtain ⟨_, z1, k5⟩ := int_at (Kd.C_below HP1.out (sep_below_of HS.out)) k y HY.out
            cases z1
            obtain ⟨_, z2, m5⟩ := int_at (Kd.C_below HP2.out (sep_below_of HS.out)) k y HY.out
            cases z2
            go_region_held3 (fun w' => w'.cell? ⟨(ae.add (i * 5)).block, (ae.add (i * 5)).off + 4, none⟩ = some (.slice (some a2) x.who.length c2) ∧ w'.cell? ⟨(ad.add (i * 5)).block, (ad.add (i * 5)).off + 4, none⟩ = some (.slice (some a1) x.who.length c1) ∧ w'.cell? (a2.add k) = some (.int .i64 y) ∧ w'.cell? (a1.add k) = some (.int .i64 y)) (exact ⟨m4, k4, m5, k5⟩) (first | fail)
            all_goals
              clear m4 k4 m5 k5
              go_wp2
              go_roundg (x.who.length - (k + 1))
              case measure => have := HIK.out; omega
              case rel => exact ⟨k + 1, HIK.out.1, Nat.le_refl _, congrArg (Value.int .i64) (by have := HIK.out; have := HF.out; unfold wrap64; omega), HS⟩
          · have e1b : decide ((k : Int) < (x.who.length : Int)) = false := decide_eq_false (by omega)
            have e1n : decide (k < x.who.length) = false := decide_eq_false hlk
            have e1q := eq_false hlk
            have e1r : ((k : Int) < (x.who.length : Int)) = False := eq_false (by omega)
            clear hk hgk hlk
            go_wp2
            go_roundg (L.length - (i + 1))
            case measure => have := HI.out; omega
            case rel => exact ⟨i + 1, HI.out.1, Nat.le_refl _, congrArg (Value.int .i64) (by have := HI.out; have := HL.out.1; unfold wrap64; omega), HS⟩
    · obtain rfl : i = L.length := by omega
      have c2b : decide ((L.length : Int) < (L.length : Int)) = false := decide_eq_false (by omega)
      clear hi hgi hlt
      go_wp2
      go_ret
      exact ⟨rfl, sep_below_of HS.out⟩
end Go.Proofs.Ythoppcefadopeaa.DW
