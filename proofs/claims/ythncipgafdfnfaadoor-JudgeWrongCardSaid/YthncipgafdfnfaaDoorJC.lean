/- The judge: Wrong. Conditions: those that each theorem names. -/
import Derived.Test.YthncipgafdfnfaaDoorJB
namespace Go.Proofs.YthncipgafdfnfaaDoor.JW
set_option linter.unusedVariables false
set_option linter.unusedSimpArgs false
open Go Go.RowKit Go.Proofs.YthncipgafdfnfaaDoorS Go.Proofs.YthncipgafdfnfaaDoorS.Asn Go.Proofs.YthncipgafdfnfaaDoor.PA Go.Proofs.YthncipgafdfnfaaDoorW.PrintWords Go.Proofs.YthncipgafdfnfaaDoorW.PrintLast Go.Proofs.YthncipgafdfnfaaDoorW.PrintMore
/-- Who sees whom wrong. -/
def prK : Kd (Int × Int) := Kd.pair (Kd.int .i64) (Kd.int .i64)
def pcells (x : Int × Int) : List Value := [.int .i64 x.1, .int .i64 x.2]
theorem prK_M (w : World) (base : Nat) (ok : Nat → Prop) (x : Int × Int) : prK.M w base ok x (pcells x) := ⟨[_], _, rfl, rfl, rfl⟩
theorem prK_open {w : World} {x : Int × Int} {cs : List Value} (h : prK.K w x cs) : cs = pcells x := by
  obtain ⟨_, _, rfl, rfl, rfl⟩ := h
  rfl
def z40 : Value := .agg #[.int .i64 0, .int .i64 0]
theorem info40 : (Tryd.prog.info? 40).map (fun i => (i.zero, i.size, i.bytes)) = some (some z40, 2, 16) := by kernel_rfl
theorem bool_at {w : World} {A : Option Addr} {l : List Bool} (h : Kd.bool.C w A l.length l) (i : Nat) (hi : i < l.length) :
    ∃ ad : Addr, A = some ad ∧ w.cell? (ad.add i) = some (.bool (l.getD i false)) := by
  obtain ⟨h0, h1, h2⟩ := h
  obtain ⟨ad, rfl, hc⟩ := h2 (by omega)
  have hl := List.getElem?_eq_getElem hi
  obtain ⟨c, hlen, hk, hcell⟩ := hc i _ hl
  obtain rfl : c = [.bool l[i]] := hk
  have := hcell 0 _ rfl
  rw [show i * Kd.bool.sz + 0 = i from Nat.mul_one i] at this
  refine ⟨ad, rfl, ?_⟩
  rw [this, List.getD_eq_getElem?_getD, hl]
  rfl
set_option maxHeartbeats 4000000 in
set_option maxRecDepth 100000 in
theorem wrong_walk (Av Au : Option Addr) (cv cu : Nat) (views : List (List Rec)) (up : List Bool) (w : World) (hv : llK.C w Av views.length views) (hu : Kd.bool.C w Au up.length up) (hn : up.length ≤ 1000) :
    Calls Tryd.prog 12 #[.slice Av views.length cv, .slice Au up.length cu] w fun e w' => ∃ v, e = .returned v ∧ Sep w (fun _ => False) (row prK 40 v (wrongE views up) ⋆ emp) w' := by
  have HS := Aside0.mk (sep_row_nil (d := prK) (e := 40) (sep_start w))
  have HV := Aside0.mk hv
  have HU := Aside0.mk hu
  have HN := Aside0.mk hn
  clear hv hu hn
  go_enter Tryd.func12, Tryd.ntmps12
  go_upto_region 3 with (fail)
  go_loopg [5, 11] up.length (fun gg v5 v11 wr => ∃ i : Nat, i ≤ up.length ∧ up.length - i ≤ gg ∧ v11 = .int .i64 (i : Int) ∧ Aside0 (Sep w (fun _ => False) (row prK 40 v5 (wrong2 views up i) ⋆ emp) wr))
  case atStart => exact ⟨0, Nat.zero_le _, by omega, rfl, HS⟩
  case round =>
    clear HS
    obtain ⟨i, hi, hgi, rfl, HS⟩ := hrel
    by_cases hlt : i < up.length
    · have c1b : decide ((i : Int) < (up.length : Int)) = true := decide_eq_true (Int.ofNat_lt.2 hlt); have c1n : decide (i < up.length) = true := decide_eq_true hlt; have c1i : ((i : Int) < (up.length : Int)) = True := eq_true (Int.ofNat_lt.2 hlt); have c1q : (i < up.length) = True := eq_true hlt; have p0_ := eq_true (Int.natCast_nonneg i)
      have HI := Aside0.mk (And.intro hlt hgi)
      clear hi hgi hlt
      by_cases hvl : i < views.length
      · have q1 : decide ((i : Int) < (views.length : Int)) = true := decide_eq_true (Int.ofNat_lt.2 hvl)
        have q2 : ((i : Int) < (views.length : Int)) = True := eq_true (Int.ofNat_lt.2 hvl)
        have q3 := eq_true hvl
        obtain ⟨lv, hlv⟩ : ∃ lv, views[i]? = some lv := ⟨_, List.getElem?_eq_getElem hvl⟩
        obtain ⟨av, A', c', hav, ka, hle, hC⟩ := ll_at HV.out i lv hlv
        subst hav
        have HLE : Aside0 (views.getD i [] = lv) := ⟨by rw [List.getD_eq_getElem?_getD, hlv]; rfl⟩
        have HCALL : Aside0 (∀ (id : Int) (w1 : World), Below w.heap.size w w1 → Calls Tryd.prog 21 #[.slice A' lv.length c', .int .i64 id] w1 fun e w' => e = .returned (.bool (liveE lv id)) ∧ Below w1.heap.size w1 w') := ⟨fun id w1 hb => live_walk A' c' lv id w1 (Kd.C_below hC hb)⟩
        replace ka := cell_now ka (sep_below_of HS.out)
        clear hvl hlv hle hC
        go_upto_region 9 with (fail)
        go_loopg [5, 24] up.length (fun gg v5 v24 wr => ∃ j : Nat, j ≤ up.length ∧ up.length - j ≤ gg ∧ v24 = .int .i64 (j : Int) ∧ Aside0 (Sep w (fun _ => False) (row prK 40 v5 (wrong2 views up i ++ wrong1 views up i j) ⋆ emp) wr))
        case atStart => exact ⟨0, Nat.zero_le _, by omega, rfl, ⟨by rw [show wrong1 views up i 0 = [] from rfl, List.append_nil]; exact HS.out⟩⟩
        case round =>
          clear HS
          obtain ⟨j, hj, hgj, rfl, HS⟩ := hrel
          by_cases hltj : j < up.length
          · have g1 : decide ((j : Int) < (up.length : Int)) = true := decide_eq_true (Int.ofNat_lt.2 hltj)
            have g2 : ((j : Int) < (up.length : Int)) = True := eq_true (Int.ofNat_lt.2 hltj)
            have g3 := eq_true hltj
            have g4 := eq_true (Int.natCast_nonneg j)
            have HJ := Aside0.mk (And.intro hltj hgj)
            obtain ⟨au, hau, ki⟩ := bool_at HU.out i HI.out.1
            obtain ⟨au', hau', kj⟩ := bool_at HU.out j hltj
            subst hau
            cases hau'
            have HLEN : Aside0 ((wrong2 views up i ++ wrong1 views up i j).length ≤ 1001000) := ⟨by
              rw [List.length_append]
              have h1 := wrong2_len views up i
              have h2 := wrong1_len views up i j
              have h3 := Nat.mul_le_mul (show i ≤ 1000 by have := HI.out; have := HN.out; omega) (show up.length ≤ 1000 from HN.out)
              have := HN.out
              omega⟩
            obtain ⟨ui, hui⟩ : ∃ b, up.getD i false = b := ⟨_, rfl⟩
            obtain ⟨uj, huj⟩ : ∃ b, up.getD j false = b := ⟨_, rfl⟩
            obtain ⟨lb, hlb⟩ : ∃ b, liveE lv ((j : Int) + 1) = b := ⟨_, rfl⟩
            rw [hui] at ki
            rw [huj] at kj
            have HKI := Aside0.mk ki
            have HKJ := Aside0.mk kj
            have HUI := Aside0.mk hui
            have HUJ := Aside0.mk huj
            have HLV := Aside0.mk hlb
            replace ki := cell_now ki (sep_below_of HS.out)
            replace kj := cell_now kj (sep_below_of HS.out)
            have w1_ : wrap64 ((i : Int) + 1) = (i : Int) + 1 := by have := HI.out; have := HN.out; unfold wrap64; omega
            have w2_ : wrap64 ((j : Int) + 1) = (j : Int) + 1 := by have := HJ.out; have := HN.out; unfold wrap64; omega
            have HW3 : Aside0 (IntKind.i64.wrap ((j : Int) + 1) = (j : Int) + 1) := ⟨by have := HJ.out; have := HN.out; rw [IntKind.wrap_i64]; omega⟩
            clear hj hgj hltj hui huj hlb
            cases ui with
            | false =>
              have hz : (up.getD i false && (decide (i ≠ j) && (up.getD j false != liveE (views.getD i []) ((j : Int) + 1)))) = false := by rw [HUI.out, Bool.false_and]
              have hsu := wrong1_succ views up i j
              rw [if_neg (by rw [hz]; decide), List.append_nil] at hsu
              have HSU := Aside0.mk hsu
              clear hz hsu
              go_upto_region 11 with (fail)
              go_region
              all_goals
                go_wp2
                have n_ := sep_drew HS.out
                have n0_ := Aside0.mk n_; clear HS n_; have HS := n0_; clear n0_
                go_roundg (up.length - (j + 1))
                case measure => have := HJ.out; omega
                case rel =>
                  refine ⟨j + 1, by have := HJ.out; omega, Nat.le_refl _, congrArg (Value.int .i64) (by have := HJ.out; have := HN.out; unfold wrap64; omega), ⟨?_⟩⟩
                  first | exact HS.out | (rw [HSU.out]; exact HS.out)
            | true =>
              by_cases hij : i = j
              · skip
                have hz : (up.getD i false && (decide (i ≠ j) && (up.getD j false != liveE (views.getD i []) ((j : Int) + 1)))) = false := by rw [decide_eq_false (fun h => h hij), Bool.false_and, Bool.and_false]
                have hsu := wrong1_succ views up i j
                rw [if_neg (by rw [hz]; decide), List.append_nil] at hsu
                have HSU := Aside0.mk hsu
                clear hz hsu
                have t1 : ((i : Int) != (j : Int)) = false := by rw [hij]; simp
                have t2 : ((i : Int) = (j : Int)) = True := eq_true (by omega)
                have t3 := eq_true hij
                clear hij
                go_upto_region 11 with (fail)
                go_region
                all_goals
                  go_wp2
                  have n_ := sep_drew HS.out
                  have n0_ := Aside0.mk n_; clear HS n_; have HS := n0_; clear n0_
                  go_roundg (up.length - (j + 1))
                  case measure => have := HJ.out; omega
                  case rel =>
                    refine ⟨j + 1, by have := HJ.out; omega, Nat.le_refl _, congrArg (Value.int .i64) (by have := HJ.out; have := HN.out; unfold wrap64; omega), ⟨?_⟩⟩
                    first | exact HS.out | (rw [HSU.out]; exact HS.out)
              · have t1 : ((i : Int) != (j : Int)) = true := bne_iff_ne.2 (by omega)
                have t2 : ((i : Int) = (j : Int)) = False := eq_false (by omega)
                have t3 := eq_false hij
                have HIJ := Aside0.mk (decide_eq_true hij)
                clear hij
                cases uj with
                | false =>
                  cases lb with
                  | false =>
                    have hz : (up.getD i false && (decide (i ≠ j) && (up.getD j false != liveE (views.getD i []) ((j : Int) + 1)))) = false := by rw [HUI.out, HIJ.out, HUJ.out, HLE.out, HLV.out]; rfl
                    have hsu := wrong1_succ views up i j
                    rw [if_neg (by rw [hz]; decide), List.append_nil] at hsu
                    have HSU := Aside0.mk hsu
                    clear hz hsu
                    go_upto_region 11 with (fail)
                    clear ki kj
                    replace HS := Aside0.mk (sep_drew HS.out)
                    have ki := cell_now HKI.out (sep_below_of HS.out)
                    have kj := cell_now HKJ.out (sep_below_of HS.out)
                    (first | go_region_held3 (fun w' => w'.cell? (au.add i) = some (.bool true) ∧ w'.cell? (au.add j) = some (.bool false)) (exact ⟨ki, kj⟩) (first | (go_at_call 21; (with_reducible refine Calls.mono (HCALL.out _ _ (sep_below_of HS.out)) ?_); rintro e w1 ⟨rfl, hb_⟩; rw [HW3.out, HLV.out]; have n_ := sep_below HS.out hb_; clear hb_ ki kj; have n0_ := Aside0.mk n_; clear HS n_; have HS := n0_; clear n0_; have ki := cell_now HKI.out (sep_below_of HS.out); have kj := cell_now HKJ.out (sep_below_of HS.out))) | fail)
                    all_goals
                      go_wp2
                      go_roundg (up.length - (j + 1))
                      case measure => have := HJ.out; omega
                      case rel =>
                        refine ⟨j + 1, by have := HJ.out; omega, Nat.le_refl _, congrArg (Value.int .i64) (by have := HJ.out; have := HN.out; unfold wrap64; omega), ⟨?_⟩⟩
                        first | exact HS.out | (rw [HSU.out]; exact HS.out)
                  | true =>
                    have hz : (up.getD i false && (decide (i ≠ j) && (up.getD j false != liveE (views.getD i []) ((j : Int) + 1)))) = true := by rw [HUI.out, HIJ.out, HUJ.out, HLE.out, HLV.out]; rfl
                    have hsu := wrong1_succ views up i j
                    rw [if_pos hz] at hsu
                    have HSU := Aside0.mk (show wrong2 views up i ++ wrong1 views up i (j + 1) = (wrong2 views up i ++ wrong1 views up i j) ++ [((i : Int) + 1, (j : Int) + 1)] by rw [hsu, List.append_assoc])
                    clear hz hsu
                    go_upto_region 11 with (fail)
                    clear ki kj
                    replace HS := Aside0.mk (sep_drew HS.out)
                    have ki := cell_now HKI.out (sep_below_of HS.out)
                    have kj := cell_now HKJ.out (sep_below_of HS.out)
                    (first | go_region_held3 (fun w' => w'.cell? (au.add i) = some (.bool true) ∧ w'.cell? (au.add j) = some (.bool false)) (exact ⟨ki, kj⟩) (first | (go_at_call 21; (with_reducible refine Calls.mono (HCALL.out _ _ (sep_below_of HS.out)) ?_); rintro e w1 ⟨rfl, hb_⟩; rw [HW3.out, HLV.out]; have n_ := sep_below HS.out hb_; clear hb_ ki kj; have n0_ := Aside0.mk n_; clear HS n_; have HS := n0_; clear n0_; have ki := cell_now HKI.out (sep_below_of HS.out); have kj := cell_now HKJ.out (sep_below_of HS.out))) | fail)
                    all_goals
                      go_wp2_with ((with_reducible refine gate_builtin (b := .append) (xs := #[.tmp 47, .tmp 53]) rfl ?_); at_builtin; refine wp_append prK rfl (.tmp 47) (.tmp 53) 37 40 z40 16 rfl Tryd.underlying37 info40 rfl (by decide) (by decide) _ (wrong2 views up i ++ wrong1 views up i j) ((i : Int) + 1, (j : Int) + 1) (pcells ((i : Int) + 1, (j : Int) + 1)) (by rfl) (by rfl) (prK_M _ _ _ _) HS.out (by have := HLEN.out; omega) ?_; intro v1_ w4 n_; rw [← HSU.out] at n_; have n0_ := Aside0.mk n_; clear HS n_; have HS := n0_; clear n0_)
                      go_roundg (up.length - (j + 1))
                      case measure => have := HJ.out; omega
                      case rel =>
                        refine ⟨j + 1, by have := HJ.out; omega, Nat.le_refl _, congrArg (Value.int .i64) (by have := HJ.out; have := HN.out; unfold wrap64; omega), ⟨?_⟩⟩
                        first | exact HS.out | (rw [HSU.out]; exact HS.out)
                | true =>
                  cases lb with
                  | false =>
                    have hz : (up.getD i false && (decide (i ≠ j) && (up.getD j false != liveE (views.getD i []) ((j : Int) + 1)))) = true := by rw [HUI.out, HIJ.out, HUJ.out, HLE.out, HLV.out]; rfl
                    have hsu := wrong1_succ views up i j
                    rw [if_pos hz] at hsu
                    have HSU := Aside0.mk (show wrong2 views up i ++ wrong1 views up i (j + 1) = (wrong2 views up i ++ wrong1 views up i j) ++ [((i : Int) + 1, (j : Int) + 1)] by rw [hsu, List.append_assoc])
                    clear hz hsu
                    go_upto_region 11 with (fail)
                    clear ki kj
                    replace HS := Aside0.mk (sep_drew HS.out)
                    have ki := cell_now HKI.out (sep_below_of HS.out)
                    have kj := cell_now HKJ.out (sep_below_of HS.out)
                    (first | go_region_held3 (fun w' => w'.cell? (au.add i) = some (.bool true) ∧ w'.cell? (au.add j) = some (.bool true)) (exact ⟨ki, kj⟩) (first | (go_at_call 21; (with_reducible refine Calls.mono (HCALL.out _ _ (sep_below_of HS.out)) ?_); rintro e w1 ⟨rfl, hb_⟩; rw [HW3.out, HLV.out]; have n_ := sep_below HS.out hb_; clear hb_ ki kj; have n0_ := Aside0.mk n_; clear HS n_; have HS := n0_; clear n0_; have ki := cell_now HKI.out (sep_below_of HS.out); have kj := cell_now HKJ.out (sep_below_of HS.out))) | fail)
                    all_goals
                      go_wp2_with ((with_reducible refine gate_builtin (b := .append) (xs := #[.tmp 47, .tmp 53]) rfl ?_); at_builtin; refine wp_append prK rfl (.tmp 47) (.tmp 53) 37 40 z40 16 rfl Tryd.underlying37 info40 rfl (by decide) (by decide) _ (wrong2 views up i ++ wrong1 views up i j) ((i : Int) + 1, (j : Int) + 1) (pcells ((i : Int) + 1, (j : Int) + 1)) (by rfl) (by rfl) (prK_M _ _ _ _) HS.out (by have := HLEN.out; omega) ?_; intro v1_ w4 n_; rw [← HSU.out] at n_; have n0_ := Aside0.mk n_; clear HS n_; have HS := n0_; clear n0_)
                      go_roundg (up.length - (j + 1))
                      case measure => have := HJ.out; omega
                      case rel =>
                        refine ⟨j + 1, by have := HJ.out; omega, Nat.le_refl _, congrArg (Value.int .i64) (by have := HJ.out; have := HN.out; unfold wrap64; omega), ⟨?_⟩⟩
                        first | exact HS.out | (rw [HSU.out]; exact HS.out)
                  | true =>
                    have hz : (up.getD i false && (decide (i ≠ j) && (up.getD j false != liveE (views.getD i []) ((j : Int) + 1)))) = false := by rw [HUI.out, HIJ.out, HUJ.out, HLE.out, HLV.out]; rfl
                    have hsu := wrong1_succ views up i j
                    rw [if_neg (by rw [hz]; decide), List.append_nil] at hsu
                    have HSU := Aside0.mk hsu
                    clear hz hsu
                    go_upto_region 11 with (fail)
                    clear ki kj
                    replace HS := Aside0.mk (sep_drew HS.out)
                    have ki := cell_now HKI.out (sep_below_of HS.out)
                    have kj := cell_now HKJ.out (sep_below_of HS.out)
                    (first | go_region_held3 (fun w' => w'.cell? (au.add i) = some (.bool true) ∧ w'.cell? (au.add j) = some (.bool true)) (exact ⟨ki, kj⟩) (first | (go_at_call 21; (with_reducible refine Calls.mono (HCALL.out _ _ (sep_below_of HS.out)) ?_); rintro e w1 ⟨rfl, hb_⟩; rw [HW3.out, HLV.out]; have n_ := sep_below HS.out hb_; clear hb_ ki kj; have n0_ := Aside0.mk n_; clear HS n_; have HS := n0_; clear n0_; have ki := cell_now HKI.out (sep_below_of HS.out); have kj := cell_now HKJ.out (sep_below_of HS.out))) | fail)
                    all_goals
                      go_wp2
                      go_roundg (up.length - (j + 1))
                      case measure => have := HJ.out; omega
                      case rel =>
                        refine ⟨j + 1, by have := HJ.out; omega, Nat.le_refl _, congrArg (Value.int .i64) (by have := HJ.out; have := HN.out; unfold wrap64; omega), ⟨?_⟩⟩
                        first | exact HS.out | (rw [HSU.out]; exact HS.out)
          · obtain rfl : j = up.length := by omega
            have g1 : decide ((up.length : Int) < (up.length : Int)) = false := decide_eq_false (by omega)
            rw [← wrong2_succ] at HS
            clear hj hgj hltj
            go_wp2
            go_roundg (up.length - (i + 1))
            case measure => have := HI.out; omega
            case rel => exact ⟨i + 1, HI.out.1, Nat.le_refl _, congrArg (Value.int .i64) (by have := HI.out; have := HN.out; unfold wrap64; omega), HS⟩
      · have q1 : decide ((i : Int) < (views.length : Int)) = false := decide_eq_false (fun h => hvl (Int.ofNat_lt.1 h))
        have q2 : ((i : Int) < (views.length : Int)) = False := eq_false (fun h => hvl (Int.ofNat_lt.1 h))
        have q3 := eq_false hvl
        have hgd : views.getD i [] = [] := by rw [List.getD_eq_getElem?_getD, List.getElem?_eq_none (by omega)]; rfl
        have hnil : ∀ w1 : World, recK.C w1 none (0 : Nat) [] := fun _ => ⟨rfl, by simp, fun hn => absurd hn (by simp)⟩
        obtain ⟨lv, hlv⟩ : ∃ lv : List Rec, lv = [] := ⟨_, rfl⟩
        have HLE : Aside0 (views.getD i [] = lv) := ⟨by rw [hgd, hlv]⟩
        have HCALL : Aside0 (∀ (id : Int) (w1 : World), Below w.heap.size w w1 → Calls Tryd.prog 21 #[.slice none 0 0, .int .i64 id] w1 fun e w' => e = .returned (.bool (liveE lv id)) ∧ Below w1.heap.size w1 w') := ⟨fun id w1 hb => by rw [hlv]; exact live_walk none 0 [] id w1 (hnil w1)⟩
        clear hvl hgd hnil hlv
        go_upto_region 9 with (fail)
        go_loopg [5, 24] up.length (fun gg v5 v24 wr => ∃ j : Nat, j ≤ up.length ∧ up.length - j ≤ gg ∧ v24 = .int .i64 (j : Int) ∧ Aside0 (Sep w (fun _ => False) (row prK 40 v5 (wrong2 views up i ++ wrong1 views up i j) ⋆ emp) wr))
        case atStart => exact ⟨0, Nat.zero_le _, by omega, rfl, ⟨by rw [show wrong1 views up i 0 = [] from rfl, List.append_nil]; exact HS.out⟩⟩
        case round =>
          clear HS
          obtain ⟨j, hj, hgj, rfl, HS⟩ := hrel
          by_cases hltj : j < up.length
          · have g1 : decide ((j : Int) < (up.length : Int)) = true := decide_eq_true (Int.ofNat_lt.2 hltj)
            have g2 : ((j : Int) < (up.length : Int)) = True := eq_true (Int.ofNat_lt.2 hltj)
            have g3 := eq_true hltj
            have g4 := eq_true (Int.natCast_nonneg j)
            have HJ := Aside0.mk (And.intro hltj hgj)
            obtain ⟨au, hau, ki⟩ := bool_at HU.out i HI.out.1
            obtain ⟨au', hau', kj⟩ := bool_at HU.out j hltj
            subst hau
            cases hau'
            have HLEN : Aside0 ((wrong2 views up i ++ wrong1 views up i j).length ≤ 1001000) := ⟨by
              rw [List.length_append]
              have h1 := wrong2_len views up i
              have h2 := wrong1_len views up i j
              have h3 := Nat.mul_le_mul (show i ≤ 1000 by have := HI.out; have := HN.out; omega) (show up.length ≤ 1000 from HN.out)
              have := HN.out
              omega⟩
            obtain ⟨ui, hui⟩ : ∃ b, up.getD i false = b := ⟨_, rfl⟩
            obtain ⟨uj, huj⟩ : ∃ b, up.getD j false = b := ⟨_, rfl⟩
            obtain ⟨lb, hlb⟩ : ∃ b, liveE lv ((j : Int) + 1) = b := ⟨_, rfl⟩
            rw [hui] at ki
            rw [huj] at kj
            have HKI := Aside0.mk ki
            have HKJ := Aside0.mk kj
            have HUI := Aside0.mk hui
            have HUJ := Aside0.mk huj
            have HLV := Aside0.mk hlb
            replace ki := cell_now ki (sep_below_of HS.out)
            replace kj := cell_now kj (sep_below_of HS.out)
            have w1_ : wrap64 ((i : Int) + 1) = (i : Int) + 1 := by have := HI.out; have := HN.out; unfold wrap64; omega
            have w2_ : wrap64 ((j : Int) + 1) = (j : Int) + 1 := by have := HJ.out; have := HN.out; unfold wrap64; omega
            have HW3 : Aside0 (IntKind.i64.wrap ((j : Int) + 1) = (j : Int) + 1) := ⟨by have := HJ.out; have := HN.out; rw [IntKind.wrap_i64]; omega⟩
            clear hj hgj hltj hui huj hlb
            cases ui with
            | false =>
              have hz : (up.getD i false && (decide (i ≠ j) && (up.getD j false != liveE (views.getD i []) ((j : Int) + 1)))) = false := by rw [HUI.out, Bool.false_and]
              have hsu := wrong1_succ views up i j
              rw [if_neg (by rw [hz]; decide), List.append_nil] at hsu
              have HSU := Aside0.mk hsu
              clear hz hsu
              go_upto_region 11 with (fail)
              go_region
              all_goals
                go_wp2
                have n_ := sep_drew HS.out
                have n0_ := Aside0.mk n_; clear HS n_; have HS := n0_; clear n0_
                go_roundg (up.length - (j + 1))
                case measure => have := HJ.out; omega
                case rel =>
                  refine ⟨j + 1, by have := HJ.out; omega, Nat.le_refl _, congrArg (Value.int .i64) (by have := HJ.out; have := HN.out; unfold wrap64; omega), ⟨?_⟩⟩
                  first | exact HS.out | (rw [HSU.out]; exact HS.out)
            | true =>
              by_cases hij : i = j
              · skip
                have hz : (up.getD i false && (decide (i ≠ j) && (up.getD j false != liveE (views.getD i []) ((j : Int) + 1)))) = false := by rw [decide_eq_false (fun h => h hij), Bool.false_and, Bool.and_false]
                have hsu := wrong1_succ views up i j
                rw [if_neg (by rw [hz]; decide), List.append_nil] at hsu
                have HSU := Aside0.mk hsu
                clear hz hsu
                have t1 : ((i : Int) != (j : Int)) = false := by rw [hij]; simp
                have t2 : ((i : Int) = (j : Int)) = True := eq_true (by omega)
                have t3 := eq_true hij
                clear hij
                go_upto_region 11 with (fail)
                go_region
                all_goals
                  go_wp2
                  have n_ := sep_drew HS.out
                  have n0_ := Aside0.mk n_; clear HS n_; have HS := n0_; clear n0_
                  go_roundg (up.length - (j + 1))
                  case measure => have := HJ.out; omega
                  case rel =>
                    refine ⟨j + 1, by have := HJ.out; omega, Nat.le_refl _, congrArg (Value.int .i64) (by have := HJ.out; have := HN.out; unfold wrap64; omega), ⟨?_⟩⟩
                    first | exact HS.out | (rw [HSU.out]; exact HS.out)
              · have t1 : ((i : Int) != (j : Int)) = true := bne_iff_ne.2 (by omega)
                have t2 : ((i : Int) = (j : Int)) = False := eq_false (by omega)
                have t3 := eq_false hij
                have HIJ := Aside0.mk (decide_eq_true hij)
                clear hij
                cases uj with
                | false =>
                  cases lb with
                  | false =>
                    have hz : (up.getD i false && (decide (i ≠ j) && (up.getD j false != liveE (views.getD i []) ((j : Int) + 1)))) = false := by rw [HUI.out, HIJ.out, HUJ.out, HLE.out, HLV.out]; rfl
                    have hsu := wrong1_succ views up i j
                    rw [if_neg (by rw [hz]; decide), List.append_nil] at hsu
                    have HSU := Aside0.mk hsu
                    clear hz hsu
                    go_upto_region 11 with (fail)
                    clear ki kj
                    replace HS := Aside0.mk (sep_drew HS.out)
                    have ki := cell_now HKI.out (sep_below_of HS.out)
                    have kj := cell_now HKJ.out (sep_below_of HS.out)
                    (first | go_region_held3 (fun w' => w'.cell? (au.add i) = some (.bool true) ∧ w'.cell? (au.add j) = some (.bool false)) (exact ⟨ki, kj⟩) (first | (go_at_call 21; (with_reducible refine Calls.mono (HCALL.out _ _ (sep_below_of HS.out)) ?_); rintro e w1 ⟨rfl, hb_⟩; rw [HW3.out, HLV.out]; have n_ := sep_below HS.out hb_; clear hb_ ki kj; have n0_ := Aside0.mk n_; clear HS n_; have HS := n0_; clear n0_; have ki := cell_now HKI.out (sep_below_of HS.out); have kj := cell_now HKJ.out (sep_below_of HS.out))) | fail)
                    all_goals
                      go_wp2
                      go_roundg (up.length - (j + 1))
                      case measure => have := HJ.out; omega
                      case rel =>
                        refine ⟨j + 1, by have := HJ.out; omega, Nat.le_refl _, congrArg (Value.int .i64) (by have := HJ.out; have := HN.out; unfold wrap64; omega), ⟨?_⟩⟩
                        first | exact HS.out | (rw [HSU.out]; exact HS.out)
                  | true =>
                    have hz : (up.getD i false && (decide (i ≠ j) && (up.getD j false != liveE (views.getD i []) ((j : Int) + 1)))) = true := by rw [HUI.out, HIJ.out, HUJ.out, HLE.out, HLV.out]; rfl
                    have hsu := wrong1_succ views up i j
                    rw [if_pos hz] at hsu
                    have HSU := Aside0.mk (show wrong2 views up i ++ wrong1 views up i (j + 1) = (wrong2 views up i ++ wrong1 views up i j) ++ [((i : Int) + 1, (j : Int) + 1)] by rw [hsu, List.append_assoc])
                    clear hz hsu
                    go_upto_region 11 with (fail)
                    clear ki kj
                    replace HS := Aside0.mk (sep_drew HS.out)
                    have ki := cell_now HKI.out (sep_below_of HS.out)
                    have kj := cell_now HKJ.out (sep_below_of HS.out)
                    (first | go_region_held3 (fun w' => w'.cell? (au.add i) = some (.bool true) ∧ w'.cell? (au.add j) = some (.bool false)) (exact ⟨ki, kj⟩) (first | (go_at_call 21; (with_reducible refine Calls.mono (HCALL.out _ _ (sep_below_of HS.out)) ?_); rintro e w1 ⟨rfl, hb_⟩; rw [HW3.out, HLV.out]; have n_ := sep_below HS.out hb_; clear hb_ ki kj; have n0_ := Aside0.mk n_; clear HS n_; have HS := n0_; clear n0_; have ki := cell_now HKI.out (sep_below_of HS.out); have kj := cell_now HKJ.out (sep_below_of HS.out))) | fail)
                    all_goals
                      go_wp2_with ((with_reducible refine gate_builtin (b := .append) (xs := #[.tmp 47, .tmp 53]) rfl ?_); at_builtin; refine wp_append prK rfl (.tmp 47) (.tmp 53) 37 40 z40 16 rfl Tryd.underlying37 info40 rfl (by decide) (by decide) _ (wrong2 views up i ++ wrong1 views up i j) ((i : Int) + 1, (j : Int) + 1) (pcells ((i : Int) + 1, (j : Int) + 1)) (by rfl) (by rfl) (prK_M _ _ _ _) HS.out (by have := HLEN.out; omega) ?_; intro v1_ w4 n_; rw [← HSU.out] at n_; have n0_ := Aside0.mk n_; clear HS n_; have HS := n0_; clear n0_)
                      go_roundg (up.length - (j + 1))
                      case measure => have := HJ.out; omega
                      case rel =>
                        refine ⟨j + 1, by have := HJ.out; omega, Nat.le_refl _, congrArg (Value.int .i64) (by have := HJ.out; have := HN.out; unfold wrap64; omega), ⟨?_⟩⟩
                        first | exact HS.out | (rw [HSU.out]; exact HS.out)
                | true =>
                  cases lb with
                  | false =>
                    have hz : (up.getD i false && (decide (i ≠ j) && (up.getD j false != liveE (views.getD i []) ((j : Int) + 1)))) = true := by rw [HUI.out, HIJ.out, HUJ.out, HLE.out, HLV.out]; rfl
                    have hsu := wrong1_succ views up i j
                    rw [if_pos hz] at hsu
                    have HSU := Aside0.mk (show wrong2 views up i ++ wrong1 views up i (j + 1) = (wrong2 views up i ++ wrong1 views up i j) ++ [((i : Int) + 1, (j : Int) + 1)] by rw [hsu, List.append_assoc])
                    clear hz hsu
                    go_upto_region 11 with (fail)
                    clear ki kj
                    replace HS := Aside0.mk (sep_drew HS.out)
                    have ki := cell_now HKI.out (sep_below_of HS.out)
                    have kj := cell_now HKJ.out (sep_below_of HS.out)
                    (first | go_region_held3 (fun w' => w'.cell? (au.add i) = some (.bool true) ∧ w'.cell? (au.add j) = some (.bool true)) (exact ⟨ki, kj⟩) (first | (go_at_call 21; (with_reducible refine Calls.mono (HCALL.out _ _ (sep_below_of HS.out)) ?_); rintro e w1 ⟨rfl, hb_⟩; rw [HW3.out, HLV.out]; have n_ := sep_below HS.out hb_; clear hb_ ki kj; have n0_ := Aside0.mk n_; clear HS n_; have HS := n0_; clear n0_; have ki := cell_now HKI.out (sep_below_of HS.out); have kj := cell_now HKJ.out (sep_below_of HS.out))) | fail)
                    all_goals
                      go_wp2_with ((with_reducible refine gate_builtin (b := .append) (xs := #[.tmp 47, .tmp 53]) rfl ?_); at_builtin; refine wp_append prK rfl (.tmp 47) (.tmp 53) 37 40 z40 16 rfl Tryd.underlying37 info40 rfl (by decide) (by decide) _ (wrong2 views up i ++ wrong1 views up i j) ((i : Int) + 1, (j : Int) + 1) (pcells ((i : Int) + 1, (j : Int) + 1)) (by rfl) (by rfl) (prK_M _ _ _ _) HS.out (by have := HLEN.out; omega) ?_; intro v1_ w4 n_; rw [← HSU.out] at n_; have n0_ := Aside0.mk n_; clear HS n_; have HS := n0_; clear n0_)
                      go_roundg (up.length - (j + 1))
                      case measure => have := HJ.out; omega
                      case rel =>
                        refine ⟨j + 1, by have := HJ.out; omega, Nat.le_refl _, congrArg (Value.int .i64) (by have := HJ.out; have := HN.out; unfold wrap64; omega), ⟨?_⟩⟩
                        first | exact HS.out | (rw [HSU.out]; exact HS.out)
                  | true =>
                    have hz : (up.getD i false && (decide (i ≠ j) && (up.getD j false != liveE (views.getD i []) ((j : Int) + 1)))) = false := by rw [HUI.out, HIJ.out, HUJ.out, HLE.out, HLV.out]; rfl
                    have hsu := wrong1_succ views up i j
                    rw [if_neg (by rw [hz]; decide), List.append_nil] at hsu
                    have HSU := Aside0.mk hsu
                    clear hz hsu
                    go_upto_region 11 with (fail)
                    clear ki kj
                    replace HS := Aside0.mk (sep_drew HS.out)
                    have ki := cell_now HKI.out (sep_below_of HS.out)
                    have kj := cell_now HKJ.out (sep_below_of HS.out)
                    (first | go_region_held3 (fun w' => w'.cell? (au.add i) = some (.bool true) ∧ w'.cell? (au.add j) = some (.bool true)) (exact ⟨ki, kj⟩) (first | (go_at_call 21; (with_reducible refine Calls.mono (HCALL.out _ _ (sep_below_of HS.out)) ?_); rintro e w1 ⟨rfl, hb_⟩; rw [HW3.out, HLV.out]; have n_ := sep_below HS.out hb_; clear hb_ ki kj; have n0_ := Aside0.mk n_; clear HS n_; have HS := n0_; clear n0_; have ki := cell_now HKI.out (sep_below_of HS.out); have kj := cell_now HKJ.out (sep_below_of HS.out))) | fail)
                    all_goals
                      go_wp2
                      go_roundg (up.length - (j + 1))
                      case measure => have := HJ.out; omega
                      case rel =>
                        refine ⟨j + 1, by have := HJ.out; omega, Nat.le_refl _, congrArg (Value.int .i64) (by have := HJ.out; have := HN.out; unfold wrap64; omega), ⟨?_⟩⟩
                        first | exact HS.out | (rw [HSU.out]; exact HS.out)
          · obtain rfl : j = up.length := by omega
            have g1 : decide ((up.length : Int) < (up.length : Int)) = false := decide_eq_false (by omega)
            rw [← wrong2_succ] at HS
            clear hj hgj hltj
            go_wp2
            go_roundg (up.length - (i + 1))
            case measure => have := HI.out; omega
            case rel => exact ⟨i + 1, HI.out.1, Nat.le_refl _, congrArg (Value.int .i64) (by have := HI.out; have := HN.out; unfold wrap64; omega), HS⟩
    · obtain rfl : i = up.length := by omega
      have c2b : decide ((up.length : Int) < (up.length : Int)) = false := decide_eq_false (by omega)
      go_wp2
      go_ret
      exact ⟨_, rfl, HS.out⟩
end Go.Proofs.YthncipgafdfnfaaDoor.JW
