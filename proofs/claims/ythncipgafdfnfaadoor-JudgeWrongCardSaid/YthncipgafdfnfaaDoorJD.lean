/- The judge: Text (record.Word, numbers below 10, strings.Join out of the kit's proved contract). Conditions: those that each theorem names. -/
import Derived.Shelf.Strings.OnBuilder
import Derived.Test.YthncipgafdfnfaaDoorJC
namespace Go.Proofs.YthncipgafdfnfaaDoor.JW
set_option linter.unusedVariables false
set_option linter.unusedSimpArgs false
open Go Go.RowKit Go.Shelf Go.Proofs Go.Proofs.YthncipgafdfnfaaDoorS Go.Proofs.YthncipgafdfnfaaDoorS.Asn Go.Proofs.YthncipgafdfnfaaDoor.PA Go.Proofs.YthncipgafdfnfaaDoorW.PrintWords Go.Proofs.YthncipgafdfnfaaDoorW.PrintLast Go.Proofs.YthncipgafdfnfaaDoorW.PrintMore
def lays156_ren : Go.Shelf.Ren := ⟨fun | 156 => 26 | 165 => 35 | 166 => 36 | 169 => 37 | 240 => 46 | 241 => 47 | 276 => 54 | 277 => 55 | n => n, fun | 31 => 57 | 9 => 9 | 3 => 3 | 4 => 4 | 0 => 0 | 20 => 20 | 72 => 71 | 76 => 75 | 70 => 68 | 37 => 69 | 75 => 74 | 127 => 88 | 164 => 95 | 5 => 5 | 80 => 77 | n => n, fun | n => n⟩
theorem lays156 : Go.Proofs.Lays.n156 Tryd.prog lays156_ren := {
  mixed := by kernel_rfl
  f156 := Tryd.func26.trans (congrArg some (by kernel_rfl))
  f165 := Tryd.func35.trans (congrArg some (by kernel_rfl))
  f166 := Tryd.func36.trans (congrArg some (by kernel_rfl))
  f169 := Tryd.func37.trans (congrArg some (by kernel_rfl))
  f240 := Tryd.func46.trans (congrArg some (by kernel_rfl))
  f241 := Tryd.func47.trans (congrArg some (by kernel_rfl))
  f276 := Tryd.func54.trans (congrArg some (by kernel_rfl))
  f277 := Tryd.func55.trans (congrArg some (by kernel_rfl))
  t0 := Tryd.underlying0
  a0 := Tryd.isAgg0
  z0 := Tryd.sizeOf0
  v0 := Tryd.zeroValue0
  t3 := Tryd.underlying3
  a3 := Tryd.isAgg3
  z3 := Tryd.sizeOf3
  v3 := Tryd.zeroValue3
  t4 := Tryd.underlying4
  a4 := Tryd.isAgg4
  z4 := Tryd.sizeOf4
  v4 := Tryd.zeroValue4
  t9 := Tryd.underlying9
  a9 := Tryd.isAgg9
  z9 := Tryd.sizeOf9
  v9 := Tryd.zeroValue9
  t20 := Tryd.underlying20
  a20 := Tryd.isAgg20
  z20 := Tryd.sizeOf20
  v20 := Tryd.zeroValue20
  t31 := Tryd.underlying57
  a31 := Tryd.isAgg57
  z31 := Tryd.sizeOf57
  v31 := Tryd.zeroValue57
  t37 := Tryd.underlying69
  a37 := Tryd.isAgg69
  z37 := Tryd.sizeOf69
  v37 := Tryd.zeroValue69
  t70 := Tryd.underlying68
  a70 := Tryd.isAgg68
  z70 := Tryd.sizeOf68
  v70 := Tryd.zeroValue68
  t72 := Tryd.underlying71
  a72 := Tryd.isAgg71
  z72 := Tryd.sizeOf71
  v72 := Tryd.zeroValue71
  t75 := Tryd.underlying74
  a75 := Tryd.isAgg74
  z75 := Tryd.sizeOf74
  v75 := Tryd.zeroValue74
  t76 := Tryd.underlying75
  a76 := Tryd.isAgg75
  z76 := Tryd.sizeOf75
  v76 := Tryd.zeroValue75
  t127 := Tryd.underlying88
  a127 := Tryd.isAgg88
  z127 := Tryd.sizeOf88
  v127 := Tryd.zeroValue88
  t164 := Tryd.underlying95
  a164 := Tryd.isAgg95
  z164 := Tryd.sizeOf95
  v164 := Tryd.zeroValue95 }
theorem Builder_Extra_156 : Builder.Extra Tryd.prog lays156_ren := {
  sizeBuilder := by kernel_rfl
  liesBuilder := by kernel_rfl
  t5 := Tryd.underlying5
  a5 := Tryd.isAgg5
  z5 := Tryd.sizeOf5
  v5 := Tryd.zeroValue5
  infoByte := by kernel_rfl
  cellsByte := by kernel_rfl
  sizeByte := by kernel_rfl
  neB5 := by decide }
/-- A digit's text. -/
def dig (n : Int) : ByteArray := ⟨#[UInt8.ofNat (48 + n.toNat)]⟩
/-- A state's word. -/
def wordB (st : Int) : ByteArray := if st = 0 then ⟨#[97, 108, 105, 118, 101]⟩ else if st = 1 then ⟨#[115, 117, 115, 112, 101, 99, 116]⟩ else if st = 2 then ⟨#[100, 101, 97, 100]⟩ else ⟨#[108, 101, 102, 116]⟩
theorem small_walk (n : Int) (w : World) (h0 : 0 ≤ n) (h1 : n < 10) : Calls Tryd.prog 42 #[.int .i64 n] w fun e w' => e = .returned (.string (dig n)) ∧ Below w.heap.size w w' := by
  obtain rfl | rfl | rfl | rfl | rfl | rfl | rfl | rfl | rfl | rfl : n = 0 ∨ n = 1 ∨ n = 2 ∨ n = 3 ∨ n = 4 ∨ n = 5 ∨ n = 6 ∨ n = 7 ∨ n = 8 ∨ n = 9 := by omega
  all_goals
    go_enter Tryd.func42, Tryd.ntmps42
    go_wp2
    go_ret
    exact ⟨rfl, Below.refl _ _⟩
theorem word_walk (n : Int) (w : World) (h0 : 0 ≤ n) (h1 : n < 4) : Calls Tryd.prog 24 #[.int .i64 n] w fun e w' => e = .returned (.string (wordB n)) ∧ Below w.heap.size w w' := by
  have HS := Aside0.mk (sep_start w)
  obtain rfl | rfl | rfl | rfl : n = 0 ∨ n = 1 ∨ n = 2 ∨ n = 3 := by omega
  all_goals
    go_enter Tryd.func24, Tryd.ntmps24
    go_wp2
    go_ret
    exact ⟨rfl, below_alloc (Below.refl _ _) _⟩
theorem formatInt_walk (n : Int) (w : World) (h0 : 0 ≤ n) (h1 : n < 10) : Calls Tryd.prog 41 #[.int .i64 n, .int .i64 10] w fun e w' => e = .returned (.string (dig n)) ∧ Below w.heap.size w w' := by
  have HS := Aside0.mk (sep_start w)
  have hc := small_walk n w h0 h1
  have d1 : decide (0 ≤ n) = true := decide_eq_true h0
  have d2 : decide (n < 100) = true := decide_eq_true (by omega)
  clear h0 h1
  go_enter Tryd.func41, Tryd.ntmps41
  go_wp2_with (go_at_call 42; (with_reducible refine Calls.mono (hc) ?_); rintro e w1 ⟨rfl, hb_⟩; have n_ := sep_below HS.out hb_; clear hb_; have n0_ := Aside0.mk n_; clear HS n_; have HS := n0_; clear n0_; skip)
  go_ret
  exact ⟨rfl, sep_below_of HS.out⟩
theorem itoa0_walk (n : Int) (w : World) (h0 : 0 ≤ n) (h1 : n < 10) : Calls Tryd.prog 33 #[.int .i64 n] w fun e w' => e = .returned (.string (dig n)) ∧ Below w.heap.size w w' := by
  have HS := Aside0.mk (sep_start w)
  have hc := formatInt_walk n w h0 h1
  clear h0 h1
  go_enter Tryd.func33, Tryd.ntmps33
  go_wp2_with (go_at_call 41; (with_reducible refine Calls.mono (hc) ?_); rintro e w1 ⟨rfl, hb_⟩; have n_ := sep_below HS.out hb_; clear hb_; have n0_ := Aside0.mk n_; clear HS n_; have HS := n0_; clear n0_; skip)
  go_ret
  exact ⟨rfl, sep_below_of HS.out⟩
theorem itoa_walk (n : Int) (w : World) (h0 : 0 ≤ n) (h1 : n < 10) : Calls Tryd.prog 23 #[.int .i64 n] w fun e w' => e = .returned (.string (dig n)) ∧ Below w.heap.size w w' := by
  have HS := Aside0.mk (sep_start w)
  have hc := itoa0_walk n w h0 h1
  clear h0 h1
  go_enter Tryd.func23, Tryd.ntmps23
  go_wp2_with (go_at_call 33; (with_reducible refine Calls.mono (hc) ?_); rintro e w1 ⟨rfl, hb_⟩; have n_ := sep_below HS.out hb_; clear hb_; have n0_ := Aside0.mk n_; clear HS n_; have HS := n0_; clear n0_; skip)
  go_ret
  exact ⟨rfl, sep_below_of HS.out⟩
theorem formatUint0_walk (n : Int) (w : World) (h0 : 0 ≤ n) (h1 : n < 10) : Calls Tryd.prog 34 #[.int .u64 n, .int .i64 10] w fun e w' => e = .returned (.string (dig n)) ∧ Below w.heap.size w w' := by
  have HS := Aside0.mk (sep_start w)
  have hc := small_walk n w h0 h1
  have d2 : decide (n < 100) = true := decide_eq_true (by omega)
  have w1_ : wrap64 n = n := by unfold wrap64; omega
  clear h0 h1
  go_enter Tryd.func34, Tryd.ntmps34
  go_wp2_with (go_at_call 42; (with_reducible refine Calls.mono (hc) ?_); rintro e w1 ⟨rfl, hb_⟩; have n_ := sep_below HS.out hb_; clear hb_; have n0_ := Aside0.mk n_; clear HS n_; have HS := n0_; clear n0_; skip)
  go_ret
  exact ⟨rfl, sep_below_of HS.out⟩
theorem formatUint_walk (n : Int) (w : World) (h0 : 0 ≤ n) (h1 : n < 10) : Calls Tryd.prog 25 #[.int .u64 n, .int .i64 10] w fun e w' => e = .returned (.string (dig n)) ∧ Below w.heap.size w w' := by
  have HS := Aside0.mk (sep_start w)
  have hc := formatUint0_walk n w h0 h1
  clear h0 h1
  go_enter Tryd.func25, Tryd.ntmps25
  go_wp2_with (go_at_call 34; (with_reducible refine Calls.mono (hc) ?_); rintro e w1 ⟨rfl, hb_⟩; have n_ := sep_below HS.out hb_; clear hb_; have n0_ := Aside0.mk n_; clear HS n_; have HS := n0_; clear n0_; skip)
  go_ret
  exact ⟨rfl, sep_below_of HS.out⟩
theorem formatUintW (n : Int) (w : World) (h0 : 0 ≤ n) (h1 : n < 10) : Calls Tryd.prog 25 #[.int .u64 (IntKind.u64.wrap n), .int .i64 10] w fun e w' => e = .returned (.string (dig n)) ∧ Below w.heap.size w w' := by
  rw [show IntKind.u64.wrap n = n by rw [IntKind.wrap_u64]; omega]
  exact formatUint_walk n w h0 h1
/-! ## Text -/
/-- A record that the text tells by digits. -/
abbrev Fit (r : Rec) : Prop := 0 ≤ r.id ∧ r.id < 10 ∧ 0 ≤ r.st ∧ r.st < 4 ∧ 0 ≤ r.inc ∧ r.inc < 10
/-- A record's text. -/
def one (r : Rec) : ByteArray := (((dig r.id ++ ⟨#[58]⟩) ++ wordB r.st) ++ ⟨#[64]⟩) ++ dig r.inc
def textE (l : List Rec) : ByteArray := ⟨(Lib.join ((l.map one).map (·.data.toList)) [32]).toArray⟩
theorem join_walk (A : Option Addr) (c : Nat) (xs : List ByteArray) (w : World) (ok : Nat → Prop) (hn : xs.length ≤ 1000) (hs : (Lib.join (xs.map (·.data.toList)) [32]).length ≤ 140737488355328) (h : (row Kd.string 9 (.slice A xs.length c) xs ⋆ emp).H w ok) :
    Calls Tryd.prog 26 #[.slice A xs.length c, .string ⟨#[32]⟩] w fun e w' => e = .returned (.string ⟨(Lib.join (xs.map (·.data.toList)) [32]).toArray⟩) ∧ Below w.heap.size w w' := by
  have HS := sep_begin h
  rcases Nat.eq_zero_or_pos xs.length with h0 | h0
  · obtain rfl := List.eq_nil_of_length_eq_zero h0
    have hx : Calls Tryd.prog 26 #[.slice A 0 c, .string ⟨#[32]⟩] w fun e w' => e = .returned (.string ⟨#[]⟩) ∧ w' = w := Any.strings_Join_none lays156 Builder_Extra_156 A c ⟨#[32]⟩ w
    refine hx.mono ?_
    rintro e w' ⟨rfl, rfl⟩
    exact ⟨rfl, Below.refl _ _⟩
  · obtain ⟨g, rfl⟩ := row_addr HS h0
    obtain ⟨-, hc, h1, h2, h3⟩ := sep_row' HS
    obtain ⟨ad, he, hcell⟩ := h3 h0
    cases he
    have hcells : ∀ (j : Nat) x, xs[j]? = some x → w.cell? ⟨g, 0 + j, none⟩ = some (.string x) := by
      intro j x hx
      obtain ⟨cs, -, hk, hh⟩ := hcell j x hx
      obtain rfl : cs = [.string x] := hk
      have := hh 0 _ rfl
      rw [show j * Kd.string.sz + 0 = j from Nat.mul_one j, add_at] at this
      rw [Nat.zero_add]
      exact this
    obtain ⟨x0, hx0⟩ : ∃ x, xs[0]? = some x := ⟨_, List.getElem?_eq_getElem h0⟩
    have hb : g < w.heap.size := World.block_lt_of_cell? w _ (hcells 0 x0 hx0)
    have hx : Calls Tryd.prog 26 #[.slice (some ⟨g, 0, none⟩) xs.length c, .string ⟨#[32]⟩] w fun e w' => e = .returned (.string ⟨(Lib.join (xs.map (·.data.toList)) (⟨#[32]⟩ : ByteArray).data.toList).toArray⟩) ∧ Below w.heap.size w w' :=
      Any.strings_Join lays156 Builder_Extra_156 g 0 c xs ⟨#[32]⟩ w hcells hb (by omega) hc hs
    exact hx
theorem info9 : (Tryd.prog.info? 9).map (fun i => (i.zero, i.size, i.bytes)) = some (some (.string ⟨#[]⟩), 1, 16) := by kernel_rfl
theorem keep3 {w0 w : World} {ok0 : Nat → Prop} {F : Asn} {g : Nat} {t : TypeId} {a b c d e : Value} (h : Sep w0 ok0 (pt g #[a, b, c, d, e] t ⋆ F) w) :
    w.cell? ⟨g, 0, none⟩ = some a ∧ w.cell? ⟨g, 1, none⟩ = some b ∧ w.cell? ⟨g, 2, none⟩ = some c := ⟨sep_cell h 0, sep_cell h 1, sep_cell h 2⟩
set_option maxHeartbeats 4000000 in
set_option maxRecDepth 100000 in
theorem text_walk (A : Option Addr) (c : Nat) (l : List Rec) (w : World) (hr : recK.C w A l.length l) (hl : l.length ≤ 1000) (hf : ∀ r ∈ l, Fit r) (hj : (Lib.join ((l.map one).map (·.data.toList)) [32]).length ≤ 140737488355328) :
    Calls Tryd.prog 15 #[.slice A l.length c] w fun e w' => e = .returned (.string (textE l)) ∧ Below w.heap.size w w' := by
  have HS := Aside0.mk (sep_row_nil (d := Kd.string) (e := 9) (sep_start w))
  have HR := Aside0.mk hr
  have HL := Aside0.mk hl
  have HF := Aside0.mk hf
  unfold textE
  obtain ⟨xs, hxs⟩ : ∃ xs, l.map one = xs := ⟨_, rfl⟩
  rw [hxs] at hj ⊢
  have HJ := Aside0.mk hj
  have HXS := Aside0.mk hxs
  have HJ2 := Aside0.mk (show xs.length ≤ 1000 by rw [← hxs, List.length_map]; exact hl)
  clear hr hl hf hj hxs
  go_enter Tryd.func15, Tryd.ntmps15
  go_upto_region 3 with (fail)
  go_loopg [3, 8] l.length (fun gg v3 v8 wr => ∃ i : Nat, i ≤ l.length ∧ l.length - i ≤ gg ∧ v8 = .int .i64 (i : Int) ∧ Aside0 (Sep w (fun _ => False) (row Kd.string 9 v3 ((l.take i).map one) ⋆ emp) wr))
  case atStart => exact ⟨0, Nat.zero_le _, by omega, rfl, HS⟩
  case round =>
    clear HS
    obtain ⟨i, hi, hgi, rfl, HS⟩ := hrel
    by_cases hlt : i < l.length
    · have c1b : decide ((i : Int) < (l.length : Int)) = true := decide_eq_true (Int.ofNat_lt.2 hlt); have c1n : decide (i < l.length) = true := decide_eq_true hlt; have c1i : ((i : Int) < (l.length : Int)) = True := eq_true (Int.ofNat_lt.2 hlt); have c1q : (i < l.length) = True := eq_true hlt; have p0_ := eq_true (Int.natCast_nonneg i)
      have HI := Aside0.mk (And.intro hlt hgi)
      obtain ⟨y, hy⟩ : ∃ y, l[i]? = some y := ⟨_, List.getElem?_eq_getElem hlt⟩
      have HFY := Aside0.mk (HF.out y (List.mem_of_getElem? hy))
      have HY := Aside0.mk hy
      obtain ⟨ad, rfl, m0, m1, m2, m3, m4⟩ := rec_now HR.out (sep_below_of HS.out) i y hy
      clear hi hgi hlt hy
      go_upto_region 5 with (fail)
      have n_ := sep_drew (sep_l1 (sep_alloc HS.out #[.int .i64 y.id, .int .i64 y.st, .int .u32 y.inc, .int .u32 y.ip, .int .u16 y.po] 36))
      have n0_ := Aside0.mk n_; clear HS n_; have HS := n0_; clear n0_
      generalize wr.alloc (.cells #[.int .i64 y.id, .int .i64 y.st, .int .u32 y.inc, .int .u32 y.ip, .int .u16 y.po] 36) = wa at HS ⊢
      generalize wr.heap.size = g5 at HS ⊢
      clear m0 m1 m2 m3 m4
      obtain ⟨k1, k2, k3, -, -⟩ := facts5 (sep_l1 HS.out)
      have sz1 : (dig y.id).size = 1 := rfl
      have sz2 : (dig y.inc).size = 1 := rfl
      have hst : y.st = 0 ∨ y.st = 1 ∨ y.st = 2 ∨ y.st = 3 := by have := HFY.out; omega
      rcases hst with hst | hst | hst | hst
      · skip
        have hw : wordB y.st = (⟨#[97, 108, 105, 118, 101]⟩ : ByteArray) := by rw [hst]; rfl
        have hone : one y = ((((dig y.id ++ (⟨#[58]⟩ : ByteArray)) ++ (⟨#[97, 108, 105, 118, 101]⟩ : ByteArray)) ++ (⟨#[64]⟩ : ByteArray)) ++ dig y.inc) := by unfold one; rw [hw]
        have HW := Aside0.mk hw
        have HONE := Aside0.mk hone
        clear hw hone hst
        go_region_held3 (fun w' => w'.cell? ⟨g5, 0, none⟩ = some (.int .i64 y.id) ∧ w'.cell? ⟨g5, 1, none⟩ = some (.int .i64 y.st) ∧ w'.cell? ⟨g5, 2, none⟩ = some (.int .u32 y.inc)) (first | exact ⟨k1, k2, k3⟩ | exact keep3 (sep_l1 HS.out) | exact keep3 (sep_l1 (sep_skip HS.out _))) (first | (go_at_call 23; (with_reducible refine Calls.mono (itoa_walk y.id _ HFY.out.1 HFY.out.2.1) ?_); rintro e w1 ⟨rfl, hb_⟩; have n_ := sep_below HS.out hb_; clear hb_; have n0_ := Aside0.mk n_; clear HS n_; have HS := n0_; clear n0_; clear k1 k2 k3; obtain ⟨k1, k2, k3, -, -⟩ := facts5 (sep_l1 HS.out)) | (go_at_call 24; (with_reducible refine Calls.mono (word_walk y.st _ HFY.out.2.2.1 HFY.out.2.2.2.1) ?_); rintro e w1 ⟨rfl, hb_⟩; rw [HW.out]; have n_ := sep_below HS.out hb_; clear hb_; have n0_ := Aside0.mk n_; clear HS n_; have HS := n0_; clear n0_; clear k1 k2 k3; obtain ⟨k1, k2, k3, -, -⟩ := facts5 (sep_l1 HS.out)) | (go_at_call 25; (with_reducible refine Calls.mono (formatUintW y.inc _ HFY.out.2.2.2.2.1 HFY.out.2.2.2.2.2) ?_); rintro e w1 ⟨rfl, hb_⟩; have n_ := sep_below HS.out hb_; clear hb_; have n0_ := Aside0.mk n_; clear HS n_; have HS := n0_; clear n0_; clear k1 k2 k3; obtain ⟨k1, k2, k3, -, -⟩ := facts5 (sep_l1 HS.out)) | (refine step_append (w0 := w) (ok0 := fun _ => False) Kd.string (by rfl) (.tmp 12) (.tmp 27) 57 9 (.string ⟨#[]⟩) 16 rfl Tryd.underlying57 info9 rfl (by decide) (by decide) _ ((l.take i).map one) (((((dig y.id ++ (⟨#[58]⟩ : ByteArray)) ++ (⟨#[97, 108, 105, 118, 101]⟩ : ByteArray)) ++ (⟨#[64]⟩ : ByteArray)) ++ dig y.inc)) [.string (((((dig y.id ++ (⟨#[58]⟩ : ByteArray)) ++ (⟨#[97, 108, 105, 118, 101]⟩ : ByteArray)) ++ (⟨#[64]⟩ : ByteArray)) ++ dig y.inc))] (by rfl) (by rfl) rfl HS.out (by have := HI.out; have := HL.out; rw [List.length_map, List.length_take]; omega) (fun v1 w5 hs => ?_); clear HS k1 k2 k3; have HS := Aside0.mk hs; clear hs; obtain ⟨k1, k2, k3, -, -⟩ := facts5 (sep_l1 HS.out)) | fail)
        all_goals
          go_wp2
          rw [← HONE.out] at HS
          go_roundg (l.length - (i + 1))
          case measure => have := HI.out; omega
          case rel =>
            refine ⟨i + 1, HI.out.1, Nat.le_refl _, congrArg (Value.int .i64) (by have := HI.out; have := HL.out; unfold wrap64; omega), ⟨?_⟩⟩
            rw [List.take_add_one, HY.out, Option.toList_some, List.map_append]
            exact sep_drop (sep_l1 HS.out)
      · skip
        have hw : wordB y.st = (⟨#[115, 117, 115, 112, 101, 99, 116]⟩ : ByteArray) := by rw [hst]; rfl
        have hone : one y = ((((dig y.id ++ (⟨#[58]⟩ : ByteArray)) ++ (⟨#[115, 117, 115, 112, 101, 99, 116]⟩ : ByteArray)) ++ (⟨#[64]⟩ : ByteArray)) ++ dig y.inc) := by unfold one; rw [hw]
        have HW := Aside0.mk hw
        have HONE := Aside0.mk hone
        clear hw hone hst
        go_region_held3 (fun w' => w'.cell? ⟨g5, 0, none⟩ = some (.int .i64 y.id) ∧ w'.cell? ⟨g5, 1, none⟩ = some (.int .i64 y.st) ∧ w'.cell? ⟨g5, 2, none⟩ = some (.int .u32 y.inc)) (first | exact ⟨k1, k2, k3⟩ | exact keep3 (sep_l1 HS.out) | exact keep3 (sep_l1 (sep_skip HS.out _))) (first | (go_at_call 23; (with_reducible refine Calls.mono (itoa_walk y.id _ HFY.out.1 HFY.out.2.1) ?_); rintro e w1 ⟨rfl, hb_⟩; have n_ := sep_below HS.out hb_; clear hb_; have n0_ := Aside0.mk n_; clear HS n_; have HS := n0_; clear n0_; clear k1 k2 k3; obtain ⟨k1, k2, k3, -, -⟩ := facts5 (sep_l1 HS.out)) | (go_at_call 24; (with_reducible refine Calls.mono (word_walk y.st _ HFY.out.2.2.1 HFY.out.2.2.2.1) ?_); rintro e w1 ⟨rfl, hb_⟩; rw [HW.out]; have n_ := sep_below HS.out hb_; clear hb_; have n0_ := Aside0.mk n_; clear HS n_; have HS := n0_; clear n0_; clear k1 k2 k3; obtain ⟨k1, k2, k3, -, -⟩ := facts5 (sep_l1 HS.out)) | (go_at_call 25; (with_reducible refine Calls.mono (formatUintW y.inc _ HFY.out.2.2.2.2.1 HFY.out.2.2.2.2.2) ?_); rintro e w1 ⟨rfl, hb_⟩; have n_ := sep_below HS.out hb_; clear hb_; have n0_ := Aside0.mk n_; clear HS n_; have HS := n0_; clear n0_; clear k1 k2 k3; obtain ⟨k1, k2, k3, -, -⟩ := facts5 (sep_l1 HS.out)) | (refine step_append (w0 := w) (ok0 := fun _ => False) Kd.string (by rfl) (.tmp 12) (.tmp 27) 57 9 (.string ⟨#[]⟩) 16 rfl Tryd.underlying57 info9 rfl (by decide) (by decide) _ ((l.take i).map one) (((((dig y.id ++ (⟨#[58]⟩ : ByteArray)) ++ (⟨#[115, 117, 115, 112, 101, 99, 116]⟩ : ByteArray)) ++ (⟨#[64]⟩ : ByteArray)) ++ dig y.inc)) [.string (((((dig y.id ++ (⟨#[58]⟩ : ByteArray)) ++ (⟨#[115, 117, 115, 112, 101, 99, 116]⟩ : ByteArray)) ++ (⟨#[64]⟩ : ByteArray)) ++ dig y.inc))] (by rfl) (by rfl) rfl HS.out (by have := HI.out; have := HL.out; rw [List.length_map, List.length_take]; omega) (fun v1 w5 hs => ?_); clear HS k1 k2 k3; have HS := Aside0.mk hs; clear hs; obtain ⟨k1, k2, k3, -, -⟩ := facts5 (sep_l1 HS.out)) | fail)
        all_goals
          go_wp2
          rw [← HONE.out] at HS
          go_roundg (l.length - (i + 1))
          case measure => have := HI.out; omega
          case rel =>
            refine ⟨i + 1, HI.out.1, Nat.le_refl _, congrArg (Value.int .i64) (by have := HI.out; have := HL.out; unfold wrap64; omega), ⟨?_⟩⟩
            rw [List.take_add_one, HY.out, Option.toList_some, List.map_append]
            exact sep_drop (sep_l1 HS.out)
      · skip
        have hw : wordB y.st = (⟨#[100, 101, 97, 100]⟩ : ByteArray) := by rw [hst]; rfl
        have hone : one y = ((((dig y.id ++ (⟨#[58]⟩ : ByteArray)) ++ (⟨#[100, 101, 97, 100]⟩ : ByteArray)) ++ (⟨#[64]⟩ : ByteArray)) ++ dig y.inc) := by unfold one; rw [hw]
        have HW := Aside0.mk hw
        have HONE := Aside0.mk hone
        clear hw hone hst
        go_region_held3 (fun w' => w'.cell? ⟨g5, 0, none⟩ = some (.int .i64 y.id) ∧ w'.cell? ⟨g5, 1, none⟩ = some (.int .i64 y.st) ∧ w'.cell? ⟨g5, 2, none⟩ = some (.int .u32 y.inc)) (first | exact ⟨k1, k2, k3⟩ | exact keep3 (sep_l1 HS.out) | exact keep3 (sep_l1 (sep_skip HS.out _))) (first | (go_at_call 23; (with_reducible refine Calls.mono (itoa_walk y.id _ HFY.out.1 HFY.out.2.1) ?_); rintro e w1 ⟨rfl, hb_⟩; have n_ := sep_below HS.out hb_; clear hb_; have n0_ := Aside0.mk n_; clear HS n_; have HS := n0_; clear n0_; clear k1 k2 k3; obtain ⟨k1, k2, k3, -, -⟩ := facts5 (sep_l1 HS.out)) | (go_at_call 24; (with_reducible refine Calls.mono (word_walk y.st _ HFY.out.2.2.1 HFY.out.2.2.2.1) ?_); rintro e w1 ⟨rfl, hb_⟩; rw [HW.out]; have n_ := sep_below HS.out hb_; clear hb_; have n0_ := Aside0.mk n_; clear HS n_; have HS := n0_; clear n0_; clear k1 k2 k3; obtain ⟨k1, k2, k3, -, -⟩ := facts5 (sep_l1 HS.out)) | (go_at_call 25; (with_reducible refine Calls.mono (formatUintW y.inc _ HFY.out.2.2.2.2.1 HFY.out.2.2.2.2.2) ?_); rintro e w1 ⟨rfl, hb_⟩; have n_ := sep_below HS.out hb_; clear hb_; have n0_ := Aside0.mk n_; clear HS n_; have HS := n0_; clear n0_; clear k1 k2 k3; obtain ⟨k1, k2, k3, -, -⟩ := facts5 (sep_l1 HS.out)) | (refine step_append (w0 := w) (ok0 := fun _ => False) Kd.string (by rfl) (.tmp 12) (.tmp 27) 57 9 (.string ⟨#[]⟩) 16 rfl Tryd.underlying57 info9 rfl (by decide) (by decide) _ ((l.take i).map one) (((((dig y.id ++ (⟨#[58]⟩ : ByteArray)) ++ (⟨#[100, 101, 97, 100]⟩ : ByteArray)) ++ (⟨#[64]⟩ : ByteArray)) ++ dig y.inc)) [.string (((((dig y.id ++ (⟨#[58]⟩ : ByteArray)) ++ (⟨#[100, 101, 97, 100]⟩ : ByteArray)) ++ (⟨#[64]⟩ : ByteArray)) ++ dig y.inc))] (by rfl) (by rfl) rfl HS.out (by have := HI.out; have := HL.out; rw [List.length_map, List.length_take]; omega) (fun v1 w5 hs => ?_); clear HS k1 k2 k3; have HS := Aside0.mk hs; clear hs; obtain ⟨k1, k2, k3, -, -⟩ := facts5 (sep_l1 HS.out)) | fail)
        all_goals
          go_wp2
          rw [← HONE.out] at HS
          go_roundg (l.length - (i + 1))
          case measure => have := HI.out; omega
          case rel =>
            refine ⟨i + 1, HI.out.1, Nat.le_refl _, congrArg (Value.int .i64) (by have := HI.out; have := HL.out; unfold wrap64; omega), ⟨?_⟩⟩
            rw [List.take_add_one, HY.out, Option.toList_some, List.map_append]
            exact sep_drop (sep_l1 HS.out)
      · skip
        have hw : wordB y.st = (⟨#[108, 101, 102, 116]⟩ : ByteArray) := by rw [hst]; rfl
        have hone : one y = ((((dig y.id ++ (⟨#[58]⟩ : ByteArray)) ++ (⟨#[108, 101, 102, 116]⟩ : ByteArray)) ++ (⟨#[64]⟩ : ByteArray)) ++ dig y.inc) := by unfold one; rw [hw]
        have HW := Aside0.mk hw
        have HONE := Aside0.mk hone
        clear hw hone hst
        go_region_held3 (fun w' => w'.cell? ⟨g5, 0, none⟩ = some (.int .i64 y.id) ∧ w'.cell? ⟨g5, 1, none⟩ = some (.int .i64 y.st) ∧ w'.cell? ⟨g5, 2, none⟩ = some (.int .u32 y.inc)) (first | exact ⟨k1, k2, k3⟩ | exact keep3 (sep_l1 HS.out) | exact keep3 (sep_l1 (sep_skip HS.out _))) (first | (go_at_call 23; (with_reducible refine Calls.mono (itoa_walk y.id _ HFY.out.1 HFY.out.2.1) ?_); rintro e w1 ⟨rfl, hb_⟩; have n_ := sep_below HS.out hb_; clear hb_; have n0_ := Aside0.mk n_; clear HS n_; have HS := n0_; clear n0_; clear k1 k2 k3; obtain ⟨k1, k2, k3, -, -⟩ := facts5 (sep_l1 HS.out)) | (go_at_call 24; (with_reducible refine Calls.mono (word_walk y.st _ HFY.out.2.2.1 HFY.out.2.2.2.1) ?_); rintro e w1 ⟨rfl, hb_⟩; rw [HW.out]; have n_ := sep_below HS.out hb_; clear hb_; have n0_ := Aside0.mk n_; clear HS n_; have HS := n0_; clear n0_; clear k1 k2 k3; obtain ⟨k1, k2, k3, -, -⟩ := facts5 (sep_l1 HS.out)) | (go_at_call 25; (with_reducible refine Calls.mono (formatUintW y.inc _ HFY.out.2.2.2.2.1 HFY.out.2.2.2.2.2) ?_); rintro e w1 ⟨rfl, hb_⟩; have n_ := sep_below HS.out hb_; clear hb_; have n0_ := Aside0.mk n_; clear HS n_; have HS := n0_; clear n0_; clear k1 k2 k3; obtain ⟨k1, k2, k3, -, -⟩ := facts5 (sep_l1 HS.out)) | (refine step_append (w0 := w) (ok0 := fun _ => False) Kd.string (by rfl) (.tmp 12) (.tmp 27) 57 9 (.string ⟨#[]⟩) 16 rfl Tryd.underlying57 info9 rfl (by decide) (by decide) _ ((l.take i).map one) (((((dig y.id ++ (⟨#[58]⟩ : ByteArray)) ++ (⟨#[108, 101, 102, 116]⟩ : ByteArray)) ++ (⟨#[64]⟩ : ByteArray)) ++ dig y.inc)) [.string (((((dig y.id ++ (⟨#[58]⟩ : ByteArray)) ++ (⟨#[108, 101, 102, 116]⟩ : ByteArray)) ++ (⟨#[64]⟩ : ByteArray)) ++ dig y.inc))] (by rfl) (by rfl) rfl HS.out (by have := HI.out; have := HL.out; rw [List.length_map, List.length_take]; omega) (fun v1 w5 hs => ?_); clear HS k1 k2 k3; have HS := Aside0.mk hs; clear hs; obtain ⟨k1, k2, k3, -, -⟩ := facts5 (sep_l1 HS.out)) | fail)
        all_goals
          go_wp2
          rw [← HONE.out] at HS
          go_roundg (l.length - (i + 1))
          case measure => have := HI.out; omega
          case rel =>
            refine ⟨i + 1, HI.out.1, Nat.le_refl _, congrArg (Value.int .i64) (by have := HI.out; have := HL.out; unfold wrap64; omega), ⟨?_⟩⟩
            rw [List.take_add_one, HY.out, Option.toList_some, List.map_append]
            exact sep_drop (sep_l1 HS.out)
    · obtain rfl : i = l.length := by omega
      have c2b : decide ((l.length : Int) < (l.length : Int)) = false := decide_eq_false (by omega)
      rw [List.take_length, HXS.out] at HS
      obtain ⟨A', c', rfl, -, -⟩ := sep_row HS.out
      clear hi hgi hlt
      go_wp2_with (go_at_call 26; obtain ⟨ok_, hp_, hk_⟩ := sep_use1 HS.out; (with_reducible refine Calls.mono (join_walk A' c' xs _ ok_ HJ2.out HJ.out hp_) ?_); rintro e w1 ⟨rfl, hb_⟩; have n_ := sep_below HS.out hb_; clear hb_ hp_ hk_; have n0_ := Aside0.mk n_; clear HS n_; have HS := n0_; clear n0_)
      go_ret
      exact ⟨rfl, sep_below_of HS.out⟩
#print axioms text_walk
end Go.Proofs.YthncipgafdfnfaaDoor.JW
