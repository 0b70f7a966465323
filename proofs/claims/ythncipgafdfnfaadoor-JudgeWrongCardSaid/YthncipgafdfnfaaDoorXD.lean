/- A slice of things (a record, whether it is as it is), opened: what the rows of the laws over things need; thing. No condition but those that each theorem names. -/
import Derived.Test.YthncipgafdfnfaaDoorJX
import Derived.Deep.Slices
import Derived.ChangeArms
namespace Go.Proofs.YthncipgafdfnfaaDoor.JW
set_option linter.unusedVariables false
open Go Go.RowKit Go.Proofs.YthncipgafdfnfaaDoorS Go.Proofs.YthncipgafdfnfaaDoorS.Asn Go.Proofs.YthncipgafdfnfaaDoor.PA Go.Proofs.YthncipgafdfnfaaDoorW.PrintWords Go.Proofs.YthncipgafdfnfaaDoorW.PrintLast Go.Proofs.YthncipgafdfnfaaDoorW.PrintMore Go.Deep Go.ChangeShapes Go.WideShapes

instance : Inhabited Th := ⟨⟨Rec.zero, false⟩⟩
/-- A thing in memory: six cells. -/
abbrev thK : Kd Th := Kd.iso (Kd.pair recK Kd.bool) (fun d : Th => (d.r, d.own))
def Th.cells (d : Th) : List Value := [.int .i64 d.r.id, .int .i64 d.r.st, .int .u32 d.r.inc, .int .u32 d.r.ip, .int .u16 d.r.po, .bool d.own]
theorem thK_mk (w : World) (d : Th) : thK.K w d d.cells := ⟨d.r.cells, _, rfl, recK_mk w d.r, rfl⟩
theorem thK_open {w : World} {d : Th} {cs : List Value} (h : thK.K w d cs) : cs = d.cells := by
  obtain ⟨_, _, rfl, hk, rfl⟩ := h
  rw [recK_open hk]
  rfl
section
variable {H : Type} {enc : TypeId × Value → H} {P : Program} {W : World} {base fuel n : Nat} {spare : Nat → Bool} {held : Bool} {cs : List Value} {x : DataW H × List MemPlace}
theorem fld {fs : Array Field} {xs : List (DataW H × List MemPlace)} (hf : ∀ (i : Nat) (f : Field), fs[i]? = some f → DataW.trod enc P W base spare held n f.type ((cs.drop f.offset).take (P.cellsOf f.type)) = xs[i]?) (i : Nat) (f : Field) (hi : fs[i]? = some f) {t o c : Nat} {ys : List Value} {y : DataW H × List MemPlace} (ht : f.type = t) (ho : f.offset = o) (hc : P.cellsOf t = c) (hy : (cs.drop o).take c = ys) (hx : xs[i]? = some y) :
    DataW.trod enc P W base spare held n t ys = some y := by
  subst ht ho hc hy
  rw [hf i f hi, hx]
set_option maxRecDepth 100000 in
theorem open_addr (h : DataW.trod enc Tryd.prog W base spare held fuel 34 cs = some x) : ∃ i p : Int, cs = [.int .u32 i, .int .u16 p] ∧ u32Ok i := by
  obtain ⟨xs, k, hk, hxy, hl, hxl, hf⟩ := DataW.trod_struct Tryd.underlying34 h
  have hl2 : cs.length = 2 := by rw [hl]; kernel_rfl
  match xs, hxl, cs, hl2 with
  | [y0, y1], _, [v0, v1], _ =>
    obtain ⟨i, h0, _, w0⟩ := DataW.trod_int Tryd.underlying31 (fld hf 0 _ rfl rfl rfl (by kernel_rfl : Tryd.prog.cellsOf 31 = 1) rfl rfl)
    obtain ⟨p, h1, _⟩ := DataW.trod_int Tryd.underlying32 (fld hf 1 _ rfl rfl rfl (by kernel_rfl : Tryd.prog.cellsOf 27 = 1) rfl rfl)
    obtain rfl : v0 = .int .u32 i := by simpa using h0
    obtain rfl : v1 = .int .u16 p := by simpa using h1
    simp [Lit.wf, IntKind.min, IntKind.max, IntKind.signed, IntKind.bits] at w0
    exact ⟨i, p, rfl, by show 0 ≤ i; omega, by show i < _; omega⟩
set_option maxRecDepth 100000 in
theorem open_rec (h : DataW.trod enc Tryd.prog W base spare held fuel 36 cs = some x) : ∃ y : Rec, cs = y.cells ∧ recOk y := by
  obtain ⟨xs, k, hk, hxy, hl, hxl, hf⟩ := DataW.trod_struct Tryd.underlying36 h
  have hl2 : cs.length = 5 := by rw [hl]; kernel_rfl
  match xs, hxl, cs, hl2 with
  | [y0, y1, y2, y3], _, [v0, v1, v2, v3, v4], _ =>
    obtain ⟨a, h0, _⟩ := DataW.trod_int Tryd.underlying3 (fld hf 0 _ rfl rfl rfl (by kernel_rfl : Tryd.prog.cellsOf 3 = 1) rfl rfl)
    obtain ⟨b, h1, _⟩ := DataW.trod_int Tryd.underlying3 (fld hf 1 _ rfl rfl rfl (by kernel_rfl : Tryd.prog.cellsOf 3 = 1) rfl rfl)
    obtain ⟨c, h2, _, w2⟩ := DataW.trod_int Tryd.underlying31 (fld hf 2 _ rfl rfl rfl (by kernel_rfl : Tryd.prog.cellsOf 31 = 1) rfl rfl)
    obtain ⟨i, p, h3, hi⟩ := open_addr (fld hf 3 _ rfl rfl rfl (by kernel_rfl : Tryd.prog.cellsOf 34 = 2) rfl rfl)
    simp at h0 h1 h2 h3
    obtain ⟨rfl, rfl⟩ := h3
    subst h0
    subst h1
    subst h2
    simp [Lit.wf, IntKind.min, IntKind.max, IntKind.signed, IntKind.bits] at w2
    exact ⟨⟨a, b, c, i, p⟩, rfl, ⟨by show 0 ≤ c; omega, by show c < _; omega⟩, hi⟩
set_option maxRecDepth 100000 in
theorem open_thing (h : DataW.trod enc Tryd.prog W base spare held fuel 43 cs = some x) : ∃ d : Th, cs = d.cells ∧ thOk d := by
  obtain ⟨xs, k, hk, hxy, hl, hxl, hf⟩ := DataW.trod_struct Tryd.underlying43 h
  have hl2 : cs.length = 6 := by rw [hl]; kernel_rfl
  match xs, hxl, cs, hl2 with
  | [y0, y1], _, [v0, v1, v2, v3, v4, v5], _ =>
    obtain ⟨y, h0, hy⟩ := open_rec (fld hf 0 _ rfl rfl rfl (by kernel_rfl : Tryd.prog.cellsOf 36 = 5) rfl rfl)
    obtain ⟨b, h1, _⟩ := DataW.trod_bool Tryd.underlying4 (fld hf 1 _ rfl rfl rfl (by kernel_rfl : Tryd.prog.cellsOf 4 = 1) rfl rfl)
    unfold Rec.cells at h0
    simp at h0 h1
    obtain ⟨rfl, rfl, rfl, rfl, rfl⟩ := h0
    subst h1
    exact ⟨⟨y, b⟩, rfl, hy⟩
set_option maxRecDepth 100000 in
theorem open_things {a : Option Addr} {len cap : Nat} {d : DataW H} {ps : List MemPlace}
    (h : DataW.Trod enc Tryd.prog W base spare held 22 (.slice a len cap) d ps) :
    ∃ l : List Th, len = l.length ∧ thK.C W a l.length l ∧ l.length ≤ cap ∧ ∀ d ∈ l, thOk d := by
  obtain ⟨fuel, hfu⟩ := h
  have ce : Tryd.prog.cellsOf 43 = 6 := by kernel_rfl
  rcases open_slice Tryd.underlying22 hfu with ⟨hcs, hx⟩ | ⟨ad, l, c, m, n, D, Pl, hcs, hb, hl, hm, hmm, hx, hc⟩
  · simp [Value.cells] at hcs
    obtain ⟨rfl, rfl, rfl⟩ := hcs
    exact ⟨[], rfl, ⟨rfl, by simp, fun hn => absurd hn (by simp)⟩, by simp, by simp⟩
  · simp [Value.cells] at hcs
    obtain ⟨rfl, rfl, rfl⟩ := hcs
    have hlm : len ≤ m := by rw [hmm]; split <;> omega
    have each : ∀ i, i < len → ∃ q : Th, (∃ cs : List Value, cs.length = 6 ∧ thK.K W q cs ∧ ∀ j u, cs[j]? = some u → W.cell? (ad.add (i * 6 + j)) = some u) ∧ thOk q := by
      intro i hi
      obtain ⟨cs', h1, h2⟩ := hc i (by omega)
      rw [ce] at h1
      obtain ⟨_, hlen, hcell⟩ := World.cells?_some h1
      obtain ⟨q, rfl, hq⟩ := open_thing h2
      refine ⟨q, ⟨q.cells, rfl, thK_mk _ _, fun j u hu => ?_⟩, hq⟩
      have hj : j < 6 := (List.getElem?_eq_some_iff.1 hu).1
      have := hcell j hj
      rw [Deep.add_add] at this
      exact this.trans hu
    obtain ⟨q, hq⟩ := choose_lt each
    have hlen : ((List.range len).map q).length = len := by simp
    refine ⟨(List.range len).map q, hlen.symm, ⟨rfl, ?_, fun hn => ⟨ad, rfl, fun j p hjp => ?_⟩⟩, ?_, ?_⟩
    · rw [hlen]
      unfold maxLen at hm
      omega
    · rw [List.getElem?_map] at hjp
      by_cases hjl : j < len
      · rw [List.getElem?_range hjl] at hjp
        obtain rfl : q j = p := by simpa using hjp
        exact (hq j hjl).1
      · rw [List.getElem?_eq_none (by simp; omega)] at hjp
        cases hjp
    · rw [hlen]; exact hl
    · intro d hd
      obtain ⟨j, hj, rfl⟩ := List.mem_map.1 hd
      exact (hq j (List.mem_range.1 hj)).2
end
/-- A thing read: its six cells. -/
theorem th_at {w : World} {A : Option Addr} {ds : List Th} (h : thK.C w A ds.length ds) (i : Nat) (d : Th) (hd : ds[i]? = some d) :
    ∃ ad : Addr, A = some ad ∧ w.cell? (ad.add (i * 6)) = some (.int .i64 d.r.id) ∧ (∀ j u, 0 < j → d.cells[j]? = some u → w.cell? ⟨(ad.add (i * 6)).block, (ad.add (i * 6)).off + j, none⟩ = some u) := by
  obtain ⟨h0, h1, h2⟩ := h
  have hi : i < ds.length := (List.getElem?_eq_some_iff.1 hd).1
  obtain ⟨ad, rfl, hc⟩ := h2 (by omega)
  obtain ⟨c, hl, hk, hcell⟩ := hc i d hd
  rw [thK_open hk] at hcell
  exact ⟨ad, rfl, hcell 0 _ rfl, fun j u hj hu => by rw [add_f _ _ _ (by omega)]; exact hcell j u hu⟩
theorem facts6 {w0 w : World} {ok0 : Nat → Prop} {F : Asn} {g : Nat} {t : TypeId} {a b c d e f : Value} (h : Sep w0 ok0 (pt g #[a, b, c, d, e, f] t ⋆ F) w) :
    w.cell? ⟨g, 0, none⟩ = some a ∧ w.cell? ⟨g, 1, none⟩ = some b ∧ w.cell? ⟨g, 2, none⟩ = some c ∧ w.cell? ⟨g, 3, none⟩ = some d ∧ w.cell? ⟨g, 4, none⟩ = some e ∧ w.cell? ⟨g, 5, none⟩ = some f :=
  ⟨sep_cell h 0, sep_cell h 1, sep_cell h 2, sep_cell h 3, sep_cell h 4, sep_cell h 5⟩
/-- A thing read, later on. -/
theorem th_now {w wr : World} {A : Option Addr} {ds : List Th} (h : thK.C w A ds.length ds) (hb : Below w.heap.size w wr) (i : Nat) (d : Th) (hd : ds[i]? = some d) :
    ∃ ad : Addr, A = some ad ∧ wr.cell? (ad.add (i * 6)) = some (.int .i64 d.r.id) ∧ wr.cell? ⟨(ad.add (i * 6)).block, (ad.add (i * 6)).off + 1, none⟩ = some (.int .i64 d.r.st) ∧ wr.cell? ⟨(ad.add (i * 6)).block, (ad.add (i * 6)).off + 2, none⟩ = some (.int .u32 d.r.inc) ∧ wr.cell? ⟨(ad.add (i * 6)).block, (ad.add (i * 6)).off + 3, none⟩ = some (.int .u32 d.r.ip) ∧ wr.cell? ⟨(ad.add (i * 6)).block, (ad.add (i * 6)).off + 4, none⟩ = some (.int .u16 d.r.po) ∧ wr.cell? ⟨(ad.add (i * 6)).block, (ad.add (i * 6)).off + 5, none⟩ = some (.bool d.own) := by
  obtain ⟨ad, rfl, h0, h⟩ := th_at (Kd.C_below h hb) i d hd
  exact ⟨ad, rfl, h0, h 1 _ (by decide) rfl, h 2 _ (by decide) rfl, h 3 _ (by decide) rfl, h 4 _ (by decide) rfl, h 5 _ (by decide) rfl⟩
def own1 (t : Th) : Rec := thE ⟨t.r, true⟩
theorem thing_walk (t : Th) (w : World) (h : thOk t) : Calls Tryd.prog 13 #[.agg #[.int .i64 t.r.id, .int .i64 t.r.st, .int .u32 t.r.inc, .int .u32 t.r.ip, .int .u16 t.r.po, .bool t.own]] w fun e w' => e = .returned (.agg #[.int .i64 (thE t).id, .int .i64 (thE t).st, .int .u32 (thE t).inc, .int .u32 (thE t).ip, .int .u16 (thE t).po]) ∧ Below w.heap.size w w' :=
  scuttlebuttlaw22_Thing_thing.calls t.r.id t.r.st t.r.inc t.r.ip t.r.po t.own (thE t).id (thE t).st (thE t).inc (thE t).ip (thE t).po w (thing_f t h)
theorem own_walk (r : Rec) (w : World) (h : recOk r) : Calls Tryd.prog 13 #[.agg #[.int .i64 r.id, .int .i64 r.st, .int .u32 r.inc, .int .u32 r.ip, .int .u16 r.po, .bool true]] w fun e w' => e = .returned (.agg #[.int .i64 (thE ⟨r, true⟩).id, .int .i64 (thE ⟨r, true⟩).st, .int .u32 (thE ⟨r, true⟩).inc, .int .u32 (thE ⟨r, true⟩).ip, .int .u16 (thE ⟨r, true⟩).po]) ∧ Below w.heap.size w w' := thing_walk ⟨r, true⟩ w h
/-! ## things -/
/-- The records that at most twelve things are. -/
def thingsE (l : List Th) : List Rec := (l.take 12).map thE
theorem thingsE_len (l : List Th) : (thingsE l).length ≤ 12 := by unfold thingsE; rw [List.length_map, List.length_take]; omega
set_option maxHeartbeats 1000000 in
theorem things_walk (A : Option Addr) (c : Nat) (l : List Th) (w : World) (hr : thK.C w A l.length l) (hok : ∀ d ∈ l, thOk d) :
    Calls Tryd.prog 10 #[.slice A l.length c] w fun e w' => ∃ v, e = .returned v ∧ Sep w (fun _ => False) (row recK 36 v (thingsE l) ⋆ emp) w' := by
  have HS := Aside0.mk (sep_row_nil (d := recK) (e := 36) (sep_start w))
  have HR := Aside0.mk hr
  have HOK := Aside0.mk hok
  clear hr hok
  go_enter Tryd.func10, Tryd.ntmps10
  go_upto_region 3 with (fail)
  go_loopg [3, 4] l.length (fun gg v3 v4 wr => ∃ i : Nat, i ≤ l.length ∧ i ≤ 12 ∧ l.length - i ≤ gg ∧ v4 = .int .i64 (i : Int) ∧ Aside0 (Sep w (fun _ => False) (row recK 36 v3 ((l.take i).map thE) ⋆ emp) wr))
  case atStart => exact ⟨0, Nat.zero_le _, Nat.zero_le _, by omega, rfl, HS⟩
  case round =>
    clear HS
    obtain ⟨i, hi, hi12, hgi, rfl, HS⟩ := hrel
    by_cases hlt : i < l.length
    · have c1b : decide ((i : Int) < (l.length : Int)) = true := decide_eq_true (Int.ofNat_lt.2 hlt); have c1n : decide (i < l.length) = true := decide_eq_true hlt; have c1i : ((i : Int) < (l.length : Int)) = True := eq_true (Int.ofNat_lt.2 hlt); have c1q : (i < l.length) = True := eq_true hlt; have p0_ := eq_true (Int.natCast_nonneg i)
      by_cases h12 : i < 12
      · have d1 : decide ((i : Int) < 12) = true := decide_eq_true (by omega)
        have d2 : ((i : Int) < 12) = True := eq_true (by omega)
        have d3 := eq_true h12
        have HI := Aside0.mk (And.intro hlt (And.intro h12 hgi))
        obtain ⟨y, hy⟩ : ∃ y, l[i]? = some y := ⟨_, List.getElem?_eq_getElem hlt⟩
        have HTO := Aside0.mk (HOK.out y (List.mem_of_getElem? hy))
        obtain ⟨ad, rfl, k0, k1, k2, k3, k4, k5⟩ := th_now HR.out (sep_below_of HS.out) i y hy
        have HSU : Aside0 ((l.take (i + 1)).map thE = (l.take i).map thE ++ [thE y]) := ⟨by rw [List.take_add_one, hy, Option.toList_some, List.map_append]; rfl⟩
        clear hi hi12 hgi hlt h12 hy
        go_wp2_with (first | (go_at_call 13; (with_reducible refine Calls.mono (thing_walk y _ HTO.out) ?_); rintro e w1 ⟨rfl, hb_⟩; have n_ := sep_below HS.out hb_; clear hb_; have n0_ := Aside0.mk n_; clear HS n_; have HS := n0_; clear n0_; skip) | ((with_reducible refine gate_builtin (b := .append) (xs := #[.tmp 15, .tmp 21]) rfl ?_); at_builtin; refine wp_append recK rfl (.tmp 15) (.tmp 21) 24 36 z36 32 rfl Tryd.underlying24 info36 rfl (by decide) (by decide) _ ((l.take i).map thE) (thE y) (thE y).cells (by rfl) (by rfl) (recK_M _ _ _ _) HS.out (by have := HI.out; rw [List.length_map, List.length_take]; omega) ?_; intro v1_ w4 n_; rw [← HSU.out] at n_; have n0_ := Aside0.mk n_; clear HS n_; have HS := n0_; clear n0_))
        go_roundg (l.length - (i + 1))
        case measure => have := HI.out; omega
        case rel => exact ⟨i + 1, HI.out.1, HI.out.2.1, Nat.le_refl _, congrArg (Value.int .i64) (by have := HI.out; unfold wrap64; omega), HS⟩
      · have d1 : decide ((i : Int) < 12) = false := decide_eq_false (by omega)
        have d2 : ((i : Int) < 12) = False := eq_false (by omega)
        have d3 := eq_false h12
        have HL12 : Aside0 ((l.take i).map thE = thingsE l) := ⟨by rw [show i = 12 by omega]; rfl⟩
        clear hi hi12 hgi hlt h12
        have n_ := HS.out
        rw [HL12.out] at n_
        have n0_ := Aside0.mk n_; clear HS n_; have HS := n0_; clear n0_
        obtain ⟨A_, c_, rfl, -, -⟩ := sep_row HS.out
        go_wp2
        go_ret
        exact ⟨_, rfl, HS.out⟩
    · obtain rfl : i = l.length := by omega
      have c2b : decide ((l.length : Int) < (l.length : Int)) = false := decide_eq_false (by omega)
      have HL12 : Aside0 ((l.take l.length).map thE = thingsE l) := ⟨by unfold thingsE; rw [List.take_length, List.take_of_length_le hi12]⟩
      clear hi hi12 hgi hlt
      have n_ := HS.out
      rw [HL12.out] at n_
      have n0_ := Aside0.mk n_; clear HS n_; have HS := n0_; clear n0_
      obtain ⟨A_, c_, rfl, -, -⟩ := sep_row HS.out
      go_wp2
      go_ret
      exact ⟨_, rfl, HS.out⟩
end Go.Proofs.YthncipgafdfnfaaDoor.JW
