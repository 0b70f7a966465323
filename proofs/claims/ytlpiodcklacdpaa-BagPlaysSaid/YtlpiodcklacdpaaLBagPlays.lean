/- BagPlays, walked. Conditions: those that the theorem names. -/
import Derived.Test.YtlpiodcklacdpaaPP
import Derived.Deep.RegionHeld3
namespace Go.Proofs.Ytlpiodcklacdpaa.BG
set_option linter.unusedVariables false
set_option linter.unusedSimpArgs false
open Go Go.RowKit Go.Proofs.YtlpiodcklacdpaaS Go.Proofs.YtlpiodcklacdpaaS.Asn Go.Proofs.Ytlpiodcklacdpaa.PA Go.Proofs.YtlpiodcklacdpaaW.PrintWords Go.Proofs.YtlpiodcklacdpaaW.PrintLast Go.Proofs.YtlpiodcklacdpaaW.PrintMore Go.Proofs.Ytlpiodcklacdpaa.XD
theorem ref_callE (x : It) (w : World) : Calls Try.prog 19 #[.agg #[.int .u32 x.fi, .int .u16 x.fp, .int .u32 x.ti, .int .u16 x.tp, .string x.by_, .int .u64 x.t]] w fun e w' => e = .returned (.agg #[.int .u32 x.fi, .int .u16 x.fp, .int .u32 x.ti, .int .u16 x.tp, .string x.by_, .int .u64 x.t]) ∧ Below w.heap.size w w' := ref_call x w
theorem item_callE (kk : Int) (x : It) (pk nn : Int) (nr : Bool) (y : It) (w : World) (hy : (Dd.mk kk x pk nn nr).item = y) (hs : x.by_.size ≤ 9223372036854775807) (ht : 0 ≤ x.t) : Calls Try.prog 25 #[.agg #[.int .u8 kk, .int .u32 x.fi, .int .u16 x.fp, .int .u32 x.ti, .int .u16 x.tp, .string x.by_, .int .u64 x.t, .int .i64 pk, .int .u64 nn, .bool nr]] w fun e w' => e = .returned (.agg #[.int .u32 y.fi, .int .u16 y.fp, .int .u32 y.ti, .int .u16 y.tp, .string y.by_, .int .u64 y.t]) ∧ Below w.heap.size w w' := by
  subst hy
  exact item_call ⟨kk, x, pk, nn, nr⟩ w hs ht
set_option maxHeartbeats 8000000 in
set_option maxRecDepth 100000 in
theorem plays_walk (a0 : Int) (b1 : Bool) (A1 : Option Addr) (c1 : Nat) (l : List Dd) (w : World) (ha : -9223372036854775808 ≤ a0 ∧ a0 ≤ 9223372036854775807) (hr1 : deedK.C w A1 l.length l) (hc1 : l.length ≤ c1) (hok : ∀ d ∈ l, ddOk d) :
    Calls Try.prog 6 #[.int .i64 a0, .bool b1, .slice A1 l.length c1] w fun e w' => e = .returned (.bool true) ∧ Below w.heap.size w w' := by
  have HR1 := Aside0.mk hr1
  have HC1 := Aside0.mk hc1
  have HOK := Aside0.mk hok
  have HLN := Aside0.mk hr1.2.1
  have HA := Aside0.mk ha
  have HS := Aside0.mk (sep_start w)
  clear hr1 hc1 hok ha
  go_enter Try.func6, Try.ntmps6
  go_upto_region 4 with (go_at_call 9; (with_reducible refine Calls.mono (examples_walk _) ?_); rintro e w1 ⟨rfl, hb_⟩; have n_ := sep_below HS.out hb_; clear hb_; have n0_ := Aside0.mk n_; clear HS n_; have HS := n0_; clear n0_; skip)
  rename_i K6 hK6 K5 hK5
  have key6 : ∀ (r : Int) (s1 s3 s4 s5 s8 s9 s10 s11 s12 s13 s14 s15 s16 s17 s18 s19 s20 s21 s22 s23 s24 s25 s26 s27 s28 s29 s30 s31 s32 s33 s34 s35 s36 s37 s38 s39 s40 s41 s42 s43 s44 s45 s46 s47 s48 s49 s50 s51 s52 s53 s54 s55 s56 s57 s58 s59 s60 s61 s62 s63 s64 s65 s66 s67 s68 s69 s70 s71 s72 s73 s74 s75 s76 s77 s78 s79 s80 s81 s82 s83 s84 s85 s86 s87 s88 s89 s90 s91 s92 s93 s94 s95 s96 s97 s98 s99 s100 s101 s102 s103 s104 s105 s106 s107 s108 s109 s110 s111 s112 s113 s114 s115 s116 s117 s118 s119 s120 s121 s122 s123 s124 s125 s126 s127 s128 s129 s130 s131 s132 s133 s134 s135 s136 s137 s138 s139 s140 s141 s142 s143 s144 s145 s146 s147 s148 s149 s150 s151 s152 s153 s154 s155 s156 s157 s158 s159 s160 s161 s162 s163 s164 s165 s166 s167 s168 s169 s170 s171 s172 s173 s174 s175 s176 s177 s178 s179 s180 s181 s182 s183 s184 s185 s186 s187 s188 s189 s190 s191 s192 s193 s194 s195 s196 s197 s198 s199 s200 s201 s202 s203 s204 s205 s206 s207 s208 s209 s210 s211 s212 s213 s214 s215 s216 s217 s218 s219 s220 s221 s222 s223 : Value) (wx : World), Sep w (fun _ => False) emp wx → K6 ⟨#[.int .i64 r, s1, .slice A1 l.length c1, s3, s4, s5, .bool false, .bool true, s8, s9, s10, s11, s12, s13, s14, s15, s16, s17, s18, s19, s20, s21, s22, s23, s24, s25, s26, s27, s28, s29, s30, s31, s32, s33, s34, s35, s36, s37, s38, s39, s40, s41, s42, s43, s44, s45, s46, s47, s48, s49, s50, s51, s52, s53, s54, s55, s56, s57, s58, s59, s60, s61, s62, s63, s64, s65, s66, s67, s68, s69, s70, s71, s72, s73, s74, s75, s76, s77, s78, s79, s80, s81, s82, s83, s84, s85, s86, s87, s88, s89, s90, s91, s92, s93, s94, s95, s96, s97, s98, s99, s100, s101, s102, s103, s104, s105, s106, s107, s108, s109, s110, s111, s112, s113, s114, s115, s116, s117, s118, s119, s120, s121, s122, s123, s124, s125, s126, s127, s128, s129, s130, s131, s132, s133, s134, s135, s136, s137, s138, s139, s140, s141, s142, s143, s144, s145, s146, s147, s148, s149, s150, s151, s152, s153, s154, s155, s156, s157, s158, s159, s160, s161, s162, s163, s164, s165, s166, s167, s168, s169, s170, s171, s172, s173, s174, s175, s176, s177, s178, s179, s180, s181, s182, s183, s184, s185, s186, s187, s188, s189, s190, s191, s192, s193, s194, s195, s196, s197, s198, s199, s200, s201, s202, s203, s204, s205, s206, s207, s208, s209, s210, s211, s212, s213, s214, s215, s216, s217, s218, s219, s220, s221, s222, s223], []⟩ wx := by
    intro r s1 s3 s4 s5 s8 s9 s10 s11 s12 s13 s14 s15 s16 s17 s18 s19 s20 s21 s22 s23 s24 s25 s26 s27 s28 s29 s30 s31 s32 s33 s34 s35 s36 s37 s38 s39 s40 s41 s42 s43 s44 s45 s46 s47 s48 s49 s50 s51 s52 s53 s54 s55 s56 s57 s58 s59 s60 s61 s62 s63 s64 s65 s66 s67 s68 s69 s70 s71 s72 s73 s74 s75 s76 s77 s78 s79 s80 s81 s82 s83 s84 s85 s86 s87 s88 s89 s90 s91 s92 s93 s94 s95 s96 s97 s98 s99 s100 s101 s102 s103 s104 s105 s106 s107 s108 s109 s110 s111 s112 s113 s114 s115 s116 s117 s118 s119 s120 s121 s122 s123 s124 s125 s126 s127 s128 s129 s130 s131 s132 s133 s134 s135 s136 s137 s138 s139 s140 s141 s142 s143 s144 s145 s146 s147 s148 s149 s150 s151 s152 s153 s154 s155 s156 s157 s158 s159 s160 s161 s162 s163 s164 s165 s166 s167 s168 s169 s170 s171 s172 s173 s174 s175 s176 s177 s178 s179 s180 s181 s182 s183 s184 s185 s186 s187 s188 s189 s190 s191 s192 s193 s194 s195 s196 s197 s198 s199 s200 s201 s202 s203 s204 s205 s206 s207 s208 s209 s210 s211 s212 s213 s214 s215 s216 s217 s218 s219 s220 s221 s222 s223 wx hs
    refine hK6 _ _ ?_
    clear HS hK5
    have HS := Aside0.mk hs
    clear hs
    by_cases hr : 1 ≤ r ∧ r ≤ 256
    · have HRM := Aside0.mk hr
      clear hr
      go_upto_region 7 with (go_at_call 10; (with_reducible refine Calls.mono (bag_New r _ HRM.out.1 HRM.out.2) ?_); rintro e w2 ⟨p, rfl, hm_⟩; have n_ := sep_made_of HS.out (sep_only hm_); clear hm_; have n0_ := Aside0.mk n_; clear HS n_; have HS := n0_; clear n0_)
      go_upto_region 13 with (go_at_call 17; (with_reducible refine Calls.mono (rbag_New r _ HRM.out.1 HRM.out.2) ?_); rintro e w2 ⟨q, rfl, hm_⟩; have n_ := sep_l1 (sep_made_of HS.out (sep_only hm_)); clear hm_; have n0_ := Aside0.mk n_; clear HS n_; have HS := n0_; clear n0_)
      go_loopg [11] 80 (fun gg v11 wr => ∃ (i : Nat) (L : List It), i ≤ l.length ∧ i ≤ 80 ∧ 80 - i ≤ gg ∧ v11 = .int .i64 (i : Int) ∧ Aside0 (St r L) ∧ Aside0 (Sep w (fun _ => False) (bagA p L r ⋆ refA q L r ⋆ emp) wr))
      case atStart => exact ⟨0, [], Nat.zero_le _, by omega, by omega, rfl, ⟨by have := HRM.out; simp; omega, fun x hx => by cases hx⟩, HS⟩
      case round =>
        clear HS
        obtain ⟨i, L, hi, hi80, hgi, rfl, HT, HS⟩ := hrel
        by_cases hlt : i < l.length ∧ i < 80
        · obtain ⟨hlt, h80⟩ := hlt
          have c1b : decide ((i : Int) < (l.length : Int)) = true := decide_eq_true (Int.ofNat_lt.2 hlt); have c1n : decide (i < l.length) = true := decide_eq_true hlt; have c1q : (i < l.length) = True := eq_true hlt; have p0_ := eq_true (Int.natCast_nonneg i)
          have c2b : decide ((i : Int) < 80) = true := decide_eq_true (by omega)
          have c2n : decide (i < 80) = true := decide_eq_true h80
          have c2q := eq_true h80
          obtain ⟨d, hd⟩ : ∃ d, l[i]? = some d := ⟨_, List.getElem?_eq_getElem hlt⟩
          have HDO := Aside0.mk (HOK.out d (List.mem_of_getElem? hd))
          obtain ⟨ad, hA, e0, eall⟩ := deed_at (Kd.C_below HR1.out (sep_below_of HS.out)) i d hd
          have e1 := eall 1 _ (by decide) rfl
          have e2 := eall 2 _ (by decide) rfl
          have e3 := eall 3 _ (by decide) rfl
          have e4 := eall 4 _ (by decide) rfl
          have e5 := eall 5 _ (by decide) rfl
          have e6 := eall 6 _ (by decide) rfl
          have e7 := eall 7 _ (by decide) rfl
          have e8 := eall 8 _ (by decide) rfl
          have e9 := eall 9 _ (by decide) rfl
          subst hA
          have HI := Aside0.mk (And.intro hlt (And.intro h80 hgi))
          clear eall hd hlt h80 hi hi80 hgi
          obtain ⟨kd, x, pk, nw0, nr⟩ := d
          obtain ⟨kk, rfl⟩ : ∃ kk : Nat, kd = (kk : Int) := ⟨kd.toNat, by have := HDO.out.1; dsimp only at this; omega⟩
          obtain ⟨nn, rfl⟩ : ∃ nn : Nat, nw0 = (nn : Int) := ⟨nw0.toNat, by have := HDO.out.2.2.2.2.1; dsimp only at this; omega⟩
          have HPK : Aside0 (pk ≤ 9223372036854775807) := ⟨HDO.out.2.2.2.1⟩
          dsimp only at e0 e1 e2 e3 e4 e5 e6 e7 e8 e9
          go_upto_region 16 with (fail)
          have n_ := sep_l2 (sep_l2 (sep_alloc HS.out #[.int .u8 (kk : Int), .int .u32 x.fi, .int .u16 x.fp, .int .u32 x.ti, .int .u16 x.tp, .string x.by_, .int .u64 x.t, .int .i64 pk, .int .u64 (nn : Int), .bool nr] 53))
          have n0_ := Aside0.mk n_; clear HS n_; have HS := n0_; clear n0_
          generalize wr.alloc (.cells #[.int .u8 (kk : Int), .int .u32 x.fi, .int .u16 x.fp, .int .u32 x.ti, .int .u16 x.tp, .string x.by_, .int .u64 x.t, .int .i64 pk, .int .u64 (nn : Int), .bool nr] 53) = wa at HS ⊢
          generalize wr.heap.size = g12 at HS ⊢
          clear e0 e1 e2 e3 e4 e5 e6 e7 e8 e9
          obtain ⟨k1, k2, k3, k4, k5, k6, k7, k8, k9, k10⟩ := facts10 (sep_l2 HS.out)
          go_upto_region 17 with (fail)
          rename_i K19 hK19 K18 hK18
          have key19 : ∀ (nw : Int) (x14 x15 x16 x17 x18 x19 x20 x21 x22 x58 x59 x60 x61 x62 x63 x64 x65 x66 x67 x68 x69 x70 x71 x72 x73 x74 x75 x76 x77 x78 x79 x80 x81 x82 x83 x84 x85 x86 x87 x88 x89 x90 x91 x92 x93 x94 x95 x96 x97 x98 x99 x100 x101 x102 x103 x104 x105 x106 x107 x108 x109 x110 x111 x112 x113 x114 x115 x116 x117 x118 x119 x120 x121 x122 x123 x124 x125 x126 x127 x128 x129 x130 x131 x132 x133 x134 x135 x136 x137 x138 x139 x140 x141 x142 x143 x144 x145 x146 x147 x148 x149 x150 x151 x152 x153 x154 x155 x156 x157 x158 x159 x160 x161 x162 x163 x164 x165 x166 x167 x168 x169 x170 x171 x172 x173 x174 x175 x176 x177 x178 x179 x180 x181 x182 x183 x184 x185 x186 x187 x188 x189 x190 x191 : Value) (wx : World), Sep w (fun _ => False) (bagA p L r ⋆ refA q L r ⋆ pt g12 #[.int .u8 (kk : Int), .int .u32 x.fi, .int .u16 x.fp, .int .u32 x.ti, .int .u16 x.tp, .string x.by_, .int .u64 x.t, .int .i64 pk, .int .u64 (nn : Int), .bool nr] 53 ⋆ emp) wx → K19 ⟨#[Value.int IntKind.i64 r, s1, Value.slice (some ad) l.length c1, s3, s4, s5, u6, Value.bool true, Value.pointer (some { block := p, off := 0 }), Value.int IntKind.i64 0, Value.pointer (some { block := q, off := 0 }), Value.int IntKind.i64 ↑i, .pointer (some ⟨g12, 0, none⟩), .int .u64 nw, x14, x15, x16, x17, x18, x19, x20, x21, x22, s23, s24, s25, s26, s27, s28, s29, s30, s31, s32, s33, Value.tuple #[Value.pointer (some { block := p, off := 0 }), Value.int IntKind.i64 0], Value.int IntKind.i64 r, Value.tuple #[Value.pointer (some { block := p, off := 0 }), Value.int IntKind.i64 0], Value.pointer (some { block := p, off := 0 }), Value.int IntKind.i64 0, Value.int IntKind.i64 r, Value.pointer (some { block := q, off := 0 }), Value.pointer (some { block := q, off := 0 }), Value.bool false, s43, s44, s45, s46, s47, s48, s49, s50, s51, Value.pointer (some { block := p, off := 0 }), Value.bool false, Value.bool false, Value.int IntKind.i64 0, Value.bool false, Value.bool false, x58, x59, x60, x61, x62, x63, x64, x65, x66, x67, x68, x69, x70, x71, x72, x73, x74, x75, x76, x77, x78, x79, x80, x81, x82, x83, x84, x85, x86, x87, x88, x89, x90, x91, x92, x93, x94, x95, x96, x97, x98, x99, x100, x101, x102, x103, x104, x105, x106, x107, x108, x109, x110, x111, x112, x113, x114, x115, x116, x117, x118, x119, x120, x121, x122, x123, x124, x125, x126, x127, x128, x129, x130, x131, x132, x133, x134, x135, x136, x137, x138, x139, x140, x141, x142, x143, x144, x145, x146, x147, x148, x149, x150, x151, x152, x153, x154, x155, x156, x157, x158, x159, x160, x161, x162, x163, x164, x165, x166, x167, x168, x169, x170, x171, x172, x173, x174, x175, x176, x177, x178, x179, x180, x181, x182, x183, x184, x185, x186, x187, x188, x189, x190, x191, s192, s193, s194, s195, s196, s197, s198, s199, s200, s201, s202, s203, s204, s205, s206, s207, s208, s209, s210, s211, s212, s213, s214, s215, s216, s217, s218, s219, s220, s221, s222, s223], []⟩ wx := by
            intro nw x14 x15 x16 x17 x18 x19 x20 x21 x22 x58 x59 x60 x61 x62 x63 x64 x65 x66 x67 x68 x69 x70 x71 x72 x73 x74 x75 x76 x77 x78 x79 x80 x81 x82 x83 x84 x85 x86 x87 x88 x89 x90 x91 x92 x93 x94 x95 x96 x97 x98 x99 x100 x101 x102 x103 x104 x105 x106 x107 x108 x109 x110 x111 x112 x113 x114 x115 x116 x117 x118 x119 x120 x121 x122 x123 x124 x125 x126 x127 x128 x129 x130 x131 x132 x133 x134 x135 x136 x137 x138 x139 x140 x141 x142 x143 x144 x145 x146 x147 x148 x149 x150 x151 x152 x153 x154 x155 x156 x157 x158 x159 x160 x161 x162 x163 x164 x165 x166 x167 x168 x169 x170 x171 x172 x173 x174 x175 x176 x177 x178 x179 x180 x181 x182 x183 x184 x185 x186 x187 x188 x189 x190 x191 wx hs
            refine hK19 _ _ ?_
            clear HS hK18 k1 k2 k3 k4 k5 k6 k7 k8 k9 k10
            have HS := Aside0.mk hs
            clear hs
            obtain ⟨k1, k2, k3, k4, k5, k6, k7, k8, k9, k10⟩ := facts10 (sep_l2 HS.out)
            obtain ⟨rr, hrr⟩ : ∃ rr : Nat, kk % 10 = rr := ⟨_, rfl⟩
            have hrr' : ((kk : Int) % 10) = (rr : Int) := by omega
            have HRR : Aside0 (rr < 10) := ⟨by omega⟩
            clear hrr
            go_upto_region 20 with (fail)
            rename_i K36 hK36 K20 hK20
            have key36 : ∀ (L2 : List It) (z12 z15 z16 z17 z18 z19 z20 z21 z22 z58 z59 z60 z61 z62 z63 z64 z65 z66 z67 z68 z69 z70 z71 z72 z73 z74 z75 z76 z77 z78 z79 z80 z81 z82 z83 z84 z85 z86 z87 z88 z89 z90 z91 z92 z93 z94 z95 z96 z97 z98 z99 z100 z101 z102 z103 z104 z105 z106 z107 z108 z109 z110 z111 z112 z113 z114 z115 z116 z117 z118 z119 z120 z121 z122 z123 z124 z125 z126 z127 z128 z129 z130 z131 z132 z133 z134 z135 z136 z137 z138 z139 z140 z141 z142 z143 z144 z145 z146 z147 z148 z149 z150 z151 z152 z153 z154 z155 z156 z157 z158 z159 z160 z161 z162 z163 z164 z165 z166 z167 z168 z169 z170 z171 z172 z173 z174 z175 z176 z177 z178 z179 z180 z181 z182 z183 z184 z185 z186 z187 z188 z189 z190 z191 : Value) (wx : World), St r L2 → Sep w (fun _ => False) (bagA p L2 r ⋆ refA q L2 r ⋆ emp) wx → K36 ⟨#[Value.int IntKind.i64 r, s1, Value.slice (some ad) l.length c1, s3, s4, s5, u6, Value.bool true, Value.pointer (some { block := p, off := 0 }), Value.int IntKind.i64 0, Value.pointer (some { block := q, off := 0 }), Value.int IntKind.i64 ↑i, z12, .int .u64 nw, .bool true, z15, z16, z17, z18, z19, z20, z21, z22, s23, s24, s25, s26, s27, s28, s29, s30, s31, s32, s33, Value.tuple #[Value.pointer (some { block := p, off := 0 }), Value.int IntKind.i64 0], Value.int IntKind.i64 r, Value.tuple #[Value.pointer (some { block := p, off := 0 }), Value.int IntKind.i64 0], Value.pointer (some { block := p, off := 0 }), Value.int IntKind.i64 0, Value.int IntKind.i64 r, Value.pointer (some { block := q, off := 0 }), Value.pointer (some { block := q, off := 0 }), Value.bool false, s43, s44, s45, s46, s47, s48, s49, s50, s51, Value.pointer (some { block := p, off := 0 }), Value.bool false, Value.bool false, Value.int IntKind.i64 0, Value.bool false, Value.bool false, z58, z59, z60, z61, z62, z63, z64, z65, z66, z67, z68, z69, z70, z71, z72, z73, z74, z75, z76, z77, z78, z79, z80, z81, z82, z83, z84, z85, z86, z87, z88, z89, z90, z91, z92, z93, z94, z95, z96, z97, z98, z99, z100, z101, z102, z103, z104, z105, z106, z107, z108, z109, z110, z111, z112, z113, z114, z115, z116, z117, z118, z119, z120, z121, z122, z123, z124, z125, z126, z127, z128, z129, z130, z131, z132, z133, z134, z135, z136, z137, z138, z139, z140, z141, z142, z143, z144, z145, z146, z147, z148, z149, z150, z151, z152, z153, z154, z155, z156, z157, z158, z159, z160, z161, z162, z163, z164, z165, z166, z167, z168, z169, z170, z171, z172, z173, z174, z175, z176, z177, z178, z179, z180, z181, z182, z183, z184, z185, z186, z187, z188, z189, z190, z191, s192, s193, s194, s195, s196, s197, s198, s199, s200, s201, s202, s203, s204, s205, s206, s207, s208, s209, s210, s211, s212, s213, s214, s215, s216, s217, s218, s219, s220, s221, s222, s223], []⟩ wx := by
              intro L2 z12 z15 z16 z17 z18 z19 z20 z21 z22 z58 z59 z60 z61 z62 z63 z64 z65 z66 z67 z68 z69 z70 z71 z72 z73 z74 z75 z76 z77 z78 z79 z80 z81 z82 z83 z84 z85 z86 z87 z88 z89 z90 z91 z92 z93 z94 z95 z96 z97 z98 z99 z100 z101 z102 z103 z104 z105 z106 z107 z108 z109 z110 z111 z112 z113 z114 z115 z116 z117 z118 z119 z120 z121 z122 z123 z124 z125 z126 z127 z128 z129 z130 z131 z132 z133 z134 z135 z136 z137 z138 z139 z140 z141 z142 z143 z144 z145 z146 z147 z148 z149 z150 z151 z152 z153 z154 z155 z156 z157 z158 z159 z160 z161 z162 z163 z164 z165 z166 z167 z168 z169 z170 z171 z172 z173 z174 z175 z176 z177 z178 z179 z180 z181 z182 z183 z184 z185 z186 z187 z188 z189 z190 z191 wx ht2 hs
              refine hK36 _ _ ?_
              clear HS hK20 k1 k2 k3 k4 k5 k6 k7 k8 k9 k10
              have HT2 := Aside0.mk ht2
              have HS := Aside0.mk hs
              clear hs ht2
              go_upto_region 36 with (fail)
              obtain ⟨v, n_⟩ := ref_open (sep_l1 HS.out)
              obtain ⟨A6, c6, rfl, -, -⟩ := sep_row (sep_l1 n_)
              replace n_ := sep_drew n_
              have n0_ := Aside0.mk n_; clear HS n_; have HS := n0_; clear n0_
              obtain ⟨z1, -⟩ := facts2g HS.out
              (first | go_region_held3 (fun w' => w'.cell? ⟨q, 0, none⟩ = some (.slice A6 L2.length c6)) (exact z1) (first | (go_at_call 14; obtain ⟨ok_, hp_, hk_⟩ := sep_use1 (sep_l2 HS.out); have hx_ := bag_Len p L2 r _ ok_ hp_; (with_reducible refine Calls.mono hx_ ?_); rintro e w1 ⟨rfl, hq_⟩; have n_ := sep_l2 (sep_l2 (back1 hk_ hq_)); clear hx_ hp_ hk_ hq_ z1; have n0_ := Aside0.mk n_; clear HS n_; have HS := n0_; clear n0_; obtain ⟨z1, -⟩ := facts2g HS.out) | (go_at_call 12; obtain ⟨ok_, hp_, hk_⟩ := sep_use1 (sep_l2 HS.out); have hx_ := bag_Ready p L2 r (nw) _ ok_ hp_; (with_reducible refine Calls.mono hx_ ?_); rintro e w1 ⟨rfl, hq_⟩; have n_ := sep_l2 (sep_l2 (back1 hk_ hq_)); clear hx_ hp_ hk_ hq_ z1; have n0_ := Aside0.mk n_; clear HS n_; have HS := n0_; clear n0_; obtain ⟨z1, -⟩ := facts2g HS.out) | (go_at_call 27; obtain ⟨ok_, hp_, hk_⟩ := sep_use2 HS.out; have hx_ := rbag_ReadyO q L2 r (nw) _ _ ok_ hp_; (with_reducible refine Calls.mono hx_ ?_); rintro e w1 ⟨rfl, hq_⟩; have n_ := back2 hk_ hq_; clear hx_ hp_ hk_ hq_ z1; have n0_ := Aside0.mk n_; clear HS n_; have HS := n0_; clear n0_; obtain ⟨z1, -⟩ := facts2g HS.out)) | fail)
              go_wp2
              go_roundg (80 - (i + 1))
              case measure => have := HI.out; omega
              case rel => exact ⟨i + 1, L2, HI.out.1, HI.out.2.1, Nat.le_refl _, congrArg (Value.int .i64) (by have := HI.out; (try unfold wrap64); omega), HT2, ⟨sep_l1 (ref_mk HS.out)⟩⟩
            have KEY36 := Aside0.mk key36
            clear hK36 key36
            by_cases h4 : rr = 4
            · subst h4
              obtain ⟨y, fe, L2, hE⟩ : ∃ y fe L2, awayE L (nw) pk = (y, fe, L2) := ⟨_, _, _, rfl⟩
              have HT2 : Aside0 (St r L2) := ⟨by have := St_away HT.out (nw) pk; rw [hE] at this; exact this⟩
              have HE := Aside0.mk hE
              clear hE
              go_upto_region 26 with (go_at_call 13; obtain ⟨ok_, hp_, hk_⟩ := sep_use1 HS.out; have hx_ := bag_Take p L r (nw) pk _ ok_ HPK.out hp_; rw [HE.out] at hx_; dsimp only [It.val] at hx_; (with_reducible refine Calls.mono hx_ ?_); rintro e w1 ⟨rfl, hq_⟩; have n_ := back1 hk_ hq_; clear hx_ hp_ hk_ hq_; have n0_ := Aside0.mk n_; clear HS n_; have HS := n0_; clear n0_; clear k1 k2 k3 k4 k5 k6 k7 k8 k9 k10; obtain ⟨k1, k2, k3, k4, k5, k6, k7, k8, k9, k10⟩ := facts10 (sep_l2 HS.out))
              have n_ := sep_l2 (sep_l2 (sep_alloc HS.out #[.int .u32 y.fi, .int .u16 y.fp, .int .u32 y.ti, .int .u16 y.tp, .string y.by_, .int .u64 y.t] 35))
              have n0_ := Aside0.mk n_; clear HS n_; have HS := n0_; clear n0_
              generalize w1.alloc (.cells #[.int .u32 y.fi, .int .u16 y.fp, .int .u32 y.ti, .int .u16 y.tp, .string y.by_, .int .u64 y.t] 35) = wb at HS ⊢
              generalize w1.heap.size = g15 at HS ⊢
              clear k1 k2 k3 k4 k5 k6 k7 k8 k9 k10; obtain ⟨k1, k2, k3, k4, k5, k6, k7, k8, k9, k10⟩ := facts10 (sep_l3 HS.out)
              go_upto_region 27 with (go_at_call 18; obtain ⟨ok_, hp_, hk_⟩ := sep_use1 (sep_l1 HS.out); have hx_ := rbag_Take q L r (nw) pk _ ok_ HPK.out (by have := HT.out.1; have := HRM.out; omega) hp_; rw [HE.out] at hx_; dsimp only [It.val] at hx_; (with_reducible refine Calls.mono hx_ ?_); rintro e w1 ⟨rfl, hq_⟩; have n_ := sep_l1 (back1 hk_ hq_); clear hx_ hp_ hk_ hq_; have n0_ := Aside0.mk n_; clear HS n_; have HS := n0_; clear n0_; skip)
              clear k1 k2 k3 k4 k5 k6 k7 k8 k9 k10
              have n_ := sep_drew (sep_l2 (sep_l2 (sep_alloc HS.out #[.int .u32 y.fi, .int .u16 y.fp, .int .u32 y.ti, .int .u16 y.tp, .string y.by_, .int .u64 y.t] 56)))
              have n0_ := Aside0.mk n_; clear HS n_; have HS := n0_; clear n0_
              generalize w1.alloc (.cells #[.int .u32 y.fi, .int .u16 y.fp, .int .u32 y.ti, .int .u16 y.tp, .string y.by_, .int .u64 y.t] 56) = wc at HS ⊢
              generalize w1.heap.size = g17 at HS ⊢
              obtain ⟨m1, m2, m3, m4, m5, m6⟩ := facts6 (sep_l3 HS.out)
              obtain ⟨r1, r2, r3, r4, r5, r6⟩ := facts6 (sep_l2 HS.out)
              (first | go_region_held3 (fun w' => w'.cell? ⟨g15, 0, none⟩ = some (.int .u32 y.fi) ∧ w'.cell? ⟨g15, 1, none⟩ = some (.int .u16 y.fp) ∧ w'.cell? ⟨g15, 2, none⟩ = some (.int .u32 y.ti) ∧ w'.cell? ⟨g15, 3, none⟩ = some (.int .u16 y.tp) ∧ w'.cell? ⟨g15, 4, none⟩ = some (.string y.by_) ∧ w'.cell? ⟨g15, 5, none⟩ = some (.int .u64 y.t) ∧ w'.cell? ⟨g17, 0, none⟩ = some (.int .u32 y.fi) ∧ w'.cell? ⟨g17, 1, none⟩ = some (.int .u16 y.fp) ∧ w'.cell? ⟨g17, 2, none⟩ = some (.int .u32 y.ti) ∧ w'.cell? ⟨g17, 3, none⟩ = some (.int .u16 y.tp) ∧ w'.cell? ⟨g17, 4, none⟩ = some (.string y.by_) ∧ w'.cell? ⟨g17, 5, none⟩ = some (.int .u64 y.t)) (exact ⟨m1, m2, m3, m4, m5, m6, r1, r2, r3, r4, r5, r6⟩) (first | (go_at_call 19; (with_reducible refine Calls.mono (ref_callE y _) ?_); rintro e w1 ⟨rfl, hb_⟩; have n_ := sep_below HS.out hb_; clear hb_; have n0_ := Aside0.mk n_; clear HS n_; have HS := n0_; clear n0_; clear m1 m2 m3 m4 m5 m6 r1 r2 r3 r4 r5 r6; obtain ⟨m1, m2, m3, m4, m5, m6⟩ := facts6 (sep_l3 HS.out); obtain ⟨r1, r2, r3, r4, r5, r6⟩ := facts6 (sep_l2 HS.out))) | fail)
              have n_ := sep_drop (sep_l2 (sep_drop (sep_l3 (sep_drop (sep_l4 HS.out)))))
              clear m1 m2 m3 m4 m5 m6 r1 r2 r3 r4 r5 r6
              have n0_ := Aside0.mk n_; clear HS n_; have HS := n0_; clear n0_
              go_wp2
              exact KEY36.out L2 _ _ _ _ _ _ _ _ _ _ _ _ _ _ _ _ _ _ _ _ _ _ _ _ _ _ _ _ _ _ _ _ _ _ _ _ _ _ _ _ _ _ _ _ _ _ _ _ _ _ _ _ _ _ _ _ _ _ _ _ _ _ _ _ _ _ _ _ _ _ _ _ _ _ _ _ _ _ _ _ _ _ _ _ _ _ _ _ _ _ _ _ _ _ _ _ _ _ _ _ _ _ _ _ _ _ _ _ _ _ _ _ _ _ _ _ _ _ _ _ _ _ _ _ _ _ _ _ _ _ _ _ _ _ _ _ _ _ _ _ _ _ _ _ HT2.out HS.out
            · by_cases h5 : rr = 5
              · subst h5
                obtain ⟨y, fe, L2, hE⟩ : ∃ y fe L2, awayE L (nw) pk = (y, fe, L2) := ⟨_, _, _, rfl⟩
                have HT2 : Aside0 (St r L2) := ⟨by have := St_away HT.out (nw) pk; rw [hE] at this; exact this⟩
                have HE := Aside0.mk hE
                clear hE
                go_upto_region 26 with (go_at_call 13; obtain ⟨ok_, hp_, hk_⟩ := sep_use1 HS.out; have hx_ := bag_Take p L r (nw) pk _ ok_ HPK.out hp_; rw [HE.out] at hx_; dsimp only [It.val] at hx_; (with_reducible refine Calls.mono hx_ ?_); rintro e w1 ⟨rfl, hq_⟩; have n_ := back1 hk_ hq_; clear hx_ hp_ hk_ hq_; have n0_ := Aside0.mk n_; clear HS n_; have HS := n0_; clear n0_; clear k1 k2 k3 k4 k5 k6 k7 k8 k9 k10; obtain ⟨k1, k2, k3, k4, k5, k6, k7, k8, k9, k10⟩ := facts10 (sep_l2 HS.out))
                have n_ := sep_l2 (sep_l2 (sep_alloc HS.out #[.int .u32 y.fi, .int .u16 y.fp, .int .u32 y.ti, .int .u16 y.tp, .string y.by_, .int .u64 y.t] 35))
                have n0_ := Aside0.mk n_; clear HS n_; have HS := n0_; clear n0_
                generalize w1.alloc (.cells #[.int .u32 y.fi, .int .u16 y.fp, .int .u32 y.ti, .int .u16 y.tp, .string y.by_, .int .u64 y.t] 35) = wb at HS ⊢
                generalize w1.heap.size = g15 at HS ⊢
                clear k1 k2 k3 k4 k5 k6 k7 k8 k9 k10; obtain ⟨k1, k2, k3, k4, k5, k6, k7, k8, k9, k10⟩ := facts10 (sep_l3 HS.out)
                go_upto_region 27 with (go_at_call 18; obtain ⟨ok_, hp_, hk_⟩ := sep_use1 (sep_l1 HS.out); have hx_ := rbag_Take q L r (nw) pk _ ok_ HPK.out (by have := HT.out.1; have := HRM.out; omega) hp_; rw [HE.out] at hx_; dsimp only [It.val] at hx_; (with_reducible refine Calls.mono hx_ ?_); rintro e w1 ⟨rfl, hq_⟩; have n_ := sep_l1 (back1 hk_ hq_); clear hx_ hp_ hk_ hq_; have n0_ := Aside0.mk n_; clear HS n_; have HS := n0_; clear n0_; skip)
                clear k1 k2 k3 k4 k5 k6 k7 k8 k9 k10
                have n_ := sep_drew (sep_l2 (sep_l2 (sep_alloc HS.out #[.int .u32 y.fi, .int .u16 y.fp, .int .u32 y.ti, .int .u16 y.tp, .string y.by_, .int .u64 y.t] 56)))
                have n0_ := Aside0.mk n_; clear HS n_; have HS := n0_; clear n0_
                generalize w1.alloc (.cells #[.int .u32 y.fi, .int .u16 y.fp, .int .u32 y.ti, .int .u16 y.tp, .string y.by_, .int .u64 y.t] 56) = wc at HS ⊢
                generalize w1.heap.size = g17 at HS ⊢
                obtain ⟨m1, m2, m3, m4, m5, m6⟩ := facts6 (sep_l3 HS.out)
                obtain ⟨r1, r2, r3, r4, r5, r6⟩ := facts6 (sep_l2 HS.out)
                (first | go_region_held3 (fun w' => w'.cell? ⟨g15, 0, none⟩ = some (.int .u32 y.fi) ∧ w'.cell? ⟨g15, 1, none⟩ = some (.int .u16 y.fp) ∧ w'.cell? ⟨g15, 2, none⟩ = some (.int .u32 y.ti) ∧ w'.cell? ⟨g15, 3, none⟩ = some (.int .u16 y.tp) ∧ w'.cell? ⟨g15, 4, none⟩ = some (.string y.by_) ∧ w'.cell? ⟨g15, 5, none⟩ = some (.int .u64 y.t) ∧ w'.cell? ⟨g17, 0, none⟩ = some (.int .u32 y.fi) ∧ w'.cell? ⟨g17, 1, none⟩ = some (.int .u16 y.fp) ∧ w'.cell? ⟨g17, 2, none⟩ = some (.int .u32 y.ti) ∧ w'.cell? ⟨g17, 3, none⟩ = some (.int .u16 y.tp) ∧ w'.cell? ⟨g17, 4, none⟩ = some (.string y.by_) ∧ w'.cell? ⟨g17, 5, none⟩ = some (.int .u64 y.t)) (exact ⟨m1, m2, m3, m4, m5, m6, r1, r2, r3, r4, r5, r6⟩) (first | (go_at_call 19; (with_reducible refine Calls.mono (ref_callE y _) ?_); rintro e w1 ⟨rfl, hb_⟩; have n_ := sep_below HS.out hb_; clear hb_; have n0_ := Aside0.mk n_; clear HS n_; have HS := n0_; clear n0_; clear m1 m2 m3 m4 m5 m6 r1 r2 r3 r4 r5 r6; obtain ⟨m1, m2, m3, m4, m5, m6⟩ := facts6 (sep_l3 HS.out); obtain ⟨r1, r2, r3, r4, r5, r6⟩ := facts6 (sep_l2 HS.out))) | fail)
                have n_ := sep_drop (sep_l2 (sep_drop (sep_l3 (sep_drop (sep_l4 HS.out)))))
                clear m1 m2 m3 m4 m5 m6 r1 r2 r3 r4 r5 r6
                have n0_ := Aside0.mk n_; clear HS n_; have HS := n0_; clear n0_
                go_wp2
                exact KEY36.out L2 _ _ _ _ _ _ _ _ _ _ _ _ _ _ _ _ _ _ _ _ _ _ _ _ _ _ _ _ _ _ _ _ _ _ _ _ _ _ _ _ _ _ _ _ _ _ _ _ _ _ _ _ _ _ _ _ _ _ _ _ _ _ _ _ _ _ _ _ _ _ _ _ _ _ _ _ _ _ _ _ _ _ _ _ _ _ _ _ _ _ _ _ _ _ _ _ _ _ _ _ _ _ _ _ _ _ _ _ _ _ _ _ _ _ _ _ _ _ _ _ _ _ _ _ _ _ _ _ _ _ _ _ _ _ _ _ _ _ _ _ _ _ _ _ HT2.out HS.out
              · by_cases h6 : rr = 6
                · subst h6
                  obtain ⟨y, fe, L2, hE⟩ : ∃ y fe L2, awayE L (nw) pk = (y, fe, L2) := ⟨_, _, _, rfl⟩
                  have HT2 : Aside0 (St r L2) := ⟨by have := St_away HT.out (nw) pk; rw [hE] at this; exact this⟩
                  have HE := Aside0.mk hE
                  clear hE
                  go_upto_region 26 with (go_at_call 13; obtain ⟨ok_, hp_, hk_⟩ := sep_use1 HS.out; have hx_ := bag_Take p L r (nw) pk _ ok_ HPK.out hp_; rw [HE.out] at hx_; dsimp only [It.val] at hx_; (with_reducible refine Calls.mono hx_ ?_); rintro e w1 ⟨rfl, hq_⟩; have n_ := back1 hk_ hq_; clear hx_ hp_ hk_ hq_; have n0_ := Aside0.mk n_; clear HS n_; have HS := n0_; clear n0_; clear k1 k2 k3 k4 k5 k6 k7 k8 k9 k10; obtain ⟨k1, k2, k3, k4, k5, k6, k7, k8, k9, k10⟩ := facts10 (sep_l2 HS.out))
                  have n_ := sep_l2 (sep_l2 (sep_alloc HS.out #[.int .u32 y.fi, .int .u16 y.fp, .int .u32 y.ti, .int .u16 y.tp, .string y.by_, .int .u64 y.t] 35))
                  have n0_ := Aside0.mk n_; clear HS n_; have HS := n0_; clear n0_
                  generalize w1.alloc (.cells #[.int .u32 y.fi, .int .u16 y.fp, .int .u32 y.ti, .int .u16 y.tp, .string y.by_, .int .u64 y.t] 35) = wb at HS ⊢
                  generalize w1.heap.size = g15 at HS ⊢
                  clear k1 k2 k3 k4 k5 k6 k7 k8 k9 k10; obtain ⟨k1, k2, k3, k4, k5, k6, k7, k8, k9, k10⟩ := facts10 (sep_l3 HS.out)
                  go_upto_region 27 with (go_at_call 18; obtain ⟨ok_, hp_, hk_⟩ := sep_use1 (sep_l1 HS.out); have hx_ := rbag_Take q L r (nw) pk _ ok_ HPK.out (by have := HT.out.1; have := HRM.out; omega) hp_; rw [HE.out] at hx_; dsimp only [It.val] at hx_; (with_reducible refine Calls.mono hx_ ?_); rintro e w1 ⟨rfl, hq_⟩; have n_ := sep_l1 (back1 hk_ hq_); clear hx_ hp_ hk_ hq_; have n0_ := Aside0.mk n_; clear HS n_; have HS := n0_; clear n0_; skip)
                  clear k1 k2 k3 k4 k5 k6 k7 k8 k9 k10
                  have n_ := sep_drew (sep_l2 (sep_l2 (sep_alloc HS.out #[.int .u32 y.fi, .int .u16 y.fp, .int .u32 y.ti, .int .u16 y.tp, .string y.by_, .int .u64 y.t] 56)))
                  have n0_ := Aside0.mk n_; clear HS n_; have HS := n0_; clear n0_
                  generalize w1.alloc (.cells #[.int .u32 y.fi, .int .u16 y.fp, .int .u32 y.ti, .int .u16 y.tp, .string y.by_, .int .u64 y.t] 56) = wc at HS ⊢
                  generalize w1.heap.size = g17 at HS ⊢
                  obtain ⟨m1, m2, m3, m4, m5, m6⟩ := facts6 (sep_l3 HS.out)
                  obtain ⟨r1, r2, r3, r4, r5, r6⟩ := facts6 (sep_l2 HS.out)
                  (first | go_region_held3 (fun w' => w'.cell? ⟨g15, 0, none⟩ = some (.int .u32 y.fi) ∧ w'.cell? ⟨g15, 1, none⟩ = some (.int .u16 y.fp) ∧ w'.cell? ⟨g15, 2, none⟩ = some (.int .u32 y.ti) ∧ w'.cell? ⟨g15, 3, none⟩ = some (.int .u16 y.tp) ∧ w'.cell? ⟨g15, 4, none⟩ = some (.string y.by_) ∧ w'.cell? ⟨g15, 5, none⟩ = some (.int .u64 y.t) ∧ w'.cell? ⟨g17, 0, none⟩ = some (.int .u32 y.fi) ∧ w'.cell? ⟨g17, 1, none⟩ = some (.int .u16 y.fp) ∧ w'.cell? ⟨g17, 2, none⟩ = some (.int .u32 y.ti) ∧ w'.cell? ⟨g17, 3, none⟩ = some (.int .u16 y.tp) ∧ w'.cell? ⟨g17, 4, none⟩ = some (.string y.by_) ∧ w'.cell? ⟨g17, 5, none⟩ = some (.int .u64 y.t)) (exact ⟨m1, m2, m3, m4, m5, m6, r1, r2, r3, r4, r5, r6⟩) (first | (go_at_call 19; (with_reducible refine Calls.mono (ref_callE y _) ?_); rintro e w1 ⟨rfl, hb_⟩; have n_ := sep_below HS.out hb_; clear hb_; have n0_ := Aside0.mk n_; clear HS n_; have HS := n0_; clear n0_; clear m1 m2 m3 m4 m5 m6 r1 r2 r3 r4 r5 r6; obtain ⟨m1, m2, m3, m4, m5, m6⟩ := facts6 (sep_l3 HS.out); obtain ⟨r1, r2, r3, r4, r5, r6⟩ := facts6 (sep_l2 HS.out))) | fail)
                  have n_ := sep_drop (sep_l2 (sep_drop (sep_l3 (sep_drop (sep_l4 HS.out)))))
                  clear m1 m2 m3 m4 m5 m6 r1 r2 r3 r4 r5 r6
                  have n0_ := Aside0.mk n_; clear HS n_; have HS := n0_; clear n0_
                  go_wp2
                  exact KEY36.out L2 _ _ _ _ _ _ _ _ _ _ _ _ _ _ _ _ _ _ _ _ _ _ _ _ _ _ _ _ _ _ _ _ _ _ _ _ _ _ _ _ _ _ _ _ _ _ _ _ _ _ _ _ _ _ _ _ _ _ _ _ _ _ _ _ _ _ _ _ _ _ _ _ _ _ _ _ _ _ _ _ _ _ _ _ _ _ _ _ _ _ _ _ _ _ _ _ _ _ _ _ _ _ _ _ _ _ _ _ _ _ _ _ _ _ _ _ _ _ _ _ _ _ _ _ _ _ _ _ _ _ _ _ _ _ _ _ _ _ _ _ _ _ _ _ HT2.out HS.out
                · by_cases h7 : rr = 7
                  · subst h7
                    obtain ⟨y, fe, L2, hE⟩ : ∃ y fe L2, awayE L 18446744073709551615 pk = (y, fe, L2) := ⟨_, _, _, rfl⟩
                    have HT2 : Aside0 (St r L2) := ⟨by have := St_away HT.out 18446744073709551615 pk; rw [hE] at this; exact this⟩
                    have HE := Aside0.mk hE
                    clear hE
                    go_upto_region 30 with (go_at_call 20; obtain ⟨ok_, hp_, hk_⟩ := sep_use1 HS.out; have hx_ := bag_Drop p L r pk _ ok_ HPK.out hp_; rw [HE.out] at hx_; dsimp only [It.val] at hx_; (with_reducible refine Calls.mono hx_ ?_); rintro e w1 ⟨rfl, hq_⟩; have n_ := back1 hk_ hq_; clear hx_ hp_ hk_ hq_; have n0_ := Aside0.mk n_; clear HS n_; have HS := n0_; clear n0_; clear k1 k2 k3 k4 k5 k6 k7 k8 k9 k10; obtain ⟨k1, k2, k3, k4, k5, k6, k7, k8, k9, k10⟩ := facts10 (sep_l2 HS.out))
                    have n_ := sep_l2 (sep_l2 (sep_alloc HS.out #[.int .u32 y.fi, .int .u16 y.fp, .int .u32 y.ti, .int .u16 y.tp, .string y.by_, .int .u64 y.t] 35))
                    have n0_ := Aside0.mk n_; clear HS n_; have HS := n0_; clear n0_
                    generalize w1.alloc (.cells #[.int .u32 y.fi, .int .u16 y.fp, .int .u32 y.ti, .int .u16 y.tp, .string y.by_, .int .u64 y.t] 35) = wb at HS ⊢
                    generalize w1.heap.size = g15 at HS ⊢
                    clear k1 k2 k3 k4 k5 k6 k7 k8 k9 k10; obtain ⟨k1, k2, k3, k4, k5, k6, k7, k8, k9, k10⟩ := facts10 (sep_l3 HS.out)
                    go_upto_region 31 with (go_at_call 21; obtain ⟨ok_, hp_, hk_⟩ := sep_use1 (sep_l1 HS.out); have hx_ := rbag_Drop q L r pk _ ok_ (by have := HT.out.1; have := HRM.out; omega) hp_; rw [drop_eq HT.out, HE.out] at hx_; dsimp only [It.val] at hx_; (with_reducible refine Calls.mono hx_ ?_); rintro e w1 ⟨rfl, hq_⟩; have n_ := sep_l1 (back1 hk_ hq_); clear hx_ hp_ hk_ hq_; have n0_ := Aside0.mk n_; clear HS n_; have HS := n0_; clear n0_; skip)
                    clear k1 k2 k3 k4 k5 k6 k7 k8 k9 k10
                    have n_ := sep_drew (sep_l2 (sep_l2 (sep_alloc HS.out #[.int .u32 y.fi, .int .u16 y.fp, .int .u32 y.ti, .int .u16 y.tp, .string y.by_, .int .u64 y.t] 56)))
                    have n0_ := Aside0.mk n_; clear HS n_; have HS := n0_; clear n0_
                    generalize w1.alloc (.cells #[.int .u32 y.fi, .int .u16 y.fp, .int .u32 y.ti, .int .u16 y.tp, .string y.by_, .int .u64 y.t] 56) = wc at HS ⊢
                    generalize w1.heap.size = g17 at HS ⊢
                    obtain ⟨m1, m2, m3, m4, m5, m6⟩ := facts6 (sep_l3 HS.out)
                    obtain ⟨r1, r2, r3, r4, r5, r6⟩ := facts6 (sep_l2 HS.out)
                    (first | go_region_held3 (fun w' => w'.cell? ⟨g15, 0, none⟩ = some (.int .u32 y.fi) ∧ w'.cell? ⟨g15, 1, none⟩ = some (.int .u16 y.fp) ∧ w'.cell? ⟨g15, 2, none⟩ = some (.int .u32 y.ti) ∧ w'.cell? ⟨g15, 3, none⟩ = some (.int .u16 y.tp) ∧ w'.cell? ⟨g15, 4, none⟩ = some (.string y.by_) ∧ w'.cell? ⟨g15, 5, none⟩ = some (.int .u64 y.t) ∧ w'.cell? ⟨g17, 0, none⟩ = some (.int .u32 y.fi) ∧ w'.cell? ⟨g17, 1, none⟩ = some (.int .u16 y.fp) ∧ w'.cell? ⟨g17, 2, none⟩ = some (.int .u32 y.ti) ∧ w'.cell? ⟨g17, 3, none⟩ = some (.int .u16 y.tp) ∧ w'.cell? ⟨g17, 4, none⟩ = some (.string y.by_) ∧ w'.cell? ⟨g17, 5, none⟩ = some (.int .u64 y.t)) (exact ⟨m1, m2, m3, m4, m5, m6, r1, r2, r3, r4, r5, r6⟩) (first | (go_at_call 19; (with_reducible refine Calls.mono (ref_callE y _) ?_); rintro e w1 ⟨rfl, hb_⟩; have n_ := sep_below HS.out hb_; clear hb_; have n0_ := Aside0.mk n_; clear HS n_; have HS := n0_; clear n0_; clear m1 m2 m3 m4 m5 m6 r1 r2 r3 r4 r5 r6; obtain ⟨m1, m2, m3, m4, m5, m6⟩ := facts6 (sep_l3 HS.out); obtain ⟨r1, r2, r3, r4, r5, r6⟩ := facts6 (sep_l2 HS.out))) | fail)
                    have n_ := sep_drop (sep_l2 (sep_drop (sep_l3 (sep_drop (sep_l4 HS.out)))))
                    clear m1 m2 m3 m4 m5 m6 r1 r2 r3 r4 r5 r6
                    have n0_ := Aside0.mk n_; clear HS n_; have HS := n0_; clear n0_
                    go_wp2
                    exact KEY36.out L2 _ _ _ _ _ _ _ _ _ _ _ _ _ _ _ _ _ _ _ _ _ _ _ _ _ _ _ _ _ _ _ _ _ _ _ _ _ _ _ _ _ _ _ _ _ _ _ _ _ _ _ _ _ _ _ _ _ _ _ _ _ _ _ _ _ _ _ _ _ _ _ _ _ _ _ _ _ _ _ _ _ _ _ _ _ _ _ _ _ _ _ _ _ _ _ _ _ _ _ _ _ _ _ _ _ _ _ _ _ _ _ _ _ _ _ _ _ _ _ _ _ _ _ _ _ _ _ _ _ _ _ _ _ _ _ _ _ _ _ _ _ _ _ _ HT2.out HS.out
                  · by_cases h8 : rr = 8
                    · subst h8
                      have HE := Aside0.mk (And.intro (twice_eq HT.out pk).1 (twice_eq HT.out pk).2)
                      have HT2 : Aside0 (St r (twiceL r L pk)) := ⟨St_twice HT.out pk⟩
                      generalize twiceE r L pk = te at HE
                      generalize hL2 : twiceL r L pk = L2 at HE HT2
                      have HE1 : Aside0 (twiceE r L pk = rtwE r L pk) := ⟨(twice_eq HT.out pk).1.symm⟩
                      have HL2 := Aside0.mk hL2
                      clear hL2
                      go_upto_region 33 with (fail)
                      replace HS := Aside0.mk (sep_drew HS.out)
                      clear k1 k2 k3 k4 k5 k6 k7 k8 k9 k10; obtain ⟨k1, k2, k3, k4, k5, k6, k7, k8, k9, k10⟩ := facts10 (sep_l2 HS.out)
                      (first | go_region_held3 (fun w' => w'.cell? ⟨g12, 7, none⟩ = some (.int .i64 pk)) (exact k8) (first | (go_at_call 22; obtain ⟨ok_, hp_, hk_⟩ := sep_use1 HS.out; have hx_ := bag_Twice p L r pk _ ok_ HRM.out.2 HPK.out hp_; rw [HL2.out, HE1.out, HE.out.1] at hx_; (with_reducible refine Calls.mono hx_ ?_); rintro e w1 ⟨rfl, hq_⟩; have n_ := back1 hk_ hq_; clear hx_ hp_ hk_ hq_; have n0_ := Aside0.mk n_; clear HS n_; have HS := n0_; clear n0_; clear k1 k2 k3 k4 k5 k6 k7 k8 k9 k10; obtain ⟨k1, k2, k3, k4, k5, k6, k7, k8, k9, k10⟩ := facts10 (sep_l2 HS.out)) | (go_at_call 23; obtain ⟨ok_, hp_, hk_⟩ := sep_use1 (sep_l1 HS.out); have hx_ := rbag_Twice q L r pk _ ok_ HRM.out.2 hp_; rw [HE.out.1, HE.out.2] at hx_; (with_reducible refine Calls.mono hx_ ?_); rintro e w1 ⟨rfl, hq_⟩; have n_ := sep_l1 (back1 hk_ hq_); clear hx_ hp_ hk_ hq_; have n0_ := Aside0.mk n_; clear HS n_; have HS := n0_; clear n0_; clear k1 k2 k3 k4 k5 k6 k7 k8 k9 k10; obtain ⟨k1, k2, k3, k4, k5, k6, k7, k8, k9, k10⟩ := facts10 (sep_l2 HS.out))) | fail)
                      have n_ := sep_drop (sep_l2 HS.out)
                      clear k1 k2 k3 k4 k5 k6 k7 k8 k9 k10
                      have n0_ := Aside0.mk n_; clear HS n_; have HS := n0_; clear n0_
                      go_wp2
                      exact KEY36.out L2 _ _ _ _ _ _ _ _ _ _ _ _ _ _ _ _ _ _ _ _ _ _ _ _ _ _ _ _ _ _ _ _ _ _ _ _ _ _ _ _ _ _ _ _ _ _ _ _ _ _ _ _ _ _ _ _ _ _ _ _ _ _ _ _ _ _ _ _ _ _ _ _ _ _ _ _ _ _ _ _ _ _ _ _ _ _ _ _ _ _ _ _ _ _ _ _ _ _ _ _ _ _ _ _ _ _ _ _ _ _ _ _ _ _ _ _ _ _ _ _ _ _ _ _ _ _ _ _ _ _ _ _ _ _ _ _ _ _ _ _ _ _ _ _ HT2.out HS.out
                    · by_cases h9 : rr = 9
                      · subst h9
                        have HT2 : Aside0 (St r (delayL L pk (nn : Int))) := ⟨St_delay HT.out pk nn (Int.natCast_nonneg nn)⟩
                        have HE := Aside0.mk (delay_eq HT.out pk (nn : Int))
                        generalize hte : delayE L pk = te at HE
                        generalize hL2 : delayL L pk (nn : Int) = L2 at HE HT2
                        have HE1 := Aside0.mk hte
                        have HL2 := Aside0.mk hL2
                        clear hL2 hte
                        go_upto_region 35 with (fail)
                        replace HS := Aside0.mk (sep_drew HS.out)
                        clear k1 k2 k3 k4 k5 k6 k7 k8 k9 k10; obtain ⟨k1, k2, k3, k4, k5, k6, k7, k8, k9, k10⟩ := facts10 (sep_l2 HS.out)
                        (first | go_region_held3 (fun w' => w'.cell? ⟨g12, 7, none⟩ = some (.int .i64 pk) ∧ w'.cell? ⟨g12, 8, none⟩ = some (.int .u64 (nn : Int))) (exact ⟨k8, k9⟩) (first | (go_at_call 15; obtain ⟨ok_, hp_, hk_⟩ := sep_use1 HS.out; have hx_ := bag_Delay p L r pk (nn : Int) _ ok_ HPK.out (Int.natCast_nonneg nn) (fun x hx => (HT.out.2 x hx).1) hp_; rw [HL2.out, HE1.out] at hx_; (with_reducible refine Calls.mono hx_ ?_); rintro e w1 ⟨rfl, hq_⟩; have n_ := back1 hk_ hq_; clear hx_ hp_ hk_ hq_; have n0_ := Aside0.mk n_; clear HS n_; have HS := n0_; clear n0_; clear k1 k2 k3 k4 k5 k6 k7 k8 k9 k10; obtain ⟨k1, k2, k3, k4, k5, k6, k7, k8, k9, k10⟩ := facts10 (sep_l2 HS.out)) | (go_at_call 24; obtain ⟨ok_, hp_, hk_⟩ := sep_use1 (sep_l1 HS.out); have hx_ := rbag_Delay q L r pk (nn : Int) _ ok_ (Int.natCast_nonneg nn) (fun x hx => (HT.out.2 x hx).1) hp_; rw [HE.out.1, HE.out.2] at hx_; (with_reducible refine Calls.mono hx_ ?_); rintro e w1 ⟨rfl, hq_⟩; have n_ := sep_l1 (back1 hk_ hq_); clear hx_ hp_ hk_ hq_; have n0_ := Aside0.mk n_; clear HS n_; have HS := n0_; clear n0_; clear k1 k2 k3 k4 k5 k6 k7 k8 k9 k10; obtain ⟨k1, k2, k3, k4, k5, k6, k7, k8, k9, k10⟩ := facts10 (sep_l2 HS.out))) | fail)
                        have n_ := sep_drop (sep_l2 HS.out)
                        clear k1 k2 k3 k4 k5 k6 k7 k8 k9 k10
                        have n0_ := Aside0.mk n_; clear HS n_; have HS := n0_; clear n0_
                        go_wp2
                        exact KEY36.out L2 _ _ _ _ _ _ _ _ _ _ _ _ _ _ _ _ _ _ _ _ _ _ _ _ _ _ _ _ _ _ _ _ _ _ _ _ _ _ _ _ _ _ _ _ _ _ _ _ _ _ _ _ _ _ _ _ _ _ _ _ _ _ _ _ _ _ _ _ _ _ _ _ _ _ _ _ _ _ _ _ _ _ _ _ _ _ _ _ _ _ _ _ _ _ _ _ _ _ _ _ _ _ _ _ _ _ _ _ _ _ _ _ _ _ _ _ _ _ _ _ _ _ _ _ _ _ _ _ _ _ _ _ _ _ _ _ _ _ _ _ _ _ _ _ HT2.out HS.out
                      · have n4 : ((rr : Int) == 4) = false := by rw [beq_eq_false_iff_ne]; omega
                        have n5 : ((rr : Int) == 5) = false := by rw [beq_eq_false_iff_ne]; omega
                        have n6 : ((rr : Int) == 6) = false := by rw [beq_eq_false_iff_ne]; omega
                        have n7 : ((rr : Int) == 7) = false := by rw [beq_eq_false_iff_ne]; omega
                        have n8 : ((rr : Int) == 8) = false := by rw [beq_eq_false_iff_ne]; omega
                        have n9 : ((rr : Int) == 9) = false := by rw [beq_eq_false_iff_ne]; omega
                        have o4 := eq_false h4
                        have o5 := eq_false h5
                        have o6 := eq_false h6
                        have o7 := eq_false h7
                        have o8 := eq_false h8
                        have o9 := eq_false h9
                        have p4 : ((rr : Int) = 4) = False := eq_false (by omega)
                        have p5 : ((rr : Int) = 5) = False := eq_false (by omega)
                        have p6 : ((rr : Int) = 6) = False := eq_false (by omega)
                        have p7 : ((rr : Int) = 7) = False := eq_false (by omega)
                        have p8 : ((rr : Int) = 8) = False := eq_false (by omega)
                        have p9 : ((rr : Int) = 9) = False := eq_false (by omega)
                        obtain ⟨y, hy⟩ : ∃ y, (Dd.mk (kk : Int) x pk (nn : Int) nr).item = y := ⟨_, rfl⟩
                        have HY := Aside0.mk hy
                        have hyo : itOk y := by rw [← hy]; exact itOk_item HDO.out
                        have HX1 : Aside0 (x.by_.size ≤ 9223372036854775807) := ⟨HDO.out.2.2.1.2.2⟩
                        have HX2 : Aside0 (0 ≤ x.t) := ⟨HDO.out.2.2.1.1⟩
                        have HT2 : Aside0 (St r (putL r L y)) := ⟨St_put HT.out hyo⟩
                        generalize hte : putE r L y = te
                        generalize hL2 : putL r L y = L2 at HT2
                        have HE1 := Aside0.mk hte
                        have HL2 := Aside0.mk hL2
                        clear hL2 hte hy hyo
                        go_upto_region 21 with (fail)
                        replace HS := Aside0.mk (sep_drew HS.out)
                        clear k1 k2 k3 k4 k5 k6 k7 k8 k9 k10; obtain ⟨k1, k2, k3, k4, k5, k6, k7, k8, k9, k10⟩ := facts10 (sep_l2 HS.out)
                        (first | go_region_held3 (fun w' => w'.cell? ⟨g12, 0, none⟩ = some (.int .u8 (kk : Int)) ∧ w'.cell? ⟨g12, 1, none⟩ = some (.int .u32 x.fi) ∧ w'.cell? ⟨g12, 2, none⟩ = some (.int .u16 x.fp) ∧ w'.cell? ⟨g12, 3, none⟩ = some (.int .u32 x.ti) ∧ w'.cell? ⟨g12, 4, none⟩ = some (.int .u16 x.tp) ∧ w'.cell? ⟨g12, 5, none⟩ = some (.string x.by_) ∧ w'.cell? ⟨g12, 6, none⟩ = some (.int .u64 x.t) ∧ w'.cell? ⟨g12, 7, none⟩ = some (.int .i64 pk) ∧ w'.cell? ⟨g12, 8, none⟩ = some (.int .u64 (nn : Int)) ∧ w'.cell? ⟨g12, 9, none⟩ = some (.bool nr)) (exact ⟨k1, k2, k3, k4, k5, k6, k7, k8, k9, k10⟩) (first | (go_at_call 25; (with_reducible refine Calls.mono (item_callE (kk : Int) x pk (nn : Int) nr y _ HY.out HX1.out HX2.out) ?_); rintro e w1 ⟨rfl, hb_⟩; have n_ := sep_below HS.out hb_; clear hb_; have n0_ := Aside0.mk n_; clear HS n_; have HS := n0_; clear n0_; clear k1 k2 k3 k4 k5 k6 k7 k8 k9 k10; obtain ⟨k1, k2, k3, k4, k5, k6, k7, k8, k9, k10⟩ := facts10 (sep_l2 HS.out)) | (go_at_call 11; obtain ⟨ok_, hp_, hk_⟩ := sep_use1 HS.out; have hx_ := bag_PutE p L r y _ ok_ HRM.out.2 hp_; rw [HL2.out, HE1.out] at hx_; unfold It.val at hx_; (with_reducible refine Calls.mono hx_ ?_); rintro e w1 ⟨rfl, hq_⟩; have n_ := back1 hk_ hq_; clear hx_ hp_ hk_ hq_; have n0_ := Aside0.mk n_; clear HS n_; have HS := n0_; clear n0_; clear k1 k2 k3 k4 k5 k6 k7 k8 k9 k10; obtain ⟨k1, k2, k3, k4, k5, k6, k7, k8, k9, k10⟩ := facts10 (sep_l2 HS.out)) | (go_at_call 19; (with_reducible refine Calls.mono (ref_callE y _) ?_); rintro e w1 ⟨rfl, hb_⟩; have n_ := sep_below HS.out hb_; clear hb_; have n0_ := Aside0.mk n_; clear HS n_; have HS := n0_; clear n0_; clear k1 k2 k3 k4 k5 k6 k7 k8 k9 k10; obtain ⟨k1, k2, k3, k4, k5, k6, k7, k8, k9, k10⟩ := facts10 (sep_l2 HS.out)) | (go_at_call 26; obtain ⟨ok_, hp_, hk_⟩ := sep_use1 (sep_l1 HS.out); have hx_ := rbag_Put q L r y _ ok_ HRM.out.2 hp_; rw [HL2.out, HE1.out] at hx_; unfold It.val at hx_; (with_reducible refine Calls.mono hx_ ?_); rintro e w1 ⟨rfl, hq_⟩; have n_ := sep_l1 (back1 hk_ hq_); clear hx_ hp_ hk_ hq_; have n0_ := Aside0.mk n_; clear HS n_; have HS := n0_; clear n0_; clear k1 k2 k3 k4 k5 k6 k7 k8 k9 k10; obtain ⟨k1, k2, k3, k4, k5, k6, k7, k8, k9, k10⟩ := facts10 (sep_l2 HS.out))) | fail)
                        have n_ := sep_drop (sep_l2 HS.out)
                        clear k1 k2 k3 k4 k5 k6 k7 k8 k9 k10
                        have n0_ := Aside0.mk n_; clear HS n_; have HS := n0_; clear n0_
                        go_wp2
                        exact KEY36.out L2 _ _ _ _ _ _ _ _ _ _ _ _ _ _ _ _ _ _ _ _ _ _ _ _ _ _ _ _ _ _ _ _ _ _ _ _ _ _ _ _ _ _ _ _ _ _ _ _ _ _ _ _ _ _ _ _ _ _ _ _ _ _ _ _ _ _ _ _ _ _ _ _ _ _ _ _ _ _ _ _ _ _ _ _ _ _ _ _ _ _ _ _ _ _ _ _ _ _ _ _ _ _ _ _ _ _ _ _ _ _ _ _ _ _ _ _ _ _ _ _ _ _ _ _ _ _ _ _ _ _ _ _ _ _ _ _ _ _ _ _ _ _ _ _ HT2.out HS.out
          have KEY19 := Aside0.mk key19
          clear hK19 key19
          cases nr with
          | true =>
            go_wp2
            exact KEY19.out _ _ _ _ _ _ _ _ _ _ _ _ _ _ _ _ _ _ _ _ _ _ _ _ _ _ _ _ _ _ _ _ _ _ _ _ _ _ _ _ _ _ _ _ _ _ _ _ _ _ _ _ _ _ _ _ _ _ _ _ _ _ _ _ _ _ _ _ _ _ _ _ _ _ _ _ _ _ _ _ _ _ _ _ _ _ _ _ _ _ _ _ _ _ _ _ _ _ _ _ _ _ _ _ _ _ _ _ _ _ _ _ _ _ _ _ _ _ _ _ _ _ _ _ _ _ _ _ _ _ _ _ _ _ _ _ _ _ _ _ _ _ _ _ _ HS.out
          | false =>
            go_wp2
            exact KEY19.out _ _ _ _ _ _ _ _ _ _ _ _ _ _ _ _ _ _ _ _ _ _ _ _ _ _ _ _ _ _ _ _ _ _ _ _ _ _ _ _ _ _ _ _ _ _ _ _ _ _ _ _ _ _ _ _ _ _ _ _ _ _ _ _ _ _ _ _ _ _ _ _ _ _ _ _ _ _ _ _ _ _ _ _ _ _ _ _ _ _ _ _ _ _ _ _ _ _ _ _ _ _ _ _ _ _ _ _ _ _ _ _ _ _ _ _ _ _ _ _ _ _ _ _ _ _ _ _ _ _ _ _ _ _ _ _ _ _ _ _ _ _ _ _ _ HS.out
        · by_cases hl : i < l.length
          · obtain rfl : i = 80 := by omega
            have c1b : decide ((80 : Int) < (l.length : Int)) = true := decide_eq_true (Int.ofNat_lt.2 hl); have c1n : decide (80 < l.length) = true := decide_eq_true hl; have c1q : (80 < l.length) = True := eq_true hl; have p0_ := eq_true (Int.natCast_nonneg 80)
            have c2b : decide ((80 : Int) < 80) = false := by decide
            clear hlt hi hi80 hgi hl
            go_upto_region 40 with (go_at_call 16; obtain ⟨ok_, hp_, hk_⟩ := sep_use1 HS.out; have hx_ := bag_Items p L r _ ok_ (by have := HT.out.1; have := HRM.out; omega) hp_; (with_reducible refine Calls.mono hx_ ?_); rintro e w1 ⟨v_, rfl, hq_⟩; have n_ := back2 hk_ hq_; clear hx_ hp_ hk_ hq_; obtain ⟨A8, c8, rfl, -, -⟩ := sep_row n_; have n0_ := Aside0.mk n_; clear HS n_; have HS := n0_; clear n0_)
            obtain ⟨v, n_⟩ := ref_open (sep_l1 (sep_drop (sep_l1 HS.out)))
            obtain ⟨A6, c6, rfl, -, hC6⟩ := sep_row (sep_l1 n_)
            have HLL := Aside0.mk hC6.2.1
            clear hC6
            have n0_ := Aside0.mk n_; clear HS n_; have HS := n0_; clear n0_
            go_loopg [24] L.length (fun gg v24 wr => ∃ j : Nat, j ≤ L.length ∧ L.length - j ≤ gg ∧ v24 = .int .i64 (j : Int) ∧ Aside0 (Sep w (fun _ => False) (pt q #[.slice A6 L.length c6, .int .i64 r] 69 ⋆ row itK 56 (.slice A6 L.length c6) L ⋆ row itK 35 (.slice A8 L.length c8) L ⋆ emp) wr))
            case atStart => exact ⟨0, Nat.zero_le _, by omega, rfl, HS⟩
            case round =>
              clear HS
              obtain ⟨j, hj, hjg, rfl, HS⟩ := hrel
              obtain ⟨z1, -⟩ := facts2g HS.out
              by_cases hlt : j < L.length
              · have c1b : decide ((j : Int) < (L.length : Int)) = true := decide_eq_true (Int.ofNat_lt.2 hlt); have c1n : decide (j < L.length) = true := decide_eq_true hlt; have c1q : (j < L.length) = True := eq_true hlt; have p0_ := eq_true (Int.natCast_nonneg j)
                obtain ⟨y, hy⟩ : ∃ y, L[j]? = some y := ⟨_, List.getElem?_eq_getElem hlt⟩
                obtain ⟨ad6, hA6, m1, m2, m3, m4, m5, m6⟩ := it_at (sep_row' (sep_l1 HS.out)).2.2 j y hy
                obtain ⟨ad8, hA8, r1, r2, r3, r4, r5, r6⟩ := it_at (sep_row' (sep_l2 HS.out)).2.2 j y hy
                subst hA6
                subst hA8
                have HY := Aside0.mk hy
                have HI2 := Aside0.mk (And.intro hlt hjg)
                clear hy hlt hj hjg
                go_upto_region 42 with (fail)
                replace HS := Aside0.mk (sep_drew HS.out)
                clear z1 m1 m2 m3 m4 m5 m6 r1 r2 r3 r4 r5 r6; obtain ⟨z1, -⟩ := facts2g HS.out; obtain ⟨_, hA_, m1, m2, m3, m4, m5, m6⟩ := it_at (sep_row' (sep_l1 HS.out)).2.2 j y HY.out; cases hA_; obtain ⟨_, hA_, r1, r2, r3, r4, r5, r6⟩ := it_at (sep_row' (sep_l2 HS.out)).2.2 j y HY.out; cases hA_
                (first | go_region_held3 (fun w' => w'.cell? ⟨q, 0, none⟩ = some (.slice (some ad6) L.length c6) ∧ w'.cell? (ad6.add (j * 6)) = some (.int .u32 y.fi) ∧ w'.cell? ⟨(ad6.add (j * 6)).block, (ad6.add (j * 6)).off + 1, none⟩ = some (.int .u16 y.fp) ∧ w'.cell? ⟨(ad6.add (j * 6)).block, (ad6.add (j * 6)).off + 2, none⟩ = some (.int .u32 y.ti) ∧ w'.cell? ⟨(ad6.add (j * 6)).block, (ad6.add (j * 6)).off + 3, none⟩ = some (.int .u16 y.tp) ∧ w'.cell? ⟨(ad6.add (j * 6)).block, (ad6.add (j * 6)).off + 4, none⟩ = some (.string y.by_) ∧ w'.cell? ⟨(ad6.add (j * 6)).block, (ad6.add (j * 6)).off + 5, none⟩ = some (.int .u64 y.t) ∧ w'.cell? (ad8.add (j * 6)) = some (.int .u32 y.fi) ∧ w'.cell? ⟨(ad8.add (j * 6)).block, (ad8.add (j * 6)).off + 1, none⟩ = some (.int .u16 y.fp) ∧ w'.cell? ⟨(ad8.add (j * 6)).block, (ad8.add (j * 6)).off + 2, none⟩ = some (.int .u32 y.ti) ∧ w'.cell? ⟨(ad8.add (j * 6)).block, (ad8.add (j * 6)).off + 3, none⟩ = some (.int .u16 y.tp) ∧ w'.cell? ⟨(ad8.add (j * 6)).block, (ad8.add (j * 6)).off + 4, none⟩ = some (.string y.by_) ∧ w'.cell? ⟨(ad8.add (j * 6)).block, (ad8.add (j * 6)).off + 5, none⟩ = some (.int .u64 y.t)) (exact ⟨z1, m1, m2, m3, m4, m5, m6, r1, r2, r3, r4, r5, r6⟩) (first | (go_at_call 19; (with_reducible refine Calls.mono (ref_callE y _) ?_); rintro e w1 ⟨rfl, hb_⟩; have n_ := sep_below HS.out hb_; clear hb_; have n0_ := Aside0.mk n_; clear HS n_; have HS := n0_; clear n0_; clear z1 m1 m2 m3 m4 m5 m6 r1 r2 r3 r4 r5 r6; obtain ⟨z1, -⟩ := facts2g HS.out; obtain ⟨_, hA_, m1, m2, m3, m4, m5, m6⟩ := it_at (sep_row' (sep_l1 HS.out)).2.2 j y HY.out; cases hA_; obtain ⟨_, hA_, r1, r2, r3, r4, r5, r6⟩ := it_at (sep_row' (sep_l2 HS.out)).2.2 j y HY.out; cases hA_)) | fail)
                go_wp2
                go_roundg (L.length - (j + 1))
                case measure => have := HI2.out; omega
                case rel => exact ⟨j + 1, HI2.out.1, Nat.le_refl _, congrArg (Value.int .i64) (by have := HI2.out; have := HLL.out; (try unfold wrap64); omega), HS⟩
              · obtain rfl : j = L.length := by omega
                have c3b : decide ((L.length : Int) < (L.length : Int)) = false := decide_eq_false (by omega)
                clear hj hjg hlt
                go_wp2
                go_ret
                exact ⟨rfl, sep_below_of HS.out⟩
          · have c1b : decide ((i : Int) < (l.length : Int)) = false := decide_eq_false (by omega)
            have c1n : decide (i < l.length) = false := decide_eq_false hl
            have c1q := eq_false hl
            clear hlt hi hgi hl
            go_upto_region 40 with (go_at_call 16; obtain ⟨ok_, hp_, hk_⟩ := sep_use1 HS.out; have hx_ := bag_Items p L r _ ok_ (by have := HT.out.1; have := HRM.out; omega) hp_; (with_reducible refine Calls.mono hx_ ?_); rintro e w1 ⟨v_, rfl, hq_⟩; have n_ := back2 hk_ hq_; clear hx_ hp_ hk_ hq_; obtain ⟨A8, c8, rfl, -, -⟩ := sep_row n_; have n0_ := Aside0.mk n_; clear HS n_; have HS := n0_; clear n0_)
            obtain ⟨v, n_⟩ := ref_open (sep_l1 (sep_drop (sep_l1 HS.out)))
            obtain ⟨A6, c6, rfl, -, hC6⟩ := sep_row (sep_l1 n_)
            have HLL := Aside0.mk hC6.2.1
            clear hC6
            have n0_ := Aside0.mk n_; clear HS n_; have HS := n0_; clear n0_
            go_loopg [24] L.length (fun gg v24 wr => ∃ j : Nat, j ≤ L.length ∧ L.length - j ≤ gg ∧ v24 = .int .i64 (j : Int) ∧ Aside0 (Sep w (fun _ => False) (pt q #[.slice A6 L.length c6, .int .i64 r] 69 ⋆ row itK 56 (.slice A6 L.length c6) L ⋆ row itK 35 (.slice A8 L.length c8) L ⋆ emp) wr))
            case atStart => exact ⟨0, Nat.zero_le _, by omega, rfl, HS⟩
            case round =>
              clear HS
              obtain ⟨j, hj, hjg, rfl, HS⟩ := hrel
              obtain ⟨z1, -⟩ := facts2g HS.out
              by_cases hlt : j < L.length
              · have c1b : decide ((j : Int) < (L.length : Int)) = true := decide_eq_true (Int.ofNat_lt.2 hlt); have c1n : decide (j < L.length) = true := decide_eq_true hlt; have c1q : (j < L.length) = True := eq_true hlt; have p0_ := eq_true (Int.natCast_nonneg j)
                obtain ⟨y, hy⟩ : ∃ y, L[j]? = some y := ⟨_, List.getElem?_eq_getElem hlt⟩
                obtain ⟨ad6, hA6, m1, m2, m3, m4, m5, m6⟩ := it_at (sep_row' (sep_l1 HS.out)).2.2 j y hy
                obtain ⟨ad8, hA8, r1, r2, r3, r4, r5, r6⟩ := it_at (sep_row' (sep_l2 HS.out)).2.2 j y hy
                subst hA6
                subst hA8
                have HY := Aside0.mk hy
                have HI2 := Aside0.mk (And.intro hlt hjg)
                clear hy hlt hj hjg
                go_upto_region 42 with (fail)
                replace HS := Aside0.mk (sep_drew HS.out)
                clear z1 m1 m2 m3 m4 m5 m6 r1 r2 r3 r4 r5 r6; obtain ⟨z1, -⟩ := facts2g HS.out; obtain ⟨_, hA_, m1, m2, m3, m4, m5, m6⟩ := it_at (sep_row' (sep_l1 HS.out)).2.2 j y HY.out; cases hA_; obtain ⟨_, hA_, r1, r2, r3, r4, r5, r6⟩ := it_at (sep_row' (sep_l2 HS.out)).2.2 j y HY.out; cases hA_
                (first | go_region_held3 (fun w' => w'.cell? ⟨q, 0, none⟩ = some (.slice (some ad6) L.length c6) ∧ w'.cell? (ad6.add (j * 6)) = some (.int .u32 y.fi) ∧ w'.cell? ⟨(ad6.add (j * 6)).block, (ad6.add (j * 6)).off + 1, none⟩ = some (.int .u16 y.fp) ∧ w'.cell? ⟨(ad6.add (j * 6)).block, (ad6.add (j * 6)).off + 2, none⟩ = some (.int .u32 y.ti) ∧ w'.cell? ⟨(ad6.add (j * 6)).block, (ad6.add (j * 6)).off + 3, none⟩ = some (.int .u16 y.tp) ∧ w'.cell? ⟨(ad6.add (j * 6)).block, (ad6.add (j * 6)).off + 4, none⟩ = some (.string y.by_) ∧ w'.cell? ⟨(ad6.add (j * 6)).block, (ad6.add (j * 6)).off + 5, none⟩ = some (.int .u64 y.t) ∧ w'.cell? (ad8.add (j * 6)) = some (.int .u32 y.fi) ∧ w'.cell? ⟨(ad8.add (j * 6)).block, (ad8.add (j * 6)).off + 1, none⟩ = some (.int .u16 y.fp) ∧ w'.cell? ⟨(ad8.add (j * 6)).block, (ad8.add (j * 6)).off + 2, none⟩ = some (.int .u32 y.ti) ∧ w'.cell? ⟨(ad8.add (j * 6)).block, (ad8.add (j * 6)).off + 3, none⟩ = some (.int .u16 y.tp) ∧ w'.cell? ⟨(ad8.add (j * 6)).block, (ad8.add (j * 6)).off + 4, none⟩ = some (.string y.by_) ∧ w'.cell? ⟨(ad8.add (j * 6)).block, (ad8.add (j * 6)).off + 5, none⟩ = some (.int .u64 y.t)) (exact ⟨z1, m1, m2, m3, m4, m5, m6, r1, r2, r3, r4, r5, r6⟩) (first | (go_at_call 19; (with_reducible refine Calls.mono (ref_callE y _) ?_); rintro e w1 ⟨rfl, hb_⟩; have n_ := sep_below HS.out hb_; clear hb_; have n0_ := Aside0.mk n_; clear HS n_; have HS := n0_; clear n0_; clear z1 m1 m2 m3 m4 m5 m6 r1 r2 r3 r4 r5 r6; obtain ⟨z1, -⟩ := facts2g HS.out; obtain ⟨_, hA_, m1, m2, m3, m4, m5, m6⟩ := it_at (sep_row' (sep_l1 HS.out)).2.2 j y HY.out; cases hA_; obtain ⟨_, hA_, r1, r2, r3, r4, r5, r6⟩ := it_at (sep_row' (sep_l2 HS.out)).2.2 j y HY.out; cases hA_)) | fail)
                go_wp2
                go_roundg (L.length - (j + 1))
                case measure => have := HI2.out; omega
                case rel => exact ⟨j + 1, HI2.out.1, Nat.le_refl _, congrArg (Value.int .i64) (by have := HI2.out; have := HLL.out; (try unfold wrap64); omega), HS⟩
              · obtain rfl : j = L.length := by omega
                have c3b : decide ((L.length : Int) < (L.length : Int)) = false := decide_eq_false (by omega)
                clear hj hjg hlt
                go_wp2
                go_ret
                exact ⟨rfl, sep_below_of HS.out⟩
    · go_wp2_with (first | (go_at_call 10; (with_reducible refine Calls.mono (bag_New_none r _ (by omega)) ?_); rintro e w1 ⟨rfl, hb_⟩; have n_ := sep_below HS.out hb_; clear hb_; have n0_ := Aside0.mk n_; clear HS n_; have HS := n0_; clear n0_; skip) | (go_at_call 17; (with_reducible refine Calls.mono (rbag_New_none r _ (by omega)) ?_); rintro e w1 ⟨rfl, hb_⟩; have n_ := sep_below HS.out hb_; clear hb_; have n0_ := Aside0.mk n_; clear HS n_; have HS := n0_; clear n0_; skip))
      go_ret
      exact ⟨rfl, sep_below_of HS.out⟩
  have KEY6 := Aside0.mk key6
  clear hK6 key6
  cases b1 with
  | true =>
    go_wp2
    exact KEY6.out _ _ _ _ _ _ _ _ _ _ _ _ _ _ _ _ _ _ _ _ _ _ _ _ _ _ _ _ _ _ _ _ _ _ _ _ _ _ _ _ _ _ _ _ _ _ _ _ _ _ _ _ _ _ _ _ _ _ _ _ _ _ _ _ _ _ _ _ _ _ _ _ _ _ _ _ _ _ _ _ _ _ _ _ _ _ _ _ _ _ _ _ _ _ _ _ _ _ _ _ _ _ _ _ _ _ _ _ _ _ _ _ _ _ _ _ _ _ _ _ _ _ _ _ _ _ _ _ _ _ _ _ _ _ _ _ _ _ _ _ _ _ _ _ _ _ _ _ _ _ _ _ _ _ _ _ _ _ _ _ _ _ _ _ _ _ _ _ _ _ _ _ _ _ _ _ _ _ _ _ _ _ _ _ _ _ _ _ _ _ _ _ _ _ _ _ _ _ _ _ _ _ _ _ _ _ _ _ _ _ _ _ _ _ _ _ _ _ _ _ _ _ HS.out
  | false =>
    go_wp2
    exact KEY6.out _ _ _ _ _ _ _ _ _ _ _ _ _ _ _ _ _ _ _ _ _ _ _ _ _ _ _ _ _ _ _ _ _ _ _ _ _ _ _ _ _ _ _ _ _ _ _ _ _ _ _ _ _ _ _ _ _ _ _ _ _ _ _ _ _ _ _ _ _ _ _ _ _ _ _ _ _ _ _ _ _ _ _ _ _ _ _ _ _ _ _ _ _ _ _ _ _ _ _ _ _ _ _ _ _ _ _ _ _ _ _ _ _ _ _ _ _ _ _ _ _ _ _ _ _ _ _ _ _ _ _ _ _ _ _ _ _ _ _ _ _ _ _ _ _ _ _ _ _ _ _ _ _ _ _ _ _ _ _ _ _ _ _ _ _ _ _ _ _ _ _ _ _ _ _ _ _ _ _ _ _ _ _ _ _ _ _ _ _ _ _ _ _ _ _ _ _ _ _ _ _ _ _ _ _ _ _ _ _ _ _ _ _ _ _ _ _ _ _ _ _ _ HS.out
end Go.Proofs.Ytlpiodcklacdpaa.BG
