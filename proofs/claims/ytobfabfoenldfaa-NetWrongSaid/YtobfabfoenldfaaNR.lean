/- Nets: what the laws call, by what comes out of it. Conditions: those that each theorem names. -/
import Derived.Test.YtobfabfoenldfaaNQ
namespace Go.Proofs.Ytobfabfoenldfaa.NW
set_option linter.unusedVariables false
set_option linter.unusedSimpArgs false
open Go Go.RowKit Go.Proofs.YtobfabfoenldfaaS Go.Proofs.YtobfabfoenldfaaS.Asn Go.Proofs.Ytobfabfoenldfaa.PA Go.Proofs.YtobfabfoenldfaaW.PrintWords Go.Proofs.YtobfabfoenldfaaW.PrintLast Go.Proofs.YtobfabfoenldfaaW.PrintMore

open Go.Proofs.Ytobfabfoenldfaa.BG
theorem made2 {w0 w w1 : World} {ok0 : Nat → Prop} {F A B : Asn} (h : Sep w0 ok0 F w) (hm : Sep w (fun _ => False) (A ⋆ B ⋆ emp) w1) : Sep w0 ok0 (A ⋆ B ⋆ F) w1 := emp_app [A, B] (sep_made_of h hm)
theorem made3 {w0 w w1 : World} {ok0 : Nat → Prop} {F A B C : Asn} (h : Sep w0 ok0 F w) (hm : Sep w (fun _ => False) (A ⋆ B ⋆ C ⋆ emp) w1) : Sep w0 ok0 (A ⋆ B ⋆ C ⋆ F) w1 := emp_app [A, B, C] (sep_made_of h hm)
theorem putL_ok {room : Int} {l : List It} {x : It} (h : putE room l x = 0) : putL room l x = l ++ [x] := if_pos h
theorem putL_no {room : Int} {l : List It} {x : It} (h : putE room l x ≠ 0) : putL room l x = l := if_neg h
section
variable (p pb : Nat) (hs : List Hs) (qs : List Nat) (l l2 : List It) (room now : Int) (w : World) (ok : Nat → Prop)
theorem sendP (j : Nat) (h_ : Hs) (k : Int) (dst : S28) (s : ByteArray) (er : Int) (hk : k = (j : Int) + 1) (hj : hs[j]? = some h_) (hb : h_.bx = 0) (ht : noneB dst.f0 dst.f1 = false) (hl : hs.length ≤ 100) (hq : qs.length ≤ 100) (h6 : room ≤ 256) (hn : 0 ≤ now ∧ now ≤ 1000000) (he : putE room l ⟨h_.ip, h_.po, dst.f0, dst.f1, s, now + 1⟩ = er) (hL : putL room l ⟨h_.ip, h_.po, dst.f0, dst.f1, s, now + 1⟩ = l2) (h : (netA p hs qs pb ⋆ bagA pb l room ⋆ emp).H w ok) :
    Calls Try.prog 11 #[.pointer (some ⟨p, 0, none⟩), .int .u64 now, .int .i64 k, .agg #[.int .u32 dst.f0, .int .u16 dst.f1], .string s] w fun e w' => e = .returned (.int .i64 er) ∧ Sep w ok (netA p hs qs pb ⋆ bagA pb l2 room ⋆ emp) w' := by
  subst hk he hL
  exact send_plain p pb hs qs l room now j h_ dst s w ok hj hb ht hl hq h6 hn h
theorem sendB (j : Nat) (h_ : Hs) (k : Int) (q : Nat) (B B2 : Bx) (dst fr : S28) (s : ByteArray) (er : Int) (hk : k = (j : Int) + 1) (hj : hs[j]? = some h_) (hb0 : 0 ≤ h_.bx ∧ h_.bx ≤ 1000) (hb : boxP qs h_.bx = some ⟨q, 0, none⟩) (ht : noneB dst.f0 dst.f1 = false) (hl : hs.length ≤ 100) (hq : qs.length ≤ 100) (h6 : room ≤ 256) (hn : 0 ≤ now ∧ now ≤ 1000000) (hout : OutIs q B B2 now ⟨h_.ip, h_.po⟩ dst fr) (he : putE room l ⟨fr.f0, fr.f1, dst.f0, dst.f1, s, now + 1⟩ = er) (hL : putL room l ⟨fr.f0, fr.f1, dst.f0, dst.f1, s, now + 1⟩ = l2) (h : (netA p hs qs pb ⋆ bagA pb l room ⋆ boxA q B ⋆ emp).H w ok) :
    Calls Try.prog 11 #[.pointer (some ⟨p, 0, none⟩), .int .u64 now, .int .i64 k, .agg #[.int .u32 dst.f0, .int .u16 dst.f1], .string s] w fun e w' => e = .returned (.int .i64 er) ∧ Sep w ok (netA p hs qs pb ⋆ bagA pb l2 room ⋆ boxA q B2 ⋆ emp) w' := by
  subst hk he hL
  exact send_box p pb hs qs l room now j h_ q B B2 dst fr s w ok hj hb0 hb ht hl hq h6 hn hout h
theorem sendE (k : Int) (dst : S28) (s : ByteArray) (hk : k < 1 ∨ (hs.length : Int) < k ∨ noneB dst.f0 dst.f1 = true) (h : (netA p hs qs pb ⋆ emp).H w ok) :
    Calls Try.prog 11 #[.pointer (some ⟨p, 0, none⟩), .int .u64 now, .int .i64 k, .agg #[.int .u32 dst.f0, .int .u16 dst.f1], .string s] w fun e w' => e = .returned (.int .i64 1) ∧ Below w.heap.size w w' := by
  obtain ⟨A, c, A', c', -, -, n_⟩ := net_open (sep_begin h)
  exact send_err p now k dst s A c hs w hk (sep_cell n_ 0)
theorem injI (a b : S28) (s : ByteArray) (er : Int) (h6 : room ≤ 256) (hn : 0 ≤ now ∧ now ≤ 1000000) (he : putE room l ⟨a.f0, a.f1, b.f0, b.f1, s, now + 1⟩ = er) (hL : putL room l ⟨a.f0, a.f1, b.f0, b.f1, s, now + 1⟩ = l2) (h : (netA p hs qs pb ⋆ bagA pb l room ⋆ emp).H w ok) :
    Calls Try.prog 18 #[.pointer (some ⟨p, 0, none⟩), .int .u64 now, .agg #[.int .u32 a.f0, .int .u16 a.f1], .agg #[.int .u32 b.f0, .int .u16 b.f1], .string s] w fun e w' => e = .returned (.int .i64 er) ∧ Sep w ok (netA p hs qs pb ⋆ bagA pb l2 room ⋆ emp) w' := by
  subst he hL
  exact inject_A p pb hs qs l room now w ok a b s h6 hn h
theorem dropI (pick er : Int) (it : It) (hp : pick ≤ 9223372036854775807) (ha : awayE l 18446744073709551615 pick = (it, er, l2)) (h : (netA p hs qs pb ⋆ bagA pb l room ⋆ emp).H w ok) :
    Calls Try.prog 17 #[.pointer (some ⟨p, 0, none⟩), .int .i64 pick] w fun e w' => e = .returned (.int .i64 er) ∧ Sep w ok (netA p hs qs pb ⋆ bagA pb l2 room ⋆ emp) w' := by
  have := drop_A p pb hs qs l room pick w ok hp h
  rw [ha] at this
  exact this
theorem delI (pick k : Int) (X X2 : Asn) (it : It) (fi fp : Int) (s : ByteArray) (hp : pick ≤ 9223372036854775807) (ha : awayE l now pick = (it, 0, l2)) (harr : ArrIs p pb hs qs X X2 now it k) (h1 : it.fi = fi) (h2 : it.fp = fp) (h3 : it.by_ = s) (h : (netA p hs qs pb ⋆ bagA pb l room ⋆ X ⋆ emp).H w ok) :
    Calls Try.prog 12 #[.pointer (some ⟨p, 0, none⟩), .int .u64 now, .int .i64 pick] w fun e w' => e = .returned (.tuple #[.agg #[.int .i64 k, .int .u32 fi, .int .u16 fp, .string s], .int .i64 0]) ∧ Sep w ok (netA p hs qs pb ⋆ bagA pb l2 room ⋆ X2 ⋆ emp) w' := by
  subst h1 h2 h3
  exact deliver_at p pb hs qs X X2 l l2 room now pick k it w ok hp ha harr h
theorem delN (pick er : Int) (it : It) (hp : pick ≤ 9223372036854775807) (ha : awayE l now pick = (it, er, l2)) (he : er ≠ 0) (h : (netA p hs qs pb ⋆ bagA pb l room ⋆ emp).H w ok) :
    Calls Try.prog 12 #[.pointer (some ⟨p, 0, none⟩), .int .u64 now, .int .i64 pick] w fun e w' => e = .returned (.tuple #[.agg #[.int .i64 0, .int .u32 0, .int .u16 0, .string ⟨#[]⟩], .int .i64 er]) ∧ Sep w ok (netA p hs qs pb ⋆ bagA pb l2 room ⋆ emp) w' :=
  deliver_none p pb hs qs l l2 room now pick er it w ok hp ha he h
theorem boxI (k : Int) (r : Option Addr) (hk : -1000 ≤ k ∧ k ≤ 1000) (hl : qs.length ≤ 100) (hr : boxP qs k = r) (h : (netA p hs qs pb ⋆ emp).H w ok) : Calls Try.prog 15 #[.pointer (some ⟨p, 0, none⟩), .int .i64 k] w fun e w' => e = .returned (.pointer r) ∧ Below w.heap.size w w' := by
  subst hr
  exact box_A p pb hs qs w ok k hk hl h
theorem rebI (k ip : Int) (ips : List Int) (q : Nat) (B B2 : Bx) (hk : -1000 ≤ k ∧ k ≤ 1000) (hl : qs.length ≤ 100) (hi : ips.length = qs.length) (hb : boxP qs k = some ⟨q, 0, none⟩) (ho : owned ips ip (k - 1) = false) (hn : hs.any (ipH ip) = false) (hip : ip ≠ 0) (hY : IpsAre (boxA q B ⋆ emp) qs ips) (hB : { B with ip := ip, l := [] } = B2) (h : (netA p hs qs pb ⋆ boxA q B ⋆ emp).H w ok) :
    Calls Try.prog 13 #[.pointer (some ⟨p, 0, none⟩), .int .i64 k, .int .u32 ip] w fun e w' => e = .returned (.int .i64 0) ∧ Sep w ok (netA p hs qs pb ⋆ boxA q B2 ⋆ emp) w' := by
  subst hB
  obtain ⟨ok_, hp_, hk_⟩ := sep_use3 (sep_l2 (sep_l2 (sep_emp (sep_begin h))))
  refine Calls.mono (rebind_ok p pb k ip qs ips hs q B emp w ok_ hk hl hi hb ho hn hip hY hp_) ?_
  rintro e w1 ⟨rfl, hq_⟩
  exact ⟨rfl, sep_drop (sep_l2 (back3 hk_ hq_))⟩
end
theorem ips_one (q : Nat) (B : Bx) (Y : Asn) : IpsAre (boxA q B ⋆ Y) [q] [B.ip] := by
  intro W ok_ h j q' hq
  match j, hq with
  | 0, hq =>
    obtain rfl : q = q' := by simpa using hq
    exact (box_cells (sep_flat (sep_begin h))).2.2.1
  | j + 1, hq => simp at hq
theorem ips_box (q : Nat) (B : Bx) : IpsAre (boxA q B) [q] [B.ip] := by
  intro W ok_ h j q' hq
  match j, hq with
  | 0, hq =>
    obtain rfl : q = q' := by simpa using hq
    exact (box_cells (sep_begin h)).2.2.1
  | j + 1, hq => simp at hq
end Go.Proofs.Ytobfabfoenldfaa.NW
