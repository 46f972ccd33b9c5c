/- Parts of one proof, merged: XKT XKU XKV XKW XSb XUC XUD. -/
import Derived.Test.YtpbphdkjjoipnaaGreatDoorHD
import Derived.Test.YtpbphdkjjoipnaaGreatDoorHB
import Derived.Test.YtpbphdkjjoipnaaGreatDoorHE
import Derived.Laws.IdiomStrings
import Derived.Test.YtpbphdkjjoipnaaGreatDoorHC
set_option linter.all false
set_option maxHeartbeats 12800000
set_option maxRecDepth 10000
set_option linter.unusedVariables false
set_option linter.unusedSimpArgs false
set_option linter.unnecessarySimpa false
namespace Go.Proofs.YtpbphdkjjoipnaaGreatDoor
open Go.Proofs.Tryz
open Go.RowKit
def xr (b : Nat) (W : World) : Prop := ∃ Wt, yK Wt ∧ zb [] Wt W ∧ Wt.heap.size ≤ b
theorem xr.at {b : Nat} {W w : World} (h : xr b W) (k : zb [b] W w) : yK w := by
 obtain ⟨Wt, h1, h2, h3⟩ := h
 exact h1.kept0 (h2.trans k (fun i hi => by simp at hi; subst hi; exact .inr h3))
theorem wbyte_44 {T : Nat} (hT : YK T) {W w : World} {b : Nat} {l : List UInt8} (h : BW T W b w l) (hl : l.length ≤ 100000000) :
  Calls Tryz.prog 98 #[.pointer (some ⟨b, 0, none⟩), .int .u8 44] w fun e w' => e = .returned .nilIface ∧ BW T W b w' (l ++ [44]) ∧ z8 b w w' := y6 hT h hl 44
theorem wbyte_58 {T : Nat} (hT : YK T) {W w : World} {b : Nat} {l : List UInt8} (h : BW T W b w l) (hl : l.length ≤ 100000000) :
  Calls Tryz.prog 98 #[.pointer (some ⟨b, 0, none⟩), .int .u8 58] w fun e w' => e = .returned .nilIface ∧ BW T W b w' (l ++ [58]) ∧ z8 b w w' := y6 hT h hl 58
theorem KL {W w : World} {b : Nat} {l : List UInt8} (h : BW 93 W b w l) (ht : xr b W) (hl : l.length ≤ 90000000) (s : ByteArray) (hs : s.size ≤ 1000000) (hv : zX s = true) :
  Calls Tryz.prog 94 #[.pointer (some ⟨b, 0, none⟩), .string s] w fun e w' => e = .returned (.tuple #[]) ∧ BW 93 W b w' (l ++ yr s.data.toList) ∧ z8 b w w' := by
 have CQ := qI (utfQuote (ht.at h.kept) s hs hv)
 have HB := qI h
 have HL : Hid ((zg (yr s.data.toList)).size ≤ 100000000) := qI (by
  have := YT s.data.toList
  rw [zK]
  have e : s.data.toList.length = s.size := by simp
  omega)
 clear h ht hv
 go_enter func94, ntmps94
 go_wp2_with (first
  | (go_at_call 138; refine CQ.o.mono ?_; rintro e w1 ⟨rfl, hk1⟩; have Gd := qI hk1; clear hk1)
  | (go_at_call 55; refine (ki yI (HB.o.stay Gd.o) (by omega) (zg (yr s.data.toList)) HL.o).mono ?_; rintro e w2 ⟨rfl, hb2, hk2⟩; rw [zq] at hb2; have Gf := qI hb2; have Gb := qI hk2; clear hb2 hk2))
 go_end0
 exact ⟨rfl, Gf.o, (z8.of0 Gd.o).trans Gb.o⟩
theorem between1_any {W w : World} {b b2 b3 n : Nat} {l : List UInt8} {J : World → Prop} {it : Nat → List UInt8} {o c : UInt8}
  (HJ : ∀ w1 w2, J w1 → z8 b w1 w2 → J w2)
  (HC : ∀ k w1 l1, k < n → J w1 → BW 93 W b w1 l1 → l1.length + (it k).length ≤ 50000000 → Calls Tryz.prog 96 #[.int .i64 k, .pointer (some ⟨b2, 0, none⟩), .pointer (some ⟨b3, 0, none⟩)] w1 fun r w2 => r = .returned (.tuple #[]) ∧ BW 93 W b w2 (l1 ++ it k) ∧ z8 b w1 w2)
  (hJ : J w) (hb : BW 93 W b w l) (hn : n ≤ 20000) (hl : l.length + (xD it n).length ≤ 49999998) :
  Calls Tryz.prog 95 #[.pointer (some ⟨b, 0, none⟩), .int .u8 o.toNat, .int .i64 n, .func (.func 96) #[] #[.pointer (some ⟨b2, 0, none⟩), .pointer (some ⟨b3, 0, none⟩)], .int .u8 c.toNat] w
   fun r w' => r = .returned (.tuple #[]) ∧ BW 93 W b w' (l ++ (o :: (xD it n ++ [c]))) ∧ z8 b w w' := by
 have HB := qI hb
 have Gu := qI hJ
 have Gv := qI HC
 have Gw := qI HJ
 clear hb hJ HC HJ
 go_enter func95, ntmps95
 go_wp2_with (go_at_call 98; refine (y6 yI HB.o (by omega) o).mono ?_; rintro e w1 ⟨rfl, hb1, hk1⟩; have Gx := qI hb1; have Gd := qI hk1; clear hb1 hk1)
 go_loopw [17] (fun i wr => ∃ k : Nat, i = .int .i64 k ∧ k ≤ n ∧ BW 93 W b wr (l ++ [o] ++ xD it k) ∧ z8 b w wr) (fun i _ => n - (intOf i).toNat)
 case atStart => exact ⟨0, rfl, Nat.zero_le _, by rw [jI, List.append_nil]; exact Gx.o, Gd.o⟩
 case round =>
  obtain ⟨k, rfl, hk, hb, hkw⟩ := hrel
  have Gq := qI hb
  have Gk := qI hkw
  have hle := ZQ it hk
  have hlen : (l ++ [o] ++ xD it k).length = l.length + 1 + (xD it k).length := by simp only [List.length_append, List.length_cons, List.length_nil]
  clear hb hkw
  by_cases hlt : k < n
  ·have hltI : (k : Int) < n := by omega
   have hst := Yr it k
   have hle2 := ZQ it (show k + 1 ≤ n from hlt)
   by_cases h0 : k = 0
   ·subst h0
    have CI := qI (Gv.o _ _ _ hlt (Gw.o _ _ Gu.o Gk.o) Gq.o (by simp only [if_true] at hst; omega))
    have HE : Hid (l ++ [o] ++ xD it 0 ++ it 0 = l ++ [o] ++ xD it (0 + 1)) := qI (by rw [jI, KV, List.append_nil])
    clear hst hlen hle hle2
    rw [show (((0 : Nat) : Nat) : Int) = 0 from rfl] at *
    go_wp2_with (go_at_call 96; refine CI.o.mono ?_; rintro e w2 ⟨rfl, hb2, hk2⟩; rw [HE.o] at hb2; have Gf := qI hb2; have Gb := qI hk2; clear hb2 hk2)
    case roundEnd => exact ⟨⟨0 + 1, by go_num, by omega, Gf.o, Gk.o.trans Gb.o⟩, by simp [intOf]; omega⟩
   ·have h0I : (0 : Int) < k := by omega
    rw [if_neg h0] at hst
    have HE : Hid (l ++ [o] ++ xD it k ++ [44] ++ it k = l ++ [o] ++ xD it (k + 1)) := qI (by rw [Y6 it (by omega)]; simp)
    go_wp2_with (first
     | (go_at_call 98; refine (wbyte_44 yI Gq.o (by omega)).mono ?_; rintro e w2 ⟨rfl, hb2, hk2⟩; have Gf := qI hb2; have Gb := qI hk2; clear hb2 hk2)
     | (go_at_call 96; refine (Gv.o _ _ _ hlt (Gw.o _ _ Gu.o (Gk.o.trans Gb.o)) Gf.o (by rw [List.length_append, hlen]; simp only [List.length_cons, List.length_nil]; omega)).mono ?_; rintro e w3 ⟨rfl, hb3, hk3⟩; rw [HE.o] at hb3; have Gl := qI hb3; have Gi := qI hk3; clear hb3 hk3))
    case roundEnd => exact ⟨⟨k + 1, by go_num, by omega, Gl.o, (Gk.o.trans Gb.o).trans Gi.o⟩, by simp [intOf]; omega⟩
  ·obtain rfl : k = n := by omega
   have HE : Hid (l ++ [o] ++ xD it k ++ [c] = l ++ (o :: (xD it k ++ [c]))) := qI (by simp)
   go_wp2_with (go_at_call 98; refine (y6 yI Gq.o (by omega) c).mono ?_; rintro e w2 ⟨rfl, hb2, hk2⟩; rw [HE.o] at hb2; have Gf := qI hb2; have Gb := qI hk2; clear hb2 hk2)
   go_end0
   exact ⟨rfl, Gf.o, Gk.o.trans Gb.o⟩
theorem between2_any {W w : World} {b b2 b3 n : Nat} {l : List UInt8} {J : World → Prop} {it : Nat → List UInt8} {o c : UInt8}
  (HJ : ∀ w1 w2, J w1 → z8 b w1 w2 → J w2)
  (HC : ∀ k w1 l1, k < n → J w1 → BW 93 W b w1 l1 → l1.length + (it k).length ≤ 50000000 → Calls Tryz.prog 97 #[.int .i64 k, .pointer (some ⟨b2, 0, none⟩), .pointer (some ⟨b3, 0, none⟩)] w1 fun r w2 => r = .returned (.tuple #[]) ∧ BW 93 W b w2 (l1 ++ it k) ∧ z8 b w1 w2)
  (hJ : J w) (hb : BW 93 W b w l) (hn : n ≤ 20000) (hl : l.length + (xD it n).length ≤ 49999998) :
  Calls Tryz.prog 95 #[.pointer (some ⟨b, 0, none⟩), .int .u8 o.toNat, .int .i64 n, .func (.func 97) #[] #[.pointer (some ⟨b2, 0, none⟩), .pointer (some ⟨b3, 0, none⟩)], .int .u8 c.toNat] w
   fun r w' => r = .returned (.tuple #[]) ∧ BW 93 W b w' (l ++ (o :: (xD it n ++ [c]))) ∧ z8 b w w' := by
 have HB := qI hb
 have Gu := qI hJ
 have Gv := qI HC
 have Gw := qI HJ
 clear hb hJ HC HJ
 go_enter func95, ntmps95
 go_wp2_with (go_at_call 98; refine (y6 yI HB.o (by omega) o).mono ?_; rintro e w1 ⟨rfl, hb1, hk1⟩; have Gx := qI hb1; have Gd := qI hk1; clear hb1 hk1)
 go_loopw [17] (fun i wr => ∃ k : Nat, i = .int .i64 k ∧ k ≤ n ∧ BW 93 W b wr (l ++ [o] ++ xD it k) ∧ z8 b w wr) (fun i _ => n - (intOf i).toNat)
 case atStart => exact ⟨0, rfl, Nat.zero_le _, by rw [jI, List.append_nil]; exact Gx.o, Gd.o⟩
 case round =>
  obtain ⟨k, rfl, hk, hb, hkw⟩ := hrel
  have Gq := qI hb
  have Gk := qI hkw
  have hle := ZQ it hk
  have hlen : (l ++ [o] ++ xD it k).length = l.length + 1 + (xD it k).length := by simp only [List.length_append, List.length_cons, List.length_nil]
  clear hb hkw
  by_cases hlt : k < n
  ·have hltI : (k : Int) < n := by omega
   have hst := Yr it k
   have hle2 := ZQ it (show k + 1 ≤ n from hlt)
   by_cases h0 : k = 0
   ·subst h0
    have CI := qI (Gv.o _ _ _ hlt (Gw.o _ _ Gu.o Gk.o) Gq.o (by simp only [if_true] at hst; omega))
    have HE : Hid (l ++ [o] ++ xD it 0 ++ it 0 = l ++ [o] ++ xD it (0 + 1)) := qI (by rw [jI, KV, List.append_nil])
    clear hst hlen hle hle2
    rw [show (((0 : Nat) : Nat) : Int) = 0 from rfl] at *
    go_wp2_with (go_at_call 97; refine CI.o.mono ?_; rintro e w2 ⟨rfl, hb2, hk2⟩; rw [HE.o] at hb2; have Gf := qI hb2; have Gb := qI hk2; clear hb2 hk2)
    case roundEnd => exact ⟨⟨0 + 1, by go_num, by omega, Gf.o, Gk.o.trans Gb.o⟩, by simp [intOf]; omega⟩
   ·have h0I : (0 : Int) < k := by omega
    rw [if_neg h0] at hst
    have HE : Hid (l ++ [o] ++ xD it k ++ [44] ++ it k = l ++ [o] ++ xD it (k + 1)) := qI (by rw [Y6 it (by omega)]; simp)
    go_wp2_with (first
     | (go_at_call 98; refine (wbyte_44 yI Gq.o (by omega)).mono ?_; rintro e w2 ⟨rfl, hb2, hk2⟩; have Gf := qI hb2; have Gb := qI hk2; clear hb2 hk2)
     | (go_at_call 97; refine (Gv.o _ _ _ hlt (Gw.o _ _ Gu.o (Gk.o.trans Gb.o)) Gf.o (by rw [List.length_append, hlen]; simp only [List.length_cons, List.length_nil]; omega)).mono ?_; rintro e w3 ⟨rfl, hb3, hk3⟩; rw [HE.o] at hb3; have Gl := qI hb3; have Gi := qI hk3; clear hb3 hk3))
    case roundEnd => exact ⟨⟨k + 1, by go_num, by omega, Gl.o, (Gk.o.trans Gb.o).trans Gi.o⟩, by simp [intOf]; omega⟩
  ·obtain rfl : k = n := by omega
   have HE : Hid (l ++ [o] ++ xD it k ++ [c] = l ++ (o :: (xD it k ++ [c]))) := qI (by simp)
   go_wp2_with (go_at_call 98; refine (y6 yI Gq.o (by omega) c).mono ?_; rintro e w2 ⟨rfl, hb2, hk2⟩; rw [HE.o] at hb2; have Gf := qI hb2; have Gb := qI hk2; clear hb2 hk2)
   go_end0
   exact ⟨rfl, Gf.o, Gk.o.trans Gb.o⟩
def bC (n : Nat) : Prop := ∀ (v : V n) {S : Nat → Prop} {W w : World} {cs : List Value} {b : Nat} {l : List UInt8}, Rep n S W cs v → (∀ g, S g → g ≠ b) → zj n v = true → zZ n v → xr b W → BW 93 W b w l → l.length + (zo n v).length ≤ 50000000 →
 Calls Tryz.prog 68 #[.pointer (some ⟨b, 0, none⟩), .agg cs.toArray] w fun e w' => e = .returned (.tuple #[]) ∧ BW 93 W b w' (l ++ zo n v) ∧ z8 b w w'
structure vw (b b2 b3 : Nat) (cs : List Value) (w : World) : Prop where
 ptr : w.heap[b2]? = some (.cells #[.pointer (some ⟨b, 0, none⟩)] 91 (0, 0))
 val : w.heap[b3]? = some (.cells cs.toArray 25 (0, 0))
theorem vw.kept {b b2 b3 : Nat} {cs : List Value} {w w' : World} (h : vw b b2 b3 cs w) (h2 : b2 ≠ b) (h3 : b3 ≠ b) (k : z8 b w w') : vw b b2 b3 cs w' :=
 ⟨k.heap h.ptr h2 (by rw [vF h.ptr]; decide), k.heap h.val h3 (by rw [vF h.val]; decide)⟩
section
variable {n : Nat} {v : VS (V n)} {S : Nat → Prop} {W w : World} {cs : List Value} {b b2 b3 k : Nat} {l : List UInt8} {a d : Option Addr} {c e : Nat} {lcs : List (List Value)} {mcs : List (ByteArray × List Value)}
theorem put1_any (IH : bC n) (H : ya (Rep n S W) S W cs v (.slice a v.l.length c) (.slice d v.m.length e) lcs mcs) (hS : ∀ g, S g → g ≠ b) (hr : zj (n + 1) v = true) (hs : zZ (n + 1) v) (ht : xr b W) (h23 : b2 ≠ b ∧ b3 ≠ b)
  (hc : vw b b2 b3 [.int .i64 v.kind, .int .i64 v.num, .string v.s, .slice a v.l.length c, .slice d v.m.length e] w) (hb : BW 93 W b w l) (hk : k < v.l.length) (hl : l.length + (zo n v.l[k]).length ≤ 50000000) :
  Calls Tryz.prog 96 #[.int .i64 k, .pointer (some ⟨b2, 0, none⟩), .pointer (some ⟨b3, 0, none⟩)] w fun r w2 => r = .returned (.tuple #[]) ∧ BW 93 W b w2 (l ++ zo n v.l[k]) ∧ z8 b w w2 := by
 obtain ⟨g, o, cap, kd, nm, st, a1, b1, he, q0, q1, q2, q3, q4, hrk⟩ := H.at_l (zb.refl _ _) k hk
 simp only [Value.slice.injEq] at he
 obtain ⟨rfl, -, rfl⟩ := he
 have hg : g ≠ b := hS g (H.inl g (vblk_mk (by omega)))
 obtain ⟨p1, i1, d1, p2, i2, d2, rfl, rfl⟩ := hrk.sl
 have hgb : g ∉ [b] := by simpa using hg
 have Gc : Hid (∀ w1, zb [b] W w1 → w1.cell? ⟨g, o + k * 5, none⟩ = some (.int .i64 kd) ∧ w1.cell? ⟨g, o + k * 5 + 1, none⟩ = some (.int .i64 nm) ∧ w1.cell? ⟨g, o + k * 5 + 2, none⟩ = some (.string st) ∧ w1.cell? ⟨g, o + k * 5 + 3, none⟩ = some (.slice p1 i1 d1) ∧ w1.cell? ⟨g, o + k * 5 + 4, none⟩ = some (.slice p2 i2 d2)) :=
  qI fun w1 k1 => ⟨k1.cell q0 hgb, k1.cell q1 hgb, k1.cell q2 hgb, k1.cell q3 hgb, k1.cell q4 hgb⟩
 have Gg : Hid (∀ w1, z8 b w w1 → w1.cell? ⟨b2, 0, none⟩ = some (.pointer (some ⟨b, 0, none⟩)) ∧ w1.cell? ⟨b3, 3, none⟩ = some (.slice (some ⟨g, o, none⟩) v.l.length c)) :=
  qI fun w1 k1 => ⟨za (o := 0) (v := .pointer (some ⟨b, 0, none⟩)) (hc.kept h23.1 h23.2 k1).ptr rfl, za (o := 3) (v := .slice (some ⟨g, o, none⟩) v.l.length c) (hc.kept h23.1 h23.2 k1).val rfl⟩
 obtain ⟨r0, r1, r2, r3, r4⟩ := Gc.o w hb.kept
 obtain ⟨c2, c3⟩ := Gg.o w (z8.refl _ _)
 have hkI : (k : Int) < v.l.length := by omega
 have CL : Hid (∀ w1, BW 93 W b w1 l → _) := qI (fun w1 (h1 : BW 93 W b w1 l) => IH v.l[k] hrk hS (qZ hr (xY (List.getElem_mem hk))) (hs.kid (xY (List.getElem_mem hk))) ht h1 hl)
 have HB := qI hb
 have Gs : Hid (v.l.length ≤ 20000) := qI (by have := hs.few; omega)
 have HK : Hid (k < v.l.length) := qI hk
 clear H hS hr hs ht hc hb q0 q1 q2 q3 q4 hrk hg hgb IH
 revert CL
 generalize zo n v.l[k] = T
 intro CL
 clear hl hk
 go_enter func96, ntmps96
 refine zk (n := 7) (fun w' : World => w'.cell? ⟨b2, 0, none⟩ = some (.pointer (some ⟨b, 0, none⟩)) ∧ w'.cell? ⟨b3, 3, none⟩ = some (.slice (some ⟨g, o, none⟩) v.l.length c) ∧ w'.cell? ⟨g, o + k * 5, none⟩ = some (.int .i64 kd) ∧ w'.cell? ⟨g, o + k * 5 + 1, none⟩ = some (.int .i64 nm) ∧ w'.cell? ⟨g, o + k * 5 + 2, none⟩ = some (.string st) ∧ w'.cell? ⟨g, o + k * 5 + 3, none⟩ = some (.slice p1 i1 d1) ∧ w'.cell? ⟨g, o + k * 5 + 4, none⟩ = some (.slice p2 i2 d2)) 7 (by kernel_rfl) (by kernel_rfl) ?_
 change zR _ _ _ _ _ _ _ _ _ w.drew
 have hSS : (fun w' : World => w'.cell? ⟨b2, 0, none⟩ = some (.pointer (some ⟨b, 0, none⟩)) ∧ w'.cell? ⟨b3, 3, none⟩ = some (.slice (some ⟨g, o, none⟩) v.l.length c) ∧ w'.cell? ⟨g, o + k * 5, none⟩ = some (.int .i64 kd) ∧ w'.cell? ⟨g, o + k * 5 + 1, none⟩ = some (.int .i64 nm) ∧ w'.cell? ⟨g, o + k * 5 + 2, none⟩ = some (.string st) ∧ w'.cell? ⟨g, o + k * 5 + 3, none⟩ = some (.slice p1 i1 d1) ∧ w'.cell? ⟨g, o + k * 5 + 4, none⟩ = some (.slice p2 i2 d2)) w.drew := ⟨c2, c3, r0, r1, r2, r3, r4⟩
 have Gh : Hid (zb [] w w.drew) := qI (zb.refl _ _).drew
 clear c2 c3 r0 r1 r2 r3 r4
 revert hSS Gh
 generalize w.drew = WD
 intro hSS Gh
 refine zx ?_
 intro O R hO hR
 have hQp : ∀ c a (d : Nat) v w, R (.panic c) (a.put (some d) v) w → R (.panic c) a w := by subst hR; exact fun _ _ _ _ _ h => h
 refine qT 0 ?_ hO rfl rfl (by kernel_rfl) hQp (fun w hSw => ?_) hSS ?_
 rotate_left
 ·obtain ⟨s0, s1, s2, s3, s4, s5, s6⟩ := hSw; go_simp; try with_reducible rfl
 try simp only [zA,zN,zB,zC,zD]
 refine qT 1 ?_ hO rfl rfl (by kernel_rfl) hQp (fun w hSw => ?_) hSS ?_
 rotate_left
 ·obtain ⟨s0, s1, s2, s3, s4, s5, s6⟩ := hSw; go_simp; try with_reducible rfl
 try simp only [zA,zN,zB,zC,zD]
 refine qT 2 ?_ hO rfl rfl (by kernel_rfl) hQp (fun w hSw => ?_) hSS ?_
 rotate_left
 ·obtain ⟨s0, s1, s2, s3, s4, s5, s6⟩ := hSw; go_simp; try with_reducible rfl
 try simp only [zA,zN,zB,zC,zD]
 refine qT 3 ?_ hO rfl rfl (by kernel_rfl) hQp (fun w hSw => ?_) hSS ?_
 rotate_left
 ·obtain ⟨s0, s1, s2, s3, s4, s5, s6⟩ := hSw; go_simp; try with_reducible rfl
 try simp only [zA,zN,zB,zC,zD]
 refine qT 4 ?_ hO rfl rfl (by kernel_rfl) hQp (fun w hSw => ?_) hSS ?_
 rotate_left
 ·obtain ⟨s0, s1, s2, s3, s4, s5, s6⟩ := hSw; go_simp; try with_reducible rfl
 try simp only [zA,zN,zB,zC,zD]
 refine qT 5 ?_ hO rfl rfl (by kernel_rfl) hQp (fun w hSw => ?_) hSS ?_
 rotate_left
 ·obtain ⟨s0, s1, s2, s3, s4, s5, s6⟩ := hSw; go_simp; try with_reducible rfl
 try simp only [zA,zN,zB,zC,zD]
 refine qO 6 hO rfl (by kernel_rfl) (fun K hK => ?_)
 go_simp
 refine Calls.mono (CL.o _ (HB.o.stay Gh.o)) ?_
 rintro e w3 ⟨rfl, hb3, hk3⟩
 have Gl := qI hb3
 have Gi := qI ((z8.of0 Gh.o).trans hk3)
 clear hb3 hk3
 refine hK _ _ (.inr ⟨(Gg.o w3 Gi.o).1, (Gg.o w3 Gi.o).2, Gc.o w3 Gl.o.kept⟩) ?_
 clear hK K
 try simp only [zA,zN,zB,zC,zD]
 refine zv hO (by kernel_rfl) ?_ _
 subst hR
 try clear hQp hO O
 go_wp2_with fail
 go_end0
 exact ⟨rfl, Gl.o, Gi.o⟩
theorem put2_any (IH : bC n) (H : ya (Rep n S W) S W cs v (.slice a v.l.length c) (.slice d v.m.length e) lcs mcs) (hS : ∀ g, S g → g ≠ b) (hr : zj (n + 1) v = true) (hs : zZ (n + 1) v) (ht : xr b W) (hkey : v.kind = 6) (h23 : b2 ≠ b ∧ b3 ≠ b)
  (hc : vw b b2 b3 [.int .i64 v.kind, .int .i64 v.num, .string v.s, .slice a v.l.length c, .slice d v.m.length e] w) (hb : BW 93 W b w l) (hk : k < v.m.length) (hl : l.length + (yr v.m[k].1.data.toList ++ (58 :: zo n v.m[k].2)).length ≤ 50000000) :
  Calls Tryz.prog 97 #[.int .i64 k, .pointer (some ⟨b2, 0, none⟩), .pointer (some ⟨b3, 0, none⟩)] w fun r w2 => r = .returned (.tuple #[]) ∧ BW 93 W b w2 (l ++ (yr v.m[k].1.data.toList ++ (58 :: zo n v.m[k].2))) ∧ z8 b w w2 := by
 obtain ⟨g, o, cap, kd, nm, st, a1, b1, he, qk, q0, q1, q2, q3, q4, hrk⟩ := H.at_m (zb.refl _ _) k hk
 simp only [Value.slice.injEq] at he
 obtain ⟨rfl, -, rfl⟩ := he
 have hg : g ≠ b := hS g (H.inm g (vblk_mk (by omega)))
 obtain ⟨p1, i1, d1, p2, i2, d2, rfl, rfl⟩ := hrk.sl
 have hgb : g ∉ [b] := by simpa using hg
 have Gc : Hid (∀ w1, zb [b] W w1 → w1.cell? ⟨g, o + k * 6, none⟩ = some (.string v.m[k].1) ∧ w1.cell? ⟨g, o + k * 6 + 1, none⟩ = some (.int .i64 kd) ∧ w1.cell? ⟨g, o + k * 6 + 2, none⟩ = some (.int .i64 nm) ∧ w1.cell? ⟨g, o + k * 6 + 3, none⟩ = some (.string st) ∧ w1.cell? ⟨g, o + k * 6 + 4, none⟩ = some (.slice p1 i1 d1) ∧ w1.cell? ⟨g, o + k * 6 + 5, none⟩ = some (.slice p2 i2 d2)) :=
  qI fun w1 k1 => ⟨k1.cell qk hgb, k1.cell q0 hgb, k1.cell q1 hgb, k1.cell q2 hgb, k1.cell q3 hgb, k1.cell q4 hgb⟩
 have Gg : Hid (∀ w1, z8 b w w1 → w1.cell? ⟨b2, 0, none⟩ = some (.pointer (some ⟨b, 0, none⟩)) ∧ w1.cell? ⟨b3, 4, none⟩ = some (.slice (some ⟨g, o, none⟩) v.m.length e)) :=
  qI fun w1 k1 => ⟨za (o := 0) (v := .pointer (some ⟨b, 0, none⟩)) (hc.kept h23.1 h23.2 k1).ptr rfl, za (o := 4) (v := .slice (some ⟨g, o, none⟩) v.m.length e) (hc.kept h23.1 h23.2 k1).val rfl⟩
 have hkI : (k : Int) < v.m.length := by omega
 have hkz : (v.m[k].1).size ≤ 400000 := Nat.le_trans (ZG (List.getElem_mem hk)) hs.2
 have hok : yE v.m = true := by
  rcases kR (kL hr) with h | h | h | h | h | h
  ·rw [hkey] at h; exact absurd h.1 (by decide)
  ·rw [hkey] at h; exact absurd h.1 (by decide)
  ·rw [hkey] at h; exact absurd h.1 (by decide)
  ·rw [hkey] at h; exact absurd h.1 (by decide)
  ·rw [hkey] at h; exact absurd h.1 (by decide)
  ·exact h.2.2.2.2
 have hkv : zX v.m[k].1 = true := by
  unfold yE at hok
  rw [Bool.and_eq_true, List.all_eq_true] at hok
  exact hok.1 _ (List.getElem_mem hk)
 have hlen : l.length + (yr v.m[k].1.data.toList).length + 1 + (zo n v.m[k].2).length ≤ 50000000 := by
  rw [List.length_append, List.length_cons] at hl
  omega
 have CL : Hid (∀ w1 l1, BW 93 W b w1 l1 → l1.length + (zo n v.m[k].2).length ≤ 50000000 → _) := qI (fun w1 l1 (h1 : BW 93 W b w1 l1) hl1 => IH v.m[k].2 hrk hS (qZ hr (xV (List.getElem_mem hk))) (hs.kid (xV (List.getElem_mem hk))) ht h1 hl1)
 have HB := qI hb
 have HT := qI ht
 have Gs : Hid (v.m.length ≤ 20000) := qI (by have := hs.few; omega)
 have HA : Hid (∀ x y : List UInt8, l ++ x ++ [58] ++ y = l ++ (x ++ (58 :: y))) := qI (by intro x y; simp)
 clear H hS hr hs ht hc hb qk q0 q1 q2 q3 q4 hrk hg hgb IH hok hl
 revert CL Gc hkz hkv hlen
 generalize zo n v.m[k].2 = T
 generalize v.m[k].1 = key
 intro Gc hkz hkv hlen CL
 clear hk
 obtain ⟨r0, r1, r2, r3, r4, r5⟩ := Gc.o w HB.o.kept
 obtain ⟨c2, c3⟩ := Gg.o w (z8.refl _ _)
 go_enter func97, ntmps97
 go_wp2_with fail
 refine zk (n := 8) (fun w' : World => w'.cell? ⟨b2, 0, none⟩ = some (.pointer (some ⟨b, 0, none⟩)) ∧ w'.cell? ⟨b3, 4, none⟩ = some (.slice (some ⟨g, o, none⟩) v.m.length e) ∧ w'.cell? ⟨g, o + k * 6, none⟩ = some (.string key)) 8 (by kernel_rfl) (by kernel_rfl) ?_
 change zR _ _ _ _ _ _ _ _ _ w.drew
 have hSS : (fun w' : World => w'.cell? ⟨b2, 0, none⟩ = some (.pointer (some ⟨b, 0, none⟩)) ∧ w'.cell? ⟨b3, 4, none⟩ = some (.slice (some ⟨g, o, none⟩) v.m.length e) ∧ w'.cell? ⟨g, o + k * 6, none⟩ = some (.string key)) w.drew := ⟨c2, c3, r0⟩
 have Gh : Hid (zb [] w w.drew) := qI (zb.refl _ _).drew
 clear c2 c3 r0 r1 r2 r3 r4 r5
 revert hSS Gh
 generalize w.drew = WD
 intro hSS Gh
 refine zx ?_
 intro O R hO hR
 have hQp : ∀ c a (d : Nat) v w, R (.panic c) (a.put (some d) v) w → R (.panic c) a w := by subst hR; exact fun _ _ _ _ _ h => h
 refine qT 0 ?_ hO rfl rfl (by kernel_rfl) hQp (fun w hSw => ?_) hSS ?_
 rotate_left
 ·obtain ⟨s0, s1, s2⟩ := hSw; go_simp; try with_reducible rfl
 try simp only [zA,zN,zB,zC,zD]
 refine qT 1 ?_ hO rfl rfl (by kernel_rfl) hQp (fun w hSw => ?_) hSS ?_
 rotate_left
 ·obtain ⟨s0, s1, s2⟩ := hSw; go_simp; try with_reducible rfl
 try simp only [zA,zN,zB,zC,zD]
 refine qT 2 ?_ hO rfl rfl (by kernel_rfl) hQp (fun w hSw => ?_) hSS ?_
 rotate_left
 ·obtain ⟨s0, s1, s2⟩ := hSw; go_simp; try with_reducible rfl
 try simp only [zA,zN,zB,zC,zD]
 refine qT 3 ?_ hO rfl rfl (by kernel_rfl) hQp (fun w hSw => ?_) hSS ?_
 rotate_left
 ·obtain ⟨s0, s1, s2⟩ := hSw; go_simp; try with_reducible rfl
 try simp only [zA,zN,zB,zC,zD]
 refine qT 4 ?_ hO rfl rfl (by kernel_rfl) hQp (fun w hSw => ?_) hSS ?_
 rotate_left
 ·obtain ⟨s0, s1, s2⟩ := hSw; go_simp; try with_reducible rfl
 try simp only [zA,zN,zB,zC,zD]
 refine qT 5 ?_ hO rfl rfl (by kernel_rfl) hQp (fun w hSw => ?_) hSS ?_
 rotate_left
 ·obtain ⟨s0, s1, s2⟩ := hSw; go_simp; try with_reducible rfl
 try simp only [zA,zN,zB,zC,zD]
 refine qT 6 ?_ hO rfl rfl (by kernel_rfl) hQp (fun w hSw => ?_) hSS ?_
 rotate_left
 ·obtain ⟨s0, s1, s2⟩ := hSw; go_simp; try with_reducible rfl
 try simp only [zA,zN,zB,zC,zD]
 refine qO 7 hO rfl (by kernel_rfl) (fun K hK => ?_)
 go_simp
 refine Calls.mono (KL (HB.o.stay Gh.o) HT.o (by omega) key (by omega) hkv) ?_
 rintro e1 w3 ⟨rfl, hb3, hk3⟩
 have Gl := qI hb3
 have Gi := qI ((z8.of0 Gh.o).trans hk3)
 clear hb3 hk3
 refine hK _ _ (.inr ⟨(Gg.o w3 Gi.o).1, (Gg.o w3 Gi.o).2, (Gc.o w3 Gl.o.kept).1⟩) ?_
 clear hK K
 try simp only [zA,zN,zB,zC,zD]
 refine zv hO (by kernel_rfl) ?_ _
 subst hR
 try clear hQp hO O
 clear hSS
 obtain ⟨c2, c3⟩ := Gg.o w3 Gi.o
 go_wp2_with (go_at_call 98; refine (wbyte_58 yI Gl.o (by rw [List.length_append]; omega)).mono ?_; rintro e2 w4 ⟨rfl, hb4, hk4⟩; have Gp := qI hb4; have Gt := qI (Gi.o.trans hk4); clear hb4 hk4)
 clear c2 c3
 obtain ⟨r0, r1, r2, r3, r4, r5⟩ := Gc.o w4 Gp.o.kept
 obtain ⟨c2, c3⟩ := Gg.o w4 Gt.o
 refine zk (n := 8) (fun w' : World => w'.cell? ⟨b2, 0, none⟩ = some (.pointer (some ⟨b, 0, none⟩)) ∧ w'.cell? ⟨b3, 4, none⟩ = some (.slice (some ⟨g, o, none⟩) v.m.length e) ∧ w'.cell? ⟨g, o + k * 6 + 1, none⟩ = some (.int .i64 kd) ∧ w'.cell? ⟨g, o + k * 6 + 2, none⟩ = some (.int .i64 nm) ∧ w'.cell? ⟨g, o + k * 6 + 3, none⟩ = some (.string st) ∧ w'.cell? ⟨g, o + k * 6 + 4, none⟩ = some (.slice p1 i1 d1) ∧ w'.cell? ⟨g, o + k * 6 + 5, none⟩ = some (.slice p2 i2 d2)) 8 (by kernel_rfl) (by kernel_rfl) ?_
 change zR _ _ _ _ _ _ _ _ _ w4.drew
 have hSS : (fun w' : World => w'.cell? ⟨b2, 0, none⟩ = some (.pointer (some ⟨b, 0, none⟩)) ∧ w'.cell? ⟨b3, 4, none⟩ = some (.slice (some ⟨g, o, none⟩) v.m.length e) ∧ w'.cell? ⟨g, o + k * 6 + 1, none⟩ = some (.int .i64 kd) ∧ w'.cell? ⟨g, o + k * 6 + 2, none⟩ = some (.int .i64 nm) ∧ w'.cell? ⟨g, o + k * 6 + 3, none⟩ = some (.string st) ∧ w'.cell? ⟨g, o + k * 6 + 4, none⟩ = some (.slice p1 i1 d1) ∧ w'.cell? ⟨g, o + k * 6 + 5, none⟩ = some (.slice p2 i2 d2)) w4.drew := ⟨c2, c3, r1, r2, r3, r4, r5⟩
 have Gr : Hid (zb [] w4 w4.drew) := qI (zb.refl _ _).drew
 clear c2 c3 r0 r1 r2 r3 r4 r5
 revert hSS Gr
 generalize w4.drew = WE
 intro hSS Gr
 refine zx ?_
 intro O R hO hR
 have hQp : ∀ c a (d : Nat) v w, R (.panic c) (a.put (some d) v) w → R (.panic c) a w := by subst hR; exact fun _ _ _ _ _ h => h
 refine qT 0 ?_ hO rfl rfl (by kernel_rfl) hQp (fun w hSw => ?_) hSS ?_
 rotate_left
 ·obtain ⟨s0, s1, s2, s3, s4, s5, s6⟩ := hSw; go_simp; try with_reducible rfl
 try simp only [zA,zN,zB,zC,zD]
 refine qT 1 ?_ hO rfl rfl (by kernel_rfl) hQp (fun w hSw => ?_) hSS ?_
 rotate_left
 ·obtain ⟨s0, s1, s2, s3, s4, s5, s6⟩ := hSw; go_simp; try with_reducible rfl
 try simp only [zA,zN,zB,zC,zD]
 refine qT 2 ?_ hO rfl rfl (by kernel_rfl) hQp (fun w hSw => ?_) hSS ?_
 rotate_left
 ·obtain ⟨s0, s1, s2, s3, s4, s5, s6⟩ := hSw; go_simp; try with_reducible rfl
 try simp only [zA,zN,zB,zC,zD]
 refine qT 3 ?_ hO rfl rfl (by kernel_rfl) hQp (fun w hSw => ?_) hSS ?_
 rotate_left
 ·obtain ⟨s0, s1, s2, s3, s4, s5, s6⟩ := hSw; go_simp; try with_reducible rfl
 try simp only [zA,zN,zB,zC,zD]
 refine qT 4 ?_ hO rfl rfl (by kernel_rfl) hQp (fun w hSw => ?_) hSS ?_
 rotate_left
 ·obtain ⟨s0, s1, s2, s3, s4, s5, s6⟩ := hSw; go_simp; try with_reducible rfl
 try simp only [zA,zN,zB,zC,zD]
 refine qT 5 ?_ hO rfl rfl (by kernel_rfl) hQp (fun w hSw => ?_) hSS ?_
 rotate_left
 ·obtain ⟨s0, s1, s2, s3, s4, s5, s6⟩ := hSw; go_simp; try with_reducible rfl
 try simp only [zA,zN,zB,zC,zD]
 refine qT 6 ?_ hO rfl rfl (by kernel_rfl) hQp (fun w hSw => ?_) hSS ?_
 rotate_left
 ·obtain ⟨s0, s1, s2, s3, s4, s5, s6⟩ := hSw; go_simp; try with_reducible rfl
 try simp only [zA,zN,zB,zC,zD]
 refine qO 7 hO rfl (by kernel_rfl) (fun K hK => ?_)
 go_simp
 refine Calls.mono (CL.o _ _ (Gp.o.stay Gr.o) (by simp only [List.length_append, List.length_cons, List.length_nil]; omega)) ?_
 rintro e3 w5 ⟨rfl, hb5, hk5⟩
 rw [HA.o] at hb5
 have Jg := qI hb5
 have Jc := qI ((Gt.o.trans (z8.of0 Gr.o)).trans hk5)
 clear hb5 hk5
 refine hK _ _ (.inr ⟨(Gg.o w5 Jc.o).1, (Gg.o w5 Jc.o).2, (Gc.o w5 Jg.o.kept).2⟩) ?_
 clear hK K
 try simp only [zA,zN,zB,zC,zD]
 refine zv hO (by kernel_rfl) ?_ _
 subst hR
 try clear hQp hO O
 go_wp2_with fail
 go_end0
 exact ⟨rfl, Jg.o, Jc.o⟩
end
theorem fb_true : Lib.formatBool true = [116, 114, 117, 101] := by decide +kernel
theorem fb_false : Lib.formatBool false = [102, 97, 108, 115, 101] := by decide +kernel
theorem JB {W w : World} {b b2 b3 n : Nat} {l : List UInt8} {J : World → Prop} {it : Nat → List UInt8}
  (HJ : ∀ w1 w2, J w1 → z8 b w1 w2 → J w2)
  (HC : ∀ k w1 l1, k < n → J w1 → BW 93 W b w1 l1 → l1.length + (it k).length ≤ 50000000 → Calls Tryz.prog 96 #[.int .i64 k, .pointer (some ⟨b2, 0, none⟩), .pointer (some ⟨b3, 0, none⟩)] w1 fun r w2 => r = .returned (.tuple #[]) ∧ BW 93 W b w2 (l1 ++ it k) ∧ z8 b w1 w2)
  (hJ : J w) (hb : BW 93 W b w l) (hn : n ≤ 20000) (hl : l.length + (xD it n).length ≤ 49999998) :
  Calls Tryz.prog 95 #[.pointer (some ⟨b, 0, none⟩), .int .u8 91, .int .i64 n, .func (.func 96) #[] #[.pointer (some ⟨b2, 0, none⟩), .pointer (some ⟨b3, 0, none⟩)], .int .u8 93] w
   fun r w' => r = .returned (.tuple #[]) ∧ BW 93 W b w' (l ++ (91 :: (xD it n ++ [93]))) ∧ z8 b w w' := between1_any (o := 91) (c := 93) HJ HC hJ hb hn hl
theorem between2_map {W w : World} {b b2 b3 n : Nat} {l : List UInt8} {J : World → Prop} {it : Nat → List UInt8}
  (HJ : ∀ w1 w2, J w1 → z8 b w1 w2 → J w2)
  (HC : ∀ k w1 l1, k < n → J w1 → BW 93 W b w1 l1 → l1.length + (it k).length ≤ 50000000 → Calls Tryz.prog 97 #[.int .i64 k, .pointer (some ⟨b2, 0, none⟩), .pointer (some ⟨b3, 0, none⟩)] w1 fun r w2 => r = .returned (.tuple #[]) ∧ BW 93 W b w2 (l1 ++ it k) ∧ z8 b w1 w2)
  (hJ : J w) (hb : BW 93 W b w l) (hn : n ≤ 20000) (hl : l.length + (xD it n).length ≤ 49999998) :
  Calls Tryz.prog 95 #[.pointer (some ⟨b, 0, none⟩), .int .u8 123, .int .i64 n, .func (.func 97) #[] #[.pointer (some ⟨b2, 0, none⟩), .pointer (some ⟨b3, 0, none⟩)], .int .u8 125] w
   fun r w' => r = .returned (.tuple #[]) ∧ BW 93 W b w' (l ++ (123 :: (xD it n ++ [125]))) ∧ z8 b w w' := between2_any (o := 123) (c := 125) HJ HC hJ hb hn hl
theorem write_1 {n : Nat} {v : VS (V n)} (h : v.kind = 1) : zo (n + 1) v = [110, 117, 108, 108] := by
 show (if v.kind = 1 then _ else _) = _
 rw [if_pos h]
theorem write_2 {n : Nat} {v : VS (V n)} (h : v.kind = 2) : zo (n + 1) v = Lib.formatBool (v.num == 1) := by
 show (if v.kind = 1 then _ else if v.kind = 2 then _ else _) = _
 rw [if_neg (by omega), if_pos h]
 by_cases e : v.num = 1
 ·rw [if_pos e, e, show ((1 : Int) == 1) = true from rfl, fb_true]
 ·rw [if_neg e, show (v.num == 1) = false by simpa using e, fb_false]
theorem write_3 {n : Nat} {v : VS (V n)} (h : v.kind = 3) : zo (n + 1) v = Lib.itoa v.num := by
 show (if v.kind = 1 then _ else if v.kind = 2 then _ else if v.kind = 3 then _ else _) = _
 rw [if_neg (by omega), if_neg (by omega), if_pos h]
theorem write_4 {n : Nat} {v : VS (V n)} (h : v.kind = 4) : zo (n + 1) v = yr v.s.data.toList := by
 show (if v.kind = 1 then _ else if v.kind = 2 then _ else if v.kind = 3 then _ else if v.kind = 4 then _ else _) = _
 rw [if_neg (by omega), if_neg (by omega), if_neg (by omega), if_pos h]
theorem write_5 {n : Nat} {v : VS (V n)} (h : v.kind = 5) : zo (n + 1) v = 91 :: (xD (fun k => (v.l.map (zo n)).getD k []) v.l.length ++ [93]) := by
 show (if v.kind = 1 then _ else if v.kind = 2 then _ else if v.kind = 3 then _ else if v.kind = 4 then _ else if v.kind = 5 then _ else _) = _
 rw [if_neg (by omega), if_neg (by omega), if_neg (by omega), if_neg (by omega), if_pos h, preC_all]
theorem write_6 {n : Nat} {v : VS (V n)} (h : v.kind = 6) : zo (n + 1) v = 123 :: (xD (fun k => (v.m.map (fun p => yr p.1.data.toList ++ (58 :: zo n p.2))).getD k []) v.m.length ++ [125]) := by
 show (if v.kind = 1 then _ else if v.kind = 2 then _ else if v.kind = 3 then _ else if v.kind = 4 then _ else if v.kind = 5 then _ else _) = _
 rw [if_neg (by omega), if_neg (by omega), if_neg (by omega), if_neg (by omega), if_neg (by omega), preC_all]
theorem zak {n : Nat} (known : bC n) : bC (n + 1) := fun (v : VS (V n)) {S W w cs b l} h hS hr hs ht hb hl => by
  have IH := qI known
  obtain ⟨vl, vm, lcs, mcs, h⟩ := h
  obtain ⟨a, c, d, e, rfl, rfl, rfl⟩ := h.forms
  obtain ⟨W2, Gj⟩ : ∃ W2, Hid (W2 = (w.alloc (.cells #[.pointer (some ⟨b, 0, none⟩)] 91)).alloc (.cells #[.int .i64 v.kind, .int .i64 v.num, .string v.s, .slice a v.l.length c, .slice d v.m.length e] 25)) := ⟨_, qI rfl⟩
  have Ga : Hid (zb [] w W2) := qI (by rw [Gj.o]; exact ((zb.refl [] w).alloc _).alloc _)
  have Gm : Hid (vw b w.heap.size (w.heap.size + 1) [.int .i64 v.kind, .int .i64 v.num, .string v.s, .slice a v.l.length c, .slice d v.m.length e] W2) := qI (by
   rw [Gj.o]
   exact ⟨((zb.refl [] _).alloc _).heap (zn rfl) (by simp), zn (by simp)⟩)
  have H23 : Hid (w.heap.size ≠ b ∧ w.heap.size + 1 ≠ b) := qI (by have := hb.lt; have := hb.kept.size; omega)
  have Gf : Hid (BW 93 W b W2 l) := qI (hb.stay Ga.o)
  have HL := qI hl
  have HS := qI hs
  have Jh := qI hS
  have Ji := qI hr
  have HT := qI ht
  have H := qI h
  have HC := qI (kR (kL hr))
  have hll : l.length ≤ 50000000 := by omega
  have hkv : ∀ x : Int, v.kind = x → Hid (vw b w.heap.size (w.heap.size + 1) [.int .i64 x, .int .i64 v.num, .string v.s, .slice a v.l.length c, .slice d v.m.length e] W2) := fun x hx => qI (by rw [← hx]; exact Gm.o)
  clear h hS hr hs ht hb hl
  rcases HC.o with ⟨k1, -⟩ | ⟨k1, k2, -⟩ | ⟨k1, k2, -⟩ | ⟨k1, k2, k3, -⟩ | ⟨k1, -⟩ | ⟨k1, -⟩
  ·have HE := qI (write_1 k1)
   clear Gm HC hkv
   rw [k1] at Gj ⊢
   clear k1
   go_enter func68, ntmps68
   go_wp2_with fail
   rw [← Gj.o]
   refine (ki yI Gf.o (by omega) ⟨#[110, 117, 108, 108]⟩ (by decide)).mono ?_
   rintro e1 w2 ⟨rfl, hb2, hk2⟩
   go_wp2_with fail
   go_end0
   exact ⟨rfl, by rw [HE.o]; exact hb2, (z8.of0 Ga.o).trans hk2⟩
  ·have HE := qI (write_2 k1)
   have Gn := hkv 2 k1
   have hnI : 0 ≤ v.num ∧ v.num ≤ 1 := by omega
   clear Gm HC hkv
   rw [k1] at Gj ⊢
   clear k1 k2
   have c2 := za (o := 0) (v := .pointer (some ⟨b, 0, none⟩)) Gn.o.ptr rfl
   have c3 := za (o := 1) (v := .int .i64 v.num) Gn.o.val rfl
   go_enter func68, ntmps68
   go_wp2_with fail
   rw [← Gj.o]
   generalize v.num = num at *
   refine zk (n := 8) (fun w' : World => w'.cell? ⟨w.heap.size, 0, none⟩ = some (.pointer (some ⟨b, 0, none⟩)) ∧ w'.cell? ⟨w.heap.size + 1, 1, none⟩ = some (.int .i64 num)) 8 (by kernel_rfl) (by kernel_rfl) ?_
   change zR _ _ _ _ _ _ _ _ _ W2.drew
   have hSS : (fun w' : World => w'.cell? ⟨w.heap.size, 0, none⟩ = some (.pointer (some ⟨b, 0, none⟩)) ∧ w'.cell? ⟨w.heap.size + 1, 1, none⟩ = some (.int .i64 num)) W2.drew := ⟨c2, c3⟩
   have Gh : Hid (zb [] W2 W2.drew) := qI (zb.refl _ _).drew
   clear c2 c3
   revert hSS Gh
   generalize W2.drew = WD
   intro hSS Gh
   refine zx ?_
   intro O R hO hR
   have hQp : ∀ c a (d : Nat) v w, R (.panic c) (a.put (some d) v) w → R (.panic c) a w := by subst hR; exact fun _ _ _ _ _ h => h
   refine qT 0 ?_ hO rfl rfl (by kernel_rfl) hQp (fun w hSw => ?_) hSS ?_
   rotate_left
   ·obtain ⟨s0, s1⟩ := hSw; go_simp; try with_reducible rfl
   try simp only [zA,zN,zB,zC,zD]
   refine qT 1 ?_ hO rfl rfl (by kernel_rfl) hQp (fun w hSw => ?_) hSS ?_
   rotate_left
   ·obtain ⟨s0, s1⟩ := hSw; go_simp; try with_reducible rfl
   try simp only [zA,zN,zB,zC,zD]
   refine qT 2 ?_ hO rfl rfl (by kernel_rfl) hQp (fun w hSw => ?_) hSS ?_
   rotate_left
   ·obtain ⟨s0, s1⟩ := hSw; go_simp; try with_reducible rfl
   try simp only [zA,zN,zB,zC,zD]
   refine qT 3 ?_ hO rfl rfl (by kernel_rfl) hQp (fun w hSw => ?_) hSS ?_
   rotate_left
   ·obtain ⟨s0, s1⟩ := hSw; go_simp; try with_reducible rfl
   try simp only [zA,zN,zB,zC,zD]
   refine qT 4 ?_ hO rfl rfl (by kernel_rfl) hQp (fun w hSw => ?_) hSS ?_
   rotate_left
   ·obtain ⟨s0, s1⟩ := hSw; go_simp; try with_reducible rfl
   try simp only [zA,zN,zB,zC,zD]
   refine qT 5 ?_ hO rfl rfl (by kernel_rfl) hQp (fun w hSw => ?_) hSS ?_
   rotate_left
   ·obtain ⟨s0, s1⟩ := hSw; go_simp; try with_reducible rfl
   try simp only [zA,zN,zB,zC,zD]
   refine qO 6 hO rfl (by kernel_rfl) (fun K hK => ?_)
   go_simp
   refine Calls.mono (K5 (num == 1) WD) ?_
   rintro e1 w3 ⟨rfl, rfl⟩
   refine hK _ _ (.inr hSS) ?_
   clear hK K
   try simp only [zA,zN,zB,zC,zD]
   refine qO 7 hO rfl (by kernel_rfl) (fun K hK => ?_)
   go_simp
   refine Calls.mono (ki yI (Gf.o.stay Gh.o) (by omega) (zg (Lib.formatBool (num == 1))) (by rw [zK]; cases (num == 1) <;> decide +kernel)) ?_
   rintro e2 w4 ⟨rfl, hb4, hk4⟩
   rw [zq, ← HE.o] at hb4
   have Gp := qI hb4
   have Gt := qI (((z8.of0 Ga.o).trans (z8.of0 Gh.o)).trans hk4)
   have hcq := Gn.o.kept H23.o.1 H23.o.2 ((z8.of0 Gh.o : z8 b _ _).trans hk4)
   have hS4 : (fun w' : World => w'.cell? ⟨w.heap.size, 0, none⟩ = some (.pointer (some ⟨b, 0, none⟩)) ∧ w'.cell? ⟨w.heap.size + 1, 1, none⟩ = some (.int .i64 num)) w4 := ⟨za (o := 0) (v := .pointer (some ⟨b, 0, none⟩)) hcq.ptr rfl, za (o := 1) (v := .int .i64 num) hcq.val rfl⟩
   clear hb4 hk4 hcq
   refine hK _ _ (.inr hS4) ?_
   clear hK K
   try simp only [zA,zN,zB,zC,zD]
   refine zv hO (by kernel_rfl) ?_ _
   subst hR
   try clear hQp hO O
   go_wp2_with fail
   go_end0
   exact ⟨rfl, Gp.o, Gt.o⟩
  ·have HE := qI (write_3 k1)
   have Gn := hkv 3 k1
   have Gs : Hid ((Lib.itoa v.num).length ≤ 21) := qI (QR v.num k2)
   have Jm : Hid (yK W2) := qI (HT.o.at Gf.o.kept)
   clear Gm HC hkv
   rw [k1] at Gj ⊢
   clear k1
   have c2 := za (o := 0) (v := .pointer (some ⟨b, 0, none⟩)) Gn.o.ptr rfl
   have c3 := za (o := 1) (v := .int .i64 v.num) Gn.o.val rfl
   go_enter func68, ntmps68
   go_wp2_with fail
   rw [← Gj.o]
   generalize v.num = num at *
   refine zk (n := 7) (fun w' : World => w'.cell? ⟨w.heap.size, 0, none⟩ = some (.pointer (some ⟨b, 0, none⟩)) ∧ w'.cell? ⟨w.heap.size + 1, 1, none⟩ = some (.int .i64 num)) 7 (by kernel_rfl) (by kernel_rfl) ?_
   change zR _ _ _ _ _ _ _ _ _ W2.drew
   have hSS : (fun w' : World => w'.cell? ⟨w.heap.size, 0, none⟩ = some (.pointer (some ⟨b, 0, none⟩)) ∧ w'.cell? ⟨w.heap.size + 1, 1, none⟩ = some (.int .i64 num)) W2.drew := ⟨c2, c3⟩
   have Gh : Hid (zb [] W2 W2.drew) := qI (zb.refl _ _).drew
   clear c2 c3
   revert hSS Gh
   generalize W2.drew = WD
   intro hSS Gh
   refine zx ?_
   intro O R hO hR
   have hQp : ∀ c a (d : Nat) v w, R (.panic c) (a.put (some d) v) w → R (.panic c) a w := by subst hR; exact fun _ _ _ _ _ h => h
   refine qT 0 ?_ hO rfl rfl (by kernel_rfl) hQp (fun w hSw => ?_) hSS ?_
   rotate_left
   ·obtain ⟨s0, s1⟩ := hSw; go_simp; try with_reducible rfl
   try simp only [zA,zN,zB,zC,zD]
   refine qT 1 ?_ hO rfl rfl (by kernel_rfl) hQp (fun w hSw => ?_) hSS ?_
   rotate_left
   ·obtain ⟨s0, s1⟩ := hSw; go_simp; try with_reducible rfl
   try simp only [zA,zN,zB,zC,zD]
   refine qT 2 ?_ hO rfl rfl (by kernel_rfl) hQp (fun w hSw => ?_) hSS ?_
   rotate_left
   ·obtain ⟨s0, s1⟩ := hSw; go_simp; try with_reducible rfl
   try simp only [zA,zN,zB,zC,zD]
   refine qT 3 ?_ hO rfl rfl (by kernel_rfl) hQp (fun w hSw => ?_) hSS ?_
   rotate_left
   ·obtain ⟨s0, s1⟩ := hSw; go_simp; try with_reducible rfl
   try simp only [zA,zN,zB,zC,zD]
   refine qT 4 ?_ hO rfl rfl (by kernel_rfl) hQp (fun w hSw => ?_) hSS ?_
   rotate_left
   ·obtain ⟨s0, s1⟩ := hSw; go_simp; try with_reducible rfl
   try simp only [zA,zN,zB,zC,zD]
   refine qO 5 hO rfl (by kernel_rfl) (fun K hK => ?_)
   go_simp
   refine Calls.mono (libItoa (Jm.o.kept0 Gh.o) num (by omega) (by omega)) ?_
   rintro e1 w3 ⟨rfl, hk3⟩
   have Gi := qI (Gh.o.then hk3)
   have hS3 : (fun w' : World => w'.cell? ⟨w.heap.size, 0, none⟩ = some (.pointer (some ⟨b, 0, none⟩)) ∧ w'.cell? ⟨w.heap.size + 1, 1, none⟩ = some (.int .i64 num)) w3 := ⟨hk3.cell hSS.1 (by simp), hk3.cell hSS.2 (by simp)⟩
   clear hk3
   refine hK _ _ (.inr hS3) ?_
   clear hK K
   try simp only [zA,zN,zB,zC,zD]
   clear hSS
   have hSS := hS3
   clear hS3
   refine qO 6 hO rfl (by kernel_rfl) (fun K hK => ?_)
   go_simp
   refine Calls.mono (ki yI (Gf.o.stay Gi.o) (by omega) (zg (Lib.itoa num)) (by rw [zK]; have := Gs.o; omega)) ?_
   rintro e2 w4 ⟨rfl, hb4, hk4⟩
   rw [zq, ← HE.o] at hb4
   have Gp := qI hb4
   have Gt := qI (((z8.of0 Ga.o).trans (z8.of0 Gi.o)).trans hk4)
   have hcq := Gn.o.kept H23.o.1 H23.o.2 ((z8.of0 Gi.o : z8 b _ _).trans hk4)
   have hS4 : (fun w' : World => w'.cell? ⟨w.heap.size, 0, none⟩ = some (.pointer (some ⟨b, 0, none⟩)) ∧ w'.cell? ⟨w.heap.size + 1, 1, none⟩ = some (.int .i64 num)) w4 := ⟨za (o := 0) (v := .pointer (some ⟨b, 0, none⟩)) hcq.ptr rfl, za (o := 1) (v := .int .i64 num) hcq.val rfl⟩
   clear hb4 hk4 hcq
   refine hK _ _ (.inr hS4) ?_
   clear hK K
   try simp only [zA,zN,zB,zC,zD]
   refine zv hO (by kernel_rfl) ?_ _
   subst hR
   try clear hQp hO O
   go_wp2_with fail
   go_end0
   exact ⟨rfl, Gp.o, Gt.o⟩
  ·have HE := qI (write_4 k1)
   have hsz : v.s.size ≤ 400000 := by
    have h1 := HS.o.2
    have h2 : v.s.size ≤ zw (n + 1) v := by
     show _ ≤ v.s.size + v.keyBytes + _
     omega
    omega
   clear Gm HC hkv
   rw [k1] at Gj ⊢
   clear k1 k2
   go_enter func68, ntmps68
   go_wp2_with fail
   rw [← Gj.o]
   refine (KL Gf.o HT.o (by omega) v.s (by omega) k3).mono ?_
   rintro e1 w2 ⟨rfl, hb2, hk2⟩
   go_wp2_with fail
   go_end0
   exact ⟨rfl, by rw [HE.o]; exact hb2, (z8.of0 Ga.o).trans hk2⟩
  ·have HE := qI (write_5 k1)
   have Gn := hkv 5 k1
   have CB := qI (JB (n := v.l.length) (b2 := w.heap.size) (b3 := w.heap.size + 1) (it := fun k => (v.l.map (zo n)).getD k []) (J := vw b w.heap.size (w.heap.size + 1) [.int .i64 v.kind, .int .i64 v.num, .string v.s, .slice a v.l.length c, .slice d v.m.length e])
    (fun _ _ h k => h.kept H23.o.1 H23.o.2 k) (fun k w1 l1 hk hc hb1 hl1 => by
     have e1 : (v.l.map (zo n)).getD k [] = zo n v.l[k] := by simp [hk]
     have hle : (zo n v.l[k]).length + 1 ≤ (zo (n + 1) v).length := by
      rw [HE.o]
      have h1 := Yr (fun k => (v.l.map (zo n)).getD k []) k
      have h2 := ZQ (fun k => (v.l.map (zo n)).getD k []) (show k + 1 ≤ v.l.length from hk)
      simp only [e1] at h1
      simp only [List.length_cons, List.length_append]
      omega
     simp only [e1] at hl1 ⊢
     exact put1_any IH.o H.o Jh.o Ji.o HS.o HT.o H23.o hc hb1 hk hl1) Gm.o Gf.o (by have := HS.o.few; omega) (by
     have := HL.o
     rw [HE.o] at this
     simp only [List.length_cons, List.length_append] at this
     omega))
   clear Gm HC hkv
   rw [k1] at Gj ⊢
   clear k1
   go_enter func68, ntmps68
   go_wp2_with fail
   rw [← Gj.o]
   refine CB.o.mono ?_
   rintro e1 w2 ⟨rfl, hb2, hk2⟩
   go_wp2_with fail
   go_end0
   exact ⟨rfl, by rw [HE.o]; exact hb2, (z8.of0 Ga.o).trans hk2⟩
  ·have HE := qI (write_6 k1)
   have Gn := hkv 6 k1
   have CB := qI (between2_map (n := v.m.length) (b2 := w.heap.size) (b3 := w.heap.size + 1) (it := fun k => (v.m.map (fun p => yr p.1.data.toList ++ (58 :: zo n p.2))).getD k []) (J := vw b w.heap.size (w.heap.size + 1) [.int .i64 v.kind, .int .i64 v.num, .string v.s, .slice a v.l.length c, .slice d v.m.length e])
    (fun _ _ h k => h.kept H23.o.1 H23.o.2 k) (fun k w1 l1 hk hc hb1 hl1 => by
     have e1 : (v.m.map (fun p => yr p.1.data.toList ++ (58 :: zo n p.2))).getD k [] = yr v.m[k].1.data.toList ++ (58 :: zo n v.m[k].2) := by simp [hk]
     simp only [e1] at hl1 ⊢
     exact put2_any IH.o H.o Jh.o Ji.o HS.o HT.o k1 H23.o hc hb1 hk hl1) Gm.o Gf.o (by have := HS.o.few; omega) (by
     have := HL.o
     rw [HE.o] at this
     simp only [List.length_cons, List.length_append] at this
     omega))
   clear Gm HC hkv
   rw [k1] at Gj ⊢
   clear k1
   go_enter func68, ntmps68
   go_wp2_with fail
   rw [← Gj.o]
   refine CB.o.mono ?_
   rintro e1 w2 ⟨rfl, hb2, hk2⟩
   go_wp2_with fail
   go_end0
   exact ⟨rfl, by rw [HE.o]; exact hb2, (z8.of0 Ga.o).trans hk2⟩
theorem put_any : ∀ (n : Nat), bC n
 | 0 => fun v => nomatch v
 | n + 1 => zak (put_any n)
theorem str_bytes (w : World) (s : ByteArray) (hs : s.size ≤ 281474976710656) : ∃ a n c w', (convert 9 28 (.string s)).run Tryz.prog w = .ok (.slice a n c) w' ∧ n = s.data.toList.length ∧ xt w' (.slice a n c) s.data.toList ∧ zb [] w w' := by
 refine ⟨_, _, _, _, run_bytes_of_string w 9 28 5 s underlying9 underlying28 underlying5, by simp, ?_, ?_⟩
 ·have hl : s.data.toList.length = s.size := by simp
  refine ⟨by simp, .inr (.inr ⟨w.heap.size, 0, _, by rw [hl], by rw [hl]; exact grownCap_ge _ _ _ _, grownCap_le_maxLen _ _ _ _ (by simp only [maxLen]; omega), ⟨?_, ?_⟩⟩)⟩
  ·intro j u hu
   rw [List.getElem?_map, Option.map_eq_some_iff] at hu
   obtain ⟨b, hb, rfl⟩ := hu
   obtain ⟨hj, rfl⟩ := List.getElem?_eq_some_iff.1 hb
   have hj' : j < s.data.size := by simpa using hj
   rw [Nat.zero_add]
   refine za (heap_alloc_new _ _) ?_
   rw [bytesRow_at s _ j hj']
   simp [bv]
  ·show w.heap.size < (w.drew.alloc _).heap.size
   simp
 ·exact (zb.refl [] w).drew.alloc _
theorem write_ne {n : Nat} {v : VS (V n)} (h : zj (n + 1) v = true) : zo (n + 1) v ≠ [] := by
 rcases kR (kL h) with k | k | k | k | k | k
 ·rw [write_1 k.1]; simp
 ·rw [write_2 k.1]
  cases (v.num == 1)
  ·rw [fb_false]; simp
  ·rw [fb_true]; simp
 ·rw [write_3 k.1]
  obtain ⟨d, t, e, -⟩ := YX v.num
  rw [e]; simp
 ·rw [write_4 k.1]; simp [yr]
 ·rw [write_5 k.1]; simp
 ·rw [write_6 k.1]; simp
theorem write_ne' {n : Nat} {v : V n} (h : zj n v = true) : zo n v ≠ [] := by
 match n, v, h with
 | 0, v, _ => exact nomatch v
 | n + 1, v, h => exact write_ne h
theorem Kp {n : Nat} {v : V n} (h : zZ n v) : zZ n (zH n v) := ⟨by rw [j8]; exact h.1, by rw [ZD]; exact h.2⟩
theorem write_small {n : Nat} {v : V n} (h : zj n v = true) (hs : zZ n v) : (zo n v).length ≤ 3000000 := by
 have h1 := J4 n v h
 obtain ⟨h2, h3⟩ := hs
 omega
theorem text_any {n : Nat} {v : V n} {S : Nat → Prop} {w : World} {cs : List Value} (h : Rep n S w cs v) (hs : zZ n v) (hn : n ≤ 100) (ht : yK w) (hc : zi n v = 0) :
  Calls Tryz.prog 40 #[.agg cs.toArray] w fun e w' => e = .returned (.string (zg (zo n (zH n v)))) ∧ zb [] w w' := by
 obtain ⟨kd, nm, st, a, ca, ea, b, cb, eb, rfl⟩ := h.conv
 obtain ⟨W0, Ge⟩ : ∃ W0, Hid (W0 = (w.alloc (.cells #[.int .i64 kd, .int .i64 nm, .string st, .slice a ca ea, .slice b cb eb] 25)).alloc (.cells #[.pointer none, .slice none 0 0] 93)) := ⟨_, qI rfl⟩
 have Jd : Hid (W0.heap.size = w.heap.size + 2) := qI (by rw [Ge.o]; simp)
 have Ga : Hid (zb [] w W0) := qI (by rw [Ge.o]; exact ((zb.refl [] w).alloc _).alloc _)
 have Jn : Hid (W0.heap[w.heap.size + 1]? = some (.cells #[.pointer none, .slice none 0 0] 93 (0, 0))) := qI (by
  rw [Ge.o]; exact zn (by simp))
 have CS := qI (Zk (h.kept0 Ga.o) hs hn (ht.kept0 Ga.o) hc)
 have HT := qI ht
 have Gy := qI (Kp hs)
 have HR : Hid (zj n (zH n v) = true) := qI (by rw [Zp]; exact jp hc)
 have Gs := qI (write_small HR.o Gy.o)
 have Je := qI (write_ne' HR.o)
 clear h hs ht hc
 go_enter func40, ntmps40
 go_wp2_with fail
 rw [← Ge.o]
 refine CS.o.mono ?_
 rintro e w1 ⟨⟨cs', rfl, hown⟩, hk1⟩
 have Gx : Hid (BW 93 w1 (w.heap.size + 1) w1 []) := qI (BW.new (hk1.heap Jn.o (by simp)))
 have CP := qI (put_any n (zH n v) (hown.rep.kept0 (zb.refl [] w1)) (fun g hg => by have := Jd.o; omega) HR.o Gy.o ⟨w, HT.o, Ga.o.then hk1, Nat.le_succ _⟩ Gx.o (by have := Gs.o; simp only [List.length_nil]; omega))
 have Gd := qI (Ga.o.then hk1)
 clear hown hk1
 go_wp2_with fail
 refine CP.o.mono ?_
 rintro e w2 ⟨rfl, hb2, -⟩
 rw [List.nil_append] at hb2
 have Gf := qI hb2
 clear hb2
 go_wp2_with (go_at_call 57; refine (jh Gf.o (by have := Gs.o; omega) Je.o).mono ?_; rintro e w3 ⟨rfl, hk3, -⟩)
 go_ret
 exact ⟨rfl, Gd.o.trans hk3 (by intro i hi; simp at hi; subst hi; exact .inr (Nat.le_succ _))⟩
theorem encV_bad {n : Nat} {v : V n} (h : zi n v ≠ 0) : vf n v = ([], zi n v) := if_pos h
theorem encV_long {n : Nat} {v : V n} (h : zi n v = 0) (hl : 262144 < (zo n (zH n v)).length) : vf n v = ([], 3) := by
 unfold vf; rw [if_neg (by simp [h]), if_pos hl]
theorem encV_fine {n : Nat} {v : V n} (h : zi n v = 0) (hl : (zo n (zH n v)).length ≤ 262144) : vf n v = (zo n (zH n v), 0) := by
 unfold vf; rw [if_neg (by simp [h]), if_neg (by omega)]
theorem QP {n : Nat} {v : V n} {S : Nat → Prop} {w : World} {cs : List Value} (h : Rep n S w cs v) (hs : zZ n v) (hn : n ≤ 100) (ht : yK w) :
  Calls Tryz.prog 13 #[.agg cs.toArray] w fun e w' => (∃ a c, e = .returned (.tuple #[.slice a (vf n v).1.length c, .int .i64 (vf n v).2]) ∧ xt w' (.slice a (vf n v).1.length c) (vf n v).1) ∧ zb [] w w' := by
 obtain ⟨kd, nm, st, a, ca, ea, b, cb, eb, rfl⟩ := h.conv
 obtain ⟨W0, Ge⟩ : ∃ W0, Hid (W0 = w.alloc (.cells #[.int .i64 kd, .int .i64 nm, .string st, .slice a ca ea, .slice b cb eb] 25)) := ⟨_, qI rfl⟩
 have Ga : Hid (zb [] w W0) := qI (by rw [Ge.o]; exact (zb.refl [] w).alloc _)
 have Gz : Hid (z6 W0 w.heap.size kd nm st (.slice a ca ea) (.slice b cb eb)) := qI (by rw [Ge.o]; exact yb _ _ _ _ _ _ _)
 have CC := qI (xn (h.kept0 Ga.o) hs hn (ht.kept0 Ga.o))
 have CT : Hid (∀ w1, zb [] W0 w1 → zi n v = 0 → _) := qI (fun w1 (k : zb [] W0 w1) (hc : zi n v = 0) => text_any ((h.kept0 Ga.o).kept0 k) hs hn ((ht.kept0 Ga.o).kept0 k) hc)
 clear h hs ht
 by_cases hc : zi n v = 0
 rotate_left
 ·have HE := qI (encV_bad hc)
  have Jt : Hid (zi n v ≠ 0) := qI hc
  obtain ⟨f1, f2⟩ := zt hc
  clear hc
  go_enter func13, ntmps13
  go_wp2_with fail
  rw [← Ge.o]
  refine CC.o.mono ?_
  rintro e w1 ⟨rfl, hk1⟩
  go_wp2_with fail
  go_ret2
  rw [HE.o]
  exact ⟨⟨_, _, rfl, jt _ _⟩, Ga.o.then hk1⟩
 have HC := qI hc
 clear hc
 by_cases hl : 262144 < (zo n (zH n v)).length
 ·have HE := qI (encV_long HC.o hl)
  have hlI : (262144 : Int) < (zo n (zH n v)).length := by omega
  go_enter func13, ntmps13
  go_wp2_with fail
  rw [← Ge.o]
  refine CC.o.mono ?_
  rintro e w1 ⟨rfl, hk1⟩
  rw [HC.o]
  obtain ⟨c0, c1, c2, c3, c4⟩ := Gz.o.kept0 hk1
  have Gd := qI hk1
  have Ja : Hid ((zg (zo n (zH n v))).size = (zo n (zH n v)).length) := qI (zK _)
  clear hk1
  go_wp2_with fail
  refine (CT.o _ Gd.o HC.o).mono ?_
  rintro e w2 ⟨rfl, hk2⟩
  have Gb := qI hk2
  have hsb := Ja.o
  revert hsb
  generalize zg (zo n (zH n v)) = T
  intro hsb
  have hsI : (262144 : Int) < T.size := by omega
  clear hsb hk2 c0 c1 c2 c3 c4 hl hlI
  go_wp2_with fail
  go_ret2
  rw [HE.o]
  exact ⟨⟨_, _, rfl, jt _ _⟩, (Ga.o.then Gd.o).then Gb.o⟩
 ·have HE := qI (encV_fine HC.o (by omega))
  go_enter func13, ntmps13
  go_wp2_with fail
  rw [← Ge.o]
  refine CC.o.mono ?_
  rintro e w1 ⟨rfl, hk1⟩
  rw [HC.o]
  obtain ⟨c0, c1, c2, c3, c4⟩ := Gz.o.kept0 hk1
  have Gd := qI hk1
  have Ja : Hid ((zg (zo n (zH n v))).size = (zo n (zH n v)).length ∧ (zg (zo n (zH n v))).data.toList = zo n (zH n v)) := qI ⟨zK _, zq _⟩
  clear hk1
  go_wp2_with fail
  refine (CT.o _ Gd.o HC.o).mono ?_
  rintro e w2 ⟨rfl, hk2⟩
  have Gb := qI hk2
  have hsb := Ja.o.1
  obtain ⟨a2, n2, c2', w3, hrun, hn2, hb3, hk3⟩ := str_bytes w2 (zg (zo n (zH n v))) (by omega)
  rw [Ja.o.2] at hn2 hb3
  subst hn2
  have Gl := qI hb3
  have Gi := qI hk3
  revert hsb hrun
  generalize zg (zo n (zH n v)) = T
  intro hsb hrun
  have hsI : (T.size : Int) ≤ 262144 := by omega
  clear hsb hk2 hk3 hb3 c0 c1 c2 c3 c4 hl
  go_wp2_with fail
  go_ret2
  rw [HE.o]
  exact ⟨⟨_, _, rfl, Gl.o⟩, ((Ga.o.then Gd.o).then Gb.o).then Gi.o⟩
def sizeV (n : Nat) (v : V n) : Nat := if zi n v = 0 then (zo n (zH n v)).length else 0
theorem size_any {n : Nat} {v : V n} {S : Nat → Prop} {w : World} {cs : List Value} (h : Rep n S w cs v) (hs : zZ n v) (hn : n ≤ 100) (ht : yK w) :
  Calls Tryz.prog 16 #[.agg cs.toArray] w fun e w' => e = .returned (.int .i64 (sizeV n v)) ∧ zb [] w w' := by
 obtain ⟨kd, nm, st, a, ca, ea, b, cb, eb, rfl⟩ := h.conv
 obtain ⟨W0, Ge⟩ : ∃ W0, Hid (W0 = w.alloc (.cells #[.int .i64 kd, .int .i64 nm, .string st, .slice a ca ea, .slice b cb eb] 25)) := ⟨_, qI rfl⟩
 have Ga : Hid (zb [] w W0) := qI (by rw [Ge.o]; exact (zb.refl [] w).alloc _)
 have Gz : Hid (z6 W0 w.heap.size kd nm st (.slice a ca ea) (.slice b cb eb)) := qI (by rw [Ge.o]; exact yb _ _ _ _ _ _ _)
 have CC := qI (xn (h.kept0 Ga.o) hs hn (ht.kept0 Ga.o))
 have CT : Hid (∀ w1, zb [] W0 w1 → zi n v = 0 → _) := qI (fun w1 (k : zb [] W0 w1) (hc : zi n v = 0) => text_any ((h.kept0 Ga.o).kept0 k) hs hn ((ht.kept0 Ga.o).kept0 k) hc)
 clear h hs ht
 by_cases hc : zi n v = 0
 rotate_left
 ·have HE : Hid (sizeV n v = 0) := qI (if_neg hc)
  obtain ⟨f1, f2⟩ := zt hc
  clear hc
  go_enter func16, ntmps16
  go_wp2_with fail
  rw [← Ge.o]
  refine CC.o.mono ?_
  rintro e w1 ⟨rfl, hk1⟩
  go_wp2_with fail
  go_ret
  rw [HE.o]
  exact ⟨rfl, Ga.o.then hk1⟩
 have HE : Hid (sizeV n v = (zg (zo n (zH n v))).size) := qI (by rw [zK]; exact if_pos hc)
 have HC := qI hc
 clear hc
 go_enter func16, ntmps16
 go_wp2_with fail
 rw [← Ge.o]
 refine CC.o.mono ?_
 rintro e w1 ⟨rfl, hk1⟩
 rw [HC.o]
 obtain ⟨c0, c1, c2, c3, c4⟩ := Gz.o.kept0 hk1
 have Gd := qI hk1
 clear hk1
 go_wp2_with fail
 refine (CT.o _ Gd.o HC.o).mono ?_
 rintro e w2 ⟨rfl, hk2⟩
 go_wp2_with fail
 go_ret
 rw [HE.o]
 exact ⟨rfl, (Ga.o.then Gd.o).then hk2⟩
def Y7 (n : Nat) (a b : V n) : Bool := decide (zi n a = 0) && (decide (zi n b = 0) && eqV n (zH n a) (zH n b))
theorem same_a {n : Nat} {a b : V n} (h : zi n a ≠ 0) : Y7 n a b = false := by unfold Y7; rw [decide_eq_false h]; rfl
theorem same_b {n : Nat} {a b : V n} (h : zi n b ≠ 0) : Y7 n a b = false := by unfold Y7; rw [decide_eq_false h, Bool.false_and, Bool.and_false]
theorem same_c {n : Nat} {a b : V n} (h : zi n a = 0) (h' : zi n b = 0) : Y7 n a b = eqV n (zH n a) (zH n b) := by unfold Y7; rw [decide_eq_true h, decide_eq_true h', Bool.true_and, Bool.true_and]
theorem yS.said {n : Nat} {B : Nat} {w : World} {cs : List Value} {v : V n} (h : yS n B w cs v) : ∃ k m s p i c q j d, cs = [.int .i64 k, .int .i64 m, .string s, .slice p i c, .slice q j d] := h.rep.conv
section
variable {n : Nat} {va vb : V n} {S T : Nat → Prop} {w : World} {ca cb : List Value}
theorem valSame_any (h : Rep n S w ca va) (h' : Rep n T w cb vb) (hs : zZ n va) (hs' : zZ n vb) (hn : n ≤ 100) (ht : yK w) :
  Calls Tryz.prog 73 #[.agg ca.toArray, .agg cb.toArray] w fun e w' => e = .returned (.bool (Y7 n va vb)) ∧ zb [] w w' := by
 obtain ⟨kd, nm, st, a, la, ea, b, lb, eb, rfl⟩ := h.conv
 obtain ⟨kd', nm', st', a', la', ea', b', lb', eb', rfl⟩ := h'.conv
 obtain ⟨W0, Ge⟩ : ∃ W0, Hid (W0 = (w.alloc (.cells #[.int .i64 kd, .int .i64 nm, .string st, .slice a la ea, .slice b lb eb] 25)).alloc (.cells #[.int .i64 kd', .int .i64 nm', .string st', .slice a' la' ea', .slice b' lb' eb'] 25)) := ⟨_, qI rfl⟩
 have Ga : Hid (zb [] w W0) := qI (by rw [Ge.o]; exact ((zb.refl [] w).alloc _).alloc _)
 have HA : Hid (z6 W0 w.heap.size kd nm st (.slice a la ea) (.slice b lb eb)) := qI (by rw [Ge.o]; exact (yb _ _ _ _ _ _ _).kept0 ((zb.refl [] _).alloc _))
 have HB : Hid (z6 W0 (w.heap.size + 1) kd' nm' st' (.slice a' la' ea') (.slice b' lb' eb')) := qI (by rw [Ge.o]; exact ql (by simp) _ _ _ _ _ _)
 have CA : Hid (∀ w1, zb [] W0 w1 → _) := qI (fun w1 (k : zb [] W0 w1) => xn ((h.kept0 Ga.o).kept0 k) hs hn ((ht.kept0 Ga.o).kept0 k))
 have CB : Hid (∀ w1, zb [] W0 w1 → _) := qI (fun w1 (k : zb [] W0 w1) => xn ((h'.kept0 Ga.o).kept0 k) hs' hn ((ht.kept0 Ga.o).kept0 k))
 have SA : Hid (∀ w1, zb [] W0 w1 → zj n va = true → _) := qI (fun w1 (k : zb [] W0 w1) (hr : zj n va = true) => Zx n va ((h.kept0 Ga.o).kept0 k) hs hr)
 have SB : Hid (∀ w1, zb [] W0 w1 → zj n vb = true → _) := qI (fun w1 (k : zb [] W0 w1) (hr : zj n vb = true) => Zx n vb ((h'.kept0 Ga.o).kept0 k) hs' hr)
 have Gy := qI (Kp hs)
 have hA0 := HA.o
 rw [Ge.o] at hA0
 obtain ⟨a0, a1, a2, a3, a4⟩ := hA0
 clear h h' hs hs' ht
 go_enter func73, ntmps73
 go_wp2_with fail
 rw [← Ge.o]
 clear a0 a1 a2 a3 a4
 refine (CA.o _ (zb.refl _ _)).mono ?_
 rintro e w1 ⟨rfl, hk1⟩
 have Gd := qI hk1
 obtain ⟨b0, b1, b2, b3, b4⟩ := HB.o.kept0 hk1
 clear hk1
 by_cases hca : zi n va = 0
 rotate_left
 ·have HR := qI (same_a (b := vb) hca)
  obtain ⟨f1, f2⟩ := zt hca
  clear hca
  go_wp2_with fail
  go_ret
  rw [HR.o]
  exact ⟨rfl, Ga.o.then Gd.o⟩
 have Jj := qI hca
 rw [hca]
 clear hca
 go_wp2_with fail
 refine (CB.o _ Gd.o).mono ?_
 rintro e w2 ⟨rfl, hk2⟩
 have Gb := qI (Gd.o.then hk2)
 clear hk2 b0 b1 b2 b3 b4
 by_cases hcb : zi n vb = 0
 rotate_left
 ·have HR := qI (same_b (a := va) hcb)
  obtain ⟨f1, f2⟩ := zt hcb
  clear hcb
  go_wp2_with fail
  go_ret
  rw [HR.o]
  exact ⟨rfl, Ga.o.then Gb.o⟩
 have HR := qI (same_c Jj.o hcb)
 have Jo := qI hcb
 rw [hcb]
 clear hcb
 obtain ⟨a0, a1, a2, a3, a4⟩ := HA.o.kept0 Gb.o
 obtain ⟨b0, b1, b2, b3, b4⟩ := HB.o.kept0 Gb.o
 go_wp2_with fail
 refine zk (n := 6) (fun w' : World => zb [] w2 w') 6 (by kernel_rfl) (by kernel_rfl) ?_
 change zR _ _ _ _ _ _ _ _ _ w2.drew
 have hSS : (fun w' : World => zb [] w2 w') w2.drew := (zb.refl [] w2).drew
 revert hSS
 generalize w2.drew = W1
 intro hSS
 refine zx ?_
 intro O R hO hR
 have hQp : ∀ c a (d : Nat) v w, R (.panic c) (a.put (some d) v) w → R (.panic c) a w := by subst hR; exact fun _ _ _ _ _ h => h
 refine qT 0 ?_ hO rfl rfl (by kernel_rfl) hQp (fun w hSw => ?_) hSS ?_
 rotate_left
 ·have s0 := hSw.cell a0 (by simp); have s1 := hSw.cell a1 (by simp); have s2 := hSw.cell a2 (by simp); have s3 := hSw.cell a3 (by simp); have s4 := hSw.cell a4 (by simp); go_simp; try with_reducible rfl
 try simp only [zA,zN,zB,zC,zD]
 refine qT 2 ?_ hO rfl rfl (by kernel_rfl) hQp (fun w hSw => ?_) hSS ?_
 rotate_left
 ·have s0 := hSw.cell b0 (by simp); have s1 := hSw.cell b1 (by simp); have s2 := hSw.cell b2 (by simp); have s3 := hSw.cell b3 (by simp); have s4 := hSw.cell b4 (by simp); go_simp; try with_reducible rfl
 try simp only [zA,zN,zB,zC,zD]
 refine qO 1 hO rfl (by kernel_rfl) (fun K hK => ?_)
 go_simp
 refine Calls.mono (SA.o _ (Gb.o.then hSS) (jp Jj.o)) ?_
 rintro e w3 ⟨⟨cs3, rfl, ho3⟩, hk3⟩
 obtain ⟨k3, m3, s3, p3, i3, c3, q3, j3, d3, rfl⟩ := ho3.said
 have Jp := qI ho3
 have hS1 : (fun w' : World => zb [] w2 w') w3 := hSS.then hk3
 refine hK _ _ (.inr hS1) ?_
 clear hK K
 try simp only [zA,zN,zB,zC,zD]
 clear hSS hk3 ho3
 have hSS := hS1
 clear hS1
 refine qO 3 hO rfl (by kernel_rfl) (fun K hK => ?_)
 go_simp
 refine Calls.mono (SB.o _ (Gb.o.then hSS) (jp Jo.o)) ?_
 rintro e w4 ⟨⟨cs4, rfl, ho4⟩, hk4⟩
 obtain ⟨k4, m4, s4, p4, i4, c4, q4, j4, d4, rfl⟩ := ho4.said
 have CE := qI (JP n (zH n va) (zH n vb) (Jp.o.rep.kept0 hk4) ho4.rep Gy.o)
 have hS1 : (fun w' : World => zb [] w2 w') w4 := hSS.then hk4
 refine hK _ _ (.inr hS1) ?_
 clear hK K
 try simp only [zA,zN,zB,zC,zD]
 clear hSS hk4 ho4
 have hSS := hS1
 clear hS1
 refine qO 4 hO rfl (by kernel_rfl) (fun K hK => ?_)
 go_simp
 refine Calls.mono CE.o ?_
 rintro e w5 ⟨rfl, hk5⟩
 have hS1 : (fun w' : World => zb [] w2 w') w5 := hSS.then hk5
 refine hK _ _ (.inr hS1) ?_
 clear hK K
 try simp only [zA,zN,zB,zC,zD]
 clear hSS hk5
 have hSS := hS1
 refine qT 5 ?_ hO rfl rfl (by kernel_rfl) hQp (fun w hSw => ?_) hSS ?_
 rotate_left
 ·go_simp; try with_reducible rfl
 try simp only [zA,zN,zB,zC,zD]
 refine zv hO (by kernel_rfl) ?_ _
 subst hR
 try clear hQp hO O
 clear a0 a1 a2 a3 a4 b0 b1 b2 b3 b4
 go_wp2_with fail
 go_ret
 rw [HR.o]
 exact ⟨rfl, (Ga.o.then Gb.o).then hS1⟩
end
theorem qX {l : List UInt8} (h : qv l = none) : kv l = -1 := by unfold kv; rw [h]
theorem Zr {l : List UInt8} {n : Nat} (h : qv l = some n) : kv l = n := by unfold kv; rw [h]
theorem four_not {x y a b c d : UInt8} {r : List UInt8} (h : ¬ (x = 92 ∧ y = 117)) : qv (x :: y :: a :: b :: c :: d :: r) = none := if_neg h
theorem four_is {a b c d : UInt8} {r : List UInt8} : qv (92 :: 117 :: a :: b :: c :: d :: r) = JH a b c d := by
 show (if (92 : UInt8) = 92 ∧ (117 : UInt8) = 117 then JH a b c d else none) = _
 exact if_pos ⟨rfl, rfl⟩
theorem rune_join (x y : Nat) (hx : x < 256) (hy : y < 256) : bits .or .i32 ((x : Int) * 256) (y : Int) = ((x * 256 + y : Nat) : Int) := by
 rw [bits_join .i32 17 (by decide) (fun n h0 h1 => by rw [IntKind.wrap_i32]; omega) 8 _ _ (by omega) (by omega) (by omega) (by omega) (by omega) (by omega)]
 omega
theorem map_len (f : Int → Int) : ∀ (n : Nat) (l : List UInt8), (Lib.mapGoD f n l).length ≤ 4 * n
 | 0, _ => Nat.le_refl _
 | n + 1, l => by
  unfold Lib.mapGoD
  by_cases h : l = []
  ·rw [if_pos h]; simp
  ·rw [if_neg h, List.length_append]
   have ih := map_len f n (l.drop (Lib.decodeL l).2)
   have h4 : (if 0 ≤ f (Lib.decodeL l).1 then Lib.encodeRune (f (Lib.decodeL l).1) else []).length ≤ 4 := by
    split
    ·unfold Lib.encodeRune
     rw [List.length_map]
     exact (Lib.encodeRuneZ_length _).2
    ·simp
   omega
theorem lower_four (a b c d : UInt8) : (Lib.toLowerD [a, b, c, d]).length ≤ 1000000 := by
 have h := map_len Lib.toLowerU 4 [a, b, c, d]
 unfold Lib.toLowerD Lib.mapD
 exact Nat.le_trans h (by decide)
theorem four_any {w : World} (ht : yK w) (s : ByteArray) (hs : s.size ≤ 262144) :
  Calls Tryz.prog 249 #[.string s] w fun e w' => e = .returned (.int .i32 (kv s.data.toList)) ∧ zb [] w w' := by
 have HL : Hid (s.data.toList.length = s.size) := qI (by simp)
 by_cases h6 : s.size < 6
 ·have h6I : (s.size : Int) < 6 := by omega
  have HZ := qI (qX (four_short (by rw [HL.o]; exact h6)))
  clear ht h6
  go_enter func249, ntmps249
  go_wp2_with fail
  go_ret
  rw [HZ.o]
  exact ⟨rfl, zb.refl _ _⟩
 obtain ⟨x, y, a, b, c, d, r, hl⟩ := six_of (l := s.data.toList) (by rw [HL.o]; omega)
 have h6I : (6 : Int) ≤ s.size := by omega
 have hx : s[0]'(by omega) = x := by
  show s.data.toList[0]'_ = x
  simp only [hl]; rfl
 have hy : s[1]'(by omega) = y := by
  show s.data.toList[1]'_ = y
  simp only [hl]; rfl
 have Jk : Hid (s.extract 2 6 = zg [a, b, c, d]) := qI (qR (by
  rw [bq s 2 6 (by omega), hl, zq]
  rfl))
 have Ju := qI hl
 rw [hl]
 by_cases hx9 : x = 92
 rotate_left
 ·have HZ := qI (qX (four_not (x := x) (y := y) (a := a) (b := b) (c := c) (d := d) (r := r) (fun q => hx9 q.1)))
  have hn : x.toNat ≠ 92 := fun q => hx9 (UInt8.toNat_inj.1 q)
  obtain ⟨f1, f2⟩ := zt (a := (x.toNat : Int)) (b := 92) (by omega)
  clear ht hl hx9 hn hy
  go_enter func249, ntmps249
  go_wp2_with fail
  go_ret
  rw [HZ.o]
  exact ⟨rfl, zb.refl _ _⟩
 subst hx9
 by_cases hy1 : y = 117
 rotate_left
 ·have HZ := qI (qX (four_not (x := 92) (y := y) (a := a) (b := b) (c := c) (d := d) (r := r) (fun q => hy1 q.2)))
  have hn : y.toNat ≠ 117 := fun q => hy1 (UInt8.toNat_inj.1 q)
  obtain ⟨f1, f2⟩ := zt (a := (y.toNat : Int)) (b := 117) (by omega)
  clear ht hl hy1 hn
  go_enter func249, ntmps249
  go_wp2_with fail
  go_ret
  rw [HZ.o]
  exact ⟨rfl, zb.refl _ _⟩
 subst hy1
 have CL := qI (libToLower ht (zg [a, b, c, d]) (by rw [zK]; simp))
 rw [zq] at CL
 rcases four_low a b c d with ⟨n, h1, h2, h3, h4, h5⟩ | ⟨h1, h2⟩
 ·have HZ : Hid (kv (92 :: 117 :: a :: b :: c :: d :: r) = n) := qI (Zr (four_is.trans h1))
  rw [h3] at CL
  have CU : Hid (∀ w', _) := qI (fun w' => unhex_yes (zg [yY a, yY b, yY c, yY d]) (by rw [zK]; simp) (by rw [zK]; simp) (by rw [zq]; exact h4) w')
  rw [zq] at CU
  have HP : Hid (xB [yY a, yY b, yY c, yY d] = [UInt8.ofNat (hv (yY a) * 16 + hv (yY b)), UInt8.ofNat (hv (yY c) * 16 + hv (yY d))]) := qI rfl
  simp only [List.all_cons, List.all_nil, Bool.and_true, Bool.and_eq_true] at h4
  obtain ⟨g1, g2, g3, g4⟩ := h4
  have q1 := (yF _ g1).2.1
  have q2 := (yF _ g2).2.1
  have q3 := (yF _ g3).2.1
  have q4 := (yF _ g4).2.1
  have HN : Hid ((UInt8.ofNat (hv (yY a) * 16 + hv (yY b))).toNat * 256 + (UInt8.ofNat (hv (yY c) * 16 + hv (yY d))).toNat = n) := qI (by
   rw [UInt8.toNat_ofNat', UInt8.toNat_ofNat', Nat.mod_eq_of_lt (by omega), Nat.mod_eq_of_lt (by omega), h5])
  clear h1 h2 h3 h5 g1 g2 g3 g4 q1 q2 q3 q4 hl ht
  rw [HP.o] at CU
  revert CU HN
  generalize UInt8.ofNat (hv (yY a) * 16 + hv (yY b)) = b0
  generalize UInt8.ofNat (hv (yY c) * 16 + hv (yY d)) = b1
  intro CU HN
  go_enter func249, ntmps249
  go_wp2_with fail
  rw [Jk.o]
  refine CL.o.mono ?_
  rintro e w1 ⟨rfl, hk1⟩
  have Gd := qI hk1
  clear hk1
  go_wp2_with fail
  refine (CU.o _).mono ?_
  rintro e w2 ⟨⟨a5, c5, rfl, hown⟩, hk2⟩
  have Gb := qI (Gd.o.then hk2)
  have hby : xt w2 (.slice a5 [b0, b1].length c5) [b0, b1] := Slc.of_row hown
  obtain ⟨g, o, rfl, e0⟩ := xt.at hby (k := 0) (by simp)
  obtain ⟨g', o', hs', e1⟩ := xt.at hby (k := 1) (by simp)
  simp only [Option.some.injEq, Addr.mk.injEq, and_true] at hs'
  obtain ⟨rfl, rfl⟩ := hs'
  clear hby hown hk2
  have e0 : w2.cell? ⟨g, o, none⟩ = some (.int .u8 b0.toNat) := e0
  have e1 : w2.cell? ⟨g, o + 1, none⟩ = some (.int .u8 b1.toNat) := e1
  have E0 := zu e0
  have E1 := zu e1
  have r0 : (b0.toNat : Int) ≤ 255 := by have := b0.toNat_lt; omega
  have r1 : (b1.toNat : Int) ≤ 255 := by have := b1.toNat_lt; omega
  rw [show ([b0, b1] : List UInt8).length = 2 from rfl]
  go_wp2_with fail
  refine yd w2 (by kernel_rfl) (by kernel_rfl) (zb.refl _ _) ?_
  clear e0 e1
  repeat go_big_quiet_step (fail)
  refine wpQuiet_nil ?_
  intro w3 hk3
  clear E0 E1
  go_wp2_with fail
  go_ret
  rw [HZ.o, ← HN.o, ← rune_join _ _ b0.toNat_lt b1.toNat_lt]
  exact ⟨rfl, Gb.o.then hk3⟩
 ·have HZ : Hid (kv (92 :: 117 :: a :: b :: c :: d :: r) = -1) := qI (qX (four_is.trans h1))
  have CU : Hid (∀ w', _) := qI (fun w' => unhex_no (zg (Lib.toLowerD [a, b, c, d])) (by rw [zK]; exact lower_four a b c d) (.inr (by rw [zq]; exact h2)) w')
  clear h1 h2 hl ht
  go_enter func249, ntmps249
  go_wp2_with fail
  rw [Jk.o]
  refine CL.o.mono ?_
  rintro e w1 ⟨rfl, hk1⟩
  have Gd := qI hk1
  clear hk1
  go_wp2_with fail
  refine (CU.o _).mono ?_
  rintro e w2 ⟨rfl, hk2⟩
  go_wp2_with fail
  go_ret
  rw [HZ.o]
  exact ⟨rfl, Gd.o.then hk2⟩
def ZF (s : List UInt8) (e : Ending) : Prop :=
 match ja s with
 | none => e = .returned (.tuple #[.int .i32 0, .int .i64 0])
 | some (b, n) => ∃ m : Nat, bf m ∧ yh m = b ∧ e = .returned (.tuple #[.int .i32 m, .int .i64 n])
theorem bA {s : List UInt8} (h : ja s = none) : ZF s (.returned (.tuple #[.int .i32 0, .int .i64 0])) := by unfold ZF; rw [h]
theorem br {s b : List UInt8} {n m : Nat} (h : ja s = some (b, n)) (h1 : bf m) (h2 : yh m = b) : ZF s (.returned (.tuple #[.int .i32 m, .int .i64 n])) := by unfold ZF; rw [h]; exact ⟨m, h1, h2, rfl⟩
theorem fourZ_lt (l : List UInt8) : -1 ≤ kv l ∧ kv l < 65536 := by
 unfold kv
 cases h : qv l with
 | none => simp
 | some n => have := (qY h).1; simp; omega
theorem K4 (m : Nat) (h : bf m) : Lib.validRune (m : Int) = true := by
 unfold bf at h
 unfold Lib.validRune
 simp
 omega
theorem QK (m : Nat) (h1 : 55296 ≤ m) (h2 : m ≤ 57343) : Lib.validRune (m : Int) = false := by
 unfold Lib.validRune
 simp
 omega
theorem two_of {l : List UInt8} (h : 2 ≤ l.length) : ∃ x y r, l = x :: y :: r := by
 match l, h with
 | x :: y :: r, _ => exact ⟨x, y, r, rfl⟩
theorem esc_short {l : List UInt8} (h : l.length < 2) : ja l = none := by
 match l, h with
 | [], _ => rfl
 | [_], _ => rfl
 | _ :: _ :: _, h => simp only [List.length_cons] at h; omega
theorem escape_any {w : World} (ht : yK w) (s : ByteArray) (hs : s.size ≤ 262144) :
  Calls Tryz.prog 225 #[.string s] w fun e w' => ZF s.data.toList e ∧ zb [] w w' := by
 have HL : Hid (s.data.toList.length = s.size) := qI (by simp)
 by_cases h2 : s.size < 2
 ·have h2I : (s.size : Int) < 2 := by omega
  have HZ := qI (bA (esc_short (by rw [HL.o]; exact h2)))
  clear ht h2
  go_enter func225, ntmps225
  go_wp2_with fail
  go_ret2
  exact ⟨HZ.o, zb.refl _ _⟩
 obtain ⟨x, y, r, hl⟩ := two_of (l := s.data.toList) (by rw [HL.o]; omega)
 have h2I : (2 : Int) ≤ s.size := by omega
 have hy : s[1]'(by omega) = y := by
  show s.data.toList[1]'_ = y
  simp only [hl]; rfl
 have CI : Hid (∀ w', _) := qI (fun w' => qa ⟨#[34, 92, 47, 98, 102, 110, 114, 116]⟩ (y.toNat : Int) w')
 rw [show ((y.toNat : Int)).toNat.toUInt8 = y by simp, show (⟨#[34, 92, 47, 98, 102, 110, 114, 116]⟩ : ByteArray).data.toList = ZM from rfl] at CI
 have CF := qI (four_any ht s hs)
 rw [hl] at CF ⊢
 rcases J1 y with ⟨k, e, hk, h1, h3, h4, h5⟩ | ⟨h1, h5⟩
 ·have HZ : Hid (ZF (x :: y :: r) (.returned (.tuple #[.int .i32 e.toNat, .int .i64 2]))) := qI (br (h5 x r) (.inl (by omega)) (Q9 e h4))
  have hkI : (k : Int) < 8 := by omega
  have he : (⟨#[34, 92, 47, 8, 12, 10, 13, 9]⟩ : ByteArray)[k]'hk = e := by
   have h6 : escapedL[k]'(by exact hk) = e := (List.getElem_eq_iff (by exact hk)).2 h3
   exact h6
  have he4 : (e.toNat : Int) < 128 := by omega
  rw [h1] at CI
  clear ht hl h1 h3 h5 h4 CF
  go_enter func225, ntmps225
  go_wp2_with (go_at_call 116; refine (CI.o _).mono ?_; rintro e1 w1 ⟨rfl, rfl⟩)
  go_ret2
  exact ⟨HZ.o, zb.refl _ _⟩
 ·rw [h1] at CI
  have h5' := h5 x r
  clear h5 h1
  cases h6 : qv (x :: y :: r) with
  | none =>
   rw [h6] at h5'
   have HZ := qI (bA h5')
   rw [qX h6] at CF
   clear ht hl h5' h6
   go_enter func225, ntmps225
   go_wp2_with (first
    | (go_at_call 116; refine (CI.o _).mono ?_; rintro e1 w1 ⟨rfl, rfl⟩)
    | (go_at_call 249; refine CF.o.mono ?_; rintro e2 w2 ⟨rfl, hk2⟩))
   go_ret2
   exact ⟨HZ.o, hk2⟩
  | some z =>
   rw [h6] at h5'
   simp only at h5'
   rw [Zr h6] at CF
   have hz := (qY h6).1
   have hz6 : 6 ≤ s.size := by
    have := (qY h6).2
    rw [← hl, HL.o] at this
    exact this
   have hzI : (z : Int) < 65536 := by omega
   by_cases h7 : z < 55296 ∨ 57343 < z
   ·rw [if_pos h7] at h5'
    have hm : bf z := by unfold bf; omega
    have HZ := qI (br h5' hm rfl)
    have CV : Hid (∀ w', _) := qI (fun w' => YA (z : Int) w')
    rw [K4 z hm] at CV
    clear ht hl h5' h6 h7 hm hz hzI
    go_enter func225, ntmps225
    go_wp2_with (first
     | (go_at_call 116; refine (CI.o _).mono ?_; rintro e1 w1 ⟨rfl, rfl⟩)
     | (go_at_call 249; refine CF.o.mono ?_; rintro e2 w2 ⟨rfl, hk2⟩)
     | (go_at_call 248; refine (CV.o _).mono ?_; rintro e3 w3 ⟨rfl, rfl⟩))
    go_ret2
    exact ⟨HZ.o, hk2⟩
   ·rw [if_neg h7] at h5'
    have CV : Hid (∀ w', _) := qI (fun w' => YA (z : Int) w')
    rw [QK z (by omega) (by omega)] at CV
    have CF2 : Hid (∀ w', zb [] w w' → _) := qI (fun w' (k : zb [] w w') => four_any (ht.kept0 k) (s.extract 6 s.size) (by
     have h9 : (s.extract 6 s.size).data.toList.length = (s.extract 6 s.size).size := by simp
     rw [jX, List.length_drop, HL.o] at h9
     omega))
    rw [jX, hl] at CF2
    have hz1 : 55296 ≤ z ∧ z ≤ 57343 := by omega
    have hz6I : (6 : Int) ≤ s.size := by omega
    have HR := fourZ_lt ((x :: y :: r).drop 6)
    have HF : Hid ((∃ t : Nat, qv ((x :: y :: r).drop 6) = some t ∧ kv ((x :: y :: r).drop 6) = t) ∨ (qv ((x :: y :: r).drop 6) = none ∧ kv ((x :: y :: r).drop 6) = -1)) := qI (by
     cases h8 : qv ((x :: y :: r).drop 6) with
     | none => exact .inr ⟨rfl, qX h8⟩
     | some t => exact .inl ⟨t, rfl, Zr h8⟩)
    by_cases h9 : z ≤ 56319 ∧ 56320 ≤ kv ((x :: y :: r).drop 6) ∧ kv ((x :: y :: r).drop 6) ≤ 57343
    ·obtain ⟨a1, a2, a3⟩ := h9
     obtain ⟨t, t1, t2⟩ : ∃ t : Nat, qv ((x :: y :: r).drop 6) = some t ∧ kv ((x :: y :: r).drop 6) = t := by
      rcases HF.o with h | h
      ·exact h
      ·rw [h.2] at a2; omega
     rw [if_neg (by omega), t1] at h5'
     simp only at h5'
     rw [t2] at a2 a3 CF2
     rw [if_pos (by omega)] at h5'
     have HZ := qI (br h5' (by unfold bf; omega) rfl)
     have CP : Hid (∀ w', _) := qI (fun w' => pair_yes (z : Int) (t : Int) (by omega) (by omega) (by omega) (by omega) w')
     have HE : Hid (65536 + ((z : Int) - 55296) * 1024 + ((t : Int) - 56320) = ((65536 + (z - 55296) * 1024 + (t - 56320) : Nat) : Int)) := qI (by omega)
     rw [HE.o] at CP
     clear ht hl h5' h6 h7 HR HF t1 t2 a1 a2 a3 hz1 hz hzI
     revert CP HZ
     generalize 65536 + (z - 55296) * 1024 + (t - 56320) = Z
     intro HZ CP
     go_enter func225, ntmps225
     go_wp2_with fail
     refine (CI.o _).mono ?_; rintro e1 w1 ⟨rfl, rfl⟩
     go_wp2_with fail
     refine CF.o.mono ?_; rintro e2 w2 ⟨rfl, hk2⟩
     have Gb := qI hk2
     clear hk2
     go_wp2_with fail
     refine (CV.o _).mono ?_; rintro e3 w3 ⟨rfl, rfl⟩
     go_wp2_with fail
     refine (CF2.o _ Gb.o).mono ?_; rintro e4 w4 ⟨rfl, hk4⟩
     go_wp2_with fail
     refine (CP.o _).mono ?_; rintro e5 w5 ⟨rfl, rfl⟩
     go_wp2_with fail
     go_ret2
     exact ⟨HZ.o, Gb.o.then hk4⟩
    ·have h5n : ja (x :: y :: r) = none := by
      rw [h5']
      split
      ·rfl
      rcases HF.o with ⟨t, t1, t2⟩ | ⟨t1, t2⟩
      ·rw [t1]
       simp only
       rw [t2] at h9
       exact if_neg (by omega)
      ·rw [t1]
     have HZ := qI (bA h5n)
     have CP : Hid (∀ w', _) := qI (fun w' => pair_no (z : Int) (kv ((x :: y :: r).drop 6)) (by omega) (by omega) (by omega) w')
     clear ht hl h5' h6 h7 HR HF hz1 h5n h9 hz hzI
     revert CP CF2
     generalize kv ((x :: y :: r).drop 6) = Z
     intro CF2 CP
     go_enter func225, ntmps225
     go_wp2_with fail
     refine (CI.o _).mono ?_; rintro e1 w1 ⟨rfl, rfl⟩
     go_wp2_with fail
     refine CF.o.mono ?_; rintro e2 w2 ⟨rfl, hk2⟩
     have Gb := qI hk2
     clear hk2
     go_wp2_with fail
     refine (CV.o _).mono ?_; rintro e3 w3 ⟨rfl, rfl⟩
     go_wp2_with fail
     refine (CF2.o _ Gb.o).mono ?_; rintro e4 w4 ⟨rfl, hk4⟩
     go_wp2_with fail
     refine (CP.o _).mono ?_; rintro e5 w5 ⟨rfl, rfl⟩
     go_wp2_with fail
     go_ret2
     exact ⟨HZ.o, Gb.o.then hk4⟩
def bS (s : List UInt8) (e : Ending) : Prop :=
 match jF s with
 | .inl x => e = .returned (.tuple #[.int .i32 0, .int .i64 0, .int .i64 x])
 | .inr (b, n) => ∃ m : Nat, bf m ∧ yh m = b ∧ e = .returned (.tuple #[.int .i32 m, .int .i64 n, .int .i64 0])
theorem jl {s : List UInt8} {x : Int} (h : jF s = .inl x) : bS s (.returned (.tuple #[.int .i32 0, .int .i64 0, .int .i64 x])) := by unfold bS; rw [h]
theorem Kn {s b : List UInt8} {n m : Nat} (h : jF s = .inr (b, n)) (h1 : bf m) (h2 : yh m = b) : bS s (.returned (.tuple #[.int .i32 m, .int .i64 n, .int .i64 0])) := by unfold bS; rw [h]; exact ⟨m, h1, h2, rfl⟩
theorem partL_cons (c : UInt8) (r : List UInt8) : jF (c :: r) = if c.toNat < 32 then .inl 31 else if c = 92 then (match ja (c :: r) with | none => .inl 31 | some x => .inr x) else if (Lib.decodeL (c :: r)).1 = 65533 ∧ (Lib.decodeL (c :: r)).2 = 1 then .inl 30 else .inr ((c :: r).take (Lib.decodeL (c :: r)).2, (Lib.decodeL (c :: r)).2) := rfl
theorem part_any {w : World} (ht : yK w) (s : ByteArray) (hs : s.size ≤ 262144) :
  Calls Tryz.prog 198 #[.string s] w fun e w' => bS s.data.toList e ∧ zb [] w w' := by
 have HL : Hid (s.data.toList.length = s.size) := qI (by simp)
 cases hl : s.data.toList with
 | nil =>
  have HZ := qI (jl (s := []) (x := 31) rfl)
  obtain rfl : s = ⟨#[]⟩ := qR hl
  clear ht hl
  go_enter func198, ntmps198
  go_wp2_with fail
  go_ret3
  exact ⟨HZ.o, zb.refl _ _⟩
 | cons c r =>
  have h1 : 1 ≤ s.size := by have := HL.o; rw [hl] at this; simp only [List.length_cons] at this; omega
  have h1I : (1 : Int) ≤ s.size := by omega
  have hc : s[0]'(by omega) = c := by
   show s.data.toList[0]'_ = c
   simp only [hl]; rfl
  obtain ⟨g1, g2⟩ := qe (T := s) (fun e => by rw [e] at h1; exact absurd h1 (by decide))
  have HP := qI (partL_cons c r)
  have hcl : (c.toNat : Int) ≤ 255 := by have := c.toNat_lt; omega
  by_cases h32 : c.toNat < 32
  ·have HZ := qI (jl (s := c :: r) (x := 31) (by rw [HP.o, if_pos h32]))
   have h32I : (c.toNat : Int) < 32 := by omega
   clear ht hl h32
   go_enter func198, ntmps198
   go_wp2_with fail
   go_ret3
   exact ⟨HZ.o, zb.refl _ _⟩
  have h32I : (32 : Int) ≤ c.toNat := by omega
  by_cases h92 : c = 92
  ·subst h92
   have CE := qI (escape_any ht s hs)
   rw [hl] at CE
   unfold ZF at CE
   cases he : ja (92 :: r) with
   | none =>
    have HZ := qI (jl (s := 92 :: r) (x := 31) (by rw [HP.o, if_neg h32, if_pos rfl, he]))
    rw [he] at CE
    clear ht hl he h32
    go_enter func198, ntmps198
    go_wp2_with (go_at_call 225; refine CE.o.mono ?_; rintro e w2 ⟨rfl, hk2⟩)
    go_ret3
    exact ⟨HZ.o, hk2⟩
   | some x =>
    obtain ⟨b, n⟩ := x
    have HX : Hid (jF (92 :: r) = .inr (b, n)) := qI (by rw [HP.o, if_neg h32, if_pos rfl, he])
    have hn := (YW he).2.2.1
    obtain ⟨f1, f2⟩ := zt (a := (n : Int)) (b := 0) (by omega)
    rw [he] at CE
    clear ht hl he h32 hn
    go_enter func198, ntmps198
    go_wp2_with (go_at_call 225; refine CE.o.mono ?_; rintro e w2 ⟨⟨m, m1, m2, rfl⟩, hk2⟩; have HM := qI (And.intro m1 m2); clear m1 m2)
    go_ret3
    exact ⟨Kn HX.o HM.o.1 HM.o.2, hk2⟩
  have hn92 : c.toNat ≠ 92 := fun q => h92 (UInt8.toNat_inj.1 q)
  obtain ⟨f1, f2⟩ := zt (a := (c.toNat : Int)) (b := 92) (by omega)
  have CN := qI (utfNext ht s (by omega))
  rw [hl] at CN
  by_cases hb : (Lib.decodeL (c :: r)).1 = 65533 ∧ (Lib.decodeL (c :: r)).2 = 1
  ·have HZ := qI (jl (s := c :: r) (x := 30) (by rw [HP.o, if_neg h32, if_neg h92, if_pos hb]))
   rw [show xZ (c :: r) = (-1, 0) by unfold xZ; exact if_pos (.inr hb)] at CN
   clear ht hl h32 h92 hn92 hb
   go_enter func198, ntmps198
   go_wp2_with (go_at_call 226; refine CN.o.mono ?_; rintro e w2 ⟨rfl, hk2⟩)
   go_ret3
   exact ⟨HZ.o, hk2⟩
  ·have D := kG (by simp) hb
   have HX : Hid (jF (c :: r) = .inr ((c :: r).take (Lib.decodeL (c :: r)).2, (Lib.decodeL (c :: r)).2)) := qI (by rw [HP.o, if_neg h32, if_neg h92, if_neg hb])
   have HM : Hid (bf (Lib.decodeL (c :: r)).1 ∧ yh (Lib.decodeL (c :: r)).1 = (c :: r).take (Lib.decodeL (c :: r)).2) := qI ⟨D.valid, D.rune⟩
   rw [show xZ (c :: r) = (((Lib.decodeL (c :: r)).1 : Int), (Lib.decodeL (c :: r)).2) by unfold xZ; exact if_neg (by rintro (q | q); cases q; exact hb q)] at CN
   have hp := D.pos
   have hv : (Lib.decodeL (c :: r)).1 ≤ 1114111 := by have := D.valid; omega
   clear ht hl h32 h92 hn92 hb D
   revert CN HX HM hp hv
   generalize (c :: r).take (Lib.decodeL (c :: r)).2 = b
   generalize Lib.decodeL (c :: r) = q
   obtain ⟨m, n⟩ := q
   intro CN HX HM hp hv
   simp only at CN HX HM hp hv
   obtain ⟨f3, f4⟩ := zt (a := (n : Int)) (b := 0) (by omega)
   have hvI : (m : Int) ≤ 1114111 := by omega
   clear hv hp
   go_enter func198, ntmps198
   go_wp2_with (go_at_call 226; refine CN.o.mono ?_; rintro e w2 ⟨rfl, hk2⟩)
   go_ret3
   exact ⟨Kn HX.o HM.o.1 HM.o.2, hk2⟩
theorem utfUnquote {w : World} (ht : yK w) (s : ByteArray) (hs : s.size ≤ 262144) :
  Calls Tryz.prog 157 #[.string s] w fun e w' => vX s.data.toList e ∧ zb [] w w' := by
 have HL : Hid (s.data.toList.length = s.size) := qI (by simp)
 have CP : Hid (∀ (t : ByteArray) w', _) := qI (fun t w' => xA t ⟨#[34]⟩ w')
 have HQ : Hid (∀ t : ByteArray, (⟨#[34]⟩ : ByteArray).data.toList.isPrefixOf t.data.toList = decide (t.data.toList.head? = some 34)) := qI (fun t => ji 34 t.data.toList 0)
 have CPs : Hid (∀ w', _) := qI (CP.o s)
 rw [HQ.o] at CPs
 by_cases h0 : s.data.toList.head? = some 34
 rotate_left
 ·have HU : Hid (qd s.data.toList = .inl 31) := qI (by
   unfold qd
   cases h : s.data.toList with
   | nil => rfl
   | cons c r =>
    rw [h] at h0
    exact if_neg (fun e => h0 (by rw [e]; rfl)))
  have HZ := qI (Ki HU.o (Nat.zero_le _))
  rw [decide_eq_false h0] at CPs
  clear ht h0
  go_enter func157, ntmps157
  go_wp2_with (go_at_call 88; refine (CPs.o _).mono ?_; rintro e w2 ⟨rfl, rfl⟩)
  go_ret3
  exact ⟨HZ.o, zb.refl _ _⟩
 obtain ⟨W0, Ge⟩ : ∃ W0, Hid (W0 = w.alloc (.cells #[.pointer none, .slice none 0 0] 70)) := ⟨_, qI rfl⟩
 have Ga : Hid (zb [] w W0) := qI (by rw [Ge.o]; exact (zb.refl _ _).alloc _)
 have HT : Hid (xr w.heap.size W0) := qI ⟨w, ht, Ga.o, Nat.le_refl _⟩
 have Jl : Hid (W0.heap[w.heap.size]? = some (.cells #[.pointer none, .slice none 0 0] 70 (0, 0))) := qI (by rw [Ge.o]; exact zn rfl)
 have Jq : Hid (vM s.data.toList 1 []) := qI (by
  cases h : s.data.toList with
  | nil => rw [h] at h0; cases h0
  | cons c r => rw [h] at h0; simp only [List.head?_cons, Option.some.injEq] at h0; exact vM.start h0)
 rw [decide_eq_true h0] at CPs
 clear ht h0
 go_enter func157, ntmps157
 go_wp2_with (go_at_call 88; refine (CPs.o _).mono ?_; rintro e w2 ⟨rfl, rfl⟩)
 rw [← Ge.o]
 go_loopw [6] (fun i wr => ∃ (k : Nat) (acc : List UInt8), i = .int .i64 k ∧ vM s.data.toList k acc ∧ BW 70 W0 w.heap.size wr acc ∧ (acc = [] → wr = W0)) (fun i _ => s.size - (intOf i).toNat)
 case atStart => exact ⟨1, [], rfl, Jq.o, BW.new Jl.o, fun _ => rfl⟩
 case round =>
  obtain ⟨k, acc, rfl, hat, hbw, hne0⟩ := hrel
  have Je := qI hne0
  clear hne0
  have Jf := qI hat
  have Jb := qI hbw
  have hk : k ≤ s.size := by have := hat.1.1; rw [HL.o] at this; exact this
  have hacc : acc.length ≤ k := hat.1.2
  have hkI : (k : Int) ≤ s.size := by omega
  have HX : Hid ((s.extract k s.size).data.toList = s.data.toList.drop k) := qI (jX s k)
  have CPk : Hid (∀ w', _) := qI (CP.o (s.extract k s.size))
  rw [HQ.o, HX.o] at CPk
  clear hat hbw
  by_cases h34 : (s.data.toList.drop k).head? = some 34
  ·rw [decide_eq_true h34] at CPk
   obtain ⟨u1, u2⟩ := Jf.o.done h34
   rw [HL.o] at u2
   have HZ := qI (unqAns_ok u1 (k := k + 1) (by rw [HL.o]; exact u2) rfl (by omega))
   have Gr : Hid (((k + 1 : Nat) : Int) = (k : Int) + 1) := qI (by omega)
   clear u1 u2 h34
   go_wp2_with (go_at_call 88; refine (CPk.o _).mono ?_; rintro e w2 ⟨rfl, rfl⟩)
   by_cases hne : acc = []
   ·subst hne
    have hW := Je.o rfl
    have hb0 := Jl.o
    rw [← hW] at hb0
    refine (bstring_new hb0).mono ?_
    rintro e w3 ⟨rfl, hk3⟩
    go_wp2_with fail
    go_ret3
    rw [← Gr.o]
    refine ⟨HZ.o, Ga.o.then ?_⟩
    rw [← hW]
    exact hk3
   ·refine (jh Jb.o (by omega) hne).mono ?_
    rintro e w3 ⟨rfl, hk3, -⟩
    go_wp2_with fail
    go_ret3
    rw [← Gr.o]
    exact ⟨HZ.o, Ga.o.trans hk3 (fun i hi => by simp at hi; exact .inr (by omega))⟩
  ·rw [decide_eq_false h34] at CPk
   have CA := qI (part_any (w := wr) (HT.o.at Jb.o.kept) (s.extract k s.size) (by
    have h9 : (s.extract k s.size).data.toList.length = (s.extract k s.size).size := by simp
    rw [HX.o, List.length_drop, HL.o] at h9
    omega))
   rw [HX.o] at CA
   unfold bS at CA
   cases hp : jF (s.data.toList.drop k) with
   | inl x =>
    rw [hp] at CA
    have hu := Jf.o.bad h34 hp
    have hx := unq_err hu
    obtain ⟨f1, f2⟩ := zt (a := x) (b := 0) (by omega)
    have HZ := qI (Ki hu (k := k) (by rw [HL.o]; exact hk))
    clear hp hu hx h34
    go_wp2_with (first
     | (go_at_call 88; refine (CPk.o _).mono ?_; rintro e w2 ⟨rfl, rfl⟩)
     | (go_at_call 198; refine CA.o.mono ?_; rintro e w3 ⟨rfl, hk3⟩))
    go_ret3
    exact ⟨HZ.o, (Ga.o.trans Jb.o.kept (fun i hi => by simp at hi; exact .inr (by omega))).then hk3⟩
   | inr y =>
    obtain ⟨b, n⟩ := y
    rw [hp] at CA
    have Jr := qI (Jf.o.next h34 hp)
    obtain ⟨p1, p2, pb, p3, -⟩ := part_ok hp
    rw [List.length_drop, HL.o] at p2
    have p1I : (1 : Int) ≤ n := by omega
    have p2I : (k : Int) + n ≤ 262144 := by omega
    have HP : Hid (1 ≤ n ∧ k + n ≤ s.size) := qI ⟨p1, by omega⟩
    have Js : Hid (acc ++ b = [] → False) := qI (fun e => pb (List.append_eq_nil_iff.1 e).2)
    clear hp h34 p1 p2 p3 pb
    go_wp2_with fail
    refine (CPk.o _).mono ?_
    rintro e w2 ⟨rfl, rfl⟩
    go_wp2_with fail
    refine CA.o.mono ?_
    rintro e w3 ⟨⟨m, m1, m2, rfl⟩, hk3⟩
    have CW := qI (wrune_any yP (Jb.o.stay hk3) (by omega) m m1)
    rw [m2] at CW
    clear m1 m2 hk3
    go_wp2_with fail
    refine CW.o.mono ?_
    rintro e w4 ⟨⟨kk, rfl⟩, hb4, hk4⟩
    have Gp := qI hb4
    clear hb4 hk4
    go_wp2_with fail
    case roundEnd => exact ⟨⟨k + n, acc ++ b, by go_num, Jr.o, Gp.o, fun e => (Js.o e).elim⟩, by have := HP.o; simp [intOf]; omega⟩
end Go.Proofs.YtpbphdkjjoipnaaGreatDoor
