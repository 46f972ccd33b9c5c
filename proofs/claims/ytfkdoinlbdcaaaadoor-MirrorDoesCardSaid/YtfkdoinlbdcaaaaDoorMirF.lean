/- The mirror's lives() is true. -/
import Derived.Test.YtfkdoinlbdcaaaaDoorMirE
import Derived.Laws.BytesArg
import Derived.Lib.SlBytesConst
namespace Go.Proofs.YtfkdoinlbdcaaaaDoor
open Go.RowKit

def str (l : List UInt8) : ByteArray := ⟨l.toArray⟩
theorem Bytes.toStr {w : World} {v : Value} {l : List UInt8} (h : Bytes w v l) : (convert 28 9 v).run Tryd.prog w = .ok (.string (str l)) w := by
  rcases h.2 with ⟨rfl, h0⟩ | ⟨h0, ad, cap, rfl, hm⟩ | ⟨g, o, cap, rfl, hc, hm, hr⟩
  · have : l = [] := List.eq_nil_of_length_eq_zero h0
    subst this
    have h1 := run_convert_bytes_nil (P := Tryd.prog) w 28 5 Tryd.underlying28 Tryd.underlying5 0 0 9 Tryd.underlying9
    have e1 : str [] = ByteArray.empty := by rfl
    rw [e1]
    exact h1
  · have : l = [] := List.eq_nil_of_length_eq_zero h0
    subst this
    have h1 := run_convert_bytes_string (P := Tryd.prog) w 28 9 5 (some ad) 0 cap Tryd.underlying28 Tryd.underlying5 Tryd.underlying9
    rw [h1]
    rfl
  · have h1 := run_convert_bytes_arg (P := Tryd.prog) w 28 5 Tryd.underlying28 Tryd.underlying5 g o l.length cap (l.map fun b => (b.toNat : Int)) (by simp) (fun i hi => by
      rw [hr.at (by simpa using hi)]
      simp [bv, List.getD_eq_getElem?_getD, hi]) 9 Tryd.underlying9
    have e2 : strOfNums (l.map fun b => (b.toNat : Int)) = str l := by
      unfold strOfNums str
      rw [List.map_map]
      have e3 : ((fun n : Int => UInt8.ofNat n.toNat) ∘ fun b : UInt8 => (b.toNat : Int)) = id := funext fun b => by simp
      rw [e3, List.map_id]
    rw [← e2]
    exact h1
theorem slc_marked (w : World) (xs : List Value) (size n t : Nat) (f : Nat × Nat) (hl : xs.length = n * size) (hm : n ≤ maxLen) : Slc (w.alloc (.cells xs.toArray t f)) size (.slice (some ⟨w.heap.size, 0, none⟩) n n) n xs := by
  refine ⟨hl, .inr (.inr ⟨w.heap.size, 0, n, rfl, Nat.le_refl _, hm, ?_, by simp⟩)⟩
  intro j u hu
  rw [Nat.zero_add, cell_of_row _ w.heap.size j xs.toArray t f (heap_alloc_new w _)]
  simpa using hu
def tA : ByteArray := ⟨#[97]⟩
def tB : ByteArray := ⟨#[98]⟩
def m0 : PMir := PMir.new
def m1 : PMir := (m0.put tA [97, 98, 99]).2
def m2 : PMir := (m1.fetch tA 3).2
def m3 : PMir := (m2.fetch tA 2).2
def m4 : PMir := (m3.fetch tB 2).2
def m5 : PMir := m4.slowly 1
def m6 : PMir := (m5.fetch tA 2).2
def m7 : PMir := (m6.drop tA).2
theorem p1 : (m0.put tA [97, 98, 99]).1 = 0 := by kernel_rfl
theorem p2 : (m1.fetch tA 3).1 = ([97, 98, 99], 0) := by kernel_rfl
theorem p3 : (m2.fetch tA 2).1 = ([], 3) := by kernel_rfl
theorem p4 : (m3.fetch tB 2).1 = ([], 4) := by kernel_rfl
theorem p5 : m4.asked = [(tA, 3), (tA, 3), (tB, -1)] := by kernel_rfl
theorem p6 : (m5.fetch tA 2).1 = ([97], 0) := by kernel_rfl
theorem p7 : (m6.drop tA).1 = 0 := by kernel_rfl
theorem p8 : (m7.drop tA).1 = 4 := by kernel_rfl
theorem q1 : m1.asked.length ≤ 256 := of_decide_eq_true (by kernel_rfl)
theorem q2 : m2.asked.length ≤ 256 := of_decide_eq_true (by kernel_rfl)
theorem q3 : m3.asked.length ≤ 256 := of_decide_eq_true (by kernel_rfl)
theorem q5 : m5.asked.length ≤ 256 := of_decide_eq_true (by kernel_rfl)
theorem d3 : Lib.decDigits 3 = [51] := by rw [Lib.decDigits]; rfl
theorem d2 : Lib.decDigits 2 = [50] := by rw [Lib.decDigits]; rfl

theorem dues_at {w : World} {a : Option Addr} {n c : Nat} (h : Slc w 2 (.slice a n c) 3 (askCells [(tA, 3), (tA, 3), (tB, -1)])) :
    ∃ g o, a = some ⟨g, o, none⟩ ∧ w.cell? ⟨g, o + 2, none⟩ = some (.string ⟨#[97]⟩) ∧ w.cell? ⟨g, o + 2 + 1, none⟩ = some (.int .i64 3) ∧ w.cell? ⟨g, o + 4, none⟩ = some (.string ⟨#[98]⟩) ∧ w.cell? ⟨g, o + 4 + 1, none⟩ = some (.int .i64 (-1)) := by
  rcases h.2 with ⟨_, h0⟩ | ⟨h0, _⟩ | ⟨g, o, cap, hsv, _, _, hrow⟩
  · omega
  · omega
  simp only [Value.slice.injEq] at hsv
  obtain ⟨rfl, -, -⟩ := hsv
  exact ⟨g, o, rfl, hrow.cells 2 _ rfl, hrow.cells 3 _ rfl, hrow.cells 4 _ rfl, hrow.cells 5 _ rfl⟩

theorem fetch_lv {w1 : World} {b : Nat} {F : List Nat} {d : PMir} (h : MirRep w1 b F d) (s : ByteArray) (n : Int) (l : List UInt8) (er : Int) (hr : (d.fetch s n).1 = (l, er)) (hs : s.size ≤ maxLen) (hn : n ≤ 9223372036854775806) (hl : d.asked.length ≤ 256) :
    Calls Tryd.prog 11 #[.pointer (some ⟨b, 0, none⟩), .string s, .int .i64 n] w1 fun e w2 => ∃ v F', e = .returned (.tuple #[v, .int .i64 er]) ∧ Data w2 v l ∧ MirRep w2 b F' (d.fetch s n).2 ∧ Kept F w1 w2 ∧ (∀ k, k ∈ F' → k ∈ F ∨ w1.heap.size ≤ k) := by
  refine (fetch_any h s hs n hn hl).mono ?_
  rintro e w2 ⟨v, rfl, hv, F', hm, hk, hF⟩
  rw [hr] at hv ⊢
  exact ⟨v, F', rfl, hv, hm, hk, hF⟩

set_option maxRecDepth 10000 in
set_option maxHeartbeats 6400000 in
theorem lives_any (w : World) : Calls Tryd.prog 7 #[] w fun e w' => e = .returned (.bool true) ∧ Kept [] w w' := by
  have kc := fun (w : World) (C : Array Value) (n c : Nat) => Lib.run_convert_bytes_const w 28 5 C n c Tryd.underlying28 Tryd.underlying5
  go_enter Tryd.func7, Tryd.ntmps7
  go_wp2_with (first
    | (go_at_call 13; refine Calls.mono (rootName_any (itoa_small0 2 (by decide) _) (digits_size 2 (by decide))) ?_; rintro e w10 ⟨rfl, hk⟩; have HK10 := Lib.hid (HK9.out.then hk); have e2 : ((⟨(Lib.decDigits 2).toArray⟩ ++ ⟨#[46]⟩ : ByteArray) ++ tRoot) = ⟨#[50, 46, 114, 111, 111, 116, 46, 106, 115, 111, 110]⟩ := (by rw [d2]; rfl); rw [e2]; clear hk e2)
    | (go_at_call 15; refine Calls.mono (fileName_any (itoa_small0 3 (by decide) _) (digits_size 3 (by decide)) _ (by decide)) ?_; rintro e w9 ⟨rfl, hk⟩; have HK9 := Lib.hid (HK8.out.then hk); have e3 : ((⟨(Lib.decDigits 3).toArray⟩ ++ ⟨#[46]⟩ : ByteArray) ++ ⟨#[115, 110, 97, 112, 115, 104, 111, 116, 46, 106, 115, 111, 110]⟩) = ⟨#[51, 46, 115, 110, 97, 112, 115, 104, 111, 116, 46, 106, 115, 111, 110]⟩ := (by rw [d3]; rfl); rw [e3]; clear hk e3)
    | (go_at_call 26; refine Calls.mono (drop_any HM7.out tA (by decide)) ?_; rintro e w8 ⟨rfl, hm, hk⟩; rw [p8]; have HK8 := Lib.hid (HK7.out.trans hk (fun i hi => .inr (HF6.out i hi))); clear hm hk)
    | (go_at_call 26; refine Calls.mono (drop_any HM6.out tA (by decide)) ?_; rintro e w7 ⟨rfl, hm, hk⟩; rw [p7]; have HM7 : Hid (MirRep w7 b F6 m7) := Lib.hid hm; have HK7 := Lib.hid (HK6.out.trans hk (fun i hi => .inr (HF6.out i hi))); clear hm hk)
    | (go_at_call 11; refine Calls.mono (fetch_lv HM5.out tA 2 _ _ p6 (by decide) (by decide) q5) ?_; rintro e w6 ⟨vf, F6, rfl, hv, hm, hk, hF⟩; have HM6 : Hid (MirRep w6 b F6 m6) := Lib.hid hm; have HV6 := Lib.hid hv; have HV3f := Lib.hid (HV3e.out.kept hk HM5.out.kinds); have HL6 := Lib.hid (HL5.out.kept hk (fun g hg => (HG5.out g hg).2)); have HK6 := Lib.hid (HK5.out.trans hk (fun i hi => .inr (HF5.out i hi))); have HF6 : Hid (∀ k, k ∈ F6 → w.heap.size ≤ k) := Lib.hid (fun k hk' => by rcases hF k hk' with e | e; exact HF5.out k e; have := HK5.out.size; omega); have cv3 : (convert 28 9 vb).run Tryd.prog w6 = .ok (.string ⟨#[97, 98, 99]⟩) w6 := Bytes.toStr HV3f.out.1; have cv6 : (convert 28 9 vf).run Tryd.prog w6 = .ok (.string ⟨#[97]⟩) w6 := Bytes.toStr hv.1; obtain ⟨g, o, rfl, x0, x1, x2, x3⟩ := dues_at HL6.out; clear hv hm hk hF)
    | (go_at_call 24; refine Calls.mono (slow_any HM4b.out 1 (by decide)) ?_; rintro e w5 ⟨rfl, hm, hk⟩; have HM5 : Hid (MirRep w5 b F4 m5) := Lib.hid hm; have HV3e := Lib.hid (HV3d.out.kept hk HM4b.out.kinds); have HL5 := Lib.hid (HL4.out.kept hk (fun g hg => (HG4.out g hg).2)); have HG5 := HG4; have HK5 := Lib.hid (HK4b.out.trans hk (fun i hi => .inr (HF4.out i hi))); have HF5 := HF4; clear hm hk)
    | (go_at_call 12; refine Calls.mono (asked_any HM4.out) ?_; rintro e w4b ⟨vl, rfl, hl, hg, hk⟩; have HM4b := Lib.hid (HM4.out.kept0 hk); rw [p5] at hl; obtain ⟨la, lc, rfl, -, -⟩ := hl.form; have HL4 := Lib.hid hl; have HG4 : Hid (∀ g, vblk (.slice la 3 lc) = some g → w4.heap.size ≤ g ∧ g ∉ F4) := Lib.hid (fun g hg' => ⟨hg g hg', fun hx => by have h1 := HM4.out.lt g hx; have h2 := hg g hg'; omega⟩); have HV3d := Lib.hid (HV3c.out.kept hk (by simp)); have HK4b := Lib.hid (HK4.out.then hk); clear hl hg hk)
    | (go_at_call 11; refine Calls.mono (fetch_lv HM3.out tB 2 _ _ p4 (by decide) (by decide) q3) ?_; rintro e w4 ⟨ve, F4, rfl, hv, hm, hk, hF⟩; have HM4 : Hid (MirRep w4 b F4 m4) := Lib.hid hm; have HV3c := Lib.hid (HV3b.out.kept hk HM3.out.kinds); have HK4 := Lib.hid (HK3.out.trans hk (fun i hi => .inr (HF3.out i hi))); have HF4 : Hid (∀ k, k ∈ F4 → w.heap.size ≤ k) := Lib.hid (fun k hk' => by rcases hF k hk' with e | e; exact HF3.out k e; have := HK3.out.size; omega); clear hv hm hk hF)
    | (go_at_call 11; refine Calls.mono (fetch_lv HM2.out tA 2 _ _ p3 (by decide) (by decide) q2) ?_; rintro e w3 ⟨vd, F3, rfl, hv, hm, hk, hF⟩; have HM3 : Hid (MirRep w3 b F3 m3) := Lib.hid hm; have HV3b := Lib.hid (HV3.out.kept hk HM2.out.kinds); have HK3 := Lib.hid (HK2.out.trans hk (fun i hi => .inr (HF2.out i hi))); have HF3 : Hid (∀ k, k ∈ F3 → w.heap.size ≤ k) := Lib.hid (fun k hk' => by rcases hF k hk' with e | e; exact HF2.out k e; have := HK2.out.size; omega); clear hv hm hk hF)
    | (go_at_call 11; refine Calls.mono (fetch_lv HM1.out tA 3 _ _ p2 (by decide) (by decide) q1) ?_; rintro e w2 ⟨vb, F2, rfl, hv, hm, hk, hF⟩; have HM2 : Hid (MirRep w2 b F2 m2) := Lib.hid hm; have HV3 := Lib.hid hv; have HK2 := Lib.hid (HK1.out.trans hk (fun i hi => .inr (HF0.out i hi))); have HF2 : Hid (∀ k, k ∈ F2 → w.heap.size ≤ k) := Lib.hid (fun k hk' => by rcases hF k hk' with e | e; exact HF0.out k e; have := HK1.out.size; omega); clear hv hm hk hF)
    | (go_at_call 9; refine Calls.mono (put_any (HM0.out.kept0 HA.out) tA (by decide) HB.out (by decide)) ?_; rintro e w1 ⟨rfl, hm, hk⟩; have HM1 : Hid (MirRep w1 b F m1) := Lib.hid hm; have HK1 := Lib.hid ((HK0.out.then HA.out).trans hk (fun i hi => .inr (HF0.out i hi))); rw [p1]; clear hm hk)
    | (go_at_call 8; refine Calls.mono (newMir_any w) ?_; rintro e w0 ⟨b, F, rfl, hm, hk, hF⟩; have HM0 : Hid (MirRep w0 b F m0) := Lib.hid hm; have HK0 := Lib.hid hk; have HF0 := Lib.hid hF; have HA := Lib.hid ((Kept.refl [] w0).alloc (.cells #[.int .u8 97, .int .u8 98, .int .u8 99] 5 (3, 4))); have HB : Hid (Bytes (w0.alloc (.cells #[.int .u8 97, .int .u8 98, .int .u8 99] 5 (3, 4))) (.slice (some ⟨w0.heap.size, 0, none⟩) 3 3) [97, 98, 99]) := Lib.hid (slc_marked w0 [.int .u8 97, .int .u8 98, .int .u8 99] 1 3 5 (3, 4) rfl (by decide)); clear hm hk hF))
  go_ret
  exact ⟨rfl, HK10.out⟩
end Go.Proofs.YtfkdoinlbdcaaaaDoor
