/- Load: the disk of an image. -/
import Derived.Test.YtfkdoinlbdcaaaaOctF
namespace Go.Proofs.Ytfkdoinlbdcaaaa
open Go.RowKit

def rintV (l : List UInt8) : Nat × List UInt8 × Bool := if l.length < 4 then (0, [], true) else (be (l.take 4), l.drop 4, false)
theorem rintV_lt (l : List UInt8) : (rintV l).1 < 4294967296 := by
  unfold rintV
  split
  · decide
  · have := be_lt (l.take 4)
    rw [List.length_take, Nat.min_eq_left (by omega)] at this
    exact this
theorem rintV_bad (l : List UInt8) : (rintV l).2.2 = true → (rintV l).1 = 0 := by
  unfold rintV
  split
  · intro _; rfl
  · intro h; cases h
theorem rint_any {w : World} {r : Nat} {l : List UInt8} {bad : Bool} (h : RdAt w r l bad) :
    Calls Try.prog 48 #[.pointer (some ⟨r, 0, none⟩), .int .i64 4] w fun e w' => e = .returned (.int .i64 (rintV l).1) ∧ RdAt w' r (rintV l).2.1 (rintV l).2.2 ∧ Kept [r] w w' := by
  unfold rintV
  by_cases h4 : l.length < 4
  · rw [if_pos h4]; exact rint_no h h4
  · rw [if_neg h4]; exact rint_yes h (by omega)

def loadGo (n c : Nat) (l : List UInt8) (bad : Bool) : Option PDisk :=
  if n < 1 ∨ 16384 < n then none
  else match fillGo n c (PDisk.new n).sure (-1) l with
    | none => none
    | some (s, rest) => if bad = true ∨ 0 < rest.length then none else some { PDisk.new n with sure := s }
def loadP (l : List UInt8) : Option PDisk := loadGo (rintV l).1 (rintV (rintV l).2.1).1 (rintV (rintV l).2.1).2.1 (rintV (rintV l).2.1).2.2

def LoadPost (w : World) (o : Option PDisk) (e : Ending) (w' : World) : Prop :=
  Kept [] w w' ∧ match o with
    | none => e = .returned (.tuple #[.pointer none, .int .i64 11])
    | some d => ∃ b F, e = .returned (.tuple #[.pointer (some ⟨b, 0, none⟩), .int .i64 0]) ∧ DiskRep w' b F d ∧ ∀ k, k ∈ F → w.heap.size ≤ k

set_option maxRecDepth 10000 in
set_option maxHeartbeats 3200000 in
theorem load_any {w : World} {v : Value} {l : List UInt8} (hv : Bytes w v l) (hl : l.length ≤ 100000) : Calls Try.prog 25 #[v] w (LoadPost w (loadP l)) := by
  have hf := Lib.hid (from_any hv hl)
  have hi1 : Hid (∀ w r, RdAt w r l false → _) := Lib.hid fun w r (h : RdAt w r l false) => rint_any h
  have hi2 : Hid (∀ w r bad, RdAt w r (rintV l).2.1 bad → _) := Lib.hid fun w r bad (h : RdAt w r (rintV l).2.1 bad) => rint_any h
  have hn := rintV_lt l
  have hc := rintV_lt (rintV l).2.1
  have hbz := Lib.hid (rintV_bad (rintV l).2.1)
  unfold loadP
  clear hv hl
  revert hi1 hi2 hn hc hbz
  generalize (rintV l).2.2 = bad1
  generalize (rintV l).1 = n
  generalize (rintV l).2.1 = l1
  generalize (rintV l1).2.2 = bad2
  generalize (rintV l1).1 = c
  generalize (rintV l1).2.1 = l2
  intro hi1 hi2 hn hc hbz
  by_cases hn1 : n < 1 ∨ 16384 < n
  · have ho : loadGo n c l2 bad2 = none := by unfold loadGo; rw [if_pos hn1]
    rw [ho]
    have hb : Hid (∀ w, _) := Lib.hid fun w => new_bad n w (by omega)
    clear hn1 ho
    go_enter Try.func25, Try.ntmps25
    go_wp2_with (first
      | (go_at_call 47; refine hf.out.mono ?_; rintro e w1 ⟨r, rfl, h1, h2, h3⟩; have HR := Lib.hid h1; have HK := Lib.hid h2; have HS := Lib.hid h3; clear h1 h2 h3)
      | (go_at_call 48; refine (hi1.out _ _ HR.out).mono ?_; rintro e w2 ⟨rfl, h1, h2⟩; clear hi1; have HR2 := Lib.hid h1; have HK2 := Lib.hid h2; clear h1 h2)
      | (go_at_call 48; refine (hi2.out _ _ _ HR2.out).mono ?_; rintro e w3 ⟨rfl, h1, h2⟩; clear hi2; have HR3 := Lib.hid h1; have HK3 := Lib.hid h2; clear h1 h2)
      | (go_at_call 9; refine (hb.out _).mono ?_; rintro e w' ⟨rfl, rfl⟩))
    go_ret2
    exact ⟨HK.out.trans ((HK2.out.trans' HK3.out)) (by intro k hk; simp at hk; subst hk; exact .inr HS.out), rfl⟩
  · have hnn : 1 ≤ n ∧ n ≤ 16384 := by omega
    have hb : Hid (∀ w, _) := Lib.hid fun w => new_any n w hnn.1 hnn.2
    have hfill : Hid (∀ w b sb scap mb cnt svals M r, DiskAt w b sb scap mb cnt svals M (PDisk.new n) → RdAt w r l2 bad2 → (r ≠ b ∧ r ≠ sb ∧ r ≠ mb) → _) :=
      Lib.hid fun w b sb scap mb cnt svals M r (h : DiskAt w b sb scap mb cnt svals M (PDisk.new n)) (hr : RdAt w r l2 bad2) hne => fill_all h hr hne c (by omega) hbz.out
    have hlen : (PDisk.new n).sure.length = n := by simp [PDisk.new]
    rw [hlen] at hfill
    have ho : loadGo n c l2 bad2 = match fillGo n c (PDisk.new n).sure (-1) l2 with
      | none => none
      | some (s, rest) => if bad2 = true ∨ 0 < rest.length then none else some { PDisk.new n with sure := s } := by unfold loadGo; rw [if_neg hn1]
    rw [ho]
    clear ho hlen hn1
    revert hfill
    generalize fillGo n c (PDisk.new n).sure (-1) l2 = O
    intro hfill
    cases O with
    | none =>
      go_enter Try.func25, Try.ntmps25
      go_wp2_with (first
        | (go_at_call 47; refine hf.out.mono ?_; rintro e w1 ⟨r, rfl, h1, h2, h3⟩; have HR := Lib.hid h1; have HK := Lib.hid h2; have HS := Lib.hid h3; clear h1 h2 h3)
        | (go_at_call 48; refine (hi1.out _ _ HR.out).mono ?_; rintro e w2 ⟨rfl, h1, h2⟩; clear hi1; have HR2 := Lib.hid h1; have HK2 := Lib.hid h2; clear h1 h2)
        | (go_at_call 48; refine (hi2.out _ _ _ HR2.out).mono ?_; rintro e w3 ⟨rfl, h1, h2⟩; clear hi2; have HR3 := Lib.hid h1; have HK3 := Lib.hid (HK.out.trans (HK2.out.trans' h2) (by intro k hk; simp at hk; subst hk; exact .inr HS.out)); clear h1 h2)
        | (go_at_call 9; refine (hb.out _).mono ?_; rintro e w4 ⟨b, F, rfl, ⟨sb, scap, mb, cnt, svals, M, rfl, hd⟩, hk4, hF⟩; have HR4 := Lib.hid (HR3.out.kept hk4 (by simp) (by simp)); have HD0 := Lib.hid hd; have HK4 := Lib.hid (HK3.out.then hk4); have HF := Lib.hid (fun k hk => Nat.le_trans HK3.out.size (hF k hk)); have HNE : Hid (r ≠ b ∧ r ≠ sb ∧ r ≠ mb) := Lib.hid (by have := HR3.out.lt; have h1 := hF b (by simp); have h2 := hF sb (by simp); have h3 := hF mb (by simp); omega); clear hd hk4 hF)
        | (go_at_call 49; refine (hfill.out _ _ _ _ _ _ _ _ _ HD0.out HR4.out HNE.out).mono ?_; rintro e w5 ⟨hk5, rfl⟩; have HK5 := Lib.hid (HK4.out.trans hk5 (by intro k hk; simp at hk; rcases hk with rfl | rfl; exact .inr (HF.out _ (by simp)); exact .inr HS.out)); clear hk5))
      go_ret2
      exact ⟨HK5.out, rfl⟩
    | some sr =>
      obtain ⟨s, rest⟩ := sr
      show Calls _ _ _ _ (LoadPost w (if bad2 = true ∨ 0 < rest.length then none else some { PDisk.new n with sure := s }))
      by_cases hd : bad2 = true ∨ 0 < rest.length
      · rw [if_pos hd]
        have hdone : Hid (∀ w r, RdAt w r rest bad2 → _) := Lib.hid fun w r (h : RdAt w r rest bad2) => done_any h
        rw [if_pos hd] at hdone
        clear hd
        go_enter Try.func25, Try.ntmps25
        go_wp2_with (first
          | (go_at_call 47; refine hf.out.mono ?_; rintro e w1 ⟨r, rfl, h1, h2, h3⟩; have HR := Lib.hid h1; have HK := Lib.hid h2; have HS := Lib.hid h3; clear h1 h2 h3)
          | (go_at_call 48; refine (hi1.out _ _ HR.out).mono ?_; rintro e w2 ⟨rfl, h1, h2⟩; clear hi1; have HR2 := Lib.hid h1; have HK2 := Lib.hid h2; clear h1 h2)
          | (go_at_call 48; refine (hi2.out _ _ _ HR2.out).mono ?_; rintro e w3 ⟨rfl, h1, h2⟩; clear hi2; have HR3 := Lib.hid h1; have HK3 := Lib.hid (HK.out.trans (HK2.out.trans' h2) (by intro k hk; simp at hk; subst hk; exact .inr HS.out)); clear h1 h2)
          | (go_at_call 9; refine (hb.out _).mono ?_; rintro e w4 ⟨b, F, rfl, ⟨sb, scap, mb, cnt, svals, M, rfl, hd⟩, hk4, hF⟩; have HR4 := Lib.hid (HR3.out.kept hk4 (by simp) (by simp)); have HD0 := Lib.hid hd; have HK4 := Lib.hid (HK3.out.then hk4); have HF := Lib.hid (fun k hk => Nat.le_trans HK3.out.size (hF k hk)); have HNE : Hid (r ≠ b ∧ r ≠ sb ∧ r ≠ mb) := Lib.hid (by have := HR3.out.lt; have h1 := hF b (by simp); have h2 := hF sb (by simp); have h3 := hF mb (by simp); omega); clear hd hk4 hF)
          | (go_at_call 49; refine (hfill.out _ _ _ _ _ _ _ _ _ HD0.out HR4.out HNE.out).mono ?_; rintro e w5 ⟨hk5, rfl, hd5, hr5⟩; have HD := Lib.hid hd5; have HR5 := Lib.hid hr5; clear hd5 hr5; have HK5 := Lib.hid (HK4.out.trans hk5 (by intro k hk; simp at hk; rcases hk with rfl | rfl; exact .inr (HF.out _ (by simp)); exact .inr HS.out)); clear hk5)
          | (go_at_call 50; refine (hdone.out _ _ HR5.out).mono ?_; rintro e w' ⟨rfl, rfl⟩))
        go_ret2
        exact ⟨HK5.out, rfl⟩
      · rw [if_neg hd]
        have hdone : Hid (∀ w r, RdAt w r rest bad2 → _) := Lib.hid fun w r (h : RdAt w r rest bad2) => done_any h
        rw [if_neg hd] at hdone
        clear hd
        go_enter Try.func25, Try.ntmps25
        go_wp2_with (first
          | (go_at_call 47; refine hf.out.mono ?_; rintro e w1 ⟨r, rfl, h1, h2, h3⟩; have HR := Lib.hid h1; have HK := Lib.hid h2; have HS := Lib.hid h3; clear h1 h2 h3)
          | (go_at_call 48; refine (hi1.out _ _ HR.out).mono ?_; rintro e w2 ⟨rfl, h1, h2⟩; clear hi1; have HR2 := Lib.hid h1; have HK2 := Lib.hid h2; clear h1 h2)
          | (go_at_call 48; refine (hi2.out _ _ _ HR2.out).mono ?_; rintro e w3 ⟨rfl, h1, h2⟩; clear hi2; have HR3 := Lib.hid h1; have HK3 := Lib.hid (HK.out.trans (HK2.out.trans' h2) (by intro k hk; simp at hk; subst hk; exact .inr HS.out)); clear h1 h2)
          | (go_at_call 9; refine (hb.out _).mono ?_; rintro e w4 ⟨b, F, rfl, ⟨sb, scap, mb, cnt, svals, M, rfl, hd⟩, hk4, hF⟩; have HR4 := Lib.hid (HR3.out.kept hk4 (by simp) (by simp)); have HD0 := Lib.hid hd; have HK4 := Lib.hid (HK3.out.then hk4); have HF := Lib.hid (fun k hk => Nat.le_trans HK3.out.size (hF k hk)); have HNE : Hid (r ≠ b ∧ r ≠ sb ∧ r ≠ mb) := Lib.hid (by have := HR3.out.lt; have h1 := hF b (by simp); have h2 := hF sb (by simp); have h3 := hF mb (by simp); omega); clear hd hk4 hF)
          | (go_at_call 49; refine (hfill.out _ _ _ _ _ _ _ _ _ HD0.out HR4.out HNE.out).mono ?_; rintro e w5 ⟨hk5, rfl, hd5, hr5⟩; have HD := Lib.hid hd5; have HR5 := Lib.hid hr5; clear hd5 hr5; have HK5 := Lib.hid (HK4.out.trans hk5 (by intro k hk; simp at hk; rcases hk with rfl | rfl; exact .inr (HF.out _ (by simp)); exact .inr HS.out)); clear hk5)
          | (go_at_call 50; refine (hdone.out _ _ HR5.out).mono ?_; rintro e w' ⟨rfl, rfl⟩))
        go_ret2
        obtain ⟨sv, hD⟩ := HD.out
        exact ⟨HK5.out, b, [b, sb, mb], rfl, ⟨sb, scap, mb, cnt, sv, M, rfl, hD⟩, HF.out⟩
end Go.Proofs.Ytfkdoinlbdcaaaa
