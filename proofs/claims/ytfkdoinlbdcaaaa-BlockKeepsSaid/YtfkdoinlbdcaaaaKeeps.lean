/- For every two lists of calls and every list of pairs, BlockKeeps returns true. No condition. -/
import Derived.Test.YtfkdoinlbdcaaaaKeptLaw
import Derived.Deep.DeepCutAuto
import Derived.Deep.CutBlock
namespace Go.Proofs.Ytfkdoinlbdcaaaa
open Go.RowKit

def noStr : Value := .string ⟨#[]⟩
def strs (f : Nat → List UInt8) : Nat → Value := fun j => .string (str (f j))
def sixZero : Array Value := #[.string ⟨#[]⟩, .string ⟨#[]⟩, .string ⟨#[]⟩, .string ⟨#[]⟩, .string ⟨#[]⟩, .string ⟨#[]⟩]
theorem sixZero_filled (f : Nat → Value) : sixZero = filled 6 0 f noStr := rfl

set_option maxRecDepth 10000 in
set_option maxHeartbeats 8000000 in
theorem keepsLaw_any (a0 : Option Addr) (c0 : Nat) (os0 : List OpV) (a1 : Option Addr) (c1 : Nat) (os1 : List OpV) (a2 : Option Addr) (c2 : Nat) (ks : List (Int × Int)) (w : World)
    (h0 : Ops w (.slice a0 os0.length c0) os0) (h1 : Ops w (.slice a1 os1.length c1) os1) (h2 : Slc w 2 (.slice a2 ks.length c2) ks.length (keptCells ks)) (h3 : Pairs ks) :
    Calls Try.prog 3 #[.slice a0 os0.length c0, .slice a1 os1.length c1, .slice a2 ks.length c2] w fun e w' => e = .returned (.bool true) ∧ Kept [] w w' := by
  have H0 := Lib.hid h0
  have H1 := Lib.hid h1
  have H2 := Lib.hid h2
  have H3 := Lib.hid h3
  have hn0 := len63 h0.2.1
  have hn1 := len63 h1.2.1
  have hn2 := len63 h3.2
  clear h0 h1 h2 h3
  go_enter Try.func3, Try.ntmps3
  go_upto_block 0 with (first
    | (go_at_call 9; refine (new_any 6 _ (by decide) (by decide)).mono ?_; rintro e wa ⟨b, F, rfl, hd, hk, hF⟩; have HD := Lib.hid hd; have HK := Lib.hid hk; have HF := Lib.hid hF; clear hd hk hF)
    | (go_at_call 10; refine (lives_any _).mono ?_; rintro e wb ⟨rfl, hk⟩; have HD1 := Lib.hid (HD.out.kept0 hk); have HK1 := Lib.hid (HK.out.then hk); clear hk HD HK))
  go_cut [9] from 24 (fun i wc => (∃ k : Nat, i = .int .i64 k) ∧ ∃ d : PDisk, DiskRep wc b F d ∧ d.Calm 6 ∧ Kept [] w wc)
  case first =>
    go_wp2_with fail
    go_loopw [9] (fun i wr => ∃ (k : Nat) (d : PDisk), i = .int .i64 k ∧ k ≤ os0.length ∧ DiskRep wr b F d ∧ d.Calm 6 ∧ Kept [] w wr) (fun i _ => os0.length - (intOf i).toNat)
    case atStart => exact ⟨0, _, rfl, Nat.zero_le _, HD1.out, PDisk.Calm.new 6, HK1.out⟩
    case round =>
      obtain ⟨k, d, rfl, hk, hd, hc, hkr⟩ := hrel
      have HD := Lib.hid hd
      have HC := Lib.hid hc
      clear hd hc HD1 HK1
      by_cases hlt : k < os0.length ∧ k < 20
      · obtain ⟨hlt, h30⟩ := hlt
        obtain ⟨g, o, rfl, q0, q1, -, q3, -, hg, hat0, hat⟩ := H0.out.at hkr k hlt
        obtain ⟨l, hl, _⟩ := hat0.2.2.2.1
        have hap : Hid (∀ g, vblk os0[k].vb = some g → g ∉ F) := Lib.hid (fun g hg hx => by have := hl.lt hg; have := HF.out g hx; omega)
        have hl1 := Lib.hid (hl.kept0 hkr)
        clear hl hat hat0 q0
        revert q1 q3 hap hl1
        generalize os0[k] = ov
        obtain ⟨kd, n, kk, vb, vl⟩ := ov
        intro q1 q3 hap hl1
        simp only at q1 q3
        have h30' : (k : Int) < 20 := by omega
        have hlt' : (k : Int) < os0.length := by omega
        go_wp2_with fail
        go_region_with (go_at_call 11; refine Calls.mono (write_any (HD.out.kept0 (Kept.refl _ wr).drew) n hl1.out.drew hap.out) ?_; rintro e wx ⟨rfl, hd, hk2⟩)
        all_goals
          have hk3 := hkr.drew.trans hk2 (fun i hi => .inr (HF.out i hi))
          have HC2 := Lib.hid (HC.out.write n l)
          have HD2 := Lib.hid hd
          have HK3 := Lib.hid hk3
          clear hd hk2 hk3 q1 q3 HC HD hap hl1
          go_wp2_with fail
          go_roundw
          case rel => exact ⟨k + 1, _, by go_num, by omega, HD2.out, HC2.out, HK3.out⟩
          case measure => simp [intOf]; omega
      · have hcase : (k : Int) < os0.length ∧ ¬(k : Int) < 20 ∨ ¬(k : Int) < os0.length := by omega
        clear hlt hk
        rcases hcase with ⟨h1, h2⟩ | h1
        all_goals
          go_wp2_with fail
          go_meet
          case rel => exact ⟨⟨k, rfl⟩, d, HD.out, HC.out, hkr⟩
  case rest =>
    obtain ⟨⟨k0, rfl⟩, d, hd, hc, hkr⟩ := hcut
    have HD := Lib.hid hd
    have HC := Lib.hid hc
    have HK := Lib.hid hkr
    clear hd hc hkr HD1 HK1
    go_wp2_with (go_at_call 12; refine Calls.mono (sync_any HD.out) ?_; rw [HC.out.sync]; rintro e wy ⟨rfl, hd, hk⟩; have HC2 := Lib.hid HC.out.synced; have HD2 := Lib.hid hd; have HK2 := Lib.hid (HK.out.trans hk (fun i hi => .inr (HF.out i hi))); clear hd hk HD HK)
    have HN2 := Lib.hid (PDisk.synced_now' d)
    clear HC
    revert HC2 HD2 HN2
    generalize d.synced = d2
    intro HC2 HD2 HN2
    have ka := (Kept.refl [] wy).alloc (.cells #[.string ⟨#[]⟩, .string ⟨#[]⟩, .string ⟨#[]⟩, .string ⟨#[]⟩, .string ⟨#[]⟩, .string ⟨#[]⟩] 34)
    have kb := (Kept.refl [] (wy.alloc (.cells #[.string ⟨#[]⟩, .string ⟨#[]⟩, .string ⟨#[]⟩, .string ⟨#[]⟩, .string ⟨#[]⟩, .string ⟨#[]⟩] 34))).alloc (.cells #[.string ⟨#[]⟩, .string ⟨#[]⟩, .string ⟨#[]⟩, .string ⟨#[]⟩, .string ⟨#[]⟩, .string ⟨#[]⟩] 34)
    have hb1 : ((wy.alloc (.cells #[.string ⟨#[]⟩, .string ⟨#[]⟩, .string ⟨#[]⟩, .string ⟨#[]⟩, .string ⟨#[]⟩, .string ⟨#[]⟩] 34)).alloc (.cells #[.string ⟨#[]⟩, .string ⟨#[]⟩, .string ⟨#[]⟩, .string ⟨#[]⟩, .string ⟨#[]⟩, .string ⟨#[]⟩] 34)).heap[wy.heap.size]? = some (.cells (filled 6 0 (strs fun j => d2.sure.getD j []) noStr) 34 (0, 0)) := kb.heap (heap_alloc_new wy _) (by simp)
    have hb2 : ((wy.alloc (.cells #[.string ⟨#[]⟩, .string ⟨#[]⟩, .string ⟨#[]⟩, .string ⟨#[]⟩, .string ⟨#[]⟩, .string ⟨#[]⟩] 34)).alloc (.cells #[.string ⟨#[]⟩, .string ⟨#[]⟩, .string ⟨#[]⟩, .string ⟨#[]⟩, .string ⟨#[]⟩, .string ⟨#[]⟩] 34)).heap[wy.heap.size + 1]? = some (.cells #[.string ⟨#[]⟩, .string ⟨#[]⟩, .string ⟨#[]⟩, .string ⟨#[]⟩, .string ⟨#[]⟩, .string ⟨#[]⟩] 34 (0, 0)) := by
      have := heap_alloc_new (wy.alloc (.cells #[.string ⟨#[]⟩, .string ⟨#[]⟩, .string ⟨#[]⟩, .string ⟨#[]⟩, .string ⟨#[]⟩, .string ⟨#[]⟩] 34)) (.cells #[.string ⟨#[]⟩, .string ⟨#[]⟩, .string ⟨#[]⟩, .string ⟨#[]⟩, .string ⟨#[]⟩, .string ⟨#[]⟩] 34)
      simpa using this
    have HD3 := Lib.hid (HD2.out.kept0 (ka.then kb))
    have HK3 := Lib.hid (HK2.out.then (ka.then kb))
    have hs1 := Lib.hid HK2.out.size
    have hs2 := Lib.hid HD2.out.lt
    clear ka kb HD2 HK2
    revert hb1 hb2 HD3 HK3 hs1 hs2
    generalize ((wy.alloc (.cells #[.string ⟨#[]⟩, .string ⟨#[]⟩, .string ⟨#[]⟩, .string ⟨#[]⟩, .string ⟨#[]⟩, .string ⟨#[]⟩] 34)).alloc (.cells #[.string ⟨#[]⟩, .string ⟨#[]⟩, .string ⟨#[]⟩, .string ⟨#[]⟩, .string ⟨#[]⟩, .string ⟨#[]⟩] 34)) = w5
    generalize wy.heap.size = ab
    intro hb1 hb2 HD3 HK3 hs1 hs2
    have hab : Hid (ab ∉ F) := Lib.hid (fun hx => by have := hs2.out ab hx; omega)
    have hac : Hid (ab + 1 ∉ F) := Lib.hid (fun hx => by have := hs2.out _ hx; omega)
    have HB1 := Lib.hid hb1
    have HB2 := Lib.hid hb2
    clear hb1 hb2
    go_loopw [12] (fun i wr => ∃ k : Nat, i = .int .i64 k ∧ k ≤ 6 ∧ wr.heap[ab]? = some (.cells (filled 6 k (strs fun j => d2.sure.getD j []) noStr) 34 (0, 0)) ∧ wr.heap[ab + 1]? = some (.cells #[.string ⟨#[]⟩, .string ⟨#[]⟩, .string ⟨#[]⟩, .string ⟨#[]⟩, .string ⟨#[]⟩, .string ⟨#[]⟩] 34 (0, 0)) ∧ DiskRep wr b F d2 ∧ Kept [] w wr) (fun i _ => 6 - (intOf i).toNat)
    case atStart => exact ⟨0, rfl, by decide, HB1.out, HB2.out, HD3.out, HK3.out⟩
    case round =>
      obtain ⟨k, rfl, hk, hb, hb', hd, hkr⟩ := hrel
      clear HB1 HB2 HD3 HK3
      have HD := Lib.hid hd
      have HB := Lib.hid hb
      have HB' := Lib.hid hb'
      clear hd hb hb'
      by_cases hlt : k < 6
      · go_wp2_with (go_at_call 13; refine Calls.mono (read_any HD.out k) ?_; rw [HC2.out.read hlt, HN2.out]; rintro e wx ⟨v, rfl, hv, hk2⟩; have cv : (convert 30 9 v).run Try.prog wx = .ok (.string (str (d2.sure.getD k []))) wx := Bytes.toStr hv.1; have hb := hk2.heap HB.out (by simp); have c0 := cell_head hb (filled_at 6 k _ _ k hlt); have c1 := free_head (o := k) hb)
        case roundEnd => exact ⟨⟨k + 1, by go_num, by omega, filled_store hb, ((Kept.refl [ab] wx).setCell (.inl (by simp)) _).heap (hk2.heap HB'.out (by simp)) (by simp), filled_disk (HD.out.kept0 hk2) hb (by decide) hab.out _ _, filled_kept _ _ hs1.out (hkr.then hk2)⟩, by simp [intOf]; omega⟩
      · obtain rfl : k = 6 := by omega
        have HK := Lib.hid hkr
        clear hkr hlt
        go_upto_block 4 with fail
        go_cut [15] from 24 (fun i wc => (∃ k : Nat, i = .int .i64 k) ∧ ∃ d : PDisk, DiskRep wc b F d ∧ d.Calm 6 ∧ d.sure = d2.sure ∧ wc.heap[ab]? = some (.cells (filled 6 6 (strs fun j => d2.sure.getD j []) noStr) 34 (0, 0)) ∧ wc.heap[ab + 1]? = some (.cells #[.string ⟨#[]⟩, .string ⟨#[]⟩, .string ⟨#[]⟩, .string ⟨#[]⟩, .string ⟨#[]⟩, .string ⟨#[]⟩] 34 (0, 0)) ∧ Kept [] w wc)
        case first =>
          go_wp2_with fail
          go_loopw [15] (fun i wc => ∃ (k : Nat) (d : PDisk), i = .int .i64 k ∧ k ≤ os1.length ∧ DiskRep wc b F d ∧ d.Calm 6 ∧ d.sure = d2.sure ∧ wc.heap[ab]? = some (.cells (filled 6 6 (strs fun j => d2.sure.getD j []) noStr) 34 (0, 0)) ∧ wc.heap[ab + 1]? = some (.cells #[.string ⟨#[]⟩, .string ⟨#[]⟩, .string ⟨#[]⟩, .string ⟨#[]⟩, .string ⟨#[]⟩, .string ⟨#[]⟩] 34 (0, 0)) ∧ Kept [] w wc) (fun i _ => os1.length - (intOf i).toNat)
          case atStart => exact ⟨0, _, rfl, Nat.zero_le _, HD.out, HC2.out, rfl, HB.out, HB'.out, HK.out⟩
          case round =>
            clear HD HB HB' HK
            obtain ⟨k, d, rfl, hk, hd, hc, hsu, hb, hb', hkr⟩ := hrel
            have HD := Lib.hid hd
            have HC := Lib.hid hc
            have HS := Lib.hid hsu
            have HB := Lib.hid hb
            have HB' := Lib.hid hb'
            clear hd hc hsu hb hb'
            by_cases hlt : k < os1.length ∧ k < 20
            · obtain ⟨hlt, h30⟩ := hlt
              obtain ⟨g, o, rfl, q0, q1, -, q3, -, hg, hat0, hat⟩ := H1.out.at hkr k hlt
              obtain ⟨l, hl, _⟩ := hat0.2.2.2.1
              have hap : Hid (∀ g, vblk os1[k].vb = some g → g ∉ F) := Lib.hid (fun g hg hx => by have := hl.lt hg; have := HF.out g hx; omega)
              have hl1 := Lib.hid (hl.kept0 hkr)
              clear hl hat hat0 q0
              revert q1 q3 hap hl1
              generalize os1[k] = ov
              obtain ⟨kd, n, kk, vb, vl⟩ := ov
              intro q1 q3 hap hl1
              simp only at q1 q3
              have h30' : (k : Int) < 20 := by omega
              have hlt' : (k : Int) < os1.length := by omega
              go_wp2_with fail
              go_region_with (go_at_call 11; refine Calls.mono (write_any (HD.out.kept0 (Kept.refl _ _).drew) n hl1.out.drew hap.out) ?_; rintro e wx ⟨rfl, hd, hk2⟩)
              all_goals
                have hk3 := hkr.drew.trans hk2 (fun i hi => .inr (HF.out i hi))
                have HC3 := Lib.hid (HC.out.write n l)
                have HS3 := Lib.hid ((PDisk.write_sure d n l).trans HS.out)
                have HB3 := Lib.hid (hk2.heap HB.out hab.out)
                have HB3' := Lib.hid (hk2.heap HB'.out hac.out)
                have HD3 := Lib.hid hd
                have HK3 := Lib.hid hk3
                clear hd hk2 hk3 q1 q3 HC HD HS HB HB' hap hl1
                go_wp2_with fail
                go_roundw
                case rel => (repeat apply Exists.intro); exact ⟨⟨k + 1, _, by go_num, by omega, HD3.out, HC3.out, HS3.out, HB3.out, HB3'.out, HK3.out⟩, rfl⟩
                case measure => simp [intOf]; omega
            · have hcase : (k : Int) < os1.length ∧ ¬(k : Int) < 20 ∨ ¬(k : Int) < os1.length := by omega
              clear hlt hk
              rcases hcase with ⟨h1, h2⟩ | h1
              all_goals
                go_wp2_with fail
                go_meet
                case rel => exact ⟨⟨k, rfl⟩, d, HD.out, HC.out, HS.out, HB.out, HB'.out, hkr⟩
        case rest =>
          clear HD HB HB' HK
          obtain ⟨⟨k1, rfl⟩, d3, hd, hc, hsu, hb, hb', hkr⟩ := hcut
          have HD3 := Lib.hid hd
          have HC3 := Lib.hid hc
          have HS3 := Lib.hid hsu
          have HB3 := Lib.hid hb
          have HB3' := Lib.hid hb'
          have HK3 := Lib.hid hkr
          clear hd hc hsu hb hb' hkr
          go_wp2_with fail
          go_loopw [16] (fun i wr => ∃ k : Nat, i = .int .i64 k ∧ k ≤ 6 ∧ wr.heap[ab]? = some (.cells (filled 6 6 (strs fun j => d2.sure.getD j []) noStr) 34 (0, 0)) ∧ wr.heap[ab + 1]? = some (.cells (filled 6 k (strs fun j => d3.now j) noStr) 34 (0, 0)) ∧ DiskRep wr b F d3 ∧ Kept [] w wr) (fun i _ => 6 - (intOf i).toNat)
          case atStart => exact ⟨0, rfl, by decide, HB3.out, HB3'.out, HD3.out, HK3.out⟩
          case round =>
            obtain ⟨k, rfl, hk, hb, hb', hd, hkr⟩ := hrel
            clear HB3 HB3' HD3 HK3
            have HD := Lib.hid hd
            have HB := Lib.hid hb
            have HB' := Lib.hid hb'
            clear hd hb hb'
            by_cases hlt : k < 6
            · go_wp2_with (go_at_call 13; refine Calls.mono (read_any HD.out k) ?_; rw [HC3.out.read hlt]; rintro e wx ⟨v, rfl, hv, hk2⟩; have cv : (convert 30 9 v).run Try.prog wx = .ok (.string (str (d3.now k))) wx := Bytes.toStr hv.1; have hb := hk2.heap HB'.out (by simp); have c0 := cell_head hb (filled_at 6 k _ _ k hlt); have c1 := free_head (o := k) hb)
              go_roundw
              case rel => (repeat apply Exists.intro); exact ⟨⟨k + 1, by go_num, by omega, ((Kept.refl [ab + 1] wx).setCell (.inl (by simp)) _).heap (hk2.heap HB.out (by simp)) (by simp), filled_store hb, filled_disk (HD.out.kept0 hk2) hb (by decide) hac.out _ _, filled_kept _ _ (Nat.le_succ_of_le hs1.out) (hkr.then hk2)⟩, rfl⟩
              case measure => simp [intOf]; omega
            · obtain rfl : k = 6 := by omega
              have HK := Lib.hid hkr
              clear hkr hlt
              by_cases hten : (10 : Int) < ks.length
              · go_wp2_with fail
                go_ret
                exact ⟨rfl, HK.out⟩
              · have hlim : ks.length ≤ lim := by unfold lim; omega
                have hw64 : ∀ p, p ∈ ks → (Lit.int .i64 p.1).wf = true := fun p hp => (H3.out.1 p hp).1
                have hvk := H2.out.kept0 HK.out
                by_cases hkp : d3.keeps ks = true
                · have hcr := crash_yes HD.out ks hvk hw64 hlim hkp (fun g hg hx => by have := H2.out.lt hg; have := HF.out g hx; omega)
                  have HCR := Lib.hid hcr
                  have HKP := Lib.hid hkp
                  clear hvk hw64 hlim hkp hcr
                  go_wp2_with (go_at_call 14; refine Calls.mono HCR.out ?_; rintro e wn ⟨F', rfl, hd, hk, hF'⟩; have HD4 := Lib.hid hd; have HB4 := Lib.hid (hk.heap HB.out hab.out); have HB4' := Lib.hid (hk.heap HB'.out hac.out); have HK4 := Lib.hid (HK.out.trans hk (fun i hi => .inr (HF.out i hi))); have HC4 := Lib.hid (PDisk.crash_calm HC3.out.2.2 HKP.out); have HAT := Lib.hid (fun i (hi : i < 6) => PDisk.crash_at d3 HD.out.ok i (by rw [HC3.out.2.2]; exact hi) ks [] d3.sure HKP.out rfl rfl); have H64 := Lib.hid HD.out.ok; clear hd hk hF' HD HB HB' HK)
                  revert HD4 HC4
                  rw [show (d3.crashSure ks) = ks.foldl d3.crashOne d3.sure from rfl]
                  generalize (d3.crash ks).2 = d4
                  intro HD4 HC4
                  obtain ⟨hc4, -, hnow⟩ := HC4.out
                  have HC5 := Lib.hid hc4
                  have HN := Lib.hid hnow
                  clear hc4 hnow HC4 HCR HKP hten
                  go_loopw [19] (fun i wr => ∃ k : Nat, i = .int .i64 k ∧ k ≤ 6 ∧ wr.heap[ab]? = some (.cells (filled 6 6 (strs fun j => d2.sure.getD j []) noStr) 34 (0, 0)) ∧ wr.heap[ab + 1]? = some (.cells (filled 6 6 (strs fun j => d3.now j) noStr) 34 (0, 0)) ∧ DiskRep wr b F' d4 ∧ Kept [] w wr) (fun i _ => 6 - (intOf i).toNat)
                  case atStart => exact ⟨0, rfl, by decide, HB4.out, HB4'.out, HD4.out, HK4.out⟩
                  case round =>
                    obtain ⟨k, rfl, hk, hb, hb', hd, hkr⟩ := hrel
                    clear HB4 HB4' HD4 HK4
                    have HD := Lib.hid hd
                    have HB := Lib.hid hb
                    have HB' := Lib.hid hb'
                    have HK := Lib.hid hkr
                    clear hd hb hb' hkr
                    by_cases hlt : k < 6
                    · go_wp2_with fail
                      go_loopw [20, 21] (fun n j wv => ∃ m : Nat, j = .int .i64 m ∧ m ≤ ks.length ∧ n = .int .i64 (lastN (ks.take m) k) ∧ wv = wr) (fun n j _ => ks.length - (intOf j).toNat)
                      case atStart => exact ⟨0, rfl, Nat.zero_le _, rfl, rfl⟩
                      case round =>
                        obtain ⟨m, rfl, hm, rfl, rfl⟩ := hrel
                        by_cases hmlt : m < ks.length
                        · obtain ⟨g, o, rfl, q0, q1⟩ := kepts_at H2.out HK.out m hmlt
                          have hsucc := Lib.hid (lastN_succ ks m hmlt k)
                          revert q0 q1 hsucc
                          generalize ks[m] = pr
                          obtain ⟨x, y⟩ := pr
                          intro q0 q1 hsucc
                          simp only at q0 q1
                          have hmlt' : (m : Int) < ks.length := by omega
                          by_cases hx : x = (k : Int)
                          · subst hx
                            go_wp2_with fail
                            case roundEnd => exact ⟨⟨m + 1, by go_num, by omega, by rw [hsucc.out, if_pos rfl], trivial⟩, by simp [intOf]; omega⟩
                          · go_wp2_with fail
                            case roundEnd => exact ⟨⟨m + 1, by go_num, by omega, by rw [hsucc.out, if_neg hx], trivial⟩, by simp [intOf]; omega⟩
                        · obtain rfl : m = ks.length := by omega
                          rw [List.take_length]
                          obtain ⟨hcr, hn0, hn64⟩ := HAT.out k hlt
                          have cA : wr.cell? ⟨ab, k, none⟩ = some (.string (str (d2.sure.getD k []))) := by
                            have := cell_head HB.out (filled_at 6 6 _ _ k hlt)
                            rw [if_pos hlt] at this
                            exact this
                          have cB : wr.cell? ⟨ab + 1, k, none⟩ = some (.string (str (d3.now k))) := by
                            have := cell_head HB'.out (filled_at 6 6 _ _ k hlt)
                            rw [if_pos hlt] at this
                            exact this
                          have hk6 : k < d3.sure.length := by rw [HC3.out.2.2]; exact hlt
                          have hz2 : (d3.now k).length = 64 := H64.out.now64 (by omega) (by omega)
                          have hz1 : (d2.sure.getD k []).length = 64 := by
                            rw [← HS3.out, List.getD_eq_getElem?_getD, List.getElem?_eq_getElem hk6]
                            exact H64.out.s64 _ (List.getElem_mem _)
                          have e2 : str (d4.now k) = (str (d3.now k)).extract 0 (lastN ks k).toNat ++ (str (d2.sure.getD k [])).extract (lastN ks k).toNat 64 := by
                            rw [HN.out k, hcr, HS3.out]
                            exact str_cut _ _ _ hz1
                          have hz1' : (str (d2.sure.getD k [])).size = 64 := by rw [str_size, hz1]
                          have hz2' : (str (d3.now k)).size = 64 := by rw [str_size, hz2]
                          clear hcr hz1 hz2 hk6
                          have E2 := Lib.hid e2
                          clear e2
                          revert cA cB E2 hz1' hz2' hn0 hn64
                          generalize str (d2.sure.getD k []) = S1
                          generalize str (d3.now k) = S2
                          generalize lastN ks k = n
                          intro hn0 hn64 cA cB hz1 hz2 E2
                          have hn1 : n ≤ 64 := hn64
                          have hlt' : ¬((64 : Int) < n) := by omega
                          have hge' : ¬(n < 0) := by omega
                          go_wp2_with (go_at_call 13; refine Calls.mono (read_any HD.out k) ?_; rw [HC5.out.read hlt]; rintro e wx ⟨v, rfl, hv, hk2⟩; have cv : (convert 30 9 v).run Try.prog wx.drew = .ok (.string (S2.extract 0 n.toNat ++ S1.extract n.toNat 64)) wx.drew := (by rw [← E2.out]; exact Bytes.toStr hv.1.drew); have cA' := hk2.cell cA (by simp); have cB' := hk2.cell cB (by simp))
                          clear cA cB
                          have hSS : (fun w' : World => w' = wx.drew) wx.drew := rfl
                          refine wp_region_last' (n := 40) (fun w' : World => w' = wx.drew) 40 (by kernel_rfl) (by kernel_rfl) ?_
                          change wpAnyT _ _ _ _ _ _ _ _ _ wx.drew
                          refine wpAnyT_start ?_
                          intro O R hO hR
                          have hQp : ∀ c a (d : Nat) v w, R (.panic c) (a.put (some d) v) w → R (.panic c) a w := by subst hR; exact fun _ _ _ _ _ h => h
                          refine wpAnyT_take' (i := 0) (v := ?_) hO rfl rfl (by kernel_rfl) (by kernel_rfl) (by kernel_rfl) (by kernel_rfl) hQp (Or.inl ⟨by kernel_rfl, fun w hSw => ?_⟩) hSS ?_
                          rotate_left
                          · have hw0 : w = wx.drew := hSw; subst hw0; go_simp; try with_reducible rfl
                          try simp only [Act.put, List.setIfInBounds_toArray, List.set_cons_zero, List.set_cons_succ]
                          refine wpAnyT_take' (i := 1) (v := ?_) hO rfl rfl (by kernel_rfl) (by kernel_rfl) (by kernel_rfl) (by kernel_rfl) hQp (Or.inl ⟨by kernel_rfl, fun w hSw => ?_⟩) hSS ?_
                          rotate_left
                          · have hw0 : w = wx.drew := hSw; subst hw0; go_simp; try with_reducible rfl
                          try simp only [Act.put, List.setIfInBounds_toArray, List.set_cons_zero, List.set_cons_succ]
                          refine wpAnyT_take' (i := 2) (v := ?_) hO rfl rfl (by kernel_rfl) (by kernel_rfl) (by kernel_rfl) (by kernel_rfl) hQp (Or.inl ⟨by kernel_rfl, fun w hSw => ?_⟩) hSS ?_
                          rotate_left
                          · have hw0 : w = wx.drew := hSw; subst hw0; go_simp; try with_reducible rfl
                          try simp only [Act.put, List.setIfInBounds_toArray, List.set_cons_zero, List.set_cons_succ]
                          refine wpAnyT_take' (i := 3) (v := ?_) hO rfl rfl (by kernel_rfl) (by kernel_rfl) (by kernel_rfl) (by kernel_rfl) hQp (Or.inl ⟨by kernel_rfl, fun w hSw => ?_⟩) hSS ?_
                          rotate_left
                          · have hw0 : w = wx.drew := hSw; subst hw0; go_simp; try with_reducible rfl
                          try simp only [Act.put, List.setIfInBounds_toArray, List.set_cons_zero, List.set_cons_succ]
                          refine wpAnyT_take' (i := 4) (v := ?_) hO rfl rfl (by kernel_rfl) (by kernel_rfl) (by kernel_rfl) (by kernel_rfl) hQp (Or.inl ⟨by kernel_rfl, fun w hSw => ?_⟩) hSS ?_
                          rotate_left
                          · have hw0 : w = wx.drew := hSw; subst hw0; go_simp; try with_reducible rfl
                          try simp only [Act.put, List.setIfInBounds_toArray, List.set_cons_zero, List.set_cons_succ]
                          refine wpAnyT_take' (i := 5) (v := ?_) hO rfl rfl (by kernel_rfl) (by kernel_rfl) (by kernel_rfl) (by kernel_rfl) hQp (Or.inl ⟨by kernel_rfl, fun w hSw => ?_⟩) hSS ?_
                          rotate_left
                          · have hw0 : w = wx.drew := hSw; subst hw0; go_simp; try with_reducible rfl
                          try simp only [Act.put, List.setIfInBounds_toArray, List.set_cons_zero, List.set_cons_succ]
                          refine wpAnyT_take' (i := 6) (v := ?_) hO rfl rfl (by kernel_rfl) (by kernel_rfl) (by kernel_rfl) (by kernel_rfl) hQp (Or.inl ⟨by kernel_rfl, fun w hSw => ?_⟩) hSS ?_
                          rotate_left
                          · have hw0 : w = wx.drew := hSw; subst hw0; go_simp; try with_reducible rfl
                          try simp only [Act.put, List.setIfInBounds_toArray, List.set_cons_zero, List.set_cons_succ]
                          refine wpAnyT_take' (i := 7) (v := ?_) hO rfl rfl (by kernel_rfl) (by kernel_rfl) (by kernel_rfl) (by kernel_rfl) hQp (Or.inl ⟨by kernel_rfl, fun w hSw => ?_⟩) hSS ?_
                          rotate_left
                          · have hw0 : w = wx.drew := hSw; subst hw0; go_simp; try with_reducible rfl
                          try simp only [Act.put, List.setIfInBounds_toArray, List.set_cons_zero, List.set_cons_succ]
                          refine wpAnyT_take' (i := 8) (v := ?_) hO rfl rfl (by kernel_rfl) (by kernel_rfl) (by kernel_rfl) (by kernel_rfl) hQp (Or.inl ⟨by kernel_rfl, fun w hSw => ?_⟩) hSS ?_
                          rotate_left
                          · have hw0 : w = wx.drew := hSw; subst hw0; go_simp; try with_reducible rfl
                          try simp only [Act.put, List.setIfInBounds_toArray, List.set_cons_zero, List.set_cons_succ]
                          refine wpAnyT_take' (i := 9) (v := ?_) hO rfl rfl (by kernel_rfl) (by kernel_rfl) (by kernel_rfl) (by kernel_rfl) hQp (Or.inl ⟨by kernel_rfl, fun w hSw => ?_⟩) hSS ?_
                          rotate_left
                          · have hw0 : w = wx.drew := hSw; subst hw0; go_simp; try with_reducible rfl
                          try simp only [Act.put, List.setIfInBounds_toArray, List.set_cons_zero, List.set_cons_succ]
                          refine wpAnyT_take' (i := 10) (v := ?_) hO rfl rfl (by kernel_rfl) (by kernel_rfl) (by kernel_rfl) (by kernel_rfl) hQp (Or.inl ⟨by kernel_rfl, fun w hSw => ?_⟩) hSS ?_
                          rotate_left
                          · have hw0 : w = wx.drew := hSw; subst hw0; go_simp; try with_reducible rfl
                          try simp only [Act.put, List.setIfInBounds_toArray, List.set_cons_zero, List.set_cons_succ]
                          refine wpAnyT_take' (i := 11) (v := ?_) hO rfl rfl (by kernel_rfl) (by kernel_rfl) (by kernel_rfl) (by kernel_rfl) hQp (Or.inl ⟨by kernel_rfl, fun w hSw => ?_⟩) hSS ?_
                          rotate_left
                          · have hw0 : w = wx.drew := hSw; subst hw0; go_simp; try with_reducible rfl
                          try simp only [Act.put, List.setIfInBounds_toArray, List.set_cons_zero, List.set_cons_succ]
                          refine wpAnyT_take' (i := 12) (v := ?_) hO rfl rfl (by kernel_rfl) (by kernel_rfl) (by kernel_rfl) (by kernel_rfl) hQp (Or.inl ⟨by kernel_rfl, fun w hSw => ?_⟩) hSS ?_
                          rotate_left
                          · have hw0 : w = wx.drew := hSw; subst hw0; go_simp; try with_reducible rfl
                          try simp only [Act.put, List.setIfInBounds_toArray, List.set_cons_zero, List.set_cons_succ]
                          refine wpAnyT_take' (i := 13) (v := ?_) hO rfl rfl (by kernel_rfl) (by kernel_rfl) (by kernel_rfl) (by kernel_rfl) hQp (Or.inl ⟨by kernel_rfl, fun w hSw => ?_⟩) hSS ?_
                          rotate_left
                          · have hw0 : w = wx.drew := hSw; subst hw0; go_simp; try with_reducible rfl
                          try simp only [Act.put, List.setIfInBounds_toArray, List.set_cons_zero, List.set_cons_succ]
                          refine wpAnyT_take' (i := 14) (v := ?_) hO rfl rfl (by kernel_rfl) (by kernel_rfl) (by kernel_rfl) (by kernel_rfl) hQp (Or.inl ⟨by kernel_rfl, fun w hSw => ?_⟩) hSS ?_
                          rotate_left
                          · have hw0 : w = wx.drew := hSw; subst hw0; go_simp; try with_reducible rfl
                          try simp only [Act.put, List.setIfInBounds_toArray, List.set_cons_zero, List.set_cons_succ]
                          refine wpAnyT_take' (i := 15) (v := ?_) hO rfl rfl (by kernel_rfl) (by kernel_rfl) (by kernel_rfl) (by kernel_rfl) hQp (Or.inl ⟨by kernel_rfl, fun w hSw => ?_⟩) hSS ?_
                          rotate_left
                          · have hw0 : w = wx.drew := hSw; subst hw0; go_simp; try with_reducible rfl
                          try simp only [Act.put, List.setIfInBounds_toArray, List.set_cons_zero, List.set_cons_succ]
                          refine wpAnyT_take' (i := 16) (v := ?_) hO rfl rfl (by kernel_rfl) (by kernel_rfl) (by kernel_rfl) (by kernel_rfl) hQp (Or.inl ⟨by kernel_rfl, fun w hSw => ?_⟩) hSS ?_
                          rotate_left
                          · have hw0 : w = wx.drew := hSw; subst hw0; go_simp; try with_reducible rfl
                          try simp only [Act.put, List.setIfInBounds_toArray, List.set_cons_zero, List.set_cons_succ]
                          refine wpAnyT_take' (i := 17) (v := ?_) hO rfl rfl (by kernel_rfl) (by kernel_rfl) (by kernel_rfl) (by kernel_rfl) hQp (Or.inl ⟨by kernel_rfl, fun w hSw => ?_⟩) hSS ?_
                          rotate_left
                          · have hw0 : w = wx.drew := hSw; subst hw0; go_simp; try with_reducible rfl
                          try simp only [Act.put, List.setIfInBounds_toArray, List.set_cons_zero, List.set_cons_succ]
                          refine wpAnyT_take' (i := 18) (v := ?_) hO rfl rfl (by kernel_rfl) (by kernel_rfl) (by kernel_rfl) (by kernel_rfl) hQp (Or.inl ⟨by kernel_rfl, fun w hSw => ?_⟩) hSS ?_
                          rotate_left
                          · have hw0 : w = wx.drew := hSw; subst hw0; go_simp; simp only [decide_eq_false (Int.not_lt.2 hn0)]; try with_reducible rfl
                          try simp only [Act.put, List.setIfInBounds_toArray, List.set_cons_zero, List.set_cons_succ]
                          refine wpAnyT_take' (i := 19) (v := ?_) hO rfl rfl (by kernel_rfl) (by kernel_rfl) (by kernel_rfl) (by kernel_rfl) hQp (Or.inl ⟨by kernel_rfl, fun w hSw => ?_⟩) hSS ?_
                          rotate_left
                          · have hw0 : w = wx.drew := hSw; subst hw0; go_simp; try with_reducible rfl
                          try simp only [Act.put, List.setIfInBounds_toArray, List.set_cons_zero, List.set_cons_succ]
                          refine wpAnyT_take' (i := 20) (v := ?_) hO rfl rfl (by kernel_rfl) (by kernel_rfl) (by kernel_rfl) (by kernel_rfl) hQp (Or.inl ⟨by kernel_rfl, fun w hSw => ?_⟩) hSS ?_
                          rotate_left
                          · have hw0 : w = wx.drew := hSw; subst hw0; go_simp; try with_reducible rfl
                          try simp only [Act.put, List.setIfInBounds_toArray, List.set_cons_zero, List.set_cons_succ]
                          refine wpAnyT_take' (i := 21) (v := ?_) hO rfl rfl (by kernel_rfl) (by kernel_rfl) (by kernel_rfl) (by kernel_rfl) hQp (Or.inl ⟨by kernel_rfl, fun w hSw => ?_⟩) hSS ?_
                          rotate_left
                          · have hw0 : w = wx.drew := hSw; subst hw0; go_simp; try with_reducible rfl
                          try simp only [Act.put, List.setIfInBounds_toArray, List.set_cons_zero, List.set_cons_succ]
                          refine wpAnyT_take' (i := 22) (v := ?_) hO rfl rfl (by kernel_rfl) (by kernel_rfl) (by kernel_rfl) (by kernel_rfl) hQp (Or.inl ⟨by kernel_rfl, fun w hSw => ?_⟩) hSS ?_
                          rotate_left
                          · have hw0 : w = wx.drew := hSw; subst hw0; go_simp; simp only [gt_iff_lt, decide_eq_false (Int.not_lt.2 hn64)]; try with_reducible rfl
                          try simp only [Act.put, List.setIfInBounds_toArray, List.set_cons_zero, List.set_cons_succ]
                          refine wpAnyT_take' (i := 23) (v := ?_) hO rfl rfl (by kernel_rfl) (by kernel_rfl) (by kernel_rfl) (by kernel_rfl) hQp (Or.inl ⟨by kernel_rfl, fun w hSw => ?_⟩) hSS ?_
                          rotate_left
                          · have hw0 : w = wx.drew := hSw; subst hw0; go_simp; try with_reducible rfl
                          try simp only [Act.put, List.setIfInBounds_toArray, List.set_cons_zero, List.set_cons_succ]
                          refine wpAnyT_take' (i := 24) (v := ?_) hO rfl rfl (by kernel_rfl) (by kernel_rfl) (by kernel_rfl) (by kernel_rfl) hQp (Or.inl ⟨by kernel_rfl, fun w hSw => ?_⟩) hSS ?_
                          rotate_left
                          · have hw0 : w = wx.drew := hSw; subst hw0; go_simp; try with_reducible rfl
                          try simp only [Act.put, List.setIfInBounds_toArray, List.set_cons_zero, List.set_cons_succ]
                          refine wpAnyT_take' (i := 25) (v := ?_) hO rfl rfl (by kernel_rfl) (by kernel_rfl) (by kernel_rfl) (by kernel_rfl) hQp (Or.inl ⟨by kernel_rfl, fun w hSw => ?_⟩) hSS ?_
                          rotate_left
                          · have hw0 : w = wx.drew := hSw; subst hw0; go_simp; try with_reducible rfl
                          try simp only [Act.put, List.setIfInBounds_toArray, List.set_cons_zero, List.set_cons_succ]
                          refine wpAnyT_take' (i := 26) (v := ?_) hO rfl rfl (by kernel_rfl) (by kernel_rfl) (by kernel_rfl) (by kernel_rfl) hQp (Or.inl ⟨by kernel_rfl, fun w hSw => ?_⟩) hSS ?_
                          rotate_left
                          · have hw0 : w = wx.drew := hSw; subst hw0; go_simp; try with_reducible rfl
                          try simp only [Act.put, List.setIfInBounds_toArray, List.set_cons_zero, List.set_cons_succ]
                          refine wpAnyT_take' (i := 27) (v := ?_) hO rfl rfl (by kernel_rfl) (by kernel_rfl) (by kernel_rfl) (by kernel_rfl) hQp (Or.inl ⟨by kernel_rfl, fun w hSw => ?_⟩) hSS ?_
                          rotate_left
                          · have hw0 : w = wx.drew := hSw; subst hw0; go_simp; try with_reducible rfl
                          try simp only [Act.put, List.setIfInBounds_toArray, List.set_cons_zero, List.set_cons_succ]
                          refine wpAnyT_take' (i := 28) (v := ?_) hO rfl rfl (by kernel_rfl) (by kernel_rfl) (by kernel_rfl) (by kernel_rfl) hQp (Or.inl ⟨by kernel_rfl, fun w hSw => ?_⟩) hSS ?_
                          rotate_left
                          · have hw0 : w = wx.drew := hSw; subst hw0; go_simp; try with_reducible rfl
                          try simp only [Act.put, List.setIfInBounds_toArray, List.set_cons_zero, List.set_cons_succ]
                          refine wpAnyT_take' (i := 29) (v := ?_) hO rfl rfl (by kernel_rfl) (by kernel_rfl) (by kernel_rfl) (by kernel_rfl) hQp (Or.inl ⟨by kernel_rfl, fun w hSw => ?_⟩) hSS ?_
                          rotate_left
                          · have hw0 : w = wx.drew := hSw; subst hw0; go_simp; try with_reducible rfl
                          try simp only [Act.put, List.setIfInBounds_toArray, List.set_cons_zero, List.set_cons_succ]
                          refine wpAnyT_take' (i := 30) (v := ?_) hO rfl rfl (by kernel_rfl) (by kernel_rfl) (by kernel_rfl) (by kernel_rfl) hQp (Or.inl ⟨by kernel_rfl, fun w hSw => ?_⟩) hSS ?_
                          rotate_left
                          · have hw0 : w = wx.drew := hSw; subst hw0; go_simp; try with_reducible rfl
                          try simp only [Act.put, List.setIfInBounds_toArray, List.set_cons_zero, List.set_cons_succ]
                          refine wpAnyT_take' (i := 31) (v := ?_) hO rfl rfl (by kernel_rfl) (by kernel_rfl) (by kernel_rfl) (by kernel_rfl) hQp (Or.inl ⟨by kernel_rfl, fun w hSw => ?_⟩) hSS ?_
                          rotate_left
                          · have hw0 : w = wx.drew := hSw; subst hw0; go_simp; try with_reducible rfl
                          try simp only [Act.put, List.setIfInBounds_toArray, List.set_cons_zero, List.set_cons_succ]
                          refine wpAnyT_take' (i := 32) (v := ?_) hO rfl rfl (by kernel_rfl) (by kernel_rfl) (by kernel_rfl) (by kernel_rfl) hQp (Or.inl ⟨by kernel_rfl, fun w hSw => ?_⟩) hSS ?_
                          rotate_left
                          · have hw0 : w = wx.drew := hSw; subst hw0; go_simp; try with_reducible rfl
                          try simp only [Act.put, List.setIfInBounds_toArray, List.set_cons_zero, List.set_cons_succ]
                          refine wpAnyT_take' (i := 33) (v := ?_) hO rfl rfl (by kernel_rfl) (by kernel_rfl) (by kernel_rfl) (by kernel_rfl) hQp (Or.inl ⟨by kernel_rfl, fun w hSw => ?_⟩) hSS ?_
                          rotate_left
                          · have hw0 : w = wx.drew := hSw; subst hw0; go_simp; try with_reducible rfl
                          try simp only [Act.put, List.setIfInBounds_toArray, List.set_cons_zero, List.set_cons_succ]
                          refine wpAnyT_take' (i := 34) (v := ?_) hO rfl rfl (by kernel_rfl) (by kernel_rfl) (by kernel_rfl) (by kernel_rfl) hQp (Or.inl ⟨by kernel_rfl, fun w hSw => ?_⟩) hSS ?_
                          rotate_left
                          · have hw0 : w = wx.drew := hSw; subst hw0; go_simp; try with_reducible rfl
                          try simp only [Act.put, List.setIfInBounds_toArray, List.set_cons_zero, List.set_cons_succ]
                          refine wpAnyT_take' (i := 35) (v := ?_) hO rfl rfl (by kernel_rfl) (by kernel_rfl) (by kernel_rfl) (by kernel_rfl) hQp (Or.inl ⟨by kernel_rfl, fun w hSw => ?_⟩) hSS ?_
                          rotate_left
                          · have hw0 : w = wx.drew := hSw; subst hw0; go_simp; try with_reducible rfl
                          try simp only [Act.put, List.setIfInBounds_toArray, List.set_cons_zero, List.set_cons_succ]
                          refine wpAnyT_take' (i := 36) (v := ?_) hO rfl rfl (by kernel_rfl) (by kernel_rfl) (by kernel_rfl) (by kernel_rfl) hQp (Or.inl ⟨by kernel_rfl, fun w hSw => ?_⟩) hSS ?_
                          rotate_left
                          · have hw0 : w = wx.drew := hSw; subst hw0; go_simp; try with_reducible rfl
                          try simp only [Act.put, List.setIfInBounds_toArray, List.set_cons_zero, List.set_cons_succ]
                          refine wpAnyT_take' (i := 37) (v := ?_) hO rfl rfl (by kernel_rfl) (by kernel_rfl) (by kernel_rfl) (by kernel_rfl) hQp (Or.inl ⟨by kernel_rfl, fun w hSw => ?_⟩) hSS ?_
                          rotate_left
                          · have hw0 : w = wx.drew := hSw; subst hw0; go_simp; try with_reducible rfl
                          try simp only [Act.put, List.setIfInBounds_toArray, List.set_cons_zero, List.set_cons_succ]
                          refine wpAnyT_take' (i := 38) (v := ?_) hO rfl rfl (by kernel_rfl) (by kernel_rfl) (by kernel_rfl) (by kernel_rfl) hQp (Or.inl ⟨by kernel_rfl, fun w hSw => ?_⟩) hSS ?_
                          rotate_left
                          · have hw0 : w = wx.drew := hSw; subst hw0; go_simp; try with_reducible rfl
                          try simp only [Act.put, List.setIfInBounds_toArray, List.set_cons_zero, List.set_cons_succ]
                          refine wpAnyT_take' (i := 39) (v := ?_) hO rfl rfl (by kernel_rfl) (by kernel_rfl) (by kernel_rfl) (by kernel_rfl) hQp (Or.inl ⟨by kernel_rfl, fun w hSw => ?_⟩) hSS ?_
                          rotate_left
                          · have hw0 : w = wx.drew := hSw; subst hw0; go_simp; try with_reducible rfl
                          try simp only [Act.put, List.setIfInBounds_toArray, List.set_cons_zero, List.set_cons_succ]
                          refine wpAnyT_done' hO (by kernel_rfl) ?_ _
                          subst hR
                          clear hO hQp
                          go_wp2_with fail
                          case roundEnd => exact ⟨⟨k + 1, by go_num, by omega, hk2.heap HB.out (by simp), hk2.heap HB'.out (by simp), HD.out.kept0 hk2.drew, (HK.out.then hk2).drew⟩, by simp [intOf]; omega⟩
                    · obtain rfl : k = 6 := by omega
                      go_wp2_with fail
                      go_ret
                      exact ⟨rfl, HK.out⟩
                · have hcr := crash_no HD.out ks hvk hw64 hlim (by simpa using hkp)
                  have HCR := Lib.hid hcr
                  clear hvk hw64 hlim hkp hcr
                  go_wp2_with (go_at_call 14; refine Calls.mono HCR.out ?_; rintro e wn ⟨rfl, hk⟩)
                  go_ret
                  exact ⟨rfl, HK.out.then hk⟩
end Go.Proofs.Ytfkdoinlbdcaaaa
