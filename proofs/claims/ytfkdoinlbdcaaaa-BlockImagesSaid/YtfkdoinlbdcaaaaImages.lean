/- BlockImages: a disk's image behind any calls, and what is loaded from it. -/
import Derived.Test.YtfkdoinlbdcaaaaBack
import Derived.Test.YtfkdoinlbdcaaaaDoes
namespace Go.Proofs.Ytfkdoinlbdcaaaa
open Go.RowKit

def loaded (s : List (List UInt8)) : PDisk := { PDisk.new s.length with sure := s }
theorem loaded_off (s : List (List UInt8)) : (loaded s).off = false := rfl
theorem loaded_keys (s : List (List UInt8)) : (loaded s).looseKeys = [] := by
  unfold PDisk.looseKeys
  have : ∀ j : Nat, ((loaded s).loose (j : Nat)).isSome = false := fun _ => rfl
  simp [this]
theorem loaded_read (s : List (List UInt8)) (j : Nat) (hj : j < s.length) : (loaded s).read j = (s[j], 0) := by
  have hm : (loaded s).may j = 0 := by
    unfold PDisk.may
    rw [if_neg (by rw [loaded_off]; decide), if_neg]
    rintro (h | h)
    · omega
    · have : (loaded s).sure.length = s.length := rfl
      rw [this] at h; omega
  unfold PDisk.read
  rw [if_neg (by rw [hm]; simp)]
  show (s.getD j [], (0 : Int)) = _
  rw [List.getD_eq_getElem?_getD, List.getElem?_eq_getElem hj]
  rfl
theorem loaded_write (s : List (List UInt8)) (lo : List UInt8) (h1 : 1 ≤ s.length) (hl : lo.length = 64) :
    ((loaded s).write 0 lo).1 = 0 ∧ ((loaded s).write 0 lo).2.sure = s ∧ ((loaded s).write 0 lo).2.sync.1 = 0 ∧ ((loaded s).write 0 lo).2.sync.2.sure = s.set 0 lo := by
  have hm : (loaded s).may 0 = 0 := by
    unfold PDisk.may
    rw [if_neg (by rw [loaded_off]; decide), if_neg]
    rintro (h | h)
    · omega
    · have : (loaded s).sure.length = s.length := rfl
      rw [this] at h; omega
  have hg : (loaded s).goes = loaded s := rfl
  have hw : (loaded s).write 0 lo = (0, (loaded s).upd 0 lo) := by
    unfold PDisk.write
    rw [if_neg (by rw [hm]; simp), if_neg (by rw [hl]; simp), hg, if_neg (by rw [loaded_off]; decide)]
  rw [hw]
  have hs : ((loaded s).upd 0 lo).sync = (0, ((loaded s).upd 0 lo).synced) := rfl
  rw [hs]
  refine ⟨rfl, rfl, rfl, ?_⟩
  show (List.range s.length).map (fun j => ((loaded s).upd 0 lo).now (j : Nat)) = s.set 0 lo
  apply List.ext_getElem
  · simp
  · intro j hj1 hj2
    rw [List.getElem_map, List.getElem_range]
    have hjs : j < s.length := by simpa using hj1
    by_cases h0 : j = 0
    · subst h0
      rw [List.getElem_set_self]
      rfl
    · rw [List.getElem_set_ne (Ne.symm h0)]
      have : ((loaded s).upd 0 lo).now (j : Nat) = s.getD j [] := by
        unfold PDisk.now
        have hn : ((loaded s).upd 0 lo).loose (j : Nat) = none := by
          show (if ((j : Nat) : Int) = 0 then some lo else none) = none
          rw [if_neg (by omega)]
        rw [hn]
        rfl
      rw [this, List.getD_eq_getElem?_getD, List.getElem?_eq_getElem hjs]
      rfl
theorem set_same {s : List (List UInt8)} {lo : List UInt8} (h : 0 < s.length) : decide (s.set 0 lo = s) = decide (s[0] = lo) := by
  by_cases e : s[0] = lo
  · rw [decide_eq_true e, decide_eq_true]
    rw [← e]
    exact List.set_getElem_self _
  · rw [decide_eq_false e, decide_eq_false]
    intro x
    apply e
    have := List.getElem_set_self (l := s) (i := 0) (a := lo) (by simpa using h)
    simp only [x] at this
    exact this

def tOther : ByteArray := ⟨#[111, 116, 104, 101, 114]⟩
def lOther : List UInt8 := pad tOther.data.toList
theorem lOther_len : lOther.length = 64 := pad_len _
theorem otherBlock (w : World) : Calls Try.prog 30 #[.string ⟨#[111, 116, 104, 101, 114]⟩] w fun e w' => ∃ v, e = .returned v ∧ NewBytes w w' v lOther ∧ Kept [] w w' := block_any _ _ (by decide)

set_option maxRecDepth 10000 in
set_option maxHeartbeats 1600000 in
theorem images_bad (n : Int) (hbad : n < 1 ∨ 30 < n) (a : Option Addr) (c : Nat) (os : List OpV) (w : World) (hO : Ops w (.slice a os.length c) os) :
    Calls Try.prog 8 #[.int .i64 n, .slice a os.length c] w fun e w' => e = .returned (.bool true) ∧ Kept [] w w' := by
  clear hO
  have hcase : (n < 1) ∨ (¬n < 1 ∧ 30 < n) := by omega
  clear hbad
  rcases hcase with h1 | ⟨h1, h2⟩
  all_goals
    go_enter Try.func8, Try.ntmps8
    go_wp2_with (go_at_call 10; refine (lives_any _).mono ?_; rintro e wb ⟨rfl, hk⟩)
    go_ret
    exact ⟨rfl, hk⟩

/-- Both disks, and a third one that was loaded. -/
structure Three (w wr : World) (b c y : Nat) (F G Y : List Nat) (d e : PDisk) : Prop where
  both : Both wr b c F G d
  third : DiskRep wr y Y e
  kept : Kept [] w wr
  far : ∀ x, x ∈ Y → x ∉ F ∧ x ∉ G ∧ w.heap.size ≤ x
theorem Three.then {w wr w' : World} {b c y : Nat} {F G Y : List Nat} {d e : PDisk} (h : Three w wr b c y F G Y d e) (k : Kept [] wr w') : Three w w' b c y F G Y d e := ⟨h.both.kept0 k, h.third.kept0 k, h.kept.then k, h.far⟩
theorem Three.turn {w wr w' : World} {b c y : Nat} {F G Y : List Nat} {d e e' : PDisk} (h : Three w wr b c y F G Y d e) (k : Kept Y wr w') (r : DiskRep w' y Y e') : Three w w' b c y F G Y d e' :=
  ⟨⟨h.both.disk.kept k (fun x hx => ⟨(h.far x hx).1, h.third.kinds x hx⟩), h.both.ref.kept k (fun x hx => ⟨(h.far x hx).2.1, h.third.kinds x hx⟩), h.both.apart⟩, r, h.kept.trans k (fun x hx => .inr (h.far x hx).2.2), h.far⟩

set_option maxRecDepth 10000 in
set_option maxHeartbeats 6400000 in
theorem images_good (m : Nat) (h1 : 1 ≤ m) (h2 : m ≤ 30) (a : Option Addr) (c0 : Nat) (os : List OpV) (w : World) (hO : Ops w (.slice a os.length c0) os) :
    Calls Try.prog 8 #[.int .i64 (m : Int), .slice a os.length c0] w fun e w' => e = .returned (.bool true) ∧ Kept [] w w' := by
  have hos := hO.2.1
  have hos2 : (os.length : Int) ≤ 9223372036854775807 := by simp only [maxLen] at hos; omega
  have HO := Lib.hid hO
  have hd1 : decide ((m : Int) < 1) = false := decide_eq_false (by omega)
  have hd2 : decide ((30 : Int) < m) = false := decide_eq_false (by omega)
  clear hO hos
  go_enter Try.func8, Try.ntmps8
  go_wp2_with (first
    | (go_at_call 9; refine Calls.mono (new_any m w (by omega) (by omega)) ?_; rintro e w1 ⟨b, F, rfl, hd, hk1, hF⟩; have HD := Lib.hid hd; have HK1 := Lib.hid hk1; have HF := Lib.hid hF; clear hd hk1 hF)
    | (go_at_call 16; refine Calls.mono (refNew_any m w1 (by omega) (by omega)) ?_; rintro e w2 ⟨c, G, rfl, hr, hk2, hG⟩; have HB : Hid (Both w2 b c F G (PDisk.new m)) := Lib.hid ⟨HD.out.kept hk2 (by simp), hr, fun x hx hg => absurd (HD.out.lt x hx) (Nat.not_lt.2 (hG x hg))⟩; have HG : Hid (∀ x, x ∈ G → w.heap.size ≤ x) := Lib.hid (fun x hx => Nat.le_trans HK1.out.size (hG x hx)); have HK2 := Lib.hid (HK1.out.then hk2); clear hr hk2 hG)
    | (go_at_call 10; refine (lives_any _).mono ?_; rintro e w3 ⟨rfl, hk⟩; have HB3 := Lib.hid (HB.out.kept0 hk); have HK3 := Lib.hid (HK2.out.then hk); clear hk))
  clear HD HB HK1 HK2
  go_loopw [5, 8, 9] (fun dv ok i wr => ∃ (k b : Nat) (F : List Nat) (d : PDisk), dv = .pointer (some ⟨b, 0, none⟩) ∧ ok = .bool true ∧ i = .int .i64 k ∧ k ≤ os.length ∧ Both wr b c F G d ∧ d.sure.length = m ∧ Kept [] w wr ∧ ∀ x, x ∈ F → w.heap.size ≤ x) (fun _ _ i _ => os.length - (intOf i).toNat)
  case atStart => exact ⟨0, b, F, _, rfl, rfl, rfl, Nat.zero_le _, HB3.out, by simp [PDisk.new], HK3.out, HF.out⟩
  case round =>
    clear HB3 HK3 HF
    obtain ⟨k, b, F, d, rfl, rfl, rfl, hk, hB, hlen, hkr, hF⟩ := hrel
    have HB := Lib.hid hB
    have HLEN := Lib.hid hlen
    have HKR := Lib.hid hkr
    have HF := Lib.hid hF
    clear hB hlen hkr hF
    by_cases hlt : k < os.length ∧ k < 30
    · obtain ⟨hlt, h40⟩ := hlt
      obtain ⟨g, o, rfl, q0, q1, q2, q3, q4, hg, hat0, hat⟩ := HO.out.at HKR.out k hlt
      have hb : Hid (∀ g, vblk os[k].vb = some g → g ∉ F ∧ g ∉ G) := by
        obtain ⟨l, hl, _⟩ := hat0.2.2.2.1
        exact Lib.hid (fun g hg => ⟨fun hx => by have := hl.lt hg; have := HF.out g hx; omega, fun hx => by have := hl.lt hg; have := HG.out g hx; omega⟩)
      obtain ⟨ks, hks, hpairs⟩ := hat0.2.2.2.2
      have hl : Hid (∀ g, vblk os[k].vl = some g → g ∉ F ∧ g ∉ G) := Lib.hid (fun g hg => ⟨fun hx => by have := hks.lt hg; have := HF.out g hx; omega, fun hx => by have := hks.lt hg; have := HG.out g hx; omega⟩)
      obtain ⟨la, lc, hle, -, -⟩ := hks.form
      have HAT := Lib.hid hat
      have hkm := hpairs.2
      clear hat0 hat hks hpairs
      revert q0 q1 q2 q3 q4 hb hl hle HAT
      generalize os[k] = ov
      obtain ⟨kd, nn, kk, vb, vl⟩ := ov
      intro q0 q1 q2 q3 q4 hb hl hle HAT
      simp only at q0 q1 q2 q3 q4 hle
      subst hle
      have h40' : (k : Int) < 30 := by omega
      have hlt' : (k : Int) < os.length := by omega
      have hkm2 : (ks.length : Int) ≤ 9223372036854775807 := by simp only [maxLen] at hkm; omega
      clear hkm
      by_cases h50 : 50 < ks.length
      · have h50' : (50 : Int) < ks.length := by omega
        clear hkm2
        go_wp2_with fail
        case roundEnd => exact ⟨⟨k + 1, b, F, d, rfl, rfl, by go_num, by omega, HB.out, HLEN.out, HKR.out, HF.out⟩, by simp [intOf]; omega⟩
      · have h50' : ¬(50 : Int) < ks.length := by omega
        have hlim : Hid (ks.length ≤ lim) := Lib.hid (by simp only [lim]; omega)
        go_wp2_with (go_at_call 17; refine Calls.mono (do_any HB.out ⟨kd, nn, kk, vb, .slice la ks.length lc⟩ HAT.out hb.out hl.out rfl hlim.out) ?_; rintro e w2 ⟨b', F', d', rfl, hB, hlen, hk2, hF'⟩; have HB2 := Lib.hid hB; have HK2 : Hid (Kept [] w w2) := Lib.hid (HKR.out.trans hk2 (fun i hi => .inr (by rcases List.mem_append.1 hi with e | e; exact HF.out i e; exact HG.out i e))); have HF2 : Hid (∀ x, x ∈ F' → w.heap.size ≤ x) := Lib.hid (fun x hx => by rcases hF' x hx with e | e; exact HF.out x e; exact Nat.le_trans HKR.out.size e); have HL2 : Hid (d'.sure.length = m) := Lib.hid (hlen.trans HLEN.out); clear hB hk2 hF' hlen)
        case roundEnd => exact ⟨⟨k + 1, b', F', d', rfl, rfl, by go_num, by omega, HB2.out, HL2.out, HK2.out, HF2.out⟩, by simp [intOf]; omega⟩
    · have hx : (k = os.length ∧ ¬(k : Int) < os.length) ∨ ((k : Int) < os.length ∧ ¬(k : Int) < 30) := by omega
      clear hlt
      obtain ⟨sb, scap, mb, cnt, svals, M, hFe, hat⟩ := HB.out.disk
      have himg := Lib.hid (image_any hat)
      have hs64 := Lib.hid HB.out.disk.ok.s64
      have hback := Lib.hid (load_back HB.out.disk.ok.s64 (by rw [HLEN.out]; exact h1) (by rw [HLEN.out]; omega))
      have hlenI := Lib.hid (image_len HB.out.disk.ok.s64 (by rw [HLEN.out]; omega))
      clear hat hFe svals M
      rcases hx with ⟨rfl, hy⟩ | ⟨hy, hz⟩
      all_goals
        go_wp2_with (first
          | (go_at_call 27; refine himg.out.mono ?_; rintro e w1 ⟨v1, rfl, hv1, hk1⟩; have HV1 := Lib.hid hv1; have HK1 := Lib.hid hk1; clear hv1 hk1)
          | (go_at_call 25; refine Calls.mono (load_any HV1.out.1 (by have := hlenI.out; rw [HLEN.out] at this; omega)) ?_; rw [hback.out]; rintro e w2 ⟨hk2, y, Y, rfl, hy2, hY⟩; have HT : Hid (Three w w2 b c y F G Y d (loaded d.sure)) := Lib.hid ⟨HB.out.kept0 (HK1.out.then hk2), hy2, HKR.out.then (HK1.out.then hk2), fun x hx => ⟨fun hf => absurd (HB.out.disk.lt x hf) (Nat.not_lt.2 (Nat.le_trans HK1.out.size (hY x hx))), fun hg => absurd (HB.out.ref.lt x hg) (Nat.not_lt.2 (Nat.le_trans HK1.out.size (hY x hx))), Nat.le_trans HKR.out.size (Nat.le_trans HK1.out.size (hY x hx))⟩⟩; have HV2 := Lib.hid (HV1.out.1.kept0 hk2); clear hk2 hy2 hY))
        obtain ⟨va, vc, rfl, -, -⟩ := HV2.out.form
        clear himg hback HV1 HK1 HB HKR HF
        have hSS : (fun w' : World => (convert 30 9 (.slice va (imageP d.sure).length vc)).run Try.prog w' = .ok (.string (str (imageP d.sure))) w') w2.drew := Bytes.toStr HV2.out.drew
        refine wp_region_last' (n := 36) (fun w' : World => (convert 30 9 (.slice va (imageP d.sure).length vc)).run Try.prog w' = .ok (.string (str (imageP d.sure))) w') 36 (by kernel_rfl) (by kernel_rfl) ?_
        change wpAnyT _ _ _ _ _ _ _ _ _ w2.drew
        have HT2 := Lib.hid (HT.out.then (Kept.refl [] w2).drew)
        have HV3 := Lib.hid HV2.out.drew
        clear HT HV2
        revert hSS HT2 HV3
        generalize w2.drew = W
        intro hSS HT2 HV3
        refine wpAnyT_start ?_
        intro O R hO hR
        have hQp : ∀ c a (d : Nat) v w, R (.panic c) (a.put (some d) v) w → R (.panic c) a w := by subst hR; exact fun _ _ _ _ _ h => h
        refine wpAnyT_take' (i := 0) (v := ?_) hO rfl rfl (by kernel_rfl) (by kernel_rfl) (by kernel_rfl) (by kernel_rfl) hQp (Or.inl ⟨by kernel_rfl, fun w hSw => ?_⟩) hSS ?_
        rotate_left
        · have s0 := hSw; go_simp; try with_reducible rfl
        try simp only [Act.put, List.setIfInBounds_toArray, List.set_cons_zero, List.set_cons_succ]
        refine wpAnyT_take' (i := 1) (v := ?_) hO rfl rfl (by kernel_rfl) (by kernel_rfl) (by kernel_rfl) (by kernel_rfl) hQp (Or.inl ⟨by kernel_rfl, fun w hSw => ?_⟩) hSS ?_
        rotate_left
        · have s0 := hSw; go_simp; try with_reducible rfl
        try simp only [Act.put, List.setIfInBounds_toArray, List.set_cons_zero, List.set_cons_succ]
        refine wpAnyT_take' (i := 2) (v := ?_) hO rfl rfl (by kernel_rfl) (by kernel_rfl) (by kernel_rfl) (by kernel_rfl) hQp (Or.inl ⟨by kernel_rfl, fun w hSw => ?_⟩) hSS ?_
        rotate_left
        · have s0 := hSw; go_simp; try with_reducible rfl
        try simp only [Act.put, List.setIfInBounds_toArray, List.set_cons_zero, List.set_cons_succ]
        refine wpAnyT_one' (i := 3) hO rfl (by kernel_rfl) (by kernel_rfl) (fun K hK => ?_)
        go_simp
        refine Calls.mono (rimage_any HT2.out.both.ref) ?_
        rintro e w4 ⟨v3, rfl, hv3, hk3⟩
        have cv3 : (convert 30 9 v3).run Try.prog w4 = .ok (.string (str (imageP d.sure))) w4 := Bytes.toStr hv3.1
        have hS1 : (fun w' : World => (convert 30 9 (.slice va (imageP d.sure).length vc)).run Try.prog w' = .ok (.string (str (imageP d.sure))) w') w4 := Bytes.toStr (HV3.out.kept0 hk3)
        have HT3 := Lib.hid (HT2.out.then hk3)
        have HV4 := Lib.hid (HV3.out.kept0 hk3)
        clear hSS HT2 HV3 hv3 hk3
        have hSS := hS1
        have HT2 := HT3
        have HV3 := HV4
        clear hS1 HT3 HV4
        refine hK _ _ (.inr hSS) ?_
        clear hK K
        try simp only [Act.put, List.setIfInBounds_toArray, List.set_cons_zero, List.set_cons_succ]
        refine wpAnyT_one' (i := 4) hO rfl (by kernel_rfl) (by kernel_rfl) (fun K hK => ?_)
        go_simp
        refine hK _ _ (.inr hSS) ?_
        clear hK K
        try simp only [Act.put, List.setIfInBounds_toArray, List.set_cons_zero, List.set_cons_succ]
        clear cv3
        refine wpAnyT_take' (i := 5) (v := ?_) hO rfl rfl (by kernel_rfl) (by kernel_rfl) (by kernel_rfl) (by kernel_rfl) hQp (Or.inl ⟨by kernel_rfl, fun w hSw => ?_⟩) hSS ?_
        rotate_left
        · have s0 := hSw; go_simp; try with_reducible rfl
        try simp only [Act.put, List.setIfInBounds_toArray, List.set_cons_zero, List.set_cons_succ]
        refine wpAnyT_take' (i := 6) (v := ?_) hO rfl rfl (by kernel_rfl) (by kernel_rfl) (by kernel_rfl) (by kernel_rfl) hQp (Or.inl ⟨by kernel_rfl, fun w hSw => ?_⟩) hSS ?_
        rotate_left
        · have s0 := hSw; go_simp; try with_reducible rfl
        try simp only [Act.put, List.setIfInBounds_toArray, List.set_cons_zero, List.set_cons_succ]
        refine wpAnyT_take' (i := 7) (v := ?_) hO rfl rfl (by kernel_rfl) (by kernel_rfl) (by kernel_rfl) (by kernel_rfl) hQp (Or.inl ⟨by kernel_rfl, fun w hSw => ?_⟩) hSS ?_
        rotate_left
        · have s0 := hSw; go_simp; try with_reducible rfl
        try simp only [Act.put, List.setIfInBounds_toArray, List.set_cons_zero, List.set_cons_succ]
        refine wpAnyT_take' (i := 8) (v := ?_) hO rfl rfl (by kernel_rfl) (by kernel_rfl) (by kernel_rfl) (by kernel_rfl) hQp (Or.inl ⟨by kernel_rfl, fun w hSw => ?_⟩) hSS ?_
        rotate_left
        · have s0 := hSw; go_simp; try with_reducible rfl
        try simp only [Act.put, List.setIfInBounds_toArray, List.set_cons_zero, List.set_cons_succ]
        refine wpAnyT_take' (i := 9) (v := ?_) hO rfl rfl (by kernel_rfl) (by kernel_rfl) (by kernel_rfl) (by kernel_rfl) hQp (Or.inl ⟨by kernel_rfl, fun w hSw => ?_⟩) hSS ?_
        rotate_left
        · have s0 := hSw; go_simp; try with_reducible rfl
        try simp only [Act.put, List.setIfInBounds_toArray, List.set_cons_zero, List.set_cons_succ]
        refine wpAnyT_take' (i := 10) (v := ?_) hO rfl rfl (by kernel_rfl) (by kernel_rfl) (by kernel_rfl) (by kernel_rfl) hQp (Or.inl ⟨by kernel_rfl, fun w hSw => ?_⟩) hSS ?_
        rotate_left
        · have s0 := hSw; go_simp; try with_reducible rfl
        try simp only [Act.put, List.setIfInBounds_toArray, List.set_cons_zero, List.set_cons_succ]
        refine wpAnyT_take' (i := 11) (v := ?_) hO rfl rfl (by kernel_rfl) (by kernel_rfl) (by kernel_rfl) (by kernel_rfl) hQp (Or.inl ⟨by kernel_rfl, fun w hSw => ?_⟩) hSS ?_
        rotate_left
        · have s0 := hSw; go_simp; try with_reducible rfl
        try simp only [Act.put, List.setIfInBounds_toArray, List.set_cons_zero, List.set_cons_succ]
        refine wpAnyT_take' (i := 12) (v := ?_) hO rfl rfl (by kernel_rfl) (by kernel_rfl) (by kernel_rfl) (by kernel_rfl) hQp (Or.inl ⟨by kernel_rfl, fun w hSw => ?_⟩) hSS ?_
        rotate_left
        · have s0 := hSw; go_simp; try with_reducible rfl
        try simp only [Act.put, List.setIfInBounds_toArray, List.set_cons_zero, List.set_cons_succ]
        refine wpAnyT_take' (i := 13) (v := ?_) hO rfl rfl (by kernel_rfl) (by kernel_rfl) (by kernel_rfl) (by kernel_rfl) hQp (Or.inl ⟨by kernel_rfl, fun w hSw => ?_⟩) hSS ?_
        rotate_left
        · have s0 := hSw; go_simp; try with_reducible rfl
        try simp only [Act.put, List.setIfInBounds_toArray, List.set_cons_zero, List.set_cons_succ]
        refine wpAnyT_take' (i := 14) (v := ?_) hO rfl rfl (by kernel_rfl) (by kernel_rfl) (by kernel_rfl) (by kernel_rfl) hQp (Or.inl ⟨by kernel_rfl, fun w hSw => ?_⟩) hSS ?_
        rotate_left
        · have s0 := hSw; go_simp; try with_reducible rfl
        try simp only [Act.put, List.setIfInBounds_toArray, List.set_cons_zero, List.set_cons_succ]
        refine wpAnyT_take' (i := 15) (v := ?_) hO rfl rfl (by kernel_rfl) (by kernel_rfl) (by kernel_rfl) (by kernel_rfl) hQp (Or.inl ⟨by kernel_rfl, fun w hSw => ?_⟩) hSS ?_
        rotate_left
        · have s0 := hSw; go_simp; try with_reducible rfl
        try simp only [Act.put, List.setIfInBounds_toArray, List.set_cons_zero, List.set_cons_succ]
        refine wpAnyT_take' (i := 16) (v := ?_) hO rfl rfl (by kernel_rfl) (by kernel_rfl) (by kernel_rfl) (by kernel_rfl) hQp (Or.inl ⟨by kernel_rfl, fun w hSw => ?_⟩) hSS ?_
        rotate_left
        · have s0 := hSw; go_simp; try with_reducible rfl
        try simp only [Act.put, List.setIfInBounds_toArray, List.set_cons_zero, List.set_cons_succ]
        refine wpAnyT_one' (i := 17) hO rfl (by kernel_rfl) (by kernel_rfl) (fun K hK => ?_)
        go_simp
        have hs1 := diskSame_any HT2.out.third HT2.out.both.disk
        rw [show decide ((loaded d.sure).sure = d.sure) = true from decide_eq_true rfl] at hs1
        refine Calls.mono hs1 ?_
        rintro e w4 ⟨rfl, hk4⟩
        have hS1 : (fun w' : World => (convert 30 9 (.slice va (imageP d.sure).length vc)).run Try.prog w' = .ok (.string (str (imageP d.sure))) w') w4 := Bytes.toStr (HV3.out.kept0 hk4)
        have HT3 := Lib.hid (HT2.out.then hk4)
        have HV4 := Lib.hid (HV3.out.kept0 hk4)
        clear hSS HT2 HV3 hk4 hs1
        have hSS := hS1
        have HT2 := HT3
        have HV3 := HV4
        clear hS1 HT3 HV4
        refine hK _ _ (.inr hSS) ?_
        clear hK K
        try simp only [Act.put, List.setIfInBounds_toArray, List.set_cons_zero, List.set_cons_succ]
        refine wpAnyT_take' (i := 18) (v := ?_) hO rfl rfl (by kernel_rfl) (by kernel_rfl) (by kernel_rfl) (by kernel_rfl) hQp (Or.inl ⟨by kernel_rfl, fun w hSw => ?_⟩) hSS ?_
        rotate_left
        · have s0 := hSw; go_simp; try with_reducible rfl
        try simp only [Act.put, List.setIfInBounds_toArray, List.set_cons_zero, List.set_cons_succ]
        refine wpAnyT_take' (i := 19) (v := ?_) hO rfl rfl (by kernel_rfl) (by kernel_rfl) (by kernel_rfl) (by kernel_rfl) hQp (Or.inl ⟨by kernel_rfl, fun w hSw => ?_⟩) hSS ?_
        rotate_left
        · have s0 := hSw; go_simp; try with_reducible rfl
        try simp only [Act.put, List.setIfInBounds_toArray, List.set_cons_zero, List.set_cons_succ]
        refine wpAnyT_take' (i := 20) (v := ?_) hO rfl rfl (by kernel_rfl) (by kernel_rfl) (by kernel_rfl) (by kernel_rfl) hQp (Or.inl ⟨by kernel_rfl, fun w hSw => ?_⟩) hSS ?_
        rotate_left
        · have s0 := hSw; go_simp; try with_reducible rfl
        try simp only [Act.put, List.setIfInBounds_toArray, List.set_cons_zero, List.set_cons_succ]
        refine wpAnyT_take' (i := 21) (v := ?_) hO rfl rfl (by kernel_rfl) (by kernel_rfl) (by kernel_rfl) (by kernel_rfl) hQp (Or.inl ⟨by kernel_rfl, fun w hSw => ?_⟩) hSS ?_
        rotate_left
        · have s0 := hSw; go_simp; try with_reducible rfl
        try simp only [Act.put, List.setIfInBounds_toArray, List.set_cons_zero, List.set_cons_succ]
        refine wpAnyT_take' (i := 22) (v := ?_) hO rfl rfl (by kernel_rfl) (by kernel_rfl) (by kernel_rfl) (by kernel_rfl) hQp (Or.inl ⟨by kernel_rfl, fun w hSw => ?_⟩) hSS ?_
        rotate_left
        · have s0 := hSw; go_simp; try with_reducible rfl
        try simp only [Act.put, List.setIfInBounds_toArray, List.set_cons_zero, List.set_cons_succ]
        refine wpAnyT_one' (i := 23) hO rfl (by kernel_rfl) (by kernel_rfl) (fun K hK => ?_)
        go_simp
        have hs1 := diskSame_any HT2.out.both.disk HT2.out.third
        rw [show decide (d.sure = (loaded d.sure).sure) = true from decide_eq_true rfl] at hs1
        refine Calls.mono hs1 ?_
        rintro e w4 ⟨rfl, hk4⟩
        have hS1 : (fun w' : World => (convert 30 9 (.slice va (imageP d.sure).length vc)).run Try.prog w' = .ok (.string (str (imageP d.sure))) w') w4 := Bytes.toStr (HV3.out.kept0 hk4)
        have HT3 := Lib.hid (HT2.out.then hk4)
        have HV4 := Lib.hid (HV3.out.kept0 hk4)
        clear hSS HT2 HV3 hk4 hs1
        have hSS := hS1
        have HT2 := HT3
        have HV3 := HV4
        clear hS1 HT3 HV4
        refine hK _ _ (.inr hSS) ?_
        clear hK K
        try simp only [Act.put, List.setIfInBounds_toArray, List.set_cons_zero, List.set_cons_succ]
        refine wpAnyT_take' (i := 24) (v := ?_) hO rfl rfl (by kernel_rfl) (by kernel_rfl) (by kernel_rfl) (by kernel_rfl) hQp (Or.inl ⟨by kernel_rfl, fun w hSw => ?_⟩) hSS ?_
        rotate_left
        · have s0 := hSw; go_simp; try with_reducible rfl
        try simp only [Act.put, List.setIfInBounds_toArray, List.set_cons_zero, List.set_cons_succ]
        refine wpAnyT_take' (i := 25) (v := ?_) hO rfl rfl (by kernel_rfl) (by kernel_rfl) (by kernel_rfl) (by kernel_rfl) hQp (Or.inl ⟨by kernel_rfl, fun w hSw => ?_⟩) hSS ?_
        rotate_left
        · have s0 := hSw; go_simp; try with_reducible rfl
        try simp only [Act.put, List.setIfInBounds_toArray, List.set_cons_zero, List.set_cons_succ]
        refine wpAnyT_take' (i := 26) (v := ?_) hO rfl rfl (by kernel_rfl) (by kernel_rfl) (by kernel_rfl) (by kernel_rfl) hQp (Or.inl ⟨by kernel_rfl, fun w hSw => ?_⟩) hSS ?_
        rotate_left
        · have s0 := hSw; go_simp; try with_reducible rfl
        try simp only [Act.put, List.setIfInBounds_toArray, List.set_cons_zero, List.set_cons_succ]
        refine wpAnyT_take' (i := 27) (v := ?_) hO rfl rfl (by kernel_rfl) (by kernel_rfl) (by kernel_rfl) (by kernel_rfl) hQp (Or.inl ⟨by kernel_rfl, fun w hSw => ?_⟩) hSS ?_
        rotate_left
        · have s0 := hSw; go_simp; try with_reducible rfl
        try simp only [Act.put, List.setIfInBounds_toArray, List.set_cons_zero, List.set_cons_succ]
        refine wpAnyT_one' (i := 28) hO rfl (by kernel_rfl) (by kernel_rfl) (fun K hK => ?_)
        go_simp
        have hs1 := off_any HT2.out.third
        rw [loaded_off] at hs1
        refine Calls.mono hs1 ?_
        rintro e w4 ⟨rfl, rfl⟩
        clear hs1
        refine hK _ _ (.inr hSS) ?_
        clear hK K
        try simp only [Act.put, List.setIfInBounds_toArray, List.set_cons_zero, List.set_cons_succ]
        refine wpAnyT_take' (i := 29) (v := ?_) hO rfl rfl (by kernel_rfl) (by kernel_rfl) (by kernel_rfl) (by kernel_rfl) hQp (Or.inl ⟨by kernel_rfl, fun w hSw => ?_⟩) hSS ?_
        rotate_left
        · have s0 := hSw; go_simp; try with_reducible rfl
        try simp only [Act.put, List.setIfInBounds_toArray, List.set_cons_zero, List.set_cons_succ]
        refine wpAnyT_take' (i := 30) (v := ?_) hO rfl rfl (by kernel_rfl) (by kernel_rfl) (by kernel_rfl) (by kernel_rfl) hQp (Or.inl ⟨by kernel_rfl, fun w hSw => ?_⟩) hSS ?_
        rotate_left
        · have s0 := hSw; go_simp; try with_reducible rfl
        try simp only [Act.put, List.setIfInBounds_toArray, List.set_cons_zero, List.set_cons_succ]
        refine wpAnyT_take' (i := 31) (v := ?_) hO rfl rfl (by kernel_rfl) (by kernel_rfl) (by kernel_rfl) (by kernel_rfl) hQp (Or.inl ⟨by kernel_rfl, fun w hSw => ?_⟩) hSS ?_
        rotate_left
        · have s0 := hSw; go_simp; try with_reducible rfl
        try simp only [Act.put, List.setIfInBounds_toArray, List.set_cons_zero, List.set_cons_succ]
        refine wpAnyT_one' (i := 32) hO rfl (by kernel_rfl) (by kernel_rfl) (fun K hK => ?_)
        go_simp
        have hs1 := loose_any HT2.out.third
        rw [loaded_keys] at hs1
        refine Calls.mono hs1 ?_
        rintro e w4 ⟨v4, rfl, hv4, hk4⟩
        obtain ⟨al, cl, hvv, -, -⟩ := hv4.form
        have hvv' : v4 = .slice al 0 cl := hvv
        clear hvv
        subst hvv'
        have hS1 : (fun w' : World => (convert 30 9 (.slice va (imageP d.sure).length vc)).run Try.prog w' = .ok (.string (str (imageP d.sure))) w') w4 := Bytes.toStr (HV3.out.kept0 hk4)
        have HT3 := Lib.hid (HT2.out.then hk4)
        have HV4 := Lib.hid (HV3.out.kept0 hk4)
        clear hSS HT2 HV3 hk4 hs1 hv4
        have hSS := hS1
        have HT2 := HT3
        have HV3 := HV4
        clear hS1 HT3 HV4
        refine hK _ _ (.inr hSS) ?_
        clear hK K
        try simp only [Act.put, List.setIfInBounds_toArray, List.set_cons_zero, List.set_cons_succ]
        refine wpAnyT_take' (i := 33) (v := ?_) hO rfl rfl (by kernel_rfl) (by kernel_rfl) (by kernel_rfl) (by kernel_rfl) hQp (Or.inl ⟨by kernel_rfl, fun w hSw => ?_⟩) hSS ?_
        rotate_left
        · have s0 := hSw; go_simp; try with_reducible rfl
        try simp only [Act.put, List.setIfInBounds_toArray, List.set_cons_zero, List.set_cons_succ]
        refine wpAnyT_take' (i := 34) (v := ?_) hO rfl rfl (by kernel_rfl) (by kernel_rfl) (by kernel_rfl) (by kernel_rfl) hQp (Or.inl ⟨by kernel_rfl, fun w hSw => ?_⟩) hSS ?_
        rotate_left
        · have s0 := hSw; go_simp; try with_reducible rfl
        try simp only [Act.put, List.setIfInBounds_toArray, List.set_cons_zero, List.set_cons_succ]
        refine wpAnyT_take' (i := 35) (v := ?_) hO rfl rfl (by kernel_rfl) (by kernel_rfl) (by kernel_rfl) (by kernel_rfl) hQp (Or.inl ⟨by kernel_rfl, fun w hSw => ?_⟩) hSS ?_
        rotate_left
        · have s0 := hSw; go_simp; try with_reducible rfl
        try simp only [Act.put, List.setIfInBounds_toArray, List.set_cons_zero, List.set_cons_succ]
        refine wpAnyT_done' hO (by kernel_rfl) ?_ _
        subst hR
        try clear hQp hO O
        clear hSS HV3
        go_wp2_with fail
        go_loopw [13] (fun i wr => ∃ j : Nat, i = .int .i64 j ∧ j ≤ m ∧ Three w wr b c y F G Y d (loaded d.sure)) (fun i _ => m - (intOf i).toNat)
        case atStart => exact ⟨0, rfl, by omega, HT2.out⟩
        case round =>
          clear HT2
          obtain ⟨j, rfl, hj, hT⟩ := hrel
          have HT := Lib.hid hT
          clear hT
          by_cases hjl : j < m
          · have hjI : (j : Int) < m := by omega
            have hjs : j < d.sure.length := by rw [HLEN.out]; exact hjl
            have hrd := read_any HT.out.third j
            rw [loaded_read d.sure j hjs] at hrd
            simp only at hrd
            have HRD := Lib.hid hrd
            clear hrd
            go_wp2_with (go_at_call 13; refine HRD.out.mono ?_; rintro e w5 ⟨v5, rfl, hv5, hk5⟩; have HT5 := Lib.hid (HT.out.then hk5); have HV5 := Lib.hid hv5.1; obtain ⟨vr, cr, rfl, -, -⟩ := hv5.1.form; clear hv5 hk5)
            obtain ⟨sb2, nb2, lb2, scap2, ncap2, lcap2, svals2, nvals2, lvals2, hGe, hat⟩ := HT5.out.both.ref
            have hj2 : j < svals2.length := by rw [hat.sure.1]; exact hjs
            have q0 := hat.c0
            have q1 := hat.rows.cellAt j (by omega)
            rw [List.getElem?_eq_getElem hj2] at q1
            have hdv := (hat.sure.2 j _ _ (List.getElem?_eq_getElem hj2) (List.getElem?_eq_getElem hjs)).1
            have q2 := Bytes.toStr HV5.out.drew
            have q3 := Bytes.toStr hdv.drew
            have hsI : (j : Int) < d.sure.length := by omega
            clear hat hGe hdv HV5
            revert q0 q1 q2 q3
            generalize svals2[j] = v2
            generalize d.sure[j] = l
            intro q0 q1 q2 q3
            have hSS : (fun w' : World => w'.cell? ⟨c, 0, none⟩ = some (.slice (some ⟨sb2, 0, none⟩) d.sure.length scap2) ∧ w'.cell? ⟨sb2, j, none⟩ = some v2 ∧ (convert 30 9 (.slice vr l.length cr)).run Try.prog w' = .ok (.string (str l)) w' ∧ (convert 30 9 v2).run Try.prog w' = .ok (.string (str l)) w') w5.drew := ⟨q0, q1, q2, q3⟩
            refine wp_region_last' (n := 15) (fun w' : World => w'.cell? ⟨c, 0, none⟩ = some (.slice (some ⟨sb2, 0, none⟩) d.sure.length scap2) ∧ w'.cell? ⟨sb2, j, none⟩ = some v2 ∧ (convert 30 9 (.slice vr l.length cr)).run Try.prog w' = .ok (.string (str l)) w' ∧ (convert 30 9 v2).run Try.prog w' = .ok (.string (str l)) w') 15 (by kernel_rfl) (by kernel_rfl) ?_
            change wpAnyT _ _ _ _ _ _ _ _ _ w5.drew
            have HT6 := Lib.hid (HT5.out.then (Kept.refl [] w5).drew)
            clear q0 q1 q2 q3 HT5 HT HRD
            revert hSS HT6
            generalize w5.drew = W
            intro hSS HT6
            refine wpAnyT_start ?_
            intro O R hO hR
            have hQp : ∀ c a (d : Nat) v w, R (.panic c) (a.put (some d) v) w → R (.panic c) a w := by subst hR; exact fun _ _ _ _ _ h => h
            refine wpAnyT_take' (i := 0) (v := ?_) hO rfl rfl (by kernel_rfl) (by kernel_rfl) (by kernel_rfl) (by kernel_rfl) hQp (Or.inl ⟨by kernel_rfl, fun w hSw => ?_⟩) hSS ?_
            rotate_left
            · obtain ⟨s0, s1, s2, s3⟩ := hSw; go_simp; try with_reducible rfl
            try simp only [Act.put, List.setIfInBounds_toArray, List.set_cons_zero, List.set_cons_succ]
            refine wpAnyT_take' (i := 1) (v := ?_) hO rfl rfl (by kernel_rfl) (by kernel_rfl) (by kernel_rfl) (by kernel_rfl) hQp (Or.inl ⟨by kernel_rfl, fun w hSw => ?_⟩) hSS ?_
            rotate_left
            · obtain ⟨s0, s1, s2, s3⟩ := hSw; go_simp; try with_reducible rfl
            try simp only [Act.put, List.setIfInBounds_toArray, List.set_cons_zero, List.set_cons_succ]
            refine wpAnyT_take' (i := 2) (v := ?_) hO rfl rfl (by kernel_rfl) (by kernel_rfl) (by kernel_rfl) (by kernel_rfl) hQp (Or.inl ⟨by kernel_rfl, fun w hSw => ?_⟩) hSS ?_
            rotate_left
            · obtain ⟨s0, s1, s2, s3⟩ := hSw; go_simp; try with_reducible rfl
            try simp only [Act.put, List.setIfInBounds_toArray, List.set_cons_zero, List.set_cons_succ]
            refine wpAnyT_take' (i := 3) (v := ?_) hO rfl rfl (by kernel_rfl) (by kernel_rfl) (by kernel_rfl) (by kernel_rfl) hQp (Or.inl ⟨by kernel_rfl, fun w hSw => ?_⟩) hSS ?_
            rotate_left
            · obtain ⟨s0, s1, s2, s3⟩ := hSw; go_simp; try with_reducible rfl
            try simp only [Act.put, List.setIfInBounds_toArray, List.set_cons_zero, List.set_cons_succ]
            refine wpAnyT_take' (i := 4) (v := ?_) hO rfl rfl (by kernel_rfl) (by kernel_rfl) (by kernel_rfl) (by kernel_rfl) hQp (Or.inl ⟨by kernel_rfl, fun w hSw => ?_⟩) hSS ?_
            rotate_left
            · obtain ⟨s0, s1, s2, s3⟩ := hSw; go_simp; try with_reducible rfl
            try simp only [Act.put, List.setIfInBounds_toArray, List.set_cons_zero, List.set_cons_succ]
            refine wpAnyT_take' (i := 5) (v := ?_) hO rfl rfl (by kernel_rfl) (by kernel_rfl) (by kernel_rfl) (by kernel_rfl) hQp (Or.inl ⟨by kernel_rfl, fun w hSw => ?_⟩) hSS ?_
            rotate_left
            · obtain ⟨s0, s1, s2, s3⟩ := hSw; go_simp; try with_reducible rfl
            try simp only [Act.put, List.setIfInBounds_toArray, List.set_cons_zero, List.set_cons_succ]
            refine wpAnyT_take' (i := 6) (v := ?_) hO rfl rfl (by kernel_rfl) (by kernel_rfl) (by kernel_rfl) (by kernel_rfl) hQp (Or.inl ⟨by kernel_rfl, fun w hSw => ?_⟩) hSS ?_
            rotate_left
            · obtain ⟨s0, s1, s2, s3⟩ := hSw; go_simp; try with_reducible rfl
            try simp only [Act.put, List.setIfInBounds_toArray, List.set_cons_zero, List.set_cons_succ]
            refine wpAnyT_take' (i := 7) (v := ?_) hO rfl rfl (by kernel_rfl) (by kernel_rfl) (by kernel_rfl) (by kernel_rfl) hQp (Or.inl ⟨by kernel_rfl, fun w hSw => ?_⟩) hSS ?_
            rotate_left
            · obtain ⟨s0, s1, s2, s3⟩ := hSw; go_simp; try with_reducible rfl
            try simp only [Act.put, List.setIfInBounds_toArray, List.set_cons_zero, List.set_cons_succ]
            refine wpAnyT_take' (i := 8) (v := ?_) hO rfl rfl (by kernel_rfl) (by kernel_rfl) (by kernel_rfl) (by kernel_rfl) hQp (Or.inl ⟨by kernel_rfl, fun w hSw => ?_⟩) hSS ?_
            rotate_left
            · obtain ⟨s0, s1, s2, s3⟩ := hSw; go_simp; try with_reducible rfl
            try simp only [Act.put, List.setIfInBounds_toArray, List.set_cons_zero, List.set_cons_succ]
            refine wpAnyT_take' (i := 9) (v := ?_) hO rfl rfl (by kernel_rfl) (by kernel_rfl) (by kernel_rfl) (by kernel_rfl) hQp (Or.inl ⟨by kernel_rfl, fun w hSw => ?_⟩) hSS ?_
            rotate_left
            · obtain ⟨s0, s1, s2, s3⟩ := hSw; go_simp; try with_reducible rfl
            try simp only [Act.put, List.setIfInBounds_toArray, List.set_cons_zero, List.set_cons_succ]
            refine wpAnyT_take' (i := 10) (v := ?_) hO rfl rfl (by kernel_rfl) (by kernel_rfl) (by kernel_rfl) (by kernel_rfl) hQp (Or.inl ⟨by kernel_rfl, fun w hSw => ?_⟩) hSS ?_
            rotate_left
            · obtain ⟨s0, s1, s2, s3⟩ := hSw; go_simp; try with_reducible rfl
            try simp only [Act.put, List.setIfInBounds_toArray, List.set_cons_zero, List.set_cons_succ]
            refine wpAnyT_take' (i := 11) (v := ?_) hO rfl rfl (by kernel_rfl) (by kernel_rfl) (by kernel_rfl) (by kernel_rfl) hQp (Or.inl ⟨by kernel_rfl, fun w hSw => ?_⟩) hSS ?_
            rotate_left
            · obtain ⟨s0, s1, s2, s3⟩ := hSw; go_simp; try with_reducible rfl
            try simp only [Act.put, List.setIfInBounds_toArray, List.set_cons_zero, List.set_cons_succ]
            refine wpAnyT_take' (i := 12) (v := ?_) hO rfl rfl (by kernel_rfl) (by kernel_rfl) (by kernel_rfl) (by kernel_rfl) hQp (Or.inl ⟨by kernel_rfl, fun w hSw => ?_⟩) hSS ?_
            rotate_left
            · obtain ⟨s0, s1, s2, s3⟩ := hSw; go_simp; try with_reducible rfl
            try simp only [Act.put, List.setIfInBounds_toArray, List.set_cons_zero, List.set_cons_succ]
            refine wpAnyT_take' (i := 13) (v := ?_) hO rfl rfl (by kernel_rfl) (by kernel_rfl) (by kernel_rfl) (by kernel_rfl) hQp (Or.inl ⟨by kernel_rfl, fun w hSw => ?_⟩) hSS ?_
            rotate_left
            · obtain ⟨s0, s1, s2, s3⟩ := hSw; go_simp; try with_reducible rfl
            try simp only [Act.put, List.setIfInBounds_toArray, List.set_cons_zero, List.set_cons_succ]
            refine wpAnyT_take' (i := 14) (v := ?_) hO rfl rfl (by kernel_rfl) (by kernel_rfl) (by kernel_rfl) (by kernel_rfl) hQp (Or.inl ⟨by kernel_rfl, fun w hSw => ?_⟩) hSS ?_
            rotate_left
            · obtain ⟨s0, s1, s2, s3⟩ := hSw; go_simp; try with_reducible rfl
            try simp only [Act.put, List.setIfInBounds_toArray, List.set_cons_zero, List.set_cons_succ]
            refine wpAnyT_done' hO (by kernel_rfl) ?_ _
            subst hR
            try clear hQp hO O
            go_wp2_with fail
            case roundEnd => exact ⟨⟨j + 1, by go_num, by omega, HT6.out⟩, by simp [intOf]; omega⟩
          · have hjI : ¬(j : Int) < m := by omega
            have hpos : 0 < d.sure.length := by rw [HLEN.out]; omega
            obtain ⟨sb2, nb2, lb2, scap2, ncap2, lcap2, svals2, nvals2, lvals2, hGe, hat⟩ := HT.out.both.ref
            have hj2 : 0 < svals2.length := by rw [hat.sure.1]; exact hpos
            have q0 := hat.c0
            have q1 := hat.rows.cellAt 0 (by omega)
            rw [List.getElem?_eq_getElem hj2] at q1
            have hdv := hat.sure.2 0 _ _ (List.getElem?_eq_getElem hj2) (List.getElem?_eq_getElem hpos)
            have q3 := Bytes.toStr hdv.1.drew
            have HDV := Lib.hid (hdv.kept (Kept.refl [] wr).drew (by simp))
            have hset := set_same (lo := lOther) hpos
            have hLW := loaded_write d.sure lOther hpos lOther_len
            have hcG : Hid (c ∉ Y ∧ sb2 ∉ Y) := Lib.hid ⟨fun hx => (HT.out.far c hx).2.1 (by rw [hGe]; simp), fun hx => (HT.out.far sb2 hx).2.1 (by rw [hGe]; simp)⟩
            have hposI : (0 : Int) < d.sure.length := by omega
            have hsb := str_beq d.sure[0] lOther
            clear hat hGe hdv
            revert q0 q1 q3 HDV hset hsb
            generalize svals2[0] = v2
            generalize d.sure[0] = l
            intro q0 q1 q3 HDV hset hsb
            have HSET := Lib.hid hset
            have HLW := Lib.hid hLW
            have HT5 := Lib.hid (HT.out.then (Kept.refl [] wr).drew)
            clear hset hLW HT
            go_wp2_with fail
            have hSS : (fun w' : World => w'.cell? ⟨c, 0, none⟩ = some (.slice (some ⟨sb2, 0, none⟩) d.sure.length scap2) ∧ w'.cell? ⟨sb2, 0, none⟩ = some v2 ∧ (convert 30 9 v2).run Try.prog w' = .ok (.string (str l)) w') wr.drew := ⟨q0, q1, q3⟩
            refine wp_region_last' (n := 31) (fun w' : World => w'.cell? ⟨c, 0, none⟩ = some (.slice (some ⟨sb2, 0, none⟩) d.sure.length scap2) ∧ w'.cell? ⟨sb2, 0, none⟩ = some v2 ∧ (convert 30 9 v2).run Try.prog w' = .ok (.string (str l)) w') 30 (by kernel_rfl) (by kernel_rfl) ?_
            change wpAnyT _ _ _ _ _ _ _ _ _ wr.drew
            clear q0 q1 q3
            revert hSS HT5 HDV
            generalize wr.drew = W
            intro HDV HT5 hSS
            refine wpAnyT_start ?_
            intro O R hO hR
            have hQp : ∀ c a (d : Nat) v w, R (.panic c) (a.put (some d) v) w → R (.panic c) a w := by subst hR; exact fun _ _ _ _ _ h => h
            refine wpAnyT_take' (i := 0) (v := ?_) hO rfl rfl (by kernel_rfl) (by kernel_rfl) (by kernel_rfl) (by kernel_rfl) hQp (Or.inl ⟨by kernel_rfl, fun w hSw => ?_⟩) hSS ?_
            rotate_left
            · obtain ⟨s0, s1, s2⟩ := hSw; go_simp; try with_reducible rfl
            try simp only [Act.put, List.setIfInBounds_toArray, List.set_cons_zero, List.set_cons_succ]
            refine wpAnyT_one' (i := 1) hO rfl (by kernel_rfl) (by kernel_rfl) (fun K hK => ?_)
            go_simp
            refine Calls.mono (otherBlock _) ?_
            rintro e w6 ⟨v6, rfl, hv6, hk6⟩
            have hap := Lib.hid (new_apart hv6 HT5.out.third.lt)
            have HV6 := Lib.hid hv6
            have HT6 := Lib.hid (HT5.out.then hk6)
            have HDV6 := Lib.hid (HDV.out.kept hk6 (by simp))
            have hS1 : (fun w' : World => w'.cell? ⟨c, 0, none⟩ = some (.slice (some ⟨sb2, 0, none⟩) d.sure.length scap2) ∧ w'.cell? ⟨sb2, 0, none⟩ = some v2 ∧ (convert 30 9 v2).run Try.prog w' = .ok (.string (str l)) w') w6 := ⟨hk6.cell hSS.1 (by simp), hk6.cell hSS.2.1 (by simp), Bytes.toStr HDV6.out.1⟩
            clear hSS hv6 hk6 HDV HT5
            have hSS := hS1
            clear hS1
            refine hK _ _ (.inr hSS) ?_
            clear hK K
            try simp only [Act.put, List.setIfInBounds_toArray, List.set_cons_zero, List.set_cons_succ]
            refine wpAnyT_one' (i := 2) hO rfl (by kernel_rfl) (by kernel_rfl) (fun K hK => ?_)
            go_simp
            have hw2 := write_any HT6.out.third 0 HV6.out.1 hap.out
            rw [HLW.out.1] at hw2
            refine Calls.mono hw2 ?_
            rintro e w7 ⟨rfl, hr7, hk7⟩
            have HT7 := Lib.hid (HT6.out.turn hk7 hr7)
            have HDV7 := Lib.hid (HDV6.out.kept hk7 HT6.out.third.kinds)
            have hS1 : (fun w' : World => w'.cell? ⟨c, 0, none⟩ = some (.slice (some ⟨sb2, 0, none⟩) d.sure.length scap2) ∧ w'.cell? ⟨sb2, 0, none⟩ = some v2 ∧ (convert 30 9 v2).run Try.prog w' = .ok (.string (str l)) w') w7 := ⟨hk7.cell hSS.1 hcG.out.1, hk7.cell hSS.2.1 hcG.out.2, Bytes.toStr HDV7.out.1⟩
            clear hSS hw2 hr7 hk7 HT6 HDV6 HV6 hap
            have hSS := hS1
            clear hS1
            refine hK _ _ (.inr hSS) ?_
            clear hK K
            try simp only [Act.put, List.setIfInBounds_toArray, List.set_cons_zero, List.set_cons_succ]
            refine wpAnyT_take' (i := 3) (v := ?_) hO rfl rfl (by kernel_rfl) (by kernel_rfl) (by kernel_rfl) (by kernel_rfl) hQp (Or.inl ⟨by kernel_rfl, fun w hSw => ?_⟩) hSS ?_
            rotate_left
            · obtain ⟨s0, s1, s2⟩ := hSw; go_simp; try with_reducible rfl
            try simp only [Act.put, List.setIfInBounds_toArray, List.set_cons_zero, List.set_cons_succ]
            refine wpAnyT_take' (i := 4) (v := ?_) hO rfl rfl (by kernel_rfl) (by kernel_rfl) (by kernel_rfl) (by kernel_rfl) hQp (Or.inl ⟨by kernel_rfl, fun w hSw => ?_⟩) hSS ?_
            rotate_left
            · obtain ⟨s0, s1, s2⟩ := hSw; go_simp; try with_reducible rfl
            try simp only [Act.put, List.setIfInBounds_toArray, List.set_cons_zero, List.set_cons_succ]
            refine wpAnyT_take' (i := 5) (v := ?_) hO rfl rfl (by kernel_rfl) (by kernel_rfl) (by kernel_rfl) (by kernel_rfl) hQp (Or.inl ⟨by kernel_rfl, fun w hSw => ?_⟩) hSS ?_
            rotate_left
            · obtain ⟨s0, s1, s2⟩ := hSw; go_simp; try with_reducible rfl
            try simp only [Act.put, List.setIfInBounds_toArray, List.set_cons_zero, List.set_cons_succ]
            refine wpAnyT_take' (i := 6) (v := ?_) hO rfl rfl (by kernel_rfl) (by kernel_rfl) (by kernel_rfl) (by kernel_rfl) hQp (Or.inl ⟨by kernel_rfl, fun w hSw => ?_⟩) hSS ?_
            rotate_left
            · obtain ⟨s0, s1, s2⟩ := hSw; go_simp; try with_reducible rfl
            try simp only [Act.put, List.setIfInBounds_toArray, List.set_cons_zero, List.set_cons_succ]
            refine wpAnyT_one' (i := 7) hO rfl (by kernel_rfl) (by kernel_rfl) (fun K hK => ?_)
            go_simp
            have hs1 := diskSame_any HT7.out.third HT7.out.both.disk
            rw [show decide (((loaded d.sure).write 0 lOther).2.sure = d.sure) = true from decide_eq_true HLW.out.2.1] at hs1
            refine Calls.mono hs1 ?_
            rintro e w8 ⟨rfl, hk8⟩
            have HT8 := Lib.hid (HT7.out.then hk8)
            have HDV8 := Lib.hid (HDV7.out.kept hk8 (by simp))
            have hS1 : (fun w' : World => w'.cell? ⟨c, 0, none⟩ = some (.slice (some ⟨sb2, 0, none⟩) d.sure.length scap2) ∧ w'.cell? ⟨sb2, 0, none⟩ = some v2 ∧ (convert 30 9 v2).run Try.prog w' = .ok (.string (str l)) w') w8 := ⟨hk8.cell hSS.1 (by simp), hk8.cell hSS.2.1 (by simp), Bytes.toStr HDV8.out.1⟩
            clear hSS hs1 hk8 HT7 HDV7
            have hSS := hS1
            clear hS1
            refine hK _ _ (.inr hSS) ?_
            clear hK K
            try simp only [Act.put, List.setIfInBounds_toArray, List.set_cons_zero, List.set_cons_succ]
            refine wpAnyT_take' (i := 8) (v := ?_) hO rfl rfl (by kernel_rfl) (by kernel_rfl) (by kernel_rfl) (by kernel_rfl) hQp (Or.inl ⟨by kernel_rfl, fun w hSw => ?_⟩) hSS ?_
            rotate_left
            · obtain ⟨s0, s1, s2⟩ := hSw; go_simp; try with_reducible rfl
            try simp only [Act.put, List.setIfInBounds_toArray, List.set_cons_zero, List.set_cons_succ]
            refine wpAnyT_take' (i := 9) (v := ?_) hO rfl rfl (by kernel_rfl) (by kernel_rfl) (by kernel_rfl) (by kernel_rfl) hQp (Or.inl ⟨by kernel_rfl, fun w hSw => ?_⟩) hSS ?_
            rotate_left
            · obtain ⟨s0, s1, s2⟩ := hSw; go_simp; try with_reducible rfl
            try simp only [Act.put, List.setIfInBounds_toArray, List.set_cons_zero, List.set_cons_succ]
            refine wpAnyT_take' (i := 10) (v := ?_) hO rfl rfl (by kernel_rfl) (by kernel_rfl) (by kernel_rfl) (by kernel_rfl) hQp (Or.inl ⟨by kernel_rfl, fun w hSw => ?_⟩) hSS ?_
            rotate_left
            · obtain ⟨s0, s1, s2⟩ := hSw; go_simp; try with_reducible rfl
            try simp only [Act.put, List.setIfInBounds_toArray, List.set_cons_zero, List.set_cons_succ]
            refine wpAnyT_one' (i := 11) hO rfl (by kernel_rfl) (by kernel_rfl) (fun K hK => ?_)
            go_simp
            have hs2 := sync_any HT8.out.third
            rw [HLW.out.2.2.1] at hs2
            refine Calls.mono hs2 ?_
            rintro e w9 ⟨rfl, hr9, hk9⟩
            have HT9 := Lib.hid (HT8.out.turn hk9 hr9)
            have HDV9 := Lib.hid (HDV8.out.kept hk9 HT8.out.third.kinds)
            have hS1 : (fun w' : World => w'.cell? ⟨c, 0, none⟩ = some (.slice (some ⟨sb2, 0, none⟩) d.sure.length scap2) ∧ w'.cell? ⟨sb2, 0, none⟩ = some v2 ∧ (convert 30 9 v2).run Try.prog w' = .ok (.string (str l)) w') w9 := ⟨hk9.cell hSS.1 hcG.out.1, hk9.cell hSS.2.1 hcG.out.2, Bytes.toStr HDV9.out.1⟩
            clear hSS hs2 hr9 hk9 HT8 HDV8
            have hSS := hS1
            clear hS1
            refine hK _ _ (.inr hSS) ?_
            clear hK K
            try simp only [Act.put, List.setIfInBounds_toArray, List.set_cons_zero, List.set_cons_succ]
            refine wpAnyT_take' (i := 12) (v := ?_) hO rfl rfl (by kernel_rfl) (by kernel_rfl) (by kernel_rfl) (by kernel_rfl) hQp (Or.inl ⟨by kernel_rfl, fun w hSw => ?_⟩) hSS ?_
            rotate_left
            · obtain ⟨s0, s1, s2⟩ := hSw; go_simp; try with_reducible rfl
            try simp only [Act.put, List.setIfInBounds_toArray, List.set_cons_zero, List.set_cons_succ]
            refine wpAnyT_take' (i := 13) (v := ?_) hO rfl rfl (by kernel_rfl) (by kernel_rfl) (by kernel_rfl) (by kernel_rfl) hQp (Or.inl ⟨by kernel_rfl, fun w hSw => ?_⟩) hSS ?_
            rotate_left
            · obtain ⟨s0, s1, s2⟩ := hSw; go_simp; try with_reducible rfl
            try simp only [Act.put, List.setIfInBounds_toArray, List.set_cons_zero, List.set_cons_succ]
            refine wpAnyT_take' (i := 14) (v := ?_) hO rfl rfl (by kernel_rfl) (by kernel_rfl) (by kernel_rfl) (by kernel_rfl) hQp (Or.inl ⟨by kernel_rfl, fun w hSw => ?_⟩) hSS ?_
            rotate_left
            · obtain ⟨s0, s1, s2⟩ := hSw; go_simp; try with_reducible rfl
            try simp only [Act.put, List.setIfInBounds_toArray, List.set_cons_zero, List.set_cons_succ]
            refine wpAnyT_take' (i := 15) (v := ?_) hO rfl rfl (by kernel_rfl) (by kernel_rfl) (by kernel_rfl) (by kernel_rfl) hQp (Or.inl ⟨by kernel_rfl, fun w hSw => ?_⟩) hSS ?_
            rotate_left
            · obtain ⟨s0, s1, s2⟩ := hSw; go_simp; try with_reducible rfl
            try simp only [Act.put, List.setIfInBounds_toArray, List.set_cons_zero, List.set_cons_succ]
            refine wpAnyT_take' (i := 16) (v := ?_) hO rfl rfl (by kernel_rfl) (by kernel_rfl) (by kernel_rfl) (by kernel_rfl) hQp (Or.inl ⟨by kernel_rfl, fun w hSw => ?_⟩) hSS ?_
            rotate_left
            · obtain ⟨s0, s1, s2⟩ := hSw; go_simp; try with_reducible rfl
            try simp only [Act.put, List.setIfInBounds_toArray, List.set_cons_zero, List.set_cons_succ]
            refine wpAnyT_take' (i := 18) (v := ?_) hO rfl rfl (by kernel_rfl) (by kernel_rfl) (by kernel_rfl) (by kernel_rfl) hQp (Or.inl ⟨by kernel_rfl, fun w hSw => ?_⟩) hSS ?_
            rotate_left
            · obtain ⟨s0, s1, s2⟩ := hSw; go_simp; try with_reducible rfl
            try simp only [Act.put, List.setIfInBounds_toArray, List.set_cons_zero, List.set_cons_succ]
            refine wpAnyT_take' (i := 19) (v := ?_) hO rfl rfl (by kernel_rfl) (by kernel_rfl) (by kernel_rfl) (by kernel_rfl) hQp (Or.inl ⟨by kernel_rfl, fun w hSw => ?_⟩) hSS ?_
            rotate_left
            · obtain ⟨s0, s1, s2⟩ := hSw; go_simp; try with_reducible rfl
            try simp only [Act.put, List.setIfInBounds_toArray, List.set_cons_zero, List.set_cons_succ]
            refine wpAnyT_take' (i := 20) (v := ?_) hO rfl rfl (by kernel_rfl) (by kernel_rfl) (by kernel_rfl) (by kernel_rfl) hQp (Or.inl ⟨by kernel_rfl, fun w hSw => ?_⟩) hSS ?_
            rotate_left
            · obtain ⟨s0, s1, s2⟩ := hSw; go_simp; try with_reducible rfl
            try simp only [Act.put, List.setIfInBounds_toArray, List.set_cons_zero, List.set_cons_succ]
            refine wpAnyT_take' (i := 21) (v := ?_) hO rfl rfl (by kernel_rfl) (by kernel_rfl) (by kernel_rfl) (by kernel_rfl) hQp (Or.inl ⟨by kernel_rfl, fun w hSw => ?_⟩) hSS ?_
            rotate_left
            · obtain ⟨s0, s1, s2⟩ := hSw; go_simp; try with_reducible rfl
            try simp only [Act.put, List.setIfInBounds_toArray, List.set_cons_zero, List.set_cons_succ]
            refine wpAnyT_take' (i := 22) (v := ?_) hO rfl rfl (by kernel_rfl) (by kernel_rfl) (by kernel_rfl) (by kernel_rfl) hQp (Or.inl ⟨by kernel_rfl, fun w hSw => ?_⟩) hSS ?_
            rotate_left
            · obtain ⟨s0, s1, s2⟩ := hSw; go_simp; try with_reducible rfl
            try simp only [Act.put, List.setIfInBounds_toArray, List.set_cons_zero, List.set_cons_succ]
            refine wpAnyT_take' (i := 23) (v := ?_) hO rfl rfl (by kernel_rfl) (by kernel_rfl) (by kernel_rfl) (by kernel_rfl) hQp (Or.inl ⟨by kernel_rfl, fun w hSw => ?_⟩) hSS ?_
            rotate_left
            · obtain ⟨s0, s1, s2⟩ := hSw; go_simp; try with_reducible rfl
            try simp only [Act.put, List.setIfInBounds_toArray, List.set_cons_zero, List.set_cons_succ]
            refine wpAnyT_take' (i := 24) (v := ?_) hO rfl rfl (by kernel_rfl) (by kernel_rfl) (by kernel_rfl) (by kernel_rfl) hQp (Or.inl ⟨by kernel_rfl, fun w hSw => ?_⟩) hSS ?_
            rotate_left
            · obtain ⟨s0, s1, s2⟩ := hSw; go_simp; try with_reducible rfl
            try simp only [Act.put, List.setIfInBounds_toArray, List.set_cons_zero, List.set_cons_succ]
            refine wpAnyT_one' (i := 17) hO rfl (by kernel_rfl) (by kernel_rfl) (fun K hK => ?_)
            go_simp
            have hs3 := diskSame_any HT9.out.third HT9.out.both.disk
            rw [HLW.out.2.2.2, HSET.out] at hs3
            refine Calls.mono hs3 ?_
            rintro e w10 ⟨rfl, hk10⟩
            have HT10 := Lib.hid (HT9.out.then hk10)
            have HDV10 := Lib.hid (HDV9.out.kept hk10 (by simp))
            have hS1 : (fun w' : World => w'.cell? ⟨c, 0, none⟩ = some (.slice (some ⟨sb2, 0, none⟩) d.sure.length scap2) ∧ w'.cell? ⟨sb2, 0, none⟩ = some v2 ∧ (convert 30 9 v2).run Try.prog w' = .ok (.string (str l)) w') w10 := ⟨hk10.cell hSS.1 (by simp), hk10.cell hSS.2.1 (by simp), Bytes.toStr HDV10.out.1⟩
            clear hSS hs3 hk10 HT9 HDV9
            have hSS := hS1
            clear hS1
            refine hK _ _ (.inr hSS) ?_
            clear hK K
            try simp only [Act.put, List.setIfInBounds_toArray, List.set_cons_zero, List.set_cons_succ]
            refine wpAnyT_one' (i := 25) hO rfl (by kernel_rfl) (by kernel_rfl) (fun K hK => ?_)
            go_simp
            refine Calls.mono (otherBlock _) ?_
            rintro e w11 ⟨v11, rfl, hv11, hk11⟩
            have HT11 := Lib.hid (HT10.out.then hk11)
            have cv11 : (convert 30 9 v11).run Try.prog w11 = .ok (.string (str lOther)) w11 := Bytes.toStr hv11.1
            have HDV11 := Lib.hid (HDV10.out.kept hk11 (by simp))
            have hS1 : (fun w' : World => w'.cell? ⟨c, 0, none⟩ = some (.slice (some ⟨sb2, 0, none⟩) d.sure.length scap2) ∧ w'.cell? ⟨sb2, 0, none⟩ = some v2 ∧ (convert 30 9 v2).run Try.prog w' = .ok (.string (str l)) w') w11 := ⟨hk11.cell hSS.1 (by simp), hk11.cell hSS.2.1 (by simp), Bytes.toStr HDV11.out.1⟩
            clear hSS hv11 hk11 HT10 HDV10
            have hSS := hS1
            clear hS1
            refine hK _ _ (.inr hSS) ?_
            clear hK K
            try simp only [Act.put, List.setIfInBounds_toArray, List.set_cons_zero, List.set_cons_succ]
            refine wpAnyT_one' (i := 26) hO rfl (by kernel_rfl) (by kernel_rfl) (fun K hK => ?_)
            go_simp
            refine hK _ _ (.inr hSS) ?_
            clear hK K
            try simp only [Act.put, List.setIfInBounds_toArray, List.set_cons_zero, List.set_cons_succ]
            clear cv11
            refine wpAnyT_take' (i := 27) (v := ?_) hO rfl rfl (by kernel_rfl) (by kernel_rfl) (by kernel_rfl) (by kernel_rfl) hQp (Or.inl ⟨by kernel_rfl, fun w hSw => ?_⟩) hSS ?_
            rotate_left
            · obtain ⟨s0, s1, s2⟩ := hSw; go_simp; try with_reducible rfl
            try simp only [Act.put, List.setIfInBounds_toArray, List.set_cons_zero, List.set_cons_succ]
            refine wpAnyT_take' (i := 28) (v := ?_) hO rfl rfl (by kernel_rfl) (by kernel_rfl) (by kernel_rfl) (by kernel_rfl) hQp (Or.inl ⟨by kernel_rfl, fun w hSw => ?_⟩) hSS ?_
            rotate_left
            · obtain ⟨s0, s1, s2⟩ := hSw; go_simp; try with_reducible rfl
            try simp only [Act.put, List.setIfInBounds_toArray, List.set_cons_zero, List.set_cons_succ]
            refine wpAnyT_take' (i := 29) (v := ?_) hO rfl rfl (by kernel_rfl) (by kernel_rfl) (by kernel_rfl) (by kernel_rfl) hQp (Or.inl ⟨by kernel_rfl, fun w hSw => ?_⟩) hSS ?_
            rotate_left
            · obtain ⟨s0, s1, s2⟩ := hSw; go_simp; try with_reducible rfl
            try simp only [Act.put, List.setIfInBounds_toArray, List.set_cons_zero, List.set_cons_succ]
            refine wpAnyT_one' (i := 30) hO rfl (by kernel_rfl) (by kernel_rfl) (fun K hK => ?_)
            go_simp
            refine hK _ _ (.inl rfl) ?_
            clear hK K
            try simp only [Act.put, List.setIfInBounds_toArray, List.set_cons_zero, List.set_cons_succ]
            refine wpAnyT_done' hO (by kernel_rfl) ?_ _
            subst hR
            try clear hQp hO O
            go_wp2_with fail
            go_ret
            exact ⟨rfl, HT11.out.kept⟩

theorem images_any (n : Int) (a : Option Addr) (c : Nat) (os : List OpV) (w : World) (hO : Ops w (.slice a os.length c) os) :
    Calls Try.prog 8 #[.int .i64 n, .slice a os.length c] w fun e w' => e = .returned (.bool true) ∧ Kept [] w w' := by
  by_cases h1 : n < 1 ∨ 30 < n
  · exact images_bad n h1 a c os w hO
  · obtain ⟨m, rfl⟩ := Int.eq_ofNat_of_zero_le (show 0 ≤ n by omega)
    exact images_good m (by omega) (by omega) a c os w hO
end Go.Proofs.Ytfkdoinlbdcaaaa
