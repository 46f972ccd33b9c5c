/- The law's lives(). -/
import Derived.Test.YtfkdoinlbdcaaaaLoose
import Derived.Laws.BytesArg
import Derived.Test.YtfkdoinlbdcaaaaLast
namespace Go.Proofs.Ytfkdoinlbdcaaaa
open Go.RowKit

/-- The text of bytes. -/
def str (l : List UInt8) : ByteArray := ⟨l.toArray⟩
theorem str_size (l : List UInt8) : (str l).size = l.length := by simp [str, ByteArray.size]
theorem str_list (l : List UInt8) : (str l).data.toList = l := by simp [str]
theorem str_inj {a b : List UInt8} (h : str a = str b) : a = b := by rw [← str_list a, h, str_list]
theorem str_of (s : ByteArray) : str s.data.toList = s := by cases s; simp [str]
theorem Bytes.toStr {w : World} {v : Value} {l : List UInt8} (h : Bytes w v l) : (convert 30 9 v).run Try.prog w = .ok (.string (str l)) w := by
  rcases h.2 with ⟨rfl, h0⟩ | ⟨h0, ad, cap, rfl, hm⟩ | ⟨g, o, cap, rfl, hc, hm, hr⟩
  · have : l = [] := List.eq_nil_of_length_eq_zero h0
    subst this
    have h1 := run_convert_bytes_nil (P := Try.prog) w 30 5 Try.underlying30 Try.underlying5 0 0 9 Try.underlying9
    have e1 : str [] = ByteArray.empty := by rfl
    rw [e1]
    exact h1
  · have : l = [] := List.eq_nil_of_length_eq_zero h0
    subst this
    have h1 := run_convert_bytes_string (P := Try.prog) w 30 9 5 (some ad) 0 cap Try.underlying30 Try.underlying5 Try.underlying9
    rw [h1]
    rfl
  · have h1 := run_convert_bytes_arg (P := Try.prog) w 30 5 Try.underlying30 Try.underlying5 g o l.length cap (l.map fun b => (b.toNat : Int)) (by simp) (fun i hi => by
      rw [hr.at (by simpa using hi)]
      simp [bv, List.getD_eq_getElem?_getD, hi]) 9 Try.underlying9
    have e2 : strOfNums (l.map fun b => (b.toNat : Int)) = str l := by
      unfold strOfNums str
      rw [List.map_map]
      have e3 : ((fun n : Int => UInt8.ofNat n.toNat) ∘ fun b : UInt8 => (b.toNat : Int)) = id := funext fun b => by simp
      rw [e3, List.map_id]
    rw [← e2]
    exact h1

def tABCDEF : ByteArray := ⟨#[97, 98, 99, 100, 101, 102]⟩
def tAB : ByteArray := ⟨#[97, 98]⟩
def l1 : List UInt8 := pad tABCDEF.data.toList
def l2 : List UInt8 := pad tAB.data.toList
def d0 : PDisk := PDisk.new 4
def d1 : PDisk := (d0.write 3 l1).2
def d2 : PDisk := (d1.crash [(3, 2)]).2
def d3 : PDisk := d2.sync.2
theorem l1_len : l1.length = 64 := pad_len _
theorem l2_len : l2.length = 64 := pad_len _
theorem p1 : (d0.write 3 l1).1 = 0 := by kernel_rfl
theorem p2 : d1.read 3 = (l1, 0) := by kernel_rfl
theorem p3 : d1.keeps [(3, 2)] = true := by kernel_rfl
theorem p4 : d2.read 3 = (l2, 0) := by kernel_rfl
theorem p5 : d2.read 4 = ([], 4) := by kernel_rfl
theorem p6 : d2.sync.1 = 0 := by kernel_rfl
theorem p7 : d3.sure.length = 4 := by kernel_rfl
theorem p8 : d3.off = false := by kernel_rfl
theorem p9 : d3.looseKeys = [] := by kernel_rfl

/-- A new thing lies in none of the blocks that were there. -/
theorem new_apart {w w' : World} {v : Value} {l : List UInt8} {F : List Nat} (h : NewBytes w w' v l) (hF : ∀ k, k ∈ F → k < w.heap.size) : ∀ g, vblk v = some g → g ∉ F := by
  intro g hg hx
  have := (h.2 g hg).1
  have := hF g hx
  omega

set_option maxRecDepth 10000 in
set_option maxHeartbeats 4000000 in
theorem lives_any (w : World) : Calls Try.prog 10 #[] w fun e w' => e = .returned (.bool true) ∧ Kept [] w w' := by
  go_enter Try.func10, Try.ntmps10
  go_wp2_with fail
  refine (new_any 4 _ (by decide) (by decide)).mono ?_
  rintro e wa ⟨b, F, rfl, hd, hk, hFn⟩
  have HD0 := Lib.hid hd
  have HK0 := Lib.hid hk
  have HF0 := Lib.hid hFn
  clear hd hk hFn
  go_wp2_with fail
  refine (block_any tABCDEF _ (by decide)).mono ?_
  rintro e wb ⟨v1, rfl, hv1, hk⟩
  have HD1 := Lib.hid (HD0.out.kept0 hk)
  have HV1 := Lib.hid hv1
  have HA1 := Lib.hid (new_apart hv1 HD0.out.lt)
  have HK1 := Lib.hid (HK0.out.then hk)
  clear hv1 hk
  obtain ⟨a1, c1, rfl, -, -⟩ := HV1.out.1.form
  go_wp2_with fail
  have hw := write_any HD1.out 3 HV1.out.1 HA1.out
  rw [show (PDisk.new 4).write 3 (pad tABCDEF.data.toList) = d0.write 3 l1 from rfl, p1] at hw
  refine hw.mono ?_
  clear hw
  rintro e wc ⟨rfl, hd, hk⟩
  have HD2 : Hid (DiskRep wc b F d1) := Lib.hid hd
  have HK2 := Lib.hid (HK1.out.trans hk (fun i hi => .inr (HF0.out i hi)))
  clear hd hk HD1 HV1 HA1
  go_wp2_with fail
  have hr := read_any HD2.out 3
  rw [p2] at hr
  refine hr.mono ?_
  clear hr
  rintro e wd ⟨vx, rfl, hvx, hk⟩
  have HX := Lib.hid hvx
  have HD3 := Lib.hid (HD2.out.kept0 hk)
  have HK3 := Lib.hid (HK2.out.then hk)
  have HXA := Lib.hid (new_apart hvx HD2.out.lt)
  clear hvx hk HD2
  go_wp2_with fail
  have kc := (Kept.refl [] wd).alloc (.cells #[.int .i64 3, .int .i64 2] 39)
  have hsl := slc_new wd (keptCells [(3, 2)]) 2 1 39 wd.heap.size rfl rfl (by decide)
  have hdc := HD3.out.kept0 kc
  have hcr := crash_yes hdc [(3, 2)] hsl (by intro k hk; simp at hk; subst hk; decide) (by decide) p3 (by intro g hg hx; simp [vblk] at hg; subst hg; have := HD3.out.lt _ hx; omega)
  refine Calls.mono hcr ?_
  clear hcr
  rintro e we ⟨F1, rfl, hd, hk, hF1⟩
  have HD4 : Hid (DiskRep we b F1 d2) := Lib.hid hd
  have HK4 := Lib.hid ((HK3.out.then kc).trans hk (fun i hi => .inr (HF0.out i hi)))
  have HF1 : Hid (∀ k, k ∈ F1 → w.heap.size ≤ k) := Lib.hid (by
    intro k hk
    rcases hF1 k hk with h | h
    · exact HF0.out k h
    · have := HK3.out.size; have := kc.size; omega)
  have HX4 := Lib.hid ((HX.out.1.kept0 kc).kept hk HXA.out)
  have HXB : Hid (∀ g, vblk vx = some g → g ∉ F1) := Lib.hid (by
    intro g hg hx
    rcases hF1 g hx with h | h
    · exact HXA.out g hg h
    · have := HX.out.1.lt hg; have := kc.size; omega)
  clear hd hk hF1 hdc hsl kc HX HXA HD3
  go_wp2_with fail
  have hr := read_any HD4.out 3
  rw [p4] at hr
  refine hr.mono ?_
  clear hr
  rintro e wf ⟨vy, rfl, hvy, hk⟩
  have HY := Lib.hid hvy
  have HD5 := Lib.hid (HD4.out.kept0 hk)
  have HK5 := Lib.hid (HK4.out.then hk)
  have HYA := Lib.hid (new_apart hvy HD4.out.lt)
  have HX5 := Lib.hid (HX4.out.kept0 hk)
  clear hvy hk HD4 HX4
  go_wp2_with fail
  have hr := read_any HD5.out 4
  rw [p5] at hr
  refine hr.mono ?_
  clear hr
  rintro e wg ⟨vz, rfl, hvz, hk⟩
  have HD6 := Lib.hid (HD5.out.kept0 hk)
  have HK6 := Lib.hid (HK5.out.then hk)
  have HX6 := Lib.hid (HX5.out.kept0 hk)
  have HY6 := Lib.hid (HY.out.1.kept0 hk)
  clear hvz hk HD5 HX5 HY
  go_wp2_with fail
  have hr := new_bad 0 wg (by decide)
  refine hr.mono ?_
  clear hr
  rintro e wh ⟨rfl, rfl⟩
  go_wp2_with fail
  have hSS : (fun w' : World => (convert 30 9 vx).run Try.prog w' = .ok (.string (str l1)) w' ∧ (convert 30 9 vy).run Try.prog w' = .ok (.string (str l2)) w') wg.drew := ⟨Bytes.toStr HX6.out.drew, Bytes.toStr HY6.out.drew⟩
  refine wp_region_last' (n := 63) (fun w' : World => (convert 30 9 vx).run Try.prog w' = .ok (.string (str l1)) w' ∧ (convert 30 9 vy).run Try.prog w' = .ok (.string (str l2)) w') 62 (by kernel_rfl) (by kernel_rfl) ?_
  change wpAnyT _ _ _ _ _ _ _ _ _ wg.drew
  refine wpAnyT_start ?_
  intro O R hO hR
  have hQp : ∀ c a (d : Nat) v w, R (.panic c) (a.put (some d) v) w → R (.panic c) a w := by subst hR; exact fun _ _ _ _ _ h => h
  refine wpAnyT_take' (i := 0) (v := ?_) hO rfl rfl (by kernel_rfl) (by kernel_rfl) (by kernel_rfl) (by kernel_rfl) hQp (Or.inl ⟨by kernel_rfl, fun w hSw => ?_⟩) hSS ?_
  rotate_left
  · obtain ⟨s0, s1⟩ := hSw; go_simp; try with_reducible rfl
  try simp only [Act.put, List.setIfInBounds_toArray, List.set_cons_zero, List.set_cons_succ]
  refine wpAnyT_take' (i := 1) (v := ?_) hO rfl rfl (by kernel_rfl) (by kernel_rfl) (by kernel_rfl) (by kernel_rfl) hQp (Or.inl ⟨by kernel_rfl, fun w hSw => ?_⟩) hSS ?_
  rotate_left
  · obtain ⟨s0, s1⟩ := hSw; go_simp; try with_reducible rfl
  try simp only [Act.put, List.setIfInBounds_toArray, List.set_cons_zero, List.set_cons_succ]
  refine wpAnyT_take' (i := 2) (v := ?_) hO rfl rfl (by kernel_rfl) (by kernel_rfl) (by kernel_rfl) (by kernel_rfl) hQp (Or.inl ⟨by kernel_rfl, fun w hSw => ?_⟩) hSS ?_
  rotate_left
  · obtain ⟨s0, s1⟩ := hSw; go_simp; try with_reducible rfl
  try simp only [Act.put, List.setIfInBounds_toArray, List.set_cons_zero, List.set_cons_succ]
  refine wpAnyT_take' (i := 3) (v := ?_) hO rfl rfl (by kernel_rfl) (by kernel_rfl) (by kernel_rfl) (by kernel_rfl) hQp (Or.inl ⟨by kernel_rfl, fun w hSw => ?_⟩) hSS ?_
  rotate_left
  · obtain ⟨s0, s1⟩ := hSw; go_simp; try with_reducible rfl
  try simp only [Act.put, List.setIfInBounds_toArray, List.set_cons_zero, List.set_cons_succ]
  refine wpAnyT_take' (i := 4) (v := ?_) hO rfl rfl (by kernel_rfl) (by kernel_rfl) (by kernel_rfl) (by kernel_rfl) hQp (Or.inl ⟨by kernel_rfl, fun w hSw => ?_⟩) hSS ?_
  rotate_left
  · obtain ⟨s0, s1⟩ := hSw; go_simp; try with_reducible rfl
  try simp only [Act.put, List.setIfInBounds_toArray, List.set_cons_zero, List.set_cons_succ]
  refine wpAnyT_take' (i := 5) (v := ?_) hO rfl rfl (by kernel_rfl) (by kernel_rfl) (by kernel_rfl) (by kernel_rfl) hQp (Or.inl ⟨by kernel_rfl, fun w hSw => ?_⟩) hSS ?_
  rotate_left
  · obtain ⟨s0, s1⟩ := hSw; go_simp; try with_reducible rfl
  try simp only [Act.put, List.setIfInBounds_toArray, List.set_cons_zero, List.set_cons_succ]
  refine wpAnyT_take' (i := 6) (v := ?_) hO rfl rfl (by kernel_rfl) (by kernel_rfl) (by kernel_rfl) (by kernel_rfl) hQp (Or.inl ⟨by kernel_rfl, fun w hSw => ?_⟩) hSS ?_
  rotate_left
  · obtain ⟨s0, s1⟩ := hSw; go_simp; try with_reducible rfl
  try simp only [Act.put, List.setIfInBounds_toArray, List.set_cons_zero, List.set_cons_succ]
  refine wpAnyT_take' (i := 7) (v := ?_) hO rfl rfl (by kernel_rfl) (by kernel_rfl) (by kernel_rfl) (by kernel_rfl) hQp (Or.inl ⟨by kernel_rfl, fun w hSw => ?_⟩) hSS ?_
  rotate_left
  · obtain ⟨s0, s1⟩ := hSw; go_simp; try with_reducible rfl
  try simp only [Act.put, List.setIfInBounds_toArray, List.set_cons_zero, List.set_cons_succ]
  refine wpAnyT_take' (i := 8) (v := ?_) hO rfl rfl (by kernel_rfl) (by kernel_rfl) (by kernel_rfl) (by kernel_rfl) hQp (Or.inl ⟨by kernel_rfl, fun w hSw => ?_⟩) hSS ?_
  rotate_left
  · obtain ⟨s0, s1⟩ := hSw; go_simp; try with_reducible rfl
  try simp only [Act.put, List.setIfInBounds_toArray, List.set_cons_zero, List.set_cons_succ]
  refine wpAnyT_one' (i := 9) hO rfl (by kernel_rfl) (by kernel_rfl) (fun K hK => ?_)
  go_simp
  refine Calls.mono (block_any tABCDEF _ (by decide)) ?_
  rintro e wi ⟨vb, rfl, hvb, hkb⟩
  have k7 : Kept [] wg wi := (Kept.refl _ wg).drew.then hkb
  have cb7 : (convert 30 9 vb).run Try.prog wi = .ok (.string (str l1)) wi := Bytes.toStr hvb.1
  clear hSS
  have hSS : (fun w' : World => (convert 30 9 vx).run Try.prog w' = .ok (.string (str l1)) w' ∧ (convert 30 9 vy).run Try.prog w' = .ok (.string (str l2)) w') wi := ⟨Bytes.toStr (HX6.out.kept0 k7), Bytes.toStr (HY6.out.kept0 k7)⟩
  have HK7 := Lib.hid k7
  clear k7 hkb hvb
  refine hK _ _ (.inr hSS) ?_
  clear hK K
  try simp only [Act.put, List.setIfInBounds_toArray, List.set_cons_zero, List.set_cons_succ]
  refine wpAnyT_one' (i := 10) hO rfl (by kernel_rfl) (by kernel_rfl) (fun K hK => ?_)
  go_simp
  refine hK _ _ (.inr hSS) ?_
  clear hK K
  try simp only [Act.put, List.setIfInBounds_toArray, List.set_cons_zero, List.set_cons_succ]
  clear cb7
  refine wpAnyT_take' (i := 11) (v := ?_) hO rfl rfl (by kernel_rfl) (by kernel_rfl) (by kernel_rfl) (by kernel_rfl) hQp (Or.inl ⟨by kernel_rfl, fun w hSw => ?_⟩) hSS ?_
  rotate_left
  · obtain ⟨s0, s1⟩ := hSw; go_simp; try with_reducible rfl
  try simp only [Act.put, List.setIfInBounds_toArray, List.set_cons_zero, List.set_cons_succ]
  refine wpAnyT_take' (i := 12) (v := ?_) hO rfl rfl (by kernel_rfl) (by kernel_rfl) (by kernel_rfl) (by kernel_rfl) hQp (Or.inl ⟨by kernel_rfl, fun w hSw => ?_⟩) hSS ?_
  rotate_left
  · obtain ⟨s0, s1⟩ := hSw; go_simp; try with_reducible rfl
  try simp only [Act.put, List.setIfInBounds_toArray, List.set_cons_zero, List.set_cons_succ]
  refine wpAnyT_take' (i := 13) (v := ?_) hO rfl rfl (by kernel_rfl) (by kernel_rfl) (by kernel_rfl) (by kernel_rfl) hQp (Or.inl ⟨by kernel_rfl, fun w hSw => ?_⟩) hSS ?_
  rotate_left
  · obtain ⟨s0, s1⟩ := hSw; go_simp; try with_reducible rfl
  try simp only [Act.put, List.setIfInBounds_toArray, List.set_cons_zero, List.set_cons_succ]
  refine wpAnyT_take' (i := 14) (v := ?_) hO rfl rfl (by kernel_rfl) (by kernel_rfl) (by kernel_rfl) (by kernel_rfl) hQp (Or.inl ⟨by kernel_rfl, fun w hSw => ?_⟩) hSS ?_
  rotate_left
  · obtain ⟨s0, s1⟩ := hSw; go_simp; try with_reducible rfl
  try simp only [Act.put, List.setIfInBounds_toArray, List.set_cons_zero, List.set_cons_succ]
  refine wpAnyT_take' (i := 15) (v := ?_) hO rfl rfl (by kernel_rfl) (by kernel_rfl) (by kernel_rfl) (by kernel_rfl) hQp (Or.inl ⟨by kernel_rfl, fun w hSw => ?_⟩) hSS ?_
  rotate_left
  · obtain ⟨s0, s1⟩ := hSw; go_simp; try with_reducible rfl
  try simp only [Act.put, List.setIfInBounds_toArray, List.set_cons_zero, List.set_cons_succ]
  refine wpAnyT_take' (i := 16) (v := ?_) hO rfl rfl (by kernel_rfl) (by kernel_rfl) (by kernel_rfl) (by kernel_rfl) hQp (Or.inl ⟨by kernel_rfl, fun w hSw => ?_⟩) hSS ?_
  rotate_left
  · obtain ⟨s0, s1⟩ := hSw; go_simp; try with_reducible rfl
  try simp only [Act.put, List.setIfInBounds_toArray, List.set_cons_zero, List.set_cons_succ]
  refine wpAnyT_take' (i := 17) (v := ?_) hO rfl rfl (by kernel_rfl) (by kernel_rfl) (by kernel_rfl) (by kernel_rfl) hQp (Or.inl ⟨by kernel_rfl, fun w hSw => ?_⟩) hSS ?_
  rotate_left
  · obtain ⟨s0, s1⟩ := hSw; go_simp; try with_reducible rfl
  try simp only [Act.put, List.setIfInBounds_toArray, List.set_cons_zero, List.set_cons_succ]
  refine wpAnyT_take' (i := 18) (v := ?_) hO rfl rfl (by kernel_rfl) (by kernel_rfl) (by kernel_rfl) (by kernel_rfl) hQp (Or.inl ⟨by kernel_rfl, fun w hSw => ?_⟩) hSS ?_
  rotate_left
  · obtain ⟨s0, s1⟩ := hSw; go_simp; try with_reducible rfl
  try simp only [Act.put, List.setIfInBounds_toArray, List.set_cons_zero, List.set_cons_succ]
  refine wpAnyT_take' (i := 19) (v := ?_) hO rfl rfl (by kernel_rfl) (by kernel_rfl) (by kernel_rfl) (by kernel_rfl) hQp (Or.inl ⟨by kernel_rfl, fun w hSw => ?_⟩) hSS ?_
  rotate_left
  · obtain ⟨s0, s1⟩ := hSw; go_simp; try with_reducible rfl
  try simp only [Act.put, List.setIfInBounds_toArray, List.set_cons_zero, List.set_cons_succ]
  refine wpAnyT_take' (i := 20) (v := ?_) hO rfl rfl (by kernel_rfl) (by kernel_rfl) (by kernel_rfl) (by kernel_rfl) hQp (Or.inl ⟨by kernel_rfl, fun w hSw => ?_⟩) hSS ?_
  rotate_left
  · obtain ⟨s0, s1⟩ := hSw; go_simp; try with_reducible rfl
  try simp only [Act.put, List.setIfInBounds_toArray, List.set_cons_zero, List.set_cons_succ]
  refine wpAnyT_take' (i := 21) (v := ?_) hO rfl rfl (by kernel_rfl) (by kernel_rfl) (by kernel_rfl) (by kernel_rfl) hQp (Or.inl ⟨by kernel_rfl, fun w hSw => ?_⟩) hSS ?_
  rotate_left
  · obtain ⟨s0, s1⟩ := hSw; go_simp; try with_reducible rfl
  try simp only [Act.put, List.setIfInBounds_toArray, List.set_cons_zero, List.set_cons_succ]
  refine wpAnyT_take' (i := 22) (v := ?_) hO rfl rfl (by kernel_rfl) (by kernel_rfl) (by kernel_rfl) (by kernel_rfl) hQp (Or.inl ⟨by kernel_rfl, fun w hSw => ?_⟩) hSS ?_
  rotate_left
  · obtain ⟨s0, s1⟩ := hSw; go_simp; try with_reducible rfl
  try simp only [Act.put, List.setIfInBounds_toArray, List.set_cons_zero, List.set_cons_succ]
  refine wpAnyT_take' (i := 23) (v := ?_) hO rfl rfl (by kernel_rfl) (by kernel_rfl) (by kernel_rfl) (by kernel_rfl) hQp (Or.inl ⟨by kernel_rfl, fun w hSw => ?_⟩) hSS ?_
  rotate_left
  · obtain ⟨s0, s1⟩ := hSw; go_simp; try with_reducible rfl
  try simp only [Act.put, List.setIfInBounds_toArray, List.set_cons_zero, List.set_cons_succ]
  refine wpAnyT_one' (i := 24) hO rfl (by kernel_rfl) (by kernel_rfl) (fun K hK => ?_)
  go_simp
  refine Calls.mono (block_any tAB _ (by decide)) ?_
  rintro e wj ⟨vc, rfl, hvc, hkb⟩
  have k8 : Kept [] wg wj := HK7.out.then hkb
  have cb8 : (convert 30 9 vc).run Try.prog wj = .ok (.string (str l2)) wj := Bytes.toStr hvc.1
  clear hSS
  have hSS : (fun w' : World => (convert 30 9 vx).run Try.prog w' = .ok (.string (str l1)) w' ∧ (convert 30 9 vy).run Try.prog w' = .ok (.string (str l2)) w') wj := ⟨Bytes.toStr (HX6.out.kept0 k8), Bytes.toStr (HY6.out.kept0 k8)⟩
  have HD8 := Lib.hid (HD6.out.kept0 k8)
  have HX8 := Lib.hid (HX6.out.kept0 k8)
  have HY8 := Lib.hid (HY6.out.kept0 k8)
  have HK8 := Lib.hid (HK6.out.then k8)
  clear k8 hkb hvc HK7 HD6 HX6 HY6
  refine hK _ _ (.inr hSS) ?_
  clear hK K
  try simp only [Act.put, List.setIfInBounds_toArray, List.set_cons_zero, List.set_cons_succ]
  refine wpAnyT_one' (i := 25) hO rfl (by kernel_rfl) (by kernel_rfl) (fun K hK => ?_)
  go_simp
  refine hK _ _ (.inr hSS) ?_
  clear hK K
  try simp only [Act.put, List.setIfInBounds_toArray, List.set_cons_zero, List.set_cons_succ]
  clear cb8
  refine wpAnyT_take' (i := 26) (v := ?_) hO rfl rfl (by kernel_rfl) (by kernel_rfl) (by kernel_rfl) (by kernel_rfl) hQp (Or.inl ⟨by kernel_rfl, fun w hSw => ?_⟩) hSS ?_
  rotate_left
  · go_simp; try with_reducible rfl
  try simp only [Act.put, List.setIfInBounds_toArray, List.set_cons_zero, List.set_cons_succ]
  refine wpAnyT_take' (i := 27) (v := ?_) hO rfl rfl (by kernel_rfl) (by kernel_rfl) (by kernel_rfl) (by kernel_rfl) hQp (Or.inl ⟨by kernel_rfl, fun w hSw => ?_⟩) hSS ?_
  rotate_left
  · go_simp; try with_reducible rfl
  try simp only [Act.put, List.setIfInBounds_toArray, List.set_cons_zero, List.set_cons_succ]
  refine wpAnyT_take' (i := 28) (v := ?_) hO rfl rfl (by kernel_rfl) (by kernel_rfl) (by kernel_rfl) (by kernel_rfl) hQp (Or.inl ⟨by kernel_rfl, fun w hSw => ?_⟩) hSS ?_
  rotate_left
  · go_simp; try with_reducible rfl
  try simp only [Act.put, List.setIfInBounds_toArray, List.set_cons_zero, List.set_cons_succ]
  refine wpAnyT_take' (i := 29) (v := ?_) hO rfl rfl (by kernel_rfl) (by kernel_rfl) (by kernel_rfl) (by kernel_rfl) hQp (Or.inl ⟨by kernel_rfl, fun w hSw => ?_⟩) hSS ?_
  rotate_left
  · go_simp; try with_reducible rfl
  try simp only [Act.put, List.setIfInBounds_toArray, List.set_cons_zero, List.set_cons_succ]
  refine wpAnyT_take' (i := 30) (v := ?_) hO rfl rfl (by kernel_rfl) (by kernel_rfl) (by kernel_rfl) (by kernel_rfl) hQp (Or.inl ⟨by kernel_rfl, fun w hSw => ?_⟩) hSS ?_
  rotate_left
  · go_simp; try with_reducible rfl
  try simp only [Act.put, List.setIfInBounds_toArray, List.set_cons_zero, List.set_cons_succ]
  refine wpAnyT_take' (i := 31) (v := ?_) hO rfl rfl (by kernel_rfl) (by kernel_rfl) (by kernel_rfl) (by kernel_rfl) hQp (Or.inl ⟨by kernel_rfl, fun w hSw => ?_⟩) hSS ?_
  rotate_left
  · go_simp; try with_reducible rfl
  try simp only [Act.put, List.setIfInBounds_toArray, List.set_cons_zero, List.set_cons_succ]
  refine wpAnyT_take' (i := 32) (v := ?_) hO rfl rfl (by kernel_rfl) (by kernel_rfl) (by kernel_rfl) (by kernel_rfl) hQp (Or.inl ⟨by kernel_rfl, fun w hSw => ?_⟩) hSS ?_
  rotate_left
  · go_simp; try with_reducible rfl
  try simp only [Act.put, List.setIfInBounds_toArray, List.set_cons_zero, List.set_cons_succ]
  refine wpAnyT_take' (i := 33) (v := ?_) hO rfl rfl (by kernel_rfl) (by kernel_rfl) (by kernel_rfl) (by kernel_rfl) hQp (Or.inl ⟨by kernel_rfl, fun w hSw => ?_⟩) hSS ?_
  rotate_left
  · go_simp; try with_reducible rfl
  try simp only [Act.put, List.setIfInBounds_toArray, List.set_cons_zero, List.set_cons_succ]
  refine wpAnyT_take' (i := 34) (v := ?_) hO rfl rfl (by kernel_rfl) (by kernel_rfl) (by kernel_rfl) (by kernel_rfl) hQp (Or.inl ⟨by kernel_rfl, fun w hSw => ?_⟩) hSS ?_
  rotate_left
  · go_simp; try with_reducible rfl
  try simp only [Act.put, List.setIfInBounds_toArray, List.set_cons_zero, List.set_cons_succ]
  refine wpAnyT_take' (i := 35) (v := ?_) hO rfl rfl (by kernel_rfl) (by kernel_rfl) (by kernel_rfl) (by kernel_rfl) hQp (Or.inl ⟨by kernel_rfl, fun w hSw => ?_⟩) hSS ?_
  rotate_left
  · go_simp; try with_reducible rfl
  try simp only [Act.put, List.setIfInBounds_toArray, List.set_cons_zero, List.set_cons_succ]
  refine wpAnyT_take' (i := 36) (v := ?_) hO rfl rfl (by kernel_rfl) (by kernel_rfl) (by kernel_rfl) (by kernel_rfl) hQp (Or.inl ⟨by kernel_rfl, fun w hSw => ?_⟩) hSS ?_
  rotate_left
  · go_simp; try with_reducible rfl
  try simp only [Act.put, List.setIfInBounds_toArray, List.set_cons_zero, List.set_cons_succ]
  refine wpAnyT_take' (i := 37) (v := ?_) hO rfl rfl (by kernel_rfl) (by kernel_rfl) (by kernel_rfl) (by kernel_rfl) hQp (Or.inl ⟨by kernel_rfl, fun w hSw => ?_⟩) hSS ?_
  rotate_left
  · go_simp; try with_reducible rfl
  try simp only [Act.put, List.setIfInBounds_toArray, List.set_cons_zero, List.set_cons_succ]
  refine wpAnyT_one' (i := 38) hO rfl (by kernel_rfl) (by kernel_rfl) (fun K hK => ?_)
  go_simp
  have hq := sync_any HD8.out
  rw [p6] at hq
  refine hq.mono ?_
  clear hq
  rintro e wk ⟨rfl, hd, hk⟩
  have HD9 : Hid (DiskRep wk b F1 d3) := Lib.hid hd
  have HK9 := Lib.hid (HK8.out.trans hk (fun i hi => .inr (HF1.out i hi)))
  clear hSS hd
  have hSS : (fun w' : World => (convert 30 9 vx).run Try.prog w' = .ok (.string (str l1)) w' ∧ (convert 30 9 vy).run Try.prog w' = .ok (.string (str l2)) w') wk := ⟨Bytes.toStr (HX8.out.kept hk HXB.out), Bytes.toStr (HY8.out.kept hk HYA.out)⟩
  have HX9 := Lib.hid (HX8.out.kept hk HXB.out)
  have HY9 := Lib.hid (HY8.out.kept hk HYA.out)
  clear hk HD8 HK8 HX8 HY8 HXB HYA
  refine hK _ _ (.inr hSS) ?_
  clear hK K
  try simp only [Act.put, List.setIfInBounds_toArray, List.set_cons_zero, List.set_cons_succ]
  refine wpAnyT_take' (i := 39) (v := ?_) hO rfl rfl (by kernel_rfl) (by kernel_rfl) (by kernel_rfl) (by kernel_rfl) hQp (Or.inl ⟨by kernel_rfl, fun w hSw => ?_⟩) hSS ?_
  rotate_left
  · go_simp; try with_reducible rfl
  try simp only [Act.put, List.setIfInBounds_toArray, List.set_cons_zero, List.set_cons_succ]
  refine wpAnyT_take' (i := 40) (v := ?_) hO rfl rfl (by kernel_rfl) (by kernel_rfl) (by kernel_rfl) (by kernel_rfl) hQp (Or.inl ⟨by kernel_rfl, fun w hSw => ?_⟩) hSS ?_
  rotate_left
  · go_simp; try with_reducible rfl
  try simp only [Act.put, List.setIfInBounds_toArray, List.set_cons_zero, List.set_cons_succ]
  refine wpAnyT_take' (i := 41) (v := ?_) hO rfl rfl (by kernel_rfl) (by kernel_rfl) (by kernel_rfl) (by kernel_rfl) hQp (Or.inl ⟨by kernel_rfl, fun w hSw => ?_⟩) hSS ?_
  rotate_left
  · go_simp; try with_reducible rfl
  try simp only [Act.put, List.setIfInBounds_toArray, List.set_cons_zero, List.set_cons_succ]
  refine wpAnyT_take' (i := 42) (v := ?_) hO rfl rfl (by kernel_rfl) (by kernel_rfl) (by kernel_rfl) (by kernel_rfl) hQp (Or.inl ⟨by kernel_rfl, fun w hSw => ?_⟩) hSS ?_
  rotate_left
  · go_simp; try with_reducible rfl
  try simp only [Act.put, List.setIfInBounds_toArray, List.set_cons_zero, List.set_cons_succ]
  refine wpAnyT_one' (i := 43) hO rfl (by kernel_rfl) (by kernel_rfl) (fun K hK => ?_)
  go_simp
  refine Calls.mono (len_any HD9.out) ?_
  rintro e w' ⟨rfl, rfl⟩
  rw [p7]
  refine hK _ _ (.inr hSS) ?_
  clear hK K
  try simp only [Act.put, List.setIfInBounds_toArray, List.set_cons_zero, List.set_cons_succ]
  refine wpAnyT_take' (i := 44) (v := ?_) hO rfl rfl (by kernel_rfl) (by kernel_rfl) (by kernel_rfl) (by kernel_rfl) hQp (Or.inl ⟨by kernel_rfl, fun w hSw => ?_⟩) hSS ?_
  rotate_left
  · go_simp; try with_reducible rfl
  try simp only [Act.put, List.setIfInBounds_toArray, List.set_cons_zero, List.set_cons_succ]
  refine wpAnyT_take' (i := 45) (v := ?_) hO rfl rfl (by kernel_rfl) (by kernel_rfl) (by kernel_rfl) (by kernel_rfl) hQp (Or.inl ⟨by kernel_rfl, fun w hSw => ?_⟩) hSS ?_
  rotate_left
  · go_simp; try with_reducible rfl
  try simp only [Act.put, List.setIfInBounds_toArray, List.set_cons_zero, List.set_cons_succ]
  refine wpAnyT_take' (i := 46) (v := ?_) hO rfl rfl (by kernel_rfl) (by kernel_rfl) (by kernel_rfl) (by kernel_rfl) hQp (Or.inl ⟨by kernel_rfl, fun w hSw => ?_⟩) hSS ?_
  rotate_left
  · go_simp; try with_reducible rfl
  try simp only [Act.put, List.setIfInBounds_toArray, List.set_cons_zero, List.set_cons_succ]
  refine wpAnyT_take' (i := 47) (v := ?_) hO rfl rfl (by kernel_rfl) (by kernel_rfl) (by kernel_rfl) (by kernel_rfl) hQp (Or.inl ⟨by kernel_rfl, fun w hSw => ?_⟩) hSS ?_
  rotate_left
  · go_simp; try with_reducible rfl
  try simp only [Act.put, List.setIfInBounds_toArray, List.set_cons_zero, List.set_cons_succ]
  refine wpAnyT_one' (i := 48) hO rfl (by kernel_rfl) (by kernel_rfl) (fun K hK => ?_)
  go_simp
  refine Calls.mono (off_any HD9.out) ?_
  rintro e w' ⟨rfl, rfl⟩
  rw [p8]
  refine hK _ _ (.inr hSS) ?_
  clear hK K
  try simp only [Act.put, List.setIfInBounds_toArray, List.set_cons_zero, List.set_cons_succ]
  refine wpAnyT_take' (i := 49) (v := ?_) hO rfl rfl (by kernel_rfl) (by kernel_rfl) (by kernel_rfl) (by kernel_rfl) hQp (Or.inl ⟨by kernel_rfl, fun w hSw => ?_⟩) hSS ?_
  rotate_left
  · go_simp; try with_reducible rfl
  try simp only [Act.put, List.setIfInBounds_toArray, List.set_cons_zero, List.set_cons_succ]
  refine wpAnyT_take' (i := 50) (v := ?_) hO rfl rfl (by kernel_rfl) (by kernel_rfl) (by kernel_rfl) (by kernel_rfl) hQp (Or.inl ⟨by kernel_rfl, fun w hSw => ?_⟩) hSS ?_
  rotate_left
  · go_simp; try with_reducible rfl
  try simp only [Act.put, List.setIfInBounds_toArray, List.set_cons_zero, List.set_cons_succ]
  refine wpAnyT_take' (i := 51) (v := ?_) hO rfl rfl (by kernel_rfl) (by kernel_rfl) (by kernel_rfl) (by kernel_rfl) hQp (Or.inl ⟨by kernel_rfl, fun w hSw => ?_⟩) hSS ?_
  rotate_left
  · go_simp; try with_reducible rfl
  try simp only [Act.put, List.setIfInBounds_toArray, List.set_cons_zero, List.set_cons_succ]
  refine wpAnyT_take' (i := 52) (v := ?_) hO rfl rfl (by kernel_rfl) (by kernel_rfl) (by kernel_rfl) (by kernel_rfl) hQp (Or.inl ⟨by kernel_rfl, fun w hSw => ?_⟩) hSS ?_
  rotate_left
  · go_simp; try with_reducible rfl
  try simp only [Act.put, List.setIfInBounds_toArray, List.set_cons_zero, List.set_cons_succ]
  refine wpAnyT_one' (i := 53) hO rfl (by kernel_rfl) (by kernel_rfl) (fun K hK => ?_)
  go_simp
  have hl := loose_any HD9.out
  rw [p9] at hl
  refine hl.mono ?_
  clear hl
  rintro e wl ⟨v, rfl, hv, hk⟩
  obtain ⟨al, cl, rfl, -, -⟩ := hv.form
  clear hSS
  have hSS : (fun w' : World => (convert 30 9 vx).run Try.prog w' = .ok (.string (str l1)) w' ∧ (convert 30 9 vy).run Try.prog w' = .ok (.string (str l2)) w') wl := ⟨Bytes.toStr (HX9.out.kept0 hk), Bytes.toStr (HY9.out.kept0 hk)⟩
  have HD10 := Lib.hid (HD9.out.kept0 hk)
  have HK10 := Lib.hid (HK9.out.then hk)
  have HX10 := Lib.hid (HX9.out.kept0 hk)
  have HY10 := Lib.hid (HY9.out.kept0 hk)
  clear hk hv HD9 HK9 HX9 HY9
  refine hK _ _ (.inr hSS) ?_
  clear hK K
  try simp only [Act.put, List.setIfInBounds_toArray, List.set_cons_zero, List.set_cons_succ]
  refine wpAnyT_take' (i := 54) (v := ?_) hO rfl rfl (by kernel_rfl) (by kernel_rfl) (by kernel_rfl) (by kernel_rfl) hQp (Or.inl ⟨by kernel_rfl, fun w hSw => ?_⟩) hSS ?_
  rotate_left
  · go_simp; try with_reducible rfl
  try simp only [Act.put, List.setIfInBounds_toArray, List.set_cons_zero, List.set_cons_succ]
  refine wpAnyT_take' (i := 55) (v := ?_) hO rfl rfl (by kernel_rfl) (by kernel_rfl) (by kernel_rfl) (by kernel_rfl) hQp (Or.inl ⟨by kernel_rfl, fun w hSw => ?_⟩) hSS ?_
  rotate_left
  · go_simp; try with_reducible rfl
  try simp only [Act.put, List.setIfInBounds_toArray, List.set_cons_zero, List.set_cons_succ]
  refine wpAnyT_take' (i := 56) (v := ?_) hO rfl rfl (by kernel_rfl) (by kernel_rfl) (by kernel_rfl) (by kernel_rfl) hQp (Or.inl ⟨by kernel_rfl, fun w hSw => ?_⟩) hSS ?_
  rotate_left
  · go_simp; try with_reducible rfl
  try simp only [Act.put, List.setIfInBounds_toArray, List.set_cons_zero, List.set_cons_succ]
  refine wpAnyT_take' (i := 57) (v := ?_) hO rfl rfl (by kernel_rfl) (by kernel_rfl) (by kernel_rfl) (by kernel_rfl) hQp (Or.inl ⟨by kernel_rfl, fun w hSw => ?_⟩) hSS ?_
  rotate_left
  · go_simp; try with_reducible rfl
  try simp only [Act.put, List.setIfInBounds_toArray, List.set_cons_zero, List.set_cons_succ]
  refine wpAnyT_take' (i := 58) (v := ?_) hO rfl rfl (by kernel_rfl) (by kernel_rfl) (by kernel_rfl) (by kernel_rfl) hQp (Or.inl ⟨by kernel_rfl, fun w hSw => ?_⟩) hSS ?_
  rotate_left
  · go_simp; try with_reducible rfl
  try simp only [Act.put, List.setIfInBounds_toArray, List.set_cons_zero, List.set_cons_succ]
  refine wpAnyT_one' (i := 59) hO rfl (by kernel_rfl) (by kernel_rfl) (fun K hK => ?_)
  go_simp
  refine Calls.mono (fork_any HD10.out) ?_
  rintro e wm ⟨bf, Ff, rfl, -, hk, -⟩
  clear hSS
  have hSS : (fun w' : World => (convert 30 9 vx).run Try.prog w' = .ok (.string (str l1)) w' ∧ (convert 30 9 vy).run Try.prog w' = .ok (.string (str l2)) w') wm := ⟨Bytes.toStr (HX10.out.kept0 hk), Bytes.toStr (HY10.out.kept0 hk)⟩
  have HK11 := Lib.hid (HK10.out.then hk)
  clear hk HK10 HX10 HY10 HD10
  refine hK _ _ (.inr hSS) ?_
  clear hK K
  try simp only [Act.put, List.setIfInBounds_toArray, List.set_cons_zero, List.set_cons_succ]
  refine wpAnyT_take' (i := 60) (v := ?_) hO rfl rfl (by kernel_rfl) (by kernel_rfl) (by kernel_rfl) (by kernel_rfl) hQp (Or.inl ⟨by kernel_rfl, fun w hSw => ?_⟩) hSS ?_
  rotate_left
  · go_simp; try with_reducible rfl
  try simp only [Act.put, List.setIfInBounds_toArray, List.set_cons_zero, List.set_cons_succ]
  refine wpAnyT_take' (i := 61) (v := ?_) hO rfl rfl (by kernel_rfl) (by kernel_rfl) (by kernel_rfl) (by kernel_rfl) hQp (Or.inl ⟨by kernel_rfl, fun w hSw => ?_⟩) hSS ?_
  rotate_left
  · go_simp; try with_reducible rfl
  try simp only [Act.put, List.setIfInBounds_toArray, List.set_cons_zero, List.set_cons_succ]
  refine wpAnyT_one' (i := 62) hO rfl (by kernel_rfl) (by kernel_rfl) (fun K hK => ?_)
  go_simp
  refine hK _ _ (.inl rfl) ?_
  clear hK K
  try simp only [Act.put, List.setIfInBounds_toArray, List.set_cons_zero, List.set_cons_succ]
  refine wpAnyT_done' hO (by kernel_rfl) ?_ _
  subst hR
  try clear hQp hO O
  go_wp2
  go_ret
  exact ⟨rfl, HK11.out⟩
end Go.Proofs.Ytfkdoinlbdcaaaa
