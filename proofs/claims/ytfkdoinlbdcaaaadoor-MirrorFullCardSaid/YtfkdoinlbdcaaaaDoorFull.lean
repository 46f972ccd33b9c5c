/- For all numbers, MirrorFull returns true. No condition. -/
import Derived.Test.YtfkdoinlbdcaaaaDoorFullA
namespace Go.Proofs.YtfkdoinlbdcaaaaDoor
open Go.RowKit

/-- A mirror of this call's own. -/
structure Mine (w wr : World) (b : Nat) (d : PMir) : Prop where
  rep : ∃ F, MirRep wr b F d ∧ ∀ x, x ∈ F → w.heap.size ≤ x
  kept : Kept [] w wr
theorem Mine.step {w wr w' : World} {b : Nat} {d d' : PMir} (h : Mine w wr b d) {F F' : List Nat} (hF : ∀ x, x ∈ F → w.heap.size ≤ x) (hr : MirRep w' b F' d') (hk : Kept F wr w') (hF' : ∀ x, x ∈ F' → x ∈ F ∨ wr.heap.size ≤ x) : Mine w w' b d' :=
  ⟨⟨F', hr, fun x hx => by rcases hF' x hx with e | e; exact hF x e; exact Nat.le_trans h.kept.size e⟩, h.kept.trans hk (fun i hi => .inr (hF i hi))⟩
theorem Mine.then {w wr w' : World} {b : Nat} {d : PMir} (h : Mine w wr b d) (hk : Kept [] wr w') : Mine w w' b d := by
  obtain ⟨⟨F, hr, hF⟩, k⟩ := h
  exact ⟨⟨F, hr.kept0 hk, hF⟩, k.then hk⟩
theorem mine_put {w wr : World} {b : Nat} (j : Nat) (hj : j ≤ 300) (h : Mine w wr b (putN j)) :
    Calls Tryd.prog 9 #[.pointer (some ⟨b, 0, none⟩), .string (nm j), .slice none 0 0] wr fun e w' => e = .returned (.int .i64 (if 256 ≤ j then 2 else 0)) ∧ Mine w w' b (putN (j + 1)) := by
  obtain ⟨⟨F, hr, hF⟩, k⟩ := h
  have hs : (nm j).size ≤ maxLen := by have := nm_size j (by omega); simp only [maxLen]; omega
  refine (put_any hr (nm j) hs (v := .slice none 0 0) (l := []) (slc_nil _ _) (by decide)).mono ?_
  rintro e w' ⟨rfl, h1, h2⟩
  exact ⟨by rw [(putN_inv j hj).2.2.2.2], Mine.step ⟨⟨F, hr, hF⟩, k⟩ hF h1 h2 (fun x hx => .inl hx)⟩
theorem mine_fetch {w wr : World} {b n : Nat} (hn : n ≤ 300) (j : Nat) (hj : j ≤ 300) (h : Mine w wr b (fetN n j)) :
    Calls Tryd.prog 11 #[.pointer (some ⟨b, 0, none⟩), .string (nm j), .int .i64 0] wr fun e w' => (∃ v r, e = .returned (.tuple #[v, r])) ∧ Mine w w' b (fetN n (j + 1)) := by
  obtain ⟨⟨F, hr, hF⟩, k⟩ := h
  have hs : (nm j).size ≤ maxLen := by have := nm_size j (by omega); simp only [maxLen]; omega
  refine (fetch_any hr (nm j) hs 0 (by decide) (by rw [fetN_few n hn j hj]; omega)).mono ?_
  rintro e w' ⟨v, rfl, -, F', h1, h2, h3⟩
  exact ⟨⟨v, _, rfl⟩, Mine.step ⟨⟨F, hr, hF⟩, k⟩ hF h1 h2 h3⟩
def told (n k : Nat) : List (ByteArray × Int) := ((List.range k).map (entry n)).drop (k - 256)
theorem told_len (n k : Nat) : (told n k).length = k - (k - 256) := by simp [told]
theorem told_get (n k j : Nat) (hj : j < (told n k).length) : (told n k)[j] = entry n (k - 256 + j) := by
  simp [told]
theorem mine_asked {w wr : World} {b n k : Nat} (hn : n ≤ 300) (hk : k ≤ 300) (h : Mine w wr b (fetN n k)) :
    Calls Tryd.prog 12 #[.pointer (some ⟨b, 0, none⟩)] wr fun e w' => (∃ a c, e = .returned (.slice a (told n k).length c) ∧ Slc w' 2 (.slice a (told n k).length c) (told n k).length (askCells (told n k))) ∧ Mine w w' b (fetN n k) := by
  obtain ⟨⟨F, hr, hF⟩, kk⟩ := h
  refine (asked_any hr).mono ?_
  rintro e w' ⟨v, rfl, h1, -, h3⟩
  rw [(fetN_inv n hn k hk).2.2.2] at h1
  obtain ⟨a, c, rfl, -, -⟩ := h1.form
  exact ⟨⟨a, c, rfl, h1⟩, Mine.then ⟨⟨F, hr, hF⟩, kk⟩ h3⟩
theorem dues_any {w w' : World} {a : Option Addr} {c m : Nat} {l : List (ByteArray × Int)} (h : Slc w 2 (.slice a m c) l.length (askCells l)) (hk : Kept [] w w') (j : Nat) (hj : j < l.length) :
    ∃ g o, a = some ⟨g, o, none⟩ ∧ w'.cell? ⟨g, o + j * 2, none⟩ = some (.string l[j].1) ∧ w'.cell? ⟨g, o + j * 2 + 1, none⟩ = some (.int .i64 l[j].2) := by
  rcases (h.kept0 hk).2 with ⟨_, h0⟩ | ⟨h0, _⟩ | ⟨g, o, cap, hsv, _, _, hrow⟩
  · omega
  · omega
  simp only [Value.slice.injEq] at hsv
  obtain ⟨rfl, -, -⟩ := hsv
  obtain ⟨g1, g2⟩ := askCells_get l j hj
  exact ⟨g, o, rfl, hrow.cells _ _ g1, hrow.cells _ _ g2⟩

theorem mine_last {w wr : World} {b n k : Nat} (hn : n ≤ 300) (hk : k ≤ 300) (h256 : 256 < n) (h : Mine w wr b (fetN n k)) {a : Option Addr} {c : Nat} (hv : Bytes wr (.slice a 1 c) [120]) :
    Calls Tryd.prog 9 #[.pointer (some ⟨b, 0, none⟩), .string ⟨#[102, 48]⟩, .slice a 1 c] wr fun e w' => e = .returned (.int .i64 0) ∧ Kept [] w w' := by
  obtain ⟨⟨F, hr, hF⟩, kk⟩ := h
  refine (put_any hr ⟨#[102, 48]⟩ (by decide) hv (by decide)).mono ?_
  rintro e w' ⟨rfl, h1, h2⟩
  refine ⟨?_, kk.trans h2 (fun i hi => .inr (hF i hi))⟩
  have hf : (fetN n k).file [102, 48] = some [] := by
    have e : ([102, 48] : List UInt8) = nmL 0 := by unfold nmL; rw [Lib.decDigits_one (by decide)]; rfl
    rw [(fetN_inv n hn k hk).1, e, (putN_inv n hn).2.2.2.1 0, if_pos (by omega)]
  have hk1 : nameOk (⟨#[102, 48]⟩ : ByteArray) = true := by decide
  have : ((fetN n k).put ⟨#[102, 48]⟩ [120]).1 = 0 := by
    unfold PMir.put
    rw [hk1, if_neg (by simp), if_neg (by simp), if_neg (by rintro ⟨h3, -⟩; rw [show (⟨#[102, 48]⟩ : ByteArray).data.toList = [102, 48] from rfl, hf] at h3; cases h3)]
  rw [this]

set_option maxRecDepth 10000 in
set_option maxHeartbeats 1600000 in
theorem full_bad (n k : Int) (h : n < 0 ∨ 300 < n ∨ k < 0 ∨ 300 < k) (w : World) :
    Calls Tryd.prog 3 #[.int .i64 n, .int .i64 k] w fun e w' => e = .returned (.bool true) ∧ Kept [] w w' := by
  have hx : n < 0 ∨ (¬n < 0 ∧ 300 < n) ∨ (¬n < 0 ∧ ¬300 < n ∧ k < 0) ∨ (¬n < 0 ∧ ¬300 < n ∧ ¬k < 0 ∧ 300 < k) := by omega
  clear h
  rcases hx with h1 | ⟨h1, h2⟩ | ⟨h1, h2, h3⟩ | ⟨h1, h2, h3, h4⟩
  all_goals
    go_enter Tryd.func3, Tryd.ntmps3
    go_wp2_with (go_at_call 7; refine (lives_any _).mono ?_; rintro e w' ⟨rfl, hk⟩)
    go_ret
    exact ⟨rfl, hk⟩

set_option maxRecDepth 10000 in
set_option maxHeartbeats 6400000 in
theorem full_good (n k : Nat) (hn : n ≤ 300) (hk : k ≤ 300) (w : World) :
    Calls Tryd.prog 3 #[.int .i64 n, .int .i64 k] w fun e w' => e = .returned (.bool true) ∧ Kept [] w w' := by
  have hnI : (n : Int) ≤ 300 := by omega
  have hkI : (k : Int) ≤ 300 := by omega
  have kc := fun (w : World) (C : Array Value) (n c : Nat) => Lib.run_convert_bytes_const w 28 5 C n c Tryd.underlying28 Tryd.underlying5
  go_enter Tryd.func3, Tryd.ntmps3
  go_wp2_with (first
    | (go_at_call 8; refine Calls.mono (newMir_any w) ?_; rintro e w0 ⟨b, F, rfl, hm, hk0, hF⟩; have HM0 : Hid (Mine w w0 b (putN 0)) := Lib.hid ⟨⟨F, hm, hF⟩, hk0⟩; clear hm hk0 hF)
    | (go_at_call 7; refine (lives_any _).mono ?_; rintro e w1 ⟨rfl, hk1⟩; have HM1 := Lib.hid (HM0.out.then hk1); clear hk1))
  clear HM0
  go_loopw [6] (fun i wr => ∃ j : Nat, i = .int .i64 j ∧ j ≤ n ∧ Mine w wr b (putN j)) (fun i _ => n - (intOf i).toNat)
  case atStart => exact ⟨0, rfl, Nat.zero_le _, HM1.out⟩
  case round =>
    clear HM1
    obtain ⟨j, rfl, hj, hM⟩ := hrel
    have HM := Lib.hid hM
    clear hM
    by_cases hlt : j < n
    · have hltI : (j : Int) < n := by omega
      have hnum := Lib.hid (number_any j (by omega))
      have hsz := nm_size j (by omega)
      have hadd : ¬ 9223372036854775807 < 1 + (⟨(Lib.decDigits j).toArray⟩ : ByteArray).size := by simp [ByteArray.size]; omega
      have hput := fun wr (h : Mine w wr b (putN j)) => mine_put j (by omega) h
      have HP := Lib.hid hput
      clear hsz hput
      have hc : (256 ≤ j ∧ (256 : Int) ≤ j) ∨ (¬256 ≤ j ∧ ¬(256 : Int) ≤ j) := by omega
      rcases hc with ⟨h256, h256I⟩ | ⟨h256, h256I⟩
      all_goals
        go_wp2_with (first
          | (go_at_call 10; refine (hnum.out _).mono ?_; rintro e w' ⟨rfl, rfl⟩)
          | (go_at_call 9; refine Calls.mono (HP.out _ HM.out) ?_; (first | rw [if_pos h256] | rw [if_neg h256]); rintro e w2 ⟨rfl, hM⟩; have HM2 := Lib.hid hM; clear hM))
        case roundEnd => exact ⟨⟨j + 1, by go_num, by omega, HM2.out⟩, by simp [intOf]; omega⟩
    · obtain rfl : n = j := by omega
      go_wp2_with fail
      go_loopw [8] (fun i wr => ∃ j : Nat, i = .int .i64 j ∧ j ≤ k ∧ Mine w wr b (fetN n j)) (fun i _ => k - (intOf i).toNat)
      case atStart => exact ⟨0, rfl, Nat.zero_le _, HM.out⟩
      case round =>
        clear HM
        obtain ⟨j, rfl, hj, hM⟩ := hrel
        have HM := Lib.hid hM
        clear hM
        by_cases hlt2 : j < k
        · have hltI2 : (j : Int) < k := by omega
          have hnum := Lib.hid (number_any j (by omega))
          have hsz := nm_size j (by omega)
          have hadd : ¬ 9223372036854775807 < 1 + (⟨(Lib.decDigits j).toArray⟩ : ByteArray).size := by simp [ByteArray.size]; omega
          have HP := Lib.hid (fun wr (h : Mine w wr b (fetN n j)) => mine_fetch hn j (by omega) h)
          clear hsz
          go_wp2_with (first
            | (go_at_call 10; refine (hnum.out _).mono ?_; rintro e w' ⟨rfl, rfl⟩)
            | (go_at_call 11; refine Calls.mono (HP.out _ HM.out) ?_; rintro e w2 ⟨⟨v, r, rfl⟩, hM⟩; have HM2 := Lib.hid hM; clear hM))
          case roundEnd => exact ⟨⟨j + 1, by go_num, by omega, HM2.out⟩, by simp [intOf]; omega⟩
        · obtain rfl : k = j := by omega
          by_cases hbig : 256 < k
          · have hbigI : (256 : Int) < k := by omega
            have HTL : Hid ((told n k).length = 256) := Lib.hid (by rw [told_len]; omega)
            have hw1 : IntKind.i64.wrap ((k : Int) - 256) = (k : Int) - 256 := by rw [IntKind.wrap_i64]; omega
            have hw2 : IntKind.i64.wrap ((k : Int) - ((k : Int) - 256)) = 256 := by rw [IntKind.wrap_i64]; omega
            go_wp2_with (go_at_call 12; refine Calls.mono (mine_asked hn hk HM.out) ?_; rintro e w3 ⟨⟨la, lc, rfl, hl⟩, hM⟩; have HL := Lib.hid hl; have HM3 := Lib.hid hM; rw [HTL.out]; clear hl hM)
            go_loopw [11] (fun i wr => ∃ j : Nat, i = .int .i64 j ∧ j ≤ 256 ∧ Kept [] w3 wr) (fun i _ => 256 - (intOf i).toNat)
            case atStart => exact ⟨0, rfl, Nat.zero_le _, Kept.refl _ _⟩
            case round =>
              obtain ⟨j, rfl, hj, hkr⟩ := hrel
              have HKR := Lib.hid hkr
              clear hkr
              by_cases hlt3 : j < 256
              · have hltI3 : (j : Int) < 256 := by omega
                obtain ⟨g, o, rfl, q0, q1⟩ := dues_any HL.out HKR.out j (by rw [HTL.out]; exact hlt3)
                rw [told_get] at q0 q1
                have hm : k - 256 + j = k - 256 + j := by omega
                rw [hm] at q0 q1
                have hnum0 := number_any (k - 256 + j) (by omega) wr.drew
                rw [show ((k - 256 + j : Nat) : Int) = ((k : Int) - 256 + j) by omega] at hnum0
                have hnum := Lib.hid hnum0
                have hsz := nm_size (k - 256 + j) (by omega)
                have hadd : ¬ 9223372036854775807 < 1 + (⟨(Lib.decDigits (k - 256 + j)).toArray⟩ : ByteArray).size := by simp [ByteArray.size]; omega
                have hw7 : IntKind.i64.wrap (((k : Int) - 256 + j)) = ((k : Int) - 256 + j) := by rw [IntKind.wrap_i64]; omega
                have q0' : wr.cell? ⟨g, o + j * 2, none⟩ = some (.string (⟨#[102]⟩ ++ ⟨(Lib.decDigits (k - 256 + j)).toArray⟩)) := q0
                have hc : (((n : Int) ≤ ((k : Int) - 256 + j)) ∧ (entry n (k - 256 + j)).2 = -1) ∨ (¬(n : Int) ≤ ((k : Int) - 256 + j) ∧ (256 : Int) ≤ ((k : Int) - 256 + j) ∧ (entry n (k - 256 + j)).2 = -1) ∨ (¬(n : Int) ≤ ((k : Int) - 256 + j) ∧ ¬(256 : Int) ≤ ((k : Int) - 256 + j) ∧ (entry n (k - 256 + j)).2 = 0) := by
                  simp only [entry]
                  by_cases c1 : n ≤ k - 256 + j
                  · exact .inl ⟨by omega, by rw [if_pos (.inl c1)]⟩
                  · by_cases c2 : 256 ≤ k - 256 + j
                    · exact .inr (.inl ⟨by omega, by omega, by rw [if_pos (.inr c2)]⟩)
                    · exact .inr (.inr ⟨by omega, by omega, by rw [if_neg (by omega)]⟩)
                clear hnum0 hsz q0 hm
                revert hnum hadd q0'
                generalize (⟨(Lib.decDigits (k - 256 + j)).toArray⟩ : ByteArray) = t
                intro hnum hadd q0
                rcases hc with ⟨c1, c3⟩ | ⟨c1, c2, c3⟩ | ⟨c1, c2, c3⟩
                all_goals
                  rw [c3] at q1
                  clear c3
                  go_wp2_with fail
                  have hSS : (fun w' : World => w' = wr.drew) wr.drew := rfl
                  refine wp_region_last' (n := 20) (fun w' : World => w' = wr.drew) 20 (by kernel_rfl) (by kernel_rfl) ?_
                  change wpAnyT _ _ _ _ _ _ _ _ _ wr.drew
                  refine wpAnyT_start ?_
                  intro O R hO hR
                  have hQp : ∀ c a (d : Nat) v w, R (.panic c) (a.put (some d) v) w → R (.panic c) a w := by subst hR; exact fun _ _ _ _ _ h => h
                  refine wpAnyT_take' (i := 0) (v := ?_) hO rfl rfl (by kernel_rfl) (by kernel_rfl) (by kernel_rfl) (by kernel_rfl) hQp (Or.inl ⟨by kernel_rfl, fun w hSw => ?_⟩) hSS ?_
                  rotate_left
                  · have hw0 : w = wr.drew := hSw; subst hw0; go_simp; try with_reducible rfl
                  try simp only [Act.put, List.setIfInBounds_toArray, List.set_cons_zero, List.set_cons_succ]
                  refine wpAnyT_take' (i := 1) (v := ?_) hO rfl rfl (by kernel_rfl) (by kernel_rfl) (by kernel_rfl) (by kernel_rfl) hQp (Or.inl ⟨by kernel_rfl, fun w hSw => ?_⟩) hSS ?_
                  rotate_left
                  · have hw0 : w = wr.drew := hSw; subst hw0; go_simp; try with_reducible rfl
                  try simp only [Act.put, List.setIfInBounds_toArray, List.set_cons_zero, List.set_cons_succ]
                  refine wpAnyT_take' (i := 2) (v := ?_) hO rfl rfl (by kernel_rfl) (by kernel_rfl) (by kernel_rfl) (by kernel_rfl) hQp (Or.inl ⟨by kernel_rfl, fun w hSw => ?_⟩) hSS ?_
                  rotate_left
                  · have hw0 : w = wr.drew := hSw; subst hw0; go_simp; try with_reducible rfl
                  try simp only [Act.put, List.setIfInBounds_toArray, List.set_cons_zero, List.set_cons_succ]
                  refine wpAnyT_take' (i := 3) (v := ?_) hO rfl rfl (by kernel_rfl) (by kernel_rfl) (by kernel_rfl) (by kernel_rfl) hQp (Or.inl ⟨by kernel_rfl, fun w hSw => ?_⟩) hSS ?_
                  rotate_left
                  · have hw0 : w = wr.drew := hSw; subst hw0; go_simp; try with_reducible rfl
                  try simp only [Act.put, List.setIfInBounds_toArray, List.set_cons_zero, List.set_cons_succ]
                  refine wpAnyT_take' (i := 4) (v := ?_) hO rfl rfl (by kernel_rfl) (by kernel_rfl) (by kernel_rfl) (by kernel_rfl) hQp (Or.inl ⟨by kernel_rfl, fun w hSw => ?_⟩) hSS ?_
                  rotate_left
                  · have hw0 : w = wr.drew := hSw; subst hw0; go_simp; try with_reducible rfl
                  try simp only [Act.put, List.setIfInBounds_toArray, List.set_cons_zero, List.set_cons_succ]
                  refine wpAnyT_take' (i := 5) (v := ?_) hO rfl rfl (by kernel_rfl) (by kernel_rfl) (by kernel_rfl) (by kernel_rfl) hQp (Or.inl ⟨by kernel_rfl, fun w hSw => ?_⟩) hSS ?_
                  rotate_left
                  · have hw0 : w = wr.drew := hSw; subst hw0; go_simp; try with_reducible rfl
                  try simp only [Act.put, List.setIfInBounds_toArray, List.set_cons_zero, List.set_cons_succ]
                  refine wpAnyT_take' (i := 6) (v := ?_) hO rfl rfl (by kernel_rfl) (by kernel_rfl) (by kernel_rfl) (by kernel_rfl) hQp (Or.inl ⟨by kernel_rfl, fun w hSw => ?_⟩) hSS ?_
                  rotate_left
                  · have hw0 : w = wr.drew := hSw; subst hw0; go_simp; try with_reducible rfl
                  try simp only [Act.put, List.setIfInBounds_toArray, List.set_cons_zero, List.set_cons_succ]
                  refine wpAnyT_take' (i := 7) (v := ?_) hO rfl rfl (by kernel_rfl) (by kernel_rfl) (by kernel_rfl) (by kernel_rfl) hQp (Or.inl ⟨by kernel_rfl, fun w hSw => ?_⟩) hSS ?_
                  rotate_left
                  · have hw0 : w = wr.drew := hSw; subst hw0; go_simp; try with_reducible rfl
                  try simp only [Act.put, List.setIfInBounds_toArray, List.set_cons_zero, List.set_cons_succ]
                  refine wpAnyT_one' (i := 8) hO rfl (by kernel_rfl) (by kernel_rfl) (fun K hK => ?_)
                  go_simp
                  refine hnum.out.mono ?_
                  rintro e w' ⟨rfl, rfl⟩
                  refine hK _ _ (.inr hSS) ?_
                  clear hK K
                  try simp only [Act.put, List.setIfInBounds_toArray, List.set_cons_zero, List.set_cons_succ]
                  refine wpAnyT_take' (i := 9) (v := ?_) hO rfl rfl (by kernel_rfl) (by kernel_rfl) (by kernel_rfl) (by kernel_rfl) hQp (Or.inl ⟨by kernel_rfl, fun w hSw => ?_⟩) hSS ?_
                  rotate_left
                  · have hw0 : w = wr.drew := hSw; subst hw0; go_simp; try with_reducible rfl
                  try simp only [Act.put, List.setIfInBounds_toArray, List.set_cons_zero, List.set_cons_succ]
                  refine wpAnyT_take' (i := 10) (v := ?_) hO rfl rfl (by kernel_rfl) (by kernel_rfl) (by kernel_rfl) (by kernel_rfl) hQp (Or.inl ⟨by kernel_rfl, fun w hSw => ?_⟩) hSS ?_
                  rotate_left
                  · have hw0 : w = wr.drew := hSw; subst hw0; go_simp; try with_reducible rfl
                  try simp only [Act.put, List.setIfInBounds_toArray, List.set_cons_zero, List.set_cons_succ]
                  refine wpAnyT_take' (i := 11) (v := ?_) hO rfl rfl (by kernel_rfl) (by kernel_rfl) (by kernel_rfl) (by kernel_rfl) hQp (Or.inl ⟨by kernel_rfl, fun w hSw => ?_⟩) hSS ?_
                  rotate_left
                  · have hw0 : w = wr.drew := hSw; subst hw0; go_simp; try with_reducible rfl
                  try simp only [Act.put, List.setIfInBounds_toArray, List.set_cons_zero, List.set_cons_succ]
                  refine wpAnyT_take' (i := 12) (v := ?_) hO rfl rfl (by kernel_rfl) (by kernel_rfl) (by kernel_rfl) (by kernel_rfl) hQp (Or.inl ⟨by kernel_rfl, fun w hSw => ?_⟩) hSS ?_
                  rotate_left
                  · have hw0 : w = wr.drew := hSw; subst hw0; go_simp; try with_reducible rfl
                  try simp only [Act.put, List.setIfInBounds_toArray, List.set_cons_zero, List.set_cons_succ]
                  refine wpAnyT_take' (i := 13) (v := ?_) hO rfl rfl (by kernel_rfl) (by kernel_rfl) (by kernel_rfl) (by kernel_rfl) hQp (Or.inl ⟨by kernel_rfl, fun w hSw => ?_⟩) hSS ?_
                  rotate_left
                  · have hw0 : w = wr.drew := hSw; subst hw0; go_simp; try with_reducible rfl
                  try simp only [Act.put, List.setIfInBounds_toArray, List.set_cons_zero, List.set_cons_succ]
                  refine wpAnyT_take' (i := 14) (v := ?_) hO rfl rfl (by kernel_rfl) (by kernel_rfl) (by kernel_rfl) (by kernel_rfl) hQp (Or.inl ⟨by kernel_rfl, fun w hSw => ?_⟩) hSS ?_
                  rotate_left
                  · have hw0 : w = wr.drew := hSw; subst hw0; go_simp; try with_reducible rfl
                  try simp only [Act.put, List.setIfInBounds_toArray, List.set_cons_zero, List.set_cons_succ]
                  refine wpAnyT_take' (i := 15) (v := ?_) hO rfl rfl (by kernel_rfl) (by kernel_rfl) (by kernel_rfl) (by kernel_rfl) hQp (Or.inl ⟨by kernel_rfl, fun w hSw => ?_⟩) hSS ?_
                  rotate_left
                  · have hw0 : w = wr.drew := hSw; subst hw0; go_simp; try with_reducible rfl
                  try simp only [Act.put, List.setIfInBounds_toArray, List.set_cons_zero, List.set_cons_succ]
                  refine wpAnyT_take' (i := 16) (v := ?_) hO rfl rfl (by kernel_rfl) (by kernel_rfl) (by kernel_rfl) (by kernel_rfl) hQp (Or.inl ⟨by kernel_rfl, fun w hSw => ?_⟩) hSS ?_
                  rotate_left
                  · have hw0 : w = wr.drew := hSw; subst hw0; go_simp; try with_reducible rfl
                  try simp only [Act.put, List.setIfInBounds_toArray, List.set_cons_zero, List.set_cons_succ]
                  refine wpAnyT_take' (i := 17) (v := ?_) hO rfl rfl (by kernel_rfl) (by kernel_rfl) (by kernel_rfl) (by kernel_rfl) hQp (Or.inl ⟨by kernel_rfl, fun w hSw => ?_⟩) hSS ?_
                  rotate_left
                  · have hw0 : w = wr.drew := hSw; subst hw0; go_simp; try with_reducible rfl
                  try simp only [Act.put, List.setIfInBounds_toArray, List.set_cons_zero, List.set_cons_succ]
                  refine wpAnyT_take' (i := 18) (v := ?_) hO rfl rfl (by kernel_rfl) (by kernel_rfl) (by kernel_rfl) (by kernel_rfl) hQp (Or.inl ⟨by kernel_rfl, fun w hSw => ?_⟩) hSS ?_
                  rotate_left
                  · have hw0 : w = wr.drew := hSw; subst hw0; go_simp; try with_reducible rfl
                  try simp only [Act.put, List.setIfInBounds_toArray, List.set_cons_zero, List.set_cons_succ]
                  refine wpAnyT_take' (i := 19) (v := ?_) hO rfl rfl (by kernel_rfl) (by kernel_rfl) (by kernel_rfl) (by kernel_rfl) hQp (Or.inl ⟨by kernel_rfl, fun w hSw => ?_⟩) hSS ?_
                  rotate_left
                  · have hw0 : w = wr.drew := hSw; subst hw0; go_simp; try with_reducible rfl
                  try simp only [Act.put, List.setIfInBounds_toArray, List.set_cons_zero, List.set_cons_succ]
                  refine wpAnyT_done' hO (by kernel_rfl) ?_ _
                  subst hR
                  go_wp2_with fail
                  case roundEnd => exact ⟨⟨j + 1, by go_num, by omega, HKR.out.drew⟩, by simp [intOf]; omega⟩
              · obtain rfl : 256 = j := by omega
                have HM4 := Lib.hid (HM3.out.then HKR.out)
                clear HM3 HKR HL
                by_cases hn256 : n ≤ 256
                · have hnI2 : (n : Int) ≤ 256 := by omega
                  go_wp2_with fail
                  go_ret
                  exact ⟨rfl, HM4.out.kept⟩
                · have hnI2 : ¬(n : Int) ≤ 256 := by omega
                  have hB : Bytes (wr.alloc (.cells #[.int .u8 120] 5 (1, 2))) (.slice (some ⟨wr.heap.size, 0, none⟩) 1 1) [120] := slc_marked wr [.int .u8 120] 1 1 5 (1, 2) rfl (by decide)
                  have hp := Lib.hid (mine_last hn hk (by omega) (HM4.out.then ((Kept.refl [] wr).alloc (.cells #[.int .u8 120] 5 (1, 2)))) hB)
                  clear hB
                  go_wp2_with (go_at_call 9; refine Calls.mono hp.out ?_; rintro e w5 ⟨rfl, hk5⟩)
                  go_ret
                  exact ⟨rfl, hk5⟩
          · have hbigI : ¬(256 : Int) < k := by omega
            have HTL : Hid ((told n k).length = k) := Lib.hid (by rw [told_len]; omega)
            go_wp2_with (go_at_call 12; refine Calls.mono (mine_asked hn hk HM.out) ?_; rintro e w3 ⟨⟨la, lc, rfl, hl⟩, hM⟩; have HL := Lib.hid hl; have HM3 := Lib.hid hM; rw [HTL.out]; clear hl hM)
            go_loopw [11] (fun i wr => ∃ j : Nat, i = .int .i64 j ∧ j ≤ k ∧ Kept [] w3 wr) (fun i _ => k - (intOf i).toNat)
            case atStart => exact ⟨0, rfl, Nat.zero_le _, Kept.refl _ _⟩
            case round =>
              obtain ⟨j, rfl, hj, hkr⟩ := hrel
              have HKR := Lib.hid hkr
              clear hkr
              by_cases hlt3 : j < k
              · have hltI3 : (j : Int) < k := by omega
                obtain ⟨g, o, rfl, q0, q1⟩ := dues_any HL.out HKR.out j (by rw [HTL.out]; exact hlt3)
                rw [told_get] at q0 q1
                have hm : k - 256 + j = j := by omega
                rw [hm] at q0 q1
                have hnum0 := number_any (j) (by omega) wr.drew
                rw [show ((j : Nat) : Int) = (j : Int) by omega] at hnum0
                have hnum := Lib.hid hnum0
                have hsz := nm_size (j) (by omega)
                have hadd : ¬ 9223372036854775807 < 1 + (⟨(Lib.decDigits (j)).toArray⟩ : ByteArray).size := by simp [ByteArray.size]; omega
                have hw7 : IntKind.i64.wrap ((j : Int)) = (j : Int) := by rw [IntKind.wrap_i64]; omega
                have q0' : wr.cell? ⟨g, o + j * 2, none⟩ = some (.string (⟨#[102]⟩ ++ ⟨(Lib.decDigits (j)).toArray⟩)) := q0
                have hc : (((n : Int) ≤ (j : Int)) ∧ (entry n (j)).2 = -1) ∨ (¬(n : Int) ≤ (j : Int) ∧ (256 : Int) ≤ (j : Int) ∧ (entry n (j)).2 = -1) ∨ (¬(n : Int) ≤ (j : Int) ∧ ¬(256 : Int) ≤ (j : Int) ∧ (entry n (j)).2 = 0) := by
                  simp only [entry]
                  by_cases c1 : n ≤ j
                  · exact .inl ⟨by omega, by rw [if_pos (.inl c1)]⟩
                  · by_cases c2 : 256 ≤ j
                    · exact .inr (.inl ⟨by omega, by omega, by rw [if_pos (.inr c2)]⟩)
                    · exact .inr (.inr ⟨by omega, by omega, by rw [if_neg (by omega)]⟩)
                clear hnum0 hsz q0 hm
                revert hnum hadd q0'
                generalize (⟨(Lib.decDigits (j)).toArray⟩ : ByteArray) = t
                intro hnum hadd q0
                rcases hc with ⟨c1, c3⟩ | ⟨c1, c2, c3⟩ | ⟨c1, c2, c3⟩
                all_goals
                  rw [c3] at q1
                  clear c3
                  go_wp2_with fail
                  have hSS : (fun w' : World => w' = wr.drew) wr.drew := rfl
                  refine wp_region_last' (n := 20) (fun w' : World => w' = wr.drew) 20 (by kernel_rfl) (by kernel_rfl) ?_
                  change wpAnyT _ _ _ _ _ _ _ _ _ wr.drew
                  refine wpAnyT_start ?_
                  intro O R hO hR
                  have hQp : ∀ c a (d : Nat) v w, R (.panic c) (a.put (some d) v) w → R (.panic c) a w := by subst hR; exact fun _ _ _ _ _ h => h
                  refine wpAnyT_take' (i := 0) (v := ?_) hO rfl rfl (by kernel_rfl) (by kernel_rfl) (by kernel_rfl) (by kernel_rfl) hQp (Or.inl ⟨by kernel_rfl, fun w hSw => ?_⟩) hSS ?_
                  rotate_left
                  · have hw0 : w = wr.drew := hSw; subst hw0; go_simp; try with_reducible rfl
                  try simp only [Act.put, List.setIfInBounds_toArray, List.set_cons_zero, List.set_cons_succ]
                  refine wpAnyT_take' (i := 1) (v := ?_) hO rfl rfl (by kernel_rfl) (by kernel_rfl) (by kernel_rfl) (by kernel_rfl) hQp (Or.inl ⟨by kernel_rfl, fun w hSw => ?_⟩) hSS ?_
                  rotate_left
                  · have hw0 : w = wr.drew := hSw; subst hw0; go_simp; try with_reducible rfl
                  try simp only [Act.put, List.setIfInBounds_toArray, List.set_cons_zero, List.set_cons_succ]
                  refine wpAnyT_take' (i := 2) (v := ?_) hO rfl rfl (by kernel_rfl) (by kernel_rfl) (by kernel_rfl) (by kernel_rfl) hQp (Or.inl ⟨by kernel_rfl, fun w hSw => ?_⟩) hSS ?_
                  rotate_left
                  · have hw0 : w = wr.drew := hSw; subst hw0; go_simp; try with_reducible rfl
                  try simp only [Act.put, List.setIfInBounds_toArray, List.set_cons_zero, List.set_cons_succ]
                  refine wpAnyT_take' (i := 3) (v := ?_) hO rfl rfl (by kernel_rfl) (by kernel_rfl) (by kernel_rfl) (by kernel_rfl) hQp (Or.inl ⟨by kernel_rfl, fun w hSw => ?_⟩) hSS ?_
                  rotate_left
                  · have hw0 : w = wr.drew := hSw; subst hw0; go_simp; try with_reducible rfl
                  try simp only [Act.put, List.setIfInBounds_toArray, List.set_cons_zero, List.set_cons_succ]
                  refine wpAnyT_take' (i := 4) (v := ?_) hO rfl rfl (by kernel_rfl) (by kernel_rfl) (by kernel_rfl) (by kernel_rfl) hQp (Or.inl ⟨by kernel_rfl, fun w hSw => ?_⟩) hSS ?_
                  rotate_left
                  · have hw0 : w = wr.drew := hSw; subst hw0; go_simp; try with_reducible rfl
                  try simp only [Act.put, List.setIfInBounds_toArray, List.set_cons_zero, List.set_cons_succ]
                  refine wpAnyT_take' (i := 5) (v := ?_) hO rfl rfl (by kernel_rfl) (by kernel_rfl) (by kernel_rfl) (by kernel_rfl) hQp (Or.inl ⟨by kernel_rfl, fun w hSw => ?_⟩) hSS ?_
                  rotate_left
                  · have hw0 : w = wr.drew := hSw; subst hw0; go_simp; try with_reducible rfl
                  try simp only [Act.put, List.setIfInBounds_toArray, List.set_cons_zero, List.set_cons_succ]
                  refine wpAnyT_take' (i := 6) (v := ?_) hO rfl rfl (by kernel_rfl) (by kernel_rfl) (by kernel_rfl) (by kernel_rfl) hQp (Or.inl ⟨by kernel_rfl, fun w hSw => ?_⟩) hSS ?_
                  rotate_left
                  · have hw0 : w = wr.drew := hSw; subst hw0; go_simp; try with_reducible rfl
                  try simp only [Act.put, List.setIfInBounds_toArray, List.set_cons_zero, List.set_cons_succ]
                  refine wpAnyT_take' (i := 7) (v := ?_) hO rfl rfl (by kernel_rfl) (by kernel_rfl) (by kernel_rfl) (by kernel_rfl) hQp (Or.inl ⟨by kernel_rfl, fun w hSw => ?_⟩) hSS ?_
                  rotate_left
                  · have hw0 : w = wr.drew := hSw; subst hw0; go_simp; try with_reducible rfl
                  try simp only [Act.put, List.setIfInBounds_toArray, List.set_cons_zero, List.set_cons_succ]
                  refine wpAnyT_one' (i := 8) hO rfl (by kernel_rfl) (by kernel_rfl) (fun K hK => ?_)
                  go_simp
                  refine hnum.out.mono ?_
                  rintro e w' ⟨rfl, rfl⟩
                  refine hK _ _ (.inr hSS) ?_
                  clear hK K
                  try simp only [Act.put, List.setIfInBounds_toArray, List.set_cons_zero, List.set_cons_succ]
                  refine wpAnyT_take' (i := 9) (v := ?_) hO rfl rfl (by kernel_rfl) (by kernel_rfl) (by kernel_rfl) (by kernel_rfl) hQp (Or.inl ⟨by kernel_rfl, fun w hSw => ?_⟩) hSS ?_
                  rotate_left
                  · have hw0 : w = wr.drew := hSw; subst hw0; go_simp; try with_reducible rfl
                  try simp only [Act.put, List.setIfInBounds_toArray, List.set_cons_zero, List.set_cons_succ]
                  refine wpAnyT_take' (i := 10) (v := ?_) hO rfl rfl (by kernel_rfl) (by kernel_rfl) (by kernel_rfl) (by kernel_rfl) hQp (Or.inl ⟨by kernel_rfl, fun w hSw => ?_⟩) hSS ?_
                  rotate_left
                  · have hw0 : w = wr.drew := hSw; subst hw0; go_simp; try with_reducible rfl
                  try simp only [Act.put, List.setIfInBounds_toArray, List.set_cons_zero, List.set_cons_succ]
                  refine wpAnyT_take' (i := 11) (v := ?_) hO rfl rfl (by kernel_rfl) (by kernel_rfl) (by kernel_rfl) (by kernel_rfl) hQp (Or.inl ⟨by kernel_rfl, fun w hSw => ?_⟩) hSS ?_
                  rotate_left
                  · have hw0 : w = wr.drew := hSw; subst hw0; go_simp; try with_reducible rfl
                  try simp only [Act.put, List.setIfInBounds_toArray, List.set_cons_zero, List.set_cons_succ]
                  refine wpAnyT_take' (i := 12) (v := ?_) hO rfl rfl (by kernel_rfl) (by kernel_rfl) (by kernel_rfl) (by kernel_rfl) hQp (Or.inl ⟨by kernel_rfl, fun w hSw => ?_⟩) hSS ?_
                  rotate_left
                  · have hw0 : w = wr.drew := hSw; subst hw0; go_simp; try with_reducible rfl
                  try simp only [Act.put, List.setIfInBounds_toArray, List.set_cons_zero, List.set_cons_succ]
                  refine wpAnyT_take' (i := 13) (v := ?_) hO rfl rfl (by kernel_rfl) (by kernel_rfl) (by kernel_rfl) (by kernel_rfl) hQp (Or.inl ⟨by kernel_rfl, fun w hSw => ?_⟩) hSS ?_
                  rotate_left
                  · have hw0 : w = wr.drew := hSw; subst hw0; go_simp; try with_reducible rfl
                  try simp only [Act.put, List.setIfInBounds_toArray, List.set_cons_zero, List.set_cons_succ]
                  refine wpAnyT_take' (i := 14) (v := ?_) hO rfl rfl (by kernel_rfl) (by kernel_rfl) (by kernel_rfl) (by kernel_rfl) hQp (Or.inl ⟨by kernel_rfl, fun w hSw => ?_⟩) hSS ?_
                  rotate_left
                  · have hw0 : w = wr.drew := hSw; subst hw0; go_simp; try with_reducible rfl
                  try simp only [Act.put, List.setIfInBounds_toArray, List.set_cons_zero, List.set_cons_succ]
                  refine wpAnyT_take' (i := 15) (v := ?_) hO rfl rfl (by kernel_rfl) (by kernel_rfl) (by kernel_rfl) (by kernel_rfl) hQp (Or.inl ⟨by kernel_rfl, fun w hSw => ?_⟩) hSS ?_
                  rotate_left
                  · have hw0 : w = wr.drew := hSw; subst hw0; go_simp; try with_reducible rfl
                  try simp only [Act.put, List.setIfInBounds_toArray, List.set_cons_zero, List.set_cons_succ]
                  refine wpAnyT_take' (i := 16) (v := ?_) hO rfl rfl (by kernel_rfl) (by kernel_rfl) (by kernel_rfl) (by kernel_rfl) hQp (Or.inl ⟨by kernel_rfl, fun w hSw => ?_⟩) hSS ?_
                  rotate_left
                  · have hw0 : w = wr.drew := hSw; subst hw0; go_simp; try with_reducible rfl
                  try simp only [Act.put, List.setIfInBounds_toArray, List.set_cons_zero, List.set_cons_succ]
                  refine wpAnyT_take' (i := 17) (v := ?_) hO rfl rfl (by kernel_rfl) (by kernel_rfl) (by kernel_rfl) (by kernel_rfl) hQp (Or.inl ⟨by kernel_rfl, fun w hSw => ?_⟩) hSS ?_
                  rotate_left
                  · have hw0 : w = wr.drew := hSw; subst hw0; go_simp; try with_reducible rfl
                  try simp only [Act.put, List.setIfInBounds_toArray, List.set_cons_zero, List.set_cons_succ]
                  refine wpAnyT_take' (i := 18) (v := ?_) hO rfl rfl (by kernel_rfl) (by kernel_rfl) (by kernel_rfl) (by kernel_rfl) hQp (Or.inl ⟨by kernel_rfl, fun w hSw => ?_⟩) hSS ?_
                  rotate_left
                  · have hw0 : w = wr.drew := hSw; subst hw0; go_simp; try with_reducible rfl
                  try simp only [Act.put, List.setIfInBounds_toArray, List.set_cons_zero, List.set_cons_succ]
                  refine wpAnyT_take' (i := 19) (v := ?_) hO rfl rfl (by kernel_rfl) (by kernel_rfl) (by kernel_rfl) (by kernel_rfl) hQp (Or.inl ⟨by kernel_rfl, fun w hSw => ?_⟩) hSS ?_
                  rotate_left
                  · have hw0 : w = wr.drew := hSw; subst hw0; go_simp; try with_reducible rfl
                  try simp only [Act.put, List.setIfInBounds_toArray, List.set_cons_zero, List.set_cons_succ]
                  refine wpAnyT_done' hO (by kernel_rfl) ?_ _
                  subst hR
                  go_wp2_with fail
                  case roundEnd => exact ⟨⟨j + 1, by go_num, by omega, HKR.out.drew⟩, by simp [intOf]; omega⟩
              · obtain rfl : k = j := by omega
                have HM4 := Lib.hid (HM3.out.then HKR.out)
                clear HM3 HKR HL
                by_cases hn256 : n ≤ 256
                · have hnI2 : (n : Int) ≤ 256 := by omega
                  go_wp2_with fail
                  go_ret
                  exact ⟨rfl, HM4.out.kept⟩
                · have hnI2 : ¬(n : Int) ≤ 256 := by omega
                  have hB : Bytes (wr.alloc (.cells #[.int .u8 120] 5 (1, 2))) (.slice (some ⟨wr.heap.size, 0, none⟩) 1 1) [120] := slc_marked wr [.int .u8 120] 1 1 5 (1, 2) rfl (by decide)
                  have hp := Lib.hid (mine_last hn hk (by omega) (HM4.out.then ((Kept.refl [] wr).alloc (.cells #[.int .u8 120] 5 (1, 2)))) hB)
                  clear hB
                  go_wp2_with (go_at_call 9; refine Calls.mono hp.out ?_; rintro e w5 ⟨rfl, hk5⟩)
                  go_ret
                  exact ⟨rfl, hk5⟩

theorem full_any (n k : Int) (w : World) : Calls Tryd.prog 3 #[.int .i64 n, .int .i64 k] w fun e w' => e = .returned (.bool true) ∧ Kept [] w w' := by
  by_cases h : n < 0 ∨ 300 < n ∨ k < 0 ∨ 300 < k
  · exact full_bad n k h w
  · obtain ⟨a, rfl⟩ := Int.eq_ofNat_of_zero_le (show 0 ≤ n by omega)
    obtain ⟨c, rfl⟩ := Int.eq_ofNat_of_zero_le (show 0 ≤ k by omega)
    exact full_good a c (by omega) (by omega) w
end Go.Proofs.YtfkdoinlbdcaaaaDoor
