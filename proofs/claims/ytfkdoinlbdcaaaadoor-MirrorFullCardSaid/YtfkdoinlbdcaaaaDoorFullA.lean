/- MirrorFull, plainly: names, what is there behind n Puts, what was asked behind k Fetches; the law's own 'number'. -/
import Derived.Test.YtfkdoinlbdcaaaaDoorMNames
namespace Go.Proofs.YtfkdoinlbdcaaaaDoor
open Go.RowKit

def valOf (l : List UInt8) : Nat := l.foldl (fun a c => a * 10 + (c.toNat - 48)) 0
theorem val_digits (u : Nat) : valOf (Lib.decDigits u) = u := by
  induction u using Nat.strongRecOn with
  | ind u ih =>
    rw [Lib.decDigits]
    have hd : ∀ k, k < 10 → (UInt8.ofNat (48 + k)).toNat - 48 = k := by
      intro k hk
      simp only [UInt8.toNat_ofNat']
      omega
    by_cases h : u < 10
    · rw [dif_pos h]
      simp only [valOf, List.foldl_cons, List.foldl_nil]
      rw [hd u h]
      omega
    · rw [dif_neg h]
      have h1 := ih (u / 10) (by omega)
      unfold valOf at h1 ⊢
      rw [List.foldl_append, h1]
      simp only [List.foldl_cons, List.foldl_nil]
      rw [hd _ (Nat.mod_lt _ (by decide))]
      omega

def nmL (i : Nat) : List UInt8 := 102 :: Lib.decDigits i
def nm (i : Nat) : ByteArray := ⟨#[102]⟩ ++ ⟨(Lib.decDigits i).toArray⟩
theorem nm_list (i : Nat) : (nm i).data.toList = nmL i := by simp [nm, nmL]
theorem nmL_inj {i j : Nat} (h : nmL i = nmL j) : i = j := by
  have h2 := congrArg valOf (List.cons.inj h).2
  rwa [val_digits, val_digits] at h2
theorem nm_size (i : Nat) (hi : i ≤ 1000) : (nm i).size = 1 + (Lib.decDigits i).length ∧ (Lib.decDigits i).length ≤ 21 := by
  refine ⟨?_, digits_len i (by omega)⟩
  have : (nm i).size = (nm i).data.toList.length := by rw [Array.length_toList]; rfl
  rw [this, nm_list]
  simp [nmL]
  omega
theorem nm_ok (i : Nat) (hi : i ≤ 1000) : nameOk (nm i) = true := by
  obtain ⟨h1, h2⟩ := nm_size i hi
  unfold nameOk
  rw [decide_eq_true_eq, h1]
  omega

def putN : Nat → PMir
  | 0 => PMir.new
  | i + 1 => ((putN i).put (nm i) []).2
theorem putN_inv : ∀ i : Nat, i ≤ 300 → (putN i).cnt = min i 256 ∧ (putN i).asked = [] ∧ (putN i).slow = -1 ∧ (∀ j, (putN i).file (nmL j) = if j < min i 256 then some [] else none) ∧ ((putN i).put (nm i) []).1 = if 256 ≤ i then 2 else 0 := by
  have hput : ∀ (d : PMir) (i : Nat), i ≤ 300 → d.cnt = min i 256 → d.file (nmL i) = none → (d.put (nm i) []) = if 256 ≤ i then (2, d) else (0, d.stored (nm i) []) := by
    intro d i hi hc hf
    unfold PMir.put
    rw [nm_ok i (by omega), if_neg (by simp), if_neg (by simp), nm_list, hf, hc]
    by_cases h : 256 ≤ i
    · rw [if_pos ⟨rfl, by omega⟩, if_pos h]
    · rw [if_neg (by rintro ⟨-, h2⟩; omega), if_neg h]
  intro i
  induction i with
  | zero =>
    intro _
    refine ⟨rfl, rfl, rfl, fun j => by simp [putN, PMir.new], ?_⟩
    rw [hput _ 0 (by omega) rfl rfl]
    rfl
  | succ i ih =>
    intro hi
    obtain ⟨h1, h2, h3, h4, -⟩ := ih (by omega)
    have hf : (putN i).file (nmL i) = none := by rw [h4, if_neg (by omega)]
    have hs : putN (i + 1) = if 256 ≤ i then putN i else (putN i).stored (nm i) [] := by
      show ((putN i).put (nm i) []).2 = _
      rw [hput _ i (by omega) h1 hf]
      split <;> rfl
    have hall : (putN (i + 1)).cnt = min (i + 1) 256 ∧ (putN (i + 1)).asked = [] ∧ (putN (i + 1)).slow = -1 ∧ (∀ j, (putN (i + 1)).file (nmL j) = if j < min (i + 1) 256 then some [] else none) := by
      rw [hs]
      by_cases h : 256 ≤ i
      · rw [if_pos h]
        refine ⟨by rw [h1]; omega, h2, h3, fun j => ?_⟩
        rw [h4, show min (i + 1) 256 = min i 256 by omega]
      · rw [if_neg h]
        unfold PMir.stored
        refine ⟨?_, h2, h3, fun j => ?_⟩
        · simp only [nm_list, hf, Option.isSome_none, Bool.false_eq_true, if_false, h1]
          omega
        · simp only [nm_list]
          by_cases e : j = i
          · subst e
            rw [if_pos rfl, if_pos (by omega)]
          · rw [if_neg (fun e2 => e (nmL_inj e2)), h4]
            by_cases e3 : j < min i 256
            · rw [if_pos e3, if_pos (by omega)]
            · rw [if_neg e3, if_neg (by omega)]
    obtain ⟨g1, g2, g3, g4⟩ := hall
    refine ⟨g1, g2, g3, g4, ?_⟩
    rw [hput _ (i + 1) (by omega) g1 (by rw [g4, if_neg (by omega)])]
    split <;> rfl

def entry (n j : Nat) : ByteArray × Int := (nm j, if n ≤ j ∨ 256 ≤ j then -1 else 0)
def fetN (n : Nat) : Nat → PMir
  | 0 => putN n
  | j + 1 => ((fetN n j).fetch (nm j) 0).2
theorem drop_more {α : Type} (L : List α) (e : α) (j : Nat) (h : L.length = j) : ((L.drop (j - 256)) ++ [e]).drop ((L.drop (j - 256)).length + 1 - 256) = (L ++ [e]).drop (j + 1 - 256) := by
  rw [List.length_drop, h]
  by_cases hj : j < 256
  · rw [show j - 256 = 0 by omega, show j - 0 + 1 - 256 = 0 by omega, show j + 1 - 256 = 0 by omega]
    rfl
  · rw [show j - (j - 256) + 1 - 256 = 1 by omega, show j + 1 - 256 = (j - 256) + 1 by omega]
    rw [List.drop_append_of_le_length (by rw [List.length_drop, h]; omega), List.drop_append_of_le_length (by omega), List.drop_drop]
theorem fetN_inv (n : Nat) (hn : n ≤ 300) : ∀ j : Nat, j ≤ 300 → (fetN n j).file = (putN n).file ∧ (fetN n j).cnt = (putN n).cnt ∧ (fetN n j).slow = -1 ∧ (fetN n j).asked = ((List.range j).map (entry n)).drop (j - 256) := by
  obtain ⟨p1, p2, p3, p4, -⟩ := putN_inv n hn
  intro j
  induction j with
  | zero => intro _; exact ⟨rfl, rfl, p3, p2⟩
  | succ j ih =>
    intro hj
    obtain ⟨h1, h1c, h2, h3⟩ := ih (by omega)
    have hnote : fetN n (j + 1) = (fetN n j).note (nm j) (entry n j).2 := by
      show ((fetN n j).fetch (nm j) 0).2 = _
      unfold PMir.fetch
      rw [nm_list, h1, p4]
      by_cases e : j < min n 256
      · rw [if_pos e]
        have hp : (fetN n j).part [] = [] := by unfold PMir.part; rw [h2]; rfl
        simp only [hp]
        rw [if_neg (by simp)]
        have : (entry n j).2 = 0 := by simp only [entry]; rw [if_neg (by omega)]
        rw [this]
        rfl
      · rw [if_neg e]
        have : (entry n j).2 = -1 := by simp only [entry]; rw [if_pos (by omega)]
        rw [this]
    rw [hnote]
    unfold PMir.note
    rw [nm_ok j (by omega), if_pos rfl]
    refine ⟨h1, h1c, h2, ?_⟩
    simp only [h3]
    rw [List.range_succ, List.map_append]
    exact drop_more _ _ j (by simp)
theorem fetN_few (n : Nat) (hn : n ≤ 300) (j : Nat) (hj : j ≤ 300) : (fetN n j).asked.length = min j 256 := by
  rw [(fetN_inv n hn j hj).2.2.2]
  simp
  omega

set_option maxRecDepth 10000 in
set_option maxHeartbeats 1600000 in
theorem number_any (u : Nat) : u ≤ 1000 → ∀ w : World, Calls Tryd.prog 10 #[.int .i64 u] w fun e w' => e = .returned (.string ⟨(Lib.decDigits u).toArray⟩) ∧ w = w' := by
  induction u using Nat.strongRecOn with
  | ind u ih =>
    intro hu w
    by_cases h10 : u < 10
    · have hs := Lib.hid (one_digit u h10)
      have hd : Hid ((⟨(Lib.decDigits u).toArray⟩ : ByteArray) = ⟨#[UInt8.ofNat (48 + u)]⟩) := Lib.hid (by rw [Lib.decDigits_one h10])
      have h10' : (u : Int) < 10 := by omega
      clear ih
      go_enter Tryd.func10, Tryd.ntmps10
      go_wp2_with fail
      go_ret
      exact ⟨by rw [hd.out, ← hs.out]; rfl, rfl⟩
    · have hi0 := ih (u / 10) (by omega) (by omega) w
      have hj0 := ih (u % 10) (by omega) (by omega) w
      rw [show ((u % 10 : Nat) : Int) = (u : Int) % 10 by omega] at hj0
      obtain ⟨r, hr⟩ : ∃ r : Int, (u : Int) % 10 = r := ⟨_, rfl⟩
      rw [hr] at hj0
      have hi := Lib.hid hi0
      have hj := Lib.hid hj0
      clear hi0 hj0
      have h10' : ¬(u : Int) < 10 := by omega
      have hl := digits_len (u / 10) (by omega)
      have hl2 := digits_len (u % 10) (by omega)
      have hd : Hid ((⟨(Lib.decDigits u).toArray⟩ : ByteArray) = ⟨(Lib.decDigits (u / 10)).toArray⟩ ++ ⟨(Lib.decDigits (u % 10)).toArray⟩) := Lib.hid (by
        rw [Lib.decDigits, dif_neg h10, Lib.decDigits_one (Nat.mod_lt _ (by decide))]
        apply ByteArray.ext
        simp)
      have hsz : ¬ 9223372036854775807 < (⟨(Lib.decDigits (u / 10)).toArray⟩ : ByteArray).size + (⟨(Lib.decDigits (u % 10)).toArray⟩ : ByteArray).size := by simp [ByteArray.size]; omega
      revert hi hj hd hsz
      generalize (⟨(Lib.decDigits (u / 10)).toArray⟩ : ByteArray) = t1
      generalize (⟨(Lib.decDigits (u % 10)).toArray⟩ : ByteArray) = t2
      intro hi hj hd hsz
      clear ih hl hl2
      go_enter Tryd.func10, Tryd.ntmps10
      go_wp2_with (first
        | (go_at_call 10; with_reducible refine hj.out.mono ?_; rintro e w' ⟨rfl, rfl⟩)
        | (go_at_call 10; refine hi.out.mono ?_; rintro e w' ⟨rfl, rfl⟩))
      go_ret
      exact ⟨by rw [hd.out]; rfl, rfl⟩
end Go.Proofs.YtfkdoinlbdcaaaaDoor
