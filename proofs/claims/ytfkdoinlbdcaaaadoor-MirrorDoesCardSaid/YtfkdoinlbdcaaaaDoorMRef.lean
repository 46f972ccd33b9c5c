/- Files in a slice; the document's Get and Drop. -/
import Derived.Test.YtfkdoinlbdcaaaaDoorMirD
namespace Go.Proofs.YtfkdoinlbdcaaaaDoor
open Go.RowKit

theorem oper_append {P : Program} {t e size bytes : Nat} {z : Value} (T : SliceTy P t e size bytes z) {w : World} {base : Nat} {v : Value} {n : Nat} {xs : List Value} (hown : w.ownsRow base e size v n xs)
    {vx : Value} {m : Nat} {news : List Value} (hsrc : Slc w size vx m news) (h1 : ∀ u ∈ news, u.oneCell' = true) (h63 : n + m ≤ maxLen) (hbytes : (n + m) * bytes ≤ 140737488355328) (hbase : base ≤ w.heap.size)
    {o : Oper} {a : Act} {K : Act → World → Prop} {Q : Exit → Act → World → Prop} (s x : Operand)
    (ho : o.op = .call { callee := .builtin .append, args := #[s, x], argTypes := #[t, t] }) (hs : a.eval s = v) (hx : a.eval x = vx)
    (h : ∀ b c w', w'.ownsRow base e size (.slice b (n + m) c) (n + m) (xs ++ news) → Kept v.ownBlock.toList w w' → ((Value.slice b (n + m) c).ownBlock = v.ownBlock ∨ (Value.slice b (n + m) c).ownBlock = some w.heap.size) → K (a.put o.dst (.slice b (n + m) c)) w') :
    Oper.wp P o a w K Q := by
  obtain ⟨v', w', hr, h2, h3, h4, h5⟩ := run_append_slc T w o.type base v n xs hown vx m news hsrc h1 h63 hbytes hbase
  obtain ⟨b, c, rfl, -, -⟩ := (Slc.of_row h2).form
  unfold Oper.wp execOp
  simp only [ho, resolve, invoke, builtin, Sem.run_bind, Sem.run_pure, Result.andThen_ok, List.map_toArray, List.map_cons, List.map_nil, hs, hx, hr]
  exact h b c w' h2 h3 h5

theorem tyFiles : SliceTy Tryd.prog 48 58 2 40 (.agg #[.string ⟨#[]⟩, .slice none 0 0]) := ⟨Tryd.underlying48, by kernel_rfl, rfl, by decide⟩
abbrev Row2 := ByteArray × Value
def fileCells (l : List Row2) : List Value := l.flatMap (fun k => [.string k.1, k.2])
theorem fileCells_cons (k : Row2) (l : List Row2) : fileCells (k :: l) = .string k.1 :: k.2 :: fileCells l := rfl
theorem fileCells_len (l : List Row2) : (fileCells l).length = l.length * 2 := by
  induction l with
  | nil => rfl
  | cons k r ih =>
    rw [fileCells_cons, List.length_cons, List.length_cons, ih, List.length_cons]
    omega
theorem fileCells_get (l : List Row2) (j : Nat) (h : j < l.length) : (fileCells l)[j * 2]? = some (.string l[j].1) ∧ (fileCells l)[j * 2 + 1]? = some l[j].2 := by
  induction l generalizing j with
  | nil => simp at h
  | cons k r ih =>
    rw [fileCells_cons]
    cases j with
    | zero => exact ⟨rfl, rfl⟩
    | succ j =>
      have := ih j (by simpa using h)
      rw [show (j + 1) * 2 = j * 2 + 1 + 1 by omega]
      simpa using this
theorem fileCells_app (l r : List Row2) : fileCells (l ++ r) = fileCells l ++ fileCells r := by simp [fileCells]
theorem fileCells_take (l : List Row2) (k : Nat) : (fileCells l).take (k * 2) = fileCells (l.take k) := by
  induction k generalizing l with
  | zero => simp [fileCells]
  | succ k ih =>
    cases l with
    | nil => simp [fileCells]
    | cons x r =>
      rw [fileCells_cons, show (k + 1) * 2 = k * 2 + 1 + 1 by omega, List.take_succ_cons, List.take_succ_cons, ih, List.take_succ_cons, fileCells_cons]
theorem fileCells_drop (l : List Row2) (k : Nat) : (fileCells l).drop (k * 2) = fileCells (l.drop k) := by
  induction k generalizing l with
  | zero => simp
  | succ k ih =>
    cases l with
    | nil => simp [fileCells]
    | cons x r =>
      rw [fileCells_cons, show (k + 1) * 2 = k * 2 + 1 + 1 by omega]
      simpa using ih r
/-- Bodies are slices. -/
def Sl (l : List Row2) : Prop := ∀ r, r ∈ l → ∃ a n c, r.2 = .slice a n c
theorem fileCells_one {l : List Row2} (h : Sl l) : ∀ u ∈ fileCells l, u.oneCell' = true := by
  intro u hu
  obtain ⟨k, hk, he⟩ := List.mem_flatMap.1 hu
  simp at he
  rcases he with rfl | rfl
  · rfl
  · obtain ⟨a, n, c, e⟩ := h k hk
    rw [e]; rfl
theorem files_at {w w' : World} {a : Option Addr} {c m : Nat} {l : List Row2} (h : Slc w 2 (.slice a m c) l.length (fileCells l)) (hk : Kept [] w w') (j : Nat) (hj : j < l.length) :
    ∃ g o, a = some ⟨g, o, none⟩ ∧ w'.cell? ⟨g, o + j * 2, none⟩ = some (.string l[j].1) ∧ w'.cell? ⟨g, o + j * 2 + 1, none⟩ = some l[j].2 := by
  rcases (h.kept0 hk).2 with ⟨_, h0⟩ | ⟨h0, _⟩ | ⟨g, o, cap, hsv, _, _, hrow⟩
  · omega
  · omega
  simp only [Value.slice.injEq] at hsv
  obtain ⟨rfl, -, -⟩ := hsv
  obtain ⟨g1, g2⟩ := fileCells_get l j hj
  exact ⟨g, o, rfl, hrow.cells _ _ g1, hrow.cells _ _ g2⟩

def getR (s : ByteArray) : List Row2 → Value × Bool
  | [] => (.slice none 0 0, false)
  | r :: l => if r.1 = s then (r.2, true) else getR s l
theorem getR_skip {s : ByteArray} : ∀ {l : List Row2} {k : Nat}, (∀ (j : Nat) (hj : j < l.length), j < k → l[j].1 ≠ s) → getR s l = getR s (l.drop k)
  | _, 0, _ => by simp
  | [], k + 1, _ => by simp
  | r :: l, k + 1, h => by
    have h0 : r.1 ≠ s := h 0 (by simp) (by omega)
    have ih := getR_skip (s := s) (l := l) (k := k) (fun j hj hk => h (j + 1) (by simpa using hj) (by omega))
    simp only [getR, List.drop_succ_cons]
    rw [if_neg h0, ih]
theorem str_beq (a b : ByteArray) : (a.toList == b.toList) = decide (a = b) := by
  rw [ByteArray.toList_eq, ByteArray.toList_eq]
  by_cases h : a = b
  · subst h; simp
  · have : ¬ a.data.toList = b.data.toList := fun e => h (by cases a; cases b; simp only [ByteArray.mk.injEq] at *; exact Array.toList_inj.1 e)
    rw [beq_eq_false_iff_ne.2 this, decide_eq_false h]

set_option maxRecDepth 10000 in
set_option maxHeartbeats 800000 in
theorem refGet_any {w : World} {v : Value} {l : List Row2} (h : Slc w 2 v l.length (fileCells l)) (s : ByteArray) (hl : l.length ≤ 100000) :
    Calls Tryd.prog 43 #[v, .string s] w fun e w' => e = .returned (.tuple #[(getR s l).1, .bool (getR s l).2]) ∧ w = w' := by
  obtain ⟨a, c, rfl, -, -⟩ := h.form
  have H := Lib.hid h
  have hlI : (l.length : Int) ≤ 100000 := by omega
  clear h
  go_enter Tryd.func43, Tryd.ntmps43
  go_wp2
  go_loop [6] (fun i => ∃ k : Nat, i = .int .i64 k ∧ k ≤ l.length ∧ ∀ (j : Nat) (hj : j < l.length), j < k → l[j].1 ≠ s) (fun i => l.length - (intOf i).toNat)
  case atStart => exact ⟨0, rfl, Nat.zero_le _, fun j _ h => absurd h (Nat.not_lt_zero j)⟩
  case round =>
    obtain ⟨k, rfl, hk, hno⟩ := hrel
    have HNO := Lib.hid hno
    clear hno
    by_cases hlt : k < l.length
    · have hltI : (k : Int) < l.length := by omega
      obtain ⟨g, o, rfl, q0, q1⟩ := files_at H.out (Kept.refl [] w) k hlt
      have HG : Hid (getR s l = getR s (l.drop k)) := Lib.hid (getR_skip HNO.out)
      have HD : Hid (l.drop k = l[k] :: l.drop (k + 1)) := Lib.hid (List.drop_eq_getElem_cons hlt)
      have HX : Hid (l[k].1 ≠ s → ∀ (j : Nat) (hj : j < l.length), j < k + 1 → l[j].1 ≠ s) := Lib.hid (by
        intro hx j hj hjk
        by_cases e : j = k
        · subst e; exact hx
        · exact HNO.out j hj (by omega))
      have hb := str_beq l[k].1 s
      revert q0 q1 HD HX hb
      generalize l[k] = r
      obtain ⟨nm, bd⟩ := r
      intro q0 q1 HD HX hb
      simp only at q0 q1 HX hb
      by_cases he : nm = s
      · rw [decide_eq_true he] at hb
        have HE := Lib.hid he
        clear he HX
        go_wp2
        go_ret2
        rw [HG.out, HD.out]
        simp only [getR]
        rw [if_pos HE.out]
        exact ⟨by first | rfl | trivial, by first | rfl | trivial⟩
      · rw [decide_eq_false he] at hb
        have HE := Lib.hid (HX.out he)
        clear he HX
        go_wp2
        go_round
        case rel => exact ⟨k + 1, by go_num, by omega, HE.out⟩
        case measure => simp [intOf]; omega
    · obtain rfl : k = l.length := by omega
      have HG : Hid (getR s l = getR s (l.drop l.length)) := Lib.hid (getR_skip HNO.out)
      go_wp2
      go_ret2
      rw [HG.out, List.drop_length]
      exact ⟨rfl, rfl⟩
end Go.Proofs.YtfkdoinlbdcaaaaDoor
