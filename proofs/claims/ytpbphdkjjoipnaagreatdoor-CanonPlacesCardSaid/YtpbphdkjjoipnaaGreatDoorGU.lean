/- Parts of one proof, merged: XVG XZA XZB XZC XZD XZE. -/
import Derived.Test.YtpbphdkjjoipnaaGreatDoorFB
import Derived.Lib.Split
import Derived.Lib.SplitLaws
import Derived.Test.YtpbphdkjjoipnaaGreatDoorFD
import Derived.Test.YtpbphdkjjoipnaaGreatDoorFG
import Derived.Test.YtpbphdkjjoipnaaGreatDoorFA
set_option linter.all false
set_option maxHeartbeats 12800000
set_option maxRecDepth 10000
set_option linter.unusedVariables false
set_option linter.unusedSimpArgs false
set_option linter.unnecessarySimpa false
namespace Go.Proofs.YtpbphdkjjoipnaaGreatDoor
def xM (c : UInt8) : List UInt8 := if c = 126 then [126, 48] else if c = 47 then [126, 49] else [c]
def yo (s : List UInt8) : List UInt8 := s.flatMap xM
def zH (l : List (List UInt8)) : List UInt8 := l.flatMap (fun s => 47 :: yo s)
def kP : Nat → List UInt8 → Option (List UInt8)
 | 0, _ => none
 | _ + 1, [] => some []
 | f + 1, c :: r =>
  if c = 126 then
   match r with
   | [] => none
   | d :: r => if d = 48 then (kP f r).map (126 :: ·) else if d = 49 then (kP f r).map (47 :: ·) else none
  else (kP f r).map (c :: ·)
def yn (s : List UInt8) : Option (List UInt8) := kP (s.length + 1) s
def zM (x : UInt8) : List UInt8 → List (List UInt8)
 | [] => [[]]
 | c :: r => if c = x then [] :: zM x r else match zM x r with | h :: t => (c :: h) :: t | [] => [[c]]
def zO {α : Type} : List (Option α) → Option (List α)
 | [] => some []
 | some a :: l => (zO l).map (a :: ·)
 | none :: _ => none
def yq (p : List UInt8) : Option (List (List UInt8)) :=
 if p = [] then some [] else match zM 47 p with
  | h :: t => if h = [] then zO (t.map yn) else none
  | [] => none
theorem yT (x : UInt8) (s : List UInt8) : zM x s ≠ [] := by
 cases s with
 | nil => simp [zM]
 | cons c r =>
  unfold zM
  split
  ·simp
  ·split <;> simp
theorem kQ (x : UInt8) (r : List UInt8) : zM x (x :: r) = [] :: zM x r := by rw [zM, if_pos rfl]
theorem qK {x c : UInt8} (h : c ≠ x) (r : List UInt8) : zM x (c :: r) = match zM x r with | h :: t => (c :: h) :: t | [] => [[c]] := by rw [zM, if_neg h]
theorem vM : ∀ (f g : Nat) (s : List UInt8), s.length < f → s.length < g → kP f s = kP g s
 | 0, _, s, h, _ => by omega
 | _, 0, s, _, h => by omega
 | f + 1, g + 1, [], _, _ => rfl
 | f + 1, g + 1, c :: r, h, k => by
  simp only [List.length_cons] at h k
  unfold kP
  by_cases hc : c = 126
  ·rw [if_pos hc, if_pos hc]
   cases r with
   | nil => rfl
   | cons d r =>
    simp only [List.length_cons] at h k
    simp only [vM f g r (by omega) (by omega)]
  ·rw [if_neg hc, if_neg hc, vM f g r (by omega) (by omega)]
theorem Yx : yn [] = some [] := rfl
theorem ji {c : UInt8} (h : c ≠ 126) (r : List UInt8) : yn (c :: r) = (yn r).map (c :: ·) := by
 show kP (r.length + 1 + 1) (c :: r) = _
 unfold kP
 rw [if_neg h]
 rfl
theorem xU (r : List UInt8) : yn (126 :: r) = match r with | [] => none | d :: r => if d = 48 then (yn r).map (126 :: ·) else if d = 49 then (yn r).map (47 :: ·) else none := by
 show kP (r.length + 1 + 1) (126 :: r) = _
 unfold kP
 rw [if_pos rfl]
 cases r with
 | nil => rfl
 | cons d r =>
  simp only [List.length_cons]
  rw [vM (r.length + 1 + 1) (r.length + 1) r (by omega) (by omega)]
  rfl
theorem JA : ∀ (s : List UInt8), yn (yo s) = some s
 | [] => rfl
 | c :: r => by
  have ih := JA r
  show yn (xM c ++ yo r) = _
  unfold xM
  split
  ·rename_i h
   show yn (126 :: 48 :: yo r) = _
   rw [xU]
   simp [ih, h]
  ·split
   ·rename_i h h2
    show yn (126 :: 49 :: yo r) = _
    rw [xU]
    simp [ih, h2]
   ·rename_i h h2
    show yn (c :: yo r) = _
    rw [ji h, ih]
    rfl
theorem bo : ∀ (n : Nat) (s t : List UInt8), s.length ≤ n → (∀ c, c ∈ s → c ≠ 47) → yn s = some t → yo t = s
 | _, [], t, _, _, h => by
  rw [Yx, Option.some.injEq] at h
  subst h; rfl
 | 0, c :: r, t, hn, _, _ => by simp at hn
 | n + 1, c :: r, t, hn, h47, h => by
  simp only [List.length_cons] at hn
  by_cases hc : c = 126
  ·subst hc
   rw [xU] at h
   cases r with
   | nil => cases h
   | cons d r =>
    simp only [List.length_cons] at hn h
    by_cases h1 : d = 48
    ·subst h1
     rw [if_pos rfl, Option.map_eq_some_iff] at h
     obtain ⟨u, hu, rfl⟩ := h
     have := bo n r u (by omega) (fun c hc => h47 c (by simp [hc])) hu
     show xM 126 ++ yo u = _
     rw [this]; rfl
    ·rw [if_neg h1] at h
     by_cases h2 : d = 49
     ·subst h2
      rw [if_pos rfl, Option.map_eq_some_iff] at h
      obtain ⟨u, hu, rfl⟩ := h
      have := bo n r u (by omega) (fun c hc => h47 c (by simp [hc])) hu
      show xM 47 ++ yo u = _
      rw [this]; rfl
     ·rw [if_neg h2] at h; cases h
  ·rw [ji hc, Option.map_eq_some_iff] at h
   obtain ⟨u, hu, rfl⟩ := h
   have := bo n r u (by omega) (fun c hc => h47 c (List.mem_cons_of_mem _ hc)) hu
   have hc2 := h47 c (List.mem_cons_self ..)
   show xM c ++ yo u = _
   rw [this]
   unfold xM
   rw [if_neg hc, if_neg hc2]; rfl
theorem split_no (x : UInt8) : ∀ (s : List UInt8), (∀ c, c ∈ s → c ≠ x) → zM x s = [s]
 | [], _ => rfl
 | c :: r, h => by
  rw [qK (h c (List.mem_cons_self ..)), split_no x r (fun d hd => h d (List.mem_cons_of_mem _ hd))]
theorem JJ (x : UInt8) : ∀ (a b : List UInt8), (∀ c, c ∈ a → c ≠ x) → zM x (a ++ x :: b) = a :: zM x b
 | [], b, _ => by
  show zM x (x :: b) = _
  exact kQ x b
 | c :: r, b, h => by
  show zM x (c :: (r ++ x :: b)) = _
  rw [qK (h c (List.mem_cons_self ..)), JJ x r b (fun d hd => h d (List.mem_cons_of_mem _ hd))]
theorem YV (x : UInt8) : ∀ (s : List UInt8), ∀ p, p ∈ zM x s → ∀ c, c ∈ p → c ≠ x
 | [], p, hp, c, hc => by
  simp [zM] at hp
  subst hp; cases hc
 | d :: r, p, hp, c, hc => by
  have ih := YV x r
  unfold zM at hp
  split at hp
  ·rcases List.mem_cons.1 hp with rfl | hp
   ·cases hc
   ·exact ih p hp c hc
  ·rename_i hd
   cases hs : zM x r with
   | nil => exact absurd hs (yT x r)
   | cons h t =>
    rw [hs] at hp ih
    rcases List.mem_cons.1 hp with rfl | hp
    ·rcases List.mem_cons.1 hc with rfl | hc
     ·exact hd
     ·exact ih h (List.mem_cons_self ..) c hc
    ·exact ih p (List.mem_cons_of_mem _ hp) c hc
theorem jU (x : UInt8) : ∀ (s h : List UInt8) (t : List (List UInt8)), zM x s = h :: t → s = h ++ t.flatMap (fun p => x :: p)
 | [], h, t, e => by
  simp [zM] at e
  obtain ⟨rfl, rfl⟩ := e
  rfl
 | c :: r, h, t, e => by
  unfold zM at e
  split at e
  ·rename_i hc
   simp only [List.cons.injEq] at e
   obtain ⟨rfl, rfl⟩ := e
   cases hs : zM x r with
   | nil => exact absurd hs (yT x r)
   | cons h' t' =>
    have ih := jU x r h' t' hs
    rw [List.nil_append, List.flatMap_cons, List.cons_append, ← ih, hc]
  ·cases hs : zM x r with
   | nil => exact absurd hs (yT x r)
   | cons h' t' =>
    rw [hs] at e
    simp only [List.cons.injEq] at e
    obtain ⟨rfl, rfl⟩ := e
    have ih := jU x r h' t' hs
    rw [List.cons_append, ← ih]
theorem esc_no (s : List UInt8) : ∀ c, c ∈ yo s → c ≠ 47 := by
 intro c hc
 obtain ⟨d, hd, hc⟩ := List.mem_flatMap.1 hc
 unfold xM at hc
 split at hc
 ·rcases List.mem_cons.1 hc with rfl | hc
  ·decide
  ·simp at hc; subst hc; decide
 ·split at hc
  ·rcases List.mem_cons.1 hc with rfl | hc
   ·decide
   ·simp at hc; subst hc; decide
  ·simp at hc; subst hc; assumption
theorem vI {α β : Type} {f : α → Option β} : ∀ {l : List α} {m : List β}, zO (l.map f) = some m → m.length = l.length ∧ ∀ (i : Nat) (h : i < l.length) (h' : i < m.length), f l[i] = some m[i]
 | [], m, h => by
  simp [zO] at h
  subst h
  exact ⟨rfl, fun i h => by simp at h⟩
 | a :: l, m, h => by
  rw [List.map_cons] at h
  cases hf : f a with
  | none => rw [hf] at h; cases h
  | some b =>
   rw [hf] at h
   simp only [zO, Option.map_eq_some_iff] at h
   obtain ⟨m', hm, rfl⟩ := h
   obtain ⟨h1, h2⟩ := vI hm
   refine ⟨by simp [h1], fun i h h' => ?_⟩
   cases i with
   | zero => exact hf
   | succ i => exact h2 i (by simpa using h) (by simpa using h')
theorem bP : ∀ (l : List (List UInt8)) (a : List UInt8), (∀ c, c ∈ a → c ≠ 47) → zM 47 (a ++ zH l) = a :: l.map yo
 | [], a, h => by
  show zM 47 (a ++ []) = _
  rw [List.append_nil, split_no 47 a h]; rfl
 | s :: l, a, h => by
  show zM 47 (a ++ 47 :: (yo s ++ zH l)) = _
  rw [JJ 47 a _ h, bP l (yo s) (esc_no s)]
  rfl
theorem Kv (l : List (List UInt8)) : yq (zH l) = some l := by
 cases l with
 | nil => rfl
 | cons s l =>
  unfold yq
  rw [if_neg (by simp [zH])]
  have h := bP (s :: l) [] (fun c hc => by cases hc)
  rw [List.nil_append] at h
  rw [h]
  simp only [if_true]
  have e : ∀ (l : List (List UInt8)), zO ((l.map yo).map yn) = some l := by
   intro l
   induction l with
   | nil => rfl
   | cons a l ih =>
    simp only [List.map_cons, JA, zO, ih, Option.map_some]
  exact e (s :: l)
theorem KO {p : List UInt8} {l : List (List UInt8)} (h : yq p = some l) : zH l = p := by
 unfold yq at h
 split at h
 ·rename_i e
  rw [Option.some.injEq] at h
  subst h; subst e; rfl
 ·cases hs : zM 47 p with
  | nil => exact absurd hs (yT 47 p)
  | cons a t =>
   rw [hs] at h
   simp only at h
   split at h
   ·rename_i ha
    subst ha
    have hj := jU 47 p [] t hs
    rw [List.nil_append] at hj
    rw [hj]
    obtain ⟨h1, h2⟩ := vI h
    unfold zH
    have h47 := YV 47 p
    rw [hs] at h47
    have h47' : ∀ q, q ∈ t → ∀ c, c ∈ q → c ≠ 47 := fun q hq => h47 q (List.mem_cons_of_mem _ hq)
    clear h hs hj h47
    induction t generalizing l with
    | nil =>
     have : l = [] := List.eq_nil_of_length_eq_zero h1
     subst this; rfl
    | cons q t ih =>
     cases l with
     | nil => simp at h1
     | cons x l =>
      have hx := bo q.length q x (Nat.le_refl _) (h47' q (List.mem_cons_self ..)) (h2 0 (by simp) (by simp))
      simp only [List.flatMap_cons, hx]
      rw [ih (l := l) (by simpa using h1) (fun i h h' => h2 (i + 1) (by simpa using h) (by simpa using h')) (fun q hq => h47' q (List.mem_cons_of_mem _ hq))]
   ·cases h
def bw (out : List (List UInt8)) (c : UInt8) : List (List UInt8) := out.dropLast ++ [(out.getLast?.getD []) ++ [c]]
def pGo : Nat → List UInt8 → List (List UInt8) → Option (List (List UInt8))
 | 0, _, _ => none
 | _ + 1, [], out => some out
 | f + 1, c :: r, out =>
  if c = 47 then pGo f r (out ++ [[]])
  else if out = [] then none
  else if c = 126 then
   match r with
   | [] => none
   | d :: r => if d = 48 then pGo f r (bw out 126) else if d = 49 then pGo f r (bw out 47) else none
  else pGo f r (bw out c)
theorem kD (out : List (List UInt8)) (x : List UInt8) (c : UInt8) : bw (out ++ [x]) c = out ++ [x ++ [c]] := by simp [bw]
def kE (out : List (List UInt8)) (x : List UInt8) : List (List UInt8) → Option (List (List UInt8))
 | [] => none
 | h :: t => (yn h).bind fun a => (zO (t.map yn)).map fun b => out ++ (x ++ a) :: b
theorem pGo_eq : ∀ (f : Nat) (s : List UInt8) (out : List (List UInt8)) (x : List UInt8), s.length < f → pGo f s (out ++ [x]) = kE out x (zM 47 s)
 | 0, s, out, x, h => by omega
 | f + 1, [], out, x, h => by simp [pGo, kE, zM, Yx, zO]
 | f + 1, c :: r, out, x, h => by
  simp only [List.length_cons] at h
  unfold pGo
  by_cases h47 : c = 47
  ·rw [if_pos h47, pGo_eq f r (out ++ [x]) [] (by omega)]
   rw [h47, kQ]
   cases hs : zM 47 r with
   | nil => exact absurd hs (yT 47 r)
   | cons h' t =>
    simp only [kE, Yx, Option.bind_some, List.map_cons, List.nil_append]
    cases yn h' with
    | none => rfl
    | some a =>
     simp only [Option.bind_some, zO, Option.map_map]
     cases zO (t.map yn) with
     | none => rfl
     | some b => simp
  ·rw [if_neg h47, if_neg (by simp)]
   by_cases h126 : c = 126
   ·rw [if_pos h126]
    subst h126
    cases r with
    | nil =>
     simp only [zM]
     rw [if_neg h47]
     simp only [kE]
     rw [xU]; rfl
    | cons d r =>
     simp only [List.length_cons] at h
     have hbase : ∀ (e : UInt8), pGo f r (bw (out ++ [x]) e) = kE out (x ++ [e]) (zM 47 r) := fun e => by rw [kD, pGo_eq f r out (x ++ [e]) (by omega)]
     simp only [hbase]
     have hs0 : zM 47 (126 :: d :: r) = match zM 47 (d :: r) with | h :: t => (126 :: h) :: t | [] => [[126]] := qK h47 _
     rw [hs0]
     by_cases hd : d = 47
     ·subst hd
      rw [if_neg (by decide), if_neg (by decide)]
      rw [kQ]
      simp only [kE]
      rw [xU]; rfl
     ·have hs1 : zM 47 (d :: r) = match zM 47 r with | h :: t => (d :: h) :: t | [] => [[d]] := qK hd _
      rw [hs1]
      cases hs : zM 47 r with
      | nil => exact absurd hs (yT 47 r)
      | cons h' t =>
       simp only [kE]
       rw [xU]
       simp only
       by_cases h1 : d = 48
       ·rw [if_pos h1, if_pos h1]
        cases yn h' with
        | none => rfl
        | some a =>
         simp only [Option.bind_some, Option.map_some]
         cases zO (t.map yn) <;> simp
       ·rw [if_neg h1, if_neg h1]
        by_cases h2 : d = 49
        ·rw [if_pos h2, if_pos h2]
         cases yn h' with
         | none => rfl
         | some a =>
          simp only [Option.bind_some, Option.map_some]
          cases zO (t.map yn) <;> simp
        ·rw [if_neg h2, if_neg h2]; rfl
   ·rw [if_neg h126, kD, pGo_eq f r out (x ++ [c]) (by omega)]
    have hs0 : zM 47 (c :: r) = match zM 47 r with | h :: t => (c :: h) :: t | [] => [[c]] := qK h47 _
    rw [hs0]
    cases hs : zM 47 r with
    | nil => exact absurd hs (yT 47 r)
    | cons h' t =>
     simp only [kE]
     rw [ji h126]
     cases yn h' with
     | none => rfl
     | some a =>
      simp only [Option.bind_some, Option.map_some]
      cases zO (t.map yn) <;> simp
theorem pGo_all (p : List UInt8) : pGo (p.length + 1) p [] = yq p := by
 cases p with
 | nil => rfl
 | cons c r =>
  unfold yq
  rw [if_neg (by simp)]
  unfold pGo
  by_cases h47 : c = 47
  ·rw [if_pos h47, pGo_eq (c :: r).length r [] [] (by simp)]
   rw [h47, kQ]
   cases hs : zM 47 r with
   | nil => exact absurd hs (yT 47 r)
   | cons h' t =>
    simp only [kE, if_true, List.map_cons, List.nil_append]
    cases yn h' with
    | none => rfl
    | some a => simp only [Option.bind_some, zO]
  ·rw [if_neg h47, if_pos rfl]
   rw [qK h47]
   cases hs : zM 47 r with
   | nil => exact absurd hs (yT 47 r)
   | cons h' t => simp
open Go.Lib
theorem index_eq (x : UInt8) (l : List UInt8) : index (x :: l) [x] = 0 := by rw [index]; simp [List.isPrefixOf]
theorem index_ne {c x : UInt8} (h : c ≠ x) (l : List UInt8) : index (c :: l) [x] = if index l [x] == -1 then -1 else index l [x] + 1 := by
 have hp : ([x] : List UInt8).isPrefixOf (c :: l) = false := by simp [List.isPrefixOf, Ne.symm h]
 rw [index, hp]; simp
theorem Kr (x : UInt8) : ∀ s : List UInt8, splitK [x] 0 (count s [x]) s = zM x s ∧ (zM x s).length = count s [x] + 1
 | [] => by
  rw [count_miss (by simp [index])]
  exact ⟨rfl, rfl⟩
 | c :: l => by
  obtain ⟨ih, ihl⟩ := Kr x l
  by_cases h : c = x
  ·subst h
   rw [count_cons_eq, kQ, Nat.add_comm 1, List.length_cons, ihl]
   refine ⟨?_, rfl⟩
   rw [← ih]
   unfold splitK
   rw [index_eq]
   simp only [show ((0 : Int) == -1) = false from by decide]
   cases count l [c] <;> rfl
  ·rw [count_cons_ne c x l h, qK h]
   cases hk : count l [x] with
   | zero =>
    rw [hk] at ih ihl
    rw [show splitK [x] 0 0 l = [l] from by unfold splitK; rfl] at ih
    rw [← ih]
    exact ⟨by unfold splitK; rfl, rfl⟩
   | succ k =>
    rw [hk] at ih ihl
    have hm : index l [x] ≠ -1 := fun e => by rw [count_miss e] at hk; cases hk
    have hge := index_ge l [x]
    obtain ⟨j, hj⟩ : ∃ j : Nat, index l [x] = j := ⟨(index l [x]).toNat, by omega⟩
    have hix : index (c :: l) [x] = ((j + 1 : Nat) : Int) := by rw [index_ne h, if_neg (fun e => hm (beq_iff_eq.1 e)), hj]; omega
    have h1 : splitK [x] 0 (k + 1) l = l.take j :: splitK [x] 0 k (l.drop (j + 1)) := by
     rw [splitK, if_neg (fun e => hm (beq_iff_eq.1 e)), hj]; rfl
    rw [h1] at ih
    rw [← ih] at ihl ⊢
    refine ⟨?_, by simpa using ihl⟩
    rw [splitK, if_neg (fun e => by rw [hix] at e; have := beq_iff_eq.1 e; omega), hix]
    rfl
theorem split_texts (x : UInt8) (s : ByteArray) : splitB ⟨#[x]⟩ 0 (countB s ⟨#[x]⟩) s = (zM x s.data.toList).map zf ∧ countB s ⟨#[x]⟩ + 1 = (zM x s.data.toList).length := by
 have hc : countB s ⟨#[x]⟩ = count s.data.toList [x] := rfl
 obtain ⟨h1, h2⟩ := Kr x s.data.toList
 have h3 := splitB_data ⟨#[x]⟩ 0 (countB s ⟨#[x]⟩) s
 rw [hc] at h3 ⊢
 rw [show (⟨#[x]⟩ : ByteArray).data.toList = [x] from rfl, h1] at h3
 refine ⟨?_, h2.symm⟩
 rw [← h3, List.map_map]
 conv => lhs; rw [← List.map_id (splitB ⟨#[x]⟩ 0 (count s.data.toList [x]) s)]
 exact List.map_congr_left (fun a _ => (bn a).symm)
def xt : List UInt8 → Option (List UInt8)
 | [] => none
 | c :: r => if c = 48 then some (126 :: r) else if c = 49 then some (47 :: r) else none
def partR : List (List UInt8) → Option (List UInt8)
 | [] => none
 | h :: t => (zO (t.map xt)).map fun t' => h ++ t'.flatten
theorem J7 : ∀ (n : Nat) (s : List UInt8), s.length ≤ n → yn s = partR (zM 126 s)
 | _, [], _ => rfl
 | 0, c :: r, h => by simp at h
 | n + 1, c :: r, hn => by
  simp only [List.length_cons] at hn
  by_cases hc : c = 126
  ·subst hc
   rw [xU, kQ]
   show _ = (zO ((zM 126 r).map xt)).map fun t' => [] ++ t'.flatten
   cases r with
   | nil => rfl
   | cons d r =>
    simp only [List.length_cons] at hn
    by_cases hd : d = 126
    ·subst hd
     rw [kQ, List.map_cons, show xt [] = none from rfl]
     simp [zO]
    ·have ih := J7 n r (by omega)
     rw [qK hd]
     cases hs : zM 126 r with
     | nil => exact absurd hs (yT 126 r)
     | cons h t =>
      rw [hs] at ih
      simp only [partR] at ih
      simp only [List.map_cons]
      by_cases h1 : d = 48
      ·subst h1
       rw [show xt (48 :: h) = some (126 :: h) from rfl]
       simp only [if_true, zO, ih, Option.map_map]
       congr 1
      ·by_cases h2 : d = 49
       ·subst h2
        rw [show xt (49 :: h) = some (47 :: h) from rfl]
        simp only [if_neg h1, if_true, zO, ih, Option.map_map]
        congr 1
       ·rw [show xt (d :: h) = none from by show (if d = 48 then _ else if d = 49 then _ else none) = none; rw [if_neg h1, if_neg h2]]
        simp [h1, h2, zO]
  ·have ih := J7 n r (by omega)
   rw [ji hc, qK hc, ih]
   cases hs : zM 126 r with
   | nil => exact absurd hs (yT 126 r)
   | cons h t =>
    simp only [partR, Option.map_map]
    congr 1
theorem part_split (s : List UInt8) : yn s = partR (zM 126 s) := J7 s.length s (Nat.le_refl _)
open Go.RowKit
theorem kS (x : ByteArray) : x.data.toList.length = x.size := by simp
def Zv (w : World) : Prop := ∃ m, w.cell? ⟨Tryz.shSplit_ren.g 1, 0, none⟩ = some (.int .i64 m)
theorem Zv.kept0 {w w' : World} (h : Zv w) (k : zc [] w w') : Zv w' := by
 obtain ⟨m, hm⟩ := h
 exact ⟨m, k.cell hm (by simp)⟩
theorem libSplit {w : World} (hm : Zv w) (s : ByteArray) (x : UInt8) (hs : s.size ≤ 1000000) : Calls Tryz.prog 58 #[.string s, .string ⟨#[x]⟩] w fun e w' =>
  e = .returned (.slice (some ⟨w.heap.size, 0, none⟩) (zM x s.data.toList).length (zM x s.data.toList).length) ∧ w' = w.alloc (.cells (zI ((zM x s.data.toList).map zf)).toArray 9) := by
 obtain ⟨m, hm⟩ := hm
 have h := Any.strings_Split { Tryz.shSplit with } (Tryz.shSplit).i9 s ⟨#[x]⟩ m w (by omega) hm (Nat.le_refl 1)
 obtain ⟨h1, h2⟩ := split_texts x s
 rw [h1, h2] at h
 exact h
theorem joinExtra : Builder.Extra Tryz.prog Tryz.shJoin_ren := {
 sizeBuilder := by kernel_rfl
 liesBuilder := by kernel_rfl
 t5 := Tryz.underlying5
 a5 := Tryz.isAgg5
 z5 := Tryz.sizeOf5
 v5 := Tryz.zeroValue5
 infoByte := by kernel_rfl
 cellsByte := by kernel_rfl
 sizeByte := by kernel_rfl
 neB5 := by decide }
theorem join_none (l : List (List UInt8)) : Lib.join l [] = l.flatten := by
 cases l with
 | nil => rfl
 | cons a t =>
  rw [Lib.join_cons]
  unfold Lib.joinTail
  simp
theorem libJoin {w : World} {g : Nat} {l : List (List UInt8)} (h : w.heap[g]? = some (.cells (zI (l.map zf)).toArray 9 (0, 0))) (hl : l.length ≤ 1000000) (hf : l.flatten.length ≤ 100000000) :
  Calls Tryz.prog 89 #[.slice (some ⟨g, 0, none⟩) l.length l.length, .string ⟨#[]⟩] w fun e w' => e = .returned (.string (zf l.flatten)) ∧ zc [] w w' := by
 have hm : (l.map zf).map (·.data.toList) = l := by rw [List.map_map]; exact (List.map_congr_left (fun a _ => zo a)).trans (List.map_id l)
 have hj : Lib.join ((l.map zf).map (·.data.toList)) (⟨#[]⟩ : ByteArray).data.toList = l.flatten := by rw [hm]; exact join_none l
 have c := Any.strings_Join Tryz.shJoin joinExtra g 0 l.length (l.map zf) ⟨#[]⟩ w (fun j x hx => by
   refine zb (o := 0 + j) h ?_
   show ((zI (l.map zf)).toArray)[0 + j]? = _
   rw [List.getElem?_toArray, Nat.zero_add]
   unfold zI
   rw [List.getElem?_map, hx]; rfl)
  (lt_of_block h) (by rw [List.length_map]; omega) (by rw [List.length_map]; omega) (by rw [hj]; omega)
 rw [hj, List.length_map] at c
 exact of_below c
theorem ZU (a c : UInt8) (r : List UInt8) : List.isPrefixOf [a] (c :: r) = decide (c = a) := by
 show (a == c && true) = _
 by_cases h : c = a
 ·subst h; simp
 ·rw [decide_eq_false h, Bool.and_true, beq_eq_false_iff_ne]; exact fun e => h e.symm
theorem str_tail (a c : UInt8) (r : List UInt8) : (⟨#[a]⟩ : ByteArray) ++ (zf (c :: r)).extract 1 (zf (c :: r)).size = zf (a :: r) := by
 refine kA ?_
 rw [zo, ByteArray.data_append, Array.toList_append, jJ, zo]
 rfl
def qY (s : List UInt8) (e : Ending) : Prop := match yn s with | none => e = .returned (.tuple #[.string ⟨#[]⟩, .bool false]) | some t => e = .returned (.tuple #[.string (zf t), .bool true])
theorem Qq {s : List UInt8} (h : yn s = none) : qY s (.returned (.tuple #[.string ⟨#[]⟩, .bool false])) := by unfold qY; rw [h]
theorem KL {s t : List UInt8} (h : yn s = some t) : qY s (.returned (.tuple #[.string (zf t), .bool true])) := by unfold qY; rw [h]
theorem Qp (h : List UInt8) (t : List (List UInt8)) : partR (h :: t) = (zO (t.map xt)).map fun t' => h ++ t'.flatten := rfl
theorem tilde_cases (p : List UInt8) : (∃ r, p = 48 :: r ∧ xt p = some (126 :: r)) ∨ (∃ r, p = 49 :: r ∧ xt p = some (47 :: r)) ∨ (xt p = none ∧ List.isPrefixOf [48] p = false ∧ List.isPrefixOf [49] p = false) := by
 cases p with
 | nil => exact .inr (.inr ⟨rfl, rfl, rfl⟩)
 | cons c r =>
  by_cases h1 : c = 48
  ·subst h1; exact .inl ⟨r, rfl, rfl⟩
  ·by_cases h2 : c = 49
   ·subst h2; exact .inr (.inl ⟨r, rfl, rfl⟩)
   ·refine .inr (.inr ⟨?_, by rw [ZU, decide_eq_false h1], by rw [ZU, decide_eq_false h2]⟩)
    show (if c = 48 then _ else if c = 49 then _ else none) = none
    rw [if_neg h1, if_neg h2]
theorem km {α : Type} : ∀ (l m : List (Option α)), zO (l ++ m) = (zO l).bind fun a => (zO m).map (a ++ ·)
 | [], m => by cases h : zO m <;> simp [zO, h]
 | none :: l, m => rfl
 | some a :: l, m => by
  rw [List.cons_append]
  simp only [zO, km l m]
  cases zO l with
  | none => rfl
  | some b =>
   cases zO m <;> rfl
theorem Kf (x : UInt8) (s : List UInt8) : (zM x s).flatten.length + (zM x s).length ≤ s.length + 1 := by
 cases hs : zM x s with
 | nil => simp
 | cons h t =>
  have h1 := congrArg List.length (jU x s h t hs)
  rw [List.length_append] at h1
  have h2 : ∀ t : List (List UInt8), (t.flatMap (fun p => x :: p)).length = t.flatten.length + t.length := by
   intro t
   induction t with
   | nil => rfl
   | cons a t ih => simp only [List.flatMap_cons, List.length_append, List.length_cons, List.flatten_cons, ih]; omega
  rw [h2] at h1
  simp only [List.flatten_cons, List.length_append, List.length_cons]
  omega
theorem turn_next {t u : List (List UInt8)} {j : Nat} (hj : j < t.length) (h : zO ((t.take j).map xt) = some u) {q : List UInt8} (hq : xt t[j] = some q) : zO ((t.take (j + 1)).map xt) = some (u ++ [q]) := by
 rw [List.take_succ_eq_append_getElem hj, List.map_append, km, h]
 simp [zO, hq]
theorem turn_none {t u : List (List UInt8)} {j : Nat} (hj : j < t.length) (h : zO ((t.take j).map xt) = some u) (hq : xt t[j] = none) : zO (t.map xt) = none := by
 conv => lhs; rw [← List.take_append_drop j t, List.map_append, km, h, List.drop_eq_getElem_cons hj, List.map_cons, hq]
 rfl
theorem tilde_len {p q : List UInt8} (h : xt p = some q) : q.length = p.length := by
 cases p with
 | nil => cases h
 | cons c r =>
  have h' : (if c = 48 then some (126 :: r) else if c = 49 then some (47 :: r) else none) = some q := h
  split at h'
  ·injection h' with h'; subst h'; rfl
  ·split at h'
   ·injection h' with h'; subst h'; rfl
   ·cases h'
theorem Ql : ∀ {t u : List (List UInt8)}, zO (t.map xt) = some u → u.length = t.length ∧ u.flatten.length = t.flatten.length
 | [], u, h => by
  simp only [List.map_nil, zO, Option.some.injEq] at h
  subst h; exact ⟨rfl, rfl⟩
 | p :: t, u, h => by
  rw [List.map_cons] at h
  cases hp : xt p with
  | none => rw [hp] at h; cases h
  | some q =>
   rw [hp] at h
   simp only [zO, Option.map_eq_some_iff] at h
   obtain ⟨v, hv, rfl⟩ := h
   obtain ⟨h1, h2⟩ := Ql hv
   simp only [List.length_cons, List.flatten_cons, List.length_append, h1, h2, tilde_len hp]
   exact ⟨trivial, trivial⟩
section
variable {w : World}
theorem ptrPart_any (hm : Zv w) (s : ByteArray) (hs : s.size ≤ 900000) :
  Calls Tryz.prog 59 #[.string s] w fun e w' => qY s.data.toList e ∧ zc [] w w' := by
 have CS := qI (libSplit hm s 126 (by omega))
 have hps := part_split s.data.toList
 have hfl := Kf 126 s.data.toList
 rw [kS] at hfl
 cases hsp : zM 126 s.data.toList with
 | nil => exact absurd hsp (yT 126 _)
 | cons h t =>
  rw [hsp] at CS hfl hps
  have Gv := qI hps
  have HG : Hid (w.heap.size = w.heap.size) := qI rfl
  obtain ⟨W1, Gi⟩ : ∃ W1, Hid (W1 = w.alloc (.cells (zI ((h :: t).map zf)).toArray 9)) := ⟨_, qI rfl⟩
  have Gw : Hid (zc [] w W1) := qI (by rw [Gi.o]; exact (zc.refl [] w).alloc _)
  have Ja : Hid (W1.heap[w.heap.size]? = some (.cells (zI ((h :: t).map zf)).toArray 9 (0, 0))) := qI (by rw [Gi.o]; exact zp rfl)
  have Gh : Hid (w.heap.size < W1.heap.size) := qI (by rw [Gi.o]; simp)
  obtain ⟨n, hn⟩ : ∃ n, (h :: t).length = n := ⟨_, rfl⟩
  rw [hn] at CS
  have HN : Hid (n = t.length + 1) := qI (by rw [← hn]; rfl)
  have Gm : Hid ((h :: t).flatten.length + n ≤ 900001) := qI (by rw [hn] at hfl; omega)
  have hnI : (n : Int) ≤ 900001 := by have := Gm.o; omega
  clear hm hps hsp hn hfl
  go_enter Tryz.func59, Tryz.ntmps59
  go_wp2_with fail
  refine CS.o.mono ?_
  rintro e w1 ⟨rfl, rfl⟩
  rw [← Gi.o]
  go_wp2_with fail
  go_loopw [5] (fun i wr => ∃ (j : Nat) (u : List (List UInt8)), i = .int .i64 ((j : Int) + 1) ∧ j ≤ t.length ∧ Hid (zO ((t.take j).map xt) = some u) ∧ wr.heap[w.heap.size]? = some (.cells (zI ((h :: (u ++ t.drop j)).map zf)).toArray 9 (0, 0)) ∧ zc [] w wr) (fun i _ => n - (intOf i).toNat)
  case atStart => exact ⟨0, [], rfl, Nat.zero_le _, qI rfl, Ja.o, Gw.o⟩
  case round =>
   obtain ⟨j, u, rfl, hj, hu, hb, hkw⟩ := hrel
   have HB := qI hb
   have Gc := qI hkw
   have Ju := qI (Ql hu.o)
   have HU : Hid (u.length = j) := qI (by rw [Ju.o.1, List.length_take]; omega)
   have HJ := qI hj
   by_cases hlt : j < t.length
   ·have hltI : (j : Int) + 1 < n := by have := HN.o; omega
    have hjI : (j : Int) ≤ 900001 := by omega
    have hgt : (zI ((h :: (u ++ t.drop j)).map zf))[j + 1]? = some (.string (zf t[j])) := by
     unfold zI
     rw [List.getElem?_map, List.getElem?_map, List.getElem?_cons_succ, List.getElem?_append_right (by rw [HU.o]; exact Nat.le_refl _), HU.o, Nat.sub_self, List.getElem?_drop, Nat.add_zero, List.getElem?_eq_getElem hlt]; rfl
    have q0 := zb (o := j + 1) hb (by rw [List.getElem?_toArray]; exact hgt)
    have q1 := zg (o := j + 1) hb
    have Gj : Hid (∀ q, (zI ((h :: (u ++ t.drop j)).map zf)).toArray.setIfInBounds (j + 1) (.string (zf q)) = (zI ((h :: ((u ++ [q]) ++ t.drop (j + 1))).map zf)).toArray) := qI (fun q => by
     rw [List.setIfInBounds_toArray]
     unfold zI
     congr 1
     rw [List.map_cons, List.map_cons, List.set_cons_succ, List.drop_eq_getElem_cons hlt, List.map_append, List.map_append]
     rw [List.set_append_right _ _ (by rw [List.length_map, List.length_map, HU.o]; exact Nat.le_refl _)]
     rw [List.length_map, List.length_map, HU.o, Nat.sub_self]
     simp only [List.map_cons, List.set_cons_zero, List.map_append, List.map_nil, List.append_assoc, List.cons_append, List.nil_append])
    have Gg : Hid ((zf t[j]).size ≤ 900001) := qI (by
     rw [zG]
     have h1 := Gm.o
     have h2 : t[j].length ≤ t.flatten.length := by
      have := List.sublist_flatten_of_mem (List.getElem_mem hlt)
      exact this.length_le
     simp only [List.flatten_cons, List.length_append] at h1
     omega)
    have Gb := qI (fun q hq => turn_next hlt hu.o (q := q) hq)
    have Gn := qI (fun hq => turn_none hlt hu.o hq)
    have CP := qI (fun (p : ByteArray) w' => xB (zf t[j]) p w')
    rw [zo] at CP
    have htc := tilde_cases t[j]
    have HJ : Hid (j < t.length) := qI hlt
    clear hb hkw hu hj hgt
    revert CP htc q0 Gg Gb Gn
    generalize t[j] = p
    intro q0 Gg Gb Gn CP htc
    rcases htc with ⟨r, rfl, htf⟩ | ⟨r, rfl, htf⟩ | ⟨htf, n1, n2⟩
    ·have HS := qI (str_tail 126 48 r)
     have HQ := qI (Gb.o _ htf)
     have hsz := Gg.o
     have h1z : 1 ≤ (zf (48 :: r)).size := by rw [zG]; simp
     have CP0 := qI (CP.o ⟨#[48]⟩)
     rw [show List.isPrefixOf (⟨#[48]⟩ : ByteArray).data.toList (48 :: r) = true from by rw [show (⟨#[48]⟩ : ByteArray).data.toList = [48] from rfl, ZU]; rfl] at CP0
     have Gx := qI (fun (w' : World) (h9 : w'.heap[w.heap.size]? = some (.cells (zI ((h :: (u ++ t.drop j)).map zf)).toArray 9 (0, 0))) => ze h9 (Gj.o (126 :: r)))
     clear htf CP
     revert HS q0 hsz h1z CP0
     generalize zf (48 :: r) = T
     intro q0 HS hsz h1z CP0
     have hz1 : ¬ 9223372036854775807 < 1 + (T.size - 1) := by omega
     have h1I : (1 : Int) ≤ T.size := by omega
     go_wp2_with fail
     refine (CP0.o _).mono ?_
     rintro e w2 ⟨rfl, rfl⟩
     go_wp2_with fail
     case roundEnd =>
      rw [HS.o]
      exact ⟨⟨j + 1, u ++ [126 :: r], by go_num, by have := HJ.o; omega, HQ.o, Gx.o _ HB.o, Gc.o.setCell (.inr (Nat.le_refl _)) _⟩, by have := HN.o; have := HJ.o; simp [intOf]; omega⟩
    ·have HS := qI (str_tail 47 49 r)
     have HQ := qI (Gb.o _ htf)
     have hsz := Gg.o
     have h1z : 1 ≤ (zf (49 :: r)).size := by rw [zG]; simp
     have CP0 := qI (CP.o ⟨#[48]⟩)
     rw [show List.isPrefixOf (⟨#[48]⟩ : ByteArray).data.toList (49 :: r) = false from by rw [show (⟨#[48]⟩ : ByteArray).data.toList = [48] from rfl, ZU]; rfl] at CP0
     have CP1 := qI (CP.o ⟨#[49]⟩)
     rw [show List.isPrefixOf (⟨#[49]⟩ : ByteArray).data.toList (49 :: r) = true from by rw [show (⟨#[49]⟩ : ByteArray).data.toList = [49] from rfl, ZU]; rfl] at CP1
     have Gx := qI (fun (w' : World) (h9 : w'.heap[w.heap.size]? = some (.cells (zI ((h :: (u ++ t.drop j)).map zf)).toArray 9 (0, 0))) => ze h9 (Gj.o (47 :: r)))
     clear htf CP
     revert HS q0 hsz h1z CP0 CP1
     generalize zf (49 :: r) = T
     intro q0 HS hsz h1z CP0 CP1
     have hz1 : ¬ 9223372036854775807 < 1 + (T.size - 1) := by omega
     have h1I : (1 : Int) ≤ T.size := by omega
     go_wp2_with fail
     refine (CP0.o _).mono ?_
     rintro e w2 ⟨rfl, rfl⟩
     go_wp2_with fail
     refine (CP1.o _).mono ?_
     rintro e w2 ⟨rfl, rfl⟩
     go_wp2_with fail
     case roundEnd =>
      rw [HS.o]
      exact ⟨⟨j + 1, u ++ [47 :: r], by go_num, by have := HJ.o; omega, HQ.o, Gx.o _ HB.o, Gc.o.setCell (.inr (Nat.le_refl _)) _⟩, by have := HN.o; have := HJ.o; simp [intOf]; omega⟩
    ·have Jv := qI (Gn.o htf)
     have CP0 := qI (CP.o ⟨#[48]⟩)
     have CP1 := qI (CP.o ⟨#[49]⟩)
     rw [show (⟨#[48]⟩ : ByteArray).data.toList = [48] from rfl, n1] at CP0
     rw [show (⟨#[49]⟩ : ByteArray).data.toList = [49] from rfl, n2] at CP1
     clear htf CP n1 n2
     revert q0 CP0 CP1
     generalize zf p = T
     intro q0 CP0 CP1
     go_wp2_with fail
     refine (CP0.o _).mono ?_
     rintro e w2 ⟨rfl, rfl⟩
     go_wp2_with fail
     refine (CP1.o _).mono ?_
     rintro e w2 ⟨rfl, rfl⟩
     go_wp2_with fail
     go_ret2
     exact ⟨Qq (by rw [Gv.o, Qp, Jv.o]; rfl), Gc.o⟩
   ·obtain rfl : j = t.length := by omega
    have hu' := hu.o
    rw [List.take_length] at hu'
    have hltI : ¬ (t.length : Int) + 1 < n := by have := HN.o; omega
    rw [List.drop_length, List.append_nil] at hb
    have CJ := qI (libJoin (l := h :: u) hb (by have h1 := HU.o; have h2 := Gm.o; have h3 := HN.o; simp only [List.length_cons]; omega) (by
     have h1 := Gm.o
     have h2 := (Ql hu').2
     simp only [List.flatten_cons, List.length_append] at h1 ⊢
     omega))
    have hl : (h :: u).length = n := by rw [HN.o, ← HU.o]; rfl
    rw [hl] at CJ
    have Jw := qI hu'
    clear hu hu' hb hkw hl
    go_wp2_with fail
    refine CJ.o.mono ?_
    rintro e w2 ⟨rfl, hk2⟩
    go_wp2_with fail
    go_ret2
    exact ⟨KL (by rw [Gv.o, Qp, Jw.o]; rfl), Gc.o.then hk2⟩
end
def xT (p : List UInt8) (e : Ending) (w' : World) : Prop := match yq p with
 | none => e = .returned (.tuple #[.slice none 0 0, .int .i64 60])
 | some l => ∃ a c, e = .returned (.tuple #[.slice a l.length c, .int .i64 0]) ∧ Slc w' 1 (.slice a l.length c) l.length (zI (l.map zf))
theorem Zo {p : List UInt8} {w' : World} (h : yq p = none) : xT p (.returned (.tuple #[.slice none 0 0, .int .i64 60])) w' := by unfold xT; rw [h]
theorem vZ {p : List UInt8} {l : List (List UInt8)} {w' : World} {a : Option Addr} {c : Nat} (h : yq p = some l) (hs : Slc w' 1 (.slice a l.length c) l.length (zI (l.map zf))) : xT p (.returned (.tuple #[.slice a l.length c, .int .i64 0])) w' := by unfold xT; rw [h]; exact ⟨a, c, rfl, hs⟩
theorem allSome_len {α β : Type} {f : α → Option β} {l : List α} {m : List β} (h : zO (l.map f) = some m) : m.length = l.length := (vI h).1
theorem some_next {t u : List (List UInt8)} {f : List UInt8 → Option (List UInt8)} {j : Nat} (hj : j < t.length) (h : zO ((t.take j).map f) = some u) {q : List UInt8} (hq : f t[j] = some q) : zO ((t.take (j + 1)).map f) = some (u ++ [q]) := by
 rw [List.take_succ_eq_append_getElem hj, List.map_append, km, h]
 simp [zO, hq]
theorem some_none {t u : List (List UInt8)} {f : List UInt8 → Option (List UInt8)} {j : Nat} (hj : j < t.length) (h : zO ((t.take j).map f) = some u) (hq : f t[j] = none) : zO (t.map f) = none := by
 conv => lhs; rw [← List.take_append_drop j t, List.map_append, km, h, List.drop_eq_getElem_cons hj, List.map_cons, hq]
 rfl
section
variable {w : World}
theorem ptrParts_any (hm : Zv w) (s : ByteArray) (hs : s.size ≤ 900000) :
  Calls Tryz.prog 27 #[.string s] w fun e w' => xT s.data.toList e w' ∧ zc [] w w' := by
 by_cases h0 : s = ⟨#[]⟩
 ·subst h0
  have HP : Hid (yq (⟨#[]⟩ : ByteArray).data.toList = some []) := qI rfl
  go_enter Tryz.func27, Tryz.ntmps27
  go_wp2_with fail
  go_ret2
  exact ⟨vZ HP.o (jl _ _), zc.refl _ _⟩
 obtain ⟨g1, g2⟩ := qf h0
 have CS := qI (libSplit hm s 47 (by omega))
 have hfl := Kf 47 s.data.toList
 rw [kS] at hfl
 have hne : s.data.toList ≠ [] := fun e => h0 (kA e)
 cases hsp : zM 47 s.data.toList with
 | nil => exact absurd hsp (yT 47 _)
 | cons h t =>
  have hps : yq s.data.toList = if h = [] then zO (t.map yn) else none := by
   unfold yq
   rw [if_neg hne, hsp]
  rw [hsp] at CS hfl
  have Gv := qI hps
  have HM := qI hm
  obtain ⟨W1, Gi⟩ : ∃ W1, Hid (W1 = w.alloc (.cells (zI ((h :: t).map zf)).toArray 9)) := ⟨_, qI rfl⟩
  have Gw : Hid (zc [] w W1) := qI (by rw [Gi.o]; exact (zc.refl [] w).alloc _)
  have Ja : Hid (W1.heap[w.heap.size]? = some (.cells (zI ((h :: t).map zf)).toArray 9 (0, 0))) := qI (by rw [Gi.o]; exact zp rfl)
  obtain ⟨n, hn⟩ : ∃ n, t.length = n := ⟨_, rfl⟩
  rw [List.length_cons, hn] at CS
  have HN := qI hn
  have Gm : Hid (h.length + t.flatten.length + n ≤ 900000) := qI (by simp only [List.flatten_cons, List.length_append, List.length_cons, hn] at hfl; omega)
  have hnI : (n : Int) ≤ 900001 := by have := Gm.o; omega
  have c0 := zb (o := 0) (v := .string (zf h)) Ja.o rfl
  clear hm hps hsp hn hfl h0 hne
  by_cases hh : h = []
  rotate_left
  ·have Gk : Hid (yq s.data.toList = none) := qI (by rw [Gv.o, if_neg hh])
   have hz : zf h ≠ ⟨#[]⟩ := fun e => hh (by have h9 := congrArg (fun s : ByteArray => s.data.toList) e; simpa only [zo] using h9)
   obtain ⟨k1, k2⟩ := qf hz
   clear hh hz
   revert c0 k1 k2
   generalize zf h = T
   intro c0 k1 k2
   go_enter Tryz.func27, Tryz.ntmps27
   go_wp2_with fail
   refine CS.o.mono ?_
   rintro e w1 ⟨rfl, rfl⟩
   rw [← Gi.o]
   go_wp2_with fail
   go_ret2
   exact ⟨Zo Gk.o, Gw.o⟩
  subst hh
  rw [show zf [] = ⟨#[]⟩ from rfl] at c0
  have Jd : Hid (yq s.data.toList = zO (t.map yn)) := qI (by rw [Gv.o, if_pos rfl])
  by_cases hn0 : n = 0
  ·subst hn0
   have ht : t = [] := List.eq_nil_of_length_eq_zero HN.o
   subst ht
   have Jx : Hid (yq s.data.toList = some []) := qI Jd.o
   go_enter Tryz.func27, Tryz.ntmps27
   go_wp2_with fail
   refine CS.o.mono ?_
   rintro e w1 ⟨rfl, rfl⟩
   rw [← Gi.o]
   go_wp2_with fail
   go_loopw [21] (fun i wr => i = .int .i64 0 ∧ wr = W1) (fun _ _ => 0)
   case atStart => exact ⟨rfl, rfl⟩
   case round =>
    obtain ⟨rfl, rfl⟩ := hrel
    go_wp2_with fail
    go_ret2
    exact ⟨vZ (l := []) Jx.o ⟨rfl, .inr (.inl ⟨rfl, _, _, rfl, by decide⟩)⟩, Gw.o⟩
  have hnp : (0 : Int) < n := by omega
  have Md : Hid (0 < n) := qI (by omega)
  clear hn0
  go_enter Tryz.func27, Tryz.ntmps27
  go_wp2_with fail
  refine CS.o.mono ?_
  rintro e w1 ⟨rfl, rfl⟩
  rw [← Gi.o]
  go_wp2_with fail
  go_loopw [21] (fun i wr => ∃ (j : Nat) (u : List (List UInt8)), i = .int .i64 (j : Int) ∧ j ≤ t.length ∧ Hid (zO ((t.take j).map yn) = some u) ∧ wr.heap[w.heap.size]? = some (.cells (zI (([] :: (u ++ t.drop j)).map zf)).toArray 9 (0, 0)) ∧ zc [] w wr) (fun i _ => n - (intOf i).toNat)
  case atStart => exact ⟨0, [], rfl, Nat.zero_le _, qI rfl, Ja.o, Gw.o⟩
  case round =>
   obtain ⟨j, u, rfl, hj, hu, hb, hkw⟩ := hrel
   have HB := qI hb
   have Gc := qI hkw
   have HU : Hid (u.length = j) := qI (by rw [allSome_len hu.o, List.length_take]; omega)
   by_cases hlt : j < t.length
   ·have hltI : (j : Int) < n := by have := HN.o; omega
    have hgt : (zI (([] :: (u ++ t.drop j)).map zf))[1 + j]? = some (.string (zf t[j])) := by
     unfold zI
     rw [Nat.add_comm, List.getElem?_map, List.getElem?_map, List.getElem?_cons_succ, List.getElem?_append_right (by rw [HU.o]; exact Nat.le_refl _), HU.o, Nat.sub_self, List.getElem?_drop, Nat.add_zero, List.getElem?_eq_getElem hlt]; rfl
    have q0 := zb (o := 1 + j) hb (by rw [List.getElem?_toArray]; exact hgt)
    have Gj : Hid (∀ q, (zI (([] :: (u ++ t.drop j)).map zf)).toArray.setIfInBounds (1 + j) (.string (zf q)) = (zI (([] :: ((u ++ [q]) ++ t.drop (j + 1))).map zf)).toArray) := qI (fun q => by
     rw [List.setIfInBounds_toArray]
     unfold zI
     congr 1
     rw [Nat.add_comm, List.map_cons, List.map_cons, List.set_cons_succ, List.drop_eq_getElem_cons hlt, List.map_append, List.map_append]
     rw [List.set_append_right _ _ (by rw [List.length_map, List.length_map, HU.o]; exact Nat.le_refl _)]
     rw [List.length_map, List.length_map, HU.o, Nat.sub_self]
     simp only [List.map_cons, List.set_cons_zero, List.map_append, List.map_nil, List.append_assoc, List.cons_append, List.nil_append])
    have Gg : Hid ((zf t[j]).size ≤ 900000) := qI (by
     rw [zG]
     have h1 := Gm.o
     have h2 : t[j].length ≤ t.flatten.length := (List.sublist_flatten_of_mem (List.getElem_mem hlt)).length_le
     simp only [List.length_nil] at h1
     omega)
    have Gb := qI (fun q hq => some_next hlt hu.o (q := q) hq)
    have Gn := qI (fun hq => some_none hlt hu.o hq)
    have CP := qI (ptrPart_any (HM.o.kept0 hkw) (zf t[j]) Gg.o)
    rw [zo] at CP
    have HJ : Hid (j < t.length) := qI hlt
    clear hb hkw hu hj hgt
    revert CP q0 Gg Gb Gn
    generalize t[j] = p
    intro q0 Gg Gb Gn CP
    clear hlt
    unfold qY at CP
    cases hup : yn p with
    | none =>
     have Gk := qI (Jd.o.trans (Gn.o hup))
     rw [hup] at CP
     clear hup
     go_wp2_with fail
     refine CP.o.mono ?_
     rintro e w2 ⟨rfl, hk2⟩
     go_wp2_with fail
     go_ret2
     exact ⟨Zo Gk.o, Gc.o.then hk2⟩
    | some q =>
     have HQ := qI (Gb.o _ hup)
     rw [hup] at CP
     clear hup
     go_wp2_with fail
     refine CP.o.mono ?_
     rintro e w2 ⟨rfl, hk2⟩
     have Jq := qI (hk2.heap HB.o (by simp))
     have Je := qI (Gc.o.then hk2)
     have q1 := zg (o := 1 + j) Jq.o
     have q2 := hk2.cell q0 (by simp)
     clear hk2 q0
     go_wp2_with fail
     case roundEnd =>
      exact ⟨⟨j + 1, u ++ [q], by go_num, by have := HJ.o; omega, HQ.o, ze Jq.o (Gj.o q), Je.o.setCell (.inr (Nat.le_refl _)) _⟩, by have := HN.o; have := HJ.o; simp [intOf]; omega⟩
   ·obtain rfl : j = t.length := by omega
    have hu' := hu.o
    rw [List.take_length] at hu'
    rw [List.drop_length, List.append_nil] at hb
    have hltI : ¬ (t.length : Int) < n := by have := HN.o; omega
    have Jf := qI (Jd.o.trans hu')
    have hn : u.length = n := by rw [HU.o, HN.o]
    have Jy : Hid (Slc wr 1 (.slice (some ⟨w.heap.size, 1, none⟩) n n) n (zI (u.map zf))) := qI ⟨by unfold zI; rw [List.length_map, List.length_map, hn, Nat.mul_one], .inr (.inr ⟨_, _, _, rfl, Nat.le_refl _, by have := Gm.o; simp only [maxLen]; omega, ⟨fun j x hx => zb (o := 1 + j) hb (by
     rw [List.getElem?_toArray, Nat.add_comm]
     exact hx), lt_of_block hb⟩⟩)⟩
    have Jz := qI hn
    clear hu hu' hb hkw hn
    go_wp2_with fail
    go_ret2
    refine ⟨?_, Gc.o⟩
    have h9 := Jy.o
    rw [← Jz.o] at h9 ⊢
    exact vZ Jf.o h9
end
theorem pgo_end {f : Nat} {out : List (List UInt8)} (h : 0 < f) : pGo f [] out = some out := by
 cases f with
 | zero => omega
 | succ f => rfl
theorem pgo_slash (f : Nat) (r : List UInt8) (out : List (List UInt8)) : pGo (f + 1) (47 :: r) out = pGo f r (out ++ [[]]) := by
 conv => lhs; unfold pGo
 rw [if_pos rfl]
theorem pgo_none {c : UInt8} (h : c ≠ 47) (f : Nat) (r : List UInt8) : pGo (f + 1) (c :: r) [] = none := by
 unfold pGo
 rw [if_neg h, if_pos rfl]
theorem pgo_plain {c : UInt8} (h : c ≠ 47) (h2 : c ≠ 126) (f : Nat) (r : List UInt8) (o : List (List UInt8)) (x : List UInt8) : pGo (f + 1) (c :: r) (o ++ [x]) = pGo f r (o ++ [x ++ [c]]) := by
 conv => lhs; unfold pGo
 rw [if_neg h, if_neg (by simp), if_neg h2, kD]
theorem bj (f : Nat) (r : List UInt8) (o : List (List UInt8)) (x : List UInt8) : pGo (f + 1) (126 :: r) (o ++ [x]) = match r with | [] => none | d :: r => if d = 48 then pGo f r (o ++ [x ++ [126]]) else if d = 49 then pGo f r (o ++ [x ++ [47]]) else none := by
 conv => lhs; unfold pGo
 rw [if_neg (by decide), if_neg (by simp), if_pos rfl]
 cases r with
 | nil => rfl
 | cons d r => simp only [kD]
theorem bl {S : ByteArray} {i : Nat} {c : UInt8} {t : List UInt8} (h : S.data.toList.drop i = c :: t) : ∃ h : i < S.size, S[i]'h = c := by
 have hl : i < S.data.toList.length := by
  rcases Nat.lt_or_ge i S.data.toList.length with g | g
  ·exact g
  ·rw [List.drop_eq_nil_of_le g] at h; cases h
 have hi : i < S.size := by simpa using hl
 refine ⟨hi, ?_⟩
 rw [List.drop_eq_getElem_cons hl] at h
 exact (List.cons.inj h).1
theorem jH {α : Type} {l : List α} {k : Nat} {c : α} {r : List α} (h : l.drop k = c :: r) : l.drop (k + 1) = r := by
 rw [← List.drop_drop, h]; rfl
theorem J8 (x : List UInt8) (a : UInt8) : zf x ++ (⟨#[a]⟩ : ByteArray) = zf (x ++ [a]) := by
 refine kA ?_
 rw [zo, ByteArray.data_append, Array.toList_append, zo]
theorem str_sub {S : ByteArray} {k : Nat} {c : UInt8} {r : List UInt8} (x : List UInt8) (h : S.data.toList.drop k = c :: r) : zf x ++ S.extract k (k + 1) = zf (x ++ [c]) := by
 obtain ⟨hk, -⟩ := bl h
 refine kA ?_
 rw [zo, ByteArray.data_append, Array.toList_append, zo, vV S k (k + 1) (by omega), List.drop_take, h, show k + 1 - k = 1 by omega]
 rfl
def xg (p : List UInt8) (e : Ending) (w' : World) : Prop := match yq p with
 | none => e = .returned (.tuple #[.slice none 0 0, .bool false])
 | some l => ∃ a c, e = .returned (.tuple #[.slice a l.length c, .bool true]) ∧ Slc w' 1 (.slice a l.length c) l.length (zI (l.map zf))
theorem jr {p : List UInt8} {w' : World} (h : yq p = none) : xg p (.returned (.tuple #[.slice none 0 0, .bool false])) w' := by unfold xg; rw [h]
theorem zaa {p : List UInt8} {l : List (List UInt8)} {w' : World} {a : Option Addr} {c : Nat} (h : yq p = some l) (hs : Slc w' 1 (.slice a l.length c) l.length (zI (l.map zf))) : xg p (.returned (.tuple #[.slice a l.length c, .bool true])) w' := by unfold xg; rw [h]; exact ⟨a, c, rfl, hs⟩
structure PG (S : ByteArray) (k n : Nat) (acc : List (List UInt8)) : Prop where
 go : ∃ f, (S.data.toList.drop k).length < f ∧ pGo f (S.data.toList.drop k) acc = yq S.data.toList
 len : acc.length = n
 few : n ≤ k
 short : ∀ y, y ∈ acc → y.length ≤ k
theorem PG.bad {S : ByteArray} {k n : Nat} {acc : List (List UInt8)} (h : PG S k n acc) (hx : ∀ f, (S.data.toList.drop k).length < f + 1 → pGo (f + 1) (S.data.toList.drop k) acc = none) : yq S.data.toList = none := by
 obtain ⟨f, h1, h2⟩ := h.go
 match f, h1, h2 with
 | f + 1, h1, h2 => rw [← h2, hx f h1]
theorem PG.next {S : ByteArray} {k n j m : Nat} {acc acc' : List (List UInt8)} (h : PG S k n acc) (hj : 1 ≤ j) (hx : ∀ f, (S.data.toList.drop k).length < f + 1 → pGo (f + 1) (S.data.toList.drop k) acc = pGo f (S.data.toList.drop (k + j)) acc') (hlt : k < S.data.toList.length) (hm : acc'.length = m) (h3 : m ≤ k + j) (h4 : ∀ y, y ∈ acc' → y.length ≤ k + j) : PG S (k + j) m acc' := by
 refine ⟨?_, hm, h3, h4⟩
 obtain ⟨f, h1, h2⟩ := h.go
 match f, h1, h2 with
 | f + 1, h1, h2 =>
  refine ⟨f, ?_, by rw [← h2, hx f h1]⟩
  rw [List.length_drop] at h1 ⊢
  omega
theorem strs_at {l : List (List UInt8)} {x : List UInt8} {m : Nat} (h : l.length = m) : (zI ((l ++ [x]).map zf))[m]? = some (.string (zf x)) := by
 unfold zI
 rw [List.getElem?_map, List.getElem?_map, List.getElem?_append_right (by omega), h, Nat.sub_self]; rfl
theorem strs_put {l : List (List UInt8)} {x y : List UInt8} {m : Nat} (h : l.length = m) : (zI ((l ++ [x]).map zf)).set m (.string (zf y)) = zI ((l ++ [y]).map zf) := by
 unfold zI
 rw [List.map_append, List.map_append, List.set_append_right _ _ (by rw [List.length_map, List.length_map, h]; exact Nat.le_refl _), List.length_map, List.length_map, h, Nat.sub_self]
 simp
section
variable {w : World}
theorem refParts_any (s : ByteArray) (hs : s.size ≤ 900000) :
  Calls Tryz.prog 28 #[.string s] w fun e w' => xg s.data.toList e w' ∧ zc [] w w' := by
 have hsI : (s.size : Int) ≤ 900000 := by omega
 have Jr := qI hs
 have HL : Hid (s.data.toList.length = s.size) := qI (kS s)
 clear hs
 go_enter Tryz.func28, Tryz.ntmps28
 go_wp2_with fail
 go_loopw [4, 5] (fun o i wr => ∃ (k n : Nat) (acc : List (List UInt8)) (a1 : Option Addr) (c1 : Nat), i = .int .i64 k ∧ k ≤ s.size ∧ o = .slice a1 n c1 ∧ PG s k n acc ∧ wr.ownsRow w.heap.size 9 1 (.slice a1 n c1) n (zI (acc.map zf)) ∧ zc [] w wr) (fun _ i _ => s.size - (intOf i).toNat)
 case atStart => exact ⟨0, 0, [], none, 0, rfl, Nat.zero_le _, rfl, ⟨⟨_, Nat.lt_succ_self _, by rw [List.drop_zero]; exact pGo_all _⟩, rfl, Nat.le_refl _, fun y h => nomatch h⟩, World.ownsRow_nil _ _ _ _, zc.refl _ _⟩
 case round =>
  obtain ⟨k, n, acc, a1, c1, rfl, hk, rfl, hpg, hown, hkw⟩ := hrel
  have Ge := qI hpg
  have Gd := qI hown
  have Gc := qI hkw
  have HK := qI hk
  cases hd : s.data.toList.drop k with
  | nil =>
   have hge : ¬ (k : Int) < s.size := by
    have h9 := congrArg List.length hd
    rw [List.length_drop, HL.o] at h9
    simp only [List.length_nil] at h9
    omega
   have HE : Hid (yq s.data.toList = some acc) := qI (by
    obtain ⟨f, h1, h2⟩ := hpg.go
    rw [hd] at h2 h1
    rw [← h2, pgo_end (by omega)])
   clear hpg hown hkw hd hk
   go_wp2_with fail
   go_ret2
   refine ⟨?_, Gc.o⟩
   have h9 := Slc.of_row Gd.o
   rw [← Ge.o.len] at h9 ⊢
   exact zaa HE.o h9
  | cons c r =>
   obtain ⟨hlt, hc⟩ := bl hd
   have hltI : (k : Int) < s.size := by omega
   have HD := qI hd
   have Gh := qI hlt
   have Js : Hid (k < s.data.toList.length) := qI (by rw [HL.o]; exact hlt)
   have hkI : (k : Int) ≤ 900000 := by omega
   clear hpg hown hkw hd hk
   by_cases h47 : c = 47
   ·subst h47
    have Jg := qI (y7 wr [.string ⟨#[]⟩] 1 1 9 wr.heap.size rfl rfl (by decide))
    have Jh := qI (zk Gd.o ((zc.refl [] wr).alloc (.cells #[.string ⟨#[]⟩] 9)) (by simp))
    have Gb := qI (Ge.o.next (j := 1) (m := n + 1) (acc' := acc ++ [[]]) (by omega) (fun f _ => by rw [HD.o, pgo_slash, jH HD.o]) Js.o (by rw [List.length_append, Ge.o.len]; rfl) (by have := Ge.o.few; omega) (fun y hy => by
     rcases List.mem_append.1 hy with h | h
     ·have := Ge.o.short y h; omega
     ·simp at h; subst h; simp))
    have Gx : Hid (zI ((acc ++ [[]]).map zf) = zI (acc.map zf) ++ [.string ⟨#[]⟩]) := qI (by unfold zI; rw [List.map_append, List.map_append]; rfl)
    have Jt := qI Ge.o.few
    have Ma := qI Gd.o.lt
    go_wp2_with (at_builtin; refine yj qG Jh.o Jg.o (by intro u hu; simp at hu; subst hu; rfl) (by have h1 := Jt.o; have h2 := Gh.o; have h3 := Jr.o; simp only [maxLen]; omega) (by have h1 := Jt.o; have h2 := Gh.o; have h3 := Jr.o; omega) (by have := Gc.o.size; simp; omega) rfl _ _ rfl rfl rfl ?_; intro v' w' hown hk2 _ hbk; have Gy := qI hown; have Je := qI hk2; clear hown hk2 hbk)
    case roundEnd =>
     have h9 := Gy.o
     rw [← Gx.o] at h9
     obtain ⟨a', c', rfl, -, -⟩ := (Slc.of_row h9).form
     exact ⟨⟨k + 1, n + 1, _, a', c', by go_num, by have := Gh.o; omega, rfl, Gb.o, h9, (Gc.o.alloc _).trans Je.o (fun i hi => .inr (Ma.o i (Option.mem_toList.1 hi)).1)⟩, by have := Gh.o; simp [intOf]; omega⟩
   have h47' : c.toNat ≠ 47 := fun q => h47 (UInt8.toNat_inj.1 q)
   obtain ⟨f47, -⟩ := zy (a := (c.toNat : Int)) (b := 47) (by omega)
   rcases List.eq_nil_or_concat acc with rfl | ⟨l, x, rfl⟩
   ·have hn0 : n = 0 := Ge.o.len.symm
    subst hn0
    have Gk := qI (Ge.o.bad (fun f _ => by rw [HD.o]; exact pgo_none h47 f r))
    clear h47 h47'
    go_wp2_with fail
    go_ret2
    exact ⟨jr Gk.o, Gc.o⟩
   rw [List.concat_eq_append] at Ge Gd
   obtain ⟨m, rfl⟩ : ∃ m, n = m + 1 := ⟨l.length, by have := Ge.o.len; rw [List.length_append] at this; exact this.symm⟩
   have HM : Hid (l.length = m) := qI (by have := Ge.o.len; rw [List.length_append] at this; simpa using this)
   obtain ⟨g, hg⟩ : ∃ g, a1 = some ⟨g, 0, none⟩ := by
    rcases Gd.o.2 with ⟨-, h0⟩ | ⟨g, cap, cur, e, -⟩
    ·omega
    ·injection e with e1 e2 e3
     exact ⟨g, e1⟩
   subst hg
   have q0 := Gd.o.cellAt m (by omega)
   rw [strs_at HM.o] at q0
   have q1 := Gd.o.frozenAt m
   have Ji := qI (Gd.o.lt g rfl).1
   have hmI : (m : Int) ≤ 900000 := by have := Ge.o.few; omega
   obtain ⟨fm, -⟩ := zy (a := (m : Int) + 1) (b := 0) (by omega)
   have Jb : Hid (x.length ≤ k) := qI (Ge.o.short x (by simp))
   have Gp : Hid ((zf x).size ≤ 900000) := qI (by rw [zG]; have := Jb.o; omega)
   have Gq : Hid (∀ y, (wr.setCell ⟨g, m, none⟩ (.string (zf y))).ownsRow w.heap.size 9 1 (.slice (some ⟨g, 0, none⟩) (m + 1) c1) (m + 1) (zI ((l ++ [y]).map zf))) := qI (fun y => by
    have h9 := (Gd.o.stored m (.string (zf y))).1
    rw [strs_put HM.o] at h9
    exact h9)
   have Gr : Hid (∀ (j : Nat) (y : List UInt8), 1 ≤ j → y.length ≤ k + j → (∀ f, pGo (f + 1) (c :: r) (l ++ [x]) = pGo f (s.data.toList.drop (k + j)) (l ++ [y])) → PG s (k + j) (m + 1) (l ++ [y])) := qI (fun j y hj hy hx => Ge.o.next hj (fun f _ => by rw [HD.o]; exact hx f) Js.o (by rw [List.length_append, HM.o]; rfl) (by have := Ge.o.few; omega) (fun z hz => by
    rcases List.mem_append.1 hz with h | h
    ·have := Ge.o.short z (by simp [h]); omega
    ·simp at h; subst h; exact hy))
   by_cases h126 : c = 126
   ·subst h126
    clear f47 h47 h47'
    cases r with
    | nil =>
     have Gk := qI (Ge.o.bad (fun f _ => by rw [HD.o, bj]))
     have hend : ¬ (k : Int) + 1 < s.size := by
      have h9 := congrArg List.length HD.o
      rw [List.length_drop, HL.o] at h9
      simp only [List.length_cons, List.length_nil] at h9
      omega
     clear q0 q1
     go_wp2_with fail
     go_ret2
     exact ⟨jr Gk.o, Gc.o⟩
    | cons d r =>
     have Jj := qI (jH HD.o)
     obtain ⟨hlt1, hc1⟩ := bl Jj.o
     have hlt1I : (k : Int) + 1 < s.size := by omega
     by_cases h48 : d = 48
     ·subst h48
      have Gb := qI (Gr.o 2 (x ++ [126]) (by omega) (by have := Jb.o; simp; omega) (fun f => by rw [bj]; show (if 48 = 48 then _ else _) = _; rw [show s.data.toList.drop (k + 2) = r from jH Jj.o]; rfl))
      have Ga := qI (Gq.o (x ++ [126]))
      rw [← J8 x 126] at Ga
      have hxs := Gp.o
      revert Ga q0 hxs
      generalize zf x = T
      intro q0 Ga hxs
      have hz1 : ¬ 9223372036854775807 < T.size + 1 := by omega
      go_wp2_with fail
      case roundEnd =>
       exact ⟨⟨k + 2, m + 1, _, _, _, by go_num, by omega, rfl, Gb.o, Ga.o, Gc.o.setCell (.inr Ji.o) _⟩, by simp [intOf]; omega⟩
     by_cases h49 : d = 49
     ·subst h49
      have Gb := qI (Gr.o 2 (x ++ [47]) (by omega) (by have := Jb.o; simp; omega) (fun f => by rw [bj]; show (if 49 = 48 then _ else _) = _; rw [show s.data.toList.drop (k + 2) = r from jH Jj.o]; rfl))
      have Ga := qI (Gq.o (x ++ [47]))
      rw [← J8 x 47] at Ga
      have hxs := Gp.o
      revert Ga q0 hxs
      generalize zf x = T
      intro q0 Ga hxs
      have hz1 : ¬ 9223372036854775807 < T.size + 1 := by omega
      go_wp2_with fail
      case roundEnd =>
       exact ⟨⟨k + 2, m + 1, _, _, _, by go_num, by omega, rfl, Gb.o, Ga.o, Gc.o.setCell (.inr Ji.o) _⟩, by simp [intOf]; omega⟩
     have h48' : d.toNat ≠ 48 := fun q => h48 (UInt8.toNat_inj.1 q)
     have h49' : d.toNat ≠ 49 := fun q => h49 (UInt8.toNat_inj.1 q)
     obtain ⟨f48, -⟩ := zy (a := (d.toNat : Int)) (b := 48) (by omega)
     obtain ⟨f49, -⟩ := zy (a := (d.toNat : Int)) (b := 49) (by omega)
     have Gk := qI (Ge.o.bad (fun f _ => by rw [HD.o, bj]; show (if d = 48 then _ else if d = 49 then _ else none) = none; rw [if_neg h48, if_neg h49]))
     clear q0 q1 h48 h49 h48' h49'
     go_wp2_with fail
     go_ret2
     exact ⟨jr Gk.o, Gc.o⟩
   have h126' : c.toNat ≠ 126 := fun q => h126 (UInt8.toNat_inj.1 q)
   obtain ⟨f126, -⟩ := zy (a := (c.toNat : Int)) (b := 126) (by omega)
   have Gb := qI (Gr.o 1 (x ++ [c]) (Nat.le_refl _) (by have := Jb.o; simp; omega) (fun f => by rw [pgo_plain h47 h126, jH HD.o]))
   have Ga := qI (Gq.o (x ++ [c]))
   have Mb := qI (str_sub x HD.o)
   rw [← Mb.o] at Ga
   have hxs := Gp.o
   clear h47 h47' h126 h126'
   revert Ga q0 hxs
   generalize zf x = T
   intro q0 Ga hxs
   have hz1 : ¬ 9223372036854775807 < T.size + 1 := by omega
   have hw1 : IntKind.i64.wrap (m : Int) = m := by rw [IntKind.wrap_i64]; omega
   have hw2 : IntKind.i64.wrap ((k : Int) + 1) = (k : Int) + 1 := by rw [IntKind.wrap_i64]; omega
   have hz2 : ¬ 9223372036854775807 < T.size + (min (k + 1) s.size - k) := by omega
   have hm0 : (0 : Int) ≤ m := by omega
   have hm1 : (m : Int) < (m : Int) + 1 := by omega
   have hk0 : (0 : Int) ≤ (k : Int) + 1 := by omega
   have hk1 : (k : Int) + 1 ≤ s.size := by omega
   have hk2 : (k : Int) ≤ (k : Int) + 1 := by omega
   have hk3 : ((k : Int) + 1).toNat = k + 1 := by omega
   have Me : Hid (∀ w' : World, zc [] wr w' → w'.cell? ⟨g, m, none⟩ = some (.string T)) := qI (fun w' k' => k'.cell q0 (by simp))
   have Mf : Hid (∀ w' : World, w' = wr.drew → w'.frozen? ⟨g, m, none⟩ = false) := qI (fun w' e => by subst e; exact q1)
   go_wp2_with fail
   refine zj (n := 18) (fun w' : World => w' = wr.drew) 17 (by kernel_rfl) (by kernel_rfl) ?_
   change zS _ _ _ _ _ _ _ _ _ wr.drew
   have hSS : (fun w' : World => w' = wr.drew) wr.drew := rfl
   refine zu ?_
   intro O R hO hR
   have hQp : ∀ c a (d : Nat) v w, R (.panic c) (a.put (some d) v) w → R (.panic c) a w := by subst hR; exact fun _ _ _ _ _ h => h
   refine za (i := 0) (v := ?_) hO rfl rfl (by kernel_rfl) (by kernel_rfl) (by kernel_rfl) (by kernel_rfl) hQp (Or.inl ⟨by kernel_rfl, fun w hSw => ?_⟩) hSS ?_
   rotate_left
   ·subst hSw; go_simp; try with_reducible rfl
   try simp only [zA,zN,zB,zC,zD]
   refine za (i := 1) (v := ?_) hO rfl rfl (by kernel_rfl) (by kernel_rfl) (by kernel_rfl) (by kernel_rfl) hQp (Or.inl ⟨by kernel_rfl, fun w hSw => ?_⟩) hSS ?_
   rotate_left
   ·subst hSw; go_simp; try with_reducible rfl
   try simp only [zA,zN,zB,zC,zD]
   refine za (i := 2) (v := ?_) hO rfl rfl (by kernel_rfl) (by kernel_rfl) (by kernel_rfl) (by kernel_rfl) hQp (Or.inl ⟨by kernel_rfl, fun w hSw => ?_⟩) hSS ?_
   rotate_left
   ·subst hSw; go_simp; try with_reducible rfl
   try simp only [zA,zN,zB,zC,zD]
   refine za (i := 3) (v := ?_) hO rfl rfl (by kernel_rfl) (by kernel_rfl) (by kernel_rfl) (by kernel_rfl) hQp (Or.inl ⟨by kernel_rfl, fun w hSw => ?_⟩) hSS ?_
   rotate_left
   ·subst hSw; go_simp; try with_reducible rfl
   try simp only [zA,zN,zB,zC,zD]
   refine za (i := 4) (v := ?_) hO rfl rfl (by kernel_rfl) (by kernel_rfl) (by kernel_rfl) (by kernel_rfl) hQp (Or.inl ⟨by kernel_rfl, fun w hSw => ?_⟩) hSS ?_
   rotate_left
   ·subst hSw; go_simp; try with_reducible rfl
   try simp only [zA,zN,zB,zC,zD]
   refine za (i := 5) (v := ?_) hO rfl rfl (by kernel_rfl) (by kernel_rfl) (by kernel_rfl) (by kernel_rfl) hQp (Or.inl ⟨by kernel_rfl, fun w hSw => ?_⟩) hSS ?_
   rotate_left
   ·subst hSw; go_simp; try with_reducible rfl
   try simp only [zA,zN,zB,zC,zD]
   refine za (i := 6) (v := ?_) hO rfl rfl (by kernel_rfl) (by kernel_rfl) (by kernel_rfl) (by kernel_rfl) hQp (Or.inl ⟨by kernel_rfl, fun w hSw => ?_⟩) hSS ?_
   rotate_left
   ·subst hSw; go_simp; try with_reducible rfl
   try simp only [zA,zN,zB,zC,zD]
   refine za (i := 7) (v := ?_) hO rfl rfl (by kernel_rfl) (by kernel_rfl) (by kernel_rfl) (by kernel_rfl) hQp (Or.inl ⟨by kernel_rfl, fun w hSw => ?_⟩) hSS ?_
   rotate_left
   ·subst hSw; go_simp; try with_reducible rfl
   try simp only [zA,zN,zB,zC,zD]
   refine za (i := 8) (v := ?_) hO rfl rfl (by kernel_rfl) (by kernel_rfl) (by kernel_rfl) (by kernel_rfl) hQp (Or.inl ⟨by kernel_rfl, fun w hSw => ?_⟩) hSS ?_
   rotate_left
   ·subst hSw; go_simp; try with_reducible rfl
   try simp only [zA,zN,zB,zC,zD]
   refine za (i := 9) (v := ?_) hO rfl rfl (by kernel_rfl) (by kernel_rfl) (by kernel_rfl) (by kernel_rfl) hQp (Or.inl ⟨by kernel_rfl, fun w hSw => ?_⟩) hSS ?_
   rotate_left
   ·subst hSw; go_simp; try with_reducible rfl
   try simp only [zA,zN,zB,zC,zD]
   refine za (i := 10) (v := ?_) hO rfl rfl (by kernel_rfl) (by kernel_rfl) (by kernel_rfl) (by kernel_rfl) hQp (Or.inl ⟨by kernel_rfl, fun w hSw => ?_⟩) hSS ?_
   rotate_left
   ·subst hSw; go_simp; try with_reducible rfl
   try simp only [zA,zN,zB,zC,zD]
   refine za (i := 11) (v := ?_) hO rfl rfl (by kernel_rfl) (by kernel_rfl) (by kernel_rfl) (by kernel_rfl) hQp (Or.inl ⟨by kernel_rfl, fun w hSw => ?_⟩) hSS ?_
   rotate_left
   ·subst hSw; go_simp; try with_reducible rfl
   try simp only [zA,zN,zB,zC,zD]
   refine za (i := 12) (v := ?_) hO rfl rfl (by kernel_rfl) (by kernel_rfl) (by kernel_rfl) (by kernel_rfl) hQp (Or.inl ⟨by kernel_rfl, fun w hSw => ?_⟩) hSS ?_
   rotate_left
   ·subst hSw; go_simp; try with_reducible rfl
   try simp only [zA,zN,zB,zC,zD]
   refine za (i := 13) (v := ?_) hO rfl rfl (by kernel_rfl) (by kernel_rfl) (by kernel_rfl) (by kernel_rfl) hQp (Or.inl ⟨by kernel_rfl, fun w hSw => ?_⟩) hSS ?_
   rotate_left
   ·subst hSw; go_simp; try with_reducible rfl
   try simp only [zA,zN,zB,zC,zD]
   refine za (i := 14) (v := ?_) hO rfl rfl (by kernel_rfl) (by kernel_rfl) (by kernel_rfl) (by kernel_rfl) hQp (Or.inl ⟨by kernel_rfl, fun w hSw => ?_⟩) hSS ?_
   rotate_left
   ·subst hSw; go_simp; try with_reducible rfl
   try simp only [zA,zN,zB,zC,zD]
   refine za (i := 15) (v := ?_) hO rfl rfl (by kernel_rfl) (by kernel_rfl) (by kernel_rfl) (by kernel_rfl) hQp (Or.inl ⟨by kernel_rfl, fun w hSw => ?_⟩) hSS ?_
   rotate_left
   ·subst hSw; go_simp; try with_reducible rfl
   try simp only [zA,zN,zB,zC,zD]
   refine za (i := 16) (v := ?_) hO rfl rfl (by kernel_rfl) (by kernel_rfl) (by kernel_rfl) (by kernel_rfl) hQp (Or.inl ⟨by kernel_rfl, fun w hSw => ?_⟩) hSS ?_
   rotate_left
   ·subst hSw; go_simp; try with_reducible rfl
   try simp only [zA,zN,zB,zC,zD]
   refine zd (i := 17) hO rfl (by kernel_rfl) (by kernel_rfl) (fun K hK => ?_)
   go_simp
   refine hK _ _ (.inl rfl) ?_
   clear hK K
   try simp only [zA,zN,zB,zC,zD]
   refine zt hO (by kernel_rfl) ?_ _
   subst hR
   try clear hQp hO O
   have Mc := qI (Gc.o.drew.setCell (p := ⟨g, m, none⟩) (.inr Ji.o) (.string (T ++ s.extract k (k + 1))))
   have Jk : Hid ((wr.drew.setCell ⟨g, m, none⟩ (.string (T ++ s.extract k (k + 1)))).ownsRow w.heap.size 9 1 (.slice (some ⟨g, 0, none⟩) (m + 1) c1) (m + 1) (zI ((l ++ [x ++ [c]]).map zf))) := qI Ga.o.drew
   go_wp2_with fail
   case roundEnd =>
    exact ⟨⟨k + 1, m + 1, _, _, _, by go_num, by omega, rfl, Gb.o, Jk.o, Mc.o⟩, by simp [intOf]; omega⟩
end
theorem ja {w : World} {v : Value} {n : Nat} {l : List ByteArray} (h : Slc w 1 v n (zI l)) : l.length = n := by
 have h1 := h.1
 unfold zI at h1
 rw [List.length_map, Nat.mul_one] at h1
 exact h1
theorem qW {w : World} {a : Option Addr} {n c : Nat} {l : List ByteArray} (h : Slc w 1 (.slice a n c) n (zI l)) {k : Nat} (hk : k < l.length) : ∃ g o, a = some ⟨g, o, none⟩ ∧ w.cell? ⟨g, o + k, none⟩ = some (.string l[k]) := by
 have hl := ja h
 rcases h.2 with ⟨-, h0⟩ | ⟨h0, -⟩ | ⟨g, o, cap, e, -, -, hr⟩
 ·omega
 ·omega
 ·simp only [Value.slice.injEq] at e
  exact ⟨g, o, e.1, hr.cells k _ (by unfold zI; rw [List.getElem?_map, List.getElem?_eq_getElem hk]; rfl)⟩
theorem take_eq {α : Type} {a b : List α} {k : Nat} (h : a.take k = b.take k) (ha : k < a.length) (hb : k < b.length) (he : a[k] = b[k]) : a.take (k + 1) = b.take (k + 1) := by
 rw [List.take_succ_eq_append_getElem ha, List.take_succ_eq_append_getElem hb, h, he]
theorem QC (l : List (List UInt8)) : (l.map zf).map (·.data.toList) = l := by
 rw [List.map_map]
 conv => rhs; rw [← List.map_id l]
 exact List.map_congr_left fun x _ => by rw [Function.comp_apply, zo]; rfl
theorem escB_le (c : UInt8) : (xM c).length ≤ 2 := by unfold xM; split; (· simp); split <;> simp
theorem Qb : ∀ s : List UInt8, (yo s).length ≤ 2 * s.length
 | [] => by decide
 | c :: r => by
  have h1 := escB_le c
  have h2 := Qb r
  show (xM c ++ yo r).length ≤ 2 * (r.length + 1)
  rw [List.length_append]
  omega
theorem ptr_ge : ∀ l : List (List UInt8), l.length ≤ (zH l).length
 | [] => by simp
 | x :: l => by
  have h := ptr_ge l
  show l.length + 1 ≤ (47 :: yo x ++ zH l).length
  rw [List.length_append, List.length_cons]
  omega
theorem xT.some_ {p : List UInt8} {l : List (List UInt8)} {e : Ending} {w' : World} (h : xT p e w') (hl : yq p = some l) : ∃ a c, e = .returned (.tuple #[.slice a l.length c, .int .i64 0]) ∧ Slc w' 1 (.slice a l.length c) l.length (zI (l.map zf)) := by
 unfold xT at h; rw [hl] at h; exact h
theorem xT.none_ {p : List UInt8} {e : Ending} {w' : World} (h : xT p e w') (hl : yq p = none) : e = .returned (.tuple #[.slice none 0 0, .int .i64 60]) := by
 unfold xT at h; rw [hl] at h; exact h
theorem xg.some_ {p : List UInt8} {l : List (List UInt8)} {e : Ending} {w' : World} (h : xg p e w') (hl : yq p = some l) : ∃ a c, e = .returned (.tuple #[.slice a l.length c, .bool true]) ∧ Slc w' 1 (.slice a l.length c) l.length (zI (l.map zf)) := by
 unfold xg at h; rw [hl] at h; exact h
theorem xg.none_ {p : List UInt8} {e : Ending} {w' : World} (h : xg p e w') (hl : yq p = none) : e = .returned (.tuple #[.slice none 0 0, .bool false]) := by
 unfold xg at h; rw [hl] at h; exact h
section
variable {w : World} {a b : Option Addr} {n m c d : Nat} {la lb : List ByteArray}
theorem KE (ha : Slc w 1 (.slice a n c) n (zI la)) (hb : Slc w 1 (.slice b m d) m (zI lb)) (hn : n ≤ 1000000) (hm : m ≤ 1000000) :
  Calls Tryz.prog 30 #[.slice a n c, .slice b m d] w fun e w' => e = .returned (.bool (decide (la = lb))) ∧ zc [] w w' := by
 have HA := qI ha
 have HB := qI hb
 have Gt := qI (ja ha)
 have Jl := qI (ja hb)
 have hnI : (n : Int) ≤ 1000000 := by omega
 have hmI : (m : Int) ≤ 1000000 := by omega
 clear ha hb
 by_cases hnm : n = m
 rotate_left
 ·have HE : Hid (decide (la = lb) = false) := qI (decide_eq_false (fun e => hnm (by rw [← Gt.o, ← Jl.o, e])))
  obtain ⟨f1, f2⟩ := zy (a := (n : Int)) (b := (m : Int)) (by omega)
  clear hnm hn hm
  go_enter Tryz.func30, Tryz.ntmps30
  go_wp2_with fail
  go_ret
  rw [HE.o]
  exact ⟨rfl, zc.refl _ _⟩
 subst hnm
 clear hn hm
 go_enter Tryz.func30, Tryz.ntmps30
 go_wp2_with fail
 go_loopw [5] (fun i wr => ∃ k : Nat, i = .int .i64 k ∧ k ≤ n ∧ Hid (la.take k = lb.take k) ∧ zc [] w wr) (fun i _ => n - (intOf i).toNat)
 case atStart => exact ⟨0, rfl, Nat.zero_le _, qI rfl, zc.refl _ _⟩
 case round =>
  obtain ⟨k, rfl, hk, ht, hkw⟩ := hrel
  have Gc := qI hkw
  by_cases hlt : k < n
  ·have hltI : (k : Int) < n := by omega
   have hka : k < la.length := by rw [Gt.o]; exact hlt
   have hkb : k < lb.length := by rw [Jl.o]; exact hlt
   obtain ⟨ga, oa, rfl, qa⟩ := qW (HA.o.kept0 hkw) hka
   obtain ⟨gb, ob, rfl, qb⟩ := qW (HB.o.kept0 hkw) hkb
   have ea := zv qa
   have eb := zv qb
   have Gb := qI (take_eq ht.o hka hkb)
   have Jm : Hid (la[k] ≠ lb[k] → decide (la = lb) = false) := qI (fun h => decide_eq_false (fun e => h (by subst e; rfl)))
   have Gh := qI hlt
   clear hk ht hkw qa qb
   revert ea eb Gb Jm
   generalize la[k] = x
   generalize lb[k] = y
   intro ea eb Gb Jm
   clear hlt hka hkb
   by_cases hxy : x = y
   ·obtain ⟨f1, f2⟩ := qd hxy
    have Gf := qI (Gb.o hxy)
    clear hxy
    go_wp2_with fail
    refine zR wr (by kernel_rfl) (by kernel_rfl) (zc.refl _ _) ?_
    repeat go_big_quiet_step (fail)
    refine wpQuiet_nil ?_
    intro w2 hk2
    clear ea eb
    go_wp2_with fail
    case roundEnd => exact ⟨⟨k + 1, by go_num, by have := Gh.o; omega, Gf, Gc.o.then hk2⟩, by have := Gh.o; simp [intOf]; omega⟩
   ·obtain ⟨f1, f2⟩ := xW hxy
    have Gf := qI (Jm.o hxy)
    clear hxy
    go_wp2_with fail
    refine zR wr (by kernel_rfl) (by kernel_rfl) (zc.refl _ _) ?_
    repeat go_big_quiet_step (fail)
    refine wpQuiet_nil ?_
    intro w2 hk2
    clear ea eb
    go_wp2_with fail
    go_ret
    rw [Gf.o]
    exact ⟨rfl, Gc.o.then hk2⟩
  ·obtain rfl : k = n := by omega
   have hltI : ¬ (k : Int) < k := by omega
   have HE : Hid (decide (la = lb) = true) := qI (decide_eq_true (by
    have h9 := ht.o
    rw [List.take_of_length_le (by rw [Gt.o]; exact Nat.le_refl _), List.take_of_length_le (by rw [Jl.o]; exact Nat.le_refl _)] at h9
    exact h9))
   clear hlt ht hkw hk
   go_wp2_with fail
   go_ret
   rw [HE.o]
   exact ⟨rfl, Gc.o⟩
def yX (l : List ByteArray) : List UInt8 := zH (l.map (·.data.toList))
theorem QS (l : List ByteArray) (k : Nat) : (zH ((l.take k).map (·.data.toList))).length ≤ (yX l).length := by
 unfold yX
 conv => rhs; rw [← List.take_append_drop k l]
 unfold zH
 rw [List.map_append, List.flatMap_append, List.length_append]
 omega
theorem vO {l : List ByteArray} {k : Nat} (h : k < l.length) : zH ((l.take (k + 1)).map (·.data.toList)) = zH ((l.take k).map (·.data.toList)) ++ 47 :: yo (l[k].data.toList) := by
 rw [List.take_succ_eq_append_getElem h]
 unfold zH
 rw [List.map_append, List.flatMap_append]
 simp
theorem esc_take (s : List UInt8) (j : Nat) (h : j < s.length) : yo (s.take (j + 1)) = yo (s.take j) ++ xM s[j] := by
 unfold yo
 rw [List.take_succ_eq_append_getElem h, List.flatMap_append]
 simp
theorem esc_len (s : List UInt8) (j : Nat) : (yo (s.take j)).length ≤ (yo s).length := by
 unfold yo
 conv => rhs; rw [← List.take_append_drop j s, List.flatMap_append, List.length_append]
 omega
theorem str_app2 (x : List UInt8) (a b : UInt8) : zf x ++ (⟨#[a, b]⟩ : ByteArray) = zf (x ++ [a, b]) := by
 refine kA ?_
 rw [zo, ByteArray.data_append, Array.toList_append, zo]
theorem esc_ge (s : List UInt8) : s.length ≤ (yo s).length := by
 induction s with
 | nil => exact Nat.le_refl _
 | cons c r ih =>
  have h : 1 ≤ (xM c).length := by unfold xM; split; (· simp); split <;> simp
  show r.length + 1 ≤ (xM c ++ yo r).length
  rw [List.length_append]
  omega
def qc (l : List ByteArray) (k : Nat) (x : List UInt8) (j : Nat) : List UInt8 := zH ((l.take k).map (·.data.toList)) ++ 47 :: yo (x.take j)
theorem ptrAt_len {l : List ByteArray} {k : Nat} (h : k < l.length) (j : Nat) : (qc l k l[k].data.toList j).length ≤ (yX l).length := by
 have h1 := QS l (k + 1)
 rw [vO h] at h1
 have h2 := esc_len l[k].data.toList j
 unfold qc
 simp only [List.length_append, List.length_cons] at h1 ⊢
 omega
theorem ptrAt_next {l : List ByteArray} {k : Nat} {x : List UInt8} {j : Nat} (h : j < x.length) : qc l k x (j + 1) = qc l k x j ++ xM x[j] := by
 unfold qc
 rw [esc_take x j h]
 simp
theorem QH (ha : Slc w 1 (.slice a n c) n (zI la)) (hn : n ≤ 1000000) (hB : (yX la).length ≤ 1000000) :
  Calls Tryz.prog 29 #[.slice a n c] w fun e w' => e = .returned (.string (zf (yX la))) ∧ zc [] w w' := by
 have HA := qI ha
 have Gt := qI (ja ha)
 have Jn := qI hB
 have hnI : (n : Int) ≤ 1000000 := by omega
 clear ha hn hB
 go_enter Tryz.func29, Tryz.ntmps29
 go_wp2_with fail
 go_loopw [3, 4] (fun o i wr => ∃ k : Nat, i = .int .i64 k ∧ k ≤ n ∧ o = .string (zf (zH ((la.take k).map (·.data.toList)))) ∧ zc [] w wr) (fun _ i _ => n - (intOf i).toNat)
 case atStart => exact ⟨0, rfl, Nat.zero_le _, rfl, zc.refl _ _⟩
 case round =>
  obtain ⟨k, rfl, hk, rfl, hkw⟩ := hrel
  have Gc := qI hkw
  by_cases hlt : k < n
  rotate_left
  ·obtain rfl : k = n := by omega
   have HE : Hid (zH ((la.take k).map (·.data.toList)) = yX la) := qI (by
    unfold yX
    rw [List.take_of_length_le (by rw [Gt.o]; exact Nat.le_refl _)])
   have hltI : ¬ (k : Int) < k := by omega
   clear hlt hkw hk
   have Jo : Hid (zf (zH ((la.take k).map (·.data.toList))) = zf (yX la)) := qI (by rw [HE.o])
   revert Jo
   generalize zf (zH ((la.take k).map (·.data.toList))) = T
   intro Jo
   go_wp2_with fail
   go_ret
   rw [← Jo.o]
   exact ⟨rfl, Gc.o⟩
  have hltI : (k : Int) < n := by omega
  have hka : k < la.length := by rw [Gt.o]; exact hlt
  obtain ⟨g, o, rfl, q0⟩ := qW (HA.o.kept0 hkw) hka
  have HQ : Hid (∀ w', zc [] wr w' → w'.cell? ⟨g, o + k, none⟩ = some (.string la[k])) := qI (fun w' k' => k'.cell q0 (by simp))
  have Gh := qI hlt
  have Gg := qI (ptrAt_len hka)
  have hp0 := QS la k
  have Gs := qI (vO hka)
  have Gp : Hid (la[k].size ≤ 1000000) := qI (by
   have h1 := Gg.o la[k].data.toList.length
   have h2 := esc_ge la[k].data.toList
   unfold qc at h1
   rw [List.take_length] at h1
   simp only [List.length_append, List.length_cons] at h1
   rw [kS] at h2
   have := Jn.o
   omega)
  clear hkw hlt hk q0
  revert HQ Gg Gs Gp
  generalize la[k] = X
  intro HQ Gg Gs Gp
  clear hka
  have Jp : Hid (zf (zH ((la.take k).map (·.data.toList))) ++ ⟨#[47]⟩ = zf (qc la k X.data.toList 0)) := qI (by rw [J8]; rfl)
  have hT0 : (zf (zH ((la.take k).map (·.data.toList)))).size ≤ 1000000 := by rw [zG]; have := Jn.o; omega
  clear hp0
  revert Jp hT0
  generalize zf (zH ((la.take k).map (·.data.toList))) = T0
  intro Jp hT0
  have hz0 : ¬ 9223372036854775807 < T0.size + 1 := by omega
  have hXI : (X.size : Int) ≤ 1000000 := by have := Gp.o; omega
  go_wp2_with fail
  rw [Jp.o]
  clear hz0 hT0
  go_loopw [3, 5] (fun o5 i wq => ∃ j : Nat, i = .int .i64 j ∧ j ≤ X.size ∧ o5 = .string (zf (qc la k X.data.toList j)) ∧ zc [] wr wq) (fun _ i _ => X.size - (intOf i).toNat)
  case atStart => exact ⟨0, rfl, Nat.zero_le _, rfl, zc.refl _ _⟩
  case round =>
   obtain ⟨j, rfl, hj, rfl, hkq⟩ := hrel
   have Jc := qI hkq
   have qX := HQ.o _ hkq
   by_cases hjl : j < X.size
   rotate_left
   ·obtain rfl : j = X.size := by omega
    have hjI : ¬ (X.size : Int) < X.size := by omega
    have HE : Hid (qc la k X.data.toList X.size = zH ((la.take (k + 1)).map (·.data.toList))) := qI (by
     rw [Gs.o]
     unfold qc
     rw [show X.data.toList.take X.size = X.data.toList from List.take_of_length_le (by rw [kS]; exact Nat.le_refl _)])
    clear hjl hj hkq
    rw [HE.o]
    go_wp2_with fail
    case roundEnd => exact ⟨⟨k + 1, by go_num, by have := Gh.o; omega, rfl, Gc.o.then Jc.o⟩, by have := Gh.o; simp [intOf]; omega⟩
   have hjI : (j : Int) < X.size := by omega
   have hjx : j < X.data.toList.length := by rw [kS]; exact hjl
   obtain ⟨c, r, hd⟩ : ∃ c r, X.data.toList.drop j = c :: r := ⟨_, _, List.drop_eq_getElem_cons hjx⟩
   obtain ⟨hlt', hc⟩ := bl hd
   have hxj : X.data.toList[j] = c := by
    have h9 := hd
    rw [List.drop_eq_getElem_cons hjx] at h9
    exact (List.cons.inj h9).1
   have Gb := qI (ptrAt_next (l := la) (k := k) hjx)
   rw [hxj] at Gb
   have hTs : (zf (qc la k X.data.toList j)).size ≤ 1000000 := by rw [zG]; have h1 := Gg.o j; have h2 := Jn.o; omega
   have Gl := qI (str_sub (qc la k X.data.toList j) hd)
   have Gz := qI (fun a b => str_app2 (qc la k X.data.toList j) a b)
   have Gu := qI hjl
   have hj6 : (j : Int) ≤ 1000000 := by omega
   clear hj hkq hjx hd hxj hjl
   by_cases h126 : c = 126
   ·subst h126
    have Gf : Hid (zf (qc la k X.data.toList j) ++ ⟨#[126, 48]⟩ = zf (qc la k X.data.toList (j + 1))) := qI (by rw [Gb.o, Gz.o]; rfl)
    clear Gl Gz Gb
    revert Gf hTs
    generalize zf (qc la k X.data.toList j) = T
    intro hTs Gf
    have hz : ¬ 9223372036854775807 < T.size + 2 := by omega
    go_wp2_with fail
    case roundEnd =>
     rw [Gf.o]
     exact ⟨⟨j + 1, by go_num, by have := Gu.o; omega, rfl, Jc.o⟩, by have := Gu.o; simp [intOf]; omega⟩
   by_cases h47 : c = 47
   ·subst h47
    have Gf : Hid (zf (qc la k X.data.toList j) ++ ⟨#[126, 49]⟩ = zf (qc la k X.data.toList (j + 1))) := qI (by rw [Gb.o, Gz.o]; rfl)
    clear Gl Gz Gb h126
    revert Gf hTs
    generalize zf (qc la k X.data.toList j) = T
    intro hTs Gf
    have hz : ¬ 9223372036854775807 < T.size + 2 := by omega
    go_wp2_with fail
    case roundEnd =>
     rw [Gf.o]
     exact ⟨⟨j + 1, by go_num, by have := Gu.o; omega, rfl, Jc.o⟩, by have := Gu.o; simp [intOf]; omega⟩
   have n1 : c.toNat ≠ 126 := fun q => h126 (UInt8.toNat_inj.1 q)
   have n2 : c.toNat ≠ 47 := fun q => h47 (UInt8.toNat_inj.1 q)
   obtain ⟨f1, -⟩ := zy (a := (c.toNat : Int)) (b := 126) (by omega)
   obtain ⟨f2, -⟩ := zy (a := (c.toNat : Int)) (b := 47) (by omega)
   have Gf : Hid (zf (qc la k X.data.toList j) ++ X.extract j (j + 1) = zf (qc la k X.data.toList (j + 1))) := qI (by
    rw [Gb.o, Gl.o]
    unfold xM
    rw [if_neg h126, if_neg h47])
   clear Gl Gz Gb h126 h47 n1 n2
   revert Gf hTs
   generalize zf (qc la k X.data.toList j) = T
   intro hTs Gf
   have hz : ¬ 9223372036854775807 < T.size + 1 := by omega
   have hj1 : (j : Int) + 1 ≤ X.size := by omega
   go_wp2_with fail
   case roundEnd =>
    rw [Gf.o]
    exact ⟨⟨j + 1, by go_num, by have := Gu.o; omega, rfl, Jc.o⟩, by have := Gu.o; simp [intOf]; omega⟩
end
end Go.Proofs.YtpbphdkjjoipnaaGreatDoor
