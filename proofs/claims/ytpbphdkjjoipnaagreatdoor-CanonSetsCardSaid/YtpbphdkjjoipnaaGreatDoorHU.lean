/- Parts of one proof, merged: XVG XZA XZB XZC XZD XZE. -/
import Derived.Test.YtpbphdkjjoipnaaGreatDoorHB
import Derived.Lib.Split
import Derived.Lib.SplitLaws
import Derived.Test.YtpbphdkjjoipnaaGreatDoorHD
import Derived.Test.YtpbphdkjjoipnaaGreatDoorHG
import Derived.Test.YtpbphdkjjoipnaaGreatDoorHA
set_option linter.all false
set_option maxHeartbeats 12800000
set_option maxRecDepth 10000
set_option linter.unusedVariables false
set_option linter.unusedSimpArgs false
set_option linter.unnecessarySimpa false
namespace Go.Proofs.YtpbphdkjjoipnaaGreatDoor
open Go.Proofs.Tryz
def escB (c : UInt8) : List UInt8 := if c = 126 then [126, 48] else if c = 47 then [126, 49] else [c]
def JF (s : List UInt8) : List UInt8 := s.flatMap escB
def kr (l : List (List UInt8)) : List UInt8 := l.flatMap (fun s => 47 :: JF s)
def kS : Nat → List UInt8 → Option (List UInt8)
 | 0, _ => none
 | _ + 1, [] => some []
 | f + 1, c :: r =>
  if c = 126 then
   match r with
   | [] => none
   | d :: r => if d = 48 then (kS f r).map (126 :: ·) else if d = 49 then (kS f r).map (47 :: ·) else none
  else (kS f r).map (c :: ·)
def yC (s : List UInt8) : Option (List UInt8) := kS (s.length + 1) s
def zO (x : UInt8) : List UInt8 → List (List UInt8)
 | [] => [[]]
 | c :: r => if c = x then [] :: zO x r else match zO x r with | h :: t => (c :: h) :: t | [] => [[c]]
def zJ {α : Type} : List (Option α) → Option (List α)
 | [] => some []
 | some a :: l => (zJ l).map (a :: ·)
 | none :: _ => none
def yf (p : List UInt8) : Option (List (List UInt8)) :=
 if p = [] then some [] else match zO 47 p with
  | h :: t => if h = [] then zJ (t.map yC) else none
  | [] => none
theorem yR (x : UInt8) (s : List UInt8) : zO x s ≠ [] := by
 cases s with
 | nil => simp [zO]
 | cons c r =>
  unfold zO
  split
  ·simp
  ·split <;> simp
theorem jL (x : UInt8) (r : List UInt8) : zO x (x :: r) = [] :: zO x r := by rw [zO, if_pos rfl]
theorem k8 {x c : UInt8} (h : c ≠ x) (r : List UInt8) : zO x (c :: r) = match zO x r with | h :: t => (c :: h) :: t | [] => [[c]] := by rw [zO, if_neg h]
theorem bB : ∀ (f g : Nat) (s : List UInt8), s.length < f → s.length < g → kS f s = kS g s
 | 0, _, s, h, _ => by omega
 | _, 0, s, _, h => by omega
 | f + 1, g + 1, [], _, _ => rfl
 | f + 1, g + 1, c :: r, h, k => by
  simp only [List.length_cons] at h k
  unfold kS
  by_cases hc : c = 126
  ·rw [if_pos hc, if_pos hc]
   cases r with
   | nil => rfl
   | cons d r =>
    simp only [List.length_cons] at h k
    simp only [bB f g r (by omega) (by omega)]
  ·rw [if_neg hc, if_neg hc, bB f g r (by omega) (by omega)]
theorem Y4 : yC [] = some [] := rfl
theorem bE {c : UInt8} (h : c ≠ 126) (r : List UInt8) : yC (c :: r) = (yC r).map (c :: ·) := by
 show kS (r.length + 1 + 1) (c :: r) = _
 unfold kS
 rw [if_neg h]
 rfl
theorem ku (r : List UInt8) : yC (126 :: r) = match r with | [] => none | d :: r => if d = 48 then (yC r).map (126 :: ·) else if d = 49 then (yC r).map (47 :: ·) else none := by
 show kS (r.length + 1 + 1) (126 :: r) = _
 unfold kS
 rw [if_pos rfl]
 cases r with
 | nil => rfl
 | cons d r =>
  simp only [List.length_cons]
  rw [bB (r.length + 1 + 1) (r.length + 1) r (by omega) (by omega)]
  rfl
theorem bT : ∀ (n : Nat) (s t : List UInt8), s.length ≤ n → (∀ c, c ∈ s → c ≠ 47) → yC s = some t → JF t = s
 | _, [], t, _, _, h => by
  rw [Y4, Option.some.injEq] at h
  subst h; rfl
 | 0, c :: r, t, hn, _, _ => by simp at hn
 | n + 1, c :: r, t, hn, h47, h => by
  simp only [List.length_cons] at hn
  by_cases hc : c = 126
  ·subst hc
   rw [ku] at h
   cases r with
   | nil => cases h
   | cons d r =>
    simp only [List.length_cons] at hn h
    by_cases h1 : d = 48
    ·subst h1
     rw [if_pos rfl, Option.map_eq_some_iff] at h
     obtain ⟨u, hu, rfl⟩ := h
     have := bT n r u (by omega) (fun c hc => h47 c (by simp [hc])) hu
     show escB 126 ++ JF u = _
     rw [this]; rfl
    ·rw [if_neg h1] at h
     by_cases h2 : d = 49
     ·subst h2
      rw [if_pos rfl, Option.map_eq_some_iff] at h
      obtain ⟨u, hu, rfl⟩ := h
      have := bT n r u (by omega) (fun c hc => h47 c (by simp [hc])) hu
      show escB 47 ++ JF u = _
      rw [this]; rfl
     ·rw [if_neg h2] at h; cases h
  ·rw [bE hc, Option.map_eq_some_iff] at h
   obtain ⟨u, hu, rfl⟩ := h
   have := bT n r u (by omega) (fun c hc => h47 c (List.mem_cons_of_mem _ hc)) hu
   have hc2 := h47 c (List.mem_cons_self ..)
   show escB c ++ JF u = _
   rw [this]
   unfold escB
   rw [if_neg hc, if_neg hc2]; rfl
theorem Ql (x : UInt8) : ∀ (s : List UInt8), ∀ p, p ∈ zO x s → ∀ c, c ∈ p → c ≠ x
 | [], p, hp, c, hc => by
  simp [zO] at hp
  subst hp; cases hc
 | d :: r, p, hp, c, hc => by
  have ih := Ql x r
  unfold zO at hp
  split at hp
  ·rcases List.mem_cons.1 hp with rfl | hp
   ·cases hc
   ·exact ih p hp c hc
  ·rename_i hd
   cases hs : zO x r with
   | nil => exact absurd hs (yR x r)
   | cons h t =>
    rw [hs] at hp ih
    rcases List.mem_cons.1 hp with rfl | hp
    ·rcases List.mem_cons.1 hc with rfl | hc
     ·exact hd
     ·exact ih h (List.mem_cons_self ..) c hc
    ·exact ih p (List.mem_cons_of_mem _ hp) c hc
theorem vr (x : UInt8) : ∀ (s h : List UInt8) (t : List (List UInt8)), zO x s = h :: t → s = h ++ t.flatMap (fun p => x :: p)
 | [], h, t, e => by
  simp [zO] at e
  obtain ⟨rfl, rfl⟩ := e
  rfl
 | c :: r, h, t, e => by
  unfold zO at e
  split at e
  ·rename_i hc
   simp only [List.cons.injEq] at e
   obtain ⟨rfl, rfl⟩ := e
   cases hs : zO x r with
   | nil => exact absurd hs (yR x r)
   | cons h' t' =>
    have ih := vr x r h' t' hs
    rw [List.nil_append, List.flatMap_cons, List.cons_append, ← ih, hc]
  ·cases hs : zO x r with
   | nil => exact absurd hs (yR x r)
   | cons h' t' =>
    rw [hs] at e
    simp only [List.cons.injEq] at e
    obtain ⟨rfl, rfl⟩ := e
    have ih := vr x r h' t' hs
    rw [List.cons_append, ← ih]
theorem bi {α β : Type} {f : α → Option β} : ∀ {l : List α} {m : List β}, zJ (l.map f) = some m → m.length = l.length ∧ ∀ (i : Nat) (h : i < l.length) (h' : i < m.length), f l[i] = some m[i]
 | [], m, h => by
  simp [zJ] at h
  subst h
  exact ⟨rfl, fun i h => by simp at h⟩
 | a :: l, m, h => by
  rw [List.map_cons] at h
  cases hf : f a with
  | none => rw [hf] at h; cases h
  | some b =>
   rw [hf] at h
   simp only [zJ, Option.map_eq_some_iff] at h
   obtain ⟨m', hm, rfl⟩ := h
   obtain ⟨h1, h2⟩ := bi hm
   refine ⟨by simp [h1], fun i h h' => ?_⟩
   cases i with
   | zero => exact hf
   | succ i => exact h2 i (by simpa using h) (by simpa using h')
theorem jz {p : List UInt8} {l : List (List UInt8)} (h : yf p = some l) : kr l = p := by
 unfold yf at h
 split at h
 ·rename_i e
  rw [Option.some.injEq] at h
  subst h; subst e; rfl
 ·cases hs : zO 47 p with
  | nil => exact absurd hs (yR 47 p)
  | cons a t =>
   rw [hs] at h
   simp only at h
   split at h
   ·rename_i ha
    subst ha
    have hj := vr 47 p [] t hs
    rw [List.nil_append] at hj
    rw [hj]
    obtain ⟨h1, h2⟩ := bi h
    unfold kr
    have h47 := Ql 47 p
    rw [hs] at h47
    have h47' : ∀ q, q ∈ t → ∀ c, c ∈ q → c ≠ 47 := fun q hq => h47 q (List.mem_cons_of_mem _ hq)
    clear h hs hj h47
    induction t generalizing l with
    | nil =>
     have : l = [] := List.eq_nil_of_length_eq_zero h1
     subst this; rfl
    | cons q t ih =>
     cases l with
     | nil => simp at h1
     | cons x l =>
      have hx := bT q.length q x (Nat.le_refl _) (h47' q (List.mem_cons_self ..)) (h2 0 (by simp) (by simp))
      simp only [List.flatMap_cons, hx]
      rw [ih (l := l) (by simpa using h1) (fun i h h' => h2 (i + 1) (by simpa using h) (by simpa using h')) (fun q hq => h47' q (List.mem_cons_of_mem _ hq))]
   ·cases h
def bU (out : List (List UInt8)) (c : UInt8) : List (List UInt8) := out.dropLast ++ [(out.getLast?.getD []) ++ [c]]
def pGo : Nat → List UInt8 → List (List UInt8) → Option (List (List UInt8))
 | 0, _, _ => none
 | _ + 1, [], out => some out
 | f + 1, c :: r, out =>
  if c = 47 then pGo f r (out ++ [[]])
  else if out = [] then none
  else if c = 126 then
   match r with
   | [] => none
   | d :: r => if d = 48 then pGo f r (bU out 126) else if d = 49 then pGo f r (bU out 47) else none
  else pGo f r (bU out c)
theorem kC (out : List (List UInt8)) (x : List UInt8) (c : UInt8) : bU (out ++ [x]) c = out ++ [x ++ [c]] := by simp [bU]
def kH (out : List (List UInt8)) (x : List UInt8) : List (List UInt8) → Option (List (List UInt8))
 | [] => none
 | h :: t => (yC h).bind fun a => (zJ (t.map yC)).map fun b => out ++ (x ++ a) :: b
theorem pGo_eq : ∀ (f : Nat) (s : List UInt8) (out : List (List UInt8)) (x : List UInt8), s.length < f → pGo f s (out ++ [x]) = kH out x (zO 47 s)
 | 0, s, out, x, h => by omega
 | f + 1, [], out, x, h => by simp [pGo, kH, zO, Y4, zJ]
 | f + 1, c :: r, out, x, h => by
  simp only [List.length_cons] at h
  unfold pGo
  by_cases h47 : c = 47
  ·rw [if_pos h47, pGo_eq f r (out ++ [x]) [] (by omega)]
   rw [h47, jL]
   cases hs : zO 47 r with
   | nil => exact absurd hs (yR 47 r)
   | cons h' t =>
    simp only [kH, Y4, Option.bind_some, List.map_cons, List.nil_append]
    cases yC h' with
    | none => rfl
    | some a =>
     simp only [Option.bind_some, zJ, Option.map_map]
     cases zJ (t.map yC) with
     | none => rfl
     | some b => simp
  ·rw [if_neg h47, if_neg (by simp)]
   by_cases h126 : c = 126
   ·rw [if_pos h126]
    subst h126
    cases r with
    | nil =>
     simp only [zO]
     rw [if_neg h47]
     simp only [kH]
     rw [ku]; rfl
    | cons d r =>
     simp only [List.length_cons] at h
     have hbase : ∀ (e : UInt8), pGo f r (bU (out ++ [x]) e) = kH out (x ++ [e]) (zO 47 r) := fun e => by rw [kC, pGo_eq f r out (x ++ [e]) (by omega)]
     simp only [hbase]
     have hs0 : zO 47 (126 :: d :: r) = match zO 47 (d :: r) with | h :: t => (126 :: h) :: t | [] => [[126]] := k8 h47 _
     rw [hs0]
     by_cases hd : d = 47
     ·subst hd
      rw [if_neg (by decide), if_neg (by decide)]
      rw [jL]
      simp only [kH]
      rw [ku]; rfl
     ·have hs1 : zO 47 (d :: r) = match zO 47 r with | h :: t => (d :: h) :: t | [] => [[d]] := k8 hd _
      rw [hs1]
      cases hs : zO 47 r with
      | nil => exact absurd hs (yR 47 r)
      | cons h' t =>
       simp only [kH]
       rw [ku]
       simp only
       by_cases h1 : d = 48
       ·rw [if_pos h1, if_pos h1]
        cases yC h' with
        | none => rfl
        | some a =>
         simp only [Option.bind_some, Option.map_some]
         cases zJ (t.map yC) <;> simp
       ·rw [if_neg h1, if_neg h1]
        by_cases h2 : d = 49
        ·rw [if_pos h2, if_pos h2]
         cases yC h' with
         | none => rfl
         | some a =>
          simp only [Option.bind_some, Option.map_some]
          cases zJ (t.map yC) <;> simp
        ·rw [if_neg h2, if_neg h2]; rfl
   ·rw [if_neg h126, kC, pGo_eq f r out (x ++ [c]) (by omega)]
    have hs0 : zO 47 (c :: r) = match zO 47 r with | h :: t => (c :: h) :: t | [] => [[c]] := k8 h47 _
    rw [hs0]
    cases hs : zO 47 r with
    | nil => exact absurd hs (yR 47 r)
    | cons h' t =>
     simp only [kH]
     rw [bE h126]
     cases yC h' with
     | none => rfl
     | some a =>
      simp only [Option.bind_some, Option.map_some]
      cases zJ (t.map yC) <;> simp
theorem pGo_all (p : List UInt8) : pGo (p.length + 1) p [] = yf p := by
 cases p with
 | nil => rfl
 | cons c r =>
  unfold yf
  rw [if_neg (by simp)]
  unfold pGo
  by_cases h47 : c = 47
  ·rw [if_pos h47, pGo_eq (c :: r).length r [] [] (by simp)]
   rw [h47, jL]
   cases hs : zO 47 r with
   | nil => exact absurd hs (yR 47 r)
   | cons h' t =>
    simp only [kH, if_true, List.map_cons, List.nil_append]
    cases yC h' with
    | none => rfl
    | some a => simp only [Option.bind_some, zJ]
  ·rw [if_neg h47, if_pos rfl]
   rw [k8 h47]
   cases hs : zO 47 r with
   | nil => exact absurd hs (yR 47 r)
   | cons h' t => simp
open Go.Lib
theorem index_eq (x : UInt8) (l : List UInt8) : index (x :: l) [x] = 0 := by rw [index]; simp [List.isPrefixOf]
theorem index_ne {c x : UInt8} (h : c ≠ x) (l : List UInt8) : index (c :: l) [x] = if index l [x] == -1 then -1 else index l [x] + 1 := by
 have hp : ([x] : List UInt8).isPrefixOf (c :: l) = false := by simp [List.isPrefixOf, Ne.symm h]
 rw [index, hp]; simp
theorem KN (x : UInt8) : ∀ s : List UInt8, splitK [x] 0 (count s [x]) s = zO x s ∧ (zO x s).length = count s [x] + 1
 | [] => by
  rw [count_miss (by simp [index])]
  exact ⟨rfl, rfl⟩
 | c :: l => by
  obtain ⟨ih, ihl⟩ := KN x l
  by_cases h : c = x
  ·subst h
   rw [count_cons_eq, jL, Nat.add_comm 1, List.length_cons, ihl]
   refine ⟨?_, rfl⟩
   rw [← ih]
   unfold splitK
   rw [index_eq]
   simp only [show ((0 : Int) == -1) = false from by decide]
   cases count l [c] <;> rfl
  ·rw [count_cons_ne c x l h, k8 h]
   cases hk : count l [x] with
   | zero =>
    rw [hk] at ih ihl
    rw [show splitK [x] 0 0 l = [l] from by unfold splitK; rfl] at ih
    rw [← ih]
    exact ⟨by unfold splitK; rfl, rfl⟩
   | succ k =>
    rw [hk] at ih ihl
    have hm : index l [x] ≠ -1 := fun e => by rw [count_miss e] at hk; cases hk
    have hge := index_ge l [x]
    obtain ⟨j, hj⟩ : ∃ j : Nat, index l [x] = j := ⟨(index l [x]).toNat, by omega⟩
    have hix : index (c :: l) [x] = ((j + 1 : Nat) : Int) := by rw [index_ne h, if_neg (fun e => hm (beq_iff_eq.1 e)), hj]; omega
    have h1 : splitK [x] 0 (k + 1) l = l.take j :: splitK [x] 0 k (l.drop (j + 1)) := by
     rw [splitK, if_neg (fun e => hm (beq_iff_eq.1 e)), hj]; rfl
    rw [h1] at ih
    rw [← ih] at ihl ⊢
    refine ⟨?_, by simpa using ihl⟩
    rw [splitK, if_neg (fun e => by rw [hix] at e; have := beq_iff_eq.1 e; omega), hix]
    rfl
theorem split_texts (x : UInt8) (s : ByteArray) : splitB ⟨#[x]⟩ 0 (countB s ⟨#[x]⟩) s = (zO x s.data.toList).map zg ∧ countB s ⟨#[x]⟩ + 1 = (zO x s.data.toList).length := by
 have hc : countB s ⟨#[x]⟩ = count s.data.toList [x] := rfl
 obtain ⟨h1, h2⟩ := KN x s.data.toList
 have h3 := splitB_data ⟨#[x]⟩ 0 (countB s ⟨#[x]⟩) s
 rw [hc] at h3 ⊢
 rw [show (⟨#[x]⟩ : ByteArray).data.toList = [x] from rfl, h1] at h3
 refine ⟨?_, h2.symm⟩
 rw [← h3, List.map_map]
 conv => lhs; rw [← List.map_id (splitB ⟨#[x]⟩ 0 (count s.data.toList [x]) s)]
 exact List.map_congr_left (fun a _ => (bV a).symm)
def xg : List UInt8 → Option (List UInt8)
 | [] => none
 | c :: r => if c = 48 then some (126 :: r) else if c = 49 then some (47 :: r) else none
def partR : List (List UInt8) → Option (List UInt8)
 | [] => none
 | h :: t => (zJ (t.map xg)).map fun t' => h ++ t'.flatten
theorem part_eq : ∀ (n : Nat) (s : List UInt8), s.length ≤ n → yC s = partR (zO 126 s)
 | _, [], _ => rfl
 | 0, c :: r, h => by simp at h
 | n + 1, c :: r, hn => by
  simp only [List.length_cons] at hn
  by_cases hc : c = 126
  ·subst hc
   rw [ku, jL]
   show _ = (zJ ((zO 126 r).map xg)).map fun t' => [] ++ t'.flatten
   cases r with
   | nil => rfl
   | cons d r =>
    simp only [List.length_cons] at hn
    by_cases hd : d = 126
    ·subst hd
     rw [jL, List.map_cons, show xg [] = none from rfl]
     simp [zJ]
    ·have ih := part_eq n r (by omega)
     rw [k8 hd]
     cases hs : zO 126 r with
     | nil => exact absurd hs (yR 126 r)
     | cons h t =>
      rw [hs] at ih
      simp only [partR] at ih
      simp only [List.map_cons]
      by_cases h1 : d = 48
      ·subst h1
       rw [show xg (48 :: h) = some (126 :: h) from rfl]
       simp only [if_true, zJ, ih, Option.map_map]
       congr 1
      ·by_cases h2 : d = 49
       ·subst h2
        rw [show xg (49 :: h) = some (47 :: h) from rfl]
        simp only [if_neg h1, if_true, zJ, ih, Option.map_map]
        congr 1
       ·rw [show xg (d :: h) = none from by show (if d = 48 then _ else if d = 49 then _ else none) = none; rw [if_neg h1, if_neg h2]]
        simp [h1, h2, zJ]
  ·have ih := part_eq n r (by omega)
   rw [bE hc, k8 hc, ih]
   cases hs : zO 126 r with
   | nil => exact absurd hs (yR 126 r)
   | cons h t =>
    simp only [partR, Option.map_map]
    congr 1
theorem part_split (s : List UInt8) : yC s = partR (zO 126 s) := part_eq s.length s (Nat.le_refl _)
open Go.RowKit
theorem ju (x : ByteArray) : x.data.toList.length = x.size := by simp
def b9 (w : World) : Prop := ∃ m, w.cell? ⟨Tryz.shSplit_ren.g 1, 0, none⟩ = some (.int .i64 m)
theorem b9.kept0 {w w' : World} (h : b9 w) (k : zb [] w w') : b9 w' := by
 obtain ⟨m, hm⟩ := h
 exact ⟨m, k.cell hm (by simp)⟩
theorem libSplit {w : World} (hm : b9 w) (s : ByteArray) (x : UInt8) (hs : s.size ≤ 1000000) : Calls Tryz.prog 58 #[.string s, .string ⟨#[x]⟩] w fun e w' =>
  e = .returned (.slice (some ⟨w.heap.size, 0, none⟩) (zO x s.data.toList).length (zO x s.data.toList).length) ∧ w' = w.alloc (.cells (zL ((zO x s.data.toList).map zg)).toArray 9) := by
 obtain ⟨m, hm⟩ := hm
 have h := Any.strings_Split { Tryz.shSplit with } (Tryz.shSplit).i9 s ⟨#[x]⟩ m w (by omega) hm (Nat.le_refl 1)
 obtain ⟨h1, h2⟩ := split_texts x s
 rw [h1, h2] at h
 exact h
theorem joinExtra : Builder.Extra Tryz.prog Tryz.shJoin_ren := {
 sizeBuilder := by kernel_rfl
 liesBuilder := by kernel_rfl
 t5 := underlying5
 a5 := isAgg5
 z5 := sizeOf5
 v5 := zeroValue5
 infoByte := by kernel_rfl
 cellsByte := by kernel_rfl
 sizeByte := by kernel_rfl
 neB5 := by decide }
theorem join_none (l : List (List UInt8)) : Lib.join l [] = l.flatten := by
 cases l with
 | nil => rfl
 | cons a t =>
  rw [Lib.join_cons]
  unfold Lib.joinTail
  simp
theorem libJoin {w : World} {g : Nat} {l : List (List UInt8)} (h : w.heap[g]? = some (.cells (zL (l.map zg)).toArray 9 (0, 0))) (hl : l.length ≤ 1000000) (hf : l.flatten.length ≤ 100000000) :
  Calls Tryz.prog 89 #[.slice (some ⟨g, 0, none⟩) l.length l.length, .string ⟨#[]⟩] w fun e w' => e = .returned (.string (zg l.flatten)) ∧ zb [] w w' := by
 have hm : (l.map zg).map (·.data.toList) = l := by rw [List.map_map]; exact (List.map_congr_left (fun a _ => zq a)).trans (List.map_id l)
 have hj : Lib.join ((l.map zg).map (·.data.toList)) (⟨#[]⟩ : ByteArray).data.toList = l.flatten := by rw [hm]; exact join_none l
 have c := Any.strings_Join Tryz.shJoin joinExtra g 0 l.length (l.map zg) ⟨#[]⟩ w (fun j x hx => by
   refine za (o := 0 + j) h ?_
   show ((zL (l.map zg)).toArray)[0 + j]? = _
   rw [List.getElem?_toArray, Nat.zero_add]
   unfold zL
   rw [List.getElem?_map, hx]; rfl)
  (lt_of_block h) (by rw [List.length_map]; omega) (by rw [List.length_map]; omega) (by rw [hj]; omega)
 rw [hj, List.length_map] at c
 exact of_below c
theorem Ys (a c : UInt8) (r : List UInt8) : List.isPrefixOf [a] (c :: r) = decide (c = a) := by
 show (a == c && true) = _
 by_cases h : c = a
 ·subst h; simp
 ·rw [decide_eq_false h, Bool.and_true, beq_eq_false_iff_ne]; exact fun e => h e.symm
theorem str_tail (a c : UInt8) (r : List UInt8) : (⟨#[a]⟩ : ByteArray) ++ (zg (c :: r)).extract 1 (zg (c :: r)).size = zg (a :: r) := by
 refine qR ?_
 rw [zq, ByteArray.data_append, Array.toList_append, jX, zq]
 rfl
def q8 (s : List UInt8) (e : Ending) : Prop := match yC s with | none => e = .returned (.tuple #[.string ⟨#[]⟩, .bool false]) | some t => e = .returned (.tuple #[.string (zg t), .bool true])
theorem Kv {s : List UInt8} (h : yC s = none) : q8 s (.returned (.tuple #[.string ⟨#[]⟩, .bool false])) := by unfold q8; rw [h]
theorem JE {s t : List UInt8} (h : yC s = some t) : q8 s (.returned (.tuple #[.string (zg t), .bool true])) := by unfold q8; rw [h]
theorem QN (h : List UInt8) (t : List (List UInt8)) : partR (h :: t) = (zJ (t.map xg)).map fun t' => h ++ t'.flatten := rfl
theorem tilde_cases (p : List UInt8) : (∃ r, p = 48 :: r ∧ xg p = some (126 :: r)) ∨ (∃ r, p = 49 :: r ∧ xg p = some (47 :: r)) ∨ (xg p = none ∧ List.isPrefixOf [48] p = false ∧ List.isPrefixOf [49] p = false) := by
 cases p with
 | nil => exact .inr (.inr ⟨rfl, rfl, rfl⟩)
 | cons c r =>
  by_cases h1 : c = 48
  ·subst h1; exact .inl ⟨r, rfl, rfl⟩
  ·by_cases h2 : c = 49
   ·subst h2; exact .inr (.inl ⟨r, rfl, rfl⟩)
   ·refine .inr (.inr ⟨?_, by rw [Ys, decide_eq_false h1], by rw [Ys, decide_eq_false h2]⟩)
    show (if c = 48 then _ else if c = 49 then _ else none) = none
    rw [if_neg h1, if_neg h2]
theorem kn {α : Type} : ∀ (l m : List (Option α)), zJ (l ++ m) = (zJ l).bind fun a => (zJ m).map (a ++ ·)
 | [], m => by cases h : zJ m <;> simp [zJ, h]
 | none :: l, m => rfl
 | some a :: l, m => by
  rw [List.cons_append]
  simp only [zJ, kn l m]
  cases zJ l with
  | none => rfl
  | some b =>
   cases zJ m <;> rfl
theorem QW (x : UInt8) (s : List UInt8) : (zO x s).flatten.length + (zO x s).length ≤ s.length + 1 := by
 cases hs : zO x s with
 | nil => simp
 | cons h t =>
  have h1 := congrArg List.length (vr x s h t hs)
  rw [List.length_append] at h1
  have h2 : ∀ t : List (List UInt8), (t.flatMap (fun p => x :: p)).length = t.flatten.length + t.length := by
   intro t
   induction t with
   | nil => rfl
   | cons a t ih => simp only [List.flatMap_cons, List.length_append, List.length_cons, List.flatten_cons, ih]; omega
  rw [h2] at h1
  simp only [List.flatten_cons, List.length_append, List.length_cons]
  omega
theorem turn_next {t u : List (List UInt8)} {j : Nat} (hj : j < t.length) (h : zJ ((t.take j).map xg) = some u) {q : List UInt8} (hq : xg t[j] = some q) : zJ ((t.take (j + 1)).map xg) = some (u ++ [q]) := by
 rw [List.take_succ_eq_append_getElem hj, List.map_append, kn, h]
 simp [zJ, hq]
theorem turn_none {t u : List (List UInt8)} {j : Nat} (hj : j < t.length) (h : zJ ((t.take j).map xg) = some u) (hq : xg t[j] = none) : zJ (t.map xg) = none := by
 conv => lhs; rw [← List.take_append_drop j t, List.map_append, kn, h, List.drop_eq_getElem_cons hj, List.map_cons, hq]
 rfl
theorem tilde_len {p q : List UInt8} (h : xg p = some q) : q.length = p.length := by
 cases p with
 | nil => cases h
 | cons c r =>
  have h' : (if c = 48 then some (126 :: r) else if c = 49 then some (47 :: r) else none) = some q := h
  split at h'
  ·injection h' with h'; subst h'; rfl
  ·split at h'
   ·injection h' with h'; subst h'; rfl
   ·cases h'
theorem Kl : ∀ {t u : List (List UInt8)}, zJ (t.map xg) = some u → u.length = t.length ∧ u.flatten.length = t.flatten.length
 | [], u, h => by
  simp only [List.map_nil, zJ, Option.some.injEq] at h
  subst h; exact ⟨rfl, rfl⟩
 | p :: t, u, h => by
  rw [List.map_cons] at h
  cases hp : xg p with
  | none => rw [hp] at h; cases h
  | some q =>
   rw [hp] at h
   simp only [zJ, Option.map_eq_some_iff] at h
   obtain ⟨v, hv, rfl⟩ := h
   obtain ⟨h1, h2⟩ := Kl hv
   simp only [List.length_cons, List.flatten_cons, List.length_append, h1, h2, tilde_len hp]
   exact ⟨trivial, trivial⟩
section
variable {w : World}
theorem ptrPart_any (hm : b9 w) (s : ByteArray) (hs : s.size ≤ 900000) :
  Calls Tryz.prog 59 #[.string s] w fun e w' => q8 s.data.toList e ∧ zb [] w w' := by
 have CS := qI (libSplit hm s 126 (by omega))
 have hps := part_split s.data.toList
 have hfl := QW 126 s.data.toList
 rw [ju] at hfl
 cases hsp : zO 126 s.data.toList with
 | nil => exact absurd hsp (yR 126 _)
 | cons h t =>
  rw [hsp] at CS hfl hps
  have Gn := qI hps
  have HG : Hid (w.heap.size = w.heap.size) := qI rfl
  obtain ⟨W1, Gf⟩ : ∃ W1, Hid (W1 = w.alloc (.cells (zL ((h :: t).map zg)).toArray 9)) := ⟨_, qI rfl⟩
  have Gp : Hid (zb [] w W1) := qI (by rw [Gf.o]; exact (zb.refl [] w).alloc _)
  have Gt : Hid (W1.heap[w.heap.size]? = some (.cells (zL ((h :: t).map zg)).toArray 9 (0, 0))) := qI (by rw [Gf.o]; exact zn rfl)
  have Gq : Hid (w.heap.size < W1.heap.size) := qI (by rw [Gf.o]; simp)
  obtain ⟨n, hn⟩ : ∃ n, (h :: t).length = n := ⟨_, rfl⟩
  rw [hn] at CS
  have HN : Hid (n = t.length + 1) := qI (by rw [← hn]; rfl)
  have Gi : Hid ((h :: t).flatten.length + n ≤ 900001) := qI (by rw [hn] at hfl; omega)
  have hnI : (n : Int) ≤ 900001 := by have := Gi.o; omega
  clear hm hps hsp hn hfl
  go_enter func59, ntmps59
  go_wp2_with fail
  refine CS.o.mono ?_
  rintro e w1 ⟨rfl, rfl⟩
  rw [← Gf.o]
  go_wp2_with fail
  go_loopw [5] (fun i wr => ∃ (j : Nat) (u : List (List UInt8)), i = .int .i64 ((j : Int) + 1) ∧ j ≤ t.length ∧ Hid (zJ ((t.take j).map xg) = some u) ∧ wr.heap[w.heap.size]? = some (.cells (zL ((h :: (u ++ t.drop j)).map zg)).toArray 9 (0, 0)) ∧ zb [] w wr) (fun i _ => n - (intOf i).toNat)
  case atStart => exact ⟨0, [], rfl, Nat.zero_le _, qI rfl, Gt.o, Gp.o⟩
  case round =>
   obtain ⟨j, u, rfl, hj, hu, hb, hkw⟩ := hrel
   have HB := qI hb
   have Gc := qI hkw
   have Ji := qI (Kl hu.o)
   have HU : Hid (u.length = j) := qI (by rw [Ji.o.1, List.length_take]; omega)
   have HJ := qI hj
   by_cases hlt : j < t.length
   ·have hltI : (j : Int) + 1 < n := by have := HN.o; omega
    have hjI : (j : Int) ≤ 900001 := by omega
    have hgt : (zL ((h :: (u ++ t.drop j)).map zg))[j + 1]? = some (.string (zg t[j])) := by
     unfold zL
     rw [List.getElem?_map, List.getElem?_map, List.getElem?_cons_succ, List.getElem?_append_right (by rw [HU.o]; exact Nat.le_refl _), HU.o, Nat.sub_self, List.getElem?_drop, Nat.add_zero, List.getElem?_eq_getElem hlt]; rfl
    have q0 := za (o := j + 1) hb (by rw [List.getElem?_toArray]; exact hgt)
    have q1 := zc (o := j + 1) hb
    have Gg : Hid (∀ q, (zL ((h :: (u ++ t.drop j)).map zg)).toArray.setIfInBounds (j + 1) (.string (zg q)) = (zL ((h :: ((u ++ [q]) ++ t.drop (j + 1))).map zg)).toArray) := qI (fun q => by
     rw [List.setIfInBounds_toArray]
     unfold zL
     congr 1
     rw [List.map_cons, List.map_cons, List.set_cons_succ, List.drop_eq_getElem_cons hlt, List.map_append, List.map_append]
     rw [List.set_append_right _ _ (by rw [List.length_map, List.length_map, HU.o]; exact Nat.le_refl _)]
     rw [List.length_map, List.length_map, HU.o, Nat.sub_self]
     simp only [List.map_cons, List.set_cons_zero, List.map_append, List.map_nil, List.append_assoc, List.cons_append, List.nil_append])
    have Gj : Hid ((zg t[j]).size ≤ 900001) := qI (by
     rw [zK]
     have h1 := Gi.o
     have h2 : t[j].length ≤ t.flatten.length := by
      have := List.sublist_flatten_of_mem (List.getElem_mem hlt)
      exact this.length_le
     simp only [List.flatten_cons, List.length_append] at h1
     omega)
    have Ge := qI (fun q hq => turn_next hlt hu.o (q := q) hq)
    have Gk := qI (fun hq => turn_none hlt hu.o hq)
    have CP := qI (fun (p : ByteArray) w' => xA (zg t[j]) p w')
    rw [zq] at CP
    have htc := tilde_cases t[j]
    have HJ : Hid (j < t.length) := qI hlt
    clear hb hkw hu hj hgt
    revert CP htc q0 Gj Ge Gk
    generalize t[j] = p
    intro q0 Gj Ge Gk CP htc
    rcases htc with ⟨r, rfl, htf⟩ | ⟨r, rfl, htf⟩ | ⟨htf, n1, n2⟩
    ·have HS := qI (str_tail 126 48 r)
     have HQ := qI (Ge.o _ htf)
     have hsz := Gj.o
     have h1z : 1 ≤ (zg (48 :: r)).size := by rw [zK]; simp
     have CP0 := qI (CP.o ⟨#[48]⟩)
     rw [show List.isPrefixOf (⟨#[48]⟩ : ByteArray).data.toList (48 :: r) = true from by rw [show (⟨#[48]⟩ : ByteArray).data.toList = [48] from rfl, Ys]; rfl] at CP0
     have Gr := qI (fun (w' : World) (h9 : w'.heap[w.heap.size]? = some (.cells (zL ((h :: (u ++ t.drop j)).map zg)).toArray 9 (0, 0))) => zf h9 (Gg.o (126 :: r)))
     clear htf CP
     revert HS q0 hsz h1z CP0
     generalize zg (48 :: r) = T
     intro q0 HS hsz h1z CP0
     have hz1 : ¬ 9223372036854775807 < 1 + (T.size - 1) := by omega
     have h1I : (1 : Int) ≤ T.size := by omega
     go_wp2_with fail
     refine (CP0.o _).mono ?_
     rintro e w2 ⟨rfl, rfl⟩
     go_wp2_with fail
     case roundEnd =>
      rw [HS.o]
      exact ⟨⟨j + 1, u ++ [126 :: r], by go_num, by have := HJ.o; omega, HQ.o, Gr.o _ HB.o, Gc.o.setCell (.inr (Nat.le_refl _)) _⟩, by have := HN.o; have := HJ.o; simp [intOf]; omega⟩
    ·have HS := qI (str_tail 47 49 r)
     have HQ := qI (Ge.o _ htf)
     have hsz := Gj.o
     have h1z : 1 ≤ (zg (49 :: r)).size := by rw [zK]; simp
     have CP0 := qI (CP.o ⟨#[48]⟩)
     rw [show List.isPrefixOf (⟨#[48]⟩ : ByteArray).data.toList (49 :: r) = false from by rw [show (⟨#[48]⟩ : ByteArray).data.toList = [48] from rfl, Ys]; rfl] at CP0
     have CP1 := qI (CP.o ⟨#[49]⟩)
     rw [show List.isPrefixOf (⟨#[49]⟩ : ByteArray).data.toList (49 :: r) = true from by rw [show (⟨#[49]⟩ : ByteArray).data.toList = [49] from rfl, Ys]; rfl] at CP1
     have Gr := qI (fun (w' : World) (h9 : w'.heap[w.heap.size]? = some (.cells (zL ((h :: (u ++ t.drop j)).map zg)).toArray 9 (0, 0))) => zf h9 (Gg.o (47 :: r)))
     clear htf CP
     revert HS q0 hsz h1z CP0 CP1
     generalize zg (49 :: r) = T
     intro q0 HS hsz h1z CP0 CP1
     have hz1 : ¬ 9223372036854775807 < 1 + (T.size - 1) := by omega
     have h1I : (1 : Int) ≤ T.size := by omega
     go_wp2_with fail
     refine (CP0.o _).mono ?_
     rintro e w2 ⟨rfl, rfl⟩
     go_wp2_with fail
     refine (CP1.o _).mono ?_
     rintro e w2 ⟨rfl, rfl⟩
     go_wp2_with fail
     case roundEnd =>
      rw [HS.o]
      exact ⟨⟨j + 1, u ++ [47 :: r], by go_num, by have := HJ.o; omega, HQ.o, Gr.o _ HB.o, Gc.o.setCell (.inr (Nat.le_refl _)) _⟩, by have := HN.o; have := HJ.o; simp [intOf]; omega⟩
    ·have Jj := qI (Gk.o htf)
     have CP0 := qI (CP.o ⟨#[48]⟩)
     have CP1 := qI (CP.o ⟨#[49]⟩)
     rw [show (⟨#[48]⟩ : ByteArray).data.toList = [48] from rfl, n1] at CP0
     rw [show (⟨#[49]⟩ : ByteArray).data.toList = [49] from rfl, n2] at CP1
     clear htf CP n1 n2
     revert q0 CP0 CP1
     generalize zg p = T
     intro q0 CP0 CP1
     go_wp2_with fail
     refine (CP0.o _).mono ?_
     rintro e w2 ⟨rfl, rfl⟩
     go_wp2_with fail
     refine (CP1.o _).mono ?_
     rintro e w2 ⟨rfl, rfl⟩
     go_wp2_with fail
     go_ret2
     exact ⟨Kv (by rw [Gn.o, QN, Jj.o]; rfl), Gc.o⟩
   ·obtain rfl : j = t.length := by omega
    have hu' := hu.o
    rw [List.take_length] at hu'
    have hltI : ¬ (t.length : Int) + 1 < n := by have := HN.o; omega
    rw [List.drop_length, List.append_nil] at hb
    have CJ := qI (libJoin (l := h :: u) hb (by have h1 := HU.o; have h2 := Gi.o; have h3 := HN.o; simp only [List.length_cons]; omega) (by
     have h1 := Gi.o
     have h2 := (Kl hu').2
     simp only [List.flatten_cons, List.length_append] at h1 ⊢
     omega))
    have hl : (h :: u).length = n := by rw [HN.o, ← HU.o]; rfl
    rw [hl] at CJ
    have Jk := qI hu'
    clear hu hu' hb hkw hl
    go_wp2_with fail
    refine CJ.o.mono ?_
    rintro e w2 ⟨rfl, hk2⟩
    go_wp2_with fail
    go_ret2
    exact ⟨JE (by rw [Gn.o, QN, Jk.o]; rfl), Gc.o.then hk2⟩
end
def xQ (p : List UInt8) (e : Ending) (w' : World) : Prop := match yf p with
 | none => e = .returned (.tuple #[.slice none 0 0, .int .i64 60])
 | some l => ∃ a c, e = .returned (.tuple #[.slice a l.length c, .int .i64 0]) ∧ Slc w' 1 (.slice a l.length c) l.length (zL (l.map zg))
theorem Z7 {p : List UInt8} {w' : World} (h : yf p = none) : xQ p (.returned (.tuple #[.slice none 0 0, .int .i64 60])) w' := by unfold xQ; rw [h]
theorem bp {p : List UInt8} {l : List (List UInt8)} {w' : World} {a : Option Addr} {c : Nat} (h : yf p = some l) (hs : Slc w' 1 (.slice a l.length c) l.length (zL (l.map zg))) : xQ p (.returned (.tuple #[.slice a l.length c, .int .i64 0])) w' := by unfold xQ; rw [h]; exact ⟨a, c, rfl, hs⟩
theorem allSome_len {α β : Type} {f : α → Option β} {l : List α} {m : List β} (h : zJ (l.map f) = some m) : m.length = l.length := (bi h).1
theorem some_next {t u : List (List UInt8)} {f : List UInt8 → Option (List UInt8)} {j : Nat} (hj : j < t.length) (h : zJ ((t.take j).map f) = some u) {q : List UInt8} (hq : f t[j] = some q) : zJ ((t.take (j + 1)).map f) = some (u ++ [q]) := by
 rw [List.take_succ_eq_append_getElem hj, List.map_append, kn, h]
 simp [zJ, hq]
theorem some_none {t u : List (List UInt8)} {f : List UInt8 → Option (List UInt8)} {j : Nat} (hj : j < t.length) (h : zJ ((t.take j).map f) = some u) (hq : f t[j] = none) : zJ (t.map f) = none := by
 conv => lhs; rw [← List.take_append_drop j t, List.map_append, kn, h, List.drop_eq_getElem_cons hj, List.map_cons, hq]
 rfl
section
variable {w : World}
theorem ZZ (hm : b9 w) (s : ByteArray) (hs : s.size ≤ 900000) :
  Calls Tryz.prog 27 #[.string s] w fun e w' => xQ s.data.toList e w' ∧ zb [] w w' := by
 by_cases h0 : s = ⟨#[]⟩
 ·subst h0
  have HP : Hid (yf (⟨#[]⟩ : ByteArray).data.toList = some []) := qI rfl
  go_enter func27, ntmps27
  go_wp2_with fail
  go_ret2
  exact ⟨bp HP.o (jt _ _), zb.refl _ _⟩
 obtain ⟨g1, g2⟩ := qe h0
 have CS := qI (libSplit hm s 47 (by omega))
 have hfl := QW 47 s.data.toList
 rw [ju] at hfl
 have hne : s.data.toList ≠ [] := fun e => h0 (qR e)
 cases hsp : zO 47 s.data.toList with
 | nil => exact absurd hsp (yR 47 _)
 | cons h t =>
  have hps : yf s.data.toList = if h = [] then zJ (t.map yC) else none := by
   unfold yf
   rw [if_neg hne, hsp]
  rw [hsp] at CS hfl
  have Gn := qI hps
  have HM := qI hm
  obtain ⟨W1, Gf⟩ : ∃ W1, Hid (W1 = w.alloc (.cells (zL ((h :: t).map zg)).toArray 9)) := ⟨_, qI rfl⟩
  have Gp : Hid (zb [] w W1) := qI (by rw [Gf.o]; exact (zb.refl [] w).alloc _)
  have Gt : Hid (W1.heap[w.heap.size]? = some (.cells (zL ((h :: t).map zg)).toArray 9 (0, 0))) := qI (by rw [Gf.o]; exact zn rfl)
  obtain ⟨n, hn⟩ : ∃ n, t.length = n := ⟨_, rfl⟩
  rw [List.length_cons, hn] at CS
  have HN := qI hn
  have Gi : Hid (h.length + t.flatten.length + n ≤ 900000) := qI (by simp only [List.flatten_cons, List.length_append, List.length_cons, hn] at hfl; omega)
  have hnI : (n : Int) ≤ 900001 := by have := Gi.o; omega
  have c0 := za (o := 0) (v := .string (zg h)) Gt.o rfl
  clear hm hps hsp hn hfl h0 hne
  by_cases hh : h = []
  rotate_left
  ·have Gh : Hid (yf s.data.toList = none) := qI (by rw [Gn.o, if_neg hh])
   have hz : zg h ≠ ⟨#[]⟩ := fun e => hh (by have h9 := congrArg (fun s : ByteArray => s.data.toList) e; simpa only [zq] using h9)
   obtain ⟨k1, k2⟩ := qe hz
   clear hh hz
   revert c0 k1 k2
   generalize zg h = T
   intro c0 k1 k2
   go_enter func27, ntmps27
   go_wp2_with fail
   refine CS.o.mono ?_
   rintro e w1 ⟨rfl, rfl⟩
   rw [← Gf.o]
   go_wp2_with fail
   go_ret2
   exact ⟨Z7 Gh.o, Gp.o⟩
  subst hh
  rw [show zg [] = ⟨#[]⟩ from rfl] at c0
  have Gv : Hid (yf s.data.toList = zJ (t.map yC)) := qI (by rw [Gn.o, if_pos rfl])
  by_cases hn0 : n = 0
  ·subst hn0
   have ht : t = [] := List.eq_nil_of_length_eq_zero HN.o
   subst ht
   have Jl : Hid (yf s.data.toList = some []) := qI Gv.o
   go_enter func27, ntmps27
   go_wp2_with fail
   refine CS.o.mono ?_
   rintro e w1 ⟨rfl, rfl⟩
   rw [← Gf.o]
   go_wp2_with fail
   go_loopw [21] (fun i wr => i = .int .i64 0 ∧ wr = W1) (fun _ _ => 0)
   case atStart => exact ⟨rfl, rfl⟩
   case round =>
    obtain ⟨rfl, rfl⟩ := hrel
    go_wp2_with fail
    go_ret2
    exact ⟨bp (l := []) Jl.o ⟨rfl, .inr (.inl ⟨rfl, _, _, rfl, by decide⟩)⟩, Gp.o⟩
  have hnp : (0 : Int) < n := by omega
  have Jr : Hid (0 < n) := qI (by omega)
  clear hn0
  go_enter func27, ntmps27
  go_wp2_with fail
  refine CS.o.mono ?_
  rintro e w1 ⟨rfl, rfl⟩
  rw [← Gf.o]
  go_wp2_with fail
  go_loopw [21] (fun i wr => ∃ (j : Nat) (u : List (List UInt8)), i = .int .i64 (j : Int) ∧ j ≤ t.length ∧ Hid (zJ ((t.take j).map yC) = some u) ∧ wr.heap[w.heap.size]? = some (.cells (zL (([] :: (u ++ t.drop j)).map zg)).toArray 9 (0, 0)) ∧ zb [] w wr) (fun i _ => n - (intOf i).toNat)
  case atStart => exact ⟨0, [], rfl, Nat.zero_le _, qI rfl, Gt.o, Gp.o⟩
  case round =>
   obtain ⟨j, u, rfl, hj, hu, hb, hkw⟩ := hrel
   have HB := qI hb
   have Gc := qI hkw
   have HU : Hid (u.length = j) := qI (by rw [allSome_len hu.o, List.length_take]; omega)
   by_cases hlt : j < t.length
   ·have hltI : (j : Int) < n := by have := HN.o; omega
    have hgt : (zL (([] :: (u ++ t.drop j)).map zg))[1 + j]? = some (.string (zg t[j])) := by
     unfold zL
     rw [Nat.add_comm, List.getElem?_map, List.getElem?_map, List.getElem?_cons_succ, List.getElem?_append_right (by rw [HU.o]; exact Nat.le_refl _), HU.o, Nat.sub_self, List.getElem?_drop, Nat.add_zero, List.getElem?_eq_getElem hlt]; rfl
    have q0 := za (o := 1 + j) hb (by rw [List.getElem?_toArray]; exact hgt)
    have Gg : Hid (∀ q, (zL (([] :: (u ++ t.drop j)).map zg)).toArray.setIfInBounds (1 + j) (.string (zg q)) = (zL (([] :: ((u ++ [q]) ++ t.drop (j + 1))).map zg)).toArray) := qI (fun q => by
     rw [List.setIfInBounds_toArray]
     unfold zL
     congr 1
     rw [Nat.add_comm, List.map_cons, List.map_cons, List.set_cons_succ, List.drop_eq_getElem_cons hlt, List.map_append, List.map_append]
     rw [List.set_append_right _ _ (by rw [List.length_map, List.length_map, HU.o]; exact Nat.le_refl _)]
     rw [List.length_map, List.length_map, HU.o, Nat.sub_self]
     simp only [List.map_cons, List.set_cons_zero, List.map_append, List.map_nil, List.append_assoc, List.cons_append, List.nil_append])
    have Gj : Hid ((zg t[j]).size ≤ 900000) := qI (by
     rw [zK]
     have h1 := Gi.o
     have h2 : t[j].length ≤ t.flatten.length := (List.sublist_flatten_of_mem (List.getElem_mem hlt)).length_le
     simp only [List.length_nil] at h1
     omega)
    have Ge := qI (fun q hq => some_next hlt hu.o (q := q) hq)
    have Gk := qI (fun hq => some_none hlt hu.o hq)
    have CP := qI (ptrPart_any (HM.o.kept0 hkw) (zg t[j]) Gj.o)
    rw [zq] at CP
    have HJ : Hid (j < t.length) := qI hlt
    clear hb hkw hu hj hgt
    revert CP q0 Gj Ge Gk
    generalize t[j] = p
    intro q0 Gj Ge Gk CP
    clear hlt
    unfold q8 at CP
    cases hup : yC p with
    | none =>
     have Gh := qI (Gv.o.trans (Gk.o hup))
     rw [hup] at CP
     clear hup
     go_wp2_with fail
     refine CP.o.mono ?_
     rintro e w2 ⟨rfl, hk2⟩
     go_wp2_with fail
     go_ret2
     exact ⟨Z7 Gh.o, Gc.o.then hk2⟩
    | some q =>
     have HQ := qI (Ge.o _ hup)
     rw [hup] at CP
     clear hup
     go_wp2_with fail
     refine CP.o.mono ?_
     rintro e w2 ⟨rfl, hk2⟩
     have Je := qI (hk2.heap HB.o (by simp))
     have Gw := qI (Gc.o.then hk2)
     have q1 := zc (o := 1 + j) Je.o
     have q2 := hk2.cell q0 (by simp)
     clear hk2 q0
     go_wp2_with fail
     case roundEnd =>
      exact ⟨⟨j + 1, u ++ [q], by go_num, by have := HJ.o; omega, HQ.o, zf Je.o (Gg.o q), Gw.o.setCell (.inr (Nat.le_refl _)) _⟩, by have := HN.o; have := HJ.o; simp [intOf]; omega⟩
   ·obtain rfl : j = t.length := by omega
    have hu' := hu.o
    rw [List.take_length] at hu'
    rw [List.drop_length, List.append_nil] at hb
    have hltI : ¬ (t.length : Int) < n := by have := HN.o; omega
    have Gx := qI (Gv.o.trans hu')
    have hn : u.length = n := by rw [HU.o, HN.o]
    have Jm : Hid (Slc wr 1 (.slice (some ⟨w.heap.size, 1, none⟩) n n) n (zL (u.map zg))) := qI ⟨by unfold zL; rw [List.length_map, List.length_map, hn, Nat.mul_one], .inr (.inr ⟨_, _, _, rfl, Nat.le_refl _, by have := Gi.o; simp only [maxLen]; omega, ⟨fun j x hx => za (o := 1 + j) hb (by
     rw [List.getElem?_toArray, Nat.add_comm]
     exact hx), lt_of_block hb⟩⟩)⟩
    have Jn := qI hn
    clear hu hu' hb hkw hn
    go_wp2_with fail
    go_ret2
    refine ⟨?_, Gc.o⟩
    have h9 := Jm.o
    rw [← Jn.o] at h9 ⊢
    exact bp Gx.o h9
end
theorem pgo_end {f : Nat} {out : List (List UInt8)} (h : 0 < f) : pGo f [] out = some out := by
 cases f with
 | zero => omega
 | succ f => rfl
theorem pgo_slash (f : Nat) (r : List UInt8) (out : List (List UInt8)) : pGo (f + 1) (47 :: r) out = pGo f r (out ++ [[]]) := by
 conv => lhs; unfold pGo
 rw [if_pos rfl]
theorem pgo_none {c : UInt8} (h : c ≠ 47) (f : Nat) (r : List UInt8) : pGo (f + 1) (c :: r) [] = none := by
 unfold pGo
 rw [if_neg h, if_pos rfl]
theorem pgo_plain {c : UInt8} (h : c ≠ 47) (h2 : c ≠ 126) (f : Nat) (r : List UInt8) (o : List (List UInt8)) (x : List UInt8) : pGo (f + 1) (c :: r) (o ++ [x]) = pGo f r (o ++ [x ++ [c]]) := by
 conv => lhs; unfold pGo
 rw [if_neg h, if_neg (by simp), if_neg h2, kC]
theorem bO (f : Nat) (r : List UInt8) (o : List (List UInt8)) (x : List UInt8) : pGo (f + 1) (126 :: r) (o ++ [x]) = match r with | [] => none | d :: r => if d = 48 then pGo f r (o ++ [x ++ [126]]) else if d = 49 then pGo f r (o ++ [x ++ [47]]) else none := by
 conv => lhs; unfold pGo
 rw [if_neg (by decide), if_neg (by simp), if_pos rfl]
 cases r with
 | nil => rfl
 | cons d r => simp only [kC]
theorem Z9 {S : ByteArray} {i : Nat} {c : UInt8} {t : List UInt8} (h : S.data.toList.drop i = c :: t) : ∃ h : i < S.size, S[i]'h = c := by
 have hl : i < S.data.toList.length := by
  rcases Nat.lt_or_ge i S.data.toList.length with g | g
  ·exact g
  ·rw [List.drop_eq_nil_of_le g] at h; cases h
 have hi : i < S.size := by simpa using hl
 refine ⟨hi, ?_⟩
 rw [List.drop_eq_getElem_cons hl] at h
 exact (List.cons.inj h).1
theorem jZ {α : Type} {l : List α} {k : Nat} {c : α} {r : List α} (h : l.drop k = c :: r) : l.drop (k + 1) = r := by
 rw [← List.drop_drop, h]; rfl
theorem str_app (x : List UInt8) (a : UInt8) : zg x ++ (⟨#[a]⟩ : ByteArray) = zg (x ++ [a]) := by
 refine qR ?_
 rw [zq, ByteArray.data_append, Array.toList_append, zq]
theorem str_sub {S : ByteArray} {k : Nat} {c : UInt8} {r : List UInt8} (x : List UInt8) (h : S.data.toList.drop k = c :: r) : zg x ++ S.extract k (k + 1) = zg (x ++ [c]) := by
 obtain ⟨hk, -⟩ := Z9 h
 refine qR ?_
 rw [zq, ByteArray.data_append, Array.toList_append, zq, bq S k (k + 1) (by omega), List.drop_take, h, show k + 1 - k = 1 by omega]
 rfl
def xo (p : List UInt8) (e : Ending) (w' : World) : Prop := match yf p with
 | none => e = .returned (.tuple #[.slice none 0 0, .bool false])
 | some l => ∃ a c, e = .returned (.tuple #[.slice a l.length c, .bool true]) ∧ Slc w' 1 (.slice a l.length c) l.length (zL (l.map zg))
theorem jy {p : List UInt8} {w' : World} (h : yf p = none) : xo p (.returned (.tuple #[.slice none 0 0, .bool false])) w' := by unfold xo; rw [h]
theorem zam {p : List UInt8} {l : List (List UInt8)} {w' : World} {a : Option Addr} {c : Nat} (h : yf p = some l) (hs : Slc w' 1 (.slice a l.length c) l.length (zL (l.map zg))) : xo p (.returned (.tuple #[.slice a l.length c, .bool true])) w' := by unfold xo; rw [h]; exact ⟨a, c, rfl, hs⟩
structure PG (S : ByteArray) (k n : Nat) (acc : List (List UInt8)) : Prop where
 go : ∃ f, (S.data.toList.drop k).length < f ∧ pGo f (S.data.toList.drop k) acc = yf S.data.toList
 len : acc.length = n
 few : n ≤ k
 short : ∀ y, y ∈ acc → y.length ≤ k
theorem PG.bad {S : ByteArray} {k n : Nat} {acc : List (List UInt8)} (h : PG S k n acc) (hx : ∀ f, (S.data.toList.drop k).length < f + 1 → pGo (f + 1) (S.data.toList.drop k) acc = none) : yf S.data.toList = none := by
 obtain ⟨f, h1, h2⟩ := h.go
 match f, h1, h2 with
 | f + 1, h1, h2 => rw [← h2, hx f h1]
theorem PG.next {S : ByteArray} {k n j m : Nat} {acc acc' : List (List UInt8)} (h : PG S k n acc) (hj : 1 ≤ j) (hx : ∀ f, (S.data.toList.drop k).length < f + 1 → pGo (f + 1) (S.data.toList.drop k) acc = pGo f (S.data.toList.drop (k + j)) acc') (hlt : k < S.data.toList.length) (hm : acc'.length = m) (h3 : m ≤ k + j) (h4 : ∀ y, y ∈ acc' → y.length ≤ k + j) : PG S (k + j) m acc' := by
 refine ⟨?_, hm, h3, h4⟩
 obtain ⟨f, h1, h2⟩ := h.go
 match f, h1, h2 with
 | f + 1, h1, h2 =>
  refine ⟨f, ?_, by rw [← h2, hx f h1]⟩
  rw [List.length_drop] at h1 ⊢
  omega
theorem strs_at {l : List (List UInt8)} {x : List UInt8} {m : Nat} (h : l.length = m) : (zL ((l ++ [x]).map zg))[m]? = some (.string (zg x)) := by
 unfold zL
 rw [List.getElem?_map, List.getElem?_map, List.getElem?_append_right (by omega), h, Nat.sub_self]; rfl
theorem strs_put {l : List (List UInt8)} {x y : List UInt8} {m : Nat} (h : l.length = m) : (zL ((l ++ [x]).map zg)).set m (.string (zg y)) = zL ((l ++ [y]).map zg) := by
 unfold zL
 rw [List.map_append, List.map_append, List.set_append_right _ _ (by rw [List.length_map, List.length_map, h]; exact Nat.le_refl _), List.length_map, List.length_map, h, Nat.sub_self]
 simp
section
variable {w : World}
theorem refParts_any (s : ByteArray) (hs : s.size ≤ 900000) :
  Calls Tryz.prog 28 #[.string s] w fun e w' => xo s.data.toList e w' ∧ zb [] w w' := by
 have hsI : (s.size : Int) ≤ 900000 := by omega
 have Jf := qI hs
 have HL : Hid (s.data.toList.length = s.size) := qI (ju s)
 clear hs
 go_enter func28, ntmps28
 go_wp2_with fail
 go_loopw [4, 5] (fun o i wr => ∃ (k n : Nat) (acc : List (List UInt8)) (a1 : Option Addr) (c1 : Nat), i = .int .i64 k ∧ k ≤ s.size ∧ o = .slice a1 n c1 ∧ PG s k n acc ∧ wr.ownsRow w.heap.size 9 1 (.slice a1 n c1) n (zL (acc.map zg)) ∧ zb [] w wr) (fun _ i _ => s.size - (intOf i).toNat)
 case atStart => exact ⟨0, 0, [], none, 0, rfl, Nat.zero_le _, rfl, ⟨⟨_, Nat.lt_succ_self _, by rw [List.drop_zero]; exact pGo_all _⟩, rfl, Nat.le_refl _, fun y h => nomatch h⟩, World.ownsRow_nil _ _ _ _, zb.refl _ _⟩
 case round =>
  obtain ⟨k, n, acc, a1, c1, rfl, hk, rfl, hpg, hown, hkw⟩ := hrel
  have Gd := qI hpg
  have Gb := qI hown
  have Gc := qI hkw
  have HK := qI hk
  cases hd : s.data.toList.drop k with
  | nil =>
   have hge : ¬ (k : Int) < s.size := by
    have h9 := congrArg List.length hd
    rw [List.length_drop, HL.o] at h9
    simp only [List.length_nil] at h9
    omega
   have HE : Hid (yf s.data.toList = some acc) := qI (by
    obtain ⟨f, h1, h2⟩ := hpg.go
    rw [hd] at h2 h1
    rw [← h2, pgo_end (by omega)])
   clear hpg hown hkw hd hk
   go_wp2_with fail
   go_ret2
   refine ⟨?_, Gc.o⟩
   have h9 := Slc.of_row Gb.o
   rw [← Gd.o.len] at h9 ⊢
   exact zam HE.o h9
  | cons c r =>
   obtain ⟨hlt, hc⟩ := Z9 hd
   have hltI : (k : Int) < s.size := by omega
   have HD := qI hd
   have Gq := qI hlt
   have Jg : Hid (k < s.data.toList.length) := qI (by rw [HL.o]; exact hlt)
   have hkI : (k : Int) ≤ 900000 := by omega
   clear hpg hown hkw hd hk
   by_cases h47 : c = 47
   ·subst h47
    have Gy := qI (yL wr [.string ⟨#[]⟩] 1 1 9 wr.heap.size rfl rfl (by decide))
    have Gz := qI (zh Gb.o ((zb.refl [] wr).alloc (.cells #[.string ⟨#[]⟩] 9)) (by simp))
    have Ge := qI (Gd.o.next (j := 1) (m := n + 1) (acc' := acc ++ [[]]) (by omega) (fun f _ => by rw [HD.o, pgo_slash, jZ HD.o]) Jg.o (by rw [List.length_append, Gd.o.len]; rfl) (by have := Gd.o.few; omega) (fun y hy => by
     rcases List.mem_append.1 hy with h | h
     ·have := Gd.o.short y h; omega
     ·simp at h; subst h; simp))
    have Gr : Hid (zL ((acc ++ [[]]).map zg) = zL (acc.map zg) ++ [.string ⟨#[]⟩]) := qI (by unfold zL; rw [List.map_append, List.map_append]; rfl)
    have Jh := qI Gd.o.few
    have Jo := qI Gb.o.lt
    go_wp2_with (at_builtin; refine yo bx Gz.o Gy.o (by intro u hu; simp at hu; subst hu; rfl) (by have h1 := Jh.o; have h2 := Gq.o; have h3 := Jf.o; simp only [maxLen]; omega) (by have h1 := Jh.o; have h2 := Gq.o; have h3 := Jf.o; omega) (by have := Gc.o.size; simp; omega) rfl _ _ rfl rfl rfl ?_; intro v' w' hown hk2 _ hbk; have Gs := qI hown; have Gw := qI hk2; clear hown hk2 hbk)
    case roundEnd =>
     have h9 := Gs.o
     rw [← Gr.o] at h9
     obtain ⟨a', c', rfl, -, -⟩ := (Slc.of_row h9).form
     exact ⟨⟨k + 1, n + 1, _, a', c', by go_num, by have := Gq.o; omega, rfl, Ge.o, h9, (Gc.o.alloc _).trans Gw.o (fun i hi => .inr (Jo.o i (Option.mem_toList.1 hi)).1)⟩, by have := Gq.o; simp [intOf]; omega⟩
   have h47' : c.toNat ≠ 47 := fun q => h47 (UInt8.toNat_inj.1 q)
   obtain ⟨f47, -⟩ := zt (a := (c.toNat : Int)) (b := 47) (by omega)
   rcases List.eq_nil_or_concat acc with rfl | ⟨l, x, rfl⟩
   ·have hn0 : n = 0 := Gd.o.len.symm
    subst hn0
    have Gh := qI (Gd.o.bad (fun f _ => by rw [HD.o]; exact pgo_none h47 f r))
    clear h47 h47'
    go_wp2_with fail
    go_ret2
    exact ⟨jy Gh.o, Gc.o⟩
   rw [List.concat_eq_append] at Gd Gb
   obtain ⟨m, rfl⟩ : ∃ m, n = m + 1 := ⟨l.length, by have := Gd.o.len; rw [List.length_append] at this; exact this.symm⟩
   have HM : Hid (l.length = m) := qI (by have := Gd.o.len; rw [List.length_append] at this; simpa using this)
   obtain ⟨g, hg⟩ : ∃ g, a1 = some ⟨g, 0, none⟩ := by
    rcases Gb.o.2 with ⟨-, h0⟩ | ⟨g, cap, cur, e, -⟩
    ·omega
    ·injection e with e1 e2 e3
     exact ⟨g, e1⟩
   subst hg
   have q0 := Gb.o.cellAt m (by omega)
   rw [strs_at HM.o] at q0
   have q1 := Gb.o.frozenAt m
   have Ja := qI (Gb.o.lt g rfl).1
   have hmI : (m : Int) ≤ 900000 := by have := Gd.o.few; omega
   obtain ⟨fm, -⟩ := zt (a := (m : Int) + 1) (b := 0) (by omega)
   have Gu : Hid (x.length ≤ k) := qI (Gd.o.short x (by simp))
   have Jb : Hid ((zg x).size ≤ 900000) := qI (by rw [zK]; have := Gu.o; omega)
   have Gl : Hid (∀ y, (wr.setCell ⟨g, m, none⟩ (.string (zg y))).ownsRow w.heap.size 9 1 (.slice (some ⟨g, 0, none⟩) (m + 1) c1) (m + 1) (zL ((l ++ [y]).map zg))) := qI (fun y => by
    have h9 := (Gb.o.stored m (.string (zg y))).1
    rw [strs_put HM.o] at h9
    exact h9)
   have Gm : Hid (∀ (j : Nat) (y : List UInt8), 1 ≤ j → y.length ≤ k + j → (∀ f, pGo (f + 1) (c :: r) (l ++ [x]) = pGo f (s.data.toList.drop (k + j)) (l ++ [y])) → PG s (k + j) (m + 1) (l ++ [y])) := qI (fun j y hj hy hx => Gd.o.next hj (fun f _ => by rw [HD.o]; exact hx f) Jg.o (by rw [List.length_append, HM.o]; rfl) (by have := Gd.o.few; omega) (fun z hz => by
    rcases List.mem_append.1 hz with h | h
    ·have := Gd.o.short z (by simp [h]); omega
    ·simp at h; subst h; exact hy))
   by_cases h126 : c = 126
   ·subst h126
    clear f47 h47 h47'
    cases r with
    | nil =>
     have Gh := qI (Gd.o.bad (fun f _ => by rw [HD.o, bO]))
     have hend : ¬ (k : Int) + 1 < s.size := by
      have h9 := congrArg List.length HD.o
      rw [List.length_drop, HL.o] at h9
      simp only [List.length_cons, List.length_nil] at h9
      omega
     clear q0 q1
     go_wp2_with fail
     go_ret2
     exact ⟨jy Gh.o, Gc.o⟩
    | cons d r =>
     have Jc := qI (jZ HD.o)
     obtain ⟨hlt1, hc1⟩ := Z9 Jc.o
     have hlt1I : (k : Int) + 1 < s.size := by omega
     by_cases h48 : d = 48
     ·subst h48
      have Ge := qI (Gm.o 2 (x ++ [126]) (by omega) (by have := Gu.o; simp; omega) (fun f => by rw [bO]; show (if 48 = 48 then _ else _) = _; rw [show s.data.toList.drop (k + 2) = r from jZ Jc.o]; rfl))
      have Ga := qI (Gl.o (x ++ [126]))
      rw [← str_app x 126] at Ga
      have hxs := Jb.o
      revert Ga q0 hxs
      generalize zg x = T
      intro q0 Ga hxs
      have hz1 : ¬ 9223372036854775807 < T.size + 1 := by omega
      go_wp2_with fail
      case roundEnd =>
       exact ⟨⟨k + 2, m + 1, _, _, _, by go_num, by omega, rfl, Ge.o, Ga.o, Gc.o.setCell (.inr Ja.o) _⟩, by simp [intOf]; omega⟩
     by_cases h49 : d = 49
     ·subst h49
      have Ge := qI (Gm.o 2 (x ++ [47]) (by omega) (by have := Gu.o; simp; omega) (fun f => by rw [bO]; show (if 49 = 48 then _ else _) = _; rw [show s.data.toList.drop (k + 2) = r from jZ Jc.o]; rfl))
      have Ga := qI (Gl.o (x ++ [47]))
      rw [← str_app x 47] at Ga
      have hxs := Jb.o
      revert Ga q0 hxs
      generalize zg x = T
      intro q0 Ga hxs
      have hz1 : ¬ 9223372036854775807 < T.size + 1 := by omega
      go_wp2_with fail
      case roundEnd =>
       exact ⟨⟨k + 2, m + 1, _, _, _, by go_num, by omega, rfl, Ge.o, Ga.o, Gc.o.setCell (.inr Ja.o) _⟩, by simp [intOf]; omega⟩
     have h48' : d.toNat ≠ 48 := fun q => h48 (UInt8.toNat_inj.1 q)
     have h49' : d.toNat ≠ 49 := fun q => h49 (UInt8.toNat_inj.1 q)
     obtain ⟨f48, -⟩ := zt (a := (d.toNat : Int)) (b := 48) (by omega)
     obtain ⟨f49, -⟩ := zt (a := (d.toNat : Int)) (b := 49) (by omega)
     have Gh := qI (Gd.o.bad (fun f _ => by rw [HD.o, bO]; show (if d = 48 then _ else if d = 49 then _ else none) = none; rw [if_neg h48, if_neg h49]))
     clear q0 q1 h48 h49 h48' h49'
     go_wp2_with fail
     go_ret2
     exact ⟨jy Gh.o, Gc.o⟩
   have h126' : c.toNat ≠ 126 := fun q => h126 (UInt8.toNat_inj.1 q)
   obtain ⟨f126, -⟩ := zt (a := (c.toNat : Int)) (b := 126) (by omega)
   have Ge := qI (Gm.o 1 (x ++ [c]) (Nat.le_refl _) (by have := Gu.o; simp; omega) (fun f => by rw [pgo_plain h47 h126, jZ HD.o]))
   have Ga := qI (Gl.o (x ++ [c]))
   have Jp := qI (str_sub x HD.o)
   rw [← Jp.o] at Ga
   have hxs := Jb.o
   clear h47 h47' h126 h126'
   revert Ga q0 hxs
   generalize zg x = T
   intro q0 Ga hxs
   have hz1 : ¬ 9223372036854775807 < T.size + 1 := by omega
   have hw1 : IntKind.i64.wrap (m : Int) = m := by rw [IntKind.wrap_i64]; omega
   have hw2 : IntKind.i64.wrap ((k : Int) + 1) = (k : Int) + 1 := by rw [IntKind.wrap_i64]; omega
   have hz2 : ¬ 9223372036854775807 < T.size + (min (k + 1) s.size - k) := by omega
   have hm0 : (0 : Int) ≤ m := by omega
   have hm1 : (m : Int) < (m : Int) + 1 := by omega
   have hk0 : (0 : Int) ≤ (k : Int) + 1 := by omega
   have hk1 : (k : Int) + 1 ≤ s.size := by omega
   have hk2 : (k : Int) ≤ (k : Int) + 1 := by omega
   have hk3 : ((k : Int) + 1).toNat = k + 1 := by omega
   have Js : Hid (∀ w' : World, zb [] wr w' → w'.cell? ⟨g, m, none⟩ = some (.string T)) := qI (fun w' k' => k'.cell q0 (by simp))
   have Jt : Hid (∀ w' : World, w' = wr.drew → w'.frozen? ⟨g, m, none⟩ = false) := qI (fun w' e => by subst e; exact q1)
   go_wp2_with fail
   refine zk (n := 18) (fun w' : World => w' = wr.drew) 17 (by kernel_rfl) (by kernel_rfl) ?_
   change zR _ _ _ _ _ _ _ _ _ wr.drew
   have hSS : (fun w' : World => w' = wr.drew) wr.drew := rfl
   refine zx ?_
   intro O R hO hR
   have hQp : ∀ c a (d : Nat) v w, R (.panic c) (a.put (some d) v) w → R (.panic c) a w := by subst hR; exact fun _ _ _ _ _ h => h
   refine qT 0 ?_ hO rfl rfl (by kernel_rfl) hQp (fun w hSw => ?_) hSS ?_
   rotate_left
   ·subst hSw; go_simp; try with_reducible rfl
   try simp only [zA,zN,zB,zC,zD]
   refine qT 1 ?_ hO rfl rfl (by kernel_rfl) hQp (fun w hSw => ?_) hSS ?_
   rotate_left
   ·subst hSw; go_simp; try with_reducible rfl
   try simp only [zA,zN,zB,zC,zD]
   refine qT 2 ?_ hO rfl rfl (by kernel_rfl) hQp (fun w hSw => ?_) hSS ?_
   rotate_left
   ·subst hSw; go_simp; try with_reducible rfl
   try simp only [zA,zN,zB,zC,zD]
   refine qT 3 ?_ hO rfl rfl (by kernel_rfl) hQp (fun w hSw => ?_) hSS ?_
   rotate_left
   ·subst hSw; go_simp; try with_reducible rfl
   try simp only [zA,zN,zB,zC,zD]
   refine qT 4 ?_ hO rfl rfl (by kernel_rfl) hQp (fun w hSw => ?_) hSS ?_
   rotate_left
   ·subst hSw; go_simp; try with_reducible rfl
   try simp only [zA,zN,zB,zC,zD]
   refine qT 5 ?_ hO rfl rfl (by kernel_rfl) hQp (fun w hSw => ?_) hSS ?_
   rotate_left
   ·subst hSw; go_simp; try with_reducible rfl
   try simp only [zA,zN,zB,zC,zD]
   refine qT 6 ?_ hO rfl rfl (by kernel_rfl) hQp (fun w hSw => ?_) hSS ?_
   rotate_left
   ·subst hSw; go_simp; try with_reducible rfl
   try simp only [zA,zN,zB,zC,zD]
   refine qT 7 ?_ hO rfl rfl (by kernel_rfl) hQp (fun w hSw => ?_) hSS ?_
   rotate_left
   ·subst hSw; go_simp; try with_reducible rfl
   try simp only [zA,zN,zB,zC,zD]
   refine qT 8 ?_ hO rfl rfl (by kernel_rfl) hQp (fun w hSw => ?_) hSS ?_
   rotate_left
   ·subst hSw; go_simp; try with_reducible rfl
   try simp only [zA,zN,zB,zC,zD]
   refine qT 9 ?_ hO rfl rfl (by kernel_rfl) hQp (fun w hSw => ?_) hSS ?_
   rotate_left
   ·subst hSw; go_simp; try with_reducible rfl
   try simp only [zA,zN,zB,zC,zD]
   refine qT 10 ?_ hO rfl rfl (by kernel_rfl) hQp (fun w hSw => ?_) hSS ?_
   rotate_left
   ·subst hSw; go_simp; try with_reducible rfl
   try simp only [zA,zN,zB,zC,zD]
   refine qT 11 ?_ hO rfl rfl (by kernel_rfl) hQp (fun w hSw => ?_) hSS ?_
   rotate_left
   ·subst hSw; go_simp; try with_reducible rfl
   try simp only [zA,zN,zB,zC,zD]
   refine qT 12 ?_ hO rfl rfl (by kernel_rfl) hQp (fun w hSw => ?_) hSS ?_
   rotate_left
   ·subst hSw; go_simp; try with_reducible rfl
   try simp only [zA,zN,zB,zC,zD]
   refine qT 13 ?_ hO rfl rfl (by kernel_rfl) hQp (fun w hSw => ?_) hSS ?_
   rotate_left
   ·subst hSw; go_simp; try with_reducible rfl
   try simp only [zA,zN,zB,zC,zD]
   refine qT 14 ?_ hO rfl rfl (by kernel_rfl) hQp (fun w hSw => ?_) hSS ?_
   rotate_left
   ·subst hSw; go_simp; try with_reducible rfl
   try simp only [zA,zN,zB,zC,zD]
   refine qT 15 ?_ hO rfl rfl (by kernel_rfl) hQp (fun w hSw => ?_) hSS ?_
   rotate_left
   ·subst hSw; go_simp; try with_reducible rfl
   try simp only [zA,zN,zB,zC,zD]
   refine qT 16 ?_ hO rfl rfl (by kernel_rfl) hQp (fun w hSw => ?_) hSS ?_
   rotate_left
   ·subst hSw; go_simp; try with_reducible rfl
   try simp only [zA,zN,zB,zC,zD]
   refine qO 17 hO rfl (by kernel_rfl) (fun K hK => ?_)
   go_simp
   refine hK _ _ (.inl rfl) ?_
   clear hK K
   try simp only [zA,zN,zB,zC,zD]
   refine zv hO (by kernel_rfl) ?_ _
   subst hR
   try clear hQp hO O
   have Jq := qI (Gc.o.drew.setCell (p := ⟨g, m, none⟩) (.inr Ja.o) (.string (T ++ s.extract k (k + 1))))
   have Jd : Hid ((wr.drew.setCell ⟨g, m, none⟩ (.string (T ++ s.extract k (k + 1)))).ownsRow w.heap.size 9 1 (.slice (some ⟨g, 0, none⟩) (m + 1) c1) (m + 1) (zL ((l ++ [x ++ [c]]).map zg))) := qI Ga.o.drew
   go_wp2_with fail
   case roundEnd =>
    exact ⟨⟨k + 1, m + 1, _, _, _, by go_num, by omega, rfl, Ge.o, Jd.o, Jq.o⟩, by simp [intOf]; omega⟩
end
theorem bc {w : World} {v : Value} {n : Nat} {l : List ByteArray} (h : Slc w 1 v n (zL l)) : l.length = n := by
 have h1 := h.1
 unfold zL at h1
 rw [List.length_map, Nat.mul_one] at h1
 exact h1
theorem jQ {w : World} {a : Option Addr} {n c : Nat} {l : List ByteArray} (h : Slc w 1 (.slice a n c) n (zL l)) {k : Nat} (hk : k < l.length) : ∃ g o, a = some ⟨g, o, none⟩ ∧ w.cell? ⟨g, o + k, none⟩ = some (.string l[k]) := by
 have hl := bc h
 rcases h.2 with ⟨-, h0⟩ | ⟨h0, -⟩ | ⟨g, o, cap, e, -, -, hr⟩
 ·omega
 ·omega
 ·simp only [Value.slice.injEq] at e
  exact ⟨g, o, e.1, hr.cells k _ (by unfold zL; rw [List.getElem?_map, List.getElem?_eq_getElem hk]; rfl)⟩
theorem Zz (l : List (List UInt8)) : (l.map zg).map (·.data.toList) = l := by
 rw [List.map_map]
 conv => rhs; rw [← List.map_id l]
 exact List.map_congr_left fun x _ => by rw [Function.comp_apply, zq]; rfl
theorem ptr_ge : ∀ l : List (List UInt8), l.length ≤ (kr l).length
 | [] => by simp
 | x :: l => by
  have h := ptr_ge l
  show l.length + 1 ≤ (47 :: JF x ++ kr l).length
  rw [List.length_append, List.length_cons]
  omega
theorem xQ.some_ {p : List UInt8} {l : List (List UInt8)} {e : Ending} {w' : World} (h : xQ p e w') (hl : yf p = some l) : ∃ a c, e = .returned (.tuple #[.slice a l.length c, .int .i64 0]) ∧ Slc w' 1 (.slice a l.length c) l.length (zL (l.map zg)) := by
 unfold xQ at h; rw [hl] at h; exact h
theorem xQ.none_ {p : List UInt8} {e : Ending} {w' : World} (h : xQ p e w') (hl : yf p = none) : e = .returned (.tuple #[.slice none 0 0, .int .i64 60]) := by
 unfold xQ at h; rw [hl] at h; exact h
theorem xo.some_ {p : List UInt8} {l : List (List UInt8)} {e : Ending} {w' : World} (h : xo p e w') (hl : yf p = some l) : ∃ a c, e = .returned (.tuple #[.slice a l.length c, .bool true]) ∧ Slc w' 1 (.slice a l.length c) l.length (zL (l.map zg)) := by
 unfold xo at h; rw [hl] at h; exact h
theorem xo.none_ {p : List UInt8} {e : Ending} {w' : World} (h : xo p e w') (hl : yf p = none) : e = .returned (.tuple #[.slice none 0 0, .bool false]) := by
 unfold xo at h; rw [hl] at h; exact h
section
variable {w : World} {a b : Option Addr} {n m c d : Nat} {la lb : List ByteArray}
theorem esc_ge (s : List UInt8) : s.length ≤ (JF s).length := by
 induction s with
 | nil => exact Nat.le_refl _
 | cons c r ih =>
  have h : 1 ≤ (escB c).length := by unfold escB; split; (· simp); split <;> simp
  show r.length + 1 ≤ (escB c ++ JF r).length
  rw [List.length_append]
  omega
end
end Go.Proofs.YtpbphdkjjoipnaaGreatDoor
