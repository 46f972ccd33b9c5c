/- Parts of one proof, merged: XZK XZM XZL XZN XZO. -/
import Derived.Test.YtpbphdkjjoipnaaGreatDoorGV
import Derived.Test.YtpbphdkjjoipnaaGreatDoorFA
import Derived.Laws.CopyOwn
import Derived.Deep.CutRange
import Derived.LoopTactic
import Derived.WalkSpells
import Derived.Handy
import Derived.Test.YtpbphdkjjoipnaaGreatDoorGU
import Derived.Test.YtpbphdkjjoipnaaGreatDoorFD
set_option linter.all false
set_option maxHeartbeats 12800000
set_option maxRecDepth 10000
set_option linter.unusedVariables false
set_option linter.unusedSimpArgs false
set_option linter.unnecessarySimpa false
namespace Go.Proofs.YtpbphdkjjoipnaaGreatDoor
open Go.RowKit
theorem JK : ∀ s : List UInt8, (yo s).length = s.length + (s.count 47 + s.count 126)
 | [] => rfl
 | c :: r => by
  have ih := JK r
  show (xM c ++ yo r).length = _
  rw [List.length_append, ih, List.length_cons, List.count_cons, List.count_cons]
  unfold xM
  by_cases h1 : c = 126
  ·subst h1; simp; omega
  ·by_cases h2 : c = 47
   ·subst h2; simp; omega
   ·simp [h1, h2]; omega
theorem esc_same : ∀ s : List UInt8, s.count 47 + s.count 126 = 0 → yo s = s
 | [], _ => rfl
 | c :: r, h => by
  rw [List.count_cons, List.count_cons] at h
  have h1 : c ≠ 126 := fun e => by subst e; simp at h
  have h2 : c ≠ 47 := fun e => by subst e; simp at h
  have ih := esc_same r (by omega)
  show xM c ++ yo r = _
  rw [ih]
  unfold xM
  rw [if_neg h1, if_neg h2]; rfl
theorem libCount (s : ByteArray) (c : UInt8) (w : World) : Calls Tryz.prog 129 #[.string s, .string ⟨#[c]⟩] w fun e w' => e = .returned (.int .i64 (s.data.toList.count c)) ∧ w = w' :=
 Zl (Any.strings_Count_one { Tryz.shSplit with } s c w)
structure Qi (w : World) (r : Nat) : Prop where
 tab : ∀ j, j < 256 → j ≠ 47 → j ≠ 126 → w.cell? ⟨r, j, none⟩ = some (.slice none 0 0)
 sl : ∃ ad c, w.cell? ⟨r, 47, none⟩ = some (.slice (some ad) 2 c) ∧ yA w (.slice (some ad) 2 c) [126, 49]
 ti : ∃ ad c, w.cell? ⟨r, 126, none⟩ = some (.slice (some ad) 2 c) ∧ yA w (.slice (some ad) 2 c) [126, 48]
 top : ∃ g o c, w.cell? ⟨r, 256, none⟩ = some (.slice (some ⟨g, o, none⟩) 2 c) ∧ w.cell? ⟨g, o, none⟩ = some (.string ⟨#[47]⟩) ∧ w.cell? ⟨g, o + 1, none⟩ = some (.string ⟨#[126]⟩)
theorem Qi.kept0 {w w' : World} {r : Nat} (h : Qi w r) (k : zc [] w w') : Qi w' r := by
 obtain ⟨h1, ⟨g1, c1, p1, p2⟩, ⟨g2, c2, q1, q2⟩, ⟨g3, o3, c3, t1, t2, t3⟩⟩ := h
 exact ⟨fun j a b c => k.cell (h1 j a b c) (by simp), ⟨g1, c1, k.cell p1 (by simp), p2.kept0 k⟩, ⟨g2, c2, k.cell q1 (by simp), q2.kept0 k⟩, ⟨g3, o3, c3, k.cell t1 (by simp), k.cell t2 (by simp), k.cell t3 (by simp)⟩⟩
theorem bytes_adds {w : World} {ad : Addr} {n c : Nat} {l : List UInt8} (h : yA w (.slice (some ad) n c) l) (hl : 0 < l.length) (hn : n = l.length) : ∀ j v, (l.map bv)[j]? = some v → w.cell? (ad.add j) = some v := by
 subst hn
 rcases h.2 with ⟨h0, -⟩ | ⟨h0, -⟩ | ⟨g, o, cap, e, -, -, hr⟩
 ·cases h0
 ·omega
 ·simp only [Value.slice.injEq, Option.some.injEq] at e
  obtain ⟨rfl, -⟩ := e
  exact hr.adds
theorem xz.rep {B b r ct : Nat} {w : World} {d s : Int} {Z : Array Value} {at_ : Option Addr} (h : xz B w b d s r Z at_ ct) : Qi w r := by
 have hb := h.bld.blk
 refine ⟨fun j h1 h2 h3 => zb hb (h.bld.nil j h1 (fun p hp => ?_)), ?_, ?_, ?_⟩
 ·simp only [List.mem_cons, List.not_mem_nil, or_false] at hp
  rcases hp with rfl | rfl
  ·exact fun e => h2 e.symm
  ·exact fun e => h3 e.symm
 ·obtain ⟨a, c, q1, q2, -⟩ := h.bld.ent (47, [126, 49]) (by simp)
  obtain ⟨g, o, e, -⟩ := yA.at q2 (k := 0) (by simp)
  subst e
  exact ⟨_, c, zb hb q1, q2⟩
 ·obtain ⟨a, c, q1, q2, -⟩ := h.bld.ent (126, [126, 48]) (by simp)
  obtain ⟨g, o, e, -⟩ := yA.at q2 (k := 0) (by simp)
  subst e
  exact ⟨_, c, zb hb q1, q2⟩
 ·have ht := h.bld.top
  have ho := Slc.of_row h.bld.own
  rcases ho.2 with ⟨h0, -⟩ | ⟨h0, -⟩ | ⟨g, o, cap, e, -, -, hr⟩
  ·cases h0
  ·cases h0
  ·simp only [Value.slice.injEq] at e
   obtain ⟨e1, -, -⟩ := e
   subst e1
   exact ⟨g, o, ct, zb hb ht, hr.cells 0 _ rfl, hr.cells 1 _ rfl⟩
theorem Qi.special {w : World} {r : Nat} (h : Qi w r) {c : UInt8} (hc : c = 47 ∨ c = 126) : (xM c).length = 2 ∧ ∃ ad cd, w.cell? ⟨r, c.toNat, none⟩ = some (.slice (some ad) 2 cd) ∧ yA w (.slice (some ad) 2 cd) (xM c) := by
 rcases hc with rfl | rfl
 ·obtain ⟨ad, cd, h1, h2⟩ := h.sl
  exact ⟨rfl, ad, cd, h1, h2⟩
 ·obtain ⟨ad, cd, h1, h2⟩ := h.ti
  exact ⟨rfl, ad, cd, h1, h2⟩
theorem KA (n : Nat) (hn : n ≤ 2000000) (W : World) : (Instr.makeSlice 28 (.int .i64 n) (.int .i64 n)).run Tryz.prog W = .ok (.slice (some ⟨W.heap.size, 0, none⟩) n n) (W.alloc (.cells (Array.replicate n (.int .u8 0)) 5)) := by
 obtain ⟨i, hi, hz, hs, hb⟩ := info_parts Z8.info
 have := run_make (P := Tryz.prog) W 28 5 i (.int .u8 0) Tryz.underlying28 hi hz .i64 .i64 n n (by omega) (by omega) (by rw [hb]; omega) (by omega)
 rw [hs] at this
 simp only [Int.toNat_natCast, Nat.mul_one] at this
 rw [show Array.replicate n (Value.int .u8 0) = madeCells #[.int .u8 0] n from by rw [← Array.toArray_toList (xs := madeCells #[.int .u8 0] n), toList_madeCells_one, List.toArray_replicate]]
 exact this
theorem KR (B N j : Nat) (hj : j < N) (W : World) : (Instr.slice 28 (.slice (some ⟨B, 0, none⟩) N N) (some (.int .i64 (j : Int))) none none).run Tryz.prog W = .ok (.slice (some ⟨B, j, none⟩) (N - j) (N - j)) W := by
 obtain ⟨inf, hinf, hz, hs, hb⟩ := info_parts Z8.info
 simp [hs, Instr.slice, Instr.sliceBounds, Instr.sliceBound, asIntOf, run_underlying Z8.und, sizeOf, typeInfo, hinf, show j ≤ N by omega, show N ≠ j by omega, jG]
structure ky (w : World) (B N : Nat) (out : List UInt8) (cur : List Value) : Prop where
 blk : w.heap[B]? = some (.cells cur.toArray 5 (0, 0))
 len : cur.length = N
 outs : cur.take out.length = out.map bv
 le : out.length ≤ N
theorem buf_new (w : World) (N : Nat) : ky (w.alloc (.cells (Array.replicate N (.int .u8 0)) 5)) w.heap.size N [] (List.replicate N (.int .u8 0)) :=
 ⟨by rw [List.toArray_replicate]; exact heap_alloc_new w _, by simp, rfl, Nat.zero_le _⟩
theorem ky.kept {w w' : World} {B N : Nat} {out : List UInt8} {cur : List Value} {X : List Nat} (h : ky w B N out cur) (k : zc X w w') (hx : B ∉ X) : ky w' B N out cur :=
 ⟨k.heap h.blk hx, h.len, h.outs, h.le⟩
theorem ky.cell {w : World} {B N : Nat} {out : List UInt8} {cur : List Value} (h : ky w B N out cur) {j : Nat} (hj : j < N) : ∃ u, w.cell? ⟨B, j, none⟩ = some u := by
 have h1 : j < cur.length := by rw [h.len]; exact hj
 exact ⟨cur[j], zb h.blk (by simp [h1])⟩
theorem ky.store {w : World} {B N : Nat} {out : List UInt8} {cur : List Value} (h : ky w B N out cur) (hj : out.length < N) (c : UInt8) : ky (w.setCell ⟨B, out.length, none⟩ (bv c)) B N (out ++ [c]) (cur.set out.length (bv c)) := by
 refine ⟨ze h.blk (by simp), by rw [List.length_set]; exact h.len, ?_, by simp; omega⟩
 have h1 : out.length < cur.length := by rw [h.len]; exact hj
 rw [List.length_append, List.length_singleton, List.take_succ_eq_append_getElem (by rw [List.length_set]; exact h1), List.take_set_of_le (Nat.le_refl _), h.outs, List.getElem_set_self, List.map_append]
 rfl
theorem ky.splice {w w' : World} {B N : Nat} {out : List UInt8} {cur : List Value} (h : ky w B N out cur) (xs : List UInt8) (hj : out.length + xs.length ≤ N) (hb : w'.heap[B]? = some (.cells (splice cur out.length (xs.map bv)).toArray 5 (0, 0))) : ky w' B N (out ++ xs) (Go.splice cur out.length (xs.map bv)) := by
 refine ⟨hb, by rw [length_splice _ _ _ (by rw [List.length_map, h.len]; exact hj)]; exact h.len, ?_, by rw [List.length_append]; exact hj⟩
 unfold Go.splice
 have h1 : out.length ≤ cur.length := by rw [h.len]; exact h.le
 rw [List.length_append, List.map_append, ← h.outs]
 have h2 : (cur.take out.length).length = out.length := by rw [List.length_take]; omega
 rw [← List.append_assoc, List.take_append_of_le_length (by rw [List.length_append, List.length_map, h2]; exact Nat.le_refl _), List.take_of_length_le (by rw [List.length_append, List.length_map, h2]; exact Nat.le_refl _)]
theorem ky.full {w : World} {B N : Nat} {out : List UInt8} {cur : List Value} (h : ky w B N out cur) (hn : out.length = N) (hN : N ≤ 2000000) : yA w (.slice (some ⟨B, 0, none⟩) N N) out := by
 subst hn
 refine ⟨by simp, .inr (.inr ⟨B, 0, out.length, rfl, Nat.le_refl _, by simp only [maxLen]; omega, ⟨?_, lt_of_block h.blk⟩⟩)⟩
 have h1 : cur = out.map bv := by
  have := h.outs
  rw [List.take_of_length_le (by rw [h.len]; exact Nat.le_refl _)] at this
  exact this
 intro j v hv
 rw [Nat.zero_add, cell_of_row _ B j _ 5 (0, 0) h.blk, h1]
 simpa using hv
theorem oper_copy {P : Program} {o : Oper} {a : Act} {w : World} {K : Act → World → Prop} {Q : Exit → Act → World → Prop} (hgd : o.guard = none) (d s : Operand) (dT sT : TypeId)
  (ho : o.op = .call { callee := .builtin .copy, args := #[d, s], argTypes := #[dT, sT] }) (elem : TypeId) (hu : P.underlying dT = some (.slice elem)) (hsz : (P.info? elem).map (·.size) = some 1)
  (dp sp : Option Addr) (dLen dCap sLen sCap : Nat) (hd : a.eval d = .slice dp dLen dCap) (hs : a.eval s = .slice sp sLen sCap)
  (g off : Nat) (cur : List Value) (t : TypeId) (hg : w.heap[g]? = some (.cells cur.toArray t (0, 0))) (cs : List Value) (hn : cs.length = Nat.min sLen dLen)
  (hpos : 0 < cs.length → dp = some ⟨g, off, none⟩ ∧ ∃ ad, sp = some ad ∧ ∀ j v, cs[j]? = some v → w.cell? (ad.add j) = some v)
  (hfit : off + cs.length ≤ cur.length) (h1 : ∀ v ∈ cs, v.oneCell' = true) (B : Nat) (w0 : World) (hb : Below B w0 w) (hBg : B ≤ g)
  (h : ∀ w', Hid (w'.heap[g]? = some (.cells (Go.splice cur off cs).toArray t (0, 0))) → Below B w0 w' → K (a.put o.dst (goInt cs.length)) w') : Oper.wp P o a w K Q := by
 have h9 := step_copy_splice (Q := Q) (K := K) (ops := #[]) (E := False) hgd d s dT sT ho elem hu hsz dp sp dLen dCap sLen sCap hd hs g off cur t hg cs hn hpos hfit h1 B w0 hb hBg h
 rwa [if_pos (show Region.wanted o (yielded #[] a.tmps) = true by simp [Region.wanted, hgd])] at h9
section
variable {P : Program} {ops : Array Oper} {Q : Exit → Act → World → Prop} {md : Region.Mode} {S : World → Prop} {L : Nat}
theorem zae {i : Nat} {oi : Oper} {v : Value} (hi : ops[i]? = some oi) (hsel : ∀ (j : Nat) (o : Oper) cs b, ops[j]? = some o → o.op ≠ .select cs b)
  (hQ : ∀ c a w, Q (.panic c) (a.put oi.dst v) w → Q (.panic c) a w) (hne : i ≠ L) :
  ∀ (fuel : Nat) (listed : Array Bool) (a : Act) (w : World),
   (∀ j oj, ops[j]? = some oj → j ≠ i → listed.getD j true = false → (∀ e ∈ oj.after, Region.binds md e = true → e.on ≠ i) → oi.apart ops oj = true) →
   (listed.getD L true = true ∧ listed.getD L false = true ∨ S w) → i ∈ Region.ready md ops listed → YieldsIf P ops (fun _ => True) oi v a →
   yp P md ops Q S L fuel (listed.setIfInBounds i true) (a.put oi.dst v) w → yp P md ops Q S L (fuel + 1) listed a w := by
 intro fuel
 induction fuel with
 | zero =>
  intro listed a w _ hU hr hy H
  refine ⟨fun h => (by rw [h] at hr; cases hr), fun j hj => ?_⟩
  by_cases hji : j = i
  ·subst hji; exact hy.wpOp hi trivial ⟨hU.elim (fun g => .inr (.inl g.2)) (fun g => .inr (.inr g)), H⟩
  ·have := ready_mono hj hji
   rw [H.1] at this
   cases this
 | succ fuel ih =>
  intro listed a w hfree hU hr hy H
  refine ⟨fun h => (by rw [h] at hr; cases hr), fun j hj => ?_⟩
  by_cases hji : j = i
  ·subst hji; exact hy.wpOp hi trivial ⟨hU.elim (fun g => .inr (.inl g.2)) (fun g => .inr (.inr g)), H⟩
  ·have h1 := H.2 j (ready_mono hj hji)
   obtain ⟨hjun, oj, hoj, hall⟩ := mem_ready.1 hj
   have hnot : ∀ e ∈ oj.after, Region.binds md e = true → e.on ≠ i := fun e he hb heq => by
    have h1 := hall e he hb
    have h0 := (mem_ready.1 hr).1
    rw [heq] at h1
    rcases Nat.lt_or_ge i listed.size with h' | h'
    ·simp [h'] at h0 h1; rw [h0] at h1; cases h1
    ·simp [Array.getElem?_eq_none h'] at h1
   have h2 := wpOp_putIf hoj (hfree j oj hoj hji hjun hnot) (fun cs b => hsel i oi cs b hi) (fun cs b => hsel j oj cs b hoj) hQ hy h1
   have hfree' : ∀ k ok, ops[k]? = some ok → k ≠ i → (listed.setIfInBounds j true).getD k true = false →
     (∀ e ∈ ok.after, Region.binds md e = true → e.on ≠ i) → oi.apart ops ok = true := fun k ok hk hki hun hno => by
    refine hfree k ok hk hki ?_ hno
    by_cases hjk : j = k
    ·subst hjk; exact hjun
    ·rw [getD_set_ne true hjk] at hun; exact hun
   refine wpOp_mono (fun a' w' h3 => ?_) h2
   have hjsz : j < listed.size := by
    rcases Nat.lt_or_ge j listed.size with h' | h'
    ·exact h'
    ·simp [Array.getD_eq_getD_getElem?, Array.getElem?_eq_none h'] at hjun
   have hc : j = L ∨ listed.getD L false = true ∨ S w' := by
    rcases h3.2.1 with g | g | g
    ·exact .inl g
    ·rw [qu listed hne false] at g; exact .inr (.inl g)
    ·exact .inr (.inr g)
   have hU' : ((listed.setIfInBounds j true).getD L true = true ∧ (listed.setIfInBounds j true).getD L false = true) ∨ S w' := by
    rcases hc with g | g | g
    ·subst g
     exact .inl ⟨by simp [hjsz], by simp [hjsz]⟩
    ·refine .inl ?_
     by_cases hjL : j = L
     ·subst hjL
      exact ⟨by simp [hjsz], by simp [hjsz]⟩
     ·rw [qu listed hjL false, qu listed hjL true]
      refine ⟨?_, g⟩
      rcases Nat.lt_or_ge L listed.size with h' | h'
      ·simpa [Array.getD_eq_getD_getElem?, h'] using g
      ·simp [Array.getD_eq_getD_getElem?, Array.getElem?_eq_none h']
    ·exact .inr g
   refine ⟨hc, ih (listed.setIfInBounds j true) a' w' hfree' hU' (ready_mono hr (Ne.symm hji)) h3.1 ?_⟩
   rw [Array.setIfInBounds_comm _ _ hji]
   exact h3.2.2
theorem xb {O : Array Oper} {i dst : Nat} {oi : Oper} {v : Value} {fuel : Nat} {listed : Array Bool} {a : Act} {w : World} (hO : O = ops) (hi : ops[i]? = some oi) (hd : oi.dst = some dst)
  (hs : Region.noSelect ops = true) (hf : Region.free md ops listed i = true) (hr : (Region.ready md ops listed).contains i = true) (hne : i ≠ L)
  (hQ : ∀ c a (d : Nat) v w, Q (.panic c) (a.put (some d) v) w → Q (.panic c) a w) (hy : YieldsIf P ops (fun _ => True) oi v a) (hS : S w)
  (h : yp P md O Q S L fuel (listed.setIfInBounds i true) (a.put (some dst) v) w) : yp P md O Q S L (fuel + 1) listed a w := by
 subst hO
 exact zae hi (Region.noSelect_spec hs) (fun c a w h => hQ c a dst v w (by rw [hd] at h; exact h)) hne fuel listed a w (Region.free_spec hi hf) (.inr hS) (by simpa using hr) hy (by rw [hd]; exact h)
end
def spc (s : List UInt8) : Nat := s.count 47 + s.count 126
theorem spc_take (s : List UInt8) {k : Nat} (h : k < s.length) : spc (s.take (k + 1)) = spc (s.take k) + (if s[k] = 47 ∨ s[k] = 126 then 1 else 0) := by
 unfold spc
 rw [List.take_succ_eq_append_getElem h, List.count_append, List.count_append, List.count_singleton, List.count_singleton]
 generalize s[k] = c
 by_cases h1 : c = 47
 ·subst h1; simp; omega
 ·by_cases h2 : c = 126
  ·subst h2; simp; omega
  ·simp [h1, h2]
theorem spc_le (s : List UInt8) (k : Nat) : spc (s.take k) ≤ k := by
 induction k with
 | zero => simp [spc]
 | succ k ih =>
  by_cases h : k < s.length
  ·rw [spc_take s h]; split <;> omega
  ·rw [List.take_of_length_le (by omega)]
   rw [List.take_of_length_le (by omega)] at ih
   omega
theorem esc_app : ∀ a b : List UInt8, yo (a ++ b) = yo a ++ yo b
 | [], _ => rfl
 | c :: a, b => by
  show xM c ++ yo (a ++ b) = (xM c ++ yo a) ++ yo b
  rw [esc_app a b, List.append_assoc]
theorem esc_next {s rr : List UInt8} {k : Nat} {c : UInt8} (hd : s.drop k = c :: rr) : yo (s.take (k + 1)) = yo (s.take k) ++ xM c ∧ (yo (s.take k)).length + (xM c).length ≤ (yo s).length := by
 have hk : k < s.length := by
  rcases Nat.lt_or_ge k s.length with h | h
  ·exact h
  ·rw [List.drop_eq_nil_of_le h] at hd; cases hd
 have hc : s[k] = c := by
  rw [List.drop_eq_getElem_cons hk] at hd
  exact (List.cons.inj hd).1
 have h1 : yo (s.take (k + 1)) = yo (s.take k) ++ xM c := by
  rw [List.take_succ_eq_append_getElem hk, hc, esc_app]
  show _ ++ (xM c ++ []) = _
  rw [List.append_nil]
 refine ⟨h1, ?_⟩
 have h2 : yo s = yo (s.take (k + 1)) ++ yo (s.drop (k + 1)) := by rw [← esc_app, List.take_append_drop]
 rw [h2, h1, List.length_append, List.length_append]
 omega
theorem esc_plain {c : UInt8} (h : ¬ (c = 47 ∨ c = 126)) : xM c = [c] := by
 unfold xM
 rw [if_neg (fun e => h (.inr e)), if_neg (fun e => h (.inl e))]
section
variable {w : World} {r : Nat}
set_option maxRecDepth 100000 in
theorem ZH (h : Qi w r) (s : ByteArray) (hs : s.size ≤ 1000000) :
  Calls Tryz.prog 306 #[.pointer (some ⟨r, 0, none⟩), .string s] w fun e w' => e = .returned (.string (zf (yo s.data.toList))) ∧ zc [] w w' := by
 have HR := qI h
 obtain ⟨gt, ot, ct, t0, t1, t2⟩ := h.top
 have hsI : (s.size : Int) ≤ 1000000 := by omega
 have HL : Hid (s.data.toList.length = s.size) := qI (kS s)
 have Gz := qI hs
 obtain ⟨p, hp⟩ : ∃ p, s.data.toList.count 47 = p := ⟨_, rfl⟩
 obtain ⟨q, hq⟩ : ∃ q, s.data.toList.count 126 = q := ⟨_, rfl⟩
 have hpl : p ≤ s.size := by rw [← hp, ← HL.o]; exact List.count_le_length
 have hql : q ≤ s.size := by rw [← hq, ← HL.o]; exact List.count_le_length
 have hpI : (p : Int) ≤ 1000000 := by omega
 have hqI : (q : Int) ≤ 1000000 := by omega
 have Gp : Hid (spc s.data.toList = p + q) := qI (by unfold spc; rw [hp, hq])
 have HP := qI hp
 have HQ := qI hq
 have Gj := qI hpl
 have Ja := qI hql
 clear h hs hp hq hpl hql
 go_enter Tryz.func306, Tryz.ntmps306
 go_upto_if 26 with fail
 obtain ⟨b26, hb26⟩ : ∃ b, decide ((16 : Int) ≤ s.size) = b := ⟨_, rfl⟩
 rw [hb26]
 have H26 := qI hb26
 clear hb26
 go_cut [5, 6] from 27 to 80 (fun a b wr => a = .int .i64 ((s.size : Int) + ((p + q : Nat) : Int)) ∧ b = .bool (decide (0 < p + q)) ∧ zc [] w wr)
 case first =>
  cases b26
  rotate_left
  ·have CC := qI (fun (c : UInt8) (w' : World) => libCount s c w')
   go_wp2_with fail
   go_loopw [32, 5, 6] (fun i a b wr => ((i = .int .i64 0 ∧ a = .int .i64 s.size ∧ b = .bool false) ∨ (i = .int .i64 1 ∧ a = .int .i64 ((s.size : Int) + p) ∧ b = .bool (decide (0 < p))) ∨ (i = .int .i64 2 ∧ a = .int .i64 ((s.size : Int) + ((p + q : Nat) : Int)) ∧ b = .bool (decide (0 < p + q)))) ∧ zc [] w wr) (fun i _ _ _ => 2 - (intOf i).toNat)
   case atStart => exact ⟨.inl ⟨rfl, rfl, rfl⟩, zc.refl _ _⟩
   case round =>
    obtain ⟨⟨rfl, rfl, rfl⟩ | ⟨rfl, rfl, rfl⟩ | ⟨rfl, rfl, rfl⟩, hk⟩ := hrel
    rotate_left 2
    ·go_wp2_with fail
     go_meet
     exact ⟨rfl, rfl, hk⟩
    ·have Ga := qI hk
     have y0 := hk.cell t1 (by simp)
     obtain ⟨ad, cd, u0, -⟩ := (HR.o.kept0 hk).sl
     have e0 : ((⟨#[47]⟩ : ByteArray)[0]'(by decide)).toNat = 47 := rfl
     have C0 := qI (CC.o 47)
     rw [HP.o] at C0
     clear hk
     by_cases h0 : p = 0
     ·obtain ⟨n1, n2⟩ := yk (a := (p : Int)) (b := 0) (by omega)
      go_wp2_with fail
      refine (C0.o _).mono ?_
      rintro e w2 ⟨rfl, rfl⟩
      go_wp2_with fail
      case roundEnd => exact ⟨⟨.inr (.inl ⟨rfl, by simp [h0], by simp [h0]⟩), Ga.o⟩, by simp [intOf]⟩
     ·obtain ⟨n1, n2⟩ := zy (a := (p : Int)) (b := 0) (by omega)
      have hv0 : 0 < p := by omega
      have E0 := zv u0
      have hw1 : IntKind.i64.wrap (p : Int) = p := by rw [IntKind.wrap_i64]; omega
      have hw2 : IntKind.i64.wrap ((s.size : Int) + p) = (s.size : Int) + p := by rw [IntKind.wrap_i64]; omega
      go_wp2_with fail
      refine (C0.o _).mono ?_
      rintro e w2 ⟨rfl, rfl⟩
      go_wp2_with fail
      refine zR wr (by kernel_rfl) (by kernel_rfl) (zc.refl _ _) ?_
      clear u0 y0
      repeat go_big_quiet_step (fail)
      refine wpQuiet_nil ?_
      intro w3 hk3
      clear E0
      go_wp2_with fail
      case roundEnd => exact ⟨⟨.inr (.inl ⟨rfl, by simp, by simp [hv0]⟩), Ga.o.then hk3⟩, by simp [intOf]⟩
    ·have Ga := qI hk
     have y0 := hk.cell t2 (by simp)
     obtain ⟨ad, cd, u0, -⟩ := (HR.o.kept0 hk).ti
     have e0 : ((⟨#[126]⟩ : ByteArray)[0]'(by decide)).toNat = 126 := rfl
     have C0 := qI (CC.o 126)
     rw [HQ.o] at C0
     clear hk
     by_cases h0 : q = 0
     ·obtain ⟨n1, n2⟩ := yk (a := (q : Int)) (b := 0) (by omega)
      go_wp2_with fail
      refine (C0.o _).mono ?_
      rintro e w2 ⟨rfl, rfl⟩
      go_wp2_with fail
      case roundEnd => exact ⟨⟨.inr (.inr ⟨rfl, by rw [h0]; rfl, by rw [h0]; rfl⟩), Ga.o⟩, by simp [intOf]⟩
     ·obtain ⟨n1, n2⟩ := zy (a := (q : Int)) (b := 0) (by omega)
      have hv0 : 0 < q := by omega
      have E0 := zv u0
      have hw1 : IntKind.i64.wrap (q : Int) = q := by rw [IntKind.wrap_i64]; omega
      have hw2 : IntKind.i64.wrap (((s.size : Int) + p) + q) = ((s.size : Int) + p) + q := by rw [IntKind.wrap_i64]; omega
      go_wp2_with fail
      refine (C0.o _).mono ?_
      rintro e w2 ⟨rfl, rfl⟩
      go_wp2_with fail
      refine zR wr (by kernel_rfl) (by kernel_rfl) (zc.refl _ _) ?_
      clear u0 y0
      repeat go_big_quiet_step (fail)
      refine wpQuiet_nil ?_
      intro w3 hk3
      clear E0
      go_wp2_with fail
      case roundEnd => exact ⟨⟨.inr (.inr ⟨rfl, by congr 1; omega, by rw [decide_eq_true (by omega)]⟩), Ga.o.then hk3⟩, by simp [intOf]⟩
  ·go_wp2_with fail
   go_loopw [10, 5, 6] (fun i a b wr => ∃ k : Nat, i = .int .i64 k ∧ k ≤ s.size ∧ a = .int .i64 ((s.size : Int) + (spc (s.data.toList.take k) : Nat)) ∧ b = .bool (decide (0 < spc (s.data.toList.take k))) ∧ zc [] w wr) (fun i _ _ _ => s.size - (intOf i).toNat)
   case atStart => exact ⟨0, rfl, Nat.zero_le _, by simp [spc], by simp [spc], zc.refl _ _⟩
   case round =>
    obtain ⟨k, rfl, hk, rfl, rfl, hkw⟩ := hrel
    have Ga := qI hkw
    by_cases hlt : k < s.size
    rotate_left
    ·obtain rfl : k = s.size := by omega
     have HE : Hid (spc (s.data.toList.take s.size) = p + q) := qI (by rw [List.take_of_length_le (by rw [HL.o]; exact Nat.le_refl _), Gp.o])
     have hltI : ¬ (s.size : Int) < s.size := by omega
     rw [HE.o]
     clear hlt hkw hk
     go_wp2_with fail
     go_meet
     exact ⟨rfl, rfl, Ga.o⟩
    have hltI : (k : Int) < s.size := by omega
    have hkl : k < s.data.toList.length := by rw [HL.o]; exact hlt
    obtain ⟨c, rr, hd⟩ : ∃ c rr, s.data.toList.drop k = c :: rr := ⟨_, _, List.drop_eq_getElem_cons hkl⟩
    obtain ⟨hlt', hc⟩ := bl hd
    have hxc : s.data.toList[k] = c := by
     have h9 := hd
     rw [List.drop_eq_getElem_cons hkl] at h9
     exact (List.cons.inj h9).1
    have Gb := qI (spc_take s.data.toList hkl)
    rw [hxc] at Gb
    have Gg := qI (spc_le s.data.toList k)
    have Gc := qI hlt
    have hcl : c.toNat < 256 := c.toNat_lt
    have hclI : (c.toNat : Int) < 256 := by omega
    clear hkw hk hkl hd hxc hlt
    by_cases hsp : c = 47 ∨ c = 126
    ·rw [if_pos hsp] at Gb
     obtain ⟨-, ad, cd, u0, -⟩ := (HR.o.kept0 Ga.o).special hsp
     have hneq : ∀ (w : World) (a : Option Addr) (n c : Nat), (binOp .neq 28 (.slice a n c) (.slice none 0 0)).run Tryz.prog w = .ok (.bool !a.isNone) w := fun w a n c => run_neq_slice_nil_any w _ _ a n c 0 0 Tryz.underlying28
     have hX : ((spc (s.data.toList.take k) : Nat) : Int) ≤ 1000000 := by have h1 := Gg.o; have h2 := Gc.o; have h3 := Gz.o; omega
     clear hsp hcl
     revert Gb hX
     generalize spc (s.data.toList.take k) = X
     intro Gb hX
     go_wp2_with fail
     case roundEnd => exact ⟨⟨k + 1, by go_num, by have := Gc.o; omega, by rw [Gb.o]; rfl, by rw [Gb.o, decide_eq_true (by omega)], Ga.o⟩, by have := Gc.o; simp [intOf]; omega⟩
    ·rw [if_neg hsp] at Gb
     have h1 : c.toNat ≠ 47 := fun e => hsp (.inl (UInt8.toNat_inj.1 e))
     have h2 : c.toNat ≠ 126 := fun e => hsp (.inr (UInt8.toNat_inj.1 e))
     have u0 := (HR.o.kept0 Ga.o).tab c.toNat hcl h1 h2
     have hneq : ∀ (w : World) (a : Option Addr) (n c : Nat), (binOp .neq 28 (.slice a n c) (.slice none 0 0)).run Tryz.prog w = .ok (.bool !a.isNone) w := fun w a n c => run_neq_slice_nil_any w _ _ a n c 0 0 Tryz.underlying28
     clear hsp h1 h2 hcl
     go_wp2_with fail
     case roundEnd => exact ⟨⟨k + 1, by go_num, by have := Gc.o; omega, by rw [Gb.o]; rfl, by rw [Gb.o]; rfl, Ga.o⟩, by have := Gc.o; simp [intOf]; omega⟩
 case rest =>
  obtain ⟨rfl, rfl, hkc⟩ := hcut
  have Gk := qI hkc
  have Gq := qI (JK s.data.toList)
  rw [HP.o, HQ.o, HL.o] at Gq
  by_cases h0 : p + q = 0
  ·have Jc : Hid (zf (yo s.data.toList) = s) := qI (by rw [esc_same _ (by rw [HP.o, HQ.o]; exact h0)]; rfl)
   rw [decide_eq_false (show ¬ 0 < p + q by omega)]
   clear hkc h0
   go_wp2_with fail
   go_ret
   exact ⟨by rw [Jc.o]; rfl, Gk.o⟩
  rw [decide_eq_true (show 0 < p + q by omega)]
  obtain ⟨N, hN⟩ : ∃ N, s.size + (p + q) = N := ⟨_, rfl⟩
  have hNI : (s.size : Int) + ((p + q : Nat) : Int) = (N : Int) := by omega
  have HN : Hid ((yo s.data.toList).length = N) := qI (by rw [Gq.o, hN])
  rw [hNI]
  have hNb : N ≤ 2000000 := by have := Gj.o; have := Ja.o; have := Gz.o; have h1 := spc_le s.data.toList s.data.toList.length; rw [List.take_length, Gp.o, HL.o] at h1; omega
  have hmk := KA N hNb
  have Gr := qI hNb
  clear hkc h0 hN hNI hNb Gq Gp HP HQ Gj Ja hpI hqI
  go_upto_region 23 with fail
  have Gs := qI (buf_new wc N)
  have Gt := qI (Gk.o.then ((zc.refl _ _).alloc (.cells (Array.replicate N (.int .u8 0)) 5)))
  have Gd : Hid (w.heap.size ≤ wc.heap.size) := qI Gk.o.size
  clear hmk Gk
  revert Gs Gt
  generalize wc.alloc (.cells (Array.replicate N (.int .u8 0)) 5) = WB
  revert Gd
  generalize wc.heap.size = B
  intro Gd Gs Gt
  go_wp2_with fail
  go_loopw [13, 14] (fun a b wq => ∃ (k : Nat) (cur : List Value), b = .int .i64 k ∧ k ≤ s.size ∧ a = .int .i64 ((yo (s.data.toList.take k)).length : Nat) ∧ ky wq B N (yo (s.data.toList.take k)) cur ∧ zc [] w wq) (fun _ b _ => s.size - (intOf b).toNat)
  case atStart => exact ⟨0, _, rfl, Nat.zero_le _, rfl, Gs.o, Gt.o⟩
  case round =>
   obtain ⟨k, cur, rfl, hk, rfl, hbuf, hkw⟩ := hrel
   have Ga := qI hkw
   have Ge := qI hbuf
   by_cases hlt : k < s.size
   rotate_left
   ·obtain rfl : k = s.size := by omega
    have hltI : ¬ (s.size : Int) < s.size := by omega
    have hts : s.data.toList.take s.size = s.data.toList := List.take_of_length_le (by rw [HL.o]; exact Nat.le_refl _)
    rw [hts] at Ge
    have cv := yA.toStr (Ge.o.full HN.o Gr.o)
    clear hlt hkw hk hbuf hts
    go_wp2_with fail
    go_ret
    exact ⟨rfl, Ga.o⟩
   have hltI : (k : Int) < s.size := by omega
   have hkl : k < s.data.toList.length := by rw [HL.o]; exact hlt
   obtain ⟨c, rr, hd⟩ : ∃ c rr, s.data.toList.drop k = c :: rr := ⟨_, _, List.drop_eq_getElem_cons hkl⟩
   obtain ⟨hlt', hc⟩ := bl hd
   obtain ⟨hn1, hn2⟩ := esc_next hd
   rw [HN.o] at hn2
   have Gb := qI hn1
   have Gg := qI hn2
   have Gc := qI hlt
   have hcl : c.toNat < 256 := c.toNat_lt
   have hclI : (c.toNat : Int) < 256 := by omega
   have hneq : ∀ (w : World) (a : Option Addr) (n c : Nat), (binOp .neq 28 (.slice a n c) (.slice none 0 0)).run Tryz.prog w = .ok (.bool !a.isNone) w := fun w a n c => run_neq_slice_nil_any w _ _ a n c 0 0 Tryz.underlying28
   clear hkw hk hkl hd hlt hbuf hn1 hn2
   revert Gb Gg Ge
   generalize yo (s.data.toList.take k) = E
   intro Ge Gb Gg
   by_cases hsp : c = 47 ∨ c = 126
   ·obtain ⟨hl2, ad, cd, u0, hby⟩ := (HR.o.kept0 Ga.o).special hsp
    have hE : E.length + 2 ≤ N := by have := Gg.o; rw [hl2] at this; exact this
    have hEI : (E.length : Int) < N := by omega
    have hEb : (E.length : Int) ≤ 2000000 := by have := Gr.o; omega
    have hsl := KR B N E.length (by omega)
    have Gu := qI hE
    have Gf := qI hl2
    have Gl := qI hby.drew
    clear hsp hcl hl2 hby hE
    go_wp2_with fail
    refine kt (n := 13) (fun w' : World => w'.cell? ⟨r, c.toNat, none⟩ = some (.slice (some ad) 2 cd)) 10 (by kernel_rfl) (by kernel_rfl) ?_
    change yp _ _ _ _ _ _ _ _ _ wr.drew
    have hSS : (fun w' : World => w'.cell? ⟨r, c.toNat, none⟩ = some (.slice (some ad) 2 cd)) wr.drew := u0
    have Gh : Hid (ky wr.drew B N E cur) := qI (Ge.o.kept (zc.refl [] _).drew (by simp))
    have Gm : Hid (zc [] w wr.drew) := qI Ga.o.drew
    clear u0 Ge
    revert hSS Gh Gm Gl
    generalize wr.drew = WD
    intro Gl hSS Gh Gm
    refine qL ?_
    intro O R hO hR
    have hQp : ∀ c a (d : Nat) v w, R (.panic c) (a.put (some d) v) w → R (.panic c) a w := by subst hR; exact fun _ _ _ _ _ h => h
    refine xb (i := 0) (v := ?_) hO rfl rfl (by kernel_rfl) (by kernel_rfl) (by kernel_rfl) (by decide) hQp (Or.inl ⟨by kernel_rfl, fun w _ => ?_⟩) hSS ?_
    rotate_left
    ·go_simp; try with_reducible rfl
    try simp only [zA,zN,zB,zC,zD]
    refine xb (i := 1) (v := ?_) hO rfl rfl (by kernel_rfl) (by kernel_rfl) (by kernel_rfl) (by decide) hQp (Or.inl ⟨by kernel_rfl, fun w _ => ?_⟩) hSS ?_
    rotate_left
    ·go_simp; try with_reducible rfl
    try simp only [zA,zN,zB,zC,zD]
    refine xb (i := 2) (v := ?_) hO rfl rfl (by kernel_rfl) (by kernel_rfl) (by kernel_rfl) (by decide) hQp (Or.inl ⟨by kernel_rfl, fun w _ => ?_⟩) hSS ?_
    rotate_left
    ·go_simp; try with_reducible rfl
    try simp only [zA,zN,zB,zC,zD]
    refine xb (i := 3) (v := ?_) hO rfl rfl (by kernel_rfl) (by kernel_rfl) (by kernel_rfl) (by decide) hQp (Or.inl ⟨by kernel_rfl, fun w _ => ?_⟩) hSS ?_
    rotate_left
    ·go_simp; try with_reducible rfl
    try simp only [zA,zN,zB,zC,zD]
    refine xb (i := 4) (v := ?_) hO rfl rfl (by kernel_rfl) (by kernel_rfl) (by kernel_rfl) (by decide) hQp (Or.inl ⟨by kernel_rfl, fun w _ => ?_⟩) hSS ?_
    rotate_left
    ·go_simp; try with_reducible rfl
    try simp only [zA,zN,zB,zC,zD]
    refine xb (i := 5) (v := ?_) hO rfl rfl (by kernel_rfl) (by kernel_rfl) (by kernel_rfl) (by decide) hQp (Or.inl ⟨by kernel_rfl, fun w _ => ?_⟩) hSS ?_
    rotate_left
    ·go_simp; try with_reducible rfl
    try simp only [zA,zN,zB,zC,zD]
    refine xb (i := 6) (v := ?_) hO rfl rfl (by kernel_rfl) (by kernel_rfl) (by kernel_rfl) (by decide) hQp (Or.inl ⟨by kernel_rfl, fun w _ => ?_⟩) hSS ?_
    rotate_left
    ·go_simp; try with_reducible rfl
    try simp only [zA,zN,zB,zC,zD]
    refine xb (i := 7) (v := ?_) hO rfl rfl (by kernel_rfl) (by kernel_rfl) (by kernel_rfl) (by decide) hQp (Or.inl ⟨by kernel_rfl, fun w _ => ?_⟩) hSS ?_
    rotate_left
    ·go_simp; try with_reducible rfl
    try simp only [zA,zN,zB,zC,zD]
    refine xb (i := 8) (v := ?_) hO rfl rfl (by kernel_rfl) (by kernel_rfl) (by kernel_rfl) (by decide) hQp (Or.inl ⟨by kernel_rfl, fun w _ => ?_⟩) hSS ?_
    rotate_left
    ·go_simp; try with_reducible rfl
    try simp only [zA,zN,zB,zC,zD]
    refine zw (i := 9) (v := ?_) hO rfl rfl (by kernel_rfl) (by kernel_rfl) (by kernel_rfl) (by kernel_rfl) (by decide) (by kernel_rfl) hQp (Or.inl ⟨by kernel_rfl, fun w hSw => ?_⟩) hSS ?_
    rotate_left
    ·go_simp; try with_reducible rfl
    try simp only [zA,zN,zB,zC,zD]
    refine zF (i := 10) hO rfl (by kernel_rfl) (by kernel_rfl) (fun K hK => ?_)
    refine oper_copy rfl (.tmp 105) (.tmp 111) 28 28 rfl 5 Tryz.underlying28 (by kernel_rfl) _ _ _ _ _ _ rfl rfl B E.length cur 5 Gh.o.blk ((xM c).map bv) ?_ ?_ ?_ ?_ w.heap.size w (Gm.o.below (Nat.le_refl _) (by simp)) Gd.o ?_
    ·rw [List.length_map, Gf.o]
     have := Gu.o
     show 2 = min 2 (N - E.length)
     omega
    ·intro _
     refine ⟨rfl, _, rfl, ?_⟩
     exact bytes_adds Gl.o (by rw [Gf.o]; decide) (by rw [Gf.o])
    ·rw [List.length_map, Gh.o.len, Gf.o]; exact Gu.o
    ·intro v hv
     obtain ⟨u, -, rfl⟩ := List.mem_map.1 hv
     rfl
    intro w2 hb2 hbl
    have Jd := qI (Gh.o.splice (xM c) (by rw [Gf.o]; exact Gu.o) hb2.o)
    have Gi := qI (zc.of_below hbl)
    have h2 : goInt (((xM c).map bv).length) = .int .i64 2 := by rw [List.length_map, Gf.o]; rfl
    rw [h2]
    clear hb2 hbl h2 hSS Gl Gh Gm Ga
    refine hK _ _ (.inl rfl) ?_
    clear hK K
    try simp only [zA,zN,zB,zC,zD]
    refine yu (i := 11) (v := ?_) hO rfl rfl (by kernel_rfl) (by kernel_rfl) (by kernel_rfl) (by kernel_rfl) hQp (Or.inl ⟨by kernel_rfl, fun w _ => ?_⟩) ?_
    rotate_left
    ·go_simp; try with_reducible rfl
    try simp only [zA,zN,zB,zC,zD]
    refine yu (i := 12) (v := ?_) hO rfl rfl (by kernel_rfl) (by kernel_rfl) (by kernel_rfl) (by kernel_rfl) hQp (Or.inl ⟨by kernel_rfl, fun w _ => ?_⟩) ?_
    rotate_left
    ·go_simp; try with_reducible rfl
    try simp only [zA,zN,zB,zC,zD]
    refine ye hO (by kernel_rfl) ?_ _
    subst hR
    try clear hQp hO O
    go_wp2_with fail
    case roundEnd => exact ⟨⟨k + 1, _, by go_num, by have := Gc.o; omega, by rw [Gb.o, List.length_append, Gf.o]; go_num, by rw [Gb.o]; exact Jd.o, Gi.o⟩, by have := Gc.o; simp [intOf]; omega⟩
   ·rw [esc_plain hsp] at Gb Gg
    have h1 : c.toNat ≠ 47 := fun e => hsp (.inl (UInt8.toNat_inj.1 e))
    have h2 : c.toNat ≠ 126 := fun e => hsp (.inr (UInt8.toNat_inj.1 e))
    have u0 := (HR.o.kept0 Ga.o).tab c.toNat hcl h1 h2
    have hE : E.length < N := Gg.o
    have hEI : (E.length : Int) < N := by omega
    have hEb : (E.length : Int) ≤ 2000000 := by have := Gr.o; omega
    obtain ⟨uB, hu⟩ := Ge.o.cell hE
    have z0 := zg (o := E.length) Ge.o.blk
    clear hsp h1 h2 hcl
    go_wp2_with fail
    case roundEnd => exact ⟨⟨k + 1, _, by go_num, by have := Gc.o; omega, by rw [Gb.o]; simp, by rw [Gb.o]; exact Ge.o.store (by have := Gg.o; exact this) c, Ga.o.setCell (.inr Gd.o) _⟩, by have := Gc.o; simp [intOf]; omega⟩
end
section
variable {w : World} {B b : Nat} {a : Option Addr} {c : Nat}
theorem xz.kept {r : Nat} {Z : Array Value} {at_ : Option Addr} {ct : Nat} {d s : Int} {w' : World} {X : List Nat} (h : xz B w b d s r Z at_ ct) (k : zc X w w') (hb : b ∉ X) (hX : ∀ g, g ∈ X → g < B) : xz B w' b d s r Z at_ ct :=
 ⟨k.heap h.blk hb, h.bld.kept k hX⟩
theorem xz.kept0 {r : Nat} {Z : Array Value} {at_ : Option Addr} {ct : Nat} {d s : Int} {w' : World} (h : xz B w b d s r Z at_ ct) (k : zc [] w w') : xz B w' b d s r Z at_ ct :=
 h.kept k (by simp) (fun _ h => nomatch h)
set_option maxRecDepth 100000 in
theorem Z0 (h : ZS B w b a c 0 0) (s : ByteArray) (hs : s.size ≤ 1000000) :
  Calls Tryz.prog 56 #[.pointer (some ⟨b, 0, none⟩), .string s] w fun e w' => e = .returned (.string (zf (yo s.data.toList))) ∧ (∃ r Z at_ ct, xz w.heap.size w' b 1 0 r Z at_ ct) ∧ zc [b] w w' := by
 have CD := qI (doFirst_any h)
 have HS := qI hs
 have Gd : Hid (b < w.heap.size) := qI (lt_of_block h.blk)
 have hmf : ∀ w : World, (Instr.makeFunc (.func 86) #[.pointer (some ⟨b, 0, none⟩)] #[]).run Tryz.prog w = .ok (.func (.func 86) #[.pointer (some ⟨b, 0, none⟩)] #[]) w := fun _ => rfl
 have Jj := qI hmf
 clear h hs
 go_enter Tryz.func56, Tryz.ntmps56
 go_wp2_with (first
  | (go_at_call 85; refine CD.o.mono ?_; rintro e w1 ⟨rfl, ⟨r, Z, at_, ct, hd⟩, hk1⟩; have c3 := zb (o := 3) hd.blk rfl; have CR := qI (ZH hd.rep s HS.o); have HD := qI hd; have Je := qI hk1; clear hd hk1)
  | (go_at_call 306; refine CR.o.mono ?_; rintro e w2 ⟨rfl, hk2⟩; have Gi := qI (Je.o.then hk2); have Jf : Hid (xz w.heap.size w2 b 1 0 r Z at_ ct) := qI (HD.o.kept0 hk2); clear hk2))
 go_ret
 exact ⟨rfl, ⟨_, _, _, _, Jf.o⟩, Gi.o⟩
set_option maxRecDepth 100000 in
theorem Y0 {r : Nat} {Z : Array Value} {at_ : Option Addr} {ct : Nat} (h : xz B w b 1 0 r Z at_ ct) (s : ByteArray) (hs : s.size ≤ 1000000) :
  Calls Tryz.prog 56 #[.pointer (some ⟨b, 0, none⟩), .string s] w fun e w' => e = .returned (.string (zf (yo s.data.toList))) ∧ zc [] w w' := by
 have CD := qI (doNext_any h)
 have CR := qI (ZH h.rep s hs)
 have c3 := zb (o := 3) h.blk rfl
 have hmf : ∀ w : World, (Instr.makeFunc (.func 86) #[.pointer (some ⟨b, 0, none⟩)] #[]).run Tryz.prog w = .ok (.func (.func 86) #[.pointer (some ⟨b, 0, none⟩)] #[]) w := fun _ => rfl
 clear h hs
 go_enter Tryz.func56, Tryz.ntmps56
 go_wp2_with (first
  | (go_at_call 85; refine (CD.o _).mono ?_; rintro e w1 ⟨rfl, rfl⟩)
  | (go_at_call 306; refine CR.o.mono ?_; rintro e w2 ⟨rfl, hk2⟩; have Gi := qI hk2; clear hk2))
 go_ret
 exact ⟨rfl, Gi.o⟩
end
theorem slash_str (x : List UInt8) : ((⟨#[47]⟩ : ByteArray) ++ zf x).data.toList = 47 :: x := by
 rw [ByteArray.data_append, Array.toList_append, zo]; rfl
theorem escP_one (l : List ByteArray) {k : Nat} (h : k < l.length) : (yo l[k].data.toList).length + 1 + (zH ((l.take k).map (·.data.toList))).length ≤ (yX l).length := by
 have h1 := QS l (k + 1)
 rw [vO h, List.length_append, List.length_cons] at h1
 omega
inductive bc (w : World) (bb rb : Nat) (l : List ByteArray) : Nat → World → Prop where
 | raw {wr : World} {B : Nat} {a : Option Addr} {c : Nat} : ZS B wr rb a c 0 0 → wr.heap[bb]? = some (.cells #[.pointer none, .slice none 0 0] 70 (0, 0)) → zc [] w wr → bc w bb rb l 0 wr
 | done {wr W : World} {B r ct k : Nat} {Z : Array Value} {at_ : Option Addr} : BW 70 W bb wr (zH ((l.take (k + 1)).map (·.data.toList))) → bb < B → xz B W rb 1 0 r Z at_ ct → zc [] w W → bc w bb rb l (k + 1) wr
theorem BW.at_ {T : Nat} {W : World} {b : Nat} {w : World} {l l' : List UInt8} (h : BW T W b w l) (e : l = l') : BW T W b w l' := e ▸ h
theorem bc.kept {w wr : World} {bb rb k : Nat} {l : List ByteArray} (h : bc w bb rb l k wr) (hb : w.heap.size ≤ bb) : zc [] w wr := by
 cases h with
 | raw _ _ hk => exact hk
 | done h1 _ _ hk => exact hk.trans h1.kept (fun i hi => by simp at hi; subst hi; exact .inr hb)
theorem bc.end_ {w wr : World} {bb rb : Nat} {l : List ByteArray} (h : bc w bb rb l l.length wr) (hb : w.heap.size ≤ bb) (hB : (yX l).length ≤ 1000000) : Calls Tryz.prog 57 #[.pointer (some ⟨bb, 0, none⟩)] wr fun e w' => e = .returned (.string (zf (yX l))) ∧ zc [] w w' := by
 generalize hn : l.length = n at h
 cases h with
 | raw _ h1 hk =>
  obtain rfl : l = [] := List.eq_nil_of_length_eq_zero hn
  refine (YJ h1).mono ?_
  rintro e w' ⟨rfl, hk2⟩
  exact ⟨rfl, hk.then hk2⟩
 | @done _ W B r ct k Z at_ h1 h2 h3 hk =>
  have hp : zH ((l.take (k + 1)).map (·.data.toList)) = yX l := by rw [List.take_of_length_le (by omega)]; rfl
  rw [hp] at h1
  refine (kn h1 (by omega) (fun e => ?_)).mono ?_
  ·have h4 := vO (l := l) (k := k) (by omega)
   rw [hp, e] at h4
   exact absurd h4.symm (by simp)
  rintro e w' ⟨rfl, hk2, -⟩
  exact ⟨rfl, hk.trans hk2 (fun i hi => by simp at hi; subst hi; exact .inr hb)⟩
theorem bc.replace {w wr : World} {bb rb k : Nat} {l : List ByteArray} (h : bc w bb rb l k wr) (hb : w.heap.size ≤ bb) (hne : bb < rb) (s : ByteArray) (hs : s.size ≤ 1000000) :
  Calls Tryz.prog 56 #[.pointer (some ⟨rb, 0, none⟩), .string s] wr fun e w' => e = .returned (.string (zf (yo s.data.toList))) ∧ ∃ W B r ct Z at_, BW 70 W bb w' (zH ((l.take k).map (·.data.toList))) ∧ bb < B ∧ xz B W rb 1 0 r Z at_ ct ∧ zc [] w W := by
 cases h with
 | raw h0 h1 hk =>
  refine (Z0 h0 s hs).mono ?_
  rintro e w' ⟨rfl, ⟨r, Z, at_, ct, hd⟩, hk2⟩
  refine ⟨rfl, w', _, r, ct, Z, at_, BW.new (hk2.heap h1 (by simp; omega)), lt_of_block h1, hd, hk.trans hk2 (fun i hi => by simp at hi; subst hi; exact .inr (by omega))⟩
 | done h1 h2 h3 hk =>
  refine (Y0 (xz.kept (X := [bb]) h3 h1.kept (by simp; omega) (fun g hg => by simp at hg; omega)) s hs).mono ?_
  rintro e w' ⟨rfl, hk2⟩
  exact ⟨rfl, _, _, _, _, _, _, h1.stay hk2, h2, h3, hk⟩
theorem ptr_wrote {l : List ByteArray} {k : Nat} (h : k < l.length) : zH ((l.take k).map (·.data.toList)) ++ ((⟨#[47]⟩ : ByteArray) ++ zf (yo l[k].data.toList)).data.toList = zH ((l.take (k + 1)).map (·.data.toList)) := by
 rw [slash_str, vO h]
section
variable {w : World} {a : Option Addr} {n c : Nat} {la : List ByteArray}
set_option maxRecDepth 100000 in
theorem pointer_any (ha : Slc w 1 (.slice a n c) n (zI la)) (hn : n ≤ 1000000) (hB : (yX la).length ≤ 1000000) :
  Calls Tryz.prog 26 #[.slice a n c] w fun e w' => e = .returned (.string (zf (yX la))) ∧ zc [] w w' := by
 have HA := qI ha
 have Jb := qI (ja ha)
 have Gn := qI hB
 have hnI : (n : Int) ≤ 1000000 := by omega
 clear ha hn hB
 go_enter Tryz.func26, Tryz.ntmps26
 go_wp2_with fail
 refine (YX (y7 (w.alloc (.cells #[.pointer none, .slice none 0 0] 70)) (zI fourS) 1 4 9 (w.heap.size + 1) (by simp) rfl (by decide))).mono ?_
 rintro e w1 ⟨⟨rb, a1, c1, rfl, hraw, hle⟩, hk1⟩
 have hk0 : zc [] w w1 := (((zc.refl [] w).alloc _).alloc _).then hk1
 have hbb : w1.heap[w.heap.size]? = some (.cells #[.pointer none, .slice none 0 0] 70 (0, 0)) := hk1.heap (((zc.refl [] _).alloc _).heap (zp rfl) (by simp)) (by simp)
 have hne : w.heap.size < rb := by simp at hle; omega
 have Gv : Hid (bc w w.heap.size rb la 0 w1) := qI (.raw hraw hbb hk0)
 clear hraw hle hk1 hk0 hbb
 revert Gv hne
 generalize hbw : w.heap.size = bb
 intro hne Gv
 have Gd := qI (Nat.le_of_eq hbw)
 clear hbw
 have Jg := qI hne
 clear hne
 go_wp2_with fail
 go_loopw [11] (fun i wr => ∃ k : Nat, i = .int .i64 k ∧ k ≤ n ∧ bc w bb rb la k wr) (fun i _ => n - (intOf i).toNat)
 case atStart => exact ⟨0, rfl, Nat.zero_le _, Gv.o⟩
 case round =>
  obtain ⟨k, rfl, hk, hp⟩ := hrel
  have Ga := qI (hp.kept Gd.o)
  have HP := qI hp
  by_cases hlt : k < n
  rotate_left
  ·obtain rfl : k = n := by omega
   have hltI : ¬ (k : Int) < k := by omega
   have hpe : bc w bb rb la la.length wr := by rw [Jb.o]; exact hp
   have CE := qI (hpe.end_ Gd.o Gn.o)
   clear hlt hk hp hpe
   go_wp2_with (go_at_call 57; refine CE.o.mono ?_; rintro e w2 ⟨rfl, hk2⟩)
   go_ret
   exact ⟨rfl, hk2⟩
  have hltI : (k : Int) < n := by omega
  have hka : k < la.length := by rw [Jb.o]; exact hlt
  obtain ⟨g, o, rfl, q0⟩ := qW (HA.o.kept0 Ga.o) hka
  have h1 := escP_one la hka
  have h2 := esc_ge la[k].data.toList
  rw [kS] at h2
  have Gj : Hid ((zH ((la.take k).map (·.data.toList))).length ≤ 1000000) := qI (by have := Gn.o; omega)
  have hT0 : (zf (yo la[k].data.toList)).size ≤ 1000000 := by rw [zG]; have := Gn.o; omega
  have CR := qI (hp.replace Gd.o Jg.o la[k] (by have := Gn.o; omega))
  have Gw := qI (ptr_wrote hka)
  have Gc := qI hlt
  clear h1 h2 hk hp hlt
  revert q0 hT0 CR Gw
  generalize hT : zf (yo la[k].data.toList) = T
  generalize la[k] = X
  intro q0 hT0 CR Gw
  clear hT hka
  have hz : ¬ 9223372036854775807 < 1 + T.size := by omega
  go_wp2_with (first
   | (go_at_call 56; refine CR.o.mono ?_; rintro e w2 ⟨rfl, W, B, r, ct, Z, at_, hbw, hlt2, hdn, hkw⟩; have Gx := qI hbw; have Gf := qI hlt2; have Jh := qI hdn; have Gy := qI hkw; clear hbw hlt2 hdn hkw q0)
   | (go_at_call 55; go_loud (refine (qv yH Gx.o (by have := Gj.o; omega) _ (by rw [ByteArray.size_append]; show 1 + T.size ≤ 100000000; omega)).mono ?_; rintro e w3 ⟨rfl, hb3, -⟩; have Ji := qI (hb3.at_ Gw.o); clear hb3)))
  case roundEnd => exact ⟨⟨k + 1, by go_num, by have := Gc.o; omega, .done Ji.o Gf.o Jh.o Gy.o⟩, by have := Gc.o; simp [intOf]; omega⟩
end
end Go.Proofs.YtpbphdkjjoipnaaGreatDoor
