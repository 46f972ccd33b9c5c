/- Parts of one proof, merged: XZP XHa. -/
import Derived.Test.YtpbphdkjjoipnaaGreatDoorFW
import Derived.Test.YtpbphdkjjoipnaaGreatDoorFL
import Derived.Test.YtpbphdkjjoipnaaGreatDoorFA
import Derived.Test.YtpbphdkjjoipnaaGreatDoorFG
import Derived.Handed
set_option linter.all false
set_option maxHeartbeats 12800000
set_option maxRecDepth 10000
set_option linter.unusedVariables false
set_option linter.unusedSimpArgs false
set_option linter.unnecessarySimpa false
namespace Go.Proofs.YtpbphdkjjoipnaaGreatDoor
open Go.RowKit
theorem strs_bytes (l : List ByteArray) : (l.map (·.data.toList)).map strB = l := by
 rw [List.map_map]
 conv => rhs; rw [← List.map_id l]
 exact List.map_congr_left fun x _ => ba_eq (by rw [Function.comp_apply, strB_list]; rfl)
theorem bytes_strs (l : List (List UInt8)) : (l.map strB).map (·.data.toList) = l := by
 rw [List.map_map]
 conv => rhs; rw [← List.map_id l]
 exact List.map_congr_left fun x _ => by rw [Function.comp_apply, strB_list]; rfl
theorem escB_le (c : UInt8) : (escB c).length ≤ 2 := by unfold escB; split; (· simp); split <;> simp
theorem escP_le : ∀ s : List UInt8, (escP s).length ≤ 2 * s.length
 | [] => by decide
 | c :: r => by
  have h1 := escB_le c
  have h2 := escP_le r
  show (escB c ++ escP r).length ≤ 2 * (r.length + 1)
  rw [List.length_append]
  omega
theorem ptr_le : ∀ (l : List (List UInt8)) (m : Nat), (∀ x, x ∈ l → x.length ≤ m) → (pointerL l).length ≤ l.length * (2 * m + 1)
 | [], _, _ => by simp [pointerL]
 | x :: l, m, h => by
  have h1 := escP_le x
  have h2 := h x (List.mem_cons_self ..)
  have h3 := ptr_le l m (fun y hy => h y (List.mem_cons_of_mem _ hy))
  show (47 :: escP x ++ pointerL l).length ≤ (l.length + 1) * (2 * m + 1)
  rw [List.length_append, List.length_cons, Nat.add_mul]
  omega
theorem ptr_ge : ∀ l : List (List UInt8), l.length ≤ (pointerL l).length
 | [] => by simp
 | x :: l => by
  have h := ptr_ge l
  show l.length + 1 ≤ (47 :: escP x ++ pointerL l).length
  rw [List.length_append, List.length_cons]
  omega
theorem PartsAns.some_ {p : List UInt8} {l : List (List UInt8)} {e : Ending} {w' : World} (h : PartsAns p e w') (hl : partsL p = some l) : ∃ a c, e = .returned (.tuple #[.slice a l.length c, .int .i64 0]) ∧ Slc w' 1 (.slice a l.length c) l.length (strsV (l.map strB)) := by
 unfold PartsAns at h; rw [hl] at h; exact h
theorem PartsAns.none_ {p : List UInt8} {e : Ending} {w' : World} (h : PartsAns p e w') (hl : partsL p = none) : e = .returned (.tuple #[.slice none 0 0, .int .i64 60]) := by
 unfold PartsAns at h; rw [hl] at h; exact h
theorem RPartsAns.some_ {p : List UInt8} {l : List (List UInt8)} {e : Ending} {w' : World} (h : RPartsAns p e w') (hl : partsL p = some l) : ∃ a c, e = .returned (.tuple #[.slice a l.length c, .bool true]) ∧ Slc w' 1 (.slice a l.length c) l.length (strsV (l.map strB)) := by
 unfold RPartsAns at h; rw [hl] at h; exact h
theorem RPartsAns.none_ {p : List UInt8} {e : Ending} {w' : World} (h : RPartsAns p e w') (hl : partsL p = none) : e = .returned (.tuple #[.slice none 0 0, .bool false]) := by
 unfold RPartsAns at h; rw [hl] at h; exact h
section
variable {w : World} {a : Option Addr} {n c : Nat} {la : List ByteArray}
set_option maxRecDepth 100000 in
theorem pointers_any (ha : Slc w 1 (.slice a n c) n (strsV la)) (s : ByteArray) (hm : MaxAt w) (ht : Tabs w) :
  Calls Tryz.prog 8 #[.slice a n c, .string s] w fun e w' => e = .returned (.bool true) ∧ Kept [] w w' := by
 have HA := qI ha
 have Ge := qI (strs_len ha)
 have HM := qI hm
 have CL : Hid (∀ w1, Kept [] w w1 → Calls Tryz.prog 12 #[] w1 fun e w' => e = .returned (.bool true) ∧ Kept [] w1 w') := qI (fun w1 k => lives_any (ht.kept0 k))
 clear ha hm ht
 by_cases hn : n ≤ 50
 rotate_left
 ·have hnI : (50 : Int) < n := by omega
  clear hn
  go_enter Tryz.func8, Tryz.ntmps8
  go_wp2_with fail
  refine (CL.o _ (Kept.refl _ _)).mono ?_
  rintro e w1 ⟨rfl, hk1⟩
  go_wp2_with fail
  go_ret
  exact ⟨rfl, hk1⟩
 have hnI : ¬ (50 : Int) < n := by omega
 by_cases hs : s.size ≤ 3000
 rotate_left
 ·have hsI : (3000 : Int) < s.size := by omega
  clear hn hs
  go_enter Tryz.func8, Tryz.ntmps8
  go_wp2_with fail
  refine (CL.o _ (Kept.refl _ _)).mono ?_
  rintro e w1 ⟨rfl, hk1⟩
  go_wp2_with fail
  go_ret
  exact ⟨rfl, hk1⟩
 have hsI : ¬ (3000 : Int) < s.size := by omega
 have HN := qI hn
 have HS := qI hs
 clear hn hs
 go_enter Tryz.func8, Tryz.ntmps8
 go_wp2_with fail
 go_loopw [5] (fun i wr => ∃ k : Nat, i = .int .i64 k ∧ k ≤ n ∧ Hid (∀ x, x ∈ la.take k → x.size ≤ 500) ∧ w = wr) (fun i _ => n - (intOf i).toNat)
 case atStart => exact ⟨0, rfl, Nat.zero_le _, qI (by simp), rfl⟩
 case round =>
  obtain ⟨k, rfl, hk, HF, rfl⟩ := hrel
  by_cases hlt : k < n
  ·have hltI : (k : Int) < n := by omega
   have hka : k < la.length := by rw [Ge.o]; exact hlt
   obtain ⟨g, o, rfl, q0⟩ := strs_cell HA.o hka
   have Ga : Hid (la[k].size ≤ 500 → ∀ x, x ∈ la.take (k + 1) → x.size ≤ 500) := qI (fun h x hx => by
    rw [List.take_succ_eq_append_getElem hka] at hx
    rcases List.mem_append.1 hx with hx | hx
    ·exact HF.o x hx
    ·simp at hx; subst hx; exact h)
   have Gm := qI hlt
   clear hlt hk HF
   revert q0 Ga
   generalize la[k] = X
   intro q0 Ga
   clear hka
   by_cases hX : X.size ≤ 500
   ·have hXI : ¬ (500 : Int) < X.size := by omega
    have Gs := qI (Ga.o hX)
    clear Ga hX
    go_wp2_with fail
    case roundEnd => exact ⟨⟨k + 1, by go_num, by have := Gm.o; omega, Gs, trivial⟩, by have := Gm.o; simp [intOf]; omega⟩
   ·have hXI : (500 : Int) < X.size := by omega
    clear hX Ga
    go_wp2_with fail
    refine (CL.o _ (Kept.refl _ _)).mono ?_
    rintro e w1 ⟨rfl, hk1⟩
    go_wp2_with fail
    go_ret
    exact ⟨rfl, hk1⟩
  obtain rfl : k = n := by omega
  have hltI : ¬ (k : Int) < k := by omega
  have HB : Hid ((ptrAll la).length ≤ 50050) := qI (by
   have h1 : ∀ x, x ∈ la.map (·.data.toList) → x.length ≤ 500 := fun x hx => by
    obtain ⟨y, hy, rfl⟩ := List.mem_map.1 hx
    rw [ba_ln]
    have h2 := HF.o y
    rw [List.take_of_length_le (by rw [Ge.o]; exact Nat.le_refl _)] at h2
    exact h2 hy
   have h3 := ptr_le _ 500 h1
   rw [List.length_map, Ge.o] at h3
   have := HN.o
   unfold ptrAll
   omega)
  clear hlt hk HF
  have CP := qI (pointer_any HA.o (by have := HN.o; omega) (by have := HB.o; omega))
  go_wp2_with fail
  refine CP.o.mono ?_
  rintro e w1 ⟨rfl, hk1⟩
  have Gt := qI hk1
  have CQ := qI (ptrParts_any (HM.o.kept0 hk1) (strB (ptrAll la)) (by rw [strB_size]; have := HB.o; omega))
  rw [strB_list] at CQ
  clear hk1
  go_wp2_with fail
  refine CQ.o.mono ?_
  rintro e w2 ⟨ha2, hk2⟩
  obtain ⟨a2, c2, rfl, hb2⟩ := ha2.some_ (l := la.map (fun x : ByteArray => x.data.toList)) (parts_pointer _)
  rw [strs_bytes] at hb2
  have hl2 : (la.map (fun x : ByteArray => x.data.toList)).length = k := by rw [List.length_map]; exact Ge.o
  rw [hl2] at hb2
  rw [hl2]
  have Gu := qI hb2
  have Gn := qI (Gt.o.then hk2)
  have CR := qI (ptrParts_any (HM.o.kept0 Gn.o) s (by have := HS.o; omega))
  clear hk2 hl2 hb2 ha2
  go_wp2_with fail
  refine CR.o.mono ?_
  rintro e w3 ⟨ha3, hk3⟩
  have Gp := qI (Gn.o.then hk3)
  have Gq := qI (Gu.o.kept0 hk3)
  have CS := qI (refParts_any (w := w3) s (by have := HS.o; omega))
  clear hk3
  cases hpl : partsL s.data.toList with
  | none =>
   obtain rfl := ha3.none_ hpl
   clear ha3
   go_wp2_with fail
   refine CS.o.mono ?_
   rintro e w4 ⟨ha4, hk4⟩
   obtain rfl := ha4.none_ hpl
   have Gb := qI (Gp.o.then hk4)
   have Gf := qI (Gq.o.kept0 hk4)
   clear ha4 hk4 hpl
   go_wp2_with fail
   refine (CL.o _ Gb.o).mono ?_
   rintro e w5 ⟨rfl, hk5⟩
   have Gc := qI (Gb.o.then hk5)
   have Gg := qI (Gf.o.kept0 hk5)
   clear hk5
   have CF := qI (refPointer_any (HA.o.kept0 Gc.o) (by have := HN.o; omega) (by have := HB.o; omega))
   go_wp2_with fail
   refine CF.o.mono ?_
   rintro e w6 ⟨rfl, hk6⟩
   have Gd := qI (Gc.o.then hk6)
   have Gh := qI (Gg.o.kept0 hk6)
   have C1 := qI (sameTexts_any Gh.o (HA.o.kept0 Gd.o) (by have := HN.o; omega) (by have := HN.o; omega))
   rw [decide_eq_true rfl] at C1
   clear hk6
   go_wp2_with fail
   refine C1.o.mono ?_
   rintro e w7 ⟨rfl, hk7⟩
   have Gi := qI (Gd.o.then hk7)
   have hnil : Slc w7 1 (.slice none 0 0) 0 (strsV []) := Slc.of_row (World.ownsRow_nil w7 0 9 1)
   have C2 := qI (sameTexts_any hnil hnil (by omega) (by omega))
   rw [decide_eq_true rfl] at C2
   clear hk7 hnil
   go_wp2_with fail
   refine C2.o.mono ?_
   rintro e w8 ⟨rfl, hk8⟩
   have Gj := qI (Gi.o.then hk8)
   clear hk8
   go_wp2_with fail
   go_ret
   exact ⟨rfl, Gj.o⟩
  | some l =>
   obtain ⟨a3, c3, rfl, hs3⟩ := ha3.some_ hpl
   have Gv := qI hs3
   have Gk := qI (pointer_parts hpl)
   have Gl : Hid (l.length ≤ 3000) := qI (by
    have h1 := ptr_ge l
    rw [Gk.o, ba_ln] at h1
    have := HS.o
    omega)
   clear ha3 hs3
   go_wp2_with fail
   refine CS.o.mono ?_
   rintro e w4 ⟨ha4, hk4⟩
   obtain ⟨a4, c4, rfl, hs4⟩ := ha4.some_ hpl
   have Gw := qI hs4
   have Gb := qI (Gp.o.then hk4)
   have Gf := qI (Gq.o.kept0 hk4)
   have Gx := qI (Gv.o.kept0 hk4)
   clear ha4 hk4 hpl hs4
   go_wp2_with fail
   refine (CL.o _ Gb.o).mono ?_
   rintro e w5 ⟨rfl, hk5⟩
   have Gc := qI (Gb.o.then hk5)
   have Gg := qI (Gf.o.kept0 hk5)
   have Gy := qI (Gx.o.kept0 hk5)
   have Gz := qI (Gw.o.kept0 hk5)
   clear hk5
   have CF := qI (refPointer_any (HA.o.kept0 Gc.o) (by have := HN.o; omega) (by have := HB.o; omega))
   go_wp2_with fail
   refine CF.o.mono ?_
   rintro e w6 ⟨rfl, hk6⟩
   have Gd := qI (Gc.o.then hk6)
   have Gh := qI (Gg.o.kept0 hk6)
   have Ja := qI (Gy.o.kept0 hk6)
   have Jb := qI (Gz.o.kept0 hk6)
   have C1 := qI (sameTexts_any Gh.o (HA.o.kept0 Gd.o) (by have := HN.o; omega) (by have := HN.o; omega))
   rw [decide_eq_true rfl] at C1
   clear hk6
   go_wp2_with fail
   refine C1.o.mono ?_
   rintro e w7 ⟨rfl, hk7⟩
   have Gi := qI (Gd.o.then hk7)
   have Gr := qI (Ja.o.kept0 hk7)
   have C2 := qI (sameTexts_any Gr.o (Jb.o.kept0 hk7) (by have := Gl.o; omega) (by have := Gl.o; omega))
   rw [decide_eq_true rfl] at C2
   clear hk7
   go_wp2_with fail
   refine C2.o.mono ?_
   rintro e w8 ⟨rfl, hk8⟩
   have Gj := qI (Gi.o.then hk8)
   have Jc : Hid (strB (ptrAll (l.map strB)) = s) := qI (by
    unfold ptrAll
    rw [bytes_strs, Gk.o]; rfl)
   have C3 := qI (pointer_any (Gr.o.kept0 hk8) (by have := Gl.o; omega) (by unfold ptrAll; rw [bytes_strs, Gk.o, ba_ln]; have := HS.o; omega))
   rw [Jc.o] at C3
   clear hk8
   go_wp2_with fail
   refine C3.o.mono ?_
   rintro e w9 ⟨rfl, hk9⟩
   have Jd := qI (Gj.o.then hk9)
   clear hk9
   go_wp2_with fail
   go_ret
   exact ⟨rfl, Jd.o⟩
end
def strOfV : Value → ByteArray
 | .string s => s
 | _ => ⟨#[]⟩
section
variable {H : Type} {enc : TypeId × Value → H} {w : World} {held : Bool}
theorem trod_strsV {fuel : Nat} {v : Value} {x : DataW H × List MemPlace} (h : DataW.trod enc Tryz.prog w 0 (fun _ => true) held fuel 39 [v] = some x) {B : Nat} (hw : ∀ k, k ∈ x.1.weights Tryz.prog 39 → k ≤ B) : ∃ l : List ByteArray, Slc w 1 v l.length (strsV l) ∧ l.length ≤ B := by
 obtain ⟨n, xs, h1, h2, h3⟩ := trod_slcV Tryz.underlying39 cellsStrV (by decide) h hw (by rw [show Tryz.prog.bytesOf 9 = 16 by kernel_rfl]; decide)
 have hlen : xs.length = n := by simpa using h1.1
 refine ⟨xs.map strOfV, ?_, by simpa [hlen] using h2⟩
 have e : strsV (xs.map strOfV) = xs := by
  unfold strsV
  apply List.ext_getElem (by simp)
  intro i hi hi'
  rcases h3 with h0 | ⟨m, _, h3⟩
  ·omega
  obtain ⟨y, hy, -⟩ := h3 i (by omega)
  rw [one_cellV hi'] at hy
  obtain ⟨s, hs, -⟩ := DataW.trod_string Tryz.underlying9 hy
  have hs' : xs[i] = .string s := by simpa using hs
  simp only [List.getElem_map]
  rw [hs']
  rfl
 rw [e, List.length_map, hlen]
 exact h1
end
section
variable {H : Type} {enc : TypeId × Value → H}
theorem handed_shaped {a : Assume} {C : Checked} {os : Os} {f : FuncId} {fn : Func} {s : ChangeSpec} {conds : List PathCond} {apart fresh handsOn again : Bool} {X : World → Array Value → Prop}
  (hX : ∀ (w w' : World) (args : Array Value), w.heap = w'.heap → X w args → X w' args)
  (own : ownKnob C.prog.godebug = none) (started : os.Started) (noInit : C.prog.inits.idxOf? f = none) (hfn : C.prog.funcs[f]? = some fn)
  (witness : ∃ (w : World) (tape : Tape) (i : Input), w.os = os ∧ (w.forCall tape i).Shaped C.prog ∧ i.vars = [] ∧ Input.okWide C.prog (w.forCall tape i) .any w.heap.size f i ∧
   ((s.pre enc C.prog fn conds apart (w.forCall tape i).memory i.args ∧ X (w.forCall tape i).memory i.args) ∧ sizedMet enc C.prog fn (OpenSpec.ofChange s) apart (w.forCall tape i).memory i.args) ∧ a.holds C.prog (lone (Frame.enter C.prog f i.args .normal) [] (w.forCall tape i)))
  (contract : ∀ (W : World) (base : Nat) (args : Array Value) (ds gs : List (DataW H)) (before : List MemPlace),
   (∀ (j : Nat) t v, fn.params[j]? = some t → args[j]? = some v → Value.okWide C.prog W .any base t v) →
   DataW.Whole enc C.prog fn.params.toList s.vars apart W args.toList ds gs before →
   (DataW.weightsEach C.prog (fn.params.toList ++ s.plain.varTypes C.prog) (ds ++ gs)).all (· ≤ reachBytes) = true → X W args →
   W.ShapedOpen C.prog →
   Calls C.prog f args W fun e W' => ∃ v, e = .returned v ∧ s.post enc C.prog fn apart fresh handsOn again W args v W') :
  ReturnsInHanded a C os f .any (fun w args => (s.pre enc C.prog fn conds apart w args ∧ X w args) ∧ sizedMet enc C.prog fn (OpenSpec.ofChange s) apart w args) (s.post enc C.prog fn apart fresh handsOn again) := by
 refine returnsInHanded_of_calls own started noInit witness ?_
 intro w tape i _ hsh _ hok hpre _
 obtain ⟨_, _, _, fn', hfn', _, _, _, _, hval⟩ := hok
 obtain rfl : fn' = fn := Option.some.inj (hfn'.symm.trans hfn)
 obtain ⟨⟨⟨ds, gs, before, hw, -⟩, hx⟩, hz⟩ := hpre
 refine (contract (w.forCall tape i) w.heap.size i.args ds gs before hval (DataW.Whole.of_heap (by rfl) hw) (hz.weights hw) (hX _ _ _ (by rfl) hx) hsh).mono fun e W' h9 => ?_
 obtain ⟨v, rfl, hp⟩ := h9
 exact ChangeSpec.post_blind hp
end
end Go.Proofs.YtpbphdkjjoipnaaGreatDoor
