/- Files: all files of a mirror, by rising names. -/
import Derived.Test.YtfkdoinlbdcaaaaDoorMLoad
import Derived.Test.YtfkdoinlbdcaaaaDoorMKeys
namespace Go.Proofs.YtfkdoinlbdcaaaaDoor
open Go.RowKit Go.Maps Go.Sort Go.Shelf Go.WideElems Go.WideShapes

theorem sortsM (m : Nat) : AnyZ.SortsIn Tryd.prog Tryd.sortedA_ren Fence.wide m :=
  ⟨fun blk off cap ss W hH hblk hsz => callsIn_wide.2 (AnyM.slices_Sort_string Tryd.sortA blk off cap ss W hH hblk hsz),
   fun p cap W => callsIn_wide.2 (AnyM.slices_Sort_string_none Tryd.sortA p cap W)⟩

def keysOf (fs : List PF) : List (List UInt8) := fs.map (fun f => f.1.data.toList)
theorem keys_sorted {d : PMir} {fs : List PF} (h : Agree d fs) : (keysOf fs).Pairwise (fun a b => leB a b = true) ∧ (keysOf fs).Nodup := by
  have hn := h.names
  refine ⟨hn.imp fun {a b} hab => ?_, hn.imp fun {a b} hab => lt_ne hab⟩
  simp only [leB, decide_eq_true_eq]
  exact List.le_of_lt hab

/-- The keys of the map of files. -/
theorem files_perm {w : World} {b mb : Nat} {aa : Option Addr} {ac : Nat} {M : Lit → Option Value} {d : PMir} {fs : List PF} (h : MirAt w b mb aa ac M d) (ha : Agree d fs) {D : DataW Value} {cnt : Nat} (hown : w.ownsMap Tryd.prog 9 heldE mb cnt D) (hD : ∀ kl, M kl = look D kl ∧ (Maps.has D kl = (M kl).isSome)) :
    (keysOf fs).Perm (strKeys D) := by
  obtain ⟨es, rfl, hp, _⟩ := hown.entries keyStr
  obtain ⟨es', clock, _, F, hs, hDD⟩ := hown
  have hk : ∀ p ∈ es, ∃ x, p.1 = Lit.string x := by
    intro p hp'
    have e : es = (es'.toList.map (rg Tryd.prog 9 heldE)).foldr DataW.insert [] := DataW.map.inj hDD
    rw [e] at hp'
    obtain ⟨x, hx, rfl⟩ := List.mem_map.1 (mem_sorted.1 hp')
    obtain ⟨y, hy⟩ := F.reads x hx
    rw [rg_of hy]
    obtain ⟨n, _, h2, _⟩ := Maps.keyOf_str Tryd.underlying9 (rd_key hy)
    exact ⟨n, h2⟩
  refine perm_strKeys hp hk (keys_sorted ha).2 fun x => ?_
  rw [(hD _).2]
  constructor
  · intro hx
    obtain ⟨f, hf, rfl⟩ := List.mem_map.1 hx
    rw [h.isSome]
    rw [(ha.file _ _).2 ⟨f.1, hf, rfl⟩]
    rfl
  · intro hm
    rw [h.isSome] at hm
    cases hd : d.file x with
    | none => rw [hd] at hm; cases hm
    | some l =>
      obtain ⟨s, hs, e⟩ := (ha.file _ _).1 hd
      exact List.mem_map.2 ⟨(s, l), hs, e⟩

theorem MirAt.entry {w : World} {b mb : Nat} {aa : Option Addr} {ac : Nat} {M : Lit → Option Value} {d : PMir} (h : MirAt w b mb aa ac M d) {x l : List UInt8} (hx : d.file x = some l) : ∃ a c, M (.string x) = some (.slice a l.length c) ∧ Data w (.slice a l.length c) l ∧ l.length ≤ 1048576 := by
  cases hM : M (.string x) with
  | none => rw [h.gone x hM] at hx; cases hx
  | some v =>
    obtain ⟨l', e, h2, h3⟩ := h.have_ x v hM
    rw [hx] at e
    cases e
    obtain ⟨a, c, rfl, -, -⟩ := h2.1.form
    exact ⟨a, c, rfl, h2, h3⟩
theorem str_same (s : ByteArray) : (⟨s.data.toList.toArray⟩ : ByteArray) = s := by cases s; simp
def FilesPost (w : World) (fs : List PF) (e : Ending) (w' : World) : Prop :=
  ∃ v rows, e = .returned v ∧ Slc w' 2 v rows.length (fileCells rows) ∧ All2 (fun r f => r.1 = f.1 ∧ Bytes w' r.2 f.2) rows fs ∧ Kept [] w w'

set_option maxHeartbeats 3200000 in
set_option maxRecDepth 10000 in
theorem files_any {w : World} {b : Nat} {F : List Nat} {d : PMir} (h : MirRep w b F d) {fs : List PF} (ha : Agree d fs) :
    Calls Tryd.prog 23 #[.pointer (some ⟨b, 0, none⟩)] w (FilesPost w fs) := by
  have hm := Lib.hid (made_any h)
  obtain ⟨mb, aa, ac, M, rfl, h⟩ := h
  obtain ⟨D, hown, hsz, hD⟩ := h.map
  have hperm := files_perm h ha hown hD
  have hcnt := h.cnt
  have c0 := h.c0
  have hbl := hown.lt
  have hseq : SeqGives Fence.wide 2 Tryd.prog 49 #[.pointer (some ⟨w.heap.size, 0, none⟩)] encStr (fun ss => ss.Perm (strKeys D)) (Maps.size D) (w.alloc (.cells #[.map (some mb)] 60)) :=
    AnyZ.keys_gives (ρ := Tryd.keysA_ren) { Tryd.keysA with } Fence.wide _ trivial rfl (by omega) w.heap.size mb d.cnt D _ (by simp) (by simp) (by
      obtain ⟨es, clock, hb, Ft, hs, hDD⟩ := hown
      exact ⟨es, clock, (Below.heap_alloc _ _ mb hbl).trans hb, Ft, hs, hDD⟩)
  have cK : ∀ m W, Calls Tryd.prog 40 #[.map m] W fun e w' => e = .returned (.func (.func 49) #[] #[.pointer (some ⟨W.heap.size, 0, none⟩)]) ∧ w' = W.alloc (.cells #[.map m] 60) := fun m W => callsIn_wide.1 (AnyZ.keys_in Tryd.keysA Fence.wide 5 trivial rfl m W)
  have cS := AnyZ.sorted_in Tryd.sortedA Fence.wide 5 trivial trivial trivial trivial rfl (by omega) (sortsM _) (enters_of Tryd.func48 (by kernel_rfl) rfl) 49 #[.pointer (some ⟨w.heap.size, 0, none⟩)] trivial (enters_of Tryd.func49 (by kernel_rfl) rfl) _ _ (by rw [hsz]; simp only [maxLen]; omega) (by rw [hsz]; omega) _ hseq
  change CallsIn _ _ Tryd.prog 39 _ _ _ at cS
  have CS := Lib.hid (callsIn_wide.1 cS)
  have CK := Lib.hid cK
  have HP := Lib.hid hperm
  have HC := Lib.hid (keys_sorted ha)
  have HA := Lib.hid ha
  have H := Lib.hid h
  have hsl := strKeys_le hown Tryd.underlying9
  have HSL : Hid (∀ (j : Nat) (hj : j < fs.length), fs[j].1.size ≤ maxLen) := Lib.hid (fun j hj => by
    have := hsl fs[j].1.data.toList (hperm.mem_iff.1 (List.mem_map.2 ⟨fs[j], List.getElem_mem hj, rfl⟩))
    simpa using this)
  clear hsl
  have hfl : fs.length ≤ 256 := by rw [← ha.cnt]; exact hcnt
  have hflI : (fs.length : Int) ≤ 256 := by omega
  clear hperm hsz hcnt hbl hown hD h hseq cS cK ha
  go_enter Tryd.func23, Tryd.ntmps23
  go_wp2_with (first
    | (go_at_call 28; refine hm.out.mono ?_; rintro e w' ⟨rfl, rfl⟩)
    | (go_at_call 40; refine (CK.out _ _).mono ?_; rintro e w' ⟨rfl, rfl⟩)
    | (go_at_call 39; refine CS.out.mono ?_; rintro e w1 ⟨v, ss, rfl, hS, hrow, hnil, hb⟩; have e1 : ss.mergeSort leB = keysOf fs := ((mergeSort_of_perm (hS.trans HP.out.symm)).trans (List.mergeSort_of_pairwise HC.out.1)); have e2 : ss.length = fs.length := (hS.trans HP.out.symm).length_eq.trans (by simp [keysOf]); rw [show (fun x y : List UInt8 => decide (x ≤ y)) = leB from rfl, e1, e2] at hrow; obtain ⟨va, vc, rfl, -, -⟩ := (Slc.of_row hrow).form; have HROW := Lib.hid (Slc.of_row hrow); have hk1 : Kept [] w w1 := ((Kept.refl [] w).alloc _).then (Kept.of_below (hb.mono (by simp))); have HK1 := Lib.hid hk1; clear hS hrow hnil hb e1 e2 hk1))
  clear c0
  go_loopw [3, 16] (fun ov i wr => ∃ (k : Nat) (rows : List Row2), i = .int .i64 k ∧ k ≤ fs.length ∧ rows.length = k ∧ wr.ownsRow w1.heap.size 58 2 ov k (fileCells rows) ∧ All2 (fun r f => r.1 = f.1 ∧ Data wr r.2 f.2) rows (fs.take k) ∧ Kept [] w wr ∧ Kept [] w1 wr) (fun _ i _ => fs.length - (intOf i).toNat)
  case atStart => exact ⟨0, [], rfl, Nat.zero_le _, rfl, World.ownsRow_nil _ _ _ _, All2.nil _, HK1.out, Kept.refl _ _⟩
  case round =>
    obtain ⟨k, rows, rfl, hk, hrl, hown, hall, hkr, hkr1⟩ := hrel
    have HRL := Lib.hid hrl
    have HOWN := Lib.hid hown
    have HALL := Lib.hid hall
    have HKR := Lib.hid hkr
    have HKR1 := Lib.hid hkr1
    clear hrl hown hall hkr hkr1
    by_cases hlt : k < fs.length
    · have hltI : (k : Int) < fs.length := by omega
      have hsz := HSL.out k hlt
      have hwr := H.out.kept0 HKR.out
      obtain ⟨a0, cc0, hM, hd0, hbig⟩ := hwr.entry (x := fs[k].1.data.toList) (l := fs[k].2) ((HA.out.file _ _).2 ⟨fs[k].1, List.getElem_mem hlt, rfl⟩)
      have hkey := Go.WideMaps.keyOf_string_mk (P := Tryd.prog) Tryd.underlying9 hsz
      have hlk := (hwr.map.at.lookup keyStr Tryd.underlying60 (zeroBytes wr) hkey).2
      rw [hM] at hlk
      simp only [Option.getD_some] at hlk
      have c0 := hwr.c0
      obtain ⟨g, o, rfl, q0⟩ : ∃ g o, va = some ⟨g, o, none⟩ ∧ wr.cell? ⟨g, o + k, none⟩ = some (.string fs[k].1) := by
        rcases (HROW.out.kept0 HKR1.out).2 with ⟨_, h0⟩ | ⟨h0, _⟩ | ⟨g, o, cap, hsv, _, _, hrow⟩
        · omega
        · omega
        simp only [Value.slice.injEq] at hsv
        obtain ⟨rfl, -, -⟩ := hsv
        refine ⟨g, o, rfl, hrow.cells k _ ?_⟩
        rw [List.getElem?_map, keysOf, List.getElem?_map, List.getElem?_eq_getElem hlt]
        show some (Value.string ⟨fs[k].1.data.toList.toArray⟩) = _
        rw [str_same]
      have HT : Hid (fs.take (k + 1) = fs.take k ++ [fs[k]]) := Lib.hid (List.take_succ_eq_append_getElem hlt)
      have hcl := Lib.hid (clone_any _ _ wr hd0.1 (by simp only [lim]; omega))
      clear hwr hM hd0 hkey hsz
      revert hlk q0 HT hcl hbig
      generalize fs[k] = f
      obtain ⟨nm, l⟩ := f
      intro hbig hlk q0 HT hcl
      simp only at hbig hlk q0 hcl
      have hlkI : (l.length : Int) ≤ 1048576 := by omega
      go_wp2_with (first
        | (go_at_call 30; refine hcl.out.mono ?_; rintro e w2 ⟨v2, rfl, hn2, hk2⟩; obtain ⟨a2, c2, rfl, -, -⟩ := hn2.1.form; have HN2 := Lib.hid hn2; have HK2 := Lib.hid hk2; clear hn2 hk2)
        | (at_builtin; go_loud (refine wpList_append_slc tyFiles (row_kept HOWN.out (HK2.out.alloc _) (by simp)) (slc_new _ [.string nm, .slice a2 l.length c2] 2 1 58 _ rfl rfl (by decide)) (by simp [Value.oneCell']) (by simp only [maxLen]; omega) (by omega) (Nat.le_trans HKR1.out.size (HK2.out.alloc _).size) rfl _ _ rfl rfl rfl ?_; intro v3 w3 hown3 hk3 _ hb3; have HO3 := Lib.hid hown3; have HK3 := Lib.hid hk3; clear hown3 hk3 hb3)))
      case roundEnd =>
        have kA := HK2.out.alloc (.cells #[.string nm, .slice a2 l.length c2] 58)
        have hX := fun i (hi : i ∈ _) => show kind _ i ≠ 5 + 2 by rw [row_kind (row_kept HOWN.out kA (by simp)) (Option.mem_toList.1 hi)]; decide
        have k3 : Kept [] w w3 := (HKR.out.then kA).trans HK3.out (fun i hi => .inr (Nat.le_trans HK1.out.size (HOWN.out.lt i (Option.mem_toList.1 hi)).1))
        have k13 : Kept [] w1 w3 := (HKR1.out.then kA).trans HK3.out (fun i hi => .inr (HOWN.out.lt i (Option.mem_toList.1 hi)).1)
        refine ⟨⟨k + 1, rows ++ [(nm, .slice a2 l.length c2)], by go_num, by omega, by simp [HRL.out], ?_, ?_, k3, k13⟩, by simp [intOf]; omega⟩
        · rw [fileCells_app]; exact HO3.out
        · rw [HT.out]
          refine All2.app (HALL.out.mono fun r f _ e => ⟨e.1, (e.2.kept kA (by simp)).kept HK3.out hX⟩) ((All2.nil _).cons ⟨rfl, ?_⟩)
          exact ((Data.of_new HN2.out).kept ((Kept.refl [] w2).alloc _) (by simp)).kept HK3.out hX
    · obtain rfl : k = fs.length := by omega
      go_wp2_with fail
      go_ret
      refine ⟨_, rows, rfl, ?_, ?_, HKR.out⟩
      · rw [HRL.out]; exact Slc.of_row HOWN.out
      · have := HALL.out
        rw [List.take_length] at this
        exact this.mono fun _ _ _ e => ⟨e.1, e.2.1⟩
end Go.Proofs.YtfkdoinlbdcaaaaDoor
