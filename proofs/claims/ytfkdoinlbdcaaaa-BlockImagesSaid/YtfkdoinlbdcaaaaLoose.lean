/- Loose: the numbers of loose blocks, rising. -/
import Derived.Test.YtfkdoinlbdcaaaaDiskN
import Derived.Test.YtfkdoinlbdcaaaaKeys
namespace Go.Proofs.Ytfkdoinlbdcaaaa
open Go.RowKit Go.Maps Go.Sort Go.Shelf Go.WideElems Go.WideShapes
def PDisk.looseKeys (d : PDisk) : List Int := ((List.range d.sure.length).filter (fun j => (d.loose (j : Nat)).isSome)).map Int.ofNat

theorem rising_map : ∀ (l : List Nat), l.Pairwise (· < ·) → (l.map Int.ofNat).Pairwise (fun a b => leI a b = true) ∧ (l.map Int.ofNat).Nodup := by
  intro l h
  refine ⟨List.pairwise_map.2 (h.imp fun {a b} hab => ?_), List.pairwise_map.2 (h.imp fun {a b} hab => ?_)⟩
  · simp only [leI, decide_eq_true_eq, Int.ofNat_eq_natCast]; omega
  · simp only [Int.ofNat_eq_natCast]; omega
theorem looseKeys_rising (d : PDisk) : d.looseKeys.Pairwise (fun a b => leI a b = true) ∧ d.looseKeys.Nodup :=
  rising_map _ (List.Pairwise.filter _ List.pairwise_lt_range)
theorem looseKeys_mem (d : PDisk) (x : Int) : x ∈ d.looseKeys ↔ 0 ≤ x ∧ x < d.sure.length ∧ d.loose x ≠ none := by
  unfold PDisk.looseKeys
  simp only [List.mem_map, List.mem_filter, List.mem_range]
  constructor
  · rintro ⟨j, ⟨h1, h2⟩, rfl⟩
    refine ⟨by simp, by simpa using h1, ?_⟩
    intro e
    simp only [Int.ofNat_eq_natCast] at e
    rw [e] at h2
    cases h2
  · rintro ⟨h0, h1, h2⟩
    obtain ⟨j, rfl⟩ := Int.eq_ofNat_of_zero_le h0
    refine ⟨j, ⟨by omega, ?_⟩, rfl⟩
    cases e : d.loose j with
    | none => exact absurd e h2
    | some _ => rfl

theorem sortsA (m : Nat) : AnyZI.SortsIn Try.prog Try.sortedA_ren Fence.wide m :=
  ⟨fun blk off cap ss W hH hblk hsz => callsIn_wide.2 (AnyM.slices_Sort_int Try.sortA blk off cap ss W hH hblk hsz),
   fun p cap W => callsIn_wide.2 (AnyM.slices_Sort_int_none Try.sortA p cap W)⟩

/-- The keys of the map of loose blocks. -/
theorem loose_perm {w : World} {b sb scap mb cnt : Nat} {svals : List Value} {M : Lit → Option Value} {d : PDisk} (h : DiskAt w b sb scap mb cnt svals M d) {D : DataW Value} (hown : w.ownsMap Try.prog 3 heldE mb cnt D) (hD : ∀ kl, M kl = look D kl ∧ (Maps.has D kl = (M kl).isSome)) :
    d.looseKeys.Perm (intKeys D) ∧ Maps.size D ≤ cnt := by
  obtain ⟨es, rfl, hp, _⟩ := hown.entries keyInt
  obtain ⟨es', clock, _, F, hs, hDD⟩ := hown
  have hk : ∀ p ∈ es, ∃ x, p.1 = Lit.int .i64 x := by
    intro p hp'
    have e : es = (es'.toList.map (rg Try.prog 3 heldE)).foldr DataW.insert [] := DataW.map.inj hDD
    rw [e] at hp'
    obtain ⟨x, hx, rfl⟩ := List.mem_map.1 (mem_sorted.1 hp')
    obtain ⟨y, hy⟩ := F.reads x hx
    rw [rg_of hy]
    obtain ⟨n, _, h2, _⟩ := keyOf_i64 Try.underlying3 (rd_key hy)
    exact ⟨n, h2⟩
  refine ⟨perm_intKeys hp hk (looseKeys_rising d).2 fun x => ?_, ?_⟩
  · rw [looseKeys_mem, (hD _).2]
    constructor
    · rintro ⟨h0, h1, h2⟩
      cases hm : M (.int .i64 x) with
      | some v => rfl
      | none => exact absurd (h.gone x hm) h2
    · intro hm
      cases hv : M (.int .i64 x) with
      | none => rw [hv] at hm; cases hm
      | some v =>
        obtain ⟨l, hl, _⟩ := h.loose x v hv
        have hne : d.loose x ≠ none := by rw [hl]; simp
        obtain ⟨g0, g1⟩ := h.ok.dom x hne
        exact ⟨g0, by exact_mod_cast g1, hne⟩
  · have e : es = (es'.toList.map (rg Try.prog 3 heldE)).foldr DataW.insert [] := DataW.map.inj hDD
    rw [size_eq, e, (sorted_perm _).length_eq]
    simpa using hs

set_option maxHeartbeats 1000000 in
set_option maxRecDepth 10000 in
theorem loose_any {w : World} {b : Nat} {F : List Nat} {d : PDisk} (h : DiskRep w b F d) :
    Calls Try.prog 15 #[.pointer (some ⟨b, 0, none⟩)] w fun e w' => ∃ v, e = .returned v ∧ Slc w' 1 v d.looseKeys.length (d.looseKeys.map (Value.int .i64)) ∧ Kept [] w w' := by
  obtain ⟨sb, scap, mb, cnt, svals, M, rfl, h⟩ := h
  obtain ⟨D, hown, hD⟩ := h.map
  obtain ⟨hperm, hsize⟩ := loose_perm h hown hD
  have hcnt := h.cnt
  have c1 := h.c1
  have hbl := hown.lt
  refine (callsIn_wide (n := 6)).1 ?_
  have hseq : SeqGives Fence.wide 2 Try.prog 62 #[.pointer (some ⟨w.heap.size, 0, none⟩)] encZ (fun ss => ss.Perm (intKeys D)) (Maps.size D) (w.alloc (.cells #[.map (some mb)] 64)) :=
    AnyZI.keys_gives (ρ := Try.keysA_ren) { Try.keysA with } Fence.wide _ trivial rfl (by omega) w.heap.size mb cnt D _ (by simp) (by simp) (by
      obtain ⟨es, clock, hb, Ft, hs, hDD⟩ := hown
      exact ⟨es, clock, (Below.heap_alloc _ _ mb hbl).trans hb, Ft, hs, hDD⟩)
  have cK : ∀ m W, CallsIn Fence.wide 5 Try.prog 38 #[.map m] W fun e w' => e = .returned (.func (.func 62) #[] #[.pointer (some ⟨W.heap.size, 0, none⟩)]) ∧ w' = W.alloc (.cells #[.map m] 64) := fun m W => AnyZI.keys_in Try.keysA Fence.wide 5 trivial rfl m W
  have cS := AnyZI.sorted_in Try.sortedA Fence.wide 5 trivial trivial trivial trivial rfl (by omega) (sortsA _) (enters_of Try.func61 (by kernel_rfl) rfl) 62 #[.pointer (some ⟨w.heap.size, 0, none⟩)] trivial (enters_of Try.func62 (by kernel_rfl) rfl) _ _ (Nat.le_trans hsize (Nat.le_trans hcnt (by decide))) (by omega) _ hseq
  change CallsIn _ _ Try.prog 37 _ _ _ at cS
  have hfK : Fence.wide.fn 38 := trivial
  have hfS : Fence.wide.fn 37 := trivial
  have HP := Lib.hid hperm
  have HC := Lib.hid (looseKeys_rising d)
  clear hperm hsize hcnt hbl hown hD h hseq
  refine callsIn_of_wp Try.func15 rfl trivial ?_ rfl
  simp only [Try.ntmps15, List.size_toArray, List.length_cons, List.length_nil, Nat.reduceAdd, Nat.reduceSub, Array.replicate_succ, Array.replicate_zero, List.push_toArray, List.append_toArray, List.nil_append, List.cons_append]
  gi_wp2_with (first
    | (gi_at_call 38; refine (cK _ _).mono ?_; rintro e w' ⟨rfl, rfl⟩)
    | (gi_at_call 37; refine cS.mono ?_; rintro e w' ⟨v, ss, rfl, hS, hrow, hnil, hb⟩))
  go_ret
  have e1 : ss.mergeSort leI = d.looseKeys := by
    rw [mergeSort_of_perm_i (hS.trans HP.out.symm)]
    exact List.mergeSort_of_pairwise HC.out.1
  have e2 : ss.length = d.looseKeys.length := (hS.trans HP.out.symm).length_eq
  rw [show (fun x y : Int => decide (x ≤ y)) = leI from rfl, e1, e2] at hrow
  exact ⟨v, rfl, Slc.of_row hrow, ((Kept.refl [] w).alloc _).then (Kept.of_below (hb.mono (by simp)))⟩
end Go.Proofs.Ytfkdoinlbdcaaaa
