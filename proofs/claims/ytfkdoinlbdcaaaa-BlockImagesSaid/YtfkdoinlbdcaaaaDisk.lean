/- The disk of blocks: what it is (plainly), how it lies in memory, and the contracts of its small functions. -/
import Derived.Test.YtfkdoinlbdcaaaaLib
import Derived.BigQuiet
import Derived.Deep.QuietTactic
import Derived.Deep.RegionWith
import Derived.Deep.RegionHeld3
namespace Go.Proofs.Ytfkdoinlbdcaaaa
open Go.RowKit
open Go.Maps (Keyed)

/-! ### The disk, plainly -/
structure PDisk where
  sure : List (List UInt8)
  loose : Int → Option (List UInt8)
  left : Int
  bytes : Int
  off : Bool

namespace PDisk
def may (d : PDisk) (i : Int) : Int := if d.off then 210 else if i < 0 ∨ (d.sure.length : Int) ≤ i then 4 else 0
def now (d : PDisk) (i : Int) : List UInt8 := (d.loose i).getD (d.sure.getD i.toNat [])
def goes (d : PDisk) : PDisk := if d.left = 0 then { d with off := true } else if 0 < d.left then { d with left := d.left - 1 } else d
def upd (d : PDisk) (i : Int) (l : List UInt8) : PDisk := { d with loose := fun x => if x = i then some l else d.loose x }
def write (d : PDisk) (i : Int) (l : List UInt8) : Int × PDisk :=
  if d.may i ≠ 0 then (d.may i, d) else if l.length ≠ 64 then (1, d)
  else if d.goes.off then (210, d.goes.upd i (l.take d.goes.bytes.toNat ++ (d.goes.now i).drop d.goes.bytes.toNat)) else (0, d.goes.upd i l)
def read (d : PDisk) (i : Int) : List UInt8 × Int := if d.may i ≠ 0 then ([], d.may i) else (d.now i, 0)
theorem may_zero {d : PDisk} {i : Int} (h : d.may i = 0) : d.off = false ∧ 0 ≤ i ∧ i < d.sure.length := by
  unfold may at h
  split at h
  · cases h
  · rename_i ho
    split at h
    · cases h
    · rename_i hc
      exact ⟨by simpa using ho, by omega, by omega⟩
theorem goes_sure (d : PDisk) : d.goes.sure = d.sure := by unfold goes; split; rfl; split <;> rfl
theorem goes_loose (d : PDisk) : d.goes.loose = d.loose := by unfold goes; split; rfl; split <;> rfl
theorem goes_bytes (d : PDisk) : d.goes.bytes = d.bytes := by unfold goes; split; rfl; split <;> rfl
structure Ok (d : PDisk) : Prop where
  pos : 1 ≤ d.sure.length
  le : d.sure.length ≤ 16384
  b0 : 0 ≤ d.bytes
  b1 : d.bytes ≤ 64
  l0 : -1 ≤ d.left
  l1 : d.left ≤ 9223372036854775807
  dom : ∀ x, d.loose x ≠ none → 0 ≤ x ∧ x < d.sure.length
  s64 : ∀ l, l ∈ d.sure → l.length = 64
  l64 : ∀ x l, d.loose x = some l → l.length = 64
theorem Ok.now64 {d : PDisk} (h : d.Ok) {i : Int} (h0 : 0 ≤ i) (h1 : i < d.sure.length) : (d.now i).length = 64 := by
  unfold now
  cases hl : d.loose i with
  | some l => exact h.l64 i l hl
  | none =>
    have hj : i.toNat < d.sure.length := by omega
    simp only [Option.getD_none]
    rw [List.getD_eq_getElem?_getD, List.getElem?_eq_getElem hj]
    exact h.s64 _ (List.getElem_mem _)
end PDisk

/-! ### How it lies in memory -/
theorem tyBlocks : SliceTy Try.prog 48 30 1 24 (.slice none 0 0) := ⟨Try.underlying48, by kernel_rfl, rfl, by decide⟩
theorem keyInt : Keyed Try.prog 3 := Maps.int_keyed Try.underlying3
theorem zeroBytes (w : World) : (zeroValue 30).run Try.prog w = .ok (.slice none 0 0) w := by kernel_rfl

/-- A block's bytes, in an array that nobody writes to. -/
def Data (w : World) (v : Value) (l : List UInt8) : Prop := Bytes w v l ∧ ∀ g, vblk v = some g → kind w g = 5 + 2
theorem Data.kept {X : List Nat} {w w' : World} {v : Value} {l : List UInt8} (h : Data w v l) (k : Kept X w w') (hX : ∀ k, k ∈ X → kind w k ≠ 5 + 2) : Data w' v l := by
  have hn : ∀ g, vblk v = some g → g ∉ X := fun g hg hx => hX g hx (h.2 g hg)
  exact ⟨h.1.kept k hn, fun g hg => (k.kind (h.1.lt hg) (hn g hg)).trans (h.2 g hg)⟩
theorem Data.of_new {w w' : World} {v : Value} {l : List UInt8} (h : NewBytes w w' v l) : Data w' v l := ⟨h.1, fun g hg => (h.2 g hg).2⟩

structure DiskAt (w : World) (b sb scap mb cnt : Nat) (svals : List Value) (M : Lit → Option Value) (d : PDisk) : Prop where
  ok : d.Ok
  head : w.heap[b]? = some (.cells #[.slice (some ⟨sb, 0, none⟩) d.sure.length scap, .map (some mb), .int .i64 d.left, .int .i64 d.bytes, .bool d.off] 66 (0, 0))
  row : w.ownsRow 0 30 1 (.slice (some ⟨sb, 0, none⟩) d.sure.length scap) d.sure.length svals
  map : MapAt Try.prog w 3 mb cnt M
  cnt : cnt ≤ 16384
  sure : All2 (Data w) svals d.sure
  loose : ∀ x v, M (.int .i64 x) = some v → ∃ l, d.loose x = some l ∧ Data w v l
  gone : ∀ x, M (.int .i64 x) = none → d.loose x = none

/-- The disk d lies at block b; what of it may be written are the blocks F. -/
def DiskRep (w : World) (b : Nat) (F : List Nat) (d : PDisk) : Prop := ∃ sb scap mb cnt svals M, F = [b, sb, mb] ∧ DiskAt w b sb scap mb cnt svals M d

section
variable {w : World} {b sb scap mb cnt : Nat} {svals : List Value} {M : Lit → Option Value} {d : PDisk}
theorem DiskAt.kb (h : DiskAt w b sb scap mb cnt svals M d) : kind w b = 66 + 2 := kind_cells h.head
theorem DiskAt.ks (h : DiskAt w b sb scap mb cnt svals M d) : kind w sb = 30 + 2 := row_kind h.row rfl
theorem DiskAt.km (h : DiskAt w b sb scap mb cnt svals M d) : kind w mb = 1 := h.map.kind
theorem DiskAt.c0 (h : DiskAt w b sb scap mb cnt svals M d) : w.cell? ⟨b, 0, none⟩ = some (.slice (some ⟨sb, 0, none⟩) d.sure.length scap) := by simp [World.cell?, h.head]
theorem DiskAt.c1 (h : DiskAt w b sb scap mb cnt svals M d) : w.cell? ⟨b, 1, none⟩ = some (.map (some mb)) := by simp [World.cell?, h.head]
theorem DiskAt.c2 (h : DiskAt w b sb scap mb cnt svals M d) : w.cell? ⟨b, 2, none⟩ = some (.int .i64 d.left) := by simp [World.cell?, h.head]
theorem DiskAt.c3 (h : DiskAt w b sb scap mb cnt svals M d) : w.cell? ⟨b, 3, none⟩ = some (.int .i64 d.bytes) := by simp [World.cell?, h.head]
theorem DiskAt.c4 (h : DiskAt w b sb scap mb cnt svals M d) : w.cell? ⟨b, 4, none⟩ = some (.bool d.off) := by simp [World.cell?, h.head]
theorem DiskAt.fr (h : DiskAt w b sb scap mb cnt svals M d) (o : Nat) : w.frozen? ⟨b, o, none⟩ = false := by simp [World.frozen?, h.head]
theorem DiskAt.len (h : DiskAt w b sb scap mb cnt svals M d) : svals.length = d.sure.length := by have := h.row.1; simpa using this
theorem DiskAt.cell (h : DiskAt w b sb scap mb cnt svals M d) {j : Nat} (hj : j < svals.length) : w.cell? ⟨sb, j, none⟩ = some svals[j] := by
  have := h.row.cellAt j (by rw [← h.len]; omega)
  rw [this]; simp [hj]
theorem DiskAt.lt (h : DiskAt w b sb scap mb cnt svals M d) : b < w.heap.size := lt_of_block h.head
theorem DiskAt.dist (h : DiskAt w b sb scap mb cnt svals M d) : b ≠ sb ∧ b ≠ mb ∧ sb ≠ mb :=
  ⟨ne_kind h.kb h.ks (by decide), ne_kind h.kb h.km (by decide), ne_kind h.ks h.km (by decide)⟩
/-- Nothing of the disk is turned: it is what it was. -/
theorem DiskAt.kept {X : List Nat} {w' : World} (h : DiskAt w b sb scap mb cnt svals M d) (k : Kept X w w') (h1 : b ∉ X) (h2 : sb ∉ X) (h3 : mb ∉ X) (hX : ∀ k, k ∈ X → kind w k ≠ 5 + 2) : DiskAt w' b sb scap mb cnt svals M d where
  ok := h.ok
  head := k.heap h.head h1
  row := row_kept h.row k (by intro g hg; simp [Value.ownBlock] at hg; subst hg; exact h2)
  map := h.map.kept k h3
  cnt := h.cnt
  sure := h.sure.mono fun x y _ r => r.kept k hX
  loose := fun x v hv => by obtain ⟨l, e, r⟩ := h.loose x v hv; exact ⟨l, e, r.kept k hX⟩
  gone := h.gone
end
theorem DiskRep.lt {w : World} {b : Nat} {F : List Nat} {d : PDisk} (h : DiskRep w b F d) : ∀ k, k ∈ F → k < w.heap.size := by
  obtain ⟨sb, scap, mb, cnt, svals, M, rfl, h⟩ := h
  intro k hk
  simp at hk
  rcases hk with rfl | rfl | rfl
  · exact h.lt
  · exact h.row.lt _ rfl |>.2
  · exact h.map.lt
theorem DiskRep.kinds {w : World} {b : Nat} {F : List Nat} {d : PDisk} (h : DiskRep w b F d) : ∀ k, k ∈ F → kind w k ≠ 5 + 2 := by
  obtain ⟨sb, scap, mb, cnt, svals, M, rfl, h⟩ := h
  intro k hk
  simp at hk
  rcases hk with rfl | rfl | rfl
  · rw [h.kb]; decide
  · rw [h.ks]; decide
  · rw [h.km]; decide
theorem DiskRep.ok {w : World} {b : Nat} {F : List Nat} {d : PDisk} (h : DiskRep w b F d) : d.Ok := by
  obtain ⟨sb, scap, mb, cnt, svals, M, rfl, h⟩ := h
  exact h.ok
theorem DiskRep.kept {X : List Nat} {w w' : World} {b : Nat} {F : List Nat} {d : PDisk} (h : DiskRep w b F d) (k : Kept X w w') (hX : ∀ k, k ∈ X → k ∉ F ∧ kind w k ≠ 5 + 2) : DiskRep w' b F d := by
  obtain ⟨sb, scap, mb, cnt, svals, M, rfl, h⟩ := h
  refine ⟨sb, scap, mb, cnt, svals, M, rfl, h.kept k ?_ ?_ ?_ fun k hk => (hX k hk).2⟩
  all_goals
    intro e
    have := (hX _ e).1
    simp at this
theorem DiskRep.kept0 {w w' : World} {b : Nat} {F : List Nat} {d : PDisk} (h : DiskRep w b F d) (k : Kept [] w w') : DiskRep w' b F d := h.kept k (by simp)

/-! ### The small functions -/
set_option maxRecDepth 10000 in
theorem may_any {w : World} {b sb scap mb cnt : Nat} {svals : List Value} {M : Lit → Option Value} {d : PDisk} (h : DiskAt w b sb scap mb cnt svals M d) (i : Int) :
    Calls Try.prog 31 #[.pointer (some ⟨b, 0, none⟩), .int .i64 i] w fun e w' => e = .returned (.int .i64 (d.may i)) ∧ w = w' := by
  have c4 := h.c4
  have c0 := h.c0
  clear h
  unfold PDisk.may
  cases ho : d.off
  · rw [ho] at c4
    clear ho
    by_cases h1 : i < 0
    · go_enter Try.func31, Try.ntmps31
      go_wp2
      go_ret
      simp
    · by_cases h2 : (d.sure.length : Int) ≤ i
      · go_enter Try.func31, Try.ntmps31
        go_wp2
        go_ret
        simp
      · go_enter Try.func31, Try.ntmps31
        go_wp2
        go_ret
        simp
  · rw [ho] at c4
    clear ho
    go_enter Try.func31, Try.ntmps31
    go_wp2
    go_ret
    simp
set_option maxRecDepth 10000 in
theorem may_nil (i : Int) (w : World) : Calls Try.prog 31 #[.pointer none, .int .i64 i] w fun e w' => e = .returned (.int .i64 6) ∧ w = w' := by
  go_enter Try.func31, Try.ntmps31
  go_wp2
  go_ret
  exact ⟨rfl, rfl⟩

set_option maxRecDepth 10000 in
theorem now_any {w : World} {b sb scap mb cnt : Nat} {svals : List Value} {M : Lit → Option Value} {d : PDisk} (h : DiskAt w b sb scap mb cnt svals M d) (i : Int) (h0 : 0 ≤ i) (h1 : i < d.sure.length) :
    Calls Try.prog 34 #[.pointer (some ⟨b, 0, none⟩), .int .i64 i] w fun e w' => ∃ v, e = .returned v ∧ Data w v (d.now i) ∧ w = w' := by
  have hle := h.ok.le
  have hw : (Lit.int .i64 i).wf = true := wf64 (by omega) (by omega)
  have hl := (h.map.lookup keyInt Try.underlying64 (zeroBytes w) (Maps.keyOf_int_mk Try.underlying3 hw)).1
  have c0 := h.c0
  have c1 := h.c1
  cases hM : M (.int .i64 i) with
  | some v =>
    rw [hM] at hl
    obtain ⟨l, e, r⟩ := h.loose i v hM
    have hr : Data w v (d.now i) := by unfold PDisk.now; rw [e]; exact r
    clear hM h hle e r hw
    go_enter Try.func34, Try.ntmps34
    go_wp2
    go_ret
    exact ⟨_, rfl, hr, rfl⟩
  | none =>
    rw [hM] at hl
    have e := h.gone i hM
    obtain ⟨k, rfl⟩ := Int.eq_ofNat_of_zero_le h0
    have hk : k < d.sure.length := by omega
    have hkl : k < svals.length := by rw [h.len]; exact hk
    have hc := h.cell hkl
    have hr : Data w svals[k] (d.now k) := by
      unfold PDisk.now
      rw [e, Option.getD_none, Int.toNat_natCast, List.getD_eq_getElem?_getD, List.getElem?_eq_getElem hk]
      exact h.sure.2 k svals[k] d.sure[k] (by simp [hkl]) (by simp [hk])
    have hr' := Lib.hid hr
    clear hM h e hw hr
    generalize svals[k] = v at *
    go_enter Try.func34, Try.ntmps34
    go_wp2
    go_ret
    exact ⟨_, rfl, hr'.out, rfl⟩

/-- One step of the power. -/
theorem DiskAt.setLeft {w w' : World} {b sb scap mb cnt : Nat} {svals : List Value} {M : Lit → Option Value} {d : PDisk} (h : DiskAt w b sb scap mb cnt svals M d) {left bytes : Int} {off : Bool}
    (k : Kept [b] w w') (hb : w'.heap[b]? = some (.cells #[.slice (some ⟨sb, 0, none⟩) d.sure.length scap, .map (some mb), .int .i64 left, .int .i64 bytes, .bool off] 66 (0, 0)))
    (h0 : 0 ≤ bytes) (h1 : bytes ≤ 64) (h2 : -1 ≤ left) (h3 : left ≤ 9223372036854775807) : DiskAt w' b sb scap mb cnt svals M { d with left := left, bytes := bytes, off := off } where
  ok := ⟨h.ok.pos, h.ok.le, h0, h1, h2, h3, h.ok.dom, h.ok.s64, h.ok.l64⟩
  head := hb
  row := row_kept h.row k (by intro g hg; simp [Value.ownBlock] at hg; subst hg; simpa using h.dist.1.symm)
  map := h.map.kept k (by simpa using h.dist.2.1.symm)
  cnt := h.cnt
  sure := h.sure.mono fun x y _ r => r.kept k (by intro k hk; simp at hk; subst hk; rw [h.kb]; decide)
  loose := fun x v hv => by obtain ⟨l, e, r⟩ := h.loose x v hv; exact ⟨l, e, r.kept k (by intro k hk; simp at hk; subst hk; rw [h.kb]; decide)⟩
  gone := h.gone

theorem setCell_heap {w : World} {b i : Nat} {c : Array Value} {t : Nat} {f : Nat × Nat} (h : w.heap[b]? = some (.cells c t f)) (v : Value) : (w.setCell ⟨b, i, none⟩ v).heap[b]? = some (.cells (c.setIfInBounds i v) t f) := by
  simp [World.setCell, Array.getElem?_modify, h]

set_option maxRecDepth 10000 in
theorem goes_any {w : World} {b sb scap mb cnt : Nat} {svals : List Value} {M : Lit → Option Value} {d : PDisk} (h : DiskAt w b sb scap mb cnt svals M d) :
    Calls Try.prog 32 #[.pointer (some ⟨b, 0, none⟩)] w fun e w' => e = .returned (.bool d.goes.off) ∧ DiskAt w' b sb scap mb cnt svals M d.goes ∧ Kept [b] w w' := by
  have H := Lib.hid h
  have c2 := h.c2
  have c4 := h.c4
  have f2 := h.fr 2
  have f4 := h.fr 4
  have l0 := h.ok.l0
  have l1 := h.ok.l1
  have d0 : d = { d with left := d.left } := rfl
  unfold PDisk.goes
  clear h
  by_cases h0 : d.left = 0
  · rw [if_pos h0]
    have hb : (d.left == 0) = true := by simpa using h0
    have H0 := Lib.hid h0
    clear h0
    go_enter Try.func32, Try.ntmps32
    go_wp2
    go_ret
    have h := H.out
    have k : Kept [b] w (w.setCell ⟨b, 4, none⟩ (.bool true)) := (Kept.refl [b] w).setCell (by simp) _
    exact ⟨rfl, h.setLeft k (by rw [setCell_heap h.head]; simp) h.ok.b0 h.ok.b1 h.ok.l0 h.ok.l1, k⟩
  · rw [if_neg h0]
    have hb : (d.left == 0) = false := by simpa using h0
    clear h0
    by_cases h1 : 0 < d.left
    · rw [if_pos h1]
      go_enter Try.func32, Try.ntmps32
      go_wp2
      go_ret
      have h := H.out
      have k : Kept [b] w (w.setCell ⟨b, 2, none⟩ (.int .i64 (d.left - 1))) := (Kept.refl [b] w).setCell (by simp) _
      exact ⟨rfl, h.setLeft k (by rw [setCell_heap h.head]; simp) h.ok.b0 h.ok.b1 (by omega) (by omega), k⟩
    · rw [if_neg h1]
      go_enter Try.func32, Try.ntmps32
      go_wp2
      go_ret
      exact ⟨rfl, H.out, Kept.refl _ _⟩

theorem keyInt_inv {kl : Lit} (h : ∃ key, keyOf Try.prog 3 key = some kl) : ∃ x, kl = .int .i64 x := by
  obtain ⟨key, h⟩ := h
  obtain ⟨x, _, e, _⟩ := Maps.keyOf_int_inv Try.underlying3 h
  exact ⟨x, e⟩
def litInt : Lit → Int | .int _ x => x | _ => 0
theorem sameInt {x i : Int} : (Lit.int .i64 x).sameKey (.int .i64 i) = decide (x = i) := by simp [Lit.sameKey]

/-- A loose block more. -/
theorem DiskAt.put {w w' : World} {b sb scap mb cnt : Nat} {svals : List Value} {M : Lit → Option Value} {d : PDisk} (h : DiskAt w b sb scap mb cnt svals M d) {i : Int} {v : Value} {l : List UInt8}
    (k : Kept [mb] w w') (hm : MapAt Try.prog w' 3 mb (cnt + 1) (fun z => if z.sameKey (.int .i64 i) then some v else M z)) (hv : Data w' v l) (hl : l.length = 64) (h0 : 0 ≤ i) (h1 : i < d.sure.length) :
    ∃ cnt' M', DiskAt w' b sb scap mb cnt' svals M' (d.upd i l) := by
  have hX : ∀ k, k ∈ [mb] → kind w k ≠ 5 + 2 := by intro k hk; simp at hk; subst hk; rw [h.km]; decide
  have hM : ∀ x v', (if (Lit.int IntKind.i64 x).sameKey (.int .i64 i) then some v else M (.int .i64 x)) = some v' → ∃ l', (d.upd i l).loose x = some l' ∧ Data w' v' l' := by
    intro x v' hx
    rw [sameInt] at hx
    by_cases e : x = i
    · subst e
      simp at hx
      subst hx
      exact ⟨l, by simp [PDisk.upd], hv⟩
    · simp [e] at hx
      obtain ⟨l', e1, e2⟩ := h.loose x v' hx
      exact ⟨l', by simp [PDisk.upd, e, e1], e2.kept k hX⟩
  have hok : (d.upd i l).Ok := by
    refine ⟨h.ok.pos, h.ok.le, h.ok.b0, h.ok.b1, h.ok.l0, h.ok.l1, ?_, h.ok.s64, ?_⟩
    · intro x hx
      by_cases e : x = i
      · subst e; exact ⟨h0, h1⟩
      · simp [PDisk.upd, e] at hx; exact h.ok.dom x hx
    · intro x l' hx
      by_cases e : x = i
      · subst e; simp [PDisk.upd] at hx; subst hx; exact hl
      · simp [PDisk.upd, e] at hx; exact h.ok.l64 x l' hx
  have hr := hm.reset keyInt litInt ((List.range d.sure.length).map Int.ofNat) (by
    intro kl hk hs
    obtain ⟨x, rfl⟩ := keyInt_inv hk
    obtain ⟨v', hv'⟩ := Option.isSome_iff_exists.1 hs
    obtain ⟨l', e1, _⟩ := hM x v' hv'
    obtain ⟨a, c⟩ := hok.dom x (by rw [e1]; simp)
    show x ∈ _
    rw [List.mem_map]
    have c' : x < (d.sure.length : Int) := c
    exact ⟨x.toNat, by rw [List.mem_range]; omega, by show ((x.toNat : Nat) : Int) = x; omega⟩) (by
    intro a c ha hc e
    obtain ⟨x, rfl⟩ := keyInt_inv ha
    obtain ⟨y, rfl⟩ := keyInt_inv hc
    simp [litInt] at e
    rw [e])
  rw [List.length_map, List.length_range] at hr
  have hd := h.dist
  exact ⟨_, _, {
    ok := hok
    head := k.heap h.head (by simpa using hd.2.1)
    row := row_kept h.row k (by intro g hg; simp [Value.ownBlock] at hg; subst hg; simpa using hd.2.2)
    map := hr
    cnt := h.ok.le
    sure := h.sure.mono fun x y _ r => r.kept k hX
    loose := hM
    gone := by
      intro x hx
      rw [sameInt] at hx
      by_cases e : x = i
      · simp [e] at hx
      · simp [e] at hx
        simp only [PDisk.upd, if_neg e]
        exact h.gone x hx }⟩

set_option maxRecDepth 10000 in
theorem read_any {w : World} {b : Nat} {F : List Nat} {d : PDisk} (h : DiskRep w b F d) (i : Int) :
    Calls Try.prog 13 #[.pointer (some ⟨b, 0, none⟩), .int .i64 i] w fun e w' => ∃ v, e = .returned (.tuple #[v, .int .i64 (d.read i).2]) ∧ NewBytes w w' v (d.read i).1 ∧ Kept [] w w' := by
  obtain ⟨sb, scap, mb, cnt, svals, M, rfl, h⟩ := h
  have hm := may_any h i
  unfold PDisk.read
  by_cases hz : d.may i = 0
  · rw [if_neg (by simpa using hz)]
    rw [hz] at hm
    obtain ⟨ho, h0, h1⟩ := PDisk.may_zero hz
    have hn := now_any h i h0 h1
    have hl := h.ok.now64 h0 h1
    clear hz ho h0 h1
    generalize d.now i = l at *
    have Hl := Lib.hid hl
    have Hm := Lib.hid hm
    have Hn := Lib.hid hn
    clear hl hm hn h
    go_enter Try.func13, Try.ntmps13
    go_wp2_with (first
      | (go_at_call 31; refine Hm.out.mono ?_; rintro e w' ⟨rfl, rfl⟩)
      | (go_at_call 34; refine Hn.out.mono ?_; rintro e w' ⟨v, rfl, hd, rfl⟩)
      | (go_at_call 35; refine (clone_any _ l _ hd.1 (by rw [Hl.out]; decide)).mono ?_; rintro e w' ⟨v', rfl, hv, hk⟩))
    go_ret2
    exact ⟨_, rfl, hv, hk⟩
  · rw [if_pos (by simpa using hz)]
    have hz' : (d.may i == 0) = false := by simpa using hz
    have Hm := Lib.hid hm
    clear hz h hm
    generalize d.may i = m at *
    go_enter Try.func13, Try.ntmps13
    go_wp2_with (first
      | (go_at_call 31; refine Hm.out.mono ?_; rintro e w' ⟨rfl, rfl⟩))
    go_ret2
    exact ⟨_, rfl, ⟨slc_nil _ _, by simp [vblk]⟩, Kept.refl _ _⟩

set_option maxRecDepth 10000 in
set_option maxHeartbeats 800000 in
theorem write_any {w : World} {b : Nat} {F : List Nat} {d : PDisk} (h : DiskRep w b F d) (i : Int) {v : Value} {l : List UInt8} (hv : Bytes w v l) (hF : ∀ g, vblk v = some g → g ∉ F) :
    Calls Try.prog 11 #[.pointer (some ⟨b, 0, none⟩), .int .i64 i, v] w fun e w' => e = .returned (.int .i64 (d.write i l).1) ∧ DiskRep w' b F (d.write i l).2 ∧ Kept F w w' := by
  obtain ⟨sb, scap, mb, cnt, svals, M, rfl, h⟩ := h
  have hm := may_any h i
  obtain ⟨va, vc, hvf, hvc, hvm⟩ := hv.form
  subst hvf
  unfold PDisk.write
  by_cases hz : d.may i = 0
  · rw [if_neg (by simpa using hz)]
    rw [hz] at hm
    have Hm := Lib.hid hm
    clear hm
    by_cases hl : l.length = 64
    · rw [if_neg (by simpa using hl)]
      obtain ⟨ho, h0, h1⟩ := PDisk.may_zero hz
      have hg := goes_any h
      have Hg := Lib.hid hg
      have HL := Lib.hid hl
      have Hv := Lib.hid hv
      have h1' : i < d.goes.sure.length := by rw [PDisk.goes_sure]; exact h1
      clear hz hg hv h1
      rw [hl] at Hv hF ⊢
      rw [hl] at hvc
      clear hl
      by_cases hof : d.goes.off = true
      · rw [if_pos hof]
        rw [hof] at Hg
        clear hof
        have hb0 := h.ok.b0
        have hb1 := h.ok.b1
        rw [← PDisk.goes_bytes] at hb0 hb1
        generalize d.goes = dg at *
        clear ho
        have hne := Lib.hid h.dist.2.1
        clear h
        go_enter Try.func11, Try.ntmps11
        go_wp2_with (first
          | (go_at_call 31; refine Hm.out.mono ?_; rintro e w' ⟨rfl, rfl⟩)
          | (go_at_call 32; refine Hg.out.mono ?_; rintro e w1 ⟨rfl, hd, hk⟩))
        have c1 := hd.c1
        have c3 := hd.c3
        obtain ⟨kb, hkb⟩ := Int.eq_ofNat_of_zero_le hb0
        rw [hkb] at c3 hb1
        have hkb1 : kb ≤ 64 := by omega
        have hv1 := (Hv.out.kept hk (by intro g hg hx; simp at hx; subst hx; exact hF _ hg (by simp))).drew
        have hkey := Lib.hid (Maps.keyOf_int_mk Try.underlying3 (wf64 (i := i) (by omega) (by have := hd.ok.le; omega)))
        have hnow := Lib.hid (now_any (hd.kept (Kept.refl [] _).drew (by simp) (by simp) (by simp) (by simp)) i h0 h1')
        have hn64 := hd.ok.now64 h0 h1'
        obtain ⟨a1, cc1, hr1, hb1', hbo1⟩ := Bytes.upto tyBytes hv1 kb (by rw [HL.out]; exact hkb1)
        clear hv1
        have Hb1 := Lib.hid hb1'
        have hn64' := Lib.hid hn64
        have Hd := Lib.hid hd
        have Hk := Lib.hid hk
        have Hkb := Lib.hid hkb
        clear hb1' hn64 hd hk hkb
        go_region_held3 (fun w' => w'.cell? ⟨b, 1, none⟩ = some (.map (some mb)) ∧ w'.cell? ⟨b, 3, none⟩ = some (.int .i64 kb)) (first | go_keep | exact ⟨kk2.cell (p := ⟨b, 1, none⟩) c1 (by simp), kk2.cell (p := ⟨b, 3, none⟩) c3 (by simp)⟩ | exact ⟨hk3.cell (kk2.cell (p := ⟨b, 1, none⟩) c1 (by simp)) (by simpa using hne.out), hk3.cell (kk2.cell (p := ⟨b, 3, none⟩) c3 (by simp)) (by simpa using hne.out)⟩) (first
          | (go_at_call 34; refine hnow.out.mono ?_; rintro e w2 ⟨v2, rfl, hnd, rfl⟩; obtain ⟨a3, cc3, hr3, hb3, hbo3⟩ := Bytes.from tyBytes hnd.1 kb (by rw [hn64'.out]; exact hkb1))
          | (go_at_call 33; refine Calls.mono (concat2 _ _ (.slice a1 kb cc1) (.slice a3 ((dg.now i).length - kb) cc3) (l.take kb) ((dg.now i).drop kb) _ ?_ ?_ ?_ ?_) ?_; exact (row_new _ _ _).drew; exact Hb1.out.kept0 ((Kept.refl _ w1.drew).alloc _); exact hb3.kept0 ((Kept.refl _ w1.drew).alloc _); (have q1 := hn64'.out; have q2 := HL.out; simp only [List.length_take, List.length_drop, lim]; omega); rintro e w2 ⟨v', rfl, hn, hk2⟩; have kk2 : Kept [] w1 w2 := ((Kept.refl _ w1).drew.alloc _).then hk2; obtain ⟨w3, hrun, hm3, hk3, -⟩ := (Hd.out.map.kept0 kk2).update keyInt Try.underlying64 (Nat.lt_of_le_of_lt Hd.out.cnt (by decide)) hkey.out v'))
        go_wp2
        go_ret
        have hd2 := Hd.out.kept kk2 (by simp) (by simp) (by simp) (by simp)
        have hn3 : Data w3 v' (l.take kb ++ (dg.now i).drop kb) := (Data.of_new hn).kept hk3 (by intro k hk; simp at hk; subst hk; rw [hd2.km]; decide)
        obtain ⟨cnt', M', hfin⟩ := hd2.put hk3 hm3 hn3 (by have q1 := hn64'.out; have q2 := HL.out; simp only [List.length_append, List.length_take, List.length_drop]; omega) h0 h1'
        refine ⟨rfl, ⟨sb, scap, mb, cnt', svals, M', rfl, ?_⟩, ?_⟩
        · rw [Hkb.out, Int.toNat_natCast]; exact hfin
        · exact (Hk.out.mono (by simp)).trans ((kk2.mono (by simp)).trans' hk3) (by simp)
      · rw [if_neg hof]
        have hof' : d.goes.off = false := by simpa using hof
        rw [hof'] at Hg
        clear hof hof'
        generalize d.goes = dg at *
        clear ho
        have hne := Lib.hid h.dist.2.1
        clear h
        go_enter Try.func11, Try.ntmps11
        go_wp2_with (first
          | (go_at_call 31; refine Hm.out.mono ?_; rintro e w' ⟨rfl, rfl⟩)
          | (go_at_call 32; refine Hg.out.mono ?_; rintro e w1 ⟨rfl, hd, hk⟩))
        have c1 := hd.c1
        have hv1 := Lib.hid (Hv.out.kept hk (by intro g hg hx; simp at hx; subst hx; exact hF _ hg (by simp))).drew
        have hkey := Lib.hid (Maps.keyOf_int_mk Try.underlying3 (wf64 (i := i) (by omega) (by have := hd.ok.le; omega)))
        have Hd := Lib.hid hd
        have Hk := Lib.hid hk
        clear hd hk
        go_region_held3 (fun w' => w'.cell? ⟨b, 1, none⟩ = some (.map (some mb))) (first | go_keep | exact hk2.cell (p := ⟨b, 1, none⟩) c1 (by simp) | exact hk3.cell (hk2.cell (p := ⟨b, 1, none⟩) c1 (by simp)) (by simpa using hne.out)) (first
          | (go_at_call 35; refine (clone_any _ _ _ hv1.out (by rw [HL.out]; decide)).mono ?_; rintro e w2 ⟨v', rfl, hn, hk2⟩; obtain ⟨w3, hrun, hm3, hk3, -⟩ := (Hd.out.map.kept0 ((Kept.refl _ w1).drew.then hk2)).update keyInt Try.underlying64 (Nat.lt_of_le_of_lt Hd.out.cnt (by decide)) hkey.out v'))
        go_wp2
        go_ret
        have kk : Kept [] w1 w2 := (Kept.refl _ w1).drew.then hk2
        have hd2 := Hd.out.kept kk (by simp) (by simp) (by simp) (by simp)
        have hn3 : Data w3 v' l := (Data.of_new hn).kept hk3 (by intro k hk; simp at hk; subst hk; rw [hd2.km]; decide)
        obtain ⟨cnt', M', hfin⟩ := hd2.put hk3 hm3 hn3 HL.out h0 h1'
        refine ⟨rfl, ⟨sb, scap, mb, cnt', svals, M', rfl, hfin⟩, ?_⟩
        exact (Hk.out.mono (by simp)).trans ((kk.mono (by simp)).trans' hk3) (by simp)
    · rw [if_pos (by simpa using hl)]
      have hl' : ((l.length : Int) == 64) = false := by simp; omega
      clear hl
      have H : DiskRep w b [b, sb, mb] d := ⟨sb, scap, mb, cnt, svals, M, rfl, h⟩
      generalize l.length = n at *
      clear h hv
      go_enter Try.func11, Try.ntmps11
      go_wp2_with (first
        | (go_at_call 31; refine Hm.out.mono ?_; rintro e w' ⟨rfl, rfl⟩))
      go_ret
      exact ⟨rfl, H, Kept.refl _ _⟩
  · rw [if_pos (by simpa using hz)]
    have hz' : (d.may i == 0) = false := by simpa using hz
    have Hm := Lib.hid hm
    have H : DiskRep w b [b, sb, mb] d := ⟨sb, scap, mb, cnt, svals, M, rfl, h⟩
    clear hz h hm
    generalize d.may i = m at *
    go_enter Try.func11, Try.ntmps11
    go_wp2_with (first
      | (go_at_call 31; refine Hm.out.mono ?_; rintro e w' ⟨rfl, rfl⟩))
    go_ret
    exact ⟨rfl, H, Kept.refl _ _⟩
end Go.Proofs.Ytfkdoinlbdcaaaa
