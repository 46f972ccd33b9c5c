/- Parts of one proof, merged: XZF XZG XZH XZI XZJ. -/
import Derived.Test.YtpbphdkjjoipnaaGreatDoorGU
import Derived.Conc.MuLone
import Derived.Conc.RwLib
import Derived.Defers
import Derived.Laws.LoneSync
import Derived.LoopTactic
import Derived.Recover
import Derived.RegionCalls
set_option linter.all false
set_option maxHeartbeats 12800000
set_option maxRecDepth 10000
set_option linter.unusedVariables false
set_option linter.unusedSimpArgs false
set_option linter.unnecessarySimpa false
namespace Go.Proofs.YtpbphdkjjoipnaaGreatDoor
open Go.RowKit
abbrev muLink : Go.Conc.Locks.MuLink := { lock := 166, unlock := 167, ilock := 200, iunlock := 201, lockSlow := 232, unlockSlow := 235, disable := 228, enable := 230, acquire := 231, relMerge := 233, cas32 := 229, add32 := 234, tMutex := 112, tIMutex := 110, tPMutex := 219, tPIMutex := 246, tPI32 := 248, tUP := 145, tNoCopy := 104, tU32 := 106 }
theorem muLib : Go.Conc.Locks.MuLib Tryz.prog muLink :=
 ⟨Tryz.func166, Tryz.func167, Tryz.func200, Tryz.func201, Tryz.func228, Tryz.func230, Tryz.func231, Tryz.func233, Tryz.func229, Tryz.func234,
  Tryz.underlying110, Tryz.runUnderlying110, Tryz.sizeOf110, Tryz.isAgg110, Tryz.zeroValue110, Tryz.underlying112, Tryz.runUnderlying112, Tryz.sizeOf112, Tryz.isAgg112, Tryz.zeroValue112, Tryz.underlying219, Tryz.runUnderlying219, Tryz.sizeOf219, Tryz.isAgg219, Tryz.zeroValue219, Tryz.underlying246, Tryz.runUnderlying246, Tryz.sizeOf246, Tryz.isAgg246, Tryz.zeroValue246, Tryz.underlying248, Tryz.runUnderlying248, Tryz.sizeOf248, Tryz.isAgg248, Tryz.zeroValue248, Tryz.underlying145, Tryz.runUnderlying145, Tryz.sizeOf145, Tryz.isAgg145, Tryz.zeroValue145, Tryz.underlying104, Tryz.runUnderlying104, Tryz.sizeOf104, Tryz.isAgg104, Tryz.zeroValue104, Tryz.underlying21, Tryz.runUnderlying21, Tryz.sizeOf21, Tryz.isAgg21, Tryz.zeroValue21, (by kernel_rfl)⟩
def fourS : List ByteArray := [⟨#[126]⟩, ⟨#[126, 48]⟩, ⟨#[47]⟩, ⟨#[126, 49]⟩]
structure ZS (B : Nat) (w : World) (b : Nat) (a : Option Addr) (c : Nat) (d s : Int) : Prop where
 blk : w.heap[b]? = some (.cells #[.int .u32 d, .int .i32 s, .int .u32 0, .nilIface, .slice a 4 c] 118 (0, 0))
 own : w.ownsRow B 9 1 (.slice a 4 c) 4 (zI fourS)
 far : ∀ g, (Value.slice a 4 c).ownBlock = some g → g ≠ b
section
variable {w : World}
theorem YX {a : Option Addr} {c : Nat} (h : Slc w 1 (.slice a 4 c) 4 (zI fourS)) :
  Calls Tryz.prog 54 #[.slice a 4 c] w fun e w' => (∃ b a' c', e = .returned (.pointer (some ⟨b, 0, none⟩)) ∧ ZS w.heap.size w' b a' c' 0 0 ∧ w.heap.size ≤ b) ∧ zc [] w w' := by
 have H := qI h
 clear h
 go_enter Tryz.func54, Tryz.ntmps54
 go_wp2_with (at_builtin; refine yj qG (World.ownsRow_nil w w.heap.size 9 1) H.o (kr fourS) (by decide) (by decide) (Nat.le_refl _) rfl _ _ rfl rfl rfl ?_; intro v' w1 hown hk2 _ hbk; obtain ⟨a1, c1, rfl, -, -⟩ := (Slc.of_row hown).form; rw [Nat.zero_add, List.nil_append] at hown; have Gg := qI hown; have Ge := qI hk2; clear hown hk2 hbk)
 go_ret
 have hk : zc [] w w1 := Ge.o.mono (by simp [Value.ownBlock])
 refine ⟨⟨_, rfl, ⟨a1, c1, ⟨zp rfl, zk Gg.o ((zc.refl [] _).alloc _) (by simp), fun g hg e => ?_⟩⟩, hk.size⟩, hk.alloc _⟩
 have := (Gg.o.lt g hg).2
 omega
end
theorem ZS.at {B : Nat} {w : World} {b : Nat} {a : Option Addr} {c : Nat} {d s : Int} (h : ZS B w b a c d s) : ∃ g, a = some ⟨g, 0, none⟩ ∧ B ≤ g ∧ g < w.heap.size ∧ ∀ w' X, zc X w w' → g ∉ X → w'.cell? ⟨g, 0, none⟩ = some (.string ⟨#[126]⟩) ∧ w'.cell? ⟨g, 1, none⟩ = some (.string ⟨#[126, 48]⟩) ∧ w'.cell? ⟨g, 2, none⟩ = some (.string ⟨#[47]⟩) ∧ w'.cell? ⟨g, 3, none⟩ = some (.string ⟨#[126, 49]⟩) := by
 obtain ⟨g, hg⟩ : ∃ g, a = some ⟨g, 0, none⟩ := by
  rcases h.own.2 with ⟨-, h0⟩ | ⟨g, cap, cur, e, -⟩
  ·omega
  ·injection e with e1 e2 e3
   exact ⟨g, e1⟩
 subst hg
 obtain ⟨h1, h2⟩ := h.own.lt g rfl
 refine ⟨g, rfl, h1, h2, fun w' X k hX => ?_⟩
 have hown := zk h.own k (fun i hi hx => by
  simp only [Value.ownBlock, Option.map_some, Option.some.injEq] at hi
  subst hi; exact hX hx)
 exact ⟨hown.cellAt 0 (by omega), hown.cellAt 1 (by omega), hown.cellAt 2 (by omega), hown.cellAt 3 (by omega)⟩
theorem zc_eq : Tryz.zeroCells192 = Array.replicate 257 (.slice none 0 0) := by kernel_rfl
structure bJ (B R : Nat) (L : List (UInt8 × List UInt8)) (w : World) (Z : Array Value) (at_ : Option Addr) (ct : Nat) : Prop where
 blk : w.heap[R]? = some (.cells Z 192 (0, 0))
 size : Z.size = 257
 top : Z[256]? = some (.slice at_ L.length ct)
 own : w.ownsRow B 9 1 (.slice at_ L.length ct) L.length (zI (L.map (fun p => zf [p.1])))
 far : ∀ g, (Value.slice at_ L.length ct).ownBlock = some g → g ≠ R
 base : B ≤ R
 ent : ∀ p, p ∈ L → ∃ a c, Z[p.1.toNat]? = some (.slice a p.2.length c) ∧ yA w (.slice a p.2.length c) p.2 ∧ ∀ g, jw (.slice a p.2.length c) = some g → B ≤ g ∧ g ≠ R ∧ (Value.slice at_ L.length ct).ownBlock ≠ some g
 nil : ∀ j, j < 256 → (∀ p, p ∈ L → p.1.toNat ≠ j) → Z[j]? = some (.slice none 0 0)
theorem rbld_start {w : World} : ∃ Z, Z = (Tryz.zeroCells192.toList.set 256 (.slice (some ⟨w.heap.size, 0, none⟩) 0 2)).toArray ∧
  (storeCells ⟨w.heap.size + 1, 0, none⟩ (Tryz.zeroCells192.toList.set 256 (.slice (some ⟨w.heap.size, 0, none⟩) 0 2))).run Tryz.prog ((w.alloc (.cells #[.string ⟨#[]⟩, .string ⟨#[]⟩] 9)).alloc (.cells Tryz.zeroCells192 192)) = .ok () (((w.alloc (.cells #[.string ⟨#[]⟩, .string ⟨#[]⟩] 9)).alloc (.cells Tryz.zeroCells192 192)).setRow (w.heap.size + 1) Z) ∧
  bJ w.heap.size (w.heap.size + 1) [] (((w.alloc (.cells #[.string ⟨#[]⟩, .string ⟨#[]⟩] 9)).alloc (.cells Tryz.zeroCells192 192)).setRow (w.heap.size + 1) Z) Z (some ⟨w.heap.size, 0, none⟩) 2 ∧
  zc [] w (((w.alloc (.cells #[.string ⟨#[]⟩, .string ⟨#[]⟩] 9)).alloc (.cells Tryz.zeroCells192 192)).setRow (w.heap.size + 1) Z) := by
 have hb : ((w.alloc (.cells #[.string ⟨#[]⟩, .string ⟨#[]⟩] 9)).alloc (.cells Tryz.zeroCells192 192)).heap[w.heap.size + 1]? = some (.cells Tryz.zeroCells192 192 (0, 0)) := zp (by simp)
 have hs : Tryz.zeroCells192.size = 257 := by rw [zc_eq]; exact Array.size_replicate
 have hT : ((w.alloc (.cells #[.string ⟨#[]⟩, .string ⟨#[]⟩] 9)).alloc (.cells Tryz.zeroCells192 192)).heap[w.heap.size]? = some (.cells #[.string ⟨#[]⟩, .string ⟨#[]⟩] 9 (0, 0)) := ((zc.refl [] _).alloc _).heap (zp rfl) (by simp)
 have hk : zc [] w ((w.alloc (.cells #[.string ⟨#[]⟩, .string ⟨#[]⟩] 9)).alloc (.cells Tryz.zeroCells192 192)) := ((zc.refl [] w).alloc _).alloc _
 have hz : ∀ j, j < 257 → Tryz.zeroCells192.toList[j]? = some (.slice none 0 0) := fun j hj => by rw [zc_eq, Array.toList_replicate, List.getElem?_replicate, if_pos hj]
 have hrun := run_storeCells_from (P := Tryz.prog) (w.heap.size + 1) 192 (Tryz.zeroCells192.toList.set 256 (.slice (some ⟨w.heap.size, 0, none⟩) 0 2)) 0 Tryz.zeroCells192 _ hb (by rw [List.length_set, Array.length_toList, hs]) (fun v hv => by
  rcases List.mem_or_eq_of_mem_set hv with h | h
  ·rw [zc_eq, Array.toList_replicate] at h
   have h2 := (List.mem_replicate.1 h).2
   subst h2; rfl
  ·subst h; rfl)
 rw [List.take_zero, List.nil_append] at hrun
 revert hrun hb hT hk
 generalize ((w.alloc (.cells #[.string ⟨#[]⟩, .string ⟨#[]⟩] 9)).alloc (.cells Tryz.zeroCells192 192)) = W2
 intro hb hT hk hrun
 refine ⟨_, rfl, hrun, ⟨setRow_heap W2 _ Tryz.zeroCells192 _ _ (0, 0) hb, by rw [List.size_toArray, List.length_set, Array.length_toList, hs], ?_, ⟨rfl, .inr ⟨w.heap.size, 2, #[.string ⟨#[]⟩, .string ⟨#[]⟩], rfl, Nat.le_refl _, ?_, by decide, by decide, rfl, rfl⟩⟩, fun g hg => ?_, by omega, (fun p hp => nomatch hp), fun j hj _ => ?_⟩, ?_⟩
 ·rw [List.getElem?_toArray, List.getElem?_set_self (by rw [Array.length_toList, hs]; decide)]; rfl
 ·rw [setRow_other W2 _ _ _ (by omega)]; exact hT
 ·simp [Value.ownBlock] at hg
  omega
 ·rw [List.getElem?_toArray, List.getElem?_set_ne (by omega)]
  exact hz j (by omega)
 ·exact ⟨hk.os, hk.tape, hk.output, by have := hk.size; simp [World.setRow]; exact this, fun k hk' hx => by rw [setRow_other W2 _ _ _ (by omega)]; exact hk.block k hk' hx⟩
theorem str_new (w : World) (s : ByteArray) (hs : s.size ≤ 281474976710656) : ∃ c w', (convert 9 28 (.string s)).run Tryz.prog w = .ok (.slice (some ⟨w.heap.size, 0, none⟩) s.data.toList.length c) w' ∧ yA w' (.slice (some ⟨w.heap.size, 0, none⟩) s.data.toList.length c) s.data.toList ∧ zc [] w w' := by
 have hl : s.data.toList.length = s.size := by simp
 have hr := run_bytes_of_string (P := Tryz.prog) w 9 28 5 s Tryz.underlying9 Tryz.underlying28 Tryz.underlying5
 rw [← hl] at hr
 refine ⟨_, _, hr, ?_, (zc.refl [] w).drew.alloc _⟩
 refine ⟨by simp, .inr (.inr ⟨w.heap.size, 0, _, rfl, by rw [hl]; exact grownCap_ge _ _ _ _, grownCap_le_maxLen _ _ _ _ (by simp only [maxLen]; omega), ⟨?_, ?_⟩⟩)⟩
 ·intro j u hu
  rw [List.getElem?_map, Option.map_eq_some_iff] at hu
  obtain ⟨b, hb, rfl⟩ := hu
  obtain ⟨hj, rfl⟩ := List.getElem?_eq_some_iff.1 hb
  have hj' : j < s.data.size := by simpa using hj
  rw [Nat.zero_add]
  refine zb (heap_alloc_new _ _) ?_
  rw [bytesRow_at s _ j hj']
  simp [bv]
 ·show w.heap.size < (w.drew.alloc _).heap.size
  simp
theorem byte_str (w : World) (o : UInt8) : (convert 28 9 (.slice (some ⟨w.heap.size, 0, none⟩) 1 1)).run Tryz.prog (w.alloc (.cells #[.int .u8 o.toNat] 5)) = .ok (.string (zf [o])) (w.alloc (.cells #[.int .u8 o.toNat] 5)) := by
 have h : yA (w.alloc (.cells #[.int .u8 o.toNat] 5)) (.slice (some ⟨w.heap.size, 0, none⟩) 1 1) [o] := ⟨rfl, .inr (.inr ⟨w.heap.size, 0, 1, rfl, Nat.le_refl _, by decide, ⟨fun j u hu => by rw [Nat.zero_add]; exact zb (heap_alloc_new w _) (by simpa [bv] using hu), by simp⟩⟩)⟩
 exact yA.toStr h
theorem bJ.add {B R : Nat} {L : List (UInt8 × List UInt8)} {w wa w1 w2 w3 w4 : World} {Z : Array Value} {at_ a' : Option Addr} {ct c' : Nat} {o : UInt8} {n : List UInt8} {c : Nat} {gb : Nat}
  (h : bJ B R L w Z at_ ct) (ka : zc [] w wa) (hown : w1.ownsRow B 9 1 (.slice a' (L.length + 1) c') (L.length + 1) (zI (L.map (fun p => zf [p.1])) ++ [.string (zf [o])]))
  (k1 : zc (Value.slice at_ L.length ct).ownBlock.toList wa w1) (hg : (Value.slice a' (L.length + 1) c').ownBlock = (Value.slice at_ L.length ct).ownBlock ∨ (Value.slice a' (L.length + 1) c').ownBlock = some wa.heap.size)
  (e2 : w2 = w1.setCell ⟨R, 256, none⟩ (.slice a' (L.length + 1) c')) (k3 : zc [] w2 w3) (hgb : gb = w2.heap.size) (hb : yA w3 (.slice (some ⟨gb, 0, none⟩) n.length c) n)
  (e4 : w4 = w3.setCell ⟨R, o.toNat, none⟩ (.slice (some ⟨gb, 0, none⟩) n.length c)) (ho : ∀ p, p ∈ L → p.1.toNat ≠ o.toNat) (hR : R < w.heap.size) :
  bJ B R (L ++ [(o, n)]) w4 ((Z.setIfInBounds 256 (.slice a' (L.length + 1) c')).setIfInBounds o.toNat (.slice (some ⟨gb, 0, none⟩) n.length c)) a' c' := by
 have ho2 : o.toNat < 256 := o.toNat_lt
 have hz := ka.size
 have hz1 := k1.size
 have hz2 : w1.heap.size = w2.heap.size := by rw [e2]; simp [World.setCell]
 have hz3 := k3.size
 have hfar : ∀ g, (Value.slice a' (L.length + 1) c').ownBlock = some g → g ≠ R := fun g hg' e => by
  rcases hg with q | q
  ·exact h.far g (q.symm.trans hg') e
  ·rw [q] at hg'; injection hg' with hg'; omega
 have hRx : R ∉ (Value.slice at_ L.length ct).ownBlock.toList := fun hx => h.far R (Option.mem_toList.1 hx) rfl
 have hb1 : w1.heap[R]? = some (.cells Z 192 (0, 0)) := k1.heap (ka.heap h.blk (by simp)) hRx
 have hb2 : w2.heap[R]? = some (.cells (Z.setIfInBounds 256 (.slice a' (L.length + 1) c')) 192 (0, 0)) := by rw [e2]; exact ze hb1 rfl
 have hb3 := k3.heap hb2 (by simp)
 have k12 : zc [R] w1 w2 := by rw [e2]; exact (zc.refl [R] w1).setCell (p := ⟨R, 256, none⟩) (.inl (by simp)) _
 have k34 : zc [R] w3 w4 := by rw [e4]; exact (zc.refl [R] w3).setCell (p := ⟨R, o.toNat, none⟩) (.inl (by simp)) _
 have hnR : ∀ g, (Value.slice a' (L.length + 1) c').ownBlock = some g → g ∉ [R] := fun g hg' hx => by simp at hx; exact hfar g hg' hx
 have hlen : (L ++ [(o, n)]).length = L.length + 1 := by simp
 have hneo : o.toNat ≠ 256 := by omega
 refine ⟨by rw [e4]; exact ze hb3 rfl, by simp [h.size], ?_, ?_, ?_, h.base, ?_, ?_⟩
 ·rw [hlen, Array.getElem?_setIfInBounds_ne hneo, Array.getElem?_setIfInBounds_self_of_lt (by rw [h.size]; decide)]
 ·rw [hlen, List.map_append]
  have h9 := zk (zk (zk hown k12 hnR) k3 (by simp)) k34 hnR
  simpa [zI] using h9
 ·rw [hlen]; exact hfar
 ·intro p hp
  rcases List.mem_append.1 hp with hp | hp
  ·obtain ⟨a, c0, q1, q2, q3⟩ := h.ent p hp
   have hp2 : p.1.toNat < 256 := p.1.toNat_lt
   refine ⟨a, c0, ?_, ?_, ?_⟩
   ·rw [Array.getElem?_setIfInBounds_ne (fun e => ho p hp e.symm), Array.getElem?_setIfInBounds_ne (by omega)]; exact q1
   ·exact ((((q2.kept ka (by simp)).kept k1 (fun g hg' hx => (q3 g hg').2.2 (Option.mem_toList.1 hx))).kept k12 (fun g hg' hx => by simp at hx; exact (q3 g hg').2.1 hx)).kept k3 (by simp)).kept k34 (fun g hg' hx => by simp at hx; exact (q3 g hg').2.1 hx)
   ·intro g hg'
    refine ⟨(q3 g hg').1, (q3 g hg').2.1, fun e => ?_⟩
    rw [hlen] at e
    rcases hg with q | q
    ·exact (q3 g hg').2.2 (q.symm.trans e)
    ·rw [q] at e
     injection e with e
     have := q2.lt hg'
     omega
  ·simp only [List.mem_cons, List.not_mem_nil, or_false] at hp
   subst hp
   have hgbR : gb ≠ R := by have := lt_of_block h.blk; omega
   refine ⟨_, c, by rw [Array.getElem?_setIfInBounds_self_of_lt (by rw [Array.size_setIfInBounds, h.size]; omega)], hb.kept k34 (fun g hg' hx => ?_), fun g hg' => ?_⟩
   ·simp at hx
    have e9 := kj hg'
    simp only [Value.ownBlock, Option.map_some, Option.some.injEq] at e9
    omega
   ·have e9 := kj hg'
    simp only [Value.ownBlock, Option.map_some, Option.some.injEq] at e9
    subst e9
    refine ⟨by have := h.base; omega, hgbR, fun e => ?_⟩
    rw [hlen] at e
    have := (hown.lt gb e).2
    omega
 ·intro j hj hn
  have hjo : o.toNat ≠ j := hn (o, n) (by simp)
  rw [Array.getElem?_setIfInBounds_ne hjo, Array.getElem?_setIfInBounds_ne (by omega)]
  exact h.nil j hj (fun p hp => hn p (by simp [hp]))
section
variable {w : World} {B b : Nat} {a : Option Addr} {c : Nat} {d s : Int}
set_option maxRecDepth 100000 in
theorem build_any (h : ZS B w b a c d s) :
  Calls Tryz.prog 127 #[.pointer (some ⟨b, 0, none⟩)] w fun e w' => (∃ r Z at_ ct, e = .returned (.iface 193 (.pointer (some ⟨r, 0, none⟩))) ∧ bJ w.heap.size r [(47, [126, 49]), (126, [126, 48])] w' Z at_ ct) ∧ zc [] w w' := by
 obtain ⟨g, rfl, hB, hgs, hcell⟩ := h.at
 have HC := qI hcell
 have hb := h.blk
 have q2 := zb (o := 4) (v := .slice (some ⟨g, 0, none⟩) 4 c) hb rfl
 obtain ⟨s0, s1, s2, s3⟩ := hcell w [] (zc.refl _ _) (by simp)
 clear h hcell hb
 go_enter Tryz.func127, Tryz.ntmps127
 go_wp2_with fail
 go_loopw [4, 5] (fun al i wr => ((i = .int .i64 0 ∧ al = .bool true) ∨ (i = .int .i64 2 ∧ al = .bool false) ∨ (i = .int .i64 4 ∧ al = .bool false)) ∧ w = wr) (fun _ i _ => 4 - (intOf i).toNat)
 case atStart => exact ⟨.inl ⟨rfl, rfl⟩, rfl⟩
 case round =>
  obtain ⟨⟨rfl, rfl⟩ | ⟨rfl, rfl⟩ | ⟨rfl, rfl⟩, rfl⟩ := hrel
  ·go_wp2_with fail
   case roundEnd => exact ⟨⟨.inr (.inl ⟨rfl, rfl⟩), trivial⟩, by simp [intOf]⟩
  ·go_wp2_with fail
   case roundEnd => exact ⟨⟨.inr (.inr ⟨rfl, rfl⟩), trivial⟩, by simp [intOf]⟩
  have hmk : ∀ w, (Instr.makeSlice 39 (.int .i64 0) (.int .i64 2)).run Tryz.prog w = .ok (.slice (some ⟨w.heap.size, 0, none⟩) 0 2) (w.alloc (.cells #[.string ⟨#[]⟩, .string ⟨#[]⟩] 9)) := fun _ => by kernel_rfl
  obtain ⟨Z, hZ, hst, hrb, hk0⟩ := rbld_start (w := w)
  have Ga := qI hrb
  have Gm := qI hk0
  subst hZ
  clear hrb hk0
  go_upto_region 27 with fail
  clear hst hmk
  revert Ga Gm
  generalize ((w.alloc (.cells #[.string ⟨#[]⟩, .string ⟨#[]⟩] 9)).alloc (.cells Tryz.zeroCells192 192)).setRow (w.heap.size + 1) (Tryz.zeroCells192.toList.set 256 (.slice (some ⟨w.heap.size, 0, none⟩) 0 2)).toArray = WB
  generalize hRR : w.heap.size + 1 = RR
  intro Ga Gm
  have Gy := qI hRR
  clear hRR s0 s1 s2 s3 q2
  have heq : ∀ (w : World) (a : Option Addr) (n c : Nat), (binOp .eql 28 (.slice a n c) (.slice none 0 0)).run Tryz.prog w = .ok (.bool a.isNone) w := fun w a n c => Lib.run_eql_slice_nil w _ _ a n c 0 0 Tryz.underlying28
  go_wp2_with fail
  go_loopw [12] (fun i wq => (i = .int .i64 2 ∧ ∃ Z at_ ct, bJ w.heap.size RR [] wq Z at_ ct ∧ zc [] w wq) ∨ (i = .int .i64 0 ∧ ∃ Z at_ ct, bJ w.heap.size RR [(47, [126, 49])] wq Z at_ ct ∧ zc [] w wq) ∨ (i = .int .i64 (-2) ∧ ∃ Z at_ ct, bJ w.heap.size RR [(47, [126, 49]), (126, [126, 48])] wq Z at_ ct ∧ zc [] w wq)) (fun i _ => (intOf i + 2).toNat)
  case atStart => exact .inl ⟨rfl, _, _, _, Ga.o, Gm.o⟩
  case round =>
   rcases hrel with ⟨rfl, Z1, at_, ct, hrb, hkw⟩ | ⟨rfl, Z1, at_, ct, hrb, hkw⟩ | ⟨rfl, Z1, at_, ct, hrb, hkw⟩
   rotate_left 2
   ·have Gs := qI hrb
    have Gh := qI hkw
    clear hrb hkw
    go_wp2_with fail
    go_ret
    exact ⟨⟨_, _, _, _, rfl, Gs.o⟩, Gh.o⟩
   ·have Ga := qI hrb
    have Gh := qI hkw
    obtain ⟨s0, s1, s2, s3⟩ := HC.o wr [] hkw (by simp)
    have x0 := zb (o := 47) (v := .slice none 0 0) Ga.o.blk (Ga.o.nil 47 (by decide) (by decide))
    have x1 := zb (o := 256) Ga.o.blk Ga.o.top
    obtain ⟨WA, Gi⟩ : ∃ WA, Hid (WA = (wr.alloc (.cells #[.int .u8 47] 5)).alloc (.cells #[.string (zf [47])] 9)) := ⟨_, qI rfl⟩
    have Gb : Hid (zc [] wr WA) := qI (by rw [Gi.o]; exact ((zc.refl [] wr).alloc _).alloc _)
    have Gn : Hid (Slc WA 1 (.slice (some ⟨wr.heap.size + 1, 0, none⟩) 1 1) 1 [.string (zf [47])]) := qI (by
     rw [Gi.o]
     exact y7 _ [.string (zf [47])] 1 1 9 (wr.heap.size + 1) (by simp) rfl (by decide))
    have Gp := qI (zk Ga.o.own Gb.o (by simp))
    have hcv : (convert 28 9 (.slice (some ⟨wr.heap.size, 0, none⟩) 1 1)).run Tryz.prog (wr.alloc (.cells #[.int .u8 47] 5)) = .ok (.string (zf [47])) (wr.alloc (.cells #[.int .u8 47] 5)) := byte_str wr 47
    have hRl : Hid (RR < wr.heap.size) := qI (lt_of_block Ga.o.blk)
    have e0 : ((⟨#[47]⟩ : ByteArray)[0]'(by decide)).toNat = 47 := rfl
    clear hrb hkw
    go_upto_region 34 with (at_builtin; rw [← Gi.o]; refine yj qG Gp.o Gn.o (by intro u hu; simp at hu; subst hu; rfl) (by simp only [maxLen]; decide) (by decide) (by have h1 := Gb.o.size; have h2 := Gh.o.size; omega) rfl _ _ rfl rfl rfl ?_; intro v' w1 hown hk1 _ hg; obtain ⟨a1, c1, rfl, -, -⟩ := (Slc.of_row hown).form; have Gc := qI hown; have Gd := qI hk1; have HG := qI hg; have hb1 := hk1.heap (Gb.o.heap Ga.o.blk (by simp)) (fun hx => Ga.o.far RR (Option.mem_toList.1 hx) rfl); have y0 := zb (o := 256) hb1 Ga.o.top; have y1 := zg (o := 256) hb1; clear hown hk1 hg hb1)
    obtain ⟨W2, Gf⟩ : ∃ W2, Hid (W2 = w1.setCell ⟨RR, 256, none⟩ (.slice a1 (0 + 1) c1)) := ⟨_, qI rfl⟩
    obtain ⟨c3, w3, hrun, hby, hk3⟩ := str_new W2 ⟨#[126, 49]⟩ (by decide)
    have Gq := qI hby
    have Gl := qI hk3
    have hn : (⟨#[126, 49]⟩ : ByteArray).data.toList.length = 2 := rfl
    rw [hn] at hrun
    rw [← Gf.o]
    have hb2 : w3.heap[RR]? = some (.cells (Z1.setIfInBounds 256 (.slice a1 (0 + 1) c1)) 192 (0, 0)) := hk3.heap (by rw [Gf.o]; exact ze (Gd.o.heap (Gb.o.heap Ga.o.blk (by simp)) (fun hx => Ga.o.far RR (Option.mem_toList.1 hx) rfl)) rfl) (by simp)
    have z0 := zb (o := 47) (v := .slice none 0 0) hb2 (by rw [Array.getElem?_setIfInBounds_ne (by decide)]; exact Ga.o.nil 47 (by decide) (by decide))
    have z1 := zg (o := 47) hb2
    clear hby hk3 hn hb2 s0 s1 s2 s3 x0 x1 hcv e0
    obtain ⟨W4, Gj⟩ : ∃ W4, Hid (W4 = w3.setCell ⟨RR, 47, none⟩ (.slice (some ⟨W2.heap.size, 0, none⟩) 2 c3)) := ⟨_, qI rfl⟩
    have Gk : Hid (bJ w.heap.size RR ([] ++ [(47, [126, 49])]) W4 _ a1 c1) := qI (bJ.add (n := [126, 49]) (o := 47) Ga.o Gb.o Gc.o Gd.o HG.o Gf.o Gl.o rfl Gq.o Gj.o (by decide) hRl.o)
    have Gr : Hid (zc [] w W4) := qI (by
     rw [Gj.o]
     refine zc.setCell (zc.then ?_ Gl.o) (.inr Ga.o.base) _
     rw [Gf.o]
     exact zc.setCell ((Gh.o.then Gb.o).trans Gd.o (fun i hi => .inr (Ga.o.own.lt i (Option.mem_toList.1 hi)).1)) (.inr Ga.o.base) _)
    go_wp2_with fail
    case roundEnd =>
     rw [← Gj.o]
     exact ⟨.inr (.inl ⟨rfl, _, _, _, Gk.o, Gr.o⟩), by simp [intOf]⟩
   ·have Ga := qI hrb
    have Gh := qI hkw
    obtain ⟨s0, s1, s2, s3⟩ := HC.o wr [] hkw (by simp)
    have x0 := zb (o := 126) (v := .slice none 0 0) Ga.o.blk (Ga.o.nil 126 (by decide) (by decide))
    have x1 := zb (o := 256) Ga.o.blk Ga.o.top
    obtain ⟨WA, Gi⟩ : ∃ WA, Hid (WA = (wr.alloc (.cells #[.int .u8 126] 5)).alloc (.cells #[.string (zf [126])] 9)) := ⟨_, qI rfl⟩
    have Gb : Hid (zc [] wr WA) := qI (by rw [Gi.o]; exact ((zc.refl [] wr).alloc _).alloc _)
    have Gn : Hid (Slc WA 1 (.slice (some ⟨wr.heap.size + 1, 0, none⟩) 1 1) 1 [.string (zf [126])]) := qI (by
     rw [Gi.o]
     exact y7 _ [.string (zf [126])] 1 1 9 (wr.heap.size + 1) (by simp) rfl (by decide))
    have Gp := qI (zk Ga.o.own Gb.o (by simp))
    have hcv : (convert 28 9 (.slice (some ⟨wr.heap.size, 0, none⟩) 1 1)).run Tryz.prog (wr.alloc (.cells #[.int .u8 126] 5)) = .ok (.string (zf [126])) (wr.alloc (.cells #[.int .u8 126] 5)) := byte_str wr 126
    have hRl : Hid (RR < wr.heap.size) := qI (lt_of_block Ga.o.blk)
    have e0 : ((⟨#[126]⟩ : ByteArray)[0]'(by decide)).toNat = 126 := rfl
    clear hrb hkw
    go_upto_region 34 with (at_builtin; rw [← Gi.o]; refine yj qG Gp.o Gn.o (by intro u hu; simp at hu; subst hu; rfl) (by simp only [maxLen]; decide) (by decide) (by have h1 := Gb.o.size; have h2 := Gh.o.size; omega) rfl _ _ rfl rfl rfl ?_; intro v' w1 hown hk1 _ hg; obtain ⟨a1, c1, rfl, -, -⟩ := (Slc.of_row hown).form; have Gc := qI hown; have Gd := qI hk1; have HG := qI hg; have hb1 := hk1.heap (Gb.o.heap Ga.o.blk (by simp)) (fun hx => Ga.o.far RR (Option.mem_toList.1 hx) rfl); have y0 := zb (o := 256) hb1 Ga.o.top; have y1 := zg (o := 256) hb1; clear hown hk1 hg hb1)
    obtain ⟨W2, Gf⟩ : ∃ W2, Hid (W2 = w1.setCell ⟨RR, 256, none⟩ (.slice a1 (1 + 1) c1)) := ⟨_, qI rfl⟩
    obtain ⟨c3, w3, hrun, hby, hk3⟩ := str_new W2 ⟨#[126, 48]⟩ (by decide)
    have Gq := qI hby
    have Gl := qI hk3
    have hn : (⟨#[126, 48]⟩ : ByteArray).data.toList.length = 2 := rfl
    rw [hn] at hrun
    rw [← Gf.o]
    have hb2 : w3.heap[RR]? = some (.cells (Z1.setIfInBounds 256 (.slice a1 (1 + 1) c1)) 192 (0, 0)) := hk3.heap (by rw [Gf.o]; exact ze (Gd.o.heap (Gb.o.heap Ga.o.blk (by simp)) (fun hx => Ga.o.far RR (Option.mem_toList.1 hx) rfl)) rfl) (by simp)
    have z0 := zb (o := 126) (v := .slice none 0 0) hb2 (by rw [Array.getElem?_setIfInBounds_ne (by decide)]; exact Ga.o.nil 126 (by decide) (by decide))
    have z1 := zg (o := 126) hb2
    clear hby hk3 hn hb2 s0 s1 s2 s3 x0 x1 hcv e0
    obtain ⟨W4, Gj⟩ : ∃ W4, Hid (W4 = w3.setCell ⟨RR, 126, none⟩ (.slice (some ⟨W2.heap.size, 0, none⟩) 2 c3)) := ⟨_, qI rfl⟩
    have Gk : Hid (bJ w.heap.size RR ([(47, [126, 49])] ++ [(126, [126, 48])]) W4 _ a1 c1) := qI (bJ.add (n := [126, 48]) (o := 126) Ga.o Gb.o Gc.o Gd.o HG.o Gf.o Gl.o rfl Gq.o Gj.o (by decide) hRl.o)
    have Gr : Hid (zc [] w W4) := qI (by
     rw [Gj.o]
     refine zc.setCell (zc.then ?_ Gl.o) (.inr Ga.o.base) _
     rw [Gf.o]
     exact zc.setCell ((Gh.o.then Gb.o).trans Gd.o (fun i hi => .inr (Ga.o.own.lt i (Option.mem_toList.1 hi)).1)) (.inr Ga.o.base) _)
    go_wp2_with fail
    case roundEnd =>
     rw [← Gj.o]
     exact ⟨.inr (.inr ⟨rfl, _, _, _, Gk.o, Gr.o⟩), by simp [intOf]⟩
end
structure xz (B : Nat) (w : World) (b : Nat) (d s : Int) (r : Nat) (Z : Array Value) (at_ : Option Addr) (ct : Nat) : Prop where
 blk : w.heap[b]? = some (.cells #[.int .u32 d, .int .i32 s, .int .u32 0, .iface 193 (.pointer (some ⟨r, 0, none⟩)), .slice none 0 0] 118 (0, 0))
 bld : bJ B r [(47, [126, 49]), (126, [126, 48])] w Z at_ ct
theorem bJ.kept {B R : Nat} {L : List (UInt8 × List UInt8)} {w w' : World} {Z : Array Value} {at_ : Option Addr} {ct : Nat} {X : List Nat} (h : bJ B R L w Z at_ ct) (k : zc X w w') (hX : ∀ g, g ∈ X → g < B) : bJ B R L w' Z at_ ct := by
 have hR : R ∉ X := fun hx => by have h1 := hX R hx; have h2 := h.base; omega
 refine ⟨k.heap h.blk hR, h.size, h.top, zk h.own k (fun g hg hx => ?_), h.far, h.base, fun p hp => ?_, h.nil⟩
 ·have h1 := hX g hx
  have h2 := (h.own.lt g hg).1
  omega
 ·obtain ⟨a, c, q1, q2, q3⟩ := h.ent p hp
  exact ⟨a, c, q1, q2.kept k (fun g hg hx => by have h1 := hX g hx; have h2 := (q3 g hg).1; omega), q3⟩
section
variable {w : World} {B b : Nat} {a : Option Addr} {c : Nat} {d s : Int}
set_option maxRecDepth 100000 in
theorem KM (h : ZS B w b a c d s) :
  Calls Tryz.prog 86 #[.pointer (some ⟨b, 0, none⟩)] w fun e w' => e = .returned (.tuple #[]) ∧ (∃ r Z at_ ct, xz w.heap.size w' b d s r Z at_ ct) ∧ zc [b] w w' := by
 have CB := qI (build_any h)
 have HB := qI h.blk
 clear h
 go_enter Tryz.func86, Tryz.ntmps86
 go_wp2_with fail
 refine CB.o.mono ?_
 rintro e w1 ⟨⟨r, Z, at_, ct, rfl, hbl⟩, hk1⟩
 have Gd := qI hk1
 have Gt := qI hbl
 have hb1 := hk1.heap HB.o (by simp)
 have Gu := qI hb1
 have y3 := zb (o := 3) (v := .nilIface) hb1 rfl
 have z3 := zg (o := 3) hb1
 clear hk1 hbl hb1
 go_upto_region 1 with fail
 have hb2 := ze (i := 3) (v := .iface 193 (.pointer (some ⟨r, 0, none⟩))) Gu.o rfl
 have Ge := qI ((zc.refl [b] w1).setCell (p := ⟨b, 3, none⟩) (.inl (by simp)) (.iface 193 (.pointer (some ⟨r, 0, none⟩))))
 revert hb2 Ge
 generalize w1.setCell ⟨b, 3, none⟩ (.iface 193 (.pointer (some ⟨r, 0, none⟩))) = w2
 intro hb2 Ge
 have Gv := qI hb2
 have y4 := zb (o := 4) (v := .slice a 4 c) hb2 rfl
 have z4 := zg (o := 4) hb2
 clear hb2 y3 z3
 go_wp2_with fail
 go_end0
 have hbw : b < w.heap.size := lt_of_block HB.o
 have hk : zc [b] w1 (w2.setCell ⟨b, 4, none⟩ (.slice none 0 0)) := Ge.o.setCell (.inl (by simp)) _
 refine ⟨rfl, ⟨r, Z, at_, ct, ze Gv.o rfl, Gt.o.kept hk (fun g hg => by simp at hg; omega)⟩, (Gd.o.mono (by simp)).trans' hk⟩
theorem Qo (a : Addr) (x : Value) (u : FrameMode) (w : World) (hc : w.cell? a = some x) (hz : w.frozen? a = false) :
  CallsD Tryz.prog 168 #[.pointer (some a), .bool true] u w fun e u' w' => u' = u ∧ (e = .returned (.tuple #[]) ∧ w' = w.drew.setCell a (.int .u32 1)) := by
 have hc' : w.drew.cell? a = some x := by go_simp
 have hz' : w.drew.frozen? a = false := by go_simp
 have hst := run_call_store (P := Tryz.prog) Tryz.func202 (by kernel_rfl) (by kernel_rfl) (by kernel_rfl) (by kernel_rfl) (k := .u32) (y := 1) hc' hz'
 go_enter_d Tryz.func168, Tryz.ntmps168
 go_wp2
 go_region_calls
 all_goals (go_end0; exact ⟨rfl, rfl⟩)
set_option maxRecDepth 100000 in
theorem doSlow_any (h : ZS B w b a c 0 0) :
  Calls Tryz.prog 126 #[.pointer (some ⟨b, 0, none⟩), .func (.func 86) #[.pointer (some ⟨b, 0, none⟩)] #[]] w fun e w' => e = .returned (.tuple #[]) ∧ (∃ r Z at_ ct, xz w.heap.size w' b 1 0 r Z at_ ct) ∧ zc [b] w w' := by
 have hb := h.blk
 have Gw : Hid (b < w.heap.size) := qI (lt_of_block hb)
 have x0 := zb (o := 0) (v := .int .u32 0) hb rfl
 have x1 := zb (o := 1) (v := .int .i32 0) hb rfl
 have f1 := zg (o := 1) hb
 have hb1 := ze (i := 1) (v := .int .i32 1) hb rfl
 have hk1 : zc [b] w (w.setCell ⟨b, 1, none⟩ (.int .i32 1)) := (zc.refl [b] w).setCell (p := ⟨b, 1, none⟩) (.inl (by simp)) _
 have hl := run_call_load (P := Tryz.prog) Tryz.func165 (by kernel_rfl) (by kernel_rfl) (by kernel_rfl) .u32 (by kernel_rfl) (w := w.setCell ⟨b, 1, none⟩ (.int .i32 1)) (a := ⟨b, 0, none⟩) (x := 0) (zb (o := 0) (v := .int .u32 0) hb1 rfl)
 have hnot : ∀ (x : Bool) (w : World), (Op.unary .not (.bool x)).run Tryz.prog w = .ok (.bool (!x)) w := fun _ _ => rfl
 have Gx : Hid ((w.setCell ⟨b, 1, none⟩ (.int .i32 1)).heap.size = w.heap.size) := qI (by simp [World.setCell])
 have CB := qI (KM (w := w.setCell ⟨b, 1, none⟩ (.int .i32 1)) (B := B) (a := a) (c := c) (d := 0) (s := 1) ⟨hb1, zk h.own hk1 (fun g hg hx => by simp at hx; exact h.far g hg hx), h.far⟩)
 have Gd := qI hk1
 clear h hb hb1 hk1
 go_enter_defers Tryz.func126, Tryz.ntmps126
 go_wp2_with (go_at_call 166; refine (MuLone.lock_free muLib ⟨b, 1, none⟩ _ (by go_simp) (by go_simp)).mono ?_; rintro e w' ⟨rfl, rfl⟩)
 go_wp2_with (first | (go_at_call 86; refine CB.o.mono ?_; rintro e w2 ⟨rfl, ⟨r, Z, at_, ct, hd⟩, hk2⟩; have HD := qI hd; have Ge := qI hk2; clear hd hk2) | (go_at_call 125; go_in))
 have hb2 := HD.o.blk
 have hbd : w2.drew.heap[b]? = some (.cells #[.int .u32 0, .int .i32 1, .int .u32 0, .iface 193 (.pointer (some ⟨r, 0, none⟩)), .slice none 0 0] 118 (0, 0)) := hb2
 have hb3 := ze (i := 0) (v := .int .u32 1) hbd rfl
 have hb4 := ze (i := 1) (v := .int .i32 0) hb3 rfl
 have hk4 : zc [b] w2 ((w2.drew.setCell ⟨b, 0, none⟩ (.int .u32 1)).setCell ⟨b, 1, none⟩ (.int .i32 0)) := ((zc.refl [b] w2).drew.setCell (p := ⟨b, 0, none⟩) (.inl (by simp)) _).setCell (p := ⟨b, 1, none⟩) (.inl (by simp)) _
 have hfin : xz w.heap.size ((w2.drew.setCell ⟨b, 0, none⟩ (.int .u32 1)).setCell ⟨b, 1, none⟩ (.int .i32 0)) b 1 0 r Z at_ ct := ⟨hb4, by
  have h9 := HD.o.bld
  rw [Gx.o] at h9
  exact h9.kept hk4 (fun g hg => by simp at hg; have := Gw.o; omega)⟩
 have hkf := (Gd.o.trans' Ge.o).trans' hk4
 refine leaves_cons (f := 168) (args := #[.pointer (some ⟨b, 0, none⟩), .bool true]) (by simp) (by simp [go_sem]) ?_
 refine (Qo ⟨b, 0, none⟩ (.int .u32 0) .returning _ (zb (o := 0) (v := .int .u32 0) hb2 rfl) (zg (o := 0) hb2)).mono ?_
 rintro e u' w'' ⟨rfl, rfl, rfl⟩
 refine leaves_cons (f := 167) (args := #[.pointer (some ⟨b, 1, none⟩)]) (by simp [settle]) (by simp [go_sem]) ?_
 refine (MuLone.unlock_deferred muLib ⟨b, 1, none⟩ _ _ (zb (o := 1) (v := .int .i32 1) hb3 rfl) (zg (o := 1) hb3)).mono ?_
 rintro e u' w'' ⟨rfl, rfl, rfl⟩
 simp [Leaves, settle, results, Tryz.results126]
 exact ⟨⟨_, _, _, _, hfin⟩, hkf⟩
set_option maxRecDepth 100000 in
theorem doFirst_any (h : ZS B w b a c 0 0) :
  Calls Tryz.prog 85 #[.pointer (some ⟨b, 0, none⟩), .func (.func 86) #[.pointer (some ⟨b, 0, none⟩)] #[]] w fun e w' => e = .returned (.tuple #[]) ∧ (∃ r Z at_ ct, xz w.heap.size w' b 1 0 r Z at_ ct) ∧ zc [b] w w' := by
 have hl := run_call_load (P := Tryz.prog) Tryz.func165 (by kernel_rfl) (by kernel_rfl) (by kernel_rfl) .u32 (by kernel_rfl) (w := w) (a := ⟨b, 0, none⟩) (x := 0) (zb (o := 0) (v := .int .u32 0) h.blk rfl)
 have hnot : ∀ (x : Bool) (w : World), (Op.unary .not (.bool x)).run Tryz.prog w = .ok (.bool (!x)) w := fun _ _ => rfl
 have CS := qI (doSlow_any h)
 clear h
 go_enter Tryz.func85, Tryz.ntmps85
 go_wp2_with (first | (go_at_call 126; refine CS.o.mono ?_; rintro e w2 ⟨rfl, hd, hk2⟩; have HD := qI hd; have Ge := qI hk2; clear hd hk2) | (go_at_call 125; go_in))
 go_end0
 exact ⟨rfl, HD.o, Ge.o⟩
set_option maxRecDepth 100000 in
theorem doNext_any {r : Nat} {Z : Array Value} {at_ : Option Addr} {ct : Nat} (h : xz B w b 1 0 r Z at_ ct) (fv : Value) :
  Calls Tryz.prog 85 #[.pointer (some ⟨b, 0, none⟩), fv] w fun e w' => e = .returned (.tuple #[]) ∧ w' = w := by
 have hl := run_call_load (P := Tryz.prog) Tryz.func165 (by kernel_rfl) (by kernel_rfl) (by kernel_rfl) .u32 (by kernel_rfl) (w := w) (a := ⟨b, 0, none⟩) (x := 1) (zb (o := 0) (v := .int .u32 1) h.blk rfl)
 have hnot : ∀ (x : Bool) (w : World), (Op.unary .not (.bool x)).run Tryz.prog w = .ok (.bool (!x)) w := fun _ _ => rfl
 clear h
 go_enter Tryz.func85, Tryz.ntmps85
 go_wp2
 go_end0
 exact ⟨rfl, rfl⟩
end
end Go.Proofs.YtpbphdkjjoipnaaGreatDoor
