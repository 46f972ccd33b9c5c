/- Maps with an exact count: look-up, store, delete, len. -/
import Derived.Test.YtfkdoinlbdcaaaaDoorBase
import Derived.Maps.OwnSet
import Derived.StringKeys
namespace Go.Proofs.YtfkdoinlbdcaaaaDoor
open Go.RowKit
open Go.Maps (Keyed)

/-- Block b is a map of just c entries; at the key kl it holds M kl. -/
def MapIs (P : Program) (w : World) (k b c : Nat) (M : Lit → Option Value) : Prop :=
  ∃ D, w.ownsMap P k heldE b c D ∧ Maps.size D = c ∧ ∀ kl, M kl = look D kl ∧ (Maps.has D kl = (M kl).isSome)
section
variable {P : Program} {w : World} {k b c : Nat} {M : Lit → Option Value}
theorem MapIs.at (h : MapIs P w k b c M) : MapAt P w k b c M := by
  obtain ⟨D, h1, -, h3⟩ := h
  exact ⟨D, h1, h3⟩
theorem MapIs.lt (h : MapIs P w k b c M) : b < w.heap.size := h.at.lt
theorem MapIs.kind (h : MapIs P w k b c M) : kind w b = 1 := h.at.kind
theorem MapIs.kept {X : List Nat} {w' : World} (h : MapIs P w k b c M) (hk : Kept X w w') (hb : b ∉ X) : MapIs P w' k b c M := by
  obtain ⟨D, ⟨es, clock, h1, h2⟩, hs, h3⟩ := h
  exact ⟨D, ⟨es, clock, hk.heap h1 hb, h2⟩, hs, h3⟩
theorem MapIs.kept0 {w' : World} (h : MapIs P w k b c M) (hk : Kept [] w w') : MapIs P w' k b c M := h.kept hk (List.not_mem_nil)
theorem mapIs_made (P : Program) (w : World) (k : Nat) : MapIs P (w.alloc (.map #[] 0)) k w.heap.size 0 (fun _ => none) :=
  ⟨.map [], World.ownsMap_made _ _ _ _, rfl, fun kl => ⟨by simp [look, DataW.atKey], by simp [Maps.has]⟩⟩
theorem MapIs.len {t e : TypeId} (h : MapIs P w k b c M) (ht : P.underlying t = some (.map k e)) (ty : TypeId) : (Builtin.len_ #[t] ty #[.map (some b)]).run P w = .ok (.int .i64 c) w := by
  obtain ⟨D, h1, hs, -⟩ := h
  have := h1.len ht ty
  rw [hs] at this
  exact this
theorem turned_kept {w' : World} (h : w.mapTurned w' b) : Kept [b] w w' ∧ w'.heap.size = w.heap.size := by
  refine ⟨(Kept.refl _ _).grown h.grown (fun k e => by simp at e; simp [e]), ?_⟩
  obtain ⟨_, _, _, _, _, rfl⟩ := h
  simp [Go.ChangeMaps.setBlock]
/-- m[k] = v. -/
theorem MapIs.update {t e : TypeId} (h : MapIs P w k b c M) (K : Keyed P k) (ht : P.underlying t = some (.map k e)) (hn : c < maxLen) {key : Value} {kl : Lit} (hkey : keyOf P k key = some kl) (val : Value) :
    ∃ w', (Instr.mapUpdate t (.map (some b)) key val).run P w = .ok () w' ∧ MapIs P w' k b (if (M kl).isSome then c else c + 1) (fun z => if z.sameKey kl then some val else M z) ∧ Kept [b] w w' ∧ w'.heap.size = w.heap.size := by
  obtain ⟨D, hown, hs, h3⟩ := h
  obtain ⟨w', hrun, r1, r2⟩ := hown.store K ht hn hkey (val := val) (R := heldE) (d := .held val) (ps := []) rfl
  have hsz := Maps.size_put (k := kl) (hown.tidy K) (.held val)
  rw [(h3 kl).2, hs] at hsz
  obtain ⟨k1, k2⟩ := turned_kept r2
  refine ⟨w', hrun, ⟨_, ?_, hsz, ?_⟩, k1, k2⟩
  · obtain ⟨es, clock, hb, F, hle, e1⟩ := r1
    refine ⟨es, clock, hb, F, ?_, e1⟩
    rw [e1] at hsz
    rw [← hsz]
    simp [Maps.size, Go.length_sorted]
  · intro z
    show (if z.sameKey kl then some val else M z) = look (D.put kl (.held val)) z ∧ Maps.has (D.put kl (.held val)) z = (if z.sameKey kl then some val else M z).isSome
    by_cases hz : z.sameKey kl = true
    · have hz' := WideAt.sameKey_eq hz
      subst hz'
      rw [if_pos hz]
      refine ⟨?_, Maps.has_put_same hown.isMap (isKey_of K hkey) _⟩
      rw [look, Maps.atKey_put_same hown.isMap (isKey_of K hkey)]
    · have hne : z ≠ kl := by
        intro e
        subst e
        exact hz (WideAt.sameKey_self (isKey_of K hkey))
      rw [if_neg hz]
      exact ⟨by rw [look, Maps.atKey_put_other hne]; exact (h3 z).1, by rw [Maps.has_put_other hne]; exact (h3 z).2⟩
/-- delete(m, k). -/
theorem MapIs.drop {t e : TypeId} (h : MapIs P w k b c M) (K : Keyed P k) (ht : P.underlying t = some (.map k e)) {key : Value} {kl : Lit} (hkey : keyOf P k key = some kl) (hin : (M kl).isSome = true) (ty : TypeId) :
    ∃ w', (Builtin.delete_ #[t, k] ty #[.map (some b), key]).run P w = .ok (.tuple #[]) w' ∧ MapIs P w' k b (c - 1) (fun z => if z.sameKey kl then none else M z) ∧ Kept [b] w w' ∧ w'.heap.size = w.heap.size := by
  obtain ⟨D, hown, hs, h3⟩ := h
  obtain ⟨w', hrun, r1, r2⟩ := hown.drop K ht hkey ty
  have hsz := Maps.size_del (k := kl) (hown.tidy K)
  rw [(h3 kl).2, hs, if_pos hin] at hsz
  obtain ⟨k1, k2⟩ := turned_kept r2
  refine ⟨w', hrun, ⟨_, ?_, show Maps.size (D.del kl) = c - 1 by omega, ?_⟩, k1, k2⟩
  · obtain ⟨es, clock, hb, F, hle, e1⟩ := r1
    refine ⟨es, clock, hb, F, ?_, e1⟩
    have : Maps.size (D.del kl) = es.size := by rw [e1]; simp [Maps.size, Go.length_sorted]
    omega
  · intro z
    show (if z.sameKey kl then none else M z) = look (D.del kl) z ∧ Maps.has (D.del kl) z = (if z.sameKey kl then none else M z).isSome
    by_cases hz : z.sameKey kl = true
    · have hz' := WideAt.sameKey_eq hz
      subst hz'
      rw [if_pos hz]
      exact ⟨by rw [look, Maps.atKey_del_same], by rw [Maps.has_del_same]; rfl⟩
    · have hne : z ≠ kl := by
        intro e
        subst e
        exact hz (WideAt.sameKey_self (isKey_of K hkey))
      rw [if_neg hz]
      exact ⟨by rw [look, Maps.atKey_del_other hne]; exact (h3 z).1, by rw [Maps.has_del_other hne]; exact (h3 z).2⟩
end
end Go.Proofs.YtfkdoinlbdcaaaaDoor
