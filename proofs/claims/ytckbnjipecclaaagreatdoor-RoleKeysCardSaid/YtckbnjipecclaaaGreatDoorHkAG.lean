/- Parts of one proof, merged: XGI. -/
import Derived.Test.YtckbnjipecclaaaGreatDoorHkAB
import Derived.Test.YtckbnjipecclaaaGreatDoorHkAF
import Derived.Test.YtckbnjipecclaaaGreatDoorHkAD
set_option linter.all false
set_option maxHeartbeats 12800000
set_option maxRecDepth 10000
set_option linter.unusedVariables false
set_option linter.unusedSimpArgs false
set_option linter.unnecessarySimpa false
namespace Go.Proofs.YtckbnjipecclaaaGreatDoor
open Go.RowKit
theorem fieldKind (W : World) (k m : Int) (s : ByteArray) (a b : Value) : (Instr.field 28 (.agg #[.int .i64 k, .int .i64 m, .string s, a, b]) 0).run Tryz.prog W = .ok (.int .i64 k) W := by kernel_rfl
theorem incomingR {n : Nat} {v : V n} {S : Nat → Prop} {w : World} {cs : List Value} (h : RepT n BB S w cs v) :
  (∀ w1, Kept [] w w1 → Calls Tryz.prog 6 #[.agg cs.toArray] w1 fun e w' => e = .returned (.bool true) ∧ Kept [] w1 w') ∨
  ((∀ w1, Kept [] w w1 → Calls Tryz.prog 6 #[.agg cs.toArray] w1 fun e w' => e = .returned (.bool false) ∧ Kept [] w1 w') ∧
   ∃ v' : V 21, Rep 21 S w cs v' ∧ Small 21 v') := by
 have hl : ∀ {d : Nat} {u : V d} {b : Bool}, RepT d BB S w cs u → decide (6000 < largeV d 0 u) = b → ∀ w1, Kept [] w w1 → Calls Tryz.prog 6 #[.agg cs.toArray] w1 fun e w' => e = .returned (.bool b) ∧ Kept [] w1 w' := fun hu hb w1 k => by
  have h9 := refLarge_any (hu.1.kept0 k) hu.2
  rw [hb] at h9
  exact h9
 by_cases hd : depthV n v ≤ 21
 ·obtain ⟨u, hu⟩ := RepT.fit n 21 h hd
  by_cases h6 : largeV 21 0 u ≤ 6000
  ·exact .inr ⟨hl hu (decide_eq_false (by omega)), u, hu.1, small_of h6⟩
  ·exact .inl (hl hu (decide_eq_true (by omega)))
 ·refine .inl (hl h (decide_eq_true ?_))
  rcases Nat.lt_or_ge 6000 (largeV n 0 v) with h1 | h1
  ·exact h1
  ·exfalso
   rcases (large_small n 0 v h1).2.2 with rfl | h2
   ·exact nomatch v
   ·omega
def codeOf (ok : Bool) : Int := if ok then 0 else 130
theorem codeOf_test (ok : Bool) : (codeOf ok == 0) = ok ∧ (ok = false → codeOf ok = 130) := by cases ok <;> exact ⟨rfl, fun h => by first | rfl | cases h⟩
def kindFact (k : Int) : Fact (Kept []) := ⟨fun u _ _ => ∃ m s p i c q j d, u = .agg #[.int .i64 k, .int .i64 m, .string s, .slice p i c, .slice q j d], fun _ _ _ _ h _ => h⟩
def okFact (ok : Bool) : Fact (Kept []) := ⟨fun u _ _ => ok = false → u = .bool false, fun _ _ _ _ h _ => h⟩
def errFact (ok : Bool) (z : Int) : Fact (Kept []) := ⟨fun u _ _ => ok = false → u = .int .i64 z, fun _ _ _ _ h _ => h⟩
end Go.Proofs.YtckbnjipecclaaaGreatDoor
