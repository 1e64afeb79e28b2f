import Derived.Calls
import Derived.RowKit
import Derived.Tactics
import Derived.WalkKit
namespace Go.Proofs.Ytabkinlpbefjgaa.L
/-- What writes out a frame behind a slot's value. -/
theorem ps_ : (∀ (a : Act) (d : Tmp) (v : Value), a.put (some d) v = { a with tmps := a.tmps.setIfInBounds d v }) ∧ (∀ (a : Act) (v : Value), a.put none v = a) ∧ (∀ (l : List Value) (i : Nat) (v : Value), l.toArray.setIfInBounds i v = (l.set i v).toArray) ∧ (∀ (x y : Value) (l : List Value), (x :: l).set 0 y = y :: l) ∧ (∀ (x y : Value) (l : List Value) (n : Nat), (x :: l).set (n + 1) y = x :: l.set n y) ∧
    (∀ n : Int, IntKind.i64.wrap n = Go.RowKit.wrap64 n) ∧ (∀ n : Int, IntKind.i32.wrap n = Go.RowKit.wrap32 n) :=
  ⟨fun _ _ _ => rfl, fun _ _ => rfl, fun l i v => by simp, fun _ _ _ => rfl, fun _ _ _ _ => rfl, fun n => by unfold Go.RowKit.wrap64; exact IntKind.wrap_i64 n, fun n => by unfold Go.RowKit.wrap32; exact IntKind.wrap_i32 n⟩
end Go.Proofs.Ytabkinlpbefjgaa.L
