/-
  What is known of a tree that a law is handed.
-/
import Derived.Test.YteiefdnhngfojaaGreatDoorVmT
import Derived.Test.YteiefdnhngfojaaGreatDoorVmE
import Derived.Test.YteiefdnhngfojaaGreatDoorPuB
set_option linter.unusedVariables false
set_option linter.unusedSimpArgs false
namespace Go.Proofs.YteiefdnhngfojaaGreatDoor.P
open Go Go.RowKit Go.Proofs.YteiefdnhngfojaaGreatDoor.Vm Go.Proofs.YteiefdnhngfojaaGreatDoor.VmI Go.Proofs.YteiefdnhngfojaaGreatDoor.Tr
theorem layRep_plain {w : World} {S : Nat → Prop} : ∀ (t : Ty), t.plain = true → ∀ {x : t.T} {vs : List Value}, Rep w S t x vs → LayRep w S t x vs []
  | .int k, _, _, _, h => ⟨h, rfl⟩
  | .bool, _, _, _, h => ⟨h, rfl⟩
  | .str, _, _, _, h => ⟨h, rfl⟩
  | .list e t, _, _, _, h => ⟨h, rfl⟩
  | .pair a b, hp, _, _, ⟨v1, v2, e, h1, h2⟩ => by
    have hp' : (a.plain && b.plain) = true := hp
    rw [Bool.and_eq_true] at hp'
    exact ⟨v1, v2, [], [], e, rfl, layRep_plain a hp'.1 h1, layRep_plain b hp'.2 h2⟩
  | .struct t, hp, _, _, h => layRep_plain t hp h
  | .cx, hp, _, _, _ => absurd hp (by simp [Ty.plain])
  | .flt, hp, _, _, _ => absurd hp (by simp [Ty.plain])
  | .fn, hp, _, _, _ => absurd hp (by simp [Ty.plain])
  | .fns _, hp, _, _, _ => absurd hp (by simp [Ty.plain])
  | .ptr _, hp, _, _, _ => absurd hp (by simp [Ty.plain])
  | .own _ _, hp, _, _, _ => absurd hp (by simp [Ty.plain])
  | .io _ _, hp, _, _, _ => absurd hp (by simp [Ty.plain])
  | .ref _ _, hp, _, _, _ => absurd hp (by simp [Ty.plain])
theorem arg_plain {w : World} {S : Nat → Prop} {t : Ty} (hp : t.plain = true) {x : t.T} {u : Value} (h : Rep w S t x u.cells.toList) (h1 : t.isAgg = true → ∃ arr, u = .agg arr) (h2 : t.isAgg = false → u.cells = #[u]) : LayArg w S t x u [] :=
  ⟨layRep_plain t hp h, h1, h2⟩
theorem fit_lim {x : (t24 : Ty).T} (h : Fit t24 x) : LimT x := by
  have h' : (x.1.length ≤ maxLen ∧ ∀ e ∈ x.1, Fit t45 e) ∧ (x.2.length ≤ maxLen ∧ ∀ n ∈ x.2, Fit t41 n) := h
  have hm : maxLen ≤ 9223372036854775807 := by decide
  refine ⟨Nat.le_trans h'.1.1 hm, Nat.le_trans h'.2.1 hm, fun n hn => ?_, fun n hn => ?_⟩
  · have g : Fit (.int .i64) n.1 ∧ Fit t38 n.2.1 ∧ Fit (.int .i64) n.2.2.1 ∧ (n.2.2.2.1.length ≤ maxLen ∧ ∀ q ∈ n.2.2.2.1, Fit t87 q) ∧ Fit (.pair .str (.pair (.int .i64) (.int .i64))) n.2.2.2.2 := h'.2.2 n hn
    exact Nat.le_trans g.2.2.2.1.1 hm
  · have g : Fit (.int .i64) n.1 ∧ Fit t38 n.2.1 ∧ Fit (.pair (.int .i64) (.pair (.list 88 t87) (.pair .str (.pair (.int .i64) (.int .i64))))) n.2.2 := h'.2.2 n hn
    have g2 : Fit (.int .i64) n.2.1.1 ∧ Fit (.int .i64) n.2.1.2.1 ∧ Fit (.int .i64) n.2.1.2.2.1 ∧ Fit (.int .i64) n.2.1.2.2.2.1 ∧ (n.2.1.2.2.2.2.1.length ≤ maxLen ∧ ∀ q ∈ n.2.1.2.2.2.2.1, Fit t43 q) ∧ Fit (.list 84 t83) n.2.1.2.2.2.2.2 := g.2.1
    exact Nat.le_trans g2.2.2.2.2.1.1 hm
end Go.Proofs.YteiefdnhngfojaaGreatDoor.P
