/-
  Plain lemmas, of no program: a body in which the run jumps back to one label ('goto next'), walked once, with a relation that bears a number which every jump lowers.
-/
import Derived.WalkKit
import Derived.Deep.LoopGhost
set_option linter.unusedVariables false
namespace Go.Proofs.YtncfadhcpmokiaaDoor.GotoKit
open Go

/-- What is known where the code of a scope is left: a jump to a label of its own goes on there. -/
def scopePost (P : Program) (c : Code) (Q : Exit → Act → World → Prop) : Exit → Act → World → Prop
  | .goto l, a, w => ∃ rest, findLabel c l = some rest ∧ ∀ (b : Frame) (k : List Item) (cs : List Frame), ∃ e a' w', Q e a' w' ∧ Arrives P (lone (b.at a (.code rest :: .inScope c :: k)) cs w) b k cs e a' w'
  | e, a, w => Q e a w

section
variable {P : Program} {c : Code} {Q : Exit → Act → World → Prop} {a : Act} {w : World}
@[go_sem] theorem scopePost_normal : scopePost P c Q .normal a w = Q .normal a w := rfl
@[go_sem] theorem scopePost_exit (id : Nat) : scopePost P c Q (.exit id) a w = Q (.exit id) a w := rfl
@[go_sem] theorem scopePost_ret : scopePost P c Q .ret a w = Q .ret a w := rfl
@[go_sem] theorem scopePost_panic (ch : List PanicEntry) : scopePost P c Q (.panic ch) a w = Q (.panic ch) a w := rfl
@[go_sem] theorem scopePost_outgrown : scopePost P c Q .outgrown a w = Q .outgrown a w := rfl
@[go_sem] theorem jump_normal (l : Nat) (J : Act → World → Prop) : Exit.jump l J Q .normal a w = Q .normal a w := rfl
@[go_sem] theorem jump_exit (l : Nat) (J : Act → World → Prop) (id : Nat) : Exit.jump l J Q (.exit id) a w = Q (.exit id) a w := rfl
@[go_sem] theorem jump_ret (l : Nat) (J : Act → World → Prop) : Exit.jump l J Q .ret a w = Q .ret a w := rfl
@[go_sem] theorem jump_panic (l : Nat) (J : Act → World → Prop) (ch : List PanicEntry) : Exit.jump l J Q (.panic ch) a w = Q (.panic ch) a w := rfl
theorem jump_goto (l : Nat) (J : Act → World → Prop) : Exit.jump l J Q (.goto l) a w = J a w := propext ⟨fun h => h.2, fun h => ⟨rfl, h⟩⟩
@[go_sem] theorem jump_outgrown (l : Nat) (J : Act → World → Prop) : Exit.jump l J Q .outgrown a w = Q .outgrown a w := rfl

/-- Code in a scope, whose exits are known: the scope's exits. -/
theorem arrives_of {rest : Code} (h : ∀ (b : Frame) (k : List Item) (cs : List Frame), ∃ e a' w', scopePost P c Q e a' w' ∧ Arrives P (lone (b.at a (.code rest :: k)) cs w) b k cs e a' w') :
    ∀ (b : Frame) (k : List Item) (cs : List Frame), ∃ e a' w', Q e a' w' ∧ Arrives P (lone (b.at a (.code rest :: .inScope c :: k)) cs w) b k cs e a' w' := by
  intro b k cs
  obtain ⟨e, a₁, w₁, hq, harr⟩ := h b (.inScope c :: k) cs
  cases e with
  | normal => exact ⟨.normal, a₁, w₁, hq, Steps.trans harr (.one step_inScope)⟩
  | exit id => exact ⟨.exit id, a₁, w₁, hq, fun k' hk => harr k' (by simp [exitTo, hk])⟩
  | goto l =>
    obtain ⟨rest', hf, hgo⟩ := hq
    obtain ⟨e₂, a₂, w₂, hq₂, harr₂⟩ := hgo b k cs
    exact ⟨e₂, a₂, w₂, hq₂, .of_steps (harr _ (by simp [gotoIn, hf])) harr₂⟩
  | ret => exact ⟨_, a₁, w₁, hq, harr⟩
  | panic ch => exact ⟨_, a₁, w₁, hq, harr⟩
  | outgrown => exact ⟨_, a₁, w₁, hq, harr⟩

/-- A scope. -/
theorem wp_scope_post (h : c.wp P (scopePost P c Q) a w) : (Code.scope c).wp P Q a w := by
  intro b k cs
  obtain ⟨e, a', w', hq, harr⟩ := arrives_of (rest := c) (fun b k cs => h b k cs) b k cs
  exact ⟨e, a', w', hq, .of_steps (.one step_scope) harr⟩

/-- A frame, some of its places filled anew. -/
def setL : List Value → List Nat → List Value → List Value
  | l, d :: ds, v :: vs => setL (l.set d v) ds vs
  | l, _, _ => l
def setA (a : Act) (ds : List Nat) (vs : List Value) : Act := { tmps := (setL a.tmps.toList ds vs).toArray, defers := a.defers }

/-- Behind the label: a relation that bears a number, which every jump back lowers. -/
theorem wp_goto_ghost {l : Nat} {rest : Code} (I : Nat → Act → World → Prop) (n₀ : Nat) (hf : findLabel c l = some (.seq .skip rest)) (h₀ : I n₀ a w)
    (round : ∀ n a w, I n a w → ∀ (J : Nat → Act → World → Prop) (K : Act → World → Prop), (∀ k a' w', I k a' w' → J k a' w') → (∀ a' w', Handed J n a' w' → K a' w') → rest.wp P (Exit.jump l K (scopePost P c Q)) a w) : rest.wp P (scopePost P c Q) a w := by
  induction n₀ using Nat.strongRecOn generalizing a w with
  | _ n ih =>
    refine wp_mono (round n a w h₀ I _ (fun _ _ _ q => q) fun _ _ q => q) ?_
    intro e a' w' hq
    cases e with
    | goto l' =>
      obtain ⟨rfl, n', hlt, hI⟩ := hq
      exact ⟨_, hf, arrives_of fun b k cs => wp_seq (wp_skip (ih n' hlt hI)) b k cs⟩
    | normal => exact hq
    | exit id => exact hq
    | ret => exact hq
    | panic ch => exact hq
    | outgrown => exact hq

/-- The same, over the frame's places that the body writes. -/
theorem wp_goto_slots {l : Nat} {rest : Code} (ds : List Nat) (n₀ : Nat) (R : Nat → List Value → World → Prop) (hf : findLabel c l = some (.seq .skip rest))
    (h₀ : ∃ vs, R n₀ vs w ∧ a = setA a ds vs)
    (round : ∀ n vs w, R n vs w → ∀ (J : Nat → Act → World → Prop) (K : Act → World → Prop), (∀ k vs w', R k vs w' → J k (setA a ds vs) w') → (∀ a' w', Handed J n a' w' → K a' w') → rest.wp P (Exit.jump l K (scopePost P c Q)) (setA a ds vs) w) : rest.wp P (scopePost P c Q) a w := by
  obtain ⟨a0, rfl⟩ : ∃ a0, a0 = a := ⟨_, rfl⟩
  refine wp_goto_ghost (fun n a w => ∃ vs, R n vs w ∧ a = setA a0 ds vs) n₀ hf h₀ ?_
  rintro n a w ⟨vs, hR, rfl⟩ J K hJ hK
  exact round n vs w hR J K (fun k vs w' h => hJ _ _ _ ⟨vs, h, rfl⟩) hK
end
end Go.Proofs.YtncfadhcpmokiaaDoor.GotoKit
