/-
  What is handed to a law stands for a value of the interpreter.
-/
import Derived.Test.YteiefdnhngfojaaGreatDoorVmA
import Derived.Test.YteiefdnhngfojaaGreatDoorVmB
import Derived.ChangeArms
import Derived.ChangeSlices
import Derived.DataReads
set_option linter.unusedVariables false
set_option linter.unusedSimpArgs false
namespace Go.Proofs.YteiefdnhngfojaaGreatDoor.Vm
open Go Go.RowKit Go.ChangeShapes

/-- A value is within what numbers and memory can hold. -/
def Fit : (t : Ty) → t.T → Prop
  | .int k, n => (Lit.int k n).wf = true
  | .str, s => s.size ≤ maxLen
  | .list _ t, xs => xs.length ≤ maxLen ∧ ∀ x ∈ xs, Fit t x
  | .pair a b, x => Fit a x.1 ∧ Fit b x.2
  | .struct t, x => Fit t x
  | _, _ => True
/-- A type whose values are read so. -/
def Ty.plain : Ty → Bool
  | .int _ => true
  | .bool => true
  | .str => true
  | .list _ t => t.plain
  | .pair a b => a.plain && b.plain
  | .struct t => t.plain
  | _ => false

section
variable {H : Type} {enc : TypeId × Value → H} {P : Program} {w : World} {base : Nat} {sp : Nat → Bool} {held : Bool} {by_ : TypeId → Nat}
theorem cells_size {t : Ty} {id : TypeId} (h : chk P by_ t none id = true) : P.cellsOf id = t.size := by
  obtain ⟨i, z, h1, h2, _⟩ := base_info (chk_base h)
  unfold Program.cellsOf
  rw [h1]
  exact h2
theorem cells_at {a : Addr} {n : Nat} {cs : List Value} (h : w.cells? base a n = some cs) (hn : 0 < n) : a = ⟨a.block, a.off, none⟩ ∧ a.block < w.heap.size ∧ cs.length = n ∧ CellsAt w a.block a.off cs := by
  obtain ⟨h1, h2, h3⟩ := World.cells?_some h
  have hspot : a.spot = none := by
    have h0 := h3 0 hn
    rw [List.getElem?_eq_getElem (by omega)] at h0
    have e : a.add 0 = a := by simp [Addr.add]
    rw [e] at h0
    unfold World.cell? at h0
    cases hs : a.spot with
    | none => rfl
    | some x =>
      rw [hs] at h0
      split at h0 <;> simp at h0
  have hblk : a.block < w.heap.size := by
    have h0 := h3 0 hn
    rw [List.getElem?_eq_getElem (by omega)] at h0
    have e : a.add 0 = a := by simp [Addr.add]
    rw [e] at h0
    unfold World.cell? at h0
    split at h0
    · rename_i hx
      exact (Array.getElem?_eq_some_iff.1 hx).1
    · exact absurd h0 (by simp)
  refine ⟨?_, hblk, h2, fun j u hj => ?_⟩
  · cases a
    simp only at hspot
    subst hspot
    rfl
  · have hj' : j < n := by rw [← h2]; exact (List.getElem?_eq_some_iff.1 hj).1
    rw [← hj, ← h3 j hj']
    congr 1
    unfold Addr.add
    split
    · rename_i e0
      subst e0
      cases a
      simp only at hspot
      subst hspot
      rfl
    · rfl
/-- What a law reads of its argument is a value that stands. -/
theorem trod_both : ∀ (u : Ty), u.plain = true →
    (∀ (t : TypeId), chk P by_ u none t = true → ∀ fuel cs y, DataW.trod enc P w base sp held fuel t cs = some y → ∃ x : u.T, Rep w (· < w.heap.size) u x cs ∧ Fit u x) ∧
    (∀ (fs : List Field) (off : Nat) (i : TypeId), chk P by_ u (some (fs, off)) i = true → ∀ (n : Nat) (cs : List Value), (∀ (i : Nat) (f : Field), fs[i]? = some f → ∃ y, DataW.trod enc P w base sp held n f.type ((cs.drop f.offset).take (P.cellsOf f.type)) = some y) → cs.length = off + u.size →
      ∃ x : u.T, Rep w (· < w.heap.size) u x (cs.drop off) ∧ Fit u x) := by
  have last : ∀ (u : Ty), u.flds = [u] → (∀ (t : TypeId), chk P by_ u none t = true → ∀ fuel cs y, DataW.trod enc P w base sp held fuel t cs = some y → ∃ x : u.T, Rep w (· < w.heap.size) u x cs ∧ Fit u x) →
      (∀ (fs : List Field) (off : Nat) (i : TypeId), chk P by_ u (some (fs, off)) i = true → ∀ (n : Nat) (cs : List Value), (∀ (i : Nat) (f : Field), fs[i]? = some f → ∃ y, DataW.trod enc P w base sp held n f.type ((cs.drop f.offset).take (P.cellsOf f.type)) = some y) → cs.length = off + u.size →
        ∃ x : u.T, Rep w (· < w.heap.size) u x (cs.drop off) ∧ Fit u x) := by
    intro u hu hA fs off i hc n cs hy hl
    have hat : Ty.at u.flds 0 = some (0, u) := by rw [hu]; rfl
    obtain ⟨fd, h1, h2, h3⟩ := chk_fields u fs off i hc 0 0 u hat
    obtain ⟨y, hy⟩ := hy 0 fd h1
    obtain ⟨x, hx⟩ := hA fd.type h3 n _ y hy
    rw [cells_size h3, h2, Nat.add_zero, List.take_of_length_le (by rw [List.length_drop]; omega)] at hx
    exact ⟨x, hx⟩
  intro u
  induction u with
  | int k =>
    intro _
    have hA : ∀ (t : TypeId), chk P by_ (.int k) none t = true → ∀ fuel cs y, DataW.trod enc P w base sp held fuel t cs = some y → ∃ x : (Ty.int k).T, Rep w (· < w.heap.size) (.int k) x cs ∧ Fit (.int k) x := fun t hc fuel cs y hy => by
      obtain ⟨d, hd1, hd2⟩ := leaf_desc hc rfl
      simp only [chk, modeId, Bool.and_eq_true, descOk, hd1] at hc
      cases d with
      | int k' =>
        obtain rfl : k = k' := of_decide_eq_true hc.2
        obtain ⟨n, rfl, _, hw⟩ := DataW.trod_int hd1 hy
        exact ⟨n, rfl, hw⟩
      | _ => exact absurd hc.2 (by simp)
    exact ⟨hA, last _ rfl hA⟩
  | bool =>
    intro _
    have hA : ∀ (t : TypeId), chk P by_ .bool none t = true → ∀ fuel cs y, DataW.trod enc P w base sp held fuel t cs = some y → ∃ x : Ty.bool.T, Rep w (· < w.heap.size) .bool x cs ∧ Fit .bool x := fun t hc fuel cs y hy => by
      obtain ⟨d, hd1, hd2⟩ := leaf_desc hc rfl
      simp only [chk, modeId, Bool.and_eq_true, descOk, hd1] at hc
      cases d with
      | bool =>
        obtain ⟨b, rfl, _⟩ := DataW.trod_bool hd1 hy
        exact ⟨b, rfl, trivial⟩
      | _ => exact absurd hc.2 (by simp)
    exact ⟨hA, last _ rfl hA⟩
  | str =>
    intro _
    have hA : ∀ (t : TypeId), chk P by_ .str none t = true → ∀ fuel cs y, DataW.trod enc P w base sp held fuel t cs = some y → ∃ x : Ty.str.T, Rep w (· < w.heap.size) .str x cs ∧ Fit .str x := fun t hc fuel cs y hy => by
      obtain ⟨d, hd1, hd2⟩ := leaf_desc hc rfl
      simp only [chk, modeId, Bool.and_eq_true, descOk, hd1] at hc
      cases d with
      | string =>
        obtain ⟨s, rfl, _, hs⟩ := DataW.trod_string hd1 hy
        exact ⟨s, rfl, hs⟩
      | _ => exact absurd hc.2 (by simp)
    exact ⟨hA, last _ rfl hA⟩
  | list e t ih =>
    intro hp
    have hA : ∀ (id : TypeId), chk P by_ (.list e t) none id = true → ∀ fuel cs y, DataW.trod enc P w base sp held fuel id cs = some y → ∃ x : (Ty.list e t).T, Rep w (· < w.heap.size) (.list e t) x cs ∧ Fit (.list e t) x := fun id hc fuel cs y hy => by
      obtain ⟨hd, hce, hpos⟩ := chk_list hc
      have hsz := cells_size hce
      rcases DataW.trod_slice hd hy with ⟨rfl, _⟩ | ⟨a, len, cap, elems, rest, n, _, rfl, _, hb, hl, hm, hlen, hel, _, _⟩
      · exact ⟨[], ⟨_, rfl, none, 0, rfl, Nat.le_refl _, fun i h => absurd h (by simp)⟩, by simp, fun x hx => absurd hx (by simp)⟩
      · have each : ∀ i : Fin len, ∃ x : t.T, ∃ cs, w.cells? base (a.add (i.1 * t.size)) t.size = some cs ∧ Rep w (· < w.heap.size) t x cs ∧ Fit t x := fun i => by
          have h1 := hel i.1 i.2
          rw [List.getElem?_eq_getElem (by rw [hlen]; exact i.2), Option.bind_eq_some_iff] at h1
          obtain ⟨cs, hcs, hy'⟩ := h1
          rw [hsz] at hcs
          obtain ⟨x, hx⟩ := (ih hp).1 e hce n cs _ hy'
          exact ⟨x, cs, hcs, hx⟩
        have hlen' : (List.ofFn fun i : Fin len => (each i).choose).length = len := List.length_ofFn
        refine ⟨List.ofFn fun i : Fin len => (each i).choose, ⟨_, rfl, some a, cap, by rw [hlen'], by rw [hlen']; exact hl, fun i hi => ?_⟩, by rw [hlen']; exact Nat.le_trans hl hm, fun x hx => ?_⟩
        · have hi' : i < len := by rw [← hlen']; exact hi
          rw [List.getElem_ofFn]
          obtain ⟨cs, hcs, hr, _⟩ := (each ⟨i, hi'⟩).choose_spec
          obtain ⟨g1, g2, g3, g4⟩ := cells_at hcs hpos
          have hblk : (a.add (i * t.size)).block = a.block := block_add _ _
          have hoff : (a.add (i * t.size)).off = a.off + i * t.size := by
            unfold Addr.add
            split
            · rename_i e0; rw [e0]; rfl
            · rfl
          have hspot : a.spot = none := by
            obtain ⟨cs0, hcs0, _⟩ := (each ⟨0, by omega⟩).choose_spec
            have e0 : a.add (0 * t.size) = a := by simp [Addr.add]
            have := (cells_at hcs0 hpos).1
            rw [show ((⟨0, by omega⟩ : Fin len) : Nat) = 0 from rfl, e0] at this
            exact congrArg Addr.spot this
          refine ⟨a.block, a.off, cs, ?_, ?_, g3, hr, ?_⟩
          · cases a
            simp only at hspot
            subst hspot
            rfl
          · rw [← hblk]; exact g2
          · rw [hblk, hoff] at g4; exact g4
        · obtain ⟨i, rfl⟩ := List.mem_ofFn.1 hx
          exact (each i).choose_spec.choose_spec.2.2
    exact ⟨hA, last _ rfl hA⟩
  | pair a b iha ihb =>
    intro hp
    have hp' : (a.plain && b.plain) = true := hp
    rw [Bool.and_eq_true] at hp'
    refine ⟨fun t hc => absurd hc (by simp [chk]), fun fs off i hc n cs hy hl => ?_⟩
    cases fs with
    | nil => exact absurd hc (by simp [chk])
    | cons fd r =>
      simp only [chk, Bool.and_eq_true, decide_eq_true_eq] at hc
      obtain ⟨⟨h1, h2⟩, h3⟩ := hc
      have hl' : cs.length = off + (a.size + b.size) := hl
      obtain ⟨y, hy0⟩ := hy 0 fd rfl
      obtain ⟨x, hx, fx⟩ := (iha hp'.1).1 fd.type h2 n _ y hy0
      rw [cells_size h2, h1] at hx
      obtain ⟨z, hz, fz⟩ := (ihb hp'.2).2 r (off + a.size) 0 h3 n cs (fun i f hf => hy (i + 1) f hf) (by omega)
      refine ⟨(x, z), ⟨_, _, ?_, hx, hz⟩, fx, fz⟩
      rw [← List.drop_drop, List.take_append_drop]
  | struct t ih =>
    intro hp
    have hA : ∀ (id : TypeId), chk P by_ (.struct t) none id = true → ∀ fuel cs y, DataW.trod enc P w base sp held fuel id cs = some y → ∃ x : (Ty.struct t).T, Rep w (· < w.heap.size) (.struct t) x cs ∧ Fit (.struct t) x := fun id hc fuel cs y hy => by
      obtain ⟨fs, hu, hcf, _⟩ := chk_struct hc
      obtain ⟨xs, n, _, _, hl, hxs, hf⟩ := DataW.trod_struct hu hy
      have hsz := cells_size hc
      obtain ⟨x, hx, fx⟩ := (ih hp).2 fs.toList 0 0 hcf n cs (fun i f hif => by
        have hif' : fs[i]? = some f := by rw [← Array.getElem?_toList]; exact hif
        have := hf i f hif'
        have hi : i < xs.length := by rw [hxs]; exact (Array.getElem?_eq_some_iff.1 hif').1
        rw [List.getElem?_eq_getElem hi] at this
        exact ⟨_, this⟩) (by rw [hl, hsz]; simp [Ty.size])
      exact ⟨x, by rw [List.drop_zero] at hx; exact hx, fx⟩
    exact ⟨hA, last _ rfl hA⟩
  | _ => intro hp; exact absurd hp (by simp [Ty.plain])
end
end Go.Proofs.YteiefdnhngfojaaGreatDoor.Vm
