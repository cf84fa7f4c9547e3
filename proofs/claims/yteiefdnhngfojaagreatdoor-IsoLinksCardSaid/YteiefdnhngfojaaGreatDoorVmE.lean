/-
  The functions beside the table keep what is said of them.
-/
import Derived.Test.YteiefdnhngfojaaGreatDoorVmI
import Derived.Test.YteiefdnhngfojaaGreatDoorStrs2
set_option linter.unusedVariables false
set_option linter.unusedSimpArgs false
set_option maxRecDepth 100000
namespace Go.Proofs.YteiefdnhngfojaaGreatDoor.VmI
open Go Go.Proofs Go.Proofs.YteiefdnhngfojaaGreatDoor.Vm Go.Proofs.YteiefdnhngfojaaGreatDoor.Ext Go.RowKit

theorem one_arg {w : World} {S : Nat → Prop} {s : ByteArray} {u : Value} {bs : List Nat} (h : LayArg w S .str s u bs) : u = .string s ∧ bs = [] := by
  obtain ⟨⟨h1, h2⟩, _, h3⟩ := h
  have h1' : u.cells.toList = [.string s] := h1
  rw [h3 rfl] at h1'
  exact ⟨List.singleton_inj.1 h1', h2⟩
theorem two_strs {w : World} {S : Nat → Prop} {a b : ByteArray} {us : List Value} {bs : List Nat} (h : LayArgs w S [.str, .str] (a, b) us bs) : us = [.string a, .string b] ∧ bs = [] := by
  obtain ⟨v, r, b1, b2, rfl, rfl, h1, ⟨u, rfl, h2⟩⟩ := h
  obtain ⟨rfl, rfl⟩ := one_arg (s := a) h1
  obtain ⟨rfl, rfl⟩ := one_arg (s := b) h2
  exact ⟨rfl, rfl⟩
/-- A callee without anything of one's own, whose result stands. -/
theorem callOk_of {g : FuncId} {ps : List Ty} {r : Ty} (hps : info.ps g = ps) (hrs : info.rs g = [r]) (hout : outT ps = []) {x : (tupT (info.ps g)).T} {y : (info.res g).T}
    (h : ∀ (x' : (tupT ps).T) (y' : r.T), HEq x x' → HEq y y' → ∀ (w : World) (S : Nat → Prop) (args : Array Value) (bs : List Nat), (∀ b, S b → b < w.heap.size) → LayArgs w S ps x' args.toList bs →
      bs = [] ∧ Calls Tryz.prog g args w (fun e w' => ∃ v, e = .returned v ∧ Below w.heap.size w w' ∧ LayArg w' (fun b => S b ∨ (w.heap.size ≤ b ∧ b < w'.heap.size)) r y' v [])) : CallOk Tryz.prog info g x y := by
  unfold CallOk
  intro w S args bs hS hl hn hd
  have key : ∀ (ps' : List Ty) (rs' : List Ty) (e1 : ps' = ps) (e2 : rs' = [r]) (x : (tupT ps').T) (y : (resOf rs' (outT ps')).T),
      (∀ (x' : (tupT ps).T) (y' : r.T), HEq x x' → HEq y y' → LayArgs w S ps x' args.toList bs → bs = [] ∧ Calls Tryz.prog g args w (fun e w' => ∃ v, e = .returned v ∧ Below w.heap.size w w' ∧ LayArg w' (fun b => S b ∨ (w.heap.size ≤ b ∧ b < w'.heap.size)) r y' v [])) →
      LayArgs w S ps' x args.toList bs → Calls Tryz.prog g args w (fun e w' => ∃ v S' us b1 b2, e = .returned v ∧ IsRes v us ∧ Keep (· ∈ bs) w w' ∧ (∀ b, S b → S' b) ∧ (∀ b, S' b → S b ∨ b ∈ bs ∨ w.heap.size ≤ b) ∧ (∀ b, S' b → b < w'.heap.size) ∧
        LayArgs w' S' rs' (splitR rs' (outT ps') y).1 us b1 ∧ LayArgs w' S' (outT ps') (splitR rs' (outT ps') y).2 (outA ps' args.toList) b2 ∧ (b1 ++ b2).Nodup ∧ ∀ b ∈ b1 ++ b2, ¬ S' b ∧ (b ∈ bs ∨ w.heap.size ≤ b)) := by
    intro ps' rs' e1 e2 x y hk hl
    subst e1 e2
    have gen : ∀ (os : List Ty) (eo : os = []) (y : (resOf [r] os).T) (A : List Value), (∀ (x' : (tupT ps').T) (y' : r.T), HEq x x' → HEq y y' → LayArgs w S ps' x' args.toList bs → bs = [] ∧ Calls Tryz.prog g args w (fun e w' => ∃ v, e = .returned v ∧ Below w.heap.size w w' ∧ LayArg w' (fun b => S b ∨ (w.heap.size ≤ b ∧ b < w'.heap.size)) r y' v [])) → A = [] →
        Calls Tryz.prog g args w (fun e w' => ∃ v S' us b1 b2, e = .returned v ∧ IsRes v us ∧ Keep (· ∈ bs) w w' ∧ (∀ b, S b → S' b) ∧ (∀ b, S' b → S b ∨ b ∈ bs ∨ w.heap.size ≤ b) ∧ (∀ b, S' b → b < w'.heap.size) ∧
          LayArgs w' S' [r] (splitR [r] os y).1 us b1 ∧ LayArgs w' S' os (splitR [r] os y).2 A b2 ∧ (b1 ++ b2).Nodup ∧ ∀ b ∈ b1 ++ b2, ¬ S' b ∧ (b ∈ bs ∨ w.heap.size ≤ b)) := by
      intro os eo y A hk hA
      subst eo hA
      obtain ⟨rfl, hc⟩ := hk x y HEq.rfl HEq.rfl hl
      refine hc.mono ?_
      rintro e w' ⟨v, rfl, hb, hv⟩
      refine ⟨v, fun b => S b ∨ (w.heap.size ≤ b ∧ b < w'.heap.size), [v], [], [], rfl, .inl rfl, ⟨hb.os, hb.tape, hb.output, hb.size, fun k hk _ => hb.block k hk⟩, fun b h => .inl h, fun b h => h.elim .inl (fun h => .inr (.inr h.1)), fun b h => h.elim (fun h => Nat.lt_of_lt_of_le (hS b h) hb.size) (fun h => h.2), ⟨v, rfl, hv⟩, ⟨rfl, rfl⟩, List.nodup_nil, fun b h => absurd h (by simp)⟩
    refine gen (outT ps') hout y _ hk ?_
    have : ∀ (ts : List Ty) (us : List Value), outT ts = [] → outA ts us = [] := by
      intro ts
      induction ts with
      | nil => intro us _; rfl
      | cons t ts ih =>
        intro us h
        cases us with
        | nil => rfl
        | cons u us =>
          rw [outT] at h
          rw [outA]
          cases hm : t.mine with
          | true => rw [hm] at h; exact absurd h (by simp)
          | false => rw [hm] at h; exact ih us h
    exact this _ _ hout
  exact key (info.ps g) (info.rs g) hps hrs x y (fun x' y' hx hy hl => h x' y' hx hy w S args bs hS hl) hl

theorem leafArg {w : World} {S : Nat → Prop} {t : Ty} (ht : t.leaf = true) (ha : t.isAgg = false) {x : t.T} {v : Value} (hv : v.cells = #[v]) (h : Rep w S t x [v]) : LayArg w S t x v [] :=
  ⟨LayRep.of_leaf ht |>.2 ⟨by rw [hv]; exact h, rfl⟩, fun h => by rw [ha] at h; exact absurd h (by simp), fun _ => hv⟩
theorem containsE_eq (a b : ByteArray) : containsE (.pair .str .str) .bool (a, b) = if b = zeroB then some (decide (0 ≤ Lib.indexByte a.data.toList 0)) else none := rfl
theorem splitE_eq (a b : ByteArray) : splitE (.pair .str .str) (.list 9 .str) (a, b) = if b.size = 1 then if a.size < 4294967281 then some (Lib.splitB b 0 (Lib.countB a b) a) else none else none := rfl
theorem map_at (l : List ByteArray) (i : Nat) (h : i < l.length) : (l.map Value.string).toArray[i]? = some (.string l[i]) := by
  rw [List.getElem?_toArray, List.getElem?_map, List.getElem?_eq_getElem h]; rfl
theorem size_alloc (w : World) (o : Obj) : w.heap.size < (w.alloc o).heap.size := by
  unfold World.alloc
  rw [Array.size_push]
  exact Nat.lt_succ_self _
theorem ok162 (x : (tupT (info.ps 162)).T) (y : (info.res 162).T) (h : anyE (tupT (info.ps 162)) (info.res 162) x = some y) : CallOk Tryz.prog info 162 x y := by
  refine callOk_of (ps := [.str, .str]) (r := .bool) (by kernel_rfl) (by kernel_rfl) rfl fun x' y' hx hy w S args bs hS hl => ?_
  have h' : anyE (.pair .str .str) .bool x' = some y' := by
    obtain rfl := eq_of_heq hx
    obtain rfl := eq_of_heq hy
    exact h
  obtain ⟨a, b⟩ := x'
  obtain ⟨e, rfl⟩ := two_strs hl
  obtain rfl : args = #[.string a, .string b] := Array.ext' e
  have hf : strings_ContainsAny.f a b = some y' := h'
  refine ⟨rfl, (strings_ContainsAny.calls a b y' w hf).mono ?_⟩
  rintro e w' ⟨rfl, hb⟩
  exact ⟨_, rfl, hb, leafArg rfl rfl rfl rfl⟩
theorem ok160 (x : (tupT (info.ps 160)).T) (y : (info.res 160).T) (h : containsE (tupT (info.ps 160)) (info.res 160) x = some y) : CallOk Tryz.prog info 160 x y := by
  refine callOk_of (ps := [.str, .str]) (r := .bool) (by kernel_rfl) (by kernel_rfl) rfl fun x' y' hx hy w S args bs hS hl => ?_
  have h' : containsE (.pair .str .str) .bool x' = some y' := by
    obtain rfl := eq_of_heq hx
    obtain rfl := eq_of_heq hy
    exact h
  obtain ⟨a, b⟩ := x'
  obtain ⟨e, rfl⟩ := two_strs hl
  obtain rfl : args = #[.string a, .string b] := Array.ext' e
  have h'' := (containsE_eq a b).symm.trans h'
  split at h''
  · rename_i hb
    subst hb
    obtain rfl := Option.some.inj h''
    refine ⟨rfl, (Tryz.strings_Contains_one a 0 w).mono ?_⟩
    rintro e w' ⟨rfl, rfl⟩
    exact ⟨_, rfl, Below.refl _ _, leafArg rfl rfl rfl rfl⟩
  · exact absurd h'' (by simp)
theorem ok152 (x : (tupT (info.ps 152)).T) (y : (info.res 152).T) (h : joinE (tupT (info.ps 152)) (info.res 152) x = some y) : CallOk Tryz.prog info 152 x y := by
  refine callOk_of (ps := [.list 9 .str, .str]) (r := .str) (by kernel_rfl) (by kernel_rfl) rfl fun x' y' hx hy w S args bs hS hl => ?_
  have h' : joinE (.pair (.list 9 .str) .str) .str x' = some y' := by
    obtain rfl := eq_of_heq hx
    obtain rfl := eq_of_heq hy
    exact h
  obtain ⟨l, b⟩ := x'
  obtain ⟨v, r, b1, b2, e, rfl, h1, ⟨u, rfl, h2⟩⟩ := hl
  obtain ⟨rfl, rfl⟩ := one_arg (s := b) h2
  obtain ⟨⟨⟨v', hv', hrep⟩, rfl⟩, _, h3⟩ := h1
  rw [h3 rfl] at hv'
  obtain rfl : v = v' := List.singleton_inj.1 hv'
  obtain ⟨A, c, rfl, hc, hel⟩ := hrep
  obtain rfl : args = #[.slice A l.length c, .string b] := Array.ext' e
  have hf : strings_Join.f l b = some y' := h'
  refine ⟨rfl, (strings_Join.calls A c l b y' w (fun h0 => ?_) hc hf).mono ?_⟩
  · obtain ⟨g, o, cs, rfl, _, _, _, _⟩ := hel 0 h0
    refine ⟨_, rfl, fun j p hj => ?_⟩
    obtain ⟨hjl, rfl⟩ := List.getElem?_eq_some_iff.1 hj
    obtain ⟨g2, o2, cs, e2, _, hn, hr, hcell⟩ := hel j hjl
    simp only [Option.some.injEq, Addr.mk.injEq, and_true] at e2
    obtain ⟨rfl, rfl⟩ := e2
    have hr' : cs = [.string l[j]] := hr
    subst hr'
    rw [← hcell 0 _ rfl]
    congr 1
    unfold Addr.add
    split
    · rename_i e0
      subst e0
      simp only [Addr.mk.injEq, and_true, true_and]
      show o = o + 0 * 1 + 0
      omega
    · simp only [Addr.mk.injEq, and_true, true_and]
      show o + j = o + j * 1 + 0
      omega
  · rintro e w' ⟨rfl, hb⟩
    exact ⟨_, rfl, hb, leafArg rfl rfl rfl rfl⟩
theorem ok131 (x : (tupT (info.ps 131)).T) (y : (info.res 131).T) (h : splitE (tupT (info.ps 131)) (info.res 131) x = some y) : CallOk Tryz.prog info 131 x y := by
  refine callOk_of (ps := [.str, .str]) (r := .list 9 .str) (by kernel_rfl) (by kernel_rfl) rfl fun x' y' hx hy w S args bs hS hl => ?_
  have h' : splitE (.pair .str .str) (.list 9 .str) x' = some y' := by
    obtain rfl := eq_of_heq hx
    obtain rfl := eq_of_heq hy
    exact h
  obtain ⟨a, b⟩ := x'
  obtain ⟨e, rfl⟩ := two_strs hl
  obtain rfl : args = #[.string a, .string b] := Array.ext' e
  have h'' := (splitE_eq a b).symm.trans h'
  split at h''
  · rename_i hb
    split at h''
    · rename_i hs
      obtain rfl := Option.some.inj h''
      obtain ⟨c, rfl⟩ := Lib.one_byte b hb
      have hlen := Lib.splitB_all ⟨#[c]⟩ (Nat.le_refl 1) 0 _ a rfl
      refine ⟨rfl, (split_one a c w hs).mono ?_⟩
      rintro e w' ⟨rfl, rfl⟩
      refine ⟨_, rfl, (Below.refl _ _).alloc (Nat.le_refl _) _, leafArg rfl rfl rfl ⟨_, rfl, ?_⟩⟩
      refine ⟨some ⟨w.heap.size, 0, none⟩, Lib.countB a ⟨#[c]⟩ + 1, by rw [hlen], by rw [hlen]; exact Nat.le_refl _, fun i hi => ?_⟩
      refine ⟨w.heap.size, 0, [.string (Lib.splitB ⟨#[c]⟩ 0 (Lib.countB a ⟨#[c]⟩) a)[i]], rfl, .inr ⟨Nat.le_refl _, size_alloc w _⟩, rfl, rfl, fun j u hj => ?_⟩
      cases j with
      | succ j => exact absurd hj (by simp)
      | zero =>
        obtain rfl := Option.some.inj hj
        show World.cell? _ ⟨w.heap.size, 0 + i * 1 + 0, none⟩ = _
        unfold World.cell?
        rw [heap_alloc_new]
        simp only [Option.isSome_none, Bool.false_eq_true, if_false]
        rw [show 0 + i * 1 + 0 = i by omega]
        exact map_at _ i hi
    · exact absurd h'' (by simp)
  · exact absurd h'' (by simp)
theorem extOk : ExtOk Tryz.prog info ext := by
  intro g x y _ h
  unfold ext at h
  by_cases e1 : g = 131
  · subst e1; exact ⟨Tryz.call131, ok131 x y h⟩
  by_cases e2 : g = 152
  · subst e2; exact ⟨Tryz.call152, ok152 x y h⟩
  by_cases e3 : g = 160
  · subst e3; exact ⟨Tryz.call160, ok160 x y h⟩
  by_cases e4 : g = 162
  · subst e4; exact ⟨Tryz.call162, ok162 x y h⟩
  have n : ∀ m : Nat, g ≠ m → Nat.beq g m = false := fun m hm => by
    cases hb : Nat.beq g m with
    | false => rfl
    | true => exact absurd (Nat.eq_of_beq_eq_true hb) hm
  rw [n _ e1, n _ e2, n _ e3, n _ e4] at h
  exact absurd h (by simp)
/-- What the interpreter answers at this table, the program answers. -/
theorem sound (k : Nat) : ClOk Tryz.prog info (call info ext k) := call_sound infoOk fnsOk extOk k
end Go.Proofs.YteiefdnhngfojaaGreatDoor.VmI
