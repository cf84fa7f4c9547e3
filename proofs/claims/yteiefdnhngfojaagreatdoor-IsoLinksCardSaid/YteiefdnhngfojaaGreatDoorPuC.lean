/-
  The law IsoLinks, of no program: whatever the text and the two numbers, it comes to true.
-/
import Derived.Test.YteiefdnhngfojaaGreatDoorPuB
set_option linter.unusedVariables false
set_option linter.unusedSimpArgs false
set_option maxRecDepth 100000
namespace Go.Proofs.YteiefdnhngfojaaGreatDoor.P
open Go Go.Proofs.YteiefdnhngfojaaGreatDoor.Vm Go.Proofs.YteiefdnhngfojaaGreatDoor.VmI Go.Proofs.YteiefdnhngfojaaGreatDoor.Tr Go.Proofs.YteiefdnhngfojaaGreatDoor.Sp

/-- An empty file. -/
def nFile : Y41 := ((2 : Int), ((0 : Int), (0 : Int), (0 : Int), (0 : Int), [], []), (0 : Int), [], ByteArray.empty, (0 : Int), (0 : Int))
/-- A file with a text, if there is any. -/
def nText (s : ByteArray) : Y41 := ((2 : Int), ((0 : Int), (0 : Int), (0 : Int), (0 : Int), [], []), (s.size : Int), (if s.size = 0 then [] else [((0 : Int), s)]), ByteArray.empty, (0 : Int), (0 : Int))
theorem sFile : SmallN nFile := ⟨by decide, by intro q hq; exact absurd hq (by simp [nFile]), by decide, by decide, by decide⟩
theorem f74_nil {k : Nat} (hk : 1 < k) (a b : Int) : f74 k [] a b = some [] := by
  obtain ⟨k, rfl, h⟩ := one_more hk
  obtain ⟨k, rfl, h⟩ := one_more (show 0 < k by omega)
  rw [f74_eq, f74l0_eq]; rfl
theorem f75_one {k : Nat} (hk : 3 < k) (q : Y87) : f75 k [q] = some [q] := by
  obtain ⟨k, rfl, h⟩ := one_more hk
  obtain ⟨k, rfl, h⟩ := one_more (show 2 < k by omega)
  obtain ⟨k, rfl, h⟩ := one_more (show 1 < k by omega)
  rw [f75_eq, f75l0_eq]
  have e1 : IntKind.wrap IntKind.i64 (((([] : List Y87).length : Nat) : Int) - 1) = -1 := by rw [w64 (by simp) (by simp)]; rfl
  rw [e1]
  have e2 : IntKind.wrap IntKind.i64 ((0 : Int) + 1) = 1 := rfl
  rw [e2]
  show f75l0 (k + 1 + 1) (k + 1) [q] 1 [q] = _
  rw [f75l0_eq]; rfl
theorem nodeFile : nodeB nFile = true := by decide +kernel
theorem mx0 (n : Nat) (h : n ≤ 50) : minmaxI true 0 (IntKind.wrap IntKind.i64 ((0 : Int) + (n : Int))) = (n : Int) := by
  rw [Int.zero_add, w64 (by omega) (by omega)]
  unfold minmaxI
  rw [cond_true]
  split <;> omega
theorem empty_L {s : ByteArray} : (L s == []) = decide (s.size = 0) := by
  rw [size_L]
  cases L s with
  | nil => rfl
  | cons a l => rfl
theorem f34_at {k : Nat} (hk : 1200 ≤ k) {s : ByteArray} (hs : s.size ≤ 50) : f34 k nFile 0 s = some (nText s, 0) := by
  obtain ⟨k, rfl, h⟩ := one_more hk
  have e1 : decide (((s.size : Nat) : Int) > IntKind.wrap IntKind.i64 ((1099511627776 : Int) - 0)) = false := by
    rw [w64 (by omega) (by omega)]
    exact decide_eq_false (by omega)
  rw [f34_eq, f73_at (by omega) sFile, nodeFile, Option.bind_some, e1, str_beq, l0, empty_L]
  show (bif decide (s.size = 0) then some (nFile, (0 : Int)) else Option.bind (f74 k [] 0 0) fun y1 => bif decide ((List.length y1 + List.length [((0 : Int), s)]) * (24 : Nat) ≤ (140737488355328 : Nat)) then
    Option.bind (f74 k [] (IntKind.wrap IntKind.i64 ((0 : Int) + (s.size : Int))) 1099511627777) fun y2 => bif decide ((List.length (y1 ++ [((0 : Int), s)]) + List.length y2) * (24 : Nat) ≤ (140737488355328 : Nat)) then
      Option.bind (f75 k (y1 ++ [((0 : Int), s)] ++ y2)) fun y3 => Option.bind (f76 k (nFile.1, nFile.2.1, minmaxI true 0 (IntKind.wrap IntKind.i64 ((0 : Int) + (s.size : Int))), y3, nFile.2.2.2.2)) fun y4 =>
        bif decide (y4 > 4000) then some (nFile, (13 : Int)) else bif decide ((y3.length : Int) > 16) then some (nFile, (13 : Int)) else some ((nFile.1, nFile.2.1, minmaxI true 0 (IntKind.wrap IntKind.i64 ((0 : Int) + (s.size : Int))), y3, nFile.2.2.2.2), (0 : Int))
      else none
    else none) = _
  by_cases h0 : s.size = 0
  · rw [decide_eq_true h0, cond_true, nText, if_pos h0, h0]; rfl
  · rw [decide_eq_false h0, cond_false, f74_nil (by omega), f74_nil (by omega), Option.bind_some, mx0 _ hs, nText, if_neg h0]
    have f75' : f75 k ([] ++ [((0 : Int), s)] ++ []) = some [((0 : Int), s)] := f75_one (by omega) _
    have f76' := f76_at (k := k) (by omega) (nFile.1, nFile.2.1, (s.size : Int), [((0 : Int), s)], nFile.2.2.2.2) (by simp) (by intro q hq; rw [List.mem_singleton.1 hq]; dsimp only; omega)
    have ht : total [((0 : Int), s)] = s.size := by simp [total]
    rw [show decide ((List.length ([] : List Y87) + List.length [((0 : Int), s)]) * (24 : Nat) ≤ (140737488355328 : Nat)) = true from rfl, cond_true, Option.bind_some, show decide ((List.length (([] : List Y87) ++ [((0 : Int), s)]) + List.length ([] : List Y87)) * (24 : Nat) ≤ (140737488355328 : Nat)) = true from rfl, cond_true, f75', Option.bind_some, f76']
    dsimp only [Option.bind_some]
    rw [ht, show decide (((s.size : Nat) : Int) > 4000) = false from decide_eq_false (by omega), cond_false]
    rfl
theorem sText {s : ByteArray} (hs : s.size ≤ 50) : SmallN (nText s) := by
  refine ⟨?_, ?_, show ByteArray.empty.size ≤ 300 by decide, show ([] : List Y43).length ≤ 12 by decide, show ([] : List Y83).length ≤ 20 by decide⟩
  · unfold nText
    dsimp only
    split <;> simp
  · intro q hq
    unfold nText at hq
    dsimp only at hq
    split at hq
    · exact absurd hq (by simp)
    · rw [List.mem_singleton.1 hq]; dsimp only; omega
theorem clampN {n : Nat} (h : n ≤ 50) : clamp (n : Int) = (n : Int) := by
  unfold clamp minmaxI
  simp only [cond_true, cond_false]
  split <;> (try split) <;> omega
theorem nodeText {s : ByteArray} (hs : s.size ≤ 50) : nodeB (nText s) = true := by
  by_cases h0 : s.size = 0
  · have : nText s = nFile := by unfold nText; rw [if_pos h0, h0]; rfl
    rw [this]; exact nodeFile
  · have hm : metaB (nText s).2.1 = true := show metaB ((0 : Int), (0 : Int), (0 : Int), (0 : Int), [], []) = true by decide +kernel
    have hk : kindB (nText s) = dataB (s.size : Int) [((0 : Int), s)] := by
      unfold kindB nText
      rw [if_neg h0]
      show (dataB (s.size : Int) [((0 : Int), s)] && (text0 ByteArray.empty && dev0 _)) = _
      rw [show text0 ByteArray.empty = true from by unfold text0; exact beq_self_eq_true _]
      cases dataB (s.size : Int) [((0 : Int), s)] <;> rfl
    rw [nodeB, hm, hk, Bool.true_and, dataB, sizeB, chain, chain, clampN hs]
    have c0 : clamp 0 = 0 := rfl
    rw [c0, decide_eq_true (show (0 : Int) ≤ (s.size : Int) by omega), decide_eq_true (show (s.size : Int) ≤ 1099511627776 by omega), decide_eq_true (show (0 : Int) < (s.size : Int) by omega), decide_eq_true (show (0 : Int) + (s.size : Int) ≤ (s.size : Int) by omega), decide_eq_true (show total [((0 : Int), s)] ≤ 4000 by simp [total]; omega)]
    rfl
/-! ### The two trees -/
def nm : List ByteArray := [⟨#[97]⟩, ⟨#[98]⟩, ⟨#[99]⟩, ⟨#[100]⟩]
def E1 (x y : ByteArray) : List Y45 := [(ByteArray.empty, 0), (x, 1), (y, 1)]
def E2 (x y : ByteArray) : List Y45 := [(ByteArray.empty, 0), (x, 1), (y, 2)]
/-- What the paths of a tree must be, whatever the nodes. -/
def Paths (E : List Y45) (c : Nat) : Prop :=
  P E 0 = [] ∧ (∀ n, n < 3 → mayB (P E n) = true ∧ (0 < n → cmpP (P E (n - 1)) (P E n) < 0) ∧ (0 ≤ nd E n ∧ nd E n ≤ (next E n : Int) ∧ nd E n < (c : Int)) ∧ (hasParent (P E n) = true → findE E (parentB (P E n)) = (0, true))) ∧
    (∀ j, j < c → cnt E (j : Int) 3 ≠ 0 ∧ (j = 0 → cnt E (j : Int) 3 = 1)) ∧ nd E 0 = 0
instance (E : List Y45) (c : Nat) : Decidable (Paths E c) := by unfold Paths; exact inferInstance
theorem paths_ok : ∀ x ∈ nm, ∀ y ∈ nm, Op.bytesLess (L x) (L y) = true → Paths (E1 x y) 2 ∧ Paths (E2 x y) 3 := by decide +kernel
theorem links_ok : ∀ x ∈ nm, ∀ y ∈ nm, Op.bytesLess (L x) (L y) = true →
    L (firstE (linkBad (E1 x y) (E2 x y)) (E1 x y)) = L x ∧ L (firstE (linkBad (E2 x y) (E1 x y)) (E2 x y)) = L x ∧ L (firstE (linkBad (E1 x y) (E1 x y)) (E1 x y)) = [] ∧ L (firstE (linkBad (E2 x y) (E2 x y)) (E2 x y)) = [] := by decide +kernel
theorem alone_ok : ∀ x ∈ nm, ∀ y ∈ nm, L (aloneE (E1 x y) (E2 x y)) = [] ∧ L (aloneE (E2 x y) (E1 x y)) = [] ∧ L (aloneE (E1 x y) (E1 x y)) = [] ∧ L (aloneE (E2 x y) (E2 x y)) = [] := by decide +kernel
theorem x_ok : ∀ x ∈ nm, L x ≠ [] ∧ x.size ≤ 1000 := by decide +kernel
theorem finds_ok : ∀ x ∈ nm, ∀ y ∈ nm, Op.bytesLess (L x) (L y) = true → (∀ e ∈ E1 x y, findE (E1 x y) (L e.1) = (e.2, true)) ∧ (∀ e ∈ E2 x y, findE (E2 x y) (L e.1) = (e.2, true)) ∧ (∀ e ∈ E1 x y, (findE (E2 x y) (L e.1)).1 = 0 ∧ e.2 = 0 ∨ ((findE (E2 x y) (L e.1)).1 = 1 ∨ (findE (E2 x y) (L e.1)).1 = 2) ∧ e.2 = 1) := by decide +kernel
theorem tree_of {E : List Y45} {N : List Y41} {c : Nat} (hE : E.length = 3) (hN : N.length = c) (hc : 0 < c) (hp : Paths E c) (h0 : List.getD N 0 (Ty.z t41) = nDir) (hn : ∀ j, 0 < j → j < c → (List.getD N j (Ty.z t41)).1 = 2) (hall : ∀ j, j < c → nodeB (List.getD N j (Ty.z t41)) = true) : treeB (E, N) = true := by
  rw [treeB_iff, tree_iff]
  obtain ⟨h1, h2, h3, h4⟩ := hp
  have hd0 : dirN N 0 = true := by
    unfold dirN
    rw [show Int.toNat 0 = 0 from rfl, h0]; rfl
  refine ⟨by dsimp only; omega, by dsimp only; omega, h1, fun n hlt => ?_, fun j hj => ?_, by dsimp only; rw [h4]; exact hd0⟩
  · obtain ⟨g1, g2, g3, g4⟩ := h2 n (by dsimp only at hlt; omega)
    refine ⟨g1, g2, by rw [hN]; exact g3, fun hq => ?_⟩
    rw [g4 hq, DirAt_iff]
    exact ⟨rfl, by omega, by dsimp only; omega, hd0⟩
  · dsimp only at hj ⊢
    obtain ⟨g1, g2⟩ := h3 j (by omega)
    refine ⟨hall j (by omega), by rw [hE]; exact g1, fun hd => ?_⟩
    rw [hE]
    by_cases hj0 : j = 0
    · exact g2 hj0
    · unfold dirN at hd
      rw [Int.toNat_natCast, hn j (by omega) (by omega)] at hd
      exact absurd hd (by decide)
theorem sameL_refl {α : Type} {eq : α → α → Bool} (h : ∀ x, eq x x = true) : ∀ l : List α, sameL eq l l = true
  | [] => rfl
  | x :: l => by rw [sameL, h x, sameL_refl h l]; rfl
theorem diffM_refl (m : Y38) : diffM m m = ⟨#[]⟩ := by
  unfold diffM
  rw [sameL_refl (eq := eqA) (fun x => by unfold eqA; simp), sameL_refl (eq := eqC) (fun x => by unfold eqC; simp)]
  simp
theorem diffN_refl (n : Y41) : diffN n n = ⟨#[]⟩ := by
  unfold diffN
  rw [sameL_refl (eq := eqQ) (fun x => by unfold eqQ; simp), diffM_refl, l0]
  simp
theorem nodesE_nil {N : List Y41} {F : List Y45} {M : List Y41} : ∀ {E : List Y45}, (∀ e ∈ E, List.getD N e.2.toNat (Ty.z t41) = List.getD M (findE F (L e.1)).1.toNat (Ty.z t41)) → nodesE N F M E = (⟨#[]⟩, ⟨#[]⟩)
  | [], _ => rfl
  | e :: l, h => by
    rw [nodesE, h e (by simp), diffN_refl, l0, nodesE_nil (fun x hx => h x (List.mem_cons_of_mem _ hx))]
    cases (findE F (L e.1)).2 <;> rfl
theorem ix4 (p : Int) : ∃ i : Nat, i < 4 ∧ Int.tmod (IntKind.wrap IntKind.u64 p) 4 = (i : Int) := by
  have h : 0 ≤ IntKind.wrap IntKind.u64 p := by
    unfold IntKind.wrap
    simp [IntKind.bits, IntKind.signed]
    omega
  obtain ⟨m, hm⟩ : ∃ m : Nat, IntKind.wrap IntKind.u64 p = m := ⟨(IntKind.wrap IntKind.u64 p).toNat, by omega⟩
  rw [hm]
  exact ⟨m % 4, by omega, by rw [show (4 : Int) = ((4 : Nat) : Int) from rfl, ← Int.ofNat_tmod]⟩
theorem nm_at {i : Nat} (h : i < 4) : List.getD [(⟨#[97]⟩ : ByteArray), ⟨#[98]⟩, ⟨#[99]⟩, ⟨#[100]⟩] i (Ty.z Ty.str) ∈ nm := by
  rw [List.getD_eq_getElem?_getD, List.getElem?_eq_getElem (by simpa using h)]
  exact List.getElem_mem _
theorem IsoLinks (s : ByteArray) (p q : Int) : ∃ k, f7 k s p q = some true := by
  refine ⟨4000 + 1, ?_⟩
  obtain ⟨i, hi, ei⟩ := ix4 p
  obtain ⟨j, hj, ej⟩ := ix4 q
  have hx := nm_at hi
  have hy := nm_at hj
  rw [f7_eq, ei, ej, inR hi, inR hj, Int.toNat_natCast, Int.toNat_natCast, decide_eq_true hi, decide_eq_true hj, cond_true, cond_true, cond_true, cond_true]
  generalize List.getD [(⟨#[97]⟩ : ByteArray), ⟨#[98]⟩, ⟨#[99]⟩, ⟨#[100]⟩] i (Ty.z Ty.str) = x at hx
  generalize List.getD [(⟨#[97]⟩ : ByteArray), ⟨#[98]⟩, ⟨#[99]⟩, ⟨#[100]⟩] j (Ty.z Ty.str) = y at hy
  rw [f19_at (by omega), toList_L, toList_L]
  cases hl : Op.bytesLess (L x) (L y) with
  | false => rfl
  | true =>
    rw [Bool.not_true, cond_false]
    by_cases hs : s.size ≤ 50
    · rw [show decide (((s.size : Nat) : Int) > 50) = false from decide_eq_false (by omega), cond_false]
      have w := f34_at (k := 4000) (by omega) hs
      have w' : f34 4000 ((2 : Int), ((0 : Int), (0 : Int), (0 : Int), (0 : Int), [], []), (0 : Int), [], ByteArray.empty, (0 : Int), (0 : Int)) 0 s = some (nText s, 0) := w
      rw [w', Option.bind_some]
      have T1 : Y24 := (E1 x y, [nDir, nText s])
      obtain ⟨p1, p2⟩ := paths_ok x hx y hy hl
      have ht := nodeText hs
      have hD : nodeB nDir = true := by decide +kernel
      have b1 : treeB (E1 x y, [nDir, nText s]) = true := tree_of (c := 2) rfl rfl (by omega) p1 rfl (fun j h1 h2 => by
        obtain rfl : j = 1 := by omega
        rfl) (fun j h => by
        have : j = 0 ∨ j = 1 := by omega
        rcases this with rfl | rfl
        · exact hD
        · exact ht)
      have b2 : treeB (E2 x y, [nDir, nText s, nText s]) = true := tree_of (c := 3) rfl rfl (by omega) p2 rfl (fun j h1 h2 => by
        have : j = 1 ∨ j = 2 := by omega
        rcases this with rfl | rfl <;> rfl) (fun j h => by
        have : j = 0 ∨ j = 1 ∨ j = 2 := by omega
        rcases this with rfl | rfl | rfl
        · exact hD
        · exact ht
        · exact ht)
      have sx := (x_ok x hx).2
      have sy := (x_ok y hy).2
      have s1 : SmallT (E1 x y, [nDir, nText s]) := ⟨by simp [E1], by
        intro e he
        simp only [E1, List.mem_cons, List.not_mem_nil, or_false] at he
        rcases he with rfl | rfl | rfl
        · decide
        · exact sx
        · exact sy, by simp, by
        intro e he
        simp only [List.mem_cons, List.not_mem_nil, or_false] at he
        exact he.elim (fun h => h ▸ sD) (fun h => h ▸ sText hs)⟩
      have s2 : SmallT (E2 x y, [nDir, nText s, nText s]) := ⟨by simp [E2], by
        intro e he
        simp only [E2, List.mem_cons, List.not_mem_nil, or_false] at he
        rcases he with rfl | rfl | rfl
        · decide
        · exact sx
        · exact sy, by simp, by
        intro e he
        simp only [List.mem_cons, List.not_mem_nil, or_false] at he
        exact he.elim (fun h => h ▸ sD) (fun h => h.elim (fun h => h ▸ sText hs) (fun h => h ▸ sText hs))⟩
      obtain ⟨l1, l2, l3, l4⟩ := links_ok x hx y hy hl
      obtain ⟨a1, a2, a3, a4⟩ := alone_ok x hx y hy
      obtain ⟨g1, g2, g3⟩ := finds_ok x hx y hy hl
      have pw : ∀ {a b : Y24}, treeB a = true → treeB b = true → L (aloneE a.1 b.1) = [] → L (aloneE b.1 a.1) = [] → L (pathsB a b) = [] := fun {a b} h1 h2 h3 h4 => by
        unfold pathsB
        rw [h1, h2, h3]
        exact h4
      have lw : ∀ {a b : Y24}, treeB a = true → treeB b = true → linksB a b = firstE (linkBad a.1 b.1) a.1 := fun {a b} h1 h2 => by
        unfold linksB
        rw [h1, h2]; rfl
      have nw : ∀ {a b : Y24}, treeB a = true → treeB b = true → (∀ e ∈ a.1, List.getD a.2 e.2.toNat (Ty.z t41) = List.getD b.2 (findE b.1 (L e.1)).1.toNat (Ty.z t41)) → nodesB a b = (⟨#[]⟩, ⟨#[]⟩) := fun {a b} h1 h2 h3 => by
        unfold nodesB
        rw [h1, h2]
        exact nodesE_nil h3
      have n11 := nw b1 b1 (fun e he => by rw [g1 e he])
      have n22 := nw b2 b2 (fun e he => by rw [g2 e he])
      have n12 := nw b1 b2 (fun e he => by
        rcases g3 e he with ⟨h1, h2⟩ | ⟨h1 | h1, h2⟩ <;> rw [h1, h2] <;> rfl)
      have q11 : sameB (E1 x y, [nDir, nText s]) (E1 x y, [nDir, nText s]) = true := by
        unfold sameB
        rw [pw b1 b1 a3 a3, lw b1 b1, l3, n11]; rfl
      have q22 : sameB (E2 x y, [nDir, nText s, nText s]) (E2 x y, [nDir, nText s, nText s]) = true := by
        unfold sameB
        rw [pw b2 b2 a4 a4, lw b2 b2, l4, n22]; rfl
      have q12 : sameB (E1 x y, [nDir, nText s]) (E2 x y, [nDir, nText s, nText s]) = false := by
        unfold sameB
        rw [pw b1 b2 a1 a2, lw b1 b2, l1, beq_eq_false_iff_ne.2 (x_ok x hx).1]; rfl
      have c20 : f20 4000 (E1 x y, [nDir, nText s]) (E2 x y, [nDir, nText s, nText s]) = some (⟨#[]⟩, ⟨#[]⟩) := by rw [f20_n (by omega) s1 s2, n12]
      have c11 := f26_at (k := 4000) (by omega) s1 s1
      have c22 := f26_at (k := 4000) (by omega) s2 s2
      have c12 := f26_at (k := 4000) (by omega) s1 s2
      have d12 := f24_at (k := 4000) (by omega) s1 s2
      have d21 := f24_at (k := 4000) (by omega) s2 s1
      have e12 := f22_at (k := 4000) (by omega) s1 s2
      rw [q11] at c11
      rw [q22] at c22
      rw [q12] at c12
      rw [lw b1 b2] at d12
      rw [lw b2 b1] at d21
      replace c20 : f20 4000 ([(ByteArray.empty, (0 : Int)), (x, (1 : Int)), (y, (1 : Int))], [((1 : Int), ((0 : Int), (0 : Int), (0 : Int), (0 : Int), [], []), (0 : Int), [], ByteArray.empty, (0 : Int), (0 : Int)), nText s]) ([(ByteArray.empty, (0 : Int)), (x, (1 : Int)), (y, (2 : Int))], [((1 : Int), ((0 : Int), (0 : Int), (0 : Int), (0 : Int), [], []), (0 : Int), [], ByteArray.empty, (0 : Int), (0 : Int)), nText s, nText s]) = _ := c20
      replace c11 : f26 4000 ([(ByteArray.empty, (0 : Int)), (x, (1 : Int)), (y, (1 : Int))], [((1 : Int), ((0 : Int), (0 : Int), (0 : Int), (0 : Int), [], []), (0 : Int), [], ByteArray.empty, (0 : Int), (0 : Int)), nText s]) ([(ByteArray.empty, (0 : Int)), (x, (1 : Int)), (y, (1 : Int))], [((1 : Int), ((0 : Int), (0 : Int), (0 : Int), (0 : Int), [], []), (0 : Int), [], ByteArray.empty, (0 : Int), (0 : Int)), nText s]) = _ := c11
      replace c22 : f26 4000 ([(ByteArray.empty, (0 : Int)), (x, (1 : Int)), (y, (2 : Int))], [((1 : Int), ((0 : Int), (0 : Int), (0 : Int), (0 : Int), [], []), (0 : Int), [], ByteArray.empty, (0 : Int), (0 : Int)), nText s, nText s]) ([(ByteArray.empty, (0 : Int)), (x, (1 : Int)), (y, (2 : Int))], [((1 : Int), ((0 : Int), (0 : Int), (0 : Int), (0 : Int), [], []), (0 : Int), [], ByteArray.empty, (0 : Int), (0 : Int)), nText s, nText s]) = _ := c22
      replace c12 : f26 4000 ([(ByteArray.empty, (0 : Int)), (x, (1 : Int)), (y, (1 : Int))], [((1 : Int), ((0 : Int), (0 : Int), (0 : Int), (0 : Int), [], []), (0 : Int), [], ByteArray.empty, (0 : Int), (0 : Int)), nText s]) ([(ByteArray.empty, (0 : Int)), (x, (1 : Int)), (y, (2 : Int))], [((1 : Int), ((0 : Int), (0 : Int), (0 : Int), (0 : Int), [], []), (0 : Int), [], ByteArray.empty, (0 : Int), (0 : Int)), nText s, nText s]) = _ := c12
      replace d12 : f24 4000 ([(ByteArray.empty, (0 : Int)), (x, (1 : Int)), (y, (1 : Int))], [((1 : Int), ((0 : Int), (0 : Int), (0 : Int), (0 : Int), [], []), (0 : Int), [], ByteArray.empty, (0 : Int), (0 : Int)), nText s]) ([(ByteArray.empty, (0 : Int)), (x, (1 : Int)), (y, (2 : Int))], [((1 : Int), ((0 : Int), (0 : Int), (0 : Int), (0 : Int), [], []), (0 : Int), [], ByteArray.empty, (0 : Int), (0 : Int)), nText s, nText s]) = _ := d12
      replace d21 : f24 4000 ([(ByteArray.empty, (0 : Int)), (x, (1 : Int)), (y, (2 : Int))], [((1 : Int), ((0 : Int), (0 : Int), (0 : Int), (0 : Int), [], []), (0 : Int), [], ByteArray.empty, (0 : Int), (0 : Int)), nText s, nText s]) ([(ByteArray.empty, (0 : Int)), (x, (1 : Int)), (y, (1 : Int))], [((1 : Int), ((0 : Int), (0 : Int), (0 : Int), (0 : Int), [], []), (0 : Int), [], ByteArray.empty, (0 : Int), (0 : Int)), nText s]) = _ := d21
      replace e12 : f22 4000 ([(ByteArray.empty, (0 : Int)), (x, (1 : Int)), (y, (1 : Int))], [((1 : Int), ((0 : Int), (0 : Int), (0 : Int), (0 : Int), [], []), (0 : Int), [], ByteArray.empty, (0 : Int), (0 : Int)), nText s]) ([(ByteArray.empty, (0 : Int)), (x, (1 : Int)), (y, (2 : Int))], [((1 : Int), ((0 : Int), (0 : Int), (0 : Int), (0 : Int), [], []), (0 : Int), [], ByteArray.empty, (0 : Int), (0 : Int)), nText s, nText s]) = _ := e12
      dsimp only
      rw [c20, c11, c22, c12, d12, d21, e12]
      simp only [Option.bind_some, cond_true, beq_self_eq_true, Bool.not_false, toList_L, l1, l2, l0, pw b1 b2 a1 a2]
    · rw [show decide (((s.size : Nat) : Int) > 50) = true from decide_eq_true (by omega)]
      rfl
theorem IsoLinksH (s : ByteArray) (p q : Int) (h0 : s.size ≤ 140737488351232) (h1 : (Lit.int .i64 p).wf = true) (h2 : (Lit.int .i64 q).wf = true) : ∃ k, f7 k s p q = some true := IsoLinks s p q
end Go.Proofs.YteiefdnhngfojaaGreatDoor.P
