/-
  Which trees may be: the program's function and the document's give the same answer. Which trees may be: one step of the program's loop. Which trees may be: one step of the document's loop; its end. Which trees may be: the program's function and the document's give the same answer. What is unlike in two nodes: the program's function and the document's give the same answer. Which paths are in one tree alone, and whose nodes are unlike: the program's functions and the document's give the same answers. The paths of one node that another tree has, too: the program's lists of them. Which paths are linked otherwise, and whether two trees are one: the program's functions and the document's give the same answers. What the law's own examples come to. The law IsoAsks, of no program: whatever the two trees, it comes to true.
-/
import Derived.Test.YteiefdnhngfojaaGreatDoorPuA
set_option linter.unusedVariables false
set_option linter.unusedSimpArgs false
namespace Go.Proofs.YteiefdnhngfojaaGreatDoor.P
open Go Go.Proofs.YteiefdnhngfojaaGreatDoor.Vm Go.Proofs.YteiefdnhngfojaaGreatDoor.VmI Go.Proofs.YteiefdnhngfojaaGreatDoor.Tr Go.Proofs.YteiefdnhngfojaaGreatDoor.Sp

/-- A loop whose steps may fail: it comes to true just if no step fails and the end is well. -/
theorem walk_at {F : Nat → Nat → Option Bool} {St : Nat → Prop} {Z : Prop} {len : Nat} (h1 : ∀ i n, n < len → (∀ j, j < n → St j) → ∃ ok : Bool, F (i + 1) n = (bif ok then F i (n + 1) else some false) ∧ (ok = true ↔ St n))
    (h2 : ∀ i, (∀ j, j < len → St j) → ∃ b, F (i + 1) len = some b ∧ (b = true ↔ Z)) : ∀ d n i, n + d = len → d < i → (∀ j, j < n → St j) → ∃ b, F i n = some b ∧ (b = true ↔ (∀ j, n ≤ j → j < len → St j) ∧ Z)
  | 0, n, i, hn, hi, hp => by
    obtain ⟨j, rfl, _⟩ := one_more hi
    obtain rfl : n = len := by omega
    obtain ⟨b, e, hb⟩ := h2 j hp
    exact ⟨b, e, hb.trans ⟨fun h => ⟨fun i h1 h2 => absurd h1 (by omega), h⟩, fun h => h.2⟩⟩
  | d + 1, n, i, hn, hi, hp => by
    obtain ⟨j, rfl, hj⟩ := one_more hi
    obtain ⟨ok, e, hs⟩ := h1 j n (by omega) hp
    cases ok with
    | true =>
      have hs := hs.1 rfl
      obtain ⟨b, e2, hb⟩ := walk_at h1 h2 d (n + 1) j (by omega) (by omega) (fun i hi => by
        by_cases e : i = n
        · rw [e]; exact hs
        · exact hp i (by omega))
      refine ⟨b, e.trans e2, hb.trans ⟨fun h => ⟨fun i h1 h2 => ?_, h.2⟩, fun h => ⟨fun i h1 h2 => h.1 i (by omega) h2, h.2⟩⟩⟩
      by_cases e : i = n
      · rw [e]; exact hs
      · exact h.1 i (by omega) h2
    | false => exact ⟨false, e, fun h => absurd h (by simp), fun h => absurd (hs.2 (h.1 n (Nat.le_refl _) (by omega))) (by simp)⟩

/-- The node of an entry. -/
def nd (E : List Y45) (i : Nat) : Int := (List.getD E i (ByteArray.empty, 0)).2
theorem nd_at {E : List Y45} {i : Nat} (h : i < E.length) : nd E i = E[i].2 := by
  unfold nd
  rw [List.getD_eq_getElem?_getD, List.getElem?_eq_getElem h]; rfl
/-- Is a node a directory? -/
def dirN (N : List Y41) (c : Int) : Bool := (List.getD N c.toNat (Ty.z t41)).1 == 1
/-- How many nodes the first entries have. -/
def next (E : List Y45) : Nat → Nat
  | 0 => 0
  | n + 1 => if nd E n = (next E n : Int) then next E n + 1 else next E n
/-- How many of the first entries have a node. -/
def cnt (E : List Y45) (c : Int) : Nat → Nat
  | 0 => 0
  | n + 1 => if nd E n = c then cnt E c n + 1 else cnt E c n
theorem cnt_succ (E : List Y45) (c : Int) (n : Nat) : cnt E c (n + 1) = if nd E n = c then cnt E c n + 1 else cnt E c n := rfl
theorem next_succ (E : List Y45) (n : Nat) : next E (n + 1) = if nd E n = (next E n : Int) then next E n + 1 else next E n := rfl
theorem next_le (E : List Y45) : ∀ n, next E n ≤ n
  | 0 => Nat.le_refl _
  | n + 1 => by have := next_le E n; unfold next; split <;> omega
theorem cnt_le (E : List Y45) (c : Int) : ∀ n, cnt E c n ≤ n
  | 0 => Nat.le_refl _
  | n + 1 => by have := cnt_le E c n; unfold cnt; split <;> omega
theorem cnt_mono (E : List Y45) (c : Int) {n m : Nat} (h : n ≤ m) : cnt E c n ≤ cnt E c m := by
  induction m with
  | zero => obtain rfl : n = 0 := by omega
            exact Nat.le_refl _
  | succ m ih =>
    by_cases e : n = m + 1
    · rw [e]; exact Nat.le_refl _
    · have := ih (by omega)
      rw [cnt_succ]
      split <;> omega
/-- The counts of all nodes. -/
def uses (E : List Y45) (m : Nat) (n : Nat) : List Int := (List.range m).map fun (j : Nat) => ((cnt E (j : Int) n : Nat) : Int)
theorem uses_len (E : List Y45) (m n : Nat) : (uses E m n).length = m := by simp [uses]
theorem uses_at (E : List Y45) (m n : Nat) {j : Nat} (h : j < m) (d : Int) : List.getD (uses E m n) j d = ((cnt E (j : Int) n : Nat) : Int) := by
  unfold uses
  rw [List.getD_eq_getElem?_getD, List.getElem?_map, List.getElem?_range h]; rfl
theorem uses_zero (E : List Y45) (m : Nat) : List.replicate m (Ty.z (Ty.int IntKind.i64)) = uses E m 0 := by
  apply List.ext_getElem?
  intro i
  unfold uses
  by_cases h : i < m
  · rw [List.getElem?_replicate, if_pos h, List.getElem?_map, List.getElem?_range h]; rfl
  · rw [List.getElem?_replicate, if_neg h, List.getElem?_map, List.getElem?_eq_none (by simp; omega)]; rfl
theorem uses_step (E : List Y45) (m n : Nat) {c : Nat} (hc : nd E n = (c : Int)) (h : c < m) (hn : n < 1000) (d : Int) : List.set (uses E m n) c (IntKind.wrap IntKind.i64 (List.getD (uses E m n) c d + 1)) = uses E m (n + 1) := by
  have hle := cnt_le E (c : Int) n
  rw [uses_at E m n h, wS (by omega)]
  apply List.ext_getElem?
  intro i
  rw [List.getElem?_set]
  by_cases hi : c = i
  · subst hi
    rw [if_pos rfl, if_pos (by rw [uses_len]; exact h)]
    unfold uses
    rw [List.getElem?_map, List.getElem?_range h, Option.map_some, cnt_succ, if_pos hc]
  · rw [if_neg hi]
    unfold uses
    by_cases h2 : i < m
    · rw [List.getElem?_map, List.getElem?_map, List.getElem?_range h2, Option.map_some, Option.map_some, cnt_succ E (i : Int), if_neg (by rw [hc]; omega)]
    · rw [List.getElem?_eq_none (by simp; omega), List.getElem?_eq_none (by simp; omega)]

/-! ### An entry stands in a directory -/
def Held (E : List Y45) (N : List Y41) (n : Nat) : Prop := if hasParent (P E n) = true then ∃ j, j < n ∧ P E j = parentB (P E n) ∧ dirN N (nd E j) = true else n = 0
def Nodes (E : List Y45) (N : List Y41) (n : Nat) : Prop := ∀ j, j < n → 0 ≤ nd E j ∧ nd E j < (N.length : Int)
theorem inI {x : Int} {n : Nat} (h1 : 0 ≤ x) (h2 : x < (n : Int)) : decide ((0 : Int) ≤ x ∧ x < (n : Int)) = true := decide_eq_true ⟨h1, h2⟩
theorem f99_at {k : Nat} (hk : 1200 ≤ k) (E : List Y45) (N : List Y41) (hs : ∀ e ∈ E, e.1.size ≤ 1000) (hE : E.length ≤ 900) (n : Nat) (hn : n < E.length) (hu : Up E n) (hnd : Nodes E N n) : ∃ b, f99 k (E, N) (n : Int) = some b ∧ (b = true ↔ Held E N n) := by
  obtain ⟨k, rfl, h⟩ := one_more hk
  obtain ⟨k, rfl, h⟩ := one_more (show 1198 < k by omega)
  have hsz := hs _ (List.getElem_mem hn)
  have hpz : (mkB (parentB (P E n))).size ≤ 1000 := by
    rw [size_mkB]
    have : (parentB (P E n)).length ≤ 100 := by
      unfold parentB
      rw [List.dropLast_eq_take]
      exact ((parts_ok _).take _).long
    omega
  rw [f99_eq, inR hn, cond_true, at_ hn, f94_at (by omega) hsz, Option.bind_some, Held]
  rw [P_at hn] at hpz ⊢
  cases hp : hasParent (L E[n].1) with
  | false =>
    refine ⟨_, rfl, ?_⟩
    rw [if_neg (by simp), beq_iff_eq]
    omega
  | true =>
    rw [if_pos rfl]
    have ht : List.take (Int.toNat ((n : Int) - 0)) (List.drop 0 E) = E.take n := by rw [Int.sub_zero, Int.toNat_natCast, List.drop_zero]
    have hlen : (E.take n).length = n := by rw [List.length_take]; omega
    simp only [Bool.not_true, cond_false]
    rw [decide_eq_true (by omega), cond_true, ht, f133_134_eq, hlen]
    obtain ⟨x, b, he, h1, h2⟩ := search_at k (by omega) E hs (mkB (parentB (L E[n].1))) hpz n (by omega) (by omega) hu n 0 n k (by omega) (by omega) (Nat.le_refl _) (by omega) (fun j hj => absurd hj (by omega)) (fun j h1 h2 => absurd h1 (by omega))
    rw [z0] at he
    rw [he, Option.bind_some]
    rw [L_mkB] at h1 h2
    cases b with
    | false =>
      refine ⟨false, rfl, fun h => absurd h (by simp), ?_⟩
      rintro ⟨j, hj, e, _⟩
      exact absurd (by rw [e, cmpP_refl]) (h2 rfl j hj)
    | true =>
      obtain ⟨hx, hz⟩ := h1 rfl
      have hxe : P E x = parentB (L E[n].1) := cmpP_zero (hu.may x hx) (parent_may _) hz
      obtain ⟨g1, g2⟩ := hnd x hx
      rw [nd_at (by omega)] at g1 g2
      rw [cond_true, inR (by omega), cond_true, at_ (show x < E.length by omega), inI g1 g2, cond_true]
      refine ⟨_, rfl, ?_⟩
      have : ((List.getD N (Int.toNat E[x].2) (Ty.z t41)).1 == 1) = dirN N (nd E x) := by rw [nd_at (by omega)]; rfl
      rw [this]
      constructor
      · intro h; exact ⟨x, hx, hxe, h⟩
      · rintro ⟨j, hj, e, hd⟩
        have : j = x := hu.inj hj hx (by rw [e, hxe])
        rw [← this]; exact hd
end Go.Proofs.YteiefdnhngfojaaGreatDoor.P
set_option linter.unusedVariables false
set_option linter.unusedSimpArgs false
set_option maxHeartbeats 4000000
namespace Go.Proofs.YteiefdnhngfojaaGreatDoor.P
open Go Go.Proofs.YteiefdnhngfojaaGreatDoor.Vm Go.Proofs.YteiefdnhngfojaaGreatDoor.VmI Go.Proofs.YteiefdnhngfojaaGreatDoor.Tr Go.Proofs.YteiefdnhngfojaaGreatDoor.Sp

/-- What one entry must be for the program. -/
def StepT (E : List Y45) (N : List Y41) (n : Nat) : Prop :=
  mayB (P E n) = true ∧ (n = 0 ↔ P E n = []) ∧ (0 < n → cmpP (P E (n - 1)) (P E n) < 0) ∧ (0 ≤ nd E n ∧ nd E n ≤ (next E n : Int) ∧ nd E n < (N.length : Int)) ∧
    (dirN N (nd E n) = true → cnt E (nd E n) (n + 1) ≤ 1) ∧ (n = 0 → dirN N (nd E n) = true) ∧ Held E N n
theorem next_step (E : List Y45) (n : Nat) : next E (n + 1) = if nd E n = (next E n : Int) then next E n + 1 else next E n := rfl
theorem ge0F {x : Int} (h : 0 ≤ x) : decide (x < 0) = false := decide_eq_false (by omega)
theorem root_iff (E : List Y45) (n : Nat) : (((n : Int) == 0) == (P E n == [])) = true ↔ (n = 0 ↔ P E n = []) := by
  rw [beq_iff_eq, Bool.eq_iff_iff, beq_iff_eq, beq_iff_eq]
  constructor
  · intro h; rw [← h]; omega
  · intro h; rw [← h]; omega
theorem f48g0_step (k : Nat) (hk : 1200 ≤ k) (E : List Y45) (N : List Y41) (hs : ∀ e ∈ E, e.1.size ≤ 1000) (hE : E.length ≤ 900) (hN : N.length ≤ 900) (i n : Nat) (h : n < E.length) (hu : Up E n) (hnd : Nodes E N n) :
    ∃ ok : Bool, f48g0 k (i + 1) (next E n : Int) (n : Int) E N (uses E N.length n) = (bif ok then f48g0 k i (next E (n + 1) : Int) ((n + 1 : Nat) : Int) E N (uses E N.length (n + 1)) else some false) ∧ (ok = true ↔ StepT E N n) := by
  have hsz := hs _ (List.getElem_mem h)
  have hP := P_at h
  have hD := nd_at h
  have hnx := next_le E n
  have ord : ∀ m (e : n = m + 1), f91 k (E[m]'(by omega)) E[n] = some (cmpP (P E m) (P E n)) := fun m e => by
    subst e
    rw [f91_at (by omega) (hs _ (List.getElem_mem _)) hsz, P_at, P_at]
  obtain ⟨y, hy, hyT⟩ := f99_at hk E N hs hE n h hu hnd
  have rt := root_iff E n
  have l0 : L ⟨#[]⟩ = [] := rfl
  by_cases hb : 0 ≤ nd E n ∧ nd E n ≤ (next E n : Int) ∧ nd E n < (N.length : Int)
  · obtain ⟨c, hc⟩ : ∃ c : Nat, nd E n = c := ⟨(nd E n).toNat, by omega⟩
    have hcN : c < N.length := by omega
    have hcn : c ≤ next E n := by omega
    have b2 : decide ((c : Int) > (next E n : Int)) = false := decide_eq_false (by omega)
    have b3 : decide ((c : Int) ≥ (N.length : Int)) = false := decide_eq_false (by omega)
    have b4 : Nat.ble 1 (Ty.size (Ty.int IntKind.i64)) = true := rfl
    have hd : ((List.getD N c (Ty.z t41)).1 == 1) = dirN N (c : Int) := rfl
    have hz0 : (((0 : Nat) : Int) == 0) = true := rfl
    have hX : f48g0 k i (next E (n + 1) : Int) ((n + 1 : Nat) : Int) E N (uses E N.length (n + 1)) = bif (c : Int) == (next E n : Int) then f48g0 k i ((next E n + 1 : Nat) : Int) ((n + 1 : Nat) : Int) E N (uses E N.length (n + 1)) else f48g0 k i (next E n : Int) ((n + 1 : Nat) : Int) E N (uses E N.length (n + 1)) := by
      rw [next_step, hc]
      by_cases e : (c : Int) = (next E n : Int)
      · rw [if_pos e, beq_iff_eq.2 e]; rfl
      · rw [if_neg e, beq_eq_false_iff_ne.2 e]; rfl
    refine ⟨mayB (P E n) && ((((n : Int) == 0) == (P E n == [])) && ((decide (n = 0) || decide (cmpP (P E (n - 1)) (P E n) < 0)) && ((!dirN N (c : Int) || !decide ((cnt E (c : Int) (n + 1) : Int) > 1)) && ((!decide (n = 0) || dirN N (c : Int)) && y)))), ?_, ?_⟩
    · rw [hX, f48g0_eq, eqF (by omega), cond_false, inR h, cond_true, at_ h, f98_at (by omega) hsz, Option.bind_some, hy, str_beq, l0, ← hD, hc, ← hP]
      simp only [ge0F (Int.natCast_nonneg c), b2, b3, b4, uses_len, inR hcN, Int.toNat_natCast, decide_eq_true hcN, Bool.and_true, uses_step E N.length n hc hcN (show n < 1000 by omega), uses_at E N.length (n + 1) hcN, wS (show n < 9223372036854775807 by omega), wS (show next E n < 9223372036854775807 by omega), cond_true, cond_false, hd, Option.bind_some]
      generalize f48g0 k i ((next E n + 1 : Nat) : Int) ((n + 1 : Nat) : Int) E N (uses E N.length (n + 1)) = X1
      generalize f48g0 k i (next E n : Int) ((n + 1 : Nat) : Int) E N (uses E N.length (n + 1)) = X2
      cases n with
      | zero =>
        simp only [gt0, hz0, cond_false, cond_true, decide_true, Bool.true_or, Bool.not_true, Bool.false_or, Bool.true_and]
        generalize mayB (P E 0) = a1; generalize (P E 0 == []) = a2; generalize dirN N (c : Int) = a3; generalize decide ((cnt E (c : Int) (0 + 1) : Int) > 1) = a4; generalize ((c : Int) == (next E 0 : Int)) = a5
        cases a1 <;> cases a2 <;> cases a3 <;> cases a4 <;> cases a5 <;> cases y <;> rfl
      | succ m =>
        have hne : decide (m + 1 = 0) = false := rfl
        have hz : (((m + 1 : Nat) : Int) == 0) = false := beq_eq_false_iff_ne.2 (by omega)
        have hge : decide (cmpP (P E m) (P E (m + 1)) ≥ 0) = !decide (cmpP (P E m) (P E (m + 1)) < 0) := by
          by_cases q : cmpP (P E m) (P E (m + 1)) < 0
          · rw [decide_eq_true q, decide_eq_false (by omega)]; rfl
          · rw [decide_eq_false q, decide_eq_true (by omega)]; rfl
        have hgm := at_ (l := E) (n := m) (d := Ty.z t45) (by omega)
        rw [Int.toNat_natCast] at hgm
        simp only [gtZ, wPs m (by omega), inR (show m < E.length by omega), Int.toNat_natCast, hgm, ord m rfl, Option.bind_some, hge, hz, hne, cond_false, cond_true, Bool.not_false, Bool.true_or, Bool.true_and, Bool.false_or, Nat.add_sub_cancel]
        generalize mayB (P E (m + 1)) = a1; generalize (P E (m + 1) == []) = a2; generalize dirN N (c : Int) = a3; generalize decide ((cnt E (c : Int) (m + 1 + 1) : Int) > 1) = a4; generalize ((c : Int) == (next E (m + 1) : Int)) = a5; generalize decide (cmpP (P E m) (P E (m + 1)) < 0) = a6
        cases a1 <;> cases a2 <;> cases a3 <;> cases a4 <;> cases a5 <;> cases a6 <;> cases y <;> rfl
    · unfold StepT
      rw [hc]
      simp only [Bool.and_eq_true, Bool.or_eq_true, decide_eq_true_eq, Bool.not_eq_true', decide_eq_false_iff_not, rt, hyT, beq_iff_eq]
      rw [hc] at hb
      constructor
      · rintro ⟨h1, h2, h3, h4, h5, h6⟩
        refine ⟨h1, h2, fun q => by omega, hb, fun q => ?_, fun q => ?_, h6⟩
        · rcases h4 with h4 | h4
          · rw [h4] at q; exact absurd q (by simp)
          · omega
        · rcases h5 with h5 | h5
          · exact absurd q h5
          · exact h5
      · rintro ⟨h1, h2, h3, _, h5, h6, h7⟩
        refine ⟨h1, h2, by omega, ?_, ?_, h7⟩
        · cases hq : dirN N (c : Int) with
          | false => exact .inl rfl
          | true => have := h5 hq; right; omega
        · by_cases q : n = 0
          · exact .inr (h6 q)
          · exact .inl q
  · refine ⟨false, ?_, fun h => absurd h (by simp), fun h => absurd h.2.2.2.1 hb⟩
    rw [f48g0_eq, eqF (by omega), cond_false, inR h, cond_true, at_ h, f98_at (by omega) hsz, Option.bind_some, str_beq, l0, ← hD, ← hP, cond_false]
    have tail : ∀ T : Option Bool, (bif decide (nd E n < 0) then some false else bif decide (nd E n > (next E n : Int)) then some false else bif decide (nd E n ≥ (N.length : Int)) then some false else T) = some false := fun T => by
      by_cases q1 : nd E n < 0
      · rw [decide_eq_true q1]; rfl
      · by_cases q2 : nd E n > (next E n : Int)
        · rw [decide_eq_false q1, decide_eq_true q2]; rfl
        · rw [decide_eq_false q1, decide_eq_false q2, decide_eq_true (show nd E n ≥ (N.length : Int) by omega)]; rfl
    rw [tail]
    cases n with
    | zero =>
      rw [gt0, cond_false]
      cases mayB (P E 0) <;> cases ((((0 : Nat) : Int) == 0) == (P E 0 == [])) <;> rfl
    | succ m =>
      have hgm := at_ (l := E) (n := m) (d := Ty.z t45) (by omega)
      rw [gtZ, cond_true, wPs m (by omega), inR (by omega), cond_true, hgm, ord m rfl, Option.bind_some]
      cases mayB (P E (m + 1)) <;> cases ((((m + 1 : Nat) : Int) == 0) == (P E (m + 1) == [])) <;> cases decide (cmpP (P E m) (P E (m + 1)) ≥ 0) <;> rfl
end Go.Proofs.YteiefdnhngfojaaGreatDoor.P
set_option linter.unusedVariables false
set_option linter.unusedSimpArgs false
set_option maxHeartbeats 4000000
namespace Go.Proofs.YteiefdnhngfojaaGreatDoor.P
open Go Go.Proofs.YteiefdnhngfojaaGreatDoor.Vm Go.Proofs.YteiefdnhngfojaaGreatDoor.VmI Go.Proofs.YteiefdnhngfojaaGreatDoor.Tr Go.Proofs.YteiefdnhngfojaaGreatDoor.Sp

/-- A node is there, and is a directory. -/
def DirAt (N : List Y41) (f : Int × Bool) : Bool := f.2 && (!decide (f.1 < 0) && (!decide (f.1 ≥ (N.length : Int)) && dirN N f.1))
theorem DirAt_iff (N : List Y41) (f : Int × Bool) : DirAt N f = true ↔ f.2 = true ∧ 0 ≤ f.1 ∧ f.1 < (N.length : Int) ∧ dirN N f.1 = true := by
  unfold DirAt
  simp only [Bool.and_eq_true, Bool.not_eq_true', decide_eq_false_iff_not]
  constructor
  · rintro ⟨h1, h2, h3, h4⟩; exact ⟨h1, by omega, by omega, h4⟩
  · rintro ⟨h1, h2, h3, h4⟩; exact ⟨h1, by omega, by omega, h4⟩
theorem par_tree (f : Int × Bool) (N : List Y41) (X : Option Bool) :
    (bif !f.2 then some false else bif decide (f.1 < 0) then some false else bif decide (f.1 ≥ (N.length : Int)) then some false else bif decide ((0 : Int) ≤ f.1 ∧ f.1 < (N.length : Int)) then (bif (List.getD N (Int.toNat f.1) (Ty.z t41)).1 != 1 then some false else X) else none) = bif DirAt N f then X else some false := by
  unfold DirAt
  have hd : ((List.getD N (Int.toNat f.1) (Ty.z t41)).1 != 1) = !dirN N f.1 := rfl
  rw [hd]
  cases f.2 with
  | false => rfl
  | true =>
    by_cases h1 : f.1 < 0
    · rw [decide_eq_true h1]; rfl
    · by_cases h2 : f.1 ≥ (N.length : Int)
      · rw [decide_eq_false h1, decide_eq_true h2]; rfl
      · rw [decide_eq_false h1, decide_eq_false h2, inI (by omega) (by omega)]
        cases dirN N f.1 <;> rfl
/-- What one entry must be for the document. -/
def StepM (E : List Y45) (N : List Y41) (n : Nat) : Prop :=
  mayB (P E n) = true ∧ (0 < n → cmpP (P E (n - 1)) (P E n) < 0) ∧ (0 ≤ nd E n ∧ nd E n ≤ (next E n : Int) ∧ nd E n < (N.length : Int)) ∧
    (hasParent (P E n) = true → DirAt N (findE E (parentB (P E n))) = true)
theorem f42l0_step (k : Nat) (hk : 1200 ≤ k) (E : List Y45) (N : List Y41) (hs : ∀ e ∈ E, e.1.size ≤ 1000) (hE : E.length ≤ 900) (hN : N.length ≤ 900) (i n : Nat) (h : n < E.length) :
    ∃ ok : Bool, f42l0 k (i + 1) (next E n : Int) (n : Int) E N (uses E N.length n) = (bif ok then f42l0 k i (next E (n + 1) : Int) ((n + 1 : Nat) : Int) E N (uses E N.length (n + 1)) else some false) ∧ (ok = true ↔ StepM E N n) := by
  have hsz := hs _ (List.getElem_mem h)
  have hP := P_at h
  have hD := nd_at h
  have hnx := next_le E n
  have ord : ∀ m (e : n = m + 1), f59 k (E[m]'(by omega)).1 E[n].1 = some (decide (cmpP (P E m) (P E n) < 0)) := fun m e => by
    subst e
    rw [f59_at (by omega) (hs _ (List.getElem_mem _)) hsz, P_at, P_at]; rfl
  have pz : (mkB (parentB (P E n))).size ≤ 1000 := by
    rw [size_mkB]
    have : (parentB (P E n)).length ≤ 100 := by
      unfold parentB
      rw [List.dropLast_eq_take]
      exact ((parts_ok _).take _).long
    omega
  have hpar := f40_at (show 1140 ≤ k by omega) hsz
  have hfind := f33_at (show 1000 ≤ k by omega) (E, N) hE (mkB (parentB (P E n)))
  rw [L_mkB] at hfind
  rw [← hP] at hpar
  by_cases hb : 0 ≤ nd E n ∧ nd E n ≤ (next E n : Int) ∧ nd E n < (N.length : Int)
  · obtain ⟨c, hc⟩ : ∃ c : Nat, nd E n = c := ⟨(nd E n).toNat, by omega⟩
    have hcN : c < N.length := by omega
    have hcn : c ≤ next E n := by omega
    have b2 : decide ((c : Int) > (next E n : Int)) = false := decide_eq_false (by omega)
    have b3 : decide ((c : Int) ≥ (N.length : Int)) = false := decide_eq_false (by omega)
    have b4 : Nat.ble 1 (Ty.size (Ty.int IntKind.i64)) = true := rfl
    have hX : f42l0 k i (next E (n + 1) : Int) ((n + 1 : Nat) : Int) E N (uses E N.length (n + 1)) = bif (c : Int) == (next E n : Int) then f42l0 k i ((next E n + 1 : Nat) : Int) ((n + 1 : Nat) : Int) E N (uses E N.length (n + 1)) else f42l0 k i (next E n : Int) ((n + 1 : Nat) : Int) E N (uses E N.length (n + 1)) := by
      rw [next_step, hc]
      by_cases e : (c : Int) = (next E n : Int)
      · rw [if_pos e, beq_iff_eq.2 e]; rfl
      · rw [if_neg e, beq_eq_false_iff_ne.2 e]; rfl
    refine ⟨mayB (P E n) && ((decide (n = 0) || decide (cmpP (P E (n - 1)) (P E n) < 0)) && (!hasParent (P E n) || DirAt N (findE E (parentB (P E n))))), ?_, ?_⟩
    · rw [hX, f42l0_eq, ltT h, cond_true, inR h, cond_true, at_ h, f88_at (by omega) hsz, Option.bind_some, ← hD, hc, hpar]
      simp only [ge0F (Int.natCast_nonneg c), b2, b3, b4, uses_len, inR hcN, Int.toNat_natCast, decide_eq_true hcN, Bool.and_true, uses_step E N.length n hc hcN (show n < 1000 by omega), wS (show n < 9223372036854775807 by omega), wS (show next E n < 9223372036854775807 by omega), cond_true, cond_false, Option.bind_some, hfind, par_tree]
      rw [← hP]
      generalize f42l0 k i ((next E n + 1 : Nat) : Int) ((n + 1 : Nat) : Int) E N (uses E N.length (n + 1)) = X1
      generalize f42l0 k i (next E n : Int) ((n + 1 : Nat) : Int) E N (uses E N.length (n + 1)) = X2
      cases n with
      | zero =>
        simp only [gt0, cond_false, decide_true, Bool.true_or, Bool.true_and]
        generalize mayB (P E 0) = a1; generalize hasParent (P E 0) = a2; generalize DirAt N (findE E (parentB (P E 0))) = a3; generalize ((c : Int) == (next E 0 : Int)) = a5
        cases a1 <;> cases a2 <;> cases a3 <;> cases a5 <;> rfl
      | succ m =>
        have hne : decide (m + 1 = 0) = false := rfl
        have hgm := at_ (l := E) (n := m) (d := Ty.z t45) (by omega)
        rw [Int.toNat_natCast] at hgm
        have ord' := ord m rfl
        simp only [gtZ, wPs m (by omega), inR (show m < E.length by omega), Int.toNat_natCast, hgm, ord', Option.bind_some, hne, cond_false, cond_true, Bool.false_or, Nat.add_sub_cancel]
        generalize mayB (P E (m + 1)) = a1; generalize hasParent (P E (m + 1)) = a2; generalize DirAt N (findE E (parentB (P E (m + 1)))) = a3; generalize ((c : Int) == (next E (m + 1) : Int)) = a5; generalize decide (cmpP (P E m) (P E (m + 1)) < 0) = a6
        cases a1 <;> cases a2 <;> cases a3 <;> cases a5 <;> cases a6 <;> rfl
    · unfold StepM
      simp only [Bool.and_eq_true, Bool.or_eq_true, decide_eq_true_eq, Bool.not_eq_true']
      constructor
      · rintro ⟨h1, h2, h3⟩
        refine ⟨h1, fun q => by omega, hb, fun q => ?_⟩
        rcases h3 with h3 | h3
        · rw [h3] at q; exact absurd q (by simp)
        · exact h3
      · rintro ⟨h1, h2, _, h3⟩
        refine ⟨h1, by omega, ?_⟩
        cases hq : hasParent (P E n) with
        | false => exact .inl rfl
        | true => exact .inr (h3 hq)
  · refine ⟨false, ?_, fun h => absurd h (by simp), fun h => absurd h.2.2.1 hb⟩
    rw [f42l0_eq, ltT h, cond_true, inR h, cond_true, at_ h, f88_at (by omega) hsz, Option.bind_some, ← hD, cond_false]
    have tail : ∀ T : Option Bool, (bif decide (nd E n < 0) then some false else bif decide (nd E n > (next E n : Int)) then some false else bif decide (nd E n ≥ (N.length : Int)) then some false else T) = some false := fun T => by
      by_cases q1 : nd E n < 0
      · rw [decide_eq_true q1]; rfl
      · by_cases q2 : nd E n > (next E n : Int)
        · rw [decide_eq_false q1, decide_eq_true q2]; rfl
        · rw [decide_eq_false q1, decide_eq_false q2, decide_eq_true (show nd E n ≥ (N.length : Int) by omega)]; rfl
    rw [tail]
    cases n with
    | zero =>
      rw [gt0, cond_false]
      cases mayB (L (E[0]'h).1) <;> rfl
    | succ m =>
      have hgm := at_ (l := E) (n := m) (d := Ty.z t45) (by omega)
      rw [gtZ, cond_true, wPs m (by omega), inR (by omega), cond_true, hgm, ord m rfl, Option.bind_some]
      cases mayB (L (E[m + 1]'h).1) <;> cases decide (cmpP (P E m) (P E (m + 1)) < 0) <;> rfl

/-- A node is well, and used as it may be. -/
def NodeM (E : List Y45) (N : List Y41) (j : Nat) : Prop := nodeB (List.getD N j (Ty.z t41)) = true ∧ cnt E (j : Int) E.length ≠ 0 ∧ (dirN N (j : Int) = true → cnt E (j : Int) E.length = 1)
theorem f42l1_step (k : Nat) (hk : 1200 ≤ k) (E : List Y45) (N : List Y41) (hN : N.length ≤ 900) (hn : ∀ x ∈ N, SmallN x) (i j : Nat) (h : j < N.length) :
    ∃ ok : Bool, f42l1 k (i + 1) (j : Int) E N (uses E N.length E.length) = (bif ok then f42l1 k i ((j + 1 : Nat) : Int) E N (uses E N.length E.length) else some false) ∧ (ok = true ↔ NodeM E N j) := by
  have hg := at_ (l := N) (n := j) (d := Ty.z t41) h
  rw [Int.toNat_natCast] at hg
  refine ⟨nodeB N[j] && (!((cnt E (j : Int) E.length : Int) == 0) && (!dirN N (j : Int) || ((cnt E (j : Int) E.length : Int) == 1))), ?_, ?_⟩
  · have hd : ((N[j]).1 == 1) = dirN N (j : Int) := by unfold dirN; rw [Int.toNat_natCast, hg]
    rw [f42l1_eq, ltT h, cond_true]
    simp only [inR h, uses_len, Int.toNat_natCast, hg, decide_eq_true h, uses_at E N.length E.length h, cond_true, f73_at (show 1100 ≤ k by omega) (hn _ (List.getElem_mem h)), Option.bind_some, hd, wS (show j < 9223372036854775807 by omega), bne]
    generalize nodeB N[j] = a1; generalize ((cnt E (j : Int) E.length : Int) == 0) = a2; generalize ((cnt E (j : Int) E.length : Int) == 1) = a3; generalize dirN N (j : Int) = a4
    cases a1 <;> cases a2 <;> cases a3 <;> cases a4 <;> rfl
  · unfold NodeM
    rw [hg]
    simp only [Bool.and_eq_true, Bool.or_eq_true, Bool.not_eq_true', beq_eq_false_iff_ne, beq_iff_eq]
    constructor
    · rintro ⟨h1, h2, h3⟩
      refine ⟨h1, by omega, fun q => ?_⟩
      rcases h3 with h3 | h3
      · rw [h3] at q; exact absurd q (by simp)
      · omega
    · rintro ⟨h1, h2, h3⟩
      refine ⟨h1, by omega, ?_⟩
      cases hq : dirN N (j : Int) with
      | false => exact .inl rfl
      | true => have := h3 hq; right; omega
/-- Which trees may be, as the document tells it. -/
def TreeM (E : List Y45) (N : List Y41) : Prop := 1 ≤ E.length ∧ E.length ≤ 100 ∧ P E 0 = [] ∧ (∀ n, n < E.length → StepM E N n) ∧ (∀ j, j < N.length → NodeM E N j) ∧ dirN N (nd E 0) = true
theorem f42_at {k : Nat} (hk : 2000 ≤ k) (E : List Y45) (N : List Y41) (hs : ∀ e ∈ E, e.1.size ≤ 1000) (hN : N.length ≤ 900) (hn : ∀ x ∈ N, SmallN x) : ∃ b, f42 k (E, N) = some b ∧ (b = true ↔ TreeM E N) := by
  obtain ⟨k, rfl, h⟩ := one_more hk
  rw [f42_eq]
  by_cases h1 : 1 ≤ E.length
  · by_cases h2 : E.length ≤ 100
    · have hP := P_at h1
      have hg := at_ (l := E) (n := 0) (d := Ty.z t45) h1
      have e1 : decide (((E.length : Nat) : Int) < 1) = false := decide_eq_false (by omega)
      have e2 : decide (((E.length : Nat) : Int) > 100) = false := decide_eq_false (by omega)
      have e3 : decide ((0 : Int) ≤ (0 : Int) ∧ (0 : Int) < ((E.length : Nat) : Int)) = true := decide_eq_true (by omega)
      have e4 : decide ((0 : Int) ≤ ((N.length : Nat) : Int) ∧ ((N.length : Nat) : Int) = ((N.length : Nat) : Int) ∧ ((N.length : Nat) : Int) * ((8 : Nat) : Int) ≤ 140737488355328 ∧ ((N.length : Nat) : Int) * ((1 : Nat) : Int) ≤ 16777216) = true := decide_eq_true (by omega)
      have l0 : L ⟨#[]⟩ = [] := rfl
      dsimp only
      rw [e1, e2, e3, e4, cond_false, cond_false, cond_true, str_beq, l0]
      have hg' : List.getD E 0 (Ty.z t45) = E[0] := hg
      rw [hg', ← hP, Bool.true_and, cond_true, Int.toNat_natCast, uses_zero E N.length]
      cases hr : (P E 0 == []) with
      | false =>
        refine ⟨false, rfl, fun h => absurd h (by simp), fun h => ?_⟩
        rw [h.2.2.1] at hr
        exact absurd hr (by decide)
      | true =>
        have hr' := eq_of_beq hr
        have hend : ∀ i, (∀ j, j < E.length → StepM E N j) → ∃ b, f42l0 k (i + 1) (next E E.length : Int) (E.length : Int) E N (uses E N.length E.length) = some b ∧ (b = true ↔ (∀ j, j < N.length → NodeM E N j) ∧ dirN N (nd E 0) = true) := fun i hst => by
          rw [f42l0_eq, ltF (Nat.lt_irrefl _), cond_false]
          have hend2 : ∀ i, (∀ j, j < N.length → NodeM E N j) → ∃ b, f42l1 k (i + 1) (N.length : Int) E N (uses E N.length E.length) = some b ∧ (b = true ↔ dirN N (nd E 0) = true) := fun i _ => by
            have hb := (hst 0 h1).2.2.1
            rw [f42l1_eq, ltF (Nat.lt_irrefl _), cond_false, e3, cond_true, hg', ← nd_at h1, inI hb.1 hb.2.2, cond_true]
            exact ⟨_, rfl, Iff.rfl⟩
          obtain ⟨b, hb, hbt⟩ := walk_at (F := fun i n => f42l1 k i (n : Int) E N (uses E N.length E.length)) (fun i n hlt _ => f42l1_step k (by omega) E N hN hn i n hlt) hend2 N.length 0 k (by omega) (by omega) (fun j hj => absurd hj (by omega))
          exact ⟨b, hb, hbt.trans ⟨fun h => ⟨fun j hj => h.1 j (by omega) hj, h.2⟩, fun h => ⟨fun j _ hj => h.1 j hj, h.2⟩⟩⟩
        obtain ⟨b, hb, hbt⟩ := walk_at (F := fun i n => f42l0 k i (next E n : Int) (n : Int) E N (uses E N.length n)) (fun i n hlt _ => f42l0_step k (by omega) E N hs (by omega) hN i n hlt) hend E.length 0 k (by omega) (by omega) (fun j hj => absurd hj (by omega))
        refine ⟨b, hb, hbt.trans ⟨fun h => ⟨h1, h2, hr', fun n hn => h.1 n (by omega) hn, h.2.1, h.2.2⟩, fun h => ⟨fun n _ hn => h.2.2.2.1 n hn, h.2.2.2.2⟩⟩⟩
    · have e1 : decide (((E.length : Nat) : Int) < 1) = false := decide_eq_false (by omega)
      have e2 : decide (((E.length : Nat) : Int) > 100) = true := decide_eq_true (by omega)
      dsimp only
      rw [e1, e2]
      exact ⟨false, rfl, fun h => absurd h (by simp), fun h => absurd h.2.1 h2⟩
  · have e1 : decide (((E.length : Nat) : Int) < 1) = true := decide_eq_true (by omega)
    dsimp only
    rw [e1]
    exact ⟨false, rfl, fun h => absurd h (by simp), fun h => absurd h.1 h1⟩
end Go.Proofs.YteiefdnhngfojaaGreatDoor.P
set_option linter.unusedVariables false
set_option linter.unusedSimpArgs false
set_option maxHeartbeats 4000000
namespace Go.Proofs.YteiefdnhngfojaaGreatDoor.P
open Go Go.Proofs.YteiefdnhngfojaaGreatDoor.Vm Go.Proofs.YteiefdnhngfojaaGreatDoor.VmI Go.Proofs.YteiefdnhngfojaaGreatDoor.Tr Go.Proofs.YteiefdnhngfojaaGreatDoor.Sp

theorem f96_at {k : Nat} (hk : 1110 ≤ k) {n : Y41} (hn : SmallN n) : f96 k n = some (!nodeB n) := by
  obtain ⟨k, rfl, _⟩ := one_more hk
  rw [f96_eq, f97_at (by omega) hn]; rfl
theorem f126_96l0_at (k : Nat) (hk : 1110 ≤ k) (N : List Y41) (hN : N.length ≤ 900) (hn : ∀ x ∈ N, SmallN x) : ∀ d n i, n + d = N.length → d < i → ∃ x, f126_96l0 k i N (N.length : Int) (n : Int) = some x ∧ decide (x ≥ 0) = !(N.drop n).all nodeB
  | 0, n, i, hn', hi => by
    obtain ⟨j, rfl, _⟩ := one_more hi
    refine ⟨-1, ?_, ?_⟩
    · rw [f126_96l0_eq, ltF (by omega), cond_false]
    · rw [List.drop_of_length_le (by omega)]; rfl
  | d + 1, n, i, hn', hi => by
    obtain ⟨j, rfl, hj⟩ := one_more hi
    have h : n < N.length := by omega
    obtain ⟨x, h1, h2⟩ := f126_96l0_at k hk N hN hn d (n + 1) j (by omega) (by omega)
    rw [f126_96l0_eq, ltT h, cond_true, inR h, cond_true, at_ h, f96_at hk (hn _ (List.getElem_mem h)), Option.bind_some, wS (by omega), drop_at h, List.all_cons, h1]
    cases nodeB N[n] with
    | true => exact ⟨x, rfl, by rw [h2]; rfl⟩
    | false => exact ⟨(n : Int), rfl, by rw [decide_eq_true (by omega)]; rfl⟩
theorem f95_96_at {k : Nat} (hk : 1120 ≤ k) (N : List Y41) (hN : N.length ≤ 900) (hn : ∀ x ∈ N, SmallN x) : f95_96 k N = some (!N.all nodeB) := by
  obtain ⟨k, rfl, h⟩ := one_more hk
  obtain ⟨k, rfl, h⟩ := one_more (show 1110 < k by omega)
  obtain ⟨x, h1, h2⟩ := f126_96l0_at k (by omega) N hN hn N.length 0 k (by omega) (by omega)
  rw [f95_96_eq, f126_96_eq]
  refine (congrArg (fun o => Option.bind o fun y0 => some (decide (y0 ≥ (0 : Int)))) h1).trans ?_
  exact congrArg some h2

/-- Which trees may be, as the program tells it. -/
def TreeT (E : List Y45) (N : List Y41) : Prop := 1 ≤ E.length ∧ E.length ≤ 100 ∧ (∀ n, n < E.length → StepT E N n) ∧ next E E.length = N.length ∧ N.all nodeB = true
theorem up_of {E : List Y45} {N : List Y41} {n : Nat} (h : ∀ j, j < n → StepT E N j) : Up E n ∧ Nodes E N n :=
  ⟨⟨fun i hi => (h i hi).1, fun i hi => (h (i + 1) hi).2.2.1 (by omega)⟩, fun j hj => ⟨(h j hj).2.2.2.1.1, (h j hj).2.2.2.1.2.2⟩⟩
theorem f48_go (k : Nat) (E : List Y45) (N : List Y41) (h1 : 1 ≤ E.length) (h2 : E.length ≤ 100) (hN : N.length ≤ 900) : f48 (k + 1) (E, N) = f48g0 k (k + 1) ((0 : Nat) : Int) ((0 : Nat) : Int) E N (List.replicate (Int.toNat ((N.length : Nat) : Int)) (Ty.z (Ty.int IntKind.i64))) := by
  have e1 : decide (((E.length : Nat) : Int) < 1) = false := decide_eq_false (by omega)
  have e2 : decide (((E.length : Nat) : Int) > 100) = false := decide_eq_false (by omega)
  have e4 : decide ((0 : Int) ≤ ((N.length : Nat) : Int) ∧ ((N.length : Nat) : Int) = ((N.length : Nat) : Int) ∧ ((N.length : Nat) : Int) * ((8 : Nat) : Int) ≤ 140737488355328 ∧ ((N.length : Nat) : Int) * ((1 : Nat) : Int) ≤ 16777216) = true := decide_eq_true (by omega)
  rw [f48_eq, f48g0_eq]
  dsimp only
  rw [e1, e2, e4, cond_false, cond_false, Bool.true_and, cond_true]
  rfl
theorem f48_at {k : Nat} (hk : 2000 ≤ k) (E : List Y45) (N : List Y41) (hs : ∀ e ∈ E, e.1.size ≤ 1000) (hN : N.length ≤ 900) (hn : ∀ x ∈ N, SmallN x) : ∃ b, f48 k (E, N) = some b ∧ (b = true ↔ TreeT E N) := by
  obtain ⟨k, rfl, h⟩ := one_more hk
  by_cases h1 : 1 ≤ E.length
  · by_cases h2 : E.length ≤ 100
    · rw [f48_go k E N h1 h2 hN, Int.toNat_natCast, uses_zero E N.length]
      have hend : ∀ i, (∀ j, j < E.length → StepT E N j) → ∃ b, f48g0 k (i + 1) (next E E.length : Int) (E.length : Int) E N (uses E N.length E.length) = some b ∧ (b = true ↔ next E E.length = N.length ∧ N.all nodeB = true) := fun i _ => by
        rw [f48g0_eq, eqT, cond_true, f95_96_at (by omega) N hN hn, Option.bind_some, Bool.not_not]
        by_cases e : next E E.length = N.length
        · rw [e, eqT, cond_true]
          exact ⟨_, rfl, ⟨fun h => ⟨rfl, h⟩, fun h => h.2⟩⟩
        · rw [eqF e, cond_false]
          exact ⟨false, rfl, fun h => absurd h (by simp), fun h => absurd h.1 e⟩
      obtain ⟨b, hb, hbt⟩ := walk_at (F := fun i n => f48g0 k i (next E n : Int) (n : Int) E N (uses E N.length n)) (fun i n hlt hp => f48g0_step k (by omega) E N hs (by omega) hN i n hlt (up_of hp).1 (up_of hp).2) hend E.length 0 (k + 1) (by omega) (by omega) (fun j hj => absurd hj (by omega))
      exact ⟨b, hb, hbt.trans ⟨fun h => ⟨h1, h2, fun n hn => h.1 n (by omega) hn, h.2.1, h.2.2⟩, fun h => ⟨fun n _ hn => h.2.2.1 n hn, h.2.2.2⟩⟩⟩
    · have e1 : decide (((E.length : Nat) : Int) < 1) = false := decide_eq_false (by omega)
      have e2 : decide (((E.length : Nat) : Int) > 100) = true := decide_eq_true (by omega)
      rw [f48_eq]
      dsimp only
      rw [e1, e2]
      exact ⟨false, rfl, fun h => absurd h (by simp), fun h => absurd h.2.1 h2⟩
  · have e1 : decide (((E.length : Nat) : Int) < 1) = true := decide_eq_true (by omega)
    rw [f48_eq]
    dsimp only
    rw [e1]
    exact ⟨false, rfl, fun h => absurd h (by simp), fun h => absurd h.1 h1⟩

/-! ### Both tell the same -/
theorem used_iff {E : List Y45} : ∀ (m : Nat), (∀ n, n < m → 0 ≤ nd E n ∧ nd E n ≤ (next E n : Int)) → ∀ j : Nat, cnt E (j : Int) m ≠ 0 ↔ j < next E m
  | 0, _, j => by simp [cnt, next]
  | m + 1, h, j => by
    have ih := used_iff m (fun n hn => h n (by omega)) j
    obtain ⟨h1, h2⟩ := h m (by omega)
    rw [cnt_succ, next_succ]
    by_cases e : nd E m = (next E m : Int)
    · rw [if_pos e]
      by_cases e2 : nd E m = (j : Int)
      · rw [if_pos e2]; omega
      · rw [if_neg e2]; omega
    · rw [if_neg e]
      by_cases e2 : nd E m = (j : Int)
      · rw [if_pos e2]; omega
      · rw [if_neg e2]; exact ih
theorem next_bound {E : List Y45} {c : Nat} : ∀ (m : Nat), (∀ n, n < m → nd E n < (c : Int)) → next E m ≤ c
  | 0, _ => Nat.zero_le _
  | m + 1, h => by
    have ih := next_bound (c := c) m (fun n hn => h n (by omega))
    have := h m (by omega)
    rw [next_succ]
    split <;> omega
theorem once {E : List Y45} {N : List Y41} {j : Nat} (hd : dirN N (j : Int) = true) : ∀ (m : Nat), (∀ n, n < m → dirN N (nd E n) = true → cnt E (nd E n) (n + 1) ≤ 1) → cnt E (j : Int) m ≤ 1
  | 0, _ => by simp [cnt]
  | m + 1, h => by
    by_cases e : nd E m = (j : Int)
    · have := h m (by omega) (by rw [e]; exact hd)
      rw [e] at this; exact this
    · rw [cnt_succ, if_neg e]
      exact once hd m (fun n hn => h n (by omega))
theorem no_parent {s : Bs} (hm : mayB s = true) (h : hasParent s = false) : s = [] := by
  unfold hasParent at h
  rw [← parts_nil hm]
  cases hp : parts s with
  | nil => rfl
  | cons a l => rw [hp] at h; exact absurd h (by simp)
theorem held_iff {E : List Y45} {N : List Y41} (hu : Up E E.length) (hb : Nodes E N E.length) {n : Nat} (hn : n < E.length) (hp : hasParent (P E n) = true) : (∃ j, j < n ∧ P E j = parentB (P E n) ∧ dirN N (nd E j) = true) ↔ DirAt N (findE E (parentB (P E n))) = true := by
  rw [DirAt_iff]
  constructor
  · rintro ⟨j, hj, e, hd⟩
    have hjl : j < E.length := by omega
    have hf := findE_at (p := parentB (P E n)) hjl (by rw [← P_at]; exact e) (fun i hi q => by
      rw [← P_at, ← e] at q
      have := hu.inj (by omega) hjl q
      omega)
    rw [hf, ← nd_at hjl]
    exact ⟨rfl, (hb j hjl).1, (hb j hjl).2, hd⟩
  · rintro ⟨h1, h2, h3, h4⟩
    obtain ⟨j, hj, e1, e2, _⟩ := findE_some (E := E) (p := parentB (P E n)) (x := (findE E (parentB (P E n))).1) (by rw [← h1])
    rw [← P_at hj] at e1
    rw [← nd_at hj] at e2
    have hl := parent_less hp
    rw [← e1] at hl
    refine ⟨j, ?_, e1, by rw [e2]; exact h4⟩
    rcases Nat.lt_trichotomy j n with h | h | h
    · exact h
    · rw [h, cmpP_refl] at hl; omega
    · have := cmpP_trans hl (hu.lt h hj)
      rw [cmpP_refl] at this; omega
theorem tree_iff (E : List Y45) (N : List Y41) : TreeT E N ↔ TreeM E N := by
  constructor
  · rintro ⟨h1, h2, hst, hx, hall⟩
    obtain ⟨hu, hb⟩ := up_of hst
    refine ⟨h1, h2, ((hst 0 h1).2.1).1 rfl, fun n hn => ?_, fun j hj => ⟨?_, ?_, fun hd => ?_⟩, (hst 0 h1).2.2.2.2.2.1 rfl⟩
    · obtain ⟨g1, g2, g3, g4, g5, g6, g7⟩ := hst n hn
      refine ⟨g1, g3, g4, fun hp => ?_⟩
      unfold Held at g7
      rw [if_pos hp] at g7
      exact (held_iff hu hb hn hp).1 g7
    · have hg := at_ (l := N) (n := j) (d := Ty.z t41) hj
      rw [Int.toNat_natCast] at hg
      rw [hg]
      exact List.all_eq_true.1 hall _ (List.getElem_mem hj)
    · rw [used_iff E.length (fun n hn => ⟨(hst n hn).2.2.2.1.1, (hst n hn).2.2.2.1.2.1⟩), hx]; exact hj
    · have g1 := once hd E.length (fun n hn => (hst n hn).2.2.2.2.1)
      have g2 := (used_iff E.length (fun n hn => ⟨(hst n hn).2.2.2.1.1, (hst n hn).2.2.2.1.2.1⟩) j).2 (by rw [hx]; exact hj)
      omega
  · rintro ⟨h1, h2, hr, hst, hnode, hd⟩
    have hu : Up E E.length := ⟨fun i hi => (hst i hi).1, fun i hi => (hst (i + 1) hi).2.1 (by omega)⟩
    have hb : Nodes E N E.length := fun j hj => ⟨(hst j hj).2.2.1.1, (hst j hj).2.2.1.2.2⟩
    have hub : ∀ n, n < E.length → 0 ≤ nd E n ∧ nd E n ≤ (next E n : Int) := fun n hn => ⟨(hst n hn).2.2.1.1, (hst n hn).2.2.1.2.1⟩
    have hroot : ∀ n, n < E.length → (n = 0 ↔ P E n = []) := fun n hn => ⟨fun e => by rw [e]; exact hr, fun e => by
      refine Classical.byContradiction fun h0 => ?_
      have := (hst n hn).2.1 (by omega)
      rw [e] at this
      exact cmpP_nil _ this⟩
    refine ⟨h1, h2, fun n hn => ?_, ?_, ?_⟩
    · obtain ⟨g1, g2, g3, g4⟩ := hst n hn
      refine ⟨g1, hroot n hn, g2, g3, fun hd' => ?_, fun e => by rw [e]; exact hd, ?_⟩
      · obtain ⟨c, hc⟩ : ∃ c : Nat, nd E n = c := ⟨(nd E n).toNat, by omega⟩
        rw [hc] at hd' ⊢
        have := (hnode c (by omega)).2.2 hd'
        have := cnt_mono E (c : Int) (show n + 1 ≤ E.length by omega)
        omega
      · unfold Held
        cases hp : hasParent (P E n) with
        | true => rw [if_pos rfl]; exact (held_iff hu hb hn hp).2 (g4 hp)
        | false => rw [if_neg (by simp)]; exact (hroot n hn).2 (no_parent g1 hp)
    · have g1 := next_bound (c := N.length) E.length (fun n hn => (hst n hn).2.2.1.2.2)
      refine Nat.le_antisymm g1 (Nat.le_of_not_lt fun hlt => ?_)
      exact Nat.lt_irrefl _ ((used_iff E.length hub (next E E.length)).1 (hnode _ hlt).2.1)
    · rw [List.all_eq_true]
      intro x hx
      obtain ⟨j, hj, rfl⟩ := List.mem_iff_getElem.1 hx
      have := (hnode j hj).1
      have hg := at_ (l := N) (n := j) (d := Ty.z t41) hj
      rw [Int.toNat_natCast] at hg
      rw [hg] at this; exact this
open Classical in
/-- May a tree be? -/
noncomputable def treeB (t : Y24) : Bool := decide (TreeT t.1 t.2)
open Classical in
theorem treeB_iff (t : Y24) : treeB t = true ↔ TreeT t.1 t.2 := by
  unfold treeB
  exact decide_eq_true_iff
/-- A tree of which there is not too much. -/
structure SmallT (t : Y24) : Prop where
  entries : t.1.length ≤ 30
  paths : ∀ e ∈ t.1, e.1.size ≤ 1000
  nodes : t.2.length ≤ 30
  node : ∀ x ∈ t.2, SmallN x
theorem may_at {k : Nat} (hk : 2000 ≤ k) {t : Y24} (ht : SmallT t) : f48 k t = some (treeB t) ∧ f42 k t = some (treeB t) := by
  obtain ⟨E, N⟩ := t
  have := ht.nodes
  obtain ⟨b, e, hb⟩ := f48_at hk E N ht.paths (by have := ht.nodes; dsimp only at this; omega) ht.node
  obtain ⟨c, e2, hc⟩ := f42_at hk E N ht.paths (by have := ht.nodes; dsimp only at this; omega) ht.node
  have h1 : b = treeB (E, N) := by
    rw [Bool.eq_iff_iff, hb, treeB_iff]
  have h2 : c = treeB (E, N) := by
    rw [Bool.eq_iff_iff, hc, treeB_iff, tree_iff]
  rw [e, e2, h1, h2]
  exact ⟨rfl, rfl⟩
end Go.Proofs.YteiefdnhngfojaaGreatDoor.P
set_option linter.unusedVariables false
set_option linter.unusedSimpArgs false
namespace Go.Proofs.YteiefdnhngfojaaGreatDoor.P
open Go Go.Proofs.YteiefdnhngfojaaGreatDoor.Vm Go.Proofs.YteiefdnhngfojaaGreatDoor.VmI Go.Proofs.YteiefdnhngfojaaGreatDoor.Tr Go.Proofs.YteiefdnhngfojaaGreatDoor.Sp

/-- Two lists are one, element by element. -/
def sameL {α : Type} (eq : α → α → Bool) : List α → List α → Bool
  | [], [] => true
  | x :: a, y :: b => eq x y && sameL eq a b
  | _, _ => false
theorem sameL_len {α : Type} {eq : α → α → Bool} : ∀ {a b : List α}, a.length ≠ b.length → sameL eq a b = false
  | [], [], h => absurd rfl h
  | [], _ :: _, _ => rfl
  | _ :: _, [], _ => rfl
  | x :: a, y :: b, h => by
    rw [sameL, sameL_len (a := a) (b := b) (fun e => h (by simp [e]))]
    simp
def eqA (a b : Y43) : Bool := ByteArray.toList a.1 == ByteArray.toList b.1 && (ByteArray.toList a.2 == ByteArray.toList b.2 && true)
def eqC (a b : Y83) : Bool := a.1 == b.1 && (a.2.1 == b.2.1 && (a.2.2 == b.2.2 && true))
def eqQ (a b : Y87) : Bool := a.1 == b.1 && (ByteArray.toList a.2 == ByteArray.toList b.2 && true)
theorem bneF {n m : Nat} (h : n = m) : (((n : Nat) : Int) != ((m : Nat) : Int)) = false := by simp [bne, h]
theorem bneT {n m : Nat} (h : n ≠ m) : (((n : Nat) : Int) != ((m : Nat) : Int)) = true := by rw [bne, eqF h]; rfl

theorem f135l0_at (k : Nat) (a b : List Y43) (hl : a.length = b.length) (ha : a.length ≤ 900) : ∀ d n i, n + d = a.length → d < i → f135l0 k i a b (a.length : Int) (n : Int) = some (sameL eqA (a.drop n) (b.drop n))
  | 0, n, i, hn, hi => by
    obtain ⟨j, rfl, _⟩ := one_more hi
    rw [f135l0_eq, ltF (by omega), cond_false, List.drop_of_length_le (by omega), List.drop_of_length_le (by omega)]; rfl
  | d + 1, n, i, hn, hi => by
    obtain ⟨j, rfl, hj⟩ := one_more hi
    have h : n < a.length := by omega
    have h2 : n < b.length := by omega
    rw [f135l0_eq, ltT h, cond_true, inR h, cond_true, inR h2, cond_true, at_ h, at_ h2, wS (by omega), f135l0_at k a b hl ha d (n + 1) j (by omega) (by omega), drop_at h, drop_at h2, sameL]
    unfold eqA
    generalize (ByteArray.toList a[n].1 == ByteArray.toList b[n].1 && (ByteArray.toList a[n].2 == ByteArray.toList b[n].2 && true)) = c
    cases c <;> rfl
theorem f135_at {k : Nat} (hk : 1000 ≤ k) (a b : List Y43) (ha : a.length ≤ 900) : f135 k a b = some (sameL eqA a b) := by
  obtain ⟨k, rfl, hk⟩ := one_more hk
  rw [f135_eq]
  by_cases h : a.length = b.length
  · rw [bneF h, cond_false]
    exact f135l0_at k a b h ha a.length 0 k (by omega) (by omega)
  · rw [bneT h, cond_true, sameL_len h]

theorem f137l0_at (k : Nat) (a b : List Y43) (hl : a.length = b.length) (ha : a.length ≤ 900) : ∀ d n i, n + d = a.length → d < i → f137l0 k i a b (n : Int) = some (sameL eqA (a.drop n) (b.drop n))
  | 0, n, i, hn, hi => by
    obtain ⟨j, rfl, _⟩ := one_more hi
    rw [f137l0_eq, ltF (by omega), cond_false, List.drop_of_length_le (by omega), List.drop_of_length_le (by omega)]; rfl
  | d + 1, n, i, hn, hi => by
    obtain ⟨j, rfl, hj⟩ := one_more hi
    have h : n < a.length := by omega
    have h2 : n < b.length := by omega
    rw [f137l0_eq, ltT h, cond_true, inR h, cond_true, inR h2, cond_true, at_ h, at_ h2, wS (by omega), f137l0_at k a b hl ha d (n + 1) j (by omega) (by omega), drop_at h, drop_at h2, sameL]
    unfold eqA
    generalize (ByteArray.toList a[n].1 == ByteArray.toList b[n].1 && (ByteArray.toList a[n].2 == ByteArray.toList b[n].2 && true)) = c
    cases c <;> rfl
theorem f137_at {k : Nat} (hk : 1000 ≤ k) (a b : List Y43) (ha : a.length ≤ 900) : f137 k a b = some (sameL eqA a b) := by
  obtain ⟨k, rfl, hk⟩ := one_more hk
  rw [f137_eq]
  by_cases h : a.length = b.length
  · rw [bneF h, cond_false]
    exact f137l0_at k a b h ha a.length 0 k (by omega) (by omega)
  · rw [bneT h, cond_true, sameL_len h]

theorem f163l0_at (k : Nat) (a b : List Y83) (hl : a.length = b.length) (ha : a.length ≤ 900) : ∀ d n i, n + d = a.length → d < i → f163l0 k i a b (a.length : Int) (n : Int) = some (sameL eqC (a.drop n) (b.drop n))
  | 0, n, i, hn, hi => by
    obtain ⟨j, rfl, _⟩ := one_more hi
    rw [f163l0_eq, ltF (by omega), cond_false, List.drop_of_length_le (by omega), List.drop_of_length_le (by omega)]; rfl
  | d + 1, n, i, hn, hi => by
    obtain ⟨j, rfl, hj⟩ := one_more hi
    have h : n < a.length := by omega
    have h2 : n < b.length := by omega
    rw [f163l0_eq, ltT h, cond_true, inR h, cond_true, inR h2, cond_true, at_ h, at_ h2, wS (by omega), f163l0_at k a b hl ha d (n + 1) j (by omega) (by omega), drop_at h, drop_at h2, sameL]
    unfold eqC
    generalize (a[n].1 == b[n].1 && (a[n].2.1 == b[n].2.1 && (a[n].2.2 == b[n].2.2 && true))) = c
    cases c <;> rfl
theorem f163_at {k : Nat} (hk : 1000 ≤ k) (a b : List Y83) (ha : a.length ≤ 900) : f163 k a b = some (sameL eqC a b) := by
  obtain ⟨k, rfl, hk⟩ := one_more hk
  rw [f163_eq]
  by_cases h : a.length = b.length
  · rw [bneF h, cond_false]
    exact f163l0_at k a b h ha a.length 0 k (by omega) (by omega)
  · rw [bneT h, cond_true, sameL_len h]

theorem f138l0_at (k : Nat) (a b : List Y83) (hl : a.length = b.length) (ha : a.length ≤ 900) : ∀ d n i, n + d = a.length → d < i → f138l0 k i a b (n : Int) = some (sameL eqC (a.drop n) (b.drop n))
  | 0, n, i, hn, hi => by
    obtain ⟨j, rfl, _⟩ := one_more hi
    rw [f138l0_eq, ltF (by omega), cond_false, List.drop_of_length_le (by omega), List.drop_of_length_le (by omega)]; rfl
  | d + 1, n, i, hn, hi => by
    obtain ⟨j, rfl, hj⟩ := one_more hi
    have h : n < a.length := by omega
    have h2 : n < b.length := by omega
    rw [f138l0_eq, ltT h, cond_true, inR h, cond_true, inR h2, cond_true, at_ h, at_ h2, wS (by omega), f138l0_at k a b hl ha d (n + 1) j (by omega) (by omega), drop_at h, drop_at h2, sameL]
    unfold eqC
    generalize (a[n].1 == b[n].1 && (a[n].2.1 == b[n].2.1 && (a[n].2.2 == b[n].2.2 && true))) = c
    cases c <;> rfl
theorem f138_at {k : Nat} (hk : 1000 ≤ k) (a b : List Y83) (ha : a.length ≤ 900) : f138 k a b = some (sameL eqC a b) := by
  obtain ⟨k, rfl, hk⟩ := one_more hk
  rw [f138_eq]
  by_cases h : a.length = b.length
  · rw [bneF h, cond_false]
    exact f138l0_at k a b h ha a.length 0 k (by omega) (by omega)
  · rw [bneT h, cond_true, sameL_len h]

theorem f109l0_at (k : Nat) (a b : List Y87) (hl : a.length = b.length) (ha : a.length ≤ 900) : ∀ d n i, n + d = a.length → d < i → f109l0 k i a b (a.length : Int) (n : Int) = some (sameL eqQ (a.drop n) (b.drop n))
  | 0, n, i, hn, hi => by
    obtain ⟨j, rfl, _⟩ := one_more hi
    rw [f109l0_eq, ltF (by omega), cond_false, List.drop_of_length_le (by omega), List.drop_of_length_le (by omega)]; rfl
  | d + 1, n, i, hn, hi => by
    obtain ⟨j, rfl, hj⟩ := one_more hi
    have h : n < a.length := by omega
    have h2 : n < b.length := by omega
    rw [f109l0_eq, ltT h, cond_true, inR h, cond_true, inR h2, cond_true, at_ h, at_ h2, wS (by omega), f109l0_at k a b hl ha d (n + 1) j (by omega) (by omega), drop_at h, drop_at h2, sameL]
    unfold eqQ
    generalize (a[n].1 == b[n].1 && (ByteArray.toList a[n].2 == ByteArray.toList b[n].2 && true)) = c
    cases c <;> rfl
theorem f109_at {k : Nat} (hk : 1000 ≤ k) (a b : List Y87) (ha : a.length ≤ 900) : f109 k a b = some (sameL eqQ a b) := by
  obtain ⟨k, rfl, hk⟩ := one_more hk
  rw [f109_eq]
  by_cases h : a.length = b.length
  · rw [bneF h, cond_false]
    exact f109l0_at k a b h ha a.length 0 k (by omega) (by omega)
  · rw [bneT h, cond_true, sameL_len h]

theorem f111l0_at (k : Nat) (a b : List Y87) (hl : a.length = b.length) (ha : a.length ≤ 900) : ∀ d n i, n + d = a.length → d < i → f111l0 k i a b (n : Int) = some (sameL eqQ (a.drop n) (b.drop n))
  | 0, n, i, hn, hi => by
    obtain ⟨j, rfl, _⟩ := one_more hi
    rw [f111l0_eq, ltF (by omega), cond_false, List.drop_of_length_le (by omega), List.drop_of_length_le (by omega)]; rfl
  | d + 1, n, i, hn, hi => by
    obtain ⟨j, rfl, hj⟩ := one_more hi
    have h : n < a.length := by omega
    have h2 : n < b.length := by omega
    rw [f111l0_eq, ltT h, cond_true, inR h, cond_true, inR h2, cond_true, at_ h, at_ h2, wS (by omega), f111l0_at k a b hl ha d (n + 1) j (by omega) (by omega), drop_at h, drop_at h2, sameL]
    unfold eqQ
    generalize (a[n].1 == b[n].1 && (ByteArray.toList a[n].2 == ByteArray.toList b[n].2 && true)) = c
    cases c <;> rfl
theorem f111_at {k : Nat} (hk : 1000 ≤ k) (a b : List Y87) (ha : a.length ≤ 900) : f111 k a b = some (sameL eqQ a b) := by
  obtain ⟨k, rfl, hk⟩ := one_more hk
  rw [f111_eq]
  by_cases h : a.length = b.length
  · rw [bneF h, cond_false]
    exact f111l0_at k a b h ha a.length 0 k (by omega) (by omega)
  · rw [bneT h, cond_true, sameL_len h]

theorem f136_at {k : Nat} (hk : 1010 ≤ k) (a b : List Y83) (ha : a.length ≤ 900) : f136 k a b = some (sameL eqC a b) := by
  obtain ⟨k, rfl, hk⟩ := one_more hk
  rw [f136_eq, f163_at (by omega) a b ha]; rfl
def sMode : ByteArray := ⟨#[109, 111, 100, 101]⟩
def sUid : ByteArray := ⟨#[117, 105, 100]⟩
def sGid : ByteArray := ⟨#[103, 105, 100]⟩
def sTime : ByteArray := ⟨#[116, 105, 109, 101]⟩
def sAttrs : ByteArray := ⟨#[97, 116, 116, 114, 115]⟩
def sAcl : ByteArray := ⟨#[97, 99, 108]⟩
def sKind : ByteArray := ⟨#[107, 105, 110, 100]⟩
def sSize : ByteArray := ⟨#[115, 105, 122, 101]⟩
def sData : ByteArray := ⟨#[100, 97, 116, 97]⟩
def sTarget : ByteArray := ⟨#[116, 97, 114, 103, 101, 116]⟩
def sDevice : ByteArray := ⟨#[100, 101, 118, 105, 99, 101]⟩
/-- What is unlike in two nodes' metadata. -/
def diffM (a b : Y38) : ByteArray :=
  bif a.1 != b.1 then sMode else bif a.2.1 != b.2.1 then sUid else bif a.2.2.1 != b.2.2.1 then sGid else bif a.2.2.2.1 != b.2.2.2.1 then sTime
  else bif !sameL eqA a.2.2.2.2.1 b.2.2.2.2.1 then sAttrs else bif !sameL eqC a.2.2.2.2.2 b.2.2.2.2.2 then sAcl else ⟨#[]⟩
theorem f108_at {k : Nat} (hk : 1020 ≤ k) (a b : Y38) (h1 : a.2.2.2.2.1.length ≤ 900) (h2 : a.2.2.2.2.2.length ≤ 900) : f108 k a b = some (diffM a b) := by
  obtain ⟨k, rfl, hk⟩ := one_more hk
  rw [f108_eq, f135_at (by omega) _ _ h1, f136_at (by omega) _ _ h2, diffM]
  cases a.1 != b.1 <;> cases a.2.1 != b.2.1 <;> cases a.2.2.1 != b.2.2.1 <;> cases a.2.2.2.1 != b.2.2.2.1 <;> cases sameL eqA a.2.2.2.2.1 b.2.2.2.2.1 <;> cases sameL eqC a.2.2.2.2.2 b.2.2.2.2.2 <;> rfl
theorem f110_at {k : Nat} (hk : 1020 ≤ k) (a b : Y38) (h1 : a.2.2.2.2.1.length ≤ 900) (h2 : a.2.2.2.2.2.length ≤ 900) : f110 k a b = some (diffM a b) := by
  obtain ⟨k, rfl, hk⟩ := one_more hk
  rw [f110_eq, f137_at (by omega) _ _ h1, f138_at (by omega) _ _ h2, diffM]
  cases a.1 != b.1 <;> cases a.2.1 != b.2.1 <;> cases a.2.2.1 != b.2.2.1 <;> cases a.2.2.2.1 != b.2.2.2.1 <;> cases sameL eqA a.2.2.2.2.1 b.2.2.2.2.1 <;> cases sameL eqC a.2.2.2.2.2 b.2.2.2.2.2 <;> rfl
/-- What is unlike in two nodes. -/
def diffN (a b : Y41) : ByteArray :=
  bif a.1 != b.1 then sKind else bif !(L (diffM a.2.1 b.2.1) == []) then diffM a.2.1 b.2.1 else bif a.2.2.1 != b.2.2.1 then sSize
  else bif !sameL eqQ a.2.2.2.1 b.2.2.2.1 then sData else bif !(L a.2.2.2.2.1 == L b.2.2.2.2.1) then sTarget
  else bif a.2.2.2.2.2.1 != b.2.2.2.2.2.1 then sDevice else bif a.2.2.2.2.2.2 != b.2.2.2.2.2.2 then sDevice else ⟨#[]⟩

theorem f63_at {k : Nat} (hk : 1030 ≤ k) {a : Y41} (ha : SmallN a) (b : Y41) : f63 k a b = some (diffN a b) := by
  obtain ⟨k, rfl, hk⟩ := one_more hk
  have h1 := ha.data; have h2 := ha.attrs; have h3 := ha.acl
  rw [f63_eq, f108_at (by omega) _ _ (by omega) (by omega), f109_at (by omega) _ _ (by omega), Option.bind_some, Option.bind_some, diffN, str_beq, str_beq, l0]
  cases a.1 != b.1 <;> cases L (diffM a.2.1 b.2.1) == [] <;> cases a.2.2.1 != b.2.2.1 <;> cases sameL eqQ a.2.2.2.1 b.2.2.2.1 <;> cases L a.2.2.2.2.1 == L b.2.2.2.2.1 <;> cases a.2.2.2.2.2.1 != b.2.2.2.2.2.1 <;> cases a.2.2.2.2.2.2 != b.2.2.2.2.2.2 <;> rfl

theorem f64_at {k : Nat} (hk : 1030 ≤ k) {a : Y41} (ha : SmallN a) (b : Y41) : f64 k a b = some (diffN a b) := by
  obtain ⟨k, rfl, hk⟩ := one_more hk
  have h1 := ha.data; have h2 := ha.attrs; have h3 := ha.acl
  rw [f64_eq, f110_at (by omega) _ _ (by omega) (by omega), f111_at (by omega) _ _ (by omega), Option.bind_some, Option.bind_some, diffN, str_beq, str_beq, l0]
  cases a.1 != b.1 <;> cases L (diffM a.2.1 b.2.1) == [] <;> cases a.2.2.1 != b.2.2.1 <;> cases sameL eqQ a.2.2.2.1 b.2.2.2.1 <;> cases L a.2.2.2.2.1 == L b.2.2.2.2.1 <;> cases a.2.2.2.2.2.1 != b.2.2.2.2.2.1 <;> cases a.2.2.2.2.2.2 != b.2.2.2.2.2.2 <;> rfl

end Go.Proofs.YteiefdnhngfojaaGreatDoor.P
set_option linter.unusedVariables false
set_option linter.unusedSimpArgs false
namespace Go.Proofs.YteiefdnhngfojaaGreatDoor.P
open Go Go.Proofs.YteiefdnhngfojaaGreatDoor.Vm Go.Proofs.YteiefdnhngfojaaGreatDoor.VmI Go.Proofs.YteiefdnhngfojaaGreatDoor.Tr Go.Proofs.YteiefdnhngfojaaGreatDoor.Sp

theorem f62_at {k : Nat} (hk : 2001 ≤ k) {a b : Y24} (ha : SmallT a) (hb : SmallT b) : f62 k a b = some (treeB a && treeB b) := by
  obtain ⟨k, rfl, hk⟩ := one_more hk
  rw [f62_eq, (may_at (by omega) ha).1, (may_at (by omega) hb).1]
  cases treeB a <;> rfl
theorem f68_at {k : Nat} (hk : 1001 ≤ k) (t : Y24) (hE : t.1.length ≤ 900) (p : ByteArray) : f68 k t p = some (findE t.1 (L p)).2 := by
  obtain ⟨k, rfl, hk⟩ := one_more hk
  rw [f68_eq, f47_at (by omega) t hE]; rfl
/-- The first path of entries that others lack. -/
def aloneE : List Y45 → List Y45 → ByteArray
  | [], _ => ⟨#[]⟩
  | e :: l, F => bif (findE F (L e.1)).2 then aloneE l F else e.1
theorem f65g0_at (k : Nat) (hk : 1001 ≤ k) (E : List Y45) (N : List Y41) (F : List Y45) (M : List Y41) (hE : E.length ≤ 900) (hF : F.length ≤ 900) : ∀ d n i, n + d = E.length → d < i → f65g0 k i (n : Int) E N F M = some (aloneE (E.drop n) F)
  | 0, n, i, hn, hi => by
    obtain ⟨j, rfl, _⟩ := one_more hi
    obtain rfl : n = E.length := by omega
    rw [f65g0_eq, eqT, cond_true, List.drop_length]; rfl
  | d + 1, n, i, hn, hi => by
    obtain ⟨j, rfl, hj⟩ := one_more hi
    have h : n < E.length := by omega
    rw [f65g0_eq, eqF (by omega), cond_false, inR h, cond_true, at_ h, f68_at hk (F, M) hF, Option.bind_some, wS (by omega), f65g0_at k hk E N F M hE hF d (n + 1) j (by omega) (by omega), drop_at h, aloneE]
    cases (findE F (L E[n].1)).2 <;> rfl
theorem f65_at {k : Nat} (hk : 1010 ≤ k) (a b : Y24) (hE : a.1.length ≤ 900) (hF : b.1.length ≤ 900) : f65 k a b = some (aloneE a.1 b.1) := by
  obtain ⟨k, rfl, hk⟩ := one_more hk
  have hg := f65g0_at k (by omega) a.1 a.2 b.1 b.2 hE hF a.1.length 0 (k + 1) (by omega) (by omega)
  rw [f65g0_eq] at hg
  rw [f65_eq]
  exact hg
theorem f67l0_at (k : Nat) (hk : 1001 ≤ k) (E : List Y45) (N : List Y41) (F : List Y45) (M : List Y41) (hE : E.length ≤ 900) (hF : F.length ≤ 900) : ∀ d n i, n + d = E.length → d < i → f67l0 k i (n : Int) E N F M = some (aloneE (E.drop n) F)
  | 0, n, i, hn, hi => by
    obtain ⟨j, rfl, _⟩ := one_more hi
    rw [f67l0_eq, ltF (by omega), cond_false, List.drop_of_length_le (by omega)]; rfl
  | d + 1, n, i, hn, hi => by
    obtain ⟨j, rfl, hj⟩ := one_more hi
    have h : n < E.length := by omega
    rw [f67l0_eq, ltT h, cond_true, inR h, cond_true, cond_true, at_ h, f33_at (by omega) (F, M) hF, Option.bind_some, wS (by omega), f67l0_at k hk E N F M hE hF d (n + 1) j (by omega) (by omega), drop_at h, aloneE]
    cases (findE F (L E[n].1)).2 <;> rfl
theorem f67_at {k : Nat} (hk : 1010 ≤ k) (a b : Y24) (hE : a.1.length ≤ 900) (hF : b.1.length ≤ 900) : f67 k a b = some (aloneE a.1 b.1) := by
  obtain ⟨k, rfl, hk⟩ := one_more hk
  rw [f67_eq]
  exact f67l0_at k (by omega) a.1 a.2 b.1 b.2 hE hF a.1.length 0 k (by omega) (by omega)
theorem aloneE_mem : ∀ {E F : List Y45}, L (aloneE E F) ≠ [] → ∃ e ∈ E, aloneE E F = e.1 ∧ (findE F (L e.1)).2 = false
  | [], _, h => absurd rfl h
  | e :: l, F, h => by
    rw [aloneE] at h ⊢
    cases hf : (findE F (L e.1)).2 with
    | true =>
      rw [hf, cond_true] at h
      obtain ⟨x, hx, h1, h2⟩ := aloneE_mem h
      exact ⟨x, List.mem_cons_of_mem _ hx, h1, h2⟩
    | false => exact ⟨e, by simp, rfl, hf⟩
theorem aloneE_size {E F : List Y45} (h : ∀ e ∈ E, e.1.size ≤ 1000) : (aloneE E F).size ≤ 1000 := by
  by_cases h0 : L (aloneE E F) = []
  · rw [size_L, h0]; simp
  · obtain ⟨e, he, h1, _⟩ := aloneE_mem h0
    rw [h1]; exact h e he
theorem tree_may {t : Y24} (h : treeB t = true) : ∀ e ∈ t.1, mayB (L e.1) = true := fun e he => by
  have := ((treeB_iff t).1 h).2.2.1
  obtain ⟨i, hi, rfl⟩ := List.mem_iff_getElem.1 he
  rw [← P_at hi]
  exact (this i hi).1
theorem find_mem {E : List Y45} {e : Y45} (he : e ∈ E) : (findE E (L e.1)).2 = true := by
  cases h : (findE E (L e.1)).2 with
  | true => rfl
  | false => exact absurd rfl ((findE_none h).2 e he)
theorem cmpP_cases {a b : Bs} (ha : mayB a = true) (hb : mayB b = true) (h : a ≠ b) : lessB a b = !lessB b a := by
  unfold lessB
  have h1 := cmpP_swap a b
  have h2 := cmpP_swap b a
  have h3 : cmpP a b ≠ 0 := fun e => h (cmpP_zero ha hb e)
  by_cases q : cmpP a b < 0
  · rw [decide_eq_true q, decide_eq_false (by omega)]; rfl
  · rw [decide_eq_false q, decide_eq_true (by omega)]; rfl
def sWrong : ByteArray := ⟨#[63]⟩
/-- The first path that is in one tree alone. -/
noncomputable def pathsB (a b : Y24) : ByteArray := bif treeB a && treeB b then
    (bif L (aloneE a.1 b.1) == [] then aloneE b.1 a.1 else bif !(L (aloneE b.1 a.1) == []) then (bif lessB (L (aloneE b.1 a.1)) (L (aloneE a.1 b.1)) then aloneE b.1 a.1 else aloneE a.1 b.1) else aloneE a.1 b.1)
  else sWrong
theorem f22_at {k : Nat} (hk : 2100 ≤ k) {a b : Y24} (ha : SmallT a) (hb : SmallT b) : f22 k a b = some (pathsB a b) := by
  obtain ⟨k, rfl, hk⟩ := one_more hk
  have h1 := ha.entries; have h2 := hb.entries
  have z1 := aloneE_size (F := b.1) ha.paths
  have z2 := aloneE_size (F := a.1) hb.paths
  rw [f22_eq, f62_at (by omega) ha hb, Option.bind_some, pathsB, f65_at (by omega) a b (by omega) (by omega), f65_at (by omega) b a (by omega) (by omega), Option.bind_some, Option.bind_some, str_beq, str_beq, l0, f66_at (by omega) z2 z1, Option.bind_some]
  cases treeB a && treeB b <;> cases L (aloneE a.1 b.1) == [] <;> cases L (aloneE b.1 a.1) == [] <;> cases lessB (L (aloneE b.1 a.1)) (L (aloneE a.1 b.1)) <;> rfl
theorem f23_at {k : Nat} (hk : 2100 ≤ k) {a b : Y24} (ha : SmallT a) (hb : SmallT b) : f23 k a b = some (pathsB a b) := by
  obtain ⟨k, rfl, hk⟩ := one_more hk
  have h1 := ha.entries; have h2 := hb.entries
  have z1 := aloneE_size (F := b.1) ha.paths
  have z2 := aloneE_size (F := a.1) hb.paths
  rw [f23_eq, (may_at (by omega) ha).2, (may_at (by omega) hb).2, Option.bind_some, Option.bind_some, pathsB, f67_at (by omega) a b (by omega) (by omega), f67_at (by omega) b a (by omega) (by omega), Option.bind_some, Option.bind_some, str_beq, str_beq, l0, f59_at (by omega) z1 z2, Option.bind_some]
  cases ta : treeB a with
  | false => rfl
  | true =>
    cases tb : treeB b with
    | false => rfl
    | true =>
      cases ha0 : L (aloneE a.1 b.1) == [] with
      | true => rfl
      | false =>
        cases hb0 : L (aloneE b.1 a.1) == [] with
        | true => rfl
        | false =>
          obtain ⟨x, hx, ex, fx⟩ := aloneE_mem (beq_eq_false_iff_ne.1 ha0)
          obtain ⟨y, hy, ey, fy⟩ := aloneE_mem (beq_eq_false_iff_ne.1 hb0)
          rw [ex, ey]
          have hne : L x.1 ≠ L y.1 := fun e => by
            rw [e, find_mem hy] at fx
            exact absurd fx (by simp)
          rw [cmpP_cases (tree_may ta x hx) (tree_may tb y hy) hne]
          cases lessB (L y.1) (L x.1) <;> rfl
theorem f28_at {k : Nat} (hk : 2100 ≤ k) {a b : Y24} (ha : SmallT a) (hb : SmallT b) : f28 k a b = some (treeB a && (treeB b && (L (aloneE a.1 b.1) == []))) := by
  obtain ⟨k, rfl, hk⟩ := one_more hk
  have h1 := ha.entries; have h2 := hb.entries
  rw [f28_eq, f62_at (by omega) ha hb, f65_at (by omega) a b (by omega) (by omega), Option.bind_some, Option.bind_some, str_beq, l0]
  cases treeB a <;> cases treeB b <;> rfl
theorem f29_at {k : Nat} (hk : 2100 ≤ k) {a b : Y24} (ha : SmallT a) (hb : SmallT b) : f29 k a b = some (treeB a && (treeB b && (L (aloneE a.1 b.1) == []))) := by
  obtain ⟨k, rfl, hk⟩ := one_more hk
  have h1 := ha.entries; have h2 := hb.entries
  rw [f29_eq, (may_at (by omega) ha).2, (may_at (by omega) hb).2, f67_at (by omega) a b (by omega) (by omega), Option.bind_some, Option.bind_some, Option.bind_some, str_beq, l0]
  cases treeB a <;> cases treeB b <;> rfl

/-! ### Nodes -/
def sDot : ByteArray := ⟨#[46]⟩
/-- The first path whose nodes are unlike, and where. -/
def nodesE (N : List Y41) (F : List Y45) (M : List Y41) : List Y45 → ByteArray × ByteArray
  | [] => (⟨#[]⟩, ⟨#[]⟩)
  | e :: l => bif (findE F (L e.1)).2 then
      (bif !(L (diffN (List.getD N e.2.toNat (Ty.z t41)) (List.getD M (findE F (L e.1)).1.toNat (Ty.z t41))) == []) then
        (bif L e.1 == [] then (sDot, diffN (List.getD N e.2.toNat (Ty.z t41)) (List.getD M (findE F (L e.1)).1.toNat (Ty.z t41))) else (e.1, diffN (List.getD N e.2.toNat (Ty.z t41)) (List.getD M (findE F (L e.1)).1.toNat (Ty.z t41))))
      else nodesE N F M l)
    else nodesE N F M l
theorem tree_node {t : Y24} (h : treeB t = true) : ∀ e ∈ t.1, 0 ≤ e.2 ∧ e.2 < (t.2.length : Int) := fun e he => by
  have := ((treeB_iff t).1 h).2.2.1
  obtain ⟨i, hi, rfl⟩ := List.mem_iff_getElem.1 he
  rw [← nd_at hi]
  exact ⟨(this i hi).2.2.2.1.1, (this i hi).2.2.2.1.2.2⟩
theorem find_node {t : Y24} (h : treeB t = true) {p : Bs} (hf : (findE t.1 p).2 = true) : 0 ≤ (findE t.1 p).1 ∧ (findE t.1 p).1 < (t.2.length : Int) := by
  obtain ⟨j, hj, _, h2, _⟩ := findE_some (E := t.1) (p := p) (x := (findE t.1 p).1) (by rw [← hf])
  rw [← h2]
  exact tree_node h _ (List.getElem_mem hj)
theorem get_node {N : List Y41} {x : Int} (h1 : 0 ≤ x) (h2 : x < (N.length : Int)) (hN : ∀ y ∈ N, SmallN y) : SmallN (List.getD N x.toNat (Ty.z t41)) := by
  have h : x.toNat < N.length := by omega
  have hg := at_ (l := N) (n := x.toNat) (d := Ty.z t41) h
  rw [Int.toNat_natCast] at hg
  rw [hg]
  exact hN _ (List.getElem_mem h)
theorem f20l0_at (k : Nat) (hk : 1100 ≤ k) (a b : Y24) (ta : treeB a = true) (tb : treeB b = true) (hE : a.1.length ≤ 900) (hF : b.1.length ≤ 900) (hN : ∀ x ∈ a.2, SmallN x) : ∀ d n i, n + d = a.1.length → d < i →
    f20l0 k i a.1 (a.1.length : Int) (n : Int) a.1 a.2 b.1 b.2 = some (nodesE a.2 b.1 b.2 (a.1.drop n))
  | 0, n, i, hn, hi => by
    obtain ⟨j, rfl, _⟩ := one_more hi
    rw [f20l0_eq, ltF (by omega), cond_false, List.drop_of_length_le (by omega)]; rfl
  | d + 1, n, i, hn, hi => by
    obtain ⟨j, rfl, hj⟩ := one_more hi
    have h : n < a.1.length := by omega
    obtain ⟨g1, g2⟩ := tree_node ta _ (List.getElem_mem h)
    rw [f20l0_eq, ltT h, cond_true, inR h, cond_true, at_ h, f47_at (by omega) (b.1, b.2) hF, Option.bind_some, inI g1 g2, cond_true, wS (by omega), f20l0_at k hk a b ta tb hE hF hN d (n + 1) j (by omega) (by omega), drop_at h, nodesE, f63_at (by omega) (get_node g1 g2 hN), Option.bind_some]
    cases hf : (findE b.1 (L a.1[n].1)).2 with
    | false => rfl
    | true =>
      obtain ⟨g3, g4⟩ := find_node tb hf
      rw [str_beq, str_beq, l0]
      dsimp only
      rw [inI g3 g4]
      cases L (diffN (List.getD a.2 (a.1[n].2).toNat (Ty.z t41)) (List.getD b.2 (findE b.1 (L a.1[n].1)).1.toNat (Ty.z t41))) == [] <;> cases L a.1[n].1 == [] <;> rfl
theorem f20_at {k : Nat} (hk : 2100 ≤ k) {a b : Y24} (ha : SmallT a) (hb : SmallT b) : f20 k a b = some (bif treeB a && treeB b then nodesE a.2 b.1 b.2 a.1 else (sWrong, ⟨#[]⟩)) := by
  obtain ⟨k, rfl, hk⟩ := one_more hk
  have h1 := ha.entries; have h2 := hb.entries
  rw [f20_eq, f62_at (by omega) ha hb, Option.bind_some]
  cases ta : treeB a with
  | false => rfl
  | true =>
    cases tb : treeB b with
    | false => rfl
    | true => exact f20l0_at k (by omega) a b ta tb (by omega) (by omega) ha.node a.1.length 0 k (by omega) (by omega)
theorem f21l0_at (k : Nat) (hk : 1100 ≤ k) (a b : Y24) (ta : treeB a = true) (tb : treeB b = true) (hE : a.1.length ≤ 900) (hF : b.1.length ≤ 900) (hN : ∀ x ∈ a.2, SmallN x) : ∀ d n i, n + d = a.1.length → d < i →
    f21l0 k i (n : Int) a.1 a.2 b.1 b.2 = some (nodesE a.2 b.1 b.2 (a.1.drop n))
  | 0, n, i, hn, hi => by
    obtain ⟨j, rfl, _⟩ := one_more hi
    rw [f21l0_eq, ltF (by omega), cond_false, List.drop_of_length_le (by omega)]; rfl
  | d + 1, n, i, hn, hi => by
    obtain ⟨j, rfl, hj⟩ := one_more hi
    have h : n < a.1.length := by omega
    obtain ⟨g1, g2⟩ := tree_node ta _ (List.getElem_mem h)
    rw [f21l0_eq, ltT h, cond_true, inR h, cond_true, at_ h, f33_at (by omega) (b.1, b.2) hF, Option.bind_some, cond_true, inI g1 g2, cond_true, wS (by omega), f21l0_at k hk a b ta tb hE hF hN d (n + 1) j (by omega) (by omega), drop_at h, nodesE, f64_at (by omega) (get_node g1 g2 hN), Option.bind_some]
    cases hf : (findE b.1 (L a.1[n].1)).2 with
    | false => rfl
    | true =>
      obtain ⟨g3, g4⟩ := find_node tb hf
      rw [str_beq, str_beq, l0]
      dsimp only
      rw [inI g3 g4]
      cases L (diffN (List.getD a.2 (a.1[n].2).toNat (Ty.z t41)) (List.getD b.2 (findE b.1 (L a.1[n].1)).1.toNat (Ty.z t41))) == [] <;> cases L a.1[n].1 == [] <;> rfl
theorem f21_at {k : Nat} (hk : 2100 ≤ k) {a b : Y24} (ha : SmallT a) (hb : SmallT b) : f21 k a b = some (bif treeB a && treeB b then nodesE a.2 b.1 b.2 a.1 else (sWrong, ⟨#[]⟩)) := by
  obtain ⟨k, rfl, hk⟩ := one_more hk
  have h1 := ha.entries; have h2 := hb.entries
  rw [f21_eq, (may_at (by omega) ha).2, (may_at (by omega) hb).2, Option.bind_some, Option.bind_some]
  cases ta : treeB a with
  | false => rfl
  | true =>
    cases tb : treeB b with
    | false => rfl
    | true => exact f21l0_at k (by omega) a b ta tb (by omega) (by omega) ha.node a.1.length 0 k (by omega) (by omega)
end Go.Proofs.YteiefdnhngfojaaGreatDoor.P
set_option linter.unusedVariables false
set_option linter.unusedSimpArgs false
namespace Go.Proofs.YteiefdnhngfojaaGreatDoor.P
open Go Go.Proofs.YteiefdnhngfojaaGreatDoor.Vm Go.Proofs.YteiefdnhngfojaaGreatDoor.VmI Go.Proofs.YteiefdnhngfojaaGreatDoor.Tr Go.Proofs.YteiefdnhngfojaaGreatDoor.Sp

def eqS (a b : ByteArray) : Bool := ByteArray.toList a == ByteArray.toList b
theorem f69l0_at (k : Nat) (a b : List ByteArray) (hl : a.length = b.length) (ha : a.length ≤ 900) : ∀ d n i, n + d = a.length → d < i → f69l0 k i a b (a.length : Int) (n : Int) = some (sameL eqS (a.drop n) (b.drop n))
  | 0, n, i, hn, hi => by
    obtain ⟨j, rfl, _⟩ := one_more hi
    rw [f69l0_eq, ltF (by omega), cond_false, List.drop_of_length_le (by omega), List.drop_of_length_le (by omega)]; rfl
  | d + 1, n, i, hn, hi => by
    obtain ⟨j, rfl, hj⟩ := one_more hi
    have h : n < a.length := by omega
    have h2 : n < b.length := by omega
    rw [f69l0_eq, ltT h, cond_true, inR h, cond_true, inR h2, cond_true, at_ h, at_ h2, wS (by omega), f69l0_at k a b hl ha d (n + 1) j (by omega) (by omega), drop_at h, drop_at h2, sameL, eqS]
    cases ByteArray.toList a[n] == ByteArray.toList b[n] <;> rfl
theorem f69_at {k : Nat} (hk : 1000 ≤ k) (a b : List ByteArray) (ha : a.length ≤ 900) : f69 k a b = some (sameL eqS a b) := by
  obtain ⟨k, rfl, hk⟩ := one_more hk
  rw [f69_eq]
  by_cases h : a.length = b.length
  · rw [bneF h, cond_false]
    exact f69l0_at k a b h ha a.length 0 k (by omega) (by omega)
  · rw [bneT h, cond_true, sameL_len h]
theorem sameS_iff : ∀ (a b : List ByteArray), sameL eqS a b = true ↔ a.map L = b.map L
  | [], [] => by simp [sameL]
  | [], _ :: _ => by simp [sameL]
  | _ :: _, [] => by simp [sameL]
  | x :: a, y :: b => by
    rw [sameL, eqS, str_beq, Bool.and_eq_true, beq_iff_eq, sameS_iff a b, List.map_cons, List.map_cons, List.cons.injEq]

/-- All paths of a path's node. -/
def classE (E : List Y45) (p : Bs) : List ByteArray := bif (findE E p).2 then (E.filter fun e => e.2 == (findE E p).1).map (·.1) else []
theorem f54l0_at (k : Nat) (E : List Y45) (hE : E.length ≤ 900) (x : Int) : ∀ d n i r, n + d = E.length → d < i → r.length ≤ n → f54l0 k i x E (E.length : Int) (n : Int) r = some (r ++ ((E.drop n).filter fun e => e.2 == x).map (·.1))
  | 0, n, i, r, hn, hi, hr => by
    obtain ⟨j, rfl, _⟩ := one_more hi
    rw [f54l0_eq, ltF (by omega), cond_false, List.drop_of_length_le (by omega)]; simp
  | d + 1, n, i, r, hn, hi, hr => by
    obtain ⟨j, rfl, hj⟩ := one_more hi
    have h : n < E.length := by omega
    rw [f54l0_eq, ltT h, cond_true, inR h, cond_true, at_ h, wS (by omega), drop_at h, List.filter_cons, decide_eq_true (by simp; omega), cond_true]
    cases hx : E[n].2 == x with
    | true => rw [cond_true, if_pos rfl, f54l0_at k E hE x d (n + 1) j _ (by omega) (by omega) (by simp; omega)]; simp
    | false => rw [cond_false, if_neg (by simp), f54l0_at k E hE x d (n + 1) j _ (by omega) (by omega) (by omega)]
theorem f54_at {k : Nat} (hk : 1010 ≤ k) (t : Y24) (hE : t.1.length ≤ 900) (p : ByteArray) : f54 k t p = some (classE t.1 (L p)) := by
  obtain ⟨k, rfl, hk⟩ := one_more hk
  rw [f54_eq, f47_at (by omega) t hE, Option.bind_some, classE]
  cases (findE t.1 (L p)).2 with
  | false => rfl
  | true => exact f54l0_at k t.1 hE _ t.1.length 0 k [] (by omega) (by omega) (by simp)
theorem classE_len (E : List Y45) (p : Bs) : (classE E p).length ≤ E.length := by
  unfold classE
  cases (findE E p).2 with
  | false => simp
  | true => rw [cond_true, List.length_map]; exact List.length_filter_le _ _
def hasP (F : List Y45) (s : ByteArray) : Bool := (findE F (L s)).2
theorem f114_at {k : Nat} (hk : 1002 ≤ k) (s : ByteArray) (t : Y24) (hE : t.1.length ≤ 900) : f114 k s t = some (!hasP t.1 s) := by
  obtain ⟨k, rfl, hk⟩ := one_more hk
  rw [f114_eq, f68_at (by omega) t hE]; rfl
theorem f140_114l0_at (k : Nat) (hk : 1002 ≤ k) (l : List ByteArray) (hl : l.length ≤ 900) (t : Y24) (hE : t.1.length ≤ 900) : ∀ d n i, n + d = l.length → d < i → (l.take n).all (hasP t.1) = true →
    ∃ x, f140_114l0 k i l t (l.length : Int) (n : Int) = some x ∧ ((x = -1 ∧ l.all (hasP t.1) = true) ∨ ∃ m : Nat, ∃ h : m < l.length, x = m ∧ (l.take m).all (hasP t.1) = true ∧ hasP t.1 l[m] = false)
  | 0, n, i, hn, hi, hp => by
    obtain ⟨j, rfl, _⟩ := one_more hi
    rw [f140_114l0_eq, ltF (by omega), cond_false]
    rw [List.take_of_length_le (by omega)] at hp
    exact ⟨-1, rfl, .inl ⟨rfl, hp⟩⟩
  | d + 1, n, i, hn, hi, hp => by
    obtain ⟨j, rfl, hj⟩ := one_more hi
    have h : n < l.length := by omega
    rw [f140_114l0_eq, ltT h, cond_true, inR h, cond_true, at_ h, f114_at hk _ t hE, Option.bind_some, wS (by omega)]
    cases hh : hasP t.1 l[n] with
    | false => exact ⟨(n : Int), rfl, .inr ⟨n, h, rfl, hp, hh⟩⟩
    | true => exact f140_114l0_at k hk l hl t hE d (n + 1) j (by omega) (by omega) (by rw [List.take_succ_eq_append_getElem h, List.all_append, hp]; simp [hh])
theorem f113_114l0_at (k : Nat) (hk : 1002 ≤ k) (l : List ByteArray) (hl : l.length ≤ 900) (t : Y24) (hE : t.1.length ≤ 900) : ∀ d n i (w : Nat) (r : List ByteArray), n + d = l.length → d < i → w ≤ n → r.length = l.length → r.take w = (l.take n).filter (hasP t.1) → r.drop n = l.drop n →
    f113_114l0 k i t (w : Int) (n : Int) r = some (l.filter (hasP t.1))
  | 0, n, i, w, r, hn, hi, hw, hr, h1, h2 => by
    obtain ⟨j, rfl, _⟩ := one_more hi
    rw [List.take_of_length_le (show l.length ≤ n by omega)] at h1
    have c1 : decide ((0 : Int) ≤ (w : Int) ∧ (w : Int) ≤ ((r.length : Nat) : Int) ∧ ((r.length : Nat) : Int) ≤ ((r.length : Nat) : Int)) = true := decide_eq_true (by omega)
    rw [f113_114l0_eq, ltF (by omega), cond_false, c1, cond_true]
    have hlen : (List.take (Int.toNat (w : Int)) r ++ (List.replicate (Int.toNat ((r.length : Nat) : Int) - Int.toNat (w : Int)) (Ty.z Ty.str) ++ List.drop (Int.toNat ((r.length : Nat) : Int)) r)).length = r.length := by
      simp only [Int.toNat_natCast, List.length_append, List.length_take, List.length_replicate, List.length_drop]; omega
    have hble : Nat.ble w r.length = true := by rw [Nat.ble_eq]; omega
    have htk : List.take w (List.take w r ++ (List.replicate (r.length - w) (Ty.z Ty.str) ++ List.drop r.length r)) = r.take w := by
      rw [List.take_append_of_le_length (by rw [List.length_take]; omega), List.take_take, Nat.min_self]
    rw [hlen]
    rw [h1] at htk
    have c2 : decide ((0 : Int) ≤ 0 ∧ (0 : Int) ≤ (w : Int) ∧ (w : Int) ≤ ((r.length : Nat) : Int)) = true := decide_eq_true (by omega)
    simp only [Int.toNat_natCast, hble, Nat.ble_self_eq_true, c2, h1, htk]
    rfl
  | d + 1, n, i, w, r, hn, hi, hw, hr, h1, h2 => by
    obtain ⟨j, rfl, hj⟩ := one_more hi
    have h : n < l.length := by omega
    have h' : n < r.length := by omega
    have hx : r[n] = l[n] := by
      have e := h2
      rw [drop_at h, drop_at h', List.cons.injEq] at e
      exact e.1
    have hd : r.drop (n + 1) = l.drop (n + 1) := by
      have e := h2
      rw [drop_at h, drop_at h', List.cons.injEq] at e
      exact e.2
    have tk : (l.take (n + 1)).filter (hasP t.1) = (l.take n).filter (hasP t.1) ++ (if hasP t.1 l[n] = true then [l[n]] else []) := by
      rw [List.take_succ_eq_append_getElem h, List.filter_append, List.filter_cons, List.filter_nil]
    rw [f113_114l0_eq, ltT h', cond_true, inR h', cond_true, Int.toNat_natCast, decide_eq_true h', cond_true]
    have hg := at_ (l := r) (n := n) (d := Ty.z Ty.str) h'
    rw [Int.toNat_natCast] at hg
    rw [hg, hx, f114_at hk _ t hE, Option.bind_some, Bool.not_not]
    cases hh : hasP t.1 l[n] with
    | false =>
      rw [cond_false, wS (by omega)]
      rw [hh] at tk
      exact f113_114l0_at k hk l hl t hE d (n + 1) j w r (by omega) (by omega) (by omega) hr (by rw [tk, h1]; simp) hd
    | true =>
      have hwl : w < r.length := by omega
      rw [cond_true, inR hwl, cond_true, Int.toNat_natCast, decide_eq_true hwl, Bool.true_and, show Nat.ble 1 (Ty.size Ty.str) = true from rfl, cond_true, wS (by omega), wS (by omega)]
      rw [hh] at tk
      refine f113_114l0_at k hk l hl t hE d (n + 1) j (w + 1) _ (by omega) (by omega) (by omega) (by rw [List.length_set]; exact hr) ?_ ?_
      · rw [tk, ← h1, List.take_succ_eq_append_getElem (by rw [List.length_set]; exact hwl), List.take_set_of_le (Nat.le_refl _), List.getElem_set_self]; simp
      · rw [List.drop_set_of_lt (by omega), hd]
theorem f113_114_at {k : Nat} (hk : 1010 ≤ k) (l : List ByteArray) (hl : l.length ≤ 900) (t : Y24) (hE : t.1.length ≤ 900) : f113_114 k l t = some (l.filter (hasP t.1)) := by
  obtain ⟨k, rfl, hk⟩ := one_more hk
  obtain ⟨k, rfl, hk⟩ := one_more (show 1003 < k by omega)
  obtain ⟨x, hx, h⟩ := f140_114l0_at k (by omega) l hl t hE l.length 0 k (by omega) (by omega) (by simp)
  rw [z0] at hx
  rw [f113_114_eq, f140_114_eq, hx, Option.bind_some]
  rcases h with ⟨rfl, hall⟩ | ⟨m, hm, rfl, hall, hno⟩
  · rw [show ((-1 : Int) == -1) = true from rfl, cond_true, List.filter_eq_self.2 (fun s hs => List.all_eq_true.1 hall s hs)]
  · rw [show (((m : Nat) : Int) == -1) = false from beq_eq_false_iff_ne.2 (by omega), cond_false, wS (by omega)]
    refine f113_114l0_at (k + 1) (by omega) l hl t hE (l.length - (m + 1)) (m + 1) (k + 1) m l (by omega) (by omega) (by omega) rfl ?_ rfl
    rw [List.take_succ_eq_append_getElem hm, List.filter_append, List.filter_cons, hno, List.filter_eq_self.2 (fun s hs => List.all_eq_true.1 hall s hs)]
    simp
theorem f70_at {k : Nat} (hk : 1020 ≤ k) (a b : Y24) (hE : a.1.length ≤ 900) (hF : b.1.length ≤ 900) (p : ByteArray) : f70 k a b p = some ((classE a.1 (L p)).filter (hasP b.1)) := by
  obtain ⟨k, rfl, hk⟩ := one_more hk
  have := classE_len a.1 (L p)
  rw [f70_eq, f54_at (by omega) a hE, Option.bind_some, f113_114_at (by omega) _ (by omega) b hF]; rfl
end Go.Proofs.YteiefdnhngfojaaGreatDoor.P
set_option linter.unusedVariables false
set_option linter.unusedSimpArgs false
namespace Go.Proofs.YteiefdnhngfojaaGreatDoor.P
open Go Go.Proofs.YteiefdnhngfojaaGreatDoor.Vm Go.Proofs.YteiefdnhngfojaaGreatDoor.VmI Go.Proofs.YteiefdnhngfojaaGreatDoor.Tr Go.Proofs.YteiefdnhngfojaaGreatDoor.Sp

/-! ### Lists that rise -/
theorem asc_eq : ∀ {x y : List Bs}, x.Pairwise (fun a b => cmpP a b < 0) → y.Pairwise (fun a b => cmpP a b < 0) → (∀ s, s ∈ x ↔ s ∈ y) → x = y
  | [], [], _, _, _ => rfl
  | [], b :: y, _, _, h => absurd ((h b).2 (by simp)) (by simp)
  | a :: x, [], _, _, h => absurd ((h a).1 (by simp)) (by simp)
  | a :: x, b :: y, hx, hy, h => by
    rw [List.pairwise_cons] at hx hy
    have irr : ∀ s, ¬ cmpP s s < 0 := fun s => by rw [cmpP_refl]; omega
    have e : a = b := by
      rcases List.mem_cons.1 ((h a).1 (by simp)) with e | m1
      · exact e
      · rcases List.mem_cons.1 ((h b).2 (by simp)) with e | m2
        · exact e.symm
        · exact absurd (cmpP_trans (hx.1 b m2) (hy.1 a m1)) (irr a)
    subst e
    rw [asc_eq hx.2 hy.2 (fun s => ⟨fun hs => ?_, fun hs => ?_⟩)]
    · rcases List.mem_cons.1 ((h s).1 (List.mem_cons_of_mem _ hs)) with e | m
      · subst e; exact absurd (hx.1 s hs) (irr s)
      · exact m
    · rcases List.mem_cons.1 ((h s).2 (List.mem_cons_of_mem _ hs)) with e | m
      · subst e; exact absurd (hy.1 s hs) (irr s)
      · exact m
theorem filter_iff {α : Type} {f g : α → Bool} {l : List α} : l.filter f = l.filter g ↔ ∀ s ∈ l, f s = g s := by
  constructor
  · intro h s hs
    rw [Bool.eq_iff_iff]
    constructor
    · intro hf
      have : s ∈ l.filter g := by rw [← h]; exact List.mem_filter.2 ⟨hs, hf⟩
      exact (List.mem_filter.1 this).2
    · intro hf
      have : s ∈ l.filter f := by rw [h]; exact List.mem_filter.2 ⟨hs, hf⟩
      exact (List.mem_filter.1 this).2
  · intro h; exact List.filter_congr h
/-- The paths of entries. -/
def paths (E : List Y45) : List Bs := E.map fun e => L e.1
theorem has_iff (E : List Y45) (s : Bs) : (findE E s).2 = true ↔ s ∈ paths E := by
  unfold paths
  constructor
  · intro h
    obtain ⟨j, hj, h1, _⟩ := findE_some (E := E) (p := s) (x := (findE E s).1) (by rw [← h])
    rw [← h1]
    exact List.mem_map.2 ⟨_, List.getElem_mem hj, rfl⟩
  · intro h
    obtain ⟨e, he, rfl⟩ := List.mem_map.1 h
    exact find_mem he
theorem paths_asc {t : Y24} (h : treeB t = true) : (paths t.1).Pairwise (fun a b => cmpP a b < 0) := by
  have hu := (up_of ((treeB_iff t).1 h).2.2.1).1
  rw [List.pairwise_iff_getElem]
  intro i j hi hj hij
  unfold paths at hi hj ⊢
  rw [List.length_map] at hi hj
  rw [List.getElem_map, List.getElem_map, ← P_at hi, ← P_at hj]
  exact hu.lt hij hj
theorem find_self {t : Y24} (h : treeB t = true) {e : Y45} (he : e ∈ t.1) : findE t.1 (L e.1) = (e.2, true) := by
  have hu := (up_of ((treeB_iff t).1 h).2.2.1).1
  obtain ⟨j, hj, rfl⟩ := List.mem_iff_getElem.1 he
  exact findE_at hj rfl (fun i hi q => by
    rw [← P_at, ← P_at] at q
    have := hu.inj (by omega) hj q
    omega)
theorem class_paths {t : Y24} (h : treeB t = true) {p : Bs} (hp : (findE t.1 p).2 = true) : (classE t.1 p).map L = (paths t.1).filter (fun s => (findE t.1 s).1 == (findE t.1 p).1) := by
  unfold classE paths
  rw [hp, cond_true, List.filter_map, List.map_map]
  have : t.1.filter (fun e => e.2 == (findE t.1 p).1) = t.1.filter ((fun s => (findE t.1 s).1 == (findE t.1 p).1) ∘ fun e => L e.1) := List.filter_congr fun e he => by
    show (e.2 == (findE t.1 p).1) = ((findE t.1 (L e.1)).1 == (findE t.1 p).1)
    rw [find_self h he]
  rw [this]
  rfl
theorem filter_L (F : List Y45) (l : List ByteArray) : (l.filter (hasP F)).map L = (l.map L).filter (fun s => (findE F s).2) := by
  rw [List.filter_map]
  rfl
/-- A path is linked otherwise, as the document tells it. -/
def linkBad (E F : List Y45) (e : Y45) : Bool := (findE F (L e.1)).2 && E.any (fun q => (findE F (L q.1)).2 && !((q.2 == e.2) == ((findE F (L e.1)).1 == (findE F (L q.1)).1)))
/-- As the program tells it. -/
def linkBadP (E F : List Y45) (e : Y45) : Bool := (findE F (L e.1)).2 && !sameL eqS ((classE E (L e.1)).filter (hasP F)) ((classE F (L e.1)).filter (hasP E))
theorem bad_eq {a b : Y24} (ta : treeB a = true) (tb : treeB b = true) {e : Y45} (he : e ∈ a.1) : linkBad a.1 b.1 e = linkBadP a.1 b.1 e := by
  unfold linkBad linkBadP
  cases hf : (findE b.1 (L e.1)).2 with
  | false => rfl
  | true =>
    rw [Bool.true_and, Bool.true_and]
    have hC : (paths a.1).filter (fun s => (findE b.1 s).2) = (paths b.1).filter (fun s => (findE a.1 s).2) := by
      refine asc_eq ((paths_asc ta).filter _) ((paths_asc tb).filter _) fun s => ?_
      rw [List.mem_filter, List.mem_filter, has_iff, has_iff]
      exact And.comm
    have key : sameL eqS ((classE a.1 (L e.1)).filter (hasP b.1)) ((classE b.1 (L e.1)).filter (hasP a.1)) = true ↔ ∀ s ∈ (paths a.1).filter (fun s => (findE b.1 s).2), ((findE a.1 s).1 == e.2) = ((findE b.1 s).1 == (findE b.1 (L e.1)).1) := by
      rw [sameS_iff, filter_L, filter_L, class_paths ta (find_mem he), class_paths tb hf, find_self ta he, ← filter_iff]
      rw [List.filter_filter, List.filter_filter]
      have e1 : ∀ (l : List Bs) (f g : Bs → Bool), l.filter (fun s => f s && g s) = (l.filter f).filter g := fun l f g => by
        rw [List.filter_filter]
        exact List.filter_congr fun s _ => Bool.and_comm _ _
      rw [e1, e1, ← hC]
    rw [Bool.eq_iff_iff, Bool.not_eq_true', ← Bool.not_eq_true, key, List.any_eq_true]
    constructor
    · rintro ⟨q, hq, h⟩ hall
      rw [Bool.and_eq_true] at h
      have := hall (L q.1) (List.mem_filter.2 ⟨List.mem_map.2 ⟨q, hq, rfl⟩, h.1⟩)
      rw [find_self ta hq, BEq.comm (a := (findE b.1 (L q.1)).1)] at this
      have h2 := h.2
      rw [this] at h2
      simp at h2
    · intro h
      refine Classical.byContradiction fun hn => h fun s hs => ?_
      obtain ⟨hs1, hs2⟩ := List.mem_filter.1 hs
      obtain ⟨q, hq, rfl⟩ := List.mem_map.1 hs1
      refine Classical.byContradiction fun hne => hn ⟨q, hq, ?_⟩
      rw [find_self ta hq, BEq.comm (a := (findE b.1 (L q.1)).1)] at hne
      rw [hs2, Bool.true_and, Bool.not_eq_true', beq_eq_false_iff_ne]
      exact hne
/-- The first of the entries that is bad. -/
def firstE (bad : Y45 → Bool) : List Y45 → ByteArray
  | [] => ⟨#[]⟩
  | e :: l => bif bad e then e.1 else firstE bad l
theorem firstE_congr {f g : Y45 → Bool} : ∀ {l : List Y45}, (∀ e ∈ l, f e = g e) → firstE f l = firstE g l
  | [], _ => rfl
  | e :: l, h => by rw [firstE, firstE, h e (by simp), firstE_congr (fun x hx => h x (List.mem_cons_of_mem _ hx))]
theorem f24l0_at (k : Nat) (hk : 1100 ≤ k) (a b : Y24) (hE : a.1.length ≤ 900) (hF : b.1.length ≤ 900) : ∀ d n i, n + d = a.1.length → d < i → f24l0 k i a.1 (a.1.length : Int) (n : Int) a.1 a.2 b.1 b.2 = some (firstE (linkBadP a.1 b.1) (a.1.drop n))
  | 0, n, i, hn, hi => by
    obtain ⟨j, rfl, _⟩ := one_more hi
    rw [f24l0_eq, ltF (by omega), cond_false, List.drop_of_length_le (by omega)]; rfl
  | d + 1, n, i, hn, hi => by
    obtain ⟨j, rfl, hj⟩ := one_more hi
    have h : n < a.1.length := by omega
    have hl := Nat.le_trans (List.length_filter_le (hasP b.1) (classE a.1 (L a.1[n].1))) (classE_len a.1 (L a.1[n].1))
    rw [f24l0_eq, ltT h, cond_true, inR h, cond_true, at_ h, f68_at (by omega) (b.1, b.2) hF, Option.bind_some, f70_at (by omega) (a.1, a.2) (b.1, b.2) hE hF, f70_at (by omega) (b.1, b.2) (a.1, a.2) hF hE, Option.bind_some, Option.bind_some, f69_at (by omega) _ _ (by dsimp only; omega), Option.bind_some, wS (by omega), f24l0_at k hk a b hE hF d (n + 1) j (by omega) (by omega), drop_at h, firstE, linkBadP]
    dsimp only
    cases (findE b.1 (L a.1[n].1)).2 <;> cases sameL eqS ((classE a.1 (L a.1[n].1)).filter (hasP b.1)) ((classE b.1 (L a.1[n].1)).filter (hasP a.1)) <;> rfl
/-- The first path that is linked otherwise. -/
noncomputable def linksB (a b : Y24) : ByteArray := bif treeB a && treeB b then firstE (linkBad a.1 b.1) a.1 else sWrong
theorem f24_at {k : Nat} (hk : 2100 ≤ k) {a b : Y24} (ha : SmallT a) (hb : SmallT b) : f24 k a b = some (linksB a b) := by
  obtain ⟨k, rfl, hk⟩ := one_more hk
  have h1 := ha.entries; have h2 := hb.entries
  rw [f24_eq, f62_at (by omega) ha hb, Option.bind_some, linksB]
  cases ta : treeB a with
  | false => rfl
  | true =>
    cases tb : treeB b with
    | false => rfl
    | true =>
      have := f24l0_at k (by omega) a b (by omega) (by omega) a.1.length 0 k (by omega) (by omega)
      refine this.trans ?_
      rw [List.drop_zero, firstE_congr (f := linkBadP a.1 b.1) (g := linkBad a.1 b.1) fun e he => (bad_eq ta tb he).symm]
      rfl
theorem f25l1_at (k : Nat) (hk : 1100 ≤ k) (a b : Y24) (hE : a.1.length ≤ 900) (hF : b.1.length ≤ 900) (i0 n : Nat) (h0 : n < a.1.length) (p : ByteArray) (x : Int) (ok : Bool) : ∀ d m i, m + d = a.1.length → d < i →
    f25l1 k i0 i (n : Int) p x ok (m : Int) a.1 a.2 b.1 b.2 = bif ok && (a.1.drop m).any (fun q => (findE b.1 (L q.1)).2 && !((q.2 == a.1[n].2) == (x == (findE b.1 (L q.1)).1))) then some p else f25l0 k i0 ((n + 1 : Nat) : Int) a.1 a.2 b.1 b.2
  | 0, m, i, hm, hi => by
    obtain ⟨j, rfl, _⟩ := one_more hi
    rw [f25l1_eq, ltF (by omega), cond_false, List.drop_of_length_le (by omega), wS (by omega)]
    cases ok <;> rfl
  | d + 1, m, i, hm, hi => by
    obtain ⟨j, rfl, hj⟩ := one_more hi
    have h : m < a.1.length := by omega
    rw [f25l1_eq, ltT h, cond_true, inR h, cond_true, at_ h, f33_at (by omega) (b.1, b.2) hF, Option.bind_some, cond_true, inR h0, cond_true, at_ h0, wS (by omega), wS (by omega), f25l1_at k hk a b hE hF i0 n h0 p x ok d (m + 1) j (by omega) (by omega), drop_at h, List.any_cons]
    dsimp only
    cases ok with
    | false => rfl
    | true => cases (findE b.1 (L a.1[m].1)).2 <;> cases ((a.1[m].2 == a.1[n].2) == (x == (findE b.1 (L a.1[m].1)).1)) <;> rfl
theorem f25l0_at (k : Nat) (hk : 1100 ≤ k) (a b : Y24) (hE : a.1.length ≤ 900) (hF : b.1.length ≤ 900) : ∀ d n i, n + d = a.1.length → d < i → f25l0 k i (n : Int) a.1 a.2 b.1 b.2 = some (firstE (linkBad a.1 b.1) (a.1.drop n))
  | 0, n, i, hn, hi => by
    obtain ⟨j, rfl, _⟩ := one_more hi
    rw [f25l0_eq, ltF (by omega), cond_false, List.drop_of_length_le (by omega)]; rfl
  | d + 1, n, i, hn, hi => by
    obtain ⟨j, rfl, hj⟩ := one_more hi
    have h : n < a.1.length := by omega
    have hg := f25l1_at k hk a b hE hF j n h a.1[n].1 (findE b.1 (L a.1[n].1)).1 (findE b.1 (L a.1[n].1)).2 a.1.length 0 k (by omega) (by omega)
    rw [z0] at hg
    rw [f25l0_eq, ltT h, cond_true, inR h, cond_true, at_ h, f33_at (by omega) (b.1, b.2) hF, Option.bind_some]
    dsimp only
    rw [hg, f25l0_at k hk a b hE hF d (n + 1) j (by omega) (by omega), drop_at h, firstE, linkBad, List.drop_zero]
    cases ((findE b.1 (L a.1[n].1)).2 && a.1.any fun q => (findE b.1 (L q.1)).2 && !((q.2 == a.1[n].2) == ((findE b.1 (L a.1[n].1)).1 == (findE b.1 (L q.1)).1))) <;> rfl
theorem f25_at {k : Nat} (hk : 2100 ≤ k) {a b : Y24} (ha : SmallT a) (hb : SmallT b) : f25 k a b = some (linksB a b) := by
  obtain ⟨k, rfl, hk⟩ := one_more hk
  have h1 := ha.entries; have h2 := hb.entries
  rw [f25_eq, (may_at (by omega) ha).2, (may_at (by omega) hb).2, Option.bind_some, Option.bind_some, linksB]
  cases ta : treeB a with
  | false => rfl
  | true =>
    cases tb : treeB b with
    | false => rfl
    | true => exact f25l0_at k (by omega) a b (by omega) (by omega) a.1.length 0 k (by omega) (by omega)
/-! ### Whether two trees are one -/
noncomputable def nodesB (a b : Y24) : ByteArray × ByteArray := bif treeB a && treeB b then nodesE a.2 b.1 b.2 a.1 else (sWrong, ⟨#[]⟩)
noncomputable def sameB (a b : Y24) : Bool := L (pathsB a b) == [] && (L (linksB a b) == [] && (L (nodesB a b).1 == []))
theorem f26_at {k : Nat} (hk : 2110 ≤ k) {a b : Y24} (ha : SmallT a) (hb : SmallT b) : f26 k a b = some (sameB a b) := by
  obtain ⟨k, rfl, hk⟩ := one_more hk
  have hn := f20_at (k := k) (by omega) ha hb
  rw [show (bif treeB a && treeB b then nodesE a.2 b.1 b.2 a.1 else (sWrong, ⟨#[]⟩)) = nodesB a b from rfl] at hn
  rw [f26_eq, hn, f22_at (by omega) ha hb, f24_at (by omega) ha hb, Option.bind_some, Option.bind_some, Option.bind_some, str_beq, str_beq, str_beq, l0, sameB]
  cases L (pathsB a b) == [] <;> cases L (linksB a b) == [] <;> rfl
theorem f27_at {k : Nat} (hk : 2110 ≤ k) {a b : Y24} (ha : SmallT a) (hb : SmallT b) : f27 k a b = some (sameB a b) := by
  obtain ⟨k, rfl, hk⟩ := one_more hk
  have hn := f21_at (k := k) (by omega) ha hb
  rw [show (bif treeB a && treeB b then nodesE a.2 b.1 b.2 a.1 else (sWrong, ⟨#[]⟩)) = nodesB a b from rfl] at hn
  rw [f27_eq, hn, f23_at (by omega) ha hb, f25_at (by omega) ha hb, Option.bind_some, Option.bind_some, Option.bind_some, str_beq, str_beq, str_beq, l0, sameB]
  cases L (pathsB a b) == [] <;> cases L (linksB a b) == [] <;> rfl
end Go.Proofs.YteiefdnhngfojaaGreatDoor.P
set_option linter.unusedVariables false
set_option linter.unusedSimpArgs false
set_option maxRecDepth 100000
namespace Go.Proofs.YteiefdnhngfojaaGreatDoor.P
open Go Go.Proofs.YteiefdnhngfojaaGreatDoor.Vm Go.Proofs.YteiefdnhngfojaaGreatDoor.VmI Go.Proofs.YteiefdnhngfojaaGreatDoor.Tr Go.Proofs.YteiefdnhngfojaaGreatDoor.Sp

def nDir : Y41 := ((1 : Int), ((0 : Int), (0 : Int), (0 : Int), (0 : Int), [], []), (0 : Int), [], ByteArray.empty, (0 : Int), (0 : Int))
def nDir1 : Y41 := ((1 : Int), ((1 : Int), (0 : Int), (0 : Int), (0 : Int), [], []), (0 : Int), [], ByteArray.empty, (0 : Int), (0 : Int))
def nFifo : Y41 := ((6 : Int), ((0 : Int), (0 : Int), (0 : Int), (0 : Int), [], []), (0 : Int), [], ByteArray.empty, (0 : Int), (0 : Int))
def tA : Y24 := ([({ data := #[] }, (0 : Int)), ({ data := #[(97 : UInt8)] }, (1 : Int)), ({ data := #[(98 : UInt8)] }, (1 : Int))], [nDir, nFifo])
def tB : Y24 := ([({ data := #[] }, (0 : Int)), ({ data := #[(97 : UInt8)] }, (1 : Int)), ({ data := #[(98 : UInt8)] }, (2 : Int))], [nDir, nFifo, nFifo])
def tC : Y24 := ([({ data := #[] }, (0 : Int))], [nDir1])
def tE : Y24 := ([], [])
theorem f19_eq2 (k : Nat) : f19 (k + 1) =
  Option.bind (f20 k tA tC) fun y0 =>
  Option.bind (f20 k tA tA) fun y1 =>
  Option.bind (f26 k tA tA) fun y2 =>
  bif y2 then
    Option.bind (f26 k tA tB) fun y3 =>
    bif !y3 then
      Option.bind (f24 k tA tB) fun y4 =>
      bif ByteArray.toList y4 == ByteArray.toList { data := #[(97 : UInt8)] } then
        Option.bind (f22 k tA tC) fun y5 =>
        bif ByteArray.toList y5 == ByteArray.toList { data := #[(97 : UInt8)] } then
          Option.bind (f22 k tA tB) fun y6 =>
          bif ByteArray.toList y6 == ByteArray.toList { data := #[] } then
            bif ByteArray.toList y0.1 == ByteArray.toList { data := #[(46 : UInt8)] } then
              bif ByteArray.toList y0.2 == ByteArray.toList { data := #[(109 : UInt8), (111 : UInt8), (100 : UInt8), (101 : UInt8)] } then
                bif ByteArray.toList y1.1 == ByteArray.toList { data := #[] } then
                  bif ByteArray.toList y1.2 == ByteArray.toList { data := #[] } then
                    Option.bind (f28 k tC tA) fun y7 =>
                    bif y7 then
                      Option.bind (f28 k tA tC) fun y8 =>
                      bif !y8 then
                        Option.bind (f22 k tE tA) fun y9 =>
                        bif ByteArray.toList y9 == ByteArray.toList { data := #[(63 : UInt8)] } then
                          Option.bind (f26 k tE tE) fun y10 =>
                          some (!y10)
                        else some (false)
                      else some (false)
                    else some (false)
                  else some (false)
                else some (false)
              else some (false)
            else some (false)
          else some (false)
        else some (false)
      else some (false)
    else some (false)
  else some (false) := f19_eq k
theorem mA (k : Nat) : f42 (k + 40) tA = some true := by kernel_rfl
theorem mB (k : Nat) : f42 (k + 40) tB = some true := by kernel_rfl
theorem mC (k : Nat) : f42 (k + 40) tC = some true := by kernel_rfl
theorem sD : SmallN nDir := ⟨by decide, by intro q hq; exact absurd hq (by simp [nDir]), by decide, by decide, by decide⟩
theorem sD1 : SmallN nDir1 := ⟨by decide, by intro q hq; exact absurd hq (by simp [nDir1]), by decide, by decide, by decide⟩
theorem sF : SmallN nFifo := ⟨by decide, by intro q hq; exact absurd hq (by simp [nFifo]), by decide, by decide, by decide⟩
theorem sA : SmallT tA := ⟨by decide, by intro e he; simp only [tA, List.mem_cons, List.not_mem_nil, or_false] at he; rcases he with rfl | rfl | rfl <;> decide, by decide, by intro e he; simp only [tA, List.mem_cons, List.not_mem_nil, or_false] at he; exact he.elim (fun h => h ▸ sD) (fun h => h ▸ sF)⟩
theorem sB : SmallT tB := ⟨by decide, by intro e he; simp only [tB, List.mem_cons, List.not_mem_nil, or_false] at he; rcases he with rfl | rfl | rfl <;> decide, by decide, by intro e he; simp only [tB, List.mem_cons, List.not_mem_nil, or_false] at he; exact he.elim (fun h => h ▸ sD) (fun h => h.elim (fun h => h ▸ sF) (fun h => h ▸ sF))⟩
theorem sC : SmallT tC := ⟨by decide, by intro e he; simp only [tC, List.mem_cons, List.not_mem_nil, or_false] at he; rcases he with rfl; decide, by decide, by intro e he; simp only [tC, List.mem_cons, List.not_mem_nil, or_false] at he; rcases he with rfl; exact sD1⟩
theorem sE : SmallT tE := ⟨by decide, by intro e he; exact absurd he (by simp [tE]), by decide, by intro e he; exact absurd he (by simp [tE])⟩
theorem bA : treeB tA = true := Option.some.inj ((may_at (k := 2000) (by omega) sA).2.symm.trans (mA 1960))
theorem bB : treeB tB = true := Option.some.inj ((may_at (k := 2000) (by omega) sB).2.symm.trans (mB 1960))
theorem bC : treeB tC = true := Option.some.inj ((may_at (k := 2000) (by omega) sC).2.symm.trans (mC 1960))
theorem bE : treeB tE = false := by
  rw [Bool.eq_false_iff]
  intro h
  have := ((treeB_iff tE).1 h).1
  exact absurd this (by decide)
theorem pAC : pathsB tA tC = ⟨#[97]⟩ := by unfold pathsB; rw [bA, bC]; rfl
theorem pAB : pathsB tA tB = ⟨#[]⟩ := by unfold pathsB; rw [bA, bB]; rfl
theorem pAA : pathsB tA tA = ⟨#[]⟩ := by unfold pathsB; rw [bA]; rfl
theorem pEA : pathsB tE tA = ⟨#[63]⟩ := by unfold pathsB; rw [bE]; rfl
theorem pEE : pathsB tE tE = ⟨#[63]⟩ := by unfold pathsB; rw [bE]; rfl
theorem lAB : linksB tA tB = ⟨#[97]⟩ := by unfold linksB; rw [bA, bB]; rfl
theorem lAA : linksB tA tA = ⟨#[]⟩ := by unfold linksB; rw [bA]; rfl
theorem nAC : nodesB tA tC = (⟨#[46]⟩, ⟨#[109, 111, 100, 101]⟩) := by unfold nodesB; rw [bA, bC]; rfl
theorem nAA : nodesB tA tA = (⟨#[]⟩, ⟨#[]⟩) := by unfold nodesB; rw [bA]; rfl
theorem qAA : sameB tA tA = true := by unfold sameB; rw [pAA, lAA, nAA]; rfl
theorem qAB : sameB tA tB = false := by unfold sameB; rw [pAB, lAB]; rfl
theorem qEE : sameB tE tE = false := by unfold sameB; rw [pEE]; rfl
theorem f20_n {k : Nat} (hk : 2100 ≤ k) {a b : Y24} (ha : SmallT a) (hb : SmallT b) : f20 k a b = some (nodesB a b) := f20_at hk ha hb
theorem f21_n {k : Nat} (hk : 2100 ≤ k) {a b : Y24} (ha : SmallT a) (hb : SmallT b) : f21 k a b = some (nodesB a b) := f21_at hk ha hb
theorem f19_at {k : Nat} (hk : 3000 ≤ k) : f19 k = some true := by
  obtain ⟨k, rfl, h⟩ := one_more hk
  rw [f19_eq2, f20_n (by omega) sA sC, f20_n (by omega) sA sA, f26_at (by omega) sA sA, f26_at (by omega) sA sB, f24_at (by omega) sA sB, f22_at (by omega) sA sC, f22_at (by omega) sA sB, f28_at (by omega) sC sA, f28_at (by omega) sA sC, f22_at (by omega) sE sA, f26_at (by omega) sE sE]
  simp only [Option.bind_some, pAC, pAB, pEA, lAB, nAC, nAA, qAA, qAB, qEE, bA, bC, str_beq]
  rfl
end Go.Proofs.YteiefdnhngfojaaGreatDoor.P
set_option linter.unusedVariables false
set_option linter.unusedSimpArgs false
namespace Go.Proofs.YteiefdnhngfojaaGreatDoor.P
open Go Go.Proofs.YteiefdnhngfojaaGreatDoor.Vm Go.Proofs.YteiefdnhngfojaaGreatDoor.VmI Go.Proofs.YteiefdnhngfojaaGreatDoor.Tr Go.Proofs.YteiefdnhngfojaaGreatDoor.Sp

theorem gtNat (n m : Nat) : decide ((n : Int) > (m : Int)) = !decide (n ≤ m) := by
  by_cases h : n ≤ m
  · rw [decide_eq_true h, decide_eq_false (by omega)]; rfl
  · rw [decide_eq_false h, decide_eq_true (by omega)]; rfl
theorem leNat (n m : Nat) : decide ((n : Int) ≤ (m : Int)) = decide (n ≤ m) := decide_eq_decide.2 (by omega)
theorem gt120 (n : Nat) : decide ((n : Int) > (120 : Int)) = !decide (n ≤ 120) := gtNat n 120
theorem gt250 (n : Nat) : decide ((n : Int) > (250 : Int)) = !decide (n ≤ 250) := gtNat n 250
theorem gt300 (n : Nat) : decide ((n : Int) > (300 : Int)) = !decide (n ≤ 300) := gtNat n 300
theorem le12 (n : Nat) : decide ((n : Int) ≤ (12 : Int)) = decide (n ≤ 12) := leNat n 12
theorem le30 (n : Nat) : decide ((n : Int) ≤ (30 : Int)) = decide (n ≤ 30) := leNat n 30
theorem le300 (n : Nat) : decide ((n : Int) ≤ (300 : Int)) = decide (n ≤ 300) := leNat n 300
def few4 (m : Y38) : Bool := (m.2.2.2.2.1.all fun a => decide (a.1.size ≤ 250) && decide (a.2.size ≤ 250)) && (decide (m.2.2.2.2.1.length ≤ 12) && decide (m.2.2.2.2.2.length ≤ 20))
theorem f107l0_at (k : Nat) (a b c d : Int) (l : List Y43) (q : List Y83) (hl : l.length ≤ 9223372036854775807) : ∀ m n i, n + m = l.length → m < i →
    f107l0 k i (n : Int) a b c d l q = some ((l.drop n).all (fun a => decide (a.1.size ≤ 250) && decide (a.2.size ≤ 250)) && (decide (l.length ≤ 12) && decide (q.length ≤ 20)))
  | 0, n, i, hn, hi => by
    obtain ⟨j, rfl, _⟩ := one_more hi
    rw [f107l0_eq, ltF (by omega), cond_false, List.drop_of_length_le (by omega), le12, le20]
    cases decide (l.length ≤ 12) <;> rfl
  | m + 1, n, i, hn, hi => by
    obtain ⟨j, rfl, hj⟩ := one_more hi
    have h : n < l.length := by omega
    rw [f107l0_eq, ltT h, cond_true, inR h, cond_true, cond_true, at_ h, gt250, gt250, wS (by omega), f107l0_at k a b c d l q hl m (n + 1) j (by omega) (by omega), drop_at h, List.all_cons]
    cases decide (l[n].1.size ≤ 250) <;> cases decide (l[n].2.size ≤ 250) <;> rfl
theorem f107_at {K k : Nat} (hk : K < k) (m : Y38) (hl : m.2.2.2.2.1.length ≤ 9223372036854775807) (hK : m.2.2.2.2.1.length < K) : f107 k m = some (few4 m) := by
  obtain ⟨k, rfl, hk⟩ := one_more hk
  rw [f107_eq]
  exact f107l0_at k _ _ _ _ _ _ hl m.2.2.2.2.1.length 0 k (by omega) (by omega)
def few5 (n : Y41) : Bool := (n.2.2.2.1.all fun q => decide (q.2.size ≤ 300)) && (decide (n.2.2.2.1.length ≤ 20) && (decide (n.2.2.2.2.1.size ≤ 300) && few4 n.2.1))
theorem f61l0_at {K k : Nat} (hk : K < k) (a : Int) (m : Y38) (s : Int) (l : List Y87) (t : ByteArray) (x y : Int) (hl : l.length ≤ 9223372036854775807) (hm : m.2.2.2.2.1.length ≤ 9223372036854775807) (hK : m.2.2.2.2.1.length < K) : ∀ d n i, n + d = l.length → d < i →
    f61l0 k i (n : Int) a m.1 m.2.1 m.2.2.1 m.2.2.2.1 m.2.2.2.2.1 m.2.2.2.2.2 s l t x y = some ((l.drop n).all (fun q => decide (q.2.size ≤ 300)) && (decide (l.length ≤ 20) && (decide (t.size ≤ 300) && few4 m)))
  | 0, n, i, hn, hi => by
    obtain ⟨j, rfl, _⟩ := one_more hi
    rw [f61l0_eq, ltF (by omega), cond_false, List.drop_of_length_le (by omega), le20, le300, f107_at hk (m.1, m.2.1, m.2.2.1, m.2.2.2.1, m.2.2.2.2.1, m.2.2.2.2.2) hm hK]
    cases decide (l.length ≤ 20) <;> cases decide (t.size ≤ 300) <;> rfl
  | d + 1, n, i, hn, hi => by
    obtain ⟨j, rfl, hj⟩ := one_more hi
    have h : n < l.length := by omega
    rw [f61l0_eq, ltT h, cond_true, inR h, cond_true, at_ h, gt300, wS (by omega), f61l0_at hk a m s l t x y hl hm hK d (n + 1) j (by omega) (by omega), drop_at h, List.all_cons]
    cases decide (l[n].2.size ≤ 300) <;> rfl
/-- A node's lists are no longer than memory lets them be, and shorter than K. -/
structure Lim (K : Nat) (n : Y41) : Prop where
  data : n.2.2.2.1.length ≤ 9223372036854775807
  attrs : n.2.1.2.2.2.2.1.length ≤ 9223372036854775807
  dataK : n.2.2.2.1.length < K
  attrsK : n.2.1.2.2.2.2.1.length < K
theorem f61_at {K k : Nat} (hk : K + 1 < k) (n : Y41) (h : Lim K n) : f61 k n = some (few5 n) := by
  obtain ⟨k, rfl, hk⟩ := one_more hk
  have := h.dataK
  rw [f61_eq]
  exact f61l0_at (K := K) (by omega) _ n.2.1 _ _ _ _ _ h.data h.attrs h.attrsK n.2.2.2.1.length 0 k (by omega) (by omega)
def few6 (t : Y24) : Bool := (t.1.all fun e => decide (e.1.size ≤ 120)) && (t.2.all few5 && (decide (t.1.length ≤ 30) && decide (t.2.length ≤ 30)))
theorem f18l1_at {K k : Nat} (hk : K + 1 < k) (E : List Y45) (N : List Y41) (hN : N.length ≤ 9223372036854775807) (h : ∀ x ∈ N, Lim K x) : ∀ d n i, n + d = N.length → d < i → f18l1 k i (n : Int) E N = some ((N.drop n).all few5 && (decide (E.length ≤ 30) && decide (N.length ≤ 30)))
  | 0, n, i, hn, hi => by
    obtain ⟨j, rfl, _⟩ := one_more hi
    rw [f18l1_eq, ltF (by omega), cond_false, List.drop_of_length_le (by omega), le30, le30]
    cases decide (E.length ≤ 30) <;> rfl
  | d + 1, n, i, hn, hi => by
    obtain ⟨j, rfl, hj⟩ := one_more hi
    have hlt : n < N.length := by omega
    rw [f18l1_eq, ltT hlt, cond_true, inR hlt, cond_true, at_ hlt, f61_at hk _ (h _ (List.getElem_mem hlt)), Option.bind_some, wS (by omega), f18l1_at hk E N hN h d (n + 1) j (by omega) (by omega), drop_at hlt, List.all_cons]
    cases few5 N[n] <;> rfl
theorem f18l0_at {K k : Nat} (hk : K + 1 < k) (E : List Y45) (N : List Y41) (hE : E.length ≤ 9223372036854775807) (hN : N.length ≤ 9223372036854775807) (hK : N.length < K) (h : ∀ x ∈ N, Lim K x) : ∀ d n i, n + d = E.length → d < i → f18l0 k i (n : Int) E N = some ((E.drop n).all (fun e => decide (e.1.size ≤ 120)) && (N.all few5 && (decide (E.length ≤ 30) && decide (N.length ≤ 30))))
  | 0, n, i, hn, hi => by
    obtain ⟨j, rfl, _⟩ := one_more hi
    rw [f18l0_eq, ltF (by omega), cond_false, List.drop_of_length_le (by omega)]
    exact f18l1_at hk E N hN h N.length 0 k (by omega) (by omega)
  | d + 1, n, i, hn, hi => by
    obtain ⟨j, rfl, hj⟩ := one_more hi
    have hlt : n < E.length := by omega
    rw [f18l0_eq, ltT hlt, cond_true, inR hlt, cond_true, at_ hlt, gt120, wS (by omega), f18l0_at hk E N hE hN hK h d (n + 1) j (by omega) (by omega), drop_at hlt, List.all_cons]
    cases decide (E[n].1.size ≤ 120) <;> rfl
/-- A tree's lists are no longer than memory lets them be. -/
structure LimT (t : Y24) : Prop where
  entries : t.1.length ≤ 9223372036854775807
  nodes : t.2.length ≤ 9223372036854775807
  data : ∀ n ∈ t.2, n.2.2.2.1.length ≤ 9223372036854775807
  attrs : ∀ n ∈ t.2, n.2.1.2.2.2.2.1.length ≤ 9223372036854775807
/-- Longer than all lists of a tree. -/
def bound (t : Y24) : Nat := t.1.length + t.2.length + (t.2.map fun n => n.2.2.2.1.length + n.2.1.2.2.2.2.1.length).sum + 1
theorem le_sum {α : Type} (f : α → Nat) : ∀ {l : List α} {x : α}, x ∈ l → f x ≤ (l.map f).sum
  | y :: l, x, h => by
    rw [List.map_cons, List.sum_cons]
    rcases List.mem_cons.1 h with rfl | h
    · omega
    · have := le_sum f h; omega
theorem f18_at {k : Nat} (t : Y24) (ht : LimT t) (hk : bound t + 2 < k) : f18 k t = some (few6 t) := by
  obtain ⟨k, rfl, hk⟩ := one_more hk
  have hb : t.1.length < bound t ∧ t.2.length < bound t := by unfold bound; omega
  rw [f18_eq]
  refine f18l0_at (K := bound t) (by omega) t.1 t.2 ht.entries ht.nodes hb.2 (fun x hx => ?_) t.1.length 0 k (by omega) (by omega)
  have := le_sum (fun n : Y41 => n.2.2.2.1.length + n.2.1.2.2.2.2.1.length) hx
  exact ⟨ht.data x hx, ht.attrs x hx, by unfold bound; omega, by unfold bound; omega⟩
theorem few_small {t : Y24} (h : few6 t = true) : SmallT t := by
  unfold few6 at h
  simp only [Bool.and_eq_true, List.all_eq_true, decide_eq_true_eq] at h
  obtain ⟨h1, h2, h3, h4⟩ := h
  refine ⟨h3, fun e he => by have := h1 e he; omega, h4, fun n hn => ?_⟩
  have := h2 n hn
  unfold few5 few4 at this
  simp only [Bool.and_eq_true, List.all_eq_true, decide_eq_true_eq] at this
  obtain ⟨g1, g2, g3, g4, g5, g6⟩ := this
  exact ⟨g2, g1, g3, g5, g6⟩
theorem IsoAsks (a b : Y24) (ha : LimT a) (hb : LimT b) : ∃ k, f3 k a b = some true := by
  refine ⟨bound a + bound b + 4000 + 1, ?_⟩
  have ga := f18_at (k := bound a + bound b + 4000) a ha (by omega)
  have gb := f18_at (k := bound a + bound b + 4000) b hb (by omega)
  rw [f3_eq, ga, gb, f19_at (by omega), Option.bind_some]
  cases h1 : few6 a with
  | false => rfl
  | true =>
    cases h2 : few6 b with
    | false => rfl
    | true =>
      have sa := few_small h1
      have sb := few_small h2
      rw [f20_n (by omega) sa sb, f21_n (by omega) sa sb, f22_at (by omega) sa sb, f23_at (by omega) sa sb, f24_at (by omega) sa sb, f25_at (by omega) sa sb, f26_at (by omega) sa sb, f27_at (by omega) sa sb, f28_at (by omega) sa sb, f29_at (by omega) sa sb]
      simp only [Option.bind_some, Bool.not_true, cond_false, cond_true, beq_self_eq_true]
end Go.Proofs.YteiefdnhngfojaaGreatDoor.P
