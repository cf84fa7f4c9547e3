/-
  Helping laws for the equations: numbers within bounds, elements within a list, loops over a list. Names and paths: the program's functions and the document's give the same answers, those of the lists of bytes. What may be of an ACL and of attributes: the program's functions and the document's give the same answers. What may be of a file's pieces: the program's functions and the document's give the same answers. Which nodes may be: the program's function and the document's give the same answer. Finding a path in a tree, and in rising entries.
-/
import Derived.Test.YteiefdnhngfojaaGreatDoorEqA
import Derived.Test.YteiefdnhngfojaaGreatDoorEqB
import Derived.Test.YteiefdnhngfojaaGreatDoorSp
set_option linter.unusedVariables false
set_option linter.unusedSimpArgs false
namespace Go.Proofs.YteiefdnhngfojaaGreatDoor.P
open Go Go.Proofs.YteiefdnhngfojaaGreatDoor.Vm Go.Proofs.YteiefdnhngfojaaGreatDoor.VmI Go.Proofs.YteiefdnhngfojaaGreatDoor.Tr Go.Proofs.YteiefdnhngfojaaGreatDoor.Sp

theorem w64 {x : Int} (h1 : -9223372036854775808 ≤ x) (h2 : x ≤ 9223372036854775807) : IntKind.wrap IntKind.i64 x = x := by
  unfold IntKind.wrap
  simp [IntKind.bits, IntKind.signed]
  omega
theorem wS {n : Nat} (h : n < 9223372036854775807) : IntKind.wrap IntKind.i64 ((n : Int) + 1) = ((n + 1 : Nat) : Int) := by rw [w64 (by omega) (by omega)]; omega
theorem wP {n : Nat} (h0 : 0 < n) (h : n < 9223372036854775807) : IntKind.wrap IntKind.i64 ((n : Int) - 1) = ((n - 1 : Nat) : Int) := by rw [w64 (by omega) (by omega)]; omega
theorem inR {n m : Nat} (h : n < m) : decide ((0 : Int) ≤ (n : Int) ∧ (n : Int) < (m : Int)) = true := decide_eq_true (by omega)
theorem ltT {n m : Nat} (h : n < m) : decide ((n : Int) < (m : Int)) = true := decide_eq_true (by omega)
theorem ltF {n m : Nat} (h : ¬ n < m) : decide ((n : Int) < (m : Int)) = false := decide_eq_false (by omega)
theorem geT {n m : Nat} (h : m ≤ n) : decide ((n : Int) ≥ (m : Int)) = true := decide_eq_true (by omega)
theorem geF {n m : Nat} (h : n < m) : decide ((n : Int) ≥ (m : Int)) = false := decide_eq_false (by omega)
theorem leT {n m : Nat} (h : n ≤ m) : decide ((n : Int) ≤ (m : Int)) = true := decide_eq_true (by omega)
theorem leF {n m : Nat} (h : m < n) : decide ((n : Int) ≤ (m : Int)) = false := decide_eq_false (by omega)
theorem eqT (n : Nat) : ((n : Int) == (n : Int)) = true := by simp
theorem eqF {n m : Nat} (h : n ≠ m) : ((n : Int) == (m : Int)) = false := beq_eq_false_iff_ne.2 (by omega)
theorem at_ {α : Type} {l : List α} {n : Nat} {d : α} (h : n < l.length) : List.getD l (Int.toNat (n : Int)) d = l[n] := by
  simp [List.getD_eq_getElem?_getD, List.getElem?_eq_getElem h]
theorem byte_ {s : ByteArray} {n : Nat} (h : n < (L s).length) : Array.getD (ByteArray.data s) (Int.toNat (n : Int)) (0 : UInt8) = (L s)[n] := by
  have h' : n < s.data.size := by simpa [L] using h
  have h2 : n < s.size := h'
  simp [L, Array.getD, h2]
theorem drop_at {α : Type} {l : List α} {n : Nat} (h : n < l.length) : l.drop n = l[n] :: l.drop (n + 1) := List.drop_eq_getElem_cons h
theorem str_beq (s : ByteArray) (t : ByteArray) : (ByteArray.toList s == ByteArray.toList t) = (L s == L t) := by
  rw [toList_L, toList_L]
theorem byte_beq (b c : UInt8) : (((b.toNat : Nat) : Int) == ((c.toNat : Nat) : Int)) = (b == c) := by
  by_cases h : b = c
  · simp [h]
  · have : b.toNat ≠ c.toNat := fun e => h (UInt8.toNat_inj.1 e)
    rw [eqF this]
    simp [h]
theorem z0 : ((0 : Nat) : Int) = (0 : Int) := rfl
/-- One more round is there. -/
theorem one_more {k n : Nat} (h : n < k) : ∃ j, k = j + 1 ∧ n ≤ j := ⟨k - 1, by omega, by omega⟩

/-- A loop over places that may end early. -/
def scanN {R : Type} (g : Nat → Option R) (z : R) : Nat → Nat → R
  | 0, _ => z
  | d + 1, n => match g n with
    | some r => r
    | none => scanN g z d (n + 1)
theorem scan_at {R : Type} {F : Nat → Int → Option R} {g : Nat → Option R} {z : R} {len : Nat} (h1 : ∀ i n, n < len → F (i + 1) (n : Int) = match g n with | some r => some r | none => F i ((n + 1 : Nat) : Int)) (h2 : ∀ i, F (i + 1) (len : Int) = some z) :
    ∀ d n i, n + d = len → d < i → F i (n : Int) = some (scanN g z d n)
  | 0, n, i, hn, hi => by
    obtain ⟨j, rfl, _⟩ := one_more hi
    obtain rfl : n = len := by omega
    rw [h2]; rfl
  | d + 1, n, i, hn, hi => by
    obtain ⟨j, rfl, hj⟩ := one_more hi
    rw [h1 j n (by omega), scanN]
    cases g n with
    | some r => rfl
    | none => exact scan_at h1 h2 d (n + 1) j (by omega) (by omega)
theorem scanN_congr {R : Type} {g g' : Nat → Option R} {z : R} : ∀ (d n : Nat), (∀ j, n ≤ j → j < n + d → g j = g' j) → scanN g z d n = scanN g' z d n
  | 0, _, _ => rfl
  | d + 1, n, h => by
    rw [scanN, scanN, h n (Nat.le_refl _) (by omega), scanN_congr d (n + 1) (fun j h1 h2 => h j (by omega) (by omega))]
/-- As a search through the list. -/
theorem scanN_list {R α : Type} {g : α → Option R} {g' : Nat → Option R} {z : R} {l : List α} : ∀ (d n : Nat), n + d = l.length → (∀ j (h : j < l.length), n ≤ j → g' j = g l[j]) → scanN g' z d n = ((l.drop n).findSome? g).getD z
  | 0, n, hn, _ => by rw [List.drop_of_length_le (by omega)]; rfl
  | d + 1, n, hn, h => by
    have hlt : n < l.length := by omega
    rw [scanN, h n hlt (Nat.le_refl _), drop_at hlt, List.findSome?_cons]
    cases g l[n] with
    | some r => rfl
    | none => exact scanN_list d (n + 1) (by omega) (fun j h1 h2 => h j h1 (by omega))
/-- A search for something that fails. -/
theorem findSome_all {α : Type} (p : α → Bool) : ∀ l : List α, (l.findSome? fun x => bif p x then none else some false).getD true = l.all p
  | [] => rfl
  | x :: l => by
    rw [List.findSome?_cons, List.all_cons]
    cases p x with
    | true => simpa using findSome_all p l
    | false => rfl
end Go.Proofs.YteiefdnhngfojaaGreatDoor.P
set_option linter.unusedVariables false
set_option linter.unusedSimpArgs false
namespace Go.Proofs.YteiefdnhngfojaaGreatDoor.P
open Go Go.Proofs.YteiefdnhngfojaaGreatDoor.Vm Go.Proofs.YteiefdnhngfojaaGreatDoor.VmI Go.Proofs.YteiefdnhngfojaaGreatDoor.Tr Go.Proofs.YteiefdnhngfojaaGreatDoor.Sp

theorem L_mk (a : Array UInt8) : L ⟨a⟩ = a.toList := rfl
theorem l0 : L ⟨#[]⟩ = [] := rfl
def okB (b : UInt8) : Bool := !(b == 47) && !(b == 0)
theorem ca_all (n : Bs) : (!Lib.containsAny n [47, 0]) = n.all okB := by
  rw [Bool.eq_iff_iff, Bool.not_eq_true', containsAny_iff, List.all_eq_true]
  simp [okB]
def tailB (n : Bs) : Bool := decide (1 ≤ n.length) && (decide (n.length ≤ 20) && (!(n == [46]) && !(n == [46, 46])))
theorem nameB_eq (n : Bs) : nameB n = (n.all okB && tailB n) := by
  unfold nameB tailB
  rw [← ca_all]
  cases Lib.containsAny n [47, 0] <;> simp
theorem i47 (b : UInt8) : (((b.toNat : Nat) : Int) == (47 : Int)) = (b == 47) := byte_beq b 47
theorem i0 (b : UInt8) : (((b.toNat : Nat) : Int) == (0 : Int)) = (b == 0) := byte_beq b 0
theorem ge1 (n : Nat) : decide ((n : Int) ≥ (1 : Int)) = decide (1 ≤ n) := decide_eq_decide.2 (by omega)
theorem le20 (n : Nat) : decide ((n : Int) ≤ (20 : Int)) = decide (n ≤ 20) := decide_eq_decide.2 (by omega)
theorem le100 (n : Nat) : decide ((n : Int) ≤ (100 : Int)) = decide (n ≤ 100) := decide_eq_decide.2 (by omega)
theorem le8 (n : Nat) : decide ((n : Int) ≤ (8 : Int)) = decide (n ≤ 8) := decide_eq_decide.2 (by omega)
theorem gt100 (n : Nat) : decide ((n : Int) > (100 : Int)) = !decide (n ≤ 100) := by
  by_cases h : n ≤ 100
  · simp [h]; omega
  · simp [h]; omega
theorem gt8 (n : Nat) : decide ((n : Int) > (8 : Int)) = !decide (n ≤ 8) := by
  by_cases h : n ≤ 8
  · simp [h]; omega
  · simp [h]; omega

theorem f106l0_at (k : Nat) (s : ByteArray) (hs : s.size ≤ 1000) : ∀ d n i : Nat, n + d = (L s).length → d < i → f106l0 k i s (n : Int) = some (((L s).drop n).all okB && tailB (L s))
  | 0, n, i, hn, hi => by
    obtain ⟨j, rfl, _⟩ := one_more hi
    rw [f106l0_eq, size_L, ltF (by omega), cond_false, List.drop_of_length_le (by omega), ge1, le20]
    simp only [str_beq, L_mk, tailB, List.all_nil, Bool.true_and]
    cases decide (1 ≤ (L s).length) <;> cases decide ((L s).length ≤ 20) <;> cases (L s == [46]) <;> rfl
  | d + 1, n, i, hn, hi => by
    obtain ⟨j, rfl, hj⟩ := one_more hi
    have hlt : n < (L s).length := by omega
    have hw : n < 9223372036854775807 := by rw [← size_L] at hlt; omega
    rw [f106l0_eq, size_L, ltT hlt, cond_true, inR hlt, cond_true, byte_ hlt, i47, i0, wS hw, f106l0_at k s hs d (n + 1) j (by omega) (by omega), drop_at hlt, List.all_cons, okB]
    cases ((L s)[n] == 47) <;> cases ((L s)[n] == 0) <;> rfl
theorem f106_at {k : Nat} (hk : 1100 ≤ k) {s : ByteArray} (hs : s.size ≤ 1000) : f106 k s = some (nameB (L s)) := by
  obtain ⟨k, rfl, h⟩ := one_more hk
  rw [f106_eq]
  have := f106l0_at k s hs (L s).length 0 k (by omega) (by rw [← size_L]; omega)
  rw [nameB_eq]
  exact this

theorem f162_at {k : Nat} (hk : 1 ≤ k) {s : ByteArray} (hs : s.size ≤ 100000) : f162 k s ⟨#[47, 0]⟩ = some (Lib.containsAny (L s) [47, 0]) := by
  obtain ⟨k, rfl, h⟩ := one_more hk
  rw [f162_eq]
  show (if (⟨#[47, 0]⟩ : ByteArray) = seps then if s.size < 4294967281 then some (Lib.containsAny s.data.toList [47, 0]) else none else none) = _
  rw [if_pos (show (⟨#[47, 0]⟩ : ByteArray) = seps from rfl), if_pos (by omega)]
  rfl
theorem f132_at {k : Nat} (hk : 2 ≤ k) {s : ByteArray} (hs : s.size ≤ 100000) : f132 k s = some (nameB (L s)) := by
  obtain ⟨k, rfl, h⟩ := one_more hk
  rw [f132_eq, f162_at h hs, size_L, ge1, le20]
  simp only [str_beq, L_mk, nameB, Option.bind_some]
  cases decide (1 ≤ (L s).length) <;> cases decide ((L s).length ≤ 20) <;> cases Lib.containsAny (L s) [47, 0] <;> cases (L s == [46]) <;> rfl

theorem splitB_eq (s : ByteArray) : Lib.splitB ⟨#[47]⟩ 0 (Lib.countB s ⟨#[47]⟩) s = (split (L s)).map mkB := by
  have h1 := Lib.splitB_data ⟨#[47]⟩ 0 (Lib.countB s ⟨#[47]⟩) s
  have h2 : Lib.countB s ⟨#[47]⟩ = (L s).count 47 := Lib.count_one 47 (L s)
  have h3 := splitK_eq ((L s).count 47) (L s) rfl
  rw [h2] at h1 ⊢
  have h4 : (Lib.splitB ⟨#[47]⟩ 0 ((L s).count 47) s).map L = split (L s) := by
    rw [← h3]; exact h1
  rw [← h4, List.map_map]
  have : (mkB ∘ L) = id := by funext x; simp
  rw [this, List.map_id]
theorem f131_at {k : Nat} (hk : 1 ≤ k) {s : ByteArray} (hs : s.size ≤ 100000) : f131 k s ⟨#[47]⟩ = some ((split (L s)).map mkB) := by
  obtain ⟨k, rfl, h⟩ := one_more hk
  rw [f131_eq]
  show (if (⟨#[47]⟩ : ByteArray).size = 1 then if s.size < 4294967281 then some (Lib.splitB ⟨#[47]⟩ 0 (Lib.countB s ⟨#[47]⟩) s) else none else none) = _
  rw [if_pos (show (⟨#[47]⟩ : ByteArray).size = 1 from rfl), if_pos (by omega), splitB_eq]

theorem split_len (l : Bs) : (split l).length ≤ l.length + 1 := by
  induction l with
  | nil => simp [split]
  | cons b l ih =>
    by_cases hb : b = 47
    · subst hb; rw [split_sep]; simp; omega
    · rw [split_other hb]
      cases hx : split l with
      | nil => exact absurd hx (split_ne l)
      | cons h t => rw [hx] at ih; simp [consHead] at ih ⊢; omega
theorem split_mem_len (l : Bs) : ∀ n ∈ split l, n.length ≤ l.length := by
  induction l with
  | nil => intro n hn; simp [split] at hn; simp [hn]
  | cons b l ih =>
    intro n hn
    by_cases hb : b = 47
    · subst hb
      rw [split_sep] at hn
      rcases List.mem_cons.1 hn with rfl | hn
      · simp
      · have := ih n hn; simp; omega
    · rw [split_other hb] at hn
      cases hx : split l with
      | nil => exact absurd hx (split_ne l)
      | cons h t =>
        rw [hx] at hn ih
        rcases List.mem_cons.1 hn with rfl | hn
        · have := ih h (by simp); simp; omega
        · have := ih n (by simp [hn]); simp; omega

theorem getMap {ns : List Bs} {n : Nat} (h : n < ns.length) (d : ByteArray) : List.getD (ns.map mkB) (Int.toNat (n : Int)) d = mkB ns[n] := by
  rw [at_ (by simpa using h)]; simp
theorem size_mkB (l : Bs) : (mkB l).size = l.length := by rw [size_L, L_mkB]

theorem f98g0_at (k : Nat) (hk : 2 ≤ k) (ns : List Bs) (hn : ∀ n ∈ ns, n.length ≤ 100000) (hl : ns.length ≤ 100000) : ∀ d n i : Nat, n + d = ns.length → d < i → f98g0 k i (ns.map mkB) (n : Int) = some ((ns.drop n).all nameB)
  | 0, n, i, hn', hi => by
    obtain ⟨j, rfl, _⟩ := one_more hi
    obtain rfl : n = ns.length := by omega
    rw [f98g0_eq, List.length_map, eqT, cond_true, List.drop_length]
    rfl
  | d + 1, n, i, hn', hi => by
    obtain ⟨j, rfl, hj⟩ := one_more hi
    have hlt : n < ns.length := by omega
    rw [f98g0_eq, List.length_map, eqF (by omega), cond_false, inR hlt, cond_true, getMap hlt, f132_at hk (by rw [size_mkB]; exact hn _ (List.getElem_mem hlt)), wS (by omega), f98g0_at k hk ns hn hl d (n + 1) j (by omega) (by omega), drop_at hlt, List.all_cons, L_mkB]
    cases nameB ns[n] <;> rfl
theorem isEmpty_beq (l : Bs) : (l == []) = l.isEmpty := by cases l <;> rfl
theorem f98_at {k : Nat} (hk : 1100 ≤ k) {s : ByteArray} (hs : s.size ≤ 1000) : f98 k s = some (mayB (L s)) := by
  obtain ⟨k, rfl, h⟩ := one_more hk
  have hl := split_len (L s)
  have hm := split_mem_len (L s)
  have h0 : 0 < (split (L s)).length := List.length_pos_iff.2 (split_ne _)
  rw [size_L] at hs
  have hg := f98g0_at k (by omega) (split (L s)) (fun n hn => by have := hm n hn; omega) (by omega) (split (L s)).length 0 (k + 1) (by omega) (by omega)
  rw [f98g0_eq] at hg
  rw [f98_eq, f131_at (by omega) (by rw [size_L]; omega), Option.bind_some, str_beq, size_L, gt100, List.length_map, gt8]
  rw [List.length_map] at hg
  rw [List.drop_zero] at hg
  unfold mayB
  rw [l0, isEmpty_beq]
  cases (L s).isEmpty with
  | true => rfl
  | false =>
    rw [cond_false, Bool.false_or]
    cases decide ((L s).length ≤ 100) with
    | false => rfl
    | true =>
      cases decide ((split (L s)).length ≤ 8) with
      | false => rfl
      | true => exact hg

theorem slR {a b c : Nat} (h1 : a ≤ b) (h2 : b ≤ c) : decide ((0 : Int) ≤ (a : Int) ∧ (a : Int) ≤ (b : Int) ∧ (b : Int) ≤ (c : Int)) = true := decide_eq_true (by omega)
theorem ext_mkB (s : ByteArray) (a i : Nat) : s.extract a i = mkB (((L s).drop a).take (i - a)) := L_inj (by rw [L_extract, L_mkB])
theorem f120l0_at (k : Nat) (s : ByteArray) (hs : (L s).length ≤ 1000) : ∀ (d i a n : Nat) (l : List ByteArray), i + d = (L s).length → a ≤ i → l.length ≤ i → (47 : UInt8) ∉ ((L s).drop a).take (i - a) → d + 1 < n →
    f120l0 k n s (a : Int) (i : Int) l = some (l ++ (split ((L s).drop a)).map mkB)
  | 0, i, a, n, l, hi, ha, hl, hno, hn => by
    obtain ⟨n, rfl, hn⟩ := one_more hn
    obtain ⟨n, rfl, _⟩ := one_more (show 0 < n by omega)
    obtain rfl : i = (L s).length := by omega
    have hfull : ((L s).drop a).take ((L s).length - a) = (L s).drop a := List.take_of_length_le (by rw [List.length_drop]; omega)
    rw [hfull] at hno
    rw [f120l0_eq, size_L, leT (Nat.le_refl _), cond_true, eqT, cond_true, slR ha (Nat.le_refl _), cond_true, decide_eq_true (by simp; omega), cond_true, wS (by omega), f120l0_eq, size_L, leF (by omega), cond_false, Int.toNat_natCast, Int.toNat_natCast, ext_mkB, hfull, split_none _ hno]
    rfl
  | d + 1, i, a, n, l, hi, ha, hl, hno, hn => by
    obtain ⟨n, rfl, hn⟩ := one_more hn
    have hlt : i < (L s).length := by omega
    have htk : ((L s).drop a).take (i + 1 - a) = ((L s).drop a).take (i - a) ++ [(L s)[i]] := by
      rw [show i + 1 - a = (i - a) + 1 from by omega]
      rw [List.take_succ_eq_append_getElem (by rw [List.length_drop]; omega)]
      congr 2
      rw [List.getElem_drop]
      simp only [show a + (i - a) = i from by omega]
    rw [f120l0_eq, size_L, leT (by omega), cond_true, eqF (by omega), cond_false, inR hlt, cond_true, byte_ hlt, i47, wS (by omega)]
    by_cases h47 : (L s)[i] = 47
    · have ih := f120l0_at k s hs d (i + 1) (i + 1) n (l ++ [mkB (((L s).drop a).take (i - a))]) (by omega) (by omega) (by simp; omega) (by simp) (by omega)
      have hsp : split ((L s).drop a) = ((L s).drop a).take (i - a) :: split ((L s).drop (i + 1)) := by
        have e : (L s).drop a = ((L s).drop a).take (i - a) ++ 47 :: (L s).drop (i + 1) := by
          have h1 := List.take_append_drop (i - a) ((L s).drop a)
          have h2 : ((L s).drop a).drop (i - a) = 47 :: (L s).drop (i + 1) := by
            rw [List.drop_drop, show a + (i - a) = i from by omega, List.drop_eq_getElem_cons hlt, h47]
          rw [h2] at h1
          exact h1.symm
        conv => lhs; rw [e]
        rw [split_append, split_none _ hno]
        rfl
      rw [h47, beq_self_eq_true, cond_true, slR ha (by omega), cond_true, decide_eq_true (by simp; omega), cond_true, Int.toNat_natCast, Int.toNat_natCast, ext_mkB, ih, hsp, List.map_cons, List.append_assoc]
      rfl
    · have ih := f120l0_at k s hs d (i + 1) a n l (by omega) (by omega) (by omega) (by
        rw [htk, List.mem_append, not_or]
        exact ⟨hno, by simpa using fun e : (47 : UInt8) = (L s)[i] => h47 e.symm⟩) (by omega)
      rw [beq_eq_false_iff_ne.2 h47, cond_false, ih]
theorem f120_at {k : Nat} (hk : 1100 ≤ k) {s : ByteArray} (hs : s.size ≤ 1000) : f120 k s = some ((split (L s)).map mkB) := by
  obtain ⟨k, rfl, h⟩ := one_more hk
  rw [size_L] at hs
  rw [f120_eq]
  exact f120l0_at k s hs (L s).length 0 0 k [] (by omega) (by omega) (by simp) (by simp) (by omega)

theorem f88l0_at (k : Nat) (hk : 1100 ≤ k) (s : ByteArray) (ns : List Bs) (hn : ∀ n ∈ ns, n.length ≤ 1000) (hl : ns.length ≤ 100000) : ∀ d n i : Nat, n + d = ns.length → d < i → f88l0 k i s (ns.map mkB) (n : Int) = some ((ns.drop n).all nameB && (decide ((L s).length ≤ 100) && decide (ns.length ≤ 8)))
  | 0, n, i, hn', hi => by
    obtain ⟨j, rfl, _⟩ := one_more hi
    rw [f88l0_eq, List.length_map, ltF (by omega), cond_false, List.drop_of_length_le (by omega), size_L, le100, le8]
    cases decide ((L s).length ≤ 100) <;> rfl
  | d + 1, n, i, hn', hi => by
    obtain ⟨j, rfl, hj⟩ := one_more hi
    have hlt : n < ns.length := by omega
    rw [f88l0_eq, List.length_map, ltT hlt, cond_true, inR hlt, cond_true, getMap hlt, f106_at hk (by rw [size_mkB]; exact hn _ (List.getElem_mem hlt)), wS (by omega), f88l0_at k hk s ns hn hl d (n + 1) j (by omega) (by omega), drop_at hlt, List.all_cons, L_mkB]
    cases nameB ns[n] <;> rfl
theorem f88_at {k : Nat} (hk : 1110 ≤ k) {s : ByteArray} (hs : s.size ≤ 1000) : f88 k s = some (mayB (L s)) := by
  obtain ⟨k, rfl, h⟩ := one_more hk
  have hl := split_len (L s)
  have hm := split_mem_len (L s)
  rw [f88_eq, f120_at (by omega) hs, Option.bind_some, str_beq, l0, isEmpty_beq]
  rw [size_L] at hs
  have hg := f88l0_at k (by omega) s (split (L s)) (fun n hn => by have := hm n hn; omega) (by omega) (split (L s)).length 0 k (by omega) (by omega)
  rw [z0] at hg
  rw [hg, List.drop_zero]
  unfold mayB
  cases (L s).isEmpty <;> cases decide ((L s).length ≤ 100) <;> cases decide ((split (L s)).length ≤ 8) <;> cases (split (L s)).all nameB <;> rfl

theorem parts_if (s : Bs) : (if s = [] then ([] : List ByteArray) else if mayB s = true then (split s).map mkB else []) = (parts s).map mkB := by
  unfold parts
  by_cases h : s = []
  · rw [if_pos h, if_pos h]; rfl
  · rw [if_neg h, if_neg h]
    cases mayB s <;> rfl
theorem f87_at {k : Nat} (hk : 1120 ≤ k) {s : ByteArray} (hs : s.size ≤ 1000) : f87 k s = some ((parts (L s)).map mkB) := by
  obtain ⟨k, rfl, h⟩ := one_more hk
  rw [f87_eq, f88_at (by omega) hs, f120_at (by omega) hs, str_beq, l0, ← parts_if]
  by_cases h0 : L s = []
  · rw [if_pos h0, h0]; rfl
  · rw [if_neg h0, beq_eq_false_iff_ne.2 h0]
    cases mayB (L s) <;> rfl
theorem f119_at {k : Nat} (hk : 1120 ≤ k) {s : ByteArray} (hs : s.size ≤ 1000) : f119 k s = some ((parts (L s)).map mkB) := by
  obtain ⟨k, rfl, h⟩ := one_more hk
  rw [f119_eq, f98_at (by omega) hs, f131_at (by omega) (by omega), str_beq, l0, ← parts_if]
  by_cases h0 : L s = []
  · rw [if_pos h0, h0]; rfl
  · rw [if_neg h0, beq_eq_false_iff_ne.2 h0]
    cases mayB (L s) <;> rfl

theorem f152_at {k : Nat} (hk : 1 ≤ k) (ns : List Bs) (h : (join ns).length ≤ 140737488355328) : f152 k (ns.map mkB) ⟨#[47]⟩ = some (mkB (join ns)) := by
  obtain ⟨k, rfl, _⟩ := one_more hk
  rw [f152_eq]
  have e : ((ns.map mkB).map fun x => x.data.toList) = ns := by
    rw [List.map_map]
    have : ((fun x : ByteArray => x.data.toList) ∘ mkB) = id := by funext x; exact L_mkB x
    rw [this, List.map_id]
  have e2 : Lib.join ((ns.map mkB).map fun x => x.data.toList) (⟨#[47]⟩ : ByteArray).data.toList = join ns := by
    rw [e]; exact join_lib ns
  show (if (⟨#[47]⟩ : ByteArray).size = 1 then if (Lib.join ((ns.map mkB).map fun x => x.data.toList) (⟨#[47]⟩ : ByteArray).data.toList).length ≤ 140737488355328 then some (⟨(Lib.join ((ns.map mkB).map fun x => x.data.toList) (⟨#[47]⟩ : ByteArray).data.toList).toArray⟩ : ByteArray) else none else none) = _
  rw [if_pos (show (⟨#[47]⟩ : ByteArray).size = 1 from rfl), e2, if_pos h]
  rfl
theorem lastD (ns : List Bs) (h0 : ns ≠ []) : ns.getLastD [] = ns.getD (ns.length - 1) [] := by
  rw [List.getD_eq_getElem?_getD, ← List.getLast?_eq_getElem?]
  cases ns with
  | nil => exact absurd rfl h0
  | cons a t => simp [List.getLastD_cons, List.getLast?_cons]
theorem lastE (ns : List Bs) (h0 : 0 < ns.length) : ns[ns.length - 1] = ns.getLastD [] := by
  rw [lastD ns (List.length_pos_iff.1 h0), List.getD_eq_getElem?_getD, List.getElem?_eq_getElem (by omega)]
  rfl
theorem f125_at {k : Nat} (hk : 1130 ≤ k) {s : ByteArray} (hs : s.size ≤ 1000) : f125 k s = some (mkB (parentB (L s)), mkB (lastB (L s)), hasParent (L s)) := by
  obtain ⟨k, rfl, h⟩ := one_more hk
  rw [f125_eq, f119_at (by omega) hs, Option.bind_some]
  have ok := parts_ok (L s)
  unfold parentB lastB hasParent
  generalize parts (L s) = ns at ok
  rw [List.length_map]
  by_cases h0 : ns = []
  · subst h0; rfl
  · have hlen : 0 < ns.length := List.length_pos_iff.2 h0
    have hd := ok.deep
    have ok2 : (join ns.dropLast).length ≤ 100 := by rw [List.dropLast_eq_take]; exact (ok.take _).long
    have ht : List.take (Int.toNat (((ns.length - 1 : Nat) : Int) - 0)) (List.drop 0 (ns.map mkB)) = (ns.dropLast).map mkB := by
      rw [Int.sub_zero, Int.toNat_natCast, List.drop_zero, ← List.map_take, List.dropLast_eq_take]
    have hb : (!ns.isEmpty) = true := by cases ns <;> simp_all
    rw [wP hlen (by omega), ht, f152_at (by omega) _ (by omega), Option.bind_some, getMap (by omega), lastE ns hlen, hb]
    rw [show (((ns.length : Nat) : Int) == (0 : Int)) = false from beq_eq_false_iff_ne.2 (by omega), cond_false, decide_eq_true (by omega), cond_true, inR (by omega), cond_true]
theorem f94_at {k : Nat} (hk : 1140 ≤ k) {s : ByteArray} (hs : s.size ≤ 1000) : f94 k s = some (mkB (parentB (L s)), hasParent (L s)) := by
  obtain ⟨k, rfl, h⟩ := one_more hk
  rw [f94_eq, f125_at (by omega) hs]
  rfl
theorem join_dropLast (ns : List Bs) (h0 : ns ≠ []) : join ns.dropLast = (join ns).take ((join ns).length - (ns.getLastD []).length - 1) := by
  have hsp : ns.dropLast ++ [ns.getLastD []] = ns := by
    cases ns with
    | nil => exact absurd rfl h0
    | cons a t =>
      have := List.dropLast_concat_getLast (l := a :: t) (by simp)
      rw [List.getLastD_cons]
      rw [← List.getLast_eq_getLastD (by simp)] 
      exact this
  generalize ns.getLastD [] = z at hsp
  generalize ns.dropLast = y at hsp
  subst hsp
  by_cases hy : y = []
  · subst hy; simp [join]
  · rw [join_append y [z] hy (by simp)]
    simp only [join, List.length_append, List.length_cons]
    rw [List.take_append_of_le_length (by omega), List.take_of_length_le (by omega)]
theorem f40_at {k : Nat} (hk : 1140 ≤ k) {s : ByteArray} (hs : s.size ≤ 1000) : f40 k s = some (mkB (parentB (L s)), hasParent (L s)) := by
  obtain ⟨k, rfl, h⟩ := one_more hk
  rw [f40_eq, f87_at (by omega) hs, Option.bind_some]
  have ok := parts_ok (L s)
  unfold parentB hasParent
  by_cases h0 : parts (L s) = []
  · rw [h0]; rfl
  · have hm : mayB (L s) = true := by
      cases hm : mayB (L s) with
      | true => rfl
      | false => exact absurd (parts_bad hm) h0
    have hj := (may_ok hm).2
    have hjd := join_dropLast _ h0
    rw [hj] at hjd
    have hd := ok.deep
    rw [hjd]
    rw [size_L] at hs
    generalize parts (L s) = ns at *
    have hlen : 0 < ns.length := List.length_pos_iff.2 h0
    have hlast : (ns.getLastD []).length ≤ 20 := by
      have hmem : ns.getLastD [] ∈ ns := by
        rw [← lastE ns hlen]
        exact List.getElem_mem _
      exact ((nameB_iff _).1 (ok.names _ hmem)).2.1
    have hb : (!ns.isEmpty) = true := by cases ns <;> simp_all
    have hmx : minmaxI true 0 (IntKind.wrap IntKind.i64 (IntKind.wrap IntKind.i64 ((((L s).length : Nat) : Int) - (((ns.getLastD []).length : Nat) : Int)) - 1)) = (((L s).length - (ns.getLastD []).length - 1 : Nat) : Int) := by
      rw [w64 (x := (((L s).length : Nat) : Int) - (((ns.getLastD []).length : Nat) : Int)) (by omega) (by omega), w64 (by omega) (by omega)]
      unfold minmaxI
      rw [cond_true]
      split <;> omega
    rw [List.length_map, wP hlen (by omega), getMap (by omega), lastE ns hlen, size_mkB, size_L, hmx, hb]
    rw [show (((ns.length : Nat) : Int) == (0 : Int)) = false from beq_eq_false_iff_ne.2 (by omega), cond_false, inR (by omega), cond_true, decide_eq_true (by omega), cond_true, Int.toNat_natCast, ext_mkB]
    simp

theorem f187_at {k : Nat} (hk : 1 ≤ k) (s : ByteArray) : f187 k s = some false := by
  obtain ⟨k, rfl, _⟩ := one_more hk
  rw [f187_eq, beq_self_eq_true]
  rfl
theorem f164_at {k : Nat} (hk : 2 ≤ k) (s t : ByteArray) : f164 k s t = some (cmpB (L s) (L t)) := by
  obtain ⟨k, rfl, h⟩ := one_more hk
  rw [f164_eq, f187_at h, f187_at h, Option.bind_some, Option.bind_some, cond_false, cond_false, str_beq, toList_L, toList_L]
  unfold cmpB
  cases Op.bytesLess (L s) (L t) with
  | true => rfl
  | false =>
    by_cases h0 : L s = L t
    · rw [if_neg (by simp), if_pos h0, h0, beq_self_eq_true]; rfl
    · rw [if_neg (by simp), if_neg h0, beq_eq_false_iff_ne.2 h0]; rfl
theorem f139l0_at (k : Nat) (hk : 2 ≤ k) (x y : List Bs) (hx : x.length ≤ 1000000) (hy : y.length ≤ 1000000) : ∀ d i n : Nat, i + d = x.length → i ≤ y.length → d < n → f139l0 k n (x.map mkB) (y.map mkB) (x.map mkB) (x.length : Int) (i : Int) = some (cmpL (x.drop i) (y.drop i))
  | 0, i, n, hi, hy', hn => by
    obtain ⟨n, rfl, _⟩ := one_more hn
    rw [f139l0_eq, ltF (by omega), cond_false, List.length_map, List.length_map, List.drop_of_length_le (show x.length ≤ i by omega)]
    by_cases hlt : x.length < y.length
    · rw [ltT hlt, drop_at (show i < y.length by omega)]; rfl
    · rw [ltF hlt, List.drop_of_length_le (show y.length ≤ i by omega)]; rfl
  | d + 1, i, n, hi, hy', hn => by
    obtain ⟨n, rfl, hn⟩ := one_more hn
    have hlt : i < x.length := by omega
    rw [f139l0_eq, ltT hlt, cond_true, List.length_map, List.length_map, inR hlt, cond_true, drop_at hlt]
    by_cases hly : i < y.length
    · rw [geF hly, cond_false, inR hly, cond_true, getMap hlt, getMap hly, f164_at hk, Option.bind_some, L_mkB, L_mkB, wS (by omega), f139l0_at k hk x y hx hy d (i + 1) n (by omega) (by omega) (by omega), drop_at hly, cmpL]
      by_cases h0 : cmpB x[i] y[i] = 0
      · rw [if_pos h0, h0]; rfl
      · rw [if_neg h0, show (cmpB x[i] y[i] != 0) = true from bne_iff_ne.2 h0]; rfl
    · rw [geT (by omega), cond_true, List.drop_of_length_le (show y.length ≤ i by omega), cmpL]
theorem f112_at {k : Nat} (hk : 1130 ≤ k) {s t : ByteArray} (hs : s.size ≤ 1000) (ht : t.size ≤ 1000) : f112 k s t = some (cmpP (L s) (L t)) := by
  obtain ⟨k, rfl, h⟩ := one_more hk
  obtain ⟨k, rfl, h⟩ := one_more (show 1128 < k by omega)
  have h1 := (parts_ok (L s)).deep
  have h2 := (parts_ok (L t)).deep
  have hg := f139l0_at k (by omega) (parts (L s)) (parts (L t)) (by omega) (by omega) (parts (L s)).length 0 k (by omega) (by omega) (by omega)
  rw [z0] at hg
  rw [f112_eq, f119_at (by omega) hs, f119_at (by omega) ht, Option.bind_some, Option.bind_some, f139_eq, List.length_map, hg]
  rfl
theorem f66_at {k : Nat} (hk : 1140 ≤ k) {s t : ByteArray} (hs : s.size ≤ 1000) (ht : t.size ≤ 1000) : f66 k s t = some (lessB (L s) (L t)) := by
  obtain ⟨k, rfl, h⟩ := one_more hk
  rw [f66_eq, f112_at (by omega) hs ht]
  rfl
theorem f91_at {k : Nat} (hk : 1140 ≤ k) {a b : Y45} (hs : a.1.size ≤ 1000) (ht : b.1.size ≤ 1000) : f91 k a b = some (cmpP (L a.1) (L b.1)) := by
  obtain ⟨k, rfl, h⟩ := one_more hk
  rw [f91_eq, f112_at (by omega) hs ht]
  rfl
theorem f134_at {k : Nat} (hk : 1140 ≤ k) {a : Y45} {b : ByteArray} (hs : a.1.size ≤ 1000) (ht : b.size ≤ 1000) : f134 k a b = some (cmpP (L a.1) (L b)) := by
  obtain ⟨k, rfl, h⟩ := one_more hk
  rw [f134_eq, f112_at (by omega) hs ht]
  rfl
theorem f59l0_at (k : Nat) (x y : List Bs) (hx : x.length ≤ 1000000) (hy : y.length ≤ 1000000) : ∀ d i n : Nat, i + d = x.length → i ≤ y.length → d < n → f59l0 k n (x.map mkB) (y.map mkB) (i : Int) = some (decide (cmpL (x.drop i) (y.drop i) < 0))
  | 0, i, n, hi, hy', hn => by
    obtain ⟨n, rfl, _⟩ := one_more hn
    rw [f59l0_eq, List.length_map, List.length_map, ltF (by omega), cond_false, List.drop_of_length_le (show x.length ≤ i by omega)]
    by_cases hlt : x.length < y.length
    · rw [ltT hlt, drop_at (show i < y.length by omega)]; rfl
    · rw [ltF hlt, List.drop_of_length_le (show y.length ≤ i by omega)]; rfl
  | d + 1, i, n, hi, hy', hn => by
    obtain ⟨n, rfl, hn⟩ := one_more hn
    have hlt : i < x.length := by omega
    rw [f59l0_eq, List.length_map, List.length_map, ltT hlt, cond_true, drop_at hlt]
    by_cases hly : i < y.length
    · rw [ltT hly, cond_true, inR hlt, cond_true, inR hly, cond_true, getMap hlt, getMap hly, cond_true, cond_true, str_beq, toList_L, toList_L, L_mkB, L_mkB, wS (by omega), f59l0_at k x y hx hy d (i + 1) n (by omega) (by omega) (by omega), drop_at hly, cmpL]
      by_cases h0 : x[i] = y[i]
      · rw [if_pos (cmpB_zero.2 h0), h0, beq_self_eq_true]; rfl
      · rw [if_neg (fun e => h0 (cmpB_zero.1 e)), beq_eq_false_iff_ne.2 h0]
        show some _ = some _
        congr 1
        rw [Bool.eq_iff_iff, decide_eq_true_eq, cmpB_neg]
    · rw [ltF hly, cond_false, ltF (by omega), List.drop_of_length_le (show y.length ≤ i by omega), cmpL]
      rfl
theorem f59_at {k : Nat} (hk : 1140 ≤ k) {s t : ByteArray} (hs : s.size ≤ 1000) (ht : t.size ≤ 1000) : f59 k s t = some (lessB (L s) (L t)) := by
  obtain ⟨k, rfl, h⟩ := one_more hk
  have h1 := (parts_ok (L s)).deep
  have h2 := (parts_ok (L t)).deep
  rw [f59_eq, f87_at (by omega) hs, f87_at (by omega) ht, Option.bind_some, Option.bind_some]
  exact f59l0_at k (parts (L s)) (parts (L t)) (by omega) (by omega) (parts (L s)).length 0 k (by omega) (by omega) (by omega)
end Go.Proofs.YteiefdnhngfojaaGreatDoor.P
set_option linter.unusedVariables false
set_option linter.unusedSimpArgs false
namespace Go.Proofs.YteiefdnhngfojaaGreatDoor.P
open Go Go.Proofs.YteiefdnhngfojaaGreatDoor.Vm Go.Proofs.YteiefdnhngfojaaGreatDoor.VmI Go.Proofs.YteiefdnhngfojaaGreatDoor.Tr Go.Proofs.YteiefdnhngfojaaGreatDoor.Sp

/-- The element at a place is good, and goes behind the one before it. -/
def okAt {α : Type} (p : α → Bool) (lt : α → α → Bool) (l : List α) (n : Nat) : Bool := match l[n]? with
  | none => true
  | some x => p x && (match n with
    | 0 => true
    | m + 1 => match l[m]? with
      | none => true
      | some y => lt y x)
def rise {α : Type} (p : α → Bool) (lt : α → α → Bool) (l : List α) : Bool := (List.range' 0 l.length).all (okAt p lt l)
section
variable {α : Type} {p : α → Bool} {lt : α → α → Bool} {l : List α}
theorem okAt_zero (h : 0 < l.length) : okAt p lt l 0 = p l[0] := by
  unfold okAt
  rw [List.getElem?_eq_getElem h]
  exact Bool.and_true _
theorem okAt_succ {m : Nat} (h : m + 1 < l.length) : okAt p lt l (m + 1) = (p l[m + 1] && lt (l[m]'(by omega)) l[m + 1]) := by
  unfold okAt
  rw [List.getElem?_eq_getElem h]
  dsimp only
  rw [List.getElem?_eq_getElem (show m < l.length by omega)]
theorem rise_at {F : Nat → Int → Option Bool} {z : Option Bool} (h1 : ∀ i n (h : n < l.length), F (i + 1) (n : Int) = bif okAt p lt l n then F i ((n + 1 : Nat) : Int) else some false) (h2 : ∀ i, F (i + 1) (l.length : Int) = z) :
    ∀ d n i, n + d = l.length → d < i → F i (n : Int) = bif (List.range' n d).all (okAt p lt l) then z else some false
  | 0, n, i, hn, hi => by
    obtain ⟨j, rfl, _⟩ := one_more hi
    obtain rfl : n = l.length := by omega
    rw [h2]; rfl
  | d + 1, n, i, hn, hi => by
    obtain ⟨j, rfl, hj⟩ := one_more hi
    rw [h1 j n (by omega), List.range'_succ, List.all_cons, rise_at h1 h2 d (n + 1) j (by omega) (by omega)]
    cases okAt p lt l n <;> rfl
theorem rise_all {F : Nat → Int → Option Bool} {z : Option Bool} (h1 : ∀ i n (h : n < l.length), F (i + 1) (n : Int) = bif okAt p lt l n then F i ((n + 1 : Nat) : Int) else some false) (h2 : ∀ i, F (i + 1) (l.length : Int) = z) {i : Nat} (hi : l.length < i) :
    F i ((0 : Nat) : Int) = bif rise p lt l then z else some false := rise_at h1 h2 l.length 0 i (by omega) hi
end
theorem gtZ (m : Nat) : decide (((m + 1 : Nat) : Int) > (0 : Int)) = true := decide_eq_true (by omega)
theorem gt0 : decide (((0 : Nat) : Int) > (0 : Int)) = false := rfl
theorem wPs (m : Nat) (h : m < 9223372036854775807) : IntKind.wrap IntKind.i64 (((m + 1 : Nat) : Int) - 1) = ((m : Nat) : Int) := by rw [w64 (by omega) (by omega)]; omega

/-! ### ACLs -/
def aceB (a : Y83) : Bool := decide (a.1 ≥ 1) && (decide (a.1 ≤ 3) && (decide (a.2.2 ≥ 0) && (decide (a.2.2 ≤ 7) && (decide (a.2.1 ≥ 0) && (decide (a.2.1 ≤ 2147483647) && (a.1 != 3 || a.2.1 == 0))))))
def aceL (a b : Y83) : Bool := decide (a.1 < b.1) || (a.1 == b.1 && decide (a.2.1 < b.2.1))
theorem f176_at {k : Nat} (hk : 0 < k) (a : Y83) : f176 k a = some (aceB a) := by
  obtain ⟨k, rfl, _⟩ := one_more hk
  rw [f176_eq, aceB]
  cases decide (a.1 ≥ 1) <;> cases decide (a.1 ≤ 3) <;> cases decide (a.2.2 ≥ 0) <;> cases decide (a.2.2 ≤ 7) <;> cases decide (a.2.1 ≥ 0) <;> cases decide (a.2.1 ≤ 2147483647) <;> cases a.1 != 3 <;> rfl
theorem f165_at {k : Nat} (hk : 0 < k) (a : Y83) : f165 k a = some (aceB a) := by
  obtain ⟨k, rfl, _⟩ := one_more hk
  rw [f165_eq, aceB]
  cases decide (a.1 ≥ 1) <;> cases decide (a.1 ≤ 3) <;> cases decide (a.2.2 ≥ 0) <;> cases decide (a.2.2 ≤ 7) <;> cases decide (a.2.1 ≥ 0) <;> cases decide (a.2.1 ≤ 2147483647) <;> cases a.1 != 3 <;> rfl
theorem f166_at {k : Nat} (hk : 0 < k) (a b : Y83) : f166 k a b = some (aceL a b) := by
  obtain ⟨k, rfl, _⟩ := one_more hk
  rw [f166_eq, aceL]
  cases decide (a.1 < b.1) <;> cases a.1 == b.1 <;> rfl
def cmpI (a b : Int) : Int := if a < b then -1 else if b < a then 1 else 0
theorem f81_at {k : Nat} (hk : 1 < k) (a b : Int) : f81 k a b = some (cmpI a b) := by
  obtain ⟨k, rfl, _⟩ := one_more hk
  obtain ⟨k, rfl, _⟩ := one_more (show 0 < k by omega)
  rw [f81_eq, f118_eq, f118_eq, cmpI]
  simp only [bne_self_eq_false, Option.bind_some, cond_false]
  by_cases h : a < b
  · rw [decide_eq_true h, if_pos h]; rfl
  · rw [decide_eq_false h, if_neg h]
    by_cases h2 : b < a
    · rw [show decide (a > b) = true from decide_eq_true h2, if_pos h2]; rfl
    · rw [show decide (a > b) = false from decide_eq_false h2, if_neg h2]; rfl
theorem f194_at {k : Nat} (hk : 10 < k) (a b : Int) : f194 k [a, b] = some (if a ≠ 0 then a else b) := by
  obtain ⟨k, rfl, h⟩ := one_more hk
  obtain ⟨k, rfl, h⟩ := one_more (show 8 < k by omega)
  obtain ⟨k, rfl, h⟩ := one_more (show 6 < k by omega)
  rw [f194_eq, f194l0_eq]
  show (bif a != 0 then some a else f194l0 (k + 1 + 1) (k + 1) 0 [a, b] 2 1) = _
  by_cases ha : a = 0
  · rw [show (a != 0) = false by simp [ha], cond_false, f194l0_eq, if_neg (by simp [ha])]
    show (bif b != 0 then some b else f194l0 (k + 1 + 1) k 0 [a, b] 2 2) = _
    by_cases hb : b = 0
    · obtain ⟨k, rfl, h⟩ := one_more (show 4 < k by omega)
      rw [show (b != 0) = false by simp [hb], cond_false, f194l0_eq, hb]
      rfl
    · rw [show (b != 0) = true by simp [hb], cond_true]
  · rw [show (a != 0) = true by simp [ha], cond_true, if_pos ha]
theorem f177_at {k : Nat} (hk : 12 < k) (a b : Y83) : ∃ c, f177 k a b = some c ∧ decide (c ≥ 0) = !aceL a b := by
  obtain ⟨k, rfl, h⟩ := one_more hk
  refine ⟨if cmpI a.1 b.1 ≠ 0 then cmpI a.1 b.1 else cmpI a.2.1 b.2.1, ?_, ?_⟩
  · rw [f177_eq, f81_at (by omega), f81_at (by omega), Option.bind_some, Option.bind_some, f194_at (by omega)]; rfl
  · unfold cmpI aceL
    by_cases h1 : a.1 < b.1
    · simp [h1]
    · by_cases h2 : b.1 < a.1
      · have : ¬ a.1 = b.1 := by omega
        simp [h1, h2, this]
      · have : a.1 = b.1 := by omega
        by_cases h3 : a.2.1 < b.2.1
        · simp [h1, h2, this, h3]
        · by_cases h4 : b.2.1 < a.2.1
          · simp [h1, h2, this, h3, h4]
          · simp [h1, h2, this, h3, h4]
/-- Does the last one have the greatest kind? -/
def lastM (l : List Y83) : Bool := match l.getLast? with
  | none => true
  | some a => a.1 == 3
theorem f155_go (k : Nat) (l : List Y83) : f155 (k + 1) l = f155g0 k (k + 1) l ((0 : Nat) : Int) := by
  rw [f155_eq, f155g0_eq]; rfl
def aclB (l : List Y83) : Bool := rise aceB aceL l && (decide (l.length ≤ 16) && lastM l)
theorem le16 (n : Nat) : decide ((n : Int) ≤ (16 : Int)) = decide (n ≤ 16) := decide_eq_decide.2 (by omega)
theorem last_at {α : Type} {l : List α} {m : Nat} (h : l.length = m + 1) : l.getLast? = some (l[m]'(by omega)) := by
  rw [List.getLast?_eq_getElem?, show l.length - 1 = m by omega, List.getElem?_eq_getElem]
theorem f155g0_last (k : Nat) (l : List Y83) (hl : l.length ≤ 100000) (i : Nat) : f155g0 k (i + 1) l (l.length : Int) = some (decide (l.length ≤ 16) && lastM l) := by
  rw [f155g0_eq, ltF (Nat.lt_irrefl _), cond_false, le16]
  cases decide (l.length ≤ 16) with
  | false => rfl
  | true =>
    rw [cond_true]
    cases hm : l.length with
    | zero =>
      have : l = [] := List.length_eq_zero_iff.1 hm
      subst this; rfl
    | succ m =>
      rw [show ((((m + 1 : Nat) : Int)) == (0 : Int)) = false from beq_eq_false_iff_ne.2 (by omega), cond_false, wPs m (by omega), inR (by omega), cond_true, at_ (by omega), lastM, last_at hm]
      rfl
theorem f155g0_step (k : Nat) (hk : 20 < k) (l : List Y83) (hl : l.length ≤ 100000) (i n : Nat) (h : n < l.length) : f155g0 k (i + 1) l (n : Int) = bif okAt aceB aceL l n then f155g0 k i l ((n + 1 : Nat) : Int) else some false := by
  rw [f155g0_eq, ltT h, cond_true, inR h, cond_true, at_ h, f176_at (by omega), Option.bind_some, wS (by omega)]
  cases n with
  | zero =>
    rw [okAt_zero h, gt0, cond_false]
    cases aceB l[0] <;> rfl
  | succ m =>
    obtain ⟨c, hc, hd⟩ := f177_at (show 12 < k by omega) l[m] l[m + 1]
    rw [okAt_succ h, gtZ, cond_true, wPs m (by omega), inR (by omega), cond_true, cond_true, at_ (by omega), hc, Option.bind_some, hd]
    cases aceB l[m + 1] <;> cases aceL l[m] l[m + 1] <;> rfl
theorem f155_at {k : Nat} (hk : 1000 ≤ k) (l : List Y83) (hl : l.length ≤ 900) : f155 k l = some (aclB l) := by
  obtain ⟨k, rfl, h⟩ := one_more hk
  rw [f155_go, rise_all (F := fun i n => f155g0 k i l n) (f155g0_step k (by omega) l (by omega)) (f155g0_last k l (by omega)) (by omega), aclB]
  cases rise aceB aceL l <;> rfl
/-- Is no mask there? -/
def noMask (l : List Y83) : Bool := l.all fun a => !(a.1 == 3)
theorem f167l0_at (k : Nat) (l : List Y83) (hl : l.length ≤ 100000) : ∀ d n i, n + d = l.length → d < i → f167l0 k i l (n : Int) = some ((l.drop n).all (fun a => !(a.1 == 3)) && decide (0 < l.length))
  | 0, n, i, hn, hi => by
    obtain ⟨j, rfl, _⟩ := one_more hi
    rw [f167l0_eq, ltF (by omega), cond_false, List.drop_of_length_le (by omega), show decide (((l.length : Nat) : Int) > 0) = decide (0 < l.length) from decide_eq_decide.2 (by omega)]
    rfl
  | d + 1, n, i, hn, hi => by
    obtain ⟨j, rfl, hj⟩ := one_more hi
    have h : n < l.length := by omega
    rw [f167l0_eq, ltT h, cond_true, inR h, cond_true, at_ h, wS (by omega), f167l0_at k l hl d (n + 1) j (by omega) (by omega), drop_at h, List.all_cons]
    cases l[n].1 == 3 <;> rfl
theorem f167_at {k : Nat} (hk : 990 ≤ k) (l : List Y83) (hl : l.length ≤ 900) : f167 k l = some (noMask l && decide (0 < l.length)) := by
  obtain ⟨k, rfl, h⟩ := one_more hk
  rw [f167_eq]
  exact f167l0_at k l (by omega) l.length 0 k (by omega) (by omega)
theorem f142l0_step (k : Nat) (hk : 20 < k) (l : List Y83) (hl : l.length ≤ 100000) (i n : Nat) (h : n < l.length) : f142l0 k (i + 1) l (n : Int) = bif okAt aceB aceL l n then f142l0 k i l ((n + 1 : Nat) : Int) else some false := by
  rw [f142l0_eq, ltT h, cond_true, inR h, cond_true, at_ h, f165_at (by omega), Option.bind_some, wS (by omega)]
  cases n with
  | zero =>
    rw [okAt_zero h, gt0, cond_false]
    cases aceB l[0] <;> rfl
  | succ m =>
    rw [okAt_succ h, gtZ, cond_true, wPs m (by omega), inR (by omega), cond_true, cond_true, at_ (by omega), f166_at (by omega), Option.bind_some]
    cases aceB l[m + 1] <;> cases aceL l[m] l[m + 1] <;> rfl
/-- In rising aces a mask is the last one. -/
theorem rise_get {α : Type} {p : α → Bool} {lt : α → α → Bool} {l : List α} (h : rise p lt l = true) {n : Nat} (hn : n < l.length) : okAt p lt l n = true :=
  List.all_eq_true.1 h n (by rw [List.mem_range'_1]; omega)
theorem mask_last {l : List Y83} (h : rise aceB aceL l = true) : lastM l = !(noMask l && decide (0 < l.length)) := by
  cases hm : l.length with
  | zero =>
    have : l = [] := List.length_eq_zero_iff.1 hm
    subst this; rfl
  | succ m =>
    rw [lastM, last_at hm]
    have good : ∀ n (hn : n < l.length), aceB l[n] = true := fun n hn => by
      have := rise_get h hn
      cases n with
      | zero => rwa [okAt_zero hn] at this
      | succ n => rw [okAt_succ hn, Bool.and_eq_true] at this; exact this.1
    have less : ∀ n (hn : n + 1 < l.length), aceL l[n] l[n + 1] = true := fun n hn => by
      have := rise_get h hn
      rw [okAt_succ hn, Bool.and_eq_true] at this; exact this.2
    simp only [Nat.succ_pos, decide_true, Bool.and_true, noMask]
    cases hl : l[m].1 == 3 with
    | true =>
      have : (l.all fun a => !(a.1 == 3)) = false := by
        rw [Bool.eq_false_iff]
        intro hall
        have := List.all_eq_true.1 hall l[m] (List.getElem_mem _)
        rw [hl] at this
        exact absurd this (by simp)
      rw [this]; rfl
    | false =>
      have : (l.all fun a => !(a.1 == 3)) = true := by
        rw [List.all_eq_true]
        intro a ha
        obtain ⟨n, hn, rfl⟩ := List.mem_iff_getElem.1 ha
        by_cases e : n = m
        · subst e; rw [hl]; rfl
        · have hlt := less n (by omega)
          have g1 := good n hn
          have g2 := good (n + 1) (by omega)
          cases h3 : l[n].1 == 3 with
          | false => rfl
          | true =>
            exfalso
            have h3' : l[n].1 = 3 := eq_of_beq h3
            unfold aceB at g1 g2
            unfold aceL at hlt
            simp only [Bool.and_eq_true, Bool.or_eq_true, decide_eq_true_eq, beq_iff_eq, bne_iff_ne] at g1 g2 hlt
            omega
      rw [this]; rfl
theorem f142_at {k : Nat} (hk : 1000 ≤ k) (l : List Y83) (hl : l.length ≤ 900) : f142 k l = some (aclB l) := by
  obtain ⟨k, rfl, h⟩ := one_more hk
  have h2 : ∀ i, f142l0 k (i + 1) l (l.length : Int) = some (decide (l.length ≤ 16) && !(noMask l && decide (0 < l.length))) := fun i => by
    rw [f142l0_eq, ltF (Nat.lt_irrefl _), cond_false, le16, f167_at (by omega) l hl]
    cases decide (l.length ≤ 16) <;> rfl
  rw [f142_eq]
  refine (rise_all (F := fun i n => f142l0 k i l n) (f142l0_step k (by omega) l (by omega)) h2 (by omega)).trans ?_
  rw [aclB]
  cases hr : rise aceB aceL l with
  | false => rfl
  | true => rw [mask_last hr]; rfl

/-! ### Attributes and what all nodes have -/
def attrB (a : Y43) : Bool := decide (1 ≤ (L a.1).length) && (decide ((L a.1).length ≤ 20) && decide ((L a.2).length ≤ 200))
def attrL (a b : Y43) : Bool := Op.bytesLess (L a.1) (L b.1)
theorem le200 (n : Nat) : decide ((n : Int) ≤ (200 : Int)) = decide (n ≤ 200) := decide_eq_decide.2 (by omega)
theorem f153_at {k : Nat} (hk : 0 < k) (a : Y43) : f153 k a = some (attrB a) := by
  obtain ⟨k, rfl, _⟩ := one_more hk
  rw [f153_eq, attrB, size_L, size_L, ge1, le20, le200]
  cases decide (1 ≤ (L a.1).length) <;> cases decide ((L a.1).length ≤ 20) <;> rfl
theorem f141_at {k : Nat} (hk : 0 < k) (a : Y43) : f141 k a = some (attrB a) := by
  obtain ⟨k, rfl, _⟩ := one_more hk
  rw [f141_eq, attrB, size_L, size_L, ge1, le20, le200]
  cases decide (1 ≤ (L a.1).length) <;> cases decide ((L a.1).length ≤ 20) <;> rfl
theorem f154_at {k : Nat} (hk : 3 ≤ k) (a b : Y43) : f154 k a b = some (cmpB (L a.1) (L b.1)) := by
  obtain ⟨k, rfl, h⟩ := one_more hk
  rw [f154_eq, f164_at h]; rfl
theorem cmpB_ge (a b : Bs) : decide (cmpB a b ≥ 0) = !Op.bytesLess a b := by
  unfold cmpB
  cases Op.bytesLess a b with
  | true => rfl
  | false =>
    rw [if_neg (by simp)]
    split <;> rfl
/-- The metadata's numbers may be. -/
def numsB (m : Y38) : Bool := decide (0 ≤ m.1) && (decide (m.1 ≤ 4095) && (decide (0 ≤ m.2.1) && (decide (m.2.1 ≤ 2147483647) && (decide (0 ≤ m.2.2.1) && (decide (m.2.2.1 ≤ 2147483647) && decide (0 ≤ m.2.2.2.1))))))
def metaB (m : Y38) : Bool := numsB m && (rise attrB attrL m.2.2.2.2.1 && (decide (m.2.2.2.2.1.length ≤ 8) && aclB m.2.2.2.2.2))
theorem f127g0_step (k : Nat) (hk : 20 < k) (a b c d : Int) (l : List Y43) (q : List Y83) (hl : l.length ≤ 100000) (i n : Nat) (h : n < l.length) : f127g0 k (i + 1) (n : Int) a b c d l q = bif okAt attrB attrL l n then f127g0 k i ((n + 1 : Nat) : Int) a b c d l q else some false := by
  rw [f127g0_eq, ltT h, cond_true, inR h, cond_true, at_ h, f153_at (by omega), Option.bind_some, wS (by omega)]
  cases n with
  | zero =>
    rw [okAt_zero h, gt0, cond_false]
    cases attrB l[0] <;> rfl
  | succ m =>
    rw [okAt_succ h, gtZ, cond_true, wPs m (by omega), inR (by omega), cond_true, cond_true, at_ (by omega), f154_at (by omega), Option.bind_some, cmpB_ge, attrL]
    cases attrB l[m + 1] <;> cases Op.bytesLess (L l[m].1) (L l[m + 1].1) <;> rfl
theorem ltZ (x : Int) : decide (x < 0) = !decide (0 ≤ x) := by
  by_cases h : 0 ≤ x
  · rw [decide_eq_true h, decide_eq_false (by omega)]; rfl
  · rw [decide_eq_false h, decide_eq_true (by omega)]; rfl
theorem gtN (x y : Int) : decide (x > y) = !decide (x ≤ y) := by
  by_cases h : x ≤ y
  · rw [decide_eq_true h, decide_eq_false (by omega)]; rfl
  · rw [decide_eq_false h, decide_eq_true (by omega)]; rfl
theorem f127_go (k : Nat) (m : Y38) : f127 (k + 1) m = bif numsB m then f127g0 k (k + 1) ((0 : Nat) : Int) m.1 m.2.1 m.2.2.1 m.2.2.2.1 m.2.2.2.2.1 m.2.2.2.2.2 else some false := by
  rw [f127_eq, f127g0_eq, numsB]
  simp only [ltZ, gtN]
  cases decide (0 ≤ m.1) <;> cases decide (m.1 ≤ 4095) <;> cases decide (0 ≤ m.2.1) <;> cases decide (m.2.1 ≤ 2147483647) <;> cases decide (0 ≤ m.2.2.1) <;> cases decide (m.2.2.1 ≤ 2147483647) <;> cases decide (0 ≤ m.2.2.2.1) <;> first | rfl | skip
theorem f127_at {k : Nat} (hk : 1010 ≤ k) (m : Y38) (h1 : m.2.2.2.2.1.length ≤ 900) (h2 : m.2.2.2.2.2.length ≤ 900) : f127 k m = some (metaB m) := by
  obtain ⟨k, rfl, h⟩ := one_more hk
  have hz : ∀ i, f127g0 k (i + 1) (m.2.2.2.2.1.length : Int) m.1 m.2.1 m.2.2.1 m.2.2.2.1 m.2.2.2.2.1 m.2.2.2.2.2 = some (decide (m.2.2.2.2.1.length ≤ 8) && aclB m.2.2.2.2.2) := fun i => by
    rw [f127g0_eq, ltF (Nat.lt_irrefl _), cond_false, le8, f155_at (by omega) _ h2]
    cases decide (m.2.2.2.2.1.length ≤ 8) <;> rfl
  rw [f127_go, rise_all (F := fun i n => f127g0 k i n m.1 m.2.1 m.2.2.1 m.2.2.2.1 m.2.2.2.2.1 m.2.2.2.2.2) (f127g0_step k (by omega) _ _ _ _ _ _ (by omega)) hz (by omega), metaB]
  cases numsB m <;> cases rise attrB attrL m.2.2.2.2.1 <;> rfl
theorem less_flip (a b : Bs) : (Op.bytesLess b a || b == a) = !Op.bytesLess a b := by
  rcases bl_total a b with h | h | h
  · rw [h, bl_asymm h]
    have : ¬ b = a := fun e => by subst e; rw [bl_irrefl] at h; exact absurd h (by simp)
    simp [this]
  · subst h; simp [bl_irrefl]
  · rw [h, bl_asymm h]; rfl
theorem f115l0_step (k : Nat) (hk : 20 < k) (a b c d : Int) (l : List Y43) (q : List Y83) (hl : l.length ≤ 100000) (i n : Nat) (h : n < l.length) : f115l0 k (i + 1) (n : Int) a b c d l q = bif okAt attrB attrL l n then f115l0 k i ((n + 1 : Nat) : Int) a b c d l q else some false := by
  rw [f115l0_eq, ltT h, cond_true, inR h, cond_true, at_ h, f141_at (by omega), Option.bind_some, wS (by omega)]
  cases n with
  | zero =>
    rw [okAt_zero h, gt0, cond_false]
    cases attrB l[0] <;> rfl
  | succ m =>
    rw [okAt_succ h, gtZ, cond_true, wPs m (by omega), inR (show m < l.length by omega), cond_true, cond_true, at_ (show m < l.length by omega), str_beq, toList_L, toList_L, less_flip, attrL]
    cases attrB l[m + 1] <;> cases Op.bytesLess (L l[m].1) (L l[m + 1].1) <;> rfl
theorem geZ (x : Int) : decide (x ≥ 0) = decide (0 ≤ x) := rfl
theorem f115_at {k : Nat} (hk : 1010 ≤ k) (m : Y38) (h1 : m.2.2.2.2.1.length ≤ 900) (h2 : m.2.2.2.2.2.length ≤ 900) : f115 k m = some (metaB m) := by
  obtain ⟨k, rfl, h⟩ := one_more hk
  have hz : ∀ i, f115l0 k (i + 1) (m.2.2.2.2.1.length : Int) m.1 m.2.1 m.2.2.1 m.2.2.2.1 m.2.2.2.2.1 m.2.2.2.2.2 = some (numsB m && (decide (m.2.2.2.2.1.length ≤ 8) && aclB m.2.2.2.2.2)) := fun i => by
    rw [f115l0_eq, ltF (Nat.lt_irrefl _), cond_false, le8, f142_at (by omega) _ h2, numsB]
    simp only [geZ]
    cases decide (0 ≤ m.1) <;> cases decide (m.1 ≤ 4095) <;> cases decide (0 ≤ m.2.1) <;> cases decide (m.2.1 ≤ 2147483647) <;> cases decide (0 ≤ m.2.2.1) <;> cases decide (m.2.2.1 ≤ 2147483647) <;> cases decide (0 ≤ m.2.2.2.1) <;> first | rfl | (cases decide (m.2.2.2.2.1.length ≤ 8) <;> rfl)
  rw [f115_eq]
  refine (rise_all (F := fun i n => f115l0 k i n m.1 m.2.1 m.2.2.1 m.2.2.2.1 m.2.2.2.2.1 m.2.2.2.2.2) (f115l0_step k (by omega) _ _ _ _ _ _ (by omega)) hz (by omega)).trans ?_
  rw [metaB]
  cases numsB m <;> cases rise attrB attrL m.2.2.2.2.1 <;> rfl
end Go.Proofs.YteiefdnhngfojaaGreatDoor.P
set_option linter.unusedVariables false
set_option linter.unusedSimpArgs false
namespace Go.Proofs.YteiefdnhngfojaaGreatDoor.P
open Go Go.Proofs.YteiefdnhngfojaaGreatDoor.Vm Go.Proofs.YteiefdnhngfojaaGreatDoor.VmI Go.Proofs.YteiefdnhngfojaaGreatDoor.Tr Go.Proofs.YteiefdnhngfojaaGreatDoor.Sp

def clamp (x : Int) : Int := minmaxI false (minmaxI true x 0) 1099511627776
theorem clamp_lo (x : Int) : 0 ≤ clamp x := by
  unfold clamp minmaxI
  simp only [cond_true, cond_false]
  split <;> (try split) <;> omega
theorem clamp_hi (x : Int) : clamp x ≤ 1099511627776 := by
  unfold clamp minmaxI
  simp only [cond_true, cond_false]
  split <;> (try split) <;> omega
def fl (x : Int) : Nat := FloatKind.nearest FloatKind.f64 x
theorem f196_at {k : Nat} (hk : 0 < k) (x : Int) : f196 k x = some (clamp x) := by
  obtain ⟨k, rfl, _⟩ := one_more hk
  rw [f196_eq]; rfl
theorem f189_at {k : Nat} (hk : 0 < k) (x : Int) : f189 k x = some (clamp x) := by
  obtain ⟨k, rfl, _⟩ := one_more hk
  rw [f189_eq]; rfl
theorem f181_at {k : Nat} (hk : 1 < k) (x y : Int) : f181 k x y = some (fl (clamp x), fl (clamp y)) := by
  obtain ⟨k, rfl, h⟩ := one_more hk
  rw [f181_eq, f196_at (by omega), f196_at (by omega)]; rfl
theorem f170_at {k : Nat} (hk : 1 < k) (x y : Int) : f170 k x y = some (fl (clamp x), fl (clamp y)) := by
  obtain ⟨k, rfl, h⟩ := one_more hk
  rw [f170_eq, f189_at (by omega), f189_at (by omega)]; rfl
theorem rangeT {m : Nat} (h : m ≤ 1099511627776) : decide (IntKind.min IntKind.i64 ≤ (m : Int) ∧ (m : Int) ≤ IntKind.max IntKind.i64) = true := by
  apply decide_eq_true
  simp [IntKind.min, IntKind.max, IntKind.bits, IntKind.signed]
  omega
theorem f195_at {k : Nat} (hk : 0 < k) {x : Int} (h0 : 0 ≤ x) (h1 : x ≤ 1099511627776) : f195 k (fl x) = some x := by
  obtain ⟨k, rfl, _⟩ := one_more hk
  obtain ⟨m, rfl⟩ : ∃ m : Nat, x = m := ⟨x.toNat, by omega⟩
  rw [f195_eq]
  unfold fl
  rw [Flt.order_zero (by omega), Flt.order_max (by omega), Flt.toInt (by omega), Option.bind_some, rangeT (by omega), cond_true]
  by_cases h : 0 < m
  · rw [if_pos h]
    by_cases h2 : m < 1099511627776
    · rw [if_pos h2]; rfl
    · rw [if_neg h2]; rfl
  · obtain rfl : m = 0 := by omega
    rfl
theorem f188_at {k : Nat} (hk : 0 < k) {x : Int} (h0 : 0 ≤ x) (h1 : x ≤ 1099511627776) : f188 k (fl x) = some x := by
  obtain ⟨k, rfl, _⟩ := one_more hk
  obtain ⟨m, rfl⟩ : ∃ m : Nat, x = m := ⟨x.toNat, by omega⟩
  rw [f188_eq]
  unfold fl
  rw [Flt.order_zero (by omega), Flt.order_max (by omega), Flt.toInt (by omega), Option.bind_some, rangeT (by omega), cond_true]
  by_cases h2 : m < 1099511627776
  · rw [if_pos h2]
    by_cases h : 0 < m
    · rw [if_pos h]; rfl
    · rw [if_neg h]; rfl
  · obtain rfl : m = 1099511627776 := by omega
    rfl
/-- A file's extents. -/
def exts (l : List Y87) : List (Nat × Nat) := l.map fun q => (fl (clamp q.1), fl (clamp (q.2.size : Int)))
/-- They go up, apart, none empty, and end within a size. -/
def chain (size : Int) : Int → List Y87 → Bool
  | e, [] => decide (e ≤ size)
  | e, q :: r => decide (0 < clamp (q.2.size : Int)) && (decide (e < clamp q.1) && chain size (clamp q.1 + clamp (q.2.size : Int)) r)
theorem exts_len (l : List Y87) : (exts l).length = l.length := by simp [exts]
theorem exts_at {l : List Y87} {n : Nat} (h : n < l.length) (d : Nat × Nat) : List.getD (exts l) (Int.toNat (n : Int)) d = (fl (clamp l[n].1), fl (clamp (l[n].2.size : Int))) := by
  rw [at_ (by rw [exts_len]; exact h)]; simp [exts]
theorem f178_at {k : Nat} (hk : 1 < k) (a : Nat) (x : Int) : f178 k (a, fl (clamp x)) = some (clamp x) := by
  obtain ⟨k, rfl, h⟩ := one_more hk
  rw [f178_eq, f195_at (by omega) (clamp_lo x) (clamp_hi x)]; rfl
theorem f179_at {k : Nat} (hk : 1 < k) (a : Nat) (x : Int) : f179 k (fl (clamp x), a) = some (clamp x) := by
  obtain ⟨k, rfl, h⟩ := one_more hk
  rw [f179_eq, f195_at (by omega) (clamp_lo x) (clamp_hi x)]; rfl
theorem f168_at {k : Nat} (hk : 1 < k) (a : Nat) (x : Int) : f168 k (a, fl (clamp x)) = some (clamp x) := by
  obtain ⟨k, rfl, h⟩ := one_more hk
  rw [f168_eq, f188_at (by omega) (clamp_lo x) (clamp_hi x)]; rfl
theorem f169_at {k : Nat} (hk : 1 < k) (a : Nat) (x : Int) : f169 k (fl (clamp x), a) = some (clamp x) := by
  obtain ⟨k, rfl, h⟩ := one_more hk
  rw [f169_eq, f188_at (by omega) (clamp_lo x) (clamp_hi x)]; rfl
theorem f180_at {k : Nat} (hk : 2 < k) (x y : Int) : f180 k (fl (clamp x), fl (clamp y)) = some (clamp x + clamp y) := by
  obtain ⟨k, rfl, h⟩ := one_more hk
  have := clamp_lo x; have := clamp_hi x; have := clamp_lo y; have := clamp_hi y
  rw [f180_eq, f179_at (by omega), f178_at (by omega), Option.bind_some, Option.bind_some, w64 (by omega) (by omega)]
theorem f157l0_at (k : Nat) (hk : 1 < k) (l : List Y87) (hl : l.length ≤ 900) : ∀ d n i, n + d = l.length → d < i → f157l0 k i l (l.length : Int) (n : Int) (exts (l.take n)) = some (exts l)
  | 0, n, i, hn, hi => by
    obtain ⟨j, rfl, _⟩ := one_more hi
    rw [f157l0_eq, ltF (by omega), cond_false, List.take_of_length_le (by omega)]
  | d + 1, n, i, hn, hi => by
    obtain ⟨j, rfl, hj⟩ := one_more hi
    have h : n < l.length := by omega
    have e : exts (l.take (n + 1)) = exts (l.take n) ++ [(fl (clamp l[n].1), fl (clamp (l[n].2.size : Int)))] := by
      rw [List.take_succ_eq_append_getElem h, exts, exts, List.map_append]; rfl
    rw [f157l0_eq, ltT h, cond_true, inR h, cond_true, at_ h, f181_at hk, Option.bind_some, wS (by omega), ← e, f157l0_at k hk l hl d (n + 1) j (by omega) (by omega), decide_eq_true (by rw [exts_len]; simp; omega), cond_true]
theorem f157_at {k : Nat} (hk : 1000 ≤ k) (n : Y41) (h : n.2.2.2.1.length ≤ 900) : f157 k n = some (exts n.2.2.2.1) := by
  obtain ⟨k, rfl, hk⟩ := one_more hk
  rw [f157_eq]
  exact f157l0_at k (by omega) n.2.2.2.1 h n.2.2.2.1.length 0 k (by omega) (by omega)
theorem f144l0_at (k : Nat) (hk : 1 < k) (l : List Y87) (hl : l.length ≤ 900) (a b c d e : Int) (f : List Y43) (g : List Y83) (s : Int) (t : ByteArray) (x y : Int) : ∀ m n i, n + m = l.length → m < i → f144l0 k i (n : Int) a b c d e f g s l t x y (exts (l.take n)) = some (exts l)
  | 0, n, i, hn, hi => by
    obtain ⟨j, rfl, _⟩ := one_more hi
    rw [f144l0_eq, ltF (by omega), cond_false, List.take_of_length_le (by omega)]
  | m + 1, n, i, hn, hi => by
    obtain ⟨j, rfl, hj⟩ := one_more hi
    have h : n < l.length := by omega
    have e' : exts (l.take (n + 1)) = exts (l.take n) ++ [(fl (clamp l[n].1), fl (clamp (l[n].2.size : Int)))] := by
      rw [List.take_succ_eq_append_getElem h, exts, exts, List.map_append]; rfl
    rw [f144l0_eq, ltT h, cond_true, inR h, cond_true, cond_true, at_ h, f170_at hk, Option.bind_some, wS (by omega), ← e', f144l0_at k hk l hl a b c d e f g s t x y m (n + 1) j (by omega) (by omega), decide_eq_true (by rw [exts_len]; simp; omega), cond_true]
theorem f144_at {k : Nat} (hk : 1000 ≤ k) (n : Y41) (h : n.2.2.2.1.length ≤ 900) : f144 k n = some (exts n.2.2.2.1) := by
  obtain ⟨k, rfl, hk⟩ := one_more hk
  rw [f144_eq]
  exact f144l0_at k (by omega) n.2.2.2.1 h _ _ _ _ _ _ _ _ _ _ _ n.2.2.2.1.length 0 k (by omega) (by omega)
theorem f156g0_at (k : Nat) (hk : 2 < k) (l : List Y87) (hl : l.length ≤ 900) (size : Int) : ∀ d n i (e : Int), n + d = l.length → d < i → f156g0 k i (exts l) size (n : Int) e = some (chain size e (l.drop n))
  | 0, n, i, e, hn, hi => by
    obtain ⟨j, rfl, _⟩ := one_more hi
    obtain rfl : n = l.length := by omega
    rw [f156g0_eq, exts_len, eqT, cond_true, List.drop_length]; rfl
  | d + 1, n, i, e, hn, hi => by
    obtain ⟨j, rfl, hj⟩ := one_more hi
    have h : n < l.length := by omega
    rw [f156g0_eq, exts_len, eqF (by omega), cond_false, inR h, cond_true, exts_at h, f178_at (by omega), Option.bind_some, f179_at (by omega), Option.bind_some, f180_at hk, Option.bind_some, wS (by omega), f156g0_at k hk l hl size d (n + 1) j _ (by omega) (by omega), drop_at h, chain]
    have e1 : decide (clamp (l[n].2.size : Int) > 0) = decide (0 < clamp (l[n].2.size : Int)) := rfl
    have e2 : decide (clamp l[n].1 > e) = decide (e < clamp l[n].1) := rfl
    rw [e1, e2]
    cases decide (0 < clamp (l[n].2.size : Int)) <;> cases decide (e < clamp l[n].1) <;> rfl
def sizeB (size : Int) : Bool := decide (0 ≤ size) && decide (size ≤ 1099511627776)
theorem f156_at {k : Nat} (hk : 1000 ≤ k) (l : List Y87) (hl : l.length ≤ 900) (size : Int) : f156 k (exts l) size = some (sizeB size && chain size (-1) l) := by
  obtain ⟨k, rfl, h⟩ := one_more hk
  have hg := f156g0_at k (by omega) l hl size l.length 0 (k + 1) (-1) (by omega) (by omega)
  rw [f156g0_eq] at hg
  rw [f156_eq, ltZ, gtN, sizeB]
  cases decide (0 ≤ size) with
  | false => rfl
  | true =>
    cases decide (size ≤ 1099511627776) with
    | false => rfl
    | true => exact hg
theorem f143l0_at (k : Nat) (hk : 2 < k) (l : List Y87) (hl : l.length ≤ 900) (size : Int) : ∀ d n i (e : Int), n + d = l.length → d < i → f143l0 k i (exts l) size e (n : Int) = some (chain size e (l.drop n))
  | 0, n, i, e, hn, hi => by
    obtain ⟨j, rfl, _⟩ := one_more hi
    obtain rfl : n = l.length := by omega
    rw [f143l0_eq, exts_len, ltF (by omega), cond_false, List.drop_length]; rfl
  | d + 1, n, i, e, hn, hi => by
    obtain ⟨j, rfl, hj⟩ := one_more hi
    have h : n < l.length := by omega
    have b1 := clamp_lo l[n].1; have b2 := clamp_hi l[n].1; have b3 := clamp_lo (l[n].2.size : Int); have b4 := clamp_hi (l[n].2.size : Int)
    rw [f143l0_eq, exts_len, ltT h, cond_true, inR h, cond_true, cond_true, exts_at h, f168_at (by omega), Option.bind_some, f169_at (by omega), Option.bind_some, Option.bind_some, cond_true, Option.bind_some, wS (by omega), w64 (x := clamp l[n].1 + clamp (l[n].2.size : Int)) (by omega) (by omega), f143l0_at k hk l hl size d (n + 1) j _ (by omega) (by omega), drop_at h, chain]
    have e1 : (clamp (l[n].2.size : Int) == 0) = !decide (0 < clamp (l[n].2.size : Int)) := by
      by_cases h0 : clamp (l[n].2.size : Int) = 0
      · rw [h0]; rfl
      · rw [beq_eq_false_iff_ne.2 h0, decide_eq_true (by omega)]; rfl
    have e2 : decide (clamp l[n].1 ≤ e) = !decide (e < clamp l[n].1) := by
      by_cases h0 : clamp l[n].1 ≤ e
      · rw [decide_eq_true h0, decide_eq_false (by omega)]; rfl
      · rw [decide_eq_false h0, decide_eq_true (by omega)]; rfl
    rw [e1, e2]
    cases decide (0 < clamp (l[n].2.size : Int)) <;> cases decide (e < clamp l[n].1) <;> rfl
theorem f143_at {k : Nat} (hk : 1000 ≤ k) (l : List Y87) (hl : l.length ≤ 900) (size : Int) : f143 k (exts l) size = some (sizeB size && chain size (-1) l) := by
  obtain ⟨k, rfl, h⟩ := one_more hk
  rw [f143_eq, ltZ, gtN, sizeB]
  have hg := f143l0_at k (by omega) l hl size l.length 0 k (-1) (by omega) (by omega)
  cases decide (0 ≤ size) with
  | false => rfl
  | true =>
    cases decide (size ≤ 1099511627776) with
    | false => rfl
    | true => exact hg
/-- How many bytes are there. -/
def total (l : List Y87) : Nat := (l.map fun q => q.2.size).sum
theorem total_take (l : List Y87) (n : Nat) (h : n < l.length) : total (l.take (n + 1)) = total (l.take n) + l[n].2.size := by
  rw [List.take_succ_eq_append_getElem h, total, total, List.map_append, List.sum_append]; simp
theorem total_le (l : List Y87) (hs : ∀ q ∈ l, q.2.size ≤ 300) : total l ≤ 300 * l.length := by
  induction l with
  | nil => simp [total]
  | cons q l ih =>
    have := ih (fun x hx => hs x (List.mem_cons_of_mem _ hx))
    have := hs q (by simp)
    simp only [total, List.map_cons, List.sum_cons, List.length_cons] at *
    omega
theorem f76l0_at (k : Nat) (l : List Y87) (hl : l.length ≤ 900) (hs : ∀ q ∈ l, q.2.size ≤ 300) (a b c d e : Int) (f : List Y43) (g : List Y83) (s : Int) (t : ByteArray) (x y : Int) : ∀ m n i, n + m = l.length → m < i → f76l0 k i (total (l.take n) : Int) (n : Int) a b c d e f g s l t x y = some (total l : Int)
  | 0, n, i, hn, hi => by
    obtain ⟨j, rfl, _⟩ := one_more hi
    rw [f76l0_eq, ltF (by omega), cond_false, List.take_of_length_le (by omega)]
  | m + 1, n, i, hn, hi => by
    obtain ⟨j, rfl, hj⟩ := one_more hi
    have h : n < l.length := by omega
    have h1 := hs l[n] (List.getElem_mem h)
    have h2 := total_le (l.take n) (fun q hq => hs q (List.mem_of_mem_take hq))
    have h3 : (l.take n).length ≤ 900 := by rw [List.length_take]; omega
    rw [f76l0_eq, ltT h, cond_true, inR h, cond_true, at_ h, w64 (x := (total (l.take n) : Int) + _) (by omega) (by omega), wS (by omega), ← Int.natCast_add, ← total_take l n h, f76l0_at k l hl hs a b c d e f g s t x y m (n + 1) j (by omega) (by omega)]
theorem f76_at {k : Nat} (hk : 1000 ≤ k) (n : Y41) (h : n.2.2.2.1.length ≤ 900) (hs : ∀ q ∈ n.2.2.2.1, q.2.size ≤ 300) : f76 k n = some (total n.2.2.2.1 : Int) := by
  obtain ⟨k, rfl, hk⟩ := one_more hk
  rw [f76_eq]
  exact f76l0_at k n.2.2.2.1 h hs _ _ _ _ _ _ _ _ _ _ _ n.2.2.2.1.length 0 k (by omega) (by omega)
theorem f105g0_at (k : Nat) (l : List Y87) (hl : l.length ≤ 900) (hs : ∀ q ∈ l, q.2.size ≤ 300) (a b c d e : Int) (f : List Y43) (g : List Y83) (s : Int) (t : ByteArray) (x y : Int) : ∀ m n i, n + m = l.length → m < i → f105g0 k i (total (l.take n) : Int) (n : Int) a b c d e f g s l t x y = some (total l : Int)
  | 0, n, i, hn, hi => by
    obtain ⟨j, rfl, _⟩ := one_more hi
    rw [f105g0_eq, ltF (by omega), cond_false, List.take_of_length_le (by omega)]
  | m + 1, n, i, hn, hi => by
    obtain ⟨j, rfl, hj⟩ := one_more hi
    have h : n < l.length := by omega
    have h1 := hs l[n] (List.getElem_mem h)
    have h2 := total_le (l.take n) (fun q hq => hs q (List.mem_of_mem_take hq))
    have h3 : (l.take n).length ≤ 900 := by rw [List.length_take]; omega
    rw [f105g0_eq, ltT h, cond_true, inR h, cond_true, at_ h, w64 (x := (total (l.take n) : Int) + _) (by omega) (by omega), wS (by omega), ← Int.natCast_add, ← total_take l n h, f105g0_at k l hl hs a b c d e f g s t x y m (n + 1) j (by omega) (by omega)]
theorem f105_at {k : Nat} (hk : 1000 ≤ k) (n : Y41) (h : n.2.2.2.1.length ≤ 900) (hs : ∀ q ∈ n.2.2.2.1, q.2.size ≤ 300) : f105 k n = some (total n.2.2.2.1 : Int) := by
  obtain ⟨k, rfl, hk⟩ := one_more hk
  have hg := f105g0_at k n.2.2.2.1 h hs n.1 n.2.1.1 n.2.1.2.1 n.2.1.2.2.1 n.2.1.2.2.2.1 n.2.1.2.2.2.2.1 n.2.1.2.2.2.2.2 n.2.2.1 n.2.2.2.2.1 n.2.2.2.2.2.1 n.2.2.2.2.2.2 n.2.2.2.1.length 0 (k + 1) (by omega) (by omega)
  rw [f105g0_eq] at hg
  rw [f105_eq]
  exact hg
def pieceB (q : Y87) : Bool := decide (0 ≤ q.1) && decide (q.1 ≤ 1099511627776)
theorem f159_at {k : Nat} (hk : 0 < k) (q : Y87) : f159 k q = some (!pieceB q) := by
  obtain ⟨k, rfl, _⟩ := one_more hk
  rw [f159_eq, pieceB, ltZ, gtN]
  cases decide (0 ≤ q.1) <;> rfl
theorem f182_159l0_at (k : Nat) (hk : 0 < k) (l : List Y87) (hl : l.length ≤ 900) : ∀ d n i, n + d = l.length → d < i → ∃ x, f182_159l0 k i l (l.length : Int) (n : Int) = some x ∧ decide (x ≥ 0) = !(l.drop n).all pieceB
  | 0, n, i, hn, hi => by
    obtain ⟨j, rfl, _⟩ := one_more hi
    refine ⟨-1, ?_, ?_⟩
    · rw [f182_159l0_eq, ltF (by omega), cond_false]
    · rw [List.drop_of_length_le (by omega)]; rfl
  | d + 1, n, i, hn, hi => by
    obtain ⟨j, rfl, hj⟩ := one_more hi
    have h : n < l.length := by omega
    obtain ⟨x, h1, h2⟩ := f182_159l0_at k hk l hl d (n + 1) j (by omega) (by omega)
    rw [f182_159l0_eq, ltT h, cond_true, inR h, cond_true, at_ h, f159_at hk, Option.bind_some, wS (by omega), drop_at h, List.all_cons, h1]
    cases pieceB l[n] with
    | true => exact ⟨x, rfl, by rw [h2]; rfl⟩
    | false => exact ⟨(n : Int), rfl, by rw [decide_eq_true (by omega)]; rfl⟩
theorem f158_159_at {k : Nat} (hk : 1010 ≤ k) (l : List Y87) (hl : l.length ≤ 900) : f158_159 k l = some (!l.all pieceB) := by
  obtain ⟨k, rfl, h⟩ := one_more hk
  obtain ⟨k, rfl, h⟩ := one_more (show 1000 < k by omega)
  obtain ⟨x, h1, h2⟩ := f182_159l0_at k (by omega) l hl l.length 0 k (by omega) (by omega)
  rw [z0] at h1
  rw [f158_159_eq, f182_159_eq, h1, Option.bind_some]
  exact congrArg some h2
/-- A file's size and pieces may be. -/
def dataB (size : Int) (l : List Y87) : Bool := sizeB size && (chain size (-1) l && (decide (total l ≤ 4000) && (decide (l.length ≤ 16) && l.all pieceB)))
theorem le4000 (n : Nat) : decide ((n : Int) ≤ (4000 : Int)) = decide (n ≤ 4000) := decide_eq_decide.2 (by omega)
theorem f128_at {k : Nat} (hk : 1020 ≤ k) (n : Y41) (h : n.2.2.2.1.length ≤ 900) (hs : ∀ q ∈ n.2.2.2.1, q.2.size ≤ 300) : f128 k n = some (dataB n.2.2.1 n.2.2.2.1) := by
  obtain ⟨k, rfl, hk⟩ := one_more hk
  rw [f128_eq, f157_at (by omega) n h, Option.bind_some, f156_at (by omega) _ h, Option.bind_some, f105_at (by omega) n h hs, Option.bind_some, f158_159_at (by omega) _ h, Option.bind_some, le4000, le16, dataB, sizeB, geZ]
  cases decide (0 ≤ n.2.2.1) <;> cases decide (n.2.2.1 ≤ 1099511627776) <;> cases chain n.2.2.1 (-1) n.2.2.2.1 <;> cases decide (total n.2.2.2.1 ≤ 4000) <;> cases decide (n.2.2.2.1.length ≤ 16) <;> cases n.2.2.2.1.all pieceB <;> rfl
def fullB (q : Y87) : Bool := pieceB q && !(q.2.size == 0)
theorem f116l0_at (k : Nat) (hk : 1010 ≤ k) (l : List Y87) (hl : l.length ≤ 900) (hs : ∀ q ∈ l, q.2.size ≤ 300) (a b c d e : Int) (f : List Y43) (g : List Y83) (s : Int) (t : ByteArray) (x y : Int) : ∀ m n i, n + m = l.length → m < i → f116l0 k i (n : Int) a b c d e f g s l t x y = some ((l.drop n).all fullB && (sizeB s && (decide (total l ≤ 4000) && (decide (l.length ≤ 16) && chain s (-1) l))))
  | 0, n, i, hn, hi => by
    obtain ⟨j, rfl, _⟩ := one_more hi
    rw [f116l0_eq, ltF (by omega), cond_false, List.drop_of_length_le (by omega), f76_at (by omega) (a, (b, c, d, e, f, g), s, l, t, x, y) hl hs, Option.bind_some, f144_at (by omega) (a, (b, c, d, e, f, g), s, l, t, x, y) hl, Option.bind_some, f143_at (by omega) l hl, Option.bind_some, le4000, le16, sizeB, geZ]
    cases decide (0 ≤ s) <;> cases decide (s ≤ 1099511627776) <;> cases decide (total l ≤ 4000) <;> cases decide (l.length ≤ 16) <;> rfl
  | m + 1, n, i, hn, hi => by
    obtain ⟨j, rfl, hj⟩ := one_more hi
    have h : n < l.length := by omega
    have e1 : (((l[n].2.size : Nat) : Int) == (0 : Int)) = (l[n].2.size == 0) := by
      by_cases h0 : l[n].2.size = 0
      · rw [h0]; rfl
      · rw [beq_eq_false_iff_ne.2 h0, beq_eq_false_iff_ne.2 (by omega)]
    rw [f116l0_eq, ltT h, cond_true, inR h, cond_true, cond_true, cond_true, at_ h, ltZ, gtN, e1, wS (by omega), f116l0_at k hk l hl hs a b c d e f g s t x y m (n + 1) j (by omega) (by omega), drop_at h, List.all_cons, fullB, pieceB]
    cases decide (0 ≤ l[n].1) <;> cases decide (l[n].1 ≤ 1099511627776) <;> cases l[n].2.size == 0 <;> rfl
theorem chain_full (size : Int) : ∀ (l : List Y87) (e : Int), chain size e l = true → l.all fullB = l.all pieceB
  | [], _, _ => rfl
  | q :: l, e, h => by
    rw [chain, Bool.and_eq_true, Bool.and_eq_true] at h
    have h1 : 0 < clamp (q.2.size : Int) := of_decide_eq_true h.1
    have h2 : ¬ q.2.size = 0 := fun e => by rw [e] at h1; exact absurd h1 (by decide)
    rw [List.all_cons, List.all_cons, chain_full size l _ h.2.2, fullB, beq_eq_false_iff_ne.2 h2]
    simp
theorem f116_at {k : Nat} (hk : 1020 ≤ k) (n : Y41) (h : n.2.2.2.1.length ≤ 900) (hs : ∀ q ∈ n.2.2.2.1, q.2.size ≤ 300) : f116 k n = some (dataB n.2.2.1 n.2.2.2.1) := by
  obtain ⟨k, rfl, hk⟩ := one_more hk
  rw [f116_eq]
  refine (f116l0_at k (by omega) n.2.2.2.1 h hs _ _ _ _ _ _ _ _ _ _ _ n.2.2.2.1.length 0 k (by omega) (by omega)).trans ?_
  rw [List.drop_zero, dataB]
  cases hc : chain n.2.2.1 (-1) n.2.2.2.1 with
  | false => cases n.2.2.2.1.all fullB <;> cases sizeB n.2.2.1 <;> cases decide (total n.2.2.2.1 ≤ 4000) <;> cases decide (n.2.2.2.1.length ≤ 16) <;> rfl
  | true =>
    rw [chain_full _ _ _ hc]
    cases n.2.2.2.1.all pieceB <;> cases sizeB n.2.2.1 <;> cases decide (total n.2.2.2.1 ≤ 4000) <;> cases decide (n.2.2.2.1.length ≤ 16) <;> rfl
end Go.Proofs.YteiefdnhngfojaaGreatDoor.P
set_option linter.unusedVariables false
set_option linter.unusedSimpArgs false
namespace Go.Proofs.YteiefdnhngfojaaGreatDoor.P
open Go Go.Proofs.YteiefdnhngfojaaGreatDoor.Vm Go.Proofs.YteiefdnhngfojaaGreatDoor.VmI Go.Proofs.YteiefdnhngfojaaGreatDoor.Tr Go.Proofs.YteiefdnhngfojaaGreatDoor.Sp

theorem zero_all (l : Bs) : (!decide (0 ≤ Lib.indexByte l 0)) = l.all (fun b => !(b == 0)) := by
  induction l with
  | nil => rfl
  | cons b l ih =>
    rw [Lib.indexByte, List.all_cons, ← ih]
    cases h : b == 0 with
    | true => simp
    | false =>
      have hg := Lib.indexByte_ge l 0
      rw [if_neg (by simp)]
      by_cases h1 : Lib.indexByte l 0 = -1
      · rw [h1]; rfl
      · rw [if_neg (by simpa using h1), decide_eq_true (by omega), decide_eq_true (by omega)]; rfl
theorem f160_at {k : Nat} (hk : 0 < k) (s : ByteArray) : f160 k s ⟨#[0]⟩ = some (decide (0 ≤ Lib.indexByte (L s) 0)) := by
  obtain ⟨k, rfl, _⟩ := one_more hk
  rw [f160_eq]
  show (if (⟨#[0]⟩ : ByteArray) = zeroB then some (decide (0 ≤ Lib.indexByte s.data.toList 0)) else none) = _
  rw [if_pos (show (⟨#[0]⟩ : ByteArray) = zeroB from rfl)]
  rfl
def linkB (t : ByteArray) : Bool := decide (1 ≤ (L t).length) && (decide ((L t).length ≤ 200) && (L t).all fun b => !(b == 0))
theorem f129_at {k : Nat} (hk : 1 < k) (n : Y41) : f129 k n = some (linkB n.2.2.2.2.1) := by
  obtain ⟨k, rfl, h⟩ := one_more hk
  rw [f129_eq, f160_at (by omega), Option.bind_some, zero_all, size_L, ge1, le200, linkB]
  cases decide (1 ≤ (L n.2.2.2.2.1).length) <;> cases decide ((L n.2.2.2.2.1).length ≤ 200) <;> rfl
def dev0 (n : Y41) : Bool := n.2.2.2.2.2.1 == 0 && n.2.2.2.2.2.2 == 0
def devR (n : Y41) : Bool := decide (n.2.2.2.2.2.1 ≥ 0) && (decide (n.2.2.2.2.2.1 ≤ 65535) && (decide (n.2.2.2.2.2.2 ≥ 0) && decide (n.2.2.2.2.2.2 ≤ 65535)))
theorem f130_at {k : Nat} (hk : 0 < k) (n : Y41) : f130 k n = some (bif n.1 == 4 || n.1 == 5 then devR n else dev0 n) := by
  obtain ⟨k, rfl, _⟩ := one_more hk
  rw [f130_eq, devR, dev0, bne, bne]
  generalize (n.1 == 4) = a; generalize (n.1 == 5) = b; generalize (n.2.2.2.2.2.1 == 0) = c; generalize (n.2.2.2.2.2.2 == 0) = d
  generalize decide (n.2.2.2.2.2.1 ≥ 0) = e; generalize decide (n.2.2.2.2.2.1 ≤ 65535) = f; generalize decide (n.2.2.2.2.2.2 ≥ 0) = g; generalize decide (n.2.2.2.2.2.2 ≤ 65535) = h
  revert a b c d e f g h
  decide +kernel
def text0 (t : ByteArray) : Bool := ByteArray.toList t == ByteArray.toList ⟨#[]⟩
def data0 (l : List Y87) : Bool := ((l.length : Nat) : Int) == 0
def kindB (n : Y41) : Bool :=
  bif n.1 == 1 || n.1 == 6 then n.2.2.1 == 0 && (data0 n.2.2.2.1 && (text0 n.2.2.2.2.1 && dev0 n))
  else bif n.1 == 2 then dataB n.2.2.1 n.2.2.2.1 && (text0 n.2.2.2.2.1 && dev0 n)
  else bif n.1 == 3 then n.2.2.1 == 0 && (data0 n.2.2.2.1 && (linkB n.2.2.2.2.1 && dev0 n))
  else bif n.1 == 4 || n.1 == 5 then n.2.2.1 == 0 && (data0 n.2.2.2.1 && (text0 n.2.2.2.2.1 && devR n))
  else false
def nodeB (n : Y41) : Bool := metaB n.2.1 && kindB n
/-- A node of which there is not too much. -/
structure SmallN (n : Y41) : Prop where
  data : n.2.2.2.1.length ≤ 20
  piece : ∀ q ∈ n.2.2.2.1, q.2.size ≤ 300
  target : n.2.2.2.2.1.size ≤ 300
  attrs : n.2.1.2.2.2.2.1.length ≤ 12
  acl : n.2.1.2.2.2.2.2.length ≤ 20
theorem f97_at {k : Nat} (hk : 1100 ≤ k) {n : Y41} (hn : SmallN n) : f97 k n = some (nodeB n) := by
  obtain ⟨k, rfl, h⟩ := one_more hk
  have h1 := hn.data; have h2 := hn.attrs; have h3 := hn.acl
  rw [f97_eq, f127_at (by omega) _ (by omega) (by omega), Option.bind_some, nodeB]
  cases metaB n.2.1 with
  | false => rfl
  | true =>
    simp only [Bool.not_true, cond_false, Bool.true_and, f128_at (show 1020 ≤ k by omega) n (by omega) hn.piece, f129_at (show 1 < k by omega) n, f130_at (show 0 < k by omega) n, Option.bind_some, bne, kindB]
    have t0 : (ByteArray.toList n.2.2.2.2.1 == ByteArray.toList ⟨#[]⟩) = text0 n.2.2.2.2.1 := rfl
    have d0 : (((n.2.2.2.1.length : Nat) : Int) == 0) = data0 n.2.2.2.1 := rfl
    rw [t0, d0]
    generalize dataB n.2.2.1 n.2.2.2.1 = D; generalize text0 n.2.2.2.2.1 = T; generalize data0 n.2.2.2.1 = D0; generalize linkB n.2.2.2.2.1 = K; generalize dev0 n = V0; generalize devR n = VR; generalize (n.2.2.1 == 0) = S
    generalize n.1 = kd
    by_cases k1 : kd = 1
    · subst k1; revert D T D0 K V0 VR S; decide +kernel
    by_cases k2 : kd = 2
    · subst k2; revert D T D0 K V0 VR S; decide +kernel
    by_cases k3 : kd = 3
    · subst k3; revert D T D0 K V0 VR S; decide +kernel
    by_cases k4 : kd = 4
    · subst k4; revert D T D0 K V0 VR S; decide +kernel
    by_cases k5 : kd = 5
    · subst k5; revert D T D0 K V0 VR S; decide +kernel
    by_cases k6 : kd = 6
    · subst k6; revert D T D0 K V0 VR S; decide +kernel
    rw [beq_eq_false_iff_ne.2 k1, beq_eq_false_iff_ne.2 k2, beq_eq_false_iff_ne.2 k3, beq_eq_false_iff_ne.2 k4, beq_eq_false_iff_ne.2 k5, beq_eq_false_iff_ne.2 k6]
    rfl
theorem f73l0_at (k : Nat) (v5 v3 : Bool) (a b c d e : Int) (f : List Y43) (g : List Y83) (s : Int) (l : List Y87) (t : ByteArray) (ht : t.size ≤ 900) (x y : Int) : ∀ m n i, n + m = (L t).length → m < i → f73l0 k i v3 v5 (n : Int) a b c d e f g s l t x y = some (((L t).drop n).all (fun b => !(b == 0)) && (v3 && (v5 && (decide (1 ≤ (L t).length) && decide ((L t).length ≤ 200)))))
  | 0, n, i, hn, hi => by
    obtain ⟨j, rfl, _⟩ := one_more hi
    rw [f73l0_eq, size_L, ltF (by omega), cond_false, List.drop_of_length_le (by omega), ge1, le200]
    cases v3 <;> cases v5 <;> cases decide (1 ≤ (L t).length) <;> rfl
  | m + 1, n, i, hn, hi => by
    obtain ⟨j, rfl, hj⟩ := one_more hi
    rw [size_L] at ht
    have h : n < (L t).length := by omega
    rw [f73l0_eq, size_L, ltT h, cond_true, inR h, cond_true, byte_ h, i0, wS (by omega), f73l0_at k v5 v3 a b c d e f g s l t (by rw [size_L]; exact ht) x y m (n + 1) j (by omega) (by omega), drop_at h, List.all_cons]
    cases (L t)[n] == 0 <;> rfl
theorem f73_at {k : Nat} (hk : 1100 ≤ k) {n : Y41} (hn : SmallN n) : f73 k n = some (nodeB n) := by
  obtain ⟨k, rfl, h⟩ := one_more hk
  have h1 := hn.data; have h2 := hn.attrs; have h3 := hn.acl; have h4 := hn.target
  have hl : ∀ v3 v5 : Bool, f73l0 k k v3 v5 0 n.1 n.2.1.1 n.2.1.2.1 n.2.1.2.2.1 n.2.1.2.2.2.1 n.2.1.2.2.2.2.1 n.2.1.2.2.2.2.2 n.2.2.1 n.2.2.2.1 n.2.2.2.2.1 n.2.2.2.2.2.1 n.2.2.2.2.2.2 = some (v3 && (v5 && linkB n.2.2.2.2.1)) := fun v3 v5 => by
    refine (f73l0_at k v5 v3 _ _ _ _ _ _ _ _ _ n.2.2.2.2.1 (by omega) _ _ (L n.2.2.2.2.1).length 0 k (by omega) (by rw [← size_L]; omega)).trans ?_
    rw [List.drop_zero, linkB]
    cases v3 <;> cases v5 <;> cases decide (1 ≤ (L n.2.2.2.2.1).length) <;> cases decide ((L n.2.2.2.2.1).length ≤ 200) <;> cases (L n.2.2.2.2.1).all (fun b => !(b == 0)) <;> rfl
  rw [f73_eq, f115_at (by omega) _ (by omega) (by omega), Option.bind_some, nodeB]
  cases metaB n.2.1 with
  | false => rfl
  | true =>
    simp only [Bool.not_true, cond_false, Bool.true_and, f116_at (show 1020 ≤ k by omega) n (by omega) hn.piece, hl, Option.bind_some, bne, kindB, dev0, devR]
    have t0 : (ByteArray.toList n.2.2.2.2.1 == ByteArray.toList ⟨#[]⟩) = text0 n.2.2.2.2.1 := rfl
    have d0 : (((n.2.2.2.1.length : Nat) : Int) == 0) = data0 n.2.2.2.1 := rfl
    rw [t0, d0]
    generalize dataB n.2.2.1 n.2.2.2.1 = D; generalize text0 n.2.2.2.2.1 = T; generalize data0 n.2.2.2.1 = D0; generalize linkB n.2.2.2.2.1 = K; generalize (n.2.2.1 == 0) = S
    generalize (n.2.2.2.2.2.1 == 0) = v1; generalize (n.2.2.2.2.2.2 == 0) = v2
    generalize decide (n.2.2.2.2.2.1 ≥ 0) = r1; generalize decide (n.2.2.2.2.2.1 ≤ 65535) = r2; generalize decide (n.2.2.2.2.2.2 ≥ 0) = r3; generalize decide (n.2.2.2.2.2.2 ≤ 65535) = r4
    generalize n.1 = kd
    by_cases k1 : kd = 1
    · subst k1; revert D T D0 K S v1 v2 r1 r2 r3 r4; decide +kernel
    by_cases k2 : kd = 2
    · subst k2; revert D T D0 K S v1 v2 r1 r2 r3 r4; decide +kernel
    by_cases k3 : kd = 3
    · subst k3; revert D T D0 K S v1 v2 r1 r2 r3 r4; decide +kernel
    by_cases k4 : kd = 4
    · subst k4; revert D T D0 K S v1 v2 r1 r2 r3 r4; decide +kernel
    by_cases k5 : kd = 5
    · subst k5; revert D T D0 K S v1 v2 r1 r2 r3 r4; decide +kernel
    by_cases k6 : kd = 6
    · subst k6; revert D T D0 K S v1 v2 r1 r2 r3 r4; decide +kernel
    rw [beq_eq_false_iff_ne.2 k1, beq_eq_false_iff_ne.2 k2, beq_eq_false_iff_ne.2 k3, beq_eq_false_iff_ne.2 k4, beq_eq_false_iff_ne.2 k5, beq_eq_false_iff_ne.2 k6]
    revert D T D0 K S v1 v2 r1 r2 r3 r4; decide +kernel
end Go.Proofs.YteiefdnhngfojaaGreatDoor.P
set_option linter.unusedVariables false
set_option linter.unusedSimpArgs false
namespace Go.Proofs.YteiefdnhngfojaaGreatDoor.P
open Go Go.Proofs.YteiefdnhngfojaaGreatDoor.Vm Go.Proofs.YteiefdnhngfojaaGreatDoor.VmI Go.Proofs.YteiefdnhngfojaaGreatDoor.Tr Go.Proofs.YteiefdnhngfojaaGreatDoor.Sp

/-- The node of a path's first entry. -/
def findE : List Y45 → Bs → Int × Bool
  | [], _ => (0, false)
  | e :: l, p => bif L e.1 == p then (e.2, true) else findE l p
theorem f47l0_at (k : Nat) (E : List Y45) (hE : E.length ≤ 900) (p : ByteArray) : ∀ d n i, n + d = E.length → d < i → f47l0 k i p E (E.length : Int) (n : Int) = some (findE (E.drop n) (L p))
  | 0, n, i, hn, hi => by
    obtain ⟨j, rfl, _⟩ := one_more hi
    rw [f47l0_eq, ltF (by omega), cond_false, List.drop_of_length_le (by omega)]; rfl
  | d + 1, n, i, hn, hi => by
    obtain ⟨j, rfl, hj⟩ := one_more hi
    have h : n < E.length := by omega
    rw [f47l0_eq, ltT h, cond_true, inR h, cond_true, at_ h, str_beq, wS (by omega), f47l0_at k E hE p d (n + 1) j (by omega) (by omega), drop_at h, findE]
    cases L E[n].1 == L p <;> rfl
theorem f47_at {k : Nat} (hk : 1000 ≤ k) (t : Y24) (hE : t.1.length ≤ 900) (p : ByteArray) : f47 k t p = some (findE t.1 (L p)) := by
  obtain ⟨k, rfl, hk⟩ := one_more hk
  rw [f47_eq]
  exact f47l0_at k t.1 hE p t.1.length 0 k (by omega) (by omega)
theorem f33l0_at (k : Nat) (E : List Y45) (N : List Y41) (hE : E.length ≤ 900) (p : ByteArray) : ∀ d n i, n + d = E.length → d < i → f33l0 k i p (n : Int) E N = some (findE (E.drop n) (L p))
  | 0, n, i, hn, hi => by
    obtain ⟨j, rfl, _⟩ := one_more hi
    rw [f33l0_eq, ltF (by omega), cond_false, List.drop_of_length_le (by omega)]; rfl
  | d + 1, n, i, hn, hi => by
    obtain ⟨j, rfl, hj⟩ := one_more hi
    have h : n < E.length := by omega
    rw [f33l0_eq, ltT h, cond_true, inR h, cond_true, cond_true, at_ h, str_beq, wS (by omega), f33l0_at k E N hE p d (n + 1) j (by omega) (by omega), drop_at h, findE]
    cases L E[n].1 == L p <;> rfl
theorem f33_at {k : Nat} (hk : 1000 ≤ k) (t : Y24) (hE : t.1.length ≤ 900) (p : ByteArray) : f33 k t p = some (findE t.1 (L p)) := by
  obtain ⟨k, rfl, hk⟩ := one_more hk
  rw [f33_eq]
  exact f33l0_at k t.1 t.2 hE p t.1.length 0 k (by omega) (by omega)
theorem findE_some : ∀ {E : List Y45} {p : Bs} {x : Int}, findE E p = (x, true) → ∃ j, ∃ h : j < E.length, L E[j].1 = p ∧ E[j].2 = x ∧ ∀ i (hi : i < j), L (E[i]'(by omega)).1 ≠ p
  | [], _, _, h => by simp [findE] at h
  | e :: l, p, x, h => by
    rw [findE] at h
    cases hb : L e.1 == p with
    | true =>
      rw [hb, cond_true, Prod.mk.injEq] at h
      exact ⟨0, by simp, eq_of_beq hb, h.1, fun i hi => absurd hi (by omega)⟩
    | false =>
      rw [hb, cond_false] at h
      obtain ⟨j, hj, h1, h2, h3⟩ := findE_some h
      refine ⟨j + 1, by simp; omega, by simpa using h1, by simpa using h2, fun i hi => ?_⟩
      cases i with
      | zero => simpa using hb
      | succ i => simpa using h3 i (by omega)
theorem findE_none : ∀ {E : List Y45} {p : Bs}, (findE E p).2 = false → findE E p = (0, false) ∧ ∀ e ∈ E, L e.1 ≠ p
  | [], _, _ => ⟨rfl, by simp⟩
  | e :: l, p, h => by
    rw [findE] at h ⊢
    cases hb : L e.1 == p with
    | true => rw [hb] at h; exact absurd h (by simp)
    | false =>
      rw [hb, cond_false] at h
      obtain ⟨h1, h2⟩ := findE_none h
      refine ⟨h1, fun x hx => ?_⟩
      rcases List.mem_cons.1 hx with rfl | hx
      · simpa using hb
      · exact h2 x hx
theorem findE_at {E : List Y45} {p : Bs} {j : Nat} (h : j < E.length) (hp : L E[j].1 = p) (hf : ∀ i (hi : i < j), L (E[i]'(by omega)).1 ≠ p) : findE E p = (E[j].2, true) := by
  cases hb : (findE E p).2 with
  | false => exact absurd hp ((findE_none hb).2 _ (List.getElem_mem h))
  | true =>
    obtain ⟨i, hi, h1, h2, h3⟩ := findE_some (x := (findE E p).1) (by rw [← hb])
    have : i = j := by
      rcases Nat.lt_trichotomy i j with h4 | h4 | h4
      · exact absurd h1 (hf i h4)
      · exact h4
      · exact absurd hp (h3 j h4)
    subst this
    rw [h2, ← hb]

/-! ### The paths' order -/
theorem cmpP_trans {a b c : Bs} (h1 : cmpP a b < 0) (h2 : cmpP b c < 0) : cmpP a c < 0 := cmpL_trans h1 h2
theorem cmpP_swap (a b : Bs) : cmpP a b < 0 ↔ 0 < cmpP b a := cmpL_swap _ _
theorem cmpP_refl (a : Bs) : cmpP a a = 0 := cmpL_refl _
theorem cmpP_zero {a b : Bs} (ha : mayB a = true) (hb : mayB b = true) (h : cmpP a b = 0) : a = b := parts_inj ha hb (cmpL_zero h)
theorem cmpP_eq_trans {a b c : Bs} (h1 : cmpP a b < 0) (h2 : cmpP b c = 0) : cmpP a c < 0 := by
  unfold cmpP at *
  rw [← cmpL_zero h2]; exact h1
theorem cmpP_nil (a : Bs) : ¬ cmpP a [] < 0 := by
  unfold cmpP
  have : parts [] = [] := by simp [parts]
  rw [this]
  cases parts a <;> simp [cmpL]
theorem parent_may (s : Bs) : mayB (parentB s) = true := by
  unfold parentB
  rw [List.dropLast_eq_take]
  exact ((parts_ok s).take _).may
theorem parent_less {s : Bs} (h : hasParent s = true) : cmpP (parentB s) s < 0 := by
  have ok : Ok (parts s).dropLast := by rw [List.dropLast_eq_take]; exact (parts_ok s).take _
  unfold cmpP parentB
  rw [ok.parts]
  have hne : parts s ≠ [] := by
    intro e
    rw [hasParent, e] at h
    exact absurd h (by simp)
  refine cmpL_prefix (List.isPrefixOf_iff_prefix.2 (List.dropLast_prefix _)) (fun e => ?_)
  have := congrArg List.length e
  rw [List.length_dropLast] at this
  have := List.length_pos_iff.2 hne
  omega

/-! ### Rising entries -/
/-- The path of an entry. -/
def P (E : List Y45) (i : Nat) : Bs := L (List.getD E i (ByteArray.empty, 0)).1
theorem P_at {E : List Y45} {i : Nat} (h : i < E.length) : P E i = L E[i].1 := by
  unfold P
  rw [List.getD_eq_getElem?_getD, List.getElem?_eq_getElem h]; rfl
structure Up (E : List Y45) (n : Nat) : Prop where
  may : ∀ i, i < n → mayB (P E i) = true
  up : ∀ i, i + 1 < n → cmpP (P E i) (P E (i + 1)) < 0
theorem Up.lt {E : List Y45} {n : Nat} (h : Up E n) : ∀ {i j : Nat}, i < j → j < n → cmpP (P E i) (P E j) < 0 := by
  intro i j hij hj
  obtain ⟨d, rfl⟩ : ∃ d, j = i + 1 + d := ⟨j - i - 1, by omega⟩
  clear hij
  induction d with
  | zero => exact h.up i hj
  | succ d ih => exact cmpP_trans (ih (by omega)) (h.up (i + 1 + d) hj)
theorem Up.inj {E : List Y45} {n : Nat} (h : Up E n) {i j : Nat} (hi : i < n) (hj : j < n) (e : P E i = P E j) : i = j := by
  rcases Nat.lt_trichotomy i j with h1 | h1 | h1
  · have := h.lt h1 hj; rw [e, cmpP_refl] at this; omega
  · exact h1
  · have := h.lt h1 hi; rw [e, cmpP_refl] at this; omega
theorem mid {lo hi : Nat} (h : lo + hi ≤ 100000) : IntKind.wrap IntKind.i64 (Int.fdiv (IntKind.wrap IntKind.u64 (IntKind.wrap IntKind.i64 ((lo : Int) + (hi : Int)))) ((2 : Int) ^ 1)) = (((lo + hi) / 2 : Nat) : Int) := by
  have h1 : IntKind.wrap IntKind.i64 ((lo : Int) + (hi : Int)) = ((lo + hi : Nat) : Int) := by rw [w64 (by omega) (by omega)]; omega
  have h2 : IntKind.wrap IntKind.u64 ((lo + hi : Nat) : Int) = ((lo + hi : Nat) : Int) := by
    unfold IntKind.wrap
    simp [IntKind.bits, IntKind.signed]
    omega
  rw [h1, h2]
  have h3 : Int.fdiv ((lo + hi : Nat) : Int) ((2 : Int) ^ 1) = (((lo + hi) / 2 : Nat) : Int) := by
    rw [Int.fdiv_eq_ediv_of_nonneg _ (by decide)]
    omega
  rw [h3, w64 (by omega) (by omega)]
/-- The search by halves. -/
theorem search_at (k : Nat) (hk : 1140 ≤ k) (E : List Y45) (hs : ∀ e ∈ E, e.1.size ≤ 1000) (p : ByteArray) (hp : p.size ≤ 1000) (n : Nat) (hn : n ≤ E.length) (hl : n ≤ 1000) (hu : Up E n) :
    ∀ (m lo hi i : Nat), hi - lo ≤ m → lo ≤ hi → hi ≤ n → m < i → (∀ j, j < lo → cmpP (P E j) (L p) < 0) → (∀ j, hi ≤ j → j < n → ¬ cmpP (P E j) (L p) < 0) →
      ∃ (x : Nat) (b : Bool), f133_134l0 k i (E.take n) p (n : Int) (lo : Int) (hi : Int) = some ((x : Int), b) ∧ (b = true → x < n ∧ cmpP (P E x) (L p) = 0) ∧ (b = false → ∀ j, j < n → cmpP (P E j) (L p) ≠ 0) := by
  have hlen : (E.take n).length = n := by rw [List.length_take]; omega
  have get : ∀ j (h : j < n) (d : Y45), List.getD (E.take n) (Int.toNat (j : Int)) d = E[j] := fun j h d => by
    rw [at_ (by omega), List.getElem_take]
  intro m
  induction m with
  | zero =>
    intro lo hi i hm hlh hhn hi' hlo hhi
    obtain ⟨i, rfl, _⟩ := one_more hi'
    obtain rfl : lo = hi := by omega
    rw [f133_134l0_eq, ltF (Nat.lt_irrefl _), cond_false]
    by_cases h : lo < n
    · rw [ltT h, cond_true, hlen, inR h, cond_true, get lo h, f134_at hk (hs _ (List.getElem_mem _)) hp, Option.bind_some]
      refine ⟨lo, _, rfl, fun hb => ⟨h, by rw [P_at (by omega)]; exact eq_of_beq hb⟩, fun hb j hj e => ?_⟩
      have hne : cmpP (P E lo) (L p) ≠ 0 := by rw [P_at (by omega)]; exact beq_eq_false_iff_ne.1 hb
      have hge := hhi lo (Nat.le_refl _) h
      rcases Nat.lt_trichotomy j lo with h1 | h1 | h1
      · have := hlo j h1; omega
      · subst h1; exact hne e
      · have h2 := hu.lt h1 hj
        have h3 : cmpP (P E lo) (L p) < 0 := cmpP_eq_trans h2 e
        omega
    · rw [ltF h, cond_false]
      exact ⟨lo, false, rfl, fun h => absurd h (by simp), fun _ j hj => by have := hlo j (by omega); omega⟩
  | succ m ih =>
    intro lo hi i hm hlh hhn hi' hlo hhi
    obtain ⟨i, rfl, hi''⟩ := one_more hi'
    by_cases h : lo < hi
    · have hmid : (lo + hi) / 2 < n := by omega
      rw [f133_134l0_eq, ltT h, cond_true, mid (by omega), hlen, inR hmid, cond_true, get _ hmid, f134_at hk (hs _ (List.getElem_mem _)) hp, Option.bind_some]
      by_cases hc : cmpP (L E[(lo + hi) / 2].1) (L p) < 0
      · rw [decide_eq_true hc, cond_true, wS (by omega)]
        refine ih _ _ i (by omega) (by omega) hhn (by omega) (fun j hj => ?_) hhi
        rw [← P_at (by omega)] at hc
        by_cases e : j = (lo + hi) / 2
        · rw [e]; exact hc
        · exact cmpP_trans (hu.lt (show j < (lo + hi) / 2 by omega) hmid) hc
      · rw [decide_eq_false hc, cond_false]
        refine ih _ _ i (by omega) (by omega) (by omega) (by omega) hlo (fun j hj hjn h2 => ?_)
        rw [← P_at (by omega)] at hc
        by_cases e : j = (lo + hi) / 2
        · rw [e] at h2; exact hc h2
        · exact hc (cmpP_trans (hu.lt (show (lo + hi) / 2 < j by omega) hjn) h2)
    · obtain rfl : lo = hi := by omega
      exact ih lo lo (i + 1) (by omega) (by omega) hhn (by omega) hlo hhi
end Go.Proofs.YteiefdnhngfojaaGreatDoor.P
