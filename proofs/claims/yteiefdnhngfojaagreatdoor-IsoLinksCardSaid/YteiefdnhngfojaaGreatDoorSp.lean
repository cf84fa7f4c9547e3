/-
  Names and paths as lists of bytes, of no program: how a path falls into names and comes out of them again, which ones may be, what lies under what, and the order of paths. A whole number from 0 below 2^53 goes through a float64 unharmed. How whole numbers from 0 to 2^40 lie as float64.
-/
import Derived.RowKit
import Derived.Lib.SplitLaws
import Derived.Lib.Join
import Derived.Lib.Strings
import Derived.Lib.IndexBytes
import Derived.Lib.IndexAny
import Ieee.Arith
import Derived.Test.YteiefdnhngfojaaGreatDoorVmI
set_option linter.unusedVariables false
set_option linter.unusedSimpArgs false
namespace Go.Proofs.YteiefdnhngfojaaGreatDoor.Sp
open Go Go.RowKit

abbrev Bs := List UInt8
/-- A string's bytes. -/
def L (s : ByteArray) : Bs := s.data.toList
def mkB (l : Bs) : ByteArray := ⟨l.toArray⟩
@[simp] theorem L_mkB (l : Bs) : L (mkB l) = l := by simp [L, mkB]
@[simp] theorem mkB_L (s : ByteArray) : mkB (L s) = s := Lib.mk_data s
theorem L_inj {s t : ByteArray} (h : L s = L t) : s = t := by rw [← mkB_L s, h, mkB_L]
theorem toList_L (s : ByteArray) : s.toList = L s := Lib.toList_data s
theorem size_L (s : ByteArray) : s.size = (L s).length := Lib.size_eq s
theorem L_append (s t : ByteArray) : L (s ++ t) = L s ++ L t := by
  show (s ++ t).data.toList = _
  simp [L]
theorem L_extract (s : ByteArray) (a b : Nat) : L (s.extract a b) = ((L s).drop a).take (b - a) := Lib.extract_data s a b
theorem L_empty : L ByteArray.empty = [] := rfl
theorem L_lit (l : Bs) : L ⟨l.toArray⟩ = l := by simp [L]
theorem toList_eq_iff (s t : ByteArray) : s.toList = t.toList ↔ s = t := ⟨fun h => L_inj (by rw [← toList_L, ← toList_L, h]), fun h => by rw [h]⟩
theorem L_get (s : ByteArray) (i : Nat) (h : i < s.size) : (L s)[i]? = some (s[i]'h) := Lib.data_getElem? s i h
/-! ### Splitting -/
def consHead (b : UInt8) : List Bs → List Bs
  | [] => [[b]]
  | h :: t => (b :: h) :: t
def split : Bs → List Bs
  | [] => [[]]
  | b :: l => if b = 47 then [] :: split l else consHead b (split l)
theorem split_sep (l : Bs) : split (47 :: l) = [] :: split l := by rw [split, if_pos rfl]
theorem split_other {b : UInt8} (h : b ≠ 47) (l : Bs) : split (b :: l) = consHead b (split l) := by rw [split, if_neg h]

theorem split_ne (l : Bs) : split l ≠ [] := by
  cases l with
  | nil => simp [split]
  | cons b l =>
    by_cases h : b = 47
    · subst h; rw [split_sep]; simp
    · rw [split_other h]
      cases split l <;> simp [consHead]

theorem split_append (x y : Bs) : split (x ++ 47 :: y) = split x ++ split y := by
  induction x with
  | nil => rw [List.nil_append, split_sep]; rfl
  | cons b x ih =>
    rw [List.cons_append]
    by_cases hb : b = 47
    · subst hb; rw [split_sep, split_sep, ih]; rfl
    · rw [split_other hb, split_other hb, ih]
      cases hx : split x with
      | nil => exact absurd hx (split_ne x)
      | cons h t => rfl

theorem split_none (x : Bs) (h : (47 : UInt8) ∉ x) : split x = [x] := by
  induction x with
  | nil => rfl
  | cons b x ih =>
    have hb : b ≠ 47 := fun e => h (by simp [e])
    rw [split_other hb, ih (fun hm => h (List.mem_cons_of_mem _ hm))]
    rfl

theorem split_mem (l : Bs) : ∀ n ∈ split l, (47 : UInt8) ∉ n := by
  induction l with
  | nil => intro n hn; simp [split] at hn; simp [hn]
  | cons b l ih =>
    intro n hn
    by_cases hb : b = 47
    · subst hb
      rw [split_sep, List.mem_cons] at hn
      rcases hn with rfl | hn
      · simp
      · exact ih n hn
    · rw [split_other hb] at hn
      cases hx : split l with
      | nil => exact absurd hx (split_ne l)
      | cons h t =>
        rw [hx] at hn ih
        simp only [consHead, List.mem_cons] at hn
        rcases hn with rfl | hn
        · have := ih h (by simp)
          simp only [List.mem_cons, not_or]
          exact ⟨fun e => hb e.symm, this⟩
        · exact ih n (by simp [hn])

def join : List Bs → Bs
  | [] => []
  | [n] => n
  | n :: m :: r => n ++ 47 :: join (m :: r)

theorem join_cons (n : Bs) (r : List Bs) (h : r ≠ []) : join (n :: r) = n ++ 47 :: join r := by
  cases r with
  | nil => exact absurd rfl h
  | cons m r => rfl

theorem join_lib (ns : List Bs) : Lib.join ns [47] = join ns := by
  induction ns with
  | nil => rfl
  | cons n r ih =>
    cases r with
    | nil => rw [Lib.join_one]; rfl
    | cons m r =>
      rw [join_cons n (m :: r) (by simp), ← ih, Lib.join_cons, Lib.join_cons]
      simp [Lib.joinTail]

theorem join_split (l : Bs) : join (split l) = l := by
  induction l with
  | nil => rfl
  | cons b l ih =>
    by_cases hb : b = 47
    · subst hb
      rw [split_sep, join_cons _ _ (split_ne l), ih]
      rfl
    · rw [split_other hb]
      cases hx : split l with
      | nil => exact absurd hx (split_ne l)
      | cons h t =>
        rw [hx] at ih
        cases t with
        | nil => rw [← ih]; rfl
        | cons m t =>
          rw [join_cons _ _ (by simp)] at ih
          rw [consHead, join_cons _ _ (by simp), List.cons_append, ih]

theorem split_join (ns : List Bs) (h0 : ns ≠ []) (h : ∀ n ∈ ns, (47 : UInt8) ∉ n) : split (join ns) = ns := by
  induction ns with
  | nil => exact absurd rfl h0
  | cons n r ih =>
    cases r with
    | nil => exact split_none n (h n (by simp))
    | cons m r =>
      rw [join_cons _ _ (by simp), split_append, split_none n (h n (by simp)), ih (by simp) (fun x hx => h x (List.mem_cons_of_mem _ hx))]
      rfl

theorem join_append (x y : List Bs) (hx : x ≠ []) (hy : y ≠ []) : join (x ++ y) = join x ++ 47 :: join y := by
  induction x with
  | nil => exact absurd rfl hx
  | cons n r ih =>
    cases r with
    | nil => exact join_cons n y hy
    | cons m r =>
      rw [List.cons_append, join_cons n (m :: r ++ y) (by simp), ih (by simp), join_cons n (m :: r) (by simp), List.append_assoc]
      rfl

theorem first_sep (l : Bs) (h : (47 : UInt8) ∈ l) : ∃ x y, l = x ++ 47 :: y ∧ (47 : UInt8) ∉ x := by
  induction l with
  | nil => simp at h
  | cons b l ih =>
    by_cases hb : b = 47
    · exact ⟨[], l, by simp [hb], by simp⟩
    · have hb' : ¬ (47 : UInt8) = b := fun e => hb e.symm
      obtain ⟨x, y, e1, e2⟩ := ih (by simpa [hb'] using h)
      exact ⟨b :: x, y, by rw [e1]; rfl, by simp [e2, hb']⟩

theorem indexByte_first (x y : Bs) (h : (47 : UInt8) ∉ x) : Lib.indexByte (x ++ 47 :: y) 47 = (x.length : Int) := by
  induction x with
  | nil => simp [Lib.indexByte]
  | cons b x ih =>
    simp only [List.mem_cons, not_or] at h
    have hb : (b == 47) = false := by simpa using fun e : b = 47 => h.1 e.symm
    have hr := ih h.2
    rw [List.cons_append, Lib.indexByte, hb, hr]
    have h1 : ((x.length : Int) == -1) = false := beq_eq_false_iff_ne.2 (by omega)
    rw [h1]
    simp

/-- How Go's strings.Split goes about it. -/
theorem splitK_eq (k : Nat) : ∀ l : Bs, l.count 47 = k → Lib.splitK [47] 0 k l = split l := by
  induction k with
  | zero =>
    intro l h
    rw [Lib.splitK, split_none l (List.count_eq_zero.1 h)]
  | succ k ih =>
    intro l h
    have hmem : (47 : UInt8) ∈ l := List.count_pos_iff.1 (by omega)
    obtain ⟨x, y, rfl, hx⟩ := first_sep l hmem
    have hc : y.count 47 = k := by
      rw [List.count_append, List.count_eq_zero.2 hx, List.count_cons_self] at h
      omega
    have h1 : ((x.length : Int) == -1) = false := beq_eq_false_iff_ne.2 (by omega)
    rw [Lib.splitK, Lib.index_one, indexByte_first x y hx, h1]
    simp only [Int.toNat_natCast, Nat.add_zero, List.length_singleton, Bool.false_eq_true, if_false]
    rw [List.take_left, split_append, split_none x hx]
    have hd : (x ++ 47 :: y).drop (x.length + 1) = y := by
      rw [← List.drop_drop]; simp
    rw [hd, ih y hc]
    rfl

/-! ### Which names and paths may be -/
def nameB (n : Bs) : Bool := decide (1 ≤ n.length) && (decide (n.length ≤ 20) && (!Lib.containsAny n [47, 0] && (!(n == [46]) && !(n == [46, 46]))))
def mayB (s : Bs) : Bool := s.isEmpty || (decide (s.length ≤ 100) && (decide ((split s).length ≤ 8) && (split s).all nameB))
/-- A path's names. -/
def parts (s : Bs) : List Bs := if s = [] then [] else if mayB s = true then split s else []

/-- What the names of a path are. -/
structure Ok (ns : List Bs) : Prop where
  names : ∀ n ∈ ns, nameB n = true
  deep : ns.length ≤ 8
  long : (join ns).length ≤ 100

theorem containsAny_iff (n : Bs) : Lib.containsAny n [47, 0] = false ↔ ∀ b ∈ n, b ≠ 47 ∧ b ≠ 0 := by
  unfold Lib.containsAny
  constructor
  · intro h b hb
    refine Classical.byContradiction fun hc => ?_
    have hcon : ([47, 0] : List UInt8).contains b = true := by
      by_cases h1 : b = 47
      · simp [h1]
      · have : b = 0 := Classical.byContradiction fun h2 => hc ⟨h1, h2⟩
        simp [this]
    have hge : ∀ l : Bs, b ∈ l → 0 ≤ Lib.indexAny l [47, 0] := by
      intro l hl
      induction l with
      | nil => simp at hl
      | cons a l ih =>
        unfold Lib.indexAny
        split
        · omega
        · rename_i ha
          have hl' : b ∈ l := by
            rcases List.mem_cons.1 hl with rfl | hl'
            · exact absurd hcon ha
            · exact hl'
          have := ih hl'
          rw [if_neg (by simp; omega)]
          omega
    have := hge n hb
    simp [this] at h
  · intro h
    have : Lib.indexAny n [47, 0] = -1 := Lib.indexAny_none fun j b hj hb => by
      have := h b (List.mem_of_getElem? hb)
      simp [this]
    simp [this]

theorem nameB_iff (n : Bs) : nameB n = true ↔ 1 ≤ n.length ∧ n.length ≤ 20 ∧ (∀ b ∈ n, b ≠ 47 ∧ b ≠ 0) ∧ n ≠ [46] ∧ n ≠ [46, 46] := by
  unfold nameB
  rw [← containsAny_iff]
  simp [Bool.and_eq_true]

theorem nameB_noSep {n : Bs} (h : nameB n = true) : (47 : UInt8) ∉ n := fun hm => (((nameB_iff n).1 h).2.2.1 47 hm).1 rfl
theorem nameB_ne {n : Bs} (h : nameB n = true) : n ≠ [] := fun e => by have := ((nameB_iff n).1 h).1; simp [e] at this

theorem Ok.nil : Ok [] := ⟨by simp, by simp, by simp [join]⟩
theorem Ok.noSep {ns : List Bs} (h : Ok ns) : ∀ n ∈ ns, (47 : UInt8) ∉ n := fun n hn => nameB_noSep (h.names n hn)
theorem Ok.join_ne {ns : List Bs} (h : ∀ n ∈ ns, nameB n = true) (h0 : ns ≠ []) : join ns ≠ [] := by
  cases ns with
  | nil => exact absurd rfl h0
  | cons n r =>
    have hn := nameB_ne (h n (by simp))
    cases r with
    | nil => exact hn
    | cons m r => rw [join_cons _ _ (by simp)]; simp
theorem Ok.split {ns : List Bs} (h : Ok ns) (h0 : ns ≠ []) : split (join ns) = ns := split_join ns h0 h.noSep
theorem Ok.may {ns : List Bs} (h : Ok ns) : mayB (join ns) = true := by
  by_cases h0 : ns = []
  · subst h0; rfl
  · unfold mayB
    rw [h.split h0]
    have h1 := h.deep
    have h2 := h.long
    have h3 : ns.all nameB = true := List.all_eq_true.2 h.names
    simp [h1, h2, h3]
theorem Ok.parts {ns : List Bs} (h : Ok ns) : parts (join ns) = ns := by
  by_cases h0 : ns = []
  · subst h0; rfl
  · unfold Sp.parts
    rw [if_neg (Ok.join_ne h.names h0), if_pos h.may, h.split h0]
/-- A path that may be is its names, joined. -/
theorem may_ok {s : Bs} (h : mayB s = true) : Ok (parts s) ∧ join (parts s) = s := by
  by_cases h0 : s = []
  · subst h0; exact ⟨Ok.nil, rfl⟩
  · have hp : parts s = Sp.split s := by unfold parts; rw [if_neg h0, if_pos h]
    rw [hp]
    refine ⟨?_, join_split s⟩
    unfold mayB at h
    have he : s.isEmpty = false := by cases s <;> simp_all
    rw [he] at h
    simp only [Bool.false_or, Bool.and_eq_true, decide_eq_true_eq, List.all_eq_true] at h
    exact ⟨h.2.2, h.2.1, by rw [join_split]; exact h.1⟩
theorem parts_bad {s : Bs} (h : mayB s = false) : parts s = [] := by
  unfold parts
  split
  · rfl
  · rw [h]; rfl
theorem parts_inj {s t : Bs} (hs : mayB s = true) (ht : mayB t = true) (h : parts s = parts t) : s = t := by
  rw [← (may_ok hs).2, ← (may_ok ht).2, h]
theorem parts_ok (s : Bs) : Ok (parts s) := by
  cases h : mayB s with
  | true => exact (may_ok h).1
  | false => rw [parts_bad h]; exact Ok.nil
theorem parts_nil {s : Bs} (hs : mayB s = true) : parts s = [] ↔ s = [] := ⟨fun h => by rw [← (may_ok hs).2, h]; rfl, fun h => by subst h; rfl⟩
theorem join_take_len (ns : List Bs) (k : Nat) : (join (ns.take k)).length ≤ (join ns).length := by
  induction ns generalizing k with
  | nil => simp
  | cons n r ih =>
    cases k with
    | zero => simp [join]
    | succ k =>
      rw [List.take_succ_cons]
      by_cases h1 : r.take k = []
      · rw [h1]
        by_cases h2 : r = []
        · rw [h2]; exact Nat.le_refl _
        · rw [join_cons n r h2]; simp [join]
      · have h2 : r ≠ [] := fun e => h1 (by rw [e]; simp)
        rw [join_cons n _ h1, join_cons n r h2]
        have := ih k
        simp only [List.length_append, List.length_cons]
        omega
theorem Ok.take {ns : List Bs} (h : Ok ns) (k : Nat) : Ok (ns.take k) :=
  ⟨fun n hn => h.names n (List.mem_of_mem_take hn), Nat.le_trans (List.length_take_le' _ _) h.deep, Nat.le_trans (join_take_len ns k) h.long⟩

/-! ### What package path tells -/
def parentB (s : Bs) : Bs := join (parts s).dropLast
def hasParent (s : Bs) : Bool := !(parts s).isEmpty
def lastB (s : Bs) : Bs := (parts s).getLastD []
def depthB (s : Bs) : Int := if mayB s = true then ((parts s).length : Int) else -1
def glue (a b : Bs) : Bs := if a = [] then b else a ++ 47 :: b
def joinB (a b : Bs) : Bs × Int := if (mayB a && nameB b) = true then (if mayB (glue a b) = true then (glue a b, 0) else ([], 2)) else ([], 1)
def underB (s top : Bs) : Bool := mayB s && (mayB top && (parts top).isPrefixOf (parts s))
def cmpB (a b : Bs) : Int := if Op.bytesLess a b = true then -1 else if a = b then 0 else 1
def cmpL : List Bs → List Bs → Int
  | [], [] => 0
  | [], _ :: _ => -1
  | _ :: _, [] => 1
  | a :: x, b :: y => if cmpB a b = 0 then cmpL x y else cmpB a b
def cmpP (s t : Bs) : Int := cmpL (parts s) (parts t)
def lessB (s t : Bs) : Bool := decide (cmpP s t < 0)

/-! ### The bytes' order -/
theorem bl_irrefl (a : Bs) : Op.bytesLess a a = false := by
  induction a with
  | nil => rfl
  | cons x a ih => simp [Op.bytesLess, ih]
theorem bl_trans : ∀ {a b c : Bs}, Op.bytesLess a b = true → Op.bytesLess b c = true → Op.bytesLess a c = true
  | _, [], _, h, _ => by simp [Op.bytesLess] at h
  | _, _ :: _, [], _, h => by simp [Op.bytesLess] at h
  | [], _ :: _, _ :: _, _, _ => rfl
  | x :: a, y :: b, z :: c, h1, h2 => by
    simp only [Op.bytesLess, Bool.or_eq_true, Bool.and_eq_true, decide_eq_true_eq, beq_iff_eq] at h1 h2 ⊢
    rcases h1 with h1 | ⟨rfl, h1⟩
    · rcases h2 with h2 | ⟨rfl, h2⟩
      · exact .inl (UInt8.lt_trans h1 h2)
      · exact .inl h1
    · rcases h2 with h2 | ⟨rfl, h2⟩
      · exact .inl h2
      · exact .inr ⟨rfl, bl_trans h1 h2⟩
theorem bl_total : ∀ (a b : Bs), Op.bytesLess a b = true ∨ a = b ∨ Op.bytesLess b a = true
  | [], [] => .inr (.inl rfl)
  | [], _ :: _ => .inl rfl
  | _ :: _, [] => .inr (.inr rfl)
  | x :: a, y :: b => by
    simp only [Op.bytesLess, Bool.or_eq_true, Bool.and_eq_true, decide_eq_true_eq, beq_iff_eq]
    by_cases h : x = y
    · subst h
      rcases bl_total a b with h | h | h
      · exact .inl (.inr ⟨rfl, h⟩)
      · exact .inr (.inl (by rw [h]))
      · exact .inr (.inr (.inr ⟨rfl, h⟩))
    · have : x < y ∨ y < x := by
        rcases Nat.lt_or_ge x.toNat y.toNat with h1 | h1
        · exact .inl (UInt8.lt_iff_toNat_lt.2 h1)
        · exact .inr (UInt8.lt_iff_toNat_lt.2 (Nat.lt_of_le_of_ne h1 (fun e => h (UInt8.toNat_inj.1 e.symm))))
      rcases this with h1 | h1
      · exact .inl (.inl h1)
      · exact .inr (.inr (.inl h1))
theorem bl_asymm {a b : Bs} (h : Op.bytesLess a b = true) : Op.bytesLess b a = false := by
  cases h2 : Op.bytesLess b a with
  | false => rfl
  | true => have := bl_trans h h2; rw [bl_irrefl] at this; exact absurd this (by simp)

theorem cmpB_cases (a b : Bs) : (cmpB a b = -1 ∧ Op.bytesLess a b = true) ∨ (cmpB a b = 0 ∧ a = b) ∨ (cmpB a b = 1 ∧ Op.bytesLess b a = true ∧ Op.bytesLess a b = false ∧ a ≠ b) := by
  unfold cmpB
  by_cases h : Op.bytesLess a b = true
  · exact .inl ⟨by rw [if_pos h], h⟩
  · by_cases h2 : a = b
    · exact .inr (.inl ⟨by rw [if_neg h, if_pos h2], h2⟩)
    · refine .inr (.inr ⟨by rw [if_neg h, if_neg h2], ?_, by simpa using h, h2⟩)
      rcases bl_total a b with h3 | h3 | h3
      · exact absurd h3 h
      · exact absurd h3 h2
      · exact h3
theorem cmpB_zero {a b : Bs} : cmpB a b = 0 ↔ a = b := by
  constructor
  · intro h
    rcases cmpB_cases a b with h1 | h1 | h1
    · omega
    · exact h1.2
    · omega
  · rintro rfl
    unfold cmpB
    rw [bl_irrefl]; simp
theorem cmpB_neg {a b : Bs} : cmpB a b < 0 ↔ Op.bytesLess a b = true := by
  constructor
  · intro h
    rcases cmpB_cases a b with h1 | h1 | h1
    · exact h1.2
    · omega
    · omega
  · intro h; unfold cmpB; rw [if_pos h]; omega
theorem cmpB_pos {a b : Bs} : 0 < cmpB a b ↔ Op.bytesLess b a = true := by
  constructor
  · intro h
    rcases cmpB_cases a b with h1 | h1 | h1
    · omega
    · omega
    · exact h1.2.1
  · intro h
    rcases cmpB_cases a b with h1 | h1 | h1
    · have := bl_asymm h1.2; rw [h] at this; exact absurd this (by simp)
    · have := h1.2; subst this; rw [bl_irrefl] at h; exact absurd h (by simp)
    · omega

/-! ### The order of lists of names -/
theorem cmpL_refl (x : List Bs) : cmpL x x = 0 := by
  induction x with
  | nil => rfl
  | cons a x ih => rw [cmpL, if_pos (cmpB_zero.2 rfl), ih]
theorem cmpL_zero : ∀ {x y : List Bs}, cmpL x y = 0 → x = y
  | [], [], _ => rfl
  | [], _ :: _, h => by simp [cmpL] at h
  | _ :: _, [], h => by simp [cmpL] at h
  | a :: x, b :: y, h => by
    rw [cmpL] at h
    split at h
    · rename_i h1
      rw [cmpB_zero.1 h1, cmpL_zero h]
    · rename_i h1
      exact absurd h h1
theorem cmpL_swap : ∀ (x y : List Bs), (cmpL x y < 0 ↔ 0 < cmpL y x)
  | [], [] => by simp [cmpL]
  | [], _ :: _ => by simp [cmpL]
  | _ :: _, [] => by simp [cmpL]
  | a :: x, b :: y => by
    rw [cmpL, cmpL]
    by_cases h : a = b
    · subst h
      rw [if_pos (cmpB_zero.2 rfl), if_pos (cmpB_zero.2 rfl)]
      exact cmpL_swap x y
    · rw [if_neg (fun e => h (cmpB_zero.1 e)), if_neg (fun e => h (cmpB_zero.1 e).symm), cmpB_neg, cmpB_pos]
theorem cmpL_trans : ∀ {x y z : List Bs}, cmpL x y < 0 → cmpL y z < 0 → cmpL x z < 0
  | [], [], _, h, _ => by simp [cmpL] at h
  | _ :: _, [], _, h, _ => by simp [cmpL] at h
  | _, _ :: _, [], _, h => by simp [cmpL] at h
  | [], _ :: _, _ :: _, _, _ => by simp [cmpL]
  | a :: x, b :: y, c :: z, h1, h2 => by
    rw [cmpL] at h1 h2 ⊢
    by_cases e1 : a = b
    · subst e1
      rw [if_pos (cmpB_zero.2 rfl)] at h1
      by_cases e2 : a = c
      · subst e2
        rw [if_pos (cmpB_zero.2 rfl)] at h2 ⊢
        exact cmpL_trans h1 h2
      · rw [if_neg (fun e => e2 (cmpB_zero.1 e))] at h2 ⊢
        exact h2
    · rw [if_neg (fun e => e1 (cmpB_zero.1 e))] at h1
      have h1' := cmpB_neg.1 h1
      by_cases e2 : b = c
      · subst e2
        rw [if_neg (fun e => e1 (cmpB_zero.1 e))]
        exact h1
      · rw [if_neg (fun e => e2 (cmpB_zero.1 e))] at h2
        have h2' := cmpB_neg.1 h2
        have h3 := bl_trans h1' h2'
        rw [if_neg (fun e => by rw [cmpB_zero.1 e, bl_irrefl] at h3; exact absurd h3 (by simp))]
        exact cmpB_neg.2 h3
theorem cmpL_prefix : ∀ {x y : List Bs}, x.isPrefixOf y = true → x ≠ y → cmpL x y < 0
  | [], [], _, h => absurd rfl h
  | [], _ :: _, _, _ => by simp [cmpL]
  | _ :: _, [], h, _ => by simp at h
  | a :: x, b :: y, h, hne => by
    simp only [List.isPrefixOf, Bool.and_eq_true, beq_iff_eq] at h
    obtain ⟨rfl, h⟩ := h
    rw [cmpL, if_pos (cmpB_zero.2 rfl)]
    exact cmpL_prefix h (fun e => hne (by rw [e]))
/-- What lies between a list and one that begins with it begins with it, too. -/
theorem cmpL_between : ∀ {x y z : List Bs}, x.isPrefixOf y = true → cmpL x z < 0 → cmpL z y < 0 → x.isPrefixOf z = true
  | [], _, z, _, _, _ => by cases z <;> rfl
  | a :: x, [], _, h, _, _ => by simp at h
  | a :: x, b :: y, [], _, h, _ => by simp [cmpL] at h
  | a :: x, b :: y, c :: z, h, h1, h2 => by
    simp only [List.isPrefixOf, Bool.and_eq_true, beq_iff_eq] at h ⊢
    obtain ⟨rfl, h⟩ := h
    rw [cmpL] at h1 h2
    by_cases e : a = c
    · subst e
      rw [if_pos (cmpB_zero.2 rfl)] at h1 h2
      exact ⟨rfl, cmpL_between h h1 h2⟩
    · rw [if_neg (fun q => e (cmpB_zero.1 q))] at h1
      rw [if_neg (fun q => e (cmpB_zero.1 q).symm)] at h2
      have := bl_asymm (cmpB_neg.1 h1)
      rw [cmpB_neg.1 h2] at this
      exact absurd this (by simp)
theorem lessB_iff (s t : Bs) : lessB s t = true ↔ cmpL (parts s) (parts t) < 0 := by unfold lessB cmpP; simp
/-- As Go's text asks it: top, or text that begins with top and a separator. -/
theorem under_text {s top : Bs} (hs : mayB s = true) (ht : mayB top = true) : (parts top).isPrefixOf (parts s) = (decide (top = []) || (decide (s = top) || (top ++ [47]).isPrefixOf s)) := by
  obtain ⟨os, js⟩ := may_ok hs
  obtain ⟨ot, jt⟩ := may_ok ht
  rw [Bool.eq_iff_iff]
  simp only [Bool.or_eq_true, decide_eq_true_eq]
  constructor
  · intro h
    obtain ⟨r, hr⟩ := List.isPrefixOf_iff_prefix.1 h
    by_cases h0 : top = []
    · exact .inl h0
    · have hp0 : parts top ≠ [] := fun e => h0 ((parts_nil ht).1 e)
      by_cases hr0 : r = []
      · rw [hr0, List.append_nil] at hr
        exact .inr (.inl (by rw [← js, ← jt, hr]))
      · refine .inr (.inr (List.isPrefixOf_iff_prefix.2 ⟨join r, ?_⟩))
        rw [← js, ← hr, join_append _ _ hp0 hr0, jt]
        simp
  · intro h
    rcases h with h | h | h
    · subst h
      rw [show parts [] = [] from rfl]
      cases parts s <;> rfl
    · subst h
      exact List.isPrefixOf_iff_prefix.2 (List.prefix_refl _)
    · obtain ⟨q, hq⟩ := List.isPrefixOf_iff_prefix.1 h
      have e : s = top ++ 47 :: q := by rw [← hq]; simp
      by_cases h0 : top = []
      · subst h0
        rw [show parts [] = [] from rfl]
        cases parts s <;> rfl
      · have hs0 : s ≠ [] := by rw [e]; simp
        have ps : parts s = split s := by unfold parts; rw [if_neg hs0, if_pos hs]
        have pt : parts top = split top := by unfold parts; rw [if_neg h0, if_pos ht]
        rw [ps, pt, e, split_append]
        exact List.isPrefixOf_iff_prefix.2 ⟨_, rfl⟩
end Go.Proofs.YteiefdnhngfojaaGreatDoor.Sp
namespace Go.Proofs.YteiefdnhngfojaaGreatDoor.Flt
open Ieee Ieee.Datum

theorem cut0 (way : Toward) (neg : Bool) (n : Nat) : way.cut neg n 0 = n := by
  unfold Toward.cut
  simp only [Nat.zero_min, Nat.min_zero, Nat.zero_le, Nat.min_eq_left, Nat.shiftLeft_zero, Nat.div_one, Nat.mod_one]
  cases way <;> simp

theorem cut_zero_pow (neg : Bool) (m d : Nat) (h : 0 < m) : Toward.zero.cut neg (m * 2 ^ d) d = m := by
  unfold Toward.cut
  have hl : d ≤ (m * 2 ^ d).log2 + 2 := by
    have h1 : 2 ^ d ≤ m * 2 ^ d := Nat.le_mul_of_pos_left _ h
    have h2 : d ≤ (m * 2 ^ d).log2 := (Nat.le_log2 (by have := Nat.two_pow_pos d; omega)).2 h1
    omega
  rw [Nat.min_eq_left hl, Nat.one_shiftLeft]
  simp [Nat.mul_div_cancel _ (Nat.two_pow_pos d)]

theorem write_small (m : Nat) (h0 : 0 < m) (h : m < 2 ^ 53) :
    double.write (.number false m 0) = (m.log2 + 1022) * 2 ^ 52 + m * 2 ^ (52 - m.log2) := by
  have hL : m.log2 ≤ 52 := by
    have := (Nat.log2_lt (by omega)).2 h
    omega
  have hb : m * 2 ^ (52 - m.log2) < 2 ^ 53 := by
    have h1 : m < 2 ^ (m.log2 + 1) := Nat.lt_log2_self
    calc m * 2 ^ (52 - m.log2) < 2 ^ (m.log2 + 1) * 2 ^ (52 - m.log2) := Nat.mul_lt_mul_of_pos_right h1 (Nat.two_pow_pos _)
      _ = 2 ^ 53 := by rw [← Nat.pow_add]; congr 1; omega
  show double.nearest false m 0 = _
  unfold Format.nearest
  rw [if_neg (by omega)]
  have e1 : (double.fractionBits : Int) = 52 := rfl
  have e2 : double.leastPlace = -1074 := by decide
  have hlast : max ((0 : Int) + m.log2 - double.fractionBits) double.leastPlace = (m.log2 : Int) - 52 := by rw [e1, e2]; omega
  simp only [hlast]
  have a1 : ((0 : Int) - ((m.log2 : Int) - 52)).toNat = 52 - m.log2 := by omega
  have a2 : (((m.log2 : Int) - 52) - 0).toNat = 0 := by omega
  have a3 : (((m.log2 : Int) - 52) - double.leastPlace).toNat = m.log2 + 1022 := by rw [e2]; omega
  rw [a1, a2, a3, cut0, Nat.shiftLeft_eq]
  have e3 : double.binade = 2 ^ 52 := by decide
  have e4 : double.infRung = 2047 * 2 ^ 52 := by decide
  rw [e3, e4, Nat.min_eq_left ?_]
  · rfl
  · have p53 : (2 : Nat) ^ 53 = 9007199254740992 := by decide
    have p52 : (2 : Nat) ^ 52 = 4503599627370496 := by decide
    rw [p53] at hb
    rw [p52]
    generalize m * 2 ^ (52 - m.log2) = q at *
    generalize m.log2 = L at *
    clear h
    omega

theorem read_small (m : Nat) (h0 : 0 < m) (h : m < 2 ^ 53) :
    double.read (double.write (.number false m 0)) = .number false (m * 2 ^ (52 - m.log2)) ((m.log2 : Int) - 52) := by
  have hL : m.log2 ≤ 52 := by
    have := (Nat.log2_lt (by omega)).2 h
    omega
  have hb : m * 2 ^ (52 - m.log2) < 2 ^ 53 := by
    have h1 : m < 2 ^ (m.log2 + 1) := Nat.lt_log2_self
    calc m * 2 ^ (52 - m.log2) < 2 ^ (m.log2 + 1) * 2 ^ (52 - m.log2) := Nat.mul_lt_mul_of_pos_right h1 (Nat.two_pow_pos _)
      _ = 2 ^ 53 := by rw [← Nat.pow_add]; congr 1; omega
  have hc : 2 ^ 52 ≤ m * 2 ^ (52 - m.log2) := by
    have h1 : 2 ^ m.log2 ≤ m := Nat.log2_self_le (by omega)
    calc 2 ^ 52 = 2 ^ m.log2 * 2 ^ (52 - m.log2) := by rw [← Nat.pow_add]; congr 1; omega
      _ ≤ m * 2 ^ (52 - m.log2) := Nat.mul_le_mul_right _ h1
  rw [write_small m h0 h]
  generalize hq : m * 2 ^ (52 - m.log2) = q at *
  generalize hl : m.log2 = L at *
  have e0 : double.signWeight = 2 ^ 63 := by decide
  have e2 : double.leastPlace = -1074 := by decide
  have e3 : double.binade = 2 ^ 52 := by decide
  have e4 : double.infRung = 2047 * 2 ^ 52 := by decide
  unfold Format.read
  rw [e0, e2, e3, e4]
  have p53 : (2 : Nat) ^ 53 = 9007199254740992 := by decide
  have p52 : (2 : Nat) ^ 52 = 4503599627370496 := by decide
  have p63 : (2 : Nat) ^ 63 = 9223372036854775808 := by decide
  rw [p53] at hb
  rw [p52] at hc
  simp only [p52, p63]
  have w1 : (L + 1022) * 4503599627370496 + q < 9223372036854775808 := by omega
  rw [Nat.mod_eq_of_lt w1, Nat.div_eq_of_lt w1]
  rw [if_neg (by omega), if_pos (by omega)]
  have d1 : ((L + 1022) * 4503599627370496 + q) / 4503599627370496 = L + 1023 := by omega
  have d2 : ((L + 1022) * 4503599627370496 + q) % 4503599627370496 = q - 4503599627370496 := by omega
  rw [d1, d2]
  simp
  constructor
  · omega
  · omega

theorem toInt_small (m : Nat) (h0 : 0 < m) (h : m < 2 ^ 53) : (double.read (double.write (.number false m 0))).toInt .zero = some (m : Int) := by
  have hL : m.log2 ≤ 52 := by
    have := (Nat.log2_lt (by omega)).2 h
    omega
  rw [read_small m h0 h]
  unfold toInt integral
  have a1 : ((m.log2 : Int) - 52).toNat = 0 := by omega
  have a2 : (-((m.log2 : Int) - 52)).toNat = 52 - m.log2 := by omega
  simp only [a1, a2, Nat.shiftLeft_zero]
  rw [cut_zero_pow _ _ _ h0]
  simp [signed]

theorem toInt_zero : (double.read (double.write (.number false 0 0))).toInt .zero = some 0 := by decide
end Go.Proofs.YteiefdnhngfojaaGreatDoor.Flt
namespace Go.Proofs.YteiefdnhngfojaaGreatDoor.Flt
open Ieee Ieee.Datum Go
theorem near_eq (m : Nat) : FloatKind.nearest FloatKind.f64 (m : Int) = double.write (.number false m 0) := by
  unfold FloatKind.nearest FloatKind.encode
  rw [decide_eq_false (by omega)]
  rfl
theorem read0 : double.read 0 = .number false 0 (-1074) := by decide +kernel
theorem read40 : double.read 4787326403894837248 = .number false (2 ^ 52) (-12) := by decide +kernel
theorem near0 : FloatKind.nearest FloatKind.f64 0 = 0 := by decide +kernel
/-- What a whole number of that size is read as. -/
theorem readN {m : Nat} (h0 : 0 < m) (h : m ≤ 1099511627776) : double.read (FloatKind.nearest FloatKind.f64 (m : Int)) = .number false (m * 2 ^ (52 - m.log2)) ((m.log2 : Int) - 52) := by
  rw [near_eq, read_small m h0 (by omega)]
theorem order_zero {m : Nat} (h : m ≤ 1099511627776) : Ieee.Format.order (FloatKind.format FloatKind.f64) (FloatKind.nearest FloatKind.f64 (m : Int)) 0 = some (if 0 < m then .gt else .eq) := by
  show (double.read (FloatKind.nearest FloatKind.f64 (m : Int))).order (double.read 0) = _
  by_cases h0 : 0 < m
  · rw [readN h0 h, read0, if_pos h0]
    have hp : 0 < m * 2 ^ (52 - m.log2) := Nat.mul_pos h0 (Nat.two_pow_pos _)
    simp only [Datum.order, signed, Bool.false_eq_true, if_false, Nat.zero_shiftLeft]
    rw [show compare (((m * 2 ^ (52 - m.log2)) <<< ((m.log2 : Int) - 52 - min ((m.log2 : Int) - 52) (-1074)).toNat : Nat) : Int) ((0 : Nat) : Int) = .gt from ?_]
    rw [Int.compare_eq_gt]
    have : 0 < (m * 2 ^ (52 - m.log2)) <<< ((m.log2 : Int) - 52 - min ((m.log2 : Int) - 52) (-1074)).toNat := by
      rw [Nat.shiftLeft_eq]
      exact Nat.mul_pos hp (Nat.two_pow_pos _)
    omega
  · obtain rfl : m = 0 := by omega
    decide +kernel
theorem order_max {m : Nat} (h : m ≤ 1099511627776) : Ieee.Format.order (FloatKind.format FloatKind.f64) (FloatKind.nearest FloatKind.f64 (m : Int)) 4787326403894837248 = some (if m < 1099511627776 then .lt else .eq) := by
  show (double.read (FloatKind.nearest FloatKind.f64 (m : Int))).order (double.read 4787326403894837248) = _
  by_cases h0 : 0 < m
  · rw [readN h0 h, read40]
    have hl : m.log2 ≤ 40 := by
      have := (Nat.log2_lt (n := m) (k := 41) (by omega)).2 (by omega)
      omega
    have e1 : min ((m.log2 : Int) - 52) (-12) = (m.log2 : Int) - 52 := by omega
    have e2 : ((m.log2 : Int) - 52 - ((m.log2 : Int) - 52)).toNat = 0 := by omega
    have e3 : (-12 - ((m.log2 : Int) - 52)).toNat = 40 - m.log2 := by omega
    have e4 : 2 ^ 52 * 2 ^ (40 - m.log2) = 1099511627776 * 2 ^ (52 - m.log2) := by
      rw [show (1099511627776 : Nat) = 2 ^ 40 from rfl, ← Nat.pow_add, ← Nat.pow_add]
      congr 1; omega
    simp only [Datum.order, signed, Bool.false_eq_true, if_false, e1, e2, e3, Nat.shiftLeft_eq, Nat.pow_zero, Nat.mul_one, e4]
    have hp : 0 < 2 ^ (52 - m.log2) := Nat.two_pow_pos _
    generalize 2 ^ (52 - m.log2) = q at hp
    by_cases hm : m < 1099511627776
    · rw [if_pos hm]
      congr 1
      rw [Int.compare_eq_lt]
      exact Int.ofNat_lt.2 (Nat.mul_lt_mul_of_pos_right hm hp)
    · rw [if_neg hm, show m = 1099511627776 by omega]
      congr 1
      rw [Int.compare_eq_eq]
  · obtain rfl : m = 0 := by omega
    decide +kernel
theorem toInt {m : Nat} (h : m ≤ 1099511627776) : Ieee.Datum.toInt Ieee.Toward.zero (FloatKind.decode FloatKind.f64 (FloatKind.nearest FloatKind.f64 (m : Int))) = some (m : Int) := by
  show (double.read (FloatKind.nearest FloatKind.f64 (m : Int))).toInt .zero = _
  rw [near_eq]
  by_cases h0 : 0 < m
  · exact toInt_small m h0 (by omega)
  · obtain rfl : m = 0 := by omega
    exact toInt_zero
end Go.Proofs.YteiefdnhngfojaaGreatDoor.Flt
