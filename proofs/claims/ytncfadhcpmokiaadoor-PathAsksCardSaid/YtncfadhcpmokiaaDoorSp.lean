/-
  Names and paths as lists of bytes, of no program: how a path falls into names and comes out of them again, which ones may be, what lies under what, and the order of paths.
-/
import Derived.Test.YtncfadhcpmokiaaDoorWMore
import Derived.Lib.SplitLaws
import Derived.Lib.Join
import Derived.Lib.Strings
import Derived.Lib.IndexBytes
import Derived.Lib.IndexAny
set_option linter.unusedVariables false
set_option linter.unusedSimpArgs false
namespace Go.Proofs.YtncfadhcpmokiaaDoor.Sp
open Go Go.RowKit Go.Proofs.YtncfadhcpmokiaaDoorW.PrintWords Go.Proofs.YtncfadhcpmokiaaDoorW.PrintLast Go.Proofs.YtncfadhcpmokiaaDoorW.PrintMore

abbrev Bs := List UInt8
/-- A string's bytes. -/
def L (s : ByteArray) : Bs := s.data.toList
def mkB (l : Bs) : ByteArray := ⟨l.toArray⟩
@[simp] theorem L_mkB (l : Bs) : L (mkB l) = l := by simp [L, mkB]
@[simp] theorem mkB_L (s : ByteArray) : mkB (L s) = s := Lib.mk_data s
theorem L_inj {s t : ByteArray} (h : L s = L t) : s = t := by rw [← mkB_L s, h, mkB_L]
theorem toList_L (s : ByteArray) : s.toList = L s := Lib.toList_data s
theorem size_L (s : ByteArray) : s.size = (L s).length := Lib.size_eq s
theorem L_append (s t : ByteArray) : L (s ++ t) = L s ++ L t := by
  show (s ++ t).data.toList = _
  simp [L]
theorem L_extract (s : ByteArray) (a b : Nat) : L (s.extract a b) = ((L s).drop a).take (b - a) := Lib.extract_data s a b
theorem L_empty : L ByteArray.empty = [] := rfl
theorem L_lit (l : Bs) : L ⟨l.toArray⟩ = l := by simp [L]
theorem toList_eq_iff (s t : ByteArray) : s.toList = t.toList ↔ s = t := ⟨fun h => L_inj (by rw [← toList_L, ← toList_L, h]), fun h => by rw [h]⟩
theorem L_get (s : ByteArray) (i : Nat) (h : i < s.size) : (L s)[i]? = some (s[i]'h) := Lib.data_getElem? s i h
theorem bt_L (s : ByteArray) (i : Nat) (b : UInt8) (h : (L s)[i]? = some b) : bt s (i : Int) = (b.toNat : Int) := by
  have hi : i < s.size := by rw [size_L]; exact (List.getElem?_eq_some_iff.1 h).1
  have e := L_get s i hi
  rw [h] at e
  have e' : b = s[i]'hi := Option.some.inj e
  rw [e']
  have := bt_at s (i : Int) hi
  exact this.symm

/-! ### Ways of what comes to an answer with enough rounds -/
theorem Ev.pos {α : Type} {c : Prop} [Decidable c] {f g : Nat → Option α} {r : α} (h : c) (hf : Ev f r) : Ev (fun k => if c then f k else g k) r := by
  simpa only [if_pos h] using hf
theorem Ev.neg {α : Type} {c : Prop} [Decidable c] {f g : Nat → Option α} {r : α} (h : ¬ c) (hf : Ev g r) : Ev (fun k => if c then f k else g k) r := by
  simpa only [if_neg h] using hf
theorem Ev.bindS {α β : Type} {o : Option α} {f : Nat → α → Option β} {a : α} {r : β} (h : o = some a) (k : Ev (fun n => f n a) r) : Ev (fun n => o.bind (f n)) r := by
  subst h; exact k
theorem Ev.val {α : Type} {o : Option α} {r : α} (h : o = some r) : Ev (fun _ => o) r := ⟨0, fun _ _ => h⟩

/-! ### Splitting -/
def consHead (b : UInt8) : List Bs → List Bs
  | [] => [[b]]
  | h :: t => (b :: h) :: t
def split : Bs → List Bs
  | [] => [[]]
  | b :: l => if b = 47 then [] :: split l else consHead b (split l)
theorem split_sep (l : Bs) : split (47 :: l) = [] :: split l := by rw [split, if_pos rfl]
theorem split_other {b : UInt8} (h : b ≠ 47) (l : Bs) : split (b :: l) = consHead b (split l) := by rw [split, if_neg h]

theorem split_ne (l : Bs) : split l ≠ [] := by
  cases l with
  | nil => simp [split]
  | cons b l =>
    by_cases h : b = 47
    · subst h; rw [split_sep]; simp
    · rw [split_other h]
      cases split l <;> simp [consHead]

theorem split_append (x y : Bs) : split (x ++ 47 :: y) = split x ++ split y := by
  induction x with
  | nil => rw [List.nil_append, split_sep]; rfl
  | cons b x ih =>
    rw [List.cons_append]
    by_cases hb : b = 47
    · subst hb; rw [split_sep, split_sep, ih]; rfl
    · rw [split_other hb, split_other hb, ih]
      cases hx : split x with
      | nil => exact absurd hx (split_ne x)
      | cons h t => rfl

theorem split_none (x : Bs) (h : (47 : UInt8) ∉ x) : split x = [x] := by
  induction x with
  | nil => rfl
  | cons b x ih =>
    have hb : b ≠ 47 := fun e => h (by simp [e])
    rw [split_other hb, ih (fun hm => h (List.mem_cons_of_mem _ hm))]
    rfl

theorem split_mem (l : Bs) : ∀ n ∈ split l, (47 : UInt8) ∉ n := by
  induction l with
  | nil => intro n hn; simp [split] at hn; simp [hn]
  | cons b l ih =>
    intro n hn
    by_cases hb : b = 47
    · subst hb
      rw [split_sep, List.mem_cons] at hn
      rcases hn with rfl | hn
      · simp
      · exact ih n hn
    · rw [split_other hb] at hn
      cases hx : split l with
      | nil => exact absurd hx (split_ne l)
      | cons h t =>
        rw [hx] at hn ih
        simp only [consHead, List.mem_cons] at hn
        rcases hn with rfl | hn
        · have := ih h (by simp)
          simp only [List.mem_cons, not_or]
          exact ⟨fun e => hb e.symm, this⟩
        · exact ih n (by simp [hn])

def join : List Bs → Bs
  | [] => []
  | [n] => n
  | n :: m :: r => n ++ 47 :: join (m :: r)

theorem join_cons (n : Bs) (r : List Bs) (h : r ≠ []) : join (n :: r) = n ++ 47 :: join r := by
  cases r with
  | nil => exact absurd rfl h
  | cons m r => rfl

theorem join_lib (ns : List Bs) : Lib.join ns [47] = join ns := by
  induction ns with
  | nil => rfl
  | cons n r ih =>
    cases r with
    | nil => rw [Lib.join_one]; rfl
    | cons m r =>
      rw [join_cons n (m :: r) (by simp), ← ih, Lib.join_cons, Lib.join_cons]
      simp [Lib.joinTail]

theorem join_split (l : Bs) : join (split l) = l := by
  induction l with
  | nil => rfl
  | cons b l ih =>
    by_cases hb : b = 47
    · subst hb
      rw [split_sep, join_cons _ _ (split_ne l), ih]
      rfl
    · rw [split_other hb]
      cases hx : split l with
      | nil => exact absurd hx (split_ne l)
      | cons h t =>
        rw [hx] at ih
        cases t with
        | nil => rw [← ih]; rfl
        | cons m t =>
          rw [join_cons _ _ (by simp)] at ih
          rw [consHead, join_cons _ _ (by simp), List.cons_append, ih]

theorem split_join (ns : List Bs) (h0 : ns ≠ []) (h : ∀ n ∈ ns, (47 : UInt8) ∉ n) : split (join ns) = ns := by
  induction ns with
  | nil => exact absurd rfl h0
  | cons n r ih =>
    cases r with
    | nil => exact split_none n (h n (by simp))
    | cons m r =>
      rw [join_cons _ _ (by simp), split_append, split_none n (h n (by simp)), ih (by simp) (fun x hx => h x (List.mem_cons_of_mem _ hx))]
      rfl

theorem join_append (x y : List Bs) (hx : x ≠ []) (hy : y ≠ []) : join (x ++ y) = join x ++ 47 :: join y := by
  induction x with
  | nil => exact absurd rfl hx
  | cons n r ih =>
    cases r with
    | nil => exact join_cons n y hy
    | cons m r =>
      rw [List.cons_append, join_cons n (m :: r ++ y) (by simp), ih (by simp), join_cons n (m :: r) (by simp), List.append_assoc]
      rfl

theorem first_sep (l : Bs) (h : (47 : UInt8) ∈ l) : ∃ x y, l = x ++ 47 :: y ∧ (47 : UInt8) ∉ x := by
  induction l with
  | nil => simp at h
  | cons b l ih =>
    by_cases hb : b = 47
    · exact ⟨[], l, by simp [hb], by simp⟩
    · have hb' : ¬ (47 : UInt8) = b := fun e => hb e.symm
      obtain ⟨x, y, e1, e2⟩ := ih (by simpa [hb'] using h)
      exact ⟨b :: x, y, by rw [e1]; rfl, by simp [e2, hb']⟩

theorem indexByte_first (x y : Bs) (h : (47 : UInt8) ∉ x) : Lib.indexByte (x ++ 47 :: y) 47 = (x.length : Int) := by
  induction x with
  | nil => simp [Lib.indexByte]
  | cons b x ih =>
    simp only [List.mem_cons, not_or] at h
    have hb : (b == 47) = false := by simpa using fun e : b = 47 => h.1 e.symm
    have hr := ih h.2
    rw [List.cons_append, Lib.indexByte, hb, hr]
    have h1 : ((x.length : Int) == -1) = false := beq_eq_false_iff_ne.2 (by omega)
    rw [h1]
    simp

/-- How Go's strings.Split goes about it. -/
theorem splitK_eq (k : Nat) : ∀ l : Bs, l.count 47 = k → Lib.splitK [47] 0 k l = split l := by
  induction k with
  | zero =>
    intro l h
    rw [Lib.splitK, split_none l (List.count_eq_zero.1 h)]
  | succ k ih =>
    intro l h
    have hmem : (47 : UInt8) ∈ l := List.count_pos_iff.1 (by omega)
    obtain ⟨x, y, rfl, hx⟩ := first_sep l hmem
    have hc : y.count 47 = k := by
      rw [List.count_append, List.count_eq_zero.2 hx, List.count_cons_self] at h
      omega
    have h1 : ((x.length : Int) == -1) = false := beq_eq_false_iff_ne.2 (by omega)
    rw [Lib.splitK, Lib.index_one, indexByte_first x y hx, h1]
    simp only [Int.toNat_natCast, Nat.add_zero, List.length_singleton, Bool.false_eq_true, if_false]
    rw [List.take_left, split_append, split_none x hx]
    have hd : (x ++ 47 :: y).drop (x.length + 1) = y := by
      rw [← List.drop_drop]; simp
    rw [hd, ih y hc]
    rfl

/-! ### Which names and paths may be -/
def nameB (n : Bs) : Bool := decide (1 ≤ n.length) && (decide (n.length ≤ 20) && (!Lib.containsAny n [47, 0] && (!(n == [46]) && !(n == [46, 46]))))
def mayB (s : Bs) : Bool := s.isEmpty || (decide (s.length ≤ 100) && (decide ((split s).length ≤ 8) && (split s).all nameB))
/-- A path's names. -/
def parts (s : Bs) : List Bs := if s = [] then [] else if mayB s = true then split s else []

/-- What the names of a path are. -/
structure Ok (ns : List Bs) : Prop where
  names : ∀ n ∈ ns, nameB n = true
  deep : ns.length ≤ 8
  long : (join ns).length ≤ 100

theorem containsAny_iff (n : Bs) : Lib.containsAny n [47, 0] = false ↔ ∀ b ∈ n, b ≠ 47 ∧ b ≠ 0 := by
  unfold Lib.containsAny
  constructor
  · intro h b hb
    refine Classical.byContradiction fun hc => ?_
    have hcon : ([47, 0] : List UInt8).contains b = true := by
      by_cases h1 : b = 47
      · simp [h1]
      · have : b = 0 := Classical.byContradiction fun h2 => hc ⟨h1, h2⟩
        simp [this]
    have hge : ∀ l : Bs, b ∈ l → 0 ≤ Lib.indexAny l [47, 0] := by
      intro l hl
      induction l with
      | nil => simp at hl
      | cons a l ih =>
        unfold Lib.indexAny
        split
        · omega
        · rename_i ha
          have hl' : b ∈ l := by
            rcases List.mem_cons.1 hl with rfl | hl'
            · exact absurd hcon ha
            · exact hl'
          have := ih hl'
          rw [if_neg (by simp; omega)]
          omega
    have := hge n hb
    simp [this] at h
  · intro h
    have : Lib.indexAny n [47, 0] = -1 := Lib.indexAny_none fun j b hj hb => by
      have := h b (List.mem_of_getElem? hb)
      simp [this]
    simp [this]

theorem nameB_iff (n : Bs) : nameB n = true ↔ 1 ≤ n.length ∧ n.length ≤ 20 ∧ (∀ b ∈ n, b ≠ 47 ∧ b ≠ 0) ∧ n ≠ [46] ∧ n ≠ [46, 46] := by
  unfold nameB
  rw [← containsAny_iff]
  simp [Bool.and_eq_true]

theorem nameB_noSep {n : Bs} (h : nameB n = true) : (47 : UInt8) ∉ n := fun hm => (((nameB_iff n).1 h).2.2.1 47 hm).1 rfl
theorem nameB_ne {n : Bs} (h : nameB n = true) : n ≠ [] := fun e => by have := ((nameB_iff n).1 h).1; simp [e] at this

theorem Ok.nil : Ok [] := ⟨by simp, by simp, by simp [join]⟩
theorem Ok.noSep {ns : List Bs} (h : Ok ns) : ∀ n ∈ ns, (47 : UInt8) ∉ n := fun n hn => nameB_noSep (h.names n hn)
theorem Ok.join_ne {ns : List Bs} (h : ∀ n ∈ ns, nameB n = true) (h0 : ns ≠ []) : join ns ≠ [] := by
  cases ns with
  | nil => exact absurd rfl h0
  | cons n r =>
    have hn := nameB_ne (h n (by simp))
    cases r with
    | nil => exact hn
    | cons m r => rw [join_cons _ _ (by simp)]; simp
theorem Ok.split {ns : List Bs} (h : Ok ns) (h0 : ns ≠ []) : split (join ns) = ns := split_join ns h0 h.noSep
theorem Ok.may {ns : List Bs} (h : Ok ns) : mayB (join ns) = true := by
  by_cases h0 : ns = []
  · subst h0; rfl
  · unfold mayB
    rw [h.split h0]
    have h1 := h.deep
    have h2 := h.long
    have h3 : ns.all nameB = true := List.all_eq_true.2 h.names
    simp [h1, h2, h3]
theorem Ok.parts {ns : List Bs} (h : Ok ns) : parts (join ns) = ns := by
  by_cases h0 : ns = []
  · subst h0; rfl
  · unfold Sp.parts
    rw [if_neg (Ok.join_ne h.names h0), if_pos h.may, h.split h0]
/-- A path that may be is its names, joined. -/
theorem may_ok {s : Bs} (h : mayB s = true) : Ok (parts s) ∧ join (parts s) = s := by
  by_cases h0 : s = []
  · subst h0; exact ⟨Ok.nil, rfl⟩
  · have hp : parts s = Sp.split s := by unfold parts; rw [if_neg h0, if_pos h]
    rw [hp]
    refine ⟨?_, join_split s⟩
    unfold mayB at h
    have he : s.isEmpty = false := by cases s <;> simp_all
    rw [he] at h
    simp only [Bool.false_or, Bool.and_eq_true, decide_eq_true_eq, List.all_eq_true] at h
    exact ⟨h.2.2, h.2.1, by rw [join_split]; exact h.1⟩
theorem parts_bad {s : Bs} (h : mayB s = false) : parts s = [] := by
  unfold parts
  split
  · rfl
  · rw [h]; rfl
theorem parts_inj {s t : Bs} (hs : mayB s = true) (ht : mayB t = true) (h : parts s = parts t) : s = t := by
  rw [← (may_ok hs).2, ← (may_ok ht).2, h]
theorem parts_ok (s : Bs) : Ok (parts s) := by
  cases h : mayB s with
  | true => exact (may_ok h).1
  | false => rw [parts_bad h]; exact Ok.nil
theorem parts_nil {s : Bs} (hs : mayB s = true) : parts s = [] ↔ s = [] := ⟨fun h => by rw [← (may_ok hs).2, h]; rfl, fun h => by subst h; rfl⟩
theorem join_take_len (ns : List Bs) (k : Nat) : (join (ns.take k)).length ≤ (join ns).length := by
  induction ns generalizing k with
  | nil => simp
  | cons n r ih =>
    cases k with
    | zero => simp [join]
    | succ k =>
      rw [List.take_succ_cons]
      by_cases h1 : r.take k = []
      · rw [h1]
        by_cases h2 : r = []
        · rw [h2]; exact Nat.le_refl _
        · rw [join_cons n r h2]; simp [join]
      · have h2 : r ≠ [] := fun e => h1 (by rw [e]; simp)
        rw [join_cons n _ h1, join_cons n r h2]
        have := ih k
        simp only [List.length_append, List.length_cons]
        omega
theorem Ok.take {ns : List Bs} (h : Ok ns) (k : Nat) : Ok (ns.take k) :=
  ⟨fun n hn => h.names n (List.mem_of_mem_take hn), Nat.le_trans (List.length_take_le' _ _) h.deep, Nat.le_trans (join_take_len ns k) h.long⟩

/-! ### What package path tells -/
def parentB (s : Bs) : Bs := join (parts s).dropLast
def hasParent (s : Bs) : Bool := !(parts s).isEmpty
def lastB (s : Bs) : Bs := (parts s).getLastD []
def depthB (s : Bs) : Int := if mayB s = true then ((parts s).length : Int) else -1
def glue (a b : Bs) : Bs := if a = [] then b else a ++ 47 :: b
def joinB (a b : Bs) : Bs × Int := if (mayB a && nameB b) = true then (if mayB (glue a b) = true then (glue a b, 0) else ([], 2)) else ([], 1)
def underB (s top : Bs) : Bool := mayB s && (mayB top && (parts top).isPrefixOf (parts s))
def cmpB (a b : Bs) : Int := if Op.bytesLess a b = true then -1 else if a = b then 0 else 1
def cmpL : List Bs → List Bs → Int
  | [], [] => 0
  | [], _ :: _ => -1
  | _ :: _, [] => 1
  | a :: x, b :: y => if cmpB a b = 0 then cmpL x y else cmpB a b
def cmpP (s t : Bs) : Int := cmpL (parts s) (parts t)
def lessB (s t : Bs) : Bool := decide (cmpP s t < 0)

/-! ### The bytes' order -/
theorem bl_irrefl (a : Bs) : Op.bytesLess a a = false := by
  induction a with
  | nil => rfl
  | cons x a ih => simp [Op.bytesLess, ih]
theorem bl_trans : ∀ {a b c : Bs}, Op.bytesLess a b = true → Op.bytesLess b c = true → Op.bytesLess a c = true
  | _, [], _, h, _ => by simp [Op.bytesLess] at h
  | _, _ :: _, [], _, h => by simp [Op.bytesLess] at h
  | [], _ :: _, _ :: _, _, _ => rfl
  | x :: a, y :: b, z :: c, h1, h2 => by
    simp only [Op.bytesLess, Bool.or_eq_true, Bool.and_eq_true, decide_eq_true_eq, beq_iff_eq] at h1 h2 ⊢
    rcases h1 with h1 | ⟨rfl, h1⟩
    · rcases h2 with h2 | ⟨rfl, h2⟩
      · exact .inl (UInt8.lt_trans h1 h2)
      · exact .inl h1
    · rcases h2 with h2 | ⟨rfl, h2⟩
      · exact .inl h2
      · exact .inr ⟨rfl, bl_trans h1 h2⟩
theorem bl_total : ∀ (a b : Bs), Op.bytesLess a b = true ∨ a = b ∨ Op.bytesLess b a = true
  | [], [] => .inr (.inl rfl)
  | [], _ :: _ => .inl rfl
  | _ :: _, [] => .inr (.inr rfl)
  | x :: a, y :: b => by
    simp only [Op.bytesLess, Bool.or_eq_true, Bool.and_eq_true, decide_eq_true_eq, beq_iff_eq]
    by_cases h : x = y
    · subst h
      rcases bl_total a b with h | h | h
      · exact .inl (.inr ⟨rfl, h⟩)
      · exact .inr (.inl (by rw [h]))
      · exact .inr (.inr (.inr ⟨rfl, h⟩))
    · have : x < y ∨ y < x := by
        rcases Nat.lt_or_ge x.toNat y.toNat with h1 | h1
        · exact .inl (UInt8.lt_iff_toNat_lt.2 h1)
        · exact .inr (UInt8.lt_iff_toNat_lt.2 (Nat.lt_of_le_of_ne h1 (fun e => h (UInt8.toNat_inj.1 e.symm))))
      rcases this with h1 | h1
      · exact .inl (.inl h1)
      · exact .inr (.inr (.inl h1))
theorem bl_asymm {a b : Bs} (h : Op.bytesLess a b = true) : Op.bytesLess b a = false := by
  cases h2 : Op.bytesLess b a with
  | false => rfl
  | true => have := bl_trans h h2; rw [bl_irrefl] at this; exact absurd this (by simp)

theorem cmpB_cases (a b : Bs) : (cmpB a b = -1 ∧ Op.bytesLess a b = true) ∨ (cmpB a b = 0 ∧ a = b) ∨ (cmpB a b = 1 ∧ Op.bytesLess b a = true ∧ Op.bytesLess a b = false ∧ a ≠ b) := by
  unfold cmpB
  by_cases h : Op.bytesLess a b = true
  · exact .inl ⟨by rw [if_pos h], h⟩
  · by_cases h2 : a = b
    · exact .inr (.inl ⟨by rw [if_neg h, if_pos h2], h2⟩)
    · refine .inr (.inr ⟨by rw [if_neg h, if_neg h2], ?_, by simpa using h, h2⟩)
      rcases bl_total a b with h3 | h3 | h3
      · exact absurd h3 h
      · exact absurd h3 h2
      · exact h3
theorem cmpB_zero {a b : Bs} : cmpB a b = 0 ↔ a = b := by
  constructor
  · intro h
    rcases cmpB_cases a b with h1 | h1 | h1
    · omega
    · exact h1.2
    · omega
  · rintro rfl
    unfold cmpB
    rw [bl_irrefl]; simp
theorem cmpB_neg {a b : Bs} : cmpB a b < 0 ↔ Op.bytesLess a b = true := by
  constructor
  · intro h
    rcases cmpB_cases a b with h1 | h1 | h1
    · exact h1.2
    · omega
    · omega
  · intro h; unfold cmpB; rw [if_pos h]; omega
theorem cmpB_pos {a b : Bs} : 0 < cmpB a b ↔ Op.bytesLess b a = true := by
  constructor
  · intro h
    rcases cmpB_cases a b with h1 | h1 | h1
    · omega
    · omega
    · exact h1.2.1
  · intro h
    rcases cmpB_cases a b with h1 | h1 | h1
    · have := bl_asymm h1.2; rw [h] at this; exact absurd this (by simp)
    · have := h1.2; subst this; rw [bl_irrefl] at h; exact absurd h (by simp)
    · omega

/-! ### The order of lists of names -/
theorem cmpL_refl (x : List Bs) : cmpL x x = 0 := by
  induction x with
  | nil => rfl
  | cons a x ih => rw [cmpL, if_pos (cmpB_zero.2 rfl), ih]
theorem cmpL_zero : ∀ {x y : List Bs}, cmpL x y = 0 → x = y
  | [], [], _ => rfl
  | [], _ :: _, h => by simp [cmpL] at h
  | _ :: _, [], h => by simp [cmpL] at h
  | a :: x, b :: y, h => by
    rw [cmpL] at h
    split at h
    · rename_i h1
      rw [cmpB_zero.1 h1, cmpL_zero h]
    · rename_i h1
      exact absurd h h1
theorem cmpL_swap : ∀ (x y : List Bs), (cmpL x y < 0 ↔ 0 < cmpL y x)
  | [], [] => by simp [cmpL]
  | [], _ :: _ => by simp [cmpL]
  | _ :: _, [] => by simp [cmpL]
  | a :: x, b :: y => by
    rw [cmpL, cmpL]
    by_cases h : a = b
    · subst h
      rw [if_pos (cmpB_zero.2 rfl), if_pos (cmpB_zero.2 rfl)]
      exact cmpL_swap x y
    · rw [if_neg (fun e => h (cmpB_zero.1 e)), if_neg (fun e => h (cmpB_zero.1 e).symm), cmpB_neg, cmpB_pos]
theorem cmpL_trans : ∀ {x y z : List Bs}, cmpL x y < 0 → cmpL y z < 0 → cmpL x z < 0
  | [], [], _, h, _ => by simp [cmpL] at h
  | _ :: _, [], _, h, _ => by simp [cmpL] at h
  | _, _ :: _, [], _, h => by simp [cmpL] at h
  | [], _ :: _, _ :: _, _, _ => by simp [cmpL]
  | a :: x, b :: y, c :: z, h1, h2 => by
    rw [cmpL] at h1 h2 ⊢
    by_cases e1 : a = b
    · subst e1
      rw [if_pos (cmpB_zero.2 rfl)] at h1
      by_cases e2 : a = c
      · subst e2
        rw [if_pos (cmpB_zero.2 rfl)] at h2 ⊢
        exact cmpL_trans h1 h2
      · rw [if_neg (fun e => e2 (cmpB_zero.1 e))] at h2 ⊢
        exact h2
    · rw [if_neg (fun e => e1 (cmpB_zero.1 e))] at h1
      have h1' := cmpB_neg.1 h1
      by_cases e2 : b = c
      · subst e2
        rw [if_neg (fun e => e1 (cmpB_zero.1 e))]
        exact h1
      · rw [if_neg (fun e => e2 (cmpB_zero.1 e))] at h2
        have h2' := cmpB_neg.1 h2
        have h3 := bl_trans h1' h2'
        rw [if_neg (fun e => by rw [cmpB_zero.1 e, bl_irrefl] at h3; exact absurd h3 (by simp))]
        exact cmpB_neg.2 h3
theorem cmpL_prefix : ∀ {x y : List Bs}, x.isPrefixOf y = true → x ≠ y → cmpL x y < 0
  | [], [], _, h => absurd rfl h
  | [], _ :: _, _, _ => by simp [cmpL]
  | _ :: _, [], h, _ => by simp at h
  | a :: x, b :: y, h, hne => by
    simp only [List.isPrefixOf, Bool.and_eq_true, beq_iff_eq] at h
    obtain ⟨rfl, h⟩ := h
    rw [cmpL, if_pos (cmpB_zero.2 rfl)]
    exact cmpL_prefix h (fun e => hne (by rw [e]))
/-- What lies between a list and one that begins with it begins with it, too. -/
theorem cmpL_between : ∀ {x y z : List Bs}, x.isPrefixOf y = true → cmpL x z < 0 → cmpL z y < 0 → x.isPrefixOf z = true
  | [], _, z, _, _, _ => by cases z <;> rfl
  | a :: x, [], _, h, _, _ => by simp at h
  | a :: x, b :: y, [], _, h, _ => by simp [cmpL] at h
  | a :: x, b :: y, c :: z, h, h1, h2 => by
    simp only [List.isPrefixOf, Bool.and_eq_true, beq_iff_eq] at h ⊢
    obtain ⟨rfl, h⟩ := h
    rw [cmpL] at h1 h2
    by_cases e : a = c
    · subst e
      rw [if_pos (cmpB_zero.2 rfl)] at h1 h2
      exact ⟨rfl, cmpL_between h h1 h2⟩
    · rw [if_neg (fun q => e (cmpB_zero.1 q))] at h1
      rw [if_neg (fun q => e (cmpB_zero.1 q).symm)] at h2
      have := bl_asymm (cmpB_neg.1 h1)
      rw [cmpB_neg.1 h2] at this
      exact absurd this (by simp)
theorem lessB_iff (s t : Bs) : lessB s t = true ↔ cmpL (parts s) (parts t) < 0 := by unfold lessB cmpP; simp
/-- As Go's text asks it: top, or text that begins with top and a separator. -/
theorem under_text {s top : Bs} (hs : mayB s = true) (ht : mayB top = true) : (parts top).isPrefixOf (parts s) = (decide (top = []) || (decide (s = top) || (top ++ [47]).isPrefixOf s)) := by
  obtain ⟨os, js⟩ := may_ok hs
  obtain ⟨ot, jt⟩ := may_ok ht
  rw [Bool.eq_iff_iff]
  simp only [Bool.or_eq_true, decide_eq_true_eq]
  constructor
  · intro h
    obtain ⟨r, hr⟩ := List.isPrefixOf_iff_prefix.1 h
    by_cases h0 : top = []
    · exact .inl h0
    · have hp0 : parts top ≠ [] := fun e => h0 ((parts_nil ht).1 e)
      by_cases hr0 : r = []
      · rw [hr0, List.append_nil] at hr
        exact .inr (.inl (by rw [← js, ← jt, hr]))
      · refine .inr (.inr (List.isPrefixOf_iff_prefix.2 ⟨join r, ?_⟩))
        rw [← js, ← hr, join_append _ _ hp0 hr0, jt]
        simp
  · intro h
    rcases h with h | h | h
    · subst h
      rw [show parts [] = [] from rfl]
      cases parts s <;> rfl
    · subst h
      exact List.isPrefixOf_iff_prefix.2 (List.prefix_refl _)
    · obtain ⟨q, hq⟩ := List.isPrefixOf_iff_prefix.1 h
      have e : s = top ++ 47 :: q := by rw [← hq]; simp
      by_cases h0 : top = []
      · subst h0
        rw [show parts [] = [] from rfl]
        cases parts s <;> rfl
      · have hs0 : s ≠ [] := by rw [e]; simp
        have ps : parts s = split s := by unfold parts; rw [if_neg hs0, if_pos hs]
        have pt : parts top = split top := by unfold parts; rw [if_neg h0, if_pos ht]
        rw [ps, pt, e, split_append]
        exact List.isPrefixOf_iff_prefix.2 ⟨_, rfl⟩
end Go.Proofs.YtncfadhcpmokiaaDoor.Sp
