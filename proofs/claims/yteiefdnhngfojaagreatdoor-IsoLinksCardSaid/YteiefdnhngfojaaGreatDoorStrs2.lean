/-
  Three functions of Go's library at this translation, each at the arguments at which package path calls it: strings.ContainsAny at the two characters '/' and 0, strings.Split at a separator of one byte, strings.Join: what each call comes to, as a plain function, and the proof.
-/
import Derived.Test.YteiefdnhngfojaaGreatDoorShelf
import Derived.Shelf.Strings.SplitCore
import Derived.OrdersHeld
import Derived.Deep.RegionHeld3
import Derived.Laws.BitsLemmas
import Derived.RowKit
import Derived.Below
import Derived.Deep.Draws
import Derived.Deep.AppendLies
import Derived.Maps.AppendAt
import Derived.OwnWalk
import Derived.Laws.BytesArg
import Derived.Laws.MakeOwn
import Derived.Laws.OwnMore
import Derived.Deep.OwnRows
import Derived.Tactics
import Derived.Lib.ConvBytes
import Derived.Laws.Slices
import Derived.WalkKit
import Derived.KernelRfl
import Derived.RowKit3
import Derived.Deep.LoopGhost
import Derived.Deep.QuietTactic
import Derived.BigQuiet
import Derived.WideLaws
import Derived.Deep.DeepCutAuto
import Derived.Deep.CutBlock
import Derived.Laws.Rows
import Derived.Lib.AppendStr
import Derived.ArgAppend
import Derived.Laws.IdiomCopy
import Derived.Laws.RangeAny
import Derived.Lib.OthersKept
import Derived.Laws.Runes
import Derived.WalkKit
import Derived.Below
import Derived.Deep.LoopGhost
import Derived.Deep.QuietTactic
import Derived.BigQuiet
set_option linter.unusedVariables false
set_option linter.unusedSimpArgs false
namespace Go.Proofs.YteiefdnhngfojaaGreatDoor.Ext
open Go Go.RowKit

structure Aside0 (p : Prop) : Prop where mk :: (out : p)
theorem pw_below_drewN {B : Nat} {w W : World} (h : Below B w W) (n : Nat) : Below B w (W.drewN n) := ⟨h.os, h.tape, h.output, h.size, h.block⟩
theorem below_then {B : Nat} {w w1 w2 : World} (h : Below B w w1) (hB : B ≤ w1.heap.size) (k : Below w1.heap.size w1 w2) : Below B w w2 :=
  h.trans ⟨k.os, k.tape, k.output, k.size, fun i hi => k.block i (Nat.lt_of_lt_of_le hi hB)⟩
def seps : ByteArray := ⟨#[47, 0]⟩

theorem quiet_add_same {P : Program} {f : FuncId} {args : Array Value} {w : World} {a n : Nat} {v : Value}
    (h : Calls P f args (w.drewN (a + n)) fun e w' => e = .returned v ∧ w' = w.drewN (a + n)) :
    Calls P f args (w.drewN (a + n)) fun e w'' => e = .returned v ∧ ∃ m, w'' = w.drewN (a + m) :=
  h.mono fun _ _ ⟨he, hm⟩ => ⟨he, n, hm⟩

theorem two_bytes (s : ByteArray) (h : s.size = 2) : ∃ x y, s = ⟨#[x, y]⟩ := by
  obtain ⟨⟨l⟩⟩ := s
  match l, h with
  | [x, y], _ => exact ⟨x, y, rfl⟩

set_option maxHeartbeats 4000000 in
set_option maxRecDepth 100000 in
/-- A rune beyond ASCII is not among '/' and 0. -/
theorem indexRune_high (r : Int) (w : World) (h1 : 128 ≤ r) (h2 : r ≤ 2147483647) :
    Calls Tryz.prog 201 #[.string seps, .int .i32 r] w fun e w' => e = .returned (.int .i64 (-1)) ∧ Below w.heap.size w w' := by
  have hsz : seps.size = 2 := rfl
  by_cases he : r = 65533
  · subst he
    go_enter Tryz.func201, Tryz.ntmps201
    go_wp2
    go_loopg [176, 177] 3 (fun g _ _ wx => ∃ i : Nat, i ≤ 2 ∧ g = 3 - i ∧ wx = w.iter seps i)
    case atStart => exact ⟨0, by omega, rfl, rfl⟩
    case round =>
      obtain ⟨i, hi, rfl, rfl⟩ := hrel
      rcases (by omega : i = 0 ∨ i = 1 ∨ i = 2) with rfl | rfl | rfl
      · have hnx := fun ty => run_next_ascii (P := Tryz.prog) w seps 0 ty (by decide) (by decide)
        have e0 : (seps[0]'(by decide)).toNat = 47 := rfl
        rw [e0] at hnx
        go_wp2
        go_roundg 2
        case measure => omega
        case rel => exact ⟨1, by omega, rfl, rfl⟩
      · have hnx := fun ty => run_next_ascii (P := Tryz.prog) w seps 1 ty (by decide) (by decide)
        have e0 : (seps[1]'(by decide)).toNat = 0 := rfl
        rw [e0] at hnx
        go_wp2
        go_roundg 1
        case measure => omega
        case rel => exact ⟨2, by omega, rfl, rfl⟩
      · have hnx := run_next_end (P := Tryz.prog) w seps 2
        go_wp2
        go_ret
        exact ⟨rfl, (Below.refl _ _).alloc (Nat.le_refl _) _⟩
  · have he' : (r == 65533) = false := beq_eq_false_iff_ne.2 he
    cases hv : Lib.validRune r with
    | false =>
      go_enter Tryz.func201, Tryz.ntmps201
      go_wp2_with (go_at_call 213; refine (Tryz.utf8_ValidRune _ _).mono ?_; rintro e w' ⟨rfl, hw⟩; rw [hw, hv])
      go_ret
      exact ⟨rfl, Below.refl _ _⟩
    | true =>
      go_enter Tryz.func201, Tryz.ntmps201
      go_wp2_with (go_at_call 213; refine (Tryz.utf8_ValidRune _ _).mono ?_; rintro e w' ⟨rfl, hw⟩; rw [hw, hv])
      go_step3
      have hv' : Utf8.valid r = true := by
        unfold Lib.validRune at hv
        unfold Utf8.valid
        have := of_decide_eq_true hv
        simp only [Bool.or_eq_true, Bool.and_eq_true, decide_eq_true_eq]
        omega
      obtain ⟨n2, n4, hlast⟩ := encode_facts r hv' h1
      obtain ⟨rs, hrs⟩ : ∃ rs, rs = Utf8.encode r := ⟨_, rfl⟩
      rw [← hrs] at n2 n4 hlast
      have hcv := fun (w : World) => run_convert_int_string (P := Tryz.prog) w 21 9 .i32 r (by kernel_rfl) (by kernel_rfl)
      rw [← hrs] at hcv
      have hl := hlast (by omega)
      clear hlast hrs hv hv' he
      by_cases h3 : rs.size = 2
      · obtain ⟨x, y, rfl⟩ := two_bytes rs h3
        have hy : 128 ≤ y.toNat := hl
        clear hl n2 n4 h3
        go_wp2
        go_loopg [9] 1 (fun g s9 wx => g = 1 ∧ s9 = .int .i64 1 ∧ wx = w)
        case atStart => exact ⟨rfl, rfl, rfl⟩
        case round =>
          obtain ⟨rfl, rfl, rfl⟩ := hrel
          have hs2 : ((seps.size : Nat) : Int) = 2 := rfl
          have hi : ∀ w, (Instr.index 9 (.string seps) (.int .i64 1)).run Tryz.prog w = .ok (.int .u8 0) w := fun _ => by kernel_rfl
          have hw2 : IntKind.i64.wrap 2 = 2 := rfl
          have hne : ((0 : Int) != (y.toNat : Int)) = true := by rw [bne_iff_ne]; omega
          have hcut : seps.extract 2 2 = ByteArray.empty := by decide
          have hib : Lib.indexByte (ByteArray.empty).data.toList ((y.toNat : Int)).toNat.toUInt8 = -1 := rfl
          have hi2 : ∀ w, (Instr.index 9 (.string ⟨#[x, y]⟩) (.int .i64 1)).run Tryz.prog w = .ok (.int .u8 y.toNat) w := fun _ => by kernel_rfl
          go_wp2
          go_step3
          go_wp2
          go_quiet (fail)
          go_wp2
          go_quiet ((go_at_call 212; exact quiet_add_same (Tryz.strings_IndexByte _ _ _)))
          go_wp2
          simp only [Exit.noGoto, Exit.inBlock, Exit.then]
          go_ret
          exact ⟨rfl, pw_below_drewN (Below.refl _ _) _⟩
      · go_wp2
        go_loopg [9] 1 (fun g s9 wx => g = 1 ∧ s9 = .int .i64 ((rs.size : Int) - 1) ∧ wx = w)
        case atStart => exact ⟨rfl, rfl, rfl⟩
        case round =>
          obtain ⟨rfl, rfl, rfl⟩ := hrel
          have hs2 : ((seps.size : Nat) : Int) = 2 := rfl
          have hlt : ¬ (rs.size : Int) - 1 < (seps.size : Int) := by omega
          go_wp2
          go_ret
          exact ⟨rfl, Below.refl _ _⟩

/-- The bytes that a rune beyond ASCII takes are beyond ASCII. -/
theorem decode_bytes (s : ByteArray) (pos : Nat) (h : pos < s.size) (ha : 128 ≤ (s[pos]'h).toNat) (j : Nat) (b : UInt8) (h1 : pos ≤ j) (h2 : j < pos + (Utf8.decode s pos).2) (hb : s.data.toList[j]? = some b) : 128 ≤ b.toNat := by
  have hget : ∀ k, (hk : pos + k < s.size) → s.get! (pos + k) = s[pos + k]'hk := fun k hk => by
    show s.get! _ = _
    simp [ByteArray.get!, getElem!_pos, hk]
    rfl
  have hj : j < s.size := by rw [Lib.size_eq]; exact (List.getElem?_eq_some_iff.1 hb).1
  have hbj : s[j]'hj = b := by
    have := Lib.data_getElem? s j hj
    rw [this] at hb
    exact Option.some.inj hb
  obtain ⟨k, rfl⟩ : ∃ k, j = pos + k := ⟨j - pos, by omega⟩
  have hat : (s.get! (pos + k)).toNat = b.toNat := by rw [hget k hj, hbj]
  by_cases hk0 : k = 0
  · subst hk0
    have e : s[pos]'h = b := hbj
    rw [← e]; exact ha
  have hcont : (s.get! (pos + k)).toNat / 64 = 2 → 128 ≤ b.toNat := fun e => by rw [hat] at e; omega
  have hn : ¬ (s[pos]'h).toNat < 128 := by omega
  have hk4 : k < (Utf8.decode s pos).2 := by omega
  simp only [Utf8.decode, get_at s pos h, hn, if_false] at hk4
  have key : ∀ c, (c = 1 ∨ c = 2 ∨ c = 3 ∨ c = 4) → k < c → (1 < c → (s.get! (pos + 1)).toNat / 64 = 2) → (2 < c → (s.get! (pos + 2)).toNat / 64 = 2) → (3 < c → (s.get! (pos + 3)).toNat / 64 = 2) → 128 ≤ b.toNat := by
    intro c hc hkc q1 q2 q3
    rcases (by omega : k = 1 ∨ k = 2 ∨ k = 3) with rfl | rfl | rfl
    · exact hcont (q1 (by omega))
    · exact hcont (q2 (by omega))
    · exact hcont (q3 (by omega))
  split at hk4
  · rename_i hc
    simp only [Bool.and_eq_true, decide_eq_true_eq, beq_iff_eq] at hc
    split at hk4
    · exact key 2 (by omega) hk4 (fun _ => by omega) (fun _ => by omega) (fun _ => by omega)
    · omega
  · split at hk4
    · rename_i hc
      simp only [Bool.and_eq_true, decide_eq_true_eq, beq_iff_eq] at hc
      split at hk4
      · exact key 3 (by omega) hk4 (fun _ => by omega) (fun _ => by omega) (fun _ => by omega)
      · omega
    · split at hk4
      · rename_i hc
        simp only [Bool.and_eq_true, decide_eq_true_eq, beq_iff_eq] at hc
        split at hk4
        · exact key 4 (by omega) hk4 (fun _ => by omega) (fun _ => by omega) (fun _ => by omega)
        · omega
      · omega

theorem noAny_more {s chars : List UInt8} {i n : Nat} (h : Lib.NoAny s chars i) (hm : ∀ (j : Nat) (b : UInt8), i ≤ j → j < i + n → s[j]? = some b → chars.contains b = false) : Lib.NoAny s chars (i + n) := fun j b hj hb => by
  by_cases hlt : j < i
  · exact h j b hlt hb
  · exact hm j b (by omega) hj hb
theorem high_not {b : UInt8} (h : 128 ≤ b.toNat) : ([47, 0] : List UInt8).contains b = false := by
  have h1 : b ≠ 47 := fun e => by rw [e] at h; exact absurd h (by decide)
  have h2 : b ≠ 0 := fun e => by rw [e] at h; exact absurd h (by decide)
  simp [h1, h2]

theorem below_iterAt {B : Nat} {a w : World} (h : Below B a w) {k : Nat} (hk : B ≤ k) (s : ByteArray) (p : Nat) : Below B a (w.iterAt k s p) :=
  ⟨h.os, h.tape, h.output, by have := h.size; simpa [World.iterAt] using this, fun i hi => by
    have e : (w.iterAt k s p).heap[i]? = w.heap[i]? := by
      simp only [World.iterAt, Array.getElem?_setIfInBounds]
      rw [if_neg (by omega)]
    rw [e]; exact h.block i hi⟩
theorem iter_kept {w w1 : World} (h : Below w.heap.size w w1) {k : Nat} {o : Obj} (hk : w.heap[k]? = some o) : w1.heap[k]? = some o := by
  have hlt : k < w.heap.size := (Array.getElem?_eq_some_iff.1 hk).1
  rw [h.block k hlt, hk]

set_option maxHeartbeats 8000000 in
set_option maxRecDepth 100000 in
/-- strings.IndexAny at '/' and 0, a string of at most eight bytes. -/
theorem indexAny_short (s : ByteArray) (w : World) (h8 : s.size ≤ 8) :
    Calls Tryz.prog 186 #[.string s, .string seps] w fun e w' => e = .returned (.int .i64 (Lib.indexAny s.data.toList [47, 0])) ∧ Below w.heap.size w w' := by
  have hemp : seps.toList.isEmpty = false := by rw [Lib.toList_data]; rfl
  have hsz : seps.size = 2 := rfl
  have h8z : decide ((8 : Int) < (s.size : Int)) = false := decide_eq_false (by omega)
  have hchars : seps.data.toList = [47, 0] := rfl
  go_enter Tryz.func186, Tryz.ntmps186
  go_wp2_with (go_at_call 202; refine (Tryz.strings_shouldUseASCIISet _ _).mono ?_; rintro e w' ⟨rfl, hw⟩; rw [hw, h8z])
  go_loopg [9, 10] (s.size + 1) (fun g _ _ wx => ∃ i : Nat, s.size < i + g ∧ Aside (wx.heap[w.heap.size]? = some (.stringIter s i) ∧ Below w.heap.size w wx) ∧ Lib.NoAny s.data.toList [47, 0] i)
  case atStart => exact ⟨0, by omega, ⟨by simp [World.iter_heap], (Below.refl _ _).alloc (Nat.le_refl _) _⟩, Lib.NoAny.zero _ _⟩
  case round =>
    obtain ⟨i, hig, ha, hno⟩ := hrel
    have HN : Aside (Lib.NoAny s.data.toList [47, 0] i) := hno
    clear hno
    by_cases hi : i < s.size
    · obtain ⟨hk, hb⟩ := ha.out
      have HB : Aside (Below w.heap.size w wr) := hb
      have HK : Aside (wr.heap[w.heap.size]? = some (.stringIter s i)) := hk
      clear ha hb
      obtain ⟨x, hx⟩ : ∃ x : UInt8, s[i]'hi = x := ⟨_, rfl⟩
      have hxl : s.data.toList[i]? = some x := by rw [← hx]; exact Lib.data_getElem? s i hi
      have Hx : Aside (s.data.toList[i]? = some x) := hxl
      by_cases h128 : x.toNat < 128
      · have hnx := fun ty => Lib.run_next_ascii_at (P := Tryz.prog) wr w.heap.size s i ty hk hi (by rw [hx]; exact h128)
        rw [hx] at hnx
        clear hk hxl hx
        have hback : ((x.toNat : Int)).toNat.toUInt8 = x := by simp
        have HS : Aside (World.iterPos (wr.iterAt w.heap.size s (i + 1)) w.heap.size = i + 1) := by
          show _ = _
          unfold World.iterPos
          rw [Lib.iterAt_heap wr w.heap.size s i (i + 1) HK.out]
        have hcon := Lib.contains_iff_indexByte [47, 0] x
        cases hin : ([47, 0] : List UInt8).contains x
        · rw [hin] at hcon
          have hlt : ¬ ((0 : Int) ≤ Lib.indexByte [47, 0] x) := of_decide_eq_false hcon.symm
          clear hcon
          go_wp2_with (go_at_call 201; refine (Tryz.strings_IndexRune_ascii _ _ _ (by omega) (by omega)).mono ?_; rintro e w' ⟨rfl, hw⟩; rw [hw, hback, hchars])
          obtain ⟨g, rfl⟩ : ∃ g, gk = g + 1 := ⟨gk - 1, by omega⟩
          go_roundg g
          case measure => omega
          case rel => exact ⟨i + 1, by omega, ⟨Lib.iterAt_heap wr _ s i (i + 1) HK.out, below_iterAt HB.out (Nat.le_refl _) _ _⟩, HN.out.succ Hx.out hin⟩
        · rw [hin] at hcon
          have hge : (0 : Int) ≤ Lib.indexByte [47, 0] x := of_decide_eq_true hcon.symm
          clear hcon
          go_wp2_with (go_at_call 201; refine (Tryz.strings_IndexRune_ascii _ _ _ (by omega) (by omega)).mono ?_; rintro e w' ⟨rfl, hw⟩; rw [hw, hback, hchars])
          go_ret
          exact ⟨by rw [Lib.indexAny_hit HN.out Hx.out hin]; rfl, below_iterAt HB.out (Nat.le_refl _) _ _⟩
      · have hhigh : 128 ≤ (s[i]'hi).toNat := by rw [hx]; omega
        obtain ⟨hd1, hd2⟩ := decode_high s i hi hhigh
        have hd3 := decode_le s i
        have HD : Aside (∀ (j : Nat) (b : UInt8), i ≤ j → j < i + (Utf8.decode s i).2 → s.data.toList[j]? = some b → ([47, 0] : List UInt8).contains b = false) := fun j b q1 q2 q3 => high_not (decode_bytes s i hi hhigh j b q1 q2 q3)
        have hnx := fun ty => Lib.run_next_any_at (P := Tryz.prog) wr w.heap.size s i ty hk hi
        obtain ⟨r, hr⟩ : ∃ r, r = (Utf8.decode s i).1 := ⟨_, rfl⟩
        obtain ⟨n, hn⟩ : ∃ n, n = (Utf8.decode s i).2 := ⟨_, rfl⟩
        rw [← hr] at hd1 hd3 hnx
        rw [← hn] at hd2 hnx
        rw [← hn] at HD
        clear hk hxl hx hr hn hhigh
        go_wp2_with (go_at_call 201; refine (indexRune_high _ _ (by omega) (by omega)).mono ?_; rintro e w2 ⟨rfl, hb2⟩; have HB2 := Aside0.mk hb2; clear hb2)
        obtain ⟨g, rfl⟩ : ∃ g, gk = g + 1 := ⟨gk - 1, by omega⟩
        go_roundg g
        case measure => omega
        case rel => exact ⟨i + n, by omega, ⟨iter_kept HB2.out (Lib.iterAt_heap wr _ s i (i + n) HK.out), below_then (below_iterAt HB.out (Nat.le_refl _) _ _) (by have := HB.out.size; simp [World.iterAt]; omega) HB2.out⟩, noAny_more HN.out HD.out⟩
    · obtain ⟨hk, hb⟩ := ha.out
      have HB : Aside (Below w.heap.size w wr) := hb
      clear ha hb
      have hnx := Lib.run_next_end_at (P := Tryz.prog) wr w.heap.size s i
      have hnx2 := fun ty => hnx ty hk hi
      clear hnx hk
      go_wp2
      go_ret
      exact ⟨by rw [Lib.indexAny_none (fun j b hj hb => HN.out j b (by rw [← Lib.size_eq] at hj; omega) hb)]; rfl, HB.out⟩

/-- strings.IndexAny at '/' and 0. -/
theorem indexAny_seps (s : ByteArray) (w : World) (hs : s.size < 4294967281) :
    Calls Tryz.prog 186 #[.string s, .string seps] w fun e w' => e = .returned (.int .i64 (Lib.indexAny s.data.toList [47, 0])) ∧ Below w.heap.size w w' := by
  by_cases h8 : s.size ≤ 8
  · exact indexAny_short s w h8
  · refine (Tryz.strings_IndexAny_long (by intro w; kernel_rfl) s seps w (by decide) (by omega) hs (by decide) ?_).mono fun e w' ⟨h1, h2⟩ => ⟨h1, ?_⟩
    · intro j b hb
      have : b = 47 ∨ b = 0 := by
        have := List.mem_of_getElem? hb
        simpa [seps] using this
      rcases this with rfl | rfl <;> decide
    · rw [h2]
      exact ((Below.refl _ _).alloc (Nat.le_refl _) _).alloc (by simp) _

/-- strings.ContainsAny, at the two characters '/' and 0. -/
def strings_ContainsAny.f (a0 : ByteArray) (a1 : ByteArray) : Option Bool := if a1 = seps then if a0.size < 4294967281 then some (Lib.containsAny a0.data.toList [47, 0]) else none else none
theorem strings_ContainsAny.calls (a0 : ByteArray) (a1 : ByteArray) (r : Bool) (w : World) (h : strings_ContainsAny.f a0 a1 = some r) :
    Calls Tryz.prog 162 #[.string a0, .string a1] w fun e w' => e = .returned (.bool r) ∧ Below w.heap.size w w' := by
  unfold strings_ContainsAny.f at h
  split at h
  · rename_i h1
    subst h1
    split at h
    · rename_i hs
      obtain rfl := Option.some.inj h
      go_enter Tryz.func162, Tryz.ntmps162
      go_wp2_with (go_at_call 186; refine (indexAny_seps _ _ hs).mono ?_; rintro e w' ⟨rfl, hb⟩; have HB := Aside0.mk hb; clear hb)
      go_ret
      exact ⟨rfl, HB.out⟩
    · exact absurd h (by simp)
  · exact absurd h (by simp)

/-- strings.Split, at a separator of one byte. -/
def strings_Split.f (a0 : ByteArray) (a1 : ByteArray) : Option (List ByteArray) := if a1.size = 1 then if a0.size < 4294967281 then some (Lib.splitB a1 0 (Lib.countB a0 a1) a0) else none else none
theorem split_one (s : ByteArray) (c : UInt8) (w : World) (hs : s.size < 4294967281) :
    Calls Tryz.prog 131 #[.string s, .string ⟨#[c]⟩] w fun e w' =>
      e = .returned (.slice (some ⟨w.heap.size, 0, none⟩) (Lib.countB s ⟨#[c]⟩ + 1) (Lib.countB s ⟨#[c]⟩ + 1)) ∧ w' = w.alloc (.cells ((Lib.splitB ⟨#[c]⟩ 0 (Lib.countB s ⟨#[c]⟩) s).map Value.string).toArray 9) := by
  have h1 : 1 ≤ (⟨#[c]⟩ : ByteArray).size := Nat.le_refl 1
  have hle := Lib.countB_le ⟨#[c]⟩ h1 s.size s (Nat.le_refl _)
  have hlen := Lib.splitB_all ⟨#[c]⟩ h1 0 _ s rfl
  have hco : Calls Tryz.prog 185 #[.string s, .string ⟨#[c]⟩] w fun e w' => e = .returned (.int .i64 (Lib.countB s ⟨#[c]⟩)) ∧ w' = w := by
    refine (Tryz.strings_Count_one s c w).mono fun e w' ⟨he, hw⟩ => ⟨?_, hw⟩
    rw [he]
    show _ = Ending.returned (Value.int .i64 ((Lib.count s.data.toList [c] : Nat) : Int))
    rw [Lib.count_one]
    rfl
  have hix : ∀ (x : ByteArray) (cc : Array Value), x.size ≤ s.size → Calls Tryz.prog 183 #[.string x, .string ⟨#[c]⟩] (w.alloc (.cells cc 9)) fun e w' => e = .returned (.int .i64 (Lib.indexB x ⟨#[c]⟩)) ∧ w' = w.alloc (.cells cc 9) := fun x cc _ => by
    refine (Tryz.strings_Index_one x c _).mono fun e w' ⟨he, hw⟩ => ⟨?_, hw⟩
    rw [he]
    show _ = Ending.returned (Value.int .i64 (Lib.index x.data.toList [c]))
    rw [Lib.index_one]
  have cc := Any.strings_genSplit_core Tryz.lays221 (by kernel_rfl) s ⟨#[c]⟩ 0 (-1) (Lib.countB s ⟨#[c]⟩ + 1) w hs h1 (Nat.zero_le _) hix hco (by decide) (by decide) (by rw [if_pos (by decide)]; omega)
  rw [Nat.add_sub_cancel, hlen] at cc
  have e2 : Lib.cellsOf (Lib.splitB ⟨#[c]⟩ 0 (Lib.countB s ⟨#[c]⟩) s) (Lib.countB s ⟨#[c]⟩ + 1) = ((Lib.splitB ⟨#[c]⟩ 0 (Lib.countB s ⟨#[c]⟩) s).map Value.string).toArray := by rw [← hlen]; exact Lib.cellsOf_full _
  rw [e2] at cc
  have C : Calls Tryz.prog 161 #[.string s, .string ⟨#[c]⟩, .int .i64 0, .int .i64 (-1)] w _ := cc
  go_enter Tryz.func131, Tryz.ntmps131
  go_wp2_with (go_at_call 161; refine C.mono ?_; rintro e w' ⟨rfl, hw⟩; rw [hw])
  go_ret
  exact ⟨rfl, rfl⟩
theorem addr_split (ad : Addr) (k : Nat) : (ad.add 1).add k = ad.add (k + 1) := by
  unfold Addr.add
  by_cases h : k = 0
  · subst h; simp
  · simp [h]; omega
theorem addr_block (ad : Addr) (k : Nat) : (ad.add k).block = ad.block := by
  unfold Addr.add
  split <;> rfl

theorem growC (B b n : Nat) (w : World) (hB : B ≤ b) (hbk : w.heap[b]? = some (.cells #[.pointer none, .slice none 0 0] 159 (0, 0))) (hBw : B ≤ w.heap.size) (hn : n ≤ 281474976710656) :
    Calls Tryz.prog 173 #[.pointer (some ⟨b, 0, none⟩), .int .i64 n] w fun e w' => e = .returned (.tuple #[]) ∧ (Lib.BuilderAt 159 5 B b (.pointer (some ⟨b, 0, none⟩)) [] w' ∧ Below B w w') :=
  Any.Builder_Grow_fresh { Tryz.lays156 with } Tryz.Builder_Extra_156 B b n w hB hbk hBw hn
theorem writeC (B b : Nat) (bs : List Value) (s : ByteArray) (w : World) (h : Lib.IsBuilder 159 5 B b bs w) (hlen : bs.length + s.size ≤ 140737488355328) (hBw : B ≤ w.heap.size) :
    Calls Tryz.prog 174 #[.pointer (some ⟨b, 0, none⟩), .string s] w fun e w' => e = .returned (.tuple #[.int .i64 s.size, .nilIface]) ∧ (Lib.BuilderAt 159 5 B b (.pointer (some ⟨b, 0, none⟩)) (bs ++ Lib.strCells s) w' ∧ Below B w w') :=
  Any.Builder_WriteString { Tryz.lays156 with } Tryz.Builder_Extra_156 B b bs s w h hlen hBw
theorem stringC (B b : Nat) (l : List UInt8) (w : World) (h : Lib.IsBuilder 159 5 B b (Lib.byteCells l) w) (hBw : B ≤ w.heap.size) :
    Calls Tryz.prog 175 #[.pointer (some ⟨b, 0, none⟩)] w fun e w' => e = .returned (.string ⟨l.toArray⟩) ∧ Below B w w' :=
  Any.Builder_String_any { Tryz.lays156 with } Tryz.Builder_Extra_156 B b l w h hBw

set_option maxHeartbeats 4000000 in
set_option maxRecDepth 100000 in
/-- strings.Join of two elements or more, at a separator of one byte; the elements lie at whatever address. -/
theorem join_many (ad : Addr) (cp : Nat) (xs : List ByteArray) (sep : ByteArray) (w : World)
    (hcells : ∀ (j : Nat) x, xs[j]? = some x → w.cell? (ad.add j) = some (.string x))
    (hs1 : sep.size = 1) (h2 : 2 ≤ xs.length) (hN : xs.length ≤ 140737488355329) (hcap : xs.length ≤ cp)
    (hlen : (Lib.join (xs.map (·.data.toList)) sep.data.toList).length ≤ 140737488355328) :
    Calls Tryz.prog 152 #[.slice (some ad) xs.length cp, .string sep] w fun e w' => e = .returned (.string ⟨(Lib.join (xs.map (·.data.toList)) sep.data.toList).toArray⟩) ∧ Below w.heap.size w w' := by
  obtain ⟨x0, r, hxs⟩ : ∃ x0 r, xs = x0 :: r := by
    cases xs with
    | nil => simp at h2
    | cons a t => exact ⟨a, t, rfl⟩
  have hbk : ad.block < w.heap.size := by
    have := World.block_lt_of_cell? w _ (hcells 0 x0 (by rw [hxs]; rfl))
    rwa [addr_block] at this
  have HC := Aside0.mk hcells
  clear hcells
  have hjl : (xs.length - 1) + Lib.lens (xs.map (·.data.toList)) ≤ 140737488355328 := by
    have := Lib.join_length x0.data.toList (r.map (·.data.toList)) sep.data.toList
    rw [hxs] at hlen ⊢
    simp only [List.map_cons] at hlen ⊢
    rw [this, List.length_map, ← Lib.size_eq, hs1] at hlen
    rw [List.length_cons, Nat.add_sub_cancel]
    omega
  have hrl : r.length = xs.length - 1 := by rw [hxs]; simp
  have hdv : ¬ (9223372036854775807 / ((xs.length : Int) - 1) ≤ (sep.size : Int)) := by
    rw [hs1]
    have e1 : (2 : Int) ≤ 9223372036854775807 / ((xs.length : Int) - 1) := by
      apply Int.le_ediv_of_mul_le (by omega)
      omega
    omega
  have hne0 : ((xs.length : Int) == 0) = false := beq_eq_false_iff_ne.2 (by omega)
  have hne1 : ((xs.length : Int) == 1) = false := beq_eq_false_iff_ne.2 (by omega)
  have hprod : wrap64 ((sep.size : Int) * ((xs.length : Int) - 1)) = (xs.length : Int) - 1 := by
    rw [hs1]
    unfold wrap64
    omega
  have Hxs := Aside0.mk hxs
  have Hlen := Aside0.mk hlen
  have hsz : (0 : Int) < (sep.size : Int) := by omega
  have Hrl := Aside0.mk hrl
  have Hs1 := Aside0.mk hs1
  clear hxs hlen hrl hs1
  go_enter Tryz.func152, Tryz.ntmps152
  go_wp2_with fail
  go_loop [5, 41] (fun n i => ∃ k : Nat, k ≤ xs.length ∧ i = .int .i64 k ∧ n = .int .i64 (((xs.length - 1) + Lib.lens ((xs.map (·.data.toList)).take k) : Nat) : Int)) (fun _ i => xs.length - (intOf i).toNat)
  case atStart => exact ⟨0, Nat.zero_le _, rfl, by simp [Lib.lens]; omega⟩
  case round =>
    obtain ⟨k, hk, rfl, rfl⟩ := hrel
    by_cases hkn : k < xs.length
    · obtain ⟨x, hx⟩ : ∃ x, xs[k]? = some x := ⟨xs[k], List.getElem?_eq_getElem hkn⟩
      have hc := HC.out k x hx
      have hstep := Lib.lens_take_succ (xs.map (·.data.toList)) k x.data.toList (by simp [hx])
      have hbound : Lib.lens ((xs.map (·.data.toList)).take (k + 1)) ≤ Lib.lens (xs.map (·.data.toList)) := Lib.lens_take_le _ _
      rw [← Lib.size_eq] at hstep
      generalize hL1 : Lib.lens ((xs.map (·.data.toList)).take (k + 1)) = L1 at hstep hbound
      have HL1 := Aside0.mk hL1
      clear hL1
      generalize Lib.lens ((xs.map (·.data.toList)).take k) = L0 at hstep
      have Hst := Aside0.mk hstep
      have hb1 : L0 + x.size ≤ L1 := by omega
      have Hx := Aside0.mk hx
      clear hx hstep
      go_wp2
      go_round
      case rel => exact ⟨k + 1, by omega, by go_num, by rw [HL1.out, Hst.out]; go_num⟩
      case measure => simp [intOf]; omega
    · have hke : k = xs.length := by omega
      subst hke
      have hall : (xs.map (·.data.toList)).take xs.length = xs.map (·.data.toList) := List.take_of_length_le (by simp)
      rw [hall]
      generalize hT : Lib.lens (xs.map (·.data.toList)) = T at hjl
      have HT := Aside0.mk hT
      clear hT hall
      go_wp2_with fail
      have hMT : (((xs.length - 1 : Nat) : Int) + (T : Int)) = ((xs.length - 1 + T : Nat) : Int) := by omega
      rw [hMT]
      refine (growC w.heap.size w.heap.size (xs.length - 1 + T) _ (Nat.le_refl _) (heap_alloc_new w _) (by simp) (by omega)).mono ?_
      rintro e w1 ⟨rfl, h1, hb1⟩
      have hb1' : Below w.heap.size w w1 := ((Below.refl w.heap.size w).alloc (Nat.le_refl _) _).trans hb1
      have hc0 : w1.cell? ad = some (.string x0) := by
        rw [hb1'.cell (p := ad) hbk]
        have := HC.out 0 x0 (by rw [Hxs.out]; rfl)
        simpa [Addr.add] using this
      have H1 := Aside0.mk (Or.inr h1 : Lib.IsBuilder 159 5 w.heap.size w.heap.size [] w1)
      have Hb1 := Aside0.mk hb1'
      have hBw1 : w.heap.size ≤ w1.heap.size := hb1'.size
      clear h1 hb1 hb1' hMT
      have hwhole : Lib.join (xs.map (·.data.toList)) sep.data.toList = x0.data.toList ++ Lib.joinTail sep.data.toList (r.map (·.data.toList)) := by
        rw [Hxs.out, List.map_cons, Lib.join_cons]
      have hCle : ∀ k, (x0.data.toList ++ Lib.joinTail sep.data.toList ((r.map (·.data.toList)).take k)).length ≤ 140737488355328 := fun k => by
        have h1 := Hlen.out
        rw [hwhole, List.length_append] at h1
        have h2 := Lib.joinTail_take_le sep.data.toList (r.map (·.data.toList)) k
        rw [List.length_append]
        omega
      have HCle := Aside0.mk hCle
      have Hwhole := Aside0.mk hwhole
      clear hCle hwhole
      go_wp2_with fail
      refine (writeC w.heap.size w.heap.size [] x0 w1 H1.out (by have := HCle.out 0; simp [Lib.joinTail] at this ⊢; omega) hBw1).mono ?_
      rintro e w2 ⟨rfl, h2', hb2⟩
      have hstart : ([] : List Value) ++ Lib.strCells x0 = Lib.byteCells (x0.data.toList ++ Lib.joinTail sep.data.toList ((r.map (·.data.toList)).take 0)) := by
        simp [Lib.joinTail, Lib.strCells_eq]
      rw [hstart] at h2'
      have H2 := Aside0.mk (Or.inr h2' : Lib.IsBuilder 159 5 w.heap.size w.heap.size _ w2)
      have Hb2 := Aside0.mk (Hb1.out.trans hb2)
      clear h2' hb2 hstart
      go_wp2_with fail
      go_loopw [65] (fun i wr => ∃ k : Nat, k ≤ r.length ∧ i = .int .i64 k ∧ Aside0 (Lib.IsBuilder 159 5 w.heap.size w.heap.size (Lib.byteCells (x0.data.toList ++ Lib.joinTail sep.data.toList ((r.map (·.data.toList)).take k))) wr) ∧ Aside0 (Below w.heap.size w wr)) (fun i _ => r.length - (intOf i).toNat)
      case atStart => exact ⟨0, Nat.zero_le _, rfl, H2, Hb2⟩
      case round =>
        obtain ⟨k, hk', rfl, HB, HW⟩ := hrel
        have hrl' : r.length = xs.length - 1 := Hrl.out
        by_cases hkr : k < r.length
        · obtain ⟨y, hy⟩ : ∃ y, r[k]? = some y := ⟨r[k], List.getElem?_eq_getElem hkr⟩
          have hcy : wr.cell? ⟨ad.block, ad.off + 1 + k, none⟩ = some (.string y) := by
            have e1 := HC.out (k + 1) y (by rw [Hxs.out]; simpa using hy)
            have e2 : ad.add (k + 1) = ⟨ad.block, ad.off + 1 + k, none⟩ := by
              unfold Addr.add
              rw [if_neg (by omega)]
              simp only [Addr.mk.injEq, and_true, true_and]
              omega
            rw [e2] at e1
            rw [HW.out.cell (p := ⟨ad.block, ad.off + 1 + k, none⟩) hbk]
            exact e1
          have hcy0 : k = 0 → wr.cell? ⟨ad.block, ad.off + 1, none⟩ = some (.string y) := fun h => by rw [h] at hcy; exact hcy
          have hBw : w.heap.size ≤ wr.heap.size := HW.out.size
          have hnext : Lib.byteCells (x0.data.toList ++ Lib.joinTail sep.data.toList ((r.map (·.data.toList)).take k)) ++ Lib.strCells sep ++ Lib.strCells y = Lib.byteCells (x0.data.toList ++ Lib.joinTail sep.data.toList ((r.map (·.data.toList)).take (k + 1))) := by
            rw [Lib.joinTail_take_succ sep.data.toList (r.map (·.data.toList)) k y.data.toList (by simp [hy]), Lib.strCells_eq, Lib.strCells_eq, ← Lib.byteCells_append, ← Lib.byteCells_append, List.append_assoc, List.append_assoc, List.append_assoc]
          have hl1 := HCle.out (k + 1)
          rw [Lib.joinTail_take_succ sep.data.toList (r.map (·.data.toList)) k y.data.toList (by simp [hy])] at hl1
          simp only [List.length_append, ← Lib.size_eq] at hl1
          have hl0 : (Lib.byteCells (x0.data.toList ++ Lib.joinTail sep.data.toList ((r.map (·.data.toList)).take k))).length = x0.size + (Lib.joinTail sep.data.toList ((r.map (·.data.toList)).take k)).length := by
            rw [Lib.byteCells_length, List.length_append, ← Lib.size_eq]
          generalize (Lib.joinTail sep.data.toList ((r.map (·.data.toList)).take k)).length = J at hl0 hl1
          have Hn := Aside0.mk hnext
          have Hl0 := Aside0.mk hl0
          have Hy := Aside0.mk hy
          have hkx : k < xs.length - 1 := by omega
          have Hr2 := Aside0.mk hrl'
          clear hnext hy hl0 hrl'
          go_wp2_with fail
          refine (writeC w.heap.size w.heap.size _ sep wr HB.out (by rw [Hl0.out]; omega) hBw).mono ?_
          rintro e w3 ⟨rfl, h3, hb3⟩
          have hBw3 : w.heap.size ≤ w3.heap.size := Nat.le_trans hBw hb3.size
          have H3 := Aside0.mk h3
          have Hb3 := Aside0.mk hb3
          clear h3 hb3
          go_wp2_with fail
          refine (writeC w.heap.size w.heap.size _ y w3 (Or.inr H3.out) (by rw [List.length_append, Hl0.out, Lib.strCells_length]; omega) hBw3).mono ?_
          rintro e w4 ⟨rfl, h4, hb4⟩
          rw [Hn.out] at h4
          have H4 := Aside0.mk (Or.inr h4 : Lib.IsBuilder 159 5 w.heap.size w.heap.size _ w4)
          have Hb4 := Aside0.mk ((HW.out.trans Hb3.out).trans hb4)
          clear h4 hb4
          go_wp2
          go_roundw
          case rel => exact ⟨k + 1, by omega, by go_num, H4, Hb4⟩
          case measure => simp [intOf]; omega
        · have hke : k = r.length := by omega
          subst hke
          have hfull : (r.map (·.data.toList)).take r.length = r.map (·.data.toList) := List.take_of_length_le (by simp)
          have hB' := HB.out
          rw [hfull, ← Hwhole.out] at hB'
          have HB' := Aside0.mk hB'
          have hBw : w.heap.size ≤ wr.heap.size := HW.out.size
          have hge : ¬ (r.length < xs.length - 1) := by omega
          have Hr2 := Aside0.mk hrl'
          clear hfull hB' hrl'
          go_wp2_with fail
          refine (stringC w.heap.size w.heap.size _ wr HB'.out hBw).mono ?_
          rintro e w5 ⟨rfl, hb5⟩
          have Hb5 := Aside0.mk (HW.out.trans hb5)
          clear hb5
          go_wp2
          go_ret
          exact ⟨rfl, Hb5.out⟩

/-- strings.Join, at a separator of one byte. -/
def strings_Join.f (l0 : List ByteArray) (a1 : ByteArray) : Option ByteArray := if a1.size = 1 then if (Lib.join (l0.map (·.data.toList)) a1.data.toList).length ≤ 140737488355328 then some ⟨(Lib.join (l0.map (·.data.toList)) a1.data.toList).toArray⟩ else none else none
theorem strings_Join.calls (A0 : Option Addr) (c0 : Nat) (l0 : List ByteArray) (a1 : ByteArray) (r : ByteArray) (w : World) (hr0 : 0 < l0.length → ∃ ad, A0 = some ad ∧ ∀ (j : Nat) x, l0[j]? = some x → w.cell? (ad.add j) = some (.string x)) (hc0 : l0.length ≤ c0) (h : strings_Join.f l0 a1 = some r) :
    Calls Tryz.prog 152 #[.slice A0 l0.length c0, .string a1] w fun e w' => e = .returned (.string r) ∧ Below w.heap.size w w' := by
  unfold strings_Join.f at h
  split at h
  · rename_i h1
    split at h
    · rename_i hlen
      obtain rfl := Option.some.inj h
      rcases Nat.eq_zero_or_pos l0.length with h0 | h0
      · obtain rfl : l0 = [] := List.eq_nil_of_length_eq_zero h0
        refine (Tryz.strings_Join_none A0 c0 a1 w).mono ?_
        rintro e w' ⟨rfl, rfl⟩
        exact ⟨rfl, Below.refl _ _⟩
      · obtain ⟨ad, rfl, hc⟩ := hr0 h0
        by_cases h2 : 2 ≤ l0.length
        · exact join_many ad c0 l0 a1 w hc h1 h2 (by
            obtain ⟨x, t, rfl⟩ : ∃ x t, l0 = x :: t := by
              cases l0 with
              | nil => simp at h0
              | cons x t => exact ⟨x, t, rfl⟩
            have := Lib.join_length x.data.toList (t.map (·.data.toList)) a1.data.toList
            rw [← Lib.size_eq, h1, List.length_map, Nat.one_mul] at this
            rw [List.map_cons, this] at hlen
            rw [List.length_cons]
            omega) hc0 hlen
        · obtain ⟨x, rfl⟩ : ∃ x, l0 = [x] := by
            match l0, h0, h2 with
            | [x], _, _ => exact ⟨x, rfl⟩
            | _ :: _ :: _, _, h2 => exact absurd (by simp) h2
          have hx := hc 0 x rfl
          have hx' : w.cell? ad = some (.string x) := by simpa [Addr.add] using hx
          have e1 : (⟨(Lib.join ([x].map (·.data.toList)) a1.data.toList).toArray⟩ : ByteArray) = x := by
            rw [List.map_cons, List.map_nil, Lib.join_one, Lib.mk_data]
          rw [e1]
          clear hc hx hr0
          go_enter Tryz.func152, Tryz.ntmps152
          go_wp2
          go_ret
          exact ⟨rfl, Below.refl _ _⟩
    · exact absurd h (by simp)
  · exact absurd h (by simp)
end Go.Proofs.YteiefdnhngfojaaGreatDoor.Ext
