/-
  The five laws of layer 1 (paths), as statements on numbers and lists: each holds.
-/
import Derived.Test.YtncfadhcpmokiaaDoorRefs1
set_option linter.unusedVariables false
set_option linter.unusedSimpArgs false
namespace Go.Proofs.YtncfadhcpmokiaaDoor.Pure
open Go Go.RowKit Go.Proofs.YtncfadhcpmokiaaDoorW.PrintWords Go.Proofs.YtncfadhcpmokiaaDoorW.PrintLast Go.Proofs.YtncfadhcpmokiaaDoorW.PrintMore
open Go.Proofs.YtncfadhcpmokiaaDoor.Sp Go.Proofs.YtncfadhcpmokiaaDoor.Paths Go.Proofs.YtncfadhcpmokiaaDoor.PB Go.Proofs.YtncfadhcpmokiaaDoor.Told

theorem Ev_told : steamerlaw1_told.f = some true := rfl

/-! ### PathAsks -/
theorem Texts_l0 (l : List ByteArray) (hl : l.length ≤ 1000000) (d : Nat) : ∀ i : Nat, i + d = l.length → Ev (fun k => steamerlaw1_Texts.l0 k l l (i : Int)) true := by
  induction d with
  | zero =>
    intro i hi
    refine Ev.step (fun _ => rfl) ?_
    simp only [steamerlaw1_Texts.l0]
    exact Ev.neg (by omega) (Ev.val rfl)
  | succ d ih =>
    intro i hi
    refine Ev.step (fun _ => rfl) ?_
    simp only [steamerlaw1_Texts.l0]
    refine Ev.pos (by omega) (Ev.pos (by omega) (Ev.pos (by omega) (Ev.pos (by trivial) ?_)))
    rw [w64 (by omega) (by omega)]
    exact ih (i + 1) (by omega)
theorem Texts_ev (l : List ByteArray) (hl : l.length ≤ 1000000) : Ev (fun k => steamerlaw1_Texts.f k l l) true := by
  simp only [steamerlaw1_Texts.f]
  exact Ev.pos (by trivial) (Texts_l0 l hl l.length 0 (Nat.zero_add _))

theorem PathAsks : steamerlaw1_PathAsks.Pure := by
  intro a b ha hb
  apply Ev.rounds
  simp only [steamerlaw1_PathAsks.f]
  by_cases h1 : (a.size : Int) > 120
  · refine Ev.pos h1 (Ev.step (fun _ => rfl) ?_)
    simp only [steamerlaw1_PathAsks.j0]
    exact Ev.pos (by trivial) (Ev.bindS Ev_told (Ev.val rfl))
  · refine Ev.neg h1 (Ev.step (fun _ => rfl) ?_)
    simp only [steamerlaw1_PathAsks.j0]
    by_cases h2 : (b.size : Int) > 120
    · exact Ev.pos (by simp [h2]) (Ev.bindS Ev_told (Ev.val rfl))
    · refine Ev.neg (by simp; omega) ?_
      refine Ev.bind (Paths.Parent_ev a (by omega)) (Ev.bind (Refs.Parent_ev a (by omega)) ?_)
      refine Ev.bind (Paths.Join_ev a b (by omega) (by omega)) (Ev.bind (Refs.Join_ev a b (by omega) (by omega)) ?_)
      refine Ev.bindS Ev_told (Ev.pos rfl (Ev.bindS (Name_eq a) (Ev.bind (Refs.Name_ev a (by omega)) (Ev.pos (by simp) ?_))))
      refine Ev.bind (Paths.May_ev a (by omega)) (Ev.bind (Refs.May_ev a (by omega)) (Ev.pos (by simp) ?_))
      have hd := (parts_ok (L a)).deep
      refine Ev.bind (Paths.Parts_ev a (by omega)) (Ev.bind (Refs.Parts_ev a (by omega)) (Ev.bind (Texts_ev _ (by rw [List.length_map]; omega)) (Ev.pos rfl ?_)))
      refine Ev.bind (Paths.Depth_ev a (by omega)) (Ev.bind (Refs.Depth_ev a (by omega)) (Ev.pos rfl ?_))
      refine Ev.bind (Paths.Last_ev a (by omega)) (Ev.bind (Refs.Last_ev a (by omega)) (Ev.pos rfl ?_))
      refine Ev.pos rfl (Ev.pos (by simp) (Ev.pos rfl (Ev.pos rfl ?_)))
      refine Ev.bind (Paths.Under_ev a b (by omega) (by omega)) (Ev.bind (Refs.Under_ev a b (by omega) (by omega)) (Ev.pos (by simp) ?_))
      exact Ev.bind (Paths.Less_ev a b (by omega) (by omega)) (Ev.bind (Refs.Less_ev a b (by omega) (by omega)) (Ev.val (by simp)))

/-! ### PathNames -/
theorem glue_a (s : Bs) : glue [97] s = 97 :: 47 :: s := rfl
theorem may_a {s : Bs} (h : nameB s = true) : mayB (97 :: 47 :: s) = true := by
  have hn := (nameB_iff s).1 h
  have ok : Ok [[97], s] := ⟨by
      intro n hm
      simp only [List.mem_cons, List.mem_nil_iff, or_false] at hm
      rcases hm with rfl | rfl
      · decide
      · exact h, by simp, by simp [join]; omega⟩
  have := ok.may
  rwa [show join [[97], s] = 97 :: 47 :: s from rfl] at this
theorem parts_one {s : Bs} (h : nameB s = true) : mayB s = true ∧ parts s = [s] := by
  have hn := (nameB_iff s).1 h
  have ok : Ok [s] := ⟨by intro n hm; simp at hm; rw [hm]; exact h, by simp, by simp [join]; omega⟩
  exact ⟨ok.may, ok.parts⟩

def badAt (s : Bs) (i : Nat) (b : Bool) : Bool := b || Lib.containsAny (s.drop i) [47, 0]

theorem PathNames_l0 (s : ByteArray) (hs : s.size ≤ 30) (d : Nat) : ∀ (i : Nat) (b : Bool), i + d = s.size → (badAt (L s) i b = !nameB (L s)) → Ev (fun k => steamerlaw1_PathNames.l0 k s b (i : Int)) true := by
  induction d with
  | zero =>
    intro i b hi hb
    have hbn : b = !nameB (L s) := by
      rw [← hb]
      unfold badAt
      rw [List.drop_of_length_le (by rw [← size_L]; omega)]
      have h0 : Lib.containsAny [] [47, 0] = false := rfl
      rw [h0, Bool.or_false]
    refine Ev.step (fun _ => rfl) ?_
    simp only [steamerlaw1_PathNames.l0]
    refine Ev.neg (by omega) (Ev.bind (Paths.Join_ev ⟨#[97]⟩ s (by decide) (by omega)) (Ev.bindS Ev_told (Ev.pos rfl (Ev.bindS (Name_eq s) ?_))))
    have hL : L ⟨#[97]⟩ = [97] := rfl
    have hma : mayB [97] = true := by decide
    refine Ev.pos (by rw [hbn]; simp) ?_
    unfold joinB
    rw [hL, hma, Bool.true_and, glue_a]
    cases hn : nameB (L s) with
    | false =>
      rw [hn] at hbn
      refine Ev.pos (by rw [hbn]; rfl) (Ev.pos hbn (Ev.val rfl))
    | true =>
      rw [hn] at hbn
      rw [if_pos rfl, if_pos (may_a hn)]
      obtain ⟨hm, hp⟩ := parts_one hn
      refine Ev.pos (by rw [hbn]; rfl) (Ev.neg (by rw [hbn]; simp) ?_)
      have hmay := Paths.May_ev s (by omega)
      rw [hm] at hmay
      refine Ev.bind hmay (Ev.pos rfl (Ev.bind (Paths.Last_ev s (by omega)) (Ev.pos ?_ (Ev.bind (Paths.Depth_ev s (by omega)) (Ev.val ?_)))))
      · rw [toList_L, toList_L, L_mkB]; unfold lastB; rw [hp]; rfl
      · unfold depthB; rw [if_pos hm, hp]; rfl
  | succ d ih =>
    intro i b hi hb
    have hlt : i < s.size := by omega
    obtain ⟨c, hc, hct⟩ := Refs.get_at hlt
    refine Ev.step (fun _ => rfl) ?_
    simp only [steamerlaw1_PathNames.l0]
    refine Ev.pos (by omega) ?_
    rw [w64 (by omega) (by omega)]
    have hl : i < (L s).length := by rw [← size_L]; exact hlt
    have hd : (L s).drop i = c :: (L s).drop (i + 1) := by
      rw [List.drop_eq_getElem_cons hl]
      rw [List.getElem?_eq_getElem hl] at hc
      rw [Option.some.inj hc]
    have hstep : Lib.containsAny ((L s).drop i) [47, 0] = (([47, 0] : Bs).contains c || Lib.containsAny ((L s).drop (i + 1)) [47, 0]) := by
      rw [hd]
      rw [Bool.eq_iff_iff, ← Bool.not_eq_false, containsAny_iff]
      rw [Bool.or_eq_true, ← Bool.not_eq_false (b := Lib.containsAny _ _), containsAny_iff]
      constructor
      · intro h
        by_cases h1 : ([47, 0] : Bs).contains c = true
        · exact .inl h1
        · refine .inr fun h2 => h fun x hx => ?_
          rcases List.mem_cons.1 hx with rfl | hx
          · simpa using h1
          · exact h2 x hx
      · rintro (h | h) hall
        · have := hall c (by simp)
          simp at h
          rcases h with h | h
          · exact this.1 h
          · exact this.2 h
        · exact h fun x hx => hall x (List.mem_cons_of_mem _ hx)
    cases b with
    | true =>
      refine Ev.pos (by rfl) ?_
      refine ih (i + 1) true (by omega) ?_
      rw [← hb]; rfl
    | false =>
      refine Ev.neg (by simp) (Ev.pos (by omega) ?_)
      rw [hct]
      by_cases h47 : c = 47
      · refine Ev.pos (by rw [h47]; rfl) (ih (i + 1) true (by omega) ?_)
        rw [← hb]; unfold badAt; rw [hstep, h47]; rfl
      · refine Ev.neg (fun e => h47 ((Refs.byte_eq c 47).1 e)) ?_
        have hcb : ((c.toNat : Int) == 0) = (c == 0) := by
          rw [Bool.eq_iff_iff, beq_iff_eq, beq_iff_eq]
          exact Refs.byte_eq c 0
        rw [hcb]
        refine ih (i + 1) (c == 0) (by omega) ?_
        rw [← hb]; unfold badAt; rw [hstep]
        have : ([47, 0] : Bs).contains c = (c == 0) := by
          rw [Bool.eq_iff_iff]; simp [h47]
        rw [this, Bool.false_or]

theorem PathNames : steamerlaw1_PathNames.Pure := by
  intro s hs
  apply Ev.rounds
  simp only [steamerlaw1_PathNames.f]
  by_cases h1 : (s.size : Int) > 30
  · exact Ev.pos h1 (Ev.bindS Ev_told (Ev.val rfl))
  · refine Ev.neg h1 ?_
    have go : ∀ b : Bool, (badAt (L s) 0 b = !nameB (L s)) → Ev (fun k => steamerlaw1_PathNames.j0 k s b) true := fun b hb => by
      refine Ev.step (fun _ => rfl) ?_
      simp only [steamerlaw1_PathNames.j0]
      exact PathNames_l0 s (by omega) s.size 0 b (Nat.zero_add _) hb
    have hsz := size_L s
    have hbad : nameB (L s) = false → ∀ b, b = true → badAt (L s) 0 b = !nameB (L s) := fun h b hb => by rw [h, hb]; rfl
    by_cases h2 : (s.size : Int) = 0
    · refine Ev.pos h2 (go true (hbad ?_ true rfl))
      rw [← Bool.not_eq_true, nameB_iff]
      intro h; have := h.1; omega
    · refine Ev.neg h2 ?_
      by_cases h3 : (s.size : Int) > 20
      · refine Ev.pos h3 (go true (hbad ?_ true rfl))
        rw [← Bool.not_eq_true, nameB_iff]
        intro h; have := h.2.1; omega
      · refine Ev.neg h3 ?_
        rw [toList_L]
        by_cases h4 : L s = [46]
        · refine Ev.pos h4 (go true (hbad ?_ true rfl))
          rw [h4]; decide
        · refine Ev.neg h4 (go _ ?_)
          unfold badAt nameB
          rw [List.drop_zero]
          have e1 : (L s == [46]) = false := by simpa using h4
          have e2 : decide (1 ≤ (L s).length) = true := decide_eq_true (by omega)
          have e3 : decide ((L s).length ≤ 20) = true := decide_eq_true (by omega)
          rw [e1, e2, e3]
          cases Lib.containsAny (L s) [47, 0] <;> cases (L s == [46, 46]) <;> rfl

/-! ### PathDeep -/
theorem join_replicate (nm : Bs) : ∀ k : Nat, (join (List.replicate k nm)).length = k * nm.length + (k - 1)
  | 0 => by simp [join]
  | 1 => by simp [join]
  | k + 2 => by
    rw [List.replicate_succ, join_cons _ _ (by simp), List.length_append, List.length_cons, join_replicate nm (k + 1)]
    rw [show (k + 2) * nm.length = nm.length + (k + 1) * nm.length from by rw [Nat.add_mul, Nat.add_mul, Nat.one_mul, show 2 * nm.length = nm.length + nm.length from by omega]; omega]
    omega
theorem join_replicate_succ (nm : Bs) (k : Nat) (hk : 0 < k) : join (List.replicate (k + 1) nm) = join (List.replicate k nm) ++ 47 :: nm := by
  rw [show List.replicate (k + 1) nm = List.replicate k nm ++ [nm] from by rw [List.replicate_succ']]
  rw [join_append _ _ (by simp; omega) (by simp)]
  rfl

theorem PathDeep_l0 (n : Nat) (hn : n ≤ 12) (nm : ByteArray) (hnm : nameB (L nm) = true) (d : Nat) : ∀ i : Nat, i + d = n → Ev (fun k => steamerlaw1_PathDeep.l0 k (n : Int) nm (mkB (join (List.replicate i (L nm)))) (i : Int)) true := by
  have hlen := (nameB_iff _).1 hnm
  have hszn := size_L nm
  have hsz : ∀ i : Nat, (mkB (join (List.replicate i (L nm)))).size = i * (L nm).length + (i - 1) := fun i => by rw [size_L, L_mkB, join_replicate]
  have hmul : ∀ i : Nat, i ≤ 12 → i * (L nm).length ≤ 240 := fun i hi => Nat.le_trans (Nat.mul_le_mul hi hlen.2.1) (by omega)
  induction d with
  | zero =>
    intro i hi
    obtain rfl : i = n := by omega
    refine Ev.step (fun _ => rfl) ?_
    simp only [steamerlaw1_PathDeep.l0]
    refine Ev.neg (by omega) ?_
    have key : ∀ may : Bool, may = mayB (join (List.replicate i (L nm))) → Ev (fun k => steamerlaw1_PathDeep.j1 k (i : Int) (mkB (join (List.replicate i (L nm)))) may) true := by
      intro may hmay
      have hd : depthB (join (List.replicate i (L nm))) = if may = true then (i : Int) else -1 := by
        unfold depthB
        rw [← hmay]
        cases may with
        | false => rfl
        | true =>
          rw [if_pos rfl, if_pos rfl]
          congr 1
          by_cases h0 : i = 0
          · subst h0; rfl
          · have hne : join (List.replicate i (L nm)) ≠ [] := fun e => by
              have := join_replicate (L nm) i
              rw [e] at this
              have h1 : 1 * (L nm).length ≤ i * (L nm).length := Nat.mul_le_mul_right _ (by omega)
              simp at this
              omega
            unfold parts
            rw [if_neg hne, ← hmay, if_pos rfl, split_join _ (by simp; omega) (fun m hm => by rw [List.eq_of_mem_replicate hm]; exact nameB_noSep hnm), List.length_replicate]
      have hp : ((parts (join (List.replicate i (L nm)))).length : Int) = mx (if may = true then (i : Int) else -1) 0 := by
        rw [← hd]
        unfold depthB mx
        cases hm : mayB (join (List.replicate i (L nm))) with
        | true => simp only [if_true]; split <;> omega
        | false => rw [parts_bad hm]; simp
      have rest : Ev (fun k => steamerlaw1_PathDeep.j2 k (mkB (join (List.replicate i (L nm)))) may (if may = true then (i : Int) else -1)) true := by
        refine Ev.step (fun _ => rfl) ?_
        simp only [steamerlaw1_PathDeep.j2]
        have hs : (mkB (join (List.replicate i (L nm)))).size < 4294967281 := by rw [hsz]; have := hmul i hn; omega
        have e1 := Paths.May_ev _ hs
        have e2 := Paths.Depth_ev _ hs
        have e3 := Paths.Parts_ev _ hs
        rw [L_mkB] at e1 e2 e3
        refine Ev.bindS Ev_told (Ev.pos rfl (Ev.bind e1 (Ev.pos (by rw [hmay]; simp) (Ev.bind e2 (Ev.pos hd (Ev.bind e3 (Ev.val ?_)))))))
        rw [List.length_map, hp]
        simp
      refine Ev.step (fun _ => rfl) ?_
      simp only [steamerlaw1_PathDeep.j1]
      cases may with
      | true => exact Ev.pos rfl rest
      | false => exact Ev.neg (by simp) rest
    have hjl := join_replicate (L nm) i
    have hnames : (List.replicate i (L nm)).all nameB = true := List.all_eq_true.2 fun m hm => by rw [List.eq_of_mem_replicate hm]; exact hnm
    have hmayv : mayB (join (List.replicate i (L nm))) = (decide (i ≤ 8) && decide ((join (List.replicate i (L nm))).length ≤ 100)) := by
      by_cases h0 : i = 0
      · subst h0; rfl
      · have hne : join (List.replicate i (L nm)) ≠ [] := fun e => by
          rw [e] at hjl
          have h1 : 1 * (L nm).length ≤ i * (L nm).length := Nat.mul_le_mul_right _ (by omega)
          simp at hjl
          omega
        unfold mayB
        rw [split_join _ (by simp; omega) (fun m hm => by rw [List.eq_of_mem_replicate hm]; exact nameB_noSep hnm), List.length_replicate, hnames]
        have he : (join (List.replicate i (L nm))).isEmpty = false := by
          cases hj : join (List.replicate i (L nm)) with
          | nil => exact absurd hj hne
          | cons _ _ => rfl
        rw [he]
        cases decide (i ≤ 8) <;> cases decide ((join (List.replicate i (L nm))).length ≤ 100) <;> rfl
    by_cases h8 : i ≤ 8
    · refine Ev.pos (by omega) (key _ ?_)
      rw [hmayv, decide_eq_true h8, Bool.true_and, size_L, L_mkB]
      rw [Bool.eq_iff_iff, decide_eq_true_eq, decide_eq_true_eq]
      omega
    · refine Ev.neg (by omega) (key _ ?_)
      rw [hmayv, decide_eq_false h8]; rfl
  | succ d ih =>
    intro i hi
    refine Ev.step (fun _ => rfl) ?_
    simp only [steamerlaw1_PathDeep.l0]
    refine Ev.pos (by omega) ?_
    have hm := hmul i (by omega)
    have hs := hsz i
    rw [w64 (by omega) (by omega)]
    by_cases h0 : i = 0
    · subst h0
      refine Ev.neg (by omega) (Ev.pos (by rw [hs]; omega) ?_)
      have e : mkB (join (List.replicate 0 (L nm))) ++ nm = mkB (join (List.replicate (0 + 1) (L nm))) := L_inj (by rw [L_append, L_mkB, L_mkB]; simp [join])
      rw [e]
      exact ih (0 + 1) (by omega)
    · have e : mkB (join (List.replicate i (L nm))) ++ ⟨#[47]⟩ ++ nm = mkB (join (List.replicate (i + 1) (L nm))) := L_inj (by
        rw [L_append, L_append, L_mkB, L_mkB, join_replicate_succ _ _ (by omega), List.append_assoc]; rfl)
      have hz : (mkB (join (List.replicate i (L nm))) ++ (⟨#[47]⟩ : ByteArray)).size = i * (L nm).length + (i - 1) + 1 := by
        rw [size_L, L_append, List.length_append, ← size_L, hs]; rfl
      refine Ev.pos (by omega) (Ev.pos (by omega) (Ev.pos (by omega) ?_))
      rw [e]
      exact ih (i + 1) (by omega)

theorem names_x (m : Nat) (h1 : 1 ≤ m) (h2 : m ≤ 20) : nameB (List.replicate m (120 : UInt8)) = true := by
  rw [nameB_iff]
  refine ⟨by simpa using h1, by simpa using h2, fun b hb => ?_, ?_, ?_⟩
  · rw [List.eq_of_mem_replicate hb]; decide
  · intro e
    have := List.eq_of_mem_replicate (show (46 : UInt8) ∈ List.replicate m 120 by rw [e]; simp)
    exact absurd this (by decide)
  · intro e
    have := List.eq_of_mem_replicate (show (46 : UInt8) ∈ List.replicate m 120 by rw [e]; simp)
    exact absurd this (by decide)

theorem PathDeep : steamerlaw1_PathDeep.Pure := by
  intro a b ha hb
  apply Ev.rounds
  simp only [steamerlaw1_PathDeep.f]
  have hw : ∀ (x : Int) (q : Int), 0 < q → q ≤ 100 → ∃ m : Nat, wrap64 (Int.tmod (IntKind.u64.wrap x) q) = (m : Int) ∧ (m : Int) < q := fun x q hq hq2 => by
    have h0 : 0 ≤ IntKind.u64.wrap x := by unfold IntKind.wrap; simp [IntKind.signed, IntKind.bits]; omega
    have h1 := Int.tmod_nonneg q h0
    have h2 := Int.tmod_lt_of_pos (IntKind.u64.wrap x) hq
    refine ⟨(Int.tmod (IntKind.u64.wrap x) q).toNat, ?_, ?_⟩
    · rw [w64 (by omega) (by omega)]; omega
    · omega
  obtain ⟨m, hm, hm2⟩ := hw b 20 (by omega) (by omega)
  obtain ⟨n, hn, hn2⟩ := hw a 13 (by omega) (by omega)
  rw [hm, hn, w64 (x := 1 + (m : Int)) (by omega) (by omega)]
  refine Ev.pos (by omega) (Ev.pos (by omega) ?_)
  have hname : L ((⟨#[120, 120, 120, 120, 120, 120, 120, 120, 120, 120, 120, 120, 120, 120, 120, 120, 120, 120, 120, 120]⟩ : ByteArray).extract 0 ((1 + (m : Int)) : Int).toNat) = List.replicate (m + 1) 120 := by
    rw [L_extract, show ((1 + (m : Int)) : Int).toNat = m + 1 from by omega]
    have : L (⟨#[120, 120, 120, 120, 120, 120, 120, 120, 120, 120, 120, 120, 120, 120, 120, 120, 120, 120, 120, 120]⟩ : ByteArray) = List.replicate 20 120 := rfl
    rw [this, List.drop_zero, Nat.sub_zero, List.take_replicate]
    congr 1
    omega
  have := PathDeep_l0 n (by omega) ((⟨#[120, 120, 120, 120, 120, 120, 120, 120, 120, 120, 120, 120, 120, 120, 120, 120, 120, 120, 120, 120]⟩ : ByteArray).extract 0 ((1 + (m : Int)) : Int).toNat) (by rw [hname]; exact names_x _ (by omega) (by omega)) n 0 (Nat.zero_add _)
  exact this

/-! ### Made paths -/
def table : List Bs := [[97], [98], [99], [97, 45], [97, 98], [122], [46, 97], [97, 46, 98]]
def pick (x : Int) : Bs := table.getD (Int.tmod (IntKind.u64.wrap x) 8).toNat []
theorem pick_mem (x : Int) : pick x ∈ table := by
  unfold pick
  have h0 : 0 ≤ IntKind.u64.wrap x := by unfold IntKind.wrap; simp [IntKind.signed, IntKind.bits]; omega
  have h1 := Int.tmod_nonneg 8 h0
  have h2 := Int.tmod_lt_of_pos (IntKind.u64.wrap x) (show (0 : Int) < 8 by omega)
  have h3 : (Int.tmod (IntKind.u64.wrap x) 8).toNat < table.length := by show _ < 8; omega
  rw [List.getD_eq_getElem?_getD, List.getElem?_eq_getElem h3]
  exact List.getElem_mem h3
theorem table_ok : ∀ n ∈ table, nameB n = true ∧ n.length ≤ 3 := by decide
theorem join_len3 (ns : List Bs) (h : ∀ n ∈ ns, n.length ≤ 3) : (join ns).length ≤ 4 * ns.length := by
  induction ns with
  | nil => simp [join]
  | cons n r ih =>
    have hn := h n (by simp)
    have hr := ih (fun x hx => h x (List.mem_cons_of_mem _ hx))
    by_cases h0 : r = []
    · subst h0; simp [join]; omega
    · rw [join_cons n r h0, List.length_append, List.length_cons, List.length_cons]; omega
def made (l : List Int) (most : Nat) : List Bs := (l.take most).map pick
theorem made_ok (l : List Int) (most : Nat) (h : most ≤ 8) : Ok (made l most) := by
  have hl : (made l most).length ≤ most := by unfold made; rw [List.length_map]; exact List.length_take_le _ _
  have hm : ∀ n ∈ made l most, n ∈ table := fun n hn => by
    unfold made at hn
    obtain ⟨x, _, rfl⟩ := List.mem_map.1 hn
    exact pick_mem x
  refine ⟨fun n hn => (table_ok n (hm n hn)).1, by omega, ?_⟩
  have := join_len3 (made l most) (fun n hn => (table_ok n (hm n hn)).2)
  omega

theorem Made_step (l : List Int) (most : Nat) (h : most ≤ 8) (i : Nat) (hi : i < l.length) (hm : i < most) : join (made (l.take (i + 1)) most) = (if i = 0 then [] else join (made (l.take i) most) ++ [47]) ++ pick l[i] ∧ (made (l.take i) most).length = i := by
  have e1 : made (l.take (i + 1)) most = made (l.take i) most ++ [pick l[i]] := by
    unfold made
    rw [List.take_take, List.take_take, Nat.min_eq_right (show i + 1 ≤ most by omega), Nat.min_eq_right (show i ≤ most by omega)]
    rw [List.take_succ_eq_append_getElem hi, List.map_append]
    rfl
  have e2 : (made (l.take i) most).length = i := by
    unfold made
    rw [List.take_take, Nat.min_eq_right (show i ≤ most by omega), List.length_map, List.length_take]
    omega
  refine ⟨?_, e2⟩
  rw [e1]
  by_cases h0 : i = 0
  · subst h0
    have : made (l.take 0) most = [] := List.eq_nil_of_length_eq_zero e2
    rw [this]; rfl
  · rw [join_append _ _ (fun e => h0 (by rw [e] at e2; exact e2.symm)) (by simp), if_neg h0]
    simp [join]

theorem Made_l0 (l : List Int) (most : Nat) (h : most ≤ 8) (hl : l.length ≤ 1000000000000000000) (d : Nat) : ∀ i : Nat, i + d = min l.length most → Ev (fun k => steamerlaw1_Made.l0 k l (most : Int) (mkB (join (made (l.take i) most))) (i : Int)) (mkB (join (made l most))) := by
  induction d with
  | zero =>
    intro i hi
    have hfin : made (l.take i) most = made l most := by
      unfold made
      congr 1
      rw [List.take_take]
      by_cases hlm : l.length ≤ most
      · rw [List.take_of_length_le (by omega), List.take_of_length_le (by omega)]
      · rw [show min most i = most from by omega]
    rw [hfin]
    have stop : ∀ b : Bool, b = false → Ev (fun k => steamerlaw1_Made.j1 k l (most : Int) (mkB (join (made l most))) (i : Int) b) (mkB (join (made l most))) := fun b hb => by
      refine Ev.step (fun _ => rfl) ?_
      simp only [steamerlaw1_Made.j1]
      exact Ev.neg (by rw [hb]; simp) (Ev.val rfl)
    refine Ev.step (fun _ => rfl) ?_
    simp only [steamerlaw1_Made.l0]
    by_cases h1 : i < l.length
    · exact Ev.pos (by omega) (stop _ (decide_eq_false (by omega)))
    · exact Ev.neg (by omega) (stop _ rfl)
  | succ d ih =>
    intro i hi
    have h1 : i < l.length := by omega
    have h2 : i < most := by omega
    obtain ⟨hs, hlen⟩ := Made_step l most h i h1 h2
    have hz : (mkB (join (made (l.take i) most))).size ≤ 100 := by rw [size_L, L_mkB]; exact (made_ok _ _ h).long
    have hrd : rd l (i : Int) = l[i] := by simp [rd, List.getD_eq_getElem?_getD, List.getElem?_eq_getElem h1]
    have h0 : 0 ≤ IntKind.u64.wrap l[i] := by unfold IntKind.wrap; simp [IntKind.signed, IntKind.bits]; omega
    have h3 := Int.tmod_nonneg 8 h0
    have h4 := Int.tmod_lt_of_pos (IntKind.u64.wrap l[i]) (show (0 : Int) < 8 by omega)
    have hpk : rdOf ByteArray.empty [(⟨#[97]⟩ : ByteArray), ⟨#[98]⟩, ⟨#[99]⟩, ⟨#[97, 45]⟩, ⟨#[97, 98]⟩, ⟨#[122]⟩, ⟨#[46, 97]⟩, ⟨#[97, 46, 98]⟩] (Int.tmod (IntKind.u64.wrap l[i]) 8) = mkB (pick l[i]) := by
      have : [(⟨#[97]⟩ : ByteArray), ⟨#[98]⟩, ⟨#[99]⟩, ⟨#[97, 45]⟩, ⟨#[97, 98]⟩, ⟨#[122]⟩, ⟨#[46, 97]⟩, ⟨#[97, 46, 98]⟩] = table.map mkB := rfl
      rw [this]
      obtain ⟨j, hj⟩ : ∃ j : Nat, Int.tmod (IntKind.u64.wrap l[i]) 8 = (j : Int) := ⟨_, (Int.toNat_of_nonneg h3).symm⟩
      unfold pick
      rw [hj, rdOf_map table j (by show j < 8; omega)]
      rfl
    have hp3 := (table_ok _ (pick_mem l[i])).2
    have hpz : (mkB (pick l[i])).size ≤ 3 := by rw [size_L, L_mkB]; exact hp3
    refine Ev.step (fun _ => rfl) ?_
    simp only [steamerlaw1_Made.l0]
    refine Ev.pos (by omega) (Ev.step (fun _ => rfl) ?_)
    simp only [steamerlaw1_Made.j1]
    refine Ev.pos (decide_eq_true (by omega)) ?_
    rw [hrd, w64 (by omega) (by omega)]
    have hnext := ih (i + 1) (by omega)
    by_cases hi0 : i = 0
    · subst hi0
      refine Ev.neg (by omega) (Ev.bindS rfl (Ev.pos (by omega) (Ev.pos (by omega) (Ev.pos h3 (Ev.pos (by simpa using h4) ?_)))))
      rw [hpk]
      refine Ev.pos (by omega) ?_
      have e : mkB (join (made (l.take 0) most)) ++ mkB (pick l[0]) = mkB (join (made (l.take (0 + 1)) most)) := L_inj (by
        rw [L_append, L_mkB, L_mkB, L_mkB, hs]; simp [made, join])
      rw [e]
      exact hnext
    · refine Ev.pos (by omega) (Ev.pos (by omega) (Ev.bindS rfl (Ev.pos (by omega) (Ev.pos (by omega) (Ev.pos h3 (Ev.pos (by simpa using h4) ?_))))))
      rw [hpk]
      have hz2 : (mkB (join (made (l.take i) most)) ++ (⟨#[47]⟩ : ByteArray)).size ≤ 101 := by
        rw [size_L, L_append, List.length_append, ← size_L]
        have : (L (⟨#[47]⟩ : ByteArray)).length = 1 := rfl
        omega
      refine Ev.pos (by omega) ?_
      have e : mkB (join (made (l.take i) most)) ++ ⟨#[47]⟩ ++ mkB (pick l[i]) = mkB (join (made (l.take (i + 1)) most)) := L_inj (by
        rw [L_append, L_append, L_mkB, L_mkB, L_mkB, hs, if_neg hi0]
        rfl)
      rw [e]
      exact hnext

theorem Made_ev (l : List Int) (most : Nat) (h : most ≤ 8) (hl : l.length ≤ 1000000000000000000) : Ev (fun k => steamerlaw1_Made.f k l (most : Int)) (mkB (join (made l most))) := by
  simp only [steamerlaw1_Made.f]
  have := Made_l0 l most h hl (min l.length most) 0 (Nat.zero_add _)
  have e : mkB (join (made (l.take 0) most)) = ⟨#[]⟩ := by simp [made, join, mkB]
  rw [e] at this
  exact this

/-! ### PathJoins -/
theorem prefix_take (ns : List Bs) (m : Nat) : (ns.take m).isPrefixOf ns = true := List.isPrefixOf_iff_prefix.2 (List.take_prefix m ns)
theorem not_prefix (ns : List Bs) (m : Nat) (h : m < ns.length) : ns.isPrefixOf (ns.take m) = false := by
  rw [Bool.eq_false_iff]
  intro hp
  have := (List.isPrefixOf_iff_prefix.1 hp).length_le
  rw [List.length_take] at this
  omega

theorem under_join {ms ns : List Bs} (hm : Ok ms) (hn : Ok ns) : underB (join ms) (join ns) = ns.isPrefixOf ms := by
  unfold underB
  rw [hm.may, hn.may, hm.parts, hn.parts]
  rfl

theorem PathJoins_l0 (ns : List Bs) (ok : Ok ns) (m : Nat) : ∀ i : Nat, m < ns.length → i + m < 9 → Ev (fun k => steamerlaw1_PathJoins.l0 k (mkB (join ns)) (mkB (join (ns.take m))) (i : Int)) true := by
  have hz : ∀ m : Nat, (mkB (join (ns.take m))).size < 4294967281 := fun m => by rw [size_L, L_mkB]; have := (ok.take m).long; omega
  have hz0 : (mkB (join ns)).size < 4294967281 := by rw [size_L, L_mkB]; have := ok.long; omega
  induction m with
  | zero =>
    intro i hlt hi
    have e1 := Paths.Under_ev (mkB (join ns)) (mkB (join (ns.take 0))) hz0 (hz 0)
    have e2 := Paths.Under_ev (mkB (join (ns.take 0))) (mkB (join ns)) (hz 0) hz0
    have e3 := Paths.Parent_ev (mkB (join (ns.take 0))) (hz 0)
    have e4 := Paths.Under_ev (mkB (join ns)) (mkB (join ns)) hz0 hz0
    rw [L_mkB, L_mkB, under_join ok (ok.take 0), prefix_take] at e1
    rw [L_mkB, L_mkB, under_join (ok.take 0) ok, not_prefix ns 0 hlt] at e2
    rw [L_mkB] at e3
    rw [L_mkB, under_join ok ok, List.isPrefixOf_iff_prefix.2 (List.prefix_refl _)] at e4
    have hp : parts (join (ns.take 0)) = [] := (ok.take 0).parts
    have h3 : hasParent (join (ns.take 0)) = false := by unfold hasParent; rw [hp]; rfl
    rw [h3] at e3
    refine Ev.step (fun _ => rfl) ?_
    simp only [steamerlaw1_PathJoins.l0]
    refine Ev.pos (by omega) (Ev.bind e1 (Ev.pos rfl (Ev.bind e2 (Ev.step (fun _ => rfl) ?_))))
    simp only [steamerlaw1_PathJoins.j2]
    refine Ev.neg (by simp) (Ev.bind e3 (Ev.neg (by simp) (Ev.bindS Ev_told (Ev.pos rfl (Ev.pos ?_ (Ev.bind e4 (Ev.val rfl)))))))
    rw [toList_L, L_mkB]
    rfl
  | succ m ih =>
    intro i hlt hi
    have e1 := Paths.Under_ev (mkB (join ns)) (mkB (join (ns.take (m + 1)))) hz0 (hz _)
    have e2 := Paths.Under_ev (mkB (join (ns.take (m + 1)))) (mkB (join ns)) (hz _) hz0
    have e3 := Paths.Parent_ev (mkB (join (ns.take (m + 1)))) (hz _)
    rw [L_mkB, L_mkB, under_join ok (ok.take _), prefix_take] at e1
    rw [L_mkB, L_mkB, under_join (ok.take _) ok, not_prefix ns _ hlt] at e2
    rw [L_mkB] at e3
    have hp : parts (join (ns.take (m + 1))) = ns.take (m + 1) := (ok.take _).parts
    have h3 : hasParent (join (ns.take (m + 1))) = true := by
      unfold hasParent; rw [hp]
      cases ns with
      | nil => simp at hlt
      | cons a t => rfl
    have h4 : parentB (join (ns.take (m + 1))) = join (ns.take m) := by
      unfold parentB; rw [hp, List.dropLast_take hlt]
      rfl
    rw [h3, h4] at e3
    refine Ev.step (fun _ => rfl) ?_
    simp only [steamerlaw1_PathJoins.l0]
    refine Ev.pos (by omega) (Ev.bind e1 (Ev.pos rfl (Ev.bind e2 (Ev.step (fun _ => rfl) ?_))))
    simp only [steamerlaw1_PathJoins.j2]
    refine Ev.neg (by simp) (Ev.bind e3 (Ev.pos rfl ?_))
    rw [w64 (by omega) (by omega)]
    exact ih (i + 1) (by omega) (by omega)

theorem PathJoins : steamerlaw1_PathJoins.Pure := by
  intro l h1 h2 h3
  apply Ev.rounds
  simp only [steamerlaw1_PathJoins.f]
  have ok := made_ok l 8 (Nat.le_refl _)
  refine Ev.bind (Made_ev l 8 (Nat.le_refl _) (by omega)) ?_
  generalize made l 8 = ns at ok
  rw [toList_L, L_mkB]
  by_cases h0 : ns = []
  · subst h0
    exact Ev.pos rfl (Ev.bindS Ev_told (Ev.val rfl))
  · refine Ev.neg (Ok.join_ne ok.names h0) ?_
    have hlen : 0 < ns.length := List.length_pos_iff.2 h0
    have hz0 : (mkB (join ns)).size < 2147483640 := by rw [size_L, L_mkB]; have := ok.long; omega
    have ok1 := ok.take (ns.length - 1)
    have hup : parentB (join ns) = join (ns.take (ns.length - 1)) := by unfold parentB; rw [ok.parts, List.dropLast_eq_take]
    have hzu : (mkB (join (ns.take (ns.length - 1)))).size < 2147483640 := by rw [size_L, L_mkB]; have := ok1.long; omega
    have hhp : hasParent (join ns) = true := by unfold hasParent; rw [ok.parts]; cases ns <;> simp_all
    have e1 := Paths.Parent_ev (mkB (join ns)) (by omega)
    have e2 := Paths.Last_ev (mkB (join ns)) (by omega)
    rw [L_mkB, hhp, hup] at e1
    rw [L_mkB] at e2
    have hlm : lastB (join ns) ∈ ns := by
      unfold lastB
      rw [ok.parts, Refs.lastD ns h0, List.getD_eq_getElem?_getD, List.getElem?_eq_getElem (by omega)]
      exact List.getElem_mem _
    have hlok := ok.names _ hlm
    have hll := ((nameB_iff _).1 hlok).2.1
    have hglue : glue (join (ns.take (ns.length - 1))) (lastB (join ns)) = join ns := by
      have hsp : ns.take (ns.length - 1) ++ [lastB (join ns)] = ns := by
        unfold lastB
        rw [ok.parts, Refs.lastD ns h0, List.getD_eq_getElem?_getD, List.getElem?_eq_getElem (by omega), Option.getD_some]
        rw [← List.take_succ_eq_append_getElem (by omega), List.take_of_length_le (by omega)]
      unfold glue
      by_cases hn : ns.take (ns.length - 1) = []
      · rw [hn] at hsp
        rw [if_pos (by rw [hn]; rfl)]
        conv => rhs; rw [← hsp]
        rfl
      · rw [if_neg (Ok.join_ne ok1.names hn)]
        conv => rhs; rw [← hsp]
        rw [join_append _ _ hn (by simp)]
        rfl
    have e3 := Paths.Join_ev (mkB (join (ns.take (ns.length - 1)))) (mkB (lastB (join ns))) hzu (by rw [size_L, L_mkB]; omega)
    rw [L_mkB, L_mkB] at e3
    have hj : joinB (join (ns.take (ns.length - 1))) (lastB (join ns)) = (join ns, 0) := by
      unfold joinB
      rw [ok1.may, hlok, hglue, ok.may]
      rfl
    rw [hj] at e3
    have e4 := Paths.Depth_ev (mkB (join (ns.take (ns.length - 1)))) (by omega)
    have e5 := Paths.Depth_ev (mkB (join ns)) (by omega)
    have e6 := Paths.Less_ev (mkB (join (ns.take (ns.length - 1)))) (mkB (join ns)) (by omega) (by omega)
    rw [L_mkB] at e4 e5
    rw [L_mkB, L_mkB] at e6
    have hd4 : depthB (join (ns.take (ns.length - 1))) = ((ns.length - 1 : Nat) : Int) := by
      unfold depthB; rw [ok1.may, ok1.parts, if_pos rfl, List.length_take]; congr 1; omega
    have hd5 : depthB (join ns) = (ns.length : Int) := by unfold depthB; rw [ok.may, ok.parts, if_pos rfl]
    have hl6 : lessB (join (ns.take (ns.length - 1))) (join ns) = true := by
      rw [lessB_iff, ok1.parts, ok.parts]
      exact cmpL_prefix (prefix_take _ _) (fun e => by have := congrArg List.length e; rw [List.length_take] at this; omega)
    rw [hd4] at e4
    rw [hd5] at e5
    rw [hl6] at e6
    have hdeep := ok.deep
    refine Ev.bind e1 (Ev.bind e2 (Ev.bind e3 (Ev.pos rfl (Ev.pos rfl (Ev.pos (by rw [toList_L, L_mkB]) (Ev.bind e4 (Ev.bind e5 (Ev.pos ?_ (Ev.bind e6 ?_)))))))))
    · rw [w64 (by omega) (by omega)]; omega
    · refine Ev.step (fun _ => rfl) ?_
      simp only [steamerlaw1_PathJoins.j0]
      refine Ev.neg (by simp) ?_
      exact PathJoins_l0 ns ok (ns.length - 1) 0 (by omega) (by omega)

/-! ### PathOrders -/
theorem PathOrders : steamerlaw1_PathOrders.Pure := by
  intro la lb lc a1 a2 a3 b1 b2 b3 c1 c2 c3
  apply Ev.rounds
  simp only [steamerlaw1_PathOrders.f]
  have okx := made_ok la 6 (by omega)
  have oky := made_ok lb 6 (by omega)
  have okz := made_ok lc 6 (by omega)
  refine Ev.bind (Made_ev la 6 (by omega) (by omega)) (Ev.bind (Made_ev lb 6 (by omega) (by omega)) (Ev.bind (Made_ev lc 6 (by omega) (by omega)) ?_))
  generalize made la 6 = x at okx
  generalize made lb 6 = y at oky
  generalize made lc 6 = z at okz
  have less : ∀ {p q : List Bs}, Ok p → Ok q → Ev (fun k => PA.path_Less.f k (mkB (join p)) (mkB (join q))) (decide (cmpL p q < 0)) := fun {p q} hp hq => by
    have h1 := hp.long
    have h2 := hq.long
    have := Paths.Less_ev (mkB (join p)) (mkB (join q)) (by rw [size_L, L_mkB]; omega) (by rw [size_L, L_mkB]; omega)
    rw [L_mkB, L_mkB] at this
    unfold lessB cmpP at this
    rwa [hp.parts, hq.parts] at this
  have under : ∀ {p q : List Bs}, Ok p → Ok q → Ev (fun k => PA.path_Under.f k (mkB (join p)) (mkB (join q))) (q.isPrefixOf p) := fun {p q} hp hq => by
    have h1 := hp.long
    have h2 := hq.long
    have := Paths.Under_ev (mkB (join p)) (mkB (join q)) (by rw [size_L, L_mkB]; omega) (by rw [size_L, L_mkB]; omega)
    rwa [L_mkB, L_mkB, under_join hp hq] at this
  have heq : ((mkB (join x)).toList = (mkB (join y)).toList) ↔ x = y := by
    rw [toList_L, toList_L, L_mkB, L_mkB]
    constructor
    · intro h
      rw [← okx.parts, ← oky.parts, h]
    · intro h; rw [h]
  -- what follows the count
  have tail : ∀ c : Bool, c = false → Ev (fun k => steamerlaw1_PathOrders.j3 k (mkB (join x)) (mkB (join y)) (mkB (join z)) c) true := fun c hc => by
    refine Ev.step (fun _ => rfl) ?_
    simp only [steamerlaw1_PathOrders.j3]
    refine Ev.neg (by rw [hc]; simp) (Ev.bind (under oky okx) ?_)
    by_cases h1 : x.isPrefixOf y = true
    · refine Ev.pos h1 (Ev.bind (less okx okz) ?_)
      by_cases h2 : cmpL x z < 0
      · refine Ev.pos (decide_eq_true h2) (Ev.bind (less okz oky) ?_)
        by_cases h3 : cmpL z y < 0
        · refine Ev.pos (decide_eq_true h3) (Ev.bind (under okz okx) (Ev.pos (cmpL_between h1 h2 h3) (Ev.bindS Ev_told (Ev.val rfl))))
        · exact Ev.neg (by simp [h3]) (Ev.bindS Ev_told (Ev.val rfl))
      · exact Ev.neg (by simp [h2]) (Ev.bindS Ev_told (Ev.val rfl))
    · exact Ev.neg h1 (Ev.bindS Ev_told (Ev.val rfl))
  have mid : Ev (fun k => steamerlaw1_PathOrders.j2 k (mkB (join x)) (mkB (join y)) (mkB (join z)) 1) true := by
    refine Ev.step (fun _ => rfl) ?_
    simp only [steamerlaw1_PathOrders.j2]
    refine Ev.pos (by trivial) (Ev.bind (less okx oky) ?_)
    by_cases h1 : cmpL x y < 0
    · refine Ev.pos (decide_eq_true h1) (Ev.bind (less oky okz) ?_)
      by_cases h2 : cmpL y z < 0
      · refine Ev.pos (decide_eq_true h2) (Ev.bind (less okx okz) (tail _ ?_))
        rw [decide_eq_true (cmpL_trans h1 h2)]; rfl
      · exact Ev.neg (by simp [h2]) (tail _ rfl)
    · exact Ev.neg (by simp [h1]) (tail _ rfl)
  have sw := cmpL_swap x y
  have sw2 := cmpL_swap y x
  refine Ev.bind (less okx oky) ?_
  by_cases h1 : cmpL x y < 0
  · have hn : ¬ cmpL y x < 0 := by have := sw.1 h1; omega
    have hne : x ≠ y := fun e => by rw [e, cmpL_refl] at h1; omega
    refine Ev.pos (decide_eq_true h1) (Ev.step (fun _ => rfl) ?_)
    simp only [steamerlaw1_PathOrders.j0]
    refine Ev.bind (less oky okx) (Ev.neg (by simp [hn]) (Ev.step (fun _ => rfl) ?_))
    simp only [steamerlaw1_PathOrders.j1]
    exact Ev.neg (fun e => hne (heq.1 e)) mid
  · refine Ev.neg (by simp [h1]) (Ev.step (fun _ => rfl) ?_)
    simp only [steamerlaw1_PathOrders.j0]
    refine Ev.bind (less oky okx) ?_
    by_cases h2 : cmpL y x < 0
    · have hne : x ≠ y := fun e => by rw [e, cmpL_refl] at h2; omega
      refine Ev.pos (decide_eq_true h2) (Ev.step (fun _ => rfl) ?_)
      simp only [steamerlaw1_PathOrders.j1]
      refine Ev.neg (fun e => hne (heq.1 e)) ?_
      rw [w64 (by omega) (by omega)]
      exact mid
    · have hxy : x = y := by
        have : cmpL x y = 0 := by
          have q1 : ¬ 0 < cmpL y x := fun e => h1 (sw.2 e)
          have q2 : ¬ 0 < cmpL x y := fun e => h2 (sw2.2 e)
          omega
        exact cmpL_zero this
      refine Ev.neg (by simp [h2]) (Ev.step (fun _ => rfl) ?_)
      simp only [steamerlaw1_PathOrders.j1]
      refine Ev.pos (heq.2 hxy) ?_
      rw [w64 (by omega) (by omega)]
      exact mid
end Go.Proofs.YtncfadhcpmokiaaDoor.Pure
