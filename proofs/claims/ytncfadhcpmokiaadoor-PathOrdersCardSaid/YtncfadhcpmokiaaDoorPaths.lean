/-
  What the printed functions of package path come to: the answers of the lists of bytes (Sp), for every string shorter than 2^32 bytes.
-/
import Derived.Test.YtncfadhcpmokiaaDoorSp
import Derived.Test.YtncfadhcpmokiaaDoorPAx
set_option linter.unusedVariables false
set_option linter.unusedSimpArgs false
namespace Go.Proofs.YtncfadhcpmokiaaDoor.Paths
open Go Go.RowKit Go.Proofs.YtncfadhcpmokiaaDoorW.PrintWords Go.Proofs.YtncfadhcpmokiaaDoorW.PrintLast Go.Proofs.YtncfadhcpmokiaaDoorW.PrintMore
open Go.Proofs.YtncfadhcpmokiaaDoor.Sp Go.Proofs.YtncfadhcpmokiaaDoor.Ext Go.Proofs.YtncfadhcpmokiaaDoor.PA

theorem w64 {x : Int} (h1 : -9223372036854775808 ≤ x) (h2 : x ≤ 9223372036854775807) : wrap64 x = x := by unfold wrap64; omega

theorem Name_eq (s : ByteArray) : path_Name.f s = some (nameB (L s)) := by
  unfold path_Name.f nameB
  rw [size_L]
  by_cases h1 : 1 ≤ (L s).length
  · rw [if_pos (by omega)]
    by_cases h2 : (L s).length ≤ 20
    · rw [if_pos (by omega)]
      have hc : strings_ContainsAny.f s ⟨#[47, 0]⟩ = some (Lib.containsAny (L s) [47, 0]) := by
        unfold strings_ContainsAny.f
        rw [if_pos (show (⟨#[47, 0]⟩ : ByteArray) = seps from rfl), if_pos (by rw [size_L]; omega)]
        rfl
      rw [hc]
      simp only [Option.bind_some, decide_eq_true h1, decide_eq_true h2, Bool.true_and]
      cases Lib.containsAny (L s) [47, 0] with
      | true => simp
      | false =>
        simp only [Bool.false_eq_true, if_false, Bool.not_false, Bool.true_and, toList_L]
        by_cases h3 : L s = [46]
        · simp [h3]
        · rw [if_neg h3]
          simp [h3, bne]
    · rw [if_neg (by omega)]
      simp [h2]
  · rw [if_neg (by omega)]
    simp [h1]

theorem Split_eq (s : ByteArray) (h : s.size < 4294967281) : strings_Split.f s ⟨#[47]⟩ = some ((split (L s)).map mkB) := by
  unfold strings_Split.f
  rw [if_pos (show (⟨#[47]⟩ : ByteArray).size = 1 from rfl), if_pos h]
  congr 1
  have h1 := Lib.splitB_data ⟨#[47]⟩ 0 (Lib.countB s ⟨#[47]⟩) s
  have h2 : Lib.countB s ⟨#[47]⟩ = (L s).count 47 := Lib.count_one 47 (L s)
  have h3 := splitK_eq ((L s).count 47) (L s) rfl
  rw [h2] at h1 ⊢
  have h4 : (Lib.splitB ⟨#[47]⟩ 0 ((L s).count 47) s).map L = split (L s) := by
    rw [← h3]; exact h1
  rw [← h4, List.map_map]
  have : (mkB ∘ L) = id := by funext x; simp
  rw [this, List.map_id]

theorem May_l0 (l : List ByteArray) (hl : l.length ≤ 1000000) (d : Nat) : ∀ i : Nat, i + d = l.length → Ev (fun k => path_May.l0 k l (i : Int)) ((l.drop i).all fun s => nameB (L s)) := by
  induction d with
  | zero =>
    intro i hi
    refine Ev.step (fun _ => rfl) ?_
    simp only [path_May.l0]
    refine Ev.pos (by omega) (Ev.val ?_)
    rw [List.drop_of_length_le (by omega)]; rfl
  | succ d ih =>
    intro i hi
    have hlt : i < l.length := by omega
    refine Ev.step (fun _ => rfl) ?_
    simp only [path_May.l0]
    refine Ev.neg (by omega) (Ev.pos (by omega) (Ev.pos (by omega) (Ev.bindS (Name_eq _) ?_)))
    have hd : l.drop i = l[i] :: l.drop (i + 1) := List.drop_eq_getElem_cons hlt
    have hr : rdOf ByteArray.empty l (i : Int) = l[i] := by
      simp [rdOf, List.getD_eq_getElem?_getD, List.getElem?_eq_getElem hlt]
    rw [hd, List.all_cons, hr]
    cases hn : nameB (L l[i]) with
    | true =>
      refine Ev.pos rfl ?_
      rw [w64 (by omega) (by omega), Bool.true_and]
      exact ih (i + 1) (by omega)
    | false => exact Ev.neg (by simp) (Ev.val rfl)

theorem split_len (l : Bs) : (split l).length ≤ l.length + 1 := by
  induction l with
  | nil => simp [split]
  | cons b l ih =>
    by_cases hb : b = 47
    · subst hb; rw [split_sep]; simp; omega
    · rw [split_other hb]
      cases hx : split l with
      | nil => exact absurd hx (split_ne l)
      | cons h t => rw [hx] at ih; simp [consHead] at ih ⊢; omega

theorem May_ev (s : ByteArray) (h : s.size < 4294967281) : Ev (fun k => path_May.f k s) (mayB (L s)) := by
  simp only [path_May.f]
  rw [toList_L]
  by_cases h0 : L s = []
  · refine Ev.pos h0 (Ev.val ?_)
    rw [h0]; rfl
  · refine Ev.neg h0 (Ev.bindS (Split_eq s h) ?_)
    have he : (L s).isEmpty = false := by cases hs : L s with
      | nil => exact absurd hs h0
      | cons _ _ => rfl
    unfold mayB
    rw [he, Bool.false_or, size_L]
    by_cases h1 : (L s).length ≤ 100
    · refine Ev.neg (by omega) ?_
      rw [decide_eq_true h1, Bool.true_and]
      refine Ev.step (fun _ => rfl) ?_
      simp only [path_May.j0, List.length_map, decide_eq_true_eq]
      by_cases h2 : (split (L s)).length ≤ 8
      · refine Ev.neg (by omega) ?_
        have := May_l0 ((split (L s)).map mkB) (by rw [List.length_map]; omega) _ 0 (Nat.zero_add _)
        rw [decide_eq_true h2, Bool.true_and]
        rw [List.drop_zero, List.all_map] at this
        have e : (fun s : ByteArray => nameB (L s)) ∘ mkB = nameB := by funext x; simp
        rw [e] at this
        exact this
      · refine Ev.pos (by omega) (Ev.val ?_)
        simp [h2]
    · refine Ev.pos (by omega) ?_
      refine Ev.step (fun _ => rfl) ?_
      simp only [path_May.j0]
      refine Ev.pos (by trivial) (Ev.val ?_)
      simp [h1]

theorem Parts_ev (s : ByteArray) (h : s.size < 4294967281) : Ev (fun k => path_Parts.f k s) ((parts (L s)).map mkB) := by
  simp only [path_Parts.f]
  rw [toList_L]
  unfold parts
  by_cases h0 : L s = []
  · rw [if_pos h0]; exact Ev.pos h0 (Ev.val rfl)
  · rw [if_neg h0]
    refine Ev.neg h0 (Ev.bind (May_ev s h) ?_)
    cases hm : mayB (L s) with
    | true => exact Ev.pos rfl (Ev.bindS (Split_eq s h) (Ev.val rfl))
    | false => exact Ev.neg (by simp) (Ev.val rfl)

theorem Join_eq (ns : List Bs) (h : (join ns).length ≤ 140737488355328) : strings_Join.f (ns.map mkB) ⟨#[47]⟩ = some (mkB (join ns)) := by
  unfold strings_Join.f
  have e : ((ns.map mkB).map fun x => x.data.toList) = ns := by
    rw [List.map_map]
    have : ((fun x : ByteArray => x.data.toList) ∘ mkB) = id := by funext x; exact L_mkB x
    rw [this, List.map_id]
  have e2 : Lib.join ((ns.map mkB).map fun x => x.data.toList) (⟨#[47]⟩ : ByteArray).data.toList = join ns := by
    rw [e]; exact join_lib ns
  rw [if_pos (show (⟨#[47]⟩ : ByteArray).size = 1 from rfl), e2, if_pos h]
  rfl

theorem rdOf_map (ns : List Bs) (i : Nat) (h : i < ns.length) : rdOf ByteArray.empty (ns.map mkB) (i : Int) = mkB (ns.getD i []) := by
  simp [rdOf, List.getD_eq_getElem?_getD, List.getElem?_eq_getElem h]

theorem cut_ev (s : ByteArray) (h : s.size < 4294967281) : Ev (fun k => path_cut.f k s) (mkB (parentB (L s)), mkB (lastB (L s)), hasParent (L s)) := by
  simp only [path_cut.f]
  refine Ev.bind (Parts_ev s h) ?_
  have ok := parts_ok (L s)
  unfold parentB lastB hasParent
  generalize parts (L s) = ns at ok
  rw [List.length_map]
  by_cases h0 : ns = []
  · subst h0; exact Ev.pos rfl (Ev.val rfl)
  · have hlen : 0 < ns.length := List.length_pos_iff.2 h0
    have hd := ok.deep
    have hw : wrap64 ((ns.length : Int) - 1) = ((ns.length - 1 : Nat) : Int) := by rw [w64 (by omega) (by omega)]; omega
    refine Ev.neg (by omega) ?_
    rw [hw]
    have ht : ((ns.map mkB).take (((ns.length - 1 : Nat) : Int)).toNat) = (ns.dropLast).map mkB := by
      rw [Int.toNat_natCast, ← List.map_take, List.dropLast_eq_take]
    rw [ht]
    have ok2 : (join ns.dropLast).length ≤ 100 := by rw [List.dropLast_eq_take]; exact (ok.take _).long
    refine Ev.pos (by omega) (Ev.pos (by omega) (Ev.bindS (Join_eq _ (by omega)) (Ev.pos (by omega) (Ev.val ?_))))
    rw [rdOf_map ns _ (by omega)]
    have hl : ns.getLastD [] = ns.getD (ns.length - 1) [] := by
      rw [List.getD_eq_getElem?_getD, ← List.getLast?_eq_getElem?]
      cases ns with
      | nil => rfl
      | cons a t => simp [List.getLastD_cons, List.getLast?_cons]
    rw [hl]
    have hb : (!ns.isEmpty) = true := by cases ns <;> simp_all
    rw [hb]

theorem Parent_ev (s : ByteArray) (h : s.size < 4294967281) : Ev (fun k => path_Parent.f k s) (mkB (parentB (L s)), hasParent (L s)) := by
  simp only [path_Parent.f]
  exact Ev.bind (cut_ev s h) (Ev.val rfl)
theorem Last_ev (s : ByteArray) (h : s.size < 4294967281) : Ev (fun k => path_Last.f k s) (mkB (lastB (L s))) := by
  simp only [path_Last.f]
  exact Ev.bind (cut_ev s h) (Ev.val rfl)
theorem Depth_ev (s : ByteArray) (h : s.size < 4294967281) : Ev (fun k => path_Depth.f k s) (depthB (L s)) := by
  simp only [path_Depth.f]
  refine Ev.bind (May_ev s h) ?_
  unfold depthB
  cases mayB (L s) with
  | true =>
    refine Ev.pos rfl (Ev.bind (Parts_ev s h) (Ev.val ?_))
    simp
  | false => exact Ev.neg (by simp) (Ev.val (by simp))

theorem Join_ev (a b : ByteArray) (ha : a.size < 2147483640) (hb : b.size < 2147483640) : Ev (fun k => path_Join.f k a b) (mkB (joinB (L a) (L b)).1, (joinB (L a) (L b)).2) := by
  simp only [path_Join.f]
  refine Ev.bind (May_ev a (by omega)) ?_
  unfold joinB
  cases h1 : mayB (L a) with
  | false =>
    refine Ev.neg (by simp) (Ev.step (fun _ => rfl) ?_)
    simp only [path_Join.j0]
    exact Ev.pos (by trivial) (Ev.val (by simp [mkB]))
  | true =>
    refine Ev.pos rfl (Ev.bindS (Name_eq b) ?_)
    cases h2 : nameB (L b) with
    | false =>
      refine Ev.step (fun _ => rfl) ?_
      simp only [path_Join.j0]
      exact Ev.pos rfl (Ev.val (by simp [mkB]))
    | true =>
      refine Ev.step (fun _ => rfl) ?_
      simp only [path_Join.j0]
      refine Ev.neg (by simp) ?_
      simp only [Bool.and_self, if_true]
      rw [toList_L]
      unfold glue
      by_cases h0 : L a = []
      · refine Ev.pos h0 (Ev.bind (May_ev b (by omega)) ?_)
        rw [if_pos h0]
        cases mayB (L b) with
        | true => exact Ev.pos rfl (Ev.val (by simp))
        | false => exact Ev.neg (by simp) (Ev.val (by simp [mkB]))
      · have e : L (a ++ ⟨#[47]⟩ ++ b) = L a ++ 47 :: L b := by
          rw [L_append, L_append]
          simp [L]
        have hz : (a ++ (⟨#[47]⟩ : ByteArray)).size = a.size + 1 := by
          rw [size_L, L_append, List.length_append, ← size_L]; rfl
        have hz2 : (a ++ ⟨#[47]⟩ ++ b).size < 4294967281 := by
          rw [size_L, e, List.length_append, List.length_cons, ← size_L, ← size_L]; omega
        refine Ev.neg h0 (Ev.pos (by omega) (Ev.pos (by omega) (Ev.bind (May_ev _ hz2) ?_)))
        rw [if_neg h0, e]
        cases mayB (L a ++ 47 :: L b) with
        | true => exact Ev.pos rfl (Ev.val (by simp [← e]))
        | false => exact Ev.neg (by simp) (Ev.val (by simp [mkB]))

theorem HasPrefix_eq (s p : ByteArray) : strings_HasPrefix.f s p = some ((L p).isPrefixOf (L s)) := by
  unfold strings_HasPrefix.f stringslite_HasPrefix.f
  rw [size_L, size_L]
  by_cases h : (L p).length ≤ (L s).length
  · rw [if_pos (by omega), if_pos (by omega), if_pos (by omega)]
    simp only [Option.bind_some, toList_L, L_extract, Int.toNat_natCast, List.drop_zero, Nat.sub_zero]
    congr 1
    rw [Bool.eq_iff_iff, beq_iff_eq, List.isPrefixOf_iff_prefix, List.prefix_iff_eq_take]
    exact ⟨fun e => e.symm, fun e => e.symm⟩
  · rw [if_neg (by omega)]
    simp only [Option.bind_some, Option.some.injEq]
    symm
    rw [Bool.eq_false_iff]
    intro hp
    have := (List.isPrefixOf_iff_prefix.1 hp).length_le
    omega

theorem Under_ev (s t : ByteArray) (hs : s.size < 4294967281) (ht : t.size < 4294967281) : Ev (fun k => path_Under.f k s t) (underB (L s) (L t)) := by
  simp only [path_Under.f]
  refine Ev.bind (May_ev s hs) ?_
  unfold underB
  cases h1 : mayB (L s) with
  | false => exact Ev.neg (by simp) (Ev.val (by simp))
  | true =>
    refine Ev.pos rfl (Ev.bind (May_ev t ht) ?_)
    cases h2 : mayB (L t) with
    | false => exact Ev.neg (by simp) (Ev.val (by simp))
    | true =>
      refine Ev.pos rfl ?_
      rw [Bool.true_and, Bool.true_and, under_text h1 h2, toList_L, toList_L]
      by_cases h3 : L t = []
      · exact Ev.pos h3 (Ev.val (by simp [h3]))
      · refine Ev.neg h3 ?_
        by_cases h4 : L s = L t
        · exact Ev.pos h4 (Ev.val (by simp [h4]))
        · refine Ev.neg h4 (Ev.pos (by omega) (Ev.bindS (HasPrefix_eq _ _) (Ev.val ?_)))
          rw [L_append, decide_eq_false h3, decide_eq_false h4]
          simp [L]

theorem Compare_l0 (x y : List Bs) (hx : x.length ≤ 1000000) (hy : y.length ≤ 1000000) (d : Nat) : ∀ i : Nat, i + d = x.length → i ≤ y.length → Ev (fun k => slices_Compare_string_string.l0 k (x.map mkB) (y.map mkB) (x.map mkB) (x.length : Int) (i : Int)) (cmpL (x.drop i) (y.drop i)) := by
  induction d with
  | zero =>
    intro i hi hy'
    refine Ev.step (fun _ => rfl) ?_
    simp only [slices_Compare_string_string.l0, List.length_map]
    refine Ev.neg (by omega) ?_
    rw [List.drop_of_length_le (show x.length ≤ i by omega)]
    by_cases hlt : x.length < y.length
    · refine Ev.pos (by omega) (Ev.val ?_)
      rw [List.drop_eq_getElem_cons (show i < y.length by omega)]; rfl
    · refine Ev.neg (by omega) (Ev.val ?_)
      rw [List.drop_of_length_le (show y.length ≤ i by omega)]; rfl
  | succ d ih =>
    intro i hi hy'
    have hlt : i < x.length := by omega
    refine Ev.step (fun _ => rfl) ?_
    simp only [slices_Compare_string_string.l0, List.length_map]
    refine Ev.pos (by omega) (Ev.pos (by omega) (Ev.pos (by omega) ?_))
    rw [List.drop_eq_getElem_cons hlt]
    by_cases hly : i < y.length
    · rw [List.drop_eq_getElem_cons hly, cmpL]
      have hc : cmp_Compare_string.f (rdOf ByteArray.empty (x.map mkB) (i : Int)) (rdOf ByteArray.empty (y.map mkB) (i : Int)) = some (cmpB x[i] y[i]) := by
        rw [rdOf_map x i hlt, rdOf_map y i hly]
        unfold cmp_Compare_string.f cmpB
        simp only [toList_L, L_mkB, List.getD_eq_getElem?_getD, List.getElem?_eq_getElem hlt, List.getElem?_eq_getElem hly, Option.getD_some]
      refine Ev.neg (by omega) (Ev.pos (by omega) (Ev.bindS hc ?_))
      by_cases h0 : cmpB x[i] y[i] = 0
      · rw [if_pos h0]
        refine Ev.pos h0 ?_
        rw [w64 (by omega) (by omega)]
        exact ih (i + 1) (by omega) (by omega)
      · rw [if_neg h0]
        exact Ev.neg h0 (Ev.val rfl)
    · rw [List.drop_of_length_le (show y.length ≤ i by omega)]
      exact Ev.pos (by omega) (Ev.val rfl)

theorem Cmp_ev (s t : ByteArray) (hs : s.size < 4294967281) (ht : t.size < 4294967281) : Ev (fun k => path_Cmp.f k s t) (cmpP (L s) (L t)) := by
  simp only [path_Cmp.f]
  refine Ev.bind (Parts_ev s hs) (Ev.bind (Parts_ev t ht) (Ev.bind (a := cmpP (L s) (L t)) ?_ (Ev.val rfl)))
  simp only [slices_Compare_string_string.f, List.length_map]
  have h1 := (parts_ok (L s)).deep
  have h2 := (parts_ok (L t)).deep
  exact Compare_l0 _ _ (by omega) (by omega) _ 0 (Nat.zero_add _) (Nat.zero_le _)
theorem Less_ev (s t : ByteArray) (hs : s.size < 4294967281) (ht : t.size < 4294967281) : Ev (fun k => path_Less.f k s t) (lessB (L s) (L t)) := by
  simp only [path_Less.f]
  exact Ev.bind (Cmp_ev s t hs ht) (Ev.val rfl)
end Go.Proofs.YtncfadhcpmokiaaDoor.Paths
