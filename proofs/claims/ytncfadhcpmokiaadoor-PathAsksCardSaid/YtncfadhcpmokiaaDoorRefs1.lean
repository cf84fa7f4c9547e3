/-
  What the printed reference functions of layer 1 come to: the same answers (Sp), for every string of at most some 2^31 bytes.
-/
import Derived.Test.YtncfadhcpmokiaaDoorPaths
import Derived.Test.YtncfadhcpmokiaaDoorPBx
set_option linter.unusedVariables false
set_option linter.unusedSimpArgs false
namespace Go.Proofs.YtncfadhcpmokiaaDoor.Refs
open Go Go.RowKit Go.Proofs.YtncfadhcpmokiaaDoorW.PrintWords Go.Proofs.YtncfadhcpmokiaaDoorW.PrintLast Go.Proofs.YtncfadhcpmokiaaDoorW.PrintMore
open Go.Proofs.YtncfadhcpmokiaaDoor.Sp Go.Proofs.YtncfadhcpmokiaaDoor.Paths Go.Proofs.YtncfadhcpmokiaaDoor.PB

theorem get_at {s : ByteArray} {i : Nat} (h : i < s.size) : ∃ b, (L s)[i]? = some b ∧ bt s (i : Int) = (b.toNat : Int) := by
  rw [size_L] at h
  exact ⟨_, List.getElem?_eq_getElem h, bt_L s i _ (List.getElem?_eq_getElem h)⟩
theorem byte_eq (b c : UInt8) : ((b.toNat : Int) = (c.toNat : Int)) ↔ b = c := ⟨fun h => UInt8.toNat_inj.1 (by omega), fun h => by rw [h]⟩

theorem Name_l0 (s : ByteArray) (hs : s.size < 2147483640) (d : Nat) : ∀ i : Nat, i + d = s.size → Ev (fun k => steamerref1_Name.l0 k s (i : Int)) (!(Lib.containsAny ((L s).drop i) [47, 0]) && (decide (1 ≤ (L s).length) && (decide ((L s).length ≤ 20) && (!(L s == [46]) && !(L s == [46, 46]))))) := by
  induction d with
  | zero =>
    intro i hi
    refine Ev.step (fun _ => rfl) ?_
    simp only [steamerref1_Name.l0]
    refine Ev.neg (by omega) ?_
    rw [List.drop_of_length_le (by rw [← size_L]; omega)]
    rw [size_L]
    have h0 : Lib.containsAny [] [47, 0] = false := rfl
    rw [h0, Bool.not_false, Bool.true_and]
    by_cases h1 : 1 ≤ (L s).length
    · refine Ev.pos (by omega) ?_
      by_cases h2 : (L s).length ≤ 20
      · refine Ev.pos (by omega) ?_
        rw [toList_L]
        by_cases h3 : L s = [46]
        · exact Ev.pos h3 (Ev.val (by simp [h3]))
        · exact Ev.neg h3 (Ev.val (by simp [h1, h2, h3, bne]))
      · exact Ev.neg (by omega) (Ev.val (by simp [h2]))
    · exact Ev.neg (by omega) (Ev.val (by simp [h1]))
  | succ d ih =>
    intro i hi
    have hlt : i < s.size := by omega
    obtain ⟨b, hb, hbt⟩ := get_at hlt
    refine Ev.step (fun _ => rfl) ?_
    simp only [steamerref1_Name.l0]
    refine Ev.pos (by omega) (Ev.pos (by omega) ?_)
    have hd : (L s).drop i = b :: (L s).drop (i + 1) := by
      have hl : i < (L s).length := by rw [← size_L]; exact hlt
      rw [List.drop_eq_getElem_cons hl]
      rw [List.getElem?_eq_getElem hl] at hb
      rw [Option.some.inj hb]
    have hcon : b = 47 ∨ b = 0 → Lib.containsAny ((L s).drop i) [47, 0] = true := fun h => by
      cases hc : Lib.containsAny ((L s).drop i) [47, 0] with
      | true => rfl
      | false =>
        have := (containsAny_iff _).1 hc b (by rw [hd]; simp)
        rcases h with h | h
        · exact absurd h this.1
        · exact absurd h this.2
    rw [hbt]
    by_cases h47 : b = 47
    · refine Ev.pos (by rw [h47]; rfl) (Ev.val ?_)
      rw [hcon (.inl h47)]; rfl
    · refine Ev.neg (fun e => h47 ((byte_eq b 47).1 e)) ?_
      by_cases h00 : b = 0
      · refine Ev.pos (by rw [h00]; rfl) (Ev.val ?_)
        rw [hcon (.inr h00)]; rfl
      · refine Ev.neg (fun e => h00 ((byte_eq b 0).1 e)) ?_
        rw [w64 (by omega) (by omega)]
        have hsame : Lib.containsAny ((L s).drop i) [47, 0] = Lib.containsAny ((L s).drop (i + 1)) [47, 0] := by
          rw [Bool.eq_iff_iff]
          rw [← Bool.not_eq_false, ← Bool.not_eq_false, containsAny_iff, containsAny_iff, hd]
          constructor
          · intro h hc; apply h; intro c hcm
            rcases List.mem_cons.1 hcm with rfl | hcm
            · exact ⟨h47, h00⟩
            · exact hc c hcm
          · intro h hc; apply h; intro c hcm
            exact hc c (List.mem_cons_of_mem _ hcm)
        rw [hsame]
        exact ih (i + 1) (by omega)

theorem Name_ev (s : ByteArray) (hs : s.size < 2147483640) : Ev (fun k => steamerref1_Name.f k s) (nameB (L s)) := by
  simp only [steamerref1_Name.f]
  have := Name_l0 s hs s.size 0 (Nat.zero_add _)
  rw [List.drop_zero] at this
  have e : nameB (L s) = (!(Lib.containsAny (L s) [47, 0]) && (decide (1 ≤ (L s).length) && (decide ((L s).length ≤ 20) && (!(L s == [46]) && !(L s == [46, 46]))))) := by
    unfold nameB
    cases Lib.containsAny (L s) [47, 0] <;> simp
  rw [e]
  exact this

/-- The document's cut at each separator. -/
theorem cut_l0 (s : ByteArray) (hs : s.size < 2147483640) (d : Nat) : ∀ (i a : Nat) (l : List ByteArray), i + d = s.size → a ≤ i → l.length ≤ i → (47 : UInt8) ∉ ((L s).drop a).take (i - a) →
    Ev (fun k => steamerref1_cut.l0 k s l (a : Int) (i : Int)) (l ++ (split ((L s).drop a)).map mkB) := by
  have hext : ∀ a i : Nat, s.extract a i = mkB (((L s).drop a).take (i - a)) := fun a i => L_inj (by rw [L_extract, L_mkB])
  induction d with
  | zero =>
    intro i a l hi ha hl hno
    refine Ev.step (fun _ => rfl) ?_
    simp only [steamerref1_cut.l0]
    refine Ev.pos (by omega) (Ev.pos (by omega) (Ev.pos (by omega) (Ev.pos (by omega) (Ev.pos (by omega) ?_))))
    refine Ev.step (fun _ => rfl) ?_
    simp only [steamerref1_cut.l0]
    rw [w64 (by omega) (by omega)]
    refine Ev.neg (by omega) (Ev.val ?_)
    have hfull : ((L s).drop a).take (i - a) = (L s).drop a := List.take_of_length_le (by rw [List.length_drop, ← size_L]; omega)
    rw [hfull] at hno
    rw [split_none _ hno, Int.toNat_natCast, Int.toNat_natCast, hext, hfull]
    rfl
  | succ d ih =>
    intro i a l hi ha hl hno
    have hlt : i < s.size := by omega
    obtain ⟨b, hb, hbt⟩ := get_at hlt
    refine Ev.step (fun _ => rfl) ?_
    simp only [steamerref1_cut.l0]
    refine Ev.pos (by omega) (Ev.neg (by omega) (Ev.pos (by omega) (Ev.pos (by omega) ?_)))
    rw [hbt, w64 (by omega) (by omega)]
    have hl : i < (L s).length := by rw [← size_L]; exact hlt
    have hbi : (L s)[i] = b := by rw [List.getElem?_eq_getElem hl] at hb; exact Option.some.inj hb
    have htk : ((L s).drop a).take (i + 1 - a) = ((L s).drop a).take (i - a) ++ [b] := by
      rw [show i + 1 - a = (i - a) + 1 from by omega]
      rw [List.take_succ_eq_append_getElem (by rw [List.length_drop]; omega)]
      congr 2
      rw [List.getElem_drop]
      simp only [show a + (i - a) = i from by omega, hbi]
    by_cases h47 : b = 47
    · subst h47
      refine Ev.pos rfl (Ev.pos (by omega) (Ev.pos (by omega) (Ev.pos (by omega) ?_)))
      rw [Int.toNat_natCast, Int.toNat_natCast, hext]
      have := ih (i + 1) (i + 1) (l ++ [mkB (((L s).drop a).take (i - a))]) (by omega) (by omega) (by simp; omega) (by simp)
      have hsp : split ((L s).drop a) = ((L s).drop a).take (i - a) :: split ((L s).drop (i + 1)) := by
        have e : (L s).drop a = ((L s).drop a).take (i - a) ++ 47 :: (L s).drop (i + 1) := by
          have h1 := List.take_append_drop (i - a) ((L s).drop a)
          have h2 : ((L s).drop a).drop (i - a) = 47 :: (L s).drop (i + 1) := by
            rw [List.drop_drop, show a + (i - a) = i from by omega, List.drop_eq_getElem_cons hl, hbi]
          rw [h2] at h1
          exact h1.symm
        conv => lhs; rw [e]
        rw [split_append, split_none _ hno]
        rfl
      rw [hsp, List.map_cons]
      rw [List.append_assoc] at this
      exact this
    · refine Ev.neg (fun e => h47 ((byte_eq b 47).1 e)) ?_
      refine ih (i + 1) a l (by omega) (by omega) (by omega) ?_
      rw [htk, List.mem_append, not_or]
      exact ⟨hno, by simpa using fun e : (47 : UInt8) = b => h47 e.symm⟩

theorem cut_ev (s : ByteArray) (hs : s.size < 2147483640) : Ev (fun k => steamerref1_cut.f k s) ((split (L s)).map mkB) := by
  simp only [steamerref1_cut.f]
  have := cut_l0 s hs s.size 0 0 [] (Nat.zero_add _) (Nat.le_refl _) (Nat.le_refl _) (by simp)
  simpa using this

theorem May_l0 (s : ByteArray) (hs : s.size < 2147483640) (ns : List Bs) (hn : ∀ n ∈ ns, n.length < 2147483640) (hl : ns.length ≤ 2147483647) (d : Nat) : ∀ i : Nat, i + d = ns.length →
    Ev (fun k => steamerref1_MayPath.l0 k s (ns.map mkB) (i : Int)) ((ns.drop i).all nameB && (decide ((L s).length ≤ 100) && decide (ns.length ≤ 8))) := by
  induction d with
  | zero =>
    intro i hi
    refine Ev.step (fun _ => rfl) ?_
    simp only [steamerref1_MayPath.l0, List.length_map]
    refine Ev.neg (by omega) ?_
    rw [List.drop_of_length_le (by omega), size_L]
    by_cases h1 : (L s).length ≤ 100
    · refine Ev.pos (by omega) (Ev.val ?_)
      simp [h1]
      omega
    · exact Ev.neg (by omega) (Ev.val (by simp [h1]))
  | succ d ih =>
    intro i hi
    have hlt : i < ns.length := by omega
    refine Ev.step (fun _ => rfl) ?_
    simp only [steamerref1_MayPath.l0, List.length_map]
    have hg : ns.getD i [] = ns[i] := by simp [List.getD_eq_getElem?_getD, List.getElem?_eq_getElem hlt]
    refine Ev.pos (by omega) (Ev.pos (by omega) (Ev.bind (a := nameB ns[i]) ?_ ?_))
    · rw [rdOf_map ns i hlt, hg]
      have := Name_ev (mkB ns[i]) (by rw [size_L, L_mkB]; exact hn _ (List.getElem_mem hlt))
      rwa [L_mkB] at this
    · rw [List.drop_eq_getElem_cons hlt, List.all_cons]
      cases hnb : nameB ns[i] with
      | true =>
        refine Ev.pos rfl ?_
        rw [w64 (by omega) (by omega), Bool.true_and]
        exact ih (i + 1) (by omega)
      | false => exact Ev.neg (by simp) (Ev.val (by simp))

theorem split_mem_len (l : Bs) : ∀ n ∈ split l, n.length ≤ l.length := by
  induction l with
  | nil => intro n hn; simp [split] at hn; simp [hn]
  | cons b l ih =>
    intro n hn
    by_cases hb : b = 47
    · subst hb
      rw [split_sep, List.mem_cons] at hn
      rcases hn with rfl | hn
      · simp
      · have := ih n hn; simp; omega
    · rw [split_other hb] at hn
      cases hx : split l with
      | nil => exact absurd hx (split_ne l)
      | cons h t =>
        rw [hx] at hn ih
        simp only [consHead, List.mem_cons] at hn
        rcases hn with rfl | hn
        · have := ih h (by simp); simp; omega
        · have := ih n (by simp [hn]); simp; omega

theorem May_ev (s : ByteArray) (hs : s.size < 2147483640) : Ev (fun k => steamerref1_MayPath.f k s) (mayB (L s)) := by
  simp only [steamerref1_MayPath.f]
  rw [toList_L]
  by_cases h0 : L s = []
  · refine Ev.pos h0 (Ev.val ?_)
    rw [h0]; rfl
  · refine Ev.neg h0 (Ev.bind (cut_ev s hs) ?_)
    have he : (L s).isEmpty = false := by cases hs : L s with
      | nil => exact absurd hs h0
      | cons _ _ => rfl
    have hsz := size_L s
    have := May_l0 s hs (split (L s)) (fun n hn => by have := split_mem_len _ n hn; omega) (by have := split_len (L s); omega) _ 0 (Nat.zero_add _)
    rw [List.drop_zero] at this
    have e : mayB (L s) = ((split (L s)).all nameB && (decide ((L s).length ≤ 100) && decide ((split (L s)).length ≤ 8))) := by
      unfold mayB
      rw [he, Bool.false_or]
      cases (split (L s)).all nameB <;> simp
    rw [e]
    exact this

theorem Parts_ev (s : ByteArray) (hs : s.size < 2147483640) : Ev (fun k => steamerref1_Parts.f k s) ((parts (L s)).map mkB) := by
  simp only [steamerref1_Parts.f]
  rw [toList_L]
  unfold parts
  by_cases h0 : L s = []
  · rw [if_pos h0]; exact Ev.pos h0 (Ev.val rfl)
  · rw [if_neg h0]
    refine Ev.neg h0 (Ev.bind (May_ev s hs) ?_)
    cases hm : mayB (L s) with
    | true => exact Ev.pos rfl (Ev.bind (cut_ev s hs) (Ev.val rfl))
    | false => exact Ev.neg (by simp) (Ev.val rfl)

theorem Depth_ev (s : ByteArray) (hs : s.size < 2147483640) : Ev (fun k => steamerref1_Depth.f k s) (depthB (L s)) := by
  simp only [steamerref1_Depth.f]
  refine Ev.bind (May_ev s hs) ?_
  unfold depthB
  cases mayB (L s) with
  | true => exact Ev.pos rfl (Ev.bind (Parts_ev s hs) (Ev.val (by simp)))
  | false => exact Ev.neg (by simp) (Ev.val (by simp))

theorem lastD (ns : List Bs) (h0 : ns ≠ []) : ns.getLastD [] = ns.getD (ns.length - 1) [] := by
  rw [List.getD_eq_getElem?_getD, ← List.getLast?_eq_getElem?]
  cases ns with
  | nil => rfl
  | cons a t => simp [List.getLastD_cons, List.getLast?_cons]

theorem Last_ev (s : ByteArray) (hs : s.size < 2147483640) : Ev (fun k => steamerref1_Last.f k s) (mkB (lastB (L s))) := by
  simp only [steamerref1_Last.f]
  refine Ev.bind (Parts_ev s hs) ?_
  have hd := (parts_ok (L s)).deep
  unfold lastB
  generalize parts (L s) = ns at hd
  rw [List.length_map]
  by_cases h0 : ns = []
  · subst h0; exact Ev.pos rfl (Ev.val rfl)
  · have hlen : 0 < ns.length := List.length_pos_iff.2 h0
    have hw : wrap64 ((ns.length : Int) - 1) = ((ns.length - 1 : Nat) : Int) := by rw [w64 (by omega) (by omega)]; omega
    rw [hw]
    refine Ev.neg (by omega) (Ev.pos (by omega) (Ev.pos (by omega) (Ev.val ?_)))
    rw [rdOf_map ns _ (by omega), lastD ns h0]

/-- A path's names, but the last one, joined: what is left of the path where the last name and the separator ahead of it are cut off. -/
theorem join_dropLast (ns : List Bs) (h0 : ns ≠ []) : join ns.dropLast = (join ns).take ((join ns).length - (ns.getLastD []).length - 1) := by
  have hsp : ns.dropLast ++ [ns.getLastD []] = ns := by
    cases ns with
    | nil => exact absurd rfl h0
    | cons a t =>
      have := List.dropLast_concat_getLast (l := a :: t) (by simp)
      rw [List.getLastD_cons]
      rw [← List.getLast_eq_getLastD (by simp)] 
      exact this
  generalize ns.getLastD [] = z at hsp
  generalize ns.dropLast = y at hsp
  subst hsp
  by_cases hy : y = []
  · subst hy; simp [join]
  · rw [join_append y [z] hy (by simp)]
    simp only [join, List.length_append, List.length_cons]
    rw [List.take_append_of_le_length (by omega), List.take_of_length_le (by omega)]

theorem Parent_ev (s : ByteArray) (hs : s.size < 2147483640) : Ev (fun k => steamerref1_Parent.f k s) (mkB (parentB (L s)), hasParent (L s)) := by
  simp only [steamerref1_Parent.f]
  refine Ev.bind (Parts_ev s hs) ?_
  have ok := parts_ok (L s)
  unfold parentB hasParent
  by_cases h0 : parts (L s) = []
  · rw [h0]; exact Ev.pos rfl (Ev.val rfl)
  · have hm : mayB (L s) = true := by
      cases hm : mayB (L s) with
      | true => rfl
      | false => exact absurd (parts_bad hm) h0
    have hj := (may_ok hm).2
    have hjd := join_dropLast _ h0
    rw [hj] at hjd
    have hd := ok.deep
    rw [hjd]
    generalize parts (L s) = ns at *
    have hlen : 0 < ns.length := List.length_pos_iff.2 h0
    have hw : wrap64 ((ns.length : Int) - 1) = ((ns.length - 1 : Nat) : Int) := by rw [w64 (by omega) (by omega)]; omega
    have hsz := size_L s
    have hrd : rdOf ByteArray.empty (ns.map mkB) ((ns.length - 1 : Nat) : Int) = mkB (ns.getLastD []) := by rw [rdOf_map ns _ (by omega), lastD ns h0]
    have hz : (mkB (ns.getLastD [])).size = (ns.getLastD []).length := by rw [size_L, L_mkB]
    rw [List.length_map, hw, hrd, hz]
    have hlast : (ns.getLastD []).length ≤ 20 := by
      have hmem : ns.getLastD [] ∈ ns := by
        rw [lastD ns h0, List.getD_eq_getElem?_getD, List.getElem?_eq_getElem (by omega)]
        exact List.getElem_mem _
      exact ((nameB_iff _).1 (ok.names _ hmem)).2.1
    have hmx : mx 0 (wrap64 (wrap64 ((s.size : Int) - ((ns.getLastD []).length : Int)) - 1)) = (((L s).length - (ns.getLastD []).length - 1 : Nat) : Int) := by
      rw [w64 (x := (s.size : Int) - ((ns.getLastD []).length : Int)) (by omega) (by omega), w64 (by omega) (by omega)]
      unfold mx
      split <;> omega
    rw [hmx]
    have hb : (!ns.isEmpty) = true := by cases ns <;> simp_all
    refine Ev.neg (by omega) (Ev.pos (by omega) (Ev.pos (by omega) (Ev.pos (by omega) (Ev.pos (by omega) (Ev.val ?_)))))
    rw [hb]
    congr 2
    apply L_inj
    rw [L_extract, L_mkB, Int.toNat_natCast]
    simp

theorem Join_ev (a b : ByteArray) (ha : a.size < 1073741800) (hb : b.size < 1073741800) : Ev (fun k => steamerref1_Join.f k a b) (mkB (joinB (L a) (L b)).1, (joinB (L a) (L b)).2) := by
  simp only [steamerref1_Join.f]
  refine Ev.bind (May_ev a (by omega)) ?_
  unfold joinB
  cases h1 : mayB (L a) with
  | false =>
    refine Ev.neg (by simp) (Ev.step (fun _ => rfl) ?_)
    simp only [steamerref1_Join.j0]
    exact Ev.pos (by trivial) (Ev.val (by simp [mkB]))
  | true =>
    refine Ev.pos rfl (Ev.bind (Name_ev b (by omega)) ?_)
    cases h2 : nameB (L b) with
    | false =>
      refine Ev.step (fun _ => rfl) ?_
      simp only [steamerref1_Join.j0]
      exact Ev.pos rfl (Ev.val (by simp [mkB]))
    | true =>
      refine Ev.step (fun _ => rfl) ?_
      simp only [steamerref1_Join.j0]
      refine Ev.neg (by simp) ?_
      simp only [Bool.and_self, if_true]
      rw [toList_L]
      unfold glue
      by_cases h0 : L a = []
      · refine Ev.pos h0 (Ev.bind (May_ev b (by omega)) ?_)
        rw [if_pos h0]
        cases mayB (L b) with
        | true => exact Ev.pos rfl (Ev.val (by simp))
        | false => exact Ev.neg (by simp) (Ev.val (by simp [mkB]))
      · have e : L (a ++ ⟨#[47]⟩ ++ b) = L a ++ 47 :: L b := by
          rw [L_append, L_append]
          simp [L]
        have hz : (a ++ (⟨#[47]⟩ : ByteArray)).size = a.size + 1 := by
          rw [size_L, L_append, List.length_append, ← size_L]; rfl
        have hz2 : (a ++ ⟨#[47]⟩ ++ b).size < 2147483640 := by
          rw [size_L, e, List.length_append, List.length_cons, ← size_L, ← size_L]; omega
        refine Ev.neg h0 (Ev.pos (by omega) (Ev.pos (by omega) (Ev.bind (May_ev _ hz2) ?_)))
        rw [if_neg h0, e]
        cases mayB (L a ++ 47 :: L b) with
        | true => exact Ev.pos rfl (Ev.val (by simp [← e]))
        | false => exact Ev.neg (by simp) (Ev.val (by simp [mkB]))

theorem Under_ev (s t : ByteArray) (hs : s.size < 2147483640) (ht : t.size < 2147483640) : Ev (fun k => steamerref1_Under.f k s t) (underB (L s) (L t)) := by
  simp only [steamerref1_Under.f]
  refine Ev.bind (May_ev s hs) ?_
  unfold underB
  cases h1 : mayB (L s) with
  | false => exact Ev.neg (by simp) (Ev.val (by simp))
  | true =>
    refine Ev.pos rfl (Ev.bind (May_ev t ht) ?_)
    cases h2 : mayB (L t) with
    | false => exact Ev.neg (by simp) (Ev.val (by simp))
    | true =>
      refine Ev.pos rfl ?_
      rw [Bool.true_and, Bool.true_and, under_text h1 h2, toList_L, toList_L]
      by_cases h3 : L t = []
      · exact Ev.pos h3 (Ev.val (by simp [h3]))
      · refine Ev.neg h3 ?_
        by_cases h4 : L s = L t
        · exact Ev.pos h4 (Ev.val (by simp [h4]))
        · refine Ev.neg h4 ?_
          rw [decide_eq_false h3, decide_eq_false h4, Bool.false_or, Bool.false_or]
          have hss := size_L s
          have hst := size_L t
          by_cases h5 : (L t).length < (L s).length
          · refine Ev.pos (by omega) (Ev.pos (by omega) (Ev.pos (by omega) ?_))
            rw [toList_L, L_extract]
            simp only [Nat.sub_zero, List.drop_zero]
            rw [hst]
            by_cases h6 : (L s).take (L t).length = L t
            · refine Ev.pos h6 (Ev.pos (by omega) (Ev.val ?_))
              obtain ⟨b, hb, hbt⟩ := get_at (s := s) (i := (L t).length) (by omega)
              rw [hbt]
              have hdr : (L s).drop (L t).length = b :: (L s).drop ((L t).length + 1) := by
                rw [List.drop_eq_getElem_cons h5]
                rw [List.getElem?_eq_getElem h5] at hb
                rw [Option.some.inj hb]
              have hfull : L s = L t ++ b :: (L s).drop ((L t).length + 1) := by
                have := List.take_append_drop (L t).length (L s)
                rw [h6, hdr] at this
                exact this.symm
              congr 1
              rw [Bool.eq_iff_iff, beq_iff_eq, List.isPrefixOf_iff_prefix]
              constructor
              · intro e
                have : b = 47 := (byte_eq b 47).1 e
                subst this
                exact ⟨(L s).drop ((L t).length + 1), by rw [List.append_assoc]; exact hfull.symm⟩
              · rintro ⟨q, hq⟩
                rw [List.append_assoc] at hq
                rw [hfull] at hq
                have := List.append_cancel_left hq
                simp only [List.singleton_append, List.cons.injEq] at this
                rw [← this.1]; rfl
            · refine Ev.neg h6 (Ev.val ?_)
              congr 1
              symm
              rw [Bool.eq_false_iff]
              intro hp
              obtain ⟨q, hq⟩ := List.isPrefixOf_iff_prefix.1 hp
              apply h6
              rw [← hq, List.append_assoc, List.take_left]
          · refine Ev.neg (by omega) (Ev.val ?_)
            congr 1
            symm
            rw [Bool.eq_false_iff]
            intro hp
            have := (List.isPrefixOf_iff_prefix.1 hp).length_le
            simp at this
            omega

theorem Less_l0 (x y : List Bs) (hx : x.length ≤ 1000000) (hy : y.length ≤ 1000000) (d : Nat) : ∀ i : Nat, i + d = x.length → i ≤ y.length → Ev (fun k => steamerref1_Less.l0 k (x.map mkB) (y.map mkB) (i : Int)) (decide (cmpL (x.drop i) (y.drop i) < 0)) := by
  induction d with
  | zero =>
    intro i hi hy'
    refine Ev.step (fun _ => rfl) ?_
    simp only [steamerref1_Less.l0, List.length_map]
    refine Ev.neg (by omega) (Ev.step (fun _ => rfl) ?_)
    simp only [steamerref1_Less.j1, List.length_map]
    refine Ev.neg (by simp) (Ev.val ?_)
    rw [List.drop_of_length_le (show x.length ≤ i by omega)]
    by_cases hlt : x.length < y.length
    · rw [List.drop_eq_getElem_cons (show i < y.length by omega), cmpL]
      simp; omega
    · rw [List.drop_of_length_le (show y.length ≤ i by omega), cmpL]
      simp; omega
  | succ d ih =>
    intro i hi hy'
    have hlt : i < x.length := by omega
    refine Ev.step (fun _ => rfl) ?_
    simp only [steamerref1_Less.l0, List.length_map]
    refine Ev.pos (by omega) (Ev.step (fun _ => rfl) ?_)
    simp only [steamerref1_Less.j1, List.length_map]
    rw [List.drop_eq_getElem_cons hlt]
    by_cases hly : i < y.length
    · rw [List.drop_eq_getElem_cons hly, cmpL]
      refine Ev.pos (by simp; omega) (Ev.pos (by omega) (Ev.pos (by omega) (Ev.pos (by omega) ?_)))
      rw [rdOf_map x i hlt, rdOf_map y i hly]
      simp only [toList_L, L_mkB, List.getD_eq_getElem?_getD, List.getElem?_eq_getElem hlt, List.getElem?_eq_getElem hly, Option.getD_some]
      by_cases h0 : x[i] = y[i]
      · rw [if_pos (cmpB_zero.2 h0)]
        refine Ev.pos h0 ?_
        rw [w64 (by omega) (by omega)]
        exact ih (i + 1) (by omega) (by omega)
      · rw [if_neg (fun e => h0 (cmpB_zero.1 e))]
        refine Ev.neg h0 (Ev.val ?_)
        congr 1
        rw [Bool.eq_iff_iff, decide_eq_true_eq, cmpB_neg]
    · rw [List.drop_of_length_le (show y.length ≤ i by omega)]
      refine Ev.neg (by simp; omega) (Ev.val ?_)
      rw [cmpL]
      simp; omega

theorem Less_ev (s t : ByteArray) (hs : s.size < 2147483640) (ht : t.size < 2147483640) : Ev (fun k => steamerref1_Less.f k s t) (lessB (L s) (L t)) := by
  simp only [steamerref1_Less.f]
  refine Ev.bind (Parts_ev s hs) (Ev.bind (Parts_ev t ht) ?_)
  have h1 := (parts_ok (L s)).deep
  have h2 := (parts_ok (L t)).deep
  exact Less_l0 _ _ (by omega) (by omega) _ 0 (Nat.zero_add _) (Nat.zero_le _)
end Go.Proofs.YtncfadhcpmokiaaDoor.Refs
