/-
  Stores, into a variable, into a row. append. The small operations that are left. '==' of structs. Parts of a row of one's own: told apart, read, written, cleared. clear. What is handed over to a call, or back from one. Arguments, one by one, and all of them. What has been handed over is laid down in an activation.
-/
import Derived.Test.YteiefdnhngfojaaGreatDoorVmA
import Derived.Laws.StructEq
set_option linter.unusedVariables false
set_option linter.unusedSimpArgs false
namespace Go.Proofs.YteiefdnhngfojaaGreatDoor.Vm
open Go Go.RowKit

section
variable {R : Type} {P : Program} {w0 : World} {O : Env} {S0 : Nat → Prop} {r : R} {I : Info}
variable {w w' : World} {S S' : Nat → Prop} {m : Map} {st : St} {a : Act} {o : Oper} {κ : V → Eff → Option R}

theorem grown_setRow (w : World) (g : Nat) (cs : Array Value) : w.grownBy (w.setRow g cs) (some g) :=
  ⟨rfl, rfl, rfl, by simp, fun k _ hk => setRow_other w g k _ (fun e => hk (by rw [e]))⟩
theorem run_storeAt_any {t : TypeId} {g off : Nat} {v : Value} {cur : Array Value} {e : TypeId} (hh : w.heap[g]? = some (.cells cur e (0, 0))) (hfit : off + v.cells.size ≤ cur.size) (h1 : ∀ u ∈ v.cells.toList, u.oneCell' = true)
    {i : TypeInfo} (hi : P.info? t = some i) (hs : i.size = v.cells.size) :
    (Instr.storeAt t (.pointer (some ⟨g, off, none⟩)) v).run P w = .ok () (w.setRow g (cur.toList.take off ++ v.cells.toList ++ cur.toList.drop (off + v.cells.size)).toArray) := by
  have := run_storeCells_at P g off e v.cells.toList 0 cur w hh (by rw [Array.length_toList]; exact hfit) h1
  simp only [Nat.add_zero, Array.length_toList] at this
  simp [Instr.storeAt, Instr.sureAddr, storeVar, sizeOf, typeInfo, hi, hs, this]
theorem wp_unit {o : Oper} {a : Act} {next : Act → World → Prop} {Q : Exit → Act → World → Prop} (hr : (execOp a.eval o).run P w = .ok .skip w') (hn : next (a.put o.dst undef) w') : o.wp P a w next Q := by
  unfold Oper.wp
  rw [hr]
  exact hn

theorem applyE_setBox {st : St} {b : Nat} {q : Box} (hb : st.box b = some q) (d : Option Nat) (v : V) (cs : List C) : applyE st d v { sb := [(b, cs)] } = ({ st with box := upd st.box b { q with cs := cs } } : St).put d v := by
  have h1 : effBox { sb := [(b, cs)] } st.box = upd st.box b { q with cs := cs } := by
    funext k
    unfold effBox
    rw [upd_at]
    show (match st.box k with | some q => (match lk [(b, cs)] k with | some cs => some { q with cs := cs } | none => some q) | none => none) = _
    rw [lk_cons]
    by_cases e : b = k
    · subst e; rw [if_pos rfl, if_pos rfl, hb]
    · rw [if_neg e, if_neg e]
      show (match st.box k with | some q => some q | none => none) = _
      cases st.box k <;> rfl
  unfold applyE
  rw [h1, effRow_nil { sb := [(b, cs)] } rfl rfl rfl rfl]
  cases d <;> rfl
theorem applyE_setRow {st : St} {r : Nat} {q q' : Row} (hr : st.row r = some q) (hq : q'.fz = q.fz) (d : Option Nat) (v : V) (l : List Nat) (hl : r ∉ l) (hf : q.fz = false) :
    applyE st d v { sr := [(r, q')], fz := l } = ({ st with row := upd (freezeF l st.row) r q' } : St).put d v := by
  have h1 : effRow { sr := [(r, q')], fz := l } st.row = upd (freezeF l st.row) r q' := by
    funext k
    rw [effRow_def]
    rw [upd_at]
    show (match st.row k with | some q => (match lk [(r, q')] k with | some q' => some { q' with fz := q'.fz || hasN l k } | none => some { q with fz := q.fz || hasN l k }) | none => none) = _
    rw [lk_cons]
    by_cases e : r = k
    · subst e
      rw [if_pos rfl, if_pos rfl, hr]
      show some ({ q' with fz := q'.fz || hasN l r } : Row) = some q'
      rw [hasN_false.2 hl, row_or]
    · rw [if_neg e, if_neg e]
      rfl
  unfold applyE
  rw [h1, effBox_nil { sr := [(r, q')], fz := l } rfl rfl]
  cases d <;> rfl

theorem op_storeBox (hT : TyOk P I) (hi : Inv w0 O S0 S m st a.tmps w) (hd : ∀ k, o.dst = some k → k < st.nt ∧ st.lo ≤ k) {t : TypeId} {x y : Operand} (ho : o.op = .store t x y) {u : Ty} (hs : I.ty t = some u) (hl : (arg st y).val.length = u.size)
    {b j : Nat} (hx : arg st x = .c (.box b j)) {q : Box} (hb : st.box b = some q) (hfit : j + u.size ≤ q.cs.length)
    (h : κ .undef { sb := [(b, replaceAt q.cs j (arg st y).val)] } = some r) : OpGoal P w0 O S0 r o a w st κ := by
  refine ⟨_, _, h, fun he next Q hn => ?_⟩
  obtain ⟨i, z, hinf, hsz, _⟩ := base_info (chk_base (hT t u hs))
  have hvx : a.eval x = .pointer (some ⟨m.β b, j, none⟩) := by have := arg_rep (a := a) hi.1 rfl x; rw [hx] at this; exact this
  have hvy := RepV.val (arg_rep (a := a) hi.1 rfl y) (by rw [hl]; exact size_pos u)
  obtain ⟨h1, h2, arr, h3, h4⟩ := hi.1.boxes b q hb
  have hylen : (a.eval y).cells.size = u.size := by rw [← Array.length_toList, hvy.len, hl]
  have halen : arr.size = q.cs.length := by rw [← Array.length_toList, h4.len]
  have hrun := run_storeAt_any (P := P) (t := t) (off := j) (v := a.eval y) h3 (by rw [hylen, halen]; exact hfit) (RepCs.one hvy) hinf (by rw [hsz, hylen])
  refine wp_unit (w' := w.setRow (m.β b) (arr.toList.take j ++ (a.eval y).cells.toList ++ arr.toList.drop (j + (a.eval y).cells.size)).toArray) ?_ (hn _ S m _ ?_)
  · unfold execOp
    simp only [ho, hvx]
    rw [Sem.run_bind, hrun]; rfl
  · have hw := hi.1.writeBox hb (grown_setRow w (m.β b) _) (setRow_heap w (m.β b) arr (arr.toList.take j ++ (a.eval y).cells.toList ++ arr.toList.drop (j + (a.eval y).cells.size)).toArray q.ty (0, 0) h3) (cs := replaceAt q.cs j (arg st y).val) (by
      unfold replaceAt
      rw [hl, hylen]
      simpa using ((h4.take j).append hvy).append (h4.drop (j + u.size)))
    rw [applyE_setBox hb]
    exact hw.putA hd rfl

theorem unpack_rows : ∀ (t : Ty) (x : t.T), rowsIn (unpack t x) = []
  | .int _, _ => rfl
  | .bool, _ => rfl
  | .str, _ => rfl
  | .cx, _ => rfl
  | .flt, _ => rfl
  | .list _ _, _ => rfl
  | .pair a b, x => by rw [unpack, rowsIn_append, unpack_rows a, unpack_rows b]; rfl
  | .struct t, x => unpack_rows t x
  | .fn, _ => rfl
  | .fns _, _ => rfl
  | .ptr _, _ => rfl
  | .own _ _, _ => rfl
  | .io _ _, _ => rfl
  | .ref _ _, _ => rfl
theorem rowsIn_take (cs : List C) (n : Nat) : ∀ r ∈ rowsIn (cs.take n), r ∈ rowsIn cs := fun r h => by
  have := rowsIn_append (cs.take n) (cs.drop n)
  rw [List.take_append_drop] at this
  rw [this, List.mem_append]; exact .inl h
theorem rowsIn_drop (cs : List C) (n : Nat) : ∀ r ∈ rowsIn (cs.drop n), r ∈ rowsIn cs := fun r h => by
  have := rowsIn_append (cs.take n) (cs.drop n)
  rw [List.take_append_drop] at this
  rw [this, List.mem_append]; exact .inr h

/-- An element's cells are turned: the row's cells. -/
theorem flat_len {α : Type} {k : Nat} : ∀ (l : List (List α)), (∀ c ∈ l, c.length = k) → l.flatten.length = l.length * k
  | [], _ => by simp
  | c :: l, h => by rw [List.flatten_cons, List.length_append, flat_len l (fun c hc => h c (List.mem_cons_of_mem _ hc)), h c (by simp), List.length_cons, Nat.succ_mul, Nat.add_comm]
theorem flat_set {α : Type} (k : Nat) : ∀ (l : List (List α)) (i j : Nat) (vs : List α), (∀ c ∈ l, c.length = k) → (h : i < l.length) → j + vs.length ≤ k →
    (l.set i (l[i].take j ++ vs ++ l[i].drop (j + vs.length))).flatten = l.flatten.take (i * k + j) ++ vs ++ l.flatten.drop (i * k + j + vs.length)
  | [], i, _, _, _, h, _ => absurd h (by simp)
  | c :: l, 0, j, vs, hl, _, hj => by
    have hc := hl c (by simp)
    rw [List.set_cons_zero, List.flatten_cons, List.flatten_cons, Nat.zero_mul, Nat.zero_add, List.take_append_of_le_length (by omega), List.drop_append_of_le_length (by omega)]
    simp [List.append_assoc]
  | c :: l, i + 1, j, vs, hl, h, hj => by
    have hc := hl c (by simp)
    have ih := flat_set k l i j vs (fun c hc => hl c (List.mem_cons_of_mem _ hc)) (by simpa using h) hj
    have e1 : c.take ((i + 1) * k + j) = c := List.take_of_length_le (by rw [hc, Nat.succ_mul]; omega)
    have e2 : c.drop ((i + 1) * k + j + vs.length) = [] := List.drop_of_length_le (by rw [hc, Nat.succ_mul]; omega)
    rw [List.set_cons_succ, List.flatten_cons, List.flatten_cons, List.getElem_cons_succ, ih, List.take_append, List.drop_append, hc, e1, e2,
      show (i + 1) * k + j - k = i * k + j by rw [Nat.succ_mul]; omega, show (i + 1) * k + j + vs.length - k = i * k + j + vs.length by rw [Nat.succ_mul]; omega]
    simp [List.append_assoc]

theorem op_storeRow (hT : TyOk P I) (hi : Inv w0 O S0 S m st a.tmps w) (hd : ∀ k, o.dst = some k → k < st.nt ∧ st.lo ≤ k) {t : TypeId} {x y : Operand} (ho : o.op = .store t x y) {u : Ty} (hs : I.ty t = some u) (hl : (arg st y).val.length = u.size)
    {rr i j : Nat} (hx : arg st x = .c (.rel rr i j)) {q : Row} (hr : st.row rr = some q) (hf : q.fz = false) (hown : rr ∉ rowsIn (arg st y).val) (hlt : i < q.xs.length) (hj : j + u.size ≤ q.t.size) {z : q.t.T}
    (hp : packAll st.row q.t (replaceAt (unpack q.t (q.xs.getD i q.t.z)) j (arg st y).val) = some z)
    (h : κ .undef { sr := [(rr, { q with xs := q.xs.set i z })], fz := rowsIn (arg st y).val } = some r) : OpGoal P w0 O S0 r o a w st κ := by
  refine ⟨_, _, h, fun he next Q hn => ?_⟩
  obtain ⟨inf, _, hinf, hsz, _⟩ := base_info (chk_base (hT t u hs))
  obtain ⟨S', hSS, hS2, hS3, hi2⟩ := hi.1.freezeRows (rowsIn (arg st y).val)
  have hvy := RepV.val (arg_rep (a := a) hi.1 rfl y) (by rw [hl]; exact size_pos u)
  have hylen : (a.eval y).cells.size = u.size := by rw [← Array.length_toList, hvy.len, hl]
  have hvx := arg_rep (a := a) hi.1 rfl x
  rw [hx] at hvx
  obtain ⟨g, hg, hvx⟩ := hvx
  obtain ⟨h1, h2, h3⟩ := hi.1.rows rr q hr
  rw [h2] at hvx
  obtain ⟨inner, hil, ho', hin, hrep⟩ := h1
  have hii : i < inner.length := by omega
  rcases ho'.2 with ⟨_, hz0⟩ | ⟨g', cap, cur, hv, _, hh, hnc, hcm, hcs, htk⟩
  · omega
  · have : g' = g := by rw [hv] at hg; exact Option.some.inj hg
    subst this
    have hflen := flat_len inner hin
    have hcurlen : cur.toList.length = cap * q.t.size := by rw [Array.length_toList, hcs]
    have hbig : i * q.t.size + q.t.size ≤ q.xs.length * q.t.size := by rw [← Nat.succ_mul]; exact Nat.mul_le_mul_right _ hlt
    have hbig2 : q.xs.length * q.t.size ≤ cap * q.t.size := Nat.mul_le_mul_right _ hnc
    have hrun := run_storeAt_any (P := P) (t := t) (off := i * q.t.size + j) (v := a.eval y) hh (by rw [hylen, hcs]; omega) (RepCs.one hvy) hinf (by rw [hsz, hylen])
    refine wp_unit (w' := w.setRow g' (cur.toList.take (i * q.t.size + j) ++ (a.eval y).cells.toList ++ cur.toList.drop (i * q.t.size + j + (a.eval y).cells.size)).toArray) ?_ (hn _ S' m _ ?_)
    · unfold execOp
      simp only [ho, hvx]
      rw [Sem.run_bind, hrun]; rfl
    · have hxi : q.xs.getD i q.t.z = q.xs[i] := by simp [List.getD_eq_getElem?_getD, List.getElem?_eq_getElem hlt]
      have hri := hrep i hlt inner[i] (List.getElem?_eq_getElem hii)
      have hci := hin inner[i] (List.getElem_mem hii)
      -- the element's new cells
      have hnew : RepCs w S m (replaceAt (unpack q.t (q.xs.getD i q.t.z)) j (arg st y).val) (inner[i].take j ++ (a.eval y).cells.toList ++ inner[i].drop (j + (a.eval y).cells.toList.length)) := by
        unfold replaceAt
        have hu := unpack_rep (m := m) q.t q.xs[i] inner[i] hri
        rw [hxi, hl, Array.length_toList, hylen]
        exact ((hu.take j).append hvy).append (hu.drop (j + u.size))
      have hstays : Stays w S S' m st.row (rowsIn (replaceAt (unpack q.t (q.xs.getD i q.t.z)) j (arg st y).val)) := by
        refine (hi.1.stays (a := a) hS3).sub (fun r' hr' => ?_)
        unfold replaceAt at hr'
        rw [rowsIn_append, rowsIn_append, List.mem_append, List.mem_append] at hr'
        rcases hr' with (hr' | hr') | hr'
        · have := rowsIn_take _ _ r' hr'; rw [unpack_rows] at this; exact absurd this (by simp)
        · exact hr'
        · have := rowsIn_drop _ _ r' hr'; rw [unpack_rows] at this; exact absurd this (by simp)
      have hz := packAll_rep hSS hstays hp hnew
      have hfS := hi2.rows rr { q with fz := q.fz || hasN (rowsIn (arg st y).val) rr } (by show freezeF _ st.row rr = _; unfold freezeF; rw [hr])
      have hfz : (q.fz || hasN (rowsIn (arg st y).val) rr) = false := by rw [hf, hasN_false.2 hown]; rfl
      have nS : ¬ S' g' := ((hfS.2.2 g' hg).2.2) hfz
      have hgrow := grown_setRow w g' (cur.toList.take (i * q.t.size + j) ++ (a.eval y).cells.toList ++ cur.toList.drop (i * q.t.size + j + (a.eval y).cells.size)).toArray
      have hS : ∀ b, S' b → (w.setRow g' (cur.toList.take (i * q.t.size + j) ++ (a.eval y).cells.toList ++ cur.toList.drop (i * q.t.size + j + (a.eval y).cells.size)).toArray).heap[b]? = w.heap[b]? := fun b hb =>
        setRow_other w g' b _ (fun e => nS (e ▸ hb))
      have hrow : RowAt (w.setRow g' (cur.toList.take (i * q.t.size + j) ++ (a.eval y).cells.toList ++ cur.toList.drop (i * q.t.size + j + (a.eval y).cells.size)).toArray) S' { q with xs := q.xs.set i z } (m.ρ rr) := by
        refine ⟨inner.set i (inner[i].take j ++ (a.eval y).cells.toList ++ inner[i].drop (j + (a.eval y).cells.toList.length)), by simp [hil], ?_, fun cs hcs => ?_, fun k hk cs hcs => ?_⟩
        · have hvl : (a.eval y).cells.toList.length = u.size := by rw [Array.length_toList, hylen]
          rw [flat_set q.t.size inner i j _ hin hii (by rw [hvl]; exact hj)]
          refine ⟨?_, .inr ⟨g', cap, _, by rw [hv]; simp, Nat.zero_le _, setRow_heap w g' cur _ q.e (0, 0) hh, by simpa using hnc, hcm, ?_, ?_⟩⟩
          · have hxl : ({ q with xs := q.xs.set i z } : Row).xs.length = q.xs.length := List.length_set
            show _ = (q.xs.set i z).length * _
            rw [List.length_set, List.length_append, List.length_append, List.length_take, List.length_drop, hflen, hil, hvl]
            have h5 : i * q.t.size + q.t.size ≤ q.xs.length * q.t.size := hbig
            generalize q.xs.length * q.t.size = A at h5 ⊢
            generalize i * q.t.size = B at h5 ⊢
            omega
          · simp only [List.size_toArray, List.length_append, List.length_take, List.length_drop, hcurlen, hvl]
            omega
          · show List.take ((q.xs.set i z).length * q.t.size) _ = _
            rw [List.length_set]
            have hfl : inner.flatten = cur.toList.take (q.xs.length * q.t.size) := htk.symm
            rw [hfl, hvl, hylen]
            have hA : (cur.toList.take (i * q.t.size + j)).length = i * q.t.size + j := by rw [List.length_take, hcurlen]; omega
            have e1 : (cur.toList.take (q.xs.length * q.t.size)).take (i * q.t.size + j) = cur.toList.take (i * q.t.size + j) := by rw [List.take_take]; congr 1; omega
            have e2 : (cur.toList.take (q.xs.length * q.t.size)).drop (i * q.t.size + j + u.size) = (cur.toList.drop (i * q.t.size + j + u.size)).take (q.xs.length * q.t.size - (i * q.t.size + j + u.size)) := by rw [List.drop_take]
            rw [e1, e2, List.take_append, List.length_append, hA, hvl, List.take_of_length_le (by rw [List.length_append, hA, hvl]; omega)]
        · have hvl : (a.eval y).cells.toList.length = u.size := by rw [Array.length_toList, hylen]
          rcases List.mem_or_eq_of_mem_set hcs with hcs | rfl
          · exact hin cs hcs
          · rw [List.length_append, List.length_append, List.length_take, List.length_drop, hci, hvl]
            show _ = q.t.size
            omega
        · rw [List.getElem?_set] at hcs
          have hk' : k < q.xs.length := by simpa using hk
          refine Rep.mono hS (fun _ x => x) _ _ _ ?_
          by_cases e : i = k
          · subst e
            rw [if_pos rfl, if_pos hii] at hcs
            obtain rfl := Option.some.inj hcs
            have : (q.xs.set i z)[i]'(by simpa using hk') = z := List.getElem_set_self ..
            show Rep w S' q.t ((q.xs.set i z)[i]'(by simpa using hk')) _
            rw [this]; exact hz
          · rw [if_neg e] at hcs
            have : (q.xs.set i z)[k]'(by simpa using hk') = q.xs[k] := List.getElem_set_ne e ..
            show Rep w S' q.t ((q.xs.set i z)[k]'(by simpa using hk')) _
            rw [this]; exact Rep.mono (fun _ _ => rfl) hSS _ _ _ (hrep k hk' cs hcs)
      have hw := hi2.writeRow (r := rr) (q := { q with fz := q.fz || hasN (rowsIn (arg st y).val) rr }) (q' := { q with xs := q.xs.set i z }) (by show freezeF _ st.row rr = _; unfold freezeF; rw [hr]) hfz hf rfl hg hgrow hrow
      rw [applyE_setRow (q' := { q with xs := q.xs.set i z }) hr rfl _ _ _ hown hf]
      exact hw.putA hd rfl
end

end Go.Proofs.YteiefdnhngfojaaGreatDoor.Vm
set_option linter.unusedVariables false
set_option linter.unusedSimpArgs false
namespace Go.Proofs.YteiefdnhngfojaaGreatDoor.Vm
open Go Go.RowKit

theorem list_choose {α : Type} (Q : Nat → α → Prop) : ∀ n, (∀ i, i < n → ∃ x, Q i x) → ∃ l : List α, l.length = n ∧ ∀ i x, l[i]? = some x → Q i x
  | 0, _ => ⟨[], rfl, fun i x h => absurd h (by simp)⟩
  | n + 1, h => by
    obtain ⟨l, hl, hq⟩ := list_choose Q n (fun i hi => h i (by omega))
    obtain ⟨x, hx⟩ := h n (Nat.lt_succ_self n)
    refine ⟨l ++ [x], by simp [hl], fun i y hy => ?_⟩
    rcases Nat.lt_trichotomy i n with hi | hi | hi
    · rw [List.getElem?_append_left (by omega)] at hy; exact hq i y hy
    · subst hi
      rw [List.getElem?_append_right (by omega), hl, Nat.sub_self] at hy
      obtain rfl : x = y := Option.some.inj hy
      exact hx
    · rw [List.getElem?_eq_none (by simp; omega)] at hy; exact absurd hy (by simp)
theorem flat_get {α : Type} {k : Nat} (hk : 0 < k) : ∀ (l : List (List α)), (∀ c ∈ l, c.length = k) → ∀ j u, l.flatten[j]? = some u → ∃ c, l[j / k]? = some c ∧ c[j % k]? = some u
  | [], _, j, u, h => absurd h (by simp)
  | c :: l, hl, j, u, h => by
    have hc := hl c (by simp)
    rw [List.flatten_cons] at h
    by_cases hj : j < k
    · rw [List.getElem?_append_left (by omega)] at h
      exact ⟨c, by rw [Nat.div_eq_of_lt hj]; rfl, by rw [Nat.mod_eq_of_lt hj]; exact h⟩
    · rw [List.getElem?_append_right (by omega), hc] at h
      obtain ⟨c', h1, h2⟩ := flat_get hk l (fun c hc => hl c (List.mem_cons_of_mem _ hc)) (j - k) u h
      have e1 : j / k = (j - k) / k + 1 := by
        conv => lhs; rw [show j = (j - k) + k by omega]
        exact Nat.add_div_right _ hk
      have e2 : j % k = (j - k) % k := by
        conv => lhs; rw [show j = (j - k) + k by omega]
        exact Nat.add_mod_right _ _
      exact ⟨c', by rw [e1]; exact h1, by rw [e2]; exact h2⟩

section
variable {R : Type} {P : Program} {w0 : World} {O : Env} {S0 : Nat → Prop} {r : R} {I : Info}
variable {w w' : World} {S S' : Nat → Prop} {m : Map} {st : St} {a : Act} {o : Oper} {κ : V → Eff → Option R}

/-- A slice's elements, cell behind cell. -/
def Contig {α : Type} (w : World) (sz : Nat) (rep : α → List Value → Prop) (v : Value) (xs : List α) : Prop :=
  ∃ ad c inner, v = .slice ad xs.length c ∧ inner.length = xs.length ∧ (∀ cs ∈ inner, cs.length = sz) ∧ (∀ i (h : i < xs.length) cs, inner[i]? = some cs → rep xs[i] cs) ∧ (ad = none → xs = []) ∧
    ∀ A, ad = some A → ∀ j u, (List.flatten inner)[j]? = some u → w.cell? (A.add j) = some u
theorem repL_contig {α : Type} {sz : Nat} {rep : α → List Value → Prop} {v : Value} {xs : List α} (hsz : 0 < sz) (h : RepL w S sz rep v xs) : Contig w sz rep v xs := by
  obtain ⟨ad, c, e, hlc, hel⟩ := h
  obtain ⟨inner, hl, hq⟩ := list_choose (fun i cs => ∃ (h : i < xs.length), ∃ b o, ad = some ⟨b, o, none⟩ ∧ cs.length = sz ∧ rep xs[i] cs ∧ CellsAt w b (o + i * sz) cs) xs.length (fun i hi => by
    obtain ⟨b, o, cs, h1, _, h2, h3, h4⟩ := hel i hi
    exact ⟨cs, hi, b, o, h1, h2, h3, h4⟩)
  have hin : ∀ cs ∈ inner, cs.length = sz := fun cs hcs => by
    obtain ⟨i, hi, rfl⟩ := List.mem_iff_getElem.1 hcs
    obtain ⟨_, _, _, _, h2, _⟩ := hq i _ (List.getElem?_eq_getElem hi)
    exact h2
  refine ⟨ad, c, inner, e, hl, hin, fun i hi cs hcs => ?_, fun hn => ?_, fun A hA j u hu => ?_⟩
  · obtain ⟨_, _, _, _, _, h3, _⟩ := hq i cs hcs
    exact h3
  · cases xs with
    | nil => rfl
    | cons x xs =>
      obtain ⟨b, o, cs, h1, _⟩ := hel 0 (by simp)
      rw [hn] at h1; exact absurd h1 (by simp)
  · obtain ⟨cs, h1, h2⟩ := flat_get hsz inner hin j u hu
    obtain ⟨_, b, o, h3, _, _, h4⟩ := hq _ cs h1
    rw [hA] at h3
    obtain rfl := Option.some.inj h3
    rw [Addr.add_mid]
    have := h4 _ u h2
    rwa [Nat.add_assoc, Nat.mul_comm, Nat.div_add_mod] at this
theorem rowAt_contig {q : Row} {v : Value} (h : RowAt w S q v) : Contig w q.t.size (Rep w S q.t) v q.xs := by
  obtain ⟨inner, hl, ho, hn, hr⟩ := h
  rcases ho.2 with ⟨e, hz⟩ | ⟨g, cap, cur, e, _⟩
  · exact ⟨none, 0, inner, by rw [e, hz], hl, hn, hr, fun _ => List.eq_nil_of_length_eq_zero hz, fun A hA => absurd hA (by simp)⟩
  · exact ⟨some ⟨g, 0, none⟩, cap, inner, e, hl, hn, hr, fun hA => absurd hA (by simp), fun A hA j u hu => by
      obtain rfl := Option.some.inj hA
      exact ho.cells (g := g) (by rw [e]; rfl) j u hu⟩
theorem sliceOf_contig (hi : InvM w0 O S0 S m st a.tmps w) {e : TypeId} {t : Ty} {x : Operand} {xs : List t.T} (h : sliceOf st e t (arg st x) = some xs) : Contig w t.size (Rep w S t) (a.eval x) xs := by
  have hv := arg_rep (a := a) hi rfl x
  cases hax : arg st x with
  | c c =>
    rw [hax] at h hv
    cases c with
    | lst e' t' ys =>
      have := asList_lst (rows := st.row) (show asList st.row e t (.lst e' t' ys) = some xs from h)
      rw [this] at hv
      exact repL_contig (size_pos t) hv
    | row q =>
      obtain ⟨fz, hq⟩ := asList_row (show asList st.row e t (.row q) = some xs from h)
      rw [show a.eval x = m.ρ q from hv]
      exact rowAt_contig (hi.rows q _ hq).1
    | sub q l k =>
      obtain ⟨ys, fz, hq, hlk, hk, rfl⟩ := asList_sub (show asList st.row e t (.sub q l k) = some xs from h)
      obtain ⟨hr1, hr2, _⟩ := hi.rows q _ hq
      obtain ⟨ad, n, c, ad', e1, e2, e3⟩ := hv
      have hrep := rowAt_repL' (S' := fun _ => True) hr1 (fun _ _ => trivial)
      rw [e1] at hrep
      rw [e2]
      exact repL_contig (size_pos t) (repL_part hrep hlk hk (fun hl => by rw [e3 (.inl hl), hr2])).2.2
    | nil =>
      obtain rfl : ([] : List t.T) = xs := Option.some.inj h
      rw [show a.eval x = _ from hv]
      exact ⟨none, 0, [], rfl, rfl, fun cs h => absurd h (by simp), fun i h => absurd h (by simp), fun _ => rfl, fun A hA => absurd hA (by simp)⟩
    | _ => exact absurd h (by simp [sliceOf, asList])
  | _ => rw [hax] at h; exact absurd h (by simp [sliceOf])

theorem run_append_none {t ty e : TypeId} {i : TypeInfo} {size : Nat} (ht : P.underlying t = some (.slice e)) (hi : P.info? e = some i) {v : Value} {n c : Nat} {xs : List Value} (hown : w.ownsRow 0 e size v n xs) :
    (Builtin.append_ #[t, t] ty #[v, .slice none 0 c]).run P w = .ok v w := by
  rcases hown.2 with ⟨rfl, rfl⟩ | ⟨g, cap, cur, rfl, _, _, hnc, _⟩
  · simp [Builtin.append_, run_underlying ht, sizeOf, typeInfo, hi, Builtin.lenOf, Builtin.firstCells]
  · simp [Builtin.append_, run_underlying ht, sizeOf, typeInfo, hi, Builtin.lenOf, Builtin.firstCells, hnc, storeCells]

/-- append, as the machine does it: the new row lies where the old one lay, or in a new block. -/
theorem run_append_coded (hT : TyOk P I) {t ty : TypeId} {e : TypeId} {u : Ty} (hs : I.ty t = some (.list e u)) (hby0 : 0 < I.by_ e) {q : Row} (hqe : q.e = e) (hqt : q.t = u) {v0 : Value} (hrow : RowAt w S q v0) {vx : Value} {ys : List q.t.T}
    (hx : Contig w q.t.size (Rep w S q.t) vx ys) (hS : ∀ g, v0.ownBlock = some g → ¬ S g) (hSlt : ∀ b, S b → b < w.heap.size) (hb : (q.xs.length + ys.length) * I.by_ e ≤ 140737488355328) :
    ∃ v' w', (Builtin.append_ #[t, t] ty #[v0, vx]).run P w = .ok v' w' ∧ w.grownBy w' v0.ownBlock ∧ (v'.ownBlock = v0.ownBlock ∨ v'.ownBlock = some w.heap.size) ∧ RowAt w' S { q with xs := q.xs ++ ys } v' := by
  subst hqt
  subst hqe
  obtain ⟨hu, hc, _⟩ := chk_list (hT t _ hs)
  obtain ⟨i, z, hinf, hisz, hby, hzz, hzo⟩ := base_info (chk_base hc)
  obtain ⟨inner, hl, ho, hn, hr⟩ := hrow
  obtain ⟨ad, c, inner2, evx, hl2, hn2, hr2, hnil, hcell⟩ := hx
  have hzsz : z.cells.size = q.t.size := by
    have m0 : Map := ⟨fun _ => .slice none 0 0, fun _ => 0, fun _ => 0, fun _ => ⟨rfl, rfl⟩⟩
    obtain ⟨pre, e1, h1⟩ := zero_rep (w := w) (S := fun _ => False) (m := m0) q.t _ _ hzo
    rw [List.append_nil] at e1
    have h2 := h1.len
    rw [← e1, Array.length_toList] at h2
    rw [h2]; exact zero_run.zero_len q.t
  have hsz := size_pos q.t
  have hmul : q.xs.length + ys.length ≤ (q.xs.length + ys.length) * I.by_ q.e := Nat.le_mul_of_pos_right _ hby0
  have key : ∃ v' w', (Builtin.append_ #[t, t] ty #[v0, vx]).run P w = .ok v' w' ∧ w'.ownsRow 0 q.e q.t.size v' (q.xs.length + ys.length) (inner.flatten ++ inner2.flatten) ∧ w.grownBy w' v0.ownBlock ∧ (v'.ownBlock = v0.ownBlock ∨ v'.ownBlock = some w.heap.size) := by
    rw [evx]
    cases ad with
    | none =>
      have hy := hnil rfl
      subst hy
      have hi2 : inner2 = [] := List.eq_nil_of_length_eq_zero hl2
      refine ⟨v0, w, run_append_none hu hinf ho, ?_, ⟨rfl, rfl, rfl, Nat.le_refl _, fun _ _ _ => rfl⟩, .inl rfl⟩
      rw [hi2]
      simpa using ho
    | some A =>
      have hone : ∀ u ∈ inner2.flatten, u.oneCell' = true := fun u hu => by
        obtain ⟨cs, hcs, hu⟩ := List.mem_flatten.1 hu
        obtain ⟨k, hk, rfl⟩ := List.mem_iff_getElem.1 hcs
        exact Rep.one _ _ _ (hr2 k (by omega) _ (List.getElem?_eq_getElem hk)) u hu
      obtain ⟨v', w', h1, h2, h3, _, h4⟩ := run_append_own_at (P := P) w 0 t ty q.e i z q.t.size (I.by_ q.e) hu hinf hzz hisz hby hzsz hsz v0 q.xs.length inner.flatten ho A ys.length c inner2.flatten
        (by rw [flat_len inner2 hn2, hl2]) (hcell A rfl) hone (by simp only [maxLen]; omega) hb (Nat.zero_le _)
      exact ⟨v', w', h1, h2, h3, h4⟩
  obtain ⟨v', w', h1, h2, h3, h4⟩ := key
  have hSw : ∀ b, S b → w'.heap[b]? = w.heap[b]? := fun b hb => h3.block b (hSlt b hb) (fun e => hS b e.symm hb)
  refine ⟨v', w', h1, h3, h4, inner ++ inner2, by simp [hl, hl2], ?_, fun cs hcs => ?_, fun k hk cs hcs => Rep.mono hSw (fun _ x => x) _ _ _ ?_⟩
  · show w'.ownsRow 0 q.e q.t.size v' (q.xs ++ ys).length _
    rw [List.length_append, List.flatten_append]; exact h2
  · rcases List.mem_append.1 hcs with hcs | hcs
    · exact hn cs hcs
    · exact hn2 cs hcs
  · show Rep w S q.t ((q.xs ++ ys)[k]'hk) cs
    have hk' : k < q.xs.length + ys.length := by simpa using hk
    by_cases hlt : k < q.xs.length
    · rw [List.getElem?_append_left (by omega)] at hcs
      rw [List.getElem_append_left hlt]
      exact hr k hlt cs hcs
    · rw [List.getElem?_append_right (by omega), hl] at hcs
      rw [List.getElem_append_right (by omega)]
      exact hr2 (k - q.xs.length) (by omega) cs hcs

theorem freezeF_nil (f : Nat → Option Row) : freezeF [] f = f := by
  funext k
  unfold freezeF
  cases f k with
  | none => rfl
  | some q => exact congrArg some (row_or q)
theorem exec_append {s x : Operand} {ts : Array TypeId} (ho : o.op = .call { callee := .builtin .append, args := #[s, x], argTypes := ts }) {v' : Value} (h : (Builtin.append_ ts o.type #[a.eval s, a.eval x]).run P w = .ok v' w') :
    (execOp a.eval o).run P w = .ok (.value v') w' := by
  unfold execOp
  simp only [ho, resolve, invoke, builtin, Sem.run_bind, Sem.run_pure, Result.andThen_ok, List.map_toArray, List.map_cons, List.map_nil, h]

theorem op_append_nil (hT : TyOk P I) (hi : Inv w0 O S0 S m st a.tmps w) (hd : ∀ k, o.dst = some k → k < st.nt ∧ st.lo ≤ k) {t : TypeId} {s x : Operand} (ho : o.op = .call { callee := .builtin .append, args := #[s, x], argTypes := #[t, t] }) {e : TypeId} {u : Ty} (hs : I.ty t = some (.list e u))
    (hby0 : 0 < I.by_ e) (hsx : arg st s = .c .nil) {ys : List u.T} (hx : sliceOf st e u (arg st x) = some ys) (hb : ys.length * I.by_ e ≤ 140737488355328) {id : Nat} (h : κ (.c (.row id)) { nr := [(id, ⟨e, u, ys, false⟩)] } = some r) : OpGoal P w0 O S0 r o a w st κ := by
  refine ⟨_, _, h, fun he next Q hn => ?_⟩
  have hid : st.used id = false := he.new id (by simp [newIds, keys])
  have hv : a.eval s = .slice none 0 0 := by have := arg_rep (a := a) hi.1 rfl s; rw [hsx] at this; exact this
  obtain ⟨v', w', h1, h2, h3, h4⟩ := run_append_coded (ty := o.type) hT hs hby0 (q := ⟨e, u, [], false⟩) rfl rfl (rowAt_nil (w := w) (S := S) e u false) (ys := ys) (sliceOf_contig hi.1 hx) (fun g hg => absurd hg (by simp [Value.ownBlock])) hi.1.S_lt (by simpa using hb)
  refine wp_value (exec_append ho (by rw [hv]; exact h1)) (hn _ S (m.setRow id v' u.size h4.one) _ ?_)
  have hbel : Below w.heap.size w w' := ⟨h2.os, h2.tape, h2.output, h2.size, fun k hk => h2.block k hk (by simp [Value.ownBlock])⟩
  have hg := hi.1.grow hbel
  have hnew : ∀ g, v'.ownBlock = some g → g = w.heap.size := fun g hg' => by
    rcases h3 with h3 | h3
    · rw [h3] at hg'; exact absurd hg' (by simp [Value.ownBlock])
    · rw [h3] at hg'; exact (Option.some.inj hg').symm
  have nS : ¬ S w.heap.size := fun hs => Nat.lt_irrefl _ (hi.1.S_lt _ hs)
  have hadd := hg.addRow hi.2 hid ⟨e, u, ys, false⟩ v' h4 (fun g hg' => by rw [hnew g hg']; exact ⟨.inr hi.1.keep.size, fun h => absurd h (by simp), fun _ => nS⟩)
    (fun b q' hb e' => by have := hnew _ e'; exact Nat.lt_irrefl _ (this ▸ hi.1.box_lt hb)) (fun r' q' g hr' hg' e' => by rw [hnew g hg'] at e'; exact Nat.lt_irrefl _ (hi.1.row_lt hr' e'))
  rw [applyE_addRow]
  refine hadd.putA hd ?_
  show _ = (m.setRow id v' u.size h4.one).ρ id
  simp [Map.setRow]

theorem op_append_row (hT : TyOk P I) (hi : Inv w0 O S0 S m st a.tmps w) (hd : ∀ k, o.dst = some k → k < st.nt ∧ st.lo ≤ k) {t : TypeId} {s x : Operand} (ho : o.op = .call { callee := .builtin .append, args := #[s, x], argTypes := #[t, t] }) {e : TypeId} {u : Ty} (hs : I.ty t = some (.list e u))
    (hby0 : 0 < I.by_ e) {rr : Nat} (hsx : arg st s = .c (.row rr)) {q : Row} (hq : st.row rr = some q) (hf : q.fz = false) {xs ys : List u.T} (hxs : asList st.row e u (.row rr) = some xs) (hx : sliceOf st e u (arg st x) = some ys) (hb : (xs.length + ys.length) * I.by_ e ≤ 140737488355328) {id : Nat}
    (h : κ (.c (.row id)) { nr := [(id, ⟨e, u, xs ++ ys, false⟩)], rm := [rr] } = some r) : OpGoal P w0 O S0 r o a w st κ := by
  refine ⟨_, _, h, fun he next Q hn => ?_⟩
  have hid : st.used id = false := he.new id (by simp [newIds, keys])
  have hv : a.eval s = m.ρ rr := by have := arg_rep (a := a) hi.1 rfl s; rw [hsx] at this; exact this
  obtain ⟨fz, hq'⟩ := asList_row hxs
  rw [hq] at hq'
  obtain rfl := Option.some.inj hq'
  obtain ⟨hr1, hr2, hr3⟩ := hi.1.rows rr _ hq
  obtain ⟨v', w', h1, h2, h3, h4⟩ := run_append_coded (ty := o.type) hT hs hby0 (q := ⟨e, u, xs, fz⟩) rfl rfl hr1 (ys := ys) (sliceOf_contig hi.1 hx) (fun g hg => (hr3 g hg).2.2 hf) hi.1.S_lt hb
  obtain rfl : fz = false := hf
  refine wp_value (exec_append ho (by rw [hv]; exact h1)) (hn _ S (m.setRow id v' u.size h4.one) _ ?_)
  have hdrop := hi.1.dropRows [rr]
  have hcl := hi.2.dropRows [rr]
  have gone : ∀ r' q', ({ st with row := dropF [rr] st.row } : St).row r' = some q' → st.row r' = some q' ∧ r' ≠ rr := fun r' q' hr' => by
    obtain ⟨g1, g2⟩ := dropF_some hr'
    exact ⟨g1, fun e => g2 (by simp [e])⟩
  have hmv : InvM w0 O S0 S m { st with row := dropF [rr] st.row } a.tmps w' := by
    cases hob : (m.ρ rr).ownBlock with
    | none =>
      rw [hob] at h2
      exact hdrop.grow ⟨h2.os, h2.tape, h2.output, h2.size, fun k hk => h2.block k hk (by simp)⟩
    | some g =>
      rw [hob] at h2
      exact hdrop.other (hr3 g hob).1 ((hr3 g hob).2.2 rfl) (fun b q' hb e' => hi.1.br b q' rr _ hb hq (by rw [hob, ← e'])) (fun r' q' hr' e' => by
        obtain ⟨g1, g2⟩ := gone r' q' hr'
        exact g2 (hi.1.rr rr _ r' q' g hq g1 rfl hob e').symm) h2
  have hnew : ∀ g, v'.ownBlock = some g → (m.ρ rr).ownBlock = some g ∨ g = w.heap.size := fun g hg' => by
    rcases h3 with h3 | h3
    · rw [h3] at hg'; exact .inl hg'
    · rw [h3] at hg'; exact .inr (Option.some.inj hg').symm
  have nS : ¬ S w.heap.size := fun hs => Nat.lt_irrefl _ (hi.1.S_lt _ hs)
  have hadd := hmv.addRow hcl hid ⟨e, u, xs ++ ys, false⟩ v' h4
    (fun g hg' => by
      rcases hnew g hg' with h5 | rfl
      · exact ⟨(hr3 g h5).1, fun h => absurd h (by simp), fun _ => (hr3 g h5).2.2 rfl⟩
      · exact ⟨.inr hi.1.keep.size, fun h => absurd h (by simp), fun _ => nS⟩)
    (fun b q' hb e' => by
      rcases hnew _ e' with h5 | h5
      · exact hi.1.br b q' rr _ hb hq h5
      · exact Nat.lt_irrefl _ (h5 ▸ hi.1.box_lt hb))
    (fun r' q' g hr' hg' e' => by
      obtain ⟨g1, g2⟩ := gone r' q' hr'
      rcases hnew g hg' with h5 | rfl
      · exact g2 (hi.1.rr rr _ r' q' g hq g1 rfl h5 e').symm
      · exact Nat.lt_irrefl _ (hi.1.row_lt g1 e'))
  have e1 : applyE st o.dst (.c (.row id)) { nr := [(id, ⟨e, u, xs ++ ys, false⟩)], rm := [rr] } = (({ st with row := dropF [rr] st.row } : St).addRow id ⟨e, u, xs ++ ys, false⟩).put o.dst (.c (.row id)) := by
    have := applyE_row st o.dst (.c (.row id)) id ⟨e, u, xs ++ ys, false⟩ [] [rr]
    rw [this, freezeF_nil]
  rw [e1]
  refine hadd.putA hd ?_
  show _ = (m.setRow id v' u.size h4.one).ρ id
  simp [Map.setRow]
end

end Go.Proofs.YteiefdnhngfojaaGreatDoor.Vm
set_option linter.unusedVariables false
set_option linter.unusedSimpArgs false
namespace Go.Proofs.YteiefdnhngfojaaGreatDoor.Vm
open Go Go.RowKit

section
variable {R : Type} {P : Program} {w0 : World} {O : Env} {S0 : Nat → Prop} {r : R} {I : Info}
variable {w w' : World} {S S' : Nat → Prop} {m : Map} {st : St} {a : Act} {o : Oper} {κ : V → Eff → Option R}

theorem chk_str (hT : TyOk P I) {t : TypeId} (hs : I.ty t = some .str) : P.underlying t = some .string := by
  have := hT t _ hs
  simp only [chk, modeId, Bool.and_eq_true, descOk] at this
  obtain ⟨_, h⟩ := this
  cases hu : P.underlying t with
  | none => rw [hu] at h; exact absurd h (by simp)
  | some d => rw [hu] at h; cases d <;> first | rfl | exact absurd h (by simp)
theorem chk_int (hT : TyOk P I) {t : TypeId} {k : IntKind} (hs : I.ty t = some (.int k)) : P.underlying t = some (.int k) := by
  have := hT t _ hs
  simp only [chk, modeId, Bool.and_eq_true, descOk] at this
  obtain ⟨_, h⟩ := this
  cases hu : P.underlying t with
  | none => rw [hu] at h; exact absurd h (by simp)
  | some d =>
    rw [hu] at h
    cases d with
    | int k' => rw [of_decide_eq_true h]
    | _ => exact absurd h (by simp)
theorem chk_flt (hT : TyOk P I) {t : TypeId} (hs : I.ty t = some .flt) : P.underlying t = some (.float .f64) := by
  have := hT t _ hs
  simp only [chk, modeId, Bool.and_eq_true, descOk] at this
  obtain ⟨_, h⟩ := this
  cases hu : P.underlying t with
  | none => rw [hu] at h; exact absurd h (by simp)
  | some d =>
    rw [hu] at h
    cases d with
    | float k => cases k <;> first | rfl | exact absurd h (by simp)
    | _ => exact absurd h (by simp)
theorem chk_bool (hT : TyOk P I) {t : TypeId} (hs : I.ty t = some .bool) : P.underlying t = some .bool := by
  have := hT t _ hs
  simp only [chk, modeId, Bool.and_eq_true, descOk] at this
  obtain ⟨_, h⟩ := this
  cases hu : P.underlying t with
  | none => rw [hu] at h; exact absurd h (by simp)
  | some d => rw [hu] at h; cases d <;> first | rfl | exact absurd h (by simp)

theorem op_move (hi : InvM w0 O S0 S m st a.tmps w) (hd : ∀ k, o.dst = some k → k < st.nt ∧ st.lo ≤ k) {x : Operand} (ho : o.op = .move x ∨ o.op = .assign x) (h : κ (arg st x) {} = some r) : OpGoal P w0 O S0 r o a w st κ := by
  refine op_pure hi hd h (arg_rep (a := a) hi rfl x) ?_
  unfold execOp
  rcases ho with ho | ho <;> simp only [ho] <;> rfl
theorem op_nilCheck (hi : InvM w0 O S0 S m st a.tmps w) (hd : ∀ k, o.dst = some k → k < st.nt ∧ st.lo ≤ k) {x : Operand} (ho : o.op = .nilCheck x) {b j : Nat} (hx : arg st x = .c (.box b j)) (h : κ (.c (.box b j)) {} = some r) : OpGoal P w0 O S0 r o a w st κ := by
  have hv : a.eval x = .pointer (some ⟨m.β b, j, none⟩) := by have := arg_rep (a := a) hi rfl x; rw [hx] at this; exact this
  refine op_pure hi hd h (u := .pointer (some ⟨m.β b, j, none⟩)) rfl ?_
  unfold execOp
  simp only [ho, hv]
  rfl
theorem op_makeFn (hi : InvM w0 O S0 S m st a.tmps w) (hd : ∀ k, o.dst = some k → k < st.nt ∧ st.lo ≤ k) {g : FuncId} {first captured : Array Operand} (ho : o.op = .makeFunc (.func g) first captured) (h1 : first.toList = []) (h2 : captured.toList = []) (h : κ (.c (.fn g)) {} = some r) : OpGoal P w0 O S0 r o a w st κ := by
  have e1 : first = #[] := Array.toList_eq_nil_iff.1 h1
  have e2 : captured = #[] := Array.toList_eq_nil_iff.1 h2
  refine op_pure hi hd h (u := .func (.func g) #[] #[]) rfl ?_
  unfold execOp
  simp only [ho, e1, e2]
  exact run_v _ (by simp [Instr.makeFunc])
theorem op_makeFnb (hi : InvM w0 O S0 S m st a.tmps w) (hd : ∀ k, o.dst = some k → k < st.nt ∧ st.lo ≤ k) {g : FuncId} {first captured : Array Operand} (ho : o.op = .makeFunc (.func g) first captured) (h1 : first.toList = []) {x : Operand} (h2 : captured.toList = [x]) {b : Nat} (hx : arg st x = .c (.box b 0))
    (h : κ (.c (.fnb g b)) {} = some r) : OpGoal P w0 O S0 r o a w st κ := by
  have e1 : first = #[] := Array.toList_eq_nil_iff.1 h1
  have e2 : captured = #[x] := by rw [← Array.toArray_toList (xs := captured), h2]
  have hv : a.eval x = .pointer (some ⟨m.β b, 0, none⟩) := by have := arg_rep (a := a) hi rfl x; rw [hx] at this; exact this
  refine op_pure hi hd h (u := .func (.func g) #[] #[.pointer (some ⟨m.β b, 0, none⟩)]) rfl ?_
  unfold execOp
  simp only [ho, e1, e2]
  exact run_v _ (by simp [Instr.makeFunc, hv])

theorem op_index (hT : TyOk P I) (hi : InvM w0 O S0 S m st a.tmps w) (hd : ∀ k, o.dst = some k → k < st.nt ∧ st.lo ≤ k) {t : TypeId} {x ix : Operand} (ho : o.op = .index t x ix) (hs : I.ty t = some .str) {s : ByteArray} (hx : arg st x = .c (.str s)) {i : Int} (hix : intOf (arg st ix) = some i)
    (h0 : 0 ≤ i) (h1 : i < (s.size : Int)) (h : κ (.c (.int .u8 ((s.data.getD i.toNat 0).toNat : Int))) {} = some r) : OpGoal P w0 O S0 r o a w st κ := by
  have hv : a.eval x = .string s := by have := arg_rep (a := a) hi rfl x; rw [hx] at this; exact this
  obtain ⟨k, hk⟩ := intOf_rep (arg_rep (a := a) hi rfl ix) hix
  have hu := chk_str hT hs
  have hlt : i.toNat < s.size := by omega
  refine op_pure hi hd h (u := .int .u8 ((s.data.getD i.toNat 0).toNat : Int)) rfl ?_
  unfold execOp
  simp only [ho, hv, hk]
  refine run_v _ ?_
  have hg : s[i.toNat]? = some (s.data.getD i.toNat 0) := by
    have hlt' : i.toNat < s.data.size := hlt
    rw [getElem?_pos s i.toNat hlt]
    congr 1
    rw [Array.getD_eq_getD_getElem?, Array.getElem?_eq_getElem hlt']; rfl
  simp [Instr.index, asIntOf, run_underlying hu, h0, hg]

theorem op_field (hT : TyOk P I) (hi : InvM w0 O S0 S m st a.tmps w) (hd : ∀ k, o.dst = some k → k < st.nt ∧ st.lo ≤ k) {s : TypeId} {x : Operand} {f : Nat} (ho : o.op = .field s x f) {u : Ty} (hs : I.ty s = some (.struct u)) {off : Nat} {t : Ty} (hf : Ty.at u.flds f = some (off, t))
    {cs : List C} (hx : arg st x = .agg cs) (hl : cs.length = u.size) (h : κ (ofCells t.isAgg ((cs.drop off).take t.size)) {} = some r) : OpGoal P w0 O S0 r o a w st κ := by
  have hv := arg_rep (a := a) hi rfl x
  rw [hx] at hv
  obtain ⟨vs, e, hr⟩ := hv
  obtain ⟨fs, hu, hc, _⟩ := chk_struct (hT s _ hs)
  obtain ⟨fd, h1, h2, h3⟩ := chk_fields u fs.toList 0 0 hc f off t hf
  have h1' : fs[f]? = some fd := by simpa using h1
  have hoff : fd.offset = off := by omega
  have hfit := at_fit u f off t hf
  have hvl : vs.size = u.size := by rw [← Array.length_toList, hr.len, hl]
  obtain ⟨inf, z, hinf, hsz, _⟩ := base_info (chk_base h3)
  have hseg := (hr.drop off).take t.size
  have run_ : ∀ v, (part fd.type vs off).run P w = .ok v w → (execOp a.eval o).run P w = .ok (.value v) w := fun v hv => by
    unfold execOp
    simp only [ho, e]
    refine run_v _ ?_
    simp [Instr.field, run_underlying hu, h1', asAgg, hoff, hv]
  cases ha : t.isAgg with
  | true =>
    cases t with
    | struct u' =>
      obtain ⟨fs', hu', _, _⟩ := chk_struct h3
      have hagg : (isAgg fd.type).run P w = .ok true w := by
        unfold isAgg
        rw [Sem.run_bind, run_underlying hu' w]; rfl
      rw [ha] at h
      refine op_pure hi hd h (u := .agg (vs.extract off (off + u'.size))) ⟨_, rfl, ?_⟩ (run_ _ ?_)
      · rw [Array.toList_extract]
        show RepCs w S m _ ((vs.toList.drop off).take (off + u'.size - off))
        rw [show off + u'.size - off = u'.size by omega]
        exact hseg
      · have hsz' : inf.size = u'.size := hsz
        simp [part, hagg, sizeOf, typeInfo, hinf, hsz']
    | _ => exact absurd ha (by simp [Ty.isAgg])
  | false =>
    have hsz1 := leaf_size h3 ha
    obtain ⟨d, hd1, hd2⟩ := leaf_desc h3 ha
    have hagg : (isAgg fd.type).run P w = .ok false w := by
      unfold isAgg
      rw [Sem.run_bind, run_underlying hd1 w]
      cases d <;> first | rfl | exact absurd hd2 (by simp)
    rw [hsz1] at hseg h hfit
    have hlt : off < vs.size := by omega
    have hone : (vs.toList.drop off).take 1 = [vs[off]] := by
      rw [List.take_one, List.head?_drop]
      simp [hlt]
    rw [hone] at hseg
    rw [ha] at h
    refine op_pure hi hd h (u := vs[off]) (repOne_V (b := false) hseg) (run_ _ ?_)
    simp [part, hagg, hlt]

theorem exec_builtin {b : Builtin} {as : Array Operand} {ts : Array TypeId} {c : Call} (hc : c.callee = .builtin b) (has : c.args = as) (hts : c.argTypes = ts) (ho : o.op = .call c) {s : Sem Value} (hb : ∀ cs, builtin b ts o.type cs (as.map a.eval) = (do pure (.value (← s)))) {v : Value} (h : s.run P w = .ok v w) :
    (execOp a.eval o).run P w = .ok (.value v) w := by
  unfold execOp
  simp only [ho, resolve, hc, invoke, Sem.run_bind, Sem.run_pure, Result.andThen_ok, has, hts, hb, h]

theorem op_len (hT : TyOk P I) (hi : InvM w0 O S0 S m st a.tmps w) (hd : ∀ k, o.dst = some k → k < st.nt ∧ st.lo ≤ k) {c : Call} (hc : c.callee = .builtin .len) (ho : o.op = .call c) {x : Operand} {t : TypeId} (has : c.args.toList = [x]) (hts : c.argTypes.toList = [t])
    (h : lenOp I st t (arg st x) κ = some r) : OpGoal P w0 O S0 r o a w st κ := by
  have e1 : c.args = #[x] := by rw [← Array.toArray_toList (xs := c.args), has]
  have e2 : c.argTypes = #[t] := by rw [← Array.toArray_toList (xs := c.argTypes), hts]
  have hv := arg_rep (a := a) hi rfl x
  have fin : ∀ n : Nat, κ (.c (.int .i64 (n : Int))) {} = some r → (Builtin.len_ #[t] o.type #[a.eval x]).run P w = .ok (goInt n) w → OpGoal P w0 O S0 r o a w st κ := fun n h1 h2 =>
    op_pure hi hd h1 (u := goInt n) rfl (exec_builtin hc e1 e2 ho (s := Builtin.len_ #[t] o.type #[a.eval x]) (fun cs => by simp [builtin]) h2)
  unfold lenOp at h
  split at h
  · rename_i s hty hax
    rw [hax] at hv
    exact fin _ h (by simp [Builtin.len_, run_underlying (chk_str hT hty), show a.eval x = .string s from hv])
  · rename_i e u hty
    cases hsl : sliceOf st e u (arg st x) with
    | none => rw [hsl] at h; exact absurd h (by simp)
    | some xs =>
      rw [hsl] at h
      obtain ⟨ad, c', inner, ev, _⟩ := sliceOf_contig hi hsl
      exact fin _ h (by simp [Builtin.len_, run_underlying (chk_list (hT t _ hty)).1, ev])
  · exact absurd h (by simp)

theorem foldI_run (mx : Bool) : ∀ (xs : List Operand) (x y : Int), foldI mx x (xs.map (arg st)) = some y → InvM w0 O S0 S m st a.tmps w →
    ((xs.map a.eval).foldlM (if mx then Builtin.max2 else Builtin.min2) (Value.int .i64 x)).run P w = .ok (.int .i64 y) w
  | [], x, y, h, _ => by
    obtain rfl : x = y := Option.some.inj h
    rfl
  | z :: xs, x, y, h, hi => by
    rw [List.map_cons] at h
    have hz := arg_rep (a := a) hi rfl z
    cases hax : arg st z with
    | c c =>
      rw [hax] at h hz
      cases c with
      | int k n =>
        cases k with
        | i64 =>
          have ih := foldI_run mx xs (minmaxI mx x n) y h hi
          rw [List.map_cons, List.foldlM_cons, show a.eval z = .int .i64 n from hz]
          have hstep : ((if mx then Builtin.max2 else Builtin.min2) (Value.int .i64 x) (.int .i64 n)).run P w = .ok (.int .i64 (minmaxI mx x n)) w := by
            cases mx
            · simp only [Bool.false_eq_true, if_false, Builtin.min2, minmaxI, cond_false]
              rfl
            · simp only [if_true, Builtin.max2, minmaxI, cond_true]
              show Result.ok (Value.int _ (if n > x then n else x)) w = _
              rfl
          rw [Sem.run_bind, hstep]
          exact ih
        | _ => exact absurd h (by simp [foldI])
      | _ => exact absurd h (by simp [foldI])
    | _ => rw [hax] at h; exact absurd h (by simp [foldI])
theorem op_minmax (mx : Bool) (hi : InvM w0 O S0 S m st a.tmps w) (hd : ∀ k, o.dst = some k → k < st.nt ∧ st.lo ≤ k) {c : Call} (hc : c.callee = .builtin (if mx then .max else .min)) (ho : o.op = .call c) {z : Operand} {zs : List Operand} (has : c.args.toList = z :: zs) {x y : Int} (hz : arg st z = .c (.int .i64 x))
    (hf : foldI mx x (zs.map (arg st)) = some y) (h : κ (.c (.int .i64 y)) {} = some r) : OpGoal P w0 O S0 r o a w st κ := by
  have hv : a.eval z = .int .i64 x := by have := arg_rep (a := a) hi rfl z; rw [hz] at this; exact this
  have e1 : c.args = (z :: zs).toArray := by rw [← Array.toArray_toList (xs := c.args), has]
  have hfold := foldI_run (P := P) (a := a) mx zs x y hf hi
  refine op_pure hi hd h (u := .int .i64 y) rfl ?_
  cases mx
  · refine exec_builtin hc e1 rfl ho (s := Builtin.min_ c.argTypes o.type ((z :: zs).toArray.map a.eval)) (fun cs => rfl) ?_
    simp only [Builtin.min_, List.map_toArray, List.map_cons, hv]
    exact hfold
  · refine exec_builtin hc e1 rfl ho (s := Builtin.max_ c.argTypes o.type ((z :: zs).toArray.map a.eval)) (fun cs => rfl) ?_
    simp only [Builtin.max_, List.map_toArray, List.map_cons, hv]
    exact hfold

theorem op_real (hi : InvM w0 O S0 S m st a.tmps w) (hd : ∀ k, o.dst = some k → k < st.nt ∧ st.lo ≤ k) {c : Call} (hc : c.callee = .builtin .real) (ho : o.op = .call c) {x : Operand} (has : c.args.toList = [x]) {p q : Nat} (hx : arg st x = .c (.cx p q)) (h : κ (.c (.flt p)) {} = some r) : OpGoal P w0 O S0 r o a w st κ := by
  have e1 : c.args = #[x] := by rw [← Array.toArray_toList (xs := c.args), has]
  have hv : a.eval x = .complex .f64 p q := by have := arg_rep (a := a) hi rfl x; rw [hx] at this; exact this
  refine op_pure hi hd h (u := .float .f64 p) rfl (exec_builtin hc e1 rfl ho (s := Builtin.real_ c.argTypes o.type #[a.eval x]) (fun cs => by simp [builtin]) ?_)
  rw [hv]; rfl
theorem op_imag (hi : InvM w0 O S0 S m st a.tmps w) (hd : ∀ k, o.dst = some k → k < st.nt ∧ st.lo ≤ k) {c : Call} (hc : c.callee = .builtin .imag) (ho : o.op = .call c) {x : Operand} (has : c.args.toList = [x]) {p q : Nat} (hx : arg st x = .c (.cx p q)) (h : κ (.c (.flt q)) {} = some r) : OpGoal P w0 O S0 r o a w st κ := by
  have e1 : c.args = #[x] := by rw [← Array.toArray_toList (xs := c.args), has]
  have hv : a.eval x = .complex .f64 p q := by have := arg_rep (a := a) hi rfl x; rw [hx] at this; exact this
  refine op_pure hi hd h (u := .float .f64 q) rfl (exec_builtin hc e1 rfl ho (s := Builtin.imag_ c.argTypes o.type #[a.eval x]) (fun cs => by simp [builtin]) ?_)
  rw [hv]; rfl
theorem op_complex (hi : InvM w0 O S0 S m st a.tmps w) (hd : ∀ k, o.dst = some k → k < st.nt ∧ st.lo ≤ k) {c : Call} (hc : c.callee = .builtin .complex) (ho : o.op = .call c) {x y : Operand} (has : c.args.toList = [x, y]) {p q : Nat} (hx : arg st x = .c (.flt p)) (hy : arg st y = .c (.flt q)) (h : κ (.c (.cx p q)) {} = some r) : OpGoal P w0 O S0 r o a w st κ := by
  have e1 : c.args = #[x, y] := by rw [← Array.toArray_toList (xs := c.args), has]
  have hv : a.eval x = .float .f64 p := by have := arg_rep (a := a) hi rfl x; rw [hx] at this; exact this
  have hv2 : a.eval y = .float .f64 q := by have := arg_rep (a := a) hi rfl y; rw [hy] at this; exact this
  refine op_pure hi hd h (u := .complex .f64 p q) rfl (exec_builtin hc e1 rfl ho (s := Builtin.complex_ c.argTypes o.type #[a.eval x, a.eval y]) (fun cs => by simp [builtin]) ?_)
  rw [hv, hv2]; rfl

theorem op_convert (hT : TyOk P I) (hi : InvM w0 O S0 S m st a.tmps w) (hd : ∀ k, o.dst = some k → k < st.nt ∧ st.lo ≤ k) {src dst : TypeId} {x : Operand} (ho : o.op = .convert src dst x) (h : convOp I st src dst (arg st x) κ = some r) : OpGoal P w0 O S0 r o a w st κ := by
  have hv := arg_rep (a := a) hi rfl x
  have fin : ∀ c u, κ (.c c) {} = some r → (convert src dst (a.eval x)).run P w = .ok u w → RepC w S m c u → OpGoal P w0 O S0 r o a w st κ := fun c u h1 h2 h3 =>
    op_pure hi hd h1 (u := u) h3 (by unfold execOp; simp only [ho]; exact run_v _ h2)
  unfold convOp at h
  split at h
  · rename_i k0 k k1 n e1 e2 e3
    rw [e3] at hv
    exact fin _ (.int k (k.wrap n)) h (by simp [convert, run_underlying (chk_int hT e1), run_underlying (chk_int hT e2), show a.eval x = _ from hv, Conv.intToInt]) rfl
  · rename_i k0 k1 n e1 e2 e3
    rw [e3] at hv
    exact fin _ (.float .f64 (FloatKind.f64.nearest n)) h (by simp [convert, run_underlying (chk_int hT e1), run_underlying (chk_flt hT e2), show a.eval x = _ from hv, Conv.intToFloat]) rfl
  · rename_i k b e1 e2 e3
    rw [e3] at hv
    cases hn : (FloatKind.f64.decode b).toInt .zero with
    | none => rw [hn] at h; exact absurd h (by simp)
    | some n =>
      rw [hn] at h
      dsimp only at h
      by_cases hr : k.min ≤ n ∧ n ≤ k.max
      · rw [decide_eq_true hr, cond_true] at h
        exact fin _ (.int k n) h (by simp [convert, run_underlying (chk_flt hT e1), run_underlying (chk_int hT e2), show a.eval x = _ from hv, Conv.floatToInt, hn, hr]) rfl
      · rw [decide_eq_false hr] at h; exact absurd h (by simp)
  · rename_i s e1 e2 e3
    rw [e3] at hv
    exact fin _ (.string s) h (by simp [convert, run_underlying (chk_str hT e1), run_underlying (chk_str hT e2), show a.eval x = _ from hv]) rfl
  · exact absurd h (by simp)
end

end Go.Proofs.YteiefdnhngfojaaGreatDoor.Vm
set_option linter.unusedVariables false
set_option linter.unusedSimpArgs false
namespace Go.Proofs.YteiefdnhngfojaaGreatDoor.Vm
open Go Go.RowKit

section
variable {R : Type} {P : Program} {w0 : World} {O : Env} {S0 : Nat → Prop} {r : R} {I : Info}
variable {w w' : World} {S S' : Nat → Prop} {m : Map} {st : St} {a : Act} {o : Oper} {κ : V → Eff → Option R}

/-- The structs that the table lets be compared may be. -/
def EqOk (P : Program) (I : Info) : Prop := ∀ t, I.eqs t = true → P.stoodInHeld t = false ∧ P.eqGuardType P.depth t = false

theorem run_part_leaf {t : TypeId} {u : Ty} {by_ : TypeId → Nat} (hc : chk P by_ u none t = true) (ha : u.isAgg = false) {xs : Array Value} {off : Nat} {v : Value} (h : xs[off]? = some v) : (part t xs off).run P w = .ok v w := by
  obtain ⟨d, hd1, hd2⟩ := leaf_desc hc ha
  have hagg : (isAgg t).run P w = .ok false w := by
    unfold isAgg
    rw [Sem.run_bind, run_underlying hd1 w]
    cases d <;> first | rfl | exact absurd hd2 (by simp)
  simp [part, hagg, h]

theorem eq_leaf {by_ : TypeId → Nat} {u : Ty} {t : TypeId} (hc : chk P by_ u none t = true) {ts : List Ty} {c c' : C} {cs ds : List C} {e : Bool} (h : eqCells (u :: ts) (c :: cs) (c' :: ds) = some e) {v v' : Value} (h1 : RepC w S m c v) (h2 : RepC w S m c' v') (d : Nat) :
    u.isAgg = false ∧ ∃ b e', (Op.equalIn (d + 1) t v v').run P w = .ok b w ∧ eqCells ts cs ds = some e' ∧ e = (b && e') := by
  have und : ∀ ds, P.underlying t = some ds → P.underlying t = some ds := fun _ h => h
  cases u with
  | int k =>
    cases c with
    | int k1 p =>
      cases c' with
      | int k2 q =>
        simp only [eqCells] at h
        split at h
        · rename_i hk
          obtain ⟨rfl, rfl⟩ := hk
          cases hr : eqCells ts cs ds with
          | none => rw [hr] at h; exact absurd h (by simp)
          | some e' =>
            rw [hr] at h
            have hu : ∃ k', P.underlying t = some (.int k') := by
              simp only [chk, modeId, Bool.and_eq_true, descOk] at hc
              obtain ⟨_, hc⟩ := hc
              cases hu : P.underlying t with
              | none => rw [hu] at hc; exact absurd hc (by simp)
              | some dd => rw [hu] at hc; cases dd <;> first | exact ⟨_, rfl⟩ | exact absurd hc (by simp)
            obtain ⟨k', hu⟩ := hu
            refine ⟨rfl, p == q, e', ?_, rfl, (Option.some.inj h).symm⟩
            rw [show v = _ from h1, show v' = _ from h2]
            exact run_equalIn_int w d t _ k' p q hu
        · exact absurd h (by simp)
      | _ => exact absurd h (by simp [eqCells])
    | _ => exact absurd h (by cases c' <;> simp [eqCells])
  | str =>
    cases c with
    | str p =>
      cases c' with
      | str q =>
        simp only [eqCells] at h
        cases hr : eqCells ts cs ds with
        | none => rw [hr] at h; exact absurd h (by simp)
        | some e' =>
          rw [hr] at h
          have hu : P.underlying t = some .string := by
            simp only [chk, modeId, Bool.and_eq_true, descOk] at hc
            obtain ⟨_, hc⟩ := hc
            cases hu : P.underlying t with
            | none => rw [hu] at hc; exact absurd hc (by simp)
            | some dd => rw [hu] at hc; cases dd <;> first | rfl | exact absurd hc (by simp)
          refine ⟨rfl, p.toList == q.toList, e', ?_, rfl, (Option.some.inj h).symm⟩
          rw [show v = _ from h1, show v' = _ from h2]
          exact run_equalIn_string w d t p q hu
      | _ => exact absurd h (by simp [eqCells])
    | _ => exact absurd h (by cases c' <;> simp [eqCells])
  | bool =>
    cases c with
    | bool p =>
      cases c' with
      | bool q =>
        simp only [eqCells] at h
        cases hr : eqCells ts cs ds with
        | none => rw [hr] at h; exact absurd h (by simp)
        | some e' =>
          rw [hr] at h
          have hu : P.underlying t = some .bool := by
            simp only [chk, modeId, Bool.and_eq_true, descOk] at hc
            obtain ⟨_, hc⟩ := hc
            cases hu : P.underlying t with
            | none => rw [hu] at hc; exact absurd hc (by simp)
            | some dd => rw [hu] at hc; cases dd <;> first | rfl | exact absurd hc (by simp)
          refine ⟨rfl, p == q, e', ?_, rfl, (Option.some.inj h).symm⟩
          rw [show v = _ from h1, show v' = _ from h2]
          exact run_equalIn_bool' w d t p q hu
      | _ => exact absurd h (by simp [eqCells])
    | _ => exact absurd h (by cases c' <;> simp [eqCells])
  | _ => exact absurd h (by simp [eqCells])

theorem eq_cons {u : Ty} {ts : List Ty} {cs ds : List C} {e : Bool} (h : eqCells (u :: ts) cs ds = some e) : ∃ c cs' c' ds', cs = c :: cs' ∧ ds = c' :: ds' := by
  cases cs with
  | nil => exact absurd h (by cases u <;> simp [eqCells])
  | cons c cs =>
    cases ds with
    | nil => exact absurd h (by cases u <;> cases c <;> simp [eqCells])
    | cons c' ds => exact ⟨c, cs, c', ds, rfl, rfl⟩

/-- One field, and the rest. -/
theorem eq_field {by_ : TypeId → Nat} {xs ys : Array Value} {u : Ty} {fd : Field} {fs : List Field} {off : Nat} (d : Nat) (ho : fd.offset = off) (hn : fd.name ≠ "_") (hc : chk P by_ u none fd.type = true) {ts : List Ty} {cs ds : List C} {e : Bool} (h : eqCells (u :: ts) cs ds = some e)
    (hx : RepCs w S m cs (xs.toList.drop off)) (hy : RepCs w S m ds (ys.toList.drop off)) :
    ∃ cs' ds' b e', eqCells ts cs' ds' = some e' ∧ e = (b && e') ∧ u.size = 1 ∧ RepCs w S m cs' (xs.toList.drop (off + 1)) ∧ RepCs w S m ds' (ys.toList.drop (off + 1)) ∧
      ((Op.eqFields d.succ xs ys fs).run P w = .ok e' w → (Op.eqFields d.succ xs ys (fd :: fs)).run P w = .ok e w) := by
  obtain ⟨c, cs', c', ds', rfl, rfl⟩ := eq_cons h
  obtain ⟨v, r1, e1, g1, g2⟩ := hx
  obtain ⟨v', r2, e2, g3, g4⟩ := hy
  obtain ⟨ha, b, e', h1, h2, h3⟩ := eq_leaf hc h g1 g3 d
  have get : ∀ {zs : Array Value} {z : Value} {r : List Value}, zs.toList.drop off = z :: r → zs[off]? = some z ∧ zs.toList.drop (off + 1) = r := fun {zs z r} hz => by
    have h5 : (zs.toList.drop off)[0]? = some z := by rw [hz]; rfl
    rw [List.getElem?_drop, Nat.add_zero] at h5
    refine ⟨by simpa using h5, ?_⟩
    rw [← List.drop_drop, hz]; rfl
  obtain ⟨k1, k2⟩ := get e1
  obtain ⟨k3, k4⟩ := get e2
  refine ⟨cs', ds', b, e', h2, h3, leaf_size hc ha, by rw [k2]; exact g2, by rw [k4]; exact g4, fun hrest => ?_⟩
  rw [Op.eqFields, if_pos hn]
  subst ho
  simp only [Sem.run_bind, run_part_leaf hc ha k1, run_part_leaf hc ha k3, Result.andThen_ok, h1]
  cases b with
  | true => rw [h3]; simpa using hrest
  | false => rw [h3]; simp

theorem eq_fields {by_ : TypeId → Nat} {xs ys : Array Value} (d : Nat) : ∀ (u : Ty) (fs : List Field) (off : Nat) (i : TypeId), chk P by_ u (some (fs, off)) i = true → (∀ f ∈ fs, f.name ≠ "_") → ∀ (cs ds : List C) (e : Bool), eqCells u.flds cs ds = some e →
    RepCs w S m cs (xs.toList.drop off) → RepCs w S m ds (ys.toList.drop off) → (Op.eqFields d.succ xs ys fs).run P w = .ok e w
  | .pair a b, fs, off, i, h, hn, cs, ds, e, he, hx, hy => by
    cases fs with
    | nil => exact absurd h (by simp [chk])
    | cons fd r =>
      simp only [chk, Bool.and_eq_true, decide_eq_true_eq] at h
      obtain ⟨⟨h1, h2⟩, h3⟩ := h
      obtain ⟨cs', ds', b', e', g1, g2, g3, g4, g5, g6⟩ := eq_field d (fs := r) h1 (hn fd (by simp)) h2 (show eqCells (a :: b.flds) cs ds = some e from he) hx hy
      rw [g3] at h3
      exact g6 (eq_fields d b r (off + 1) 0 h3 (fun f hf => hn f (List.mem_cons_of_mem _ hf)) cs' ds' e' g1 g4 g5)
  | .int k, fs, off, i, h, hn, cs, ds, e, he, hx, hy => one (.int k) rfl fs off i h hn cs ds e he hx hy
  | .bool, fs, off, i, h, hn, cs, ds, e, he, hx, hy => one .bool rfl fs off i h hn cs ds e he hx hy
  | .str, fs, off, i, h, hn, cs, ds, e, he, hx, hy => one .str rfl fs off i h hn cs ds e he hx hy
  | .cx, fs, off, i, h, hn, cs, ds, e, he, hx, hy => absurd he (by simp [Ty.flds, eqCells])
  | .flt, fs, off, i, h, hn, cs, ds, e, he, hx, hy => absurd he (by simp [Ty.flds, eqCells])
  | .list _ _, fs, off, i, h, hn, cs, ds, e, he, hx, hy => absurd he (by simp [Ty.flds, eqCells])
  | .struct _, fs, off, i, h, hn, cs, ds, e, he, hx, hy => absurd he (by simp [Ty.flds, eqCells])
  | .fn, fs, off, i, h, hn, cs, ds, e, he, hx, hy => absurd he (by simp [Ty.flds, eqCells])
  | .fns _, fs, off, i, h, hn, cs, ds, e, he, hx, hy => absurd he (by simp [Ty.flds, eqCells])
  | .ptr _, fs, off, i, h, hn, cs, ds, e, he, hx, hy => absurd he (by simp [Ty.flds, eqCells])
  | .own _ _, fs, off, i, h, hn, cs, ds, e, he, hx, hy => absurd he (by simp [Ty.flds, eqCells])
  | .io _ _, fs, off, i, h, hn, cs, ds, e, he, hx, hy => absurd he (by simp [Ty.flds, eqCells])
  | .ref _ _, fs, off, i, h, hn, cs, ds, e, he, hx, hy => absurd he (by simp [Ty.flds, eqCells])
where
  one (u : Ty) (hu : u.flds = [u]) (fs : List Field) (off : Nat) (i : TypeId) (h : chk P by_ u (some (fs, off)) i = true) (hn : ∀ f ∈ fs, f.name ≠ "_") (cs ds : List C) (e : Bool) (he : eqCells u.flds cs ds = some e)
      (hx : RepCs w S m cs (xs.toList.drop off)) (hy : RepCs w S m ds (ys.toList.drop off)) : (Op.eqFields d.succ xs ys fs).run P w = .ok e w := by
    match fs, h, hn with
    | [], h, _ => cases u <;> first | exact absurd hu (pair_ne _ _) | exact absurd h (by simp [chk, modeId])
    | _ :: _ :: _, h, _ => cases u <;> first | exact absurd hu (pair_ne _ _) | exact absurd h (by simp [chk, modeId])
    | [fd], h, hn =>
      obtain ⟨fd', h1, h2, h3⟩ := chk_fields u [fd] off i h 0 0 u (by rw [hu]; rfl)
      obtain rfl : fd = fd' := Option.some.inj h1
      rw [hu] at he
      obtain ⟨cs', ds', b', e', g1, g2, g3, g4, g5, g6⟩ := eq_field d (fs := []) (off := off) (by rw [h2]; rfl) (hn fd (by simp)) h3 he hx hy
      have : e' = true := by
        cases cs' <;> cases ds' <;> simp [eqCells] at g1
        exact g1
      exact g6 (by rw [this]; rfl)

theorem op_eq (hT : TyOk P I) (hE : EqOk P I) (hi : InvM w0 O S0 S m st a.tmps w) (hd : ∀ k, o.dst = some k → k < st.nt ∧ st.lo ≤ k) {op : BinOp} {t t' : TypeId} {x y : Operand} (ho : o.op = .binOp op t x y t') {cs ds : List C} (hx : arg st x = .agg cs) (hy : arg st y = .agg ds)
    (h : bin (I.ty t) (I.eqs t) op (arg st x) (arg st y) κ = some r) : OpGoal P w0 O S0 r o a w st κ := by
  have hvx := arg_rep (a := a) hi rfl x
  have hvy := arg_rep (a := a) hi rfl y
  rw [hx] at hvx; rw [hy] at hvy
  obtain ⟨xs, e1, hrx⟩ := hvx
  obtain ⟨ys, e2, hry⟩ := hvy
  rw [hx, hy] at h
  simp only [bin] at h
  cases hty : I.ty t with
  | none => rw [hty] at h; exact absurd h (by simp)
  | some u0 =>
    rw [hty] at h
    cases u0 with
    | struct u =>
      dsimp only at h
      cases hq : I.eqs t with
      | false => rw [hq] at h; exact absurd h (by simp)
      | true =>
        rw [hq, cond_true] at h
        cases he : eqCells u.flds cs ds with
        | none => rw [he] at h; exact absurd h (by simp)
        | some e =>
          rw [he] at h
          dsimp only at h
          obtain ⟨hs1, hs2⟩ := hE t hq
          obtain ⟨fs, hu, hc, hnm⟩ := chk_struct (hT t _ hty)
          have hf : P.fieldsOf t = fs := by unfold Program.fieldsOf; rw [hu]
          have hrun : (Op.equalIn 10000 t (.agg xs) (.agg ys)).run P w = .ok e w := by
            rw [run_equalIn_struct w 9999 t xs ys (by rw [hf]; exact hu) hs1, hf]
            exact eq_fields 9998 u fs.toList 0 0 hc hnm cs ds e he hrx hry
          have hg := run_eqGuard_agg w op t x y xs ys hs2
          have fin : ∀ b : Bool, κ (.c (.bool b)) {} = some r → (binOp op t (.agg xs) (.agg ys)).run P w = .ok (.bool b) w → OpGoal P w0 O S0 r o a w st κ := fun b h1 h2 =>
            op_pure hi hd h1 (v := .c (.bool b)) (u := .bool b) rfl (by unfold execOp; simp only [ho]; exact run_v _ (by rw [e1, e2, Sem.run_bind, hg]; exact h2))
          cases op with
          | eql => exact fin e h (by rw [run_eql_struct, hrun]; rfl)
          | neq => exact fin (!e) h (by rw [run_neq_struct, hrun]; rfl)
          | _ => exact absurd h (by simp)
    | _ => exact absurd h (by simp)
end

end Go.Proofs.YteiefdnhngfojaaGreatDoor.Vm
set_option linter.unusedVariables false
set_option linter.unusedSimpArgs false
namespace Go.Proofs.YteiefdnhngfojaaGreatDoor.Vm
open Go Go.RowKit

theorem flat_take {α : Type} {k : Nat} : ∀ (l : List (List α)) (i : Nat), (∀ c ∈ l, c.length = k) → (l.take i).flatten = l.flatten.take (i * k)
  | [], i, _ => by simp
  | c :: l, 0, _ => by simp
  | c :: l, i + 1, h => by
    have hc := h c (by simp)
    have e1 : c.take ((i + 1) * k) = c := List.take_of_length_le (by rw [hc, Nat.succ_mul]; omega)
    rw [List.take_succ_cons, List.flatten_cons, List.flatten_cons, flat_take l i (fun c hc => h c (List.mem_cons_of_mem _ hc)), List.take_append, hc, e1, show (i + 1) * k - k = i * k by rw [Nat.succ_mul]; omega]
theorem flat_drop {α : Type} {k : Nat} : ∀ (l : List (List α)) (i : Nat), (∀ c ∈ l, c.length = k) → (l.drop i).flatten = l.flatten.drop (i * k)
  | [], i, _ => by simp
  | c :: l, 0, _ => by simp
  | c :: l, i + 1, h => by
    have hc := h c (by simp)
    have e1 : c.drop ((i + 1) * k) = [] := List.drop_of_length_le (by rw [hc, Nat.succ_mul]; omega)
    rw [List.drop_succ_cons, List.flatten_cons, flat_drop l i (fun c hc => h c (List.mem_cons_of_mem _ hc)), List.drop_append, hc, e1, show (i + 1) * k - k = i * k by rw [Nat.succ_mul]; omega, List.nil_append]

section
variable {R : Type} {P : Program} {w0 : World} {O : Env} {S0 : Nat → Prop} {r : R} {I : Info}
variable {w w' : World} {S S' : Nat → Prop} {m : Map} {st : St} {a : Act} {o : Oper} {κ : V → Eff → Option R}

/-- What a row of one's own is. -/
theorem row_slice (hi : InvM w0 O S0 S m st a.tmps w) {q : Nat} {p : Row} (hq : st.row q = some p) :
    ∃ g n c, m.ρ q = .slice g n c ∧ m.sz q = p.t.size ∧ n = p.xs.length ∧ n ≤ c ∧ (g = none → n = 0) ∧ ∀ A, g = some A → ∃ b, A = ⟨b, 0, none⟩ ∧ (m.ρ q).ownBlock = some b := by
  obtain ⟨⟨inner, _, ho, _⟩, hr2, _⟩ := hi.rows q _ hq
  rcases ho.2 with ⟨e3, hz⟩ | ⟨g, cap, cur, e3, _, _, hnc, _⟩
  · exact ⟨none, 0, 0, e3, hr2, hz.symm, Nat.le_refl _, fun _ => rfl, fun A hA => absurd hA (by simp)⟩
  · exact ⟨some ⟨g, 0, none⟩, _, cap, e3, hr2, rfl, hnc, fun h => absurd h (by simp), fun A hA => ⟨g, (Option.some.inj hA).symm, by rw [e3]; rfl⟩⟩

theorem op_index_sub (hT : TyOk P I) (hi : InvM w0 O S0 S m st a.tmps w) (hd : ∀ k, o.dst = some k → k < st.nt ∧ st.lo ≤ k) {ty : TypeId} {x ix : Operand} (ho : o.op = .indexAddr ty x ix)
    {e : TypeId} {t : Ty} (hs : I.ty ty = some (.list e t)) {q l k : Nat} (hx : arg st x = .c (.sub q l k)) {i : Int} (hix : intOf (arg st ix) = some i) {xs : List t.T} (hl : asList st.row e t (.sub q l k) = some xs)
    (h0 : 0 ≤ i) (h1 : i < (xs.length : Int)) (h : κ (.c (.rel q (l + i.toNat) 0)) {} = some r) : OpGoal P w0 O S0 r o a w st κ := by
  have hv := arg_rep (a := a) hi rfl x
  rw [hx] at hv
  obtain ⟨kk, hk⟩ := intOf_rep (arg_rep (a := a) hi rfl ix) hix
  obtain ⟨ys, fz, hq, hlk, hky, rfl⟩ := asList_sub hl
  obtain ⟨g, n, c, hρ, hsz, hn, hnc, hnil, hsome⟩ := row_slice hi hq
  obtain ⟨ad, n', c', ad', e1, e2, e3⟩ := hv
  rw [hρ] at e1
  obtain ⟨rfl, rfl, rfl⟩ : g = ad ∧ n = n' ∧ c = c' := by simpa using e1
  have hlen : ((ys.drop l).take (k - l)).length = k - l := by rw [List.length_take, List.length_drop]; omega
  rw [hlen] at h1
  have hn' : n = ys.length := hn
  have hsz' : m.sz q = t.size := hsz
  cases g with
  | none => have := hnil rfl; omega
  | some A =>
    obtain ⟨b, rfl, hob⟩ := hsome A rfl
    have e4 := e3 (by omega)
    rw [Option.map_some, Addr.add_mid, hsz'] at e4
    refine op_pure hi hd h (u := .pointer (some ⟨b, 0 + l * t.size + i.toNat * t.size, none⟩)) ⟨b, hob, by rw [hsz', Nat.add_mul]; simp⟩ ?_
    unfold execOp
    simp only [ho, e2, e4, hk]
    exact run_v _ (run_indexAt_coded hT hs h0 h1)

/-- A part of a row that may be written: it is told which. -/
theorem op_part_row (hT : TyOk P I) (hi : InvM w0 O S0 S m st a.tmps w) (hd : ∀ k, o.dst = some k → k < st.nt ∧ st.lo ≤ k) {t : TypeId} {x : Operand} {lo hi' : Option Operand} (ho : o.op = .slice t x lo hi' none) {e : TypeId} {u : Ty} (hs : I.ty t = some (.list e u))
    {q : Nat} {xs : List u.T} (hx : arg st x = .c (.row q)) (hl0 : asList st.row e u (.row q) = some xs) {l k : Int} (hl : boundOf st lo 0 = some l) (hk : boundOf st hi' (xs.length : Int) = some k) (h0 : 0 ≤ l) (h1 : l ≤ k) (h2 : k ≤ (xs.length : Int))
    (h : κ (.c (.sub q l.toNat k.toNat)) {} = some r) : OpGoal P w0 O S0 r o a w st κ := by
  have hv : a.eval x = m.ρ q := by have := arg_rep (a := a) hi rfl x; rw [hx] at this; exact this
  obtain ⟨fz, hq⟩ := asList_row hl0
  obtain ⟨g, n, c, hρ, hsz, hn, hnc, hnil, hsome⟩ := row_slice hi hq
  have hn' : n = xs.length := hn
  have hsz' : m.sz q = u.size := hsz
  have hrun := run_slice_coded (P := P) (a := a) hT hs g n c hnc lo hi' hi hl (by rw [hn']; exact hk) h0 h1 (by rw [hn']; exact h2)
  obtain ⟨ad', e1, e2⟩ := sliced_part (ad := g) (l := l.toNat) (k := k.toNat) (c := c) (sz := u.size)
  rw [e1] at hrun
  refine op_pure hi hd h (u := .slice ad' (k.toNat - l.toNat) (c - l.toNat)) ⟨g, n, c, ad', hρ, rfl, fun hlt => by rw [e2 hlt, hsz']⟩ ?_
  unfold execOp
  simp only [ho, hv, hρ]
  exact run_v _ hrun
theorem op_part_sub (hT : TyOk P I) (hi : InvM w0 O S0 S m st a.tmps w) (hd : ∀ k, o.dst = some k → k < st.nt ∧ st.lo ≤ k) {t : TypeId} {x : Operand} {lo hi' : Option Operand} (ho : o.op = .slice t x lo hi' none) {e : TypeId} {u : Ty} (hs : I.ty t = some (.list e u))
    {q p p' : Nat} {xs : List u.T} (hx : arg st x = .c (.sub q p p')) (hl0 : asList st.row e u (.sub q p p') = some xs) {l k : Int} (hl : boundOf st lo 0 = some l) (hk : boundOf st hi' (xs.length : Int) = some k) (h0 : 0 ≤ l) (h1 : l ≤ k) (h2 : k ≤ (xs.length : Int))
    (h : κ (.c (.sub q (p + l.toNat) (p + k.toNat))) {} = some r) : OpGoal P w0 O S0 r o a w st κ := by
  have hv := arg_rep (a := a) hi rfl x
  rw [hx] at hv
  obtain ⟨ys, fz, hq, hlk, hky, rfl⟩ := asList_sub hl0
  obtain ⟨g, n, c, hρ, hsz, hn, hnc, hnil, hsome⟩ := row_slice hi hq
  obtain ⟨ad, n', c', ad', e1, e2, e3⟩ := hv
  rw [hρ] at e1
  obtain ⟨rfl, rfl, rfl⟩ : g = ad ∧ n = n' ∧ c = c' := by simpa using e1
  have hlen : ((ys.drop p).take (p' - p)).length = p' - p := by rw [List.length_take, List.length_drop]; omega
  have hn' : n = ys.length := hn
  have hsz' : m.sz q = u.size := hsz
  rw [hlen] at hk h2
  have hrun := run_slice_coded (P := P) (a := a) hT hs ad' (p' - p) (c - p) (by omega) lo hi' hi hl hk h0 h1 h2
  obtain ⟨ad2, e4, e5⟩ := sliced_part (ad := ad') (l := l.toNat) (k := k.toNat) (c := c - p) (sz := u.size)
  rw [e4] at hrun
  refine op_pure hi hd h (u := .slice ad2 (k.toNat - l.toNat) (c - p - l.toNat)) ⟨g, n, c, ad2, hρ, by congr 1 <;> omega, fun hlt => ?_⟩ ?_
  · rw [e5 (by omega), e3 (by omega), hsz']
    cases g with
    | none => rfl
    | some A =>
      obtain ⟨b, rfl, _⟩ := hsome A rfl
      simp only [Option.map_some, Addr.add_mid]
      congr 2
      rw [Nat.add_mul, Nat.add_assoc]
  · unfold execOp
    simp only [ho, e2]
    exact run_v _ hrun
theorem op_partV (hT : TyOk P I) (hi : Inv w0 O S0 S m st a.tmps w) (hd : ∀ k, o.dst = some k → k < st.nt ∧ st.lo ≤ k) {t : TypeId} {x : Operand} {lo hi' : Option Operand} (ho : o.op = .slice t x lo hi' none) {e : TypeId} {u : Ty} (hs : I.ty t = some (.list e u))
    {xs : List u.T} (hx : sliceOf st e u (arg st x) = some xs) {l k : Int} (hl : boundOf st lo 0 = some l) (hk : boundOf st hi' (xs.length : Int) = some k) (h0 : 0 ≤ l) (h1 : l ≤ k) (h2 : k ≤ (xs.length : Int))
    (h : partV st e u (arg st x) xs l k κ = some r) : OpGoal P w0 O S0 r o a w st κ := by
  unfold partV at h
  split at h
  · rename_i q hax
    cases hsf : softRow st q with
    | true =>
      rw [hsf, cond_true] at h
      rw [hax] at hx
      exact op_part_row hT hi.1 hd ho hs hax hx hl hk h0 h1 h2 h
    | false =>
      rw [hsf, cond_false] at h
      exact op_slice hT hi hd ho hs hx hl hk h0 h1 h2 (by rw [hax]; exact h)
  · rename_i q p p' hax
    cases hsf : softRow st q with
    | true =>
      rw [hsf, cond_true] at h
      rw [hax] at hx
      exact op_part_sub hT hi.1 hd ho hs hax hx hl hk h0 h1 h2 h
    | false =>
      rw [hsf, cond_false] at h
      exact op_slice hT hi hd ho hs hx hl hk h0 h1 h2 (by rw [hax]; exact h)
  · exact op_slice hT hi hd ho hs hx hl hk h0 h1 h2 h
end

end Go.Proofs.YteiefdnhngfojaaGreatDoor.Vm
set_option linter.unusedVariables false
set_option linter.unusedSimpArgs false
namespace Go.Proofs.YteiefdnhngfojaaGreatDoor.Vm
open Go Go.RowKit

section
variable {R : Type} {P : Program} {w0 : World} {O : Env} {S0 : Nat → Prop} {r : R} {I : Info}
variable {w w' : World} {S S' : Nat → Prop} {m : Map} {st : St} {a : Act} {o : Oper} {κ : V → Eff → Option R}

theorem zeroCells_flat (z : Array Value) (n : Nat) : (Builtin.zeroCells z n).toList = (List.replicate n z.toList).flatten := by
  have := made_flat z n
  unfold madeCells at this
  exact this

theorem op_clear (hT : TyOk P I) (hi : InvM w0 O S0 S m st a.tmps w) (hd : ∀ k, o.dst = some k → k < st.nt ∧ st.lo ≤ k) {c : Call} (hc : c.callee = .builtin .clear) (ho : o.op = .call c) {x : Operand} {t : TypeId} (has : c.args.toList = [x]) (hts : c.argTypes.toList = [t])
    {e : TypeId} {u : Ty} (hs : I.ty t = some (.list e u)) {q : Nat} {xs : List u.T} (hq : st.row q = some ⟨e, u, xs, false⟩) (hz : u.zok = true) {l k : Nat} (hlk : l ≤ k) (hk : k ≤ xs.length)
    (hx : (arg st x = .c (.row q) ∧ l = 0 ∧ k = xs.length) ∨ arg st x = .c (.sub q l k)) (h : κ (.tup []) { sr := [(q, ⟨e, u, xs.take l ++ (List.replicate (k - l) u.z ++ xs.drop k), false⟩)] } = some r) : OpGoal P w0 O S0 r o a w st κ := by
  refine ⟨_, _, h, fun he next Q hn => ?_⟩
  have e1 : c.args = #[x] := by rw [← Array.toArray_toList (xs := c.args), has]
  have e2 : c.argTypes = #[t] := by rw [← Array.toArray_toList (xs := c.argTypes), hts]
  obtain ⟨hu, hce, _⟩ := chk_list (hT t _ hs)
  obtain ⟨i, z, hinf, hisz, hby, hzz, hzo⟩ := base_info (chk_base hce)
  have hv := arg_rep (a := a) hi rfl x
  obtain ⟨g, n, cp, hρ, hsz, hnx, hnc, hnil, hsome⟩ := row_slice hi hq
  have hnx' : n = xs.length := hnx
  have hsz' : m.sz q = u.size := hsz
  -- what is handed to clear
  obtain ⟨ad', c', ev, had⟩ : ∃ ad' c', a.eval x = .slice ad' (k - l) c' ∧ (l < cp → ad' = g.map (·.add (l * u.size))) := by
    rcases hx with ⟨hx, rfl, rfl⟩ | hx
    · rw [hx] at hv
      refine ⟨g, cp, by rw [show a.eval x = m.ρ q from hv, hρ, hnx']; rfl, fun _ => ?_⟩
      cases g with
      | none => rfl
      | some A =>
        obtain ⟨b, rfl, _⟩ := hsome A rfl
        rw [Option.map_some, Addr.add_mid, Nat.zero_mul]
    · rw [hx] at hv
      obtain ⟨ad, n', c', ad', g1, g2, g3⟩ := hv
      rw [hρ] at g1
      obtain ⟨rfl, rfl, rfl⟩ : g = ad ∧ n = n' ∧ cp = c' := by simpa using g1
      exact ⟨ad', _, g2, fun hl => by rw [g3 (.inl hl), hsz']⟩
  have exec : ∀ w', (Builtin.clear_ #[t] o.type #[a.eval x]).run P w = .ok (.tuple #[]) w' → (execOp a.eval o).run P w = .ok (.value (.tuple #[])) w' := fun w' hr => by
    unfold execOp
    simp only [ho, resolve, hc, invoke, Sem.run_bind, Sem.run_pure, Result.andThen_ok, e1, e2, builtin, List.map_toArray, List.map_cons, List.map_nil, hr]
  have hput : ∀ w', InvM w0 O S0 S m { st with row := upd st.row q ⟨e, u, xs.take l ++ (List.replicate (k - l) u.z ++ xs.drop k), false⟩ } a.tmps w' →
      InvM w0 O S0 S m (applyE st o.dst (.tup []) { sr := [(q, ⟨e, u, xs.take l ++ (List.replicate (k - l) u.z ++ xs.drop k), false⟩)] }) (a.put o.dst (.tuple #[])).tmps w' := fun w' hw => by
    have := applyE_setRow (q' := ⟨e, u, xs.take l ++ (List.replicate (k - l) u.z ++ xs.drop k), false⟩) hq rfl o.dst (.tup []) [] (by simp) rfl
    rw [freezeF_nil] at this
    rw [this]
    exact hw.putA hd ⟨[], rfl, rfl⟩
  by_cases h0 : k - l = 0
  · obtain rfl : k = l := by omega
    refine wp_value (exec w ?_) (hn _ S m _ (hput w ?_))
    · rw [ev, Nat.sub_self]
      cases ad' <;> simp [Builtin.clear_, run_underlying hu]
    · have e3 : upd st.row q ⟨e, u, xs.take k ++ (List.replicate (k - k) u.z ++ xs.drop k), false⟩ = st.row := by
        funext j
        rw [upd_at]
        split
        · rename_i hj
          subst hj
          rw [hq, Nat.sub_self, List.replicate_zero, List.nil_append, List.take_append_drop]
        · rfl
      rw [e3]
      exact hi
  · have hlt : l < cp := by omega
    cases g with
    | none => have := hnil rfl; omega
    | some A =>
      obtain ⟨b, rfl, hob⟩ := hsome A rfl
      have ead := had hlt
      rw [Option.map_some, Addr.add_mid, Nat.zero_add] at ead
      obtain ⟨hr1, _, hr3⟩ := hi.rows q _ hq
      obtain ⟨inner, hil, hown, hin, hrep⟩ := hr1
      have hil' : inner.length = xs.length := hil
      have hin' : ∀ cs ∈ inner, cs.length = u.size := hin
      rcases hown.2 with ⟨hv0, _⟩ | ⟨g', cap, cur, hv0, _, hh, hnc', hcm, hcs, htk⟩
      · rw [hρ] at hv0; exact absurd hv0 (by simp)
      · rw [hρ] at hv0
        obtain ⟨rfl, _, rfl⟩ : b = g' ∧ n = xs.length ∧ cp = cap := by simpa using hv0
        have m0 : Map := ⟨fun _ => .slice none 0 0, fun _ => 0, fun _ => 0, fun _ => ⟨rfl, rfl⟩⟩
        obtain ⟨pre, epre, hzr⟩ := zero_rep (w := w) (S := S) (m := m0) u _ _ hzo
        rw [List.append_nil] at epre
        have hzl : z.cells.toList.length = u.size := by rw [epre, hzr.len]; exact zero_run.zero_len u
        have hzrep : Rep w S u u.z z.cells.toList := zero_Rep u _ hz (by rw [epre]; exact hzr)
        have hvl : (Builtin.zeroCells z.cells (k - l)).toList.length = (k - l) * u.size := by rw [zeroCells_flat, flat_len _ (fun c hc => by rw [List.eq_of_mem_replicate hc, hzl]), List.length_replicate]
        have hcs' : cur.size = cp * u.size := hcs
        have hbig : l * u.size + (k - l) * u.size ≤ cp * u.size := by rw [← Nat.add_mul]; exact Nat.mul_le_mul_right _ (by omega)
        have hone : ∀ v ∈ (Builtin.zeroCells z.cells (k - l)).toList, v.oneCell' = true := fun v hv => by
          rw [zeroCells_flat] at hv
          obtain ⟨c, hc, hv⟩ := List.mem_flatten.1 hv
          rw [List.eq_of_mem_replicate hc] at hv
          exact Rep.one _ _ _ hzrep v hv
        have hst := run_storeCells_at P b (l * u.size) e (Builtin.zeroCells z.cells (k - l)).toList 0 cur w hh (by rw [hvl, hcs']; omega) hone
        simp only [Nat.add_zero, hvl] at hst
        refine wp_value (exec (w.setRow b (cur.toList.take (l * u.size) ++ (Builtin.zeroCells z.cells (k - l)).toList ++ cur.toList.drop (l * u.size + (k - l) * u.size)).toArray) ?_) (hn _ S m _ (hput _ ?_))
        · rw [ev, ead]
          obtain ⟨nn, hnn⟩ : ∃ nn, k - l = nn + 1 := ⟨k - l - 1, by omega⟩
          rw [hnn] at hst ⊢
          simp [Builtin.clear_, run_underlying hu, zeroValue, typeInfo, hinf, hzz, hst]
        · have nS : ¬ S b := (hr3 b hob).2.2 rfl
          have hS : ∀ b', S b' → (w.setRow b (cur.toList.take (l * u.size) ++ (Builtin.zeroCells z.cells (k - l)).toList ++ cur.toList.drop (l * u.size + (k - l) * u.size)).toArray).heap[b']? = w.heap[b']? := fun b' hb' =>
            setRow_other w b b' _ (fun e => nS (e ▸ hb'))
          refine hi.writeRow hq rfl rfl rfl hob (grown_setRow w b _) ⟨inner.take l ++ (List.replicate (k - l) z.cells.toList ++ inner.drop k), ?_, ?_, ?_, ?_⟩
          · simp only [List.length_append, List.length_take, List.length_replicate, List.length_drop, hil']
          · have hxl : (xs.take l ++ (List.replicate (k - l) u.z ++ xs.drop k)).length = xs.length := by
              simp only [List.length_append, List.length_take, List.length_replicate, List.length_drop]; omega
            show World.ownsRow _ 0 e u.size (m.ρ q) (xs.take l ++ (List.replicate (k - l) u.z ++ xs.drop k)).length _
            rw [hxl, hρ]
            have hfl := flat_len inner hin'
            have hfe : inner.flatten = cur.toList.take (xs.length * u.size) := htk.symm
            have hL : l * u.size ≤ xs.length * u.size := Nat.mul_le_mul_right _ (by omega)
            have hK : k * u.size ≤ xs.length * u.size := Nat.mul_le_mul_right _ hk
            have hlk' : l * u.size + (k - l) * u.size = k * u.size := by rw [← Nat.add_mul]; congr 1; omega
            have hC : xs.length * u.size ≤ cp * u.size := Nat.mul_le_mul_right _ (by omega)
            have hcl : cur.toList.length = cp * u.size := by rw [Array.length_toList, hcs']
            rw [List.flatten_append, List.flatten_append, ← zeroCells_flat, flat_take inner l hin', flat_drop inner k hin']
            refine ⟨?_, .inr ⟨b, cp, _, by rw [hnx'], Nat.zero_le _, setRow_heap w b cur _ e (0, 0) hh, by omega, hcm, ?_, ?_⟩⟩
            · simp only [List.length_append, List.length_take, List.length_drop, hfl, hil', hvl]; omega
            · simp only [List.size_toArray, List.length_append, List.length_take, List.length_drop, hcl, hvl]; omega
            · have t1 : (cur.toList.take (l * u.size)).length = l * u.size := by rw [List.length_take, hcl]; omega
              rw [hlk', hfe, List.take_take, List.drop_take, Nat.min_eq_left hL]
              show List.take (xs.length * u.size) (cur.toList.take (l * u.size) ++ (Builtin.zeroCells z.cells (k - l)).toList ++ cur.toList.drop (k * u.size)) = _
              have t2 : (cur.toList.take (l * u.size)).take (xs.length * u.size) = cur.toList.take (l * u.size) := List.take_of_length_le (by rw [t1]; exact hL)
              have t3 : (Builtin.zeroCells z.cells (k - l)).toList.take (xs.length * u.size - l * u.size) = (Builtin.zeroCells z.cells (k - l)).toList := List.take_of_length_le (by rw [hvl]; omega)
              rw [List.append_assoc, List.take_append, List.take_append, t1, hvl, t2, t3]
              congr 3
              omega
          · intro cs hcs
            rcases List.mem_append.1 hcs with hcs | hcs
            · exact hin' cs (List.mem_of_mem_take hcs)
            · rcases List.mem_append.1 hcs with hcs | hcs
              · rw [List.eq_of_mem_replicate hcs, hzl]
              · exact hin' cs (List.mem_of_mem_drop hcs)
          · intro j hj cs hcs
            refine Rep.mono hS (fun _ x => x) _ _ _ ?_
            show Rep w S u ((xs.take l ++ (List.replicate (k - l) u.z ++ xs.drop k))[j]'hj) cs
            have tl : (xs.take l).length = l := by rw [List.length_take]; omega
            have til : (inner.take l).length = l := by rw [List.length_take]; omega
            by_cases h1 : j < l
            · rw [List.getElem?_append_left (by omega), List.getElem?_take, if_pos h1] at hcs
              rw [List.getElem_append_left (by omega), List.getElem_take]
              exact hrep j (by show j < xs.length; omega) cs hcs
            · rw [List.getElem?_append_right (by omega), til] at hcs
              rw [List.getElem_append_right (by omega)]
              by_cases h2 : j < k
              · rw [List.getElem?_append_left (by rw [List.length_replicate]; omega), List.getElem?_replicate, if_pos (by omega)] at hcs
                obtain rfl := Option.some.inj hcs
                rw [List.getElem_append_left (by rw [List.length_replicate, tl]; omega), List.getElem_replicate]
                exact hzrep
              · rw [List.getElem?_append_right (by rw [List.length_replicate]; omega), List.length_replicate, List.getElem?_drop] at hcs
                rw [List.getElem_append_right (by rw [List.length_replicate, tl]; omega), List.getElem_drop]
                have hj' : j < xs.length := by
                  have := hj
                  simp only [List.length_append, List.length_take, List.length_replicate, List.length_drop] at this
                  omega
                have ej : k + (j - l - (k - l)) = j := by omega
                have ej2 : k + (j - (xs.take l).length - (List.replicate (k - l) u.z).length) = j := by rw [tl, List.length_replicate]; omega
                rw [ej] at hcs
                have := hrep j hj' cs hcs
                simpa only [ej2] using this
end

end Go.Proofs.YteiefdnhngfojaaGreatDoor.Vm
set_option linter.unusedVariables false
set_option linter.unusedSimpArgs false
namespace Go.Proofs.YteiefdnhngfojaaGreatDoor.Vm
open Go Go.RowKit

/-- A value that is handed over lies in these cells; what is one's own in it takes these blocks. -/
def LayRep (w : World) (S : Nat → Prop) : (t : Ty) → t.T → List Value → List Nat → Prop
  | .own e t, xs, vs, bs => ∃ v, vs = [v] ∧ RowAt w S ⟨e, t, xs, false⟩ v ∧ bs = v.ownBlock.toList
  | .io e t, xs, vs, bs => ∃ v, vs = [v] ∧ RowAt w S ⟨e, t, xs, false⟩ v ∧ bs = v.ownBlock.toList
  | .ref ty t, x, vs, bs => ∃ b arr bs', vs = [.pointer (some ⟨b, 0, none⟩)] ∧ w.heap[b]? = some (.cells arr ty (0, 0)) ∧ LayRep w S t x arr.toList bs' ∧ bs = b :: bs'
  | .pair a b, x, vs, bs => ∃ v1 v2 b1 b2, vs = v1 ++ v2 ∧ bs = b1 ++ b2 ∧ LayRep w S a x.1 v1 b1 ∧ LayRep w S b x.2 v2 b2
  | .struct t, x, vs, bs => LayRep w S t x vs bs
  | .int k, x, vs, bs => Rep w S (.int k) x vs ∧ bs = []
  | .bool, x, vs, bs => Rep w S .bool x vs ∧ bs = []
  | .str, x, vs, bs => Rep w S .str x vs ∧ bs = []
  | .cx, x, vs, bs => Rep w S .cx x vs ∧ bs = []
  | .flt, x, vs, bs => Rep w S .flt x vs ∧ bs = []
  | .list e t, x, vs, bs => Rep w S (.list e t) x vs ∧ bs = []
  | .fn, x, vs, bs => Rep w S .fn x vs ∧ bs = []
  | .fns t, x, vs, bs => Rep w S (.fns t) x vs ∧ bs = []
  | .ptr t, x, vs, bs => Rep w S (.ptr t) x vs ∧ bs = []
/-- A type of one cell in which nothing is one's own. -/
def Ty.leaf : Ty → Bool
  | .own _ _ => false
  | .io _ _ => false
  | .ref _ _ => false
  | .pair _ _ => false
  | .struct _ => false
  | _ => true
theorem LayRep.of_leaf {w : World} {S : Nat → Prop} {t : Ty} (ht : t.leaf = true) {x : t.T} {vs : List Value} {bs : List Nat} : LayRep w S t x vs bs ↔ Rep w S t x vs ∧ bs = [] := by
  cases t <;> first | exact Iff.rfl | exact absurd ht (by simp [Ty.leaf])
def LayArg (w : World) (S : Nat → Prop) (t : Ty) (x : t.T) (u : Value) (bs : List Nat) : Prop :=
  LayRep w S t x u.cells.toList bs ∧ (t.isAgg = true → ∃ arr, u = .agg arr) ∧ (t.isAgg = false → u.cells = #[u])
def LayArgs (w : World) (S : Nat → Prop) : (ts : List Ty) → (tupT ts).T → List Value → List Nat → Prop
  | [], _, us, bs => us = [] ∧ bs = []
  | [t], x, us, bs => ∃ u, us = [u] ∧ LayArg w S t x u bs
  | t :: u :: ts, x, us, bs => ∃ v r b1 b2, us = v :: r ∧ bs = b1 ++ b2 ∧ LayArg w S t (headT x) v b1 ∧ LayArgs w S (u :: ts) (tailT x) r b2

theorem dupN_append {a b : List Nat} : dupN (a ++ b) = false ↔ dupN a = false ∧ dupN b = false ∧ ∀ k ∈ a, k ∉ b := by
  induction a with
  | nil => simp [dupN]
  | cons k a ih =>
    rw [List.cons_append, dupN, dupN, Bool.or_eq_false_iff, Bool.or_eq_false_iff, ih, hasN_false, hasN_false, List.mem_append]
    constructor
    · rintro ⟨h1, h2, h3, h4⟩
      exact ⟨⟨fun h => h1 (.inl h), h2⟩, h3, fun j hj => by
        rcases List.mem_cons.1 hj with rfl | hj
        · exact fun h => h1 (.inr h)
        · exact h4 j hj⟩
    · rintro ⟨⟨h1, h2⟩, h3, h4⟩
      exact ⟨fun h => h.elim h1 (h4 k (by simp)), h2, h3, fun j hj => h4 j (List.mem_cons_of_mem _ hj)⟩

section
variable {w0 w w' : World} {O : Env} {S0 S S' : Nat → Prop} {m m' : Map} {st : St} {tmps : Array Value}

theorem pack_leaf {row : Nat → Option Row} {t : Ty} (ht : t.leaf = true) {c : C} {cs : List C} {x : t.T} {rest : List C} (h : pack row t (c :: cs) = some (x, rest)) : rest = cs ∧ pack row t [c] = some (x, []) := by
  cases t with
  | int k =>
    cases c with
    | int k' n =>
      simp only [pack] at h ⊢
      split at h
      · rename_i hk
        obtain ⟨rfl, rfl⟩ : n = x ∧ cs = rest := by simpa using h
        exact ⟨rfl, if_pos hk⟩
      · exact absurd h (by simp)
    | _ => exact absurd h (by simp [pack])
  | bool =>
    cases c with
    | bool n =>
      obtain ⟨rfl, rfl⟩ : n = x ∧ cs = rest := by simpa [pack] using h
      exact ⟨rfl, rfl⟩
    | _ => exact absurd h (by simp [pack])
  | str =>
    cases c with
    | str n =>
      obtain ⟨rfl, rfl⟩ : n = x ∧ cs = rest := by simpa [pack] using h
      exact ⟨rfl, rfl⟩
    | _ => exact absurd h (by simp [pack])
  | cx =>
    cases c with
    | cx p q =>
      obtain ⟨rfl, rfl⟩ : (p, q) = x ∧ cs = rest := by simpa [pack] using h
      exact ⟨rfl, rfl⟩
    | _ => exact absurd h (by simp [pack])
  | flt =>
    cases c with
    | flt n =>
      obtain ⟨rfl, rfl⟩ : n = x ∧ cs = rest := by simpa [pack] using h
      exact ⟨rfl, rfl⟩
    | _ => exact absurd h (by simp [pack])
  | list e t =>
    simp only [pack] at h ⊢
    cases ha : asList row e t c with
    | none => rw [ha] at h; exact absurd h (by simp)
    | some xs =>
      rw [ha] at h
      obtain ⟨rfl, rfl⟩ : xs = x ∧ cs = rest := by simpa using h
      exact ⟨rfl, rfl⟩
  | fn =>
    cases c with
    | fn n =>
      obtain ⟨rfl, rfl⟩ : n = x ∧ cs = rest := by simpa [pack] using h
      exact ⟨rfl, rfl⟩
    | _ => exact absurd h (by simp [pack])
  | fns t =>
    cases c with
    | fns g t' y =>
      simp only [pack] at h ⊢
      split at h
      · rename_i hk
        subst hk
        obtain ⟨rfl, rfl⟩ : (g, y) = x ∧ cs = rest := by simpa using h
        exact ⟨rfl, by simp⟩
      · exact absurd h (by simp)
    | _ => exact absurd h (by simp [pack])
  | ptr t =>
    cases c with
    | elm t' y j =>
      simp only [pack] at h ⊢
      split at h
      · rename_i hk
        subst hk
        cases hj : Nat.beq j 0 with
        | false => rw [hj] at h; exact absurd h (by simp)
        | true =>
          rw [hj, cond_true] at h
          obtain ⟨rfl, rfl⟩ : y = x ∧ cs = rest := by simpa using h
          exact ⟨rfl, by simp⟩
      · exact absurd h (by simp)
    | _ => exact absurd h (by simp [pack])
  | _ => exact absurd ht (by simp [Ty.leaf])
theorem pack_leaf_nil {row : Nat → Option Row} {t : Ty} (ht : t.leaf = true) {x : t.T} {rest : List C} (h : pack row t [] = some (x, rest)) : False := by
  cases t <;> first | (simp [pack] at h; done) | (simp [Ty.leaf] at ht; done)

/-- A row that is given away, and its block. -/
def Given (m : Map) (row : Nat → Option Row) (ids : List Nat) (g : Nat) : Prop := ∃ r ∈ ids, ∃ q, row r = some q ∧ q.fz = false ∧ (m.ρ r).ownBlock = some g
/-- Rows that may be written lie apart. -/
def Apart (m : Map) (row : Nat → Option Row) : Prop := ∀ r q r' q' g, row r = some q → row r' = some q' → q.fz = false → (m.ρ r).ownBlock = some g → (m.ρ r').ownBlock = some g → r = r'

theorem given_nodup {row : Nat → Option Row} (hap : Apart m row) {i1 i2 : List Nat} (hd : ∀ k ∈ i1, k ∉ i2) {b1 b2 : List Nat} (h1 : b1.Nodup) (h2 : b2.Nodup) (g1 : ∀ g ∈ b1, Given m row i1 g) (g2 : ∀ g ∈ b2, Given m row i2 g) : (b1 ++ b2).Nodup := by
  rw [List.nodup_append]
  refine ⟨h1, h2, fun g hg g' hg' e => ?_⟩
  subst e
  obtain ⟨r, hr, q, e1, e2, e3⟩ := g1 g hg
  obtain ⟨r', hr', q', e4, e5, e6⟩ := g2 g hg'
  have := hap r q r' q' g e1 e4 e2 e3 e6
  exact hd r hr (this ▸ hr')
theorem opt_nodup (o : Option Nat) : o.toList.Nodup := by cases o <;> simp

theorem pack_lay (hSS : ∀ b, S b → S' b) {row : Nat → Option Row} (hap : Apart m row) (hrow : ∀ r q, row r = some q → RowAt w S q (m.ρ r)) : ∀ (t : Ty) (cs : List C) (x : t.T) (rest : List C) (vs : List Value), Stays w S S' m row (stabIn t cs) → dupN (ownIn t cs) = false →
    pack row t cs = some (x, rest) → RepCs w S m cs vs → ∃ v1 v2 bs, vs = v1 ++ v2 ∧ LayRep w S' t x v1 bs ∧ RepCs w S m rest v2 ∧ rest = cs.drop t.size ∧ bs.Nodup ∧ ∀ g ∈ bs, Given m row (ownIn t cs) g := by
  have leaf : ∀ (t : Ty), t.leaf = true → (∀ c cs, stabIn t (c :: cs) = rowsIn [c]) → t.size = 1 → ∀ (cs : List C) (x : t.T) (rest : List C) (vs : List Value), Stays w S S' m row (stabIn t cs) → pack row t cs = some (x, rest) → RepCs w S m cs vs →
      ∃ v1 v2 bs, vs = v1 ++ v2 ∧ LayRep w S' t x v1 bs ∧ RepCs w S m rest v2 ∧ rest = cs.drop t.size ∧ bs.Nodup ∧ ∀ g ∈ bs, Given m row (ownIn t cs) g := fun t ht hst hsz cs x rest vs hs h hr => by
    cases cs with
    | nil => exact (pack_leaf_nil ht h).elim
    | cons c cs =>
      obtain ⟨v, r, e, h1, h2⟩ := hr
      obtain ⟨rfl, hp⟩ := pack_leaf ht h
      rw [hst] at hs
      obtain ⟨w1, w2, e1, r1, r2, _⟩ := pack_rep hSS t [c] x [] [v] hs hp ⟨v, [], rfl, h1, rfl⟩
      rw [show w2 = [] from r2, List.append_nil] at e1
      exact ⟨[v], r, [], e, (LayRep.of_leaf ht).2 ⟨by rw [e1]; exact r1, rfl⟩, h2, by rw [hsz]; rfl, List.nodup_nil, fun g hg => absurd hg (by simp)⟩
  intro t
  induction t with
  | pair ta tb iha ihb =>
    intro cs x rest vs hs hd h hr
    simp only [pack] at h
    rw [ownIn, dupN_append] at hd
    cases h1 : pack row ta cs with
    | none => rw [h1] at h; exact absurd h (by simp)
    | some p =>
      obtain ⟨y, cs'⟩ := p
      rw [h1] at h
      dsimp only at h
      cases h2 : pack row tb cs' with
      | none => rw [h2] at h; exact absurd h (by simp)
      | some p =>
        obtain ⟨z, cs''⟩ := p
        rw [h2] at h
        obtain ⟨rfl, rfl⟩ : (y, z) = x ∧ cs'' = rest := by simpa using h
        obtain ⟨v1, v2, b1, e1, l1, r1, d1, n1, g1⟩ := iha cs y cs' vs (hs.sub (fun r hr => by rw [stabIn, List.mem_append]; exact .inl hr)) hd.1 h1 hr
        subst d1
        obtain ⟨v3, v4, b2, e2, l2, r2, d2, n2, g2⟩ := ihb _ z cs'' v2 (hs.sub (fun r hr => by rw [stabIn, List.mem_append]; exact .inr hr)) hd.2.1 h2 r1
        refine ⟨v1 ++ v3, v4, b1 ++ b2, by rw [e1, e2, List.append_assoc], ⟨v1, v3, b1, b2, rfl, rfl, l1, l2⟩, r2, by rw [d2, List.drop_drop]; rfl, given_nodup hap hd.2.2 n1 n2 g1 g2, fun g hg => ?_⟩
        rw [ownIn]
        rcases List.mem_append.1 hg with hg | hg
        · obtain ⟨r, hr, rest⟩ := g1 g hg; exact ⟨r, List.mem_append.2 (.inl hr), rest⟩
        · obtain ⟨r, hr, rest⟩ := g2 g hg; exact ⟨r, List.mem_append.2 (.inr hr), rest⟩
  | struct t ih => intro cs x rest vs hs hd h hr; exact ih cs x rest vs hs hd (by simpa only [pack] using h) hr
  | own e t _ =>
    intro cs x rest vs hs hd h hr
    cases cs with
    | nil => exact absurd h (by simp [pack])
    | cons c cs =>
      obtain ⟨v, r, e1, h1, h2⟩ := hr
      cases c with
      | row q =>
        obtain ⟨hq, rfl⟩ := pack_own h
        have hv : v = m.ρ q := h1
        refine ⟨[v], r, v.ownBlock.toList, e1, ⟨v, rfl, ?_, rfl⟩, h2, rfl, opt_nodup _, fun g hg => ⟨q, by simp [ownIn], _, hq, rfl, ?_⟩⟩
        · rw [hv]; exact (hrow q _ hq).mono (fun _ _ => rfl) hSS (fun _ _ => rfl)
        · rw [hv] at hg; simpa using hg
      | sub q l k =>
        obtain ⟨rfl, ys, hq, hk, rfl, rfl⟩ := pack_own_sub h
        obtain ⟨ad, n, c, ad', hρ, hv, had⟩ := h1
        have hadd : ad' = ad := (had (.inr rfl)).trans (addr_map_zero _ _)
        subst hadd
        rw [Nat.sub_zero, Nat.sub_zero] at hv
        have hrow' := hrow q _ hq
        rw [hρ] at hrow'
        refine ⟨[v], r, v.ownBlock.toList, e1, ⟨v, rfl, ?_, rfl⟩, h2, rfl, opt_nodup _, fun g hg => ⟨q, by simp [ownIn], _, hq, rfl, ?_⟩⟩
        · rw [hv]; exact (rowAt_take hrow' hk).mono (fun _ _ => rfl) hSS (fun _ _ => rfl)
        · rw [hv] at hg
          rw [hρ]
          cases ad' with
          | none => exact absurd hg (by simp [Value.ownBlock])
          | some A => simpa [Value.ownBlock, eq_comm] using hg
      | nil =>
        obtain ⟨rfl, rfl⟩ : ([] : List t.T) = x ∧ cs = rest := by simpa [pack] using h
        rw [show v = _ from h1] at e1
        exact ⟨[.slice none 0 0], r, [], e1, ⟨_, rfl, rowAt_nil e t false, rfl⟩, h2, rfl, List.nodup_nil, fun g hg => absurd hg (by simp)⟩
      | _ => exact absurd h (by simp [pack])
  | io e t _ =>
    intro cs x rest vs hs hd h hr
    cases cs with
    | nil => exact absurd h (by simp [pack])
    | cons c cs =>
      obtain ⟨v, r, e1, h1, h2⟩ := hr
      cases c with
      | row q =>
        obtain ⟨hq, rfl⟩ := pack_io h
        have hv : v = m.ρ q := h1
        refine ⟨[v], r, v.ownBlock.toList, e1, ⟨v, rfl, ?_, rfl⟩, h2, rfl, opt_nodup _, fun g hg => ⟨q, by simp [ownIn], _, hq, rfl, ?_⟩⟩
        · rw [hv]; exact (hrow q _ hq).mono (fun _ _ => rfl) hSS (fun _ _ => rfl)
        · rw [hv] at hg; simpa using hg
      | _ => exact absurd h (by simp [pack])
  | ref ty t _ => intro cs x rest vs hs hd h hr; cases cs <;> exact absurd h (by simp [pack])
  | int k => intro cs x rest vs hs hd h hr; exact leaf _ rfl (fun _ _ => rfl) rfl cs x rest vs hs h hr
  | bool => intro cs x rest vs hs hd h hr; exact leaf _ rfl (fun _ _ => rfl) rfl cs x rest vs hs h hr
  | str => intro cs x rest vs hs hd h hr; exact leaf _ rfl (fun _ _ => rfl) rfl cs x rest vs hs h hr
  | cx => intro cs x rest vs hs hd h hr; exact leaf _ rfl (fun _ _ => rfl) rfl cs x rest vs hs h hr
  | flt => intro cs x rest vs hs hd h hr; exact leaf _ rfl (fun _ _ => rfl) rfl cs x rest vs hs h hr
  | list e t _ => intro cs x rest vs hs hd h hr; exact leaf _ rfl (fun _ _ => rfl) rfl cs x rest vs hs h hr
  | fn => intro cs x rest vs hs hd h hr; exact leaf _ rfl (fun _ _ => rfl) rfl cs x rest vs hs h hr
  | fns t _ => intro cs x rest vs hs hd h hr; exact leaf _ rfl (fun _ _ => rfl) rfl cs x rest vs hs h hr
  | ptr t _ => intro cs x rest vs hs hd h hr; exact leaf _ rfl (fun _ _ => rfl) rfl cs x rest vs hs h hr
theorem packAll_lay (hSS : ∀ b, S b → S' b) {row : Nat → Option Row} (hap : Apart m row) (hrow : ∀ r q, row r = some q → RowAt w S q (m.ρ r)) {t : Ty} {cs : List C} {x : t.T} {vs : List Value} (hs : Stays w S S' m row (stabIn t cs)) (hd : dupN (ownIn t cs) = false)
    (h : packAll row t cs = some x) (hr : RepCs w S m cs vs) : ∃ bs, LayRep w S' t x vs bs ∧ bs.Nodup ∧ ∀ g ∈ bs, Given m row (ownIn t cs) g := by
  unfold packAll at h
  cases hp : pack row t cs with
  | none => rw [hp] at h; exact absurd h (by simp)
  | some p =>
    obtain ⟨y, rest⟩ := p
    rw [hp] at h
    cases rest with
    | cons c rest => exact absurd h (by simp)
    | nil =>
      obtain rfl : y = x := Option.some.inj h
      obtain ⟨v1, v2, bs, e, r1, r2, _, r4, r5⟩ := pack_lay hSS hap hrow t cs y [] vs hs hd hp hr
      rw [show v2 = [] from r2, List.append_nil] at e
      subst e
      exact ⟨bs, r1, r4, r5⟩

theorem InvM.apart (h : InvM w0 O S0 S m st tmps w) : Apart m st.row := h.rr
end

end Go.Proofs.YteiefdnhngfojaaGreatDoor.Vm
set_option linter.unusedVariables false
set_option linter.unusedSimpArgs false
namespace Go.Proofs.YteiefdnhngfojaaGreatDoor.Vm
open Go Go.RowKit

section
variable {w0 w w' : World} {O : Env} {S0 S S' : Nat → Prop} {m m' : Map} {st : St} {tmps : Array Value}

/-- A block that is given away. -/
def GivenH (m : Map) (st : St) (h : Hand) (g : Nat) : Prop := Given m st.row (h.own ++ h.io) g ∨ ∃ b ∈ h.refs, ∃ q, st.box b = some q ∧ m.β b = g

theorem RepV.arg {v : V} {u : Value} {t : Ty} (h : RepV w S m v u) (hv : (∃ cs, v = .agg cs ∧ t.isAgg = true) ∨ (∃ c, v = .c c ∧ t.isAgg = false)) :
    RepCs w S m v.val u.cells.toList ∧ (t.isAgg = true → ∃ arr, u = .agg arr) ∧ (t.isAgg = false → u.cells = #[u]) := by
  rcases hv with ⟨cs, rfl, ha⟩ | ⟨c, rfl, ha⟩
  · obtain ⟨vs, e, h⟩ := h
    exact ⟨by rw [e]; exact h, fun _ => ⟨vs, e⟩, fun h0 => by rw [ha] at h0; exact absurd h0 (by simp)⟩
  · have h1 := (RepC.one h).2
    exact ⟨by rw [h1]; exact ⟨u, [], rfl, h, rfl⟩, fun h0 => by rw [ha] at h0; exact absurd h0 (by simp), fun _ => h1⟩

theorem arg_lay (hi : InvM w0 O S0 S m st tmps w) (hSS : ∀ b, S b → S' b) {t : Ty} {v : V} {x : t.T} {u : Value} (h : argOf st t v = some x) (hv : RepV w S m v u) (hs : Stays w S S' m st.row (handOf st t v).stab)
    (hsn : ∀ b ∈ (handOf st t v).snaps, ∀ q, st.box b = some q → S' (m.β b)) (hd : dupN ((handOf st t v).own ++ (handOf st t v).io) = false) :
    ∃ bs, LayArg w S' t x u bs ∧ bs.Nodup ∧ ∀ g ∈ bs, GivenH m st (handOf st t v) g := by
  have hrow : ∀ r q, st.row r = some q → RowAt w S q (m.ρ r) := fun r q hq => (hi.rows r q hq).1
  have gen : ∀ {t : Ty} {v : V} {x : t.T}, handOf st t v = ⟨ownIn t v.val, [], [], stabIn t v.val, []⟩ → packAll st.row t v.val = some x → ((∃ cs, v = .agg cs ∧ t.isAgg = true) ∨ (∃ c, v = .c c ∧ t.isAgg = false)) → RepV w S m v u → Stays w S S' m st.row (handOf st t v).stab →
      dupN ((handOf st t v).own ++ (handOf st t v).io) = false → ∃ bs, LayArg w S' t x u bs ∧ bs.Nodup ∧ ∀ g ∈ bs, GivenH m st (handOf st t v) g := fun {t v x} hH hp hag hv hs hd => by
    rw [hH] at hs hd ⊢
    obtain ⟨r1, r2, r3⟩ := hv.arg hag
    obtain ⟨bs, h1, h2, h3⟩ := packAll_lay hSS hi.apart hrow hs (by simpa using hd) hp r1
    exact ⟨bs, ⟨h1, r2, r3⟩, h2, fun g hg => .inl (by simpa using h3 g hg)⟩
  have snap : ∀ {b : Nat} {q : Box} {t : Ty} {x : t.T}, st.box b = some q → packAll st.row t q.cs = some x → Stays w S S' m st.row (rowsIn q.cs) → S' (m.β b) → ∃ cs, S' (m.β b) ∧ Rep w S' t x cs ∧ CellsAt w (m.β b) 0 cs := fun {b q t x} hb hp hs hS' => by
    obtain ⟨_, _, arr, h3, h4⟩ := hi.boxes b q hb
    exact ⟨arr.toList, hS', packAll_rep hSS hs hp h4, cells_of_block h3⟩
  have leafC : ∀ {t : Ty} {c : C} {x : t.T}, t.isAgg = false → handOf st t (.c c) = ⟨ownIn t [c], [], [], stabIn t [c], []⟩ → v = .c c → packAll st.row t [c] = some x → Stays w S S' m st.row (handOf st t (.c c)).stab → dupN ((handOf st t (.c c)).own ++ (handOf st t (.c c)).io) = false →
      ∃ bs, LayArg w S' t x u bs ∧ bs.Nodup ∧ ∀ g ∈ bs, GivenH m st (handOf st t (.c c)) g := fun {t c x} ha hH e hp hs hd =>
    gen (v := .c c) hH hp (.inr ⟨c, rfl, ha⟩) (e ▸ hv) hs hd
  have sing : ∀ {t : Ty} {c : C} {x : t.T}, packAll st.row t [c] = some x → ∃ rest, pack st.row t [c] = some (x, rest) := fun {t c x} h => by
    unfold packAll at h
    cases hp : pack st.row t [c] with
    | none => rw [hp] at h; exact absurd h (by simp)
    | some p =>
      obtain ⟨y, rest⟩ := p
      rw [hp] at h
      cases rest with
      | cons _ _ => exact absurd h (by simp)
      | nil => obtain rfl := Option.some.inj h; exact ⟨[], rfl⟩
  cases v with
  | agg cs =>
    cases t with
    | struct t => exact gen (v := .agg cs) rfl (show packAll st.row (.struct t) cs = some x by simpa [argOf, Ty.isAgg] using h) (.inl ⟨cs, rfl, rfl⟩) hv hs hd
    | _ => exact absurd h (by simp [argOf, Ty.isAgg])
  | c c =>
    cases t with
    | struct t => exact absurd h (by simp [argOf, Ty.isAgg])
    | ref ty t =>
      cases c with
      | box b j =>
        simp only [argOf] at h
        cases hj : Nat.beq j 0 with
        | false => rw [hj] at h; exact absurd h (by simp)
        | true =>
          rw [hj, cond_true] at h
          obtain rfl := Nat.eq_of_beq_eq_true hj
          cases hb : st.box b with
          | none => rw [hb] at h; exact absurd h (by simp)
          | some q =>
            rw [hb] at h
            dsimp only at h
            cases ht : Nat.beq q.ty ty with
            | false => rw [ht] at h; exact absurd h (by simp)
            | true =>
              rw [ht, cond_true] at h
              obtain rfl := Nat.eq_of_beq_eq_true ht
              have hH : handOf st (.ref q.ty t) (.c (.box b 0)) = ⟨ownIn t q.cs, [], [b], stabIn t q.cs, []⟩ := by simp only [handOf, hb]
              rw [hH] at hs hd ⊢
              obtain ⟨_, _, arr, h3, h4⟩ := hi.boxes b q hb
              obtain ⟨bs, g1, g2, g3⟩ := packAll_lay hSS hi.apart hrow hs (by simpa using hd) h h4
              have hu : u = .pointer (some ⟨m.β b, 0, none⟩) := hv
              refine ⟨m.β b :: bs, ⟨⟨m.β b, arr, bs, by rw [hu]; rfl, h3, g1, rfl⟩, fun h0 => absurd h0 (by simp [Ty.isAgg]), fun _ => by rw [hu]; rfl⟩, List.nodup_cons.2 ⟨fun hm => ?_, g2⟩, fun g hg => ?_⟩
              · obtain ⟨r, _, p, hr, _, hg⟩ := g3 _ hm
                exact hi.br b q r p hb hr hg
              · rcases List.mem_cons.1 hg with rfl | hg
                · exact .inr ⟨b, by simp, q, hb, rfl⟩
                · exact .inl (by simpa using g3 g hg)
      | _ => exact absurd h (by simp [argOf, Ty.isAgg, packAll, pack])
    | ptr t =>
      cases c with
      | box b j =>
        simp only [argOf] at h
        cases hj : Nat.beq j 0 with
        | false => rw [hj] at h; exact absurd h (by simp)
        | true =>
          rw [hj, cond_true] at h
          obtain rfl := Nat.eq_of_beq_eq_true hj
          cases hb : st.box b with
          | none => rw [hb] at h; exact absurd h (by simp)
          | some q =>
            rw [hb] at h
            have hH : handOf st (.ptr t) (.c (.box b 0)) = ⟨[], [], [], rowsIn q.cs, [b]⟩ := by simp only [handOf, hb]
            rw [hH] at hs hsn ⊢
            obtain ⟨cs, k1, k2, k3⟩ := snap hb h hs (hsn b (by simp) q hb)
            have hu : u = .pointer (some ⟨m.β b, 0, none⟩) := hv
            exact ⟨[], ⟨⟨⟨m.β b, 0, cs, by rw [hu]; rfl, k1, k2, k3⟩, rfl⟩, fun h0 => absurd h0 (by simp [Ty.isAgg]), fun _ => by rw [hu]; rfl⟩, List.nodup_nil, fun g hg => absurd hg (by simp)⟩
      | elm t' y j => exact leafC rfl rfl rfl (by simpa [argOf, Ty.isAgg] using h) hs hd
      | _ => exact absurd h (by simp [argOf, Ty.isAgg, packAll, pack])
    | fns t =>
      cases c with
      | fnb g b =>
        simp only [argOf] at h
        cases hb : st.box b with
        | none => rw [hb] at h; exact absurd h (by simp)
        | some q =>
          rw [hb] at h
          dsimp only at h
          cases hp : packAll st.row t q.cs with
          | none => rw [hp] at h; exact absurd h (by simp)
          | some y =>
            rw [hp] at h
            obtain rfl := Option.some.inj h
            have hH : handOf st (.fns t) (.c (.fnb g b)) = ⟨[], [], [], rowsIn q.cs, [b]⟩ := by simp only [handOf, hb]
            rw [hH] at hs hsn ⊢
            obtain ⟨cs, k1, k2, k3⟩ := snap hb hp hs (hsn b (by simp) q hb)
            have hu : u = .func (.func g) #[] #[.pointer (some ⟨m.β b, 0, none⟩)] := hv
            exact ⟨[], ⟨⟨⟨m.β b, cs, by rw [hu]; rfl, k1, k2, k3⟩, rfl⟩, fun h0 => absurd h0 (by simp [Ty.isAgg]), fun _ => by rw [hu]; rfl⟩, List.nodup_nil, fun g hg => absurd hg (by simp)⟩
      | fns g t' y => exact leafC rfl rfl rfl (by simpa [argOf, Ty.isAgg] using h) hs hd
      | _ => exact absurd h (by simp [argOf, Ty.isAgg, packAll, pack])
    | io e t =>
      have h' : packAll st.row (.io e t) [c] = some x := by simpa [argOf, Ty.isAgg] using h
      obtain ⟨rest, hp⟩ := sing h'
      cases c with
      | row q =>
        have hH : handOf st (.io e t) (.c (.row q)) = ⟨[], [q], [], [], []⟩ := rfl
        rw [hH] at hs hd ⊢
        obtain ⟨r1, r2, r3⟩ := hv.arg (t := .io e t) (.inr ⟨_, rfl, rfl⟩)
        obtain ⟨bs, h1, h2, h3⟩ := packAll_lay (t := .io e t) hSS hi.apart hrow (by intro r hr; exact absurd hr (by simp [stabIn])) (by simp [ownIn, dupN, hasN, V.val]) h' r1
        exact ⟨bs, ⟨h1, r2, r3⟩, h2, fun g hg => .inl (by simpa [ownIn, V.val] using h3 g hg)⟩
      | _ => exact absurd hp (by simp [pack])
    | pair a b => exact leafC rfl rfl rfl (by simpa [argOf, Ty.isAgg] using h) hs hd
    | int k => exact leafC rfl rfl rfl (by simpa [argOf, Ty.isAgg] using h) hs hd
    | bool => exact leafC rfl rfl rfl (by simpa [argOf, Ty.isAgg] using h) hs hd
    | str => exact leafC rfl rfl rfl (by simpa [argOf, Ty.isAgg] using h) hs hd
    | cx => exact leafC rfl rfl rfl (by simpa [argOf, Ty.isAgg] using h) hs hd
    | flt => exact leafC rfl rfl rfl (by simpa [argOf, Ty.isAgg] using h) hs hd
    | list e t => exact leafC rfl rfl rfl (by simpa [argOf, Ty.isAgg] using h) hs hd
    | fn => exact leafC rfl rfl rfl (by simpa [argOf, Ty.isAgg] using h) hs hd
    | own e t => exact leafC rfl rfl rfl (by simpa [argOf, Ty.isAgg] using h) hs hd
  | _ => exact absurd h (by cases t <;> simp [argOf])

/-- Slots' values, one behind the other. -/
def RepVs (w : World) (S : Nat → Prop) (m : Map) : List V → List Value → Prop
  | [], us => us = []
  | v :: vs, us => ∃ u r, us = u :: r ∧ RepV w S m v u ∧ RepVs w S m vs r

theorem GivenH.apart (hi : InvM w0 O S0 S m st tmps w) {h1 h2 : Hand} (hd : ∀ k ∈ h1.own ++ h1.io, k ∉ h2.own ++ h2.io) (hr : ∀ k ∈ h1.refs, k ∉ h2.refs) {g : Nat} (g1 : GivenH m st h1 g) (g2 : GivenH m st h2 g) : False := by
  rcases g1 with ⟨r, hr1, q, e1, e2, e3⟩ | ⟨b, hb1, q, e1, e2⟩
  · rcases g2 with ⟨r', hr', q', e4, e5, e6⟩ | ⟨b, hb1, q', e4, e5⟩
    · have := hi.rr r q r' q' g e1 e4 e2 e3 e6
      exact hd r hr1 (this ▸ hr')
    · exact hi.br b q' r q e4 e1 (by rw [e3, e5])
  · rcases g2 with ⟨r', hr', q', e4, e5, e6⟩ | ⟨b', hb', q', e4, e5⟩
    · exact hi.br b q r' q' e1 e4 (by rw [e6, e2])
    · have := hi.bb b b' q q' e1 e4 (by rw [e2, e5])
      exact hr b hb1 (this ▸ hb')
theorem GivenH.mono {h1 h2 : Hand} (ho : ∀ k ∈ h1.own ++ h1.io, k ∈ h2.own ++ h2.io) (hr : ∀ k ∈ h1.refs, k ∈ h2.refs) {g : Nat} (h : GivenH m st h1 g) : GivenH m st h2 g := by
  rcases h with ⟨r, hr1, rest⟩ | ⟨b, hb, rest⟩
  · exact .inl ⟨r, ho r hr1, rest⟩
  · exact .inr ⟨b, hr b hb, rest⟩

theorem dup_perm {a b c d : List Nat} (h : dupN (a ++ b ++ (c ++ d)) = false) : dupN (a ++ c) = false ∧ dupN (b ++ d) = false ∧ ∀ k ∈ a ++ c, k ∉ b ++ d := by
  obtain ⟨h1, h2, h3⟩ := dupN_append.1 h
  obtain ⟨h4, h5, h6⟩ := dupN_append.1 h1
  obtain ⟨h7, h8, h9⟩ := dupN_append.1 h2
  refine ⟨dupN_append.2 ⟨h4, h7, fun k hk hc => h3 k (List.mem_append.2 (.inl hk)) (List.mem_append.2 (.inl hc))⟩, dupN_append.2 ⟨h5, h8, fun k hk hc => h3 k (List.mem_append.2 (.inr hk)) (List.mem_append.2 (.inr hc))⟩, fun k hk hc => ?_⟩
  rcases List.mem_append.1 hk with hk | hk
  · rcases List.mem_append.1 hc with hc | hc
    · exact h6 k hk hc
    · exact h3 k (List.mem_append.2 (.inl hk)) (List.mem_append.2 (.inr hc))
  · rcases List.mem_append.1 hc with hc | hc
    · exact h3 k (List.mem_append.2 (.inr hc)) (List.mem_append.2 (.inl hk))
    · exact h9 k hk hc

theorem argsOf_two {t t2 : Ty} {ts : List Ty} {v : V} {vs : List V} : argsOf st (t :: t2 :: ts) (v :: vs) = (match argOf st t v with
    | some x => (match argsOf st (t2 :: ts) vs with
      | some y => some (show t.T × (tupT (t2 :: ts)).T from (x, y))
      | none => none)
    | none => none) := rfl

theorem args_lay (hi : InvM w0 O S0 S m st tmps w) (hSS : ∀ b, S b → S' b) (vs : List V) : ∀ (ts : List Ty) (x : (tupT ts).T) (us : List Value), argsOf st ts vs = some x → RepVs w S m vs us → Stays w S S' m st.row (handAll st ts vs).stab →
    (∀ b ∈ (handAll st ts vs).snaps, ∀ q, st.box b = some q → S' (m.β b)) → dupN ((handAll st ts vs).own ++ (handAll st ts vs).io) = false → dupN (handAll st ts vs).refs = false →
      ∃ bs, LayArgs w S' ts x us bs ∧ bs.Nodup ∧ ∀ g ∈ bs, GivenH m st (handAll st ts vs) g := by
  induction vs with
  | nil =>
    intro ts x us h hv _ _ _ _
    match ts, x, h with
    | [], x, _ => exact ⟨[], ⟨hv, rfl⟩, List.nodup_nil, fun g hg => absurd hg (by simp)⟩
    | [t], x, h => exact absurd (show (none : Option t.T) = some x from h) (by simp)
    | t :: t2 :: ts, x, h => exact absurd (show (none : Option (tupT (t :: t2 :: ts)).T) = some x from h) (by simp)
  | cons v vs ih =>
    intro ts x us h hv hs hsn hd hr
    obtain ⟨u, r, e, h1, h2⟩ := hv
    match ts, x, h, hs, hsn, hd, hr with
    | [], x, h, _, _, _, _ => exact absurd (show (none : Option Bool) = some x from h) (by simp)
    | [t], x, h, hs, hsn, hd, hr =>
      cases vs with
      | cons v2 vs => exact absurd (show (none : Option t.T) = some x from h) (by simp)
      | nil =>
        have ha : argOf st t v = some x := h
        have hH : handAll st [t] [v] = handOf st t v := by
          simp only [handAll, List.append_nil]
        rw [hH] at hs hsn hd hr ⊢
        obtain ⟨bs, g1, g2, g3⟩ := arg_lay hi hSS ha h1 hs hsn hd
        exact ⟨bs, ⟨u, by rw [e, show r = [] from h2], g1⟩, g2, g3⟩
    | t :: t2 :: ts', x, h, hs, hsn, hd, hr =>
      rw [argsOf_two] at h
      cases ha : argOf st t v with
      | none => rw [ha] at h; exact absurd h (by simp)
      | some y =>
        rw [ha] at h
        dsimp only at h
        cases hb : argsOf st (t2 :: ts') vs with
        | none => rw [hb] at h; exact absurd h (by simp)
        | some z =>
          rw [hb] at h
          have hx := Option.some.inj h
          have hH : handAll st (t :: t2 :: ts') (v :: vs) = ⟨(handOf st t v).own ++ (handAll st (t2 :: ts') vs).own, (handOf st t v).io ++ (handAll st (t2 :: ts') vs).io, (handOf st t v).refs ++ (handAll st (t2 :: ts') vs).refs,
              (handOf st t v).stab ++ (handAll st (t2 :: ts') vs).stab, (handOf st t v).snaps ++ (handAll st (t2 :: ts') vs).snaps⟩ := rfl
          rw [hH] at hs hsn hd hr ⊢
          obtain ⟨d1, d2, d3⟩ := dup_perm hd
          obtain ⟨d4, d5, d6⟩ := dupN_append.1 hr
          obtain ⟨b1, g1, g2, g3⟩ := arg_lay hi hSS ha h1 (hs.sub (fun k hk => List.mem_append.2 (.inl hk))) (fun b hb => hsn b (List.mem_append.2 (.inl hb))) d1
          obtain ⟨b2, g4, g5, g6⟩ := ih (t2 :: ts') z r hb h2 (hs.sub (fun k hk => List.mem_append.2 (.inr hk))) (fun b hb => hsn b (List.mem_append.2 (.inr hb))) d2 d5
          refine ⟨b1 ++ b2, ⟨u, r, b1, b2, e, rfl, ?_, ?_⟩, List.nodup_append.2 ⟨g2, g5, fun g hg g' hg' e' => ?_⟩, fun g hg => ?_⟩
          · rw [← hx]; exact g1
          · rw [← hx]; exact g4
          · subst e'
            exact GivenH.apart hi d3 d6 (g3 g hg) (g6 g hg')
          · rcases List.mem_append.1 hg with hg | hg
            · refine GivenH.mono (fun k hk => ?_) (fun k hk => List.mem_append.2 (.inl hk)) (g3 g hg)
              rcases List.mem_append.1 hk with hk | hk
              · exact List.mem_append.2 (.inl (List.mem_append.2 (.inl hk)))
              · exact List.mem_append.2 (.inr (List.mem_append.2 (.inl hk)))
            · refine GivenH.mono (fun k hk => ?_) (fun k hk => List.mem_append.2 (.inr hk)) (g6 g hg)
              rcases List.mem_append.1 hk with hk | hk
              · exact List.mem_append.2 (.inl (List.mem_append.2 (.inr hk)))
              · exact List.mem_append.2 (.inr (List.mem_append.2 (.inr hk)))
end

end Go.Proofs.YteiefdnhngfojaaGreatDoor.Vm
set_option linter.unusedVariables false
set_option linter.unusedSimpArgs false
namespace Go.Proofs.YteiefdnhngfojaaGreatDoor.Vm
open Go Go.RowKit

theorem St.ext' {a b : St} (h1 : a.nt = b.nt) (h2 : a.lo = b.lo) (h3 : a.slot = b.slot) (h4 : a.box = b.box) (h5 : a.row = b.row) (h6 : a.used = b.used) : a = b := by
  cases a; cases b; simp_all
theorem lk_append {α : Type} (l r : List (Nat × α)) (n : Nat) : lk (l ++ r) n = match lk l n with | some v => some v | none => lk r n := by
  induction l with
  | nil => rfl
  | cons p l ih =>
    obtain ⟨k, v⟩ := p
    rw [List.cons_append, lk_cons, lk_cons]
    by_cases h : k = n
    · simp [h]
    · simp [h, ih]
theorem keys_append {α : Type} (l r : List (Nat × α)) : keys (l ++ r) = keys l ++ keys r := by
  induction l with
  | nil => rfl
  | cons p l ih => obtain ⟨k, v⟩ := p; rw [List.cons_append, keys, keys, ih, List.cons_append]
/-- Rows and variables come in. -/
def St.addL (st : St) (rows : List (Nat × Row)) (boxes : List (Nat × Box)) : St :=
  { st with
    row := fun k => match lk rows k with | some q => some q | none => st.row k
    box := fun k => match lk boxes k with | some q => some q | none => st.box k
    used := fun k => hasN (keys boxes ++ keys rows) k || st.used k }
theorem addL_nil (st : St) : st.addL [] [] = st := rfl
theorem addL_row (st : St) (id : Nat) (q : Row) : st.addL [(id, q)] [] = st.addRow id q := by
  refine St.ext' rfl rfl rfl rfl ?_ rfl
  funext k
  show (match lk [(id, q)] k with | some q => some q | none => st.row k) = upd st.row id q k
  rw [lk_cons, upd_at]
  by_cases e : id = k
  · rw [if_pos e, if_pos e]
  · rw [if_neg e, if_neg e]; rfl
theorem addL_box (st : St) (rs : List (Nat × Row)) (bs : List (Nat × Box)) (id : Nat) (q : Box) : st.addL rs ((id, q) :: bs) = (st.addL rs bs).addBox id q := by
  refine St.ext' rfl rfl rfl ?_ rfl ?_
  · funext k
    show (match lk ((id, q) :: bs) k with | some q => some q | none => st.box k) = upd _ id q k
    rw [lk_cons, upd_at]
    by_cases e : id = k
    · rw [if_pos e, if_pos e]
    · rw [if_neg e, if_neg e]; rfl
  · funext k
    show (hasN (id :: (keys bs ++ keys rs)) k || st.used k) = (hasN [id] k || (hasN (keys bs ++ keys rs) k || st.used k))
    rw [hasN, hasN_one]
    by_cases e : id = k
    · subst e; simp
    · rw [beq_ne e]; simp [e]
theorem addL_addL (st : St) {r1 r2 : List (Nat × Row)} {b1 b2 : List (Nat × Box)} (hr : ∀ k ∈ keys r1, k ∉ keys r2) (hb : ∀ k ∈ keys b1, k ∉ keys b2) : (st.addL r1 b1).addL r2 b2 = st.addL (r1 ++ r2) (b1 ++ b2) := by
  refine St.ext' rfl rfl rfl ?_ ?_ ?_
  · funext k
    show (match lk b2 k with | some q => some q | none => (match lk b1 k with | some q => some q | none => st.box k)) = (match lk (b1 ++ b2) k with | some q => some q | none => st.box k)
    rw [lk_append]
    cases h1 : lk b1 k with
    | none => rfl
    | some q => rw [lk_none (hb k (lk_keys h1))]
  · funext k
    show (match lk r2 k with | some q => some q | none => (match lk r1 k with | some q => some q | none => st.row k)) = (match lk (r1 ++ r2) k with | some q => some q | none => st.row k)
    rw [lk_append]
    cases h1 : lk r1 k with
    | none => rfl
    | some q => rw [lk_none (hr k (lk_keys h1))]
  · funext k
    show (hasN (keys b2 ++ keys r2) k || (hasN (keys b1 ++ keys r1) k || st.used k)) = (hasN (keys (b1 ++ b2) ++ keys (r1 ++ r2)) k || st.used k)
    rw [← Bool.or_assoc]
    congr 1
    rw [Bool.eq_iff_iff, Bool.or_eq_true, hasN_iff, hasN_iff, hasN_iff, keys_append, keys_append]
    simp only [List.mem_append]
    constructor
    · rintro ((h | h) | (h | h))
      · exact .inl (.inr h)
      · exact .inr (.inr h)
      · exact .inl (.inl h)
      · exact .inr (.inl h)
    · rintro ((h | h) | (h | h))
      · exact .inr (.inl h)
      · exact .inl (.inl h)
      · exact .inr (.inr h)
      · exact .inl (.inr h)

theorem Agree.trans {m m' m'' : Map} {k : Nat} (h1 : Agree m m' k) (h2 : Agree m' m'' k) : Agree m m'' k := ⟨h2.1.trans h1.1, h2.2.1.trans h1.2.1, h2.2.2.trans h1.2.2⟩
theorem Agree.refl {m : Map} {k : Nat} : Agree m m k := ⟨rfl, rfl, rfl⟩
theorem unpack_ids : ∀ (t : Ty) (x : t.T), idsCs (unpack t x) = []
  | .int _, _ => rfl
  | .bool, _ => rfl
  | .str, _ => rfl
  | .cx, _ => rfl
  | .flt, _ => rfl
  | .list _ _, _ => rfl
  | .pair a b, x => by rw [unpack, mem_idsCs_append, unpack_ids a, unpack_ids b]; rfl
  | .struct t, x => unpack_ids t x
  | .fn, _ => rfl
  | .fns _, _ => rfl
  | .ptr _, _ => rfl
  | .own _ _, _ => rfl
  | .io _ _, _ => rfl
  | .ref _ _, _ => rfl
theorem lay_leaf {t : Ty} (ht : t.leaf = true) (x : t.T) (id : Nat) : lay t x id = ⟨unpack t x, [], []⟩ := by
  cases t <;> first | rfl | (simp [Ty.leaf] at ht; done)

section
variable {w0 w w' : World} {O : Env} {S0 S S' : Nat → Prop} {m m' : Map} {st : St} {tmps : Array Value}

/-- Nothing in the activation lies in these blocks; they may be written. -/
def Free (w0 : World) (O : Env) (S : Nat → Prop) (m : Map) (st : St) (bs : List Nat) : Prop :=
  ∀ g ∈ bs, Own O w0 g ∧ ¬ S g ∧ (∀ b q, st.box b = some q → m.β b ≠ g) ∧ ∀ r q, st.row r = some q → (m.ρ r).ownBlock ≠ some g
/-- What has come in takes these blocks. -/
def Takes (m m' : Map) (st st' : St) (bs : List Nat) : Prop :=
  (∀ b q, st'.box b = some q → (∃ q0, st.box b = some q0 ∧ m'.β b = m.β b) ∨ m'.β b ∈ bs) ∧
  ∀ r q, st'.row r = some q → (∃ q0, st.row r = some q0 ∧ m'.ρ r = m.ρ r) ∨ ∀ g, (m'.ρ r).ownBlock = some g → g ∈ bs
theorem Free.next {b1 b2 : List Nat} {st' : St} (h : Free w0 O S m st b2) (ht : Takes m m' st st' b1) (hd : ∀ g ∈ b1, g ∉ b2) : Free w0 O S m' st' b2 := fun g hg => by
  obtain ⟨h1, h2, h3, h4⟩ := h g hg
  refine ⟨h1, h2, fun b q hb e => ?_, fun r q hr e => ?_⟩
  · rcases ht.1 b q hb with ⟨q0, hq0, e2⟩ | hm
    · exact h3 b q0 hq0 (by rw [← e2]; exact e)
    · exact hd _ hm (e ▸ hg)
  · rcases ht.2 r q hr with ⟨q0, hq0, e2⟩ | hm
    · exact h4 r q0 hq0 (by rw [← e2]; exact e)
    · exact hd _ (hm g e) hg
theorem Takes.mono {st' : St} {b1 b2 : List Nat} (h : Takes m m' st st' b1) (hs : ∀ g ∈ b1, g ∈ b2) : Takes m m' st st' b2 :=
  ⟨fun b q hb => (h.1 b q hb).imp id (hs _), fun r q hr => (h.2 r q hr).imp id (fun h g hg => hs g (h g hg))⟩
theorem Takes.trans {m'' : Map} {st' st'' : St} {b1 b2 : List Nat} (h1 : Takes m m' st st' b1) (h2 : Takes m' m'' st' st'' b2) : Takes m m'' st st'' (b1 ++ b2) := by
  refine ⟨fun b q hb => ?_, fun r q hr => ?_⟩
  · rcases h2.1 b q hb with ⟨q0, hq0, e⟩ | hm
    · rcases h1.1 b q0 hq0 with ⟨q1, hq1, e1⟩ | hm
      · exact .inl ⟨q1, hq1, e.trans e1⟩
      · exact .inr (List.mem_append.2 (.inl (e ▸ hm)))
    · exact .inr (List.mem_append.2 (.inr hm))
  · rcases h2.2 r q hr with ⟨q0, hq0, e⟩ | hm
    · rcases h1.2 r q0 hq0 with ⟨q1, hq1, e1⟩ | hm
      · exact .inl ⟨q1, hq1, e.trans e1⟩
      · exact .inr (fun g hg => List.mem_append.2 (.inl (hm g (e ▸ hg))))
    · exact .inr (fun g hg => List.mem_append.2 (.inr (hm g hg)))
theorem Takes.refl : Takes m m st st [] := ⟨fun b q hb => .inl ⟨q, hb, rfl⟩, fun r q hr => .inl ⟨q, hr, rfl⟩⟩

theorem addL_used {rows : List (Nat × Row)} {boxes : List (Nat × Box)} {k : Nat} (h : (st.addL rows boxes).used k = false) : st.used k = false := (Bool.or_eq_false_iff.1 h).2
theorem used_addL {rows : List (Nat × Row)} {boxes : List (Nat × Box)} {k : Nat} (h : st.used k = false) (hk : k ∉ keys boxes ++ keys rows) : (st.addL rows boxes).used k = false := Bool.or_eq_false_iff.2 ⟨hasN_false.2 hk, h⟩
theorem addL_mono {rows : List (Nat × Row)} {boxes : List (Nat × Box)} {k : Nat} (h : st.used k = true) : (st.addL rows boxes).used k = true := by show (_ || st.used k) = true; rw [h, Bool.or_true]
theorem addL_new {rows : List (Nat × Row)} {boxes : List (Nat × Box)} {k : Nat} (h : k ∈ keys boxes ++ keys rows) : (st.addL rows boxes).used k = true := by show (hasN _ k || _) = true; rw [(hasN_iff _ _).2 h, Bool.true_or]

theorem Closed.addBox (h : Closed st) (id : Nat) (q : Box) (hq : ∀ k ∈ idsCs q.cs, st.used k = true) : Closed (st.addBox id q) := by
  have mono : ∀ k, st.used k = true → (st.addBox id q).used k = true := fun k hk => by show (_ || st.used k) = true; rw [hk, Bool.or_true]
  refine ⟨fun t v k ht hk => mono k (h.us t v k ht hk), fun b q' hb => ?_, fun b q' k hb hk => ?_, fun r q' hr => mono r (h.ur r q' hr)⟩
  · rw [show (st.addBox id q).box = upd st.box id q from rfl, upd_at] at hb
    by_cases e : id = b
    · show (hasN [id] b || _) = true; rw [hasN_one, decide_eq_true e, Bool.true_or]
    · rw [if_neg e] at hb; exact mono b (h.ub b q' hb)
  · rw [show (st.addBox id q).box = upd st.box id q from rfl, upd_at] at hb
    by_cases e : id = b
    · rw [if_pos e] at hb
      obtain rfl := Option.some.inj hb
      exact mono k (hq k hk)
    · rw [if_neg e] at hb; exact mono k (h.uc b q' k hb hk)

/-- What holds when something has been laid down. -/
structure Laid (w0 : World) (O : Env) (S0 S : Nat → Prop) (m : Map) (st : St) (tmps : Array Value) (w : World) (bs : List Nat) (rows : List (Nat × Row)) (boxes : List (Nat × Box)) (m' : Map) : Prop where
  agree : ∀ k, st.used k = true → Agree m m' k
  inv : InvM w0 O S0 S m' (st.addL rows boxes) tmps w
  closed : Closed (st.addL rows boxes)
  takes : Takes m m' st (st.addL rows boxes) bs

theorem lay_inv : ∀ (t : Ty) (x : t.T) (id : Nat) {m : Map} {st : St}, InvM w0 O S0 S m st tmps w → Closed st → ∀ {vs : List Value} {bs : List Nat}, LayRep w S t x vs bs → bs.Nodup → Free w0 O S m st bs →
    (∀ k ∈ keys (lay t x id).boxes ++ keys (lay t x id).rows, st.used k = false) → dupN (keys (lay t x id).boxes ++ keys (lay t x id).rows) = false →
    ∃ m', Laid w0 O S0 S m st tmps w bs (lay t x id).rows (lay t x id).boxes m' ∧ RepCs w S m' (lay t x id).cs vs ∧ ∀ k ∈ idsCs (lay t x id).cs, k ∈ keys (lay t x id).boxes ++ keys (lay t x id).rows := by
  have leaf : ∀ (t : Ty), t.leaf = true → ∀ (x : t.T) (id : Nat) {m : Map} {st : St}, InvM w0 O S0 S m st tmps w → Closed st → ∀ {vs : List Value} {bs : List Nat}, LayRep w S t x vs bs →
      ∃ m', Laid w0 O S0 S m st tmps w bs (lay t x id).rows (lay t x id).boxes m' ∧ RepCs w S m' (lay t x id).cs vs ∧ ∀ k ∈ idsCs (lay t x id).cs, k ∈ keys (lay t x id).boxes ++ keys (lay t x id).rows := by
    intro t ht x id m st hi hc vs bs hr
    obtain ⟨h1, rfl⟩ := (LayRep.of_leaf ht).1 hr
    rw [lay_leaf ht]
    exact ⟨m, ⟨fun _ _ => .refl, hi, hc, .refl⟩, unpack_rep t x vs h1, fun k hk => by rw [show (Lay.mk (unpack t x) [] []).cs = unpack t x from rfl, unpack_ids] at hk; exact absurd hk (by simp)⟩
  have rowCase : ∀ (e : TypeId) (t : Ty) (xs : List t.T) (id : Nat) {m : Map} {st : St}, InvM w0 O S0 S m st tmps w → Closed st → ∀ {vs : List Value} {bs : List Nat}, (∃ v, vs = [v] ∧ RowAt w S ⟨e, t, xs, false⟩ v ∧ bs = v.ownBlock.toList) → Free w0 O S m st bs → st.used id = false →
      ∃ m', Laid w0 O S0 S m st tmps w bs [(id, ⟨e, t, xs, false⟩)] [] m' ∧ RepCs w S m' [.row id] vs ∧ ∀ k ∈ idsCs [C.row id], k ∈ keys ([] : List (Nat × Box)) ++ keys [(id, (⟨e, t, xs, false⟩ : Row))] := by
    rintro e t xs id m st hi hc vs bs ⟨v, rfl, hrow, rfl⟩ hf hid
    have hblk : ∀ g, v.ownBlock = some g → g ∈ v.ownBlock.toList := fun g hg => by rw [hg]; simp
    have h2 := hi.addRow hc hid ⟨e, t, xs, false⟩ v hrow (fun g hg => ⟨(hf g (hblk g hg)).1, fun h => absurd h (by simp), fun _ => (hf g (hblk g hg)).2.1⟩)
      (fun b q' hb e' => (hf _ (hblk _ e')).2.2.1 b q' hb rfl) (fun r' q' g hr hg => (hf g (hblk g hg)).2.2.2 r' q' hr)
    refine ⟨_, ⟨fun k hk => agree_setRow (used_ne hid hk), by rw [addL_row]; exact h2, by rw [addL_row]; exact hc.addRow _ _, ⟨fun b q hb => .inl ⟨q, hb, rfl⟩, fun r q hr => ?_⟩⟩, ⟨v, [], rfl, ?_, rfl⟩, fun k hk => by simpa [idsCs, idsC, keys] using hk⟩
    · rw [addL_row] at hr
      rw [show (st.addRow id ⟨e, t, xs, false⟩).row = upd st.row id _ from rfl, upd_at] at hr
      by_cases e' : id = r
      · refine .inr (fun g hg => hblk g ?_)
        simpa [Map.setRow, e'] using hg
      · rw [if_neg e'] at hr
        exact .inl ⟨q, hr, if_neg (fun x => e' x.symm)⟩
    · show v = (m.setRow id v t.size hrow.one).ρ id
      simp [Map.setRow]
  intro t
  induction t with
  | own e t _ => intro x id m st hi hc vs bs hr hn hf hu hd; exact rowCase e t x id hi hc hr hf (hu id (by simp [lay, keys]))
  | io e t _ => intro x id m st hi hc vs bs hr hn hf hu hd; exact rowCase e t x id hi hc hr hf (hu id (by simp [lay, keys]))
  | struct t ih => intro x id m st hi hc vs bs hr hn hf hu hd; exact ih x id hi hc hr hn hf hu hd
  | pair ta tb iha ihb =>
    rintro x id m st hi hc vs bs ⟨v1, v2, b1, b2, rfl, rfl, h1, h2⟩ hn hf hu hd
    obtain ⟨n1, n2, n3⟩ := List.nodup_append.1 hn
    have hL : lay (.pair ta tb) x id = ⟨(lay ta x.1 id).cs ++ (lay tb x.2 (id + ta.ids)).cs, (lay ta x.1 id).rows ++ (lay tb x.2 (id + ta.ids)).rows, (lay ta x.1 id).boxes ++ (lay tb x.2 (id + ta.ids)).boxes⟩ := rfl
    rw [hL] at hu hd ⊢
    dsimp only at hu hd ⊢
    rw [keys_append, keys_append] at hu hd
    obtain ⟨d1, d2, d3⟩ := dup_perm hd
    obtain ⟨m1, l1, r1, i1⟩ := iha x.1 id hi hc h1 n1 (fun g hg => hf g (List.mem_append.2 (.inl hg))) (fun k hk => hu k (by
      rcases List.mem_append.1 hk with hk | hk
      · exact List.mem_append.2 (.inl (List.mem_append.2 (.inl hk)))
      · exact List.mem_append.2 (.inr (List.mem_append.2 (.inl hk))))) d1
    have hu2 : ∀ k ∈ keys (lay tb x.2 (id + ta.ids)).boxes ++ keys (lay tb x.2 (id + ta.ids)).rows, st.used k = false := fun k hk => hu k (by
      rcases List.mem_append.1 hk with hk | hk
      · exact List.mem_append.2 (.inl (List.mem_append.2 (.inr hk)))
      · exact List.mem_append.2 (.inr (List.mem_append.2 (.inr hk))))
    obtain ⟨m2, l2, r2, i2⟩ := ihb x.2 (id + ta.ids) l1.inv l1.closed h2 n2 (Free.next (fun g hg => hf g (List.mem_append.2 (.inr hg))) l1.takes (fun g hg hg' => n3 g hg g hg' rfl))
      (fun k hk => used_addL (hu2 k hk) (fun hk1 => d3 k hk1 hk)) d2
    have hadd := addL_addL st (r1 := (lay ta x.1 id).rows) (r2 := (lay tb x.2 (id + ta.ids)).rows) (b1 := (lay ta x.1 id).boxes) (b2 := (lay tb x.2 (id + ta.ids)).boxes)
      (fun k h h' => d3 k (List.mem_append.2 (.inr h)) (List.mem_append.2 (.inr h'))) (fun k h h' => d3 k (List.mem_append.2 (.inl h)) (List.mem_append.2 (.inl h')))
    have hinv := l2.inv
    have hclo := l2.closed
    have htak := Takes.trans l1.takes l2.takes
    rw [hadd] at hinv hclo htak
    refine ⟨m2, ⟨fun k hk => (l1.agree k hk).trans (l2.agree k (addL_mono hk)), hinv, hclo, htak⟩, RepCs.append (RepCs.map (m := m1) (m' := m2) _ _ (fun k hk => l2.agree k (addL_new (i1 k hk))) r1) r2, fun k hk => ?_⟩
    rw [mem_idsCs_append, List.mem_append] at hk
    rw [keys_append, keys_append]
    rcases hk with hk | hk
    · rcases List.mem_append.1 (i1 k hk) with hk | hk
      · exact List.mem_append.2 (.inl (List.mem_append.2 (.inl hk)))
      · exact List.mem_append.2 (.inr (List.mem_append.2 (.inl hk)))
    · rcases List.mem_append.1 (i2 k hk) with hk | hk
      · exact List.mem_append.2 (.inl (List.mem_append.2 (.inr hk)))
      · exact List.mem_append.2 (.inr (List.mem_append.2 (.inr hk)))
  | ref ty t ih =>
    rintro x id m st hi hc vs bs ⟨b, arr, bs', rfl, hh, h1, rfl⟩ hn hf hu hd
    obtain ⟨nb, n1⟩ := List.nodup_cons.1 hn
    have hL : lay (.ref ty t) x id = ⟨[.box id 0], (lay t x (id + 1)).rows, (id, ⟨ty, (lay t x (id + 1)).cs⟩) :: (lay t x (id + 1)).boxes⟩ := rfl
    rw [hL] at hu hd ⊢
    dsimp only at hu hd ⊢
    have hd' : dupN (id :: (keys (lay t x (id + 1)).boxes ++ keys (lay t x (id + 1)).rows)) = false := hd
    rw [dupN, Bool.or_eq_false_iff, hasN_false] at hd'
    have hid : st.used id = false := hu id (by simp [keys])
    obtain ⟨m1, l1, r1, i1⟩ := ih x (id + 1) hi hc h1 n1 (fun g hg => hf g (List.mem_cons_of_mem _ hg)) (fun k hk => hu k (List.mem_cons_of_mem _ hk)) hd'.2
    have hid1 : (st.addL (lay t x (id + 1)).rows (lay t x (id + 1)).boxes).used id = false := used_addL hid hd'.1
    obtain ⟨f1, f2, f3, f4⟩ := hf b (by simp)
    have hbox : ∀ b' q, (st.addL (lay t x (id + 1)).rows (lay t x (id + 1)).boxes).box b' = some q → m1.β b' ≠ b := fun b' q hb e => by
      rcases l1.takes.1 b' q hb with ⟨q0, hq0, e2⟩ | hm
      · exact f3 b' q0 hq0 (by rw [← e2]; exact e)
      · exact nb (e ▸ hm)
    have hrow : ∀ r q, (st.addL (lay t x (id + 1)).rows (lay t x (id + 1)).boxes).row r = some q → (m1.ρ r).ownBlock ≠ some b := fun r q hr e => by
      rcases l1.takes.2 r q hr with ⟨q0, hq0, e2⟩ | hm
      · exact f4 r q0 hq0 (by rw [← e2]; exact e)
      · exact nb (hm b e)
    have hcs : ∀ k ∈ idsCs (lay t x (id + 1)).cs, (st.addL (lay t x (id + 1)).rows (lay t x (id + 1)).boxes).used k = true := fun k hk => addL_new (i1 k hk)
    have h2 := l1.inv.addBox l1.closed hid1 ⟨ty, (lay t x (id + 1)).cs⟩ b f1 f2 hh r1 hcs hbox hrow
    refine ⟨_, ⟨fun k hk => (l1.agree k hk).trans (agree_setBox (used_ne hid1 (addL_mono hk))), by rw [addL_box]; exact h2, by rw [addL_box]; exact l1.closed.addBox _ _ hcs, ⟨fun b' q hb => ?_, fun r q hr => ?_⟩⟩, ⟨_, [], rfl, ?_, rfl⟩, fun k hk => by
      have : k = id := by simpa [idsCs, idsC] using hk
      rw [this]; simp [keys]⟩
    · rw [addL_box] at hb
      rw [show ((st.addL (lay t x (id + 1)).rows (lay t x (id + 1)).boxes).addBox id _).box = upd _ id _ from rfl, upd_at] at hb
      by_cases e : id = b'
      · refine .inr ?_
        have : (m1.setBox id b).β b' = b := if_pos e.symm
        rw [this]; simp
      · rw [if_neg e] at hb
        have eβ : (m1.setBox id b).β b' = m1.β b' := if_neg (fun x => e x.symm)
        rw [eβ]
        rcases l1.takes.1 b' q hb with h | h
        · exact .inl h
        · exact .inr (List.mem_cons_of_mem _ h)
    · rcases l1.takes.2 r q hr with h | h
      · exact .inl h
      · exact .inr (fun g hg => List.mem_cons_of_mem _ (h g hg))
    · show _ = Value.pointer (some ⟨(m1.setBox id b).β id, 0, none⟩)
      simp [Map.setBox]
  | int k => intro x id m st hi hc vs bs hr _ _ _ _; exact leaf _ rfl x id hi hc hr
  | bool => intro x id m st hi hc vs bs hr _ _ _ _; exact leaf _ rfl x id hi hc hr
  | str => intro x id m st hi hc vs bs hr _ _ _ _; exact leaf _ rfl x id hi hc hr
  | cx => intro x id m st hi hc vs bs hr _ _ _ _; exact leaf _ rfl x id hi hc hr
  | flt => intro x id m st hi hc vs bs hr _ _ _ _; exact leaf _ rfl x id hi hc hr
  | list e t _ => intro x id m st hi hc vs bs hr _ _ _ _; exact leaf _ rfl x id hi hc hr
  | fn => intro x id m st hi hc vs bs hr _ _ _ _; exact leaf _ rfl x id hi hc hr
  | fns t _ => intro x id m st hi hc vs bs hr _ _ _ _; exact leaf _ rfl x id hi hc hr
  | ptr t _ => intro x id m st hi hc vs bs hr _ _ _ _; exact leaf _ rfl x id hi hc hr
end

end Go.Proofs.YteiefdnhngfojaaGreatDoor.Vm
