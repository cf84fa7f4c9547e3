-- Printed by a program of this claim's session (xprint.py): the machine's side, checked by Lean.
import Derived.Test.YtncfadhcpmokiaaDoorPBx0
namespace Go.Proofs.YtncfadhcpmokiaaDoor.PB
open Go.Proofs.YtncfadhcpmokiaaDoor.GotoKit Go.Proofs.YtncfadhcpmokiaaDoor.Ext Go.Proofs.YtncfadhcpmokiaaDoor.PA Go.Proofs.YtncfadhcpmokiaaDoor.Told
open Go.RowKit Go.Proofs.YtncfadhcpmokiaaDoorW.PrintWords Go.Proofs.YtncfadhcpmokiaaDoorW.PrintLast Go.Proofs.YtncfadhcpmokiaaDoorW.PrintMore
attribute [local go_sem] max2_int min2_int max_two min_two max_three min_three max_four min_four   -- for this text's walks alone
set_option linter.unusedVariables false
set_option linter.unusedSimpArgs false

/-! ### steamerlaw1_PathNames: function 6 -/
mutual
def steamerlaw1_PathNames.j0 : Nat → ByteArray → Bool → Option (Bool)
  | 0, _, _ => none
  | k + 1, x0, x3 => steamerlaw1_PathNames.l0 k x0 x3 0
def steamerlaw1_PathNames.l0 : Nat → ByteArray → Bool → Int → Option (Bool)
  | 0, _, _, _ => none
  | k + 1, x0, x3, x4 => if x4 < (x0.size : Int) then (if x3 = true then (steamerlaw1_PathNames.l0 k x0 true (wrap64 (x4 + 1))) else (if 0 ≤ x4 then (if (bt x0 x4) = 47 then (steamerlaw1_PathNames.l0 k x0 true (wrap64 (x4 + 1))) else (steamerlaw1_PathNames.l0 k x0 ((bt x0 x4) == 0) (wrap64 (x4 + 1)))) else (none))) else ((path_Join.f k (⟨#[97]⟩ : ByteArray) x0).bind fun bt220 => ((steamerlaw1_told.f).bind fun t222 => (if t222 = true then ((path_Name.f x0).bind fun t223 => (if (t223 == (!x3)) = true then (if ((bt220.2 == 0) == (!x3)) = true then (if x3 = true then (some true) else ((path_May.f k x0).bind fun t224 => (if t224 = true then ((path_Last.f k x0).bind fun t225 => (if t225.toList = x0.toList then ((path_Depth.f k x0).bind fun t226 => (some (t226 == 1))) else (some false))) else (some false)))) else (some false)) else (some false))) else (some false))))
end
def steamerlaw1_PathNames.f (k : Nat) (a0 : ByteArray) : Option (Bool) := if (a0.size : Int) > 30 then ((steamerlaw1_told.f).bind fun t219 => (some t219)) else (if (a0.size : Int) = 0 then (steamerlaw1_PathNames.j0 k a0 true) else (if (a0.size : Int) > 20 then (steamerlaw1_PathNames.j0 k a0 true) else (if a0.toList = ([46] : List UInt8) then (steamerlaw1_PathNames.j0 k a0 true) else (steamerlaw1_PathNames.j0 k a0 (a0.toList == ([46, 46] : List UInt8))))))
theorem steamerlaw1_PathNames.mono_l : ∀ k, (∀ y0 y1, LeO (steamerlaw1_PathNames.j0 k y0 y1) (steamerlaw1_PathNames.j0 (k + 1) y0 y1)) ∧ (∀ y0 y1 y2, LeO (steamerlaw1_PathNames.l0 k y0 y1 y2) (steamerlaw1_PathNames.l0 (k + 1) y0 y1 y2))
  | 0 => ⟨fun _ _ r h => by simp [steamerlaw1_PathNames.j0] at h, fun _ _ _ r h => by simp [steamerlaw1_PathNames.l0] at h⟩
  | k + 1 => by
    obtain ⟨ih0, ih1⟩ := steamerlaw1_PathNames.mono_l k
    refine ⟨?_, ?_⟩
    · intro y0 y1
      unfold steamerlaw1_PathNames.j0
      repeat' first
      | (with_reducible exact ih0 _ _)
      | (with_reducible exact ih1 _ _ _)
      | (with_reducible exact path_Depth.mono _ _)
      | (with_reducible exact path_Join.mono _ _ _)
      | (with_reducible exact path_Last.mono _ _)
      | (with_reducible exact path_May.mono _ _)
      | (with_reducible exact LeO.refl _)
      | (with_reducible exact LeO.none _)
      | (with_reducible refine LeO.ite ?_ ?_)
      | (with_reducible refine LeO.bind ?_ (fun _ => ?_))
      | exact ih0 _ _
      | exact ih1 _ _ _
      | exact path_Depth.mono _ _
      | exact path_Join.mono _ _ _
      | exact path_Last.mono _ _
      | exact path_May.mono _ _
      | exact LeO.none _
      | refine LeO.ite ?_ ?_
      | refine LeO.bind ?_ (fun _ => ?_)
    · intro y0 y1 y2
      unfold steamerlaw1_PathNames.l0
      repeat' first
      | (with_reducible exact ih0 _ _)
      | (with_reducible exact ih1 _ _ _)
      | (with_reducible exact path_Depth.mono _ _)
      | (with_reducible exact path_Join.mono _ _ _)
      | (with_reducible exact path_Last.mono _ _)
      | (with_reducible exact path_May.mono _ _)
      | (with_reducible exact LeO.refl _)
      | (with_reducible exact LeO.none _)
      | (with_reducible refine LeO.ite ?_ ?_)
      | (with_reducible refine LeO.bind ?_ (fun _ => ?_))
      | exact ih0 _ _
      | exact ih1 _ _ _
      | exact path_Depth.mono _ _
      | exact path_Join.mono _ _ _
      | exact path_Last.mono _ _
      | exact path_May.mono _ _
      | exact LeO.none _
      | refine LeO.ite ?_ ?_
      | refine LeO.bind ?_ (fun _ => ?_)
theorem steamerlaw1_PathNames.mono : ∀ a0 k, LeO (steamerlaw1_PathNames.f k a0) (steamerlaw1_PathNames.f (k + 1) a0) := by
  intro a0 k
  obtain ⟨ih0, ih1⟩ := steamerlaw1_PathNames.mono_l k
  unfold steamerlaw1_PathNames.f
  repeat' first
      | (with_reducible exact ih0 _ _)
      | (with_reducible exact ih1 _ _ _)
      | (with_reducible exact path_Depth.mono _ _)
      | (with_reducible exact path_Join.mono _ _ _)
      | (with_reducible exact path_Last.mono _ _)
      | (with_reducible exact path_May.mono _ _)
      | (with_reducible exact LeO.refl _)
      | (with_reducible exact LeO.none _)
      | (with_reducible refine LeO.ite ?_ ?_)
      | (with_reducible refine LeO.bind ?_ (fun _ => ?_))
      | exact ih0 _ _
      | exact ih1 _ _ _
      | exact path_Depth.mono _ _
      | exact path_Join.mono _ _ _
      | exact path_Last.mono _ _
      | exact path_May.mono _ _
      | exact LeO.none _
      | refine LeO.ite ?_ ?_
      | refine LeO.bind ?_ (fun _ => ?_)
set_option maxHeartbeats 8000000 in
set_option maxRecDepth 100000 in
theorem steamerlaw1_PathNames.calls (k : Nat) (a0 : ByteArray) (r : Bool) (w : World) (hr_ : r = true) (h : steamerlaw1_PathNames.f k a0 = some r) :
    Calls Tryd.prog 6 #[.string a0] w fun e w' => e = .returned (.bool r) ∧ Below w.heap.size w w' := by
  have HB := Aside0.mk (Below.refl w.heap.size w)
  have H : (if (a0.size : Int) > 30 then ((steamerlaw1_told.f).bind fun t219 => (some t219)) else (if (a0.size : Int) = 0 then (steamerlaw1_PathNames.j0 k a0 true) else (if (a0.size : Int) > 20 then (steamerlaw1_PathNames.j0 k a0 true) else (if a0.toList = ([46] : List UInt8) then (steamerlaw1_PathNames.j0 k a0 true) else (steamerlaw1_PathNames.j0 k a0 (a0.toList == ([46, 46] : List UInt8))))))) = some r := h
  clear h
  by_cases c2 : (a0.size : Int) > 30
  · rw [if_pos c2] at H
    have c2b0 : decide (30 < (a0.size : Int)) = true := decide_eq_true c2
    have c2b1 : decide (30 < a0.size) = true := decide_eq_true (by omega)
    clear c2
    replace H := Option.bind_eq_some_iff.mp H
    obtain ⟨t219, A30, H⟩ := H
    replace H : (some t219) = some r := H
    have A3 := Aside0.mk A30
    clear A30
    obtain rfl := Option.some.inj H
    go_enter Tryd.func6, Tryd.ntmps6
    go_wp2_with (first | (go_at_call 8; (with_reducible refine (steamerlaw1_told.calls  t219 _ A3.out).mono ?_); rintro e w4 ⟨rfl, hb⟩; have n0_ := Aside0.mk (below_step (by repeat (first | (with_reducible first | exact HB.out | apply below_alloc | apply pw_below_drewN | apply below_drew1) | exact HB.out)) hb); clear HB; have HB := n0_; clear n0_; (try clear hb); (try clear hb2); (try clear hk); (try clear hi)))
    go_ret
    exact ⟨by first | rfl | (simp [errW_none, errW_some] <;> rfl) | (simp [*, errW_none, errW_some] <;> rfl), by repeat (first | (with_reducible first | exact HB.out | apply below_alloc | apply pw_below_drewN | apply below_drew1) | exact HB.out)⟩
  · rw [if_neg c2] at H
    have c2b0 : decide (30 < (a0.size : Int)) = false := decide_eq_false c2
    have c2b1 : decide (30 < a0.size) = false := decide_eq_false (by omega)
    clear c2
    have HC5 := Aside0.mk H
    clear H
    go_enter Tryd.func6, Tryd.ntmps6
    go_upto_region 3 with (fail)
    go_cut [3] (fun v3 wc => ∃ (kq : Nat) (x3_4 : Bool), v3 = .bool x3_4 ∧ Aside0 (steamerlaw1_PathNames.j0 kq a0 x3_4 = some r) ∧ Aside0 (kq ≤ k) ∧ Aside0 (Below w.heap.size w wc))
    case first =>
      have H := HC5.out
      clear HC5
      by_cases c6 : (a0.size : Int) = 0
      · rw [if_pos c6] at H
        have c6b0 : ((a0.size : Int) == 0) = true := beq_iff_eq.mpr c6
        have c6b1 : ((a0.size : Int) != 0) = false := bne_eq_false_iff_eq.mpr c6
        clear c6
        (first | rw [c6b0] | (simp only [i64_w, i32_w]; rw [c6b0]) | skip)
        have H' := Aside0.mk H
        clear H
        go_wp2
        go_meet
        case rel => exact ⟨_, (true), (by first | rfl | (simp; done) | (simp [*]; done)), H', ⟨by first | omega | exact Nat.le_refl _⟩, ⟨by repeat (first | (with_reducible first | exact HB.out | apply below_alloc | apply pw_below_drewN | apply below_drew1) | exact HB.out)⟩⟩
      · rw [if_neg c6] at H
        have c6b0 : ((a0.size : Int) == 0) = false := beq_eq_false_iff_ne.mpr c6
        have c6b1 : ((a0.size : Int) != 0) = true := bne_iff_ne.mpr c6
        (first | rw [c6b0] | (simp only [i64_w, i32_w]; rw [c6b0]) | skip)
        by_cases c7 : (a0.size : Int) > 20
        · rw [if_pos c7] at H
          have c7b0 : decide (20 < (a0.size : Int)) = true := decide_eq_true c7
          have c7b1 : decide (20 < a0.size) = true := decide_eq_true (by omega)
          clear c7
          have H' := Aside0.mk H
          clear H
          go_wp2
          go_meet
          case rel => exact ⟨_, (true), (by first | rfl | (simp; done) | (simp [*]; done)), H', ⟨by first | omega | exact Nat.le_refl _⟩, ⟨by repeat (first | (with_reducible first | exact HB.out | apply below_alloc | apply pw_below_drewN | apply below_drew1) | exact HB.out)⟩⟩
        · rw [if_neg c7] at H
          have c7b0 : decide (20 < (a0.size : Int)) = false := decide_eq_false c7
          have c7b1 : decide (20 < a0.size) = false := decide_eq_false (by omega)
          clear c7
          by_cases c8 : a0.toList = ([46] : List UInt8)
          · rw [if_pos c8] at H
            have c8b0 : (a0.toList == ([46] : List UInt8)) = true := beq_iff_eq.mpr c8
            have c8b1 : (a0.toList != ([46] : List UInt8)) = false := bne_eq_false_iff_eq.mpr c8
            clear c8
            have H' := Aside0.mk H
            clear H
            go_wp2
            go_meet
            case rel => exact ⟨_, (true), (by first | rfl | (simp; done) | (simp [*]; done)), H', ⟨by first | omega | exact Nat.le_refl _⟩, ⟨by repeat (first | (with_reducible first | exact HB.out | apply below_alloc | apply pw_below_drewN | apply below_drew1) | exact HB.out)⟩⟩
          · rw [if_neg c8] at H
            have c8b0 : (a0.toList == ([46] : List UInt8)) = false := beq_eq_false_iff_ne.mpr c8
            have c8b1 : (a0.toList != ([46] : List UInt8)) = true := bne_iff_ne.mpr c8
            have H' := Aside0.mk H
            clear H
            go_wp2
            go_meet
            case rel => exact ⟨_, ((a0.toList == ([46, 46] : List UInt8))), (by first | rfl | (simp; done) | (simp [*]; done)), H', ⟨by first | omega | exact Nat.le_refl _⟩, ⟨by repeat (first | (with_reducible first | exact HB.out | apply below_alloc | apply pw_below_drewN | apply below_drew1) | exact HB.out)⟩⟩
    case rest =>
      clear HC5
      try clear c2
      try clear c2b0
      try clear c2b1
      try clear p2
      try clear c6
      try clear c6b0
      try clear c6b1
      try clear c7
      try clear c7b0
      try clear c7b1
      try clear c8
      try clear c8b0
      try clear c8b1
      obtain ⟨kq, x3_4, rfl, HA, HJ4, HB⟩ := hcut
      cases kq with
      | zero => exact absurd HA.out (by simp [steamerlaw1_PathNames.j0])
      | succ kj4 =>
        have H := HA.out
        clear HA
        simp only [steamerlaw1_PathNames.j0] at H
        have H' := Aside0.mk H
        clear H
        go_wp2
        go_loopg [3, 4] kj4 (fun kq v3 v4 w' => ∃ (x3_2 : Bool) (x4_2 : Int), v3 = .bool x3_2 ∧ v4 = .int .i64 x4_2 ∧ Aside0 (steamerlaw1_PathNames.l0 kq a0 x3_2 x4_2 = some r) ∧ Aside0 (kq ≤ kj4) ∧ Aside0 (Below w.heap.size w w'))
        case atStart => exact ⟨(x3_4), (0), (by first | rfl | (simp; done) | (simp [*]; done)), (by first | rfl | (simp; done) | (simp [*]; done)), H', ⟨Nat.le_refl _⟩, ⟨by repeat (first | (with_reducible first | exact HB.out | apply below_alloc | apply pw_below_drewN | apply below_drew1) | exact HB.out)⟩⟩
        case round =>
          clear H'
          try clear c2
          try clear c2b0
          try clear c2b1
          try clear p2
          try clear c6
          try clear c6b0
          try clear c6b1
          try clear c7
          try clear c7b0
          try clear c7b1
          try clear c8
          try clear c8b0
          try clear c8b1
          try clear p2
          obtain ⟨x3_2, x4_2, rfl, rfl, HA, HK2, HB⟩ := hrel
          cases gk with
          | zero => exact absurd HA.out (by simp [steamerlaw1_PathNames.l0])
          | succ k2 =>
            have H := HA.out
            clear HA
            simp only [steamerlaw1_PathNames.l0] at H
            by_cases c9 : x4_2 < (a0.size : Int)
            · rw [if_pos c9] at H
              have c9b0 : decide (x4_2 < (a0.size : Int)) = true := decide_eq_true c9
              clear c9
              by_cases c10 : x3_2 = true
              · subst c10
                have H1 : (steamerlaw1_PathNames.l0 k2 a0 true (wrap64 (x4_2 + 1))) = some r := by rw [if_pos rfl] at H; exact H
                clear H
                have H := H1
                clear H1
                have H' := Aside0.mk H
                clear H
                go_wp2
                go_roundg k2
                case measure => have := HJ4.out; have := HK2.out; omega
                case rel => exact ⟨(true), (wrap64 (x4_2 + 1)), (by first | rfl | (simp; done) | (simp [*]; done)), (by first | rfl | (simp; done) | (simp [*]; done)), H', ⟨by have := HJ4.out; have := HK2.out; omega⟩, ⟨by repeat (first | (with_reducible first | exact HB.out | apply below_alloc | apply pw_below_drewN | apply below_drew1) | exact HB.out)⟩⟩
              · replace c10 := Bool.eq_false_iff.mpr c10
                subst c10
                have H1 : (if 0 ≤ x4_2 then (if (bt a0 x4_2) = 47 then (steamerlaw1_PathNames.l0 k2 a0 true (wrap64 (x4_2 + 1))) else (steamerlaw1_PathNames.l0 k2 a0 ((bt a0 x4_2) == 0) (wrap64 (x4_2 + 1)))) else (none)) = some r := by rw [if_neg (show ¬ (false = true) by decide)] at H; exact H
                clear H
                have H := H1
                clear H1
                by_cases c11 : 0 ≤ x4_2
                · rw [if_pos c11] at H
                  have c11b0 : decide (0 ≤ x4_2) = true := decide_eq_true c11
                  clear c11
                  by_cases c13 : (bt a0 x4_2) = 47
                  · rw [if_pos c13] at H
                    have c13b0 : ((bt a0 x4_2) == 47) = true := beq_iff_eq.mpr c13
                    have c13b1 : ((bt a0 x4_2) != 47) = false := bne_eq_false_iff_eq.mpr c13
                    clear c13
                    have H' := Aside0.mk H
                    clear H
                    have p12 : 0 ≤ (x4_2 : Int) := of_decide_eq_true (by first | (with_reducible assumption) | assumption)
                    have q12 : x4_2 < (a0.size : Int) := of_decide_eq_true (by first | (with_reducible assumption) | assumption)
                    have hx12 := bt_at a0 x4_2
                    replace p12 := eq_true p12
                    replace q12 := eq_true q12
                    go_wp2
                    go_roundg k2
                    case measure => have := HJ4.out; have := HK2.out; omega
                    case rel => exact ⟨(true), (wrap64 (x4_2 + 1)), (by first | rfl | (simp; done) | (simp [*]; done)), (by first | rfl | (simp; done) | (simp [*]; done)), H', ⟨by have := HJ4.out; have := HK2.out; omega⟩, ⟨by repeat (first | (with_reducible first | exact HB.out | apply below_alloc | apply pw_below_drewN | apply below_drew1) | exact HB.out)⟩⟩
                  · rw [if_neg c13] at H
                    have c13b0 : ((bt a0 x4_2) == 47) = false := beq_eq_false_iff_ne.mpr c13
                    have c13b1 : ((bt a0 x4_2) != 47) = true := bne_iff_ne.mpr c13
                    have H' := Aside0.mk H
                    clear H
                    have p12 : 0 ≤ (x4_2 : Int) := of_decide_eq_true (by first | (with_reducible assumption) | assumption)
                    have q12 : x4_2 < (a0.size : Int) := of_decide_eq_true (by first | (with_reducible assumption) | assumption)
                    have hx12 := bt_at a0 x4_2
                    replace p12 := eq_true p12
                    replace q12 := eq_true q12
                    have p14 : 0 ≤ (x4_2 : Int) := of_decide_eq_true (by first | (with_reducible assumption) | assumption)
                    have q14 : x4_2 < (a0.size : Int) := of_decide_eq_true (by first | (with_reducible assumption) | assumption)
                    have hx14 := bt_at a0 x4_2
                    replace p14 := eq_true p14
                    replace q14 := eq_true q14
                    go_wp2
                    go_roundg k2
                    case measure => have := HJ4.out; have := HK2.out; omega
                    case rel => exact ⟨(((bt a0 x4_2) == 0)), (wrap64 (x4_2 + 1)), (by first | rfl | (simp; done) | (simp [*]; done)), (by first | rfl | (simp; done) | (simp [*]; done)), H', ⟨by have := HJ4.out; have := HK2.out; omega⟩, ⟨by repeat (first | (with_reducible first | exact HB.out | apply below_alloc | apply pw_below_drewN | apply below_drew1) | exact HB.out)⟩⟩
                · rw [if_neg c11] at H
                  exact absurd H (by simp)
            · rw [if_neg c9] at H
              have c9b0 : decide (x4_2 < (a0.size : Int)) = false := decide_eq_false c9
              clear c9
              replace H := Option.bind_eq_some_iff.mp H
              obtain ⟨⟨t220, t221⟩, A150, H⟩ := H
              replace H : ((steamerlaw1_told.f).bind fun t222 => (if t222 = true then ((path_Name.f a0).bind fun t223 => (if (t223 == (!x3_2)) = true then (if ((t221 == 0) == (!x3_2)) = true then (if x3_2 = true then (some true) else ((path_May.f k2 a0).bind fun t224 => (if t224 = true then ((path_Last.f k2 a0).bind fun t225 => (if t225.toList = a0.toList then ((path_Depth.f k2 a0).bind fun t226 => (some (t226 == 1))) else (some false))) else (some false)))) else (some false)) else (some false))) else (some false))) = some r := H
              have A15 := Aside0.mk A150
              clear A150
              replace H := Option.bind_eq_some_iff.mp H
              obtain ⟨t222, A160, H⟩ := H
              replace H : (if t222 = true then ((path_Name.f a0).bind fun t223 => (if (t223 == (!x3_2)) = true then (if ((t221 == 0) == (!x3_2)) = true then (if x3_2 = true then (some true) else ((path_May.f k2 a0).bind fun t224 => (if t224 = true then ((path_Last.f k2 a0).bind fun t225 => (if t225.toList = a0.toList then ((path_Depth.f k2 a0).bind fun t226 => (some (t226 == 1))) else (some false))) else (some false)))) else (some false)) else (some false))) else (some false)) = some r := H
              have A16 := Aside0.mk A160
              clear A160
              by_cases c17 : t222 = true
              · subst c17
                have H1 : ((path_Name.f a0).bind fun t223 => (if (t223 == (!x3_2)) = true then (if ((t221 == 0) == (!x3_2)) = true then (if x3_2 = true then (some true) else ((path_May.f k2 a0).bind fun t224 => (if t224 = true then ((path_Last.f k2 a0).bind fun t225 => (if t225.toList = a0.toList then ((path_Depth.f k2 a0).bind fun t226 => (some (t226 == 1))) else (some false))) else (some false)))) else (some false)) else (some false))) = some r := by rw [if_pos rfl] at H; exact H
                clear H
                have H := H1
                clear H1
                replace H := Option.bind_eq_some_iff.mp H
                obtain ⟨t223, A180, H⟩ := H
                replace H : (if (t223 == (!x3_2)) = true then (if ((t221 == 0) == (!x3_2)) = true then (if x3_2 = true then (some true) else ((path_May.f k2 a0).bind fun t224 => (if t224 = true then ((path_Last.f k2 a0).bind fun t225 => (if t225.toList = a0.toList then ((path_Depth.f k2 a0).bind fun t226 => (some (t226 == 1))) else (some false))) else (some false)))) else (some false)) else (some false)) = some r := H
                have A18 := Aside0.mk A180
                clear A180
                by_cases c19 : (t223 == (!x3_2)) = true
                · rw [if_pos c19] at H
                  have c19b0 : (t223 == (!x3_2)) = true := c19
                  (try (have c19b1 : decide (t223 = (!x3_2)) = true := by simpa using c19))
                  (try (have c19b2 : (t223 == (!x3_2)) = true := by simpa using c19))
                  clear c19
                  by_cases c20 : ((t221 == 0) == (!x3_2)) = true
                  · rw [if_pos c20] at H
                    have c20b0 : ((t221 == 0) == (!x3_2)) = true := c20
                    (try (have c20b1 : decide ((t221 == 0) = (!x3_2)) = true := by simpa using c20))
                    (try (have c20b2 : ((t221 == 0) == (!x3_2)) = true := by simpa using c20))
                    clear c20
                    by_cases c21 : x3_2 = true
                    · subst c21
                      have e19 : t223 = false := by simpa using c19b0
                      have e20 : (t221 == 0) = false := by simpa using c20b0
                      clear c19b0 c19b1 c19b2 c20b0 c20b1 c20b2
                      have H1 : (some true) = some r := by rw [if_pos rfl] at H; exact H
                      clear H
                      have H := H1
                      clear H1
                      obtain rfl := Option.some.inj H
                      go_wp2_with (first | ((with_reducible refine gate_callee (f := 11) rfl ?_); refine goesL_ (some 48) rfl rfl Tryd.func11 (by kernel_rfl) rfl #[.string (⟨#[97]⟩ : ByteArray), .string a0] rfl (by (try simp only [List.map_toArray, List.map_cons, List.map_nil]); first | done | rfl | (simp only [List.length_drop, List.length_take]; rfl)) ?_; (with_reducible refine (path_Join.calls k2 (⟨#[97]⟩ : ByteArray) a0 t220 t221 _ A15.out).mono ?_); rintro e w22 ⟨rfl, hb⟩; refine ⟨_, rfl, ?_⟩; have n0_ := Aside0.mk (below_step (by repeat (first | (with_reducible first | exact HB.out | apply below_alloc | apply pw_below_drewN | apply below_drew1) | exact HB.out)) hb); clear HB; have HB := n0_; clear n0_; (try clear hb); (try clear hb2); (try clear hk); (try clear hi)) | (go_at_call 8; (with_reducible refine (steamerlaw1_told.calls  true _ A16.out).mono ?_); rintro e w23 ⟨rfl, hb⟩; have n0_ := Aside0.mk (below_step (by repeat (first | (with_reducible first | exact HB.out | apply below_alloc | apply pw_below_drewN | apply below_drew1) | exact HB.out)) hb); clear HB; have HB := n0_; clear n0_; (try clear hb); (try clear hb2); (try clear hk); (try clear hi)) | (go_at_call 13; (with_reducible refine (path_Name.calls a0 t223 _ A18.out).mono ?_); rintro e w24 ⟨rfl, hb⟩; have n0_ := Aside0.mk (below_step (by repeat (first | (with_reducible first | exact HB.out | apply below_alloc | apply pw_below_drewN | apply below_drew1) | exact HB.out)) hb); clear HB; have HB := n0_; clear n0_; (try clear hb); (try clear hb2); (try clear hk); (try clear hi)))
                      go_ret
                      exact ⟨by first | rfl | (simp [errW_none, errW_some] <;> rfl) | (simp [*, errW_none, errW_some] <;> rfl), by repeat (first | (with_reducible first | exact HB.out | apply below_alloc | apply pw_below_drewN | apply below_drew1) | exact HB.out)⟩
                    · replace c21 := Bool.eq_false_iff.mpr c21
                      subst c21
                      have e19 : t223 = true := by simpa using c19b0
                      have e20 : (t221 == 0) = true := by simpa using c20b0
                      clear c19b0 c19b1 c19b2 c20b0 c20b1 c20b2
                      have H1 : ((path_May.f k2 a0).bind fun t224 => (if t224 = true then ((path_Last.f k2 a0).bind fun t225 => (if t225.toList = a0.toList then ((path_Depth.f k2 a0).bind fun t226 => (some (t226 == 1))) else (some false))) else (some false))) = some r := by rw [if_neg (show ¬ (false = true) by decide)] at H; exact H
                      clear H
                      have H := H1
                      clear H1
                      replace H := Option.bind_eq_some_iff.mp H
                      obtain ⟨t224, A250, H⟩ := H
                      replace H : (if t224 = true then ((path_Last.f k2 a0).bind fun t225 => (if t225.toList = a0.toList then ((path_Depth.f k2 a0).bind fun t226 => (some (t226 == 1))) else (some false))) else (some false)) = some r := H
                      have A25 := Aside0.mk A250
                      clear A250
                      by_cases c26 : t224 = true
                      · subst c26
                        have H1 : ((path_Last.f k2 a0).bind fun t225 => (if t225.toList = a0.toList then ((path_Depth.f k2 a0).bind fun t226 => (some (t226 == 1))) else (some false))) = some r := by rw [if_pos rfl] at H; exact H
                        clear H
                        have H := H1
                        clear H1
                        replace H := Option.bind_eq_some_iff.mp H
                        obtain ⟨t225, A270, H⟩ := H
                        replace H : (if t225.toList = a0.toList then ((path_Depth.f k2 a0).bind fun t226 => (some (t226 == 1))) else (some false)) = some r := H
                        have A27 := Aside0.mk A270
                        clear A270
                        by_cases c28 : t225.toList = a0.toList
                        · rw [if_pos c28] at H
                          have c28b0 : (t225.toList == a0.toList) = true := beq_iff_eq.mpr c28
                          have c28b1 : (t225.toList != a0.toList) = false := bne_eq_false_iff_eq.mpr c28
                          clear c28
                          replace H := Option.bind_eq_some_iff.mp H
                          obtain ⟨t226, A290, H⟩ := H
                          replace H : (some (t226 == 1)) = some r := H
                          have A29 := Aside0.mk A290
                          clear A290
                          obtain rfl := Option.some.inj H
                          go_wp2_with (first | ((with_reducible refine gate_callee (f := 11) rfl ?_); refine goesL_ (some 48) rfl rfl Tryd.func11 (by kernel_rfl) rfl #[.string (⟨#[97]⟩ : ByteArray), .string a0] rfl (by (try simp only [List.map_toArray, List.map_cons, List.map_nil]); first | done | rfl | (simp only [List.length_drop, List.length_take]; rfl)) ?_; (with_reducible refine (path_Join.calls k2 (⟨#[97]⟩ : ByteArray) a0 t220 t221 _ A15.out).mono ?_); rintro e w30 ⟨rfl, hb⟩; refine ⟨_, rfl, ?_⟩; have n0_ := Aside0.mk (below_step (by repeat (first | (with_reducible first | exact HB.out | apply below_alloc | apply pw_below_drewN | apply below_drew1) | exact HB.out)) hb); clear HB; have HB := n0_; clear n0_; (try clear hb); (try clear hb2); (try clear hk); (try clear hi)) | (go_at_call 8; (with_reducible refine (steamerlaw1_told.calls  true _ A16.out).mono ?_); rintro e w31 ⟨rfl, hb⟩; have n0_ := Aside0.mk (below_step (by repeat (first | (with_reducible first | exact HB.out | apply below_alloc | apply pw_below_drewN | apply below_drew1) | exact HB.out)) hb); clear HB; have HB := n0_; clear n0_; (try clear hb); (try clear hb2); (try clear hk); (try clear hi)) | (go_at_call 13; (with_reducible refine (path_Name.calls a0 t223 _ A18.out).mono ?_); rintro e w32 ⟨rfl, hb⟩; have n0_ := Aside0.mk (below_step (by repeat (first | (with_reducible first | exact HB.out | apply below_alloc | apply pw_below_drewN | apply below_drew1) | exact HB.out)) hb); clear HB; have HB := n0_; clear n0_; (try clear hb); (try clear hb2); (try clear hk); (try clear hi)) | (go_at_call 15; (with_reducible refine (path_May.calls k2 a0 true _ A25.out).mono ?_); rintro e w33 ⟨rfl, hb⟩; have n0_ := Aside0.mk (below_step (by repeat (first | (with_reducible first | exact HB.out | apply below_alloc | apply pw_below_drewN | apply below_drew1) | exact HB.out)) hb); clear HB; have HB := n0_; clear n0_; (try clear hb); (try clear hb2); (try clear hk); (try clear hi)) | (go_at_call 22; (with_reducible refine (path_Last.calls k2 a0 t225 _ A27.out).mono ?_); rintro e w34 ⟨rfl, hb⟩; have n0_ := Aside0.mk (below_step (by repeat (first | (with_reducible first | exact HB.out | apply below_alloc | apply pw_below_drewN | apply below_drew1) | exact HB.out)) hb); clear HB; have HB := n0_; clear n0_; (try clear hb); (try clear hb2); (try clear hk); (try clear hi)) | (go_at_call 20; (with_reducible refine (path_Depth.calls k2 a0 t226 _ A29.out).mono ?_); rintro e w35 ⟨rfl, hb⟩; have n0_ := Aside0.mk (below_step (by repeat (first | (with_reducible first | exact HB.out | apply below_alloc | apply pw_below_drewN | apply below_drew1) | exact HB.out)) hb); clear HB; have HB := n0_; clear n0_; (try clear hb); (try clear hb2); (try clear hk); (try clear hi)))
                          go_ret
                          exact ⟨by first | rfl | (simp [errW_none, errW_some] <;> rfl) | (simp [*, errW_none, errW_some] <;> rfl), by repeat (first | (with_reducible first | exact HB.out | apply below_alloc | apply pw_below_drewN | apply below_drew1) | exact HB.out)⟩
                        · rw [if_neg c28] at H
                          have c28b0 : (t225.toList == a0.toList) = false := beq_eq_false_iff_ne.mpr c28
                          have c28b1 : (t225.toList != a0.toList) = true := bne_iff_ne.mpr c28
                          exact absurd (Option.some.inj H) (by rw [hr_]; decide)
                      · replace c26 := Bool.eq_false_iff.mpr c26
                        subst c26
                        have H1 : (some false) = some r := by rw [if_neg (show ¬ (false = true) by decide)] at H; exact H
                        clear H
                        have H := H1
                        clear H1
                        exact absurd (Option.some.inj H) (by rw [hr_]; decide)
                  · rw [if_neg c20] at H
                    have c20b0 : ((t221 == 0) == (!x3_2)) = false := by simpa using c20
                    (try (have c20b1 : decide ((t221 == 0) = (!x3_2)) = false := by simpa using c20))
                    (try (have c20b2 : ((t221 == 0) == (!x3_2)) = false := by simpa using c20))
                    (try (have c20b3 : ¬ ((t221 == 0) = (!x3_2)) := by simpa using c20))
                    clear c20
                    exact absurd (Option.some.inj H) (by rw [hr_]; decide)
                · rw [if_neg c19] at H
                  have c19b0 : (t223 == (!x3_2)) = false := by simpa using c19
                  (try (have c19b1 : decide (t223 = (!x3_2)) = false := by simpa using c19))
                  (try (have c19b2 : (t223 == (!x3_2)) = false := by simpa using c19))
                  (try (have c19b3 : ¬ (t223 = (!x3_2)) := by simpa using c19))
                  clear c19
                  exact absurd (Option.some.inj H) (by rw [hr_]; decide)
              · replace c17 := Bool.eq_false_iff.mpr c17
                subst c17
                have H1 : (some false) = some r := by rw [if_neg (show ¬ (false = true) by decide)] at H; exact H
                clear H
                have H := H1
                clear H1
                exact absurd (Option.some.inj H) (by rw [hr_]; decide)

/-- THE ONE PURE STATEMENT of steamerlaw1_PathNames: yours. -/
def steamerlaw1_PathNames.Pure : Prop := ∀ (a0 : ByteArray), a0.size ≤ 140737488351232 → ∃ k, steamerlaw1_PathNames.f k a0 = some true
theorem steamerlaw1_PathNames.walk (P : steamerlaw1_PathNames.Pure) (a0 : ByteArray) (w : World) (w0 : a0.size ≤ 140737488351232) :
    Calls Tryd.prog 6 #[.string a0] w fun e w' => e = .returned (.bool true) ∧ Below w.heap.size w w' := by
  obtain ⟨k, h⟩ := P a0 w0
  refine (steamerlaw1_PathNames.calls k a0 true w rfl h).mono ?_
  rintro e w' ⟨rfl, hd⟩
  exact ⟨rfl, hd⟩

/-! ### steamerlaw1_PathDeep: function 7 -/
mutual
def steamerlaw1_PathDeep.l0 : Nat → Int → ByteArray → ByteArray → Int → Option (Bool)
  | 0, _, _, _, _ => none
  | k + 1, x5, x7, x8, x9 => if x9 < x5 then (if x9 > 0 then (if x8.size + 1 ≤ 9223372036854775807 then (if (x8 ++ (⟨#[47]⟩ : ByteArray)).size + x7.size ≤ 9223372036854775807 then (steamerlaw1_PathDeep.l0 k x5 x7 ((x8 ++ (⟨#[47]⟩ : ByteArray)) ++ x7) (wrap64 (x9 + 1))) else (none)) else (none)) else (if x8.size + x7.size ≤ 9223372036854775807 then (steamerlaw1_PathDeep.l0 k x5 x7 (x8 ++ x7) (wrap64 (x9 + 1))) else (none))) else (if x5 ≤ 8 then (steamerlaw1_PathDeep.j1 k x5 x8 (decide ((x8.size : Int) ≤ 100))) else (steamerlaw1_PathDeep.j1 k x5 x8 false))
def steamerlaw1_PathDeep.j1 : Nat → Int → ByteArray → Bool → Option (Bool)
  | 0, _, _, _ => none
  | k + 1, x5, x8, x10 => if x10 = true then (steamerlaw1_PathDeep.j2 k x8 x10 x5) else (steamerlaw1_PathDeep.j2 k x8 x10 (-1))
def steamerlaw1_PathDeep.j2 : Nat → ByteArray → Bool → Int → Option (Bool)
  | 0, _, _, _ => none
  | k + 1, x8, x10, x11 => (steamerlaw1_told.f).bind fun t227 => (if t227 = true then ((path_May.f k x8).bind fun t228 => (if (t228 == x10) = true then ((path_Depth.f k x8).bind fun t229 => (if t229 = x11 then ((path_Parts.f k x8).bind fun t230 => (some ((t230.length : Int) == (mx x11 0)))) else (some false))) else (some false))) else (some false))
end
def steamerlaw1_PathDeep.f (k : Nat) (a0 : Int) (a1 : Int) : Option (Bool) := if 0 ≤ (wrap64 (1 + (wrap64 (Int.tmod (IntKind.u64.wrap (a1)) 20)))) then (if (wrap64 (1 + (wrap64 (Int.tmod (IntKind.u64.wrap (a1)) 20)))) ≤ 20 then (steamerlaw1_PathDeep.l0 k (wrap64 (Int.tmod (IntKind.u64.wrap (a0)) 13)) ((⟨#[120, 120, 120, 120, 120, 120, 120, 120, 120, 120, 120, 120, 120, 120, 120, 120, 120, 120, 120, 120]⟩ : ByteArray).extract 0 ((wrap64 (1 + (wrap64 (Int.tmod (IntKind.u64.wrap (a1)) 20)))) : Int).toNat) (⟨#[]⟩ : ByteArray) 0) else (none)) else (none)
theorem steamerlaw1_PathDeep.mono_l : ∀ k, (∀ y0 y1 y2 y3, LeO (steamerlaw1_PathDeep.l0 k y0 y1 y2 y3) (steamerlaw1_PathDeep.l0 (k + 1) y0 y1 y2 y3)) ∧ (∀ y0 y1 y2, LeO (steamerlaw1_PathDeep.j1 k y0 y1 y2) (steamerlaw1_PathDeep.j1 (k + 1) y0 y1 y2)) ∧ (∀ y0 y1 y2, LeO (steamerlaw1_PathDeep.j2 k y0 y1 y2) (steamerlaw1_PathDeep.j2 (k + 1) y0 y1 y2))
  | 0 => ⟨fun _ _ _ _ r h => by simp [steamerlaw1_PathDeep.l0] at h, fun _ _ _ r h => by simp [steamerlaw1_PathDeep.j1] at h, fun _ _ _ r h => by simp [steamerlaw1_PathDeep.j2] at h⟩
  | k + 1 => by
    obtain ⟨ih0, ih1, ih2⟩ := steamerlaw1_PathDeep.mono_l k
    refine ⟨?_, ?_, ?_⟩
    · intro y0 y1 y2 y3
      unfold steamerlaw1_PathDeep.l0
      repeat' first
      | (with_reducible exact ih0 _ _ _ _)
      | (with_reducible exact ih1 _ _ _)
      | (with_reducible exact ih2 _ _ _)
      | (with_reducible exact path_Depth.mono _ _)
      | (with_reducible exact path_May.mono _ _)
      | (with_reducible exact path_Parts.mono _ _)
      | (with_reducible exact LeO.refl _)
      | (with_reducible exact LeO.none _)
      | (with_reducible refine LeO.ite ?_ ?_)
      | (with_reducible refine LeO.bind ?_ (fun _ => ?_))
      | exact ih0 _ _ _ _
      | exact ih1 _ _ _
      | exact ih2 _ _ _
      | exact path_Depth.mono _ _
      | exact path_May.mono _ _
      | exact path_Parts.mono _ _
      | exact LeO.none _
      | refine LeO.ite ?_ ?_
      | refine LeO.bind ?_ (fun _ => ?_)
    · intro y0 y1 y2
      unfold steamerlaw1_PathDeep.j1
      repeat' first
      | (with_reducible exact ih0 _ _ _ _)
      | (with_reducible exact ih1 _ _ _)
      | (with_reducible exact ih2 _ _ _)
      | (with_reducible exact path_Depth.mono _ _)
      | (with_reducible exact path_May.mono _ _)
      | (with_reducible exact path_Parts.mono _ _)
      | (with_reducible exact LeO.refl _)
      | (with_reducible exact LeO.none _)
      | (with_reducible refine LeO.ite ?_ ?_)
      | (with_reducible refine LeO.bind ?_ (fun _ => ?_))
      | exact ih0 _ _ _ _
      | exact ih1 _ _ _
      | exact ih2 _ _ _
      | exact path_Depth.mono _ _
      | exact path_May.mono _ _
      | exact path_Parts.mono _ _
      | exact LeO.none _
      | refine LeO.ite ?_ ?_
      | refine LeO.bind ?_ (fun _ => ?_)
    · intro y0 y1 y2
      unfold steamerlaw1_PathDeep.j2
      repeat' first
      | (with_reducible exact ih0 _ _ _ _)
      | (with_reducible exact ih1 _ _ _)
      | (with_reducible exact ih2 _ _ _)
      | (with_reducible exact path_Depth.mono _ _)
      | (with_reducible exact path_May.mono _ _)
      | (with_reducible exact path_Parts.mono _ _)
      | (with_reducible exact LeO.refl _)
      | (with_reducible exact LeO.none _)
      | (with_reducible refine LeO.ite ?_ ?_)
      | (with_reducible refine LeO.bind ?_ (fun _ => ?_))
      | exact ih0 _ _ _ _
      | exact ih1 _ _ _
      | exact ih2 _ _ _
      | exact path_Depth.mono _ _
      | exact path_May.mono _ _
      | exact path_Parts.mono _ _
      | exact LeO.none _
      | refine LeO.ite ?_ ?_
      | refine LeO.bind ?_ (fun _ => ?_)
theorem steamerlaw1_PathDeep.mono : ∀ a0 a1 k, LeO (steamerlaw1_PathDeep.f k a0 a1) (steamerlaw1_PathDeep.f (k + 1) a0 a1) := by
  intro a0 a1 k
  obtain ⟨ih0, ih1, ih2⟩ := steamerlaw1_PathDeep.mono_l k
  unfold steamerlaw1_PathDeep.f
  repeat' first
      | (with_reducible exact ih0 _ _ _ _)
      | (with_reducible exact ih1 _ _ _)
      | (with_reducible exact ih2 _ _ _)
      | (with_reducible exact path_Depth.mono _ _)
      | (with_reducible exact path_May.mono _ _)
      | (with_reducible exact path_Parts.mono _ _)
      | (with_reducible exact LeO.refl _)
      | (with_reducible exact LeO.none _)
      | (with_reducible refine LeO.ite ?_ ?_)
      | (with_reducible refine LeO.bind ?_ (fun _ => ?_))
      | exact ih0 _ _ _ _
      | exact ih1 _ _ _
      | exact ih2 _ _ _
      | exact path_Depth.mono _ _
      | exact path_May.mono _ _
      | exact path_Parts.mono _ _
      | exact LeO.none _
      | refine LeO.ite ?_ ?_
      | refine LeO.bind ?_ (fun _ => ?_)
set_option maxHeartbeats 8000000 in
set_option maxRecDepth 100000 in
theorem steamerlaw1_PathDeep.calls (k : Nat) (a0 : Int) (a1 : Int) (r : Bool) (w : World) (hr_ : r = true) (h : steamerlaw1_PathDeep.f k a0 a1 = some r) :
    Calls Tryd.prog 7 #[.int .i64 a0, .int .i64 a1] w fun e w' => e = .returned (.bool r) ∧ Below w.heap.size w w' := by
  have HB := Aside0.mk (Below.refl w.heap.size w)
  have H : (if 0 ≤ (wrap64 (1 + (wrap64 (Int.tmod (IntKind.u64.wrap (a1)) 20)))) then (if (wrap64 (1 + (wrap64 (Int.tmod (IntKind.u64.wrap (a1)) 20)))) ≤ 20 then (steamerlaw1_PathDeep.l0 k (wrap64 (Int.tmod (IntKind.u64.wrap (a0)) 13)) ((⟨#[120, 120, 120, 120, 120, 120, 120, 120, 120, 120, 120, 120, 120, 120, 120, 120, 120, 120, 120, 120]⟩ : ByteArray).extract 0 ((wrap64 (1 + (wrap64 (Int.tmod (IntKind.u64.wrap (a1)) 20)))) : Int).toNat) (⟨#[]⟩ : ByteArray) 0) else (none)) else (none)) = some r := h
  clear h
  obtain ⟨ji3, hji3⟩ : ∃ j_ : Int, (wrap64 (1 + (wrap64 (Int.tmod (IntKind.u64.wrap (a1)) 20)))) = j_ := ⟨_, rfl⟩
  replace H : (if 0 ≤ (ji3) then (if (ji3) ≤ 20 then (steamerlaw1_PathDeep.l0 k (wrap64 (Int.tmod (IntKind.u64.wrap (a0)) 13)) ((⟨#[120, 120, 120, 120, 120, 120, 120, 120, 120, 120, 120, 120, 120, 120, 120, 120, 120, 120, 120, 120]⟩ : ByteArray).extract 0 ((ji3) : Int).toNat) (⟨#[]⟩ : ByteArray) 0) else (none)) else (none)) = some r := by first | (rw [hji3] at H; exact H) | (simp only [hji3] at H ⊢; exact H)
  have hji3w : (IntKind.i64.wrap (1 + (wrap64 (Int.tmod (IntKind.u64.wrap (a1)) 20)))) = ji3 := (i64_w _).trans hji3
  by_cases c4 : 0 ≤ (ji3)
  · rw [if_pos c4] at H
    have c4b0 := eq_true c4
    have c4b1 : decide (0 ≤ (ji3)) = true := decide_eq_true c4
    clear c4
    by_cases c5 : (ji3) ≤ 20
    · rw [if_pos c5] at H
      have c5b0 := eq_true c5
      have c5b1 : decide ((ji3) ≤ 20) = true := decide_eq_true c5
      clear c5
      have H' := Aside0.mk H
      clear H
      go_enter Tryd.func7, Tryd.ntmps7
      go_wp2
      go_loopg [8, 9] k (fun kq v8 v9 w' => ∃ (x8_1 : ByteArray) (x9_1 : Int), v8 = .string x8_1 ∧ v9 = .int .i64 x9_1 ∧ Aside0 (steamerlaw1_PathDeep.l0 kq (wrap64 (Int.tmod (IntKind.u64.wrap (a0)) 13)) ((⟨#[120, 120, 120, 120, 120, 120, 120, 120, 120, 120, 120, 120, 120, 120, 120, 120, 120, 120, 120, 120]⟩ : ByteArray).extract 0 ((ji3) : Int).toNat) x8_1 x9_1 = some r) ∧ Aside0 (kq ≤ k) ∧ Aside0 (Below w.heap.size w w'))
      case atStart => exact ⟨((⟨#[]⟩ : ByteArray)), (0), (by first | rfl | (simp; done) | (simp [*]; done)), (by first | rfl | (simp; done) | (simp [*]; done)), H', ⟨Nat.le_refl _⟩, ⟨by repeat (first | (with_reducible first | exact HB.out | apply below_alloc | apply pw_below_drewN | apply below_drew1) | exact HB.out)⟩⟩
      case round =>
        clear H'
        try clear p2
        try clear c4
        try clear c4b0
        try clear c4b1
        try clear c5
        try clear c5b0
        try clear c5b1
        obtain ⟨x8_1, x9_1, rfl, rfl, HA, HK1, HB⟩ := hrel
        cases gk with
        | zero => exact absurd HA.out (by simp [steamerlaw1_PathDeep.l0])
        | succ k1 =>
          have H := HA.out
          clear HA
          simp only [steamerlaw1_PathDeep.l0] at H
          by_cases c6 : x9_1 < (wrap64 (Int.tmod (IntKind.u64.wrap (a0)) 13))
          · rw [if_pos c6] at H
            have c6b0 : decide (x9_1 < (wrap64 (Int.tmod (IntKind.u64.wrap (a0)) 13))) = true := decide_eq_true c6
            clear c6
            by_cases c7 : x9_1 > 0
            · rw [if_pos c7] at H
              have c7b0 : decide (0 < x9_1) = true := decide_eq_true c7
              clear c7
              by_cases c8 : x8_1.size + 1 ≤ 9223372036854775807
              · rw [if_pos c8] at H
                have c8b0 := eq_true c8
                have c8b1 : decide (x8_1.size + 1 ≤ 9223372036854775807) = true := decide_eq_true c8
                try have c8b2 : (9223372036854775807 < x8_1.size + 1) = False := eq_false (Nat.not_lt.2 c8)
                by_cases c9 : (x8_1 ++ (⟨#[47]⟩ : ByteArray)).size + ((⟨#[120, 120, 120, 120, 120, 120, 120, 120, 120, 120, 120, 120, 120, 120, 120, 120, 120, 120, 120, 120]⟩ : ByteArray).extract 0 ((ji3) : Int).toNat).size ≤ 9223372036854775807
                · rw [if_pos c9] at H
                  have c9b0 := eq_true c9
                  have c9b1 : decide ((x8_1 ++ (⟨#[47]⟩ : ByteArray)).size + ((⟨#[120, 120, 120, 120, 120, 120, 120, 120, 120, 120, 120, 120, 120, 120, 120, 120, 120, 120, 120, 120]⟩ : ByteArray).extract 0 ((ji3) : Int).toNat).size ≤ 9223372036854775807) = true := decide_eq_true c9
                  try have c9b2 : (9223372036854775807 < (x8_1 ++ (⟨#[47]⟩ : ByteArray)).size + ((⟨#[120, 120, 120, 120, 120, 120, 120, 120, 120, 120, 120, 120, 120, 120, 120, 120, 120, 120, 120, 120]⟩ : ByteArray).extract 0 ((ji3) : Int).toNat).size) = False := eq_false (Nat.not_lt.2 c9)
                  have H' := Aside0.mk H
                  clear H
                  go_wp2
                  go_roundg k1
                  case measure => have := HK1.out; omega
                  case rel => exact ⟨((x8_1 ++ (⟨#[47]⟩ : ByteArray)) ++ ((⟨#[120, 120, 120, 120, 120, 120, 120, 120, 120, 120, 120, 120, 120, 120, 120, 120, 120, 120, 120, 120]⟩ : ByteArray).extract 0 ((ji3) : Int).toNat)), (wrap64 (x9_1 + 1)), (by first | rfl | (simp; done) | (simp only [← hji3] <;> (first | rfl | simp)) | (simp [*]; done)), (by first | rfl | (simp; done) | (simp [*]; done)), H', ⟨by have := HK1.out; omega⟩, ⟨by repeat (first | (with_reducible first | exact HB.out | apply below_alloc | apply pw_below_drewN | apply below_drew1) | exact HB.out)⟩⟩
                · rw [if_neg c9] at H
                  exact absurd H (by simp)
              · rw [if_neg c8] at H
                exact absurd H (by simp)
            · rw [if_neg c7] at H
              have c7b0 : decide (0 < x9_1) = false := decide_eq_false c7
              clear c7
              by_cases c10 : x8_1.size + ((⟨#[120, 120, 120, 120, 120, 120, 120, 120, 120, 120, 120, 120, 120, 120, 120, 120, 120, 120, 120, 120]⟩ : ByteArray).extract 0 ((ji3) : Int).toNat).size ≤ 9223372036854775807
              · rw [if_pos c10] at H
                have c10b0 := eq_true c10
                have c10b1 : decide (x8_1.size + ((⟨#[120, 120, 120, 120, 120, 120, 120, 120, 120, 120, 120, 120, 120, 120, 120, 120, 120, 120, 120, 120]⟩ : ByteArray).extract 0 ((ji3) : Int).toNat).size ≤ 9223372036854775807) = true := decide_eq_true c10
                try have c10b2 : (9223372036854775807 < x8_1.size + ((⟨#[120, 120, 120, 120, 120, 120, 120, 120, 120, 120, 120, 120, 120, 120, 120, 120, 120, 120, 120, 120]⟩ : ByteArray).extract 0 ((ji3) : Int).toNat).size) = False := eq_false (Nat.not_lt.2 c10)
                have H' := Aside0.mk H
                clear H
                go_wp2
                go_roundg k1
                case measure => have := HK1.out; omega
                case rel => exact ⟨(x8_1 ++ ((⟨#[120, 120, 120, 120, 120, 120, 120, 120, 120, 120, 120, 120, 120, 120, 120, 120, 120, 120, 120, 120]⟩ : ByteArray).extract 0 ((ji3) : Int).toNat)), (wrap64 (x9_1 + 1)), (by first | rfl | (simp; done) | (simp only [← hji3] <;> (first | rfl | simp)) | (simp [*]; done)), (by first | rfl | (simp; done) | (simp [*]; done)), H', ⟨by have := HK1.out; omega⟩, ⟨by repeat (first | (with_reducible first | exact HB.out | apply below_alloc | apply pw_below_drewN | apply below_drew1) | exact HB.out)⟩⟩
              · rw [if_neg c10] at H
                exact absurd H (by simp)
          · rw [if_neg c6] at H
            have c6b0 : decide (x9_1 < (wrap64 (Int.tmod (IntKind.u64.wrap (a0)) 13))) = false := decide_eq_false c6
            clear c6
            have HC11 := Aside0.mk H
            clear H
            go_upto_region 10 with (fail)
            go_cut [10] (fun v10 wc => ∃ (kq : Nat) (x10_10 : Bool), v10 = .bool x10_10 ∧ Aside0 (steamerlaw1_PathDeep.j1 kq (wrap64 (Int.tmod (IntKind.u64.wrap (a0)) 13)) x8_1 x10_10 = some r) ∧ Aside0 (kq ≤ k1) ∧ Aside0 (Below w.heap.size w wc))
            case first =>
              have H := HC11.out
              clear HC11
              by_cases c12 : (wrap64 (Int.tmod (IntKind.u64.wrap (a0)) 13)) ≤ 8
              · rw [if_pos c12] at H
                have c12b0 : decide ((wrap64 (Int.tmod (IntKind.u64.wrap (a0)) 13)) ≤ 8) = true := decide_eq_true c12
                clear c12
                (first | rw [c12b0] | (simp only [i64_w, i32_w]; rw [c12b0]) | skip)
                have H' := Aside0.mk H
                clear H
                go_wp2
                go_meet
                case rel => exact ⟨_, (decide ((x8_1.size : Int) ≤ 100)), (by first | rfl | (simp; done) | (simp [*]; done)), H', ⟨by have := HK1.out; first | omega | exact Nat.le_refl _⟩, ⟨by repeat (first | (with_reducible first | exact HB.out | apply below_alloc | apply pw_below_drewN | apply below_drew1) | exact HB.out)⟩⟩
              · rw [if_neg c12] at H
                have c12b0 : decide ((wrap64 (Int.tmod (IntKind.u64.wrap (a0)) 13)) ≤ 8) = false := decide_eq_false c12
                clear c12
                (first | rw [c12b0] | (simp only [i64_w, i32_w]; rw [c12b0]) | skip)
                have H' := Aside0.mk H
                clear H
                go_wp2
                go_meet
                case rel => exact ⟨_, (false), (by first | rfl | (simp; done) | (simp [*]; done)), H', ⟨by have := HK1.out; first | omega | exact Nat.le_refl _⟩, ⟨by repeat (first | (with_reducible first | exact HB.out | apply below_alloc | apply pw_below_drewN | apply below_drew1) | exact HB.out)⟩⟩
            case rest =>
              clear HC11
              try clear c1
              try clear p2
              try clear c4
              try clear c4b0
              try clear c4b1
              try clear c5
              try clear c5b0
              try clear c5b1
              try clear c6
              try clear c6b0
              try clear p6
              try clear c7
              try clear c7b0
              try clear c8
              try clear c8b0
              try clear c8b1
              try clear c8b2
              try clear c9
              try clear c9b0
              try clear c9b1
              try clear c9b2
              try clear c10
              try clear c10b0
              try clear c10b1
              try clear c10b2
              try clear c12
              try clear c12b0
              try clear p2
              obtain ⟨kq, x10_10, rfl, HA, HJ10, HB⟩ := hcut
              cases kq with
              | zero => exact absurd HA.out (by simp [steamerlaw1_PathDeep.j1])
              | succ kj10 =>
                have H := HA.out
                clear HA
                simp only [steamerlaw1_PathDeep.j1] at H
                have HC13 := Aside0.mk H
                clear H
                go_upto_if 42 with (fail)
                go_cut [11] (fun v11 wc => ∃ (kq : Nat) (x11_12 : Int), v11 = .int .i64 x11_12 ∧ Aside0 (steamerlaw1_PathDeep.j2 kq x8_1 x10_10 x11_12 = some r) ∧ Aside0 (kq ≤ kj10) ∧ Aside0 (Below w.heap.size w wc))
                case first =>
                  have H := HC13.out
                  clear HC13
                  by_cases c14 : x10_10 = true
                  · subst c14
                    have H1 : (steamerlaw1_PathDeep.j2 kj10 x8_1 true (wrap64 (Int.tmod (IntKind.u64.wrap (a0)) 13))) = some r := by rw [if_pos rfl] at H; exact H
                    clear H
                    have H := H1
                    clear H1
                    have H' := Aside0.mk H
                    clear H
                    go_wp2
                    go_meet
                    case rel => exact ⟨_, ((wrap64 (Int.tmod (IntKind.u64.wrap (a0)) 13))), (by first | rfl | (simp; done) | (simp [*]; done)), H', ⟨by have := HK1.out; have := HJ10.out; first | omega | exact Nat.le_refl _⟩, ⟨by repeat (first | (with_reducible first | exact HB.out | apply below_alloc | apply pw_below_drewN | apply below_drew1) | exact HB.out)⟩⟩
                  · replace c14 := Bool.eq_false_iff.mpr c14
                    subst c14
                    have H1 : (steamerlaw1_PathDeep.j2 kj10 x8_1 false (-1)) = some r := by rw [if_neg (show ¬ (false = true) by decide)] at H; exact H
                    clear H
                    have H := H1
                    clear H1
                    have H' := Aside0.mk H
                    clear H
                    go_wp2
                    go_meet
                    case rel => exact ⟨_, ((-1)), (by first | rfl | (simp; done) | (simp [*]; done)), H', ⟨by have := HK1.out; have := HJ10.out; first | omega | exact Nat.le_refl _⟩, ⟨by repeat (first | (with_reducible first | exact HB.out | apply below_alloc | apply pw_below_drewN | apply below_drew1) | exact HB.out)⟩⟩
                case rest =>
                  clear HC13
                  try clear c1
                  try clear p2
                  try clear c4
                  try clear c4b0
                  try clear c4b1
                  try clear c5
                  try clear c5b0
                  try clear c5b1
                  try clear c6
                  try clear c6b0
                  try clear p6
                  try clear c7
                  try clear c7b0
                  try clear c8
                  try clear c8b0
                  try clear c8b1
                  try clear c8b2
                  try clear c9
                  try clear c9b0
                  try clear c9b1
                  try clear c9b2
                  try clear c10
                  try clear c10b0
                  try clear c10b1
                  try clear c10b2
                  try clear c12
                  try clear c12b0
                  try clear c14
                  try clear p2
                  try clear p6
                  obtain ⟨kq, x11_12, rfl, HA, HJ12, HB⟩ := hcut
                  cases kq with
                  | zero => exact absurd HA.out (by simp [steamerlaw1_PathDeep.j2])
                  | succ kj12 =>
                    have H := HA.out
                    clear HA
                    simp only [steamerlaw1_PathDeep.j2] at H
                    replace H := Option.bind_eq_some_iff.mp H
                    obtain ⟨t227, A150, H⟩ := H
                    replace H : (if t227 = true then ((path_May.f kj12 x8_1).bind fun t228 => (if (t228 == x10_10) = true then ((path_Depth.f kj12 x8_1).bind fun t229 => (if t229 = x11_12 then ((path_Parts.f kj12 x8_1).bind fun t230 => (some ((t230.length : Int) == (mx x11_12 0)))) else (some false))) else (some false))) else (some false)) = some r := H
                    have A15 := Aside0.mk A150
                    clear A150
                    by_cases c16 : t227 = true
                    · subst c16
                      have H1 : ((path_May.f kj12 x8_1).bind fun t228 => (if (t228 == x10_10) = true then ((path_Depth.f kj12 x8_1).bind fun t229 => (if t229 = x11_12 then ((path_Parts.f kj12 x8_1).bind fun t230 => (some ((t230.length : Int) == (mx x11_12 0)))) else (some false))) else (some false))) = some r := by rw [if_pos rfl] at H; exact H
                      clear H
                      have H := H1
                      clear H1
                      replace H := Option.bind_eq_some_iff.mp H
                      obtain ⟨t228, A170, H⟩ := H
                      replace H : (if (t228 == x10_10) = true then ((path_Depth.f kj12 x8_1).bind fun t229 => (if t229 = x11_12 then ((path_Parts.f kj12 x8_1).bind fun t230 => (some ((t230.length : Int) == (mx x11_12 0)))) else (some false))) else (some false)) = some r := H
                      have A17 := Aside0.mk A170
                      clear A170
                      by_cases c18 : (t228 == x10_10) = true
                      · rw [if_pos c18] at H
                        have c18b0 : (t228 == x10_10) = true := c18
                        (try (have c18b1 : decide (t228 = x10_10) = true := by simpa using c18))
                        (try (have c18b2 : (t228 == x10_10) = true := by simpa using c18))
                        clear c18
                        replace H := Option.bind_eq_some_iff.mp H
                        obtain ⟨t229, A190, H⟩ := H
                        replace H : (if t229 = x11_12 then ((path_Parts.f kj12 x8_1).bind fun t230 => (some ((t230.length : Int) == (mx x11_12 0)))) else (some false)) = some r := H
                        have A19 := Aside0.mk A190
                        clear A190
                        by_cases c20 : t229 = x11_12
                        · rw [if_pos c20] at H
                          have c20b0 : (t229 == x11_12) = true := beq_iff_eq.mpr c20
                          have c20b1 : (t229 != x11_12) = false := bne_eq_false_iff_eq.mpr c20
                          clear c20
                          replace H := Option.bind_eq_some_iff.mp H
                          obtain ⟨t230, A210, H⟩ := H
                          replace H : (some ((t230.length : Int) == (mx x11_12 0))) = some r := H
                          have A21 := Aside0.mk A210
                          clear A210
                          obtain ⟨ji22, hji22⟩ : ∃ j_ : Int, (mx x11_12 0) = j_ := ⟨_, rfl⟩
                          replace H : (some ((t230.length : Int) == (ji22))) = some r := by first | (rw [hji22] at H; exact H) | (simp only [hji22] at H ⊢; exact H)
                          (try rw [hji22] at A15)
                          (try rw [hji22] at A17)
                          (try rw [hji22] at A19)
                          (try rw [hji22] at A21)
                          have hji22_ : (if x11_12 < 0 then 0 else x11_12) = ji22 := hji22
                          obtain rfl := Option.some.inj H
                          go_wp2_with (first | (go_at_call 8; (with_reducible refine (steamerlaw1_told.calls  true _ A15.out).mono ?_); rintro e w23 ⟨rfl, hb⟩; have n0_ := Aside0.mk (below_step (by repeat (first | (with_reducible first | exact HB.out | apply below_alloc | apply pw_below_drewN | apply below_drew1) | exact HB.out)) hb); clear HB; have HB := n0_; clear n0_; (try clear hb); (try clear hb2); (try clear hk); (try clear hi)) | (go_at_call 15; (with_reducible refine (path_May.calls kj12 x8_1 t228 _ A17.out).mono ?_); rintro e w24 ⟨rfl, hb⟩; have n0_ := Aside0.mk (below_step (by repeat (first | (with_reducible first | exact HB.out | apply below_alloc | apply pw_below_drewN | apply below_drew1) | exact HB.out)) hb); clear HB; have HB := n0_; clear n0_; (try clear hb); (try clear hb2); (try clear hk); (try clear hi)) | (go_at_call 20; (with_reducible refine (path_Depth.calls kj12 x8_1 t229 _ A19.out).mono ?_); rintro e w25 ⟨rfl, hb⟩; have n0_ := Aside0.mk (below_step (by repeat (first | (with_reducible first | exact HB.out | apply below_alloc | apply pw_below_drewN | apply below_drew1) | exact HB.out)) hb); clear HB; have HB := n0_; clear n0_; (try clear hb); (try clear hb2); (try clear hk); (try clear hi)) | (go_at_call 18; (with_reducible refine (path_Parts.calls kj12 x8_1 t230 _ A21.out).mono ?_); rintro e w26 ⟨v231, rfl, ho0, hb⟩; have n0_ := Aside0.mk (Kd.R_lower ho0 (below_size (by repeat (first | (with_reducible first | exact HB.out | apply below_alloc | apply pw_below_drewN | apply below_drew1) | exact HB.out)))); have n1_ := Aside0.mk (below_step (by repeat (first | (with_reducible first | exact HB.out | apply below_alloc | apply pw_below_drewN | apply below_drew1) | exact HB.out)) hb); clear HB; have HO232 := n0_; have HB := n1_; clear n0_ n1_; (try clear hb); (try clear hb2); (try clear hk); (try clear hi); (try clear ho0); obtain ⟨Ao27, co27, eo27⟩ := Kd.R_slice HO232.out; subst eo27))
                          go_ret
                          exact ⟨by first | rfl | (simp [errW_none, errW_some] <;> rfl) | (simp only [← hji3, ← hji22]; first | rfl | (simp [errW_none, errW_some] <;> rfl)) | (simp [*, errW_none, errW_some] <;> rfl), by repeat (first | (with_reducible first | exact HB.out | apply below_alloc | apply pw_below_drewN | apply below_drew1) | exact HB.out)⟩
                        · rw [if_neg c20] at H
                          have c20b0 : (t229 == x11_12) = false := beq_eq_false_iff_ne.mpr c20
                          have c20b1 : (t229 != x11_12) = true := bne_iff_ne.mpr c20
                          exact absurd (Option.some.inj H) (by rw [hr_]; decide)
                      · rw [if_neg c18] at H
                        have c18b0 : (t228 == x10_10) = false := by simpa using c18
                        (try (have c18b1 : decide (t228 = x10_10) = false := by simpa using c18))
                        (try (have c18b2 : (t228 == x10_10) = false := by simpa using c18))
                        (try (have c18b3 : ¬ (t228 = x10_10) := by simpa using c18))
                        clear c18
                        exact absurd (Option.some.inj H) (by rw [hr_]; decide)
                    · replace c16 := Bool.eq_false_iff.mpr c16
                      subst c16
                      have H1 : (some false) = some r := by rw [if_neg (show ¬ (false = true) by decide)] at H; exact H
                      clear H
                      have H := H1
                      clear H1
                      exact absurd (Option.some.inj H) (by rw [hr_]; decide)
    · rw [if_neg c5] at H
      exact absurd H (by simp)
  · rw [if_neg c4] at H
    exact absurd H (by simp)

/-- THE ONE PURE STATEMENT of steamerlaw1_PathDeep: yours. -/
def steamerlaw1_PathDeep.Pure : Prop := ∀ (a0 : Int) (a1 : Int), (Lit.int .i64 a0).wf = true → (Lit.int .i64 a1).wf = true → ∃ k, steamerlaw1_PathDeep.f k a0 a1 = some true
theorem steamerlaw1_PathDeep.walk (P : steamerlaw1_PathDeep.Pure) (a0 : Int) (a1 : Int) (w : World) (w0 : (Lit.int .i64 a0).wf = true) (w1 : (Lit.int .i64 a1).wf = true) :
    Calls Tryd.prog 7 #[.int .i64 a0, .int .i64 a1] w fun e w' => e = .returned (.bool true) ∧ Below w.heap.size w w' := by
  obtain ⟨k, h⟩ := P a0 a1 w0 w1
  refine (steamerlaw1_PathDeep.calls k a0 a1 true w rfl h).mono ?_
  rintro e w' ⟨rfl, hd⟩
  exact ⟨rfl, hd⟩

end Go.Proofs.YtncfadhcpmokiaaDoor.PB
