-- Printed by a program of this claim's session (xprint.py): the machine's side, checked by Lean.
import Derived.Test.YtncfadhcpmokiaaDoorPBx0
import Derived.Test.YtncfadhcpmokiaaDoorPBx1
import Derived.Test.YtncfadhcpmokiaaDoorPBx2
namespace Go.Proofs.YtncfadhcpmokiaaDoor.PB
open Go.Proofs.YtncfadhcpmokiaaDoor.GotoKit Go.Proofs.YtncfadhcpmokiaaDoor.Ext Go.Proofs.YtncfadhcpmokiaaDoor.PA Go.Proofs.YtncfadhcpmokiaaDoor.Told
open Go.RowKit Go.Proofs.YtncfadhcpmokiaaDoorW.PrintWords Go.Proofs.YtncfadhcpmokiaaDoorW.PrintLast Go.Proofs.YtncfadhcpmokiaaDoorW.PrintMore
attribute [local go_sem] max2_int min2_int max_two min_two max_three min_three max_four min_four   -- for this text's walks alone
set_option linter.unusedVariables false
set_option linter.unusedSimpArgs false

/-! ### steamerlaw1_PathAsks: function 3 -/
def steamerlaw1_PathAsks.j0 : Nat → ByteArray → ByteArray → Bool → Option (Bool)
  | 0, _, _, _ => none
  | k + 1, x0, x1, x20 => if x20 = true then ((steamerlaw1_told.f).bind fun t146 => (some t146)) else ((path_Parent.f k x0).bind fun bt147 => ((steamerref1_Parent.f k x0).bind fun bt149 => ((path_Join.f k x0 x1).bind fun bt151 => ((steamerref1_Join.f k x0 x1).bind fun bt153 => ((steamerlaw1_told.f).bind fun t155 => (if t155 = true then ((path_Name.f x0).bind fun t156 => ((steamerref1_Name.f k x0).bind fun t157 => (if (t156 == t157) = true then ((path_May.f k x0).bind fun t158 => ((steamerref1_MayPath.f k x0).bind fun t159 => (if (t158 == t159) = true then ((path_Parts.f k x0).bind fun t160 => ((steamerref1_Parts.f k x0).bind fun t163 => ((steamerlaw1_Texts.f k t160 t163).bind fun t166 => (if t166 = true then ((path_Depth.f k x0).bind fun t167 => ((steamerref1_Depth.f k x0).bind fun t168 => (if t167 = t168 then ((path_Last.f k x0).bind fun t169 => ((steamerref1_Last.f k x0).bind fun t170 => (if t169.toList = t170.toList then (if bt147.1.toList = bt149.1.toList then (if (bt147.2 == bt149.2) = true then (if bt151.1.toList = bt153.1.toList then (if bt151.2 = bt153.2 then ((path_Under.f k x0 x1).bind fun t171 => ((steamerref1_Under.f k x0 x1).bind fun t172 => (if (t171 == t172) = true then ((path_Less.f k x0 x1).bind fun t173 => ((steamerref1_Less.f k x0 x1).bind fun t174 => (some (t173 == t174)))) else (some false)))) else (some false)) else (some false)) else (some false)) else (some false)) else (some false)))) else (some false)))) else (some false))))) else (some false)))) else (some false)))) else (some false)))))))
def steamerlaw1_PathAsks.f (k : Nat) (a0 : ByteArray) (a1 : ByteArray) : Option (Bool) := if (a0.size : Int) > 120 then (steamerlaw1_PathAsks.j0 k a0 a1 true) else (steamerlaw1_PathAsks.j0 k a0 a1 (decide ((a1.size : Int) > 120)))
theorem steamerlaw1_PathAsks.mono_l : ∀ k, (∀ y0 y1 y2, LeO (steamerlaw1_PathAsks.j0 k y0 y1 y2) (steamerlaw1_PathAsks.j0 (k + 1) y0 y1 y2))
  | 0 => fun _ _ _ r h => by simp [steamerlaw1_PathAsks.j0] at h
  | k + 1 => by
    have ih0 := steamerlaw1_PathAsks.mono_l k
    · intro y0 y1 y2
      unfold steamerlaw1_PathAsks.j0
      repeat' first
      | (with_reducible exact ih0 _ _ _)
      | (with_reducible exact path_Depth.mono _ _)
      | (with_reducible exact path_Join.mono _ _ _)
      | (with_reducible exact path_Last.mono _ _)
      | (with_reducible exact path_Less.mono _ _ _)
      | (with_reducible exact path_May.mono _ _)
      | (with_reducible exact path_Parent.mono _ _)
      | (with_reducible exact path_Parts.mono _ _)
      | (with_reducible exact path_Under.mono _ _ _)
      | (with_reducible exact steamerlaw1_Texts.mono _ _ _)
      | (with_reducible exact steamerref1_Depth.mono _ _)
      | (with_reducible exact steamerref1_Join.mono _ _ _)
      | (with_reducible exact steamerref1_Last.mono _ _)
      | (with_reducible exact steamerref1_Less.mono _ _ _)
      | (with_reducible exact steamerref1_MayPath.mono _ _)
      | (with_reducible exact steamerref1_Name.mono _ _)
      | (with_reducible exact steamerref1_Parent.mono _ _)
      | (with_reducible exact steamerref1_Parts.mono _ _)
      | (with_reducible exact steamerref1_Under.mono _ _ _)
      | (with_reducible exact LeO.refl _)
      | (with_reducible exact LeO.none _)
      | (with_reducible refine LeO.ite ?_ ?_)
      | (with_reducible refine LeO.bind ?_ (fun _ => ?_))
      | exact ih0 _ _ _
      | exact path_Depth.mono _ _
      | exact path_Join.mono _ _ _
      | exact path_Last.mono _ _
      | exact path_Less.mono _ _ _
      | exact path_May.mono _ _
      | exact path_Parent.mono _ _
      | exact path_Parts.mono _ _
      | exact path_Under.mono _ _ _
      | exact steamerlaw1_Texts.mono _ _ _
      | exact steamerref1_Depth.mono _ _
      | exact steamerref1_Join.mono _ _ _
      | exact steamerref1_Last.mono _ _
      | exact steamerref1_Less.mono _ _ _
      | exact steamerref1_MayPath.mono _ _
      | exact steamerref1_Name.mono _ _
      | exact steamerref1_Parent.mono _ _
      | exact steamerref1_Parts.mono _ _
      | exact steamerref1_Under.mono _ _ _
      | exact LeO.none _
      | refine LeO.ite ?_ ?_
      | refine LeO.bind ?_ (fun _ => ?_)
theorem steamerlaw1_PathAsks.mono : ∀ a0 a1 k, LeO (steamerlaw1_PathAsks.f k a0 a1) (steamerlaw1_PathAsks.f (k + 1) a0 a1) := by
  intro a0 a1 k
  have ih0 := steamerlaw1_PathAsks.mono_l k
  unfold steamerlaw1_PathAsks.f
  repeat' first
      | (with_reducible exact ih0 _ _ _)
      | (with_reducible exact path_Depth.mono _ _)
      | (with_reducible exact path_Join.mono _ _ _)
      | (with_reducible exact path_Last.mono _ _)
      | (with_reducible exact path_Less.mono _ _ _)
      | (with_reducible exact path_May.mono _ _)
      | (with_reducible exact path_Parent.mono _ _)
      | (with_reducible exact path_Parts.mono _ _)
      | (with_reducible exact path_Under.mono _ _ _)
      | (with_reducible exact steamerlaw1_Texts.mono _ _ _)
      | (with_reducible exact steamerref1_Depth.mono _ _)
      | (with_reducible exact steamerref1_Join.mono _ _ _)
      | (with_reducible exact steamerref1_Last.mono _ _)
      | (with_reducible exact steamerref1_Less.mono _ _ _)
      | (with_reducible exact steamerref1_MayPath.mono _ _)
      | (with_reducible exact steamerref1_Name.mono _ _)
      | (with_reducible exact steamerref1_Parent.mono _ _)
      | (with_reducible exact steamerref1_Parts.mono _ _)
      | (with_reducible exact steamerref1_Under.mono _ _ _)
      | (with_reducible exact LeO.refl _)
      | (with_reducible exact LeO.none _)
      | (with_reducible refine LeO.ite ?_ ?_)
      | (with_reducible refine LeO.bind ?_ (fun _ => ?_))
      | exact ih0 _ _ _
      | exact path_Depth.mono _ _
      | exact path_Join.mono _ _ _
      | exact path_Last.mono _ _
      | exact path_Less.mono _ _ _
      | exact path_May.mono _ _
      | exact path_Parent.mono _ _
      | exact path_Parts.mono _ _
      | exact path_Under.mono _ _ _
      | exact steamerlaw1_Texts.mono _ _ _
      | exact steamerref1_Depth.mono _ _
      | exact steamerref1_Join.mono _ _ _
      | exact steamerref1_Last.mono _ _
      | exact steamerref1_Less.mono _ _ _
      | exact steamerref1_MayPath.mono _ _
      | exact steamerref1_Name.mono _ _
      | exact steamerref1_Parent.mono _ _
      | exact steamerref1_Parts.mono _ _
      | exact steamerref1_Under.mono _ _ _
      | exact LeO.none _
      | refine LeO.ite ?_ ?_
      | refine LeO.bind ?_ (fun _ => ?_)
set_option maxHeartbeats 8000000 in
set_option maxRecDepth 100000 in
theorem steamerlaw1_PathAsks.calls (k : Nat) (a0 : ByteArray) (a1 : ByteArray) (r : Bool) (w : World) (hr_ : r = true) (h : steamerlaw1_PathAsks.f k a0 a1 = some r) :
    Calls Tryd.prog 3 #[.string a0, .string a1] w fun e w' => e = .returned (.bool r) ∧ Below w.heap.size w w' := by
  have HB := Aside0.mk (Below.refl w.heap.size w)
  have H : (if (a0.size : Int) > 120 then (steamerlaw1_PathAsks.j0 k a0 a1 true) else (steamerlaw1_PathAsks.j0 k a0 a1 (decide ((a1.size : Int) > 120)))) = some r := h
  clear h
  have HC3 := Aside0.mk H
  clear H
  go_enter Tryd.func3, Tryd.ntmps3
  go_upto_region 1 with (fail)
  go_cut [20] (fun v20 wc => ∃ (kq : Nat) (x20_2 : Bool), v20 = .bool x20_2 ∧ Aside0 (steamerlaw1_PathAsks.j0 kq a0 a1 x20_2 = some r) ∧ Aside0 (kq ≤ k) ∧ Aside0 (Below w.heap.size w wc))
  case first =>
    have H := HC3.out
    clear HC3
    by_cases c4 : (a0.size : Int) > 120
    · rw [if_pos c4] at H
      have c4b0 : decide (120 < (a0.size : Int)) = true := decide_eq_true c4
      have c4b1 : decide (120 < a0.size) = true := decide_eq_true (by omega)
      clear c4
      (first | rw [c4b0] | (simp only [i64_w, i32_w]; rw [c4b0]) | skip)
      have H' := Aside0.mk H
      clear H
      go_wp2
      go_meet
      case rel => exact ⟨_, (true), (by first | rfl | (simp; done) | (simp [*]; done)), H', ⟨by first | omega | exact Nat.le_refl _⟩, ⟨by repeat (first | (with_reducible first | exact HB.out | apply below_alloc | apply pw_below_drewN | apply below_drew1) | exact HB.out)⟩⟩
    · rw [if_neg c4] at H
      have c4b0 : decide (120 < (a0.size : Int)) = false := decide_eq_false c4
      have c4b1 : decide (120 < a0.size) = false := decide_eq_false (by omega)
      clear c4
      (first | rw [c4b0] | (simp only [i64_w, i32_w]; rw [c4b0]) | skip)
      have H' := Aside0.mk H
      clear H
      go_wp2
      go_meet
      case rel => exact ⟨_, (decide ((a1.size : Int) > 120)), (by first | rfl | (simp; done) | (simp [*]; done)), H', ⟨by first | omega | exact Nat.le_refl _⟩, ⟨by repeat (first | (with_reducible first | exact HB.out | apply below_alloc | apply pw_below_drewN | apply below_drew1) | exact HB.out)⟩⟩
  case rest =>
    clear HC3
    try clear p2
    try clear c3
    try clear c4
    try clear c4b0
    try clear c4b1
    obtain ⟨kq, x20_2, rfl, HA, HJ2, HB⟩ := hcut
    cases kq with
    | zero => exact absurd HA.out (by simp [steamerlaw1_PathAsks.j0])
    | succ kj2 =>
      have H := HA.out
      clear HA
      simp only [steamerlaw1_PathAsks.j0] at H
      by_cases c5 : x20_2 = true
      · subst c5
        have H1 : ((steamerlaw1_told.f).bind fun t146 => (some t146)) = some r := by rw [if_pos rfl] at H; exact H
        clear H
        have H := H1
        clear H1
        replace H := Option.bind_eq_some_iff.mp H
        obtain ⟨t146, A60, H⟩ := H
        replace H : (some t146) = some r := H
        have A6 := Aside0.mk A60
        clear A60
        obtain rfl := Option.some.inj H
        go_wp2_with (first | (go_at_call 8; (with_reducible refine (steamerlaw1_told.calls  t146 _ A6.out).mono ?_); rintro e w7 ⟨rfl, hb⟩; have n0_ := Aside0.mk (below_step (by repeat (first | (with_reducible first | exact HB.out | apply below_alloc | apply pw_below_drewN | apply below_drew1) | exact HB.out)) hb); clear HB; have HB := n0_; clear n0_; (try clear hb); (try clear hb2); (try clear hk); (try clear hi)))
        go_ret
        exact ⟨by first | rfl | (simp [errW_none, errW_some] <;> rfl) | (simp [*, errW_none, errW_some] <;> rfl), by repeat (first | (with_reducible first | exact HB.out | apply below_alloc | apply pw_below_drewN | apply below_drew1) | exact HB.out)⟩
      · replace c5 := Bool.eq_false_iff.mpr c5
        subst c5
        have H1 : ((path_Parent.f kj2 a0).bind fun bt147 => ((steamerref1_Parent.f kj2 a0).bind fun bt149 => ((path_Join.f kj2 a0 a1).bind fun bt151 => ((steamerref1_Join.f kj2 a0 a1).bind fun bt153 => ((steamerlaw1_told.f).bind fun t155 => (if t155 = true then ((path_Name.f a0).bind fun t156 => ((steamerref1_Name.f kj2 a0).bind fun t157 => (if (t156 == t157) = true then ((path_May.f kj2 a0).bind fun t158 => ((steamerref1_MayPath.f kj2 a0).bind fun t159 => (if (t158 == t159) = true then ((path_Parts.f kj2 a0).bind fun t160 => ((steamerref1_Parts.f kj2 a0).bind fun t163 => ((steamerlaw1_Texts.f kj2 t160 t163).bind fun t166 => (if t166 = true then ((path_Depth.f kj2 a0).bind fun t167 => ((steamerref1_Depth.f kj2 a0).bind fun t168 => (if t167 = t168 then ((path_Last.f kj2 a0).bind fun t169 => ((steamerref1_Last.f kj2 a0).bind fun t170 => (if t169.toList = t170.toList then (if bt147.1.toList = bt149.1.toList then (if (bt147.2 == bt149.2) = true then (if bt151.1.toList = bt153.1.toList then (if bt151.2 = bt153.2 then ((path_Under.f kj2 a0 a1).bind fun t171 => ((steamerref1_Under.f kj2 a0 a1).bind fun t172 => (if (t171 == t172) = true then ((path_Less.f kj2 a0 a1).bind fun t173 => ((steamerref1_Less.f kj2 a0 a1).bind fun t174 => (some (t173 == t174)))) else (some false)))) else (some false)) else (some false)) else (some false)) else (some false)) else (some false)))) else (some false)))) else (some false))))) else (some false)))) else (some false)))) else (some false))))))) = some r := by rw [if_neg (show ¬ (false = true) by decide)] at H; exact H
        clear H
        have H := H1
        clear H1
        replace H := Option.bind_eq_some_iff.mp H
        obtain ⟨⟨t147, t148⟩, A80, H⟩ := H
        replace H : ((steamerref1_Parent.f kj2 a0).bind fun bt149 => ((path_Join.f kj2 a0 a1).bind fun bt151 => ((steamerref1_Join.f kj2 a0 a1).bind fun bt153 => ((steamerlaw1_told.f).bind fun t155 => (if t155 = true then ((path_Name.f a0).bind fun t156 => ((steamerref1_Name.f kj2 a0).bind fun t157 => (if (t156 == t157) = true then ((path_May.f kj2 a0).bind fun t158 => ((steamerref1_MayPath.f kj2 a0).bind fun t159 => (if (t158 == t159) = true then ((path_Parts.f kj2 a0).bind fun t160 => ((steamerref1_Parts.f kj2 a0).bind fun t163 => ((steamerlaw1_Texts.f kj2 t160 t163).bind fun t166 => (if t166 = true then ((path_Depth.f kj2 a0).bind fun t167 => ((steamerref1_Depth.f kj2 a0).bind fun t168 => (if t167 = t168 then ((path_Last.f kj2 a0).bind fun t169 => ((steamerref1_Last.f kj2 a0).bind fun t170 => (if t169.toList = t170.toList then (if t147.toList = bt149.1.toList then (if (t148 == bt149.2) = true then (if bt151.1.toList = bt153.1.toList then (if bt151.2 = bt153.2 then ((path_Under.f kj2 a0 a1).bind fun t171 => ((steamerref1_Under.f kj2 a0 a1).bind fun t172 => (if (t171 == t172) = true then ((path_Less.f kj2 a0 a1).bind fun t173 => ((steamerref1_Less.f kj2 a0 a1).bind fun t174 => (some (t173 == t174)))) else (some false)))) else (some false)) else (some false)) else (some false)) else (some false)) else (some false)))) else (some false)))) else (some false))))) else (some false)))) else (some false)))) else (some false)))))) = some r := H
        have A8 := Aside0.mk A80
        clear A80
        replace H := Option.bind_eq_some_iff.mp H
        obtain ⟨⟨t149, t150⟩, A90, H⟩ := H
        replace H : ((path_Join.f kj2 a0 a1).bind fun bt151 => ((steamerref1_Join.f kj2 a0 a1).bind fun bt153 => ((steamerlaw1_told.f).bind fun t155 => (if t155 = true then ((path_Name.f a0).bind fun t156 => ((steamerref1_Name.f kj2 a0).bind fun t157 => (if (t156 == t157) = true then ((path_May.f kj2 a0).bind fun t158 => ((steamerref1_MayPath.f kj2 a0).bind fun t159 => (if (t158 == t159) = true then ((path_Parts.f kj2 a0).bind fun t160 => ((steamerref1_Parts.f kj2 a0).bind fun t163 => ((steamerlaw1_Texts.f kj2 t160 t163).bind fun t166 => (if t166 = true then ((path_Depth.f kj2 a0).bind fun t167 => ((steamerref1_Depth.f kj2 a0).bind fun t168 => (if t167 = t168 then ((path_Last.f kj2 a0).bind fun t169 => ((steamerref1_Last.f kj2 a0).bind fun t170 => (if t169.toList = t170.toList then (if t147.toList = t149.toList then (if (t148 == t150) = true then (if bt151.1.toList = bt153.1.toList then (if bt151.2 = bt153.2 then ((path_Under.f kj2 a0 a1).bind fun t171 => ((steamerref1_Under.f kj2 a0 a1).bind fun t172 => (if (t171 == t172) = true then ((path_Less.f kj2 a0 a1).bind fun t173 => ((steamerref1_Less.f kj2 a0 a1).bind fun t174 => (some (t173 == t174)))) else (some false)))) else (some false)) else (some false)) else (some false)) else (some false)) else (some false)))) else (some false)))) else (some false))))) else (some false)))) else (some false)))) else (some false))))) = some r := H
        have A9 := Aside0.mk A90
        clear A90
        replace H := Option.bind_eq_some_iff.mp H
        obtain ⟨⟨t151, t152⟩, A100, H⟩ := H
        replace H : ((steamerref1_Join.f kj2 a0 a1).bind fun bt153 => ((steamerlaw1_told.f).bind fun t155 => (if t155 = true then ((path_Name.f a0).bind fun t156 => ((steamerref1_Name.f kj2 a0).bind fun t157 => (if (t156 == t157) = true then ((path_May.f kj2 a0).bind fun t158 => ((steamerref1_MayPath.f kj2 a0).bind fun t159 => (if (t158 == t159) = true then ((path_Parts.f kj2 a0).bind fun t160 => ((steamerref1_Parts.f kj2 a0).bind fun t163 => ((steamerlaw1_Texts.f kj2 t160 t163).bind fun t166 => (if t166 = true then ((path_Depth.f kj2 a0).bind fun t167 => ((steamerref1_Depth.f kj2 a0).bind fun t168 => (if t167 = t168 then ((path_Last.f kj2 a0).bind fun t169 => ((steamerref1_Last.f kj2 a0).bind fun t170 => (if t169.toList = t170.toList then (if t147.toList = t149.toList then (if (t148 == t150) = true then (if t151.toList = bt153.1.toList then (if t152 = bt153.2 then ((path_Under.f kj2 a0 a1).bind fun t171 => ((steamerref1_Under.f kj2 a0 a1).bind fun t172 => (if (t171 == t172) = true then ((path_Less.f kj2 a0 a1).bind fun t173 => ((steamerref1_Less.f kj2 a0 a1).bind fun t174 => (some (t173 == t174)))) else (some false)))) else (some false)) else (some false)) else (some false)) else (some false)) else (some false)))) else (some false)))) else (some false))))) else (some false)))) else (some false)))) else (some false)))) = some r := H
        have A10 := Aside0.mk A100
        clear A100
        replace H := Option.bind_eq_some_iff.mp H
        obtain ⟨⟨t153, t154⟩, A110, H⟩ := H
        replace H : ((steamerlaw1_told.f).bind fun t155 => (if t155 = true then ((path_Name.f a0).bind fun t156 => ((steamerref1_Name.f kj2 a0).bind fun t157 => (if (t156 == t157) = true then ((path_May.f kj2 a0).bind fun t158 => ((steamerref1_MayPath.f kj2 a0).bind fun t159 => (if (t158 == t159) = true then ((path_Parts.f kj2 a0).bind fun t160 => ((steamerref1_Parts.f kj2 a0).bind fun t163 => ((steamerlaw1_Texts.f kj2 t160 t163).bind fun t166 => (if t166 = true then ((path_Depth.f kj2 a0).bind fun t167 => ((steamerref1_Depth.f kj2 a0).bind fun t168 => (if t167 = t168 then ((path_Last.f kj2 a0).bind fun t169 => ((steamerref1_Last.f kj2 a0).bind fun t170 => (if t169.toList = t170.toList then (if t147.toList = t149.toList then (if (t148 == t150) = true then (if t151.toList = t153.toList then (if t152 = t154 then ((path_Under.f kj2 a0 a1).bind fun t171 => ((steamerref1_Under.f kj2 a0 a1).bind fun t172 => (if (t171 == t172) = true then ((path_Less.f kj2 a0 a1).bind fun t173 => ((steamerref1_Less.f kj2 a0 a1).bind fun t174 => (some (t173 == t174)))) else (some false)))) else (some false)) else (some false)) else (some false)) else (some false)) else (some false)))) else (some false)))) else (some false))))) else (some false)))) else (some false)))) else (some false))) = some r := H
        have A11 := Aside0.mk A110
        clear A110
        replace H := Option.bind_eq_some_iff.mp H
        obtain ⟨t155, A120, H⟩ := H
        replace H : (if t155 = true then ((path_Name.f a0).bind fun t156 => ((steamerref1_Name.f kj2 a0).bind fun t157 => (if (t156 == t157) = true then ((path_May.f kj2 a0).bind fun t158 => ((steamerref1_MayPath.f kj2 a0).bind fun t159 => (if (t158 == t159) = true then ((path_Parts.f kj2 a0).bind fun t160 => ((steamerref1_Parts.f kj2 a0).bind fun t163 => ((steamerlaw1_Texts.f kj2 t160 t163).bind fun t166 => (if t166 = true then ((path_Depth.f kj2 a0).bind fun t167 => ((steamerref1_Depth.f kj2 a0).bind fun t168 => (if t167 = t168 then ((path_Last.f kj2 a0).bind fun t169 => ((steamerref1_Last.f kj2 a0).bind fun t170 => (if t169.toList = t170.toList then (if t147.toList = t149.toList then (if (t148 == t150) = true then (if t151.toList = t153.toList then (if t152 = t154 then ((path_Under.f kj2 a0 a1).bind fun t171 => ((steamerref1_Under.f kj2 a0 a1).bind fun t172 => (if (t171 == t172) = true then ((path_Less.f kj2 a0 a1).bind fun t173 => ((steamerref1_Less.f kj2 a0 a1).bind fun t174 => (some (t173 == t174)))) else (some false)))) else (some false)) else (some false)) else (some false)) else (some false)) else (some false)))) else (some false)))) else (some false))))) else (some false)))) else (some false)))) else (some false)) = some r := H
        have A12 := Aside0.mk A120
        clear A120
        by_cases c13 : t155 = true
        · subst c13
          have H1 : ((path_Name.f a0).bind fun t156 => ((steamerref1_Name.f kj2 a0).bind fun t157 => (if (t156 == t157) = true then ((path_May.f kj2 a0).bind fun t158 => ((steamerref1_MayPath.f kj2 a0).bind fun t159 => (if (t158 == t159) = true then ((path_Parts.f kj2 a0).bind fun t160 => ((steamerref1_Parts.f kj2 a0).bind fun t163 => ((steamerlaw1_Texts.f kj2 t160 t163).bind fun t166 => (if t166 = true then ((path_Depth.f kj2 a0).bind fun t167 => ((steamerref1_Depth.f kj2 a0).bind fun t168 => (if t167 = t168 then ((path_Last.f kj2 a0).bind fun t169 => ((steamerref1_Last.f kj2 a0).bind fun t170 => (if t169.toList = t170.toList then (if t147.toList = t149.toList then (if (t148 == t150) = true then (if t151.toList = t153.toList then (if t152 = t154 then ((path_Under.f kj2 a0 a1).bind fun t171 => ((steamerref1_Under.f kj2 a0 a1).bind fun t172 => (if (t171 == t172) = true then ((path_Less.f kj2 a0 a1).bind fun t173 => ((steamerref1_Less.f kj2 a0 a1).bind fun t174 => (some (t173 == t174)))) else (some false)))) else (some false)) else (some false)) else (some false)) else (some false)) else (some false)))) else (some false)))) else (some false))))) else (some false)))) else (some false)))) = some r := by rw [if_pos rfl] at H; exact H
          clear H
          have H := H1
          clear H1
          replace H := Option.bind_eq_some_iff.mp H
          obtain ⟨t156, A140, H⟩ := H
          replace H : ((steamerref1_Name.f kj2 a0).bind fun t157 => (if (t156 == t157) = true then ((path_May.f kj2 a0).bind fun t158 => ((steamerref1_MayPath.f kj2 a0).bind fun t159 => (if (t158 == t159) = true then ((path_Parts.f kj2 a0).bind fun t160 => ((steamerref1_Parts.f kj2 a0).bind fun t163 => ((steamerlaw1_Texts.f kj2 t160 t163).bind fun t166 => (if t166 = true then ((path_Depth.f kj2 a0).bind fun t167 => ((steamerref1_Depth.f kj2 a0).bind fun t168 => (if t167 = t168 then ((path_Last.f kj2 a0).bind fun t169 => ((steamerref1_Last.f kj2 a0).bind fun t170 => (if t169.toList = t170.toList then (if t147.toList = t149.toList then (if (t148 == t150) = true then (if t151.toList = t153.toList then (if t152 = t154 then ((path_Under.f kj2 a0 a1).bind fun t171 => ((steamerref1_Under.f kj2 a0 a1).bind fun t172 => (if (t171 == t172) = true then ((path_Less.f kj2 a0 a1).bind fun t173 => ((steamerref1_Less.f kj2 a0 a1).bind fun t174 => (some (t173 == t174)))) else (some false)))) else (some false)) else (some false)) else (some false)) else (some false)) else (some false)))) else (some false)))) else (some false))))) else (some false)))) else (some false))) = some r := H
          have A14 := Aside0.mk A140
          clear A140
          replace H := Option.bind_eq_some_iff.mp H
          obtain ⟨t157, A150, H⟩ := H
          replace H : (if (t156 == t157) = true then ((path_May.f kj2 a0).bind fun t158 => ((steamerref1_MayPath.f kj2 a0).bind fun t159 => (if (t158 == t159) = true then ((path_Parts.f kj2 a0).bind fun t160 => ((steamerref1_Parts.f kj2 a0).bind fun t163 => ((steamerlaw1_Texts.f kj2 t160 t163).bind fun t166 => (if t166 = true then ((path_Depth.f kj2 a0).bind fun t167 => ((steamerref1_Depth.f kj2 a0).bind fun t168 => (if t167 = t168 then ((path_Last.f kj2 a0).bind fun t169 => ((steamerref1_Last.f kj2 a0).bind fun t170 => (if t169.toList = t170.toList then (if t147.toList = t149.toList then (if (t148 == t150) = true then (if t151.toList = t153.toList then (if t152 = t154 then ((path_Under.f kj2 a0 a1).bind fun t171 => ((steamerref1_Under.f kj2 a0 a1).bind fun t172 => (if (t171 == t172) = true then ((path_Less.f kj2 a0 a1).bind fun t173 => ((steamerref1_Less.f kj2 a0 a1).bind fun t174 => (some (t173 == t174)))) else (some false)))) else (some false)) else (some false)) else (some false)) else (some false)) else (some false)))) else (some false)))) else (some false))))) else (some false)))) else (some false)) = some r := H
          have A15 := Aside0.mk A150
          clear A150
          by_cases c16 : (t156 == t157) = true
          · rw [if_pos c16] at H
            have c16b0 : (t156 == t157) = true := c16
            (try (have c16b1 : decide (t156 = t157) = true := by simpa using c16))
            (try (have c16b2 : (t156 == t157) = true := by simpa using c16))
            clear c16
            replace H := Option.bind_eq_some_iff.mp H
            obtain ⟨t158, A170, H⟩ := H
            replace H : ((steamerref1_MayPath.f kj2 a0).bind fun t159 => (if (t158 == t159) = true then ((path_Parts.f kj2 a0).bind fun t160 => ((steamerref1_Parts.f kj2 a0).bind fun t163 => ((steamerlaw1_Texts.f kj2 t160 t163).bind fun t166 => (if t166 = true then ((path_Depth.f kj2 a0).bind fun t167 => ((steamerref1_Depth.f kj2 a0).bind fun t168 => (if t167 = t168 then ((path_Last.f kj2 a0).bind fun t169 => ((steamerref1_Last.f kj2 a0).bind fun t170 => (if t169.toList = t170.toList then (if t147.toList = t149.toList then (if (t148 == t150) = true then (if t151.toList = t153.toList then (if t152 = t154 then ((path_Under.f kj2 a0 a1).bind fun t171 => ((steamerref1_Under.f kj2 a0 a1).bind fun t172 => (if (t171 == t172) = true then ((path_Less.f kj2 a0 a1).bind fun t173 => ((steamerref1_Less.f kj2 a0 a1).bind fun t174 => (some (t173 == t174)))) else (some false)))) else (some false)) else (some false)) else (some false)) else (some false)) else (some false)))) else (some false)))) else (some false))))) else (some false))) = some r := H
            have A17 := Aside0.mk A170
            clear A170
            replace H := Option.bind_eq_some_iff.mp H
            obtain ⟨t159, A180, H⟩ := H
            replace H : (if (t158 == t159) = true then ((path_Parts.f kj2 a0).bind fun t160 => ((steamerref1_Parts.f kj2 a0).bind fun t163 => ((steamerlaw1_Texts.f kj2 t160 t163).bind fun t166 => (if t166 = true then ((path_Depth.f kj2 a0).bind fun t167 => ((steamerref1_Depth.f kj2 a0).bind fun t168 => (if t167 = t168 then ((path_Last.f kj2 a0).bind fun t169 => ((steamerref1_Last.f kj2 a0).bind fun t170 => (if t169.toList = t170.toList then (if t147.toList = t149.toList then (if (t148 == t150) = true then (if t151.toList = t153.toList then (if t152 = t154 then ((path_Under.f kj2 a0 a1).bind fun t171 => ((steamerref1_Under.f kj2 a0 a1).bind fun t172 => (if (t171 == t172) = true then ((path_Less.f kj2 a0 a1).bind fun t173 => ((steamerref1_Less.f kj2 a0 a1).bind fun t174 => (some (t173 == t174)))) else (some false)))) else (some false)) else (some false)) else (some false)) else (some false)) else (some false)))) else (some false)))) else (some false))))) else (some false)) = some r := H
            have A18 := Aside0.mk A180
            clear A180
            by_cases c19 : (t158 == t159) = true
            · rw [if_pos c19] at H
              have c19b0 : (t158 == t159) = true := c19
              (try (have c19b1 : decide (t158 = t159) = true := by simpa using c19))
              (try (have c19b2 : (t158 == t159) = true := by simpa using c19))
              clear c19
              replace H := Option.bind_eq_some_iff.mp H
              obtain ⟨t160, A200, H⟩ := H
              replace H : ((steamerref1_Parts.f kj2 a0).bind fun t163 => ((steamerlaw1_Texts.f kj2 t160 t163).bind fun t166 => (if t166 = true then ((path_Depth.f kj2 a0).bind fun t167 => ((steamerref1_Depth.f kj2 a0).bind fun t168 => (if t167 = t168 then ((path_Last.f kj2 a0).bind fun t169 => ((steamerref1_Last.f kj2 a0).bind fun t170 => (if t169.toList = t170.toList then (if t147.toList = t149.toList then (if (t148 == t150) = true then (if t151.toList = t153.toList then (if t152 = t154 then ((path_Under.f kj2 a0 a1).bind fun t171 => ((steamerref1_Under.f kj2 a0 a1).bind fun t172 => (if (t171 == t172) = true then ((path_Less.f kj2 a0 a1).bind fun t173 => ((steamerref1_Less.f kj2 a0 a1).bind fun t174 => (some (t173 == t174)))) else (some false)))) else (some false)) else (some false)) else (some false)) else (some false)) else (some false)))) else (some false)))) else (some false)))) = some r := H
              have A20 := Aside0.mk A200
              clear A200
              replace H := Option.bind_eq_some_iff.mp H
              obtain ⟨t163, A210, H⟩ := H
              replace H : ((steamerlaw1_Texts.f kj2 t160 t163).bind fun t166 => (if t166 = true then ((path_Depth.f kj2 a0).bind fun t167 => ((steamerref1_Depth.f kj2 a0).bind fun t168 => (if t167 = t168 then ((path_Last.f kj2 a0).bind fun t169 => ((steamerref1_Last.f kj2 a0).bind fun t170 => (if t169.toList = t170.toList then (if t147.toList = t149.toList then (if (t148 == t150) = true then (if t151.toList = t153.toList then (if t152 = t154 then ((path_Under.f kj2 a0 a1).bind fun t171 => ((steamerref1_Under.f kj2 a0 a1).bind fun t172 => (if (t171 == t172) = true then ((path_Less.f kj2 a0 a1).bind fun t173 => ((steamerref1_Less.f kj2 a0 a1).bind fun t174 => (some (t173 == t174)))) else (some false)))) else (some false)) else (some false)) else (some false)) else (some false)) else (some false)))) else (some false)))) else (some false))) = some r := H
              have A21 := Aside0.mk A210
              clear A210
              replace H := Option.bind_eq_some_iff.mp H
              obtain ⟨t166, A220, H⟩ := H
              replace H : (if t166 = true then ((path_Depth.f kj2 a0).bind fun t167 => ((steamerref1_Depth.f kj2 a0).bind fun t168 => (if t167 = t168 then ((path_Last.f kj2 a0).bind fun t169 => ((steamerref1_Last.f kj2 a0).bind fun t170 => (if t169.toList = t170.toList then (if t147.toList = t149.toList then (if (t148 == t150) = true then (if t151.toList = t153.toList then (if t152 = t154 then ((path_Under.f kj2 a0 a1).bind fun t171 => ((steamerref1_Under.f kj2 a0 a1).bind fun t172 => (if (t171 == t172) = true then ((path_Less.f kj2 a0 a1).bind fun t173 => ((steamerref1_Less.f kj2 a0 a1).bind fun t174 => (some (t173 == t174)))) else (some false)))) else (some false)) else (some false)) else (some false)) else (some false)) else (some false)))) else (some false)))) else (some false)) = some r := H
              have A22 := Aside0.mk A220
              clear A220
              by_cases c23 : t166 = true
              · subst c23
                have H1 : ((path_Depth.f kj2 a0).bind fun t167 => ((steamerref1_Depth.f kj2 a0).bind fun t168 => (if t167 = t168 then ((path_Last.f kj2 a0).bind fun t169 => ((steamerref1_Last.f kj2 a0).bind fun t170 => (if t169.toList = t170.toList then (if t147.toList = t149.toList then (if (t148 == t150) = true then (if t151.toList = t153.toList then (if t152 = t154 then ((path_Under.f kj2 a0 a1).bind fun t171 => ((steamerref1_Under.f kj2 a0 a1).bind fun t172 => (if (t171 == t172) = true then ((path_Less.f kj2 a0 a1).bind fun t173 => ((steamerref1_Less.f kj2 a0 a1).bind fun t174 => (some (t173 == t174)))) else (some false)))) else (some false)) else (some false)) else (some false)) else (some false)) else (some false)))) else (some false)))) = some r := by rw [if_pos rfl] at H; exact H
                clear H
                have H := H1
                clear H1
                replace H := Option.bind_eq_some_iff.mp H
                obtain ⟨t167, A240, H⟩ := H
                replace H : ((steamerref1_Depth.f kj2 a0).bind fun t168 => (if t167 = t168 then ((path_Last.f kj2 a0).bind fun t169 => ((steamerref1_Last.f kj2 a0).bind fun t170 => (if t169.toList = t170.toList then (if t147.toList = t149.toList then (if (t148 == t150) = true then (if t151.toList = t153.toList then (if t152 = t154 then ((path_Under.f kj2 a0 a1).bind fun t171 => ((steamerref1_Under.f kj2 a0 a1).bind fun t172 => (if (t171 == t172) = true then ((path_Less.f kj2 a0 a1).bind fun t173 => ((steamerref1_Less.f kj2 a0 a1).bind fun t174 => (some (t173 == t174)))) else (some false)))) else (some false)) else (some false)) else (some false)) else (some false)) else (some false)))) else (some false))) = some r := H
                have A24 := Aside0.mk A240
                clear A240
                replace H := Option.bind_eq_some_iff.mp H
                obtain ⟨t168, A250, H⟩ := H
                replace H : (if t167 = t168 then ((path_Last.f kj2 a0).bind fun t169 => ((steamerref1_Last.f kj2 a0).bind fun t170 => (if t169.toList = t170.toList then (if t147.toList = t149.toList then (if (t148 == t150) = true then (if t151.toList = t153.toList then (if t152 = t154 then ((path_Under.f kj2 a0 a1).bind fun t171 => ((steamerref1_Under.f kj2 a0 a1).bind fun t172 => (if (t171 == t172) = true then ((path_Less.f kj2 a0 a1).bind fun t173 => ((steamerref1_Less.f kj2 a0 a1).bind fun t174 => (some (t173 == t174)))) else (some false)))) else (some false)) else (some false)) else (some false)) else (some false)) else (some false)))) else (some false)) = some r := H
                have A25 := Aside0.mk A250
                clear A250
                by_cases c26 : t167 = t168
                · rw [if_pos c26] at H
                  have c26b0 : (t167 == t168) = true := beq_iff_eq.mpr c26
                  have c26b1 : (t167 != t168) = false := bne_eq_false_iff_eq.mpr c26
                  clear c26
                  replace H := Option.bind_eq_some_iff.mp H
                  obtain ⟨t169, A270, H⟩ := H
                  replace H : ((steamerref1_Last.f kj2 a0).bind fun t170 => (if t169.toList = t170.toList then (if t147.toList = t149.toList then (if (t148 == t150) = true then (if t151.toList = t153.toList then (if t152 = t154 then ((path_Under.f kj2 a0 a1).bind fun t171 => ((steamerref1_Under.f kj2 a0 a1).bind fun t172 => (if (t171 == t172) = true then ((path_Less.f kj2 a0 a1).bind fun t173 => ((steamerref1_Less.f kj2 a0 a1).bind fun t174 => (some (t173 == t174)))) else (some false)))) else (some false)) else (some false)) else (some false)) else (some false)) else (some false))) = some r := H
                  have A27 := Aside0.mk A270
                  clear A270
                  replace H := Option.bind_eq_some_iff.mp H
                  obtain ⟨t170, A280, H⟩ := H
                  replace H : (if t169.toList = t170.toList then (if t147.toList = t149.toList then (if (t148 == t150) = true then (if t151.toList = t153.toList then (if t152 = t154 then ((path_Under.f kj2 a0 a1).bind fun t171 => ((steamerref1_Under.f kj2 a0 a1).bind fun t172 => (if (t171 == t172) = true then ((path_Less.f kj2 a0 a1).bind fun t173 => ((steamerref1_Less.f kj2 a0 a1).bind fun t174 => (some (t173 == t174)))) else (some false)))) else (some false)) else (some false)) else (some false)) else (some false)) else (some false)) = some r := H
                  have A28 := Aside0.mk A280
                  clear A280
                  by_cases c29 : t169.toList = t170.toList
                  · rw [if_pos c29] at H
                    have c29b0 : (t169.toList == t170.toList) = true := beq_iff_eq.mpr c29
                    have c29b1 : (t169.toList != t170.toList) = false := bne_eq_false_iff_eq.mpr c29
                    clear c29
                    by_cases c30 : t147.toList = t149.toList
                    · rw [if_pos c30] at H
                      have c30b0 : (t147.toList == t149.toList) = true := beq_iff_eq.mpr c30
                      have c30b1 : (t147.toList != t149.toList) = false := bne_eq_false_iff_eq.mpr c30
                      clear c30
                      by_cases c31 : (t148 == t150) = true
                      · rw [if_pos c31] at H
                        have c31b0 : (t148 == t150) = true := c31
                        (try (have c31b1 : decide (t148 = t150) = true := by simpa using c31))
                        (try (have c31b2 : (t148 == t150) = true := by simpa using c31))
                        clear c31
                        by_cases c32 : t151.toList = t153.toList
                        · rw [if_pos c32] at H
                          have c32b0 : (t151.toList == t153.toList) = true := beq_iff_eq.mpr c32
                          have c32b1 : (t151.toList != t153.toList) = false := bne_eq_false_iff_eq.mpr c32
                          clear c32
                          by_cases c33 : t152 = t154
                          · rw [if_pos c33] at H
                            have c33b0 : (t152 == t154) = true := beq_iff_eq.mpr c33
                            have c33b1 : (t152 != t154) = false := bne_eq_false_iff_eq.mpr c33
                            clear c33
                            replace H := Option.bind_eq_some_iff.mp H
                            obtain ⟨t171, A340, H⟩ := H
                            replace H : ((steamerref1_Under.f kj2 a0 a1).bind fun t172 => (if (t171 == t172) = true then ((path_Less.f kj2 a0 a1).bind fun t173 => ((steamerref1_Less.f kj2 a0 a1).bind fun t174 => (some (t173 == t174)))) else (some false))) = some r := H
                            have A34 := Aside0.mk A340
                            clear A340
                            replace H := Option.bind_eq_some_iff.mp H
                            obtain ⟨t172, A350, H⟩ := H
                            replace H : (if (t171 == t172) = true then ((path_Less.f kj2 a0 a1).bind fun t173 => ((steamerref1_Less.f kj2 a0 a1).bind fun t174 => (some (t173 == t174)))) else (some false)) = some r := H
                            have A35 := Aside0.mk A350
                            clear A350
                            by_cases c36 : (t171 == t172) = true
                            · rw [if_pos c36] at H
                              have c36b0 : (t171 == t172) = true := c36
                              (try (have c36b1 : decide (t171 = t172) = true := by simpa using c36))
                              (try (have c36b2 : (t171 == t172) = true := by simpa using c36))
                              clear c36
                              replace H := Option.bind_eq_some_iff.mp H
                              obtain ⟨t173, A370, H⟩ := H
                              replace H : ((steamerref1_Less.f kj2 a0 a1).bind fun t174 => (some (t173 == t174))) = some r := H
                              have A37 := Aside0.mk A370
                              clear A370
                              replace H := Option.bind_eq_some_iff.mp H
                              obtain ⟨t174, A380, H⟩ := H
                              replace H : (some (t173 == t174)) = some r := H
                              have A38 := Aside0.mk A380
                              clear A380
                              obtain rfl := Option.some.inj H
                              go_wp2_with (first | ((with_reducible refine gate_callee (f := 9) rfl ?_); refine goesL_ (some 24) rfl rfl Tryd.func9 (by kernel_rfl) rfl #[.string a0] rfl (by (try simp only [List.map_toArray, List.map_cons, List.map_nil]); first | done | rfl | (simp only [List.length_drop, List.length_take]; rfl)) ?_; (with_reducible refine (path_Parent.calls kj2 a0 t147 t148 _ A8.out).mono ?_); rintro e w39 ⟨rfl, hb⟩; refine ⟨_, rfl, ?_⟩; have n0_ := Aside0.mk (below_step (by repeat (first | (with_reducible first | exact HB.out | apply below_alloc | apply pw_below_drewN | apply below_drew1) | exact HB.out)) hb); clear HB; have HB := n0_; clear n0_; (try clear hb); (try clear hb2); (try clear hk); (try clear hi)) | ((with_reducible refine gate_callee (f := 10) rfl ?_); refine goesL_ (some 29) rfl rfl Tryd.func10 (by kernel_rfl) rfl #[.string a0] rfl (by (try simp only [List.map_toArray, List.map_cons, List.map_nil]); first | done | rfl | (simp only [List.length_drop, List.length_take]; rfl)) ?_; (with_reducible refine (steamerref1_Parent.calls kj2 a0 t149 t150 _ A9.out).mono ?_); rintro e w40 ⟨rfl, hb⟩; refine ⟨_, rfl, ?_⟩; have n0_ := Aside0.mk (below_step (by repeat (first | (with_reducible first | exact HB.out | apply below_alloc | apply pw_below_drewN | apply below_drew1) | exact HB.out)) hb); clear HB; have HB := n0_; clear n0_; (try clear hb); (try clear hb2); (try clear hk); (try clear hi)) | ((with_reducible refine gate_callee (f := 11) rfl ?_); refine goesL_ (some 35) rfl rfl Tryd.func11 (by kernel_rfl) rfl #[.string a0, .string a1] rfl (by (try simp only [List.map_toArray, List.map_cons, List.map_nil]); first | done | rfl | (simp only [List.length_drop, List.length_take]; rfl)) ?_; (with_reducible refine (path_Join.calls kj2 a0 a1 t151 t152 _ A10.out).mono ?_); rintro e w41 ⟨rfl, hb⟩; refine ⟨_, rfl, ?_⟩; have n0_ := Aside0.mk (below_step (by repeat (first | (with_reducible first | exact HB.out | apply below_alloc | apply pw_below_drewN | apply below_drew1) | exact HB.out)) hb); clear HB; have HB := n0_; clear n0_; (try clear hb); (try clear hb2); (try clear hk); (try clear hi)) | ((with_reducible refine gate_callee (f := 12) rfl ?_); refine goesL_ (some 41) rfl rfl Tryd.func12 (by kernel_rfl) rfl #[.string a0, .string a1] rfl (by (try simp only [List.map_toArray, List.map_cons, List.map_nil]); first | done | rfl | (simp only [List.length_drop, List.length_take]; rfl)) ?_; (with_reducible refine (steamerref1_Join.calls kj2 a0 a1 t153 t154 _ A11.out).mono ?_); rintro e w42 ⟨rfl, hb⟩; refine ⟨_, rfl, ?_⟩; have n0_ := Aside0.mk (below_step (by repeat (first | (with_reducible first | exact HB.out | apply below_alloc | apply pw_below_drewN | apply below_drew1) | exact HB.out)) hb); clear HB; have HB := n0_; clear n0_; (try clear hb); (try clear hb2); (try clear hk); (try clear hi)) | (go_at_call 8; (with_reducible refine (steamerlaw1_told.calls  true _ A12.out).mono ?_); rintro e w43 ⟨rfl, hb⟩; have n0_ := Aside0.mk (below_step (by repeat (first | (with_reducible first | exact HB.out | apply below_alloc | apply pw_below_drewN | apply below_drew1) | exact HB.out)) hb); clear HB; have HB := n0_; clear n0_; (try clear hb); (try clear hb2); (try clear hk); (try clear hi)) | (go_at_call 13; (with_reducible refine (path_Name.calls a0 t156 _ A14.out).mono ?_); rintro e w44 ⟨rfl, hb⟩; have n0_ := Aside0.mk (below_step (by repeat (first | (with_reducible first | exact HB.out | apply below_alloc | apply pw_below_drewN | apply below_drew1) | exact HB.out)) hb); clear HB; have HB := n0_; clear n0_; (try clear hb); (try clear hb2); (try clear hk); (try clear hi)) | (go_at_call 14; (with_reducible refine (steamerref1_Name.calls kj2 a0 t157 _ A15.out).mono ?_); rintro e w' ⟨rfl, ⟨nd, rfl⟩⟩) | (go_at_call 15; (with_reducible refine (path_May.calls kj2 a0 t158 _ A17.out).mono ?_); rintro e w45 ⟨rfl, hb⟩; have n0_ := Aside0.mk (below_step (by repeat (first | (with_reducible first | exact HB.out | apply below_alloc | apply pw_below_drewN | apply below_drew1) | exact HB.out)) hb); clear HB; have HB := n0_; clear n0_; (try clear hb); (try clear hb2); (try clear hk); (try clear hi)) | (go_at_call 16; (with_reducible refine (steamerref1_MayPath.calls kj2 a0 t159 _ A18.out).mono ?_); rintro e w46 ⟨rfl, hb⟩; have n0_ := Aside0.mk (below_step (by repeat (first | (with_reducible first | exact HB.out | apply below_alloc | apply pw_below_drewN | apply below_drew1) | exact HB.out)) hb); clear HB; have HB := n0_; clear n0_; (try clear hb); (try clear hb2); (try clear hk); (try clear hi)) | (go_at_call 18; (with_reducible refine (path_Parts.calls kj2 a0 t160 _ A20.out).mono ?_); rintro e w47 ⟨v161, rfl, ho0, hb⟩; have n0_ := Aside0.mk (Kd.R_lower ho0 (below_size (by repeat (first | (with_reducible first | exact HB.out | apply below_alloc | apply pw_below_drewN | apply below_drew1) | exact HB.out)))); have n1_ := Aside0.mk (below_step (by repeat (first | (with_reducible first | exact HB.out | apply below_alloc | apply pw_below_drewN | apply below_drew1) | exact HB.out)) hb); clear HB; have HO162 := n0_; have HB := n1_; clear n0_ n1_; (try clear hb); (try clear hb2); (try clear hk); (try clear hi); (try clear ho0)) | (go_at_call 19; (with_reducible refine (steamerref1_Parts.calls kj2 a0 t163 _ A21.out).mono ?_); rintro e w48 ⟨v164, rfl, ho0, hb⟩; have n0_ := Aside0.mk (Kd.R_elder' (by (with_reducible repeat (first | apply Kd.R_alloc | apply Kd.R_drewN | apply Kd.R_drew)); exact HO162.out) (Kd.R_base ho0) hb); have n1_ := Aside0.mk (Kd.R_lower (Kd.R_new' ho0 (Kd.R_lt (by (with_reducible repeat (first | apply Kd.R_alloc | apply Kd.R_drewN | apply Kd.R_drew)); exact HO162.out))) (below_size (by repeat (first | (with_reducible first | exact HB.out | apply below_alloc | apply pw_below_drewN | apply below_drew1) | exact HB.out)))); have n2_ := Aside0.mk (below_step (by repeat (first | (with_reducible first | exact HB.out | apply below_alloc | apply pw_below_drewN | apply below_drew1) | exact HB.out)) hb); clear HO162; clear HB; have HO162 := n0_; have HO165 := n1_; have HB := n2_; clear n0_ n1_ n2_; (try clear hb); (try clear hb2); (try clear hk); (try clear hi); (try clear ho0); obtain ⟨Ao49, co49, eo49⟩ := Kd.R_slice HO162.out; subst eo49; obtain ⟨Ao50, co50, eo50⟩ := Kd.R_slice HO165.out; subst eo50) | (go_at_call 17; (with_reducible refine (steamerlaw1_Texts.calls kj2 _ _ t160 _ _ t163 true _ ?side1 ?side2 ?side3 ?side4 A22.out).mono ?_); (case side1 => repeat (first | exact (Kd.R_reads' HO162.out).2.2 | (with_reducible refine Kd.C_alloc ?_ _) | (with_reducible refine Kd.C_drewN ?_ _) | (with_reducible refine Kd.C_drew ?_))); (case side2 => exact (Kd.R_reads' HO162.out).2.1); (case side3 => repeat (first | exact (Kd.R_reads' HO165.out).2.2 | (with_reducible refine Kd.C_alloc ?_ _) | (with_reducible refine Kd.C_drewN ?_ _) | (with_reducible refine Kd.C_drew ?_))); (case side4 => exact (Kd.R_reads' HO165.out).2.1); rintro e w' ⟨rfl, ⟨nd, rfl⟩⟩) | (go_at_call 20; (with_reducible refine (path_Depth.calls kj2 a0 t167 _ A24.out).mono ?_); rintro e w51 ⟨rfl, hb⟩; have n0_ := Aside0.mk (Kd.R_below (by (with_reducible repeat (first | apply Kd.R_alloc | apply Kd.R_drewN | apply Kd.R_drew)); exact HO162.out) hb); have n1_ := Aside0.mk (Kd.R_below (by (with_reducible repeat (first | apply Kd.R_alloc | apply Kd.R_drewN | apply Kd.R_drew)); exact HO165.out) hb); have n2_ := Aside0.mk (below_step (by repeat (first | (with_reducible first | exact HB.out | apply below_alloc | apply pw_below_drewN | apply below_drew1) | exact HB.out)) hb); clear HO162; clear HO165; clear HB; have HO162 := n0_; have HO165 := n1_; have HB := n2_; clear n0_ n1_ n2_; (try clear hb); (try clear hb2); (try clear hk); (try clear hi)) | (go_at_call 21; (with_reducible refine (steamerref1_Depth.calls kj2 a0 t168 _ A25.out).mono ?_); rintro e w52 ⟨rfl, hb⟩; have n0_ := Aside0.mk (Kd.R_below (by (with_reducible repeat (first | apply Kd.R_alloc | apply Kd.R_drewN | apply Kd.R_drew)); exact HO162.out) hb); have n1_ := Aside0.mk (Kd.R_below (by (with_reducible repeat (first | apply Kd.R_alloc | apply Kd.R_drewN | apply Kd.R_drew)); exact HO165.out) hb); have n2_ := Aside0.mk (below_step (by repeat (first | (with_reducible first | exact HB.out | apply below_alloc | apply pw_below_drewN | apply below_drew1) | exact HB.out)) hb); clear HO162; clear HO165; clear HB; have HO162 := n0_; have HO165 := n1_; have HB := n2_; clear n0_ n1_ n2_; (try clear hb); (try clear hb2); (try clear hk); (try clear hi)) | (go_at_call 22; (with_reducible refine (path_Last.calls kj2 a0 t169 _ A27.out).mono ?_); rintro e w53 ⟨rfl, hb⟩; have n0_ := Aside0.mk (Kd.R_below (by (with_reducible repeat (first | apply Kd.R_alloc | apply Kd.R_drewN | apply Kd.R_drew)); exact HO162.out) hb); have n1_ := Aside0.mk (Kd.R_below (by (with_reducible repeat (first | apply Kd.R_alloc | apply Kd.R_drewN | apply Kd.R_drew)); exact HO165.out) hb); have n2_ := Aside0.mk (below_step (by repeat (first | (with_reducible first | exact HB.out | apply below_alloc | apply pw_below_drewN | apply below_drew1) | exact HB.out)) hb); clear HO162; clear HO165; clear HB; have HO162 := n0_; have HO165 := n1_; have HB := n2_; clear n0_ n1_ n2_; (try clear hb); (try clear hb2); (try clear hk); (try clear hi)) | (go_at_call 23; (with_reducible refine (steamerref1_Last.calls kj2 a0 t170 _ A28.out).mono ?_); rintro e w54 ⟨rfl, hb⟩; have n0_ := Aside0.mk (Kd.R_below (by (with_reducible repeat (first | apply Kd.R_alloc | apply Kd.R_drewN | apply Kd.R_drew)); exact HO162.out) hb); have n1_ := Aside0.mk (Kd.R_below (by (with_reducible repeat (first | apply Kd.R_alloc | apply Kd.R_drewN | apply Kd.R_drew)); exact HO165.out) hb); have n2_ := Aside0.mk (below_step (by repeat (first | (with_reducible first | exact HB.out | apply below_alloc | apply pw_below_drewN | apply below_drew1) | exact HB.out)) hb); clear HO162; clear HO165; clear HB; have HO162 := n0_; have HO165 := n1_; have HB := n2_; clear n0_ n1_ n2_; (try clear hb); (try clear hb2); (try clear hk); (try clear hi)) | (go_at_call 24; (with_reducible refine (path_Under.calls kj2 a0 a1 t171 _ A34.out).mono ?_); rintro e w55 ⟨rfl, hb⟩; have n0_ := Aside0.mk (Kd.R_below (by (with_reducible repeat (first | apply Kd.R_alloc | apply Kd.R_drewN | apply Kd.R_drew)); exact HO162.out) hb); have n1_ := Aside0.mk (Kd.R_below (by (with_reducible repeat (first | apply Kd.R_alloc | apply Kd.R_drewN | apply Kd.R_drew)); exact HO165.out) hb); have n2_ := Aside0.mk (below_step (by repeat (first | (with_reducible first | exact HB.out | apply below_alloc | apply pw_below_drewN | apply below_drew1) | exact HB.out)) hb); clear HO162; clear HO165; clear HB; have HO162 := n0_; have HO165 := n1_; have HB := n2_; clear n0_ n1_ n2_; (try clear hb); (try clear hb2); (try clear hk); (try clear hi)) | (go_at_call 25; (with_reducible refine (steamerref1_Under.calls kj2 a0 a1 t172 _ A35.out).mono ?_); rintro e w56 ⟨rfl, hb⟩; have n0_ := Aside0.mk (Kd.R_below (by (with_reducible repeat (first | apply Kd.R_alloc | apply Kd.R_drewN | apply Kd.R_drew)); exact HO162.out) hb); have n1_ := Aside0.mk (Kd.R_below (by (with_reducible repeat (first | apply Kd.R_alloc | apply Kd.R_drewN | apply Kd.R_drew)); exact HO165.out) hb); have n2_ := Aside0.mk (below_step (by repeat (first | (with_reducible first | exact HB.out | apply below_alloc | apply pw_below_drewN | apply below_drew1) | exact HB.out)) hb); clear HO162; clear HO165; clear HB; have HO162 := n0_; have HO165 := n1_; have HB := n2_; clear n0_ n1_ n2_; (try clear hb); (try clear hb2); (try clear hk); (try clear hi)) | (go_at_call 26; (with_reducible refine (path_Less.calls kj2 a0 a1 t173 _ A37.out).mono ?_); rintro e w57 ⟨rfl, hb⟩; have n0_ := Aside0.mk (Kd.R_below (by (with_reducible repeat (first | apply Kd.R_alloc | apply Kd.R_drewN | apply Kd.R_drew)); exact HO162.out) hb); have n1_ := Aside0.mk (Kd.R_below (by (with_reducible repeat (first | apply Kd.R_alloc | apply Kd.R_drewN | apply Kd.R_drew)); exact HO165.out) hb); have n2_ := Aside0.mk (below_step (by repeat (first | (with_reducible first | exact HB.out | apply below_alloc | apply pw_below_drewN | apply below_drew1) | exact HB.out)) hb); clear HO162; clear HO165; clear HB; have HO162 := n0_; have HO165 := n1_; have HB := n2_; clear n0_ n1_ n2_; (try clear hb); (try clear hb2); (try clear hk); (try clear hi)) | (go_at_call 27; (with_reducible refine (steamerref1_Less.calls kj2 a0 a1 t174 _ A38.out).mono ?_); rintro e w58 ⟨rfl, hb⟩; have n0_ := Aside0.mk (Kd.R_below (by (with_reducible repeat (first | apply Kd.R_alloc | apply Kd.R_drewN | apply Kd.R_drew)); exact HO162.out) hb); have n1_ := Aside0.mk (Kd.R_below (by (with_reducible repeat (first | apply Kd.R_alloc | apply Kd.R_drewN | apply Kd.R_drew)); exact HO165.out) hb); have n2_ := Aside0.mk (below_step (by repeat (first | (with_reducible first | exact HB.out | apply below_alloc | apply pw_below_drewN | apply below_drew1) | exact HB.out)) hb); clear HO162; clear HO165; clear HB; have HO162 := n0_; have HO165 := n1_; have HB := n2_; clear n0_ n1_ n2_; (try clear hb); (try clear hb2); (try clear hk); (try clear hi)))
                              go_ret
                              exact ⟨by first | rfl | (simp [errW_none, errW_some] <;> rfl) | (simp [*, errW_none, errW_some] <;> rfl), by repeat (first | (with_reducible first | exact HB.out | apply below_alloc | apply pw_below_drewN | apply below_drew1) | exact HB.out)⟩
                            · rw [if_neg c36] at H
                              have c36b0 : (t171 == t172) = false := by simpa using c36
                              (try (have c36b1 : decide (t171 = t172) = false := by simpa using c36))
                              (try (have c36b2 : (t171 == t172) = false := by simpa using c36))
                              (try (have c36b3 : ¬ (t171 = t172) := by simpa using c36))
                              clear c36
                              exact absurd (Option.some.inj H) (by rw [hr_]; decide)
                          · rw [if_neg c33] at H
                            have c33b0 : (t152 == t154) = false := beq_eq_false_iff_ne.mpr c33
                            have c33b1 : (t152 != t154) = true := bne_iff_ne.mpr c33
                            exact absurd (Option.some.inj H) (by rw [hr_]; decide)
                        · rw [if_neg c32] at H
                          have c32b0 : (t151.toList == t153.toList) = false := beq_eq_false_iff_ne.mpr c32
                          have c32b1 : (t151.toList != t153.toList) = true := bne_iff_ne.mpr c32
                          exact absurd (Option.some.inj H) (by rw [hr_]; decide)
                      · rw [if_neg c31] at H
                        have c31b0 : (t148 == t150) = false := by simpa using c31
                        (try (have c31b1 : decide (t148 = t150) = false := by simpa using c31))
                        (try (have c31b2 : (t148 == t150) = false := by simpa using c31))
                        (try (have c31b3 : ¬ (t148 = t150) := by simpa using c31))
                        clear c31
                        exact absurd (Option.some.inj H) (by rw [hr_]; decide)
                    · rw [if_neg c30] at H
                      have c30b0 : (t147.toList == t149.toList) = false := beq_eq_false_iff_ne.mpr c30
                      have c30b1 : (t147.toList != t149.toList) = true := bne_iff_ne.mpr c30
                      exact absurd (Option.some.inj H) (by rw [hr_]; decide)
                  · rw [if_neg c29] at H
                    have c29b0 : (t169.toList == t170.toList) = false := beq_eq_false_iff_ne.mpr c29
                    have c29b1 : (t169.toList != t170.toList) = true := bne_iff_ne.mpr c29
                    exact absurd (Option.some.inj H) (by rw [hr_]; decide)
                · rw [if_neg c26] at H
                  have c26b0 : (t167 == t168) = false := beq_eq_false_iff_ne.mpr c26
                  have c26b1 : (t167 != t168) = true := bne_iff_ne.mpr c26
                  exact absurd (Option.some.inj H) (by rw [hr_]; decide)
              · replace c23 := Bool.eq_false_iff.mpr c23
                subst c23
                have H1 : (some false) = some r := by rw [if_neg (show ¬ (false = true) by decide)] at H; exact H
                clear H
                have H := H1
                clear H1
                exact absurd (Option.some.inj H) (by rw [hr_]; decide)
            · rw [if_neg c19] at H
              have c19b0 : (t158 == t159) = false := by simpa using c19
              (try (have c19b1 : decide (t158 = t159) = false := by simpa using c19))
              (try (have c19b2 : (t158 == t159) = false := by simpa using c19))
              (try (have c19b3 : ¬ (t158 = t159) := by simpa using c19))
              clear c19
              exact absurd (Option.some.inj H) (by rw [hr_]; decide)
          · rw [if_neg c16] at H
            have c16b0 : (t156 == t157) = false := by simpa using c16
            (try (have c16b1 : decide (t156 = t157) = false := by simpa using c16))
            (try (have c16b2 : (t156 == t157) = false := by simpa using c16))
            (try (have c16b3 : ¬ (t156 = t157) := by simpa using c16))
            clear c16
            exact absurd (Option.some.inj H) (by rw [hr_]; decide)
        · replace c13 := Bool.eq_false_iff.mpr c13
          subst c13
          have H1 : (some false) = some r := by rw [if_neg (show ¬ (false = true) by decide)] at H; exact H
          clear H
          have H := H1
          clear H1
          exact absurd (Option.some.inj H) (by rw [hr_]; decide)

/-- THE ONE PURE STATEMENT of steamerlaw1_PathAsks: yours. -/
def steamerlaw1_PathAsks.Pure : Prop := ∀ (a0 : ByteArray) (a1 : ByteArray), a0.size ≤ 140737488351232 → a1.size ≤ 140737488351232 → ∃ k, steamerlaw1_PathAsks.f k a0 a1 = some true
theorem steamerlaw1_PathAsks.walk (P : steamerlaw1_PathAsks.Pure) (a0 : ByteArray) (a1 : ByteArray) (w : World) (w0 : a0.size ≤ 140737488351232) (w1 : a1.size ≤ 140737488351232) :
    Calls Tryd.prog 3 #[.string a0, .string a1] w fun e w' => e = .returned (.bool true) ∧ Below w.heap.size w w' := by
  obtain ⟨k, h⟩ := P a0 a1 w0 w1
  refine (steamerlaw1_PathAsks.calls k a0 a1 true w rfl h).mono ?_
  rintro e w' ⟨rfl, hd⟩
  exact ⟨rfl, hd⟩

/-! ### steamerlaw1_Made: function 28 -/
mutual
def steamerlaw1_Made.l0 : Nat → List Int → Int → ByteArray → Int → Option (ByteArray)
  | 0, _, _, _, _ => none
  | k + 1, x0, x1, x5, x6 => if x6 < (x0.length : Int) then (steamerlaw1_Made.j1 k x0 x1 x5 x6 (decide (x6 < x1))) else (steamerlaw1_Made.j1 k x0 x1 x5 x6 false)
def steamerlaw1_Made.j1 : Nat → List Int → Int → ByteArray → Int → Bool → Option (ByteArray)
  | 0, _, _, _, _, _ => none
  | k + 1, x0, x1, x5, x6, x15 => if x15 = true then (if x6 > 0 then (if x5.size + 1 ≤ 9223372036854775807 then ((some (([(⟨#[97]⟩ : ByteArray), (⟨#[98]⟩ : ByteArray), (⟨#[99]⟩ : ByteArray), (⟨#[97, 45]⟩ : ByteArray), (⟨#[97, 98]⟩ : ByteArray), (⟨#[122]⟩ : ByteArray), (⟨#[46, 97]⟩ : ByteArray), (⟨#[97, 46, 98]⟩ : ByteArray)] : List ByteArray) : List ByteArray)).bind fun y175 => (if 0 ≤ x6 then (if x6 < (x0.length : Int) then (if 0 ≤ (Int.tmod (IntKind.u64.wrap (rd x0 x6)) 8) then (if (Int.tmod (IntKind.u64.wrap (rd x0 x6)) 8) < (y175.length : Int) then (if (x5 ++ (⟨#[47]⟩ : ByteArray)).size + (rdOf ByteArray.empty y175 (Int.tmod (IntKind.u64.wrap (rd x0 x6)) 8)).size ≤ 9223372036854775807 then (steamerlaw1_Made.l0 k x0 x1 ((x5 ++ (⟨#[47]⟩ : ByteArray)) ++ (rdOf ByteArray.empty y175 (Int.tmod (IntKind.u64.wrap (rd x0 x6)) 8))) (wrap64 (x6 + 1))) else (none)) else (none)) else (none)) else (none)) else (none))) else (none)) else ((some (([(⟨#[97]⟩ : ByteArray), (⟨#[98]⟩ : ByteArray), (⟨#[99]⟩ : ByteArray), (⟨#[97, 45]⟩ : ByteArray), (⟨#[97, 98]⟩ : ByteArray), (⟨#[122]⟩ : ByteArray), (⟨#[46, 97]⟩ : ByteArray), (⟨#[97, 46, 98]⟩ : ByteArray)] : List ByteArray) : List ByteArray)).bind fun y180 => (if 0 ≤ x6 then (if x6 < (x0.length : Int) then (if 0 ≤ (Int.tmod (IntKind.u64.wrap (rd x0 x6)) 8) then (if (Int.tmod (IntKind.u64.wrap (rd x0 x6)) 8) < (y180.length : Int) then (if x5.size + (rdOf ByteArray.empty y180 (Int.tmod (IntKind.u64.wrap (rd x0 x6)) 8)).size ≤ 9223372036854775807 then (steamerlaw1_Made.l0 k x0 x1 (x5 ++ (rdOf ByteArray.empty y180 (Int.tmod (IntKind.u64.wrap (rd x0 x6)) 8))) (wrap64 (x6 + 1))) else (none)) else (none)) else (none)) else (none)) else (none)))) else (some x5)
end
def steamerlaw1_Made.f (k : Nat) (l0 : List Int) (a1 : Int) : Option (ByteArray) := steamerlaw1_Made.l0 k l0 a1 (⟨#[]⟩ : ByteArray) 0
theorem steamerlaw1_Made.mono_l : ∀ k, (∀ y0 y1 y2 y3, LeO (steamerlaw1_Made.l0 k y0 y1 y2 y3) (steamerlaw1_Made.l0 (k + 1) y0 y1 y2 y3)) ∧ (∀ y0 y1 y2 y3 y4, LeO (steamerlaw1_Made.j1 k y0 y1 y2 y3 y4) (steamerlaw1_Made.j1 (k + 1) y0 y1 y2 y3 y4))
  | 0 => ⟨fun _ _ _ _ r h => by simp [steamerlaw1_Made.l0] at h, fun _ _ _ _ _ r h => by simp [steamerlaw1_Made.j1] at h⟩
  | k + 1 => by
    obtain ⟨ih0, ih1⟩ := steamerlaw1_Made.mono_l k
    refine ⟨?_, ?_⟩
    · intro y0 y1 y2 y3
      unfold steamerlaw1_Made.l0
      repeat' first
      | (with_reducible exact ih0 _ _ _ _)
      | (with_reducible exact ih1 _ _ _ _ _)
      | (with_reducible exact LeO.refl _)
      | (with_reducible exact LeO.none _)
      | (with_reducible refine LeO.ite ?_ ?_)
      | (with_reducible refine LeO.bind ?_ (fun _ => ?_))
      | exact ih0 _ _ _ _
      | exact ih1 _ _ _ _ _
      | exact LeO.none _
      | refine LeO.ite ?_ ?_
      | refine LeO.bind ?_ (fun _ => ?_)
    · intro y0 y1 y2 y3 y4
      unfold steamerlaw1_Made.j1
      repeat' first
      | (with_reducible exact ih0 _ _ _ _)
      | (with_reducible exact ih1 _ _ _ _ _)
      | (with_reducible exact LeO.refl _)
      | (with_reducible exact LeO.none _)
      | (with_reducible refine LeO.ite ?_ ?_)
      | (with_reducible refine LeO.bind ?_ (fun _ => ?_))
      | exact ih0 _ _ _ _
      | exact ih1 _ _ _ _ _
      | exact LeO.none _
      | refine LeO.ite ?_ ?_
      | refine LeO.bind ?_ (fun _ => ?_)
theorem steamerlaw1_Made.mono : ∀ a0 a1 k, LeO (steamerlaw1_Made.f k a0 a1) (steamerlaw1_Made.f (k + 1) a0 a1) := by
  intro a0 a1 k
  obtain ⟨ih0, ih1⟩ := steamerlaw1_Made.mono_l k
  unfold steamerlaw1_Made.f
  repeat' first
      | (with_reducible exact ih0 _ _ _ _)
      | (with_reducible exact ih1 _ _ _ _ _)
      | (with_reducible exact LeO.refl _)
      | (with_reducible exact LeO.none _)
      | (with_reducible refine LeO.ite ?_ ?_)
      | (with_reducible refine LeO.bind ?_ (fun _ => ?_))
      | exact ih0 _ _ _ _
      | exact ih1 _ _ _ _ _
      | exact LeO.none _
      | refine LeO.ite ?_ ?_
      | refine LeO.bind ?_ (fun _ => ?_)
set_option maxHeartbeats 8000000 in
set_option maxRecDepth 100000 in
theorem steamerlaw1_Made.calls (k : Nat) (A0 : Option Addr) (c0 : Nat) (l0 : List Int) (a1 : Int) (r : ByteArray) (w : World) (hr0 : Kd.C (Kd.int .i64) w A0 l0.length l0) (hc0 : l0.length ≤ c0) (h : steamerlaw1_Made.f k l0 a1 = some r) :
    Calls Tryd.prog 28 #[.slice A0 l0.length c0, .int .i64 a1] w fun e w' => e = .returned (.string r) ∧ Below w.heap.size w w' := by
  have HR0 := Aside0.mk hr0
  have HC0 := Aside0.mk hc0
  clear hr0 hc0
  have HB := Aside0.mk (Below.refl w.heap.size w)
  have H : (steamerlaw1_Made.l0 k l0 a1 (⟨#[]⟩ : ByteArray) 0) = some r := h
  clear h
  have H' := Aside0.mk H
  clear H
  go_enter Tryd.func28, Tryd.ntmps28
  go_wp2
  go_loopg [5, 6] k (fun kq v5 v6 w' => ∃ (x5_1 : ByteArray) (x6_1 : Int), v5 = .string x5_1 ∧ v6 = .int .i64 x6_1 ∧ Aside0 (steamerlaw1_Made.l0 kq l0 a1 x5_1 x6_1 = some r) ∧ Aside0 (kq ≤ k) ∧ Aside0 (Below w.heap.size w w'))
  case atStart => exact ⟨((⟨#[]⟩ : ByteArray)), (0), (by first | rfl | (simp; done) | (simp [*]; done)), (by first | rfl | (simp; done) | (simp [*]; done)), H', ⟨Nat.le_refl _⟩, ⟨by repeat (first | (with_reducible first | exact HB.out | apply below_alloc | apply pw_below_drewN | apply below_drew1) | exact HB.out)⟩⟩
  case round =>
    clear H'
    try clear c2
    try clear p2
    obtain ⟨x5_1, x6_1, rfl, rfl, HA, HK1, HB⟩ := hrel
    cases gk with
    | zero => exact absurd HA.out (by simp [steamerlaw1_Made.l0])
    | succ k1 =>
      have H := HA.out
      clear HA
      simp only [steamerlaw1_Made.l0] at H
      have HC3 := Aside0.mk H
      clear H
      go_upto_region 3 with (fail)
      go_cut [15] (fun v15 wc => ∃ (kq : Nat) (x15_2 : Bool), v15 = .bool x15_2 ∧ Aside0 (steamerlaw1_Made.j1 kq l0 a1 x5_1 x6_1 x15_2 = some r) ∧ Aside0 (kq ≤ k1) ∧ Aside0 (Below w.heap.size w wc))
      case first =>
        have H := HC3.out
        clear HC3
        by_cases c4 : x6_1 < (l0.length : Int)
        · rw [if_pos c4] at H
          have c4b0 : decide (x6_1 < (l0.length : Int)) = true := decide_eq_true c4
          clear c4
          (first | rw [c4b0] | (simp only [i64_w, i32_w]; rw [c4b0]) | skip)
          have H' := Aside0.mk H
          clear H
          go_wp2
          go_meet
          case rel => exact ⟨_, (decide (x6_1 < a1)), (by first | rfl | (simp; done) | (simp [*]; done)), H', ⟨by have := HK1.out; first | omega | exact Nat.le_refl _⟩, ⟨by repeat (first | (with_reducible first | exact HB.out | apply below_alloc | apply pw_below_drewN | apply below_drew1) | exact HB.out)⟩⟩
        · rw [if_neg c4] at H
          have c4b0 : decide (x6_1 < (l0.length : Int)) = false := decide_eq_false c4
          clear c4
          (first | rw [c4b0] | (simp only [i64_w, i32_w]; rw [c4b0]) | skip)
          have H' := Aside0.mk H
          clear H
          go_wp2
          go_meet
          case rel => exact ⟨_, (false), (by first | rfl | (simp; done) | (simp [*]; done)), H', ⟨by have := HK1.out; first | omega | exact Nat.le_refl _⟩, ⟨by repeat (first | (with_reducible first | exact HB.out | apply below_alloc | apply pw_below_drewN | apply below_drew1) | exact HB.out)⟩⟩
      case rest =>
        clear HC3
        try clear c2
        try clear p2
        try clear c4
        try clear c4b0
        try clear p2
        obtain ⟨kq, x15_2, rfl, HA, HJ2, HB⟩ := hcut
        cases kq with
        | zero => exact absurd HA.out (by simp [steamerlaw1_Made.j1])
        | succ kj2 =>
          have H := HA.out
          clear HA
          simp only [steamerlaw1_Made.j1] at H
          by_cases c5 : x15_2 = true
          · subst c5
            have H1 : (if x6_1 > 0 then (if x5_1.size + 1 ≤ 9223372036854775807 then ((some (([(⟨#[97]⟩ : ByteArray), (⟨#[98]⟩ : ByteArray), (⟨#[99]⟩ : ByteArray), (⟨#[97, 45]⟩ : ByteArray), (⟨#[97, 98]⟩ : ByteArray), (⟨#[122]⟩ : ByteArray), (⟨#[46, 97]⟩ : ByteArray), (⟨#[97, 46, 98]⟩ : ByteArray)] : List ByteArray) : List ByteArray)).bind fun y175 => (if 0 ≤ x6_1 then (if x6_1 < (l0.length : Int) then (if 0 ≤ (Int.tmod (IntKind.u64.wrap (rd l0 x6_1)) 8) then (if (Int.tmod (IntKind.u64.wrap (rd l0 x6_1)) 8) < (y175.length : Int) then (if (x5_1 ++ (⟨#[47]⟩ : ByteArray)).size + (rdOf ByteArray.empty y175 (Int.tmod (IntKind.u64.wrap (rd l0 x6_1)) 8)).size ≤ 9223372036854775807 then (steamerlaw1_Made.l0 kj2 l0 a1 ((x5_1 ++ (⟨#[47]⟩ : ByteArray)) ++ (rdOf ByteArray.empty y175 (Int.tmod (IntKind.u64.wrap (rd l0 x6_1)) 8))) (wrap64 (x6_1 + 1))) else (none)) else (none)) else (none)) else (none)) else (none))) else (none)) else ((some (([(⟨#[97]⟩ : ByteArray), (⟨#[98]⟩ : ByteArray), (⟨#[99]⟩ : ByteArray), (⟨#[97, 45]⟩ : ByteArray), (⟨#[97, 98]⟩ : ByteArray), (⟨#[122]⟩ : ByteArray), (⟨#[46, 97]⟩ : ByteArray), (⟨#[97, 46, 98]⟩ : ByteArray)] : List ByteArray) : List ByteArray)).bind fun y180 => (if 0 ≤ x6_1 then (if x6_1 < (l0.length : Int) then (if 0 ≤ (Int.tmod (IntKind.u64.wrap (rd l0 x6_1)) 8) then (if (Int.tmod (IntKind.u64.wrap (rd l0 x6_1)) 8) < (y180.length : Int) then (if x5_1.size + (rdOf ByteArray.empty y180 (Int.tmod (IntKind.u64.wrap (rd l0 x6_1)) 8)).size ≤ 9223372036854775807 then (steamerlaw1_Made.l0 kj2 l0 a1 (x5_1 ++ (rdOf ByteArray.empty y180 (Int.tmod (IntKind.u64.wrap (rd l0 x6_1)) 8))) (wrap64 (x6_1 + 1))) else (none)) else (none)) else (none)) else (none)) else (none)))) = some r := by rw [if_pos rfl] at H; exact H
            clear H
            have H := H1
            clear H1
            by_cases c6 : x6_1 > 0
            · rw [if_pos c6] at H
              have c6b0 : decide (0 < x6_1) = true := decide_eq_true c6
              clear c6
              by_cases c7 : x5_1.size + 1 ≤ 9223372036854775807
              · rw [if_pos c7] at H
                have c7b0 := eq_true c7
                have c7b1 : decide (x5_1.size + 1 ≤ 9223372036854775807) = true := decide_eq_true c7
                try have c7b2 : (9223372036854775807 < x5_1.size + 1) = False := eq_false (Nat.not_lt.2 c7)
                obtain ⟨y175, hy175⟩ : ∃ y_ : List ByteArray, y_ = (([(⟨#[97]⟩ : ByteArray), (⟨#[98]⟩ : ByteArray), (⟨#[99]⟩ : ByteArray), (⟨#[97, 45]⟩ : ByteArray), (⟨#[97, 98]⟩ : ByteArray), (⟨#[122]⟩ : ByteArray), (⟨#[46, 97]⟩ : ByteArray), (⟨#[97, 46, 98]⟩ : ByteArray)] : List ByteArray)) := ⟨_, rfl⟩
                replace H : (if 0 ≤ x6_1 then (if x6_1 < (l0.length : Int) then (if 0 ≤ (Int.tmod (IntKind.u64.wrap (rd l0 x6_1)) 8) then (if (Int.tmod (IntKind.u64.wrap (rd l0 x6_1)) 8) < (y175.length : Int) then (if (x5_1 ++ (⟨#[47]⟩ : ByteArray)).size + (rdOf ByteArray.empty y175 (Int.tmod (IntKind.u64.wrap (rd l0 x6_1)) 8)).size ≤ 9223372036854775807 then (steamerlaw1_Made.l0 kj2 l0 a1 ((x5_1 ++ (⟨#[47]⟩ : ByteArray)) ++ (rdOf ByteArray.empty y175 (Int.tmod (IntKind.u64.wrap (rd l0 x6_1)) 8))) (wrap64 (x6_1 + 1))) else (none)) else (none)) else (none)) else (none)) else (none)) = some r := by first | (rw [hy175]; with_reducible exact H) | (have H2_ := (Option.bind_some _ _).symm.trans H; rw [hy175]; with_reducible exact H2_) | (have H2_ := (Option.bind_some _ _).symm.trans H; with_reducible exact H2_) | with_reducible exact H | (rw [hy175]; exact H) | exact H
                have Ny175 := Aside0.mk hy175
                clear hy175
                by_cases c8 : 0 ≤ x6_1
                · rw [if_pos c8] at H
                  have c8b0 : decide (0 ≤ x6_1) = true := decide_eq_true c8
                  clear c8
                  by_cases c9 : x6_1 < (l0.length : Int)
                  · rw [if_pos c9] at H
                    have c9b0 : decide (x6_1 < (l0.length : Int)) = true := decide_eq_true c9
                    clear c9
                    obtain ⟨ji10, hji10⟩ : ∃ j_ : Int, (Int.tmod (IntKind.u64.wrap (rd l0 x6_1)) 8) = j_ := ⟨_, rfl⟩
                    replace H : (if 0 ≤ (ji10) then (if (ji10) < (y175.length : Int) then (if (x5_1 ++ (⟨#[47]⟩ : ByteArray)).size + (rdOf ByteArray.empty y175 (ji10)).size ≤ 9223372036854775807 then (steamerlaw1_Made.l0 kj2 l0 a1 ((x5_1 ++ (⟨#[47]⟩ : ByteArray)) ++ (rdOf ByteArray.empty y175 (ji10))) (wrap64 (x6_1 + 1))) else (none)) else (none)) else (none)) = some r := by first | (rw [hji10] at H; exact H) | (simp only [hji10] at H ⊢; exact H)
                    by_cases c11 : 0 ≤ (ji10)
                    · rw [if_pos c11] at H
                      have c11b0 : decide (0 ≤ (ji10)) = true := decide_eq_true c11
                      clear c11
                      by_cases c12 : (ji10) < (y175.length : Int)
                      · rw [if_pos c12] at H
                        have c12b0 : decide ((ji10) < (y175.length : Int)) = true := decide_eq_true c12
                        clear c12
                        by_cases c13 : (x5_1 ++ (⟨#[47]⟩ : ByteArray)).size + (rdOf ByteArray.empty y175 (ji10)).size ≤ 9223372036854775807
                        · rw [if_pos c13] at H
                          have c13b0 := eq_true c13
                          have c13b1 : decide ((x5_1 ++ (⟨#[47]⟩ : ByteArray)).size + (rdOf ByteArray.empty y175 (ji10)).size ≤ 9223372036854775807) = true := decide_eq_true c13
                          try have c13b2 : (9223372036854775807 < (x5_1 ++ (⟨#[47]⟩ : ByteArray)).size + (rdOf ByteArray.empty y175 (ji10)).size) = False := eq_false (Nat.not_lt.2 c13)
                          have H' := Aside0.mk H
                          clear H
                          go_wp2_with (first | ((with_reducible refine gate_dst (N := 23) rfl ?_); refine Kd.R_lit Kd.string _ 9 ?hg (N := 23) ?hd (xs := ([(⟨#[97]⟩ : ByteArray), (⟨#[98]⟩ : ByteArray), (⟨#[99]⟩ : ByteArray), (⟨#[97, 45]⟩ : ByteArray), (⟨#[97, 98]⟩ : ByteArray), (⟨#[122]⟩ : ByteArray), (⟨#[46, 97]⟩ : ByteArray), (⟨#[97, 46, 98]⟩ : ByteArray)] : List ByteArray)) (inner := [.string (⟨#[97]⟩ : ByteArray), .string (⟨#[98]⟩ : ByteArray), .string (⟨#[99]⟩ : ByteArray), .string (⟨#[97, 45]⟩ : ByteArray), .string (⟨#[97, 98]⟩ : ByteArray), .string (⟨#[122]⟩ : ByteArray), .string (⟨#[46, 97]⟩ : ByteArray), .string (⟨#[97, 46, 98]⟩ : ByteArray)]) (ok := fun _ => True) (okp := fun _ => True) ?hr ?hp (fun _ hk => hk) trivial (Below.refl _ _) (Nat.le_refl _) (by simp) ?_; (case hd => rfl); (case hg => rfl); (case hr => first | (go_simp; done) | (go_simp; rfl)); (case hp => exact (Reps.one (show Kd.M Kd.string _ _ _ (⟨#[97]⟩ : ByteArray) [.string (⟨#[97]⟩ : ByteArray)] from rfl) (Reps.one (show Kd.M Kd.string _ _ _ (⟨#[98]⟩ : ByteArray) [.string (⟨#[98]⟩ : ByteArray)] from rfl) (Reps.one (show Kd.M Kd.string _ _ _ (⟨#[99]⟩ : ByteArray) [.string (⟨#[99]⟩ : ByteArray)] from rfl) (Reps.one (show Kd.M Kd.string _ _ _ (⟨#[97, 45]⟩ : ByteArray) [.string (⟨#[97, 45]⟩ : ByteArray)] from rfl) (Reps.one (show Kd.M Kd.string _ _ _ (⟨#[97, 98]⟩ : ByteArray) [.string (⟨#[97, 98]⟩ : ByteArray)] from rfl) (Reps.one (show Kd.M Kd.string _ _ _ (⟨#[122]⟩ : ByteArray) [.string (⟨#[122]⟩ : ByteArray)] from rfl) (Reps.one (show Kd.M Kd.string _ _ _ (⟨#[46, 97]⟩ : ByteArray) [.string (⟨#[46, 97]⟩ : ByteArray)] from rfl) (Reps.one (show Kd.M Kd.string _ _ _ (⟨#[97, 46, 98]⟩ : ByteArray) [.string (⟨#[97, 46, 98]⟩ : ByteArray)] from rfl) (Reps.none _ _)))))))))); intro v176 w14 ho15 hb hg_ hnew_; clear hg_ hnew_; (first | rw [← Ny175.out] at ho15 | (simp only [Int.reduceToNat] at ho15; rw [← Ny175.out] at ho15)); have n0_ := Aside0.mk (Kd.R_lower ho15 (below_size (by repeat (first | (with_reducible first | exact HB.out | apply below_alloc | apply pw_below_drewN | apply below_drew1) | exact HB.out)))); have n1_ := Aside0.mk (below_step (by repeat (first | (with_reducible first | exact HB.out | apply below_alloc | apply pw_below_drewN | apply below_drew1) | exact HB.out)) hb); clear HB; have HO177 := n0_; have HB := n1_; clear n0_ n1_; clear hb ho15; have p178 : 0 ≤ (x6_1 : Int) := of_decide_eq_true (by first | (with_reducible assumption) | assumption); have q178 : x6_1 < (l0.length : Int) := of_decide_eq_true (by first | (with_reducible assumption) | assumption); obtain ⟨ad178, e178, hx178_0⟩ := Kd.at_int HR0.out x6_1 p178 q178; cases e178; replace hx178_0 := (HB.out.cell (World.block_lt_of_cell? w _ hx178_0)).trans hx178_0; replace p178 := eq_true p178; replace q178 := eq_true q178; obtain ⟨Ao16, co16, eo16⟩ := Kd.R_slice HO177.out; subst eo16; have p179 : 0 ≤ ((ji10) : Int) := of_decide_eq_true (by first | (with_reducible assumption) | assumption); have q179 : (ji10) < (y175.length : Int) := of_decide_eq_true (by first | (with_reducible assumption) | assumption); obtain ⟨ad179, e179, hx179_0⟩ := Kd.at_string (Kd.R_reads' HO177.out).2.2 (ji10) p179 q179; cases e179; replace p179 := eq_true p179; replace q179 := eq_true q179))
                          go_roundg kj2
                          case measure => have := HK1.out; have := HJ2.out; omega
                          case rel => exact ⟨((x5_1 ++ (⟨#[47]⟩ : ByteArray)) ++ (rdOf ByteArray.empty y175 (ji10))), (wrap64 (x6_1 + 1)), (by first | rfl | (simp; done) | (simp only [← hji10] <;> (first | rfl | simp)) | (simp [*]; done)), (by first | rfl | (simp; done) | (simp [*]; done)), H', ⟨by have := HK1.out; have := HJ2.out; omega⟩, ⟨by repeat (first | (with_reducible first | exact HB.out | apply below_alloc | apply pw_below_drewN | apply below_drew1) | exact HB.out)⟩⟩
                        · rw [if_neg c13] at H
                          exact absurd H (by simp)
                      · rw [if_neg c12] at H
                        exact absurd H (by simp)
                    · rw [if_neg c11] at H
                      exact absurd H (by simp)
                  · rw [if_neg c9] at H
                    exact absurd H (by simp)
                · rw [if_neg c8] at H
                  exact absurd H (by simp)
              · rw [if_neg c7] at H
                exact absurd H (by simp)
            · rw [if_neg c6] at H
              have c6b0 : decide (0 < x6_1) = false := decide_eq_false c6
              clear c6
              obtain ⟨y180, hy180⟩ : ∃ y_ : List ByteArray, y_ = (([(⟨#[97]⟩ : ByteArray), (⟨#[98]⟩ : ByteArray), (⟨#[99]⟩ : ByteArray), (⟨#[97, 45]⟩ : ByteArray), (⟨#[97, 98]⟩ : ByteArray), (⟨#[122]⟩ : ByteArray), (⟨#[46, 97]⟩ : ByteArray), (⟨#[97, 46, 98]⟩ : ByteArray)] : List ByteArray)) := ⟨_, rfl⟩
              replace H : (if 0 ≤ x6_1 then (if x6_1 < (l0.length : Int) then (if 0 ≤ (Int.tmod (IntKind.u64.wrap (rd l0 x6_1)) 8) then (if (Int.tmod (IntKind.u64.wrap (rd l0 x6_1)) 8) < (y180.length : Int) then (if x5_1.size + (rdOf ByteArray.empty y180 (Int.tmod (IntKind.u64.wrap (rd l0 x6_1)) 8)).size ≤ 9223372036854775807 then (steamerlaw1_Made.l0 kj2 l0 a1 (x5_1 ++ (rdOf ByteArray.empty y180 (Int.tmod (IntKind.u64.wrap (rd l0 x6_1)) 8))) (wrap64 (x6_1 + 1))) else (none)) else (none)) else (none)) else (none)) else (none)) = some r := by first | (rw [hy180]; with_reducible exact H) | (have H2_ := (Option.bind_some _ _).symm.trans H; rw [hy180]; with_reducible exact H2_) | (have H2_ := (Option.bind_some _ _).symm.trans H; with_reducible exact H2_) | with_reducible exact H | (rw [hy180]; exact H) | exact H
              have Ny180 := Aside0.mk hy180
              clear hy180
              by_cases c17 : 0 ≤ x6_1
              · rw [if_pos c17] at H
                have c17b0 : decide (0 ≤ x6_1) = true := decide_eq_true c17
                clear c17
                by_cases c18 : x6_1 < (l0.length : Int)
                · rw [if_pos c18] at H
                  have c18b0 : decide (x6_1 < (l0.length : Int)) = true := decide_eq_true c18
                  clear c18
                  obtain ⟨ji19, hji19⟩ : ∃ j_ : Int, (Int.tmod (IntKind.u64.wrap (rd l0 x6_1)) 8) = j_ := ⟨_, rfl⟩
                  replace H : (if 0 ≤ (ji19) then (if (ji19) < (y180.length : Int) then (if x5_1.size + (rdOf ByteArray.empty y180 (ji19)).size ≤ 9223372036854775807 then (steamerlaw1_Made.l0 kj2 l0 a1 (x5_1 ++ (rdOf ByteArray.empty y180 (ji19))) (wrap64 (x6_1 + 1))) else (none)) else (none)) else (none)) = some r := by first | (rw [hji19] at H; exact H) | (simp only [hji19] at H ⊢; exact H)
                  by_cases c20 : 0 ≤ (ji19)
                  · rw [if_pos c20] at H
                    have c20b0 : decide (0 ≤ (ji19)) = true := decide_eq_true c20
                    clear c20
                    by_cases c21 : (ji19) < (y180.length : Int)
                    · rw [if_pos c21] at H
                      have c21b0 : decide ((ji19) < (y180.length : Int)) = true := decide_eq_true c21
                      clear c21
                      by_cases c22 : x5_1.size + (rdOf ByteArray.empty y180 (ji19)).size ≤ 9223372036854775807
                      · rw [if_pos c22] at H
                        have c22b0 := eq_true c22
                        have c22b1 : decide (x5_1.size + (rdOf ByteArray.empty y180 (ji19)).size ≤ 9223372036854775807) = true := decide_eq_true c22
                        try have c22b2 : (9223372036854775807 < x5_1.size + (rdOf ByteArray.empty y180 (ji19)).size) = False := eq_false (Nat.not_lt.2 c22)
                        have H' := Aside0.mk H
                        clear H
                        go_wp2_with (first | ((with_reducible refine gate_dst (N := 23) rfl ?_); refine Kd.R_lit Kd.string _ 9 ?hg (N := 23) ?hd (xs := ([(⟨#[97]⟩ : ByteArray), (⟨#[98]⟩ : ByteArray), (⟨#[99]⟩ : ByteArray), (⟨#[97, 45]⟩ : ByteArray), (⟨#[97, 98]⟩ : ByteArray), (⟨#[122]⟩ : ByteArray), (⟨#[46, 97]⟩ : ByteArray), (⟨#[97, 46, 98]⟩ : ByteArray)] : List ByteArray)) (inner := [.string (⟨#[97]⟩ : ByteArray), .string (⟨#[98]⟩ : ByteArray), .string (⟨#[99]⟩ : ByteArray), .string (⟨#[97, 45]⟩ : ByteArray), .string (⟨#[97, 98]⟩ : ByteArray), .string (⟨#[122]⟩ : ByteArray), .string (⟨#[46, 97]⟩ : ByteArray), .string (⟨#[97, 46, 98]⟩ : ByteArray)]) (ok := fun _ => True) (okp := fun _ => True) ?hr ?hp (fun _ hk => hk) trivial (Below.refl _ _) (Nat.le_refl _) (by simp) ?_; (case hd => rfl); (case hg => rfl); (case hr => first | (go_simp; done) | (go_simp; rfl)); (case hp => exact (Reps.one (show Kd.M Kd.string _ _ _ (⟨#[97]⟩ : ByteArray) [.string (⟨#[97]⟩ : ByteArray)] from rfl) (Reps.one (show Kd.M Kd.string _ _ _ (⟨#[98]⟩ : ByteArray) [.string (⟨#[98]⟩ : ByteArray)] from rfl) (Reps.one (show Kd.M Kd.string _ _ _ (⟨#[99]⟩ : ByteArray) [.string (⟨#[99]⟩ : ByteArray)] from rfl) (Reps.one (show Kd.M Kd.string _ _ _ (⟨#[97, 45]⟩ : ByteArray) [.string (⟨#[97, 45]⟩ : ByteArray)] from rfl) (Reps.one (show Kd.M Kd.string _ _ _ (⟨#[97, 98]⟩ : ByteArray) [.string (⟨#[97, 98]⟩ : ByteArray)] from rfl) (Reps.one (show Kd.M Kd.string _ _ _ (⟨#[122]⟩ : ByteArray) [.string (⟨#[122]⟩ : ByteArray)] from rfl) (Reps.one (show Kd.M Kd.string _ _ _ (⟨#[46, 97]⟩ : ByteArray) [.string (⟨#[46, 97]⟩ : ByteArray)] from rfl) (Reps.one (show Kd.M Kd.string _ _ _ (⟨#[97, 46, 98]⟩ : ByteArray) [.string (⟨#[97, 46, 98]⟩ : ByteArray)] from rfl) (Reps.none _ _)))))))))); intro v181 w23 ho24 hb hg_ hnew_; clear hg_ hnew_; (first | rw [← Ny180.out] at ho24 | (simp only [Int.reduceToNat] at ho24; rw [← Ny180.out] at ho24)); have n0_ := Aside0.mk (Kd.R_lower ho24 (below_size (by repeat (first | (with_reducible first | exact HB.out | apply below_alloc | apply pw_below_drewN | apply below_drew1) | exact HB.out)))); have n1_ := Aside0.mk (below_step (by repeat (first | (with_reducible first | exact HB.out | apply below_alloc | apply pw_below_drewN | apply below_drew1) | exact HB.out)) hb); clear HB; have HO182 := n0_; have HB := n1_; clear n0_ n1_; clear hb ho24; have p183 : 0 ≤ (x6_1 : Int) := of_decide_eq_true (by first | (with_reducible assumption) | assumption); have q183 : x6_1 < (l0.length : Int) := of_decide_eq_true (by first | (with_reducible assumption) | assumption); obtain ⟨ad183, e183, hx183_0⟩ := Kd.at_int HR0.out x6_1 p183 q183; cases e183; replace hx183_0 := (HB.out.cell (World.block_lt_of_cell? w _ hx183_0)).trans hx183_0; replace p183 := eq_true p183; replace q183 := eq_true q183; obtain ⟨Ao25, co25, eo25⟩ := Kd.R_slice HO182.out; subst eo25; have p184 : 0 ≤ ((ji19) : Int) := of_decide_eq_true (by first | (with_reducible assumption) | assumption); have q184 : (ji19) < (y180.length : Int) := of_decide_eq_true (by first | (with_reducible assumption) | assumption); obtain ⟨ad184, e184, hx184_0⟩ := Kd.at_string (Kd.R_reads' HO182.out).2.2 (ji19) p184 q184; cases e184; replace p184 := eq_true p184; replace q184 := eq_true q184))
                        go_roundg kj2
                        case measure => have := HK1.out; have := HJ2.out; omega
                        case rel => exact ⟨(x5_1 ++ (rdOf ByteArray.empty y180 (ji19))), (wrap64 (x6_1 + 1)), (by first | rfl | (simp; done) | (simp only [← hji19] <;> (first | rfl | simp)) | (simp [*]; done)), (by first | rfl | (simp; done) | (simp [*]; done)), H', ⟨by have := HK1.out; have := HJ2.out; omega⟩, ⟨by repeat (first | (with_reducible first | exact HB.out | apply below_alloc | apply pw_below_drewN | apply below_drew1) | exact HB.out)⟩⟩
                      · rw [if_neg c22] at H
                        exact absurd H (by simp)
                    · rw [if_neg c21] at H
                      exact absurd H (by simp)
                  · rw [if_neg c20] at H
                    exact absurd H (by simp)
                · rw [if_neg c18] at H
                  exact absurd H (by simp)
              · rw [if_neg c17] at H
                exact absurd H (by simp)
          · replace c5 := Bool.eq_false_iff.mpr c5
            subst c5
            have H1 : (some x5_1) = some r := by rw [if_neg (show ¬ (false = true) by decide)] at H; exact H
            clear H
            have H := H1
            clear H1
            obtain rfl := Option.some.inj H
            go_wp2
            go_ret
            exact ⟨by first | rfl | (simp [errW_none, errW_some] <;> rfl) | (simp [*, errW_none, errW_some] <;> rfl), by repeat (first | (with_reducible first | exact HB.out | apply below_alloc | apply pw_below_drewN | apply below_drew1) | exact HB.out)⟩

end Go.Proofs.YtncfadhcpmokiaaDoor.PB
