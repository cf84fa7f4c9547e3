-- Printed by a program of this claim's session (xprint.py): the machine's side, checked by Lean.
import Derived.Test.YtncfadhcpmokiaaDoorPBx0
import Derived.Test.YtncfadhcpmokiaaDoorPBx3
namespace Go.Proofs.YtncfadhcpmokiaaDoor.PB
open Go.Proofs.YtncfadhcpmokiaaDoor.GotoKit Go.Proofs.YtncfadhcpmokiaaDoor.Ext Go.Proofs.YtncfadhcpmokiaaDoor.PA Go.Proofs.YtncfadhcpmokiaaDoor.Told
open Go.RowKit Go.Proofs.YtncfadhcpmokiaaDoorW.PrintWords Go.Proofs.YtncfadhcpmokiaaDoorW.PrintLast Go.Proofs.YtncfadhcpmokiaaDoorW.PrintMore
attribute [local go_sem] max2_int min2_int max_two min_two max_three min_three max_four min_four   -- for this text's walks alone
set_option linter.unusedVariables false
set_option linter.unusedSimpArgs false

/-! ### steamerlaw1_PathJoins: function 4 -/
mutual
def steamerlaw1_PathJoins.j0 : Nat → ByteArray → ByteArray → Bool → Option (Bool)
  | 0, _, _, _ => none
  | k + 1, x3, x4, x52 => if x52 = true then (some false) else (steamerlaw1_PathJoins.l0 k x3 x4 0)
def steamerlaw1_PathJoins.l0 : Nat → ByteArray → ByteArray → Int → Option (Bool)
  | 0, _, _, _ => none
  | k + 1, x3, x4, x8 => if x8 < 9 then ((path_Under.f k x3 x4).bind fun t197 => (if t197 = true then ((path_Under.f k x4 x3).bind fun t198 => (steamerlaw1_PathJoins.j2 k x3 x4 x8 t198)) else (steamerlaw1_PathJoins.j2 k x3 x4 x8 true))) else ((steamerlaw1_told.f).bind fun t195 => (if t195 = true then (if x4.toList = ([] : List UInt8) then ((path_Under.f k x3 x3).bind fun t196 => (some t196)) else (some false)) else (some false)))
def steamerlaw1_PathJoins.j2 : Nat → ByteArray → ByteArray → Int → Bool → Option (Bool)
  | 0, _, _, _, _ => none
  | k + 1, x3, x4, x8, x65 => if x65 = true then (some false) else ((path_Parent.f k x4).bind fun bt199 => (if bt199.2 = true then (steamerlaw1_PathJoins.l0 k x3 bt199.1 (wrap64 (x8 + 1))) else ((steamerlaw1_told.f).bind fun t201 => (if t201 = true then (if x4.toList = ([] : List UInt8) then ((path_Under.f k x3 x3).bind fun t202 => (some t202)) else (some false)) else (some false)))))
end
def steamerlaw1_PathJoins.f (k : Nat) (l0 : List Int) : Option (Bool) := (steamerlaw1_Made.f k l0 8).bind fun t185 => (if t185.toList = ([] : List UInt8) then ((steamerlaw1_told.f).bind fun t186 => (some t186)) else ((path_Parent.f k t185).bind fun bt187 => ((path_Last.f k t185).bind fun t189 => ((path_Join.f k bt187.1 t189).bind fun bt190 => (if bt187.2 = true then (if bt190.2 = 0 then (if bt190.1.toList = t185.toList then ((path_Depth.f k bt187.1).bind fun t192 => ((path_Depth.f k t185).bind fun t193 => (if t192 = (wrap64 (t193 - 1)) then ((path_Less.f k bt187.1 t185).bind fun t194 => (steamerlaw1_PathJoins.j0 k t185 bt187.1 (!t194))) else (steamerlaw1_PathJoins.j0 k t185 bt187.1 true)))) else (steamerlaw1_PathJoins.j0 k t185 bt187.1 true)) else (steamerlaw1_PathJoins.j0 k t185 bt187.1 true)) else (steamerlaw1_PathJoins.j0 k t185 bt187.1 true))))))
theorem steamerlaw1_PathJoins.mono_l : ∀ k, (∀ y0 y1 y2, LeO (steamerlaw1_PathJoins.j0 k y0 y1 y2) (steamerlaw1_PathJoins.j0 (k + 1) y0 y1 y2)) ∧ (∀ y0 y1 y2, LeO (steamerlaw1_PathJoins.l0 k y0 y1 y2) (steamerlaw1_PathJoins.l0 (k + 1) y0 y1 y2)) ∧ (∀ y0 y1 y2 y3, LeO (steamerlaw1_PathJoins.j2 k y0 y1 y2 y3) (steamerlaw1_PathJoins.j2 (k + 1) y0 y1 y2 y3))
  | 0 => ⟨fun _ _ _ r h => by simp [steamerlaw1_PathJoins.j0] at h, fun _ _ _ r h => by simp [steamerlaw1_PathJoins.l0] at h, fun _ _ _ _ r h => by simp [steamerlaw1_PathJoins.j2] at h⟩
  | k + 1 => by
    obtain ⟨ih0, ih1, ih2⟩ := steamerlaw1_PathJoins.mono_l k
    refine ⟨?_, ?_, ?_⟩
    · intro y0 y1 y2
      unfold steamerlaw1_PathJoins.j0
      repeat' first
      | (with_reducible exact ih0 _ _ _)
      | (with_reducible exact ih1 _ _ _)
      | (with_reducible exact ih2 _ _ _ _)
      | (with_reducible exact path_Depth.mono _ _)
      | (with_reducible exact path_Join.mono _ _ _)
      | (with_reducible exact path_Last.mono _ _)
      | (with_reducible exact path_Less.mono _ _ _)
      | (with_reducible exact path_Parent.mono _ _)
      | (with_reducible exact path_Under.mono _ _ _)
      | (with_reducible exact steamerlaw1_Made.mono _ _ _)
      | (with_reducible exact LeO.refl _)
      | (with_reducible exact LeO.none _)
      | (with_reducible refine LeO.ite ?_ ?_)
      | (with_reducible refine LeO.bind ?_ (fun _ => ?_))
      | exact ih0 _ _ _
      | exact ih1 _ _ _
      | exact ih2 _ _ _ _
      | exact path_Depth.mono _ _
      | exact path_Join.mono _ _ _
      | exact path_Last.mono _ _
      | exact path_Less.mono _ _ _
      | exact path_Parent.mono _ _
      | exact path_Under.mono _ _ _
      | exact steamerlaw1_Made.mono _ _ _
      | exact LeO.none _
      | refine LeO.ite ?_ ?_
      | refine LeO.bind ?_ (fun _ => ?_)
    · intro y0 y1 y2
      unfold steamerlaw1_PathJoins.l0
      repeat' first
      | (with_reducible exact ih0 _ _ _)
      | (with_reducible exact ih1 _ _ _)
      | (with_reducible exact ih2 _ _ _ _)
      | (with_reducible exact path_Depth.mono _ _)
      | (with_reducible exact path_Join.mono _ _ _)
      | (with_reducible exact path_Last.mono _ _)
      | (with_reducible exact path_Less.mono _ _ _)
      | (with_reducible exact path_Parent.mono _ _)
      | (with_reducible exact path_Under.mono _ _ _)
      | (with_reducible exact steamerlaw1_Made.mono _ _ _)
      | (with_reducible exact LeO.refl _)
      | (with_reducible exact LeO.none _)
      | (with_reducible refine LeO.ite ?_ ?_)
      | (with_reducible refine LeO.bind ?_ (fun _ => ?_))
      | exact ih0 _ _ _
      | exact ih1 _ _ _
      | exact ih2 _ _ _ _
      | exact path_Depth.mono _ _
      | exact path_Join.mono _ _ _
      | exact path_Last.mono _ _
      | exact path_Less.mono _ _ _
      | exact path_Parent.mono _ _
      | exact path_Under.mono _ _ _
      | exact steamerlaw1_Made.mono _ _ _
      | exact LeO.none _
      | refine LeO.ite ?_ ?_
      | refine LeO.bind ?_ (fun _ => ?_)
    · intro y0 y1 y2 y3
      unfold steamerlaw1_PathJoins.j2
      repeat' first
      | (with_reducible exact ih0 _ _ _)
      | (with_reducible exact ih1 _ _ _)
      | (with_reducible exact ih2 _ _ _ _)
      | (with_reducible exact path_Depth.mono _ _)
      | (with_reducible exact path_Join.mono _ _ _)
      | (with_reducible exact path_Last.mono _ _)
      | (with_reducible exact path_Less.mono _ _ _)
      | (with_reducible exact path_Parent.mono _ _)
      | (with_reducible exact path_Under.mono _ _ _)
      | (with_reducible exact steamerlaw1_Made.mono _ _ _)
      | (with_reducible exact LeO.refl _)
      | (with_reducible exact LeO.none _)
      | (with_reducible refine LeO.ite ?_ ?_)
      | (with_reducible refine LeO.bind ?_ (fun _ => ?_))
      | exact ih0 _ _ _
      | exact ih1 _ _ _
      | exact ih2 _ _ _ _
      | exact path_Depth.mono _ _
      | exact path_Join.mono _ _ _
      | exact path_Last.mono _ _
      | exact path_Less.mono _ _ _
      | exact path_Parent.mono _ _
      | exact path_Under.mono _ _ _
      | exact steamerlaw1_Made.mono _ _ _
      | exact LeO.none _
      | refine LeO.ite ?_ ?_
      | refine LeO.bind ?_ (fun _ => ?_)
theorem steamerlaw1_PathJoins.mono : ∀ a0 k, LeO (steamerlaw1_PathJoins.f k a0) (steamerlaw1_PathJoins.f (k + 1) a0) := by
  intro a0 k
  obtain ⟨ih0, ih1, ih2⟩ := steamerlaw1_PathJoins.mono_l k
  unfold steamerlaw1_PathJoins.f
  repeat' first
      | (with_reducible exact ih0 _ _ _)
      | (with_reducible exact ih1 _ _ _)
      | (with_reducible exact ih2 _ _ _ _)
      | (with_reducible exact path_Depth.mono _ _)
      | (with_reducible exact path_Join.mono _ _ _)
      | (with_reducible exact path_Last.mono _ _)
      | (with_reducible exact path_Less.mono _ _ _)
      | (with_reducible exact path_Parent.mono _ _)
      | (with_reducible exact path_Under.mono _ _ _)
      | (with_reducible exact steamerlaw1_Made.mono _ _ _)
      | (with_reducible exact LeO.refl _)
      | (with_reducible exact LeO.none _)
      | (with_reducible refine LeO.ite ?_ ?_)
      | (with_reducible refine LeO.bind ?_ (fun _ => ?_))
      | exact ih0 _ _ _
      | exact ih1 _ _ _
      | exact ih2 _ _ _ _
      | exact path_Depth.mono _ _
      | exact path_Join.mono _ _ _
      | exact path_Last.mono _ _
      | exact path_Less.mono _ _ _
      | exact path_Parent.mono _ _
      | exact path_Under.mono _ _ _
      | exact steamerlaw1_Made.mono _ _ _
      | exact LeO.none _
      | refine LeO.ite ?_ ?_
      | refine LeO.bind ?_ (fun _ => ?_)
set_option maxHeartbeats 8000000 in
set_option maxRecDepth 100000 in
theorem steamerlaw1_PathJoins.calls (k : Nat) (A0 : Option Addr) (c0 : Nat) (l0 : List Int) (r : Bool) (w : World) (hr0 : Kd.C (Kd.int .i64) w A0 l0.length l0) (hc0 : l0.length ≤ c0) (hr_ : r = true) (h : steamerlaw1_PathJoins.f k l0 = some r) :
    Calls Tryd.prog 4 #[.slice A0 l0.length c0] w fun e w' => e = .returned (.bool r) ∧ Below w.heap.size w w' := by
  have HR0 := Aside0.mk hr0
  have HC0 := Aside0.mk hc0
  clear hr0 hc0
  have HB := Aside0.mk (Below.refl w.heap.size w)
  have H : ((steamerlaw1_Made.f k l0 8).bind fun t185 => (if t185.toList = ([] : List UInt8) then ((steamerlaw1_told.f).bind fun t186 => (some t186)) else ((path_Parent.f k t185).bind fun bt187 => ((path_Last.f k t185).bind fun t189 => ((path_Join.f k bt187.1 t189).bind fun bt190 => (if bt187.2 = true then (if bt190.2 = 0 then (if bt190.1.toList = t185.toList then ((path_Depth.f k bt187.1).bind fun t192 => ((path_Depth.f k t185).bind fun t193 => (if t192 = (wrap64 (t193 - 1)) then ((path_Less.f k bt187.1 t185).bind fun t194 => (steamerlaw1_PathJoins.j0 k t185 bt187.1 (!t194))) else (steamerlaw1_PathJoins.j0 k t185 bt187.1 true)))) else (steamerlaw1_PathJoins.j0 k t185 bt187.1 true)) else (steamerlaw1_PathJoins.j0 k t185 bt187.1 true)) else (steamerlaw1_PathJoins.j0 k t185 bt187.1 true))))))) = some r := h
  clear h
  replace H := Option.bind_eq_some_iff.mp H
  obtain ⟨t185, A20, H⟩ := H
  replace H : (if t185.toList = ([] : List UInt8) then ((steamerlaw1_told.f).bind fun t186 => (some t186)) else ((path_Parent.f k t185).bind fun bt187 => ((path_Last.f k t185).bind fun t189 => ((path_Join.f k bt187.1 t189).bind fun bt190 => (if bt187.2 = true then (if bt190.2 = 0 then (if bt190.1.toList = t185.toList then ((path_Depth.f k bt187.1).bind fun t192 => ((path_Depth.f k t185).bind fun t193 => (if t192 = (wrap64 (t193 - 1)) then ((path_Less.f k bt187.1 t185).bind fun t194 => (steamerlaw1_PathJoins.j0 k t185 bt187.1 (!t194))) else (steamerlaw1_PathJoins.j0 k t185 bt187.1 true)))) else (steamerlaw1_PathJoins.j0 k t185 bt187.1 true)) else (steamerlaw1_PathJoins.j0 k t185 bt187.1 true)) else (steamerlaw1_PathJoins.j0 k t185 bt187.1 true)))))) = some r := H
  have A2 := Aside0.mk A20
  clear A20
  by_cases c3 : t185.toList = ([] : List UInt8)
  · rw [if_pos c3] at H
    have c3b0 : (t185.toList == ([] : List UInt8)) = true := beq_iff_eq.mpr c3
    have c3b1 : (t185.toList != ([] : List UInt8)) = false := bne_eq_false_iff_eq.mpr c3
    clear c3
    replace H := Option.bind_eq_some_iff.mp H
    obtain ⟨t186, A40, H⟩ := H
    replace H : (some t186) = some r := H
    have A4 := Aside0.mk A40
    clear A40
    obtain rfl := Option.some.inj H
    go_enter Tryd.func4, Tryd.ntmps4
    go_wp2_with (first | ((with_reducible refine gate_callee (f := 28) rfl ?_); refine goesL_ (some 12) rfl rfl Tryd.func28 (by kernel_rfl) rfl #[.slice A0 l0.length c0, .int .i64 8] rfl (by (try simp only [List.map_toArray, List.map_cons, List.map_nil]); first | done | rfl | (simp only [List.length_drop, List.length_take]; rfl)) ?_; (with_reducible refine (steamerlaw1_Made.calls k _ _ l0 8 t185 _ ?side1 ?side2 A2.out).mono ?_); (case side1 => repeat (first | exact HR0.out | (with_reducible refine Kd.C_alloc ?_ _) | (with_reducible refine Kd.C_drewN ?_ _) | (with_reducible refine Kd.C_drew ?_))); (case side2 => exact HC0.out); rintro e w5 ⟨rfl, hb⟩; refine ⟨_, rfl, ?_⟩; have n0_ := Aside0.mk (below_step (by repeat (first | (with_reducible first | exact HB.out | apply below_alloc | apply pw_below_drewN | apply below_drew1) | exact HB.out)) hb); clear HB; have HB := n0_; clear n0_; (try clear hb); (try clear hb2); (try clear hk); (try clear hi)) | (go_at_call 8; (with_reducible refine (steamerlaw1_told.calls  t186 _ A4.out).mono ?_); rintro e w6 ⟨rfl, hb⟩; have n0_ := Aside0.mk (below_step (by repeat (first | (with_reducible first | exact HB.out | apply below_alloc | apply pw_below_drewN | apply below_drew1) | exact HB.out)) hb); clear HB; have HB := n0_; clear n0_; (try clear hb); (try clear hb2); (try clear hk); (try clear hi)))
    go_ret
    exact ⟨by first | rfl | (simp [errW_none, errW_some] <;> rfl) | (simp [*, errW_none, errW_some] <;> rfl), by repeat (first | (with_reducible first | exact HB.out | apply below_alloc | apply pw_below_drewN | apply below_drew1) | exact HB.out)⟩
  · rw [if_neg c3] at H
    have c3b0 : (t185.toList == ([] : List UInt8)) = false := beq_eq_false_iff_ne.mpr c3
    have c3b1 : (t185.toList != ([] : List UInt8)) = true := bne_iff_ne.mpr c3
    replace H := Option.bind_eq_some_iff.mp H
    obtain ⟨⟨t187, t188⟩, A70, H⟩ := H
    replace H : ((path_Last.f k t185).bind fun t189 => ((path_Join.f k t187 t189).bind fun bt190 => (if t188 = true then (if bt190.2 = 0 then (if bt190.1.toList = t185.toList then ((path_Depth.f k t187).bind fun t192 => ((path_Depth.f k t185).bind fun t193 => (if t192 = (wrap64 (t193 - 1)) then ((path_Less.f k t187 t185).bind fun t194 => (steamerlaw1_PathJoins.j0 k t185 t187 (!t194))) else (steamerlaw1_PathJoins.j0 k t185 t187 true)))) else (steamerlaw1_PathJoins.j0 k t185 t187 true)) else (steamerlaw1_PathJoins.j0 k t185 t187 true)) else (steamerlaw1_PathJoins.j0 k t185 t187 true)))) = some r := H
    have A7 := Aside0.mk A70
    clear A70
    replace H := Option.bind_eq_some_iff.mp H
    obtain ⟨t189, A80, H⟩ := H
    replace H : ((path_Join.f k t187 t189).bind fun bt190 => (if t188 = true then (if bt190.2 = 0 then (if bt190.1.toList = t185.toList then ((path_Depth.f k t187).bind fun t192 => ((path_Depth.f k t185).bind fun t193 => (if t192 = (wrap64 (t193 - 1)) then ((path_Less.f k t187 t185).bind fun t194 => (steamerlaw1_PathJoins.j0 k t185 t187 (!t194))) else (steamerlaw1_PathJoins.j0 k t185 t187 true)))) else (steamerlaw1_PathJoins.j0 k t185 t187 true)) else (steamerlaw1_PathJoins.j0 k t185 t187 true)) else (steamerlaw1_PathJoins.j0 k t185 t187 true))) = some r := H
    have A8 := Aside0.mk A80
    clear A80
    replace H := Option.bind_eq_some_iff.mp H
    obtain ⟨⟨t190, t191⟩, A90, H⟩ := H
    replace H : (if t188 = true then (if t191 = 0 then (if t190.toList = t185.toList then ((path_Depth.f k t187).bind fun t192 => ((path_Depth.f k t185).bind fun t193 => (if t192 = (wrap64 (t193 - 1)) then ((path_Less.f k t187 t185).bind fun t194 => (steamerlaw1_PathJoins.j0 k t185 t187 (!t194))) else (steamerlaw1_PathJoins.j0 k t185 t187 true)))) else (steamerlaw1_PathJoins.j0 k t185 t187 true)) else (steamerlaw1_PathJoins.j0 k t185 t187 true)) else (steamerlaw1_PathJoins.j0 k t185 t187 true)) = some r := H
    have A9 := Aside0.mk A90
    clear A90
    have HC10 := Aside0.mk H
    clear H
    go_enter Tryd.func4, Tryd.ntmps4
    go_upto_region 6 with (first | ((with_reducible refine gate_callee (f := 28) rfl ?_); refine goesL_ (some 12) rfl rfl Tryd.func28 (by kernel_rfl) rfl #[.slice A0 l0.length c0, .int .i64 8] rfl (by (try simp only [List.map_toArray, List.map_cons, List.map_nil]); first | done | rfl | (simp only [List.length_drop, List.length_take]; rfl)) ?_; (with_reducible refine (steamerlaw1_Made.calls k _ _ l0 8 t185 _ ?side1 ?side2 A2.out).mono ?_); (case side1 => repeat (first | exact HR0.out | (with_reducible refine Kd.C_alloc ?_ _) | (with_reducible refine Kd.C_drewN ?_ _) | (with_reducible refine Kd.C_drew ?_))); (case side2 => exact HC0.out); rintro e w11 ⟨rfl, hb⟩; refine ⟨_, rfl, ?_⟩; have n0_ := Aside0.mk (below_step (by repeat (first | (with_reducible first | exact HB.out | apply below_alloc | apply pw_below_drewN | apply below_drew1) | exact HB.out)) hb); clear HB; have HB := n0_; clear n0_; (try clear hb); (try clear hb2); (try clear hk); (try clear hi)) | ((with_reducible refine gate_callee (f := 9) rfl ?_); refine goesL_ (some 18) rfl rfl Tryd.func9 (by kernel_rfl) rfl #[.string t185] rfl (by (try simp only [List.map_toArray, List.map_cons, List.map_nil]); first | done | rfl | (simp only [List.length_drop, List.length_take]; rfl)) ?_; (with_reducible refine (path_Parent.calls k t185 t187 t188 _ A7.out).mono ?_); rintro e w12 ⟨rfl, hb⟩; refine ⟨_, rfl, ?_⟩; have n0_ := Aside0.mk (below_step (by repeat (first | (with_reducible first | exact HB.out | apply below_alloc | apply pw_below_drewN | apply below_drew1) | exact HB.out)) hb); clear HB; have HB := n0_; clear n0_; (try clear hb); (try clear hb2); (try clear hk); (try clear hi)) | ((with_reducible refine gate_callee (f := 22) rfl ?_); refine goesL_ (some 24) rfl rfl Tryd.func22 (by kernel_rfl) rfl #[.string t185] rfl (by (try simp only [List.map_toArray, List.map_cons, List.map_nil]); first | done | rfl | (simp only [List.length_drop, List.length_take]; rfl)) ?_; (with_reducible refine (path_Last.calls k t185 t189 _ A8.out).mono ?_); rintro e w13 ⟨rfl, hb⟩; refine ⟨_, rfl, ?_⟩; have n0_ := Aside0.mk (below_step (by repeat (first | (with_reducible first | exact HB.out | apply below_alloc | apply pw_below_drewN | apply below_drew1) | exact HB.out)) hb); clear HB; have HB := n0_; clear n0_; (try clear hb); (try clear hb2); (try clear hk); (try clear hi)) | ((with_reducible refine gate_callee (f := 11) rfl ?_); refine goesL_ (some 25) rfl rfl Tryd.func11 (by kernel_rfl) rfl #[.string t187, .string t189] rfl (by (try simp only [List.map_toArray, List.map_cons, List.map_nil]); first | done | rfl | (simp only [List.length_drop, List.length_take]; rfl)) ?_; (with_reducible refine (path_Join.calls k t187 t189 t190 t191 _ A9.out).mono ?_); rintro e w14 ⟨rfl, hb⟩; refine ⟨_, rfl, ?_⟩; have n0_ := Aside0.mk (below_step (by repeat (first | (with_reducible first | exact HB.out | apply below_alloc | apply pw_below_drewN | apply below_drew1) | exact HB.out)) hb); clear HB; have HB := n0_; clear n0_; (try clear hb); (try clear hb2); (try clear hk); (try clear hi)))
    (try simp only [Act.put, List.setIfInBounds_toArray, List.set_cons_zero, List.set_cons_succ])
    go_cut [52] (fun v52 wc => ∃ (kq : Nat) (x52_9 : Bool), v52 = .bool x52_9 ∧ Aside0 (steamerlaw1_PathJoins.j0 kq t185 t187 x52_9 = some r) ∧ Aside0 (kq ≤ k) ∧ Aside0 (Below w.heap.size w wc))
    case first =>
      have H := HC10.out
      clear HC10
      by_cases c15 : t188 = true
      · subst c15
        have H1 : (if t191 = 0 then (if t190.toList = t185.toList then ((path_Depth.f k t187).bind fun t192 => ((path_Depth.f k t185).bind fun t193 => (if t192 = (wrap64 (t193 - 1)) then ((path_Less.f k t187 t185).bind fun t194 => (steamerlaw1_PathJoins.j0 k t185 t187 (!t194))) else (steamerlaw1_PathJoins.j0 k t185 t187 true)))) else (steamerlaw1_PathJoins.j0 k t185 t187 true)) else (steamerlaw1_PathJoins.j0 k t185 t187 true)) = some r := by rw [if_pos rfl] at H; exact H
        clear H
        have H := H1
        clear H1
        by_cases c16 : t191 = 0
        · rw [if_pos c16] at H
          have c16b0 : (t191 == 0) = true := beq_iff_eq.mpr c16
          have c16b1 : (t191 != 0) = false := bne_eq_false_iff_eq.mpr c16
          clear c16
          (first | rw [c16b0] | (simp only [i64_w, i32_w]; rw [c16b0]) | skip)
          by_cases c17 : t190.toList = t185.toList
          · rw [if_pos c17] at H
            have c17b0 : (t190.toList == t185.toList) = true := beq_iff_eq.mpr c17
            have c17b1 : (t190.toList != t185.toList) = false := bne_eq_false_iff_eq.mpr c17
            clear c17
            replace H := Option.bind_eq_some_iff.mp H
            obtain ⟨t192, A180, H⟩ := H
            replace H : ((path_Depth.f k t185).bind fun t193 => (if t192 = (wrap64 (t193 - 1)) then ((path_Less.f k t187 t185).bind fun t194 => (steamerlaw1_PathJoins.j0 k t185 t187 (!t194))) else (steamerlaw1_PathJoins.j0 k t185 t187 true))) = some r := H
            have A18 := Aside0.mk A180
            clear A180
            replace H := Option.bind_eq_some_iff.mp H
            obtain ⟨t193, A190, H⟩ := H
            replace H : (if t192 = (wrap64 (t193 - 1)) then ((path_Less.f k t187 t185).bind fun t194 => (steamerlaw1_PathJoins.j0 k t185 t187 (!t194))) else (steamerlaw1_PathJoins.j0 k t185 t187 true)) = some r := H
            have A19 := Aside0.mk A190
            clear A190
            by_cases c20 : t192 = (wrap64 (t193 - 1))
            · rw [if_pos c20] at H
              have c20b0 : (t192 == (wrap64 (t193 - 1))) = true := beq_iff_eq.mpr c20
              have c20b1 : (t192 != (wrap64 (t193 - 1))) = false := bne_eq_false_iff_eq.mpr c20
              clear c20
              replace H := Option.bind_eq_some_iff.mp H
              obtain ⟨t194, A210, H⟩ := H
              replace H : (steamerlaw1_PathJoins.j0 k t185 t187 (!t194)) = some r := H
              have A21 := Aside0.mk A210
              clear A210
              have H' := Aside0.mk H
              clear H
              go_wp2_with (first | (go_at_call 20; (with_reducible refine (path_Depth.calls k t187 t192 _ A18.out).mono ?_); rintro e w22 ⟨rfl, hb⟩; have n0_ := Aside0.mk (below_step (by repeat (first | (with_reducible first | exact HB.out | apply below_alloc | apply pw_below_drewN | apply below_drew1) | exact HB.out)) hb); clear HB; have HB := n0_; clear n0_; (try clear hb); (try clear hb2); (try clear hk); (try clear hi)) | (go_at_call 20; (with_reducible refine (path_Depth.calls k t185 t193 _ A19.out).mono ?_); rintro e w23 ⟨rfl, hb⟩; have n0_ := Aside0.mk (below_step (by repeat (first | (with_reducible first | exact HB.out | apply below_alloc | apply pw_below_drewN | apply below_drew1) | exact HB.out)) hb); clear HB; have HB := n0_; clear n0_; (try clear hb); (try clear hb2); (try clear hk); (try clear hi)) | (go_at_call 26; (with_reducible refine (path_Less.calls k t187 t185 t194 _ A21.out).mono ?_); rintro e w24 ⟨rfl, hb⟩; have n0_ := Aside0.mk (below_step (by repeat (first | (with_reducible first | exact HB.out | apply below_alloc | apply pw_below_drewN | apply below_drew1) | exact HB.out)) hb); clear HB; have HB := n0_; clear n0_; (try clear hb); (try clear hb2); (try clear hk); (try clear hi)))
              go_meet
              case rel => exact ⟨_, (!t194), (by first | rfl | (simp; done) | (simp [*]; done)), H', ⟨by first | omega | exact Nat.le_refl _⟩, ⟨by repeat (first | (with_reducible first | exact HB.out | apply below_alloc | apply pw_below_drewN | apply below_drew1) | exact HB.out)⟩⟩
            · rw [if_neg c20] at H
              have c20b0 : (t192 == (wrap64 (t193 - 1))) = false := beq_eq_false_iff_ne.mpr c20
              have c20b1 : (t192 != (wrap64 (t193 - 1))) = true := bne_iff_ne.mpr c20
              have H' := Aside0.mk H
              clear H
              go_wp2_with (first | (go_at_call 20; (with_reducible refine (path_Depth.calls k t187 t192 _ A18.out).mono ?_); rintro e w25 ⟨rfl, hb⟩; have n0_ := Aside0.mk (below_step (by repeat (first | (with_reducible first | exact HB.out | apply below_alloc | apply pw_below_drewN | apply below_drew1) | exact HB.out)) hb); clear HB; have HB := n0_; clear n0_; (try clear hb); (try clear hb2); (try clear hk); (try clear hi)) | (go_at_call 20; (with_reducible refine (path_Depth.calls k t185 t193 _ A19.out).mono ?_); rintro e w26 ⟨rfl, hb⟩; have n0_ := Aside0.mk (below_step (by repeat (first | (with_reducible first | exact HB.out | apply below_alloc | apply pw_below_drewN | apply below_drew1) | exact HB.out)) hb); clear HB; have HB := n0_; clear n0_; (try clear hb); (try clear hb2); (try clear hk); (try clear hi)))
              go_meet
              case rel => exact ⟨_, (true), (by first | rfl | (simp; done) | (simp [*]; done)), H', ⟨by first | omega | exact Nat.le_refl _⟩, ⟨by repeat (first | (with_reducible first | exact HB.out | apply below_alloc | apply pw_below_drewN | apply below_drew1) | exact HB.out)⟩⟩
          · rw [if_neg c17] at H
            have c17b0 : (t190.toList == t185.toList) = false := beq_eq_false_iff_ne.mpr c17
            have c17b1 : (t190.toList != t185.toList) = true := bne_iff_ne.mpr c17
            have H' := Aside0.mk H
            clear H
            go_wp2
            go_meet
            case rel => exact ⟨_, (true), (by first | rfl | (simp; done) | (simp [*]; done)), H', ⟨by first | omega | exact Nat.le_refl _⟩, ⟨by repeat (first | (with_reducible first | exact HB.out | apply below_alloc | apply pw_below_drewN | apply below_drew1) | exact HB.out)⟩⟩
        · rw [if_neg c16] at H
          have c16b0 : (t191 == 0) = false := beq_eq_false_iff_ne.mpr c16
          have c16b1 : (t191 != 0) = true := bne_iff_ne.mpr c16
          (first | rw [c16b0] | (simp only [i64_w, i32_w]; rw [c16b0]) | skip)
          have H' := Aside0.mk H
          clear H
          go_wp2
          go_meet
          case rel => exact ⟨_, (true), (by first | rfl | (simp; done) | (simp [*]; done)), H', ⟨by first | omega | exact Nat.le_refl _⟩, ⟨by repeat (first | (with_reducible first | exact HB.out | apply below_alloc | apply pw_below_drewN | apply below_drew1) | exact HB.out)⟩⟩
      · replace c15 := Bool.eq_false_iff.mpr c15
        subst c15
        have H1 : (steamerlaw1_PathJoins.j0 k t185 t187 true) = some r := by rw [if_neg (show ¬ (false = true) by decide)] at H; exact H
        clear H
        have H := H1
        clear H1
        have H' := Aside0.mk H
        clear H
        go_wp2
        go_meet
        case rel => exact ⟨_, (true), (by first | rfl | (simp; done) | (simp [*]; done)), H', ⟨by first | omega | exact Nat.le_refl _⟩, ⟨by repeat (first | (with_reducible first | exact HB.out | apply below_alloc | apply pw_below_drewN | apply below_drew1) | exact HB.out)⟩⟩
    case rest =>
      clear HC10
      try clear c1
      try clear c2
      try clear p2
      try clear c3
      try clear c3b0
      try clear c3b1
      try clear c4
      try clear p6
      try clear c9
      try clear c11
      try clear c15
      try clear c16
      try clear c16b0
      try clear c16b1
      try clear c17
      try clear c17b0
      try clear c17b1
      try clear c20
      try clear c20b0
      try clear c20b1
      try clear c22
      obtain ⟨kq, x52_9, rfl, HA, HJ9, HB⟩ := hcut
      cases kq with
      | zero => exact absurd HA.out (by simp [steamerlaw1_PathJoins.j0])
      | succ kj9 =>
        have H := HA.out
        clear HA
        simp only [steamerlaw1_PathJoins.j0] at H
        by_cases c27 : x52_9 = true
        · subst c27
          have H1 : (some false) = some r := by rw [if_pos rfl] at H; exact H
          clear H
          have H := H1
          clear H1
          exact absurd (Option.some.inj H) (by rw [hr_]; decide)
        · replace c27 := Bool.eq_false_iff.mpr c27
          subst c27
          have H1 : (steamerlaw1_PathJoins.l0 kj9 t185 t187 0) = some r := by rw [if_neg (show ¬ (false = true) by decide)] at H; exact H
          clear H
          have H := H1
          clear H1
          have H' := Aside0.mk H
          clear H
          go_wp2
          go_loopg [4, 8] kj9 (fun kq v4 v8 w' => ∃ (x4_2 : ByteArray) (x8_2 : Int), v4 = .string x4_2 ∧ v8 = .int .i64 x8_2 ∧ Aside0 (steamerlaw1_PathJoins.l0 kq t185 x4_2 x8_2 = some r) ∧ Aside0 (kq ≤ kj9) ∧ Aside0 (Below w.heap.size w w'))
          case atStart => exact ⟨(t187), (0), (by first | rfl | (simp; done) | (simp [*]; done)), (by first | rfl | (simp; done) | (simp [*]; done)), H', ⟨Nat.le_refl _⟩, ⟨by repeat (first | (with_reducible first | exact HB.out | apply below_alloc | apply pw_below_drewN | apply below_drew1) | exact HB.out)⟩⟩
          case round =>
            clear H'
            try clear c1
            try clear c2
            try clear p2
            try clear c3
            try clear c3b0
            try clear c3b1
            try clear c4
            try clear p6
            try clear c9
            try clear c11
            try clear c15
            try clear c16
            try clear c16b0
            try clear c16b1
            try clear c17
            try clear c17b0
            try clear c17b1
            try clear c20
            try clear c20b0
            try clear c20b1
            try clear c22
            try clear c27
            try clear p2
            try clear p6
            obtain ⟨x4_2, x8_2, rfl, rfl, HA, HK2, HB⟩ := hrel
            cases gk with
            | zero => exact absurd HA.out (by simp [steamerlaw1_PathJoins.l0])
            | succ k2 =>
              have H := HA.out
              clear HA
              simp only [steamerlaw1_PathJoins.l0] at H
              by_cases c28 : x8_2 < 9
              · rw [if_pos c28] at H
                have c28b0 : decide (x8_2 < 9) = true := decide_eq_true c28
                clear c28
                have HC29 := Aside0.mk H
                clear H
                go_upto_region 11 with (fail)
                go_cut [65] (fun v65 wc => ∃ (kq : Nat) (x65_28 : Bool), v65 = .bool x65_28 ∧ Aside0 (steamerlaw1_PathJoins.j2 kq t185 x4_2 x8_2 x65_28 = some r) ∧ Aside0 (kq ≤ k2) ∧ Aside0 (Below w.heap.size w wc))
                case first =>
                  have H := HC29.out
                  clear HC29
                  replace H := Option.bind_eq_some_iff.mp H
                  obtain ⟨t197, A300, H⟩ := H
                  replace H : (if t197 = true then ((path_Under.f k2 x4_2 t185).bind fun t198 => (steamerlaw1_PathJoins.j2 k2 t185 x4_2 x8_2 t198)) else (steamerlaw1_PathJoins.j2 k2 t185 x4_2 x8_2 true)) = some r := H
                  have A30 := Aside0.mk A300
                  clear A300
                  by_cases c31 : t197 = true
                  · subst c31
                    have H1 : ((path_Under.f k2 x4_2 t185).bind fun t198 => (steamerlaw1_PathJoins.j2 k2 t185 x4_2 x8_2 t198)) = some r := by rw [if_pos rfl] at H; exact H
                    clear H
                    have H := H1
                    clear H1
                    replace H := Option.bind_eq_some_iff.mp H
                    obtain ⟨t198, A320, H⟩ := H
                    replace H : (steamerlaw1_PathJoins.j2 k2 t185 x4_2 x8_2 t198) = some r := H
                    have A32 := Aside0.mk A320
                    clear A320
                    have H' := Aside0.mk H
                    clear H
                    go_wp2_with (first | ((with_reducible refine gate_callee (f := 24) rfl ?_); refine goesL_ (some 59) rfl rfl Tryd.func24 (by kernel_rfl) rfl #[.string t185, .string x4_2] rfl (by (try simp only [List.map_toArray, List.map_cons, List.map_nil]); first | done | rfl | (simp only [List.length_drop, List.length_take]; rfl)) ?_; (with_reducible refine (path_Under.calls k2 t185 x4_2 true _ A30.out).mono ?_); rintro e w33 ⟨rfl, hb⟩; refine ⟨_, rfl, ?_⟩; have n0_ := Aside0.mk (below_step (by repeat (first | (with_reducible first | exact HB.out | apply below_alloc | apply pw_below_drewN | apply below_drew1) | exact HB.out)) hb); clear HB; have HB := n0_; clear n0_; (try clear hb); (try clear hb2); (try clear hk); (try clear hi)) | (go_at_call 24; (with_reducible refine (path_Under.calls k2 x4_2 t185 t198 _ A32.out).mono ?_); rintro e w34 ⟨rfl, hb⟩; have n0_ := Aside0.mk (below_step (by repeat (first | (with_reducible first | exact HB.out | apply below_alloc | apply pw_below_drewN | apply below_drew1) | exact HB.out)) hb); clear HB; have HB := n0_; clear n0_; (try clear hb); (try clear hb2); (try clear hk); (try clear hi)))
                    go_meet
                    case rel => exact ⟨_, (t198), (by first | rfl | (simp; done) | (simp [*]; done)), H', ⟨by have := HJ9.out; have := HK2.out; first | omega | exact Nat.le_refl _⟩, ⟨by repeat (first | (with_reducible first | exact HB.out | apply below_alloc | apply pw_below_drewN | apply below_drew1) | exact HB.out)⟩⟩
                  · replace c31 := Bool.eq_false_iff.mpr c31
                    subst c31
                    have H1 : (steamerlaw1_PathJoins.j2 k2 t185 x4_2 x8_2 true) = some r := by rw [if_neg (show ¬ (false = true) by decide)] at H; exact H
                    clear H
                    have H := H1
                    clear H1
                    have H' := Aside0.mk H
                    clear H
                    go_wp2_with (first | ((with_reducible refine gate_callee (f := 24) rfl ?_); refine goesL_ (some 59) rfl rfl Tryd.func24 (by kernel_rfl) rfl #[.string t185, .string x4_2] rfl (by (try simp only [List.map_toArray, List.map_cons, List.map_nil]); first | done | rfl | (simp only [List.length_drop, List.length_take]; rfl)) ?_; (with_reducible refine (path_Under.calls k2 t185 x4_2 false _ A30.out).mono ?_); rintro e w35 ⟨rfl, hb⟩; refine ⟨_, rfl, ?_⟩; have n0_ := Aside0.mk (below_step (by repeat (first | (with_reducible first | exact HB.out | apply below_alloc | apply pw_below_drewN | apply below_drew1) | exact HB.out)) hb); clear HB; have HB := n0_; clear n0_; (try clear hb); (try clear hb2); (try clear hk); (try clear hi)))
                    go_meet
                    case rel => exact ⟨_, (true), (by first | rfl | (simp; done) | (simp [*]; done)), H', ⟨by have := HJ9.out; have := HK2.out; first | omega | exact Nat.le_refl _⟩, ⟨by repeat (first | (with_reducible first | exact HB.out | apply below_alloc | apply pw_below_drewN | apply below_drew1) | exact HB.out)⟩⟩
                case rest =>
                  clear HC29
                  try clear c1
                  try clear c2
                  try clear p2
                  try clear c3
                  try clear c3b0
                  try clear c3b1
                  try clear c4
                  try clear p6
                  try clear c9
                  try clear c11
                  try clear c15
                  try clear c16
                  try clear c16b0
                  try clear c16b1
                  try clear c17
                  try clear c17b0
                  try clear c17b1
                  try clear c20
                  try clear c20b0
                  try clear c20b1
                  try clear c22
                  try clear c24
                  try clear c27
                  try clear c28
                  try clear c28b0
                  try clear c31
                  try clear p2
                  try clear p6
                  obtain ⟨kq, x65_28, rfl, HA, HJ28, HB⟩ := hcut
                  cases kq with
                  | zero => exact absurd HA.out (by simp [steamerlaw1_PathJoins.j2])
                  | succ kj28 =>
                    have H := HA.out
                    clear HA
                    simp only [steamerlaw1_PathJoins.j2] at H
                    by_cases c36 : x65_28 = true
                    · subst c36
                      have H1 : (some false) = some r := by rw [if_pos rfl] at H; exact H
                      clear H
                      have H := H1
                      clear H1
                      exact absurd (Option.some.inj H) (by rw [hr_]; decide)
                    · replace c36 := Bool.eq_false_iff.mpr c36
                      subst c36
                      have H1 : ((path_Parent.f kj28 x4_2).bind fun bt199 => (if bt199.2 = true then (steamerlaw1_PathJoins.l0 kj28 t185 bt199.1 (wrap64 (x8_2 + 1))) else ((steamerlaw1_told.f).bind fun t201 => (if t201 = true then (if x4_2.toList = ([] : List UInt8) then ((path_Under.f kj28 t185 t185).bind fun t202 => (some t202)) else (some false)) else (some false))))) = some r := by rw [if_neg (show ¬ (false = true) by decide)] at H; exact H
                      clear H
                      have H := H1
                      clear H1
                      replace H := Option.bind_eq_some_iff.mp H
                      obtain ⟨⟨t199, t200⟩, A370, H⟩ := H
                      replace H : (if t200 = true then (steamerlaw1_PathJoins.l0 kj28 t185 t199 (wrap64 (x8_2 + 1))) else ((steamerlaw1_told.f).bind fun t201 => (if t201 = true then (if x4_2.toList = ([] : List UInt8) then ((path_Under.f kj28 t185 t185).bind fun t202 => (some t202)) else (some false)) else (some false)))) = some r := H
                      have A37 := Aside0.mk A370
                      clear A370
                      by_cases c38 : t200 = true
                      · subst c38
                        have H1 : (steamerlaw1_PathJoins.l0 kj28 t185 t199 (wrap64 (x8_2 + 1))) = some r := by rw [if_pos rfl] at H; exact H
                        clear H
                        have H := H1
                        clear H1
                        have H' := Aside0.mk H
                        clear H
                        go_wp2_with (first | ((with_reducible refine gate_callee (f := 9) rfl ?_); refine goesL_ (some 68) rfl rfl Tryd.func9 (by kernel_rfl) rfl #[.string x4_2] rfl (by (try simp only [List.map_toArray, List.map_cons, List.map_nil]); first | done | rfl | (simp only [List.length_drop, List.length_take]; rfl)) ?_; (with_reducible refine (path_Parent.calls kj28 x4_2 t199 true _ A37.out).mono ?_); rintro e w39 ⟨rfl, hb⟩; refine ⟨_, rfl, ?_⟩; have n0_ := Aside0.mk (below_step (by repeat (first | (with_reducible first | exact HB.out | apply below_alloc | apply pw_below_drewN | apply below_drew1) | exact HB.out)) hb); clear HB; have HB := n0_; clear n0_; (try clear hb); (try clear hb2); (try clear hk); (try clear hi)))
                        go_roundg kj28
                        case measure => have := HJ9.out; have := HK2.out; have := HJ28.out; omega
                        case rel => exact ⟨(t199), (wrap64 (x8_2 + 1)), (by first | rfl | (simp; done) | (simp [*]; done)), (by first | rfl | (simp; done) | (simp [*]; done)), H', ⟨by have := HJ9.out; have := HK2.out; have := HJ28.out; omega⟩, ⟨by repeat (first | (with_reducible first | exact HB.out | apply below_alloc | apply pw_below_drewN | apply below_drew1) | exact HB.out)⟩⟩
                      · replace c38 := Bool.eq_false_iff.mpr c38
                        subst c38
                        have H1 : ((steamerlaw1_told.f).bind fun t201 => (if t201 = true then (if x4_2.toList = ([] : List UInt8) then ((path_Under.f kj28 t185 t185).bind fun t202 => (some t202)) else (some false)) else (some false))) = some r := by rw [if_neg (show ¬ (false = true) by decide)] at H; exact H
                        clear H
                        have H := H1
                        clear H1
                        replace H := Option.bind_eq_some_iff.mp H
                        obtain ⟨t201, A400, H⟩ := H
                        replace H : (if t201 = true then (if x4_2.toList = ([] : List UInt8) then ((path_Under.f kj28 t185 t185).bind fun t202 => (some t202)) else (some false)) else (some false)) = some r := H
                        have A40 := Aside0.mk A400
                        clear A400
                        by_cases c41 : t201 = true
                        · subst c41
                          have H1 : (if x4_2.toList = ([] : List UInt8) then ((path_Under.f kj28 t185 t185).bind fun t202 => (some t202)) else (some false)) = some r := by rw [if_pos rfl] at H; exact H
                          clear H
                          have H := H1
                          clear H1
                          by_cases c42 : x4_2.toList = ([] : List UInt8)
                          · rw [if_pos c42] at H
                            have c42b0 : (x4_2.toList == ([] : List UInt8)) = true := beq_iff_eq.mpr c42
                            have c42b1 : (x4_2.toList != ([] : List UInt8)) = false := bne_eq_false_iff_eq.mpr c42
                            clear c42
                            replace H := Option.bind_eq_some_iff.mp H
                            obtain ⟨t202, A430, H⟩ := H
                            replace H : (some t202) = some r := H
                            have A43 := Aside0.mk A430
                            clear A430
                            obtain rfl := Option.some.inj H
                            go_wp2_with (first | ((with_reducible refine gate_callee (f := 9) rfl ?_); refine goesL_ (some 68) rfl rfl Tryd.func9 (by kernel_rfl) rfl #[.string x4_2] rfl (by (try simp only [List.map_toArray, List.map_cons, List.map_nil]); first | done | rfl | (simp only [List.length_drop, List.length_take]; rfl)) ?_; (with_reducible refine (path_Parent.calls kj28 x4_2 t199 false _ A37.out).mono ?_); rintro e w44 ⟨rfl, hb⟩; refine ⟨_, rfl, ?_⟩; have n0_ := Aside0.mk (below_step (by repeat (first | (with_reducible first | exact HB.out | apply below_alloc | apply pw_below_drewN | apply below_drew1) | exact HB.out)) hb); clear HB; have HB := n0_; clear n0_; (try clear hb); (try clear hb2); (try clear hk); (try clear hi)) | (go_at_call 8; (with_reducible refine (steamerlaw1_told.calls  true _ A40.out).mono ?_); rintro e w45 ⟨rfl, hb⟩; have n0_ := Aside0.mk (below_step (by repeat (first | (with_reducible first | exact HB.out | apply below_alloc | apply pw_below_drewN | apply below_drew1) | exact HB.out)) hb); clear HB; have HB := n0_; clear n0_; (try clear hb); (try clear hb2); (try clear hk); (try clear hi)) | (go_at_call 24; (with_reducible refine (path_Under.calls kj28 t185 t185 t202 _ A43.out).mono ?_); rintro e w46 ⟨rfl, hb⟩; have n0_ := Aside0.mk (below_step (by repeat (first | (with_reducible first | exact HB.out | apply below_alloc | apply pw_below_drewN | apply below_drew1) | exact HB.out)) hb); clear HB; have HB := n0_; clear n0_; (try clear hb); (try clear hb2); (try clear hk); (try clear hi)))
                            go_ret
                            exact ⟨by first | rfl | (simp [errW_none, errW_some] <;> rfl) | (simp [*, errW_none, errW_some] <;> rfl), by repeat (first | (with_reducible first | exact HB.out | apply below_alloc | apply pw_below_drewN | apply below_drew1) | exact HB.out)⟩
                          · rw [if_neg c42] at H
                            have c42b0 : (x4_2.toList == ([] : List UInt8)) = false := beq_eq_false_iff_ne.mpr c42
                            have c42b1 : (x4_2.toList != ([] : List UInt8)) = true := bne_iff_ne.mpr c42
                            exact absurd (Option.some.inj H) (by rw [hr_]; decide)
                        · replace c41 := Bool.eq_false_iff.mpr c41
                          subst c41
                          have H1 : (some false) = some r := by rw [if_neg (show ¬ (false = true) by decide)] at H; exact H
                          clear H
                          have H := H1
                          clear H1
                          exact absurd (Option.some.inj H) (by rw [hr_]; decide)
              · rw [if_neg c28] at H
                have c28b0 : decide (x8_2 < 9) = false := decide_eq_false c28
                clear c28
                replace H := Option.bind_eq_some_iff.mp H
                obtain ⟨t195, A470, H⟩ := H
                replace H : (if t195 = true then (if x4_2.toList = ([] : List UInt8) then ((path_Under.f k2 t185 t185).bind fun t196 => (some t196)) else (some false)) else (some false)) = some r := H
                have A47 := Aside0.mk A470
                clear A470
                by_cases c48 : t195 = true
                · subst c48
                  have H1 : (if x4_2.toList = ([] : List UInt8) then ((path_Under.f k2 t185 t185).bind fun t196 => (some t196)) else (some false)) = some r := by rw [if_pos rfl] at H; exact H
                  clear H
                  have H := H1
                  clear H1
                  by_cases c49 : x4_2.toList = ([] : List UInt8)
                  · rw [if_pos c49] at H
                    have c49b0 : (x4_2.toList == ([] : List UInt8)) = true := beq_iff_eq.mpr c49
                    have c49b1 : (x4_2.toList != ([] : List UInt8)) = false := bne_eq_false_iff_eq.mpr c49
                    clear c49
                    replace H := Option.bind_eq_some_iff.mp H
                    obtain ⟨t196, A500, H⟩ := H
                    replace H : (some t196) = some r := H
                    have A50 := Aside0.mk A500
                    clear A500
                    obtain rfl := Option.some.inj H
                    go_wp2_with (first | (go_at_call 8; (with_reducible refine (steamerlaw1_told.calls  true _ A47.out).mono ?_); rintro e w51 ⟨rfl, hb⟩; have n0_ := Aside0.mk (below_step (by repeat (first | (with_reducible first | exact HB.out | apply below_alloc | apply pw_below_drewN | apply below_drew1) | exact HB.out)) hb); clear HB; have HB := n0_; clear n0_; (try clear hb); (try clear hb2); (try clear hk); (try clear hi)) | (go_at_call 24; (with_reducible refine (path_Under.calls k2 t185 t185 t196 _ A50.out).mono ?_); rintro e w52 ⟨rfl, hb⟩; have n0_ := Aside0.mk (below_step (by repeat (first | (with_reducible first | exact HB.out | apply below_alloc | apply pw_below_drewN | apply below_drew1) | exact HB.out)) hb); clear HB; have HB := n0_; clear n0_; (try clear hb); (try clear hb2); (try clear hk); (try clear hi)))
                    go_ret
                    exact ⟨by first | rfl | (simp [errW_none, errW_some] <;> rfl) | (simp [*, errW_none, errW_some] <;> rfl), by repeat (first | (with_reducible first | exact HB.out | apply below_alloc | apply pw_below_drewN | apply below_drew1) | exact HB.out)⟩
                  · rw [if_neg c49] at H
                    have c49b0 : (x4_2.toList == ([] : List UInt8)) = false := beq_eq_false_iff_ne.mpr c49
                    have c49b1 : (x4_2.toList != ([] : List UInt8)) = true := bne_iff_ne.mpr c49
                    exact absurd (Option.some.inj H) (by rw [hr_]; decide)
                · replace c48 := Bool.eq_false_iff.mpr c48
                  subst c48
                  have H1 : (some false) = some r := by rw [if_neg (show ¬ (false = true) by decide)] at H; exact H
                  clear H
                  have H := H1
                  clear H1
                  exact absurd (Option.some.inj H) (by rw [hr_]; decide)

/-- THE ONE PURE STATEMENT of steamerlaw1_PathJoins: yours. -/
def steamerlaw1_PathJoins.Pure : Prop := ∀ (l0 : List Int), l0.length ≤ maxLen → l0.length * 8 ≤ 140737488351232 → (∀ x ∈ l0, (Lit.int .i64 x).wf = true) → ∃ k, steamerlaw1_PathJoins.f k l0 = some true
theorem steamerlaw1_PathJoins.walk (P : steamerlaw1_PathJoins.Pure) (a0 : Option Addr) (len0 cap0 : Nat) (z0 : List Int) (w : World) (w0 : (a0 = none ∧ len0 = 0 ∧ cap0 = 0 ∧ z0 = []) ∨ ∃ x, a0 = some x ∧ len0 ≤ cap0 ∧ cap0 ≤ maxLen ∧ z0.length = cap0 ∧ (∀ i, i < z0.length → w.cell? (x.add i) = some (.int .i64 (z0.getD i 0))) ∧ ∀ n ∈ z0, (Lit.int .i64 n).wf = true) (y0 : len0 * 8 ≤ 140737488351232) :
    Calls Tryd.prog 4 #[.slice a0 len0 cap0] w fun e w' => e = .returned (.bool true) ∧ Below w.heap.size w w' := by
  obtain ⟨l0, rfl, hr0, hm0, hw0, hc0⟩ := ReadsInt.ofRowC w0
  obtain ⟨k, h⟩ := P l0 hm0 y0 hw0
  refine (steamerlaw1_PathJoins.calls k _ _ l0 true w (Kd.C_of_reads (d := (0 : Int)) (h1 := fun _ => rfl) hr0) hc0 rfl h).mono ?_
  rintro e w' ⟨rfl, hd⟩
  exact ⟨rfl, hd⟩

end Go.Proofs.YtncfadhcpmokiaaDoor.PB
