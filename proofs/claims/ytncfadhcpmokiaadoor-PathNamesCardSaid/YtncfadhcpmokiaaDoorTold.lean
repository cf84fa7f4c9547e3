/-
  The closed part of every law of layer 1: steamerlaw1.told returns true; its calls are met by the printed contracts at their closed arguments.
-/
import Derived.Test.YtncfadhcpmokiaaDoorPAx
set_option linter.unusedVariables false
namespace Go.Proofs.YtncfadhcpmokiaaDoor.Told
open Go Go.RowKit Go.Proofs.YtncfadhcpmokiaaDoorW.PrintWords Go.Proofs.YtncfadhcpmokiaaDoorW.PrintLast Go.Proofs.YtncfadhcpmokiaaDoorW.PrintMore
open Go.Proofs.YtncfadhcpmokiaaDoor.PA Go.Proofs.YtncfadhcpmokiaaDoor.Ext

def steamerlaw1_told.f : Option Bool := some true
set_option maxHeartbeats 8000000 in
set_option maxRecDepth 100000 in
theorem steamerlaw1_told.calls (r : Bool) (w : World) (h : steamerlaw1_told.f = some r) :
    Calls Tryd.prog 8 #[] w fun e w' => e = .returned (.bool r) ∧ Below w.heap.size w w' := by
  obtain rfl := Option.some.inj h
  clear h
  have HB := Aside0.mk (Below.refl w.heap.size w)
  go_enter Tryd.func8, Tryd.ntmps8
  go_wp2_with fail
  refine (path_Parent.calls 30 ⟨#[97, 47, 98]⟩ ⟨#[97]⟩ true _ (by kernel_rfl)).mono ?_
  rintro e w0 ⟨rfl, hb⟩
  have n0_ := Aside0.mk (below_then HB.out HB.out.size hb); clear HB; have HB := n0_; clear n0_ hb
  go_wp2_with fail
  refine (path_Parent.calls 30 ⟨#[]⟩ ⟨#[]⟩ false _ (by kernel_rfl)).mono ?_
  rintro e w1 ⟨rfl, hb⟩
  have n0_ := Aside0.mk (below_then HB.out HB.out.size hb); clear HB; have HB := n0_; clear n0_ hb
  go_wp2_with fail
  refine (path_Join.calls 30 ⟨#[97]⟩ ⟨#[98]⟩ ⟨#[97, 47, 98]⟩ 0 _ (by kernel_rfl)).mono ?_
  rintro e w2 ⟨rfl, hb⟩
  have n0_ := Aside0.mk (below_then HB.out HB.out.size hb); clear HB; have HB := n0_; clear n0_ hb
  go_wp2_with fail
  refine (path_Join.calls 30 ⟨#[97]⟩ ⟨#[46, 46]⟩ ⟨#[]⟩ 1 _ (by kernel_rfl)).mono ?_
  rintro e w3 ⟨rfl, hb⟩
  have n0_ := Aside0.mk (below_then HB.out HB.out.size hb); clear HB; have HB := n0_; clear n0_ hb
  go_wp2_with fail
  refine (path_Parent.calls 30 ⟨#[97]⟩ ⟨#[]⟩ true _ (by kernel_rfl)).mono ?_
  rintro e w4 ⟨rfl, hb⟩
  have n0_ := Aside0.mk (below_then HB.out HB.out.size hb); clear HB; have HB := n0_; clear n0_ hb
  go_wp2_with fail
  refine (path_Name.calls ⟨#[97]⟩ true _ (by kernel_rfl)).mono ?_
  rintro e w5 ⟨rfl, hb⟩
  have n0_ := Aside0.mk (below_then HB.out HB.out.size hb); clear HB; have HB := n0_; clear n0_ hb
  go_wp2_with fail
  refine (path_Name.calls ⟨#[46, 46]⟩ false _ (by kernel_rfl)).mono ?_
  rintro e w6 ⟨rfl, hb⟩
  have n0_ := Aside0.mk (below_then HB.out HB.out.size hb); clear HB; have HB := n0_; clear n0_ hb
  go_wp2_with fail
  refine (path_Name.calls ⟨#[97, 47, 98]⟩ false _ (by kernel_rfl)).mono ?_
  rintro e w7 ⟨rfl, hb⟩
  have n0_ := Aside0.mk (below_then HB.out HB.out.size hb); clear HB; have HB := n0_; clear n0_ hb
  go_wp2_with fail
  refine (path_May.calls 30 ⟨#[]⟩ true _ (by kernel_rfl)).mono ?_
  rintro e w8 ⟨rfl, hb⟩
  have n0_ := Aside0.mk (below_then HB.out HB.out.size hb); clear HB; have HB := n0_; clear n0_ hb
  go_wp2_with fail
  refine (path_May.calls 30 ⟨#[97, 47, 98]⟩ true _ (by kernel_rfl)).mono ?_
  rintro e w9 ⟨rfl, hb⟩
  have n0_ := Aside0.mk (below_then HB.out HB.out.size hb); clear HB; have HB := n0_; clear n0_ hb
  go_wp2_with fail
  refine (path_May.calls 30 ⟨#[97, 47, 47, 98]⟩ false _ (by kernel_rfl)).mono ?_
  rintro e w10 ⟨rfl, hb⟩
  have n0_ := Aside0.mk (below_then HB.out HB.out.size hb); clear HB; have HB := n0_; clear n0_ hb
  go_wp2_with fail
  refine (path_May.calls 30 ⟨#[47, 97]⟩ false _ (by kernel_rfl)).mono ?_
  rintro e w11 ⟨rfl, hb⟩
  have n0_ := Aside0.mk (below_then HB.out HB.out.size hb); clear HB; have HB := n0_; clear n0_ hb
  go_wp2_with fail
  refine (path_Under.calls 30 ⟨#[97, 47, 98]⟩ ⟨#[97]⟩ true _ (by kernel_rfl)).mono ?_
  rintro e w12 ⟨rfl, hb⟩
  have n0_ := Aside0.mk (below_then HB.out HB.out.size hb); clear HB; have HB := n0_; clear n0_ hb
  go_wp2_with fail
  refine (path_Under.calls 30 ⟨#[97, 98]⟩ ⟨#[97]⟩ false _ (by kernel_rfl)).mono ?_
  rintro e w13 ⟨rfl, hb⟩
  have n0_ := Aside0.mk (below_then HB.out HB.out.size hb); clear HB; have HB := n0_; clear n0_ hb
  go_wp2_with fail
  refine (path_Under.calls 30 ⟨#[97]⟩ ⟨#[]⟩ true _ (by kernel_rfl)).mono ?_
  rintro e w14 ⟨rfl, hb⟩
  have n0_ := Aside0.mk (below_then HB.out HB.out.size hb); clear HB; have HB := n0_; clear n0_ hb
  go_wp2_with fail
  refine (path_Depth.calls 30 ⟨#[97, 47, 98]⟩ (2) _ (by kernel_rfl)).mono ?_
  rintro e w15 ⟨rfl, hb⟩
  have n0_ := Aside0.mk (below_then HB.out HB.out.size hb); clear HB; have HB := n0_; clear n0_ hb
  go_wp2_with fail
  refine (path_Depth.calls 30 ⟨#[46, 46]⟩ (-1) _ (by kernel_rfl)).mono ?_
  rintro e w16 ⟨rfl, hb⟩
  have n0_ := Aside0.mk (below_then HB.out HB.out.size hb); clear HB; have HB := n0_; clear n0_ hb
  go_wp2_with fail
  refine (path_Last.calls 30 ⟨#[97, 47, 98]⟩ ⟨#[98]⟩ _ (by kernel_rfl)).mono ?_
  rintro e w17 ⟨rfl, hb⟩
  have n0_ := Aside0.mk (below_then HB.out HB.out.size hb); clear HB; have HB := n0_; clear n0_ hb
  go_wp2_with fail
  refine (path_Less.calls 30 ⟨#[97, 47, 98]⟩ ⟨#[97, 45, 98]⟩ true _ (by kernel_rfl)).mono ?_
  rintro e w18 ⟨rfl, hb⟩
  have n0_ := Aside0.mk (below_then HB.out HB.out.size hb); clear HB; have HB := n0_; clear n0_ hb
  go_wp2_with fail
  refine (path_Less.calls 30 ⟨#[97]⟩ ⟨#[97, 47, 98]⟩ true _ (by kernel_rfl)).mono ?_
  rintro e w19 ⟨rfl, hb⟩
  have n0_ := Aside0.mk (below_then HB.out HB.out.size hb); clear HB; have HB := n0_; clear n0_ hb
  go_wp2_with fail
  refine (path_Less.calls 30 ⟨#[97]⟩ ⟨#[97]⟩ false _ (by kernel_rfl)).mono ?_
  rintro e w20 ⟨rfl, hb⟩
  have n0_ := Aside0.mk (below_then HB.out HB.out.size hb); clear HB; have HB := n0_; clear n0_ hb
  go_wp2_with fail
  refine (path_Parts.calls 30 ⟨#[97, 47, 98]⟩ [⟨#[97]⟩, ⟨#[98]⟩] _ (by kernel_rfl)).mono ?_
  rintro e w21 ⟨v, rfl, ho, hb⟩
  obtain ⟨A, c, rfl, hcl, hr⟩ := Kd.R_reads ho
  clear ho hr hcl
  have n0_ := Aside0.mk (below_then HB.out HB.out.size hb); clear HB; have HB := n0_; clear n0_ hb
  go_wp2
  go_ret
  exact ⟨rfl, HB.out⟩
end Go.Proofs.YtncfadhcpmokiaaDoor.Told
