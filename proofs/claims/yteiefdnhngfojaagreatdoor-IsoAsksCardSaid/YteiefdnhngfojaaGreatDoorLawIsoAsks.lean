/-
  The law IsoAsks of layer 26 holds: whatever the input, it returns true and leaves its arguments as they were. Its row, out of the interpreter's soundness and the pure statement; its tied card.
-/
import Derived.Test.YteiefdnhngfojaaGreatDoorRows
import Derived.Test.YteiefdnhngfojaaGreatDoorTie
import Derived.Test.YteiefdnhngfojaaGreatDoorCards
import Derived.Test.YteiefdnhngfojaaGreatDoorVmE
import Derived.Test.YteiefdnhngfojaaGreatDoorVmT
import Derived.Test.YteiefdnhngfojaaGreatDoorPuB
import Derived.Test.YteiefdnhngfojaaGreatDoorLim
import Derived.WalkKit
import Derived.ProofKit
import Derived.OpenShut
import Derived.ShutString
import Derived.ChangeOld
import Derived.Below
import Derived.SizedLaws
import Derived.LaidMore
import Derived.Stop.Joined
import Derived.Lay
import Derived.SevenTiedAt
import Derived.Carry
namespace Go.Proofs.YteiefdnhngfojaaGreatDoor.isoAsks
open Go Go.ChangeShapes Go.WideShapes Go.ChangeAt Go.RowKit Go.Proofs.YteiefdnhngfojaaGreatDoor.Vm Go.Proofs.YteiefdnhngfojaaGreatDoor.VmI Go.Proofs.YteiefdnhngfojaaGreatDoor.Tr Go.Proofs.YteiefdnhngfojaaGreatDoor.P
open Go.ChangeMaps (open_string shut_string)
set_option linter.unusedVariables false
theorem own : ownKnob Tryz.prog.godebug = none := by kernel_rfl
theorem laidOut : laidOutB Tryz.prog = true := by kernel_rfl
/-- What the law does, called with values that stand for these. -/
theorem walk (x0 : (t24 : Ty).T) (x1 : (t24 : Ty).T) (W : World) (v0 v1 : Value) (k : Nat) (h : f3 k x0 x1 = some true) (h0 : LayArg W (fun b => b < W.heap.size) t24 x0 v0 []) (h1 : LayArg W (fun b => b < W.heap.size) t24 x1 v1 []) :
    Calls Tryz.prog 3 #[v0, v1] W fun e w' => e = .returned (.bool true) ∧ Below W.heap.size W w' := by
  have hl : LayArgs W (fun b => b < W.heap.size) (info.ps 3) (x0, x1) [v0, v1] [] := ⟨v0, [v1], [], [], rfl, rfl, h0, ⟨v1, rfl, h1⟩⟩
  have c := (sound k 3 (x0, x1) true h).2 W (fun b => b < W.heap.size) #[v0, v1] [] (fun b hb => hb) hl List.nodup_nil (fun b hb => absurd hb (by simp))
  refine c.mono ?_
  rintro e w' ⟨v, S', us, b1, b2, rfl, hres, hk, _, _, _, hl1, _⟩
  have hl2 : LayArgs w' S' [.bool] true us b1 := hl1
  obtain ⟨u, rfl, ⟨⟨hu, _⟩, _, h3⟩⟩ := hl2
  have hu' : u.cells.toList = [.bool true] := hu
  rw [h3 rfl] at hu'
  obtain rfl : u = .bool true := List.singleton_inj.1 hu'
  rcases hres with e | ⟨e, _⟩
  · obtain rfl : Value.bool true = v := List.singleton_inj.1 e
    exact ⟨rfl, hk.os, hk.tape, hk.output, hk.size, fun b hb => hk.block b hb (by simp)⟩
  · exact absurd rfl e
def laid : List (String × DataW Unit) := [("unicode/utf8.acceptRanges", Rows.laid_unicode_utf8_acceptRanges), ("unicode/utf8.first", Rows.laid_unicode_utf8_first)]
set_option maxRecDepth 100000 in
theorem lifted (os : Os) (started : os.Started) (H : Type) (enc : TypeId × Value → H) :
    ReturnsInHanded {} Tryz.checked os 3 .any (fun w args => (Rows.isoAsksSpec.pre enc Tryz.prog Tryz.f3 [] false w args ∧ laidMetH Tryz.prog laid w) ∧ sizedMet enc Tryz.prog Tryz.f3 (OpenSpec.ofChange Rows.isoAsksSpec) false w args)
      (Rows.isoAsksSpec.post enc Tryz.prog Tryz.f3 false true false false) := by
  refine returnsInHanded_of_change_and (C := Tryz.checked) (X := fun w _ => laidMetH Tryz.prog laid w) (fun _ _ _ hh h => h.of_heap hh) own started (by kernel_rfl) Tryz.func3
    (ChangeSpec.witness_shaped (enc := enc) (C := Tryz.checked) (os := os) (X := fun w _ => laidMetH Tryz.prog laid w) false (World.laidAll Tryz.prog os laid) #[.agg #[.slice none 0 0, .slice none 0 0], .agg #[.slice none 0 0, .slice none 0 0]] 8 (World.laidAll_os _ _ _)
      (World.shaped_of_ZipB (by kernel_rfl) (by kernel_rfl)) (by kernel_rfl) (by kernel_rfl) (by kernel_rfl)
      (by rw [MakeChecks.laidMetH_plain _ _ _ (by kernel_rfl)]; exact laidMet_laidAll _ (by kernel_rfl) (by kernel_rfl))) ?_
  intro W base args ds gs before hval0 hW hcnd hsz0 hL _
  have hsz : (DataW.weightsEach Tryz.prog (Tryz.f3.params.toList ++ Rows.isoAsksSpec.plain.varTypes Tryz.prog) (ds ++ gs)).all (· ≤ reachBytes) = true := hsz0
  have hval : ∀ (j : Nat) t v, Tryz.f3.params[j]? = some t → args[j]? = some v → Value.okWide Tryz.prog W .any base t v := hval0
  have hW' := hW
  obtain ⟨p, q, hA0, hV, rfl, hfz, hnd⟩ := hW
  have hA : DataW.TrodAll enc Tryz.prog W 0 (fun _ => true) true Tryz.f3.params.toList args.toList ds p := hA0
  rw [Tryz.params3] at hA hval hsz
  obtain ⟨v0, vs0, d0, ds0, p0, q0, hargs, rfl, rfl, h0, r0⟩ := trodAll_cons hA
  obtain ⟨v1, vs1, d1, ds1, p1, q1, rfl, rfl, rfl, h1, r1⟩ := trodAll_cons r0
  obtain ⟨rfl, rfl, rfl⟩ := trodAll_nil r1
  obtain rfl : args = #[v0, v1] := by cases args; simp_all
  obtain ⟨rfl, rfl⟩ := trodVars_none hV
  have k0 := h0
  have lt0 : ∀ x ∈ p0, x.block < W.heap.size := by obtain ⟨m, hm⟩ := k0; exact DataW.trod_lt m _ _ _ hm
  obtain ⟨cs0, rfl⟩ : ∃ cs, v0 = .agg cs := by
    have h := (hval 0 25 v0 rfl rfl)
    unfold Value.okWide at h
    rw [Tryz.underlying25] at h
    obtain ⟨cs, h1, _⟩ := h
    exact ⟨cs, h1⟩
  obtain ⟨x0, rep0, fit0⟩ : ∃ x : (t24 : Ty).T, Rep W (fun b => b < W.heap.size) t24 x (Value.agg cs0).cells.toList ∧ Fit t24 x := by
    obtain ⟨fuel, hf⟩ := h0
    exact (trod_both t24 rfl).1 25 (infoOk.ty 25 t24 (by kernel_rfl)) fuel _ _ hf
  have k1 := h1
  have lt1 : ∀ x ∈ p1, x.block < W.heap.size := by obtain ⟨m, hm⟩ := k1; exact DataW.trod_lt m _ _ _ hm
  obtain ⟨cs1, rfl⟩ : ∃ cs, v1 = .agg cs := by
    have h := (hval 1 25 v1 rfl rfl)
    unfold Value.okWide at h
    rw [Tryz.underlying25] at h
    obtain ⟨cs, h1, _⟩ := h
    exact ⟨cs, h1⟩
  obtain ⟨x1, rep1, fit1⟩ : ∃ x : (t24 : Ty).T, Rep W (fun b => b < W.heap.size) t24 x (Value.agg cs1).cells.toList ∧ Fit t24 x := by
    obtain ⟨fuel, hf⟩ := h1
    exact (trod_both t24 rfl).1 25 (infoOk.ty 25 t24 (by kernel_rfl)) fuel _ _ hf
  clear hA0 hval0 hsz0 hsz
  obtain ⟨k, hk⟩ := IsoAsks x0 x1 (fit_lim fit0) (fit_lim fit1)
  refine (walk x0 x1 W _ _ k hk (arg_plain rfl rep0 (fun _ => ⟨_, rfl⟩) (fun h => absurd h (by decide))) (arg_plain rfl rep1 (fun _ => ⟨_, rfl⟩) (fun h => absurd h (by decide)))).mono fun e W' ⟨he, bel⟩ => ?_
  subst he
  exact ⟨_, rfl, _, _, _, [], _, [], hW', trodAll_mk1 (shut_bool Tryz.underlying4 _), (trodAll_cons_mk (Below.trod laidOut (by kernel_rfl) (of_decide_eq_true (by kernel_rfl)) k0 bel lt0) (trodAll_cons_mk (Below.trod laidOut (by kernel_rfl) (of_decide_eq_true (by kernel_rfl)) k1 bel lt1) trodAll_mk0)), rfl, bel.frame _, fun h => by cases h⟩
theorem closed1 : (Rows.isoAsksRow.inPlace == Program.inPlace Tryz.pinned.checked.prog 3) = true := by kernel_rfl
theorem closed2 : (Rows.isoAsksRow.unfollowed == Program.unfollowed Tryz.pinned.checked.prog 3) = true := by kernel_rfl
theorem closed3 : (Rows.isoAsksRow.recurses == Program.recurses Tryz.pinned.checked.prog 3) = true := by kernel_rfl
theorem closed4 : (Rows.isoAsksRow.named == Program.varsNamed Tryz.pinned.checked.prog 3) = true := by kernel_rfl
theorem closed5 : (Rows.isoAsksRow.wf (OpenSpec.ofChange Rows.isoAsksSpec) && laidOutB Tryz.pinned.checked.prog && mapsRowed Tryz.pinned.checked.prog) = true := by kernel_rfl
theorem closed : joinedFacts Tryz.pinned.checked.prog 3 Tryz.f3 Rows.isoAsksSpec Rows.isoAsksRow = true := by
  unfold joinedFacts
  rw [closed1, closed2, closed3, closed4, closed5]
  kernel_rfl
theorem over : Rows.isoAsksRow.holds Tryz.pinned (OpenSpec.ofChange Rows.isoAsksSpec) :=
  OpenClaim.holds_of_wide 3 Tryz.f3 rfl rfl rfl rfl rfl rfl rfl ⟨rfl, rfl, rfl, rfl, rfl⟩ rfl rfl rfl rfl rfl (by kernel_rfl) Tryz.func3 closed
    (of_decide_eq_true (by kernel_rfl)) (by unfold Func.isWrapper; first | (rw [if_pos (by decide +kernel)]; kernel_rfl) | (rw [if_neg (by decide +kernel)]; exact ⟨rfl, rfl⟩))
    (fun os started H enc _ => lifted os started H enc)
theorem proved : Rows.IsoAsksCardSaid :=
  Claim7.holds_tied_plain_at .later [] [.data, .pinned] true (true, "fc3f8cbd5107e9f701e171d06198c6bdb0724eea470afe046827d144fe5360b5") false over (fun _ h => by cases h) (by kernel_rfl) (fun _ h => by cases h) isoAsks_row_tie rfl ⟨rfl, rfl⟩ (by kernel_rfl) rfl
    (fun f fn hf hfn => by
      obtain rfl : f = 3 := Option.some.inj ((show Tryz.prog.funcNamed Rows.isoAsksRow.func = some 3 by kernel_rfl).symm.trans hf) |>.symm
      obtain rfl : fn = Tryz.f3 := (Option.some.inj (Tryz.func3.symm.trans hfn)).symm
      exact ⟨by kernel_rfl, fun j t ht => by
        rw [Tryz.params3] at ht
        have hm : t ∈ [25, 25] := by simpa using Array.mem_of_getElem? ht
        have hall : ([25, 25].all fun u => !Tryz.prog.wantsStandIn u) = true := by kernel_rfl
        exact (show Tryz.prog.wantsStandIn t = false by simpa using List.all_eq_true.1 hall t hm)⟩)
    (by kernel_rfl)
end Go.Proofs.YteiefdnhngfojaaGreatDoor.isoAsks
namespace Go.Proofs.YteiefdnhngfojaaGreatDoor
/-- The law, under a short name, for the claim. -/
theorem isoAsks_holds : Rows.IsoAsksCardSaid := isoAsks.proved
#print axioms isoAsks_holds
end Go.Proofs.YteiefdnhngfojaaGreatDoor
