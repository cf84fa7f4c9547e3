/-
  The law IsoLinks of layer 26 holds: whatever the input, it returns true and leaves its arguments as they were. Its row, out of the interpreter's soundness and the pure statement; its tied card.
-/
import Derived.Test.YteiefdnhngfojaaGreatDoorRows
import Derived.Test.YteiefdnhngfojaaGreatDoorTie
import Derived.Test.YteiefdnhngfojaaGreatDoorCards
import Derived.Test.YteiefdnhngfojaaGreatDoorVmE
import Derived.Test.YteiefdnhngfojaaGreatDoorPuC
import Derived.WalkKit
import Derived.ProofKit
import Derived.OpenShut
import Derived.ShutString
import Derived.ChangeOld
import Derived.Below
import Derived.SizedLaws
import Derived.LaidMore
import Derived.Stop.Joined
import Derived.Lay
import Derived.SevenTiedAt
import Derived.Carry
namespace Go.Proofs.YteiefdnhngfojaaGreatDoor.isoLinks
open Go Go.ChangeShapes Go.WideShapes Go.ChangeAt Go.RowKit Go.Proofs.YteiefdnhngfojaaGreatDoor.Vm Go.Proofs.YteiefdnhngfojaaGreatDoor.VmI Go.Proofs.YteiefdnhngfojaaGreatDoor.Tr Go.Proofs.YteiefdnhngfojaaGreatDoor.P
open Go.ChangeMaps (open_string shut_string)
set_option linter.unusedVariables false
theorem own : ownKnob Tryz.prog.godebug = none := by kernel_rfl
theorem laidOut : laidOutB Tryz.prog = true := by kernel_rfl
/-- What the law does, called with values that stand for these. -/
theorem walk (x0 : (.str : Ty).T) (x1 : ((.int .i64) : Ty).T) (x2 : ((.int .i64) : Ty).T) (W : World) (v0 v1 v2 : Value) (k : Nat) (h : f7 k x0 x1 x2 = some true) (h0 : LayArg W (fun b => b < W.heap.size) .str x0 v0 []) (h1 : LayArg W (fun b => b < W.heap.size) (.int .i64) x1 v1 []) (h2 : LayArg W (fun b => b < W.heap.size) (.int .i64) x2 v2 []) :
    Calls Tryz.prog 7 #[v0, v1, v2] W fun e w' => e = .returned (.bool true) ∧ Below W.heap.size W w' := by
  have hl : LayArgs W (fun b => b < W.heap.size) (info.ps 7) (x0, x1, x2) [v0, v1, v2] [] := ⟨v0, [v1, v2], [], [], rfl, rfl, h0, ⟨v1, [v2], [], [], rfl, rfl, h1, ⟨v2, rfl, h2⟩⟩⟩
  have c := (sound k 7 (x0, x1, x2) true h).2 W (fun b => b < W.heap.size) #[v0, v1, v2] [] (fun b hb => hb) hl List.nodup_nil (fun b hb => absurd hb (by simp))
  refine c.mono ?_
  rintro e w' ⟨v, S', us, b1, b2, rfl, hres, hk, _, _, _, hl1, _⟩
  have hl2 : LayArgs w' S' [.bool] true us b1 := hl1
  obtain ⟨u, rfl, ⟨⟨hu, _⟩, _, h3⟩⟩ := hl2
  have hu' : u.cells.toList = [.bool true] := hu
  rw [h3 rfl] at hu'
  obtain rfl : u = .bool true := List.singleton_inj.1 hu'
  rcases hres with e | ⟨e, _⟩
  · obtain rfl : Value.bool true = v := List.singleton_inj.1 e
    exact ⟨rfl, hk.os, hk.tape, hk.output, hk.size, fun b hb => hk.block b hb (by simp)⟩
  · exact absurd rfl e
def laid : List (String × DataW Unit) := [("unicode/utf8.acceptRanges", Rows.laid_unicode_utf8_acceptRanges), ("unicode/utf8.first", Rows.laid_unicode_utf8_first)]
set_option maxRecDepth 100000 in
theorem lifted (os : Os) (started : os.Started) (H : Type) (enc : TypeId × Value → H) :
    ReturnsInHanded {} Tryz.checked os 7 .any (fun w args => (Rows.isoLinksSpec.pre enc Tryz.prog Tryz.f7 [] false w args ∧ laidMetH Tryz.prog laid w) ∧ sizedMet enc Tryz.prog Tryz.f7 (OpenSpec.ofChange Rows.isoLinksSpec) false w args)
      (Rows.isoLinksSpec.post enc Tryz.prog Tryz.f7 false true false false) := by
  refine returnsInHanded_of_change_and (C := Tryz.checked) (X := fun w _ => laidMetH Tryz.prog laid w) (fun _ _ _ hh h => h.of_heap hh) own started (by kernel_rfl) Tryz.func7
    (ChangeSpec.witness_shaped (enc := enc) (C := Tryz.checked) (os := os) (X := fun w _ => laidMetH Tryz.prog laid w) false (World.laidAll Tryz.prog os laid) #[.string ByteArray.empty, .int .i64 0, .int .i64 0] 8 (World.laidAll_os _ _ _)
      (World.shaped_of_ZipB (by kernel_rfl) (by kernel_rfl)) (by kernel_rfl) (by kernel_rfl) (by kernel_rfl)
      (by rw [MakeChecks.laidMetH_plain _ _ _ (by kernel_rfl)]; exact laidMet_laidAll _ (by kernel_rfl) (by kernel_rfl))) ?_
  intro W base args ds gs before hval0 hW hcnd hsz0 hL _
  have hsz : (DataW.weightsEach Tryz.prog (Tryz.f7.params.toList ++ Rows.isoLinksSpec.plain.varTypes Tryz.prog) (ds ++ gs)).all (· ≤ reachBytes) = true := hsz0
  have hval : ∀ (j : Nat) t v, Tryz.f7.params[j]? = some t → args[j]? = some v → Value.okWide Tryz.prog W .any base t v := hval0
  have hW' := hW
  obtain ⟨p, q, hA0, hV, rfl, hfz, hnd⟩ := hW
  have hA : DataW.TrodAll enc Tryz.prog W 0 (fun _ => true) true Tryz.f7.params.toList args.toList ds p := hA0
  rw [Tryz.params7] at hA hval hsz
  obtain ⟨v0, vs0, d0, ds0, p0, q0, hargs, rfl, rfl, h0, r0⟩ := trodAll_cons hA
  obtain ⟨v1, vs1, d1, ds1, p1, q1, rfl, rfl, rfl, h1, r1⟩ := trodAll_cons r0
  obtain ⟨v2, vs2, d2, ds2, p2, q2, rfl, rfl, rfl, h2, r2⟩ := trodAll_cons r1
  obtain ⟨rfl, rfl, rfl⟩ := trodAll_nil r2
  obtain rfl : args = #[v0, v1, v2] := by cases args; simp_all
  obtain ⟨rfl, rfl⟩ := trodVars_none hV
  obtain ⟨x0, rfl, rfl, rfl, y0⟩ := open_string Tryz.underlying9 (hval 0 9 v0 rfl rfl) h0
  have w0 : x0.size ≤ 140737488351232 := by
    have z := sized_string hsz (j := 0) (t := 9) rfl rfl
    rw [Array.length_toList] at z
    exact z
  obtain ⟨x1, rfl, rfl, rfl, w1⟩ := open_int Tryz.underlying3 (hval 1 3 v1 rfl rfl) h1
  obtain ⟨x2, rfl, rfl, rfl, w2⟩ := open_int Tryz.underlying3 (hval 2 3 v2 rfl rfl) h2
  clear hA0 hval0 hsz0 hsz
  obtain ⟨k, hk⟩ := IsoLinksH x0 x1 x2 w0 w1 w2
  refine (walk x0 x1 x2 W _ _ _ k hk (leafArg rfl rfl rfl rfl) (leafArg rfl rfl rfl rfl) (leafArg rfl rfl rfl rfl)).mono fun e W' ⟨he, bel⟩ => ?_
  subst he
  exact ⟨_, rfl, _, _, _, [], _, [], hW', trodAll_mk1 (shut_bool Tryz.underlying4 _), (trodAll_cons_mk (shut_string Tryz.underlying9 y0) (trodAll_cons_mk (shut_int Tryz.underlying3 w1) (trodAll_cons_mk (shut_int Tryz.underlying3 w2) trodAll_mk0))), rfl, bel.frame _, fun h => by cases h⟩
theorem closed1 : (Rows.isoLinksRow.inPlace == Program.inPlace Tryz.pinned.checked.prog 7) = true := by kernel_rfl
theorem closed2 : (Rows.isoLinksRow.unfollowed == Program.unfollowed Tryz.pinned.checked.prog 7) = true := by kernel_rfl
theorem closed3 : (Rows.isoLinksRow.recurses == Program.recurses Tryz.pinned.checked.prog 7) = true := by kernel_rfl
theorem closed4 : (Rows.isoLinksRow.named == Program.varsNamed Tryz.pinned.checked.prog 7) = true := by kernel_rfl
theorem closed5 : (Rows.isoLinksRow.wf (OpenSpec.ofChange Rows.isoLinksSpec) && laidOutB Tryz.pinned.checked.prog && mapsRowed Tryz.pinned.checked.prog) = true := by kernel_rfl
theorem closed : joinedFacts Tryz.pinned.checked.prog 7 Tryz.f7 Rows.isoLinksSpec Rows.isoLinksRow = true := by
  unfold joinedFacts
  rw [closed1, closed2, closed3, closed4, closed5]
  kernel_rfl
theorem over : Rows.isoLinksRow.holds Tryz.pinned (OpenSpec.ofChange Rows.isoLinksSpec) :=
  OpenClaim.holds_of_wide 7 Tryz.f7 rfl rfl rfl rfl rfl rfl rfl ⟨rfl, rfl, rfl, rfl, rfl⟩ rfl rfl rfl rfl rfl (by kernel_rfl) Tryz.func7 closed
    (of_decide_eq_true (by kernel_rfl)) (by unfold Func.isWrapper; first | (rw [if_pos (by decide +kernel)]; kernel_rfl) | (rw [if_neg (by decide +kernel)]; exact ⟨rfl, rfl⟩))
    (fun os started H enc _ => lifted os started H enc)
theorem proved : Rows.IsoLinksCardSaid :=
  Claim7.holds_tied_plain_at .later [] [.data, .pinned] true (true, "fc3f8cbd5107e9f701e171d06198c6bdb0724eea470afe046827d144fe5360b5") false over (fun _ h => by cases h) (by kernel_rfl) (fun _ h => by cases h) isoLinks_row_tie rfl ⟨rfl, rfl⟩ (by kernel_rfl) rfl
    (fun f fn hf hfn => by
      obtain rfl : f = 7 := Option.some.inj ((show Tryz.prog.funcNamed Rows.isoLinksRow.func = some 7 by kernel_rfl).symm.trans hf) |>.symm
      obtain rfl : fn = Tryz.f7 := (Option.some.inj (Tryz.func7.symm.trans hfn)).symm
      exact ⟨by kernel_rfl, fun j t ht => by
        rw [Tryz.params7] at ht
        have hm : t ∈ [9, 3, 3] := by simpa using Array.mem_of_getElem? ht
        have hall : ([9, 3, 3].all fun u => !Tryz.prog.wantsStandIn u) = true := by kernel_rfl
        exact (show Tryz.prog.wantsStandIn t = false by simpa using List.all_eq_true.1 hall t hm)⟩)
    (by kernel_rfl)
end Go.Proofs.YteiefdnhngfojaaGreatDoor.isoLinks
namespace Go.Proofs.YteiefdnhngfojaaGreatDoor
/-- The law, under a short name, for the claim. -/
theorem isoLinks_holds : Rows.IsoLinksCardSaid := isoLinks.proved
#print axioms isoLinks_holds
end Go.Proofs.YteiefdnhngfojaaGreatDoor
