/-
  cmp.Compare at strings, at this translation: -1, 0 or 1 by the bytes' order.
-/
import Derived.Test.YtncfadhcpmokiaaDoorProg
import Derived.Test.YtncfadhcpmokiaaDoorWMore
import Derived.WalkLawsBesides
import Derived.WalkKit
set_option linter.unusedVariables false
namespace Go.Proofs.YtncfadhcpmokiaaDoor.Ext
open Go Go.RowKit Go.Proofs.YtncfadhcpmokiaaDoorW.PrintWords Go.Proofs.YtncfadhcpmokiaaDoorW.PrintLast Go.Proofs.YtncfadhcpmokiaaDoorW.PrintMore

theorem isNaN_string (a0 : ByteArray) (w : World) : Calls Tryd.prog 61 #[.string a0] w fun e w' => e = .returned (.bool false) ∧ w = w' := by
  go_enter Tryd.func61, Tryd.ntmps61
  go_wp2
  go_ret
  exact ⟨rfl, rfl⟩

def cmp_Compare_string.f (a0 : ByteArray) (a1 : ByteArray) : Option Int := some (if Op.bytesLess a0.toList a1.toList = true then -1 else if a0.toList = a1.toList then 0 else 1)
set_option maxHeartbeats 1000000 in
theorem cmp_Compare_string.calls (a0 : ByteArray) (a1 : ByteArray) (r : Int) (w : World) (h : cmp_Compare_string.f a0 a1 = some r) :
    Calls Tryd.prog 50 #[.string a0, .string a1] w fun e w' => e = .returned (.int .i64 r) ∧ Drawn0 w w' := by
  obtain rfl := Option.some.inj h
  clear h
  by_cases c : Op.bytesLess a0.toList a1.toList = true
  · rw [if_pos c]
    go_enter Tryd.func50, Tryd.ntmps50
    go_wp2_with (go_at_call 61; refine (isNaN_string _ _).mono ?_; rintro e w' ⟨rfl, rfl⟩)
    go_ret
    exact ⟨rfl, Drawn0.refl _⟩
  · rw [if_neg c]
    have c' : Op.bytesLess a0.toList a1.toList = false := by simpa using c
    clear c
    by_cases d : a0.toList = a1.toList
    · rw [if_pos d]
      have d' : (!a0.toList == a1.toList) = false := by simp [d]
      clear d
      go_enter Tryd.func50, Tryd.ntmps50
      go_wp2_with (go_at_call 61; refine (isNaN_string _ _).mono ?_; rintro e w' ⟨rfl, rfl⟩)
      go_ret
      exact ⟨rfl, Drawn0.refl _⟩
    · rw [if_neg d]
      have d' : (!a0.toList == a1.toList) = true := by simp [d]
      clear d
      go_enter Tryd.func50, Tryd.ntmps50
      go_wp2_with (go_at_call 61; refine (isNaN_string _ _).mono ?_; rintro e w' ⟨rfl, rfl⟩)
      go_ret
      exact ⟨rfl, Drawn0.refl _⟩
end Go.Proofs.YtncfadhcpmokiaaDoor.Ext
