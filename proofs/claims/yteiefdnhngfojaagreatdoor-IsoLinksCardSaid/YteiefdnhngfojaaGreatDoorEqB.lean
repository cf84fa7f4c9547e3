/-
  
-/
import Derived.Test.YteiefdnhngfojaaGreatDoorEqA
set_option linter.unusedVariables false
set_option maxRecDepth 100000
namespace Go.Proofs.YteiefdnhngfojaaGreatDoor.Tr
open Go Go.Proofs.YteiefdnhngfojaaGreatDoor.Vm Go.Proofs.YteiefdnhngfojaaGreatDoor.VmI
theorem f48_eq (k : Nat) (p0 : Y24) : f48 (k + 1) p0 =
  bif decide ((↑(List.length p0.1) : Int) < (1 : Int)) then
    some (false)
  else bif decide ((↑(List.length p0.1) : Int) > (100 : Int)) then
    some (false)
  else bif true && decide ((0 : Int) ≤ (↑(List.length p0.2) : Int) ∧ (↑(List.length p0.2) : Int) = (↑(List.length p0.2) : Int) ∧ (↑(List.length p0.2) : Int) * (↑(8 : Nat) : Int) ≤ (140737488355328 : Int) ∧ (↑(List.length p0.2) : Int) * (↑(1 : Nat) : Int) ≤ (16777216 : Int)) then
    bif (0 : Int) == (↑(List.length p0.1) : Int) then
      bif (0 : Int) == (↑(List.length p0.2) : Int) then
        Option.bind (f95_96 k (p0.2)) fun y0 =>
        some (!y0)
      else some (false)
    else bif decide ((0 : Int) ≤ (0 : Int) ∧ (0 : Int) < (↑(List.length p0.1) : Int)) then
      Option.bind (f98 k ((List.getD p0.1 (0 : Nat) (Ty.z t45)).1)) fun y1 =>
      bif !y1 then
        some (false)
      else bif !true == (ByteArray.toList (List.getD p0.1 (0 : Nat) (Ty.z t45)).1 == ByteArray.toList { data := #[] }) then
        some (false)
      else bif decide ((List.getD p0.1 (0 : Nat) (Ty.z t45)).2 < (0 : Int)) then
        some (false)
      else bif decide ((List.getD p0.1 (0 : Nat) (Ty.z t45)).2 > (0 : Int)) then
        some (false)
      else bif decide ((List.getD p0.1 (0 : Nat) (Ty.z t45)).2 ≥ (↑(List.length p0.2) : Int)) then
        some (false)
      else bif (List.getD p0.1 (0 : Nat) (Ty.z t45)).2 == (0 : Int) then
        bif decide ((0 : Int) ≤ (List.getD p0.1 (0 : Nat) (Ty.z t45)).2 ∧ (List.getD p0.1 (0 : Nat) (Ty.z t45)).2 < (↑(List.length (List.replicate (Int.toNat (↑(List.length p0.2) : Int)) (Ty.z (Ty.int IntKind.i64)))) : Int)) then
          bif decide (Int.toNat (List.getD p0.1 (0 : Nat) (Ty.z t45)).2 < List.length (List.replicate (Int.toNat (↑(List.length p0.2) : Int)) (Ty.z (Ty.int IntKind.i64)))) then
            bif decide ((0 : Int) ≤ (List.getD p0.1 (0 : Nat) (Ty.z t45)).2 ∧ (List.getD p0.1 (0 : Nat) (Ty.z t45)).2 < (↑(List.length (List.replicate (Int.toNat (↑(List.length p0.2) : Int)) (Ty.z (Ty.int IntKind.i64)))) : Int)) then
              bif decide (Int.toNat (List.getD p0.1 (0 : Nat) (Ty.z t45)).2 < List.length (List.replicate (Int.toNat (↑(List.length p0.2) : Int)) (Ty.z (Ty.int IntKind.i64)))) && Nat.ble (1 : Nat) (Ty.size (Ty.int IntKind.i64)) then
                bif decide ((0 : Int) ≤ (List.getD p0.1 (0 : Nat) (Ty.z t45)).2 ∧ (List.getD p0.1 (0 : Nat) (Ty.z t45)).2 < (↑(List.length p0.2) : Int)) then
                  bif (List.getD p0.2 (Int.toNat (List.getD p0.1 (0 : Nat) (Ty.z t45)).2) (Ty.z t41)).1 == (1 : Int) then
                    bif decide ((0 : Int) ≤ (List.getD p0.1 (0 : Nat) (Ty.z t45)).2 ∧ (List.getD p0.1 (0 : Nat) (Ty.z t45)).2 < (↑(List.length (List.set (List.replicate (Int.toNat (↑(List.length p0.2) : Int)) (Ty.z (Ty.int IntKind.i64))) (Int.toNat (List.getD p0.1 (0 : Nat) (Ty.z t45)).2) (IntKind.wrap IntKind.i64 (List.getD (List.replicate (Int.toNat (↑(List.length p0.2) : Int)) (Ty.z (Ty.int IntKind.i64))) (Int.toNat (List.getD p0.1 (0 : Nat) (Ty.z t45)).2) (Ty.z (Ty.int IntKind.i64)) + (1 : Int))))) : Int)) then
                      bif decide (Int.toNat (List.getD p0.1 (0 : Nat) (Ty.z t45)).2 < List.length (List.set (List.replicate (Int.toNat (↑(List.length p0.2) : Int)) (Ty.z (Ty.int IntKind.i64))) (Int.toNat (List.getD p0.1 (0 : Nat) (Ty.z t45)).2) (IntKind.wrap IntKind.i64 (List.getD (List.replicate (Int.toNat (↑(List.length p0.2) : Int)) (Ty.z (Ty.int IntKind.i64))) (Int.toNat (List.getD p0.1 (0 : Nat) (Ty.z t45)).2) (Ty.z (Ty.int IntKind.i64)) + (1 : Int))))) then
                        bif decide (List.getD (List.set (List.replicate (Int.toNat (↑(List.length p0.2) : Int)) (Ty.z (Ty.int IntKind.i64))) (Int.toNat (List.getD p0.1 (0 : Nat) (Ty.z t45)).2) (IntKind.wrap IntKind.i64 (List.getD (List.replicate (Int.toNat (↑(List.length p0.2) : Int)) (Ty.z (Ty.int IntKind.i64))) (Int.toNat (List.getD p0.1 (0 : Nat) (Ty.z t45)).2) (Ty.z (Ty.int IntKind.i64)) + (1 : Int)))) (Int.toNat (List.getD p0.1 (0 : Nat) (Ty.z t45)).2) (Ty.z (Ty.int IntKind.i64)) > (1 : Int)) then
                          some (false)
                        else bif !(List.getD p0.2 (Int.toNat (List.getD p0.1 (0 : Nat) (Ty.z t45)).2) (Ty.z t41)).1 == (1 : Int) then
                          some (false)
                        else Option.bind (f99 k (p0) ((0 : Int))) fun y2 =>
                        bif !y2 then
                          some (false)
                        else f48g0 k k (IntKind.wrap IntKind.i64 ((0 : Int) + (1 : Int))) (IntKind.wrap IntKind.i64 ((0 : Int) + (1 : Int))) (p0.1) (p0.2) (List.set (List.replicate (Int.toNat (↑(List.length p0.2) : Int)) (Ty.z (Ty.int IntKind.i64))) (Int.toNat (List.getD p0.1 (0 : Nat) (Ty.z t45)).2) (IntKind.wrap IntKind.i64 (List.getD (List.replicate (Int.toNat (↑(List.length p0.2) : Int)) (Ty.z (Ty.int IntKind.i64))) (Int.toNat (List.getD p0.1 (0 : Nat) (Ty.z t45)).2) (Ty.z (Ty.int IntKind.i64)) + (1 : Int))))
                      else none
                    else none
                  else bif !(List.getD p0.2 (Int.toNat (List.getD p0.1 (0 : Nat) (Ty.z t45)).2) (Ty.z t41)).1 == (1 : Int) then
                    some (false)
                  else Option.bind (f99 k (p0) ((0 : Int))) fun y22 =>
                  bif !y22 then
                    some (false)
                  else f48g0 k k (IntKind.wrap IntKind.i64 ((0 : Int) + (1 : Int))) (IntKind.wrap IntKind.i64 ((0 : Int) + (1 : Int))) (p0.1) (p0.2) (List.set (List.replicate (Int.toNat (↑(List.length p0.2) : Int)) (Ty.z (Ty.int IntKind.i64))) (Int.toNat (List.getD p0.1 (0 : Nat) (Ty.z t45)).2) (IntKind.wrap IntKind.i64 (List.getD (List.replicate (Int.toNat (↑(List.length p0.2) : Int)) (Ty.z (Ty.int IntKind.i64))) (Int.toNat (List.getD p0.1 (0 : Nat) (Ty.z t45)).2) (Ty.z (Ty.int IntKind.i64)) + (1 : Int))))
                else none
              else none
            else none
          else none
        else none
      else bif decide ((0 : Int) ≤ (List.getD p0.1 (0 : Nat) (Ty.z t45)).2 ∧ (List.getD p0.1 (0 : Nat) (Ty.z t45)).2 < (↑(List.length (List.replicate (Int.toNat (↑(List.length p0.2) : Int)) (Ty.z (Ty.int IntKind.i64)))) : Int)) then
        bif decide (Int.toNat (List.getD p0.1 (0 : Nat) (Ty.z t45)).2 < List.length (List.replicate (Int.toNat (↑(List.length p0.2) : Int)) (Ty.z (Ty.int IntKind.i64)))) then
          bif decide ((0 : Int) ≤ (List.getD p0.1 (0 : Nat) (Ty.z t45)).2 ∧ (List.getD p0.1 (0 : Nat) (Ty.z t45)).2 < (↑(List.length (List.replicate (Int.toNat (↑(List.length p0.2) : Int)) (Ty.z (Ty.int IntKind.i64)))) : Int)) then
            bif decide (Int.toNat (List.getD p0.1 (0 : Nat) (Ty.z t45)).2 < List.length (List.replicate (Int.toNat (↑(List.length p0.2) : Int)) (Ty.z (Ty.int IntKind.i64)))) && Nat.ble (1 : Nat) (Ty.size (Ty.int IntKind.i64)) then
              bif decide ((0 : Int) ≤ (List.getD p0.1 (0 : Nat) (Ty.z t45)).2 ∧ (List.getD p0.1 (0 : Nat) (Ty.z t45)).2 < (↑(List.length p0.2) : Int)) then
                bif (List.getD p0.2 (Int.toNat (List.getD p0.1 (0 : Nat) (Ty.z t45)).2) (Ty.z t41)).1 == (1 : Int) then
                  bif decide ((0 : Int) ≤ (List.getD p0.1 (0 : Nat) (Ty.z t45)).2 ∧ (List.getD p0.1 (0 : Nat) (Ty.z t45)).2 < (↑(List.length (List.set (List.replicate (Int.toNat (↑(List.length p0.2) : Int)) (Ty.z (Ty.int IntKind.i64))) (Int.toNat (List.getD p0.1 (0 : Nat) (Ty.z t45)).2) (IntKind.wrap IntKind.i64 (List.getD (List.replicate (Int.toNat (↑(List.length p0.2) : Int)) (Ty.z (Ty.int IntKind.i64))) (Int.toNat (List.getD p0.1 (0 : Nat) (Ty.z t45)).2) (Ty.z (Ty.int IntKind.i64)) + (1 : Int))))) : Int)) then
                    bif decide (Int.toNat (List.getD p0.1 (0 : Nat) (Ty.z t45)).2 < List.length (List.set (List.replicate (Int.toNat (↑(List.length p0.2) : Int)) (Ty.z (Ty.int IntKind.i64))) (Int.toNat (List.getD p0.1 (0 : Nat) (Ty.z t45)).2) (IntKind.wrap IntKind.i64 (List.getD (List.replicate (Int.toNat (↑(List.length p0.2) : Int)) (Ty.z (Ty.int IntKind.i64))) (Int.toNat (List.getD p0.1 (0 : Nat) (Ty.z t45)).2) (Ty.z (Ty.int IntKind.i64)) + (1 : Int))))) then
                      bif decide (List.getD (List.set (List.replicate (Int.toNat (↑(List.length p0.2) : Int)) (Ty.z (Ty.int IntKind.i64))) (Int.toNat (List.getD p0.1 (0 : Nat) (Ty.z t45)).2) (IntKind.wrap IntKind.i64 (List.getD (List.replicate (Int.toNat (↑(List.length p0.2) : Int)) (Ty.z (Ty.int IntKind.i64))) (Int.toNat (List.getD p0.1 (0 : Nat) (Ty.z t45)).2) (Ty.z (Ty.int IntKind.i64)) + (1 : Int)))) (Int.toNat (List.getD p0.1 (0 : Nat) (Ty.z t45)).2) (Ty.z (Ty.int IntKind.i64)) > (1 : Int)) then
                        some (false)
                      else bif !(List.getD p0.2 (Int.toNat (List.getD p0.1 (0 : Nat) (Ty.z t45)).2) (Ty.z t41)).1 == (1 : Int) then
                        some (false)
                      else Option.bind (f99 k (p0) ((0 : Int))) fun y23 =>
                      bif !y23 then
                        some (false)
                      else f48g0 k k ((0 : Int)) (IntKind.wrap IntKind.i64 ((0 : Int) + (1 : Int))) (p0.1) (p0.2) (List.set (List.replicate (Int.toNat (↑(List.length p0.2) : Int)) (Ty.z (Ty.int IntKind.i64))) (Int.toNat (List.getD p0.1 (0 : Nat) (Ty.z t45)).2) (IntKind.wrap IntKind.i64 (List.getD (List.replicate (Int.toNat (↑(List.length p0.2) : Int)) (Ty.z (Ty.int IntKind.i64))) (Int.toNat (List.getD p0.1 (0 : Nat) (Ty.z t45)).2) (Ty.z (Ty.int IntKind.i64)) + (1 : Int))))
                    else none
                  else none
                else bif !(List.getD p0.2 (Int.toNat (List.getD p0.1 (0 : Nat) (Ty.z t45)).2) (Ty.z t41)).1 == (1 : Int) then
                  some (false)
                else Option.bind (f99 k (p0) ((0 : Int))) fun y24 =>
                bif !y24 then
                  some (false)
                else f48g0 k k ((0 : Int)) (IntKind.wrap IntKind.i64 ((0 : Int) + (1 : Int))) (p0.1) (p0.2) (List.set (List.replicate (Int.toNat (↑(List.length p0.2) : Int)) (Ty.z (Ty.int IntKind.i64))) (Int.toNat (List.getD p0.1 (0 : Nat) (Ty.z t45)).2) (IntKind.wrap IntKind.i64 (List.getD (List.replicate (Int.toNat (↑(List.length p0.2) : Int)) (Ty.z (Ty.int IntKind.i64))) (Int.toNat (List.getD p0.1 (0 : Nat) (Ty.z t45)).2) (Ty.z (Ty.int IntKind.i64)) + (1 : Int))))
              else none
            else none
          else none
        else none
      else none
    else none
  else none := by kernel_rfl
theorem f54l0_eq (k : Nat) (i : Nat) (v5 : Int) (v19 : List Y45) (v20 : Int) (v21 : Int) (r0 : List ByteArray) : f54l0 k (i + 1) v5 v19 v20 v21 r0 =
  bif decide (v21 < v20) then
    bif decide ((0 : Int) ≤ v21 ∧ v21 < (↑(List.length v19) : Int)) then
      bif (List.getD v19 (Int.toNat v21) (Ty.z t45)).2 == v5 then
        bif decide ((List.length r0 + List.length [(List.getD v19 (Int.toNat v21) (Ty.z t45)).1]) * (16 : Nat) ≤ (140737488355328 : Nat)) then
          f54l0 k i (v5) (v19) (v20) (IntKind.wrap IntKind.i64 (v21 + (1 : Int))) (r0 ++ [(List.getD v19 (Int.toNat v21) (Ty.z t45)).1])
        else none
      else f54l0 k i (v5) (v19) (v20) (IntKind.wrap IntKind.i64 (v21 + (1 : Int))) (r0)
    else none
  else some (r0) := by kernel_rfl
theorem f54_eq (k : Nat) (p0 : Y24) (p1 : ByteArray) : f54 (k + 1) p0 p1 =
  Option.bind (f47 k (p0) (p1)) fun y0 =>
  bif !y0.2 then
    some ([])
  else f54l0 k k (y0.1) (p0.1) ((↑(List.length p0.1) : Int)) ((0 : Int)) ([]) := by kernel_rfl
theorem f59l0_eq (k : Nat) (i : Nat) (v5 : List ByteArray) (v6 : List ByteArray) (v7 : Int) : f59l0 k (i + 1) v5 v6 v7 =
  bif decide (v7 < (↑(List.length v5) : Int)) then
    bif decide (v7 < (↑(List.length v6) : Int)) then
      bif decide ((0 : Int) ≤ v7 ∧ v7 < (↑(List.length v5) : Int)) then
        bif decide ((0 : Int) ≤ v7 ∧ v7 < (↑(List.length v6) : Int)) then
          bif !ByteArray.toList (List.getD v5 (Int.toNat v7) (Ty.z Ty.str)) == ByteArray.toList (List.getD v6 (Int.toNat v7) (Ty.z Ty.str)) then
            bif decide ((0 : Int) ≤ v7 ∧ v7 < (↑(List.length v5) : Int)) then
              bif decide ((0 : Int) ≤ v7 ∧ v7 < (↑(List.length v6) : Int)) then
                some (Op.bytesLess (ByteArray.toList (List.getD v5 (Int.toNat v7) (Ty.z Ty.str))) (ByteArray.toList (List.getD v6 (Int.toNat v7) (Ty.z Ty.str))))
              else none
            else none
          else f59l0 k i (v5) (v6) (IntKind.wrap IntKind.i64 (v7 + (1 : Int)))
        else none
      else none
    else some (decide ((↑(List.length v5) : Int) < (↑(List.length v6) : Int)))
  else some (decide ((↑(List.length v5) : Int) < (↑(List.length v6) : Int))) := by kernel_rfl
theorem f59_eq (k : Nat) (p0 : ByteArray) (p1 : ByteArray) : f59 (k + 1) p0 p1 =
  Option.bind (f87 k (p0)) fun y0 =>
  Option.bind (f87 k (p1)) fun y1 =>
  f59l0 k k (y0) (y1) ((0 : Int)) := by kernel_rfl
theorem f61l0_eq (k : Nat) (i : Nat) (v3 : Int) (b0_0 : Int) (b0_1 : Int) (b0_2 : Int) (b0_3 : Int) (b0_4 : Int) (b0_5 : List Y43) (b0_6 : List Y83) (b0_7 : Int) (b0_8 : List Y87) (b0_9 : ByteArray) (b0_10 : Int) (b0_11 : Int) : f61l0 k (i + 1) v3 b0_0 b0_1 b0_2 b0_3 b0_4 b0_5 b0_6 b0_7 b0_8 b0_9 b0_10 b0_11 =
  bif decide (v3 < (↑(List.length b0_8) : Int)) then
    bif decide ((0 : Int) ≤ v3 ∧ v3 < (↑(List.length b0_8) : Int)) then
      bif decide ((↑(ByteArray.size (List.getD b0_8 (Int.toNat v3) (Ty.z t87)).2) : Int) > (300 : Int)) then
        some (false)
      else f61l0 k i (IntKind.wrap IntKind.i64 (v3 + (1 : Int))) (b0_0) (b0_1) (b0_2) (b0_3) (b0_4) (b0_5) (b0_6) (b0_7) (b0_8) (b0_9) (b0_10) (b0_11)
    else none
  else bif decide ((↑(List.length b0_8) : Int) ≤ (20 : Int)) then
    bif decide ((↑(ByteArray.size b0_9) : Int) ≤ (300 : Int)) then
      Option.bind (f107 k ((b0_1, b0_2, b0_3, b0_4, b0_5, b0_6))) fun y0 =>
      some (y0)
    else some (false)
  else some (false) := by kernel_rfl
theorem f61_eq (k : Nat) (p0 : Y41) : f61 (k + 1) p0 =
  f61l0 k k ((0 : Int)) (p0.1) (p0.2.1.1) (p0.2.1.2.1) (p0.2.1.2.2.1) (p0.2.1.2.2.2.1) (p0.2.1.2.2.2.2.1) (p0.2.1.2.2.2.2.2) (p0.2.2.1) (p0.2.2.2.1) (p0.2.2.2.2.1) (p0.2.2.2.2.2.1) (p0.2.2.2.2.2.2) := by kernel_rfl
theorem f62_eq (k : Nat) (p0 : Y24) (p1 : Y24) : f62 (k + 1) p0 p1 =
  Option.bind (f48 k (p0)) fun y0 =>
  bif y0 then
    Option.bind (f48 k (p1)) fun y1 =>
    some (y1)
  else some (false) := by kernel_rfl
theorem f63_eq (k : Nat) (p0 : Y41) (p1 : Y41) : f63 (k + 1) p0 p1 =
  bif p0.1 != p1.1 then
    some ({ data := #[(107 : UInt8), (105 : UInt8), (110 : UInt8), (100 : UInt8)] })
  else Option.bind (f108 k (p0.2.1) (p1.2.1)) fun y0 =>
  bif !ByteArray.toList y0 == ByteArray.toList { data := #[] } then
    some (y0)
  else bif p0.2.2.1 != p1.2.2.1 then
    some ({ data := #[(115 : UInt8), (105 : UInt8), (122 : UInt8), (101 : UInt8)] })
  else Option.bind (f109 k (p0.2.2.2.1) (p1.2.2.2.1)) fun y1 =>
  bif !y1 then
    some ({ data := #[(100 : UInt8), (97 : UInt8), (116 : UInt8), (97 : UInt8)] })
  else bif !ByteArray.toList p0.2.2.2.2.1 == ByteArray.toList p1.2.2.2.2.1 then
    some ({ data := #[(116 : UInt8), (97 : UInt8), (114 : UInt8), (103 : UInt8), (101 : UInt8), (116 : UInt8)] })
  else bif p0.2.2.2.2.2.1 != p1.2.2.2.2.2.1 then
    some ({ data := #[(100 : UInt8), (101 : UInt8), (118 : UInt8), (105 : UInt8), (99 : UInt8), (101 : UInt8)] })
  else bif p0.2.2.2.2.2.2 != p1.2.2.2.2.2.2 then
    some ({ data := #[(100 : UInt8), (101 : UInt8), (118 : UInt8), (105 : UInt8), (99 : UInt8), (101 : UInt8)] })
  else some ({ data := #[] }) := by kernel_rfl
theorem f64_eq (k : Nat) (p0 : Y41) (p1 : Y41) : f64 (k + 1) p0 p1 =
  bif p0.1 != p1.1 then
    some ({ data := #[(107 : UInt8), (105 : UInt8), (110 : UInt8), (100 : UInt8)] })
  else Option.bind (f110 k (p0.2.1) (p1.2.1)) fun y0 =>
  bif !ByteArray.toList y0 == ByteArray.toList { data := #[] } then
    some (y0)
  else bif p0.2.2.1 != p1.2.2.1 then
    some ({ data := #[(115 : UInt8), (105 : UInt8), (122 : UInt8), (101 : UInt8)] })
  else Option.bind (f111 k (p0.2.2.2.1) (p1.2.2.2.1)) fun y1 =>
  bif !y1 then
    some ({ data := #[(100 : UInt8), (97 : UInt8), (116 : UInt8), (97 : UInt8)] })
  else bif !ByteArray.toList p0.2.2.2.2.1 == ByteArray.toList p1.2.2.2.2.1 then
    some ({ data := #[(116 : UInt8), (97 : UInt8), (114 : UInt8), (103 : UInt8), (101 : UInt8), (116 : UInt8)] })
  else bif p0.2.2.2.2.2.1 != p1.2.2.2.2.2.1 then
    some ({ data := #[(100 : UInt8), (101 : UInt8), (118 : UInt8), (105 : UInt8), (99 : UInt8), (101 : UInt8)] })
  else bif p0.2.2.2.2.2.2 != p1.2.2.2.2.2.2 then
    some ({ data := #[(100 : UInt8), (101 : UInt8), (118 : UInt8), (105 : UInt8), (99 : UInt8), (101 : UInt8)] })
  else some ({ data := #[] }) := by kernel_rfl
theorem f65g0_eq (k : Nat) (i : Nat) (v5 : Int) (b0_0 : List Y45) (b0_1 : List Y41) (b1_0 : List Y45) (b1_1 : List Y41) : f65g0 k (i + 1) v5 b0_0 b0_1 b1_0 b1_1 =
  bif v5 == (↑(List.length b0_0) : Int) then
    some ({ data := #[] })
  else bif decide ((0 : Int) ≤ v5 ∧ v5 < (↑(List.length b0_0) : Int)) then
    Option.bind (f68 k ((b1_0, b1_1)) ((List.getD b0_0 (Int.toNat v5) (Ty.z t45)).1)) fun y1 =>
    bif !y1 then
      some ((List.getD b0_0 (Int.toNat v5) (Ty.z t45)).1)
    else f65g0 k i (IntKind.wrap IntKind.i64 (v5 + (1 : Int))) (b0_0) (b0_1) (b1_0) (b1_1)
  else none := by kernel_rfl
theorem f65_eq (k : Nat) (p0 : Y24) (p1 : Y24) : f65 (k + 1) p0 p1 =
  bif (0 : Int) == (↑(List.length p0.1) : Int) then
    some ({ data := #[] })
  else bif decide ((0 : Int) ≤ (0 : Int) ∧ (0 : Int) < (↑(List.length p0.1) : Int)) then
    Option.bind (f68 k (p1) ((List.getD p0.1 (0 : Nat) (Ty.z t45)).1)) fun y0 =>
    bif !y0 then
      some ((List.getD p0.1 (0 : Nat) (Ty.z t45)).1)
    else f65g0 k k (IntKind.wrap IntKind.i64 ((0 : Int) + (1 : Int))) (p0.1) (p0.2) (p1.1) (p1.2)
  else none := by kernel_rfl
theorem f66_eq (k : Nat) (p0 : ByteArray) (p1 : ByteArray) : f66 (k + 1) p0 p1 =
  Option.bind (f112 k (p0) (p1)) fun y0 =>
  some (decide (y0 < (0 : Int))) := by kernel_rfl
theorem f67l0_eq (k : Nat) (i : Nat) (v5 : Int) (b0_0 : List Y45) (b0_1 : List Y41) (b1_0 : List Y45) (b1_1 : List Y41) : f67l0 k (i + 1) v5 b0_0 b0_1 b1_0 b1_1 =
  bif decide (v5 < (↑(List.length b0_0) : Int)) then
    bif decide ((0 : Int) ≤ v5 ∧ v5 < (↑(List.length b0_0) : Int)) then
      Option.bind (f33 k ((b1_0, b1_1)) ((List.getD b0_0 (Int.toNat v5) (Ty.z t45)).1)) fun y0 =>
      bif !y0.2 then
        bif decide ((0 : Int) ≤ v5 ∧ v5 < (↑(List.length b0_0) : Int)) then
          some ((List.getD b0_0 (Int.toNat v5) (Ty.z t45)).1)
        else none
      else f67l0 k i (IntKind.wrap IntKind.i64 (v5 + (1 : Int))) (b0_0) (b0_1) (b1_0) (b1_1)
    else none
  else some ({ data := #[] }) := by kernel_rfl
theorem f67_eq (k : Nat) (p0 : Y24) (p1 : Y24) : f67 (k + 1) p0 p1 =
  f67l0 k k ((0 : Int)) (p0.1) (p0.2) (p1.1) (p1.2) := by kernel_rfl
theorem f68_eq (k : Nat) (p0 : Y24) (p1 : ByteArray) : f68 (k + 1) p0 p1 =
  Option.bind (f47 k (p0) (p1)) fun y0 =>
  some (y0.2) := by kernel_rfl
theorem f69l0_eq (k : Nat) (i : Nat) (v0 : List ByteArray) (v1 : List ByteArray) (v12 : Int) (v13 : Int) : f69l0 k (i + 1) v0 v1 v12 v13 =
  bif decide (v13 < v12) then
    bif decide ((0 : Int) ≤ v13 ∧ v13 < (↑(List.length v0) : Int)) then
      bif decide ((0 : Int) ≤ v13 ∧ v13 < (↑(List.length v1) : Int)) then
        bif !ByteArray.toList (List.getD v0 (Int.toNat v13) (Ty.z Ty.str)) == ByteArray.toList (List.getD v1 (Int.toNat v13) (Ty.z Ty.str)) then
          some (false)
        else f69l0 k i (v0) (v1) (v12) (IntKind.wrap IntKind.i64 (v13 + (1 : Int)))
      else none
    else none
  else some (true) := by kernel_rfl
theorem f69_eq (k : Nat) (p0 : List ByteArray) (p1 : List ByteArray) : f69 (k + 1) p0 p1 =
  bif (↑(List.length p0) : Int) != (↑(List.length p1) : Int) then
    some (false)
  else f69l0 k k (p0) (p1) ((↑(List.length p0) : Int)) ((0 : Int)) := by kernel_rfl
theorem f70_eq (k : Nat) (p0 : Y24) (p1 : Y24) (p2 : ByteArray) : f70 (k + 1) p0 p1 p2 =
  Option.bind (f54 k (p0) (p2)) fun y0 =>
  Option.bind (f113_114 k (y0) (p1)) fun y1 =>
  some (y1) := by kernel_rfl
theorem f73l0_eq (k : Nat) (i : Nat) (v3 : Bool) (v5 : Bool) (v6 : Int) (b0_0 : Int) (b0_1 : Int) (b0_2 : Int) (b0_3 : Int) (b0_4 : Int) (b0_5 : List Y43) (b0_6 : List Y83) (b0_7 : Int) (b0_8 : List Y87) (b0_9 : ByteArray) (b0_10 : Int) (b0_11 : Int) : f73l0 k (i + 1) v3 v5 v6 b0_0 b0_1 b0_2 b0_3 b0_4 b0_5 b0_6 b0_7 b0_8 b0_9 b0_10 b0_11 =
  bif decide (v6 < (↑(ByteArray.size b0_9) : Int)) then
    bif decide ((0 : Int) ≤ v6 ∧ v6 < (↑(ByteArray.size b0_9) : Int)) then
      bif (↑(UInt8.toNat (Array.getD (ByteArray.data b0_9) (Int.toNat v6) (0 : UInt8))) : Int) == (0 : Int) then
        some (false)
      else f73l0 k i (v3) (v5) (IntKind.wrap IntKind.i64 (v6 + (1 : Int))) (b0_0) (b0_1) (b0_2) (b0_3) (b0_4) (b0_5) (b0_6) (b0_7) (b0_8) (b0_9) (b0_10) (b0_11)
    else none
  else bif v3 then
    bif v5 then
      bif decide ((↑(ByteArray.size b0_9) : Int) ≥ (1 : Int)) then
        some (decide ((↑(ByteArray.size b0_9) : Int) ≤ (200 : Int)))
      else some (false)
    else some (false)
  else some (false) := by kernel_rfl
theorem f73_eq (k : Nat) (p0 : Y41) : f73 (k + 1) p0 =
  Option.bind (f115 k (p0.2.1)) fun y0 =>
  bif !y0 then
    some (false)
  else bif p0.2.2.1 == (0 : Int) then
    bif p0.2.2.2.2.2.1 == (0 : Int) then
      bif p0.1 == (1 : Int) then
        bif p0.1 == (1 : Int) then
          bif (↑(List.length p0.2.2.2.1) : Int) == (0 : Int) then
            bif ByteArray.toList p0.2.2.2.2.1 == ByteArray.toList { data := #[] } then
              some (p0.2.2.2.2.2.2 == (0 : Int))
            else some (false)
          else some (false)
        else bif p0.1 == (2 : Int) then
          Option.bind (f116 k (p0)) fun y1 =>
          bif y1 then
            bif ByteArray.toList p0.2.2.2.2.1 == ByteArray.toList { data := #[] } then
              some (p0.2.2.2.2.2.2 == (0 : Int))
            else some (false)
          else some (false)
        else bif p0.1 == (3 : Int) then
          f73l0 k k ((↑(List.length p0.2.2.2.1) : Int) == (0 : Int)) (p0.2.2.2.2.2.2 == (0 : Int)) ((0 : Int)) (p0.1) (p0.2.1.1) (p0.2.1.2.1) (p0.2.1.2.2.1) (p0.2.1.2.2.2.1) (p0.2.1.2.2.2.2.1) (p0.2.1.2.2.2.2.2) (p0.2.2.1) (p0.2.2.2.1) (p0.2.2.2.2.1) (p0.2.2.2.2.2.1) (p0.2.2.2.2.2.2)
        else bif p0.1 == (4 : Int) then
          bif p0.1 == (4 : Int) then
            bif (↑(List.length p0.2.2.2.1) : Int) == (0 : Int) then
              bif ByteArray.toList p0.2.2.2.2.1 == ByteArray.toList { data := #[] } then
                bif decide (p0.2.2.2.2.2.1 ≥ (0 : Int)) then
                  bif decide (p0.2.2.2.2.2.1 ≤ (65535 : Int)) then
                    bif decide (p0.2.2.2.2.2.2 ≥ (0 : Int)) then
                      some (decide (p0.2.2.2.2.2.2 ≤ (65535 : Int)))
                    else some (false)
                  else some (false)
                else some (false)
              else some (false)
            else some (false)
          else some (false)
        else bif p0.1 == (5 : Int) then
          bif (↑(List.length p0.2.2.2.1) : Int) == (0 : Int) then
            bif ByteArray.toList p0.2.2.2.2.1 == ByteArray.toList { data := #[] } then
              bif decide (p0.2.2.2.2.2.1 ≥ (0 : Int)) then
                bif decide (p0.2.2.2.2.2.1 ≤ (65535 : Int)) then
                  bif decide (p0.2.2.2.2.2.2 ≥ (0 : Int)) then
                    some (decide (p0.2.2.2.2.2.2 ≤ (65535 : Int)))
                  else some (false)
                else some (false)
              else some (false)
            else some (false)
          else some (false)
        else some (false)
      else bif p0.1 == (6 : Int) then
        bif (↑(List.length p0.2.2.2.1) : Int) == (0 : Int) then
          bif ByteArray.toList p0.2.2.2.2.1 == ByteArray.toList { data := #[] } then
            some (p0.2.2.2.2.2.2 == (0 : Int))
          else some (false)
        else some (false)
      else bif p0.1 == (2 : Int) then
        Option.bind (f116 k (p0)) fun y2 =>
        bif y2 then
          bif ByteArray.toList p0.2.2.2.2.1 == ByteArray.toList { data := #[] } then
            some (p0.2.2.2.2.2.2 == (0 : Int))
          else some (false)
        else some (false)
      else bif p0.1 == (3 : Int) then
        f73l0 k k ((↑(List.length p0.2.2.2.1) : Int) == (0 : Int)) (p0.2.2.2.2.2.2 == (0 : Int)) ((0 : Int)) (p0.1) (p0.2.1.1) (p0.2.1.2.1) (p0.2.1.2.2.1) (p0.2.1.2.2.2.1) (p0.2.1.2.2.2.2.1) (p0.2.1.2.2.2.2.2) (p0.2.2.1) (p0.2.2.2.1) (p0.2.2.2.2.1) (p0.2.2.2.2.2.1) (p0.2.2.2.2.2.2)
      else bif p0.1 == (4 : Int) then
        bif p0.1 == (4 : Int) then
          bif (↑(List.length p0.2.2.2.1) : Int) == (0 : Int) then
            bif ByteArray.toList p0.2.2.2.2.1 == ByteArray.toList { data := #[] } then
              bif decide (p0.2.2.2.2.2.1 ≥ (0 : Int)) then
                bif decide (p0.2.2.2.2.2.1 ≤ (65535 : Int)) then
                  bif decide (p0.2.2.2.2.2.2 ≥ (0 : Int)) then
                    some (decide (p0.2.2.2.2.2.2 ≤ (65535 : Int)))
                  else some (false)
                else some (false)
              else some (false)
            else some (false)
          else some (false)
        else some (false)
      else bif p0.1 == (5 : Int) then
        bif (↑(List.length p0.2.2.2.1) : Int) == (0 : Int) then
          bif ByteArray.toList p0.2.2.2.2.1 == ByteArray.toList { data := #[] } then
            bif decide (p0.2.2.2.2.2.1 ≥ (0 : Int)) then
              bif decide (p0.2.2.2.2.2.1 ≤ (65535 : Int)) then
                bif decide (p0.2.2.2.2.2.2 ≥ (0 : Int)) then
                  some (decide (p0.2.2.2.2.2.2 ≤ (65535 : Int)))
                else some (false)
              else some (false)
            else some (false)
          else some (false)
        else some (false)
      else some (false)
    else bif p0.1 == (1 : Int) then
      bif p0.1 == (1 : Int) then
        bif (↑(List.length p0.2.2.2.1) : Int) == (0 : Int) then
          bif ByteArray.toList p0.2.2.2.2.1 == ByteArray.toList { data := #[] } then
            some (false)
          else some (false)
        else some (false)
      else bif p0.1 == (2 : Int) then
        Option.bind (f116 k (p0)) fun y3 =>
        bif y3 then
          bif ByteArray.toList p0.2.2.2.2.1 == ByteArray.toList { data := #[] } then
            some (false)
          else some (false)
        else some (false)
      else bif p0.1 == (3 : Int) then
        f73l0 k k ((↑(List.length p0.2.2.2.1) : Int) == (0 : Int)) (false) ((0 : Int)) (p0.1) (p0.2.1.1) (p0.2.1.2.1) (p0.2.1.2.2.1) (p0.2.1.2.2.2.1) (p0.2.1.2.2.2.2.1) (p0.2.1.2.2.2.2.2) (p0.2.2.1) (p0.2.2.2.1) (p0.2.2.2.2.1) (p0.2.2.2.2.2.1) (p0.2.2.2.2.2.2)
      else bif p0.1 == (4 : Int) then
        bif p0.1 == (4 : Int) then
          bif (↑(List.length p0.2.2.2.1) : Int) == (0 : Int) then
            bif ByteArray.toList p0.2.2.2.2.1 == ByteArray.toList { data := #[] } then
              bif decide (p0.2.2.2.2.2.1 ≥ (0 : Int)) then
                bif decide (p0.2.2.2.2.2.1 ≤ (65535 : Int)) then
                  bif decide (p0.2.2.2.2.2.2 ≥ (0 : Int)) then
                    some (decide (p0.2.2.2.2.2.2 ≤ (65535 : Int)))
                  else some (false)
                else some (false)
              else some (false)
            else some (false)
          else some (false)
        else some (false)
      else bif p0.1 == (5 : Int) then
        bif (↑(List.length p0.2.2.2.1) : Int) == (0 : Int) then
          bif ByteArray.toList p0.2.2.2.2.1 == ByteArray.toList { data := #[] } then
            bif decide (p0.2.2.2.2.2.1 ≥ (0 : Int)) then
              bif decide (p0.2.2.2.2.2.1 ≤ (65535 : Int)) then
                bif decide (p0.2.2.2.2.2.2 ≥ (0 : Int)) then
                  some (decide (p0.2.2.2.2.2.2 ≤ (65535 : Int)))
                else some (false)
              else some (false)
            else some (false)
          else some (false)
        else some (false)
      else some (false)
    else bif p0.1 == (6 : Int) then
      bif (↑(List.length p0.2.2.2.1) : Int) == (0 : Int) then
        bif ByteArray.toList p0.2.2.2.2.1 == ByteArray.toList { data := #[] } then
          some (false)
        else some (false)
      else some (false)
    else bif p0.1 == (2 : Int) then
      Option.bind (f116 k (p0)) fun y4 =>
      bif y4 then
        bif ByteArray.toList p0.2.2.2.2.1 == ByteArray.toList { data := #[] } then
          some (false)
        else some (false)
      else some (false)
    else bif p0.1 == (3 : Int) then
      f73l0 k k ((↑(List.length p0.2.2.2.1) : Int) == (0 : Int)) (false) ((0 : Int)) (p0.1) (p0.2.1.1) (p0.2.1.2.1) (p0.2.1.2.2.1) (p0.2.1.2.2.2.1) (p0.2.1.2.2.2.2.1) (p0.2.1.2.2.2.2.2) (p0.2.2.1) (p0.2.2.2.1) (p0.2.2.2.2.1) (p0.2.2.2.2.2.1) (p0.2.2.2.2.2.2)
    else bif p0.1 == (4 : Int) then
      bif p0.1 == (4 : Int) then
        bif (↑(List.length p0.2.2.2.1) : Int) == (0 : Int) then
          bif ByteArray.toList p0.2.2.2.2.1 == ByteArray.toList { data := #[] } then
            bif decide (p0.2.2.2.2.2.1 ≥ (0 : Int)) then
              bif decide (p0.2.2.2.2.2.1 ≤ (65535 : Int)) then
                bif decide (p0.2.2.2.2.2.2 ≥ (0 : Int)) then
                  some (decide (p0.2.2.2.2.2.2 ≤ (65535 : Int)))
                else some (false)
              else some (false)
            else some (false)
          else some (false)
        else some (false)
      else some (false)
    else bif p0.1 == (5 : Int) then
      bif (↑(List.length p0.2.2.2.1) : Int) == (0 : Int) then
        bif ByteArray.toList p0.2.2.2.2.1 == ByteArray.toList { data := #[] } then
          bif decide (p0.2.2.2.2.2.1 ≥ (0 : Int)) then
            bif decide (p0.2.2.2.2.2.1 ≤ (65535 : Int)) then
              bif decide (p0.2.2.2.2.2.2 ≥ (0 : Int)) then
                some (decide (p0.2.2.2.2.2.2 ≤ (65535 : Int)))
              else some (false)
            else some (false)
          else some (false)
        else some (false)
      else some (false)
    else some (false)
  else bif p0.2.2.2.2.2.1 == (0 : Int) then
    bif p0.1 == (1 : Int) then
      bif p0.1 == (1 : Int) then
        some (false)
      else bif p0.1 == (2 : Int) then
        Option.bind (f116 k (p0)) fun y5 =>
        bif y5 then
          bif ByteArray.toList p0.2.2.2.2.1 == ByteArray.toList { data := #[] } then
            some (p0.2.2.2.2.2.2 == (0 : Int))
          else some (false)
        else some (false)
      else bif p0.1 == (3 : Int) then
        f73l0 k k (false) (p0.2.2.2.2.2.2 == (0 : Int)) ((0 : Int)) (p0.1) (p0.2.1.1) (p0.2.1.2.1) (p0.2.1.2.2.1) (p0.2.1.2.2.2.1) (p0.2.1.2.2.2.2.1) (p0.2.1.2.2.2.2.2) (p0.2.2.1) (p0.2.2.2.1) (p0.2.2.2.2.1) (p0.2.2.2.2.2.1) (p0.2.2.2.2.2.2)
      else bif p0.1 == (4 : Int) then
        bif p0.1 == (4 : Int) then
          some (false)
        else some (false)
      else bif p0.1 == (5 : Int) then
        some (false)
      else some (false)
    else bif p0.1 == (6 : Int) then
      some (false)
    else bif p0.1 == (2 : Int) then
      Option.bind (f116 k (p0)) fun y6 =>
      bif y6 then
        bif ByteArray.toList p0.2.2.2.2.1 == ByteArray.toList { data := #[] } then
          some (p0.2.2.2.2.2.2 == (0 : Int))
        else some (false)
      else some (false)
    else bif p0.1 == (3 : Int) then
      f73l0 k k (false) (p0.2.2.2.2.2.2 == (0 : Int)) ((0 : Int)) (p0.1) (p0.2.1.1) (p0.2.1.2.1) (p0.2.1.2.2.1) (p0.2.1.2.2.2.1) (p0.2.1.2.2.2.2.1) (p0.2.1.2.2.2.2.2) (p0.2.2.1) (p0.2.2.2.1) (p0.2.2.2.2.1) (p0.2.2.2.2.2.1) (p0.2.2.2.2.2.2)
    else bif p0.1 == (4 : Int) then
      bif p0.1 == (4 : Int) then
        some (false)
      else some (false)
    else bif p0.1 == (5 : Int) then
      some (false)
    else some (false)
  else bif p0.1 == (1 : Int) then
    bif p0.1 == (1 : Int) then
      some (false)
    else bif p0.1 == (2 : Int) then
      Option.bind (f116 k (p0)) fun y7 =>
      bif y7 then
        bif ByteArray.toList p0.2.2.2.2.1 == ByteArray.toList { data := #[] } then
          some (false)
        else some (false)
      else some (false)
    else bif p0.1 == (3 : Int) then
      f73l0 k k (false) (false) ((0 : Int)) (p0.1) (p0.2.1.1) (p0.2.1.2.1) (p0.2.1.2.2.1) (p0.2.1.2.2.2.1) (p0.2.1.2.2.2.2.1) (p0.2.1.2.2.2.2.2) (p0.2.2.1) (p0.2.2.2.1) (p0.2.2.2.2.1) (p0.2.2.2.2.2.1) (p0.2.2.2.2.2.2)
    else bif p0.1 == (4 : Int) then
      bif p0.1 == (4 : Int) then
        some (false)
      else some (false)
    else bif p0.1 == (5 : Int) then
      some (false)
    else some (false)
  else bif p0.1 == (6 : Int) then
    some (false)
  else bif p0.1 == (2 : Int) then
    Option.bind (f116 k (p0)) fun y8 =>
    bif y8 then
      bif ByteArray.toList p0.2.2.2.2.1 == ByteArray.toList { data := #[] } then
        some (false)
      else some (false)
    else some (false)
  else bif p0.1 == (3 : Int) then
    f73l0 k k (false) (false) ((0 : Int)) (p0.1) (p0.2.1.1) (p0.2.1.2.1) (p0.2.1.2.2.1) (p0.2.1.2.2.2.1) (p0.2.1.2.2.2.2.1) (p0.2.1.2.2.2.2.2) (p0.2.2.1) (p0.2.2.2.1) (p0.2.2.2.2.1) (p0.2.2.2.2.2.1) (p0.2.2.2.2.2.2)
  else bif p0.1 == (4 : Int) then
    bif p0.1 == (4 : Int) then
      some (false)
    else some (false)
  else bif p0.1 == (5 : Int) then
    some (false)
  else some (false) := by kernel_rfl
theorem f74l0_eq (k : Nat) (i : Nat) (v0 : List Y87) (v1 : Int) (v2 : Int) (v8 : Int) (r0 : List Y87) : f74l0 k (i + 1) v0 v1 v2 v8 r0 =
  bif decide (v8 < (↑(List.length v0) : Int)) then
    bif decide ((0 : Int) ≤ v8 ∧ v8 < (↑(List.length v0) : Int)) then
      bif decide ((0 : Int) ≤ v8 ∧ v8 < (↑(List.length v0) : Int)) then
        bif decide ((0 : Int) ≤ v8 ∧ v8 < (↑(List.length v0) : Int)) then
          bif decide (minmaxI true v1 (List.getD v0 (Int.toNat v8) (Ty.z t87)).1 < minmaxI false v2 (IntKind.wrap IntKind.i64 ((List.getD v0 (Int.toNat v8) (Ty.z t87)).1 + (↑(ByteArray.size (List.getD v0 (Int.toNat v8) (Ty.z t87)).2) : Int)))) then
            bif decide ((0 : Int) ≤ v8 ∧ v8 < (↑(List.length v0) : Int)) then
              bif decide ((0 : Int) ≤ v8 ∧ v8 < (↑(List.length v0) : Int)) then
                bif decide ((0 : Int) ≤ v8 ∧ v8 < (↑(List.length v0) : Int)) then
                  bif decide ((0 : Int) ≤ IntKind.wrap IntKind.i64 (minmaxI true v1 (List.getD v0 (Int.toNat v8) (Ty.z t87)).1 - (List.getD v0 (Int.toNat v8) (Ty.z t87)).1) ∧ IntKind.wrap IntKind.i64 (minmaxI true v1 (List.getD v0 (Int.toNat v8) (Ty.z t87)).1 - (List.getD v0 (Int.toNat v8) (Ty.z t87)).1) ≤ IntKind.wrap IntKind.i64 (minmaxI false v2 (IntKind.wrap IntKind.i64 ((List.getD v0 (Int.toNat v8) (Ty.z t87)).1 + (↑(ByteArray.size (List.getD v0 (Int.toNat v8) (Ty.z t87)).2) : Int))) - (List.getD v0 (Int.toNat v8) (Ty.z t87)).1) ∧ IntKind.wrap IntKind.i64 (minmaxI false v2 (IntKind.wrap IntKind.i64 ((List.getD v0 (Int.toNat v8) (Ty.z t87)).1 + (↑(ByteArray.size (List.getD v0 (Int.toNat v8) (Ty.z t87)).2) : Int))) - (List.getD v0 (Int.toNat v8) (Ty.z t87)).1) ≤ (↑(ByteArray.size (List.getD v0 (Int.toNat v8) (Ty.z t87)).2) : Int)) then
                    bif decide ((List.length r0 + List.length [(minmaxI true v1 (List.getD v0 (Int.toNat v8) (Ty.z t87)).1, ByteArray.extract (List.getD v0 (Int.toNat v8) (Ty.z t87)).2 (Int.toNat (IntKind.wrap IntKind.i64 (minmaxI true v1 (List.getD v0 (Int.toNat v8) (Ty.z t87)).1 - (List.getD v0 (Int.toNat v8) (Ty.z t87)).1))) (Int.toNat (IntKind.wrap IntKind.i64 (minmaxI false v2 (IntKind.wrap IntKind.i64 ((List.getD v0 (Int.toNat v8) (Ty.z t87)).1 + (↑(ByteArray.size (List.getD v0 (Int.toNat v8) (Ty.z t87)).2) : Int))) - (List.getD v0 (Int.toNat v8) (Ty.z t87)).1))))]) * (24 : Nat) ≤ (140737488355328 : Nat)) then
                      f74l0 k i (v0) (v1) (v2) (IntKind.wrap IntKind.i64 (v8 + (1 : Int))) (r0 ++ [(minmaxI true v1 (List.getD v0 (Int.toNat v8) (Ty.z t87)).1, ByteArray.extract (List.getD v0 (Int.toNat v8) (Ty.z t87)).2 (Int.toNat (IntKind.wrap IntKind.i64 (minmaxI true v1 (List.getD v0 (Int.toNat v8) (Ty.z t87)).1 - (List.getD v0 (Int.toNat v8) (Ty.z t87)).1))) (Int.toNat (IntKind.wrap IntKind.i64 (minmaxI false v2 (IntKind.wrap IntKind.i64 ((List.getD v0 (Int.toNat v8) (Ty.z t87)).1 + (↑(ByteArray.size (List.getD v0 (Int.toNat v8) (Ty.z t87)).2) : Int))) - (List.getD v0 (Int.toNat v8) (Ty.z t87)).1))))])
                    else none
                  else none
                else none
              else none
            else none
          else f74l0 k i (v0) (v1) (v2) (IntKind.wrap IntKind.i64 (v8 + (1 : Int))) (r0)
        else none
      else none
    else none
  else some (r0) := by kernel_rfl
theorem f74_eq (k : Nat) (p0 : List Y87) (p1 : Int) (p2 : Int) : f74 (k + 1) p0 p1 p2 =
  f74l0 k k (p0) (p1) (p2) ((0 : Int)) ([]) := by kernel_rfl
end Go.Proofs.YteiefdnhngfojaaGreatDoor.Tr
set_option linter.unusedVariables false
set_option maxRecDepth 100000
namespace Go.Proofs.YteiefdnhngfojaaGreatDoor.Tr
open Go Go.Proofs.YteiefdnhngfojaaGreatDoor.Vm Go.Proofs.YteiefdnhngfojaaGreatDoor.VmI
theorem f75l0_eq (k : Nat) (i : Nat) (v0 : List Y87) (v4 : Int) (r0 : List Y87) : f75l0 k (i + 1) v0 v4 r0 =
  bif decide (v4 < (↑(List.length v0) : Int)) then
    bif decide (IntKind.wrap IntKind.i64 ((↑(List.length r0) : Int) - (1 : Int)) ≥ (0 : Int)) then
      bif decide ((0 : Int) ≤ IntKind.wrap IntKind.i64 ((↑(List.length r0) : Int) - (1 : Int)) ∧ IntKind.wrap IntKind.i64 ((↑(List.length r0) : Int) - (1 : Int)) < (↑(List.length r0) : Int)) then
        bif decide (Int.toNat (IntKind.wrap IntKind.i64 ((↑(List.length r0) : Int) - (1 : Int))) < List.length r0) then
          bif decide ((0 : Int) ≤ IntKind.wrap IntKind.i64 ((↑(List.length r0) : Int) - (1 : Int)) ∧ IntKind.wrap IntKind.i64 ((↑(List.length r0) : Int) - (1 : Int)) < (↑(List.length r0) : Int)) then
            bif decide (Int.toNat (IntKind.wrap IntKind.i64 ((↑(List.length r0) : Int) - (1 : Int))) < List.length r0) then
              bif decide ((0 : Int) ≤ v4 ∧ v4 < (↑(List.length v0) : Int)) then
                bif IntKind.wrap IntKind.i64 ((List.getD r0 (Int.toNat (IntKind.wrap IntKind.i64 ((↑(List.length r0) : Int) - (1 : Int)))) (Ty.z t87)).1 + (↑(ByteArray.size (List.getD r0 (Int.toNat (IntKind.wrap IntKind.i64 ((↑(List.length r0) : Int) - (1 : Int)))) (Ty.z t87)).2) : Int)) == (List.getD v0 (Int.toNat v4) (Ty.z t87)).1 then
                  bif decide ((0 : Int) ≤ IntKind.wrap IntKind.i64 ((↑(List.length r0) : Int) - (1 : Int)) ∧ IntKind.wrap IntKind.i64 ((↑(List.length r0) : Int) - (1 : Int)) < (↑(List.length r0) : Int)) then
                    bif decide (Int.toNat (IntKind.wrap IntKind.i64 ((↑(List.length r0) : Int) - (1 : Int))) < List.length r0) then
                      bif decide ((0 : Int) ≤ v4 ∧ v4 < (↑(List.length v0) : Int)) then
                        bif decide ((↑(ByteArray.size (List.getD r0 (Int.toNat (IntKind.wrap IntKind.i64 ((↑(List.length r0) : Int) - (1 : Int)))) (Ty.z t87)).2 + ByteArray.size (List.getD v0 (Int.toNat v4) (Ty.z t87)).2) : Int) > IntKind.max IntKind.i64) then
                          none
                        else bif decide ((0 : Int) ≤ IntKind.wrap IntKind.i64 ((↑(List.length r0) : Int) - (1 : Int)) ∧ IntKind.wrap IntKind.i64 ((↑(List.length r0) : Int) - (1 : Int)) < (↑(List.length r0) : Int)) then
                          bif decide (Int.toNat (IntKind.wrap IntKind.i64 ((↑(List.length r0) : Int) - (1 : Int))) < List.length r0) && Nat.ble (2 : Nat) (Ty.size t87) then
                            f75l0 k i (v0) (IntKind.wrap IntKind.i64 (v4 + (1 : Int))) (List.set r0 (Int.toNat (IntKind.wrap IntKind.i64 ((↑(List.length r0) : Int) - (1 : Int)))) ((List.getD r0 (Int.toNat (IntKind.wrap IntKind.i64 ((↑(List.length r0) : Int) - (1 : Int)))) (Ty.z t87)).1, (List.getD r0 (Int.toNat (IntKind.wrap IntKind.i64 ((↑(List.length r0) : Int) - (1 : Int)))) (Ty.z t87)).2 ++ (List.getD v0 (Int.toNat v4) (Ty.z t87)).2))
                          else none
                        else none
                      else none
                    else none
                  else none
                else bif decide ((0 : Int) ≤ v4 ∧ v4 < (↑(List.length v0) : Int)) then
                  bif decide ((List.length r0 + List.length [List.getD v0 (Int.toNat v4) (Ty.z t87)]) * (24 : Nat) ≤ (140737488355328 : Nat)) then
                    f75l0 k i (v0) (IntKind.wrap IntKind.i64 (v4 + (1 : Int))) (r0 ++ [List.getD v0 (Int.toNat v4) (Ty.z t87)])
                  else none
                else none
              else none
            else none
          else none
        else none
      else none
    else bif decide ((0 : Int) ≤ v4 ∧ v4 < (↑(List.length v0) : Int)) then
      bif decide ((List.length r0 + List.length [List.getD v0 (Int.toNat v4) (Ty.z t87)]) * (24 : Nat) ≤ (140737488355328 : Nat)) then
        f75l0 k i (v0) (IntKind.wrap IntKind.i64 (v4 + (1 : Int))) (r0 ++ [List.getD v0 (Int.toNat v4) (Ty.z t87)])
      else none
    else none
  else some (r0) := by kernel_rfl
theorem f75_eq (k : Nat) (p0 : List Y87) : f75 (k + 1) p0 =
  f75l0 k k (p0) ((0 : Int)) ([]) := by kernel_rfl
theorem f76l0_eq (k : Nat) (i : Nat) (v3 : Int) (v4 : Int) (b0_0 : Int) (b0_1 : Int) (b0_2 : Int) (b0_3 : Int) (b0_4 : Int) (b0_5 : List Y43) (b0_6 : List Y83) (b0_7 : Int) (b0_8 : List Y87) (b0_9 : ByteArray) (b0_10 : Int) (b0_11 : Int) : f76l0 k (i + 1) v3 v4 b0_0 b0_1 b0_2 b0_3 b0_4 b0_5 b0_6 b0_7 b0_8 b0_9 b0_10 b0_11 =
  bif decide (v4 < (↑(List.length b0_8) : Int)) then
    bif decide ((0 : Int) ≤ v4 ∧ v4 < (↑(List.length b0_8) : Int)) then
      f76l0 k i (IntKind.wrap IntKind.i64 (v3 + (↑(ByteArray.size (List.getD b0_8 (Int.toNat v4) (Ty.z t87)).2) : Int))) (IntKind.wrap IntKind.i64 (v4 + (1 : Int))) (b0_0) (b0_1) (b0_2) (b0_3) (b0_4) (b0_5) (b0_6) (b0_7) (b0_8) (b0_9) (b0_10) (b0_11)
    else none
  else some (v3) := by kernel_rfl
theorem f76_eq (k : Nat) (p0 : Y41) : f76 (k + 1) p0 =
  f76l0 k k ((0 : Int)) ((0 : Int)) (p0.1) (p0.2.1.1) (p0.2.1.2.1) (p0.2.1.2.2.1) (p0.2.1.2.2.2.1) (p0.2.1.2.2.2.2.1) (p0.2.1.2.2.2.2.2) (p0.2.2.1) (p0.2.2.2.1) (p0.2.2.2.2.1) (p0.2.2.2.2.2.1) (p0.2.2.2.2.2.2) := by kernel_rfl
theorem f81_eq (k : Nat) (p0 : Int) (p1 : Int) : f81 (k + 1) p0 p1 =
  Option.bind (f118 k (p0)) fun y0 =>
  Option.bind (f118 k (p1)) fun y1 =>
  bif y0 then
    bif y1 then
      some ((0 : Int))
    else some ((-1 : Int))
  else bif y1 then
    some ((1 : Int))
  else bif decide (p0 < p1) then
    some ((-1 : Int))
  else bif decide (p0 > p1) then
    some ((1 : Int))
  else some ((0 : Int)) := by kernel_rfl
theorem f87_eq (k : Nat) (p0 : ByteArray) : f87 (k + 1) p0 =
  bif ByteArray.toList p0 == ByteArray.toList { data := #[] } then
    some ([])
  else Option.bind (f88 k (p0)) fun y0 =>
  bif !y0 then
    some ([])
  else Option.bind (f120 k (p0)) fun y1 =>
  some (y1) := by kernel_rfl
theorem f88l0_eq (k : Nat) (i : Nat) (v0 : ByteArray) (v3 : List ByteArray) (v4 : Int) : f88l0 k (i + 1) v0 v3 v4 =
  bif decide (v4 < (↑(List.length v3) : Int)) then
    bif decide ((0 : Int) ≤ v4 ∧ v4 < (↑(List.length v3) : Int)) then
      Option.bind (f106 k (List.getD v3 (Int.toNat v4) (Ty.z Ty.str))) fun y1 =>
      bif !y1 then
        some (false)
      else f88l0 k i (v0) (v3) (IntKind.wrap IntKind.i64 (v4 + (1 : Int)))
    else none
  else bif decide ((↑(ByteArray.size v0) : Int) ≤ (100 : Int)) then
    some (decide ((↑(List.length v3) : Int) ≤ (8 : Int)))
  else some (false) := by kernel_rfl
theorem f88_eq (k : Nat) (p0 : ByteArray) : f88 (k + 1) p0 =
  bif ByteArray.toList p0 == ByteArray.toList { data := #[] } then
    some (true)
  else Option.bind (f120 k (p0)) fun y0 =>
  f88l0 k k (p0) (y0) ((0 : Int)) := by kernel_rfl
theorem f91_eq (k : Nat) (p0 : Y45) (p1 : Y45) : f91 (k + 1) p0 p1 =
  Option.bind (f112 k (p0.1) (p1.1)) fun y0 =>
  some (y0) := by kernel_rfl
theorem f94_eq (k : Nat) (p0 : ByteArray) : f94 (k + 1) p0 =
  Option.bind (f125 k (p0)) fun y0 =>
  some ((y0.1, y0.2.2)) := by kernel_rfl
theorem f95_96_eq (k : Nat) (p0 : List Y41) : f95_96 (k + 1) p0 =
  Option.bind (f126_96 k (p0)) fun y0 =>
  some (decide (y0 ≥ (0 : Int))) := by kernel_rfl
theorem f96_eq (k : Nat) (p0 : Y41) : f96 (k + 1) p0 =
  Option.bind (f97 k (p0)) fun y0 =>
  some (!y0) := by kernel_rfl
theorem f97_eq (k : Nat) (p0 : Y41) : f97 (k + 1) p0 =
  Option.bind (f127 k (p0.2.1)) fun y0 =>
  bif !y0 then
    some (false)
  else bif p0.1 == (1 : Int) then
    bif p0.1 == (1 : Int) then
      bif p0.1 == (2 : Int) then
        Option.bind (f128 k (p0)) fun y1 =>
        bif y1 then
          bif p0.1 == (3 : Int) then
            Option.bind (f129 k (p0)) fun y2 =>
            bif y2 then
              Option.bind (f130 k (p0)) fun y3 =>
              some (y3)
            else bif p0.1 != (3 : Int) then
              bif ByteArray.toList p0.2.2.2.2.1 == ByteArray.toList { data := #[] } then
                Option.bind (f130 k (p0)) fun y4 =>
                some (y4)
              else some (false)
            else some (false)
          else bif p0.1 != (3 : Int) then
            bif ByteArray.toList p0.2.2.2.2.1 == ByteArray.toList { data := #[] } then
              Option.bind (f130 k (p0)) fun y5 =>
              some (y5)
            else some (false)
          else some (false)
        else bif p0.1 != (2 : Int) then
          bif p0.2.2.1 == (0 : Int) then
            bif (↑(List.length p0.2.2.2.1) : Int) == (0 : Int) then
              bif p0.1 == (3 : Int) then
                Option.bind (f129 k (p0)) fun y6 =>
                bif y6 then
                  Option.bind (f130 k (p0)) fun y7 =>
                  some (y7)
                else bif p0.1 != (3 : Int) then
                  bif ByteArray.toList p0.2.2.2.2.1 == ByteArray.toList { data := #[] } then
                    Option.bind (f130 k (p0)) fun y8 =>
                    some (y8)
                  else some (false)
                else some (false)
              else bif p0.1 != (3 : Int) then
                bif ByteArray.toList p0.2.2.2.2.1 == ByteArray.toList { data := #[] } then
                  Option.bind (f130 k (p0)) fun y9 =>
                  some (y9)
                else some (false)
              else some (false)
            else some (false)
          else some (false)
        else some (false)
      else bif p0.1 != (2 : Int) then
        bif p0.2.2.1 == (0 : Int) then
          bif (↑(List.length p0.2.2.2.1) : Int) == (0 : Int) then
            bif p0.1 == (3 : Int) then
              Option.bind (f129 k (p0)) fun y10 =>
              bif y10 then
                Option.bind (f130 k (p0)) fun y11 =>
                some (y11)
              else bif p0.1 != (3 : Int) then
                bif ByteArray.toList p0.2.2.2.2.1 == ByteArray.toList { data := #[] } then
                  Option.bind (f130 k (p0)) fun y12 =>
                  some (y12)
                else some (false)
              else some (false)
            else bif p0.1 != (3 : Int) then
              bif ByteArray.toList p0.2.2.2.2.1 == ByteArray.toList { data := #[] } then
                Option.bind (f130 k (p0)) fun y13 =>
                some (y13)
              else some (false)
            else some (false)
          else some (false)
        else some (false)
      else some (false)
    else some (false)
  else bif p0.1 == (2 : Int) then
    bif p0.1 == (2 : Int) then
      bif p0.1 == (2 : Int) then
        Option.bind (f128 k (p0)) fun y14 =>
        bif y14 then
          bif p0.1 == (3 : Int) then
            Option.bind (f129 k (p0)) fun y15 =>
            bif y15 then
              Option.bind (f130 k (p0)) fun y16 =>
              some (y16)
            else bif p0.1 != (3 : Int) then
              bif ByteArray.toList p0.2.2.2.2.1 == ByteArray.toList { data := #[] } then
                Option.bind (f130 k (p0)) fun y17 =>
                some (y17)
              else some (false)
            else some (false)
          else bif p0.1 != (3 : Int) then
            bif ByteArray.toList p0.2.2.2.2.1 == ByteArray.toList { data := #[] } then
              Option.bind (f130 k (p0)) fun y18 =>
              some (y18)
            else some (false)
          else some (false)
        else bif p0.1 != (2 : Int) then
          bif p0.2.2.1 == (0 : Int) then
            bif (↑(List.length p0.2.2.2.1) : Int) == (0 : Int) then
              bif p0.1 == (3 : Int) then
                Option.bind (f129 k (p0)) fun y19 =>
                bif y19 then
                  Option.bind (f130 k (p0)) fun y20 =>
                  some (y20)
                else bif p0.1 != (3 : Int) then
                  bif ByteArray.toList p0.2.2.2.2.1 == ByteArray.toList { data := #[] } then
                    Option.bind (f130 k (p0)) fun y21 =>
                    some (y21)
                  else some (false)
                else some (false)
              else bif p0.1 != (3 : Int) then
                bif ByteArray.toList p0.2.2.2.2.1 == ByteArray.toList { data := #[] } then
                  Option.bind (f130 k (p0)) fun y22 =>
                  some (y22)
                else some (false)
              else some (false)
            else some (false)
          else some (false)
        else some (false)
      else bif p0.1 != (2 : Int) then
        bif p0.2.2.1 == (0 : Int) then
          bif (↑(List.length p0.2.2.2.1) : Int) == (0 : Int) then
            bif p0.1 == (3 : Int) then
              Option.bind (f129 k (p0)) fun y23 =>
              bif y23 then
                Option.bind (f130 k (p0)) fun y24 =>
                some (y24)
              else bif p0.1 != (3 : Int) then
                bif ByteArray.toList p0.2.2.2.2.1 == ByteArray.toList { data := #[] } then
                  Option.bind (f130 k (p0)) fun y25 =>
                  some (y25)
                else some (false)
              else some (false)
            else bif p0.1 != (3 : Int) then
              bif ByteArray.toList p0.2.2.2.2.1 == ByteArray.toList { data := #[] } then
                Option.bind (f130 k (p0)) fun y26 =>
                some (y26)
              else some (false)
            else some (false)
          else some (false)
        else some (false)
      else some (false)
    else some (false)
  else bif p0.1 == (6 : Int) then
    bif p0.1 == (6 : Int) then
      bif p0.1 == (2 : Int) then
        Option.bind (f128 k (p0)) fun y27 =>
        bif y27 then
          bif p0.1 == (3 : Int) then
            Option.bind (f129 k (p0)) fun y28 =>
            bif y28 then
              Option.bind (f130 k (p0)) fun y29 =>
              some (y29)
            else bif p0.1 != (3 : Int) then
              bif ByteArray.toList p0.2.2.2.2.1 == ByteArray.toList { data := #[] } then
                Option.bind (f130 k (p0)) fun y30 =>
                some (y30)
              else some (false)
            else some (false)
          else bif p0.1 != (3 : Int) then
            bif ByteArray.toList p0.2.2.2.2.1 == ByteArray.toList { data := #[] } then
              Option.bind (f130 k (p0)) fun y31 =>
              some (y31)
            else some (false)
          else some (false)
        else bif p0.1 != (2 : Int) then
          bif p0.2.2.1 == (0 : Int) then
            bif (↑(List.length p0.2.2.2.1) : Int) == (0 : Int) then
              bif p0.1 == (3 : Int) then
                Option.bind (f129 k (p0)) fun y32 =>
                bif y32 then
                  Option.bind (f130 k (p0)) fun y33 =>
                  some (y33)
                else bif p0.1 != (3 : Int) then
                  bif ByteArray.toList p0.2.2.2.2.1 == ByteArray.toList { data := #[] } then
                    Option.bind (f130 k (p0)) fun y34 =>
                    some (y34)
                  else some (false)
                else some (false)
              else bif p0.1 != (3 : Int) then
                bif ByteArray.toList p0.2.2.2.2.1 == ByteArray.toList { data := #[] } then
                  Option.bind (f130 k (p0)) fun y35 =>
                  some (y35)
                else some (false)
              else some (false)
            else some (false)
          else some (false)
        else some (false)
      else bif p0.1 != (2 : Int) then
        bif p0.2.2.1 == (0 : Int) then
          bif (↑(List.length p0.2.2.2.1) : Int) == (0 : Int) then
            bif p0.1 == (3 : Int) then
              Option.bind (f129 k (p0)) fun y36 =>
              bif y36 then
                Option.bind (f130 k (p0)) fun y37 =>
                some (y37)
              else bif p0.1 != (3 : Int) then
                bif ByteArray.toList p0.2.2.2.2.1 == ByteArray.toList { data := #[] } then
                  Option.bind (f130 k (p0)) fun y38 =>
                  some (y38)
                else some (false)
              else some (false)
            else bif p0.1 != (3 : Int) then
              bif ByteArray.toList p0.2.2.2.2.1 == ByteArray.toList { data := #[] } then
                Option.bind (f130 k (p0)) fun y39 =>
                some (y39)
              else some (false)
            else some (false)
          else some (false)
        else some (false)
      else some (false)
    else some (false)
  else bif p0.1 == (3 : Int) then
    bif p0.1 == (3 : Int) then
      bif p0.1 == (2 : Int) then
        Option.bind (f128 k (p0)) fun y40 =>
        bif y40 then
          bif p0.1 == (3 : Int) then
            Option.bind (f129 k (p0)) fun y41 =>
            bif y41 then
              Option.bind (f130 k (p0)) fun y42 =>
              some (y42)
            else bif p0.1 != (3 : Int) then
              bif ByteArray.toList p0.2.2.2.2.1 == ByteArray.toList { data := #[] } then
                Option.bind (f130 k (p0)) fun y43 =>
                some (y43)
              else some (false)
            else some (false)
          else bif p0.1 != (3 : Int) then
            bif ByteArray.toList p0.2.2.2.2.1 == ByteArray.toList { data := #[] } then
              Option.bind (f130 k (p0)) fun y44 =>
              some (y44)
            else some (false)
          else some (false)
        else bif p0.1 != (2 : Int) then
          bif p0.2.2.1 == (0 : Int) then
            bif (↑(List.length p0.2.2.2.1) : Int) == (0 : Int) then
              bif p0.1 == (3 : Int) then
                Option.bind (f129 k (p0)) fun y45 =>
                bif y45 then
                  Option.bind (f130 k (p0)) fun y46 =>
                  some (y46)
                else bif p0.1 != (3 : Int) then
                  bif ByteArray.toList p0.2.2.2.2.1 == ByteArray.toList { data := #[] } then
                    Option.bind (f130 k (p0)) fun y47 =>
                    some (y47)
                  else some (false)
                else some (false)
              else bif p0.1 != (3 : Int) then
                bif ByteArray.toList p0.2.2.2.2.1 == ByteArray.toList { data := #[] } then
                  Option.bind (f130 k (p0)) fun y48 =>
                  some (y48)
                else some (false)
              else some (false)
            else some (false)
          else some (false)
        else some (false)
      else bif p0.1 != (2 : Int) then
        bif p0.2.2.1 == (0 : Int) then
          bif (↑(List.length p0.2.2.2.1) : Int) == (0 : Int) then
            bif p0.1 == (3 : Int) then
              Option.bind (f129 k (p0)) fun y49 =>
              bif y49 then
                Option.bind (f130 k (p0)) fun y50 =>
                some (y50)
              else bif p0.1 != (3 : Int) then
                bif ByteArray.toList p0.2.2.2.2.1 == ByteArray.toList { data := #[] } then
                  Option.bind (f130 k (p0)) fun y51 =>
                  some (y51)
                else some (false)
              else some (false)
            else bif p0.1 != (3 : Int) then
              bif ByteArray.toList p0.2.2.2.2.1 == ByteArray.toList { data := #[] } then
                Option.bind (f130 k (p0)) fun y52 =>
                some (y52)
              else some (false)
            else some (false)
          else some (false)
        else some (false)
      else some (false)
    else some (false)
  else bif p0.1 == (4 : Int) then
    bif p0.1 == (4 : Int) then
      bif p0.1 == (2 : Int) then
        Option.bind (f128 k (p0)) fun y53 =>
        bif y53 then
          bif p0.1 == (3 : Int) then
            Option.bind (f129 k (p0)) fun y54 =>
            bif y54 then
              Option.bind (f130 k (p0)) fun y55 =>
              some (y55)
            else bif p0.1 != (3 : Int) then
              bif ByteArray.toList p0.2.2.2.2.1 == ByteArray.toList { data := #[] } then
                Option.bind (f130 k (p0)) fun y56 =>
                some (y56)
              else some (false)
            else some (false)
          else bif p0.1 != (3 : Int) then
            bif ByteArray.toList p0.2.2.2.2.1 == ByteArray.toList { data := #[] } then
              Option.bind (f130 k (p0)) fun y57 =>
              some (y57)
            else some (false)
          else some (false)
        else bif p0.1 != (2 : Int) then
          bif p0.2.2.1 == (0 : Int) then
            bif (↑(List.length p0.2.2.2.1) : Int) == (0 : Int) then
              bif p0.1 == (3 : Int) then
                Option.bind (f129 k (p0)) fun y58 =>
                bif y58 then
                  Option.bind (f130 k (p0)) fun y59 =>
                  some (y59)
                else bif p0.1 != (3 : Int) then
                  bif ByteArray.toList p0.2.2.2.2.1 == ByteArray.toList { data := #[] } then
                    Option.bind (f130 k (p0)) fun y60 =>
                    some (y60)
                  else some (false)
                else some (false)
              else bif p0.1 != (3 : Int) then
                bif ByteArray.toList p0.2.2.2.2.1 == ByteArray.toList { data := #[] } then
                  Option.bind (f130 k (p0)) fun y61 =>
                  some (y61)
                else some (false)
              else some (false)
            else some (false)
          else some (false)
        else some (false)
      else bif p0.1 != (2 : Int) then
        bif p0.2.2.1 == (0 : Int) then
          bif (↑(List.length p0.2.2.2.1) : Int) == (0 : Int) then
            bif p0.1 == (3 : Int) then
              Option.bind (f129 k (p0)) fun y62 =>
              bif y62 then
                Option.bind (f130 k (p0)) fun y63 =>
                some (y63)
              else bif p0.1 != (3 : Int) then
                bif ByteArray.toList p0.2.2.2.2.1 == ByteArray.toList { data := #[] } then
                  Option.bind (f130 k (p0)) fun y64 =>
                  some (y64)
                else some (false)
              else some (false)
            else bif p0.1 != (3 : Int) then
              bif ByteArray.toList p0.2.2.2.2.1 == ByteArray.toList { data := #[] } then
                Option.bind (f130 k (p0)) fun y65 =>
                some (y65)
              else some (false)
            else some (false)
          else some (false)
        else some (false)
      else some (false)
    else some (false)
  else bif p0.1 == (5 : Int) then
    bif p0.1 == (2 : Int) then
      Option.bind (f128 k (p0)) fun y66 =>
      bif y66 then
        bif p0.1 == (3 : Int) then
          Option.bind (f129 k (p0)) fun y67 =>
          bif y67 then
            Option.bind (f130 k (p0)) fun y68 =>
            some (y68)
          else bif p0.1 != (3 : Int) then
            bif ByteArray.toList p0.2.2.2.2.1 == ByteArray.toList { data := #[] } then
              Option.bind (f130 k (p0)) fun y69 =>
              some (y69)
            else some (false)
          else some (false)
        else bif p0.1 != (3 : Int) then
          bif ByteArray.toList p0.2.2.2.2.1 == ByteArray.toList { data := #[] } then
            Option.bind (f130 k (p0)) fun y70 =>
            some (y70)
          else some (false)
        else some (false)
      else bif p0.1 != (2 : Int) then
        bif p0.2.2.1 == (0 : Int) then
          bif (↑(List.length p0.2.2.2.1) : Int) == (0 : Int) then
            bif p0.1 == (3 : Int) then
              Option.bind (f129 k (p0)) fun y71 =>
              bif y71 then
                Option.bind (f130 k (p0)) fun y72 =>
                some (y72)
              else bif p0.1 != (3 : Int) then
                bif ByteArray.toList p0.2.2.2.2.1 == ByteArray.toList { data := #[] } then
                  Option.bind (f130 k (p0)) fun y73 =>
                  some (y73)
                else some (false)
              else some (false)
            else bif p0.1 != (3 : Int) then
              bif ByteArray.toList p0.2.2.2.2.1 == ByteArray.toList { data := #[] } then
                Option.bind (f130 k (p0)) fun y74 =>
                some (y74)
              else some (false)
            else some (false)
          else some (false)
        else some (false)
      else some (false)
    else bif p0.1 != (2 : Int) then
      bif p0.2.2.1 == (0 : Int) then
        bif (↑(List.length p0.2.2.2.1) : Int) == (0 : Int) then
          bif p0.1 == (3 : Int) then
            Option.bind (f129 k (p0)) fun y75 =>
            bif y75 then
              Option.bind (f130 k (p0)) fun y76 =>
              some (y76)
            else bif p0.1 != (3 : Int) then
              bif ByteArray.toList p0.2.2.2.2.1 == ByteArray.toList { data := #[] } then
                Option.bind (f130 k (p0)) fun y77 =>
                some (y77)
              else some (false)
            else some (false)
          else bif p0.1 != (3 : Int) then
            bif ByteArray.toList p0.2.2.2.2.1 == ByteArray.toList { data := #[] } then
              Option.bind (f130 k (p0)) fun y78 =>
              some (y78)
            else some (false)
          else some (false)
        else some (false)
      else some (false)
    else some (false)
  else some (false) := by kernel_rfl
theorem f98g0_eq (k : Nat) (i : Nat) (v3 : List ByteArray) (v4 : Int) : f98g0 k (i + 1) v3 v4 =
  bif v4 == (↑(List.length v3) : Int) then
    some (true)
  else bif decide ((0 : Int) ≤ v4 ∧ v4 < (↑(List.length v3) : Int)) then
    Option.bind (f132 k (List.getD v3 (Int.toNat v4) (Ty.z Ty.str))) fun y2 =>
    bif !y2 then
      some (false)
    else f98g0 k i (v3) (IntKind.wrap IntKind.i64 (v4 + (1 : Int)))
  else none := by kernel_rfl
theorem f98_eq (k : Nat) (p0 : ByteArray) : f98 (k + 1) p0 =
  bif ByteArray.toList p0 == ByteArray.toList { data := #[] } then
    some (true)
  else Option.bind (f131 k (p0) ({ data := #[(47 : UInt8)] })) fun y0 =>
  bif decide ((↑(ByteArray.size p0) : Int) > (100 : Int)) then
    some (false)
  else bif decide ((↑(List.length y0) : Int) > (8 : Int)) then
    some (false)
  else bif (0 : Int) == (↑(List.length y0) : Int) then
    some (true)
  else bif decide ((0 : Int) ≤ (0 : Int) ∧ (0 : Int) < (↑(List.length y0) : Int)) then
    Option.bind (f132 k (List.getD y0 (0 : Nat) (Ty.z Ty.str))) fun y1 =>
    bif !y1 then
      some (false)
    else f98g0 k k (y0) (IntKind.wrap IntKind.i64 ((0 : Int) + (1 : Int)))
  else none := by kernel_rfl
theorem f99_eq (k : Nat) (p0 : Y24) (p1 : Int) : f99 (k + 1) p0 p1 =
  bif decide ((0 : Int) ≤ p1 ∧ p1 < (↑(List.length p0.1) : Int)) then
    Option.bind (f94 k ((List.getD p0.1 (Int.toNat p1) (Ty.z t45)).1)) fun y0 =>
    bif !y0.2 then
      some (p1 == (0 : Int))
    else bif decide ((0 : Int) ≤ (0 : Int) ∧ (0 : Int) ≤ p1 ∧ p1 ≤ (↑(List.length p0.1) : Int)) then
      Option.bind (f133_134 k (List.take (Int.toNat (p1 - (0 : Int))) (List.drop (0 : Nat) p0.1)) (y0.1)) fun y1 =>
      bif y1.2 then
        bif decide ((0 : Int) ≤ y1.1 ∧ y1.1 < (↑(List.length p0.1) : Int)) then
          bif decide ((0 : Int) ≤ (List.getD p0.1 (Int.toNat y1.1) (Ty.z t45)).2 ∧ (List.getD p0.1 (Int.toNat y1.1) (Ty.z t45)).2 < (↑(List.length p0.2) : Int)) then
            some ((List.getD p0.2 (Int.toNat (List.getD p0.1 (Int.toNat y1.1) (Ty.z t45)).2) (Ty.z t41)).1 == (1 : Int))
          else none
        else none
      else some (false)
    else none
  else none := by kernel_rfl
theorem f105g0_eq (k : Nat) (i : Nat) (v3 : Int) (v4 : Int) (b0_0 : Int) (b0_1 : Int) (b0_2 : Int) (b0_3 : Int) (b0_4 : Int) (b0_5 : List Y43) (b0_6 : List Y83) (b0_7 : Int) (b0_8 : List Y87) (b0_9 : ByteArray) (b0_10 : Int) (b0_11 : Int) : f105g0 k (i + 1) v3 v4 b0_0 b0_1 b0_2 b0_3 b0_4 b0_5 b0_6 b0_7 b0_8 b0_9 b0_10 b0_11 =
  bif decide (v4 < (↑(List.length b0_8) : Int)) then
    bif decide ((0 : Int) ≤ v4 ∧ v4 < (↑(List.length b0_8) : Int)) then
      f105g0 k i (IntKind.wrap IntKind.i64 (v3 + (↑(ByteArray.size (List.getD b0_8 (Int.toNat v4) (Ty.z t87)).2) : Int))) (IntKind.wrap IntKind.i64 (v4 + (1 : Int))) (b0_0) (b0_1) (b0_2) (b0_3) (b0_4) (b0_5) (b0_6) (b0_7) (b0_8) (b0_9) (b0_10) (b0_11)
    else none
  else some (v3) := by kernel_rfl
theorem f105_eq (k : Nat) (p0 : Y41) : f105 (k + 1) p0 =
  bif decide ((0 : Int) < (↑(List.length p0.2.2.2.1) : Int)) then
    bif decide ((0 : Int) ≤ (0 : Int) ∧ (0 : Int) < (↑(List.length p0.2.2.2.1) : Int)) then
      f105g0 k k (IntKind.wrap IntKind.i64 ((0 : Int) + (↑(ByteArray.size (List.getD p0.2.2.2.1 (0 : Nat) (Ty.z t87)).2) : Int))) (IntKind.wrap IntKind.i64 ((0 : Int) + (1 : Int))) (p0.1) (p0.2.1.1) (p0.2.1.2.1) (p0.2.1.2.2.1) (p0.2.1.2.2.2.1) (p0.2.1.2.2.2.2.1) (p0.2.1.2.2.2.2.2) (p0.2.2.1) (p0.2.2.2.1) (p0.2.2.2.2.1) (p0.2.2.2.2.2.1) (p0.2.2.2.2.2.2)
    else none
  else some ((0 : Int)) := by kernel_rfl
theorem f106l0_eq (k : Nat) (i : Nat) (v0 : ByteArray) (v3 : Int) : f106l0 k (i + 1) v0 v3 =
  bif decide (v3 < (↑(ByteArray.size v0) : Int)) then
    bif decide ((0 : Int) ≤ v3 ∧ v3 < (↑(ByteArray.size v0) : Int)) then
      bif (↑(UInt8.toNat (Array.getD (ByteArray.data v0) (Int.toNat v3) (0 : UInt8))) : Int) == (47 : Int) then
        some (false)
      else bif decide ((0 : Int) ≤ v3 ∧ v3 < (↑(ByteArray.size v0) : Int)) then
        bif (↑(UInt8.toNat (Array.getD (ByteArray.data v0) (Int.toNat v3) (0 : UInt8))) : Int) == (0 : Int) then
          some (false)
        else f106l0 k i (v0) (IntKind.wrap IntKind.i64 (v3 + (1 : Int)))
      else none
    else none
  else bif decide ((↑(ByteArray.size v0) : Int) ≥ (1 : Int)) then
    bif decide ((↑(ByteArray.size v0) : Int) ≤ (20 : Int)) then
      bif !ByteArray.toList v0 == ByteArray.toList { data := #[(46 : UInt8)] } then
        some (!ByteArray.toList v0 == ByteArray.toList { data := #[(46 : UInt8), (46 : UInt8)] })
      else some (false)
    else some (false)
  else some (false) := by kernel_rfl
theorem f106_eq (k : Nat) (p0 : ByteArray) : f106 (k + 1) p0 =
  f106l0 k k (p0) ((0 : Int)) := by kernel_rfl
theorem f107l0_eq (k : Nat) (i : Nat) (v3 : Int) (b0_0 : Int) (b0_1 : Int) (b0_2 : Int) (b0_3 : Int) (b0_4 : List Y43) (b0_5 : List Y83) : f107l0 k (i + 1) v3 b0_0 b0_1 b0_2 b0_3 b0_4 b0_5 =
  bif decide (v3 < (↑(List.length b0_4) : Int)) then
    bif decide ((0 : Int) ≤ v3 ∧ v3 < (↑(List.length b0_4) : Int)) then
      bif decide ((↑(ByteArray.size (List.getD b0_4 (Int.toNat v3) (Ty.z t43)).1) : Int) > (250 : Int)) then
        some (false)
      else bif decide ((0 : Int) ≤ v3 ∧ v3 < (↑(List.length b0_4) : Int)) then
        bif decide ((↑(ByteArray.size (List.getD b0_4 (Int.toNat v3) (Ty.z t43)).2) : Int) > (250 : Int)) then
          some (false)
        else f107l0 k i (IntKind.wrap IntKind.i64 (v3 + (1 : Int))) (b0_0) (b0_1) (b0_2) (b0_3) (b0_4) (b0_5)
      else none
    else none
  else bif decide ((↑(List.length b0_4) : Int) ≤ (12 : Int)) then
    some (decide ((↑(List.length b0_5) : Int) ≤ (20 : Int)))
  else some (false) := by kernel_rfl
theorem f107_eq (k : Nat) (p0 : Y38) : f107 (k + 1) p0 =
  f107l0 k k ((0 : Int)) (p0.1) (p0.2.1) (p0.2.2.1) (p0.2.2.2.1) (p0.2.2.2.2.1) (p0.2.2.2.2.2) := by kernel_rfl
theorem f108_eq (k : Nat) (p0 : Y38) (p1 : Y38) : f108 (k + 1) p0 p1 =
  bif p0.1 != p1.1 then
    some ({ data := #[(109 : UInt8), (111 : UInt8), (100 : UInt8), (101 : UInt8)] })
  else bif p0.2.1 != p1.2.1 then
    some ({ data := #[(117 : UInt8), (105 : UInt8), (100 : UInt8)] })
  else bif p0.2.2.1 != p1.2.2.1 then
    some ({ data := #[(103 : UInt8), (105 : UInt8), (100 : UInt8)] })
  else bif p0.2.2.2.1 != p1.2.2.2.1 then
    some ({ data := #[(116 : UInt8), (105 : UInt8), (109 : UInt8), (101 : UInt8)] })
  else Option.bind (f135 k (p0.2.2.2.2.1) (p1.2.2.2.2.1)) fun y0 =>
  bif !y0 then
    some ({ data := #[(97 : UInt8), (116 : UInt8), (116 : UInt8), (114 : UInt8), (115 : UInt8)] })
  else Option.bind (f136 k (p0.2.2.2.2.2) (p1.2.2.2.2.2)) fun y1 =>
  bif !y1 then
    some ({ data := #[(97 : UInt8), (99 : UInt8), (108 : UInt8)] })
  else some ({ data := #[] }) := by kernel_rfl
theorem f109l0_eq (k : Nat) (i : Nat) (v0 : List Y87) (v1 : List Y87) (v12 : Int) (v13 : Int) : f109l0 k (i + 1) v0 v1 v12 v13 =
  bif decide (v13 < v12) then
    bif decide ((0 : Int) ≤ v13 ∧ v13 < (↑(List.length v0) : Int)) then
      bif decide ((0 : Int) ≤ v13 ∧ v13 < (↑(List.length v1) : Int)) then
        bif !((List.getD v0 (Int.toNat v13) (Ty.z t87)).1 == (List.getD v1 (Int.toNat v13) (Ty.z t87)).1 && (ByteArray.toList (List.getD v0 (Int.toNat v13) (Ty.z t87)).2 == ByteArray.toList (List.getD v1 (Int.toNat v13) (Ty.z t87)).2 && true)) then
          some (false)
        else f109l0 k i (v0) (v1) (v12) (IntKind.wrap IntKind.i64 (v13 + (1 : Int)))
      else none
    else none
  else some (true) := by kernel_rfl
theorem f109_eq (k : Nat) (p0 : List Y87) (p1 : List Y87) : f109 (k + 1) p0 p1 =
  bif (↑(List.length p0) : Int) != (↑(List.length p1) : Int) then
    some (false)
  else f109l0 k k (p0) (p1) ((↑(List.length p0) : Int)) ((0 : Int)) := by kernel_rfl
theorem f110_eq (k : Nat) (p0 : Y38) (p1 : Y38) : f110 (k + 1) p0 p1 =
  bif p0.1 != p1.1 then
    some ({ data := #[(109 : UInt8), (111 : UInt8), (100 : UInt8), (101 : UInt8)] })
  else bif p0.2.1 != p1.2.1 then
    some ({ data := #[(117 : UInt8), (105 : UInt8), (100 : UInt8)] })
  else bif p0.2.2.1 != p1.2.2.1 then
    some ({ data := #[(103 : UInt8), (105 : UInt8), (100 : UInt8)] })
  else bif p0.2.2.2.1 != p1.2.2.2.1 then
    some ({ data := #[(116 : UInt8), (105 : UInt8), (109 : UInt8), (101 : UInt8)] })
  else Option.bind (f137 k (p0.2.2.2.2.1) (p1.2.2.2.2.1)) fun y0 =>
  bif !y0 then
    some ({ data := #[(97 : UInt8), (116 : UInt8), (116 : UInt8), (114 : UInt8), (115 : UInt8)] })
  else Option.bind (f138 k (p0.2.2.2.2.2) (p1.2.2.2.2.2)) fun y1 =>
  bif !y1 then
    some ({ data := #[(97 : UInt8), (99 : UInt8), (108 : UInt8)] })
  else some ({ data := #[] }) := by kernel_rfl
theorem f111l0_eq (k : Nat) (i : Nat) (v0 : List Y87) (v1 : List Y87) (v5 : Int) : f111l0 k (i + 1) v0 v1 v5 =
  bif decide (v5 < (↑(List.length v0) : Int)) then
    bif decide ((0 : Int) ≤ v5 ∧ v5 < (↑(List.length v0) : Int)) then
      bif decide ((0 : Int) ≤ v5 ∧ v5 < (↑(List.length v1) : Int)) then
        bif !((List.getD v0 (Int.toNat v5) (Ty.z t87)).1 == (List.getD v1 (Int.toNat v5) (Ty.z t87)).1 && (ByteArray.toList (List.getD v0 (Int.toNat v5) (Ty.z t87)).2 == ByteArray.toList (List.getD v1 (Int.toNat v5) (Ty.z t87)).2 && true)) then
          some (false)
        else f111l0 k i (v0) (v1) (IntKind.wrap IntKind.i64 (v5 + (1 : Int)))
      else none
    else none
  else some (true) := by kernel_rfl
theorem f111_eq (k : Nat) (p0 : List Y87) (p1 : List Y87) : f111 (k + 1) p0 p1 =
  bif (↑(List.length p0) : Int) != (↑(List.length p1) : Int) then
    some (false)
  else f111l0 k k (p0) (p1) ((0 : Int)) := by kernel_rfl
theorem f112_eq (k : Nat) (p0 : ByteArray) (p1 : ByteArray) : f112 (k + 1) p0 p1 =
  Option.bind (f119 k (p0)) fun y0 =>
  Option.bind (f119 k (p1)) fun y1 =>
  Option.bind (f139 k (y0) (y1)) fun y2 =>
  some (y2) := by kernel_rfl
theorem f113_114l0_eq (k : Nat) (i : Nat) (v1 : Y24) (v5 : Int) (v6 : Int) (r0 : List ByteArray) : f113_114l0 k (i + 1) v1 v5 v6 r0 =
  bif decide (v6 < (↑(List.length r0) : Int)) then
    bif decide ((0 : Int) ≤ v6 ∧ v6 < (↑(List.length r0) : Int)) then
      bif decide (Int.toNat v6 < List.length r0) then
        Option.bind (f114 k (List.getD r0 (Int.toNat v6) (Ty.z Ty.str)) (v1)) fun y1 =>
        bif !y1 then
          bif decide ((0 : Int) ≤ v5 ∧ v5 < (↑(List.length r0) : Int)) then
            bif decide (Int.toNat v5 < List.length r0) && Nat.ble (1 : Nat) (Ty.size Ty.str) then
              f113_114l0 k i (v1) (IntKind.wrap IntKind.i64 (v5 + (1 : Int))) (IntKind.wrap IntKind.i64 (v6 + (1 : Int))) (List.set r0 (Int.toNat v5) (List.getD r0 (Int.toNat v6) (Ty.z Ty.str)))
            else none
          else none
        else f113_114l0 k i (v1) (v5) (IntKind.wrap IntKind.i64 (v6 + (1 : Int))) (r0)
      else none
    else none
  else bif decide ((0 : Int) ≤ v5 ∧ v5 ≤ (↑(List.length r0) : Int) ∧ (↑(List.length r0) : Int) ≤ (↑(List.length r0) : Int)) then
    bif Nat.beq (nat_lit 9) (9 : TypeId) && !Row.fz (frz (frz (frz { e := nat_lit 9, t := Ty.str, xs := r0, fz := false } false) false) false) && true && (Nat.ble (Int.toNat v5) (Int.toNat (↑(List.length r0) : Int)) && Nat.ble (Int.toNat (↑(List.length r0) : Int)) (List.length r0)) then
      bif decide ((0 : Int) ≤ (0 : Int) ∧ (0 : Int) ≤ v5 ∧ v5 ≤ (↑(List.length (List.take (Int.toNat v5) r0 ++ (List.replicate (Int.toNat (↑(List.length r0) : Int) - Int.toNat v5) (Ty.z Ty.str) ++ List.drop (Int.toNat (↑(List.length r0) : Int)) r0))) : Int)) then
        bif true && (Nat.ble (Int.toNat v5) (List.length (List.take (Int.toNat v5) r0 ++ (List.replicate (Int.toNat (↑(List.length r0) : Int) - Int.toNat v5) (Ty.z Ty.str) ++ List.drop (Int.toNat (↑(List.length r0) : Int)) r0))) && (Nat.beq (9 : TypeId) (9 : TypeId) && !Row.fz { e := (9 : TypeId), t := Ty.str, xs := List.take (Int.toNat v5) r0 ++ (List.replicate (Int.toNat (↑(List.length r0) : Int) - Int.toNat v5) (Ty.z Ty.str) ++ List.drop (Int.toNat (↑(List.length r0) : Int)) r0), fz := false })) then
          some (List.take (Int.toNat v5) (List.take (Int.toNat v5) r0 ++ (List.replicate (Int.toNat (↑(List.length r0) : Int) - Int.toNat v5) (Ty.z Ty.str) ++ List.drop (Int.toNat (↑(List.length r0) : Int)) r0)))
        else none
      else none
    else none
  else none := by kernel_rfl
theorem f113_114_eq (k : Nat) (p0 : List ByteArray) (p1 : Y24) : f113_114 (k + 1) p0 p1 =
  Option.bind (f140_114 k (p0) (p1)) fun y0 =>
  bif y0 == (-1 : Int) then
    some (p0)
  else f113_114l0 k k (p1) (y0) (IntKind.wrap IntKind.i64 (y0 + (1 : Int))) (p0) := by kernel_rfl
theorem f114_eq (k : Nat) (p0 : ByteArray) (p1 : Y24) : f114 (k + 1) p0 p1 =
  Option.bind (f68 k (p1) (p0)) fun y0 =>
  some (!y0) := by kernel_rfl
theorem f115l0_eq (k : Nat) (i : Nat) (v3 : Int) (b0_0 : Int) (b0_1 : Int) (b0_2 : Int) (b0_3 : Int) (b0_4 : List Y43) (b0_5 : List Y83) : f115l0 k (i + 1) v3 b0_0 b0_1 b0_2 b0_3 b0_4 b0_5 =
  bif decide (v3 < (↑(List.length b0_4) : Int)) then
    bif decide ((0 : Int) ≤ v3 ∧ v3 < (↑(List.length b0_4) : Int)) then
      Option.bind (f141 k (List.getD b0_4 (Int.toNat v3) (Ty.z t43))) fun y0 =>
      bif !y0 then
        some (false)
      else bif decide (v3 > (0 : Int)) then
        bif decide ((0 : Int) ≤ v3 ∧ v3 < (↑(List.length b0_4) : Int)) then
          bif decide ((0 : Int) ≤ IntKind.wrap IntKind.i64 (v3 - (1 : Int)) ∧ IntKind.wrap IntKind.i64 (v3 - (1 : Int)) < (↑(List.length b0_4) : Int)) then
            bif Op.bytesLess (ByteArray.toList (List.getD b0_4 (Int.toNat v3) (Ty.z t43)).1) (ByteArray.toList (List.getD b0_4 (Int.toNat (IntKind.wrap IntKind.i64 (v3 - (1 : Int)))) (Ty.z t43)).1) || ByteArray.toList (List.getD b0_4 (Int.toNat v3) (Ty.z t43)).1 == ByteArray.toList (List.getD b0_4 (Int.toNat (IntKind.wrap IntKind.i64 (v3 - (1 : Int)))) (Ty.z t43)).1 then
              some (false)
            else f115l0 k i (IntKind.wrap IntKind.i64 (v3 + (1 : Int))) (b0_0) (b0_1) (b0_2) (b0_3) (b0_4) (b0_5)
          else none
        else none
      else f115l0 k i (IntKind.wrap IntKind.i64 (v3 + (1 : Int))) (b0_0) (b0_1) (b0_2) (b0_3) (b0_4) (b0_5)
    else none
  else bif decide (b0_0 ≥ (0 : Int)) then
    bif decide (b0_0 ≤ (4095 : Int)) then
      bif decide (b0_1 ≥ (0 : Int)) then
        bif decide (b0_1 ≤ (2147483647 : Int)) then
          bif decide (b0_2 ≥ (0 : Int)) then
            bif decide (b0_2 ≤ (2147483647 : Int)) then
              bif decide (b0_3 ≥ (0 : Int)) then
                bif decide ((↑(List.length b0_4) : Int) ≤ (8 : Int)) then
                  Option.bind (f142 k (b0_5)) fun y1 =>
                  some (y1)
                else some (false)
              else some (false)
            else some (false)
          else some (false)
        else some (false)
      else some (false)
    else some (false)
  else some (false) := by kernel_rfl
theorem f115_eq (k : Nat) (p0 : Y38) : f115 (k + 1) p0 =
  f115l0 k k ((0 : Int)) (p0.1) (p0.2.1) (p0.2.2.1) (p0.2.2.2.1) (p0.2.2.2.2.1) (p0.2.2.2.2.2) := by kernel_rfl
end Go.Proofs.YteiefdnhngfojaaGreatDoor.Tr
set_option linter.unusedVariables false
set_option maxRecDepth 100000
namespace Go.Proofs.YteiefdnhngfojaaGreatDoor.Tr
open Go Go.Proofs.YteiefdnhngfojaaGreatDoor.Vm Go.Proofs.YteiefdnhngfojaaGreatDoor.VmI
theorem f116l0_eq (k : Nat) (i : Nat) (v3 : Int) (b0_0 : Int) (b0_1 : Int) (b0_2 : Int) (b0_3 : Int) (b0_4 : Int) (b0_5 : List Y43) (b0_6 : List Y83) (b0_7 : Int) (b0_8 : List Y87) (b0_9 : ByteArray) (b0_10 : Int) (b0_11 : Int) : f116l0 k (i + 1) v3 b0_0 b0_1 b0_2 b0_3 b0_4 b0_5 b0_6 b0_7 b0_8 b0_9 b0_10 b0_11 =
  bif decide (v3 < (↑(List.length b0_8) : Int)) then
    bif decide ((0 : Int) ≤ v3 ∧ v3 < (↑(List.length b0_8) : Int)) then
      bif decide ((List.getD b0_8 (Int.toNat v3) (Ty.z t87)).1 < (0 : Int)) then
        some (false)
      else bif decide ((0 : Int) ≤ v3 ∧ v3 < (↑(List.length b0_8) : Int)) then
        bif decide ((List.getD b0_8 (Int.toNat v3) (Ty.z t87)).1 > (1099511627776 : Int)) then
          some (false)
        else bif decide ((0 : Int) ≤ v3 ∧ v3 < (↑(List.length b0_8) : Int)) then
          bif (↑(ByteArray.size (List.getD b0_8 (Int.toNat v3) (Ty.z t87)).2) : Int) == (0 : Int) then
            some (false)
          else f116l0 k i (IntKind.wrap IntKind.i64 (v3 + (1 : Int))) (b0_0) (b0_1) (b0_2) (b0_3) (b0_4) (b0_5) (b0_6) (b0_7) (b0_8) (b0_9) (b0_10) (b0_11)
        else none
      else none
    else none
  else bif decide (b0_7 ≥ (0 : Int)) then
    bif decide (b0_7 ≤ (1099511627776 : Int)) then
      Option.bind (f76 k ((b0_0, (b0_1, b0_2, b0_3, b0_4, b0_5, b0_6), b0_7, b0_8, b0_9, b0_10, b0_11))) fun y0 =>
      bif decide (y0 ≤ (4000 : Int)) then
        bif decide ((↑(List.length b0_8) : Int) ≤ (16 : Int)) then
          Option.bind (f144 k ((b0_0, (b0_1, b0_2, b0_3, b0_4, b0_5, b0_6), b0_7, b0_8, b0_9, b0_10, b0_11))) fun y1 =>
          Option.bind (f143 k (y1) (b0_7)) fun y2 =>
          some (y2)
        else some (false)
      else some (false)
    else some (false)
  else some (false) := by kernel_rfl
theorem f116_eq (k : Nat) (p0 : Y41) : f116 (k + 1) p0 =
  f116l0 k k ((0 : Int)) (p0.1) (p0.2.1.1) (p0.2.1.2.1) (p0.2.1.2.2.1) (p0.2.1.2.2.2.1) (p0.2.1.2.2.2.2.1) (p0.2.1.2.2.2.2.2) (p0.2.2.1) (p0.2.2.2.1) (p0.2.2.2.2.1) (p0.2.2.2.2.2.1) (p0.2.2.2.2.2.2) := by kernel_rfl
theorem f118_eq (k : Nat) (p0 : Int) : f118 (k + 1) p0 =
  some (p0 != p0) := by kernel_rfl
theorem f119_eq (k : Nat) (p0 : ByteArray) : f119 (k + 1) p0 =
  bif ByteArray.toList p0 == ByteArray.toList { data := #[] } then
    some ([])
  else Option.bind (f98 k (p0)) fun y0 =>
  bif !y0 then
    some ([])
  else Option.bind (f131 k (p0) ({ data := #[(47 : UInt8)] })) fun y1 =>
  some (y1) := by kernel_rfl
theorem f120l0_eq (k : Nat) (i : Nat) (v0 : ByteArray) (v4 : Int) (v5 : Int) (r0 : List ByteArray) : f120l0 k (i + 1) v0 v4 v5 r0 =
  bif decide (v5 ≤ (↑(ByteArray.size v0) : Int)) then
    bif v5 == (↑(ByteArray.size v0) : Int) then
      bif decide ((0 : Int) ≤ v4 ∧ v4 ≤ v5 ∧ v5 ≤ (↑(ByteArray.size v0) : Int)) then
        bif decide ((List.length r0 + List.length [ByteArray.extract v0 (Int.toNat v4) (Int.toNat v5)]) * (16 : Nat) ≤ (140737488355328 : Nat)) then
          f120l0 k i (v0) (IntKind.wrap IntKind.i64 (v5 + (1 : Int))) (IntKind.wrap IntKind.i64 (v5 + (1 : Int))) (r0 ++ [ByteArray.extract v0 (Int.toNat v4) (Int.toNat v5)])
        else none
      else none
    else bif decide ((0 : Int) ≤ v5 ∧ v5 < (↑(ByteArray.size v0) : Int)) then
      bif (↑(UInt8.toNat (Array.getD (ByteArray.data v0) (Int.toNat v5) (0 : UInt8))) : Int) == (47 : Int) then
        bif decide ((0 : Int) ≤ v4 ∧ v4 ≤ v5 ∧ v5 ≤ (↑(ByteArray.size v0) : Int)) then
          bif decide ((List.length r0 + List.length [ByteArray.extract v0 (Int.toNat v4) (Int.toNat v5)]) * (16 : Nat) ≤ (140737488355328 : Nat)) then
            f120l0 k i (v0) (IntKind.wrap IntKind.i64 (v5 + (1 : Int))) (IntKind.wrap IntKind.i64 (v5 + (1 : Int))) (r0 ++ [ByteArray.extract v0 (Int.toNat v4) (Int.toNat v5)])
          else none
        else none
      else f120l0 k i (v0) (v4) (IntKind.wrap IntKind.i64 (v5 + (1 : Int))) (r0)
    else none
  else some (r0) := by kernel_rfl
theorem f120_eq (k : Nat) (p0 : ByteArray) : f120 (k + 1) p0 =
  f120l0 k k (p0) ((0 : Int)) ((0 : Int)) ([]) := by kernel_rfl
theorem f125_eq (k : Nat) (p0 : ByteArray) : f125 (k + 1) p0 =
  Option.bind (f119 k (p0)) fun y0 =>
  bif (↑(List.length y0) : Int) == (0 : Int) then
    some (({ data := #[] }, { data := #[] }, false))
  else bif decide ((0 : Int) ≤ (0 : Int) ∧ (0 : Int) ≤ IntKind.wrap IntKind.i64 ((↑(List.length y0) : Int) - (1 : Int)) ∧ IntKind.wrap IntKind.i64 ((↑(List.length y0) : Int) - (1 : Int)) ≤ (↑(List.length y0) : Int)) then
    Option.bind (f152 k (List.take (Int.toNat (IntKind.wrap IntKind.i64 ((↑(List.length y0) : Int) - (1 : Int)) - (0 : Int))) (List.drop (0 : Nat) y0)) ({ data := #[(47 : UInt8)] })) fun y1 =>
    bif decide ((0 : Int) ≤ IntKind.wrap IntKind.i64 ((↑(List.length y0) : Int) - (1 : Int)) ∧ IntKind.wrap IntKind.i64 ((↑(List.length y0) : Int) - (1 : Int)) < (↑(List.length y0) : Int)) then
      some ((y1, List.getD y0 (Int.toNat (IntKind.wrap IntKind.i64 ((↑(List.length y0) : Int) - (1 : Int)))) (Ty.z Ty.str), true))
    else none
  else none := by kernel_rfl
theorem f126_96l0_eq (k : Nat) (i : Nat) (v0 : List Y41) (v7 : Int) (v8 : Int) : f126_96l0 k (i + 1) v0 v7 v8 =
  bif decide (v8 < v7) then
    bif decide ((0 : Int) ≤ v8 ∧ v8 < (↑(List.length v0) : Int)) then
      Option.bind (f96 k (List.getD v0 (Int.toNat v8) (Ty.z t41))) fun y0 =>
      bif y0 then
        some (v8)
      else f126_96l0 k i (v0) (v7) (IntKind.wrap IntKind.i64 (v8 + (1 : Int)))
    else none
  else some ((-1 : Int)) := by kernel_rfl
theorem f126_96_eq (k : Nat) (p0 : List Y41) : f126_96 (k + 1) p0 =
  f126_96l0 k k (p0) ((↑(List.length p0) : Int)) ((0 : Int)) := by kernel_rfl
theorem f127g0_eq (k : Nat) (i : Nat) (v3 : Int) (b0_0 : Int) (b0_1 : Int) (b0_2 : Int) (b0_3 : Int) (b0_4 : List Y43) (b0_5 : List Y83) : f127g0 k (i + 1) v3 b0_0 b0_1 b0_2 b0_3 b0_4 b0_5 =
  bif decide (v3 < (↑(List.length b0_4) : Int)) then
    bif decide ((0 : Int) ≤ v3 ∧ v3 < (↑(List.length b0_4) : Int)) then
      Option.bind (f153 k (List.getD b0_4 (Int.toNat v3) (Ty.z t43))) fun y1 =>
      bif !y1 then
        some (false)
      else bif decide (v3 > (0 : Int)) then
        bif decide ((0 : Int) ≤ IntKind.wrap IntKind.i64 (v3 - (1 : Int)) ∧ IntKind.wrap IntKind.i64 (v3 - (1 : Int)) < (↑(List.length b0_4) : Int)) then
          bif decide ((0 : Int) ≤ v3 ∧ v3 < (↑(List.length b0_4) : Int)) then
            Option.bind (f154 k (List.getD b0_4 (Int.toNat (IntKind.wrap IntKind.i64 (v3 - (1 : Int)))) (Ty.z t43)) (List.getD b0_4 (Int.toNat v3) (Ty.z t43))) fun y2 =>
            bif decide (y2 ≥ (0 : Int)) then
              some (false)
            else f127g0 k i (IntKind.wrap IntKind.i64 (v3 + (1 : Int))) (b0_0) (b0_1) (b0_2) (b0_3) (b0_4) (b0_5)
          else none
        else none
      else f127g0 k i (IntKind.wrap IntKind.i64 (v3 + (1 : Int))) (b0_0) (b0_1) (b0_2) (b0_3) (b0_4) (b0_5)
    else none
  else bif decide ((↑(List.length b0_4) : Int) ≤ (8 : Int)) then
    Option.bind (f155 k (b0_5)) fun y3 =>
    some (y3)
  else some (false) := by kernel_rfl
theorem f127_eq (k : Nat) (p0 : Y38) : f127 (k + 1) p0 =
  bif decide (p0.1 < (0 : Int)) then
    some (false)
  else bif decide (p0.1 > (4095 : Int)) then
    some (false)
  else bif decide (p0.2.1 < (0 : Int)) then
    some (false)
  else bif decide (p0.2.1 > (2147483647 : Int)) then
    some (false)
  else bif decide (p0.2.2.1 < (0 : Int)) then
    some (false)
  else bif decide (p0.2.2.1 > (2147483647 : Int)) then
    some (false)
  else bif decide (p0.2.2.2.1 < (0 : Int)) then
    some (false)
  else bif decide ((0 : Int) < (↑(List.length p0.2.2.2.2.1) : Int)) then
    bif decide ((0 : Int) ≤ (0 : Int) ∧ (0 : Int) < (↑(List.length p0.2.2.2.2.1) : Int)) then
      Option.bind (f153 k (List.getD p0.2.2.2.2.1 (0 : Nat) (Ty.z t43))) fun y0 =>
      bif !y0 then
        some (false)
      else f127g0 k k (IntKind.wrap IntKind.i64 ((0 : Int) + (1 : Int))) (p0.1) (p0.2.1) (p0.2.2.1) (p0.2.2.2.1) (p0.2.2.2.2.1) (p0.2.2.2.2.2)
    else none
  else bif decide ((↑(List.length p0.2.2.2.2.1) : Int) ≤ (8 : Int)) then
    Option.bind (f155 k (p0.2.2.2.2.2)) fun y4 =>
    some (y4)
  else some (false) := by kernel_rfl
theorem f128_eq (k : Nat) (p0 : Y41) : f128 (k + 1) p0 =
  bif decide (p0.2.2.1 ≥ (0 : Int)) then
    Option.bind (f157 k (p0)) fun y0 =>
    Option.bind (f156 k (y0) (p0.2.2.1)) fun y1 =>
    bif y1 then
      Option.bind (f105 k (p0)) fun y2 =>
      bif decide (y2 ≤ (4000 : Int)) then
        bif decide ((↑(List.length p0.2.2.2.1) : Int) ≤ (16 : Int)) then
          Option.bind (f158_159 k (p0.2.2.2.1)) fun y3 =>
          some (!y3)
        else some (false)
      else some (false)
    else some (false)
  else some (false) := by kernel_rfl
theorem f129_eq (k : Nat) (p0 : Y41) : f129 (k + 1) p0 =
  bif decide ((↑(ByteArray.size p0.2.2.2.2.1) : Int) ≥ (1 : Int)) then
    bif decide ((↑(ByteArray.size p0.2.2.2.2.1) : Int) ≤ (200 : Int)) then
      Option.bind (f160 k (p0.2.2.2.2.1) ({ data := #[(0 : UInt8)] })) fun y0 =>
      some (!y0)
    else some (false)
  else some (false) := by kernel_rfl
theorem f130_eq (k : Nat) (p0 : Y41) : f130 (k + 1) p0 =
  bif p0.1 != (4 : Int) then
    bif p0.1 != (5 : Int) then
      bif p0.2.2.2.2.2.1 == (0 : Int) then
        some (p0.2.2.2.2.2.2 == (0 : Int))
      else some (false)
    else bif decide (p0.2.2.2.2.2.1 ≥ (0 : Int)) then
      bif decide (p0.2.2.2.2.2.1 ≤ (65535 : Int)) then
        bif decide (p0.2.2.2.2.2.2 ≥ (0 : Int)) then
          some (decide (p0.2.2.2.2.2.2 ≤ (65535 : Int)))
        else some (false)
      else some (false)
    else some (false)
  else bif decide (p0.2.2.2.2.2.1 ≥ (0 : Int)) then
    bif decide (p0.2.2.2.2.2.1 ≤ (65535 : Int)) then
      bif decide (p0.2.2.2.2.2.2 ≥ (0 : Int)) then
        some (decide (p0.2.2.2.2.2.2 ≤ (65535 : Int)))
      else some (false)
    else some (false)
  else some (false) := by kernel_rfl
theorem f131_eq (k : Nat) (p0 : ByteArray) (p1 : ByteArray) : f131 (k + 1) p0 p1 =
  ext 131 (tupT (Info.ps info 131)) (Info.res info 131) (p0, p1) := by kernel_rfl
theorem f132_eq (k : Nat) (p0 : ByteArray) : f132 (k + 1) p0 =
  bif decide ((↑(ByteArray.size p0) : Int) ≥ (1 : Int)) then
    bif decide ((↑(ByteArray.size p0) : Int) ≤ (20 : Int)) then
      Option.bind (f162 k (p0) ({ data := #[(47 : UInt8), (0 : UInt8)] })) fun y0 =>
      bif !y0 then
        bif !ByteArray.toList p0 == ByteArray.toList { data := #[(46 : UInt8)] } then
          some (!ByteArray.toList p0 == ByteArray.toList { data := #[(46 : UInt8), (46 : UInt8)] })
        else some (false)
      else some (false)
    else some (false)
  else some (false) := by kernel_rfl
theorem f133_134l0_eq (k : Nat) (i : Nat) (v0 : List Y45) (v1 : ByteArray) (v8 : Int) (v9 : Int) (v10 : Int) : f133_134l0 k (i + 1) v0 v1 v8 v9 v10 =
  bif decide (v9 < v10) then
    bif decide ((0 : Int) ≤ IntKind.wrap IntKind.i64 (Int.fdiv (IntKind.wrap IntKind.u64 (IntKind.wrap IntKind.i64 (v9 + v10))) ((2 : Int) ^ (1 : Nat))) ∧ IntKind.wrap IntKind.i64 (Int.fdiv (IntKind.wrap IntKind.u64 (IntKind.wrap IntKind.i64 (v9 + v10))) ((2 : Int) ^ (1 : Nat))) < (↑(List.length v0) : Int)) then
      Option.bind (f134 k (List.getD v0 (Int.toNat (IntKind.wrap IntKind.i64 (Int.fdiv (IntKind.wrap IntKind.u64 (IntKind.wrap IntKind.i64 (v9 + v10))) ((2 : Int) ^ (1 : Nat))))) (Ty.z t45)) (v1)) fun y0 =>
      bif decide (y0 < (0 : Int)) then
        f133_134l0 k i (v0) (v1) (v8) (IntKind.wrap IntKind.i64 (IntKind.wrap IntKind.i64 (Int.fdiv (IntKind.wrap IntKind.u64 (IntKind.wrap IntKind.i64 (v9 + v10))) ((2 : Int) ^ (1 : Nat))) + (1 : Int))) (v10)
      else f133_134l0 k i (v0) (v1) (v8) (v9) (IntKind.wrap IntKind.i64 (Int.fdiv (IntKind.wrap IntKind.u64 (IntKind.wrap IntKind.i64 (v9 + v10))) ((2 : Int) ^ (1 : Nat))))
    else none
  else bif decide (v9 < v8) then
    bif decide ((0 : Int) ≤ v9 ∧ v9 < (↑(List.length v0) : Int)) then
      Option.bind (f134 k (List.getD v0 (Int.toNat v9) (Ty.z t45)) (v1)) fun y1 =>
      some ((v9, y1 == (0 : Int)))
    else none
  else some ((v9, false)) := by kernel_rfl
theorem f133_134_eq (k : Nat) (p0 : List Y45) (p1 : ByteArray) : f133_134 (k + 1) p0 p1 =
  f133_134l0 k k (p0) (p1) ((↑(List.length p0) : Int)) ((0 : Int)) ((↑(List.length p0) : Int)) := by kernel_rfl
theorem f134_eq (k : Nat) (p0 : Y45) (p1 : ByteArray) : f134 (k + 1) p0 p1 =
  Option.bind (f112 k (p0.1) (p1)) fun y0 =>
  some (y0) := by kernel_rfl
theorem f135l0_eq (k : Nat) (i : Nat) (v0 : List Y43) (v1 : List Y43) (v12 : Int) (v13 : Int) : f135l0 k (i + 1) v0 v1 v12 v13 =
  bif decide (v13 < v12) then
    bif decide ((0 : Int) ≤ v13 ∧ v13 < (↑(List.length v0) : Int)) then
      bif decide ((0 : Int) ≤ v13 ∧ v13 < (↑(List.length v1) : Int)) then
        bif !(ByteArray.toList (List.getD v0 (Int.toNat v13) (Ty.z t43)).1 == ByteArray.toList (List.getD v1 (Int.toNat v13) (Ty.z t43)).1 && (ByteArray.toList (List.getD v0 (Int.toNat v13) (Ty.z t43)).2 == ByteArray.toList (List.getD v1 (Int.toNat v13) (Ty.z t43)).2 && true)) then
          some (false)
        else f135l0 k i (v0) (v1) (v12) (IntKind.wrap IntKind.i64 (v13 + (1 : Int)))
      else none
    else none
  else some (true) := by kernel_rfl
theorem f135_eq (k : Nat) (p0 : List Y43) (p1 : List Y43) : f135 (k + 1) p0 p1 =
  bif (↑(List.length p0) : Int) != (↑(List.length p1) : Int) then
    some (false)
  else f135l0 k k (p0) (p1) ((↑(List.length p0) : Int)) ((0 : Int)) := by kernel_rfl
theorem f136_eq (k : Nat) (p0 : List Y83) (p1 : List Y83) : f136 (k + 1) p0 p1 =
  Option.bind (f163 k (p0) (p1)) fun y0 =>
  some (y0) := by kernel_rfl
theorem f137l0_eq (k : Nat) (i : Nat) (v0 : List Y43) (v1 : List Y43) (v5 : Int) : f137l0 k (i + 1) v0 v1 v5 =
  bif decide (v5 < (↑(List.length v0) : Int)) then
    bif decide ((0 : Int) ≤ v5 ∧ v5 < (↑(List.length v0) : Int)) then
      bif decide ((0 : Int) ≤ v5 ∧ v5 < (↑(List.length v1) : Int)) then
        bif !(ByteArray.toList (List.getD v0 (Int.toNat v5) (Ty.z t43)).1 == ByteArray.toList (List.getD v1 (Int.toNat v5) (Ty.z t43)).1 && (ByteArray.toList (List.getD v0 (Int.toNat v5) (Ty.z t43)).2 == ByteArray.toList (List.getD v1 (Int.toNat v5) (Ty.z t43)).2 && true)) then
          some (false)
        else f137l0 k i (v0) (v1) (IntKind.wrap IntKind.i64 (v5 + (1 : Int)))
      else none
    else none
  else some (true) := by kernel_rfl
theorem f137_eq (k : Nat) (p0 : List Y43) (p1 : List Y43) : f137 (k + 1) p0 p1 =
  bif (↑(List.length p0) : Int) != (↑(List.length p1) : Int) then
    some (false)
  else f137l0 k k (p0) (p1) ((0 : Int)) := by kernel_rfl
theorem f138l0_eq (k : Nat) (i : Nat) (v0 : List Y83) (v1 : List Y83) (v5 : Int) : f138l0 k (i + 1) v0 v1 v5 =
  bif decide (v5 < (↑(List.length v0) : Int)) then
    bif decide ((0 : Int) ≤ v5 ∧ v5 < (↑(List.length v0) : Int)) then
      bif decide ((0 : Int) ≤ v5 ∧ v5 < (↑(List.length v1) : Int)) then
        bif !((List.getD v0 (Int.toNat v5) (Ty.z t83)).1 == (List.getD v1 (Int.toNat v5) (Ty.z t83)).1 && ((List.getD v0 (Int.toNat v5) (Ty.z t83)).2.1 == (List.getD v1 (Int.toNat v5) (Ty.z t83)).2.1 && ((List.getD v0 (Int.toNat v5) (Ty.z t83)).2.2 == (List.getD v1 (Int.toNat v5) (Ty.z t83)).2.2 && true))) then
          some (false)
        else f138l0 k i (v0) (v1) (IntKind.wrap IntKind.i64 (v5 + (1 : Int)))
      else none
    else none
  else some (true) := by kernel_rfl
theorem f138_eq (k : Nat) (p0 : List Y83) (p1 : List Y83) : f138 (k + 1) p0 p1 =
  bif (↑(List.length p0) : Int) != (↑(List.length p1) : Int) then
    some (false)
  else f138l0 k k (p0) (p1) ((0 : Int)) := by kernel_rfl
theorem f139l0_eq (k : Nat) (i : Nat) (v0 : List ByteArray) (v1 : List ByteArray) (v9 : List ByteArray) (v10 : Int) (v11 : Int) : f139l0 k (i + 1) v0 v1 v9 v10 v11 =
  bif decide (v11 < v10) then
    bif decide ((0 : Int) ≤ v11 ∧ v11 < (↑(List.length v9) : Int)) then
      bif decide (v11 ≥ (↑(List.length v1) : Int)) then
        some ((1 : Int))
      else bif decide ((0 : Int) ≤ v11 ∧ v11 < (↑(List.length v1) : Int)) then
        Option.bind (f164 k (List.getD v9 (Int.toNat v11) (Ty.z Ty.str)) (List.getD v1 (Int.toNat v11) (Ty.z Ty.str))) fun y0 =>
        bif y0 != (0 : Int) then
          some (y0)
        else f139l0 k i (v0) (v1) (v9) (v10) (IntKind.wrap IntKind.i64 (v11 + (1 : Int)))
      else none
    else none
  else bif decide ((↑(List.length v0) : Int) < (↑(List.length v1) : Int)) then
    some ((-1 : Int))
  else some ((0 : Int)) := by kernel_rfl
theorem f139_eq (k : Nat) (p0 : List ByteArray) (p1 : List ByteArray) : f139 (k + 1) p0 p1 =
  f139l0 k k (p0) (p1) (p0) ((↑(List.length p0) : Int)) ((0 : Int)) := by kernel_rfl
theorem f140_114l0_eq (k : Nat) (i : Nat) (v0 : List ByteArray) (v1 : Y24) (v7 : Int) (v8 : Int) : f140_114l0 k (i + 1) v0 v1 v7 v8 =
  bif decide (v8 < v7) then
    bif decide ((0 : Int) ≤ v8 ∧ v8 < (↑(List.length v0) : Int)) then
      Option.bind (f114 k (List.getD v0 (Int.toNat v8) (Ty.z Ty.str)) (v1)) fun y0 =>
      bif y0 then
        some (v8)
      else f140_114l0 k i (v0) (v1) (v7) (IntKind.wrap IntKind.i64 (v8 + (1 : Int)))
    else none
  else some ((-1 : Int)) := by kernel_rfl
theorem f140_114_eq (k : Nat) (p0 : List ByteArray) (p1 : Y24) : f140_114 (k + 1) p0 p1 =
  f140_114l0 k k (p0) (p1) ((↑(List.length p0) : Int)) ((0 : Int)) := by kernel_rfl
theorem f141_eq (k : Nat) (p0 : Y43) : f141 (k + 1) p0 =
  bif decide ((↑(ByteArray.size p0.1) : Int) ≥ (1 : Int)) then
    bif decide ((↑(ByteArray.size p0.1) : Int) ≤ (20 : Int)) then
      some (decide ((↑(ByteArray.size p0.2) : Int) ≤ (200 : Int)))
    else some (false)
  else some (false) := by kernel_rfl
theorem f142l0_eq (k : Nat) (i : Nat) (v0 : List Y83) (v3 : Int) : f142l0 k (i + 1) v0 v3 =
  bif decide (v3 < (↑(List.length v0) : Int)) then
    bif decide ((0 : Int) ≤ v3 ∧ v3 < (↑(List.length v0) : Int)) then
      Option.bind (f165 k (List.getD v0 (Int.toNat v3) (Ty.z t83))) fun y0 =>
      bif !y0 then
        some (false)
      else bif decide (v3 > (0 : Int)) then
        bif decide ((0 : Int) ≤ IntKind.wrap IntKind.i64 (v3 - (1 : Int)) ∧ IntKind.wrap IntKind.i64 (v3 - (1 : Int)) < (↑(List.length v0) : Int)) then
          bif decide ((0 : Int) ≤ v3 ∧ v3 < (↑(List.length v0) : Int)) then
            Option.bind (f166 k (List.getD v0 (Int.toNat (IntKind.wrap IntKind.i64 (v3 - (1 : Int)))) (Ty.z t83)) (List.getD v0 (Int.toNat v3) (Ty.z t83))) fun y1 =>
            bif !y1 then
              some (false)
            else f142l0 k i (v0) (IntKind.wrap IntKind.i64 (v3 + (1 : Int)))
          else none
        else none
      else f142l0 k i (v0) (IntKind.wrap IntKind.i64 (v3 + (1 : Int)))
    else none
  else bif decide ((↑(List.length v0) : Int) ≤ (16 : Int)) then
    Option.bind (f167 k (v0)) fun y2 =>
    some (!y2)
  else some (false) := by kernel_rfl
theorem f142_eq (k : Nat) (p0 : List Y83) : f142 (k + 1) p0 =
  f142l0 k k (p0) ((0 : Int)) := by kernel_rfl
theorem f143l0_eq (k : Nat) (i : Nat) (v0 : List (Nat × Nat)) (v1 : Int) (v5 : Int) (v6 : Int) : f143l0 k (i + 1) v0 v1 v5 v6 =
  bif decide (v6 < (↑(List.length v0) : Int)) then
    bif decide ((0 : Int) ≤ v6 ∧ v6 < (↑(List.length v0) : Int)) then
      Option.bind (f168 k (List.getD v0 (Int.toNat v6) (Ty.z Ty.cx))) fun y0 =>
      bif y0 == (0 : Int) then
        some (false)
      else bif decide ((0 : Int) ≤ v6 ∧ v6 < (↑(List.length v0) : Int)) then
        Option.bind (f169 k (List.getD v0 (Int.toNat v6) (Ty.z Ty.cx))) fun y1 =>
        bif decide (y1 ≤ v5) then
          some (false)
        else bif decide ((0 : Int) ≤ v6 ∧ v6 < (↑(List.length v0) : Int)) then
          Option.bind (f169 k (List.getD v0 (Int.toNat v6) (Ty.z Ty.cx))) fun y2 =>
          bif decide ((0 : Int) ≤ v6 ∧ v6 < (↑(List.length v0) : Int)) then
            Option.bind (f168 k (List.getD v0 (Int.toNat v6) (Ty.z Ty.cx))) fun y3 =>
            f143l0 k i (v0) (v1) (IntKind.wrap IntKind.i64 (y2 + y3)) (IntKind.wrap IntKind.i64 (v6 + (1 : Int)))
          else none
        else none
      else none
    else none
  else some (decide (v5 ≤ v1)) := by kernel_rfl
theorem f143_eq (k : Nat) (p0 : List (Nat × Nat)) (p1 : Int) : f143 (k + 1) p0 p1 =
  bif decide (p1 < (0 : Int)) then
    some (false)
  else bif decide (p1 > (1099511627776 : Int)) then
    some (false)
  else f143l0 k k (p0) (p1) ((-1 : Int)) ((0 : Int)) := by kernel_rfl
theorem f144l0_eq (k : Nat) (i : Nat) (v4 : Int) (b0_0 : Int) (b0_1 : Int) (b0_2 : Int) (b0_3 : Int) (b0_4 : Int) (b0_5 : List Y43) (b0_6 : List Y83) (b0_7 : Int) (b0_8 : List Y87) (b0_9 : ByteArray) (b0_10 : Int) (b0_11 : Int) (r0 : List (Nat × Nat)) : f144l0 k (i + 1) v4 b0_0 b0_1 b0_2 b0_3 b0_4 b0_5 b0_6 b0_7 b0_8 b0_9 b0_10 b0_11 r0 =
  bif decide (v4 < (↑(List.length b0_8) : Int)) then
    bif decide ((0 : Int) ≤ v4 ∧ v4 < (↑(List.length b0_8) : Int)) then
      bif decide ((0 : Int) ≤ v4 ∧ v4 < (↑(List.length b0_8) : Int)) then
        Option.bind (f170 k ((List.getD b0_8 (Int.toNat v4) (Ty.z t87)).1) ((↑(ByteArray.size (List.getD b0_8 (Int.toNat v4) (Ty.z t87)).2) : Int))) fun y0 =>
        bif decide ((List.length r0 + List.length [y0]) * (16 : Nat) ≤ (140737488355328 : Nat)) then
          f144l0 k i (IntKind.wrap IntKind.i64 (v4 + (1 : Int))) (b0_0) (b0_1) (b0_2) (b0_3) (b0_4) (b0_5) (b0_6) (b0_7) (b0_8) (b0_9) (b0_10) (b0_11) (r0 ++ [y0])
        else none
      else none
    else none
  else some (r0) := by kernel_rfl
theorem f144_eq (k : Nat) (p0 : Y41) : f144 (k + 1) p0 =
  f144l0 k k ((0 : Int)) (p0.1) (p0.2.1.1) (p0.2.1.2.1) (p0.2.1.2.2.1) (p0.2.1.2.2.2.1) (p0.2.1.2.2.2.2.1) (p0.2.1.2.2.2.2.2) (p0.2.2.1) (p0.2.2.2.1) (p0.2.2.2.2.1) (p0.2.2.2.2.2.1) (p0.2.2.2.2.2.2) ([]) := by kernel_rfl
theorem f152_eq (k : Nat) (p0 : List ByteArray) (p1 : ByteArray) : f152 (k + 1) p0 p1 =
  ext 152 (tupT (Info.ps info 152)) (Info.res info 152) (p0, p1) := by kernel_rfl
theorem f153_eq (k : Nat) (p0 : Y43) : f153 (k + 1) p0 =
  bif decide ((↑(ByteArray.size p0.1) : Int) ≥ (1 : Int)) then
    bif decide ((↑(ByteArray.size p0.1) : Int) ≤ (20 : Int)) then
      some (decide ((↑(ByteArray.size p0.2) : Int) ≤ (200 : Int)))
    else some (false)
  else some (false) := by kernel_rfl
theorem f154_eq (k : Nat) (p0 : Y43) (p1 : Y43) : f154 (k + 1) p0 p1 =
  Option.bind (f164 k (p0.1) (p1.1)) fun y0 =>
  some (y0) := by kernel_rfl
theorem f155g0_eq (k : Nat) (i : Nat) (v0 : List Y83) (v3 : Int) : f155g0 k (i + 1) v0 v3 =
  bif decide (v3 < (↑(List.length v0) : Int)) then
    bif decide ((0 : Int) ≤ v3 ∧ v3 < (↑(List.length v0) : Int)) then
      Option.bind (f176 k (List.getD v0 (Int.toNat v3) (Ty.z t83))) fun y1 =>
      bif !y1 then
        some (false)
      else bif decide (v3 > (0 : Int)) then
        bif decide ((0 : Int) ≤ IntKind.wrap IntKind.i64 (v3 - (1 : Int)) ∧ IntKind.wrap IntKind.i64 (v3 - (1 : Int)) < (↑(List.length v0) : Int)) then
          bif decide ((0 : Int) ≤ v3 ∧ v3 < (↑(List.length v0) : Int)) then
            Option.bind (f177 k (List.getD v0 (Int.toNat (IntKind.wrap IntKind.i64 (v3 - (1 : Int)))) (Ty.z t83)) (List.getD v0 (Int.toNat v3) (Ty.z t83))) fun y2 =>
            bif decide (y2 ≥ (0 : Int)) then
              some (false)
            else f155g0 k i (v0) (IntKind.wrap IntKind.i64 (v3 + (1 : Int)))
          else none
        else none
      else f155g0 k i (v0) (IntKind.wrap IntKind.i64 (v3 + (1 : Int)))
    else none
  else bif decide ((↑(List.length v0) : Int) ≤ (16 : Int)) then
    bif (↑(List.length v0) : Int) == (0 : Int) then
      some (true)
    else bif decide ((0 : Int) ≤ IntKind.wrap IntKind.i64 ((↑(List.length v0) : Int) - (1 : Int)) ∧ IntKind.wrap IntKind.i64 ((↑(List.length v0) : Int) - (1 : Int)) < (↑(List.length v0) : Int)) then
      some ((List.getD v0 (Int.toNat (IntKind.wrap IntKind.i64 ((↑(List.length v0) : Int) - (1 : Int)))) (Ty.z t83)).1 == (3 : Int))
    else none
  else some (false) := by kernel_rfl
theorem f155_eq (k : Nat) (p0 : List Y83) : f155 (k + 1) p0 =
  bif decide ((0 : Int) < (↑(List.length p0) : Int)) then
    bif decide ((0 : Int) ≤ (0 : Int) ∧ (0 : Int) < (↑(List.length p0) : Int)) then
      Option.bind (f176 k (List.getD p0 (0 : Nat) (Ty.z t83))) fun y0 =>
      bif !y0 then
        some (false)
      else f155g0 k k (p0) (IntKind.wrap IntKind.i64 ((0 : Int) + (1 : Int)))
    else none
  else bif decide ((↑(List.length p0) : Int) ≤ (16 : Int)) then
    bif (↑(List.length p0) : Int) == (0 : Int) then
      some (true)
    else bif decide ((0 : Int) ≤ IntKind.wrap IntKind.i64 ((↑(List.length p0) : Int) - (1 : Int)) ∧ IntKind.wrap IntKind.i64 ((↑(List.length p0) : Int) - (1 : Int)) < (↑(List.length p0) : Int)) then
      some ((List.getD p0 (Int.toNat (IntKind.wrap IntKind.i64 ((↑(List.length p0) : Int) - (1 : Int)))) (Ty.z t83)).1 == (3 : Int))
    else none
  else some (false) := by kernel_rfl
theorem f156g0_eq (k : Nat) (i : Nat) (v0 : List (Nat × Nat)) (v1 : Int) (v5 : Int) (v6 : Int) : f156g0 k (i + 1) v0 v1 v5 v6 =
  bif v5 == (↑(List.length v0) : Int) then
    some (decide (v6 ≤ v1))
  else bif decide ((0 : Int) ≤ v5 ∧ v5 < (↑(List.length v0) : Int)) then
    Option.bind (f178 k (List.getD v0 (Int.toNat v5) (Ty.z Ty.cx))) fun y3 =>
    bif decide (y3 > (0 : Int)) then
      Option.bind (f179 k (List.getD v0 (Int.toNat v5) (Ty.z Ty.cx))) fun y4 =>
      bif decide (y4 > v6) then
        Option.bind (f180 k (List.getD v0 (Int.toNat v5) (Ty.z Ty.cx))) fun y5 =>
        f156g0 k i (v0) (v1) (IntKind.wrap IntKind.i64 (v5 + (1 : Int))) (y5)
      else some (false)
    else some (false)
  else none := by kernel_rfl
theorem f156_eq (k : Nat) (p0 : List (Nat × Nat)) (p1 : Int) : f156 (k + 1) p0 p1 =
  bif decide (p1 < (0 : Int)) then
    some (false)
  else bif decide (p1 > (1099511627776 : Int)) then
    some (false)
  else bif (0 : Int) == (↑(List.length p0) : Int) then
    some (decide ((-1 : Int) ≤ p1))
  else bif decide ((0 : Int) ≤ (0 : Int) ∧ (0 : Int) < (↑(List.length p0) : Int)) then
    Option.bind (f178 k (List.getD p0 (0 : Nat) (Ty.z Ty.cx))) fun y0 =>
    bif decide (y0 > (0 : Int)) then
      Option.bind (f179 k (List.getD p0 (0 : Nat) (Ty.z Ty.cx))) fun y1 =>
      bif decide (y1 > (-1 : Int)) then
        Option.bind (f180 k (List.getD p0 (0 : Nat) (Ty.z Ty.cx))) fun y2 =>
        f156g0 k k (p0) (p1) (IntKind.wrap IntKind.i64 ((0 : Int) + (1 : Int))) (y2)
      else some (false)
    else some (false)
  else none := by kernel_rfl
theorem f157l0_eq (k : Nat) (i : Nat) (v7 : List Y87) (v8 : Int) (v9 : Int) (r0 : List (Nat × Nat)) : f157l0 k (i + 1) v7 v8 v9 r0 =
  bif decide (v9 < v8) then
    bif decide ((0 : Int) ≤ v9 ∧ v9 < (↑(List.length v7) : Int)) then
      Option.bind (f181 k ((List.getD v7 (Int.toNat v9) (Ty.z t87)).1) ((↑(ByteArray.size (List.getD v7 (Int.toNat v9) (Ty.z t87)).2) : Int))) fun y0 =>
      bif decide ((List.length r0 + List.length [y0]) * (16 : Nat) ≤ (140737488355328 : Nat)) then
        f157l0 k i (v7) (v8) (IntKind.wrap IntKind.i64 (v9 + (1 : Int))) (r0 ++ [y0])
      else none
    else none
  else some (r0) := by kernel_rfl
theorem f157_eq (k : Nat) (p0 : Y41) : f157 (k + 1) p0 =
  f157l0 k k (p0.2.2.2.1) ((↑(List.length p0.2.2.2.1) : Int)) ((0 : Int)) ([]) := by kernel_rfl
theorem f158_159_eq (k : Nat) (p0 : List Y87) : f158_159 (k + 1) p0 =
  Option.bind (f182_159 k (p0)) fun y0 =>
  some (decide (y0 ≥ (0 : Int))) := by kernel_rfl
theorem f159_eq (k : Nat) (p0 : Y87) : f159 (k + 1) p0 =
  bif decide (p0.1 < (0 : Int)) then
    some (true)
  else some (decide (p0.1 > (1099511627776 : Int))) := by kernel_rfl
theorem f160_eq (k : Nat) (p0 : ByteArray) (p1 : ByteArray) : f160 (k + 1) p0 p1 =
  ext 160 (tupT (Info.ps info 160)) (Info.res info 160) (p0, p1) := by kernel_rfl
theorem f162_eq (k : Nat) (p0 : ByteArray) (p1 : ByteArray) : f162 (k + 1) p0 p1 =
  ext 162 (tupT (Info.ps info 162)) (Info.res info 162) (p0, p1) := by kernel_rfl
theorem f163l0_eq (k : Nat) (i : Nat) (v0 : List Y83) (v1 : List Y83) (v12 : Int) (v13 : Int) : f163l0 k (i + 1) v0 v1 v12 v13 =
  bif decide (v13 < v12) then
    bif decide ((0 : Int) ≤ v13 ∧ v13 < (↑(List.length v0) : Int)) then
      bif decide ((0 : Int) ≤ v13 ∧ v13 < (↑(List.length v1) : Int)) then
        bif !((List.getD v0 (Int.toNat v13) (Ty.z t83)).1 == (List.getD v1 (Int.toNat v13) (Ty.z t83)).1 && ((List.getD v0 (Int.toNat v13) (Ty.z t83)).2.1 == (List.getD v1 (Int.toNat v13) (Ty.z t83)).2.1 && ((List.getD v0 (Int.toNat v13) (Ty.z t83)).2.2 == (List.getD v1 (Int.toNat v13) (Ty.z t83)).2.2 && true))) then
          some (false)
        else f163l0 k i (v0) (v1) (v12) (IntKind.wrap IntKind.i64 (v13 + (1 : Int)))
      else none
    else none
  else some (true) := by kernel_rfl
theorem f163_eq (k : Nat) (p0 : List Y83) (p1 : List Y83) : f163 (k + 1) p0 p1 =
  bif (↑(List.length p0) : Int) != (↑(List.length p1) : Int) then
    some (false)
  else f163l0 k k (p0) (p1) ((↑(List.length p0) : Int)) ((0 : Int)) := by kernel_rfl
theorem f164_eq (k : Nat) (p0 : ByteArray) (p1 : ByteArray) : f164 (k + 1) p0 p1 =
  Option.bind (f187 k (p0)) fun y0 =>
  Option.bind (f187 k (p1)) fun y1 =>
  bif y0 then
    bif y1 then
      some ((0 : Int))
    else some ((-1 : Int))
  else bif y1 then
    some ((1 : Int))
  else bif Op.bytesLess (ByteArray.toList p0) (ByteArray.toList p1) then
    some ((-1 : Int))
  else bif !(Op.bytesLess (ByteArray.toList p0) (ByteArray.toList p1) || ByteArray.toList p0 == ByteArray.toList p1) then
    some ((1 : Int))
  else some ((0 : Int)) := by kernel_rfl
theorem f165_eq (k : Nat) (p0 : Y83) : f165 (k + 1) p0 =
  bif decide (p0.1 ≥ (1 : Int)) then
    bif decide (p0.1 ≤ (3 : Int)) then
      bif decide (p0.2.2 ≥ (0 : Int)) then
        bif decide (p0.2.2 ≤ (7 : Int)) then
          bif decide (p0.2.1 ≥ (0 : Int)) then
            bif decide (p0.2.1 ≤ (2147483647 : Int)) then
              bif p0.1 != (3 : Int) then
                some (true)
              else some (p0.2.1 == (0 : Int))
            else some (false)
          else some (false)
        else some (false)
      else some (false)
    else some (false)
  else some (false) := by kernel_rfl
theorem f166_eq (k : Nat) (p0 : Y83) (p1 : Y83) : f166 (k + 1) p0 p1 =
  bif decide (p0.1 < p1.1) then
    some (true)
  else bif p0.1 == p1.1 then
    some (decide (p0.2.1 < p1.2.1))
  else some (false) := by kernel_rfl
theorem f167l0_eq (k : Nat) (i : Nat) (v0 : List Y83) (v3 : Int) : f167l0 k (i + 1) v0 v3 =
  bif decide (v3 < (↑(List.length v0) : Int)) then
    bif decide ((0 : Int) ≤ v3 ∧ v3 < (↑(List.length v0) : Int)) then
      bif (List.getD v0 (Int.toNat v3) (Ty.z t83)).1 == (3 : Int) then
        some (false)
      else f167l0 k i (v0) (IntKind.wrap IntKind.i64 (v3 + (1 : Int)))
    else none
  else some (decide ((↑(List.length v0) : Int) > (0 : Int))) := by kernel_rfl
theorem f167_eq (k : Nat) (p0 : List Y83) : f167 (k + 1) p0 =
  f167l0 k k (p0) ((0 : Int)) := by kernel_rfl
theorem f168_eq (k : Nat) (p0 : Nat × Nat) : f168 (k + 1) p0 =
  Option.bind (f188 k (p0.2)) fun y0 =>
  some (y0) := by kernel_rfl
theorem f169_eq (k : Nat) (p0 : Nat × Nat) : f169 (k + 1) p0 =
  Option.bind (f188 k (p0.1)) fun y0 =>
  some (y0) := by kernel_rfl
theorem f170_eq (k : Nat) (p0 : Int) (p1 : Int) : f170 (k + 1) p0 p1 =
  Option.bind (f189 k (p0)) fun y0 =>
  Option.bind (f189 k (p1)) fun y1 =>
  some ((FloatKind.nearest FloatKind.f64 y0, FloatKind.nearest FloatKind.f64 y1)) := by kernel_rfl
theorem f176_eq (k : Nat) (p0 : Y83) : f176 (k + 1) p0 =
  bif decide (p0.1 ≥ (1 : Int)) then
    bif decide (p0.1 ≤ (3 : Int)) then
      bif decide (p0.2.2 ≥ (0 : Int)) then
        bif decide (p0.2.2 ≤ (7 : Int)) then
          bif decide (p0.2.1 ≥ (0 : Int)) then
            bif decide (p0.2.1 ≤ (2147483647 : Int)) then
              bif p0.1 != (3 : Int) then
                some (true)
              else some (p0.2.1 == (0 : Int))
            else some (false)
          else some (false)
        else some (false)
      else some (false)
    else some (false)
  else some (false) := by kernel_rfl
theorem f177_eq (k : Nat) (p0 : Y83) (p1 : Y83) : f177 (k + 1) p0 p1 =
  Option.bind (f81 k (p0.1) (p1.1)) fun y0 =>
  Option.bind (f81 k (p0.2.1) (p1.2.1)) fun y1 =>
  Option.bind (f194 k ([y0, y1])) fun y2 =>
  some (y2) := by kernel_rfl
theorem f178_eq (k : Nat) (p0 : Nat × Nat) : f178 (k + 1) p0 =
  Option.bind (f195 k (p0.2)) fun y0 =>
  some (y0) := by kernel_rfl
theorem f179_eq (k : Nat) (p0 : Nat × Nat) : f179 (k + 1) p0 =
  Option.bind (f195 k (p0.1)) fun y0 =>
  some (y0) := by kernel_rfl
theorem f180_eq (k : Nat) (p0 : Nat × Nat) : f180 (k + 1) p0 =
  Option.bind (f179 k (p0)) fun y0 =>
  Option.bind (f178 k (p0)) fun y1 =>
  some (IntKind.wrap IntKind.i64 (y0 + y1)) := by kernel_rfl
theorem f181_eq (k : Nat) (p0 : Int) (p1 : Int) : f181 (k + 1) p0 p1 =
  Option.bind (f196 k (p0)) fun y0 =>
  Option.bind (f196 k (p1)) fun y1 =>
  some ((FloatKind.nearest FloatKind.f64 y0, FloatKind.nearest FloatKind.f64 y1)) := by kernel_rfl
theorem f182_159l0_eq (k : Nat) (i : Nat) (v0 : List Y87) (v7 : Int) (v8 : Int) : f182_159l0 k (i + 1) v0 v7 v8 =
  bif decide (v8 < v7) then
    bif decide ((0 : Int) ≤ v8 ∧ v8 < (↑(List.length v0) : Int)) then
      Option.bind (f159 k (List.getD v0 (Int.toNat v8) (Ty.z t87))) fun y0 =>
      bif y0 then
        some (v8)
      else f182_159l0 k i (v0) (v7) (IntKind.wrap IntKind.i64 (v8 + (1 : Int)))
    else none
  else some ((-1 : Int)) := by kernel_rfl
theorem f182_159_eq (k : Nat) (p0 : List Y87) : f182_159 (k + 1) p0 =
  f182_159l0 k k (p0) ((↑(List.length p0) : Int)) ((0 : Int)) := by kernel_rfl
theorem f187_eq (k : Nat) (p0 : ByteArray) : f187 (k + 1) p0 =
  some (!ByteArray.toList p0 == ByteArray.toList p0) := by kernel_rfl
theorem f188_eq (k : Nat) (p0 : Nat) : f188 (k + 1) p0 =
  bif Ieee.Format.order (FloatKind.format FloatKind.f64) p0 (4787326403894837248 : Nat) == some Ordering.gt || Ieee.Format.order (FloatKind.format FloatKind.f64) p0 (4787326403894837248 : Nat) == some Ordering.eq then
    some ((1099511627776 : Int))
  else bif Ieee.Format.order (FloatKind.format FloatKind.f64) p0 (0 : Nat) == some Ordering.gt || Ieee.Format.order (FloatKind.format FloatKind.f64) p0 (0 : Nat) == some Ordering.eq then
    Option.bind (Ieee.Datum.toInt Ieee.Toward.zero (FloatKind.decode FloatKind.f64 p0)) fun y0 =>
    bif decide (IntKind.min IntKind.i64 ≤ y0 ∧ y0 ≤ IntKind.max IntKind.i64) then
      some (y0)
    else none
  else some ((0 : Int)) := by kernel_rfl
theorem f189_eq (k : Nat) (p0 : Int) : f189 (k + 1) p0 =
  some (minmaxI false (minmaxI true p0 (0 : Int)) (1099511627776 : Int)) := by kernel_rfl
theorem f194l0_eq (k : Nat) (i : Nat) (v3 : Int) (v6 : List Int) (v7 : Int) (v8 : Int) : f194l0 k (i + 1) v3 v6 v7 v8 =
  bif decide (v8 < v7) then
    bif decide ((0 : Int) ≤ v8 ∧ v8 < (↑(List.length v6) : Int)) then
      bif List.getD v6 (Int.toNat v8) (Ty.z (Ty.int IntKind.i64)) != v3 then
        some (List.getD v6 (Int.toNat v8) (Ty.z (Ty.int IntKind.i64)))
      else f194l0 k i (v3) (v6) (v7) (IntKind.wrap IntKind.i64 (v8 + (1 : Int)))
    else none
  else some (v3) := by kernel_rfl
theorem f194_eq (k : Nat) (p0 : List Int) : f194 (k + 1) p0 =
  f194l0 k k ((0 : Int)) (p0) ((↑(List.length p0) : Int)) ((0 : Int)) := by kernel_rfl
theorem f195_eq (k : Nat) (p0 : Nat) : f195 (k + 1) p0 =
  bif !Ieee.Format.order (FloatKind.format FloatKind.f64) p0 (0 : Nat) == some Ordering.gt then
    some ((0 : Int))
  else bif Ieee.Format.order (FloatKind.format FloatKind.f64) p0 (4787326403894837248 : Nat) == some Ordering.gt then
    some ((1099511627776 : Int))
  else Option.bind (Ieee.Datum.toInt Ieee.Toward.zero (FloatKind.decode FloatKind.f64 p0)) fun y0 =>
  bif decide (IntKind.min IntKind.i64 ≤ y0 ∧ y0 ≤ IntKind.max IntKind.i64) then
    some (y0)
  else none := by kernel_rfl
theorem f196_eq (k : Nat) (p0 : Int) : f196 (k + 1) p0 =
  some (minmaxI false (minmaxI true p0 (0 : Int)) (1099511627776 : Int)) := by kernel_rfl
end Go.Proofs.YteiefdnhngfojaaGreatDoor.Tr
