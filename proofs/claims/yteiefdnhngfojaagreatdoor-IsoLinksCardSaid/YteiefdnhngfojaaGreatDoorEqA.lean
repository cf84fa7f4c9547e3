/-
  
-/
import Derived.Test.YteiefdnhngfojaaGreatDoorVmI
set_option linter.unusedVariables false
set_option maxRecDepth 100000
namespace Go.Proofs.YteiefdnhngfojaaGreatDoor.Tr
open Go Go.Proofs.YteiefdnhngfojaaGreatDoor.Vm Go.Proofs.YteiefdnhngfojaaGreatDoor.VmI
noncomputable def f3 (k : Nat) (p0 : Y24) (p1 : Y24) : Option (Bool) :=
  call info ext k 3 (tupT (Info.ps info 3)) (Info.res info 3) (p0, p1)
noncomputable def f7 (k : Nat) (p0 : ByteArray) (p1 : Int) (p2 : Int) : Option (Bool) :=
  call info ext k 7 (tupT (Info.ps info 7)) (Info.res info 7) (p0, p1, p2)
noncomputable def f18l1 (k : Nat) (i : Nat) (v4 : Int) (b0_0 : List Y45) (b0_1 : List Y41) : Option (Bool) :=
  from_ info ext k 18 [.r, .r, .l, .r, .b] i 0 ({ nt := nat_lit 44, lo := nat_lit 0, slot := lk [(nat_lit 1, V.c (C.box (nat_lit 0) (nat_lit 0))), (nat_lit 4, V.c (C.int IntKind.i64 v4))], box := lk [(nat_lit 0, { ty := nat_lit 25, cs := [C.lst (nat_lit 46) t45 b0_0, C.lst (nat_lit 42) t41 b0_1] })], row := lk [], used := fun k => Nat.blt k (nat_lit 1000) })
noncomputable def f18l0 (k : Nat) (i : Nat) (v3 : Int) (b0_0 : List Y45) (b0_1 : List Y41) : Option (Bool) :=
  from_ info ext k 18 [.r, .l, .r, .b] i 0 ({ nt := nat_lit 44, lo := nat_lit 0, slot := lk [(nat_lit 1, V.c (C.box (nat_lit 0) (nat_lit 0))), (nat_lit 3, V.c (C.int IntKind.i64 v3))], box := lk [(nat_lit 0, { ty := nat_lit 25, cs := [C.lst (nat_lit 46) t45 b0_0, C.lst (nat_lit 42) t41 b0_1] })], row := lk [], used := fun k => Nat.blt k (nat_lit 1000) })
noncomputable def f18 (k : Nat) (p0 : Y24) : Option (Bool) :=
  call info ext k 18 (tupT (Info.ps info 18)) (Info.res info 18) p0
noncomputable def f19 (k : Nat) : Option (Bool) :=
  call info ext k 19 (tupT (Info.ps info 19)) (Info.res info 19) true
noncomputable def f20l0 (k : Nat) (i : Nat) (v16 : List Y45) (v17 : Int) (v18 : Int) (b0_0 : List Y45) (b0_1 : List Y41) (b1_0 : List Y45) (b1_1 : List Y41) : Option (ByteArray × ByteArray) :=
  from_ info ext k 20 [.r, .r, .l, .r, .b] i 0 ({ nt := nat_lit 53, lo := nat_lit 0, slot := lk [(nat_lit 2, V.c (C.box (nat_lit 0) (nat_lit 0))), (nat_lit 3, V.c (C.box (nat_lit 1) (nat_lit 0))), (nat_lit 16, V.c (C.lst (nat_lit 46) t45 v16)), (nat_lit 17, V.c (C.int IntKind.i64 v17)), (nat_lit 18, V.c (C.int IntKind.i64 v18))], box := lk [(nat_lit 0, { ty := nat_lit 25, cs := [C.lst (nat_lit 46) t45 b0_0, C.lst (nat_lit 42) t41 b0_1] }), (nat_lit 1, { ty := nat_lit 25, cs := [C.lst (nat_lit 46) t45 b1_0, C.lst (nat_lit 42) t41 b1_1] })], row := lk [], used := fun k => Nat.blt k (nat_lit 1000) })
noncomputable def f20 (k : Nat) (p0 : Y24) (p1 : Y24) : Option (ByteArray × ByteArray) :=
  call info ext k 20 (tupT (Info.ps info 20)) (Info.res info 20) (p0, p1)
noncomputable def f21l0 (k : Nat) (i : Nat) (v6 : Int) (b0_0 : List Y45) (b0_1 : List Y41) (b1_0 : List Y45) (b1_1 : List Y41) : Option (ByteArray × ByteArray) :=
  from_ info ext k 21 [.r, .r, .l, .r, .b] i 0 ({ nt := nat_lit 62, lo := nat_lit 0, slot := lk [(nat_lit 2, V.c (C.box (nat_lit 0) (nat_lit 0))), (nat_lit 3, V.c (C.box (nat_lit 1) (nat_lit 0))), (nat_lit 6, V.c (C.int IntKind.i64 v6))], box := lk [(nat_lit 0, { ty := nat_lit 25, cs := [C.lst (nat_lit 46) t45 b0_0, C.lst (nat_lit 42) t41 b0_1] }), (nat_lit 1, { ty := nat_lit 25, cs := [C.lst (nat_lit 46) t45 b1_0, C.lst (nat_lit 42) t41 b1_1] })], row := lk [], used := fun k => Nat.blt k (nat_lit 1000) })
noncomputable def f21 (k : Nat) (p0 : Y24) (p1 : Y24) : Option (ByteArray × ByteArray) :=
  call info ext k 21 (tupT (Info.ps info 21)) (Info.res info 21) (p0, p1)
noncomputable def f22 (k : Nat) (p0 : Y24) (p1 : Y24) : Option (ByteArray) :=
  call info ext k 22 (tupT (Info.ps info 22)) (Info.res info 22) (p0, p1)
noncomputable def f23 (k : Nat) (p0 : Y24) (p1 : Y24) : Option (ByteArray) :=
  call info ext k 23 (tupT (Info.ps info 23)) (Info.res info 23) (p0, p1)
noncomputable def f24l0 (k : Nat) (i : Nat) (v12 : List Y45) (v13 : Int) (v14 : Int) (b0_0 : List Y45) (b0_1 : List Y41) (b1_0 : List Y45) (b1_1 : List Y41) : Option (ByteArray) :=
  from_ info ext k 24 [.r, .r, .l, .r, .b] i 0 ({ nt := nat_lit 39, lo := nat_lit 0, slot := lk [(nat_lit 2, V.c (C.box (nat_lit 0) (nat_lit 0))), (nat_lit 3, V.c (C.box (nat_lit 1) (nat_lit 0))), (nat_lit 12, V.c (C.lst (nat_lit 46) t45 v12)), (nat_lit 13, V.c (C.int IntKind.i64 v13)), (nat_lit 14, V.c (C.int IntKind.i64 v14))], box := lk [(nat_lit 0, { ty := nat_lit 25, cs := [C.lst (nat_lit 46) t45 b0_0, C.lst (nat_lit 42) t41 b0_1] }), (nat_lit 1, { ty := nat_lit 25, cs := [C.lst (nat_lit 46) t45 b1_0, C.lst (nat_lit 42) t41 b1_1] })], row := lk [], used := fun k => Nat.blt k (nat_lit 1000) })
noncomputable def f24 (k : Nat) (p0 : Y24) (p1 : Y24) : Option (ByteArray) :=
  call info ext k 24 (tupT (Info.ps info 24)) (Info.res info 24) (p0, p1)
noncomputable def f25l1 (k : Nat) (i0 : Nat) (i : Nat) (v5 : Int) (v6 : ByteArray) (v7 : Int) (v8 : Bool) (v9 : Int) (b0_0 : List Y45) (b0_1 : List Y41) (b1_0 : List Y45) (b1_1 : List Y41) : Option (ByteArray) :=
  from_ info ext k 25 [.r, .r, .l, .r, .b, .w i0, .r, .l, .b, .r, .r, .r, .b] i 0 ({ nt := nat_lit 81, lo := nat_lit 0, slot := lk [(nat_lit 2, V.c (C.box (nat_lit 0) (nat_lit 0))), (nat_lit 3, V.c (C.box (nat_lit 1) (nat_lit 0))), (nat_lit 5, V.c (C.int IntKind.i64 v5)), (nat_lit 6, V.c (C.str v6)), (nat_lit 7, V.c (C.int IntKind.i64 v7)), (nat_lit 8, V.c (C.bool v8)), (nat_lit 9, V.c (C.int IntKind.i64 v9))], box := lk [(nat_lit 0, { ty := nat_lit 25, cs := [C.lst (nat_lit 46) t45 b0_0, C.lst (nat_lit 42) t41 b0_1] }), (nat_lit 1, { ty := nat_lit 25, cs := [C.lst (nat_lit 46) t45 b1_0, C.lst (nat_lit 42) t41 b1_1] })], row := lk [], used := fun k => Nat.blt k (nat_lit 1000) })
noncomputable def f25l0 (k : Nat) (i : Nat) (v5 : Int) (b0_0 : List Y45) (b0_1 : List Y41) (b1_0 : List Y45) (b1_1 : List Y41) : Option (ByteArray) :=
  from_ info ext k 25 [.r, .r, .l, .r, .b] i 0 ({ nt := nat_lit 81, lo := nat_lit 0, slot := lk [(nat_lit 2, V.c (C.box (nat_lit 0) (nat_lit 0))), (nat_lit 3, V.c (C.box (nat_lit 1) (nat_lit 0))), (nat_lit 5, V.c (C.int IntKind.i64 v5))], box := lk [(nat_lit 0, { ty := nat_lit 25, cs := [C.lst (nat_lit 46) t45 b0_0, C.lst (nat_lit 42) t41 b0_1] }), (nat_lit 1, { ty := nat_lit 25, cs := [C.lst (nat_lit 46) t45 b1_0, C.lst (nat_lit 42) t41 b1_1] })], row := lk [], used := fun k => Nat.blt k (nat_lit 1000) })
noncomputable def f25 (k : Nat) (p0 : Y24) (p1 : Y24) : Option (ByteArray) :=
  call info ext k 25 (tupT (Info.ps info 25)) (Info.res info 25) (p0, p1)
noncomputable def f26 (k : Nat) (p0 : Y24) (p1 : Y24) : Option (Bool) :=
  call info ext k 26 (tupT (Info.ps info 26)) (Info.res info 26) (p0, p1)
noncomputable def f27 (k : Nat) (p0 : Y24) (p1 : Y24) : Option (Bool) :=
  call info ext k 27 (tupT (Info.ps info 27)) (Info.res info 27) (p0, p1)
noncomputable def f28 (k : Nat) (p0 : Y24) (p1 : Y24) : Option (Bool) :=
  call info ext k 28 (tupT (Info.ps info 28)) (Info.res info 28) (p0, p1)
noncomputable def f29 (k : Nat) (p0 : Y24) (p1 : Y24) : Option (Bool) :=
  call info ext k 29 (tupT (Info.ps info 29)) (Info.res info 29) (p0, p1)
noncomputable def f33l0 (k : Nat) (i : Nat) (v1 : ByteArray) (v6 : Int) (b0_0 : List Y45) (b0_1 : List Y41) : Option (Int × Bool) :=
  from_ info ext k 33 [.r, .l, .r, .b] i 0 ({ nt := nat_lit 28, lo := nat_lit 0, slot := lk [(nat_lit 1, V.c (C.str v1)), (nat_lit 2, V.c (C.box (nat_lit 0) (nat_lit 0))), (nat_lit 6, V.c (C.int IntKind.i64 v6))], box := lk [(nat_lit 0, { ty := nat_lit 25, cs := [C.lst (nat_lit 46) t45 b0_0, C.lst (nat_lit 42) t41 b0_1] })], row := lk [], used := fun k => Nat.blt k (nat_lit 1000) })
noncomputable def f33 (k : Nat) (p0 : Y24) (p1 : ByteArray) : Option (Int × Bool) :=
  call info ext k 33 (tupT (Info.ps info 33)) (Info.res info 33) (p0, p1)
noncomputable def f34 (k : Nat) (p0 : Y41) (p1 : Int) (p2 : ByteArray) : Option (Y41 × Int) :=
  call info ext k 34 (tupT (Info.ps info 34)) (Info.res info 34) (p0, p1, p2)
noncomputable def f40 (k : Nat) (p0 : ByteArray) : Option (ByteArray × Bool) :=
  call info ext k 40 (tupT (Info.ps info 40)) (Info.res info 40) p0
noncomputable def f42l1 (k : Nat) (i : Nat) (v11 : Int) (b0_0 : List Y45) (b0_1 : List Y41) (r0 : List Int) : Option (Bool) :=
  from_ info ext k 42 [.r, .r, .r, .r, .r, .l, .r, .b] i 0 ({ nt := nat_lit 182, lo := nat_lit 0, slot := lk [(nat_lit 1, V.c (C.box (nat_lit 0) (nat_lit 0))), (nat_lit 4, V.c (C.row (nat_lit 500))), (nat_lit 11, V.c (C.int IntKind.i64 v11))], box := lk [(nat_lit 0, { ty := nat_lit 25, cs := [C.lst (nat_lit 46) t45 b0_0, C.lst (nat_lit 42) t41 b0_1] })], row := lk [(nat_lit 500, { e := nat_lit 3, t := Ty.int IntKind.i64, xs := r0, fz := false })], used := fun k => Nat.blt k (nat_lit 1000) })
noncomputable def f42l0 (k : Nat) (i : Nat) (v3 : Int) (v5 : Int) (b0_0 : List Y45) (b0_1 : List Y41) (r0 : List Int) : Option (Bool) :=
  from_ info ext k 42 [.r, .r, .r, .r, .l, .r, .b] i 0 ({ nt := nat_lit 182, lo := nat_lit 0, slot := lk [(nat_lit 1, V.c (C.box (nat_lit 0) (nat_lit 0))), (nat_lit 3, V.c (C.int IntKind.i64 v3)), (nat_lit 4, V.c (C.row (nat_lit 500))), (nat_lit 5, V.c (C.int IntKind.i64 v5))], box := lk [(nat_lit 0, { ty := nat_lit 25, cs := [C.lst (nat_lit 46) t45 b0_0, C.lst (nat_lit 42) t41 b0_1] })], row := lk [(nat_lit 500, { e := nat_lit 3, t := Ty.int IntKind.i64, xs := r0, fz := false })], used := fun k => Nat.blt k (nat_lit 1000) })
noncomputable def f42 (k : Nat) (p0 : Y24) : Option (Bool) :=
  call info ext k 42 (tupT (Info.ps info 42)) (Info.res info 42) p0
noncomputable def f47l0 (k : Nat) (i : Nat) (v1 : ByteArray) (v9 : List Y45) (v10 : Int) (v11 : Int) : Option (Int × Bool) :=
  from_ info ext k 47 [.r, .l, .r, .b] i 0 ({ nt := nat_lit 22, lo := nat_lit 0, slot := lk [(nat_lit 1, V.c (C.str v1)), (nat_lit 9, V.c (C.lst (nat_lit 46) t45 v9)), (nat_lit 10, V.c (C.int IntKind.i64 v10)), (nat_lit 11, V.c (C.int IntKind.i64 v11))], box := lk [], row := lk [], used := fun k => Nat.blt k (nat_lit 1000) })
noncomputable def f47 (k : Nat) (p0 : Y24) (p1 : ByteArray) : Option (Int × Bool) :=
  call info ext k 47 (tupT (Info.ps info 47)) (Info.res info 47) (p0, p1)
noncomputable def f48g0 (k : Nat) (i : Nat) (v3 : Int) (v5 : Int) (b0_0 : List Y45) (b0_1 : List Y41) (r0 : List Int) : Option (Bool) :=
  from_ info ext k 48 [.r] i 0 ({ nt := nat_lit 135, lo := nat_lit 0, slot := lk [(nat_lit 1, V.c (C.box (nat_lit 0) (nat_lit 0))), (nat_lit 3, V.c (C.int IntKind.i64 v3)), (nat_lit 4, V.c (C.row (nat_lit 500))), (nat_lit 5, V.c (C.int IntKind.i64 v5))], box := lk [(nat_lit 0, { ty := nat_lit 25, cs := [C.lst (nat_lit 46) t45 b0_0, C.lst (nat_lit 42) t41 b0_1] })], row := lk [(nat_lit 500, { e := nat_lit 3, t := Ty.int IntKind.i64, xs := r0, fz := false })], used := fun k => Nat.blt k (nat_lit 1000) })
noncomputable def f48 (k : Nat) (p0 : Y24) : Option (Bool) :=
  call info ext k 48 (tupT (Info.ps info 48)) (Info.res info 48) p0
noncomputable def f54l0 (k : Nat) (i : Nat) (v5 : Int) (v19 : List Y45) (v20 : Int) (v21 : Int) (r0 : List ByteArray) : Option (List ByteArray) :=
  from_ info ext k 54 [.r, .r, .r, .r, .l, .r, .b] i 0 ({ nt := nat_lit 36, lo := nat_lit 0, slot := lk [(nat_lit 5, V.c (C.int IntKind.i64 v5)), (nat_lit 7, V.c (C.row (nat_lit 500))), (nat_lit 19, V.c (C.lst (nat_lit 46) t45 v19)), (nat_lit 20, V.c (C.int IntKind.i64 v20)), (nat_lit 21, V.c (C.int IntKind.i64 v21))], box := lk [], row := lk [(nat_lit 500, { e := nat_lit 9, t := Ty.str, xs := r0, fz := false })], used := fun k => Nat.blt k (nat_lit 1000) })
noncomputable def f54 (k : Nat) (p0 : Y24) (p1 : ByteArray) : Option (List ByteArray) :=
  call info ext k 54 (tupT (Info.ps info 54)) (Info.res info 54) (p0, p1)
noncomputable def f59l0 (k : Nat) (i : Nat) (v5 : List ByteArray) (v6 : List ByteArray) (v7 : Int) : Option (Bool) :=
  from_ info ext k 59 [.r, .r, .l, .r, .b] i 0 ({ nt := nat_lit 47, lo := nat_lit 0, slot := lk [(nat_lit 5, V.c (C.lst (nat_lit 9) Ty.str v5)), (nat_lit 6, V.c (C.lst (nat_lit 9) Ty.str v6)), (nat_lit 7, V.c (C.int IntKind.i64 v7))], box := lk [], row := lk [], used := fun k => Nat.blt k (nat_lit 1000) })
noncomputable def f59 (k : Nat) (p0 : ByteArray) (p1 : ByteArray) : Option (Bool) :=
  call info ext k 59 (tupT (Info.ps info 59)) (Info.res info 59) (p0, p1)
noncomputable def f61l0 (k : Nat) (i : Nat) (v3 : Int) (b0_0 : Int) (b0_1 : Int) (b0_2 : Int) (b0_3 : Int) (b0_4 : Int) (b0_5 : List Y43) (b0_6 : List Y83) (b0_7 : Int) (b0_8 : List Y87) (b0_9 : ByteArray) (b0_10 : Int) (b0_11 : Int) : Option (Bool) :=
  from_ info ext k 61 [.r, .l, .r, .b] i 0 ({ nt := nat_lit 34, lo := nat_lit 0, slot := lk [(nat_lit 1, V.c (C.box (nat_lit 0) (nat_lit 0))), (nat_lit 3, V.c (C.int IntKind.i64 v3))], box := lk [(nat_lit 0, { ty := nat_lit 42, cs := [C.int IntKind.i64 b0_0, C.int IntKind.i64 b0_1, C.int IntKind.i64 b0_2, C.int IntKind.i64 b0_3, C.int IntKind.i64 b0_4, C.lst (nat_lit 44) t43 b0_5, C.lst (nat_lit 84) t83 b0_6, C.int IntKind.i64 b0_7, C.lst (nat_lit 88) t87 b0_8, C.str b0_9, C.int IntKind.i64 b0_10, C.int IntKind.i64 b0_11] })], row := lk [], used := fun k => Nat.blt k (nat_lit 1000) })
noncomputable def f61 (k : Nat) (p0 : Y41) : Option (Bool) :=
  call info ext k 61 (tupT (Info.ps info 61)) (Info.res info 61) p0
noncomputable def f62 (k : Nat) (p0 : Y24) (p1 : Y24) : Option (Bool) :=
  call info ext k 62 (tupT (Info.ps info 62)) (Info.res info 62) (p0, p1)
noncomputable def f63 (k : Nat) (p0 : Y41) (p1 : Y41) : Option (ByteArray) :=
  call info ext k 63 (tupT (Info.ps info 63)) (Info.res info 63) (p0, p1)
noncomputable def f64 (k : Nat) (p0 : Y41) (p1 : Y41) : Option (ByteArray) :=
  call info ext k 64 (tupT (Info.ps info 64)) (Info.res info 64) (p0, p1)
noncomputable def f65g0 (k : Nat) (i : Nat) (v5 : Int) (b0_0 : List Y45) (b0_1 : List Y41) (b1_0 : List Y45) (b1_1 : List Y41) : Option (ByteArray) :=
  from_ info ext k 65 [.r] i 0 ({ nt := nat_lit 25, lo := nat_lit 0, slot := lk [(nat_lit 2, V.c (C.box (nat_lit 0) (nat_lit 0))), (nat_lit 3, V.c (C.box (nat_lit 1) (nat_lit 0))), (nat_lit 5, V.c (C.int IntKind.i64 v5))], box := lk [(nat_lit 0, { ty := nat_lit 25, cs := [C.lst (nat_lit 46) t45 b0_0, C.lst (nat_lit 42) t41 b0_1] }), (nat_lit 1, { ty := nat_lit 25, cs := [C.lst (nat_lit 46) t45 b1_0, C.lst (nat_lit 42) t41 b1_1] })], row := lk [], used := fun k => Nat.blt k (nat_lit 1000) })
noncomputable def f65 (k : Nat) (p0 : Y24) (p1 : Y24) : Option (ByteArray) :=
  call info ext k 65 (tupT (Info.ps info 65)) (Info.res info 65) (p0, p1)
noncomputable def f66 (k : Nat) (p0 : ByteArray) (p1 : ByteArray) : Option (Bool) :=
  call info ext k 66 (tupT (Info.ps info 66)) (Info.res info 66) (p0, p1)
noncomputable def f67l0 (k : Nat) (i : Nat) (v5 : Int) (b0_0 : List Y45) (b0_1 : List Y41) (b1_0 : List Y45) (b1_1 : List Y41) : Option (ByteArray) :=
  from_ info ext k 67 [.r, .l, .r, .b] i 0 ({ nt := nat_lit 34, lo := nat_lit 0, slot := lk [(nat_lit 2, V.c (C.box (nat_lit 0) (nat_lit 0))), (nat_lit 3, V.c (C.box (nat_lit 1) (nat_lit 0))), (nat_lit 5, V.c (C.int IntKind.i64 v5))], box := lk [(nat_lit 0, { ty := nat_lit 25, cs := [C.lst (nat_lit 46) t45 b0_0, C.lst (nat_lit 42) t41 b0_1] }), (nat_lit 1, { ty := nat_lit 25, cs := [C.lst (nat_lit 46) t45 b1_0, C.lst (nat_lit 42) t41 b1_1] })], row := lk [], used := fun k => Nat.blt k (nat_lit 1000) })
noncomputable def f67 (k : Nat) (p0 : Y24) (p1 : Y24) : Option (ByteArray) :=
  call info ext k 67 (tupT (Info.ps info 67)) (Info.res info 67) (p0, p1)
noncomputable def f68 (k : Nat) (p0 : Y24) (p1 : ByteArray) : Option (Bool) :=
  call info ext k 68 (tupT (Info.ps info 68)) (Info.res info 68) (p0, p1)
noncomputable def f69l0 (k : Nat) (i : Nat) (v0 : List ByteArray) (v1 : List ByteArray) (v12 : Int) (v13 : Int) : Option (Bool) :=
  from_ info ext k 69 [.r, .r, .l, .r, .b] i 0 ({ nt := nat_lit 26, lo := nat_lit 0, slot := lk [(nat_lit 0, V.c (C.lst (nat_lit 9) Ty.str v0)), (nat_lit 1, V.c (C.lst (nat_lit 9) Ty.str v1)), (nat_lit 12, V.c (C.int IntKind.i64 v12)), (nat_lit 13, V.c (C.int IntKind.i64 v13))], box := lk [], row := lk [], used := fun k => Nat.blt k (nat_lit 1000) })
noncomputable def f69 (k : Nat) (p0 : List ByteArray) (p1 : List ByteArray) : Option (Bool) :=
  call info ext k 69 (tupT (Info.ps info 69)) (Info.res info 69) (p0, p1)
noncomputable def f70 (k : Nat) (p0 : Y24) (p1 : Y24) (p2 : ByteArray) : Option (List ByteArray) :=
  call info ext k 70 (tupT (Info.ps info 70)) (Info.res info 70) (p0, p1, p2)
noncomputable def f73l0 (k : Nat) (i : Nat) (v3 : Bool) (v5 : Bool) (v6 : Int) (b0_0 : Int) (b0_1 : Int) (b0_2 : Int) (b0_3 : Int) (b0_4 : Int) (b0_5 : List Y43) (b0_6 : List Y83) (b0_7 : Int) (b0_8 : List Y87) (b0_9 : ByteArray) (b0_10 : Int) (b0_11 : Int) : Option (Bool) :=
  from_ info ext k 73 [.r, .r, .r, .r, .r, .l, .r, .b, .r, .e, .r, .e, .r, .t, .l, .r, .b] i 0 ({ nt := nat_lit 110, lo := nat_lit 0, slot := lk [(nat_lit 1, V.c (C.box (nat_lit 0) (nat_lit 0))), (nat_lit 3, V.c (C.bool v3)), (nat_lit 5, V.c (C.bool v5)), (nat_lit 6, V.c (C.int IntKind.i64 v6))], box := lk [(nat_lit 0, { ty := nat_lit 42, cs := [C.int IntKind.i64 b0_0, C.int IntKind.i64 b0_1, C.int IntKind.i64 b0_2, C.int IntKind.i64 b0_3, C.int IntKind.i64 b0_4, C.lst (nat_lit 44) t43 b0_5, C.lst (nat_lit 84) t83 b0_6, C.int IntKind.i64 b0_7, C.lst (nat_lit 88) t87 b0_8, C.str b0_9, C.int IntKind.i64 b0_10, C.int IntKind.i64 b0_11] })], row := lk [], used := fun k => Nat.blt k (nat_lit 1000) })
noncomputable def f73 (k : Nat) (p0 : Y41) : Option (Bool) :=
  call info ext k 73 (tupT (Info.ps info 73)) (Info.res info 73) p0
noncomputable def f74l0 (k : Nat) (i : Nat) (v0 : List Y87) (v1 : Int) (v2 : Int) (v8 : Int) (r0 : List Y87) : Option (List Y87) :=
  from_ info ext k 74 [.r, .r, .l, .r, .b] i 0 ({ nt := nat_lit 67, lo := nat_lit 0, slot := lk [(nat_lit 0, V.c (C.lst (nat_lit 88) t87 v0)), (nat_lit 1, V.c (C.int IntKind.i64 v1)), (nat_lit 2, V.c (C.int IntKind.i64 v2)), (nat_lit 7, V.c (C.row (nat_lit 500))), (nat_lit 8, V.c (C.int IntKind.i64 v8))], box := lk [], row := lk [(nat_lit 500, { e := nat_lit 88, t := t87, xs := r0, fz := false })], used := fun k => Nat.blt k (nat_lit 1000) })
noncomputable def f74 (k : Nat) (p0 : List Y87) (p1 : Int) (p2 : Int) : Option (List Y87) :=
  call info ext k 74 (tupT (Info.ps info 74)) (Info.res info 74) (p0, p1, p2)
noncomputable def f75l0 (k : Nat) (i : Nat) (v0 : List Y87) (v4 : Int) (r0 : List Y87) : Option (List Y87) :=
  from_ info ext k 75 [.r, .r, .l, .r, .b] i 0 ({ nt := nat_lit 60, lo := nat_lit 0, slot := lk [(nat_lit 0, V.c (C.lst (nat_lit 88) t87 v0)), (nat_lit 3, V.c (C.row (nat_lit 500))), (nat_lit 4, V.c (C.int IntKind.i64 v4))], box := lk [], row := lk [(nat_lit 500, { e := nat_lit 88, t := t87, xs := r0, fz := false })], used := fun k => Nat.blt k (nat_lit 1000) })
noncomputable def f75 (k : Nat) (p0 : List Y87) : Option (List Y87) :=
  call info ext k 75 (tupT (Info.ps info 75)) (Info.res info 75) p0
noncomputable def f76l0 (k : Nat) (i : Nat) (v3 : Int) (v4 : Int) (b0_0 : Int) (b0_1 : Int) (b0_2 : Int) (b0_3 : Int) (b0_4 : Int) (b0_5 : List Y43) (b0_6 : List Y83) (b0_7 : Int) (b0_8 : List Y87) (b0_9 : ByteArray) (b0_10 : Int) (b0_11 : Int) : Option (Int) :=
  from_ info ext k 76 [.r, .r, .l, .r, .b] i 0 ({ nt := nat_lit 22, lo := nat_lit 0, slot := lk [(nat_lit 1, V.c (C.box (nat_lit 0) (nat_lit 0))), (nat_lit 3, V.c (C.int IntKind.i64 v3)), (nat_lit 4, V.c (C.int IntKind.i64 v4))], box := lk [(nat_lit 0, { ty := nat_lit 42, cs := [C.int IntKind.i64 b0_0, C.int IntKind.i64 b0_1, C.int IntKind.i64 b0_2, C.int IntKind.i64 b0_3, C.int IntKind.i64 b0_4, C.lst (nat_lit 44) t43 b0_5, C.lst (nat_lit 84) t83 b0_6, C.int IntKind.i64 b0_7, C.lst (nat_lit 88) t87 b0_8, C.str b0_9, C.int IntKind.i64 b0_10, C.int IntKind.i64 b0_11] })], row := lk [], used := fun k => Nat.blt k (nat_lit 1000) })
noncomputable def f76 (k : Nat) (p0 : Y41) : Option (Int) :=
  call info ext k 76 (tupT (Info.ps info 76)) (Info.res info 76) p0
noncomputable def f81 (k : Nat) (p0 : Int) (p1 : Int) : Option (Int) :=
  call info ext k 81 (tupT (Info.ps info 81)) (Info.res info 81) (p0, p1)
noncomputable def f87 (k : Nat) (p0 : ByteArray) : Option (List ByteArray) :=
  call info ext k 87 (tupT (Info.ps info 87)) (Info.res info 87) p0
noncomputable def f88l0 (k : Nat) (i : Nat) (v0 : ByteArray) (v3 : List ByteArray) (v4 : Int) : Option (Bool) :=
  from_ info ext k 88 [.r, .r, .r, .l, .r, .b] i 0 ({ nt := nat_lit 29, lo := nat_lit 0, slot := lk [(nat_lit 0, V.c (C.str v0)), (nat_lit 3, V.c (C.lst (nat_lit 9) Ty.str v3)), (nat_lit 4, V.c (C.int IntKind.i64 v4))], box := lk [], row := lk [], used := fun k => Nat.blt k (nat_lit 1000) })
noncomputable def f88 (k : Nat) (p0 : ByteArray) : Option (Bool) :=
  call info ext k 88 (tupT (Info.ps info 88)) (Info.res info 88) p0
noncomputable def f91 (k : Nat) (p0 : Y45) (p1 : Y45) : Option (Int) :=
  call info ext k 91 (tupT (Info.ps info 91)) (Info.res info 91) (p0, p1)
noncomputable def f94 (k : Nat) (p0 : ByteArray) : Option (ByteArray × Bool) :=
  call info ext k 94 (tupT (Info.ps info 94)) (Info.res info 94) p0
noncomputable def f95_96 (k : Nat) (p0 : List Y41) : Option (Bool) :=
  call info ext k 95 (tupT (Info.ps info 95)) (Info.res info 95) (p0, nat_lit 96)
noncomputable def f96 (k : Nat) (p0 : Y41) : Option (Bool) :=
  call info ext k 96 (tupT (Info.ps info 96)) (Info.res info 96) p0
noncomputable def f97 (k : Nat) (p0 : Y41) : Option (Bool) :=
  call info ext k 97 (tupT (Info.ps info 97)) (Info.res info 97) p0
noncomputable def f98g0 (k : Nat) (i : Nat) (v3 : List ByteArray) (v4 : Int) : Option (Bool) :=
  from_ info ext k 98 [.r] i 0 ({ nt := nat_lit 29, lo := nat_lit 0, slot := lk [(nat_lit 3, V.c (C.lst (nat_lit 9) Ty.str v3)), (nat_lit 4, V.c (C.int IntKind.i64 v4))], box := lk [], row := lk [], used := fun k => Nat.blt k (nat_lit 1000) })
noncomputable def f98 (k : Nat) (p0 : ByteArray) : Option (Bool) :=
  call info ext k 98 (tupT (Info.ps info 98)) (Info.res info 98) p0
noncomputable def f99 (k : Nat) (p0 : Y24) (p1 : Int) : Option (Bool) :=
  call info ext k 99 (tupT (Info.ps info 99)) (Info.res info 99) (p0, p1)
noncomputable def f105g0 (k : Nat) (i : Nat) (v3 : Int) (v4 : Int) (b0_0 : Int) (b0_1 : Int) (b0_2 : Int) (b0_3 : Int) (b0_4 : Int) (b0_5 : List Y43) (b0_6 : List Y83) (b0_7 : Int) (b0_8 : List Y87) (b0_9 : ByteArray) (b0_10 : Int) (b0_11 : Int) : Option (Int) :=
  from_ info ext k 105 [.r] i 0 ({ nt := nat_lit 22, lo := nat_lit 0, slot := lk [(nat_lit 1, V.c (C.box (nat_lit 0) (nat_lit 0))), (nat_lit 3, V.c (C.int IntKind.i64 v3)), (nat_lit 4, V.c (C.int IntKind.i64 v4))], box := lk [(nat_lit 0, { ty := nat_lit 42, cs := [C.int IntKind.i64 b0_0, C.int IntKind.i64 b0_1, C.int IntKind.i64 b0_2, C.int IntKind.i64 b0_3, C.int IntKind.i64 b0_4, C.lst (nat_lit 44) t43 b0_5, C.lst (nat_lit 84) t83 b0_6, C.int IntKind.i64 b0_7, C.lst (nat_lit 88) t87 b0_8, C.str b0_9, C.int IntKind.i64 b0_10, C.int IntKind.i64 b0_11] })], row := lk [], used := fun k => Nat.blt k (nat_lit 1000) })
noncomputable def f105 (k : Nat) (p0 : Y41) : Option (Int) :=
  call info ext k 105 (tupT (Info.ps info 105)) (Info.res info 105) p0
noncomputable def f106l0 (k : Nat) (i : Nat) (v0 : ByteArray) (v3 : Int) : Option (Bool) :=
  from_ info ext k 106 [.r, .l, .r, .b] i 0 ({ nt := nat_lit 36, lo := nat_lit 0, slot := lk [(nat_lit 0, V.c (C.str v0)), (nat_lit 3, V.c (C.int IntKind.i64 v3))], box := lk [], row := lk [], used := fun k => Nat.blt k (nat_lit 1000) })
noncomputable def f106 (k : Nat) (p0 : ByteArray) : Option (Bool) :=
  call info ext k 106 (tupT (Info.ps info 106)) (Info.res info 106) p0
noncomputable def f107l0 (k : Nat) (i : Nat) (v3 : Int) (b0_0 : Int) (b0_1 : Int) (b0_2 : Int) (b0_3 : Int) (b0_4 : List Y43) (b0_5 : List Y83) : Option (Bool) :=
  from_ info ext k 107 [.r, .l, .r, .b] i 0 ({ nt := nat_lit 39, lo := nat_lit 0, slot := lk [(nat_lit 1, V.c (C.box (nat_lit 0) (nat_lit 0))), (nat_lit 3, V.c (C.int IntKind.i64 v3))], box := lk [(nat_lit 0, { ty := nat_lit 39, cs := [C.int IntKind.i64 b0_0, C.int IntKind.i64 b0_1, C.int IntKind.i64 b0_2, C.int IntKind.i64 b0_3, C.lst (nat_lit 44) t43 b0_4, C.lst (nat_lit 84) t83 b0_5] })], row := lk [], used := fun k => Nat.blt k (nat_lit 1000) })
noncomputable def f107 (k : Nat) (p0 : Y38) : Option (Bool) :=
  call info ext k 107 (tupT (Info.ps info 107)) (Info.res info 107) p0
noncomputable def f108 (k : Nat) (p0 : Y38) (p1 : Y38) : Option (ByteArray) :=
  call info ext k 108 (tupT (Info.ps info 108)) (Info.res info 108) (p0, p1)
noncomputable def f109l0 (k : Nat) (i : Nat) (v0 : List Y87) (v1 : List Y87) (v12 : Int) (v13 : Int) : Option (Bool) :=
  from_ info ext k 109 [.r, .r, .l, .r, .b] i 0 ({ nt := nat_lit 26, lo := nat_lit 0, slot := lk [(nat_lit 0, V.c (C.lst (nat_lit 88) t87 v0)), (nat_lit 1, V.c (C.lst (nat_lit 88) t87 v1)), (nat_lit 12, V.c (C.int IntKind.i64 v12)), (nat_lit 13, V.c (C.int IntKind.i64 v13))], box := lk [], row := lk [], used := fun k => Nat.blt k (nat_lit 1000) })
noncomputable def f109 (k : Nat) (p0 : List Y87) (p1 : List Y87) : Option (Bool) :=
  call info ext k 109 (tupT (Info.ps info 109)) (Info.res info 109) (p0, p1)
noncomputable def f110 (k : Nat) (p0 : Y38) (p1 : Y38) : Option (ByteArray) :=
  call info ext k 110 (tupT (Info.ps info 110)) (Info.res info 110) (p0, p1)
noncomputable def f111l0 (k : Nat) (i : Nat) (v0 : List Y87) (v1 : List Y87) (v5 : Int) : Option (Bool) :=
  from_ info ext k 111 [.r, .r, .l, .r, .b] i 0 ({ nt := nat_lit 26, lo := nat_lit 0, slot := lk [(nat_lit 0, V.c (C.lst (nat_lit 88) t87 v0)), (nat_lit 1, V.c (C.lst (nat_lit 88) t87 v1)), (nat_lit 5, V.c (C.int IntKind.i64 v5))], box := lk [], row := lk [], used := fun k => Nat.blt k (nat_lit 1000) })
noncomputable def f111 (k : Nat) (p0 : List Y87) (p1 : List Y87) : Option (Bool) :=
  call info ext k 111 (tupT (Info.ps info 111)) (Info.res info 111) (p0, p1)
noncomputable def f112 (k : Nat) (p0 : ByteArray) (p1 : ByteArray) : Option (Int) :=
  call info ext k 112 (tupT (Info.ps info 112)) (Info.res info 112) (p0, p1)
noncomputable def f113_114l0 (k : Nat) (i : Nat) (v1 : Y24) (v5 : Int) (v6 : Int) (r0 : List ByteArray) : Option (List ByteArray) :=
  from_ info ext k 113 [.r, .r, .r, .l, .r, .b] i 0 ({ nt := nat_lit 42, lo := nat_lit 0, slot := lk [(nat_lit 0, V.c (C.row (nat_lit 500))), (nat_lit 1, V.c (C.fns (nat_lit 114) t24 v1)), (nat_lit 5, V.c (C.int IntKind.i64 v5)), (nat_lit 6, V.c (C.int IntKind.i64 v6))], box := lk [], row := lk [(nat_lit 500, { e := nat_lit 9, t := Ty.str, xs := r0, fz := false })], used := fun k => Nat.blt k (nat_lit 1000) })
noncomputable def f113_114 (k : Nat) (p0 : List ByteArray) (p1 : Y24) : Option (List ByteArray) :=
  call info ext k 113 (tupT (Info.ps info 113)) (Info.res info 113) (p0, nat_lit 114, p1)
noncomputable def f114 (k : Nat) (p0 : ByteArray) (p1 : Y24) : Option (Bool) :=
  call info ext k 114 (tupT (Info.ps info 114)) (Info.res info 114) (p0, p1)
noncomputable def f115l0 (k : Nat) (i : Nat) (v3 : Int) (b0_0 : Int) (b0_1 : Int) (b0_2 : Int) (b0_3 : Int) (b0_4 : List Y43) (b0_5 : List Y83) : Option (Bool) :=
  from_ info ext k 115 [.r, .l, .r, .b] i 0 ({ nt := nat_lit 82, lo := nat_lit 0, slot := lk [(nat_lit 1, V.c (C.box (nat_lit 0) (nat_lit 0))), (nat_lit 3, V.c (C.int IntKind.i64 v3))], box := lk [(nat_lit 0, { ty := nat_lit 39, cs := [C.int IntKind.i64 b0_0, C.int IntKind.i64 b0_1, C.int IntKind.i64 b0_2, C.int IntKind.i64 b0_3, C.lst (nat_lit 44) t43 b0_4, C.lst (nat_lit 84) t83 b0_5] })], row := lk [], used := fun k => Nat.blt k (nat_lit 1000) })
noncomputable def f115 (k : Nat) (p0 : Y38) : Option (Bool) :=
  call info ext k 115 (tupT (Info.ps info 115)) (Info.res info 115) p0
noncomputable def f116l0 (k : Nat) (i : Nat) (v3 : Int) (b0_0 : Int) (b0_1 : Int) (b0_2 : Int) (b0_3 : Int) (b0_4 : Int) (b0_5 : List Y43) (b0_6 : List Y83) (b0_7 : Int) (b0_8 : List Y87) (b0_9 : ByteArray) (b0_10 : Int) (b0_11 : Int) : Option (Bool) :=
  from_ info ext k 116 [.r, .l, .r, .b] i 0 ({ nt := nat_lit 63, lo := nat_lit 0, slot := lk [(nat_lit 1, V.c (C.box (nat_lit 0) (nat_lit 0))), (nat_lit 3, V.c (C.int IntKind.i64 v3))], box := lk [(nat_lit 0, { ty := nat_lit 42, cs := [C.int IntKind.i64 b0_0, C.int IntKind.i64 b0_1, C.int IntKind.i64 b0_2, C.int IntKind.i64 b0_3, C.int IntKind.i64 b0_4, C.lst (nat_lit 44) t43 b0_5, C.lst (nat_lit 84) t83 b0_6, C.int IntKind.i64 b0_7, C.lst (nat_lit 88) t87 b0_8, C.str b0_9, C.int IntKind.i64 b0_10, C.int IntKind.i64 b0_11] })], row := lk [], used := fun k => Nat.blt k (nat_lit 1000) })
noncomputable def f116 (k : Nat) (p0 : Y41) : Option (Bool) :=
  call info ext k 116 (tupT (Info.ps info 116)) (Info.res info 116) p0
noncomputable def f118 (k : Nat) (p0 : Int) : Option (Bool) :=
  call info ext k 118 (tupT (Info.ps info 118)) (Info.res info 118) p0
noncomputable def f119 (k : Nat) (p0 : ByteArray) : Option (List ByteArray) :=
  call info ext k 119 (tupT (Info.ps info 119)) (Info.res info 119) p0
noncomputable def f120l0 (k : Nat) (i : Nat) (v0 : ByteArray) (v4 : Int) (v5 : Int) (r0 : List ByteArray) : Option (List ByteArray) :=
  from_ info ext k 120 [.r, .r, .r, .l, .r, .b] i 0 ({ nt := nat_lit 32, lo := nat_lit 0, slot := lk [(nat_lit 0, V.c (C.str v0)), (nat_lit 3, V.c (C.row (nat_lit 500))), (nat_lit 4, V.c (C.int IntKind.i64 v4)), (nat_lit 5, V.c (C.int IntKind.i64 v5))], box := lk [], row := lk [(nat_lit 500, { e := nat_lit 9, t := Ty.str, xs := r0, fz := false })], used := fun k => Nat.blt k (nat_lit 1000) })
noncomputable def f120 (k : Nat) (p0 : ByteArray) : Option (List ByteArray) :=
  call info ext k 120 (tupT (Info.ps info 120)) (Info.res info 120) p0
noncomputable def f125 (k : Nat) (p0 : ByteArray) : Option (ByteArray × ByteArray × Bool) :=
  call info ext k 125 (tupT (Info.ps info 125)) (Info.res info 125) p0
noncomputable def f126_96l0 (k : Nat) (i : Nat) (v0 : List Y41) (v7 : Int) (v8 : Int) : Option (Int) :=
  from_ info ext k 126 [.r, .l, .r, .b] i 0 ({ nt := nat_lit 19, lo := nat_lit 0, slot := lk [(nat_lit 0, V.c (C.lst (nat_lit 42) t41 v0)), (nat_lit 1, V.c (C.fn (nat_lit 96))), (nat_lit 7, V.c (C.int IntKind.i64 v7)), (nat_lit 8, V.c (C.int IntKind.i64 v8))], box := lk [], row := lk [], used := fun k => Nat.blt k (nat_lit 1000) })
noncomputable def f126_96 (k : Nat) (p0 : List Y41) : Option (Int) :=
  call info ext k 126 (tupT (Info.ps info 126)) (Info.res info 126) (p0, nat_lit 96)
noncomputable def f127g0 (k : Nat) (i : Nat) (v3 : Int) (b0_0 : Int) (b0_1 : Int) (b0_2 : Int) (b0_3 : Int) (b0_4 : List Y43) (b0_5 : List Y83) : Option (Bool) :=
  from_ info ext k 127 [.r] i 0 ({ nt := nat_lit 79, lo := nat_lit 0, slot := lk [(nat_lit 1, V.c (C.box (nat_lit 0) (nat_lit 0))), (nat_lit 3, V.c (C.int IntKind.i64 v3))], box := lk [(nat_lit 0, { ty := nat_lit 39, cs := [C.int IntKind.i64 b0_0, C.int IntKind.i64 b0_1, C.int IntKind.i64 b0_2, C.int IntKind.i64 b0_3, C.lst (nat_lit 44) t43 b0_4, C.lst (nat_lit 84) t83 b0_5] })], row := lk [], used := fun k => Nat.blt k (nat_lit 1000) })
noncomputable def f127 (k : Nat) (p0 : Y38) : Option (Bool) :=
  call info ext k 127 (tupT (Info.ps info 127)) (Info.res info 127) p0
noncomputable def f128 (k : Nat) (p0 : Y41) : Option (Bool) :=
  call info ext k 128 (tupT (Info.ps info 128)) (Info.res info 128) p0
noncomputable def f129 (k : Nat) (p0 : Y41) : Option (Bool) :=
  call info ext k 129 (tupT (Info.ps info 129)) (Info.res info 129) p0
noncomputable def f130 (k : Nat) (p0 : Y41) : Option (Bool) :=
  call info ext k 130 (tupT (Info.ps info 130)) (Info.res info 130) p0
noncomputable def f131 (k : Nat) (p0 : ByteArray) (p1 : ByteArray) : Option (List ByteArray) :=
  call info ext k 131 (tupT (Info.ps info 131)) (Info.res info 131) (p0, p1)
noncomputable def f132 (k : Nat) (p0 : ByteArray) : Option (Bool) :=
  call info ext k 132 (tupT (Info.ps info 132)) (Info.res info 132) p0
noncomputable def f133_134l0 (k : Nat) (i : Nat) (v0 : List Y45) (v1 : ByteArray) (v8 : Int) (v9 : Int) (v10 : Int) : Option (Int × Bool) :=
  from_ info ext k 133 [.r, .r, .r, .l, .b] i 0 ({ nt := nat_lit 49, lo := nat_lit 0, slot := lk [(nat_lit 0, V.c (C.lst (nat_lit 46) t45 v0)), (nat_lit 1, V.c (C.str v1)), (nat_lit 2, V.c (C.fn (nat_lit 134))), (nat_lit 8, V.c (C.int IntKind.i64 v8)), (nat_lit 9, V.c (C.int IntKind.i64 v9)), (nat_lit 10, V.c (C.int IntKind.i64 v10))], box := lk [], row := lk [], used := fun k => Nat.blt k (nat_lit 1000) })
noncomputable def f133_134 (k : Nat) (p0 : List Y45) (p1 : ByteArray) : Option (Int × Bool) :=
  call info ext k 133 (tupT (Info.ps info 133)) (Info.res info 133) (p0, p1, nat_lit 134)
noncomputable def f134 (k : Nat) (p0 : Y45) (p1 : ByteArray) : Option (Int) :=
  call info ext k 134 (tupT (Info.ps info 134)) (Info.res info 134) (p0, p1)
noncomputable def f135l0 (k : Nat) (i : Nat) (v0 : List Y43) (v1 : List Y43) (v12 : Int) (v13 : Int) : Option (Bool) :=
  from_ info ext k 135 [.r, .r, .l, .r, .b] i 0 ({ nt := nat_lit 26, lo := nat_lit 0, slot := lk [(nat_lit 0, V.c (C.lst (nat_lit 44) t43 v0)), (nat_lit 1, V.c (C.lst (nat_lit 44) t43 v1)), (nat_lit 12, V.c (C.int IntKind.i64 v12)), (nat_lit 13, V.c (C.int IntKind.i64 v13))], box := lk [], row := lk [], used := fun k => Nat.blt k (nat_lit 1000) })
noncomputable def f135 (k : Nat) (p0 : List Y43) (p1 : List Y43) : Option (Bool) :=
  call info ext k 135 (tupT (Info.ps info 135)) (Info.res info 135) (p0, p1)
noncomputable def f136 (k : Nat) (p0 : List Y83) (p1 : List Y83) : Option (Bool) :=
  call info ext k 136 (tupT (Info.ps info 136)) (Info.res info 136) (p0, p1)
noncomputable def f137l0 (k : Nat) (i : Nat) (v0 : List Y43) (v1 : List Y43) (v5 : Int) : Option (Bool) :=
  from_ info ext k 137 [.r, .r, .l, .r, .b] i 0 ({ nt := nat_lit 26, lo := nat_lit 0, slot := lk [(nat_lit 0, V.c (C.lst (nat_lit 44) t43 v0)), (nat_lit 1, V.c (C.lst (nat_lit 44) t43 v1)), (nat_lit 5, V.c (C.int IntKind.i64 v5))], box := lk [], row := lk [], used := fun k => Nat.blt k (nat_lit 1000) })
noncomputable def f137 (k : Nat) (p0 : List Y43) (p1 : List Y43) : Option (Bool) :=
  call info ext k 137 (tupT (Info.ps info 137)) (Info.res info 137) (p0, p1)
noncomputable def f138l0 (k : Nat) (i : Nat) (v0 : List Y83) (v1 : List Y83) (v5 : Int) : Option (Bool) :=
  from_ info ext k 138 [.r, .r, .l, .r, .b] i 0 ({ nt := nat_lit 26, lo := nat_lit 0, slot := lk [(nat_lit 0, V.c (C.lst (nat_lit 84) t83 v0)), (nat_lit 1, V.c (C.lst (nat_lit 84) t83 v1)), (nat_lit 5, V.c (C.int IntKind.i64 v5))], box := lk [], row := lk [], used := fun k => Nat.blt k (nat_lit 1000) })
noncomputable def f138 (k : Nat) (p0 : List Y83) (p1 : List Y83) : Option (Bool) :=
  call info ext k 138 (tupT (Info.ps info 138)) (Info.res info 138) (p0, p1)
noncomputable def f139l0 (k : Nat) (i : Nat) (v0 : List ByteArray) (v1 : List ByteArray) (v9 : List ByteArray) (v10 : Int) (v11 : Int) : Option (Int) :=
  from_ info ext k 139 [.r, .l, .r, .b] i 0 ({ nt := nat_lit 36, lo := nat_lit 0, slot := lk [(nat_lit 0, V.c (C.lst (nat_lit 9) Ty.str v0)), (nat_lit 1, V.c (C.lst (nat_lit 9) Ty.str v1)), (nat_lit 9, V.c (C.lst (nat_lit 9) Ty.str v9)), (nat_lit 10, V.c (C.int IntKind.i64 v10)), (nat_lit 11, V.c (C.int IntKind.i64 v11))], box := lk [], row := lk [], used := fun k => Nat.blt k (nat_lit 1000) })
noncomputable def f139 (k : Nat) (p0 : List ByteArray) (p1 : List ByteArray) : Option (Int) :=
  call info ext k 139 (tupT (Info.ps info 139)) (Info.res info 139) (p0, p1)
noncomputable def f140_114l0 (k : Nat) (i : Nat) (v0 : List ByteArray) (v1 : Y24) (v7 : Int) (v8 : Int) : Option (Int) :=
  from_ info ext k 140 [.r, .l, .r, .b] i 0 ({ nt := nat_lit 19, lo := nat_lit 0, slot := lk [(nat_lit 0, V.c (C.lst (nat_lit 9) Ty.str v0)), (nat_lit 1, V.c (C.fns (nat_lit 114) t24 v1)), (nat_lit 7, V.c (C.int IntKind.i64 v7)), (nat_lit 8, V.c (C.int IntKind.i64 v8))], box := lk [], row := lk [], used := fun k => Nat.blt k (nat_lit 1000) })
noncomputable def f140_114 (k : Nat) (p0 : List ByteArray) (p1 : Y24) : Option (Int) :=
  call info ext k 140 (tupT (Info.ps info 140)) (Info.res info 140) (p0, nat_lit 114, p1)
noncomputable def f141 (k : Nat) (p0 : Y43) : Option (Bool) :=
  call info ext k 141 (tupT (Info.ps info 141)) (Info.res info 141) p0
noncomputable def f142l0 (k : Nat) (i : Nat) (v0 : List Y83) (v3 : Int) : Option (Bool) :=
  from_ info ext k 142 [.r, .l, .r, .b] i 0 ({ nt := nat_lit 41, lo := nat_lit 0, slot := lk [(nat_lit 0, V.c (C.lst (nat_lit 84) t83 v0)), (nat_lit 3, V.c (C.int IntKind.i64 v3))], box := lk [], row := lk [], used := fun k => Nat.blt k (nat_lit 1000) })
noncomputable def f142 (k : Nat) (p0 : List Y83) : Option (Bool) :=
  call info ext k 142 (tupT (Info.ps info 142)) (Info.res info 142) p0
noncomputable def f143l0 (k : Nat) (i : Nat) (v0 : List (Nat × Nat)) (v1 : Int) (v5 : Int) (v6 : Int) : Option (Bool) :=
  from_ info ext k 143 [.r, .r, .r, .l, .r, .b] i 0 ({ nt := nat_lit 48, lo := nat_lit 0, slot := lk [(nat_lit 0, V.c (C.lst (nat_lit 154) Ty.cx v0)), (nat_lit 1, V.c (C.int IntKind.i64 v1)), (nat_lit 5, V.c (C.int IntKind.i64 v5)), (nat_lit 6, V.c (C.int IntKind.i64 v6))], box := lk [], row := lk [], used := fun k => Nat.blt k (nat_lit 1000) })
noncomputable def f143 (k : Nat) (p0 : List (Nat × Nat)) (p1 : Int) : Option (Bool) :=
  call info ext k 143 (tupT (Info.ps info 143)) (Info.res info 143) (p0, p1)
noncomputable def f144l0 (k : Nat) (i : Nat) (v4 : Int) (b0_0 : Int) (b0_1 : Int) (b0_2 : Int) (b0_3 : Int) (b0_4 : Int) (b0_5 : List Y43) (b0_6 : List Y83) (b0_7 : Int) (b0_8 : List Y87) (b0_9 : ByteArray) (b0_10 : Int) (b0_11 : Int) (r0 : List (Nat × Nat)) : Option (List (Nat × Nat)) :=
  from_ info ext k 144 [.r, .r, .l, .r, .b] i 0 ({ nt := nat_lit 30, lo := nat_lit 0, slot := lk [(nat_lit 1, V.c (C.box (nat_lit 0) (nat_lit 0))), (nat_lit 3, V.c (C.row (nat_lit 500))), (nat_lit 4, V.c (C.int IntKind.i64 v4))], box := lk [(nat_lit 0, { ty := nat_lit 42, cs := [C.int IntKind.i64 b0_0, C.int IntKind.i64 b0_1, C.int IntKind.i64 b0_2, C.int IntKind.i64 b0_3, C.int IntKind.i64 b0_4, C.lst (nat_lit 44) t43 b0_5, C.lst (nat_lit 84) t83 b0_6, C.int IntKind.i64 b0_7, C.lst (nat_lit 88) t87 b0_8, C.str b0_9, C.int IntKind.i64 b0_10, C.int IntKind.i64 b0_11] })], row := lk [(nat_lit 500, { e := nat_lit 154, t := Ty.cx, xs := r0, fz := false })], used := fun k => Nat.blt k (nat_lit 1000) })
noncomputable def f144 (k : Nat) (p0 : Y41) : Option (List (Nat × Nat)) :=
  call info ext k 144 (tupT (Info.ps info 144)) (Info.res info 144) p0
noncomputable def f152 (k : Nat) (p0 : List ByteArray) (p1 : ByteArray) : Option (ByteArray) :=
  call info ext k 152 (tupT (Info.ps info 152)) (Info.res info 152) (p0, p1)
noncomputable def f153 (k : Nat) (p0 : Y43) : Option (Bool) :=
  call info ext k 153 (tupT (Info.ps info 153)) (Info.res info 153) p0
noncomputable def f154 (k : Nat) (p0 : Y43) (p1 : Y43) : Option (Int) :=
  call info ext k 154 (tupT (Info.ps info 154)) (Info.res info 154) (p0, p1)
noncomputable def f155g0 (k : Nat) (i : Nat) (v0 : List Y83) (v3 : Int) : Option (Bool) :=
  from_ info ext k 155 [.r] i 0 ({ nt := nat_lit 51, lo := nat_lit 0, slot := lk [(nat_lit 0, V.c (C.lst (nat_lit 84) t83 v0)), (nat_lit 3, V.c (C.int IntKind.i64 v3))], box := lk [], row := lk [], used := fun k => Nat.blt k (nat_lit 1000) })
noncomputable def f155 (k : Nat) (p0 : List Y83) : Option (Bool) :=
  call info ext k 155 (tupT (Info.ps info 155)) (Info.res info 155) p0
noncomputable def f156g0 (k : Nat) (i : Nat) (v0 : List (Nat × Nat)) (v1 : Int) (v5 : Int) (v6 : Int) : Option (Bool) :=
  from_ info ext k 156 [.r] i 0 ({ nt := nat_lit 38, lo := nat_lit 0, slot := lk [(nat_lit 0, V.c (C.lst (nat_lit 154) Ty.cx v0)), (nat_lit 1, V.c (C.int IntKind.i64 v1)), (nat_lit 5, V.c (C.int IntKind.i64 v5)), (nat_lit 6, V.c (C.int IntKind.i64 v6))], box := lk [], row := lk [], used := fun k => Nat.blt k (nat_lit 1000) })
noncomputable def f156 (k : Nat) (p0 : List (Nat × Nat)) (p1 : Int) : Option (Bool) :=
  call info ext k 156 (tupT (Info.ps info 156)) (Info.res info 156) (p0, p1)
noncomputable def f157l0 (k : Nat) (i : Nat) (v7 : List Y87) (v8 : Int) (v9 : Int) (r0 : List (Nat × Nat)) : Option (List (Nat × Nat)) :=
  from_ info ext k 157 [.r, .r, .l, .r, .b] i 0 ({ nt := nat_lit 24, lo := nat_lit 0, slot := lk [(nat_lit 3, V.c (C.row (nat_lit 500))), (nat_lit 7, V.c (C.lst (nat_lit 88) t87 v7)), (nat_lit 8, V.c (C.int IntKind.i64 v8)), (nat_lit 9, V.c (C.int IntKind.i64 v9))], box := lk [], row := lk [(nat_lit 500, { e := nat_lit 154, t := Ty.cx, xs := r0, fz := false })], used := fun k => Nat.blt k (nat_lit 1000) })
noncomputable def f157 (k : Nat) (p0 : Y41) : Option (List (Nat × Nat)) :=
  call info ext k 157 (tupT (Info.ps info 157)) (Info.res info 157) p0
noncomputable def f158_159 (k : Nat) (p0 : List Y87) : Option (Bool) :=
  call info ext k 158 (tupT (Info.ps info 158)) (Info.res info 158) (p0, nat_lit 159)
noncomputable def f159 (k : Nat) (p0 : Y87) : Option (Bool) :=
  call info ext k 159 (tupT (Info.ps info 159)) (Info.res info 159) p0
noncomputable def f160 (k : Nat) (p0 : ByteArray) (p1 : ByteArray) : Option (Bool) :=
  call info ext k 160 (tupT (Info.ps info 160)) (Info.res info 160) (p0, p1)
noncomputable def f162 (k : Nat) (p0 : ByteArray) (p1 : ByteArray) : Option (Bool) :=
  call info ext k 162 (tupT (Info.ps info 162)) (Info.res info 162) (p0, p1)
noncomputable def f163l0 (k : Nat) (i : Nat) (v0 : List Y83) (v1 : List Y83) (v12 : Int) (v13 : Int) : Option (Bool) :=
  from_ info ext k 163 [.r, .r, .l, .r, .b] i 0 ({ nt := nat_lit 26, lo := nat_lit 0, slot := lk [(nat_lit 0, V.c (C.lst (nat_lit 84) t83 v0)), (nat_lit 1, V.c (C.lst (nat_lit 84) t83 v1)), (nat_lit 12, V.c (C.int IntKind.i64 v12)), (nat_lit 13, V.c (C.int IntKind.i64 v13))], box := lk [], row := lk [], used := fun k => Nat.blt k (nat_lit 1000) })
noncomputable def f163 (k : Nat) (p0 : List Y83) (p1 : List Y83) : Option (Bool) :=
  call info ext k 163 (tupT (Info.ps info 163)) (Info.res info 163) (p0, p1)
noncomputable def f164 (k : Nat) (p0 : ByteArray) (p1 : ByteArray) : Option (Int) :=
  call info ext k 164 (tupT (Info.ps info 164)) (Info.res info 164) (p0, p1)
noncomputable def f165 (k : Nat) (p0 : Y83) : Option (Bool) :=
  call info ext k 165 (tupT (Info.ps info 165)) (Info.res info 165) p0
noncomputable def f166 (k : Nat) (p0 : Y83) (p1 : Y83) : Option (Bool) :=
  call info ext k 166 (tupT (Info.ps info 166)) (Info.res info 166) (p0, p1)
noncomputable def f167l0 (k : Nat) (i : Nat) (v0 : List Y83) (v3 : Int) : Option (Bool) :=
  from_ info ext k 167 [.r, .l, .r, .b] i 0 ({ nt := nat_lit 19, lo := nat_lit 0, slot := lk [(nat_lit 0, V.c (C.lst (nat_lit 84) t83 v0)), (nat_lit 3, V.c (C.int IntKind.i64 v3))], box := lk [], row := lk [], used := fun k => Nat.blt k (nat_lit 1000) })
noncomputable def f167 (k : Nat) (p0 : List Y83) : Option (Bool) :=
  call info ext k 167 (tupT (Info.ps info 167)) (Info.res info 167) p0
noncomputable def f168 (k : Nat) (p0 : Nat × Nat) : Option (Int) :=
  call info ext k 168 (tupT (Info.ps info 168)) (Info.res info 168) p0
noncomputable def f169 (k : Nat) (p0 : Nat × Nat) : Option (Int) :=
  call info ext k 169 (tupT (Info.ps info 169)) (Info.res info 169) p0
noncomputable def f170 (k : Nat) (p0 : Int) (p1 : Int) : Option (Nat × Nat) :=
  call info ext k 170 (tupT (Info.ps info 170)) (Info.res info 170) (p0, p1)
noncomputable def f176 (k : Nat) (p0 : Y83) : Option (Bool) :=
  call info ext k 176 (tupT (Info.ps info 176)) (Info.res info 176) p0
noncomputable def f177 (k : Nat) (p0 : Y83) (p1 : Y83) : Option (Int) :=
  call info ext k 177 (tupT (Info.ps info 177)) (Info.res info 177) (p0, p1)
noncomputable def f178 (k : Nat) (p0 : Nat × Nat) : Option (Int) :=
  call info ext k 178 (tupT (Info.ps info 178)) (Info.res info 178) p0
noncomputable def f179 (k : Nat) (p0 : Nat × Nat) : Option (Int) :=
  call info ext k 179 (tupT (Info.ps info 179)) (Info.res info 179) p0
noncomputable def f180 (k : Nat) (p0 : Nat × Nat) : Option (Int) :=
  call info ext k 180 (tupT (Info.ps info 180)) (Info.res info 180) p0
noncomputable def f181 (k : Nat) (p0 : Int) (p1 : Int) : Option (Nat × Nat) :=
  call info ext k 181 (tupT (Info.ps info 181)) (Info.res info 181) (p0, p1)
noncomputable def f182_159l0 (k : Nat) (i : Nat) (v0 : List Y87) (v7 : Int) (v8 : Int) : Option (Int) :=
  from_ info ext k 182 [.r, .l, .r, .b] i 0 ({ nt := nat_lit 19, lo := nat_lit 0, slot := lk [(nat_lit 0, V.c (C.lst (nat_lit 88) t87 v0)), (nat_lit 1, V.c (C.fn (nat_lit 159))), (nat_lit 7, V.c (C.int IntKind.i64 v7)), (nat_lit 8, V.c (C.int IntKind.i64 v8))], box := lk [], row := lk [], used := fun k => Nat.blt k (nat_lit 1000) })
noncomputable def f182_159 (k : Nat) (p0 : List Y87) : Option (Int) :=
  call info ext k 182 (tupT (Info.ps info 182)) (Info.res info 182) (p0, nat_lit 159)
noncomputable def f187 (k : Nat) (p0 : ByteArray) : Option (Bool) :=
  call info ext k 187 (tupT (Info.ps info 187)) (Info.res info 187) p0
noncomputable def f188 (k : Nat) (p0 : Nat) : Option (Int) :=
  call info ext k 188 (tupT (Info.ps info 188)) (Info.res info 188) p0
noncomputable def f189 (k : Nat) (p0 : Int) : Option (Int) :=
  call info ext k 189 (tupT (Info.ps info 189)) (Info.res info 189) p0
noncomputable def f194l0 (k : Nat) (i : Nat) (v3 : Int) (v6 : List Int) (v7 : Int) (v8 : Int) : Option (Int) :=
  from_ info ext k 194 [.r, .r, .l, .r, .b] i 0 ({ nt := nat_lit 18, lo := nat_lit 0, slot := lk [(nat_lit 3, V.c (C.int IntKind.i64 v3)), (nat_lit 6, V.c (C.lst (nat_lit 3) (Ty.int IntKind.i64) v6)), (nat_lit 7, V.c (C.int IntKind.i64 v7)), (nat_lit 8, V.c (C.int IntKind.i64 v8))], box := lk [], row := lk [], used := fun k => Nat.blt k (nat_lit 1000) })
noncomputable def f194 (k : Nat) (p0 : List Int) : Option (Int) :=
  call info ext k 194 (tupT (Info.ps info 194)) (Info.res info 194) p0
noncomputable def f195 (k : Nat) (p0 : Nat) : Option (Int) :=
  call info ext k 195 (tupT (Info.ps info 195)) (Info.res info 195) p0
noncomputable def f196 (k : Nat) (p0 : Int) : Option (Int) :=
  call info ext k 196 (tupT (Info.ps info 196)) (Info.res info 196) p0
end Go.Proofs.YteiefdnhngfojaaGreatDoor.Tr
set_option linter.unusedVariables false
set_option maxRecDepth 100000
namespace Go.Proofs.YteiefdnhngfojaaGreatDoor.Tr
open Go Go.Proofs.YteiefdnhngfojaaGreatDoor.Vm Go.Proofs.YteiefdnhngfojaaGreatDoor.VmI
theorem f3_eq (k : Nat) (p0 : Y24) (p1 : Y24) : f3 (k + 1) p0 p1 =
  Option.bind (f18 k (p0)) fun y0 =>
  bif !y0 then
    Option.bind (f19 k) fun y1 =>
    some (y1)
  else Option.bind (f18 k (p1)) fun y2 =>
  bif !y2 then
    Option.bind (f19 k) fun y3 =>
    some (y3)
  else Option.bind (f20 k (p0) (p1)) fun y4 =>
  Option.bind (f21 k (p0) (p1)) fun y5 =>
  Option.bind (f19 k) fun y6 =>
  bif y6 then
    Option.bind (f22 k (p0) (p1)) fun y7 =>
    Option.bind (f23 k (p0) (p1)) fun y8 =>
    bif ByteArray.toList y7 == ByteArray.toList y8 then
      Option.bind (f24 k (p0) (p1)) fun y9 =>
      Option.bind (f25 k (p0) (p1)) fun y10 =>
      bif ByteArray.toList y9 == ByteArray.toList y10 then
        bif ByteArray.toList y4.1 == ByteArray.toList y5.1 then
          bif ByteArray.toList y4.2 == ByteArray.toList y5.2 then
            Option.bind (f26 k (p0) (p1)) fun y11 =>
            Option.bind (f27 k (p0) (p1)) fun y12 =>
            bif y11 == y12 then
              Option.bind (f28 k (p0) (p1)) fun y13 =>
              Option.bind (f29 k (p0) (p1)) fun y14 =>
              some (y13 == y14)
            else some (false)
          else some (false)
        else some (false)
      else some (false)
    else some (false)
  else some (false) := by kernel_rfl
theorem f7_eq (k : Nat) (p0 : ByteArray) (p1 : Int) (p2 : Int) : f7 (k + 1) p0 p1 p2 =
  bif decide ((0 : Int) ≤ Int.tmod (IntKind.wrap IntKind.u64 p1) (4 : Int) ∧ Int.tmod (IntKind.wrap IntKind.u64 p1) (4 : Int) < (↑(4 : Nat) : Int)) then
    bif decide (Int.toNat (Int.tmod (IntKind.wrap IntKind.u64 p1) (4 : Int)) < (4 : Nat)) then
      bif decide ((0 : Int) ≤ Int.tmod (IntKind.wrap IntKind.u64 p2) (4 : Int) ∧ Int.tmod (IntKind.wrap IntKind.u64 p2) (4 : Int) < (↑(4 : Nat) : Int)) then
        bif decide (Int.toNat (Int.tmod (IntKind.wrap IntKind.u64 p2) (4 : Int)) < (4 : Nat)) then
          bif !Op.bytesLess (ByteArray.toList (List.getD [{ data := #[(97 : UInt8)] }, { data := #[(98 : UInt8)] }, { data := #[(99 : UInt8)] }, { data := #[(100 : UInt8)] }] (Int.toNat (Int.tmod (IntKind.wrap IntKind.u64 p1) (4 : Int))) (Ty.z Ty.str))) (ByteArray.toList (List.getD [{ data := #[(97 : UInt8)] }, { data := #[(98 : UInt8)] }, { data := #[(99 : UInt8)] }, { data := #[(100 : UInt8)] }] (Int.toNat (Int.tmod (IntKind.wrap IntKind.u64 p2) (4 : Int))) (Ty.z Ty.str))) then
            Option.bind (f19 k) fun y0 =>
            some (y0)
          else bif decide ((↑(ByteArray.size p0) : Int) > (50 : Int)) then
            Option.bind (f19 k) fun y1 =>
            some (y1)
          else Option.bind (f34 k (((2 : Int), ((0 : Int), (0 : Int), (0 : Int), (0 : Int), [], []), (0 : Int), [], ByteArray.empty, (0 : Int), (0 : Int))) ((0 : Int)) (p0)) fun y2 =>
          Option.bind (f20 k (([(ByteArray.empty, (0 : Int)), (List.getD [{ data := #[(97 : UInt8)] }, { data := #[(98 : UInt8)] }, { data := #[(99 : UInt8)] }, { data := #[(100 : UInt8)] }] (Int.toNat (Int.tmod (IntKind.wrap IntKind.u64 p1) (4 : Int))) (Ty.z Ty.str), (1 : Int)), (List.getD [{ data := #[(97 : UInt8)] }, { data := #[(98 : UInt8)] }, { data := #[(99 : UInt8)] }, { data := #[(100 : UInt8)] }] (Int.toNat (Int.tmod (IntKind.wrap IntKind.u64 p2) (4 : Int))) (Ty.z Ty.str), (1 : Int))], [((1 : Int), ((0 : Int), (0 : Int), (0 : Int), (0 : Int), [], []), (0 : Int), [], ByteArray.empty, (0 : Int), (0 : Int)), y2.1])) (([(ByteArray.empty, (0 : Int)), (List.getD [{ data := #[(97 : UInt8)] }, { data := #[(98 : UInt8)] }, { data := #[(99 : UInt8)] }, { data := #[(100 : UInt8)] }] (Int.toNat (Int.tmod (IntKind.wrap IntKind.u64 p1) (4 : Int))) (Ty.z Ty.str), (1 : Int)), (List.getD [{ data := #[(97 : UInt8)] }, { data := #[(98 : UInt8)] }, { data := #[(99 : UInt8)] }, { data := #[(100 : UInt8)] }] (Int.toNat (Int.tmod (IntKind.wrap IntKind.u64 p2) (4 : Int))) (Ty.z Ty.str), (2 : Int))], [((1 : Int), ((0 : Int), (0 : Int), (0 : Int), (0 : Int), [], []), (0 : Int), [], ByteArray.empty, (0 : Int), (0 : Int)), y2.1, y2.1]))) fun y3 =>
          Option.bind (f19 k) fun y4 =>
          bif y4 then
            bif y2.2 == (0 : Int) then
              Option.bind (f26 k (([(ByteArray.empty, (0 : Int)), (List.getD [{ data := #[(97 : UInt8)] }, { data := #[(98 : UInt8)] }, { data := #[(99 : UInt8)] }, { data := #[(100 : UInt8)] }] (Int.toNat (Int.tmod (IntKind.wrap IntKind.u64 p1) (4 : Int))) (Ty.z Ty.str), (1 : Int)), (List.getD [{ data := #[(97 : UInt8)] }, { data := #[(98 : UInt8)] }, { data := #[(99 : UInt8)] }, { data := #[(100 : UInt8)] }] (Int.toNat (Int.tmod (IntKind.wrap IntKind.u64 p2) (4 : Int))) (Ty.z Ty.str), (1 : Int))], [((1 : Int), ((0 : Int), (0 : Int), (0 : Int), (0 : Int), [], []), (0 : Int), [], ByteArray.empty, (0 : Int), (0 : Int)), y2.1])) (([(ByteArray.empty, (0 : Int)), (List.getD [{ data := #[(97 : UInt8)] }, { data := #[(98 : UInt8)] }, { data := #[(99 : UInt8)] }, { data := #[(100 : UInt8)] }] (Int.toNat (Int.tmod (IntKind.wrap IntKind.u64 p1) (4 : Int))) (Ty.z Ty.str), (1 : Int)), (List.getD [{ data := #[(97 : UInt8)] }, { data := #[(98 : UInt8)] }, { data := #[(99 : UInt8)] }, { data := #[(100 : UInt8)] }] (Int.toNat (Int.tmod (IntKind.wrap IntKind.u64 p2) (4 : Int))) (Ty.z Ty.str), (1 : Int))], [((1 : Int), ((0 : Int), (0 : Int), (0 : Int), (0 : Int), [], []), (0 : Int), [], ByteArray.empty, (0 : Int), (0 : Int)), y2.1]))) fun y5 =>
              bif y5 then
                Option.bind (f26 k (([(ByteArray.empty, (0 : Int)), (List.getD [{ data := #[(97 : UInt8)] }, { data := #[(98 : UInt8)] }, { data := #[(99 : UInt8)] }, { data := #[(100 : UInt8)] }] (Int.toNat (Int.tmod (IntKind.wrap IntKind.u64 p1) (4 : Int))) (Ty.z Ty.str), (1 : Int)), (List.getD [{ data := #[(97 : UInt8)] }, { data := #[(98 : UInt8)] }, { data := #[(99 : UInt8)] }, { data := #[(100 : UInt8)] }] (Int.toNat (Int.tmod (IntKind.wrap IntKind.u64 p2) (4 : Int))) (Ty.z Ty.str), (2 : Int))], [((1 : Int), ((0 : Int), (0 : Int), (0 : Int), (0 : Int), [], []), (0 : Int), [], ByteArray.empty, (0 : Int), (0 : Int)), y2.1, y2.1])) (([(ByteArray.empty, (0 : Int)), (List.getD [{ data := #[(97 : UInt8)] }, { data := #[(98 : UInt8)] }, { data := #[(99 : UInt8)] }, { data := #[(100 : UInt8)] }] (Int.toNat (Int.tmod (IntKind.wrap IntKind.u64 p1) (4 : Int))) (Ty.z Ty.str), (1 : Int)), (List.getD [{ data := #[(97 : UInt8)] }, { data := #[(98 : UInt8)] }, { data := #[(99 : UInt8)] }, { data := #[(100 : UInt8)] }] (Int.toNat (Int.tmod (IntKind.wrap IntKind.u64 p2) (4 : Int))) (Ty.z Ty.str), (2 : Int))], [((1 : Int), ((0 : Int), (0 : Int), (0 : Int), (0 : Int), [], []), (0 : Int), [], ByteArray.empty, (0 : Int), (0 : Int)), y2.1, y2.1]))) fun y6 =>
                bif y6 then
                  Option.bind (f26 k (([(ByteArray.empty, (0 : Int)), (List.getD [{ data := #[(97 : UInt8)] }, { data := #[(98 : UInt8)] }, { data := #[(99 : UInt8)] }, { data := #[(100 : UInt8)] }] (Int.toNat (Int.tmod (IntKind.wrap IntKind.u64 p1) (4 : Int))) (Ty.z Ty.str), (1 : Int)), (List.getD [{ data := #[(97 : UInt8)] }, { data := #[(98 : UInt8)] }, { data := #[(99 : UInt8)] }, { data := #[(100 : UInt8)] }] (Int.toNat (Int.tmod (IntKind.wrap IntKind.u64 p2) (4 : Int))) (Ty.z Ty.str), (1 : Int))], [((1 : Int), ((0 : Int), (0 : Int), (0 : Int), (0 : Int), [], []), (0 : Int), [], ByteArray.empty, (0 : Int), (0 : Int)), y2.1])) (([(ByteArray.empty, (0 : Int)), (List.getD [{ data := #[(97 : UInt8)] }, { data := #[(98 : UInt8)] }, { data := #[(99 : UInt8)] }, { data := #[(100 : UInt8)] }] (Int.toNat (Int.tmod (IntKind.wrap IntKind.u64 p1) (4 : Int))) (Ty.z Ty.str), (1 : Int)), (List.getD [{ data := #[(97 : UInt8)] }, { data := #[(98 : UInt8)] }, { data := #[(99 : UInt8)] }, { data := #[(100 : UInt8)] }] (Int.toNat (Int.tmod (IntKind.wrap IntKind.u64 p2) (4 : Int))) (Ty.z Ty.str), (2 : Int))], [((1 : Int), ((0 : Int), (0 : Int), (0 : Int), (0 : Int), [], []), (0 : Int), [], ByteArray.empty, (0 : Int), (0 : Int)), y2.1, y2.1]))) fun y7 =>
                  bif !y7 then
                    Option.bind (f24 k (([(ByteArray.empty, (0 : Int)), (List.getD [{ data := #[(97 : UInt8)] }, { data := #[(98 : UInt8)] }, { data := #[(99 : UInt8)] }, { data := #[(100 : UInt8)] }] (Int.toNat (Int.tmod (IntKind.wrap IntKind.u64 p1) (4 : Int))) (Ty.z Ty.str), (1 : Int)), (List.getD [{ data := #[(97 : UInt8)] }, { data := #[(98 : UInt8)] }, { data := #[(99 : UInt8)] }, { data := #[(100 : UInt8)] }] (Int.toNat (Int.tmod (IntKind.wrap IntKind.u64 p2) (4 : Int))) (Ty.z Ty.str), (1 : Int))], [((1 : Int), ((0 : Int), (0 : Int), (0 : Int), (0 : Int), [], []), (0 : Int), [], ByteArray.empty, (0 : Int), (0 : Int)), y2.1])) (([(ByteArray.empty, (0 : Int)), (List.getD [{ data := #[(97 : UInt8)] }, { data := #[(98 : UInt8)] }, { data := #[(99 : UInt8)] }, { data := #[(100 : UInt8)] }] (Int.toNat (Int.tmod (IntKind.wrap IntKind.u64 p1) (4 : Int))) (Ty.z Ty.str), (1 : Int)), (List.getD [{ data := #[(97 : UInt8)] }, { data := #[(98 : UInt8)] }, { data := #[(99 : UInt8)] }, { data := #[(100 : UInt8)] }] (Int.toNat (Int.tmod (IntKind.wrap IntKind.u64 p2) (4 : Int))) (Ty.z Ty.str), (2 : Int))], [((1 : Int), ((0 : Int), (0 : Int), (0 : Int), (0 : Int), [], []), (0 : Int), [], ByteArray.empty, (0 : Int), (0 : Int)), y2.1, y2.1]))) fun y8 =>
                    bif ByteArray.toList y8 == ByteArray.toList (List.getD [{ data := #[(97 : UInt8)] }, { data := #[(98 : UInt8)] }, { data := #[(99 : UInt8)] }, { data := #[(100 : UInt8)] }] (Int.toNat (Int.tmod (IntKind.wrap IntKind.u64 p1) (4 : Int))) (Ty.z Ty.str)) then
                      Option.bind (f24 k (([(ByteArray.empty, (0 : Int)), (List.getD [{ data := #[(97 : UInt8)] }, { data := #[(98 : UInt8)] }, { data := #[(99 : UInt8)] }, { data := #[(100 : UInt8)] }] (Int.toNat (Int.tmod (IntKind.wrap IntKind.u64 p1) (4 : Int))) (Ty.z Ty.str), (1 : Int)), (List.getD [{ data := #[(97 : UInt8)] }, { data := #[(98 : UInt8)] }, { data := #[(99 : UInt8)] }, { data := #[(100 : UInt8)] }] (Int.toNat (Int.tmod (IntKind.wrap IntKind.u64 p2) (4 : Int))) (Ty.z Ty.str), (2 : Int))], [((1 : Int), ((0 : Int), (0 : Int), (0 : Int), (0 : Int), [], []), (0 : Int), [], ByteArray.empty, (0 : Int), (0 : Int)), y2.1, y2.1])) (([(ByteArray.empty, (0 : Int)), (List.getD [{ data := #[(97 : UInt8)] }, { data := #[(98 : UInt8)] }, { data := #[(99 : UInt8)] }, { data := #[(100 : UInt8)] }] (Int.toNat (Int.tmod (IntKind.wrap IntKind.u64 p1) (4 : Int))) (Ty.z Ty.str), (1 : Int)), (List.getD [{ data := #[(97 : UInt8)] }, { data := #[(98 : UInt8)] }, { data := #[(99 : UInt8)] }, { data := #[(100 : UInt8)] }] (Int.toNat (Int.tmod (IntKind.wrap IntKind.u64 p2) (4 : Int))) (Ty.z Ty.str), (1 : Int))], [((1 : Int), ((0 : Int), (0 : Int), (0 : Int), (0 : Int), [], []), (0 : Int), [], ByteArray.empty, (0 : Int), (0 : Int)), y2.1]))) fun y9 =>
                      bif ByteArray.toList y9 == ByteArray.toList (List.getD [{ data := #[(97 : UInt8)] }, { data := #[(98 : UInt8)] }, { data := #[(99 : UInt8)] }, { data := #[(100 : UInt8)] }] (Int.toNat (Int.tmod (IntKind.wrap IntKind.u64 p1) (4 : Int))) (Ty.z Ty.str)) then
                        Option.bind (f22 k (([(ByteArray.empty, (0 : Int)), (List.getD [{ data := #[(97 : UInt8)] }, { data := #[(98 : UInt8)] }, { data := #[(99 : UInt8)] }, { data := #[(100 : UInt8)] }] (Int.toNat (Int.tmod (IntKind.wrap IntKind.u64 p1) (4 : Int))) (Ty.z Ty.str), (1 : Int)), (List.getD [{ data := #[(97 : UInt8)] }, { data := #[(98 : UInt8)] }, { data := #[(99 : UInt8)] }, { data := #[(100 : UInt8)] }] (Int.toNat (Int.tmod (IntKind.wrap IntKind.u64 p2) (4 : Int))) (Ty.z Ty.str), (1 : Int))], [((1 : Int), ((0 : Int), (0 : Int), (0 : Int), (0 : Int), [], []), (0 : Int), [], ByteArray.empty, (0 : Int), (0 : Int)), y2.1])) (([(ByteArray.empty, (0 : Int)), (List.getD [{ data := #[(97 : UInt8)] }, { data := #[(98 : UInt8)] }, { data := #[(99 : UInt8)] }, { data := #[(100 : UInt8)] }] (Int.toNat (Int.tmod (IntKind.wrap IntKind.u64 p1) (4 : Int))) (Ty.z Ty.str), (1 : Int)), (List.getD [{ data := #[(97 : UInt8)] }, { data := #[(98 : UInt8)] }, { data := #[(99 : UInt8)] }, { data := #[(100 : UInt8)] }] (Int.toNat (Int.tmod (IntKind.wrap IntKind.u64 p2) (4 : Int))) (Ty.z Ty.str), (2 : Int))], [((1 : Int), ((0 : Int), (0 : Int), (0 : Int), (0 : Int), [], []), (0 : Int), [], ByteArray.empty, (0 : Int), (0 : Int)), y2.1, y2.1]))) fun y10 =>
                        bif ByteArray.toList y10 == ByteArray.toList { data := #[] } then
                          bif ByteArray.toList y3.1 == ByteArray.toList { data := #[] } then
                            some (ByteArray.toList y3.2 == ByteArray.toList { data := #[] })
                          else some (false)
                        else some (false)
                      else some (false)
                    else some (false)
                  else some (false)
                else some (false)
              else some (false)
            else some (false)
          else some (false)
        else none
      else none
    else none
  else none := by kernel_rfl
theorem f18l1_eq (k : Nat) (i : Nat) (v4 : Int) (b0_0 : List Y45) (b0_1 : List Y41) : f18l1 k (i + 1) v4 b0_0 b0_1 =
  bif decide (v4 < (↑(List.length b0_1) : Int)) then
    bif decide ((0 : Int) ≤ v4 ∧ v4 < (↑(List.length b0_1) : Int)) then
      Option.bind (f61 k (List.getD b0_1 (Int.toNat v4) (Ty.z t41))) fun y0 =>
      bif !y0 then
        some (false)
      else f18l1 k i (IntKind.wrap IntKind.i64 (v4 + (1 : Int))) (b0_0) (b0_1)
    else none
  else bif decide ((↑(List.length b0_0) : Int) ≤ (30 : Int)) then
    some (decide ((↑(List.length b0_1) : Int) ≤ (30 : Int)))
  else some (false) := by kernel_rfl
theorem f18l0_eq (k : Nat) (i : Nat) (v3 : Int) (b0_0 : List Y45) (b0_1 : List Y41) : f18l0 k (i + 1) v3 b0_0 b0_1 =
  bif decide (v3 < (↑(List.length b0_0) : Int)) then
    bif decide ((0 : Int) ≤ v3 ∧ v3 < (↑(List.length b0_0) : Int)) then
      bif decide ((↑(ByteArray.size (List.getD b0_0 (Int.toNat v3) (Ty.z t45)).1) : Int) > (120 : Int)) then
        some (false)
      else f18l0 k i (IntKind.wrap IntKind.i64 (v3 + (1 : Int))) (b0_0) (b0_1)
    else none
  else f18l1 k k ((0 : Int)) (b0_0) (b0_1) := by kernel_rfl
theorem f18_eq (k : Nat) (p0 : Y24) : f18 (k + 1) p0 =
  f18l0 k k ((0 : Int)) (p0.1) (p0.2) := by kernel_rfl
theorem f19_eq (k : Nat) : f19 (k + 1) =
  Option.bind (f20 k (([({ data := #[] }, (0 : Int)), ({ data := #[(97 : UInt8)] }, (1 : Int)), ({ data := #[(98 : UInt8)] }, (1 : Int))], [((1 : Int), ((0 : Int), (0 : Int), (0 : Int), (0 : Int), [], []), (0 : Int), [], ByteArray.empty, (0 : Int), (0 : Int)), ((6 : Int), ((0 : Int), (0 : Int), (0 : Int), (0 : Int), [], []), (0 : Int), [], ByteArray.empty, (0 : Int), (0 : Int))])) (([({ data := #[] }, (0 : Int))], [((1 : Int), ((1 : Int), (0 : Int), (0 : Int), (0 : Int), [], []), (0 : Int), [], ByteArray.empty, (0 : Int), (0 : Int))]))) fun y0 =>
  Option.bind (f20 k (([({ data := #[] }, (0 : Int)), ({ data := #[(97 : UInt8)] }, (1 : Int)), ({ data := #[(98 : UInt8)] }, (1 : Int))], [((1 : Int), ((0 : Int), (0 : Int), (0 : Int), (0 : Int), [], []), (0 : Int), [], ByteArray.empty, (0 : Int), (0 : Int)), ((6 : Int), ((0 : Int), (0 : Int), (0 : Int), (0 : Int), [], []), (0 : Int), [], ByteArray.empty, (0 : Int), (0 : Int))])) (([({ data := #[] }, (0 : Int)), ({ data := #[(97 : UInt8)] }, (1 : Int)), ({ data := #[(98 : UInt8)] }, (1 : Int))], [((1 : Int), ((0 : Int), (0 : Int), (0 : Int), (0 : Int), [], []), (0 : Int), [], ByteArray.empty, (0 : Int), (0 : Int)), ((6 : Int), ((0 : Int), (0 : Int), (0 : Int), (0 : Int), [], []), (0 : Int), [], ByteArray.empty, (0 : Int), (0 : Int))]))) fun y1 =>
  Option.bind (f26 k (([({ data := #[] }, (0 : Int)), ({ data := #[(97 : UInt8)] }, (1 : Int)), ({ data := #[(98 : UInt8)] }, (1 : Int))], [((1 : Int), ((0 : Int), (0 : Int), (0 : Int), (0 : Int), [], []), (0 : Int), [], ByteArray.empty, (0 : Int), (0 : Int)), ((6 : Int), ((0 : Int), (0 : Int), (0 : Int), (0 : Int), [], []), (0 : Int), [], ByteArray.empty, (0 : Int), (0 : Int))])) (([({ data := #[] }, (0 : Int)), ({ data := #[(97 : UInt8)] }, (1 : Int)), ({ data := #[(98 : UInt8)] }, (1 : Int))], [((1 : Int), ((0 : Int), (0 : Int), (0 : Int), (0 : Int), [], []), (0 : Int), [], ByteArray.empty, (0 : Int), (0 : Int)), ((6 : Int), ((0 : Int), (0 : Int), (0 : Int), (0 : Int), [], []), (0 : Int), [], ByteArray.empty, (0 : Int), (0 : Int))]))) fun y2 =>
  bif y2 then
    Option.bind (f26 k (([({ data := #[] }, (0 : Int)), ({ data := #[(97 : UInt8)] }, (1 : Int)), ({ data := #[(98 : UInt8)] }, (1 : Int))], [((1 : Int), ((0 : Int), (0 : Int), (0 : Int), (0 : Int), [], []), (0 : Int), [], ByteArray.empty, (0 : Int), (0 : Int)), ((6 : Int), ((0 : Int), (0 : Int), (0 : Int), (0 : Int), [], []), (0 : Int), [], ByteArray.empty, (0 : Int), (0 : Int))])) (([({ data := #[] }, (0 : Int)), ({ data := #[(97 : UInt8)] }, (1 : Int)), ({ data := #[(98 : UInt8)] }, (2 : Int))], [((1 : Int), ((0 : Int), (0 : Int), (0 : Int), (0 : Int), [], []), (0 : Int), [], ByteArray.empty, (0 : Int), (0 : Int)), ((6 : Int), ((0 : Int), (0 : Int), (0 : Int), (0 : Int), [], []), (0 : Int), [], ByteArray.empty, (0 : Int), (0 : Int)), ((6 : Int), ((0 : Int), (0 : Int), (0 : Int), (0 : Int), [], []), (0 : Int), [], ByteArray.empty, (0 : Int), (0 : Int))]))) fun y3 =>
    bif !y3 then
      Option.bind (f24 k (([({ data := #[] }, (0 : Int)), ({ data := #[(97 : UInt8)] }, (1 : Int)), ({ data := #[(98 : UInt8)] }, (1 : Int))], [((1 : Int), ((0 : Int), (0 : Int), (0 : Int), (0 : Int), [], []), (0 : Int), [], ByteArray.empty, (0 : Int), (0 : Int)), ((6 : Int), ((0 : Int), (0 : Int), (0 : Int), (0 : Int), [], []), (0 : Int), [], ByteArray.empty, (0 : Int), (0 : Int))])) (([({ data := #[] }, (0 : Int)), ({ data := #[(97 : UInt8)] }, (1 : Int)), ({ data := #[(98 : UInt8)] }, (2 : Int))], [((1 : Int), ((0 : Int), (0 : Int), (0 : Int), (0 : Int), [], []), (0 : Int), [], ByteArray.empty, (0 : Int), (0 : Int)), ((6 : Int), ((0 : Int), (0 : Int), (0 : Int), (0 : Int), [], []), (0 : Int), [], ByteArray.empty, (0 : Int), (0 : Int)), ((6 : Int), ((0 : Int), (0 : Int), (0 : Int), (0 : Int), [], []), (0 : Int), [], ByteArray.empty, (0 : Int), (0 : Int))]))) fun y4 =>
      bif ByteArray.toList y4 == ByteArray.toList { data := #[(97 : UInt8)] } then
        Option.bind (f22 k (([({ data := #[] }, (0 : Int)), ({ data := #[(97 : UInt8)] }, (1 : Int)), ({ data := #[(98 : UInt8)] }, (1 : Int))], [((1 : Int), ((0 : Int), (0 : Int), (0 : Int), (0 : Int), [], []), (0 : Int), [], ByteArray.empty, (0 : Int), (0 : Int)), ((6 : Int), ((0 : Int), (0 : Int), (0 : Int), (0 : Int), [], []), (0 : Int), [], ByteArray.empty, (0 : Int), (0 : Int))])) (([({ data := #[] }, (0 : Int))], [((1 : Int), ((1 : Int), (0 : Int), (0 : Int), (0 : Int), [], []), (0 : Int), [], ByteArray.empty, (0 : Int), (0 : Int))]))) fun y5 =>
        bif ByteArray.toList y5 == ByteArray.toList { data := #[(97 : UInt8)] } then
          Option.bind (f22 k (([({ data := #[] }, (0 : Int)), ({ data := #[(97 : UInt8)] }, (1 : Int)), ({ data := #[(98 : UInt8)] }, (1 : Int))], [((1 : Int), ((0 : Int), (0 : Int), (0 : Int), (0 : Int), [], []), (0 : Int), [], ByteArray.empty, (0 : Int), (0 : Int)), ((6 : Int), ((0 : Int), (0 : Int), (0 : Int), (0 : Int), [], []), (0 : Int), [], ByteArray.empty, (0 : Int), (0 : Int))])) (([({ data := #[] }, (0 : Int)), ({ data := #[(97 : UInt8)] }, (1 : Int)), ({ data := #[(98 : UInt8)] }, (2 : Int))], [((1 : Int), ((0 : Int), (0 : Int), (0 : Int), (0 : Int), [], []), (0 : Int), [], ByteArray.empty, (0 : Int), (0 : Int)), ((6 : Int), ((0 : Int), (0 : Int), (0 : Int), (0 : Int), [], []), (0 : Int), [], ByteArray.empty, (0 : Int), (0 : Int)), ((6 : Int), ((0 : Int), (0 : Int), (0 : Int), (0 : Int), [], []), (0 : Int), [], ByteArray.empty, (0 : Int), (0 : Int))]))) fun y6 =>
          bif ByteArray.toList y6 == ByteArray.toList { data := #[] } then
            bif ByteArray.toList y0.1 == ByteArray.toList { data := #[(46 : UInt8)] } then
              bif ByteArray.toList y0.2 == ByteArray.toList { data := #[(109 : UInt8), (111 : UInt8), (100 : UInt8), (101 : UInt8)] } then
                bif ByteArray.toList y1.1 == ByteArray.toList { data := #[] } then
                  bif ByteArray.toList y1.2 == ByteArray.toList { data := #[] } then
                    Option.bind (f28 k (([({ data := #[] }, (0 : Int))], [((1 : Int), ((1 : Int), (0 : Int), (0 : Int), (0 : Int), [], []), (0 : Int), [], ByteArray.empty, (0 : Int), (0 : Int))])) (([({ data := #[] }, (0 : Int)), ({ data := #[(97 : UInt8)] }, (1 : Int)), ({ data := #[(98 : UInt8)] }, (1 : Int))], [((1 : Int), ((0 : Int), (0 : Int), (0 : Int), (0 : Int), [], []), (0 : Int), [], ByteArray.empty, (0 : Int), (0 : Int)), ((6 : Int), ((0 : Int), (0 : Int), (0 : Int), (0 : Int), [], []), (0 : Int), [], ByteArray.empty, (0 : Int), (0 : Int))]))) fun y7 =>
                    bif y7 then
                      Option.bind (f28 k (([({ data := #[] }, (0 : Int)), ({ data := #[(97 : UInt8)] }, (1 : Int)), ({ data := #[(98 : UInt8)] }, (1 : Int))], [((1 : Int), ((0 : Int), (0 : Int), (0 : Int), (0 : Int), [], []), (0 : Int), [], ByteArray.empty, (0 : Int), (0 : Int)), ((6 : Int), ((0 : Int), (0 : Int), (0 : Int), (0 : Int), [], []), (0 : Int), [], ByteArray.empty, (0 : Int), (0 : Int))])) (([({ data := #[] }, (0 : Int))], [((1 : Int), ((1 : Int), (0 : Int), (0 : Int), (0 : Int), [], []), (0 : Int), [], ByteArray.empty, (0 : Int), (0 : Int))]))) fun y8 =>
                      bif !y8 then
                        Option.bind (f22 k (([], [])) (([({ data := #[] }, (0 : Int)), ({ data := #[(97 : UInt8)] }, (1 : Int)), ({ data := #[(98 : UInt8)] }, (1 : Int))], [((1 : Int), ((0 : Int), (0 : Int), (0 : Int), (0 : Int), [], []), (0 : Int), [], ByteArray.empty, (0 : Int), (0 : Int)), ((6 : Int), ((0 : Int), (0 : Int), (0 : Int), (0 : Int), [], []), (0 : Int), [], ByteArray.empty, (0 : Int), (0 : Int))]))) fun y9 =>
                        bif ByteArray.toList y9 == ByteArray.toList { data := #[(63 : UInt8)] } then
                          Option.bind (f26 k (([], [])) (([], []))) fun y10 =>
                          some (!y10)
                        else some (false)
                      else some (false)
                    else some (false)
                  else some (false)
                else some (false)
              else some (false)
            else some (false)
          else some (false)
        else some (false)
      else some (false)
    else some (false)
  else some (false) := by kernel_rfl
theorem f20l0_eq (k : Nat) (i : Nat) (v16 : List Y45) (v17 : Int) (v18 : Int) (b0_0 : List Y45) (b0_1 : List Y41) (b1_0 : List Y45) (b1_1 : List Y41) : f20l0 k (i + 1) v16 v17 v18 b0_0 b0_1 b1_0 b1_1 =
  bif decide (v18 < v17) then
    bif decide ((0 : Int) ≤ v18 ∧ v18 < (↑(List.length v16) : Int)) then
      Option.bind (f47 k ((b1_0, b1_1)) ((List.getD v16 (Int.toNat v18) (Ty.z t45)).1)) fun y1 =>
      bif !y1.2 then
        f20l0 k i (v16) (v17) (IntKind.wrap IntKind.i64 (v18 + (1 : Int))) (b0_0) (b0_1) (b1_0) (b1_1)
      else bif decide ((0 : Int) ≤ (List.getD v16 (Int.toNat v18) (Ty.z t45)).2 ∧ (List.getD v16 (Int.toNat v18) (Ty.z t45)).2 < (↑(List.length b0_1) : Int)) then
        bif decide ((0 : Int) ≤ y1.1 ∧ y1.1 < (↑(List.length b1_1) : Int)) then
          Option.bind (f63 k (List.getD b0_1 (Int.toNat (List.getD v16 (Int.toNat v18) (Ty.z t45)).2) (Ty.z t41)) (List.getD b1_1 (Int.toNat y1.1) (Ty.z t41))) fun y2 =>
          bif !ByteArray.toList y2 == ByteArray.toList { data := #[] } then
            bif ByteArray.toList (List.getD v16 (Int.toNat v18) (Ty.z t45)).1 == ByteArray.toList { data := #[] } then
              some (({ data := #[(46 : UInt8)] }, y2))
            else some (((List.getD v16 (Int.toNat v18) (Ty.z t45)).1, y2))
          else f20l0 k i (v16) (v17) (IntKind.wrap IntKind.i64 (v18 + (1 : Int))) (b0_0) (b0_1) (b1_0) (b1_1)
        else none
      else none
    else none
  else some (({ data := #[] }, { data := #[] })) := by kernel_rfl
theorem f20_eq (k : Nat) (p0 : Y24) (p1 : Y24) : f20 (k + 1) p0 p1 =
  Option.bind (f62 k (p0) (p1)) fun y0 =>
  bif !y0 then
    some (({ data := #[(63 : UInt8)] }, { data := #[] }))
  else f20l0 k k (p0.1) ((↑(List.length p0.1) : Int)) ((0 : Int)) (p0.1) (p0.2) (p1.1) (p1.2) := by kernel_rfl
theorem f21l0_eq (k : Nat) (i : Nat) (v6 : Int) (b0_0 : List Y45) (b0_1 : List Y41) (b1_0 : List Y45) (b1_1 : List Y41) : f21l0 k (i + 1) v6 b0_0 b0_1 b1_0 b1_1 =
  bif decide (v6 < (↑(List.length b0_0) : Int)) then
    bif decide ((0 : Int) ≤ v6 ∧ v6 < (↑(List.length b0_0) : Int)) then
      Option.bind (f33 k ((b1_0, b1_1)) ((List.getD b0_0 (Int.toNat v6) (Ty.z t45)).1)) fun y2 =>
      bif !y2.2 then
        f21l0 k i (IntKind.wrap IntKind.i64 (v6 + (1 : Int))) (b0_0) (b0_1) (b1_0) (b1_1)
      else bif decide ((0 : Int) ≤ v6 ∧ v6 < (↑(List.length b0_0) : Int)) then
        bif decide ((0 : Int) ≤ (List.getD b0_0 (Int.toNat v6) (Ty.z t45)).2 ∧ (List.getD b0_0 (Int.toNat v6) (Ty.z t45)).2 < (↑(List.length b0_1) : Int)) then
          bif decide ((0 : Int) ≤ y2.1 ∧ y2.1 < (↑(List.length b1_1) : Int)) then
            Option.bind (f64 k (List.getD b0_1 (Int.toNat (List.getD b0_0 (Int.toNat v6) (Ty.z t45)).2) (Ty.z t41)) (List.getD b1_1 (Int.toNat y2.1) (Ty.z t41))) fun y3 =>
            bif !ByteArray.toList y3 == ByteArray.toList { data := #[] } then
              bif ByteArray.toList (List.getD b0_0 (Int.toNat v6) (Ty.z t45)).1 == ByteArray.toList { data := #[] } then
                some (({ data := #[(46 : UInt8)] }, y3))
              else some (((List.getD b0_0 (Int.toNat v6) (Ty.z t45)).1, y3))
            else f21l0 k i (IntKind.wrap IntKind.i64 (v6 + (1 : Int))) (b0_0) (b0_1) (b1_0) (b1_1)
          else none
        else none
      else none
    else none
  else some (({ data := #[] }, { data := #[] })) := by kernel_rfl
theorem f21_eq (k : Nat) (p0 : Y24) (p1 : Y24) : f21 (k + 1) p0 p1 =
  Option.bind (f42 k (p0)) fun y0 =>
  bif !y0 then
    some (({ data := #[(63 : UInt8)] }, { data := #[] }))
  else Option.bind (f42 k (p1)) fun y1 =>
  bif !y1 then
    some (({ data := #[(63 : UInt8)] }, { data := #[] }))
  else f21l0 k k ((0 : Int)) (p0.1) (p0.2) (p1.1) (p1.2) := by kernel_rfl
theorem f22_eq (k : Nat) (p0 : Y24) (p1 : Y24) : f22 (k + 1) p0 p1 =
  Option.bind (f62 k (p0) (p1)) fun y0 =>
  bif !y0 then
    some ({ data := #[(63 : UInt8)] })
  else Option.bind (f65 k (p0) (p1)) fun y1 =>
  Option.bind (f65 k (p1) (p0)) fun y2 =>
  bif ByteArray.toList y1 == ByteArray.toList { data := #[] } then
    some (y2)
  else bif !ByteArray.toList y2 == ByteArray.toList { data := #[] } then
    Option.bind (f66 k (y2) (y1)) fun y3 =>
    bif y3 then
      some (y2)
    else some (y1)
  else some (y1) := by kernel_rfl
theorem f23_eq (k : Nat) (p0 : Y24) (p1 : Y24) : f23 (k + 1) p0 p1 =
  Option.bind (f42 k (p0)) fun y0 =>
  bif !y0 then
    some ({ data := #[(63 : UInt8)] })
  else Option.bind (f42 k (p1)) fun y1 =>
  bif !y1 then
    some ({ data := #[(63 : UInt8)] })
  else Option.bind (f67 k (p0) (p1)) fun y2 =>
  Option.bind (f67 k (p1) (p0)) fun y3 =>
  bif ByteArray.toList y2 == ByteArray.toList { data := #[] } then
    some (y3)
  else bif ByteArray.toList y3 == ByteArray.toList { data := #[] } then
    some (y2)
  else Option.bind (f59 k (y2) (y3)) fun y4 =>
  bif y4 then
    some (y2)
  else some (y3) := by kernel_rfl
theorem f24l0_eq (k : Nat) (i : Nat) (v12 : List Y45) (v13 : Int) (v14 : Int) (b0_0 : List Y45) (b0_1 : List Y41) (b1_0 : List Y45) (b1_1 : List Y41) : f24l0 k (i + 1) v12 v13 v14 b0_0 b0_1 b1_0 b1_1 =
  bif decide (v14 < v13) then
    bif decide ((0 : Int) ≤ v14 ∧ v14 < (↑(List.length v12) : Int)) then
      Option.bind (f68 k ((b1_0, b1_1)) ((List.getD v12 (Int.toNat v14) (Ty.z t45)).1)) fun y1 =>
      bif y1 then
        Option.bind (f70 k ((b0_0, b0_1)) ((b1_0, b1_1)) ((List.getD v12 (Int.toNat v14) (Ty.z t45)).1)) fun y2 =>
        Option.bind (f70 k ((b1_0, b1_1)) ((b0_0, b0_1)) ((List.getD v12 (Int.toNat v14) (Ty.z t45)).1)) fun y3 =>
        Option.bind (f69 k (y2) (y3)) fun y4 =>
        bif !y4 then
          some ((List.getD v12 (Int.toNat v14) (Ty.z t45)).1)
        else f24l0 k i (v12) (v13) (IntKind.wrap IntKind.i64 (v14 + (1 : Int))) (b0_0) (b0_1) (b1_0) (b1_1)
      else f24l0 k i (v12) (v13) (IntKind.wrap IntKind.i64 (v14 + (1 : Int))) (b0_0) (b0_1) (b1_0) (b1_1)
    else none
  else some ({ data := #[] }) := by kernel_rfl
theorem f24_eq (k : Nat) (p0 : Y24) (p1 : Y24) : f24 (k + 1) p0 p1 =
  Option.bind (f62 k (p0) (p1)) fun y0 =>
  bif !y0 then
    some ({ data := #[(63 : UInt8)] })
  else f24l0 k k (p0.1) ((↑(List.length p0.1) : Int)) ((0 : Int)) (p0.1) (p0.2) (p1.1) (p1.2) := by kernel_rfl
theorem f25l1_eq (k : Nat) (i0 : Nat) (i : Nat) (v5 : Int) (v6 : ByteArray) (v7 : Int) (v8 : Bool) (v9 : Int) (b0_0 : List Y45) (b0_1 : List Y41) (b1_0 : List Y45) (b1_1 : List Y41) : f25l1 k i0 (i + 1) v5 v6 v7 v8 v9 b0_0 b0_1 b1_0 b1_1 =
  bif decide (v9 < (↑(List.length b0_0) : Int)) then
    bif v8 then
      bif decide ((0 : Int) ≤ v9 ∧ v9 < (↑(List.length b0_0) : Int)) then
        Option.bind (f33 k ((b1_0, b1_1)) ((List.getD b0_0 (Int.toNat v9) (Ty.z t45)).1)) fun y3 =>
        bif y3.2 then
          bif decide ((0 : Int) ≤ v9 ∧ v9 < (↑(List.length b0_0) : Int)) then
            bif decide ((0 : Int) ≤ v5 ∧ v5 < (↑(List.length b0_0) : Int)) then
              bif !((List.getD b0_0 (Int.toNat v9) (Ty.z t45)).2 == (List.getD b0_0 (Int.toNat v5) (Ty.z t45)).2) == (v7 == y3.1) then
                some (v6)
              else f25l1 k i0 i (v5) (v6) (v7) (v8) (IntKind.wrap IntKind.i64 (v9 + (1 : Int))) (b0_0) (b0_1) (b1_0) (b1_1)
            else none
          else none
        else f25l1 k i0 i (v5) (v6) (v7) (v8) (IntKind.wrap IntKind.i64 (v9 + (1 : Int))) (b0_0) (b0_1) (b1_0) (b1_1)
      else none
    else f25l0 k i0 (IntKind.wrap IntKind.i64 (v5 + (1 : Int))) (b0_0) (b0_1) (b1_0) (b1_1)
  else f25l0 k i0 (IntKind.wrap IntKind.i64 (v5 + (1 : Int))) (b0_0) (b0_1) (b1_0) (b1_1) := by kernel_rfl
theorem f25l0_eq (k : Nat) (i : Nat) (v5 : Int) (b0_0 : List Y45) (b0_1 : List Y41) (b1_0 : List Y45) (b1_1 : List Y41) : f25l0 k (i + 1) v5 b0_0 b0_1 b1_0 b1_1 =
  bif decide (v5 < (↑(List.length b0_0) : Int)) then
    bif decide ((0 : Int) ≤ v5 ∧ v5 < (↑(List.length b0_0) : Int)) then
      Option.bind (f33 k ((b1_0, b1_1)) ((List.getD b0_0 (Int.toNat v5) (Ty.z t45)).1)) fun y2 =>
      f25l1 k i k (v5) ((List.getD b0_0 (Int.toNat v5) (Ty.z t45)).1) (y2.1) (y2.2) ((0 : Int)) (b0_0) (b0_1) (b1_0) (b1_1)
    else none
  else some ({ data := #[] }) := by kernel_rfl
theorem f25_eq (k : Nat) (p0 : Y24) (p1 : Y24) : f25 (k + 1) p0 p1 =
  Option.bind (f42 k (p0)) fun y0 =>
  bif !y0 then
    some ({ data := #[(63 : UInt8)] })
  else Option.bind (f42 k (p1)) fun y1 =>
  bif !y1 then
    some ({ data := #[(63 : UInt8)] })
  else f25l0 k k ((0 : Int)) (p0.1) (p0.2) (p1.1) (p1.2) := by kernel_rfl
theorem f26_eq (k : Nat) (p0 : Y24) (p1 : Y24) : f26 (k + 1) p0 p1 =
  Option.bind (f20 k (p0) (p1)) fun y0 =>
  Option.bind (f22 k (p0) (p1)) fun y1 =>
  bif ByteArray.toList y1 == ByteArray.toList { data := #[] } then
    Option.bind (f24 k (p0) (p1)) fun y2 =>
    bif ByteArray.toList y2 == ByteArray.toList { data := #[] } then
      some (ByteArray.toList y0.1 == ByteArray.toList { data := #[] })
    else some (false)
  else some (false) := by kernel_rfl
theorem f27_eq (k : Nat) (p0 : Y24) (p1 : Y24) : f27 (k + 1) p0 p1 =
  Option.bind (f21 k (p0) (p1)) fun y0 =>
  Option.bind (f23 k (p0) (p1)) fun y1 =>
  bif ByteArray.toList y1 == ByteArray.toList { data := #[] } then
    Option.bind (f25 k (p0) (p1)) fun y2 =>
    bif ByteArray.toList y2 == ByteArray.toList { data := #[] } then
      some (ByteArray.toList y0.1 == ByteArray.toList { data := #[] })
    else some (false)
  else some (false) := by kernel_rfl
theorem f28_eq (k : Nat) (p0 : Y24) (p1 : Y24) : f28 (k + 1) p0 p1 =
  Option.bind (f62 k (p0) (p1)) fun y0 =>
  bif y0 then
    Option.bind (f65 k (p0) (p1)) fun y1 =>
    some (ByteArray.toList y1 == ByteArray.toList { data := #[] })
  else some (false) := by kernel_rfl
theorem f29_eq (k : Nat) (p0 : Y24) (p1 : Y24) : f29 (k + 1) p0 p1 =
  Option.bind (f42 k (p0)) fun y0 =>
  bif y0 then
    Option.bind (f42 k (p1)) fun y1 =>
    bif y1 then
      Option.bind (f67 k (p0) (p1)) fun y2 =>
      some (ByteArray.toList y2 == ByteArray.toList { data := #[] })
    else some (false)
  else some (false) := by kernel_rfl
theorem f33l0_eq (k : Nat) (i : Nat) (v1 : ByteArray) (v6 : Int) (b0_0 : List Y45) (b0_1 : List Y41) : f33l0 k (i + 1) v1 v6 b0_0 b0_1 =
  bif decide (v6 < (↑(List.length b0_0) : Int)) then
    bif decide ((0 : Int) ≤ v6 ∧ v6 < (↑(List.length b0_0) : Int)) then
      bif ByteArray.toList (List.getD b0_0 (Int.toNat v6) (Ty.z t45)).1 == ByteArray.toList v1 then
        bif decide ((0 : Int) ≤ v6 ∧ v6 < (↑(List.length b0_0) : Int)) then
          some (((List.getD b0_0 (Int.toNat v6) (Ty.z t45)).2, true))
        else none
      else f33l0 k i (v1) (IntKind.wrap IntKind.i64 (v6 + (1 : Int))) (b0_0) (b0_1)
    else none
  else some (((0 : Int), false)) := by kernel_rfl
theorem f33_eq (k : Nat) (p0 : Y24) (p1 : ByteArray) : f33 (k + 1) p0 p1 =
  f33l0 k k (p1) ((0 : Int)) (p0.1) (p0.2) := by kernel_rfl
theorem f34_eq (k : Nat) (p0 : Y41) (p1 : Int) (p2 : ByteArray) : f34 (k + 1) p0 p1 p2 =
  Option.bind (f73 k (p0)) fun y0 =>
  bif !y0 then
    some ((p0, (1 : Int)))
  else bif p0.1 != (2 : Int) then
    some ((p0, (1 : Int)))
  else bif decide (p1 < (0 : Int)) then
    some ((p0, (1 : Int)))
  else bif decide (p1 > (1099511627776 : Int)) then
    some ((p0, (1 : Int)))
  else bif decide ((↑(ByteArray.size p2) : Int) > IntKind.wrap IntKind.i64 ((1099511627776 : Int) - p1)) then
    some ((p0, (2 : Int)))
  else bif ByteArray.toList p2 == ByteArray.toList { data := #[] } then
    some ((p0, (0 : Int)))
  else Option.bind (f74 k (p0.2.2.2.1) ((0 : Int)) (p1)) fun y1 =>
  bif decide ((List.length y1 + List.length [(p1, p2)]) * (24 : Nat) ≤ (140737488355328 : Nat)) then
    Option.bind (f74 k (p0.2.2.2.1) (IntKind.wrap IntKind.i64 (p1 + (↑(ByteArray.size p2) : Int))) ((1099511627777 : Int))) fun y2 =>
    bif decide ((List.length (y1 ++ [(p1, p2)]) + List.length y2) * (24 : Nat) ≤ (140737488355328 : Nat)) then
      Option.bind (f75 k (y1 ++ [(p1, p2)] ++ y2)) fun y3 =>
      Option.bind (f76 k ((p0.1, p0.2.1, minmaxI true p0.2.2.1 (IntKind.wrap IntKind.i64 (p1 + (↑(ByteArray.size p2) : Int))), y3, p0.2.2.2.2))) fun y4 =>
      bif decide (y4 > (4000 : Int)) then
        some ((p0, (13 : Int)))
      else bif decide ((↑(List.length y3) : Int) > (16 : Int)) then
        some ((p0, (13 : Int)))
      else some (((p0.1, p0.2.1, minmaxI true p0.2.2.1 (IntKind.wrap IntKind.i64 (p1 + (↑(ByteArray.size p2) : Int))), y3, p0.2.2.2.2), (0 : Int)))
    else none
  else none := by kernel_rfl
theorem f40_eq (k : Nat) (p0 : ByteArray) : f40 (k + 1) p0 =
  Option.bind (f87 k (p0)) fun y0 =>
  bif (↑(List.length y0) : Int) == (0 : Int) then
    some (({ data := #[] }, false))
  else bif decide ((0 : Int) ≤ IntKind.wrap IntKind.i64 ((↑(List.length y0) : Int) - (1 : Int)) ∧ IntKind.wrap IntKind.i64 ((↑(List.length y0) : Int) - (1 : Int)) < (↑(List.length y0) : Int)) then
    bif decide ((0 : Int) ≤ (0 : Int) ∧ (0 : Int) ≤ minmaxI true (0 : Int) (IntKind.wrap IntKind.i64 (IntKind.wrap IntKind.i64 ((↑(ByteArray.size p0) : Int) - (↑(ByteArray.size (List.getD y0 (Int.toNat (IntKind.wrap IntKind.i64 ((↑(List.length y0) : Int) - (1 : Int)))) (Ty.z Ty.str))) : Int)) - (1 : Int))) ∧ minmaxI true (0 : Int) (IntKind.wrap IntKind.i64 (IntKind.wrap IntKind.i64 ((↑(ByteArray.size p0) : Int) - (↑(ByteArray.size (List.getD y0 (Int.toNat (IntKind.wrap IntKind.i64 ((↑(List.length y0) : Int) - (1 : Int)))) (Ty.z Ty.str))) : Int)) - (1 : Int))) ≤ (↑(ByteArray.size p0) : Int)) then
      some ((ByteArray.extract p0 (0 : Nat) (Int.toNat (minmaxI true (0 : Int) (IntKind.wrap IntKind.i64 (IntKind.wrap IntKind.i64 ((↑(ByteArray.size p0) : Int) - (↑(ByteArray.size (List.getD y0 (Int.toNat (IntKind.wrap IntKind.i64 ((↑(List.length y0) : Int) - (1 : Int)))) (Ty.z Ty.str))) : Int)) - (1 : Int))))), true))
    else none
  else none := by kernel_rfl
theorem f42l1_eq (k : Nat) (i : Nat) (v11 : Int) (b0_0 : List Y45) (b0_1 : List Y41) (r0 : List Int) : f42l1 k (i + 1) v11 b0_0 b0_1 r0 =
  bif decide (v11 < (↑(List.length b0_1) : Int)) then
    bif decide ((0 : Int) ≤ v11 ∧ v11 < (↑(List.length b0_1) : Int)) then
      Option.bind (f73 k (List.getD b0_1 (Int.toNat v11) (Ty.z t41))) fun y10 =>
      bif !y10 then
        some (false)
      else bif decide ((0 : Int) ≤ v11 ∧ v11 < (↑(List.length r0) : Int)) then
        bif decide (Int.toNat v11 < List.length r0) then
          bif List.getD r0 (Int.toNat v11) (Ty.z (Ty.int IntKind.i64)) == (0 : Int) then
            some (false)
          else bif decide ((0 : Int) ≤ v11 ∧ v11 < (↑(List.length b0_1) : Int)) then
            bif (List.getD b0_1 (Int.toNat v11) (Ty.z t41)).1 == (1 : Int) then
              bif decide ((0 : Int) ≤ v11 ∧ v11 < (↑(List.length r0) : Int)) then
                bif decide (Int.toNat v11 < List.length r0) then
                  bif List.getD r0 (Int.toNat v11) (Ty.z (Ty.int IntKind.i64)) != (1 : Int) then
                    some (false)
                  else f42l1 k i (IntKind.wrap IntKind.i64 (v11 + (1 : Int))) (b0_0) (b0_1) (r0)
                else none
              else none
            else f42l1 k i (IntKind.wrap IntKind.i64 (v11 + (1 : Int))) (b0_0) (b0_1) (r0)
          else none
        else none
      else none
    else none
  else bif decide ((0 : Int) ≤ (0 : Int) ∧ (0 : Int) < (↑(List.length b0_0) : Int)) then
    bif decide ((0 : Int) ≤ (List.getD b0_0 (0 : Nat) (Ty.z t45)).2 ∧ (List.getD b0_0 (0 : Nat) (Ty.z t45)).2 < (↑(List.length b0_1) : Int)) then
      some ((List.getD b0_1 (Int.toNat (List.getD b0_0 (0 : Nat) (Ty.z t45)).2) (Ty.z t41)).1 == (1 : Int))
    else none
  else none := by kernel_rfl
end Go.Proofs.YteiefdnhngfojaaGreatDoor.Tr
set_option linter.unusedVariables false
set_option maxRecDepth 100000
namespace Go.Proofs.YteiefdnhngfojaaGreatDoor.Tr
open Go Go.Proofs.YteiefdnhngfojaaGreatDoor.Vm Go.Proofs.YteiefdnhngfojaaGreatDoor.VmI
theorem f42l0_eq (k : Nat) (i : Nat) (v3 : Int) (v5 : Int) (b0_0 : List Y45) (b0_1 : List Y41) (r0 : List Int) : f42l0 k (i + 1) v3 v5 b0_0 b0_1 r0 =
  bif decide (v5 < (↑(List.length b0_0) : Int)) then
    bif decide ((0 : Int) ≤ v5 ∧ v5 < (↑(List.length b0_0) : Int)) then
      Option.bind (f88 k ((List.getD b0_0 (Int.toNat v5) (Ty.z t45)).1)) fun y0 =>
      bif !y0 then
        some (false)
      else bif decide (v5 > (0 : Int)) then
        bif decide ((0 : Int) ≤ IntKind.wrap IntKind.i64 (v5 - (1 : Int)) ∧ IntKind.wrap IntKind.i64 (v5 - (1 : Int)) < (↑(List.length b0_0) : Int)) then
          Option.bind (f59 k ((List.getD b0_0 (Int.toNat (IntKind.wrap IntKind.i64 (v5 - (1 : Int)))) (Ty.z t45)).1) ((List.getD b0_0 (Int.toNat v5) (Ty.z t45)).1)) fun y1 =>
          bif !y1 then
            some (false)
          else bif decide ((List.getD b0_0 (Int.toNat v5) (Ty.z t45)).2 < (0 : Int)) then
            some (false)
          else bif decide ((List.getD b0_0 (Int.toNat v5) (Ty.z t45)).2 > v3) then
            some (false)
          else bif decide ((List.getD b0_0 (Int.toNat v5) (Ty.z t45)).2 ≥ (↑(List.length b0_1) : Int)) then
            some (false)
          else bif (List.getD b0_0 (Int.toNat v5) (Ty.z t45)).2 == v3 then
            bif decide ((0 : Int) ≤ (List.getD b0_0 (Int.toNat v5) (Ty.z t45)).2 ∧ (List.getD b0_0 (Int.toNat v5) (Ty.z t45)).2 < (↑(List.length r0) : Int)) then
              bif decide (Int.toNat (List.getD b0_0 (Int.toNat v5) (Ty.z t45)).2 < List.length r0) then
                bif decide ((0 : Int) ≤ (List.getD b0_0 (Int.toNat v5) (Ty.z t45)).2 ∧ (List.getD b0_0 (Int.toNat v5) (Ty.z t45)).2 < (↑(List.length r0) : Int)) then
                  bif decide (Int.toNat (List.getD b0_0 (Int.toNat v5) (Ty.z t45)).2 < List.length r0) && Nat.ble (1 : Nat) (Ty.size (Ty.int IntKind.i64)) then
                    Option.bind (f40 k ((List.getD b0_0 (Int.toNat v5) (Ty.z t45)).1)) fun y2 =>
                    bif y2.2 then
                      Option.bind (f33 k ((b0_0, b0_1)) (y2.1)) fun y3 =>
                      bif !y3.2 then
                        some (false)
                      else bif decide (y3.1 < (0 : Int)) then
                        some (false)
                      else bif decide (y3.1 ≥ (↑(List.length b0_1) : Int)) then
                        some (false)
                      else bif decide ((0 : Int) ≤ y3.1 ∧ y3.1 < (↑(List.length b0_1) : Int)) then
                        bif (List.getD b0_1 (Int.toNat y3.1) (Ty.z t41)).1 != (1 : Int) then
                          some (false)
                        else f42l0 k i (IntKind.wrap IntKind.i64 (v3 + (1 : Int))) (IntKind.wrap IntKind.i64 (v5 + (1 : Int))) (b0_0) (b0_1) (List.set r0 (Int.toNat (List.getD b0_0 (Int.toNat v5) (Ty.z t45)).2) (IntKind.wrap IntKind.i64 (List.getD r0 (Int.toNat (List.getD b0_0 (Int.toNat v5) (Ty.z t45)).2) (Ty.z (Ty.int IntKind.i64)) + (1 : Int))))
                      else none
                    else f42l0 k i (IntKind.wrap IntKind.i64 (v3 + (1 : Int))) (IntKind.wrap IntKind.i64 (v5 + (1 : Int))) (b0_0) (b0_1) (List.set r0 (Int.toNat (List.getD b0_0 (Int.toNat v5) (Ty.z t45)).2) (IntKind.wrap IntKind.i64 (List.getD r0 (Int.toNat (List.getD b0_0 (Int.toNat v5) (Ty.z t45)).2) (Ty.z (Ty.int IntKind.i64)) + (1 : Int))))
                  else none
                else none
              else none
            else none
          else bif decide ((0 : Int) ≤ (List.getD b0_0 (Int.toNat v5) (Ty.z t45)).2 ∧ (List.getD b0_0 (Int.toNat v5) (Ty.z t45)).2 < (↑(List.length r0) : Int)) then
            bif decide (Int.toNat (List.getD b0_0 (Int.toNat v5) (Ty.z t45)).2 < List.length r0) then
              bif decide ((0 : Int) ≤ (List.getD b0_0 (Int.toNat v5) (Ty.z t45)).2 ∧ (List.getD b0_0 (Int.toNat v5) (Ty.z t45)).2 < (↑(List.length r0) : Int)) then
                bif decide (Int.toNat (List.getD b0_0 (Int.toNat v5) (Ty.z t45)).2 < List.length r0) && Nat.ble (1 : Nat) (Ty.size (Ty.int IntKind.i64)) then
                  Option.bind (f40 k ((List.getD b0_0 (Int.toNat v5) (Ty.z t45)).1)) fun y4 =>
                  bif y4.2 then
                    Option.bind (f33 k ((b0_0, b0_1)) (y4.1)) fun y5 =>
                    bif !y5.2 then
                      some (false)
                    else bif decide (y5.1 < (0 : Int)) then
                      some (false)
                    else bif decide (y5.1 ≥ (↑(List.length b0_1) : Int)) then
                      some (false)
                    else bif decide ((0 : Int) ≤ y5.1 ∧ y5.1 < (↑(List.length b0_1) : Int)) then
                      bif (List.getD b0_1 (Int.toNat y5.1) (Ty.z t41)).1 != (1 : Int) then
                        some (false)
                      else f42l0 k i (v3) (IntKind.wrap IntKind.i64 (v5 + (1 : Int))) (b0_0) (b0_1) (List.set r0 (Int.toNat (List.getD b0_0 (Int.toNat v5) (Ty.z t45)).2) (IntKind.wrap IntKind.i64 (List.getD r0 (Int.toNat (List.getD b0_0 (Int.toNat v5) (Ty.z t45)).2) (Ty.z (Ty.int IntKind.i64)) + (1 : Int))))
                    else none
                  else f42l0 k i (v3) (IntKind.wrap IntKind.i64 (v5 + (1 : Int))) (b0_0) (b0_1) (List.set r0 (Int.toNat (List.getD b0_0 (Int.toNat v5) (Ty.z t45)).2) (IntKind.wrap IntKind.i64 (List.getD r0 (Int.toNat (List.getD b0_0 (Int.toNat v5) (Ty.z t45)).2) (Ty.z (Ty.int IntKind.i64)) + (1 : Int))))
                else none
              else none
            else none
          else none
        else none
      else bif decide ((List.getD b0_0 (Int.toNat v5) (Ty.z t45)).2 < (0 : Int)) then
        some (false)
      else bif decide ((List.getD b0_0 (Int.toNat v5) (Ty.z t45)).2 > v3) then
        some (false)
      else bif decide ((List.getD b0_0 (Int.toNat v5) (Ty.z t45)).2 ≥ (↑(List.length b0_1) : Int)) then
        some (false)
      else bif (List.getD b0_0 (Int.toNat v5) (Ty.z t45)).2 == v3 then
        bif decide ((0 : Int) ≤ (List.getD b0_0 (Int.toNat v5) (Ty.z t45)).2 ∧ (List.getD b0_0 (Int.toNat v5) (Ty.z t45)).2 < (↑(List.length r0) : Int)) then
          bif decide (Int.toNat (List.getD b0_0 (Int.toNat v5) (Ty.z t45)).2 < List.length r0) then
            bif decide ((0 : Int) ≤ (List.getD b0_0 (Int.toNat v5) (Ty.z t45)).2 ∧ (List.getD b0_0 (Int.toNat v5) (Ty.z t45)).2 < (↑(List.length r0) : Int)) then
              bif decide (Int.toNat (List.getD b0_0 (Int.toNat v5) (Ty.z t45)).2 < List.length r0) && Nat.ble (1 : Nat) (Ty.size (Ty.int IntKind.i64)) then
                Option.bind (f40 k ((List.getD b0_0 (Int.toNat v5) (Ty.z t45)).1)) fun y6 =>
                bif y6.2 then
                  Option.bind (f33 k ((b0_0, b0_1)) (y6.1)) fun y7 =>
                  bif !y7.2 then
                    some (false)
                  else bif decide (y7.1 < (0 : Int)) then
                    some (false)
                  else bif decide (y7.1 ≥ (↑(List.length b0_1) : Int)) then
                    some (false)
                  else bif decide ((0 : Int) ≤ y7.1 ∧ y7.1 < (↑(List.length b0_1) : Int)) then
                    bif (List.getD b0_1 (Int.toNat y7.1) (Ty.z t41)).1 != (1 : Int) then
                      some (false)
                    else f42l0 k i (IntKind.wrap IntKind.i64 (v3 + (1 : Int))) (IntKind.wrap IntKind.i64 (v5 + (1 : Int))) (b0_0) (b0_1) (List.set r0 (Int.toNat (List.getD b0_0 (Int.toNat v5) (Ty.z t45)).2) (IntKind.wrap IntKind.i64 (List.getD r0 (Int.toNat (List.getD b0_0 (Int.toNat v5) (Ty.z t45)).2) (Ty.z (Ty.int IntKind.i64)) + (1 : Int))))
                  else none
                else f42l0 k i (IntKind.wrap IntKind.i64 (v3 + (1 : Int))) (IntKind.wrap IntKind.i64 (v5 + (1 : Int))) (b0_0) (b0_1) (List.set r0 (Int.toNat (List.getD b0_0 (Int.toNat v5) (Ty.z t45)).2) (IntKind.wrap IntKind.i64 (List.getD r0 (Int.toNat (List.getD b0_0 (Int.toNat v5) (Ty.z t45)).2) (Ty.z (Ty.int IntKind.i64)) + (1 : Int))))
              else none
            else none
          else none
        else none
      else bif decide ((0 : Int) ≤ (List.getD b0_0 (Int.toNat v5) (Ty.z t45)).2 ∧ (List.getD b0_0 (Int.toNat v5) (Ty.z t45)).2 < (↑(List.length r0) : Int)) then
        bif decide (Int.toNat (List.getD b0_0 (Int.toNat v5) (Ty.z t45)).2 < List.length r0) then
          bif decide ((0 : Int) ≤ (List.getD b0_0 (Int.toNat v5) (Ty.z t45)).2 ∧ (List.getD b0_0 (Int.toNat v5) (Ty.z t45)).2 < (↑(List.length r0) : Int)) then
            bif decide (Int.toNat (List.getD b0_0 (Int.toNat v5) (Ty.z t45)).2 < List.length r0) && Nat.ble (1 : Nat) (Ty.size (Ty.int IntKind.i64)) then
              Option.bind (f40 k ((List.getD b0_0 (Int.toNat v5) (Ty.z t45)).1)) fun y8 =>
              bif y8.2 then
                Option.bind (f33 k ((b0_0, b0_1)) (y8.1)) fun y9 =>
                bif !y9.2 then
                  some (false)
                else bif decide (y9.1 < (0 : Int)) then
                  some (false)
                else bif decide (y9.1 ≥ (↑(List.length b0_1) : Int)) then
                  some (false)
                else bif decide ((0 : Int) ≤ y9.1 ∧ y9.1 < (↑(List.length b0_1) : Int)) then
                  bif (List.getD b0_1 (Int.toNat y9.1) (Ty.z t41)).1 != (1 : Int) then
                    some (false)
                  else f42l0 k i (v3) (IntKind.wrap IntKind.i64 (v5 + (1 : Int))) (b0_0) (b0_1) (List.set r0 (Int.toNat (List.getD b0_0 (Int.toNat v5) (Ty.z t45)).2) (IntKind.wrap IntKind.i64 (List.getD r0 (Int.toNat (List.getD b0_0 (Int.toNat v5) (Ty.z t45)).2) (Ty.z (Ty.int IntKind.i64)) + (1 : Int))))
                else none
              else f42l0 k i (v3) (IntKind.wrap IntKind.i64 (v5 + (1 : Int))) (b0_0) (b0_1) (List.set r0 (Int.toNat (List.getD b0_0 (Int.toNat v5) (Ty.z t45)).2) (IntKind.wrap IntKind.i64 (List.getD r0 (Int.toNat (List.getD b0_0 (Int.toNat v5) (Ty.z t45)).2) (Ty.z (Ty.int IntKind.i64)) + (1 : Int))))
            else none
          else none
        else none
      else none
    else none
  else f42l1 k k ((0 : Int)) (b0_0) (b0_1) (r0) := by kernel_rfl
theorem f42_eq (k : Nat) (p0 : Y24) : f42 (k + 1) p0 =
  bif decide ((↑(List.length p0.1) : Int) < (1 : Int)) then
    some (false)
  else bif decide ((↑(List.length p0.1) : Int) > (100 : Int)) then
    some (false)
  else bif decide ((0 : Int) ≤ (0 : Int) ∧ (0 : Int) < (↑(List.length p0.1) : Int)) then
    bif !ByteArray.toList (List.getD p0.1 (0 : Nat) (Ty.z t45)).1 == ByteArray.toList { data := #[] } then
      some (false)
    else bif true && decide ((0 : Int) ≤ (↑(List.length p0.2) : Int) ∧ (↑(List.length p0.2) : Int) = (↑(List.length p0.2) : Int) ∧ (↑(List.length p0.2) : Int) * (↑(8 : Nat) : Int) ≤ (140737488355328 : Int) ∧ (↑(List.length p0.2) : Int) * (↑(1 : Nat) : Int) ≤ (16777216 : Int)) then
      f42l0 k k ((0 : Int)) ((0 : Int)) (p0.1) (p0.2) (List.replicate (Int.toNat (↑(List.length p0.2) : Int)) (Ty.z (Ty.int IntKind.i64)))
    else none
  else none := by kernel_rfl
theorem f47l0_eq (k : Nat) (i : Nat) (v1 : ByteArray) (v9 : List Y45) (v10 : Int) (v11 : Int) : f47l0 k (i + 1) v1 v9 v10 v11 =
  bif decide (v11 < v10) then
    bif decide ((0 : Int) ≤ v11 ∧ v11 < (↑(List.length v9) : Int)) then
      bif ByteArray.toList (List.getD v9 (Int.toNat v11) (Ty.z t45)).1 == ByteArray.toList v1 then
        some (((List.getD v9 (Int.toNat v11) (Ty.z t45)).2, true))
      else f47l0 k i (v1) (v9) (v10) (IntKind.wrap IntKind.i64 (v11 + (1 : Int)))
    else none
  else some (((0 : Int), false)) := by kernel_rfl
theorem f47_eq (k : Nat) (p0 : Y24) (p1 : ByteArray) : f47 (k + 1) p0 p1 =
  f47l0 k k (p1) (p0.1) ((↑(List.length p0.1) : Int)) ((0 : Int)) := by kernel_rfl
theorem f48g0_eq (k : Nat) (i : Nat) (v3 : Int) (v5 : Int) (b0_0 : List Y45) (b0_1 : List Y41) (r0 : List Int) : f48g0 k (i + 1) v3 v5 b0_0 b0_1 r0 =
  bif v5 == (↑(List.length b0_0) : Int) then
    bif v3 == (↑(List.length b0_1) : Int) then
      Option.bind (f95_96 k (b0_1)) fun y3 =>
      some (!y3)
    else some (false)
  else bif decide ((0 : Int) ≤ v5 ∧ v5 < (↑(List.length b0_0) : Int)) then
    Option.bind (f98 k ((List.getD b0_0 (Int.toNat v5) (Ty.z t45)).1)) fun y4 =>
    bif !y4 then
      some (false)
    else bif !(v5 == (0 : Int)) == (ByteArray.toList (List.getD b0_0 (Int.toNat v5) (Ty.z t45)).1 == ByteArray.toList { data := #[] }) then
      some (false)
    else bif decide (v5 > (0 : Int)) then
      bif decide ((0 : Int) ≤ IntKind.wrap IntKind.i64 (v5 - (1 : Int)) ∧ IntKind.wrap IntKind.i64 (v5 - (1 : Int)) < (↑(List.length b0_0) : Int)) then
        Option.bind (f91 k (List.getD b0_0 (Int.toNat (IntKind.wrap IntKind.i64 (v5 - (1 : Int)))) (Ty.z t45)) (List.getD b0_0 (Int.toNat v5) (Ty.z t45))) fun y5 =>
        bif decide (y5 ≥ (0 : Int)) then
          some (false)
        else bif decide ((List.getD b0_0 (Int.toNat v5) (Ty.z t45)).2 < (0 : Int)) then
          some (false)
        else bif decide ((List.getD b0_0 (Int.toNat v5) (Ty.z t45)).2 > v3) then
          some (false)
        else bif decide ((List.getD b0_0 (Int.toNat v5) (Ty.z t45)).2 ≥ (↑(List.length b0_1) : Int)) then
          some (false)
        else bif (List.getD b0_0 (Int.toNat v5) (Ty.z t45)).2 == v3 then
          bif decide ((0 : Int) ≤ (List.getD b0_0 (Int.toNat v5) (Ty.z t45)).2 ∧ (List.getD b0_0 (Int.toNat v5) (Ty.z t45)).2 < (↑(List.length r0) : Int)) then
            bif decide (Int.toNat (List.getD b0_0 (Int.toNat v5) (Ty.z t45)).2 < List.length r0) then
              bif decide ((0 : Int) ≤ (List.getD b0_0 (Int.toNat v5) (Ty.z t45)).2 ∧ (List.getD b0_0 (Int.toNat v5) (Ty.z t45)).2 < (↑(List.length r0) : Int)) then
                bif decide (Int.toNat (List.getD b0_0 (Int.toNat v5) (Ty.z t45)).2 < List.length r0) && Nat.ble (1 : Nat) (Ty.size (Ty.int IntKind.i64)) then
                  bif decide ((0 : Int) ≤ (List.getD b0_0 (Int.toNat v5) (Ty.z t45)).2 ∧ (List.getD b0_0 (Int.toNat v5) (Ty.z t45)).2 < (↑(List.length b0_1) : Int)) then
                    bif (List.getD b0_1 (Int.toNat (List.getD b0_0 (Int.toNat v5) (Ty.z t45)).2) (Ty.z t41)).1 == (1 : Int) then
                      bif decide ((0 : Int) ≤ (List.getD b0_0 (Int.toNat v5) (Ty.z t45)).2 ∧ (List.getD b0_0 (Int.toNat v5) (Ty.z t45)).2 < (↑(List.length (List.set r0 (Int.toNat (List.getD b0_0 (Int.toNat v5) (Ty.z t45)).2) (IntKind.wrap IntKind.i64 (List.getD r0 (Int.toNat (List.getD b0_0 (Int.toNat v5) (Ty.z t45)).2) (Ty.z (Ty.int IntKind.i64)) + (1 : Int))))) : Int)) then
                        bif decide (Int.toNat (List.getD b0_0 (Int.toNat v5) (Ty.z t45)).2 < List.length (List.set r0 (Int.toNat (List.getD b0_0 (Int.toNat v5) (Ty.z t45)).2) (IntKind.wrap IntKind.i64 (List.getD r0 (Int.toNat (List.getD b0_0 (Int.toNat v5) (Ty.z t45)).2) (Ty.z (Ty.int IntKind.i64)) + (1 : Int))))) then
                          bif decide (List.getD (List.set r0 (Int.toNat (List.getD b0_0 (Int.toNat v5) (Ty.z t45)).2) (IntKind.wrap IntKind.i64 (List.getD r0 (Int.toNat (List.getD b0_0 (Int.toNat v5) (Ty.z t45)).2) (Ty.z (Ty.int IntKind.i64)) + (1 : Int)))) (Int.toNat (List.getD b0_0 (Int.toNat v5) (Ty.z t45)).2) (Ty.z (Ty.int IntKind.i64)) > (1 : Int)) then
                            some (false)
                          else bif v5 == (0 : Int) then
                            bif !(List.getD b0_1 (Int.toNat (List.getD b0_0 (Int.toNat v5) (Ty.z t45)).2) (Ty.z t41)).1 == (1 : Int) then
                              some (false)
                            else Option.bind (f99 k ((b0_0, b0_1)) (v5)) fun y6 =>
                            bif !y6 then
                              some (false)
                            else f48g0 k i (IntKind.wrap IntKind.i64 (v3 + (1 : Int))) (IntKind.wrap IntKind.i64 (v5 + (1 : Int))) (b0_0) (b0_1) (List.set r0 (Int.toNat (List.getD b0_0 (Int.toNat v5) (Ty.z t45)).2) (IntKind.wrap IntKind.i64 (List.getD r0 (Int.toNat (List.getD b0_0 (Int.toNat v5) (Ty.z t45)).2) (Ty.z (Ty.int IntKind.i64)) + (1 : Int))))
                          else Option.bind (f99 k ((b0_0, b0_1)) (v5)) fun y7 =>
                          bif !y7 then
                            some (false)
                          else f48g0 k i (IntKind.wrap IntKind.i64 (v3 + (1 : Int))) (IntKind.wrap IntKind.i64 (v5 + (1 : Int))) (b0_0) (b0_1) (List.set r0 (Int.toNat (List.getD b0_0 (Int.toNat v5) (Ty.z t45)).2) (IntKind.wrap IntKind.i64 (List.getD r0 (Int.toNat (List.getD b0_0 (Int.toNat v5) (Ty.z t45)).2) (Ty.z (Ty.int IntKind.i64)) + (1 : Int))))
                        else none
                      else none
                    else bif v5 == (0 : Int) then
                      bif !(List.getD b0_1 (Int.toNat (List.getD b0_0 (Int.toNat v5) (Ty.z t45)).2) (Ty.z t41)).1 == (1 : Int) then
                        some (false)
                      else Option.bind (f99 k ((b0_0, b0_1)) (v5)) fun y8 =>
                      bif !y8 then
                        some (false)
                      else f48g0 k i (IntKind.wrap IntKind.i64 (v3 + (1 : Int))) (IntKind.wrap IntKind.i64 (v5 + (1 : Int))) (b0_0) (b0_1) (List.set r0 (Int.toNat (List.getD b0_0 (Int.toNat v5) (Ty.z t45)).2) (IntKind.wrap IntKind.i64 (List.getD r0 (Int.toNat (List.getD b0_0 (Int.toNat v5) (Ty.z t45)).2) (Ty.z (Ty.int IntKind.i64)) + (1 : Int))))
                    else Option.bind (f99 k ((b0_0, b0_1)) (v5)) fun y9 =>
                    bif !y9 then
                      some (false)
                    else f48g0 k i (IntKind.wrap IntKind.i64 (v3 + (1 : Int))) (IntKind.wrap IntKind.i64 (v5 + (1 : Int))) (b0_0) (b0_1) (List.set r0 (Int.toNat (List.getD b0_0 (Int.toNat v5) (Ty.z t45)).2) (IntKind.wrap IntKind.i64 (List.getD r0 (Int.toNat (List.getD b0_0 (Int.toNat v5) (Ty.z t45)).2) (Ty.z (Ty.int IntKind.i64)) + (1 : Int))))
                  else none
                else none
              else none
            else none
          else none
        else bif decide ((0 : Int) ≤ (List.getD b0_0 (Int.toNat v5) (Ty.z t45)).2 ∧ (List.getD b0_0 (Int.toNat v5) (Ty.z t45)).2 < (↑(List.length r0) : Int)) then
          bif decide (Int.toNat (List.getD b0_0 (Int.toNat v5) (Ty.z t45)).2 < List.length r0) then
            bif decide ((0 : Int) ≤ (List.getD b0_0 (Int.toNat v5) (Ty.z t45)).2 ∧ (List.getD b0_0 (Int.toNat v5) (Ty.z t45)).2 < (↑(List.length r0) : Int)) then
              bif decide (Int.toNat (List.getD b0_0 (Int.toNat v5) (Ty.z t45)).2 < List.length r0) && Nat.ble (1 : Nat) (Ty.size (Ty.int IntKind.i64)) then
                bif decide ((0 : Int) ≤ (List.getD b0_0 (Int.toNat v5) (Ty.z t45)).2 ∧ (List.getD b0_0 (Int.toNat v5) (Ty.z t45)).2 < (↑(List.length b0_1) : Int)) then
                  bif (List.getD b0_1 (Int.toNat (List.getD b0_0 (Int.toNat v5) (Ty.z t45)).2) (Ty.z t41)).1 == (1 : Int) then
                    bif decide ((0 : Int) ≤ (List.getD b0_0 (Int.toNat v5) (Ty.z t45)).2 ∧ (List.getD b0_0 (Int.toNat v5) (Ty.z t45)).2 < (↑(List.length (List.set r0 (Int.toNat (List.getD b0_0 (Int.toNat v5) (Ty.z t45)).2) (IntKind.wrap IntKind.i64 (List.getD r0 (Int.toNat (List.getD b0_0 (Int.toNat v5) (Ty.z t45)).2) (Ty.z (Ty.int IntKind.i64)) + (1 : Int))))) : Int)) then
                      bif decide (Int.toNat (List.getD b0_0 (Int.toNat v5) (Ty.z t45)).2 < List.length (List.set r0 (Int.toNat (List.getD b0_0 (Int.toNat v5) (Ty.z t45)).2) (IntKind.wrap IntKind.i64 (List.getD r0 (Int.toNat (List.getD b0_0 (Int.toNat v5) (Ty.z t45)).2) (Ty.z (Ty.int IntKind.i64)) + (1 : Int))))) then
                        bif decide (List.getD (List.set r0 (Int.toNat (List.getD b0_0 (Int.toNat v5) (Ty.z t45)).2) (IntKind.wrap IntKind.i64 (List.getD r0 (Int.toNat (List.getD b0_0 (Int.toNat v5) (Ty.z t45)).2) (Ty.z (Ty.int IntKind.i64)) + (1 : Int)))) (Int.toNat (List.getD b0_0 (Int.toNat v5) (Ty.z t45)).2) (Ty.z (Ty.int IntKind.i64)) > (1 : Int)) then
                          some (false)
                        else bif v5 == (0 : Int) then
                          bif !(List.getD b0_1 (Int.toNat (List.getD b0_0 (Int.toNat v5) (Ty.z t45)).2) (Ty.z t41)).1 == (1 : Int) then
                            some (false)
                          else Option.bind (f99 k ((b0_0, b0_1)) (v5)) fun y10 =>
                          bif !y10 then
                            some (false)
                          else f48g0 k i (v3) (IntKind.wrap IntKind.i64 (v5 + (1 : Int))) (b0_0) (b0_1) (List.set r0 (Int.toNat (List.getD b0_0 (Int.toNat v5) (Ty.z t45)).2) (IntKind.wrap IntKind.i64 (List.getD r0 (Int.toNat (List.getD b0_0 (Int.toNat v5) (Ty.z t45)).2) (Ty.z (Ty.int IntKind.i64)) + (1 : Int))))
                        else Option.bind (f99 k ((b0_0, b0_1)) (v5)) fun y11 =>
                        bif !y11 then
                          some (false)
                        else f48g0 k i (v3) (IntKind.wrap IntKind.i64 (v5 + (1 : Int))) (b0_0) (b0_1) (List.set r0 (Int.toNat (List.getD b0_0 (Int.toNat v5) (Ty.z t45)).2) (IntKind.wrap IntKind.i64 (List.getD r0 (Int.toNat (List.getD b0_0 (Int.toNat v5) (Ty.z t45)).2) (Ty.z (Ty.int IntKind.i64)) + (1 : Int))))
                      else none
                    else none
                  else bif v5 == (0 : Int) then
                    bif !(List.getD b0_1 (Int.toNat (List.getD b0_0 (Int.toNat v5) (Ty.z t45)).2) (Ty.z t41)).1 == (1 : Int) then
                      some (false)
                    else Option.bind (f99 k ((b0_0, b0_1)) (v5)) fun y12 =>
                    bif !y12 then
                      some (false)
                    else f48g0 k i (v3) (IntKind.wrap IntKind.i64 (v5 + (1 : Int))) (b0_0) (b0_1) (List.set r0 (Int.toNat (List.getD b0_0 (Int.toNat v5) (Ty.z t45)).2) (IntKind.wrap IntKind.i64 (List.getD r0 (Int.toNat (List.getD b0_0 (Int.toNat v5) (Ty.z t45)).2) (Ty.z (Ty.int IntKind.i64)) + (1 : Int))))
                  else Option.bind (f99 k ((b0_0, b0_1)) (v5)) fun y13 =>
                  bif !y13 then
                    some (false)
                  else f48g0 k i (v3) (IntKind.wrap IntKind.i64 (v5 + (1 : Int))) (b0_0) (b0_1) (List.set r0 (Int.toNat (List.getD b0_0 (Int.toNat v5) (Ty.z t45)).2) (IntKind.wrap IntKind.i64 (List.getD r0 (Int.toNat (List.getD b0_0 (Int.toNat v5) (Ty.z t45)).2) (Ty.z (Ty.int IntKind.i64)) + (1 : Int))))
                else none
              else none
            else none
          else none
        else none
      else none
    else bif decide ((List.getD b0_0 (Int.toNat v5) (Ty.z t45)).2 < (0 : Int)) then
      some (false)
    else bif decide ((List.getD b0_0 (Int.toNat v5) (Ty.z t45)).2 > v3) then
      some (false)
    else bif decide ((List.getD b0_0 (Int.toNat v5) (Ty.z t45)).2 ≥ (↑(List.length b0_1) : Int)) then
      some (false)
    else bif (List.getD b0_0 (Int.toNat v5) (Ty.z t45)).2 == v3 then
      bif decide ((0 : Int) ≤ (List.getD b0_0 (Int.toNat v5) (Ty.z t45)).2 ∧ (List.getD b0_0 (Int.toNat v5) (Ty.z t45)).2 < (↑(List.length r0) : Int)) then
        bif decide (Int.toNat (List.getD b0_0 (Int.toNat v5) (Ty.z t45)).2 < List.length r0) then
          bif decide ((0 : Int) ≤ (List.getD b0_0 (Int.toNat v5) (Ty.z t45)).2 ∧ (List.getD b0_0 (Int.toNat v5) (Ty.z t45)).2 < (↑(List.length r0) : Int)) then
            bif decide (Int.toNat (List.getD b0_0 (Int.toNat v5) (Ty.z t45)).2 < List.length r0) && Nat.ble (1 : Nat) (Ty.size (Ty.int IntKind.i64)) then
              bif decide ((0 : Int) ≤ (List.getD b0_0 (Int.toNat v5) (Ty.z t45)).2 ∧ (List.getD b0_0 (Int.toNat v5) (Ty.z t45)).2 < (↑(List.length b0_1) : Int)) then
                bif (List.getD b0_1 (Int.toNat (List.getD b0_0 (Int.toNat v5) (Ty.z t45)).2) (Ty.z t41)).1 == (1 : Int) then
                  bif decide ((0 : Int) ≤ (List.getD b0_0 (Int.toNat v5) (Ty.z t45)).2 ∧ (List.getD b0_0 (Int.toNat v5) (Ty.z t45)).2 < (↑(List.length (List.set r0 (Int.toNat (List.getD b0_0 (Int.toNat v5) (Ty.z t45)).2) (IntKind.wrap IntKind.i64 (List.getD r0 (Int.toNat (List.getD b0_0 (Int.toNat v5) (Ty.z t45)).2) (Ty.z (Ty.int IntKind.i64)) + (1 : Int))))) : Int)) then
                    bif decide (Int.toNat (List.getD b0_0 (Int.toNat v5) (Ty.z t45)).2 < List.length (List.set r0 (Int.toNat (List.getD b0_0 (Int.toNat v5) (Ty.z t45)).2) (IntKind.wrap IntKind.i64 (List.getD r0 (Int.toNat (List.getD b0_0 (Int.toNat v5) (Ty.z t45)).2) (Ty.z (Ty.int IntKind.i64)) + (1 : Int))))) then
                      bif decide (List.getD (List.set r0 (Int.toNat (List.getD b0_0 (Int.toNat v5) (Ty.z t45)).2) (IntKind.wrap IntKind.i64 (List.getD r0 (Int.toNat (List.getD b0_0 (Int.toNat v5) (Ty.z t45)).2) (Ty.z (Ty.int IntKind.i64)) + (1 : Int)))) (Int.toNat (List.getD b0_0 (Int.toNat v5) (Ty.z t45)).2) (Ty.z (Ty.int IntKind.i64)) > (1 : Int)) then
                        some (false)
                      else bif v5 == (0 : Int) then
                        bif !(List.getD b0_1 (Int.toNat (List.getD b0_0 (Int.toNat v5) (Ty.z t45)).2) (Ty.z t41)).1 == (1 : Int) then
                          some (false)
                        else Option.bind (f99 k ((b0_0, b0_1)) (v5)) fun y14 =>
                        bif !y14 then
                          some (false)
                        else f48g0 k i (IntKind.wrap IntKind.i64 (v3 + (1 : Int))) (IntKind.wrap IntKind.i64 (v5 + (1 : Int))) (b0_0) (b0_1) (List.set r0 (Int.toNat (List.getD b0_0 (Int.toNat v5) (Ty.z t45)).2) (IntKind.wrap IntKind.i64 (List.getD r0 (Int.toNat (List.getD b0_0 (Int.toNat v5) (Ty.z t45)).2) (Ty.z (Ty.int IntKind.i64)) + (1 : Int))))
                      else Option.bind (f99 k ((b0_0, b0_1)) (v5)) fun y15 =>
                      bif !y15 then
                        some (false)
                      else f48g0 k i (IntKind.wrap IntKind.i64 (v3 + (1 : Int))) (IntKind.wrap IntKind.i64 (v5 + (1 : Int))) (b0_0) (b0_1) (List.set r0 (Int.toNat (List.getD b0_0 (Int.toNat v5) (Ty.z t45)).2) (IntKind.wrap IntKind.i64 (List.getD r0 (Int.toNat (List.getD b0_0 (Int.toNat v5) (Ty.z t45)).2) (Ty.z (Ty.int IntKind.i64)) + (1 : Int))))
                    else none
                  else none
                else bif v5 == (0 : Int) then
                  bif !(List.getD b0_1 (Int.toNat (List.getD b0_0 (Int.toNat v5) (Ty.z t45)).2) (Ty.z t41)).1 == (1 : Int) then
                    some (false)
                  else Option.bind (f99 k ((b0_0, b0_1)) (v5)) fun y16 =>
                  bif !y16 then
                    some (false)
                  else f48g0 k i (IntKind.wrap IntKind.i64 (v3 + (1 : Int))) (IntKind.wrap IntKind.i64 (v5 + (1 : Int))) (b0_0) (b0_1) (List.set r0 (Int.toNat (List.getD b0_0 (Int.toNat v5) (Ty.z t45)).2) (IntKind.wrap IntKind.i64 (List.getD r0 (Int.toNat (List.getD b0_0 (Int.toNat v5) (Ty.z t45)).2) (Ty.z (Ty.int IntKind.i64)) + (1 : Int))))
                else Option.bind (f99 k ((b0_0, b0_1)) (v5)) fun y17 =>
                bif !y17 then
                  some (false)
                else f48g0 k i (IntKind.wrap IntKind.i64 (v3 + (1 : Int))) (IntKind.wrap IntKind.i64 (v5 + (1 : Int))) (b0_0) (b0_1) (List.set r0 (Int.toNat (List.getD b0_0 (Int.toNat v5) (Ty.z t45)).2) (IntKind.wrap IntKind.i64 (List.getD r0 (Int.toNat (List.getD b0_0 (Int.toNat v5) (Ty.z t45)).2) (Ty.z (Ty.int IntKind.i64)) + (1 : Int))))
              else none
            else none
          else none
        else none
      else none
    else bif decide ((0 : Int) ≤ (List.getD b0_0 (Int.toNat v5) (Ty.z t45)).2 ∧ (List.getD b0_0 (Int.toNat v5) (Ty.z t45)).2 < (↑(List.length r0) : Int)) then
      bif decide (Int.toNat (List.getD b0_0 (Int.toNat v5) (Ty.z t45)).2 < List.length r0) then
        bif decide ((0 : Int) ≤ (List.getD b0_0 (Int.toNat v5) (Ty.z t45)).2 ∧ (List.getD b0_0 (Int.toNat v5) (Ty.z t45)).2 < (↑(List.length r0) : Int)) then
          bif decide (Int.toNat (List.getD b0_0 (Int.toNat v5) (Ty.z t45)).2 < List.length r0) && Nat.ble (1 : Nat) (Ty.size (Ty.int IntKind.i64)) then
            bif decide ((0 : Int) ≤ (List.getD b0_0 (Int.toNat v5) (Ty.z t45)).2 ∧ (List.getD b0_0 (Int.toNat v5) (Ty.z t45)).2 < (↑(List.length b0_1) : Int)) then
              bif (List.getD b0_1 (Int.toNat (List.getD b0_0 (Int.toNat v5) (Ty.z t45)).2) (Ty.z t41)).1 == (1 : Int) then
                bif decide ((0 : Int) ≤ (List.getD b0_0 (Int.toNat v5) (Ty.z t45)).2 ∧ (List.getD b0_0 (Int.toNat v5) (Ty.z t45)).2 < (↑(List.length (List.set r0 (Int.toNat (List.getD b0_0 (Int.toNat v5) (Ty.z t45)).2) (IntKind.wrap IntKind.i64 (List.getD r0 (Int.toNat (List.getD b0_0 (Int.toNat v5) (Ty.z t45)).2) (Ty.z (Ty.int IntKind.i64)) + (1 : Int))))) : Int)) then
                  bif decide (Int.toNat (List.getD b0_0 (Int.toNat v5) (Ty.z t45)).2 < List.length (List.set r0 (Int.toNat (List.getD b0_0 (Int.toNat v5) (Ty.z t45)).2) (IntKind.wrap IntKind.i64 (List.getD r0 (Int.toNat (List.getD b0_0 (Int.toNat v5) (Ty.z t45)).2) (Ty.z (Ty.int IntKind.i64)) + (1 : Int))))) then
                    bif decide (List.getD (List.set r0 (Int.toNat (List.getD b0_0 (Int.toNat v5) (Ty.z t45)).2) (IntKind.wrap IntKind.i64 (List.getD r0 (Int.toNat (List.getD b0_0 (Int.toNat v5) (Ty.z t45)).2) (Ty.z (Ty.int IntKind.i64)) + (1 : Int)))) (Int.toNat (List.getD b0_0 (Int.toNat v5) (Ty.z t45)).2) (Ty.z (Ty.int IntKind.i64)) > (1 : Int)) then
                      some (false)
                    else bif v5 == (0 : Int) then
                      bif !(List.getD b0_1 (Int.toNat (List.getD b0_0 (Int.toNat v5) (Ty.z t45)).2) (Ty.z t41)).1 == (1 : Int) then
                        some (false)
                      else Option.bind (f99 k ((b0_0, b0_1)) (v5)) fun y18 =>
                      bif !y18 then
                        some (false)
                      else f48g0 k i (v3) (IntKind.wrap IntKind.i64 (v5 + (1 : Int))) (b0_0) (b0_1) (List.set r0 (Int.toNat (List.getD b0_0 (Int.toNat v5) (Ty.z t45)).2) (IntKind.wrap IntKind.i64 (List.getD r0 (Int.toNat (List.getD b0_0 (Int.toNat v5) (Ty.z t45)).2) (Ty.z (Ty.int IntKind.i64)) + (1 : Int))))
                    else Option.bind (f99 k ((b0_0, b0_1)) (v5)) fun y19 =>
                    bif !y19 then
                      some (false)
                    else f48g0 k i (v3) (IntKind.wrap IntKind.i64 (v5 + (1 : Int))) (b0_0) (b0_1) (List.set r0 (Int.toNat (List.getD b0_0 (Int.toNat v5) (Ty.z t45)).2) (IntKind.wrap IntKind.i64 (List.getD r0 (Int.toNat (List.getD b0_0 (Int.toNat v5) (Ty.z t45)).2) (Ty.z (Ty.int IntKind.i64)) + (1 : Int))))
                  else none
                else none
              else bif v5 == (0 : Int) then
                bif !(List.getD b0_1 (Int.toNat (List.getD b0_0 (Int.toNat v5) (Ty.z t45)).2) (Ty.z t41)).1 == (1 : Int) then
                  some (false)
                else Option.bind (f99 k ((b0_0, b0_1)) (v5)) fun y20 =>
                bif !y20 then
                  some (false)
                else f48g0 k i (v3) (IntKind.wrap IntKind.i64 (v5 + (1 : Int))) (b0_0) (b0_1) (List.set r0 (Int.toNat (List.getD b0_0 (Int.toNat v5) (Ty.z t45)).2) (IntKind.wrap IntKind.i64 (List.getD r0 (Int.toNat (List.getD b0_0 (Int.toNat v5) (Ty.z t45)).2) (Ty.z (Ty.int IntKind.i64)) + (1 : Int))))
              else Option.bind (f99 k ((b0_0, b0_1)) (v5)) fun y21 =>
              bif !y21 then
                some (false)
              else f48g0 k i (v3) (IntKind.wrap IntKind.i64 (v5 + (1 : Int))) (b0_0) (b0_1) (List.set r0 (Int.toNat (List.getD b0_0 (Int.toNat v5) (Ty.z t45)).2) (IntKind.wrap IntKind.i64 (List.getD r0 (Int.toNat (List.getD b0_0 (Int.toNat v5) (Ty.z t45)).2) (Ty.z (Ty.int IntKind.i64)) + (1 : Int))))
            else none
          else none
        else none
      else none
    else none
  else none := by kernel_rfl
end Go.Proofs.YteiefdnhngfojaaGreatDoor.Tr
