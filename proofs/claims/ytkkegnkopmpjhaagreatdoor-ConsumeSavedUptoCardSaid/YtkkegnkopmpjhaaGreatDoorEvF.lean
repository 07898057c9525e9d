/- What the walks ask of the tables of the program. -/
import Derived.Test.YtkkegnkopmpjhaaGreatDoorProg
import Derived.Test.YtkkegnkopmpjhaaGreatDoorEvE
import Derived.KernelRfl
section
set_option linter.unusedVariables false
set_option linter.unusedSimpArgs false
set_option linter.defProp false
set_option linter.all false
namespace Go.Ev.C
open Go.Proofs
noncomputable abbrev Q : Program := Tryz.prog
theorem ng : (Q.funcs.all fun fn => !(fn.name == "runtime.NumGoroutine")) = true := by kernel_rfl
theorem mix : Q.follows .mixedOrders = true := by kernel_rfl
theorem und2 : Yf Q 2 = some (.int .i64) := by kernel_rfl
theorem Y5 : Xd Q 2 = some false := by kernel_rfl
-- T2 int64 size 1 bytes 8
theorem und3 : Yf Q 3 = some (.int .i64) := by kernel_rfl
theorem ZC : Xd Q 3 = some false := by kernel_rfl
theorem sz3 : szU Q 3 = some 1 := by kernel_rfl
-- T3 int size 1 bytes 8
theorem und4 : Yf Q 4 = some .bool := by kernel_rfl
theorem Y4 : Xd Q 4 = some false := by kernel_rfl
theorem sz4 : szU Q 4 = some 1 := by kernel_rfl
-- T4 bool size 1 bytes 1
theorem und5 : Yf Q 5 = some (.int .u8) := by kernel_rfl
theorem agg5 : Xd Q 5 = some false := by kernel_rfl
theorem sz5 : szU Q 5 = some 1 := by kernel_rfl
-- T5 uint8 size 1 bytes 1
theorem und9 : Yf Q 9 = some .string := by kernel_rfl
-- T9 string size 1 bytes 16
-- T22 []api.Item size 1 bytes 24
-- T23 []api.Sym size 1 bytes 24
-- T24 []int64 size 1 bytes 24
-- T26 api.Errno size 1 bytes 8
theorem Zs : Yf Q 35 = some (.slice 5) := by kernel_rfl
theorem ZJ : Xd Q 35 = some false := by kernel_rfl
theorem sz35 : szU Q 35 = some 1 := by kernel_rfl
-- T35 []uint8 size 1 bytes 24
theorem Zp : Yf Q 36 = some (.slice 80) := by kernel_rfl
theorem agg36 : Xd Q 36 = some false := by kernel_rfl
theorem sz36 : szU Q 36 = some 1 := by kernel_rfl
-- T36 []api.Batch size 1 bytes 24
-- T37 []api.Shown size 1 bytes 24
-- T64 api.Int size 2 bytes 16
-- T66 api.Ty size 4 bytes 32
-- T68 api.Value size 3 bytes 32
-- T70 api.Item size 10 bytes 104
theorem Zm : Yf Q 78 = some (.slice 87) := by kernel_rfl
theorem ZP : Xd Q 78 = some false := by kernel_rfl
theorem sz78 : szU Q 78 = some 1 := by kernel_rfl
-- T78 []api.Record size 1 bytes 24
theorem ZM : Xd Q 80 = some true := by kernel_rfl
theorem Zv : szU Q 80 = some 4 := by kernel_rfl
-- T80 api.Batch size 4 bytes 48
theorem Z2 : Xd Q 87 = some true := by kernel_rfl
theorem ZI : szU Q 87 = some 3 := by kernel_rfl
-- T87 api.Record size 3 bytes 40
-- T91 []api.Option size 1 bytes 24
-- T92 []api.VarDef size 1 bytes 24
-- T93 []api.AggDef size 1 bytes 24
-- T94 []api.CodeClause size 1 bytes 24
-- T96 api.Binary size 7 bytes 168
-- T104 api.Sym size 3 bytes 32
-- T106 api.Shown size 5 bytes 48
-- T130 func(api.Batch) bool size 1 bytes 8
-- T143 func(api.Record) bool size 1 bytes 8
-- T152 []api.Code size 1 bytes 24
-- T153 []api.Ty size 1 bytes 24
-- T156 []api.CodeAct size 1 bytes 24
-- T159 []api.Desc size 1 bytes 24
-- T161 api.CodeClause size 3 bytes 72
-- T202 [][]api.Record size 1 bytes 24
-- T306 api.Option size 2 bytes 32
-- T310 api.AggDef size 4 bytes 72
-- T376 api.VarDef size 6 bytes 72
theorem ZA (b off : Nat) : Yl Q 87 (.ptr b off) 2 = some (.ptr b (off + 2)) := by kernel_rfl
theorem ZV (b off : Nat) : Yl Q 87 (.ptr b off) 1 = some (.ptr b (off + 1)) := by kernel_rfl
theorem ZW (b off : Nat) : Yl Q 87 (.ptr b off) 0 = some (.ptr b (off + 0)) := by kernel_rfl
theorem ZB (b off : Nat) : Yl Q 80 (.ptr b off) 1 = some (.ptr b (off + 1)) := by kernel_rfl
theorem ZE (b off : Nat) : Yl Q 80 (.ptr b off) 2 = some (.ptr b (off + 2)) := by kernel_rfl
theorem ZN (b off : Nat) : Yl Q 80 (.ptr b off) 0 = some (.ptr b (off + 0)) := by kernel_rfl
theorem Z0 (b off : Nat) : Yl Q 80 (.ptr b off) 3 = some (.ptr b (off + 3)) := by kernel_rfl
noncomputable def c8 : Code := (Tryz.f8.body).getD .skip
noncomputable def c10 : Code := (Tryz.f10.body).getD .skip
theorem en10 : ZQ Q 10 [] .normal = some (PF 10 191 (Zk 0 [] .leaf) [.code c10]) := by kernel_rfl
theorem cu10 (l : List AV) (H : AH) : YD Q (.func 10 [] []) l H = some (.enter 10 ([] ++ l ++ []), H) := by kernel_rfl
noncomputable def c18 : Code := (Tryz.f18.body).getD .skip
theorem en18 (a0 : AV) : ZQ Q 18 [a0] .normal = some (PF 18 32 (Zk 0 [a0] .leaf) [.code c18]) := by kernel_rfl
theorem rs18 (n : Nat) (t : Tri AV) (k : List AI) (H : AH) : ZF Q (PF 18 n t k) H = Z3 (Zl Q t H [.tmp 2, .tmp 3, .tmp 4]) := by kernel_rfl
theorem cu18 (l : List AV) (H : AH) : YD Q (.func 18 [] []) l H = some (.enter 18 ([] ++ l ++ []), H) := by kernel_rfl
noncomputable def c52 : Code := (Tryz.f52.body).getD .skip
theorem en52 (a0 a1 : AV) : ZQ Q 52 [a0, a1] .normal = some (PF 52 9 (Zk 0 [a0, a1] .leaf) [.code c52]) := by kernel_rfl
theorem rs52 (n : Nat) (t : Tri AV) (k : List AI) (H : AH) : ZF Q (PF 52 n t k) H = Z3 (Zl Q t H [.tmp 4]) := by kernel_rfl
theorem cu52 (l : List AV) (H : AH) : YD Q (.func 52 [] []) l H = some (.enter 52 ([] ++ l ++ []), H) := by kernel_rfl
noncomputable def c93 : Code := (Tryz.f93.body).getD .skip
theorem en93 (a0 a1 : AV) : ZQ Q 93 [a0, a1] .normal = some (PF 93 19 (Zk 0 [a0, a1] .leaf) [.code c93]) := by kernel_rfl
theorem rs93 (n : Nat) (t : Tri AV) (k : List AI) (H : AH) : ZF Q (PF 93 n t k) H = Z3 (Zl Q t H [.tmp 4]) := by kernel_rfl
theorem cu93 (l : List AV) (H : AH) : YD Q (.func 93 [] []) l H = some (.enter 93 ([] ++ l ++ []), H) := by kernel_rfl
noncomputable def c53 : Code := (Tryz.f53.body).getD .skip
theorem en53 (a0 : AV) : ZQ Q 53 [a0] .normal = some (PF 53 6 (Zk 0 [a0] .leaf) [.code c53]) := by kernel_rfl
theorem rs53 (n : Nat) (t : Tri AV) (k : List AI) (H : AH) : ZF Q (PF 53 n t k) H = Z3 (Zl Q t H [.tmp 2]) := by kernel_rfl
theorem cu53 (l : List AV) (H : AH) : YD Q (.func 53 [] []) l H = some (.enter 53 ([] ++ l ++ []), H) := by kernel_rfl
noncomputable def c54 : Code := (Tryz.f54.body).getD .skip
theorem en54 (a0 : AV) : ZQ Q 54 [a0] .normal = some (PF 54 35 (Zk 0 [a0] .leaf) [.code c54]) := by kernel_rfl
theorem rs54 (n : Nat) (t : Tri AV) (k : List AI) (H : AH) : ZF Q (PF 54 n t k) H = Z3 (Zl Q t H [.tmp 2]) := by kernel_rfl
theorem cu54 (l : List AV) (H : AH) : YD Q (.func 54 [] []) l H = some (.enter 54 ([] ++ l ++ []), H) := by kernel_rfl
noncomputable def c94 : Code := (Tryz.f94.body).getD .skip
theorem en94 (a0 : AV) : ZQ Q 94 [a0] .normal = some (PF 94 12 (Zk 0 [a0] .leaf) [.code c94]) := by kernel_rfl
theorem rs94 (n : Nat) (t : Tri AV) (k : List AI) (H : AH) : ZF Q (PF 94 n t k) H = Z3 (Zl Q t H [.tmp 2]) := by kernel_rfl
theorem cu94 (l : List AV) (H : AH) : YD Q (.func 94 [] []) l H = some (.enter 94 ([] ++ l ++ []), H) := by kernel_rfl
noncomputable def c95 : Code := (Tryz.f95.body).getD .skip
theorem en95 (a0 : AV) : ZQ Q 95 [a0] .normal = some (PF 95 11 (Zk 0 [a0] .leaf) [.code c95]) := by kernel_rfl
theorem rs95 (n : Nat) (t : Tri AV) (k : List AI) (H : AH) : ZF Q (PF 95 n t k) H = Z3 (Zl Q t H [.tmp 2, .tmp 3]) := by kernel_rfl
theorem cu95 (l : List AV) (H : AH) : YD Q (.func 95 [] []) l H = some (.enter 95 ([] ++ l ++ []), H) := by kernel_rfl
noncomputable def c133 : Code := (Tryz.f133.body).getD .skip
theorem en133 (a0 : AV) : ZQ Q 133 [a0] .normal = some (PF 133 27 (Zk 0 [a0] .leaf) [.code c133]) := by kernel_rfl
theorem rs133 (n : Nat) (t : Tri AV) (k : List AI) (H : AH) : ZF Q (PF 133 n t k) H = Z3 (Zl Q t H [.tmp 2]) := by kernel_rfl
theorem cu133 (l : List AV) (H : AH) : YD Q (.func 133 [] []) l H = some (.enter 133 ([] ++ l ++ []), H) := by kernel_rfl
noncomputable def c96 : Code := (Tryz.f96.body).getD .skip
theorem en96 (a0 a1 : AV) : ZQ Q 96 [a0, a1] .normal = some (PF 96 9 (Zk 0 [a0, a1] .leaf) [.code c96]) := by kernel_rfl
theorem rs96 (n : Nat) (t : Tri AV) (k : List AI) (H : AH) : ZF Q (PF 96 n t k) H = Z3 (Zl Q t H [.tmp 4]) := by kernel_rfl
theorem cu96 (l : List AV) (H : AH) : YD Q (.func 96 [] []) l H = some (.enter 96 ([] ++ l ++ []), H) := by kernel_rfl
noncomputable def c105 : Code := (Tryz.f105.body).getD .skip
theorem en105 (a0 a1 : AV) : ZQ Q 105 [a0, a1] .normal = some (PF 105 19 (Zk 0 [a0, a1] .leaf) [.code c105]) := by kernel_rfl
theorem rs105 (n : Nat) (t : Tri AV) (k : List AI) (H : AH) : ZF Q (PF 105 n t k) H = Z3 (Zl Q t H [.tmp 4]) := by kernel_rfl
theorem cu105 (l : List AV) (H : AH) : YD Q (.func 105 [] []) l H = some (.enter 105 ([] ++ l ++ []), H) := by kernel_rfl
end Go.Ev.C
end
