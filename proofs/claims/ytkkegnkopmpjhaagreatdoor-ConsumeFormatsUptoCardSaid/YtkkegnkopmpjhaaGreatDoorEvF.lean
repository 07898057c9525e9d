/- What the walks ask of the tables of the program. -/
import Derived.Test.YtkkegnkopmpjhaaGreatDoorProg
import Derived.Test.YtkkegnkopmpjhaaGreatDoorEvE
import Derived.KernelRfl
section
set_option linter.unusedVariables false
set_option linter.unusedSimpArgs false
set_option linter.defProp false
set_option linter.all false
namespace Go.Ev.C
open Go.Proofs
noncomputable abbrev Q : Program := Tryz.prog
theorem ng : (Q.funcs.all fun fn => !(fn.name == "runtime.NumGoroutine")) = true := by kernel_rfl
theorem mix : Q.follows .mixedOrders = true := by kernel_rfl
theorem Yx : Yi Q 2 = some (.int .i64) := by kernel_rfl
theorem Zt : Xq Q 2 = some false := by kernel_rfl
theorem sz2 : szU Q 2 = some 1 := by kernel_rfl
-- T2 int64 size 1 bytes 8
theorem und3 : Yi Q 3 = some (.int .i64) := by kernel_rfl
theorem ZM : Xq Q 3 = some false := by kernel_rfl
-- T3 int size 1 bytes 8
theorem und4 : Yi Q 4 = some .bool := by kernel_rfl
theorem Z0 : Xq Q 4 = some false := by kernel_rfl
-- T4 bool size 1 bytes 1
theorem und5 : Yi Q 5 = some (.int .u8) := by kernel_rfl
theorem agg5 : Xq Q 5 = some false := by kernel_rfl
theorem sz5 : szU Q 5 = some 1 := by kernel_rfl
-- T5 uint8 size 1 bytes 1
theorem und9 : Yi Q 9 = some .string := by kernel_rfl
theorem ZA : Xq Q 9 = some false := by kernel_rfl
theorem sz9 : szU Q 9 = some 1 := by kernel_rfl
-- T9 string size 1 bytes 16
theorem und22 : Yi Q 22 = some (.slice 70) := by kernel_rfl
-- T22 []api.Item size 1 bytes 24
theorem ZL : Yi Q 23 = some (.slice 104) := by kernel_rfl
-- T23 []api.Sym size 1 bytes 24
theorem ZX : Yi Q 24 = some (.slice 2) := by kernel_rfl
-- T24 []int64 size 1 bytes 24
theorem agg26 : Xq Q 26 = some false := by kernel_rfl
-- T26 api.Errno size 1 bytes 8
theorem XH : Yi Q 35 = some (.slice 5) := by kernel_rfl
theorem XY : Xq Q 35 = some false := by kernel_rfl
theorem sz35 : szU Q 35 = some 1 := by kernel_rfl
-- T35 []uint8 size 1 bytes 24
-- T36 []api.Batch size 1 bytes 24
-- T37 []api.Shown size 1 bytes 24
theorem Zu : Xq Q 64 = some true := by kernel_rfl
theorem ZJ : szU Q 64 = some 2 := by kernel_rfl
-- T64 api.Int size 2 bytes 16
theorem Wi : Xq Q 66 = some true := by kernel_rfl
theorem sz66 : szU Q 66 = some 4 := by kernel_rfl
-- T66 api.Ty size 4 bytes 32
theorem Yn : Xq Q 68 = some true := by kernel_rfl
theorem Yk : szU Q 68 = some 3 := by kernel_rfl
-- T68 api.Value size 3 bytes 32
theorem ZE : Xq Q 70 = some true := by kernel_rfl
theorem ZR : szU Q 70 = some 10 := by kernel_rfl
-- T70 api.Item size 10 bytes 104
-- T78 []api.Record size 1 bytes 24
-- T80 api.Batch size 4 bytes 48
-- T87 api.Record size 3 bytes 40
-- T91 []api.Option size 1 bytes 24
-- T92 []api.VarDef size 1 bytes 24
-- T93 []api.AggDef size 1 bytes 24
-- T94 []api.CodeClause size 1 bytes 24
-- T96 api.Binary size 7 bytes 168
theorem Wr : Xq Q 104 = some true := by kernel_rfl
theorem Ym : szU Q 104 = some 3 := by kernel_rfl
-- T104 api.Sym size 3 bytes 32
-- T106 api.Shown size 5 bytes 48
-- T130 func(api.Batch) bool size 1 bytes 8
-- T143 func(api.Record) bool size 1 bytes 8
-- T152 []api.Code size 1 bytes 24
-- T153 []api.Ty size 1 bytes 24
-- T156 []api.CodeAct size 1 bytes 24
-- T159 []api.Desc size 1 bytes 24
-- T161 api.CodeClause size 3 bytes 72
-- T202 [][]api.Record size 1 bytes 24
-- T306 api.Option size 2 bytes 32
-- T310 api.AggDef size 4 bytes 72
-- T376 api.VarDef size 6 bytes 72
theorem Zq (b off : Nat) : Ya Q 68 (.ptr b off) 2 = some (.ptr b (off + 2)) := by kernel_rfl
theorem Zr (b off : Nat) : Ya Q 70 (.ptr b off) 3 = some (.ptr b (off + 6)) := by kernel_rfl
noncomputable def c8 : Code := (Tryz.f8.body).getD .skip
noncomputable def c10 : Code := (Tryz.f10.body).getD .skip
theorem en10 : ZI Q 10 [] .normal = some (PF 10 191 (Zm 0 [] .leaf) [.code c10]) := by kernel_rfl
theorem cu10 (l : List AV) (H : AH) : Z3 Q (.func 10 [] []) l H = some (.enter 10 ([] ++ l ++ []), H) := by kernel_rfl
end Go.Ev.C
end
