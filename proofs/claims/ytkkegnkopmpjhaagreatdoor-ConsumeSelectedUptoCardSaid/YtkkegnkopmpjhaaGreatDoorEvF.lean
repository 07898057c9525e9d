/- What the walks ask of the tables of the program. -/
import Derived.Test.YtkkegnkopmpjhaaGreatDoorProg
import Derived.Test.YtkkegnkopmpjhaaGreatDoorEvE
import Derived.KernelRfl
section
set_option linter.unusedVariables false
set_option linter.unusedSimpArgs false
set_option linter.defProp false
set_option linter.all false
namespace Go.Ev.C
open Go.Proofs
noncomputable abbrev Q : Program := Tryz.prog
theorem ng : (Q.funcs.all fun fn => !(fn.name == "runtime.NumGoroutine")) = true := by kernel_rfl
theorem mix : Q.follows .mixedOrders = true := by kernel_rfl
theorem und2 : undU Q 2 = some (.int .i64) := by kernel_rfl
theorem agg2 : isAggU Q 2 = some false := by kernel_rfl
theorem sz2 : szU Q 2 = some 1 := by kernel_rfl
-- T2 int64 size 1 bytes 8
theorem und3 : undU Q 3 = some (.int .i64) := by kernel_rfl
theorem agg3 : isAggU Q 3 = some false := by kernel_rfl
theorem sz3 : szU Q 3 = some 1 := by kernel_rfl
-- T3 int size 1 bytes 8
theorem und4 : undU Q 4 = some .bool := by kernel_rfl
theorem agg4 : isAggU Q 4 = some false := by kernel_rfl
theorem sz4 : szU Q 4 = some 1 := by kernel_rfl
-- T4 bool size 1 bytes 1
theorem und5 : undU Q 5 = some (.int .u8) := by kernel_rfl
theorem agg5 : isAggU Q 5 = some false := by kernel_rfl
theorem sz5 : szU Q 5 = some 1 := by kernel_rfl
-- T5 uint8 size 1 bytes 1
theorem und9 : undU Q 9 = some .string := by kernel_rfl
theorem agg9 : isAggU Q 9 = some false := by kernel_rfl
theorem sz9 : szU Q 9 = some 1 := by kernel_rfl
-- T9 string size 1 bytes 16
theorem und22 : undU Q 22 = some (.slice 70) := by kernel_rfl
theorem agg22 : isAggU Q 22 = some false := by kernel_rfl
theorem sz22 : szU Q 22 = some 1 := by kernel_rfl
-- T22 []api.Item size 1 bytes 24
theorem und23 : undU Q 23 = some (.slice 104) := by kernel_rfl
theorem agg23 : isAggU Q 23 = some false := by kernel_rfl
theorem sz23 : szU Q 23 = some 1 := by kernel_rfl
-- T23 []api.Sym size 1 bytes 24
theorem und24 : undU Q 24 = some (.slice 2) := by kernel_rfl
theorem agg24 : isAggU Q 24 = some false := by kernel_rfl
theorem sz24 : szU Q 24 = some 1 := by kernel_rfl
-- T24 []int64 size 1 bytes 24
theorem und26 : undU Q 26 = some (.int .i64) := by kernel_rfl
theorem agg26 : isAggU Q 26 = some false := by kernel_rfl
theorem sz26 : szU Q 26 = some 1 := by kernel_rfl
-- T26 api.Errno size 1 bytes 8
theorem und35 : undU Q 35 = some (.slice 5) := by kernel_rfl
theorem agg35 : isAggU Q 35 = some false := by kernel_rfl
theorem sz35 : szU Q 35 = some 1 := by kernel_rfl
-- T35 []uint8 size 1 bytes 24
theorem und36 : undU Q 36 = some (.slice 80) := by kernel_rfl
theorem agg36 : isAggU Q 36 = some false := by kernel_rfl
theorem sz36 : szU Q 36 = some 1 := by kernel_rfl
-- T36 []api.Batch size 1 bytes 24
theorem und37 : undU Q 37 = some (.slice 106) := by kernel_rfl
theorem agg37 : isAggU Q 37 = some false := by kernel_rfl
theorem sz37 : szU Q 37 = some 1 := by kernel_rfl
-- T37 []api.Shown size 1 bytes 24
theorem agg64 : isAggU Q 64 = some true := by kernel_rfl
theorem sz64 : szU Q 64 = some 2 := by kernel_rfl
-- T64 api.Int size 2 bytes 16
theorem agg66 : isAggU Q 66 = some true := by kernel_rfl
theorem sz66 : szU Q 66 = some 4 := by kernel_rfl
-- T66 api.Ty size 4 bytes 32
theorem agg68 : isAggU Q 68 = some true := by kernel_rfl
theorem sz68 : szU Q 68 = some 3 := by kernel_rfl
-- T68 api.Value size 3 bytes 32
theorem agg70 : isAggU Q 70 = some true := by kernel_rfl
theorem sz70 : szU Q 70 = some 10 := by kernel_rfl
-- T70 api.Item size 10 bytes 104
theorem und78 : undU Q 78 = some (.slice 87) := by kernel_rfl
theorem agg78 : isAggU Q 78 = some false := by kernel_rfl
theorem sz78 : szU Q 78 = some 1 := by kernel_rfl
-- T78 []api.Record size 1 bytes 24
theorem agg80 : isAggU Q 80 = some true := by kernel_rfl
theorem sz80 : szU Q 80 = some 4 := by kernel_rfl
-- T80 api.Batch size 4 bytes 48
theorem agg87 : isAggU Q 87 = some true := by kernel_rfl
theorem sz87 : szU Q 87 = some 3 := by kernel_rfl
-- T87 api.Record size 3 bytes 40
theorem und91 : undU Q 91 = some (.slice 306) := by kernel_rfl
theorem agg91 : isAggU Q 91 = some false := by kernel_rfl
theorem sz91 : szU Q 91 = some 1 := by kernel_rfl
-- T91 []api.Option size 1 bytes 24
theorem und92 : undU Q 92 = some (.slice 376) := by kernel_rfl
theorem agg92 : isAggU Q 92 = some false := by kernel_rfl
theorem sz92 : szU Q 92 = some 1 := by kernel_rfl
-- T92 []api.VarDef size 1 bytes 24
theorem und93 : undU Q 93 = some (.slice 310) := by kernel_rfl
theorem agg93 : isAggU Q 93 = some false := by kernel_rfl
theorem sz93 : szU Q 93 = some 1 := by kernel_rfl
-- T93 []api.AggDef size 1 bytes 24
theorem und94 : undU Q 94 = some (.slice 161) := by kernel_rfl
theorem agg94 : isAggU Q 94 = some false := by kernel_rfl
theorem sz94 : szU Q 94 = some 1 := by kernel_rfl
-- T94 []api.CodeClause size 1 bytes 24
theorem agg96 : isAggU Q 96 = some true := by kernel_rfl
theorem sz96 : szU Q 96 = some 7 := by kernel_rfl
-- T96 api.Binary size 7 bytes 168
theorem agg104 : isAggU Q 104 = some true := by kernel_rfl
theorem sz104 : szU Q 104 = some 3 := by kernel_rfl
-- T104 api.Sym size 3 bytes 32
theorem agg106 : isAggU Q 106 = some true := by kernel_rfl
theorem sz106 : szU Q 106 = some 5 := by kernel_rfl
-- T106 api.Shown size 5 bytes 48
theorem agg130 : isAggU Q 130 = some false := by kernel_rfl
theorem sz130 : szU Q 130 = some 1 := by kernel_rfl
-- T130 func(api.Batch) bool size 1 bytes 8
theorem agg143 : isAggU Q 143 = some false := by kernel_rfl
theorem sz143 : szU Q 143 = some 1 := by kernel_rfl
-- T143 func(api.Record) bool size 1 bytes 8
theorem und152 : undU Q 152 = some (.slice 151) := by kernel_rfl
theorem agg152 : isAggU Q 152 = some false := by kernel_rfl
theorem sz152 : szU Q 152 = some 1 := by kernel_rfl
-- T152 []api.Code size 1 bytes 24
theorem und153 : undU Q 153 = some (.slice 66) := by kernel_rfl
theorem agg153 : isAggU Q 153 = some false := by kernel_rfl
theorem sz153 : szU Q 153 = some 1 := by kernel_rfl
-- T153 []api.Ty size 1 bytes 24
theorem und156 : undU Q 156 = some (.slice 155) := by kernel_rfl
theorem agg156 : isAggU Q 156 = some false := by kernel_rfl
theorem sz156 : szU Q 156 = some 1 := by kernel_rfl
-- T156 []api.CodeAct size 1 bytes 24
theorem und159 : undU Q 159 = some (.slice 158) := by kernel_rfl
theorem agg159 : isAggU Q 159 = some false := by kernel_rfl
theorem sz159 : szU Q 159 = some 1 := by kernel_rfl
-- T159 []api.Desc size 1 bytes 24
theorem agg161 : isAggU Q 161 = some true := by kernel_rfl
theorem sz161 : szU Q 161 = some 3 := by kernel_rfl
-- T161 api.CodeClause size 3 bytes 72
theorem und202 : undU Q 202 = some (.slice 78) := by kernel_rfl
theorem agg202 : isAggU Q 202 = some false := by kernel_rfl
theorem sz202 : szU Q 202 = some 1 := by kernel_rfl
-- T202 [][]api.Record size 1 bytes 24
theorem agg306 : isAggU Q 306 = some true := by kernel_rfl
theorem sz306 : szU Q 306 = some 2 := by kernel_rfl
-- T306 api.Option size 2 bytes 32
theorem agg310 : isAggU Q 310 = some true := by kernel_rfl
theorem sz310 : szU Q 310 = some 4 := by kernel_rfl
-- T310 api.AggDef size 4 bytes 72
theorem agg376 : isAggU Q 376 = some true := by kernel_rfl
theorem sz376 : szU Q 376 = some 6 := by kernel_rfl
-- T376 api.VarDef size 6 bytes 72
theorem fa87_2 (b off : Nat) : fieldAddrU Q 87 (.ptr b off) 2 = some (.ptr b (off + 2)) := by kernel_rfl
theorem fa87_1 (b off : Nat) : fieldAddrU Q 87 (.ptr b off) 1 = some (.ptr b (off + 1)) := by kernel_rfl
theorem fa87_0 (b off : Nat) : fieldAddrU Q 87 (.ptr b off) 0 = some (.ptr b (off + 0)) := by kernel_rfl
theorem fa80_1 (b off : Nat) : fieldAddrU Q 80 (.ptr b off) 1 = some (.ptr b (off + 1)) := by kernel_rfl
theorem fa80_2 (b off : Nat) : fieldAddrU Q 80 (.ptr b off) 2 = some (.ptr b (off + 2)) := by kernel_rfl
theorem fa80_0 (b off : Nat) : fieldAddrU Q 80 (.ptr b off) 0 = some (.ptr b (off + 0)) := by kernel_rfl
theorem fa80_3 (b off : Nat) : fieldAddrU Q 80 (.ptr b off) 3 = some (.ptr b (off + 3)) := by kernel_rfl
theorem fa106_4 (b off : Nat) : fieldAddrU Q 106 (.ptr b off) 4 = some (.ptr b (off + 4)) := by kernel_rfl
theorem fa106_3 (b off : Nat) : fieldAddrU Q 106 (.ptr b off) 3 = some (.ptr b (off + 3)) := by kernel_rfl
theorem fa68_2 (b off : Nat) : fieldAddrU Q 68 (.ptr b off) 2 = some (.ptr b (off + 2)) := by kernel_rfl
theorem fa70_3 (b off : Nat) : fieldAddrU Q 70 (.ptr b off) 3 = some (.ptr b (off + 6)) := by kernel_rfl
theorem fa70_1 (b off : Nat) : fieldAddrU Q 70 (.ptr b off) 1 = some (.ptr b (off + 1)) := by kernel_rfl
theorem fa70_0 (b off : Nat) : fieldAddrU Q 70 (.ptr b off) 0 = some (.ptr b (off + 0)) := by kernel_rfl
noncomputable def c8 : Code := (Tryz.f8.body).getD .skip
theorem en8 (a0 a1 a2 a3 : AV) : enterU Q 8 [a0, a1, a2, a3] .normal = some (PF 8 127 (lay 0 [a0, a1, a2, a3] .leaf) [.code c8]) := by kernel_rfl
theorem rs8 (n : Nat) (t : Tri AV) (k : List AI) (H : AH) : resultU Q (PF 8 n t k) H = resL (resultsU Q t H [.tmp 8]) := by kernel_rfl
theorem cu8 (l : List AV) (H : AH) : callU Q (.func 8 [] []) l H = some (.enter 8 ([] ++ l ++ []), H) := by kernel_rfl
noncomputable def c10 : Code := (Tryz.f10.body).getD .skip
theorem en10 : enterU Q 10 [] .normal = some (PF 10 191 (lay 0 [] .leaf) [.code c10]) := by kernel_rfl
theorem rs10 (n : Nat) (t : Tri AV) (k : List AI) (H : AH) : resultU Q (PF 10 n t k) H = resL (resultsU Q t H [.tmp 0]) := by kernel_rfl
theorem cu10 (l : List AV) (H : AH) : callU Q (.func 10 [] []) l H = some (.enter 10 ([] ++ l ++ []), H) := by kernel_rfl
noncomputable def c27 : Code := (Tryz.f27.body).getD .skip
theorem en27 (a0 a1 : AV) : enterU Q 27 [a0, a1] .normal = some (PF 27 95 (lay 0 [a0, a1] .leaf) [.code c27]) := by kernel_rfl
theorem rs27 (n : Nat) (t : Tri AV) (k : List AI) (H : AH) : resultU Q (PF 27 n t k) H = resL (resultsU Q t H [.cell 4 80, .tmp 5]) := by kernel_rfl
theorem cu27 (l : List AV) (H : AH) : callU Q (.func 27 [] []) l H = some (.enter 27 ([] ++ l ++ []), H) := by kernel_rfl
noncomputable def c18 : Code := (Tryz.f18.body).getD .skip
theorem en18 (a0 : AV) : enterU Q 18 [a0] .normal = some (PF 18 32 (lay 0 [a0] .leaf) [.code c18]) := by kernel_rfl
theorem rs18 (n : Nat) (t : Tri AV) (k : List AI) (H : AH) : resultU Q (PF 18 n t k) H = resL (resultsU Q t H [.tmp 2, .tmp 3, .tmp 4]) := by kernel_rfl
theorem cu18 (l : List AV) (H : AH) : callU Q (.func 18 [] []) l H = some (.enter 18 ([] ++ l ++ []), H) := by kernel_rfl
noncomputable def c52 : Code := (Tryz.f52.body).getD .skip
theorem en52 (a0 a1 : AV) : enterU Q 52 [a0, a1] .normal = some (PF 52 9 (lay 0 [a0, a1] .leaf) [.code c52]) := by kernel_rfl
theorem rs52 (n : Nat) (t : Tri AV) (k : List AI) (H : AH) : resultU Q (PF 52 n t k) H = resL (resultsU Q t H [.tmp 4]) := by kernel_rfl
theorem cu52 (l : List AV) (H : AH) : callU Q (.func 52 [] []) l H = some (.enter 52 ([] ++ l ++ []), H) := by kernel_rfl
noncomputable def c93 : Code := (Tryz.f93.body).getD .skip
theorem en93 (a0 a1 : AV) : enterU Q 93 [a0, a1] .normal = some (PF 93 19 (lay 0 [a0, a1] .leaf) [.code c93]) := by kernel_rfl
theorem rs93 (n : Nat) (t : Tri AV) (k : List AI) (H : AH) : resultU Q (PF 93 n t k) H = resL (resultsU Q t H [.tmp 4]) := by kernel_rfl
theorem cu93 (l : List AV) (H : AH) : callU Q (.func 93 [] []) l H = some (.enter 93 ([] ++ l ++ []), H) := by kernel_rfl
noncomputable def c53 : Code := (Tryz.f53.body).getD .skip
theorem en53 (a0 : AV) : enterU Q 53 [a0] .normal = some (PF 53 6 (lay 0 [a0] .leaf) [.code c53]) := by kernel_rfl
theorem rs53 (n : Nat) (t : Tri AV) (k : List AI) (H : AH) : resultU Q (PF 53 n t k) H = resL (resultsU Q t H [.tmp 2]) := by kernel_rfl
theorem cu53 (l : List AV) (H : AH) : callU Q (.func 53 [] []) l H = some (.enter 53 ([] ++ l ++ []), H) := by kernel_rfl
noncomputable def c54 : Code := (Tryz.f54.body).getD .skip
theorem en54 (a0 : AV) : enterU Q 54 [a0] .normal = some (PF 54 35 (lay 0 [a0] .leaf) [.code c54]) := by kernel_rfl
theorem rs54 (n : Nat) (t : Tri AV) (k : List AI) (H : AH) : resultU Q (PF 54 n t k) H = resL (resultsU Q t H [.tmp 2]) := by kernel_rfl
theorem cu54 (l : List AV) (H : AH) : callU Q (.func 54 [] []) l H = some (.enter 54 ([] ++ l ++ []), H) := by kernel_rfl
noncomputable def c94 : Code := (Tryz.f94.body).getD .skip
theorem en94 (a0 : AV) : enterU Q 94 [a0] .normal = some (PF 94 12 (lay 0 [a0] .leaf) [.code c94]) := by kernel_rfl
theorem rs94 (n : Nat) (t : Tri AV) (k : List AI) (H : AH) : resultU Q (PF 94 n t k) H = resL (resultsU Q t H [.tmp 2]) := by kernel_rfl
theorem cu94 (l : List AV) (H : AH) : callU Q (.func 94 [] []) l H = some (.enter 94 ([] ++ l ++ []), H) := by kernel_rfl
noncomputable def c95 : Code := (Tryz.f95.body).getD .skip
theorem en95 (a0 : AV) : enterU Q 95 [a0] .normal = some (PF 95 11 (lay 0 [a0] .leaf) [.code c95]) := by kernel_rfl
theorem rs95 (n : Nat) (t : Tri AV) (k : List AI) (H : AH) : resultU Q (PF 95 n t k) H = resL (resultsU Q t H [.tmp 2, .tmp 3]) := by kernel_rfl
theorem cu95 (l : List AV) (H : AH) : callU Q (.func 95 [] []) l H = some (.enter 95 ([] ++ l ++ []), H) := by kernel_rfl
noncomputable def c133 : Code := (Tryz.f133.body).getD .skip
theorem en133 (a0 : AV) : enterU Q 133 [a0] .normal = some (PF 133 27 (lay 0 [a0] .leaf) [.code c133]) := by kernel_rfl
theorem rs133 (n : Nat) (t : Tri AV) (k : List AI) (H : AH) : resultU Q (PF 133 n t k) H = resL (resultsU Q t H [.tmp 2]) := by kernel_rfl
theorem cu133 (l : List AV) (H : AH) : callU Q (.func 133 [] []) l H = some (.enter 133 ([] ++ l ++ []), H) := by kernel_rfl
noncomputable def c96 : Code := (Tryz.f96.body).getD .skip
theorem en96 (a0 a1 : AV) : enterU Q 96 [a0, a1] .normal = some (PF 96 9 (lay 0 [a0, a1] .leaf) [.code c96]) := by kernel_rfl
theorem rs96 (n : Nat) (t : Tri AV) (k : List AI) (H : AH) : resultU Q (PF 96 n t k) H = resL (resultsU Q t H [.tmp 4]) := by kernel_rfl
theorem cu96 (l : List AV) (H : AH) : callU Q (.func 96 [] []) l H = some (.enter 96 ([] ++ l ++ []), H) := by kernel_rfl
noncomputable def c105 : Code := (Tryz.f105.body).getD .skip
theorem en105 (a0 a1 : AV) : enterU Q 105 [a0, a1] .normal = some (PF 105 19 (lay 0 [a0, a1] .leaf) [.code c105]) := by kernel_rfl
theorem rs105 (n : Nat) (t : Tri AV) (k : List AI) (H : AH) : resultU Q (PF 105 n t k) H = resL (resultsU Q t H [.tmp 4]) := by kernel_rfl
theorem cu105 (l : List AV) (H : AH) : callU Q (.func 105 [] []) l H = some (.enter 105 ([] ++ l ++ []), H) := by kernel_rfl
noncomputable def c60 : Code := (Tryz.f60.body).getD .skip
theorem en60 (a0 : AV) : enterU Q 60 [a0] .normal = some (PF 60 23 (lay 0 [a0] .leaf) [.code c60]) := by kernel_rfl
theorem rs60 (n : Nat) (t : Tri AV) (k : List AI) (H : AH) : resultU Q (PF 60 n t k) H = resL (resultsU Q t H [.tmp 2]) := by kernel_rfl
theorem cu60 (l : List AV) (H : AH) : callU Q (.func 60 [] []) l H = some (.enter 60 ([] ++ l ++ []), H) := by kernel_rfl
noncomputable def c61 : Code := (Tryz.f61.body).getD .skip
theorem en61 (a0 : AV) : enterU Q 61 [a0] .normal = some (PF 61 36 (lay 0 [a0] .leaf) [.code c61]) := by kernel_rfl
theorem rs61 (n : Nat) (t : Tri AV) (k : List AI) (H : AH) : resultU Q (PF 61 n t k) H = resL (resultsU Q t H [.tmp 2]) := by kernel_rfl
theorem cu61 (l : List AV) (H : AH) : callU Q (.func 61 [] []) l H = some (.enter 61 ([] ++ l ++ []), H) := by kernel_rfl
noncomputable def c101 : Code := (Tryz.f101.body).getD .skip
theorem en101 (a0 : AV) : enterU Q 101 [a0] .normal = some (PF 101 8 (lay 0 [a0] .leaf) [.code c101]) := by kernel_rfl
theorem rs101 (n : Nat) (t : Tri AV) (k : List AI) (H : AH) : resultU Q (PF 101 n t k) H = resL (resultsU Q t H [.tmp 2]) := by kernel_rfl
theorem cu101 (l : List AV) (H : AH) : callU Q (.func 101 [] []) l H = some (.enter 101 ([] ++ l ++ []), H) := by kernel_rfl
noncomputable def c102 : Code := (Tryz.f102.body).getD .skip
theorem en102 (a0 : AV) : enterU Q 102 [a0] .normal = some (PF 102 8 (lay 0 [a0] .leaf) [.code c102]) := by kernel_rfl
theorem rs102 (n : Nat) (t : Tri AV) (k : List AI) (H : AH) : resultU Q (PF 102 n t k) H = resL (resultsU Q t H [.tmp 2]) := by kernel_rfl
theorem cu102 (l : List AV) (H : AH) : callU Q (.func 102 [] []) l H = some (.enter 102 ([] ++ l ++ []), H) := by kernel_rfl
noncomputable def c103 : Code := (Tryz.f103.body).getD .skip
theorem en103 (a0 a1 : AV) : enterU Q 103 [a0, a1] .normal = some (PF 103 27 (lay 0 [a0, a1] .leaf) [.code c103]) := by kernel_rfl
theorem rs103 (n : Nat) (t : Tri AV) (k : List AI) (H : AH) : resultU Q (PF 103 n t k) H = resL (resultsU Q t H [.tmp 4]) := by kernel_rfl
theorem cu103 (l : List AV) (H : AH) : callU Q (.func 103 [] []) l H = some (.enter 103 ([] ++ l ++ []), H) := by kernel_rfl
end Go.Ev.C
end
