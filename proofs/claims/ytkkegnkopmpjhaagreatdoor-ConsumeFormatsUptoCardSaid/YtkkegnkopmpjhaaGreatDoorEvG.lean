/- Contracts: texts, conversions of a format. -/
import Derived.Test.YtkkegnkopmpjhaaGreatDoorEvF
import Derived.Test.YtkkegnkopmpjhaaGreatDoorEvE
section
set_option linter.unusedVariables false
set_option linter.unusedSimpArgs false
set_option linter.defProp false
set_option linter.all false
namespace Go.Ev.C
open Go.Proofs
-- T2 int64 size 1 bytes 8
-- T3 int size 1 bytes 8
-- T4 bool size 1 bytes 1
-- T5 uint8 size 1 bytes 1
-- T9 string size 1 bytes 16
theorem und21 : Yi Q 21 = some (.int .i32) := by kernel_rfl
-- T21 int32 size 1 bytes 4
-- T22 []api.Item size 1 bytes 24
-- T24 []int64 size 1 bytes 24
-- T26 api.Errno size 1 bytes 8
-- T35 []uint8 size 1 bytes 24
-- T64 api.Int size 2 bytes 16
-- T66 api.Ty size 4 bytes 32
-- T68 api.Value size 3 bytes 32
-- T70 api.Item size 10 bytes 104
theorem ZY : Yi Q 71 = some (.int .u64) := by kernel_rfl
-- T71 uint64 size 1 bytes 8
theorem und74 : Yi Q 74 = some (.slice 9) := by kernel_rfl
-- T74 []string size 1 bytes 24
theorem und168 : Yi Q 168 = some (.pointer 170) := by kernel_rfl
theorem agg168 : Xq Q 168 = some false := by kernel_rfl
theorem sz168 : szU Q 168 = some 1 := by kernel_rfl
-- T168 *strings.Builder size 1 bytes 8
theorem sz170 : szU Q 170 = some 2 := by kernel_rfl
-- T170 strings.Builder size 2 bytes 32
-- T172 error size 1 bytes 16
theorem YO : Yi Q 195 = some (.int .u64) := by kernel_rfl
-- T195 uint size 1 bytes 8
theorem und239 : Yi Q 239 = some (.pointer 5) := by kernel_rfl
-- T239 *uint8 size 1 bytes 8
-- T282 unsafe.Pointer size 1 bytes 8
theorem und286 : Yi Q 286 = some (.map 64 284) := by kernel_rfl
-- T286 map[api.Int]func(int64) int64 size 1 bytes 8
theorem und295 : Yi Q 295 = some (.int .i8) := by kernel_rfl
-- T295 int8 size 1 bytes 1
theorem und296 : Yi Q 296 = some (.int .i16) := by kernel_rfl
-- T296 int16 size 1 bytes 2
theorem und297 : Yi Q 297 = some (.int .u16) := by kernel_rfl
-- T297 uint16 size 1 bytes 2
theorem und298 : Yi Q 298 = some (.int .u32) := by kernel_rfl
-- T298 uint32 size 1 bytes 4
-- T355 [24]uint8 size 24 bytes 24
-- T419 [20]uint64 size 20 bytes 160
theorem und420 : Yi Q 420 = some (.array 65 5) := by kernel_rfl
-- T420 [65]uint8 size 65 bytes 65
theorem ZW (b off : Nat) : Ya Q 64 (.ptr b off) 0 = some (.ptr b (off + 0)) := by kernel_rfl
theorem Zy (b off : Nat) : Ya Q 66 (.ptr b off) 1 = some (.ptr b (off + 1)) := by kernel_rfl
theorem ZT (b off : Nat) : Ya Q 70 (.ptr b off) 2 = some (.ptr b (off + 2)) := by kernel_rfl
theorem Zz (b off : Nat) : Ya Q 66 (.ptr b off) 0 = some (.ptr b (off + 0)) := by kernel_rfl
theorem Zo (b off : Nat) : Ya Q 68 (.ptr b off) 1 = some (.ptr b (off + 1)) := by kernel_rfl
theorem fa170_0 (b off : Nat) : Ya Q 170 (.ptr b off) 0 = some (.ptr b (off + 0)) := by kernel_rfl
theorem YJ (b off : Nat) : Ya Q 170 (.ptr b off) 1 = some (.ptr b (off + 1)) := by kernel_rfl
theorem ZQ (b off : Nat) : Ya Q 68 (.ptr b off) 0 = some (.ptr b (off + 0)) := by kernel_rfl
noncomputable def c5 : Code := (Tryz.f5.body).getD .skip
noncomputable def c11 : Code := (Tryz.f11.body).getD .skip
theorem en11 (a0 a1 : AV) : ZI Q 11 [a0, a1] .normal = some (PF 11 45 (Zm 0 [a0, a1] .leaf) [.code c11]) := by kernel_rfl
theorem rs11 (n : Nat) (t : Tri AV) (k : List AI) (H : AH) : ZB Q (PF 11 n t k) H = Zv (Zj Q t H [.tmp 4, .tmp 5]) := by kernel_rfl
theorem cu11 (l : List AV) (H : AH) : Z3 Q (.func 11 [] []) l H = some (.enter 11 ([] ++ l ++ []), H) := by kernel_rfl
noncomputable def c37 : Code := (Tryz.f37.body).getD .skip
theorem en37 (a0 : AV) : ZI Q 37 [a0] .normal = some (PF 37 79 (Zm 0 [a0] .leaf) [.code c37]) := by kernel_rfl
theorem rs37 (n : Nat) (t : Tri AV) (k : List AI) (H : AH) : ZB Q (PF 37 n t k) H = Zv (Zj Q t H [.tmp 2, .tmp 3]) := by kernel_rfl
noncomputable def c38 : Code := (Tryz.f38.body).getD .skip
theorem en38 (a0 a1 : AV) : ZI Q 38 [a0, a1] .normal = some (PF 38 69 (Zm 0 [a0, a1] .leaf) [.code c38]) := by kernel_rfl
theorem rs38 (n : Nat) (t : Tri AV) (k : List AI) (H : AH) : ZB Q (PF 38 n t k) H = Zv (Zj Q t H [.tmp 4]) := by kernel_rfl
theorem cu38 (l : List AV) (H : AH) : Z3 Q (.func 38 [] []) l H = some (.enter 38 ([] ++ l ++ []), H) := by kernel_rfl
noncomputable def c39 : Code := (Tryz.f39.body).getD .skip
theorem en39 (a0 a1 a2 : AV) : ZI Q 39 [a0, a1, a2] .normal = some (PF 39 53 (Zm 0 [a0, a1, a2] .leaf) [.code c39]) := by kernel_rfl
theorem rs39 (n : Nat) (t : Tri AV) (k : List AI) (H : AH) : ZB Q (PF 39 n t k) H = Zv (Zj Q t H [.tmp 6]) := by kernel_rfl
noncomputable def c74 : Code := (Tryz.f74.body).getD .skip
theorem en74 (a0 a1 : AV) : ZI Q 74 [a0, a1] .normal = some (PF 74 9 (Zm 0 [a0, a1] .leaf) [.code c74]) := by kernel_rfl
theorem rs74 (n : Nat) (t : Tri AV) (k : List AI) (H : AH) : ZB Q (PF 74 n t k) H = Zv (Zj Q t H [.tmp 4]) := by kernel_rfl
noncomputable def c115 : Code := (Tryz.f115.body).getD .skip
theorem en115 (a0 a1 : AV) : ZI Q 115 [a0, a1] .normal = some (PF 115 19 (Zm 0 [a0, a1] .leaf) [.code c115]) := by kernel_rfl
theorem rs115 (n : Nat) (t : Tri AV) (k : List AI) (H : AH) : ZB Q (PF 115 n t k) H = Zv (Zj Q t H [.tmp 4]) := by kernel_rfl
theorem cu115 (l : List AV) (H : AH) : Z3 Q (.func 115 [] []) l H = some (.enter 115 ([] ++ l ++ []), H) := by kernel_rfl
noncomputable def c75 : Code := (Tryz.f75.body).getD .skip
theorem en75 (a0 a1 : AV) : ZI Q 75 [a0, a1] .normal = some (PF 75 9 (Zm 0 [a0, a1] .leaf) [.code c75]) := by kernel_rfl
theorem rs75 (n : Nat) (t : Tri AV) (k : List AI) (H : AH) : ZB Q (PF 75 n t k) H = Zv (Zj Q t H [.tmp 4]) := by kernel_rfl
theorem cu75 (l : List AV) (H : AH) : Z3 Q (.func 75 [] []) l H = some (.enter 75 ([] ++ l ++ []), H) := by kernel_rfl
noncomputable def c116 : Code := (Tryz.f116.body).getD .skip
theorem en116 (a0 a1 : AV) : ZI Q 116 [a0, a1] .normal = some (PF 116 8 (Zm 0 [a0, a1] .leaf) [.code c116]) := by kernel_rfl
theorem rs116 (n : Nat) (t : Tri AV) (k : List AI) (H : AH) : ZB Q (PF 116 n t k) H = Zv (Zj Q t H [.tmp 4]) := by kernel_rfl
theorem cu116 (l : List AV) (H : AH) : Z3 Q (.func 116 [] []) l H = some (.enter 116 ([] ++ l ++ []), H) := by kernel_rfl
noncomputable def c155 : Code := (Tryz.f155.body).getD .skip
theorem en155 (a0 a1 : AV) : ZI Q 155 [a0, a1] .normal = some (PF 155 143 (Zm 0 [a0, a1] .leaf) [.code c155]) := by kernel_rfl
theorem rs155 (n : Nat) (t : Tri AV) (k : List AI) (H : AH) : ZB Q (PF 155 n t k) H = Zv (Zj Q t H [.tmp 4]) := by kernel_rfl
theorem cu155 (l : List AV) (H : AH) : Z3 Q (.func 155 [] []) l H = some (.enter 155 ([] ++ l ++ []), H) := by kernel_rfl
noncomputable def c211 : Code := (Tryz.f211.body).getD .skip
theorem en211 (a0 a1 : AV) : ZI Q 211 [a0, a1] .normal = some (PF 211 8 (Zm 0 [a0, a1] .leaf) [.code c211]) := by kernel_rfl
theorem rs211 (n : Nat) (t : Tri AV) (k : List AI) (H : AH) : ZB Q (PF 211 n t k) H = Zv (Zj Q t H [.tmp 4]) := by kernel_rfl
theorem cu211 (l : List AV) (H : AH) : Z3 Q (.func 211 [] []) l H = some (.enter 211 ([] ++ l ++ []), H) := by kernel_rfl
noncomputable def c76 : Code := (Tryz.f76.body).getD .skip
theorem en76 (a0 a1 : AV) : ZI Q 76 [a0, a1] .normal = some (PF 76 15 (Zm 0 [a0, a1] .leaf) [.code c76]) := by kernel_rfl
theorem rs76 (n : Nat) (t : Tri AV) (k : List AI) (H : AH) : ZB Q (PF 76 n t k) H = Zv (Zj Q t H [.tmp 4, .tmp 5]) := by kernel_rfl
theorem cu76 (l : List AV) (H : AH) : Z3 Q (.func 76 [] []) l H = some (.enter 76 ([] ++ l ++ []), H) := by kernel_rfl
noncomputable def c117 : Code := (Tryz.f117.body).getD .skip
theorem en117 (a0 : AV) : ZI Q 117 [a0] .normal = some (PF 117 13 (Zm 0 [a0] .leaf) [.code c117]) := by kernel_rfl
theorem rs117 (n : Nat) (t : Tri AV) (k : List AI) (H : AH) : ZB Q (PF 117 n t k) H = Zv (Zj Q t H [.tmp 2]) := by kernel_rfl
theorem cu117 (l : List AV) (H : AH) : Z3 Q (.func 117 [] []) l H = some (.enter 117 ([] ++ l ++ []), H) := by kernel_rfl
noncomputable def c118 : Code := (Tryz.f118.body).getD .skip
theorem en118 (a0 a1 : AV) : ZI Q 118 [a0, a1] .normal = some (PF 118 10 (Zm 0 [a0, a1] .leaf) [.code c118]) := by kernel_rfl
theorem rs118 (n : Nat) (t : Tri AV) (k : List AI) (H : AH) : ZB Q (PF 118 n t k) H = Zv (Zj Q t H [.tmp 4]) := by kernel_rfl
theorem cu118 (l : List AV) (H : AH) : Z3 Q (.func 118 [] []) l H = some (.enter 118 ([] ++ l ++ []), H) := by kernel_rfl
noncomputable def c156 : Code := (Tryz.f156.body).getD .skip
theorem en156 : ZI Q 156 [] .normal = some (PF 156 11 (Zm 0 [] .leaf) [.code c156]) := by kernel_rfl
theorem rs156 (n : Nat) (t : Tri AV) (k : List AI) (H : AH) : ZB Q (PF 156 n t k) H = Zv (Zj Q t H [.tmp 0]) := by kernel_rfl
theorem cu156 (l : List AV) (H : AH) : Z3 Q (.func 156 [] []) l H = some (.enter 156 ([] ++ l ++ []), H) := by kernel_rfl
noncomputable def c215 : Code := (Tryz.f215.body).getD .skip
theorem en215 (a0 : AV) : ZI Q 215 [a0] .normal = some (PF 215 6 (Zm 0 [a0] .leaf) [.code c215]) := by kernel_rfl
theorem rs215 (n : Nat) (t : Tri AV) (k : List AI) (H : AH) : ZB Q (PF 215 n t k) H = Zv (Zj Q t H [.tmp 2]) := by kernel_rfl
noncomputable def c216 : Code := (Tryz.f216.body).getD .skip
theorem en216 (a0 : AV) : ZI Q 216 [a0] .normal = some (PF 216 6 (Zm 0 [a0] .leaf) [.code c216]) := by kernel_rfl
theorem rs216 (n : Nat) (t : Tri AV) (k : List AI) (H : AH) : ZB Q (PF 216 n t k) H = Zv (Zj Q t H [.tmp 2]) := by kernel_rfl
noncomputable def c217 : Code := (Tryz.f217.body).getD .skip
theorem en217 (a0 : AV) : ZI Q 217 [a0] .normal = some (PF 217 6 (Zm 0 [a0] .leaf) [.code c217]) := by kernel_rfl
theorem rs217 (n : Nat) (t : Tri AV) (k : List AI) (H : AH) : ZB Q (PF 217 n t k) H = Zv (Zj Q t H [.tmp 2]) := by kernel_rfl
noncomputable def c218 : Code := (Tryz.f218.body).getD .skip
theorem en218 (a0 : AV) : ZI Q 218 [a0] .normal = some (PF 218 6 (Zm 0 [a0] .leaf) [.code c218]) := by kernel_rfl
theorem rs218 (n : Nat) (t : Tri AV) (k : List AI) (H : AH) : ZB Q (PF 218 n t k) H = Zv (Zj Q t H [.tmp 2]) := by kernel_rfl
noncomputable def c219 : Code := (Tryz.f219.body).getD .skip
theorem en219 (a0 : AV) : ZI Q 219 [a0] .normal = some (PF 219 6 (Zm 0 [a0] .leaf) [.code c219]) := by kernel_rfl
theorem rs219 (n : Nat) (t : Tri AV) (k : List AI) (H : AH) : ZB Q (PF 219 n t k) H = Zv (Zj Q t H [.tmp 2]) := by kernel_rfl
noncomputable def c220 : Code := (Tryz.f220.body).getD .skip
theorem en220 (a0 : AV) : ZI Q 220 [a0] .normal = some (PF 220 6 (Zm 0 [a0] .leaf) [.code c220]) := by kernel_rfl
theorem rs220 (n : Nat) (t : Tri AV) (k : List AI) (H : AH) : ZB Q (PF 220 n t k) H = Zv (Zj Q t H [.tmp 2]) := by kernel_rfl
noncomputable def c221 : Code := (Tryz.f221.body).getD .skip
theorem en221 (a0 : AV) : ZI Q 221 [a0] .normal = some (PF 221 4 (Zm 0 [a0] .leaf) [.code c221]) := by kernel_rfl
theorem rs221 (n : Nat) (t : Tri AV) (k : List AI) (H : AH) : ZB Q (PF 221 n t k) H = Zv (Zj Q t H [.tmp 2]) := by kernel_rfl
noncomputable def c222 : Code := (Tryz.f222.body).getD .skip
theorem en222 (a0 : AV) : ZI Q 222 [a0] .normal = some (PF 222 6 (Zm 0 [a0] .leaf) [.code c222]) := by kernel_rfl
theorem rs222 (n : Nat) (t : Tri AV) (k : List AI) (H : AH) : ZB Q (PF 222 n t k) H = Zv (Zj Q t H [.tmp 2]) := by kernel_rfl
noncomputable def c71 : Code := (Tryz.f71.body).getD .skip
theorem en71 (a0 a1 : AV) : ZI Q 71 [a0, a1] .normal = some (PF 71 19 (Zm 0 [a0, a1] .leaf) [.code c71]) := by kernel_rfl
theorem rs71 (n : Nat) (t : Tri AV) (k : List AI) (H : AH) : ZB Q (PF 71 n t k) H = Zv (Zj Q t H [.tmp 4, .tmp 5]) := by kernel_rfl
noncomputable def c73 : Code := (Tryz.f73.body).getD .skip
theorem en73 (a0 : AV) : ZI Q 73 [a0] .normal = some (PF 73 14 (Zm 0 [a0] .leaf) [.code c73]) := by kernel_rfl
theorem rs73 (n : Nat) (t : Tri AV) (k : List AI) (H : AH) : ZB Q (PF 73 n t k) H = Zv (Zj Q t H [.tmp 2]) := by kernel_rfl
noncomputable def c77 : Code := (Tryz.f77.body).getD .skip
theorem en77 (a0 a1 : AV) : ZI Q 77 [a0, a1] .normal = some (PF 77 17 (Zm 0 [a0, a1] .leaf) [.code c77]) := by kernel_rfl
theorem rs77 (n : Nat) (t : Tri AV) (k : List AI) (H : AH) : ZB Q (PF 77 n t k) H = Zv (Zj Q t H [.tmp 4]) := by kernel_rfl
noncomputable def c114 : Code := (Tryz.f114.body).getD .skip
theorem en114 (a0 : AV) : ZI Q 114 [a0] .normal = some (PF 114 20 (Zm 0 [a0] .leaf) [.code c114]) := by kernel_rfl
theorem rs114 (n : Nat) (t : Tri AV) (k : List AI) (H : AH) : ZB Q (PF 114 n t k) H = Zv (Zj Q t H []) := by kernel_rfl
theorem cu114 (l : List AV) (H : AH) : Z3 Q (.func 114 [] []) l H = some (.enter 114 ([] ++ l ++ []), H) := by kernel_rfl
noncomputable def c78 : Code := (Tryz.f78.body).getD .skip
theorem en78 (a0 a1 : AV) : ZI Q 78 [a0, a1] .normal = some (PF 78 8 (Zm 0 [a0, a1] .leaf) [.code c78]) := by kernel_rfl
theorem rs78 (n : Nat) (t : Tri AV) (k : List AI) (H : AH) : ZB Q (PF 78 n t k) H = Zv (Zj Q t H [.tmp 4]) := by kernel_rfl
theorem cu78 (l : List AV) (H : AH) : Z3 Q (.func 78 [] []) l H = some (.enter 78 ([] ++ l ++ []), H) := by kernel_rfl
noncomputable def c119 : Code := (Tryz.f119.body).getD .skip
theorem en119 (a0 a1 : AV) : ZI Q 119 [a0, a1] .normal = some (PF 119 18 (Zm 0 [a0, a1] .leaf) [.code c119]) := by kernel_rfl
theorem rs119 (n : Nat) (t : Tri AV) (k : List AI) (H : AH) : ZB Q (PF 119 n t k) H = Zv (Zj Q t H [.tmp 4]) := by kernel_rfl
theorem cu119 (l : List AV) (H : AH) : Z3 Q (.func 119 [] []) l H = some (.enter 119 ([] ++ l ++ []), H) := by kernel_rfl
noncomputable def c79 : Code := (Tryz.f79.body).getD .skip
theorem en79 (a0 a1 : AV) : ZI Q 79 [a0, a1] .normal = some (PF 79 84 (Zm 0 [a0, a1] .leaf) [.code c79]) := by kernel_rfl
theorem rs79 (n : Nat) (t : Tri AV) (k : List AI) (H : AH) : ZB Q (PF 79 n t k) H = Zv (Zj Q t H [.tmp 4]) := by kernel_rfl
noncomputable def c120 : Code := (Tryz.f120.body).getD .skip
theorem en120 (a0 : AV) : ZI Q 120 [a0] .normal = some (PF 120 29 (Zm 0 [a0] .leaf) [.code c120]) := by kernel_rfl
theorem rs120 (n : Nat) (t : Tri AV) (k : List AI) (H : AH) : ZB Q (PF 120 n t k) H = Zv (Zj Q t H [.tmp 2]) := by kernel_rfl
theorem cu120 (l : List AV) (H : AH) : Z3 Q (.func 120 [] []) l H = some (.enter 120 ([] ++ l ++ []), H) := by kernel_rfl
noncomputable def c72 : Code := (Tryz.f72.body).getD .skip
theorem en72 (a0 : AV) : ZI Q 72 [a0] .normal = some (PF 72 5 (Zm 0 [a0] .leaf) [.code c72]) := by kernel_rfl
theorem rs72 (n : Nat) (t : Tri AV) (k : List AI) (H : AH) : ZB Q (PF 72 n t k) H = Zv (Zj Q t H [.tmp 2]) := by kernel_rfl
theorem YI (l : List AV) (H : AH) : Z3 Q (.func 72 [] []) l H = some (.enter 72 ([] ++ l ++ []), H) := by kernel_rfl
noncomputable def c113 : Code := (Tryz.f113.body).getD .skip
theorem en113 (a0 a1 : AV) : ZI Q 113 [a0, a1] .normal = some (PF 113 8 (Zm 0 [a0, a1] .leaf) [.code c113]) := by kernel_rfl
theorem rs113 (n : Nat) (t : Tri AV) (k : List AI) (H : AH) : ZB Q (PF 113 n t k) H = Zv (Zj Q t H [.tmp 4]) := by kernel_rfl
theorem cu113 (l : List AV) (H : AH) : Z3 Q (.func 113 [] []) l H = some (.enter 113 ([] ++ l ++ []), H) := by kernel_rfl
noncomputable def c111 : Code := (Tryz.f111.body).getD .skip
theorem en111 (a0 a1 : AV) : ZI Q 111 [a0, a1] .normal = some (PF 111 8 (Zm 0 [a0, a1] .leaf) [.code c111]) := by kernel_rfl
theorem rs111 (n : Nat) (t : Tri AV) (k : List AI) (H : AH) : ZB Q (PF 111 n t k) H = Zv (Zj Q t H [.tmp 4]) := by kernel_rfl
theorem Z6 (l : List AV) (H : AH) : Z3 Q (.func 111 [] []) l H = some (.enter 111 ([] ++ l ++ []), H) := by kernel_rfl
theorem cu121 (l : List AV) (H : AH) : Z3 Q (.func 121 [] []) l H = some (.enter 121 ([] ++ l ++ []), H) := by kernel_rfl
noncomputable def c122 : Code := (Tryz.f122.body).getD .skip
theorem en122 (a0 a1 : AV) : ZI Q 122 [a0, a1] .normal = some (PF 122 8 (Zm 0 [a0, a1] .leaf) [.code c122]) := by kernel_rfl
theorem rs122 (n : Nat) (t : Tri AV) (k : List AI) (H : AH) : ZB Q (PF 122 n t k) H = Zv (Zj Q t H [.tmp 4]) := by kernel_rfl
theorem cu122 (l : List AV) (H : AH) : Z3 Q (.func 122 [] []) l H = some (.enter 122 ([] ++ l ++ []), H) := by kernel_rfl
theorem cu123 (l : List AV) (H : AH) : Z3 Q (.func 123 [] []) l H = some (.enter 123 ([] ++ l ++ []), H) := by kernel_rfl
theorem cu153 (l : List AV) (H : AH) : Z3 Q (.func 153 [] []) l H = some (.enter 153 ([] ++ l ++ []), H) := by kernel_rfl
noncomputable def c149 : Code := (Tryz.f149.body).getD .skip
theorem en149 (a0 a1 : AV) : ZI Q 149 [a0, a1] .normal = some (PF 149 32 (Zm 0 [a0, a1] .leaf) [.code c149]) := by kernel_rfl
theorem rs149 (n : Nat) (t : Tri AV) (k : List AI) (H : AH) : ZB Q (PF 149 n t k) H = Zv (Zj Q t H [.tmp 4]) := by kernel_rfl
theorem cu149 (l : List AV) (H : AH) : Z3 Q (.func 149 [] []) l H = some (.enter 149 ([] ++ l ++ []), H) := by kernel_rfl
noncomputable def c209 : Code := (Tryz.f209.body).getD .skip
theorem en209 (a0 a1 a2 a3 a4 : AV) : ZI Q 209 [a0, a1, a2, a3, a4] .normal = some (PF 209 102 (Zm 0 [a0, a1, a2, a3, a4] .leaf) [.code c209]) := by kernel_rfl
theorem rs209 (n : Nat) (t : Tri AV) (k : List AI) (H : AH) : ZB Q (PF 209 n t k) H = Zv (Zj Q t H [.tmp 10, .tmp 11]) := by kernel_rfl
theorem cu209 (l : List AV) (H : AH) : Z3 Q (.func 209 [] []) l H = some (.enter 209 ([] ++ l ++ []), H) := by kernel_rfl
theorem Xs (l : List AV) (H : AH) : Z3 Q (.func 274 [] []) l H = some (.enter 274 ([] ++ l ++ []), H) := by kernel_rfl
theorem cu275 (l : List AV) (H : AH) : Z3 Q (.func 275 [] []) l H = some (.enter 275 ([] ++ l ++ []), H) := by kernel_rfl
noncomputable def c159 : Code := (Tryz.f159.body).getD .skip
theorem en159 (a0 a1 : AV) : ZI Q 159 [a0, a1] .normal = some (PF 159 13 (Zm 0 [a0, a1] .leaf) [.code c159]) := by kernel_rfl
theorem rs159 (n : Nat) (t : Tri AV) (k : List AI) (H : AH) : ZB Q (PF 159 n t k) H = Zv (Zj Q t H [.tmp 4]) := by kernel_rfl
theorem cu159 (l : List AV) (H : AH) : Z3 Q (.func 159 [] []) l H = some (.enter 159 ([] ++ l ++ []), H) := by kernel_rfl
end Go.Ev.C
end
section
set_option linter.unusedVariables false
set_option linter.unusedSimpArgs false
set_option linter.defProp false
set_option linter.all false
namespace Go.Ev
theorem lay_n (i : Nat) (t : Tri AV) : Zm i [] t = t := rfl
theorem lay_c (i : Nat) (v : AV) (l : List AV) (t : Tri AV) : Zm i (v :: l) t = Zm (i + 1) l (t.put i (some v)) := rfl
def rQ := And.intro rO (And.intro lay_n (And.intro lay_c (And.intro @decide_true (And.intro @Zf.eq_def (And.intro @evalL.eq_def @AV.cells.eq_def)))))
/-- A step of a frame that looks at its code alone. -/
def unS : AI → List AI → Option (List AI)
  | .code (.seq a b), k => some (.code a :: .code b :: k)
  | .code (.block i c), k => some (.code c :: .inBlock i :: k)
  | .code .skip, k => some k
  | .code (.exit i), k => exitU i k
  | .inBlock _, k => some k
  | _, _ => none
section
variable {P : Program} {L : World → Prop} [YQ P L] {f n : Nat} {t : Tri AV} {k : List AI} {H : AH} {Φ : AF → AH → Prop}
theorem Zh {x : AI} {k' : List AI} (h : unS x k = some k') (hw : WF P L (PF f n t k') H Φ) : WF P L (PF f n t (x :: k)) H Φ := by
  unfold unS at h
  split at h
  · cases h; exact WF.seq hw
  · cases h; exact WF.block hw
  · cases h; exact WF.skip hw
  · exact WF.exit h hw
  · cases h; exact XC hw
  · cases h
theorem Zk {ops : Array Oper} {i : Nat} {l : List Oper} {o : Oper} {v : AV} {H1 : AH} {t' : Tri AV} (hg : o.guard = none) (hx : execU P t o.op H = some (.val v, H1))
    (hd : putN n t o.dst v = some t') (h : WO P L f n ops (i + 1) l t' H1 k Φ) : WO P L f n ops i (o :: l) t H k Φ :=
  WO.op (by unfold Zc; rw [hg]) hx hd h
end
def rS := And.intro rQ (And.intro @Wn.eq_def @AH.set.eq_def)
end Go.Ev
end
section
set_option linter.unusedVariables false
set_option linter.unusedSimpArgs false
set_option linter.defProp false
set_option linter.all false
namespace Go.Ev
open Go.RowKit
section
variable {P : Program} {L : World → Prop} [hP : YQ P L] {f n : Nat} {t : Tri AV} {H : AH} {k : List AI} {Φ : AF → AH → Prop}
/-- A contract of the model's: in each world that holds what the heap tells, the call returns a value without memory, and changes nothing that was there. -/
def CallsV (P : Program) (L : World → Prop) (fid : FuncId) (args : List AV) (H : AH) (v : AV) : Prop :=
  ∀ (w : World) (ρ : Ren) (args' : Array Value), L w → GR ρ → WR w ρ (lock H) w → Xg ρ args args'.toList → Calls P fid args' w fun e w' => ∃ ρ' x, e = .returned x ∧ VR ρ' v x ∧ Below w.heap.size w w'
theorem WF.callC {ops : Array Oper} {i : Nat} {rest : List Nat} {o : Oper} {fid : FuncId} {args : List AV} {v : AV} {t' : Tri AV} (ho : ops[i]? = some o) (hw : Zc ops t o = some true) (hdef : ∀ c,o.op ≠ .defer c)
    (hx : execU P t o.op H = some (.enter fid args, H)) (hfl : v.flat = true) (hC : CallsV P L fid args H v)
    (hd : putN n t o.dst v = some t') (h : WF P L (PF f n t' (.inRegion ops rest :: k)) H Φ) : WF P L (PF f n t (.inRegion ops (i :: rest) :: k)) H Φ :=
  h.leads fun cs w0 w g ds c0 hL hm => by
    obtain ⟨ρ, lo, hg, hw', hlo, hf, hs⟩ := hm.rel
    dsimp only at hw' hlo hf hs
    have hgm := X3 hf rfl
    have htd := hf.todo
    generalize hgt : g.todo = gt at htd
    generalize hga : g.tmps = ga at htd
    cases htd with
    | gone hne => exact absurd rfl hne
    | plain hk ht =>
      subst hga
      have hfk : IRs ρ (PF f n t (.inRegion ops (i :: rest) :: k)).todo g.todo := by rw [hgt]; exact hk
      have hlow : FrR P ρ H lo H.next false (PF f n t (.inRegion ops (i :: rest) :: k)) g := ⟨hf.fn, hf.kind, hf.lid, hf.round, hf.mode, hf.defers, .plain hfk ht⟩
      cases hk with
      | cons hi hks =>
        cases hi with
        | inRegion =>
          have hwn := XD (fun d _ v hv => ht.2 d v hv : ∀ d ∈ Oper.looksAt ops o, ∀ v, t.get d = some v → VR ρ v (g.tmps.getD d undef)) hw
          have hdo := execU_sound hP.ng hw' (ev := g.eval) (o := o) (fun x _ => evR_plain hg ht x) hx
          obtain ⟨ρ1, w1, hw1, hp, ho1⟩ := hdo
          dsimp only at hw1 hp ho1
          generalize hres : (execOp g.eval o).run P w = res at ho1
          cases ho1 with
          | ok hn =>
            cases hn with
            | enter ha =>
              rename_i args'
              have hor : g.roundOf = none ∨ ∀ c, o.op ≠ .defer c := .inr hdef
              have hst := stepG_oper (P := P) (cs := ds ++ c0) (w := w) hgm ho hgt hwn hor
              have hno := hlow.todo.noCall
              have hst1 : (stepG P true { frame := g,callers := ds ++ c0,status := .running,dying := none } w).bare = .go { frame := Frame.enter P fid args' .normal,callers := g :: (ds ++ c0),status := .running,dying := none } w1 := by
                rw [hst]
                simp [stepG.apply, hres]
                split
                · rename_i heq; rw [heq] at hno; cases hno
                · rfl
              obtain ⟨e, w2, fr, ⟨ρ', x, he, hvx, hb⟩, hcomes, hfn, hleav⟩ := hC w1 ρ1 args' (hP.keep _ _ hL hw1.below) (hg.ext hp.ext) hw1.lock ha (g :: (ds ++ c0))
              subst he
              have hk1 : YN H.next ρ H ρ1 H := hp.keeps (Nat.le_refl _)
              have hw2 : WR w0 ρ1 H w2 := hw1.later hb
              have hlow1 : FrR P ρ1 H lo H.next false (PF f n t (.inRegion ops (i :: rest) :: k)) g := hlow.keeps hk1 (Nat.le_refl _) (Nat.le_refl _)
              obtain ⟨h1, _⟩ := Yl (x := x) hlow1 rfl (hvx.unflat hfl) (finish_PF ho hd)
              exact ⟨_, ds, w2, (Steps.one (step_lone_go hst1)).trans (Steps.trans hcomes (.one (step_leave_returned hleav))), ⟨ρ1, lo, hg.ext hk1.ext, hw2, hlo, h1, hs.keeps hk1 hlo⟩⟩
theorem WO.callC {ops : Array Oper} {i : Nat} {l : List Oper} {o : Oper} {fid : FuncId} {args : List AV} {v : AV} {t' : Tri AV} (hw : Zc ops t o = some true) (hdef : ∀ c, o.op ≠ .defer c)
    (hx : execU P t o.op H = some (.enter fid args, H)) (hfl : v.flat = true) (hC : CallsV P L fid args H v)
    (hd : putN n t o.dst v = some t') (h : WO P L f n ops (i + 1) l t' H k Φ) : WO P L f n ops i (o :: l) t H k Φ := fun hdr => by
  obtain ⟨h1, h2⟩ := X4 hdr
  exact WF.callC (by simpa using h1) hw hdef hx hfl hC hd (h h2)
end
end Go.Ev
end
section
set_option linter.unusedVariables false
set_option linter.unusedSimpArgs false
set_option linter.defProp false
set_option linter.all false
namespace Go.Ev
open Go.RowKit
/-- Pointers that nobody follows any more. -/
def veil : AV → Option AV
  | .ptr _ _ => some (.opq 0)
  | .bool b => some (.bool b)
  | .int k n => some (.int k n)
  | .str s => some (.str s)
  | .nilptr => some .nilptr
  | .nilslice => some .nilslice
  | .niliface => some .niliface
  | .iface t (.ptr _ _) => some (.iface t (.opq 0))
  | .iface t (.int k n) => some (.iface t (.int k n))
  | _ => none
def veils : List AV → Option (List AV)
  | [] => some []
  | v :: l => match veil v, veils l with
    | some a, some m => some (a :: m)
    | _, _ => none
def veilT : AV → Option AV
  | .tuple l => (veils l).map .tuple
  | v => veil v
theorem VR.veil {ρ ρ' : Ren} {v u : AV} {x : Value} (h : VR ρ v x) (hv : Go.Ev.veil v = some u) : VR ρ' u x := by
  unfold Go.Ev.veil at hv
  split at hv
  · cases hv; cases h; exact .opq
  · cases hv; cases h; exact .bool _
  · cases hv; cases h; exact .int _ _
  · cases hv; cases h; exact .str _
  · cases hv; cases h; exact .nilptr
  · cases hv; cases h; exact .nilslice
  · cases hv; cases h; exact .niliface
  · cases hv; cases h with | iface h => cases h; exact .iface .opq
  · cases hv; cases h with | iface h => cases h; exact .iface (.int _ _)
  · cases hv
theorem Xg.veils {ρ ρ' : Ren} : ∀ {l u : List AV} {x : List Value}, Xg ρ l x → Go.Ev.veils l = some u → Xg ρ' u x
  | [], _, _, h, hv => by cases hv; cases h; exact .nil
  | v :: l, _, _, h, hv => by
    unfold Go.Ev.veils at hv
    split at hv
    · rename_i h1 h2
      cases hv
      cases h with | cons a b => exact .cons (a.veil h1) (Xg.veils b h2)
    · cases hv
theorem VR.veilT {ρ ρ' : Ren} {v u : AV} {x : Value} (h : VR ρ v x) (hv : Go.Ev.veilT v = some u) : VR ρ' u x := by
  unfold Go.Ev.veilT at hv
  split at hv
  · simp only [Option.map_eq_some_iff] at hv
    obtain ⟨m, hm, rfl⟩ := hv
    cases h with | tuple h => exact .tuple (h.veils hm)
  · exact h.veil hv
/-- A closed call's answer. -/
def X5 (P : Program) (fuel : Nat) (f : FuncId) (args : List AV) (H0 : AH) : Option AV := match ZI P f args .normal with
  | some g => match runA P fuel ⟨g, [], H0⟩ with
    | some m => if doneA m then (match ZB P m.fr m.H with | some v => veilT v | none => none) else none
    | none => none
  | none => none
theorem flats_mem : ∀ {l : List AV}, X0 l = true → ∀ v ∈ l, v.flat = true
  | [], _, v, h => by cases h
  | u :: l, h, v, hm => by
    simp only [X0, Bool.and_eq_true] at h
    rcases List.mem_cons.1 hm with rfl | hm
    · exact h.1
    · exact flats_mem h.2 v hm
theorem closed_c {P : Program} {L : World → Prop} [hP : YQ P L] {fuel : Nat} {f : FuncId} {args : List AV} {H0 H : AH} {v : AV} (ha : X0 args = true) (h : X5 P fuel f args H0 = some v) (hL0 : ∀ w,L w → ∃ ρ,GR ρ ∧ WR w ρ H0 w) : Fn P L f args H (fun v' H' => v' = v ∧ H' = H) := by
  unfold X5 at h
  split at h
  · rename_i g hg
    split at h
    · rename_i m hm
      split at h
      · rename_i hd
        split at h
        · rename_i v0 hv
          have hl := Xl (L := L) hm
          obtain ⟨n, code, hgeq⟩ : ∃ n code, g = PF f n (Zm 0 args .leaf) [.code code] := by
            unfold ZI at hg
            split at hg
            · split at hg
              · split at hg
                · cases hg; exact ⟨_, _, rfl⟩
                · cases hg
              · cases hg
            · cases hg
          have hlen : args.length ≤ Tri.lid := by
            have : Tri.lid = 1000000 := rfl
            unfold ZI at hg
            split at hg
            · split at hg
              · split at hg
                · rename_i hb
                  rw [Bool.and_eq_true, Nat.blt_eq, Nat.blt_eq] at hb
                  omega
                · cases hg
              · cases hg
            · cases hg
          refine ⟨v, H, g, ⟨rfl, rfl⟩, hg, fun c cs c' hc hfin => ?_⟩
          subst hgeq
          have hcs : m.cs = [] := by
            unfold doneA at hd
            split at hd
            · assumption
            · cases hd
          intro w0 w g ds c0 hL hmr
          obtain ⟨ρ, lo, hgr, hw, hlo, hf, hs⟩ := hmr.rel
          dsimp only at hw hlo hf hs
          cases hs with | @cons lo1 _ _ d _ ds1 hle1 hc1 hs1 =>
          have hLw := hP.keep _ _ hL hw.below
          obtain ⟨ρ0, hg0, hw0⟩ := hL0 w hLw
          have hfl2 : FrR P ρ0 H0 H0.next H0.next true (PF f n (Zm 0 args .leaf) [.code code]) g := by
            refine ⟨hf.fn, hf.kind, hf.lid, ?_, ?_, ?_, ?_⟩
            · have := hf.round
              generalize g.roundOf = x at this ⊢
              cases this
              exact .none
            · have := hf.mode
              generalize g.mode = x at this ⊢
              cases this
              exact .run
            · have := hf.defers
              generalize g.defers = x at this ⊢
              cases this
              exact .nil
            · have htd := hf.todo
              generalize g.tmps = ga at htd ⊢
              generalize g.todo = gt at htd ⊢
              cases htd with
              | plain hk ht =>
                cases hk with | cons hi hs =>
                cases hi
                cases hs
                refine .plain (.cons (.code _) .nil) ⟨ht.1, fun i v h => ?_⟩
                have hr := ht.2 i v h
                rcases lay_get (by omega) h with ⟨hk, _⟩ | ⟨_, hv⟩ | ⟨_, hv⟩
                · omega
                · exact hr.unflat (flats_mem ha v (List.mem_of_getElem? hv))
                · rw [Tri.get_leaf] at hv; cases hv
              | gone hm _ _ => exact absurd rfl hm
          obtain ⟨g', ds', w', hst, hm'⟩ := hl w w g [] (d :: ds1 ++ c0) hLw ⟨ρ0, H0.next, hg0, hw0, Nat.le_refl _, hfl2, .nil⟩
          obtain ⟨ρ', lo', hg', hw', hlo', hf', hs'⟩ := hm'.rel
          rw [hcs] at hs'
          cases hs'
          unfold doneA at hd
          split at hd
          · rename_i _ hmode hdef hkind
            have hmd := hf'.mode
            have hdf := hf'.defers
            have hkd := hf'.kind
            rw [hmode] at hmd
            rw [hdef] at hdf
            rw [hkind] at hkd
            have ht := hf'.todo.tr (by rw [hmode]; simp)
            obtain ⟨fn, x, hfn, hvx, hrun⟩ := Wd hw' hf'.fn ht hv
            have hgmm : g'.mode = .returning := by
              cases hgm : g'.mode <;> rw [hgm] at hmd <;> cases hmd <;> rfl
            have hgd : g'.defers = [] := by
              cases hgd : g'.defers <;> rw [hgd] at hdf <;> cases hdf <;> rfl
            have hw2 : WR w0 ρ H w' := hw.later hw'.below
            have hc2 := hc1.keeps (top' := false) (hi' := H.next) (YN.refl lo ρ H) (Nat.le_refl _) hlo
            obtain ⟨h1, _⟩ := Yl (x := x) hc2 hc (hvx.veilT h) hfin
            refine ⟨_, ds1, w', hst.trans (.one (step_lone_go (fr := g') (cs := d :: ds1 ++ c0) ?_)), ⟨ρ, lo1, hgr, hw2, Nat.le_trans hle1 hlo, h1, hs1⟩⟩
            rw [stepG_unwind (by rw [hgmm]; simp)]
            simp [unwind, hgd, hgmm, hfn, hrun, doReturn, ← hkd]
          · cases hd
        · cases h
      · cases h
    · cases h
  · cases h
end Go.Ev
end
section
set_option linter.unusedVariables false
set_option linter.unusedSimpArgs false
set_option linter.defProp false
set_option linter.all false
namespace Go.Ev.C
open Go.Proofs
set_option maxRecDepth 100000
set_option linter.unusedSimpArgs false
variable {L : World → Prop} [YQ Q L]
theorem ZD {P : Program} (t : TypeId) (a b : List Nat) : YP P .eql t (.str a) (.str b) = some (.bool (a == b)) := rfl
theorem YE {P : Program} (t : TypeId) (a b : List Nat) : YP P .neq t (.str a) (.str b) = some (.bool !(a == b)) := rfl
theorem ZC {P : Program} (t : TypeId) (x y : Operand) (a b : List Nat) : YC P .eql t x y (.str a) (.str b) = true := rfl
theorem YD {P : Program} (t : TypeId) (x y : Operand) (a b : List Nat) : YC P .neq t x y (.str a) (.str b) = true := rfl
theorem Zi (ts : List TypeId) (s : List Nat) (l : List AV) : XJ Q .len (9 :: ts) (.str s :: l) = some (.int .i64 s.length) := by
  simp [XJ, und9]
def pre (s p : List Nat) : Bool := decide (p.length ≤ s.length) && (s.take p.length == p)
theorem slS_to {s : List Nat} {n : Nat} (h : n ≤ s.length) : YT s none (some (.int .i64 (n : Int))) = some (.str (s.take n)) := by
  unfold YT
  rw [X6 h]
  dsimp only
  rw [boundU_none]
  simp
theorem slS_from {s : List Nat} {n : Nat} (h : n ≤ s.length) : YT s (some (.int .i64 (n : Int))) none = some (.str (s.drop n)) := by
  unfold YT
  rw [boundU_none]
  dsimp only
  rw [X6 h]
  dsimp only
  rw [List.take_of_length_le (by simp)]
theorem slS_both {s : List Nat} {a b : Nat} (h : a ≤ b) (h' : b ≤ s.length) : YT s (some (.int .i64 (a : Int))) (some (.int .i64 (b : Int))) = some (.str ((s.drop a).take (b - a))) := by
  unfold YT
  rw [X6 h']
  dsimp only
  rw [X6 h]
theorem ZF (s : List Nat) (lo' hi' : Option AV) : sliceU Q 9 (.str s) lo' hi' none = YT s lo' hi' := by
  simp only [sliceU, und9]
theorem stringslite_prefix_c (H : AH) (s p : List Nat) : Fn Q L 119 [.str s, .str p] H (fun w H' => w = .bool (pre s p) ∧ H' = H) := by
  refine Fn.intro (en119 _ _) ?_
  unfold c119 Tryz.f119
  simp only [Option.getD_some]
  cases q1 : decide ((p.length : Int) ≤ (s.length : Int))
  · have hp : pre s p = false := by
      unfold pre
      have : ¬ p.length ≤ s.length := fun h => by
        have := of_decide_eq_false q1
        omega
      simp [this]
    repeat (first|(apply Zh;exact rfl)|apply Zb|apply WO.nil|(apply WO.op;(focus (simp only [rQ,Zc,li,lo,reduceIte,Nat.reduceEqDiff,Nat.reduceAdd,beq_self_eq_true,q1];done));simp only [rE,rS,li,lo,reduceIte,Nat.reduceEqDiff,Nat.reduceAdd,Nat.reduceMul,Zi,ZF,ZD,ZC,q1];exact rfl;exact rfl)|(apply WO.unwanted;(focus (simp only [rQ,Zc,li,lo,reduceIte,Nat.reduceEqDiff,Nat.reduceAdd,beq_self_eq_true,q1];done));exact rfl))
    (apply WF.ret; (focus (simp only [Zj, Zd, Zm, Zv, reduceIte, Nat.reduceEqDiff, rs119]; exact rfl)))
    exact ⟨by rw [hp], rfl⟩
  · have hl : p.length ≤ s.length := by
      have := of_decide_eq_true q1
      omega
    have hp : pre s p = (s.take p.length == p) := by
      unfold pre
      simp [hl]
    repeat (first|(apply Zh;exact rfl)|apply Zb|apply WO.nil|(apply WO.op;(focus (simp only [rQ,Zc,li,lo,reduceIte,Nat.reduceEqDiff,Nat.reduceAdd,beq_self_eq_true,q1];done));simp only [rE,rS,li,lo,reduceIte,Nat.reduceEqDiff,Nat.reduceAdd,Nat.reduceMul,Zi,ZF,ZD,ZC,q1,slS_to hl];exact rfl;exact rfl)|(apply WO.unwanted;(focus (simp only [rQ,Zc,li,lo,reduceIte,Nat.reduceEqDiff,Nat.reduceAdd,beq_self_eq_true,q1];done));exact rfl))
    (apply WF.ret; (focus (simp only [Zj, Zd, Zm, Zv, reduceIte, Nat.reduceEqDiff, rs119]; exact rfl)))
    exact ⟨by rw [hp], rfl⟩
theorem prefix_c (H : AH) (s p : List Nat) : Fn Q L 78 [.str s, .str p] H (fun w H' => w = .bool (pre s p) ∧ H' = H) := by
  refine Fn.intro (en78 _ _) ?_
  unfold c78 Tryz.f78
  simp only [Option.getD_some]
  repeat (first | (apply Zh; exact rfl) | apply Zb | apply WO.nil | (apply Zk; exact rfl; simp only [rE, rS, li, lo, reduceIte, Nat.reduceEqDiff, Nat.reduceAdd, Nat.reduceMul]; exact rfl; exact rfl))
  (apply WO.call;(focus (simp only [rQ,Zc,li,lo,reduceIte,Nat.reduceEqDiff,Nat.reduceAdd,beq_self_eq_true];done));simp only [rE,rS,li,lo,reduceIte,Nat.reduceEqDiff,Nat.reduceAdd,Nat.reduceMul,cu119];exact rfl;exact stringslite_prefix_c _ _ _;rintro _ _ ⟨rfl,rfl⟩;refine ⟨_,rfl,?_⟩)
  repeat (first | (apply Zh; exact rfl) | apply Zb | apply WO.nil | (apply Zk; exact rfl; simp only [rE, rS, li, lo, reduceIte, Nat.reduceEqDiff, Nat.reduceAdd, Nat.reduceMul]; exact rfl; exact rfl))
  (apply WF.ret; (focus (simp only [Zj, Zd, Zm, Zv, reduceIte, Nat.reduceEqDiff, rs78]; exact rfl)))
  exact ⟨rfl, rfl⟩
end Go.Ev.C
end
section
set_option linter.unusedVariables false
set_option linter.unusedSimpArgs false
set_option linter.defProp false
set_option linter.all false
namespace Go.Ev.C
open Go.Proofs
set_option maxRecDepth 100000
set_option linter.unusedSimpArgs false
variable {L : World → Prop} [YQ Q L]
def ix (s : List Nat) (c : Nat) : Int := match s.findIdx? (fun b => Nat.beq b c) with
  | some i => (i : Int)
  | none => -1
theorem cu277 (s : List Nat) (H : AH) : Z3 Q (.func 277 [] []) [.str s, .int .u8 0] H = some (.val (.int .i64 (ix s 0)), H) := by
  have h : ∀ l, Z3 Q (.func 277 [] []) l H = (match indexByteX ([] ++ l ++ []) H with | some (v, H) => some (.val v, H) | none => none) := fun l => by kernel_rfl
  rw [h]
  have h2 : indexByteX ([] ++ [.str s, .int .u8 0] ++ []) H = some (.int .i64 (ix s 0), H) := by
    show (if Nat.blt 0 256 then (match s.findIdx? (fun b => Nat.beq b 0) with | some i => some (AV.int .i64 i, H) | none => some (AV.int .i64 (-1), H)) else none) = _
    unfold ix
    cases s.findIdx? (fun b => Nat.beq b 0) <;> rfl
  rw [h2]
theorem ix_contains (s : List Nat) : decide (0 ≤ ix s 0) = s.contains 0 := by
  have key : (s.findIdx? (fun b => Nat.beq b 0)).isSome = s.contains 0 := by
    rw [Bool.eq_iff_iff, List.findIdx?_isSome, List.contains_iff_mem, List.any_eq_true]
    constructor
    · rintro ⟨x, hx, h⟩
      rw [← Nat.eq_of_beq_eq_true h]
      exact hx
    · intro h
      exact ⟨0, h, rfl⟩
  rw [← key]
  unfold ix
  cases h : s.findIdx? (fun b => Nat.beq b 0) <;> simp
theorem byte_c (H : AH) (s : List Nat) : Fn Q L 211 [.str s, .int .u8 0] H (fun w H' => w = .int .i64 (ix s 0) ∧ H' = H) := by
  refine Fn.intro (en211 _ _) ?_
  unfold c211 Tryz.f211
  simp only [Option.getD_some]
  repeat (first|(apply Zh;exact rfl)|apply Zb|apply WO.nil|(apply Zk;exact rfl;simp only [rE,rS,li,lo,reduceIte,Nat.reduceEqDiff,Nat.reduceAdd,Nat.reduceMul,cu277];exact rfl;exact rfl))
  (apply WF.ret; (focus (simp only [Zj, Zd, Zm, Zv, reduceIte, Nat.reduceEqDiff, rs211]; exact rfl)))
  exact ⟨rfl, rfl⟩
theorem idx0 : XN Q 9 (.str [0]) (.int .i64 0) = some (.int .u8 0) := by kernel_rfl
theorem index0_c (H : AH) (s : List Nat) : Fn Q L 155 [.str s, .str [0]] H (fun w H' => ∃ r, w = .int .i64 r ∧ decide (0 ≤ r) = s.contains 0 ∧ H' = H) := by
  refine Fn.intro (en155 _ _) ?_
  have q1 : decide ((([0] : List Nat).length : Int) = 0) = false := rfl
  have q3 : decide ((([0] : List Nat).length : Int) = 1) = true := rfl
  unfold c155 Tryz.f155
  simp only [Option.getD_some]
  cases q2 : (([0] : List Nat) == s)
  · repeat (first|(apply Zh;exact rfl)|apply Zb|apply WO.nil|(apply WO.op;(focus (simp only [rQ,Zc,li,lo,reduceIte,Nat.reduceEqDiff,Nat.reduceAdd,beq_self_eq_true,q1,q2];done));simp only [rE,rS,li,lo,reduceIte,Nat.reduceEqDiff,Nat.reduceAdd,Nat.reduceMul,Zi,ZF,ZD,ZC,idx0,q1,q2];exact rfl;exact rfl)|(apply WO.unwanted;(focus (simp only [rQ,Zc,li,lo,reduceIte,Nat.reduceEqDiff,Nat.reduceAdd,beq_self_eq_true,q1,q2];done));exact rfl))
    (first|(apply WF.condT;(focus (simp only [Zg,Zf,Zd,Zm,Bool.not_true,Bool.not_false,reduceIte,Nat.reduceEqDiff,q2];done)))|(apply WF.condF;(focus (simp only [Zg,Zf,Zd,Zm,Bool.not_true,Bool.not_false,reduceIte,Nat.reduceEqDiff,q2];done))))
    repeat (first|(apply Zh;exact rfl)|apply Zb|apply WO.nil|(apply WO.op;(focus (simp only [rQ,Zc,li,lo,reduceIte,Nat.reduceEqDiff,Nat.reduceAdd,beq_self_eq_true,q3];done));simp only [rE,rS,li,lo,reduceIte,Nat.reduceEqDiff,Nat.reduceAdd,Nat.reduceMul,Zi,ZF,ZD,ZC,idx0,q3];exact rfl;exact rfl)|(apply WO.unwanted;(focus (simp only [rQ,Zc,li,lo,reduceIte,Nat.reduceEqDiff,Nat.reduceAdd,beq_self_eq_true,q3];done));exact rfl))
    (first|(apply WF.condT;(focus (simp only [Zg,Zf,Zd,Zm,Bool.not_true,Bool.not_false,reduceIte,Nat.reduceEqDiff,q3];done)))|(apply WF.condF;(focus (simp only [Zg,Zf,Zd,Zm,Bool.not_true,Bool.not_false,reduceIte,Nat.reduceEqDiff,q3];done))))
    repeat (first|(apply Zh;exact rfl)|apply Zb|apply WO.nil|(apply Zk;exact rfl;simp only [rE,rS,li,lo,reduceIte,Nat.reduceEqDiff,Nat.reduceAdd,Nat.reduceMul,Zi,ZF,ZD,ZC,idx0];exact rfl;exact rfl))
    (apply WO.call;(focus (simp only [rQ,Zc,li,lo,reduceIte,Nat.reduceEqDiff,Nat.reduceAdd,beq_self_eq_true];done));simp only [rE,rS,li,lo,reduceIte,Nat.reduceEqDiff,Nat.reduceAdd,Nat.reduceMul,Zi,ZF,ZD,ZC,idx0,cu211];exact rfl;exact byte_c _ _;rintro _ _ ⟨rfl,rfl⟩;refine ⟨_,rfl,?_⟩)
    repeat (first|(apply Zh;exact rfl)|apply Zb|apply WO.nil|(apply Zk;exact rfl;simp only [rE,rS,li,lo,reduceIte,Nat.reduceEqDiff,Nat.reduceAdd,Nat.reduceMul,Zi,ZF,ZD,ZC,idx0];exact rfl;exact rfl))
    (apply WF.ret; (focus (simp only [Zj, Zd, Zm, Zv, reduceIte, Nat.reduceEqDiff, rs155]; exact rfl)))
    exact ⟨_, rfl, ix_contains s, rfl⟩
  · have hs : s = [0] := (eq_of_beq q2).symm
    repeat (first|(apply Zh;exact rfl)|apply Zb|apply WO.nil|(apply WO.op;(focus (simp only [rQ,Zc,li,lo,reduceIte,Nat.reduceEqDiff,Nat.reduceAdd,beq_self_eq_true,q1,q2];done));simp only [rE,rS,li,lo,reduceIte,Nat.reduceEqDiff,Nat.reduceAdd,Nat.reduceMul,Zi,ZF,ZD,ZC,idx0,q1,q2];exact rfl;exact rfl)|(apply WO.unwanted;(focus (simp only [rQ,Zc,li,lo,reduceIte,Nat.reduceEqDiff,Nat.reduceAdd,beq_self_eq_true,q1,q2];done));exact rfl))
    (first|(apply WF.condT;(focus (simp only [Zg,Zf,Zd,Zm,Bool.not_true,Bool.not_false,reduceIte,Nat.reduceEqDiff,q2];done)))|(apply WF.condF;(focus (simp only [Zg,Zf,Zd,Zm,Bool.not_true,Bool.not_false,reduceIte,Nat.reduceEqDiff,q2];done))))
    repeat (first|(apply Zh;exact rfl)|apply Zb|apply WO.nil|(apply Zk;exact rfl;simp only [rE,rS,li,lo,reduceIte,Nat.reduceEqDiff,Nat.reduceAdd,Nat.reduceMul,Zi,ZF,ZD,ZC,idx0];exact rfl;exact rfl))
    (apply WF.ret; (focus (simp only [Zj, Zd, Zm, Zv, reduceIte, Nat.reduceEqDiff, rs155]; exact rfl)))
    exact ⟨_, rfl, by rw [hs]; rfl, rfl⟩
theorem sindex0_c (H : AH) (s : List Nat) : Fn Q L 116 [.str s, .str [0]] H (fun w H' => ∃ r, w = .int .i64 r ∧ decide (0 ≤ r) = s.contains 0 ∧ H' = H) := by
  refine Fn.intro (en116 _ _) ?_
  unfold c116 Tryz.f116
  simp only [Option.getD_some]
  repeat (first | (apply Zh; exact rfl) | apply Zb | apply WO.nil | (apply Zk; exact rfl; simp only [rE, rS, li, lo, reduceIte, Nat.reduceEqDiff, Nat.reduceAdd, Nat.reduceMul]; exact rfl; exact rfl))
  (apply WO.call;(focus (simp only [rQ,Zc,li,lo,reduceIte,Nat.reduceEqDiff,Nat.reduceAdd,beq_self_eq_true];done));simp only [rE,rS,li,lo,reduceIte,Nat.reduceEqDiff,Nat.reduceAdd,Nat.reduceMul,cu155];exact rfl;exact index0_c _ _;rintro _ _ ⟨r,rfl,hr,rfl⟩;refine ⟨_,rfl,?_⟩)
  repeat (first | (apply Zh; exact rfl) | apply Zb | apply WO.nil | (apply Zk; exact rfl; simp only [rE, rS, li, lo, reduceIte, Nat.reduceEqDiff, Nat.reduceAdd, Nat.reduceMul]; exact rfl; exact rfl))
  (apply WF.ret; (focus (simp only [Zj, Zd, Zm, Zv, reduceIte, Nat.reduceEqDiff, rs116]; exact rfl)))
  exact ⟨_, rfl, hr, rfl⟩
theorem contains0_c (H : AH) (s : List Nat) : Fn Q L 75 [.str s, .str [0]] H (fun w H' => w = .bool (s.contains 0) ∧ H' = H) := by
  refine Fn.intro (en75 _ _) ?_
  unfold c75 Tryz.f75
  simp only [Option.getD_some]
  repeat (first | (apply Zh; exact rfl) | apply Zb | apply WO.nil | (apply Zk; exact rfl; simp only [rE, rS, li, lo, reduceIte, Nat.reduceEqDiff, Nat.reduceAdd, Nat.reduceMul]; exact rfl; exact rfl))
  (apply WO.call;(focus (simp only [rQ,Zc,li,lo,reduceIte,Nat.reduceEqDiff,Nat.reduceAdd,beq_self_eq_true];done));simp only [rE,rS,li,lo,reduceIte,Nat.reduceEqDiff,Nat.reduceAdd,Nat.reduceMul,cu116];exact rfl;exact sindex0_c _ _;rintro _ _ ⟨r,rfl,hr,rfl⟩;refine ⟨_,rfl,?_⟩)
  repeat (first|(apply Zh;exact rfl)|apply Zb|apply WO.nil|(apply Zk;exact rfl;simp only [rE,rS,li,lo,reduceIte,Nat.reduceEqDiff,Nat.reduceAdd,Nat.reduceMul,hr];exact rfl;exact rfl))
  (apply WF.ret; (focus (simp only [Zj, Zd, Zm, Zv, reduceIte, Nat.reduceEqDiff, rs75]; exact rfl)))
  exact ⟨rfl, rfl⟩
end Go.Ev.C
end
section
set_option linter.unusedVariables false
set_option linter.unusedSimpArgs false
set_option linter.defProp false
set_option linter.all false
namespace Go.Ev.C
open Go.Proofs
set_option maxRecDepth 100000
set_option linter.unusedSimpArgs false
variable {L : World → Prop} [YQ Q L]
/-- Bytes in memory. -/
def BytesAt (H : AH) (v : AV) (l : List Nat) : Prop := SL v l.length ∧ ∀ b off n cap,v = .slice b off n cap → l ≠ [] → ∃ c,b < H.next ∧ H.cellsAt b = some c ∧ ∀ (i : Nat) (z : Nat),l[i]? = some z → c[off + i * 1]? = some (byteV z)
theorem BytesAt.up {H H' : AH} (u : Up H H') {v : AV} {l : List Nat} (h : BytesAt H v l) : BytesAt H' v l :=
  ⟨h.1, fun b off n cap e hn => by
    obtain ⟨c, hb, hc, hr⟩ := h.2 b off n cap e hn
    exact ⟨c, Nat.lt_of_lt_of_le hb u.next, by rw [u.cellsAt hb]; exact hc, hr⟩⟩
theorem BytesAt.at {H : AH} {v : AV} {l : List Nat} (h : BytesAt H v l) {i : Nat} (hi : i < l.length) : ∃ b off cap c,v = .slice b off l.length cap ∧ H.cellsAt b = some c ∧ c[off + i * 1]? = some (.int .u8 ((l[i] : Nat) : Int)) := by
  obtain ⟨h1, h2⟩ := h
  generalize hn : l.length = n at h1
  cases h1 with
  | nil => omega
  | sl b off n cap =>
    obtain ⟨c, _, hc, hr⟩ := h2 b off _ cap rfl (by intro e; subst e; simp at hi)
    exact ⟨b, off, cap, c, rfl, hc, hr i l[i] (List.getElem?_eq_getElem hi)⟩
theorem idxByte_c (H : AH) (v : AV) (l : List Nat) (x : Nat) (hr : BytesAt H v l) (hlen : l.length < 9223372036854775808) : Fn Q L 115 [v,.int .u8 (x : Int)] H (fun w H' => ∃ r : Int,w = .int .i64 r ∧ decide (0 ≤ r) = l.contains x ∧ H' = H) := by
  refine Fn.intro (en115 _ _) ?_
  have hs := hr.1
  unfold c115 Tryz.f115
  simp only [Option.getD_some]
  repeat (first|(apply Zh;exact rfl)|apply Zb|apply WO.nil|(apply Zk;exact rfl;simp only [rE,rS,li,lo,reduceIte,Nat.reduceEqDiff,Nat.reduceAdd,Nat.reduceMul,XH,ZP XH hs];exact rfl;exact rfl))
  refine YL (fun m t H' => ∃ i : Nat,H' = H ∧ i + m = l.length ∧ (∀ j (h : j < l.length),j < i → l[j] ≠ x) ∧ t.get 0 = some v ∧ t.get 1 = some (.int .u8 (x : Int)) ∧ t.get 7 = some (.int .i64 (l.length : Int)) ∧ t.get 8 = some (.int .i64 (i : Int))) l.length ?_ ?_
  · refine ⟨0, rfl, by omega, fun j h hj => by omega, ?_, ?_, ?_, ?_⟩ <;> simp [Zd, Zm]
  rintro m t H' ⟨i, rfl, him, hok, ht0, ht1, ht7, ht8⟩ ih
  by_cases hi : i < l.length
  · have hlt : decide ((i : Int) < (l.length : Int)) = true := by simp; omega
    obtain ⟨b, off, cap, c, rfl, hc, hcell⟩ := hr.at hi
    repeat (first|(apply Zh;exact rfl)|apply Zb|apply WO.nil|(apply WO.op;(focus (simp only [rQ,Zc,li,lo,reduceIte,Nat.reduceEqDiff,Nat.reduceAdd,beq_self_eq_true,hlt];done));simp only [rE,rS,li,lo,reduceIte,Nat.reduceEqDiff,Nat.reduceAdd,Nat.reduceMul,XH,ZP XH hs,Za agg5,ht0,ht1,ht7,ht8,hlt];exact rfl;exact rfl)|(apply WO.unwanted;(focus (simp only [rQ,Zc,li,lo,reduceIte,Nat.reduceEqDiff,Nat.reduceAdd,beq_self_eq_true,hlt];done));exact rfl))
    (first|(apply WF.condT;(focus (simp only [Zg,Zf,Zd,Zm,Bool.not_true,Bool.not_false,reduceIte,Nat.reduceEqDiff,hlt];done)))|(apply WF.condF;(focus (simp only [Zg,Zf,Zd,Zm,Bool.not_true,Bool.not_false,reduceIte,Nat.reduceEqDiff,hlt];done))))
    repeat (first|(apply Zh;exact rfl)|apply Zb|apply WO.nil|(apply WO.op;(focus (simp only [rQ,Zc,li,lo,reduceIte,Nat.reduceEqDiff,Nat.reduceAdd,beq_self_eq_true,hlt];done));simp only [rE,rS,li,lo,reduceIte,Nat.reduceEqDiff,Nat.reduceAdd,Nat.reduceMul,XH,ZP XH hs,Za agg5,ht0,ht1,ht7,ht8,hlt,ZH XH sz5 hi,hc,hcell];exact rfl;exact rfl)|(apply WO.unwanted;(focus (simp only [rQ,Zc,li,lo,reduceIte,Nat.reduceEqDiff,Nat.reduceAdd,beq_self_eq_true,hlt];done));exact rfl))
    cases hv : decide ((x : Int) = ((l[i] : Nat) : Int))
    · (first|(apply WF.condT;(focus (simp only [Zg,Zf,Zd,Zm,Bool.not_true,Bool.not_false,reduceIte,Nat.reduceEqDiff,hv];done)))|(apply WF.condF;(focus (simp only [Zg,Zf,Zd,Zm,Bool.not_true,Bool.not_false,reduceIte,Nat.reduceEqDiff,hv];done))))
      repeat (first|(apply Zh;exact rfl)|apply Zb|apply WO.nil|(apply Zk;exact rfl;simp only [rE,rS,li,lo,reduceIte,Nat.reduceEqDiff,Nat.reduceAdd,Nat.reduceMul,XH,ZP XH hs,Za agg5,ht0,ht1,ht7,ht8];exact rfl;exact rfl))
      refine Z4 ?_
      refine ih (m - 1) _ _ (by omega) ⟨i + 1, rfl, by omega, fun j h hj => ?_, ?_, ?_, ?_, ?_⟩
      · by_cases e : j = i
        · subst e
          have := of_decide_eq_false hv
          omega
        · exact hok j h (by omega)
      · simp [Zd, ht0]
      · simp [Zd, ht1]
      · simp [Zd, ht7]
      · simp only [Zd, reduceIte]
        rw [w64 (by omega) (by omega)]
        simp
    · (first|(apply WF.condT;(focus (simp only [Zg,Zf,Zd,Zm,Bool.not_true,Bool.not_false,reduceIte,Nat.reduceEqDiff,hv];done)))|(apply WF.condF;(focus (simp only [Zg,Zf,Zd,Zm,Bool.not_true,Bool.not_false,reduceIte,Nat.reduceEqDiff,hv];done))))
      repeat (first|(apply Zh;exact rfl)|apply Zb|apply WO.nil|(apply Zk;exact rfl;simp only [rE,rS,li,lo,reduceIte,Nat.reduceEqDiff,Nat.reduceAdd,Nat.reduceMul,XH,ZP XH hs,Za agg5,ht0,ht1,ht7,ht8];exact rfl;exact rfl))
      (apply WF.ret; (focus (simp only [Zj, Zd, Zm, Zv, reduceIte, Nat.reduceEqDiff, rs115]; exact rfl)))
      refine ⟨_, rfl, ?_, rfl⟩
      have h1 : l.contains x = true := List.contains_iff_mem.2 (by
        have := of_decide_eq_true hv
        have e : x = l[i] := by omega
        rw [e]; exact List.getElem_mem _)
      rw [h1]
      simp
  · have hlt : decide ((i : Int) < (l.length : Int)) = false := by simp; omega
    repeat (first|(apply Zh;exact rfl)|apply Zb|apply WO.nil|(apply WO.op;(focus (simp only [rQ,Zc,li,lo,reduceIte,Nat.reduceEqDiff,Nat.reduceAdd,beq_self_eq_true,hlt];done));simp only [rE,rS,li,lo,reduceIte,Nat.reduceEqDiff,Nat.reduceAdd,Nat.reduceMul,XH,ZP XH hs,Za agg5,ht0,ht1,ht7,ht8,hlt];exact rfl;exact rfl)|(apply WO.unwanted;(focus (simp only [rQ,Zc,li,lo,reduceIte,Nat.reduceEqDiff,Nat.reduceAdd,beq_self_eq_true,hlt];done));exact rfl))
    (first|(apply WF.condT;(focus (simp only [Zg,Zf,Zd,Zm,Bool.not_true,Bool.not_false,reduceIte,Nat.reduceEqDiff,hlt];done)))|(apply WF.condF;(focus (simp only [Zg,Zf,Zd,Zm,Bool.not_true,Bool.not_false,reduceIte,Nat.reduceEqDiff,hlt];done))))
    repeat (first|(apply Zh;exact rfl)|apply Zb|apply WO.nil|(apply WO.op;(focus (simp only [rQ,Zc,li,lo,reduceIte,Nat.reduceEqDiff,Nat.reduceAdd,beq_self_eq_true,hlt];done));simp only [rE,rS,li,lo,reduceIte,Nat.reduceEqDiff,Nat.reduceAdd,Nat.reduceMul,XH,ZP XH hs,Za agg5,ht0,ht1,ht7,ht8,hlt];exact rfl;exact rfl)|(apply WO.unwanted;(focus (simp only [rQ,Zc,li,lo,reduceIte,Nat.reduceEqDiff,Nat.reduceAdd,beq_self_eq_true,hlt];done));exact rfl))
    (apply WF.ret; (focus (simp only [Zj, Zd, Zm, Zv, reduceIte, Nat.reduceEqDiff, rs115]; exact rfl)))
    refine ⟨_, rfl, ?_, rfl⟩
    have h1 : l.contains x = false := by
      rw [Bool.eq_false_iff]
      intro h
      obtain ⟨j, hj, e⟩ := List.mem_iff_getElem.1 (List.contains_iff_mem.1 h)
      exact hok j hj (by omega) e
    rw [h1]
    decide
theorem hasByte_c (H : AH) (v : AV) (l : List Nat) (x : Nat) (hr : BytesAt H v l) (hlen : l.length < 9223372036854775808) : Fn Q L 74 [v,.int .u8 (x : Int)] H (fun w H' => w = .bool (l.contains x) ∧ H' = H) := by
  refine Fn.intro (en74 _ _) ?_
  unfold c74 Tryz.f74
  simp only [Option.getD_some]
  repeat (first | (apply Zh; exact rfl) | apply Zb | apply WO.nil | (apply Zk; exact rfl; simp only [rE, rS, li, lo, reduceIte, Nat.reduceEqDiff, Nat.reduceAdd, Nat.reduceMul]; exact rfl; exact rfl))
  (apply WO.call;(focus (simp only [rQ,Zc,li,lo,reduceIte,Nat.reduceEqDiff,Nat.reduceAdd,beq_self_eq_true];done));simp only [rE,rS,li,lo,reduceIte,Nat.reduceEqDiff,Nat.reduceAdd,Nat.reduceMul,cu115];exact rfl;exact idxByte_c _ _ _ _ hr hlen;rintro _ _ ⟨r,rfl,hr0,rfl⟩;refine ⟨_,rfl,?_⟩)
  repeat (first|(apply Zh;exact rfl)|apply Zb|apply WO.nil|(apply Zk;exact rfl;simp only [rE,rS,li,lo,reduceIte,Nat.reduceEqDiff,Nat.reduceAdd,Nat.reduceMul,hr0];exact rfl;exact rfl))
  (apply WF.ret; (focus (simp only [Zj, Zd, Zm, Zv, reduceIte, Nat.reduceEqDiff, rs74]; exact rfl)))
  exact ⟨rfl, rfl⟩
end Go.Ev.C
end
section
set_option linter.unusedVariables false
set_option linter.unusedSimpArgs false
set_option linter.defProp false
set_option linter.all false
namespace Go.Fmt
/-- A part of a format. -/
inductive Seg where
  | lit (c : Nat)
  | pct
  | cv (t : List Nat)
def letters : List Nat := [100, 117, 120, 111, 99, 112, 115]
/-- Where the conversion ends whose digits begin at e, k more of them being allowed. -/
def YG (f : List Nat) : Nat → Nat → Option Nat
  | 0, e => match f[e]? with
    | none => none
    | some c => if letters.contains c then some (e + 1) else none
  | k + 1, e => match f[e]? with
    | none => none
    | some c => if letters.contains c then some (e + 1) else if c < 48 ∨ 57 < c then none else YG f k (e + 1)
/-- Where a conversion's digits begin. -/
def Yh (f : List Nat) (p : Nat) : Nat := if f[p + 1]? = some 45 then p + 2 else p + 1
def XM (f : List Nat) : Nat → Nat → Option (List Seg)
  | 0, p => if f.length ≤ p then some [] else none
  | k + 1, p => match f[p]? with
    | none => some []
    | some c => if c ≠ 37 then (XM f k (p + 1)).map (.lit c :: ·)
      else if f[p + 1]? = some 37 then (XM f k (p + 2)).map (.pct :: ·)
      else match YG f 2 (Yh f p) with
        | none => none
        | some e => (XM f k e).map (.cv ((f.drop p).take (e - p)) :: ·)
def parse (f : List Nat) : Option (List Seg) := XM f f.length 0
def Xw : List Seg → List (List Nat)
  | [] => []
  | .cv t :: s => t :: Xw s
  | _ :: s => Xw s
theorem Yb : ∀ a b, Xw (a ++ b) = Xw a ++ Xw b
  | [], b => rfl
  | .cv t :: s, b => by simp [Xw, Yb s b]
  | .lit c :: s, b => by simp [Xw, Yb s b]
  | .pct :: s, b => by simp [Xw, Yb s b]
theorem Xk {f : List Nat} : ∀ {k e r : Nat}, YG f k e = some r → e < r ∧ r ≤ f.length
  | 0, e, r, h => by
    unfold YG at h
    split at h
    · cases h
    · rename_i c hc
      have := (List.getElem?_eq_some_iff.1 hc).1
      split at h
      · cases h; omega
      · cases h
  | k + 1, e, r, h => by
    unfold YG at h
    split at h
    · cases h
    · rename_i c hc
      have := (List.getElem?_eq_some_iff.1 hc).1
      split at h
      · cases h; omega
      · split at h
        · cases h
        · have := Xk h
          omega
theorem Wh (f : List Nat) (p : Nat) : p < Yh f p := by
  unfold Yh
  split <;> omega
/-- More rounds than are wanted. -/
theorem parseI_succ {f : List Nat} : ∀ {k p : Nat}, f.length - p ≤ k → XM f (k + 1) p = XM f k p
  | 0, p, h => by
    have h1 : f.length ≤ p := by omega
    have h2 : f[p]? = none := List.getElem?_eq_none h1
    simp [XM, h1, h2]
  | k + 1, p, h => by
    rw [XM]
    conv => rhs; rw [XM]
    cases hc : f[p]? with
    | none => rfl
    | some c =>
      have hlt := (List.getElem?_eq_some_iff.1 hc).1
      dsimp only
      rw [parseI_succ (k := k) (p := p + 1) (by omega), parseI_succ (k := k) (p := p + 2) (by omega)]
      cases hs : YG f 2 (Yh f p) with
      | none => rfl
      | some e =>
        have h1 := Xk hs
        have h2 := Wh f p
        dsimp only
        rw [parseI_succ (k := k) (p := e) (by omega)]
theorem parseI_add {f : List Nat} {k p : Nat} (h : f.length - p ≤ k) : ∀ n, XM f (k + n) p = XM f k p
  | 0 => rfl
  | n + 1 => by rw [← Nat.add_assoc, parseI_succ (by omega), parseI_add h n]
theorem parseI_any {f : List Nat} {k k' p : Nat} (h : f.length - p ≤ k) (h' : f.length - p ≤ k') : XM f k p = XM f k' p := by
  rcases Nat.le_total k k' with hh | hh
  · obtain ⟨n, rfl⟩ := Nat.exists_eq_add_of_le hh
    exact (parseI_add h n).symm
  · obtain ⟨n, rfl⟩ := Nat.exists_eq_add_of_le hh
    exact parseI_add h' n
/-- What is parsed from a place on. -/
def at' (f : List Nat) (p : Nat) : Option (List Seg) := XM f (f.length - p) p
theorem at_end {f : List Nat} {p : Nat} (h : f.length ≤ p) : at' f p = some [] := by
  unfold at'
  rw [Nat.sub_eq_zero_of_le h]
  simp [XM, h]
theorem at_lit {f : List Nat} {p : Nat} (h : p < f.length) (hc : f[p] ≠ 37) : at' f p = (at' f (p + 1)).map (.lit f[p] :: ·) := by
  unfold at'
  obtain ⟨k, hk⟩ : ∃ k, f.length - p = k + 1 := ⟨f.length - p - 1, by omega⟩
  rw [hk, XM, List.getElem?_eq_getElem h]
  dsimp only
  rw [if_pos hc, parseI_any (k := k) (k' := f.length - (p + 1)) (by omega) (by omega)]
theorem at_pct {f : List Nat} {p : Nat} (h : p < f.length) (hc : f[p] = 37) (h1 : f[p + 1]? = some 37) : at' f p = (at' f (p + 2)).map (.pct :: ·) := by
  unfold at'
  obtain ⟨k, hk⟩ : ∃ k, f.length - p = k + 1 := ⟨f.length - p - 1, by omega⟩
  rw [hk, XM, List.getElem?_eq_getElem h]
  dsimp only
  rw [if_neg (by simp [hc]), if_pos h1, parseI_any (k := k) (k' := f.length - (p + 2)) (by omega) (by omega)]
theorem at_cv {f : List Nat} {p : Nat} (h : p < f.length) (hc : f[p] = 37) (h1 : f[p + 1]? ≠ some 37) : at' f p = match YG f 2 (Yh f p) with
    | none => none
    | some e => (at' f e).map (.cv ((f.drop p).take (e - p)) :: ·) := by
  unfold at'
  obtain ⟨k, hk⟩ : ∃ k, f.length - p = k + 1 := ⟨f.length - p - 1, by omega⟩
  rw [hk, XM, List.getElem?_eq_getElem h]
  dsimp only
  rw [if_neg (by simp [hc]), if_neg h1]
  cases hs : YG f 2 (Yh f p) with
  | none => rfl
  | some e =>
    have h1 := Xk hs
    have h2 := Wh f p
    dsimp only
    rw [parseI_any (k := k) (k' := f.length - e) (by omega) (by omega)]
theorem parse_eq (f : List Nat) : parse f = at' f 0 := by
  unfold parse at'
  rw [Nat.sub_zero]
theorem Xc {f : List Nat} {k e : Nat} (h : e < f.length) (hl : letters.contains f[e] = false) : YG f (k + 1) e = if f[e] < 48 ∨ 57 < f[e] then none else YG f k (e + 1) := by
  rw [YG, List.getElem?_eq_getElem h]
  dsimp only
  rw [hl]
  rfl
theorem Y3 {f : List Nat} {k e : Nat} (h : e < f.length) (hl : letters.contains f[e] = true) : YG f k e = some (e + 1) := by
  cases k <;> (rw [YG, List.getElem?_eq_getElem h]; dsimp only; rw [hl]; rfl)
theorem scanK_none {f : List Nat} {k e : Nat} (h : f.length ≤ e) : YG f k e = none := by
  cases k <;> (rw [YG, List.getElem?_eq_none h])
theorem scanK_zero {f : List Nat} {e : Nat} (h : e < f.length) (hl : letters.contains f[e] = false) : YG f 0 e = none := by
  rw [YG, List.getElem?_eq_getElem h]
  dsimp only
  rw [hl]
  rfl
end Go.Fmt
end
section
set_option linter.unusedVariables false
set_option linter.unusedSimpArgs false
set_option linter.defProp false
set_option linter.all false
namespace Go.Ev.C
open Go.Proofs Go.Fmt
set_option maxRecDepth 100000
set_option linter.unusedSimpArgs false
variable {L : World → Prop} [YQ Q L]
/-- Cells of the run's own behind a slice. -/
def OwnL (e : TypeId) (H0 H : AH) (v : AV) (l : List AV) : Prop := (l = [] ∧ v = .nilslice) ∨ (l ≠ [] ∧ ∃ b,v = .slice b 0 l.length (.up 1) ∧ H0.next ≤ b ∧ b < H.next ∧ H.t.get b = some (.cells e l 0 false false))
theorem OwnL.sl {e : TypeId} {H0 H : AH} {v : AV} {l : List AV} (h : OwnL e H0 H v l) : SL v l.length := by
  rcases h with ⟨rfl, rfl⟩ | ⟨_, b, rfl, _⟩
  · exact .nil
  · exact .sl _ _ _ _
theorem OwnL.nil (e : TypeId) (H0 H : AH) : OwnL e H0 H .nilslice [] := .inl ⟨rfl, rfl⟩
theorem OwnL.up {e : TypeId} {H0 H H' : AH} {v : AV} {l : List AV} (h : OwnL e H0 H v l) (u : Up H H') : OwnL e H0 H' v l := by
  rcases h with h | ⟨h0, b, h1, h2, h3, h4⟩
  · exact .inl h
  · exact .inr ⟨h0, b, h1, h2, Nat.lt_of_lt_of_le h3 u.next, by rw [u.old b h3]; exact h4⟩
theorem OwnL.push {e ty : TypeId} (happ : ∀ (s x : AV) (H : AH),appendU Q [ty,ty] [s,x] H = (match YZ 1 x H with|some (n,cs) => Y1 e 1 s n cs H|none => none)) {H0 H : AH} {v : AV} {l : List AV} (h : OwnL e H0 H v l) (hu : Up H0 H) (x : AV) (hx1 : Ye x = true) (hx2 : ZO x = true) (hl1 : l.all Ye = true) (hl2 : l.all ZO = true) (hn : l.length + 1 ≤ 274877906944) :
    ∃ v' H', appendU Q [ty, ty] [v, .slice H.next 0 1 (.is 1)] ⟨H.t.put H.next (some (.cells e [x] 0 false false)), H.next + 1⟩ = some (v', H') ∧ OwnL e H0 H' v' (l ++ [x]) ∧ Up H0 H' := by
  have hcell : AH.cellsAt ⟨H.t.put H.next (some (.cells e [x] 0 false false)), H.next + 1⟩ H.next = some [x] := by rw [Yu, if_pos rfl]
  have hnew : YZ 1 (.slice H.next 0 1 (.is 1)) ⟨H.t.put H.next (some (.cells e [x] 0 false false)), H.next + 1⟩ = some (1, [x]) := newCells_some (by omega) hcell (cut_self rfl (by simp [hx2]))
  have hu1 : Up H0 ⟨H.t.put H.next (some (.cells e [x] 0 false false)), H.next + 1⟩ := hu.trans (Up.box _ _)
  rw [happ, hnew]
  dsimp only
  have h0 := hu.next
  rcases h with ⟨rfl, rfl⟩ | ⟨hne, b, rfl, hb0, hb, hg⟩
  · rw [appendTo_nil (by omega) (by omega) (by simp [hx1])]
    refine ⟨_, _, rfl, .inr ⟨by simp, H.next + 1, rfl, by omega, Nat.lt_succ_self _, ?_⟩, ?_⟩
    · show (Tri.put _ _ _).get _ = _
      rw [Zd, if_pos rfl]
      rfl
    · exact hu1.trans (Up.box _ _)
  · have hg1 : (AH.mk (H.t.put H.next (some (.cells e [x] 0 false false))) (H.next + 1)).t.get b = some (.cells e l 0 false false) := by
      show (Tri.put _ _ _).get _ = _
      rw [Zd, if_neg (by omega)]
      exact hg
    rw [appendTo_up hg1 (cut_self (by rw [Nat.mul_one]) hl2) (by omega) hn hl1 (by simp [hx1])]
    refine ⟨_, _, rfl, .inr ⟨by simp, H.next + 1, by simp, by omega, Nat.lt_succ_self _, ?_⟩, ?_⟩
    · show (Tri.put _ _ _).get _ = _
      rw [Zd, if_pos rfl]
    · refine ⟨by show H0.next ≤ H.next + 1 + 1; omega, fun b' hb' => ?_⟩
      show ((Tri.put _ _ _).put (H.next + 1) _).get _ = _
      rw [Zd, if_neg (by omega), Zd, if_neg (by omega)]
      exact hu1.old b' hb'
theorem app74 (s x : AV) (H : AH) : appendU Q [74, 74] [s, x] H = (match YZ 1 x H with | some (n, cs) => Y1 9 1 s n cs H | none => none) := by kernel_rfl
def mkS1 (a : Option AV) : Option New := match a with
  | some a => (match fillU (fun i => some (i * 1, 1)) [.str []] [(0, a)] with
    | some c => some (.cells 9 c 0 false false, fun b => .slice b 0 1 (.is 1))
    | none => none)
  | _ => none
theorem zero9 : zeroU Q 9 = some (.str []) := by kernel_rfl
theorem bs74 (t : Tri AV) (k : Nat) : Xa Q t 74 1 #[(0, .tmp k)] = mkS1 (t.get k) := by
  cases ha : t.get k with
  | none => simp [Xa, und74, YX, Zg, ha, mkS1]
  | some a =>
    simp [Xa, und74, sz9, zero9, YX, Zg, ha, mkS1, AV.cells]
    cases fillU (fun i => some (i, 1)) [AV.str []] [(0, a)] <;> rfl
theorem mkS1_str (s : List Nat) : mkS1 (some (.str s)) = some (.cells 9 [.str s] 0 false false, fun b => .slice b 0 1 (.is 1)) := rfl
def strL (l : List (List Nat)) : List AV := l.map .str
theorem strL_one (l : List (List Nat)) : (strL l).all Ye = true := List.all_eq_true.2 fun v hv => by obtain ⟨x, _, rfl⟩ := List.mem_map.1 hv; rfl
theorem strL_hole (l : List (List Nat)) : (strL l).all ZO = true := List.all_eq_true.2 fun v hv => by obtain ⟨x, _, rfl⟩ := List.mem_map.1 hv; rfl
def let7 : List AV := [.int .u8 100, .int .u8 117, .int .u8 120, .int .u8 111, .int .u8 99, .int .u8 112, .int .u8 115]
theorem bs35c (t : Tri AV) : Xa Q t 35 7 #[(0,.const (.int .u8 100)),(1,.const (.int .u8 117)),(2,.const (.int .u8 120)),(3,.const (.int .u8 111)),(4,.const (.int .u8 99)),(5,.const (.int .u8 112)),(6,.const (.int .u8 115))] = some (.cells 5 let7 0 false false,fun b => .slice b 0 7 (.is 7)) := by kernel_rfl
theorem let7_one : let7.all Ye = true := rfl
theorem conv7 (H : AH) : convE Q 35 35 (.slice H.next 0 7 (.is 7)) ⟨H.t.put H.next (some (.cells 5 let7 0 false false)),H.next + 1⟩ = some (.slice H.next 0 7 (.is 7),⟨(H.t.put H.next (some (.cells 5 let7 0 false false))).put H.next (some (.cells 5 let7 0 true false)),H.next + 1⟩) := by
  have hg : (H.t.put H.next (some (AB.cells 5 let7 0 false false))).get H.next = some (.cells 5 let7 0 false false) := by rw [Zd, if_pos rfl]
  have h35 : Nat.beq 35 35 = true := rfl
  simp only [convE, XH, und5, h35, hg, AH.set]
  rfl
theorem bytes7 (H : AH) : BytesAt ⟨(H.t.put H.next (some (.cells 5 let7 0 false false))).put H.next (some (.cells 5 let7 0 true false)), H.next + 1⟩ (.slice H.next 0 7 (.is 7)) letters := by
  refine ⟨.sl _ _ _ _, fun b off n cap e _ => ?_⟩
  cases e
  refine ⟨let7, Nat.lt_succ_self _, by rw [Yu, if_pos rfl], fun i z hz => ?_⟩
  have : let7 = letters.map byteV := rfl
  rw [this, Nat.zero_add, Nat.mul_one, List.getElem?_map, hz]
  rfl
theorem XA {s : List Nat} {i : Nat} (h : i < s.length) : XN Q 9 (.str s) (.int .i64 (i : Int)) = some (.int .u8 ((s[i] : Nat) : Int)) := by
  simp only [XN, und9, idxU_lt h, List.getElem?_eq_getElem h, Option.map_some]
  rfl
end Go.Ev.C
end
section
set_option linter.unusedVariables false
set_option linter.unusedSimpArgs false
set_option linter.defProp false
set_option linter.all false
namespace Go.Ev.C
open Go.Proofs Go.Fmt
set_option maxRecDepth 100000
set_option linter.unusedSimpArgs false
variable {L : World → Prop} [YQ Q L]
omit [YQ Q L] in
/-- What follows is proved once, for whatever way leads there. -/
theorem WF.cutT {P : Program} {f n : Nat} {t : Tri AV} {x : AI} {k : List AI} {H : AH} {Φ : AF → AH → Prop} (I : Tri AV → Prop) (hk : ∀ t,I t → WF P L (PF f n t k) H Φ) (h : (∀ t,I t → WF P L (PF f n t k) H Φ) → WF P L (PF f n t (x :: k)) H Φ) : WF P L (PF f n t (x :: k)) H Φ := h hk
def FmtPost (f : List Nat) (H : AH) (w : AV) (H' : AH) : Prop := Up H H' ∧ match parse f with
  | none => w = .tuple [.nilslice, .int .i64 5]
  | some segs => ∃ v, w = .tuple [v, .int .i64 0] ∧ OwnL 9 H H' v (strL (Xw segs))
set_option maxHeartbeats 4000000 in
theorem checkFormat_c (H : AH) (f : List Nat) (hf : f.length ≤ 1000000000) : Fn Q L 37 [.str f] H (FmtPost f H) := by
  refine Fn.intro (en37 _) ?_
  unfold c37 Tryz.f37
  simp only [Option.getD_some]
  repeat (first | (apply Zh; exact rfl) | apply Zb | apply WO.nil | (apply Zk; exact rfl; simp only [rE, rS, li, lo, reduceIte, Nat.reduceEqDiff, Nat.reduceAdd, Nat.reduceMul]; exact rfl; exact rfl))
  refine WF.scope ?_
  repeat (first | (apply Zh; exact rfl) | apply Zb | apply WO.nil | (apply Zk; exact rfl; simp only [rE, rS, li, lo, reduceIte, Nat.reduceEqDiff, Nat.reduceAdd, Nat.reduceMul]; exact rfl; exact rfl))
  refine WF.label ?_
  repeat (first | (apply Zh; exact rfl) | apply Zb | apply WO.nil | (apply Zk; exact rfl; simp only [rE, rS, li, lo, reduceIte, Nat.reduceEqDiff, Nat.reduceAdd, Nat.reduceMul]; exact rfl; exact rfl))
  refine YL (fun m t H' => ∃ (p : Nat) (acc : List Seg) (v : AV),Up H H' ∧ p + m = f.length ∧ parse f = (at' f p).map (acc ++ ·) ∧ (Xw acc).length ≤ p ∧ OwnL 9 H H' v (strL (Xw acc)) ∧ t.get 0 = some (.str f) ∧ t.get 4 = some v ∧ t.get 5 = some (.int .i64 (p : Int))) f.length ?_ ?_
  · refine ⟨0, [], .nilslice, Up.refl _, by omega, ?_, Nat.le_refl _, OwnL.nil _ _ _, ?_, ?_, ?_⟩
    · rw [parse_eq]
      cases at' f 0 <;> simp
    · simp [Zd, Zm]
    · simp [Zd, Zm]
    · simp [Zd, Zm]
  rintro m t H' ⟨p, acc, v, hu, hpm, hpar, hcl, hown, ht0, ht4, ht5⟩ ih
  rcases Nat.lt_or_ge p f.length with hp | hp
  rotate_left
  · obtain rfl : p = f.length := by omega
    have hlt : decide ((f.length : Int) < (f.length : Int)) = false := by simp
    repeat (first|(apply Zh;exact rfl)|apply Zb|apply WO.nil|(apply WO.op;(focus (simp only [rQ,Zc,li,lo,reduceIte,Nat.reduceEqDiff,Nat.reduceAdd,beq_self_eq_true,hlt];done));simp only [rE,rS,li,lo,reduceIte,Nat.reduceEqDiff,Nat.reduceAdd,Nat.reduceMul,Zi,ZF,ht0,ht4,ht5,hlt];exact rfl;exact rfl)|(apply WO.unwanted;(focus (simp only [rQ,Zc,li,lo,reduceIte,Nat.reduceEqDiff,Nat.reduceAdd,beq_self_eq_true,hlt];done));exact rfl))
    (first|(apply WF.condT;(focus (simp only [Zg,Zf,Zd,Zm,Bool.not_true,Bool.not_false,reduceIte,Nat.reduceEqDiff,hlt];done)))|(apply WF.condF;(focus (simp only [Zg,Zf,Zd,Zm,Bool.not_true,Bool.not_false,reduceIte,Nat.reduceEqDiff,hlt];done))))
    repeat (first|(apply Zh;exact rfl)|apply Zb|apply WO.nil|(apply WO.op;(focus (simp only [rQ,Zc,li,lo,reduceIte,Nat.reduceEqDiff,Nat.reduceAdd,beq_self_eq_true,hlt];done));simp only [rE,rS,li,lo,reduceIte,Nat.reduceEqDiff,Nat.reduceAdd,Nat.reduceMul,Zi,ZF,ht0,ht4,ht5,hlt];exact rfl;exact rfl)|(apply WO.unwanted;(focus (simp only [rQ,Zc,li,lo,reduceIte,Nat.reduceEqDiff,Nat.reduceAdd,beq_self_eq_true,hlt];done));exact rfl))
    (apply WF.ret; (focus (simp only [Zj, Zd, Zm, Zv, reduceIte, Nat.reduceEqDiff, rs37, ht4]; exact rfl)))
    rw [at_end (Nat.le_refl _)] at hpar
    unfold FmtPost
    rw [hpar]
    exact ⟨hu, v, rfl, by simpa using hown⟩
  have hlt : decide ((p : Int) < (f.length : Int)) = true := by simp; omega
  have w1 : IntKind.i64.wrap ((p : Int) + 1) = ((p + 1 : Nat) : Int) := by rw [w64 (by omega) (by omega)]; omega
  have w2 : IntKind.i64.wrap ((p : Int) + 2) = ((p + 2 : Nat) : Int) := by rw [w64 (by omega) (by omega)]; omega
  have w3 : IntKind.i64.wrap (((p + 1 : Nat) : Int) + 1) = ((p + 2 : Nat) : Int) := by rw [w64 (by omega) (by omega)]; omega
  repeat (first|(apply Zh;exact rfl)|apply Zb|apply WO.nil|(apply WO.op;(focus (simp only [rQ,Zc,li,lo,reduceIte,Nat.reduceEqDiff,Nat.reduceAdd,beq_self_eq_true,hlt];done));simp only [rE,rS,li,lo,reduceIte,Nat.reduceEqDiff,Nat.reduceAdd,Nat.reduceMul,Zi,ZF,ht0,ht4,ht5,hlt];exact rfl;exact rfl)|(apply WO.unwanted;(focus (simp only [rQ,Zc,li,lo,reduceIte,Nat.reduceEqDiff,Nat.reduceAdd,beq_self_eq_true,hlt];done));exact rfl))
  (first|(apply WF.condT;(focus (simp only [Zg,Zf,Zd,Zm,Bool.not_true,Bool.not_false,reduceIte,Nat.reduceEqDiff,hlt];done)))|(apply WF.condF;(focus (simp only [Zg,Zf,Zd,Zm,Bool.not_true,Bool.not_false,reduceIte,Nat.reduceEqDiff,hlt];done))))
  cases q1 : decide (((f[p] : Nat) : Int) = 37)
  · have hne : f[p] ≠ 37 := by
      have := of_decide_eq_false q1
      omega
    rw [at_lit hp hne, Option.map_map] at hpar
    repeat (first|(apply Zh;exact rfl)|apply Zb|apply WO.nil|(apply WO.op;(focus (simp only [rQ,Zc,li,lo,reduceIte,Nat.reduceEqDiff,Nat.reduceAdd,beq_self_eq_true,hlt,q1];done));simp only [rE,rS,li,lo,reduceIte,Nat.reduceEqDiff,Nat.reduceAdd,Nat.reduceMul,Zi,ZF,ht0,ht4,ht5,hlt,XA hp,q1];exact rfl;exact rfl)|(apply WO.unwanted;(focus (simp only [rQ,Zc,li,lo,reduceIte,Nat.reduceEqDiff,Nat.reduceAdd,beq_self_eq_true,hlt,q1];done));exact rfl))
    (first|(apply WF.condT;(focus (simp only [Zg,Zf,Zd,Zm,Bool.not_true,Bool.not_false,reduceIte,Nat.reduceEqDiff];done)))|(apply WF.condF;(focus (simp only [Zg,Zf,Zd,Zm,Bool.not_true,Bool.not_false,reduceIte,Nat.reduceEqDiff];done))))
    repeat (first|(apply Zh;exact rfl)|apply Zb|apply WO.nil|(apply WO.op;(focus (simp only [rQ,Zc,li,lo,reduceIte,Nat.reduceEqDiff,Nat.reduceAdd,beq_self_eq_true,hlt];done));simp only [rE,rS,li,lo,reduceIte,Nat.reduceEqDiff,Nat.reduceAdd,Nat.reduceMul,Zi,ZF,ht0,ht4,ht5,hlt,w1];exact rfl;exact rfl)|(apply WO.unwanted;(focus (simp only [rQ,Zc,li,lo,reduceIte,Nat.reduceEqDiff,Nat.reduceAdd,beq_self_eq_true,hlt];done));exact rfl))
    refine Z4 ?_
    refine ih (m - 1) _ _ (by omega) ⟨p + 1, acc ++ [.lit f[p]], v, hu, by omega, ?_, ?_, ?_, ?_, ?_, ?_⟩
    · rw [hpar]
      congr 1
      funext x
      simp
    · rw [Yb]; simp [Xw]; omega
    · rw [Yb]; simpa [Xw] using hown
    · simp [Zd, ht0]
    · simp [Zd, ht4]
    · simp [Zd]
  have heq : f[p] = 37 := by
    have := of_decide_eq_true q1
    omega
  repeat (first|(apply Zh;exact rfl)|apply Zb|apply WO.nil|(apply WO.op;(focus (simp only [rQ,Zc,li,lo,reduceIte,Nat.reduceEqDiff,Nat.reduceAdd,beq_self_eq_true,hlt,q1];done));simp only [rE,rS,li,lo,reduceIte,Nat.reduceEqDiff,Nat.reduceAdd,Nat.reduceMul,Zi,ZF,ht0,ht4,ht5,hlt,XA hp,q1];exact rfl;exact rfl)|(apply WO.unwanted;(focus (simp only [rQ,Zc,li,lo,reduceIte,Nat.reduceEqDiff,Nat.reduceAdd,beq_self_eq_true,hlt,q1];done));exact rfl))
  (first|(apply WF.condT;(focus (simp only [Zg,Zf,Zd,Zm,Bool.not_true,Bool.not_false,reduceIte,Nat.reduceEqDiff];done)))|(apply WF.condF;(focus (simp only [Zg,Zf,Zd,Zm,Bool.not_true,Bool.not_false,reduceIte,Nat.reduceEqDiff];done))))
  iterate 8 (first|(apply Zh;exact rfl)|apply Zb|apply WO.nil|(apply WO.op;(focus (simp only [rQ,Zc,li,lo,reduceIte,Nat.reduceEqDiff,Nat.reduceAdd,beq_self_eq_true,hlt];done));simp only [rE,rS,li,lo,reduceIte,Nat.reduceEqDiff,Nat.reduceAdd,Nat.reduceMul,Zi,ZF,ht0,ht4,ht5,hlt,w1];exact rfl;exact rfl)|(apply WO.unwanted;(focus (simp only [rQ,Zc,li,lo,reduceIte,Nat.reduceEqDiff,Nat.reduceAdd,beq_self_eq_true,hlt];done));exact rfl))
  refine WF.cutT (fun t => (t.get 0 = some (.str f) ∧ t.get 4 = some v ∧ t.get 5 = some (.int .i64 (p : Int))) ∧ t.get 6 = some (.int .i64 ((p + 1 : Nat) : Int)) ∧ f[p + 1]? ≠ some 37) ?_ ?_
  · clear ht0 ht4 ht5
    rintro t ⟨⟨ht0, ht4, ht5⟩, ht6, h37⟩
    rw [at_cv hp heq h37] at hpar
    refine WF.seq ?_
    refine WF.cutT (fun t => (t.get 0 = some (.str f) ∧ t.get 4 = some v ∧ t.get 5 = some (.int .i64 (p : Int))) ∧ t.get 6 = some (.int .i64 ((Yh f p : Nat) : Int)) ∧ Yh f p ≤ f.length) ?_ ?_
    · clear ht0 ht4 ht5 ht6
      rintro t ⟨⟨ht0, ht4, ht5⟩, ht6, hdl⟩
      repeat (first|(apply Zh;exact rfl)|apply Zb|apply WO.nil|(apply Zk;exact rfl;simp only [rE,rS,li,lo,reduceIte,Nat.reduceEqDiff,Nat.reduceAdd,Nat.reduceMul,Zi,ZF,ht0,ht4,ht5,ht6];exact rfl;exact rfl))
      refine YL (fun m t H' => ∃ (e n : Nat),Up H H' ∧ e + m = f.length ∧ n ≤ 2 ∧ p < e ∧ YG f (2 - n) e = YG f 2 (Yh f p) ∧ OwnL 9 H H' v (strL (Xw acc)) ∧ t.get 0 = some (.str f) ∧ t.get 4 = some v ∧ t.get 5 = some (.int .i64 (p : Int)) ∧ t.get 6 = some (.int .i64 (e : Int)) ∧ t.get 7 = some (.int .i64 (n : Int))) (f.length - Yh f p) ?_ ?_
      · refine ⟨Yh f p, 0, hu, by omega, by omega, Wh f p, rfl, hown, ?_, ?_, ?_, ?_, ?_⟩
        · simp [Zd, ht0]
        · simp [Zd, ht4]
        · simp [Zd, ht5]
        · simp [Zd, ht6]
        · simp [Zd]
      clear ht0 ht4 ht5 ht6 hown hu
      rintro m2 t H' ⟨e, n, hu, hem, hn2, hpe, hsc, hown, ht0, ht4, ht5, ht6, ht7⟩ ih2
      have none_post : YG f 2 (Yh f p) = none → parse f = none := fun h => by rw [hpar, h]; rfl
      rcases Nat.lt_or_ge e f.length with he | he
      rotate_left
      · have hlt : decide ((e : Int) < (f.length : Int)) = false := by simp; omega
        repeat (first|(apply Zh;exact rfl)|apply Zb|apply WO.nil|(apply WO.op;(focus (simp only [rQ,Zc,li,lo,reduceIte,Nat.reduceEqDiff,Nat.reduceAdd,beq_self_eq_true,hlt];done));simp only [rE,rS,li,lo,reduceIte,Nat.reduceEqDiff,Nat.reduceAdd,Nat.reduceMul,Zi,ZF,ht0,ht4,ht5,ht6,ht7,hlt];exact rfl;exact rfl)|(apply WO.unwanted;(focus (simp only [rQ,Zc,li,lo,reduceIte,Nat.reduceEqDiff,Nat.reduceAdd,beq_self_eq_true,hlt];done));exact rfl))
        (first|(apply WF.condT;(focus (simp only [Zg,Zf,Zd,Zm,Bool.not_true,Bool.not_false,reduceIte,Nat.reduceEqDiff,hlt];done)))|(apply WF.condF;(focus (simp only [Zg,Zf,Zd,Zm,Bool.not_true,Bool.not_false,reduceIte,Nat.reduceEqDiff,hlt];done))))
        repeat (first|(apply Zh;exact rfl)|apply Zb|apply WO.nil|(apply WO.op;(focus (simp only [rQ,Zc,li,lo,reduceIte,Nat.reduceEqDiff,Nat.reduceAdd,beq_self_eq_true,hlt];done));simp only [rE,rS,li,lo,reduceIte,Nat.reduceEqDiff,Nat.reduceAdd,Nat.reduceMul,Zi,ZF,ht0,ht4,ht5,ht6,ht7,hlt];exact rfl;exact rfl)|(apply WO.unwanted;(focus (simp only [rQ,Zc,li,lo,reduceIte,Nat.reduceEqDiff,Nat.reduceAdd,beq_self_eq_true,hlt];done));exact rfl))
        (apply WF.ret; (focus (simp only [Zj, Zd, Zm, Zv, reduceIte, Nat.reduceEqDiff, rs37]; exact rfl)))
        unfold FmtPost
        rw [none_post (by rw [← hsc]; exact scanK_none he)]
        exact ⟨hu, rfl⟩
      have hlt : decide ((e : Int) < (f.length : Int)) = true := by simp; omega
      have we : IntKind.i64.wrap ((e : Int) + 1) = ((e + 1 : Nat) : Int) := by rw [w64 (by omega) (by omega)]; omega
      have wn : IntKind.i64.wrap ((n : Int) + 1) = ((n + 1 : Nat) : Int) := by rw [w64 (by omega) (by omega)]; omega
      repeat (first|(apply Zh;exact rfl)|apply Zb|apply WO.nil|(apply WO.op;(focus (simp only [rQ,Zc,li,lo,reduceIte,Nat.reduceEqDiff,Nat.reduceAdd,beq_self_eq_true,hlt];done));simp only [rE,rS,li,lo,reduceIte,Nat.reduceEqDiff,Nat.reduceAdd,Nat.reduceMul,Zi,ZF,ht0,ht4,ht5,ht6,ht7,hlt];exact rfl;exact rfl)|(apply WO.unwanted;(focus (simp only [rQ,Zc,li,lo,reduceIte,Nat.reduceEqDiff,Nat.reduceAdd,beq_self_eq_true,hlt];done));exact rfl))
      (first|(apply WF.condT;(focus (simp only [Zg,Zf,Zd,Zm,Bool.not_true,Bool.not_false,reduceIte,Nat.reduceEqDiff,hlt];done)))|(apply WF.condF;(focus (simp only [Zg,Zf,Zd,Zm,Bool.not_true,Bool.not_false,reduceIte,Nat.reduceEqDiff,hlt];done))))
      repeat (first|(apply Zh;exact rfl)|apply Zb|apply WO.nil|(apply WO.op;(focus (simp only [rQ,Zc,li,lo,reduceIte,Nat.reduceEqDiff,Nat.reduceAdd,beq_self_eq_true,hlt];done));simp only [rE,rS,li,lo,reduceIte,Nat.reduceEqDiff,Nat.reduceAdd,Nat.reduceMul,Zi,ZF,ht0,ht4,ht5,ht6,ht7,hlt,XA he,we,bs35c,let7_one,convertE,conv7];exact rfl;exact rfl)|(apply WO.unwanted;(focus (simp only [rQ,Zc,li,lo,reduceIte,Nat.reduceEqDiff,Nat.reduceAdd,beq_self_eq_true,hlt];done));exact rfl))
      (apply WO.call;(focus (simp only [rQ,Zc,li,lo,reduceIte,Nat.reduceEqDiff,Nat.reduceAdd,beq_self_eq_true,hlt];done));simp only [rE,rS,li,lo,reduceIte,Nat.reduceEqDiff,Nat.reduceAdd,Nat.reduceMul,Zi,ZF,ht0,ht4,ht5,ht6,ht7,hlt];exact rfl;exact hasByte_c _ _ letters _ (bytes7 _) (by decide);rintro _ H2 ⟨rfl,hH2⟩;refine ⟨_,rfl,?_⟩)
      have hu2 : Up H H2 := by rw [hH2]; exact hu.trans (Up.box2 _ _ _)
      have hown2 : OwnL 9 H H2 v (strL (Xw acc)) := by rw [hH2]; exact hown.up (Up.box2 _ _ _)
      clear hH2
      repeat (first|(apply Zh;exact rfl)|apply Zb|apply WO.nil|(apply Zk;exact rfl;simp only [rE,rS,li,lo,reduceIte,Nat.reduceEqDiff,Nat.reduceAdd,Nat.reduceMul,Zi,ZF,ht0,ht4,ht5,ht6,ht7];exact rfl;exact rfl))
      cases hl : letters.contains f[e]
      · (first|(apply WF.condT;(focus (simp only [Zg,Zf,Zd,Zm,Bool.not_true,Bool.not_false,reduceIte,Nat.reduceEqDiff,hl];done)))|(apply WF.condF;(focus (simp only [Zg,Zf,Zd,Zm,Bool.not_true,Bool.not_false,reduceIte,Nat.reduceEqDiff,hl];done))))
        cases d1 : decide ((n : Int) = 2)
        · cases d2 : decide (((f[e] : Nat) : Int) < 48)
          · cases d3 : decide ((57 : Int) < ((f[e] : Nat) : Int))
            · repeat (first|(apply Zh;exact rfl)|apply Zb|apply WO.nil|(apply WO.op;(focus (simp only [rQ,Zc,li,lo,reduceIte,Nat.reduceEqDiff,Nat.reduceAdd,beq_self_eq_true,hlt,d1,d2,d3];done));simp only [rE,rS,li,lo,reduceIte,Nat.reduceEqDiff,Nat.reduceAdd,Nat.reduceMul,Zi,ZF,ht0,ht4,ht5,ht6,ht7,hlt,d1,d2,d3];exact rfl;exact rfl)|(apply WO.unwanted;(focus (simp only [rQ,Zc,li,lo,reduceIte,Nat.reduceEqDiff,Nat.reduceAdd,beq_self_eq_true,hlt,d1,d2,d3];done));exact rfl))
              (first|(apply WF.condT;(focus (simp only [Zg,Zf,Zd,Zm,Bool.not_true,Bool.not_false,reduceIte,Nat.reduceEqDiff,d3];done)))|(apply WF.condF;(focus (simp only [Zg,Zf,Zd,Zm,Bool.not_true,Bool.not_false,reduceIte,Nat.reduceEqDiff,d3];done))))
              repeat (first|(apply Zh;exact rfl)|apply Zb|apply WO.nil|(apply WO.op;(focus (simp only [rQ,Zc,li,lo,reduceIte,Nat.reduceEqDiff,Nat.reduceAdd,beq_self_eq_true,hlt];done));simp only [rE,rS,li,lo,reduceIte,Nat.reduceEqDiff,Nat.reduceAdd,Nat.reduceMul,Zi,ZF,ht0,ht4,ht5,ht6,ht7,hlt,wn];exact rfl;exact rfl)|(apply WO.unwanted;(focus (simp only [rQ,Zc,li,lo,reduceIte,Nat.reduceEqDiff,Nat.reduceAdd,beq_self_eq_true,hlt];done));exact rfl))
              refine Z4 ?_
              refine ih2 (m2 - 1) _ _ (by omega) ⟨e + 1, n + 1, hu2, by omega, ?_, by omega, ?_, hown2, ?_, ?_, ?_, ?_, ?_⟩
              · have := of_decide_eq_false d1
                omega
              · have e1 := of_decide_eq_false d1
                have e2 := of_decide_eq_false d2
                have e3 := of_decide_eq_false d3
                rw [← hsc, show 2 - n = (2 - (n + 1)) + 1 from by omega, Xc he hl, if_neg (by omega)]
              · simp [Zd, ht0]
              · simp [Zd, ht4]
              · simp [Zd, ht5]
              · simp [Zd]
              · simp [Zd]
            · repeat (first|(apply Zh;exact rfl)|apply Zb|apply WO.nil|(apply WO.op;(focus (simp only [rQ,Zc,li,lo,reduceIte,Nat.reduceEqDiff,Nat.reduceAdd,beq_self_eq_true,hlt,d1,d2,d3];done));simp only [rE,rS,li,lo,reduceIte,Nat.reduceEqDiff,Nat.reduceAdd,Nat.reduceMul,Zi,ZF,ht0,ht4,ht5,ht6,ht7,hlt,d1,d2,d3];exact rfl;exact rfl)|(apply WO.unwanted;(focus (simp only [rQ,Zc,li,lo,reduceIte,Nat.reduceEqDiff,Nat.reduceAdd,beq_self_eq_true,hlt,d1,d2,d3];done));exact rfl))
              (first|(apply WF.condT;(focus (simp only [Zg,Zf,Zd,Zm,Bool.not_true,Bool.not_false,reduceIte,Nat.reduceEqDiff,d3];done)))|(apply WF.condF;(focus (simp only [Zg,Zf,Zd,Zm,Bool.not_true,Bool.not_false,reduceIte,Nat.reduceEqDiff,d3];done))))
              repeat (first|(apply Zh;exact rfl)|apply Zb|apply WO.nil|(apply WO.op;(focus (simp only [rQ,Zc,li,lo,reduceIte,Nat.reduceEqDiff,Nat.reduceAdd,beq_self_eq_true,hlt];done));simp only [rE,rS,li,lo,reduceIte,Nat.reduceEqDiff,Nat.reduceAdd,Nat.reduceMul,Zi,ZF,ht0,ht4,ht5,ht6,ht7,hlt];exact rfl;exact rfl)|(apply WO.unwanted;(focus (simp only [rQ,Zc,li,lo,reduceIte,Nat.reduceEqDiff,Nat.reduceAdd,beq_self_eq_true,hlt];done));exact rfl))
              (apply WF.ret; (focus (simp only [Zj, Zd, Zm, Zv, reduceIte, Nat.reduceEqDiff, rs37]; exact rfl)))
              unfold FmtPost
              have e1 := of_decide_eq_false d1
              have e3 := of_decide_eq_true d3
              rw [none_post (by rw [← hsc, show 2 - n = (2 - (n + 1)) + 1 from by omega, Xc he hl, if_pos (by omega)])]
              exact ⟨hu2, rfl⟩
          · repeat (first|(apply Zh;exact rfl)|apply Zb|apply WO.nil|(apply WO.op;(focus (simp only [rQ,Zc,li,lo,reduceIte,Nat.reduceEqDiff,Nat.reduceAdd,beq_self_eq_true,hlt,d1,d2];done));simp only [rE,rS,li,lo,reduceIte,Nat.reduceEqDiff,Nat.reduceAdd,Nat.reduceMul,Zi,ZF,ht0,ht4,ht5,ht6,ht7,hlt,d1,d2];exact rfl;exact rfl)|(apply WO.unwanted;(focus (simp only [rQ,Zc,li,lo,reduceIte,Nat.reduceEqDiff,Nat.reduceAdd,beq_self_eq_true,hlt,d1,d2];done));exact rfl))
            (first|(apply WF.condT;(focus (simp only [Zg,Zf,Zd,Zm,Bool.not_true,Bool.not_false,reduceIte,Nat.reduceEqDiff,d2];done)))|(apply WF.condF;(focus (simp only [Zg,Zf,Zd,Zm,Bool.not_true,Bool.not_false,reduceIte,Nat.reduceEqDiff,d2];done))))
            repeat (first|(apply Zh;exact rfl)|apply Zb|apply WO.nil|(apply WO.op;(focus (simp only [rQ,Zc,li,lo,reduceIte,Nat.reduceEqDiff,Nat.reduceAdd,beq_self_eq_true,hlt];done));simp only [rE,rS,li,lo,reduceIte,Nat.reduceEqDiff,Nat.reduceAdd,Nat.reduceMul,Zi,ZF,ht0,ht4,ht5,ht6,ht7,hlt];exact rfl;exact rfl)|(apply WO.unwanted;(focus (simp only [rQ,Zc,li,lo,reduceIte,Nat.reduceEqDiff,Nat.reduceAdd,beq_self_eq_true,hlt];done));exact rfl))
            (apply WF.ret; (focus (simp only [Zj, Zd, Zm, Zv, reduceIte, Nat.reduceEqDiff, rs37]; exact rfl)))
            unfold FmtPost
            have e1 := of_decide_eq_false d1
            have e2 := of_decide_eq_true d2
            rw [none_post (by rw [← hsc, show 2 - n = (2 - (n + 1)) + 1 from by omega, Xc he hl, if_pos (by omega)])]
            exact ⟨hu2, rfl⟩
        · repeat (first|(apply Zh;exact rfl)|apply Zb|apply WO.nil|(apply WO.op;(focus (simp only [rQ,Zc,li,lo,reduceIte,Nat.reduceEqDiff,Nat.reduceAdd,beq_self_eq_true,hlt,d1];done));simp only [rE,rS,li,lo,reduceIte,Nat.reduceEqDiff,Nat.reduceAdd,Nat.reduceMul,Zi,ZF,ht0,ht4,ht5,ht6,ht7,hlt,d1];exact rfl;exact rfl)|(apply WO.unwanted;(focus (simp only [rQ,Zc,li,lo,reduceIte,Nat.reduceEqDiff,Nat.reduceAdd,beq_self_eq_true,hlt,d1];done));exact rfl))
          (first|(apply WF.condT;(focus (simp only [Zg,Zf,Zd,Zm,Bool.not_true,Bool.not_false,reduceIte,Nat.reduceEqDiff,d1];done)))|(apply WF.condF;(focus (simp only [Zg,Zf,Zd,Zm,Bool.not_true,Bool.not_false,reduceIte,Nat.reduceEqDiff,d1];done))))
          repeat (first|(apply Zh;exact rfl)|apply Zb|apply WO.nil|(apply WO.op;(focus (simp only [rQ,Zc,li,lo,reduceIte,Nat.reduceEqDiff,Nat.reduceAdd,beq_self_eq_true,hlt];done));simp only [rE,rS,li,lo,reduceIte,Nat.reduceEqDiff,Nat.reduceAdd,Nat.reduceMul,Zi,ZF,ht0,ht4,ht5,ht6,ht7,hlt];exact rfl;exact rfl)|(apply WO.unwanted;(focus (simp only [rQ,Zc,li,lo,reduceIte,Nat.reduceEqDiff,Nat.reduceAdd,beq_self_eq_true,hlt];done));exact rfl))
          (apply WF.ret; (focus (simp only [Zj, Zd, Zm, Zv, reduceIte, Nat.reduceEqDiff, rs37]; exact rfl)))
          unfold FmtPost
          have e1 := of_decide_eq_true d1
          rw [none_post (by rw [← hsc, show 2 - n = 0 from by omega, scanK_zero he hl])]
          exact ⟨hu2, rfl⟩
      · have hsl := slS_both (s := f) (a := p) (b := e + 1) (by omega) (by omega)
        obtain ⟨v', H3, hp3, hown3, hu3⟩ := hown2.push app74 hu2 (.str ((f.drop p).take (e + 1 - p))) rfl rfl (strL_one _) (strL_hole _) (by simp [strL]; omega)
        (first|(apply WF.condT;(focus (simp only [Zg,Zf,Zd,Zm,Bool.not_true,Bool.not_false,reduceIte,Nat.reduceEqDiff,hl];done)))|(apply WF.condF;(focus (simp only [Zg,Zf,Zd,Zm,Bool.not_true,Bool.not_false,reduceIte,Nat.reduceEqDiff,hl];done))))
        repeat (first|(apply Zh;exact rfl)|apply Zb|apply WO.nil|(apply WO.op;(focus (simp only [rQ,Zc,li,lo,reduceIte,Nat.reduceEqDiff,Nat.reduceAdd,beq_self_eq_true,hlt];done));simp only [rE,rS,li,lo,reduceIte,Nat.reduceEqDiff,Nat.reduceAdd,Nat.reduceMul,Zi,ZF,ht0,ht4,ht5,ht6,ht7,hlt,hsl,bs74,mkS1_str,hp3];exact rfl;exact rfl)|(apply WO.unwanted;(focus (simp only [rQ,Zc,li,lo,reduceIte,Nat.reduceEqDiff,Nat.reduceAdd,beq_self_eq_true,hlt];done));exact rfl))
        refine Z4 ?_
        have hse : YG f 2 (Yh f p) = some (e + 1) := by rw [← hsc]; exact Y3 he hl
        rw [hse] at hpar
        dsimp only at hpar
        rw [Option.map_map] at hpar
        refine ih (f.length - (e + 1)) _ _ (by omega) ⟨e + 1, acc ++ [.cv ((f.drop p).take (e + 1 - p))], v', hu3, by omega, ?_, ?_, ?_, ?_, ?_, ?_⟩
        · rw [hpar]
          congr 1
          funext x
          simp
        · rw [Yb]; simp [Xw]; omega
        · rw [Yb]; simpa [Xw, strL] using hown3
        · simp [Zd, ht0]
        · simp [Zd]
        · simp [Zd]
    · intro tail
      rcases Nat.lt_or_ge (p + 1) f.length with h1 | h1
      · have q2 : decide (((p + 1 : Nat) : Int) < (f.length : Int)) = true := by simp; omega
        cases q4 : decide (((f[p + 1] : Nat) : Int) = 45)
        · have hd : Yh f p = p + 1 := by
            unfold Yh
            rw [if_neg]
            rw [List.getElem?_eq_getElem h1]
            have := of_decide_eq_false q4
            intro e
            have := Option.some.inj e
            omega
          repeat (first|(apply Zh;exact rfl)|apply Zb|apply WO.nil|(apply WO.op;(focus (simp only [rQ,Zc,li,lo,reduceIte,Nat.reduceEqDiff,Nat.reduceAdd,beq_self_eq_true,q2,q4];done));simp only [rE,rS,li,lo,reduceIte,Nat.reduceEqDiff,Nat.reduceAdd,Nat.reduceMul,Zi,ZF,ht0,ht4,ht5,ht6,q2,q4,XA h1];exact rfl;exact rfl)|(apply WO.unwanted;(focus (simp only [rQ,Zc,li,lo,reduceIte,Nat.reduceEqDiff,Nat.reduceAdd,beq_self_eq_true,q2,q4];done));exact rfl))
          (first|(apply WF.condT;(focus (simp only [Zg,Zf,Zd,Zm,Bool.not_true,Bool.not_false,reduceIte,Nat.reduceEqDiff];done)))|(apply WF.condF;(focus (simp only [Zg,Zf,Zd,Zm,Bool.not_true,Bool.not_false,reduceIte,Nat.reduceEqDiff];done))))
          refine WF.skip ?_
          exact tail _ ⟨⟨by simp [Zd, ht0], by simp [Zd, ht4], by simp [Zd, ht5]⟩, by rw [hd]; simp [Zd, ht6], by omega⟩
        · have hd : Yh f p = p + 2 := by
            unfold Yh
            rw [if_pos]
            rw [List.getElem?_eq_getElem h1]
            have := of_decide_eq_true q4
            congr 1
            omega
          repeat (first|(apply Zh;exact rfl)|apply Zb|apply WO.nil|(apply WO.op;(focus (simp only [rQ,Zc,li,lo,reduceIte,Nat.reduceEqDiff,Nat.reduceAdd,beq_self_eq_true,q2,q4];done));simp only [rE,rS,li,lo,reduceIte,Nat.reduceEqDiff,Nat.reduceAdd,Nat.reduceMul,Zi,ZF,ht0,ht4,ht5,ht6,q2,q4,XA h1];exact rfl;exact rfl)|(apply WO.unwanted;(focus (simp only [rQ,Zc,li,lo,reduceIte,Nat.reduceEqDiff,Nat.reduceAdd,beq_self_eq_true,q2,q4];done));exact rfl))
          (first|(apply WF.condT;(focus (simp only [Zg,Zf,Zd,Zm,Bool.not_true,Bool.not_false,reduceIte,Nat.reduceEqDiff];done)))|(apply WF.condF;(focus (simp only [Zg,Zf,Zd,Zm,Bool.not_true,Bool.not_false,reduceIte,Nat.reduceEqDiff];done))))
          iterate 5 (first|(apply Zh;exact rfl)|apply Zb|apply WO.nil|(apply Zk;exact rfl;simp only [rE,rS,li,lo,reduceIte,Nat.reduceEqDiff,Nat.reduceAdd,Nat.reduceMul,Zi,ZF,ht0,ht4,ht5,ht6,w3];exact rfl;exact rfl))
          exact tail _ ⟨⟨by simp [Zd, ht0], by simp [Zd, ht4], by simp [Zd, ht5]⟩, by rw [hd]; simp [Zd], by omega⟩
      · have q2 : decide (((p + 1 : Nat) : Int) < (f.length : Int)) = false := by simp; omega
        have hd : Yh f p = p + 1 := by
          unfold Yh
          rw [if_neg]
          rw [List.getElem?_eq_none h1]
          simp
        repeat (first|(apply Zh;exact rfl)|apply Zb|apply WO.nil|(apply WO.op;(focus (simp only [rQ,Zc,li,lo,reduceIte,Nat.reduceEqDiff,Nat.reduceAdd,beq_self_eq_true,q2];done));simp only [rE,rS,li,lo,reduceIte,Nat.reduceEqDiff,Nat.reduceAdd,Nat.reduceMul,Zi,ZF,ht0,ht4,ht5,ht6,q2];exact rfl;exact rfl)|(apply WO.unwanted;(focus (simp only [rQ,Zc,li,lo,reduceIte,Nat.reduceEqDiff,Nat.reduceAdd,beq_self_eq_true,q2];done));exact rfl))
        (first|(apply WF.condT;(focus (simp only [Zg,Zf,Zd,Zm,Bool.not_true,Bool.not_false,reduceIte,Nat.reduceEqDiff];done)))|(apply WF.condF;(focus (simp only [Zg,Zf,Zd,Zm,Bool.not_true,Bool.not_false,reduceIte,Nat.reduceEqDiff];done))))
        refine WF.skip ?_
        exact tail _ ⟨⟨by simp [Zd, ht0], by simp [Zd, ht4], by simp [Zd, ht5]⟩, by rw [hd]; simp [Zd, ht6], by omega⟩
  · intro tail
    rcases Nat.lt_or_ge (p + 1) f.length with h1 | h1
    · have q2 : decide (((p + 1 : Nat) : Int) < (f.length : Int)) = true := by simp; omega
      cases q3 : decide (((f[p + 1] : Nat) : Int) = 37)
      · have hne : f[p + 1]? ≠ some 37 := by
          rw [List.getElem?_eq_getElem h1]
          have := of_decide_eq_false q3
          intro e
          have := Option.some.inj e
          omega
        repeat (first|(apply Zh;exact rfl)|apply Zb|apply WO.nil|(apply WO.op;(focus (simp only [rQ,Zc,li,lo,reduceIte,Nat.reduceEqDiff,Nat.reduceAdd,beq_self_eq_true,q2,q3];done));simp only [rE,rS,li,lo,reduceIte,Nat.reduceEqDiff,Nat.reduceAdd,Nat.reduceMul,Zi,ZF,ht0,ht4,ht5,q2,q3,XA h1];exact rfl;exact rfl)|(apply WO.unwanted;(focus (simp only [rQ,Zc,li,lo,reduceIte,Nat.reduceEqDiff,Nat.reduceAdd,beq_self_eq_true,q2,q3];done));exact rfl))
        (first|(apply WF.condT;(focus (simp only [Zg,Zf,Zd,Zm,Bool.not_true,Bool.not_false,reduceIte,Nat.reduceEqDiff];done)))|(apply WF.condF;(focus (simp only [Zg,Zf,Zd,Zm,Bool.not_true,Bool.not_false,reduceIte,Nat.reduceEqDiff];done))))
        refine WF.skip ?_
        exact tail _ ⟨⟨by simp [Zd, ht0], by simp [Zd, ht4], by simp [Zd, ht5]⟩, by simp [Zd], hne⟩
      · have h37 : f[p + 1]? = some 37 := by
          rw [List.getElem?_eq_getElem h1]
          have := of_decide_eq_true q3
          congr 1
          omega
        rw [at_pct hp heq h37, Option.map_map] at hpar
        repeat (first|(apply Zh;exact rfl)|apply Zb|apply WO.nil|(apply WO.op;(focus (simp only [rQ,Zc,li,lo,reduceIte,Nat.reduceEqDiff,Nat.reduceAdd,beq_self_eq_true,q2,q3];done));simp only [rE,rS,li,lo,reduceIte,Nat.reduceEqDiff,Nat.reduceAdd,Nat.reduceMul,Zi,ZF,ht0,ht4,ht5,q2,q3,XA h1];exact rfl;exact rfl)|(apply WO.unwanted;(focus (simp only [rQ,Zc,li,lo,reduceIte,Nat.reduceEqDiff,Nat.reduceAdd,beq_self_eq_true,q2,q3];done));exact rfl))
        (first|(apply WF.condT;(focus (simp only [Zg,Zf,Zd,Zm,Bool.not_true,Bool.not_false,reduceIte,Nat.reduceEqDiff];done)))|(apply WF.condF;(focus (simp only [Zg,Zf,Zd,Zm,Bool.not_true,Bool.not_false,reduceIte,Nat.reduceEqDiff];done))))
        repeat (first|(apply Zh;exact rfl)|apply Zb|apply WO.nil|(apply Zk;exact rfl;simp only [rE,rS,li,lo,reduceIte,Nat.reduceEqDiff,Nat.reduceAdd,Nat.reduceMul,Zi,ZF,ht0,ht4,ht5,w2];exact rfl;exact rfl))
        refine Z4 ?_
        refine ih (f.length - (p + 2)) _ _ (by omega) ⟨p + 2, acc ++ [.pct], v, hu, by omega, ?_, ?_, ?_, ?_, ?_, ?_⟩
        · rw [hpar]
          congr 1
          funext x
          simp
        · rw [Yb]; simp [Xw]; omega
        · rw [Yb]; simpa [Xw] using hown
        · simp [Zd, ht0]
        · simp [Zd, ht4]
        · simp [Zd]
    · have q2 : decide (((p + 1 : Nat) : Int) < (f.length : Int)) = false := by simp; omega
      have hne : f[p + 1]? ≠ some 37 := by
        rw [List.getElem?_eq_none h1]
        simp
      repeat (first|(apply Zh;exact rfl)|apply Zb|apply WO.nil|(apply WO.op;(focus (simp only [rQ,Zc,li,lo,reduceIte,Nat.reduceEqDiff,Nat.reduceAdd,beq_self_eq_true,q2];done));simp only [rE,rS,li,lo,reduceIte,Nat.reduceEqDiff,Nat.reduceAdd,Nat.reduceMul,Zi,ZF,ht0,ht4,ht5,q2];exact rfl;exact rfl)|(apply WO.unwanted;(focus (simp only [rQ,Zc,li,lo,reduceIte,Nat.reduceEqDiff,Nat.reduceAdd,beq_self_eq_true,q2];done));exact rfl))
      (first|(apply WF.condT;(focus (simp only [Zg,Zf,Zd,Zm,Bool.not_true,Bool.not_false,reduceIte,Nat.reduceEqDiff];done)))|(apply WF.condF;(focus (simp only [Zg,Zf,Zd,Zm,Bool.not_true,Bool.not_false,reduceIte,Nat.reduceEqDiff];done))))
      refine WF.skip ?_
      exact tail _ ⟨⟨by simp [Zd, ht0], by simp [Zd, ht4], by simp [Zd, ht5]⟩, by simp [Zd], hne⟩
end Go.Ev.C
end
