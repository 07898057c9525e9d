/- What the walks ask of the tables of the program. -/
import Derived.Test.YtkkegnkopmpjhaaGreatDoorProg
import Derived.Test.YtkkegnkopmpjhaaGreatDoorEvE
import Derived.KernelRfl
set_option linter.unusedVariables false
set_option linter.unusedSimpArgs false
set_option linter.all false
section
namespace Go.Ev.C
open Go.Proofs
noncomputable abbrev Q:Program:=Tryz.prog
theorem ng : (Q.funcs.all fun fn => !(fn.name == "runtime.NumGoroutine")) = true := by kernel_rfl
theorem mix:Q.follows .mixedOrders = true:=by kernel_rfl
theorem und2:YR Q 2 = some (.int .i64):=by kernel_rfl
theorem Yr:Xj Q 2 = some false:=by kernel_rfl
theorem sz2:szU Q 2 = some 1:=by kernel_rfl
theorem und3:YR Q 3 = some (.int .i64):=by kernel_rfl
theorem Zu:Xj Q 3 = some false:=by kernel_rfl
theorem sz3:szU Q 3 = some 1:=by kernel_rfl
theorem und4:YR Q 4 = some .bool:=by kernel_rfl
theorem ZE:Xj Q 4 = some false:=by kernel_rfl
theorem sz4:szU Q 4 = some 1:=by kernel_rfl
theorem und5:YR Q 5 = some (.int .u8):=by kernel_rfl
theorem agg5:Xj Q 5 = some false:=by kernel_rfl
theorem sz5:szU Q 5 = some 1:=by kernel_rfl
theorem Ye:YR Q 9 = some .string:=by kernel_rfl
theorem YD:Xj Q 9 = some false:=by kernel_rfl
theorem sz9:szU Q 9 = some 1:=by kernel_rfl
theorem agg26:Xj Q 26 = some false:=by kernel_rfl
theorem Zo:YR Q 35 = some (.slice 5):=by kernel_rfl
theorem Zx:Xj Q 35 = some false:=by kernel_rfl
theorem sz35:szU Q 35 = some 1:=by kernel_rfl
theorem Zj:YR Q 36 = some (.slice 80):=by kernel_rfl
theorem agg36:Xj Q 36 = some false:=by kernel_rfl
theorem sz36:szU Q 36 = some 1:=by kernel_rfl
theorem und37:YR Q 37 = some (.slice 106):=by kernel_rfl
theorem agg37:Xj Q 37 = some false:=by kernel_rfl
theorem sz37:szU Q 37 = some 1:=by kernel_rfl
theorem Zk:YR Q 78 = some (.slice 87):=by kernel_rfl
theorem Zw:Xj Q 78 = some false:=by kernel_rfl
theorem sz78:szU Q 78 = some 1:=by kernel_rfl
theorem ZT:Xj Q 80 = some true:=by kernel_rfl
theorem Zv:szU Q 80 = some 4:=by kernel_rfl
theorem Yi:Xj Q 87 = some true:=by kernel_rfl
theorem Z1:szU Q 87 = some 3:=by kernel_rfl
theorem Xc:Xj Q 106 = some true:=by kernel_rfl
theorem ZV:szU Q 106 = some 5:=by kernel_rfl
theorem Zz (b off:Nat):ZS Q 87 (.ptr b off) 2 = some (.ptr b (off + 2)):=by kernel_rfl
theorem ZG (b off:Nat):ZS Q 87 (.ptr b off) 1 = some (.ptr b (off + 1)):=by kernel_rfl
theorem ZH (b off:Nat):ZS Q 87 (.ptr b off) 0 = some (.ptr b (off + 0)):=by kernel_rfl
theorem Zp (b off:Nat):ZS Q 80 (.ptr b off) 1 = some (.ptr b (off + 1)):=by kernel_rfl
theorem Zy (b off:Nat):ZS Q 80 (.ptr b off) 2 = some (.ptr b (off + 2)):=by kernel_rfl
theorem ZJ (b off:Nat):ZS Q 80 (.ptr b off) 0 = some (.ptr b (off + 0)):=by kernel_rfl
theorem ZP (b off:Nat):ZS Q 80 (.ptr b off) 3 = some (.ptr b (off + 3)):=by kernel_rfl
theorem Z8 (b off:Nat):ZS Q 106 (.ptr b off) 4 = some (.ptr b (off + 4)):=by kernel_rfl
theorem Z6 (b off:Nat):ZS Q 106 (.ptr b off) 3 = some (.ptr b (off + 3)):=by kernel_rfl
noncomputable def c8:Code:=(Tryz.f8.body).getD .skip
noncomputable def c10:Code:=(Tryz.f10.body).getD .skip
theorem en10:ZQ Q 10 [] .normal = some (PF 10 191 (Zn 0 [] .leaf) [.code c10]):=by kernel_rfl
theorem cu10 (l:List AV) (H:AH):Yh Q (.func 10 [] []) l H = some (.enter 10 ([] ++ l ++ []),H):=by kernel_rfl
noncomputable def c27:Code:=(Tryz.f27.body).getD .skip
noncomputable def c18:Code:=(Tryz.f18.body).getD .skip
theorem en18 (a0:AV):ZQ Q 18 [a0] .normal = some (PF 18 32 (Zn 0 [a0] .leaf) [.code c18]):=by kernel_rfl
theorem rs18 (n:Nat) (t:Tri AV) (k:List AI) (H:AH):ZI Q (PF 18 n t k) H = ZL (Zi Q t H [.tmp 2,.tmp 3,.tmp 4]):=by kernel_rfl
theorem cu18 (l:List AV) (H:AH):Yh Q (.func 18 [] []) l H = some (.enter 18 ([] ++ l ++ []),H):=by kernel_rfl
noncomputable def c52:Code:=(Tryz.f52.body).getD .skip
theorem en52 (a0 a1:AV):ZQ Q 52 [a0,a1] .normal = some (PF 52 9 (Zn 0 [a0,a1] .leaf) [.code c52]):=by kernel_rfl
theorem rs52 (n:Nat) (t:Tri AV) (k:List AI) (H:AH):ZI Q (PF 52 n t k) H = ZL (Zi Q t H [.tmp 4]):=by kernel_rfl
theorem cu52 (l:List AV) (H:AH):Yh Q (.func 52 [] []) l H = some (.enter 52 ([] ++ l ++ []),H):=by kernel_rfl
noncomputable def c93:Code:=(Tryz.f93.body).getD .skip
theorem en93 (a0 a1:AV):ZQ Q 93 [a0,a1] .normal = some (PF 93 19 (Zn 0 [a0,a1] .leaf) [.code c93]):=by kernel_rfl
theorem rs93 (n:Nat) (t:Tri AV) (k:List AI) (H:AH):ZI Q (PF 93 n t k) H = ZL (Zi Q t H [.tmp 4]):=by kernel_rfl
theorem cu93 (l:List AV) (H:AH):Yh Q (.func 93 [] []) l H = some (.enter 93 ([] ++ l ++ []),H):=by kernel_rfl
noncomputable def c53:Code:=(Tryz.f53.body).getD .skip
theorem en53 (a0:AV):ZQ Q 53 [a0] .normal = some (PF 53 6 (Zn 0 [a0] .leaf) [.code c53]):=by kernel_rfl
theorem rs53 (n:Nat) (t:Tri AV) (k:List AI) (H:AH):ZI Q (PF 53 n t k) H = ZL (Zi Q t H [.tmp 2]):=by kernel_rfl
theorem cu53 (l:List AV) (H:AH):Yh Q (.func 53 [] []) l H = some (.enter 53 ([] ++ l ++ []),H):=by kernel_rfl
noncomputable def c54:Code:=(Tryz.f54.body).getD .skip
theorem en54 (a0:AV):ZQ Q 54 [a0] .normal = some (PF 54 35 (Zn 0 [a0] .leaf) [.code c54]):=by kernel_rfl
theorem rs54 (n:Nat) (t:Tri AV) (k:List AI) (H:AH):ZI Q (PF 54 n t k) H = ZL (Zi Q t H [.tmp 2]):=by kernel_rfl
theorem cu54 (l:List AV) (H:AH):Yh Q (.func 54 [] []) l H = some (.enter 54 ([] ++ l ++ []),H):=by kernel_rfl
noncomputable def c94:Code:=(Tryz.f94.body).getD .skip
theorem en94 (a0:AV):ZQ Q 94 [a0] .normal = some (PF 94 12 (Zn 0 [a0] .leaf) [.code c94]):=by kernel_rfl
theorem rs94 (n:Nat) (t:Tri AV) (k:List AI) (H:AH):ZI Q (PF 94 n t k) H = ZL (Zi Q t H [.tmp 2]):=by kernel_rfl
theorem cu94 (l:List AV) (H:AH):Yh Q (.func 94 [] []) l H = some (.enter 94 ([] ++ l ++ []),H):=by kernel_rfl
noncomputable def c95:Code:=(Tryz.f95.body).getD .skip
theorem en95 (a0:AV):ZQ Q 95 [a0] .normal = some (PF 95 11 (Zn 0 [a0] .leaf) [.code c95]):=by kernel_rfl
theorem rs95 (n:Nat) (t:Tri AV) (k:List AI) (H:AH):ZI Q (PF 95 n t k) H = ZL (Zi Q t H [.tmp 2,.tmp 3]):=by kernel_rfl
theorem cu95 (l:List AV) (H:AH):Yh Q (.func 95 [] []) l H = some (.enter 95 ([] ++ l ++ []),H):=by kernel_rfl
noncomputable def c133:Code:=(Tryz.f133.body).getD .skip
theorem en133 (a0:AV):ZQ Q 133 [a0] .normal = some (PF 133 27 (Zn 0 [a0] .leaf) [.code c133]):=by kernel_rfl
theorem rs133 (n:Nat) (t:Tri AV) (k:List AI) (H:AH):ZI Q (PF 133 n t k) H = ZL (Zi Q t H [.tmp 2]):=by kernel_rfl
theorem cu133 (l:List AV) (H:AH):Yh Q (.func 133 [] []) l H = some (.enter 133 ([] ++ l ++ []),H):=by kernel_rfl
noncomputable def c96:Code:=(Tryz.f96.body).getD .skip
theorem en96 (a0 a1:AV):ZQ Q 96 [a0,a1] .normal = some (PF 96 9 (Zn 0 [a0,a1] .leaf) [.code c96]):=by kernel_rfl
theorem rs96 (n:Nat) (t:Tri AV) (k:List AI) (H:AH):ZI Q (PF 96 n t k) H = ZL (Zi Q t H [.tmp 4]):=by kernel_rfl
theorem cu96 (l:List AV) (H:AH):Yh Q (.func 96 [] []) l H = some (.enter 96 ([] ++ l ++ []),H):=by kernel_rfl
noncomputable def c105:Code:=(Tryz.f105.body).getD .skip
theorem en105 (a0 a1:AV):ZQ Q 105 [a0,a1] .normal = some (PF 105 19 (Zn 0 [a0,a1] .leaf) [.code c105]):=by kernel_rfl
theorem rs105 (n:Nat) (t:Tri AV) (k:List AI) (H:AH):ZI Q (PF 105 n t k) H = ZL (Zi Q t H [.tmp 4]):=by kernel_rfl
theorem cu105 (l:List AV) (H:AH):Yh Q (.func 105 [] []) l H = some (.enter 105 ([] ++ l ++ []),H):=by kernel_rfl
end Go.Ev.C
end