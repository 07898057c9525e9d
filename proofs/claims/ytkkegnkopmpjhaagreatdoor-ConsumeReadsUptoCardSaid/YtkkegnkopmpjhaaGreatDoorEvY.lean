/- Contracts: the reference: Check, Count, Encode. -/
import Derived.Test.YtkkegnkopmpjhaaGreatDoorEvF
import Derived.Test.YtkkegnkopmpjhaaGreatDoorEvH
import Derived.Test.YtkkegnkopmpjhaaGreatDoorEvX
import Derived.Test.YtkkegnkopmpjhaaGreatDoorEvXb
set_option linter.unusedVariables false
set_option linter.unusedSimpArgs false
set_option linter.all false
section
namespace Go.Ev.C
open Go.Proofs
theorem agg47:Xj Q 47 = some true:=by kernel_rfl
theorem sz47:szU Q 47 = some 2:=by kernel_rfl
theorem agg50:Xj Q 50 = some true:=by kernel_rfl
theorem WX:szU Q 50 = some 2:=by kernel_rfl
theorem agg53:Xj Q 53 = some true:=by kernel_rfl
theorem sz53:szU Q 53 = some 2:=by kernel_rfl
theorem agg56:Xj Q 56 = some true:=by kernel_rfl
theorem sz56:szU Q 56 = some 3:=by kernel_rfl
theorem ZC (b off:Nat):ZS Q 133 (.ptr b off) 0 = some (.ptr b (off + 0)):=by kernel_rfl
theorem ZA (b off:Nat):ZS Q 133 (.ptr b off) 1 = some (.ptr b (off + 1)):=by kernel_rfl
theorem Z9 (b off:Nat):ZS Q 106 (.ptr b off) 2 = some (.ptr b (off + 2)):=by kernel_rfl
theorem Ya (b off:Nat):ZS Q 106 (.ptr b off) 1 = some (.ptr b (off + 1)):=by kernel_rfl
theorem YA (b off:Nat):ZS Q 137 (.ptr b off) 0 = some (.ptr b (off + 0)):=by kernel_rfl
theorem Z3 (b off:Nat):ZS Q 137 (.ptr b off) 1 = some (.ptr b (off + 1)):=by kernel_rfl
theorem XN (b off:Nat):ZS Q 56 (.ptr b off) 1 = some (.ptr b (off + 1)):=by kernel_rfl
theorem XO (b off:Nat):ZS Q 56 (.ptr b off) 0 = some (.ptr b (off + 0)):=by kernel_rfl
theorem fa56_2 (b off:Nat):ZS Q 56 (.ptr b off) 2 = some (.ptr b (off + 2)):=by kernel_rfl
theorem fa53_1 (b off:Nat):ZS Q 53 (.ptr b off) 1 = some (.ptr b (off + 1)):=by kernel_rfl
theorem fa53_0 (b off:Nat):ZS Q 53 (.ptr b off) 0 = some (.ptr b (off + 0)):=by kernel_rfl
theorem fa50_1 (b off:Nat):ZS Q 50 (.ptr b off) 1 = some (.ptr b (off + 1)):=by kernel_rfl
theorem fa50_0 (b off:Nat):ZS Q 50 (.ptr b off) 0 = some (.ptr b (off + 0)):=by kernel_rfl
theorem fa47_1 (b off:Nat):ZS Q 47 (.ptr b off) 1 = some (.ptr b (off + 1)):=by kernel_rfl
theorem fa47_0 (b off:Nat):ZS Q 47 (.ptr b off) 0 = some (.ptr b (off + 0)):=by kernel_rfl
noncomputable def c4:Code:=(Tryz.f4.body).getD .skip
theorem en4 (a0 a1 a2:AV):ZQ Q 4 [a0,a1,a2] .normal = some (PF 4 108 (Zn 0 [a0,a1,a2] .leaf) [.code c4]):=by kernel_rfl
theorem rs4 (n:Nat) (t:Tri AV) (k:List AI) (H:AH):ZI Q (PF 4 n t k) H = ZL (Zi Q t H [.tmp 6]):=by kernel_rfl
noncomputable def c15:Code:=(Tryz.f15.body).getD .skip
theorem en15 (a0:AV):ZQ Q 15 [a0] .normal = some (PF 15 10 (Zn 0 [a0] .leaf) [.code c15]):=by kernel_rfl
theorem rs15 (n:Nat) (t:Tri AV) (k:List AI) (H:AH):ZI Q (PF 15 n t k) H = ZL (Zi Q t H [.tmp 2,.tmp 3]):=by kernel_rfl
theorem cu15 (l:List AV) (H:AH):Yh Q (.func 15 [] []) l H = some (.enter 15 ([] ++ l ++ []),H):=by kernel_rfl
noncomputable def c19:Code:=(Tryz.f19.body).getD .skip
theorem en19 (a0:AV):ZQ Q 19 [a0] .normal = some (PF 19 28 (Zn 0 [a0] .leaf) [.code c19]):=by kernel_rfl
theorem rs19 (n:Nat) (t:Tri AV) (k:List AI) (H:AH):ZI Q (PF 19 n t k) H = ZL (Zi Q t H [.cell 2 47]):=by kernel_rfl
theorem cu19 (l:List AV) (H:AH):Yh Q (.func 19 [] []) l H = some (.enter 19 ([] ++ l ++ []),H):=by kernel_rfl
noncomputable def c20:Code:=(Tryz.f20.body).getD .skip
theorem en20 (a0:AV):ZQ Q 20 [a0] .normal = some (PF 20 63 (Zn 0 [a0] .leaf) [.code c20]):=by kernel_rfl
theorem rs20 (n:Nat) (t:Tri AV) (k:List AI) (H:AH):ZI Q (PF 20 n t k) H = ZL (Zi Q t H [.cell 2 50]):=by kernel_rfl
theorem cu20 (l:List AV) (H:AH):Yh Q (.func 20 [] []) l H = some (.enter 20 ([] ++ l ++ []),H):=by kernel_rfl
noncomputable def c21:Code:=(Tryz.f21.body).getD .skip
theorem en21 (a0:AV):ZQ Q 21 [a0] .normal = some (PF 21 88 (Zn 0 [a0] .leaf) [.code c21]):=by kernel_rfl
theorem rs21 (n:Nat) (t:Tri AV) (k:List AI) (H:AH):ZI Q (PF 21 n t k) H = ZL (Zi Q t H [.cell 2 53]):=by kernel_rfl
theorem cu21 (l:List AV) (H:AH):Yh Q (.func 21 [] []) l H = some (.enter 21 ([] ++ l ++ []),H):=by kernel_rfl
noncomputable def c22:Code:=(Tryz.f22.body).getD .skip
theorem en22 (a0:AV):ZQ Q 22 [a0] .normal = some (PF 22 42 (Zn 0 [a0] .leaf) [.code c22]):=by kernel_rfl
theorem rs22 (n:Nat) (t:Tri AV) (k:List AI) (H:AH):ZI Q (PF 22 n t k) H = ZL (Zi Q t H [.cell 2 56]):=by kernel_rfl
theorem cu22 (l:List AV) (H:AH):Yh Q (.func 22 [] []) l H = some (.enter 22 ([] ++ l ++ []),H):=by kernel_rfl
noncomputable def c23:Code:=(Tryz.f23.body).getD .skip
theorem en23 (a0 a1:AV):ZQ Q 23 [a0,a1] .normal = some (PF 23 26 (Zn 0 [a0,a1] .leaf) [.code c23]):=by kernel_rfl
theorem rs23 (n:Nat) (t:Tri AV) (k:List AI) (H:AH):ZI Q (PF 23 n t k) H = ZL (Zi Q t H [.tmp 4]):=by kernel_rfl
theorem cu23 (l:List AV) (H:AH):Yh Q (.func 23 [] []) l H = some (.enter 23 ([] ++ l ++ []),H):=by kernel_rfl
noncomputable def c46:Code:=(Tryz.f46.body).getD .skip
theorem en46 (a0 a1:AV):ZQ Q 46 [a0,a1] .normal = some (PF 46 13 (Zn 0 [a0,a1] .leaf) [.code c46]):=by kernel_rfl
theorem rs46 (n:Nat) (t:Tri AV) (k:List AI) (H:AH):ZI Q (PF 46 n t k) H = ZL (Zi Q t H []):=by kernel_rfl
noncomputable def c47:Code:=(Tryz.f47.body).getD .skip
theorem en47 (a0:AV):ZQ Q 47 [a0] .normal = some (PF 47 4 (Zn 0 [a0] .leaf) [.code c47]):=by kernel_rfl
theorem rs47 (n:Nat) (t:Tri AV) (k:List AI) (H:AH):ZI Q (PF 47 n t k) H = ZL (Zi Q t H [.tmp 2]):=by kernel_rfl
theorem cu47 (l:List AV) (H:AH):Yh Q (.func 47 [] []) l H = some (.enter 47 ([] ++ l ++ []),H):=by kernel_rfl
noncomputable def c55:Code:=(Tryz.f55.body).getD .skip
theorem en55 (a0:AV):ZQ Q 55 [a0] .normal = some (PF 55 87 (Zn 0 [a0] .leaf) [.code c55]):=by kernel_rfl
theorem rs55 (n:Nat) (t:Tri AV) (k:List AI) (H:AH):ZI Q (PF 55 n t k) H = ZL (Zi Q t H [.cell 2 106]):=by kernel_rfl
theorem cu55 (l:List AV) (H:AH):Yh Q (.func 55 [] []) l H = some (.enter 55 ([] ++ l ++ []),H):=by kernel_rfl
noncomputable def c56:Code:=(Tryz.f56.body).getD .skip
theorem en56 (a0:AV):ZQ Q 56 [a0] .normal = some (PF 56 59 (Zn 0 [a0] .leaf) [.code c56]):=by kernel_rfl
theorem rs56 (n:Nat) (t:Tri AV) (k:List AI) (H:AH):ZI Q (PF 56 n t k) H = ZL (Zi Q t H [.tmp 2]):=by kernel_rfl
theorem cu56 (l:List AV) (H:AH):Yh Q (.func 56 [] []) l H = some (.enter 56 ([] ++ l ++ []),H):=by kernel_rfl
noncomputable def c57:Code:=(Tryz.f57.body).getD .skip
theorem en57 (a0:AV):ZQ Q 57 [a0] .normal = some (PF 57 96 (Zn 0 [a0] .leaf) [.code c57]):=by kernel_rfl
theorem rs57 (n:Nat) (t:Tri AV) (k:List AI) (H:AH):ZI Q (PF 57 n t k) H = ZL (Zi Q t H [.cell 2 80]):=by kernel_rfl
theorem cu57 (l:List AV) (H:AH):Yh Q (.func 57 [] []) l H = some (.enter 57 ([] ++ l ++ []),H):=by kernel_rfl
noncomputable def c58:Code:=(Tryz.f58.body).getD .skip
theorem en58 (a0:AV):ZQ Q 58 [a0] .normal = some (PF 58 42 (Zn 0 [a0] .leaf) [.code c58]):=by kernel_rfl
theorem rs58 (n:Nat) (t:Tri AV) (k:List AI) (H:AH):ZI Q (PF 58 n t k) H = ZL (Zi Q t H [.tmp 2]):=by kernel_rfl
theorem cu58 (l:List AV) (H:AH):Yh Q (.func 58 [] []) l H = some (.enter 58 ([] ++ l ++ []),H):=by kernel_rfl
noncomputable def c59:Code:=(Tryz.f59.body).getD .skip
theorem en59 (a0 a1:AV):ZQ Q 59 [a0,a1] .normal = some (PF 59 21 (Zn 0 [a0,a1] .leaf) [.code c59]):=by kernel_rfl
theorem rs59 (n:Nat) (t:Tri AV) (k:List AI) (H:AH):ZI Q (PF 59 n t k) H = ZL (Zi Q t H [.tmp 4]):=by kernel_rfl
theorem YS (l:List AV) (H:AH):Yh Q (.func 59 [] []) l H = some (.enter 59 ([] ++ l ++ []),H):=by kernel_rfl
noncomputable def c87:Code:=(Tryz.f87.body).getD .skip
theorem en87 (a0 a1:AV):ZQ Q 87 [a0,a1] .normal = some (PF 87 71 (Zn 0 [a0,a1] .leaf) [.code c87]):=by kernel_rfl
theorem rs87 (n:Nat) (t:Tri AV) (k:List AI) (H:AH):ZI Q (PF 87 n t k) H = ZL (Zi Q t H []):=by kernel_rfl
noncomputable def c88:Code:=(Tryz.f88.body).getD .skip
theorem en88 (a0 a1:AV):ZQ Q 88 [a0,a1] .normal = some (PF 88 13 (Zn 0 [a0,a1] .leaf) [.code c88]):=by kernel_rfl
theorem rs88 (n:Nat) (t:Tri AV) (k:List AI) (H:AH):ZI Q (PF 88 n t k) H = ZL (Zi Q t H []):=by kernel_rfl
theorem XQ (l:List AV) (H:AH):Yh Q (.func 88 [] []) l H = some (.enter 88 ([] ++ l ++ []),H):=by kernel_rfl
noncomputable def c89:Code:=(Tryz.f89.body).getD .skip
theorem en89 (a0 a1 a2:AV):ZQ Q 89 [a0,a1,a2] .normal = some (PF 89 53 (Zn 0 [a0,a1,a2] .leaf) [.code c89]):=by kernel_rfl
theorem rs89 (n:Nat) (t:Tri AV) (k:List AI) (H:AH):ZI Q (PF 89 n t k) H = ZL (Zi Q t H [.tmp 6]):=by kernel_rfl
theorem XP (l:List AV) (H:AH):Yh Q (.func 89 [] []) l H = some (.enter 89 ([] ++ l ++ []),H):=by kernel_rfl
noncomputable def c97:Code:=(Tryz.f97.body).getD .skip
theorem en97 (a0 a1:AV):ZQ Q 97 [a0,a1] .normal = some (PF 97 11 (Zn 0 [a0,a1] .leaf) [.code c97]):=by kernel_rfl
theorem rs97 (n:Nat) (t:Tri AV) (k:List AI) (H:AH):ZI Q (PF 97 n t k) H = ZL (Zi Q t H []):=by kernel_rfl
theorem Wf (l:List AV) (H:AH):Yh Q (.func 97 [] []) l H = some (.enter 97 ([] ++ l ++ []),H):=by kernel_rfl
noncomputable def c98:Code:=(Tryz.f98.body).getD .skip
theorem en98 (a0:AV):ZQ Q 98 [a0] .normal = some (PF 98 88 (Zn 0 [a0] .leaf) [.code c98]):=by kernel_rfl
theorem rs98 (n:Nat) (t:Tri AV) (k:List AI) (H:AH):ZI Q (PF 98 n t k) H = ZL (Zi Q t H [.tmp 2]):=by kernel_rfl
theorem We (l:List AV) (H:AH):Yh Q (.func 98 [] []) l H = some (.enter 98 ([] ++ l ++ []),H):=by kernel_rfl
noncomputable def c99:Code:=(Tryz.f99.body).getD .skip
theorem en99 (a0 a1:AV):ZQ Q 99 [a0,a1] .normal = some (PF 99 40 (Zn 0 [a0,a1] .leaf) [.code c99]):=by kernel_rfl
theorem rs99 (n:Nat) (t:Tri AV) (k:List AI) (H:AH):ZI Q (PF 99 n t k) H = ZL (Zi Q t H [.tmp 4]):=by kernel_rfl
theorem XY (l:List AV) (H:AH):Yh Q (.func 99 [] []) l H = some (.enter 99 ([] ++ l ++ []),H):=by kernel_rfl
noncomputable def c100:Code:=(Tryz.f100.body).getD .skip
theorem en100 (a0:AV):ZQ Q 100 [a0] .normal = some (PF 100 27 (Zn 0 [a0] .leaf) [.code c100]):=by kernel_rfl
theorem rs100 (n:Nat) (t:Tri AV) (k:List AI) (H:AH):ZI Q (PF 100 n t k) H = ZL (Zi Q t H [.tmp 2]):=by kernel_rfl
theorem cu100 (l:List AV) (H:AH):Yh Q (.func 100 [] []) l H = some (.enter 100 ([] ++ l ++ []),H):=by kernel_rfl
end Go.Ev.C
end
section
namespace Go.Ev.C
open Go.Proofs Go.RowKit Go.Fmt
set_option maxRecDepth 100000
set_option linter.unusedSimpArgs false
variable {L:World→Prop} [Yu Q L]
theorem valid100_c (H:AH) (id tm:Int) (dv:AV) (n:Nat) (hd:SL dv n):Fn Q L 100 [RV id tm dv] H (fun v H' =>v = .bool (vld id tm n)∧H' = H):=by
 refine Fn.gc (en100 _) rfl ?_
 generalize lock H = H
 have hone:=hd.one
 have hsol:=hd.solid
 unfold c100 Tryz.f100 RV
 simp only [Option.getD_some]
 cases h1:decide (1≤id)
 ·repeat (first|(apply Zh;exact rfl)|apply Zc|apply WO.nil|(apply WO.op;(focus (simp only [rQ,Zb,li,lo,reduceIte,Nat.reduceEqDiff,Nat.reduceAdd,beq_self_eq_true,h1];done));simp only [rE,rS,li,lo,reduceIte,Nat.reduceEqDiff,Nat.reduceAdd,Nat.reduceMul,h1,hone,hsol,ZH,ZG,Zz,Za Zu,Za Yr,Za Zx,Zo,Zf Zo hd];exact rfl;exact rfl)|(apply WO.unwanted;(focus (simp only [rQ,Zb,li,lo,reduceIte,Nat.reduceEqDiff,Nat.reduceAdd,beq_self_eq_true,h1];done));exact rfl))
  (all_goals ((apply WF.ret;(focus (simp only [Zi,Tri.gp,Zn,ZL,reduceIte,Nat.reduceEqDiff,rs100];exact rfl)));simp [vld, *]))
 cases h2:decide (id≤1073741824)
 ·repeat (first|(apply Zh;exact rfl)|apply Zc|apply WO.nil|(apply WO.op;(focus (simp only [rQ,Zb,li,lo,reduceIte,Nat.reduceEqDiff,Nat.reduceAdd,beq_self_eq_true,h1,h2];done));simp only [rE,rS,li,lo,reduceIte,Nat.reduceEqDiff,Nat.reduceAdd,Nat.reduceMul,h1,h2,hone,hsol,ZH,ZG,Zz,Za Zu,Za Yr,Za Zx,Zo,Zf Zo hd];exact rfl;exact rfl)|(apply WO.unwanted;(focus (simp only [rQ,Zb,li,lo,reduceIte,Nat.reduceEqDiff,Nat.reduceAdd,beq_self_eq_true,h1,h2];done));exact rfl))
  (all_goals ((apply WF.ret;(focus (simp only [Zi,Tri.gp,Zn,ZL,reduceIte,Nat.reduceEqDiff,rs100];exact rfl)));simp [vld, *]))
 cases h3:decide (0≤tm)
 ·repeat (first|(apply Zh;exact rfl)|apply Zc|apply WO.nil|(apply WO.op;(focus (simp only [rQ,Zb,li,lo,reduceIte,Nat.reduceEqDiff,Nat.reduceAdd,beq_self_eq_true,h1,h2,h3];done));simp only [rE,rS,li,lo,reduceIte,Nat.reduceEqDiff,Nat.reduceAdd,Nat.reduceMul,h1,h2,h3,hone,hsol,ZH,ZG,Zz,Za Zu,Za Yr,Za Zx,Zo,Zf Zo hd];exact rfl;exact rfl)|(apply WO.unwanted;(focus (simp only [rQ,Zb,li,lo,reduceIte,Nat.reduceEqDiff,Nat.reduceAdd,beq_self_eq_true,h1,h2,h3];done));exact rfl))
  (all_goals ((apply WF.ret;(focus (simp only [Zi,Tri.gp,Zn,ZL,reduceIte,Nat.reduceEqDiff,rs100];exact rfl)));simp [vld, *]))
 cases h4:decide (tm≤1099511627776)
 ·repeat (first|(apply Zh;exact rfl)|apply Zc|apply WO.nil|(apply WO.op;(focus (simp only [rQ,Zb,li,lo,reduceIte,Nat.reduceEqDiff,Nat.reduceAdd,beq_self_eq_true,h1,h2,h3,h4];done));simp only [rE,rS,li,lo,reduceIte,Nat.reduceEqDiff,Nat.reduceAdd,Nat.reduceMul,h1,h2,h3,h4,hone,hsol,ZH,ZG,Zz,Za Zu,Za Yr,Za Zx,Zo,Zf Zo hd];exact rfl;exact rfl)|(apply WO.unwanted;(focus (simp only [rQ,Zb,li,lo,reduceIte,Nat.reduceEqDiff,Nat.reduceAdd,beq_self_eq_true,h1,h2,h3,h4];done));exact rfl))
  (all_goals ((apply WF.ret;(focus (simp only [Zi,Tri.gp,Zn,ZL,reduceIte,Nat.reduceEqDiff,rs100];exact rfl)));simp [vld, *]))
 cases h5:decide ((n:Int)≤256)
 ·repeat (first|(apply Zh;exact rfl)|apply Zc|apply WO.nil|(apply WO.op;(focus (simp only [rQ,Zb,li,lo,reduceIte,Nat.reduceEqDiff,Nat.reduceAdd,beq_self_eq_true,h1,h2,h3,h4,h5];done));simp only [rE,rS,li,lo,reduceIte,Nat.reduceEqDiff,Nat.reduceAdd,Nat.reduceMul,h1,h2,h3,h4,h5,hone,hsol,ZH,ZG,Zz,Za Zu,Za Yr,Za Zx,Zo,Zf Zo hd];exact rfl;exact rfl)|(apply WO.unwanted;(focus (simp only [rQ,Zb,li,lo,reduceIte,Nat.reduceEqDiff,Nat.reduceAdd,beq_self_eq_true,h1,h2,h3,h4,h5];done));exact rfl))
  (all_goals ((apply WF.ret;(focus (simp only [Zi,Tri.gp,Zn,ZL,reduceIte,Nat.reduceEqDiff,rs100];exact rfl)));simp [vld, *]))
 ·repeat (first|(apply Zh;exact rfl)|apply Zc|apply WO.nil|(apply WO.op;(focus (simp only [rQ,Zb,li,lo,reduceIte,Nat.reduceEqDiff,Nat.reduceAdd,beq_self_eq_true,h1,h2,h3,h4,h5];done));simp only [rE,rS,li,lo,reduceIte,Nat.reduceEqDiff,Nat.reduceAdd,Nat.reduceMul,h1,h2,h3,h4,h5,hone,hsol,ZH,ZG,Zz,Za Zu,Za Yr,Za Zx,Zo,Zf Zo hd];exact rfl;exact rfl)|(apply WO.unwanted;(focus (simp only [rQ,Zb,li,lo,reduceIte,Nat.reduceEqDiff,Nat.reduceAdd,beq_self_eq_true,h1,h2,h3,h4,h5];done));exact rfl))
  (all_goals ((apply WF.ret;(focus (simp only [Zi,Tri.gp,Zn,ZL,reduceIte,Nat.reduceEqDiff,rs100];exact rfl)));simp [vld, *]))
set_option maxHeartbeats 8000000 in
theorem check_c (H:AH) (cpu:Int) (rv:AV) (dr:Int) (ah:Bool) (l:List Yz) (hr:YP H rv l) (hlen:l.length < 9223372036854775808):Fn Q L 58 [BV cpu rv dr ah] H (fun v H' =>v = .int .i64 (if okB cpu l dr then 0 else 260)∧H' = H):=by
 refine Fn.gc (en58 _) (by split <;> rfl) ?_
 have hr:=hr.lock
 generalize lock H = H at hr
 have hs:=hr.1
 have hone:=hs.one
 have hsol:=hs.solid
 unfold c58 Tryz.f58 BV
 simp only [Option.getD_some]
 cases h1:decide (cpu < 0)
 rotate_left
 ·have:okB cpu l dr = false:=by
   have:=of_decide_eq_true h1
   have e:decide (0≤cpu) = false:=decide_eq_false (by omega)
   unfold okB;rw [e];rfl
  rw [this]
  repeat (first|(apply Zh;exact rfl)|apply Zc|apply WO.nil|(apply WO.op;(focus (simp only [rQ,Zb,li,lo,reduceIte,Nat.reduceEqDiff,Nat.reduceAdd,beq_self_eq_true,h1];done));simp only [rE,rS,li,lo,reduceIte,Nat.reduceEqDiff,Nat.reduceAdd,Nat.reduceMul,h1,hone,hsol,ZJ,Zp,Zy,Za Zu,Za Zw,Zk,Zf Zk hs];exact rfl;exact rfl)|(apply WO.unwanted;(focus (simp only [rQ,Zb,li,lo,reduceIte,Nat.reduceEqDiff,Nat.reduceAdd,beq_self_eq_true,h1];done));exact rfl))
  (first|(apply WF.condT;(focus (simp only [Zg,Zd,Tri.gp,Zn,Bool.not_true,Bool.not_false,reduceIte,Nat.reduceEqDiff,h1];done)))|(apply WF.condF;(focus (simp only [Zg,Zd,Tri.gp,Zn,Bool.not_true,Bool.not_false,reduceIte,Nat.reduceEqDiff,h1];done))))
  repeat (first|(apply Zh;exact rfl)|apply Zc|apply WO.nil|(apply WO.op;(focus (simp only [rQ,Zb,li,lo,reduceIte,Nat.reduceEqDiff,Nat.reduceAdd,beq_self_eq_true,h1];done));simp only [rE,rS,li,lo,reduceIte,Nat.reduceEqDiff,Nat.reduceAdd,Nat.reduceMul,h1];exact rfl;exact rfl)|(apply WO.unwanted;(focus (simp only [rQ,Zb,li,lo,reduceIte,Nat.reduceEqDiff,Nat.reduceAdd,beq_self_eq_true,h1];done));exact rfl))
  (apply WF.ret;(focus (simp only [Zi,Tri.gp,Zn,ZL,reduceIte,Nat.reduceEqDiff,rs58];exact rfl)))
  rfl
 have g1:=of_decide_eq_false h1
 cases h2:decide (4≤cpu)
 rotate_left
 ·have:okB cpu l dr = false:=by
   have:=of_decide_eq_true h2
   have e:decide (cpu < 4) = false:=decide_eq_false (by omega)
   unfold okB;rw [e];simp
  rw [this]
  repeat (first|(apply Zh;exact rfl)|apply Zc|apply WO.nil|(apply WO.op;(focus (simp only [rQ,Zb,li,lo,reduceIte,Nat.reduceEqDiff,Nat.reduceAdd,beq_self_eq_true,h1,h2];done));simp only [rE,rS,li,lo,reduceIte,Nat.reduceEqDiff,Nat.reduceAdd,Nat.reduceMul,h1,h2,hone,hsol,ZJ,Zp,Zy,Za Zu,Za Zw,Zk,Zf Zk hs];exact rfl;exact rfl)|(apply WO.unwanted;(focus (simp only [rQ,Zb,li,lo,reduceIte,Nat.reduceEqDiff,Nat.reduceAdd,beq_self_eq_true,h1,h2];done));exact rfl))
  (first|(apply WF.condT;(focus (simp only [Zg,Zd,Tri.gp,Zn,Bool.not_true,Bool.not_false,reduceIte,Nat.reduceEqDiff,h2];done)))|(apply WF.condF;(focus (simp only [Zg,Zd,Tri.gp,Zn,Bool.not_true,Bool.not_false,reduceIte,Nat.reduceEqDiff,h2];done))))
  repeat (first|(apply Zh;exact rfl)|apply Zc|apply WO.nil|(apply WO.op;(focus (simp only [rQ,Zb,li,lo,reduceIte,Nat.reduceEqDiff,Nat.reduceAdd,beq_self_eq_true,h1];done));simp only [rE,rS,li,lo,reduceIte,Nat.reduceEqDiff,Nat.reduceAdd,Nat.reduceMul,h1];exact rfl;exact rfl)|(apply WO.unwanted;(focus (simp only [rQ,Zb,li,lo,reduceIte,Nat.reduceEqDiff,Nat.reduceAdd,beq_self_eq_true,h1];done));exact rfl))
  (apply WF.ret;(focus (simp only [Zi,Tri.gp,Zn,ZL,reduceIte,Nat.reduceEqDiff,rs58];exact rfl)))
  rfl
 have g2:=of_decide_eq_false h2
 cases h3:decide ((1000:Int) < (l.length:Int))
 rotate_left
 ·have:okB cpu l dr = false:=by
   have:=of_decide_eq_true h3
   have e:decide ((l.length:Int)≤1000) = false:=decide_eq_false (by omega)
   unfold okB;rw [e];simp
  rw [this]
  repeat (first|(apply Zh;exact rfl)|apply Zc|apply WO.nil|(apply WO.op;(focus (simp only [rQ,Zb,li,lo,reduceIte,Nat.reduceEqDiff,Nat.reduceAdd,beq_self_eq_true,h1,h2,h3];done));simp only [rE,rS,li,lo,reduceIte,Nat.reduceEqDiff,Nat.reduceAdd,Nat.reduceMul,h1,h2,h3,hone,hsol,ZJ,Zp,Zy,Za Zu,Za Zw,Zk,Zf Zk hs];exact rfl;exact rfl)|(apply WO.unwanted;(focus (simp only [rQ,Zb,li,lo,reduceIte,Nat.reduceEqDiff,Nat.reduceAdd,beq_self_eq_true,h1,h2,h3];done));exact rfl))
  (first|(apply WF.condT;(focus (simp only [Zg,Zd,Tri.gp,Zn,Bool.not_true,Bool.not_false,reduceIte,Nat.reduceEqDiff,h3];done)))|(apply WF.condF;(focus (simp only [Zg,Zd,Tri.gp,Zn,Bool.not_true,Bool.not_false,reduceIte,Nat.reduceEqDiff,h3];done))))
  repeat (first|(apply Zh;exact rfl)|apply Zc|apply WO.nil|(apply WO.op;(focus (simp only [rQ,Zb,li,lo,reduceIte,Nat.reduceEqDiff,Nat.reduceAdd,beq_self_eq_true,h1];done));simp only [rE,rS,li,lo,reduceIte,Nat.reduceEqDiff,Nat.reduceAdd,Nat.reduceMul,h1];exact rfl;exact rfl)|(apply WO.unwanted;(focus (simp only [rQ,Zb,li,lo,reduceIte,Nat.reduceEqDiff,Nat.reduceAdd,beq_self_eq_true,h1];done));exact rfl))
  (apply WF.ret;(focus (simp only [Zi,Tri.gp,Zn,ZL,reduceIte,Nat.reduceEqDiff,rs58];exact rfl)))
  rfl
 have g3:=of_decide_eq_false h3
 cases h4:decide (dr < 0)
 rotate_left
 ·have:okB cpu l dr = false:=by
   have:=of_decide_eq_true h4
   have e:decide (0≤dr) = false:=decide_eq_false (by omega)
   unfold okB;rw [e];simp
  rw [this]
  repeat (first|(apply Zh;exact rfl)|apply Zc|apply WO.nil|(apply WO.op;(focus (simp only [rQ,Zb,li,lo,reduceIte,Nat.reduceEqDiff,Nat.reduceAdd,beq_self_eq_true,h1,h2,h3,h4];done));simp only [rE,rS,li,lo,reduceIte,Nat.reduceEqDiff,Nat.reduceAdd,Nat.reduceMul,h1,h2,h3,h4,hone,hsol,ZJ,Zp,Zy,Za Zu,Za Zw,Zk,Zf Zk hs];exact rfl;exact rfl)|(apply WO.unwanted;(focus (simp only [rQ,Zb,li,lo,reduceIte,Nat.reduceEqDiff,Nat.reduceAdd,beq_self_eq_true,h1,h2,h3,h4];done));exact rfl))
  (first|(apply WF.condT;(focus (simp only [Zg,Zd,Tri.gp,Zn,Bool.not_true,Bool.not_false,reduceIte,Nat.reduceEqDiff,h4];done)))|(apply WF.condF;(focus (simp only [Zg,Zd,Tri.gp,Zn,Bool.not_true,Bool.not_false,reduceIte,Nat.reduceEqDiff,h4];done))))
  repeat (first|(apply Zh;exact rfl)|apply Zc|apply WO.nil|(apply WO.op;(focus (simp only [rQ,Zb,li,lo,reduceIte,Nat.reduceEqDiff,Nat.reduceAdd,beq_self_eq_true,h1];done));simp only [rE,rS,li,lo,reduceIte,Nat.reduceEqDiff,Nat.reduceAdd,Nat.reduceMul,h1];exact rfl;exact rfl)|(apply WO.unwanted;(focus (simp only [rQ,Zb,li,lo,reduceIte,Nat.reduceEqDiff,Nat.reduceAdd,beq_self_eq_true,h1];done));exact rfl))
  (apply WF.ret;(focus (simp only [Zi,Tri.gp,Zn,ZL,reduceIte,Nat.reduceEqDiff,rs58];exact rfl)))
  rfl
 have g4:=of_decide_eq_false h4
 cases h5:decide ((1099511627776:Int) < dr)
 rotate_left
 ·have:okB cpu l dr = false:=by
   have:=of_decide_eq_true h5
   have e:decide (dr≤1099511627776) = false:=decide_eq_false (by omega)
   unfold okB;rw [e];simp
  rw [this]
  repeat (first|(apply Zh;exact rfl)|apply Zc|apply WO.nil|(apply WO.op;(focus (simp only [rQ,Zb,li,lo,reduceIte,Nat.reduceEqDiff,Nat.reduceAdd,beq_self_eq_true,h1,h2,h3,h4,h5];done));simp only [rE,rS,li,lo,reduceIte,Nat.reduceEqDiff,Nat.reduceAdd,Nat.reduceMul,h1,h2,h3,h4,h5,hone,hsol,ZJ,Zp,Zy,Za Zu,Za Zw,Zk,Zf Zk hs];exact rfl;exact rfl)|(apply WO.unwanted;(focus (simp only [rQ,Zb,li,lo,reduceIte,Nat.reduceEqDiff,Nat.reduceAdd,beq_self_eq_true,h1,h2,h3,h4,h5];done));exact rfl))
  (first|(apply WF.condT;(focus (simp only [Zg,Zd,Tri.gp,Zn,Bool.not_true,Bool.not_false,reduceIte,Nat.reduceEqDiff,h5];done)))|(apply WF.condF;(focus (simp only [Zg,Zd,Tri.gp,Zn,Bool.not_true,Bool.not_false,reduceIte,Nat.reduceEqDiff,h5];done))))
  repeat (first|(apply Zh;exact rfl)|apply Zc|apply WO.nil|(apply WO.op;(focus (simp only [rQ,Zb,li,lo,reduceIte,Nat.reduceEqDiff,Nat.reduceAdd,beq_self_eq_true,h1];done));simp only [rE,rS,li,lo,reduceIte,Nat.reduceEqDiff,Nat.reduceAdd,Nat.reduceMul,h1];exact rfl;exact rfl)|(apply WO.unwanted;(focus (simp only [rQ,Zb,li,lo,reduceIte,Nat.reduceEqDiff,Nat.reduceAdd,beq_self_eq_true,h1];done));exact rfl))
  (apply WF.ret;(focus (simp only [Zi,Tri.gp,Zn,ZL,reduceIte,Nat.reduceEqDiff,rs58];exact rfl)))
  rfl
 have g5:=of_decide_eq_false h5
 have hok:okB cpu l dr = !(l.any fun d =>!d.ok):=by
  have e1:decide (0≤cpu) = true:=decide_eq_true (by omega)
  have e2:decide (cpu < 4) = true:=decide_eq_true (by omega)
  have e3:decide ((l.length:Int)≤1000) = true:=decide_eq_true (by omega)
  have e4:decide (0≤dr) = true:=decide_eq_true (by omega)
  have e5:decide (dr≤1099511627776) = true:=decide_eq_true (by omega)
  unfold okB;rw [e1,e2,e3,e4,e5];simp
 rw [hok]
 repeat (first|(apply Zh;exact rfl)|apply Zc|apply WO.nil|(apply WO.op;(focus (simp only [rQ,Zb,li,lo,reduceIte,Nat.reduceEqDiff,Nat.reduceAdd,beq_self_eq_true,h1,h2,h3,h4,h5];done));simp only [rE,rS,li,lo,reduceIte,Nat.reduceEqDiff,Nat.reduceAdd,Nat.reduceMul,h1,h2,h3,h4,h5,hone,hsol,ZJ,Zp,Zy,Za Zu,Za Zw,Zk,Zf Zk hs];exact rfl;exact rfl)|(apply WO.unwanted;(focus (simp only [rQ,Zb,li,lo,reduceIte,Nat.reduceEqDiff,Nat.reduceAdd,beq_self_eq_true,h1,h2,h3,h4,h5];done));exact rfl))
 (first|(apply WF.condT;(focus (simp only [Zg,Zd,Tri.gp,Zn,Bool.not_true,Bool.not_false,reduceIte,Nat.reduceEqDiff,h5];done)))|(apply WF.condF;(focus (simp only [Zg,Zd,Tri.gp,Zn,Bool.not_true,Bool.not_false,reduceIte,Nat.reduceEqDiff,h5];done))))
 repeat (first|(apply Zh;exact rfl)|apply Zc|apply WO.nil|(apply WO.op;(focus (simp only [rQ,Zb,li,lo,reduceIte,Nat.reduceEqDiff,Nat.reduceAdd,beq_self_eq_true,h1];done));simp only [rE,rS,li,lo,reduceIte,Nat.reduceEqDiff,Nat.reduceAdd,Nat.reduceMul,h1];exact rfl;exact rfl)|(apply WO.unwanted;(focus (simp only [rQ,Zb,li,lo,reduceIte,Nat.reduceEqDiff,Nat.reduceAdd,beq_self_eq_true,h1];done));exact rfl))
 have hr1:YP ⟨H.t.put H.next (some (.cells 80 [.int .i64 cpu,rv,.int .i64 dr,.bool ah] 0 false false)),H.next + 1⟩ rv l:=hr.up (Up.box _ _)
 have hcb1:AH.cellsAt ⟨H.t.put H.next (some (.cells 80 [.int .i64 cpu,rv,.int .i64 dr,.bool ah] 0 false false)),H.next + 1⟩ H.next = some [.int .i64 cpu,rv,.int .i64 dr,.bool ah]:=by rw [ZK,if_pos rfl]
 refine Ys (fun m t H' =>∃i:Nat,i + m = l.length∧YP H' rv l∧H'.cellsAt H.next = some [.int .i64 cpu,rv,.int .i64 dr,.bool ah]∧(∀j (h:j < l.length),j < i→l[j].ok = true)∧t.get 1 = some (.ptr H.next 0)∧t.get 3 = some (.int .i64 (i:Int))) l.length ?_ ?_
 ·refine⟨0,by omega,hr1,hcb1,fun j h hj =>by omega,?_,?_⟩ <;> simp [Tri.gp,Zn]
 rintro m t H' ⟨i,him,hrr,hcb,hall,t1,t3⟩ ih
 by_cases hi:i < l.length
 ·have hlt:decide ((i:Int) < (l.length:Int)) = true:=by simp;omega
  have wi:IntKind.i64.wrap ((i:Int) + 1) = ((i + 1:Nat):Int):=by rw [Go.Ev.w64 (by omega) (by omega)];omega
  obtain⟨b2,off2,cap2,c2,dv,hrv,hc2,hd2,hcut2⟩:=hrr.at hi
  have hds:=hd2.1
  subst hrv
  repeat (first|(apply Zh;exact rfl)|apply Zc|apply WO.nil|(apply WO.op;(focus (simp only [rQ,Zb,li,lo,reduceIte,Nat.reduceEqDiff,Nat.reduceAdd,beq_self_eq_true,hlt];done));simp only [rE,rS,li,lo,reduceIte,Nat.reduceEqDiff,Nat.reduceAdd,Nat.reduceMul,Zk,Zp,Za Zw,Ze Yi Z1,cu100,t1,t3,hcb,hone,hsol,Zf Zk hs,hlt];exact rfl;exact rfl)|(apply WO.unwanted;(focus (simp only [rQ,Zb,li,lo,reduceIte,Nat.reduceEqDiff,Nat.reduceAdd,beq_self_eq_true,hlt];done));exact rfl))
  (first|(apply WF.condT;(focus (simp only [Zg,Zd,Tri.gp,Zn,Bool.not_true,Bool.not_false,reduceIte,Nat.reduceEqDiff,hlt];done)))|(apply WF.condF;(focus (simp only [Zg,Zd,Tri.gp,Zn,Bool.not_true,Bool.not_false,reduceIte,Nat.reduceEqDiff,hlt];done))))
  repeat (first|(apply Zh;exact rfl)|apply Zc|apply WO.nil|(apply WO.op;(focus (simp only [rQ,Zb,li,lo,reduceIte,Nat.reduceEqDiff,Nat.reduceAdd,beq_self_eq_true,hlt];done));simp only [rE,rS,li,lo,reduceIte,Nat.reduceEqDiff,Nat.reduceAdd,Nat.reduceMul,Zk,Zp,Za Zw,Ze Yi Z1,cu100,t1,t3,hcb,hone,hsol,hlt,Zt Zk Z1 hi,hc2,hcut2];exact rfl;exact rfl)|(apply WO.unwanted;(focus (simp only [rQ,Zb,li,lo,reduceIte,Nat.reduceEqDiff,Nat.reduceAdd,beq_self_eq_true,hlt];done));exact rfl))
  (apply WO.call;(focus (simp only [rQ,Zb,li,lo,reduceIte,Nat.reduceEqDiff,Nat.reduceAdd,beq_self_eq_true,hlt];done));simp only [rE,rS,li,lo,reduceIte,Nat.reduceEqDiff,Nat.reduceAdd,Nat.reduceMul,Zk,Zp,Za Zw,Ze Yi Z1,cu100,t1,t3,hcb,hone,hsol,hlt,Zt Zk Z1 hi,hc2,hcut2];exact rfl;exact valid100_c _ _ _ _ _ hds;rintro _ _ ⟨rfl,rfl⟩;refine⟨_,rfl,?_⟩)
  cases hv:l[i].ok
  ·have hvv:vld l[i].id l[i].tm l[i].r.length = false:=hv
   repeat (first|(apply Zh;exact rfl)|apply Zc|apply WO.nil|(apply Zl;exact rfl;simp only [rE,rS,li,lo,reduceIte,Nat.reduceEqDiff,Nat.reduceAdd,Nat.reduceMul,hvv];exact rfl;exact rfl))
   (first|(apply WF.condT;(focus (simp only [Zg,Zd,Tri.gp,Zn,Bool.not_true,Bool.not_false,reduceIte,Nat.reduceEqDiff];done)))|(apply WF.condF;(focus (simp only [Zg,Zd,Tri.gp,Zn,Bool.not_true,Bool.not_false,reduceIte,Nat.reduceEqDiff];done))))
   repeat (first|(apply Zh;exact rfl)|apply Zc|apply WO.nil|(apply Zl;exact rfl;simp only [rE,rS,li,lo,reduceIte,Nat.reduceEqDiff,Nat.reduceAdd,Nat.reduceMul,t1];exact rfl;exact rfl))
   (apply WF.ret;(focus (simp only [Zi,Tri.gp,Zn,ZL,reduceIte,Nat.reduceEqDiff,rs58];exact rfl)))
   have:(l.any fun d =>!d.ok) = true:=List.any_eq_true.2 ⟨l[i],List.getElem_mem hi,by rw [hv];rfl⟩
   rw [this]
   rfl
  ·have hvv:vld l[i].id l[i].tm l[i].r.length = true:=hv
   repeat (first|(apply Zh;exact rfl)|apply Zc|apply WO.nil|(apply Zl;exact rfl;simp only [rE,rS,li,lo,reduceIte,Nat.reduceEqDiff,Nat.reduceAdd,Nat.reduceMul,hvv];exact rfl;exact rfl))
   (first|(apply WF.condT;(focus (simp only [Zg,Zd,Tri.gp,Zn,Bool.not_true,Bool.not_false,reduceIte,Nat.reduceEqDiff];done)))|(apply WF.condF;(focus (simp only [Zg,Zd,Tri.gp,Zn,Bool.not_true,Bool.not_false,reduceIte,Nat.reduceEqDiff];done))))
   repeat (first|(apply Zh;exact rfl)|apply Zc|apply WO.nil|(apply Zl;exact rfl;simp only [rE,rS,li,lo,reduceIte,Nat.reduceEqDiff,Nat.reduceAdd,Nat.reduceMul,t3,wi];exact rfl;exact rfl))
   refine Yt ?_
   refine ih (m - 1) _ _ (by omega) ⟨i + 1,by omega,hrr,hcb,fun j h hj =>?_,?_,?_⟩
   ·by_cases e:j = i
    ·subst e;exact hv
    ·exact hall j h (by omega)
   all_goals simp [Tri.gp,t1]
 ·obtain rfl:i = l.length:=by omega
  have hlt:decide ((l.length:Int) < (l.length:Int)) = false:=by simp
  repeat (first|(apply Zh;exact rfl)|apply Zc|apply WO.nil|(apply WO.op;(focus (simp only [rQ,Zb,li,lo,reduceIte,Nat.reduceEqDiff,Nat.reduceAdd,beq_self_eq_true,hlt];done));simp only [rE,rS,li,lo,reduceIte,Nat.reduceEqDiff,Nat.reduceAdd,Nat.reduceMul,Zk,Zp,Za Zw,Ze Yi Z1,cu100,t1,t3,hcb,hone,hsol,Zf Zk hs,hlt];exact rfl;exact rfl)|(apply WO.unwanted;(focus (simp only [rQ,Zb,li,lo,reduceIte,Nat.reduceEqDiff,Nat.reduceAdd,beq_self_eq_true,hlt];done));exact rfl))
  (first|(apply WF.condT;(focus (simp only [Zg,Zd,Tri.gp,Zn,Bool.not_true,Bool.not_false,reduceIte,Nat.reduceEqDiff,hlt];done)))|(apply WF.condF;(focus (simp only [Zg,Zd,Tri.gp,Zn,Bool.not_true,Bool.not_false,reduceIte,Nat.reduceEqDiff,hlt];done))))
  repeat (first|(apply Zh;exact rfl)|apply Zc|apply WO.nil|(apply WO.op;(focus (simp only [rQ,Zb,li,lo,reduceIte,Nat.reduceEqDiff,Nat.reduceAdd,beq_self_eq_true,hlt];done));simp only [rE,rS,li,lo,reduceIte,Nat.reduceEqDiff,Nat.reduceAdd,Nat.reduceMul,Zk,Zp,Za Zw,Ze Yi Z1,cu100,t1,t3,hcb,hone,hsol,hlt];exact rfl;exact rfl)|(apply WO.unwanted;(focus (simp only [rQ,Zb,li,lo,reduceIte,Nat.reduceEqDiff,Nat.reduceAdd,beq_self_eq_true,hlt];done));exact rfl))
  (apply WF.ret;(focus (simp only [Zi,Tri.gp,Zn,ZL,reduceIte,Nat.reduceEqDiff,rs58];exact rfl)))
  have:(l.any fun d =>!d.ok) = false:=by
   rw [List.any_eq_false]
   intro d hd
   obtain⟨j,hj,rfl⟩:=List.mem_iff_getElem.1 hd
   rw [hall j hj hj]
   simp
  rw [this]
  rfl
end Go.Ev.C
end
section
namespace Go.Ev.C
open Go.Proofs Go.RowKit Go.Fmt
set_option maxRecDepth 100000
set_option linter.unusedSimpArgs false
variable {L:World→Prop} [Yu Q L]
/-- What Count answers. -/
def cntL (l:List XC):List AV:=if (l.any fun d =>!d.ok) then [.int .i64 0,.int .i64 0,.int .i64 260] else if l.length > 200 then [.int .i64 0,.int .i64 0,.int .i64 2] else [.int .i64 (nS l),.int .i64 (dS l),.int .i64 0]
theorem cnt_cntL (l:List XC):cnt l = .tuple (cntL l):=by
 unfold cnt cntL
 split
 ·rfl
 ·split <;> rfl
theorem zero56:Wi Q 56 = some (.agg [.int .i64 0,.int .i64 0,.int .i64 0]):=by kernel_rfl
theorem bu56e (z:Int):Wg Q 56 [(2,.int .i64 z)] = some (.agg [.int .i64 0,.int .i64 0,.int .i64 z]):=by kernel_rfl
theorem cut3i (a b c:Int):cut [.int .i64 a,.int .i64 b,.int .i64 c] 0 3 = some [.int .i64 a,.int .i64 b,.int .i64 c]:=YN rfl rfl
set_option maxHeartbeats 8000000 in
theorem count22_c (H:AH) (bv:AV) (l:List XC) (hr:YI H bv l) (hlen:l.length < 9223372036854775808) (hsm:l.length≤2000000):Fn Q L 22 [bv] H (fun v H' =>v = .agg (cntL l)∧H' = H):=by
 refine Fn.gc (en22 _) (by unfold cntL;split;rfl;split <;> rfl) ?_
 have hr:=hr.lock
 generalize lock H = H at hr
 have hs:=hr.1
 unfold c22 Tryz.f22
 simp only [Option.getD_some]
 have n01:(H.next = H.next + 1) = False:=eq_false (by omega)
 repeat (first|(apply Zh;exact rfl)|apply Zc|apply WO.nil|(apply Zl;exact rfl;simp only [rE,rS,li,lo,reduceIte,Nat.reduceEqDiff,Nat.reduceAdd,Nat.reduceMul,Zj,Zf Zj hs,zero56,sz56];exact rfl;exact rfl))
 refine Ys (fun m t H' =>∃i:Nat,i + m = l.length∧Up H H'∧H.next + 1 < H'.next∧H'.t.get H.next = some (.cells 56 [.int .i64 0,.int .i64 0,.int .i64 0] 0 false false)∧H'.t.get (H.next + 1) = some (.cells 56 [.int .i64 (nS (l.take i)),.int .i64 (dS (l.take i)),.int .i64 0] 0 false false)∧(∀j (h:j < l.length),j < i→l[j].ok = true)∧t.get 0 = some bv∧t.get 2 = some (.ptr H.next 0)∧t.get 3 = some (.ptr (H.next + 1) 0)∧t.get 4 = some (.int .i64 (i:Int))) l.length ?_ ?_
 ·refine⟨0,by omega,WC H _ _,by show H.next + 1 < H.next + 1 + 1;omega,?_,?_,fun j h hj =>by omega,?_,?_,?_,?_⟩
  ·show ((H.t.put _ _).put _ _).get _ = _
   rw [Tri.gp,if_neg (by omega),Tri.gp,if_pos rfl]
  ·show ((H.t.put _ _).put _ _).get _ = _
   rw [Tri.gp,if_pos rfl]
   rfl
  all_goals simp [Tri.gp,Zn]
 rintro m t H' ⟨i,him,hu,hnx,hg2,hg3,hall,t0,t2,t3,t4⟩ ih
 have hst:∀a b c:Int,Zr Q 56 H.next 0 (.agg [.int .i64 a,.int .i64 b,.int .i64 c]) H' = some ⟨H'.t.put H.next (some (.cells 56 [.int .i64 a,.int .i64 b,.int .i64 c] 0 false false)),H'.next⟩:=fun a b c =>Z7 (x:=[.int .i64 a,.int .i64 b,.int .i64 c]) hg2 sz56 rfl rfl rfl (Nat.le_refl _)
 have bnd:∀i,i≤l.length→(∀j (h:j < l.length),j < i→l[j].ok = true)→(0≤nS (l.take i)∧nS (l.take i)≤1000 * l.length)∧(0≤dS (l.take i)∧dS (l.take i)≤1099511627776 * l.length):=by
  intro i hi hok
  have hmem:∀x ∈ l.take i,x.ok = true:=fun x hx =>by
   obtain⟨j,hj,rfl⟩:=List.mem_iff_getElem.1 hx
   simp only [List.length_take] at hj
   rw [List.getElem_take]
   exact hok j (by omega) (by omega)
  have h1:=sum_bound (fun d:XC =>(d.recs.length:Int)) 1000 (l.take i) fun x hx =>(okB_bounds (hmem x hx)).1
  have h2:=sum_bound (fun d:XC =>d.dr) 1099511627776 (l.take i) fun x hx =>(okB_bounds (hmem x hx)).2
  have h3:((l.take i).length:Int)≤l.length:=by simp;omega
  unfold nS dS
  omega
 by_cases hi:i < l.length
 ·have hlt:decide ((i:Int) < (l.length:Int)) = true:=by simp;omega
  have wi:IntKind.i64.wrap ((i:Int) + 1) = ((i + 1:Nat):Int):=by rw [Go.Ev.w64 (by omega) (by omega)];omega
  obtain⟨b,off,cap,c,rv,hbv,hb,hc,hd,hdl,hcut⟩:=(hr.up hu).at hi
  have hc3:=Z5 hg3
  have hc2:=Z5 hg2
  subst hbv
  have hrs:=hd.1
  have hone:=hrs.one
  have hsol:=hrs.solid
  have hck:=check_c (L:=L) H' l[i].cpu rv l[i].dr l[i].ah l[i].recs hd hdl
  unfold BV at hck
  repeat (first|(apply Zh;exact rfl)|apply Zc|apply WO.nil|(apply WO.op;(focus (simp only [rQ,Zb,li,lo,reduceIte,Nat.reduceEqDiff,Nat.reduceAdd,beq_self_eq_true,hlt];done));simp only [rE,rS,li,lo,reduceIte,Nat.reduceEqDiff,Nat.reduceAdd,Nat.reduceMul,Zj,Zk,Zf Zj hs,t0,t2,t3,t4,Ze ZT Zv,Za Zu,Za Zw,XO,XN,Zp,Zy,cu58,hlt];exact rfl;exact rfl)|(apply WO.unwanted;(focus (simp only [rQ,Zb,li,lo,reduceIte,Nat.reduceEqDiff,Nat.reduceAdd,beq_self_eq_true,hlt];done));exact rfl))
  (first|(apply WF.condT;(focus (simp only [Zg,Zd,Tri.gp,Zn,Bool.not_true,Bool.not_false,reduceIte,Nat.reduceEqDiff,hlt];done)))|(apply WF.condF;(focus (simp only [Zg,Zd,Tri.gp,Zn,Bool.not_true,Bool.not_false,reduceIte,Nat.reduceEqDiff,hlt];done))))
  repeat (first|(apply Zh;exact rfl)|apply Zc|apply WO.nil|(apply WO.op;(focus (simp only [rQ,Zb,li,lo,reduceIte,Nat.reduceEqDiff,Nat.reduceAdd,beq_self_eq_true,hlt];done));simp only [rE,rS,li,lo,reduceIte,Nat.reduceEqDiff,Nat.reduceAdd,Nat.reduceMul,Zj,Zk,Zf Zj hs,t0,t2,t3,t4,Ze ZT Zv,Za Zu,Za Zw,XO,XN,Zp,Zy,cu58,hlt,Zt Zj Zv hi,hc,hcut];exact rfl;exact rfl)|(apply WO.unwanted;(focus (simp only [rQ,Zb,li,lo,reduceIte,Nat.reduceEqDiff,Nat.reduceAdd,beq_self_eq_true,hlt];done));exact rfl))
  (apply WO.call;(focus (simp only [rQ,Zb,li,lo,reduceIte,Nat.reduceEqDiff,Nat.reduceAdd,beq_self_eq_true,hlt];done));simp only [rE,rS,li,lo,reduceIte,Nat.reduceEqDiff,Nat.reduceAdd,Nat.reduceMul,Zj,Zk,Zf Zj hs,t0,t2,t3,t4,Ze ZT Zv,Za Zu,Za Zw,XO,XN,Zp,Zy,cu58,hlt,Zt Zj Zv hi,hc,hcut];exact rfl;exact hck;rintro _ H' ⟨rfl,rfl⟩;refine⟨_,rfl,?_⟩)
  cases hv:okB l[i].cpu l[i].recs l[i].dr
  ·have q1:decide ((if false = true then (0:Int) else 260) = 0) = false:=rfl
   repeat (first|(apply Zh;exact rfl)|apply Zc|apply WO.nil|(apply WO.op;(focus (simp only [rQ,Zb,li,lo,reduceIte,Nat.reduceEqDiff,Nat.reduceAdd,beq_self_eq_true,q1];done));simp only [rE,rS,li,lo,reduceIte,Nat.reduceEqDiff,Nat.reduceAdd,Nat.reduceMul,q1];exact rfl;exact rfl)|(apply WO.unwanted;(focus (simp only [rQ,Zb,li,lo,reduceIte,Nat.reduceEqDiff,Nat.reduceAdd,beq_self_eq_true,q1];done));exact rfl))
   (first|(apply WF.condT;(focus (simp only [Zg,Zd,Tri.gp,Zn,Bool.not_true,Bool.not_false,reduceIte,Nat.reduceEqDiff,q1];done)))|(apply WF.condF;(focus (simp only [Zg,Zd,Tri.gp,Zn,Bool.not_true,Bool.not_false,reduceIte,Nat.reduceEqDiff,q1];done))))
   repeat (first|(apply Zh;exact rfl)|apply Zc|apply WO.nil|(apply Zl;exact rfl;simp only [rE,rQ,li,lo,reduceIte,Nat.reduceEqDiff,Nat.reduceAdd,Nat.reduceMul,AH.set,Zj,Zk,Zf Zj hs,t0,t2,t3,t4,Ze ZT Zv,Za Zu,Za Zw,XO,XN,Zp,Zy,cu58,Zs,bu56e,hst];exact rfl;exact rfl))
   (apply WF.ret;(focus (simp only [Zi,Tri.gp,Zn,ZL,reduceIte,Nat.reduceEqDiff,rs22,Ze agg56 sz56,ZK,cut3i,Option.map_some,t2];exact rfl)))
   have:(l.any fun d =>!d.ok) = true:=List.any_eq_true.2 ⟨l[i],List.getElem_mem hi,by show (!okB l[i].cpu l[i].recs l[i].dr) = true;rw [hv];rfl⟩
   unfold cntL
   rw [if_pos this]
  ·have q1:decide ((if true = true then (0:Int) else 260) = 0) = true:=rfl
   have hall':∀j (h:j < l.length),j < i + 1→l[j].ok = true:=fun j h hj =>by
    by_cases e:j = i
    ·subst e;exact hv
    ·exact hall j h (by omega)
   have b0:=bnd i (by omega) hall
   have b1:=bnd (i + 1) (by omega) hall'
   have sn:nS (l.take (i + 1)) = nS (l.take i) + (l[i].recs.length:Int):=by unfold nS;rw [sum_take_succ _ l i hi]
   have sd:dS (l.take (i + 1)) = dS (l.take i) + l[i].dr:=by unfold dS;rw [sum_take_succ _ l i hi]
   have wn:IntKind.i64.wrap (nS (l.take i) + (l[i].recs.length:Int)) = nS (l.take (i + 1)):=by rw [sn,Go.Ev.w64 (by omega) (by omega)]
   have wd:IntKind.i64.wrap (dS (l.take i) + l[i].dr) = dS (l.take (i + 1)):=by rw [sd,Go.Ev.w64 (by omega) (by omega)]
   obtain⟨_,hcat⟩:=Yg.1 hcut
   obtain⟨z1,y1,_,y1'⟩:=hcat 1 (by omega)
   obtain⟨z2,y2,_,y2'⟩:=hcat 2 (by omega)
   cases y1'
   cases y2'
   repeat (first|(apply Zh;exact rfl)|apply Zc|apply WO.nil|(apply WO.op;(focus (simp only [rQ,Zb,li,lo,reduceIte,Nat.reduceEqDiff,Nat.reduceAdd,beq_self_eq_true,q1];done));simp only [rE,rS,li,lo,reduceIte,Nat.reduceEqDiff,Nat.reduceAdd,Nat.reduceMul,q1];exact rfl;exact rfl)|(apply WO.unwanted;(focus (simp only [rQ,Zb,li,lo,reduceIte,Nat.reduceEqDiff,Nat.reduceAdd,beq_self_eq_true,q1];done));exact rfl))
   (first|(apply WF.condT;(focus (simp only [Zg,Zd,Tri.gp,Zn,Bool.not_true,Bool.not_false,reduceIte,Nat.reduceEqDiff,q1];done)))|(apply WF.condF;(focus (simp only [Zg,Zd,Tri.gp,Zn,Bool.not_true,Bool.not_false,reduceIte,Nat.reduceEqDiff,q1];done))))
   repeat (first|(apply Zh;exact rfl)|apply Zc|apply WO.nil|(apply Zl;exact rfl;simp only [rE,rS,li,lo,reduceIte,Nat.reduceEqDiff,Nat.reduceAdd,Nat.reduceMul,Zj,Zk,Zf Zj hs,t0,t2,t3,t4,Ze ZT Zv,Za Zu,Za Zw,XO,XN,Zp,Zy,cu58];exact rfl;exact rfl))
   (apply Yw;kernel_rfl;kernel_rfl)
   have hst3:Zr Q 3 (H.next + 1) 0 (.int .i64 (nS (l.take (i + 1)))) H' = some ⟨H'.t.put (H.next + 1) (some (.cells 56 [.int .i64 (nS (l.take (i + 1))),.int .i64 (dS (l.take i)),.int .i64 0] 0 false false)),H'.next⟩:=Z7 (n:=1) (x:=[.int .i64 (nS (l.take (i + 1)))]) hg3 sz3 rfl rfl rfl (by simp)
   (refine Zq ?_;(iterate 10 (first|(apply ZW.pure;kernel_rfl;kernel_rfl;(focus ((simp only [rQ,Zb,li,lo,reduceIte,Nat.reduceEqDiff,Nat.reduceAdd,beq_self_eq_true];done)));simp only [rE,rS,li,lo,reduceIte,Nat.reduceEqDiff,Nat.reduceAdd,Nat.reduceMul,Zj,Zk,Zf Zj hs,t0,t2,t3,t4,Ze ZT Zv,Za Zu,Za Zw,XO,XN,Zp,Zy,cu58,hc3,Zt Zj Zv hi,hc,y1,hone,hsol,Zf Zk hrs,wn];exact rfl;exact rfl)|(apply ZW.load;kernel_rfl;kernel_rfl;(focus ((simp only [rQ,Zb,li,lo,reduceIte,Nat.reduceEqDiff,Nat.reduceAdd,beq_self_eq_true];done)));simp only [rE,rS,li,lo,reduceIte,Nat.reduceEqDiff,Nat.reduceAdd,Nat.reduceMul,Zj,Zk,Zf Zj hs,t0,t2,t3,t4,Ze ZT Zv,Za Zu,Za Zw,XO,XN,Zp,Zy,cu58,hc3,Zt Zj Zv hi,hc,y1,hone,hsol,Zf Zk hrs,wn];exact rfl;exact rfl)));(iterate 1 (apply ZW.later;kernel_rfl));refine ZW.nil ?_)
   (apply ZY.eff (e:=10);kernel_rfl;simp only [li];exact rfl;(focus (simp only [rQ,Zb,li,lo,reduceIte,Nat.reduceEqDiff,Nat.reduceAdd,beq_self_eq_true];done));simp only [rE,rQ,li,lo,reduceIte,Nat.reduceEqDiff,Nat.reduceAdd,Nat.reduceMul,AH.set,hst3];exact rfl;exact rfl;(focus exact ZM (by kernel_rfl)))
   (refine Zq ?_;(iterate 11 (apply ZW.later;kernel_rfl));refine ZW.nil ?_)
   (apply ZY.all;kernel_rfl;kernel_rfl)
   have hbn:b ≠ H.next + 1:=by
    intro e
    subst e
    rw [hc3] at hc
    obtain rfl:=Option.some.inj hc
    obtain⟨z3,y3,_,_⟩:=hcat 3 (by omega)
    have h3:=(List.getElem?_eq_some_iff.1 y3).1
    simp only [List.length_cons,List.length_nil] at h3
    omega
   have v1:Up H ⟨H'.t.put (H.next + 1) (some (.cells 56 [.int .i64 (nS (l.take (i + 1))),.int .i64 (dS (l.take i)),.int .i64 0] 0 false false)),H'.next⟩:=⟨hu.next,fun b hb =>by show (H'.t.put _ _).get _ = _;rw [Tri.gp,if_neg (by omega)];exact hu.old b hb⟩
   have hg2':(AH.mk (H'.t.put (H.next + 1) (some (.cells 56 [.int .i64 (nS (l.take (i + 1))),.int .i64 (dS (l.take i)),.int .i64 0] 0 false false))) H'.next).t.get H.next = some (.cells 56 [.int .i64 0,.int .i64 0,.int .i64 0] 0 false false):=by show (H'.t.put _ _).get _ = _;rw [Tri.gp,if_neg (by omega)];exact hg2
   have hg3':(AH.mk (H'.t.put (H.next + 1) (some (.cells 56 [.int .i64 (nS (l.take (i + 1))),.int .i64 (dS (l.take i)),.int .i64 0] 0 false false))) H'.next).t.get (H.next + 1) = some (.cells 56 [.int .i64 (nS (l.take (i + 1))),.int .i64 (dS (l.take i)),.int .i64 0] 0 false false):=by show (H'.t.put _ _).get _ = _;rw [Tri.gp,if_pos rfl]
   have hc':AH.cellsAt ⟨H'.t.put (H.next + 1) (some (.cells 56 [.int .i64 (nS (l.take (i + 1))),.int .i64 (dS (l.take i)),.int .i64 0] 0 false false)),H'.next⟩ b = some c:=by rw [ZK,if_neg hbn];exact hc
   have hnx':H.next + 1 < (AH.mk (H'.t.put (H.next + 1) (some (.cells 56 [.int .i64 (nS (l.take (i + 1))),.int .i64 (dS (l.take i)),.int .i64 0] 0 false false))) H'.next).next:=hnx
   generalize (⟨H'.t.put (H.next + 1) (some (.cells 56 [.int .i64 (nS (l.take (i + 1))),.int .i64 (dS (l.take i)),.int .i64 0] 0 false false)),H'.next⟩:AH) = H2 at *
   have hc3':=Z5 hg3'
   repeat (first|(apply Zh;exact rfl)|apply Zc|apply WO.nil|(apply Zl;exact rfl;simp only [rE,rS,li,lo,reduceIte,Nat.reduceEqDiff,Nat.reduceAdd,Nat.reduceMul,Zj,Zk,Zf Zj hs,t0,t2,t3,t4,Ze ZT Zv,Za Zu,Za Zw,XO,XN,Zp,Zy,cu58];exact rfl;exact rfl))
   (apply Yw;kernel_rfl;kernel_rfl)
   have hst4:Zr Q 3 (H.next + 1) 1 (.int .i64 (dS (l.take (i + 1)))) H2 = some ⟨H2.t.put (H.next + 1) (some (.cells 56 [.int .i64 (nS (l.take (i + 1))),.int .i64 (dS (l.take (i + 1))),.int .i64 0] 0 false false)),H2.next⟩:=Z7 (n:=1) (x:=[.int .i64 (dS (l.take (i + 1)))]) hg3' sz3 rfl rfl rfl (by simp)
   (refine Zq ?_;(iterate 9 (first|(apply ZW.pure;kernel_rfl;kernel_rfl;(focus ((simp only [rQ,Zb,li,lo,reduceIte,Nat.reduceEqDiff,Nat.reduceAdd,beq_self_eq_true];done)));simp only [rE,rS,li,lo,reduceIte,Nat.reduceEqDiff,Nat.reduceAdd,Nat.reduceMul,Zj,Zk,Zf Zj hs,t0,t2,t3,t4,Ze ZT Zv,Za Zu,Za Zw,XO,XN,Zp,Zy,cu58,hc3',Zt Zj Zv hi,hc',y2,hone,hsol,wd];exact rfl;exact rfl)|(apply ZW.load;kernel_rfl;kernel_rfl;(focus ((simp only [rQ,Zb,li,lo,reduceIte,Nat.reduceEqDiff,Nat.reduceAdd,beq_self_eq_true];done)));simp only [rE,rS,li,lo,reduceIte,Nat.reduceEqDiff,Nat.reduceAdd,Nat.reduceMul,Zj,Zk,Zf Zj hs,t0,t2,t3,t4,Ze ZT Zv,Za Zu,Za Zw,XO,XN,Zp,Zy,cu58,hc3',Zt Zj Zv hi,hc',y2,hone,hsol,wd];exact rfl;exact rfl)));(iterate 1 (apply ZW.later;kernel_rfl));refine ZW.nil ?_)
   (apply ZY.eff (e:=9);kernel_rfl;simp only [li];exact rfl;(focus (simp only [rQ,Zb,li,lo,reduceIte,Nat.reduceEqDiff,Nat.reduceAdd,beq_self_eq_true];done));simp only [rE,rQ,li,lo,reduceIte,Nat.reduceEqDiff,Nat.reduceAdd,Nat.reduceMul,AH.set,hst4];exact rfl;exact rfl;(focus exact ZM (by kernel_rfl)))
   (refine Zq ?_;(iterate 10 (apply ZW.later;kernel_rfl));refine ZW.nil ?_)
   (apply ZY.all;kernel_rfl;kernel_rfl)
   repeat (first|(apply Zh;exact rfl)|apply Zc|apply WO.nil|(apply Zl;exact rfl;simp only [rE,rS,li,lo,reduceIte,Nat.reduceEqDiff,Nat.reduceAdd,Nat.reduceMul,t4,wi];exact rfl;exact rfl))
   refine Yt ?_
   refine ih (m - 1) _ _ (by omega) ⟨i + 1,by omega,⟨v1.next,fun b hb =>by show (H2.t.put _ _).get _ = _;rw [Tri.gp,if_neg (by omega)];exact v1.old b hb⟩,hnx',?_,?_,hall',?_,?_,?_,?_⟩
   ·show (H2.t.put _ _).get _ = _
    rw [Tri.gp,if_neg (by omega)]
    exact hg2'
   ·show (H2.t.put _ _).get _ = _
    rw [Tri.gp,if_pos rfl]
   all_goals simp [Tri.gp,t0,t2,t3]
 ·obtain rfl:i = l.length:=by omega
  have hlt:decide ((l.length:Int) < (l.length:Int)) = false:=by simp
  have hc3:=Z5 hg3
  have hgood:(l.any fun d =>!d.ok) = false:=by
   rw [List.any_eq_false]
   intro d hd
   obtain⟨j,hj,rfl⟩:=List.mem_iff_getElem.1 hd
   rw [hall j hj hj]
   simp
  repeat (first|(apply Zh;exact rfl)|apply Zc|apply WO.nil|(apply WO.op;(focus (simp only [rQ,Zb,li,lo,reduceIte,Nat.reduceEqDiff,Nat.reduceAdd,beq_self_eq_true,hlt];done));simp only [rE,rS,li,lo,reduceIte,Nat.reduceEqDiff,Nat.reduceAdd,Nat.reduceMul,Zj,Zk,Zf Zj hs,t0,t2,t3,t4,Ze ZT Zv,Za Zu,Za Zw,XO,XN,Zp,Zy,cu58,hlt];exact rfl;exact rfl)|(apply WO.unwanted;(focus (simp only [rQ,Zb,li,lo,reduceIte,Nat.reduceEqDiff,Nat.reduceAdd,beq_self_eq_true,hlt];done));exact rfl))
  (first|(apply WF.condT;(focus (simp only [Zg,Zd,Tri.gp,Zn,Bool.not_true,Bool.not_false,reduceIte,Nat.reduceEqDiff,hlt];done)))|(apply WF.condF;(focus (simp only [Zg,Zd,Tri.gp,Zn,Bool.not_true,Bool.not_false,reduceIte,Nat.reduceEqDiff,hlt];done))))
  unfold cntL
  rw [hgood]
  by_cases h200:200 < l.length
  ·have q1:decide ((200:Int) < (l.length:Int)) = true:=decide_eq_true (by omega)
   repeat (first|(apply Zh;exact rfl)|apply Zc|apply WO.nil|(apply WO.op;(focus (simp only [rQ,Zb,li,lo,reduceIte,Nat.reduceEqDiff,Nat.reduceAdd,beq_self_eq_true,hlt,q1];done));simp only [rE,rS,li,lo,reduceIte,Nat.reduceEqDiff,Nat.reduceAdd,Nat.reduceMul,Zj,Zk,Zf Zj hs,t0,t2,t3,t4,Ze ZT Zv,Za Zu,Za Zw,XO,XN,Zp,Zy,cu58,hlt,q1];exact rfl;exact rfl)|(apply WO.unwanted;(focus (simp only [rQ,Zb,li,lo,reduceIte,Nat.reduceEqDiff,Nat.reduceAdd,beq_self_eq_true,hlt,q1];done));exact rfl))
   (first|(apply WF.condT;(focus (simp only [Zg,Zd,Tri.gp,Zn,Bool.not_true,Bool.not_false,reduceIte,Nat.reduceEqDiff,q1];done)))|(apply WF.condF;(focus (simp only [Zg,Zd,Tri.gp,Zn,Bool.not_true,Bool.not_false,reduceIte,Nat.reduceEqDiff,q1];done))))
   repeat (first|(apply Zh;exact rfl)|apply Zc|apply WO.nil|(apply Zl;exact rfl;simp only [rE,rQ,li,lo,reduceIte,Nat.reduceEqDiff,Nat.reduceAdd,Nat.reduceMul,AH.set,Zj,Zk,Zf Zj hs,t0,t2,t3,t4,Ze ZT Zv,Za Zu,Za Zw,XO,XN,Zp,Zy,cu58,Zs,bu56e,hst];exact rfl;exact rfl))
   (apply WF.ret;(focus (simp only [Zi,Tri.gp,Zn,ZL,reduceIte,Nat.reduceEqDiff,rs22,Ze agg56 sz56,ZK,cut3i,Option.map_some,t2];exact rfl)))
   rw [if_neg (by simp),if_pos h200]
  ·have q1:decide ((200:Int) < (l.length:Int)) = false:=decide_eq_false (by omega)
   rw [List.take_length] at hc3
   repeat (first|(apply Zh;exact rfl)|apply Zc|apply WO.nil|(apply WO.op;(focus (simp only [rQ,Zb,li,lo,reduceIte,Nat.reduceEqDiff,Nat.reduceAdd,beq_self_eq_true,hlt,q1];done));simp only [rE,rS,li,lo,reduceIte,Nat.reduceEqDiff,Nat.reduceAdd,Nat.reduceMul,Zj,Zk,Zf Zj hs,t0,t2,t3,t4,Ze ZT Zv,Za Zu,Za Zw,XO,XN,Zp,Zy,cu58,hlt,q1];exact rfl;exact rfl)|(apply WO.unwanted;(focus (simp only [rQ,Zb,li,lo,reduceIte,Nat.reduceEqDiff,Nat.reduceAdd,beq_self_eq_true,hlt,q1];done));exact rfl))
   (first|(apply WF.condT;(focus (simp only [Zg,Zd,Tri.gp,Zn,Bool.not_true,Bool.not_false,reduceIte,Nat.reduceEqDiff,q1];done)))|(apply WF.condF;(focus (simp only [Zg,Zd,Tri.gp,Zn,Bool.not_true,Bool.not_false,reduceIte,Nat.reduceEqDiff,q1];done))))
   repeat (first|(apply Zh;exact rfl)|apply Zc|apply WO.nil|(apply Zl;exact rfl;simp only [rE,rQ,li,lo,reduceIte,Nat.reduceEqDiff,Nat.reduceAdd,Nat.reduceMul,AH.set,Zj,Zk,Zf Zj hs,t0,t2,t3,t4,Ze ZT Zv,Za Zu,Za Zw,XO,XN,Zp,Zy,cu58,Ze agg56 sz56,hc3,cut3i,hst];exact rfl;exact rfl))
   (apply WF.ret;(focus (simp only [Zi,Tri.gp,Zn,ZL,reduceIte,Nat.reduceEqDiff,rs22,Ze agg56 sz56,ZK,cut3i,Option.map_some,t2];exact rfl)))
   rw [if_neg (by simp),if_neg h200]
end Go.Ev.C
end
section
namespace Go.Ev.C
open Go.Proofs Go.RowKit Go.Fmt
set_option maxRecDepth 100000
set_option linter.unusedSimpArgs false
variable {L:World→Prop} [Yu Q L]
theorem quo_i (n:Nat) (hn:n < 9223372036854775808):X6 Q .quo 2 (.int .i64 (n:Int)) (.int .i64 128) = some (.int .i64 ((n / 128:Nat):Int)):=by
 have e:Int.tdiv (n:Int) 128 = ((n / 128:Nat):Int):=by
  rw [show (128:Int) = ((128:Nat):Int) from rfl,Int.ofNat_tdiv]
 have h0:¬ ((128:Int) = 0):=by decide
 simp only [X6,intOp,h0,if_false,if_true,e]
 rw [Go.Ev.w64 (by omega) (by omega)]
theorem rem_i (n:Nat):X6 Q .rem 2 (.int .i64 (n:Int)) (.int .i64 128) = some (.int .i64 ((n % 128:Nat):Int)):=by
 have e:Int.tmod (n:Int) 128 = ((n % 128:Nat):Int):=by
  rw [show (128:Int) = ((128:Nat):Int) from rfl,Int.ofNat_tmod]
 have h0:¬ ((128:Int) = 0):=by decide
 simp only [X6,intOp,h0,if_false,if_true,e]
theorem gOk_quoI {P:Program} (t:TypeId) (x y:Operand) (a b:AV):YY P .quo t x y a b = true:=rfl
theorem gOk_remI {P:Program} (t:TypeId) (x y:Operand) (a b:AV):YY P .rem t x y a b = true:=rfl
set_option maxHeartbeats 4000000 in
theorem put59_c (H0 H:AH) (hu0:Up H0 H) (v:AV) (s:List Nat) (n:Nat) (ho:X9 H0 H v s) (hn:n < 9223372036854775808) (hs:s.length≤200000000000):Fn Q L 59 [v,.int .i64 (n:Int)] H (fun w H' =>X9 H0 H' w (s ++ Xp n)∧Up H0 H'∧UpB v H H'∧∀b,Xi w = some b→H.next≤b):=by
 refine Fn.intro (en59 _ _) ?_
 have hpl:=Yj 9 n (by omega)
 unfold c59 Tryz.f59
 simp only [Option.getD_some]
 repeat (first|(apply Zh;exact rfl)|apply Zc|apply WO.nil|(apply Zl;exact rfl;simp only [rE,rS,li,lo,reduceIte,Nat.reduceEqDiff,Nat.reduceAdd,Nat.reduceMul,und2];exact rfl;exact rfl))
 refine Ys (fun m t H' =>∃(u:Nat) (v':AV) (x:List Nat),u = m∧Up H0 H'∧X9 H0 H' v' x∧UpB v H H'∧(∀b,Xi v' = some b→H.next≤b ∨ Xi v = some b)∧s ++ Xp n = x ++ Xp u∧u≤n∧t.get 0 = some v'∧t.get 1 = some (.int .i64 (u:Int))) n ?_ ?_
 ·refine⟨n,v,s,rfl,hu0,ho,UpB.of (Up.refl _),fun b e =>.inr e,rfl,Nat.le_refl _,?_,?_⟩
  all_goals simp [Tri.gp,Zn]
 rintro m t H' ⟨u,v',x,rfl,hu,ho',hub,hbl,hsx,hun,t0,t1⟩ ih
 have hone:=ho'.sl.one
 have hsol:=ho'.sl.solid
 have hxl:=congrArg List.length hsx
 simp only [List.length_append] at hxl
 by_cases hg:128≤u
 ·have q1:decide ((128:Int)≤(u:Int)) = true:=decide_eq_true (by omega)
  have hq:=quo_i u (by omega)
  have hr:=rem_i u
  have w8:IntKind.u8.wrap ((u % 128:Nat):Int) = ((u % 128:Nat):Int):=by rw [wr8];omega
  have w9:IntKind.u8.wrap (((u % 128:Nat):Int) + 128) = ((u % 128 + 128:Nat):Int):=by rw [wr8];omega
  have hpu:=lebN_ge hg
  have hps:(Xp u).length = (Xp (u / 128)).length + 1:=by rw [hpu];simp
  obtain⟨w,H2,happ,hw,hu2,hub2,hnw⟩:=ho'.push hu (u % 128 + 128) (by omega)
  repeat (first|(apply Zh;exact rfl)|apply Zc|apply WO.nil|(apply WO.op;(focus (simp only [rQ,Zb,li,lo,reduceIte,Nat.reduceEqDiff,Nat.reduceAdd,beq_self_eq_true,q1];done));simp only [rE,rS,li,lo,reduceIte,Nat.reduceEqDiff,Nat.reduceAdd,Nat.reduceMul,hone,hsol,t0,t1,Y0,und2,und5,gOk_quoI,gOk_remI,bs35y,WU,q1];exact rfl;exact rfl)|(apply WO.unwanted;(focus (simp only [rQ,Zb,li,lo,reduceIte,Nat.reduceEqDiff,Nat.reduceAdd,beq_self_eq_true,q1];done));exact rfl))
  (first|(apply WF.condT;(focus (simp only [Zg,Zd,Tri.gp,Zn,Bool.not_true,Bool.not_false,reduceIte,Nat.reduceEqDiff,q1];done)))|(apply WF.condF;(focus (simp only [Zg,Zd,Tri.gp,Zn,Bool.not_true,Bool.not_false,reduceIte,Nat.reduceEqDiff,q1];done))))
  repeat (first|(apply Zh;exact rfl)|apply Zc|apply WO.nil|(apply Zl;exact rfl;simp only [rE,rS,li,lo,reduceIte,Nat.reduceEqDiff,Nat.reduceAdd,Nat.reduceMul,hone,hsol,t0,t1,Y0,und2,und5,gOk_quoI,gOk_remI,bs35y,WU,hq,hr,w8,w9,happ];exact rfl;exact rfl))
  refine Yt ?_
  refine ih (u / 128) _ _ (by omega) ⟨u / 128,w,x ++ [u % 128 + 128],rfl,hu2,hw,hub.trans hbl hub2,fun b e =>.inl (Nat.le_trans hub.next (hnw b e)),?_,by omega,?_,?_⟩
  ·rw [hsx,hpu]
   simp
  all_goals simp [Tri.gp]
 ·have q1:decide ((128:Int)≤(u:Int)) = false:=decide_eq_false (by omega)
  have wlast:IntKind.u8.wrap (u:Int) = (u:Int):=by rw [wr8];omega
  have hpu:=lebN_lt (n:=u) (by omega)
  obtain⟨w,H2,happ,hw,hu2,hub2,hnw⟩:=ho'.push hu u (by omega)
  repeat (first|(apply Zh;exact rfl)|apply Zc|apply WO.nil|(apply WO.op;(focus (simp only [rQ,Zb,li,lo,reduceIte,Nat.reduceEqDiff,Nat.reduceAdd,beq_self_eq_true,q1];done));simp only [rE,rS,li,lo,reduceIte,Nat.reduceEqDiff,Nat.reduceAdd,Nat.reduceMul,hone,hsol,t0,t1,Y0,und2,und5,gOk_quoI,gOk_remI,bs35y,WU,q1];exact rfl;exact rfl)|(apply WO.unwanted;(focus (simp only [rQ,Zb,li,lo,reduceIte,Nat.reduceEqDiff,Nat.reduceAdd,beq_self_eq_true,q1];done));exact rfl))
  (first|(apply WF.condT;(focus (simp only [Zg,Zd,Tri.gp,Zn,Bool.not_true,Bool.not_false,reduceIte,Nat.reduceEqDiff,q1];done)))|(apply WF.condF;(focus (simp only [Zg,Zd,Tri.gp,Zn,Bool.not_true,Bool.not_false,reduceIte,Nat.reduceEqDiff,q1];done))))
  repeat (first|(apply Zh;exact rfl)|apply Zc|apply WO.nil|(apply Zl;exact rfl;simp only [rE,rS,li,lo,reduceIte,Nat.reduceEqDiff,Nat.reduceAdd,Nat.reduceMul,hone,hsol,t0,t1,Y0,und2,und5,gOk_quoI,gOk_remI,bs35y,WU,wlast,happ];exact rfl;exact rfl))
  (apply WF.ret;(focus (simp only [Zi,Tri.gp,Zn,ZL,reduceIte,Nat.reduceEqDiff,rs59];exact rfl)))
  rw [hsx,hpu]
  exact⟨hw,hu2,hub.trans hbl hub2,fun b e =>Nat.le_trans hub.next (hnw b e)⟩
end Go.Ev.C
end
section
namespace Go.Ev.C
open Go.Proofs Go.RowKit Go.Fmt
set_option maxRecDepth 100000
set_option linter.unusedSimpArgs false
variable {L:World→Prop} [Yu Q L]
theorem zero53:Wi Q 53 = some (.agg [.nilslice,.int .i64 0]):=by kernel_rfl
theorem bu53e (z:Int):Wg Q 53 [(1,.int .i64 z)] = some (.agg [.nilslice,.int .i64 z]):=by kernel_rfl
theorem bu53v {v:AV} {n:Nat} (h:SL v n):Wg Q 53 [(0,v)] = some (.agg [v,.int .i64 0]):=by cases h <;> kernel_rfl
theorem cut2v {v:AV} {z:Int} (h:ZO v = true):cut [v,.int .i64 z] 0 2 = some [v,.int .i64 z]:=YN rfl (by simp [h,Wm])
def errE (l:List XC):Int:=if (l.any fun d =>!d.ok) then 260 else if l.length > 200 then 2 else 0
theorem cntL_err (l:List XC):∃a b,cntL l = [.int .i64 a,.int .i64 b,.int .i64 (errE l)]:=by
 unfold cntL errE
 split
 ·exact⟨0,0,rfl⟩
 ·split
  ·exact⟨0,0,rfl⟩
  ·exact⟨nS l,dS l,rfl⟩
theorem errE_ok {ps:List YT} (h:pokL ps):errE (ps.map ofB) = 0:=by
 have:(ps.map ofB).any (fun d =>!d.ok) = false:=by
  rw [List.any_eq_false]
  intro d hd
  obtain⟨y,hy,rfl⟩:=List.mem_map.1 hd
  rw [ofB_ok (h.2 y hy)]
  simp
 have h1:=h.1
 unfold errE
 rw [this,if_neg (by simp),List.length_map,if_neg (by omega)]
theorem Up.boxes3 (H:AH) (x y z:Option AB):Up H ⟨((H.t.put H.next x).put (H.next + 1) y).put (H.next + 1) z,H.next + 1 + 1⟩ :=
 ⟨by show H.next≤H.next + 1 + 1;omega,fun b hb =>by show (((Tri.put _ _ _).put _ _).put _ _).get _ = _;rw [Tri.gp,if_neg (by omega),Tri.gp,if_neg (by omega),Tri.gp,if_neg (by omega)]⟩
theorem X9.put {H0 H:AH} {v:AV} {s:List Nat} {p:Nat} {o:Option AB} (h:X9 H0 H v s) (hp:p < H0.next):X9 H0 ⟨H.t.put p o,H.next⟩ v s:=by
 rcases h with h | ⟨hne,b,cap,h1,h2,h3,h4,h5⟩
 ·exact .inl h
 ·exact .inr ⟨hne,b,cap,h1,h2,h3,h4,by show (Tri.put _ _ _).get _ = _;rw [Tri.gp,if_neg (by omega)];exact h5⟩
theorem Up.put {H H1 H2:AH} (u:Up H H1) (u':Up H1 H2) {p:Nat} (hp:H.next≤p) {o:Option AB}:Up H ⟨H2.t.put p o,H2.next⟩ :=
 ⟨Nat.le_trans u.next u'.next,fun b hb =>by show (Tri.put _ _ _).get _ = _;rw [Tri.gp,if_neg (by omega)];exact (u.trans u').old b hb⟩
theorem st56 {H:AH} {b:Nat} {a0 b0 e0:Int} (hg:H.t.get b = some (.cells 56 [.int .i64 a0,.int .i64 b0,.int .i64 e0] 0 false false)) (x y z:Int):Zr Q 56 b 0 (.agg [.int .i64 x,.int .i64 y,.int .i64 z]) H = some ⟨H.t.put b (some (.cells 56 [.int .i64 x,.int .i64 y,.int .i64 z] 0 false false)),H.next⟩ :=
 Z7 (x:=[.int .i64 x,.int .i64 y,.int .i64 z]) hg sz56 rfl rfl rfl (Nat.le_refl _)
theorem st53 {H:AH} {b:Nat} {u v:AV} {z z0:Int} (hv:Yn v = true) (hg:H.t.get b = some (.cells 53 [u,.int .i64 z0] 0 false false)):Zr Q 53 b 0 (.agg [v,.int .i64 z]) H = some ⟨H.t.put b (some (.cells 53 [v,.int .i64 z] 0 false false)),H.next⟩ :=
 Z7 (x:=[v,.int .i64 z]) hg sz53 rfl rfl (by simp [hv];rfl) (Nat.le_refl _)
set_option maxHeartbeats 4000000 in
theorem encode21_n (H:AH) (bv:AV) (l:List XC) (hr:YI H bv l) (hsm:l.length≤2000000) (he:errE l ≠ 0) :
  Fn Q L 21 [bv] H (fun w H' =>w = .agg [.nilslice,.int .i64 (errE l)]∧Up H H'):=by
 refine Fn.intro (en21 _) ?_
 obtain⟨a,b,hcnt⟩:=cntL_err l
 have u1:Up H ⟨H.t.put H.next (some (.cells 53 [.nilslice,.int .i64 0] 0 false false)),H.next + 1⟩:=Up.box H _
 have hcc:=count22_c (L:=L) _ bv l (hr.up u1) (by omega) hsm
 rw [hcnt] at hcc
 generalize errE l = e at *
 have q1:decide (e = 0) = false:=decide_eq_false he
 have hstA:=st56 (H:=⟨(H.t.put H.next (some (.cells 53 [.nilslice,.int .i64 0] 0 false false))).put (H.next + 1) (some (.cells 56 [.int .i64 0,.int .i64 0,.int .i64 0] 0 false false)),H.next + 1 + 1⟩) (b:=H.next + 1) (by show (Tri.put _ _ _).get _ = _;rw [Tri.gp,if_pos rfl]) a b e
 have hcA:AH.cellsAt ⟨((H.t.put H.next (some (.cells 53 [.nilslice,.int .i64 0] 0 false false))).put (H.next + 1) (some (.cells 56 [.int .i64 0,.int .i64 0,.int .i64 0] 0 false false))).put (H.next + 1) (some (.cells 56 [.int .i64 a,.int .i64 b,.int .i64 e] 0 false false)),H.next + 1 + 1⟩ (H.next + 1) = some [.int .i64 a,.int .i64 b,.int .i64 e]:=by rw [ZK,if_pos rfl]
 have hst:=st53 (H:=⟨((H.t.put H.next (some (.cells 53 [.nilslice,.int .i64 0] 0 false false))).put (H.next + 1) (some (.cells 56 [.int .i64 0,.int .i64 0,.int .i64 0] 0 false false))).put (H.next + 1) (some (.cells 56 [.int .i64 a,.int .i64 b,.int .i64 e] 0 false false)),H.next + 1 + 1⟩) (b:=H.next) (v:=.nilslice) (z:=e) rfl (by show ((Tri.put _ _ _).put _ _).get _ = _;rw [Tri.gp,if_neg (by omega),Tri.gp,if_neg (by omega),Tri.gp,if_pos rfl])
 unfold c21 Tryz.f21
 simp only [Option.getD_some]
 repeat (first|(apply Zh;exact rfl)|apply Zc|apply WO.nil|(apply Zl;exact rfl;simp only [rE,rQ,li,lo,reduceIte,Nat.reduceEqDiff,Nat.reduceAdd,Nat.reduceMul,AH.set,zero53,sz53,zero56,sz56,cu22,fa56_2,Za agg26,Zs,bu53e,hstA,hst,hcA];exact rfl;exact rfl))
 (apply WO.call;(focus (simp only [rQ,Zb,li,lo,reduceIte,Nat.reduceEqDiff,Nat.reduceAdd,beq_self_eq_true];done));simp only [rE,rQ,li,lo,reduceIte,Nat.reduceEqDiff,Nat.reduceAdd,Nat.reduceMul,AH.set,zero53,sz53,zero56,sz56,cu22,fa56_2,Za agg26,Zs,bu53e,hstA,hst,hcA];exact rfl;exact hcc;rintro _ H1 ⟨rfl,rfl⟩;refine⟨_,rfl,?_⟩)
 repeat (first|(apply Zh;exact rfl)|apply Zc|apply WO.nil|(apply Zl;exact rfl;simp only [rE,rQ,li,lo,reduceIte,Nat.reduceEqDiff,Nat.reduceAdd,Nat.reduceMul,AH.set,zero53,sz53,zero56,sz56,cu22,fa56_2,Za agg26,Zs,bu53e,hstA,hst,hcA];exact rfl;exact rfl))
 repeat (first|(apply Zh;exact rfl)|apply Zc|apply WO.nil|(apply WO.op;(focus (simp only [rQ,Zb,li,lo,reduceIte,Nat.reduceEqDiff,Nat.reduceAdd,beq_self_eq_true,q1];done));simp only [rE,rQ,li,lo,reduceIte,Nat.reduceEqDiff,Nat.reduceAdd,Nat.reduceMul,AH.set,zero53,sz53,zero56,sz56,cu22,fa56_2,Za agg26,Zs,bu53e,hstA,hst,hcA,q1];exact rfl;exact rfl)|(apply WO.unwanted;(focus (simp only [rQ,Zb,li,lo,reduceIte,Nat.reduceEqDiff,Nat.reduceAdd,beq_self_eq_true,q1];done));exact rfl))
 (first|(apply WF.condT;(focus (simp only [Zg,Zd,Tri.gp,Zn,Bool.not_true,Bool.not_false,reduceIte,Nat.reduceEqDiff,q1];done)))|(apply WF.condF;(focus (simp only [Zg,Zd,Tri.gp,Zn,Bool.not_true,Bool.not_false,reduceIte,Nat.reduceEqDiff,q1];done))))
 repeat (first|(apply Zh;exact rfl)|apply Zc|apply WO.nil|(apply Zl;exact rfl;simp only [rE,rQ,li,lo,reduceIte,Nat.reduceEqDiff,Nat.reduceAdd,Nat.reduceMul,AH.set,zero53,sz53,zero56,sz56,cu22,fa56_2,Za agg26,Zs,bu53e,hstA,hst,hcA];exact rfl;exact rfl))
 (apply WF.ret;(focus (simp only [Zi,Tri.gp,Zn,ZL,reduceIte,Nat.reduceEqDiff,rs21,Ze agg53 sz53,ZK,cut2v,Option.map_some];exact rfl)))
 refine⟨rfl,?_⟩
 exact⟨by show H.next≤H.next + 1 + 1;omega,fun x hx =>by show ((((Tri.put _ _ _).put _ _).put _ _).put _ _).get _ = _;rw [Tri.gp,if_neg (by omega),Tri.gp,if_neg (by omega),Tri.gp,if_neg (by omega),Tri.gp,if_neg (by omega)]⟩
set_option maxHeartbeats 16000000 in
theorem encode21_c (H:AH) (bv:AV) (ps:List YT) (hr:YI H bv (ps.map ofB)) (hok:pokL ps) :
  Fn Q L 21 [bv] H (fun w H' =>∃v,w = .agg [v,.int .i64 0]∧(∃H0,Up H H0∧X9 H0 H' v (WB ps))∧Up H H'):=by
 refine Fn.intro (en21 _) ?_
 have hs:=hr.1
 rw [List.length_map] at hs
 have hl200:=hok.1
 have hel:=enc_len hok
 obtain⟨a,b,hcnt⟩:=cntL_err (ps.map ofB)
 rw [errE_ok hok] at hcnt
 have u1:Up H ⟨H.t.put H.next (some (.cells 53 [.nilslice,.int .i64 0] 0 false false)),H.next + 1⟩:=Up.box H _
 have hcc:=count22_c (L:=L) _ bv (ps.map ofB) (hr.up u1) (by rw [List.length_map];omega) (by rw [List.length_map];omega)
 rw [hcnt] at hcc
 have q1:decide ((0:Int) = 0) = true:=rfl
 have hstA:=st56 (H:=⟨(H.t.put H.next (some (.cells 53 [.nilslice,.int .i64 0] 0 false false))).put (H.next + 1) (some (.cells 56 [.int .i64 0,.int .i64 0,.int .i64 0] 0 false false)),H.next + 1 + 1⟩) (b:=H.next + 1) (by show (Tri.put _ _ _).get _ = _;rw [Tri.gp,if_pos rfl]) a b 0
 have hcA:AH.cellsAt ⟨((H.t.put H.next (some (.cells 53 [.nilslice,.int .i64 0] 0 false false))).put (H.next + 1) (some (.cells 56 [.int .i64 0,.int .i64 0,.int .i64 0] 0 false false))).put (H.next + 1) (some (.cells 56 [.int .i64 a,.int .i64 b,.int .i64 0] 0 false false)),H.next + 1 + 1⟩ (H.next + 1) = some [.int .i64 a,.int .i64 b,.int .i64 0]:=by rw [ZK,if_pos rfl]
 have hst:∀z:Nat,z = 0→True:=fun _ _ =>trivial
 unfold c21 Tryz.f21
 simp only [Option.getD_some]
 repeat (first|(apply Zh;exact rfl)|apply Zc|apply WO.nil|(apply Zl;exact rfl;simp only [rE,rQ,li,lo,reduceIte,Nat.reduceEqDiff,Nat.reduceAdd,Nat.reduceMul,AH.set,zero53,sz53,zero56,sz56,cu22,fa56_2,Za agg26,Zs,bu53e,hstA,hst,hcA];exact rfl;exact rfl))
 (apply WO.call;(focus (simp only [rQ,Zb,li,lo,reduceIte,Nat.reduceEqDiff,Nat.reduceAdd,beq_self_eq_true];done));simp only [rE,rQ,li,lo,reduceIte,Nat.reduceEqDiff,Nat.reduceAdd,Nat.reduceMul,AH.set,zero53,sz53,zero56,sz56,cu22,fa56_2,Za agg26,Zs,bu53e,hstA,hst,hcA];exact rfl;exact hcc;rintro _ H1 ⟨rfl,rfl⟩;refine⟨_,rfl,?_⟩)
 repeat (first|(apply Zh;exact rfl)|apply Zc|apply WO.nil|(apply Zl;exact rfl;simp only [rE,rQ,li,lo,reduceIte,Nat.reduceEqDiff,Nat.reduceAdd,Nat.reduceMul,AH.set,zero53,sz53,zero56,sz56,cu22,fa56_2,Za agg26,Zs,bu53e,hstA,hst,hcA];exact rfl;exact rfl))
 repeat (first|(apply Zh;exact rfl)|apply Zc|apply WO.nil|(apply WO.op;(focus (simp only [rQ,Zb,li,lo,reduceIte,Nat.reduceEqDiff,Nat.reduceAdd,beq_self_eq_true,q1];done));simp only [rE,rQ,li,lo,reduceIte,Nat.reduceEqDiff,Nat.reduceAdd,Nat.reduceMul,AH.set,zero53,sz53,zero56,sz56,cu22,fa56_2,Za agg26,Zs,bu53e,hstA,hst,hcA,q1];exact rfl;exact rfl)|(apply WO.unwanted;(focus (simp only [rQ,Zb,li,lo,reduceIte,Nat.reduceEqDiff,Nat.reduceAdd,beq_self_eq_true,q1];done));exact rfl))
 (first|(apply WF.condT;(focus (simp only [Zg,Zd,Tri.gp,Zn,Bool.not_true,Bool.not_false,reduceIte,Nat.reduceEqDiff,q1];done)))|(apply WF.condF;(focus (simp only [Zg,Zd,Tri.gp,Zn,Bool.not_true,Bool.not_false,reduceIte,Nat.reduceEqDiff,q1];done))))
 have uB:Up H ⟨((H.t.put H.next (some (.cells 53 [.nilslice,.int .i64 0] 0 false false))).put (H.next + 1) (some (.cells 56 [.int .i64 0,.int .i64 0,.int .i64 0] 0 false false))).put (H.next + 1) (some (.cells 56 [.int .i64 a,.int .i64 b,.int .i64 0] 0 false false)),H.next + 1 + 1⟩:=Up.boxes3 H _ _ _
 have gB:(AH.mk (((H.t.put H.next (some (.cells 53 [.nilslice,.int .i64 0] 0 false false))).put (H.next + 1) (some (.cells 56 [.int .i64 0,.int .i64 0,.int .i64 0] 0 false false))).put (H.next + 1) (some (.cells 56 [.int .i64 a,.int .i64 b,.int .i64 0] 0 false false))) (H.next + 1 + 1)).t.get H.next = some (.cells 53 [.nilslice,.int .i64 0] 0 false false):=by show (((Tri.put _ _ _).put _ _).put _ _).get _ = _;rw [Tri.gp,if_neg (by omega),Tri.gp,if_neg (by omega),Tri.gp,if_pos rfl]
 have nB:H.next < (AH.mk (((H.t.put H.next (some (.cells 53 [.nilslice,.int .i64 0] 0 false false))).put (H.next + 1) (some (.cells 56 [.int .i64 0,.int .i64 0,.int .i64 0] 0 false false))).put (H.next + 1) (some (.cells 56 [.int .i64 a,.int .i64 b,.int .i64 0] 0 false false))) (H.next + 1 + 1)).next:=by show H.next < H.next + 1 + 1;omega
 generalize (⟨((H.t.put H.next (some (.cells 53 [.nilslice,.int .i64 0] 0 false false))).put (H.next + 1) (some (.cells 56 [.int .i64 0,.int .i64 0,.int .i64 0] 0 false false))).put (H.next + 1) (some (.cells 56 [.int .i64 a,.int .i64 b,.int .i64 0] 0 false false)),H.next + 1 + 1⟩:AH) = HB at *
 clear hcA hstA hst hcc
 have hrB:=hr.up uB
 have ho0:X9 HB ⟨HB.t.put HB.next (some (.cells 5 (Xw [84,66,65,84]) 0 false false)),HB.next + 1⟩ (.slice HB.next 0 4 (.is 4)) [84,66,65,84] :=
  .inr ⟨by simp,HB.next,.is 4,rfl,.inr rfl,Nat.le_refl _,Nat.lt_succ_self _,by show (Tri.put _ _ _).get _ = _;rw [Tri.gp,if_pos rfl]⟩
 repeat (first|(apply Zh;exact rfl)|apply Zc|apply WO.nil|(apply Zl;exact rfl;simp only [rE,rS,li,lo,reduceIte,Nat.reduceEqDiff,Nat.reduceAdd,Nat.reduceMul,Zj,Zf Zj hs,bs35k,YS];exact rfl;exact rfl))
 (apply WO.call;(focus (simp only [rQ,Zb,li,lo,reduceIte,Nat.reduceEqDiff,Nat.reduceAdd,beq_self_eq_true];done));simp only [rE,rS,li,lo,reduceIte,Nat.reduceEqDiff,Nat.reduceAdd,Nat.reduceMul,Zj,YS];exact rfl;exact put59_c HB _ (Up.box _ _) _ _ ps.length ho0 (by omega) (by simp);rintro v1 H1 ⟨ho1,hu1,_,_⟩;refine⟨_,rfl,?_⟩)
 repeat (first | (apply Zh;exact rfl) | apply Zc | apply WO.nil | (apply Zl;exact rfl;simp only [rE,rS,li,lo,reduceIte,Nat.reduceEqDiff,Nat.reduceAdd,Nat.reduceMul];exact rfl;exact rfl))
 refine Ys (fun m t H' =>∃(i:Nat) (v:AV) (s:List Nat),Up HB H'∧i + m = ps.length∧X9 HB H' v s∧WB ps = s ++ XE (ps.drop i)∧t.get 0 = some bv∧t.get 2 = some (.ptr H.next 0)∧t.get 4 = some v∧t.get 5 = some (.int .i64 (i:Int))) ps.length ?_ ?_
 ·refine⟨0,v1,_,hu1,by omega,ho1,?_,?_,?_,?_,?_⟩
  ·unfold WB encL
   simp
  all_goals simp [Tri.gp,Zn]
 rintro m t H' ⟨i,v,s,hu,him,ho,hse,t0,t2,t4,t5⟩ ih
 by_cases hi:i < ps.length
 rotate_left
 ·have hil:i = ps.length:=by omega
  subst hil
  have hlt:decide ((ps.length:Int) < (ps.length:Int)) = false:=by simp
  rw [List.drop_length,XE,List.append_nil] at hse
  have hone:=ho.sl.one
  have hsol:=ho.sl.solid
  have hbv:=bu53v ho.sl
  have hst:=st53 (H:=H') (b:=H.next) (z:=0) hone (by rw [hu.old _ nB];exact gB)
  repeat (first|(apply Zh;exact rfl)|apply Zc|apply WO.nil|(apply WO.op;(focus (simp only [rQ,Zb,li,lo,reduceIte,Nat.reduceEqDiff,Nat.reduceAdd,beq_self_eq_true,hlt];done));simp only [rE,rS,li,lo,reduceIte,Nat.reduceEqDiff,Nat.reduceAdd,Nat.reduceMul,t0,t2,t4,t5,Zj,Zf Zj hs,hlt];exact rfl;exact rfl)|(apply WO.unwanted;(focus (simp only [rQ,Zb,li,lo,reduceIte,Nat.reduceEqDiff,Nat.reduceAdd,beq_self_eq_true,hlt];done));exact rfl))
  (first|(apply WF.condT;(focus (simp only [Zg,Zd,Tri.gp,Zn,Bool.not_true,Bool.not_false,reduceIte,Nat.reduceEqDiff,hlt];done)))|(apply WF.condF;(focus (simp only [Zg,Zd,Tri.gp,Zn,Bool.not_true,Bool.not_false,reduceIte,Nat.reduceEqDiff,hlt];done))))
  repeat (first|(apply Zh;exact rfl)|apply Zc|apply WO.nil|(apply Zl;exact rfl;simp only [rE,rQ,li,lo,reduceIte,Nat.reduceEqDiff,Nat.reduceAdd,Nat.reduceMul,AH.set,t0,t2,t4,t5,Zs,hbv,hst];exact rfl;exact rfl))
  (apply WF.ret;(focus (simp only [Zi,Tri.gp,Zn,ZL,reduceIte,Nat.reduceEqDiff,rs21,Ze agg53 sz53,ZK,cut2v,Option.map_some,t2,hsol];exact rfl)))
  rw [← hse] at ho
  exact⟨v,rfl,⟨HB,uB,ho.put nB⟩,Up.put uB hu (Nat.le_refl _)⟩
 have hlt:decide ((i:Int) < (ps.length:Int)) = true:=by simp;omega
 have wi:IntKind.i64.wrap ((i:Int) + 1) = ((i + 1:Nat):Int):=by rw [Go.Ev.w64 (by omega) (by omega)];omega
 have hi2:i < (ps.map ofB).length:=by rw [List.length_map];exact hi
 obtain⟨b,off,cap,c,rv,hbv,hb0,hc,hd,hdl,hcut⟩:=hrB.at hi2
 have hb:b < H'.next:=Nat.lt_of_lt_of_le hb0 hu.next
 have hcx:∀{HX:AH},Up HB HX→HX.cellsAt b = some c:=fun u =>by rw [u.cellsAt hb0];exact hc
 rw [← hu.cellsAt hb0] at hc
 have hgx:(ps.map ofB)[i] = ofB ps[i]:=by simp
 rw [hgx] at hd hcut
 have hokx:=hok.2 _ (List.getElem_mem hi)
 have hdrop:=encBs_drop hi
 generalize ps[i] = x at *
 obtain⟨k1',k2',k3',k4',k5'⟩:=hokx
 have hxl:=encRs_len k5'
 have hsl:=congrArg List.length hse
 rw [hdrop] at hsl
 unfold encB at hsl
 simp only [List.length_append] at hsl
 have hrs:=hd.1
 have hone:=hrs.one
 have hsol:=hrs.solid
 subst hbv
 unfold ofB at hcut hd hrs
 dsimp only at hcut hd hrs hone hsol
 rw [List.length_map] at hrs
 obtain⟨cpu,dr,ah,recs⟩:=x
 dsimp only at *
 obtain⟨_,hcat⟩:=Yg.1 hcut
 obtain⟨z0,y0,_,y0'⟩:=hcat 0 (by omega)
 obtain⟨z1,y1,_,y1'⟩:=hcat 1 (by omega)
 obtain⟨z2,y2,_,y2'⟩:=hcat 2 (by omega)
 obtain⟨z3,y3,_,y3'⟩:=hcat 3 (by omega)
 cases y0'
 cases y1'
 cases y2'
 cases y3'
 rw [Nat.add_zero] at y0
 repeat (first|(apply Zh;exact rfl)|apply Zc|apply WO.nil|(apply WO.op;(focus (simp only [rQ,Zb,li,lo,reduceIte,Nat.reduceEqDiff,Nat.reduceAdd,beq_self_eq_true,hlt];done));simp only [rE,rS,li,lo,reduceIte,Nat.reduceEqDiff,Nat.reduceAdd,Nat.reduceMul,hrs.beq,Zj,t0,t4,t5,ZJ,Zp,Zy,ZP,Za Zu,Za ZE,Za Zw,YS,Zf Zj hs,Zt Zj Zv hi2,Zk,hone,hsol,Zf Zk hrs,hlt];exact rfl;exact rfl)|(apply WO.unwanted;(focus (simp only [rQ,Zb,li,lo,reduceIte,Nat.reduceEqDiff,Nat.reduceAdd,beq_self_eq_true,hlt];done));exact rfl))
 (first|(apply WF.condT;(focus (simp only [Zg,Zd,Tri.gp,Zn,Bool.not_true,Bool.not_false,reduceIte,Nat.reduceEqDiff,hlt];done)))|(apply WF.condF;(focus (simp only [Zg,Zd,Tri.gp,Zn,Bool.not_true,Bool.not_false,reduceIte,Nat.reduceEqDiff,hlt];done))))
 repeat (first|(apply Zh;exact rfl)|apply Zc|apply WO.nil|(apply WO.op;(focus (simp only [rQ,Zb,li,lo,reduceIte,Nat.reduceEqDiff,Nat.reduceAdd,beq_self_eq_true,hlt];done));simp only [rE,rS,li,lo,reduceIte,Nat.reduceEqDiff,Nat.reduceAdd,Nat.reduceMul,hrs.beq,Zj,t0,t4,t5,ZJ,Zp,Zy,ZP,Za Zu,Za ZE,Za Zw,YS,Zf Zj hs,Zt Zj Zv hi2,Zk,hone,hsol,Zf Zk hrs,hlt,hc,y3];exact rfl;exact rfl)|(apply WO.unwanted;(focus (simp only [rQ,Zb,li,lo,reduceIte,Nat.reduceEqDiff,Nat.reduceAdd,beq_self_eq_true,hlt];done));exact rfl))
 have a1:=Yj 9 cpu (by omega)
 have a2:=Yj 9 dr (by omega)
 have a3:=Yj 9 ah (by omega)
 have a4:=Yj 9 recs.length (by omega)
 refine WF.cutI (fun t2' HH =>HH = H'∧t2'.get 0 = t.get 0∧t2'.get 2 = t.get 2∧t2'.get 4 = t.get 4∧t2'.get 5 = t.get 5∧t2'.get 6 = some (.int .i64 (ah:Int))) ?_ ?_
 rotate_left
 ·intro tail
  have hah:ah = 0 ∨ ah = 1:=by omega
  rcases hah with rfl | rfl
  ·have q1:decide ((0:Nat) = 1) = false:=rfl
   (first|(apply WF.condT;(focus (simp only [Zg,Zd,Tri.gp,Zn,Bool.not_true,Bool.not_false,reduceIte,Nat.reduceEqDiff,q1,decide_true,decide_false];done)))|(apply WF.condF;(focus (simp only [Zg,Zd,Tri.gp,Zn,Bool.not_true,Bool.not_false,reduceIte,Nat.reduceEqDiff,q1,decide_true,decide_false];done))))
   iterate 1 (first|(apply Zh;exact rfl)|apply Zc|apply WO.nil|(apply Zl;exact rfl;simp only [rE,rS,li,lo,reduceIte,Nat.reduceEqDiff,Nat.reduceAdd,Nat.reduceMul,t4];exact rfl;exact rfl))
   exact tail _ _ ⟨rfl,by simp [Tri.gp],by simp [Tri.gp],by simp [Tri.gp],by simp [Tri.gp],by simp [Tri.gp]⟩
  ·have q1:decide ((1:Nat) = 1) = true:=rfl
   (first|(apply WF.condT;(focus (simp only [Zg,Zd,Tri.gp,Zn,Bool.not_true,Bool.not_false,reduceIte,Nat.reduceEqDiff,q1,decide_true,decide_false];done)))|(apply WF.condF;(focus (simp only [Zg,Zd,Tri.gp,Zn,Bool.not_true,Bool.not_false,reduceIte,Nat.reduceEqDiff,q1,decide_true,decide_false];done))))
   iterate 3 (first|(apply Zh;exact rfl)|apply Zc|apply WO.nil|(apply Zl;exact rfl;simp only [rE,rS,li,lo,reduceIte,Nat.reduceEqDiff,Nat.reduceAdd,Nat.reduceMul,t4];exact rfl;exact rfl))
   exact tail _ _ ⟨rfl,by simp [Tri.gp],by simp [Tri.gp],by simp [Tri.gp],by simp [Tri.gp],by simp [Tri.gp]⟩
 rintro tt HH ⟨rfl,u0,u2,u4,u5,u6⟩
 rw [t0] at u0
 rw [t2] at u2
 rw [t4] at u4
 rw [t5] at u5
 clear t0 t2 t4 t5
 rename_i _
 have t0:=u0
 have t4:=u4
 have t5:=u5
 iterate 1 (first|(apply Zh;exact rfl)|apply Zc|apply WO.nil|(apply Zl;exact rfl;simp only [rE,rS,li,lo,reduceIte,Nat.reduceEqDiff,Nat.reduceAdd,Nat.reduceMul,t4];exact rfl;exact rfl))
 (apply Yw;kernel_rfl;kernel_rfl)
 (refine Zq ?_;(iterate 6 (first|(apply ZW.pure;kernel_rfl;kernel_rfl;(focus ((simp only [rQ,Zb,li,lo,reduceIte,Nat.reduceEqDiff,Nat.reduceAdd,beq_self_eq_true];done)));simp only [rE,rS,li,lo,reduceIte,Nat.reduceEqDiff,Nat.reduceAdd,Nat.reduceMul,hrs.beq,Zj,t0,t4,t5,ZJ,Zp,Zy,ZP,Za Zu,Za ZE,Za Zw,YS,Zf Zj hs,Zt Zj Zv hi2,Zk,hone,hsol,Zf Zk hrs,u6,hc,y0,y2,y1];exact rfl;exact rfl)|(apply ZW.load;kernel_rfl;kernel_rfl;(focus ((simp only [rQ,Zb,li,lo,reduceIte,Nat.reduceEqDiff,Nat.reduceAdd,beq_self_eq_true];done)));simp only [rE,rS,li,lo,reduceIte,Nat.reduceEqDiff,Nat.reduceAdd,Nat.reduceMul,hrs.beq,Zj,t0,t4,t5,ZJ,Zp,Zy,ZP,Za Zu,Za ZE,Za Zw,YS,Zf Zj hs,Zt Zj Zv hi2,Zk,hone,hsol,Zf Zk hrs,u6,hc,y0,y2,y1];exact rfl;exact rfl)));(iterate 1 (apply ZW.later;kernel_rfl));(iterate 5 (first|(apply ZW.pure;kernel_rfl;kernel_rfl;(focus ((simp only [rQ,Zb,li,lo,reduceIte,Nat.reduceEqDiff,Nat.reduceAdd,beq_self_eq_true];done)));simp only [rE,rS,li,lo,reduceIte,Nat.reduceEqDiff,Nat.reduceAdd,Nat.reduceMul,hrs.beq,Zj,t0,t4,t5,ZJ,Zp,Zy,ZP,Za Zu,Za ZE,Za Zw,YS,Zf Zj hs,Zt Zj Zv hi2,Zk,hone,hsol,Zf Zk hrs,u6,hc,y0,y2,y1];exact rfl;exact rfl)|(apply ZW.load;kernel_rfl;kernel_rfl;(focus ((simp only [rQ,Zb,li,lo,reduceIte,Nat.reduceEqDiff,Nat.reduceAdd,beq_self_eq_true];done)));simp only [rE,rS,li,lo,reduceIte,Nat.reduceEqDiff,Nat.reduceAdd,Nat.reduceMul,hrs.beq,Zj,t0,t4,t5,ZJ,Zp,Zy,ZP,Za Zu,Za ZE,Za Zw,YS,Zf Zj hs,Zt Zj Zv hi2,Zk,hone,hsol,Zf Zk hrs,u6,hc,y0,y2,y1];exact rfl;exact rfl)));(iterate 1 (apply ZW.later;kernel_rfl));(iterate 1 (apply ZW.pure;kernel_rfl;kernel_rfl;(focus ((simp only [rQ,Zb,li,lo,reduceIte,Nat.reduceEqDiff,Nat.reduceAdd,beq_self_eq_true];done)));simp only [rE,rS,li,lo,reduceIte,Nat.reduceEqDiff,Nat.reduceAdd,Nat.reduceMul,hrs.beq,Zj,t0,t4,t5,ZJ,Zp,Zy,ZP,Za Zu,Za ZE,Za Zw,YS,Zf Zj hs,Zt Zj Zv hi2,Zk,hone,hsol,Zf Zk hrs,u6,hc,y0,y2,y1];exact rfl;exact rfl));(iterate 1 (apply ZW.later;kernel_rfl));(iterate 6 (first|(apply ZW.pure;kernel_rfl;kernel_rfl;(focus ((simp only [rQ,Zb,li,lo,reduceIte,Nat.reduceEqDiff,Nat.reduceAdd,beq_self_eq_true];done)));simp only [rE,rS,li,lo,reduceIte,Nat.reduceEqDiff,Nat.reduceAdd,Nat.reduceMul,hrs.beq,Zj,t0,t4,t5,ZJ,Zp,Zy,ZP,Za Zu,Za ZE,Za Zw,YS,Zf Zj hs,Zt Zj Zv hi2,Zk,hone,hsol,Zf Zk hrs,u6,hc,y0,y2,y1];exact rfl;exact rfl)|(apply ZW.load;kernel_rfl;kernel_rfl;(focus ((simp only [rQ,Zb,li,lo,reduceIte,Nat.reduceEqDiff,Nat.reduceAdd,beq_self_eq_true];done)));simp only [rE,rS,li,lo,reduceIte,Nat.reduceEqDiff,Nat.reduceAdd,Nat.reduceMul,hrs.beq,Zj,t0,t4,t5,ZJ,Zp,Zy,ZP,Za Zu,Za ZE,Za Zw,YS,Zf Zj hs,Zt Zj Zv hi2,Zk,hone,hsol,Zf Zk hrs,u6,hc,y0,y2,y1];exact rfl;exact rfl)));(iterate 2 (apply ZW.later;kernel_rfl));refine ZW.nil ?_)
 (apply ZY.call (e:=6);kernel_rfl;simp only [li];exact rfl;(focus (simp only [rQ,Zb,li,lo,reduceIte,Nat.reduceEqDiff,Nat.reduceAdd,beq_self_eq_true];done));simp only [rE,rS,li,lo,reduceIte,Nat.reduceEqDiff,Nat.reduceAdd,Nat.reduceMul,hrs.beq,Zj,t0,t4,t5,ZJ,Zp,Zy,ZP,Za Zu,Za ZE,Za Zw,YS,Zf Zj hs,Zt Zj Zv hi2,Zk,hone,hsol,Zf Zk hrs,u6,hc,y0,y2,y1];exact rfl;exact put59_c HB HH hu v s cpu ho (by omega) (by omega);rintro v1 H1 ⟨ho1,hu1,hb1,hn1⟩;refine⟨_,rfl,?_,?_⟩;(focus (apply Yf (R:=[11,19]);kernel_rfl;(apply Xt.cons;simp only [li];exact rfl;(focus (simp only [rQ,Zb,li,lo,reduceIte,Nat.reduceEqDiff,Nat.reduceAdd,beq_self_eq_true];done));simp only [rE,rS,li,lo,reduceIte,Nat.reduceEqDiff,Nat.reduceAdd,Nat.reduceMul,hrs.beq,Zj,t0,t4,t5,ZJ,Zp,Zy,ZP,Za Zu,Za ZE,Za Zw,YS,Zf Zj hs,Zt Zj Zv hi2,Zk,hone,hsol,Zf Zk hrs,u6,hcx hu1,y0,y2,y1];exact rfl;exact rfl;(focus (simp only [Tri.gp,Zn,reduceIte,Nat.reduceEqDiff,hrs.beq,Zj,t0,t4,t5,ZJ,Zp,Zy,ZP,Za Zu,Za ZE,Za Zw,YS,Zf Zj hs,Zt Zj Zv hi2,Zk,hone,hsol,Zf Zk hrs,u6,hcx hu1,y0,y2,y1];exact rfl));(focus (simp [AV.beq,Ym,hrs.beq,Zj,t0,t4,t5,ZJ,Zp,Zy,ZP,Za Zu,Za ZE,Za Zw,YS,Zf Zj hs,Zt Zj Zv hi2,Zk,hone,hsol,Zf Zk hrs,u6,hcx hu1,y0,y2,y1];done)));(apply Xt.cons;simp only [li];exact rfl;(focus (simp only [rQ,Zb,li,lo,reduceIte,Nat.reduceEqDiff,Nat.reduceAdd,beq_self_eq_true];done));simp only [rE,rS,li,lo,reduceIte,Nat.reduceEqDiff,Nat.reduceAdd,Nat.reduceMul,hrs.beq,Zj,t0,t4,t5,ZJ,Zp,Zy,ZP,Za Zu,Za ZE,Za Zw,YS,Zf Zj hs,Zt Zj Zv hi2,Zk,hone,hsol,Zf Zk hrs,u6,hcx hu1,y0,y2,y1];exact rfl;exact rfl;(focus (simp only [Tri.gp,Zn,reduceIte,Nat.reduceEqDiff,hrs.beq,Zj,t0,t4,t5,ZJ,Zp,Zy,ZP,Za Zu,Za ZE,Za Zw,YS,Zf Zj hs,Zt Zj Zv hi2,Zk,hone,hsol,Zf Zk hrs,u6,hcx hu1,y0,y2,y1];exact rfl));(focus (simp [AV.beq,Ym,hrs.beq,Zj,t0,t4,t5,ZJ,Zp,Zy,ZP,Za Zu,Za ZE,Za Zw,YS,Zf Zj hs,Zt Zj Zv hi2,Zk,hone,hsol,Zf Zk hrs,u6,hcx hu1,y0,y2,y1];done)));exact Xt.nil)))
 (refine Zq ?_;(iterate 23 (apply ZW.later;kernel_rfl));refine ZW.nil ?_)
 have hc1:H1.cellsAt b = some c:=hcx hu1
 (apply ZY.call (e:=12);kernel_rfl;simp only [li];exact rfl;(focus (simp only [rQ,Zb,li,lo,reduceIte,Nat.reduceEqDiff,Nat.reduceAdd,beq_self_eq_true];done));simp only [rE,rS,li,lo,reduceIte,Nat.reduceEqDiff,Nat.reduceAdd,Nat.reduceMul,hrs.beq,Zj,t0,t4,t5,ZJ,Zp,Zy,ZP,Za Zu,Za ZE,Za Zw,YS,Zf Zj hs,Zt Zj Zv hi2,Zk,hone,hsol,Zf Zk hrs,u6,hc1,y0,y2,y1];exact rfl;exact put59_c HB H1 hu1 v1 _ dr ho1 (by omega) (by simp;omega);rintro v2 H2 ⟨ho2,hu2,hb2,hn2⟩;refine⟨_,rfl,?_,?_⟩;(focus (apply Yf (R:=[19]);kernel_rfl;(apply Xt.cons;simp only [li];exact rfl;(focus (simp only [rQ,Zb,li,lo,reduceIte,Nat.reduceEqDiff,Nat.reduceAdd,beq_self_eq_true];done));simp only [rE,rS,li,lo,reduceIte,Nat.reduceEqDiff,Nat.reduceAdd,Nat.reduceMul,hrs.beq,Zj,t0,t4,t5,ZJ,Zp,Zy,ZP,Za Zu,Za ZE,Za Zw,YS,Zf Zj hs,Zt Zj Zv hi2,Zk,hone,hsol,Zf Zk hrs,u6,hcx hu2,y0,y2,y1];exact rfl;exact rfl;(focus (simp only [Tri.gp,Zn,reduceIte,Nat.reduceEqDiff,hrs.beq,Zj,t0,t4,t5,ZJ,Zp,Zy,ZP,Za Zu,Za ZE,Za Zw,YS,Zf Zj hs,Zt Zj Zv hi2,Zk,hone,hsol,Zf Zk hrs,u6,hcx hu2,y0,y2,y1];exact rfl));(focus (simp [AV.beq,Ym,hrs.beq,Zj,t0,t4,t5,ZJ,Zp,Zy,ZP,Za Zu,Za ZE,Za Zw,YS,Zf Zj hs,Zt Zj Zv hi2,Zk,hone,hsol,Zf Zk hrs,u6,hcx hu2,y0,y2,y1];done)));exact Xt.nil)))
 (refine Zq ?_;(iterate 23 (apply ZW.later;kernel_rfl));refine ZW.nil ?_)
 have hc2:H2.cellsAt b = some c:=hcx hu2
 (apply ZY.call (e:=14);kernel_rfl;simp only [li];exact rfl;(focus (simp only [rQ,Zb,li,lo,reduceIte,Nat.reduceEqDiff,Nat.reduceAdd,beq_self_eq_true];done));simp only [rE,rS,li,lo,reduceIte,Nat.reduceEqDiff,Nat.reduceAdd,Nat.reduceMul,hrs.beq,Zj,t0,t4,t5,ZJ,Zp,Zy,ZP,Za Zu,Za ZE,Za Zw,YS,Zf Zj hs,Zt Zj Zv hi2,Zk,hone,hsol,Zf Zk hrs,u6,hc2,y0,y2,y1];exact rfl;exact put59_c HB H2 hu2 v2 _ ah ho2 (by omega) (by simp;omega);rintro v3 H3 ⟨ho3,hu3,hb3,hn3⟩;refine⟨_,rfl,?_,?_⟩;(focus (apply Yf (R:=[19]);kernel_rfl;(apply Xt.cons;simp only [li];exact rfl;(focus (simp only [rQ,Zb,li,lo,reduceIte,Nat.reduceEqDiff,Nat.reduceAdd,beq_self_eq_true];done));simp only [rE,rS,li,lo,reduceIte,Nat.reduceEqDiff,Nat.reduceAdd,Nat.reduceMul,hrs.beq,Zj,t0,t4,t5,ZJ,Zp,Zy,ZP,Za Zu,Za ZE,Za Zw,YS,Zf Zj hs,Zt Zj Zv hi2,Zk,hone,hsol,Zf Zk hrs,u6,hcx hu3,y0,y2,y1];exact rfl;exact rfl;(focus (simp only [Tri.gp,Zn,reduceIte,Nat.reduceEqDiff,hrs.beq,Zj,t0,t4,t5,ZJ,Zp,Zy,ZP,Za Zu,Za ZE,Za Zw,YS,Zf Zj hs,Zt Zj Zv hi2,Zk,hone,hsol,Zf Zk hrs,u6,hcx hu3,y0,y2,y1];exact rfl));(focus (simp [AV.beq,Ym,hrs.beq,Zj,t0,t4,t5,ZJ,Zp,Zy,ZP,Za Zu,Za ZE,Za Zw,YS,Zf Zj hs,Zt Zj Zv hi2,Zk,hone,hsol,Zf Zk hrs,u6,hcx hu3,y0,y2,y1];done)));exact Xt.nil)))
 (refine Zq ?_;(iterate 23 (apply ZW.later;kernel_rfl));refine ZW.nil ?_)
 have hc3:H3.cellsAt b = some c:=hcx hu3
 (apply ZY.call (e:=21);kernel_rfl;simp only [li];exact rfl;(focus (simp only [rQ,Zb,li,lo,reduceIte,Nat.reduceEqDiff,Nat.reduceAdd,beq_self_eq_true];done));simp only [rE,rS,li,lo,reduceIte,Nat.reduceEqDiff,Nat.reduceAdd,Nat.reduceMul,hrs.beq,Zj,t0,t4,t5,ZJ,Zp,Zy,ZP,Za Zu,Za ZE,Za Zw,YS,Zf Zj hs,Zt Zj Zv hi2,Zk,hone,hsol,Zf Zk hrs,u6,hc3,y0,y2,y1];exact rfl;exact put59_c HB H3 hu3 v3 _ recs.length ho3 (by omega) (by simp;omega);rintro v4 H4 ⟨ho4,hu4,hb4,hn4⟩;refine⟨_,rfl,?_,?_⟩;(focus exact ZM (by kernel_rfl)))
 (refine Zq ?_;(iterate 23 (apply ZW.later;kernel_rfl));refine ZW.nil ?_)
 (apply ZY.eff (e:=22);kernel_rfl;simp only [li];exact rfl;(focus (simp only [rQ,Zb,li,lo,reduceIte,Nat.reduceEqDiff,Nat.reduceAdd,beq_self_eq_true];done));simp only [rE,rS,li,lo,reduceIte,Nat.reduceEqDiff,Nat.reduceAdd,Nat.reduceMul,hrs.beq,Zj,t0,t4,t5,ZJ,Zp,Zy,ZP,Za Zu,Za ZE,Za Zw,YS,Zf Zj hs,Zt Zj Zv hi2,Zk,hone,hsol,Zf Zk hrs];exact rfl;exact rfl;(focus exact ZM (by kernel_rfl)))
 (refine Zq ?_;(iterate 23 (apply ZW.later;kernel_rfl));refine ZW.nil ?_)
 (apply ZY.all;kernel_rfl;kernel_rfl)
 repeat (first | (apply Zh;exact rfl) | apply Zc | apply WO.nil | (apply Zl;exact rfl;simp only [rE,rS,li,lo,reduceIte,Nat.reduceEqDiff,Nat.reduceAdd,Nat.reduceMul];exact rfl;exact rfl))
 generalize hs4:s ++ Xp cpu ++ Xp dr ++ Xp ah ++ Xp recs.length = s4 at *
 have hl4:s4.length≤s.length + 40:=by
  rw [← hs4]
  simp only [List.length_append]
  omega
 have hfull:WB ps = (s4 ++ XD recs) ++ XE (ps.drop (i + 1)):=by
  rw [hse,hdrop,← hs4]
  simp [encB]
 refine Ys (fun m t Hk =>∃(k:Nat) (w:AV) (z:List Nat),Up HB Hk∧k + m = recs.length∧X9 HB Hk w z∧s4 ++ XD recs = z ++ XD (recs.drop k)∧t.get 0 = some (.slice b off (ps.map ofB).length cap)∧t.get 2 = some (.ptr H.next 0)∧t.get 4 = some w∧t.get 5 = some (.int .i64 (i:Int))∧t.get 7 = some (.int .i64 (k:Int))) recs.length ?_ ?_
 ·refine⟨0,v4,s4,hu4,by omega,ho4,by simp,?_,?_,?_,?_,?_⟩
  all_goals simp [Tri.gp,u0,u2,u5]
 rintro m2 t3 Hk ⟨k,w,z,huk,hkm,hok2,hsz,k0,k2,k4,k5,k7⟩ ih2
 have hck:Hk.cellsAt b = some c:=hcx huk
 by_cases hk:k < recs.length
 rotate_left
 ·obtain rfl:k = recs.length:=by omega
  have hlt2:decide ((recs.length:Int) < (recs.length:Int)) = false:=by simp
  rw [List.drop_length,XD,List.append_nil] at hsz
  repeat (first|(apply Zh;exact rfl)|apply Zc|apply WO.nil|(apply WO.op;(focus (simp only [rQ,Zb,li,lo,reduceIte,Nat.reduceEqDiff,Nat.reduceAdd,beq_self_eq_true,k0,k4,k5,k7];done));simp only [rE,rS,li,lo,reduceIte,Nat.reduceEqDiff,Nat.reduceAdd,Nat.reduceMul,Zj,k0,k4,k5,k7,Zp,Za Zw,Za Zu,Za Yr,Za Zx,Zf Zk hrs,ZH,ZG,Zz,YS,Zt Zj Zv hi2,Zk,hone,hsol,Zo,hck,y1,hlt2];exact rfl;exact rfl)|(apply WO.unwanted;(focus (simp only [rQ,Zb,li,lo,reduceIte,Nat.reduceEqDiff,Nat.reduceAdd,beq_self_eq_true,k0,k4,k5,k7];done));exact rfl))
  (first|(apply WF.condT;(focus (simp only [Zg,Zd,Tri.gp,Zn,Bool.not_true,Bool.not_false,reduceIte,Nat.reduceEqDiff,hlt2];done)))|(apply WF.condF;(focus (simp only [Zg,Zd,Tri.gp,Zn,Bool.not_true,Bool.not_false,reduceIte,Nat.reduceEqDiff,hlt2];done))))
  repeat (first|(apply Zh;exact rfl)|apply Zc|apply WO.nil|(apply WO.op;(focus (simp only [rQ,Zb,li,lo,reduceIte,Nat.reduceEqDiff,Nat.reduceAdd,beq_self_eq_true,k0,k4,k5,k7];done));simp only [rE,rS,li,lo,reduceIte,Nat.reduceEqDiff,Nat.reduceAdd,Nat.reduceMul,Zj,k0,k4,k5,k7,Zp,Za Zw,Za Zu,Za Yr,Za Zx,Zf Zk hrs,ZH,ZG,Zz,YS,Zt Zj Zv hi2,Zk,hone,hsol,Zo,wi];exact rfl;exact rfl)|(apply WO.unwanted;(focus (simp only [rQ,Zb,li,lo,reduceIte,Nat.reduceEqDiff,Nat.reduceAdd,beq_self_eq_true,k0,k4,k5,k7];done));exact rfl))
  refine Yt ?_
  refine ih (m - 1) _ _ (by omega) ⟨i + 1,w,z,huk,by omega,hok2,by rw [hfull,hsz],?_,?_,?_,?_⟩
  all_goals simp [Tri.gp,k0,k2,k4]
 have hlt2:decide ((k:Int) < (recs.length:Int)) = true:=by simp;omega
 have wk:IntKind.i64.wrap ((k:Int) + 1) = ((k + 1:Nat):Int):=by rw [Go.Ev.w64 (by omega) (by omega)];omega
 have hk2:k < (recs.map ofR).length:=by rw [List.length_map];exact hk
 obtain⟨b2,off2,cap2,c2,dv,hrv,hb2,hc2',hd2,hcut2⟩:=recs_at hd hk2
 rw [← huk.cellsAt hb2] at hc2'
 have hgy:(recs.map ofR)[k] = ofR recs[k]:=by simp
 rw [hgy] at hd2 hcut2
 have hoky:=k5' _ (List.getElem_mem hk)
 have hdrop2:=encRs_drop hk
 generalize recs[k] = y at *
 obtain⟨id,tm,data⟩:=y
 obtain⟨g1,g2,g3,g4⟩:=hoky
 dsimp only at g1 g2 g3 g4
 unfold ofR at hcut2 hd2
 dsimp only at hcut2 hd2
 have hds:=hd2.1
 rw [YJ] at hds
 have done1:=hds.one
 have dsol:=hds.solid
 have e1:=Yj 9 id (by omega)
 have e2:=Yj 9 tm (by omega)
 have e3:=Yj 9 data.length (by omega)
 have hzl:=congrArg List.length hsz
 simp only [List.length_append] at hzl
 subst hrv
 repeat (first|(apply Zh;exact rfl)|apply Zc|apply WO.nil|(apply WO.op;(focus (simp only [rQ,Zb,li,lo,reduceIte,Nat.reduceEqDiff,Nat.reduceAdd,beq_self_eq_true,k0,k4,k5,k7];done));simp only [rE,rS,li,lo,reduceIte,Nat.reduceEqDiff,Nat.reduceAdd,Nat.reduceMul,Zj,k0,k4,k5,k7,Zp,Za Zw,Za Zu,Za Yr,Za Zx,Zf Zk hrs,ZH,ZG,Zz,YS,Zt Zj Zv hi2,Zk,hone,hsol,Zo,hck,y1,hlt2];exact rfl;exact rfl)|(apply WO.unwanted;(focus (simp only [rQ,Zb,li,lo,reduceIte,Nat.reduceEqDiff,Nat.reduceAdd,beq_self_eq_true,k0,k4,k5,k7];done));exact rfl))
 (first|(apply WF.condT;(focus (simp only [Zg,Zd,Tri.gp,Zn,Bool.not_true,Bool.not_false,reduceIte,Nat.reduceEqDiff,hlt2];done)))|(apply WF.condF;(focus (simp only [Zg,Zd,Tri.gp,Zn,Bool.not_true,Bool.not_false,reduceIte,Nat.reduceEqDiff,hlt2];done))))
 repeat (first|(apply Zh;exact rfl)|apply Zc|apply WO.nil|(apply WO.op;(focus (simp only [rQ,Zb,li,lo,reduceIte,Nat.reduceEqDiff,Nat.reduceAdd,beq_self_eq_true,k0,k4,k5,k7];done));simp only [rE,rS,li,lo,reduceIte,Nat.reduceEqDiff,Nat.reduceAdd,Nat.reduceMul,Zj,k0,k4,k5,k7,Zp,Za Zw,Za Zu,Za Yr,Za Zx,Zf Zk hrs,ZH,ZG,Zz,YS,Zt Zj Zv hi2,Zk,hone,hsol,Zo,hck,y1,Zt Zk Z1 hk2,hc2',hcut2,Ze Yi Z1,ZU,Z1,Yb,done1,dsol];exact rfl;exact rfl)|(apply WO.unwanted;(focus (simp only [rQ,Zb,li,lo,reduceIte,Nat.reduceEqDiff,Nat.reduceAdd,beq_self_eq_true,k0,k4,k5,k7];done));exact rfl))
 have hC1:Up Hk ⟨(Hk.t.put Hk.next (some (.cells 87 [.int .i64 0,.int .i64 0,.nilslice] 0 false false))).put Hk.next (some (.cells 87 [.int .i64 (id:Int),.int .i64 (tm:Int),dv] 0 false false)),Hk.next + 1⟩:=WV Hk _ _
 have sv0:Still Hk.next (some (.cells 87 [.int .i64 (id:Int),.int .i64 (tm:Int),dv] 0 false false)) w ⟨(Hk.t.put Hk.next (some (.cells 87 [.int .i64 0,.int .i64 0,.nilslice] 0 false false))).put Hk.next (some (.cells 87 [.int .i64 (id:Int),.int .i64 (tm:Int),dv] 0 false false)),Hk.next + 1⟩ :=
  ⟨by show (Tri.put _ _ _).get _ = _;rw [Tri.gp,if_pos rfl],Nat.lt_succ_self _,hok2.lt (Nat.le_refl _)⟩
 have huC:=huk.trans hC1
 have hoC:=hok2.up hC1
 generalize (⟨(Hk.t.put Hk.next (some (.cells 87 [.int .i64 0,.int .i64 0,.nilslice] 0 false false))).put Hk.next (some (.cells 87 [.int .i64 (id:Int),.int .i64 (tm:Int),dv] 0 false false)),Hk.next + 1⟩:AH) = HC at *
 (apply Yw;kernel_rfl;kernel_rfl)
 (refine Zq ?_;(iterate 3 (first|(apply ZW.pure;kernel_rfl;kernel_rfl;(focus ((simp only [rQ,Zb,li,lo,reduceIte,Nat.reduceEqDiff,Nat.reduceAdd,beq_self_eq_true,k0,k4,k5,k7];done)));simp only [rE,rS,li,lo,reduceIte,Nat.reduceEqDiff,Nat.reduceAdd,Nat.reduceMul,Zj,k0,k4,k5,k7,Zp,Za Zw,Za Zu,Za Yr,Za Zx,Zf Zk hrs,ZH,ZG,Zz,YS,Zt Zj Zv hi2,Zk,hone,hsol,Zo,hds.beq,done1,dsol,Zf Zo hds,sv0.cells];exact rfl;exact rfl)|(apply ZW.load;kernel_rfl;kernel_rfl;(focus ((simp only [rQ,Zb,li,lo,reduceIte,Nat.reduceEqDiff,Nat.reduceAdd,beq_self_eq_true,k0,k4,k5,k7];done)));simp only [rE,rS,li,lo,reduceIte,Nat.reduceEqDiff,Nat.reduceAdd,Nat.reduceMul,Zj,k0,k4,k5,k7,Zp,Za Zw,Za Zu,Za Yr,Za Zx,Zf Zk hrs,ZH,ZG,Zz,YS,Zt Zj Zv hi2,Zk,hone,hsol,Zo,hds.beq,done1,dsol,Zf Zo hds,sv0.cells];exact rfl;exact rfl)));(iterate 1 (apply ZW.later;kernel_rfl));(iterate 2 (first|(apply ZW.pure;kernel_rfl;kernel_rfl;(focus ((simp only [rQ,Zb,li,lo,reduceIte,Nat.reduceEqDiff,Nat.reduceAdd,beq_self_eq_true,k0,k4,k5,k7];done)));simp only [rE,rS,li,lo,reduceIte,Nat.reduceEqDiff,Nat.reduceAdd,Nat.reduceMul,Zj,k0,k4,k5,k7,Zp,Za Zw,Za Zu,Za Yr,Za Zx,Zf Zk hrs,ZH,ZG,Zz,YS,Zt Zj Zv hi2,Zk,hone,hsol,Zo,hds.beq,done1,dsol,Zf Zo hds,sv0.cells];exact rfl;exact rfl)|(apply ZW.load;kernel_rfl;kernel_rfl;(focus ((simp only [rQ,Zb,li,lo,reduceIte,Nat.reduceEqDiff,Nat.reduceAdd,beq_self_eq_true,k0,k4,k5,k7];done)));simp only [rE,rS,li,lo,reduceIte,Nat.reduceEqDiff,Nat.reduceAdd,Nat.reduceMul,Zj,k0,k4,k5,k7,Zp,Za Zw,Za Zu,Za Yr,Za Zx,Zf Zk hrs,ZH,ZG,Zz,YS,Zt Zj Zv hi2,Zk,hone,hsol,Zo,hds.beq,done1,dsol,Zf Zo hds,sv0.cells];exact rfl;exact rfl)));(iterate 1 (apply ZW.later;kernel_rfl));(iterate 3 (first|(apply ZW.pure;kernel_rfl;kernel_rfl;(focus ((simp only [rQ,Zb,li,lo,reduceIte,Nat.reduceEqDiff,Nat.reduceAdd,beq_self_eq_true,k0,k4,k5,k7];done)));simp only [rE,rS,li,lo,reduceIte,Nat.reduceEqDiff,Nat.reduceAdd,Nat.reduceMul,Zj,k0,k4,k5,k7,Zp,Za Zw,Za Zu,Za Yr,Za Zx,Zf Zk hrs,ZH,ZG,Zz,YS,Zt Zj Zv hi2,Zk,hone,hsol,Zo,hds.beq,done1,dsol,Zf Zo hds,sv0.cells];exact rfl;exact rfl)|(apply ZW.load;kernel_rfl;kernel_rfl;(focus ((simp only [rQ,Zb,li,lo,reduceIte,Nat.reduceEqDiff,Nat.reduceAdd,beq_self_eq_true,k0,k4,k5,k7];done)));simp only [rE,rS,li,lo,reduceIte,Nat.reduceEqDiff,Nat.reduceAdd,Nat.reduceMul,Zj,k0,k4,k5,k7,Zp,Za Zw,Za Zu,Za Yr,Za Zx,Zf Zk hrs,ZH,ZG,Zz,YS,Zt Zj Zv hi2,Zk,hone,hsol,Zo,hds.beq,done1,dsol,Zf Zo hds,sv0.cells];exact rfl;exact rfl)));(iterate 1 (apply ZW.later;kernel_rfl));(iterate 2 (first|(apply ZW.pure;kernel_rfl;kernel_rfl;(focus ((simp only [rQ,Zb,li,lo,reduceIte,Nat.reduceEqDiff,Nat.reduceAdd,beq_self_eq_true,k0,k4,k5,k7];done)));simp only [rE,rS,li,lo,reduceIte,Nat.reduceEqDiff,Nat.reduceAdd,Nat.reduceMul,Zj,k0,k4,k5,k7,Zp,Za Zw,Za Zu,Za Yr,Za Zx,Zf Zk hrs,ZH,ZG,Zz,YS,Zt Zj Zv hi2,Zk,hone,hsol,Zo,hds.beq,done1,dsol,Zf Zo hds,sv0.cells];exact rfl;exact rfl)|(apply ZW.load;kernel_rfl;kernel_rfl;(focus ((simp only [rQ,Zb,li,lo,reduceIte,Nat.reduceEqDiff,Nat.reduceAdd,beq_self_eq_true,k0,k4,k5,k7];done)));simp only [rE,rS,li,lo,reduceIte,Nat.reduceEqDiff,Nat.reduceAdd,Nat.reduceMul,Zj,k0,k4,k5,k7,Zp,Za Zw,Za Zu,Za Yr,Za Zx,Zf Zk hrs,ZH,ZG,Zz,YS,Zt Zj Zv hi2,Zk,hone,hsol,Zo,hds.beq,done1,dsol,Zf Zo hds,sv0.cells];exact rfl;exact rfl)));(iterate 2 (apply ZW.later;kernel_rfl));refine ZW.nil ?_)
 (apply ZY.call (e:=3);kernel_rfl;simp only [li];exact rfl;(focus (simp only [rQ,Zb,li,lo,reduceIte,Nat.reduceEqDiff,Nat.reduceAdd,beq_self_eq_true,k0,k4,k5,k7];done));simp only [rE,rS,li,lo,reduceIte,Nat.reduceEqDiff,Nat.reduceAdd,Nat.reduceMul,Zj,k0,k4,k5,k7,Zp,Za Zw,Za Zu,Za Yr,Za Zx,Zf Zk hrs,ZH,ZG,Zz,YS,Zt Zj Zv hi2,Zk,hone,hsol,Zo,hds.beq,done1,dsol,Zf Zo hds,sv0.cells];exact rfl;exact put59_c HB HC huC w z id hoC (by omega) (by omega);rintro w1 H5 ⟨ho5,hu5,hb5,hn5⟩;refine⟨_,rfl,?_,?_⟩;(focus (apply Yf (R:=[5,8,12]);kernel_rfl;(apply Xt.cons;simp only [li];exact rfl;(focus (simp only [rQ,Zb,li,lo,reduceIte,Nat.reduceEqDiff,Nat.reduceAdd,beq_self_eq_true,k0,k4,k5,k7];done));simp only [rE,rS,li,lo,reduceIte,Nat.reduceEqDiff,Nat.reduceAdd,Nat.reduceMul,Zj,k0,k4,k5,k7,Zp,Za Zw,Za Zu,Za Yr,Za Zx,Zf Zk hrs,ZH,ZG,Zz,YS,Zt Zj Zv hi2,Zk,hone,hsol,Zo,hds.beq,done1,dsol,Zf Zo hds,(sv0.step hb5 hn5).cells];exact rfl;exact rfl;(focus (simp only [Tri.gp,Zn,reduceIte,Nat.reduceEqDiff,Zj,k0,k4,k5,k7,Zp,Za Zw,Za Zu,Za Yr,Za Zx,Zf Zk hrs,ZH,ZG,Zz,YS,Zt Zj Zv hi2,Zk,hone,hsol,Zo,hds.beq,done1,dsol,Zf Zo hds,(sv0.step hb5 hn5).cells];exact rfl));(focus (simp [AV.beq,Ym,Zj,k0,k4,k5,k7,Zp,Za Zw,Za Zu,Za Yr,Za Zx,Zf Zk hrs,ZH,ZG,Zz,YS,Zt Zj Zv hi2,Zk,hone,hsol,Zo,hds.beq,done1,dsol,Zf Zo hds,(sv0.step hb5 hn5).cells];done)));(apply Xt.cons;simp only [li];exact rfl;(focus (simp only [rQ,Zb,li,lo,reduceIte,Nat.reduceEqDiff,Nat.reduceAdd,beq_self_eq_true,k0,k4,k5,k7];done));simp only [rE,rS,li,lo,reduceIte,Nat.reduceEqDiff,Nat.reduceAdd,Nat.reduceMul,Zj,k0,k4,k5,k7,Zp,Za Zw,Za Zu,Za Yr,Za Zx,Zf Zk hrs,ZH,ZG,Zz,YS,Zt Zj Zv hi2,Zk,hone,hsol,Zo,hds.beq,done1,dsol,Zf Zo hds,(sv0.step hb5 hn5).cells];exact rfl;exact rfl;(focus (simp only [Tri.gp,Zn,reduceIte,Nat.reduceEqDiff,Zj,k0,k4,k5,k7,Zp,Za Zw,Za Zu,Za Yr,Za Zx,Zf Zk hrs,ZH,ZG,Zz,YS,Zt Zj Zv hi2,Zk,hone,hsol,Zo,hds.beq,done1,dsol,Zf Zo hds,(sv0.step hb5 hn5).cells];exact rfl));(focus (simp [AV.beq,Ym,Zj,k0,k4,k5,k7,Zp,Za Zw,Za Zu,Za Yr,Za Zx,Zf Zk hrs,ZH,ZG,Zz,YS,Zt Zj Zv hi2,Zk,hone,hsol,Zo,hds.beq,done1,dsol,Zf Zo hds,(sv0.step hb5 hn5).cells];done)));(apply Xt.cons;simp only [li];exact rfl;(focus (simp only [rQ,Zb,li,lo,reduceIte,Nat.reduceEqDiff,Nat.reduceAdd,beq_self_eq_true,k0,k4,k5,k7];done));simp only [rE,rS,li,lo,reduceIte,Nat.reduceEqDiff,Nat.reduceAdd,Nat.reduceMul,Zj,k0,k4,k5,k7,Zp,Za Zw,Za Zu,Za Yr,Za Zx,Zf Zk hrs,ZH,ZG,Zz,YS,Zt Zj Zv hi2,Zk,hone,hsol,Zo,hds.beq,done1,dsol,Zf Zo hds,(sv0.step hb5 hn5).cells];exact rfl;exact rfl;(focus (simp only [Tri.gp,Zn,reduceIte,Nat.reduceEqDiff,Zj,k0,k4,k5,k7,Zp,Za Zw,Za Zu,Za Yr,Za Zx,Zf Zk hrs,ZH,ZG,Zz,YS,Zt Zj Zv hi2,Zk,hone,hsol,Zo,hds.beq,done1,dsol,Zf Zo hds,(sv0.step hb5 hn5).cells];exact rfl));(focus (simp [AV.beq,Ym,Zj,k0,k4,k5,k7,Zp,Za Zw,Za Zu,Za Yr,Za Zx,Zf Zk hrs,ZH,ZG,Zz,YS,Zt Zj Zv hi2,Zk,hone,hsol,Zo,hds.beq,done1,dsol,Zf Zo hds,(sv0.step hb5 hn5).cells];done)));exact Xt.nil)))
 (refine Zq ?_;(iterate 15 (apply ZW.later;kernel_rfl));refine ZW.nil ?_)
 have sv1:=sv0.step hb5 hn5
 (apply ZY.call (e:=6);kernel_rfl;simp only [li];exact rfl;(focus (simp only [rQ,Zb,li,lo,reduceIte,Nat.reduceEqDiff,Nat.reduceAdd,beq_self_eq_true,k0,k4,k5,k7];done));simp only [rE,rS,li,lo,reduceIte,Nat.reduceEqDiff,Nat.reduceAdd,Nat.reduceMul,Zj,k0,k4,k5,k7,Zp,Za Zw,Za Zu,Za Yr,Za Zx,Zf Zk hrs,ZH,ZG,Zz,YS,Zt Zj Zv hi2,Zk,hone,hsol,Zo,hds.beq,done1,dsol,Zf Zo hds,sv1.cells];exact rfl;exact put59_c HB H5 hu5 w1 _ tm ho5 (by omega) (by simp;omega);rintro w2 H6 ⟨ho6,hu6,hb6,hn6⟩;refine⟨_,rfl,?_,?_⟩;(focus (apply Yf (R:=[8,12]);kernel_rfl;(apply Xt.cons;simp only [li];exact rfl;(focus (simp only [rQ,Zb,li,lo,reduceIte,Nat.reduceEqDiff,Nat.reduceAdd,beq_self_eq_true,k0,k4,k5,k7];done));simp only [rE,rS,li,lo,reduceIte,Nat.reduceEqDiff,Nat.reduceAdd,Nat.reduceMul,Zj,k0,k4,k5,k7,Zp,Za Zw,Za Zu,Za Yr,Za Zx,Zf Zk hrs,ZH,ZG,Zz,YS,Zt Zj Zv hi2,Zk,hone,hsol,Zo,hds.beq,done1,dsol,Zf Zo hds,(sv1.step hb6 hn6).cells];exact rfl;exact rfl;(focus (simp only [Tri.gp,Zn,reduceIte,Nat.reduceEqDiff,Zj,k0,k4,k5,k7,Zp,Za Zw,Za Zu,Za Yr,Za Zx,Zf Zk hrs,ZH,ZG,Zz,YS,Zt Zj Zv hi2,Zk,hone,hsol,Zo,hds.beq,done1,dsol,Zf Zo hds,(sv1.step hb6 hn6).cells];exact rfl));(focus (simp [AV.beq,Ym,Zj,k0,k4,k5,k7,Zp,Za Zw,Za Zu,Za Yr,Za Zx,Zf Zk hrs,ZH,ZG,Zz,YS,Zt Zj Zv hi2,Zk,hone,hsol,Zo,hds.beq,done1,dsol,Zf Zo hds,(sv1.step hb6 hn6).cells];done)));(apply Xt.cons;simp only [li];exact rfl;(focus (simp only [rQ,Zb,li,lo,reduceIte,Nat.reduceEqDiff,Nat.reduceAdd,beq_self_eq_true,k0,k4,k5,k7];done));simp only [rE,rS,li,lo,reduceIte,Nat.reduceEqDiff,Nat.reduceAdd,Nat.reduceMul,Zj,k0,k4,k5,k7,Zp,Za Zw,Za Zu,Za Yr,Za Zx,Zf Zk hrs,ZH,ZG,Zz,YS,Zt Zj Zv hi2,Zk,hone,hsol,Zo,hds.beq,done1,dsol,Zf Zo hds,(sv1.step hb6 hn6).cells];exact rfl;exact rfl;(focus (simp only [Tri.gp,Zn,reduceIte,Nat.reduceEqDiff,Zj,k0,k4,k5,k7,Zp,Za Zw,Za Zu,Za Yr,Za Zx,Zf Zk hrs,ZH,ZG,Zz,YS,Zt Zj Zv hi2,Zk,hone,hsol,Zo,hds.beq,done1,dsol,Zf Zo hds,(sv1.step hb6 hn6).cells];exact rfl));(focus (simp [AV.beq,Ym,Zj,k0,k4,k5,k7,Zp,Za Zw,Za Zu,Za Yr,Za Zx,Zf Zk hrs,ZH,ZG,Zz,YS,Zt Zj Zv hi2,Zk,hone,hsol,Zo,hds.beq,done1,dsol,Zf Zo hds,(sv1.step hb6 hn6).cells];done)));exact Xt.nil)))
 (refine Zq ?_;(iterate 15 (apply ZW.later;kernel_rfl));refine ZW.nil ?_)
 have sv2:=sv1.step hb6 hn6
 (apply ZY.call (e:=10);kernel_rfl;simp only [li];exact rfl;(focus (simp only [rQ,Zb,li,lo,reduceIte,Nat.reduceEqDiff,Nat.reduceAdd,beq_self_eq_true,k0,k4,k5,k7];done));simp only [rE,rS,li,lo,reduceIte,Nat.reduceEqDiff,Nat.reduceAdd,Nat.reduceMul,Zj,k0,k4,k5,k7,Zp,Za Zw,Za Zu,Za Yr,Za Zx,Zf Zk hrs,ZH,ZG,Zz,YS,Zt Zj Zv hi2,Zk,hone,hsol,Zo,hds.beq,done1,dsol,Zf Zo hds,sv2.cells];exact rfl;exact put59_c HB H6 hu6 w2 _ data.length ho6 (by omega) (by simp;omega);rintro w3 H7 ⟨ho7,hu7,hb7,hn7⟩;refine⟨_,rfl,?_,?_⟩;(focus (apply Yf (R:=[12]);kernel_rfl;(apply Xt.cons;simp only [li];exact rfl;(focus (simp only [rQ,Zb,li,lo,reduceIte,Nat.reduceEqDiff,Nat.reduceAdd,beq_self_eq_true,k0,k4,k5,k7];done));simp only [rE,rS,li,lo,reduceIte,Nat.reduceEqDiff,Nat.reduceAdd,Nat.reduceMul,Zj,k0,k4,k5,k7,Zp,Za Zw,Za Zu,Za Yr,Za Zx,Zf Zk hrs,ZH,ZG,Zz,YS,Zt Zj Zv hi2,Zk,hone,hsol,Zo,hds.beq,done1,dsol,Zf Zo hds,(sv2.step hb7 hn7).cells];exact rfl;exact rfl;(focus (simp only [Tri.gp,Zn,reduceIte,Nat.reduceEqDiff,Zj,k0,k4,k5,k7,Zp,Za Zw,Za Zu,Za Yr,Za Zx,Zf Zk hrs,ZH,ZG,Zz,YS,Zt Zj Zv hi2,Zk,hone,hsol,Zo,hds.beq,done1,dsol,Zf Zo hds,(sv2.step hb7 hn7).cells];exact rfl));(focus (simp [AV.beq,Ym,Zj,k0,k4,k5,k7,Zp,Za Zw,Za Zu,Za Yr,Za Zx,Zf Zk hrs,ZH,ZG,Zz,YS,Zt Zj Zv hi2,Zk,hone,hsol,Zo,hds.beq,done1,dsol,Zf Zo hds,(sv2.step hb7 hn7).cells];done)));exact Xt.nil)))
 (refine Zq ?_;(iterate 15 (apply ZW.later;kernel_rfl));refine ZW.nil ?_)
 have sv3:=sv2.step hb7 hn7
 have hda:Y3 H7 dv (Xw data):=hd2.up hu7
 obtain⟨w4,H8,happ,ho8,hu8,hb8,_⟩:=ho7.data hu7 hda (by simp;omega)
 (apply ZY.eff (e:=13);kernel_rfl;simp only [li];exact rfl;(focus (simp only [rQ,Zb,li,lo,reduceIte,Nat.reduceEqDiff,Nat.reduceAdd,beq_self_eq_true];done));simp only [rE,rS,li,lo,reduceIte,Nat.reduceEqDiff,Nat.reduceAdd,Nat.reduceMul,happ];exact rfl;exact rfl;(focus exact ZM (by kernel_rfl)))
 (refine Zq ?_;(iterate 15 (apply ZW.later;kernel_rfl));refine ZW.nil ?_)
 (apply ZY.eff (e:=14);kernel_rfl;simp only [li];exact rfl;(focus (simp only [rQ,Zb,li,lo,reduceIte,Nat.reduceEqDiff,Nat.reduceAdd,beq_self_eq_true];done));simp only [rE,rS,li,lo,reduceIte,Nat.reduceEqDiff,Nat.reduceAdd,Nat.reduceMul];exact rfl;exact rfl;(focus exact ZM (by kernel_rfl)))
 (refine Zq ?_;(iterate 15 (apply ZW.later;kernel_rfl));refine ZW.nil ?_)
 (apply ZY.all;kernel_rfl;kernel_rfl)
 repeat (first|(apply Zh;exact rfl)|apply Zc|apply WO.nil|(apply WO.op;(focus (simp only [rQ,Zb,li,lo,reduceIte,Nat.reduceEqDiff,Nat.reduceAdd,beq_self_eq_true,k7];done));simp only [rE,rS,li,lo,reduceIte,Nat.reduceEqDiff,Nat.reduceAdd,Nat.reduceMul,k7,wk];exact rfl;exact rfl)|(apply WO.unwanted;(focus (simp only [rQ,Zb,li,lo,reduceIte,Nat.reduceEqDiff,Nat.reduceAdd,beq_self_eq_true,k7];done));exact rfl))
 refine Yt ?_
 refine ih2 (m2 - 1) _ _ (by omega) ⟨k + 1,w4,_,hu8,by omega,ho8,?_,?_,?_,?_,?_,?_⟩
 ·rw [hsz,hdrop2]
  simp [encR]
 all_goals simp [Tri.gp,k0,k2,k5]
end Go.Ev.C
end
section
namespace Go.Ev.C
open Go.Proofs Go.RowKit Go.Fmt
set_option maxRecDepth 100000
set_option linter.unusedSimpArgs false
variable {L:World→Prop} [Yu Q L]
theorem conv_srcJ {H:AH} {v:AV} {s:List Nat} (hd:Y3 H v (Xw s)) (hne:s ≠ []) (h8:∀c ∈ s,c < 256):convL Q 35 9 (some v) H = some (.str s):=by
 have h1:=hd.1
 have h2:=hd.2
 rw [YJ] at h1
 have hl:s.length ≠ 0:=fun e =>hne (List.length_eq_zero_iff.1 e)
 generalize hn:s.length = n at h1 hl
 cases h1 with
 | nil =>exact absurd rfl hl
 | sl b off n cap =>
  obtain⟨c,hb,hc,hcut,_⟩:=h2 b off _ cap rfl (by unfold Xw;simpa using hne)
  rw [YJ,hn] at hcut
  have hz:Nat.beq n 0 = false:=by
   rw [← Bool.not_eq_true,Nat.beq_eq]
   exact hl
  have hb:byteL (Xw s) = some s:=byteL_map h8
  simp only [convL,Zo,Ye,und5,hz,hc,hcut,hb,Option.map_some,Bool.false_eq_true,if_false]
theorem X9.srcJ {H0 H:AH} {v:AV} {s:List Nat} (h:X9 H0 H v s) (hl:s.length≤100000000) (h8:∀c ∈ s,c < 256):Src H v s:=by
 refine⟨⟨by rw [YJ];exact h.sl,fun b off m cap e hn =>?_⟩,fun b off n cap e =>?_,hl,h8⟩
 ·rcases h with ⟨rfl,rfl⟩ | ⟨hne,b',cap',rfl,hcap,h1,h2,h3⟩
  ·cases e
  ·cases e
   exact⟨Xw s,h2,Z5 h3,YN rfl (bsA_hole s),X4 s⟩
 ·rcases h with ⟨rfl,rfl⟩ | ⟨hne,b',cap',rfl,hcap,h1,h2,h3⟩
  ·cases e
  ·cases e
   rcases hcap with rfl | rfl
   ·exact .inr (.inl rfl)
   ·exact .inl ⟨_,rfl,Nat.le_refl _⟩
/-- A part of bytes. -/
theorem Src.sub {H:AH} {b off n:Nat} {cap:Cap} {s:List Nat} (h:Src H (.slice b off n cap) s) {a z:Nat} (haz:a≤z) (hz:z≤s.length) {cap':Cap} (hc:CapOk (.slice b (off + a * 1) (z - a) cap')):Src H (.slice b (off + a * 1) (z - a) cap') ((s.take z).drop a):=by
 have hl:((s.take z).drop a).length = z - a:=by simp;omega
 refine⟨⟨by rw [YJ,hl];exact .sl _ _ _ _,fun b' off' m cap2 e hn =>?_⟩,hc,by have:=h.len;omega,fun c hc =>h.byte c (List.mem_of_mem_take (List.mem_of_mem_drop hc))⟩
 cases e
 obtain⟨c,hb,hcc,hcut,_⟩:=h.data.2 b off _ cap rfl (by intro e;unfold Xw at e hn;simp at e;subst e;simp at hn)
 refine⟨c,hb,hcc,?_,X4 _⟩
 obtain⟨_,hat⟩:=Yg.1 hcut
 rw [YJ] at hat
 refine Yg.2 ⟨rfl,fun j hj =>?_⟩
 rw [YJ,hl] at hj
 obtain⟨v,a0,h0,b0⟩:=hat (a + j) (by omega)
 refine⟨v,by rw [Nat.mul_one,Nat.add_assoc];exact a0,h0,?_⟩
 unfold Xw at b0 ⊢
 rw [List.getElem?_map] at b0 ⊢
 rw [List.getElem?_drop,List.getElem?_take,if_pos (by omega)]
 exact b0
theorem Src.zero {H:AH} {v:AV} (hs:SL v 0) (hc:CapOk v):Src H v []:=⟨⟨hs,fun _ _ _ _ _ hn =>absurd rfl hn⟩,hc,by simp,fun c hc =>by cases hc⟩
theorem Src.slc {H:AH} {v:AV} {s:List Nat} (h:Src H v s) {lo hi:Option AV} {a z:Nat} (haz:a≤z) (hz:z≤s.length) (hhi:∀m,s.length≤m→XV hi s.length m = some z) (hlo:XV lo 0 z = some a):∃x,YW Q 35 v lo hi none = some x∧Src H x ((s.take z).drop a):=by
 have h1:=h.sl
 generalize hn:s.length = n at h1 hhi hz
 cases h1 with
 | nil =>
  obtain rfl:s = []:=List.length_eq_zero_iff.1 hn
  obtain rfl:z = 0:=by omega
  obtain rfl:a = 0:=by omega
  refine⟨.nilslice,?_,by simpa using h⟩
  simp only [YW,Zo,sz5,sliceNil]
  rw [hhi 0 (by omega),hlo]
 | sl b off n cap =>
  have empt:∀{w:AV},a = z→SL w 0→CapOk w→Src H w ((s.take z).drop a):=fun e h1 h2 =>by
   have:(s.take z).drop a = []:=List.drop_of_length_le (by simp;omega)
   rw [this]
   exact Src.zero h1 h2
  rcases h.cap b off n cap rfl with ⟨c,rfl,hc⟩ | rfl | ⟨rfl,h0⟩
  ·refine⟨.slice b (if Nat.beq c a then off else off + a * 1) (z - a) (.is (c - a)),?_,?_⟩
   ·simp only [YW,Zo,sz5,X2,Cap.sure]
    rw [hhi c (by omega)]
    dsimp only
    rw [hlo]
   ·by_cases e:a = z
    ·refine empt e ?_ fun _ _ _ _ e2 =>by cases e2;exact .inl ⟨_,rfl,by omega⟩
     rw [e,Nat.sub_self]
     exact .sl _ _ _ _
    ·have hne:Nat.beq c a = false:=by
      rw [← Bool.not_eq_true,Nat.beq_eq]
      omega
     rw [hne]
     exact h.sub haz (by omega) fun _ _ _ _ e2 =>by cases e2;exact .inl ⟨_,rfl,by omega⟩
  ·have e1:Nat.beq 1 1 = true:=rfl
   by_cases e:a = z
   ·by_cases ha:a = 0
    ·refine⟨.slice b (off + a * 1) (z - a) (.up 1),?_,h.sub haz (by omega) fun _ _ _ _ e2 =>by cases e2;exact .inr (.inl rfl)⟩
     have e2:Nat.beq a 0 = true:=by rw [Nat.beq_eq];exact ha
     simp only [YW,Zo,sz5,X2,Cap.sure]
     rw [hhi n (by omega)]
     dsimp only
     rw [hlo]
     simp only [e1,e2]
     simp
    ·refine⟨.slice b off 0 .lost,?_,empt e (.sl _ _ _ _) fun _ _ _ _ e2 =>by cases e2;exact .inr (.inr ⟨rfl,rfl⟩)⟩
     have e2:Nat.beq a 0 = false:=by rw [← Bool.not_eq_true,Nat.beq_eq];exact ha
     have e3:Nat.beq z a = true:=by rw [Nat.beq_eq];exact e.symm
     simp only [YW,Zo,sz5,X2,Cap.sure]
     rw [hhi n (by omega)]
     dsimp only
     rw [hlo]
     simp only [e1,e2,e3]
     rfl
   ·refine⟨.slice b (off + a * 1) (z - a) (.up 1),?_,h.sub haz (by omega) fun _ _ _ _ e2 =>by cases e2;exact .inr (.inl rfl)⟩
    have e3:Nat.beq z a = false:=by rw [← Bool.not_eq_true,Nat.beq_eq];omega
    simp only [YW,Zo,sz5,X2,Cap.sure]
    rw [hhi n (by omega)]
    dsimp only
    rw [hlo]
    simp only [e1,e3]
    simp
  ·subst h0
   obtain rfl:z = 0:=by omega
   obtain rfl:a = 0:=by omega
   refine⟨.slice b off 0 .lost,?_,empt rfl (.sl _ _ _ _) fun _ _ _ _ e2 =>by cases e2;exact .inr (.inr ⟨rfl,rfl⟩)⟩
   simp only [YW,Zo,sz5,X2,Cap.sure]
   rw [hhi 0 (by omega)]
   dsimp only
   rw [hlo]
theorem Src.drop {H:AH} {v:AV} {s:List Nat} (h:Src H v s) {k:Nat} (hk:k≤s.length):∃x,YW Q 35 v (some (.int .i64 (k:Int))) none none = some x∧Src H x (s.drop k):=by
 obtain⟨x,h1,h2⟩:=h.slc (lo:=some (.int .i64 (k:Int))) (hi:=none) (a:=k) (z:=s.length) hk (Nat.le_refl _) (fun _ _ =>rfl) (boundU_le hk)
 rw [List.take_length] at h2
 exact⟨x,h1,h2⟩
theorem Src.take {H:AH} {v:AV} {s:List Nat} (h:Src H v s) {k:Nat} (hk:k≤s.length):∃x,YW Q 35 v none (some (.int .i64 (k:Int))) none = some x∧Src H x (s.take k):=by
 obtain⟨x,h1,h2⟩:=h.slc (lo:=none) (hi:=some (.int .i64 (k:Int))) (a:=0) (z:=k) (Nat.zero_le _) hk (fun _ hm =>boundU_le (by omega)) rfl
 rw [List.drop_zero] at h2
 exact⟨x,h1,h2⟩
theorem Src.first {H:AH} {v:AV} {x:Nat} {s:List Nat} (h:Src H v (x :: s)):∃b off cap c,v = .slice b off (s.length + 1) cap∧b < H.next∧H.cellsAt b = some c∧c[off]? = some (.int .u8 (x:Int)):=by
 have h1:=h.sl
 have h2:=h.data.2
 generalize hn:(x :: s).length = n at h1
 cases h1 with
 | nil =>cases hn
 | sl b off n cap =>
  obtain⟨c,hb,hc,hcut,_⟩:=h2 b off _ cap rfl (by simp [Xw])
  rw [YJ] at hcut
  have:=cut_at (i:=0) hcut (by simp)
  rw [Nat.zero_mul,Nat.add_zero] at this
  refine⟨b,off,cap,c,by rw [← hn];rfl,hb,hc,this⟩
end Go.Ev.C
end