/- Contracts: batches and records. -/
import Derived.Test.YtkkegnkopmpjhaaGreatDoorEvF
set_option linter.unusedVariables false
set_option linter.unusedSimpArgs false
set_option linter.all false
section
namespace Go.Ev.C
open Go.Proofs
set_option maxRecDepth 100000
set_option linter.unusedSimpArgs false
variable {L:World→Prop} [Yu Q L]
def RV (id tm:Int) (dv:AV):AV:=.agg [.int .i64 id,.int .i64 tm,dv]
def vld (id tm:Int) (n:Nat):Bool:=decide (1≤id) && decide (id≤1073741824) && decide (0≤tm) && decide (tm≤1099511627776) && decide ((n:Int)≤256)
theorem valid_c (H:AH) (id tm:Int) (dv:AV) (n:Nat) (hd:SL dv n):Fn Q L 133 [RV id tm dv] H (fun v H' =>v = .bool (vld id tm n)∧H' = H):=by
 refine Fn.gc (en133 _) rfl ?_
 generalize lock H = H
 have hone:=hd.one
 have hsol:=hd.solid
 unfold c133 Tryz.f133 RV
 simp only [Option.getD_some]
 cases h1:decide (1≤id)
 ·repeat (first|refine WF.seq ?_|refine Zc ?_|refine WO.nil ?_|refine WF.block ?_|refine WF.skip ?_|refine WF.endBlock ?_|(apply WF.exit;(focus (exact rfl)))|(apply WO.op;(focus ((simp only [rO,Zb,Zn,li,lo,reduceIte,Nat.reduceEqDiff,Nat.reduceAdd,beq_self_eq_true,h1];done)));(focus (simp only [rE,rO,li,lo,Zn,ZN,Zd,Zr,AH.set,AV.cells,if_true,if_false,reduceIte,Nat.reduceEqDiff,Nat.reduceAdd,Nat.reduceMul,h1,hone,hsol,ZH,ZG,Zz,Za Zu,Za Yr,Za Zx,Zf Zo hd];exact rfl));(focus (exact rfl)))|(apply WO.unwanted;(focus ((simp only [rO,Zb,Zn,li,lo,reduceIte,Nat.reduceEqDiff,Nat.reduceAdd,beq_self_eq_true,h1];done)));(focus (exact rfl))))
  (all_goals ((apply WF.ret;(focus (simp only [Zi,Tri.gp,Zn,ZL,reduceIte,Nat.reduceEqDiff,rs133];exact rfl)));simp [vld, *]))
 cases h2:decide (id≤1073741824)
 ·repeat (first|refine WF.seq ?_|refine Zc ?_|refine WO.nil ?_|refine WF.block ?_|refine WF.skip ?_|refine WF.endBlock ?_|(apply WF.exit;(focus (exact rfl)))|(apply WO.op;(focus ((simp only [rO,Zb,Zn,li,lo,reduceIte,Nat.reduceEqDiff,Nat.reduceAdd,beq_self_eq_true,h1,h2];done)));(focus (simp only [rE,rO,li,lo,Zn,ZN,Zd,Zr,AH.set,AV.cells,if_true,if_false,reduceIte,Nat.reduceEqDiff,Nat.reduceAdd,Nat.reduceMul,h1,h2,hone,hsol,ZH,ZG,Zz,Za Zu,Za Yr,Za Zx,Zf Zo hd];exact rfl));(focus (exact rfl)))|(apply WO.unwanted;(focus ((simp only [rO,Zb,Zn,li,lo,reduceIte,Nat.reduceEqDiff,Nat.reduceAdd,beq_self_eq_true,h1,h2];done)));(focus (exact rfl))))
  (all_goals ((apply WF.ret;(focus (simp only [Zi,Tri.gp,Zn,ZL,reduceIte,Nat.reduceEqDiff,rs133];exact rfl)));simp [vld, *]))
 cases h3:decide (0≤tm)
 ·repeat (first|refine WF.seq ?_|refine Zc ?_|refine WO.nil ?_|refine WF.block ?_|refine WF.skip ?_|refine WF.endBlock ?_|(apply WF.exit;(focus (exact rfl)))|(apply WO.op;(focus ((simp only [rO,Zb,Zn,li,lo,reduceIte,Nat.reduceEqDiff,Nat.reduceAdd,beq_self_eq_true,h1,h2,h3];done)));(focus (simp only [rE,rO,li,lo,Zn,ZN,Zd,Zr,AH.set,AV.cells,if_true,if_false,reduceIte,Nat.reduceEqDiff,Nat.reduceAdd,Nat.reduceMul,h1,h2,h3,hone,hsol,ZH,ZG,Zz,Za Zu,Za Yr,Za Zx,Zf Zo hd];exact rfl));(focus (exact rfl)))|(apply WO.unwanted;(focus ((simp only [rO,Zb,Zn,li,lo,reduceIte,Nat.reduceEqDiff,Nat.reduceAdd,beq_self_eq_true,h1,h2,h3];done)));(focus (exact rfl))))
  (all_goals ((apply WF.ret;(focus (simp only [Zi,Tri.gp,Zn,ZL,reduceIte,Nat.reduceEqDiff,rs133];exact rfl)));simp [vld, *]))
 cases h4:decide (tm≤1099511627776)
 ·repeat (first|refine WF.seq ?_|refine Zc ?_|refine WO.nil ?_|refine WF.block ?_|refine WF.skip ?_|refine WF.endBlock ?_|(apply WF.exit;(focus (exact rfl)))|(apply WO.op;(focus ((simp only [rO,Zb,Zn,li,lo,reduceIte,Nat.reduceEqDiff,Nat.reduceAdd,beq_self_eq_true,h1,h2,h3,h4];done)));(focus (simp only [rE,rO,li,lo,Zn,ZN,Zd,Zr,AH.set,AV.cells,if_true,if_false,reduceIte,Nat.reduceEqDiff,Nat.reduceAdd,Nat.reduceMul,h1,h2,h3,h4,hone,hsol,ZH,ZG,Zz,Za Zu,Za Yr,Za Zx,Zf Zo hd];exact rfl));(focus (exact rfl)))|(apply WO.unwanted;(focus ((simp only [rO,Zb,Zn,li,lo,reduceIte,Nat.reduceEqDiff,Nat.reduceAdd,beq_self_eq_true,h1,h2,h3,h4];done)));(focus (exact rfl))))
  (all_goals ((apply WF.ret;(focus (simp only [Zi,Tri.gp,Zn,ZL,reduceIte,Nat.reduceEqDiff,rs133];exact rfl)));simp [vld, *]))
 cases h5:decide ((n:Int)≤256)
 ·repeat (first|refine WF.seq ?_|refine Zc ?_|refine WO.nil ?_|refine WF.block ?_|refine WF.skip ?_|refine WF.endBlock ?_|(apply WF.exit;(focus (exact rfl)))|(apply WO.op;(focus ((simp only [rO,Zb,Zn,li,lo,reduceIte,Nat.reduceEqDiff,Nat.reduceAdd,beq_self_eq_true,h1,h2,h3,h4,h5];done)));(focus (simp only [rE,rO,li,lo,Zn,ZN,Zd,Zr,AH.set,AV.cells,if_true,if_false,reduceIte,Nat.reduceEqDiff,Nat.reduceAdd,Nat.reduceMul,h1,h2,h3,h4,h5,hone,hsol,ZH,ZG,Zz,Za Zu,Za Yr,Za Zx,Zf Zo hd];exact rfl));(focus (exact rfl)))|(apply WO.unwanted;(focus ((simp only [rO,Zb,Zn,li,lo,reduceIte,Nat.reduceEqDiff,Nat.reduceAdd,beq_self_eq_true,h1,h2,h3,h4,h5];done)));(focus (exact rfl))))
  (all_goals ((apply WF.ret;(focus (simp only [Zi,Tri.gp,Zn,ZL,reduceIte,Nat.reduceEqDiff,rs133];exact rfl)));simp [vld, *]))
 ·repeat (first|refine WF.seq ?_|refine Zc ?_|refine WO.nil ?_|refine WF.block ?_|refine WF.skip ?_|refine WF.endBlock ?_|(apply WF.exit;(focus (exact rfl)))|(apply WO.op;(focus ((simp only [rO,Zb,Zn,li,lo,reduceIte,Nat.reduceEqDiff,Nat.reduceAdd,beq_self_eq_true,h1,h2,h3,h4,h5];done)));(focus (simp only [rE,rO,li,lo,Zn,ZN,Zd,Zr,AH.set,AV.cells,if_true,if_false,reduceIte,Nat.reduceEqDiff,Nat.reduceAdd,Nat.reduceMul,h1,h2,h3,h4,h5,hone,hsol,ZH,ZG,Zz,Za Zu,Za Yr,Za Zx,Zf Zo hd];exact rfl));(focus (exact rfl)))|(apply WO.unwanted;(focus ((simp only [rO,Zb,Zn,li,lo,reduceIte,Nat.reduceEqDiff,Nat.reduceAdd,beq_self_eq_true,h1,h2,h3,h4,h5];done)));(focus (exact rfl))))
  (all_goals ((apply WF.ret;(focus (simp only [Zi,Tri.gp,Zn,ZL,reduceIte,Nat.reduceEqDiff,rs133];exact rfl)));simp [vld, *]))
end Go.Ev.C
end
section
namespace Go.Ev.C
open Go.Proofs
set_option maxRecDepth 100000
set_option linter.unusedSimpArgs false
variable {L:World→Prop} [Yu Q L]
theorem size_c (H:AH) (id tm:Int) (dv:AV) (n:Nat) (hd:SL dv n):Fn Q L 95 [RV id tm dv] H (fun v H' =>v = .tuple [.int .i64 (if vld id tm n then IntKind.i64.wrap (14 + n) else 0),.int .i64 (if vld id tm n then 0 else 221)]∧H' = H):=by
 refine Fn.gc (en95 _) rfl ?_
 generalize lock H = H
 have hone:=hd.one
 have hsol:=hd.solid
 unfold c95 Tryz.f95 RV
 simp only [Option.getD_some]
 repeat (first|refine WF.seq ?_|refine Zc ?_|refine WO.nil ?_|refine WF.block ?_|refine WF.skip ?_|refine WF.endBlock ?_|(apply WF.exit;(focus (exact rfl)))|(apply WO.op;(focus ((simp only [rO,Zb,Zn,li,lo,reduceIte,Nat.reduceEqDiff,Nat.reduceAdd,beq_self_eq_true];done)));(focus (simp only [rE,rO,li,lo,Zn,ZN,Zd,Zr,AH.set,AV.cells,if_true,if_false,reduceIte,Nat.reduceEqDiff,Nat.reduceAdd,Nat.reduceMul,hone,hsol,ZH,ZG,Zz,Za Zu,Za Yr,Za Zx,Zf Zo hd,Ze Yi Z1,W5,cu133];exact rfl));(focus (exact rfl)))|(apply WO.unwanted;(focus ((simp only [rO,Zb,Zn,li,lo,reduceIte,Nat.reduceEqDiff,Nat.reduceAdd,beq_self_eq_true];done)));(focus (exact rfl))))
 (apply WO.call;(focus ((simp only [rO,Zb,Zn,li,lo,reduceIte,Nat.reduceEqDiff,Nat.reduceAdd,beq_self_eq_true];done)));(focus (simp only [rE,rO,li,lo,Zn,ZN,Zd,Zr,AH.set,AV.cells,if_true,if_false,reduceIte,Nat.reduceEqDiff,Nat.reduceAdd,Nat.reduceMul,hone,hsol,ZH,ZG,Zz,Za Zu,Za Yr,Za Zx,Zf Zo hd,Ze Yi Z1,W5,cu133];exact rfl));(focus (exact valid_c _ _ _ _ _ hd));rintro _ H ⟨rfl,rfl⟩;refine⟨_,rfl,?_⟩)
 repeat (first|refine WF.seq ?_|refine Zc ?_|refine WO.nil ?_|refine WF.block ?_|refine WF.skip ?_|refine WF.endBlock ?_|(apply WF.exit;(focus (exact rfl)))|(apply WO.op;(focus ((simp only [rO,Zb,Zn,li,lo,reduceIte,Nat.reduceEqDiff,Nat.reduceAdd,beq_self_eq_true];done)));(focus (simp only [rE,rO,li,lo,Zn,ZN,Zd,Zr,AH.set,AV.cells,if_true,if_false,reduceIte,Nat.reduceEqDiff,Nat.reduceAdd,Nat.reduceMul,hone,hsol,ZH,ZG,Zz,Za Zu,Za Yr,Za Zx,Zf Zo hd,Ze Yi Z1,W5,cu133];exact rfl));(focus (exact rfl)))|(apply WO.unwanted;(focus ((simp only [rO,Zb,Zn,li,lo,reduceIte,Nat.reduceEqDiff,Nat.reduceAdd,beq_self_eq_true];done)));(focus (exact rfl))))
 cases hv:vld id tm n
 ·(first|(apply WF.condT;(focus (simp only [Zg,Zd,Tri.gp,Zn,Bool.not_true,Bool.not_false,reduceIte,Nat.reduceEqDiff,hv];done)))|(apply WF.condF;(focus (simp only [Zg,Zd,Tri.gp,Zn,Bool.not_true,Bool.not_false,reduceIte,Nat.reduceEqDiff,hv];done))))
  repeat (first|refine WF.seq ?_|refine Zc ?_|refine WO.nil ?_|refine WF.block ?_|refine WF.skip ?_|refine WF.endBlock ?_|(apply WF.exit;(focus (exact rfl)))|(apply WO.op;(focus ((simp only [rO,Zb,Zn,li,lo,reduceIte,Nat.reduceEqDiff,Nat.reduceAdd,beq_self_eq_true,hv];done)));(focus (simp only [rE,rO,li,lo,Zn,ZN,Zd,Zr,AH.set,AV.cells,if_true,if_false,reduceIte,Nat.reduceEqDiff,Nat.reduceAdd,Nat.reduceMul,hv,hone,hsol,ZH,ZG,Zz,Za Zu,Za Yr,Za Zx,Zf Zo hd,Ze Yi Z1,W5,cu133];exact rfl));(focus (exact rfl)))|(apply WO.unwanted;(focus ((simp only [rO,Zb,Zn,li,lo,reduceIte,Nat.reduceEqDiff,Nat.reduceAdd,beq_self_eq_true,hv];done)));(focus (exact rfl))))
  (apply WF.ret;(focus (simp only [Zi,Tri.gp,Zn,ZL,reduceIte,Nat.reduceEqDiff,rs95];exact rfl)))
  simp
 ·(first|(apply WF.condT;(focus (simp only [Zg,Zd,Tri.gp,Zn,Bool.not_true,Bool.not_false,reduceIte,Nat.reduceEqDiff,hv];done)))|(apply WF.condF;(focus (simp only [Zg,Zd,Tri.gp,Zn,Bool.not_true,Bool.not_false,reduceIte,Nat.reduceEqDiff,hv];done))))
  repeat (first|refine WF.seq ?_|refine Zc ?_|refine WO.nil ?_|refine WF.block ?_|refine WF.skip ?_|refine WF.endBlock ?_|(apply WF.exit;(focus (exact rfl)))|(apply WO.op;(focus ((simp only [rO,Zb,Zn,li,lo,reduceIte,Nat.reduceEqDiff,Nat.reduceAdd,beq_self_eq_true,hv];done)));(focus (simp only [rE,rO,li,lo,Zn,ZN,Zd,Zr,AH.set,AV.cells,if_true,if_false,reduceIte,Nat.reduceEqDiff,Nat.reduceAdd,Nat.reduceMul,hv,hone,hsol,ZH,ZG,Zz,Za Zu,Za Yr,Za Zx,Zf Zo hd,Ze Yi Z1,W5,cu133];exact rfl));(focus (exact rfl)))|(apply WO.unwanted;(focus ((simp only [rO,Zb,Zn,li,lo,reduceIte,Nat.reduceEqDiff,Nat.reduceAdd,beq_self_eq_true,hv];done)));(focus (exact rfl))))
  (apply WF.ret;(focus (simp only [Zi,Tri.gp,Zn,ZL,reduceIte,Nat.reduceEqDiff,rs95];exact rfl)))
  simp
end Go.Ev.C
end
section
namespace Go.Ev.C
open Go.Proofs
set_option maxRecDepth 100000
set_option linter.unusedSimpArgs false
variable {L:World→Prop} [Yu Q L]
theorem wrong_c (H:AH) (id tm:Int) (dv:AV) (n:Nat) (hd:SL dv n):Fn Q L 94 [RV id tm dv] H (fun v H' =>v = .bool (!vld id tm n)∧H' = H):=by
 refine Fn.gc (en94 _) rfl ?_
 generalize lock H = H
 have hone:=hd.one
 have hsol:=hd.solid
 unfold c94 Tryz.f94 RV
 simp only [Option.getD_some]
 repeat (first|refine WF.seq ?_|refine Zc ?_|refine WO.nil ?_|refine WF.block ?_|refine WF.skip ?_|refine WF.endBlock ?_|(apply WF.exit;(focus (exact rfl)))|(apply WO.op;(focus ((simp only [rO,Zb,Zn,li,lo,reduceIte,Nat.reduceEqDiff,Nat.reduceAdd,beq_self_eq_true];done)));(focus (simp only [rE,rO,li,lo,Zn,ZN,Zd,Zr,AH.set,AV.cells,if_true,if_false,reduceIte,Nat.reduceEqDiff,Nat.reduceAdd,Nat.reduceMul,hone,hsol,ZH,ZG,Zz,Za Zu,Za Yr,Za Zx,Zf Zo hd,Ze Yi Z1,W5,cu95];exact rfl));(focus (exact rfl)))|(apply WO.unwanted;(focus ((simp only [rO,Zb,Zn,li,lo,reduceIte,Nat.reduceEqDiff,Nat.reduceAdd,beq_self_eq_true];done)));(focus (exact rfl))))
 (apply WO.call;(focus ((simp only [rO,Zb,Zn,li,lo,reduceIte,Nat.reduceEqDiff,Nat.reduceAdd,beq_self_eq_true];done)));(focus (simp only [rE,rO,li,lo,Zn,ZN,Zd,Zr,AH.set,AV.cells,if_true,if_false,reduceIte,Nat.reduceEqDiff,Nat.reduceAdd,Nat.reduceMul,hone,hsol,ZH,ZG,Zz,Za Zu,Za Yr,Za Zx,Zf Zo hd,Ze Yi Z1,W5,cu95];exact rfl));(focus (exact size_c _ _ _ _ _ hd));rintro _ H ⟨rfl,rfl⟩;refine⟨_,rfl,?_⟩)
 cases hv:vld id tm n
 all_goals repeat (first|refine WF.seq ?_|refine Zc ?_|refine WO.nil ?_|refine WF.block ?_|refine WF.skip ?_|refine WF.endBlock ?_|(apply WF.exit;(focus (exact rfl)))|(apply WO.op;(focus ((simp only [rO,Zb,Zn,li,lo,reduceIte,Nat.reduceEqDiff,Nat.reduceAdd,beq_self_eq_true,hv];done)));(focus (simp only [rE,rO,li,lo,Zn,ZN,Zd,Zr,AH.set,AV.cells,if_true,if_false,reduceIte,Nat.reduceEqDiff,Nat.reduceAdd,Nat.reduceMul,hv,hone,hsol,ZH,ZG,Zz,Za Zu,Za Yr,Za Zx,Zf Zo hd,Ze Yi Z1,W5,cu95];exact rfl));(focus (exact rfl)))|(apply WO.unwanted;(focus ((simp only [rO,Zb,Zn,li,lo,reduceIte,Nat.reduceEqDiff,Nat.reduceAdd,beq_self_eq_true,hv];done)));(focus (exact rfl))))
 all_goals (apply WF.ret;(focus (simp only [Zi,Tri.gp,Zn,ZL,reduceIte,Nat.reduceEqDiff,rs94];exact rfl)))
 all_goals simp
end Go.Ev.C
end
section
namespace Go.Ev.C
open Go.Proofs
set_option maxRecDepth 100000
set_option linter.unusedSimpArgs false
variable {L:World→Prop} [Yu Q L]
/-- What is looked at of a record: its numbers, and its data. -/
structure Yz where
 id:Int
 tm:Int
 r:List AV
abbrev Yz.n (d:Yz):Nat:=d.r.length
def Yz.ok (d:Yz):Bool:=vld d.id d.tm d.n
/-- Data that can be read. -/
def Y3 (H:AH) (v:AV) (r:List AV):Prop:=SL v r.length∧∀b off m cap,v = .slice b off m cap→r ≠ []→∃c,b < H.next∧H.cellsAt b = some c∧cut c off r.length = some r∧r.all Yn = true
def YP (H:AH) (v:AV) (l:List Yz):Prop:=SL v l.length∧∀b off n cap,v = .slice b off n cap→l ≠ []→∃c,b < H.next∧H.cellsAt b = some c∧∀(i:Nat) (d:Yz),l[i]? = some d→∃dv,Y3 H dv d.r∧cut c (off + i * 3) 3 = some [.int .i64 d.id,.int .i64 d.tm,dv]
theorem Y3.up {H H':AH} (u:Up H H') {v:AV} {r:List AV} (h:Y3 H v r):Y3 H' v r :=
 ⟨h.1,fun b off m cap e hn =>by
  obtain⟨c,hb,hc,hr⟩:=h.2 b off m cap e hn
  exact⟨c,Nat.lt_of_lt_of_le hb u.next,by rw [u.cellsAt hb];exact hc,hr⟩⟩
theorem YP.up {H H':AH} (u:Up H H') {v:AV} {l:List Yz} (h:YP H v l):YP H' v l :=
 ⟨h.1,fun b off n cap e hn =>by
  obtain⟨c,hb,hc,hr⟩:=h.2 b off n cap e hn
  refine⟨c,Nat.lt_of_lt_of_le hb u.next,by rw [u.cellsAt hb];exact hc,fun i d hi =>?_⟩
  obtain⟨dv,hd,hcut⟩:=hr i d hi
  exact⟨dv,hd.up u,hcut⟩⟩
theorem Y3.lock {H:AH} {v:AV} {r:List AV} (h:Y3 H v r):Y3 (lock H) v r :=
 ⟨h.1,fun b off m cap e hn =>by
  obtain⟨c,hb,hc,hr⟩:=h.2 b off m cap e hn
  exact⟨c,hb,lock_cellsAt hc,hr⟩⟩
theorem YP.lock {H:AH} {v:AV} {l:List Yz} (h:YP H v l):YP (lock H) v l :=
 ⟨h.1,fun b off n cap e hn =>by
  obtain⟨c,hb,hc,hr⟩:=h.2 b off n cap e hn
  refine⟨c,hb,lock_cellsAt hc,fun i d hi =>?_⟩
  obtain⟨dv,hd,hcut⟩:=hr i d hi
  exact⟨dv,hd.lock,hcut⟩⟩
theorem YP.at {H:AH} {v:AV} {l:List Yz} (h:YP H v l) {i:Nat} (hi:i < l.length):∃b off cap c dv,v = .slice b off l.length cap∧H.cellsAt b = some c∧Y3 H dv l[i].r∧cut c (off + i * 3) 3 = some [.int .i64 l[i].id,.int .i64 l[i].tm,dv]:=by
 obtain⟨h1,h2⟩:=h
 generalize hn:l.length = n at h1
 cases h1 with
 | nil =>omega
 | sl b off n cap =>
  obtain⟨c,_,hc,hr⟩:=h2 b off _ cap rfl (by intro e;subst e;simp at hi)
  obtain⟨dv,hd,hcut⟩:=hr i l[i] (List.getElem?_eq_getElem hi)
  exact⟨b,off,cap,c,dv,rfl,hc,hd,hcut⟩
theorem idxRec_c (H:AH) (rv:AV) (l:List Yz) (hr:YP H rv l) (hlen:l.length < 9223372036854775808):Fn Q L 105 [rv,.func 94 [] []] H (fun v H' =>∃r:Int,v = .int .i64 r∧decide (0≤r) = l.any (fun d =>!d.ok)∧H' = H):=by
 refine Fn.intro (en105 _ _) ?_
 have hs:=hr.1
 unfold c105 Tryz.f105
 simp only [Option.getD_some]
 repeat (first|refine WF.seq ?_|refine Zc ?_|refine WO.nil ?_|refine WF.block ?_|refine WF.skip ?_|refine WF.endBlock ?_|(apply WF.exit;(focus (exact rfl)))|(apply WO.op;(focus ((simp only [rO,Zb,Zn,li,lo,reduceIte,Nat.reduceEqDiff,Nat.reduceAdd,beq_self_eq_true];done)));(focus (simp only [rE,rO,li,lo,Zn,ZN,Zd,Zr,AH.set,AV.cells,if_true,if_false,reduceIte,Nat.reduceEqDiff,Nat.reduceAdd,Nat.reduceMul,Zk,Zf Zk hs];exact rfl));(focus (exact rfl)))|(apply WO.unwanted;(focus ((simp only [rO,Zb,Zn,li,lo,reduceIte,Nat.reduceEqDiff,Nat.reduceAdd,beq_self_eq_true];done)));(focus (exact rfl))))
 refine Ys (fun m t H' =>∃i:Nat,H' = H∧i + m = l.length∧(∀j (h:j < l.length),j < i→l[j].ok = true)∧t.get 0 = some rv∧t.get 1 = some (.func 94 [] [])∧t.get 7 = some (.int .i64 (l.length:Int))∧t.get 8 = some (.int .i64 (i:Int))) l.length ?_ ?_
 ·refine⟨0,rfl,by omega,fun j h hj =>by omega,?_,?_,?_,?_⟩ <;> simp [Tri.gp,Zn]
 rintro m t H' ⟨i,rfl,him,hok,ht0,ht1,ht7,ht8⟩ ih
 by_cases hi:i < l.length
 ·have hlt:decide ((i:Int) < (l.length:Int)) = true:=by simp;omega
  obtain⟨b,off,cap,c,dv,rfl,hc,hd,hcut⟩:=hr.at hi
  repeat (first|refine WF.seq ?_|refine Zc ?_|refine WO.nil ?_|refine WF.block ?_|refine WF.skip ?_|refine WF.endBlock ?_|(apply WF.exit;(focus (exact rfl)))|(apply WO.op;(focus ((simp only [rO,Zb,Zn,li,lo,reduceIte,Nat.reduceEqDiff,Nat.reduceAdd,beq_self_eq_true,hlt];done)));(focus (simp only [rE,rO,li,lo,Zn,ZN,Zd,Zr,AH.set,AV.cells,if_true,if_false,reduceIte,Nat.reduceEqDiff,Nat.reduceAdd,Nat.reduceMul,Zk,Zf Zk hs,Ze Yi Z1,cu94,ht0,ht1,ht7,ht8,hlt];exact rfl));(focus (exact rfl)))|(apply WO.unwanted;(focus ((simp only [rO,Zb,Zn,li,lo,reduceIte,Nat.reduceEqDiff,Nat.reduceAdd,beq_self_eq_true,hlt];done)));(focus (exact rfl))))
  (first|(apply WF.condT;(focus (simp only [Zg,Zd,Tri.gp,Zn,Bool.not_true,Bool.not_false,reduceIte,Nat.reduceEqDiff,hlt];done)))|(apply WF.condF;(focus (simp only [Zg,Zd,Tri.gp,Zn,Bool.not_true,Bool.not_false,reduceIte,Nat.reduceEqDiff,hlt];done))))
  repeat (first|refine WF.seq ?_|refine Zc ?_|refine WO.nil ?_|refine WF.block ?_|refine WF.skip ?_|refine WF.endBlock ?_|(apply WF.exit;(focus (exact rfl)))|(apply WO.op;(focus ((simp only [rO,Zb,Zn,li,lo,reduceIte,Nat.reduceEqDiff,Nat.reduceAdd,beq_self_eq_true,hlt];done)));(focus (simp only [rE,rO,li,lo,Zn,ZN,Zd,Zr,AH.set,AV.cells,if_true,if_false,reduceIte,Nat.reduceEqDiff,Nat.reduceAdd,Nat.reduceMul,Zk,Zf Zk hs,Ze Yi Z1,cu94,ht0,ht1,ht7,ht8,hlt,Zt Zk Z1 hi,hc,hcut];exact rfl));(focus (exact rfl)))|(apply WO.unwanted;(focus ((simp only [rO,Zb,Zn,li,lo,reduceIte,Nat.reduceEqDiff,Nat.reduceAdd,beq_self_eq_true,hlt];done)));(focus (exact rfl))))
  (apply WO.call;(focus ((simp only [rO,Zb,Zn,li,lo,reduceIte,Nat.reduceEqDiff,Nat.reduceAdd,beq_self_eq_true,hlt];done)));(focus (simp only [rE,rO,li,lo,Zn,ZN,Zd,Zr,AH.set,AV.cells,if_true,if_false,reduceIte,Nat.reduceEqDiff,Nat.reduceAdd,Nat.reduceMul,Zk,Zf Zk hs,Ze Yi Z1,cu94,ht0,ht1,ht7,ht8,hlt,Zt Zk Z1 hi,hc,hcut];exact rfl));(focus (exact wrong_c _ _ _ _ _ hd.1));rintro _ H ⟨rfl,rfl⟩;refine⟨_,rfl,?_⟩)
  repeat (first|refine WF.seq ?_|refine Zc ?_|refine WO.nil ?_|refine WF.block ?_|refine WF.skip ?_|refine WF.endBlock ?_|(apply WF.exit;(focus (exact rfl)))|(apply WO.op;(focus ((simp only [rO,Zb,Zn,li,lo,reduceIte,Nat.reduceEqDiff,Nat.reduceAdd,beq_self_eq_true];done)));(focus (simp only [rE,rO,li,lo,Zn,ZN,Zd,Zr,AH.set,AV.cells,if_true,if_false,reduceIte,Nat.reduceEqDiff,Nat.reduceAdd,Nat.reduceMul,Zk,Zf Zk hs,Ze Yi Z1,cu94,ht0,ht1,ht7,ht8];exact rfl));(focus (exact rfl)))|(apply WO.unwanted;(focus ((simp only [rO,Zb,Zn,li,lo,reduceIte,Nat.reduceEqDiff,Nat.reduceAdd,beq_self_eq_true];done)));(focus (exact rfl))))
  cases hv:vld l[i].id l[i].tm l[i].n
  ·(first|(apply WF.condT;(focus (simp only [Zg,Zd,Tri.gp,Zn,Bool.not_true,Bool.not_false,reduceIte,Nat.reduceEqDiff,hv];done)))|(apply WF.condF;(focus (simp only [Zg,Zd,Tri.gp,Zn,Bool.not_true,Bool.not_false,reduceIte,Nat.reduceEqDiff,hv];done))))
   repeat (first|refine WF.seq ?_|refine Zc ?_|refine WO.nil ?_|refine WF.block ?_|refine WF.skip ?_|refine WF.endBlock ?_|(apply WF.exit;(focus (exact rfl)))|(apply WO.op;(focus ((simp only [rO,Zb,Zn,li,lo,reduceIte,Nat.reduceEqDiff,Nat.reduceAdd,beq_self_eq_true];done)));(focus (simp only [rE,rO,li,lo,Zn,ZN,Zd,Zr,AH.set,AV.cells,if_true,if_false,reduceIte,Nat.reduceEqDiff,Nat.reduceAdd,Nat.reduceMul,Zk,Zf Zk hs,Ze Yi Z1,cu94,ht0,ht1,ht7,ht8];exact rfl));(focus (exact rfl)))|(apply WO.unwanted;(focus ((simp only [rO,Zb,Zn,li,lo,reduceIte,Nat.reduceEqDiff,Nat.reduceAdd,beq_self_eq_true];done)));(focus (exact rfl))))
   (apply WF.ret;(focus (simp only [Zi,Tri.gp,Zn,ZL,reduceIte,Nat.reduceEqDiff,rs105];exact rfl)))
   refine⟨_,rfl,?_,rfl⟩
   have h1:(l.any fun d =>!d.ok) = true:=List.any_eq_true.2 ⟨l[i],List.getElem_mem _,by simp [Yz.ok,hv]⟩
   rw [h1]
   simp
  ·(first|(apply WF.condT;(focus (simp only [Zg,Zd,Tri.gp,Zn,Bool.not_true,Bool.not_false,reduceIte,Nat.reduceEqDiff,hv];done)))|(apply WF.condF;(focus (simp only [Zg,Zd,Tri.gp,Zn,Bool.not_true,Bool.not_false,reduceIte,Nat.reduceEqDiff,hv];done))))
   repeat (first|refine WF.seq ?_|refine Zc ?_|refine WO.nil ?_|refine WF.block ?_|refine WF.skip ?_|refine WF.endBlock ?_|(apply WF.exit;(focus (exact rfl)))|(apply WO.op;(focus ((simp only [rO,Zb,Zn,li,lo,reduceIte,Nat.reduceEqDiff,Nat.reduceAdd,beq_self_eq_true];done)));(focus (simp only [rE,rO,li,lo,Zn,ZN,Zd,Zr,AH.set,AV.cells,if_true,if_false,reduceIte,Nat.reduceEqDiff,Nat.reduceAdd,Nat.reduceMul,Zk,Zf Zk hs,Ze Yi Z1,cu94,ht0,ht1,ht7,ht8];exact rfl));(focus (exact rfl)))|(apply WO.unwanted;(focus ((simp only [rO,Zb,Zn,li,lo,reduceIte,Nat.reduceEqDiff,Nat.reduceAdd,beq_self_eq_true];done)));(focus (exact rfl))))
   refine Yt ?_
   refine ih (m - 1) _ _ (by omega) ⟨i + 1,rfl,by omega,fun j h hj =>?_,?_,?_,?_,?_⟩
   ·by_cases e:j = i
    ·subst e;exact hv
    ·exact hok j h (by omega)
   ·simp [Tri.gp,ht0]
   ·simp [Tri.gp,ht1]
   ·simp [Tri.gp,ht7]
   ·simp only [Tri.gp,reduceIte]
    rw [Go.Ev.w64 (by omega) (by omega)]
    simp
 ·have hlt:decide ((i:Int) < (l.length:Int)) = false:=by simp;omega
  repeat (first|refine WF.seq ?_|refine Zc ?_|refine WO.nil ?_|refine WF.block ?_|refine WF.skip ?_|refine WF.endBlock ?_|(apply WF.exit;(focus (exact rfl)))|(apply WO.op;(focus ((simp only [rO,Zb,Zn,li,lo,reduceIte,Nat.reduceEqDiff,Nat.reduceAdd,beq_self_eq_true,hlt];done)));(focus (simp only [rE,rO,li,lo,Zn,ZN,Zd,Zr,AH.set,AV.cells,if_true,if_false,reduceIte,Nat.reduceEqDiff,Nat.reduceAdd,Nat.reduceMul,Zk,Zf Zk hs,Ze Yi Z1,cu94,ht0,ht1,ht7,ht8,hlt];exact rfl));(focus (exact rfl)))|(apply WO.unwanted;(focus ((simp only [rO,Zb,Zn,li,lo,reduceIte,Nat.reduceEqDiff,Nat.reduceAdd,beq_self_eq_true,hlt];done)));(focus (exact rfl))))
  (first|(apply WF.condT;(focus (simp only [Zg,Zd,Tri.gp,Zn,Bool.not_true,Bool.not_false,reduceIte,Nat.reduceEqDiff,hlt];done)))|(apply WF.condF;(focus (simp only [Zg,Zd,Tri.gp,Zn,Bool.not_true,Bool.not_false,reduceIte,Nat.reduceEqDiff,hlt];done))))
  repeat (first|refine WF.seq ?_|refine Zc ?_|refine WO.nil ?_|refine WF.block ?_|refine WF.skip ?_|refine WF.endBlock ?_|(apply WF.exit;(focus (exact rfl)))|(apply WO.op;(focus ((simp only [rO,Zb,Zn,li,lo,reduceIte,Nat.reduceEqDiff,Nat.reduceAdd,beq_self_eq_true,hlt];done)));(focus (simp only [rE,rO,li,lo,Zn,ZN,Zd,Zr,AH.set,AV.cells,if_true,if_false,reduceIte,Nat.reduceEqDiff,Nat.reduceAdd,Nat.reduceMul,Zk,Zf Zk hs,Ze Yi Z1,cu94,ht0,ht1,ht7,ht8,hlt];exact rfl));(focus (exact rfl)))|(apply WO.unwanted;(focus ((simp only [rO,Zb,Zn,li,lo,reduceIte,Nat.reduceEqDiff,Nat.reduceAdd,beq_self_eq_true,hlt];done)));(focus (exact rfl))))
  (apply WF.ret;(focus (simp only [Zi,Tri.gp,Zn,ZL,reduceIte,Nat.reduceEqDiff,rs105];exact rfl)))
  refine⟨_,rfl,?_,rfl⟩
  have h1:(l.any fun d =>!d.ok) = false:=by
   rw [List.any_eq_false]
   intro d hd
   obtain⟨j,hj,rfl⟩:=List.mem_iff_getElem.1 hd
   simp [hok j hj (by omega)]
  rw [h1]
  simp
end Go.Ev.C
end
section
namespace Go.Ev.C
open Go.Proofs
set_option maxRecDepth 100000
set_option linter.unusedSimpArgs false
variable {L:World→Prop} [Yu Q L]
theorem hasRec_c (H:AH) (rv:AV) (l:List Yz) (hr:YP H rv l) (hlen:l.length < 9223372036854775808):Fn Q L 96 [rv,.func 94 [] []] H (fun v H' =>v = .bool (l.any fun d =>!d.ok)∧H' = H):=by
 refine Fn.intro (en96 _ _) ?_
 unfold c96 Tryz.f96
 simp only [Option.getD_some]
 repeat (first|refine WF.seq ?_|refine Zc ?_|refine WO.nil ?_|refine WF.block ?_|refine WF.skip ?_|refine WF.endBlock ?_|(apply WF.exit;(focus (exact rfl)))|(apply WO.op;(focus ((simp only [rO,Zb,Zn,li,lo,reduceIte,Nat.reduceEqDiff,Nat.reduceAdd,beq_self_eq_true];done)));(focus (simp only [rE,rO,li,lo,Zn,ZN,Zd,Zr,AH.set,AV.cells,if_true,if_false,reduceIte,Nat.reduceEqDiff,Nat.reduceAdd,Nat.reduceMul];exact rfl));(focus (exact rfl)))|(apply WO.unwanted;(focus ((simp only [rO,Zb,Zn,li,lo,reduceIte,Nat.reduceEqDiff,Nat.reduceAdd,beq_self_eq_true];done)));(focus (exact rfl))))
 (apply WO.call;(focus ((simp only [rO,Zb,Zn,li,lo,reduceIte,Nat.reduceEqDiff,Nat.reduceAdd,beq_self_eq_true];done)));(focus (simp only [rE,rO,li,lo,Zn,ZN,Zd,Zr,AH.set,AV.cells,if_true,if_false,reduceIte,Nat.reduceEqDiff,Nat.reduceAdd,Nat.reduceMul,cu105];exact rfl));(focus (exact idxRec_c _ _ _ hr hlen));rintro _ _ ⟨r,rfl,hr0,rfl⟩;refine⟨_,rfl,?_⟩)
 repeat (first|refine WF.seq ?_|refine Zc ?_|refine WO.nil ?_|refine WF.block ?_|refine WF.skip ?_|refine WF.endBlock ?_|(apply WF.exit;(focus (exact rfl)))|(apply WO.op;(focus ((simp only [rO,Zb,Zn,li,lo,reduceIte,Nat.reduceEqDiff,Nat.reduceAdd,beq_self_eq_true];done)));(focus (simp only [rE,rO,li,lo,Zn,ZN,Zd,Zr,AH.set,AV.cells,if_true,if_false,reduceIte,Nat.reduceEqDiff,Nat.reduceAdd,Nat.reduceMul,hr0];exact rfl));(focus (exact rfl)))|(apply WO.unwanted;(focus ((simp only [rO,Zb,Zn,li,lo,reduceIte,Nat.reduceEqDiff,Nat.reduceAdd,beq_self_eq_true];done)));(focus (exact rfl))))
 (apply WF.ret;(focus (simp only [Zi,Tri.gp,Zn,ZL,reduceIte,Nat.reduceEqDiff,rs96];exact rfl)))
 exact⟨rfl,rfl⟩
def BV (cpu:Int) (rv:AV) (dr:Int) (ah:Bool):AV:=.agg [.int .i64 cpu,rv,.int .i64 dr,.bool ah]
def okB (cpu:Int) (l:List Yz) (dr:Int):Bool:=decide (0≤cpu) && decide (cpu < 4) && decide ((l.length:Int)≤1000) && decide (0≤dr) && decide (dr≤1099511627776) && !(l.any fun d =>!d.ok)
theorem whole_c (H:AH) (cpu:Int) (rv:AV) (dr:Int) (ah:Bool) (l:List Yz) (hr:YP H rv l) (hlen:l.length < 9223372036854775808):Fn Q L 54 [BV cpu rv dr ah] H (fun v H' =>v = .bool (okB cpu l dr)∧H' = H):=by
 refine Fn.gc (en54 _) rfl ?_
 have hr:=hr.lock
 generalize lock H = H at hr
 have hs:=hr.1
 have hone:=hs.one
 have hsol:=hs.solid
 unfold c54 Tryz.f54 BV
 simp only [Option.getD_some]
 cases h1:decide (0≤cpu)
 ·repeat (first|refine WF.seq ?_|refine Zc ?_|refine WO.nil ?_|refine WF.block ?_|refine WF.skip ?_|refine WF.endBlock ?_|(apply WF.exit;(focus (exact rfl)))|(apply WO.op;(focus ((simp only [rO,Zb,Zn,li,lo,reduceIte,Nat.reduceEqDiff,Nat.reduceAdd,beq_self_eq_true,h1];done)));(focus (simp only [rE,rO,li,lo,Zn,ZN,Zd,Zr,AH.set,AV.cells,if_true,if_false,reduceIte,Nat.reduceEqDiff,Nat.reduceAdd,Nat.reduceMul,h1,hone,hsol,ZJ,Zp,Zy,Za Zu,Za Zw,Zf Zk hs,cu96];exact rfl));(focus (exact rfl)))|(apply WO.unwanted;(focus ((simp only [rO,Zb,Zn,li,lo,reduceIte,Nat.reduceEqDiff,Nat.reduceAdd,beq_self_eq_true,h1];done)));(focus (exact rfl))))
  (apply WF.ret;(focus (simp only [Zi,Tri.gp,Zn,ZL,reduceIte,Nat.reduceEqDiff,rs54];exact rfl)))
  simp [okB,h1]
 cases h2:decide (cpu < 4)
 ·repeat (first|refine WF.seq ?_|refine Zc ?_|refine WO.nil ?_|refine WF.block ?_|refine WF.skip ?_|refine WF.endBlock ?_|(apply WF.exit;(focus (exact rfl)))|(apply WO.op;(focus ((simp only [rO,Zb,Zn,li,lo,reduceIte,Nat.reduceEqDiff,Nat.reduceAdd,beq_self_eq_true,h1,h2];done)));(focus (simp only [rE,rO,li,lo,Zn,ZN,Zd,Zr,AH.set,AV.cells,if_true,if_false,reduceIte,Nat.reduceEqDiff,Nat.reduceAdd,Nat.reduceMul,h1,h2,hone,hsol,ZJ,Zp,Zy,Za Zu,Za Zw,Zf Zk hs,cu96];exact rfl));(focus (exact rfl)))|(apply WO.unwanted;(focus ((simp only [rO,Zb,Zn,li,lo,reduceIte,Nat.reduceEqDiff,Nat.reduceAdd,beq_self_eq_true,h1,h2];done)));(focus (exact rfl))))
  (apply WF.ret;(focus (simp only [Zi,Tri.gp,Zn,ZL,reduceIte,Nat.reduceEqDiff,rs54];exact rfl)))
  simp [okB,h1,h2]
 cases h3:decide ((l.length:Int)≤1000)
 ·repeat (first|refine WF.seq ?_|refine Zc ?_|refine WO.nil ?_|refine WF.block ?_|refine WF.skip ?_|refine WF.endBlock ?_|(apply WF.exit;(focus (exact rfl)))|(apply WO.op;(focus ((simp only [rO,Zb,Zn,li,lo,reduceIte,Nat.reduceEqDiff,Nat.reduceAdd,beq_self_eq_true,h1,h2,h3];done)));(focus (simp only [rE,rO,li,lo,Zn,ZN,Zd,Zr,AH.set,AV.cells,if_true,if_false,reduceIte,Nat.reduceEqDiff,Nat.reduceAdd,Nat.reduceMul,h1,h2,h3,hone,hsol,ZJ,Zp,Zy,Za Zu,Za Zw,Zf Zk hs,cu96];exact rfl));(focus (exact rfl)))|(apply WO.unwanted;(focus ((simp only [rO,Zb,Zn,li,lo,reduceIte,Nat.reduceEqDiff,Nat.reduceAdd,beq_self_eq_true,h1,h2,h3];done)));(focus (exact rfl))))
  (apply WF.ret;(focus (simp only [Zi,Tri.gp,Zn,ZL,reduceIte,Nat.reduceEqDiff,rs54];exact rfl)))
  simp [okB,h1,h2,h3]
 cases h4:decide (0≤dr)
 ·repeat (first|refine WF.seq ?_|refine Zc ?_|refine WO.nil ?_|refine WF.block ?_|refine WF.skip ?_|refine WF.endBlock ?_|(apply WF.exit;(focus (exact rfl)))|(apply WO.op;(focus ((simp only [rO,Zb,Zn,li,lo,reduceIte,Nat.reduceEqDiff,Nat.reduceAdd,beq_self_eq_true,h1,h2,h3,h4];done)));(focus (simp only [rE,rO,li,lo,Zn,ZN,Zd,Zr,AH.set,AV.cells,if_true,if_false,reduceIte,Nat.reduceEqDiff,Nat.reduceAdd,Nat.reduceMul,h1,h2,h3,h4,hone,hsol,ZJ,Zp,Zy,Za Zu,Za Zw,Zf Zk hs,cu96];exact rfl));(focus (exact rfl)))|(apply WO.unwanted;(focus ((simp only [rO,Zb,Zn,li,lo,reduceIte,Nat.reduceEqDiff,Nat.reduceAdd,beq_self_eq_true,h1,h2,h3,h4];done)));(focus (exact rfl))))
  (apply WF.ret;(focus (simp only [Zi,Tri.gp,Zn,ZL,reduceIte,Nat.reduceEqDiff,rs54];exact rfl)))
  simp [okB,h1,h2,h3,h4]
 cases h5:decide (dr≤1099511627776)
 ·repeat (first|refine WF.seq ?_|refine Zc ?_|refine WO.nil ?_|refine WF.block ?_|refine WF.skip ?_|refine WF.endBlock ?_|(apply WF.exit;(focus (exact rfl)))|(apply WO.op;(focus ((simp only [rO,Zb,Zn,li,lo,reduceIte,Nat.reduceEqDiff,Nat.reduceAdd,beq_self_eq_true,h1,h2,h3,h4,h5];done)));(focus (simp only [rE,rO,li,lo,Zn,ZN,Zd,Zr,AH.set,AV.cells,if_true,if_false,reduceIte,Nat.reduceEqDiff,Nat.reduceAdd,Nat.reduceMul,h1,h2,h3,h4,h5,hone,hsol,ZJ,Zp,Zy,Za Zu,Za Zw,Zf Zk hs,cu96];exact rfl));(focus (exact rfl)))|(apply WO.unwanted;(focus ((simp only [rO,Zb,Zn,li,lo,reduceIte,Nat.reduceEqDiff,Nat.reduceAdd,beq_self_eq_true,h1,h2,h3,h4,h5];done)));(focus (exact rfl))))
  (apply WF.ret;(focus (simp only [Zi,Tri.gp,Zn,ZL,reduceIte,Nat.reduceEqDiff,rs54];exact rfl)))
  simp [okB,h1,h2,h3,h4,h5]
 ·repeat (first|refine WF.seq ?_|refine Zc ?_|refine WO.nil ?_|refine WF.block ?_|refine WF.skip ?_|refine WF.endBlock ?_|(apply WF.exit;(focus (exact rfl)))|(apply WO.op;(focus ((simp only [rO,Zb,Zn,li,lo,reduceIte,Nat.reduceEqDiff,Nat.reduceAdd,beq_self_eq_true,h1,h2,h3,h4,h5];done)));(focus (simp only [rE,rO,li,lo,Zn,ZN,Zd,Zr,AH.set,AV.cells,if_true,if_false,reduceIte,Nat.reduceEqDiff,Nat.reduceAdd,Nat.reduceMul,h1,h2,h3,h4,h5,hone,hsol,ZJ,Zp,Zy,Za Zu,Za Zw,Zf Zk hs,cu96];exact rfl));(focus (exact rfl)))|(apply WO.unwanted;(focus ((simp only [rO,Zb,Zn,li,lo,reduceIte,Nat.reduceEqDiff,Nat.reduceAdd,beq_self_eq_true,h1,h2,h3,h4,h5];done)));(focus (exact rfl))))
  (apply WO.call;(focus ((simp only [rO,Zb,Zn,li,lo,reduceIte,Nat.reduceEqDiff,Nat.reduceAdd,beq_self_eq_true,h1,h2,h3,h4,h5];done)));(focus (simp only [rE,rO,li,lo,Zn,ZN,Zd,Zr,AH.set,AV.cells,if_true,if_false,reduceIte,Nat.reduceEqDiff,Nat.reduceAdd,Nat.reduceMul,h1,h2,h3,h4,h5,hone,hsol,ZJ,Zp,Zy,Za Zu,Za Zw,Zf Zk hs,cu96];exact rfl));(focus (exact hasRec_c _ _ _ (hr.up (Up.box _ _)) hlen));rintro _ H ⟨rfl,rfl⟩;refine⟨_,rfl,?_⟩)
  repeat (first|refine WF.seq ?_|refine Zc ?_|refine WO.nil ?_|refine WF.block ?_|refine WF.skip ?_|refine WF.endBlock ?_|(apply WF.exit;(focus (exact rfl)))|(apply WO.op;(focus ((simp only [rO,Zb,Zn,li,lo,reduceIte,Nat.reduceEqDiff,Nat.reduceAdd,beq_self_eq_true,h1,h2,h3,h4,h5];done)));(focus (simp only [rE,rO,li,lo,Zn,ZN,Zd,Zr,AH.set,AV.cells,if_true,if_false,reduceIte,Nat.reduceEqDiff,Nat.reduceAdd,Nat.reduceMul,h1,h2,h3,h4,h5,hone,hsol,ZJ,Zp,Zy,Za Zu,Za Zw,Zf Zk hs,cu96];exact rfl));(focus (exact rfl)))|(apply WO.unwanted;(focus ((simp only [rO,Zb,Zn,li,lo,reduceIte,Nat.reduceEqDiff,Nat.reduceAdd,beq_self_eq_true,h1,h2,h3,h4,h5];done)));(focus (exact rfl))))
  (apply WF.ret;(focus (simp only [Zi,Tri.gp,Zn,ZL,reduceIte,Nat.reduceEqDiff,rs54];exact rfl)))
  simp [okB,h1,h2,h3,h4,h5]
end Go.Ev.C
end