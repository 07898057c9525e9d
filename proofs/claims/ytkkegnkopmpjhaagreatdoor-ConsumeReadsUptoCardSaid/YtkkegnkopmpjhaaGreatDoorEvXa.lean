/- Contracts: Encode; what a panic leaves; lists that grow. -/
import Derived.Test.YtkkegnkopmpjhaaGreatDoorEvX
import Derived.Test.YtkkegnkopmpjhaaGreatDoorEvE
set_option linter.unusedVariables false
set_option linter.unusedSimpArgs false
set_option linter.all false
section
namespace Go.Ev.C
open Go.Proofs
set_option maxRecDepth 100000
set_option linter.unusedSimpArgs false
variable {L:World→Prop} [Yu Q L]
structure XC where
 cpu:Int
 recs:List Yz
 dr:Int
 ah:Bool
def XC.ok (d:XC):Bool:=okB d.cpu d.recs d.dr
def YI (H:AH) (v:AV) (l:List XC):Prop:=SL v l.length∧∀b off n cap,v = .slice b off n cap→l ≠ []→∃c,b < H.next∧H.cellsAt b = some c∧∀(i:Nat) (d:XC),l[i]? = some d→∃rv,YP H rv d.recs∧d.recs.length < 9223372036854775808∧cut c (off + i * 4) 4 = some [.int .i64 d.cpu,rv,.int .i64 d.dr,.bool d.ah]
theorem YI.up {H H':AH} (u:Up H H') {v:AV} {l:List XC} (h:YI H v l):YI H' v l :=
 ⟨h.1,fun b off n cap e hn =>by
  obtain⟨c,hb,hc,hr⟩:=h.2 b off n cap e hn
  refine⟨c,Nat.lt_of_lt_of_le hb u.next,by rw [u.cellsAt hb];exact hc,fun i d hi =>?_⟩
  obtain⟨dv,hd,hl,hcut⟩:=hr i d hi
  exact⟨dv,hd.up u,hl,hcut⟩⟩
theorem YI.lock {H:AH} {v:AV} {l:List XC} (h:YI H v l):YI (lock H) v l :=
 ⟨h.1,fun b off n cap e hn =>by
  obtain⟨c,hb,hc,hr⟩:=h.2 b off n cap e hn
  refine⟨c,hb,lock_cellsAt hc,fun i d hi =>?_⟩
  obtain⟨dv,hd,hl,hcut⟩:=hr i d hi
  exact⟨dv,hd.lock,hl,hcut⟩⟩
theorem YI.at {H:AH} {v:AV} {l:List XC} (h:YI H v l) {i:Nat} (hi:i < l.length):∃b off cap c rv,v = .slice b off l.length cap∧b < H.next∧H.cellsAt b = some c∧YP H rv l[i].recs∧l[i].recs.length < 9223372036854775808∧cut c (off + i * 4) 4 = some [.int .i64 l[i].cpu,rv,.int .i64 l[i].dr,.bool l[i].ah]:=by
 obtain⟨h1,h2⟩:=h
 generalize hn:l.length = n at h1
 cases h1 with
 | nil =>omega
 | sl b off n cap =>
  obtain⟨c,hb,hc,hr⟩:=h2 b off _ cap rfl (by intro e;subst e;simp at hi)
  obtain⟨dv,hd,hl,hcut⟩:=hr i l[i] (List.getElem?_eq_getElem hi)
  exact⟨b,off,cap,c,dv,rfl,hb,hc,hd,hl,hcut⟩
theorem wrongB_c (H:AH) (cpu:Int) (rv:AV) (dr:Int) (ah:Bool) (l:List Yz) (hr:YP H rv l) (hlen:l.length < 9223372036854775808):Fn Q L 53 [BV cpu rv dr ah] H (fun v H' =>v = .bool (!okB cpu l dr)∧H' = H):=by
 refine Fn.gc (en53 _) rfl ?_
 have hr:=hr.lock
 generalize lock H = H at hr
 have hs:=hr.1
 have hone:=hs.one
 have hsol:=hs.solid
 unfold c53 Tryz.f53 BV
 simp only [Option.getD_some]
 repeat (first|refine WF.seq ?_|refine Zc ?_|refine WO.nil ?_|refine WF.block ?_|refine WF.skip ?_|refine WF.endBlock ?_|(apply WF.exit;(focus (exact rfl)))|(apply WO.op;(focus ((simp only [rO,Zb,Zn,decide_true,li,lo,reduceIte,Nat.reduceEqDiff,Nat.reduceAdd,beq_self_eq_true];done)));(focus (simp only [rE,rO,li,lo,Zn,ZN,Zd,Zr,AH.set,AV.cells,decide_true,if_true,if_false,reduceIte,Nat.reduceEqDiff,Nat.reduceAdd,Nat.reduceMul,hone,hsol,Ze ZT Zv,cut_four,cu54];exact rfl));(focus (exact rfl)))|(apply WO.unwanted;(focus ((simp only [rO,Zb,Zn,decide_true,li,lo,reduceIte,Nat.reduceEqDiff,Nat.reduceAdd,beq_self_eq_true];done)));(focus (exact rfl))))
 (apply WO.call;(focus ((simp only [rO,Zb,Zn,decide_true,li,lo,reduceIte,Nat.reduceEqDiff,Nat.reduceAdd,beq_self_eq_true];done)));(focus (simp only [rE,rO,li,lo,Zn,ZN,Zd,Zr,AH.set,AV.cells,decide_true,if_true,if_false,reduceIte,Nat.reduceEqDiff,Nat.reduceAdd,Nat.reduceMul,hone,hsol,Ze ZT Zv,cut_four,cu54];exact rfl));(focus (exact whole_c _ _ _ _ _ _ (hr.up (Up.box _ _)) hlen));rintro _ H ⟨rfl,rfl⟩;refine⟨_,rfl,?_⟩)
 repeat (first|refine WF.seq ?_|refine Zc ?_|refine WO.nil ?_|refine WF.block ?_|refine WF.skip ?_|refine WF.endBlock ?_|(apply WF.exit;(focus (exact rfl)))|(apply WO.op;(focus ((simp only [rO,Zb,Zn,decide_true,li,lo,reduceIte,Nat.reduceEqDiff,Nat.reduceAdd,beq_self_eq_true];done)));(focus (simp only [rE,rO,li,lo,Zn,ZN,Zd,Zr,AH.set,AV.cells,decide_true,if_true,if_false,reduceIte,Nat.reduceEqDiff,Nat.reduceAdd,Nat.reduceMul,hone,hsol,Ze ZT Zv,cut_four,cu54];exact rfl));(focus (exact rfl)))|(apply WO.unwanted;(focus ((simp only [rO,Zb,Zn,decide_true,li,lo,reduceIte,Nat.reduceEqDiff,Nat.reduceAdd,beq_self_eq_true];done)));(focus (exact rfl))))
 (apply WF.ret;(focus (simp only [Zi,Tri.gp,Zn,ZL,reduceIte,Nat.reduceEqDiff,rs53];exact rfl)))
 rfl
theorem idxBat_c (H:AH) (bv:AV) (l:List XC) (hr:YI H bv l) (hlen:l.length < 9223372036854775808):Fn Q L 93 [bv,.func 53 [] []] H (fun v H' =>∃r:Int,v = .int .i64 r∧decide (0≤r) = l.any (fun d =>!d.ok)∧H' = H):=by
 refine Fn.intro (en93 _ _) ?_
 have hs:=hr.1
 unfold c93 Tryz.f93
 simp only [Option.getD_some]
 repeat (first|refine WF.seq ?_|refine Zc ?_|refine WO.nil ?_|refine WF.block ?_|refine WF.skip ?_|refine WF.endBlock ?_|(apply WF.exit;(focus (exact rfl)))|(apply WO.op;(focus ((simp only [rO,Zb,Zn,decide_true,li,lo,reduceIte,Nat.reduceEqDiff,Nat.reduceAdd,beq_self_eq_true];done)));(focus (simp only [rE,rO,li,lo,Zn,ZN,Zd,Zr,AH.set,AV.cells,decide_true,if_true,if_false,reduceIte,Nat.reduceEqDiff,Nat.reduceAdd,Nat.reduceMul,Zj,Zf Zj hs];exact rfl));(focus (exact rfl)))|(apply WO.unwanted;(focus ((simp only [rO,Zb,Zn,decide_true,li,lo,reduceIte,Nat.reduceEqDiff,Nat.reduceAdd,beq_self_eq_true];done)));(focus (exact rfl))))
 refine Ys (fun m t H' =>∃i:Nat,H' = H∧i + m = l.length∧(∀j (h:j < l.length),j < i→l[j].ok = true)∧t.get 0 = some bv∧t.get 1 = some (.func 53 [] [])∧t.get 7 = some (.int .i64 (l.length:Int))∧t.get 8 = some (.int .i64 (i:Int))) l.length ?_ ?_
 ·refine⟨0,rfl,by omega,fun j h hj =>by omega,?_,?_,?_,?_⟩ <;> simp [Tri.gp,Zn]
 rintro m t H' ⟨i,rfl,him,hok,ht0,ht1,ht7,ht8⟩ ih
 by_cases hi:i < l.length
 ·have hlt:decide ((i:Int) < (l.length:Int)) = true:=by simp;omega
  obtain⟨b,off,cap,c,rv,rfl,hb,hc,hd,hl,hcut⟩:=hr.at hi
  repeat (first|refine WF.seq ?_|refine Zc ?_|refine WO.nil ?_|refine WF.block ?_|refine WF.skip ?_|refine WF.endBlock ?_|(apply WF.exit;(focus (exact rfl)))|(apply WO.op;(focus ((simp only [rO,Zb,Zn,decide_true,li,lo,reduceIte,Nat.reduceEqDiff,Nat.reduceAdd,beq_self_eq_true,hlt];done)));(focus (simp only [rE,rO,li,lo,Zn,ZN,Zd,Zr,AH.set,AV.cells,decide_true,if_true,if_false,reduceIte,Nat.reduceEqDiff,Nat.reduceAdd,Nat.reduceMul,Zj,Zf Zj hs,Ze ZT Zv,cu53,ht0,ht1,ht7,ht8,hlt];exact rfl));(focus (exact rfl)))|(apply WO.unwanted;(focus ((simp only [rO,Zb,Zn,decide_true,li,lo,reduceIte,Nat.reduceEqDiff,Nat.reduceAdd,beq_self_eq_true,hlt];done)));(focus (exact rfl))))
  (first|(apply WF.condT;(focus (simp only [Zg,Zd,Tri.gp,Zn,Bool.not_true,Bool.not_false,reduceIte,Nat.reduceEqDiff,hlt];done)))|(apply WF.condF;(focus (simp only [Zg,Zd,Tri.gp,Zn,Bool.not_true,Bool.not_false,reduceIte,Nat.reduceEqDiff,hlt];done))))
  repeat (first|refine WF.seq ?_|refine Zc ?_|refine WO.nil ?_|refine WF.block ?_|refine WF.skip ?_|refine WF.endBlock ?_|(apply WF.exit;(focus (exact rfl)))|(apply WO.op;(focus ((simp only [rO,Zb,Zn,decide_true,li,lo,reduceIte,Nat.reduceEqDiff,Nat.reduceAdd,beq_self_eq_true,hlt];done)));(focus (simp only [rE,rO,li,lo,Zn,ZN,Zd,Zr,AH.set,AV.cells,decide_true,if_true,if_false,reduceIte,Nat.reduceEqDiff,Nat.reduceAdd,Nat.reduceMul,Zj,Zf Zj hs,Ze ZT Zv,cu53,ht0,ht1,ht7,ht8,hlt,Zt Zj Zv hi,hc,hcut];exact rfl));(focus (exact rfl)))|(apply WO.unwanted;(focus ((simp only [rO,Zb,Zn,decide_true,li,lo,reduceIte,Nat.reduceEqDiff,Nat.reduceAdd,beq_self_eq_true,hlt];done)));(focus (exact rfl))))
  (apply WO.call;(focus ((simp only [rO,Zb,Zn,decide_true,li,lo,reduceIte,Nat.reduceEqDiff,Nat.reduceAdd,beq_self_eq_true,hlt];done)));(focus (simp only [rE,rO,li,lo,Zn,ZN,Zd,Zr,AH.set,AV.cells,decide_true,if_true,if_false,reduceIte,Nat.reduceEqDiff,Nat.reduceAdd,Nat.reduceMul,Zj,Zf Zj hs,Ze ZT Zv,cu53,ht0,ht1,ht7,ht8,hlt,Zt Zj Zv hi,hc,hcut];exact rfl));(focus (exact wrongB_c _ _ _ _ _ _ hd hl));rintro _ H ⟨rfl,rfl⟩;refine⟨_,rfl,?_⟩)
  repeat (first|refine WF.seq ?_|refine Zc ?_|refine WO.nil ?_|refine WF.block ?_|refine WF.skip ?_|refine WF.endBlock ?_|(apply WF.exit;(focus (exact rfl)))|(apply WO.op;(focus ((simp only [rO,Zb,Zn,decide_true,li,lo,reduceIte,Nat.reduceEqDiff,Nat.reduceAdd,beq_self_eq_true];done)));(focus (simp only [rE,rO,li,lo,Zn,ZN,Zd,Zr,AH.set,AV.cells,decide_true,if_true,if_false,reduceIte,Nat.reduceEqDiff,Nat.reduceAdd,Nat.reduceMul,Zj,Zf Zj hs,Ze ZT Zv,cu53,ht0,ht1,ht7,ht8];exact rfl));(focus (exact rfl)))|(apply WO.unwanted;(focus ((simp only [rO,Zb,Zn,decide_true,li,lo,reduceIte,Nat.reduceEqDiff,Nat.reduceAdd,beq_self_eq_true];done)));(focus (exact rfl))))
  cases hv:okB l[i].cpu l[i].recs l[i].dr
  ·(first|(apply WF.condT;(focus (simp only [Zg,Zd,Tri.gp,Zn,Bool.not_true,Bool.not_false,reduceIte,Nat.reduceEqDiff,hv];done)))|(apply WF.condF;(focus (simp only [Zg,Zd,Tri.gp,Zn,Bool.not_true,Bool.not_false,reduceIte,Nat.reduceEqDiff,hv];done))))
   repeat (first|refine WF.seq ?_|refine Zc ?_|refine WO.nil ?_|refine WF.block ?_|refine WF.skip ?_|refine WF.endBlock ?_|(apply WF.exit;(focus (exact rfl)))|(apply WO.op;(focus ((simp only [rO,Zb,Zn,decide_true,li,lo,reduceIte,Nat.reduceEqDiff,Nat.reduceAdd,beq_self_eq_true];done)));(focus (simp only [rE,rO,li,lo,Zn,ZN,Zd,Zr,AH.set,AV.cells,decide_true,if_true,if_false,reduceIte,Nat.reduceEqDiff,Nat.reduceAdd,Nat.reduceMul,Zj,Zf Zj hs,Ze ZT Zv,cu53,ht0,ht1,ht7,ht8];exact rfl));(focus (exact rfl)))|(apply WO.unwanted;(focus ((simp only [rO,Zb,Zn,decide_true,li,lo,reduceIte,Nat.reduceEqDiff,Nat.reduceAdd,beq_self_eq_true];done)));(focus (exact rfl))))
   (apply WF.ret;(focus (simp only [Zi,Tri.gp,Zn,ZL,reduceIte,Nat.reduceEqDiff,rs93];exact rfl)))
   refine⟨_,rfl,?_,rfl⟩
   have h1:(l.any fun d =>!d.ok) = true:=List.any_eq_true.2 ⟨l[i],List.getElem_mem _,by simp [XC.ok,hv]⟩
   rw [h1]
   simp
  ·(first|(apply WF.condT;(focus (simp only [Zg,Zd,Tri.gp,Zn,Bool.not_true,Bool.not_false,reduceIte,Nat.reduceEqDiff,hv];done)))|(apply WF.condF;(focus (simp only [Zg,Zd,Tri.gp,Zn,Bool.not_true,Bool.not_false,reduceIte,Nat.reduceEqDiff,hv];done))))
   repeat (first|refine WF.seq ?_|refine Zc ?_|refine WO.nil ?_|refine WF.block ?_|refine WF.skip ?_|refine WF.endBlock ?_|(apply WF.exit;(focus (exact rfl)))|(apply WO.op;(focus ((simp only [rO,Zb,Zn,decide_true,li,lo,reduceIte,Nat.reduceEqDiff,Nat.reduceAdd,beq_self_eq_true];done)));(focus (simp only [rE,rO,li,lo,Zn,ZN,Zd,Zr,AH.set,AV.cells,decide_true,if_true,if_false,reduceIte,Nat.reduceEqDiff,Nat.reduceAdd,Nat.reduceMul,Zj,Zf Zj hs,Ze ZT Zv,cu53,ht0,ht1,ht7,ht8];exact rfl));(focus (exact rfl)))|(apply WO.unwanted;(focus ((simp only [rO,Zb,Zn,decide_true,li,lo,reduceIte,Nat.reduceEqDiff,Nat.reduceAdd,beq_self_eq_true];done)));(focus (exact rfl))))
   refine Yt ?_
   refine ih (m - 1) _ _ (by omega) ⟨i + 1,rfl,by omega,fun j h hj =>?_,?_,?_,?_,?_⟩
   ·by_cases e:j = i
    ·subst e;exact hv
    ·exact hok j h (by omega)
   ·simp [Tri.gp,ht0]
   ·simp [Tri.gp,ht1]
   ·simp [Tri.gp,ht7]
   ·simp only [Tri.gp,reduceIte]
    rw [Go.Ev.w64 (by omega) (by omega)]
    simp
 ·have hlt:decide ((i:Int) < (l.length:Int)) = false:=by simp;omega
  repeat (first|refine WF.seq ?_|refine Zc ?_|refine WO.nil ?_|refine WF.block ?_|refine WF.skip ?_|refine WF.endBlock ?_|(apply WF.exit;(focus (exact rfl)))|(apply WO.op;(focus ((simp only [rO,Zb,Zn,decide_true,li,lo,reduceIte,Nat.reduceEqDiff,Nat.reduceAdd,beq_self_eq_true,hlt];done)));(focus (simp only [rE,rO,li,lo,Zn,ZN,Zd,Zr,AH.set,AV.cells,decide_true,if_true,if_false,reduceIte,Nat.reduceEqDiff,Nat.reduceAdd,Nat.reduceMul,Zj,Zf Zj hs,Ze ZT Zv,cu53,ht0,ht1,ht7,ht8,hlt];exact rfl));(focus (exact rfl)))|(apply WO.unwanted;(focus ((simp only [rO,Zb,Zn,decide_true,li,lo,reduceIte,Nat.reduceEqDiff,Nat.reduceAdd,beq_self_eq_true,hlt];done)));(focus (exact rfl))))
  (first|(apply WF.condT;(focus (simp only [Zg,Zd,Tri.gp,Zn,Bool.not_true,Bool.not_false,reduceIte,Nat.reduceEqDiff,hlt];done)))|(apply WF.condF;(focus (simp only [Zg,Zd,Tri.gp,Zn,Bool.not_true,Bool.not_false,reduceIte,Nat.reduceEqDiff,hlt];done))))
  repeat (first|refine WF.seq ?_|refine Zc ?_|refine WO.nil ?_|refine WF.block ?_|refine WF.skip ?_|refine WF.endBlock ?_|(apply WF.exit;(focus (exact rfl)))|(apply WO.op;(focus ((simp only [rO,Zb,Zn,decide_true,li,lo,reduceIte,Nat.reduceEqDiff,Nat.reduceAdd,beq_self_eq_true,hlt];done)));(focus (simp only [rE,rO,li,lo,Zn,ZN,Zd,Zr,AH.set,AV.cells,decide_true,if_true,if_false,reduceIte,Nat.reduceEqDiff,Nat.reduceAdd,Nat.reduceMul,Zj,Zf Zj hs,Ze ZT Zv,cu53,ht0,ht1,ht7,ht8,hlt];exact rfl));(focus (exact rfl)))|(apply WO.unwanted;(focus ((simp only [rO,Zb,Zn,decide_true,li,lo,reduceIte,Nat.reduceEqDiff,Nat.reduceAdd,beq_self_eq_true,hlt];done)));(focus (exact rfl))))
  (apply WF.ret;(focus (simp only [Zi,Tri.gp,Zn,ZL,reduceIte,Nat.reduceEqDiff,rs93];exact rfl)))
  refine⟨_,rfl,?_,rfl⟩
  have h1:(l.any fun d =>!d.ok) = false:=by
   rw [List.any_eq_false]
   intro d hd
   obtain⟨j,hj,rfl⟩:=List.mem_iff_getElem.1 hd
   simp [hok j hj (by omega)]
  rw [h1]
  simp
theorem hasBat_c (H:AH) (bv:AV) (l:List XC) (hr:YI H bv l) (hlen:l.length < 9223372036854775808):Fn Q L 52 [bv,.func 53 [] []] H (fun v H' =>v = .bool (l.any fun d =>!d.ok)∧H' = H):=by
 refine Fn.intro (en52 _ _) ?_
 unfold c52 Tryz.f52
 simp only [Option.getD_some]
 repeat (first|refine WF.seq ?_|refine Zc ?_|refine WO.nil ?_|refine WF.block ?_|refine WF.skip ?_|refine WF.endBlock ?_|(apply WF.exit;(focus (exact rfl)))|(apply WO.op;(focus ((simp only [rO,Zb,Zn,decide_true,li,lo,reduceIte,Nat.reduceEqDiff,Nat.reduceAdd,beq_self_eq_true];done)));(focus (simp only [rE,rO,li,lo,Zn,ZN,Zd,Zr,AH.set,AV.cells,decide_true,if_true,if_false,reduceIte,Nat.reduceEqDiff,Nat.reduceAdd,Nat.reduceMul];exact rfl));(focus (exact rfl)))|(apply WO.unwanted;(focus ((simp only [rO,Zb,Zn,decide_true,li,lo,reduceIte,Nat.reduceEqDiff,Nat.reduceAdd,beq_self_eq_true];done)));(focus (exact rfl))))
 (apply WO.call;(focus ((simp only [rO,Zb,Zn,decide_true,li,lo,reduceIte,Nat.reduceEqDiff,Nat.reduceAdd,beq_self_eq_true];done)));(focus (simp only [rE,rO,li,lo,Zn,ZN,Zd,Zr,AH.set,AV.cells,decide_true,if_true,if_false,reduceIte,Nat.reduceEqDiff,Nat.reduceAdd,Nat.reduceMul,cu93];exact rfl));(focus (exact idxBat_c _ _ _ hr hlen));rintro _ _ ⟨r,rfl,hr0,rfl⟩;refine⟨_,rfl,?_⟩)
 repeat (first|refine WF.seq ?_|refine Zc ?_|refine WO.nil ?_|refine WF.block ?_|refine WF.skip ?_|refine WF.endBlock ?_|(apply WF.exit;(focus (exact rfl)))|(apply WO.op;(focus ((simp only [rO,Zb,Zn,decide_true,li,lo,reduceIte,Nat.reduceEqDiff,Nat.reduceAdd,beq_self_eq_true];done)));(focus (simp only [rE,rO,li,lo,Zn,ZN,Zd,Zr,AH.set,AV.cells,decide_true,if_true,if_false,reduceIte,Nat.reduceEqDiff,Nat.reduceAdd,Nat.reduceMul,hr0];exact rfl));(focus (exact rfl)))|(apply WO.unwanted;(focus ((simp only [rO,Zb,Zn,decide_true,li,lo,reduceIte,Nat.reduceEqDiff,Nat.reduceAdd,beq_self_eq_true];done)));(focus (exact rfl))))
 (apply WF.ret;(focus (simp only [Zi,Tri.gp,Zn,ZL,reduceIte,Nat.reduceEqDiff,rs52];exact rfl)))
 exact⟨rfl,rfl⟩
end Go.Ev.C
end
section
namespace Go.Ev.C
open Go.Proofs
set_option maxRecDepth 100000
set_option linter.unusedSimpArgs false
variable {L:World→Prop} [Yu Q L]
theorem ZD:Wi Q 80 = some (.agg [.int .i64 0,.nilslice,.int .i64 0,.bool false]):=by kernel_rfl
def nS (l:List XC):Int:=(l.map fun d =>(d.recs.length:Int)).sum
def dS (l:List XC):Int:=(l.map fun d =>d.dr).sum
theorem okB_bounds {d:XC} (h:d.ok = true):(0≤(d.recs.length:Int)∧(d.recs.length:Int)≤1000)∧0≤d.dr∧d.dr≤1099511627776:=by
 unfold XC.ok okB at h
 simp only [Bool.and_eq_true,decide_eq_true_eq] at h
 omega
def cnt (l:List XC):AV:=if (l.any fun d =>!d.ok) then .tuple [.int .i64 0,.int .i64 0,.int .i64 260] else if l.length > 200 then .tuple [.int .i64 0,.int .i64 0,.int .i64 2] else .tuple [.int .i64 (nS l),.int .i64 (dS l),.int .i64 0]
theorem count_c (H:AH) (bv:AV) (l:List XC) (hr:YI H bv l) (hlen:l.length < 9223372036854775808):Fn Q L 18 [bv] H (fun v H' =>v = cnt l∧H' = H):=by
 refine Fn.gc (en18 _) (by unfold cnt;split;rfl;split <;> rfl) ?_
 have hr:=hr.lock
 generalize lock H = H at hr
 have hs:=hr.1
 unfold c18 Tryz.f18
 simp only [Option.getD_some]
 repeat (first|refine WF.seq ?_|refine Zc ?_|refine WO.nil ?_|refine WF.block ?_|refine WF.skip ?_|refine WF.endBlock ?_|(apply WF.exit;(focus (exact rfl)))|(apply WO.op;(focus ((simp only [rO,Zb,Zn,decide_true,li,lo,reduceIte,Nat.reduceEqDiff,Nat.reduceAdd,beq_self_eq_true];done)));(focus (simp only [rE,rO,li,lo,Zn,ZN,Zd,Zr,AH.set,AV.cells,decide_true,if_true,if_false,reduceIte,Nat.reduceEqDiff,Nat.reduceAdd,Nat.reduceMul,Zj,Zf Zj hs];exact rfl));(focus (exact rfl)))|(apply WO.unwanted;(focus ((simp only [rO,Zb,Zn,decide_true,li,lo,reduceIte,Nat.reduceEqDiff,Nat.reduceAdd,beq_self_eq_true];done)));(focus (exact rfl))))
 (apply WO.call;(focus ((simp only [rO,Zb,Zn,decide_true,li,lo,reduceIte,Nat.reduceEqDiff,Nat.reduceAdd,beq_self_eq_true];done)));(focus (simp only [rE,rO,li,lo,Zn,ZN,Zd,Zr,AH.set,AV.cells,decide_true,if_true,if_false,reduceIte,Nat.reduceEqDiff,Nat.reduceAdd,Nat.reduceMul,Zj,cu52];exact rfl));(focus (exact hasBat_c _ _ _ hr hlen));rintro _ H ⟨rfl,rfl⟩;refine⟨_,rfl,?_⟩)
 repeat (first|refine WF.seq ?_|refine Zc ?_|refine WO.nil ?_|refine WF.block ?_|refine WF.skip ?_|refine WF.endBlock ?_|(apply WF.exit;(focus (exact rfl)))|(apply WO.op;(focus ((simp only [rO,Zb,Zn,decide_true,li,lo,reduceIte,Nat.reduceEqDiff,Nat.reduceAdd,beq_self_eq_true];done)));(focus (simp only [rE,rO,li,lo,Zn,ZN,Zd,Zr,AH.set,AV.cells,decide_true,if_true,if_false,reduceIte,Nat.reduceEqDiff,Nat.reduceAdd,Nat.reduceMul];exact rfl));(focus (exact rfl)))|(apply WO.unwanted;(focus ((simp only [rO,Zb,Zn,decide_true,li,lo,reduceIte,Nat.reduceEqDiff,Nat.reduceAdd,beq_self_eq_true];done)));(focus (exact rfl))))
 cases hbad:l.any (fun d =>!d.ok)
 rotate_left
 ·(first|(apply WF.condT;(focus (simp only [Zg,Zd,Tri.gp,Zn,Bool.not_true,Bool.not_false,reduceIte,Nat.reduceEqDiff,hbad];done)))|(apply WF.condF;(focus (simp only [Zg,Zd,Tri.gp,Zn,Bool.not_true,Bool.not_false,reduceIte,Nat.reduceEqDiff,hbad];done))))
  repeat (first|refine WF.seq ?_|refine Zc ?_|refine WO.nil ?_|refine WF.block ?_|refine WF.skip ?_|refine WF.endBlock ?_|(apply WF.exit;(focus (exact rfl)))|(apply WO.op;(focus ((simp only [rO,Zb,Zn,decide_true,li,lo,reduceIte,Nat.reduceEqDiff,Nat.reduceAdd,beq_self_eq_true];done)));(focus (simp only [rE,rO,li,lo,Zn,ZN,Zd,Zr,AH.set,AV.cells,decide_true,if_true,if_false,reduceIte,Nat.reduceEqDiff,Nat.reduceAdd,Nat.reduceMul];exact rfl));(focus (exact rfl)))|(apply WO.unwanted;(focus ((simp only [rO,Zb,Zn,decide_true,li,lo,reduceIte,Nat.reduceEqDiff,Nat.reduceAdd,beq_self_eq_true];done)));(focus (exact rfl))))
  (apply WF.ret;(focus (simp only [Zi,Tri.gp,Zn,ZL,reduceIte,Nat.reduceEqDiff,rs18];exact rfl)))
  simp [cnt,hbad]
 (first|(apply WF.condT;(focus (simp only [Zg,Zd,Tri.gp,Zn,Bool.not_true,Bool.not_false,reduceIte,Nat.reduceEqDiff,hbad];done)))|(apply WF.condF;(focus (simp only [Zg,Zd,Tri.gp,Zn,Bool.not_true,Bool.not_false,reduceIte,Nat.reduceEqDiff,hbad];done))))
 cases h200:decide ((200:Int) < (l.length:Int))
 rotate_left
 ·repeat (first|refine WF.seq ?_|refine Zc ?_|refine WO.nil ?_|refine WF.block ?_|refine WF.skip ?_|refine WF.endBlock ?_|(apply WF.exit;(focus (exact rfl)))|(apply WO.op;(focus ((simp only [rO,Zb,Zn,decide_true,li,lo,reduceIte,Nat.reduceEqDiff,Nat.reduceAdd,beq_self_eq_true,h200];done)));(focus (simp only [rE,rO,li,lo,Zn,ZN,Zd,Zr,AH.set,AV.cells,decide_true,if_true,if_false,reduceIte,Nat.reduceEqDiff,Nat.reduceAdd,Nat.reduceMul,Zj,Zf Zj hs,h200];exact rfl));(focus (exact rfl)))|(apply WO.unwanted;(focus ((simp only [rO,Zb,Zn,decide_true,li,lo,reduceIte,Nat.reduceEqDiff,Nat.reduceAdd,beq_self_eq_true,h200];done)));(focus (exact rfl))))
  (first|(apply WF.condT;(focus (simp only [Zg,Zd,Tri.gp,Zn,Bool.not_true,Bool.not_false,reduceIte,Nat.reduceEqDiff,h200];done)))|(apply WF.condF;(focus (simp only [Zg,Zd,Tri.gp,Zn,Bool.not_true,Bool.not_false,reduceIte,Nat.reduceEqDiff,h200];done))))
  repeat (first|refine WF.seq ?_|refine Zc ?_|refine WO.nil ?_|refine WF.block ?_|refine WF.skip ?_|refine WF.endBlock ?_|(apply WF.exit;(focus (exact rfl)))|(apply WO.op;(focus ((simp only [rO,Zb,Zn,decide_true,li,lo,reduceIte,Nat.reduceEqDiff,Nat.reduceAdd,beq_self_eq_true];done)));(focus (simp only [rE,rO,li,lo,Zn,ZN,Zd,Zr,AH.set,AV.cells,decide_true,if_true,if_false,reduceIte,Nat.reduceEqDiff,Nat.reduceAdd,Nat.reduceMul];exact rfl));(focus (exact rfl)))|(apply WO.unwanted;(focus ((simp only [rO,Zb,Zn,decide_true,li,lo,reduceIte,Nat.reduceEqDiff,Nat.reduceAdd,beq_self_eq_true];done)));(focus (exact rfl))))
  (apply WF.ret;(focus (simp only [Zi,Tri.gp,Zn,ZL,reduceIte,Nat.reduceEqDiff,rs18];exact rfl)))
  simp at h200
  simp [cnt,hbad,show l.length > 200 from by omega]
 repeat (first|refine WF.seq ?_|refine Zc ?_|refine WO.nil ?_|refine WF.block ?_|refine WF.skip ?_|refine WF.endBlock ?_|(apply WF.exit;(focus (exact rfl)))|(apply WO.op;(focus ((simp only [rO,Zb,Zn,decide_true,li,lo,reduceIte,Nat.reduceEqDiff,Nat.reduceAdd,beq_self_eq_true,h200];done)));(focus (simp only [rE,rO,li,lo,Zn,ZN,Zd,Zr,AH.set,AV.cells,decide_true,if_true,if_false,reduceIte,Nat.reduceEqDiff,Nat.reduceAdd,Nat.reduceMul,Zj,Zf Zj hs,h200];exact rfl));(focus (exact rfl)))|(apply WO.unwanted;(focus ((simp only [rO,Zb,Zn,decide_true,li,lo,reduceIte,Nat.reduceEqDiff,Nat.reduceAdd,beq_self_eq_true,h200];done)));(focus (exact rfl))))
 (first|(apply WF.condT;(focus (simp only [Zg,Zd,Tri.gp,Zn,Bool.not_true,Bool.not_false,reduceIte,Nat.reduceEqDiff,h200];done)))|(apply WF.condF;(focus (simp only [Zg,Zd,Tri.gp,Zn,Bool.not_true,Bool.not_false,reduceIte,Nat.reduceEqDiff,h200];done))))
 repeat (first|refine WF.seq ?_|refine Zc ?_|refine WO.nil ?_|refine WF.block ?_|refine WF.skip ?_|refine WF.endBlock ?_|(apply WF.exit;(focus (exact rfl)))|(apply WO.op;(focus ((simp only [rO,Zb,Zn,decide_true,li,lo,reduceIte,Nat.reduceEqDiff,Nat.reduceAdd,beq_self_eq_true,h200];done)));(focus (simp only [rE,rO,li,lo,Zn,ZN,Zd,Zr,AH.set,AV.cells,decide_true,if_true,if_false,reduceIte,Nat.reduceEqDiff,Nat.reduceAdd,Nat.reduceMul,Zj,Zf Zj hs,h200];exact rfl));(focus (exact rfl)))|(apply WO.unwanted;(focus ((simp only [rO,Zb,Zn,decide_true,li,lo,reduceIte,Nat.reduceEqDiff,Nat.reduceAdd,beq_self_eq_true,h200];done)));(focus (exact rfl))))
 simp at h200
 have hall:∀d ∈ l,d.ok = true:=fun d hd =>by
  rw [List.any_eq_false] at hbad
  simpa using hbad d hd
 have bnd:∀i,i≤l.length→(0≤nS (l.take i)∧nS (l.take i)≤200000)∧(0≤dS (l.take i)∧dS (l.take i)≤219902325555200):=by
  intro i hi
  have h1:=sum_bound (fun d:XC =>(d.recs.length:Int)) 1000 (l.take i) fun x hx =>(okB_bounds (hall x (List.mem_of_mem_take hx))).1
  have h2:=sum_bound (fun d:XC =>d.dr) 1099511627776 (l.take i) fun x hx =>(okB_bounds (hall x (List.mem_of_mem_take hx))).2
  have h3:((l.take i).length:Int)≤200:=by simp;omega
  unfold nS dS
  omega
 refine Ys (fun m t H' =>∃i:Nat,Up H H'∧i + m = l.length∧t.get 14 = some bv∧t.get 15 = some (.int .i64 (l.length:Int))∧t.get 16 = some (.int .i64 (i:Int))∧t.get 5 = some (.int .i64 (nS (l.take i)))∧t.get 6 = some (.int .i64 (dS (l.take i)))) l.length ?_ ?_
 ·refine⟨0,Up.refl _,by omega,?_,?_,?_,?_,?_⟩ <;> simp [Tri.gp,Zn,nS,dS]
 rintro m t H' ⟨i,hu,him,ht14,ht15,ht16,ht5,ht6⟩ ih
 by_cases hi:i < l.length
 ·have hlt:decide ((i:Int) < (l.length:Int)) = true:=by simp;omega
  obtain⟨b,off,cap,c,rv,rfl,hb,hc,hd,hl,hcut⟩:=hr.at hi
  rw [← hu.cellsAt hb] at hc
  have hbn:b ≠ H'.next:=by have:=hu.next;omega
  have hrs:=hd.1
  have hone:=hrs.one
  have hsol:=hrs.solid
  repeat (first|refine WF.seq ?_|refine Zc ?_|refine WO.nil ?_|refine WF.block ?_|refine WF.skip ?_|refine WF.endBlock ?_|(apply WF.exit;(focus (exact rfl)))|(apply WO.op;(focus ((simp only [rO,Zb,Zn,decide_true,li,lo,reduceIte,Nat.reduceEqDiff,Nat.reduceAdd,beq_self_eq_true,hlt];done)));(focus (simp only [rE,rO,li,lo,Zn,ZN,Zd,Zr,AH.set,AV.cells,decide_true,if_true,if_false,reduceIte,Nat.reduceEqDiff,Nat.reduceAdd,Nat.reduceMul,Zj,Zf Zj hs,Ze ZT Zv,Za Zw,Za Zu,Zp,Zy,ZD,Zv,cu52,ht14,ht15,ht16,ht5,ht6,hlt];exact rfl));(focus (exact rfl)))|(apply WO.unwanted;(focus ((simp only [rO,Zb,Zn,decide_true,li,lo,reduceIte,Nat.reduceEqDiff,Nat.reduceAdd,beq_self_eq_true,hlt];done)));(focus (exact rfl))))
  (first|(apply WF.condT;(focus (simp only [Zg,Zd,Tri.gp,Zn,Bool.not_true,Bool.not_false,reduceIte,Nat.reduceEqDiff,hlt];done)))|(apply WF.condF;(focus (simp only [Zg,Zd,Tri.gp,Zn,Bool.not_true,Bool.not_false,reduceIte,Nat.reduceEqDiff,hlt];done))))
  repeat (first|refine WF.seq ?_|refine Zc ?_|refine WO.nil ?_|refine WF.block ?_|refine WF.skip ?_|refine WF.endBlock ?_|(apply WF.exit;(focus (exact rfl)))|(apply WO.op;(focus ((simp only [rO,Zb,Zn,decide_true,li,lo,reduceIte,Nat.reduceEqDiff,Nat.reduceAdd,beq_self_eq_true,hlt];done)));(focus (simp only [rE,rO,li,lo,Zn,ZN,Zd,Zr,AH.set,AV.cells,decide_true,if_true,if_false,reduceIte,Nat.reduceEqDiff,Nat.reduceAdd,Nat.reduceMul,Zj,Zf Zj hs,Ze ZT Zv,Za Zw,Za Zu,Zp,Zy,ZD,Zv,cu52,ht14,ht15,ht16,ht5,ht6,hlt,Zt Zj Zv hi,hc,hcut,hone,hsol];exact rfl));(focus (exact rfl)))|(apply WO.unwanted;(focus ((simp only [rO,Zb,Zn,decide_true,li,lo,reduceIte,Nat.reduceEqDiff,Nat.reduceAdd,beq_self_eq_true,hlt];done)));(focus (exact rfl))))
  (apply Yw;(focus kernel_rfl);(focus kernel_rfl))
  (refine Zq ?_;(iterate 9 (first|(apply ZW.pure;(focus kernel_rfl);(focus kernel_rfl);(focus ((simp only [rO,Zb,Zn,decide_true,li,lo,reduceIte,Nat.reduceEqDiff,Nat.reduceAdd,beq_self_eq_true];done)));(focus (simp only [rE,rO,li,lo,Zn,ZN,Zd,Zr,AH.set,AV.cells,decide_true,if_true,if_false,reduceIte,Nat.reduceEqDiff,Nat.reduceAdd,Nat.reduceMul,Zj,Zf Zj hs,Ze ZT Zv,Za Zw,Za Zu,Zp,Zy,ZD,Zv,cu52,ht14,ht15,ht16,ht5,ht6,Zf Zk hrs,hone,hsol];exact rfl));(focus (exact rfl)))|(apply ZW.load;(focus kernel_rfl);(focus kernel_rfl);(focus ((simp only [rO,Zb,Zn,decide_true,li,lo,reduceIte,Nat.reduceEqDiff,Nat.reduceAdd,beq_self_eq_true];done)));(focus (simp only [rE,rO,li,lo,Zn,ZN,Zd,Zr,AH.set,AV.cells,decide_true,if_true,if_false,reduceIte,Nat.reduceEqDiff,Nat.reduceAdd,Nat.reduceMul,Zj,Zf Zj hs,Ze ZT Zv,Za Zw,Za Zu,Zp,Zy,ZD,Zv,cu52,ht14,ht15,ht16,ht5,ht6,Zf Zk hrs,hone,hsol];exact rfl));(focus (exact rfl)))));(iterate 2 (apply ZW.later;(focus kernel_rfl)));refine ZW.nil ?_)
  (apply ZY.eff (e:=9);(focus kernel_rfl);(focus (simp only [List.getElem?_toArray,List.getElem?_cons_succ,List.getElem?_cons_zero];exact rfl));(focus ((simp only [rO,Zb,Zn,decide_true,li,lo,reduceIte,Nat.reduceEqDiff,Nat.reduceAdd,beq_self_eq_true];done)));(focus (simp only [rE,rO,li,lo,Zn,ZN,Zd,Zr,AH.set,AV.cells,decide_true,if_true,if_false,reduceIte,Nat.reduceEqDiff,Nat.reduceAdd,Nat.reduceMul,Zj,Zf Zj hs,Ze ZT Zv,Za Zw,Za Zu,Zp,Zy,ZD,Zv,cu52,ht14,ht15,ht16,ht5,ht6,Zf Zk hrs,hone,hsol];exact rfl));(focus (exact rfl));(focus (apply Yf (R:=[7]);(focus kernel_rfl);(apply Xt.cons;(focus (simp only [List.getElem?_toArray,List.getElem?_cons_succ,List.getElem?_cons_zero];exact rfl));(focus ((simp only [rO,Zb,Zn,decide_true,li,lo,reduceIte,Nat.reduceEqDiff,Nat.reduceAdd,beq_self_eq_true];done)));(focus (simp only [rE,rO,li,lo,Zn,ZN,Zd,Zr,AH.set,AV.cells,decide_true,if_true,if_false,reduceIte,Nat.reduceEqDiff,Nat.reduceAdd,Nat.reduceMul,Zj,Zf Zj hs,Ze ZT Zv,Za Zw,Za Zu,Zp,Zy,ZD,Zv,cu52,ht14,ht15,ht16,ht5,ht6,Zf Zk hrs,hone,hsol];exact rfl));(focus (exact rfl));(focus (simp only [Tri.gp,Zn,reduceIte,Nat.reduceEqDiff,Zj,Zf Zj hs,Ze ZT Zv,Za Zw,Za Zu,Zp,Zy,ZD,Zv,cu52,ht14,ht15,ht16,ht5,ht6,Zf Zk hrs,hone,hsol];exact rfl));(focus (simp [AV.beq,Ym,Zj,Zf Zj hs,Ze ZT Zv,Za Zw,Za Zu,Zp,Zy,ZD,Zv,cu52,ht14,ht15,ht16,ht5,ht6,Zf Zk hrs,hone,hsol];done)));exact Xt.nil)))
  (refine Zq ?_;(iterate 11 (apply ZW.later;(focus kernel_rfl)));refine ZW.nil ?_)
  (apply ZY.eff (e:=10);(focus kernel_rfl);(focus (simp only [List.getElem?_toArray,List.getElem?_cons_succ,List.getElem?_cons_zero];exact rfl));(focus ((simp only [rO,Zb,Zn,decide_true,li,lo,reduceIte,Nat.reduceEqDiff,Nat.reduceAdd,beq_self_eq_true];done)));(focus (simp only [rE,rO,li,lo,Zn,ZN,Zd,Zr,AH.set,AV.cells,decide_true,if_true,if_false,reduceIte,Nat.reduceEqDiff,Nat.reduceAdd,Nat.reduceMul,Zj,Zf Zj hs,Ze ZT Zv,Za Zw,Za Zu,Zp,Zy,ZD,Zv,cu52,ht14,ht15,ht16,ht5,ht6,Zf Zk hrs,hone,hsol];exact rfl));(focus (exact rfl));(focus exact ZM (by kernel_rfl)))
  (refine Zq ?_;(iterate 11 (apply ZW.later;(focus kernel_rfl)));refine ZW.nil ?_)
  (apply ZY.all;(focus kernel_rfl);(focus kernel_rfl))
  repeat (first|refine WF.seq ?_|refine Zc ?_|refine WO.nil ?_|refine WF.block ?_|refine WF.skip ?_|refine WF.endBlock ?_|(apply WF.exit;(focus (exact rfl)))|(apply WO.op;(focus ((simp only [rO,Zb,Zn,decide_true,li,lo,reduceIte,Nat.reduceEqDiff,Nat.reduceAdd,beq_self_eq_true];done)));(focus (simp only [rE,rO,li,lo,Zn,ZN,Zd,Zr,AH.set,AV.cells,decide_true,if_true,if_false,reduceIte,Nat.reduceEqDiff,Nat.reduceAdd,Nat.reduceMul,Zj,Zf Zj hs,Ze ZT Zv,Za Zw,Za Zu,Zp,Zy,ZD,Zv,cu52,ht14,ht15,ht16,ht5,ht6];exact rfl));(focus (exact rfl)))|(apply WO.unwanted;(focus ((simp only [rO,Zb,Zn,decide_true,li,lo,reduceIte,Nat.reduceEqDiff,Nat.reduceAdd,beq_self_eq_true];done)));(focus (exact rfl))))
  refine Yt ?_
  have b1:=bnd i (by omega)
  have b2:=okB_bounds (hall l[i] (List.getElem_mem _))
  refine ih (m - 1) _ _ (by omega) ⟨i + 1,hu.trans (WV _ _ _),by omega,?_,?_,?_,?_,?_⟩
  ·simp [Tri.gp,ht14]
  ·simp [Tri.gp,ht15]
  ·simp only [Tri.gp,reduceIte]
   rw [Go.Ev.w64 (by omega) (by omega)]
   simp
  ·simp only [Tri.gp,reduceIte,Nat.reduceEqDiff]
   rw [Go.Ev.w64 (by omega) (by omega)]
   unfold nS
   rw [sum_take_succ _ l i hi]
  ·simp only [Tri.gp,reduceIte,Nat.reduceEqDiff]
   rw [Go.Ev.w64 (by omega) (by omega)]
   unfold dS
   rw [sum_take_succ _ l i hi]
 ·have hlt:decide ((i:Int) < (l.length:Int)) = false:=by simp;omega
  have hil:i = l.length:=by omega
  subst hil
  rw [List.take_length] at ht5 ht6
  repeat (first|refine WF.seq ?_|refine Zc ?_|refine WO.nil ?_|refine WF.block ?_|refine WF.skip ?_|refine WF.endBlock ?_|(apply WF.exit;(focus (exact rfl)))|(apply WO.op;(focus ((simp only [rO,Zb,Zn,decide_true,li,lo,reduceIte,Nat.reduceEqDiff,Nat.reduceAdd,beq_self_eq_true,hlt];done)));(focus (simp only [rE,rO,li,lo,Zn,ZN,Zd,Zr,AH.set,AV.cells,decide_true,if_true,if_false,reduceIte,Nat.reduceEqDiff,Nat.reduceAdd,Nat.reduceMul,Zj,Zf Zj hs,Ze ZT Zv,Za Zw,Za Zu,Zp,Zy,ZD,Zv,cu52,ht14,ht15,ht16,ht5,ht6,hlt];exact rfl));(focus (exact rfl)))|(apply WO.unwanted;(focus ((simp only [rO,Zb,Zn,decide_true,li,lo,reduceIte,Nat.reduceEqDiff,Nat.reduceAdd,beq_self_eq_true,hlt];done)));(focus (exact rfl))))
  (first|(apply WF.condT;(focus (simp only [Zg,Zd,Tri.gp,Zn,Bool.not_true,Bool.not_false,reduceIte,Nat.reduceEqDiff,hlt];done)))|(apply WF.condF;(focus (simp only [Zg,Zd,Tri.gp,Zn,Bool.not_true,Bool.not_false,reduceIte,Nat.reduceEqDiff,hlt];done))))
  repeat (first|refine WF.seq ?_|refine Zc ?_|refine WO.nil ?_|refine WF.block ?_|refine WF.skip ?_|refine WF.endBlock ?_|(apply WF.exit;(focus (exact rfl)))|(apply WO.op;(focus ((simp only [rO,Zb,Zn,decide_true,li,lo,reduceIte,Nat.reduceEqDiff,Nat.reduceAdd,beq_self_eq_true,hlt];done)));(focus (simp only [rE,rO,li,lo,Zn,ZN,Zd,Zr,AH.set,AV.cells,decide_true,if_true,if_false,reduceIte,Nat.reduceEqDiff,Nat.reduceAdd,Nat.reduceMul,Zj,Zf Zj hs,Ze ZT Zv,Za Zw,Za Zu,Zp,Zy,ZD,Zv,cu52,ht14,ht15,ht16,ht5,ht6,hlt];exact rfl));(focus (exact rfl)))|(apply WO.unwanted;(focus ((simp only [rO,Zb,Zn,decide_true,li,lo,reduceIte,Nat.reduceEqDiff,Nat.reduceAdd,beq_self_eq_true,hlt];done)));(focus (exact rfl))))
  (apply WF.ret;(focus (simp only [Zi,Tri.gp,Zn,ZL,reduceIte,Nat.reduceEqDiff,rs18];exact rfl)))
  simp [cnt,hbad,show ¬ (l.length > 200) from by omega]
end Go.Ev.C
end
section
namespace Go.Ev.C
open Go.Proofs Go.RowKit Go.Fmt
set_option maxRecDepth 100000
set_option linter.unusedSimpArgs false
variable {L:World→Prop} [Yu Q L]
def ofR (x:WI):Yz:=⟨(x.id:Int),(x.tm:Int),Xw x.data⟩
def ofB (x:YT):XC:=⟨(x.cpu:Int),x.recs.map ofR,(x.dr:Int),decide (x.ah = 1)⟩
theorem ofR_ok {x:WI} (h:pokR x):(ofR x).ok = true:=by
 obtain⟨h1,h2,h3,h4⟩:=h
 unfold Yz.ok vld ofR
 simp only [Yz.n,YJ,Bool.and_eq_true,decide_eq_true_eq]
 omega
theorem ofB_ok {x:YT} (h:pokB x):(ofB x).ok = true:=by
 obtain⟨h1,h2,h3,h4,h5⟩:=h
 unfold XC.ok okB ofB
 dsimp only
 rw [List.length_map]
 have:(x.recs.map ofR).any (fun d =>!d.ok) = false:=by
  rw [List.any_eq_false]
  intro d hd
  obtain⟨y,hy,rfl⟩:=List.mem_map.1 hd
  rw [ofR_ok (h5 y hy)]
  simp
 rw [this]
 simp only [Bool.and_eq_true,decide_eq_true_eq,Bool.not_false,and_true]
 omega
theorem cnt_ok {ps:List YT} (h:pokL ps):∃a b,cnt (ps.map ofB) = .tuple [.int .i64 a,.int .i64 b,.int .i64 0]:=by
 obtain⟨h1,h2⟩:=h
 have:(ps.map ofB).any (fun d =>!d.ok) = false:=by
  rw [List.any_eq_false]
  intro d hd
  obtain⟨y,hy,rfl⟩:=List.mem_map.1 hd
  rw [ofB_ok (h2 y hy)]
  simp
 refine⟨nS (ps.map ofB),dS (ps.map ofB),?_⟩
 unfold cnt
 rw [this,if_neg (by simp),List.length_map,if_neg (by omega)]
theorem encR_len {x:WI} (h:pokR x):(encR x).length≤300:=by
 obtain⟨h1,h2,h3,h4⟩:=h
 have a1:=Yj 9 x.id (by omega)
 have a2:=Yj 9 x.tm (by omega)
 have a3:=Yj 9 x.data.length (by omega)
 unfold encR
 simp only [List.length_append]
 omega
theorem encRs_len:∀{l:List WI},(∀y ∈ l,pokR y)→(XD l).length≤300 * l.length
 | [],_ =>by simp [XD]
 | x :: l,h =>by
  have h1:=encR_len (h x (by simp))
  have h2:=encRs_len (l:=l) fun y hy =>h y (by simp [hy])
  simp only [XD,List.length_append,List.length_cons]
  omega
theorem encB_len {x:YT} (h:pokB x):(encB x).length≤300100:=by
 obtain⟨h1,h2,h3,h4,h5⟩:=h
 have a1:=Yj 9 x.cpu (by omega)
 have a2:=Yj 9 x.dr (by omega)
 have a3:=Yj 9 x.ah (by omega)
 have a4:=Yj 9 x.recs.length (by omega)
 have a5:=encRs_len h5
 unfold encB
 simp only [List.length_append]
 omega
theorem encBs_len:∀{l:List YT},(∀y ∈ l,pokB y)→(XE l).length≤300100 * l.length
 | [],_ =>by simp [XE]
 | x :: l,h =>by
  have h1:=encB_len (h x (by simp))
  have h2:=encBs_len (l:=l) fun y hy =>h y (by simp [hy])
  simp only [XE,List.length_append,List.length_cons]
  omega
theorem enc_len {l:List YT} (h:pokL l):(WB l).length≤61000000:=by
 have h1:=encBs_len h.2
 have h2:=Yj 9 l.length (by have:=h.1;omega)
 have h3:=h.1
 unfold WB encL
 simp only [List.length_append,List.length_cons,List.length_nil]
 omega
/-- A record's data are appended. -/
theorem X9.data {H0 H:AH} {v:AV} {s:List Nat} (h:X9 H0 H v s) (hu:Up H0 H) {dv:AV} {u:List Nat} (hd:Y3 H dv (Xw u)) (hn:s.length + u.length≤274877906944) :
  ∃v' H',X8 Q [35,35] [v,dv] H = some (v',H')∧X9 H0 H' v' (s ++ u)∧Up H0 H'∧UpB v H H'∧∀b,Xi v' = some b→H.next≤b ∨ Xi v = some b:=by
 rw [app35i]
 have hs:=hd.1
 have hd2:=hd.2
 rw [YJ] at hs
 by_cases hu0:u = []
 ·subst hu0
  have hnew:YG 1 dv H = some (0,[]):=by
   generalize hz:([]:List Nat).length = z at hs
   cases hs with
   | nil =>rfl
   | sl b off n' cap =>
    subst hz
    rfl
  rw [hnew]
  dsimp only
  rw [List.append_nil]
  rcases h with ⟨rfl,rfl⟩ | ⟨hne,b,cap,rfl,hcap,hb0,hb,hg⟩
  ·rw [appendTo_nil0]
   exact⟨_,_,rfl,.inl ⟨rfl,rfl⟩,hu,UpB.of (Up.refl _),fun b e =>.inr e⟩
  ·rcases hcap with rfl | rfl
   ·rw [appendTo_up0 (by simp at hn;omega)]
    exact⟨_,_,rfl,.inr ⟨hne,b,_,rfl,.inl rfl,hb0,hb,hg⟩,hu,UpB.of (Up.refl _),fun b e =>.inr e⟩
   ·have hle:Nat.ble (s.length + 0) 274877906944 = true:=by rw [Nat.ble_eq];simpa using hn
    have hin:Nat.ble (s.length + 0) s.length = true:=by rw [Nat.ble_eq];omega
    have hov:over (Xw s) (0 + s.length * 1) [] = some (Xw s):=by
     unfold over
     have:Nat.ble (0 + s.length * 1 + ([]:List AV).length) (Xw s).length = true:=by rw [Nat.ble_eq,YJ];simp
     rw [this]
     simp
    have happ:Yq 5 1 (.slice b 0 s.length (.is s.length)) 0 [] H = some (.slice b 0 (s.length + 0) (.is s.length),H.set b (.cells 5 (Xw s) 0 false false)):=by
     simp only [Yq,hle,hin,appendRoom,hg,hov,if_true]
     rfl
    rw [happ]
    refine⟨_,_,rfl,.inr ⟨hne,b,_,rfl,.inr rfl,hb0,hb,?_⟩,hu.set hb0,⟨Nat.le_refl _,fun b' hb' hn' =>?_⟩,fun b e =>.inr e⟩
    ·show (Tri.put _ _ _).get _ = _
     rw [Tri.gp,if_pos rfl]
    ·have hbb:b' ≠ b:=fun e =>hn' (by rw [e];rfl)
     show (Tri.put _ _ _).get _ = _
     rw [Tri.gp,if_neg hbb]
 ·have hul:u.length ≠ 0:=fun e =>hu0 (List.length_eq_zero_iff.1 e)
  have hnew:YG 1 dv H = some (u.length,Xw u):=by
   generalize hz:u.length = z at hs hul
   cases hs with
   | nil =>exact absurd rfl hul
   | sl b off n cap =>
    obtain⟨c,hb,hc,hcut,_⟩:=hd2 b off _ cap rfl (by unfold Xw;simpa using hu0)
    rw [YJ,hz] at hcut
    exact Wd hul hc (by rw [Nat.mul_one];exact hcut)
  rw [hnew]
  obtain⟨v',H',h1,h2,h3,h4,h5⟩:=h.more hu u hu0 hn
  exact⟨v',H',h1,h2,h3,h4,fun b e =>.inl (h5 b e)⟩
theorem X9.lt {H0 H:AH} {v:AV} {s:List Nat} (h:X9 H0 H v s) {b:Nat} (hb:H.next≤b):Xi v ≠ some b:=by
 rcases h with ⟨_,rfl⟩ | ⟨_,b',cap,rfl,_,_,hb',_⟩
 ·simp [Xi]
 ·intro e
  cases e
  omega
theorem Yb {a b c a' b' c':AV} (ha:Yn a = true) (hb:Yn b = true) (hc:Yn c = true):over [a',b',c'] 0 [a,b,c] = some [a,b,c]:=by
 unfold over
 simp [ha,hb,hc]
theorem bs35k (t:Tri AV):Yk Q t 35 4 #[(0,.const (.int .u8 84)),(1,.const (.int .u8 66)),(2,.const (.int .u8 65)),(3,.const (.int .u8 84))] = some (.cells 5 (Xw [84,66,65,84]) 0 false false,fun b =>.slice b 0 4 (.is 4)):=by kernel_rfl
theorem ZU:Wi Q 87 = some (.agg [.int .i64 0,.int .i64 0,.nilslice]):=by kernel_rfl
theorem cut3s {a b:Int} {dv:AV} (h:ZO dv = true):cut [.int .i64 a,.int .i64 b,dv] 0 3 = some [.int .i64 a,.int .i64 b,dv]:=YN rfl (by simp [Wm,h])
theorem encBs_drop {ps:List YT} {i:Nat} (h:i < ps.length):XE (ps.drop i) = encB ps[i] ++ XE (ps.drop (i + 1)):=by
 rw [List.drop_eq_getElem_cons h,XE]
theorem encRs_drop {ps:List WI} {i:Nat} (h:i < ps.length):XD (ps.drop i) = encR ps[i] ++ XD (ps.drop (i + 1)):=by
 rw [List.drop_eq_getElem_cons h,XD]
/-- What a run leaves alone of a block that it does not append to. -/
theorem keepB {v:AV} {H H':AH} (u:UpB v H H') {b:Nat} {o:Option AB} (hg:H.t.get b = o) (hb:b < H.next) (hn:Xi v ≠ some b):H'.t.get b = o:=by
 rw [u.old b hb hn,hg]
theorem Z5 {H:AH} {b e:Nat} {c:List AV} (h:H.t.get b = some (.cells e c 0 false false)):H.cellsAt b = some c:=by
 unfold AH.cellsAt
 rw [h]
/-- A block that no appending touches. -/
def Still (b:Nat) (o:Option AB) (w:AV) (H:AH):Prop:=H.t.get b = o∧b < H.next∧Xi w ≠ some b
theorem Still.step {b:Nat} {o:Option AB} {w w':AV} {H H':AH} (h:Still b o w H) (u:UpB w H H') (hn:∀b',Xi w' = some b'→H.next≤b'):Still b o w' H' :=
 ⟨keepB u h.1 h.2.1 h.2.2,Nat.lt_of_lt_of_le h.2.1 u.next,fun e =>by have:=hn b e;have:=h.2.1;omega⟩
theorem Still.cells {b e:Nat} {c:List AV} {w:AV} {H:AH} (h:Still b (some (.cells e c 0 false false)) w H):H.cellsAt b = some c:=Z5 h.1
theorem recs_at {H:AH} {v:AV} {l:List Yz} (h:YP H v l) {i:Nat} (hi:i < l.length):∃b off cap c dv,v = .slice b off l.length cap∧b < H.next∧H.cellsAt b = some c∧Y3 H dv l[i].r∧cut c (off + i * 3) 3 = some [.int .i64 l[i].id,.int .i64 l[i].tm,dv]:=by
 obtain⟨h1,h2⟩:=h
 generalize hn:l.length = n at h1
 cases h1 with
 | nil =>omega
 | sl b off n cap =>
  obtain⟨c,hb,hc,hr⟩:=h2 b off _ cap rfl (by intro e;subst e;simp at hi)
  obtain⟨dv,hd,hcut⟩:=hr i l[i] (List.getElem?_eq_getElem hi)
  exact⟨b,off,cap,c,dv,rfl,hb,hc,hd,hcut⟩
theorem WF.cutI {P:Program} {L:World→Prop} {f n:Nat} {t:Tri AV} {x:AI} {k:List AI} {H:AH} {Φ:AF→AH→Prop} (I:Tri AV→AH→Prop) (hk:∀t H,I t H→WF P L (PF f n t k) H Φ) (h:(∀t H,I t H→WF P L (PF f n t k) H Φ)→WF P L (PF f n t (x :: k)) H Φ):WF P L (PF f n t (x :: k)) H Φ:=h hk
set_option maxHeartbeats 16000000 in
theorem encode_c (H:AH) (bv:AV) (ps:List YT) (hr:YI H bv (ps.map ofB)) (hok:pokL ps) :
  Fn Q L 17 [bv] H (fun w H' =>∃v,w = .tuple [v,.int .i64 0]∧X9 H H' v (WB ps)∧Up H H'):=by
 refine Fn.intro (en17 _) ?_
 have hs:=hr.1
 rw [List.length_map] at hs
 have hl200:=hok.1
 obtain⟨ca,cb,hcnt⟩:=cnt_ok hok
 have hel:=enc_len hok
 have d0:decide ((0:Int) = 0) = true:=rfl
 have hcc:=count_c (L:=L) H bv (ps.map ofB) hr (by rw [List.length_map];omega)
 rw [hcnt] at hcc
 unfold c17 Tryz.f17
 simp only [Option.getD_some]
 repeat (first|(apply Zh;exact rfl)|apply Zc|apply WO.nil|(apply WO.op;(focus (simp only [rQ,Zb,li,lo,reduceIte,Nat.reduceEqDiff,Nat.reduceAdd,beq_self_eq_true,d0];done));simp only [rE,rS,li,lo,reduceIte,Nat.reduceEqDiff,Nat.reduceAdd,Nat.reduceMul,Zj,Zf Zj hs,Ze ZT Zv,Za Zw,Za Zu,Za ZE,ZJ,Zp,Zy,ZP,ZD,Zv,cu18,Xf,bs35k,d0];exact rfl;exact rfl)|(apply WO.unwanted;(focus (simp only [rQ,Zb,li,lo,reduceIte,Nat.reduceEqDiff,Nat.reduceAdd,beq_self_eq_true,d0];done));exact rfl))
 (apply WO.call;(focus (simp only [rQ,Zb,li,lo,reduceIte,Nat.reduceEqDiff,Nat.reduceAdd,beq_self_eq_true,d0];done));simp only [rE,rS,li,lo,reduceIte,Nat.reduceEqDiff,Nat.reduceAdd,Nat.reduceMul,Zj,Zf Zj hs,Ze ZT Zv,Za Zw,Za Zu,Za ZE,ZJ,Zp,Zy,ZP,ZD,Zv,cu18,Xf,bs35k,d0];exact rfl;exact hcc;rintro _ H ⟨rfl,rfl⟩;refine⟨_,rfl,?_⟩)
 repeat (first|(apply Zh;exact rfl)|apply Zc|apply WO.nil|(apply WO.op;(focus (simp only [rQ,Zb,li,lo,reduceIte,Nat.reduceEqDiff,Nat.reduceAdd,beq_self_eq_true,d0];done));simp only [rE,rS,li,lo,reduceIte,Nat.reduceEqDiff,Nat.reduceAdd,Nat.reduceMul,Zj,Zf Zj hs,Ze ZT Zv,Za Zw,Za Zu,Za ZE,ZJ,Zp,Zy,ZP,ZD,Zv,cu18,Xf,bs35k,d0];exact rfl;exact rfl)|(apply WO.unwanted;(focus (simp only [rQ,Zb,li,lo,reduceIte,Nat.reduceEqDiff,Nat.reduceAdd,beq_self_eq_true,d0];done));exact rfl))
 (first|(apply WF.condT;(focus (simp only [Zg,Zd,Tri.gp,Zn,Bool.not_true,Bool.not_false,reduceIte,Nat.reduceEqDiff,d0];done)))|(apply WF.condF;(focus (simp only [Zg,Zd,Tri.gp,Zn,Bool.not_true,Bool.not_false,reduceIte,Nat.reduceEqDiff,d0];done))))
 have ho0:X9 H ⟨H.t.put H.next (some (.cells 5 (Xw [84,66,65,84]) 0 false false)),H.next + 1⟩ (.slice H.next 0 4 (.is 4)) [84,66,65,84] :=
  .inr ⟨by simp,H.next,.is 4,rfl,.inr rfl,Nat.le_refl _,Nat.lt_succ_self _,by show (Tri.put _ _ _).get _ = _;rw [Tri.gp,if_pos rfl]⟩
 repeat (first|(apply Zh;exact rfl)|apply Zc|apply WO.nil|(apply WO.op;(focus (simp only [rQ,Zb,li,lo,reduceIte,Nat.reduceEqDiff,Nat.reduceAdd,beq_self_eq_true,d0];done));simp only [rE,rS,li,lo,reduceIte,Nat.reduceEqDiff,Nat.reduceAdd,Nat.reduceMul,Zj,Zf Zj hs,Ze ZT Zv,Za Zw,Za Zu,Za ZE,ZJ,Zp,Zy,ZP,ZD,Zv,cu18,Xf,bs35k,d0];exact rfl;exact rfl)|(apply WO.unwanted;(focus (simp only [rQ,Zb,li,lo,reduceIte,Nat.reduceEqDiff,Nat.reduceAdd,beq_self_eq_true,d0];done));exact rfl))
 (apply WO.call;(focus (simp only [rQ,Zb,li,lo,reduceIte,Nat.reduceEqDiff,Nat.reduceAdd,beq_self_eq_true,d0];done));simp only [rE,rS,li,lo,reduceIte,Nat.reduceEqDiff,Nat.reduceAdd,Nat.reduceMul,Zj,Zf Zj hs,Ze ZT Zv,Za Zw,Za Zu,Za ZE,ZJ,Zp,Zy,ZP,ZD,Zv,cu18,Xf,bs35k,d0];exact rfl;exact put_c H _ (Up.box _ _) _ _ ps.length ho0 (by omega) (by simp);rintro v1 H1 ⟨ho1,hu1,_,_⟩;refine⟨_,rfl,?_⟩)
 repeat (first|(apply Zh;exact rfl)|apply Zc|apply WO.nil|(apply WO.op;(focus (simp only [rQ,Zb,li,lo,reduceIte,Nat.reduceEqDiff,Nat.reduceAdd,beq_self_eq_true,d0];done));simp only [rE,rS,li,lo,reduceIte,Nat.reduceEqDiff,Nat.reduceAdd,Nat.reduceMul,Zj,Zf Zj hs,Ze ZT Zv,Za Zw,Za Zu,Za ZE,ZJ,Zp,Zy,ZP,ZD,Zv,cu18,Xf,bs35k,d0];exact rfl;exact rfl)|(apply WO.unwanted;(focus (simp only [rQ,Zb,li,lo,reduceIte,Nat.reduceEqDiff,Nat.reduceAdd,beq_self_eq_true,d0];done));exact rfl))
 refine Ys (fun m t H' =>∃(i:Nat) (v:AV) (s:List Nat),Up H H'∧i + m = ps.length∧X9 H H' v s∧WB ps = s ++ XE (ps.drop i)∧t.get 7 = some v∧t.get 26 = some bv∧t.get 27 = some (.int .i64 (ps.length:Int))∧t.get 28 = some (.int .i64 (i:Int))) ps.length ?_ ?_
 ·refine⟨0,v1,_,hu1,by omega,ho1,?_,?_,?_,?_,?_⟩
  ·unfold WB encL
   simp
  all_goals simp [Tri.gp,Zn]
 rintro m t H' ⟨i,v,s,hu,him,ho,hse,t7,t26,t27,t28⟩ ih
 by_cases hi:i < ps.length
 rotate_left
 ·have hil:i = ps.length:=by omega
  subst hil
  have hlt:decide ((ps.length:Int) < (ps.length:Int)) = false:=by simp
  rw [List.drop_length,XE,List.append_nil] at hse
  have hone:=ho.sl.one
  have hsol:=ho.sl.solid
  repeat (first|(apply Zh;exact rfl)|apply Zc|apply WO.nil|(apply WO.op;(focus (simp only [rQ,Zb,li,lo,reduceIte,Nat.reduceEqDiff,Nat.reduceAdd,beq_self_eq_true,hlt];done));simp only [rE,rS,li,lo,reduceIte,Nat.reduceEqDiff,Nat.reduceAdd,Nat.reduceMul,t7,t26,t27,t28,hlt];exact rfl;exact rfl)|(apply WO.unwanted;(focus (simp only [rQ,Zb,li,lo,reduceIte,Nat.reduceEqDiff,Nat.reduceAdd,beq_self_eq_true,hlt];done));exact rfl))
  (first|(apply WF.condT;(focus (simp only [Zg,Zd,Tri.gp,Zn,Bool.not_true,Bool.not_false,reduceIte,Nat.reduceEqDiff,hlt];done)))|(apply WF.condF;(focus (simp only [Zg,Zd,Tri.gp,Zn,Bool.not_true,Bool.not_false,reduceIte,Nat.reduceEqDiff,hlt];done))))
  repeat (first|(apply Zh;exact rfl)|apply Zc|apply WO.nil|(apply WO.op;(focus (simp only [rQ,Zb,li,lo,reduceIte,Nat.reduceEqDiff,Nat.reduceAdd,beq_self_eq_true,hlt];done));simp only [rE,rS,li,lo,reduceIte,Nat.reduceEqDiff,Nat.reduceAdd,Nat.reduceMul,t7,t26,t27,t28,hlt];exact rfl;exact rfl)|(apply WO.unwanted;(focus (simp only [rQ,Zb,li,lo,reduceIte,Nat.reduceEqDiff,Nat.reduceAdd,beq_self_eq_true,hlt];done));exact rfl))
  (apply WF.ret;(focus (simp only [Zi,Tri.gp,Zn,ZL,reduceIte,Nat.reduceEqDiff,rs17,t7];exact rfl)))
  refine⟨v,rfl,?_,hu⟩
  rw [hse]
  exact ho
 have hlt:decide ((i:Int) < (ps.length:Int)) = true:=by simp;omega
 have wi:IntKind.i64.wrap ((i:Int) + 1) = ((i + 1:Nat):Int):=by rw [Go.Ev.w64 (by omega) (by omega)];omega
 have hi2:i < (ps.map ofB).length:=by rw [List.length_map];exact hi
 obtain⟨b,off,cap,c,rv,hbv,hb0,hc,hd,hdl,hcut⟩:=hr.at hi2
 have hb:b < H'.next:=Nat.lt_of_lt_of_le hb0 hu.next
 rw [← hu.cellsAt hb0] at hc
 have hgx:(ps.map ofB)[i] = ofB ps[i]:=by simp
 rw [hgx] at hd hcut
 have hokx:=hok.2 _ (List.getElem_mem hi)
 have hdrop:=encBs_drop hi
 generalize ps[i] = x at *
 obtain⟨k1,k2,k3,k4,k5⟩:=hokx
 have hxl:=encRs_len k5
 have hsl:=congrArg List.length hse
 rw [hdrop] at hsl
 unfold encB at hsl
 simp only [List.length_append] at hsl
 have hrs:=hd.1
 have hone:=hrs.one
 have hsol:=hrs.solid
 have hbn:b ≠ H'.next:=by omega
 subst hbv
 unfold ofB at hcut hd hrs
 dsimp only at hcut hd hrs hone hsol
 rw [List.length_map] at hrs
 obtain⟨cpu,dr,ah,recs⟩:=x
 dsimp only at *
 repeat (first|(apply Zh;exact rfl)|apply Zc|apply WO.nil|(apply WO.op;(focus (simp only [rQ,Zb,li,lo,reduceIte,Nat.reduceEqDiff,Nat.reduceAdd,beq_self_eq_true,hlt];done));simp only [rE,rS,li,lo,reduceIte,Nat.reduceEqDiff,Nat.reduceAdd,Nat.reduceMul,hrs.beq,Zj,t26,t27,t28,t7,Ze ZT Zv,Za Zw,Za Zu,Za ZE,ZJ,Zp,Zy,ZP,ZD,Zv,Xf,Zk,hone,hsol,Zf Zk hrs,hlt];exact rfl;exact rfl)|(apply WO.unwanted;(focus (simp only [rQ,Zb,li,lo,reduceIte,Nat.reduceEqDiff,Nat.reduceAdd,beq_self_eq_true,hlt];done));exact rfl))
 (first|(apply WF.condT;(focus (simp only [Zg,Zd,Tri.gp,Zn,Bool.not_true,Bool.not_false,reduceIte,Nat.reduceEqDiff,hlt];done)))|(apply WF.condF;(focus (simp only [Zg,Zd,Tri.gp,Zn,Bool.not_true,Bool.not_false,reduceIte,Nat.reduceEqDiff,hlt];done))))
 repeat (first|(apply Zh;exact rfl)|apply Zc|apply WO.nil|(apply WO.op;(focus (simp only [rQ,Zb,li,lo,reduceIte,Nat.reduceEqDiff,Nat.reduceAdd,beq_self_eq_true,hlt];done));simp only [rE,rS,li,lo,reduceIte,Nat.reduceEqDiff,Nat.reduceAdd,Nat.reduceMul,hrs.beq,Zj,t26,t27,t28,t7,Ze ZT Zv,Za Zw,Za Zu,Za ZE,ZJ,Zp,Zy,ZP,ZD,Zv,Xf,Zk,hone,hsol,Zf Zk hrs,hlt,Zt Zj Zv hi2,hc,hcut];exact rfl;exact rfl)|(apply WO.unwanted;(focus (simp only [rQ,Zb,li,lo,reduceIte,Nat.reduceEqDiff,Nat.reduceAdd,beq_self_eq_true,hlt];done));exact rfl))
 have a1:=Yj 9 cpu (by omega)
 have a2:=Yj 9 dr (by omega)
 have a3:=Yj 9 ah (by omega)
 have a4:=Yj 9 recs.length (by omega)
 have hB1:Up H' ⟨(H'.t.put H'.next (some (.cells 80 [.int .i64 0,.nilslice,.int .i64 0,.bool false] 0 false false))).put H'.next (some (.cells 80 [.int .i64 (cpu:Int),rv,.int .i64 (dr:Int),.bool (decide (ah = 1))] 0 false false)),H'.next + 1⟩:=WV H' _ _
 have st0:Still H'.next (some (.cells 80 [.int .i64 (cpu:Int),rv,.int .i64 (dr:Int),.bool (decide (ah = 1))] 0 false false)) v ⟨(H'.t.put H'.next (some (.cells 80 [.int .i64 0,.nilslice,.int .i64 0,.bool false] 0 false false))).put H'.next (some (.cells 80 [.int .i64 (cpu:Int),rv,.int .i64 (dr:Int),.bool (decide (ah = 1))] 0 false false)),H'.next + 1⟩ :=
  ⟨by show (Tri.put _ _ _).get _ = _;rw [Tri.gp,if_pos rfl],Nat.lt_succ_self _,ho.lt (Nat.le_refl _)⟩
 refine WF.cutI (fun t2 HH =>HH = ⟨(H'.t.put H'.next (some (.cells 80 [.int .i64 0,.nilslice,.int .i64 0,.bool false] 0 false false))).put H'.next (some (.cells 80 [.int .i64 (cpu:Int),rv,.int .i64 (dr:Int),.bool (decide (ah = 1))] 0 false false)),H'.next + 1⟩∧t2.get 7 = some v∧t2.get 9 = some (.ptr H'.next 0)∧t2.get 10 = some (.int .i64 (ah:Int))∧t2.get 26 = t.get 26∧t2.get 27 = t.get 27∧t2.get 28 = t.get 28) ?_ ?_
 rotate_left
 ·intro tail
  have hah:ah = 0 ∨ ah = 1:=by omega
  rcases hah with rfl | rfl
  ·have q1:decide ((0:Nat) = 1) = false:=rfl
   (first|(apply WF.condT;(focus (simp only [Zg,Zd,Tri.gp,Zn,Bool.not_true,Bool.not_false,reduceIte,Nat.reduceEqDiff,q1,decide_true,decide_false];done)))|(apply WF.condF;(focus (simp only [Zg,Zd,Tri.gp,Zn,Bool.not_true,Bool.not_false,reduceIte,Nat.reduceEqDiff,q1,decide_true,decide_false];done))))
   iterate 1 (first|(apply Zh;exact rfl)|apply Zc|apply WO.nil|(apply Zl;exact rfl;simp only [rE,rS,li,lo,reduceIte,Nat.reduceEqDiff,Nat.reduceAdd,Nat.reduceMul,t7];exact rfl;exact rfl))
   exact tail _ _ ⟨rfl,by simp [Tri.gp,t7],by simp [Tri.gp],by simp [Tri.gp],by simp [Tri.gp],by simp [Tri.gp],by simp [Tri.gp]⟩
  ·have q1:decide ((1:Nat) = 1) = true:=rfl
   (first|(apply WF.condT;(focus (simp only [Zg,Zd,Tri.gp,Zn,Bool.not_true,Bool.not_false,reduceIte,Nat.reduceEqDiff,q1,decide_true,decide_false];done)))|(apply WF.condF;(focus (simp only [Zg,Zd,Tri.gp,Zn,Bool.not_true,Bool.not_false,reduceIte,Nat.reduceEqDiff,q1,decide_true,decide_false];done))))
   iterate 3 (first|(apply Zh;exact rfl)|apply Zc|apply WO.nil|(apply Zl;exact rfl;simp only [rE,rS,li,lo,reduceIte,Nat.reduceEqDiff,Nat.reduceAdd,Nat.reduceMul,t7];exact rfl;exact rfl))
   exact tail _ _ ⟨rfl,by simp [Tri.gp,t7],by simp [Tri.gp],by simp [Tri.gp],by simp [Tri.gp],by simp [Tri.gp],by simp [Tri.gp]⟩
 rintro t2 HH ⟨hHH,u7,u9,u10,u26,u27,u28⟩
 rw [← hHH] at hB1 st0
 clear hHH
 rw [t26] at u26
 rw [t27] at u27
 rw [t28] at u28
 have huB:=hu.trans hB1
 have hoB:=ho.up hB1
 iterate 1 (first|(apply Zh;exact rfl)|apply Zc|apply WO.nil|(apply Zl;exact rfl;simp only [rE,rS,li,lo,reduceIte,Nat.reduceEqDiff,Nat.reduceAdd,Nat.reduceMul,u7];exact rfl;exact rfl))
 (apply Yw;kernel_rfl;kernel_rfl)
 (refine Zq ?_;(iterate 3 (first|(apply ZW.pure;kernel_rfl;kernel_rfl;(focus ((simp only [rQ,Zb,li,lo,reduceIte,Nat.reduceEqDiff,Nat.reduceAdd,beq_self_eq_true];done)));simp only [rE,rS,li,lo,reduceIte,Nat.reduceEqDiff,Nat.reduceAdd,Nat.reduceMul,hrs.beq,Zj,t26,t27,t28,t7,Ze ZT Zv,Za Zw,Za Zu,Za ZE,ZJ,Zp,Zy,ZP,ZD,Zv,Xf,Zk,hone,hsol,Zf Zk hrs,u7,u9,u10,st0.cells];exact rfl;exact rfl)|(apply ZW.load;kernel_rfl;kernel_rfl;(focus ((simp only [rQ,Zb,li,lo,reduceIte,Nat.reduceEqDiff,Nat.reduceAdd,beq_self_eq_true];done)));simp only [rE,rS,li,lo,reduceIte,Nat.reduceEqDiff,Nat.reduceAdd,Nat.reduceMul,hrs.beq,Zj,t26,t27,t28,t7,Ze ZT Zv,Za Zw,Za Zu,Za ZE,ZJ,Zp,Zy,ZP,ZD,Zv,Xf,Zk,hone,hsol,Zf Zk hrs,u7,u9,u10,st0.cells];exact rfl;exact rfl)));(iterate 1 (apply ZW.later;kernel_rfl));(iterate 2 (first|(apply ZW.pure;kernel_rfl;kernel_rfl;(focus ((simp only [rQ,Zb,li,lo,reduceIte,Nat.reduceEqDiff,Nat.reduceAdd,beq_self_eq_true];done)));simp only [rE,rS,li,lo,reduceIte,Nat.reduceEqDiff,Nat.reduceAdd,Nat.reduceMul,hrs.beq,Zj,t26,t27,t28,t7,Ze ZT Zv,Za Zw,Za Zu,Za ZE,ZJ,Zp,Zy,ZP,ZD,Zv,Xf,Zk,hone,hsol,Zf Zk hrs,u7,u9,u10,st0.cells];exact rfl;exact rfl)|(apply ZW.load;kernel_rfl;kernel_rfl;(focus ((simp only [rQ,Zb,li,lo,reduceIte,Nat.reduceEqDiff,Nat.reduceAdd,beq_self_eq_true];done)));simp only [rE,rS,li,lo,reduceIte,Nat.reduceEqDiff,Nat.reduceAdd,Nat.reduceMul,hrs.beq,Zj,t26,t27,t28,t7,Ze ZT Zv,Za Zw,Za Zu,Za ZE,ZJ,Zp,Zy,ZP,ZD,Zv,Xf,Zk,hone,hsol,Zf Zk hrs,u7,u9,u10,st0.cells];exact rfl;exact rfl)));(iterate 1 (apply ZW.later;kernel_rfl));(iterate 1 (apply ZW.pure;kernel_rfl;kernel_rfl;(focus ((simp only [rQ,Zb,li,lo,reduceIte,Nat.reduceEqDiff,Nat.reduceAdd,beq_self_eq_true];done)));simp only [rE,rS,li,lo,reduceIte,Nat.reduceEqDiff,Nat.reduceAdd,Nat.reduceMul,hrs.beq,Zj,t26,t27,t28,t7,Ze ZT Zv,Za Zw,Za Zu,Za ZE,ZJ,Zp,Zy,ZP,ZD,Zv,Xf,Zk,hone,hsol,Zf Zk hrs,u7,u9,u10,st0.cells];exact rfl;exact rfl));(iterate 1 (apply ZW.later;kernel_rfl));(iterate 3 (first|(apply ZW.pure;kernel_rfl;kernel_rfl;(focus ((simp only [rQ,Zb,li,lo,reduceIte,Nat.reduceEqDiff,Nat.reduceAdd,beq_self_eq_true];done)));simp only [rE,rS,li,lo,reduceIte,Nat.reduceEqDiff,Nat.reduceAdd,Nat.reduceMul,hrs.beq,Zj,t26,t27,t28,t7,Ze ZT Zv,Za Zw,Za Zu,Za ZE,ZJ,Zp,Zy,ZP,ZD,Zv,Xf,Zk,hone,hsol,Zf Zk hrs,u7,u9,u10,st0.cells];exact rfl;exact rfl)|(apply ZW.load;kernel_rfl;kernel_rfl;(focus ((simp only [rQ,Zb,li,lo,reduceIte,Nat.reduceEqDiff,Nat.reduceAdd,beq_self_eq_true];done)));simp only [rE,rS,li,lo,reduceIte,Nat.reduceEqDiff,Nat.reduceAdd,Nat.reduceMul,hrs.beq,Zj,t26,t27,t28,t7,Ze ZT Zv,Za Zw,Za Zu,Za ZE,ZJ,Zp,Zy,ZP,ZD,Zv,Xf,Zk,hone,hsol,Zf Zk hrs,u7,u9,u10,st0.cells];exact rfl;exact rfl)));(iterate 2 (apply ZW.later;kernel_rfl));refine ZW.nil ?_)
 (apply ZY.call (e:=3);kernel_rfl;simp only [li];exact rfl;(focus (simp only [rQ,Zb,li,lo,reduceIte,Nat.reduceEqDiff,Nat.reduceAdd,beq_self_eq_true];done));simp only [rE,rS,li,lo,reduceIte,Nat.reduceEqDiff,Nat.reduceAdd,Nat.reduceMul,hrs.beq,Zj,t26,t27,t28,t7,Ze ZT Zv,Za Zw,Za Zu,Za ZE,ZJ,Zp,Zy,ZP,ZD,Zv,Xf,Zk,hone,hsol,Zf Zk hrs,u7,u9,u10,st0.cells];exact rfl;exact put_c H HH huB v s cpu hoB (by omega) (by omega);rintro v1 H1 ⟨ho1,hu1,hb1,hn1⟩;refine⟨_,rfl,?_,?_⟩;(focus (apply Yf (R:=[5,10]);kernel_rfl;(apply Xt.cons;simp only [li];exact rfl;(focus (simp only [rQ,Zb,li,lo,reduceIte,Nat.reduceEqDiff,Nat.reduceAdd,beq_self_eq_true];done));simp only [rE,rS,li,lo,reduceIte,Nat.reduceEqDiff,Nat.reduceAdd,Nat.reduceMul,hrs.beq,Zj,t26,t27,t28,t7,Ze ZT Zv,Za Zw,Za Zu,Za ZE,ZJ,Zp,Zy,ZP,ZD,Zv,Xf,Zk,hone,hsol,Zf Zk hrs,u7,u9,u10,(st0.step hb1 hn1).cells];exact rfl;exact rfl;(focus (simp only [Tri.gp,Zn,reduceIte,Nat.reduceEqDiff,hrs.beq,Zj,t26,t27,t28,t7,Ze ZT Zv,Za Zw,Za Zu,Za ZE,ZJ,Zp,Zy,ZP,ZD,Zv,Xf,Zk,hone,hsol,Zf Zk hrs,u7,u9,u10,(st0.step hb1 hn1).cells];exact rfl));(focus (simp [AV.beq,Ym,hrs.beq,Zj,t26,t27,t28,t7,Ze ZT Zv,Za Zw,Za Zu,Za ZE,ZJ,Zp,Zy,ZP,ZD,Zv,Xf,Zk,hone,hsol,Zf Zk hrs,u7,u9,u10,(st0.step hb1 hn1).cells];done)));(apply Xt.cons;simp only [li];exact rfl;(focus (simp only [rQ,Zb,li,lo,reduceIte,Nat.reduceEqDiff,Nat.reduceAdd,beq_self_eq_true];done));simp only [rE,rS,li,lo,reduceIte,Nat.reduceEqDiff,Nat.reduceAdd,Nat.reduceMul,hrs.beq,Zj,t26,t27,t28,t7,Ze ZT Zv,Za Zw,Za Zu,Za ZE,ZJ,Zp,Zy,ZP,ZD,Zv,Xf,Zk,hone,hsol,Zf Zk hrs,u7,u9,u10,(st0.step hb1 hn1).cells];exact rfl;exact rfl;(focus (simp only [Tri.gp,Zn,reduceIte,Nat.reduceEqDiff,hrs.beq,Zj,t26,t27,t28,t7,Ze ZT Zv,Za Zw,Za Zu,Za ZE,ZJ,Zp,Zy,ZP,ZD,Zv,Xf,Zk,hone,hsol,Zf Zk hrs,u7,u9,u10,(st0.step hb1 hn1).cells];exact rfl));(focus (simp [AV.beq,Ym,hrs.beq,Zj,t26,t27,t28,t7,Ze ZT Zv,Za Zw,Za Zu,Za ZE,ZJ,Zp,Zy,ZP,ZD,Zv,Xf,Zk,hone,hsol,Zf Zk hrs,u7,u9,u10,(st0.step hb1 hn1).cells];done)));exact Xt.nil)))
 (refine Zq ?_;(iterate 14 (apply ZW.later;kernel_rfl));refine ZW.nil ?_)
 have st1:=st0.step hb1 hn1
 (apply ZY.call (e:=6);kernel_rfl;simp only [li];exact rfl;(focus (simp only [rQ,Zb,li,lo,reduceIte,Nat.reduceEqDiff,Nat.reduceAdd,beq_self_eq_true];done));simp only [rE,rS,li,lo,reduceIte,Nat.reduceEqDiff,Nat.reduceAdd,Nat.reduceMul,hrs.beq,Zj,t26,t27,t28,t7,Ze ZT Zv,Za Zw,Za Zu,Za ZE,ZJ,Zp,Zy,ZP,ZD,Zv,Xf,Zk,hone,hsol,Zf Zk hrs,u7,u9,u10,st1.cells];exact rfl;exact put_c H H1 hu1 v1 _ dr ho1 (by omega) (by simp;omega);rintro v2 H2 ⟨ho2,hu2,hb2,hn2⟩;refine⟨_,rfl,?_,?_⟩;(focus (apply Yf (R:=[10]);kernel_rfl;(apply Xt.cons;simp only [li];exact rfl;(focus (simp only [rQ,Zb,li,lo,reduceIte,Nat.reduceEqDiff,Nat.reduceAdd,beq_self_eq_true];done));simp only [rE,rS,li,lo,reduceIte,Nat.reduceEqDiff,Nat.reduceAdd,Nat.reduceMul,hrs.beq,Zj,t26,t27,t28,t7,Ze ZT Zv,Za Zw,Za Zu,Za ZE,ZJ,Zp,Zy,ZP,ZD,Zv,Xf,Zk,hone,hsol,Zf Zk hrs,u7,u9,u10,(st1.step hb2 hn2).cells];exact rfl;exact rfl;(focus (simp only [Tri.gp,Zn,reduceIte,Nat.reduceEqDiff,hrs.beq,Zj,t26,t27,t28,t7,Ze ZT Zv,Za Zw,Za Zu,Za ZE,ZJ,Zp,Zy,ZP,ZD,Zv,Xf,Zk,hone,hsol,Zf Zk hrs,u7,u9,u10,(st1.step hb2 hn2).cells];exact rfl));(focus (simp [AV.beq,Ym,hrs.beq,Zj,t26,t27,t28,t7,Ze ZT Zv,Za Zw,Za Zu,Za ZE,ZJ,Zp,Zy,ZP,ZD,Zv,Xf,Zk,hone,hsol,Zf Zk hrs,u7,u9,u10,(st1.step hb2 hn2).cells];done)));exact Xt.nil)))
 (refine Zq ?_;(iterate 14 (apply ZW.later;kernel_rfl));refine ZW.nil ?_)
 have st2:=st1.step hb2 hn2
 (apply ZY.call (e:=8);kernel_rfl;simp only [li];exact rfl;(focus (simp only [rQ,Zb,li,lo,reduceIte,Nat.reduceEqDiff,Nat.reduceAdd,beq_self_eq_true];done));simp only [rE,rS,li,lo,reduceIte,Nat.reduceEqDiff,Nat.reduceAdd,Nat.reduceMul,hrs.beq,Zj,t26,t27,t28,t7,Ze ZT Zv,Za Zw,Za Zu,Za ZE,ZJ,Zp,Zy,ZP,ZD,Zv,Xf,Zk,hone,hsol,Zf Zk hrs,u7,u9,u10,st2.cells];exact rfl;exact put_c H H2 hu2 v2 _ ah ho2 (by omega) (by simp;omega);rintro v3 H3 ⟨ho3,hu3,hb3,hn3⟩;refine⟨_,rfl,?_,?_⟩;(focus (apply Yf (R:=[10]);kernel_rfl;(apply Xt.cons;simp only [li];exact rfl;(focus (simp only [rQ,Zb,li,lo,reduceIte,Nat.reduceEqDiff,Nat.reduceAdd,beq_self_eq_true];done));simp only [rE,rS,li,lo,reduceIte,Nat.reduceEqDiff,Nat.reduceAdd,Nat.reduceMul,hrs.beq,Zj,t26,t27,t28,t7,Ze ZT Zv,Za Zw,Za Zu,Za ZE,ZJ,Zp,Zy,ZP,ZD,Zv,Xf,Zk,hone,hsol,Zf Zk hrs,u7,u9,u10,(st2.step hb3 hn3).cells];exact rfl;exact rfl;(focus (simp only [Tri.gp,Zn,reduceIte,Nat.reduceEqDiff,hrs.beq,Zj,t26,t27,t28,t7,Ze ZT Zv,Za Zw,Za Zu,Za ZE,ZJ,Zp,Zy,ZP,ZD,Zv,Xf,Zk,hone,hsol,Zf Zk hrs,u7,u9,u10,(st2.step hb3 hn3).cells];exact rfl));(focus (simp [AV.beq,Ym,hrs.beq,Zj,t26,t27,t28,t7,Ze ZT Zv,Za Zw,Za Zu,Za ZE,ZJ,Zp,Zy,ZP,ZD,Zv,Xf,Zk,hone,hsol,Zf Zk hrs,u7,u9,u10,(st2.step hb3 hn3).cells];done)));exact Xt.nil)))
 (refine Zq ?_;(iterate 14 (apply ZW.later;kernel_rfl));refine ZW.nil ?_)
 have st3:=st2.step hb3 hn3
 (apply ZY.call (e:=12);kernel_rfl;simp only [li];exact rfl;(focus (simp only [rQ,Zb,li,lo,reduceIte,Nat.reduceEqDiff,Nat.reduceAdd,beq_self_eq_true];done));simp only [rE,rS,li,lo,reduceIte,Nat.reduceEqDiff,Nat.reduceAdd,Nat.reduceMul,hrs.beq,Zj,t26,t27,t28,t7,Ze ZT Zv,Za Zw,Za Zu,Za ZE,ZJ,Zp,Zy,ZP,ZD,Zv,Xf,Zk,hone,hsol,Zf Zk hrs,u7,u9,u10,st3.cells];exact rfl;exact put_c H H3 hu3 v3 _ recs.length ho3 (by omega) (by simp;omega);rintro v4 H4 ⟨ho4,hu4,hb4,hn4⟩;refine⟨_,rfl,?_,?_⟩;(focus exact ZM (by kernel_rfl)))
 (refine Zq ?_;(iterate 14 (apply ZW.later;kernel_rfl));refine ZW.nil ?_)
 have st4:=st3.step hb4 hn4
 (apply ZY.eff (e:=13);kernel_rfl;simp only [li];exact rfl;(focus (simp only [rQ,Zb,li,lo,reduceIte,Nat.reduceEqDiff,Nat.reduceAdd,beq_self_eq_true];done));simp only [rE,rS,li,lo,reduceIte,Nat.reduceEqDiff,Nat.reduceAdd,Nat.reduceMul,hrs.beq,Zj,t26,t27,t28,t7,Ze ZT Zv,Za Zw,Za Zu,Za ZE,ZJ,Zp,Zy,ZP,ZD,Zv,Xf,Zk,hone,hsol,Zf Zk hrs];exact rfl;exact rfl;(focus exact ZM (by kernel_rfl)))
 (refine Zq ?_;(iterate 14 (apply ZW.later;kernel_rfl));refine ZW.nil ?_)
 (apply ZY.all;kernel_rfl;kernel_rfl)
 repeat (first|(apply Zh;exact rfl)|apply Zc|apply WO.nil|(apply Zl;exact rfl;simp only [rE,rS,li,lo,reduceIte,Nat.reduceEqDiff,Nat.reduceAdd,Nat.reduceMul,hrs.beq,Zj,t26,t27,t28,t7,Ze ZT Zv,Za Zw,Za Zu,Za ZE,ZJ,Zp,Zy,ZP,ZD,Zv,Xf,Zk,hone,hsol,Zf Zk hrs,u7,u9,u10,st4.cells];exact rfl;exact rfl))
 generalize hs4:s ++ Xp cpu ++ Xp dr ++ Xp ah ++ Xp recs.length = s4 at *
 have hl4:s4.length≤s.length + 40:=by
  rw [← hs4]
  simp only [List.length_append]
  omega
 have hfull:WB ps = (s4 ++ XD recs) ++ XE (ps.drop (i + 1)):=by
  rw [hse,hdrop,← hs4]
  simp [encB]
 refine Ys (fun m t Hk =>∃(k:Nat) (w:AV) (z:List Nat),Up H Hk∧k + m = recs.length∧X9 H Hk w z∧s4 ++ XD recs = z ++ XD (recs.drop k)∧t.get 7 = some w∧t.get 26 = some (.slice b off (ps.map ofB).length cap)∧t.get 27 = some (.int .i64 (ps.length:Int))∧t.get 28 = some (.int .i64 (i:Int))∧t.get 48 = some rv∧t.get 49 = some (.int .i64 (recs.length:Int))∧t.get 50 = some (.int .i64 (k:Int))) recs.length ?_ ?_
 ·refine⟨0,v4,s4,hu4,by omega,ho4,by simp,?_,?_,?_,?_,?_,?_,?_⟩
  all_goals simp [Tri.gp,u26,u27,u28]
 rintro m2 t3 Hk ⟨k,w,z,huk,hkm,hok2,hsz,k7,k26,k27,k28,k48,k49,k50⟩ ih2
 by_cases hk:k < recs.length
 rotate_left
 ·obtain rfl:k = recs.length:=by omega
  have hlt2:decide ((recs.length:Int) < (recs.length:Int)) = false:=by simp
  rw [List.drop_length,XD,List.append_nil] at hsz
  repeat (first|(apply Zh;exact rfl)|apply Zc|apply WO.nil|(apply WO.op;(focus (simp only [rQ,Zb,li,lo,reduceIte,Nat.reduceEqDiff,Nat.reduceAdd,beq_self_eq_true,k7];done));simp only [rE,rS,li,lo,reduceIte,Nat.reduceEqDiff,Nat.reduceAdd,Nat.reduceMul,k7,k26,k27,k28,k48,k49,k50,hlt2];exact rfl;exact rfl)|(apply WO.unwanted;(focus (simp only [rQ,Zb,li,lo,reduceIte,Nat.reduceEqDiff,Nat.reduceAdd,beq_self_eq_true,k7];done));exact rfl))
  (first|(apply WF.condT;(focus (simp only [Zg,Zd,Tri.gp,Zn,Bool.not_true,Bool.not_false,reduceIte,Nat.reduceEqDiff,hlt2];done)))|(apply WF.condF;(focus (simp only [Zg,Zd,Tri.gp,Zn,Bool.not_true,Bool.not_false,reduceIte,Nat.reduceEqDiff,hlt2];done))))
  repeat (first|(apply Zh;exact rfl)|apply Zc|apply WO.nil|(apply WO.op;(focus (simp only [rQ,Zb,li,lo,reduceIte,Nat.reduceEqDiff,Nat.reduceAdd,beq_self_eq_true,k7];done));simp only [rE,rS,li,lo,reduceIte,Nat.reduceEqDiff,Nat.reduceAdd,Nat.reduceMul,k7,k26,k27,k28,k48,k49,k50,hlt2,wi];exact rfl;exact rfl)|(apply WO.unwanted;(focus (simp only [rQ,Zb,li,lo,reduceIte,Nat.reduceEqDiff,Nat.reduceAdd,beq_self_eq_true,k7];done));exact rfl))
  refine Yt ?_
  refine ih (m - 1) _ _ (by omega) ⟨i + 1,w,z,huk,by omega,hok2,by rw [hfull,hsz],?_,?_,?_,?_⟩
  all_goals simp [Tri.gp,k7,k26,k27,k28]
 have hlt2:decide ((k:Int) < (recs.length:Int)) = true:=by simp;omega
 have wk:IntKind.i64.wrap ((k:Int) + 1) = ((k + 1:Nat):Int):=by rw [Go.Ev.w64 (by omega) (by omega)];omega
 have hk2:k < (recs.map ofR).length:=by rw [List.length_map];exact hk
 obtain⟨b2,off2,cap2,c2,dv,hrv,hb2,hc2,hd2,hcut2⟩:=recs_at hd hk2
 rw [← huk.cellsAt hb2] at hc2
 have hgy:(recs.map ofR)[k] = ofR recs[k]:=by simp
 rw [hgy] at hd2 hcut2
 have hoky:=k5 _ (List.getElem_mem hk)
 have hdrop2:=encRs_drop hk
 generalize recs[k] = y at *
 obtain⟨id,tm,data⟩:=y
 obtain⟨g1,g2,g3,g4⟩:=hoky
 dsimp only at g1 g2 g3 g4
 unfold ofR at hcut2 hd2
 dsimp only at hcut2 hd2
 have hds:=hd2.1
 rw [YJ] at hds
 have done1:=hds.one
 have dsol:=hds.solid
 have e1:=Yj 9 id (by omega)
 have e2:=Yj 9 tm (by omega)
 have e3:=Yj 9 data.length (by omega)
 have hzl:=congrArg List.length hsz
 simp only [List.length_append] at hzl
 subst hrv
 repeat (first|(apply Zh;exact rfl)|apply Zc|apply WO.nil|(apply WO.op;(focus (simp only [rQ,Zb,li,lo,reduceIte,Nat.reduceEqDiff,Nat.reduceAdd,beq_self_eq_true,k7];done));simp only [rE,rS,li,lo,reduceIte,Nat.reduceEqDiff,Nat.reduceAdd,Nat.reduceMul,k7,k26,k27,k28,k48,k49,k50,hlt2];exact rfl;exact rfl)|(apply WO.unwanted;(focus (simp only [rQ,Zb,li,lo,reduceIte,Nat.reduceEqDiff,Nat.reduceAdd,beq_self_eq_true,k7];done));exact rfl))
 (first|(apply WF.condT;(focus (simp only [Zg,Zd,Tri.gp,Zn,Bool.not_true,Bool.not_false,reduceIte,Nat.reduceEqDiff,hlt2];done)))|(apply WF.condF;(focus (simp only [Zg,Zd,Tri.gp,Zn,Bool.not_true,Bool.not_false,reduceIte,Nat.reduceEqDiff,hlt2];done))))
 repeat (first|(apply Zh;exact rfl)|apply Zc|apply WO.nil|(apply WO.op;(focus (simp only [rQ,Zb,li,lo,reduceIte,Nat.reduceEqDiff,Nat.reduceAdd,beq_self_eq_true,k7];done));simp only [rE,rS,li,lo,reduceIte,Nat.reduceEqDiff,Nat.reduceAdd,Nat.reduceMul,hds.beq,Zk,k7,k48,k49,k50,Ze Yi Z1,Za Zu,Za Yr,Za Zx,ZH,ZG,Zz,ZU,Z1,Xf,cu51,Yb,done1,dsol,Zo,Zf Zo hds,hlt2,Zt Zk Z1 hk2,hc2,hcut2];exact rfl;exact rfl)|(apply WO.unwanted;(focus (simp only [rQ,Zb,li,lo,reduceIte,Nat.reduceEqDiff,Nat.reduceAdd,beq_self_eq_true,k7];done));exact rfl))
 have hC1:Up Hk ⟨(Hk.t.put Hk.next (some (.cells 87 [.int .i64 0,.int .i64 0,.nilslice] 0 false false))).put Hk.next (some (.cells 87 [.int .i64 (id:Int),.int .i64 (tm:Int),dv] 0 false false)),Hk.next + 1⟩:=WV Hk _ _
 have sv0:Still Hk.next (some (.cells 87 [.int .i64 (id:Int),.int .i64 (tm:Int),dv] 0 false false)) w ⟨(Hk.t.put Hk.next (some (.cells 87 [.int .i64 0,.int .i64 0,.nilslice] 0 false false))).put Hk.next (some (.cells 87 [.int .i64 (id:Int),.int .i64 (tm:Int),dv] 0 false false)),Hk.next + 1⟩ :=
  ⟨by show (Tri.put _ _ _).get _ = _;rw [Tri.gp,if_pos rfl],Nat.lt_succ_self _,hok2.lt (Nat.le_refl _)⟩
 have huC:=huk.trans hC1
 have hoC:=hok2.up hC1
 generalize (⟨(Hk.t.put Hk.next (some (.cells 87 [.int .i64 0,.int .i64 0,.nilslice] 0 false false))).put Hk.next (some (.cells 87 [.int .i64 (id:Int),.int .i64 (tm:Int),dv] 0 false false)),Hk.next + 1⟩:AH) = HC at *
 (apply Yw;kernel_rfl;kernel_rfl)
 (refine Zq ?_;(iterate 3 (first|(apply ZW.pure;kernel_rfl;kernel_rfl;(focus ((simp only [rQ,Zb,li,lo,reduceIte,Nat.reduceEqDiff,Nat.reduceAdd,beq_self_eq_true,k7];done)));simp only [rE,rS,li,lo,reduceIte,Nat.reduceEqDiff,Nat.reduceAdd,Nat.reduceMul,hds.beq,Zk,k7,k48,k49,k50,Ze Yi Z1,Za Zu,Za Yr,Za Zx,ZH,ZG,Zz,ZU,Z1,Xf,cu51,Yb,done1,dsol,Zo,Zf Zo hds,sv0.cells];exact rfl;exact rfl)|(apply ZW.load;kernel_rfl;kernel_rfl;(focus ((simp only [rQ,Zb,li,lo,reduceIte,Nat.reduceEqDiff,Nat.reduceAdd,beq_self_eq_true,k7];done)));simp only [rE,rS,li,lo,reduceIte,Nat.reduceEqDiff,Nat.reduceAdd,Nat.reduceMul,hds.beq,Zk,k7,k48,k49,k50,Ze Yi Z1,Za Zu,Za Yr,Za Zx,ZH,ZG,Zz,ZU,Z1,Xf,cu51,Yb,done1,dsol,Zo,Zf Zo hds,sv0.cells];exact rfl;exact rfl)));(iterate 1 (apply ZW.later;kernel_rfl));(iterate 2 (first|(apply ZW.pure;kernel_rfl;kernel_rfl;(focus ((simp only [rQ,Zb,li,lo,reduceIte,Nat.reduceEqDiff,Nat.reduceAdd,beq_self_eq_true,k7];done)));simp only [rE,rS,li,lo,reduceIte,Nat.reduceEqDiff,Nat.reduceAdd,Nat.reduceMul,hds.beq,Zk,k7,k48,k49,k50,Ze Yi Z1,Za Zu,Za Yr,Za Zx,ZH,ZG,Zz,ZU,Z1,Xf,cu51,Yb,done1,dsol,Zo,Zf Zo hds,sv0.cells];exact rfl;exact rfl)|(apply ZW.load;kernel_rfl;kernel_rfl;(focus ((simp only [rQ,Zb,li,lo,reduceIte,Nat.reduceEqDiff,Nat.reduceAdd,beq_self_eq_true,k7];done)));simp only [rE,rS,li,lo,reduceIte,Nat.reduceEqDiff,Nat.reduceAdd,Nat.reduceMul,hds.beq,Zk,k7,k48,k49,k50,Ze Yi Z1,Za Zu,Za Yr,Za Zx,ZH,ZG,Zz,ZU,Z1,Xf,cu51,Yb,done1,dsol,Zo,Zf Zo hds,sv0.cells];exact rfl;exact rfl)));(iterate 1 (apply ZW.later;kernel_rfl));(iterate 3 (first|(apply ZW.pure;kernel_rfl;kernel_rfl;(focus ((simp only [rQ,Zb,li,lo,reduceIte,Nat.reduceEqDiff,Nat.reduceAdd,beq_self_eq_true,k7];done)));simp only [rE,rS,li,lo,reduceIte,Nat.reduceEqDiff,Nat.reduceAdd,Nat.reduceMul,hds.beq,Zk,k7,k48,k49,k50,Ze Yi Z1,Za Zu,Za Yr,Za Zx,ZH,ZG,Zz,ZU,Z1,Xf,cu51,Yb,done1,dsol,Zo,Zf Zo hds,sv0.cells];exact rfl;exact rfl)|(apply ZW.load;kernel_rfl;kernel_rfl;(focus ((simp only [rQ,Zb,li,lo,reduceIte,Nat.reduceEqDiff,Nat.reduceAdd,beq_self_eq_true,k7];done)));simp only [rE,rS,li,lo,reduceIte,Nat.reduceEqDiff,Nat.reduceAdd,Nat.reduceMul,hds.beq,Zk,k7,k48,k49,k50,Ze Yi Z1,Za Zu,Za Yr,Za Zx,ZH,ZG,Zz,ZU,Z1,Xf,cu51,Yb,done1,dsol,Zo,Zf Zo hds,sv0.cells];exact rfl;exact rfl)));(iterate 2 (apply ZW.later;kernel_rfl));refine ZW.nil ?_)
 (apply ZY.call (e:=3);kernel_rfl;simp only [li];exact rfl;(focus (simp only [rQ,Zb,li,lo,reduceIte,Nat.reduceEqDiff,Nat.reduceAdd,beq_self_eq_true,k7];done));simp only [rE,rS,li,lo,reduceIte,Nat.reduceEqDiff,Nat.reduceAdd,Nat.reduceMul,hds.beq,Zk,k7,k48,k49,k50,Ze Yi Z1,Za Zu,Za Yr,Za Zx,ZH,ZG,Zz,ZU,Z1,Xf,cu51,Yb,done1,dsol,Zo,Zf Zo hds,sv0.cells];exact rfl;exact put_c H HC huC w z id hoC (by omega) (by omega);rintro w1 H5 ⟨ho5,hu5,hb5,hn5⟩;refine⟨_,rfl,?_,?_⟩;(focus (apply Yf (R:=[5,8]);kernel_rfl;(apply Xt.cons;simp only [li];exact rfl;(focus (simp only [rQ,Zb,li,lo,reduceIte,Nat.reduceEqDiff,Nat.reduceAdd,beq_self_eq_true,k7];done));simp only [rE,rS,li,lo,reduceIte,Nat.reduceEqDiff,Nat.reduceAdd,Nat.reduceMul,hds.beq,Zk,k7,k48,k49,k50,Ze Yi Z1,Za Zu,Za Yr,Za Zx,ZH,ZG,Zz,ZU,Z1,Xf,cu51,Yb,done1,dsol,Zo,Zf Zo hds,(sv0.step hb5 hn5).cells];exact rfl;exact rfl;(focus (simp only [Tri.gp,Zn,reduceIte,Nat.reduceEqDiff,hds.beq,Zk,k7,k48,k49,k50,Ze Yi Z1,Za Zu,Za Yr,Za Zx,ZH,ZG,Zz,ZU,Z1,Xf,cu51,Yb,done1,dsol,Zo,Zf Zo hds,(sv0.step hb5 hn5).cells];exact rfl));(focus (simp [AV.beq,Ym,hds.beq,Zk,k7,k48,k49,k50,Ze Yi Z1,Za Zu,Za Yr,Za Zx,ZH,ZG,Zz,ZU,Z1,Xf,cu51,Yb,done1,dsol,Zo,Zf Zo hds,(sv0.step hb5 hn5).cells];done)));(apply Xt.cons;simp only [li];exact rfl;(focus (simp only [rQ,Zb,li,lo,reduceIte,Nat.reduceEqDiff,Nat.reduceAdd,beq_self_eq_true,k7];done));simp only [rE,rS,li,lo,reduceIte,Nat.reduceEqDiff,Nat.reduceAdd,Nat.reduceMul,hds.beq,Zk,k7,k48,k49,k50,Ze Yi Z1,Za Zu,Za Yr,Za Zx,ZH,ZG,Zz,ZU,Z1,Xf,cu51,Yb,done1,dsol,Zo,Zf Zo hds,(sv0.step hb5 hn5).cells];exact rfl;exact rfl;(focus (simp only [Tri.gp,Zn,reduceIte,Nat.reduceEqDiff,hds.beq,Zk,k7,k48,k49,k50,Ze Yi Z1,Za Zu,Za Yr,Za Zx,ZH,ZG,Zz,ZU,Z1,Xf,cu51,Yb,done1,dsol,Zo,Zf Zo hds,(sv0.step hb5 hn5).cells];exact rfl));(focus (simp [AV.beq,Ym,hds.beq,Zk,k7,k48,k49,k50,Ze Yi Z1,Za Zu,Za Yr,Za Zx,ZH,ZG,Zz,ZU,Z1,Xf,cu51,Yb,done1,dsol,Zo,Zf Zo hds,(sv0.step hb5 hn5).cells];done)));exact Xt.nil)))
 (refine Zq ?_;(iterate 12 (apply ZW.later;kernel_rfl));refine ZW.nil ?_)
 have sv1:=sv0.step hb5 hn5
 (apply ZY.call (e:=6);kernel_rfl;simp only [li];exact rfl;(focus (simp only [rQ,Zb,li,lo,reduceIte,Nat.reduceEqDiff,Nat.reduceAdd,beq_self_eq_true,k7];done));simp only [rE,rS,li,lo,reduceIte,Nat.reduceEqDiff,Nat.reduceAdd,Nat.reduceMul,hds.beq,Zk,k7,k48,k49,k50,Ze Yi Z1,Za Zu,Za Yr,Za Zx,ZH,ZG,Zz,ZU,Z1,Xf,cu51,Yb,done1,dsol,Zo,Zf Zo hds,sv1.cells];exact rfl;exact putT_c H H5 hu5 w1 _ tm ho5 (by omega) (by simp;omega);rintro w2 H6 ⟨ho6,hu6,hb6,hn6⟩;refine⟨_,rfl,?_,?_⟩;(focus (apply Yf (R:=[8]);kernel_rfl;(apply Xt.cons;simp only [li];exact rfl;(focus (simp only [rQ,Zb,li,lo,reduceIte,Nat.reduceEqDiff,Nat.reduceAdd,beq_self_eq_true,k7];done));simp only [rE,rS,li,lo,reduceIte,Nat.reduceEqDiff,Nat.reduceAdd,Nat.reduceMul,hds.beq,Zk,k7,k48,k49,k50,Ze Yi Z1,Za Zu,Za Yr,Za Zx,ZH,ZG,Zz,ZU,Z1,Xf,cu51,Yb,done1,dsol,Zo,Zf Zo hds,(sv1.step hb6 hn6).cells];exact rfl;exact rfl;(focus (simp only [Tri.gp,Zn,reduceIte,Nat.reduceEqDiff,hds.beq,Zk,k7,k48,k49,k50,Ze Yi Z1,Za Zu,Za Yr,Za Zx,ZH,ZG,Zz,ZU,Z1,Xf,cu51,Yb,done1,dsol,Zo,Zf Zo hds,(sv1.step hb6 hn6).cells];exact rfl));(focus (simp [AV.beq,Ym,hds.beq,Zk,k7,k48,k49,k50,Ze Yi Z1,Za Zu,Za Yr,Za Zx,ZH,ZG,Zz,ZU,Z1,Xf,cu51,Yb,done1,dsol,Zo,Zf Zo hds,(sv1.step hb6 hn6).cells];done)));exact Xt.nil)))
 (refine Zq ?_;(iterate 12 (apply ZW.later;kernel_rfl));refine ZW.nil ?_)
 have sv2:=sv1.step hb6 hn6
 (apply ZY.call (e:=10);kernel_rfl;simp only [li];exact rfl;(focus (simp only [rQ,Zb,li,lo,reduceIte,Nat.reduceEqDiff,Nat.reduceAdd,beq_self_eq_true,k7];done));simp only [rE,rS,li,lo,reduceIte,Nat.reduceEqDiff,Nat.reduceAdd,Nat.reduceMul,hds.beq,Zk,k7,k48,k49,k50,Ze Yi Z1,Za Zu,Za Yr,Za Zx,ZH,ZG,Zz,ZU,Z1,Xf,cu51,Yb,done1,dsol,Zo,Zf Zo hds,sv2.cells];exact rfl;exact put_c H H6 hu6 w2 _ data.length ho6 (by omega) (by simp;omega);rintro w3 H7 ⟨ho7,hu7,hb7,hn7⟩;refine⟨_,rfl,?_,?_⟩;(focus exact ZM (by kernel_rfl)))
 (refine Zq ?_;(iterate 12 (apply ZW.later;kernel_rfl));refine ZW.nil ?_)
 have sv3:=sv2.step hb7 hn7
 (apply ZY.eff (e:=11);kernel_rfl;simp only [li];exact rfl;(focus (simp only [rQ,Zb,li,lo,reduceIte,Nat.reduceEqDiff,Nat.reduceAdd,beq_self_eq_true,k7];done));simp only [rE,rS,li,lo,reduceIte,Nat.reduceEqDiff,Nat.reduceAdd,Nat.reduceMul,hds.beq,Zk,k7,k48,k49,k50,Ze Yi Z1,Za Zu,Za Yr,Za Zx,ZH,ZG,Zz,ZU,Z1,Xf,cu51,Yb,done1,dsol,Zo,Zf Zo hds];exact rfl;exact rfl;(focus exact ZM (by kernel_rfl)))
 (refine Zq ?_;(iterate 12 (apply ZW.later;kernel_rfl));refine ZW.nil ?_)
 (apply ZY.all;kernel_rfl;kernel_rfl)
 have hda:Y3 H7 dv (Xw data):=hd2.up hu7
 obtain⟨w4,H8,happ,ho8,hu8,hb8,_⟩:=ho7.data hu7 hda (by simp;omega)
 repeat (first|(apply Zh;exact rfl)|apply Zc|apply WO.nil|(apply WO.op;(focus (simp only [rQ,Zb,li,lo,reduceIte,Nat.reduceEqDiff,Nat.reduceAdd,beq_self_eq_true,k7];done));simp only [rE,rS,li,lo,reduceIte,Nat.reduceEqDiff,Nat.reduceAdd,Nat.reduceMul,hds.beq,Zk,k7,k48,k49,k50,Ze Yi Z1,Za Zu,Za Yr,Za Zx,ZH,ZG,Zz,ZU,Z1,Xf,cu51,Yb,done1,dsol,Zo,Zf Zo hds,sv3.cells,happ,wk];exact rfl;exact rfl)|(apply WO.unwanted;(focus (simp only [rQ,Zb,li,lo,reduceIte,Nat.reduceEqDiff,Nat.reduceAdd,beq_self_eq_true,k7];done));exact rfl))
 refine Yt ?_
 refine ih2 (m2 - 1) _ _ (by omega) ⟨k + 1,w4,_,hu8,by omega,ho8,?_,?_,?_,?_,?_,?_,?_,?_⟩
 ·rw [hsz,hdrop2]
  simp [encR]
 all_goals simp [Tri.gp,k26,k27,k28,k48,k49]
end Go.Ev.C
end
section
namespace Go.Ev.C
open Go.Proofs Go.RowKit
set_option maxRecDepth 100000
set_option linter.unusedSimpArgs false
section
variable {P:Program} {L:World→Prop} [Yu P L] {H:AH} {Φ:AF→AH→Prop}
theorem XB {f n:Nat} {t:Tri AV} {k:List AI} {d:List AD} {kd:CallKind} {i:Nat} {ops:Array Oper} (l:List Nat) (hl:List.range ops.size = l) (h:WF P L (PK f n t (.inRegion ops l :: k) d kd) H Φ):WF P L (PK f n t (.code (.region i ops false) :: k) d kd) H Φ:=by
 subst hl
 exact WK.region h
/-- A deferred call. -/
theorem run_defer {fr gf fr':AF} {g:FuncId} {args caps:List AV} {ds:List AD} {H':AH} (hm:fr.mode ≠ .run) (hd:fr.defers = .call g args caps :: ds) (he:ZQ P g (args ++ caps) .deferred = some gf)
  (hl:∀cs,Yy P L ⟨gf,{ fr with defers:=ds } :: cs,H⟩ ⟨fr',cs,H'⟩) (h:WF P L fr' H' Φ):WF P L fr H Φ:=by
 refine h.leads fun cs =>.trans (Z0 (m':=⟨gf,{ fr with defers:=ds } :: cs,H⟩) ?_) (hl cs)
 unfold YU
 dsimp only
 split
 ·rename_i hmm
  exact absurd hmm hm
 unfold unwindA
 rw [hd]
 dsimp only
 rw [he]
 rfl
/-- The end of a deferred call. -/
theorem deferred_ends {g:AF} {Ψ:AH→Prop} (h:WF P L g H fun fr' H' =>fr'.mode = .returning∧fr'.defers = []∧fr'.kind = .deferred∧(∃v,ZI P fr' H' = some v)∧Ψ H') :
  ∃H',Ψ H'∧∀c cs,Yy P L ⟨g,c :: cs,H⟩ ⟨{ c with mode:=settleMode c.mode },cs,H'⟩:=by
 obtain⟨fr',H',⟨hm,hd,hk,⟨v,hv⟩,hΨ⟩,hl⟩:=h
 refine⟨H',hΨ,fun c cs =>(hl (c :: cs)).trans (Z0 ?_)⟩
 unfold YU
 dsimp only
 rw [hm]
 unfold unwindA
 rw [hd,hm]
 dsimp only
 rw [hv,hk]
/-- recover, where nothing panics. -/
theorem rec_none {f n:Nat} {t t':Tri AV} {k:List AI} {ops:Array Oper} {i:Nat} {rest:List Nat} {o:Oper} {H1:AH} {c:AF} {cs:List AF} (hc:c.mode = .returning) (ho:ops[i]? = some o) (hw:Zb ops t o = some true) (hx:Xr P t o.op H = some (.recover,H1)) (hd:XM n t o.dst .niliface = some t') :
  Yy P L ⟨PK f n t (.inRegion ops (i :: rest) :: k) [] .deferred,c :: cs,H⟩ ⟨PK f n t' (.inRegion ops rest :: k) [] .deferred,c :: cs,H1⟩:=by
 refine Z0 ?_
 simp only [YU,Xs,Xq,operA,ho,hw,hx,XW,Y1,hc]
 rw [finish_PK ho hd]
 rfl
theorem rec_some {f n:Nat} {t t':Tri AV} {k:List AI} {ops:Array Oper} {i:Nat} {rest:List Nat} {o:Oper} {H1:AH} {c:AF} {cs:List AF} {v:AV} (hc:c.mode = .panicking [(v,false)]) (ho:ops[i]? = some o) (hw:Zb ops t o = some true) (hx:Xr P t o.op H = some (.recover,H1)) (hd:XM n t o.dst v = some t') :
  Yy P L ⟨PK f n t (.inRegion ops (i :: rest) :: k) [] .deferred,c :: cs,H⟩ ⟨PK f n t' (.inRegion ops rest :: k) [] .deferred,{ c with mode:=.panicking [(v,true)] } :: cs,H1⟩:=by
 refine Z0 ?_
 simp only [YU,Xs,Xq,operA,ho,hw,hx,XW,Y1,hc]
 rw [finish_PK ho hd]
 rfl
theorem lk_seq {f n:Nat} {t:Tri AV} {k:List AI} {d:List AD} {kd:CallKind} {a b:Code} {cs:List AF}:Yy P L ⟨PK f n t (.code (.seq a b) :: k) d kd,cs,H⟩ ⟨PK f n t (.code a :: .code b :: k) d kd,cs,H⟩:=Z0 rfl
theorem lk_region {f n:Nat} {t:Tri AV} {k:List AI} {d:List AD} {kd:CallKind} {i:Nat} {ops:Array Oper} {cs:List AF} (l:List Nat) (hl:List.range ops.size = l):Yy P L ⟨PK f n t (.code (.region i ops false) :: k) d kd,cs,H⟩ ⟨PK f n t (.inRegion ops l :: k) d kd,cs,H⟩:=by
 subst hl
 exact Z0 rfl
theorem to_end {g:AF} {H1:AH} (h:WF P L g H fun fr' H' =>fr'.mode = .returning∧fr'.defers = []∧fr'.kind = .deferred∧(∃v,ZI P fr' H' = some v)∧H' = H1) {c c':AF} {cs:List AF} (hc:c' = { c with mode:=settleMode c.mode }):Yy P L ⟨g,c :: cs,H⟩ ⟨c',cs,H1⟩:=by
 obtain⟨H',rfl,hl⟩:=deferred_ends h
 rw [hc]
 exact hl c cs
theorem rec_noneT {f n:Nat} {t t':Tri AV} {k:List AI} {ops:Array Oper} {i:Nat} {rest:List Nat} {o:Oper} {H1:AH} {c:AF} {cs:List AF} {m:Yc} (hc:c.mode = .returning) (ho:ops[i]? = some o) (hw:Zb ops t o = some true) (hx:Xr P t o.op H = some (.recover,H1)) (hd:XM n t o.dst .niliface = some t')
  (hk:Yy P L ⟨PK f n t' (.inRegion ops rest :: k) [] .deferred,c :: cs,H1⟩ m):Yy P L ⟨PK f n t (.inRegion ops (i :: rest) :: k) [] .deferred,c :: cs,H⟩ m:=(rec_none hc ho hw hx hd).trans hk
theorem rec_someT {f n:Nat} {t t':Tri AV} {k:List AI} {ops:Array Oper} {i:Nat} {rest:List Nat} {o:Oper} {H1:AH} {c:AF} {cs:List AF} {v:AV} {m:Yc} (hc:c.mode = .panicking [(v,false)]) (ho:ops[i]? = some o) (hw:Zb ops t o = some true) (hx:Xr P t o.op H = some (.recover,H1)) (hd:XM n t o.dst v = some t')
  (hk:Yy P L ⟨PK f n t' (.inRegion ops rest :: k) [] .deferred,{ c with mode:=.panicking [(v,true)] } :: cs,H1⟩ m):Yy P L ⟨PK f n t (.inRegion ops (i :: rest) :: k) [] .deferred,c :: cs,H⟩ m:=(rec_some hc ho hw hx hd).trans hk
end
section
variable {L:World→Prop} [Yu Q L]
theorem en86d (a:AV):ZQ Q 86 ([] ++ [a]) .deferred = some (PK 86 15 (Zn 0 [a] .leaf) [.code c86] [] .deferred):=by kernel_rfl
theorem res86 (f:AF) (H:AH) (h:f.fn = 86):ZI Q f H = some (.tuple []):=by
 unfold ZI
 rw [h]
 have e:(funcU Q 86).map (fun fn =>fn.results.toList) = some []:=by kernel_rfl
 cases hf:funcU Q 86 with
 | none =>rw [hf] at e;cases e
 | some fn =>
  rw [hf] at e
  dsimp only
  rw [show fn.results.toList = [] from Option.some.inj e]
  rfl
theorem d86_none (H:AH) (b:Nat) (c:AF) (cs:List AF) (hc:c.mode = .returning):Yy Q L ⟨PK 86 15 (Zn 0 [.ptr b 0] .leaf) [.code c86] [] .deferred,c :: cs,H⟩ ⟨c,cs,H⟩:=by
 unfold c86 Tryz.f86
 simp only [Option.getD_some]
 refine Yy.trans lk_seq ?_
 refine Yy.trans (lk_region [0,1] rfl) ?_
 (apply rec_noneT hc;simp only [li];exact rfl;(focus (simp only [rQ,Zb,li,lo,reduceIte,Nat.reduceEqDiff,Nat.reduceAdd,beq_self_eq_true];done));simp only [rE,rS,li,lo,reduceIte,Nat.reduceEqDiff,Nat.reduceAdd,Nat.reduceMul];exact rfl)
 exact rfl
 refine to_end ?_ (by obtain⟨_,_,_,_,_,_,_,_⟩:=c;cases hc;rfl)
 (apply WK.op;simp only [li];exact rfl;(focus (simp only [rQ,Zb,li,lo,reduceIte,Nat.reduceEqDiff,Nat.reduceAdd,beq_self_eq_true];done));simp only [rE,rS,li,lo,reduceIte,Nat.reduceEqDiff,Nat.reduceAdd,Nat.reduceMul];exact rfl;exact rfl)
 refine WK.endRegion ?_
 refine WK.seq ?_
 refine XB [0,1] rfl ?_
 (apply WK.op;simp only [li];exact rfl;(focus (simp only [rQ,Zb,li,lo,reduceIte,Nat.reduceEqDiff,Nat.reduceAdd,beq_self_eq_true];done));simp only [rE,rS,li,lo,reduceIte,Nat.reduceEqDiff,Nat.reduceAdd,Nat.reduceMul];exact rfl;exact rfl)
 (apply WK.op;simp only [li];exact rfl;(focus (simp only [rQ,Zb,li,lo,reduceIte,Nat.reduceEqDiff,Nat.reduceAdd,beq_self_eq_true];done));simp only [rE,rS,li,lo,reduceIte,Nat.reduceEqDiff,Nat.reduceAdd,Nat.reduceMul];exact rfl;exact rfl)
 refine WK.endRegion ?_
 refine WK.condF ?_ ?_
 ·simp only [Zg,Tri.gp,Zn,reduceIte,Nat.reduceEqDiff,Bool.not_true]
 refine WK.skip ?_
 refine WK.fall ?_
 exact WF.done ⟨rfl,rfl,rfl,⟨_,res86 _ _ rfl⟩,rfl⟩
def bad':AV:=.iface 188 (.agg [])
theorem zero188:Wi Q 188 = some (.agg []):=by kernel_rfl
theorem zero4i:Wi Q 4 = some (.bool false):=by kernel_rfl
/-- Behind a panic that was caught. -/
def caughtH (H:AH) (b:Nat):AH:=⟨((H.t.put H.next (some (.cells 188 [] 0 false false))).put H.next (some (.cells 188 [] 0 false false))).put b (some (.cells 4 [.bool true] 0 false false)),H.next + 1⟩
theorem store188 (H:AH):Zr Q 188 H.next 0 (.agg []) ⟨H.t.put H.next (some (.cells 188 [] 0 false false)),H.next + 1⟩ = some ⟨(H.t.put H.next (some (.cells 188 [] 0 false false))).put H.next (some (.cells 188 [] 0 false false)),H.next + 1⟩:=by
 unfold Zr
 rw [show (AH.mk (H.t.put H.next (some (.cells 188 [] 0 false false))) (H.next + 1)).t.get H.next = some (.cells 188 [] 0 false false) from by show (Tri.put _ _ _).get _ = _;rw [Tri.gp,if_pos rfl],sz188]
 rfl
theorem storeT {H:AH} {b:Nat} {x:Bool} (hg:H.t.get b = some (.cells 4 [.bool x] 0 false false)) (y:Bool):Zr Q 4 b 0 (.bool y) H = some ⟨H.t.put b (some (.cells 4 [.bool y] 0 false false)),H.next⟩:=by
 unfold Zr
 rw [hg,sz4]
 rfl
theorem d86_some (H:AH) (b:Nat) (hb:b < H.next) (hg:H.t.get b = some (.cells 4 [.bool false] 0 false false)) (c:AF) (cs:List AF) (hc:c.mode = .panicking [(bad',false)]):Yy Q L ⟨PK 86 15 (Zn 0 [.ptr b 0] .leaf) [.code c86] [] .deferred,c :: cs,H⟩ ⟨{ c with mode:=.returning },cs,caughtH H b⟩:=by
 have hst:=storeT (H:=⟨(H.t.put H.next (some (.cells 188 [] 0 false false))).put H.next (some (.cells 188 [] 0 false false)),H.next + 1⟩) (b:=b) (x:=false) (by show ((Tri.put _ _ _).put _ _).get _ = _;rw [Tri.gp,if_neg (by omega),Tri.gp,if_neg (by omega)];exact hg) true
 unfold c86 Tryz.f86
 simp only [Option.getD_some]
 refine Yy.trans lk_seq ?_
 refine Yy.trans (lk_region [0,1] rfl) ?_
 (apply rec_someT hc;simp only [li];exact rfl;(focus (simp only [rQ,Zb,li,lo,reduceIte,Nat.reduceEqDiff,Nat.reduceAdd,beq_self_eq_true];done));simp only [rE,rS,li,lo,reduceIte,Nat.reduceEqDiff,Nat.reduceAdd,Nat.reduceMul];exact rfl)
 exact rfl
 refine to_end ?_ rfl
 unfold bad'
 (apply WK.op;simp only [li];exact rfl;(focus (simp only [rQ,Zb,li,lo,reduceIte,Nat.reduceEqDiff,Nat.reduceAdd,beq_self_eq_true];done));simp only [rE,rS,li,lo,reduceIte,Nat.reduceEqDiff,Nat.reduceAdd,Nat.reduceMul];exact rfl;exact rfl)
 refine WK.endRegion ?_
 refine WK.seq ?_
 refine XB [0,1] rfl ?_
 (apply WK.op;simp only [li];exact rfl;(focus (simp only [rQ,Zb,li,lo,reduceIte,Nat.reduceEqDiff,Nat.reduceAdd,beq_self_eq_true];done));simp only [rE,rS,li,lo,reduceIte,Nat.reduceEqDiff,Nat.reduceAdd,Nat.reduceMul];exact rfl;exact rfl)
 (apply WK.op;simp only [li];exact rfl;(focus (simp only [rQ,Zb,li,lo,reduceIte,Nat.reduceEqDiff,Nat.reduceAdd,beq_self_eq_true];done));simp only [rE,rS,li,lo,reduceIte,Nat.reduceEqDiff,Nat.reduceAdd,Nat.reduceMul];exact rfl;exact rfl)
 refine WK.endRegion ?_
 refine WK.condT ?_ ?_
 ·simp only [Zg,Tri.gp,Zn,reduceIte,Nat.reduceEqDiff,Bool.not_false]
 refine WK.seq ?_
 refine WK.seq ?_
 refine XB [0,1,2,3,4,5,6,7] rfl ?_
 iterate 5 (apply WK.op;simp only [li];exact rfl;(focus (simp only [rQ,Zb,li,lo,reduceIte,Nat.reduceEqDiff,Nat.reduceAdd,beq_self_eq_true];done));simp only [rE,rS,li,lo,reduceIte,Nat.reduceEqDiff,Nat.reduceAdd,Nat.reduceMul];exact rfl;exact rfl)
 (apply WK.op;simp only [li];exact rfl;(focus (simp only [rQ,Zb,li,lo,reduceIte,Nat.reduceEqDiff,Nat.reduceAdd,beq_self_eq_true];done));simp only [rE,rS,li,lo,reduceIte,Nat.reduceEqDiff,Nat.reduceAdd,Nat.reduceMul,zero188];exact rfl;exact rfl)
 (apply WK.op;simp only [li];exact rfl;(focus (simp only [rQ,Zb,li,lo,reduceIte,Nat.reduceEqDiff,Nat.reduceAdd,beq_self_eq_true];done));simp only [rE,rQ,li,lo,reduceIte,Nat.reduceEqDiff,Nat.reduceAdd,Nat.reduceMul,AH.set,store188];exact rfl;exact rfl)
 (apply WK.op;simp only [li];exact rfl;(focus (simp only [rQ,Zb,li,lo,reduceIte,Nat.reduceEqDiff,Nat.reduceAdd,beq_self_eq_true];done));simp only [rE,rS,li,lo,reduceIte,Nat.reduceEqDiff,Nat.reduceAdd,Nat.reduceMul];exact rfl;exact rfl)
 refine WK.endRegion ?_
 refine WK.seq ?_
 refine XB [0,1] rfl ?_
 iterate 2 (apply WK.op;simp only [li];exact rfl;(focus (simp only [rQ,Zb,li,lo,reduceIte,Nat.reduceEqDiff,Nat.reduceAdd,beq_self_eq_true];done));simp only [rE,rS,li,lo,reduceIte,Nat.reduceEqDiff,Nat.reduceAdd,Nat.reduceMul];exact rfl;exact rfl)
 refine WK.endRegion ?_
 refine WK.condF ?_ ?_
 ·simp only [Zg,Tri.gp,Zn,reduceIte,Nat.reduceEqDiff,Bool.not_true]
 refine WK.skip ?_
 refine XB [0] rfl ?_
 (apply WK.op;simp only [li];exact rfl;(focus (simp only [rQ,Zb,li,lo,reduceIte,Nat.reduceEqDiff,Nat.reduceAdd,beq_self_eq_true];done));simp only [rE,rQ,li,lo,reduceIte,Nat.reduceEqDiff,Nat.reduceAdd,Nat.reduceMul,AH.set,hst];exact rfl;exact rfl)
 refine WK.endRegion ?_
 refine WK.fall ?_
 exact WF.done ⟨rfl,rfl,rfl,⟨_,res86 _ _ rfl⟩,rfl⟩
def falseH (H2:AH) (b:Nat):AH:=⟨H2.t.put b (some (.cells 4 [.bool false] 0 false false)),H2.next⟩
theorem falseH_cells (H2:AH) (b:Nat):(falseH H2 b).cellsAt b = some [.bool false]:=by
 unfold falseH
 rw [ZK,if_pos rfl]
theorem caughtH_cells (H2:AH) (b:Nat):(caughtH H2 b).cellsAt b = some [.bool true]:=by
 unfold caughtH
 rw [ZK,if_pos rfl]
/-- What was run returns. -/
theorem caught_fn (H:AH) (fv:AV) (fid:FuncId) (args:List AV) (Ψ:AV→AH→Prop) (hcall:∀H',Yh Q fv [] H' = some (.enter fid args,H')) (hfn:Fn Q L fid args ⟨H.t.put H.next (some (.cells 4 [.bool false] 0 false false)),H.next + 1⟩ Ψ)
  (hk:∀v H2,Ψ v H2→H2.t.get H.next = some (.cells 4 [.bool false] 0 false false)):Fn Q L 45 [fv] H (fun w H' =>w = .bool false∧∃v H2,Ψ v H2∧H' = falseH H2 H.next):=by
 refine Fn.intro (en45 _) ?_
 unfold c45 Tryz.f45
 simp only [Option.getD_some]
 iterate 4 (first|(apply Zh;exact rfl)|apply Zc|apply WO.nil|(apply Zl;exact rfl;simp only [rE,rS,li,lo,reduceIte,Nat.reduceEqDiff,Nat.reduceAdd,Nat.reduceMul,zero4i];exact rfl;exact rfl))
 refine WK.seq ?_
 refine XB [0,1] rfl ?_
 (apply WK.op;simp only [li];exact rfl;(focus (simp only [rQ,Zb,li,lo,reduceIte,Nat.reduceEqDiff,Nat.reduceAdd,beq_self_eq_true];done));simp only [rE,rS,li,lo,reduceIte,Nat.reduceEqDiff,Nat.reduceAdd,Nat.reduceMul];exact rfl;exact rfl)
 (apply WK.defer;simp only [li];exact rfl;(focus (simp only [rQ,Zb,li,lo,reduceIte,Nat.reduceEqDiff,Nat.reduceAdd,beq_self_eq_true];done));simp only [rE,rS,li,lo,reduceIte,Nat.reduceEqDiff,Nat.reduceAdd,Nat.reduceMul,deferE];exact rfl)
 exact rfl
 refine WK.endRegion ?_
 refine WK.seq ?_
 refine XB [0,1] rfl ?_
 (apply WK.op;simp only [li];exact rfl;(focus (simp only [rQ,Zb,li,lo,reduceIte,Nat.reduceEqDiff,Nat.reduceAdd,beq_self_eq_true];done));simp only [rE,rS,li,lo,reduceIte,Nat.reduceEqDiff,Nat.reduceAdd,Nat.reduceMul];exact rfl;exact rfl)
 (apply WK.call;simp only [li];exact rfl;(focus (simp only [rQ,Zb,li,lo,reduceIte,Nat.reduceEqDiff,Nat.reduceAdd,beq_self_eq_true];done));simp only [rE,rS,li,lo,reduceIte,Nat.reduceEqDiff,Nat.reduceAdd,Nat.reduceMul,hcall];exact rfl)
 exact hfn
 rintro v H2 hΨ
 refine⟨_,rfl,?_⟩
 have hst:Zr Q 4 H.next 0 (.bool false) H2 = some (falseH H2 H.next):=storeT (hk v H2 hΨ) false
 refine WK.endRegion ?_
 refine WK.seq ?_
 refine XB [0] rfl ?_
 (apply WK.op;simp only [li];exact rfl;(focus (simp only [rQ,Zb,li,lo,reduceIte,Nat.reduceEqDiff,Nat.reduceAdd,beq_self_eq_true];done));simp only [rE,rQ,li,lo,reduceIte,Nat.reduceEqDiff,Nat.reduceAdd,Nat.reduceMul,AH.set,hst];exact rfl;exact rfl)
 refine WK.endRegion ?_
 refine WK.ret ?_
 refine run_defer (by simp) rfl (en86d _) (fun cs =>d86_none _ _ _ cs rfl) ?_
 refine WF.done ⟨rfl,rfl,rfl,rfl,.bool false,?_,rfl,v,H2,hΨ,rfl⟩
 refine (rs45 6 _ [] _).trans ?_
 simp only [Zi,Tri.gp,Zn,ZL,reduceIte,Nat.reduceEqDiff,Za ZE,falseH_cells,Option.map_some,List.getElem?_cons_zero,Go.Ev.solid,ZO]
/-- What was run panics. -/
theorem caught_pn (H:AH) (fv:AV) (fid:FuncId) (args:List AV) (Ψ:AH→Prop) (hcall:∀H',Yh Q fv [] H' = some (.enter fid args,H')) (hpn:Pn Q L fid args ⟨H.t.put H.next (some (.cells 4 [.bool false] 0 false false)),H.next + 1⟩ (fun v H2 =>v = bad'∧Ψ H2))
  (hk:∀H2,Ψ H2→H.next < H2.next∧H2.t.get H.next = some (.cells 4 [.bool false] 0 false false)):Fn Q L 45 [fv] H (fun w H' =>w = .bool true∧∃H2,Ψ H2∧H' = caughtH H2 H.next):=by
 refine Fn.intro (en45 _) ?_
 unfold c45 Tryz.f45
 simp only [Option.getD_some]
 iterate 4 (first|(apply Zh;exact rfl)|apply Zc|apply WO.nil|(apply Zl;exact rfl;simp only [rE,rS,li,lo,reduceIte,Nat.reduceEqDiff,Nat.reduceAdd,Nat.reduceMul,zero4i];exact rfl;exact rfl))
 refine WK.seq ?_
 refine XB [0,1] rfl ?_
 (apply WK.op;simp only [li];exact rfl;(focus (simp only [rQ,Zb,li,lo,reduceIte,Nat.reduceEqDiff,Nat.reduceAdd,beq_self_eq_true];done));simp only [rE,rS,li,lo,reduceIte,Nat.reduceEqDiff,Nat.reduceAdd,Nat.reduceMul];exact rfl;exact rfl)
 (apply WK.defer;simp only [li];exact rfl;(focus (simp only [rQ,Zb,li,lo,reduceIte,Nat.reduceEqDiff,Nat.reduceAdd,beq_self_eq_true];done));simp only [rE,rS,li,lo,reduceIte,Nat.reduceEqDiff,Nat.reduceAdd,Nat.reduceMul,deferE];exact rfl)
 exact rfl
 refine WK.endRegion ?_
 refine WK.seq ?_
 refine XB [0,1] rfl ?_
 (apply WK.op;simp only [li];exact rfl;(focus (simp only [rQ,Zb,li,lo,reduceIte,Nat.reduceEqDiff,Nat.reduceAdd,beq_self_eq_true];done));simp only [rE,rS,li,lo,reduceIte,Nat.reduceEqDiff,Nat.reduceAdd,Nat.reduceMul];exact rfl;exact rfl)
 (apply WK.callP;simp only [li];exact rfl;(focus (simp only [rQ,Zb,li,lo,reduceIte,Nat.reduceEqDiff,Nat.reduceAdd,beq_self_eq_true];done));simp only [rE,rS,li,lo,reduceIte,Nat.reduceEqDiff,Nat.reduceAdd,Nat.reduceMul,hcall];exact rfl)
 exact hpn
 rintro v H2 ⟨rfl,hΨ⟩
 obtain⟨hlt,hg⟩:=hk H2 hΨ
 refine run_defer (by simp) rfl (en86d _) (fun cs =>d86_some _ _ hlt hg _ cs rfl) ?_
 refine WF.done ⟨rfl,rfl,rfl,rfl,.bool true,?_,rfl,H2,hΨ,rfl⟩
 refine (rs45 6 _ [] _).trans ?_
 simp only [Zi,Tri.gp,Zn,ZL,reduceIte,Nat.reduceEqDiff,Za ZE,caughtH_cells,Option.map_some,List.getElem?_cons_zero,Go.Ev.solid,ZO]
end
end Go.Ev.C
end
section
namespace Go.Ev.C
open Go.Proofs Go.RowKit Go.Fmt
set_option maxRecDepth 100000
set_option linter.unusedSimpArgs false
/-- What lies from a mark on is kept. -/
structure Xo (lo:Nat) (H H':AH):Prop where
 next:H.next≤H'.next
 old:∀b B,lo≤b→b < H.next→H.t.get b = some B→H'.t.get b = some B
theorem Xo.refl (lo:Nat) (H:AH):Xo lo H H:=⟨Nat.le_refl _,fun _ _ _ _ h =>h⟩
theorem Xo.trans {lo:Nat} {H H' H'':AH} (h:Xo lo H H') (h':Xo lo H' H''):Xo lo H H'' :=
 ⟨Nat.le_trans h.next h'.next,fun b B h1 h2 h3 =>h'.old b B h1 (Nat.lt_of_lt_of_le h2 h.next) (h.old b B h1 h2 h3)⟩
theorem Xo.of {lo:Nat} {H H':AH} (u:Up H H'):Xo lo H H':=⟨u.next,fun b B _ h2 h3 =>by rw [u.old b h2];exact h3⟩
theorem Xo.upx {lo p:Nat} {H H':AH} (u:Y2 p H H') (hp:p < lo):Xo lo H H':=⟨u.next,fun b B h1 h2 h3 =>by rw [u.old b h2 (by omega)];exact h3⟩
theorem Xo.cells {lo:Nat} {H H':AH} (u:Xo lo H H') {b:Nat} {c:List AV} (h1:lo≤b) (h2:b < H.next) (h:H.cellsAt b = some c):H'.cellsAt b = some c:=by
 unfold AH.cellsAt at h ⊢
 cases hg:H.t.get b with
 | none =>rw [hg] at h;cases h
 | some B =>rw [u.old b B h1 h2 hg];rw [hg] at h;exact h
theorem Xa.ext {lo:Nat} {H H':AH} (u:Xo lo H H') {v:AV} {r:List AV} (h:Xa lo H v r):Xa lo H' v r :=
 ⟨h.1,fun b off m cap e hn =>by
  obtain⟨h1,c,hb,hc,hr⟩:=h.2 b off m cap e hn
  exact⟨h1,c,Nat.lt_of_lt_of_le hb u.next,u.cells h1 hb hc,hr⟩⟩
theorem Yx.ext {lo:Nat} {H H':AH} (u:Xo lo H H') {v:AV} {l:List Yz} (h:Yx lo H v l):Yx lo H' v l :=
 ⟨h.1,fun b off n cap e hn =>by
  obtain⟨c,h1,hb,hc,hr⟩:=h.2 b off n cap e hn
  refine⟨c,h1,Nat.lt_of_lt_of_le hb u.next,u.cells h1 hb hc,fun i d hi =>?_⟩
  obtain⟨dv,hd,hcut⟩:=hr i d hi
  exact⟨dv,hd.ext u,hcut⟩⟩
theorem Xa.at {lo:Nat} {H:AH} {v:AV} {r:List AV} (h:Xa lo H v r):Y3 H v r:=⟨h.1,fun b off m cap e hn =>(h.2 b off m cap e hn).2⟩
theorem Yx.at {lo:Nat} {H:AH} {v:AV} {l:List Yz} (h:Yx lo H v l):YP H v l :=
 ⟨h.1,fun b off n cap e hn =>by
  obtain⟨c,_,hb,hc,hr⟩:=h.2 b off n cap e hn
  refine⟨c,hb,hc,fun i d hi =>?_⟩
  obtain⟨dv,hd,hcut⟩:=hr i d hi
  exact⟨dv,hd.at,hcut⟩⟩
/-- The heap without a block. -/
def rmB (H:AH) (b:Nat):AH:=⟨H.t.put b none,H.next⟩
theorem rmB_ext (lo:Nat) (H:AH) (b:Nat):Xo lo (rmB H b) H:=⟨Nat.le_refl _,fun b' B _ _ h =>by
 unfold rmB at h
 dsimp only at h
 rw [Tri.gp] at h
 split at h
 ·cases h
 ·exact h⟩
theorem rmB_two {lo:Nat} {H H':AH} (u:Xo lo H H') (b:Nat):Xo lo (rmB H b) (rmB H' b):=⟨u.next,fun b' B h1 h2 h =>by
 unfold rmB at h ⊢
 dsimp only at h ⊢
 rw [Tri.gp] at h ⊢
 split at h
 ·cases h
 ·rename_i hne
  rw [if_neg hne]
  exact u.old b' B h1 h2 h⟩
/-- A list that was made by appending, its elements told by what their cells are. -/
def Xh {α:Type} (e sz lo:Nat) (PE:AH→List AV→α→Prop) (H:AH) (v:AV) (l:List α):Prop:=(l = []∧v = .nilslice) ∨ (l ≠ []∧∃b c,v = .slice b 0 l.length (.up sz)∧lo≤b∧b < H.next∧H.t.get b = some (.cells e c 0 false false)∧c.length = l.length * sz∧c.all Yn = true∧c.all ZO = true∧∀(j:Nat) (d:α),l[j]? = some d→∃x,cut c (j * sz) sz = some x∧PE (rmB H b) x d)
section
variable {α:Type} {e sz lo:Nat} {PE:AH→List AV→α→Prop}
theorem Xh.nil (H:AH):Xh e sz lo PE H .nilslice []:=.inl ⟨rfl,rfl⟩
theorem Xh.sl {H:AH} {v:AV} {l:List α} (h:Xh e sz lo PE H v l):SL v l.length:=by
 rcases h with ⟨rfl,rfl⟩ | ⟨_,b,c,rfl,_⟩
 ·exact .nil
 ·exact .sl _ _ _ _
theorem Xh.ext (hPE:∀{H H':AH} {x:List AV} {d:α},Xo lo H H'→PE H x d→PE H' x d) {H H':AH} {v:AV} {l:List α} (h:Xh e sz lo PE H v l) (u:Xo lo H H'):Xh e sz lo PE H' v l:=by
 rcases h with h | ⟨h0,b,c,h1,h2,h3,h4,h5,h6,h7,h8⟩
 ·exact .inl h
 ·refine .inr ⟨h0,b,c,h1,h2,Nat.lt_of_lt_of_le h3 u.next,u.old b _ h2 h3 h4,h5,h6,h7,fun j d hj =>?_⟩
  obtain⟨x,hx,hp⟩:=h8 j d hj
  exact⟨x,hx,hPE (rmB_two u b) hp⟩
theorem Xh.blk {H:AH} {v:AV} {l:List α} (h:Xh e sz lo PE H v l) {b:Nat} (hb:Xi v = some b):lo≤b∧b < H.next:=by
 rcases h with ⟨_,rfl⟩ | ⟨_,b',c,rfl,h2,h3,_⟩
 ·cases hb
 ·cases hb
  exact⟨h2,h3⟩
theorem cut_left {c d x:List AV} {o n:Nat} (h:cut c o n = some x):cut (c ++ d) o n = some x:=by
 obtain⟨h1,h2⟩:=Yg.1 h
 refine Yg.2 ⟨h1,fun j hj =>?_⟩
 obtain⟨v,a,b,c'⟩:=h2 j hj
 exact⟨v,by rw [List.getElem?_append_left (List.getElem?_eq_some_iff.1 a).1];exact a,b,c'⟩
theorem cut_right {c x:List AV} {o n:Nat} (ho:c.length = o) (hn:x.length = n) (hx:x.all ZO = true):cut (c ++ x) o n = some x:=by
 refine Yg.2 ⟨hn,fun j hj =>⟨x[j]'(by omega),?_,List.all_eq_true.1 hx _ (List.getElem_mem _),List.getElem?_eq_getElem _⟩⟩
 rw [List.getElem?_append_right (by omega),show o + j - c.length = j from by omega,List.getElem?_eq_getElem]
/-- One more element. -/
theorem Xh.push {ty:TypeId} (happ:∀(s x:AV) (H:AH),X8 Q [ty,ty] [s,x] H = (match YG sz x H with|some (n,cs) =>Yq e sz s n cs H|none =>none)) (hPE:∀{H H':AH} {x:List AV} {d:α},Xo lo H H'→PE H x d→PE H' x d)
  {H:AH} {v:AV} {l:List α} (h:Xh e sz lo PE H v l) (hlo:lo≤H.next) (x:List AV) (d:α) (hsz:x.length = sz) (hx1:x.all Yn = true) (hx2:x.all ZO = true) (hd:PE H x d) (hdb:∀b,Xi v = some b→PE (rmB H b) x d) (hn:l.length + 1≤274877906944) :
  ∃v' H',X8 Q [ty,ty] [v,.slice H.next 0 1 (.is 1)] ⟨H.t.put H.next (some (.cells e x 0 false false)),H.next + 1⟩ = some (v',H')∧Xh e sz lo PE H' v' (l ++ [d])∧UpB v H H'∧(∀b,Xi v' = some b→H.next≤b):=by
 have hcell:AH.cellsAt ⟨H.t.put H.next (some (.cells e x 0 false false)),H.next + 1⟩ H.next = some x:=by rw [ZK,if_pos rfl]
 have hnew:YG sz (.slice H.next 0 1 (.is 1)) ⟨H.t.put H.next (some (.cells e x 0 false false)),H.next + 1⟩ = some (1,x):=Wd (by omega) hcell (by rw [Nat.one_mul];exact YN hsz hx2)
 rw [happ,hnew]
 dsimp only
 rcases h with ⟨rfl,rfl⟩ | ⟨hne,b,c,rfl,hb0,hb,hg,hcl,hc1,hc2,hel⟩
 ·rw [appendTo_nil (by omega) (by omega) hx1]
  refine⟨_,_,rfl,.inr ⟨by simp,H.next + 1,x,rfl,Nat.le_succ_of_le hlo,Nat.lt_succ_self _,?_,by simp [hsz],hx1,hx2,fun j d' hj =>?_⟩,UpB.of ((Up.box _ _).trans (Up.box _ _)),fun b e =>by cases e;exact Nat.le_succ _⟩
  ·show (Tri.put _ _ _).get _ = _
   rw [Tri.gp,if_pos rfl]
  ·have hj0:j = 0:=by
    have:=(List.getElem?_eq_some_iff.1 hj).1
    simp at this
    omega
   subst hj0
   cases hj
   refine⟨x,by rw [Nat.zero_mul];exact YN hsz hx2,hPE ⟨by show H.next≤H.next + 1 + 1;omega,fun b' B _ h2 h3 =>?_⟩ hd⟩
   unfold rmB
   show (((H.t.put H.next _).put (H.next + 1) _).put (H.next + 1) _).get _ = _
   rw [Tri.gp,if_neg (by omega),Tri.gp,if_neg (by omega),Tri.gp,if_neg (by omega)]
   exact h3
 ·have hg1:(AH.mk (H.t.put H.next (some (.cells e x 0 false false))) (H.next + 1)).t.get b = some (.cells e c 0 false false):=by
   show (Tri.put _ _ _).get _ = _
   rw [Tri.gp,if_neg (by omega)]
   exact hg
  rw [appendTo_up hg1 (YN (by rw [hcl]) hc2) (by omega) hn hc1 hx1]
  have hE:∀{x' d'},PE (rmB H b) x' d'→PE (rmB ⟨((H.t.put H.next (some (.cells e x 0 false false))).put b none).put (H.next + 1) (some (.cells e (c ++ x) 0 false false)),H.next + 1 + 1⟩ (H.next + 1)) x' d':=fun hp =>hPE ⟨by show H.next≤H.next + 1 + 1;omega,fun b' B _ h2 h3 =>by
   have h2:b' < H.next:=h2
   unfold rmB at h3 ⊢
   dsimp only at h3 ⊢
   rw [Tri.gp] at h3
   split at h3
   ·cases h3
   ·rename_i hbb
    rw [Tri.gp,if_neg (by omega),Tri.gp,if_neg (by omega),Tri.gp,if_neg hbb,Tri.gp,if_neg (by omega)]
    exact h3⟩ hp
  refine⟨_,_,rfl,.inr ⟨by simp,H.next + 1,c ++ x,by simp,Nat.le_succ_of_le hlo,Nat.lt_succ_self _,?_,?_,?_,?_,fun j d' hj =>?_⟩,⟨by show H.next≤H.next + 1 + 1;omega,fun b' hb' hn' =>?_⟩,fun b e =>by cases e;exact Nat.le_succ _⟩
  ·show (Tri.put _ _ _).get _ = _
   rw [Tri.gp,if_pos rfl]
  ·simp [hcl,hsz,Nat.add_mul]
  ·rw [List.all_append,hc1,hx1];rfl
  ·rw [List.all_append,hc2,hx2];rfl
  ·by_cases hjl:j < l.length
   ·rw [List.getElem?_append_left hjl] at hj
    obtain⟨x',hx',hp⟩:=hel j d' hj
    exact⟨x',cut_left hx',hE hp⟩
   ·have hj0:j = l.length:=by
     have:=(List.getElem?_eq_some_iff.1 hj).1
     simp at this
     omega
    subst hj0
    rw [List.getElem?_append_right (Nat.le_refl _),Nat.sub_self] at hj
    cases hj
    exact⟨x,cut_right hcl hsz hx2,hE (hdb b rfl)⟩
  ·have hbb:b' ≠ b:=fun e =>hn' (by rw [e];rfl)
   show (((H.t.put H.next _).put b _).put (H.next + 1) _).get _ = _
   rw [Tri.gp,if_neg (by omega),Tri.gp,if_neg hbb,Tri.gp,if_neg (by omega)]
end
end Go.Ev.C
end
section
namespace Go.Ev.C
open Go.Proofs Go.RowKit Go.Fmt
set_option maxRecDepth 100000
set_option linter.unusedSimpArgs false
/-- A record's cells. -/
def PR (lo:Nat) (H:AH) (x:List AV) (d:Yz):Prop:=∃dv,x = [.int .i64 d.id,.int .i64 d.tm,dv]∧Xa lo H dv d.r
theorem PR.ext {lo:Nat} {H H':AH} {x:List AV} {d:Yz} (u:Xo lo H H') (h:PR lo H x d):PR lo H' x d:=by
 obtain⟨dv,e,hd⟩:=h
 exact⟨dv,e,hd.ext u⟩
/-- A batch's cells. -/
def PB (lo:Nat) (H:AH) (x:List AV) (d:XC):Prop:=∃rv,x = [.int .i64 d.cpu,rv,.int .i64 d.dr,.bool d.ah]∧Yx lo H rv d.recs∧d.recs.length < 9223372036854775808
theorem PB.ext {lo:Nat} {H H':AH} {x:List AV} {d:XC} (u:Xo lo H H') (h:PB lo H x d):PB lo H' x d:=by
 obtain⟨rv,e,hd,hl⟩:=h
 exact⟨rv,e,hd.ext u,hl⟩
theorem Xa.mono {lo lo':Nat} {H:AH} {v:AV} {r:List AV} (hl:lo≤lo') (h:Xa lo' H v r):Xa lo H v r :=
 ⟨h.1,fun b off m cap e hn =>by
  obtain⟨h1,h2⟩:=h.2 b off m cap e hn
  exact⟨Nat.le_trans hl h1,h2⟩⟩
theorem Yx.mono {lo lo':Nat} {H:AH} {v:AV} {l:List Yz} (hl:lo≤lo') (h:Yx lo' H v l):Yx lo H v l :=
 ⟨h.1,fun b off n cap e hn =>by
  obtain⟨c,h1,hb,hc,hr⟩:=h.2 b off n cap e hn
  refine⟨c,Nat.le_trans hl h1,hb,hc,fun i d hi =>?_⟩
  obtain⟨dv,hd,hcut⟩:=hr i d hi
  exact⟨dv,hd.mono hl,hcut⟩⟩
theorem own_recs {lo:Nat} {H:AH} {v:AV} {l:List Yz} (h:Xh 87 3 lo (PR lo) H v l):Yx lo H v l:=by
 refine⟨h.sl,fun b off n cap e hn =>?_⟩
 rcases h with ⟨rfl,rfl⟩ | ⟨h0,b',c,rfl,h2,h3,h4,h5,h6,h7,h8⟩
 ·cases e
 ·cases e
  refine⟨c,h2,h3,by unfold AH.cellsAt;rw [h4],fun i d hi =>?_⟩
  obtain⟨x,hx,dv,rfl,hd⟩:=h8 i d hi
  exact⟨dv,hd.ext (rmB_ext lo H _),by rw [Nat.zero_add];exact hx⟩
theorem own_bats {lo:Nat} {H:AH} {v:AV} {l:List XC} (h:Xh 80 4 lo (PB lo) H v l):YI H v l:=by
 refine⟨h.sl,fun b off n cap e hn =>?_⟩
 rcases h with ⟨rfl,rfl⟩ | ⟨h0,b',c,rfl,h2,h3,h4,h5,h6,h7,h8⟩
 ·cases e
 ·cases e
  refine⟨c,h3,by unfold AH.cellsAt;rw [h4],fun i d hi =>?_⟩
  obtain⟨x,hx,rv,rfl,hd,hl⟩:=h8 i d hi
  exact⟨rv,(hd.ext (rmB_ext lo H _)).at,hl,by rw [Nat.zero_add];exact hx⟩
theorem app78i (s x:AV) (H:AH):X8 Q [78,78] [s,x] H = (match YG 3 x H with | some (n,cs) =>Yq 87 3 s n cs H | none =>none):=by kernel_rfl
theorem app36i (s x:AV) (H:AH):X8 Q [36,36] [s,x] H = (match YG 4 x H with | some (n,cs) =>Yq 80 4 s n cs H | none =>none):=by kernel_rfl
/-- What is taken, as a record's data. -/
theorem fresh_data {H0 H H':AH} {w:AV} {l:List Nat} (h:FreshB H H' w l) (lo:Nat) (hlo:lo≤H.next):Xa lo H' w (Xw l)∧∀b,b < H.next→Xa lo (rmB H' b) w (Xw l):=by
 rcases h with ⟨rfl,rfl⟩ | ⟨hne,b,rfl,h1,h2,h3⟩
 ·exact⟨⟨.nil,fun _ _ _ _ e =>by cases e⟩,fun _ _ =>⟨.nil,fun _ _ _ _ e =>by cases e⟩⟩
 ·have hc:cut (Xw l) 0 (Xw l).length = some (Xw l):=YN rfl (bsA_hole l)
  refine⟨⟨by rw [YJ];exact .sl _ _ _ _,fun b' off m cap e _ =>?_⟩,fun b2 hb2 =>⟨by rw [YJ];exact .sl _ _ _ _,fun b' off m cap e _ =>?_⟩⟩
  ·cases e
   exact⟨Nat.le_trans hlo h1,Xw l,h2,by unfold AH.cellsAt;rw [h3],hc,X4 l⟩
  ·cases e
   refine⟨Nat.le_trans hlo h1,Xw l,h2,?_,hc,X4 l⟩
   unfold AH.cellsAt rmB
   dsimp only
   rw [Tri.gp,if_neg (by omega),h3]
/-- A store into a block of the run's own. -/
theorem Z7 {ty:TypeId} {b off n:Nat} {H:AH} {e:TypeId} {c x:List AV} {v:AV} (hg:H.t.get b = some (.cells e c 0 false false)) (hs:szU Q ty = some n) (hv:v.cells = x) (hn:x.length = n) (hx:x.all Yn = true) (hle:off + n≤c.length) :
  Zr Q ty b off v H = some ⟨H.t.put b (some (.cells e (c.take off ++ x ++ c.drop (off + n)) 0 false false)),H.next⟩:=by
 have hov:over c off x = some (c.take off ++ x ++ c.drop (off + n)):=by
  unfold over
  have:Nat.ble (off + x.length) c.length = true:=by rw [Nat.ble_eq,hn];exact hle
  rw [this,hx,hn]
  rfl
 unfold Zr
 rw [hg,hs,hv]
 simp [hn,hov,AH.set]
/-- A block that the reader leaves alone. -/
def Bx (p b:Nat) (o:Option AB) (H:AH):Prop:=H.t.get b = o∧b < H.next∧b ≠ p
theorem Bx.step {p b:Nat} {o:Option AB} {H H':AH} (h:Bx p b o H) (u:Y2 p H H'):Bx p b o H':=⟨by rw [u.old b h.2.1 h.2.2];exact h.1,Nat.lt_of_lt_of_le h.2.1 u.next,h.2.2⟩
theorem Bx.cells {p b e:Nat} {c:List AV} {H:AH} (h:Bx p b (some (.cells e c 0 false false)) H):H.cellsAt b = some c:=Z5 h.1
theorem Bx.put {p b b2:Nat} {o o2:Option AB} {H:AH} (h:Bx p b o H) (hn:b ≠ b2):Bx p b o ⟨H.t.put b2 o2,H.next⟩:=⟨by show (H.t.put _ _).get _ = _;rw [Tri.gp,if_neg hn];exact h.1,h.2⟩
theorem Bx.box {p b:Nat} {o o2:Option AB} {H:AH} (h:Bx p b o H):Bx p b o ⟨H.t.put H.next o2,H.next + 1⟩:=⟨by show (H.t.put _ _).get _ = _;rw [Tri.gp,if_neg (by have:=h.2.1;omega)];exact h.1,Nat.lt_succ_of_lt h.2.1,h.2.2⟩
theorem Bx.upB {p b:Nat} {o:Option AB} {H H':AH} {v:AV} (h:Bx p b o H) (u:UpB v H H') (hn:Xi v ≠ some b):Bx p b o H':=⟨keepB u h.1 h.2.1 hn,Nat.lt_of_lt_of_le h.2.1 u.next,h.2.2⟩
theorem Rd.of {H0 H':AH} {p:Nat} {bv:AV} {s:List Nat} {a0 a:Nat} (h0:Rd H0 p bv s a0) (u:Y2 p H0 H') (hg:H'.t.get p = some (.cells 122 [bv,.int .i64 (a:Int)] 0 false false)) (ha:a≤s.length):Rd H' p bv s a :=
 ⟨hg,Nat.lt_of_lt_of_le h0.lt u.next,h0.data.upx u,ha,h0.len,h0.byte,h0.cap⟩
theorem Y2.st {p b:Nat} {H0 H:AH} (u:Y2 p H0 H) (hb:H0.next≤b) (o:Option AB):Y2 p H0 ⟨H.t.put b o,H.next⟩ :=
 ⟨u.next,fun b' h1 h2 =>by show (H.t.put _ _).get b' = _;rw [Tri.gp,if_neg (by omega)];exact u.old b' h1 h2⟩
theorem Y2.upB {p:Nat} {H0 H H':AH} {v:AV} (u:Y2 p H0 H) (w:UpB v H H') (hv:∀b,Xi v = some b→H0.next≤b):Y2 p H0 H' :=
 ⟨Nat.le_trans u.next w.next,fun b h1 h2 =>by
  rw [w.old b (Nat.lt_of_lt_of_le h1 u.next) (fun e =>by have:=hv b e;omega)]
  exact u.old b h1 h2⟩
theorem Xo.st {lo b:Nat} {H0 H:AH} (u:Xo lo H0 H) (hb:b < lo ∨ H0.next≤b) (o:Option AB):Xo lo H0 ⟨H.t.put b o,H.next⟩ :=
 ⟨u.next,fun b' B h1 h2 h3 =>by show (H.t.put _ _).get b' = _;rw [Tri.gp,if_neg (by omega)];exact u.old b' B h1 h2 h3⟩
def mkRY (a:Option AV):Option New:=match a with
 | some a =>(match fillU (fun i =>some (i * 3,3)) [.int .i64 0,.int .i64 0,.nilslice] [(0,a)] with
  | some c =>some (.cells 87 c 0 false false,fun b =>.slice b 0 1 (.is 1))
  | none =>none)
 | _ =>none
theorem bs78y (t:Tri AV) (k:Nat):Yk Q t 78 1 #[(0,.tmp k)] = mkRY (t.get k):=by
 cases ha:t.get k with
 | none =>simp [Yk,Zk,Zs,Zg,ha,mkRY]
 | some a =>
  simp [Yk,Zk,Z1,ZU,Zs,Zg,ha,mkRY,AV.cells]
  cases fillU (fun i =>some (i * 3,3)) [AV.int .i64 0,.int .i64 0,.nilslice] [(0,a)] <;> rfl
theorem mkRY_agg (a b c:AV):mkRY (some (.agg [a,b,c])) = some (.cells 87 [a,b,c] 0 false false,fun b =>.slice b 0 1 (.is 1)):=rfl
def mkBY (a:Option AV):Option New:=match a with
 | some a =>(match fillU (fun i =>some (i * 4,4)) [.int .i64 0,.nilslice,.int .i64 0,.bool false] [(0,a)] with
  | some c =>some (.cells 80 c 0 false false,fun b =>.slice b 0 1 (.is 1))
  | none =>none)
 | _ =>none
theorem bs36y (t:Tri AV) (k:Nat):Yk Q t 36 1 #[(0,.tmp k)] = mkBY (t.get k):=by
 cases ha:t.get k with
 | none =>simp [Yk,Zj,Zs,Zg,ha,mkBY]
 | some a =>
  simp [Yk,Zj,Zv,ZD,Zs,Zg,ha,mkBY,AV.cells]
  cases fillU (fun i =>some (i * 4,4)) [AV.int .i64 0,.nilslice,.int .i64 0,.bool false] [(0,a)] <;> rfl
theorem mkBY_agg (a b c d:AV):mkBY (some (.agg [a,b,c,d])) = some (.cells 80 [a,b,c,d] 0 false false,fun b =>.slice b 0 1 (.is 1)):=rfl
theorem X0 (a b:Int) (c:Bool):Wg Q 80 [(0,.int .i64 a),(2,.int .i64 b),(3,.bool c)] = some (.agg [.int .i64 a,.nilslice,.int .i64 b,.bool c]):=by kernel_rfl
theorem Wh (a b:Int):Wg Q 87 [(0,.int .i64 a),(1,.int .i64 b)] = some (.agg [.int .i64 a,.int .i64 b,.nilslice]):=by kernel_rfl
end Go.Ev.C
end