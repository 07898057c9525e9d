/- Contracts: comparing. -/
import Derived.Test.YtkkegnkopmpjhaaGreatDoorEvI
import Derived.Test.YtkkegnkopmpjhaaGreatDoorEvM
set_option linter.unusedVariables false
set_option linter.unusedSimpArgs false
set_option linter.all false
section
namespace Go.Ev.C
open Go.Proofs
set_option maxRecDepth 100000
set_option linter.unusedSimpArgs false
variable {L:World→Prop} [Yu Q L]
theorem WC (H:AH) (o1 o2:Option AB):Up H ⟨(H.t.put H.next o1).put (H.next + 1) o2,H.next + 1 + 1⟩ :=
 ⟨by show H.next≤H.next + 1 + 1;omega,fun b hb =>by show ((H.t.put _ _).put _ _).get b = _;rw [Tri.gp,if_neg (by omega),Tri.gp,if_neg (by omega)]⟩
/-- Data of bytes. -/
def U8 (r:List AV):Prop:=∃bs:List Nat,r = bs.map byteV∧∀n ∈ bs,n < 256
theorem byteL_map:∀{bs:List Nat},(∀n ∈ bs,n < 256)→byteL (bs.map byteV) = some bs
 | [],_ =>rfl
 | n :: bs,h =>by
  have h1:Nat.blt n 256 = true:=by rw [Nat.blt_eq];exact h n (by simp)
  have ih:=byteL_map (bs:=bs) fun k hk =>h k (by simp [hk])
  show (if Nat.blt n 256 then (byteL (bs.map byteV)).map (n :: ·) else none) = some (n :: bs)
  rw [if_pos h1,ih]
  rfl
theorem bin_eqlStr {P:Program} (t:TypeId) (a b:List Nat):X6 P .eql t (.str a) (.str b) = some (.bool (a == b)):=rfl
theorem gOk_eqlStr {P:Program} (t:TypeId) (x y:Operand) (a b:List Nat):YY P .eql t x y (.str a) (.str b) = true:=rfl
theorem YO {P:Program} (t:TypeId) (x y:Operand) (a b:List Nat):YY P .neq t x y (.str a) (.str b) = true:=rfl
/-- string(data) -/
theorem conv_data {H:AH} {dv:AV} {r:List AV} (hd:Y3 H dv r) {bs:List Nat} (hr:r = bs.map byteV) (h8:∀n ∈ bs,n < 256) (t:Tri AV) (o:Operand) (ho:Zg t o = some dv):Xr Q t (.convert 35 9 o) H = some (.val (.str bs),H):=by
 have hcls:cls Q (.convert 35 9 o) = .load:=by simp only [cls,clsConv,Zo,Ye]
 have hl:r.length = bs.length:=by rw [hr];simp
 obtain⟨hs,hd⟩:=hd
 unfold Xr
 rw [hcls]
 dsimp only
 unfold loadX
 rw [hl] at hs
 generalize hn:bs.length = n at hs
 cases hs with
 | nil =>
  obtain rfl:=List.length_eq_zero_iff.1 hn
  simp only [WM,ho,convL,Zo,Ye,pureX,pureU,convP,Y0,und5]
 | sl b off n cap =>
  by_cases h0:bs = []
  ·subst h0
   obtain rfl:n = 0:=by simpa using hn.symm
   simp only [WM,ho,convL,Zo,Ye,und5,show Nat.beq 0 0 = true from rfl,if_true]
  ·have hne:r ≠ []:=by rw [hr];simpa using h0
   obtain⟨c,hb,hc,hcut,_⟩:=hd b off _ cap rfl hne
   rw [hl,hn] at hcut
   have hz:Nat.beq n 0 = false:=by
    rw [← Bool.not_eq_true,Nat.beq_eq]
    rintro rfl
    exact h0 (List.length_eq_zero_iff.1 hn)
   simp only [WM,ho,convL,Zo,Ye,und5,hz,hc,hcut,hr,byteL_map h8,Option.map_some,if_false,Bool.false_eq_true]
theorem same_c (H:AH) (id tm:Int) (dv1 dv2:AV) (r:List AV) (h1:Y3 H dv1 r) (h2:Y3 H dv2 r) (h8:U8 r):Fn Q L 30 [RV id tm dv1,RV id tm dv2] H (fun w H' =>w = .bool true∧H' = H):=by
 refine Fn.gc (en30 _ _) rfl ?_
 have h1:=h1.lock
 have h2:=h2.lock
 generalize lock H = H at h1 h2
 obtain⟨bs,hr,h8⟩:=h8
 have ho1:=h1.1.one
 have ho2:=h2.1.one
 have hs1:=h1.1.solid
 have hs2:=h2.1.solid
 have n01:(H.next = H.next + 1) = False:=eq_false (by omega)
 have n10:(H.next + 1 = H.next) = False:=eq_false (by omega)
 unfold c30 Tryz.f30 RV
 simp only [Option.getD_some]
 have q1:decide (id = id) = true:=by simp
 have q2:decide (tm = tm) = true:=by simp
 have k1:=conv_data (h1.up (WC H (some (.cells 87 [.int .i64 id,.int .i64 tm,dv1] 0 false false)) (some (.cells 87 [.int .i64 id,.int .i64 tm,dv2] 0 false false)))) hr h8
 have k2:=conv_data (h2.up (WC H (some (.cells 87 [.int .i64 id,.int .i64 tm,dv1] 0 false false)) (some (.cells 87 [.int .i64 id,.int .i64 tm,dv2] 0 false false)))) hr h8
 repeat (first|refine WF.seq ?_|refine Zc ?_|refine WO.nil ?_|refine WF.block ?_|refine WF.skip ?_|refine WF.endBlock ?_|(apply WF.exit;(focus (exact rfl)))|(apply WO.op;(focus ((simp only [rO,Zb,Zn,decide_true,li,lo,reduceIte,Nat.reduceEqDiff,Nat.reduceAdd,beq_self_eq_true,q1,q2];done)));(focus (simp only [rE,rO,li,lo,Zn,ZN,Zd,Zr,AH.set,AV.cells,decide_true,if_true,if_false,reduceIte,Nat.reduceEqDiff,Nat.reduceAdd,Nat.reduceMul,ZH,ZG,Zz,Za Yr,Za Zu,Za Zx,n01,n10,ho1,ho2,hs1,hs2,q1,q2];exact rfl));(focus (exact rfl)))|(apply WO.unwanted;(focus ((simp only [rO,Zb,Zn,decide_true,li,lo,reduceIte,Nat.reduceEqDiff,Nat.reduceAdd,beq_self_eq_true,q1,q2];done)));(focus (exact rfl))))
 refine WO.op (v:=.str bs) (by simp only [rO,Zb,Zn,decide_true,li,lo,reduceIte,Nat.reduceEqDiff,Nat.reduceAdd,beq_self_eq_true,q1,q2];done) (k1 _ _ (by simp only [rO,reduceIte,Nat.reduceEqDiff])) rfl ?_
 repeat (first|refine WF.seq ?_|refine Zc ?_|refine WO.nil ?_|refine WF.block ?_|refine WF.skip ?_|refine WF.endBlock ?_|(apply WF.exit;(focus (exact rfl)))|(apply WO.op;(focus ((simp only [rO,Zb,Zn,decide_true,li,lo,reduceIte,Nat.reduceEqDiff,Nat.reduceAdd,beq_self_eq_true,q1,q2];done)));(focus (simp only [rE,rO,li,lo,Zn,ZN,Zd,Zr,AH.set,AV.cells,decide_true,if_true,if_false,reduceIte,Nat.reduceEqDiff,Nat.reduceAdd,Nat.reduceMul,ZH,ZG,Zz,Za Yr,Za Zu,Za Zx,n01,n10,ho1,ho2,hs1,hs2,q1,q2];exact rfl));(focus (exact rfl)))|(apply WO.unwanted;(focus ((simp only [rO,Zb,Zn,decide_true,li,lo,reduceIte,Nat.reduceEqDiff,Nat.reduceAdd,beq_self_eq_true,q1,q2];done)));(focus (exact rfl))))
 refine WO.op (v:=.str bs) (by simp only [rO,Zb,Zn,decide_true,li,lo,reduceIte,Nat.reduceEqDiff,Nat.reduceAdd,beq_self_eq_true,q1,q2];done) (k2 _ _ (by simp only [rO,reduceIte,Nat.reduceEqDiff])) rfl ?_
 have q3:(bs == bs) = true:=by simp
 repeat (first|refine WF.seq ?_|refine Zc ?_|refine WO.nil ?_|refine WF.block ?_|refine WF.skip ?_|refine WF.endBlock ?_|(apply WF.exit;(focus (exact rfl)))|(apply WO.op;(focus ((simp only [rO,Zb,Zn,decide_true,li,lo,reduceIte,Nat.reduceEqDiff,Nat.reduceAdd,beq_self_eq_true,q1,q2,q3];done)));(focus (simp only [rE,rO,li,lo,Zn,ZN,Zd,Zr,AH.set,AV.cells,decide_true,if_true,if_false,reduceIte,Nat.reduceEqDiff,Nat.reduceAdd,Nat.reduceMul,ZH,ZG,Zz,Za Yr,Za Zu,Za Zx,n01,n10,ho1,ho2,hs1,hs2,q1,q2,q3,bin_eqlStr,gOk_eqlStr];exact rfl));(focus (exact rfl)))|(apply WO.unwanted;(focus ((simp only [rO,Zb,Zn,decide_true,li,lo,reduceIte,Nat.reduceEqDiff,Nat.reduceAdd,beq_self_eq_true,q1,q2,q3];done)));(focus (exact rfl))))
 (apply WF.ret;(focus (simp only [Zi,Tri.gp,Zn,ZL,reduceIte,Nat.reduceEqDiff,rs30];exact rfl)))
 rfl
end Go.Ev.C
end
section
namespace Go.Ev.C
open Go.Proofs
set_option maxRecDepth 100000
set_option linter.unusedSimpArgs false
variable {L:World→Prop} [Yu Q L]
theorem sames_c (H:AH) (rv1 rv2:AV) (l:List Yz) (h1:YP H rv1 l) (h2:YP H rv2 l) (h8:∀d ∈ l,U8 d.r) (hlen:l.length < 9223372036854775808):Fn Q L 65 [rv1,rv2] H (fun w H' =>w = .bool true∧H' = H):=by
 refine Fn.intro (en65 _ _) ?_
 have hs1:=h1.1
 have hs2:=h2.1
 have dl:decide ((l.length:Int) = (l.length:Int)) = true:=by simp
 unfold c65 Tryz.f65
 simp only [Option.getD_some]
 repeat (first|refine WF.seq ?_|refine Zc ?_|refine WO.nil ?_|refine WF.block ?_|refine WF.skip ?_|refine WF.endBlock ?_|(apply WF.exit;(focus (exact rfl)))|(apply WO.op;(focus ((simp only [rO,Zb,Zn,decide_true,li,lo,reduceIte,Nat.reduceEqDiff,Nat.reduceAdd,beq_self_eq_true];done)));(focus (simp only [rE,rO,li,lo,Zn,ZN,Zd,Zr,AH.set,AV.cells,decide_true,if_true,if_false,reduceIte,Nat.reduceEqDiff,Nat.reduceAdd,Nat.reduceMul,Zk,Zf Zk hs1,Zf Zk hs2,dl];exact rfl));(focus (exact rfl)))|(apply WO.unwanted;(focus ((simp only [rO,Zb,Zn,decide_true,li,lo,reduceIte,Nat.reduceEqDiff,Nat.reduceAdd,beq_self_eq_true];done)));(focus (exact rfl))))
 (first|(apply WF.condT;(focus (simp only [Zg,Zd,Tri.gp,Zn,Bool.not_true,Bool.not_false,reduceIte,Nat.reduceEqDiff,dl];done)))|(apply WF.condF;(focus (simp only [Zg,Zd,Tri.gp,Zn,Bool.not_true,Bool.not_false,reduceIte,Nat.reduceEqDiff,dl];done))))
 repeat (first|refine WF.seq ?_|refine Zc ?_|refine WO.nil ?_|refine WF.block ?_|refine WF.skip ?_|refine WF.endBlock ?_|(apply WF.exit;(focus (exact rfl)))|(apply WO.op;(focus ((simp only [rO,Zb,Zn,decide_true,li,lo,reduceIte,Nat.reduceEqDiff,Nat.reduceAdd,beq_self_eq_true];done)));(focus (simp only [rE,rO,li,lo,Zn,ZN,Zd,Zr,AH.set,AV.cells,decide_true,if_true,if_false,reduceIte,Nat.reduceEqDiff,Nat.reduceAdd,Nat.reduceMul];exact rfl));(focus (exact rfl)))|(apply WO.unwanted;(focus ((simp only [rO,Zb,Zn,decide_true,li,lo,reduceIte,Nat.reduceEqDiff,Nat.reduceAdd,beq_self_eq_true];done)));(focus (exact rfl))))
 refine Ys (fun m t H' =>∃i:Nat,H' = H∧i + m = l.length∧t.get 0 = some rv1∧t.get 1 = some rv2∧t.get 5 = some (.int .i64 (i:Int))) l.length ?_ ?_
 ·refine⟨0,rfl,by omega,?_,?_,?_⟩ <;> simp [Tri.gp,Zn]
 rintro m t H' ⟨i,rfl,him,ht0,ht1,ht5⟩ ih
 by_cases hi:i < l.length
 ·have hlt:decide ((i:Int) < (l.length:Int)) = true:=by simp;omega
  obtain⟨b1,off1,cap1,c1,dv1,rfl,hc1,hd1,hcut1⟩:=h1.at hi
  obtain⟨b2,off2,cap2,c2,dv2,rfl,hc2,hd2,hcut2⟩:=h2.at hi
  have hu:=h8 _ (List.getElem_mem hi)
  repeat (first|refine WF.seq ?_|refine Zc ?_|refine WO.nil ?_|refine WF.block ?_|refine WF.skip ?_|refine WF.endBlock ?_|(apply WF.exit;(focus (exact rfl)))|(apply WO.op;(focus ((simp only [rO,Zb,Zn,decide_true,li,lo,reduceIte,Nat.reduceEqDiff,Nat.reduceAdd,beq_self_eq_true,hlt];done)));(focus (simp only [rE,rO,li,lo,Zn,ZN,Zd,Zr,AH.set,AV.cells,decide_true,if_true,if_false,reduceIte,Nat.reduceEqDiff,Nat.reduceAdd,Nat.reduceMul,Zk,Zf Zk hs1,Zf Zk hs2,Ze Yi Z1,ht0,ht1,ht5,dl,hlt];exact rfl));(focus (exact rfl)))|(apply WO.unwanted;(focus ((simp only [rO,Zb,Zn,decide_true,li,lo,reduceIte,Nat.reduceEqDiff,Nat.reduceAdd,beq_self_eq_true,hlt];done)));(focus (exact rfl))))
  (first|(apply WF.condT;(focus (simp only [Zg,Zd,Tri.gp,Zn,Bool.not_true,Bool.not_false,reduceIte,Nat.reduceEqDiff,hlt];done)))|(apply WF.condF;(focus (simp only [Zg,Zd,Tri.gp,Zn,Bool.not_true,Bool.not_false,reduceIte,Nat.reduceEqDiff,hlt];done))))
  repeat (first|refine WF.seq ?_|refine Zc ?_|refine WO.nil ?_|refine WF.block ?_|refine WF.skip ?_|refine WF.endBlock ?_|(apply WF.exit;(focus (exact rfl)))|(apply WO.op;(focus ((simp only [rO,Zb,Zn,decide_true,li,lo,reduceIte,Nat.reduceEqDiff,Nat.reduceAdd,beq_self_eq_true,hlt];done)));(focus (simp only [rE,rO,li,lo,Zn,ZN,Zd,Zr,AH.set,AV.cells,decide_true,if_true,if_false,reduceIte,Nat.reduceEqDiff,Nat.reduceAdd,Nat.reduceMul,Zk,Zf Zk hs1,Zf Zk hs2,Ze Yi Z1,ht0,ht1,ht5,dl,hlt];exact rfl));(focus (exact rfl)))|(apply WO.unwanted;(focus ((simp only [rO,Zb,Zn,decide_true,li,lo,reduceIte,Nat.reduceEqDiff,Nat.reduceAdd,beq_self_eq_true,hlt];done)));(focus (exact rfl))))
  (apply Yw;(focus kernel_rfl);(focus kernel_rfl))
  (refine Zq ?_;(iterate 8 (first|(apply ZW.pure;(focus kernel_rfl);(focus kernel_rfl);(focus ((simp only [rO,Zb,Zn,decide_true,li,lo,reduceIte,Nat.reduceEqDiff,Nat.reduceAdd,beq_self_eq_true,hlt];done)));(focus (simp only [rE,rO,li,lo,Zn,ZN,Zd,Zr,AH.set,AV.cells,decide_true,if_true,if_false,reduceIte,Nat.reduceEqDiff,Nat.reduceAdd,Nat.reduceMul,Zk,Zf Zk hs1,Zf Zk hs2,Ze Yi Z1,ht0,ht1,ht5,dl,hlt,Zt Zk Z1 hi,hc1,hc2,hcut1,hcut2];exact rfl));(focus (exact rfl)))|(apply ZW.load;(focus kernel_rfl);(focus kernel_rfl);(focus ((simp only [rO,Zb,Zn,decide_true,li,lo,reduceIte,Nat.reduceEqDiff,Nat.reduceAdd,beq_self_eq_true,hlt];done)));(focus (simp only [rE,rO,li,lo,Zn,ZN,Zd,Zr,AH.set,AV.cells,decide_true,if_true,if_false,reduceIte,Nat.reduceEqDiff,Nat.reduceAdd,Nat.reduceMul,Zk,Zf Zk hs1,Zf Zk hs2,Ze Yi Z1,ht0,ht1,ht5,dl,hlt,Zt Zk Z1 hi,hc1,hc2,hcut1,hcut2];exact rfl));(focus (exact rfl)))));(iterate 2 (apply ZW.later;(focus kernel_rfl)));refine ZW.nil ?_)
  (apply ZY.call (e:=8);(focus kernel_rfl);(focus (simp only [List.getElem?_toArray,List.getElem?_cons_succ,List.getElem?_cons_zero];exact rfl));(focus ((simp only [rO,Zb,Zn,decide_true,li,lo,reduceIte,Nat.reduceEqDiff,Nat.reduceAdd,beq_self_eq_true,hlt];done)));(focus (simp only [rE,rO,li,lo,Zn,ZN,Zd,Zr,AH.set,AV.cells,decide_true,if_true,if_false,reduceIte,Nat.reduceEqDiff,Nat.reduceAdd,Nat.reduceMul,Zk,Zf Zk hs1,Zf Zk hs2,Ze Yi Z1,ht0,ht1,ht5,dl,hlt,cu30];exact rfl));(focus (exact same_c _ _ _ _ _ _ hd1 hd2 hu));rintro _ _ ⟨rfl,rfl⟩;refine⟨_,rfl,?_,?_⟩;(focus exact ZM (by kernel_rfl)))
  (refine Zq ?_;(iterate 9 (apply ZW.later;(focus kernel_rfl)));(iterate 1 (apply ZW.pure;(focus kernel_rfl);(focus kernel_rfl);(focus ((simp only [rO,Zb,Zn,decide_true,li,lo,reduceIte,Nat.reduceEqDiff,Nat.reduceAdd,beq_self_eq_true];done)));(focus (simp only [rE,rO,li,lo,Zn,ZN,Zd,Zr,AH.set,AV.cells,decide_true,if_true,if_false,reduceIte,Nat.reduceEqDiff,Nat.reduceAdd,Nat.reduceMul,Zk,Zf Zk hs1,Zf Zk hs2,Ze Yi Z1,ht0,ht1,ht5,dl];exact rfl));(focus (exact rfl))));refine ZW.nil ?_)
  (apply ZY.all;(focus kernel_rfl);(focus kernel_rfl))
  repeat (first|refine WF.seq ?_|refine Zc ?_|refine WO.nil ?_|refine WF.block ?_|refine WF.skip ?_|refine WF.endBlock ?_|(apply WF.exit;(focus (exact rfl)))|(apply WO.op;(focus ((simp only [rO,Zb,Zn,decide_true,li,lo,reduceIte,Nat.reduceEqDiff,Nat.reduceAdd,beq_self_eq_true];done)));(focus (simp only [rE,rO,li,lo,Zn,ZN,Zd,Zr,AH.set,AV.cells,decide_true,if_true,if_false,reduceIte,Nat.reduceEqDiff,Nat.reduceAdd,Nat.reduceMul,Zk,Zf Zk hs1,Zf Zk hs2,Ze Yi Z1,ht0,ht1,ht5,dl];exact rfl));(focus (exact rfl)))|(apply WO.unwanted;(focus ((simp only [rO,Zb,Zn,decide_true,li,lo,reduceIte,Nat.reduceEqDiff,Nat.reduceAdd,beq_self_eq_true];done)));(focus (exact rfl))))
  (first|(apply WF.condT;(focus (simp only [Zg,Zd,Tri.gp,Zn,Bool.not_true,Bool.not_false,reduceIte,Nat.reduceEqDiff];done)))|(apply WF.condF;(focus (simp only [Zg,Zd,Tri.gp,Zn,Bool.not_true,Bool.not_false,reduceIte,Nat.reduceEqDiff];done))))
  repeat (first|refine WF.seq ?_|refine Zc ?_|refine WO.nil ?_|refine WF.block ?_|refine WF.skip ?_|refine WF.endBlock ?_|(apply WF.exit;(focus (exact rfl)))|(apply WO.op;(focus ((simp only [rO,Zb,Zn,decide_true,li,lo,reduceIte,Nat.reduceEqDiff,Nat.reduceAdd,beq_self_eq_true];done)));(focus (simp only [rE,rO,li,lo,Zn,ZN,Zd,Zr,AH.set,AV.cells,decide_true,if_true,if_false,reduceIte,Nat.reduceEqDiff,Nat.reduceAdd,Nat.reduceMul,Zk,Zf Zk hs1,Zf Zk hs2,Ze Yi Z1,ht0,ht1,ht5,dl];exact rfl));(focus (exact rfl)))|(apply WO.unwanted;(focus ((simp only [rO,Zb,Zn,decide_true,li,lo,reduceIte,Nat.reduceEqDiff,Nat.reduceAdd,beq_self_eq_true];done)));(focus (exact rfl))))
  refine Yt ?_
  refine ih (m - 1) _ _ (by omega) ⟨i + 1,rfl,by omega,?_,?_,?_⟩
  ·simp [Tri.gp,ht0]
  ·simp [Tri.gp,ht1]
  ·simp only [Tri.gp,reduceIte,ht5]
   rw [Go.Ev.w64 (by omega) (by omega)]
   simp
 ·have hlt:decide ((i:Int) < (l.length:Int)) = false:=by simp;omega
  repeat (first|refine WF.seq ?_|refine Zc ?_|refine WO.nil ?_|refine WF.block ?_|refine WF.skip ?_|refine WF.endBlock ?_|(apply WF.exit;(focus (exact rfl)))|(apply WO.op;(focus ((simp only [rO,Zb,Zn,decide_true,li,lo,reduceIte,Nat.reduceEqDiff,Nat.reduceAdd,beq_self_eq_true,hlt];done)));(focus (simp only [rE,rO,li,lo,Zn,ZN,Zd,Zr,AH.set,AV.cells,decide_true,if_true,if_false,reduceIte,Nat.reduceEqDiff,Nat.reduceAdd,Nat.reduceMul,Zk,Zf Zk hs1,Zf Zk hs2,Ze Yi Z1,ht0,ht1,ht5,dl,hlt];exact rfl));(focus (exact rfl)))|(apply WO.unwanted;(focus ((simp only [rO,Zb,Zn,decide_true,li,lo,reduceIte,Nat.reduceEqDiff,Nat.reduceAdd,beq_self_eq_true,hlt];done)));(focus (exact rfl))))
  (first|(apply WF.condT;(focus (simp only [Zg,Zd,Tri.gp,Zn,Bool.not_true,Bool.not_false,reduceIte,Nat.reduceEqDiff,hlt];done)))|(apply WF.condF;(focus (simp only [Zg,Zd,Tri.gp,Zn,Bool.not_true,Bool.not_false,reduceIte,Nat.reduceEqDiff,hlt];done))))
  repeat (first|refine WF.seq ?_|refine Zc ?_|refine WO.nil ?_|refine WF.block ?_|refine WF.skip ?_|refine WF.endBlock ?_|(apply WF.exit;(focus (exact rfl)))|(apply WO.op;(focus ((simp only [rO,Zb,Zn,decide_true,li,lo,reduceIte,Nat.reduceEqDiff,Nat.reduceAdd,beq_self_eq_true,hlt];done)));(focus (simp only [rE,rO,li,lo,Zn,ZN,Zd,Zr,AH.set,AV.cells,decide_true,if_true,if_false,reduceIte,Nat.reduceEqDiff,Nat.reduceAdd,Nat.reduceMul,Zk,Zf Zk hs1,Zf Zk hs2,Ze Yi Z1,ht0,ht1,ht5,dl,hlt];exact rfl));(focus (exact rfl)))|(apply WO.unwanted;(focus ((simp only [rO,Zb,Zn,decide_true,li,lo,reduceIte,Nat.reduceEqDiff,Nat.reduceAdd,beq_self_eq_true,hlt];done)));(focus (exact rfl))))
  (apply WF.ret;(focus (simp only [Zi,Tri.gp,Zn,ZL,reduceIte,Nat.reduceEqDiff,rs65];exact rfl)))
  exact⟨rfl,rfl⟩
theorem bin_eqB (a b:Bool):X6 Q .eql 4 (.bool a) (.bool b) = some (.bool (a == b)):=bin_eqlB und4 a b
theorem sameB_c (H:AH) (cpu dr:Int) (ah:Bool) (rv1 rv2:AV) (l:List Yz) (h1:YP H rv1 l) (h2:YP H rv2 l) (h8:∀d ∈ l,U8 d.r) (hlen:l.length < 9223372036854775808):Fn Q L 29 [BV cpu rv1 dr ah,BV cpu rv2 dr ah] H (fun w H' =>w = .bool true∧H' = H):=by
 refine Fn.gc (en29 _ _) rfl ?_
 have h1:=h1.lock
 have h2:=h2.lock
 generalize lock H = H at h1 h2
 have ho1:=h1.1.one
 have ho2:=h2.1.one
 have hs1:=h1.1.solid
 have hs2:=h2.1.solid
 have n01:(H.next = H.next + 1) = False:=eq_false (by omega)
 have n10:(H.next + 1 = H.next) = False:=eq_false (by omega)
 have q1:decide (cpu = cpu) = true:=by simp
 have q2:decide (dr = dr) = true:=by simp
 have q3:(ah == ah) = true:=by simp
 unfold c29 Tryz.f29 BV
 simp only [Option.getD_some]
 repeat (first|refine WF.seq ?_|refine Zc ?_|refine WO.nil ?_|refine WF.block ?_|refine WF.skip ?_|refine WF.endBlock ?_|(apply WF.exit;(focus (exact rfl)))|(apply WO.op;(focus ((simp only [rO,Zb,Zn,decide_true,li,lo,reduceIte,Nat.reduceEqDiff,Nat.reduceAdd,beq_self_eq_true,q1,q2,q3];done)));(focus (simp only [rE,rO,li,lo,Zn,ZN,Zd,Zr,AH.set,AV.cells,decide_true,if_true,if_false,reduceIte,Nat.reduceEqDiff,Nat.reduceAdd,Nat.reduceMul,ZJ,Zp,Zy,ZP,Za Zu,Za ZE,Za Zw,bin_eqB,n01,n10,ho1,ho2,hs1,hs2,q1,q2,q3,cu65];exact rfl));(focus (exact rfl)))|(apply WO.unwanted;(focus ((simp only [rO,Zb,Zn,decide_true,li,lo,reduceIte,Nat.reduceEqDiff,Nat.reduceAdd,beq_self_eq_true,q1,q2,q3];done)));(focus (exact rfl))))
 (apply WO.call;(focus ((simp only [rO,Zb,Zn,decide_true,li,lo,reduceIte,Nat.reduceEqDiff,Nat.reduceAdd,beq_self_eq_true,q1,q2,q3];done)));(focus (simp only [rE,rO,li,lo,Zn,ZN,Zd,Zr,AH.set,AV.cells,decide_true,if_true,if_false,reduceIte,Nat.reduceEqDiff,Nat.reduceAdd,Nat.reduceMul,ZJ,Zp,Zy,ZP,Za Zu,Za ZE,Za Zw,bin_eqB,n01,n10,ho1,ho2,hs1,hs2,q1,q2,q3,cu65];exact rfl));(focus (exact sames_c _ _ _ _ (h1.up (WC _ _ _)) (h2.up (WC _ _ _)) h8 hlen));rintro _ H ⟨rfl,rfl⟩;refine⟨_,rfl,?_⟩)
 repeat (first|refine WF.seq ?_|refine Zc ?_|refine WO.nil ?_|refine WF.block ?_|refine WF.skip ?_|refine WF.endBlock ?_|(apply WF.exit;(focus (exact rfl)))|(apply WO.op;(focus ((simp only [rO,Zb,Zn,decide_true,li,lo,reduceIte,Nat.reduceEqDiff,Nat.reduceAdd,beq_self_eq_true,q1,q2,q3];done)));(focus (simp only [rE,rO,li,lo,Zn,ZN,Zd,Zr,AH.set,AV.cells,decide_true,if_true,if_false,reduceIte,Nat.reduceEqDiff,Nat.reduceAdd,Nat.reduceMul,ZJ,Zp,Zy,ZP,Za Zu,Za ZE,Za Zw,bin_eqB,n01,n10,ho1,ho2,hs1,hs2,q1,q2,q3,cu65];exact rfl));(focus (exact rfl)))|(apply WO.unwanted;(focus ((simp only [rO,Zb,Zn,decide_true,li,lo,reduceIte,Nat.reduceEqDiff,Nat.reduceAdd,beq_self_eq_true,q1,q2,q3];done)));(focus (exact rfl))))
 (apply WF.ret;(focus (simp only [Zi,Tri.gp,Zn,ZL,reduceIte,Nat.reduceEqDiff,rs29];exact rfl)))
 rfl
end Go.Ev.C
end
section
namespace Go.Ev.C
open Go.Proofs
set_option maxRecDepth 100000
set_option linter.unusedSimpArgs false
def intL (l:List Int):List AV:=l.map (.int .i64)
theorem intL_one (l:List Int):(intL l).all Yn = true:=List.all_eq_true.2 fun v hv =>by obtain⟨x,_,rfl⟩:=List.mem_map.1 hv;rfl
theorem intL_hole (l:List Int):(intL l).all ZO = true:=List.all_eq_true.2 fun v hv =>by obtain⟨x,_,rfl⟩:=List.mem_map.1 hv;rfl
def OwnInts (H0 H:AH) (v:AV) (l:List Int):Prop:=(l = []∧v = .nilslice) ∨ (l ≠ []∧∃b,v = .slice b 0 l.length (.up 1)∧H0.next≤b∧b < H.next∧H.t.get b = some (.cells 3 (intL l) 0 false false))
theorem OwnInts.sl {H0 H:AH} {v:AV} {l:List Int} (h:OwnInts H0 H v l):SL v l.length:=by
 rcases h with ⟨rfl,rfl⟩ | ⟨_,b,rfl,_⟩
 ·exact .nil
 ·exact .sl _ _ _ _
theorem OwnInts.nil (H0 H:AH):OwnInts H0 H .nilslice []:=.inl ⟨rfl,rfl⟩
theorem OwnInts.up {H0 H H':AH} {v:AV} {l:List Int} (h:OwnInts H0 H v l) (u:Up H H'):OwnInts H0 H' v l:=by
 rcases h with h | ⟨h0,b,h1,h2,h3,h4⟩
 ·exact .inl h
 ·exact .inr ⟨h0,b,h1,h2,Nat.lt_of_lt_of_le h3 u.next,by rw [u.old b h3];exact h4⟩
theorem app84 (s x:AV) (H:AH):X8 Q [84,84] [s,x] H = (match YG 1 x H with | some (n,cs) =>Yq 3 1 s n cs H | none =>none):=by kernel_rfl
/-- The heap with a cell for a number. -/
def one84 (H:AH) (x:Int):AH:=⟨H.t.put H.next (some (.cells 3 [.int .i64 x] 0 false false)),H.next + 1⟩
theorem OwnInts.push {H0 H:AH} {v:AV} {l:List Int} (h:OwnInts H0 H v l) (hu:Up H0 H) (x:Int) (hn:l.length + 1≤274877906944) :
  ∃v' H',X8 Q [84,84] [v,.slice H.next 0 1 (.is 1)] (one84 H x) = some (v',H')∧OwnInts H0 H' v' (l ++ [x])∧Up H0 H':=by
 have hu1:Up H0 (one84 H x):=hu.trans (Up.box _ _)
 have hnx:(one84 H x).next = H.next + 1:=rfl
 have hcell:(one84 H x).cellsAt H.next = some [.int .i64 x]:=by unfold one84;rw [ZK,if_pos rfl]
 have hnew:YG 1 (.slice H.next 0 1 (.is 1)) (one84 H x) = some (1,[.int .i64 x]):=Wd (by omega) hcell (YN rfl rfl)
 rw [app84,hnew]
 dsimp only
 have h0:=hu.next
 rcases h with ⟨rfl,rfl⟩ | ⟨hne,b,rfl,hb0,hb,hg⟩
 ·rw [appendTo_nil (by omega) (by omega) rfl]
  refine⟨_,_,rfl,.inr ⟨by simp,(one84 H x).next,rfl,?_,?_,?_⟩,?_⟩
  ·rw [hnx];omega
  ·exact Nat.lt_succ_self _
  ·show (Tri.put _ _ _).get _ = _
   rw [Tri.gp,if_pos rfl]
   rfl
  ·exact hu1.trans (Up.box _ _)
 ·have hg1:(one84 H x).t.get b = some (.cells 3 (intL l) 0 false false):=by
   show (Tri.put _ _ _).get _ = _
   rw [Tri.gp,if_neg (by omega)]
   exact hg
  have hl:(intL l).length = l.length * 1:=by simp [intL]
  rw [appendTo_up hg1 (YN hl (intL_hole l)) (by omega) hn (intL_one l) rfl]
  refine⟨_,_,rfl,.inr ⟨by simp,(one84 H x).next,by simp,?_,?_,?_⟩,?_⟩
  ·rw [hnx];omega
  ·exact Nat.lt_succ_self _
  ·show (Tri.put _ _ _).get _ = _
   rw [Tri.gp,if_pos rfl]
   simp [intL]
  ·refine⟨by show H0.next≤(one84 H x).next + 1;rw [hnx];omega,fun b' hb' =>?_⟩
   show ((Tri.put _ _ _).put _ _).get _ = _
   rw [Tri.gp,if_neg (by rw [hnx];omega),Tri.gp,if_neg (by omega)]
   exact hu1.old b' hb'
/-! ### the lists -/
def rowL (x:Int) (m:List Int):List Int:=(m.filter fun y =>decide (x = y)).map fun _ =>x
def bothL (m:List Int) (ids:List Int):List Int:=ids.flatMap fun x =>rowL x m
theorem rowL_length (x:Int) (m:List Int):(rowL x m).length≤m.length:=by
 unfold rowL
 rw [List.length_map]
 exact List.length_filter_le _ _
theorem bothL_length (m:List Int):∀ids:List Int,(bothL m ids).length≤ids.length * m.length
 | [] =>by simp [bothL]
 | x :: ids =>by
  have h1:=rowL_length x m
  have h2:=bothL_length m ids
  have e:bothL m (x :: ids) = rowL x m ++ bothL m ids:=by simp [bothL]
  rw [e,List.length_append,List.length_cons,Nat.add_mul,Nat.one_mul]
  omega
end Go.Ev.C
end
section
namespace Go.Ev.C
open Go.Proofs
set_option maxRecDepth 100000
set_option linter.unusedSimpArgs false
variable {L:World→Prop} [Yu Q L]
/-- A part of a code. -/
def sub:List Nat→Code→Code
 | 0 :: p,.seq a _ =>sub p a
 | _ :: p,.seq _ b =>sub p b
 | _ :: p,.block _ c =>sub p c
 | _ :: p,.loop c =>sub p c
 | _,c =>c
/-- What the law's loops leave alone. -/
structure Sel (t:Tri AV) (v1 v2:AV) (b3 b8:Nat):Prop where
 t1:t.get 1 = some v1
 t2:t.get 2 = some v2
 t3:t.get 3 = some (.ptr b3 0)
 t7:t.get 7 = some (.bool true)
 t8:t.get 8 = some (.ptr b8 0)
theorem Sel.put {t:Tri AV} {v1 v2:AV} {b3 b8 n:Nat} (h:Sel t v1 v2 b3 b8) (o:Option AV) (hn:(Nat.blt 8 n || Nat.beq n 0 || Nat.beq n 4 || Nat.beq n 5 || Nat.beq n 6) = true):Sel (t.put n o) v1 v2 b3 b8:=by
 have key:n ≠ 1∧n ≠ 2∧n ≠ 3∧n ≠ 7∧n ≠ 8:=by
  simp only [Bool.or_eq_true,Nat.blt_eq,Nat.beq_eq] at hn
  omega
 exact⟨by rw [Tri.gp,if_neg (by omega)];exact h.t1,by rw [Tri.gp,if_neg (by omega)];exact h.t2,by rw [Tri.gp,if_neg (by omega)];exact h.t3,by rw [Tri.gp,if_neg (by omega)];exact h.t7,by rw [Tri.gp,if_neg (by omega)];exact h.t8⟩
end Go.Ev.C
end
section
namespace Go.Ev.C
open Go.Proofs
set_option maxRecDepth 100000
set_option linter.unusedSimpArgs false
variable {L:World→Prop} [Yu Q L]
end Go.Ev.C
end
section
namespace Go.Ev.C
open Go.Proofs
set_option maxRecDepth 100000
set_option linter.unusedSimpArgs false
variable {L:World→Prop} [Yu Q L]
structure Sel2 (t:Tri AV) (v1 v2:AV) (b3 b8 b17:Nat):Prop where
 s:Sel t v1 v2 b3 b8
 t17:t.get 17 = some (.ptr b17 0)
theorem Sel2.put {t:Tri AV} {v1 v2:AV} {b3 b8 b17 n:Nat} (h:Sel2 t v1 v2 b3 b8 b17) (o:Option AV) (hn:(Nat.blt 8 n || Nat.beq n 0 || Nat.beq n 4 || Nat.beq n 5 || Nat.beq n 6) = true) (h17:Nat.beq n 17 = false):Sel2 (t.put n o) v1 v2 b3 b8 b17 :=
 ⟨h.s.put o hn,by
  have:¬ n = 17:=by rw [← Nat.beq_eq];simp [h17]
  rw [Tri.gp,if_neg (by omega)]
  exact h.t17⟩
end Go.Ev.C
end
section
namespace Go.Ev.C
open Go.Proofs
set_option maxRecDepth 100000
set_option linter.unusedSimpArgs false
variable {L:World→Prop} [Yu Q L]
end Go.Ev.C
end
section
namespace Go.Ev.C
open Go.Proofs
set_option maxRecDepth 100000
set_option linter.unusedSimpArgs false
variable {L:World→Prop} [Yu Q L]
end Go.Ev.C
end
section
namespace Go.Ev.C
open Go.Proofs
set_option maxRecDepth 100000
set_option linter.unusedSimpArgs false
variable {L:World→Prop} [Yu Q L]
end Go.Ev.C
end
section
namespace Go.Ev.C
open Go.Proofs Go.RowKit Go.ChangeShapes Go.WideShapes Go.Deep
section
variable {H:Type} {WB:TypeId × Value→H} {W:World} {base:Nat} {spare:Nat→Bool} {held:Bool} {fuel:Nat}
theorem u8_list:∀{r:List AV},(∀v ∈ r,∃n:Nat,n < 256∧v = byteV n)→U8 r
 | [],_ =>⟨[],rfl,by simp⟩
 | v :: r,h =>by
  obtain⟨n,hn,rfl⟩:=h v (by simp)
  obtain⟨bs,rfl,h8⟩:=u8_list (r:=r) fun w hw =>h w (by simp [hw])
  refine⟨n :: bs,rfl,fun k hk =>?_⟩
  rcases List.mem_cons.1 hk with rfl | hk
  ·exact hn
  ·exact h8 k hk
theorem u8_wf {z:Int} (h:(Lit.int .u8 z).wf = true):∃n:Nat,n < 256∧(AV.int .u8 z) = byteV n:=by
 have h1:0≤z∧z < 256:=by
  unfold Lit.wf at h
  simp only [Bool.and_eq_true,decide_eq_true_eq] at h
  have a:IntKind.u8.min = 0:=rfl
  have b:IntKind.u8.max = 255:=rfl
  rw [a,b] at h
  omega
 refine⟨z.toNat,by omega,?_⟩
 unfold byteV
 rw [Int.ofNat_eq_natCast,Int.toNat_of_nonneg h1.1]
theorem read_data {v:Value} {x:DataW H × List MemPlace} (h:DataW.trod WB Q W base spare held fuel 35 [v] = some x):∃r,U8 r∧Y3 (ahOf W) (YC W v) r:=by
 rcases open_slice Tryz.underlying35 h with ⟨hv,_⟩ | ⟨a,len,cap,m,k,D,Pl,hv,_,hl,hm,hmm,_,hi⟩
 ·cases hv
  exact⟨[],⟨[],rfl,by simp⟩,.nil,fun _ _ _ _ _ h =>absurd rfl h⟩
 ·cases hv
  by_cases h0:len = 0
  ·subst h0
   exact⟨[],⟨[],rfl,by simp⟩,avOf_slice0 _ _ _,fun _ _ _ _ _ h =>absurd rfl h⟩
  have hlm:len≤m:=by rw [hmm];split <;> omega
  have hC:Q.cellsOf 5 = 1:=by kernel_rfl
  obtain⟨c,off,arr,e,f,rfl,hc,hcell⟩:=block_of (R:=fun _ v =>∃n:Nat,n < 256∧YC W v = byteV n) (Nat.pos_of_ne_zero h0) (a:=a) fun i hilt =>by
   obtain⟨cs,hcs,ht⟩:=hi i (by omega)
   rw [hC,Nat.mul_one] at hcs
   obtain⟨_,hcl,hat⟩:=World.cells?_some hcs
   obtain⟨z,rfl,_,hwf⟩:=DataW.trod_int Tryz.underlying5 ht
   have:=hat 0 (by omega)
   obtain⟨n,hn,hz⟩:=u8_wf hwf
   exact⟨.int .u8 z,this,n,hn,hz⟩
  have hlen:(((arr.toList.map (YC W)).drop off).take len).length = len:=by
   obtain⟨v,hv,_⟩:=hcell (len - 1) (by omega)
   have:=(Array.getElem?_eq_some_iff.1 hv).1
   simp
   omega
  have hat:∀j,j < len→∃v,(((arr.toList.map (YC W)).drop off).take len)[j]? = some (YC W v)∧(arr.toList.map (YC W))[off + j]? = some (YC W v)∧∃n:Nat,n < 256∧YC W v = byteV n:=by
   intro j hj
   obtain⟨v,hv,hn⟩:=hcell j hj
   refine⟨v,?_,?_,hn⟩
   ·rw [List.getElem?_take,if_pos hj,List.getElem?_drop,List.getElem?_map,Array.getElem?_toList,hv];rfl
   ·rw [List.getElem?_map,Array.getElem?_toList,hv];rfl
  refine⟨((arr.toList.map (YC W)).drop off).take len,u8_list fun v hv =>?_,?_⟩
  ·obtain⟨j,hj,rfl⟩:=List.mem_iff_getElem.1 hv
   obtain⟨u,hu,_,n,hn,e⟩:=hat j (by omega)
   rw [List.getElem?_eq_getElem hj] at hu
   exact⟨n,hn,(Option.some.inj hu).trans e⟩
  rw [avOf_sliceS hc hl]
  refine⟨by rw [hlen];exact .sl _ _ _ _,fun b off' m' cap' e _ =>?_⟩
  cases e
  refine⟨_,ahOf_lt hc,ahOf_cellsAt hc,Yg.2 ⟨rfl,fun j hj =>?_⟩,?_⟩
  ·rw [hlen] at hj
   obtain⟨v,hv1,hv2,n,hn,e⟩:=hat j hj
   exact⟨YC W v,hv2,by rw [e];rfl,hv1⟩
  ·refine List.all_eq_true.2 fun v hv =>?_
   obtain⟨u,_,rfl⟩:=List.mem_map.1 (List.mem_of_mem_drop (List.mem_of_mem_take hv))
   exact avOf_one W u
theorem read_recs {v:Value} {x:DataW H × List MemPlace} (h:DataW.trod WB Q W base spare held fuel 78 [v] = some x):∃l:List Yz,l.length < 9223372036854775808∧(∀d ∈ l,U8 d.r)∧YP (ahOf W) (YC W v) l:=by
 rcases read_fields Tryz.underlying78 Tryz.underlying87 (by kernel_rfl) (by kernel_rfl) h with ⟨rfl,_⟩ | ⟨a,len,cap,el,sp,rfl,hl,hm,_,_,hi⟩
 ·exact⟨[],by simp,by simp,.nil,fun _ _ _ _ _ h =>absurd rfl h⟩
 ·have hml:maxLen = 9223372036854775807:=rfl
  by_cases h0:len = 0
  ·subst h0
   exact⟨[],by simp,by simp,avOf_slice0 _ _ _,fun _ _ _ _ _ h =>absurd rfl h⟩
  obtain⟨c,off,arr,e,f,rfl,hc,hcell⟩:=block_of (n:=len * 3) (R:=fun t w =>(t % 3 = 0→∃z,w = .int .i64 z)∧(t % 3 = 1→∃z,w = .int .i64 z)∧(t % 3 = 2→∃r,U8 r∧Y3 (ahOf W) (YC W w) r)) (by omega) (a:=a) fun t ht =>by
   have hmod:t % 3 < 3:=Nat.mod_lt _ (by omega)
   have hdm:t / 3 * 3 + t % 3 = t:=by omega
   have key:=hi (t / 3) (by omega)
   rcases (show t % 3 = 0 ∨ t % 3 = 1 ∨ t % 3 = 2 from by omega) with hj | hj | hj
   ·obtain⟨u,n,y,hu,hy⟩:=key 0 _ rfl
    obtain⟨z,hz,_,_⟩:=DataW.trod_int Tryz.underlying3 hy
    cases hz
    refine⟨_,?_,fun _ =>⟨z,rfl⟩,fun h =>by omega,fun h =>by omega⟩
    rw [← hdm,hj];exact hu
   ·obtain⟨u,n,y,hu,hy⟩:=key 1 _ rfl
    obtain⟨z,hz,_,_⟩:=DataW.trod_int Tryz.underlying2 hy
    cases hz
    refine⟨_,?_,fun h =>by omega,fun _ =>⟨z,rfl⟩,fun h =>by omega⟩
    rw [← hdm,hj];exact hu
   ·obtain⟨u,n,y,hu,hy⟩:=key 2 _ rfl
    obtain⟨k,hk,hd⟩:=read_data hy
    refine⟨u,?_,fun h =>by omega,fun h =>by omega,fun _ =>⟨k,hk,hd⟩⟩
    rw [← hdm,hj];exact hu
  obtain⟨l,hll,hlp⟩:=list_of (P:=fun i (d:Yz) =>U8 d.r∧∃dv,Y3 (ahOf W) dv d.r∧cut (arr.toList.map (YC W)) (off + i * 3) 3 = some [.int .i64 d.id,.int .i64 d.tm,dv]) len fun i hilt =>by
   obtain⟨v0,h0,r0,_,_⟩:=hcell (i * 3) (by omega)
   obtain⟨v1,h1,_,r1,_⟩:=hcell (i * 3 + 1) (by omega)
   obtain⟨v2,h2,_,_,r2⟩:=hcell (i * 3 + 2) (by omega)
   obtain⟨z0,rfl⟩:=r0 (by omega)
   obtain⟨z1,rfl⟩:=r1 (by omega)
   obtain⟨n,h8,hd⟩:=r2 (by omega)
   rw [← Nat.add_assoc] at h1 h2
   exact⟨⟨z0,z1,n⟩,h8,YC W v2,hd,cut_three_at (av_at h0) (av_at h1) (av_at h2) rfl rfl hd.1.solid⟩
  rw [avOf_sliceS hc hl]
  refine⟨l,by omega,fun d hd =>?_,by rw [hll];exact .sl _ _ _ _,fun b off' m' cap' e _ =>?_⟩
  ·obtain⟨j,hj⟩:=List.mem_iff_getElem?.1 hd
   exact (hlp j d hj).1
  ·cases e
   exact⟨_,ahOf_lt hc,ahOf_cellsAt hc,fun i d hi =>(hlp i d hi).2⟩
end
end Go.Ev.C
end