/- Contracts: batches that are read; Decode. -/
import Derived.Test.YtkkegnkopmpjhaaGreatDoorEvXa
set_option linter.unusedVariables false
set_option linter.unusedSimpArgs false
set_option linter.all false
section
namespace Go.Ev.C
open Go.Proofs Go.RowKit Go.Fmt
set_option maxRecDepth 100000
set_option linter.unusedSimpArgs false
variable {L:World→Prop} [Yu Q L]
theorem ZF (p:Nat):cut [.ptr p 0] 0 1 = some [.ptr p 0]:=YN rfl rfl
theorem cut4z {a b:Int} {rv:AV} {x:Bool} (h:ZO rv = true):cut [.int .i64 a,rv,.int .i64 b,.bool x] 0 4 = some [.int .i64 a,rv,.int .i64 b,.bool x]:=YN rfl (by simp [Wm,hole_bool,h])
theorem fresh_keep {H H' H'':AH} {w:AV} {l:List Nat} (h:FreshB H H' w l) {lo:Nat} (hlo:lo≤H.next) (hn:H'.next≤H''.next) (hk:∀b,H.next≤b→H''.t.get b = H'.t.get b):Xa lo H'' w (Xw l):=by
 rcases h with ⟨rfl,rfl⟩ | ⟨hne,b,rfl,h1,h2,h3⟩
 ·exact⟨.nil,fun _ _ _ _ e =>by cases e⟩
 ·refine⟨by rw [YJ];exact .sl _ _ _ _,fun b' off m cap e _ =>?_⟩
  cases e
  exact⟨Nat.le_trans hlo h1,Xw l,Nat.lt_of_lt_of_le h2 hn,by unfold AH.cellsAt;rw [hk b h1,h3],YN rfl (bsA_hole l),X4 l⟩
def BatPost (H:AH) (p:Nat) (bv:AV) (s:List Nat) (r:YT × List Nat) (w:AV) (H':AH):Prop:=∃rv,w = .agg [.int .i64 (r.1.cpu:Int),rv,.int .i64 (r.1.dr:Int),.bool (decide (r.1.ah = 1))]∧Yx H.next H' rv (r.1.recs.map ofR)∧Y2 p H H'∧∃a',r.2 = s.drop a'∧Rd H' p bv s a'
set_option maxHeartbeats 16000000 in
theorem batch_w (H:AH) (p:Nat) (bv:AV) (s:List Nat) (a:Nat) (hr:Rd H p bv s a) :
  WF Q L (PF 92 43 (Zn 0 [.agg [.ptr p 0]] .leaf) [.code c92]) H (YL Q 92 (rdB (s.drop a)) (BatPost H p bv s) (fun w H' =>w = bad∧Y2 p H H')):=by
 have hp:=hr.lt
 unfold c92 Tryz.f92
 simp only [Option.getD_some]
 repeat (first|(apply Zh;exact rfl)|apply Zc|apply WO.nil|(apply Zl;exact rfl;simp only [rE,rS,li,lo,reduceIte,Nat.reduceEqDiff,Nat.reduceAdd,Nat.reduceMul,Ze ZR Yd,ZF,ZD,Zv,YQ,Zs,X0];exact rfl;exact rfl))
 have x2:Up H ⟨((H.t.put H.next (some (.cells 125 [.ptr p 0] 0 false false))).put (H.next + 1) (some (.cells 80 [.int .i64 0,.nilslice,.int .i64 0,.bool false] 0 false false))).put (H.next + 1 + 1) (some (.cells 80 [.int .i64 0,.nilslice,.int .i64 0,.bool false] 0 false false)),H.next + 1 + 1 + 1⟩:=Up.box3d H _ _ _
 have k1:Bx p H.next (some (.cells 125 [.ptr p 0] 0 false false)) ⟨((H.t.put H.next (some (.cells 125 [.ptr p 0] 0 false false))).put (H.next + 1) (some (.cells 80 [.int .i64 0,.nilslice,.int .i64 0,.bool false] 0 false false))).put (H.next + 1 + 1) (some (.cells 80 [.int .i64 0,.nilslice,.int .i64 0,.bool false] 0 false false)),H.next + 1 + 1 + 1⟩ :=
  ⟨by show (((H.t.put _ _).put _ _).put _ _).get _ = _;rw [Tri.gp,if_neg (by omega),Tri.gp,if_neg (by omega),Tri.gp,if_pos rfl],by show H.next < H.next + 1 + 1 + 1;omega,by omega⟩
 have k2:Bx p (H.next + 1) (some (.cells 80 [.int .i64 0,.nilslice,.int .i64 0,.bool false] 0 false false)) ⟨((H.t.put H.next (some (.cells 125 [.ptr p 0] 0 false false))).put (H.next + 1) (some (.cells 80 [.int .i64 0,.nilslice,.int .i64 0,.bool false] 0 false false))).put (H.next + 1 + 1) (some (.cells 80 [.int .i64 0,.nilslice,.int .i64 0,.bool false] 0 false false)),H.next + 1 + 1 + 1⟩ :=
  ⟨by show (((H.t.put _ _).put _ _).put _ _).get _ = _;rw [Tri.gp,if_neg (by omega),Tri.gp,if_pos rfl],by show H.next + 1 < H.next + 1 + 1 + 1;omega,by omega⟩
 have k3:Bx p (H.next + 1 + 1) (some (.cells 80 [.int .i64 0,.nilslice,.int .i64 0,.bool false] 0 false false)) ⟨((H.t.put H.next (some (.cells 125 [.ptr p 0] 0 false false))).put (H.next + 1) (some (.cells 80 [.int .i64 0,.nilslice,.int .i64 0,.bool false] 0 false false))).put (H.next + 1 + 1) (some (.cells 80 [.int .i64 0,.nilslice,.int .i64 0,.bool false] 0 false false)),H.next + 1 + 1 + 1⟩ :=
  ⟨by show (((H.t.put _ _).put _ _).put _ _).get _ = _;rw [Tri.gp,if_pos rfl],by show H.next + 1 + 1 < H.next + 1 + 1 + 1;omega,by omega⟩
 have r2:=hr.up x2
 have x2:=Y2.of (p:=p) x2
 (apply Yw;kernel_rfl;kernel_rfl)
 have n10:(H.next + 1 = H.next) = False:=eq_false (by omega)
 have n01:(H.next = H.next + 1) = False:=eq_false (by omega)
 have n02:(H.next = H.next + 1 + 1) = False:=eq_false (by omega)
 (refine Zq ?_;(iterate 1 (apply ZW.load;kernel_rfl;kernel_rfl;(focus ((simp only [rQ,Zb,li,lo,reduceIte,Nat.reduceEqDiff,Nat.reduceAdd,beq_self_eq_true];done)));simp only [rE,rS,li,lo,reduceIte,Nat.reduceEqDiff,Nat.reduceAdd,Nat.reduceMul,Ze ZR Yd,ZF,ZD,Zv,YQ,Zs,X0,n10,n01,n02];exact rfl;exact rfl));(iterate 1 (apply ZW.later;kernel_rfl));(iterate 1 (apply ZW.load;kernel_rfl;kernel_rfl;(focus ((simp only [rQ,Zb,li,lo,reduceIte,Nat.reduceEqDiff,Nat.reduceAdd,beq_self_eq_true];done)));simp only [rE,rS,li,lo,reduceIte,Nat.reduceEqDiff,Nat.reduceAdd,Nat.reduceMul,Ze ZR Yd,ZF,ZD,Zv,YQ,Zs,X0,n10,n01,n02];exact rfl;exact rfl));(iterate 1 (apply ZW.later;kernel_rfl));(iterate 1 (apply ZW.load;kernel_rfl;kernel_rfl;(focus ((simp only [rQ,Zb,li,lo,reduceIte,Nat.reduceEqDiff,Nat.reduceAdd,beq_self_eq_true];done)));simp only [rE,rS,li,lo,reduceIte,Nat.reduceEqDiff,Nat.reduceAdd,Nat.reduceMul,Ze ZR Yd,ZF,ZD,Zv,YQ,Zs,X0,n10,n01,n02];exact rfl;exact rfl));(iterate 3 (apply ZW.later;kernel_rfl));(iterate 1 (apply ZW.new;kernel_rfl;kernel_rfl;(focus ((simp only [rQ,Zb,li,lo,reduceIte,Nat.reduceEqDiff,Nat.reduceAdd,beq_self_eq_true];done)));simp only [rE,rS,li,lo,reduceIte,Nat.reduceEqDiff,Nat.reduceAdd,Nat.reduceMul,Ze ZR Yd,ZF,ZD,Zv,YQ,Zs,X0,n10,n01,n02];exact rfl;simp only [rE,rS,li,lo,reduceIte,Nat.reduceEqDiff,Nat.reduceAdd,Nat.reduceMul,Ze ZR Yd,ZF,ZD,Zv,YQ,Zs,X0,n10,n01,n02];exact rfl;exact rfl));(iterate 1 (apply ZW.later;kernel_rfl));refine ZW.nil ?_)
 generalize (⟨((H.t.put H.next (some (.cells 125 [.ptr p 0] 0 false false))).put (H.next + 1) (some (.cells 80 [.int .i64 0,.nilslice,.int .i64 0,.bool false] 0 false false))).put (H.next + 1 + 1) (some (.cells 80 [.int .i64 0,.nilslice,.int .i64 0,.bool false] 0 false false)),H.next + 1 + 1 + 1⟩:AH) = H2 at *
 cases m1:Wz 3 (s.drop a) with
 | none =>
  have hno:rdB (s.drop a) = none:=by unfold rdB;rw [m1]
  rw [hno]
  simp only [YL]
  (apply ZY.callP (e:=1);kernel_rfl;simp only [li];exact rfl;(focus (simp only [rQ,Zb,li,lo,reduceIte,Nat.reduceEqDiff,Nat.reduceAdd,beq_self_eq_true];done));simp only [rE,rS,li,lo,reduceIte,Nat.reduceEqDiff,Nat.reduceAdd,Nat.reduceMul,Ze ZR Yd,ZF,ZD,Zv,YQ,Zs,X0];exact rfl;exact number_p _ p bv s a 3 r2 (by omega) m1;rintro _ H3 ⟨rfl,u3⟩)
  exact XX.drawn ⟨rfl,x2.trans u3⟩
 | some qq =>
 obtain⟨cpu,w1⟩:=qq
 (apply ZY.call (e:=1);kernel_rfl;simp only [li];exact rfl;(focus (simp only [rQ,Zb,li,lo,reduceIte,Nat.reduceEqDiff,Nat.reduceAdd,beq_self_eq_true];done));simp only [rE,rS,li,lo,reduceIte,Nat.reduceEqDiff,Nat.reduceAdd,Nat.reduceMul,Ze ZR Yd,ZF,ZD,Zv,YQ,Zs,X0];exact rfl;exact number_c _ p bv s a 3 r2 (by omega) m1;rintro _ H3 ⟨rfl,u3,a3,rfl,r3⟩;refine⟨_,rfl,?_,?_⟩;(focus (apply Yf (R:=[2,4]);kernel_rfl;(apply Xt.cons;simp only [li];exact rfl;(focus (simp only [rQ,Zb,li,lo,reduceIte,Nat.reduceEqDiff,Nat.reduceAdd,beq_self_eq_true];done));simp only [rE,rS,li,lo,reduceIte,Nat.reduceEqDiff,Nat.reduceAdd,Nat.reduceMul,Ze ZR Yd,ZF,ZD,Zv,YQ,Zs,X0,(k1.step u3).cells];exact rfl;exact rfl;(focus (simp only [Tri.gp,Zn,reduceIte,Nat.reduceEqDiff,Ze ZR Yd,ZF,ZD,Zv,YQ,Zs,X0,(k1.step u3).cells];exact rfl));(focus (simp [AV.beq,Ym,Ze ZR Yd,ZF,ZD,Zv,YQ,Zs,X0,(k1.step u3).cells];done)));(apply Xt.cons;simp only [li];exact rfl;(focus (simp only [rQ,Zb,li,lo,reduceIte,Nat.reduceEqDiff,Nat.reduceAdd,beq_self_eq_true];done));simp only [rE,rS,li,lo,reduceIte,Nat.reduceEqDiff,Nat.reduceAdd,Nat.reduceMul,Ze ZR Yd,ZF,ZD,Zv,YQ,Zs,X0,(k1.step u3).cells];exact rfl;exact rfl;(focus (simp only [Tri.gp,Zn,reduceIte,Nat.reduceEqDiff,Ze ZR Yd,ZF,ZD,Zv,YQ,Zs,X0,(k1.step u3).cells];exact rfl));(focus (simp [AV.beq,Ym,Ze ZR Yd,ZF,ZD,Zv,YQ,Zs,X0,(k1.step u3).cells];done)));exact Xt.nil)))
 replace k1:=k1.step u3
 replace k2:=k2.step u3
 replace k3:=k3.step u3
 have x3:=x2.trans u3
 (refine Zq ?_;(iterate 10 (apply ZW.later;kernel_rfl));refine ZW.nil ?_)
 cases m2:Wz 1099511627776 (s.drop a3) with
 | none =>
  have hno:rdB (s.drop a) = none:=by unfold rdB;rw [m1];dsimp only;rw [m2]
  rw [hno]
  simp only [YL]
  (apply ZY.callP (e:=3);kernel_rfl;simp only [li];exact rfl;(focus (simp only [rQ,Zb,li,lo,reduceIte,Nat.reduceEqDiff,Nat.reduceAdd,beq_self_eq_true];done));simp only [rE,rS,li,lo,reduceIte,Nat.reduceEqDiff,Nat.reduceAdd,Nat.reduceMul,Ze ZR Yd,ZF,ZD,Zv,YQ,Zs,X0,k1.cells];exact rfl;exact number_p _ p bv s a3 1099511627776 r3 (by omega) m2;rintro _ H4 ⟨rfl,u4⟩)
  exact XX.drawn ⟨rfl,x3.trans u4⟩
 | some qq =>
 obtain⟨dr,w2⟩:=qq
 (apply ZY.call (e:=3);kernel_rfl;simp only [li];exact rfl;(focus (simp only [rQ,Zb,li,lo,reduceIte,Nat.reduceEqDiff,Nat.reduceAdd,beq_self_eq_true];done));simp only [rE,rS,li,lo,reduceIte,Nat.reduceEqDiff,Nat.reduceAdd,Nat.reduceMul,Ze ZR Yd,ZF,ZD,Zv,YQ,Zs,X0,k1.cells];exact rfl;exact number_c _ p bv s a3 1099511627776 r3 (by omega) m2;rintro _ H4 ⟨rfl,u4,a4,rfl,r4⟩;refine⟨_,rfl,?_,?_⟩;(focus (apply Yf (R:=[4]);kernel_rfl;(apply Xt.cons;simp only [li];exact rfl;(focus (simp only [rQ,Zb,li,lo,reduceIte,Nat.reduceEqDiff,Nat.reduceAdd,beq_self_eq_true];done));simp only [rE,rS,li,lo,reduceIte,Nat.reduceEqDiff,Nat.reduceAdd,Nat.reduceMul,Ze ZR Yd,ZF,ZD,Zv,YQ,Zs,X0,(k1.step u4).cells];exact rfl;exact rfl;(focus (simp only [Tri.gp,Zn,reduceIte,Nat.reduceEqDiff,Ze ZR Yd,ZF,ZD,Zv,YQ,Zs,X0,(k1.step u4).cells];exact rfl));(focus (simp [AV.beq,Ym,Ze ZR Yd,ZF,ZD,Zv,YQ,Zs,X0,(k1.step u4).cells];done)));exact Xt.nil)))
 replace k1:=k1.step u4
 replace k2:=k2.step u4
 replace k3:=k3.step u4
 have x4:=x3.trans u4
 (refine Zq ?_;(iterate 10 (apply ZW.later;kernel_rfl));refine ZW.nil ?_)
 cases m3:Wz 1 (s.drop a4) with
 | none =>
  have hno:rdB (s.drop a) = none:=by unfold rdB;rw [m1];dsimp only;rw [m2];dsimp only;rw [m3]
  rw [hno]
  simp only [YL]
  (apply ZY.callP (e:=5);kernel_rfl;simp only [li];exact rfl;(focus (simp only [rQ,Zb,li,lo,reduceIte,Nat.reduceEqDiff,Nat.reduceAdd,beq_self_eq_true];done));simp only [rE,rS,li,lo,reduceIte,Nat.reduceEqDiff,Nat.reduceAdd,Nat.reduceMul,Ze ZR Yd,ZF,ZD,Zv,YQ,Zs,X0,k1.cells];exact rfl;exact number_p _ p bv s a4 1 r4 (by omega) m3;rintro _ H5 ⟨rfl,u5⟩)
  exact XX.drawn ⟨rfl,x4.trans u5⟩
 | some qq =>
 obtain⟨ah,w3⟩:=qq
 (apply ZY.call (e:=5);kernel_rfl;simp only [li];exact rfl;(focus (simp only [rQ,Zb,li,lo,reduceIte,Nat.reduceEqDiff,Nat.reduceAdd,beq_self_eq_true];done));simp only [rE,rS,li,lo,reduceIte,Nat.reduceEqDiff,Nat.reduceAdd,Nat.reduceMul,Ze ZR Yd,ZF,ZD,Zv,YQ,Zs,X0,k1.cells];exact rfl;exact number_c _ p bv s a4 1 r4 (by omega) m3;rintro _ H5 ⟨rfl,u5,a5,rfl,r5⟩;refine⟨_,rfl,?_,?_⟩;(focus exact ZM (by kernel_rfl)))
 replace k1:=k1.step u5
 replace k2:=k2.step u5
 replace k3:=k3.step u5
 have x5:=x4.trans u5
 have hah:decide ((ah:Int) = 1) = decide (ah = 1):=by
  by_cases e:ah = 1
  ·subst e;rfl
  ·rw [decide_eq_false e,decide_eq_false (by omega)]
 (refine Zq ?_;(iterate 6 (apply ZW.later;kernel_rfl));(iterate 2 (apply ZW.pure;kernel_rfl;kernel_rfl;(focus ((simp only [rQ,Zb,li,lo,reduceIte,Nat.reduceEqDiff,Nat.reduceAdd,beq_self_eq_true];done)));simp only [rE,rS,li,lo,reduceIte,Nat.reduceEqDiff,Nat.reduceAdd,Nat.reduceMul,Ze ZR Yd,ZF,ZD,Zv,YQ,Zs,X0,hah];exact rfl;exact rfl));(iterate 2 (apply ZW.later;kernel_rfl));refine ZW.nil ?_)
 have hst:Zr Q 80 (H.next + 1 + 1) 0 (.agg [.int .i64 (cpu:Int),.nilslice,.int .i64 (dr:Int),.bool (decide (ah = 1))]) H5 = some ⟨H5.t.put (H.next + 1 + 1) (some (.cells 80 [.int .i64 (cpu:Int),.nilslice,.int .i64 (dr:Int),.bool (decide (ah = 1))] 0 false false)),H5.next⟩:=Z7 (x:=[.int .i64 (cpu:Int),.nilslice,.int .i64 (dr:Int),.bool (decide (ah = 1))]) k3.1 Zv rfl rfl rfl (Nat.le_refl _)
 (apply ZY.eff (e:=9);kernel_rfl;simp only [li];exact rfl;(focus (simp only [rQ,Zb,li,lo,reduceIte,Nat.reduceEqDiff,Nat.reduceAdd,beq_self_eq_true];done));simp only [rE,rQ,li,lo,reduceIte,Nat.reduceEqDiff,Nat.reduceAdd,Nat.reduceMul,AH.set,hst];exact rfl;exact rfl;(focus exact ZM (by kernel_rfl)))
 (refine Zq ?_;(iterate 10 (apply ZW.later;kernel_rfl));refine ZW.nil ?_)
 (apply ZY.all;kernel_rfl;kernel_rfl)
 have l1:=k3.2.1
 have x6:=x5.st (b:=H.next + 1 + 1) (by omega) (some (.cells 80 [.int .i64 (cpu:Int),.nilslice,.int .i64 (dr:Int),.bool (decide (ah = 1))] 0 false false))
 have r6:=hr.of x6 (a:=a5) (by show (Tri.put _ _ _).get _ = _;rw [Tri.gp,if_neg (by omega)];exact r5.pos) r5.le
 have l1':H.next + 1 + 1 < (⟨H5.t.put (H.next + 1 + 1) (some (.cells 80 [.int .i64 (cpu:Int),.nilslice,.int .i64 (dr:Int),.bool (decide (ah = 1))] 0 false false)),H5.next⟩:AH).next:=l1
 replace k1:=k1.put (b2:=H.next + 1 + 1) (o2:=some (.cells 80 [.int .i64 (cpu:Int),.nilslice,.int .i64 (dr:Int),.bool (decide (ah = 1))] 0 false false)) (by omega)
 replace k2:=k2.put (b2:=H.next + 1 + 1) (o2:=some (.cells 80 [.int .i64 (cpu:Int),.nilslice,.int .i64 (dr:Int),.bool (decide (ah = 1))] 0 false false)) (by omega)
 replace k3:Bx p (H.next + 1 + 1) (some (.cells 80 [.int .i64 (cpu:Int),.nilslice,.int .i64 (dr:Int),.bool (decide (ah = 1))] 0 false false)) ⟨H5.t.put (H.next + 1 + 1) (some (.cells 80 [.int .i64 (cpu:Int),.nilslice,.int .i64 (dr:Int),.bool (decide (ah = 1))] 0 false false)),H5.next⟩:=⟨by show (Tri.put _ _ _).get _ = _;rw [Tri.gp,if_pos rfl],l1,by omega⟩
 generalize (⟨H5.t.put (H.next + 1 + 1) (some (.cells 80 [.int .i64 (cpu:Int),.nilslice,.int .i64 (dr:Int),.bool (decide (ah = 1))] 0 false false)),H5.next⟩:AH) = H6 at *
 repeat (first|(apply Zh;exact rfl)|apply Zc|apply WO.nil|(apply Zl;exact rfl;simp only [rE,rS,li,lo,reduceIte,Nat.reduceEqDiff,Nat.reduceAdd,Nat.reduceMul,Ze ZR Yd,ZF,ZD,Zv,YQ,Zs,X0,k1.cells];exact rfl;exact rfl))
 cases m4:Wz 1000 (s.drop a5) with
 | none =>
  have hno:rdB (s.drop a) = none:=by unfold rdB;rw [m1];dsimp only;rw [m2];dsimp only;rw [m3];dsimp only;rw [m4]
  rw [hno]
  simp only [YL]
  (apply WO.callP;(focus (simp only [rQ,Zb,li,lo,reduceIte,Nat.reduceEqDiff,Nat.reduceAdd,beq_self_eq_true];done));simp only [rE,rS,li,lo,reduceIte,Nat.reduceEqDiff,Nat.reduceAdd,Nat.reduceMul,Ze ZR Yd,ZF,ZD,Zv,YQ,Zs,X0,k1.cells];exact rfl;exact number_p _ p bv s a5 1000 r6 (by omega) m4;rintro _ H7 ⟨rfl,u7⟩)
  exact⟨rfl,x6.trans u7⟩
 | some qq =>
 obtain⟨nr,w4⟩:=qq
 (apply WO.call;(focus (simp only [rQ,Zb,li,lo,reduceIte,Nat.reduceEqDiff,Nat.reduceAdd,beq_self_eq_true];done));simp only [rE,rS,li,lo,reduceIte,Nat.reduceEqDiff,Nat.reduceAdd,Nat.reduceMul,Ze ZR Yd,ZF,ZD,Zv,YQ,Zs,X0,k1.cells];exact rfl;exact number_c _ p bv s a5 1000 r6 (by omega) m4;rintro _ H7 ⟨rfl,u7,a7,rfl,r7⟩;refine⟨_,rfl,?_⟩)
 replace k1:=k1.step u7
 replace k2:=k2.step u7
 replace k3:=k3.step u7
 have x7:=x6.trans u7
 have l7:=Nat.lt_of_lt_of_le l1' u7.next
 have hnr:=(WT (fun c hc =>hr.byte c (List.mem_of_mem_drop hc)) m4).2
 have hbig:rdB (s.drop a) = match rdRs nr (s.drop a7) with
   | none =>none
   | some (l,s') =>if l.all oneR = true then some (⟨cpu,dr,ah,l⟩,s') else none:=by
  unfold rdB;rw [m1];dsimp only;rw [m2];dsimp only;rw [m3];dsimp only;rw [m4]
  rfl
 repeat (first|(apply Zh;exact rfl)|apply Zc|apply WO.nil|(apply Zl;exact rfl;simp only [rE,rS,li,lo,reduceIte,Nat.reduceEqDiff,Nat.reduceAdd,Nat.reduceMul,Ze ZR Yd,ZF,ZD,Zv,YQ,Zs,X0];exact rfl;exact rfl))
 refine Ys (fun m t Hc =>∃(ac:Nat) (rv:AV) (l:List WI),l.length + m = nr∧Y2 p H Hc∧Rd Hc p bv s ac∧Bx p H.next (some (.cells 125 [.ptr p 0] 0 false false)) Hc∧Bx p (H.next + 1) (some (.cells 80 [.int .i64 0,.nilslice,.int .i64 0,.bool false] 0 false false)) Hc∧Bx p (H.next + 1 + 1) (some (.cells 80 [.int .i64 (cpu:Int),rv,.int .i64 (dr:Int),.bool (decide (ah = 1))] 0 false false)) Hc∧H.next + 1 + 1 + 1≤Hc.next∧Xh 87 3 (H.next + 1 + 1 + 1) (PR (H.next + 1 + 1 + 1)) Hc rv (l.map ofR)∧rdRs nr (s.drop a7) = (rdRs m (s.drop ac)).map (fun q =>(l ++ q.1,q.2))∧t.get 1 = some (.ptr H.next 0)∧t.get 2 = some (.ptr (H.next + 1) 0)∧t.get 3 = some (.ptr (H.next + 1 + 1) 0)∧t.get 4 = some (.int .i64 (m:Int))) nr ?_ ?_
 ·refine⟨a7,.nilslice,[],by simp,x7,r7,k1,k2,k3,l7,Xh.nil _,by simp,?_,?_,?_,?_⟩
  all_goals simp [Tri.gp,Zn]
 rintro m t Hc ⟨ac,rv,l,hlm,xc,rc,c1,c2,c3,lc,own,hrec,t1,t2,t3,t4⟩ ih
 have hone:=own.sl.one
 have hsol:=own.sl.solid
 cases m with
 | zero =>
  have q1:decide ((0:Int) < ((0:Nat):Int)) = false:=rfl
  have hr0:rdRs nr (s.drop a7) = some (l,s.drop ac):=by
   rw [hrec]
   simp [rdRs]
  have hbytes:=fun (n:Nat) c (hc:c ∈ s.drop n) =>hr.byte c (List.mem_of_mem_drop hc)
  have b1:=(WT (hbytes a) m1).2
  have b2:=(WT (hbytes a3) m2).2
  have b3:=enc_getRs (hbytes a7) hr0
  rw [hr0] at hbig
  dsimp only at hbig
  have hok:okB (cpu:Int) (l.map ofR) (dr:Int) = l.all oneR:=by
   unfold okB
   rw [List.length_map]
   have e:((l.map ofR).any fun d =>!d.ok) = !l.all oneR:=by
    rw [List.any_map]
    cases hh:l.all oneR
    ·rw [Bool.not_false,List.any_eq_true]
     rw [← Bool.not_eq_true,List.all_eq_true] at hh
     simp only [Classical.not_forall] at hh
     obtain⟨y,hy,hny⟩:=hh
     refine⟨y,hy,?_⟩
     unfold oneR at hny
     simp only [decide_eq_true_eq] at hny
     have:(ofR y).ok = false:=by
      unfold Yz.ok vld ofR
      simp [show ¬ ((1:Int)≤(y.id:Int)) from by omega]
     simp [this]
    ·rw [Bool.not_true,List.any_eq_false]
     intro y hy
     have h1:=of_decide_eq_true (List.all_eq_true.1 hh y hy)
     have h2:=b3.2.2 y hy
     have:(ofR y).ok = true:=ofR_ok ⟨h1,h2.1,h2.2.1,h2.2.2⟩
     simp [this]
   rw [e]
   have e1:decide ((0:Int)≤(cpu:Int)) = true:=by simp
   have e2:decide ((cpu:Int) < 4) = true:=by simp;omega
   have e3:decide ((l.length:Int)≤1000) = true:=by simp;omega
   have e4:decide ((0:Int)≤(dr:Int)) = true:=by simp
   have e5:decide ((dr:Int)≤1099511627776) = true:=by simp;omega
   rw [e1,e2,e3,e4,e5,Bool.not_not]
   simp
  have hwh:∀H',H' = Hc→Fn Q L 54 [.agg [.int .i64 (cpu:Int),rv,.int .i64 (dr:Int),.bool (decide (ah = 1))]] H' (fun v H'' =>v = .bool (l.all oneR)∧H'' = H'):=fun H' e =>by
   subst e
   rw [← hok]
   exact whole_c _ _ _ _ _ _ (own_recs own).at (by rw [List.length_map];omega)
  repeat (first|(apply Zh;exact rfl)|apply Zc|apply WO.nil|(apply WO.op;(focus (simp only [rQ,Zb,li,lo,reduceIte,Nat.reduceEqDiff,Nat.reduceAdd,beq_self_eq_true,q1];done));simp only [rE,rS,li,lo,reduceIte,Nat.reduceEqDiff,Nat.reduceAdd,Nat.reduceMul,t1,t2,t3,t4,q1];exact rfl;exact rfl)|(apply WO.unwanted;(focus (simp only [rQ,Zb,li,lo,reduceIte,Nat.reduceEqDiff,Nat.reduceAdd,beq_self_eq_true,q1];done));exact rfl))
  (first|(apply WF.condT;(focus (simp only [Zg,Zd,Tri.gp,Zn,Bool.not_true,Bool.not_false,reduceIte,Nat.reduceEqDiff,q1];done)))|(apply WF.condF;(focus (simp only [Zg,Zd,Tri.gp,Zn,Bool.not_true,Bool.not_false,reduceIte,Nat.reduceEqDiff,q1];done))))
  repeat (first|(apply Zh;exact rfl)|apply Zc|apply WO.nil|(apply Zl;exact rfl;simp only [rE,rS,li,lo,reduceIte,Nat.reduceEqDiff,Nat.reduceAdd,Nat.reduceMul,t1,t2,t3,t4,c3.cells,Ze ZT Zv,cut4z hsol,cu54];exact rfl;exact rfl))
  (apply WO.call;(focus (simp only [rQ,Zb,li,lo,reduceIte,Nat.reduceEqDiff,Nat.reduceAdd,beq_self_eq_true];done));simp only [rE,rS,li,lo,reduceIte,Nat.reduceEqDiff,Nat.reduceAdd,Nat.reduceMul,t1,t2,t3,t4,c3.cells,Ze ZT Zv,cut4z hsol,cu54];exact rfl;exact hwh _ rfl;rintro _ Hc ⟨rfl,rfl⟩;refine⟨_,rfl,?_⟩)
  cases ho:l.all oneR
  ·have hno:rdB (s.drop a) = none:=by rw [hbig,ho];rfl
   rw [hno]
   simp only [YL]
   repeat (first|(apply Zh;exact rfl)|apply Zc|apply WO.nil|(apply Zl;exact rfl;simp only [rE,rS,li,lo,reduceIte,Nat.reduceEqDiff,Nat.reduceAdd,Nat.reduceMul,t1];exact rfl;exact rfl))
   (first|(apply WF.condT;(focus (simp only [Zg,Zd,Tri.gp,Zn,Bool.not_true,Bool.not_false,reduceIte,Nat.reduceEqDiff];done)))|(apply WF.condF;(focus (simp only [Zg,Zd,Tri.gp,Zn,Bool.not_true,Bool.not_false,reduceIte,Nat.reduceEqDiff];done))))
   repeat (first|(apply Zh;exact rfl)|apply Zc|apply WO.nil|(apply Zl;exact rfl;simp only [rE,rS,li,lo,reduceIte,Nat.reduceEqDiff,Nat.reduceAdd,Nat.reduceMul,XF];exact rfl;exact rfl))
   (apply WO.panic;(focus (simp only [rQ,Zb,li,lo,reduceIte,Nat.reduceEqDiff,Nat.reduceAdd,beq_self_eq_true];done));simp only [rE,rS,li,lo,reduceIte,Nat.reduceEqDiff,Nat.reduceAdd,Nat.reduceMul,XF,WG];exact rfl)
   exact⟨rfl,xc⟩
  ·have hyes:rdB (s.drop a) = some (⟨cpu,dr,ah,l⟩,s.drop ac):=by rw [hbig,ho];rfl
   rw [hyes]
   simp only [YL]
   have hst2:Zr Q 80 (H.next + 1) 0 (.agg [.int .i64 (cpu:Int),rv,.int .i64 (dr:Int),.bool (decide (ah = 1))]) Hc = some ⟨Hc.t.put (H.next + 1) (some (.cells 80 [.int .i64 (cpu:Int),rv,.int .i64 (dr:Int),.bool (decide (ah = 1))] 0 false false)),Hc.next⟩:=Z7 (x:=[.int .i64 (cpu:Int),rv,.int .i64 (dr:Int),.bool (decide (ah = 1))]) c2.1 Zv rfl rfl (by simp [hone,one_int,one_bool]) (Nat.le_refl _)
   repeat (first|(apply Zh;exact rfl)|apply Zc|apply WO.nil|(apply Zl;exact rfl;simp only [rE,rS,li,lo,reduceIte,Nat.reduceEqDiff,Nat.reduceAdd,Nat.reduceMul,t1];exact rfl;exact rfl))
   (first|(apply WF.condT;(focus (simp only [Zg,Zd,Tri.gp,Zn,Bool.not_true,Bool.not_false,reduceIte,Nat.reduceEqDiff];done)))|(apply WF.condF;(focus (simp only [Zg,Zd,Tri.gp,Zn,Bool.not_true,Bool.not_false,reduceIte,Nat.reduceEqDiff];done))))
   repeat (first|(apply Zh;exact rfl)|apply Zc|apply WO.nil|(apply Zl;exact rfl;simp only [rE,rQ,li,lo,reduceIte,Nat.reduceEqDiff,Nat.reduceAdd,Nat.reduceMul,AH.set,t1,t2,t3,t4,c3.cells,Ze ZT Zv,cut4z hsol,hst2];exact rfl;exact rfl))
   (apply WF.ret;(focus (simp only [Zi,Tri.gp,Zn,ZL,reduceIte,Nat.reduceEqDiff,rs92,t2,Ze ZT Zv,ZK,cut4z hsol,Option.map_some];exact rfl)))
   refine⟨rv,rfl,((own_recs own).ext ((Xo.refl _ Hc).st (by omega) _)).mono (by omega),xc.st (by omega) _,ac,rfl,hr.of (xc.st (by omega) _) ?_ rc.le⟩
   show (Tri.put _ _ _).get _ = _
   rw [Tri.gp,if_neg (by omega)]
   exact rc.pos
 | succ m =>
 have q1:decide ((0:Int) < ((m + 1:Nat):Int)) = true:=decide_eq_true (by omega)
 have wm:IntKind.i64.wrap (((m + 1:Nat):Int) - 1) = (m:Int):=by rw [Go.Ev.w64 (by omega) (by omega)];omega
 have hfail:rdR (s.drop ac) = none→rdB (s.drop a) = none:=fun e =>by
  rw [hbig,hrec,rdRs,e]
  rfl
 have lp:=rc.lt
 have hpc:p < Hc.next:=lp
 have xc1:=xc.next
 repeat (first|(apply Zh;exact rfl)|apply Zc|apply WO.nil|(apply WO.op;(focus (simp only [rQ,Zb,li,lo,reduceIte,Nat.reduceEqDiff,Nat.reduceAdd,beq_self_eq_true,q1];done));simp only [rE,rS,li,lo,reduceIte,Nat.reduceEqDiff,Nat.reduceAdd,Nat.reduceMul,t1,t2,t3,t4,q1];exact rfl;exact rfl)|(apply WO.unwanted;(focus (simp only [rQ,Zb,li,lo,reduceIte,Nat.reduceEqDiff,Nat.reduceAdd,beq_self_eq_true,q1];done));exact rfl))
 (first|(apply WF.condT;(focus (simp only [Zg,Zd,Tri.gp,Zn,Bool.not_true,Bool.not_false,reduceIte,Nat.reduceEqDiff,q1];done)))|(apply WF.condF;(focus (simp only [Zg,Zd,Tri.gp,Zn,Bool.not_true,Bool.not_false,reduceIte,Nat.reduceEqDiff,q1];done))))
 repeat (first|(apply Zh;exact rfl)|apply Zc|apply WO.nil|(apply Zl;exact rfl;simp only [rE,rS,li,lo,reduceIte,Nat.reduceEqDiff,Nat.reduceAdd,Nat.reduceMul,t1,t2,t3,t4];exact rfl;exact rfl))
 (apply Yw;kernel_rfl;kernel_rfl)
 (refine Zq ?_;(iterate 1 (apply ZW.load;kernel_rfl;kernel_rfl;(focus ((simp only [rQ,Zb,li,lo,reduceIte,Nat.reduceEqDiff,Nat.reduceAdd,beq_self_eq_true];done)));simp only [rE,rS,li,lo,reduceIte,Nat.reduceEqDiff,Nat.reduceAdd,Nat.reduceMul,Ze ZR Yd,Za ZB,ZF,Z4,Zz,ZU,Z1,YQ,XJ,Zs,Wh,t1,t2,t3,t4,c1.cells];exact rfl;exact rfl));(iterate 1 (apply ZW.later;kernel_rfl));(iterate 1 (apply ZW.load;kernel_rfl;kernel_rfl;(focus ((simp only [rQ,Zb,li,lo,reduceIte,Nat.reduceEqDiff,Nat.reduceAdd,beq_self_eq_true];done)));simp only [rE,rS,li,lo,reduceIte,Nat.reduceEqDiff,Nat.reduceAdd,Nat.reduceMul,Ze ZR Yd,Za ZB,ZF,Z4,Zz,ZU,Z1,YQ,XJ,Zs,Wh,t1,t2,t3,t4,c1.cells];exact rfl;exact rfl));(iterate 2 (apply ZW.later;kernel_rfl));(iterate 1 (apply ZW.new;kernel_rfl;kernel_rfl;(focus ((simp only [rQ,Zb,li,lo,reduceIte,Nat.reduceEqDiff,Nat.reduceAdd,beq_self_eq_true];done)));simp only [rE,rS,li,lo,reduceIte,Nat.reduceEqDiff,Nat.reduceAdd,Nat.reduceMul,Ze ZR Yd,Za ZB,ZF,Z4,Zz,ZU,Z1,YQ,XJ,Zs,Wh,t1,t2,t3,t4,c1.cells];exact rfl;simp only [rE,rS,li,lo,reduceIte,Nat.reduceEqDiff,Nat.reduceAdd,Nat.reduceMul,Ze ZR Yd,Za ZB,ZF,Z4,Zz,ZU,Z1,YQ,XJ,Zs,Wh,t1,t2,t3,t4,c1.cells];exact rfl;exact rfl));(iterate 1 (apply ZW.later;kernel_rfl));refine ZW.nil ?_)
 have d1:=c1.box (o2:=some (.cells 87 [.int .i64 0,.int .i64 0,.nilslice] 0 false false))
 have d2:=c2.box (o2:=some (.cells 87 [.int .i64 0,.int .i64 0,.nilslice] 0 false false))
 have d3:=c3.box (o2:=some (.cells 87 [.int .i64 0,.int .i64 0,.nilslice] 0 false false))
 have d5:Bx p Hc.next (some (.cells 87 [.int .i64 0,.int .i64 0,.nilslice] 0 false false)) ⟨Hc.t.put Hc.next (some (.cells 87 [.int .i64 0,.int .i64 0,.nilslice] 0 false false)),Hc.next + 1⟩:=⟨by show (Tri.put _ _ _).get _ = _;rw [Tri.gp,if_pos rfl],Nat.lt_succ_self _,by omega⟩
 have rd:=rc.up (Up.box Hc (some (.cells 87 [.int .i64 0,.int .i64 0,.nilslice] 0 false false)))
 have xd:=xc.trans (Y2.of (Up.box Hc (some (.cells 87 [.int .i64 0,.int .i64 0,.nilslice] 0 false false))))
 have ed:Xo (H.next + 1 + 1 + 1) Hc ⟨Hc.t.put Hc.next (some (.cells 87 [.int .i64 0,.int .i64 0,.nilslice] 0 false false)),Hc.next + 1⟩:=Xo.of (Up.box Hc _)
 generalize (⟨Hc.t.put Hc.next (some (.cells 87 [.int .i64 0,.int .i64 0,.nilslice] 0 false false)),Hc.next + 1⟩:AH) = Hd at *
 cases i1:Wz 1073741824 (s.drop ac) with
 | none =>
  have hno:=hfail (by unfold rdR;rw [i1])
  rw [hno]
  simp only [YL]
  (apply ZY.callP (e:=1);kernel_rfl;simp only [li];exact rfl;(focus (simp only [rQ,Zb,li,lo,reduceIte,Nat.reduceEqDiff,Nat.reduceAdd,beq_self_eq_true];done));simp only [rE,rS,li,lo,reduceIte,Nat.reduceEqDiff,Nat.reduceAdd,Nat.reduceMul,Ze ZR Yd,Za ZB,ZF,Z4,Zz,ZU,Z1,YQ,XJ,Zs,Wh,t1,t2,t3,t4];exact rfl;exact number_p _ p bv s ac 1073741824 rd (by omega) i1;rintro _ He ⟨rfl,ue⟩)
  exact XX.drawn ⟨rfl,xd.trans ue⟩
 | some qq =>
 obtain⟨id,w5⟩:=qq
 (apply ZY.call (e:=1);kernel_rfl;simp only [li];exact rfl;(focus (simp only [rQ,Zb,li,lo,reduceIte,Nat.reduceEqDiff,Nat.reduceAdd,beq_self_eq_true];done));simp only [rE,rS,li,lo,reduceIte,Nat.reduceEqDiff,Nat.reduceAdd,Nat.reduceMul,Ze ZR Yd,Za ZB,ZF,Z4,Zz,ZU,Z1,YQ,XJ,Zs,Wh,t1,t2,t3,t4];exact rfl;exact number_c _ p bv s ac 1073741824 rd (by omega) i1;rintro _ He ⟨rfl,ue,ae,rfl,re⟩;refine⟨_,rfl,?_,?_⟩;(focus (apply Yf (R:=[2]);kernel_rfl;(apply Xt.cons;simp only [li];exact rfl;(focus (simp only [rQ,Zb,li,lo,reduceIte,Nat.reduceEqDiff,Nat.reduceAdd,beq_self_eq_true];done));simp only [rE,rS,li,lo,reduceIte,Nat.reduceEqDiff,Nat.reduceAdd,Nat.reduceMul,Ze ZR Yd,Za ZB,ZF,Z4,Zz,ZU,Z1,YQ,XJ,Zs,Wh,t1,t2,t3,t4,(d1.step ue).cells];exact rfl;exact rfl;(focus (simp only [Tri.gp,Zn,reduceIte,Nat.reduceEqDiff,Ze ZR Yd,Za ZB,ZF,Z4,Zz,ZU,Z1,YQ,XJ,Zs,Wh,t1,t2,t3,t4,(d1.step ue).cells];exact rfl));(focus (simp [AV.beq,Ym,Ze ZR Yd,Za ZB,ZF,Z4,Zz,ZU,Z1,YQ,XJ,Zs,Wh,t1,t2,t3,t4,(d1.step ue).cells];done)));exact Xt.nil)))
 replace d1:=d1.step ue
 replace d2:=d2.step ue
 replace d3:=d3.step ue
 replace d5:=d5.step ue
 have xe:=xd.trans ue
 have ee:=ed.trans (Xo.upx (lo:=H.next + 1 + 1 + 1) ue (by omega))
 (refine Zq ?_;(iterate 7 (apply ZW.later;kernel_rfl));refine ZW.nil ?_)
 cases i2:Wz 1099511627776 (s.drop ae) with
 | none =>
  have hno:=hfail (by unfold rdR;rw [i1];dsimp only;rw [i2])
  rw [hno]
  simp only [YL]
  (apply ZY.callP (e:=3);kernel_rfl;simp only [li];exact rfl;(focus (simp only [rQ,Zb,li,lo,reduceIte,Nat.reduceEqDiff,Nat.reduceAdd,beq_self_eq_true];done));simp only [rE,rS,li,lo,reduceIte,Nat.reduceEqDiff,Nat.reduceAdd,Nat.reduceMul,Ze ZR Yd,Za ZB,ZF,Z4,Zz,ZU,Z1,YQ,XJ,Zs,Wh,t1,t2,t3,t4,d1.cells];exact rfl;exact number_p _ p bv s ae 1099511627776 re (by omega) i2;rintro _ Hf ⟨rfl,uf⟩)
  exact XX.drawn ⟨rfl,xe.trans uf⟩
 | some qq =>
 obtain⟨tm,w6⟩:=qq
 (apply ZY.call (e:=3);kernel_rfl;simp only [li];exact rfl;(focus (simp only [rQ,Zb,li,lo,reduceIte,Nat.reduceEqDiff,Nat.reduceAdd,beq_self_eq_true];done));simp only [rE,rS,li,lo,reduceIte,Nat.reduceEqDiff,Nat.reduceAdd,Nat.reduceMul,Ze ZR Yd,Za ZB,ZF,Z4,Zz,ZU,Z1,YQ,XJ,Zs,Wh,t1,t2,t3,t4,d1.cells];exact rfl;exact number_c _ p bv s ae 1099511627776 re (by omega) i2;rintro _ Hf ⟨rfl,uf,af,rfl,rf⟩;refine⟨_,rfl,?_,?_⟩;(focus exact ZM (by kernel_rfl)))
 replace d1:=d1.step uf
 replace d2:=d2.step uf
 replace d3:=d3.step uf
 replace d5:=d5.step uf
 have xf:=xe.trans uf
 have ef:=ee.trans (Xo.upx (lo:=H.next + 1 + 1 + 1) uf (by omega))
 (refine Zq ?_;(iterate 4 (apply ZW.later;kernel_rfl));(iterate 1 (apply ZW.pure;kernel_rfl;kernel_rfl;(focus ((simp only [rQ,Zb,li,lo,reduceIte,Nat.reduceEqDiff,Nat.reduceAdd,beq_self_eq_true];done)));simp only [rE,rS,li,lo,reduceIte,Nat.reduceEqDiff,Nat.reduceAdd,Nat.reduceMul,Ze ZR Yd,Za ZB,ZF,Z4,Zz,ZU,Z1,YQ,XJ,Zs,Wh,t1,t2,t3,t4];exact rfl;exact rfl));(iterate 2 (apply ZW.later;kernel_rfl));refine ZW.nil ?_)
 have hst5:Zr Q 87 Hc.next 0 (.agg [.int .i64 (id:Int),.int .i64 (tm:Int),.nilslice]) Hf = some ⟨Hf.t.put Hc.next (some (.cells 87 [.int .i64 (id:Int),.int .i64 (tm:Int),.nilslice] 0 false false)),Hf.next⟩:=Z7 (x:=[.int .i64 (id:Int),.int .i64 (tm:Int),.nilslice]) d5.1 Z1 rfl rfl rfl (Nat.le_refl _)
 (apply ZY.eff (e:=6);kernel_rfl;simp only [li];exact rfl;(focus (simp only [rQ,Zb,li,lo,reduceIte,Nat.reduceEqDiff,Nat.reduceAdd,beq_self_eq_true];done));simp only [rE,rQ,li,lo,reduceIte,Nat.reduceEqDiff,Nat.reduceAdd,Nat.reduceMul,AH.set,hst5];exact rfl;exact rfl;(focus exact ZM (by kernel_rfl)))
 (refine Zq ?_;(iterate 7 (apply ZW.later;kernel_rfl));refine ZW.nil ?_)
 (apply ZY.all;kernel_rfl;kernel_rfl)
 have xg:=xf.st (b:=Hc.next) xc1 (some (.cells 87 [.int .i64 (id:Int),.int .i64 (tm:Int),.nilslice] 0 false false))
 have eg:=ef.st (b:=Hc.next) (.inr (Nat.le_refl _)) (some (.cells 87 [.int .i64 (id:Int),.int .i64 (tm:Int),.nilslice] 0 false false))
 have rg:=hr.of xg (a:=af) (by show (Tri.put _ _ _).get _ = _;rw [Tri.gp,if_neg (by omega)];exact rf.pos) rf.le
 have cl1:=c1.2.1
 have cl2:=c2.2.1
 have cl3:=c3.2.1
 replace d1:=d1.put (b2:=Hc.next) (o2:=some (.cells 87 [.int .i64 (id:Int),.int .i64 (tm:Int),.nilslice] 0 false false)) (by omega)
 replace d2:=d2.put (b2:=Hc.next) (o2:=some (.cells 87 [.int .i64 (id:Int),.int .i64 (tm:Int),.nilslice] 0 false false)) (by omega)
 replace d3:=d3.put (b2:=Hc.next) (o2:=some (.cells 87 [.int .i64 (id:Int),.int .i64 (tm:Int),.nilslice] 0 false false)) (by omega)
 replace d5:Bx p Hc.next (some (.cells 87 [.int .i64 (id:Int),.int .i64 (tm:Int),.nilslice] 0 false false)) ⟨Hf.t.put Hc.next (some (.cells 87 [.int .i64 (id:Int),.int .i64 (tm:Int),.nilslice] 0 false false)),Hf.next⟩:=⟨by show (Tri.put _ _ _).get _ = _;rw [Tri.gp,if_pos rfl],d5.2.1,by omega⟩
 generalize (⟨Hf.t.put Hc.next (some (.cells 87 [.int .i64 (id:Int),.int .i64 (tm:Int),.nilslice] 0 false false)),Hf.next⟩:AH) = Hg at *
 repeat (first|(apply Zh;exact rfl)|apply Zc|apply WO.nil|(apply Zl;exact rfl;simp only [rE,rS,li,lo,reduceIte,Nat.reduceEqDiff,Nat.reduceAdd,Nat.reduceMul,t1];exact rfl;exact rfl))
 (apply Yw;kernel_rfl;kernel_rfl)
 (refine Zq ?_;(iterate 3 (first|(apply ZW.pure;kernel_rfl;kernel_rfl;(focus ((simp only [rQ,Zb,li,lo,reduceIte,Nat.reduceEqDiff,Nat.reduceAdd,beq_self_eq_true];done)));simp only [rE,rS,li,lo,reduceIte,Nat.reduceEqDiff,Nat.reduceAdd,Nat.reduceMul,Ze ZR Yd,Za ZB,ZF,Z4,Zz,ZU,Z1,YQ,XJ,Zs,Wh,t1,t2,t3,t4,d1.cells];exact rfl;exact rfl)|(apply ZW.load;kernel_rfl;kernel_rfl;(focus ((simp only [rQ,Zb,li,lo,reduceIte,Nat.reduceEqDiff,Nat.reduceAdd,beq_self_eq_true];done)));simp only [rE,rS,li,lo,reduceIte,Nat.reduceEqDiff,Nat.reduceAdd,Nat.reduceMul,Ze ZR Yd,Za ZB,ZF,Z4,Zz,ZU,Z1,YQ,XJ,Zs,Wh,t1,t2,t3,t4,d1.cells];exact rfl;exact rfl)));(iterate 4 (apply ZW.later;kernel_rfl));refine ZW.nil ?_)
 cases i3:Wz 256 (s.drop af) with
 | none =>
  have hno:=hfail (by unfold rdR;rw [i1];dsimp only;rw [i2];dsimp only;rw [i3])
  rw [hno]
  simp only [YL]
  (apply ZY.callP (e:=3);kernel_rfl;simp only [li];exact rfl;(focus (simp only [rQ,Zb,li,lo,reduceIte,Nat.reduceEqDiff,Nat.reduceAdd,beq_self_eq_true];done));simp only [rE,rS,li,lo,reduceIte,Nat.reduceEqDiff,Nat.reduceAdd,Nat.reduceMul,Ze ZR Yd,Za ZB,ZF,Z4,Zz,ZU,Z1,YQ,XJ,Zs,Wh,t1,t2,t3,t4];exact rfl;exact number_p _ p bv s af 256 rg (by omega) i3;rintro _ Hh ⟨rfl,uh⟩)
  exact XX.drawn ⟨rfl,xg.trans uh⟩
 | some qq =>
 obtain⟨nd,w7⟩:=qq
 (apply ZY.call (e:=3);kernel_rfl;simp only [li];exact rfl;(focus (simp only [rQ,Zb,li,lo,reduceIte,Nat.reduceEqDiff,Nat.reduceAdd,beq_self_eq_true];done));simp only [rE,rS,li,lo,reduceIte,Nat.reduceEqDiff,Nat.reduceAdd,Nat.reduceMul,Ze ZR Yd,Za ZB,ZF,Z4,Zz,ZU,Z1,YQ,XJ,Zs,Wh,t1,t2,t3,t4];exact rfl;exact number_c _ p bv s af 256 rg (by omega) i3;rintro _ Hh ⟨rfl,uh,ai,rfl,rh⟩;refine⟨_,rfl,?_,?_⟩;(focus (apply Yf (R:=[1]);kernel_rfl;(apply Xt.cons;simp only [li];exact rfl;(focus (simp only [rQ,Zb,li,lo,reduceIte,Nat.reduceEqDiff,Nat.reduceAdd,beq_self_eq_true];done));simp only [rE,rS,li,lo,reduceIte,Nat.reduceEqDiff,Nat.reduceAdd,Nat.reduceMul,Ze ZR Yd,Za ZB,ZF,Z4,Zz,ZU,Z1,YQ,XJ,Zs,Wh,t1,t2,t3,t4,(d1.step uh).cells];exact rfl;exact rfl;(focus (simp only [Tri.gp,Zn,reduceIte,Nat.reduceEqDiff,Ze ZR Yd,Za ZB,ZF,Z4,Zz,ZU,Z1,YQ,XJ,Zs,Wh,t1,t2,t3,t4,(d1.step uh).cells];exact rfl));(focus (simp [AV.beq,Ym,Ze ZR Yd,Za ZB,ZF,Z4,Zz,ZU,Z1,YQ,XJ,Zs,Wh,t1,t2,t3,t4,(d1.step uh).cells];done)));exact Xt.nil)))
 replace d1:=d1.step uh
 replace d2:=d2.step uh
 replace d3:=d3.step uh
 replace d5:=d5.step uh
 have hhc:Hc.next < Hh.next:=d5.2.1
 have xh:=xg.trans uh
 have eh:=eg.trans (Xo.upx (lo:=H.next + 1 + 1 + 1) uh (by omega))
 (refine Zq ?_;(iterate 7 (apply ZW.later;kernel_rfl));refine ZW.nil ?_)
 have hai:=rh.le
 by_cases hnd:ai + nd≤s.length
 rotate_left
 ·have hno:=hfail (by
   unfold rdR;rw [i1];dsimp only;rw [i2];dsimp only;rw [i3];dsimp only
   rw [if_neg (by rw [List.length_drop];omega)])
  rw [hno]
  simp only [YL]
  (apply ZY.callP (e:=4);kernel_rfl;simp only [li];exact rfl;(focus (simp only [rQ,Zb,li,lo,reduceIte,Nat.reduceEqDiff,Nat.reduceAdd,beq_self_eq_true];done));simp only [rE,rS,li,lo,reduceIte,Nat.reduceEqDiff,Nat.reduceAdd,Nat.reduceMul,Ze ZR Yd,Za ZB,ZF,Z4,Zz,ZU,Z1,YQ,XJ,Zs,Wh,t1,t2,t3,t4];exact rfl;exact take_p _ p bv s ai nd rh (by omega);rintro _ Hi ⟨rfl,rfl⟩)
  exact XX.drawn ⟨rfl,xh⟩
 have hR:rdR (s.drop ac) = some (⟨id,tm,(s.drop ai).take nd⟩,s.drop (ai + nd)):=by
  unfold rdR;rw [i1];dsimp only;rw [i2];dsimp only;rw [i3];dsimp only
  rw [if_pos (by rw [List.length_drop];omega),List.drop_drop]
 (apply ZY.call (e:=4);kernel_rfl;simp only [li];exact rfl;(focus (simp only [rQ,Zb,li,lo,reduceIte,Nat.reduceEqDiff,Nat.reduceAdd,beq_self_eq_true];done));simp only [rE,rS,li,lo,reduceIte,Nat.reduceEqDiff,Nat.reduceAdd,Nat.reduceMul,Ze ZR Yd,Za ZB,ZF,Z4,Zz,ZU,Z1,YQ,XJ,Zs,Wh,t1,t2,t3,t4];exact rfl;exact take_c _ p bv s ai nd rh hnd;rintro dv Hi ⟨hfr,ri,ui⟩;refine⟨_,rfl,?_,?_⟩;(focus exact ZM (by kernel_rfl)))
 replace d1:=d1.step ui
 replace d2:=d2.step ui
 replace d3:=d3.step ui
 replace d5:=d5.step ui
 have xi:=xh.trans ui
 have ei:=eh.trans (Xo.upx (lo:=H.next + 1 + 1 + 1) ui (by omega))
 have hhn:H.next + 1 + 1 + 1≤Hh.next:=Nat.le_trans lc eh.next
 obtain⟨hdf,hdr⟩:=fresh_data hfr (H0:=H) (H.next + 1 + 1 + 1) hhn
 have hdsl:=hdf.1
 have hdone:=hdsl.one
 have hdsol:=hdsl.solid
 (refine Zq ?_;(iterate 5 (apply ZW.later;kernel_rfl));(iterate 1 (apply ZW.pure;kernel_rfl;kernel_rfl;(focus ((simp only [rQ,Zb,li,lo,reduceIte,Nat.reduceEqDiff,Nat.reduceAdd,beq_self_eq_true];done)));simp only [rE,rS,li,lo,reduceIte,Nat.reduceEqDiff,Nat.reduceAdd,Nat.reduceMul,Ze ZR Yd,Za ZB,ZF,Z4,Zz,ZU,Z1,YQ,XJ,Zs,Wh,t1,t2,t3,t4];exact rfl;exact rfl));(iterate 1 (apply ZW.later;kernel_rfl));refine ZW.nil ?_)
 have hst6:Zr Q 35 Hc.next 2 dv Hi = some ⟨Hi.t.put Hc.next (some (.cells 87 [.int .i64 (id:Int),.int .i64 (tm:Int),dv] 0 false false)),Hi.next⟩:=Z7 (n:=1) (x:=[dv]) d5.1 sz35 (SL.cells' hdsl) rfl (by simp [hdone]) (Nat.le_refl 3)
 (apply ZY.eff (e:=6);kernel_rfl;simp only [li];exact rfl;(focus (simp only [rQ,Zb,li,lo,reduceIte,Nat.reduceEqDiff,Nat.reduceAdd,beq_self_eq_true];done));simp only [rE,rQ,li,lo,reduceIte,Nat.reduceEqDiff,Nat.reduceAdd,Nat.reduceMul,AH.set,hst6];exact rfl;exact rfl;(focus exact ZM (by kernel_rfl)))
 (refine Zq ?_;(iterate 7 (apply ZW.later;kernel_rfl));refine ZW.nil ?_)
 (apply ZY.all;kernel_rfl;kernel_rfl)
 have xj:=xi.st (b:=Hc.next) xc1 (some (.cells 87 [.int .i64 (id:Int),.int .i64 (tm:Int),dv] 0 false false))
 have ej:=ei.st (b:=Hc.next) (.inr (Nat.le_refl _)) (some (.cells 87 [.int .i64 (id:Int),.int .i64 (tm:Int),dv] 0 false false))
 have rj:=hr.of xj (a:=ai + nd) (by show (Tri.put _ _ _).get _ = _;rw [Tri.gp,if_neg (by omega)];exact ri.pos) ri.le
 replace d1:=d1.put (b2:=Hc.next) (o2:=some (.cells 87 [.int .i64 (id:Int),.int .i64 (tm:Int),dv] 0 false false)) (by omega)
 replace d2:=d2.put (b2:=Hc.next) (o2:=some (.cells 87 [.int .i64 (id:Int),.int .i64 (tm:Int),dv] 0 false false)) (by omega)
 replace d3:=d3.put (b2:=Hc.next) (o2:=some (.cells 87 [.int .i64 (id:Int),.int .i64 (tm:Int),dv] 0 false false)) (by omega)
 replace d5:Bx p Hc.next (some (.cells 87 [.int .i64 (id:Int),.int .i64 (tm:Int),dv] 0 false false)) ⟨Hi.t.put Hc.next (some (.cells 87 [.int .i64 (id:Int),.int .i64 (tm:Int),dv] 0 false false)),Hi.next⟩:=⟨by show (Tri.put _ _ _).get _ = _;rw [Tri.gp,if_pos rfl],d5.2.1,by omega⟩
 have hdj:Xa (H.next + 1 + 1 + 1) ⟨Hi.t.put Hc.next (some (.cells 87 [.int .i64 (id:Int),.int .i64 (tm:Int),dv] 0 false false)),Hi.next⟩ dv (Xw ((s.drop ai).take nd)) :=
  fresh_keep hfr hhn (Nat.le_refl _) fun b hb =>by show (Hi.t.put _ _).get _ = _;rw [Tri.gp,if_neg (by omega)]
 have hdk:∀b,b < Hc.next→Xa (H.next + 1 + 1 + 1) (rmB ⟨Hi.t.put Hc.next (some (.cells 87 [.int .i64 (id:Int),.int .i64 (tm:Int),dv] 0 false false)),Hi.next⟩ b) dv (Xw ((s.drop ai).take nd)):=fun b2 hb2 =>
  fresh_keep hfr hhn (Nat.le_refl _) fun b hb =>by unfold rmB;show ((Hi.t.put _ _).put _ _).get _ = _;rw [Tri.gp,if_neg (by omega),Tri.gp,if_neg (by omega)]
 generalize (⟨Hi.t.put Hc.next (some (.cells 87 [.int .i64 (id:Int),.int .i64 (tm:Int),dv] 0 false false)),Hi.next⟩:AH) = Hj at *
 have hown:=Xh.ext (PE:=PR (H.next + 1 + 1 + 1)) (fun u h =>PR.ext u h) own ej
 have hlj:H.next + 1 + 1 + 1≤Hj.next:=Nat.le_trans lc ej.next
 obtain⟨rv',Hk,happ,own',ub,hnb⟩:=Xh.push (PE:=PR (H.next + 1 + 1 + 1)) app78i (fun u h =>PR.ext u h) hown hlj [.int .i64 (id:Int),.int .i64 (tm:Int),dv] (ofR ⟨id,tm,(s.drop ai).take nd⟩) rfl (by simp [hdone,one_int]) (by simp [hdsol,Wm]) ⟨dv,rfl,hdj⟩ (fun b e =>⟨dv,rfl,hdk b (own.blk e).2⟩) (by rw [List.length_map];omega)
 have hrb:∀b,Xi rv = some b→H.next + 1 + 1 + 1≤b:=fun b e =>(own.blk e).1
 replace d1:=d1.upB ub (fun e =>by have:=hrb _ e;omega)
 replace d2:=d2.upB ub (fun e =>by have:=hrb _ e;omega)
 have d3k:=d3.upB ub (fun e =>by have:=hrb _ e;omega)
 have xk:=xj.upB ub (fun b e =>by have:=hrb b e;omega)
 have hpk:Hk.t.get p = some (.cells 122 [bv,.int .i64 ((ai + nd:Nat):Int)] 0 false false):=by
  rw [ub.old p rj.lt (fun e =>by have:=hrb _ e;omega)]
  exact rj.pos
 have hone':=own'.sl.one
 have hst7:Zr Q 78 (H.next + 1 + 1) 1 rv' Hk = some ⟨Hk.t.put (H.next + 1 + 1) (some (.cells 80 [.int .i64 (cpu:Int),rv',.int .i64 (dr:Int),.bool (decide (ah = 1))] 0 false false)),Hk.next⟩:=Z7 (n:=1) (x:=[rv']) d3k.1 sz78 (SL.cells' own'.sl) rfl (by simp [hone']) (by simp)
 repeat (first|(apply Zh;exact rfl)|apply Zc|apply WO.nil|(apply Zl;exact rfl;simp only [rE,rQ,li,lo,reduceIte,Nat.reduceEqDiff,Nat.reduceAdd,Nat.reduceMul,AH.set,Ze ZR Yd,Za ZB,ZF,Z4,Zz,ZU,Z1,YQ,XJ,Zs,Wh,t1,t2,t3,t4,d3.cells,Zp,Za Zw,hone,hsol,Ze Yi Z1,d5.cells,cut3s hdsol,bs78y,mkRY_agg,hdone,happ,hst7,wm];exact rfl;exact rfl))
 refine Yt ?_
 have hjl:=ej.next
 have d1l:=d1.2.1
 have d3l:=d3k.2.1
 refine ih m _ _ (by omega) ⟨ai + nd,rv',l ++ [⟨id,tm,(s.drop ai).take nd⟩],by simp;omega,xk.st (by omega) _,hr.of (xk.st (by omega) _) ?_ hnd,d1.put (by omega),d2.put (by omega),⟨?_,d3l,by omega⟩,Nat.le_trans (Nat.le_trans lc hjl) ub.next,?_,?_,?_,?_,?_,?_⟩
 ·show (Tri.put _ _ _).get _ = _
  rw [Tri.gp,if_neg (by omega)]
  exact hpk
 ·show (Tri.put _ _ _).get _ = _
  rw [Tri.gp,if_pos rfl]
 ·rw [List.map_append]
  exact Xh.ext (PE:=PR (H.next + 1 + 1 + 1)) (fun u h =>PR.ext u h) own' ((Xo.refl _ Hk).st (by omega) _)
 ·rw [hrec,rdRs,hR]
  dsimp only
  cases rdRs m (s.drop (ai + nd)) <;> simp
 all_goals simp [Tri.gp,t1,t2,t3]
theorem batch_c (H:AH) (p:Nat) (bv:AV) (s:List Nat) (a:Nat) (hr:Rd H p bv s a) {r:YT × List Nat} (h:rdB (s.drop a) = some r):Fn Q L 92 [.agg [.ptr p 0]] H (BatPost H p bv s r):=YL.fn h (en92 _) (batch_w H p bv s a hr)
theorem batch_p (H:AH) (p:Nat) (bv:AV) (s:List Nat) (a:Nat) (hr:Rd H p bv s a) (h:rdB (s.drop a) = none):Pn Q L 92 [.agg [.ptr p 0]] H (fun w H' =>w = bad∧Y2 p H H'):=YL.pn h (en92 _) (batch_w H p bv s a hr)
end Go.Ev.C
end
section
namespace Go.Ev.C
open Go.Proofs Go.RowKit Go.Fmt
set_option maxRecDepth 100000
set_option linter.unusedSimpArgs false
variable {L:World→Prop} [Yu Q L]
theorem bts4:X1 ⟨#[84,66,65,84]⟩ = [84,66,65,84]:=rfl
theorem YB {P:Program} (t:TypeId) (a b:List Nat):X6 P .neq t (.str a) (.str b) = some (.bool !(a == b)):=rfl
theorem fresh_str {H H':AH} {w:AV} {l:List Nat} (h:FreshB H H' w l) (hl:l ≠ []) (h8:∀c ∈ l,c < 256):∃b,w = .slice b 0 l.length (.up 1)∧convL Q 35 9 (some (.slice b 0 l.length (.up 1))) H' = some (.str l):=by
 rcases h with ⟨e,_⟩ | ⟨hne,b,rfl,h1,h2,h3⟩
 ·exact absurd e hl
 ·refine⟨b,rfl,?_⟩
  have hz:Nat.beq l.length 0 = false:=by
   rw [← Bool.not_eq_true,Nat.beq_eq]
   exact fun e =>hl (List.length_eq_zero_iff.1 e)
  have hc:H'.cellsAt b = some (Xw l):=Z5 h3
  have hcut:cut (Xw l) 0 l.length = some (Xw l):=YN (YJ l) (bsA_hole l)
  have hb:byteL (Xw l) = some l:=byteL_map h8
  simp only [convL,Zo,Ye,und5,hz,hc,hcut,hb,Option.map_some,Bool.false_eq_true,if_false]
theorem Yx.rm {lo:Nat} {H:AH} {v:AV} {l:List Yz} (h:Yx lo H v l) {b:Nat} (hb:b < lo):Yx lo (rmB H b) v l :=
 Yx.ext (H:=H) (H':=rmB H b) ⟨Nat.le_refl _,fun b' B h1 _ h3 =>by unfold rmB;show (H.t.put _ _).get _ = _;rw [Tri.gp,if_neg (by omega)];exact h3⟩ h
def BatsPost (H:AH) (p:Nat) (l:List YT) (w:AV) (H':AH):Prop:=YI H' w (l.map ofB)∧Y2 p H H'∧(∀b,Xi w = some b→H.next≤b)∧Xh 80 4 (H.next + 1) (PB (H.next + 1)) H' w (l.map ofB)
set_option maxHeartbeats 16000000 in
theorem batches_w (H:AH) (p:Nat) (bv:AV) (s:List Nat) (hr:Rd H p bv s 0) :
  WF Q L (PF 49 38 (Zn 0 [.agg [.ptr p 0]] .leaf) [.code c49]) H (YL Q 49 (XI s) (BatsPost H p) (fun w H' =>w = bad∧Y2 p H H')):=by
 have hp:=hr.lt
 have hlen:=hr.len
 have k1:Bx p H.next (some (.cells 125 [.ptr p 0] 0 false false)) ⟨H.t.put H.next (some (.cells 125 [.ptr p 0] 0 false false)),H.next + 1⟩:=⟨by show (Tri.put _ _ _).get _ = _;rw [Tri.gp,if_pos rfl],Nat.lt_succ_self _,by omega⟩
 have r1:=hr.up (Up.box H (some (.cells 125 [.ptr p 0] 0 false false)))
 have x1:=Y2.of (p:=p) (Up.box H (some (.cells 125 [.ptr p 0] 0 false false)))
 unfold c49 Tryz.f49
 simp only [Option.getD_some]
 by_cases h4:s.length < 0 + 4
 ·have hno:XI s = none:=by
   unfold XI
   rw [if_neg]
   intro e
   have:=congrArg List.length e
   simp at this
   omega
  rw [hno]
  simp only [YL]
  repeat (first|(apply Zh;exact rfl)|apply Zc|apply WO.nil|(apply Zl;exact rfl;simp only [rE,rS,li,lo,reduceIte,Nat.reduceEqDiff,Nat.reduceAdd,Nat.reduceMul,Ze ZR Yd,Za ZB,ZF,Z4,XJ,YQ,cu92];exact rfl;exact rfl))
  (apply WO.callP;(focus (simp only [rQ,Zb,li,lo,reduceIte,Nat.reduceEqDiff,Nat.reduceAdd,beq_self_eq_true];done));simp only [rE,rS,li,lo,reduceIte,Nat.reduceEqDiff,Nat.reduceAdd,Nat.reduceMul,Ze ZR Yd,Za ZB,ZF,Z4,XJ,YQ,cu92];exact rfl;exact take_p _ p bv s 0 4 r1 h4;rintro _ _ ⟨rfl,rfl⟩)
  exact⟨rfl,x1⟩
 repeat (first|(apply Zh;exact rfl)|apply Zc|apply WO.nil|(apply Zl;exact rfl;simp only [rE,rS,li,lo,reduceIte,Nat.reduceEqDiff,Nat.reduceAdd,Nat.reduceMul,Ze ZR Yd,Za ZB,ZF,Z4,XJ,YQ,cu92];exact rfl;exact rfl))
 (apply WO.call;(focus (simp only [rQ,Zb,li,lo,reduceIte,Nat.reduceEqDiff,Nat.reduceAdd,beq_self_eq_true];done));simp only [rE,rS,li,lo,reduceIte,Nat.reduceEqDiff,Nat.reduceAdd,Nat.reduceMul,Ze ZR Yd,Za ZB,ZF,Z4,XJ,YQ,cu92];exact rfl;exact take_c _ p bv s 0 4 r1 (by omega);rintro w1 H2 ⟨hfr,r2,u2⟩;refine⟨_,rfl,?_⟩)
 replace k1:=k1.step u2
 have x2:=x1.trans u2
 rw [List.drop_zero] at hfr
 have htl:(s.take 4).length = 4:=by simp;omega
 obtain⟨b4,rfl,hcv⟩:=fresh_str hfr (fun e =>by rw [e] at htl;cases htl) (fun c hc =>hr.byte c (List.mem_of_mem_take hc))
 cases q4:(s.take 4 == [84,66,65,84])
 ·have hno:XI s = none:=by
   unfold XI
   rw [if_neg]
   intro e
   rw [e] at q4
   cases q4
  rw [hno]
  simp only [YL]
  repeat (first|(apply Zh;exact rfl)|apply Zc|apply WO.nil|(apply WO.op;(focus (simp only [rQ,Zb,li,lo,reduceIte,Nat.reduceEqDiff,Nat.reduceAdd,beq_self_eq_true,q4];done));simp only [rE,rS,li,lo,reduceIte,Nat.reduceEqDiff,Nat.reduceAdd,Nat.reduceMul,Y0,Zo,Ye,hcv,bts4,YB,YO,q4];exact rfl;exact rfl)|(apply WO.unwanted;(focus (simp only [rQ,Zb,li,lo,reduceIte,Nat.reduceEqDiff,Nat.reduceAdd,beq_self_eq_true,q4];done));exact rfl))
  (first|(apply WF.condT;(focus (simp only [Zg,Zd,Tri.gp,Zn,Bool.not_true,Bool.not_false,reduceIte,Nat.reduceEqDiff,q4];done)))|(apply WF.condF;(focus (simp only [Zg,Zd,Tri.gp,Zn,Bool.not_true,Bool.not_false,reduceIte,Nat.reduceEqDiff,q4];done))))
  repeat (first|(apply Zh;exact rfl)|apply Zc|apply WO.nil|(apply Zl;exact rfl;simp only [rE,rS,li,lo,reduceIte,Nat.reduceEqDiff,Nat.reduceAdd,Nat.reduceMul,XF];exact rfl;exact rfl))
  (apply WO.panic;(focus (simp only [rQ,Zb,li,lo,reduceIte,Nat.reduceEqDiff,Nat.reduceAdd,beq_self_eq_true];done));simp only [rE,rS,li,lo,reduceIte,Nat.reduceEqDiff,Nat.reduceAdd,Nat.reduceMul,XF,WG];exact rfl)
  exact⟨rfl,x2⟩
 have e4:s.take 4 = [84,66,65,84]:=by simpa using q4
 repeat (first|(apply Zh;exact rfl)|apply Zc|apply WO.nil|(apply WO.op;(focus (simp only [rQ,Zb,li,lo,reduceIte,Nat.reduceEqDiff,Nat.reduceAdd,beq_self_eq_true,q4];done));simp only [rE,rS,li,lo,reduceIte,Nat.reduceEqDiff,Nat.reduceAdd,Nat.reduceMul,Y0,Zo,Ye,hcv,bts4,YB,YO,q4];exact rfl;exact rfl)|(apply WO.unwanted;(focus (simp only [rQ,Zb,li,lo,reduceIte,Nat.reduceEqDiff,Nat.reduceAdd,beq_self_eq_true,q4];done));exact rfl))
 (first|(apply WF.condT;(focus (simp only [Zg,Zd,Tri.gp,Zn,Bool.not_true,Bool.not_false,reduceIte,Nat.reduceEqDiff,q4];done)))|(apply WF.condF;(focus (simp only [Zg,Zd,Tri.gp,Zn,Bool.not_true,Bool.not_false,reduceIte,Nat.reduceEqDiff,q4];done))))
 repeat (first|(apply Zh;exact rfl)|apply Zc|apply WO.nil|(apply Zl;exact rfl;simp only [rE,rS,li,lo,reduceIte,Nat.reduceEqDiff,Nat.reduceAdd,Nat.reduceMul,Ze ZR Yd,Za ZB,ZF,Z4,XJ,YQ,cu92,k1.cells];exact rfl;exact rfl))
 cases m1:Wz 200 (s.drop 4) with
 | none =>
  have hno:XI s = none:=by unfold XI;rw [if_pos e4];unfold rdL;rw [m1]
  rw [hno]
  simp only [YL]
  (apply WO.callP;(focus (simp only [rQ,Zb,li,lo,reduceIte,Nat.reduceEqDiff,Nat.reduceAdd,beq_self_eq_true];done));simp only [rE,rS,li,lo,reduceIte,Nat.reduceEqDiff,Nat.reduceAdd,Nat.reduceMul,Ze ZR Yd,Za ZB,ZF,Z4,XJ,YQ,cu92,k1.cells];exact rfl;exact number_p _ p bv s 4 200 r2 (by omega) m1;rintro _ H3 ⟨rfl,u3⟩)
  exact⟨rfl,x2.trans u3⟩
 | some qq =>
 obtain⟨n,w2⟩:=qq
 (apply WO.call;(focus (simp only [rQ,Zb,li,lo,reduceIte,Nat.reduceEqDiff,Nat.reduceAdd,beq_self_eq_true];done));simp only [rE,rS,li,lo,reduceIte,Nat.reduceEqDiff,Nat.reduceAdd,Nat.reduceMul,Ze ZR Yd,Za ZB,ZF,Z4,XJ,YQ,cu92,k1.cells];exact rfl;exact number_c _ p bv s 4 200 r2 (by omega) m1;rintro _ H3 ⟨rfl,u3,a3,rfl,r3⟩;refine⟨_,rfl,?_⟩)
 replace k1:=k1.step u3
 have x3:=x2.trans u3
 have hn:=(WT (fun c hc =>hr.byte c (List.mem_of_mem_drop hc)) m1).2
 have hbig:XI s = match rdBs n (s.drop a3) with
   | some (l,[]) =>some l
   | _ =>none:=by
  unfold XI;rw [if_pos e4];unfold rdL;rw [m1]
  rfl
 repeat (first|(apply Zh;exact rfl)|apply Zc|apply WO.nil|(apply Zl;exact rfl;simp only [rE,rS,li,lo,reduceIte,Nat.reduceEqDiff,Nat.reduceAdd,Nat.reduceMul,Ze ZR Yd,Za ZB,ZF,Z4,XJ,YQ,cu92];exact rfl;exact rfl))
 refine Ys (fun m t Hc =>∃(ac:Nat) (v:AV) (l:List YT),l.length + m = n∧Y2 p H Hc∧Rd Hc p bv s ac∧Bx p H.next (some (.cells 125 [.ptr p 0] 0 false false)) Hc∧Xh 80 4 (H.next + 1) (PB (H.next + 1)) Hc v (l.map ofB)∧rdBs n (s.drop a3) = (rdBs m (s.drop ac)).map (fun q =>(l ++ q.1,q.2))∧t.get 1 = some (.ptr H.next 0)∧t.get 3 = some v∧t.get 4 = some (.int .i64 (m:Int))) n ?_ ?_
 ·refine⟨a3,.nilslice,[],by simp,x3,r3,k1,Xh.nil _,by simp,?_,?_,?_⟩
  all_goals simp [Tri.gp,Zn]
 rintro m t Hc ⟨ac,v,l,hlm,xc,rc,c1,own,hrec,t1,t3,t4⟩ ih
 have hone:=own.sl.one
 have hsol:=own.sl.solid
 have c1l:=c1.2.1
 cases m with
 | zero =>
  have q1:decide ((0:Int) < ((0:Nat):Int)) = false:=rfl
  have hr0:rdBs n (s.drop a3) = some (l,s.drop ac):=by
   rw [hrec]
   simp [rdBs]
  have hpc:=rc.cells
  have hsb:=rc.sl
  have hle:=rc.le
  have hbone:=hsb.one
  have hbsol:=hsb.solid
  repeat (first|(apply Zh;exact rfl)|apply Zc|apply WO.nil|(apply WO.op;(focus (simp only [rQ,Zb,li,lo,reduceIte,Nat.reduceEqDiff,Nat.reduceAdd,beq_self_eq_true,q1];done));simp only [rE,rS,li,lo,reduceIte,Nat.reduceEqDiff,Nat.reduceAdd,Nat.reduceMul,t1,t3,t4,q1];exact rfl;exact rfl)|(apply WO.unwanted;(focus (simp only [rQ,Zb,li,lo,reduceIte,Nat.reduceEqDiff,Nat.reduceAdd,beq_self_eq_true,q1];done));exact rfl))
  (first|(apply WF.condT;(focus (simp only [Zg,Zd,Tri.gp,Zn,Bool.not_true,Bool.not_false,reduceIte,Nat.reduceEqDiff,q1];done)))|(apply WF.condF;(focus (simp only [Zg,Zd,Tri.gp,Zn,Bool.not_true,Bool.not_false,reduceIte,Nat.reduceEqDiff,q1];done))))
  repeat (first|(apply Zh;exact rfl)|apply Zc|apply WO.nil|(apply Zl;exact rfl;simp only [rE,rS,li,lo,reduceIte,Nat.reduceEqDiff,Nat.reduceAdd,Nat.reduceMul,t1,t3,t4];exact rfl;exact rfl))
  (apply Yw;kernel_rfl;kernel_rfl)
  (refine Zq ?_;(iterate 12 (first|(apply ZW.pure;kernel_rfl;kernel_rfl;(focus ((simp only [rQ,Zb,li,lo,reduceIte,Nat.reduceEqDiff,Nat.reduceAdd,beq_self_eq_true];done)));simp only [rE,rS,li,lo,reduceIte,Nat.reduceEqDiff,Nat.reduceAdd,Nat.reduceMul,Ze ZR Yd,Za ZB,ZF,Z4,XJ,YQ,cu92,t1,t3,t4,c1.cells,hpc,YF,YE,Za Zu,Za Zx,hbone,hbsol,Zo,Zf Zo hsb];exact rfl;exact rfl)|(apply ZW.load;kernel_rfl;kernel_rfl;(focus ((simp only [rQ,Zb,li,lo,reduceIte,Nat.reduceEqDiff,Nat.reduceAdd,beq_self_eq_true];done)));simp only [rE,rS,li,lo,reduceIte,Nat.reduceEqDiff,Nat.reduceAdd,Nat.reduceMul,Ze ZR Yd,Za ZB,ZF,Z4,XJ,YQ,cu92,t1,t3,t4,c1.cells,hpc,YF,YE,Za Zu,Za Zx,hbone,hbsol,Zo,Zf Zo hsb];exact rfl;exact rfl)));refine ZW.nil ?_)
  (apply ZY.all;kernel_rfl;kernel_rfl)
  cases q2:decide ((ac:Int) = (s.length:Int))
  ·have hne:=of_decide_eq_false q2
   have hno:XI s = none:=by
    rw [hbig,hr0]
    cases hd:s.drop ac with
    | nil =>
     have:=congrArg List.length hd
     simp at this
     omega
    | cons _ _ =>rfl
   rw [hno]
   simp only [YL]
   (first|(apply WF.condT;(focus (simp only [Zg,Zd,Tri.gp,Zn,Bool.not_true,Bool.not_false,reduceIte,Nat.reduceEqDiff,q2];done)))|(apply WF.condF;(focus (simp only [Zg,Zd,Tri.gp,Zn,Bool.not_true,Bool.not_false,reduceIte,Nat.reduceEqDiff,q2];done))))
   repeat (first|(apply Zh;exact rfl)|apply Zc|apply WO.nil|(apply Zl;exact rfl;simp only [rE,rS,li,lo,reduceIte,Nat.reduceEqDiff,Nat.reduceAdd,Nat.reduceMul,XF];exact rfl;exact rfl))
   (apply WO.panic;(focus (simp only [rQ,Zb,li,lo,reduceIte,Nat.reduceEqDiff,Nat.reduceAdd,beq_self_eq_true];done));simp only [rE,rS,li,lo,reduceIte,Nat.reduceEqDiff,Nat.reduceAdd,Nat.reduceMul,XF,WG];exact rfl)
   exact⟨rfl,xc⟩
  ·have he:=of_decide_eq_true q2
   have hyes:XI s = some l:=by
    rw [hbig,hr0]
    have hd:s.drop ac = []:=List.drop_of_length_le (by omega)
    rw [hd]
   rw [hyes]
   simp only [YL]
   (first|(apply WF.condT;(focus (simp only [Zg,Zd,Tri.gp,Zn,Bool.not_true,Bool.not_false,reduceIte,Nat.reduceEqDiff,q2];done)))|(apply WF.condF;(focus (simp only [Zg,Zd,Tri.gp,Zn,Bool.not_true,Bool.not_false,reduceIte,Nat.reduceEqDiff,q2];done))))
   repeat (first|(apply Zh;exact rfl)|apply Zc|apply WO.nil|(apply Zl;exact rfl;simp only [rE,rS,li,lo,reduceIte,Nat.reduceEqDiff,Nat.reduceAdd,Nat.reduceMul,t1,t3,t4];exact rfl;exact rfl))
   (apply WF.ret;(focus (simp only [Zi,Tri.gp,Zn,ZL,reduceIte,Nat.reduceEqDiff,rs49,t3];exact rfl)))
   exact⟨own_bats own,xc,fun b e =>by have:=(own.blk e).1;omega,own⟩
 | succ m =>
 have q1:decide ((0:Int) < ((m + 1:Nat):Int)) = true:=decide_eq_true (by omega)
 have wm:IntKind.i64.wrap (((m + 1:Nat):Int) - 1) = (m:Int):=by rw [Go.Ev.w64 (by omega) (by omega)];omega
 repeat (first|(apply Zh;exact rfl)|apply Zc|apply WO.nil|(apply WO.op;(focus (simp only [rQ,Zb,li,lo,reduceIte,Nat.reduceEqDiff,Nat.reduceAdd,beq_self_eq_true,q1];done));simp only [rE,rS,li,lo,reduceIte,Nat.reduceEqDiff,Nat.reduceAdd,Nat.reduceMul,t1,t3,t4,q1];exact rfl;exact rfl)|(apply WO.unwanted;(focus (simp only [rQ,Zb,li,lo,reduceIte,Nat.reduceEqDiff,Nat.reduceAdd,beq_self_eq_true,q1];done));exact rfl))
 (first|(apply WF.condT;(focus (simp only [Zg,Zd,Tri.gp,Zn,Bool.not_true,Bool.not_false,reduceIte,Nat.reduceEqDiff,q1];done)))|(apply WF.condF;(focus (simp only [Zg,Zd,Tri.gp,Zn,Bool.not_true,Bool.not_false,reduceIte,Nat.reduceEqDiff,q1];done))))
 repeat (first|(apply Zh;exact rfl)|apply Zc|apply WO.nil|(apply Zl;exact rfl;simp only [rE,rS,li,lo,reduceIte,Nat.reduceEqDiff,Nat.reduceAdd,Nat.reduceMul,Ze ZR Yd,Za ZB,ZF,Z4,XJ,YQ,cu92,t1,t3,t4,c1.cells];exact rfl;exact rfl))
 cases i1:rdB (s.drop ac) with
 | none =>
  have hno:XI s = none:=by
   rw [hbig,hrec,rdBs,i1]
   rfl
  rw [hno]
  simp only [YL]
  (apply WO.callP;(focus (simp only [rQ,Zb,li,lo,reduceIte,Nat.reduceEqDiff,Nat.reduceAdd,beq_self_eq_true];done));simp only [rE,rS,li,lo,reduceIte,Nat.reduceEqDiff,Nat.reduceAdd,Nat.reduceMul,Ze ZR Yd,Za ZB,ZF,Z4,XJ,YQ,cu92,t1,t3,t4,c1.cells];exact rfl;exact batch_p _ p bv s ac rc i1;rintro _ Hd ⟨rfl,ud⟩)
  exact⟨rfl,xc.trans ud⟩
 | some qq =>
 obtain⟨x,w3⟩:=qq
 (apply WO.call;(focus (simp only [rQ,Zb,li,lo,reduceIte,Nat.reduceEqDiff,Nat.reduceAdd,beq_self_eq_true];done));simp only [rE,rS,li,lo,reduceIte,Nat.reduceEqDiff,Nat.reduceAdd,Nat.reduceMul,Ze ZR Yd,Za ZB,ZF,Z4,XJ,YQ,cu92,t1,t3,t4,c1.cells];exact rfl;exact batch_c _ p bv s ac rc i1;rintro _ Hd ⟨rv,rfl,hrf,ud,ad,hw3,rd⟩;refine⟨_,rfl,?_⟩)
 dsimp only at hrf hw3
 subst hw3
 replace c1:=c1.step ud
 have xd:=xc.trans ud
 have xc1:=xc.next
 have hrs:=hrf.1
 have hrone:=hrs.one
 have hrsol:=hrs.solid
 have hown:=Xh.ext (PE:=PB (H.next + 1)) (fun u h =>PB.ext u h) own (Xo.upx (lo:=H.next + 1) ud (by omega))
 have hxl:x.recs.length < 9223372036854775808:=by
  have:=(enc_getB (fun c hc =>hr.byte c (List.mem_of_mem_drop hc)) i1).2.2.2.2.1
  omega
 have hcl:H.next + 1≤Hc.next:=c1l
 obtain⟨v',Hk,happ,own',ub,hnb⟩:=Xh.push (PE:=PB (H.next + 1)) app36i (fun u h =>PB.ext u h) hown (Nat.le_trans hcl ud.next) [.int .i64 (x.cpu:Int),rv,.int .i64 (x.dr:Int),.bool (decide (x.ah = 1))] (ofB x) rfl (by simp [hrone,one_int,one_bool]) (by simp [hrsol,Wm,hole_bool]) ⟨rv,rfl,hrf.mono hcl,by unfold ofB;rw [List.length_map];exact hxl⟩ (fun b e =>⟨rv,rfl,(hrf.rm (own.blk e).2).mono hcl,by unfold ofB;rw [List.length_map];exact hxl⟩) (by rw [List.length_map];omega)
 have hvb:∀b,Xi v = some b→H.next + 1≤b:=fun b e =>(own.blk e).1
 repeat (first|(apply Zh;exact rfl)|apply Zc|apply WO.nil|(apply Zl;exact rfl;simp only [rE,rS,li,lo,reduceIte,Nat.reduceEqDiff,Nat.reduceAdd,Nat.reduceMul,t1,t3,t4,bs36y,mkBY_agg,hrone,happ,wm];exact rfl;exact rfl))
 refine Yt ?_
 have lp:=hr.lt
 have xk:=xd.upB ub (fun b e =>by have:=hvb b e;omega)
 refine ih m _ _ (by omega) ⟨ad,v',l ++ [x],by simp;omega,xk,hr.of xk ?_ rd.le,c1.upB ub (fun e =>by have:=hvb _ e;omega),?_,?_,?_,?_,?_⟩
 ·rw [ub.old p rd.lt (fun e =>by have:=hvb _ e;omega)]
  exact rd.pos
 ·rw [List.map_append]
  exact own'
 ·rw [hrec,rdBs,i1]
  dsimp only
  cases rdBs m (s.drop ad) <;> simp
 all_goals simp [Tri.gp,t1]
theorem batches_c (H:AH) (p:Nat) (bv:AV) (s:List Nat) (hr:Rd H p bv s 0) {l:List YT} (h:XI s = some l):Fn Q L 49 [.agg [.ptr p 0]] H (BatsPost H p l):=YL.fn h (en49 _) (batches_w H p bv s hr)
theorem batches_p (H:AH) (p:Nat) (bv:AV) (s:List Nat) (hr:Rd H p bv s 0) (h:XI s = none):Pn Q L 49 [.agg [.ptr p 0]] H (fun w H' =>w = bad∧Y2 p H H'):=YL.pn h (en49 _) (batches_w H p bv s hr)
end Go.Ev.C
end
section
namespace Go.Ev.C
open Go.Proofs Go.RowKit Go.Fmt
set_option maxRecDepth 100000
set_option linter.unusedSimpArgs false
variable {L:World→Prop} [Yu Q L]
/-- Bytes that can be read. -/
structure Src (H:AH) (bv:AV) (s:List Nat):Prop where
 data:Y3 H bv (Xw s)
 cap:CapOk bv
 len:s.length≤100000000
 byte:∀c ∈ s,c < 256
theorem Src.up {H H':AH} {bv:AV} {s:List Nat} (h:Src H bv s) (u:Up H H'):Src H' bv s:=⟨h.data.up u,h.cap,h.len,h.byte⟩
theorem Src.sl {H:AH} {bv:AV} {s:List Nat} (h:Src H bv s):SL bv s.length:=by
 have:=h.data.1
 rw [YJ] at this
 exact this
theorem Src.rd {H:AH} {bv:AV} {s:List Nat} (h:Src H bv s):Rd ⟨H.t.put H.next (some (.cells 122 [bv,.int .i64 0] 0 false false)),H.next + 1⟩ H.next bv s 0 :=
 ⟨by show (Tri.put _ _ _).get _ = _;rw [Tri.gp,if_pos rfl];rfl,Nat.lt_succ_self _,⟨h.data.1,fun b off m cap e hn =>by
  obtain⟨c,hb,hc,hr⟩:=h.data.2 b off m cap e hn
  exact⟨by omega,c,Nat.lt_succ_of_lt hb,by rw [(Up.box H (some (.cells 122 [bv,.int .i64 0] 0 false false))).cellsAt hb];exact hc,hr⟩⟩,Nat.zero_le _,h.len,h.byte,h.cap⟩
theorem bu122 {v:AV} {n:Nat} (h:SL v n):Wg Q 122 [(0,v)] = some (.agg [v,.int .i64 0]):=by
 cases h <;> kernel_rfl
theorem bu125 (p:Nat):Wg Q 125 [(0,.ptr p 0)] = some (.agg [.ptr p 0]):=by kernel_rfl
theorem cu48c (x y:AV) (l:List AV) (H:AH):Yh Q (.func 48 [] [x,y]) l H = some (.enter 48 ([] ++ l ++ [x,y]),H):=by kernel_rfl
theorem zero36:Wi Q 36 = some .nilslice:=by kernel_rfl
set_option maxHeartbeats 4000000 in
theorem dec48_c (H:AH) (x y:Nat) (bv:AV) (s:List Nat) (hs:Src H bv s) (hx:H.cellsAt x = some [bv]) (hy:y < H.next) (hg:H.t.get y = some (.cells 36 [.nilslice] 0 false false)) {l:List YT} (hd:XI s = some l) :
  Fn Q L 48 [.ptr x 0,.ptr y 0] H (fun _ H' =>Y2 y H H'∧∃v,H'.t.get y = some (.cells 36 [v] 0 false false)∧Xh 80 4 (H.next + 2) (PB (H.next + 2)) H' v (l.map ofB)):=by
 refine Fn.intro (en48 _ _) ?_
 have hsl:=hs.sl
 have hone:=hsl.one
 have hsol:=hsl.solid
 unfold c48 Tryz.f48
 simp only [Option.getD_some]
 repeat (first|(apply Zh;exact rfl)|apply Zc|apply WO.nil|(apply Zl;exact rfl;simp only [rE,rS,li,lo,reduceIte,Nat.reduceEqDiff,Nat.reduceAdd,Nat.reduceMul,Za Zx,hx,hone,hsol,Zs,bu122 hsl,bu125,cu49];exact rfl;exact rfl))
 (apply WO.call;(focus (simp only [rQ,Zb,li,lo,reduceIte,Nat.reduceEqDiff,Nat.reduceAdd,beq_self_eq_true];done));simp only [rE,rS,li,lo,reduceIte,Nat.reduceEqDiff,Nat.reduceAdd,Nat.reduceMul,Za Zx,hx,hone,hsol,Zs,bu122 hsl,bu125,cu49];exact rfl;exact batches_c _ H.next bv s hs.rd hd;rintro v H2 ⟨hb,u2,hv,own⟩;refine⟨_,rfl,?_⟩)
 have hu2:Up H H2:=⟨Nat.le_trans (Nat.le_succ _) u2.next,fun b hb =>by rw [u2.old b (Nat.lt_succ_of_lt hb) (by omega)];show (H.t.put _ _).get _ = _;rw [Tri.gp,if_neg (by omega)]⟩
 have hg2:H2.t.get y = some (.cells 36 [.nilslice] 0 false false):=by rw [hu2.old y hy];exact hg
 have hvo:=own.sl.one
 have hst:Zr Q 36 y 0 v H2 = some ⟨H2.t.put y (some (.cells 36 [v] 0 false false)),H2.next⟩:=Z7 (n:=1) (x:=[v]) hg2 sz36 (SL.cells' own.sl) rfl (by simp [hvo]) (by simp)
 repeat (first|(apply Zh;exact rfl)|apply Zc|apply WO.nil|(apply Zl;exact rfl;simp only [rE,rQ,li,lo,reduceIte,Nat.reduceEqDiff,Nat.reduceAdd,Nat.reduceMul,AH.set,hvo,hst];exact rfl;exact rfl))
 apply WF.fall
 focus (simp only [rs48,Zi,Tri.gp,Zn,ZL];exact rfl)
 refine⟨⟨hu2.next,fun b hb hn =>?_⟩,v,?_,Xh.ext (PE:=PB (H.next + 2)) (fun u h =>PB.ext u h) own ((Xo.refl _ H2).st (.inl (by omega)) _)⟩
 ·show (H2.t.put _ _).get _ = _
  rw [Tri.gp,if_neg hn]
  exact hu2.old b hb
 ·show (H2.t.put _ _).get _ = _
  rw [Tri.gp,if_pos rfl]
set_option maxHeartbeats 4000000 in
theorem dec48_p (H:AH) (x y:Nat) (bv:AV) (s:List Nat) (hs:Src H bv s) (hx:H.cellsAt x = some [bv]) (hd:XI s = none) :
  Pn Q L 48 [.ptr x 0,.ptr y 0] H (fun w H' =>w = bad'∧Up H H'):=by
 refine Pn.intro (en48 _ _) ?_
 have hsl:=hs.sl
 have hone:=hsl.one
 have hsol:=hsl.solid
 unfold c48 Tryz.f48
 simp only [Option.getD_some]
 repeat (first|(apply Zh;exact rfl)|apply Zc|apply WO.nil|(apply Zl;exact rfl;simp only [rE,rS,li,lo,reduceIte,Nat.reduceEqDiff,Nat.reduceAdd,Nat.reduceMul,Za Zx,hx,hone,hsol,Zs,bu122 hsl,bu125,cu49];exact rfl;exact rfl))
 (apply WO.callP;(focus (simp only [rQ,Zb,li,lo,reduceIte,Nat.reduceEqDiff,Nat.reduceAdd,beq_self_eq_true];done));simp only [rE,rS,li,lo,reduceIte,Nat.reduceEqDiff,Nat.reduceAdd,Nat.reduceMul,Za Zx,hx,hone,hsol,Zs,bu122 hsl,bu125,cu49];exact rfl;exact batches_p _ H.next bv s hs.rd hd;rintro _ H2 ⟨rfl,u2⟩)
 exact⟨rfl,Nat.le_trans (Nat.le_succ _) u2.next,fun b hb =>by rw [u2.old b (Nat.lt_succ_of_lt hb) (by omega)];show (H.t.put _ _).get _ = _;rw [Tri.gp,if_neg (by omega)]⟩
theorem box_sl {t:Tri AV} {i n:Nat} {v:AV} (h:SL v n) (ht:t.get i = some v) (e:TypeId) (H:AH):Xr Q t (.box e (.tmp i)) H = some (.val (.ptr H.next 0),⟨H.t.put H.next (some (.cells e [v] 0 false false)),H.next + 1⟩):=by
 cases h <;> (simp only [rE,rS,li,lo,reduceIte,Nat.reduceEqDiff,Nat.reduceAdd,Nat.reduceMul,ht,hole_nilslice,one_nilslice])
set_option maxHeartbeats 4000000 in
theorem decode_c (H:AH) (bv:AV) (s:List Nat) (hs:Src H bv s) {l:List YT} (hd:XI s = some l) :
  Fn Q L 16 [bv] H (fun w H' =>∃v,w = .tuple [v,.int .i64 0]∧YI H' v (l.map ofB)∧Up H H'):=by
 refine Fn.intro (en16 _) ?_
 have hsl:=hs.sl
 have hone:=hsl.one
 have hsol:=hsl.solid
 unfold c16 Tryz.f16
 simp only [Option.getD_some]
 iterate 2 (first|(apply Zh;exact rfl)|apply Zc|apply WO.nil|(apply Zl;exact rfl;simp only [rE,rS,li,lo,reduceIte,Nat.reduceEqDiff,Nat.reduceAdd,Nat.reduceMul,zero36,cu45,Za agg36,hone,hsol];exact rfl;exact rfl))
 apply Zl
 exact rfl
 exact box_sl hsl (by simp only [Zn,Tri.gp,reduceIte,Nat.reduceEqDiff]) 35 H
 exact rfl
 repeat (first|(apply Zh;exact rfl)|apply Zc|apply WO.nil|(apply Zl;exact rfl;simp only [rE,rS,li,lo,reduceIte,Nat.reduceEqDiff,Nat.reduceAdd,Nat.reduceMul,zero36,cu45,Za agg36,hone,hsol];exact rfl;exact rfl))
 have u1:Up H ⟨(H.t.put H.next (some (.cells 35 [bv] 0 false false))).put (H.next + 1) (some (.cells 36 [.nilslice] 0 false false)),H.next + 1 + 1⟩:=WC H _ _
 have hx1:AH.cellsAt ⟨(H.t.put H.next (some (.cells 35 [bv] 0 false false))).put (H.next + 1) (some (.cells 36 [.nilslice] 0 false false)),H.next + 1 + 1⟩ H.next = some [bv]:=Z5 (e:=35) (by show ((H.t.put _ _).put _ _).get _ = _;rw [Tri.gp,if_neg (by omega),Tri.gp,if_pos rfl])
 have hy1:(AH.mk ((H.t.put H.next (some (.cells 35 [bv] 0 false false))).put (H.next + 1) (some (.cells 36 [.nilslice] 0 false false))) (H.next + 1 + 1)).t.get (H.next + 1) = some (.cells 36 [.nilslice] 0 false false):=by show ((H.t.put _ _).put _ _).get _ = _;rw [Tri.gp,if_pos rfl]
 have hn1:(AH.mk ((H.t.put H.next (some (.cells 35 [bv] 0 false false))).put (H.next + 1) (some (.cells 36 [.nilslice] 0 false false))) (H.next + 1 + 1)).next = H.next + 2:=rfl
 generalize (⟨(H.t.put H.next (some (.cells 35 [bv] 0 false false))).put (H.next + 1) (some (.cells 36 [.nilslice] 0 false false)),H.next + 1 + 1⟩:AH) = H1 at *
 have ub:=Up.box H1 (some (.cells 4 [.bool false] 0 false false))
 have hfn:=dec48_c (L:=L) _ H.next (H.next + 1) bv s (hs.up (u1.trans ub)) (by rw [ub.cellsAt (by omega)];exact hx1) (by show H.next + 1 < H1.next + 1;omega) (by rw [ub.old _ (by omega)];exact hy1) hd
 have hc:=caught_fn (L:=L) H1 (.func 48 [] [.ptr H.next 0,.ptr (H.next + 1) 0]) 48 [.ptr H.next 0,.ptr (H.next + 1) 0] _ (fun H' =>cu48c _ _ [] H') hfn (fun v H2 hΨ =>by
  rw [hΨ.1.old H1.next (Nat.lt_succ_self _) (by omega)]
  show (H1.t.put _ _).get _ = _
  rw [Tri.gp,if_pos rfl])
 (apply WO.call;(focus (simp only [rQ,Zb,li,lo,reduceIte,Nat.reduceEqDiff,Nat.reduceAdd,beq_self_eq_true];done));simp only [rE,rS,li,lo,reduceIte,Nat.reduceEqDiff,Nat.reduceAdd,Nat.reduceMul,zero36,cu45,Za agg36,hone,hsol];exact rfl;exact hc;rintro _ H2 ⟨rfl,w0,H3,⟨u3,v,hg3,own3⟩,rfl⟩;refine⟨_,rfl,?_⟩)
 have hvo:=own3.sl.one
 have hvs:=own3.sl.solid
 have hcell:(falseH H3 H1.next).cellsAt (H.next + 1) = some [v]:=Z5 (e:=36) (by unfold falseH;show (H3.t.put _ _).get _ = _;rw [Tri.gp,if_neg (by omega)];exact hg3)
 repeat (first|(apply Zh;exact rfl)|apply Zc|apply WO.nil|(apply Zl;exact rfl;simp only [rE,rS,li,lo,reduceIte,Nat.reduceEqDiff,Nat.reduceAdd,Nat.reduceMul,zero36,cu45,Za agg36,hone,hsol];exact rfl;exact rfl))
 (first|(apply WF.condT;(focus (simp only [Zg,Zd,Tri.gp,Zn,Bool.not_true,Bool.not_false,reduceIte,Nat.reduceEqDiff];done)))|(apply WF.condF;(focus (simp only [Zg,Zd,Tri.gp,Zn,Bool.not_true,Bool.not_false,reduceIte,Nat.reduceEqDiff];done))))
 repeat (first|(apply Zh;exact rfl)|apply Zc|apply WO.nil|(apply Zl;exact rfl;simp only [rE,rS,li,lo,reduceIte,Nat.reduceEqDiff,Nat.reduceAdd,Nat.reduceMul,zero36,cu45,Za agg36,hone,hsol,hcell,hvo,hvs];exact rfl;exact rfl))
 (apply WF.ret;(focus (simp only [Zi,Tri.gp,Zn,ZL,reduceIte,Nat.reduceEqDiff,rs16];exact rfl)))
 refine⟨v,rfl,own_bats (Xh.ext (PE:=PB (H1.next + 1 + 2)) (fun u h =>PB.ext u h) own3 ((Xo.refl _ H3).st (.inl (by omega)) _)),?_,?_⟩
 ·have:=u1.next
  have:=u3.next
  show H.next≤H3.next
  have e:(AH.mk (H1.t.put H1.next (some (.cells 4 [.bool false] 0 false false))) (H1.next + 1)).next = H1.next + 1:=rfl
  omega
 ·intro b hb
  unfold falseH
  show (H3.t.put _ _).get _ = _
  rw [Tri.gp,if_neg (by omega),u3.old b (by show b < H1.next + 1;omega) (by omega)]
  show (H1.t.put _ _).get _ = _
  rw [Tri.gp,if_neg (by omega)]
  exact u1.old b hb
set_option maxHeartbeats 4000000 in
theorem decode_n (H:AH) (bv:AV) (s:List Nat) (hs:Src H bv s) (hd:XI s = none) :
  Fn Q L 16 [bv] H (fun w H' =>w = .tuple [.nilslice,.int .i64 262]∧Up H H'):=by
 refine Fn.intro (en16 _) ?_
 have hsl:=hs.sl
 have hone:=hsl.one
 have hsol:=hsl.solid
 unfold c16 Tryz.f16
 simp only [Option.getD_some]
 iterate 2 (first|(apply Zh;exact rfl)|apply Zc|apply WO.nil|(apply Zl;exact rfl;simp only [rE,rS,li,lo,reduceIte,Nat.reduceEqDiff,Nat.reduceAdd,Nat.reduceMul,zero36,cu45,Za agg36,hone,hsol];exact rfl;exact rfl))
 apply Zl
 exact rfl
 exact box_sl hsl (by simp only [Zn,Tri.gp,reduceIte,Nat.reduceEqDiff]) 35 H
 exact rfl
 repeat (first|(apply Zh;exact rfl)|apply Zc|apply WO.nil|(apply Zl;exact rfl;simp only [rE,rS,li,lo,reduceIte,Nat.reduceEqDiff,Nat.reduceAdd,Nat.reduceMul,zero36,cu45,Za agg36,hone,hsol];exact rfl;exact rfl))
 have u1:Up H ⟨(H.t.put H.next (some (.cells 35 [bv] 0 false false))).put (H.next + 1) (some (.cells 36 [.nilslice] 0 false false)),H.next + 1 + 1⟩:=WC H _ _
 have hx1:AH.cellsAt ⟨(H.t.put H.next (some (.cells 35 [bv] 0 false false))).put (H.next + 1) (some (.cells 36 [.nilslice] 0 false false)),H.next + 1 + 1⟩ H.next = some [bv]:=Z5 (e:=35) (by show ((H.t.put _ _).put _ _).get _ = _;rw [Tri.gp,if_neg (by omega),Tri.gp,if_pos rfl])
 have hy1:(AH.mk ((H.t.put H.next (some (.cells 35 [bv] 0 false false))).put (H.next + 1) (some (.cells 36 [.nilslice] 0 false false))) (H.next + 1 + 1)).t.get (H.next + 1) = some (.cells 36 [.nilslice] 0 false false):=by show ((H.t.put _ _).put _ _).get _ = _;rw [Tri.gp,if_pos rfl]
 have hn1:(AH.mk ((H.t.put H.next (some (.cells 35 [bv] 0 false false))).put (H.next + 1) (some (.cells 36 [.nilslice] 0 false false))) (H.next + 1 + 1)).next = H.next + 2:=rfl
 generalize (⟨(H.t.put H.next (some (.cells 35 [bv] 0 false false))).put (H.next + 1) (some (.cells 36 [.nilslice] 0 false false)),H.next + 1 + 1⟩:AH) = H1 at *
 have ub:=Up.box H1 (some (.cells 4 [.bool false] 0 false false))
 have hfn:=dec48_p (L:=L) _ H.next (H.next + 1) bv s (hs.up (u1.trans ub)) (by rw [ub.cellsAt (by omega)];exact hx1) hd
 have hc:=caught_pn (L:=L) H1 (.func 48 [] [.ptr H.next 0,.ptr (H.next + 1) 0]) 48 [.ptr H.next 0,.ptr (H.next + 1) 0] _ (fun H' =>cu48c _ _ [] H') hfn (fun H2 hΨ =>⟨Nat.lt_of_lt_of_le (Nat.lt_succ_self _) hΨ.next,by
  rw [hΨ.old H1.next (Nat.lt_succ_self _)]
  show (H1.t.put _ _).get _ = _
  rw [Tri.gp,if_pos rfl]⟩)
 (apply WO.call;(focus (simp only [rQ,Zb,li,lo,reduceIte,Nat.reduceEqDiff,Nat.reduceAdd,beq_self_eq_true];done));simp only [rE,rS,li,lo,reduceIte,Nat.reduceEqDiff,Nat.reduceAdd,Nat.reduceMul,zero36,cu45,Za agg36,hone,hsol];exact rfl;exact hc;rintro _ H2 ⟨rfl,H3,u3,rfl⟩;refine⟨_,rfl,?_⟩)
 repeat (first|(apply Zh;exact rfl)|apply Zc|apply WO.nil|(apply Zl;exact rfl;simp only [rE,rS,li,lo,reduceIte,Nat.reduceEqDiff,Nat.reduceAdd,Nat.reduceMul,zero36,cu45,Za agg36,hone,hsol];exact rfl;exact rfl))
 (first|(apply WF.condT;(focus (simp only [Zg,Zd,Tri.gp,Zn,Bool.not_true,Bool.not_false,reduceIte,Nat.reduceEqDiff];done)))|(apply WF.condF;(focus (simp only [Zg,Zd,Tri.gp,Zn,Bool.not_true,Bool.not_false,reduceIte,Nat.reduceEqDiff];done))))
 repeat (first|(apply Zh;exact rfl)|apply Zc|apply WO.nil|(apply Zl;exact rfl;simp only [rE,rS,li,lo,reduceIte,Nat.reduceEqDiff,Nat.reduceAdd,Nat.reduceMul,zero36,cu45,Za agg36,hone,hsol];exact rfl;exact rfl))
 (apply WF.ret;(focus (simp only [Zi,Tri.gp,Zn,ZL,reduceIte,Nat.reduceEqDiff,rs16];exact rfl)))
 have e3:=u3.next
 have e4:(AH.mk (H1.t.put H1.next (some (.cells 4 [.bool false] 0 false false))) (H1.next + 1)).next = H1.next + 1:=rfl
 refine⟨rfl,?_,fun b hb =>?_⟩
 ·show H.next≤H3.next + 1
  omega
 ·unfold caughtH
  show (((H3.t.put _ _).put _ _).put _ _).get _ = _
  rw [Tri.gp,if_neg (by omega),Tri.gp,if_neg (by omega),Tri.gp,if_neg (by omega),u3.old b (by omega)]
  show (H1.t.put _ _).get _ = _
  rw [Tri.gp,if_neg (by omega)]
  exact u1.old b hb
end Go.Ev.C
end
section
namespace Go.Ev.C
open Go.Proofs Go.RowKit Go.Fmt
set_option maxRecDepth 100000
set_option linter.unusedSimpArgs false
variable {L:World→Prop} [Yu Q L]
set_option maxHeartbeats 4000000 in
theorem sameBs_c (H:AH) (v1 v2:AV) (l:List XC) (h1:YI H v1 l) (h2:YI H v2 l) (h8:∀d ∈ l,∀r ∈ d.recs,U8 r.r) (hlen:l.length < 9223372036854775808):Fn Q L 24 [v1,v2] H (fun w H' =>w = .bool true∧H' = H):=by
 refine Fn.intro (en24 _ _) ?_
 have hs1:=h1.1
 have hs2:=h2.1
 have q0:decide ((l.length:Int) = (l.length:Int)) = true:=by simp
 unfold c24 Tryz.f24
 simp only [Option.getD_some]
 repeat (first|(apply Zh;exact rfl)|apply Zc|apply WO.nil|(apply WO.op;(focus (simp only [rQ,Zb,li,lo,reduceIte,Nat.reduceEqDiff,Nat.reduceAdd,beq_self_eq_true,q0];done));simp only [rE,rS,li,lo,reduceIte,Nat.reduceEqDiff,Nat.reduceAdd,Nat.reduceMul,Zj,Zf Zj hs1,Zf Zj hs2,q0];exact rfl;exact rfl)|(apply WO.unwanted;(focus (simp only [rQ,Zb,li,lo,reduceIte,Nat.reduceEqDiff,Nat.reduceAdd,beq_self_eq_true,q0];done));exact rfl))
 (first|(apply WF.condT;(focus (simp only [Zg,Zd,Tri.gp,Zn,Bool.not_true,Bool.not_false,reduceIte,Nat.reduceEqDiff,q0];done)))|(apply WF.condF;(focus (simp only [Zg,Zd,Tri.gp,Zn,Bool.not_true,Bool.not_false,reduceIte,Nat.reduceEqDiff,q0];done))))
 repeat (first|(apply Zh;exact rfl)|apply Zc|apply WO.nil|(apply Zl;exact rfl;simp only [rE,rS,li,lo,reduceIte,Nat.reduceEqDiff,Nat.reduceAdd,Nat.reduceMul,Zj];exact rfl;exact rfl))
 refine Ys (fun m t H' =>∃i:Nat,H' = H∧i + m = l.length∧t.get 0 = some v1∧t.get 1 = some v2∧t.get 5 = some (.int .i64 (i:Int))) l.length ?_ ?_
 ·refine⟨0,rfl,by omega,?_,?_,?_⟩ <;> simp [Tri.gp,Zn]
 rintro m t H' ⟨i,rfl,him,ht0,ht1,ht5⟩ ih
 by_cases hi:i < l.length
 ·have hlt:decide ((i:Int) < (l.length:Int)) = true:=by simp;omega
  have wi:IntKind.i64.wrap ((i:Int) + 1) = ((i + 1:Nat):Int):=by rw [Go.Ev.w64 (by omega) (by omega)];omega
  obtain⟨b1,off1,cap1,c1,rv1,rfl,hb1,hc1,hd1,hl1,hcut1⟩:=h1.at hi
  obtain⟨b2,off2,cap2,c2,rv2,rfl,hb2,hc2,hd2,hl2,hcut2⟩:=h2.at hi
  have hmem:=h8 _ (List.getElem_mem hi)
  repeat (first|(apply Zh;exact rfl)|apply Zc|apply WO.nil|(apply WO.op;(focus (simp only [rQ,Zb,li,lo,reduceIte,Nat.reduceEqDiff,Nat.reduceAdd,beq_self_eq_true,hlt];done));simp only [rE,rS,li,lo,reduceIte,Nat.reduceEqDiff,Nat.reduceAdd,Nat.reduceMul,Zj,Zf Zj hs1,Zf Zj hs2,ht0,ht1,ht5,hlt];exact rfl;exact rfl)|(apply WO.unwanted;(focus (simp only [rQ,Zb,li,lo,reduceIte,Nat.reduceEqDiff,Nat.reduceAdd,beq_self_eq_true,hlt];done));exact rfl))
  (first|(apply WF.condT;(focus (simp only [Zg,Zd,Tri.gp,Zn,Bool.not_true,Bool.not_false,reduceIte,Nat.reduceEqDiff,hlt];done)))|(apply WF.condF;(focus (simp only [Zg,Zd,Tri.gp,Zn,Bool.not_true,Bool.not_false,reduceIte,Nat.reduceEqDiff,hlt];done))))
  repeat (first|(apply Zh;exact rfl)|apply Zc|apply WO.nil|(apply WO.op;(focus (simp only [rQ,Zb,li,lo,reduceIte,Nat.reduceEqDiff,Nat.reduceAdd,beq_self_eq_true,hlt];done));simp only [rE,rS,li,lo,reduceIte,Nat.reduceEqDiff,Nat.reduceAdd,Nat.reduceMul,Zj,Zf Zj hs1,Zf Zj hs2,ht0,ht1,ht5,hlt];exact rfl;exact rfl)|(apply WO.unwanted;(focus (simp only [rQ,Zb,li,lo,reduceIte,Nat.reduceEqDiff,Nat.reduceAdd,beq_self_eq_true,hlt];done));exact rfl))
  (apply Yw;kernel_rfl;kernel_rfl)
  (refine Zq ?_;(iterate 8 (first|(apply ZW.pure;kernel_rfl;kernel_rfl;(focus ((simp only [rQ,Zb,li,lo,reduceIte,Nat.reduceEqDiff,Nat.reduceAdd,beq_self_eq_true,hlt];done)));simp only [rE,rS,li,lo,reduceIte,Nat.reduceEqDiff,Nat.reduceAdd,Nat.reduceMul,Zj,Zf Zj hs1,Zf Zj hs2,ht0,ht1,ht5,hlt,Zt Zj Zv hi,Ze ZT Zv,hc1,hcut1,hc2,hcut2];exact rfl;exact rfl)|(apply ZW.load;kernel_rfl;kernel_rfl;(focus ((simp only [rQ,Zb,li,lo,reduceIte,Nat.reduceEqDiff,Nat.reduceAdd,beq_self_eq_true,hlt];done)));simp only [rE,rS,li,lo,reduceIte,Nat.reduceEqDiff,Nat.reduceAdd,Nat.reduceMul,Zj,Zf Zj hs1,Zf Zj hs2,ht0,ht1,ht5,hlt,Zt Zj Zv hi,Ze ZT Zv,hc1,hcut1,hc2,hcut2];exact rfl;exact rfl)));(iterate 2 (apply ZW.later;kernel_rfl));refine ZW.nil ?_)
  (apply ZY.call (e:=8);kernel_rfl;simp only [li];exact rfl;(focus (simp only [rQ,Zb,li,lo,reduceIte,Nat.reduceEqDiff,Nat.reduceAdd,beq_self_eq_true];done));simp only [rE,rS,li,lo,reduceIte,Nat.reduceEqDiff,Nat.reduceAdd,Nat.reduceMul,Zj,Zf Zj hs1,Zf Zj hs2,ht0,ht1,ht5,cu29];exact rfl;exact sameB_c _ _ _ _ _ _ _ hd1 hd2 hmem hl1;rintro _ H' ⟨rfl,rfl⟩;refine⟨_,rfl,?_,?_⟩;(focus exact ZM (by kernel_rfl)))
  (refine Zq ?_;(iterate 9 (apply ZW.later;kernel_rfl));(iterate 1 (apply ZW.pure;kernel_rfl;kernel_rfl;(focus ((simp only [rQ,Zb,li,lo,reduceIte,Nat.reduceEqDiff,Nat.reduceAdd,beq_self_eq_true];done)));simp only [rE,rS,li,lo,reduceIte,Nat.reduceEqDiff,Nat.reduceAdd,Nat.reduceMul,Zj,Zf Zj hs1,Zf Zj hs2,ht0,ht1,ht5];exact rfl;exact rfl));refine ZW.nil ?_)
  (apply ZY.all;kernel_rfl;kernel_rfl)
  (first|(apply WF.condT;(focus (simp only [Zg,Zd,Tri.gp,Zn,Bool.not_true,Bool.not_false,reduceIte,Nat.reduceEqDiff];done)))|(apply WF.condF;(focus (simp only [Zg,Zd,Tri.gp,Zn,Bool.not_true,Bool.not_false,reduceIte,Nat.reduceEqDiff];done))))
  repeat (first|(apply Zh;exact rfl)|apply Zc|apply WO.nil|(apply Zl;exact rfl;simp only [rE,rS,li,lo,reduceIte,Nat.reduceEqDiff,Nat.reduceAdd,Nat.reduceMul,Zj,Zf Zj hs1,Zf Zj hs2,ht0,ht1,ht5,wi];exact rfl;exact rfl))
  refine Yt ?_
  refine ih (m - 1) _ _ (by omega) ⟨i + 1,rfl,by omega,?_,?_,?_⟩
  all_goals simp [Tri.gp,ht0,ht1]
 ·obtain rfl:i = l.length:=by omega
  have hlt:decide ((l.length:Int) < (l.length:Int)) = false:=by simp
  repeat (first|(apply Zh;exact rfl)|apply Zc|apply WO.nil|(apply WO.op;(focus (simp only [rQ,Zb,li,lo,reduceIte,Nat.reduceEqDiff,Nat.reduceAdd,beq_self_eq_true,hlt];done));simp only [rE,rS,li,lo,reduceIte,Nat.reduceEqDiff,Nat.reduceAdd,Nat.reduceMul,Zj,Zf Zj hs1,Zf Zj hs2,ht0,ht1,ht5,hlt];exact rfl;exact rfl)|(apply WO.unwanted;(focus (simp only [rQ,Zb,li,lo,reduceIte,Nat.reduceEqDiff,Nat.reduceAdd,beq_self_eq_true,hlt];done));exact rfl))
  (first|(apply WF.condT;(focus (simp only [Zg,Zd,Tri.gp,Zn,Bool.not_true,Bool.not_false,reduceIte,Nat.reduceEqDiff,hlt];done)))|(apply WF.condF;(focus (simp only [Zg,Zd,Tri.gp,Zn,Bool.not_true,Bool.not_false,reduceIte,Nat.reduceEqDiff,hlt];done))))
  repeat (first|(apply Zh;exact rfl)|apply Zc|apply WO.nil|(apply WO.op;(focus (simp only [rQ,Zb,li,lo,reduceIte,Nat.reduceEqDiff,Nat.reduceAdd,beq_self_eq_true,hlt];done));simp only [rE,rS,li,lo,reduceIte,Nat.reduceEqDiff,Nat.reduceAdd,Nat.reduceMul,Zj,Zf Zj hs1,Zf Zj hs2,ht0,ht1,ht5,hlt];exact rfl;exact rfl)|(apply WO.unwanted;(focus (simp only [rQ,Zb,li,lo,reduceIte,Nat.reduceEqDiff,Nat.reduceAdd,beq_self_eq_true,hlt];done));exact rfl))
  (apply WF.ret;(focus (simp only [Zi,Tri.gp,Zn,ZL,reduceIte,Nat.reduceEqDiff,rs24];exact rfl)))
  exact⟨rfl,rfl⟩
theorem rec_of {d:Yz} (h:d.ok = true) (h8:U8 d.r):∃y:WI,d = ofR y∧pokR y∧∀c ∈ y.data,c < 256:=by
 obtain⟨bs,hb,h8⟩:=h8
 obtain⟨id,tm,r⟩:=d
 dsimp only at hb
 subst hb
 unfold Yz.ok vld at h
 simp only [Yz.n,Bool.and_eq_true,decide_eq_true_eq,List.length_map] at h
 refine⟨⟨id.toNat,tm.toNat,bs⟩,?_,⟨by dsimp only;omega,by dsimp only;omega,by dsimp only;omega,by dsimp only;omega⟩,h8⟩
 unfold ofR Xw
 dsimp only
 rw [Int.toNat_of_nonneg (by omega),Int.toNat_of_nonneg (by omega)]
theorem map_of {α β:Type} {f:β→α} {P:β→Prop}:∀{l:List α},(∀d ∈ l,∃y,d = f y∧P y)→∃m:List β,l = m.map f∧∀y ∈ m,P y
 | [],_ =>⟨[],rfl,by simp⟩
 | d :: l,h =>by
  obtain⟨y,rfl,hy⟩:=h d (by simp)
  obtain⟨m,rfl,hm⟩:=map_of (l:=l) fun x hx =>h x (by simp [hx])
  refine⟨y :: m,rfl,fun z hz =>?_⟩
  rcases List.mem_cons.1 hz with rfl | hz
  ·exact hy
  ·exact hm z hz
def byteB (x:YT):Prop:=∀y ∈ x.recs,∀c ∈ y.data,c < 256
theorem bat_of {d:XC} (h:d.ok = true) (h8:∀r ∈ d.recs,U8 r.r):∃x:YT,d = ofB x∧pokB x∧byteB x:=by
 obtain⟨cpu,recs,dr,ah⟩:=d
 unfold XC.ok okB at h
 simp only [Bool.and_eq_true,decide_eq_true_eq,Bool.not_eq_true',List.any_eq_false,Bool.not_eq_true] at h
 obtain⟨⟨⟨⟨⟨g1,g2⟩,g3⟩,g4⟩,g5⟩,g6⟩:=h
 obtain⟨ys,rfl,hys⟩:=map_of (f:=ofR) (P:=fun y =>pokR y∧∀c ∈ y.data,c < 256) (l:=recs) fun r hr =>rec_of (by simpa using g6 r hr) (h8 r hr)
 rw [List.length_map] at g3
 refine⟨⟨cpu.toNat,dr.toNat,if ah then 1 else 0,ys⟩,?_,⟨by dsimp only;omega,by dsimp only;omega,by dsimp only;split <;> omega,by dsimp only;omega,fun y hy =>(hys y hy).1⟩,fun y hy =>(hys y hy).2⟩
 unfold ofB
 dsimp only
 rw [Int.toNat_of_nonneg (by omega),Int.toNat_of_nonneg (by omega)]
 cases ah <;> rfl
theorem bats_of {l:List XC} (h:(l.any fun d =>!d.ok) = false) (hl:l.length≤200) (h8:∀d ∈ l,∀r ∈ d.recs,U8 r.r):∃ps:List YT,l = ps.map ofB∧pokL ps∧∀x ∈ ps,byteB x:=by
 rw [List.any_eq_false] at h
 obtain⟨ps,rfl,hp⟩:=map_of (f:=ofB) (P:=fun x =>pokB x∧byteB x) (l:=l) fun d hd =>bat_of (by simpa using h d hd) (h8 d hd)
 rw [List.length_map] at hl
 exact⟨ps,rfl,⟨hl,fun x hx =>(hp x hx).1⟩,fun x hx =>(hp x hx).2⟩
theorem encRs_byte:∀{l:List WI},(∀y ∈ l,pokR y)→(∀y ∈ l,∀c ∈ y.data,c < 256)→∀c ∈ XD l,c < 256
 | [],_,_,c,hc =>by cases hc
 | x :: l,h,h8,c,hc =>by
  rw [XD] at hc
  rcases List.mem_append.1 hc with hc | hc
  ·exact encR_byte (h x (by simp)).2 (h8 x (by simp)) c hc
  ·exact encRs_byte (l:=l) (fun y hy =>h y (by simp [hy])) (fun y hy =>h8 y (by simp [hy])) c hc
theorem encB_byte {x:YT} (h:pokB x) (h8:byteB x):∀c ∈ encB x,c < 256:=by
 obtain⟨h1,h2,h3,h4,h5⟩:=h
 intro c hc
 unfold encB at hc
 simp only [List.mem_append] at hc
 rcases hc with hc | hc | hc | hc | hc
 ·exact WA 9 _ (by omega) c hc
 ·exact WA 9 _ (by omega) c hc
 ·exact WA 9 _ (by omega) c hc
 ·exact WA 9 _ (by omega) c hc
 ·exact encRs_byte h5 h8 c hc
theorem encBs_byte:∀{l:List YT},(∀y ∈ l,pokB y)→(∀y ∈ l,byteB y)→∀c ∈ XE l,c < 256
 | [],_,_,c,hc =>by cases hc
 | x :: l,h,h8,c,hc =>by
  rw [XE] at hc
  rcases List.mem_append.1 hc with hc | hc
  ·exact encB_byte (h x (by simp)) (h8 x (by simp)) c hc
  ·exact encBs_byte (l:=l) (fun y hy =>h y (by simp [hy])) (fun y hy =>h8 y (by simp [hy])) c hc
theorem enc_byte {l:List YT} (h:pokL l) (h8:∀y ∈ l,byteB y):∀c ∈ WB l,c < 256:=by
 intro c hc
 unfold WB encL at hc
 have h1:=h.1
 simp only [List.mem_append] at hc
 rcases hc with hc | hc | hc
 ·simp at hc
  omega
 ·exact WA 9 _ (by omega) c hc
 ·exact encBs_byte h.2 h8 c hc
theorem u8_of {ps:List YT} (h8:∀y ∈ ps,byteB y):∀d ∈ ps.map ofB,∀r ∈ d.recs,U8 r.r:=by
 intro d hd r hr
 obtain⟨x,hx,rfl⟩:=List.mem_map.1 hd
 obtain⟨y,hy,rfl⟩:=List.mem_map.1 hr
 exact⟨y.data,rfl,h8 x hx y hy⟩
end Go.Ev.C
end