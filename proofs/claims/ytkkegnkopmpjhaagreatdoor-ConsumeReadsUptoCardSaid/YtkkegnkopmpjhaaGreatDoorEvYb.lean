/- Contracts: Split. -/
import Derived.Test.YtkkegnkopmpjhaaGreatDoorEvY
import Derived.Test.YtkkegnkopmpjhaaGreatDoorEvXb
import Derived.Test.YtkkegnkopmpjhaaGreatDoorEvX
set_option linter.unusedVariables false
set_option linter.unusedSimpArgs false
set_option linter.all false
section
namespace Go.Ev.C
open Go.Proofs Go.RowKit Go.Fmt
set_option maxRecDepth 100000
set_option linter.unusedSimpArgs false
variable {L:World→Prop} [Yu Q L]
/-- A word that is expected. -/
def ZX (w s:List Nat):Option (List Nat):=if s.take w.length = w then some (s.drop w.length) else none
/-- Decimal digits, from a value and a count on. -/
def WH (n many:Nat):List Nat→Option (Nat × List Nat)
 | [] =>if many = 0 then none else some (n,[])
 | x :: s =>if 48≤x∧x≤57 then (if 0 < many∧n = 0 then none else if 10 * n + (x - 48) > 1099511627776 then none else WH (10 * n + (x - 48)) (many + 1) s)
  else if many = 0 then none else some (n,x :: s)
def finS (least b:Nat) (o:Option (Nat × List Nat)):Option (Nat × List Nat):=match o with
 | some (n,x :: r) =>if x = b∧least≤n then some (n,r) else none
 | _ =>none
/-- A number with a byte behind it. -/
def Wp (least b:Nat) (s:List Nat):Option (Nat × List Nat):=finS least b (WH 0 0 s)
set_option maxHeartbeats 4000000 in
theorem word_w (H:AH) (p:Nat) (bv:AV) (s:List Nat) (a:Nat) (w:List Nat) (hw:w ≠ []) (hwl:w.length≤100) (hr:Rd H p bv s a) :
  WF Q L (PF 88 13 (Zn 0 [.ptr p 0,.str w] .leaf) [.code c88]) H (YL Q 88 (ZX w (s.drop a)) (fun r _ H' =>Y2 p H H'∧∃a',r = s.drop a'∧Rd H' p bv s a') (fun v H' =>v = bad∧Y2 p H H')):=by
 unfold c88 Tryz.f88
 simp only [Option.getD_some]
 have hle:=hr.le
 have hl:Wq Q .len [9] [.str w] = some (.int .i64 (w.length:Int)):=by kernel_rfl
 by_cases hn:a + w.length≤s.length
 rotate_left
 ·have hno:ZX w (s.drop a) = none:=by
   unfold ZX
   rw [if_neg]
   intro e
   have:=congrArg List.length e
   simp at this
   omega
  rw [hno]
  simp only [YL]
  repeat (first|(apply Zh;exact rfl)|apply Zc|apply WO.nil|(apply Zl;exact rfl;simp only [rE,rS,li,lo,reduceIte,Nat.reduceEqDiff,Nat.reduceAdd,Nat.reduceMul,Ye,Zo,Y0,YB,YO,XJ,hl];exact rfl;exact rfl))
  (apply WO.callP;(focus (simp only [rQ,Zb,li,lo,reduceIte,Nat.reduceEqDiff,Nat.reduceAdd,beq_self_eq_true];done));simp only [rE,rS,li,lo,reduceIte,Nat.reduceEqDiff,Nat.reduceAdd,Nat.reduceMul,Ye,Zo,Y0,YB,YO,XJ,hl];exact rfl;exact take_p H p bv s a w.length hr (by omega);rintro _ _ ⟨rfl,rfl⟩)
  exact⟨rfl,Y2.refl _ _⟩
 have htl:((s.drop a).take w.length).length = w.length:=by simp;omega
 have hwn:w.length ≠ 0:=fun e =>hw (List.length_eq_zero_iff.1 e)
 repeat (first|(apply Zh;exact rfl)|apply Zc|apply WO.nil|(apply Zl;exact rfl;simp only [rE,rS,li,lo,reduceIte,Nat.reduceEqDiff,Nat.reduceAdd,Nat.reduceMul,Ye,Zo,Y0,YB,YO,XJ,hl];exact rfl;exact rfl))
 (apply WO.call;(focus (simp only [rQ,Zb,li,lo,reduceIte,Nat.reduceEqDiff,Nat.reduceAdd,beq_self_eq_true];done));simp only [rE,rS,li,lo,reduceIte,Nat.reduceEqDiff,Nat.reduceAdd,Nat.reduceMul,Ye,Zo,Y0,YB,YO,XJ,hl];exact rfl;exact take_c H p bv s a w.length hr hn;rintro w1 H2 ⟨hfr,r2,u2⟩;refine⟨_,rfl,?_⟩)
 obtain⟨b4,rfl,hcv⟩:=fresh_str hfr (fun e =>by rw [e] at htl;simp at htl;exact hwn htl.symm) (fun c hc =>hr.byte c (List.mem_of_mem_drop (List.mem_of_mem_take hc)))
 cases q4:((s.drop a).take w.length == w)
 ·have hno:ZX w (s.drop a) = none:=by
   unfold ZX
   rw [if_neg]
   intro e
   rw [e] at q4
   simp at q4
  rw [hno]
  simp only [YL]
  repeat (first|(apply Zh;exact rfl)|apply Zc|apply WO.nil|(apply WO.op;(focus (simp only [rQ,Zb,li,lo,reduceIte,Nat.reduceEqDiff,Nat.reduceAdd,beq_self_eq_true,q4];done));simp only [rE,rS,li,lo,reduceIte,Nat.reduceEqDiff,Nat.reduceAdd,Nat.reduceMul,Ye,Zo,Y0,YB,YO,XJ,hcv,q4];exact rfl;exact rfl)|(apply WO.unwanted;(focus (simp only [rQ,Zb,li,lo,reduceIte,Nat.reduceEqDiff,Nat.reduceAdd,beq_self_eq_true,q4];done));exact rfl))
  (first|(apply WF.condT;(focus (simp only [Zg,Zd,Tri.gp,Zn,Bool.not_true,Bool.not_false,reduceIte,Nat.reduceEqDiff,q4];done)))|(apply WF.condF;(focus (simp only [Zg,Zd,Tri.gp,Zn,Bool.not_true,Bool.not_false,reduceIte,Nat.reduceEqDiff,q4];done))))
  repeat (first|(apply Zh;exact rfl)|apply Zc|apply WO.nil|(apply Zl;exact rfl;simp only [rE,rS,li,lo,reduceIte,Nat.reduceEqDiff,Nat.reduceAdd,Nat.reduceMul,XF];exact rfl;exact rfl))
  (apply WO.panic;(focus (simp only [rQ,Zb,li,lo,reduceIte,Nat.reduceEqDiff,Nat.reduceAdd,beq_self_eq_true];done));simp only [rE,rS,li,lo,reduceIte,Nat.reduceEqDiff,Nat.reduceAdd,Nat.reduceMul,XF,WG];exact rfl)
  exact⟨rfl,u2⟩
 ·have e4:(s.drop a).take w.length = w:=by simpa using q4
  have hyes:ZX w (s.drop a) = some (s.drop (a + w.length)):=by
   unfold ZX
   rw [if_pos e4,List.drop_drop]
  rw [hyes]
  simp only [YL]
  repeat (first|(apply Zh;exact rfl)|apply Zc|apply WO.nil|(apply WO.op;(focus (simp only [rQ,Zb,li,lo,reduceIte,Nat.reduceEqDiff,Nat.reduceAdd,beq_self_eq_true,q4];done));simp only [rE,rS,li,lo,reduceIte,Nat.reduceEqDiff,Nat.reduceAdd,Nat.reduceMul,Ye,Zo,Y0,YB,YO,XJ,hcv,q4];exact rfl;exact rfl)|(apply WO.unwanted;(focus (simp only [rQ,Zb,li,lo,reduceIte,Nat.reduceEqDiff,Nat.reduceAdd,beq_self_eq_true,q4];done));exact rfl))
  (first|(apply WF.condT;(focus (simp only [Zg,Zd,Tri.gp,Zn,Bool.not_true,Bool.not_false,reduceIte,Nat.reduceEqDiff,q4];done)))|(apply WF.condF;(focus (simp only [Zg,Zd,Tri.gp,Zn,Bool.not_true,Bool.not_false,reduceIte,Nat.reduceEqDiff,q4];done))))
  repeat (first|(apply Zh;exact rfl)|apply Zc|apply WO.nil|(apply WO.op;(focus (simp only [rQ,Zb,li,lo,reduceIte,Nat.reduceEqDiff,Nat.reduceAdd,beq_self_eq_true,q4];done));simp only [rE,rS,li,lo,reduceIte,Nat.reduceEqDiff,Nat.reduceAdd,Nat.reduceMul,q4];exact rfl;exact rfl)|(apply WO.unwanted;(focus (simp only [rQ,Zb,li,lo,reduceIte,Nat.reduceEqDiff,Nat.reduceAdd,beq_self_eq_true,q4];done));exact rfl))
  apply WF.fall
  focus (simp only [rs88,Zi,Tri.gp,Zn,ZL];exact rfl)
  exact⟨u2,a + w.length,rfl,r2⟩
theorem word_c (H:AH) (p:Nat) (bv:AV) (s:List Nat) (a:Nat) (w:List Nat) (hw:w ≠ []) (hwl:w.length≤100) (hr:Rd H p bv s a) {r:List Nat} (h:ZX w (s.drop a) = some r):Fn Q L 88 [.ptr p 0,.str w] H (fun _ H' =>Y2 p H H'∧∃a',r = s.drop a'∧Rd H' p bv s a'):=YL.fn h (en88 _ _) (word_w H p bv s a w hw hwl hr)
theorem word_p (H:AH) (p:Nat) (bv:AV) (s:List Nat) (a:Nat) (w:List Nat) (hw:w ≠ []) (hwl:w.length≤100) (hr:Rd H p bv s a) (h:ZX w (s.drop a) = none):Pn Q L 88 [.ptr p 0,.str w] H (fun v H' =>v = bad∧Y2 p H H'):=YL.pn h (en88 _ _) (word_w H p bv s a w hw hwl hr)
set_option maxHeartbeats 8000000 in
theorem decimal_w (H:AH) (p:Nat) (bv:AV) (s:List Nat) (a least b:Nat) (hb:b < 48) (hl1:least≤1) (hr:Rd H p bv s a) :
  WF Q L (PF 89 53 (Zn 0 [.ptr p 0,.int .i64 (least:Int),.int .u8 (b:Int)] .leaf) [.code c89]) H (YL Q 89 (Wp least b (s.drop a)) (fun r w H' =>w = .int .i64 (r.1:Int)∧r.1≤1099511627776∧least≤r.1∧Y2 p H H'∧∃a',r.2 = s.drop a'∧Rd H' p bv s a') (fun v H' =>v = bad∧Y2 p H H')):=by
 have hlen:=hr.len
 unfold c89 Tryz.f89
 simp only [Option.getD_some]
 repeat (first | (apply Zh;exact rfl) | apply Zc | apply WO.nil | (apply Zl;exact rfl;simp only [rE,rS,li,lo,reduceIte,Nat.reduceEqDiff,Nat.reduceAdd,Nat.reduceMul];exact rfl;exact rfl))
 refine Ys (fun m t H' =>∃i n a':Nat,a' + m = s.length∧i≤a'∧n≤1099511627776∧Rd H' p bv s a'∧Y2 p H H'∧Wp least b (s.drop a) = finS least b (WH n i (s.drop a'))∧t.get 0 = some (.ptr p 0)∧t.get 1 = some (.int .i64 (least:Int))∧t.get 2 = some (.int .u8 (b:Int))∧t.get 7 = some (.int .i64 (n:Int))∧t.get 8 = some (.int .i64 (i:Int))) (s.length - a) ?_ ?_
 ·have:=hr.le
  refine⟨0,0,a,by omega,by omega,by omega,hr,Y2.refl _ _,rfl,?_,?_,?_,?_,?_⟩
  all_goals simp [Tri.gp,Zn]
 rintro m t H' ⟨i,n,a',ham,hia,hn,rd,hux,hrel,t0,t1,t2,t7,t8⟩ ih
 by_cases hend:a' < s.length
 rotate_left
 ·have hdr:s.drop a' = []:=List.drop_of_length_le (by omega)
  have hnone:Wp least b (s.drop a) = none:=by
   rw [hrel,hdr,WH]
   split <;> rfl
  rw [hnone]
  obtain rfl:a' = s.length:=by omega
  simp only [YL]
  repeat (first|(apply Zh;exact rfl)|apply Zc|apply WO.nil|(apply Zl;exact rfl;simp only [rE,rS,li,lo,reduceIte,Nat.reduceEqDiff,Nat.reduceAdd,Nat.reduceMul,t0,cu132];exact rfl;exact rfl))
  (apply WO.callP;(focus (simp only [rQ,Zb,li,lo,reduceIte,Nat.reduceEqDiff,Nat.reduceAdd,beq_self_eq_true];done));simp only [rE,rS,li,lo,reduceIte,Nat.reduceEqDiff,Nat.reduceAdd,Nat.reduceMul,t0,cu132];exact rfl;exact next_p _ p bv s rd;rintro _ H2 ⟨rfl,rfl⟩)
  exact⟨rfl,hux⟩
 have hdr:s.drop a' = s[a'] :: s.drop (a' + 1):=List.drop_eq_getElem_cons hend
 have hx8:=rd.byte _ (List.getElem_mem hend)
 have rd2:=rd.set (a':=a' + 1) (by omega)
 have hux2:=hux.trans (WY H' p bv (a' + 1))
 repeat (first|(apply Zh;exact rfl)|apply Zc|apply WO.nil|(apply Zl;exact rfl;simp only [rE,rS,li,lo,reduceIte,Nat.reduceEqDiff,Nat.reduceAdd,Nat.reduceMul,t0,cu132];exact rfl;exact rfl))
 (apply WO.call;(focus (simp only [rQ,Zb,li,lo,reduceIte,Nat.reduceEqDiff,Nat.reduceAdd,beq_self_eq_true];done));simp only [rE,rS,li,lo,reduceIte,Nat.reduceEqDiff,Nat.reduceAdd,Nat.reduceMul,t0,cu132];exact rfl;exact next_c _ p bv s a' rd hend;rintro _ H2 ⟨rfl,rfl⟩;refine⟨_,rfl,?_⟩)
 rw [hdr] at hrel
 generalize s[a'] = x at *
 have di:∀{y z:Nat},decide ((y:Int) = (z:Int)) = decide (y = z):=fun {y z} =>by
  by_cases e:y = z
  ·rw [decide_eq_true e,decide_eq_true (by omega)]
  ·rw [decide_eq_false e,decide_eq_false (by omega)]
 by_cases hxb:x = b∧0 < i
 ·obtain⟨rfl,hi⟩:=hxb
  have q1:decide ((x:Int) = (x:Int)) = true:=by simp
  have q2:decide ((0:Int) < (i:Int)) = true:=decide_eq_true (by omega)
  repeat (first|(apply Zh;exact rfl)|apply Zc|apply WO.nil|(apply WO.op;(focus (simp only [rQ,Zb,li,lo,reduceIte,Nat.reduceEqDiff,Nat.reduceAdd,beq_self_eq_true,q1,q2];done));simp only [rE,rS,li,lo,reduceIte,Nat.reduceEqDiff,Nat.reduceAdd,Nat.reduceMul,t2,t8,q1,q2];exact rfl;exact rfl)|(apply WO.unwanted;(focus (simp only [rQ,Zb,li,lo,reduceIte,Nat.reduceEqDiff,Nat.reduceAdd,beq_self_eq_true,q1,q2];done));exact rfl))
  (first|(apply WF.condT;(focus (simp only [Zg,Zd,Tri.gp,Zn,Bool.not_true,Bool.not_false,reduceIte,Nat.reduceEqDiff,q2];done)))|(apply WF.condF;(focus (simp only [Zg,Zd,Tri.gp,Zn,Bool.not_true,Bool.not_false,reduceIte,Nat.reduceEqDiff,q2];done))))
  rw [WH,if_neg (by omega),if_neg (by omega)] at hrel
  by_cases hln:least≤n
  ·have q3:decide ((n:Int) < (least:Int)) = false:=decide_eq_false (by omega)
   have hyes:Wp least x (s.drop a) = some (n,s.drop (a' + 1)):=by rw [hrel,finS,if_pos ⟨rfl,hln⟩]
   rw [hyes]
   simp only [YL]
   repeat (first|(apply Zh;exact rfl)|apply Zc|apply WO.nil|(apply WO.op;(focus (simp only [rQ,Zb,li,lo,reduceIte,Nat.reduceEqDiff,Nat.reduceAdd,beq_self_eq_true,q3];done));simp only [rE,rS,li,lo,reduceIte,Nat.reduceEqDiff,Nat.reduceAdd,Nat.reduceMul,t7,t1,q3];exact rfl;exact rfl)|(apply WO.unwanted;(focus (simp only [rQ,Zb,li,lo,reduceIte,Nat.reduceEqDiff,Nat.reduceAdd,beq_self_eq_true,q3];done));exact rfl))
   (first|(apply WF.condT;(focus (simp only [Zg,Zd,Tri.gp,Zn,Bool.not_true,Bool.not_false,reduceIte,Nat.reduceEqDiff,q3];done)))|(apply WF.condF;(focus (simp only [Zg,Zd,Tri.gp,Zn,Bool.not_true,Bool.not_false,reduceIte,Nat.reduceEqDiff,q3];done))))
   repeat (first|(apply Zh;exact rfl)|apply Zc|apply WO.nil|(apply Zl;exact rfl;simp only [rE,rS,li,lo,reduceIte,Nat.reduceEqDiff,Nat.reduceAdd,Nat.reduceMul,t7];exact rfl;exact rfl))
   (apply WF.ret;(focus (simp only [Zi,Tri.gp,Zn,ZL,reduceIte,Nat.reduceEqDiff,rs89];exact rfl)))
   exact⟨rfl,hn,hln,hux2,a' + 1,rfl,rd2⟩
  ·have q3:decide ((n:Int) < (least:Int)) = true:=decide_eq_true (by omega)
   have hno:Wp least x (s.drop a) = none:=by rw [hrel,finS,if_neg (by omega)]
   rw [hno]
   simp only [YL]
   repeat (first|(apply Zh;exact rfl)|apply Zc|apply WO.nil|(apply WO.op;(focus (simp only [rQ,Zb,li,lo,reduceIte,Nat.reduceEqDiff,Nat.reduceAdd,beq_self_eq_true,q3];done));simp only [rE,rS,li,lo,reduceIte,Nat.reduceEqDiff,Nat.reduceAdd,Nat.reduceMul,t7,t1,q3];exact rfl;exact rfl)|(apply WO.unwanted;(focus (simp only [rQ,Zb,li,lo,reduceIte,Nat.reduceEqDiff,Nat.reduceAdd,beq_self_eq_true,q3];done));exact rfl))
   (first|(apply WF.condT;(focus (simp only [Zg,Zd,Tri.gp,Zn,Bool.not_true,Bool.not_false,reduceIte,Nat.reduceEqDiff,q3];done)))|(apply WF.condF;(focus (simp only [Zg,Zd,Tri.gp,Zn,Bool.not_true,Bool.not_false,reduceIte,Nat.reduceEqDiff,q3];done))))
   repeat (first|(apply Zh;exact rfl)|apply Zc|apply WO.nil|(apply Zl;exact rfl;simp only [rE,rS,li,lo,reduceIte,Nat.reduceEqDiff,Nat.reduceAdd,Nat.reduceMul,XF];exact rfl;exact rfl))
   (apply WO.panic;(focus (simp only [rQ,Zb,li,lo,reduceIte,Nat.reduceEqDiff,Nat.reduceAdd,beq_self_eq_true];done));simp only [rE,rS,li,lo,reduceIte,Nat.reduceEqDiff,Nat.reduceAdd,Nat.reduceMul,XF,WG];exact rfl)
   exact⟨rfl,hux2⟩
 iterate 3 (first | (apply Zh;exact rfl) | apply Zc | apply WO.nil | (apply Zl;exact rfl;simp only [rE,rS,li,lo,reduceIte,Nat.reduceEqDiff,Nat.reduceAdd,Nat.reduceMul];exact rfl;exact rfl))
 refine WF.cutI (fun t' HH =>HH = Wk H' p bv (a' + 1)∧t'.get 0 = t.get 0∧t'.get 1 = t.get 1∧t'.get 2 = t.get 2∧t'.get 7 = t.get 7∧t'.get 8 = t.get 8∧t'.get 9 = some (.int .u8 (x:Int))) ?_ ?_
 rotate_left
 ·intro tail
  cases q1:decide ((x:Int) = (b:Int))
  ·iterate 10 (first|(apply Zh;exact rfl)|apply Zc|apply WO.nil|(apply WO.op;(focus (simp only [rQ,Zb,li,lo,reduceIte,Nat.reduceEqDiff,Nat.reduceAdd,beq_self_eq_true,q1];done));simp only [rE,rS,li,lo,reduceIte,Nat.reduceEqDiff,Nat.reduceAdd,Nat.reduceMul,t2,t8,q1];exact rfl;exact rfl)|(apply WO.unwanted;(focus (simp only [rQ,Zb,li,lo,reduceIte,Nat.reduceEqDiff,Nat.reduceAdd,beq_self_eq_true,q1];done));exact rfl))
   (first|(apply WF.condT;(focus (simp only [Zg,Zd,Tri.gp,Zn,Bool.not_true,Bool.not_false,reduceIte,Nat.reduceEqDiff];done)))|(apply WF.condF;(focus (simp only [Zg,Zd,Tri.gp,Zn,Bool.not_true,Bool.not_false,reduceIte,Nat.reduceEqDiff];done))))
   iterate 1 (first | (apply Zh;exact rfl) | apply Zc | apply WO.nil | (apply Zl;exact rfl;simp only [rE,rS,li,lo,reduceIte,Nat.reduceEqDiff,Nat.reduceAdd,Nat.reduceMul];exact rfl;exact rfl))
   refine tail _ _ ⟨rfl,?_,?_,?_,?_,?_,?_⟩
   all_goals simp [Tri.gp]
  ·have hxe:=of_decide_eq_true q1
   have q2:decide ((0:Int) < (i:Int)) = false:=decide_eq_false (fun e =>hxb ⟨by omega,by omega⟩)
   iterate 10 (first|(apply Zh;exact rfl)|apply Zc|apply WO.nil|(apply WO.op;(focus (simp only [rQ,Zb,li,lo,reduceIte,Nat.reduceEqDiff,Nat.reduceAdd,beq_self_eq_true,q1,q2];done));simp only [rE,rS,li,lo,reduceIte,Nat.reduceEqDiff,Nat.reduceAdd,Nat.reduceMul,t2,t8,q1,q2];exact rfl;exact rfl)|(apply WO.unwanted;(focus (simp only [rQ,Zb,li,lo,reduceIte,Nat.reduceEqDiff,Nat.reduceAdd,beq_self_eq_true,q1,q2];done));exact rfl))
   (first|(apply WF.condT;(focus (simp only [Zg,Zd,Tri.gp,Zn,Bool.not_true,Bool.not_false,reduceIte,Nat.reduceEqDiff,q2];done)))|(apply WF.condF;(focus (simp only [Zg,Zd,Tri.gp,Zn,Bool.not_true,Bool.not_false,reduceIte,Nat.reduceEqDiff,q2];done))))
   iterate 1 (first | (apply Zh;exact rfl) | apply Zc | apply WO.nil | (apply Zl;exact rfl;simp only [rE,rS,li,lo,reduceIte,Nat.reduceEqDiff,Nat.reduceAdd,Nat.reduceMul];exact rfl;exact rfl))
   refine tail _ _ ⟨rfl,?_,?_,?_,?_,?_,?_⟩
   all_goals simp [Tri.gp]
 rintro t' HH ⟨rfl,v0,v1,v2,v7,v8,v9⟩
 rw [t0] at v0
 rw [t1] at v1
 rw [t2] at v2
 rw [t7] at v7
 rw [t8] at v8
 clear t0 t1 t2 t7 t8
 by_cases hdig:48≤x∧x≤57
 rotate_left
 ·have hno:Wp least b (s.drop a) = none:=by
   rw [hrel,WH,if_neg hdig]
   split
   ·rfl
   ·rw [finS,if_neg (by omega)]
  rw [hno]
  simp only [YL]
  cases q3:decide ((x:Int) < 48)
  ·have h48:=of_decide_eq_false q3
   have q4:decide ((57:Int) < (x:Int)) = true:=decide_eq_true (by omega)
   repeat (first|(apply Zh;exact rfl)|apply Zc|apply WO.nil|(apply WO.op;(focus (simp only [rQ,Zb,li,lo,reduceIte,Nat.reduceEqDiff,Nat.reduceAdd,beq_self_eq_true,q3,q4];done));simp only [rE,rS,li,lo,reduceIte,Nat.reduceEqDiff,Nat.reduceAdd,Nat.reduceMul,v7,v8,v9,q3,q4];exact rfl;exact rfl)|(apply WO.unwanted;(focus (simp only [rQ,Zb,li,lo,reduceIte,Nat.reduceEqDiff,Nat.reduceAdd,beq_self_eq_true,q3,q4];done));exact rfl))
   (first|(apply WF.condT;(focus (simp only [Zg,Zd,Tri.gp,Zn,Bool.not_true,Bool.not_false,reduceIte,Nat.reduceEqDiff,q4];done)))|(apply WF.condF;(focus (simp only [Zg,Zd,Tri.gp,Zn,Bool.not_true,Bool.not_false,reduceIte,Nat.reduceEqDiff,q4];done))))
   repeat (first|(apply Zh;exact rfl)|apply Zc|apply WO.nil|(apply Zl;exact rfl;simp only [rE,rS,li,lo,reduceIte,Nat.reduceEqDiff,Nat.reduceAdd,Nat.reduceMul,XF];exact rfl;exact rfl))
   (apply WO.panic;(focus (simp only [rQ,Zb,li,lo,reduceIte,Nat.reduceEqDiff,Nat.reduceAdd,beq_self_eq_true];done));simp only [rE,rS,li,lo,reduceIte,Nat.reduceEqDiff,Nat.reduceAdd,Nat.reduceMul,XF,WG];exact rfl)
   exact⟨rfl,hux2⟩
  ·repeat (first|(apply Zh;exact rfl)|apply Zc|apply WO.nil|(apply WO.op;(focus (simp only [rQ,Zb,li,lo,reduceIte,Nat.reduceEqDiff,Nat.reduceAdd,beq_self_eq_true,q3];done));simp only [rE,rS,li,lo,reduceIte,Nat.reduceEqDiff,Nat.reduceAdd,Nat.reduceMul,v7,v8,v9,q3];exact rfl;exact rfl)|(apply WO.unwanted;(focus (simp only [rQ,Zb,li,lo,reduceIte,Nat.reduceEqDiff,Nat.reduceAdd,beq_self_eq_true,q3];done));exact rfl))
   (first|(apply WF.condT;(focus (simp only [Zg,Zd,Tri.gp,Zn,Bool.not_true,Bool.not_false,reduceIte,Nat.reduceEqDiff,q3];done)))|(apply WF.condF;(focus (simp only [Zg,Zd,Tri.gp,Zn,Bool.not_true,Bool.not_false,reduceIte,Nat.reduceEqDiff,q3];done))))
   repeat (first|(apply Zh;exact rfl)|apply Zc|apply WO.nil|(apply Zl;exact rfl;simp only [rE,rS,li,lo,reduceIte,Nat.reduceEqDiff,Nat.reduceAdd,Nat.reduceMul,XF];exact rfl;exact rfl))
   (apply WO.panic;(focus (simp only [rQ,Zb,li,lo,reduceIte,Nat.reduceEqDiff,Nat.reduceAdd,beq_self_eq_true];done));simp only [rE,rS,li,lo,reduceIte,Nat.reduceEqDiff,Nat.reduceAdd,Nat.reduceMul,XF,WG];exact rfl)
   exact⟨rfl,hux2⟩
 have q3:decide ((x:Int) < 48) = false:=decide_eq_false (by omega)
 have q4:decide ((57:Int) < (x:Int)) = false:=decide_eq_false (by omega)
 by_cases hz:0 < i∧n = 0
 ·have hno:Wp least b (s.drop a) = none:=by rw [hrel,WH,if_pos hdig,if_pos hz];rfl
  rw [hno]
  simp only [YL]
  have q5:decide ((0:Int) < (i:Int)) = true:=decide_eq_true (by omega)
  have q6:decide ((n:Int) = 0) = true:=decide_eq_true (by omega)
  repeat (first|(apply Zh;exact rfl)|apply Zc|apply WO.nil|(apply WO.op;(focus (simp only [rQ,Zb,li,lo,reduceIte,Nat.reduceEqDiff,Nat.reduceAdd,beq_self_eq_true,q3,q4,q5,q6];done));simp only [rE,rS,li,lo,reduceIte,Nat.reduceEqDiff,Nat.reduceAdd,Nat.reduceMul,v7,v8,v9,q3,q4,q5,q6];exact rfl;exact rfl)|(apply WO.unwanted;(focus (simp only [rQ,Zb,li,lo,reduceIte,Nat.reduceEqDiff,Nat.reduceAdd,beq_self_eq_true,q3,q4,q5,q6];done));exact rfl))
  (first|(apply WF.condT;(focus (simp only [Zg,Zd,Tri.gp,Zn,Bool.not_true,Bool.not_false,reduceIte,Nat.reduceEqDiff,q6];done)))|(apply WF.condF;(focus (simp only [Zg,Zd,Tri.gp,Zn,Bool.not_true,Bool.not_false,reduceIte,Nat.reduceEqDiff,q6];done))))
  repeat (first|(apply Zh;exact rfl)|apply Zc|apply WO.nil|(apply Zl;exact rfl;simp only [rE,rS,li,lo,reduceIte,Nat.reduceEqDiff,Nat.reduceAdd,Nat.reduceMul,XF];exact rfl;exact rfl))
  (apply WO.panic;(focus (simp only [rQ,Zb,li,lo,reduceIte,Nat.reduceEqDiff,Nat.reduceAdd,beq_self_eq_true];done));simp only [rE,rS,li,lo,reduceIte,Nat.reduceEqDiff,Nat.reduceAdd,Nat.reduceMul,XF,WG];exact rfl)
  exact⟨rfl,hux2⟩
 rw [WH,if_pos hdig,if_neg hz] at hrel
 have w1:IntKind.u8.wrap ((x:Int) - 48) = ((x - 48:Nat):Int):=by rw [wr8];omega
 have w2:IntKind.i64.wrap ((x - 48:Nat):Int) = ((x - 48:Nat):Int):=Go.Ev.w64 (by omega) (by omega)
 have w3:IntKind.i64.wrap (10 * (n:Int)) = ((10 * n:Nat):Int):=by rw [Go.Ev.w64 (by omega) (by omega)];omega
 have w4:IntKind.i64.wrap (((10 * n:Nat):Int) + ((x - 48:Nat):Int)) = ((10 * n + (x - 48):Nat):Int):=by rw [Go.Ev.w64 (by omega) (by omega)];omega
 have w5:IntKind.i64.wrap ((i:Int) + 1) = ((i + 1:Nat):Int):=by rw [Go.Ev.w64 (by omega) (by omega)];omega
 generalize hn':10 * n + (x - 48) = n' at *
 iterate 1 (first | (apply Zh;exact rfl) | apply Zc | apply WO.nil | (apply Zl;exact rfl;simp only [rE,rS,li,lo,reduceIte,Nat.reduceEqDiff,Nat.reduceAdd,Nat.reduceMul];exact rfl;exact rfl))
 refine WF.cutI (fun t2 HH =>HH = Wk H' p bv (a' + 1)∧t2.get 0 = t'.get 0∧t2.get 1 = t'.get 1∧t2.get 2 = t'.get 2∧t2.get 7 = t'.get 7∧t2.get 8 = t'.get 8∧t2.get 9 = t'.get 9) ?_ ?_
 rotate_left
 ·intro tail
  cases q5:decide ((0:Int) < (i:Int))
  ·iterate 17 (first|(apply Zh;exact rfl)|apply Zc|apply WO.nil|(apply WO.op;(focus (simp only [rQ,Zb,li,lo,reduceIte,Nat.reduceEqDiff,Nat.reduceAdd,beq_self_eq_true,q3,q4,q5];done));simp only [rE,rS,li,lo,reduceIte,Nat.reduceEqDiff,Nat.reduceAdd,Nat.reduceMul,v7,v8,v9,q3,q4,q5];exact rfl;exact rfl)|(apply WO.unwanted;(focus (simp only [rQ,Zb,li,lo,reduceIte,Nat.reduceEqDiff,Nat.reduceAdd,beq_self_eq_true,q3,q4,q5];done));exact rfl))
   (first|(apply WF.condT;(focus (simp only [Zg,Zd,Tri.gp,Zn,Bool.not_true,Bool.not_false,reduceIte,Nat.reduceEqDiff];done)))|(apply WF.condF;(focus (simp only [Zg,Zd,Tri.gp,Zn,Bool.not_true,Bool.not_false,reduceIte,Nat.reduceEqDiff];done))))
   iterate 1 (first | (apply Zh;exact rfl) | apply Zc | apply WO.nil | (apply Zl;exact rfl;simp only [rE,rS,li,lo,reduceIte,Nat.reduceEqDiff,Nat.reduceAdd,Nat.reduceMul];exact rfl;exact rfl))
   refine tail _ _ ⟨rfl,?_,?_,?_,?_,?_,?_⟩
   all_goals simp [Tri.gp]
  ·have h5:=of_decide_eq_true q5
   have q6:decide ((n:Int) = 0) = false:=decide_eq_false (fun e =>hz ⟨by omega,by omega⟩)
   iterate 17 (first|(apply Zh;exact rfl)|apply Zc|apply WO.nil|(apply WO.op;(focus (simp only [rQ,Zb,li,lo,reduceIte,Nat.reduceEqDiff,Nat.reduceAdd,beq_self_eq_true,q3,q4,q5,q6];done));simp only [rE,rS,li,lo,reduceIte,Nat.reduceEqDiff,Nat.reduceAdd,Nat.reduceMul,v7,v8,v9,q3,q4,q5,q6];exact rfl;exact rfl)|(apply WO.unwanted;(focus (simp only [rQ,Zb,li,lo,reduceIte,Nat.reduceEqDiff,Nat.reduceAdd,beq_self_eq_true,q3,q4,q5,q6];done));exact rfl))
   (first|(apply WF.condT;(focus (simp only [Zg,Zd,Tri.gp,Zn,Bool.not_true,Bool.not_false,reduceIte,Nat.reduceEqDiff];done)))|(apply WF.condF;(focus (simp only [Zg,Zd,Tri.gp,Zn,Bool.not_true,Bool.not_false,reduceIte,Nat.reduceEqDiff];done))))
   iterate 1 (first | (apply Zh;exact rfl) | apply Zc | apply WO.nil | (apply Zl;exact rfl;simp only [rE,rS,li,lo,reduceIte,Nat.reduceEqDiff,Nat.reduceAdd,Nat.reduceMul];exact rfl;exact rfl))
   refine tail _ _ ⟨rfl,?_,?_,?_,?_,?_,?_⟩
   all_goals simp [Tri.gp]
 rintro t2 HH ⟨rfl,u0,u1,u2,u7,u8,u9⟩
 rw [v0] at u0
 rw [v1] at u1
 rw [v2] at u2
 rw [v7] at u7
 rw [v8] at u8
 rw [v9] at u9
 by_cases hbig:n' > 1099511627776
 ·have hno:Wp least b (s.drop a) = none:=by rw [hrel,if_pos hbig];rfl
  rw [hno]
  simp only [YL]
  have q7:decide ((1099511627776:Int) < (n':Int)) = true:=decide_eq_true (by omega)
  repeat (first|(apply Zh;exact rfl)|apply Zc|apply WO.nil|(apply Zl;exact rfl;simp only [rE,rS,li,lo,reduceIte,Nat.reduceEqDiff,Nat.reduceAdd,Nat.reduceMul,u7,u8,u9,Y0,und5,und3,w1,w2,w3,w4,w5];exact rfl;exact rfl))
  repeat (first|(apply Zh;exact rfl)|apply Zc|apply WO.nil|(apply WO.op;(focus (simp only [rQ,Zb,li,lo,reduceIte,Nat.reduceEqDiff,Nat.reduceAdd,beq_self_eq_true,q7];done));simp only [rE,rS,li,lo,reduceIte,Nat.reduceEqDiff,Nat.reduceAdd,Nat.reduceMul,q7];exact rfl;exact rfl)|(apply WO.unwanted;(focus (simp only [rQ,Zb,li,lo,reduceIte,Nat.reduceEqDiff,Nat.reduceAdd,beq_self_eq_true,q7];done));exact rfl))
  (first|(apply WF.condT;(focus (simp only [Zg,Zd,Tri.gp,Zn,Bool.not_true,Bool.not_false,reduceIte,Nat.reduceEqDiff,q7];done)))|(apply WF.condF;(focus (simp only [Zg,Zd,Tri.gp,Zn,Bool.not_true,Bool.not_false,reduceIte,Nat.reduceEqDiff,q7];done))))
  repeat (first|(apply Zh;exact rfl)|apply Zc|apply WO.nil|(apply Zl;exact rfl;simp only [rE,rS,li,lo,reduceIte,Nat.reduceEqDiff,Nat.reduceAdd,Nat.reduceMul,XF];exact rfl;exact rfl))
  (apply WO.panic;(focus (simp only [rQ,Zb,li,lo,reduceIte,Nat.reduceEqDiff,Nat.reduceAdd,beq_self_eq_true];done));simp only [rE,rS,li,lo,reduceIte,Nat.reduceEqDiff,Nat.reduceAdd,Nat.reduceMul,XF,WG];exact rfl)
  exact⟨rfl,hux2⟩
 rw [if_neg hbig] at hrel
 have q7:decide ((1099511627776:Int) < (n':Int)) = false:=decide_eq_false (by omega)
 repeat (first|(apply Zh;exact rfl)|apply Zc|apply WO.nil|(apply Zl;exact rfl;simp only [rE,rS,li,lo,reduceIte,Nat.reduceEqDiff,Nat.reduceAdd,Nat.reduceMul,u7,u8,u9,Y0,und5,und3,w1,w2,w3,w4,w5];exact rfl;exact rfl))
 repeat (first|(apply Zh;exact rfl)|apply Zc|apply WO.nil|(apply WO.op;(focus (simp only [rQ,Zb,li,lo,reduceIte,Nat.reduceEqDiff,Nat.reduceAdd,beq_self_eq_true,q7];done));simp only [rE,rS,li,lo,reduceIte,Nat.reduceEqDiff,Nat.reduceAdd,Nat.reduceMul,q7];exact rfl;exact rfl)|(apply WO.unwanted;(focus (simp only [rQ,Zb,li,lo,reduceIte,Nat.reduceEqDiff,Nat.reduceAdd,beq_self_eq_true,q7];done));exact rfl))
 (first|(apply WF.condT;(focus (simp only [Zg,Zd,Tri.gp,Zn,Bool.not_true,Bool.not_false,reduceIte,Nat.reduceEqDiff,q7];done)))|(apply WF.condF;(focus (simp only [Zg,Zd,Tri.gp,Zn,Bool.not_true,Bool.not_false,reduceIte,Nat.reduceEqDiff,q7];done))))
 repeat (first | (apply Zh;exact rfl) | apply Zc | apply WO.nil | (apply Zl;exact rfl;simp only [rE,rS,li,lo,reduceIte,Nat.reduceEqDiff,Nat.reduceAdd,Nat.reduceMul];exact rfl;exact rfl))
 refine Yt ?_
 refine ih (m - 1) _ _ (by omega) ⟨i + 1,n',a' + 1,by omega,by omega,by omega,rd2,hux2,hrel,?_,?_,?_,?_,?_⟩
 all_goals simp [Tri.gp,u0,u1,u2]
theorem decimal_c (H:AH) (p:Nat) (bv:AV) (s:List Nat) (a least b:Nat) (hb:b < 48) (hl1:least≤1) (hr:Rd H p bv s a) {r:Nat × List Nat} (h:Wp least b (s.drop a) = some r):Fn Q L 89 [.ptr p 0,.int .i64 (least:Int),.int .u8 (b:Int)] H (fun w H' =>w = .int .i64 (r.1:Int)∧r.1≤1099511627776∧least≤r.1∧Y2 p H H'∧∃a',r.2 = s.drop a'∧Rd H' p bv s a'):=YL.fn h (en89 _ _ _) (decimal_w H p bv s a least b hb hl1 hr)
theorem decimal_p (H:AH) (p:Nat) (bv:AV) (s:List Nat) (a least b:Nat) (hb:b < 48) (hl1:least≤1) (hr:Rd H p bv s a) (h:Wp least b (s.drop a) = none):Pn Q L 89 [.ptr p 0,.int .i64 (least:Int),.int .u8 (b:Int)] H (fun v H' =>v = bad∧Y2 p H H'):=YL.pn h (en89 _ _ _) (decimal_w H p bv s a least b hb hl1 hr)
end Go.Ev.C
end
section
namespace Go.Ev
open Go.RowKit
/-- A round's frame. -/
abbrev PRd (f n:Nat) (t:Tri AV) (k:List AI) (l:Nat):AF:=⟨f,n,t,k,[],.run,.normal,some l⟩
section
variable {P:Program} {L:World→Prop} [Yu P L] {f n:Nat} {t:Tri AV} {k:List AI} {l:Nat} {H:AH} {Φ:AF→AH→Prop}
theorem WR.seq {a b:Code} (h:WF P L (PRd f n t (.code a :: .code b :: k) l) H Φ):WF P L (PRd f n t (.code (.seq a b) :: k) l) H Φ:=h.step fun _ =>rfl
theorem WR.block {i:Nat} {c:Code} (h:WF P L (PRd f n t (.code c :: .inBlock i :: k) l) H Φ):WF P L (PRd f n t (.code (.block i c) :: k) l) H Φ:=h.step fun _ =>rfl
theorem WR.endBlock {i:Nat} (h:WF P L (PRd f n t k l) H Φ):WF P L (PRd f n t (.inBlock i :: k) l) H Φ:=h.step fun _ =>rfl
theorem WR.region {i:Nat} {ops:Array Oper} (r:List Nat) (hr:List.range ops.size = r) (h:WF P L (PRd f n t (.inRegion ops r :: k) l) H Φ):WF P L (PRd f n t (.code (.region i ops false) :: k) l) H Φ:=by
 subst hr
 exact h.step fun _ =>rfl
theorem WR.endRegion {ops:Array Oper} (h:WF P L (PRd f n t k l) H Φ):WF P L (PRd f n t (.inRegion ops [] :: k) l) H Φ:=h.step fun _ =>rfl
theorem putT_PRd {dst:Option Tmp} {v:AV} {t':Tri AV} (h:XM n t dst v = some t'):putT (PRd f n t k l) dst v = some (PRd f n t' k l):=by
 unfold XM at h
 unfold putT
 cases dst with
 | none =>cases h;rfl
 | some e =>
  dsimp only at h ⊢
  split at h
  ·rename_i hb
   cases h
   rw [if_pos hb]
  ·cases h
theorem finish_PRd {ops:Array Oper} {i:Nat} {rest:List Nat} {o:Oper} {v:AV} {t':Tri AV} (ho:ops[i]? = some o) (hd:XM n t o.dst v = some t') :
  YZ P (PRd f n t (.inRegion ops (i :: rest) :: k) l) v H = some (PRd f n t' (.inRegion ops rest :: k) l):=by
 unfold YZ
 dsimp only
 rw [ho]
 dsimp only [Option.bind_some]
 rw [putT_PRd hd]
 rfl
theorem WR.op {ops:Array Oper} {i:Nat} {rest:List Nat} {o:Oper} {v:AV} {H1:AH} {t':Tri AV} (ho:ops[i]? = some o) (hw:Zb ops t o = some true) (hx:Xr P t o.op H = some (.val v,H1))
  (hd:XM n t o.dst v = some t') (h:WF P L (PRd f n t' (.inRegion ops rest :: k) l) H1 Φ):WF P L (PRd f n t (.inRegion ops (i :: rest) :: k) l) H Φ :=
 h.step fun cs =>by
  simp only [YU,Xs,Xq,operA,ho,hw,hx,XW,Y1]
  rw [finish_PRd ho hd]
  rfl
theorem WR.begin {p:Option Code} {g m:Nat} {t0:Tri AV} {ps:List Tmp} {ax bd:Code} {d:Nat} (hg:H.t.get l = some (.loop .ready p g m t0 ps ax bd d))
  (h:WF P L (PRd f n t k l) (H.set l (.loop .busy p g m t0 ps ax bd d)) Φ):WF P L (PRd f n t (.beginRound :: k) l) H Φ :=
 h.step fun cs =>by
  simp only [YU,Xs,Xq,beginA,hg]
  rfl
/-- A call of the loop's yield: a round, which goes on to its end. -/
theorem WF.round {ops:Array Oper} {i:Nat} {rest:List Nat} {o:Oper} {g m:Nat} {tr t0:Tri AV} {ax bd ax' bd':Code} {ps:List Tmp} {d g' m':Nat} {H1:AH} {Ψ:AH→Prop} (ho:ops[i]? = some o) (hw:Zb ops t o = some true) (hx:Xr P t o.op H = some (.round l g m tr ax bd,H1))
  (hr:WF P L (PRd g m tr [.code ax,.beginRound,.code bd] l) H1 fun fr H2 =>(∃g2 m2 t2,fr = PRd g2 m2 t2 [] l)∧H2.t.get l = some (.loop .busy none g' m' t0 ps ax' bd' d)∧Ψ (H2.set l (.loop .ready none g' m' t0 ps ax' bd' d)))
  (h:∀H2,Ψ H2→∃t',XM n t o.dst (.bool true) = some t'∧WF P L (PF f n t' (.inRegion ops rest :: k)) H2 Φ):WF P L (PF f n t (.inRegion ops (i :: rest) :: k)) H Φ:=by
 obtain⟨fr,H2,⟨⟨g2,m2,t2,rfl⟩,hg,hΨ⟩,hl⟩:=hr
 obtain⟨t',hd,hwf⟩:=h _ hΨ
 refine hwf.leads fun cs =>.trans (Z0 (m':=⟨PRd g m tr [.code ax,.beginRound,.code bd] l,PF f n t (.inRegion ops (i :: rest) :: k) :: cs,H1⟩) ?_) (.trans (hl _) (Z0 ?_))
 ·simp only [YU,Xs,Xq,operA,ho,hw,hx,XW,Y1]
 ·simp only [YU,Xs,leaveU,hg,Option.isNone_none]
  rw [finish_PF ho hd]
  rfl
theorem WO.round {ops:Array Oper} {i:Nat} {r:List Oper} {o:Oper} {g m:Nat} {tr t0:Tri AV} {ax bd ax' bd':Code} {ps:List Tmp} {d g' m':Nat} {H1:AH} {Ψ:AH→Prop} (hw:Zb ops t o = some true) (hx:Xr P t o.op H = some (.round l g m tr ax bd,H1))
  (hr:WF P L (PRd g m tr [.code ax,.beginRound,.code bd] l) H1 fun fr H2 =>(∃g2 m2 t2,fr = PRd g2 m2 t2 [] l)∧H2.t.get l = some (.loop .busy none g' m' t0 ps ax' bd' d)∧Ψ (H2.set l (.loop .ready none g' m' t0 ps ax' bd' d)))
  (h:∀H2,Ψ H2→∃t',XM n t o.dst (.bool true) = some t'∧WO P L f n ops (i + 1) r t' H2 k Φ):WO P L f n ops i (o :: r) t H k Φ:=fun hdr =>by
 obtain⟨h1,h2⟩:=Xx hdr
 refine WF.round (by simpa using h1) hw hx hr fun H2 hΨ =>?_
 obtain⟨t',ht,hwo⟩:=h H2 hΨ
 exact⟨t',ht,hwo h2⟩
/-- The heap with a loop's two blocks. -/
def rangeH (H:AH) (f n:Nat) (t:Tri AV) (ps:Array Tmp) (ax bd:Code):AH:=⟨(H.t.put H.next (some (.deferred true))).put (H.next + 1) (some (.loop .ready none f n t ps.toList ax bd H.next)),H.next + 1 + 1⟩
theorem range_step {fo:Operand} {ps:Array Tmp} {ax bd:Code} {fv:AV} {fid:FuncId} {args:List AV} {g:AF} (hf:Zg t fo = some fv) (ht:AB.one (.loop .ready none f n t ps.toList ax bd H.next) = true)
  (hc:Yh P fv [.yield (H.next + 1)] (rangeH H f n t ps ax bd) = some (.enter fid args,rangeH H f n t ps ax bd)) (he:ZQ P fid args .normal = some g) (cs:List AF) :
  YU P ⟨PF f n t (.code (.rangeFunc fo ps ax bd) :: k),cs,H⟩ = some ⟨g,PK f n t (.inRangeFunc (H.next + 1) :: k) [.collected H.next] .normal :: cs,rangeH H f n t ps ax bd⟩:=by
 have h1:AH.new H (.deferred true) = some ⟨H.t.put H.next (some (.deferred true)),H.next + 1⟩:=by unfold AH.new;rfl
 have h2:AH.new ⟨H.t.put H.next (some (.deferred true)),H.next + 1⟩ (.loop .ready none f n t ps.toList ax bd H.next) = some (rangeH H f n t ps ax bd):=by
  unfold AH.new
  rw [ht]
  rfl
 simp only [YU,Xs,Xq,codeA,rangeA,h1,hf,h2]
 rw [hc]
 dsimp only [Y1]
 rw [he]
 rfl
/-- A loop over a function that goes on to its end. -/
theorem WF.range {fo:Operand} {ps:Array Tmp} {ax bd:Code} {fv:AV} {fid:FuncId} {args:List AV} {Ψ:AV→AH→Prop} (hf:Zg t fo = some fv) (ht:AB.one (.loop .ready none f n t ps.toList ax bd H.next) = true)
  (hc:Yh P fv [.yield (H.next + 1)] (rangeH H f n t ps ax bd) = some (.enter fid args,rangeH H f n t ps ax bd)) (hfn:Fn P L fid args (rangeH H f n t ps ax bd) Ψ)
  (hk:∀v H3,Ψ v H3→H3.t.get (H.next + 1) = some (.loop .ready none f n t ps.toList ax bd H.next)∧WF P L (PK f n t k [.collected H.next] .normal) (H3.set (H.next + 1) (.loop .exhausted none f n t ps.toList ax bd H.next)) Φ):WF P L (PF f n t (.code (.rangeFunc fo ps ax bd) :: k)) H Φ:=by
 obtain⟨v,H3,g,hΨ,he,hl⟩:=hfn
 obtain⟨hg,hwf⟩:=hk v H3 hΨ
 refine hwf.leads fun cs =>.trans (Z0 (range_step hf ht hc he cs)) (.trans (hl _ cs (PK f n t (.endRangeFunc (H.next + 1) :: k) [.collected H.next] .normal) rfl rfl) (Z0 ?_))
 simp only [YU,Xs,Xq,endRangeA,hg]
 rfl
/-- A loop over a function that panics. -/
theorem WF.rangeP {fo:Operand} {ps:Array Tmp} {ax bd:Code} {fv:AV} {fid:FuncId} {args:List AV} {Ψ:AV→AH→Prop} {Ψ':AV→AH→Prop} (hf:Zg t fo = some fv) (ht:AB.one (.loop .ready none f n t ps.toList ax bd H.next) = true)
  (hc:Yh P fv [.yield (H.next + 1)] (rangeH H f n t ps ax bd) = some (.enter fid args,rangeH H f n t ps ax bd)) (hfn:Pn P L fid args (rangeH H f n t ps ax bd) Ψ)
  (hk:∀v H3,Ψ v H3→H3.t.get H.next = some (.deferred true)∧Ψ' v (H3.set H.next (.deferred false))):WF P L (PF f n t (.code (.rangeFunc fo ps ax bd) :: k)) H (XX Ψ'):=by
 obtain⟨v,H3,g,hΨ,he,hl⟩:=hfn
 obtain⟨hg,hΨ'⟩:=hk v H3 hΨ
 refine⟨_,_,?_,fun cs =>.trans (Z0 (range_step hf ht hc he cs)) (.trans (hl _ cs) (Z0 (m':=⟨{ (raiseU (PK f n t (.inRangeFunc (H.next + 1) :: k) [.collected H.next] .normal) [(v,false)]) with defers:=[] },cs,H3.set H.next (.deferred false)⟩) ?_))⟩
 ·exact⟨rfl,v,rfl,hΨ'⟩
 ·unfold YU
  dsimp only [raiseU,shed]
  unfold unwindA
  dsimp only
  rw [hg]
/-- The end of a frame that has a loop's deferred calls: none. -/
theorem WK.collected {b:Nat} {fr:AF} {Ψ:AV→AH→Prop} {v:AV} (hfr:fr = { PK f n t [] [.collected b] .normal with mode:=.returning }) (hg:H.t.get b = some (.deferred true)) (hv:ZI P { PK f n t [] [] .normal with mode:=.returning } (H.set b (.deferred false)) = some v) (h:Ψ v (H.set b (.deferred false))):WF P L fr H (Ret P f Ψ):=by
 subst hfr
 refine⟨{ PK f n t [] [] .normal with mode:=.returning },H.set b (.deferred false),⟨rfl,rfl,rfl,rfl,v,hv,h⟩,fun cs =>Z0 ?_⟩
 unfold YU
 dsimp only
 unfold unwindA
 dsimp only
 rw [hg]
end
end Go.Ev
end
section
namespace Go.Ev.C
open Go.Proofs Go.RowKit Go.Fmt
set_option maxRecDepth 100000
set_option linter.unusedSimpArgs false
variable {L:World→Prop} [Yu Q L]
/-- A part. -/
structure Sh where
 cpu:Nat
 tm:Nat
 id:Nat
 text:List Nat
 dr:Nat
def WD (d:Sh):List AV:=[.int .i64 (d.cpu:Int),.int .i64 (d.tm:Int),.int .i64 (d.id:Int),.str d.text,.int .i64 (d.dr:Int)]
def PSh (_:AH) (x:List AV) (d:Sh):Prop:=x = WD d
theorem PSh.ext {lo:Nat} {H H':AH} {x:List AV} {d:Sh} (_:Xo lo H H') (h:PSh H x d):PSh H' x d:=h
theorem ZZ:Wi Q 106 = some (.agg [.int .i64 0,.int .i64 0,.int .i64 0,.str [],.int .i64 0]):=by kernel_rfl
theorem app37i (s x:AV) (H:AH):X8 Q [37,37] [s,x] H = (match YG 5 x H with | some (n,cs) =>Yq 106 5 s n cs H | none =>none):=by kernel_rfl
def mkSY (a:Option AV):Option New:=match a with
 | some a =>(match fillU (fun i =>some (i * 5,5)) [.int .i64 0,.int .i64 0,.int .i64 0,.str [],.int .i64 0] [(0,a)] with
  | some c =>some (.cells 106 c 0 false false,fun b =>.slice b 0 1 (.is 1))
  | none =>none)
 | _ =>none
theorem bs37y (t:Tri AV) (k:Nat):Yk Q t 37 1 #[(0,.tmp k)] = mkSY (t.get k):=by
 cases ha:t.get k with
 | none =>simp [Yk,und37,Zs,Zg,ha,mkSY]
 | some a =>
  simp [Yk,und37,ZV,ZZ,Zs,Zg,ha,mkSY,AV.cells]
  cases fillU (fun i =>some (i * 5,5)) [AV.int .i64 0,.int .i64 0,.int .i64 0,.str [],.int .i64 0] [(0,a)] <;> rfl
theorem mkSY_agg (d:Sh):mkSY (some (.agg (WD d))) = some (.cells 106 (WD d) 0 false false,fun b =>.slice b 0 1 (.is 1)):=rfl
theorem shC_one (d:Sh):(WD d).all Yn = true:=rfl
theorem shC_hole (d:Sh):(WD d).all ZO = true:=by simp [WD,Wm,hole_str]
theorem YX (d:Sh):cut (WD d) 0 5 = some (WD d):=YN rfl (shC_hole d)
def rngA:Code→Code
 | .rangeFunc _ _ a _ =>a
 | c =>c
def rngB:Code→Code
 | .rangeFunc _ _ _ b =>b
 | c =>c
noncomputable def as46:Code:=rngA (subC [1,0] c46)
noncomputable def bd46:Code:=rngB (subC [1,0] c46)
/-- The loop's block. -/
def lpB (st:LoopState) (tm:Tri AV) (A B:Code) (d:Nat):AB:=.loop st none 46 13 tm [8] A B d
/-- The heap while a text's parts are read: what lies where, from a mark on. -/
structure Sp (N y:Nat) (s:List Nat) (tm:Tri AV) (A B:Code) (a:Nat) (v:AV) (l:List Sh) (Hz H:AH):Prop where
 next:N + 5≤H.next
 old:∀b,b < N→b ≠ y→H.t.get b = Hz.t.get b
 gb:H.t.get N = some (.cells 5 (Xw s) 0 true false)
 gp:H.t.get (N + 1) = some (.cells 122 [.slice N 0 s.length (.up 1),.int .i64 (a:Int)] 0 false false)
 gq:H.t.get (N + 2) = some (.cells 120 [.ptr (N + 1) 0] 0 false false)
 gd:H.t.get (N + 3) = some (.deferred true)
 gl:H.t.get (N + 4) = some (lpB .ready tm A B (N + 3))
 gy:H.t.get y = some (.cells 37 [v] 0 false false)
 hy:y < N
 own:Xh 106 5 (N + 5) PSh H v l
 le:a≤s.length
 len:s.length≤100000000
 byte:∀c ∈ s,c < 256
/-- A store that fills a new block. -/
theorem st_new {ty e:TypeId} {n:Nat} {H:AH} {z x:List AV} {v:AV} (hs:szU Q ty = some n) (hv:v.cells = x) (hn:x.length = n) (hx:x.all Yn = true) (hz:z.length = n) :
  Zr Q ty H.next 0 v ⟨H.t.put H.next (some (.cells e z 0 false false)),H.next + 1⟩ = some ⟨(H.t.put H.next (some (.cells e z 0 false false))).put H.next (some (.cells e x 0 false false)),H.next + 1⟩:=by
 rw [Z7 (H:=⟨H.t.put H.next (some (.cells e z 0 false false)),H.next + 1⟩) (c:=z) (x:=x) (e:=e) (by show (Tri.put _ _ _).get _ = _;rw [Tri.gp,if_pos rfl]) hs hv hn hx (by omega)]
 rw [List.take_zero,List.nil_append,Nat.zero_add,← hz,List.drop_length,List.append_nil]
set_option maxHeartbeats 4000000 in
theorem round46 {N y:Nat} {s:List Nat} {tm:Tri AV} {A B:Code} {a:Nat} {v:AV} {l:List Sh} {Hz H:AH} (h:Sp N y s tm A B a v l Hz H) (ht:tm.get 1 = some (.ptr y 0)) (d:Sh) (hl:l.length + 1≤274877906944) :
  WF Q L (PRd 46 13 (tm.put 8 (some (.agg (WD d)))) [.code as46,.beginRound,.code bd46] (N + 4)) H (fun fr H2 =>(∃g2 m2 t2,fr = PRd g2 m2 t2 [] (N + 4))∧H2.t.get (N + 4) = some (lpB .busy tm A B (N + 3))∧∃v',Sp N y s tm A B a v' (l ++ [d]) Hz (H2.set (N + 4) (lpB .ready tm A B (N + 3)))):=by
 have hn:=h.next
 have hy:=h.hy
 have hone:=h.own.sl.one
 have hsol:=h.own.sl.solid
 have hst:=st_new (H:=H) (e:=106) (z:=[.int .i64 0,.int .i64 0,.int .i64 0,.str [],.int .i64 0]) (v:=.agg (WD d)) ZV rfl rfl (shC_one d) rfl
 unfold as46 bd46 c46 Tryz.f46
 simp only [Option.getD_some,subC,rngA,rngB]
 refine WR.region [0,1] rfl ?_
 (apply WR.op;simp only [li];exact rfl;(focus (simp only [rQ,Zb,li,lo,reduceIte,Nat.reduceEqDiff,Nat.reduceAdd,beq_self_eq_true];done));simp only [rE,rS,li,lo,reduceIte,Nat.reduceEqDiff,Nat.reduceAdd,Nat.reduceMul,ZZ,ZV,Za agg37,Ze Xc ZV];exact rfl;exact rfl)
 (apply WR.op;simp only [li];exact rfl;(focus (simp only [rQ,Zb,li,lo,reduceIte,Nat.reduceEqDiff,Nat.reduceAdd,beq_self_eq_true];done));simp only [rE,rQ,li,lo,reduceIte,Nat.reduceEqDiff,Nat.reduceAdd,Nat.reduceMul,AH.set,ZZ,ZV,Za agg37,Ze Xc ZV,hst];exact rfl;exact rfl)
 refine WR.endRegion ?_
 have z1:Up H ⟨(H.t.put H.next (some (.cells 106 [.int .i64 0,.int .i64 0,.int .i64 0,.str [],.int .i64 0] 0 false false))).put H.next (some (.cells 106 (WD d) 0 false false)),H.next + 1⟩:=WV H _ _
 have g1:(AH.mk ((H.t.put H.next (some (.cells 106 [.int .i64 0,.int .i64 0,.int .i64 0,.str [],.int .i64 0] 0 false false))).put H.next (some (.cells 106 (WD d) 0 false false))) (H.next + 1)).t.get H.next = some (.cells 106 (WD d) 0 false false):=by show (Tri.put _ _ _).get _ = _;rw [Tri.gp,if_pos rfl]
 have n1:(AH.mk ((H.t.put H.next (some (.cells 106 [.int .i64 0,.int .i64 0,.int .i64 0,.str [],.int .i64 0] 0 false false))).put H.next (some (.cells 106 (WD d) 0 false false))) (H.next + 1)).next = H.next + 1:=rfl
 generalize (⟨(H.t.put H.next (some (.cells 106 [.int .i64 0,.int .i64 0,.int .i64 0,.str [],.int .i64 0] 0 false false))).put H.next (some (.cells 106 (WD d) 0 false false)),H.next + 1⟩:AH) = H1 at *
 refine WR.begin (by rw [z1.old _ (by omega)];exact h.gl) ?_
 have e2:Xo (N + 5) H (H1.set (N + 4) (lpB .busy tm A B (N + 3))):=(Xo.of z1).st (.inl (by omega)) _
 have g2:(H1.set (N + 4) (lpB .busy tm A B (N + 3))).t.get H.next = some (.cells 106 (WD d) 0 false false):=by show (Tri.put _ _ _).get _ = _;rw [Tri.gp,if_neg (by omega)];exact g1
 have gl2:(H1.set (N + 4) (lpB .busy tm A B (N + 3))).t.get (N + 4) = some (lpB .busy tm A B (N + 3)):=by show (Tri.put _ _ _).get _ = _;rw [Tri.gp,if_pos rfl]
 have o2:∀b,b < H.next→b ≠ N + 4→(H1.set (N + 4) (lpB .busy tm A B (N + 3))).t.get b = H.t.get b:=fun b hb hn =>by show (Tri.put _ _ _).get _ = _;rw [Tri.gp,if_neg hn];exact z1.old b hb
 have n2:(H1.set (N + 4) (lpB .busy tm A B (N + 3))).next = H.next + 1:=n1
 show WF Q L _ (H1.set (N + 4) (lpB .busy tm A B (N + 3))) _
 generalize H1.set (N + 4) (lpB .busy tm A B (N + 3)) = H2 at *
 have own2:=Xh.ext (PE:=PSh) (fun u h =>PSh.ext u h) h.own e2
 obtain⟨v',Hk,happ,own',ub,hnb⟩:=Xh.push (PE:=PSh) app37i (fun u h =>PSh.ext u h) own2 (by omega) (WD d) d rfl (shC_one d) (shC_hole d) rfl (fun _ _ =>rfl) hl
 have hvb:∀b,Xi v = some b→N + 5≤b:=fun b e =>(h.own.blk e).1
 have hone':=own'.sl.one
 have gy2:H2.cellsAt y = some [v]:=Z5 (by rw [o2 y (by omega) (by omega)];exact h.gy)
 have gyk:Hk.t.get y = some (.cells 37 [v] 0 false false):=by rw [ub.old y (by omega) (fun e =>by have:=hvb _ e;omega),o2 y (by omega) (by omega)];exact h.gy
 have hst2:Zr Q 37 y 0 v' Hk = some ⟨Hk.t.put y (some (.cells 37 [v'] 0 false false)),Hk.next⟩:=Z7 (n:=1) (x:=[v']) gyk sz37 (SL.cells' own'.sl) rfl (by simp [hone']) (by simp)
 refine WR.block ?_
 refine WR.region [0,1,2,3,4] rfl ?_
 (apply WR.op;simp only [li];exact rfl;(focus (simp only [rQ,Zb,li,lo,reduceIte,Nat.reduceEqDiff,Nat.reduceAdd,beq_self_eq_true];done));simp only [rE,rS,li,lo,reduceIte,Nat.reduceEqDiff,Nat.reduceAdd,Nat.reduceMul,ZZ,ZV,Za agg37,Ze Xc ZV,ht,gy2,hone,hsol];exact rfl;exact rfl)
 (apply WR.op;simp only [li];exact rfl;(focus (simp only [rQ,Zb,li,lo,reduceIte,Nat.reduceEqDiff,Nat.reduceAdd,beq_self_eq_true];done));simp only [rE,rS,li,lo,reduceIte,Nat.reduceEqDiff,Nat.reduceAdd,Nat.reduceMul,ZZ,ZV,Za agg37,Ze Xc ZV,Z5 g2,YX];exact rfl;exact rfl)
 (apply WR.op;simp only [li];exact rfl;(focus (simp only [rQ,Zb,li,lo,reduceIte,Nat.reduceEqDiff,Nat.reduceAdd,beq_self_eq_true];done));simp only [rE,rS,li,lo,reduceIte,Nat.reduceEqDiff,Nat.reduceAdd,Nat.reduceMul,bs37y,mkSY_agg,shC_one];exact rfl;exact rfl)
 (apply WR.op;simp only [li];exact rfl;(focus (simp only [rQ,Zb,li,lo,reduceIte,Nat.reduceEqDiff,Nat.reduceAdd,beq_self_eq_true];done));simp only [rE,rS,li,lo,reduceIte,Nat.reduceEqDiff,Nat.reduceAdd,Nat.reduceMul,ZZ,ZV,Za agg37,Ze Xc ZV,happ,hone,hsol];exact rfl;exact rfl)
 (apply WR.op;simp only [li];exact rfl;(focus (simp only [rQ,Zb,li,lo,reduceIte,Nat.reduceEqDiff,Nat.reduceAdd,beq_self_eq_true];done));simp only [rE,rQ,li,lo,reduceIte,Nat.reduceEqDiff,Nat.reduceAdd,Nat.reduceMul,AH.set,ht,hst2];exact rfl;exact rfl)
 refine WR.endRegion ?_
 refine WR.endBlock ?_
 have hb:∀b,b < H.next→b ≠ N + 4→b ≠ y→b < N + 5→Hk.t.get b = H.t.get b:=fun b h1 h2 h3 h4 =>by rw [ub.old b (by omega) (fun e =>by have:=hvb _ e;omega),o2 b h1 h2]
 have hf:∀b,b ≠ N + 4→b ≠ y→b < N + 5→(AH.set ⟨Hk.t.put y (some (.cells 37 [v'] 0 false false)),Hk.next⟩ (N + 4) (lpB .ready tm A B (N + 3))).t.get b = H.t.get b:=fun b h2 h3 h4 =>by
  show ((Hk.t.put y _).put (N + 4) _).get b = _
  rw [Tri.gp,if_neg h2,Tri.gp,if_neg h3]
  exact hb b (by omega) h2 h3 h4
 refine WF.done ⟨⟨_,_,_,rfl⟩,?_,v',⟨?_,?_,?_,?_,?_,?_,?_,?_,hy,?_,h.le,h.len,h.byte⟩⟩
 ·show (Hk.t.put y _).get _ = _
  rw [Tri.gp,if_neg (by omega),ub.old _ (by omega) (fun e =>by have:=hvb _ e;omega)]
  exact gl2
 ·have:=ub.next
  show N + 5≤Hk.next
  omega
 ·intro b h1 h2
  rw [hf b (by omega) h2 (by omega)]
  exact h.old b h1 h2
 ·rw [hf _ (by omega) (by omega) (by omega)];exact h.gb
 ·rw [hf _ (by omega) (by omega) (by omega)];exact h.gp
 ·rw [hf _ (by omega) (by omega) (by omega)];exact h.gq
 ·rw [hf _ (by omega) (by omega) (by omega)];exact h.gd
 ·show (Tri.put _ _ _).get _ = _
  rw [Tri.gp,if_pos rfl]
 ·show ((Hk.t.put y _).put (N + 4) _).get _ = _
  rw [Tri.gp,if_neg (by omega),Tri.gp,if_pos rfl]
 ·exact Xh.ext (PE:=PSh) (fun u h =>PSh.ext u h) own' (((Xo.refl _ Hk).st (.inl (by omega)) _).st (.inl (by omega)) _)
end Go.Ev.C
end
section
namespace Go.Ev.C
open Go.Proofs Go.RowKit Go.Fmt
abbrev wCpu:List Nat:=[99,112,117,32]
abbrev wDrops:List Nat:=[100,114,111,112,115,32]
abbrev wTime:List Nat:=[116,105,109,101,32]
abbrev wId:List Nat:=[105,100,32]
abbrev wBytes:List Nat:=[98,121,116,101,115,32]
/-- Drops, behind the processor's number. -/
def prtD (c:Nat) (s:List Nat):Option (Sh × List Nat):=(ZX wDrops s).bind fun s =>(Wp 1 10 s).map fun q =>(⟨c,0,0,[],q.1⟩,q.2)
/-- A record's text, behind the processor's number. -/
def prtT (c:Nat) (s:List Nat):Option (Sh × List Nat):=(ZX wTime s).bind fun s =>(Wp 0 32 s).bind fun t =>(ZX wId t.2).bind fun s =>(Wp 1 32 s).bind fun i =>(ZX wBytes i.2).bind fun s =>(Wp 0 10 s).bind fun n =>
 if n.1≤n.2.length then (ZX [10] (n.2.drop n.1)).map fun r =>(⟨c,t.1,i.1,n.2.take n.1,0⟩,r) else none
/-- A part. -/
def prt (s:List Nat):Option (Sh × List Nat):=(ZX wCpu s).bind fun s =>(Wp 0 32 s).bind fun c =>if c.2.head? = some 100 then prtD c.1 c.2 else prtT c.1 c.2
def splN:Nat→List Nat→Option (List Sh)
 | _,[] =>some []
 | 0,_ :: _ =>none
 | k + 1,x :: s =>(prt (x :: s)).bind fun q =>(splN k q.2).map (q.1 :: ·)
/-- A text's parts. -/
def spl (s:List Nat):Option (List Sh):=splN s.length s
theorem wordS_len {w s r:List Nat} (h:ZX w s = some r):r.length + w.length = s.length:=by
 unfold ZX at h
 split at h
 ·rename_i hw
  cases h
  have:=congrArg List.length hw
  simp at this ⊢
  omega
 ·cases h
theorem numS_len:∀{s:List Nat} {n k:Nat} {q:Nat × List Nat},WH n k s = some q→q.2.length≤s.length
 | [],n,k,q,h =>by
  rw [WH] at h
  split at h
  ·cases h
  ·cases h
   exact Nat.le_refl _
 | x :: s,n,k,q,h =>by
  rw [WH] at h
  split at h
  ·split at h
   ·cases h
   ·split at h
    ·cases h
    ·have:=numS_len h
     simp
     omega
  ·split at h
   ·cases h
   ·cases h
    exact Nat.le_refl _
theorem decS_len {least b:Nat} {s:List Nat} {q:Nat × List Nat} (h:Wp least b s = some q):q.2.length < s.length:=by
 unfold Wp at h
 cases e:WH 0 0 s with
 | none =>rw [e] at h;cases h
 | some p =>
  obtain⟨n,r⟩:=p
  rw [e] at h
  have:=numS_len e
  cases r with
  | nil =>cases h
  | cons x r =>
   have h':(if x = b∧least≤n then some (n,r) else none) = some q:=h
   split at h'
   ·cases h'
    simp at this ⊢
    omega
   ·cases h'
theorem prt_len {s:List Nat} {q:Sh × List Nat} (h:prt s = some q):q.2.length < s.length:=by
 unfold prt at h
 obtain⟨s1,h1,h⟩:=Option.bind_eq_some_iff.1 h
 obtain⟨c,h2,h⟩:=Option.bind_eq_some_iff.1 h
 have a1:=wordS_len h1
 have a2:=decS_len h2
 split at h
 ·unfold prtD at h
  obtain⟨s3,h3,h⟩:=Option.bind_eq_some_iff.1 h
  obtain⟨d,h4,rfl⟩:=Option.map_eq_some_iff.1 h
  have a3:=wordS_len h3
  have a4:=decS_len h4
  dsimp only
  omega
 ·unfold prtT at h
  obtain⟨s3,h3,h⟩:=Option.bind_eq_some_iff.1 h
  obtain⟨t,h4,h⟩:=Option.bind_eq_some_iff.1 h
  obtain⟨s5,h5,h⟩:=Option.bind_eq_some_iff.1 h
  obtain⟨i,h6,h⟩:=Option.bind_eq_some_iff.1 h
  obtain⟨s7,h7,h⟩:=Option.bind_eq_some_iff.1 h
  obtain⟨n,h8,h⟩:=Option.bind_eq_some_iff.1 h
  have a3:=wordS_len h3
  have a4:=decS_len h4
  have a5:=wordS_len h5
  have a6:=decS_len h6
  have a7:=wordS_len h7
  have a8:=decS_len h8
  split at h
  ·obtain⟨r,h9,rfl⟩:=Option.map_eq_some_iff.1 h
   have a9:=wordS_len h9
   simp at a9
   dsimp only
   omega
  ·cases h
theorem splN_more:∀{k j:Nat} {s:List Nat},s.length≤k→s.length≤j→splN k s = splN j s
 | _,_,[],_,_ =>by rw [splN,splN]
 | 0,_,_ :: _,h,_ =>by simp at h
 | _ + 1,0,_ :: _,_,h =>by simp at h
 | k + 1,j + 1,x :: s,h1,h2 =>by
  rw [splN,splN]
  cases e:prt (x :: s) with
  | none =>rfl
  | some q =>
   have:=prt_len e
   simp at h1 h2 this
   rw [Option.bind_some,Option.bind_some,splN_more (k:=k) (j:=j) (by omega) (by omega)]
/-- One part more. -/
theorem spl_step {s:List Nat} (h:s ≠ []):spl s = (prt s).bind fun q =>(spl q.2).map (q.1 :: ·):=by
 cases s with
 | nil =>exact absurd rfl h
 | cons x s =>
  unfold spl
  rw [List.length_cons,splN]
  cases e:prt (x :: s) with
  | none =>rfl
  | some q =>
   have:=prt_len e
   simp at this
   rw [Option.bind_some,Option.bind_some,splN_more (k:=s.length) (j:=q.2.length) (by omega) (Nat.le_refl _)]
theorem spl_nil:spl [] = some []:=rfl
end Go.Ev.C
end
section
namespace Go.Ev.C
open Go.Proofs Go.RowKit Go.Fmt
set_option maxRecDepth 100000
set_option linter.unusedSimpArgs false
variable {L:World→Prop} [Yu Q L]
theorem WO.roundJ {N y:Nat} {s:List Nat} {tm:Tri AV} {a:Nat} {v:AV} {l:List Sh} {Hz H:AH} {f n:Nat} {ops:Array Oper} {i:Nat} {r:List Oper} {o:Oper} {t:Tri AV} {k:List AI} {Φ:AF→AH→Prop} (h:Sp N y s tm as46 bd46 a v l Hz H) (ht:tm.get 1 = some (.ptr y 0)) (d:Sh) (hl:l.length + 1≤274877906944)
  (hw:Zb ops t o = some true) (hx:Xr Q t o.op H = some (.round (N + 4) 46 13 (tm.put 8 (some (.agg (WD d)))) as46 bd46,H))
  (hk:∀H2,(∃v',Sp N y s tm as46 bd46 a v' (l ++ [d]) Hz H2)→∃t',XM n t o.dst (.bool true) = some t'∧WO Q L f n ops (i + 1) r t' H2 k Φ):WO Q L f n ops i (o :: r) t H k Φ :=
 WO.round (Ψ:=fun H2 =>∃v',Sp N y s tm as46 bd46 a v' (l ++ [d]) Hz H2) (t0:=tm) (ps:=[8]) (ax':=as46) (bd':=bd46) (d:=N + 3) (g':=46) (m':=13) hw hx (round46 h ht d hl) hk
theorem Sp.rd {N y:Nat} {s:List Nat} {tm:Tri AV} {A B:Code} {a:Nat} {v:AV} {l:List Sh} {Hz H:AH} (h:Sp N y s tm A B a v l Hz H):Rd H (N + 1) (.slice N 0 s.length (.up 1)) s a:=by
 have hn:=h.next
 refine⟨h.gp,by omega,⟨by rw [YJ];exact .sl _ _ _ _,fun b off m cap e _ =>?_⟩,h.le,h.len,h.byte,fun b off n cap e =>?_⟩
 ·cases e
  exact⟨by omega,Xw s,by omega,by unfold AH.cellsAt;rw [h.gb],YN rfl (bsA_hole s),X4 s⟩
 ·cases e
  exact .inr (.inl rfl)
theorem Sp.step {N y:Nat} {s:List Nat} {tm:Tri AV} {A B:Code} {a:Nat} {v:AV} {l:List Sh} {Hz H:AH} (h:Sp N y s tm A B a v l Hz H) {H':AH} (u:Y2 (N + 1) H H') {a':Nat} (r:Rd H' (N + 1) (.slice N 0 s.length (.up 1)) s a'):Sp N y s tm A B a' v l Hz H':=by
 have hn:=h.next
 have hy:=h.hy
 have hu:=u.next
 refine⟨by omega,fun b hb hne =>?_,?_,r.pos,?_,?_,?_,?_,hy,Xh.ext (PE:=PSh) (fun u h =>PSh.ext u h) h.own (Xo.upx u (by omega)),r.le,h.len,h.byte⟩
 ·rw [u.old b (by omega) (by omega)]
  exact h.old b hb hne
 ·rw [u.old _ (by omega) (by omega)];exact h.gb
 ·rw [u.old _ (by omega) (by omega)];exact h.gq
 ·rw [u.old _ (by omega) (by omega)];exact h.gd
 ·rw [u.old _ (by omega) (by omega)];exact h.gl
 ·rw [u.old _ (by omega) (by omega)];exact h.gy
/-- What a panic leaves. -/
structure SpP (N y:Nat) (Hz H:AH):Prop where
 next:N + 5≤H.next
 old:∀b,b < N→b ≠ y→H.t.get b = Hz.t.get b
 gd:H.t.get (N + 3) = some (.deferred true)
theorem Sp.pan {N y:Nat} {s:List Nat} {tm:Tri AV} {A B:Code} {a:Nat} {v:AV} {l:List Sh} {Hz H:AH} (h:Sp N y s tm A B a v l Hz H) {H':AH} (u:Y2 (N + 1) H H'):SpP N y Hz H':=by
 have hn:=h.next
 have hu:=u.next
 refine⟨by omega,fun b hb hne =>?_,?_⟩
 ·rw [u.old b (by omega) (by omega)]
  exact h.old b hb hne
 ·rw [u.old _ (by omega) (by omega)];exact h.gd
theorem Yp:X1 ⟨#[99,112,117,32]⟩ = wCpu:=rfl
theorem XT:X1 ⟨#[100,114,111,112,115,32]⟩ = wDrops:=rfl
theorem XR:X1 ⟨#[116,105,109,101,32]⟩ = wTime:=rfl
theorem XS:X1 ⟨#[105,100,32]⟩ = wId:=rfl
theorem XU:X1 ⟨#[98,121,116,101,115,32]⟩ = wBytes:=rfl
theorem Yo:X1 ⟨#[10]⟩ = [10]:=rfl
theorem bu106 (c:Int):Wg Q 106 [(0,.int .i64 c)] = some (.agg [.int .i64 c,.int .i64 0,.int .i64 0,.str [],.int .i64 0]):=by kernel_rfl
theorem fresh_conv {H H':AH} {w:AV} {u:List Nat} (h:FreshB H H' w u) (h8:∀c ∈ u,c < 256):convL Q 35 9 (some w) H' = some (.str u)∧ZO w = true∧Yn w = true:=by
 by_cases e:u = []
 ·rcases h with ⟨rfl,rfl⟩ | ⟨hne,_⟩
  ·exact⟨by simp only [convL,Zo,Ye,und5],rfl,rfl⟩
  ·exact absurd e hne
 ·obtain⟨b,rfl,hc⟩:=fresh_str h e h8
  exact⟨hc,rfl,rfl⟩
def SpQ (N y:Nat) (s:List Nat) (tm:Tri AV) (A B:Code) (Hz:AH) (l:List Sh) (_:AV) (H':AH):Prop:=∃v,Sp N y s tm A B s.length v l Hz H'
set_option maxHeartbeats 16000000 in
theorem parts_w (N y:Nat) (s:List Nat) (tm:Tri AV) (Hz H:AH) (htm:tm.get 1 = some (.ptr y 0)) (hs:Sp N y s tm as46 bd46 0 .nilslice [] Hz H) :
  WF Q L (PF 87 71 (Zn 0 [.yield (N + 4),.ptr (N + 2) 0] .leaf) [.code c87]) H (YL Q 87 (spl s) (SpQ N y s tm as46 bd46 Hz) (fun w H' =>w = bad∧SpP N y Hz H')):=by
 have hlen:=hs.len
 have hbl:SL (.slice N 0 s.length (.up 1)) s.length:=.sl _ _ _ _
 have hlb:Wq Q .len [35] [.slice N 0 s.length (.up 1)] = some (.int .i64 (s.length:Int)):=Zf Zo hbl
 have hbone:=hbl.one
 have hbsol:=hbl.solid
 unfold c87 Tryz.f87
 simp only [Option.getD_some]
 iterate 1 (first | (apply Zh;exact rfl) | apply Zc | apply WO.nil | (apply Zl;exact rfl;simp only [rE,rS,li,lo,reduceIte,Nat.reduceEqDiff,Nat.reduceAdd,Nat.reduceMul];exact rfl;exact rfl))
 refine Ys (fun m t Hc =>∃(a:Nat) (v:AV) (l:List Sh),a + m = s.length∧l.length≤a∧Sp N y s tm as46 bd46 a v l Hz Hc∧spl s = (spl (s.drop a)).map (l ++ ·)∧t.get 0 = some (.yield (N + 4))∧t.get 1 = some (.ptr (N + 2) 0)) s.length ?_ ?_
 ·refine⟨0,.nilslice,[],by omega,by simp,hs,by simp,?_,?_⟩
  all_goals simp [Tri.gp,Zn]
 clear hs
 rintro m t Hc ⟨a,v,l,ham,hla,hs,hrel,t0,t1⟩ ih
 have r0:=hs.rd
 have hq:=Z5 hs.gq
 have hp:=r0.cells
 have hcn:=hs.next
 repeat (first | (apply Zh;exact rfl) | apply Zc | apply WO.nil | (apply Zl;exact rfl;simp only [rE,rS,li,lo,reduceIte,Nat.reduceEqDiff,Nat.reduceAdd,Nat.reduceMul];exact rfl;exact rfl))
 (apply Yw;kernel_rfl;kernel_rfl)
 (refine Zq ?_;(iterate 10 (first|(apply ZW.pure;kernel_rfl;kernel_rfl;(focus ((simp only [rQ,Zb,li,lo,reduceIte,Nat.reduceEqDiff,Nat.reduceAdd,beq_self_eq_true];done)));simp only [rE,rS,li,lo,reduceIte,Nat.reduceEqDiff,Nat.reduceAdd,Nat.reduceMul,YF,YE,Za ZB,Za Zu,Za Zx,t1,Zo,hq,hp,hbone,hbsol,hlb];exact rfl;exact rfl)|(apply ZW.load;kernel_rfl;kernel_rfl;(focus ((simp only [rQ,Zb,li,lo,reduceIte,Nat.reduceEqDiff,Nat.reduceAdd,beq_self_eq_true];done)));simp only [rE,rS,li,lo,reduceIte,Nat.reduceEqDiff,Nat.reduceAdd,Nat.reduceMul,YF,YE,Za ZB,Za Zu,Za Zx,t1,Zo,hq,hp,hbone,hbsol,hlb];exact rfl;exact rfl)));refine ZW.nil ?_)
 (apply ZY.all;kernel_rfl;kernel_rfl)
 by_cases hend:a < s.length
 rotate_left
 ·obtain rfl:a = s.length:=by omega
  have q0:decide ((s.length:Int) < (s.length:Int)) = false:=by simp
  have hyes:spl s = some l:=by
   rw [hrel,List.drop_length,spl_nil]
   simp
  rw [hyes]
  simp only [YL]
  (first|(apply WF.condT;(focus (simp only [Zg,Zd,Tri.gp,Zn,Bool.not_true,Bool.not_false,reduceIte,Nat.reduceEqDiff,q0];done)))|(apply WF.condF;(focus (simp only [Zg,Zd,Tri.gp,Zn,Bool.not_true,Bool.not_false,reduceIte,Nat.reduceEqDiff,q0];done))))
  repeat (first | (apply Zh;exact rfl) | apply Zc | apply WO.nil | (apply Zl;exact rfl;simp only [rE,rS,li,lo,reduceIte,Nat.reduceEqDiff,Nat.reduceAdd,Nat.reduceMul];exact rfl;exact rfl))
  apply WF.fall
  focus (simp only [rs87,Zi,Tri.gp,Zn,ZL];exact rfl)
  exact⟨v,hs⟩
 have q0:decide ((a:Int) < (s.length:Int)) = true:=decide_eq_true (by omega)
 have hne:s.drop a ≠ []:=fun e =>by
  have:=congrArg List.length e
  simp at this
  omega
 rw [spl_step hne] at hrel
 have hfail:prt (s.drop a) = none→spl s = none:=fun e =>by rw [hrel,e];rfl
 (first|(apply WF.condT;(focus (simp only [Zg,Zd,Tri.gp,Zn,Bool.not_true,Bool.not_false,reduceIte,Nat.reduceEqDiff,q0];done)))|(apply WF.condF;(focus (simp only [Zg,Zd,Tri.gp,Zn,Bool.not_true,Bool.not_false,reduceIte,Nat.reduceEqDiff,q0];done))))
 repeat (first|(apply Zh;exact rfl)|apply Zc|apply WO.nil|(apply Zl;exact rfl;simp only [rE,rS,li,lo,reduceIte,Nat.reduceEqDiff,Nat.reduceAdd,Nat.reduceMul,t1,Za ZB,XQ,XP,Yp,XT,XR,XS,XU,Yo,hq];exact rfl;exact rfl))
 cases m1:ZX wCpu (s.drop a) with
 | none =>
  have hno:=hfail (by simp [prt,m1])
  rw [hno]
  simp only [YL]
  (apply WO.callP;(focus (simp only [rQ,Zb,li,lo,reduceIte,Nat.reduceEqDiff,Nat.reduceAdd,beq_self_eq_true];done));simp only [rE,rS,li,lo,reduceIte,Nat.reduceEqDiff,Nat.reduceAdd,Nat.reduceMul,t1,Za ZB,XQ,XP,Yp,XT,XR,XS,XU,Yo,hq];exact rfl;exact word_p _ (N + 1) _ s a wCpu (by simp) (by simp) r0 m1;rintro _ H1 ⟨rfl,u1⟩)
  exact⟨rfl,hs.pan u1⟩
 | some w1 =>
 have hc0:Bx (N + 1) (N + 2) (some (.cells 120 [.ptr (N + 1) 0] 0 false false)) Hc:=⟨hs.gq,by omega,by omega⟩
 (apply WO.call;(focus (simp only [rQ,Zb,li,lo,reduceIte,Nat.reduceEqDiff,Nat.reduceAdd,beq_self_eq_true];done));simp only [rE,rS,li,lo,reduceIte,Nat.reduceEqDiff,Nat.reduceAdd,Nat.reduceMul,t1,Za ZB,XQ,XP,Yp,XT,XR,XS,XU,Yo,hq];exact rfl;exact word_c _ (N + 1) _ s a wCpu (by simp) (by simp) r0 m1;rintro _ H1 ⟨u1,a1,rfl,r1⟩;refine⟨_,rfl,?_⟩)
 repeat (first|(apply Zh;exact rfl)|apply Zc|apply WO.nil|(apply Zl;exact rfl;simp only [rE,rS,li,lo,reduceIte,Nat.reduceEqDiff,Nat.reduceAdd,Nat.reduceMul,t1,Za ZB,XQ,XP,Yp,XT,XR,XS,XU,Yo,(hc0.step u1).cells];exact rfl;exact rfl))
 cases m2:Wp 0 32 (s.drop a1) with
 | none =>
  have hno:=hfail (by simp [prt,m1,m2])
  rw [hno]
  simp only [YL]
  (apply WO.callP;(focus (simp only [rQ,Zb,li,lo,reduceIte,Nat.reduceEqDiff,Nat.reduceAdd,beq_self_eq_true];done));simp only [rE,rS,li,lo,reduceIte,Nat.reduceEqDiff,Nat.reduceAdd,Nat.reduceMul,t1,Za ZB,XQ,XP,Yp,XT,XR,XS,XU,Yo,(hc0.step u1).cells];exact rfl;exact decimal_p _ (N + 1) _ s a1 0 32 (by omega) (by omega) r1 m2;rintro _ H2 ⟨rfl,u2⟩)
  exact⟨rfl,hs.pan (u1.trans u2)⟩
 | some qc =>
 obtain⟨c,w2⟩:=qc
 (apply WO.call;(focus (simp only [rQ,Zb,li,lo,reduceIte,Nat.reduceEqDiff,Nat.reduceAdd,beq_self_eq_true];done));simp only [rE,rS,li,lo,reduceIte,Nat.reduceEqDiff,Nat.reduceAdd,Nat.reduceMul,t1,Za ZB,XQ,XP,Yp,XT,XR,XS,XU,Yo,(hc0.step u1).cells];exact rfl;exact decimal_c _ (N + 1) _ s a1 0 32 (by omega) (by omega) r1 m2;rintro _ H2 ⟨rfl,hcl,_,u2,a2,hw2,r2⟩;refine⟨_,rfl,?_⟩)
 dsimp only at hcl hw2
 subst hw2
 have x2:=u1.trans u2
 have h2n:=x2.next
 have hst2:=st_new (H:=H2) (e:=106) (z:=[.int .i64 0,.int .i64 0,.int .i64 0,.str [],.int .i64 0]) (x:=[.int .i64 (c:Int),.int .i64 0,.int .i64 0,.str [],.int .i64 0]) (v:=.agg [.int .i64 (c:Int),.int .i64 0,.int .i64 0,.str [],.int .i64 0]) ZV rfl rfl rfl rfl
 repeat (first|(apply Zh;exact rfl)|apply Zc|apply WO.nil|(apply Zl;exact rfl;simp only [rE,rQ,li,lo,reduceIte,Nat.reduceEqDiff,Nat.reduceAdd,Nat.reduceMul,AH.set,t1,Za ZB,XQ,XP,Yp,XT,XR,XS,XU,Yo,Zs,bu106,ZZ,ZV,hst2];exact rfl;exact rfl))
 have z3:Up H2 ⟨(H2.t.put H2.next (some (.cells 106 [.int .i64 0,.int .i64 0,.int .i64 0,.str [],.int .i64 0] 0 false false))).put H2.next (some (.cells 106 [.int .i64 (c:Int),.int .i64 0,.int .i64 0,.str [],.int .i64 0] 0 false false)),H2.next + 1⟩:=WV H2 _ _
 have gx:Bx (N + 1) H2.next (some (.cells 106 (WD ⟨c,0,0,[],0⟩) 0 false false)) ⟨(H2.t.put H2.next (some (.cells 106 [.int .i64 0,.int .i64 0,.int .i64 0,.str [],.int .i64 0] 0 false false))).put H2.next (some (.cells 106 [.int .i64 (c:Int),.int .i64 0,.int .i64 0,.str [],.int .i64 0] 0 false false)),H2.next + 1⟩:=⟨by show (Tri.put _ _ _).get _ = _;rw [Tri.gp,if_pos rfl];rfl,Nat.lt_succ_self _,by omega⟩
 have x3:=x2.trans (Y2.of z3)
 have r3:=r2.up z3
 have hq3:=(hc0.step x3).cells
 have hp3:=r3.cells
 generalize (⟨(H2.t.put H2.next (some (.cells 106 [.int .i64 0,.int .i64 0,.int .i64 0,.str [],.int .i64 0] 0 false false))).put H2.next (some (.cells 106 [.int .i64 (c:Int),.int .i64 0,.int .i64 0,.str [],.int .i64 0] 0 false false)),H2.next + 1⟩:AH) = H3 at *
 generalize hgq:H2.next = g at *
 have hgN:H3.cellsAt N = some (Xw s):=by unfold AH.cellsAt;rw [x3.old N (by omega) (by omega),hs.gb]
 refine WF.cutI (fun t' HH =>HH = H3∧t'.get 0 = some (.yield (N + 4))∧t'.get 1 = some (.ptr (N + 2) 0)∧t'.get 3 = some (.ptr g 0)∧t'.get 41 = some (.bool (decide ((s.drop a2).head? = some 100)))) ?_ ?_
 rotate_left
 ·intro tail
  by_cases h2:a2 < s.length
  ·have q1:decide ((a2:Int) < (s.length:Int)) = true:=decide_eq_true (by omega)
   have hix:X3 Q 35 (.slice N 0 s.length (.up 1)) (.int .i64 (a2:Int)) = some (.ptr N a2):=by
    rw [Zt Zo sz5 h2]
    simp
   have hat:(Xw s)[a2]? = some (.int .u8 ((s[a2]:Nat):Int)):=by
    unfold Xw
    rw [List.getElem?_map,List.getElem?_eq_getElem h2]
    rfl
   have hhd:decide ((s.drop a2).head? = some 100) = decide (((s[a2]:Nat):Int) = 100):=by
    rw [List.head?_drop,List.getElem?_eq_getElem h2]
    by_cases e:s[a2] = 100
    ·rw [e];rfl
    ·rw [decide_eq_false (by simpa using e),decide_eq_false (by omega)]
   rw [hhd] at tail
   (apply Yw;kernel_rfl;kernel_rfl)
   (refine Zq ?_;(iterate 23 (first|(apply ZW.pure;kernel_rfl;kernel_rfl;(focus ((simp only [rQ,Zb,li,lo,reduceIte,Nat.reduceEqDiff,Nat.reduceAdd,beq_self_eq_true,q1];done)));simp only [rE,rS,li,lo,reduceIte,Nat.reduceEqDiff,Nat.reduceAdd,Nat.reduceMul,YF,YE,Za ZB,Za Zu,Za Zx,t1,Zo,Za agg5,hq3,hp3,hbone,hbsol,hlb,q1,hix,hgN,hat];exact rfl;exact rfl)|(apply ZW.load;kernel_rfl;kernel_rfl;(focus ((simp only [rQ,Zb,li,lo,reduceIte,Nat.reduceEqDiff,Nat.reduceAdd,beq_self_eq_true,q1];done)));simp only [rE,rS,li,lo,reduceIte,Nat.reduceEqDiff,Nat.reduceAdd,Nat.reduceMul,YF,YE,Za ZB,Za Zu,Za Zx,t1,Zo,Za agg5,hq3,hp3,hbone,hbsol,hlb,q1,hix,hgN,hat];exact rfl;exact rfl)));refine ZW.nil ?_)
   (apply ZY.all;kernel_rfl;kernel_rfl)
   refine tail _ _ ⟨rfl,?_,?_,?_,?_⟩
   all_goals simp [Tri.gp,t0,t1]
  ·have q1:decide ((a2:Int) < (s.length:Int)) = false:=decide_eq_false (by omega)
   have hhd:decide ((s.drop a2).head? = some 100) = false:=by
    rw [List.drop_of_length_le (by omega)]
    rfl
   rw [hhd] at tail
   (apply Yw;kernel_rfl;kernel_rfl)
   (refine Zq ?_;(iterate 23 (first|(apply ZW.pure;kernel_rfl;kernel_rfl;(focus ((simp only [rQ,Zb,li,lo,reduceIte,Nat.reduceEqDiff,Nat.reduceAdd,beq_self_eq_true,q1];done)));simp only [rE,rS,li,lo,reduceIte,Nat.reduceEqDiff,Nat.reduceAdd,Nat.reduceMul,YF,YE,Za ZB,Za Zu,Za Zx,t1,Zo,Za agg5,hq3,hp3,hbone,hbsol,hlb,q1];exact rfl;exact rfl)|(apply ZW.load;kernel_rfl;kernel_rfl;(focus ((simp only [rQ,Zb,li,lo,reduceIte,Nat.reduceEqDiff,Nat.reduceAdd,beq_self_eq_true,q1];done)));simp only [rE,rS,li,lo,reduceIte,Nat.reduceEqDiff,Nat.reduceAdd,Nat.reduceMul,YF,YE,Za ZB,Za Zu,Za Zx,t1,Zo,Za agg5,hq3,hp3,hbone,hbsol,hlb,q1];exact rfl;exact rfl)|(apply ZW.unwanted;kernel_rfl;(focus ((simp only [rQ,Zb,li,lo,reduceIte,Nat.reduceEqDiff,Nat.reduceAdd,beq_self_eq_true,q1];done)));exact rfl)));refine ZW.nil ?_)
   (apply ZY.all;kernel_rfl;kernel_rfl)
   refine tail _ _ ⟨rfl,?_,?_,?_,?_⟩
   all_goals simp [Tri.gp,t0,t1]
 clear t0 t1
 rintro t' H3 ⟨rfl,t0,t1,t3,t41⟩
 have hgc:Hc.next≤g:=by omega
 have hgl:N + 5≤g:=by omega
 refine WF.cutI (fun t2 HH =>∃(d:Sh) (ai:Nat),Y2 (N + 1) Hc HH∧Rd HH (N + 1) (.slice N 0 s.length (.up 1)) s ai∧Bx (N + 1) g (some (.cells 106 (WD d) 0 false false)) HH∧prt (s.drop a) = some (d,s.drop ai)∧t2.get 0 = some (.yield (N + 4))∧t2.get 1 = some (.ptr (N + 2) 0)∧t2.get 3 = some (.ptr g 0)) ?_ ?_
 rotate_left
 ·intro tail
  by_cases hh:(s.drop a2).head? = some 100
  ·have hpr:prt (s.drop a) = prtD c (s.drop a2):=by simp only [prt,m1,m2,Option.bind_some];rw [if_pos hh]
   rw [decide_eq_true hh] at t41
   rw [hpr] at hfail tail
   (first|(apply WF.condT;(focus (simp only [Zg,Zd,Tri.gp,Zn,Bool.not_true,Bool.not_false,reduceIte,Nat.reduceEqDiff,t41];done)))|(apply WF.condF;(focus (simp only [Zg,Zd,Tri.gp,Zn,Bool.not_true,Bool.not_false,reduceIte,Nat.reduceEqDiff,t41];done))))
   repeat (first|(apply Zh;exact rfl)|apply Zc|apply WO.nil|(apply Zl;exact rfl;simp only [rE,rS,li,lo,reduceIte,Nat.reduceEqDiff,Nat.reduceAdd,Nat.reduceMul,t1,Za ZB,XQ,XP,Yp,XT,XR,XS,XU,Yo,hq3];exact rfl;exact rfl))
   cases m3:ZX wDrops (s.drop a2) with
   | none =>
    have hno:=hfail (by simp [prtD,m3])
    rw [hno]
    simp only [YL]
    (apply WO.callP;(focus (simp only [rQ,Zb,li,lo,reduceIte,Nat.reduceEqDiff,Nat.reduceAdd,beq_self_eq_true];done));simp only [rE,rS,li,lo,reduceIte,Nat.reduceEqDiff,Nat.reduceAdd,Nat.reduceMul,t1,Za ZB,XQ,XP,Yp,XT,XR,XS,XU,Yo,hq3];exact rfl;exact word_p _ (N + 1) _ s a2 wDrops (by simp) (by simp) r3 m3;rintro _ H4 ⟨rfl,u4⟩)
    exact⟨rfl,hs.pan (x3.trans u4)⟩
   | some w3 =>
   (apply WO.call;(focus (simp only [rQ,Zb,li,lo,reduceIte,Nat.reduceEqDiff,Nat.reduceAdd,beq_self_eq_true];done));simp only [rE,rS,li,lo,reduceIte,Nat.reduceEqDiff,Nat.reduceAdd,Nat.reduceMul,t1,Za ZB,XQ,XP,Yp,XT,XR,XS,XU,Yo,hq3];exact rfl;exact word_c _ (N + 1) _ s a2 wDrops (by simp) (by simp) r3 m3;rintro _ H4 ⟨u4,a4,rfl,r4⟩;refine⟨_,rfl,?_⟩)
   have x4:=x3.trans u4
   repeat (first|(apply Zh;exact rfl)|apply Zc|apply WO.nil|(apply Zl;exact rfl;simp only [rE,rS,li,lo,reduceIte,Nat.reduceEqDiff,Nat.reduceAdd,Nat.reduceMul,t1,Za ZB,XQ,XP,Yp,XT,XR,XS,XU,Yo,(hc0.step x4).cells];exact rfl;exact rfl))
   cases m4:Wp 1 10 (s.drop a4) with
   | none =>
    have hno:=hfail (by simp [prtD,m3,m4])
    rw [hno]
    simp only [YL]
    (apply WO.callP;(focus (simp only [rQ,Zb,li,lo,reduceIte,Nat.reduceEqDiff,Nat.reduceAdd,beq_self_eq_true];done));simp only [rE,rS,li,lo,reduceIte,Nat.reduceEqDiff,Nat.reduceAdd,Nat.reduceMul,t1,Za ZB,XQ,XP,Yp,XT,XR,XS,XU,Yo,(hc0.step x4).cells];exact rfl;exact decimal_p _ (N + 1) _ s a4 1 10 (by omega) (by omega) r4 m4;rintro _ H5 ⟨rfl,u5⟩)
    exact⟨rfl,hs.pan (x4.trans u5)⟩
   | some qd =>
   obtain⟨d,w5⟩:=qd
   (apply WO.call;(focus (simp only [rQ,Zb,li,lo,reduceIte,Nat.reduceEqDiff,Nat.reduceAdd,beq_self_eq_true];done));simp only [rE,rS,li,lo,reduceIte,Nat.reduceEqDiff,Nat.reduceAdd,Nat.reduceMul,t1,Za ZB,XQ,XP,Yp,XT,XR,XS,XU,Yo,(hc0.step x4).cells];exact rfl;exact decimal_c _ (N + 1) _ s a4 1 10 (by omega) (by omega) r4 m4;rintro _ H5 ⟨rfl,hdl,_,u5,a5,hw5,r5⟩;refine⟨_,rfl,?_⟩)
   dsimp only at hdl hw5
   subst hw5
   have x5:=x4.trans u5
   have g5:=(gx.step u4).step u5
   have hst5:Zr Q 3 g 4 (.int .i64 (d:Int)) H5 = some ⟨H5.t.put g (some (.cells 106 (WD ⟨c,0,0,[],d⟩) 0 false false)),H5.next⟩:=Z7 (n:=1) (x:=[.int .i64 (d:Int)]) g5.1 sz3 rfl rfl rfl (by simp [WD])
   have x6:=x5.st (b:=g) hgc (some (.cells 106 (WD ⟨c,0,0,[],d⟩) 0 false false))
   have r6:=r0.of x6 (a:=a5) (by show (Tri.put _ _ _).get _ = _;rw [Tri.gp,if_neg (by omega)];exact r5.pos) r5.le
   iterate 3 (first|(apply Zh;exact rfl)|apply Zc|apply WO.nil|(apply Zl;exact rfl;simp only [rE,rQ,li,lo,reduceIte,Nat.reduceEqDiff,Nat.reduceAdd,Nat.reduceMul,AH.set,t3,Z8,hst5];exact rfl;exact rfl))
   refine tail _ _ ⟨⟨c,0,0,[],d⟩,a5,x6,r6,⟨by show (Tri.put _ _ _).get _ = _;rw [Tri.gp,if_pos rfl],g5.2.1,by omega⟩,by simp [prtD,m3,m4],?_,?_,?_⟩
   all_goals simp [Tri.gp,t0,t1,t3]
  ·have hpr:prt (s.drop a) = prtT c (s.drop a2):=by simp only [prt,m1,m2,Option.bind_some];rw [if_neg hh]
   rw [decide_eq_false hh] at t41
   rw [hpr] at hfail tail
   (first|(apply WF.condT;(focus (simp only [Zg,Zd,Tri.gp,Zn,Bool.not_true,Bool.not_false,reduceIte,Nat.reduceEqDiff,t41];done)))|(apply WF.condF;(focus (simp only [Zg,Zd,Tri.gp,Zn,Bool.not_true,Bool.not_false,reduceIte,Nat.reduceEqDiff,t41];done))))
   repeat (first|(apply Zh;exact rfl)|apply Zc|apply WO.nil|(apply Zl;exact rfl;simp only [rE,rS,li,lo,reduceIte,Nat.reduceEqDiff,Nat.reduceAdd,Nat.reduceMul,t1,Za ZB,XQ,XP,Yp,XT,XR,XS,XU,Yo,hq3];exact rfl;exact rfl))
   obtain⟨a3,ha3⟩:∃a3,a3 = a2:=⟨a2,rfl⟩
   rw [← ha3] at r3 tail hfail
   clear ha3
   cases m4:ZX wTime (s.drop a3) with
   | none =>
    have hno:=hfail (by simp [prtT,m4])
    rw [hno]
    simp only [YL]
    (apply WO.callP;(focus (simp only [rQ,Zb,li,lo,reduceIte,Nat.reduceEqDiff,Nat.reduceAdd,beq_self_eq_true];done));simp only [rE,rS,li,lo,reduceIte,Nat.reduceEqDiff,Nat.reduceAdd,Nat.reduceMul,t1,Za ZB,XQ,XP,Yp,XT,XR,XS,XU,Yo,hq3];exact rfl;exact word_p _ (N + 1) _ s a3 wTime (by simp) (by simp) r3 m4;rintro _ H4 ⟨rfl,u4⟩)
    exact⟨rfl,hs.pan (x3.trans u4)⟩
   | some w4 =>
   (apply WO.call;(focus (simp only [rQ,Zb,li,lo,reduceIte,Nat.reduceEqDiff,Nat.reduceAdd,beq_self_eq_true];done));simp only [rE,rS,li,lo,reduceIte,Nat.reduceEqDiff,Nat.reduceAdd,Nat.reduceMul,t1,Za ZB,XQ,XP,Yp,XT,XR,XS,XU,Yo,hq3];exact rfl;exact word_c _ (N + 1) _ s a3 wTime (by simp) (by simp) r3 m4;rintro _ H4 ⟨u4,a4,rfl,r4⟩;refine⟨_,rfl,?_⟩)
   have x4:=x3.trans u4
   repeat (first|(apply Zh;exact rfl)|apply Zc|apply WO.nil|(apply Zl;exact rfl;simp only [rE,rS,li,lo,reduceIte,Nat.reduceEqDiff,Nat.reduceAdd,Nat.reduceMul,t1,Za ZB,XQ,XP,Yp,XT,XR,XS,XU,Yo,(hc0.step x4).cells];exact rfl;exact rfl))
   cases m5:Wp 0 32 (s.drop a4) with
   | none =>
    have hno:=hfail (by simp [prtT,m4,m5])
    rw [hno]
    simp only [YL]
    (apply WO.callP;(focus (simp only [rQ,Zb,li,lo,reduceIte,Nat.reduceEqDiff,Nat.reduceAdd,beq_self_eq_true];done));simp only [rE,rS,li,lo,reduceIte,Nat.reduceEqDiff,Nat.reduceAdd,Nat.reduceMul,t1,Za ZB,XQ,XP,Yp,XT,XR,XS,XU,Yo,(hc0.step x4).cells];exact rfl;exact decimal_p _ (N + 1) _ s a4 0 32 (by omega) (by omega) r4 m5;rintro _ H5 ⟨rfl,u5⟩)
    exact⟨rfl,hs.pan (x4.trans u5)⟩
   | some q5 =>
   obtain⟨tt,w5⟩:=q5
   (apply WO.call;(focus (simp only [rQ,Zb,li,lo,reduceIte,Nat.reduceEqDiff,Nat.reduceAdd,beq_self_eq_true];done));simp only [rE,rS,li,lo,reduceIte,Nat.reduceEqDiff,Nat.reduceAdd,Nat.reduceMul,t1,Za ZB,XQ,XP,Yp,XT,XR,XS,XU,Yo,(hc0.step x4).cells];exact rfl;exact decimal_c _ (N + 1) _ s a4 0 32 (by omega) (by omega) r4 m5;rintro _ H5 ⟨rfl,l5,_,u5,a5,hw5,r5⟩;refine⟨_,rfl,?_⟩)
   dsimp only at l5 hw5
   subst hw5
   have x5:=x4.trans u5
   have gg5:=(gx.step u4).step u5
   have hst6:Zr Q 2 g 1 (.int .i64 (tt:Int)) H5 = some ⟨H5.t.put g (some (.cells 106 (WD ⟨c,tt,0,[],0⟩) 0 false false)),H5.next⟩:=Z7 (n:=1) (x:=[.int .i64 (tt:Int)]) gg5.1 sz2 rfl rfl rfl (by simp [WD])
   have x6:=x5.st (b:=g) hgc (some (.cells 106 (WD ⟨c,tt,0,[],0⟩) 0 false false))
   have r6:=r0.of x6 (a:=a5) (by show (Tri.put _ _ _).get _ = _;rw [Tri.gp,if_neg (by omega)];exact r5.pos) r5.le
   have g6:Bx (N + 1) g (some (.cells 106 (WD ⟨c,tt,0,[],0⟩) 0 false false)) ⟨H5.t.put g (some (.cells 106 (WD ⟨c,tt,0,[],0⟩) 0 false false)),H5.next⟩:=⟨by show (Tri.put _ _ _).get _ = _;rw [Tri.gp,if_pos rfl],gg5.2.1,by omega⟩
   repeat (first|(apply Zh;exact rfl)|apply Zc|apply WO.nil|(apply Zl;exact rfl;simp only [rE,rQ,li,lo,reduceIte,Nat.reduceEqDiff,Nat.reduceAdd,Nat.reduceMul,AH.set,t1,Za ZB,XQ,XP,Yp,XT,XR,XS,XU,Yo,t3,Ya,hst6,(hc0.step x6).cells];exact rfl;exact rfl))
   obtain⟨a6,rfl⟩:∃a6,a6 = a5:=⟨a5,rfl⟩
   cases m7:ZX wId (s.drop a6) with
   | none =>
    have hno:=hfail (by simp [prtT,m4,m5,m7])
    rw [hno]
    simp only [YL]
    (apply WO.callP;(focus (simp only [rQ,Zb,li,lo,reduceIte,Nat.reduceEqDiff,Nat.reduceAdd,beq_self_eq_true];done));simp only [rE,rS,li,lo,reduceIte,Nat.reduceEqDiff,Nat.reduceAdd,Nat.reduceMul,t1,Za ZB,XQ,XP,Yp,XT,XR,XS,XU,Yo,(hc0.step x6).cells];exact rfl;exact word_p _ (N + 1) _ s a6 wId (by simp) (by simp) r6 m7;rintro _ H7 ⟨rfl,u7⟩)
    exact⟨rfl,hs.pan (x6.trans u7)⟩
   | some w7 =>
   (apply WO.call;(focus (simp only [rQ,Zb,li,lo,reduceIte,Nat.reduceEqDiff,Nat.reduceAdd,beq_self_eq_true];done));simp only [rE,rS,li,lo,reduceIte,Nat.reduceEqDiff,Nat.reduceAdd,Nat.reduceMul,t1,Za ZB,XQ,XP,Yp,XT,XR,XS,XU,Yo,(hc0.step x6).cells];exact rfl;exact word_c _ (N + 1) _ s a6 wId (by simp) (by simp) r6 m7;rintro _ H7 ⟨u7,a7,rfl,r7⟩;refine⟨_,rfl,?_⟩)
   have x7:=x6.trans u7
   repeat (first|(apply Zh;exact rfl)|apply Zc|apply WO.nil|(apply Zl;exact rfl;simp only [rE,rS,li,lo,reduceIte,Nat.reduceEqDiff,Nat.reduceAdd,Nat.reduceMul,t1,Za ZB,XQ,XP,Yp,XT,XR,XS,XU,Yo,(hc0.step x7).cells];exact rfl;exact rfl))
   cases m8:Wp 1 32 (s.drop a7) with
   | none =>
    have hno:=hfail (by simp [prtT,m4,m5,m7,m8])
    rw [hno]
    simp only [YL]
    (apply WO.callP;(focus (simp only [rQ,Zb,li,lo,reduceIte,Nat.reduceEqDiff,Nat.reduceAdd,beq_self_eq_true];done));simp only [rE,rS,li,lo,reduceIte,Nat.reduceEqDiff,Nat.reduceAdd,Nat.reduceMul,t1,Za ZB,XQ,XP,Yp,XT,XR,XS,XU,Yo,(hc0.step x7).cells];exact rfl;exact decimal_p _ (N + 1) _ s a7 1 32 (by omega) (by omega) r7 m8;rintro _ H8 ⟨rfl,u8⟩)
    exact⟨rfl,hs.pan (x7.trans u8)⟩
   | some q8 =>
   obtain⟨ii,w8⟩:=q8
   (apply WO.call;(focus (simp only [rQ,Zb,li,lo,reduceIte,Nat.reduceEqDiff,Nat.reduceAdd,beq_self_eq_true];done));simp only [rE,rS,li,lo,reduceIte,Nat.reduceEqDiff,Nat.reduceAdd,Nat.reduceMul,t1,Za ZB,XQ,XP,Yp,XT,XR,XS,XU,Yo,(hc0.step x7).cells];exact rfl;exact decimal_c _ (N + 1) _ s a7 1 32 (by omega) (by omega) r7 m8;rintro _ H8 ⟨rfl,l8,_,u8,a8,hw8,r8⟩;refine⟨_,rfl,?_⟩)
   dsimp only at l8 hw8
   subst hw8
   have x8:=x7.trans u8
   have gg8:=(g6.step u7).step u8
   have hst9:Zr Q 3 g 2 (.int .i64 (ii:Int)) H8 = some ⟨H8.t.put g (some (.cells 106 (WD ⟨c,tt,ii,[],0⟩) 0 false false)),H8.next⟩:=Z7 (n:=1) (x:=[.int .i64 (ii:Int)]) gg8.1 sz3 rfl rfl rfl (by simp [WD])
   have x9:=x8.st (b:=g) hgc (some (.cells 106 (WD ⟨c,tt,ii,[],0⟩) 0 false false))
   have r9:=r0.of x9 (a:=a8) (by show (Tri.put _ _ _).get _ = _;rw [Tri.gp,if_neg (by omega)];exact r8.pos) r8.le
   have g9:Bx (N + 1) g (some (.cells 106 (WD ⟨c,tt,ii,[],0⟩) 0 false false)) ⟨H8.t.put g (some (.cells 106 (WD ⟨c,tt,ii,[],0⟩) 0 false false)),H8.next⟩:=⟨by show (Tri.put _ _ _).get _ = _;rw [Tri.gp,if_pos rfl],gg8.2.1,by omega⟩
   repeat (first|(apply Zh;exact rfl)|apply Zc|apply WO.nil|(apply Zl;exact rfl;simp only [rE,rQ,li,lo,reduceIte,Nat.reduceEqDiff,Nat.reduceAdd,Nat.reduceMul,AH.set,t1,Za ZB,XQ,XP,Yp,XT,XR,XS,XU,Yo,t3,Z9,hst9,(hc0.step x9).cells];exact rfl;exact rfl))
   obtain⟨a9,rfl⟩:∃a9,a9 = a8:=⟨a8,rfl⟩
   cases m10:ZX wBytes (s.drop a9) with
   | none =>
    have hno:=hfail (by simp [prtT,m4,m5,m7,m8,m10])
    rw [hno]
    simp only [YL]
    (apply WO.callP;(focus (simp only [rQ,Zb,li,lo,reduceIte,Nat.reduceEqDiff,Nat.reduceAdd,beq_self_eq_true];done));simp only [rE,rS,li,lo,reduceIte,Nat.reduceEqDiff,Nat.reduceAdd,Nat.reduceMul,t1,Za ZB,XQ,XP,Yp,XT,XR,XS,XU,Yo,(hc0.step x9).cells];exact rfl;exact word_p _ (N + 1) _ s a9 wBytes (by simp) (by simp) r9 m10;rintro _ H10 ⟨rfl,u10⟩)
    exact⟨rfl,hs.pan (x9.trans u10)⟩
   | some w10 =>
   (apply WO.call;(focus (simp only [rQ,Zb,li,lo,reduceIte,Nat.reduceEqDiff,Nat.reduceAdd,beq_self_eq_true];done));simp only [rE,rS,li,lo,reduceIte,Nat.reduceEqDiff,Nat.reduceAdd,Nat.reduceMul,t1,Za ZB,XQ,XP,Yp,XT,XR,XS,XU,Yo,(hc0.step x9).cells];exact rfl;exact word_c _ (N + 1) _ s a9 wBytes (by simp) (by simp) r9 m10;rintro _ H10 ⟨u10,a10,rfl,r10⟩;refine⟨_,rfl,?_⟩)
   have x10:=x9.trans u10
   repeat (first | (apply Zh;exact rfl) | apply Zc | apply WO.nil | (apply Zl;exact rfl;simp only [rE,rS,li,lo,reduceIte,Nat.reduceEqDiff,Nat.reduceAdd,Nat.reduceMul];exact rfl;exact rfl))
   (apply Yw;kernel_rfl;kernel_rfl)
   (refine Zq ?_;(iterate 2 (apply ZW.load;kernel_rfl;kernel_rfl;(focus ((simp only [rQ,Zb,li,lo,reduceIte,Nat.reduceEqDiff,Nat.reduceAdd,beq_self_eq_true];done)));simp only [rE,rS,li,lo,reduceIte,Nat.reduceEqDiff,Nat.reduceAdd,Nat.reduceMul,t1,Za ZB,XQ,XP,Yp,XT,XR,XS,XU,Yo,(hc0.step x10).cells];exact rfl;exact rfl));(iterate 5 (apply ZW.later;kernel_rfl));refine ZW.nil ?_)
   cases m11:Wp 0 10 (s.drop a10) with
   | none =>
    have hno:=hfail (by simp [prtT,m4,m5,m7,m8,m10,m11])
    rw [hno]
    simp only [YL]
    (apply ZY.callP (e:=2);kernel_rfl;simp only [li];exact rfl;(focus (simp only [rQ,Zb,li,lo,reduceIte,Nat.reduceEqDiff,Nat.reduceAdd,beq_self_eq_true];done));simp only [rE,rS,li,lo,reduceIte,Nat.reduceEqDiff,Nat.reduceAdd,Nat.reduceMul,t1,Za ZB,XQ,XP,Yp,XT,XR,XS,XU,Yo];exact rfl;exact decimal_p _ (N + 1) _ s a10 0 10 (by omega) (by omega) r10 m11;rintro _ H11 ⟨rfl,u11⟩)
    exact XX.drawn ⟨rfl,hs.pan (x10.trans u11)⟩
   | some q11 =>
   obtain⟨nn,w11⟩:=q11
   (apply ZY.call (e:=2);kernel_rfl;simp only [li];exact rfl;(focus (simp only [rQ,Zb,li,lo,reduceIte,Nat.reduceEqDiff,Nat.reduceAdd,beq_self_eq_true];done));simp only [rE,rS,li,lo,reduceIte,Nat.reduceEqDiff,Nat.reduceAdd,Nat.reduceMul,t1,Za ZB,XQ,XP,Yp,XT,XR,XS,XU,Yo];exact rfl;exact decimal_c _ (N + 1) _ s a10 0 10 (by omega) (by omega) r10 m11;rintro _ H11 ⟨rfl,l11,_,u11,a11,hw11,r11⟩;refine⟨_,rfl,?_,?_⟩;(focus (apply Yf (R:=[0]);kernel_rfl;(apply Xt.cons;simp only [li];exact rfl;(focus (simp only [rQ,Zb,li,lo,reduceIte,Nat.reduceEqDiff,Nat.reduceAdd,beq_self_eq_true];done));simp only [rE,rS,li,lo,reduceIte,Nat.reduceEqDiff,Nat.reduceAdd,Nat.reduceMul,t1,Za ZB,XQ,XP,Yp,XT,XR,XS,XU,Yo,(hc0.step (x10.trans u11)).cells];exact rfl;exact rfl;(focus (simp only [Tri.gp,Zn,reduceIte,Nat.reduceEqDiff,t1,Za ZB,XQ,XP,Yp,XT,XR,XS,XU,Yo,(hc0.step (x10.trans u11)).cells];exact rfl));(focus (simp [AV.beq,Ym,t1,Za ZB,XQ,XP,Yp,XT,XR,XS,XU,Yo,(hc0.step (x10.trans u11)).cells];done)));exact Xt.nil)))
   dsimp only at l11 hw11
   subst hw11
   have x11:=x10.trans u11
   (refine Zq ?_;(iterate 7 (apply ZW.later;kernel_rfl));refine ZW.nil ?_)
   have hP:prtT c (s.drop a3) = if nn≤(s.drop a11).length then (ZX [10] ((s.drop a11).drop nn)).map (fun r =>(⟨c,tt,ii,(s.drop a11).take nn,0⟩,r)) else none:=by simp only [prtT,m4,m5,m7,m8,m10,m11,Option.bind_some]
   rw [List.drop_drop,List.length_drop] at hP
   have hle11:=r11.le
   by_cases hnl:a11 + nn≤s.length
   rotate_left
   ·have hno:=hfail (by rw [hP,if_neg (by omega)])
    rw [hno]
    simp only [YL]
    (apply ZY.callP (e:=3);kernel_rfl;simp only [li];exact rfl;(focus (simp only [rQ,Zb,li,lo,reduceIte,Nat.reduceEqDiff,Nat.reduceAdd,beq_self_eq_true];done));simp only [rE,rS,li,lo,reduceIte,Nat.reduceEqDiff,Nat.reduceAdd,Nat.reduceMul,t1,Za ZB,XQ,XP,Yp,XT,XR,XS,XU,Yo];exact rfl;exact take_p _ (N + 1) _ s a11 nn r11 (by omega);rintro _ _ ⟨rfl,rfl⟩)
    exact XX.drawn ⟨rfl,hs.pan x11⟩
   rw [if_pos (by omega)] at hP
   (apply ZY.call (e:=3);kernel_rfl;simp only [li];exact rfl;(focus (simp only [rQ,Zb,li,lo,reduceIte,Nat.reduceEqDiff,Nat.reduceAdd,beq_self_eq_true];done));simp only [rE,rS,li,lo,reduceIte,Nat.reduceEqDiff,Nat.reduceAdd,Nat.reduceMul,t1,Za ZB,XQ,XP,Yp,XT,XR,XS,XU,Yo];exact rfl;exact take_c _ (N + 1) _ s a11 nn r11 hnl;rintro tv H12 ⟨hfr,r12,u12⟩;refine⟨_,rfl,?_,?_⟩;(focus exact ZM (by kernel_rfl)))
   have x12:=x11.trans u12
   obtain⟨hcv,htv1,htv2⟩:=fresh_conv hfr (fun c hc =>r11.byte c (List.mem_of_mem_drop (List.mem_of_mem_take hc)))
   (refine Zq ?_;(iterate 4 (apply ZW.later;kernel_rfl));(iterate 2 (first|(apply ZW.pure;kernel_rfl;kernel_rfl;(focus ((simp only [rQ,Zb,li,lo,reduceIte,Nat.reduceEqDiff,Nat.reduceAdd,beq_self_eq_true];done)));simp only [rE,rS,li,lo,reduceIte,Nat.reduceEqDiff,Nat.reduceAdd,Nat.reduceMul,t1,Za ZB,XQ,XP,Yp,XT,XR,XS,XU,Yo,t3,Z6,Zo,Ye,htv1,htv2,hcv];exact rfl;exact rfl)|(apply ZW.load;kernel_rfl;kernel_rfl;(focus ((simp only [rQ,Zb,li,lo,reduceIte,Nat.reduceEqDiff,Nat.reduceAdd,beq_self_eq_true];done)));simp only [rE,rS,li,lo,reduceIte,Nat.reduceEqDiff,Nat.reduceAdd,Nat.reduceMul,t1,Za ZB,XQ,XP,Yp,XT,XR,XS,XU,Yo,t3,Z6,Zo,Ye,htv1,htv2,hcv];exact rfl;exact rfl)));(iterate 1 (apply ZW.later;kernel_rfl));refine ZW.nil ?_)
   have gg12:=((g9.step u10).step u11).step u12
   obtain⟨a12,ha12⟩:∃a12,a12 = a11 + nn:=⟨a11 + nn,rfl⟩
   rw [← ha12] at r12 hP
   have hst13:Zr Q 9 g 3 (.str ((s.drop a11).take nn)) H12 = some ⟨H12.t.put g (some (.cells 106 (WD ⟨c,tt,ii,(s.drop a11).take nn,0⟩) 0 false false)),H12.next⟩:=Z7 (n:=1) (x:=[.str ((s.drop a11).take nn)]) gg12.1 sz9 rfl rfl rfl (by simp [WD])
   have x13:=x12.st (b:=g) hgc (some (.cells 106 (WD ⟨c,tt,ii,(s.drop a11).take nn,0⟩) 0 false false))
   have r13:=r0.of x13 (a:=a12) (by show (Tri.put _ _ _).get _ = _;rw [Tri.gp,if_neg (by omega)];exact r12.pos) r12.le
   have g13:Bx (N + 1) g (some (.cells 106 (WD ⟨c,tt,ii,(s.drop a11).take nn,0⟩) 0 false false)) ⟨H12.t.put g (some (.cells 106 (WD ⟨c,tt,ii,(s.drop a11).take nn,0⟩) 0 false false)),H12.next⟩:=⟨by show (Tri.put _ _ _).get _ = _;rw [Tri.gp,if_pos rfl],gg12.2.1,by omega⟩
   (apply ZY.eff (e:=6);kernel_rfl;simp only [li];exact rfl;(focus (simp only [rQ,Zb,li,lo,reduceIte,Nat.reduceEqDiff,Nat.reduceAdd,beq_self_eq_true];done));simp only [rE,rQ,li,lo,reduceIte,Nat.reduceEqDiff,Nat.reduceAdd,Nat.reduceMul,AH.set,hst13];exact rfl;exact rfl;(focus exact ZM (by kernel_rfl)))
   (refine Zq ?_;(iterate 7 (apply ZW.later;kernel_rfl));refine ZW.nil ?_)
   (apply ZY.all;kernel_rfl;kernel_rfl)
   repeat (first|(apply Zh;exact rfl)|apply Zc|apply WO.nil|(apply Zl;exact rfl;simp only [rE,rS,li,lo,reduceIte,Nat.reduceEqDiff,Nat.reduceAdd,Nat.reduceMul,t1,Za ZB,XQ,XP,Yp,XT,XR,XS,XU,Yo,(hc0.step x13).cells];exact rfl;exact rfl))
   cases m14:ZX [10] (s.drop a12) with
   | none =>
    have hno:=hfail (by rw [hP,m14];rfl)
    rw [hno]
    simp only [YL]
    (apply WO.callP;(focus (simp only [rQ,Zb,li,lo,reduceIte,Nat.reduceEqDiff,Nat.reduceAdd,beq_self_eq_true];done));simp only [rE,rS,li,lo,reduceIte,Nat.reduceEqDiff,Nat.reduceAdd,Nat.reduceMul,t1,Za ZB,XQ,XP,Yp,XT,XR,XS,XU,Yo,(hc0.step x13).cells];exact rfl;exact word_p _ (N + 1) _ s a12 _ (by simp) (by simp) r13 m14;rintro _ H14 ⟨rfl,u14⟩)
    exact⟨rfl,hs.pan (x13.trans u14)⟩
   | some w14 =>
   (apply WO.call;(focus (simp only [rQ,Zb,li,lo,reduceIte,Nat.reduceEqDiff,Nat.reduceAdd,beq_self_eq_true];done));simp only [rE,rS,li,lo,reduceIte,Nat.reduceEqDiff,Nat.reduceAdd,Nat.reduceMul,t1,Za ZB,XQ,XP,Yp,XT,XR,XS,XU,Yo,(hc0.step x13).cells];exact rfl;exact word_c _ (N + 1) _ s a12 _ (by simp) (by simp) r13 m14;rintro _ H14 ⟨u14,a14,rfl,r14⟩;refine⟨_,rfl,?_⟩)
   iterate 1 (first | (apply Zh;exact rfl) | apply Zc | apply WO.nil | (apply Zl;exact rfl;simp only [rE,rS,li,lo,reduceIte,Nat.reduceEqDiff,Nat.reduceAdd,Nat.reduceMul];exact rfl;exact rfl))
   refine tail _ _ ⟨⟨c,tt,ii,(s.drop a11).take nn,0⟩,a14,x13.trans u14,r14,g13.step u14,by rw [hP,m14];rfl,?_,?_,?_⟩
   all_goals simp [Tri.gp,t0,t1,t3]
 clear t0 t1 t3 t41
 rintro t2 HH ⟨d,ai,xi,ri,gi,hpr,t0,t1,t3⟩
 have hsi:=hs.step xi ri
 have hpl:=prt_len hpr
 have hil:=ri.le
 simp only [List.length_drop] at hpl
 have hcy:Yh Q (.yield (N + 4)) [.agg (WD d)] HH = some (.round (N + 4) 46 13 (tm.put 8 (some (.agg (WD d)))) as46 bd46,HH):=by
  show yieldU (N + 4) _ HH = _
  unfold yieldU
  rw [hsi.gl]
  rfl
 repeat (first|(apply Zh;exact rfl)|apply Zc|apply WO.nil|(apply Zl;exact rfl;simp only [rE,rS,li,lo,reduceIte,Nat.reduceEqDiff,Nat.reduceAdd,Nat.reduceMul,t0,t1,t3,Ze Xc ZV,gi.cells,YX];exact rfl;exact rfl))
 (apply WO.roundJ hsi htm d (by omega);(focus (simp only [rQ,Zb,li,lo,reduceIte,Nat.reduceEqDiff,Nat.reduceAdd,beq_self_eq_true];done));(focus (simp only [rE,rS,li,lo,reduceIte,Nat.reduceEqDiff,Nat.reduceAdd,Nat.reduceMul,t0,t1,t3,hcy];done));rintro H5 ⟨v',hs5⟩;refine⟨_,rfl,?_⟩)
 repeat (first | (apply Zh;exact rfl) | apply Zc | apply WO.nil | (apply Zl;exact rfl;simp only [rE,rS,li,lo,reduceIte,Nat.reduceEqDiff,Nat.reduceAdd,Nat.reduceMul];exact rfl;exact rfl))
 (first|(apply WF.condT;(focus (simp only [Zg,Zd,Tri.gp,Zn,Bool.not_true,Bool.not_false,reduceIte,Nat.reduceEqDiff];done)))|(apply WF.condF;(focus (simp only [Zg,Zd,Tri.gp,Zn,Bool.not_true,Bool.not_false,reduceIte,Nat.reduceEqDiff];done))))
 repeat (first | (apply Zh;exact rfl) | apply Zc | apply WO.nil | (apply Zl;exact rfl;simp only [rE,rS,li,lo,reduceIte,Nat.reduceEqDiff,Nat.reduceAdd,Nat.reduceMul];exact rfl;exact rfl))
 refine Yt ?_
 refine ih (s.length - ai) _ _ (by omega) ⟨ai,v',l ++ [d],by omega,by simp;omega,hs5,?_,?_,?_⟩
 ·rw [hrel,hpr,Option.bind_some]
  dsimp only
  cases spl (s.drop ai) <;> simp
 all_goals simp [Tri.gp,t0,t1]
theorem parts_c (N y:Nat) (s:List Nat) (tm:Tri AV) (Hz H:AH) (htm:tm.get 1 = some (.ptr y 0)) (hs:Sp N y s tm as46 bd46 0 .nilslice [] Hz H) {l:List Sh} (h:spl s = some l):Fn Q L 87 [.yield (N + 4),.ptr (N + 2) 0] H (SpQ N y s tm as46 bd46 Hz l):=YL.fn h (en87 _ _) (parts_w N y s tm Hz H htm hs)
theorem parts_p (N y:Nat) (s:List Nat) (tm:Tri AV) (Hz H:AH) (htm:tm.get 1 = some (.ptr y 0)) (hs:Sp N y s tm as46 bd46 0 .nilslice [] Hz H) (h:spl s = none):Pn Q L 87 [.yield (N + 4),.ptr (N + 2) 0] H (fun w H' =>w = bad∧SpP N y Hz H'):=YL.pn h (en87 _ _) (parts_w N y s tm Hz H htm hs)
end Go.Ev.C
end
section
namespace Go.Ev.C
open Go.Proofs Go.RowKit Go.Fmt
set_option maxRecDepth 100000
set_option linter.unusedSimpArgs false
variable {L:World→Prop} [Yu Q L]
theorem WK.endBlockJ {P:Program} {L:World→Prop} [Yu P L] {f n:Nat} {t:Tri AV} {k:List AI} {d:List AD} {kd:CallKind} {H:AH} {Φ:AF→AH→Prop} {i:Nat} (h:WF P L (PK f n t k d kd) H Φ):WF P L (PK f n t (.inBlock i :: k) d kd) H Φ:=h.step fun _ =>rfl
set_option maxHeartbeats 4000000 in
theorem parts47_c (H:AH) (p:Nat):Fn Q L 47 [.ptr p 0] H (fun w H' =>w = .func 87 [] [.ptr H.next 0]∧H' = ⟨H.t.put H.next (some (.cells 120 [.ptr p 0] 0 false false)),H.next + 1⟩):=by
 refine Fn.intro (en47 _) ?_
 unfold c47 Tryz.f47
 simp only [Option.getD_some]
 repeat (first | (apply Zh;exact rfl) | apply Zc | apply WO.nil | (apply Zl;exact rfl;simp only [rE,rS,li,lo,reduceIte,Nat.reduceEqDiff,Nat.reduceAdd,Nat.reduceMul];exact rfl;exact rfl))
 (apply WF.ret;(focus (simp only [Zi,Tri.gp,Zn,ZL,reduceIte,Nat.reduceEqDiff,rs47];exact rfl)))
 exact⟨rfl,rfl⟩
theorem conv9 (s:List Nat) (H:AH):convertE Q 9 35 (some (.str s)) H = some (.val (.slice H.next 0 s.length (.up 1)),⟨H.t.put H.next (some (.cells 5 (Xw s) 0 true false)),H.next + 1⟩):=by
 have hn:AH.new H (.cells 5 (Xw s) 0 true false) = some ⟨H.t.put H.next (some (.cells 5 (Xw s) 0 true false)),H.next + 1⟩:=AH.new_one (X4 s)
 have e:s.map byteV = Xw s:=rfl
 simp only [convertE,convE,Ye,Zo,und5,e,hn,valE]
theorem cu87c (x y:AV) (H:AH):Yh Q (.func 87 [] [x]) [y] H = some (.enter 87 ([] ++ [y] ++ [x]),H):=by kernel_rfl
/-- The heap at the loop's head. -/
def spH (H:AH) (s:List Nat):AH:=⟨((H.t.put H.next (some (.cells 5 (Xw s) 0 true false))).put (H.next + 1) (some (.cells 122 [.slice H.next 0 s.length (.up 1),.int .i64 0] 0 false false))).put (H.next + 1 + 1) (some (.cells 120 [.ptr (H.next + 1) 0] 0 false false)),H.next + 1 + 1 + 1⟩
theorem sp_start {H:AH} {s:List Nat} {y:Nat} (hy:y < H.next) (hg:H.t.get y = some (.cells 37 [.nilslice] 0 false false)) (hlen:s.length≤100000000) (h8:∀c ∈ s,c < 256) (tm:Tri AV) (A B:Code) :
  Sp H.next y s tm A B 0 .nilslice [] H (rangeH (spH H s) 46 13 tm #[8] A B):=by
 have hb:∀b,b < H.next + 3→(rangeH (spH H s) 46 13 tm #[8] A B).t.get b = (spH H s).t.get b:=fun b hb =>by
  show ((Tri.put _ (H.next + 3) _).put (H.next + 4) _).get b = _
  rw [Tri.gp,if_neg (by omega),Tri.gp,if_neg (by omega)]
 refine⟨Nat.le_refl _,fun b h1 _ =>?_,?_,?_,?_,?_,?_,?_,hy,Xh.nil _,Nat.zero_le _,hlen,h8⟩
 ·rw [hb b (by omega)]
  show (((H.t.put _ _).put _ _).put _ _).get b = _
  rw [Tri.gp,if_neg (by omega),Tri.gp,if_neg (by omega),Tri.gp,if_neg (by omega)]
 ·rw [hb _ (by omega)]
  show (((H.t.put _ _).put _ _).put _ _).get _ = _
  rw [Tri.gp,if_neg (by omega),Tri.gp,if_neg (by omega),Tri.gp,if_pos rfl]
 ·rw [hb _ (by omega)]
  show (((H.t.put _ _).put _ _).put _ _).get _ = _
  rw [Tri.gp,if_neg (by omega),Tri.gp,if_pos rfl]
  rfl
 ·rw [hb _ (by omega)]
  show (((H.t.put _ _).put _ _).put _ _).get _ = _
  rw [Tri.gp,if_pos rfl]
 ·show ((Tri.put _ (H.next + 3) _).put (H.next + 4) _).get (H.next + 3) = _
  rw [Tri.gp,if_neg (by omega),Tri.gp,if_pos rfl]
 ·show ((Tri.put _ (H.next + 3) _).put (H.next + 4) _).get (H.next + 4) = _
  rw [Tri.gp,if_pos rfl]
  rfl
 ·rw [hb _ (by omega)]
  show (((H.t.put _ _).put _ _).put _ _).get _ = _
  rw [Tri.gp,if_neg (by omega),Tri.gp,if_neg (by omega),Tri.gp,if_neg (by omega)]
  exact hg
def ShPost (H:AH) (y:Nat) (l:List Sh) (H':AH):Prop:=Y2 y H H'∧∃v,H'.t.get y = some (.cells 37 [v] 0 false false)∧Xh 106 5 (H.next + 5) PSh H' v l
set_option maxHeartbeats 4000000 in
theorem split46_c (H:AH) (x y:Nat) (s:List Nat) (hlen:s.length≤100000000) (h8:∀c ∈ s,c < 256) (hx:H.cellsAt x = some [.str s]) (hy:y < H.next) (hg:H.t.get y = some (.cells 37 [.nilslice] 0 false false)) {l:List Sh} (hd:spl s = some l) :
  Fn Q L 46 [.ptr x 0,.ptr y 0] H (fun _ H' =>ShPost H y l H'):=by
 refine Fn.intro (en46 _ _) ?_
 have hsl:SL (.slice H.next 0 s.length (.up 1)) s.length:=.sl _ _ _ _
 unfold c46 Tryz.f46
 simp only [Option.getD_some]
 repeat (first|(apply Zh;exact rfl)|apply Zc|apply WO.nil|(apply Zl;exact rfl;simp only [rE,rS,li,lo,reduceIte,Nat.reduceEqDiff,Nat.reduceAdd,Nat.reduceMul,hx,Za YD,Ye,Zo,conv9,Zs,bu122 hsl,cu47];exact rfl;exact rfl))
 (apply WO.call;(focus (simp only [rQ,Zb,li,lo,reduceIte,Nat.reduceEqDiff,Nat.reduceAdd,beq_self_eq_true];done));simp only [rE,rS,li,lo,reduceIte,Nat.reduceEqDiff,Nat.reduceAdd,Nat.reduceMul,hx,Za YD,Ye,Zo,conv9,Zs,bu122 hsl,cu47];exact rfl;exact parts47_c _ _;rintro _ H1 ⟨rfl,rfl⟩;refine⟨_,rfl,?_⟩)
 iterate 2 (first | (apply Zh;exact rfl) | apply Zc | apply WO.nil | (apply Zl;exact rfl;simp only [rE,rS,li,lo,reduceIte,Nat.reduceEqDiff,Nat.reduceAdd,Nat.reduceMul];exact rfl;exact rfl))
 show WF Q L (PF 46 13 _ [.code (.rangeFunc (.tmp 7) #[8] as46 bd46),.inBlock 0]) (spH H s) _
 refine WF.range (fv:=.func 87 [] [.ptr (H.next + 2) 0]) (by simp only [Zg,Tri.gp,Zn,reduceIte,Nat.reduceEqDiff]) rfl (cu87c _ _ _) (parts_c H.next y s _ H _ (by simp [Tri.gp,Zn]) (sp_start hy hg hlen h8 _ _ _) hd) ?_
 rintro _ H3 ⟨v,sp⟩
 refine⟨sp.gl,?_⟩
 have hn:=sp.next
 refine WK.endBlockJ ?_
 refine WK.fall ?_
 refine WK.collected (v:=.tuple []) rfl ?_ ?_ ?_
 rotate_left
 ·exact rs46 13 .leaf [] H3
 rotate_left
 ·show (Tri.put _ (H.next + 4) _).get (H.next + 3) = _
  rw [Tri.gp,if_neg (by omega)]
  exact sp.gd
 ·refine⟨⟨by show H.next≤H3.next;omega,fun b hb hne =>?_⟩,v,?_,?_⟩
  ·show ((Tri.put _ (H.next + 4) _).put (H.next + 3) _).get b = _
   rw [Tri.gp,if_neg (by omega),Tri.gp,if_neg (by omega)]
   exact sp.old b hb hne
  ·show ((Tri.put _ (H.next + 4) _).put (H.next + 3) _).get y = _
   rw [Tri.gp,if_neg (by omega),Tri.gp,if_neg (by omega)]
   exact sp.gy
  ·exact Xh.ext (PE:=PSh) (fun u h =>PSh.ext u h) sp.own (((Xo.refl _ H3).st (b:=H.next + 4) (.inl (by omega)) _).st (b:=H.next + 3) (.inl (by omega)) _)
set_option maxHeartbeats 4000000 in
theorem split46_p (H:AH) (x y:Nat) (s:List Nat) (hlen:s.length≤100000000) (h8:∀c ∈ s,c < 256) (hx:H.cellsAt x = some [.str s]) (hy:y < H.next) (hg:H.t.get y = some (.cells 37 [.nilslice] 0 false false)) (hd:spl s = none) :
  Pn Q L 46 [.ptr x 0,.ptr y 0] H (fun w H' =>w = bad'∧Y2 y H H'):=by
 refine Pn.intro (en46 _ _) ?_
 have hsl:SL (.slice H.next 0 s.length (.up 1)) s.length:=.sl _ _ _ _
 unfold c46 Tryz.f46
 simp only [Option.getD_some]
 repeat (first|(apply Zh;exact rfl)|apply Zc|apply WO.nil|(apply Zl;exact rfl;simp only [rE,rS,li,lo,reduceIte,Nat.reduceEqDiff,Nat.reduceAdd,Nat.reduceMul,hx,Za YD,Ye,Zo,conv9,Zs,bu122 hsl,cu47];exact rfl;exact rfl))
 (apply WO.call;(focus (simp only [rQ,Zb,li,lo,reduceIte,Nat.reduceEqDiff,Nat.reduceAdd,beq_self_eq_true];done));simp only [rE,rS,li,lo,reduceIte,Nat.reduceEqDiff,Nat.reduceAdd,Nat.reduceMul,hx,Za YD,Ye,Zo,conv9,Zs,bu122 hsl,cu47];exact rfl;exact parts47_c _ _;rintro _ H1 ⟨rfl,rfl⟩;refine⟨_,rfl,?_⟩)
 iterate 2 (first | (apply Zh;exact rfl) | apply Zc | apply WO.nil | (apply Zl;exact rfl;simp only [rE,rS,li,lo,reduceIte,Nat.reduceEqDiff,Nat.reduceAdd,Nat.reduceMul];exact rfl;exact rfl))
 show WF Q L (PF 46 13 _ [.code (.rangeFunc (.tmp 7) #[8] as46 bd46),.inBlock 0]) (spH H s) _
 refine WF.rangeP (fv:=.func 87 [] [.ptr (H.next + 2) 0]) (by simp only [Zg,Tri.gp,Zn,reduceIte,Nat.reduceEqDiff]) rfl (cu87c _ _ _) (parts_p H.next y s _ H _ (by simp [Tri.gp,Zn]) (sp_start hy hg hlen h8 _ _ _) hd) ?_
 rintro v H3 ⟨rfl,sp⟩
 have hn:=sp.next
 refine⟨sp.gd,rfl,⟨by show H.next≤H3.next;omega,fun b hb hne =>?_⟩⟩
 show (Tri.put _ (H.next + 3) _).get b = _
 rw [Tri.gp,if_neg (by omega)]
 exact sp.old b hb hne
theorem cu46c (x y:AV) (l:List AV) (H:AH):Yh Q (.func 46 [] [x,y]) l H = some (.enter 46 ([] ++ l ++ [x,y]),H):=by kernel_rfl
theorem zero37:Wi Q 37 = some .nilslice:=by kernel_rfl
/-- Parts in memory. -/
def ShAt (H:AH) (v:AV) (l:List Sh):Prop:=SL v l.length∧∀b off n cap,v = .slice b off n cap→l ≠ []→∃c,b < H.next∧H.cellsAt b = some c∧∀i d,l[i]? = some d→cut c (off + i * 5) 5 = some (WD d)
theorem ShAt.up {H H':AH} {v:AV} {l:List Sh} (h:ShAt H v l) (u:Up H H'):ShAt H' v l:=⟨h.1,fun b off n cap e hn =>by
 obtain⟨c,h1,h2,h3⟩:=h.2 b off n cap e hn
 exact⟨c,Nat.lt_of_lt_of_le h1 u.next,by rw [u.cellsAt h1];exact h2,h3⟩⟩
theorem own_sh {lo:Nat} {H:AH} {v:AV} {l:List Sh} (h:Xh 106 5 lo PSh H v l):ShAt H v l:=by
 refine⟨h.sl,fun b off n cap e hn =>?_⟩
 rcases h with ⟨rfl,rfl⟩ | ⟨h0,b',c,rfl,h2,h3,h4,h5,h6,h7,h8⟩
 ·cases e
 ·cases e
  refine⟨c,h3,by unfold AH.cellsAt;rw [h4],fun i d hi =>?_⟩
  obtain⟨x,hx,rfl⟩:=h8 i d hi
  rw [Nat.zero_add]
  exact hx
theorem ShAt.at {H:AH} {v:AV} {l:List Sh} (h:ShAt H v l) {i:Nat} (hi:i < l.length):∃b off cap c,v = .slice b off l.length cap∧b < H.next∧H.cellsAt b = some c∧cut c (off + i * 5) 5 = some (WD l[i]):=by
 obtain⟨h1,h2⟩:=h
 generalize hn:l.length = n at h1
 cases h1 with
 | nil =>omega
 | sl b off n cap =>
  obtain⟨c,hb,hc,hr⟩:=h2 b off _ cap rfl (by intro e;subst e;simp at hi)
  exact⟨b,off,cap,c,rfl,hb,hc,hr i _ (List.getElem?_eq_getElem hi)⟩
set_option maxHeartbeats 4000000 in
theorem split_c (H:AH) (s:List Nat) (hlen:s.length≤100000000) (h8:∀c ∈ s,c < 256) {l:List Sh} (hd:spl s = some l) :
  Fn Q L 15 [.str s] H (fun w H' =>∃v,w = .tuple [v,.int .i64 0]∧ShAt H' v l∧Up H H'):=by
 refine Fn.intro (en15 _) ?_
 unfold c15 Tryz.f15
 simp only [Option.getD_some]
 repeat (first|(apply Zh;exact rfl)|apply Zc|apply WO.nil|(apply Zl;exact rfl;simp only [rE,rS,li,lo,reduceIte,Nat.reduceEqDiff,Nat.reduceAdd,Nat.reduceMul,zero37,cu45];exact rfl;exact rfl))
 have u1:Up H ⟨(H.t.put H.next (some (.cells 9 [.str s] 0 false false))).put (H.next + 1) (some (.cells 37 [.nilslice] 0 false false)),H.next + 1 + 1⟩:=WC H _ _
 have hx1:AH.cellsAt ⟨(H.t.put H.next (some (.cells 9 [.str s] 0 false false))).put (H.next + 1) (some (.cells 37 [.nilslice] 0 false false)),H.next + 1 + 1⟩ H.next = some [.str s]:=Z5 (e:=9) (by show ((H.t.put _ _).put _ _).get _ = _;rw [Tri.gp,if_neg (by omega),Tri.gp,if_pos rfl])
 have hy1:(AH.mk ((H.t.put H.next (some (.cells 9 [.str s] 0 false false))).put (H.next + 1) (some (.cells 37 [.nilslice] 0 false false))) (H.next + 1 + 1)).t.get (H.next + 1) = some (.cells 37 [.nilslice] 0 false false):=by show ((H.t.put _ _).put _ _).get _ = _;rw [Tri.gp,if_pos rfl]
 have hn1:(AH.mk ((H.t.put H.next (some (.cells 9 [.str s] 0 false false))).put (H.next + 1) (some (.cells 37 [.nilslice] 0 false false))) (H.next + 1 + 1)).next = H.next + 2:=rfl
 generalize (⟨(H.t.put H.next (some (.cells 9 [.str s] 0 false false))).put (H.next + 1) (some (.cells 37 [.nilslice] 0 false false)),H.next + 1 + 1⟩:AH) = H1 at *
 have ub:=Up.box H1 (some (.cells 4 [.bool false] 0 false false))
 have hfn:=split46_c (L:=L) ⟨H1.t.put H1.next (some (.cells 4 [.bool false] 0 false false)),H1.next + 1⟩ H.next (H.next + 1) s hlen h8 (by rw [ub.cellsAt (by omega)];exact hx1) (by show H.next + 1 < H1.next + 1;omega) (by rw [ub.old _ (by omega)];exact hy1) hd
 have hc:=caught_fn (L:=L) H1 (.func 46 [] [.ptr H.next 0,.ptr (H.next + 1) 0]) 46 [.ptr H.next 0,.ptr (H.next + 1) 0] _ (fun H' =>cu46c _ _ [] H') hfn (fun v H2 hΨ =>by
  rw [hΨ.1.old H1.next (Nat.lt_succ_self _) (by omega)]
  show (H1.t.put _ _).get _ = _
  rw [Tri.gp,if_pos rfl])
 (apply WO.call;(focus (simp only [rQ,Zb,li,lo,reduceIte,Nat.reduceEqDiff,Nat.reduceAdd,beq_self_eq_true];done));simp only [rE,rS,li,lo,reduceIte,Nat.reduceEqDiff,Nat.reduceAdd,Nat.reduceMul,zero37,cu45];exact rfl;exact hc;rintro _ H2 ⟨rfl,w0,H3,⟨u3,v,hg3,own3⟩,rfl⟩;refine⟨_,rfl,?_⟩)
 have hvo:=own3.sl.one
 have hvs:=own3.sl.solid
 have hcell:(falseH H3 H1.next).cellsAt (H.next + 1) = some [v]:=Z5 (e:=37) (by unfold falseH;show (H3.t.put _ _).get _ = _;rw [Tri.gp,if_neg (by omega)];exact hg3)
 repeat (first|(apply Zh;exact rfl)|apply Zc|apply WO.nil|(apply Zl;exact rfl;simp only [rE,rS,li,lo,reduceIte,Nat.reduceEqDiff,Nat.reduceAdd,Nat.reduceMul,cu45];exact rfl;exact rfl))
 (first|(apply WF.condT;(focus (simp only [Zg,Zd,Tri.gp,Zn,Bool.not_true,Bool.not_false,reduceIte,Nat.reduceEqDiff];done)))|(apply WF.condF;(focus (simp only [Zg,Zd,Tri.gp,Zn,Bool.not_true,Bool.not_false,reduceIte,Nat.reduceEqDiff];done))))
 repeat (first|(apply Zh;exact rfl)|apply Zc|apply WO.nil|(apply Zl;exact rfl;simp only [rE,rS,li,lo,reduceIte,Nat.reduceEqDiff,Nat.reduceAdd,Nat.reduceMul,Za agg37,hcell,hvo,hvs];exact rfl;exact rfl))
 (apply WF.ret;(focus (simp only [Zi,Tri.gp,Zn,ZL,reduceIte,Nat.reduceEqDiff,rs15];exact rfl)))
 refine⟨v,rfl,own_sh (Xh.ext (PE:=PSh) (fun u h =>PSh.ext u h) own3 ((Xo.refl _ H3).st (.inl (by show H1.next < H1.next + 1 + 5;omega)) _)),?_,?_⟩
 ·have:=u1.next
  have:=u3.next
  show H.next≤H3.next
  have e:(AH.mk (H1.t.put H1.next (some (.cells 4 [.bool false] 0 false false))) (H1.next + 1)).next = H1.next + 1:=rfl
  omega
 ·intro b hb
  unfold falseH
  show (H3.t.put _ _).get _ = _
  rw [Tri.gp,if_neg (by omega),u3.old b (by show b < H1.next + 1;omega) (by omega)]
  show (H1.t.put _ _).get _ = _
  rw [Tri.gp,if_neg (by omega)]
  exact u1.old b hb
set_option maxHeartbeats 4000000 in
theorem split_n (H:AH) (s:List Nat) (hlen:s.length≤100000000) (h8:∀c ∈ s,c < 256) (hd:spl s = none) :
  Fn Q L 15 [.str s] H (fun w H' =>w = .tuple [.nilslice,.int .i64 263]∧Up H H'):=by
 refine Fn.intro (en15 _) ?_
 unfold c15 Tryz.f15
 simp only [Option.getD_some]
 repeat (first|(apply Zh;exact rfl)|apply Zc|apply WO.nil|(apply Zl;exact rfl;simp only [rE,rS,li,lo,reduceIte,Nat.reduceEqDiff,Nat.reduceAdd,Nat.reduceMul,zero37,cu45];exact rfl;exact rfl))
 have u1:Up H ⟨(H.t.put H.next (some (.cells 9 [.str s] 0 false false))).put (H.next + 1) (some (.cells 37 [.nilslice] 0 false false)),H.next + 1 + 1⟩:=WC H _ _
 have hx1:AH.cellsAt ⟨(H.t.put H.next (some (.cells 9 [.str s] 0 false false))).put (H.next + 1) (some (.cells 37 [.nilslice] 0 false false)),H.next + 1 + 1⟩ H.next = some [.str s]:=Z5 (e:=9) (by show ((H.t.put _ _).put _ _).get _ = _;rw [Tri.gp,if_neg (by omega),Tri.gp,if_pos rfl])
 have hy1:(AH.mk ((H.t.put H.next (some (.cells 9 [.str s] 0 false false))).put (H.next + 1) (some (.cells 37 [.nilslice] 0 false false))) (H.next + 1 + 1)).t.get (H.next + 1) = some (.cells 37 [.nilslice] 0 false false):=by show ((H.t.put _ _).put _ _).get _ = _;rw [Tri.gp,if_pos rfl]
 have hn1:(AH.mk ((H.t.put H.next (some (.cells 9 [.str s] 0 false false))).put (H.next + 1) (some (.cells 37 [.nilslice] 0 false false))) (H.next + 1 + 1)).next = H.next + 2:=rfl
 generalize (⟨(H.t.put H.next (some (.cells 9 [.str s] 0 false false))).put (H.next + 1) (some (.cells 37 [.nilslice] 0 false false)),H.next + 1 + 1⟩:AH) = H1 at *
 have ub:=Up.box H1 (some (.cells 4 [.bool false] 0 false false))
 have hfn:=split46_p (L:=L) ⟨H1.t.put H1.next (some (.cells 4 [.bool false] 0 false false)),H1.next + 1⟩ H.next (H.next + 1) s hlen h8 (by rw [ub.cellsAt (by omega)];exact hx1) (by show H.next + 1 < H1.next + 1;omega) (by rw [ub.old _ (by omega)];exact hy1) hd
 have hc:=caught_pn (L:=L) H1 (.func 46 [] [.ptr H.next 0,.ptr (H.next + 1) 0]) 46 [.ptr H.next 0,.ptr (H.next + 1) 0] _ (fun H' =>cu46c _ _ [] H') hfn (fun H2 hΨ =>⟨Nat.lt_of_lt_of_le (Nat.lt_succ_self _) hΨ.next,by
  rw [hΨ.old H1.next (Nat.lt_succ_self _) (by omega)]
  show (H1.t.put _ _).get _ = _
  rw [Tri.gp,if_pos rfl]⟩)
 (apply WO.call;(focus (simp only [rQ,Zb,li,lo,reduceIte,Nat.reduceEqDiff,Nat.reduceAdd,beq_self_eq_true];done));simp only [rE,rS,li,lo,reduceIte,Nat.reduceEqDiff,Nat.reduceAdd,Nat.reduceMul,zero37,cu45];exact rfl;exact hc;rintro _ H2 ⟨rfl,H3,u3,rfl⟩;refine⟨_,rfl,?_⟩)
 repeat (first|(apply Zh;exact rfl)|apply Zc|apply WO.nil|(apply Zl;exact rfl;simp only [rE,rS,li,lo,reduceIte,Nat.reduceEqDiff,Nat.reduceAdd,Nat.reduceMul,cu45];exact rfl;exact rfl))
 (first|(apply WF.condT;(focus (simp only [Zg,Zd,Tri.gp,Zn,Bool.not_true,Bool.not_false,reduceIte,Nat.reduceEqDiff];done)))|(apply WF.condF;(focus (simp only [Zg,Zd,Tri.gp,Zn,Bool.not_true,Bool.not_false,reduceIte,Nat.reduceEqDiff];done))))
 repeat (first|(apply Zh;exact rfl)|apply Zc|apply WO.nil|(apply Zl;exact rfl;simp only [rE,rS,li,lo,reduceIte,Nat.reduceEqDiff,Nat.reduceAdd,Nat.reduceMul,cu45];exact rfl;exact rfl))
 (apply WF.ret;(focus (simp only [Zi,Tri.gp,Zn,ZL,reduceIte,Nat.reduceEqDiff,rs15];exact rfl)))
 have e3:=u3.next
 have e4:(AH.mk (H1.t.put H1.next (some (.cells 4 [.bool false] 0 false false))) (H1.next + 1)).next = H1.next + 1:=rfl
 refine⟨rfl,?_,fun b hb =>?_⟩
 ·show H.next≤H3.next + 1
  omega
 ·unfold caughtH
  show (((H3.t.put _ _).put _ _).put _ _).get _ = _
  rw [Tri.gp,if_neg (by omega),Tri.gp,if_neg (by omega),Tri.gp,if_neg (by omega),u3.old b (by omega) (by omega)]
  show (H1.t.put _ _).get _ = _
  rw [Tri.gp,if_neg (by omega)]
  exact u1.old b hb
end Go.Ev.C
end