/- Contracts: the reference: Decode. -/
import Derived.Test.YtkkegnkopmpjhaaGreatDoorEvY
set_option linter.unusedVariables false
set_option linter.unusedSimpArgs false
set_option linter.all false
section
namespace Go.Ev.C
open Go.Proofs Go.RowKit Go.Fmt
set_option maxRecDepth 100000
set_option linter.unusedSimpArgs false
variable {L:World→Prop} [Yu Q L]
/-- The taker's box. -/
structure TkB (H0 H:AH) (p:Nat) (v:AV) (b:Bool) (s:List Nat):Prop where
 pos:H.t.get p = some (.cells 137 [v,.bool b] 0 false false)
 lt:p < H.next
 lo:H0.next≤p
 src:Src H0 v s
 up:Up H0 H
def TkS (H0 H:AH) (p:Nat) (st:Option (List Nat)):Prop:=∃v b s,TkB H0 H p v b s∧((b = false∧st = some s) ∨ (b = true∧st = none))
theorem TkB.cells {H0 H:AH} {p:Nat} {v:AV} {b:Bool} {s:List Nat} (h:TkB H0 H p v b s):H.cellsAt p = some [v,.bool b]:=Z5 h.pos
def setTk (H:AH) (p:Nat) (v:AV) (b:Bool):AH:=⟨H.t.put p (some (.cells 137 [v,.bool b] 0 false false)),H.next⟩
theorem TkB.set {H0 H:AH} {p:Nat} {v:AV} {b:Bool} {s:List Nat} (h:TkB H0 H p v b s) {v':AV} {b':Bool} {s':List Nat} (hs:Src H0 v' s'):TkB H0 (setTk H p v' b') p v' b' s' :=
 ⟨by unfold setTk;show (Tri.put _ _ _).get _ = _;rw [Tri.gp,if_pos rfl],h.lt,h.lo,hs,Up.put (Up.refl _) h.up h.lo⟩
theorem TkB.setB {H0 H:AH} {p:Nat} {v:AV} {b:Bool} {s:List Nat} (h:TkB H0 H p v b s) (b':Bool):TkB H0 (setTk H p v b') p v b' s:=h.set h.src
theorem Z2 (H:AH) (p:Nat) (v:AV) (b:Bool):Y2 p H (setTk H p v b):=Y2.put p H _
theorem TkB.stB {H0 H:AH} {p:Nat} {v:AV} {b:Bool} {s:List Nat} (h:TkB H0 H p v b s) (b':Bool):Zr Q 4 p 1 (.bool b') H = some (setTk H p v b') :=
 Z7 (n:=1) (x:=[.bool b']) h.pos sz4 rfl rfl rfl (Nat.le_refl _)
theorem TkB.stV {H0 H:AH} {p:Nat} {v:AV} {b:Bool} {s:List Nat} (h:TkB H0 H p v b s) {v':AV} {n:Nat} (hv:SL v' n):Zr Q 35 p 0 v' H = some (setTk H p v' b) :=
 Z7 (n:=1) (x:=[v']) h.pos sz35 (SL.cells' hv) rfl (by simp [hv.one]) (by simp)
theorem TkB.upx {H0 H H':AH} {p:Nat} {v:AV} {b:Bool} {s:List Nat} (h:TkB H0 H p v b s) (u:Up H H'):TkB H0 H' p v b s :=
 ⟨by rw [u.old p h.lt];exact h.pos,Nat.lt_of_lt_of_le h.lt u.next,h.lo,h.src,h.up.trans u⟩
theorem TkS.up {H0 H H':AH} {p:Nat} {st:Option (List Nat)} (h:TkS H0 H p st) (u:Up H H'):TkS H0 H' p st:=by
 obtain⟨v,b,s,h1,h2⟩:=h
 exact⟨v,b,s,h1.upx u,h2⟩
/-- A number of at most 7 bytes. -/
abbrev num7 (s:List Nat):Option (Nat × List Nat):=getN 7 0 s
def nx (st:Option (List Nat)):Option (List Nat):=(st.bind num7).map (·.2)
theorem rem8 {x:Nat} (h:x < 256):X6 Q .rem 5 (.int .u8 (x:Int)) (.int .u8 128) = some (.int .u8 ((x % 128:Nat):Int)):=by
 have e:Int.tmod (x:Int) 128 = ((x % 128:Nat):Int):=by
  rw [show (128:Int) = ((128:Nat):Int) from rfl,Int.ofNat_tmod]
 have h0:¬ ((128:Int) = 0):=by decide
 simp only [X6,intOp,h0,if_false,if_true,e]
theorem p49 {i:Nat} (hi:i≤6):128 ^ i≤4398046511104:=by
 have h1:128 ^ i≤128 ^ 6:=Nat.pow_le_pow_right (by omega) hi
 have h2:(128:Nat) ^ 6 = 4398046511104:=by decide
 omega
theorem mul49 {c i:Nat} (hc:c < 128) (hi:i≤6):c * 128 ^ i≤127 * 4398046511104:=Nat.mul_le_mul (by omega) (p49 hi)
theorem tmod8 (x:Nat):Int.tmod (x:Int) 128 = ((x % 128:Nat):Int):=by
 rw [show (128:Int) = ((128:Nat):Int) from rfl,Int.ofNat_tmod]
theorem shlw {c i:Nat} (hc:c < 128) (hi:i≤6):IntKind.i64.wrap ((c:Int) * 2 ^ min ((7 * i:Nat):Int).toNat IntKind.i64.bits) = ((c * 128 ^ i:Nat):Int):=by
 have h0:=mul49 hc hi
 have h2:min ((7 * i:Nat):Int).toNat IntKind.i64.bits = 7 * i:=by
  have:IntKind.i64.bits = 64:=rfl
  rw [this,Int.toNat_natCast]
  omega
 rw [h2,show (c:Int) * 2 ^ (7 * i) = ((c * 128 ^ i:Nat):Int) from by rw [pow7];simp,Go.Ev.w64 (by omega) (by omega)]
theorem getN_cons {m i x:Nat} {s:List Nat}:getN (m + 1) i (x :: s) = if 0 < i∧x = 0 then none else if x < 128 then some (x,s) else (getN m (i + 1) s).map fun p =>(x - 128 + 128 * p.1,p.2):=rfl
theorem idx0 (b off n:Nat) (cap:Cap):X3 Q 35 (.slice b off (n + 1) cap) (.int .i64 0) = some (.ptr b off):=by kernel_rfl
set_option maxHeartbeats 8000000 in
theorem Wl (H0 H:AH) (p:Nat) (st:Option (List Nat)) (h:TkS H0 H p st):Fn Q L 56 [.ptr p 0] H (fun w H' =>∃n:Nat,w = .int .i64 (n:Int)∧n < 562949953421312∧Y2 p H H'∧TkS H0 H' p (nx st)∧∀s r k,st = some s→num7 s = some (k,r)→n = k):=by
 refine Fn.intro (en56 _) ?_
 obtain⟨v,b,s,hk,hst⟩:=h
 unfold c56 Tryz.f56
 simp only [Option.getD_some]
 have d7:decide ((0:Int) < 7) = true:=rfl
 rcases hst with ⟨rfl,rfl⟩ | ⟨rfl,rfl⟩
 rotate_left
 ·have hpc:=hk.cells
  have hst:=hk.stB true
  repeat (first | (apply Zh;exact rfl) | apply Zc | apply WO.nil | (apply Zl;exact rfl;simp only [rE,rS,li,lo,reduceIte,Nat.reduceEqDiff,Nat.reduceAdd,Nat.reduceMul];exact rfl;exact rfl))
  apply WF.loop
  repeat (first|(apply Zh;exact rfl)|apply Zc|apply WO.nil|(apply WO.op;(focus (simp only [rQ,Zb,li,lo,reduceIte,Nat.reduceEqDiff,Nat.reduceAdd,beq_self_eq_true,d7];done));simp only [rE,rS,li,lo,reduceIte,Nat.reduceEqDiff,Nat.reduceAdd,Nat.reduceMul,d7];exact rfl;exact rfl)|(apply WO.unwanted;(focus (simp only [rQ,Zb,li,lo,reduceIte,Nat.reduceEqDiff,Nat.reduceAdd,beq_self_eq_true,d7];done));exact rfl))
  (first|(apply WF.condT;(focus (simp only [Zg,Zd,Tri.gp,Zn,Bool.not_true,Bool.not_false,reduceIte,Nat.reduceEqDiff,d7];done)))|(apply WF.condF;(focus (simp only [Zg,Zd,Tri.gp,Zn,Bool.not_true,Bool.not_false,reduceIte,Nat.reduceEqDiff,d7];done))))
  repeat (first|(apply Zh;exact rfl)|apply Zc|apply WO.nil|(apply WO.op;(focus (simp only [rQ,Zb,li,lo,reduceIte,Nat.reduceEqDiff,Nat.reduceAdd,beq_self_eq_true];done));simp only [rE,rS,li,lo,reduceIte,Nat.reduceEqDiff,Nat.reduceAdd,Nat.reduceMul,YA,Z3,Za ZE,hpc];exact rfl;exact rfl)|(apply WO.unwanted;(focus (simp only [rQ,Zb,li,lo,reduceIte,Nat.reduceEqDiff,Nat.reduceAdd,beq_self_eq_true];done));exact rfl))
  (first|(apply WF.condT;(focus (simp only [Zg,Zd,Tri.gp,Zn,Bool.not_true,Bool.not_false,reduceIte,Nat.reduceEqDiff];done)))|(apply WF.condF;(focus (simp only [Zg,Zd,Tri.gp,Zn,Bool.not_true,Bool.not_false,reduceIte,Nat.reduceEqDiff];done))))
  repeat (first|(apply Zh;exact rfl)|apply Zc|apply WO.nil|(apply Zl;exact rfl;simp only [rE,rQ,li,lo,reduceIte,Nat.reduceEqDiff,Nat.reduceAdd,Nat.reduceMul,AH.set,Z3,hst];exact rfl;exact rfl))
  (apply WF.ret;(focus (simp only [Zi,Tri.gp,Zn,ZL,reduceIte,Nat.reduceEqDiff,rs56];exact rfl)))
  exact⟨0,rfl,by omega,Z2 H p v true,⟨v,true,s,hk.setB true,.inr ⟨rfl,rfl⟩⟩,fun _ _ _ e =>by cases e⟩
 repeat (first | (apply Zh;exact rfl) | apply Zc | apply WO.nil | (apply Zl;exact rfl;simp only [rE,rS,li,lo,reduceIte,Nat.reduceEqDiff,Nat.reduceAdd,Nat.reduceMul];exact rfl;exact rfl))
 refine Ys (fun m t H' =>∃(i u:Nat) (v':AV) (s':List Nat),i + m = 7∧TkB H0 H' p v' false s'∧Y2 p H H'∧u < 128 ^ i∧num7 s = (getN m i s').map (fun q =>(u + 128 ^ i * q.1,q.2))∧t.get 0 = some (.ptr p 0)∧t.get 3 = some (.int .i64 (u:Int))∧t.get 4 = some (.int .i64 (i:Int))) 7 ?_ ?_
 ·refine⟨0,0,v,s,by omega,hk,Y2.refl _ _,by decide,?_,?_,?_,?_⟩
  ·simp
  all_goals simp [Tri.gp,Zn]
 rintro m t H' ⟨i,u,v',s',him,hk',hux,hu,hget,t0,t3,t4⟩ ih
 have hpc:=hk'.cells
 have hsl:=hk'.src.sl
 have hone:=hsl.one
 have hsol:=hsl.solid
 by_cases hm:m = 0
 ·subst hm
  obtain rfl:i = 7:=by omega
  have hno:num7 s = none:=by rw [hget];rfl
  have hst:=hk'.stB true
  have hlt:decide (((7:Nat):Int) < 7) = false:=rfl
  repeat (first|(apply Zh;exact rfl)|apply Zc|apply WO.nil|(apply WO.op;(focus (simp only [rQ,Zb,li,lo,reduceIte,Nat.reduceEqDiff,Nat.reduceAdd,beq_self_eq_true,hlt];done));simp only [rE,rS,li,lo,reduceIte,Nat.reduceEqDiff,Nat.reduceAdd,Nat.reduceMul,t4,hlt];exact rfl;exact rfl)|(apply WO.unwanted;(focus (simp only [rQ,Zb,li,lo,reduceIte,Nat.reduceEqDiff,Nat.reduceAdd,beq_self_eq_true,hlt];done));exact rfl))
  (first|(apply WF.condT;(focus (simp only [Zg,Zd,Tri.gp,Zn,Bool.not_true,Bool.not_false,reduceIte,Nat.reduceEqDiff,hlt];done)))|(apply WF.condF;(focus (simp only [Zg,Zd,Tri.gp,Zn,Bool.not_true,Bool.not_false,reduceIte,Nat.reduceEqDiff,hlt];done))))
  repeat (first|(apply Zh;exact rfl)|apply Zc|apply WO.nil|(apply Zl;exact rfl;simp only [rE,rQ,li,lo,reduceIte,Nat.reduceEqDiff,Nat.reduceAdd,Nat.reduceMul,AH.set,t0,Z3,hst];exact rfl;exact rfl))
  (apply WF.ret;(focus (simp only [Zi,Tri.gp,Zn,ZL,reduceIte,Nat.reduceEqDiff,rs56];exact rfl)))
  refine⟨0,rfl,by omega,hux.trans (Z2 H' p v' true),⟨v',true,s',hk'.setB true,.inr ⟨rfl,?_⟩⟩,fun _ _ _ e e2 =>?_⟩
  ·unfold nx;rw [Option.bind_some,hno];rfl
  ·cases e;rw [hno] at e2;cases e2
 obtain⟨m,rfl⟩:∃m',m = m' + 1:=⟨m - 1,by omega⟩
 have hlt:decide ((i:Int) < 7) = true:=decide_eq_true (by omega)
 repeat (first|(apply Zh;exact rfl)|apply Zc|apply WO.nil|(apply WO.op;(focus (simp only [rQ,Zb,li,lo,reduceIte,Nat.reduceEqDiff,Nat.reduceAdd,beq_self_eq_true,hlt];done));simp only [rE,rS,li,lo,reduceIte,Nat.reduceEqDiff,Nat.reduceAdd,Nat.reduceMul,t4,hlt];exact rfl;exact rfl)|(apply WO.unwanted;(focus (simp only [rQ,Zb,li,lo,reduceIte,Nat.reduceEqDiff,Nat.reduceAdd,beq_self_eq_true,hlt];done));exact rfl))
 (first|(apply WF.condT;(focus (simp only [Zg,Zd,Tri.gp,Zn,Bool.not_true,Bool.not_false,reduceIte,Nat.reduceEqDiff,hlt];done)))|(apply WF.condF;(focus (simp only [Zg,Zd,Tri.gp,Zn,Bool.not_true,Bool.not_false,reduceIte,Nat.reduceEqDiff,hlt];done))))
 cases s' with
 | nil =>
  have hno:num7 s = none:=by rw [hget];rfl
  have hst:=hk'.stB true
  have q0:decide (((([]:List Nat).length:Nat):Int) = 0) = true:=rfl
  repeat (first|(apply Zh;exact rfl)|apply Zc|apply WO.nil|(apply WO.op;(focus (simp only [rQ,Zb,li,lo,reduceIte,Nat.reduceEqDiff,Nat.reduceAdd,beq_self_eq_true,q0];done));simp only [rE,rS,li,lo,reduceIte,Nat.reduceEqDiff,Nat.reduceAdd,Nat.reduceMul,YA,Z3,Za ZE,Za Zx,Za agg5,t0,t3,t4,hpc,hone,hsol,Zo,Zf Zo hsl,q0];exact rfl;exact rfl)|(apply WO.unwanted;(focus (simp only [rQ,Zb,li,lo,reduceIte,Nat.reduceEqDiff,Nat.reduceAdd,beq_self_eq_true,q0];done));exact rfl))
  (first|(apply WF.condT;(focus (simp only [Zg,Zd,Tri.gp,Zn,Bool.not_true,Bool.not_false,reduceIte,Nat.reduceEqDiff,q0];done)))|(apply WF.condF;(focus (simp only [Zg,Zd,Tri.gp,Zn,Bool.not_true,Bool.not_false,reduceIte,Nat.reduceEqDiff,q0];done))))
  repeat (first|(apply Zh;exact rfl)|apply Zc|apply WO.nil|(apply Zl;exact rfl;simp only [rE,rQ,li,lo,reduceIte,Nat.reduceEqDiff,Nat.reduceAdd,Nat.reduceMul,AH.set,t0,Z3,hst];exact rfl;exact rfl))
  (apply WF.ret;(focus (simp only [Zi,Tri.gp,Zn,ZL,reduceIte,Nat.reduceEqDiff,rs56];exact rfl)))
  refine⟨0,rfl,by omega,hux.trans (Z2 H' p v' true),⟨v',true,[],hk'.setB true,.inr ⟨rfl,?_⟩⟩,fun _ _ _ e e2 =>?_⟩
  ·unfold nx;rw [Option.bind_some,hno];rfl
  ·cases e;rw [hno] at e2;cases e2
 | cons x s' =>
  obtain⟨bb,off,cap,c,hv',hbl,hc0,hc1⟩:=hk'.src.first
  have hx8:x < 256:=hk'.src.byte x (by simp)
  have hc0:H'.cellsAt bb = some c:=by rw [hk'.up.cellsAt hbl];exact hc0
  have q0:decide ((((x :: s').length:Nat):Int) = 0) = false:=decide_eq_false (by simp;omega)
  obtain⟨w,hw,hws⟩:=hk'.src.drop (k:=1) (by simp)
  rw [List.drop_succ_cons,List.drop_zero] at hws
  replace hw:YW Q 35 v' (some (.int .i64 1)) none none = some w:=hw
  have hwl:=hws.sl
  have hwo:=hwl.one
  have hwsol:=hwl.solid
  have hst:=hk'.stV hwl
  have hk2:=hk'.set (v':=w) (b':=false) hws
  have hpc2:=hk2.cells
  have hux2:=hux.trans (Z2 H' p w false)
  have hr8:=rem8 hx8
  have hcx:x % 128 < 128:=by omega
  have hsh:=shlw (i:=i) hcx (by omega)
  have ht8:=tmod8 x
  have hmul:IntKind.i64.wrap (7 * (i:Int)) = ((7 * i:Nat):Int):=by rw [Go.Ev.w64 (by omega) (by omega)];omega
  have hm0:=mul49 (i:=i) hcx (by omega)
  have hp0:=p49 (i:=i) (by omega)
  have hadd:IntKind.i64.wrap ((u:Int) + ((x % 128 * 128 ^ i:Nat):Int)) = ((u + x % 128 * 128 ^ i:Nat):Int):=by
   generalize x % 128 * 128 ^ i = y at *
   rw [Go.Ev.w64 (by omega) (by omega)];omega
  subst hv'
  repeat (first|(apply Zh;exact rfl)|apply Zc|apply WO.nil|(apply WO.op;(focus (simp only [rQ,Zb,li,lo,reduceIte,Nat.reduceEqDiff,Nat.reduceAdd,beq_self_eq_true,q0];done));simp only [rE,rS,li,lo,reduceIte,Nat.reduceEqDiff,Nat.reduceAdd,Nat.reduceMul,YA,Z3,Za ZE,Za Zx,Za agg5,t0,t3,t4,hpc,hone,hsol,Zo,Zf Zo hsl,q0];exact rfl;exact rfl)|(apply WO.unwanted;(focus (simp only [rQ,Zb,li,lo,reduceIte,Nat.reduceEqDiff,Nat.reduceAdd,beq_self_eq_true,q0];done));exact rfl))
  (first|(apply WF.condT;(focus (simp only [Zg,Zd,Tri.gp,Zn,Bool.not_true,Bool.not_false,reduceIte,Nat.reduceEqDiff,q0];done)))|(apply WF.condF;(focus (simp only [Zg,Zd,Tri.gp,Zn,Bool.not_true,Bool.not_false,reduceIte,Nat.reduceEqDiff,q0];done))))
  repeat (first|(apply Zh;exact rfl)|apply Zc|apply WO.nil|(apply Zl;exact rfl;simp only [rE,rQ,li,lo,reduceIte,Nat.reduceEqDiff,Nat.reduceAdd,Nat.reduceMul,AH.set,t0,t3,t4,YA,Z3,Za Zx,Za agg5,hpc,hone,hsol,Zo,idx0,hc0,hc1,hw,hst];exact rfl;exact rfl))
  have hg:num7 s = if 0 < i∧x = 0 then none else if x < 128 then some (u + 128 ^ i * x,s') else (getN m (i + 1) s').map fun q =>(u + 128 ^ i * (x - 128 + 128 * q.1),q.2):=by
   rw [hget,getN_cons]
   split
   ·rfl
   ·split
    ·rfl
    ·rw [Option.map_map]
     rfl
  by_cases h128:x < 128
  rotate_left
  ·have q1:decide ((x:Int) < 128) = false:=decide_eq_false (by omega)
   have w3:IntKind.i64.wrap ((i:Int) + 1) = ((i + 1:Nat):Int):=by rw [Go.Ev.w64 (by omega) (by omega)];omega
   have cv:IntKind.i64.wrap ((x % 128:Nat):Int) = ((x % 128:Nat):Int):=Go.Ev.w64 (by omega) (by omega)
   repeat (first|(apply Zh;exact rfl)|apply Zc|apply WO.nil|(apply Zl;exact rfl;simp only [rE,rS,li,lo,reduceIte,Nat.reduceEqDiff,Nat.reduceAdd,Nat.reduceMul,t0,t3,t4,Y0,und5,und2,ht8,cv,hmul,hsh,hadd,gOk_remI,gOk_shlI];exact rfl;exact rfl))
   repeat (first|(apply Zh;exact rfl)|apply Zc|apply WO.nil|(apply WO.op;(focus (simp only [rQ,Zb,li,lo,reduceIte,Nat.reduceEqDiff,Nat.reduceAdd,beq_self_eq_true,q1];done));simp only [rE,rS,li,lo,reduceIte,Nat.reduceEqDiff,Nat.reduceAdd,Nat.reduceMul,q1];exact rfl;exact rfl)|(apply WO.unwanted;(focus (simp only [rQ,Zb,li,lo,reduceIte,Nat.reduceEqDiff,Nat.reduceAdd,beq_self_eq_true,q1];done));exact rfl))
   (first|(apply WF.condT;(focus (simp only [Zg,Zd,Tri.gp,Zn,Bool.not_true,Bool.not_false,reduceIte,Nat.reduceEqDiff,q1];done)))|(apply WF.condF;(focus (simp only [Zg,Zd,Tri.gp,Zn,Bool.not_true,Bool.not_false,reduceIte,Nat.reduceEqDiff,q1];done))))
   repeat (first|(apply Zh;exact rfl)|apply Zc|apply WO.nil|(apply Zl;exact rfl;simp only [rE,rS,li,lo,reduceIte,Nat.reduceEqDiff,Nat.reduceAdd,Nat.reduceMul,t4,w3];exact rfl;exact rfl))
   refine Yt ?_
   have hx:x % 128 = x - 128:=by omega
   refine ih m _ _ (by omega) ⟨i + 1,u + x % 128 * 128 ^ i,w,s',by omega,hk2,hux2,?_,?_,?_,?_,?_⟩
   ·rw [Nat.pow_succ]
    have:x % 128 * 128 ^ i≤127 * 128 ^ i:=Nat.mul_le_mul_right _ (by omega)
    omega
   ·rw [hg,if_neg (by omega),if_neg h128,hx]
    congr 1
    funext q
    rw [Nat.pow_succ,Nat.mul_add,Nat.mul_comm (x - 128),Nat.add_assoc,Nat.mul_assoc]
   ·simp [Tri.gp,t0]
   ·simp only [Tri.gp,reduceIte,Nat.reduceEqDiff]
   ·simp [Tri.gp]
  ·have q1:decide ((x:Int) < 128) = true:=decide_eq_true (by omega)
   have cv:IntKind.i64.wrap ((x % 128:Nat):Int) = ((x % 128:Nat):Int):=Go.Ev.w64 (by omega) (by omega)
   have hx:x % 128 = x:=by omega
   rw [hx] at ht8 cv hsh hadd hm0
   have q2:decide ((0:Int) < (i:Int)) = decide (0 < i):=by
    by_cases e:0 < i
    ·rw [decide_eq_true e,decide_eq_true (by omega)]
    ·rw [decide_eq_false e,decide_eq_false (by omega)]
   have q3:decide ((x:Int) = 0) = decide (x = 0):=by
    by_cases e:x = 0
    ·rw [decide_eq_true e,decide_eq_true (by omega)]
    ·rw [decide_eq_false e,decide_eq_false (by omega)]
   have hst2:=hk2.stB (decide (0 < i∧x = 0))
   have hun:u + x * 128 ^ i < 562949953421312:=by
    generalize x * 128 ^ i = y at *
    generalize 128 ^ i = z at *
    omega
   repeat (first|(apply Zh;exact rfl)|apply Zc|apply WO.nil|(apply Zl;exact rfl;simp only [rE,rS,li,lo,reduceIte,Nat.reduceEqDiff,Nat.reduceAdd,Nat.reduceMul,t0,t3,t4,Y0,und5,und2,ht8,cv,hmul,hsh,hadd,gOk_remI,gOk_shlI];exact rfl;exact rfl))
   repeat (first|(apply Zh;exact rfl)|apply Zc|apply WO.nil|(apply WO.op;(focus (simp only [rQ,Zb,li,lo,reduceIte,Nat.reduceEqDiff,Nat.reduceAdd,beq_self_eq_true,q1];done));simp only [rE,rS,li,lo,reduceIte,Nat.reduceEqDiff,Nat.reduceAdd,Nat.reduceMul,q1];exact rfl;exact rfl)|(apply WO.unwanted;(focus (simp only [rQ,Zb,li,lo,reduceIte,Nat.reduceEqDiff,Nat.reduceAdd,beq_self_eq_true,q1];done));exact rfl))
   (first|(apply WF.condT;(focus (simp only [Zg,Zd,Tri.gp,Zn,Bool.not_true,Bool.not_false,reduceIte,Nat.reduceEqDiff,q1];done)))|(apply WF.condF;(focus (simp only [Zg,Zd,Tri.gp,Zn,Bool.not_true,Bool.not_false,reduceIte,Nat.reduceEqDiff,q1];done))))
   repeat (first|(apply Zh;exact rfl)|apply Zc|apply WO.nil|(apply WO.op;(focus (simp only [rQ,Zb,li,lo,reduceIte,Nat.reduceEqDiff,Nat.reduceAdd,beq_self_eq_true,q2];done));simp only [rE,rS,li,lo,reduceIte,Nat.reduceEqDiff,Nat.reduceAdd,Nat.reduceMul,t0,t4,q2];exact rfl;exact rfl)|(apply WO.unwanted;(focus (simp only [rQ,Zb,li,lo,reduceIte,Nat.reduceEqDiff,Nat.reduceAdd,beq_self_eq_true,q2];done));exact rfl))
   cases hq:decide (0 < i)
   ·have hi0:=of_decide_eq_false hq
    have e3:decide (0 < i∧x = 0) = false:=decide_eq_false (by omega)
    rw [e3] at hst2
    repeat (first|(apply Zh;exact rfl)|apply Zc|apply WO.nil|(apply WO.op;(focus (simp only [rQ,Zb,li,lo,reduceIte,Nat.reduceEqDiff,Nat.reduceAdd,beq_self_eq_true,q2];done));simp only [rE,rQ,li,lo,reduceIte,Nat.reduceEqDiff,Nat.reduceAdd,Nat.reduceMul,AH.set,t0,t4,Z3,q2,hq,hst2];exact rfl;exact rfl)|(apply WO.unwanted;(focus (simp only [rQ,Zb,li,lo,reduceIte,Nat.reduceEqDiff,Nat.reduceAdd,beq_self_eq_true,q2];done));exact rfl))
    (apply WF.ret;(focus (simp only [Zi,Tri.gp,Zn,ZL,reduceIte,Nat.reduceEqDiff,rs56,t3,hadd];exact rfl)))
    rw [if_neg (by omega),if_pos h128] at hg
    refine⟨_,rfl,hun,hux2.trans (Z2 _ p w false),⟨w,false,s',hk2.setB false,.inl ⟨rfl,?_⟩⟩,fun _ _ _ e e2 =>?_⟩
    ·unfold nx;rw [Option.bind_some,hg];rfl
    ·cases e;rw [hg] at e2;cases e2;rw [Nat.mul_comm]
   ·have hi0:=of_decide_eq_true hq
    cases hz:decide (x = 0)
    ·have hz0:=of_decide_eq_false hz
     have e3:decide (0 < i∧x = 0) = false:=decide_eq_false (by omega)
     rw [e3] at hst2
     repeat (first|(apply Zh;exact rfl)|apply Zc|apply WO.nil|(apply WO.op;(focus (simp only [rQ,Zb,li,lo,reduceIte,Nat.reduceEqDiff,Nat.reduceAdd,beq_self_eq_true,q2,q3];done));simp only [rE,rQ,li,lo,reduceIte,Nat.reduceEqDiff,Nat.reduceAdd,Nat.reduceMul,AH.set,t0,t4,Z3,q2,hq,q3,hz,hst2];exact rfl;exact rfl)|(apply WO.unwanted;(focus (simp only [rQ,Zb,li,lo,reduceIte,Nat.reduceEqDiff,Nat.reduceAdd,beq_self_eq_true,q2,q3];done));exact rfl))
     (apply WF.ret;(focus (simp only [Zi,Tri.gp,Zn,ZL,reduceIte,Nat.reduceEqDiff,rs56,t3,hadd];exact rfl)))
     rw [if_neg (by omega),if_pos h128] at hg
     refine⟨_,rfl,hun,hux2.trans (Z2 _ p w false),⟨w,false,s',hk2.setB false,.inl ⟨rfl,?_⟩⟩,fun _ _ _ e e2 =>?_⟩
     ·unfold nx;rw [Option.bind_some,hg];rfl
     ·cases e;rw [hg] at e2;cases e2;rw [Nat.mul_comm]
    ·have hz0:=of_decide_eq_true hz
     have e3:decide (0 < i∧x = 0) = true:=decide_eq_true (by omega)
     rw [e3] at hst2
     repeat (first|(apply Zh;exact rfl)|apply Zc|apply WO.nil|(apply WO.op;(focus (simp only [rQ,Zb,li,lo,reduceIte,Nat.reduceEqDiff,Nat.reduceAdd,beq_self_eq_true,q2,q3];done));simp only [rE,rQ,li,lo,reduceIte,Nat.reduceEqDiff,Nat.reduceAdd,Nat.reduceMul,AH.set,t0,t4,Z3,q2,hq,q3,hz,hst2];exact rfl;exact rfl)|(apply WO.unwanted;(focus (simp only [rQ,Zb,li,lo,reduceIte,Nat.reduceEqDiff,Nat.reduceAdd,beq_self_eq_true,q2,q3];done));exact rfl))
     (apply WF.ret;(focus (simp only [Zi,Tri.gp,Zn,ZL,reduceIte,Nat.reduceEqDiff,rs56,t3,hadd];exact rfl)))
     rw [if_pos (by omega)] at hg
     refine⟨_,rfl,hun,hux2.trans (Z2 _ p w true),⟨w,true,s',hk2.setB true,.inr ⟨rfl,?_⟩⟩,fun _ _ _ e e2 =>?_⟩
     ·unfold nx;rw [Option.bind_some,hg];rfl
     ·cases e;rw [hg] at e2;cases e2
end Go.Ev.C
end
section
namespace Go.Ev.C
open Go.Proofs Go.RowKit Go.Fmt
set_option maxRecDepth 100000
set_option linter.unusedSimpArgs false
variable {L:World→Prop} [Yu Q L]
def rdR7 (s:List Nat):Option (WI × List Nat):=match num7 s with
 | none =>none
 | some (i,s) =>match num7 s with
  | none =>none
  | some (t,s) =>match num7 s with
   | none =>none
   | some (n,s) =>if n≤s.length then some (⟨i,t,s.take n⟩,s.drop n) else none
def rdRs7:Nat→List Nat→Option (List WI × List Nat)
 | 0,s =>some ([],s)
 | n + 1,s =>match rdR7 s with
  | none =>none
  | some (x,s) =>match rdRs7 n s with
   | none =>none
   | some (l,s) =>some (x :: l,s)
def rdB7 (s:List Nat):Option (YT × List Nat):=match num7 s with
 | none =>none
 | some (c,s) =>match num7 s with
  | none =>none
  | some (d,s) =>match num7 s with
   | none =>none
   | some (a,s) =>match num7 s with
    | none =>none
    | some (n,s) =>if a≤1∧n≤1000 then (rdRs7 n s).map fun q =>(⟨c,d,a,q.1⟩,q.2) else none
/-- What a number must be, if there is one. -/
def Is7 (st:Option (List Nat)) (n:Nat):Prop:=∀s r k,st = some s→num7 s = some (k,r)→n = k
theorem nx_some {st:Option (List Nat)} {s':List Nat} (h:nx st = some s') {n:Nat} (hn:Is7 st n):∃s,st = some s∧num7 s = some (n,s'):=by
 unfold nx at h
 obtain⟨q,hq,rfl⟩:=Option.map_eq_some_iff.1 h
 obtain⟨s,hs,hk⟩:=Option.bind_eq_some_iff.1 hq
 obtain⟨k,r⟩:=q
 exact⟨s,hs,by rw [hn s r k hs hk];exact hk⟩
/-- A batch, from its four numbers on. -/
theorem rdB7_of {s:List Nat} {c d a n:Nat} (h1:Is7 (some s) c) (h2:Is7 (nx (some s)) d) (h3:Is7 (nx (nx (some s))) a) (h4:Is7 (nx (nx (nx (some s)))) n) :
  rdB7 s = ((if a≤1∧n≤1000 then nx (nx (nx (nx (some s)))) else none).bind (rdRs7 n)).map fun q =>(⟨c,d,a,q.1⟩,q.2):=by
 unfold rdB7
 cases e1:num7 s with
 | none =>simp [nx,e1]
 | some q1 =>
 obtain⟨c',s1⟩:=q1
 obtain rfl:=h1 _ _ _ rfl e1
 have f1:nx (some s) = some s1:=by simp [nx,e1]
 rw [f1] at h2 h3 h4 ⊢
 dsimp only
 cases e2:num7 s1 with
 | none =>simp [nx,e2]
 | some q2 =>
 obtain⟨d',s2⟩:=q2
 obtain rfl:=h2 _ _ _ rfl e2
 have f2:nx (some s1) = some s2:=by simp [nx,e2]
 rw [f2] at h3 h4 ⊢
 dsimp only
 cases e3:num7 s2 with
 | none =>simp [nx,e3]
 | some q3 =>
 obtain⟨a',s3⟩:=q3
 obtain rfl:=h3 _ _ _ rfl e3
 have f3:nx (some s2) = some s3:=by simp [nx,e3]
 rw [f3] at h4 ⊢
 dsimp only
 cases e4:num7 s3 with
 | none =>simp [nx,e4]
 | some q4 =>
 obtain⟨n',s4⟩:=q4
 obtain rfl:=h4 _ _ _ rfl e4
 have f4:nx (some s3) = some s4:=by simp [nx,e4]
 rw [f4]
 dsimp only
 split <;> rfl
/-- A record, from its three numbers on. -/
theorem rdR7_of {s:List Nat} {i t n:Nat} (h1:Is7 (some s) i) (h2:Is7 (nx (some s)) t) (h3:Is7 (nx (nx (some s))) n) :
  rdR7 s = (nx (nx (nx (some s)))).bind fun s3 =>if n≤s3.length then some (⟨i,t,s3.take n⟩,s3.drop n) else none:=by
 unfold rdR7
 cases e1:num7 s with
 | none =>simp [nx,e1]
 | some q1 =>
 obtain⟨c',s1⟩:=q1
 obtain rfl:=h1 _ _ _ rfl e1
 have f1:nx (some s) = some s1:=by simp [nx,e1]
 rw [f1] at h2 h3 ⊢
 dsimp only
 cases e2:num7 s1 with
 | none =>simp [nx,e2]
 | some q2 =>
 obtain⟨d',s2⟩:=q2
 obtain rfl:=h2 _ _ _ rfl e2
 have f2:nx (some s1) = some s2:=by simp [nx,e2]
 rw [f2] at h3 ⊢
 dsimp only
 cases e3:num7 s2 with
 | none =>simp [nx,e3]
 | some q3 =>
 obtain⟨a',s3⟩:=q3
 obtain rfl:=h3 _ _ _ rfl e3
 have f3:nx (some s2) = some s3:=by simp [nx,e3]
 rw [f3]
 rfl
/-- Bytes in a block of their own, made since. -/
def FreshD (H H':AH) (w:AV) (l:List Nat):Prop:=SL w l.length∧(l ≠ []→∃b,w = .slice b 0 l.length (.up 1)∧H.next≤b∧b < H'.next∧H'.t.get b = some (.cells 5 (Xw l) 0 false false))
theorem freshD_keep {H H' H'':AH} {w:AV} {l:List Nat} (h:FreshD H H' w l) {lo:Nat} (hlo:lo≤H.next) (hn:H'.next≤H''.next) (hk:∀b,H.next≤b→H''.t.get b = H'.t.get b):Xa lo H'' w (Xw l):=by
 refine⟨by rw [YJ];exact h.1,fun b' off m cap e hne =>?_⟩
 obtain⟨b,rfl,h1,h2,h3⟩:=h.2 (by intro e2;subst e2;exact hne rfl)
 cases e
 exact⟨Nat.le_trans hlo h1,Xw l,Nat.lt_of_lt_of_le h2 hn,by unfold AH.cellsAt;rw [hk b' h1,h3],YN rfl (bsA_hole l),X4 l⟩
theorem bs35e (t:Tri AV):Yk Q t 35 0 #[] = some (.cells 5 [] 0 false false,fun b =>.slice b 0 0 (.is 0)):=by kernel_rfl
theorem app_fresh {H0 H:AH} {x:AV} {u:List Nat} (hs:Src H0 x u) (hu:Up H0 H):∃w H2,X8 Q [35,35] [.slice H.next 0 0 (.is 0),x] ⟨H.t.put H.next (some (.cells 5 [] 0 false false)),H.next + 1⟩ = some (w,H2)∧FreshD H H2 w u∧Up H H2:=by
 rw [app35i]
 have hsl:=hs.sl
 have hd:=hs.data.2
 have hlen:=hs.len
 by_cases h0:u = []
 ·subst h0
  have hnew:∀H',YG 1 x H' = some (0,[]):=fun H' =>by
   generalize hz:([]:List Nat).length = z at hsl
   cases hsl with
   | nil =>rfl
   | sl b off n cap =>subst hz;rfl
  rw [hnew]
  dsimp only
  rw [appendTo_empty0 (e':=5) (c:=[]) (mk:=false) (by show (Tri.put _ _ _).get _ = _;rw [Tri.gp,if_pos rfl])]
  refine⟨_,_,rfl,⟨.sl _ _ _ _,fun h =>absurd rfl h⟩,by show H.next≤H.next + 1;omega,fun b hb =>?_⟩
  show ((H.t.put _ _).put _ _).get _ = _
  rw [Tri.gp,if_neg (by omega),Tri.gp,if_neg (by omega)]
 ·have hul:u.length ≠ 0:=fun e =>h0 (List.length_eq_zero_iff.1 e)
  have hnew:YG 1 x ⟨H.t.put H.next (some (.cells 5 [] 0 false false)),H.next + 1⟩ = some (u.length,Xw u):=by
   generalize hz:u.length = z at hsl hul
   cases hsl with
   | nil =>exact absurd rfl hul
   | sl b off n cap =>
    obtain⟨c,hb,hc,hcut,_⟩:=hd b off _ cap rfl (by unfold Xw;simpa using h0)
    rw [YJ,hz] at hcut
    exact Wd hul (by rw [(hu.trans (Up.box H _)).cellsAt hb];exact hc) (by rw [Nat.mul_one];exact hcut)
  rw [hnew]
  dsimp only
  rw [appendTo_empty (c:=[]) (by rw [ZK,if_pos rfl]) hul (by omega) (X4 u)]
  refine⟨_,_,rfl,⟨.sl _ _ _ _,fun _ =>⟨H.next + 1,rfl,Nat.le_succ _,Nat.lt_succ_self _,?_⟩⟩,by show H.next≤H.next + 1 + 1;omega,fun b hb =>?_⟩
  ·show (Tri.put _ _ _).get _ = _
   rw [Tri.gp,if_pos rfl]
  ·show ((H.t.put _ _).put (H.next + 1) _).get _ = _
   rw [Tri.gp,if_neg (by omega),Tri.gp,if_neg (by omega)]
end Go.Ev.C
end
section
namespace Go.Ev.C
open Go.Proofs Go.RowKit Go.Fmt
set_option maxRecDepth 100000
set_option linter.unusedSimpArgs false
variable {L:World→Prop} [Yu Q L]
theorem TkS.lt {H0 H:AH} {p:Nat} {st:Option (List Nat)} (h:TkS H0 H p st):p < H.next:=by
 obtain⟨_,_,_,h,_⟩:=h
 exact h.lt
theorem TkS.lo {H0 H:AH} {p:Nat} {st:Option (List Nat)} (h:TkS H0 H p st):H0.next≤p:=by
 obtain⟨_,_,_,h,_⟩:=h
 exact h.lo
/-- Blocks made later do not matter to the taker. -/
theorem TkS.of {H0 H1 H2:AH} {p:Nat} {st:Option (List Nat)} (h:TkS H0 H1 p st) (hn:H1.next≤H2.next) (hg:H2.t.get p = H1.t.get p) (ho:∀b,b < H0.next→H2.t.get b = H1.t.get b):TkS H0 H2 p st:=by
 obtain⟨v,b,s,h1,h2⟩:=h
 exact⟨v,b,s,⟨by rw [hg];exact h1.pos,Nat.lt_of_lt_of_le h1.lt hn,h1.lo,h1.src,Nat.le_trans h1.up.next hn,fun b hb =>by rw [ho b hb];exact h1.up.old b hb⟩,h2⟩
theorem TkS.put {H0 H:AH} {p q:Nat} {st:Option (List Nat)} (h:TkS H0 H p st) (hq:p < q) (o:Option AB):TkS H0 ⟨H.t.put q o,H.next⟩ p st:=by
 have:=h.lo
 refine h.of (Nat.le_refl _) ?_ fun b hb =>?_
 ·show (Tri.put _ _ _).get _ = _
  rw [Tri.gp,if_neg (by omega)]
 ·show (Tri.put _ _ _).get _ = _
  rw [Tri.gp,if_neg (by omega)]
theorem TkS.is {st:Option (List Nat)} {n:Nat} (h:∀s r k,st = some s→num7 s = some (k,r)→n = k):Is7 st n:=h
theorem bu80z (a b:Int):Wg Q 80 [(0,.int .i64 a),(2,.int .i64 b)] = some (.agg [.int .i64 a,.nilslice,.int .i64 b,.bool false]):=by kernel_rfl
/-- The end of the batch. -/
def BatQ (H0 H:AH) (p:Nat) (s:List Nat) (w:AV) (H':AH):Prop:=∃(c d a n:Nat) (rv:AV) (m:Nat),w = .agg [.int .i64 (c:Int),rv,.int .i64 (d:Int),.bool (decide (a = 1))]∧SL rv m∧Y2 p H H'∧TkS H0 H' p ((rdB7 s).map (·.2))∧n = n∧∀x r,rdB7 s = some (x,r)→x.cpu = c∧x.dr = d∧x.ah = a∧Yx H.next H' rv (x.recs.map ofR)
set_option maxHeartbeats 16000000 in
theorem batch57_c (H0 H:AH) (p:Nat) (s:List Nat) (h:TkS H0 H p (some s)):Fn Q L 57 [.ptr p 0] H (BatQ H0 H p s):=by
 refine Fn.intro (en57 _) ?_
 have hp:=h.lt
 unfold c57 Tryz.f57
 simp only [Option.getD_some]
 have z1:=Up.box H (some (.cells 80 [.int .i64 0,.nilslice,.int .i64 0,.bool false] 0 false false))
 have k1:Bx p H.next (some (.cells 80 [.int .i64 0,.nilslice,.int .i64 0,.bool false] 0 false false)) ⟨H.t.put H.next (some (.cells 80 [.int .i64 0,.nilslice,.int .i64 0,.bool false] 0 false false)),H.next + 1⟩:=⟨by show (Tri.put _ _ _).get _ = _;rw [Tri.gp,if_pos rfl],Nat.lt_succ_self _,by omega⟩
 repeat (first|(apply Zh;exact rfl)|apply Zc|apply WO.nil|(apply Zl;exact rfl;simp only [rE,rS,li,lo,reduceIte,Nat.reduceEqDiff,Nat.reduceAdd,Nat.reduceMul,ZD,Zv,cu56,Zs,bu80z];exact rfl;exact rfl))
 (apply WO.call;(focus (simp only [rQ,Zb,li,lo,reduceIte,Nat.reduceEqDiff,Nat.reduceAdd,beq_self_eq_true];done));simp only [rE,rS,li,lo,reduceIte,Nat.reduceEqDiff,Nat.reduceAdd,Nat.reduceMul,ZD,Zv,cu56,Zs,bu80z];exact rfl;exact Wl H0 _ p _ (h.up z1);rintro _ H1 ⟨c,rfl,hc,u1,s1,i1⟩;refine⟨_,rfl,?_⟩)
 replace k1:=k1.step u1
 have x1:=(Y2.of z1).trans u1
 repeat (first|(apply Zh;exact rfl)|apply Zc|apply WO.nil|(apply Zl;exact rfl;simp only [rE,rS,li,lo,reduceIte,Nat.reduceEqDiff,Nat.reduceAdd,Nat.reduceMul,ZD,Zv,cu56,Zs,bu80z];exact rfl;exact rfl))
 (apply WO.call;(focus (simp only [rQ,Zb,li,lo,reduceIte,Nat.reduceEqDiff,Nat.reduceAdd,beq_self_eq_true];done));simp only [rE,rS,li,lo,reduceIte,Nat.reduceEqDiff,Nat.reduceAdd,Nat.reduceMul,ZD,Zv,cu56,Zs,bu80z];exact rfl;exact Wl H0 _ p _ s1;rintro _ H2 ⟨d,rfl,hd,u2,s2,i2⟩;refine⟨_,rfl,?_⟩)
 replace k1:=k1.step u2
 have x2:=x1.trans u2
 have hq:H.next < H2.next:=k1.2.1
 have hp2:=s2.lt
 have k2:Bx p H2.next (some (.cells 80 [.int .i64 (c:Int),.nilslice,.int .i64 (d:Int),.bool false] 0 false false)) ⟨(H2.t.put H2.next (some (.cells 80 [.int .i64 0,.nilslice,.int .i64 0,.bool false] 0 false false))).put H2.next (some (.cells 80 [.int .i64 (c:Int),.nilslice,.int .i64 (d:Int),.bool false] 0 false false)),H2.next + 1⟩:=⟨by show (Tri.put _ _ _).get _ = _;rw [Tri.gp,if_pos rfl],Nat.lt_succ_self _,by omega⟩
 have z3:Up H2 ⟨(H2.t.put H2.next (some (.cells 80 [.int .i64 0,.nilslice,.int .i64 0,.bool false] 0 false false))).put H2.next (some (.cells 80 [.int .i64 (c:Int),.nilslice,.int .i64 (d:Int),.bool false] 0 false false)),H2.next + 1⟩:=WV H2 _ _
 replace k1:Bx p H.next (some (.cells 80 [.int .i64 0,.nilslice,.int .i64 0,.bool false] 0 false false)) ⟨(H2.t.put H2.next (some (.cells 80 [.int .i64 0,.nilslice,.int .i64 0,.bool false] 0 false false))).put H2.next (some (.cells 80 [.int .i64 (c:Int),.nilslice,.int .i64 (d:Int),.bool false] 0 false false)),H2.next + 1⟩:=k1.step (Y2.of z3)
 have s3:=s2.up z3
 have x3:=x2.trans (Y2.of z3)
 repeat (first|(apply Zh;exact rfl)|apply Zc|apply WO.nil|(apply Zl;exact rfl;simp only [rE,rS,li,lo,reduceIte,Nat.reduceEqDiff,Nat.reduceAdd,Nat.reduceMul,ZD,Zv,cu56,Zs,bu80z];exact rfl;exact rfl))
 generalize (⟨(H2.t.put H2.next (some (.cells 80 [.int .i64 0,.nilslice,.int .i64 0,.bool false] 0 false false))).put H2.next (some (.cells 80 [.int .i64 (c:Int),.nilslice,.int .i64 (d:Int),.bool false] 0 false false)),H2.next + 1⟩:AH) = H3 at *
 have hqq:H3.next = H3.next:=rfl
 generalize H2.next = q at *
 have da:∀a:Nat,decide ((a:Int) = 1) = decide (a = 1):=fun a =>by
  by_cases e:a = 1
  ·subst e;rfl
  ·rw [decide_eq_false e,decide_eq_false (by omega)]
 (apply WO.call;(focus (simp only [rQ,Zb,li,lo,reduceIte,Nat.reduceEqDiff,Nat.reduceAdd,beq_self_eq_true];done));simp only [rE,rS,li,lo,reduceIte,Nat.reduceEqDiff,Nat.reduceAdd,Nat.reduceMul,ZD,Zv,cu56,Zs,bu80z];exact rfl;exact Wl H0 _ p _ s3;rintro _ H4 ⟨a,rfl,ha,u4,s4,i4⟩;refine⟨_,rfl,?_⟩)
 replace k1:=k1.step u4
 replace k2:=k2.step u4
 have x4:=x3.trans u4
 have hst4:Zr Q 4 q 3 (.bool (decide (a = 1))) H4 = some ⟨H4.t.put q (some (.cells 80 [.int .i64 (c:Int),.nilslice,.int .i64 (d:Int),.bool (decide (a = 1))] 0 false false)),H4.next⟩:=Z7 (n:=1) (x:=[.bool (decide (a = 1))]) k2.1 sz4 rfl rfl rfl (Nat.le_refl _)
 have hqn:=k2.2.1
 replace k1:=k1.put (b2:=q) (o2:=some (.cells 80 [.int .i64 (c:Int),.nilslice,.int .i64 (d:Int),.bool (decide (a = 1))] 0 false false)) (by omega)
 replace k2:Bx p q (some (.cells 80 [.int .i64 (c:Int),.nilslice,.int .i64 (d:Int),.bool (decide (a = 1))] 0 false false)) ⟨H4.t.put q (some (.cells 80 [.int .i64 (c:Int),.nilslice,.int .i64 (d:Int),.bool (decide (a = 1))] 0 false false)),H4.next⟩:=⟨by show (Tri.put _ _ _).get _ = _;rw [Tri.gp,if_pos rfl],hqn,by omega⟩
 have s5:=s4.put (q:=q) (by omega) (some (.cells 80 [.int .i64 (c:Int),.nilslice,.int .i64 (d:Int),.bool (decide (a = 1))] 0 false false))
 have x5:=x4.st (b:=q) (by omega) (some (.cells 80 [.int .i64 (c:Int),.nilslice,.int .i64 (d:Int),.bool (decide (a = 1))] 0 false false))
 repeat (first|(apply Zh;exact rfl)|apply Zc|apply WO.nil|(apply Zl;exact rfl;simp only [rE,rQ,li,lo,reduceIte,Nat.reduceEqDiff,Nat.reduceAdd,Nat.reduceMul,AH.set,ZD,Zv,cu56,Zs,bu80z,ZP,da,hst4];exact rfl;exact rfl))
 have hqn':q < (AH.mk (H4.t.put q (some (.cells 80 [.int .i64 (c:Int),.nilslice,.int .i64 (d:Int),.bool (decide (a = 1))] 0 false false))) H4.next).next:=hqn
 generalize (⟨H4.t.put q (some (.cells 80 [.int .i64 (c:Int),.nilslice,.int .i64 (d:Int),.bool (decide (a = 1))] 0 false false)),H4.next⟩:AH) = H5 at *
 (apply WO.call;(focus (simp only [rQ,Zb,li,lo,reduceIte,Nat.reduceEqDiff,Nat.reduceAdd,beq_self_eq_true];done));simp only [rE,rS,li,lo,reduceIte,Nat.reduceEqDiff,Nat.reduceAdd,Nat.reduceMul,ZD,Zv,cu56,Zs,bu80z];exact rfl;exact Wl H0 _ p _ s5;rintro _ H6 ⟨n,rfl,hn,u6,s6,i6⟩;refine⟨_,rfl,?_⟩)
 replace k1:=k1.step u6
 replace k2:=k2.step u6
 have x6:=x5.trans u6
 have hbig:=rdB7_of (s:=s) i1 i2 i4 i6
 generalize nx (nx (nx (nx (some s)))) = st4 at *
 iterate 3 (first|(apply Zh;exact rfl)|apply Zc|apply WO.nil|(apply Zl;exact rfl;simp only [rE,rS,li,lo,reduceIte,Nat.reduceEqDiff,Nat.reduceAdd,Nat.reduceMul,ZD,Zv,cu56,Zs,bu80z];exact rfl;exact rfl))
 refine WF.cutI (fun t H7 =>TkS H0 H7 p (if a≤1∧n≤1000 then st4 else none)∧Y2 p H H7∧Bx p H.next (some (.cells 80 [.int .i64 0,.nilslice,.int .i64 0,.bool false] 0 false false)) H7∧Bx p q (some (.cells 80 [.int .i64 (c:Int),.nilslice,.int .i64 (d:Int),.bool (decide (a = 1))] 0 false false)) H7∧t.get 0 = some (.ptr p 0)∧t.get 2 = some (.ptr H.next 0)∧t.get 3 = some (.ptr q 0)∧t.get 5 = some (.int .i64 (n:Int))) ?_ ?_
 rotate_left
 ·intro tail
  obtain⟨v,b,s',hk,hst⟩:=s6
  have hpc:=hk.cells
  rcases hst with ⟨rfl,rfl⟩ | ⟨rfl,rfl⟩
  rotate_left
  ·have hstB:=hk.stB true
   iterate 18 (first|(apply Zh;exact rfl)|apply Zc|apply WO.nil|(apply WO.op;(focus (simp only [rQ,Zb,li,lo,reduceIte,Nat.reduceEqDiff,Nat.reduceAdd,beq_self_eq_true];done));simp only [rE,rQ,li,lo,reduceIte,Nat.reduceEqDiff,Nat.reduceAdd,Nat.reduceMul,AH.set,Z3,Za ZE,hpc,hstB];exact rfl;exact rfl)|(apply WO.unwanted;(focus (simp only [rQ,Zb,li,lo,reduceIte,Nat.reduceEqDiff,Nat.reduceAdd,beq_self_eq_true];done));exact rfl))
   refine tail _ _ ⟨⟨v,true,s',hk.setB true,.inr ⟨rfl,by split <;> rfl⟩⟩,x6.trans (Z2 _ _ _ _),k1.step (Z2 _ _ _ _),k2.step (Z2 _ _ _ _),?_,?_,?_,?_⟩
   all_goals simp [Tri.gp,Zn]
  cases q1:decide ((1:Int) < (a:Int))
  rotate_left
  ·have g1:=of_decide_eq_true q1
   have hstB:=hk.stB true
   iterate 18 (first|(apply Zh;exact rfl)|apply Zc|apply WO.nil|(apply WO.op;(focus (simp only [rQ,Zb,li,lo,reduceIte,Nat.reduceEqDiff,Nat.reduceAdd,beq_self_eq_true,q1];done));simp only [rE,rQ,li,lo,reduceIte,Nat.reduceEqDiff,Nat.reduceAdd,Nat.reduceMul,AH.set,q1,Z3,Za ZE,hpc,hstB];exact rfl;exact rfl)|(apply WO.unwanted;(focus (simp only [rQ,Zb,li,lo,reduceIte,Nat.reduceEqDiff,Nat.reduceAdd,beq_self_eq_true,q1];done));exact rfl))
   refine tail _ _ ⟨⟨v,true,s',hk.setB true,.inr ⟨rfl,if_neg (by omega)⟩⟩,x6.trans (Z2 _ _ _ _),k1.step (Z2 _ _ _ _),k2.step (Z2 _ _ _ _),?_,?_,?_,?_⟩
   all_goals simp [Tri.gp,Zn]
  have g1:=of_decide_eq_false q1
  cases q2:decide ((1000:Int) < (n:Int))
  ·have g2:=of_decide_eq_false q2
   have hstB:=hk.stB false
   iterate 18 (first|(apply Zh;exact rfl)|apply Zc|apply WO.nil|(apply WO.op;(focus (simp only [rQ,Zb,li,lo,reduceIte,Nat.reduceEqDiff,Nat.reduceAdd,beq_self_eq_true,q1,q2];done));simp only [rE,rQ,li,lo,reduceIte,Nat.reduceEqDiff,Nat.reduceAdd,Nat.reduceMul,AH.set,q1,q2,Z3,Za ZE,hpc,hstB];exact rfl;exact rfl)|(apply WO.unwanted;(focus (simp only [rQ,Zb,li,lo,reduceIte,Nat.reduceEqDiff,Nat.reduceAdd,beq_self_eq_true,q1,q2];done));exact rfl))
   refine tail _ _ ⟨⟨v,false,s',hk.setB false,.inl ⟨rfl,if_pos (by omega)⟩⟩,x6.trans (Z2 _ _ _ _),k1.step (Z2 _ _ _ _),k2.step (Z2 _ _ _ _),?_,?_,?_,?_⟩
   all_goals simp [Tri.gp,Zn]
  ·have g2:=of_decide_eq_true q2
   have hstB:=hk.stB true
   iterate 18 (first|(apply Zh;exact rfl)|apply Zc|apply WO.nil|(apply WO.op;(focus (simp only [rQ,Zb,li,lo,reduceIte,Nat.reduceEqDiff,Nat.reduceAdd,beq_self_eq_true,q1,q2];done));simp only [rE,rQ,li,lo,reduceIte,Nat.reduceEqDiff,Nat.reduceAdd,Nat.reduceMul,AH.set,q1,q2,Z3,Za ZE,hpc,hstB];exact rfl;exact rfl)|(apply WO.unwanted;(focus (simp only [rQ,Zb,li,lo,reduceIte,Nat.reduceEqDiff,Nat.reduceAdd,beq_self_eq_true,q1,q2];done));exact rfl))
   refine tail _ _ ⟨⟨v,true,s',hk.setB true,.inr ⟨rfl,if_neg (by omega)⟩⟩,x6.trans (Z2 _ _ _ _),k1.step (Z2 _ _ _ _),k2.step (Z2 _ _ _ _),?_,?_,?_,?_⟩
   all_goals simp [Tri.gp,Zn]
 rintro t H7 ⟨s7,x7,k1',k2',t0,t2,t3,t5⟩
 clear k1 k2
 have hq7:q < H7.next:=k2'.2.1
 have hn5:(if a≤1∧n≤1000 then st4 else none) ≠ none→n≤1000:=fun e =>by
  by_cases hh:a≤1∧n≤1000
  ·exact hh.2
  ·rw [if_neg hh] at e
   exact absurd rfl e
 generalize (if a≤1∧n≤1000 then st4 else none) = st5 at *
 iterate 5 (first | (apply Zh;exact rfl) | apply Zc | apply WO.nil | (apply Zl;exact rfl;simp only [rE,rS,li,lo,reduceIte,Nat.reduceEqDiff,Nat.reduceAdd,Nat.reduceMul];exact rfl;exact rfl))
 refine WF.cutI (fun t Hf =>∃(rv:AV) (l:List WI) (stc:Option (List Nat)) (m:Nat),TkS H0 Hf p stc∧Y2 p H Hf∧Bx p H.next (some (.cells 80 [.int .i64 0,.nilslice,.int .i64 0,.bool false] 0 false false)) Hf∧Bx p q (some (.cells 80 [.int .i64 (c:Int),rv,.int .i64 (d:Int),.bool (decide (a = 1))] 0 false false)) Hf∧SL rv m∧st5.bind (rdRs7 n) = stc.map (fun sc =>(l,sc))∧(stc ≠ none→Yx (q + 1) Hf rv (l.map ofR))∧t.get 2 = some (.ptr H.next 0)∧t.get 3 = some (.ptr q 0)) ?_ ?_
 ·rintro t Hf ⟨rv,l,stc,m,sf,xf,f1,f2,hsl,hrec,hfr,t2,t3⟩
  have hone:=hsl.one
  have hsol:=hsl.solid
  have hstF:Zr Q 80 H.next 0 (.agg [.int .i64 (c:Int),rv,.int .i64 (d:Int),.bool (decide (a = 1))]) Hf = some ⟨Hf.t.put H.next (some (.cells 80 [.int .i64 (c:Int),rv,.int .i64 (d:Int),.bool (decide (a = 1))] 0 false false)),Hf.next⟩:=Z7 (x:=[.int .i64 (c:Int),rv,.int .i64 (d:Int),.bool (decide (a = 1))]) f1.1 Zv rfl rfl (by simp [hone,one_int,one_bool]) (Nat.le_refl _)
  repeat (first|(apply Zh;exact rfl)|apply Zc|apply WO.nil|(apply Zl;exact rfl;simp only [rE,rQ,li,lo,reduceIte,Nat.reduceEqDiff,Nat.reduceAdd,Nat.reduceMul,AH.set,t2,t3,f2.cells,Ze ZT Zv,cut4z hsol,hstF];exact rfl;exact rfl))
  (apply WF.ret;(focus (simp only [Zi,Tri.gp,Zn,ZL,reduceIte,Nat.reduceEqDiff,rs57,t2,Ze ZT Zv,ZK,cut4z hsol,Option.map_some];exact rfl)))
  rw [hrec] at hbig
  refine⟨c,d,a,n,rv,m,rfl,hsl,xf.st (Nat.le_refl _) _,?_,rfl,fun x r e =>?_⟩
  ·rw [hbig,Option.map_map,Option.map_map]
   have:=sf.put (q:=H.next) (by omega) (some (.cells 80 [.int .i64 (c:Int),rv,.int .i64 (d:Int),.bool (decide (a = 1))] 0 false false))
   cases stc <;> exact this
  ·rw [hbig] at e
   cases stc with
   | none =>cases e
   | some sc =>
    cases e
    exact⟨rfl,rfl,rfl,((hfr (by simp)).ext ((Xo.refl _ Hf).st (.inl (by omega)) _)).mono (by omega)⟩
 intro tail
 iterate 1 (first | (apply Zh;exact rfl) | apply Zc | apply WO.nil | (apply Zl;exact rfl;simp only [rE,rS,li,lo,reduceIte,Nat.reduceEqDiff,Nat.reduceAdd,Nat.reduceMul];exact rfl;exact rfl))
 refine Ys (fun m t Hc =>∃(i:Nat) (rv:AV) (l:List WI) (stc:Option (List Nat)),i + m = n∧l.length = i∧TkS H0 Hc p stc∧Y2 p H Hc∧Bx p H.next (some (.cells 80 [.int .i64 0,.nilslice,.int .i64 0,.bool false] 0 false false)) Hc∧Bx p q (some (.cells 80 [.int .i64 (c:Int),rv,.int .i64 (d:Int),.bool (decide (a = 1))] 0 false false)) Hc∧Xh 87 3 (q + 1) (PR (q + 1)) Hc rv (l.map ofR)∧st5.bind (rdRs7 n) = (stc.bind (rdRs7 m)).map (fun q =>(l ++ q.1,q.2))∧(stc ≠ none→n≤1000)∧t.get 0 = some (.ptr p 0)∧t.get 2 = some (.ptr H.next 0)∧t.get 3 = some (.ptr q 0)∧t.get 5 = some (.int .i64 (n:Int))∧t.get 6 = some (.int .i64 (i:Int))) n ?_ ?_
 ·refine⟨0,.nilslice,[],st5,by omega,rfl,s7,x7,k1',k2',Xh.nil _,by simp,hn5,?_,?_,?_,?_,?_⟩
  all_goals simp [Tri.gp,t0,t2,t3,t5]
 clear t0 t2 t3 t5 k1' k2' s7 x7
 rintro m t Hc ⟨i,rv,l,stc,him,hli,sc,xc,c1,c2,own,hrec,hn1,t0,t2,t3,t5,t6⟩ ih
 obtain⟨v,b,s',hk,hst⟩:=id sc
 have hpc:=hk.cells
 have hpl:=hk.lt
 by_cases hm:m = 0
 ·subst hm
  obtain rfl:i = n:=by omega
  have q1:decide ((i:Int) < (i:Int)) = false:=by simp
  repeat (first|(apply Zh;exact rfl)|apply Zc|apply WO.nil|(apply WO.op;(focus (simp only [rQ,Zb,li,lo,reduceIte,Nat.reduceEqDiff,Nat.reduceAdd,beq_self_eq_true,q1];done));simp only [rE,rS,li,lo,reduceIte,Nat.reduceEqDiff,Nat.reduceAdd,Nat.reduceMul,t0,t5,t6,q1];exact rfl;exact rfl)|(apply WO.unwanted;(focus (simp only [rQ,Zb,li,lo,reduceIte,Nat.reduceEqDiff,Nat.reduceAdd,beq_self_eq_true,q1];done));exact rfl))
  (first|(apply WF.condT;(focus (simp only [Zg,Zd,Tri.gp,Zn,Bool.not_true,Bool.not_false,reduceIte,Nat.reduceEqDiff];done)))|(apply WF.condF;(focus (simp only [Zg,Zd,Tri.gp,Zn,Bool.not_true,Bool.not_false,reduceIte,Nat.reduceEqDiff];done))))
  iterate 1 (first | (apply Zh;exact rfl) | apply Zc | apply WO.nil | (apply Zl;exact rfl;simp only [rE,rS,li,lo,reduceIte,Nat.reduceEqDiff,Nat.reduceAdd,Nat.reduceMul];exact rfl;exact rfl))
  refine tail _ _ ⟨rv,l,stc,_,sc,xc,c1,c2,own.sl,?_,fun _ =>own_recs own,by simp [Tri.gp,t2],by simp [Tri.gp,t3]⟩
  rw [hrec]
  cases stc with
  | none =>rfl
  | some s2 =>simp [rdRs7]
 obtain⟨m,rfl⟩:∃m',m = m' + 1:=⟨m - 1,by omega⟩
 have q1:decide ((i:Int) < (n:Int)) = true:=by simp;omega
 rcases hst with ⟨rfl,rfl⟩ | ⟨rfl,rfl⟩
 rotate_left
 ·repeat (first|(apply Zh;exact rfl)|apply Zc|apply WO.nil|(apply WO.op;(focus (simp only [rQ,Zb,li,lo,reduceIte,Nat.reduceEqDiff,Nat.reduceAdd,beq_self_eq_true,q1];done));simp only [rE,rS,li,lo,reduceIte,Nat.reduceEqDiff,Nat.reduceAdd,Nat.reduceMul,t0,t5,t6,q1,Z3,Za ZE,hpc];exact rfl;exact rfl)|(apply WO.unwanted;(focus (simp only [rQ,Zb,li,lo,reduceIte,Nat.reduceEqDiff,Nat.reduceAdd,beq_self_eq_true,q1];done));exact rfl))
  (first|(apply WF.condT;(focus (simp only [Zg,Zd,Tri.gp,Zn,Bool.not_true,Bool.not_false,reduceIte,Nat.reduceEqDiff];done)))|(apply WF.condF;(focus (simp only [Zg,Zd,Tri.gp,Zn,Bool.not_true,Bool.not_false,reduceIte,Nat.reduceEqDiff];done))))
  iterate 1 (first | (apply Zh;exact rfl) | apply Zc | apply WO.nil | (apply Zl;exact rfl;simp only [rE,rS,li,lo,reduceIte,Nat.reduceEqDiff,Nat.reduceAdd,Nat.reduceMul];exact rfl;exact rfl))
  exact tail _ _ ⟨rv,l,none,_,sc,xc,c1,c2,own.sl,by rw [hrec];rfl,fun e =>absurd rfl e,by simp [Tri.gp,t2],by simp [Tri.gp,t3]⟩
 have hn1:=hn1 (by simp)
 have lc:=c2.2.1
 have hpq:p < q:=by omega
 repeat (first|(apply Zh;exact rfl)|apply Zc|apply WO.nil|(apply WO.op;(focus (simp only [rQ,Zb,li,lo,reduceIte,Nat.reduceEqDiff,Nat.reduceAdd,beq_self_eq_true,q1];done));simp only [rE,rS,li,lo,reduceIte,Nat.reduceEqDiff,Nat.reduceAdd,Nat.reduceMul,t0,t5,t6,q1,Z3,Za ZE,hpc];exact rfl;exact rfl)|(apply WO.unwanted;(focus (simp only [rQ,Zb,li,lo,reduceIte,Nat.reduceEqDiff,Nat.reduceAdd,beq_self_eq_true,q1];done));exact rfl))
 (first|(apply WF.condT;(focus (simp only [Zg,Zd,Tri.gp,Zn,Bool.not_true,Bool.not_false,reduceIte,Nat.reduceEqDiff];done)))|(apply WF.condF;(focus (simp only [Zg,Zd,Tri.gp,Zn,Bool.not_true,Bool.not_false,reduceIte,Nat.reduceEqDiff];done))))
 repeat (first|(apply Zh;exact rfl)|apply Zc|apply WO.nil|(apply Zl;exact rfl;simp only [rE,rS,li,lo,reduceIte,Nat.reduceEqDiff,Nat.reduceAdd,Nat.reduceMul,t0,cu56];exact rfl;exact rfl))
 (apply WO.call;(focus (simp only [rQ,Zb,li,lo,reduceIte,Nat.reduceEqDiff,Nat.reduceAdd,beq_self_eq_true];done));simp only [rE,rS,li,lo,reduceIte,Nat.reduceEqDiff,Nat.reduceAdd,Nat.reduceMul,t0,cu56];exact rfl;exact Wl H0 _ p _ sc;rintro _ Hd ⟨id,rfl,hid,ud,sd,id1⟩;refine⟨_,rfl,?_⟩)
 repeat (first|(apply Zh;exact rfl)|apply Zc|apply WO.nil|(apply Zl;exact rfl;simp only [rE,rS,li,lo,reduceIte,Nat.reduceEqDiff,Nat.reduceAdd,Nat.reduceMul,t0,cu56];exact rfl;exact rfl))
 (apply WO.call;(focus (simp only [rQ,Zb,li,lo,reduceIte,Nat.reduceEqDiff,Nat.reduceAdd,beq_self_eq_true];done));simp only [rE,rS,li,lo,reduceIte,Nat.reduceEqDiff,Nat.reduceAdd,Nat.reduceMul,t0,cu56];exact rfl;exact Wl H0 _ p _ sd;rintro _ He ⟨tm,rfl,htm,ue,se,ie⟩;refine⟨_,rfl,?_⟩)
 have ho3:=Yb (a':=.int .i64 0) (b':=.int .i64 0) (c':=.nilslice) (a:=.int .i64 (id:Int)) (b:=.int .i64 (tm:Int)) (c:=.nilslice) rfl rfl rfl
 repeat (first|(apply Zh;exact rfl)|apply Zc|apply WO.nil|(apply Zl;exact rfl;simp only [rE,rS,li,lo,reduceIte,Nat.reduceEqDiff,Nat.reduceAdd,Nat.reduceMul,Zs,Wh,ZU,Z1,ho3,t0,cu56];exact rfl;exact rfl))
 have xe:=(xc.trans ud).trans ue
 have ee:=(Xo.upx (lo:=q + 1) ud (by omega)).trans (Xo.upx ue (by omega))
 have le:=xe.next
 have le2:=ee.next
 have hpe:=se.lt
 have zf:Up He ⟨(He.t.put He.next (some (.cells 87 [.int .i64 0,.int .i64 0,.nilslice] 0 false false))).put He.next (some (.cells 87 [.int .i64 (id:Int),.int .i64 (tm:Int),.nilslice] 0 false false)),He.next + 1⟩:=WV He _ _
 have d5:Bx p He.next (some (.cells 87 [.int .i64 (id:Int),.int .i64 (tm:Int),.nilslice] 0 false false)) ⟨(He.t.put He.next (some (.cells 87 [.int .i64 0,.int .i64 0,.nilslice] 0 false false))).put He.next (some (.cells 87 [.int .i64 (id:Int),.int .i64 (tm:Int),.nilslice] 0 false false)),He.next + 1⟩:=⟨by show (Tri.put _ _ _).get _ = _;rw [Tri.gp,if_pos rfl],Nat.lt_succ_self _,by omega⟩
 replace c1:=((c1.step ud).step ue).step (Y2.of zf)
 replace c2:=((c2.step ud).step ue).step (Y2.of zf)
 have sf:=se.up zf
 have xf:=xe.trans (Y2.of zf)
 have ef:=ee.trans (Xo.of zf)
 generalize (⟨(He.t.put He.next (some (.cells 87 [.int .i64 0,.int .i64 0,.nilslice] 0 false false))).put He.next (some (.cells 87 [.int .i64 (id:Int),.int .i64 (tm:Int),.nilslice] 0 false false)),He.next + 1⟩:AH) = Hf at *
 (apply WO.call;(focus (simp only [rQ,Zb,li,lo,reduceIte,Nat.reduceEqDiff,Nat.reduceAdd,beq_self_eq_true];done));simp only [rE,rS,li,lo,reduceIte,Nat.reduceEqDiff,Nat.reduceAdd,Nat.reduceMul,t0,cu56];exact rfl;exact Wl H0 _ p _ sf;rintro _ Hg ⟨nd,rfl,hnd,ug,sg,ig⟩;refine⟨_,rfl,?_⟩)
 replace c1:=c1.step ug
 replace c2:=c2.step ug
 replace d5:=d5.step ug
 have xg:=xf.trans ug
 have eg:=ef.trans (Xo.upx ug (by omega))
 have hR:=rdR7_of id1 ie ig
 have hfail:rdR7 s' = none→st5.bind (rdRs7 n) = (none:Option (List Nat)).map (fun sc =>(l,sc)):=fun e =>by
  rw [hrec,Option.bind_some,rdRs7,e]
  rfl
 generalize nx (nx (nx (some s'))) = st6 at *
 obtain⟨v6,b6,s6,hk6,hst6⟩:=sg
 have hpc6:=hk6.cells
 have hsl6:=hk6.src.sl
 have hone6:=hsl6.one
 have hsol6:=hsl6.solid
 rcases hst6 with ⟨rfl,rfl⟩ | ⟨rfl,rfl⟩
 rotate_left
 ·have hstB:=hk6.stB true
  repeat (first|(apply Zh;exact rfl)|apply Zc|apply WO.nil|(apply WO.op;(focus (simp only [rQ,Zb,li,lo,reduceIte,Nat.reduceEqDiff,Nat.reduceAdd,beq_self_eq_true];done));simp only [rE,rS,li,lo,reduceIte,Nat.reduceEqDiff,Nat.reduceAdd,Nat.reduceMul,t0,Z3,Za ZE,hpc6];exact rfl;exact rfl)|(apply WO.unwanted;(focus (simp only [rQ,Zb,li,lo,reduceIte,Nat.reduceEqDiff,Nat.reduceAdd,beq_self_eq_true];done));exact rfl))
  (first|(apply WF.condT;(focus (simp only [Zg,Zd,Tri.gp,Zn,Bool.not_true,Bool.not_false,reduceIte,Nat.reduceEqDiff];done)))|(apply WF.condF;(focus (simp only [Zg,Zd,Tri.gp,Zn,Bool.not_true,Bool.not_false,reduceIte,Nat.reduceEqDiff];done))))
  iterate 8 (first|(apply Zh;exact rfl)|apply Zc|apply WO.nil|(apply Zl;exact rfl;simp only [rE,rQ,li,lo,reduceIte,Nat.reduceEqDiff,Nat.reduceAdd,Nat.reduceMul,AH.set,t0,Z3,hstB];exact rfl;exact rfl))
  exact tail _ _ ⟨rv,l,none,_,⟨v6,true,s6,hk6.setB true,.inr ⟨rfl,rfl⟩⟩,xg.trans (Z2 _ _ _ _),c1.step (Z2 _ _ _ _),c2.step (Z2 _ _ _ _),own.sl,hfail hR,fun e =>absurd rfl e,by simp [Tri.gp,t2],by simp [Tri.gp,t3]⟩
 rw [Option.bind_some] at hR
 by_cases hlen:nd≤s6.length
 rotate_left
 ·have q3:decide ((s6.length:Int) < (nd:Int)) = true:=decide_eq_true (by omega)
  have hstB:=hk6.stB true
  rw [if_neg hlen] at hR
  repeat (first|(apply Zh;exact rfl)|apply Zc|apply WO.nil|(apply WO.op;(focus (simp only [rQ,Zb,li,lo,reduceIte,Nat.reduceEqDiff,Nat.reduceAdd,beq_self_eq_true,q3];done));simp only [rE,rS,li,lo,reduceIte,Nat.reduceEqDiff,Nat.reduceAdd,Nat.reduceMul,t0,YA,Z3,Za ZE,Za Zx,hpc6,hone6,hsol6,Zo,Zf Zo hsl6,q3];exact rfl;exact rfl)|(apply WO.unwanted;(focus (simp only [rQ,Zb,li,lo,reduceIte,Nat.reduceEqDiff,Nat.reduceAdd,beq_self_eq_true,q3];done));exact rfl))
  (first|(apply WF.condT;(focus (simp only [Zg,Zd,Tri.gp,Zn,Bool.not_true,Bool.not_false,reduceIte,Nat.reduceEqDiff,q3];done)))|(apply WF.condF;(focus (simp only [Zg,Zd,Tri.gp,Zn,Bool.not_true,Bool.not_false,reduceIte,Nat.reduceEqDiff,q3];done))))
  iterate 8 (first|(apply Zh;exact rfl)|apply Zc|apply WO.nil|(apply Zl;exact rfl;simp only [rE,rQ,li,lo,reduceIte,Nat.reduceEqDiff,Nat.reduceAdd,Nat.reduceMul,AH.set,t0,Z3,hstB];exact rfl;exact rfl))
  exact tail _ _ ⟨rv,l,none,_,⟨v6,true,s6,hk6.setB true,.inr ⟨rfl,rfl⟩⟩,xg.trans (Z2 _ _ _ _),c1.step (Z2 _ _ _ _),c2.step (Z2 _ _ _ _),own.sl,hfail hR,fun e =>absurd rfl e,by simp [Tri.gp,t2],by simp [Tri.gp,t3]⟩
 have q3:decide ((s6.length:Int) < (nd:Int)) = false:=decide_eq_false (by omega)
 rw [if_pos hlen] at hR
 repeat (first|(apply Zh;exact rfl)|apply Zc|apply WO.nil|(apply WO.op;(focus (simp only [rQ,Zb,li,lo,reduceIte,Nat.reduceEqDiff,Nat.reduceAdd,beq_self_eq_true,q3];done));simp only [rE,rS,li,lo,reduceIte,Nat.reduceEqDiff,Nat.reduceAdd,Nat.reduceMul,t0,YA,Z3,Za ZE,Za Zx,hpc6,hone6,hsol6,Zo,Zf Zo hsl6,q3];exact rfl;exact rfl)|(apply WO.unwanted;(focus (simp only [rQ,Zb,li,lo,reduceIte,Nat.reduceEqDiff,Nat.reduceAdd,beq_self_eq_true,q3];done));exact rfl))
 (first|(apply WF.condT;(focus (simp only [Zg,Zd,Tri.gp,Zn,Bool.not_true,Bool.not_false,reduceIte,Nat.reduceEqDiff,q3];done)))|(apply WF.condF;(focus (simp only [Zg,Zd,Tri.gp,Zn,Bool.not_true,Bool.not_false,reduceIte,Nat.reduceEqDiff,q3];done))))
 obtain⟨x1,hx1,hs1⟩:=hk6.src.take hlen
 obtain⟨x2',hx2,hs2⟩:=hk6.src.drop hlen
 have hx1o:=hs1.sl.one
 have hx1s:=hs1.sl.solid
 have hx2o:=hs2.sl.one
 have hx2s:=hs2.sl.solid
 obtain⟨dv,H2',happ,hfr,hu2'⟩:=app_fresh hs1 hk6.up
 have hds:=hfr.1
 have hdo:=hds.one
 have hdsol:=hds.solid
 have hcB:AH.cellsAt ⟨Hg.t.put Hg.next (some (.cells 5 [] 0 false false)),Hg.next + 1⟩ p = some [v6,.bool false]:=by rw [(Up.box Hg _).cellsAt hk6.lt];exact hpc6
 have d6:=d5.step (Y2.of hu2')
 have hst2:Zr Q 35 He.next 2 dv H2' = some ⟨H2'.t.put He.next (some (.cells 87 [.int .i64 (id:Int),.int .i64 (tm:Int),dv] 0 false false)),H2'.next⟩:=Z7 (n:=1) (x:=[dv]) d6.1 sz35 (SL.cells' hds) rfl (by simp [hdo]) (Nat.le_refl 3)
 repeat (first|(apply Zh;exact rfl)|apply Zc|apply WO.nil|(apply Zl;exact rfl;simp only [rE,rQ,li,lo,reduceIte,Nat.reduceEqDiff,Nat.reduceAdd,Nat.reduceMul,AH.set,t0,bs35e,YA,Za Zx,hcB,hone6,hsol6,hx1,happ,Zz,hst2];exact rfl;exact rfl))
 have hgn:=d5.2.1
 have hgn2:=d6.2.1
 have hcn:=eg.next
 have hqg:q + 1≤Hg.next:=by omega
 have hgc:Hc.next≤He.next:=le2
 have hun:=hu2'.next
 have d7:Bx p He.next (some (.cells 87 [.int .i64 (id:Int),.int .i64 (tm:Int),dv] 0 false false)) ⟨H2'.t.put He.next (some (.cells 87 [.int .i64 (id:Int),.int .i64 (tm:Int),dv] 0 false false)),H2'.next⟩:=⟨by show (Tri.put _ _ _).get _ = _;rw [Tri.gp,if_pos rfl],hgn2,by omega⟩
 have hk7:TkB H0 ⟨H2'.t.put He.next (some (.cells 87 [.int .i64 (id:Int),.int .i64 (tm:Int),dv] 0 false false)),H2'.next⟩ p v6 false s6:=by
  have h2:=hk6.upx hu2'
  have hlo:=h2.lo
  refine⟨?_,h2.lt,h2.lo,h2.src,h2.up.next,fun b hb =>?_⟩
  ·show (Tri.put _ _ _).get _ = _
   rw [Tri.gp,if_neg (by omega)]
   exact h2.pos
  ·show (Tri.put _ _ _).get _ = _
   rw [Tri.gp,if_neg (by omega)]
   exact h2.up.old b hb
 have c17:=(c1.step (Y2.of hu2')).put (b2:=He.next) (o2:=some (.cells 87 [.int .i64 (id:Int),.int .i64 (tm:Int),dv] 0 false false)) (by have:=c1.2.1;omega)
 have c27:=(c2.step (Y2.of hu2')).put (b2:=He.next) (o2:=some (.cells 87 [.int .i64 (id:Int),.int .i64 (tm:Int),dv] 0 false false)) (by omega)
 have x7:=(xg.trans (Y2.of hu2')).st (b:=He.next) (by omega) (some (.cells 87 [.int .i64 (id:Int),.int .i64 (tm:Int),dv] 0 false false))
 have e7:=(eg.trans (Xo.of hu2')).st (b:=He.next) (.inr hgc) (some (.cells 87 [.int .i64 (id:Int),.int .i64 (tm:Int),dv] 0 false false))
 have hst3:=hk7.stV hs2.sl
 have hpc7:=hk7.cells
 have hk8:=hk7.set (b':=false) hs2
 have d8:=d7.step (Z2 _ p x2' false)
 have c18:=c17.step (Z2 _ p x2' false)
 have c28:=c27.step (Z2 _ p x2' false)
 have x8:=x7.trans (Z2 _ p x2' false)
 have e8:=e7.trans (Xo.upx (Z2 _ p x2' false) (by omega))
 have hkeep:∀b,Hg.next≤b→(setTk ⟨H2'.t.put He.next (some (.cells 87 [.int .i64 (id:Int),.int .i64 (tm:Int),dv] 0 false false)),H2'.next⟩ p x2' false).t.get b = H2'.t.get b:=fun b hb =>by
  unfold setTk
  show ((Tri.put _ _ _).put _ _).get _ = _
  have:=hk6.lt
  rw [Tri.gp,if_neg (by omega),Tri.gp,if_neg (by omega)]
 have hn8:(setTk ⟨H2'.t.put He.next (some (.cells 87 [.int .i64 (id:Int),.int .i64 (tm:Int),dv] 0 false false)),H2'.next⟩ p x2' false).next = H2'.next:=rfl
 have hdf:Xa (q + 1) (setTk ⟨H2'.t.put He.next (some (.cells 87 [.int .i64 (id:Int),.int .i64 (tm:Int),dv] 0 false false)),H2'.next⟩ p x2' false) dv (Xw (s6.take nd)):=freshD_keep hfr hqg (Nat.le_refl _) hkeep
 have hdr:∀b,b < Hc.next→Xa (q + 1) (rmB (setTk ⟨H2'.t.put He.next (some (.cells 87 [.int .i64 (id:Int),.int .i64 (tm:Int),dv] 0 false false)),H2'.next⟩ p x2' false) b) dv (Xw (s6.take nd)):=fun b2 hb2 =>
  freshD_keep hfr hqg (Nat.le_refl _) fun b hb =>by
   show (Tri.put _ b2 _).get _ = _
   rw [Tri.gp,if_neg (by omega)]
   exact hkeep b hb
 repeat (first|(apply Zh;exact rfl)|apply Zc|apply WO.nil|(apply Zl;exact rfl;simp only [rE,rQ,li,lo,reduceIte,Nat.reduceEqDiff,Nat.reduceAdd,Nat.reduceMul,AH.set,t0,YA,Za Zx,hpc7,hone6,hsol6,hx2,hst3];exact rfl;exact rfl))
 clear hkeep
 generalize (setTk ⟨H2'.t.put He.next (some (.cells 87 [.int .i64 (id:Int),.int .i64 (tm:Int),dv] 0 false false)),H2'.next⟩ p x2' false) = Hj at *
 have hone:=own.sl.one
 have hsol:=own.sl.solid
 have hown:=Xh.ext (PE:=PR (q + 1)) (fun u h =>PR.ext u h) own e8
 have hlj:q + 1≤Hj.next:=by omega
 obtain⟨rv',Hk,happ2,own',ub,hnb⟩:=Xh.push (PE:=PR (q + 1)) app78i (fun u h =>PR.ext u h) hown hlj [.int .i64 (id:Int),.int .i64 (tm:Int),dv] (ofR ⟨id,tm,s6.take nd⟩) rfl (by simp [hdo,one_int]) (by simp [hdsol,Wm]) ⟨dv,rfl,hdf⟩ (fun b e =>⟨dv,rfl,hdr b (own.blk e).2⟩) (by rw [List.length_map];omega)
 have hrb:∀b,Xi rv = some b→q + 1≤b:=fun b e =>(own.blk e).1
 have c1k:=c18.upB ub (fun e =>by have:=hrb _ e;omega)
 have c2k:=c28.upB ub (fun e =>by have:=hrb _ e;omega)
 have xk:=x8.upB ub (fun b e =>by have:=hrb b e;omega)
 have hone':=own'.sl.one
 have hst7:Zr Q 78 q 1 rv' Hk = some ⟨Hk.t.put q (some (.cells 80 [.int .i64 (c:Int),rv',.int .i64 (d:Int),.bool (decide (a = 1))] 0 false false)),Hk.next⟩:=Z7 (n:=1) (x:=[rv']) c2k.1 sz78 (SL.cells' own'.sl) rfl (by simp [hone']) (by simp)
 have wi:IntKind.i64.wrap ((i:Int) + 1) = ((i + 1:Nat):Int):=by rw [Go.Ev.w64 (by omega) (by omega)];omega
 repeat (first|(apply Zh;exact rfl)|apply Zc|apply WO.nil|(apply Zl;exact rfl;simp only [rE,rQ,li,lo,reduceIte,Nat.reduceEqDiff,Nat.reduceAdd,Nat.reduceMul,AH.set,t3,t6,Zp,Za Zw,c28.cells,hone,hsol,Ze Yi Z1,d8.cells,cut3s hdsol,bs78y,mkRY_agg,hdo,happ2,hst7,wi];exact rfl;exact rfl))
 refine Yt ?_
 have hlo:=hk8.lo
 have s8:TkS H0 Hj p (some (s6.drop nd)):=⟨x2',false,_,hk8,.inl ⟨rfl,rfl⟩⟩
 have hpj:=hk8.lt
 have sk:TkS H0 Hk p (some (s6.drop nd)):=s8.of ub.next (ub.old p hpj (fun e =>by have:=hrb _ e;omega)) fun b hb =>ub.old b (by omega) (fun e =>by have:=hrb _ e;omega)
 have c1l:=c1k.2.1
 have c2l:=c2k.2.1
 refine ih m _ _ (by omega) ⟨i + 1,rv',l ++ [⟨id,tm,s6.take nd⟩],some (s6.drop nd),by omega,by simp [hli],sk.put hpq _,xk.st (by omega) _,c1k.put (by omega),⟨?_,c2l,by omega⟩,?_,?_,fun _ =>hn1,?_,?_,?_,?_,?_⟩
 ·show (Tri.put _ _ _).get _ = _
  rw [Tri.gp,if_pos rfl]
 ·rw [List.map_append]
  exact Xh.ext (PE:=PR (q + 1)) (fun u h =>PR.ext u h) own' ((Xo.refl _ Hk).st (by omega) _)
 ·rw [hrec,Option.bind_some,Option.bind_some,rdRs7,hR]
  dsimp only
  cases rdRs7 m (s6.drop nd) <;> simp
 all_goals simp [Tri.gp,t0,t2,t3,t5]
end Go.Ev.C
end
section
namespace Go.Ev.C
open Go.Proofs Go.RowKit Go.Fmt
def rdBs7:Nat→List Nat→Option (List YT × List Nat)
 | 0,s =>some ([],s)
 | n + 1,s =>match rdB7 s with
  | none =>none
  | some (x,s) =>if (ofB x).ok = true then match rdBs7 n s with
    | none =>none
    | some (l,s) =>some (x :: l,s)
   else none
def dR (s:List Nat):Option (List YT):=if s.take 4 = [84,66,65,84] then match num7 (s.drop 4) with
  | none =>none
  | some (n,s) =>if n≤200 then match rdBs7 n s with
    | some (l,[]) =>some l
    | _ =>none
   else none
 else none
theorem put7 {s:List Nat} {v:Nat} {r:List Nat} (h8:∀c ∈ s,c < 256) (h:num7 s = some (v,r)):s = Xp v ++ r∧v < 562949953421312:=by
 obtain⟨h1,h2,_⟩:=leb_getN 7 0 s v r h8 h
 exact⟨h1,h2⟩
theorem num7_put {v:Nat} (h:v < 562949953421312) (r:List Nat):num7 (Xp v ++ r) = some (v,r):=getN_leb 7 0 v r (by omega) h (by omega)
theorem enc_getR7 {s:List Nat} {x:WI} {r:List Nat} (h8:∀c ∈ s,c < 256) (h:rdR7 s = some (x,r)):s = encR x ++ r:=by
 unfold rdR7 at h
 split at h
 ·cases h
 rename_i i s1 h1
 obtain⟨rfl,a1⟩:=put7 h8 h1
 have g1:∀c ∈ s1,c < 256:=fun c hc =>h8 c (by simp [hc])
 split at h
 ·cases h
 rename_i t s2 h2
 obtain⟨rfl,a2⟩:=put7 g1 h2
 have g2:∀c ∈ s2,c < 256:=fun c hc =>g1 c (by simp [hc])
 split at h
 ·cases h
 rename_i n s3 h3
 obtain⟨rfl,a3⟩:=put7 g2 h3
 split at h
 ·rename_i hn
  cases h
  have hl:(s3.take n).length = n:=by simp;omega
  unfold encR
  dsimp only
  rw [hl]
  simp
 ·cases h
theorem getR7_enc {x:WI} (h:pokR x) (r:List Nat):rdR7 (encR x ++ r) = some (x,r):=by
 obtain⟨h1,h2,h3,h4⟩:=h
 unfold rdR7 encR
 simp only [List.append_assoc]
 rw [num7_put (by omega)]
 dsimp only
 rw [num7_put (by omega)]
 dsimp only
 rw [num7_put (by omega)]
 dsimp only
 rw [if_pos (by simp)]
 simp
theorem getRs7_enc:∀{l:List WI},(∀y ∈ l,pokR y)→∀r,rdRs7 l.length (XD l ++ r) = some (l,r)
 | [],_,r =>rfl
 | x :: l,h,r =>by
  show rdRs7 (l.length + 1) _ = _
  rw [rdRs7,XD,List.append_assoc,getR7_enc (h x (by simp))]
  dsimp only
  rw [getRs7_enc (fun y hy =>h y (by simp [hy]))]
theorem enc_getRs7:∀{n:Nat} {s:List Nat} {l:List WI} {r:List Nat},(∀c ∈ s,c < 256)→rdRs7 n s = some (l,r)→s = XD l ++ r∧l.length = n
 | 0,s,l,r,_,h =>by
  cases h
  exact⟨rfl,rfl⟩
 | n + 1,s,l,r,h8,h =>by
  unfold rdRs7 at h
  split at h
  ·cases h
  rename_i x s1 h1
  obtain rfl:=enc_getR7 h8 h1
  split at h
  ·cases h
  rename_i l1 s2 h2
  cases h
  obtain⟨rfl,a2⟩:=enc_getRs7 (fun c hc =>h8 c (by simp [hc])) h2
  exact⟨by rw [XD,List.append_assoc],by simp [a2]⟩
theorem getB7_enc {x:YT} (h:pokB x) (r:List Nat):rdB7 (encB x ++ r) = some (x,r):=by
 obtain⟨h1,h2,h3,h4,h5⟩:=h
 unfold rdB7 encB
 simp only [List.append_assoc]
 rw [num7_put (by omega)]
 dsimp only
 rw [num7_put (by omega)]
 dsimp only
 rw [num7_put (by omega)]
 dsimp only
 rw [num7_put (by omega)]
 dsimp only
 rw [if_pos ⟨h3,h4⟩,getRs7_enc h5]
 rfl
theorem enc_getB7 {s:List Nat} {x:YT} {r:List Nat} (h8:∀c ∈ s,c < 256) (h:rdB7 s = some (x,r)):s = encB x ++ r∧x.ah≤1∧x.recs.length≤1000:=by
 unfold rdB7 at h
 split at h
 ·cases h
 rename_i i s1 h1
 obtain⟨rfl,a1⟩:=put7 h8 h1
 have g1:∀c ∈ s1,c < 256:=fun c hc =>h8 c (by simp [hc])
 split at h
 ·cases h
 rename_i t s2 h2
 obtain⟨rfl,a2⟩:=put7 g1 h2
 have g2:∀c ∈ s2,c < 256:=fun c hc =>g1 c (by simp [hc])
 split at h
 ·cases h
 rename_i a s3 h3
 obtain⟨rfl,a3⟩:=put7 g2 h3
 have g3:∀c ∈ s3,c < 256:=fun c hc =>g2 c (by simp [hc])
 split at h
 ·cases h
 rename_i n s4 h4
 obtain⟨rfl,a4⟩:=put7 g3 h4
 have g4:∀c ∈ s4,c < 256:=fun c hc =>g3 c (by simp [hc])
 split at h
 ·rename_i hh
  obtain⟨q,hq,he⟩:=Option.map_eq_some_iff.1 h
  obtain⟨l,s5⟩:=q
  cases he
  obtain⟨rfl,a5⟩:=enc_getRs7 g4 hq
  refine⟨?_,hh.1,by dsimp only;omega⟩
  unfold encB
  dsimp only
  rw [a5]
  simp
 ·cases h
theorem ofR_pok {y:WI} (h:(ofR y).ok = true):pokR y:=by
 unfold Yz.ok vld ofR at h
 simp only [Yz.n,YJ,Bool.and_eq_true,decide_eq_true_eq] at h
 exact⟨by omega,by omega,by omega,by omega⟩
theorem ofB_pok {x:YT} (h:(ofB x).ok = true) (ha:x.ah≤1):pokB x:=by
 unfold XC.ok okB ofB at h
 simp only [Bool.and_eq_true,decide_eq_true_eq,Bool.not_eq_true',List.length_map] at h
 obtain⟨⟨⟨⟨⟨h1,h2⟩,h3⟩,h4⟩,h5⟩,h6⟩:=h
 refine⟨by omega,by omega,ha,by omega,fun y hy =>ofR_pok ?_⟩
 have:=List.any_eq_false.1 h6 (ofR y) (List.mem_map_of_mem hy)
 simpa using this
theorem getBs7_enc:∀{l:List YT},(∀y ∈ l,pokB y)→∀r,rdBs7 l.length (XE l ++ r) = some (l,r)
 | [],_,r =>rfl
 | x :: l,h,r =>by
  show rdBs7 (l.length + 1) _ = _
  rw [rdBs7,XE,List.append_assoc,getB7_enc (h x (by simp))]
  dsimp only
  rw [if_pos (ofB_ok (h x (by simp))),getBs7_enc (fun y hy =>h y (by simp [hy]))]
theorem enc_getBs7:∀{n:Nat} {s:List Nat} {l:List YT} {r:List Nat},(∀c ∈ s,c < 256)→rdBs7 n s = some (l,r)→s = XE l ++ r∧l.length = n∧∀y ∈ l,pokB y
 | 0,s,l,r,_,h =>by
  cases h
  exact⟨rfl,rfl,by simp⟩
 | n + 1,s,l,r,h8,h =>by
  unfold rdBs7 at h
  split at h
  ·cases h
  rename_i x s1 h1
  obtain⟨rfl,a1,_⟩:=enc_getB7 h8 h1
  split at h
  ·rename_i hok
   split at h
   ·cases h
   rename_i l1 s2 h2
   cases h
   obtain⟨rfl,a2,a3⟩:=enc_getBs7 (fun c hc =>h8 c (by simp [hc])) h2
   refine⟨by rw [XE,List.append_assoc],by simp [a2],fun y hy =>?_⟩
   rcases List.mem_cons.1 hy with rfl | hy
   ·exact ofB_pok hok a1
   ·exact a3 y hy
  ·cases h
theorem dR_enc {l:List YT} (h:pokL l):dR (WB l) = some l:=by
 unfold dR WB encL
 have h1:=h.1
 rw [if_pos (by simp),List.drop_append_of_le_length (by simp),show List.drop 4 [84,66,65,84] ++ (Xp l.length ++ XE l) = Xp l.length ++ XE l from rfl,num7_put (by omega)]
 dsimp only
 have:=getBs7_enc h.2 []
 rw [List.append_nil] at this
 rw [if_pos h1,this]
theorem enc_dR {s:List Nat} {l:List YT} (h8:∀c ∈ s,c < 256) (h:dR s = some l):s = WB l∧pokL l:=by
 unfold dR at h
 split at h
 ·rename_i h4
  split at h
  ·cases h
  rename_i n s1 h1
  have g0:∀c ∈ s.drop 4,c < 256:=fun c hc =>h8 c (List.mem_of_mem_drop hc)
  obtain⟨e1,_⟩:=put7 g0 h1
  split at h
  ·rename_i hn
   split at h
   ·rename_i l1 hg
    cases h
    obtain⟨a1,a2,a3⟩:=enc_getBs7 (fun c hc =>g0 c (by rw [e1];simp [hc])) hg
    rw [List.append_nil] at a1
    refine⟨?_,by omega,a3⟩
    unfold WB encL
    rw [← h4,a2,← a1,← e1,List.take_append_drop]
   ·cases h
  ·cases h
 ·cases h
theorem dR_dec {s:List Nat} (h8:∀c ∈ s,c < 256):dR s = XI s:=by
 cases h1:dR s with
 | some l =>
  obtain⟨rfl,hok⟩:=enc_dR h8 h1
  rw [dec_enc hok]
 | none =>
  cases h2:XI s with
  | none =>rfl
  | some l =>
   obtain⟨rfl,hok⟩:=enc_dec h8 h2
   rw [dR_enc hok] at h1
   cases h1
end Go.Ev.C
end
section
namespace Go.Ev.C
open Go.Proofs Go.RowKit Go.Fmt
set_option maxRecDepth 100000
set_option linter.unusedSimpArgs false
variable {L:World→Prop} [Yu Q L]
theorem XA:Wi Q 50 = some (.agg [.nilslice,.int .i64 0]):=by kernel_rfl
theorem W6 (z:Int):Wg Q 50 [(1,.int .i64 z)] = some (.agg [.nilslice,.int .i64 z]):=by kernel_rfl
theorem bu50v {v:AV} {n:Nat} (h:SL v n):Wg Q 50 [(0,v)] = some (.agg [v,.int .i64 0]):=by cases h <;> kernel_rfl
theorem bu137v {v:AV} {n:Nat} (h:SL v n):Wg Q 137 [(0,v)] = some (.agg [v,.bool false]):=by cases h <;> kernel_rfl
theorem st50 {H:AH} {b:Nat} {u v:AV} {z z0:Int} (hv:Yn v = true) (hg:H.t.get b = some (.cells 50 [u,.int .i64 z0] 0 false false)):Zr Q 50 b 0 (.agg [v,.int .i64 z]) H = some ⟨H.t.put b (some (.cells 50 [v,.int .i64 z] 0 false false)),H.next⟩ :=
 Z7 (x:=[v,.int .i64 z]) hg WX rfl rfl (by simp [hv];rfl) (Nat.le_refl _)
theorem TkS.byte {H0 H:AH} {p:Nat} {s:List Nat} (h:TkS H0 H p (some s)):∀c ∈ s,c < 256:=by
 obtain⟨_,_,_,h1,h2⟩:=h
 rcases h2 with ⟨_,e⟩ | ⟨_,e⟩ <;> cases e
 exact h1.src.byte
theorem Up.tail {H H':AH} (u:Up H H') {p:Nat} {o:Option AB} (hp:H.next≤p):Up H ⟨H'.t.put p o,H'.next⟩:=Up.put (Up.refl _) u hp
def DecQ (H:AH) (o:Option (List YT)) (w:AV) (H':AH):Prop:=Up H H'∧match o with
 | none =>w = .agg [.nilslice,.int .i64 262]
 | some l =>∃v,w = .agg [v,.int .i64 0]∧YI H' v (l.map ofB)
set_option maxHeartbeats 16000000 in
theorem decode20_c (H:AH) (bv:AV) (s:List Nat) (hs:Src H bv s):Fn Q L 20 [bv] H (DecQ H (dR s)):=by
 refine Fn.intro (en20 _) ?_
 have hsl:=hs.sl
 have hone:=hsl.one
 have hsol:=hsl.solid
 have hlen:=hs.len
 have c2:∀{v:AV} {z:Int},ZO v = true→cut [v,.int .i64 z] 0 2 = some [v,.int .i64 z]:=fun h =>YN rfl (by simp [h,Wm])
 have z1:=Up.box H (some (.cells 50 [.nilslice,.int .i64 0] 0 false false))
 have g1:(AH.mk (H.t.put H.next (some (.cells 50 [.nilslice,.int .i64 0] 0 false false))) (H.next + 1)).t.get H.next = some (.cells 50 [.nilslice,.int .i64 0] 0 false false):=by show (Tri.put _ _ _).get _ = _;rw [Tri.gp,if_pos rfl]
 have n1:(AH.mk (H.t.put H.next (some (.cells 50 [.nilslice,.int .i64 0] 0 false false))) (H.next + 1)).next = H.next + 1:=rfl
 unfold c20 Tryz.f20
 simp only [Option.getD_some]
 iterate 4 (first|(apply Zh;exact rfl)|apply Zc|apply WO.nil|(apply Zl;exact rfl;simp only [rE,rS,li,lo,reduceIte,Nat.reduceEqDiff,Nat.reduceAdd,Nat.reduceMul,XA,WX,Zs,W6,Zo,Za ZE,Za Zx,YA,Z3];exact rfl;exact rfl))
 generalize (⟨H.t.put H.next (some (.cells 50 [.nilslice,.int .i64 0] 0 false false)),H.next + 1⟩:AH) = H1 at *
 have hfail:∀(Hx:AH),Up H Hx→∀b,b = H.next→Up H ⟨Hx.t.put b (some (.cells 50 [.nilslice,.int .i64 262] 0 false false)),Hx.next⟩:=fun Hx u b hb =>Up.put (Up.refl _) u (by omega)
 have hcn:cut [.nilslice,.int .i64 262] 0 2 = some [.nilslice,.int .i64 262]:=c2 rfl
 by_cases h4:s.length < 4
 ·have hno:dR s = none:=by
   unfold dR
   rw [if_neg]
   intro e
   have:=congrArg List.length e
   simp at this
   omega
  rw [hno]
  have q1:decide ((s.length:Int) < 4) = true:=decide_eq_true (by omega)
  have hst:=st50 (v:=.nilslice) (z:=262) rfl g1
  repeat (first|(apply Zh;exact rfl)|apply Zc|apply WO.nil|(apply WO.op;(focus (simp only [rQ,Zb,li,lo,reduceIte,Nat.reduceEqDiff,Nat.reduceAdd,beq_self_eq_true,q1];done));simp only [rE,rS,li,lo,reduceIte,Nat.reduceEqDiff,Nat.reduceAdd,Nat.reduceMul,XA,WX,Zs,W6,Zo,Za ZE,Za Zx,YA,Z3,Zf Zo hsl,q1];exact rfl;exact rfl)|(apply WO.unwanted;(focus (simp only [rQ,Zb,li,lo,reduceIte,Nat.reduceEqDiff,Nat.reduceAdd,beq_self_eq_true,q1];done));exact rfl))
  (first|(apply WF.condT;(focus (simp only [Zg,Zd,Tri.gp,Zn,Bool.not_true,Bool.not_false,reduceIte,Nat.reduceEqDiff,q1];done)))|(apply WF.condF;(focus (simp only [Zg,Zd,Tri.gp,Zn,Bool.not_true,Bool.not_false,reduceIte,Nat.reduceEqDiff,q1];done))))
  repeat (first|(apply Zh;exact rfl)|apply Zc|apply WO.nil|(apply Zl;exact rfl;simp only [rE,rQ,li,lo,reduceIte,Nat.reduceEqDiff,Nat.reduceAdd,Nat.reduceMul,AH.set,XA,WX,Zs,W6,Zo,Za ZE,Za Zx,YA,Z3,hst];exact rfl;exact rfl))
  (apply WF.ret;(focus (simp only [Zi,Tri.gp,Zn,ZL,reduceIte,Nat.reduceEqDiff,rs20,Ze agg50 WX,ZK,Option.map_some,hcn];exact rfl)))
  exact⟨hfail _ z1 _ rfl,rfl⟩
 have q1:decide ((s.length:Int) < 4) = false:=decide_eq_false (by omega)
 obtain⟨x4,hx4,hs4⟩:=hs.take (k:=4) (by omega)
 replace hx4:YW Q 35 bv none (some (.int .i64 4)) none = some x4:=hx4
 have ht4:(s.take 4).length = 4:=by simp;omega
 have hcv:=conv_srcJ (hs4.up z1).data (fun e =>by rw [e] at ht4;cases ht4) hs4.byte
 have hx4o:=hs4.sl.one
 have hx4s:=hs4.sl.solid
 cases q4:(s.take 4 == [84,66,65,84])
 ·have hno:dR s = none:=by
   unfold dR
   rw [if_neg]
   intro e
   rw [e] at q4
   cases q4
  rw [hno]
  have hst:=st50 (v:=.nilslice) (z:=262) rfl g1
  repeat (first|(apply Zh;exact rfl)|apply Zc|apply WO.nil|(apply WO.op;(focus (simp only [rQ,Zb,li,lo,reduceIte,Nat.reduceEqDiff,Nat.reduceAdd,beq_self_eq_true,q1,q4];done));simp only [rE,rS,li,lo,reduceIte,Nat.reduceEqDiff,Nat.reduceAdd,Nat.reduceMul,XA,WX,Zs,W6,Zo,Za ZE,Za Zx,YA,Z3,Zf Zo hsl,q1,hx4,Y0,Ye,hcv,bts4,YB,YO,q4];exact rfl;exact rfl)|(apply WO.unwanted;(focus (simp only [rQ,Zb,li,lo,reduceIte,Nat.reduceEqDiff,Nat.reduceAdd,beq_self_eq_true,q1,q4];done));exact rfl))
  (first|(apply WF.condT;(focus (simp only [Zg,Zd,Tri.gp,Zn,Bool.not_true,Bool.not_false,reduceIte,Nat.reduceEqDiff,q4];done)))|(apply WF.condF;(focus (simp only [Zg,Zd,Tri.gp,Zn,Bool.not_true,Bool.not_false,reduceIte,Nat.reduceEqDiff,q4];done))))
  repeat (first|(apply Zh;exact rfl)|apply Zc|apply WO.nil|(apply Zl;exact rfl;simp only [rE,rQ,li,lo,reduceIte,Nat.reduceEqDiff,Nat.reduceAdd,Nat.reduceMul,AH.set,XA,WX,Zs,W6,Zo,Za ZE,Za Zx,YA,Z3,hst];exact rfl;exact rfl))
  (apply WF.ret;(focus (simp only [Zi,Tri.gp,Zn,ZL,reduceIte,Nat.reduceEqDiff,rs20,Ze agg50 WX,ZK,Option.map_some,hcn];exact rfl)))
  exact⟨hfail _ z1 _ rfl,rfl⟩
 have e4:s.take 4 = [84,66,65,84]:=by simpa using q4
 repeat (first|(apply Zh;exact rfl)|apply Zc|apply WO.nil|(apply WO.op;(focus (simp only [rQ,Zb,li,lo,reduceIte,Nat.reduceEqDiff,Nat.reduceAdd,beq_self_eq_true,q1,q4];done));simp only [rE,rS,li,lo,reduceIte,Nat.reduceEqDiff,Nat.reduceAdd,Nat.reduceMul,XA,WX,Zs,W6,Zo,Za ZE,Za Zx,YA,Z3,Zf Zo hsl,q1,hx4,Y0,Ye,hcv,bts4,YB,YO,q4];exact rfl;exact rfl)|(apply WO.unwanted;(focus (simp only [rQ,Zb,li,lo,reduceIte,Nat.reduceEqDiff,Nat.reduceAdd,beq_self_eq_true,q1,q4];done));exact rfl))
 (first|(apply WF.condT;(focus (simp only [Zg,Zd,Tri.gp,Zn,Bool.not_true,Bool.not_false,reduceIte,Nat.reduceEqDiff,q4];done)))|(apply WF.condF;(focus (simp only [Zg,Zd,Tri.gp,Zn,Bool.not_true,Bool.not_false,reduceIte,Nat.reduceEqDiff,q4];done))))
 obtain⟨xd,hxd,hsd⟩:=hs.drop (k:=4) (by omega)
 replace hxd:YW Q 35 bv (some (.int .i64 4)) none none = some xd:=hxd
 have hxdo:=hsd.sl.one
 have hxds:=hsd.sl.solid
 have z2:=Up.box H1 (some (.cells 137 [xd,.bool false] 0 false false))
 have tk:TkB H ⟨H1.t.put H1.next (some (.cells 137 [xd,.bool false] 0 false false)),H1.next + 1⟩ H1.next xd false (s.drop 4) :=
  ⟨by show (Tri.put _ _ _).get _ = _;rw [Tri.gp,if_pos rfl],Nat.lt_succ_self _,by omega,hsd,z1.trans z2⟩
 have f1:Bx H1.next H.next (some (.cells 50 [.nilslice,.int .i64 0] 0 false false)) ⟨H1.t.put H1.next (some (.cells 137 [xd,.bool false] 0 false false)),H1.next + 1⟩:=⟨by rw [z2.old H.next (by omega)];exact g1,by show H.next < H1.next + 1;omega,by omega⟩
 have x2:Y2 H1.next H ⟨H1.t.put H1.next (some (.cells 137 [xd,.bool false] 0 false false)),H1.next + 1⟩:=Y2.of (z1.trans z2)
 repeat (first|(apply Zh;exact rfl)|apply Zc|apply WO.nil|(apply Zl;exact rfl;simp only [rE,rS,li,lo,reduceIte,Nat.reduceEqDiff,Nat.reduceAdd,Nat.reduceMul,XA,WX,Zs,W6,Zo,Za ZE,Za Zx,YA,Z3,hxd,bu137v hsd.sl,hxdo,hxds,cu56];exact rfl;exact rfl))
 have hp1:H1.next = H.next + 1:=n1
 generalize (⟨H1.t.put H1.next (some (.cells 137 [xd,.bool false] 0 false false)),H1.next + 1⟩:AH) = H2 at *
 generalize H1.next = p at *
 (apply WO.call;(focus (simp only [rQ,Zb,li,lo,reduceIte,Nat.reduceEqDiff,Nat.reduceAdd,beq_self_eq_true];done));simp only [rE,rS,li,lo,reduceIte,Nat.reduceEqDiff,Nat.reduceAdd,Nat.reduceMul,XA,WX,Zs,W6,Zo,Za ZE,Za Zx,YA,Z3,cu56];exact rfl;exact Wl H _ p _ ⟨xd,false,_,tk,.inl ⟨rfl,rfl⟩⟩;rintro _ H3 ⟨n,rfl,hn,u3,s3,i3⟩;refine⟨_,rfl,?_⟩)
 replace f1:=f1.step u3
 have x3:=x2.trans u3
 have upx:∀{Hx:AH},Y2 p H Hx→Up H Hx:=fun x =>Y2.up (Up.refl H) x (by omega)
 have hbig0:dR s = match num7 (s.drop 4) with
   | none =>none
   | some (n,s) =>if n≤200 then match rdBs7 n s with
     | some (l,[]) =>some l
     | _ =>none
    else none:=by
  unfold dR
  rw [if_pos e4]
  all_goals rfl
 obtain⟨v3,b3,s3',hk3,hst3⟩:=s3
 have hpc3:=hk3.cells
 rcases hst3 with ⟨rfl,hs3⟩ | ⟨rfl,hs3⟩
 rotate_left
 ·have hno:dR s = none:=by
   rw [hbig0]
   cases e:num7 (s.drop 4) with
   | none =>rfl
   | some q =>simp [nx,e] at hs3
  rw [hno]
  have hst:=st50 (v:=.nilslice) (z:=262) rfl f1.1
  repeat (first|(apply Zh;exact rfl)|apply Zc|apply WO.nil|(apply WO.op;(focus (simp only [rQ,Zb,li,lo,reduceIte,Nat.reduceEqDiff,Nat.reduceAdd,beq_self_eq_true];done));simp only [rE,rS,li,lo,reduceIte,Nat.reduceEqDiff,Nat.reduceAdd,Nat.reduceMul,XA,WX,Zs,W6,Zo,Za ZE,Za Zx,YA,Z3,hpc3];exact rfl;exact rfl)|(apply WO.unwanted;(focus (simp only [rQ,Zb,li,lo,reduceIte,Nat.reduceEqDiff,Nat.reduceAdd,beq_self_eq_true];done));exact rfl))
  (first|(apply WF.condT;(focus (simp only [Zg,Zd,Tri.gp,Zn,Bool.not_true,Bool.not_false,reduceIte,Nat.reduceEqDiff];done)))|(apply WF.condF;(focus (simp only [Zg,Zd,Tri.gp,Zn,Bool.not_true,Bool.not_false,reduceIte,Nat.reduceEqDiff];done))))
  repeat (first|(apply Zh;exact rfl)|apply Zc|apply WO.nil|(apply Zl;exact rfl;simp only [rE,rQ,li,lo,reduceIte,Nat.reduceEqDiff,Nat.reduceAdd,Nat.reduceMul,AH.set,XA,WX,Zs,W6,Zo,Za ZE,Za Zx,YA,Z3,hst];exact rfl;exact rfl))
  (apply WF.ret;(focus (simp only [Zi,Tri.gp,Zn,ZL,reduceIte,Nat.reduceEqDiff,rs20,Ze agg50 WX,ZK,Option.map_some,hcn];exact rfl)))
  exact⟨hfail _ (upx x3) _ rfl,rfl⟩
 obtain⟨_,e1,e2⟩:=nx_some hs3 i3
 cases e1
 rw [e2] at hbig0
 dsimp only at hbig0
 by_cases h200:n≤200
 rotate_left
 ·have hno:dR s = none:=by rw [hbig0,if_neg h200]
  rw [hno]
  have q2:decide ((200:Int) < (n:Int)) = true:=decide_eq_true (by omega)
  have hst:=st50 (v:=.nilslice) (z:=262) rfl f1.1
  repeat (first|(apply Zh;exact rfl)|apply Zc|apply WO.nil|(apply WO.op;(focus (simp only [rQ,Zb,li,lo,reduceIte,Nat.reduceEqDiff,Nat.reduceAdd,beq_self_eq_true,q2];done));simp only [rE,rS,li,lo,reduceIte,Nat.reduceEqDiff,Nat.reduceAdd,Nat.reduceMul,XA,WX,Zs,W6,Zo,Za ZE,Za Zx,YA,Z3,hpc3,q2];exact rfl;exact rfl)|(apply WO.unwanted;(focus (simp only [rQ,Zb,li,lo,reduceIte,Nat.reduceEqDiff,Nat.reduceAdd,beq_self_eq_true,q2];done));exact rfl))
  (first|(apply WF.condT;(focus (simp only [Zg,Zd,Tri.gp,Zn,Bool.not_true,Bool.not_false,reduceIte,Nat.reduceEqDiff,q2];done)))|(apply WF.condF;(focus (simp only [Zg,Zd,Tri.gp,Zn,Bool.not_true,Bool.not_false,reduceIte,Nat.reduceEqDiff,q2];done))))
  repeat (first|(apply Zh;exact rfl)|apply Zc|apply WO.nil|(apply Zl;exact rfl;simp only [rE,rQ,li,lo,reduceIte,Nat.reduceEqDiff,Nat.reduceAdd,Nat.reduceMul,AH.set,XA,WX,Zs,W6,Zo,Za ZE,Za Zx,YA,Z3,hst];exact rfl;exact rfl))
  (apply WF.ret;(focus (simp only [Zi,Tri.gp,Zn,ZL,reduceIte,Nat.reduceEqDiff,rs20,Ze agg50 WX,ZK,Option.map_some,hcn];exact rfl)))
  exact⟨hfail _ (upx x3) _ rfl,rfl⟩
 have q2:decide ((200:Int) < (n:Int)) = false:=decide_eq_false (by omega)
 rw [if_pos h200] at hbig0
 repeat (first|(apply Zh;exact rfl)|apply Zc|apply WO.nil|(apply WO.op;(focus (simp only [rQ,Zb,li,lo,reduceIte,Nat.reduceEqDiff,Nat.reduceAdd,beq_self_eq_true,q2];done));simp only [rE,rS,li,lo,reduceIte,Nat.reduceEqDiff,Nat.reduceAdd,Nat.reduceMul,XA,WX,Zs,W6,Zo,Za ZE,Za Zx,YA,Z3,hpc3,q2];exact rfl;exact rfl)|(apply WO.unwanted;(focus (simp only [rQ,Zb,li,lo,reduceIte,Nat.reduceEqDiff,Nat.reduceAdd,beq_self_eq_true,q2];done));exact rfl))
 (first|(apply WF.condT;(focus (simp only [Zg,Zd,Tri.gp,Zn,Bool.not_true,Bool.not_false,reduceIte,Nat.reduceEqDiff,q2];done)))|(apply WF.condF;(focus (simp only [Zg,Zd,Tri.gp,Zn,Bool.not_true,Bool.not_false,reduceIte,Nat.reduceEqDiff,q2];done))))
 repeat (first | (apply Zh;exact rfl) | apply Zc | apply WO.nil | (apply Zl;exact rfl;simp only [rE,rS,li,lo,reduceIte,Nat.reduceEqDiff,Nat.reduceAdd,Nat.reduceMul];exact rfl;exact rfl))
 have f1n:=f1.2.1
 have hp3:=hk3.lt
 refine Ys (fun m t Hc =>∃(i:Nat) (v:AV) (l:List YT) (sc:List Nat),i + m = n∧l.length = i∧TkS H Hc p (some sc)∧Y2 p H Hc∧Bx p H.next (some (.cells 50 [.nilslice,.int .i64 0] 0 false false)) Hc∧Xh 80 4 (p + 1) (PB (p + 1)) Hc v (l.map ofB)∧rdBs7 n s3' = (rdBs7 m sc).map (fun q =>(l ++ q.1,q.2))∧t.get 2 = some (.ptr H.next 0)∧t.get 3 = some (.ptr p 0)∧t.get 4 = some (.int .i64 (n:Int))∧t.get 5 = some v∧t.get 6 = some (.int .i64 (i:Int))) n ?_ ?_
 ·refine⟨0,.nilslice,[],s3',by omega,rfl,⟨v3,false,s3',hk3,.inl ⟨rfl,rfl⟩⟩,x3,f1,Xh.nil _,by simp,?_,?_,?_,?_,?_⟩
  all_goals simp [Tri.gp,Zn]
 clear f1 x3 hk3 hpc3
 rintro m t Hc ⟨i,v,l,sc,him,hli,sC,xc,f1,own,hrec,t2,t3,t4,t5,t6⟩ ih
 have hone:=own.sl.one
 have hsol:=own.sl.solid
 have hpl:=sC.lt
 by_cases hm:m = 0
 ·subst hm
  obtain rfl:i = n:=by omega
  have q3:decide ((i:Int) < (i:Int)) = false:=by simp
  obtain⟨vc,bc,sc',hkc,hstc⟩:=sC
  rcases hstc with ⟨rfl,e⟩ | ⟨rfl,e⟩
  rotate_left
  ·cases e
  cases e
  have hpcc:=hkc.cells
  have hcl:=hkc.src.sl
  have hco:=hcl.one
  have hcs:=hcl.solid
  have hbig1:dR s = if sc = [] then some l else none:=by
   rw [hbig0,hrec,rdBs7]
   cases sc <;> simp
  repeat (first|(apply Zh;exact rfl)|apply Zc|apply WO.nil|(apply WO.op;(focus (simp only [rQ,Zb,li,lo,reduceIte,Nat.reduceEqDiff,Nat.reduceAdd,beq_self_eq_true,q3];done));simp only [rE,rS,li,lo,reduceIte,Nat.reduceEqDiff,Nat.reduceAdd,Nat.reduceMul,t4,t6,q3];exact rfl;exact rfl)|(apply WO.unwanted;(focus (simp only [rQ,Zb,li,lo,reduceIte,Nat.reduceEqDiff,Nat.reduceAdd,beq_self_eq_true,q3];done));exact rfl))
  (first|(apply WF.condT;(focus (simp only [Zg,Zd,Tri.gp,Zn,Bool.not_true,Bool.not_false,reduceIte,Nat.reduceEqDiff,q3];done)))|(apply WF.condF;(focus (simp only [Zg,Zd,Tri.gp,Zn,Bool.not_true,Bool.not_false,reduceIte,Nat.reduceEqDiff,q3];done))))
  repeat (first|(apply Zh;exact rfl)|apply Zc|apply WO.nil|(apply Zl;exact rfl;simp only [rE,rS,li,lo,reduceIte,Nat.reduceEqDiff,Nat.reduceAdd,Nat.reduceMul,t3,XA,WX,Zs,W6,Zo,Za ZE,Za Zx,YA,Z3,hpcc,hco,hcs,Zf Zo hcl];exact rfl;exact rfl))
  cases sc with
  | nil =>
   have q5:decide ((0:Int) < (([]:List Nat).length:Int)) = false:=rfl
   have hst:=st50 (z:=0) hone f1.1
   rw [show dR s = some l from by rw [hbig1,if_pos rfl]]
   repeat (first|(apply Zh;exact rfl)|apply Zc|apply WO.nil|(apply WO.op;(focus (simp only [rQ,Zb,li,lo,reduceIte,Nat.reduceEqDiff,Nat.reduceAdd,beq_self_eq_true,q5];done));simp only [rE,rS,li,lo,reduceIte,Nat.reduceEqDiff,Nat.reduceAdd,Nat.reduceMul,q5];exact rfl;exact rfl)|(apply WO.unwanted;(focus (simp only [rQ,Zb,li,lo,reduceIte,Nat.reduceEqDiff,Nat.reduceAdd,beq_self_eq_true,q5];done));exact rfl))
   (first|(apply WF.condT;(focus (simp only [Zg,Zd,Tri.gp,Zn,Bool.not_true,Bool.not_false,reduceIte,Nat.reduceEqDiff,q5];done)))|(apply WF.condF;(focus (simp only [Zg,Zd,Tri.gp,Zn,Bool.not_true,Bool.not_false,reduceIte,Nat.reduceEqDiff,q5];done))))
   repeat (first|(apply Zh;exact rfl)|apply Zc|apply WO.nil|(apply Zl;exact rfl;simp only [rE,rQ,li,lo,reduceIte,Nat.reduceEqDiff,Nat.reduceAdd,Nat.reduceMul,AH.set,t2,t5,Zs,bu50v own.sl,hst];exact rfl;exact rfl))
   (apply WF.ret;(focus (simp only [Zi,Tri.gp,Zn,ZL,reduceIte,Nat.reduceEqDiff,rs20,Ze agg50 WX,ZK,Option.map_some,t2,c2 hsol];exact rfl)))
   refine⟨Up.put (Up.refl _) (upx xc) (Nat.le_refl _),v,rfl,own_bats (Xh.ext (PE:=PB (p + 1)) (fun u h =>PB.ext u h) own ((Xo.refl _ Hc).st (.inl (by omega)) _))⟩
  | cons y sc =>
   have q5:decide ((0:Int) < ((y :: sc).length:Int)) = true:=decide_eq_true (by simp)
   have hst:=st50 (v:=.nilslice) (z:=262) rfl f1.1
   rw [show dR s = none from by rw [hbig1,if_neg (by simp)]]
   repeat (first|(apply Zh;exact rfl)|apply Zc|apply WO.nil|(apply WO.op;(focus (simp only [rQ,Zb,li,lo,reduceIte,Nat.reduceEqDiff,Nat.reduceAdd,beq_self_eq_true,q5];done));simp only [rE,rS,li,lo,reduceIte,Nat.reduceEqDiff,Nat.reduceAdd,Nat.reduceMul,q5];exact rfl;exact rfl)|(apply WO.unwanted;(focus (simp only [rQ,Zb,li,lo,reduceIte,Nat.reduceEqDiff,Nat.reduceAdd,beq_self_eq_true,q5];done));exact rfl))
   (first|(apply WF.condT;(focus (simp only [Zg,Zd,Tri.gp,Zn,Bool.not_true,Bool.not_false,reduceIte,Nat.reduceEqDiff,q5];done)))|(apply WF.condF;(focus (simp only [Zg,Zd,Tri.gp,Zn,Bool.not_true,Bool.not_false,reduceIte,Nat.reduceEqDiff,q5];done))))
   repeat (first|(apply Zh;exact rfl)|apply Zc|apply WO.nil|(apply Zl;exact rfl;simp only [rE,rQ,li,lo,reduceIte,Nat.reduceEqDiff,Nat.reduceAdd,Nat.reduceMul,AH.set,t2,XA,WX,Zs,W6,Zo,Za ZE,Za Zx,YA,Z3,hst];exact rfl;exact rfl))
   (apply WF.ret;(focus (simp only [Zi,Tri.gp,Zn,ZL,reduceIte,Nat.reduceEqDiff,rs20,Ze agg50 WX,ZK,Option.map_some,t2,hcn];exact rfl)))
   exact⟨hfail _ (upx xc) _ rfl,rfl⟩
 obtain⟨m,rfl⟩:∃m',m = m' + 1:=⟨m - 1,by omega⟩
 have q3:decide ((i:Int) < (n:Int)) = true:=by simp;omega
 repeat (first|(apply Zh;exact rfl)|apply Zc|apply WO.nil|(apply WO.op;(focus (simp only [rQ,Zb,li,lo,reduceIte,Nat.reduceEqDiff,Nat.reduceAdd,beq_self_eq_true,q3];done));simp only [rE,rS,li,lo,reduceIte,Nat.reduceEqDiff,Nat.reduceAdd,Nat.reduceMul,t4,t6,q3];exact rfl;exact rfl)|(apply WO.unwanted;(focus (simp only [rQ,Zb,li,lo,reduceIte,Nat.reduceEqDiff,Nat.reduceAdd,beq_self_eq_true,q3];done));exact rfl))
 (first|(apply WF.condT;(focus (simp only [Zg,Zd,Tri.gp,Zn,Bool.not_true,Bool.not_false,reduceIte,Nat.reduceEqDiff,q3];done)))|(apply WF.condF;(focus (simp only [Zg,Zd,Tri.gp,Zn,Bool.not_true,Bool.not_false,reduceIte,Nat.reduceEqDiff,q3];done))))
 repeat (first|(apply Zh;exact rfl)|apply Zc|apply WO.nil|(apply Zl;exact rfl;simp only [rE,rS,li,lo,reduceIte,Nat.reduceEqDiff,Nat.reduceAdd,Nat.reduceMul,t3,cu57];exact rfl;exact rfl))
 (apply WO.call;(focus (simp only [rQ,Zb,li,lo,reduceIte,Nat.reduceEqDiff,Nat.reduceAdd,beq_self_eq_true];done));simp only [rE,rS,li,lo,reduceIte,Nat.reduceEqDiff,Nat.reduceAdd,Nat.reduceMul,t3,cu57];exact rfl;exact batch57_c H Hc p sc sC;rintro _ Hb ⟨c,d,a,_,rv,nr,rfl,hrsl,ub,sB,_,hB⟩;refine⟨_,rfl,?_⟩)
 have hro:=hrsl.one
 have hrs:=hrsl.solid
 replace f1:=f1.step ub
 have xb:=xc.trans ub
 have hpb:=sB.lt
 have hcb:=ub.next
 have hcp:p + 1≤Hc.next:=hpl
 have zd:Up Hb ⟨(Hb.t.put Hb.next (some (.cells 80 [.int .i64 0,.nilslice,.int .i64 0,.bool false] 0 false false))).put Hb.next (some (.cells 80 [.int .i64 (c:Int),rv,.int .i64 (d:Int),.bool (decide (a = 1))] 0 false false)),Hb.next + 1⟩:=WV Hb _ _
 have gd:(AH.mk ((Hb.t.put Hb.next (some (.cells 80 [.int .i64 0,.nilslice,.int .i64 0,.bool false] 0 false false))).put Hb.next (some (.cells 80 [.int .i64 (c:Int),rv,.int .i64 (d:Int),.bool (decide (a = 1))] 0 false false))) (Hb.next + 1)).cellsAt Hb.next = some [.int .i64 (c:Int),rv,.int .i64 (d:Int),.bool (decide (a = 1))]:=by rw [ZK,if_pos rfl]
 repeat (first|(apply Zh;exact rfl)|apply Zc|apply WO.nil|(apply Zl;exact rfl;simp only [rE,rS,li,lo,reduceIte,Nat.reduceEqDiff,Nat.reduceAdd,Nat.reduceMul,ZD,Zv,hro];exact rfl;exact rfl))
 have sd:=sB.up zd
 have xd:=xb.trans (Y2.of zd)
 replace f1:=f1.step (Y2.of zd)
 have hnd:=zd.next
 generalize (⟨(Hb.t.put Hb.next (some (.cells 80 [.int .i64 0,.nilslice,.int .i64 0,.bool false] 0 false false))).put Hb.next (some (.cells 80 [.int .i64 (c:Int),rv,.int .i64 (d:Int),.bool (decide (a = 1))] 0 false false)),Hb.next + 1⟩:AH) = Hd at *
 obtain⟨vd,bd,sd',hkd,hstd⟩:=id sd
 have hpcd:=hkd.cells
 cases hrd:rdB7 sc with
 | none =>
  rw [hrd] at hstd
  rcases hstd with ⟨_,e⟩ | ⟨rfl,_⟩
  ·cases e
  have hno:dR s = none:=by rw [hbig0,hrec,rdBs7,hrd];rfl
  rw [hno]
  have hst:=st50 (v:=.nilslice) (z:=262) rfl f1.1
  repeat (first|(apply Zh;exact rfl)|apply Zc|apply WO.nil|(apply WO.op;(focus (simp only [rQ,Zb,li,lo,reduceIte,Nat.reduceEqDiff,Nat.reduceAdd,beq_self_eq_true];done));simp only [rE,rS,li,lo,reduceIte,Nat.reduceEqDiff,Nat.reduceAdd,Nat.reduceMul,t3,XA,WX,Zs,W6,Zo,Za ZE,Za Zx,YA,Z3,hpcd];exact rfl;exact rfl)|(apply WO.unwanted;(focus (simp only [rQ,Zb,li,lo,reduceIte,Nat.reduceEqDiff,Nat.reduceAdd,beq_self_eq_true];done));exact rfl))
  (first|(apply WF.condT;(focus (simp only [Zg,Zd,Tri.gp,Zn,Bool.not_true,Bool.not_false,reduceIte,Nat.reduceEqDiff];done)))|(apply WF.condF;(focus (simp only [Zg,Zd,Tri.gp,Zn,Bool.not_true,Bool.not_false,reduceIte,Nat.reduceEqDiff];done))))
  repeat (first|(apply Zh;exact rfl)|apply Zc|apply WO.nil|(apply Zl;exact rfl;simp only [rE,rQ,li,lo,reduceIte,Nat.reduceEqDiff,Nat.reduceAdd,Nat.reduceMul,AH.set,t2,XA,WX,Zs,W6,Zo,Za ZE,Za Zx,YA,Z3,hst];exact rfl;exact rfl))
  (apply WF.ret;(focus (simp only [Zi,Tri.gp,Zn,ZL,reduceIte,Nat.reduceEqDiff,rs20,Ze agg50 WX,ZK,Option.map_some,t2,hcn];exact rfl)))
  exact⟨hfail _ (upx xd) _ rfl,rfl⟩
 | some qq =>
 obtain⟨x,sx⟩:=qq
 rw [hrd] at hstd sd
 obtain⟨rfl,rfl,rfl,hrf⟩:=hB x sx hrd
 rcases hstd with ⟨rfl,e⟩ | ⟨_,e⟩
 rotate_left
 ·cases e
 cases e
 obtain⟨_,hx7,hxl⟩:=enc_getB7 sC.byte hrd
 replace hrf:=hrf.ext (Xo.of zd)
 have hck:=check_c (L:=L) Hd (x.cpu:Int) rv (x.dr:Int) (decide (x.ah = 1)) (x.recs.map ofR) hrf.at (by rw [List.length_map];omega)
 unfold BV at hck
 repeat (first|(apply Zh;exact rfl)|apply Zc|apply WO.nil|(apply WO.op;(focus (simp only [rQ,Zb,li,lo,reduceIte,Nat.reduceEqDiff,Nat.reduceAdd,beq_self_eq_true];done));simp only [rE,rS,li,lo,reduceIte,Nat.reduceEqDiff,Nat.reduceAdd,Nat.reduceMul,t3,XA,WX,Zs,W6,Zo,Za ZE,Za Zx,YA,Z3,hpcd,Ze ZT Zv,gd,cut4z hrs,cu58];exact rfl;exact rfl)|(apply WO.unwanted;(focus (simp only [rQ,Zb,li,lo,reduceIte,Nat.reduceEqDiff,Nat.reduceAdd,beq_self_eq_true];done));exact rfl))
 (apply WO.call;(focus (simp only [rQ,Zb,li,lo,reduceIte,Nat.reduceEqDiff,Nat.reduceAdd,beq_self_eq_true];done));simp only [rE,rS,li,lo,reduceIte,Nat.reduceEqDiff,Nat.reduceAdd,Nat.reduceMul,t3,XA,WX,Zs,W6,Zo,Za ZE,Za Zx,YA,Z3,cu58];exact rfl;exact hck;rintro _ Hd ⟨rfl,rfl⟩;refine⟨_,rfl,?_⟩)
 cases hv:okB (x.cpu:Int) (x.recs.map ofR) (x.dr:Int)
 ·have hno:dR s = none:=by
   have:(ofB x).ok = false:=hv
   rw [hbig0,hrec,rdBs7,hrd]
   dsimp only
   rw [this]
   rfl
  rw [hno]
  have hst:=st50 (v:=.nilslice) (z:=262) rfl f1.1
  have q5:decide ((if false = true then (0:Int) else 260) = 0) = false:=rfl
  repeat (first|(apply Zh;exact rfl)|apply Zc|apply WO.nil|(apply WO.op;(focus (simp only [rQ,Zb,li,lo,reduceIte,Nat.reduceEqDiff,Nat.reduceAdd,beq_self_eq_true,q5];done));simp only [rE,rS,li,lo,reduceIte,Nat.reduceEqDiff,Nat.reduceAdd,Nat.reduceMul,q5];exact rfl;exact rfl)|(apply WO.unwanted;(focus (simp only [rQ,Zb,li,lo,reduceIte,Nat.reduceEqDiff,Nat.reduceAdd,beq_self_eq_true,q5];done));exact rfl))
  (first|(apply WF.condT;(focus (simp only [Zg,Zd,Tri.gp,Zn,Bool.not_true,Bool.not_false,reduceIte,Nat.reduceEqDiff,q5];done)))|(apply WF.condF;(focus (simp only [Zg,Zd,Tri.gp,Zn,Bool.not_true,Bool.not_false,reduceIte,Nat.reduceEqDiff,q5];done))))
  repeat (first|(apply Zh;exact rfl)|apply Zc|apply WO.nil|(apply Zl;exact rfl;simp only [rE,rQ,li,lo,reduceIte,Nat.reduceEqDiff,Nat.reduceAdd,Nat.reduceMul,AH.set,t2,XA,WX,Zs,W6,Zo,Za ZE,Za Zx,YA,Z3,hst];exact rfl;exact rfl))
  (apply WF.ret;(focus (simp only [Zi,Tri.gp,Zn,ZL,reduceIte,Nat.reduceEqDiff,rs20,Ze agg50 WX,ZK,Option.map_some,t2,hcn];exact rfl)))
  exact⟨hfail _ (upx xd) _ rfl,rfl⟩
 have q5:decide ((if true = true then (0:Int) else 260) = 0) = true:=rfl
 have hvv:(ofB x).ok = true:=hv
 have hdc:p + 1≤Hd.next:=by omega
 have ed:=(Xo.upx (lo:=p + 1) ub (by omega)).trans (Xo.of zd)
 have hown:=Xh.ext (PE:=PB (p + 1)) (fun u h =>PB.ext u h) own ed
 obtain⟨v',Hk,happ,own',ubk,hnb⟩:=Xh.push (PE:=PB (p + 1)) app36i (fun u h =>PB.ext u h) hown hdc [.int .i64 (x.cpu:Int),rv,.int .i64 (x.dr:Int),.bool (decide (x.ah = 1))] (ofB x) rfl (by simp [hro,one_int,one_bool]) (by simp [hrs,Wm,hole_bool]) ⟨rv,rfl,hrf.mono hcp,by unfold ofB;rw [List.length_map];omega⟩ (fun b e =>⟨rv,rfl,(hrf.rm (own.blk e).2).mono hcp,by unfold ofB;rw [List.length_map];omega⟩) (by rw [List.length_map];omega)
 have hvb:∀b,Xi v = some b→p + 1≤b:=fun b e =>(own.blk e).1
 have wi:IntKind.i64.wrap ((i:Int) + 1) = ((i + 1:Nat):Int):=by rw [Go.Ev.w64 (by omega) (by omega)];omega
 repeat (first|(apply Zh;exact rfl)|apply Zc|apply WO.nil|(apply WO.op;(focus (simp only [rQ,Zb,li,lo,reduceIte,Nat.reduceEqDiff,Nat.reduceAdd,beq_self_eq_true,q5];done));simp only [rE,rS,li,lo,reduceIte,Nat.reduceEqDiff,Nat.reduceAdd,Nat.reduceMul,q5];exact rfl;exact rfl)|(apply WO.unwanted;(focus (simp only [rQ,Zb,li,lo,reduceIte,Nat.reduceEqDiff,Nat.reduceAdd,beq_self_eq_true,q5];done));exact rfl))
 (first|(apply WF.condT;(focus (simp only [Zg,Zd,Tri.gp,Zn,Bool.not_true,Bool.not_false,reduceIte,Nat.reduceEqDiff,q5];done)))|(apply WF.condF;(focus (simp only [Zg,Zd,Tri.gp,Zn,Bool.not_true,Bool.not_false,reduceIte,Nat.reduceEqDiff,q5];done))))
 repeat (first|(apply Zh;exact rfl)|apply Zc|apply WO.nil|(apply Zl;exact rfl;simp only [rE,rS,li,lo,reduceIte,Nat.reduceEqDiff,Nat.reduceAdd,Nat.reduceMul,t5,t6,Ze ZT Zv,gd,cut4z hrs,bs36y,mkBY_agg,hro,happ,wi];exact rfl;exact rfl))
 refine Yt ?_
 have hlo:=sd.lo
 have hpd:=hkd.lt
 refine ih m _ _ (by omega) ⟨i + 1,v',l ++ [x],sx,by omega,by simp [hli],sd.of ubk.next (ubk.old p hpd (fun e =>by have:=hvb _ e;omega)) fun b hb =>ubk.old b (by omega) (fun e =>by have:=hvb _ e;omega),xd.upB ubk (fun b e =>by have:=hvb b e;omega),f1.upB ubk (fun e =>by have:=hvb _ e;omega),?_,?_,?_,?_,?_,?_,?_⟩
 ·rw [List.map_append]
  exact own'
 ·rw [hrec,rdBs7,hrd]
  dsimp only
  rw [if_pos hvv]
  cases rdBs7 m sx <;> simp
 all_goals simp [Tri.gp,t2,t3,t4]
end Go.Ev.C
end