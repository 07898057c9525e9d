/- Contracts: the reference: Split. -/
import Derived.Test.YtkkegnkopmpjhaaGreatDoorEvYb
import Derived.Test.YtkkegnkopmpjhaaGreatDoorEvYa
set_option linter.unusedVariables false
set_option linter.unusedSimpArgs false
set_option linter.all false
section
namespace Go.Ev.C
open Go.Proofs Go.RowKit Go.Fmt
set_option maxRecDepth 100000
set_option linter.unusedSimpArgs false
variable {L:World→Prop} [Yu Q L]
theorem sJ_to {s:List Nat} {n:Nat} (h:n≤s.length):YW Q 9 (.str s) none (some (.int .i64 (n:Int))) none = some (.str (s.take n)):=by
 simp only [YW,Ye,sliceStr]
 rw [boundU_le h]
 simp [show XV none 0 n = some 0 from rfl]
theorem sJ_from {s:List Nat} {n:Nat} (h:n≤s.length):YW Q 9 (.str s) (some (.int .i64 (n:Int))) none none = some (.str (s.drop n)):=by
 simp only [YW,Ye,sliceStr,show XV none s.length s.length = some s.length from rfl]
 rw [boundU_le h]
 dsimp only
 rw [List.take_of_length_le (by simp)]
/-- The reference's reader. -/
def RdS (H:AH) (p:Nat) (st:Option (List Nat)):Prop:=∃r b,H.t.get p = some (.cells 133 [.str r,.bool b] 0 false false)∧p < H.next∧r.length≤100000000∧(∀c ∈ r,c < 256)∧((b = false∧st = some r) ∨ (b = true∧st = none))
def setRd (H:AH) (p:Nat) (r:List Nat) (b:Bool):AH:=⟨H.t.put p (some (.cells 133 [.str r,.bool b] 0 false false)),H.next⟩
theorem Wb (H:AH) (p:Nat) (r:List Nat) (b:Bool):Y2 p H (setRd H p r b):=Y2.put p H _
theorem Wc (H:AH) (p:Nat) (r:List Nat) (b:Bool):(setRd H p r b).t.get p = some (.cells 133 [.str r,.bool b] 0 false false):=by
 unfold setRd
 show (Tri.put _ _ _).get _ = _
 rw [Tri.gp,if_pos rfl]
theorem stR {H:AH} {p:Nat} {r:List Nat} {b:Bool} (h:H.t.get p = some (.cells 133 [.str r,.bool b] 0 false false)) (r':List Nat):Zr Q 9 p 0 (.str r') H = some (setRd H p r' b) :=
 Z7 (n:=1) (x:=[.str r']) h sz9 rfl rfl rfl (by simp)
theorem stB {H:AH} {p:Nat} {r:List Nat} {b:Bool} (h:H.t.get p = some (.cells 133 [.str r,.bool b] 0 false false)) (b':Bool):Zr Q 4 p 1 (.bool b') H = some (setRd H p r b') :=
 Z7 (n:=1) (x:=[.bool b']) h sz4 rfl rfl rfl (Nat.le_refl _)
theorem RdS.up {H H':AH} {p:Nat} {st:Option (List Nat)} (h:RdS H p st) (u:Up H H'):RdS H' p st:=by
 obtain⟨r,b,h1,h2,h3,h4,h5⟩:=h
 exact⟨r,b,by rw [u.old p h2];exact h1,Nat.lt_of_lt_of_le h2 u.next,h3,h4,h5⟩
theorem RdS.put {H:AH} {p q:Nat} {st:Option (List Nat)} (h:RdS H p st) (hq:p ≠ q) (o:Option AB):RdS ⟨H.t.put q o,H.next⟩ p st:=by
 obtain⟨r,b,h1,h2,h3,h4,h5⟩:=h
 exact⟨r,b,by show (Tri.put _ _ _).get _ = _;rw [Tri.gp,if_neg hq];exact h1,h2,h3,h4,h5⟩
theorem RdS.lt {H:AH} {p:Nat} {st:Option (List Nat)} (h:RdS H p st):p < H.next:=by
 obtain⟨_,_,_,h,_⟩:=h
 exact h
def isW (w:List Nat) (st:Option (List Nat)):Bool:=(st.bind (ZX w)).isSome
def isN (w:List Nat) (st:Option (List Nat)):Option (List Nat):=match st.bind (ZX w) with
 | some r =>some r
 | none =>st
set_option maxHeartbeats 4000000 in
theorem is99_c (H:AH) (p:Nat) (w:List Nat) (st:Option (List Nat)) (h:RdS H p st):Fn Q L 99 [.ptr p 0,.str w] H (fun v H' =>v = .bool (isW w st)∧Y2 p H H'∧RdS H' p (isN w st)):=by
 refine Fn.intro (en99 _ _) ?_
 obtain⟨r,b,hg,hp,hl,h8,hst⟩:=h
 have hpc:=Z5 hg
 have hlr:Wq Q .len [9] [.str r] = some (.int .i64 (r.length:Int)):=by kernel_rfl
 have hlw:Wq Q .len [9] [.str w] = some (.int .i64 (w.length:Int)):=by kernel_rfl
 unfold c99 Tryz.f99
 simp only [Option.getD_some]
 rcases hst with ⟨rfl,rfl⟩ | ⟨rfl,rfl⟩
 rotate_left
 ·repeat (first|(apply Zh;exact rfl)|apply Zc|apply WO.nil|(apply WO.op;(focus (simp only [rQ,Zb,li,lo,reduceIte,Nat.reduceEqDiff,Nat.reduceAdd,beq_self_eq_true];done));simp only [rE,rS,li,lo,reduceIte,Nat.reduceEqDiff,Nat.reduceAdd,Nat.reduceMul,ZC,ZA,Za ZE,Za YD,Ye,hpc,hlr,hlw,YB,YO];exact rfl;exact rfl)|(apply WO.unwanted;(focus (simp only [rQ,Zb,li,lo,reduceIte,Nat.reduceEqDiff,Nat.reduceAdd,beq_self_eq_true];done));exact rfl))
  (first|(apply WF.condT;(focus (simp only [Zg,Zd,Tri.gp,Zn,Bool.not_true,Bool.not_false,reduceIte,Nat.reduceEqDiff];done)))|(apply WF.condF;(focus (simp only [Zg,Zd,Tri.gp,Zn,Bool.not_true,Bool.not_false,reduceIte,Nat.reduceEqDiff];done))))
  repeat (first | (apply Zh;exact rfl) | apply Zc | apply WO.nil | (apply Zl;exact rfl;simp only [rE,rS,li,lo,reduceIte,Nat.reduceEqDiff,Nat.reduceAdd,Nat.reduceMul];exact rfl;exact rfl))
  (apply WF.ret;(focus (simp only [Zi,Tri.gp,Zn,ZL,reduceIte,Nat.reduceEqDiff,rs99];exact rfl)))
  exact⟨rfl,Y2.refl _ _,r,true,hg,hp,hl,h8,.inr ⟨rfl,rfl⟩⟩
 by_cases hwl:w.length≤r.length
 rotate_left
 ·have q1:decide ((r.length:Int) < (w.length:Int)) = true:=decide_eq_true (by omega)
  have hno:ZX w r = none:=by
   unfold ZX
   rw [if_neg]
   intro e
   have:=congrArg List.length e
   simp at this
   omega
  repeat (first|(apply Zh;exact rfl)|apply Zc|apply WO.nil|(apply WO.op;(focus (simp only [rQ,Zb,li,lo,reduceIte,Nat.reduceEqDiff,Nat.reduceAdd,beq_self_eq_true,q1];done));simp only [rE,rS,li,lo,reduceIte,Nat.reduceEqDiff,Nat.reduceAdd,Nat.reduceMul,ZC,ZA,Za ZE,Za YD,Ye,hpc,hlr,hlw,YB,YO,q1];exact rfl;exact rfl)|(apply WO.unwanted;(focus (simp only [rQ,Zb,li,lo,reduceIte,Nat.reduceEqDiff,Nat.reduceAdd,beq_self_eq_true,q1];done));exact rfl))
  (first|(apply WF.condT;(focus (simp only [Zg,Zd,Tri.gp,Zn,Bool.not_true,Bool.not_false,reduceIte,Nat.reduceEqDiff,q1];done)))|(apply WF.condF;(focus (simp only [Zg,Zd,Tri.gp,Zn,Bool.not_true,Bool.not_false,reduceIte,Nat.reduceEqDiff,q1];done))))
  repeat (first | (apply Zh;exact rfl) | apply Zc | apply WO.nil | (apply Zl;exact rfl;simp only [rE,rS,li,lo,reduceIte,Nat.reduceEqDiff,Nat.reduceAdd,Nat.reduceMul];exact rfl;exact rfl))
  (apply WF.ret;(focus (simp only [Zi,Tri.gp,Zn,ZL,reduceIte,Nat.reduceEqDiff,rs99];exact rfl)))
  exact⟨by simp [isW,hno],Y2.refl _ _,r,false,hg,hp,hl,h8,.inl ⟨rfl,by simp [isN,hno]⟩⟩
 have q1:decide ((r.length:Int) < (w.length:Int)) = false:=decide_eq_false (by omega)
 have hs1:=sJ_to hwl
 have hs2:=sJ_from hwl
 cases q4:(r.take w.length == w)
 ·have hno:ZX w r = none:=by
   unfold ZX
   rw [if_neg]
   intro e
   rw [e] at q4
   simp at q4
  repeat (first|(apply Zh;exact rfl)|apply Zc|apply WO.nil|(apply WO.op;(focus (simp only [rQ,Zb,li,lo,reduceIte,Nat.reduceEqDiff,Nat.reduceAdd,beq_self_eq_true,q1,q4];done));simp only [rE,rS,li,lo,reduceIte,Nat.reduceEqDiff,Nat.reduceAdd,Nat.reduceMul,ZC,ZA,Za ZE,Za YD,Ye,hpc,hlr,hlw,YB,YO,q1,hs1,q4];exact rfl;exact rfl)|(apply WO.unwanted;(focus (simp only [rQ,Zb,li,lo,reduceIte,Nat.reduceEqDiff,Nat.reduceAdd,beq_self_eq_true,q1,q4];done));exact rfl))
  (first|(apply WF.condT;(focus (simp only [Zg,Zd,Tri.gp,Zn,Bool.not_true,Bool.not_false,reduceIte,Nat.reduceEqDiff,q4];done)))|(apply WF.condF;(focus (simp only [Zg,Zd,Tri.gp,Zn,Bool.not_true,Bool.not_false,reduceIte,Nat.reduceEqDiff,q4];done))))
  repeat (first | (apply Zh;exact rfl) | apply Zc | apply WO.nil | (apply Zl;exact rfl;simp only [rE,rS,li,lo,reduceIte,Nat.reduceEqDiff,Nat.reduceAdd,Nat.reduceMul];exact rfl;exact rfl))
  (apply WF.ret;(focus (simp only [Zi,Tri.gp,Zn,ZL,reduceIte,Nat.reduceEqDiff,rs99];exact rfl)))
  exact⟨by simp [isW,hno],Y2.refl _ _,r,false,hg,hp,hl,h8,.inl ⟨rfl,by simp [isN,hno]⟩⟩
 ·have e4:r.take w.length = w:=by simpa using q4
  have hyes:ZX w r = some (r.drop w.length):=by
   unfold ZX
   rw [if_pos e4]
  have hst2:=stR hg (r.drop w.length)
  repeat (first|(apply Zh;exact rfl)|apply Zc|apply WO.nil|(apply WO.op;(focus (simp only [rQ,Zb,li,lo,reduceIte,Nat.reduceEqDiff,Nat.reduceAdd,beq_self_eq_true,q1,q4];done));simp only [rE,rS,li,lo,reduceIte,Nat.reduceEqDiff,Nat.reduceAdd,Nat.reduceMul,ZC,ZA,Za ZE,Za YD,Ye,hpc,hlr,hlw,YB,YO,q1,hs1,q4];exact rfl;exact rfl)|(apply WO.unwanted;(focus (simp only [rQ,Zb,li,lo,reduceIte,Nat.reduceEqDiff,Nat.reduceAdd,beq_self_eq_true,q1,q4];done));exact rfl))
  (first|(apply WF.condT;(focus (simp only [Zg,Zd,Tri.gp,Zn,Bool.not_true,Bool.not_false,reduceIte,Nat.reduceEqDiff,q4];done)))|(apply WF.condF;(focus (simp only [Zg,Zd,Tri.gp,Zn,Bool.not_true,Bool.not_false,reduceIte,Nat.reduceEqDiff,q4];done))))
  repeat (first|(apply Zh;exact rfl)|apply Zc|apply WO.nil|(apply WO.op;(focus (simp only [rQ,Zb,li,lo,reduceIte,Nat.reduceEqDiff,Nat.reduceAdd,beq_self_eq_true];done));simp only [rE,rQ,li,lo,reduceIte,Nat.reduceEqDiff,Nat.reduceAdd,Nat.reduceMul,AH.set,ZC,ZA,Za ZE,Za YD,Ye,hpc,hlr,hlw,YB,YO,hs2,hst2];exact rfl;exact rfl)|(apply WO.unwanted;(focus (simp only [rQ,Zb,li,lo,reduceIte,Nat.reduceEqDiff,Nat.reduceAdd,beq_self_eq_true];done));exact rfl))
  (apply WF.ret;(focus (simp only [Zi,Tri.gp,Zn,ZL,reduceIte,Nat.reduceEqDiff,rs99];exact rfl)))
  exact⟨by simp [isW,hyes],Wb _ _ _ _,r.drop w.length,false,Wc _ _ _ _,hp,by simp;omega,fun c hc =>h8 c (List.mem_of_mem_drop hc),.inl ⟨rfl,by simp [isN,hyes]⟩⟩
set_option maxHeartbeats 4000000 in
theorem must97_c (H:AH) (p:Nat) (w:List Nat) (st:Option (List Nat)) (h:RdS H p st):Fn Q L 97 [.ptr p 0,.str w] H (fun _ H' =>Y2 p H H'∧RdS H' p (st.bind (ZX w))):=by
 refine Fn.intro (en97 _ _) ?_
 unfold c97 Tryz.f97
 simp only [Option.getD_some]
 repeat (first|(apply Zh;exact rfl)|apply Zc|apply WO.nil|(apply Zl;exact rfl;simp only [rE,rS,li,lo,reduceIte,Nat.reduceEqDiff,Nat.reduceAdd,Nat.reduceMul,ZA,XY];exact rfl;exact rfl))
 (apply WO.call;(focus (simp only [rQ,Zb,li,lo,reduceIte,Nat.reduceEqDiff,Nat.reduceAdd,beq_self_eq_true];done));simp only [rE,rS,li,lo,reduceIte,Nat.reduceEqDiff,Nat.reduceAdd,Nat.reduceMul,ZA,XY];exact rfl;exact is99_c H p w st h;rintro _ H1 ⟨rfl,u1,r,b,hg,hp,hl,h8,hst⟩;refine⟨_,rfl,?_⟩)
 have hst2:=stB hg (!isW w st)
 repeat (first|(apply Zh;exact rfl)|apply Zc|apply WO.nil|(apply Zl;exact rfl;simp only [rE,rQ,li,lo,reduceIte,Nat.reduceEqDiff,Nat.reduceAdd,Nat.reduceMul,AH.set,ZA,XY,hst2];exact rfl;exact rfl))
 apply WF.fall
 focus (simp only [rs97,Zi,Tri.gp,Zn,ZL];exact rfl)
 refine⟨u1.trans (Wb _ _ _ _),r,!isW w st,Wc _ _ _ _,hp,hl,h8,?_⟩
 cases e:st.bind (ZX w) with
 | none =>exact .inr ⟨by simp [isW,e],rfl⟩
 | some r2 =>
  refine .inl ⟨by simp [isW,e],?_⟩
  unfold isN at hst
  rw [e] at hst
  rcases hst with ⟨_,h⟩ | ⟨_,h⟩
  ·exact h
  ·cases h
end Go.Ev.C
end
section
namespace Go.Ev.C
open Go.Proofs Go.RowKit Go.Fmt
set_option maxRecDepth 100000
set_option linter.unusedSimpArgs false
variable {L:World→Prop} [Yu Q L]
def numO (st:Option (List Nat)):Option (Nat × List Nat):=st.bind (WH 0 0)
theorem ixJ {r:List Nat} {k:Nat} (h:k < r.length):indexU Q 9 (.str r) (.int .i64 (k:Int)) = some (.int .u8 ((r[k]:Nat):Int)):=by
 simp only [indexU,Ye,idxU_lt h,List.getElem?_eq_getElem h,Option.map_some]
 rfl
/-- What is known of a number while its digits are passed over. -/
def NumI (r:List Nat) (k n:Nat):Prop:=k≤r.length∧n≤1099511627776∧WH 0 0 r = (if 1 < k∧r.head? = some 48 then none else WH n k (r.drop k))∧(k = 0→n = 0)∧(1≤k→r.head? ≠ some 48→0 < n)∧(k = 1→r.head? = some 48→n = 0)
theorem NumI.start (r:List Nat):NumI r 0 0:=⟨Nat.zero_le _,by omega,by simp,fun _ =>rfl,fun h =>by omega,fun h =>by omega⟩
theorem NumI.next {r:List Nat} {k n:Nat} (h:NumI r k n) (hk:k < r.length) (hd:48≤r[k]∧r[k]≤57) :
  if 10 * n + (r[k] - 48) > 1099511627776 then WH 0 0 r = none else NumI r (k + 1) (10 * n + (r[k] - 48)):=by
 obtain⟨h1,h2,h3,h4,h5,h6⟩:=h
 have hdr:r.drop k = r[k] :: r.drop (k + 1):=List.drop_eq_getElem_cons hk
 rw [hdr,WH,if_pos hd] at h3
 have h0:k = 0→r.head? = some r[k]:=fun e =>by
  subst e
  rw [List.head?_eq_getElem?,List.getElem?_eq_getElem hk]
 by_cases hh:r.head? = some 48
 ·by_cases hk0:k = 0
  ·have hx:=h0 hk0
   rw [hh] at hx
   have hx:r[k] = 48:=(Option.some.inj hx).symm
   have hn:=h4 hk0
   rw [if_neg (by omega),if_neg (by omega)] at h3
   rw [if_neg (by omega)]
   rw [if_neg (by omega)] at h3
   refine⟨by omega,by omega,?_,fun e =>by omega,fun _ e =>absurd hh e,fun _ _ =>by omega⟩
   rw [h3,if_neg (by omega)]
  ·have hno:WH 0 0 r = none:=by
    by_cases hk1:k = 1
    ·rw [h3,if_neg (by omega),if_pos ⟨by omega,h6 hk1 hh⟩]
    ·rw [h3,if_pos ⟨by omega,hh⟩]
   split
   ·exact hno
   ·refine⟨by omega,by omega,?_,fun e =>by omega,fun _ e =>absurd hh e,fun e =>by omega⟩
    rw [hno,if_pos ⟨by omega,hh⟩]
 ·rw [if_neg (fun e =>hh e.2)] at h3
  by_cases hk0:k = 0
  ·have hn:=h4 hk0
   have hx:=h0 hk0
   have hx:r[k] ≠ 48:=fun e =>hh (by rw [hx,e])
   rw [if_neg (by omega),if_neg (by omega)] at h3
   rw [if_neg (by omega)]
   refine⟨by omega,by omega,?_,fun e =>by omega,fun _ _ =>by omega,fun _ e =>absurd e hh⟩
   rw [h3,if_neg (by omega)]
  ·have hn:=h5 (by omega) hh
   rw [if_neg (by omega)] at h3
   split
   ·rename_i hb
    rw [h3,if_pos hb]
   ·rename_i hb
    rw [if_neg hb] at h3
    refine⟨by omega,by omega,?_,fun e =>by omega,fun _ _ =>by omega,fun _ e =>absurd e hh⟩
    rw [h3,if_neg (fun e =>hh e.2)]
/-- The end of the digits. -/
theorem NumI.stop {r:List Nat} {k n:Nat} (h:NumI r k n) (hk:∀hk:k < r.length,¬ (48≤r[k]∧r[k]≤57)) :
  WH 0 0 r = if k = 0 ∨ (1 < k∧r.head? = some 48) then none else some (n,r.drop k):=by
 obtain⟨h1,h2,h3,h4,h5,h6⟩:=h
 have key:WH n k (r.drop k) = if k = 0 then none else some (n,r.drop k):=by
  by_cases hkl:k < r.length
  ·rw [List.drop_eq_getElem_cons hkl,WH,if_neg (hk hkl)]
  ·rw [List.drop_of_length_le (by omega),WH]
 rw [h3,key]
 by_cases e:1 < k∧r.head? = some 48
 ·rw [if_pos e,if_pos (.inr e)]
 ·rw [if_neg e]
  by_cases e0:k = 0
  ·rw [if_pos e0,if_pos (.inl e0)]
  ·rw [if_neg e0,if_neg (fun e2 =>e2.elim e0 e)]
/-- The loop's end. -/
def NumE (p:Nat) (r:List Nat) (st:Option (List Nat)) (H:AH) (t':Tri AV) (HH:AH):Prop:=∃(k n:Nat) (b1:Bool),t'.get 0 = some (.ptr p 0)∧t'.get 3 = some (.int .i64 (n:Int))∧t'.get 4 = some (.int .i64 (k:Int))∧Y2 p H HH∧p < HH.next∧HH.t.get p = some (.cells 133 [.str r,.bool b1] 0 false false) ∧
 ((b1 = true∧numO st = none) ∨ (b1 = false∧st = some r∧NumI r k n∧∀hk:k < r.length,¬ (48≤r[k]∧r[k]≤57)))
set_option maxHeartbeats 8000000 in
theorem number98_c (H:AH) (p:Nat) (st:Option (List Nat)) (h:RdS H p st):Fn Q L 98 [.ptr p 0] H (fun w H' =>∃n:Nat,w = .int .i64 (n:Int)∧n≤1099511627776∧Y2 p H H'∧RdS H' p ((numO st).map (·.2))∧∀k q,numO st = some (k,q)→n = k):=by
 refine Fn.intro (en98 _) ?_
 obtain⟨r,b0,hg,hp,hl,h8,hst⟩:=h
 have hlr:Wq Q .len [9] [.str r] = some (.int .i64 (r.length:Int)):=by kernel_rfl
 unfold c98 Tryz.f98
 simp only [Option.getD_some]
 iterate 13 (first|(apply Zh;exact rfl)|apply Zc|apply WO.nil|(apply Zl;exact rfl;simp only [rE,rS,li,lo,reduceIte,Nat.reduceEqDiff,Nat.reduceAdd,Nat.reduceMul];exact rfl;exact rfl))
 refine WF.cutI (NumE p r st H) ?_ ?_
 ·rintro t' HH ⟨k,n,b1,t0,t3,t4,hux,hp2,hg2,hcase⟩
  have hpc:=Z5 hg2
  have hfail:numO st = none→∀HF,HF = setRd HH p r true→∃n:Nat,AV.int .i64 0 = .int .i64 (n:Int)∧n≤1099511627776∧Y2 p H HF∧RdS HF p ((numO st).map (·.2))∧∀k q,numO st = some (k,q)→n = k:=by
   rintro hno _ rfl
   refine⟨0,rfl,by omega,hux.trans (Wb _ _ _ _),⟨r,true,Wc _ _ _ _,hp2,hl,h8,.inr ⟨rfl,by rw [hno];rfl⟩⟩,fun k q e =>?_⟩
   rw [hno] at e
   cases e
  have hst2:=stB hg2 true
  rcases hcase with ⟨rfl,hno⟩ | ⟨rfl,rfl,hN,hstop⟩
  ·repeat (first|(apply Zh;exact rfl)|apply Zc|apply WO.nil|(apply WO.op;(focus (simp only [rQ,Zb,li,lo,reduceIte,Nat.reduceEqDiff,Nat.reduceAdd,beq_self_eq_true];done));simp only [rE,rS,li,lo,reduceIte,Nat.reduceEqDiff,Nat.reduceAdd,Nat.reduceMul,ZC,ZA,Za ZE,Za YD,Ye,hpc,hlr,t0];exact rfl;exact rfl)|(apply WO.unwanted;(focus (simp only [rQ,Zb,li,lo,reduceIte,Nat.reduceEqDiff,Nat.reduceAdd,beq_self_eq_true];done));exact rfl))
   (first|(apply WF.condT;(focus (simp only [Zg,Zd,Tri.gp,Zn,Bool.not_true,Bool.not_false,reduceIte,Nat.reduceEqDiff];done)))|(apply WF.condF;(focus (simp only [Zg,Zd,Tri.gp,Zn,Bool.not_true,Bool.not_false,reduceIte,Nat.reduceEqDiff];done))))
   repeat (first|(apply Zh;exact rfl)|apply Zc|apply WO.nil|(apply WO.op;(focus (simp only [rQ,Zb,li,lo,reduceIte,Nat.reduceEqDiff,Nat.reduceAdd,beq_self_eq_true];done));simp only [rE,rQ,li,lo,reduceIte,Nat.reduceEqDiff,Nat.reduceAdd,Nat.reduceMul,AH.set,ZC,ZA,Za ZE,Za YD,Ye,hpc,hlr,t0,hst2];exact rfl;exact rfl)|(apply WO.unwanted;(focus (simp only [rQ,Zb,li,lo,reduceIte,Nat.reduceEqDiff,Nat.reduceAdd,beq_self_eq_true];done));exact rfl))
   (apply WF.ret;(focus (simp only [Zi,Tri.gp,Zn,ZL,reduceIte,Nat.reduceEqDiff,rs98];exact rfl)))
   exact hfail hno _ rfl
  have hnum:=hN.stop hstop
  obtain⟨hkl,hn,_⟩:=hN
  replace hnum:numO (some r) = if k = 0 ∨ (1 < k∧r.head? = some 48) then none else some (n,r.drop k):=hnum
  by_cases hk0:k = 0
  ·subst hk0
   have q1:decide (((0:Nat):Int) = 0) = true:=rfl
   repeat (first|(apply Zh;exact rfl)|apply Zc|apply WO.nil|(apply WO.op;(focus (simp only [rQ,Zb,li,lo,reduceIte,Nat.reduceEqDiff,Nat.reduceAdd,beq_self_eq_true,q1];done));simp only [rE,rS,li,lo,reduceIte,Nat.reduceEqDiff,Nat.reduceAdd,Nat.reduceMul,ZC,ZA,Za ZE,Za YD,Ye,hpc,hlr,t0,t4,q1];exact rfl;exact rfl)|(apply WO.unwanted;(focus (simp only [rQ,Zb,li,lo,reduceIte,Nat.reduceEqDiff,Nat.reduceAdd,beq_self_eq_true,q1];done));exact rfl))
   (first|(apply WF.condT;(focus (simp only [Zg,Zd,Tri.gp,Zn,Bool.not_true,Bool.not_false,reduceIte,Nat.reduceEqDiff];done)))|(apply WF.condF;(focus (simp only [Zg,Zd,Tri.gp,Zn,Bool.not_true,Bool.not_false,reduceIte,Nat.reduceEqDiff];done))))
   repeat (first|(apply Zh;exact rfl)|apply Zc|apply WO.nil|(apply WO.op;(focus (simp only [rQ,Zb,li,lo,reduceIte,Nat.reduceEqDiff,Nat.reduceAdd,beq_self_eq_true];done));simp only [rE,rQ,li,lo,reduceIte,Nat.reduceEqDiff,Nat.reduceAdd,Nat.reduceMul,AH.set,ZC,ZA,Za ZE,Za YD,Ye,hpc,hlr,t0,hst2];exact rfl;exact rfl)|(apply WO.unwanted;(focus (simp only [rQ,Zb,li,lo,reduceIte,Nat.reduceEqDiff,Nat.reduceAdd,beq_self_eq_true];done));exact rfl))
   (apply WF.ret;(focus (simp only [Zi,Tri.gp,Zn,ZL,reduceIte,Nat.reduceEqDiff,rs98];exact rfl)))
   exact hfail (by rw [hnum,if_pos (.inl rfl)]) _ rfl
  have q1:decide ((k:Int) = 0) = false:=decide_eq_false (by omega)
  have hfin:¬ (1 < k∧r.head? = some 48)→∀HF,HF = setRd HH p (r.drop k) false→∃m:Nat,AV.int .i64 (n:Int) = .int .i64 (m:Int)∧m≤1099511627776∧Y2 p H HF∧RdS HF p ((numO (some r)).map (·.2))∧∀k q,numO (some r) = some (k,q)→m = k:=by
   rintro hno _ rfl
   rw [hnum,if_neg (fun e =>e.elim hk0 hno)]
   refine⟨n,rfl,hn,hux.trans (Wb _ _ _ _),⟨r.drop k,false,Wc _ _ _ _,hp2,by simp;omega,fun c hc =>h8 c (List.mem_of_mem_drop hc),.inl ⟨rfl,rfl⟩⟩,fun k q e =>?_⟩
   cases e
   rfl
  have hs2:=sJ_from hkl
  have hst3:=stR hg2 (r.drop k)
  by_cases hk1:1 < k
  rotate_left
  ·have q2:decide ((1:Int) < (k:Int)) = false:=decide_eq_false (by omega)
   repeat (first|(apply Zh;exact rfl)|apply Zc|apply WO.nil|(apply WO.op;(focus (simp only [rQ,Zb,li,lo,reduceIte,Nat.reduceEqDiff,Nat.reduceAdd,beq_self_eq_true,q1,q2];done));simp only [rE,rS,li,lo,reduceIte,Nat.reduceEqDiff,Nat.reduceAdd,Nat.reduceMul,ZC,ZA,Za ZE,Za YD,Ye,hpc,hlr,t0,t4,q1,q2];exact rfl;exact rfl)|(apply WO.unwanted;(focus (simp only [rQ,Zb,li,lo,reduceIte,Nat.reduceEqDiff,Nat.reduceAdd,beq_self_eq_true,q1,q2];done));exact rfl))
   (first|(apply WF.condT;(focus (simp only [Zg,Zd,Tri.gp,Zn,Bool.not_true,Bool.not_false,reduceIte,Nat.reduceEqDiff];done)))|(apply WF.condF;(focus (simp only [Zg,Zd,Tri.gp,Zn,Bool.not_true,Bool.not_false,reduceIte,Nat.reduceEqDiff];done))))
   repeat (first|(apply Zh;exact rfl)|apply Zc|apply WO.nil|(apply WO.op;(focus (simp only [rQ,Zb,li,lo,reduceIte,Nat.reduceEqDiff,Nat.reduceAdd,beq_self_eq_true];done));simp only [rE,rQ,li,lo,reduceIte,Nat.reduceEqDiff,Nat.reduceAdd,Nat.reduceMul,AH.set,ZC,ZA,Za ZE,Za YD,Ye,hpc,hlr,t0,t3,t4,hs2,hst3];exact rfl;exact rfl)|(apply WO.unwanted;(focus (simp only [rQ,Zb,li,lo,reduceIte,Nat.reduceEqDiff,Nat.reduceAdd,beq_self_eq_true];done));exact rfl))
   (apply WF.ret;(focus (simp only [Zi,Tri.gp,Zn,ZL,reduceIte,Nat.reduceEqDiff,rs98];exact rfl)))
   exact hfin (fun e =>hk1 e.1) _ rfl
  have q2:decide ((1:Int) < (k:Int)) = true:=decide_eq_true (by omega)
  have h0:0 < r.length:=by omega
  have hi0:indexU Q 9 (.str r) (.int .i64 0) = some (.int .u8 ((r[0]:Nat):Int)):=ixJ h0
  have hhd:r.head? = some r[0]:=by rw [List.head?_eq_getElem?,List.getElem?_eq_getElem h0]
  cases q3:decide (((r[0]:Nat):Int) = 48)
  ·have e3:=of_decide_eq_false q3
   repeat (first|(apply Zh;exact rfl)|apply Zc|apply WO.nil|(apply WO.op;(focus (simp only [rQ,Zb,li,lo,reduceIte,Nat.reduceEqDiff,Nat.reduceAdd,beq_self_eq_true,q1,q2,q3];done));simp only [rE,rS,li,lo,reduceIte,Nat.reduceEqDiff,Nat.reduceAdd,Nat.reduceMul,ZC,ZA,Za ZE,Za YD,Ye,hpc,hlr,t0,t4,q1,q2,hi0,q3];exact rfl;exact rfl)|(apply WO.unwanted;(focus (simp only [rQ,Zb,li,lo,reduceIte,Nat.reduceEqDiff,Nat.reduceAdd,beq_self_eq_true,q1,q2,q3];done));exact rfl))
   (first|(apply WF.condT;(focus (simp only [Zg,Zd,Tri.gp,Zn,Bool.not_true,Bool.not_false,reduceIte,Nat.reduceEqDiff];done)))|(apply WF.condF;(focus (simp only [Zg,Zd,Tri.gp,Zn,Bool.not_true,Bool.not_false,reduceIte,Nat.reduceEqDiff];done))))
   repeat (first|(apply Zh;exact rfl)|apply Zc|apply WO.nil|(apply WO.op;(focus (simp only [rQ,Zb,li,lo,reduceIte,Nat.reduceEqDiff,Nat.reduceAdd,beq_self_eq_true];done));simp only [rE,rQ,li,lo,reduceIte,Nat.reduceEqDiff,Nat.reduceAdd,Nat.reduceMul,AH.set,ZC,ZA,Za ZE,Za YD,Ye,hpc,hlr,t0,t3,t4,hs2,hst3];exact rfl;exact rfl)|(apply WO.unwanted;(focus (simp only [rQ,Zb,li,lo,reduceIte,Nat.reduceEqDiff,Nat.reduceAdd,beq_self_eq_true];done));exact rfl))
   (apply WF.ret;(focus (simp only [Zi,Tri.gp,Zn,ZL,reduceIte,Nat.reduceEqDiff,rs98];exact rfl)))
   exact hfin (fun e =>e3 (by rw [hhd] at e;have:=Option.some.inj e.2;omega)) _ rfl
  ·have e3:=of_decide_eq_true q3
   repeat (first|(apply Zh;exact rfl)|apply Zc|apply WO.nil|(apply WO.op;(focus (simp only [rQ,Zb,li,lo,reduceIte,Nat.reduceEqDiff,Nat.reduceAdd,beq_self_eq_true,q1,q2,q3];done));simp only [rE,rS,li,lo,reduceIte,Nat.reduceEqDiff,Nat.reduceAdd,Nat.reduceMul,ZC,ZA,Za ZE,Za YD,Ye,hpc,hlr,t0,t4,q1,q2,hi0,q3];exact rfl;exact rfl)|(apply WO.unwanted;(focus (simp only [rQ,Zb,li,lo,reduceIte,Nat.reduceEqDiff,Nat.reduceAdd,beq_self_eq_true,q1,q2,q3];done));exact rfl))
   (first|(apply WF.condT;(focus (simp only [Zg,Zd,Tri.gp,Zn,Bool.not_true,Bool.not_false,reduceIte,Nat.reduceEqDiff];done)))|(apply WF.condF;(focus (simp only [Zg,Zd,Tri.gp,Zn,Bool.not_true,Bool.not_false,reduceIte,Nat.reduceEqDiff];done))))
   repeat (first|(apply Zh;exact rfl)|apply Zc|apply WO.nil|(apply WO.op;(focus (simp only [rQ,Zb,li,lo,reduceIte,Nat.reduceEqDiff,Nat.reduceAdd,beq_self_eq_true];done));simp only [rE,rQ,li,lo,reduceIte,Nat.reduceEqDiff,Nat.reduceAdd,Nat.reduceMul,AH.set,ZC,ZA,Za ZE,Za YD,Ye,hpc,hlr,t0,hst2];exact rfl;exact rfl)|(apply WO.unwanted;(focus (simp only [rQ,Zb,li,lo,reduceIte,Nat.reduceEqDiff,Nat.reduceAdd,beq_self_eq_true];done));exact rfl))
   (apply WF.ret;(focus (simp only [Zi,Tri.gp,Zn,ZL,reduceIte,Nat.reduceEqDiff,rs98];exact rfl)))
   exact hfail (by rw [hnum,if_pos (.inr ⟨hk1,by rw [hhd];congr 1;omega⟩)]) _ rfl
 intro tail
 iterate 1 (first | (apply Zh;exact rfl) | apply Zc | apply WO.nil | (apply Zl;exact rfl;simp only [rE,rS,li,lo,reduceIte,Nat.reduceEqDiff,Nat.reduceAdd,Nat.reduceMul];exact rfl;exact rfl))
 refine Ys (fun m t Hc =>∃(k n:Nat) (b1:Bool),k + m = r.length + 1∧t.get 0 = some (.ptr p 0)∧t.get 3 = some (.int .i64 (n:Int))∧t.get 4 = some (.int .i64 (k:Int))∧Y2 p H Hc∧p < Hc.next∧Hc.t.get p = some (.cells 133 [.str r,.bool b1] 0 false false)∧((b1 = true∧numO st = none) ∨ (b1 = false∧st = some r∧NumI r k n))) (r.length + 1) ?_ ?_
 ·refine⟨0,0,b0,by omega,?_,?_,?_,Y2.refl _ _,hp,hg,?_⟩
  ·simp [Tri.gp,Zn]
  ·simp [Tri.gp,Zn]
  ·simp [Tri.gp,Zn]
  ·rcases hst with ⟨e,e2⟩ | ⟨e,e2⟩
   ·exact .inr ⟨e,e2,NumI.start r⟩
   ·exact .inl ⟨e,by rw [e2];rfl⟩
 rintro m t Hc ⟨k,n,b1,hkm,t0,t3,t4,hux,hp2,hg2,hcase⟩ ih
 have hpc:=Z5 hg2
 rcases hcase with ⟨rfl,hno⟩ | ⟨rfl,rfl,hN⟩
 ·repeat (first|(apply Zh;exact rfl)|apply Zc|apply WO.nil|(apply WO.op;(focus (simp only [rQ,Zb,li,lo,reduceIte,Nat.reduceEqDiff,Nat.reduceAdd,beq_self_eq_true];done));simp only [rE,rS,li,lo,reduceIte,Nat.reduceEqDiff,Nat.reduceAdd,Nat.reduceMul,ZC,ZA,Za ZE,Za YD,Ye,hpc,hlr,t0];exact rfl;exact rfl)|(apply WO.unwanted;(focus (simp only [rQ,Zb,li,lo,reduceIte,Nat.reduceEqDiff,Nat.reduceAdd,beq_self_eq_true];done));exact rfl))
  (first|(apply WF.condT;(focus (simp only [Zg,Zd,Tri.gp,Zn,Bool.not_true,Bool.not_false,reduceIte,Nat.reduceEqDiff];done)))|(apply WF.condF;(focus (simp only [Zg,Zd,Tri.gp,Zn,Bool.not_true,Bool.not_false,reduceIte,Nat.reduceEqDiff];done))))
  iterate 1 (first | (apply Zh;exact rfl) | apply Zc | apply WO.nil | (apply Zl;exact rfl;simp only [rE,rS,li,lo,reduceIte,Nat.reduceEqDiff,Nat.reduceAdd,Nat.reduceMul];exact rfl;exact rfl))
  refine tail _ _ ⟨k,n,true,?_,?_,?_,hux,hp2,hg2,.inl ⟨rfl,hno⟩⟩
  all_goals simp [Tri.gp,t0,t3,t4]
 by_cases hk:k < r.length
 rotate_left
 ·have q1:decide ((k:Int) < (r.length:Int)) = false:=decide_eq_false (by omega)
  repeat (first|(apply Zh;exact rfl)|apply Zc|apply WO.nil|(apply WO.op;(focus (simp only [rQ,Zb,li,lo,reduceIte,Nat.reduceEqDiff,Nat.reduceAdd,beq_self_eq_true,q1];done));simp only [rE,rS,li,lo,reduceIte,Nat.reduceEqDiff,Nat.reduceAdd,Nat.reduceMul,ZC,ZA,Za ZE,Za YD,Ye,hpc,hlr,t0,t4,q1];exact rfl;exact rfl)|(apply WO.unwanted;(focus (simp only [rQ,Zb,li,lo,reduceIte,Nat.reduceEqDiff,Nat.reduceAdd,beq_self_eq_true,q1];done));exact rfl))
  (first|(apply WF.condT;(focus (simp only [Zg,Zd,Tri.gp,Zn,Bool.not_true,Bool.not_false,reduceIte,Nat.reduceEqDiff];done)))|(apply WF.condF;(focus (simp only [Zg,Zd,Tri.gp,Zn,Bool.not_true,Bool.not_false,reduceIte,Nat.reduceEqDiff];done))))
  iterate 1 (first | (apply Zh;exact rfl) | apply Zc | apply WO.nil | (apply Zl;exact rfl;simp only [rE,rS,li,lo,reduceIte,Nat.reduceEqDiff,Nat.reduceAdd,Nat.reduceMul];exact rfl;exact rfl))
  refine tail _ _ ⟨k,n,false,?_,?_,?_,hux,hp2,hg2,.inr ⟨rfl,rfl,hN,fun hk2 =>absurd hk2 hk⟩⟩
  all_goals simp [Tri.gp,t0,t3,t4]
 have q1:decide ((k:Int) < (r.length:Int)) = true:=decide_eq_true (by omega)
 have hix:=ixJ hk
 have hx8:=h8 _ (List.getElem_mem hk)
 cases q2:decide ((48:Int)≤((r[k]:Nat):Int))
 ·have e2:=of_decide_eq_false q2
  repeat (first|(apply Zh;exact rfl)|apply Zc|apply WO.nil|(apply WO.op;(focus (simp only [rQ,Zb,li,lo,reduceIte,Nat.reduceEqDiff,Nat.reduceAdd,beq_self_eq_true,q1,q2];done));simp only [rE,rS,li,lo,reduceIte,Nat.reduceEqDiff,Nat.reduceAdd,Nat.reduceMul,ZC,ZA,Za ZE,Za YD,Ye,hpc,hlr,t0,t4,q1,hix,q2];exact rfl;exact rfl)|(apply WO.unwanted;(focus (simp only [rQ,Zb,li,lo,reduceIte,Nat.reduceEqDiff,Nat.reduceAdd,beq_self_eq_true,q1,q2];done));exact rfl))
  (first|(apply WF.condT;(focus (simp only [Zg,Zd,Tri.gp,Zn,Bool.not_true,Bool.not_false,reduceIte,Nat.reduceEqDiff];done)))|(apply WF.condF;(focus (simp only [Zg,Zd,Tri.gp,Zn,Bool.not_true,Bool.not_false,reduceIte,Nat.reduceEqDiff];done))))
  iterate 1 (first | (apply Zh;exact rfl) | apply Zc | apply WO.nil | (apply Zl;exact rfl;simp only [rE,rS,li,lo,reduceIte,Nat.reduceEqDiff,Nat.reduceAdd,Nat.reduceMul];exact rfl;exact rfl))
  refine tail _ _ ⟨k,n,false,?_,?_,?_,hux,hp2,hg2,.inr ⟨rfl,rfl,hN,fun _ e =>e2 (by omega)⟩⟩
  all_goals simp [Tri.gp,t0,t3,t4]
 have e2:=of_decide_eq_true q2
 cases q3:decide (((r[k]:Nat):Int)≤(57:Int))
 ·have e3:=of_decide_eq_false q3
  repeat (first|(apply Zh;exact rfl)|apply Zc|apply WO.nil|(apply WO.op;(focus (simp only [rQ,Zb,li,lo,reduceIte,Nat.reduceEqDiff,Nat.reduceAdd,beq_self_eq_true,q1,q2,q3];done));simp only [rE,rS,li,lo,reduceIte,Nat.reduceEqDiff,Nat.reduceAdd,Nat.reduceMul,ZC,ZA,Za ZE,Za YD,Ye,hpc,hlr,t0,t4,q1,hix,q2,q3];exact rfl;exact rfl)|(apply WO.unwanted;(focus (simp only [rQ,Zb,li,lo,reduceIte,Nat.reduceEqDiff,Nat.reduceAdd,beq_self_eq_true,q1,q2,q3];done));exact rfl))
  (first|(apply WF.condT;(focus (simp only [Zg,Zd,Tri.gp,Zn,Bool.not_true,Bool.not_false,reduceIte,Nat.reduceEqDiff];done)))|(apply WF.condF;(focus (simp only [Zg,Zd,Tri.gp,Zn,Bool.not_true,Bool.not_false,reduceIte,Nat.reduceEqDiff];done))))
  iterate 1 (first | (apply Zh;exact rfl) | apply Zc | apply WO.nil | (apply Zl;exact rfl;simp only [rE,rS,li,lo,reduceIte,Nat.reduceEqDiff,Nat.reduceAdd,Nat.reduceMul];exact rfl;exact rfl))
  refine tail _ _ ⟨k,n,false,?_,?_,?_,hux,hp2,hg2,.inr ⟨rfl,rfl,hN,fun _ e =>e3 (by omega)⟩⟩
  all_goals simp [Tri.gp,t0,t3,t4]
 have e3:=of_decide_eq_true q3
 have hnx:=hN.next hk ⟨by omega,by omega⟩
 have hn:=hN.2.1
 generalize r[k] = x at *
 have w1:IntKind.u8.wrap ((x:Int) - 48) = ((x - 48:Nat):Int):=by rw [wr8];omega
 have w2:IntKind.i64.wrap ((x - 48:Nat):Int) = ((x - 48:Nat):Int):=Go.Ev.w64 (by omega) (by omega)
 have w3:IntKind.i64.wrap (10 * (n:Int)) = ((10 * n:Nat):Int):=by rw [Go.Ev.w64 (by omega) (by omega)];omega
 have w4:IntKind.i64.wrap (((10 * n:Nat):Int) + ((x - 48:Nat):Int)) = ((10 * n + (x - 48):Nat):Int):=by rw [Go.Ev.w64 (by omega) (by omega)];omega
 have w5:IntKind.i64.wrap ((k:Int) + 1) = ((k + 1:Nat):Int):=by rw [Go.Ev.w64 (by omega) (by omega)];omega
 generalize hn':10 * n + (x - 48) = n' at *
 have hst2:=stB hg2 (decide ((1099511627776:Int) < (n':Int)))
 repeat (first|(apply Zh;exact rfl)|apply Zc|apply WO.nil|(apply WO.op;(focus (simp only [rQ,Zb,li,lo,reduceIte,Nat.reduceEqDiff,Nat.reduceAdd,beq_self_eq_true,q1,q2,q3];done));simp only [rE,rS,li,lo,reduceIte,Nat.reduceEqDiff,Nat.reduceAdd,Nat.reduceMul,ZC,ZA,Za ZE,Za YD,Ye,hpc,hlr,t0,t4,q1,hix,q2,q3];exact rfl;exact rfl)|(apply WO.unwanted;(focus (simp only [rQ,Zb,li,lo,reduceIte,Nat.reduceEqDiff,Nat.reduceAdd,beq_self_eq_true,q1,q2,q3];done));exact rfl))
 (first|(apply WF.condT;(focus (simp only [Zg,Zd,Tri.gp,Zn,Bool.not_true,Bool.not_false,reduceIte,Nat.reduceEqDiff];done)))|(apply WF.condF;(focus (simp only [Zg,Zd,Tri.gp,Zn,Bool.not_true,Bool.not_false,reduceIte,Nat.reduceEqDiff];done))))
 repeat (first|(apply Zh;exact rfl)|apply Zc|apply WO.nil|(apply WO.op;(focus (simp only [rQ,Zb,li,lo,reduceIte,Nat.reduceEqDiff,Nat.reduceAdd,beq_self_eq_true];done));simp only [rE,rQ,li,lo,reduceIte,Nat.reduceEqDiff,Nat.reduceAdd,Nat.reduceMul,AH.set,ZC,ZA,Za ZE,Za YD,Ye,hpc,hlr,t0,t3,t4,hix,Y0,und5,und2,w1,w2,w3,w4,w5,hst2];exact rfl;exact rfl)|(apply WO.unwanted;(focus (simp only [rQ,Zb,li,lo,reduceIte,Nat.reduceEqDiff,Nat.reduceAdd,beq_self_eq_true];done));exact rfl))
 refine Yt ?_
 refine ih (m - 1) _ _ (by omega) ⟨k + 1,n',decide ((1099511627776:Int) < (n':Int)),by omega,?_,?_,?_,hux.trans (Wb _ _ _ _),hp2,Wc _ _ _ _,?_⟩
 ·simp [Tri.gp,t0]
 ·simp [Tri.gp]
 ·simp [Tri.gp]
 ·by_cases hb:n' > 1099511627776
  ·rw [if_pos hb] at hnx
   exact .inl ⟨decide_eq_true (by omega),hnx⟩
  ·rw [if_neg hb] at hnx
   exact .inr ⟨decide_eq_false (by omega),rfl,hnx⟩
end Go.Ev.C
end
section
namespace Go.Ev.C
open Go.Proofs Go.RowKit Go.Fmt
abbrev vDrops:List Nat:=[32,100,114,111,112,115,32]
abbrev vTime:List Nat:=[32,116,105,109,101,32]
abbrev vId:List Nat:=[32,105,100,32]
abbrev vBytes:List Nat:=[32,98,121,116,101,115,32]
/-- A number with a word behind it. -/
def numW (w s:List Nat):Option (Nat × List Nat):=(WH 0 0 s).bind fun q =>(ZX w q.2).map fun r =>(q.1,r)
theorem wordS_none (b:Nat) (w:List Nat):ZX (b :: w) [] = none:=by
 unfold ZX
 rw [if_neg (by simp)]
theorem Wj (b:Nat) (w:List Nat) (x:Nat) (s:List Nat):ZX (b :: w) (x :: s) = if x = b then ZX w s else none:=by
 unfold ZX
 simp only [List.length_cons,List.take_succ_cons,List.drop_succ_cons,List.cons.injEq]
 by_cases h:x = b
 ·rw [if_pos h]
  by_cases h2:s.take w.length = w
  ·rw [if_pos ⟨h,h2⟩,if_pos h2]
  ·rw [if_neg (fun e =>h2 e.2),if_neg h2]
 ·rw [if_neg h,if_neg (fun e =>h e.1)]
theorem numW_dec (b:Nat) (w s:List Nat):numW (b :: w) s = (Wp 0 b s).bind fun q =>(ZX w q.2).map fun r =>(q.1,r):=by
 unfold numW Wp
 cases e:WH 0 0 s with
 | none =>rfl
 | some q =>
  obtain⟨n,r⟩:=q
  cases r with
  | nil =>rw [Option.bind_some,wordS_none];rfl
  | cons x r =>
   rw [Option.bind_some,Wj]
   show _ = (if x = b∧0≤n then some (n,r) else none).bind _
   by_cases h:x = b
   ·rw [if_pos h,if_pos ⟨h,Nat.zero_le _⟩]
    rfl
   ·rw [if_neg h,if_neg (fun e =>h e.1)]
    rfl
theorem decS_one (b:Nat) (s:List Nat):Wp 1 b s = (Wp 0 b s).bind fun q =>if 1≤q.1 then some q else none:=by
 unfold Wp
 cases e:WH 0 0 s with
 | none =>rfl
 | some q =>
  obtain⟨n,r⟩:=q
  cases r with
  | nil =>rfl
  | cons x r =>
   show (if x = b∧1≤n then some (n,r) else none) = (if x = b∧0≤n then some (n,r) else none).bind _
   by_cases h:x = b
   ·rw [if_pos (c:=x = b∧0≤n) ⟨h,Nat.zero_le _⟩,Option.bind_some]
    by_cases h1:1≤n
    ·rw [if_pos ⟨h,h1⟩,if_pos h1]
    ·rw [if_neg (fun e =>h1 e.2),if_neg h1]
   ·rw [if_neg (fun e =>h e.1),if_neg (fun e =>h e.1)]
    rfl
theorem numW_ten (s:List Nat):numW [10] s = Wp 0 10 s:=by
 rw [numW_dec]
 cases Wp 0 10 s <;> rfl
def refD (c:Nat) (s:List Nat):Option (Sh × List Nat):=(ZX vDrops s).bind fun s =>(numW [10] s).bind fun d =>if 1≤d.1 then some (⟨c,0,0,[],d.1⟩,d.2) else none
def refT (c:Nat) (s:List Nat):Option (Sh × List Nat):=(ZX vTime s).bind fun s =>(numW vId s).bind fun t =>(numW vBytes t.2).bind fun i =>(numW [10] i.2).bind fun n =>
 if 1≤i.1∧n.1≤n.2.length then (ZX [10] (n.2.drop n.1)).map fun r =>(⟨c,t.1,i.1,n.2.take n.1,0⟩,r) else none
/-- A part, in the reference's order. -/
def refP (s:List Nat):Option (Sh × List Nat):=(ZX wCpu s).bind fun s =>(WH 0 0 s).bind fun c =>if isW vDrops (some c.2) then refD c.1 c.2 else refT c.1 c.2
theorem refD_eq (c:Nat) (s:List Nat):refD c (32 :: s) = prtD c s:=by
 unfold refD prtD
 rw [Wj,if_pos rfl]
 cases ZX [100,114,111,112,115,32] s with
 | none =>rfl
 | some r =>
  rw [Option.bind_some,Option.bind_some,numW_ten,decS_one]
  cases Wp 0 10 r with
  | none =>rfl
  | some q =>
   show (if 1≤q.1 then _ else _) = Option.map _ (if 1≤q.1 then some q else none)
   split <;> rfl
theorem refT_eq (c:Nat) (s:List Nat):refT c (32 :: s) = prtT c s:=by
 unfold refT prtT
 rw [Wj,if_pos rfl]
 cases ZX [116,105,109,101,32] s with
 | none =>rfl
 | some r =>
  rw [Option.bind_some,Option.bind_some,numW_dec]
  cases Wp 0 32 r with
  | none =>rfl
  | some t =>
   rw [Option.bind_some,Option.bind_some]
   cases ZX [105,100,32] t.2 with
   | none =>rfl
   | some r2 =>
    rw [Option.map_some,Option.bind_some,Option.bind_some,numW_dec,decS_one]
    dsimp only
    cases Wp 0 32 r2 with
    | none =>rfl
    | some i =>
     rw [Option.bind_some,Option.bind_some]
     cases h3:ZX [98,121,116,101,115,32] i.2 with
     | none =>
      split
      ·rw [Option.bind_some,h3]
       rfl
      ·rfl
     | some r3 =>
      rw [Option.map_some,Option.bind_some]
      dsimp only
      rw [numW_ten]
      by_cases hi:1≤i.1
      ·rw [if_pos hi,Option.bind_some,h3,Option.bind_some]
       cases Wp 0 10 r3 with
       | none =>rfl
       | some n =>
        rw [Option.bind_some,Option.bind_some]
        by_cases hn:n.1≤n.2.length
        ·rw [if_pos ⟨hi,hn⟩,if_pos hn]
        ·rw [if_neg (fun e =>hn e.2),if_neg hn]
      ·rw [if_neg hi]
       cases Wp 0 10 r3 with
       | none =>rfl
       | some n =>
        rw [Option.bind_some,if_neg (fun e =>hi e.1)]
        rfl
theorem refT_no {c:Nat} {s:List Nat} (h:ZX vTime s = none):refT c s = none:=by
 unfold refT
 rw [h]
 rfl
theorem isW_none {w s:List Nat} (h:ZX w s = none):isW w (some s) = false:=by
 unfold isW
 rw [Option.bind_some,h]
 rfl
theorem isW_some {w s r:List Nat} (h:ZX w s = some r):isW w (some s) = true:=by
 unfold isW
 rw [Option.bind_some,h]
 rfl
theorem ref_prt (s:List Nat):refP s = prt s:=by
 unfold refP prt
 cases ZX wCpu s with
 | none =>rfl
 | some s1 =>
  rw [Option.bind_some,Option.bind_some]
  unfold Wp
  cases WH 0 0 s1 with
  | none =>rfl
  | some q =>
   obtain⟨c,r⟩:=q
   rw [Option.bind_some]
   cases r with
   | nil =>
    dsimp only
    rw [isW_none (wordS_none _ _),refT_no (wordS_none _ _)]
    rfl
   | cons x r =>
    dsimp only
    show _ = (if x = 32∧0≤c then some (c,r) else none).bind _
    by_cases hx:x = 32
    ·subst hx
     rw [if_pos (c:=32 = 32∧0≤c) ⟨rfl,Nat.zero_le _⟩,Option.bind_some]
     dsimp only
     rw [refD_eq,refT_eq]
     have hD:ZX vDrops (32 :: r) = ZX wDrops r:=by rw [Wj,if_pos rfl]
     cases hd:ZX wDrops r with
     | none =>
      rw [isW_none (hD.trans hd)]
      by_cases hh:r.head? = some 100
      ·rw [if_pos hh]
       have h1:prtD c r = none:=by
        unfold prtD
        rw [hd]
        rfl
       have h2:prtT c r = none:=by
        unfold prtT
        cases r with
        | nil =>cases hh
        | cons y r =>
         cases hh
         rw [Wj,if_neg (by decide)]
         rfl
       rw [h1]
       exact h2
      ·rw [if_neg hh]
       rfl
     | some r2 =>
      rw [isW_some (hD.trans hd)]
      have hh:r.head? = some 100:=by
       cases r with
       | nil =>rw [wordS_none] at hd;cases hd
       | cons y r =>
        rw [Wj] at hd
        split at hd
        ·rename_i e
         rw [e]
         rfl
        ·cases hd
      rw [if_pos hh]
      rfl
    ·rw [if_neg (c:=x = 32∧0≤c) (fun e =>hx e.1)]
     have h1:ZX vDrops (x :: r) = none:=by rw [Wj,if_neg hx]
     have h2:ZX vTime (x :: r) = none:=by rw [Wj,if_neg hx]
     rw [isW_none h1,refT_no h2]
     rfl
/-- The state behind drops. -/
theorem refP_D {s:List Nat} {C D:Nat} {s1 s2 s3 s4:Option (List Nat)} (h1:s1 = (some s).bind (ZX wCpu)) (h2:s2 = (numO s1).map (·.2)) (hC:∀k q,numO s1 = some (k,q)→C = k) (hW:isW vDrops s2 = true)
  (h3:s3 = isN vDrops s2) (hD:∀k q,numO s3 = some (k,q)→D = k) (h4:s4 = ((numO s3).map (·.2)).bind (ZX [10])) :
  refP s = s4.bind fun r =>if 1≤D then some (⟨C,0,0,[],D⟩,r) else none:=by
 subst h1 h2
 unfold isW at hW
 unfold isN at h3
 unfold refP
 rw [Option.bind_some] at hW h3 hC
 cases e1:ZX wCpu s with
 | none =>
  rw [e1] at hW
  cases hW
 | some r1 =>
  rw [e1] at hW h3 hC
  unfold numO at hW h3 hC
  rw [Option.bind_some] at hW h3 hC ⊢
  cases e2:WH 0 0 r1 with
  | none =>
   rw [e2] at hW
   cases hW
  | some q =>
   obtain⟨c,r2⟩:=q
   rw [e2] at hW h3 hC
   have hc:=hC _ _ rfl
   subst hc
   rw [Option.map_some,Option.bind_some] at hW h3
   cases e3:ZX vDrops r2 with
   | none =>
    rw [e3] at hW
    cases hW
   | some r3 =>
    rw [e3] at h3
    subst h3
    rw [Option.bind_some]
    dsimp only
    rw [isW_some e3,if_pos rfl]
    unfold refD numW
    rw [e3,Option.bind_some]
    subst h4
    unfold numO at hD ⊢
    rw [Option.bind_some] at hD ⊢
    cases e4:WH 0 0 r3 with
    | none =>rfl
    | some d =>
     obtain⟨d,r4⟩:=d
     have hd:=hD _ _ e4
     subst hd
     rw [Option.bind_some,Option.map_some,Option.bind_some]
     dsimp only
     cases ZX [10] r4 <;> rfl
/-- The state behind a record's text. -/
theorem refP_T {s:List Nat} {C T I N:Nat} {s1 s2 s3 s4 s5 s6 s7:Option (List Nat)} (h1:s1 = (some s).bind (ZX wCpu)) (h2:s2 = (numO s1).map (·.2)) (hC:∀k q,numO s1 = some (k,q)→C = k) (hW:isW vDrops s2 = false)
  (h3:s3 = isN vDrops s2) (h4:s4 = s3.bind (ZX vTime)) (hT:∀k q,numO s4 = some (k,q)→T = k) (h5:s5 = ((numO s4).map (·.2)).bind (ZX vId)) (hI:∀k q,numO s5 = some (k,q)→I = k)
  (h6:s6 = ((numO s5).map (·.2)).bind (ZX vBytes)) (hN:∀k q,numO s6 = some (k,q)→N = k) (h7:s7 = ((numO s6).map (·.2)).bind (ZX [10])) :
  refP s = s7.bind fun r =>if 1≤I∧N≤r.length then (ZX [10] (r.drop N)).map fun r2 =>(⟨C,T,I,r.take N,0⟩,r2) else none:=by
 have e3:s3 = s2:=by
  unfold isW at hW
  unfold isN at h3
  cases e:s2.bind (ZX vDrops) with
  | none =>rw [e] at h3;exact h3
  | some r =>rw [e] at hW;cases hW
 subst e3
 unfold refP
 subst h1 h4 h5 h6 h7
 rw [Option.bind_some] at h2 hC
 cases e1:ZX wCpu s with
 | none =>
  rw [e1] at h2
  subst h2
  rfl
 | some r1 =>
  rw [e1] at h2 hC
  unfold numO at h2 hC
  rw [Option.bind_some] at h2 hC ⊢
  cases e2:WH 0 0 r1 with
  | none =>
   rw [e2] at h2
   subst h2
   rfl
  | some q =>
   obtain⟨c,r2⟩:=q
   rw [e2,Option.map_some] at h2
   have hc:=hC _ _ e2
   subst hc h2
   rw [Option.bind_some,Option.bind_some]
   rw [Option.bind_some] at hT hI hN
   dsimp only
   rw [hW,if_neg (by decide)]
   unfold refT
   cases e3:ZX vTime r2 with
   | none =>rfl
   | some r3 =>
    rw [e3] at hT hI hN
    rw [Option.bind_some]
    unfold numW
    unfold numO at hT hI hN ⊢
    rw [Option.bind_some] at hT hI hN ⊢
    cases e4:WH 0 0 r3 with
    | none =>rfl
    | some t =>
     obtain⟨t,r4⟩:=t
     have ht:=hT _ _ e4
     subst ht
     rw [e4,Option.map_some,Option.bind_some] at hI hN
     rw [Option.map_some,Option.bind_some,Option.bind_some]
     dsimp only at hI hN ⊢
     cases e5:ZX vId r4 with
     | none =>rfl
     | some r5 =>
      rw [e5,Option.bind_some] at hI hN
      rw [Option.map_some,Option.bind_some,Option.bind_some]
      dsimp only
      cases e6:WH 0 0 r5 with
      | none =>rfl
      | some i =>
       obtain⟨i,r6⟩:=i
       have hi:=hI _ _ e6
       subst hi
       rw [e6,Option.map_some,Option.bind_some] at hN
       rw [Option.map_some,Option.bind_some,Option.bind_some]
       dsimp only at hN ⊢
       cases e7:ZX vBytes r6 with
       | none =>rfl
       | some r7 =>
        rw [e7,Option.bind_some] at hN
        rw [Option.map_some,Option.bind_some,Option.bind_some]
        dsimp only
        cases e8:WH 0 0 r7 with
        | none =>rfl
        | some n =>
         obtain⟨n,r8⟩:=n
         have hn:=hN _ _ e8
         subst hn
         rw [Option.map_some,Option.bind_some,Option.bind_some]
         dsimp only
         cases ZX [10] r8 <;> rfl
end Go.Ev.C
end
section
namespace Go.Ev.C
open Go.Proofs Go.RowKit Go.Fmt
set_option maxRecDepth 100000
set_option linter.unusedSimpArgs false
variable {L:World→Prop} [Yu Q L]
theorem Y8:X1 ⟨#[32,100,114,111,112,115,32]⟩ = vDrops:=rfl
theorem Y6:X1 ⟨#[32,116,105,109,101,32]⟩ = vTime:=rfl
theorem Y7:X1 ⟨#[32,105,100,32]⟩ = vId:=rfl
theorem Y9:X1 ⟨#[32,98,121,116,101,115,32]⟩ = vBytes:=rfl
def setSh (H:AH) (b:Nat) (d:Sh):AH:=⟨H.t.put b (some (.cells 106 (WD d) 0 false false)),H.next⟩
/-- The heap while the reference reads a part: the reader p, the result's box, the part's box. -/
structure Pt (Hs:AH) (p g0 g3:Nat) (x:Sh) (st:Option (List Nat)) (H:AH):Prop where
 up:Y2 p Hs H
 g:H.t.get g0 = some (.cells 106 [.int .i64 0,.int .i64 0,.int .i64 0,.str [],.int .i64 0] 0 false false)
 gx:H.t.get g3 = some (.cells 106 (WD x) 0 false false)
 lp:p < Hs.next
 l0:Hs.next≤g0
 l3:g0 < g3
 ln:g3 < H.next
 rd:RdS H p st
theorem Pt.step {Hs H H':AH} {p g0 g3:Nat} {x:Sh} {st st':Option (List Nat)} (h:Pt Hs p g0 g3 x st H) (u:Y2 p H H') (r:RdS H' p st'):Pt Hs p g0 g3 x st' H':=by
 obtain⟨h1,h2,h3,h4,h5,h6,h7,h8⟩:=h
 exact⟨h1.trans u,by rw [u.old g0 (by omega) (by omega)];exact h2,by rw [u.old g3 (by omega) (by omega)];exact h3,h4,h5,h6,Nat.lt_of_lt_of_le h7 u.next,r⟩
theorem Pt.set {Hs H:AH} {p g0 g3:Nat} {x:Sh} {st:Option (List Nat)} (h:Pt Hs p g0 g3 x st H) (x':Sh):Pt Hs p g0 g3 x' st (setSh H g3 x'):=by
 obtain⟨h1,h2,h3,h4,h5,h6,h7,h8⟩:=h
 refine⟨h1.st (by omega) _,?_,?_,h4,h5,h6,h7,h8.put (by omega) _⟩
 ·show (Tri.put _ _ _).get _ = _
  rw [Tri.gp,if_neg (by omega)]
  exact h2
 ·show (Tri.put _ _ _).get _ = _
  rw [Tri.gp,if_pos rfl]
theorem Pt.cells {Hs H:AH} {p g0 g3:Nat} {x:Sh} {st:Option (List Nat)} (h:Pt Hs p g0 g3 x st H):H.cellsAt g3 = some (WD x):=Z5 h.gx
theorem Pt.s1 {Hs H:AH} {p g0 g3:Nat} {c t i e:Nat} {u:List Nat} {st:Option (List Nat)} (h:Pt Hs p g0 g3 ⟨c,t,i,u,e⟩ st H) (d:Nat):Zr Q 2 g3 1 (.int .i64 (d:Int)) H = some (setSh H g3 ⟨c,d,i,u,e⟩) :=
 Z7 (n:=1) (x:=[.int .i64 (d:Int)]) h.gx sz2 rfl rfl rfl (by simp [WD])
theorem Pt.s2 {Hs H:AH} {p g0 g3:Nat} {c t i e:Nat} {u:List Nat} {st:Option (List Nat)} (h:Pt Hs p g0 g3 ⟨c,t,i,u,e⟩ st H) (d:Nat):Zr Q 3 g3 2 (.int .i64 (d:Int)) H = some (setSh H g3 ⟨c,t,d,u,e⟩) :=
 Z7 (n:=1) (x:=[.int .i64 (d:Int)]) h.gx sz3 rfl rfl rfl (by simp [WD])
theorem Pt.s3 {Hs H:AH} {p g0 g3:Nat} {c t i e:Nat} {u:List Nat} {st:Option (List Nat)} (h:Pt Hs p g0 g3 ⟨c,t,i,u,e⟩ st H) (d:List Nat):Zr Q 9 g3 3 (.str d) H = some (setSh H g3 ⟨c,t,i,d,e⟩) :=
 Z7 (n:=1) (x:=[.str d]) h.gx sz9 rfl rfl rfl (by simp [WD])
theorem Pt.s4 {Hs H:AH} {p g0 g3:Nat} {c t i e:Nat} {u:List Nat} {st:Option (List Nat)} (h:Pt Hs p g0 g3 ⟨c,t,i,u,e⟩ st H) (d:Nat):Zr Q 3 g3 4 (.int .i64 (d:Int)) H = some (setSh H g3 ⟨c,t,i,u,d⟩) :=
 Z7 (n:=1) (x:=[.int .i64 (d:Int)]) h.gx sz3 rfl rfl rfl (by simp [WD])
def finPt (H:AH) (g0:Nat) (x:Sh):AH:=⟨H.t.put g0 (some (.cells 106 (WD x) 0 false false)),H.next⟩
theorem Pt.fin {Hs H:AH} {p g0 g3:Nat} {x:Sh} {st:Option (List Nat)} (h:Pt Hs p g0 g3 x st H):Zr Q 106 g0 0 (.agg (WD x)) H = some (finPt H g0 x) :=
 Z7 (n:=5) (x:=WD x) h.g ZV rfl rfl (shC_one x) (Nat.le_refl _)
theorem Wn (H:AH) (g0:Nat) (x:Sh):(finPt H g0 x).cellsAt g0 = some (WD x):=Z5 (by unfold finPt;show (Tri.put _ _ _).get _ = _;rw [Tri.gp,if_pos rfl])
def PartQ (p:Nat) (s:List Nat) (H:AH) (w:AV) (H':AH):Prop:=∃x,w = .agg (WD x)∧Y2 p H H'∧RdS H' p ((prt s).map (·.2))∧∀q,prt s = some q→x = q.1
theorem Pt.post {Hs H:AH} {p g0 g3:Nat} {x:Sh} {st:Option (List Nat)} {s:List Nat} (h:Pt Hs p g0 g3 x st H) (he:st = (refP s).map (·.2)) (hx:∀q,refP s = some q→x = q.1):PartQ p s Hs (.agg (WD x)) (finPt H g0 x):=by
 rw [ref_prt] at he hx
 obtain⟨h1,h2,h3,h4,h5,h6,h7,h8⟩:=h
 subst he
 exact⟨x,rfl,h1.st h5 _,h8.put (by omega) _,hx⟩
theorem Y5 (d:Sh):(WD d)[2]? = some (.int .i64 (d.id:Int)):=rfl
theorem Y4 (d:Sh):(WD d)[4]? = some (.int .i64 (d.dr:Int)):=rfl
theorem Xu (r:List Nat):Wq Q .len [9] [.str r] = some (.int .i64 (r.length:Int)):=by kernel_rfl
set_option maxHeartbeats 16000000 in
theorem part55_c (H:AH) (p:Nat) (s:List Nat) (h:RdS H p (some s)):Fn Q L 55 [.ptr p 0] H (PartQ p s H):=by
 refine Fn.intro (en55 _) ?_
 have hpl:=h.lt
 unfold c55 Tryz.f55
 simp only [Option.getD_some]
 have z1:Up H ⟨H.t.put H.next (some (.cells 106 [.int .i64 0,.int .i64 0,.int .i64 0,.str [],.int .i64 0] 0 false false)),H.next + 1⟩:=Up.box H _
 have g1:(AH.mk (H.t.put H.next (some (.cells 106 [.int .i64 0,.int .i64 0,.int .i64 0,.str [],.int .i64 0] 0 false false))) (H.next + 1)).t.get H.next = some (.cells 106 [.int .i64 0,.int .i64 0,.int .i64 0,.str [],.int .i64 0] 0 false false):=by show (Tri.put _ _ _).get _ = _;rw [Tri.gp,if_pos rfl]
 have n1:(AH.mk (H.t.put H.next (some (.cells 106 [.int .i64 0,.int .i64 0,.int .i64 0,.str [],.int .i64 0] 0 false false))) (H.next + 1)).next = H.next + 1:=rfl
 repeat (first|(apply Zh;exact rfl)|apply Zc|apply WO.nil|(apply WO.op;(focus (simp only [rQ,Zb,li,lo,reduceIte,Nat.reduceEqDiff,Nat.reduceAdd,beq_self_eq_true];done));simp only [rE,rS,li,lo,reduceIte,Nat.reduceEqDiff,Nat.reduceAdd,Nat.reduceMul,ZZ,ZV,Wf,We,XY,Yp,Y8,Y6,Y7,Y9,Yo,Ya,Z9,Z6,Z8,ZC,ZA,Za ZE,Za YD,Za Zu,Y5,Y4,Ye,Xu];exact rfl;exact rfl)|(apply WO.unwanted;(focus (simp only [rQ,Zb,li,lo,reduceIte,Nat.reduceEqDiff,Nat.reduceAdd,beq_self_eq_true];done));exact rfl))
 generalize (⟨H.t.put H.next (some (.cells 106 [.int .i64 0,.int .i64 0,.int .i64 0,.str [],.int .i64 0] 0 false false)),H.next + 1⟩:AH) = H1 at *
 (apply WO.call;(focus (simp only [rQ,Zb,li,lo,reduceIte,Nat.reduceEqDiff,Nat.reduceAdd,beq_self_eq_true];done));simp only [rE,rS,li,lo,reduceIte,Nat.reduceEqDiff,Nat.reduceAdd,Nat.reduceMul,ZZ,ZV,Wf,We,XY,Yp,Y8,Y6,Y7,Y9,Yo,Ya,Z9,Z6,Z8,ZC,ZA,Za ZE,Za YD,Za Zu,Y5,Y4,Ye,Xu];exact rfl;exact must97_c H1 p wCpu _ (h.up z1);rintro _ H2 ⟨u2,r2⟩;refine⟨_,rfl,?_⟩)
 repeat (first|(apply Zh;exact rfl)|apply Zc|apply WO.nil|(apply WO.op;(focus (simp only [rQ,Zb,li,lo,reduceIte,Nat.reduceEqDiff,Nat.reduceAdd,beq_self_eq_true];done));simp only [rE,rS,li,lo,reduceIte,Nat.reduceEqDiff,Nat.reduceAdd,Nat.reduceMul,ZZ,ZV,Wf,We,XY,Yp,Y8,Y6,Y7,Y9,Yo,Ya,Z9,Z6,Z8,ZC,ZA,Za ZE,Za YD,Za Zu,Y5,Y4,Ye,Xu];exact rfl;exact rfl)|(apply WO.unwanted;(focus (simp only [rQ,Zb,li,lo,reduceIte,Nat.reduceEqDiff,Nat.reduceAdd,beq_self_eq_true];done));exact rfl))
 (apply WO.call;(focus (simp only [rQ,Zb,li,lo,reduceIte,Nat.reduceEqDiff,Nat.reduceAdd,beq_self_eq_true];done));simp only [rE,rS,li,lo,reduceIte,Nat.reduceEqDiff,Nat.reduceAdd,Nat.reduceMul,ZZ,ZV,Wf,We,XY,Yp,Y8,Y6,Y7,Y9,Yo,Ya,Z9,Z6,Z8,ZC,ZA,Za ZE,Za YD,Za Zu,Y5,Y4,Ye,Xu];exact rfl;exact number98_c H2 p _ r2;rintro _ H3 ⟨C,rfl,hCl,u3,r3,hC⟩;refine⟨_,rfl,?_⟩)
 have x3:=u2.trans u3
 have n3:=x3.next
 have hst3:=st_new (H:=H3) (e:=106) (z:=[.int .i64 0,.int .i64 0,.int .i64 0,.str [],.int .i64 0]) (x:=[.int .i64 (C:Int),.int .i64 0,.int .i64 0,.str [],.int .i64 0]) (v:=.agg [.int .i64 (C:Int),.int .i64 0,.int .i64 0,.str [],.int .i64 0]) ZV rfl rfl rfl rfl
 repeat (first|(apply Zh;exact rfl)|apply Zc|apply WO.nil|(apply WO.op;(focus (simp only [rQ,Zb,li,lo,reduceIte,Nat.reduceEqDiff,Nat.reduceAdd,beq_self_eq_true];done));simp only [rE,rQ,li,lo,reduceIte,Nat.reduceEqDiff,Nat.reduceAdd,Nat.reduceMul,AH.set,ZZ,ZV,Wf,We,XY,Yp,Y8,Y6,Y7,Y9,Yo,Ya,Z9,Z6,Z8,ZC,ZA,Za ZE,Za YD,Za Zu,Y5,Y4,Ye,Xu,Zs,bu106,hst3];exact rfl;exact rfl)|(apply WO.unwanted;(focus (simp only [rQ,Zb,li,lo,reduceIte,Nat.reduceEqDiff,Nat.reduceAdd,beq_self_eq_true];done));exact rfl))
 have z4:Up H3 ⟨(H3.t.put H3.next (some (.cells 106 [.int .i64 0,.int .i64 0,.int .i64 0,.str [],.int .i64 0] 0 false false))).put H3.next (some (.cells 106 [.int .i64 (C:Int),.int .i64 0,.int .i64 0,.str [],.int .i64 0] 0 false false)),H3.next + 1⟩:=WV H3 _ _
 have p4:Pt H p H.next H3.next ⟨C,0,0,[],0⟩ ((numO ((some s).bind (ZX wCpu))).map (·.2)) ⟨(H3.t.put H3.next (some (.cells 106 [.int .i64 0,.int .i64 0,.int .i64 0,.str [],.int .i64 0] 0 false false))).put H3.next (some (.cells 106 [.int .i64 (C:Int),.int .i64 0,.int .i64 0,.str [],.int .i64 0] 0 false false)),H3.next + 1⟩:=by
  refine⟨((Y2.of z1).trans x3).trans (Y2.of z4),?_,?_,hpl,Nat.le_refl _,by omega,Nat.lt_succ_self _,r3.up z4⟩
  ·rw [z4.old _ (by omega),x3.old _ (by omega) (by omega)]
   exact g1
  ·show (Tri.put _ _ _).get _ = _
   rw [Tri.gp,if_pos rfl]
   rfl
 generalize (⟨(H3.t.put H3.next (some (.cells 106 [.int .i64 0,.int .i64 0,.int .i64 0,.str [],.int .i64 0] 0 false false))).put H3.next (some (.cells 106 [.int .i64 (C:Int),.int .i64 0,.int .i64 0,.str [],.int .i64 0] 0 false false)),H3.next + 1⟩:AH) = H4 at *
 clear z4 hst3 u2 u3 x3 r2 r3 z1 g1
 generalize hg3:H3.next = g at *
 generalize hg0:H.next = g0 at *
 clear hg3 hg0 n3 n1
 (apply WO.call;(focus (simp only [rQ,Zb,li,lo,reduceIte,Nat.reduceEqDiff,Nat.reduceAdd,beq_self_eq_true];done));simp only [rE,rS,li,lo,reduceIte,Nat.reduceEqDiff,Nat.reduceAdd,Nat.reduceMul,ZZ,ZV,Wf,We,XY,Yp,Y8,Y6,Y7,Y9,Yo,Ya,Z9,Z6,Z8,ZC,ZA,Za ZE,Za YD,Za Zu,Y5,Y4,Ye,Xu];exact rfl;exact is99_c H4 p vDrops _ p4.rd;rintro _ H5 ⟨rfl,u5,r5⟩;refine⟨_,rfl,?_⟩)
 have p5:=p4.step u5 r5
 repeat (first | (apply Zh;exact rfl) | apply Zc | apply WO.nil | (apply Zl;exact rfl;simp only [rE,rS,li,lo,reduceIte,Nat.reduceEqDiff,Nat.reduceAdd,Nat.reduceMul];exact rfl;exact rfl))
 cases hW:isW vDrops ((numO ((some s).bind (ZX wCpu))).map (·.2))
 rotate_left
 ·(first|(apply WF.condT;(focus (simp only [Zg,Zd,Tri.gp,Zn,Bool.not_true,Bool.not_false,reduceIte,Nat.reduceEqDiff,hW];done)))|(apply WF.condF;(focus (simp only [Zg,Zd,Tri.gp,Zn,Bool.not_true,Bool.not_false,reduceIte,Nat.reduceEqDiff,hW];done))))
  repeat (first|(apply Zh;exact rfl)|apply Zc|apply WO.nil|(apply WO.op;(focus (simp only [rQ,Zb,li,lo,reduceIte,Nat.reduceEqDiff,Nat.reduceAdd,beq_self_eq_true];done));simp only [rE,rS,li,lo,reduceIte,Nat.reduceEqDiff,Nat.reduceAdd,Nat.reduceMul,ZZ,ZV,Wf,We,XY,Yp,Y8,Y6,Y7,Y9,Yo,Ya,Z9,Z6,Z8,ZC,ZA,Za ZE,Za YD,Za Zu,Y5,Y4,Ye,Xu];exact rfl;exact rfl)|(apply WO.unwanted;(focus (simp only [rQ,Zb,li,lo,reduceIte,Nat.reduceEqDiff,Nat.reduceAdd,beq_self_eq_true];done));exact rfl))
  (apply WO.call;(focus (simp only [rQ,Zb,li,lo,reduceIte,Nat.reduceEqDiff,Nat.reduceAdd,beq_self_eq_true];done));simp only [rE,rS,li,lo,reduceIte,Nat.reduceEqDiff,Nat.reduceAdd,Nat.reduceMul,ZZ,ZV,Wf,We,XY,Yp,Y8,Y6,Y7,Y9,Yo,Ya,Z9,Z6,Z8,ZC,ZA,Za ZE,Za YD,Za Zu,Y5,Y4,Ye,Xu];exact rfl;exact number98_c H5 p _ p5.rd;rintro _ H6 ⟨D,rfl,hDl,u6,r6,hD⟩;refine⟨_,rfl,?_⟩)
  have p6:=p5.step u6 r6
  have hst6:=p6.s4 D
  repeat (first|(apply Zh;exact rfl)|apply Zc|apply WO.nil|(apply WO.op;(focus (simp only [rQ,Zb,li,lo,reduceIte,Nat.reduceEqDiff,Nat.reduceAdd,beq_self_eq_true];done));simp only [rE,rQ,li,lo,reduceIte,Nat.reduceEqDiff,Nat.reduceAdd,Nat.reduceMul,AH.set,ZZ,ZV,Wf,We,XY,Yp,Y8,Y6,Y7,Y9,Yo,Ya,Z9,Z6,Z8,ZC,ZA,Za ZE,Za YD,Za Zu,Y5,Y4,Ye,Xu,hst6];exact rfl;exact rfl)|(apply WO.unwanted;(focus (simp only [rQ,Zb,li,lo,reduceIte,Nat.reduceEqDiff,Nat.reduceAdd,beq_self_eq_true];done));exact rfl))
  have p7:=p6.set ⟨C,0,0,[],D⟩
  generalize setSh H6 g ⟨C,0,0,[],D⟩ = H7 at *
  (apply WO.call;(focus (simp only [rQ,Zb,li,lo,reduceIte,Nat.reduceEqDiff,Nat.reduceAdd,beq_self_eq_true];done));simp only [rE,rS,li,lo,reduceIte,Nat.reduceEqDiff,Nat.reduceAdd,Nat.reduceMul,ZZ,ZV,Wf,We,XY,Yp,Y8,Y6,Y7,Y9,Yo,Ya,Z9,Z6,Z8,ZC,ZA,Za ZE,Za YD,Za Zu,Y5,Y4,Ye,Xu];exact rfl;exact must97_c H7 p _ _ p7.rd;rintro _ H8 ⟨u8,r8⟩;refine⟨_,rfl,?_⟩)
  have p8:=p7.step u8 r8
  have hR:=refP_D (s:=s) rfl rfl hC hW rfl hD rfl
  obtain⟨r,b,hg8,hp8,hl8,h88,hst8⟩:=p8.rd
  have hpc8:=Z5 hg8
  have hc8:=p8.cells
  rcases hst8 with ⟨rfl,e8⟩ | ⟨rfl,e8⟩
  ·rw [e8,Option.bind_some] at hR
   by_cases hD1:1≤D
   ·have q1:decide ((D:Int) < 1) = false:=decide_eq_false (by omega)
    rw [if_pos hD1] at hR
    have hst9:=stB hg8 false
    have p9:=p8.step (Wb H8 p r false) ⟨r,false,Wc _ _ _ _,hp8,hl8,h88,.inl ⟨rfl,rfl⟩⟩
    have hst10:=p9.fin
    repeat (first|(apply Zh;exact rfl)|apply Zc|apply WO.nil|(apply WO.op;(focus (simp only [rQ,Zb,li,lo,reduceIte,Nat.reduceEqDiff,Nat.reduceAdd,beq_self_eq_true,q1];done));simp only [rE,rQ,li,lo,reduceIte,Nat.reduceEqDiff,Nat.reduceAdd,Nat.reduceMul,AH.set,ZZ,ZV,Wf,We,XY,Yp,Y8,Y6,Y7,Y9,Yo,Ya,Z9,Z6,Z8,ZC,ZA,Za ZE,Za YD,Za Zu,Y5,Y4,Ye,Xu,Ze Xc ZV,YX,hpc8,hc8,p9.cells,q1,hst9,hst10];exact rfl;exact rfl)|(apply WO.unwanted;(focus (simp only [rQ,Zb,li,lo,reduceIte,Nat.reduceEqDiff,Nat.reduceAdd,beq_self_eq_true,q1];done));exact rfl))
    (apply WF.ret;(focus (simp only [Zi,Tri.gp,Zn,ZL,reduceIte,Nat.reduceEqDiff,rs55,Ze Xc ZV,YX,Wn];exact rfl)))
    exact p9.post (by rw [hR];rfl) (fun q e =>by rw [hR] at e;cases e;rfl)
   ·have q1:decide ((D:Int) < 1) = true:=decide_eq_true (by omega)
    rw [if_neg hD1] at hR
    have hst9:=stB hg8 true
    have p9:=p8.step (Wb H8 p r true) ⟨r,true,Wc _ _ _ _,hp8,hl8,h88,.inr ⟨rfl,rfl⟩⟩
    have hst10:=p9.fin
    repeat (first|(apply Zh;exact rfl)|apply Zc|apply WO.nil|(apply WO.op;(focus (simp only [rQ,Zb,li,lo,reduceIte,Nat.reduceEqDiff,Nat.reduceAdd,beq_self_eq_true,q1];done));simp only [rE,rQ,li,lo,reduceIte,Nat.reduceEqDiff,Nat.reduceAdd,Nat.reduceMul,AH.set,ZZ,ZV,Wf,We,XY,Yp,Y8,Y6,Y7,Y9,Yo,Ya,Z9,Z6,Z8,ZC,ZA,Za ZE,Za YD,Za Zu,Y5,Y4,Ye,Xu,Ze Xc ZV,YX,hpc8,hc8,p9.cells,q1,hst9,hst10];exact rfl;exact rfl)|(apply WO.unwanted;(focus (simp only [rQ,Zb,li,lo,reduceIte,Nat.reduceEqDiff,Nat.reduceAdd,beq_self_eq_true,q1];done));exact rfl))
    (apply WF.ret;(focus (simp only [Zi,Tri.gp,Zn,ZL,reduceIte,Nat.reduceEqDiff,rs55,Ze Xc ZV,YX,Wn];exact rfl)))
    exact p9.post (by rw [hR];rfl) (fun q e =>by rw [hR] at e;cases e)
  ·rw [e8,Option.bind_none] at hR
   have hst9:=stB hg8 true
   have p9:=p8.step (Wb H8 p r true) ⟨r,true,Wc _ _ _ _,hp8,hl8,h88,.inr ⟨rfl,rfl⟩⟩
   have hst10:=p9.fin
   repeat (first|(apply Zh;exact rfl)|apply Zc|apply WO.nil|(apply WO.op;(focus (simp only [rQ,Zb,li,lo,reduceIte,Nat.reduceEqDiff,Nat.reduceAdd,beq_self_eq_true];done));simp only [rE,rQ,li,lo,reduceIte,Nat.reduceEqDiff,Nat.reduceAdd,Nat.reduceMul,AH.set,ZZ,ZV,Wf,We,XY,Yp,Y8,Y6,Y7,Y9,Yo,Ya,Z9,Z6,Z8,ZC,ZA,Za ZE,Za YD,Za Zu,Y5,Y4,Ye,Xu,Ze Xc ZV,YX,hpc8,hc8,p9.cells,hst9,hst10];exact rfl;exact rfl)|(apply WO.unwanted;(focus (simp only [rQ,Zb,li,lo,reduceIte,Nat.reduceEqDiff,Nat.reduceAdd,beq_self_eq_true];done));exact rfl))
   (apply WF.ret;(focus (simp only [Zi,Tri.gp,Zn,ZL,reduceIte,Nat.reduceEqDiff,rs55,Ze Xc ZV,YX,Wn];exact rfl)))
   exact p9.post (by rw [hR];rfl) (fun q e =>by rw [hR] at e;cases e)
 (first|(apply WF.condT;(focus (simp only [Zg,Zd,Tri.gp,Zn,Bool.not_true,Bool.not_false,reduceIte,Nat.reduceEqDiff,hW];done)))|(apply WF.condF;(focus (simp only [Zg,Zd,Tri.gp,Zn,Bool.not_true,Bool.not_false,reduceIte,Nat.reduceEqDiff,hW];done))))
 repeat (first|(apply Zh;exact rfl)|apply Zc|apply WO.nil|(apply WO.op;(focus (simp only [rQ,Zb,li,lo,reduceIte,Nat.reduceEqDiff,Nat.reduceAdd,beq_self_eq_true];done));simp only [rE,rS,li,lo,reduceIte,Nat.reduceEqDiff,Nat.reduceAdd,Nat.reduceMul,ZZ,ZV,Wf,We,XY,Yp,Y8,Y6,Y7,Y9,Yo,Ya,Z9,Z6,Z8,ZC,ZA,Za ZE,Za YD,Za Zu,Y5,Y4,Ye,Xu];exact rfl;exact rfl)|(apply WO.unwanted;(focus (simp only [rQ,Zb,li,lo,reduceIte,Nat.reduceEqDiff,Nat.reduceAdd,beq_self_eq_true];done));exact rfl))
 (apply WO.call;(focus (simp only [rQ,Zb,li,lo,reduceIte,Nat.reduceEqDiff,Nat.reduceAdd,beq_self_eq_true];done));simp only [rE,rS,li,lo,reduceIte,Nat.reduceEqDiff,Nat.reduceAdd,Nat.reduceMul,ZZ,ZV,Wf,We,XY,Yp,Y8,Y6,Y7,Y9,Yo,Ya,Z9,Z6,Z8,ZC,ZA,Za ZE,Za YD,Za Zu,Y5,Y4,Ye,Xu];exact rfl;exact must97_c H5 p vTime _ p5.rd;rintro _ H6 ⟨u6,r6⟩;refine⟨_,rfl,?_⟩)
 have p6:=p5.step u6 r6
 repeat (first|(apply Zh;exact rfl)|apply Zc|apply WO.nil|(apply WO.op;(focus (simp only [rQ,Zb,li,lo,reduceIte,Nat.reduceEqDiff,Nat.reduceAdd,beq_self_eq_true];done));simp only [rE,rS,li,lo,reduceIte,Nat.reduceEqDiff,Nat.reduceAdd,Nat.reduceMul,ZZ,ZV,Wf,We,XY,Yp,Y8,Y6,Y7,Y9,Yo,Ya,Z9,Z6,Z8,ZC,ZA,Za ZE,Za YD,Za Zu,Y5,Y4,Ye,Xu];exact rfl;exact rfl)|(apply WO.unwanted;(focus (simp only [rQ,Zb,li,lo,reduceIte,Nat.reduceEqDiff,Nat.reduceAdd,beq_self_eq_true];done));exact rfl))
 (apply WO.call;(focus (simp only [rQ,Zb,li,lo,reduceIte,Nat.reduceEqDiff,Nat.reduceAdd,beq_self_eq_true];done));simp only [rE,rS,li,lo,reduceIte,Nat.reduceEqDiff,Nat.reduceAdd,Nat.reduceMul,ZZ,ZV,Wf,We,XY,Yp,Y8,Y6,Y7,Y9,Yo,Ya,Z9,Z6,Z8,ZC,ZA,Za ZE,Za YD,Za Zu,Y5,Y4,Ye,Xu];exact rfl;exact number98_c H6 p _ p6.rd;rintro _ H7 ⟨T,rfl,hTl,u7,r7,hT⟩;refine⟨_,rfl,?_⟩)
 have p7:=p6.step u7 r7
 have hst7:=p7.s1 T
 repeat (first|(apply Zh;exact rfl)|apply Zc|apply WO.nil|(apply WO.op;(focus (simp only [rQ,Zb,li,lo,reduceIte,Nat.reduceEqDiff,Nat.reduceAdd,beq_self_eq_true];done));simp only [rE,rQ,li,lo,reduceIte,Nat.reduceEqDiff,Nat.reduceAdd,Nat.reduceMul,AH.set,ZZ,ZV,Wf,We,XY,Yp,Y8,Y6,Y7,Y9,Yo,Ya,Z9,Z6,Z8,ZC,ZA,Za ZE,Za YD,Za Zu,Y5,Y4,Ye,Xu,hst7];exact rfl;exact rfl)|(apply WO.unwanted;(focus (simp only [rQ,Zb,li,lo,reduceIte,Nat.reduceEqDiff,Nat.reduceAdd,beq_self_eq_true];done));exact rfl))
 have p8:=p7.set ⟨C,T,0,[],0⟩
 generalize setSh H7 g ⟨C,T,0,[],0⟩ = H8 at *
 (apply WO.call;(focus (simp only [rQ,Zb,li,lo,reduceIte,Nat.reduceEqDiff,Nat.reduceAdd,beq_self_eq_true];done));simp only [rE,rS,li,lo,reduceIte,Nat.reduceEqDiff,Nat.reduceAdd,Nat.reduceMul,ZZ,ZV,Wf,We,XY,Yp,Y8,Y6,Y7,Y9,Yo,Ya,Z9,Z6,Z8,ZC,ZA,Za ZE,Za YD,Za Zu,Y5,Y4,Ye,Xu];exact rfl;exact must97_c H8 p vId _ p8.rd;rintro _ H9 ⟨u9,r9⟩;refine⟨_,rfl,?_⟩)
 have p9:=p8.step u9 r9
 repeat (first|(apply Zh;exact rfl)|apply Zc|apply WO.nil|(apply WO.op;(focus (simp only [rQ,Zb,li,lo,reduceIte,Nat.reduceEqDiff,Nat.reduceAdd,beq_self_eq_true];done));simp only [rE,rS,li,lo,reduceIte,Nat.reduceEqDiff,Nat.reduceAdd,Nat.reduceMul,ZZ,ZV,Wf,We,XY,Yp,Y8,Y6,Y7,Y9,Yo,Ya,Z9,Z6,Z8,ZC,ZA,Za ZE,Za YD,Za Zu,Y5,Y4,Ye,Xu];exact rfl;exact rfl)|(apply WO.unwanted;(focus (simp only [rQ,Zb,li,lo,reduceIte,Nat.reduceEqDiff,Nat.reduceAdd,beq_self_eq_true];done));exact rfl))
 (apply WO.call;(focus (simp only [rQ,Zb,li,lo,reduceIte,Nat.reduceEqDiff,Nat.reduceAdd,beq_self_eq_true];done));simp only [rE,rS,li,lo,reduceIte,Nat.reduceEqDiff,Nat.reduceAdd,Nat.reduceMul,ZZ,ZV,Wf,We,XY,Yp,Y8,Y6,Y7,Y9,Yo,Ya,Z9,Z6,Z8,ZC,ZA,Za ZE,Za YD,Za Zu,Y5,Y4,Ye,Xu];exact rfl;exact number98_c H9 p _ p9.rd;rintro _ Ha ⟨I,rfl,hIl,ua,ra,hI⟩;refine⟨_,rfl,?_⟩)
 have pa:=p9.step ua ra
 have hsta:=pa.s2 I
 repeat (first|(apply Zh;exact rfl)|apply Zc|apply WO.nil|(apply WO.op;(focus (simp only [rQ,Zb,li,lo,reduceIte,Nat.reduceEqDiff,Nat.reduceAdd,beq_self_eq_true];done));simp only [rE,rQ,li,lo,reduceIte,Nat.reduceEqDiff,Nat.reduceAdd,Nat.reduceMul,AH.set,ZZ,ZV,Wf,We,XY,Yp,Y8,Y6,Y7,Y9,Yo,Ya,Z9,Z6,Z8,ZC,ZA,Za ZE,Za YD,Za Zu,Y5,Y4,Ye,Xu,hsta];exact rfl;exact rfl)|(apply WO.unwanted;(focus (simp only [rQ,Zb,li,lo,reduceIte,Nat.reduceEqDiff,Nat.reduceAdd,beq_self_eq_true];done));exact rfl))
 have pb:=pa.set ⟨C,T,I,[],0⟩
 generalize setSh Ha g ⟨C,T,I,[],0⟩ = Hb at *
 (apply WO.call;(focus (simp only [rQ,Zb,li,lo,reduceIte,Nat.reduceEqDiff,Nat.reduceAdd,beq_self_eq_true];done));simp only [rE,rS,li,lo,reduceIte,Nat.reduceEqDiff,Nat.reduceAdd,Nat.reduceMul,ZZ,ZV,Wf,We,XY,Yp,Y8,Y6,Y7,Y9,Yo,Ya,Z9,Z6,Z8,ZC,ZA,Za ZE,Za YD,Za Zu,Y5,Y4,Ye,Xu];exact rfl;exact must97_c Hb p vBytes _ pb.rd;rintro _ Hc ⟨uc,rc⟩;refine⟨_,rfl,?_⟩)
 have pc:=pb.step uc rc
 repeat (first|(apply Zh;exact rfl)|apply Zc|apply WO.nil|(apply WO.op;(focus (simp only [rQ,Zb,li,lo,reduceIte,Nat.reduceEqDiff,Nat.reduceAdd,beq_self_eq_true];done));simp only [rE,rS,li,lo,reduceIte,Nat.reduceEqDiff,Nat.reduceAdd,Nat.reduceMul,ZZ,ZV,Wf,We,XY,Yp,Y8,Y6,Y7,Y9,Yo,Ya,Z9,Z6,Z8,ZC,ZA,Za ZE,Za YD,Za Zu,Y5,Y4,Ye,Xu];exact rfl;exact rfl)|(apply WO.unwanted;(focus (simp only [rQ,Zb,li,lo,reduceIte,Nat.reduceEqDiff,Nat.reduceAdd,beq_self_eq_true];done));exact rfl))
 (apply WO.call;(focus (simp only [rQ,Zb,li,lo,reduceIte,Nat.reduceEqDiff,Nat.reduceAdd,beq_self_eq_true];done));simp only [rE,rS,li,lo,reduceIte,Nat.reduceEqDiff,Nat.reduceAdd,Nat.reduceMul,ZZ,ZV,Wf,We,XY,Yp,Y8,Y6,Y7,Y9,Yo,Ya,Z9,Z6,Z8,ZC,ZA,Za ZE,Za YD,Za Zu,Y5,Y4,Ye,Xu];exact rfl;exact number98_c Hc p _ pc.rd;rintro _ Hd ⟨N,rfl,hNl,ud,rd,hN⟩;refine⟨_,rfl,?_⟩)
 have pd:=pc.step ud rd
 repeat (first|(apply Zh;exact rfl)|apply Zc|apply WO.nil|(apply WO.op;(focus (simp only [rQ,Zb,li,lo,reduceIte,Nat.reduceEqDiff,Nat.reduceAdd,beq_self_eq_true];done));simp only [rE,rS,li,lo,reduceIte,Nat.reduceEqDiff,Nat.reduceAdd,Nat.reduceMul,ZZ,ZV,Wf,We,XY,Yp,Y8,Y6,Y7,Y9,Yo,Ya,Z9,Z6,Z8,ZC,ZA,Za ZE,Za YD,Za Zu,Y5,Y4,Ye,Xu];exact rfl;exact rfl)|(apply WO.unwanted;(focus (simp only [rQ,Zb,li,lo,reduceIte,Nat.reduceEqDiff,Nat.reduceAdd,beq_self_eq_true];done));exact rfl))
 (apply WO.call;(focus (simp only [rQ,Zb,li,lo,reduceIte,Nat.reduceEqDiff,Nat.reduceAdd,beq_self_eq_true];done));simp only [rE,rS,li,lo,reduceIte,Nat.reduceEqDiff,Nat.reduceAdd,Nat.reduceMul,ZZ,ZV,Wf,We,XY,Yp,Y8,Y6,Y7,Y9,Yo,Ya,Z9,Z6,Z8,ZC,ZA,Za ZE,Za YD,Za Zu,Y5,Y4,Ye,Xu];exact rfl;exact must97_c Hd p _ _ pd.rd;rintro _ He ⟨ue,re⟩;refine⟨_,rfl,?_⟩)
 have pe:=pd.step ue re
 have hR:=refP_T (s:=s) rfl rfl hC hW rfl rfl hT rfl hI rfl hN rfl
 clear u5 r5 u6 r6 u7 r7 u9 r9 ua ra uc rc ud rd ue re p4 p5 p6 p7 p8 p9 pa pb pc pd hst7 hsta
 obtain⟨r,b,hge,hpe,hle,h8e,hste⟩:=pe.rd
 have hpc:=Z5 hge
 have hce:=pe.cells
 have hfail:refP s = none→Pt H p g0 g ⟨C,T,I,[],0⟩ ((refP s).map (·.2)) (setRd He p r true):=fun hno =>pe.step (Wb He p r true) ⟨r,true,Wc _ _ _ _,hpe,hle,h8e,.inr ⟨rfl,by rw [hno];rfl⟩⟩
 have hstf:=stB hge true
 rcases hste with ⟨rfl,ee⟩ | ⟨rfl,ee⟩
 rotate_left
 ·rw [ee,Option.bind_none] at hR
  have pf:=hfail hR
  have hstg:=pf.fin
  repeat (first|(apply Zh;exact rfl)|apply Zc|apply WO.nil|(apply WO.op;(focus (simp only [rQ,Zb,li,lo,reduceIte,Nat.reduceEqDiff,Nat.reduceAdd,beq_self_eq_true];done));simp only [rE,rS,li,lo,reduceIte,Nat.reduceEqDiff,Nat.reduceAdd,Nat.reduceMul,ZZ,ZV,Wf,We,XY,Yp,Y8,Y6,Y7,Y9,Yo,Ya,Z9,Z6,Z8,ZC,ZA,Za ZE,Za YD,Za Zu,Y5,Y4,Ye,Xu,Ze Xc ZV,YX,hpc,hce];exact rfl;exact rfl)|(apply WO.unwanted;(focus (simp only [rQ,Zb,li,lo,reduceIte,Nat.reduceEqDiff,Nat.reduceAdd,beq_self_eq_true];done));exact rfl))
  (first|(apply WF.condT;(focus (simp only [Zg,Zd,Tri.gp,Zn,Bool.not_true,Bool.not_false,reduceIte,Nat.reduceEqDiff];done)))|(apply WF.condF;(focus (simp only [Zg,Zd,Tri.gp,Zn,Bool.not_true,Bool.not_false,reduceIte,Nat.reduceEqDiff];done))))
  repeat (first|(apply Zh;exact rfl)|apply Zc|apply WO.nil|(apply WO.op;(focus (simp only [rQ,Zb,li,lo,reduceIte,Nat.reduceEqDiff,Nat.reduceAdd,beq_self_eq_true];done));simp only [rE,rQ,li,lo,reduceIte,Nat.reduceEqDiff,Nat.reduceAdd,Nat.reduceMul,AH.set,ZZ,ZV,Wf,We,XY,Yp,Y8,Y6,Y7,Y9,Yo,Ya,Z9,Z6,Z8,ZC,ZA,Za ZE,Za YD,Za Zu,Y5,Y4,Ye,Xu,Ze Xc ZV,YX,pf.cells,hstf,hstg];exact rfl;exact rfl)|(apply WO.unwanted;(focus (simp only [rQ,Zb,li,lo,reduceIte,Nat.reduceEqDiff,Nat.reduceAdd,beq_self_eq_true];done));exact rfl))
  (apply WF.ret;(focus (simp only [Zi,Tri.gp,Zn,ZL,reduceIte,Nat.reduceEqDiff,rs55,Ze Xc ZV,YX,Wn];exact rfl)))
  exact pf.post rfl (fun q e =>by rw [hR] at e;cases e)
 rw [ee,Option.bind_some] at hR
 by_cases hI1:1≤I
 rotate_left
 ·have q1:decide ((I:Int) < 1) = true:=decide_eq_true (by omega)
  rw [if_neg (fun e =>hI1 e.1)] at hR
  have pf:=hfail hR
  have hstg:=pf.fin
  repeat (first|(apply Zh;exact rfl)|apply Zc|apply WO.nil|(apply WO.op;(focus (simp only [rQ,Zb,li,lo,reduceIte,Nat.reduceEqDiff,Nat.reduceAdd,beq_self_eq_true,q1];done));simp only [rE,rS,li,lo,reduceIte,Nat.reduceEqDiff,Nat.reduceAdd,Nat.reduceMul,ZZ,ZV,Wf,We,XY,Yp,Y8,Y6,Y7,Y9,Yo,Ya,Z9,Z6,Z8,ZC,ZA,Za ZE,Za YD,Za Zu,Y5,Y4,Ye,Xu,Ze Xc ZV,YX,hpc,hce,q1];exact rfl;exact rfl)|(apply WO.unwanted;(focus (simp only [rQ,Zb,li,lo,reduceIte,Nat.reduceEqDiff,Nat.reduceAdd,beq_self_eq_true,q1];done));exact rfl))
  (first|(apply WF.condT;(focus (simp only [Zg,Zd,Tri.gp,Zn,Bool.not_true,Bool.not_false,reduceIte,Nat.reduceEqDiff,q1];done)))|(apply WF.condF;(focus (simp only [Zg,Zd,Tri.gp,Zn,Bool.not_true,Bool.not_false,reduceIte,Nat.reduceEqDiff,q1];done))))
  repeat (first|(apply Zh;exact rfl)|apply Zc|apply WO.nil|(apply WO.op;(focus (simp only [rQ,Zb,li,lo,reduceIte,Nat.reduceEqDiff,Nat.reduceAdd,beq_self_eq_true];done));simp only [rE,rQ,li,lo,reduceIte,Nat.reduceEqDiff,Nat.reduceAdd,Nat.reduceMul,AH.set,ZZ,ZV,Wf,We,XY,Yp,Y8,Y6,Y7,Y9,Yo,Ya,Z9,Z6,Z8,ZC,ZA,Za ZE,Za YD,Za Zu,Y5,Y4,Ye,Xu,Ze Xc ZV,YX,pf.cells,hstf,hstg];exact rfl;exact rfl)|(apply WO.unwanted;(focus (simp only [rQ,Zb,li,lo,reduceIte,Nat.reduceEqDiff,Nat.reduceAdd,beq_self_eq_true];done));exact rfl))
  (apply WF.ret;(focus (simp only [Zi,Tri.gp,Zn,ZL,reduceIte,Nat.reduceEqDiff,rs55,Ze Xc ZV,YX,Wn];exact rfl)))
  exact pf.post rfl (fun q e =>by rw [hR] at e;cases e)
 have q1:decide ((I:Int) < 1) = false:=decide_eq_false (by omega)
 by_cases hNr:N≤r.length
 rotate_left
 ·have q2:decide ((r.length:Int) < (N:Int)) = true:=decide_eq_true (by omega)
  rw [if_neg (fun e =>hNr e.2)] at hR
  have pf:=hfail hR
  have hstg:=pf.fin
  repeat (first|(apply Zh;exact rfl)|apply Zc|apply WO.nil|(apply WO.op;(focus (simp only [rQ,Zb,li,lo,reduceIte,Nat.reduceEqDiff,Nat.reduceAdd,beq_self_eq_true,q1,q2];done));simp only [rE,rS,li,lo,reduceIte,Nat.reduceEqDiff,Nat.reduceAdd,Nat.reduceMul,ZZ,ZV,Wf,We,XY,Yp,Y8,Y6,Y7,Y9,Yo,Ya,Z9,Z6,Z8,ZC,ZA,Za ZE,Za YD,Za Zu,Y5,Y4,Ye,Xu,Ze Xc ZV,YX,hpc,hce,q1,q2];exact rfl;exact rfl)|(apply WO.unwanted;(focus (simp only [rQ,Zb,li,lo,reduceIte,Nat.reduceEqDiff,Nat.reduceAdd,beq_self_eq_true,q1,q2];done));exact rfl))
  (first|(apply WF.condT;(focus (simp only [Zg,Zd,Tri.gp,Zn,Bool.not_true,Bool.not_false,reduceIte,Nat.reduceEqDiff,q2];done)))|(apply WF.condF;(focus (simp only [Zg,Zd,Tri.gp,Zn,Bool.not_true,Bool.not_false,reduceIte,Nat.reduceEqDiff,q2];done))))
  repeat (first|(apply Zh;exact rfl)|apply Zc|apply WO.nil|(apply WO.op;(focus (simp only [rQ,Zb,li,lo,reduceIte,Nat.reduceEqDiff,Nat.reduceAdd,beq_self_eq_true];done));simp only [rE,rQ,li,lo,reduceIte,Nat.reduceEqDiff,Nat.reduceAdd,Nat.reduceMul,AH.set,ZZ,ZV,Wf,We,XY,Yp,Y8,Y6,Y7,Y9,Yo,Ya,Z9,Z6,Z8,ZC,ZA,Za ZE,Za YD,Za Zu,Y5,Y4,Ye,Xu,Ze Xc ZV,YX,pf.cells,hstf,hstg];exact rfl;exact rfl)|(apply WO.unwanted;(focus (simp only [rQ,Zb,li,lo,reduceIte,Nat.reduceEqDiff,Nat.reduceAdd,beq_self_eq_true];done));exact rfl))
  (apply WF.ret;(focus (simp only [Zi,Tri.gp,Zn,ZL,reduceIte,Nat.reduceEqDiff,rs55,Ze Xc ZV,YX,Wn];exact rfl)))
  exact pf.post rfl (fun q e =>by rw [hR] at e;cases e)
 have q2:decide ((r.length:Int) < (N:Int)) = false:=decide_eq_false (by omega)
 rw [if_pos ⟨hI1,hNr⟩] at hR
 have hs1:=sJ_to hNr
 have hs2:=sJ_from hNr
 have hst1:=pe.s3 (r.take N)
 have pf:=pe.set ⟨C,T,I,r.take N,0⟩
 have hgf:(setSh He g ⟨C,T,I,r.take N,0⟩).t.get p = some (.cells 133 [.str r,.bool false] 0 false false):=by
  have:=pe.lp
  have:=pe.l0
  have:=pe.l3
  show (Tri.put _ _ _).get _ = _
  rw [Tri.gp,if_neg (by omega)]
  exact hge
 have hpf:=Z5 hgf
 have hst2:=stR hgf (r.drop N)
 repeat (first|(apply Zh;exact rfl)|apply Zc|apply WO.nil|(apply WO.op;(focus (simp only [rQ,Zb,li,lo,reduceIte,Nat.reduceEqDiff,Nat.reduceAdd,beq_self_eq_true,q1,q2];done));simp only [rE,rS,li,lo,reduceIte,Nat.reduceEqDiff,Nat.reduceAdd,Nat.reduceMul,ZZ,ZV,Wf,We,XY,Yp,Y8,Y6,Y7,Y9,Yo,Ya,Z9,Z6,Z8,ZC,ZA,Za ZE,Za YD,Za Zu,Y5,Y4,Ye,Xu,Ze Xc ZV,YX,hpc,hce,q1,q2];exact rfl;exact rfl)|(apply WO.unwanted;(focus (simp only [rQ,Zb,li,lo,reduceIte,Nat.reduceEqDiff,Nat.reduceAdd,beq_self_eq_true,q1,q2];done));exact rfl))
 (first|(apply WF.condT;(focus (simp only [Zg,Zd,Tri.gp,Zn,Bool.not_true,Bool.not_false,reduceIte,Nat.reduceEqDiff,q2];done)))|(apply WF.condF;(focus (simp only [Zg,Zd,Tri.gp,Zn,Bool.not_true,Bool.not_false,reduceIte,Nat.reduceEqDiff,q2];done))))
 repeat (first|(apply Zh;exact rfl)|apply Zc|apply WO.nil|(apply WO.op;(focus (simp only [rQ,Zb,li,lo,reduceIte,Nat.reduceEqDiff,Nat.reduceAdd,beq_self_eq_true];done));simp only [rE,rQ,li,lo,reduceIte,Nat.reduceEqDiff,Nat.reduceAdd,Nat.reduceMul,AH.set,ZZ,ZV,Wf,We,XY,Yp,Y8,Y6,Y7,Y9,Yo,Ya,Z9,Z6,Z8,ZC,ZA,Za ZE,Za YD,Za Zu,Y5,Y4,Ye,Xu,hpc,hpf,hs1,hs2,hst1,hst2];exact rfl;exact rfl)|(apply WO.unwanted;(focus (simp only [rQ,Zb,li,lo,reduceIte,Nat.reduceEqDiff,Nat.reduceAdd,beq_self_eq_true];done));exact rfl))
 have pg:=pf.step (Wb _ p (r.drop N) false) (st':=some (r.drop N)) ⟨r.drop N,false,Wc _ _ _ _,hpe,by simp;omega,fun c hc =>h8e c (List.mem_of_mem_drop hc),.inl ⟨rfl,rfl⟩⟩
 generalize setRd (setSh He g ⟨C,T,I,r.take N,0⟩) p (r.drop N) false = Hg at *
 (apply WO.call;(focus (simp only [rQ,Zb,li,lo,reduceIte,Nat.reduceEqDiff,Nat.reduceAdd,beq_self_eq_true];done));simp only [rE,rS,li,lo,reduceIte,Nat.reduceEqDiff,Nat.reduceAdd,Nat.reduceMul,ZZ,ZV,Wf,We,XY,Yp,Y8,Y6,Y7,Y9,Yo,Ya,Z9,Z6,Z8,ZC,ZA,Za ZE,Za YD,Za Zu,Y5,Y4,Ye,Xu];exact rfl;exact must97_c Hg p _ _ pg.rd;rintro _ Hh ⟨uh,rh⟩;refine⟨_,rfl,?_⟩)
 have ph:=pg.step uh rh
 have hsth:=ph.fin
 repeat (first|(apply Zh;exact rfl)|apply Zc|apply WO.nil|(apply WO.op;(focus (simp only [rQ,Zb,li,lo,reduceIte,Nat.reduceEqDiff,Nat.reduceAdd,beq_self_eq_true];done));simp only [rE,rQ,li,lo,reduceIte,Nat.reduceEqDiff,Nat.reduceAdd,Nat.reduceMul,AH.set,ZZ,ZV,Wf,We,XY,Yp,Y8,Y6,Y7,Y9,Yo,Ya,Z9,Z6,Z8,ZC,ZA,Za ZE,Za YD,Za Zu,Y5,Y4,Ye,Xu,Ze Xc ZV,YX,ph.cells,hsth];exact rfl;exact rfl)|(apply WO.unwanted;(focus (simp only [rQ,Zb,li,lo,reduceIte,Nat.reduceEqDiff,Nat.reduceAdd,beq_self_eq_true];done));exact rfl))
 (apply WF.ret;(focus (simp only [Zi,Tri.gp,Zn,ZL,reduceIte,Nat.reduceEqDiff,rs55,Ze Xc ZV,YX,Wn];exact rfl)))
 refine ph.post ?_ ?_
 ·rw [hR,Option.bind_some]
  cases ZX [10] (r.drop N) <;> rfl
 ·intro q e
  rw [hR] at e
  obtain⟨r2,_,rfl⟩:=Option.map_eq_some_iff.1 e
  rfl
end Go.Ev.C
end
section
namespace Go.Ev.C
open Go.Proofs Go.RowKit Go.Fmt
set_option maxRecDepth 100000
set_option linter.unusedSimpArgs false
variable {L:World→Prop} [Yu Q L]
theorem zero47:Wi Q 47 = some (.agg [.nilslice,.int .i64 0]):=by kernel_rfl
theorem bu47e (z:Int):Wg Q 47 [(1,.int .i64 z)] = some (.agg [.nilslice,.int .i64 z]):=by kernel_rfl
theorem bu47v {v:AV} {n:Nat} (h:SL v n):Wg Q 47 [(0,v)] = some (.agg [v,.int .i64 0]):=by cases h <;> kernel_rfl
theorem bu133s (s:List Nat):Wg Q 133 [(0,.str s)] = some (.agg [.str s,.bool false]):=by kernel_rfl
theorem st47 {H:AH} {b:Nat} {u v:AV} {z z0:Int} (hv:Yn v = true) (hg:H.t.get b = some (.cells 47 [u,.int .i64 z0] 0 false false)):Zr Q 47 b 0 (.agg [v,.int .i64 z]) H = some ⟨H.t.put b (some (.cells 47 [v,.int .i64 z] 0 false false)),H.next⟩ :=
 Z7 (x:=[v,.int .i64 z]) hg sz47 rfl rfl (by simp [hv];rfl) (Nat.le_refl _)
def SplQ (H:AH) (o:Option (List Sh)) (w:AV) (H':AH):Prop:=Up H H'∧match o with
 | none =>w = .agg [.nilslice,.int .i64 263]
 | some l =>∃v,w = .agg [v,.int .i64 0]∧ShAt H' v l
set_option maxHeartbeats 16000000 in
theorem split19_c (H:AH) (s:List Nat) (hlen:s.length≤100000000) (h8:∀c ∈ s,c < 256):Fn Q L 19 [.str s] H (SplQ H (spl s)):=by
 refine Fn.intro (en19 _) ?_
 have c2:∀{v:AV} {z:Int},ZO v = true→cut [v,.int .i64 z] 0 2 = some [v,.int .i64 z]:=fun h =>YN rfl (by simp [h,Wm])
 have z1:=Up.box H (some (.cells 47 [.nilslice,.int .i64 0] 0 false false))
 have g1:(AH.mk (H.t.put H.next (some (.cells 47 [.nilslice,.int .i64 0] 0 false false))) (H.next + 1)).t.get H.next = some (.cells 47 [.nilslice,.int .i64 0] 0 false false):=by show (Tri.put _ _ _).get _ = _;rw [Tri.gp,if_pos rfl]
 have n1:(AH.mk (H.t.put H.next (some (.cells 47 [.nilslice,.int .i64 0] 0 false false))) (H.next + 1)).next = H.next + 1:=rfl
 unfold c19 Tryz.f19
 simp only [Option.getD_some]
 iterate 3 (first|(apply Zh;exact rfl)|apply Zc|apply WO.nil|(apply Zl;exact rfl;simp only [rE,rS,li,lo,reduceIte,Nat.reduceEqDiff,Nat.reduceAdd,Nat.reduceMul,zero47,sz47,Zs,bu47e,ZC,ZA,Za ZE,Za YD,Xu,bu133s,cu55];exact rfl;exact rfl))
 generalize (⟨H.t.put H.next (some (.cells 47 [.nilslice,.int .i64 0] 0 false false)),H.next + 1⟩:AH) = H1 at *
 have hcn:cut [.nilslice,.int .i64 263] 0 2 = some [.nilslice,.int .i64 263]:=c2 rfl
 have z2:=Up.box H1 (some (.cells 133 [.str s,.bool false] 0 false false))
 have r2:RdS ⟨H1.t.put H1.next (some (.cells 133 [.str s,.bool false] 0 false false)),H1.next + 1⟩ H1.next (some s) :=
  ⟨s,false,by show (Tri.put _ _ _).get _ = _;rw [Tri.gp,if_pos rfl],Nat.lt_succ_self _,hlen,h8,.inl ⟨rfl,rfl⟩⟩
 have f1:Bx H1.next H.next (some (.cells 47 [.nilslice,.int .i64 0] 0 false false)) ⟨H1.t.put H1.next (some (.cells 133 [.str s,.bool false] 0 false false)),H1.next + 1⟩:=⟨by rw [z2.old H.next (by omega)];exact g1,by show H.next < H1.next + 1;omega,by omega⟩
 have x2:Y2 H1.next H ⟨H1.t.put H1.next (some (.cells 133 [.str s,.bool false] 0 false false)),H1.next + 1⟩:=Y2.of (z1.trans z2)
 repeat (first|(apply Zh;exact rfl)|apply Zc|apply WO.nil|(apply Zl;exact rfl;simp only [rE,rS,li,lo,reduceIte,Nat.reduceEqDiff,Nat.reduceAdd,Nat.reduceMul,zero47,sz47,Zs,bu47e,ZC,ZA,Za ZE,Za YD,Xu,bu133s,cu55];exact rfl;exact rfl))
 have hp1:H1.next = H.next + 1:=n1
 generalize (⟨H1.t.put H1.next (some (.cells 133 [.str s,.bool false] 0 false false)),H1.next + 1⟩:AH) = H2 at *
 generalize H1.next = p at *
 clear g1 n1 z1 z2
 have upx:∀{Hx:AH},Y2 p H Hx→Up H Hx:=fun x =>Y2.up (Up.refl H) x (by omega)
 have hfail:∀(Hx:AH),Y2 p H Hx→Up H ⟨Hx.t.put H.next (some (.cells 47 [.nilslice,.int .i64 263] 0 false false)),Hx.next⟩:=fun Hx u =>Up.put (Up.refl _) (upx u) (Nat.le_refl _)
 refine Ys (fun m t Hc =>∃(v:AV) (l:List Sh) (sc:List Nat),sc.length = m∧l.length + m≤s.length∧RdS Hc p (some sc)∧Y2 p H Hc∧Bx p H.next (some (.cells 47 [.nilslice,.int .i64 0] 0 false false)) Hc∧Xh 106 5 (p + 1) PSh Hc v l∧spl s = (spl sc).map (l ++ ·)∧t.get 2 = some (.ptr H.next 0)∧t.get 3 = some (.ptr p 0)∧t.get 4 = some v) s.length ?_ ?_
 ·refine⟨.nilslice,[],s,rfl,by simp,r2,x2,f1,Xh.nil _,by simp,?_,?_,?_⟩
  all_goals simp [Tri.gp,Zn]
 clear f1 x2 r2
 rintro m t Hc ⟨v,l,sc,him,hli,rC,xc,f1,own,hrec,t2,t3,t4⟩ ih
 have hone:=own.sl.one
 have hsol:=own.sl.solid
 have hpl:=rC.lt
 obtain⟨r,b,hgc,hpc,hlc,h8c,hstc⟩:=id rC
 have hcell:=Z5 hgc
 rcases hstc with ⟨rfl,e⟩ | ⟨rfl,e⟩
 rotate_left
 ·cases e
 cases e
 by_cases hm:sc = []
 ·subst hm
  have q3:decide ((0:Int) < (([]:List Nat).length:Int)) = false:=rfl
  have hst:=st47 (z:=0) hone f1.1
  have hyes:spl s = some l:=by rw [hrec,spl_nil];simp
  rw [hyes]
  repeat (first|(apply Zh;exact rfl)|apply Zc|apply WO.nil|(apply WO.op;(focus (simp only [rQ,Zb,li,lo,reduceIte,Nat.reduceEqDiff,Nat.reduceAdd,beq_self_eq_true,q3];done));simp only [rE,rS,li,lo,reduceIte,Nat.reduceEqDiff,Nat.reduceAdd,Nat.reduceMul,zero47,sz47,Zs,bu47e,ZC,ZA,Za ZE,Za YD,Xu,bu133s,cu55,t3,hcell,q3];exact rfl;exact rfl)|(apply WO.unwanted;(focus (simp only [rQ,Zb,li,lo,reduceIte,Nat.reduceEqDiff,Nat.reduceAdd,beq_self_eq_true,q3];done));exact rfl))
  (first|(apply WF.condT;(focus (simp only [Zg,Zd,Tri.gp,Zn,Bool.not_true,Bool.not_false,reduceIte,Nat.reduceEqDiff,q3];done)))|(apply WF.condF;(focus (simp only [Zg,Zd,Tri.gp,Zn,Bool.not_true,Bool.not_false,reduceIte,Nat.reduceEqDiff,q3];done))))
  repeat (first|(apply Zh;exact rfl)|apply Zc|apply WO.nil|(apply Zl;exact rfl;simp only [rE,rQ,li,lo,reduceIte,Nat.reduceEqDiff,Nat.reduceAdd,Nat.reduceMul,AH.set,t2,t4,Zs,bu47v own.sl,hst];exact rfl;exact rfl))
  (apply WF.ret;(focus (simp only [Zi,Tri.gp,Zn,ZL,reduceIte,Nat.reduceEqDiff,rs19,Ze agg47 sz47,ZK,Option.map_some,t2,c2 hsol];exact rfl)))
  exact⟨Up.put (Up.refl _) (upx xc) (Nat.le_refl _),v,rfl,own_sh (Xh.ext (PE:=PSh) (fun u h =>PSh.ext u h) own ((Xo.refl _ Hc).st (.inl (by omega)) _))⟩
 have hsl:0 < sc.length:=List.length_pos_iff.2 hm
 have q3:decide ((0:Int) < (sc.length:Int)) = true:=decide_eq_true (by omega)
 repeat (first|(apply Zh;exact rfl)|apply Zc|apply WO.nil|(apply WO.op;(focus (simp only [rQ,Zb,li,lo,reduceIte,Nat.reduceEqDiff,Nat.reduceAdd,beq_self_eq_true,q3];done));simp only [rE,rS,li,lo,reduceIte,Nat.reduceEqDiff,Nat.reduceAdd,Nat.reduceMul,zero47,sz47,Zs,bu47e,ZC,ZA,Za ZE,Za YD,Xu,bu133s,cu55,t3,hcell,q3];exact rfl;exact rfl)|(apply WO.unwanted;(focus (simp only [rQ,Zb,li,lo,reduceIte,Nat.reduceEqDiff,Nat.reduceAdd,beq_self_eq_true,q3];done));exact rfl))
 (first|(apply WF.condT;(focus (simp only [Zg,Zd,Tri.gp,Zn,Bool.not_true,Bool.not_false,reduceIte,Nat.reduceEqDiff,q3];done)))|(apply WF.condF;(focus (simp only [Zg,Zd,Tri.gp,Zn,Bool.not_true,Bool.not_false,reduceIte,Nat.reduceEqDiff,q3];done))))
 repeat (first|(apply Zh;exact rfl)|apply Zc|apply WO.nil|(apply Zl;exact rfl;simp only [rE,rS,li,lo,reduceIte,Nat.reduceEqDiff,Nat.reduceAdd,Nat.reduceMul,zero47,sz47,Zs,bu47e,ZC,ZA,Za ZE,Za YD,Xu,bu133s,cu55,t3];exact rfl;exact rfl))
 (apply WO.call;(focus (simp only [rQ,Zb,li,lo,reduceIte,Nat.reduceEqDiff,Nat.reduceAdd,beq_self_eq_true];done));simp only [rE,rS,li,lo,reduceIte,Nat.reduceEqDiff,Nat.reduceAdd,Nat.reduceMul,zero47,sz47,Zs,bu47e,ZC,ZA,Za ZE,Za YD,Xu,bu133s,cu55,t3];exact rfl;exact part55_c Hc p sc rC;rintro _ Hb ⟨x,rfl,ub,rB,hx⟩;refine⟨_,rfl,?_⟩)
 replace f1:=f1.step ub
 have xb:=xc.trans ub
 have hpb:=rB.lt
 have hcb:=ub.next
 have hstb:=st_new (H:=Hb) (e:=106) (z:=[.int .i64 0,.int .i64 0,.int .i64 0,.str [],.int .i64 0]) (v:=.agg (WD x)) ZV rfl rfl (shC_one x) rfl
 have zd:Up Hb ⟨(Hb.t.put Hb.next (some (.cells 106 [.int .i64 0,.int .i64 0,.int .i64 0,.str [],.int .i64 0] 0 false false))).put Hb.next (some (.cells 106 (WD x) 0 false false)),Hb.next + 1⟩:=WV Hb _ _
 have gd:(AH.mk ((Hb.t.put Hb.next (some (.cells 106 [.int .i64 0,.int .i64 0,.int .i64 0,.str [],.int .i64 0] 0 false false))).put Hb.next (some (.cells 106 (WD x) 0 false false))) (Hb.next + 1)).cellsAt Hb.next = some (WD x):=by rw [ZK,if_pos rfl]
 iterate 3 (first|(apply Zh;exact rfl)|apply Zc|apply WO.nil|(apply Zl;exact rfl;simp only [rE,rQ,li,lo,reduceIte,Nat.reduceEqDiff,Nat.reduceAdd,Nat.reduceMul,AH.set,ZZ,ZV,hstb];exact rfl;exact rfl))
 have rd:=rB.up zd
 have xd:=xb.trans (Y2.of zd)
 replace f1:=f1.step (Y2.of zd)
 have hnd:=zd.next
 generalize (⟨(Hb.t.put Hb.next (some (.cells 106 [.int .i64 0,.int .i64 0,.int .i64 0,.str [],.int .i64 0] 0 false false))).put Hb.next (some (.cells 106 (WD x) 0 false false)),Hb.next + 1⟩:AH) = Hd at *
 have hrec2:=hrec
 rw [spl_step hm] at hrec2
 obtain⟨r',b',hgd,hpd,hld,h8d,hstd⟩:=id rd
 have hcd:=Z5 hgd
 rcases hstd with ⟨rfl,e⟩ | ⟨rfl,e⟩
 rotate_left
 ·have hno:spl s = none:=by
   cases ep:prt sc with
   | none =>rw [hrec2,ep];rfl
   | some q =>rw [ep] at e;cases e
  rw [hno]
  have hst:=st47 (v:=.nilslice) (z:=263) rfl f1.1
  repeat (first|(apply Zh;exact rfl)|apply Zc|apply WO.nil|(apply Zl;exact rfl;simp only [rE,rS,li,lo,reduceIte,Nat.reduceEqDiff,Nat.reduceAdd,Nat.reduceMul,zero47,sz47,Zs,bu47e,ZC,ZA,Za ZE,Za YD,Xu,bu133s,cu55,t3,hcd];exact rfl;exact rfl))
  (first|(apply WF.condT;(focus (simp only [Zg,Zd,Tri.gp,Zn,Bool.not_true,Bool.not_false,reduceIte,Nat.reduceEqDiff];done)))|(apply WF.condF;(focus (simp only [Zg,Zd,Tri.gp,Zn,Bool.not_true,Bool.not_false,reduceIte,Nat.reduceEqDiff];done))))
  repeat (first|(apply Zh;exact rfl)|apply Zc|apply WO.nil|(apply Zl;exact rfl;simp only [rE,rQ,li,lo,reduceIte,Nat.reduceEqDiff,Nat.reduceAdd,Nat.reduceMul,AH.set,zero47,sz47,Zs,bu47e,ZC,ZA,Za ZE,Za YD,Xu,bu133s,cu55,t2,hst];exact rfl;exact rfl))
  (apply WF.ret;(focus (simp only [Zi,Tri.gp,Zn,ZL,reduceIte,Nat.reduceEqDiff,rs19,Ze agg47 sz47,ZK,Option.map_some,t2,hcn];exact rfl)))
  exact⟨hfail _ xd,rfl⟩
 obtain⟨q,hq,rfl⟩:=Option.map_eq_some_iff.1 e
 obtain rfl:=hx q hq
 have hql:=prt_len hq
 have ed:=(Xo.upx (lo:=p + 1) ub (by omega)).trans (Xo.of zd)
 have hown:=Xh.ext (PE:=PSh) (fun u h =>PSh.ext u h) own ed
 obtain⟨v',Hk,happ,own',ubk,hnb⟩:=Xh.push (PE:=PSh) app37i (fun u h =>PSh.ext u h) hown (by omega) (WD q.1) q.1 rfl (shC_one _) (shC_hole _) rfl (fun _ _ =>rfl) (by omega)
 have hvb:∀b,Xi v = some b→p + 1≤b:=fun b e =>(own.blk e).1
 have hone':=own'.sl.one
 repeat (first|(apply Zh;exact rfl)|apply Zc|apply WO.nil|(apply Zl;exact rfl;simp only [rE,rS,li,lo,reduceIte,Nat.reduceEqDiff,Nat.reduceAdd,Nat.reduceMul,zero47,sz47,Zs,bu47e,ZC,ZA,Za ZE,Za YD,Xu,bu133s,cu55,t3,hcd];exact rfl;exact rfl))
 (first|(apply WF.condT;(focus (simp only [Zg,Zd,Tri.gp,Zn,Bool.not_true,Bool.not_false,reduceIte,Nat.reduceEqDiff];done)))|(apply WF.condF;(focus (simp only [Zg,Zd,Tri.gp,Zn,Bool.not_true,Bool.not_false,reduceIte,Nat.reduceEqDiff];done))))
 repeat (first|(apply Zh;exact rfl)|apply Zc|apply WO.nil|(apply Zl;exact rfl;simp only [rE,rS,li,lo,reduceIte,Nat.reduceEqDiff,Nat.reduceAdd,Nat.reduceMul,t4,Ze Xc ZV,gd,YX,bs37y,mkSY_agg,shC_one,happ,hone'];exact rfl;exact rfl))
 refine Yt ?_
 refine ih q.2.length _ _ (by omega) ⟨v',l ++ [q.1],q.2,rfl,by simp;omega,?_,xd.upB ubk (fun b e =>by have:=hvb b e;omega),f1.upB ubk (fun e =>by have:=hvb _ e;omega),own',?_,?_,?_,?_⟩
 ·refine⟨q.2,false,?_,Nat.lt_of_lt_of_le hpd ubk.next,hld,h8d,.inl ⟨rfl,rfl⟩⟩
  rw [ubk.old p hpd (fun e =>by have:=hvb _ e;omega)]
  exact hgd
 ·rw [hrec2,hq,Option.bind_some]
  cases spl q.2 <;> simp
 all_goals simp [Tri.gp,t2,t3]
end Go.Ev.C
end
section
namespace Go.Ev.C
open Go.Proofs Go.RowKit Go.Fmt
set_option maxRecDepth 100000
set_option linter.unusedSimpArgs false
variable {L:World→Prop} [Yu Q L]
theorem splN_many:∀{k:Nat} {s:List Nat} {l:List Sh},splN k s = some l→l.length≤k
 | 0,[],l,h =>by
  rw [splN] at h
  cases h
  exact Nat.le_refl _
 | 0,_ :: _,l,h =>by
  rw [splN] at h
  cases h
 | k + 1,[],l,h =>by
  rw [splN] at h
  cases h
  exact Nat.zero_le _
 | k + 1,x :: s,l,h =>by
  rw [splN] at h
  obtain⟨q,_,h1⟩:=Option.bind_eq_some_iff.1 h
  obtain⟨m,h2,rfl⟩:=Option.map_eq_some_iff.1 h1
  have:=splN_many h2
  simp
  omega
theorem eq106 (a b c e a' b' c' e':Int) (s s':List Nat):eqlU Q Op.maxDepth 106 (.agg [.int .i64 a,.int .i64 b,.int .i64 c,.str s,.int .i64 e]) (.agg [.int .i64 a',.int .i64 b',.int .i64 c',.str s',.int .i64 e']) =
  cond (a == a') (cond (b == b') (cond (c == c') (cond (s == s') (cond (e == e') (some true) (some false)) (some false)) (some false)) (some false)) (some false):=by kernel_rfl
theorem bin106 (d:Sh):X6 Q .neq 106 (.agg (WD d)) (.agg (WD d)) = some (.bool false):=by
 show (eqlU Q Op.maxDepth 106 (.agg (WD d)) (.agg (WD d))).map (fun b =>AV.bool !b) = _
 unfold WD
 rw [eq106]
 simp
theorem gOk106 (x y:Operand) (a b:List AV):YY Q .neq 106 x y (.agg a) (.agg b) = true:=by kernel_rfl
set_option maxHeartbeats 8000000 in
theorem same23_c (H:AH) (va vb:AV) (l:List Sh) (ha:ShAt H va l) (hb:ShAt H vb l) (hlen:l.length < 9223372036854775808):Fn Q L 23 [va,vb] H (fun w H' =>w = .bool true∧H' = H):=by
 refine Fn.intro (en23 _ _) ?_
 have hoa:=ha.1.one
 have hob:=hb.1.one
 have hsa:=ha.1.solid
 have hsb:=hb.1.solid
 have q0:(!decide ((l.length:Int) = (l.length:Int))) = false:=by simp
 unfold c23 Tryz.f23
 simp only [Option.getD_some]
 repeat (first|(apply Zh;exact rfl)|apply Zc|apply WO.nil|(apply WO.op;(focus (simp only [rQ,Zb,li,lo,reduceIte,Nat.reduceEqDiff,Nat.reduceAdd,beq_self_eq_true,q0];done));simp only [rE,rS,li,lo,reduceIte,Nat.reduceEqDiff,Nat.reduceAdd,Nat.reduceMul,Zf und37 ha.1,Zf und37 hb.1,hoa,hob,hsa,hsb,q0];exact rfl;exact rfl)|(apply WO.unwanted;(focus (simp only [rQ,Zb,li,lo,reduceIte,Nat.reduceEqDiff,Nat.reduceAdd,beq_self_eq_true,q0];done));exact rfl))
 (first|(apply WF.condT;(focus (simp only [Zg,Zd,Tri.gp,Zn,Bool.not_true,Bool.not_false,reduceIte,Nat.reduceEqDiff,q0];done)))|(apply WF.condF;(focus (simp only [Zg,Zd,Tri.gp,Zn,Bool.not_true,Bool.not_false,reduceIte,Nat.reduceEqDiff,q0];done))))
 repeat (first | (apply Zh;exact rfl) | apply Zc | apply WO.nil | (apply Zl;exact rfl;simp only [rE,rS,li,lo,reduceIte,Nat.reduceEqDiff,Nat.reduceAdd,Nat.reduceMul];exact rfl;exact rfl))
 refine Ys (fun m t H' =>∃i:Nat,i + m = l.length∧H' = H∧t.get 0 = some va∧t.get 1 = some vb∧t.get 5 = some (.int .i64 (i:Int))) l.length ?_ ?_
 ·refine⟨0,by omega,rfl,?_,?_,?_⟩
  all_goals simp [Tri.gp,Zn]
 rintro m t _ ⟨i,him,rfl,t0,t1,t5⟩ ih
 by_cases hi:i < l.length
 rotate_left
 ·have q1:decide ((i:Int) < (l.length:Int)) = false:=decide_eq_false (by omega)
  repeat (first|(apply Zh;exact rfl)|apply Zc|apply WO.nil|(apply WO.op;(focus (simp only [rQ,Zb,li,lo,reduceIte,Nat.reduceEqDiff,Nat.reduceAdd,beq_self_eq_true,q1];done));simp only [rE,rS,li,lo,reduceIte,Nat.reduceEqDiff,Nat.reduceAdd,Nat.reduceMul,Zf und37 ha.1,Zf und37 hb.1,hoa,hsa,t0,t5,q1];exact rfl;exact rfl)|(apply WO.unwanted;(focus (simp only [rQ,Zb,li,lo,reduceIte,Nat.reduceEqDiff,Nat.reduceAdd,beq_self_eq_true,q1];done));exact rfl))
  (first|(apply WF.condT;(focus (simp only [Zg,Zd,Tri.gp,Zn,Bool.not_true,Bool.not_false,reduceIte,Nat.reduceEqDiff,q1];done)))|(apply WF.condF;(focus (simp only [Zg,Zd,Tri.gp,Zn,Bool.not_true,Bool.not_false,reduceIte,Nat.reduceEqDiff,q1];done))))
  repeat (first | (apply Zh;exact rfl) | apply Zc | apply WO.nil | (apply Zl;exact rfl;simp only [rE,rS,li,lo,reduceIte,Nat.reduceEqDiff,Nat.reduceAdd,Nat.reduceMul];exact rfl;exact rfl))
  (apply WF.ret;(focus (simp only [Zi,Tri.gp,Zn,ZL,reduceIte,Nat.reduceEqDiff,rs23];exact rfl)))
  exact⟨rfl,rfl⟩
 have q1:decide ((i:Int) < (l.length:Int)) = true:=decide_eq_true (by omega)
 obtain⟨ba,oa,ca,cca,rfl,hba,hca,hcuta⟩:=ha.at hi
 obtain⟨bb,ob,cb,ccb,rfl,hbb,hcb,hcutb⟩:=hb.at hi
 have hixa:X3 Q 37 (.slice ba oa l.length ca) (.int .i64 (i:Int)) = some (.ptr ba (oa + i * 5)):=Zt und37 ZV hi
 have hixb:X3 Q 37 (.slice bb ob l.length cb) (.int .i64 (i:Int)) = some (.ptr bb (ob + i * 5)):=Zt und37 ZV hi
 have wi:IntKind.i64.wrap ((i:Int) + 1) = ((i + 1:Nat):Int):=Go.Ev.w64 (by omega) (by omega)
 repeat (first|(apply Zh;exact rfl)|apply Zc|apply WO.nil|(apply WO.op;(focus (simp only [rQ,Zb,li,lo,reduceIte,Nat.reduceEqDiff,Nat.reduceAdd,beq_self_eq_true,q1];done));simp only [rE,rS,li,lo,reduceIte,Nat.reduceEqDiff,Nat.reduceAdd,Nat.reduceMul,Zf und37 ha.1,Zf und37 hb.1,hoa,hsa,t0,t5,q1];exact rfl;exact rfl)|(apply WO.unwanted;(focus (simp only [rQ,Zb,li,lo,reduceIte,Nat.reduceEqDiff,Nat.reduceAdd,beq_self_eq_true,q1];done));exact rfl))
 (first|(apply WF.condT;(focus (simp only [Zg,Zd,Tri.gp,Zn,Bool.not_true,Bool.not_false,reduceIte,Nat.reduceEqDiff,q1];done)))|(apply WF.condF;(focus (simp only [Zg,Zd,Tri.gp,Zn,Bool.not_true,Bool.not_false,reduceIte,Nat.reduceEqDiff,q1];done))))
 repeat (first | (apply Zh;exact rfl) | apply Zc | apply WO.nil | (apply Zl;exact rfl;simp only [rE,rS,li,lo,reduceIte,Nat.reduceEqDiff,Nat.reduceAdd,Nat.reduceMul];exact rfl;exact rfl))
 (apply Yw;kernel_rfl;kernel_rfl)
 (refine Zq ?_;(iterate 9 (first|(apply ZW.pure;kernel_rfl;kernel_rfl;(focus ((simp only [rQ,Zb,li,lo,reduceIte,Nat.reduceEqDiff,Nat.reduceAdd,beq_self_eq_true];done)));simp only [rE,rS,li,lo,reduceIte,Nat.reduceEqDiff,Nat.reduceAdd,Nat.reduceMul,Zf und37 ha.1,Zf und37 hb.1,hoa,hob,hsa,hsb,t0,t1,t5,hixa,hixb,Ze Xc ZV,hca,hcb,hcuta,hcutb,YX,bin106,gOk106];exact rfl;exact rfl)|(apply ZW.load;kernel_rfl;kernel_rfl;(focus ((simp only [rQ,Zb,li,lo,reduceIte,Nat.reduceEqDiff,Nat.reduceAdd,beq_self_eq_true];done)));simp only [rE,rS,li,lo,reduceIte,Nat.reduceEqDiff,Nat.reduceAdd,Nat.reduceMul,Zf und37 ha.1,Zf und37 hb.1,hoa,hob,hsa,hsb,t0,t1,t5,hixa,hixb,Ze Xc ZV,hca,hcb,hcuta,hcutb,YX,bin106,gOk106];exact rfl;exact rfl)));refine ZW.nil ?_)
 (apply ZY.all;kernel_rfl;kernel_rfl)
 (first|(apply WF.condT;(focus (simp only [Zg,Zd,Tri.gp,Zn,Bool.not_true,Bool.not_false,reduceIte,Nat.reduceEqDiff];done)))|(apply WF.condF;(focus (simp only [Zg,Zd,Tri.gp,Zn,Bool.not_true,Bool.not_false,reduceIte,Nat.reduceEqDiff];done))))
 repeat (first|(apply Zh;exact rfl)|apply Zc|apply WO.nil|(apply Zl;exact rfl;simp only [rE,rS,li,lo,reduceIte,Nat.reduceEqDiff,Nat.reduceAdd,Nat.reduceMul,t5,wi];exact rfl;exact rfl))
 refine Yt ?_
 refine ih (m - 1) _ _ (by omega) ⟨i + 1,by omega,rfl,?_,?_,?_⟩
 all_goals simp [Tri.gp,t0,t1]
end Go.Ev.C
end