/- The law, walked whole; what is read of the arguments. -/
import Derived.Test.YtkkegnkopmpjhaaGreatDoorEvYc
import Derived.Test.YtkkegnkopmpjhaaGreatDoorEvYa
import Derived.Test.YtkkegnkopmpjhaaGreatDoorEvO
import Derived.Test.YtkkegnkopmpjhaaGreatDoorEvJ
set_option linter.unusedVariables false
set_option linter.unusedSimpArgs false
set_option linter.all false
section
namespace Go.Ev.C
open Go.Proofs Go.RowKit Go.Fmt
set_option maxRecDepth 100000
set_option linter.unusedSimpArgs false
variable {L:World→Prop} [Yu Q L]
def spL (o:Option (List Sh)):List Sh:=o.getD []
def spE (o:Option (List Sh)):Int:=if o.isSome then 0 else 263
theorem ShAt.none (H:AH):ShAt H .nilslice []:=⟨.nil,fun _ _ _ _ _ h =>absurd rfl h⟩
theorem spL_len (s:List Nat) (h:s.length≤100000000):(spL (spl s)).length < 9223372036854775808:=by
 unfold spL spl
 cases e:splN s.length s with
 | none =>simp
 | some l =>
  have:=splN_many e
  simp
  omega
theorem split_x (H:AH) (s:List Nat) (hlen:s.length≤100000000) (h8:∀c ∈ s,c < 256):Fn Q L 15 [.str s] H (fun w H' =>∃v,w = .tuple [v,.int .i64 (spE (spl s))]∧ShAt H' v (spL (spl s))∧Up H H'):=by
 cases h:spl s with
 | none =>exact (split_n H s hlen h8 h).mono fun w H' ⟨e,u⟩ =>⟨.nilslice,e,ShAt.none H',u⟩
 | some l =>exact split_c H s hlen h8 h
theorem split19_x (H:AH) (s:List Nat) (hlen:s.length≤100000000) (h8:∀c ∈ s,c < 256):Fn Q L 19 [.str s] H (fun w H' =>∃v,w = .agg [v,.int .i64 (spE (spl s))]∧ShAt H' v (spL (spl s))∧Up H H'):=by
 have h:=split19_c (L:=L) H s hlen h8
 cases e:spl s with
 | none =>
  rw [e] at h
  exact h.mono fun w H' ⟨u,e⟩ =>⟨.nilslice,e,ShAt.none H',u⟩
 | some l =>
  rw [e] at h
  exact h.mono fun w H' ⟨u,v,e,hv⟩ =>⟨v,e,hv,u⟩
def deL (o:Option (List YT)):List XC:=(o.getD []).map ofB
def deE (o:Option (List YT)):Int:=if o.isSome then 0 else 262
theorem YI.none (H:AH):YI H .nilslice []:=⟨.nil,fun _ _ _ _ _ h =>absurd rfl h⟩
theorem decode_x (H:AH) (bv:AV) (s:List Nat) (hs:Src H bv s):Fn Q L 16 [bv] H (fun w H' =>∃v,w = .tuple [v,.int .i64 (deE (XI s))]∧YI H' v (deL (XI s))∧Up H H'):=by
 cases h:XI s with
 | none =>exact (decode_n H bv s hs h).mono fun w H' ⟨e,u⟩ =>⟨.nilslice,e,YI.none H',u⟩
 | some l =>exact decode_c H bv s hs h
theorem decode20_x (H:AH) (bv:AV) (s:List Nat) (hs:Src H bv s):Fn Q L 20 [bv] H (fun w H' =>∃v,w = .agg [v,.int .i64 (deE (XI s))]∧YI H' v (deL (XI s))∧Up H H'):=by
 have h:=decode20_c (L:=L) H bv s hs
 rw [dR_dec hs.byte] at h
 cases e:XI s with
 | none =>
  rw [e] at h
  exact h.mono fun w H' ⟨u,e⟩ =>⟨.nilslice,e,YI.none H',u⟩
 | some l =>
  rw [e] at h
  exact h.mono fun w H' ⟨u,v,e,hv⟩ =>⟨v,e,hv,u⟩
theorem dec_len {s:List Nat} {l:List YT} (h8:∀c ∈ s,c < 256) (h:XI s = some l):l.length≤200:=(enc_dec h8 h).2.1
theorem mem_encRs {y:WI}:∀{l:List WI},y ∈ l→∀c ∈ y.data,c ∈ XD l
 | [],h,_,_ =>by cases h
 | x :: l,h,c,hc =>by
  rw [XD]
  rcases List.mem_cons.1 h with rfl | h
  ·refine List.mem_append.2 (.inl ?_)
   unfold encR
   simp [hc]
  ·exact List.mem_append.2 (.inr (mem_encRs h c hc))
theorem mem_encBs {x:YT} {y:WI} (hy:y ∈ x.recs):∀{l:List YT},x ∈ l→∀c ∈ y.data,c ∈ XE l
 | [],h,_,_ =>by cases h
 | z :: l,h,c,hc =>by
  rw [XE]
  rcases List.mem_cons.1 h with rfl | h
  ·refine List.mem_append.2 (.inl ?_)
   unfold encB
   simp [mem_encRs hy c hc]
  ·exact List.mem_append.2 (.inr (mem_encBs hy h c hc))
theorem dec_byte {s:List Nat} {l:List YT} (h8:∀c ∈ s,c < 256) (h:XI s = some l):∀x ∈ l,byteB x:=by
 obtain⟨rfl,_⟩:=enc_dec h8 h
 intro x hx y hy c hc
 refine h8 c ?_
 unfold WB encL
 simp [mem_encBs hy hx c hc]
theorem deL_u8 {s:List Nat} (h8:∀c ∈ s,c < 256):∀d ∈ deL (XI s),∀r ∈ d.recs,U8 r.r:=by
 cases e:XI s with
 | none =>intro d hd;cases hd
 | some l =>exact u8_of (dec_byte h8 e)
theorem deL_len {s:List Nat} (h8:∀c ∈ s,c < 256):(deL (XI s)).length < 9223372036854775808:=by
 unfold deL
 rw [List.length_map]
 cases e:XI s with
 | none =>simp
 | some l =>
  have:=dec_len h8 e
  simp
  omega
def StrAt (H:AH) (v:AV) (s:List Nat):Prop:=Yn v = true∧ZO v = true∧∀H',Up H H'→convL Q 35 9 (some v) H' = some (.str s)
theorem StrAt.none (H:AH):StrAt H .nilslice []:=⟨rfl,rfl,fun H' _ =>by simp only [convL,Zo,Ye,und5]⟩
theorem StrAt.out {H0 H:AH} {v:AV} {ps:List YT} (h:X9 H0 H v (WB ps)) (hok:pokL ps) (h8:∀y ∈ ps,byteB y):StrAt H v (WB ps):=by
 have hel:=enc_len hok
 have heb:=enc_byte hok h8
 have hs:=h.srcJ (by omega) heb
 have hne:WB ps ≠ []:=by
  unfold WB
  simp
 exact⟨hs.sl.one,hs.sl.solid,fun H' u =>conv_srcJ (hs.up u).data hne heb⟩
set_option maxHeartbeats 4000000 in
theorem encode17_n (H:AH) (bv:AV) (l:List XC) (hr:YI H bv l) (hlen:l.length < 9223372036854775808) (he:errE l ≠ 0):Fn Q L 17 [bv] H (fun w H' =>w = .tuple [.nilslice,.int .i64 (errE l)]∧Up H H'):=by
 refine Fn.intro (en17 _) ?_
 obtain⟨a,b,hcnt⟩:=cntL_err l
 have hcc:=count_c (L:=L) H bv l hr hlen
 rw [cnt_cntL,hcnt] at hcc
 generalize errE l = e at *
 have q1:decide (e = 0) = false:=decide_eq_false he
 unfold c17 Tryz.f17
 simp only [Option.getD_some]
 repeat (first|(apply Zh;exact rfl)|apply Zc|apply WO.nil|(apply Zl;exact rfl;simp only [rE,rS,li,lo,reduceIte,Nat.reduceEqDiff,Nat.reduceAdd,Nat.reduceMul,cu18];exact rfl;exact rfl))
 (apply WO.call;(focus (simp only [rQ,Zb,li,lo,reduceIte,Nat.reduceEqDiff,Nat.reduceAdd,beq_self_eq_true];done));simp only [rE,rS,li,lo,reduceIte,Nat.reduceEqDiff,Nat.reduceAdd,Nat.reduceMul,cu18];exact rfl;exact hcc;rintro _ H ⟨rfl,rfl⟩;refine⟨_,rfl,?_⟩)
 repeat (first|(apply Zh;exact rfl)|apply Zc|apply WO.nil|(apply WO.op;(focus (simp only [rQ,Zb,li,lo,reduceIte,Nat.reduceEqDiff,Nat.reduceAdd,beq_self_eq_true,q1];done));simp only [rE,rS,li,lo,reduceIte,Nat.reduceEqDiff,Nat.reduceAdd,Nat.reduceMul,q1];exact rfl;exact rfl)|(apply WO.unwanted;(focus (simp only [rQ,Zb,li,lo,reduceIte,Nat.reduceEqDiff,Nat.reduceAdd,beq_self_eq_true,q1];done));exact rfl))
 (first|(apply WF.condT;(focus (simp only [Zg,Zd,Tri.gp,Zn,Bool.not_true,Bool.not_false,reduceIte,Nat.reduceEqDiff,q1];done)))|(apply WF.condF;(focus (simp only [Zg,Zd,Tri.gp,Zn,Bool.not_true,Bool.not_false,reduceIte,Nat.reduceEqDiff,q1];done))))
 repeat (first|(apply Zh;exact rfl)|apply Zc|apply WO.nil|(apply WO.op;(focus (simp only [rQ,Zb,li,lo,reduceIte,Nat.reduceEqDiff,Nat.reduceAdd,beq_self_eq_true,q1];done));simp only [rE,rS,li,lo,reduceIte,Nat.reduceEqDiff,Nat.reduceAdd,Nat.reduceMul,q1];exact rfl;exact rfl)|(apply WO.unwanted;(focus (simp only [rQ,Zb,li,lo,reduceIte,Nat.reduceEqDiff,Nat.reduceAdd,beq_self_eq_true,q1];done));exact rfl))
 (apply WF.ret;(focus (simp only [Zi,Tri.gp,Zn,ZL,reduceIte,Nat.reduceEqDiff,rs17];exact rfl)))
 exact⟨rfl,Up.refl _⟩
theorem enc_both (l:List XC) (h8:∀d ∈ l,∀r ∈ d.recs,U8 r.r) (hsm:l.length≤2000000):∃s:List Nat,
  (∀H lv,YI H lv l→Fn Q L 17 [lv] H (fun w H' =>∃v,w = .tuple [v,.int .i64 (errE l)]∧StrAt H' v s∧Up H H')) ∧
  (∀H lv,YI H lv l→Fn Q L 21 [lv] H (fun w H' =>∃v,w = .agg [v,.int .i64 (errE l)]∧StrAt H' v s∧Up H H')):=by
 by_cases he:errE l = 0
 ·have hg:(l.any fun d =>!d.ok) = false∧l.length≤200:=by
   unfold errE at he
   split at he
   ·cases he
   ·rename_i h1
    split at he
    ·cases he
    ·exact⟨by simpa using h1,by omega⟩
  obtain⟨ps,rfl,hok,hb8⟩:=bats_of hg.1 hg.2 h8
  rw [errE_ok hok]
  refine⟨WB ps,fun H lv h =>?_,fun H lv h =>?_⟩
  ·exact (encode_c H lv ps h hok).mono fun w H' ⟨v,e,ho,u⟩ =>⟨v,e,StrAt.out ho hok hb8,u⟩
  ·exact (encode21_c H lv ps h hok).mono fun w H' ⟨v,e,⟨H0,u0,ho⟩,u⟩ =>⟨v,e,StrAt.out ho hok hb8,u⟩
 ·refine⟨[],fun H lv h =>?_,fun H lv h =>?_⟩
  ·exact (encode17_n H lv l h (by omega) he).mono fun w H' ⟨e,u⟩ =>⟨.nilslice,e,StrAt.none H',u⟩
  ·exact (encode21_n H lv l h hsm he).mono fun w H' ⟨e,u⟩ =>⟨.nilslice,e,StrAt.none H',u⟩
theorem boxN (H:AH) (e:TypeId) (z x:List AV):Up H ⟨(H.t.put H.next (some (.cells e z 0 false false))).put H.next (some (.cells e x 0 false false)),H.next + 1⟩∧AH.cellsAt ⟨(H.t.put H.next (some (.cells e z 0 false false))).put H.next (some (.cells e x 0 false false)),H.next + 1⟩ H.next = some x∧H.next < (AH.mk ((H.t.put H.next (some (.cells e z 0 false false))).put H.next (some (.cells e x 0 false false))) (H.next + 1)).next :=
 ⟨WV H _ _,by rw [ZK,if_pos rfl],Nat.lt_succ_self _⟩
end Go.Ev.C
end
section
namespace Go.Ev.C
open Go.Proofs Go.RowKit Go.Fmt
set_option maxRecDepth 100000
set_option linter.unusedSimpArgs false
theorem eqS_trueJ (s:List Nat):(s == s) = true:=by simp
set_option maxHeartbeats 16000000 in
theorem reads_w (H:AH) (s:List Nat) (bv lv:AV) (bs:List Nat) (l:List XC) (hlen:s.length≤100000000) (hs8:∀c ∈ s,c < 256) (hb:Src H bv bs) (hl:YI H lv l) (hln:l.length≤2000000) (h8:∀d ∈ l,∀r ∈ d.recs,U8 r.r) :
  WF Q Laid (PF 4 108 (Zn 0 [.str s,bv,lv] .leaf) [.code c4]) H (Ret Q 4 fun v _ =>v = .bool true):=by
 obtain⟨es,hE1,hE2⟩:=enc_both (L:=Laid) l h8 hln
 obtain⟨ca,cb,hcnt⟩:=cntL_err l
 unfold c4 Tryz.f4
 simp only [Option.getD_some]
 repeat (first|(apply Zh;exact rfl)|apply Zc|apply WO.nil|(apply Zl;exact rfl;simp only [rE,rS,li,lo,reduceIte,Nat.reduceEqDiff,Nat.reduceAdd,Nat.reduceMul,cu10,cu15,cu16,cu17,cu18,cu19,cu20,cu21,cu22];exact rfl;exact rfl))
 (apply WO.call;(focus (simp only [rQ,Zb,li,lo,reduceIte,Nat.reduceEqDiff,Nat.reduceAdd,beq_self_eq_true];done));simp only [rE,rS,li,lo,reduceIte,Nat.reduceEqDiff,Nat.reduceAdd,Nat.reduceMul,cu10,cu15,cu16,cu17,cu18,cu19,cu20,cu21,cu22];exact rfl;exact sane_c _;rintro _ H ⟨rfl,rfl⟩;refine⟨_,rfl,?_⟩)
 repeat (first|(apply Zh;exact rfl)|apply Zc|apply WO.nil|(apply Zl;exact rfl;simp only [rE,rS,li,lo,reduceIte,Nat.reduceEqDiff,Nat.reduceAdd,Nat.reduceMul,cu10,cu15,cu16,cu17,cu18,cu19,cu20,cu21,cu22];exact rfl;exact rfl))
 (apply WO.call;(focus (simp only [rQ,Zb,li,lo,reduceIte,Nat.reduceEqDiff,Nat.reduceAdd,beq_self_eq_true];done));simp only [rE,rS,li,lo,reduceIte,Nat.reduceEqDiff,Nat.reduceAdd,Nat.reduceMul,cu10,cu15,cu16,cu17,cu18,cu19,cu20,cu21,cu22];exact rfl;exact split_x H s hlen hs8;rintro _ H1 ⟨v1,rfl,p1,u1⟩;refine⟨_,rfl,?_⟩)
 have o1:=p1.1.one
 have n1:=p1.1.solid
 repeat (first|(apply Zh;exact rfl)|apply Zc|apply WO.nil|(apply Zl;exact rfl;simp only [rE,rS,li,lo,reduceIte,Nat.reduceEqDiff,Nat.reduceAdd,Nat.reduceMul,cu10,cu15,cu16,cu17,cu18,cu19,cu20,cu21,cu22,o1,n1];exact rfl;exact rfl))
 (apply WO.call;(focus (simp only [rQ,Zb,li,lo,reduceIte,Nat.reduceEqDiff,Nat.reduceAdd,beq_self_eq_true];done));simp only [rE,rS,li,lo,reduceIte,Nat.reduceEqDiff,Nat.reduceAdd,Nat.reduceMul,cu10,cu15,cu16,cu17,cu18,cu19,cu20,cu21,cu22];exact rfl;exact decode_x H1 bv bs (hb.up u1);rintro _ H2 ⟨v2,rfl,p2,u2⟩;refine⟨_,rfl,?_⟩)
 have o2:=p2.1.one
 have n2:=p2.1.solid
 repeat (first|(apply Zh;exact rfl)|apply Zc|apply WO.nil|(apply Zl;exact rfl;simp only [rE,rS,li,lo,reduceIte,Nat.reduceEqDiff,Nat.reduceAdd,Nat.reduceMul,cu10,cu15,cu16,cu17,cu18,cu19,cu20,cu21,cu22,o2,n2];exact rfl;exact rfl))
 (apply WO.call;(focus (simp only [rQ,Zb,li,lo,reduceIte,Nat.reduceEqDiff,Nat.reduceAdd,beq_self_eq_true];done));simp only [rE,rS,li,lo,reduceIte,Nat.reduceEqDiff,Nat.reduceAdd,Nat.reduceMul,cu10,cu15,cu16,cu17,cu18,cu19,cu20,cu21,cu22];exact rfl;exact hE1 H2 lv (hl.up (u1.trans u2));rintro _ H3 ⟨v3,rfl,p3,u3⟩;refine⟨_,rfl,?_⟩)
 have o3:=p3.1
 have n3:=p3.2.1
 have hU3:=(u1.trans u2).trans u3
 repeat (first|(apply Zh;exact rfl)|apply Zc|apply WO.nil|(apply Zl;exact rfl;simp only [rE,rS,li,lo,reduceIte,Nat.reduceEqDiff,Nat.reduceAdd,Nat.reduceMul,cu10,cu15,cu16,cu17,cu18,cu19,cu20,cu21,cu22,o3,n3];exact rfl;exact rfl))
 have hcc:=count_c (L:=Laid) H3 lv l (hl.up hU3) (by omega)
 rw [cnt_cntL,hcnt] at hcc
 (apply WO.call;(focus (simp only [rQ,Zb,li,lo,reduceIte,Nat.reduceEqDiff,Nat.reduceAdd,beq_self_eq_true];done));simp only [rE,rS,li,lo,reduceIte,Nat.reduceEqDiff,Nat.reduceAdd,Nat.reduceMul,cu10,cu15,cu16,cu17,cu18,cu19,cu20,cu21,cu22];exact rfl;exact hcc;rintro _ H3 ⟨rfl,rfl⟩;refine⟨_,rfl,?_⟩)
 repeat (first|(apply Zh;exact rfl)|apply Zc|apply WO.nil|(apply Zl;exact rfl;simp only [rE,rS,li,lo,reduceIte,Nat.reduceEqDiff,Nat.reduceAdd,Nat.reduceMul,cu10,cu15,cu16,cu17,cu18,cu19,cu20,cu21,cu22];exact rfl;exact rfl))
 (apply WO.call;(focus (simp only [rQ,Zb,li,lo,reduceIte,Nat.reduceEqDiff,Nat.reduceAdd,beq_self_eq_true];done));simp only [rE,rS,li,lo,reduceIte,Nat.reduceEqDiff,Nat.reduceAdd,Nat.reduceMul,cu10,cu15,cu16,cu17,cu18,cu19,cu20,cu21,cu22];exact rfl;exact split19_x H3 s hlen hs8;rintro _ H4 ⟨v4,rfl,p4,u4⟩;refine⟨_,rfl,?_⟩)
 have o4:=p4.1.one
 have n4:=p4.1.solid
 have hst4:=st_new (H:=H4) (e:=47) (z:=[.nilslice,.int .i64 0]) (x:=[v4,.int .i64 (spE (spl s))]) (v:=.agg [v4,.int .i64 (spE (spl s))]) sz47 rfl rfl (by simp [o4];rfl) rfl
 obtain⟨w4,c4,l4⟩:=boxN H4 47 [.nilslice,.int .i64 0] [v4,.int .i64 (spE (spl s))]
 repeat (first|(apply Zh;exact rfl)|apply Zc|apply WO.nil|(apply Zl;exact rfl;simp only [rE,rQ,li,lo,reduceIte,Nat.reduceEqDiff,Nat.reduceAdd,Nat.reduceMul,AH.set,cu10,cu15,cu16,cu17,cu18,cu19,cu20,cu21,cu22,zero47,sz47,hst4];exact rfl;exact rfl))
 generalize (⟨(H4.t.put H4.next (some (.cells 47 [.nilslice,.int .i64 0] 0 false false))).put H4.next (some (.cells 47 [v4,.int .i64 (spE (spl s))] 0 false false)),H4.next + 1⟩:AH) = K4 at *
 have hU4:=(hU3.trans u4).trans w4
 generalize H4.next = b4 at *
 (apply WO.call;(focus (simp only [rQ,Zb,li,lo,reduceIte,Nat.reduceEqDiff,Nat.reduceAdd,beq_self_eq_true];done));simp only [rE,rS,li,lo,reduceIte,Nat.reduceEqDiff,Nat.reduceAdd,Nat.reduceMul,cu10,cu15,cu16,cu17,cu18,cu19,cu20,cu21,cu22];exact rfl;exact decode20_x K4 bv bs (hb.up hU4);rintro _ H5 ⟨v5,rfl,p5,u5⟩;refine⟨_,rfl,?_⟩)
 have o5:=p5.1.one
 have n5:=p5.1.solid
 have hst5:=st_new (H:=H5) (e:=50) (z:=[.nilslice,.int .i64 0]) (x:=[v5,.int .i64 (deE (XI bs))]) (v:=.agg [v5,.int .i64 (deE (XI bs))]) WX rfl rfl (by simp [o5];rfl) rfl
 obtain⟨w5,c5,l5⟩:=boxN H5 50 [.nilslice,.int .i64 0] [v5,.int .i64 (deE (XI bs))]
 repeat (first|(apply Zh;exact rfl)|apply Zc|apply WO.nil|(apply Zl;exact rfl;simp only [rE,rQ,li,lo,reduceIte,Nat.reduceEqDiff,Nat.reduceAdd,Nat.reduceMul,AH.set,cu10,cu15,cu16,cu17,cu18,cu19,cu20,cu21,cu22,XA,WX,hst5];exact rfl;exact rfl))
 generalize (⟨(H5.t.put H5.next (some (.cells 50 [.nilslice,.int .i64 0] 0 false false))).put H5.next (some (.cells 50 [v5,.int .i64 (deE (XI bs))] 0 false false)),H5.next + 1⟩:AH) = K5 at *
 have k5:=u5.trans w5
 have hU5:=hU4.trans k5
 generalize H5.next = b5 at *
 (apply WO.call;(focus (simp only [rQ,Zb,li,lo,reduceIte,Nat.reduceEqDiff,Nat.reduceAdd,beq_self_eq_true];done));simp only [rE,rS,li,lo,reduceIte,Nat.reduceEqDiff,Nat.reduceAdd,Nat.reduceMul,cu10,cu15,cu16,cu17,cu18,cu19,cu20,cu21,cu22];exact rfl;exact hE2 K5 lv (hl.up hU5);rintro _ H6 ⟨v6,rfl,p6,u6⟩;refine⟨_,rfl,?_⟩)
 have o6:=p6.1
 have n6:=p6.2.1
 have hst6:=st_new (H:=H6) (e:=53) (z:=[.nilslice,.int .i64 0]) (x:=[v6,.int .i64 (errE l)]) (v:=.agg [v6,.int .i64 (errE l)]) sz53 rfl rfl (by simp [o6];rfl) rfl
 obtain⟨w6,c6,l6⟩:=boxN H6 53 [.nilslice,.int .i64 0] [v6,.int .i64 (errE l)]
 repeat (first|(apply Zh;exact rfl)|apply Zc|apply WO.nil|(apply Zl;exact rfl;simp only [rE,rQ,li,lo,reduceIte,Nat.reduceEqDiff,Nat.reduceAdd,Nat.reduceMul,AH.set,cu10,cu15,cu16,cu17,cu18,cu19,cu20,cu21,cu22,zero53,sz53,hst6];exact rfl;exact rfl))
 generalize (⟨(H6.t.put H6.next (some (.cells 53 [.nilslice,.int .i64 0] 0 false false))).put H6.next (some (.cells 53 [v6,.int .i64 (errE l)] 0 false false)),H6.next + 1⟩:AH) = K6 at *
 have k6:=u6.trans w6
 have hU6:=hU5.trans k6
 generalize H6.next = b6 at *
 have hc22:=count22_c (L:=Laid) K6 lv l (hl.up hU6) (by omega) hln
 rw [hcnt] at hc22
 (apply WO.call;(focus (simp only [rQ,Zb,li,lo,reduceIte,Nat.reduceEqDiff,Nat.reduceAdd,beq_self_eq_true];done));simp only [rE,rS,li,lo,reduceIte,Nat.reduceEqDiff,Nat.reduceAdd,Nat.reduceMul,cu10,cu15,cu16,cu17,cu18,cu19,cu20,cu21,cu22];exact rfl;exact hc22;rintro _ K6 ⟨rfl,rfl⟩;refine⟨_,rfl,?_⟩)
 have hst7:=st_new (H:=K6) (e:=56) (z:=[.int .i64 0,.int .i64 0,.int .i64 0]) (x:=[.int .i64 ca,.int .i64 cb,.int .i64 (errE l)]) (v:=.agg [.int .i64 ca,.int .i64 cb,.int .i64 (errE l)]) sz56 rfl rfl rfl rfl
 obtain⟨k7,c7,l7⟩:=boxN K6 56 [.int .i64 0,.int .i64 0,.int .i64 0] [.int .i64 ca,.int .i64 cb,.int .i64 (errE l)]
 iterate 5 (first|(apply Zh;exact rfl)|apply Zc|apply WO.nil|(apply Zl;exact rfl;simp only [rE,rQ,li,lo,reduceIte,Nat.reduceEqDiff,Nat.reduceAdd,Nat.reduceMul,AH.set,cu10,cu15,cu16,cu17,cu18,cu19,cu20,cu21,cu22,zero56,sz56,hst7];exact rfl;exact rfl))
 generalize (⟨(K6.t.put K6.next (some (.cells 56 [.int .i64 0,.int .i64 0,.int .i64 0] 0 false false))).put K6.next (some (.cells 56 [.int .i64 ca,.int .i64 cb,.int .i64 (errE l)] 0 false false)),K6.next + 1⟩:AH) = K7 at *
 have t6:=k6.trans k7
 have t5:=k5.trans t6
 have hc1:K7.cellsAt b4 = _:=(t5.cellsAt l4).trans c4
 have hc2:K7.cellsAt b5 = _:=(t6.cellsAt l5).trans c5
 have hc3:K7.cellsAt b6 = _:=(k7.cellsAt l6).trans c6
 have hc4:K7.cellsAt K6.next = _:=c7
 have v3:=p3.2.2 K7 ((u4.trans w4).trans t5)
 have v6:=p6.2.2 K7 (w6.trans k7)
 have g1:=p1.up (((u2.trans u3).trans (u4.trans w4)).trans t5)
 have g4:=p4.up (w4.trans t5)
 have g2:=p2.up ((u3.trans (u4.trans w4)).trans t5)
 have g5:=p5.up (w5.trans t6)
 have hd8:=deL_u8 hb.byte
 have hdl:=deL_len hb.byte
 have q1:decide (spE (spl s) = spE (spl s)) = true:=decide_eq_true rfl
 have q2:decide (deE (XI bs) = deE (XI bs)) = true:=decide_eq_true rfl
 have q3:decide (errE l = errE l) = true:=decide_eq_true rfl
 have q4:decide (ca = ca) = true:=decide_eq_true rfl
 have q5:decide (cb = cb) = true:=decide_eq_true rfl
 repeat (first|(apply Zh;exact rfl)|apply Zc|apply WO.nil|(apply WO.op;(focus (simp only [rQ,Zb,li,lo,reduceIte,Nat.reduceEqDiff,Nat.reduceAdd,beq_self_eq_true,q1,q2,q3,q4,q5];done));simp only [rE,rS,li,lo,reduceIte,Nat.reduceEqDiff,Nat.reduceAdd,Nat.reduceMul,fa47_0,fa47_1,fa50_0,fa50_1,fa53_0,fa53_1,XO,XN,fa56_2,Za agg37,Za agg26,Za agg36,Za Zx,Za Zu,Zo,Ye,bin_eqlStr,gOk_eqlStr,eqS_trueJ,cu23,cu24,hc1,hc2,hc3,hc4,o1,o2,o3,o4,o5,o6,n1,n2,n3,n4,n5,n6,v3,v6,q1,q2,q3,q4,q5];exact rfl;exact rfl)|(apply WO.unwanted;(focus (simp only [rQ,Zb,li,lo,reduceIte,Nat.reduceEqDiff,Nat.reduceAdd,beq_self_eq_true,q1,q2,q3,q4,q5];done));exact rfl))
 (apply WO.call;(focus (simp only [rQ,Zb,li,lo,reduceIte,Nat.reduceEqDiff,Nat.reduceAdd,beq_self_eq_true,q1,q2,q3,q4,q5];done));simp only [rE,rS,li,lo,reduceIte,Nat.reduceEqDiff,Nat.reduceAdd,Nat.reduceMul,fa47_0,fa47_1,fa50_0,fa50_1,fa53_0,fa53_1,XO,XN,fa56_2,Za agg37,Za agg26,Za agg36,Za Zx,Za Zu,Zo,Ye,bin_eqlStr,gOk_eqlStr,eqS_trueJ,cu23,cu24,hc1,hc2,hc3,hc4,o1,o2,o3,o4,o5,o6,n1,n2,n3,n4,n5,n6,v3,v6,q1,q2,q3,q4,q5];exact rfl;exact same23_c K7 v1 v4 _ g1 g4 (spL_len s hlen);rintro _ K7 ⟨rfl,rfl⟩;refine⟨_,rfl,?_⟩)
 repeat (first|(apply Zh;exact rfl)|apply Zc|apply WO.nil|(apply WO.op;(focus (simp only [rQ,Zb,li,lo,reduceIte,Nat.reduceEqDiff,Nat.reduceAdd,beq_self_eq_true,q1,q2,q3,q4,q5];done));simp only [rE,rS,li,lo,reduceIte,Nat.reduceEqDiff,Nat.reduceAdd,Nat.reduceMul,fa47_0,fa47_1,fa50_0,fa50_1,fa53_0,fa53_1,XO,XN,fa56_2,Za agg37,Za agg26,Za agg36,Za Zx,Za Zu,Zo,Ye,bin_eqlStr,gOk_eqlStr,eqS_trueJ,cu23,cu24,hc1,hc2,hc3,hc4,o1,o2,o3,o4,o5,o6,n1,n2,n3,n4,n5,n6,v3,v6,q1,q2,q3,q4,q5];exact rfl;exact rfl)|(apply WO.unwanted;(focus (simp only [rQ,Zb,li,lo,reduceIte,Nat.reduceEqDiff,Nat.reduceAdd,beq_self_eq_true,q1,q2,q3,q4,q5];done));exact rfl))
 (apply WO.call;(focus (simp only [rQ,Zb,li,lo,reduceIte,Nat.reduceEqDiff,Nat.reduceAdd,beq_self_eq_true,q1,q2,q3,q4,q5];done));simp only [rE,rS,li,lo,reduceIte,Nat.reduceEqDiff,Nat.reduceAdd,Nat.reduceMul,fa47_0,fa47_1,fa50_0,fa50_1,fa53_0,fa53_1,XO,XN,fa56_2,Za agg37,Za agg26,Za agg36,Za Zx,Za Zu,Zo,Ye,bin_eqlStr,gOk_eqlStr,eqS_trueJ,cu23,cu24,hc1,hc2,hc3,hc4,o1,o2,o3,o4,o5,o6,n1,n2,n3,n4,n5,n6,v3,v6,q1,q2,q3,q4,q5];exact rfl;exact sameBs_c K7 v2 v5 _ g2 g5 hd8 hdl;rintro _ K7 ⟨rfl,rfl⟩;refine⟨_,rfl,?_⟩)
 repeat (first|(apply Zh;exact rfl)|apply Zc|apply WO.nil|(apply WO.op;(focus (simp only [rQ,Zb,li,lo,reduceIte,Nat.reduceEqDiff,Nat.reduceAdd,beq_self_eq_true,q1,q2,q3,q4,q5];done));simp only [rE,rS,li,lo,reduceIte,Nat.reduceEqDiff,Nat.reduceAdd,Nat.reduceMul,fa47_0,fa47_1,fa50_0,fa50_1,fa53_0,fa53_1,XO,XN,fa56_2,Za agg37,Za agg26,Za agg36,Za Zx,Za Zu,Zo,Ye,bin_eqlStr,gOk_eqlStr,eqS_trueJ,cu23,cu24,hc1,hc2,hc3,hc4,o1,o2,o3,o4,o5,o6,n1,n2,n3,n4,n5,n6,v3,v6,q1,q2,q3,q4,q5];exact rfl;exact rfl)|(apply WO.unwanted;(focus (simp only [rQ,Zb,li,lo,reduceIte,Nat.reduceEqDiff,Nat.reduceAdd,beq_self_eq_true,q1,q2,q3,q4,q5];done));exact rfl))
 (apply WF.ret;(focus (simp only [Zi,Tri.gp,Zn,ZL,reduceIte,Nat.reduceEqDiff,rs4];exact rfl)))
 rfl
end Go.Ev.C
end
section
namespace Go.Ev.C
open Go.Proofs Go.RowKit Go.ChangeShapes Go.WideShapes Go.Deep
set_option maxRecDepth 100000
section
variable {H:Type} {WB:TypeId × Value→H} {W:World} {base:Nat} {spare:Nat→Bool} {held:Bool} {fuel:Nat}
theorem read_bats {v:Value} {x:DataW H × List MemPlace} (h:DataW.trod WB Q W base spare held fuel 36 [v] = some x):∃l:List XC,YI (ahOf W) (YC W v) l∧(∀d ∈ l,∀r ∈ d.recs,U8 r.r)∧((x.1 = .nil∧l = []) ∨ ∃el sp,x.1 = .slice el sp∧l.length = el.length):=by
 rcases read_fields Tryz.underlying36 Tryz.underlying80 (by kernel_rfl) (by kernel_rfl) h with ⟨rfl,hx⟩ | ⟨a,len,cap,el,sp,rfl,hl,hm,hx,hel,hi⟩
 ·exact⟨[],⟨.nil,fun _ _ _ _ _ h =>absurd rfl h⟩,by simp,.inl ⟨hx,rfl⟩⟩
 ·by_cases h0:len = 0
  ·subst h0
   exact⟨[],⟨avOf_slice0 _ _ _,fun _ _ _ _ _ h =>absurd rfl h⟩,by simp,.inr ⟨el,sp,hx,by simp [hel]⟩⟩
  obtain⟨c,off,arr,e,f,rfl,hc,hcell⟩:=block_of (n:=len * 4) (R:=fun t w =>(t % 4 = 0→∃z,w = .int .i64 z)∧(t % 4 = 1→∃l:List Yz,l.length < 9223372036854775808∧(∀d ∈ l,U8 d.r)∧YP (ahOf W) (YC W w) l)∧(t % 4 = 2→∃z,w = .int .i64 z)∧(t % 4 = 3→∃z,w = .bool z)) (by omega) (a:=a) fun t ht =>by
   have hmod:t % 4 < 4:=Nat.mod_lt _ (by omega)
   have hdm:t / 4 * 4 + t % 4 = t:=by omega
   have key:=hi (t / 4) (by omega)
   rcases (show t % 4 = 0 ∨ t % 4 = 1 ∨ t % 4 = 2 ∨ t % 4 = 3 from by omega) with hj | hj | hj | hj
   ·obtain⟨u,n,y,hu,hy⟩:=key 0 _ rfl
    obtain⟨z,hz,_,_⟩:=DataW.trod_int Tryz.underlying3 hy
    cases hz
    refine⟨_,?_,fun _ =>⟨z,rfl⟩,fun h =>by omega,fun h =>by omega,fun h =>by omega⟩
    rw [← hdm,hj];exact hu
   ·obtain⟨u,n,y,hu,hy⟩:=key 1 _ rfl
    obtain⟨k,hk,h8,hd⟩:=read_recs hy
    refine⟨u,?_,fun h =>by omega,fun _ =>⟨k,hk,h8,hd⟩,fun h =>by omega,fun h =>by omega⟩
    rw [← hdm,hj];exact hu
   ·obtain⟨u,n,y,hu,hy⟩:=key 2 _ rfl
    obtain⟨z,hz,_,_⟩:=DataW.trod_int Tryz.underlying3 hy
    cases hz
    refine⟨_,?_,fun h =>by omega,fun h =>by omega,fun _ =>⟨z,rfl⟩,fun h =>by omega⟩
    rw [← hdm,hj];exact hu
   ·obtain⟨u,n,y,hu,hy⟩:=key 3 _ rfl
    obtain⟨z,hz,_⟩:=DataW.trod_bool Tryz.underlying4 hy
    cases hz
    refine⟨_,?_,fun h =>by omega,fun h =>by omega,fun h =>by omega,fun _ =>⟨z,rfl⟩⟩
    rw [← hdm,hj];exact hu
  obtain⟨l,hll,hlp⟩:=list_of (P:=fun i (d:XC) =>(∀r ∈ d.recs,U8 r.r)∧∃rv,YP (ahOf W) rv d.recs∧d.recs.length < 9223372036854775808∧cut (arr.toList.map (YC W)) (off + i * 4) 4 = some [.int .i64 d.cpu,rv,.int .i64 d.dr,.bool d.ah]) len fun i hilt =>by
   obtain⟨v0,h0,r0,_⟩:=hcell (i * 4) (by omega)
   obtain⟨v1,h1,_,r1,_⟩:=hcell (i * 4 + 1) (by omega)
   obtain⟨v2,h2,_,_,r2,_⟩:=hcell (i * 4 + 2) (by omega)
   obtain⟨v3,h3,_,_,_,r3⟩:=hcell (i * 4 + 3) (by omega)
   obtain⟨z0,rfl⟩:=r0 (by omega)
   obtain⟨rl,hrl,h8,hd⟩:=r1 (by omega)
   obtain⟨z2,rfl⟩:=r2 (by omega)
   obtain⟨z3,rfl⟩:=r3 (by omega)
   rw [← Nat.add_assoc] at h1 h2 h3
   exact⟨⟨z0,rl,z2,z3⟩,h8,YC W v1,hd,hrl,cut_four_at (av_at h0) (av_at h1) (av_at h2) (av_at h3) rfl hd.1.solid rfl rfl⟩
  rw [avOf_sliceS hc hl]
  refine⟨l,⟨by rw [hll];exact .sl _ _ _ _,fun b off' m' cap' e _ =>?_⟩,fun d hd =>?_,.inr ⟨el,sp,hx,by omega⟩⟩
  ·cases e
   exact⟨_,ahOf_lt hc,ahOf_cellsAt hc,fun i d hi =>(hlp i d hi).2⟩
  ·obtain⟨j,hj⟩:=List.mem_iff_getElem?.1 hd
   exact (hlp j d hj).1
theorem capOk_slice (W:World) (a:Addr) (len cap:Nat) (hh:∀b off n c,YC W (.slice (some a) len cap) = .slice b off n c→True):CapOk (YC W (.slice (some a) len cap)):=by
 obtain⟨c,off,spot⟩:=a
 intro b o n k e
 cases spot with
 | none =>
  simp only [YC] at e
  split at e
  ·rename_i hc
   cases e
   exact .inl ⟨_,rfl,hc.2⟩
  ·split at e
   ·cases e
    exact .inr (.inr ⟨rfl,rfl⟩)
   ·cases e
 | some x =>
  cases len with
  | zero =>
   simp only [YC] at e
   cases e
   exact .inr (.inr ⟨rfl,rfl⟩)
  | succ m =>
   simp only [YC] at e
   cases e
theorem read_src {v:Value} {x:DataW H × List MemPlace} (h:DataW.trod WB Q W base spare held fuel 35 [v] = some x):∃s:List Nat,(∀c ∈ s,c < 256)∧Y3 (ahOf W) (YC W v) (Xw s)∧CapOk (YC W v)∧((x.1 = .nil∧s = []) ∨ ∃el sp,x.1 = .slice el sp∧s.length = el.length):=by
 obtain⟨r,⟨bs,hr,h8⟩,hd⟩:=read_data h
 refine⟨bs,h8,by unfold Xw;rw [← hr];exact hd,?_⟩
 have hl:r.length = bs.length:=by rw [hr];simp
 rcases open_slice Tryz.underlying35 h with ⟨hv,hx⟩ | ⟨a,len,cap,m,k,D,Pl,hv,_,hle,hm,hmm,hx,hi⟩
 ·cases hv
  refine⟨fun b off n c e =>(by cases e),.inl ⟨by rw [hx],?_⟩⟩
  have:=hd.1
  rw [hl] at this
  generalize hn:bs.length = n at this
  cases this
  exact List.length_eq_zero_iff.1 hn
 ·cases hv
  refine⟨capOk_slice W a len cap fun _ _ _ _ _ =>trivial,.inr ⟨_,_,by rw [hx],?_⟩⟩
  have hs:=hd.1
  rw [hl] at hs
  rw [List.length_map,List.length_range]
  by_cases h0:len = 0
  ·subst h0
   have h2:=avOf_slice0 W a cap
   generalize YC W (.slice (some a) 0 cap) = u at hs h2
   generalize hn:bs.length = n at hs
   generalize hz:(0:Nat) = z at h2
   cases h2 with
   | nil =>cases hs;rfl
   | sl b off n' c =>cases hs;first | rfl | exact hz.symm
  ·have hlm:len≤m:=by rw [hmm];split <;> omega
   have hC:Q.cellsOf 5 = 1:=by kernel_rfl
   obtain⟨c,off,arr,e,f,rfl,hc,_⟩:=block_of (R:=fun _ _ =>True) (Nat.pos_of_ne_zero h0) (a:=a) fun i hilt =>by
    obtain⟨cs,hcs,_⟩:=hi i (by omega)
    rw [hC,Nat.mul_one] at hcs
    obtain⟨_,hcl,hat⟩:=World.cells?_some hcs
    have:=hat 0 (by omega)
    have hlt:0 < cs.length:=by omega
    exact⟨cs[0],by rw [← List.getElem?_eq_getElem];exact this,trivial⟩
   rw [avOf_sliceS hc hle] at hs
   generalize hn:bs.length = n at hs
   cases hs
   rfl
end
end Go.Ev.C
end