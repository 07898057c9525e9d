/- Contracts: copies. -/
import Derived.Test.YtkkegnkopmpjhaaGreatDoorEvG
import Derived.Test.YtkkegnkopmpjhaaGreatDoorEvF
set_option linter.unusedVariables false
set_option linter.unusedSimpArgs false
set_option linter.all false
section
namespace Go.Ev.C
open Go.Proofs
set_option maxRecDepth 100000
set_option linter.unusedSimpArgs false
variable {L:World→Prop} [Yu Q L]
theorem Up.own {H:AH} {b:Nat} (hb:H.next≤b) (o:Option AB) (m:Nat) (hm:H.next≤m) {t:Tri AB} (h:Up H ⟨t,m⟩):Up H ⟨t.put b o,m⟩ :=
 ⟨hm,fun b' hb' =>by show (t.put _ _).get b' = _;rw [Tri.gp,if_neg (by omega)];exact h.old b' hb'⟩
end Go.Ev.C
end
section
namespace Go.Ev.C
open Go.Proofs
set_option maxRecDepth 100000
set_option linter.unusedSimpArgs false
variable {L:World→Prop} [Yu Q L]
theorem rows_all {c:List AV} {n k:Nat} (hlen:c.length = n * k) (h:∀i,i < n→∃r,cut c (i * k) k = some r∧r.all Yn = true):c.all Yn = true:=by
 refine List.all_eq_true.2 fun v hv =>?_
 obtain⟨j,hj,rfl⟩:=List.mem_iff_getElem.1 hv
 have hk:0 < k:=by
  rcases Nat.eq_zero_or_pos k with rfl | h0
  ·rw [hlen,Nat.mul_zero] at hj;omega
  ·exact h0
 obtain⟨r,hr,h1⟩:=h (j / k) ((Nat.div_lt_iff_lt_mul hk).2 (by rw [← hlen];exact hj))
 obtain⟨w,k1,_,k3⟩:=(Yg.1 hr).2 (j % k) (Nat.mod_lt _ hk)
 have hjk:=Nat.div_add_mod' j k
 rw [hjk] at k1
 rw [List.getElem?_eq_getElem hj] at k1
 cases k1
 exact List.all_eq_true.1 h1 _ (List.mem_of_getElem? k3)
/-- Rows of records, one behind the other. -/
def Rows (H:AH) (c:List AV) (l:List Yz):Prop:=c.length = l.length * 3∧c.all Yn = true∧c.all ZO = true∧∀(i:Nat) (d:Yz),l[i]? = some d→∃dv,Y3 H dv d.r∧cut c (i * 3) 3 = some [.int .i64 d.id,.int .i64 d.tm,dv]
theorem Rows.up {H H':AH} (u:Up H H') {c:List AV} {l:List Yz} (h:Rows H c l):Rows H' c l :=
 ⟨h.1,h.2.1,h.2.2.1,fun i d hi =>by obtain⟨dv,hd,hc⟩:=h.2.2.2 i d hi;exact⟨dv,hd.up u,hc⟩⟩
theorem Rows.nil (H:AH):Rows H [] []:=⟨rfl,rfl,rfl,fun i d h =>by simp at h⟩
theorem Rows.append {H:AH} {c c':List AV} {l l':List Yz} (h:Rows H c l) (h':Rows H c' l'):Rows H (c ++ c') (l ++ l'):=by
 obtain⟨h1,h2,h3,h4⟩:=h
 obtain⟨k1,k2,k3,k4⟩:=h'
 refine⟨by simp [h1,k1,Nat.add_mul],by rw [List.all_append,h2,k2];rfl,by rw [List.all_append,h3,k3];rfl,fun i d hi =>?_⟩
 by_cases hil:i < l.length
 ·rw [List.getElem?_append_left hil] at hi
  obtain⟨dv,hd,hc⟩:=h4 i d hi
  exact⟨dv,hd,cut_append_left hc⟩
 ·rw [List.getElem?_append_right (by omega)] at hi
  obtain⟨dv,hd,hc⟩:=k4 _ d hi
  refine⟨dv,hd,?_⟩
  have:=cut_append_right (c:=c) hc
  rw [h1,← Nat.add_mul,show l.length + (i - l.length) = i from by omega] at this
  exact this
/-- A list of the run's own. -/
def OwnRecs (H:AH) (b:Nat) (l:List Yz):Prop:=∃c,H.t.get b = some (.cells 87 c 0 false false)∧b < H.next∧Rows H c l
theorem OwnRecs.recs {H:AH} {b:Nat} {l:List Yz} (h:OwnRecs H b l) (cap:Cap):YP H (.slice b 0 l.length cap) l:=by
 obtain⟨c,hg,hb,h1,h2,h3,h4⟩:=h
 refine⟨.sl _ _ _ _,fun b' off n cap' e _ =>?_⟩
 cases e
 exact⟨c,hb,by unfold AH.cellsAt;rw [hg],fun i d hi =>by rw [Nat.zero_add];exact h4 i d hi⟩
theorem YP.rows {H:AH} {b off n:Nat} {cap:Cap} {l:List Yz} (h:YP H (.slice b off n cap) l) (hne:l ≠ []):n = l.length∧∃c cs,b < H.next∧H.cellsAt b = some c∧cut c off (l.length * 3) = some cs∧Rows H cs l:=by
 obtain⟨hs,h2⟩:=h
 obtain⟨c,hb,hc,hr⟩:=h2 b off n cap rfl hne
 obtain⟨cs,h3,h4⟩:=cut_rows (c:=c) (off:=off) (n:=l.length) (k:=3) fun i hi =>by
  obtain⟨dv,_,hcut⟩:=hr i l[i] (List.getElem?_eq_getElem hi)
  exact⟨_,hcut⟩
 have h5:∀(i:Nat) (d:Yz),l[i]? = some d→∃dv,Y3 H dv d.r∧cut cs (i * 3) 3 = some [.int .i64 d.id,.int .i64 d.tm,dv]:=fun i d hi =>by
  obtain⟨dv,hd,hcut⟩:=hr i d hi
  exact⟨dv,hd,by rw [h4 i (List.getElem?_eq_some_iff.1 hi).1];exact hcut⟩
 refine⟨by generalize hn:l.length = m at hs;cases hs;rfl,c,cs,hb,hc,h3,(Yg.1 h3).1,?_,cut_all h3,h5⟩
 refine rows_all (Yg.1 h3).1 fun i hi =>?_
 obtain⟨dv,hd,hcut⟩:=h5 i l[i] (List.getElem?_eq_getElem hi)
 exact⟨_,hcut,by simp [one_int,hd.1.one]⟩
end Go.Ev.C
end
section
namespace Go.Ev.C
open Go.Proofs
set_option maxRecDepth 100000
set_option linter.unusedSimpArgs false
variable {L:World→Prop} [Yu Q L]
theorem over_get {c vs c':List AV} {off:Nat} (h:over c off vs = some c'):c'.length = c.length∧∀j,c'[j]? = if off≤j∧j < off + vs.length then vs[j - off]? else c[j]?:=by
 obtain⟨hle,_,rfl⟩:=over_some h
 refine⟨by simp;omega,fun j =>?_⟩
 rw [List.append_assoc,List.getElem?_append]
 simp only [List.length_take]
 rw [Nat.min_eq_left (by omega)]
 by_cases h1:j < off
 ·rw [if_pos h1,if_neg (by omega),List.getElem?_take,if_pos h1]
 ·rw [if_neg h1,List.getElem?_append]
  by_cases h2:j - off < vs.length
  ·rw [if_pos h2,if_pos (by omega)]
  ·rw [if_neg h2,if_neg (by omega),List.getElem?_drop,show off + vs.length + (j - off - vs.length) = j from by omega]
/-- Data that lie elsewhere. -/
def Wv (H:AH) (b:Nat) (v:AV) (r:List AV):Prop:=SL v r.length∧∀b' off m cap,v = .slice b' off m cap→r ≠ []→b' ≠ b∧∃c,b' < H.next∧H.cellsAt b' = some c∧cut c off r.length = some r∧r.all Yn = true
theorem Wv.data {H:AH} {b:Nat} {v:AV} {r:List AV} (h:Wv H b v r):Y3 H v r:=⟨h.1,fun b' off m cap e hn =>(h.2 b' off m cap e hn).2⟩
theorem Wv.up {H H':AH} (u:Up H H') {b:Nat} {v:AV} {r:List AV} (h:Wv H b v r):Wv H' b v r :=
 ⟨h.1,fun b' off m cap e hn =>by
  obtain⟨h1,c,hb,hc,hr⟩:=h.2 b' off m cap e hn
  exact⟨h1,c,Nat.lt_of_lt_of_le hb u.next,by rw [u.cellsAt hb];exact hc,hr⟩⟩
theorem Wv.set {H:AH} {b:Nat} {B:AB} {v:AV} {r:List AV} (h:Wv H b v r):Wv (H.set b B) b v r :=
 ⟨h.1,fun b' off m cap e hn =>by
  obtain⟨h1,c,hb,hc,hr⟩:=h.2 b' off m cap e hn
  refine⟨h1,c,hb,?_,hr⟩
  unfold AH.cellsAt AH.set at *
  dsimp only
  rw [Tri.gp,if_neg h1]
  exact hc⟩
/-- Records whose memory was made behind a mark. -/
def Xa (lo:Nat) (H:AH) (v:AV) (r:List AV):Prop:=SL v r.length∧∀b' off m cap,v = .slice b' off m cap→r ≠ []→lo≤b'∧∃c,b' < H.next∧H.cellsAt b' = some c∧cut c off r.length = some r∧r.all Yn = true
def Yx (lo:Nat) (H:AH) (v:AV) (l:List Yz):Prop:=SL v l.length∧∀b off n cap,v = .slice b off n cap→l ≠ []→∃c,lo≤b∧b < H.next∧H.cellsAt b = some c∧∀(i:Nat) (d:Yz),l[i]? = some d→∃dv,Xa lo H dv d.r∧cut c (off + i * 3) 3 = some [.int .i64 d.id,.int .i64 d.tm,dv]
theorem set_cellsAt {H:AH} {b m:Nat} {B:AB} (h:b ≠ m):(H.set m B).cellsAt b = H.cellsAt b:=by
 unfold AH.cellsAt AH.set
 dsimp only
 rw [Tri.gp,if_neg h]
theorem Yx.set {lo m:Nat} {H:AH} {v:AV} {l:List Yz} (h:Yx lo H v l) (hm:m < lo) (B:AB):YP (H.set m B) v l :=
 ⟨h.1,fun b off n cap e hn =>by
  obtain⟨c,h1,h2,h3,h4⟩:=h.2 b off n cap e hn
  refine⟨c,h2,by rw [set_cellsAt (by omega)];exact h3,fun i d hi =>?_⟩
  obtain⟨dv,hd,hc⟩:=h4 i d hi
  refine⟨dv,⟨hd.1,fun b' off m' cap e hn =>?_⟩,hc⟩
  obtain⟨k1,c',k2,k3,k4⟩:=hd.2 b' off m' cap e hn
  exact⟨c',k2,by rw [set_cellsAt (by omega)];exact k3,k4⟩⟩
/-- A list of the run's own: the data of the first i records were made behind a mark. -/
def OwnNe (lo i:Nat) (H:AH) (b:Nat) (l:List Yz):Prop:=∃c,H.t.get b = some (.cells 87 c 0 false false)∧b < H.next∧c.length = l.length * 3∧∀(j:Nat) (d:Yz),l[j]? = some d→∃dv,Wv H b dv d.r∧(j < i→∀b' off m cap,dv = .slice b' off m cap→lo≤b')∧cut c (j * 3) 3 = some [.int .i64 d.id,.int .i64 d.tm,dv]
theorem OwnNe.recs {lo:Nat} {H:AH} {b:Nat} {l:List Yz} (h:OwnNe lo l.length H b l) (hb0:lo≤b) (cap:Cap):Yx lo H (.slice b 0 l.length cap) l:=by
 obtain⟨c,hg,hb,h1,h4⟩:=h
 refine⟨.sl _ _ _ _,fun b' off n cap' e _ =>?_⟩
 cases e
 refine⟨c,hb0,hb,by unfold AH.cellsAt;rw [hg],fun i d hi =>?_⟩
 obtain⟨dv,hd,hlo,hc⟩:=h4 i d hi
 exact⟨dv,⟨hd.1,fun b' off m cap e hn =>⟨hlo (List.getElem?_eq_some_iff.1 hi).1 b' off m cap e,(hd.2 b' off m cap e hn).2⟩⟩,by rw [Nat.zero_add];exact hc⟩
/-- A record's data are put in another place. -/
theorem OwnNe.put {lo:Nat} {H H1:AH} {b:Nat} {l:List Yz} {i:Nat} (h:OwnNe lo i H b l) (hlo:lo≤H.next) (hi:i < l.length) (hu:Up H H1) {v:AV} (hv:Y3 H1 v l[i].r) (hnew:∀b' off m cap,v = .slice b' off m cap→H.next≤b') :
  ∃c c',H1.t.get b = some (.cells 87 c 0 false false)∧over c (i * 3 + 2) [v] = some c'∧OwnNe lo (i + 1) (H1.set b (.cells 87 c' 0 false false)) b l:=by
 obtain⟨c,hg,hb,h1,h4⟩:=h
 have hone:=hv.1.one
 have hov:over c (i * 3 + 2) [v] = some (c.take (i * 3 + 2) ++ [v] ++ c.drop (i * 3 + 2 + 1)):=by
  unfold over
  rw [if_pos]
  ·rfl
  ·simp [hone];omega
 refine⟨c,_,by rw [hu.old b hb];exact hg,hov,_,by unfold AH.set;rw [Tri.gp,if_pos rfl],Nat.lt_of_lt_of_le hb hu.next,by rw [(over_get hov).1];exact h1,fun j d hj =>?_⟩
 obtain⟨dv,hd,hlod,hcut⟩:=h4 j d hj
 obtain⟨hl,hget⟩:=over_get hov
 obtain⟨k1,k2⟩:=Yg.1 hcut
 by_cases e:j = i
 ·subst e
  have hdj:d = l[j]:=by rw [List.getElem?_eq_getElem hi] at hj;exact (Option.some.inj hj).symm
  subst hdj
  refine⟨v,Wv.set ⟨hv.1,fun b' off m cap e hn =>⟨by have:=hnew b' off m cap e;omega,hv.2 b' off m cap e hn⟩⟩,fun _ b' off m cap e =>Nat.le_trans hlo (hnew b' off m cap e),Yg.2 ⟨rfl,fun q hq =>?_⟩⟩
  rw [hget]
  rcases Nat.lt_or_ge q 2 with h2 | h2
  ·obtain⟨w,p1,p2,p3⟩:=k2 q hq
   refine⟨w,by rw [if_neg (by omega)];exact p1,p2,?_⟩
   rcases (show q = 0 ∨ q = 1 from by omega) with rfl | rfl <;> exact p3
  ·obtain rfl:q = 2:=by omega
   exact⟨v,by rw [if_pos (by simp)];simp,hv.1.solid,rfl⟩
 ·refine⟨dv,(hd.up hu).set,fun hji =>hlod (by omega),Yg.2 ⟨k1,fun q hq =>?_⟩⟩
  obtain⟨w,p1,p2,p3⟩:=k2 q hq
  refine⟨w,?_,p2,p3⟩
  rw [hget,if_neg (by simp;omega)]
  exact p1
theorem OwnNe.at {lo i0:Nat} {H:AH} {b:Nat} {l:List Yz} (h:OwnNe lo i0 H b l) {i:Nat} (hi:i < l.length):∃c dv,H.cellsAt b = some c∧Y3 H dv l[i].r∧c[i * 3 + 2]? = some dv:=by
 obtain⟨c,hg,hb,h1,h4⟩:=h
 obtain⟨dv,hd,_,hcut⟩:=h4 i _ (List.getElem?_eq_getElem hi)
 obtain⟨w,p1,_,p3⟩:=(Yg.1 hcut).2 2 (by omega)
 cases p3
 exact⟨c,dv,by unfold AH.cellsAt;rw [hg],hd.data,p1⟩
end Go.Ev.C
end
section
namespace Go.Ev.C
open Go.Proofs
noncomputable def c28:Code:=(Tryz.f28.body).getD .skip
noncomputable def c29:Code:=(Tryz.f29.body).getD .skip
theorem en29 (a0 a1:AV):ZQ Q 29 [a0,a1] .normal = some (PF 29 31 (Zn 0 [a0,a1] .leaf) [.code c29]):=by kernel_rfl
theorem rs29 (n:Nat) (t:Tri AV) (k:List AI) (H:AH):ZI Q (PF 29 n t k) H = ZL (Zi Q t H [.tmp 4]):=by kernel_rfl
theorem cu29 (l:List AV) (H:AH):Yh Q (.func 29 [] []) l H = some (.enter 29 ([] ++ l ++ []),H):=by kernel_rfl
noncomputable def c65:Code:=(Tryz.f65.body).getD .skip
theorem en65 (a0 a1:AV):ZQ Q 65 [a0,a1] .normal = some (PF 65 27 (Zn 0 [a0,a1] .leaf) [.code c65]):=by kernel_rfl
theorem rs65 (n:Nat) (t:Tri AV) (k:List AI) (H:AH):ZI Q (PF 65 n t k) H = ZL (Zi Q t H [.tmp 4]):=by kernel_rfl
theorem cu65 (l:List AV) (H:AH):Yh Q (.func 65 [] []) l H = some (.enter 65 ([] ++ l ++ []),H):=by kernel_rfl
noncomputable def c30:Code:=(Tryz.f30.body).getD .skip
theorem en30 (a0 a1:AV):ZQ Q 30 [a0,a1] .normal = some (PF 30 26 (Zn 0 [a0,a1] .leaf) [.code c30]):=by kernel_rfl
theorem rs30 (n:Nat) (t:Tri AV) (k:List AI) (H:AH):ZI Q (PF 30 n t k) H = ZL (Zi Q t H [.tmp 4]):=by kernel_rfl
theorem cu30 (l:List AV) (H:AH):Yh Q (.func 30 [] []) l H = some (.enter 30 ([] ++ l ++ []),H):=by kernel_rfl
end Go.Ev.C
end