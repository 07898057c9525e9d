/- Contracts: Select. -/
import Derived.Test.YtkkegnkopmpjhaaGreatDoorEvH
set_option linter.unusedVariables false
set_option linter.unusedSimpArgs false
set_option linter.all false
section
namespace Go.Ev.C
open Go.Proofs
set_option maxRecDepth 100000
set_option linter.unusedSimpArgs false
variable {L:World→Prop} [Yu Q L]
/-- A list of numbers. -/
def IntsAt (H:AH) (v:AV) (l:List Int):Prop:=SL v l.length∧∀b off n cap,v = .slice b off n cap→l ≠ []→∃c,b < H.next∧H.cellsAt b = some c∧∀(i:Nat) (z:Int),l[i]? = some z→c[off + i * 1]? = some (.int .i64 z)
theorem IntsAt.up {H H':AH} (u:Up H H') {v:AV} {l:List Int} (h:IntsAt H v l):IntsAt H' v l :=
 ⟨h.1,fun b off n cap e hn =>by
  obtain⟨c,hb,hc,hr⟩:=h.2 b off n cap e hn
  exact⟨c,Nat.lt_of_lt_of_le hb u.next,by rw [u.cellsAt hb];exact hc,hr⟩⟩
theorem IntsAt.lock {H:AH} {v:AV} {l:List Int} (h:IntsAt H v l):IntsAt (lock H) v l :=
 ⟨h.1,fun b off n cap e hn =>by
  obtain⟨c,hb,hc,hr⟩:=h.2 b off n cap e hn
  exact⟨c,hb,lock_cellsAt hc,hr⟩⟩
theorem IntsAt.at {H:AH} {v:AV} {l:List Int} (h:IntsAt H v l) {i:Nat} (hi:i < l.length):∃b off cap c,v = .slice b off l.length cap∧H.cellsAt b = some c∧c[off + i * 1]? = some (.int .i64 l[i]):=by
 obtain⟨h1,h2⟩:=h
 generalize hn:l.length = n at h1
 cases h1 with
 | nil =>omega
 | sl b off n cap =>
  obtain⟨c,_,hc,hr⟩:=h2 b off _ cap rfl (by intro e;subst e;simp at hi)
  exact⟨b,off,cap,c,rfl,hc,hr i l[i] (List.getElem?_eq_getElem hi)⟩
end Go.Ev.C
end
section
namespace Go.Ev.C
open Go.Proofs
set_option maxRecDepth 100000
set_option linter.unusedSimpArgs false
variable {L:World→Prop} [Yu Q L]
end Go.Ev.C
end
section
namespace Go.Ev.C
open Go.Proofs
set_option maxRecDepth 100000
set_option linter.unusedSimpArgs false
variable {L:World→Prop} [Yu Q L]
end Go.Ev.C
end
section
namespace Go.Ev
open Go.RowKit
section
variable {P:Program} {L:World→Prop} {f n:Nat} {t:Tri AV} {H:AH} {k:List AI} {Φ:AF→AH→Prop}
theorem WF.does {ops:Array Oper} {i:Nat} {rest:List Nat} {o:Oper} {v:AV} {H1:AH} {t':Tri AV} (ho:ops[i]? = some o) (hw:Zb ops t o = some true) (hdef:∀c,o.op ≠ .defer c)
  (hx:∀(w0 w:World) (ρ:Yl) (ev:Operand→Value),WR w0 ρ H w→(∀x,EvR ρ t ev x)→Does P w0 ρ H w (.val v,H1) (execOp ev o))
  (hd:XM n t o.dst v = some t') (h:WF P L (PF f n t' (.inRegion ops rest :: k)) H1 Φ):WF P L (PF f n t (.inRegion ops (i :: rest) :: k)) H Φ :=
 h.leads fun cs w0 w g ds c0 _ hm =>by
  obtain⟨ρ,lo,hg,hw',hlo,hf,hs⟩:=hm.rel
  dsimp only at hw' hlo hf hs
  have htd:=hf.todo
  generalize hgt:g.todo = gt at htd
  generalize hga:g.tmps = ga at htd
  cases htd with
  | gone hne =>exact absurd rfl hne
  | plain hk ht =>
   subst hga
   have hfk:IRs ρ (PF f n t (.inRegion ops (i :: rest) :: k)).todo g.todo:=by rw [hgt];exact hk
   have hlow:FrR P ρ H lo H.next false (PF f n t (.inRegion ops (i :: rest) :: k)) g:=⟨hf.fn,hf.kind,hf.lid,hf.round,hf.mode,hf.defers,.plain hfk ht⟩
   cases hk with
   | cons hi hks =>
    cases hi with
    | inRegion =>
     refine one_sound hg hw' hlo hlow rfl hs ho hgt (fun d _ v hv =>ht.2 d v hv) (ex:=some (.val v,H1)) (fun r hr =>?_) (fun c hc =>absurd hc (hdef c)) ?_
     ·cases hr
      exact hx w0 w ρ _ hw' (fun x =>evR_plain hg ht x)
     ·have hw2:Zb ops (PF f n t (.inRegion ops (i :: rest) :: k)).tmps o = some true:=hw
      rw [hw2]
      simp only [XW,Y1]
      rw [finish_PF ho hd]
      rfl
end
end Go.Ev
end
section
namespace Go.Ev.C
open Go.Proofs Go.RowKit
def zs:Nat→List AV
 | 0 =>[]
 | n + 1 =>.int .i64 0 :: .int .i64 0 :: .nilslice :: zs n
theorem zs_length:∀n,(zs n).length = n * 3
 | 0 =>rfl
 | n + 1 =>by simp [zs,zs_length n];omega
theorem zs_one:∀n,(zs n).all Yn = true
 | 0 =>rfl
 | n + 1 =>by simp [zs,zs_one n,Yn]
theorem zs_rel {ρ:Yl} {l:List Value} (h:Xy ρ [.int .i64 0,.int .i64 0,.nilslice] l):∀n,Xy ρ (zs n) (List.replicate n l).flatten
 | 0 =>.nil
 | n + 1 =>by
  have ih:=zs_rel h n
  rw [List.replicate_succ,List.flatten_cons]
  cases h with
  | cons h1 h =>cases h with
   | cons h2 h =>cases h with
    | cons h3 h =>cases h;exact .cons h1 (.cons h2 (.cons h3 ih))
theorem zc (a b c:Value):∀m,(List.range (m * 3)).map (fun i =>(#[a,b,c]:Array Value)[i % 3]!) = (List.replicate m [a,b,c]).flatten
 | 0 =>rfl
 | m + 1 =>by
  rw [show (m + 1) * 3 = m * 3 + 1 + 1 + 1 from by omega,List.range_succ,List.range_succ,List.range_succ,List.replicate_succ',List.flatten_append]
  simp only [List.map_append,zc a b c m,List.map_cons,List.map_nil]
  rw [show m * 3 % 3 = 0 from by omega,show (m * 3 + 1) % 3 = 1 from by omega,show (m * 3 + 1 + 1) % 3 = 2 from by omega]
  simp
end Go.Ev.C
end
section
namespace Go.Ev.C
open Go.Proofs
def RowAt (w:Nat) (H:AH) (b:Nat) (c:List AV) (q:Nat) (d:Yz):Prop:=∃dv,Wv H b dv d.r∧(∀b' off m cap,dv = .slice b' off m cap→w≤b')∧cut c (q * 3) 3 = some [.int .i64 d.id,.int .i64 d.tm,dv]
/-- The first ones are what was kept; from place j on nothing has turned. -/
def Kept (w:Nat) (H:AH) (b:Nat) (l:List Yz) (j:Nat) (ks:List Yz):Prop:=∃c,H.t.get b = some (.cells 87 c 0 false false)∧b < H.next∧c.length = l.length * 3∧ks.length≤j∧(∀(q:Nat) (d:Yz),ks[q]? = some d→RowAt w H b c q d)∧∀(q:Nat) (d:Yz),j≤q→l[q]? = some d→RowAt w H b c q d
theorem RowAt.up {H H':AH} (u:Up H H') {b:Nat} {c:List AV} {q:Nat} {d:Yz} {w:Nat} (h:RowAt w H b c q d):RowAt w H' b c q d:=by
 obtain⟨dv,h1,hw,h2⟩:=h
 exact⟨dv,h1.up u,hw,h2⟩
theorem Kept.up {H H':AH} (u:Up H H') {b:Nat} {l ks:List Yz} {j:Nat} {w:Nat} (h:Kept w H b l j ks):Kept w H' b l j ks:=by
 obtain⟨c,h1,h2,h3,h4,h5,h6⟩:=h
 exact⟨c,by rw [u.old b h2];exact h1,Nat.lt_of_lt_of_le h2 u.next,h3,h4,fun q d hq =>(h5 q d hq).up u,fun q d hj hq =>(h6 q d hj hq).up u⟩
theorem Kept.start {w:Nat} {H:AH} {b:Nat} {l:List Yz} (h:OwnNe w l.length H b l) {i:Nat} (hi:i≤l.length):Kept w H b l (i + 1) (l.take i):=by
 obtain⟨c,hg,hb,h1,h4⟩:=h
 refine⟨c,hg,hb,h1,by simp;omega,fun q d hq =>?_,fun q d _ hq =>?_⟩
 ·have hq':l[q]? = some d:=by
   rw [List.getElem?_take] at hq
   split at hq
   ·exact hq
   ·cases hq
  obtain⟨dv,hd,hw,hc⟩:=h4 q d hq'
  exact⟨dv,hd,hw (List.getElem?_eq_some_iff.1 hq').1,hc⟩
 ·obtain⟨dv,hd,hw,hc⟩:=h4 q d hq
  exact⟨dv,hd,hw (List.getElem?_eq_some_iff.1 hq).1,hc⟩
theorem Kept.skip {H:AH} {b:Nat} {l ks:List Yz} {j w:Nat} (h:Kept w H b l j ks):Kept w H b l (j + 1) ks:=by
 obtain⟨c,h1,h2,h3,h4,h5,h6⟩:=h
 exact⟨c,h1,h2,h3,by omega,h5,fun q d hj hq =>h6 q d (by omega) hq⟩
theorem Kept.at {H:AH} {b:Nat} {l ks:List Yz} {j w:Nat} (h:Kept w H b l j ks) (hj:j < l.length):∃c dv,H.cellsAt b = some c∧Wv H b dv l[j].r∧(∀b' off m cap,dv = .slice b' off m cap→w≤b')∧cut c (0 + j * 3) 3 = some [.int .i64 l[j].id,.int .i64 l[j].tm,dv]:=by
 obtain⟨c,h1,h2,h3,h4,h5,h6⟩:=h
 obtain⟨dv,hd,hw,hc⟩:=h6 j l[j] (Nat.le_refl _) (List.getElem?_eq_getElem hj)
 exact⟨c,dv,by unfold AH.cellsAt;rw [h1],hd,hw,by rw [Nat.zero_add];exact hc⟩
theorem over_ok {c vs:List AV} {off:Nat} (hl:off + vs.length≤c.length) (h1:vs.all Yn = true):over c off vs = some (c.take off ++ vs ++ c.drop (off + vs.length)):=by
 unfold over
 rw [if_pos]
 simp only [Bool.and_eq_true,Nat.ble_eq]
 exact⟨hl,h1⟩
theorem RowAt.over {H:AH} {b:Nat} {B:AB} {c c' vs:List AV} {off q w:Nat} {d:Yz} (h:RowAt w H b c q d) (ho:over c off vs = some c') (hne:q * 3 + 3≤off ∨ off + vs.length≤q * 3):RowAt w (H.set b B) b c' q d:=by
 obtain⟨dv,hd,hw,hc⟩:=h
 obtain⟨_,hget⟩:=over_get ho
 obtain⟨k1,k2⟩:=Yg.1 hc
 refine⟨dv,hd.set,hw,Yg.2 ⟨k1,fun p hp =>?_⟩⟩
 obtain⟨u,p1,p2,p3⟩:=k2 p hp
 refine⟨u,?_,p2,p3⟩
 rw [hget,if_neg (by omega)]
 exact p1
theorem Kept.put {H:AH} {b:Nat} {l ks:List Yz} {j w:Nat} (h:Kept w H b l j ks) (hj:j < l.length) {d:Yz} {dv:AV} (hd:Wv H b dv d.r) (hw:∀b' off m cap,dv = .slice b' off m cap→w≤b') :
  ∃c c',H.t.get b = some (.cells 87 c 0 false false)∧Go.Ev.over c (0 + ks.length * 3) [.int .i64 d.id,.int .i64 d.tm,dv] = some c'∧Kept w (H.set b (.cells 87 c' 0 false false)) b l (j + 1) (ks ++ [d]):=by
 obtain⟨c,h1,h2,h3,h4,h5,h6⟩:=h
 have ho:=over_ok (c:=c) (vs:=[.int .i64 d.id,.int .i64 d.tm,dv]) (off:=0 + ks.length * 3) (by simp;omega) (by simp [one_int,hd.1.one])
 obtain⟨hl,hget⟩:=over_get ho
 refine⟨c,_,h1,ho,_,by unfold AH.set;rw [Tri.gp,if_pos rfl],h2,by rw [hl];exact h3,by simp;omega,fun q e hq =>?_,fun q e hjq hq =>?_⟩
 ·by_cases hql:q < ks.length
  ·rw [List.getElem?_append_left hql] at hq
   exact (h5 q e hq).over ho (by left;omega)
  ·rw [List.getElem?_append_right (by omega)] at hq
   obtain rfl:q = ks.length:=by
    have:=(List.getElem?_eq_some_iff.1 hq).1
    simp at this
    omega
   simp at hq
   subst hq
   refine⟨dv,hd.set,hw,Yg.2 ⟨rfl,fun p hp =>?_⟩⟩
   rw [hget,if_pos (by simp;omega)]
   rcases (show p = 0 ∨ p = 1 ∨ p = 2 from by omega) with rfl | rfl | rfl
   ·exact⟨_,by simp,rfl,rfl⟩
   ·exact⟨_,by rw [show ks.length * 3 + 1 - (0 + ks.length * 3) = 1 from by omega];rfl,rfl,rfl⟩
   ·exact⟨dv,by rw [show ks.length * 3 + 2 - (0 + ks.length * 3) = 2 from by omega];rfl,hd.1.solid,rfl⟩
 ·exact (h6 q e (by omega) hq).over ho (by right;simp;omega)
theorem Kept.recs {H:AH} {b:Nat} {l ks:List Yz} {j w:Nat} (h:Kept w H b l j ks) (cap:Cap):YP H (.slice b 0 ks.length cap) ks:=by
 obtain⟨c,h1,h2,h3,h4,h5,h6⟩:=h
 refine⟨.sl _ _ _ _,fun b' off n cap' e _ =>?_⟩
 cases e
 refine⟨c,h2,by unfold AH.cellsAt;rw [h1],fun i d hi =>?_⟩
 obtain⟨dv,hd,_,hc⟩:=h5 i d hi
 exact⟨dv,hd.data,by rw [Nat.zero_add];exact hc⟩
theorem Kept.from {H:AH} {b:Nat} {l ks:List Yz} {j w:Nat} (h:Kept w H b l j ks) (hb:w≤b) (cap:Cap):Yx w H (.slice b 0 ks.length cap) ks:=by
 obtain⟨c,h1,h2,h3,h4,h5,h6⟩:=h
 refine⟨.sl _ _ _ _,fun b' off n cap' e _ =>?_⟩
 cases e
 refine⟨c,hb,h2,by unfold AH.cellsAt;rw [h1],fun i d hi =>?_⟩
 obtain⟨dv,hd,hw,hc⟩:=h5 i d hi
 exact⟨dv,⟨hd.1,fun b' off m cap e hn =>⟨hw b' off m cap e,(hd.2 b' off m cap e hn).2⟩⟩,by rw [Nat.zero_add];exact hc⟩
theorem Kept.clear {H:AH} {b:Nat} {l ks:List Yz} {j w:Nat} (h:Kept w H b l j ks) (hk:ks.length≤l.length):∃c c',H.t.get b = some (.cells 87 c 0 false false)∧Go.Ev.over c (0 + ks.length * 3) (zs (l.length - ks.length)) = some c'∧Kept w (H.set b (.cells 87 c' 0 false false)) b l (max j l.length) ks:=by
 obtain⟨c,h1,h2,h3,h4,h5,h6⟩:=h
 have hz:=zs_length (l.length - ks.length)
 have ho:=over_ok (c:=c) (vs:=zs (l.length - ks.length)) (off:=0 + ks.length * 3) (by rw [hz,h3];omega) (zs_one _)
 obtain⟨hl,hget⟩:=over_get ho
 refine⟨c,_,h1,ho,_,by unfold AH.set;rw [Tri.gp,if_pos rfl],h2,by rw [hl];exact h3,by omega,fun q e hq =>?_,fun q e hjq hq =>?_⟩
 ·have:=(List.getElem?_eq_some_iff.1 hq).1
  exact (h5 q e hq).over ho (by left;omega)
 ·have:=(List.getElem?_eq_some_iff.1 hq).1
  omega
end Go.Ev.C
end
section
namespace Go.Ev.C
open Go.Proofs
set_option maxRecDepth 100000
set_option linter.unusedSimpArgs false
variable {L:World→Prop} [Yu Q L]
theorem WO.does {f n:Nat} {t:Tri AV} {H:AH} {k:List AI} {Φ:AF→AH→Prop} {ops:Array Oper} {i:Nat} {l:List Oper} {o:Oper} {v:AV} {H1:AH} {t':Tri AV} (hw:Zb ops t o = some true) (hdef:∀c,o.op ≠ .defer c)
  (hx:∀(w0 w:World) (ρ:Yl) (ev:Operand→Value),WR w0 ρ H w→(∀x,EvR ρ t ev x)→Does Q w0 ρ H w (.val v,H1) (execOp ev o))
  (hd:XM n t o.dst v = some t') (h:WO Q L f n ops (i + 1) l t' H1 k Φ):WO Q L f n ops i (o :: l) t H k Φ:=fun hdr =>by
 obtain⟨h1,h2⟩:=Xx hdr
 exact WF.does (by simpa using h1) hw hdef hx hd (h h2)
end Go.Ev.C
end
section
namespace Go.Ev.C
open Go.Proofs
set_option maxRecDepth 100000
set_option linter.unusedSimpArgs false
variable {L:World→Prop} [Yu Q L]
end Go.Ev.C
end
section
namespace Go.Ev.C
open Go.Proofs
set_option maxRecDepth 100000
set_option linter.unusedSimpArgs false
variable {L:World→Prop} [Yu Q L]
theorem Yx.keep {w m:Nat} {H:AH} {v:AV} {l:List Yz} (h:Yx w H v l) (hm:m < w) (B:AB):Yx w (H.set m B) v l :=
 ⟨h.1,fun b off n cap e hn =>by
  obtain⟨c,h1,h2,h3,h4⟩:=h.2 b off n cap e hn
  refine⟨c,h1,h2,by rw [set_cellsAt (by omega)];exact h3,fun i d hi =>?_⟩
  obtain⟨dv,hd,hc⟩:=h4 i d hi
  refine⟨dv,⟨hd.1,fun b' off m' cap e hn =>?_⟩,hc⟩
  obtain⟨k1,c',k2,k3,k4⟩:=hd.2 b' off m' cap e hn
  exact⟨k1,c',k2,by rw [set_cellsAt (by omega)];exact k3,k4⟩⟩
theorem SL.cells' {v:AV} {n:Nat} (h:SL v n):v.cells = [v]:=by cases h <;> rfl
theorem Up.box3d (H:AH) (o1 o2 o3:Option AB):Up H ⟨((H.t.put H.next o1).put (H.next + 1) o2).put (H.next + 1 + 1) o3,H.next + 1 + 1 + 1⟩ :=
 ⟨by show H.next≤H.next + 1 + 1 + 1;omega,fun b hb =>by show (((H.t.put _ _).put _ _).put _ _).get b = _;rw [Tri.gp,if_neg (by omega),Tri.gp,if_neg (by omega),Tri.gp,if_neg (by omega)]⟩
end Go.Ev.C
end