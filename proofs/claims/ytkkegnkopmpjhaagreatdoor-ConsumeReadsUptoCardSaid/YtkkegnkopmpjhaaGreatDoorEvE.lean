/- Walks with variables over the evaluator: rules and contracts. -/
import Derived.Test.YtkkegnkopmpjhaaGreatDoorEvD
set_option linter.unusedVariables false
set_option linter.unusedSimpArgs false
set_option linter.all false
section
namespace Go.Ev
open Go.RowKit
/-- What is asked of the program, and of what is known of the world in which it began. -/
class Yu (P:Program) (L:World→Prop):Prop where
 ng : ∀ (f : FuncId) (fn : Func), P.funcs[f]? = some fn → (fn.name == "runtime.NumGoroutine") = false
 mix:P.follows .mixedOrders = true
 keep:∀w w',L w→Below w.heap.size w w'→L w'
/-- As Leads, in worlds of which something is known. -/
def Yy (P:Program) (L:World→Prop) (m m':Yc):Prop:=∀(w0 w:World) (g:Frame) (ds c0:List Frame),L w0→MR P w0 m g ds w→Goes P w0 g ds c0 w m'
theorem Yy.refl {P:Program} {L:World→Prop} (m:Yc):Yy P L m m:=fun _ _ _ _ _ _ h =>⟨_,_,_,.refl _ _,h⟩
theorem Yy.trans {P:Program} {L:World→Prop} {m m1 m2:Yc} (h:Yy P L m m1) (h':Yy P L m1 m2):Yy P L m m2:=fun w0 w g ds c0 hL hm =>by
 obtain⟨g',ds',w',hs,hm'⟩:=h w0 w g ds c0 hL hm
 obtain⟨g2,ds2,w2,hs2,hm2⟩:=h' w0 w' g' ds' c0 hL hm'
 exact⟨g2,ds2,w2,hs.trans hs2,hm2⟩
theorem Z0 {P:Program} {L:World→Prop} [hP:Yu P L] {m m':Yc} (h:YU P m = some m'):Yy P L m m' :=
 fun w0 w g ds c0 _ hm =>stepA_leads hP.ng hP.mix (fun w0 =>lit_goes hP.mix w0) h w0 w g ds c0 hm
theorem XZ {P:Program} {L:World→Prop} [hP:Yu P L] {n:Nat} {m m':Yc} (h:runA P n m = some m'):Yy P L m m' :=
 fun w0 w g ds c0 _ hm =>runA_leads hP.ng hP.mix (fun w0 =>lit_goes hP.mix w0) h w0 w g ds c0 hm
/-! ### a call that leaves nothing behind -/
def lockB:AB→Option AB
 | .cells e c fz mk _ =>some (.cells e c fz mk true)
 | .map l _ =>some (.map l true)
 | _ =>none
def Tri.fmap {α:Type} (f:α→Option α):Tri α→Tri α
 | .leaf =>.leaf
 | .node l v r =>.node (fmap f l) (v.bind f) (fmap f r)
theorem Tri.get_fmap {α:Type} (f:α→Option α):∀(t:Tri α) (n:Nat),(Tri.fmap f t).get n = (t.get n).bind f
 | .leaf,n =>by cases n <;> simp [Tri.fmap,Tri.get]
 | .node l v r,0 =>by simp [Tri.fmap,Tri.get]
 | .node l v r,k + 1 =>by
  simp only [Tri.fmap,Tri.get]
  cases Nat.beq (k % 2) 0
  ·simp [Tri.get_fmap f r]
  ·simp [Tri.get_fmap f l]
def lock (H:AH):AH:=⟨Tri.fmap lockB H.t,H.next⟩
theorem lock_get (H:AH) (b:Nat):(lock H).t.get b = (H.t.get b).bind lockB:=Tri.get_fmap _ _ _
theorem lock_cellsAt {H:AH} {b:Nat} {c:List AV} (h:H.cellsAt b = some c):(lock H).cellsAt b = some c:=by
 unfold AH.cellsAt at *
 rw [lock_get]
 split at h
 ·rename_i hg
  rw [hg]
  exact h
 ·cases h
theorem WR.later {w0 w w':World} {ρ:Yl} {H:AH} (h:WR w0 ρ H w) (hb:Below w.heap.size w w'):WR w0 ρ H w' where
 blk b B c n hg hr:=by
  obtain⟨o,ho,hB⟩:=h.blk b B c n hg hr
  have hlt:=(Array.getElem?_eq_some_iff.1 ho).1
  exact⟨o,by rw [hb.block c hlt];exact ho,hB⟩
 inj:=h.inj
 own:=h.own
 dom:=h.dom
 bnd:=h.bnd
 lid:=trivial
 below:=h.below.trans (hb.mono h.below.size)
theorem WR.lock {w0 w:World} {ρ:Yl} {H:AH} (h:WR w0 ρ H w):WR w ρ (Go.Ev.lock H) w:=by
 have old:∀b B,(Go.Ev.lock H).t.get b = some B→∃B0,H.t.get b = some B0∧lockB B0 = some B:=by
  intro b B hg
  rw [lock_get] at hg
  cases hb:H.t.get b with
  | none =>rw [hb] at hg;cases hg
  | some B0 =>rw [hb] at hg;exact⟨B0,rfl,hg⟩
 refine⟨fun b B c n hg hr =>?_,fun b b' B B' c n n' hg hg' hr hr' =>?_,fun b B c n hg hr hro =>?_,h.dom,fun b B hg =>?_,trivial,Below.refl _ _⟩
 ·obtain⟨B0,h0,hl⟩:=old b B hg
  obtain⟨o,ho,hB⟩:=h.blk b B0 c n h0 hr
  refine⟨o,ho,?_⟩
  cases hB with
  | cells hn hl' hc hf =>cases hl;exact .cells hn hl' hc fun h =>by cases h
  | map hp he =>cases hl;exact .map hp he
  | siter s p =>cases hl
  | loop ht hd =>cases hl
  | live =>cases hl
  | taken =>cases hl
 ·obtain⟨B0,h0,_⟩:=old b B hg
  obtain⟨B1,h1,_⟩:=old b' B' hg'
  exact h.inj _ _ _ _ _ _ _ h0 h1 hr hr'
 ·obtain⟨B0,h0,hl⟩:=old b B hg
  cases B0 <;> cases hl <;> cases hro
 ·obtain⟨B0,h0,_⟩:=old b B hg
  exact h.bnd b B0 h0
mutual
/-- A value without memory. -/
def AV.flat:AV→Bool
 | .bool _ | .int .. | .str _ | .nilptr | .nilslice | .nilmap | .nilfunc | .niliface =>true
 | .iface _ v =>v.flat
 | .agg l =>AV.flats l
 | .tuple l =>AV.flats l
 | .func _ a b =>AV.flats a && AV.flats b
 | _ =>false
def AV.flats:List AV→Bool
 | [] =>true
 | v :: l =>v.flat && AV.flats l
end
mutual
theorem VR.unflat {ρ ρ':Yl}:∀{v:AV} {x:Value},VR ρ v x→v.flat = true→VR ρ' v x
 | _,_,.bool b,_ =>.bool b
 | _,_,.int k n,_ =>.int k n
 | _,_,.str s,_ =>.str s
 | _,_,.nilptr,_ =>.nilptr
 | _,_,.ptr _,h =>by simp [AV.flat] at h
 | _,_,.nilslice,_ =>.nilslice
 | _,_,.sliceIs _ _,h =>by simp [AV.flat] at h
 | _,_,.sliceUp _ _ _,h =>by simp [AV.flat] at h
 | _,_,.sliceLost,h =>by simp [AV.flat] at h
 | _,_,.nilmap,_ =>.nilmap
 | _,_,.map _,h =>by simp [AV.flat] at h
 | _,_,.func ha hb,h =>by
  simp only [AV.flat,Bool.and_eq_true] at h
  exact .func (Xy.unflat ha h.1) (Xy.unflat hb h.2)
 | _,_,.yield _,h =>by simp [AV.flat] at h
 | _,_,.nilfunc,_ =>.nilfunc
 | _,_,.iface hv,h =>.iface (VR.unflat hv (by simpa [AV.flat] using h))
 | _,_,.niliface,_ =>.niliface
 | _,_,.agg hl,h =>.agg (Xy.unflat hl (by simpa [AV.flat] using h))
 | _,_,.tuple hl,h =>.tuple (Xy.unflat hl (by simpa [AV.flat] using h))
 | _,_,.opq,_ =>.opq
theorem Xy.unflat {ρ ρ':Yl}:∀{l:List AV} {m:List Value},Xy ρ l m→AV.flats l = true→Xy ρ' l m
 | _,_,.nil,_ =>.nil
 | _,_,.cons h hs,hf =>by
  simp only [AV.flats,Bool.and_eq_true] at hf
  exact .cons (VR.unflat h hf.1) (Xy.unflat hs hf.2)
end
/-- A frame without defers that runs. -/
abbrev PF (f n:Nat) (t:Tri AV) (k:List AI):AF:=⟨f,n,t,k,[],.run,.normal,none⟩
/-- A call's run over blocks that it only reads: behind it nothing is left but its answer. -/
theorem gc_leads {P:Program} {L:World→Prop} [hP:Yu P L] {f n:Nat} {t:Tri AV} {code:Code} {fr':AF} {H H':AH} {v:AV}
  (hl:Yy P L ⟨PF f n t [.code code],[],lock H⟩ ⟨fr',[],H'⟩) (hd:doneA ⟨fr',[],H'⟩ = true) (hv:ZI P fr' H' = some v) (hfl:v.flat = true)
  {c c':AF} {cs:List AF} (hc:c.mode = .run) (hfin:YZ P c v H = some c'):Yy P L ⟨PF f n t [.code code],c :: cs,H⟩ ⟨c',cs,H⟩:=by
 intro w0 w g ds c0 hL hm
 obtain⟨ρ,lo,hg,hw,hlo,hf,hs⟩:=hm.rel
 dsimp only at hw hlo hf hs
 cases hs with | @cons lo1 _ _ d _ ds1 hle1 hc1 hs1 =>
 have hfl2:FrR P ρ (lock H) lo (lock H).next true (PF f n t [.code code]) g:=by
  refine⟨hf.fn,hf.kind,hf.lid,hf.round,hf.mode,hf.defers,?_⟩
  have htd:=hf.todo
  generalize g.tmps = ga at htd ⊢
  generalize g.todo = gt at htd ⊢
  cases htd with
  | plain hk ht =>exact .plain hk ht
  | gone hm _ _ =>exact absurd rfl hm
 obtain⟨g',ds',w',hst,hm'⟩:=hl w w g [] (d :: ds1 ++ c0) (hP.keep _ _ hL hw.below) ⟨ρ,lo,hg,hw.lock,hlo,hfl2,.nil⟩
 obtain⟨ρ',lo',hg',hw',hlo',hf',hs'⟩:=hm'.rel
 dsimp only at hw' hlo' hf' hs'
 cases hs'
 unfold doneA at hd
 split at hd
 ·rename_i _ hmode hdef hkind
  dsimp only at hmode hdef hkind
  have hmd:=hf'.mode
  have hdf:=hf'.defers
  have hkd:=hf'.kind
  rw [hmode] at hmd
  rw [hdef] at hdf
  rw [hkind] at hkd
  have ht:=hf'.todo.tr (by rw [hmode];simp)
  obtain⟨fn,x,hfn,hvx,hrun⟩:=resultU_sound hw' hf'.fn ht hv
  have hgmm:g'.mode = .returning:=by
   cases hgm:g'.mode <;> rw [hgm] at hmd <;> cases hmd <;> rfl
  have hgd:g'.defers = []:=by
   cases hgd:g'.defers <;> rw [hgd] at hdf <;> cases hdf <;> rfl
  have hw2:WR w0 ρ H w':=hw.later hw'.below
  have hc2:=hc1.keeps (top':=false) (hi':=H.next) (Xe.refl lo ρ H) (Nat.le_refl _) hlo
  obtain⟨h1,_⟩:=YV (x:=x) hc2 hc (hvx.unflat hfl) hfin
  refine⟨_,ds1,w',hst.trans (.one (step_lone_go (fr:=g') (cs:=d :: ds1 ++ c0) ?_)),⟨ρ,lo1,hg,hw2,Nat.le_trans hle1 hlo,h1,hs1⟩⟩
  rw [stepG_unwind (by rw [hgmm];simp)]
  simp [unwind,hgd,hgmm,hfn,hrun,doReturn,← hkd]
 ·cases hd
/-- A closed call that was run from a heap of its own: wherever this heap's blocks lie in the world, the call returns what it returned there. -/
theorem closed_leads {P:Program} {L:World→Prop} [hP:Yu P L] {f n:Nat} {code:Code} {fr':AF} {H H0 H':AH} {v:AV}
  (hl:Yy P L ⟨PF f n .leaf [.code code],[],H0⟩ ⟨fr',[],H'⟩) (hd:doneA ⟨fr',[],H'⟩ = true) (hv:ZI P fr' H' = some v) (hfl:v.flat = true) (hL0:∀w,L w→∃ρ,GR ρ∧WR w ρ H0 w)
  {c c':AF} {cs:List AF} (hc:c.mode = .run) (hfin:YZ P c v H = some c'):Yy P L ⟨PF f n .leaf [.code code],c :: cs,H⟩ ⟨c',cs,H⟩:=by
 intro w0 w g ds c0 hL hm
 obtain⟨ρ,lo,hg,hw,hlo,hf,hs⟩:=hm.rel
 dsimp only at hw hlo hf hs
 cases hs with | @cons lo1 _ _ d _ ds1 hle1 hc1 hs1 =>
 have hLw:=hP.keep _ _ hL hw.below
 obtain⟨ρ0,hg0,hw0⟩:=hL0 w hLw
 have hfl2:FrR P ρ0 H0 H0.next H0.next true (PF f n .leaf [.code code]) g:=by
  refine⟨hf.fn,hf.kind,hf.lid,?_,?_,?_,?_⟩
  ·have:=hf.round
   generalize g.roundOf = x at this ⊢
   cases this
   exact .none
  ·have:=hf.mode
   generalize g.mode = x at this ⊢
   cases this
   exact .run
  ·have:=hf.defers
   generalize g.defers = x at this ⊢
   cases this
   exact .nil
  ·have htd:=hf.todo
   generalize g.tmps = ga at htd ⊢
   generalize g.todo = gt at htd ⊢
   cases htd with
   | plain hk ht =>
    cases hk with | cons hi hs =>
    cases hi
    cases hs
    exact .plain (.cons (.code _) .nil) ⟨ht.1,fun i v h =>by rw [Tri.get_leaf] at h;cases h⟩
   | gone hm _ _ =>exact absurd rfl hm
 obtain⟨g',ds',w',hst,hm'⟩:=hl w w g [] (d :: ds1 ++ c0) hLw ⟨ρ0,H0.next,hg0,hw0,Nat.le_refl _,hfl2,.nil⟩
 obtain⟨ρ',lo',hg',hw',hlo',hf',hs'⟩:=hm'.rel
 dsimp only at hw' hlo' hf' hs'
 cases hs'
 unfold doneA at hd
 split at hd
 ·rename_i _ hmode hdef hkind
  dsimp only at hmode hdef hkind
  have hmd:=hf'.mode
  have hdf:=hf'.defers
  have hkd:=hf'.kind
  rw [hmode] at hmd
  rw [hdef] at hdf
  rw [hkind] at hkd
  have ht:=hf'.todo.tr (by rw [hmode];simp)
  obtain⟨fn,x,hfn,hvx,hrun⟩:=resultU_sound hw' hf'.fn ht hv
  have hgmm:g'.mode = .returning:=by
   cases hgm:g'.mode <;> rw [hgm] at hmd <;> cases hmd <;> rfl
  have hgd:g'.defers = []:=by
   cases hgd:g'.defers <;> rw [hgd] at hdf <;> cases hdf <;> rfl
  have hw2:WR w0 ρ H w':=hw.later hw'.below
  have hc2:=hc1.keeps (top':=false) (hi':=H.next) (Xe.refl lo ρ H) (Nat.le_refl _) hlo
  obtain⟨h1,_⟩:=YV (x:=x) hc2 hc (hvx.unflat hfl) hfin
  refine⟨_,ds1,w',hst.trans (.one (step_lone_go (fr:=g') (cs:=d :: ds1 ++ c0) ?_)),⟨ρ,lo1,hg,hw2,Nat.le_trans hle1 hlo,h1,hs1⟩⟩
  rw [stepG_unwind (by rw [hgmm];simp)]
  simp [unwind,hgd,hgmm,hfn,hrun,doReturn,← hkd]
 ·cases hd
/-- A call whose run is known, from a world on: what becomes of it. -/
theorem calls_of_leadsL {P:Program} {L:World→Prop} {f n:Nat} {t:Tri AV} {code:Code} {args:List AV} {args':Array Value} {fr':AF} {H H':AH} {v:AV} {ρ:Yl} {w:World}
  (he:ZQ P f args .normal = some (PF f n t [.code code])) (hl:Yy P L ⟨PF f n t [.code code],[],H⟩ ⟨fr',[],H'⟩) (hm:fr'.mode = .returning) (hdf:fr'.defers = []) (hkd:fr'.kind = .normal) (hfn:fr'.fn = f) (hv:ZI P fr' H' = some v)
  (hg:GR ρ) (hw:WR w ρ H w) (hL:L w) (ha:Xy ρ args args'.toList) :
  Calls P f args' w fun e w' =>∃ρ' x,e = .returned x∧VR ρ' v x∧Below w.heap.size w w':=by
 intro cs
 obtain⟨h1,_,_⟩:=enterU_sound (P:=P) (ρ:=ρ) (H:=H) (lo:=H.next) (hi:=H.next) (args':=args') he ha
 obtain⟨g,ds,w',hst,hm'⟩:=hl w w _ [] cs hL ⟨ρ,H.next,hg,hw,Nat.le_refl _,h1,.nil⟩
 obtain⟨ρ',lo,hg',hw',hlo,hf,hs⟩:=hm'.rel
 dsimp only at hw' hlo hf hs
 cases hs
 have hgm:g.mode = .returning:=by
  have:=hf.mode
  rw [hm] at this
  cases hgmm:g.mode <;> rw [hgmm] at this <;> cases this <;> rfl
 have hgd:g.defers = []:=by
  have:=hf.defers
  rw [hdf] at this
  cases hgd:g.defers <;> rw [hgd] at this <;> cases this <;> rfl
 have ht:=hf.todo.tr (by rw [hm];simp)
 obtain⟨fn,x,hfnn,hvx,hrun⟩:=resultU_sound hw' hf.fn ht hv
 exact⟨.returned x,w',g,⟨ρ',x,rfl,hvx,hw'.below⟩,hst,by rw [← hf.fn,hfn],hgm,hgd,by rw [← hf.kind,hkd],fn,hfnn,hrun⟩
end Go.Ev
end
section
namespace Go.Ev
open Go.RowKit
section
variable {P:Program} {L:World→Prop} {f n:Nat} {t:Tri AV} {k:List AI} {H:AH} {Φ:AF→AH→Prop}
/-- From a frame and a heap on, whatever callers wait, the machine comes to where Φ holds. -/
def WF (P:Program) (L:World→Prop) (fr:AF) (H:AH) (Φ:AF→AH→Prop):Prop:=∃fr' H',Φ fr' H'∧∀cs,Yy P L ⟨fr,cs,H⟩ ⟨fr',cs,H'⟩
theorem WF.done {fr:AF} (h:Φ fr H):WF P L fr H Φ:=⟨fr,H,h,fun _ =>.refl _⟩
theorem WF.leads {fr fr1:AF} {H1:AH} (hs:∀cs,Yy P L ⟨fr,cs,H⟩ ⟨fr1,cs,H1⟩) (h:WF P L fr1 H1 Φ):WF P L fr H Φ:=by
 obtain⟨fr',H',hΦ,hl⟩:=h
 exact⟨fr',H',hΦ,fun cs =>(hs cs).trans (hl cs)⟩
theorem WF.mono {fr:AF} {Φ':AF→AH→Prop} (h:WF P L fr H Φ) (hi:∀fr' H',Φ fr' H'→Φ' fr' H'):WF P L fr H Φ':=by
 obtain⟨fr',H',hΦ,hl⟩:=h
 exact⟨fr',H',hi _ _ hΦ,hl⟩
theorem WF.bind {fr:AF} (h:WF P L fr H fun fr1 H1 =>WF P L fr1 H1 Φ):WF P L fr H Φ:=by
 obtain⟨fr',H',hΦ,hl⟩:=h
 exact hΦ.leads hl
/-- A call: its answer and the heap behind it. -/
def Fn (P:Program) (L:World→Prop) (f:FuncId) (args:List AV) (H:AH) (Ψ:AV→AH→Prop):Prop :=
 ∃v H' g,Ψ v H'∧ZQ P f args .normal = some g∧∀c cs c',c.mode = .run→YZ P c v H' = some c'→Yy P L ⟨g,c :: cs,H⟩ ⟨c',cs,H'⟩
theorem Fn.mono {f:FuncId} {args:List AV} {Ψ Ψ':AV→AH→Prop} (h:Fn P L f args H Ψ) (hi:∀v H',Ψ v H'→Ψ' v H'):Fn P L f args H Ψ':=by
 obtain⟨v,H',g,h1,h2,h3⟩:=h
 exact⟨v,H',g,hi _ _ h1,h2,h3⟩
/-- A call that panics. -/
def Pn (P:Program) (L:World→Prop) (f:FuncId) (args:List AV) (H:AH) (Ψ:AV→AH→Prop):Prop :=
 ∃v H' g,Ψ v H'∧ZQ P f args .normal = some g∧∀c cs,Yy P L ⟨g,c :: cs,H⟩ ⟨raiseU c [(v,false)],cs,H'⟩
/-- A frame that panics. -/
def XX (Ψ:AV→AH→Prop) (fr:AF) (H:AH):Prop:=fr.defers = []∧∃v,fr.mode = .panicking [(v,false)]∧Ψ v H
/-- A frame that returns. -/
def Ret (P:Program) (f:FuncId) (Ψ:AV→AH→Prop) (fr:AF) (H:AH):Prop:=fr.fn = f∧fr.mode = .returning∧fr.defers = []∧fr.kind = .normal∧∃v,ZI P fr H = some v∧Ψ v H
end
section
variable {P:Program} {L:World→Prop} [Yu P L] {f n:Nat} {t:Tri AV} {k:List AI} {H:AH} {Φ:AF→AH→Prop}
theorem WF.step {fr fr1:AF} {H1:AH} (hs:∀cs,YU P ⟨fr,cs,H⟩ = some ⟨fr1,cs,H1⟩) (h:WF P L fr1 H1 Φ):WF P L fr H Φ:=h.leads fun cs =>Z0 (hs cs)
theorem Fn.intro {args:List AV} {Ψ:AV→AH→Prop} {g:AF} (he:ZQ P f args .normal = some g) (h:WF P L g H (Ret P f Ψ)):Fn P L f args H Ψ:=by
 obtain⟨fr',H',⟨_,hm,hd,hk,v,hv,hΨ⟩,hl⟩:=h
 refine⟨v,H',g,hΨ,he,fun c cs c' hc hfin =>(hl (c :: cs)).trans (Z0 ?_)⟩
 unfold YU
 dsimp only
 rw [hm]
 unfold unwindA
 rw [hd,hm]
 dsimp only
 rw [hv,hk]
 dsimp only
 rw [hc]
 dsimp only
 rw [hfin]
 rfl
theorem Fn.gc {args:List AV} {t:Tri AV} {code:Code} {v:AV} (he:ZQ P f args .normal = some (PF f n t [.code code])) (hfl:v.flat = true) (h:WF P L (PF f n t [.code code]) (lock H) (Ret P f fun v' _ =>v' = v)) :
  Fn P L f args H fun v' H' =>v' = v∧H' = H:=by
 obtain⟨fr',H',⟨_,hm,hd,hk,v',hv,rfl⟩,hl⟩:=h
 refine⟨v',H,_,⟨rfl,rfl⟩,he,fun c cs c' hc hfin =>gc_leads (hl []) ?_ hv hfl hc hfin⟩
 unfold doneA
 dsimp only
 rw [hm,hd,hk]
theorem Pn.intro {args:List AV} {Ψ:AV→AH→Prop} {g:AF} (he:ZQ P f args .normal = some g) (h:WF P L g H (XX Ψ)):Pn P L f args H Ψ:=by
 obtain⟨fr',H',⟨hd,v,hm,hΨ⟩,hl⟩:=h
 refine⟨v,H',g,hΨ,he,fun c cs =>(hl (c :: cs)).trans (Z0 ?_)⟩
 unfold YU
 dsimp only
 rw [hm]
 unfold unwindA
 rw [hd,hm]
/-! ### steps -/
theorem WF.seq {a b:Code} (h:WF P L (PF f n t (.code a :: .code b :: k)) H Φ):WF P L (PF f n t (.code (.seq a b) :: k)) H Φ:=h.step fun _ =>rfl
theorem WF.block {i:Nat} {c:Code} (h:WF P L (PF f n t (.code c :: .inBlock i :: k)) H Φ):WF P L (PF f n t (.code (.block i c) :: k)) H Φ:=h.step fun _ =>rfl
theorem WF.loop {c:Code} (h:WF P L (PF f n t (.code c :: .inLoop c :: k)) H Φ):WF P L (PF f n t (.code (.loop c) :: k)) H Φ:=h.step fun _ =>rfl
theorem Yt {c:Code} (h:WF P L (PF f n t (.code c :: .inLoop c :: k)) H Φ):WF P L (PF f n t (.inLoop c :: k)) H Φ:=h.step fun _ =>rfl
theorem WF.scope {c:Code} (h:WF P L (PF f n t (.code c :: .inScope c :: k)) H Φ):WF P L (PF f n t (.code (.scope c) :: k)) H Φ:=h.step fun _ =>rfl
theorem WF.endBlock {i:Nat} (h:WF P L (PF f n t k) H Φ):WF P L (PF f n t (.inBlock i :: k)) H Φ:=h.step fun _ =>rfl
theorem WF.skip (h:WF P L (PF f n t k) H Φ):WF P L (PF f n t (.code .skip :: k)) H Φ:=h.step fun _ =>rfl
theorem WF.label {l:Nat} (h:WF P L (PF f n t k) H Φ):WF P L (PF f n t (.code (.label l) :: k)) H Φ:=h.step fun _ =>rfl
theorem WF.condT {c:Operand} {a b:Code} (hc:Zg t c = some (.bool true)) (h:WF P L (PF f n t (.code a :: k)) H Φ):WF P L (PF f n t (.code (.cond c a b) :: k)) H Φ :=
 h.step fun _ =>by simp only [YU,Xs,Xq,codeA,condA,hc,toA]
theorem WF.condF {c:Operand} {a b:Code} (hc:Zg t c = some (.bool false)) (h:WF P L (PF f n t (.code b :: k)) H Φ):WF P L (PF f n t (.code (.cond c a b) :: k)) H Φ :=
 h.step fun _ =>by simp only [YU,Xs,Xq,codeA,condA,hc,toA]
theorem WF.cond {c:Operand} {a b:Code} {x:Bool} (hc:Zg t c = some (.bool x)) (h:x = true→WF P L (PF f n t (.code a :: k)) H Φ) (h':x = false→WF P L (PF f n t (.code b :: k)) H Φ):WF P L (PF f n t (.code (.cond c a b) :: k)) H Φ:=by
 cases x with
 | true =>exact .condT hc (h rfl)
 | false =>exact .condF hc (h' rfl)
theorem WF.exit {i:Nat} {k':List AI} (he:exitU i k = some k') (h:WF P L (PF f n t k') H Φ):WF P L (PF f n t (.code (.exit i) :: k)) H Φ :=
 h.step fun _ =>by simp only [YU,Xs,Xq,codeA,exitA,he,toA]
theorem WF.ret {Ψ:AV→AH→Prop} {v:AV} (hv:ZI P (PF f n t []) H = some v) (h:Ψ v H):WF P L (PF f n t (.code .ret :: k)) H (Ret P f Ψ) :=
 .step (fr1:={ PF f n t (.code .ret :: k) with mode:=.returning }) (H1:=H) (fun _ =>rfl) (.done ⟨rfl,rfl,rfl,rfl,v,hv,h⟩)
/-- The function's end. -/
theorem WF.fall {Ψ:AV→AH→Prop} {v:AV} (hv:ZI P (PF f n t []) H = some v) (h:Ψ v H):WF P L (PF f n t []) H (Ret P f Ψ) :=
 .step (fr1:={ PF f n t [] with mode:=.returning }) (H1:=H) (fun _ =>rfl) (.done ⟨rfl,rfl,rfl,rfl,v,hv,h⟩)
/-! ### operations in their order -/
theorem WF.region {i:Nat} {ops:Array Oper} (h:WF P L (PF f n t (.inRegion ops (List.range ops.size) :: k)) H Φ):WF P L (PF f n t (.code (.region i ops false) :: k)) H Φ:=h.step fun _ =>rfl
theorem WF.endRegion {ops:Array Oper} (h:WF P L (PF f n t k) H Φ):WF P L (PF f n t (.inRegion ops [] :: k)) H Φ:=h.step fun _ =>rfl
/-- A temporary is filled. -/
def XM (n:Nat) (t:Tri AV) (dst:Option Tmp) (v:AV):Option (Tri AV):=match dst with
 | none =>some t
 | some d =>if Nat.blt d n then some (t.put d (some v)) else none
theorem putT_PF {k:List AI} {dst:Option Tmp} {v:AV} {t':Tri AV} (h:XM n t dst v = some t'):putT (PF f n t k) dst v = some (PF f n t' k):=by
 unfold XM at h
 unfold putT
 cases dst with
 | none =>cases h;rfl
 | some d =>
  dsimp only at h ⊢
  split at h
  ·rename_i hb
   cases h
   rw [if_pos hb]
  ·cases h
theorem finish_PF {ops:Array Oper} {i:Nat} {rest:List Nat} {o:Oper} {v:AV} {t':Tri AV} (ho:ops[i]? = some o) (hd:XM n t o.dst v = some t') :
  YZ P (PF f n t (.inRegion ops (i :: rest) :: k)) v H = some (PF f n t' (.inRegion ops rest :: k)):=by
 unfold YZ
 dsimp only
 rw [ho]
 dsimp only [Option.bind_some]
 rw [putT_PF hd]
 rfl
theorem WF.op {ops:Array Oper} {i:Nat} {rest:List Nat} {o:Oper} {v:AV} {H1:AH} {t':Tri AV} (ho:ops[i]? = some o) (hw:Zb ops t o = some true) (hx:Xr P t o.op H = some (.val v,H1))
  (hd:XM n t o.dst v = some t') (h:WF P L (PF f n t' (.inRegion ops rest :: k)) H1 Φ):WF P L (PF f n t (.inRegion ops (i :: rest) :: k)) H Φ :=
 h.step fun cs =>by
  simp only [YU,Xs,Xq,operA,ho,hw,hx,XW,Y1]
  rw [finish_PF ho hd]
  rfl
theorem WF.unwanted {ops:Array Oper} {i:Nat} {rest:List Nat} {o:Oper} {t':Tri AV} (ho:ops[i]? = some o) (hw:Zb ops t o = some false)
  (hd:XM n t o.dst (.tuple []) = some t') (h:WF P L (PF f n t' (.inRegion ops rest :: k)) H Φ):WF P L (PF f n t (.inRegion ops (i :: rest) :: k)) H Φ :=
 h.step fun cs =>by
  simp only [YU,Xs,Xq,operA,ho,hw,skipA]
  rw [finish_PF ho hd]
theorem WF.call {ops:Array Oper} {i:Nat} {rest:List Nat} {o:Oper} {fid:FuncId} {args:List AV} {H1:AH} {Ψ:AV→AH→Prop} (ho:ops[i]? = some o) (hw:Zb ops t o = some true) (hx:Xr P t o.op H = some (.enter fid args,H1))
  (hf:Fn P L fid args H1 Ψ) (h:∀v H2,Ψ v H2→∃t',XM n t o.dst v = some t'∧WF P L (PF f n t' (.inRegion ops rest :: k)) H2 Φ):WF P L (PF f n t (.inRegion ops (i :: rest) :: k)) H Φ:=by
 obtain⟨v,H2,g,hΨ,he,hl⟩:=hf
 obtain⟨t',hd,hwf⟩:=h v H2 hΨ
 refine hwf.leads fun cs =>.trans (Z0 (m':=⟨g,PF f n t (.inRegion ops (i :: rest) :: k) :: cs,H1⟩) ?_) (hl _ cs _ rfl (finish_PF ho hd))
 simp only [YU,Xs,Xq,operA,ho,hw,hx,XW,Y1]
 rw [he]
 rfl
/-! ### operations whose order is drawn -/
theorem Yw {i:Nat} {ops:Array Oper} (hl:isMapLit ops = false) (hr:regOK P ops = true) (h:WF P L (PF f n t (.drawn ops 0 none :: k)) H Φ):WF P L (PF f n t (.code (.region i ops true) :: k)) H Φ :=
 h.step fun _ =>by simp only [YU,Xs,Xq,codeA,regionA,hl,hr,toA];rfl
/-- Behind all that could be done. -/
inductive ZY (P:Program) (L:World→Prop) (f n:Nat) (ops:Array Oper) (t:Tri AV) (H:AH) (D:Nat) (k:List AI) (Φ:AF→AH→Prop):Prop
 | all (hf:WP ops D = []) (ha:(List.range ops.size).all (Xg D) = true) (h:WF P L (PF f n t k) H Φ)
 | eff {e:Nat} {o:Oper} {v:AV} {H1:AH} {t':Tri AV} (hf:WP ops D = [e]) (ho:ops[e]? = some o) (hw:Zb ops t o = some true) (hx:effU P t o.op H = some (.val v,H1)) (hd:XM n t o.dst v = some t')
   (hr:WQ P ops (PF f n t' []) H1 D e = true) (h:WF P L (PF f n t' (.drawn ops (ins D e) none :: k)) H1 Φ)
 | unwanted {e:Nat} {o:Oper} {t':Tri AV} (hf:WP ops D = [e]) (ho:ops[e]? = some o) (hw:Zb ops t o = some false) (hd:XM n t o.dst (.tuple []) = some t')
   (hr:WQ P ops (PF f n t' []) H D e = true) (h:WF P L (PF f n t' (.drawn ops (ins D e) none :: k)) H Φ)
 | call {e:Nat} {o:Oper} {fid:FuncId} {args:List AV} {H1:AH} {Ψ:AV→AH→Prop} (hf:WP ops D = [e]) (ho:ops[e]? = some o) (hw:Zb ops t o = some true) (hx:effU P t o.op H = some (.enter fid args,H1))
   (hfn:Fn P L fid args H1 Ψ) (h:∀v H2,Ψ v H2→∃t',XM n t o.dst v = some t'∧WQ P ops (PF f n t' []) H2 D e = true∧WF P L (PF f n t' (.drawn ops (ins D e) none :: k)) H2 Φ)
 | callP {e:Nat} {o:Oper} {fid:FuncId} {args:List AV} {H1:AH} {Ψ:AV→AH→Prop} (hf:WP ops D = [e]) (ho:ops[e]? = some o) (hw:Zb ops t o = some true) (hx:effU P t o.op H = some (.enter fid args,H1))
   (hfn:Pn P L fid args H1 Ψ) (h:∀v H2,Ψ v H2→Φ (raiseU (PF f n t (.drawn ops D (some e) :: k)) [(v,false)]) H2)
theorem finish_drawn {ops:Array Oper} {D e:Nat} {o:Oper} {v:AV} {t':Tri AV} (ho:ops[e]? = some o) (hd:XM n t o.dst v = some t') (hr:WQ P ops (PF f n t' []) H D e = true) :
  YZ P (PF f n t (.drawn ops D (some e) :: k)) v H = some (PF f n t' (.drawn ops (ins D e) none :: k)):=by
 unfold YZ
 dsimp only
 rw [ho]
 dsimp only [Option.bind_some]
 rw [putT_PF hd]
 dsimp only
 have hr':WQ P ops (PF f n t' (AI.drawn ops D (some e) :: k)) H D e = true:=hr
 rw [if_pos hr']
/-- A region that draws its order, in the midst of what may be done at once: l is still to be looked at. -/
def WS (P:Program) (L:World→Prop) (f n:Nat) (ops:Array Oper) (l:List Nat) (t:Tri AV) (H:AH) (D:Nat) (k:List AI) (Φ:AF→AH→Prop):Prop :=
 ∃t' H' D',(∀k0,l.foldl (fun s i =>Wy P ops i s) (some (PF f n t k0,H,D)) = some (PF f n t' k0,H',D'))∧ZY P L f n ops t' H' D' k Φ
theorem WF.settle {ops:Array Oper} {D:Nat} (h:WS P L f n ops (List.range ops.size) t H D k Φ):WF P L (PF f n t (.drawn ops D none :: k)) H Φ:=by
 obtain⟨t',H',D',hs,ha⟩:=h
 have hset:∀k0,Go.Ev.settle P ops (PF f n t k0) H D = some (PF f n t' k0,H',D'):=hs
 cases ha with
 | all hf ha h =>
  refine h.step fun cs =>?_
  simp only [YU,Xs,Xq,drawnA,hset,hf,ha,toA,if_true]
 | @eff e o v H1 t2 hf ho hw hx hd hr h =>
  refine h.step fun cs =>?_
  simp only [YU,Xs,Xq,drawnA,hset,hf,effA,ho,hw,hx,XW,Y1]
  rw [finish_drawn ho hd hr]
  rfl
 | @unwanted e o t2 hf ho hw hd hr h =>
  refine h.step fun cs =>?_
  simp only [YU,Xs,Xq,drawnA,hset,hf,effA,ho,hw,skipA]
  rw [finish_drawn ho hd hr]
 | @call e o fid args H1 Ψ hf ho hw hx hfn h =>
  obtain⟨v,H2,g,hΨ,he,hl⟩:=hfn
  obtain⟨t2,hd,hr,hwf⟩:=h v H2 hΨ
  refine hwf.leads fun cs =>.trans (Z0 (m':=⟨g,PF f n t' (.drawn ops D' (some e) :: k) :: cs,H1⟩) ?_) (hl _ cs _ rfl (finish_drawn ho hd hr))
  simp only [YU,Xs,Xq,drawnA,hset,hf,effA,ho,hw,hx,XW,Y1]
  rw [he]
  rfl
 | @callP e o fid args H1 Ψ hf ho hw hx hfn h =>
  obtain⟨v,H2,g,hΨ,he,hl⟩:=hfn
  refine⟨_,H2,h v H2 hΨ,fun cs =>.trans (Z0 (m':=⟨g,PF f n t' (.drawn ops D' (some e) :: k) :: cs,H1⟩) ?_) (hl _ cs)⟩
  simp only [YU,Xs,Xq,drawnA,hset,hf,effA,ho,hw,hx,XW,Y1]
  rw [he]
  rfl
omit [Yu P L] in
theorem WS.nil {ops:Array Oper} {D:Nat} (h:ZY P L f n ops t H D k Φ):WS P L f n ops [] t H D k Φ:=⟨t,H,D,fun _ =>rfl,h⟩
omit [Yu P L] in
theorem WS.cons {ops:Array Oper} {i:Nat} {l:List Nat} {D D1:Nat} {t1:Tri AV} {H1:AH} (hs:∀k0,Wy P ops i (some (PF f n t k0,H,D)) = some (PF f n t1 k0,H1,D1)) (h:WS P L f n ops l t1 H1 D1 k Φ):WS P L f n ops (i :: l) t H D k Φ:=by
 obtain⟨t',H',D',h1,h2⟩:=h
 exact⟨t',H',D',fun k0 =>by rw [List.foldl_cons,hs];exact h1 k0,h2⟩
omit [Yu P L] in
/-- Not now. -/
theorem WS.later {ops:Array Oper} {i:Nat} {l:List Nat} {D:Nat} {o:Oper} (ho:ops[i]? = some o) (hb:(Xg D i || !Xv D o || WN P o) = true) (h:WS P L f n ops l t H D k Φ):WS P L f n ops (i :: l) t H D k Φ :=
 h.cons fun k0 =>by simp only [Wy,ho,hb,if_true]
omit [Yu P L] in
theorem WS.pure {ops:Array Oper} {i:Nat} {l:List Nat} {D:Nat} {o:Oper} {v:AV} {t':Tri AV} (ho:ops[i]? = some o) (hb:(Xg D i || !Xv D o || WN P o) = false) (hw:Zb ops t o = some true) (hc:cls P o.op = .pure) (hx:pureU P t o.op = some v)
  (hd:XM n t o.dst v = some t') (h:WS P L f n ops l t' H (ins D i) k Φ):WS P L f n ops (i :: l) t H D k Φ :=
 h.cons fun k0 =>by simp only [Wy,ho,hb,hw,hc,hx];rw [putT_PF hd];rfl
omit [Yu P L] in
theorem WS.load {ops:Array Oper} {i:Nat} {l:List Nat} {D:Nat} {o:Oper} {v:AV} {t':Tri AV} (ho:ops[i]? = some o) (hb:(Xg D i || !Xv D o || WN P o) = false) (hw:Zb ops t o = some true) (hc:cls P o.op = .load) (hx:WM P t o.op H = some v)
  (hd:XM n t o.dst v = some t') (h:WS P L f n ops l t' H (ins D i) k Φ):WS P L f n ops (i :: l) t H D k Φ :=
 h.cons fun k0 =>by simp only [Wy,ho,hb,hw,hc,hx];rw [putT_PF hd];rfl
omit [Yu P L] in
theorem WS.new {ops:Array Oper} {i:Nat} {l:List Nat} {D:Nat} {o:Oper} {B:AB} {mk:Nat→AV} {H1:AH} {t':Tri AV} (ho:ops[i]? = some o) (hb:(Xg D i || !Xv D o || WN P o) = false) (hw:Zb ops t o = some true) (hc:cls P o.op = .new) (hx:newU P t o.op = some (B,mk))
  (hn:H.new B = some H1) (hd:XM n t o.dst (mk H.next) = some t') (h:WS P L f n ops l t' H1 (ins D i) k Φ):WS P L f n ops (i :: l) t H D k Φ :=
 h.cons fun k0 =>by simp only [Wy,ho,hb,hw,hc,hx,hn];rw [putT_PF hd];rfl
omit [Yu P L] in
theorem WS.unwanted {ops:Array Oper} {i:Nat} {l:List Nat} {D:Nat} {o:Oper} {t':Tri AV} (ho:ops[i]? = some o) (hb:(Xg D i || !Xv D o || WN P o) = false) (hw:Zb ops t o = some false)
  (hd:XM n t o.dst (.tuple []) = some t') (h:WS P L f n ops l t' H (ins D i) k Φ):WS P L f n ops (i :: l) t H D k Φ :=
 h.cons fun k0 =>by simp only [Wy,ho,hb,hw];rw [putT_PF hd];rfl
end
end Go.Ev
end
section
namespace Go.Ev
open Go.RowKit
/-- A table of a function, below a bound. -/
def triOf {α:Type} (f:Nat→Option α):Nat→Tri α
 | 0 =>.leaf
 | n + 1 =>(triOf f n).put n (f n)
theorem triOf_get {α:Type} (f:Nat→Option α):∀(n b:Nat),(triOf f n).get b = if b < n then f b else none
 | 0,b =>by simp [triOf,Tri.get_leaf]
 | n + 1,b =>by
  rw [triOf,Tri.get_put trivial,triOf_get f n]
  by_cases e:b = n
  ·rw [if_pos e,e,if_pos (by omega)]
  ·rw [if_neg e]
   by_cases h:b < n
   ·rw [if_pos h,if_pos (by omega)]
   ·rw [if_neg h,if_neg (by omega)]
/-- Where a world's blocks lie: each under its own number. -/
def rhoW (W:World):Yl:=fun b =>match W.heap[b]? with
 | some (.cells a _ _) =>some (b,a.size)
 | some _ =>some (b,0)
 | none =>if b < 64 then some (b,0) else none
/-- A cell's value. -/
def YC (W:World):Value→AV
 | .bool b =>.bool b
 | .int k n =>.int k n
 | .string s =>.str (X1 s)
 | .pointer none =>.nilptr
 | .pointer (some ⟨c,off,none⟩) =>if c < W.heap.size then .ptr c off else .hole
 | .slice none 0 0 =>.nilslice
 | .slice (some ⟨c,off,none⟩) len cap =>if c < W.heap.size∧len≤cap then .slice c off len (.is cap) else if len = 0 then .slice 0 0 0 .lost else .hole
 | .slice (some ⟨_,_,some _⟩) 0 _ =>.slice 0 0 0 .lost
 | .map none =>.nilmap
 | .map (some c) =>if c < W.heap.size then .map c else .hole
 | .nilFunc =>.nilfunc
 | .nilIface =>.niliface
 | .iface t v =>if ZO (YC W v) then .iface t (YC W v) else .hole
 | _ =>.hole
theorem rhoW_some {W:World} {c:Nat} (h:c < W.heap.size):∃n,rhoW W c = some (c,n):=by
 unfold rhoW
 rw [Array.getElem?_eq_getElem h]
 cases W.heap[c] <;> exact⟨_,rfl⟩
theorem rhoW_eq {W:World} {b c n:Nat} (h:rhoW W b = some (c,n)):c = b:=by
 unfold rhoW at h
 split at h
 ·cases h;rfl
 ·cases h;rfl
 ·split at h
  ·cases h;rfl
  ·cases h
theorem avOf_rel (W:World):∀(v:Value),YC W v ≠ .hole→VR (rhoW W) (YC W v) v
 | .bool b,_ =>.bool b
 | .int k n,_ =>.int k n
 | .string s,_ =>.str s
 | .pointer none,_ =>.nilptr
 | .pointer (some ⟨c,off,none⟩),h =>by
  simp only [YC] at h ⊢
  split at h
  ·rename_i hc
   rw [if_pos hc]
   obtain⟨n,hn⟩:=rhoW_some hc
   exact .ptr hn
  ·exact absurd rfl h
 | .pointer (some ⟨c,off,some x⟩),h =>absurd rfl h
 | .slice none 0 0,_ =>.nilslice
 | .slice none 0 (n + 1),h =>absurd rfl h
 | .slice none (n + 1) m,h =>absurd rfl h
 | .slice (some ⟨c,off,none⟩) len cap,h =>by
  simp only [YC] at h ⊢
  split at h
  ·rename_i hc
   rw [if_pos hc]
   obtain⟨n,hn⟩:=rhoW_some hc.1
   exact .sliceIs hn hc.2
  ·rename_i hc
   rw [if_neg hc]
   split at h
   ·rename_i h0
    subst h0
    rw [if_pos rfl]
    exact .sliceLost
   ·exact absurd rfl h
 | .slice (some ⟨c,off,some x⟩) 0 cap,_ =>.sliceLost
 | .slice (some ⟨c,off,some x⟩) (n + 1) cap,h =>absurd rfl h
 | .map none,_ =>.nilmap
 | .map (some c),h =>by
  simp only [YC] at h ⊢
  split at h
  ·rename_i hc
   rw [if_pos hc]
   obtain⟨n,hn⟩:=rhoW_some hc
   exact .map hn
  ·exact absurd rfl h
 | .nilFunc,_ =>.nilfunc
 | .nilIface,_ =>.niliface
 | .iface t v,h =>by
  simp only [YC] at h ⊢
  split at h
  ·rename_i hc
   rw [if_pos hc]
   exact .iface (avOf_rel W v (by intro e;rw [e] at hc;cases hc))
  ·exact absurd rfl h
 | .agg _,h =>absurd (by simp [YC]) h
 | .tuple _,h =>absurd (by simp [YC]) h
 | .func ..,h =>absurd (by simp [YC]) h
 | .float ..,h =>absurd (by simp [YC]) h
 | .complex ..,h =>absurd (by simp [YC]) h
 | .chan ..,h =>absurd (by simp [YC]) h
theorem avOf_one (W:World) (v:Value):Yn (YC W v) = true:=by
 unfold YC
 split <;> (first | rfl | (split <;> first | rfl | (split <;> rfl)))
/-- A block, to be read. -/
def abOf (W:World):Obj→Option AB
 | .cells a e _ =>some (.cells e (a.toList.map (YC W)) 0 false true)
 | _ =>none
def ahOf (W:World):AH:=⟨triOf (fun b =>(W.heap[b]?).bind (abOf W)) W.heap.size,max 64 W.heap.size⟩
theorem ahOf_get (W:World) (b:Nat):(ahOf W).t.get b = (W.heap[b]?).bind (abOf W):=by
 show (triOf _ _).get b = _
 rw [triOf_get]
 by_cases h:b < W.heap.size
 ·rw [if_pos h]
 ·rw [if_neg h,Array.getElem?_eq_none (by omega)]
  rfl
theorem ahOf_cells {W:World} {c:Nat} {a:Array Value} {e:TypeId} {f:Nat × Nat} (h:W.heap[c]? = some (.cells a e f)):(ahOf W).t.get c = some (.cells e (a.toList.map (YC W)) 0 false true):=by
 rw [ahOf_get,h]
 rfl
theorem rhoW_GR (W:World):GR (rhoW W):=by
 intro g hg
 unfold rhoW
 split
 ·exact⟨_,rfl⟩
 ·exact⟨_,rfl⟩
 ·rw [if_pos hg]
  exact⟨_,rfl⟩
theorem ahOf_rel (W:World):WR W (rhoW W) (ahOf W) W:=by
 refine⟨fun b B c n hg hr =>?_,fun b b' B B' c n n' _ _ hr hr' =>?_,fun b B c n hg _ hro =>?_,fun b x hr =>?_,fun b B hg =>?_,trivial,Below.refl _ _⟩
 ·rw [ahOf_get] at hg
  obtain rfl:=rhoW_eq hr
  cases ho:W.heap[c]? with
  | none =>rw [ho] at hg;cases hg
  | some o =>
   rw [ho] at hg
   refine⟨o,rfl,?_⟩
   cases o with
   | cells a e f =>
    cases hg
    obtain⟨lo,hi⟩:=f
    unfold rhoW at hr
    rw [ho] at hr
    cases hr
    refine .cells rfl (by simp) (fun i v hv hh =>?_) (fun h =>by cases h)
    rw [List.getElem?_map] at hv
    cases hx:a.toList[i]? with
    | none =>rw [hx] at hv;cases hv
    | some x =>
     rw [hx] at hv
     cases hv
     exact⟨x,by simpa using hx,avOf_rel W x hh,avOf_one W x⟩
   | _ =>cases hg
 ·rw [← rhoW_eq hr,← rhoW_eq hr']
 ·rw [ahOf_get] at hg
  cases ho:W.heap[b]? with
  | none =>rw [ho] at hg;cases hg
  | some o =>
   rw [ho] at hg
   cases o with
   | cells a e f =>cases hg;cases hro
   | _ =>cases hg
 ·show b < max 64 W.heap.size
  unfold rhoW at hr
  split at hr
  ·rename_i ho
   have:=(Array.getElem?_eq_some_iff.1 ho).1
   omega
  ·rename_i ho
   have:=(Array.getElem?_eq_some_iff.1 ho).1
   omega
  ·split at hr
   ·omega
   ·cases hr
 ·show b < max 64 W.heap.size
  rw [ahOf_get] at hg
  cases ho:W.heap[b]? with
  | none =>rw [ho] at hg;cases hg
  | some o =>
   have:=(Array.getElem?_eq_some_iff.1 ho).1
   omega
end Go.Ev
end
section
namespace Go.Ev
open Go.RowKit
theorem Tri.gp {α:Type} (t:Tri α) (n m:Nat) (o:Option α):(t.put n o).get m = if m = n then o else t.get m:=Tri.get_put trivial m
theorem idxU_nat (kd:IntKind) (k n:Nat):idxU (.int kd (k:Int)) n = if Nat.blt k n then some k else none:=rfl
theorem idxU_lt {kd:IntKind} {k n:Nat} (h:k < n):idxU (.int kd (k:Int)) n = some k:=by rw [idxU_nat,if_pos (by rw [Nat.blt_eq];exact h)]
theorem boundU_le {kd:IntKind} {k d m:Nat} (h:k≤m):XV (some (.int kd (k:Int))) d m = some k:=by
 show (if Nat.ble k m then some k else none) = _
 rw [if_pos (by rw [Nat.ble_eq];exact h)]
theorem w64 {x:Int} (h:-9223372036854775808≤x) (h':x < 9223372036854775808):IntKind.i64.wrap x = x:=by
 simp only [IntKind.wrap,IntKind.bits,IntKind.signed,Bool.true_and]
 split
 ·rename_i hh
  have:=of_decide_eq_true hh
  omega
 ·rename_i hh
  have:¬ (x % 2 ^ 64 ≥ 2 ^ (64 - 1)):=fun hc =>hh (decide_eq_true hc)
  omega
/-- A value that is a slice of n elements, or nil. -/
inductive SL:AV→Nat→Prop
 | nil:SL .nilslice 0
 | sl (b off n:Nat) (cap:Cap):SL (.slice b off n cap) n
theorem SL.one {v:AV} {n:Nat} (h:SL v n):Yn v = true:=by cases h <;> rfl
theorem SL.solid {v:AV} {n:Nat} (h:SL v n):ZO v = true:=by cases h <;> rfl
/-- A heap that has grown: what was there is as it was. -/
structure Up (H H':AH):Prop where
 next:H.next≤H'.next
 old:∀b,b < H.next→H'.t.get b = H.t.get b
theorem Up.refl (H:AH):Up H H:=⟨Nat.le_refl _,fun _ _ =>rfl⟩
theorem Up.trans {H H' H'':AH} (h:Up H H') (h':Up H' H''):Up H H'' :=
 ⟨Nat.le_trans h.next h'.next,fun b hb =>(h'.old b (Nat.lt_of_lt_of_le hb h.next)).trans (h.old b hb)⟩
theorem Up.new {H H':AH} {B:AB} (h:H.new B = some H'):Up H H':=by
 obtain⟨_,_,rfl⟩:=Wa h
 exact⟨Nat.le_succ _,fun b hb =>by show (H.t.put _ _).get b = _;rw [Tri.gp,if_neg (by omega)]⟩
theorem Up.set {H H':AH} {b:Nat} {B:AB} (h:Up H H') (hb:H.next≤b):Up H (H'.set b B) :=
 ⟨h.next,fun b' hb' =>by show (H'.t.put _ _).get b' = _;rw [Tri.gp,if_neg (by omega)];exact h.old b' hb'⟩
theorem Up.cellsAt {H H':AH} (h:Up H H') {b:Nat} (hb:b < H.next):H'.cellsAt b = H.cellsAt b:=by
 unfold AH.cellsAt
 rw [h.old b hb]
end Go.Ev
namespace Go.Ev
section
variable {P:Program}
theorem bin_lss (k:IntKind) (t:TypeId) (a b:Int):X6 P .lss t (.int k a) (.int k b) = some (.bool (decide (a < b))):=by simp [X6,intOp]
theorem bin_leq (k:IntKind) (t:TypeId) (a b:Int):X6 P .leq t (.int k a) (.int k b) = some (.bool (decide (a≤b))):=by simp [X6,intOp]
theorem bin_gtr (k:IntKind) (t:TypeId) (a b:Int):X6 P .gtr t (.int k a) (.int k b) = some (.bool (decide (b < a))):=by simp [X6,intOp]
theorem bin_geq (k:IntKind) (t:TypeId) (a b:Int):X6 P .geq t (.int k a) (.int k b) = some (.bool (decide (b≤a))):=by simp [X6,intOp]
theorem bin_eql (k:IntKind) (t:TypeId) (a b:Int):X6 P .eql t (.int k a) (.int k b) = some (.bool (decide (a = b))):=by
 by_cases h:a = b <;> simp [X6,intOp,h]
theorem bin_neq (k:IntKind) (t:TypeId) (a b:Int):X6 P .neq t (.int k a) (.int k b) = some (.bool !(decide (a = b))):=by
 simp only [X6,if_true,intOp]
 by_cases h:a = b <;> simp [h]
theorem bin_add (k:IntKind) (t:TypeId) (a b:Int):X6 P .add t (.int k a) (.int k b) = some (.int k (k.wrap (a + b))):=by simp [X6,intOp]
theorem bin_sub (k:IntKind) (t:TypeId) (a b:Int):X6 P .sub t (.int k a) (.int k b) = some (.int k (k.wrap (a - b))):=by simp [X6,intOp]
theorem bin_eqlB {t:TypeId} (h:YR P t = some .bool) (a b:Bool):X6 P .eql t (.bool a) (.bool b) = some (.bool (a == b)):=by
 simp [X6,Op.maxDepth,eqlU,h]
theorem unot (b:Bool):unU .not (.bool b) = some (.bool !b):=rfl
theorem gOk_lss (t:TypeId) (x y:Operand) (a b:AV):YY P .lss t x y a b = true:=rfl
theorem gOk_leq (t:TypeId) (x y:Operand) (a b:AV):YY P .leq t x y a b = true:=rfl
theorem gOk_gtr (t:TypeId) (x y:Operand) (a b:AV):YY P .gtr t x y a b = true:=rfl
theorem gOk_geq (t:TypeId) (x y:Operand) (a b:AV):YY P .geq t x y a b = true:=rfl
theorem gOk_add (t:TypeId) (x y:Operand) (a b:AV):YY P .add t x y a b = true:=rfl
theorem gOk_sub (t:TypeId) (x y:Operand) (a b:AV):YY P .sub t x y a b = true:=rfl
theorem gOk_eqlI (t:TypeId) (x y:Operand) (k k':IntKind) (a b:Int):YY P .eql t x y (.int k a) (.int k' b) = true:=rfl
theorem gOk_neqI (t:TypeId) (x y:Operand) (k k':IntKind) (a b:Int):YY P .neq t x y (.int k a) (.int k' b) = true:=rfl
theorem gOk_eqlB (t:TypeId) (x y:Operand) (a b:Bool):YY P .eql t x y (.bool a) (.bool b) = true:=rfl
theorem gOk_neqB (t:TypeId) (x y:Operand) (a b:Bool):YY P .neq t x y (.bool a) (.bool b) = true:=rfl
theorem Zf {t e:TypeId} {ts:List TypeId} {l:List AV} (h:YR P t = some (.slice e)) {v:AV} {n:Nat} (hv:SL v n):Wq P .len (t :: ts) (v :: l) = some (.int .i64 n):=by
 cases hv <;> simp [Wq,h]
theorem Za {ty:TypeId} {b off:Nat} {H:AH} (h:Xj P ty = some false):loadVarU P ty b off H = match H.cellsAt b with | some c =>Go.Ev.solid c[off]? | none =>none:=by
 unfold loadVarU
 rw [h]
 cases H.cellsAt b <;> rfl
theorem Ze {ty n:TypeId} {b off:Nat} {H:AH} (h:Xj P ty = some true) (hs:szU P ty = some n):loadVarU P ty b off H = match H.cellsAt b with|some c =>(cut c off n).map .agg|none =>none:=by
 unfold loadVarU
 rw [h,hs]
 cases H.cellsAt b <;> rfl
theorem Zt {t e n:TypeId} {b off len:Nat} {cap:Cap} {kd:IntKind} {k:Nat} (h:YR P t = some (.slice e)) (hs:szU P e = some n) (hk:k < len):X3 P t (.slice b off len cap) (.int kd (k:Int)) = some (.ptr b (off + k * n)):=by
 simp only [X3,h,idxU_lt hk,hs]
theorem AH.new_one {H:AH} {B:AB} (h:B.one = true):H.new B = some ⟨H.t.put H.next (some B),H.next + 1⟩:=by
 unfold AH.new
 rw [if_pos h]
end
end Go.Ev
namespace Go.Ev
theorem one_int (k:IntKind) (n:Int):Yn (.int k n) = true:=by simp only [Yn]
theorem Wm (k:IntKind) (n:Int):ZO (.int k n) = true:=by simp only [ZO]
theorem one_bool (b:Bool):Yn (.bool b) = true:=by simp only [Yn]
theorem hole_bool (b:Bool):ZO (.bool b) = true:=by simp only [ZO]
theorem one_str (s:List Nat):Yn (.str s) = true:=by simp only [Yn]
theorem hole_str (s:List Nat):ZO (.str s) = true:=by simp only [ZO]
theorem one_nilptr:Yn (.nilptr) = true:=by simp only [Yn]
theorem hole_nilptr:ZO (.nilptr) = true:=by simp only [ZO]
theorem one_ptr (b o:Nat):Yn (.ptr b o) = true:=by simp only [Yn]
theorem hole_ptr (b o:Nat):ZO (.ptr b o) = true:=by simp only [ZO]
theorem one_nilslice:Yn (.nilslice) = true:=by simp only [Yn]
theorem hole_nilslice:ZO (.nilslice) = true:=by simp only [ZO]
theorem one_slice (b o n:Nat) (c:Cap):Yn (.slice b o n c) = true:=by simp only [Yn]
theorem hole_slice (b o n:Nat) (c:Cap):ZO (.slice b o n c) = true:=by simp only [ZO]
theorem one_nilmap:Yn (.nilmap) = true:=by simp only [Yn]
theorem hole_nilmap:ZO (.nilmap) = true:=by simp only [ZO]
theorem one_map (b:Nat):Yn (.map b) = true:=by simp only [Yn]
theorem hole_map (b:Nat):ZO (.map b) = true:=by simp only [ZO]
theorem one_func (f:FuncId) (a b:List AV):Yn (.func f a b) = true:=by simp only [Yn]
theorem hole_func (f:FuncId) (a b:List AV):ZO (.func f a b) = true:=by simp only [ZO]
theorem one_nilfunc:Yn (.nilfunc) = true:=by simp only [Yn]
theorem hole_nilfunc:ZO (.nilfunc) = true:=by simp only [ZO]
theorem one_iface (t:TypeId) (v:AV):Yn (.iface t v) = true:=by simp only [Yn]
theorem hole_iface (t:TypeId) (v:AV):ZO (.iface t v) = true:=by simp only [ZO]
theorem one_niliface:Yn (.niliface) = true:=by simp only [Yn]
theorem hole_niliface:ZO (.niliface) = true:=by simp only [ZO]
end Go.Ev
namespace Go.Ev
/-- One result, or several. -/
def ZL (r:Option (List AV)):Option AV:=match r with
 | some [v] =>some v
 | some vs =>some (.tuple vs)
 | none =>none
end Go.Ev
namespace Go.Ev
theorem W5 {a b c:AV} (ha:ZO a = true) (hb:ZO b = true) (hc:ZO c = true):cut [a,b,c] 0 3 = some [a,b,c]:=by
 unfold cut
 simp [ha,hb,hc]
theorem cut_four {a b c d:AV} (ha:ZO a = true) (hb:ZO b = true) (hc:ZO c = true) (hd:ZO d = true):cut [a,b,c,d] 0 4 = some [a,b,c,d]:=by
 unfold cut
 simp [ha,hb,hc,hd]
end Go.Ev
end
section
namespace Go.Ev
open Go.RowKit
section
variable {P:Program} {L:World→Prop} {f n:Nat} {t:Tri AV} {k:List AI} {H:AH} {Φ:AF→AH→Prop}
/-- A region whose operations from place i on are still to be done. -/
def WO (P:Program) (L:World→Prop) (f n:Nat) (ops:Array Oper) (i:Nat) (l:List Oper) (t:Tri AV) (H:AH) (k:List AI) (Φ:AF→AH→Prop):Prop :=
 ops.toList.drop i = l→WF P L (PF f n t (.inRegion ops (List.range' i l.length) :: k)) H Φ
theorem Xx {α:Type} {l m:List α} {i:Nat} {x:α} (h:l.drop i = x :: m):l[i]? = some x∧l.drop (i + 1) = m:=by
 have h1:(l.drop i)[0]? = some x:=by rw [h];rfl
 rw [List.getElem?_drop] at h1
 refine⟨h1,?_⟩
 rw [← List.drop_drop,h]
 rfl
variable [Yu P L]
theorem Zc {i:Nat} {l:List Oper} (h:WO P L f n l.toArray 0 l t H k Φ):WF P L (PF f n t (.code (.region i l.toArray false) :: k)) H Φ:=by
 refine WF.region ?_
 have:=h (by simp)
 rw [List.range_eq_range']
 simpa using this
theorem WO.nil {ops:Array Oper} {i:Nat} (h:WF P L (PF f n t k) H Φ):WO P L f n ops i [] t H k Φ:=fun _ =>WF.endRegion h
theorem WO.op {ops:Array Oper} {i:Nat} {l:List Oper} {o:Oper} {v:AV} {H1:AH} {t':Tri AV} (hw:Zb ops t o = some true) (hx:Xr P t o.op H = some (.val v,H1))
  (hd:XM n t o.dst v = some t') (h:WO P L f n ops (i + 1) l t' H1 k Φ):WO P L f n ops i (o :: l) t H k Φ:=fun hdr =>by
 obtain⟨h1,h2⟩:=Xx hdr
 exact WF.op (by simpa using h1) hw hx hd (h h2)
theorem WO.unwanted {ops:Array Oper} {i:Nat} {l:List Oper} {o:Oper} {t':Tri AV} (hw:Zb ops t o = some false)
  (hd:XM n t o.dst (.tuple []) = some t') (h:WO P L f n ops (i + 1) l t' H k Φ):WO P L f n ops i (o :: l) t H k Φ:=fun hdr =>by
 obtain⟨h1,h2⟩:=Xx hdr
 exact WF.unwanted (by simpa using h1) hw hd (h h2)
theorem WO.call {ops:Array Oper} {i:Nat} {l:List Oper} {o:Oper} {fid:FuncId} {args:List AV} {H1:AH} {Ψ:AV→AH→Prop} (hw:Zb ops t o = some true) (hx:Xr P t o.op H = some (.enter fid args,H1))
  (hf:Fn P L fid args H1 Ψ) (h:∀v H2,Ψ v H2→∃t',XM n t o.dst v = some t'∧WO P L f n ops (i + 1) l t' H2 k Φ):WO P L f n ops i (o :: l) t H k Φ:=fun hdr =>by
 obtain⟨h1,h2⟩:=Xx hdr
 refine WF.call (by simpa using h1) hw hx hf fun v H2 hΨ =>?_
 obtain⟨t',ht,hwo⟩:=h v H2 hΨ
 exact⟨t',ht,hwo h2⟩
end
end Go.Ev
namespace Go.Ev
section
variable {P:Program} {L:World→Prop} [Yu P L] {f n:Nat} {t:Tri AV} {k:List AI} {H:AH} {Φ:AF→AH→Prop}
/-- A loop, by what holds at its head and a number that falls. -/
theorem Ys {c:Code} (I:Nat→Tri AV→AH→Prop) (m:Nat) (h0:I m t H)
  (step:∀m t H,I m t H→(∀m' t' H',m' < m→I m' t' H'→WF P L (PF f n t' (.code c :: .inLoop c :: k)) H' Φ)→WF P L (PF f n t (.code c :: .inLoop c :: k)) H Φ):WF P L (PF f n t (.code (.loop c) :: k)) H Φ:=by
 refine WF.loop ?_
 have key:∀N m t H,m≤N→I m t H→WF P L (PF f n t (.code c :: .inLoop c :: k)) H Φ:=by
  intro N
  induction N with
  | zero =>exact fun m t H hm hI =>step m t H hI fun m' t' H' h _ =>by omega
  | succ N ih =>exact fun m t H hm hI =>step m t H hI fun m' t' H' h hI' =>ih m' t' H' (by omega) hI'
 exact key m m t H (Nat.le_refl _) h0
end
theorem ZK (t:Tri AB) (m n b:Nat) (e:TypeId) (c:List AV) (fz:Nat) (mk ro:Bool):AH.cellsAt ⟨t.put m (some (.cells e c fz mk ro)),n⟩ b = if b = m then some c else AH.cellsAt ⟨t,n⟩ b:=by
 simp only [AH.cellsAt,Tri.gp]
 by_cases h:b = m <;> simp [h]
theorem cellsAt_putN (t:Tri AB) (m n b:Nat):AH.cellsAt ⟨t.put m none,n⟩ b = if b = m then none else AH.cellsAt ⟨t,n⟩ b:=by
 simp only [AH.cellsAt,Tri.gp]
 by_cases h:b = m <;> simp [h]
theorem cellsAt_eta (H:AH) (n b:Nat):AH.cellsAt ⟨H.t,n⟩ b = H.cellsAt b:=rfl
end Go.Ev
namespace Go.Ev
theorem Up.box (H:AH) (o:Option AB):Up H ⟨H.t.put H.next o,H.next + 1⟩ :=
 ⟨Nat.le_succ _,fun b hb =>by show (H.t.put _ _).get b = _;rw [Tri.gp,if_neg (by omega)]⟩
end Go.Ev
end
section
namespace Go.Ev
open Go.RowKit
section
variable {P:Program} {L:World→Prop} {f n:Nat} {t:Tri AV} {k:List AI} {H:AH} {Φ:AF→AH→Prop}
/-- What may be done at once, looked at from place i on. -/
def ZW (P:Program) (L:World→Prop) (f n:Nat) (ops:Array Oper) (i:Nat) (l:List Oper) (t:Tri AV) (H:AH) (D:Nat) (k:List AI) (Φ:AF→AH→Prop):Prop :=
 ops.toList.drop i = l→WS P L f n ops (List.range' i l.length) t H D k Φ
theorem ZW.nil {ops:Array Oper} {i D:Nat} (h:ZY P L f n ops t H D k Φ):ZW P L f n ops i [] t H D k Φ:=fun _ =>WS.nil h
theorem ZW.later {ops:Array Oper} {i D:Nat} {l:List Oper} {o:Oper} (hb:(Xg D i || !Xv D o || WN P o) = true) (h:ZW P L f n ops (i + 1) l t H D k Φ):ZW P L f n ops i (o :: l) t H D k Φ:=fun hdr =>by
 obtain⟨h1,h2⟩:=Xx hdr
 exact WS.later (by simpa using h1) hb (h h2)
theorem ZW.pure {ops:Array Oper} {i D:Nat} {l:List Oper} {o:Oper} {v:AV} {t':Tri AV} (hb:(Xg D i || !Xv D o || WN P o) = false) (hc:cls P o.op = .pure) (hw:Zb ops t o = some true) (hx:pureU P t o.op = some v)
  (hd:XM n t o.dst v = some t') (h:ZW P L f n ops (i + 1) l t' H (ins D i) k Φ):ZW P L f n ops i (o :: l) t H D k Φ:=fun hdr =>by
 obtain⟨h1,h2⟩:=Xx hdr
 exact WS.pure (by simpa using h1) hb hw hc hx hd (h h2)
theorem ZW.load {ops:Array Oper} {i D:Nat} {l:List Oper} {o:Oper} {v:AV} {t':Tri AV} (hb:(Xg D i || !Xv D o || WN P o) = false) (hc:cls P o.op = .load) (hw:Zb ops t o = some true) (hx:WM P t o.op H = some v)
  (hd:XM n t o.dst v = some t') (h:ZW P L f n ops (i + 1) l t' H (ins D i) k Φ):ZW P L f n ops i (o :: l) t H D k Φ:=fun hdr =>by
 obtain⟨h1,h2⟩:=Xx hdr
 exact WS.load (by simpa using h1) hb hw hc hx hd (h h2)
theorem ZW.new {ops:Array Oper} {i D:Nat} {l:List Oper} {o:Oper} {B:AB} {mk:Nat→AV} {H1:AH} {t':Tri AV} (hb:(Xg D i || !Xv D o || WN P o) = false) (hc:cls P o.op = .new) (hw:Zb ops t o = some true) (hx:newU P t o.op = some (B,mk))
  (hn:H.new B = some H1) (hd:XM n t o.dst (mk H.next) = some t') (h:ZW P L f n ops (i + 1) l t' H1 (ins D i) k Φ):ZW P L f n ops i (o :: l) t H D k Φ:=fun hdr =>by
 obtain⟨h1,h2⟩:=Xx hdr
 exact WS.new (by simpa using h1) hb hw hc hx hn hd (h h2)
theorem ZW.unwanted {ops:Array Oper} {i D:Nat} {l:List Oper} {o:Oper} {t':Tri AV} (hb:(Xg D i || !Xv D o || WN P o) = false) (hw:Zb ops t o = some false)
  (hd:XM n t o.dst (.tuple []) = some t') (h:ZW P L f n ops (i + 1) l t' H (ins D i) k Φ):ZW P L f n ops i (o :: l) t H D k Φ:=fun hdr =>by
 obtain⟨h1,h2⟩:=Xx hdr
 exact WS.unwanted (by simpa using h1) hb hw hd (h h2)
theorem Zq [Yu P L] {D:Nat} {l:List Oper} (h:ZW P L f n l.toArray 0 l t H D k Φ):WF P L (PF f n t (.drawn l.toArray D none :: k)) H Φ:=by
 refine WF.settle ?_
 have:=h (by simp)
 rw [List.range_eq_range']
 simpa using this
/-- Every read that is done has to be done ahead of e: nothing is to be looked at anew. -/
def recheckS (P:Program) (ops:Array Oper) (D e:Nat):Bool :=
 let anc:=(Region.before ops).getD e 0
 (List.range ops.size).all fun i =>!Xg D i || Xg anc i || match ops[i]? with
  | some o =>(match cls P o.op with | .load =>false | _ =>true)
  | none =>true
theorem ZM {ops:Array Oper} {fr:AF} {D e:Nat} (h:recheckS P ops D e = true):WQ P ops fr H D e = true:=by
 unfold recheckS at h
 unfold WQ
 simp only [List.all_eq_true] at h ⊢
 intro i hi
 have:=h i hi
 simp only [Bool.or_eq_true] at this ⊢
 rcases this with this | this
 ·exact .inl this
 ·right
  split at this
  ·rename_i o ho
   rw [ho]
   dsimp only
   split at this
   ·cases this
   ·rename_i hne
    split
    ·rename_i hl;exact absurd hl hne
    ·rfl
  ·rename_i ho
   rw [ho]
end
end Go.Ev
end
section
namespace Go.Ev
theorem over_four {a b c d a' b' c' d':AV} (ha:Yn a = true) (hb:Yn b = true) (hc:Yn c = true) (hd:Yn d = true):over [a',b',c',d'] 0 [a,b,c,d] = some [a,b,c,d]:=by
 unfold over
 simp [ha,hb,hc,hd]
theorem WV (H:AH) (o o':Option AB):Up H ⟨(H.t.put H.next o).put H.next o',H.next + 1⟩ :=
 ⟨Nat.le_succ _,fun b hb =>by show ((H.t.put _ _).put _ _).get b = _;rw [Tri.gp,if_neg (by omega),Tri.gp,if_neg (by omega)]⟩
theorem sum_take_succ {α:Type} (f:α→Int) (l:List α) (i:Nat) (h:i < l.length):((l.take (i + 1)).map f).sum = ((l.take i).map f).sum + f l[i]:=by
 rw [List.take_succ_eq_append_getElem h,List.map_append,List.sum_append]
 simp only [List.map_cons,List.map_nil,List.sum_cons,List.sum_nil,Int.add_zero]
theorem sum_bound {α:Type} (f:α→Int) (m:Int) (l:List α) (h:∀x ∈ l,0≤f x∧f x≤m):0≤(l.map f).sum∧(l.map f).sum≤m * l.length:=by
 induction l with
 | nil =>simp
 | cons x l ih =>
  have h1:=ih fun y hy =>h y (List.mem_cons_of_mem _ hy)
  have h2:=h x (List.mem_cons_self)
  simp only [List.map_cons,List.sum_cons,List.length_cons]
  rw [show ((l.length + 1:Nat):Int) = (l.length:Int) + 1 from by omega,Int.mul_add]
  omega
end Go.Ev
namespace Go.Ev
section
variable {P:Program}
/-- Reads that are to be looked at anew, and read the same. -/
inductive Xt (P:Program) (ops:Array Oper) (t:Tri AV) (H:AH):List Nat→Prop
 | nil:Xt P ops t H []
 | cons {i:Nat} {R:List Nat} {o:Oper} {v u:AV} {d:Tmp} (ho:ops[i]? = some o) (hw:Zb ops t o = some true) (hx:WM P t o.op H = some v) (hd:o.dst = some d) (hg:t.get d = some u) (hb:AV.beq v u = true) (hr:Xt P ops t H R):Xt P ops t H (i :: R)
theorem Xt.get {ops:Array Oper} {t:Tri AV} {H:AH} {R:List Nat} (h:Xt P ops t H R) {i:Nat} (hi:i ∈ R):∃o v u d,ops[i]? = some o∧Zb ops t o = some true∧WM P t o.op H = some v∧o.dst = some d∧t.get d = some u∧AV.beq v u = true:=by
 induction h with
 | nil =>cases hi
 | cons ho hw hx hd hg hb _ ih =>
  rcases List.mem_cons.1 hi with rfl | hi
  ·exact⟨_,_,_,_,ho,hw,hx,hd,hg,hb⟩
  ·exact ih hi
def recheckR (P:Program) (ops:Array Oper) (D e:Nat) (R:List Nat):Bool :=
 let anc:=(Region.before ops).getD e 0
 (List.range ops.size).all fun i =>!Xg D i || Xg anc i || R.contains i || match ops[i]? with
  | some o =>(match cls P o.op with | .load =>false | _ =>true)
  | none =>true
theorem Yf {ops:Array Oper} {fr:AF} {H:AH} {D e:Nat} {R:List Nat} (h:recheckR P ops D e R = true) (ha:Xt P ops fr.tmps H R):WQ P ops fr H D e = true:=by
 unfold recheckR at h
 unfold WQ
 simp only [List.all_eq_true] at h ⊢
 intro i hi
 have:=h i hi
 simp only [Bool.or_eq_true] at this ⊢
 rcases this with (this | this) | this
 ·exact .inl this
 ·right
  obtain⟨o,v,u,d,h1,h2,h3,h4,h5,h6⟩:=ha.get (i:=i) (by simpa using this)
  rw [h1]
  dsimp only
  rw [h2,h3,h4]
  dsimp only
  rw [h5]
  split
  ·exact h6
  ·rfl
 ·right
  split at this
  ·rename_i o ho
   rw [ho]
   dsimp only
   split at this
   ·cases this
   ·rename_i hne
    split
    ·rename_i hl;exact absurd hl hne
    ·rfl
  ·rename_i ho
   rw [ho]
end
theorem SL.beq {v:AV} {n:Nat} (h:SL v n):AV.beq v v = true:=by
 cases h <;> simp [AV.beq]
end Go.Ev
end
section
namespace Go.Ev
theorem Yg {l r:List AV} {off n:Nat}:cut l off n = some r ↔ r.length = n∧∀j,j < n→∃v,l[off + j]? = some v∧ZO v = true∧r[j]? = some v:=by
 constructor
 ·intro h
  have hnh:=cut_noHole h
  obtain⟨rfl,hlen⟩:=cut_eq h
  refine⟨hlen,fun j hj =>?_⟩
  have hjl:j < ((l.drop off).take n).length:=by omega
  have e:=List.getElem?_eq_getElem hjl
  refine⟨_,?_,?_,e⟩
  ·rw [List.getElem?_take,if_pos hj,List.getElem?_drop] at e
   exact e
  ·cases hv:((l.drop off).take n)[j] <;> first | rfl | exact absurd hv (hnh _ (List.getElem_mem hjl))
 ·rintro ⟨hlen,h⟩
  have hr:r = (l.drop off).take n:=by
   apply List.ext_getElem?
   intro j
   rw [List.getElem?_take]
   by_cases hj:j < n
   ·obtain⟨v,h1,_,h3⟩:=h j hj
    rw [if_pos hj,List.getElem?_drop,h1,h3]
   ·rw [if_neg hj,List.getElem?_eq_none (by omega)]
  unfold cut
  dsimp only
  rw [← hr,if_pos]
  rw [Bool.and_eq_true]
  refine⟨by rw [Nat.beq_eq];exact hlen,List.all_eq_true.2 fun v hv =>?_⟩
  obtain⟨j,hj⟩:=List.mem_iff_getElem?.1 hv
  obtain⟨w,_,h2,h3⟩:=h j (by have:=(List.getElem?_eq_some_iff.1 hj).1;omega)
  rw [hj] at h3
  cases h3
  exact h2
/-- Rows that can be read one by one can be read in one. -/
theorem cut_rows {c:List AV} {off n k:Nat} (h:∀i,i < n→∃r,cut c (off + i * k) k = some r):∃cs,cut c off (n * k) = some cs∧∀i,i < n→cut cs (i * k) k = cut c (off + i * k) k:=by
 have hcell:∀j,j < n * k→∃v,c[off + j]? = some v∧ZO v = true:=by
  intro j hj
  have hk:0 < k:=by
   rcases Nat.eq_zero_or_pos k with rfl | h0
   ·simp at hj
   ·exact h0
  obtain⟨r,hr⟩:=h (j / k) ((Nat.div_lt_iff_lt_mul hk).2 hj)
  obtain⟨v,h1,h2,_⟩:=(Yg.1 hr).2 (j % k) (Nat.mod_lt _ hk)
  refine⟨v,?_,h2⟩
  rw [← h1]
  congr 1
  have:=Nat.div_add_mod' j k
  omega
 refine⟨(c.drop off).take (n * k),?_,fun i hi =>?_⟩
 ·refine Yg.2 ⟨?_,fun j hj =>?_⟩
  ·rw [List.length_take,List.length_drop]
   rcases Nat.eq_zero_or_pos (n * k) with h0 | h0
   ·omega
   ·obtain⟨v,hv,_⟩:=hcell (n * k - 1) (by omega)
    have:=(List.getElem?_eq_some_iff.1 hv).1
    omega
  ·obtain⟨v,h1,h2⟩:=hcell j hj
   exact⟨v,h1,h2,by rw [List.getElem?_take,if_pos hj,List.getElem?_drop];exact h1⟩
 ·obtain⟨r,hr⟩:=h i hi
  rw [hr]
  obtain⟨h1,h2⟩:=Yg.1 hr
  refine Yg.2 ⟨h1,fun j hj =>?_⟩
  obtain⟨v,k1,k2,k3⟩:=h2 j hj
  have hle:i * k + k≤n * k:=by
   have:(i + 1) * k≤n * k:=Nat.mul_le_mul_right _ hi
   rw [Nat.add_mul,Nat.one_mul] at this
   exact this
  refine⟨v,?_,k2,k3⟩
  rw [List.getElem?_take,if_pos (by omega),List.getElem?_drop,← Nat.add_assoc]
  exact k1
theorem cut_append_left {c d r:List AV} {off n:Nat} (h:cut c off n = some r):cut (c ++ d) off n = some r:=by
 obtain⟨h1,h2⟩:=Yg.1 h
 refine Yg.2 ⟨h1,fun j hj =>?_⟩
 obtain⟨v,k1,k2,k3⟩:=h2 j hj
 exact⟨v,by rw [List.getElem?_append_left (List.getElem?_eq_some_iff.1 k1).1];exact k1,k2,k3⟩
theorem cut_append_right {c d r:List AV} {off n:Nat} (h:cut d off n = some r):cut (c ++ d) (c.length + off) n = some r:=by
 obtain⟨h1,h2⟩:=Yg.1 h
 refine Yg.2 ⟨h1,fun j hj =>?_⟩
 obtain⟨v,k1,k2,k3⟩:=h2 j hj
 exact⟨v,by rw [List.getElem?_append_right (by omega),show c.length + off + j - c.length = off + j from by omega];exact k1,k2,k3⟩
theorem cut_zero (c:List AV) (off:Nat):cut c off 0 = some []:=Yg.2 ⟨rfl,fun j hj =>by omega⟩
theorem YN {c:List AV} {n:Nat} (hn:c.length = n) (h:c.all ZO = true):cut c 0 n = some c :=
 Yg.2 ⟨hn,fun j hj =>⟨c[j],by rw [Nat.zero_add];exact List.getElem?_eq_getElem _,List.all_eq_true.1 h _ (List.getElem_mem _),List.getElem?_eq_getElem _⟩⟩
theorem cut_all {c r:List AV} {off n:Nat} (h:cut c off n = some r):r.all ZO = true:=by
 obtain⟨h1,h2⟩:=Yg.1 h
 refine List.all_eq_true.2 fun v hv =>?_
 obtain⟨j,hj⟩:=List.mem_iff_getElem?.1 hv
 obtain⟨w,_,k2,k3⟩:=h2 j (by have:=(List.getElem?_eq_some_iff.1 hj).1;omega)
 rw [hj] at k3
 cases k3
 exact k2
/-! ### append -/
theorem Wd {sz b off n:Nat} {cap:Cap} {H:AH} {c cs:List AV} (h0:n ≠ 0) (hc:H.cellsAt b = some c) (h:cut c off (n * sz) = some cs):YG sz (.slice b off n cap) H = some (n,cs):=by
 simp [YG,h0,hc,h]
theorem appendTo_nil0 (e sz:Nat) (cs:List AV) (H:AH):Yq e sz .nilslice 0 cs H = some (.nilslice,H):=rfl
theorem appendTo_nil {e sz n:Nat} {cs:List AV} {H:AH} (h0:n ≠ 0) (hn:n≤274877906944) (h1:cs.all Yn = true):Yq e sz .nilslice n cs H = some (.slice H.next 0 n (.up sz),⟨H.t.put H.next (some (.cells e cs 0 false false)),H.next + 1⟩):=by
 have hnew:AH.new H (.cells e cs 0 false false) = some ⟨H.t.put H.next (some (.cells e cs 0 false false)),H.next + 1⟩:=AH.new_one h1
 simp [Yq,appendNil,h0,hn,hnew]
/-- Onto an empty slice of a block of the run's own: nothing. -/
theorem appendTo_empty0 {e sz b:Nat} {H:AH} {e':Nat} {c:List AV} {mk:Bool} (hg:H.t.get b = some (.cells e' c 0 mk false)):Yq e sz (.slice b 0 0 (.is 0)) 0 [] H = some (.slice b 0 0 (.is 0),H.set b (.cells e' c 0 mk false)):=by
 simp [Yq,appendRoom,hg,over]
theorem appendTo_empty {e sz b n:Nat} {H:AH} {c cs:List AV} (hc:H.cellsAt b = some c) (h0:n ≠ 0) (hn:n≤274877906944) (h1:cs.all Yn = true):Yq e sz (.slice b 0 0 (.is 0)) n cs H = some (.slice H.next 0 n (.up sz),⟨H.t.put H.next (some (.cells e cs 0 false false)),H.next + 1⟩):=by
 have hnew:AH.new H (.cells e cs 0 false false) = some ⟨H.t.put H.next (some (.cells e cs 0 false false)),H.next + 1⟩:=AH.new_one h1
 simp [Yq,appendGrow,h0,hn,hc,cut_zero,hnew]
theorem appendTo_up0 {e sz b off len:Nat} {cs:List AV} {H:AH} (hn:len≤274877906944):Yq e sz (.slice b off len (.up sz)) 0 cs H = some (.slice b off len (.up sz),H):=by
 simp [Yq,hn]
theorem appendTo_up {e sz b len n:Nat} {c old cs:List AV} {H:AH} (hg:H.t.get b = some (.cells e c 0 false false)) (hold:cut c 0 (len * sz) = some old) (h0:n ≠ 0) (hn:len + n≤274877906944) (h1:old.all Yn = true) (h2:cs.all Yn = true) :
  Yq e sz (.slice b 0 len (.up sz)) n cs H = some (.slice H.next 0 (len + n) (.up sz),⟨(H.t.put b none).put H.next (some (.cells e (old ++ cs) 0 false false)),H.next + 1⟩):=by
 have hnew:AH.new { H with t:=H.t.put b none } (.cells e (old ++ cs) 0 false false) = some ⟨(H.t.put b none).put H.next (some (.cells e (old ++ cs) 0 false false)),H.next + 1⟩:=AH.new_one (by show (old ++ cs).all Yn = true;rw [List.all_append,h1,h2];rfl)
 simp [Yq,appendUp,h0,hn,hg,hold,hnew]
end Go.Ev
end
section
namespace Go.Ev
def oh:=And.intro one_int (And.intro Wm (And.intro one_bool (And.intro hole_bool (And.intro one_str (And.intro hole_str (And.intro one_nilptr (And.intro hole_nilptr (And.intro one_ptr (And.intro hole_ptr (And.intro one_nilslice (And.intro hole_nilslice (And.intro one_slice (And.intro hole_slice (And.intro one_nilmap (And.intro hole_nilmap (And.intro one_map (And.intro hole_map (And.intro one_func (And.intro hole_func (And.intro one_nilfunc (And.intro hole_nilfunc (And.intro one_iface (And.intro hole_iface (And.intro one_niliface (hole_niliface)))))))))))))))))))))))))
def bi (P:Program):=And.intro (@bin_lss P) (And.intro (@bin_leq P) (And.intro (@bin_gtr P) (And.intro (@bin_geq P) (And.intro (@bin_eql P) (And.intro (@bin_neq P) (And.intro (@bin_add P) (And.intro (@bin_sub P) (And.intro (@gOk_lss P) (And.intro (@gOk_leq P) (And.intro (@gOk_gtr P) (And.intro (@gOk_geq P) (And.intro (@gOk_add P) (And.intro (@gOk_sub P) (And.intro (@gOk_eqlI P) (And.intro (@gOk_neqI P) (And.intro (@gOk_eqlB P) ((@gOk_neqB P))))))))))))))))))
def ca:=And.intro ZK (And.intro cellsAt_putN (cellsAt_eta))
def li (α:Type):=And.intro (@List.all_cons α) (And.intro (@List.all_nil α) (And.intro (@List.getElem?_toArray α) (And.intro (@List.getElem?_cons_succ α) (And.intro (@List.getElem?_cons_zero α) (And.intro (@List.nil_append α) ((@List.append_nil α)))))))
def lo (α β:Type):=And.intro (@Option.map_some α β) ((@Option.bind_some α β))
def bo:=And.intro Bool.and_true (And.intro Bool.and_self (And.intro Bool.not_true (And.intro Bool.not_false (And.intro Bool.false_beq (Bool.true_beq)))))
end Go.Ev
end
section
namespace Go.Ev
def rO:=And.intro @Zg.eq_def (And.intro @optO.eq_def (And.intro @pickP.eq_def (And.intro @nilP.eq_def (And.intro @unP.eq_def (And.intro @makeP.eq_def (And.intro @extractP.eq_def (And.intro @boxN.eq_def (And.intro @heapE.eq_def (And.intro @valE.eq_def (And.intro @assignE.eq_def (And.intro @AH.new.eq_def (And.intro @AB.one.eq_def (And.intro @solid.eq_def (And.intro @over_four (And.intro (@Tri.gp AV) (And.intro (@Tri.gp AB) (And.intro @unot (And.intro Nat.zero_add (And.intro Nat.add_zero (And.intro oh (And.intro ca (bo))))))))))))))))))))))
def rE (P:Program):=And.intro (@Xr.eq_def P) (And.intro (@cls.eq_def P) (And.intro (@clsConv.eq_def P) (And.intro (@clsLen.eq_def P) (And.intro (@clsCall.eq_def P) (And.intro (@pureX.eq_def P) (And.intro (@loadX.eq_def P) (And.intro (@newX.eq_def P) (And.intro (@effX.eq_def P) (And.intro (@pureU.eq_def P) (And.intro (@WM.eq_def P) (And.intro (@newU.eq_def P) (And.intro (@effU.eq_def P) (And.intro (@buildP.eq_def P) (And.intro (@binP.eq_def P) (And.intro (@convP.eq_def P) (And.intro (@ifaceP.eq_def P) (And.intro (@sliceP.eq_def P) (And.intro (@fieldAddrP.eq_def P) (And.intro (@fieldP.eq_def P) (And.intro (@indexAddrP.eq_def P) (And.intro (@indexP.eq_def P) (And.intro (@builtinP.eq_def P) (And.intro (@callP.eq_def P) (And.intro (@loadP.eq_def P) (And.intro (@allocN.eq_def P) (And.intro (@storeE.eq_def P) (And.intro (@builtinE.eq_def P) (And.intro (@callE.eq_def P) ((bi P))))))))))))))))))))))))))))))
end Go.Ev
end