/- The evaluator: each of its steps is one of the model's. -/
import Derived.Test.YtkkegnkopmpjhaaGreatDoorEvB
set_option linter.unusedVariables false
set_option linter.unusedSimpArgs false
section
namespace Go.Ev
open Go.RowKit
section
variable {P:Program} {w0:World} {ρ:Yl} {H:AH} {w:World}
/-- The program's variables lie where they are named. -/
def GR (ρ:Yl):Prop:=∀g,g < 64→∃n,ρ g = some (g,n)
theorem GR.ext {ρ ρ':Yl} (h:GR ρ) (e:Xo ρ ρ'):GR ρ':=fun g hg =>let ⟨n,hn⟩:=h g hg;⟨n,e _ _ hn⟩
theorem evR_of {g:Frame} {t:Tri AV} (hg:GR ρ) {x:Operand} (h:∀d v,x = .tmp d→t.get d = some v→VR ρ v (g.tmps.getD d undef)):EvR ρ t g.eval x:=by
 intro v hv
 cases x with
 | tmp d =>exact h d v rfl hv
 | const u =>exact ofConst_sound ρ hv
 | global b =>
  simp only [Zg] at hv
  split at hv
  ·rename_i hb
   rw [Nat.blt_eq] at hb
   simp only [Option.some.injEq] at hv
   subst hv
   obtain⟨n,hn⟩:=hg b hb
   exact .ptr hn
  ·cases hv
 | func f =>
  simp only [Zg,Option.some.injEq] at hv
  subst hv
  exact .func .nil .nil
theorem evR_plain {g:Frame} {t:Tri AV} {n:Nat} (hg:GR ρ) (ht:TR ρ t n g.tmps) (x:Operand):EvR ρ t g.eval x :=
 evR_of hg fun d v _ hv =>ht.2 d v hv
/-- What an operation that may run looks at is as the abstract machine sees it. -/
theorem DR.reads {lo hi:Nat} {ops:Array Oper} {D L:Nat} {t:Tri AV} {n:Nat} {a:Array Value} {chk:Bool} (h:DR P ρ H lo hi ops D L t n a chk) {i:Nat} {o:Oper} (ho:ops[i]? = some o) (hf:Xv L o = true) {d:Nat} (hd:d ∈ Oper.looksAt ops o) {v:AV} (hv:t.get d = some v):VR ρ v (a.getD d undef):=by
 refine h.temps d v hv fun j oj hj hjL hoj hdst =>?_
 have hne:=h.noeff j oj hj hjL hoj
 by_cases e:i = j
 ·subst e
  rw [ho] at hoj
  simp only [Option.some.injEq] at hoj
  subst hoj
  exact h.ok.self i o d ho hdst hne hd
 ·rcases h.ok.look i j o oj d ho hoj hdst e hd with h1 | ⟨h1,_⟩
  ·have:=anc_done h.shutL i ho hf h1
   rw [this] at hjL
   cases hjL
  ·rw [hne] at h1;cases h1
theorem DR.evR {lo hi:Nat} {ops:Array Oper} {D L:Nat} {t:Tri AV} {n:Nat} {g:Frame} {chk:Bool} (h:DR P ρ H lo hi ops D L t n g.tmps chk) (hg:GR ρ) {i:Nat} {o:Oper} (ho:ops[i]? = some o) (hf:Xv L o = true) :
  ∀x ∈ o.op.operands,EvR ρ t g.eval x:=fun x hx =>evR_of hg fun d v hxd hv =>by
 subst hxd
 exact h.reads ho hf (by
  unfold Oper.looksAt
  exact List.mem_append_left _ (List.mem_filterMap.2 ⟨.tmp d,by simpa using hx,rfl⟩)) hv
/-- Whether an operation is wanted. -/
theorem Ww {ops:Array Oper} {t:Tri AV} {a:Array Value} {o:Oper} {b:Bool} (h:∀d ∈ Oper.looksAt ops o,∀v,t.get d = some v→VR ρ v (a.getD d undef)) (hw:Zb ops t o = some b):Region.wanted o (yielded ops a) = b:=by
 unfold Zb at hw
 unfold Region.wanted
 split at hw
 ·rename_i hg
  simp only [hg]
  simpa using hw
 ·rename_i j want hg
  simp only [hg]
  have look:∀d,(ops[j]?).bind (·.dst) = some d→d ∈ Oper.looksAt ops o:=fun d hd =>by
   unfold Oper.looksAt
   refine List.mem_append_right _ ?_
   simp [hg,hd]
  unfold yielded
  split at hw
  ·rename_i d hd
   rw [hd]
   have hv:=h d (look d hd)
   split at hw
   ·rename_i u hu
    have:=hv _ hu
    simp only [Option.some.injEq] at hw
    subst hw
    rw [Array.getD_eq_getD_getElem?] at this
    simp only [Option.bind_some]
    cases hx:a[d]? with
    | none =>rw [hx] at this;cases this
    | some x =>
     rw [hx] at this
     cases this
     cases u <;> cases want <;> rfl
   ·rename_i u hnb hu
    have hvu:=hv _ hu
    simp only [Option.some.injEq] at hw
    subst hw
    rw [Array.getD_eq_getD_getElem?] at hvu
    simp only [Option.bind_some]
    cases hx:a[d]? with
    | none =>rfl
    | some x =>
     rw [hx] at hvu
     cases hvu <;> first | rfl | exact absurd rfl (hnb _)
   ·cases hw
  ·rename_i hd
   simp only [Option.some.injEq] at hw
   subst hw
   rw [hd]
   rfl
/-! ### steps of the model in a region -/
def putA (a:Array Value) (dst:Option Tmp) (x:Value):Array Value:=match dst with
 | some d =>a.setIfInBounds d x
 | none =>a
theorem putA_size (a:Array Value) (dst:Option Tmp) (x:Value):(putA a dst x).size = a.size:=by
 unfold putA
 split <;> simp
theorem putA_ne {a:Array Value} {dst:Option Tmp} {x:Value} {k:Nat} (h:dst ≠ some k):(putA a dst x).getD k undef = a.getD k undef:=by
 unfold putA
 split
 ·rename_i d
  rw [Array.getD_eq_getD_getElem?,Array.getD_eq_getD_getElem?,Array.getElem?_setIfInBounds,if_neg]
  rintro rfl
  exact h rfl
 ·rfl
theorem putA_eq {a:Array Value} {dst:Option Tmp} {x:Value} {d:Nat} (h:dst = some d) (hd:d < a.size):(putA a dst x).getD d undef = x:=by
 subst h
 unfold putA
 rw [Array.getD_eq_getD_getElem?,Array.getElem?_setIfInBounds]
 simp [hd]
section steps
variable {g:Frame} {cs:List Frame} {ops:Array Oper} {i:Nat} {o:Oper} {rest:List Nat} {k:List Item}
theorem Xn (ho:ops[i]? = some o) (hk:g.todo = .inRegion ops (i :: rest) :: k) (v:Value) :
  g.finish v = { g with tmps:=putA g.tmps o.dst v,todo:=.inRegion ops rest :: k }:=by
 obtain⟨fn,tmps,todo,defers,mode,kind,roundOf⟩:=g
 dsimp only at hk
 subst hk
 simp only [Frame.finish,ho,Option.bind_some,putA]
 rfl
theorem step_unwanted (hm:g.mode = .run) (ho:ops[i]? = some o) (hk:g.todo = .inRegion ops (i :: rest) :: k) (hw:Region.wanted o (yielded ops g.tmps) = false) :
  step P (lone g cs w) = .next (lone (g.finish undef) cs w) :=
 step_lone_go (by simp [stepG,stepG.exec,hm,hk,ho,hw])
theorem stepG_oper (hm:g.mode = .run) (ho:ops[i]? = some o) (hk:g.todo = .inRegion ops (i :: rest) :: k) (hw:Region.wanted o (yielded ops g.tmps) = true) (hd:g.roundOf = none ∨ ∀c,o.op ≠ .defer c) :
  stepG P true { frame:=g,callers:=cs,status:=.running,dying:=none } w = stepG.apply P true g cs none (execOp g.eval o) w:=by
 have hop:g.oper? = some o:=by simp [Frame.oper?,hk,ho]
 simp only [stepG,hm,stepG.exec,hk,ho,Option.map_some,hw,Option.getD_some,if_true,stepG.oper,hop]
 split
 ·rename_i l c hl hc
  rcases hd with hd | hd
  ·rw [hd] at hl;cases hl
  ·exact absurd hc (hd c)
 ·rfl
theorem apply_value {s:Sem Next} {v:Value} {w':World} (hs:s.run P w = .ok (.value v) w') :
  (stepG.apply P true g cs none s w).bare = .go { frame:=g.finish v,callers:=cs,status:=.running,dying:=none } w':=by
 simp [stepG.apply,hs]
theorem step_value (hm:g.mode = .run) (ho:ops[i]? = some o) (hk:g.todo = .inRegion ops (i :: rest) :: k) (hw:Region.wanted o (yielded ops g.tmps) = true) (hd:∀c,o.op ≠ .defer c) {v:Value} {w':World} (hr:(execOp g.eval o).run P w = .ok (.value v) w') :
  step P (lone g cs w) = .next (lone (g.finish v) cs w') :=
 step_lone_go (by rw [stepG_oper hm ho hk hw (.inr hd)];exact apply_value hr)
end steps
theorem Pend.ren {bo:Option Nat} {chk:Bool} {t:Tri AV} {ops:Array Oper} {o:Oper} {ρ':Yl} (h:Pend P ρ H bo chk t ops o) (hb:∀b,bo = some b→ρ b = none→ρ' b = none):Pend P ρ' H bo chk t ops o:=by
 cases h with
 | skip hw hd =>exact .skip hw hd
 | pure hw hc hv hd =>exact .pure hw hc hv hd
 | load hw hc hv =>exact .load hw hc hv
 | new hw hc hv h1 hb' hn hg hd =>exact .new hw hc hv h1 hb' (hb _ hb' hn) hg hd
/-- The model has done operation i. -/
theorem DR.done {lo hi:Nat} {ops:Array Oper} {D L:Nat} {t:Tri AV} {n:Nat} {a:Array Value} {chk:Bool} (h:DR P ρ H lo hi ops D L t n a chk) {i:Nat} {o:Oper} {x:Value} {ρ':Yl} (ho:ops[i]? = some o) (hD:Xg D i = true) (hf:Xv L o = true)
  (hv:∀d v,o.dst = some d→t.get d = some v→VR ρ' v x) (hx:∀d,o.dst = some d→d < n) (he:Xo ρ ρ')
  {β:Nat→Option Nat} (h1:∀i j b,β i = some b→β j = some b→i = j) (h2:∀i b,β i = some b→lo≤b∧b < hi)
  (h3:∀i o,Xg D i = true→Xg L i = false→ops[i]? = some o→Pend P ρ H (β i) chk t ops o) (hren:∀j,j ≠ i→∀b,β j = some b→ρ b = none→ρ' b = none) :
  DR P ρ' H lo hi ops D (ins L i) t n (putA a o.dst x) chk:=by
 have old:∀j,Xg (ins L i) j = false→Xg L j = false∧j ≠ i:=by
  intro j hj
  have hne:j ≠ i:=by rintro rfl;rw [X5] at hj;cases hj
  rw [Wt (Ne.symm hne)] at hj
  exact⟨hj,hne⟩
 refine { ok:=h.ok,shutD:=h.shutD,shutL:=h.shutL.ins ho hf,sub:=?_,size:=by rw [putA_size];exact h.size,temps:=?_,dstn:=fun j oj d hj hjL hoj hd =>h.dstn j oj d hj (old j hjL).1 hoj hd,noeff:=fun j oj hj hjL hoj =>h.noeff j oj hj (old j hjL).1 hoj,pend:=⟨β,h1,h2,?_⟩ }
 ·intro j hj
  rcases bit_ins_cases hj with hj | rfl
  ·exact h.sub j hj
  ·exact hD
 ·intro k u hg hk
  by_cases hdk:o.dst = some k
  ·rw [putA_eq hdk (by rw [h.size];exact hx k hdk)]
   exact hv k u hdk hg
  ·rw [putA_ne hdk]
   refine (h.temps k u hg fun j oj hj hjL hoj =>?_).ext he
   by_cases e:j = i
   ·subst e
    rw [ho] at hoj
    simp only [Option.some.injEq] at hoj
    subst hoj
    exact hdk
   ·exact hk j oj hj (by rw [Wt (Ne.symm e)];exact hjL) hoj
 ·intro j oj hj hjL hoj
  obtain⟨hjL,hne⟩:=old j hjL
  exact (h3 j oj hj hjL hoj).ren fun b hb hn =>hren j hne b hb hn
theorem run_pending {lo hi:Nat} {ops:Array Oper} {D L:Nat} {t:Tri AV} {n:Nat} {g:Frame} {cs:List Frame} {i:Nat} {o:Oper} {rest:List Nat} {k:List Item} (hm:g.mode = .run) (hk:g.todo = .inRegion ops (i :: rest) :: k)
  (h:DR P ρ H lo hi ops D L t n g.tmps true) (hg:GR ρ) (hw:WR w0 ρ H w) (ho:ops[i]? = some o) (hD:Xg D i = true) (hL:Xg L i = false) (hf:Xv L o = true) :
  ∃ρ' w' a',step P (lone g cs w) = .next (lone { g with tmps:=a',todo:=.inRegion ops rest :: k } cs w')∧WR w0 ρ' H w'∧Xe lo ρ H ρ' H∧DR P ρ' H lo hi ops D (ins L i) t n a' true:=by
 obtain⟨β,h1,h2,h3⟩:=h.pend
 have hp:=h3 i o hD hL ho
 have hev:=h.evR hg ho hf
 have hlook:∀d ∈ Oper.looksAt ops o,∀v,t.get d = some v→VR ρ v (g.tmps.getD d undef):=fun d hd v hv =>h.reads ho hf hd hv
 have hdn:∀d,o.dst = some d→d < n:=fun d hd =>h.dstn i o d hD hL ho hd
 have same:∀{x:Value},(∀d v,o.dst = some d→t.get d = some v→VR ρ v x)→DR P ρ H lo hi ops D (ins L i) t n (putA g.tmps o.dst x) true:=fun hv =>
  h.done ho hD hf hv hdn (Xo.refl ρ) h1 h2 h3 (fun _ _ _ _ hn =>hn)
 have nodefer:Region.wanted o (yielded ops g.tmps) = true→cls P o.op ≠ .eff→∀c,o.op ≠ .defer c:=by
  intro _ hc c he
  rw [he] at hc
  exact hc rfl
 cases hp with
 | skip hwa hd =>
  have hwn:=Ww hlook hwa
  refine⟨ρ,w,putA g.tmps o.dst undef,by rw [step_unwanted hm ho hk hwn,Xn ho hk],hw,Xe.refl _ _ _,same fun d v hdd hv =>?_⟩
  rw [hd d hdd] at hv
  cases hv
  exact .tuple .nil
 | pure hwa hc hv hd =>
  have hwn:=Ww hlook hwa
  obtain⟨x,hx,hrun⟩:=pureU_sound (P:=P) hev hv
  refine⟨ρ,w,putA g.tmps o.dst x,by rw [step_value hm ho hk hwn (nodefer hwn (by rw [hc];simp)) (hrun w),Xn ho hk],hw,Xe.refl _ _ _,same fun d v hdd hv =>?_⟩
  rw [hd d hdd] at hv
  cases hv
  exact hx
 | load hwa hc hv =>
  have hwn:=Ww hlook hwa
  obtain⟨v,hv,hd⟩:=hv rfl
  obtain⟨x,hx,hrun⟩:=loadU_sound hw hev hv
  refine⟨ρ,w,putA g.tmps o.dst x,by rw [step_value hm ho hk hwn (nodefer hwn (by rw [hc];simp)) hrun,Xn ho hk],hw,Xe.refl _ _ _,same fun d v hdd hv =>?_⟩
  rw [hd d hdd] at hv
  cases hv
  exact hx
 | new hwa hc hv hone hb hn hgB hd =>
  rename_i b B mk
  have hwn:=Ww hlook hwa
  obtain⟨obj,m,val,hB,hval,hrun⟩:=newU_sound (P:=P) hev hv hone
  obtain⟨hw',hext,hothers⟩:=hw.land hgB hn hB
  refine⟨_,_,putA g.tmps o.dst (val w.heap.size),by rw [step_value hm ho hk hwn (nodefer hwn (by rw [hc];simp)) (hrun w),Xn ho hk],hw',⟨hext,Nat.le_refl _,fun b' hb' hn' =>⟨?_,rfl⟩⟩,?_⟩
  ·rw [hothers b' (by have:=(h2 i b hb).1;omega)]
   exact hn'
  ·refine h.done ho hD hf (fun d v hdd hv =>?_) hdn hext h1 h2 h3 (fun j hj b' hb' hn' =>?_)
   ·rw [hd d hdd] at hv
    cases hv
    exact hval _ _ _ hext (YK _ _ _ _)
   ·rw [hothers b' (by rintro rfl;exact hj (h1 j i b' hb' hb))]
    exact hn'
theorem catchup {lo hi:Nat} {ops:Array Oper} {D:Nat} {t:Tri AV} {n:Nat} {cs:List Frame} {k:List Item} {L:Nat} {todo:List Nat} (hs:Sched ops L todo):∀{ρ:Yl} {w:World} {g:Frame},g.mode = .run→g.todo = .inRegion ops todo :: k →
  DR P ρ H lo hi ops D L t n g.tmps true→GR ρ→WR w0 ρ H w →
  ∃ρ' w' a' L' todo',Steps P (lone g cs w) (lone { g with tmps:=a',todo:=.inRegion ops todo' :: k } cs w')∧WR w0 ρ' H w'∧Xe lo ρ H ρ' H∧DR P ρ' H lo hi ops D L' t n a' true∧Sched ops L' todo'∧∀i rest,todo' = i :: rest→Xg D i = false:=by
 induction hs with
 | nil hall =>
  intro ρ w g hm hk h hg hw
  refine⟨ρ,w,g.tmps,_,[],?_,hw,Xe.refl _ _ _,h,.nil hall,fun i rest h =>by cases h⟩
  rw [← hk]
  exact .refl _ _
 | @cons L i o rest ho hn hf hs ih =>
  intro ρ w g hm hk h hg hw
  cases hD:Xg D i with
  | false =>
   refine⟨ρ,w,g.tmps,_,i :: rest,?_,hw,Xe.refl _ _ _,h,.cons ho hn hf hs,fun i' rest' h =>by cases h;exact hD⟩
   rw [← hk]
   exact .refl _ _
  | true =>
   obtain⟨ρ',w',a',hst,hw',hk',hd'⟩:=run_pending (cs:=cs) hm hk h hg hw ho hD hn hf
   obtain⟨ρ2,w2,a2,L2,todo2,hst2,hw2,hk2,hd2,hs2,hlast⟩:=ih (ρ:=ρ') (w:=w') (g:={ g with tmps:=a',todo:=.inRegion ops rest :: k }) hm rfl hd' (hg.ext hk'.ext) hw'
   exact⟨ρ2,w2,a2,L2,todo2,.head hst hst2,hw2,hk'.trans hk2,hd2,hs2,hlast⟩
end
end Go.Ev
end
section
namespace Go.Ev
open Go.RowKit
mutual
theorem AV.beq_eq:∀{a b:AV},AV.beq a b = true→a = b
 | .bool a,.bool b,h =>by simp only [AV.beq,beq_iff_eq] at h;rw [h]
 | .int j a,.int k b,h =>by
  simp only [AV.beq,Bool.and_eq_true,decide_eq_true_eq] at h
  rw [h.1,h.2]
 | .str a,.str b,h =>by simp only [AV.beq,decide_eq_true_eq] at h;rw [h]
 | .nilptr,.nilptr,_ =>rfl
 | .ptr a b,.ptr c d,h =>by
  simp only [AV.beq,Bool.and_eq_true,Nat.beq_eq] at h
  rw [h.1,h.2]
 | .nilslice,.nilslice,_ =>rfl
 | .slice a b c d,.slice a' b' c' d',h =>by
  simp only [AV.beq,Bool.and_eq_true,Nat.beq_eq,decide_eq_true_eq] at h
  rw [h.1.1.1,h.1.1.2,h.1.2,h.2]
 | .nilmap,.nilmap,_ =>rfl
 | .map a,.map b,h =>by simp only [AV.beq,Nat.beq_eq] at h;rw [h]
 | .func f a b,.func g c d,h =>by
  simp only [AV.beq,Bool.and_eq_true,Nat.beq_eq] at h
  rw [h.1.1,AV.beqs_eq h.1.2,AV.beqs_eq h.2]
 | .yield a,.yield b,h =>by simp only [AV.beq,Nat.beq_eq] at h;rw [h]
 | .nilfunc,.nilfunc,_ =>rfl
 | .iface t v,.iface u w,h =>by
  simp only [AV.beq,Bool.and_eq_true,Nat.beq_eq] at h
  rw [h.1,AV.beq_eq h.2]
 | .niliface,.niliface,_ =>rfl
 | .agg a,.agg b,h =>by simp only [AV.beq] at h;rw [AV.beqs_eq h]
 | .tuple a,.tuple b,h =>by simp only [AV.beq] at h;rw [AV.beqs_eq h]
 | .opq a,.opq b,h =>by simp only [AV.beq,Nat.beq_eq] at h;rw [h]
theorem AV.beqs_eq:∀{a b:List AV},Ym a b = true→a = b
 | [],[],_ =>rfl
 | x :: l,y :: m,h =>by
  simp only [Ym,Bool.and_eq_true] at h
  rw [AV.beq_eq h.1,AV.beqs_eq h.2]
end
section
variable {P:Program} {w0:World} {ρ:Yl} {H:AH} {w:World}
theorem Pend.upgrade {bo:Option Nat} {t:Tri AV} {ops:Array Oper} {o:Oper} (h:Pend P ρ H bo false t ops o) (hl:cls P o.op = .load→Zb ops t o = some true→∃v,WM P t o.op H = some v∧∀d,o.dst = some d→t.get d = some v):Pend P ρ H bo true t ops o:=by
 cases h with
 | skip hw hd =>exact .skip hw hd
 | pure hw hc hv hd =>exact .pure hw hc hv hd
 | load hw hc _ =>exact .load hw hc fun _ =>hl hc hw
 | new hw hc hv h1 hb hn hg hd =>exact .new hw hc hv h1 hb hn hg hd
/-- The effect is done. -/
theorem DR.effect {lo hi:Nat} {ops:Array Oper} {D L:Nat} {t:Tri AV} {n:Nat} {a:Array Value} (h:DR P ρ H lo hi ops D L t n a false) {e:Nat} {o:Oper} {v:AV} {x:Value} (ho:ops[e]? = some o) (hD:Xg D e = false) (hf:Xv L o = true) (hv:VR ρ v x) (hlid:n≤Tri.lid)
  {fr:AF} (hfr:fr.tmps = putD t o.dst v) (hdn:∀d,o.dst = some d→d < n) (hc:WQ P ops fr H D e = true) :
  DR P ρ H lo hi ops (ins D e) (ins L e) (putD t o.dst v) n (putA a o.dst x) true:=by
 obtain⟨β,h1,h2,h3⟩:=h.pend
 have hl:∀d,o.dst = some d→d < Tri.lid:=fun d hd =>Nat.lt_of_lt_of_le (hdn d hd) hlid
 have hfD:Xv D o = true:=freeU_mono h.sub hf
 have old:∀j,Xg (ins D e) j = true→Xg (ins L e) j = false→Xg D j = true∧Xg L j = false∧j ≠ e:=by
  intro j hj hjL
  have hne:j ≠ e:=by rintro rfl;rw [X5] at hjL;cases hjL
  rw [Wt (Ne.symm hne)] at hj hjL
  exact⟨hj,hjL,hne⟩
 refine { ok:=h.ok,shutD:=h.shutD.ins ho hfD,shutL:=h.shutL.ins ho hf,sub:=?_,size:=by rw [putA_size];exact h.size,temps:=?_,dstn:=?_,noeff:=?_,pend:=⟨β,h1,h2,?_⟩ }
 ·intro j hj
  rcases bit_ins_cases hj with hj | rfl
  ·exact Ws (h.sub j hj)
  ·exact X5 _ _
 ·intro k u hg hk
  by_cases hdk:o.dst = some k
  ·rw [putD_eq hl hdk] at hg
   rw [putA_eq hdk (by rw [h.size];exact hdn k hdk)]
   cases hg
   exact hv
  ·rw [putD_ne hl hdk] at hg
   rw [putA_ne hdk]
   refine h.temps k u hg fun j oj hj hjL hoj =>?_
   have hne:j ≠ e:=by rintro rfl;rw [hD] at hj;cases hj
   exact hk j oj (Ws hj) (by rw [Wt (Ne.symm hne)];exact hjL) hoj
 ·intro j oj d hj hjL hoj hd
  obtain⟨hj,hjL,_⟩:=old j hj hjL
  exact h.dstn j oj d hj hjL hoj hd
 ·intro j oj hj hjL hoj
  obtain⟨hj,hjL,_⟩:=old j hj hjL
  exact h.noeff j oj hj hjL hoj
 ·intro j oj hj hjL hoj
  obtain⟨hj,hjL,hne⟩:=old j hj hjL
  have hanc:Xg ((Region.before ops).getD e 0) j = false:=by
   cases hb:Xg ((Region.before ops).getD e 0) j with
   | false =>rfl
   | true =>
    rw [anc_done h.shutL e ho hf hb] at hjL
    cases hjL
  have hp:=(h3 j oj hj hjL hoj).congr (t':=putD t o.dst v) (H':=H) (fun d hd =>(putD_ne hl fun hod =>?_).symm) (fun d hd =>putD_ne hl fun hod =>?_) (fun _ _ hg =>hg)
  ·refine hp.upgrade fun hcl hw =>?_
   unfold WQ at hc
   simp only [List.all_eq_true,List.mem_range] at hc
   have:=hc j (Array.getElem?_eq_some_iff.1 hoj).1
   rw [hoj] at this
   simp only [hj,hanc,Bool.not_true,Bool.false_or,hcl,hfr,hw] at this
   split at this
   ·rename_i v' d hv' hd
    split at this
    ·rename_i u hu
     have:=AV.beq_eq this
     subst this
     exact⟨v',hv',fun d' hd' =>by rw [hd] at hd';cases hd';exact hu⟩
    ·cases this
   ·cases this
  ·rcases h.ok.look j e oj o d hoj ho hod hne hd with h4 | ⟨_,h4⟩
   ·rw [anc_done h.shutD j hoj (h.shutD j oj hj hoj) h4] at hD
    cases hD
   ·rw [hanc] at h4
    cases h4
  ·exact h.ok.one j e oj o d hoj ho hod hne hd
theorem YV {lo hi:Nat} {f f':AF} {g:Frame} {v:AV} {x:Value} (h:FrR P ρ H lo hi false f g) (hm:f.mode = .run) (hv:VR ρ v x) (hr:YZ P f v H = some f') :
  FrR P ρ H lo hi true f' (g.finish x)∧f'.mode = .run:=by
 obtain⟨hfn,hkind,hlid,hround,hmode,hdefers,htd⟩:=h
 obtain⟨fn,n,t,todo,defers,mode,kind,roundOf⟩:=f
 obtain⟨fn',a,todo',defers',mode',kind',roundOf'⟩:=g
 dsimp only at *
 subst hm
 unfold YZ at hr
 dsimp only at hr
 split at hr
 ·
  rename_i ops i rest k
  simp only [Option.map_eq_some_iff] at hr
  obtain⟨fr1,hp,rfl⟩:=hr
  obtain⟨rfl,hlt⟩:=W3 hp
  dsimp only at hlt
  cases htd with
  | gone hne =>exact absurd rfl hne
  | plain hk ht =>
   cases hk with | cons hi hs =>
   cases hi
   refine⟨⟨hfn,hkind,hlid,hround,hmode,hdefers,?_⟩,rfl⟩
   refine .plain (.cons (.inRegion _ _) hs) ?_
   dsimp only [Frame.finish]
   cases hd:(ops[i]?).bind (·.dst) with
   | none =>exact ht
   | some d =>exact ht.put hv (hlt d hd) (Nat.lt_of_lt_of_le (hlt d hd) hlid)
 ·
  rename_i ops D e k
  cases htd with
  | gone hne =>exact absurd rfl hne
  | plain hk ht =>cases hk with | cons hi hs =>cases hi
  | @waits _ _ L _ o todo _ k' _ _ hk ho hD hf hs hd =>
   rw [ho] at hr
   simp only [Option.bind_some] at hr
   split at hr
   ·rename_i fr1 hp
    split at hr
    ·rename_i hc
     simp only [Option.some.injEq] at hr
     subst hr
     obtain⟨rfl,hlt⟩:=W3 hp
     dsimp only at hlt
     refine⟨⟨hfn,hkind,hlid,hround,hmode,hdefers,?_⟩,rfl⟩
     have:=Xn (g:=⟨fn',a,.inRegion ops (e :: todo) :: k',defers',mode',kind',roundOf'⟩) ho rfl x
     rw [this]
     exact .drawn rfl rfl hk hs (hd.effect ho hD hf hv hlid rfl hlt hc)
    ·cases hr
   ·cases hr
 ·rename_i l k
  simp only [Option.some.injEq] at hr
  subst hr
  cases htd with
  | gone hne =>exact absurd rfl hne
  | plain hk ht =>
   cases hk with | cons hi hs =>
   cases hi with | inRange hl =>
   exact⟨⟨hfn,hkind,hlid,hround,hmode,hdefers,.plain (.cons (.endRange hl) hs) ht⟩,rfl⟩
 ·rename_i k
  simp only [Option.some.injEq] at hr
  subst hr
  cases htd with
  | gone hne =>exact absurd rfl hne
  | plain hk ht =>
   cases hk with | cons hi hs =>
   cases hi
   exact⟨⟨hfn,hkind,hlid,hround,hmode,hdefers,.plain hs ht⟩,rfl⟩
 ·cases hr
end
end Go.Ev
end
section
namespace Go.Ev
open Go.RowKit
section
variable {P:Program} {w0:World} {ρ:Yl} {H:AH} {w:World}
/-! ### a panic -/
theorem dropT_get:∀{l:List Oper} {t:Tri AV} {k:Nat} {v:AV},(dropT l t).get k = some v→t.get k = some v∧∀o ∈ l,o.dst ≠ some k
 | [],t,k,v,h =>⟨h,fun o ho =>by cases ho⟩
 | o :: l,t,k,v,h =>by
  unfold dropT at h
  split at h
  ·rename_i d hd
   split at h
   ·rename_i hlt
    rw [Nat.blt_eq] at hlt
    obtain⟨h1,h2⟩:=dropT_get h
    rw [Tri.get_put hlt] at h1
    split at h1
    ·cases h1
    ·rename_i hne
     refine⟨h1,fun o' ho' =>?_⟩
     rcases List.mem_cons.1 ho' with rfl | ho'
     ·rw [hd]
      intro e
      cases e
      exact hne rfl
     ·exact h2 o' ho'
   ·rw [Tri.get_leaf] at h
    cases h
  ·rename_i hd
   obtain⟨h1,h2⟩:=dropT_get h
   refine⟨h1,fun o' ho' =>?_⟩
   rcases List.mem_cons.1 ho' with rfl | ho'
   ·rw [hd]
    simp
   ·exact h2 o' ho'
theorem DR.shed {lo hi:Nat} {ops:Array Oper} {D L:Nat} {t:Tri AV} {n:Nat} {a:Array Value} {chk:Bool} (h:DR P ρ H lo hi ops D L t n a chk):TR ρ (dropT ops.toList t) n a:=by
 refine⟨h.size,fun k v hv =>?_⟩
 obtain⟨h1,h2⟩:=dropT_get hv
 exact h.temps k v h1 fun i o _ _ ho =>h2 o (by
  rw [Array.mem_toList_iff]
  exact Array.mem_of_getElem? ho)
theorem raiseU_sound {lo hi:Nat} {top:Bool} {f:AF} {g:Frame} {vs:List (AV × Bool)} {vs':List PanicEntry} (h:FrR P ρ H lo hi top f g) (hv:CR ρ vs vs'):FrR P ρ H lo hi true (raiseU f vs) (g.raise vs')∧(raiseU f vs).mode ≠ .run:=by
 obtain⟨hfn,hkind,hlid,hround,hmode,hdefers,htd⟩:=h
 obtain⟨fn,n,t,todo,defers,mode,kind,roundOf⟩:=f
 obtain⟨fn',a,todo',defers',mode',kind',roundOf'⟩:=g
 dsimp only at *
 have key:∃t',shed ⟨fn,n,t,todo,defers,mode,kind,roundOf⟩ = ⟨fn,n,t',[],defers,mode,kind,roundOf⟩∧TR ρ t' n a∧noCall todo':=by
  cases htd with
  | plain hk ht =>
   refine⟨t,?_,ht,hk.noCall⟩
   cases hk with
   | nil =>rfl
   | cons h _ =>cases h <;> rfl
  | gone _ hk ht =>
   unfold shed
   dsimp only
   split
   ·refine⟨_,rfl,⟨ht.1,fun k v hv =>?_⟩,hk⟩
    exact ht.2 k v (dropT_get hv).1
   ·exact⟨t,rfl,ht,hk⟩
  | drawn _ _ _ _ hd =>exact⟨_,rfl,hd.shed,trivial⟩
  | waits _ _ _ _ _ _ hd =>exact⟨_,rfl,hd.shed,trivial⟩
 obtain⟨t',hs,ht,hn⟩:=key
 unfold raiseU
 rw [hs]
 dsimp only
 cases hmode with
 | run =>exact⟨⟨hfn,hkind,hlid,hround,.panicking hv,hdefers,.gone (by simp) hn ht⟩,by simp⟩
 | returning =>exact⟨⟨hfn,hkind,hlid,hround,.panicking hv,hdefers,.gone (by simp) hn ht⟩,by simp⟩
 | panicking hc =>exact⟨⟨hfn,hkind,hlid,hround,.panicking (hv.append hc),hdefers,.gone (by simp) hn ht⟩,by simp⟩
/-! ### a call begins -/
theorem lay_get:∀{l:List AV} {i:Nat} {t:Tri AV} {k:Nat} {v:AV},i + l.length≤Tri.lid→(Zn i l t).get k = some v→(k < i∧t.get k = some v) ∨ (i≤k∧l[k - i]? = some v) ∨ (i + l.length≤k∧t.get k = some v)
 | [],i,t,k,v,_,h =>by
  rcases Nat.lt_or_ge k i with hk | hk
  ·exact .inl ⟨hk,h⟩
  ·exact .inr (.inr ⟨by simpa using hk,h⟩)
 | u :: l,i,t,k,v,hl,h =>by
  simp only [List.length_cons] at hl
  unfold Zn at h
  have hget:=fun m =>Tri.get_put (t:=t) (n:=i) (o:=some u) (by omega) m
  rcases lay_get (l:=l) (i:=i + 1) (by omega) h with ⟨hk,h2⟩ | ⟨hk,h⟩ | ⟨hk,h⟩
  ·rw [hget] at h2
   by_cases e:k = i
   ·rw [if_pos e] at h2
    refine .inr (.inl ⟨by omega,?_⟩)
    rw [e,Nat.sub_self,List.getElem?_cons_zero]
    exact h2
   ·rw [if_neg e] at h2
    exact .inl ⟨by omega,h2⟩
  ·refine .inr (.inl ⟨by omega,?_⟩)
   rw [show k - i = (k - (i + 1)) + 1 from by omega,List.getElem?_cons_succ]
   exact h
  ·rw [hget,if_neg (by omega)] at h
   exact .inr (.inr ⟨by simp only [List.length_cons];omega,h⟩)
theorem enterU_sound {lo hi:Nat} {f:FuncId} {args:List AV} {args':Array Value} {kind:CallKind} {fr:AF} (h:ZQ P f args kind = some fr) (ha:Xy ρ args args'.toList) :
  FrR P ρ H lo hi true fr (Frame.enter P f args' kind)∧fr.mode = .run∧fr.fn = f:=by
 unfold ZQ at h
 split at h
 ·rename_i fn hf
  have hf:=funcU_sound hf
  split at h
  ·rename_i c hc
   split at h
   ·rename_i hb
    rw [Bool.and_eq_true,Nat.blt_eq,Nat.blt_eq] at hb
    simp only [Option.some.injEq] at h
    subst h
    have hlid:Tri.lid = 1000000:=rfl
    have hlen:=ha.length
    simp only [Array.length_toList] at hlen
    have hn:args.length + (fn.ntmps - args.length)≤Tri.lid:=by omega
    refine⟨⟨rfl,rfl,hn,.none,.run,.nil,?_⟩,rfl,rfl⟩
    simp only [Frame.enter,hf,Option.map_some,Option.getD_some,Option.bind_some,hc]
    refine .plain (.cons (.code c) .nil) ⟨by simp [hlen],fun k v hv =>?_⟩
    rcases lay_get (by omega) hv with ⟨hk,_⟩ | ⟨hk,hv⟩ | ⟨_,hv⟩
    ·omega
    ·obtain⟨x,hx,hr⟩:=ha.get hv
     rw [Nat.sub_zero,Array.getElem?_toList] at hx
     have hlt:=(Array.getElem?_eq_some_iff.1 hx).1
     rw [Array.getD_eq_getD_getElem?,Array.getElem?_append_left hlt,hx]
     exact hr
    ·rw [Tri.get_leaf] at hv
     cases hv
   ·cases h
  ·cases h
 ·cases h
theorem RoundR.none_eq {y:Option Nat} (h:RoundR ρ Option.none y):y = Option.none:=by cases h;rfl
theorem ModeR.chain {y:FrameMode} {v:AV} {r:Bool} {l:List (AV × Bool)} (h:ModeR ρ (.panicking ((v,r) :: l)) y):∃x m,y = .panicking ({ v:=x,recovered:=r } :: m)∧VR ρ v x∧CR ρ l m:=by
 cases h with | panicking h =>cases h with | cons hv hs =>exact⟨_,_,rfl,hv,hs⟩
theorem ModeR.chain' {m:AM} {x:Value} {r:Bool} {l:List PanicEntry} (h:ModeR ρ m (.panicking ({ v:=x,recovered:=r,goexit:=false } :: l))):∃v o,m = .panicking ((v,r) :: o):=by
 cases h with | panicking h =>cases h with | cons hv hs =>exact⟨_,_,rfl⟩
theorem TD.turn {lo hi:Nat} {top top':Bool} {m m':AM} {n:Nat} {t:Tri AV} {k:List AI} {a:Array Value} {k':List Item} (h:TD P ρ H lo hi top m n t k a k') (hm:m ≠ .run) (hm':m' ≠ .run):TD P ρ H lo hi top' m' n t k a k':=by
 cases h with
 | plain hk ht =>exact .plain hk ht
 | gone _ hk ht =>exact .gone hm' hk ht
 | drawn _ hr =>exact absurd hr hm
 | waits hr =>exact absurd hr hm
theorem ModeR.run_eq {y:FrameMode} (h:ModeR ρ .run y):y = .run:=by cases h;rfl
theorem TD.noCall {lo hi:Nat} {top:Bool} {m:AM} {n:Nat} {t:Tri AV} {k:List AI} {a:Array Value} {k':List Item} (h:TD P ρ H lo hi top m n t k a k'):Go.Ev.noCall k':=by
 cases h with
 | plain hk _ =>exact hk.noCall
 | gone _ hk _ =>exact hk
 | drawn =>trivial
 | waits =>trivial
/-! ### machines -/
structure MR (P:Program) (w0:World) (m:Yc) (g:Frame) (ds:List Frame) (w:World):Prop where
 rel:∃ρ lo,GR ρ∧WR w0 ρ m.H w∧lo≤m.H.next∧FrR P ρ m.H lo m.H.next true m.fr g∧FrRs P ρ m.H lo m.cs ds
theorem applyU_sound {lo:Nat} {f:AF} {g:Frame} {cs:List AF} {ds c0:List Frame} {r:Xb × AH} {s:Sem Next} {m:Yc} (hg:GR ρ) (hlo:lo≤H.next) (h:FrR P ρ H lo H.next false f g) (hm:f.mode = .run) (hs:FrRs P ρ H lo cs ds)
  (hd:Does P w0 ρ H w r s) (hr:Y1 P f cs r = some m) :
  ∃g' ds' w',(stepG.apply P true g (ds ++ c0) none s w).bare = .go { frame:=g',callers:=ds' ++ c0,status:=.running,dying:=none } w'∧MR P w0 m g' ds' w':=by
 obtain⟨ρ',w',hw,hp,ho⟩:=hd
 obtain⟨an,H'⟩:=r
 dsimp only at hw hp ho
 have hk:Xe H.next ρ H ρ' H':=hp.keeps (Nat.le_refl _)
 have hg':=hg.ext hk.ext
 have hlo':lo≤H'.next:=Nat.le_trans hlo hk.next
 have hf':∀top,FrR P ρ' H' lo H'.next top f g:=fun top =>h.keeps hk (Nat.le_refl _) hk.next
 have hs':FrRs P ρ' H' lo cs ds:=hs.keeps hk hlo
 have hno:=h.todo.noCall
 generalize hres:s.run P w = res at ho
 cases ho with
 | panic hv =>
  rename_i v x
  simp only [Y1,Option.some.injEq] at hr
  subst hr
  refine⟨_,ds,w',by simp [stepG.apply,hres],⟨ρ',lo,hg',hw,hlo',(raiseU_sound (hf' true) (.cons hv .nil)).1,hs'⟩⟩
 | ok hn =>
  cases hn with
  | val hv =>
   simp only [Y1,Option.map_eq_some_iff] at hr
   obtain⟨fr',hfin,rfl⟩:=hr
   obtain⟨h1,_⟩:=YV (hf' false) hm hv hfin
   exact⟨_,ds,w',apply_value hres,⟨ρ',lo,hg',hw,hlo',h1,hs'⟩⟩
  | skip =>
   simp only [Y1,Option.map_eq_some_iff] at hr
   obtain⟨fr',hfin,rfl⟩:=hr
   obtain⟨h1,_⟩:=YV (x:=undef) (hf' false) hm (.tuple .nil) hfin
   exact⟨g.finish undef,ds,w',by simp [stepG.apply,hres],⟨ρ',lo,hg',hw,hlo',h1,hs'⟩⟩
  | enter ha =>
   simp only [Y1,Option.map_eq_some_iff] at hr
   obtain⟨g2,he,rfl⟩:=hr
   obtain⟨h1,_,_⟩:=enterU_sound (P:=P) (H:=H') (lo:=H'.next) (hi:=H'.next) he ha
   refine⟨_,g :: ds,w',by
    simp [stepG.apply,hres]
    split
    ·rename_i heq;rw [heq] at hno;cases hno
    ·rfl,⟨ρ',H'.next,hg',hw,Nat.le_refl _,h1,.cons hlo' (hf' false) hs'⟩⟩
  | round hl hn ht =>
   simp only [Y1,Option.some.injEq] at hr
   subst hr
   refine⟨_,g :: ds,w',by simp [stepG.apply,hres];rfl,⟨ρ',H'.next,hg',hw,Nat.le_refl _,?_,.cons hlo' (hf' false) hs'⟩⟩
   exact⟨rfl,rfl,hn,.some hl,.run,.nil,.plain (.cons (.code _) (.cons .beginRound (.cons (.code _) .nil))) ht⟩
  | @defer fid args caps args' caps' ha hc =>
   simp only [Y1] at hr
   split at hr
   ·cases hr
   ·simp only [Option.map_eq_some_iff] at hr
    obtain⟨fr',hfin,rfl⟩:=hr
    have hf2:=hf' false
    have:FrR P ρ' H' lo H'.next false { f with defers:=.call fid args caps :: f.defers } { g with defers:={ target:=.fn (.func fid) caps',args:=args' } :: g.defers }:=⟨hf2.fn,hf2.kind,hf2.lid,hf2.round,hf2.mode,.cons (.call ha hc) hf2.defers,hf2.todo⟩
    obtain⟨h1,_⟩:=YV (x:=undef) this hm (.tuple .nil) hfin
    exact⟨_,ds,w',by simp [stepG.apply,hres],⟨ρ',lo,hg',hw,hlo',h1,hs'⟩⟩
  | recover =>
   simp only [Y1] at hr
   split at hr
   ·cases hr
   rename_i hro
   have hgro:g.roundOf = none:=by
    have:=h.round
    rw [hro] at this
    exact this.none_eq
   have hk:=h.kind
   have nothing:tryRecover g (ds ++ c0) = none→∀fr',YZ P f .niliface H' = some fr'→m = ⟨fr',cs,H'⟩ →
     ∃g' ds' w',(stepG.apply P true g (ds ++ c0) none s w).bare = .go { frame:=g',callers:=ds' ++ c0,status:=.running,dying:=none } w'∧MR P w0 m g' ds' w':=by
    intro hnone fr' hfin hmm
    subst hmm
    obtain⟨h1,_⟩:=YV (x:=.nilIface) (hf' false) hm .niliface hfin
    exact⟨_,ds,w',by simp [stepG.apply,hres,hgro,hnone],⟨ρ',lo,hg',hw,hlo',h1,hs'⟩⟩
   split at hr
   ·rename_i c cs1 hkind
    rw [hkind] at hk
    cases hs' with | @cons lo1 _ _ d _ ds1 hle1 hc1 hs1 =>
    have hcm:=hc1.mode
    split at hr
    ·rename_i v older hcmode
     simp only [Option.map_eq_some_iff] at hr
     obtain⟨fr',hfin,rfl⟩:=hr
     rw [hcmode] at hcm
     obtain⟨x,older',hdm,hv,hold⟩:=hcm.chain
     obtain⟨h1,_⟩:=YV (x:=x) (hf' false) hm hv hfin
     refine⟨_,{ d with mode:=.panicking ({ v:=x,recovered:=true } :: older') } :: ds1,w',by simp [stepG.apply,hres,hgro,tryRecover,← hk,hdm],⟨ρ',lo,hg',hw,hlo',h1,.cons hle1 ?_ hs1⟩⟩
     refine⟨hc1.fn,hc1.kind,hc1.lid,hc1.round,.panicking (.cons hv hold),hc1.defers,?_⟩
     have htd:=hc1.todo
     rw [hcmode] at htd
     exact htd.turn (by simp) (by simp)
    ·rename_i hno1
     simp only [Option.map_eq_some_iff] at hr
     obtain⟨fr',hfin,rfl⟩:=hr
     refine nothing ?_ fr' hfin rfl
     have:∀x older,d.mode ≠ .panicking ({ v:=x,recovered:=false,goexit:=false } :: older):=by
      intro x older hdm
      rw [hdm] at hcm
      obtain⟨v,o,hcmo⟩:=hcm.chain'
      exact hno1 v o hcmo
     simp only [tryRecover,← hk,List.cons_append]
   ·cases hr
   ·rename_i hkind
    rw [hkind] at hk
    simp only [Option.map_eq_some_iff] at hr
    obtain⟨fr',hfin,rfl⟩:=hr
    exact nothing (by simp [tryRecover,← hk]) fr' hfin rfl
   ·cases hr
end
end Go.Ev
end
section
namespace Go.Ev
open Go.RowKit
section
variable {P:Program} {w0:World} {ρ:Yl} {H:AH} {w:World}
/-- Where a step leads. -/
def Goes (P:Program) (w0:World) (g:Frame) (ds c0:List Frame) (w:World) (m:Yc):Prop :=
 ∃g' ds' w',Steps P (lone g (ds ++ c0) w) (lone g' (ds' ++ c0) w')∧MR P w0 m g' ds' w'
theorem Goes.of_stepG {g:Frame} {ds c0:List Frame} {m:Yc} (h:∃g' ds' w',(stepG P true { frame:=g,callers:=ds ++ c0,status:=.running,dying:=none } w).bare = .go { frame:=g',callers:=ds' ++ c0,status:=.running,dying:=none } w'∧MR P w0 m g' ds' w'):Goes P w0 g ds c0 w m:=by
 obtain⟨g',ds',w',h1,h2⟩:=h
 exact⟨g',ds',w',.one (step_lone_go h1),h2⟩
/-- The frame goes on with something else. -/
theorem Xk {lo:Nat} {f:AF} {g:Frame} {cs:List AF} {ds c0:List Frame} {m:Yc} (hg:GR ρ) (hw:WR w0 ρ H w) (hlo:lo≤H.next) (h:FrR P ρ H lo H.next true f g) (hs:FrRs P ρ H lo cs ds) (ht:TR ρ f.tmps f.n g.tmps)
  {k:List AI} {k':List Item} (hk:IRs ρ k k') (hr:toA f cs H k = some m)
  (hst:(stepG P true { frame:=g,callers:=ds ++ c0,status:=.running,dying:=none } w).bare = .go { frame:={ g with todo:=k' },callers:=ds ++ c0,status:=.running,dying:=none } w):Goes P w0 g ds c0 w m:=by
 simp only [toA,Option.some.injEq] at hr
 subst hr
 exact .of_stepG ⟨_,ds,w,hst,⟨ρ,lo,hg,hw,hlo,⟨h.fn,h.kind,h.lid,h.round,h.mode,h.defers,.plain hk ht⟩,hs⟩⟩
theorem exitU_sound {id:Nat}:∀{k:List AI} {k':List Item},IRs ρ k k'→(∀r,exitU id k = some r→∃r',exitTo id k' = some r'∧IRs ρ r r')∧(exitU id k = none→exitTo id k' = none)
 | _,_,.nil =>⟨fun r h =>(by cases h),fun _ =>rfl⟩
 | _,_,.cons (x:=x) (y:=y) h hs =>by
  have ih:=exitU_sound (id:=id) hs
  cases h with
  | inBlock id' =>
   unfold exitU exitTo
   by_cases e:id' = id
   ·subst e
    simp only [Nat.beq_refl,if_true,beq_self_eq_true]
    exact⟨fun r h =>⟨_,rfl,by cases h;exact hs⟩,fun h =>by cases h⟩
   ·have h1:¬ (Nat.beq id' id = true):=fun hb =>e (Nat.eq_of_beq_eq_true hb)
    have h2:¬ ((id' == id) = true):=by simpa using e
    rw [if_neg h1,if_neg h2]
    exact ih
  | code c =>exact ih
  | inLoop c =>exact ih
  | inScope c =>exact ih
  | inRegion ops todo =>exact ih
  | inRange h =>exact ih
  | endRange h =>exact ih
  | beginRound =>exact ih
theorem gotoU_sound {id:Nat}:∀{k:List AI} {k':List Item},IRs ρ k k'→(∀r,gotoU id k = some r→∃r',gotoIn id k' = some r'∧IRs ρ r r')∧(gotoU id k = none→gotoIn id k' = none)
 | _,_,.nil =>⟨fun r h =>(by cases h),fun _ =>rfl⟩
 | _,_,.cons (x:=x) (y:=y) h hs =>by
  have ih:=gotoU_sound (id:=id) hs
  cases h with
  | inScope body =>
   unfold gotoU gotoIn
   cases hf:findLabel body id with
   | none =>exact ih
   | some rest =>exact⟨fun r h =>⟨_,rfl,by cases h;exact .cons (.code _) (.cons (.inScope _) hs)⟩,fun h =>by cases h⟩
  | code c =>exact ih
  | inLoop c =>exact ih
  | inBlock c =>exact ih
  | inRegion ops todo =>exact ih
  | inRange h =>exact ih
  | endRange h =>exact ih
  | beginRound =>exact ih
/-! ### a frame is left -/
def leaveG (P:Program) (g:Frame) (callers:List Frame) (w:World) (jump:Option Code):GStep :=
 match g.roundOf with
 | none => if jump matches none | some .ret then .go { frame := { g with mode := .returning }, callers, status := .running, dying := none } w else .ended (.stuck "exit, goto: no such block or label" (g.pos P)) w
 | some l =>
  let (r,es):=(Instr.endRound l jump).runT P w #[]
  GStep.after (seen P g.fn es) <| match r with
  | .ok v w =>doReturn P true g callers none v w
  | .halt _ w => .ended (.stuck "range over a function: no such loop" (g.pos P)) w
theorem leaveU_sound {lo:Nat} {f:AF} {g:Frame} {cs:List AF} {ds c0:List Frame} {m:Yc} {jump:Option Code} (hg:GR ρ) (hw:WR w0 ρ H w) (hlo:lo≤H.next) (h:FrR P ρ H lo H.next true f g) (hs:FrRs P ρ H lo cs ds) (ht:TR ρ f.tmps f.n g.tmps)
  (hk:noCall g.todo) (hr:leaveU P f cs H jump = some m) :
  ∃g' ds' w',(leaveG P g (ds ++ c0) w jump).bare = .go { frame:=g',callers:=ds' ++ c0,status:=.running,dying:=none } w'∧MR P w0 m g' ds' w':=by
 unfold leaveU at hr
 have hro:=h.round
 split at hr
 ·rename_i hf
  rw [hf] at hro
  have hgr:=hro.none_eq
  have fin:m = ⟨{ f with mode:=.returning },cs,H⟩→(leaveG P g (ds ++ c0) w jump).bare = .go { frame:={ g with mode:=.returning },callers:=ds ++ c0,status:=.running,dying:=none } w →
    ∃g' ds' w',(leaveG P g (ds ++ c0) w jump).bare = .go { frame:=g',callers:=ds' ++ c0,status:=.running,dying:=none } w'∧MR P w0 m g' ds' w':=by
   intro hm hst
   subst hm
   exact⟨_,ds,w,hst,⟨ρ,lo,hg,hw,hlo,⟨h.fn,h.kind,h.lid,h.round,.returning,h.defers,.gone (by simp) hk ht⟩,hs⟩⟩
  split at hr
  ·simp only [Option.some.injEq] at hr
   exact fin hr.symm (by simp [leaveG,hgr])
  ·simp only [Option.some.injEq] at hr
   exact fin hr.symm (by simp [leaveG,hgr])
  ·cases hr
 ·rename_i l hf
  rw [hf] at hro
  split at hr
  ·rename_i c cs1 st pd fn n tmps params assign body defers hkind hl
   generalize hgr:g.roundOf = gr at hro
   cases hro with | @some _ lc m1 hρ =>
   obtain⟨o,ho,hB⟩:=hw.blk _ _ _ _ hl hρ
   cases hB with | @loop _ _ _ _ _ a params _ _ _ d' _ htr hd =>
   have hB':BR ρ m1 (.loop (if jump.isNone then .ready else .done) jump fn n tmps params.toList assign body defers) (.loop { state:=if jump.isNone then .ready else .done,pending:=jump,fn,tmps:=a,params,assign,body,defers:=d' }):=.loop htr hd
   obtain⟨hw',hp⟩:=hw.obj hl hρ rfl hB'
   cases hs with | @cons lo1 _ _ d _ ds1 hle1 hc1 hs1 =>
   have hkp:Xe H.next ρ H ρ _:=hp.keeps (Nat.le_refl _)
   cases hcm:c.mode with
   | run =>
    simp only [hcm,Option.map_eq_some_iff] at hr
    obtain⟨c',hfin,rfl⟩:=hr
    have hc2:=hc1.keeps (top':=false) (hi':=H.next) hkp hlo hlo
    obtain⟨h1,_⟩:=YV (x:=.bool jump.isNone) hc2 hcm (.bool _) hfin
    have hgk:g.kind = .normal:=by rw [← h.kind,hkind]
    have hrun:(Instr.endRound lc jump).run P w = .ok (.bool jump.isNone) { w with heap:=w.heap.setIfInBounds lc (.loop { state:=if jump.isNone then .ready else .done,pending:=jump,fn,tmps:=a,params,assign,body,defers:=d' }) }:=by
     simp only [Instr.endRound,Sem.run_bind,run_getLoop' ho,Result.andThen_ok,run_setObj ho rfl,Sem.run_pure]
    refine⟨_,ds1,_,?_,⟨ρ,lo1,hg,hw',Nat.le_trans hle1 hlo,h1,hs1.keeps hkp (Nat.le_trans hle1 hlo)⟩⟩
    simp [leaveG,hgr,hrun,doReturn,hgk]
   | returning =>simp [hcm] at hr
   | panicking l =>simp [hcm] at hr
  ·cases hr
end
end Go.Ev
end
section
namespace Go.Ev
open Go.RowKit
section
variable {P:Program} {w0:World} {ρ:Yl} {H:AH} {w:World}
theorem W4 {lo hi:Nat} {top:Bool} {f:AF} {g:Frame} (h:FrR P ρ H lo hi top f g) (hm:f.mode = .run):g.mode = .run:=by
 have:=h.mode
 rw [hm] at this
 exact this.run_eq
/-- An operation that is not wanted. -/
theorem skipA_sound {lo:Nat} {f:AF} {g:Frame} {cs:List AF} {ds c0:List Frame} {m:Yc} (hg:GR ρ) (hw:WR w0 ρ H w) (hlo:lo≤H.next) (h:FrR P ρ H lo H.next false f g) (hm:f.mode = .run) (hs:FrRs P ρ H lo cs ds) (hr:skipA P f cs H = some m)
  (hst:step P (lone g (ds ++ c0) w) = .next (lone (g.finish undef) (ds ++ c0) w)):Goes P w0 g ds c0 w m:=by
 unfold skipA at hr
 split at hr
 ·rename_i f' hfin
  simp only [Option.some.injEq] at hr
  subst hr
  obtain⟨h1,_⟩:=YV (x:=undef) h hm (.tuple .nil) hfin
  exact⟨_,ds,w,.one hst,⟨ρ,lo,hg,hw,hlo,h1,hs⟩⟩
 ·cases hr
variable (hng : ∀ (f : FuncId) (fn : Func), P.funcs[f]? = some fn → (fn.name == "runtime.NumGoroutine") = false)
include hng
omit hng in
/-- An operation in its order. -/
theorem one_sound {lo:Nat} {f:AF} {g:Frame} {cs:List AF} {ds c0:List Frame} {m:Yc} (hg:GR ρ) (hw:WR w0 ρ H w) (hlo:lo≤H.next) (h:FrR P ρ H lo H.next false f g) (hm:f.mode = .run) (hs:FrRs P ρ H lo cs ds)
  {ops:Array Oper} {i:Nat} {o:Oper} {rest:List Nat} {k:List Item} (ho:ops[i]? = some o) (hk:g.todo = .inRegion ops (i :: rest) :: k) (hlook:∀d ∈ Oper.looksAt ops o,∀v,f.tmps.get d = some v→VR ρ v (g.tmps.getD d undef))
  {ex:Option (Xb × AH)} (hex:∀r,ex = some r→Does P w0 ρ H w r (execOp g.eval o)) (hdef:∀c,o.op = .defer c→∀r,ex = some r→∃f a b,r.1 = .defer f a b)
  (hr:(match Zb ops f.tmps o with | some true =>XW P f cs ex | some false =>skipA P f cs H | none =>none) = some m):Goes P w0 g ds c0 w m:=by
 have hgm:=W4 h hm
 split at hr
 ·rename_i hwa
  have hwn:=Ww hlook hwa
  unfold XW at hr
  split at hr
  ·rename_i r
   have hd:=hex r rfl
   refine .of_stepG ?_
   have hor:g.roundOf = none ∨ ∀c,o.op ≠ .defer c:=by
    by_cases hc:∃c,o.op = .defer c
    ·obtain⟨c,hc⟩:=hc
     obtain⟨f',a,b,hrd⟩:=hdef c hc r rfl
     obtain⟨an,H'⟩:=r
     dsimp only at hrd
     subst hrd
     simp only [Y1] at hr
     split at hr
     ·cases hr
     ·rename_i hro
      have:=h.round
      rw [hro] at this
      exact .inl this.none_eq
    ·exact .inr fun c hc' =>hc ⟨c,hc'⟩
   rw [stepG_oper hgm ho hk hwn hor]
   exact applyU_sound hg hlo h hm hs hd hr
  ·cases hr
 ·rename_i hwa
  have hwn:=Ww hlook hwa
  exact skipA_sound hg hw hlo h hm hs hr (step_unwanted hgm ho hk hwn)
 ·cases hr
omit hng in
theorem effU_defer {t:Tri AV} {c:Call} {r:Xb × AH} (h:effU P t (.defer c) H = some r):∃f a b,r.1 = .defer f a b:=by
 simp only [effU,deferE] at h
 split at h
 ·split at h
  ·cases h
   exact⟨_,_,_,rfl⟩
  ·cases h
 ·cases h
omit hng in
theorem execU_defer {t:Tri AV} {c:Call} {r:Xb × AH} (h:Xr P t (.defer c) H = some r):∃f a b,r.1 = .defer f a b:=by
 simp only [Xr,cls,effX] at h
 split at h
 ·rename_i r' hv
  cases h
  exact effU_defer hv
 ·simp [pureX,pureU] at h
theorem operA_sound {lo:Nat} {f:AF} {g:Frame} {cs:List AF} {ds c0:List Frame} {m:Yc} (hg:GR ρ) (hw:WR w0 ρ H w) (hlo:lo≤H.next) (h:FrR P ρ H lo H.next false f g) (hm:f.mode = .run) (hs:FrRs P ρ H lo cs ds) (ht:TR ρ f.tmps f.n g.tmps)
  {ops:Array Oper} {i:Nat} {rest:List Nat} {k:List Item} (hk:g.todo = .inRegion ops (i :: rest) :: k) (hr:operA P f cs H ops i = some m):Goes P w0 g ds c0 w m:=by
 unfold operA at hr
 split at hr
 ·rename_i o ho
  refine one_sound hg hw hlo h hm hs ho hk (fun d _ v hv =>ht.2 d v hv) (ex:=Xr P f.tmps o.op H) (fun r hx =>execU_sound hng hw (fun x _ =>evR_plain hg ht x) hx) (fun c hc r hx =>?_) hr
  rw [hc] at hx
  exact execU_defer hx
 ·cases hr
/-- A step of a region that draws its order. -/
theorem drawnA_sound {lo:Nat} {f:AF} {g:Frame} {cs:List AF} {ds c0:List Frame} {m:Yc} (hg:GR ρ) (hw:WR w0 ρ H w) (hlo:lo≤H.next) (h:FrR P ρ H lo H.next true f g) (hm:f.mode = .run) (hs:FrRs P ρ H lo cs ds)
  {ops:Array Oper} {D L:Nat} {todo:List Nat} {k:List AI} {k':List Item} (hgt:g.todo = .inRegion ops todo :: k') (hks:IRs ρ k k') (hsch:Sched ops L todo) (hdr:DR P ρ H lo H.next ops D L f.tmps f.n g.tmps true)
  (hr:drawnA P f cs H ops D k = some m):Goes P w0 g ds c0 w m:=by
 have hgm:=W4 h hm
 unfold drawnA at hr
 split at hr
 ·rename_i f1 H1 D1 hset
  have hsp:=settle_sound (P:=P) (w0:=w0) (ρ:=ρ) (w:=w) (lo:=lo) (ops:=ops) (L:=L) (a:=g.tmps) (fr0:=f) hlo h.lid ⟨rfl,hw,Xz.refl _ _,hdr⟩ hset
  have hn1:f1.n = f.n:=by have:=hsp.asis;rw [this]
  have hm1:f1.mode = .run:=by have:=hsp.asis;rw [this];exact hm
  have hk1:Xe H.next ρ H ρ H1:=hsp.pres.keeps (Nat.le_refl _)
  have hlo1:lo≤H1.next:=Nat.le_trans hlo hk1.next
  obtain⟨ρ2,w2,a2,L2,todo2,hst,hw2,hk2,hdr2,hsch2,hlast⟩:=catchup (cs:=ds ++ c0) hsch hgm hgt hsp.dr hg hsp.wr
  have hg2:=hg.ext hk2.ext
  have hkk:Xe lo ρ H ρ2 H1:=(hk1.mono hlo).trans hk2
  have hs2:=hs.keeps hkk (Nat.le_refl _)
  have hround:RoundR ρ2 f1.roundOf g.roundOf:=by have:=hsp.asis;rw [this];exact h.round.ext hk2.ext
  have hdefs:DefRs ρ2 f1.defers g.defers:=by have:=hsp.asis;rw [this];exact h.defers.ext hk2.ext
  have hmode:ModeR ρ2 f1.mode g.mode:=by have:=hsp.asis;rw [this];exact h.mode.ext hk2.ext
  have hfn:f1.fn = g.fn:=by have:=hsp.asis;rw [this];exact h.fn
  have hkind:f1.kind = g.kind:=by have:=hsp.asis;rw [this];exact h.kind
  have hlid:f1.n≤Tri.lid:=by rw [hn1];exact h.lid
  rw [← hn1] at hdr2
  have go:∀{m},Goes P w0 { g with tmps:=a2,todo:=.inRegion ops todo2 :: k' } ds c0 w2 m→Goes P w0 g ds c0 w m:=by
   rintro m ⟨g',ds',w',h1,h2⟩
   exact⟨g',ds',w',hst.trans h1,h2⟩
  split at hr
  ·
   rename_i hfree
   split at hr
   ·rename_i hall
    have hnil:todo2 = []:=by
     cases todo2 with
     | nil =>rfl
     | cons i rest =>
      have hD:=hlast i rest rfl
      cases hsch2 with | cons ho _ _ _ =>
      have:=List.all_eq_true.1 hall i (List.mem_range.2 (Array.getElem?_eq_some_iff.1 ho).1)
      rw [hD] at this
      cases this
    subst hnil
    have hLall:∀i,i < ops.size→Xg L2 i = true:=by cases hsch2 with | nil h =>exact h
    have htr:TR ρ2 f1.tmps f1.n a2:=⟨hdr2.size,fun kk v hv =>hdr2.temps kk v hv fun i o _ hL ho =>by
     rw [hLall i (Array.getElem?_eq_some_iff.1 ho).1] at hL
     cases hL⟩
    refine go ?_
    have hfr:FrR P ρ2 H1 lo H1.next true { f1 with todo:=.inRegion ops [] :: k } { g with tmps:=a2,todo:=.inRegion ops [] :: k' } :=
     ⟨hfn,hkind,hlid,hround,hmode,hdefs,.plain (.cons (.inRegion _ _) (hks.ext hk2.ext)) htr⟩
    have hr':toA { f1 with todo:=.inRegion ops [] :: k } cs H1 k = some m:=hr
    exact Xk hg2 hw2 hlo1 hfr hs2 htr (hks.ext hk2.ext) hr' (by simp [stepG,stepG.exec,hgm])
   ·cases hr
  ·
   rename_i e hfree
   have hmem:∀i,i < ops.size→Xg D1 i = false→∀o,ops[i]? = some o→Xv D1 o = true→i = e:=by
    intro i hi hD o ho hf
    have:i ∈ WP ops D1:=by
     unfold WP
     rw [List.mem_filter]
     exact⟨List.mem_range.2 hi,by simp [hD,ho,hf]⟩
    rw [hfree] at this
    simpa using this
   have heD:Xg D1 e = false∧e < ops.size:=by
    have:e ∈ WP ops D1:=by rw [hfree];simp
    unfold WP at this
    rw [List.mem_filter] at this
    obtain⟨h1,h2⟩:=this
    refine⟨?_,List.mem_range.1 h1⟩
    rw [Bool.and_eq_true] at h2
    simpa using h2.1
   obtain⟨rest,rfl⟩:∃rest,todo2 = e :: rest:=by
    cases todo2 with
    | nil =>
     have hLall:∀i,i < ops.size→Xg L2 i = true:=by cases hsch2 with | nil h =>exact h
     have:=hdr2.sub e (hLall e heD.2)
     rw [heD.1] at this
     cases this
    | cons i rest =>
     have hD:=hlast i rest rfl
     cases hsch2 with | cons ho _ hf _ =>
     have:=hmem i (Array.getElem?_eq_some_iff.1 ho).1 hD _ ho (freeU_mono hdr2.sub hf)
     exact⟨rest,by rw [this]⟩
   cases hsch2 with | @cons _ _ o _ ho hL hf hrest =>
   refine go ?_
   unfold effA at hr
   rw [ho] at hr
   dsimp only at hr
   have hfr:FrR P ρ2 H1 lo H1.next false { f1 with todo:=.drawn ops D1 (some e) :: k } { g with tmps:=a2,todo:=.inRegion ops (e :: rest) :: k' } :=
    ⟨hfn,hkind,hlid,hround,hmode,hdefs,.waits hm1 (hks.ext hk2.ext) ho heD.1 hf hrest (hdr2.keeps (Xe.refl H1.next _ _) (Nat.le_refl _) (Nat.le_refl _))⟩
   have hdrg:DR P ρ2 H1 lo H1.next ops D1 L2 f1.tmps f1.n ({ g with tmps:=a2,todo:=.inRegion ops (e :: rest) :: k' }:Frame).tmps true:=hdr2
   refine one_sound hg2 hw2 hlo1 hfr hm1 hs2 ho rfl (fun d hd v hv =>hdr2.reads ho hf hd hv) (ex:=effU P f1.tmps o.op H1) (fun r hx =>effU_sound hng hw2 (hdrg.evR hg2 ho hf) hx) (fun c hc r hx =>?_) hr
   rw [hc] at hx
   exact effU_defer hx
  ·cases hr
 ·cases hr
end
end Go.Ev
end
section
namespace Go.Ev
open Go.RowKit
section
variable {P:Program} {w0:World} {ρ:Yl} {H:AH} {w:World}
theorem apply_congr {g:Frame} {cs:List Frame} {s s':Sem Next} (h:s.run P w = s'.run P w):(stepG.apply P true g cs none s w).bare = (stepG.apply P true g cs none s' w).bare:=by
 simp [stepG.apply,h]
theorem FrR.low {lo hi:Nat} {top:Bool} {f:AF} {g:Frame} (h:FrR P ρ H lo hi top f g) {k:List AI} {k':List Item} (ht:TR ρ f.tmps f.n g.tmps) (hk:IRs ρ k k'):FrR P ρ H lo hi false { f with todo:=k } { g with todo:=k' } :=
 ⟨h.fn,h.kind,h.lid,h.round,h.mode,h.defers,.plain hk ht⟩
theorem beginA_sound {lo:Nat} {f:AF} {g:Frame} {cs:List AF} {ds c0:List Frame} {m:Yc} (hg:GR ρ) (hw:WR w0 ρ H w) (hlo:lo≤H.next) (h:FrR P ρ H lo H.next false f g) (hm:f.mode = .run) (hs:FrRs P ρ H lo cs ds)
  {k:List Item} (hk:g.todo = .beginRound :: k) (hr:beginA P f cs H = some m):Goes P w0 g ds c0 w m:=by
 have hgm:=W4 h hm
 have hro:=h.round
 unfold beginA at hr
 split at hr
 ·rename_i l hf
  rw [hf] at hro
  split at hr
  ·rename_i pd fn n tmps params assign body defers hl
   generalize hgr:g.roundOf = gr at hro
   cases hro with | @some _ lc m1 hρ =>
   obtain⟨o,ho,hB⟩:=hw.blk _ _ _ _ hl hρ
   cases hB with | @loop _ _ _ _ _ a params _ _ _ d' _ htr hd =>
   have hB':BR ρ m1 (.loop .busy pd fn n tmps params.toList assign body defers) (.loop { state:=.busy,pending:=pd,fn,tmps:=a,params,assign,body,defers:=d' }):=.loop htr hd
   obtain⟨hw',hp⟩:=hw.obj hl hρ rfl hB'
   dsimp only at hr
   split at hr
   ·rename_i f' hfin
    simp only [Option.some.injEq] at hr
    subst hr
    refine .of_stepG ?_
    have : stepG P true { frame := g, callers := ds ++ c0, status := .running, dying := none } w = stepG.apply P true g (ds ++ c0) none (do g.roundOf.elim (stuck "beginRound: no round") Instr.beginRound; pure .skip) w := by
     simp only [stepG,hgm,stepG.exec,hk]
    rw [this,hgr]
    refine applyU_sound (r:=(.val (.tuple []),H.set l (.loop .busy pd fn n tmps params.toList assign body defers))) hg hlo h hm hs ?_ (by simp only [Y1,hfin,Option.map_some])
    refine⟨ρ,_,hw',hp,?_⟩
    have hrun : (do (some lc).elim (stuck "beginRound: no round") Instr.beginRound; pure .skip : Sem Next).run P w = .ok .skip { w with heap := w.heap.setIfInBounds lc (.loop { state := .busy, pending := pd, fn, tmps := a, params, assign, body, defers := d' }) } := by
     simp only [Option.elim_some,Instr.beginRound,Sem.run_bind,run_getLoop' ho,Result.andThen_ok,run_setObj ho rfl,Sem.run_pure]
    rw [hrun]
    exact .ok .skip
   ·cases hr
  ·cases hr
 ·cases hr
theorem endRangeA_sound {lo:Nat} {f:AF} {g:Frame} {cs:List AF} {ds c0:List Frame} {m:Yc} (hg:GR ρ) (hw:WR w0 ρ H w) (hlo:lo≤H.next) (h:FrR P ρ H lo H.next false f g) (hm:f.mode = .run) (hs:FrRs P ρ H lo cs ds) (ht:TR ρ f.tmps f.n g.tmps)
  {l lc m1:Nat} (hρ:ρ l = some (lc,m1)) {k:List AI} {k':List Item} (hk:g.todo = .endRangeFunc lc :: k') (hks:IRs ρ k k') (hr:endRangeA f cs H l k = some m):Goes P w0 g ds c0 w m:=by
 have hgm:=W4 h hm
 unfold endRangeA at hr
 split at hr
 ·rename_i st pd fn n tmps params assign body defers hl
  obtain⟨o,ho,hB⟩:=hw.blk _ _ _ _ hl hρ
  cases hB with | @loop _ _ _ _ _ a params _ _ _ d' _ htr hd =>
  have hB':BR ρ m1 (.loop .exhausted pd fn n tmps params.toList assign body defers) (.loop { state:=.exhausted,pending:=pd,fn,tmps:=a,params,assign,body,defers:=d' }):=.loop htr hd
  obtain⟨hw',hp⟩:=hw.obj hl hρ rfl hB'
  have hkp:Xe H.next ρ H ρ _:=hp.keeps (Nat.le_refl _)
  have hst:(st == LoopState.busy) = false∧m = ⟨{ f with todo:=(pd.map AI.code).toList ++ k },cs,H.set l (.loop .exhausted pd fn n tmps params.toList assign body defers)⟩:=by
   cases st with
   | busy =>cases hr
   | ready =>simp only [Option.some.injEq] at hr;exact⟨rfl,hr.symm⟩
   | done =>simp only [Option.some.injEq] at hr;exact⟨rfl,hr.symm⟩
   | exhausted =>simp only [Option.some.injEq] at hr;exact⟨rfl,hr.symm⟩
  obtain⟨hb,rfl⟩:=hst
  have hrun:(Instr.endLoop lc).run P w = .ok pd { w with heap:=w.heap.setIfInBounds lc (.loop { state:=.exhausted,pending:=pd,fn,tmps:=a,params,assign,body,defers:=d' }) }:=by
   simp only [Instr.endLoop,Sem.run_bind,run_getLoop' ho,Result.andThen_ok]
   rw [hb]
   simp [run_setObj ho rfl]
  refine .of_stepG ⟨{ g with todo:=(pd.map Item.code).toList ++ k' },ds,_,by simp [stepG,stepG.exec,hgm,hk,hrun],⟨ρ,lo,hg,hw',hlo,?_,hs.keeps hkp hlo⟩⟩
  have hf2:=h.keeps (top':=true) (hi':=H.next) hkp (Nat.le_refl _) (Nat.le_refl _)
  refine⟨hf2.fn,hf2.kind,hf2.lid,hf2.round,hf2.mode,hf2.defers,.plain ?_ ht⟩
  cases pd with
  | none =>exact hks
  | some c =>exact .cons (.code c) hks
 ·cases hr
variable (hng : ∀ (f : FuncId) (fn : Func), P.funcs[f]? = some fn → (fn.name == "runtime.NumGoroutine") = false)
include hng
theorem rangeA_sound {lo:Nat} {f:AF} {g:Frame} {cs:List AF} {ds c0:List Frame} {m:Yc} (hg:GR ρ) (hw:WR w0 ρ H w) (hlo:lo≤H.next) (h:FrR P ρ H lo H.next false f g) (hm:f.mode = .run) (hs:FrRs P ρ H lo cs ds) (ht:TR ρ f.tmps f.n g.tmps)
  {fo:Operand} {params:Array Tmp} {assign body:Code} {k:List AI} {k':List Item} (hk:g.todo = .code (.rangeFunc fo params assign body) :: k') (hks:IRs ρ k k') (hr:rangeA P f cs H fo params assign body k = some m):Goes P w0 g ds c0 w m:=by
 have hgm:=W4 h hm
 have hro:=h.round
 unfold rangeA at hr
 dsimp only at hr
 split at hr
 ·rename_i H1 dd mark fv ha hfo
  have first:∃ρ1 w1 dc dm mark',WR w0 ρ1 H1 w1∧Xz ρ H ρ1 H1∧ρ1 dd = some (dc,dm)∧DefRs ρ1 mark mark' ∧
    ∀(tm:Array Value),(Instr.enterLoop g.fn tm params assign body g.roundOf).run P w = .ok (w1.heap.size,mark') (w1.alloc (.loop { state:=.ready,pending:=none,fn:=g.fn,tmps:=tm,params,assign,body,defers:=dc })):=by
   split at ha
   ·rename_i l hf
    rw [hf] at hro
    split at ha
    ·rename_i d hl
     simp only [Option.some.injEq,Prod.mk.injEq] at ha
     obtain⟨rfl,rfl,rfl⟩:=ha
     generalize hgr:g.roundOf = gr at hro
     cases hro with | @some _ lc m1 hρ =>
     obtain⟨o,ho,hB⟩:=hw.blk _ _ _ _ hl hρ
     cases hB with | @loop _ _ _ _ _ a params' _ _ _ d' dm htr hd =>
     refine⟨ρ,w,d',dm,[],hw,Xz.refl _ _,hd,.nil,fun tm =>?_⟩
     simp only [Instr.enterLoop,Sem.run_bind,run_getLoop' ho,Result.andThen_ok,Sem.run_pure,run_newObj_alloc]
    ·cases ha
   ·rename_i hf
    rw [hf] at hro
    split at ha
    ·rename_i H2 hn
     simp only [Option.some.injEq,Prod.mk.injEq] at ha
     obtain⟨rfl,rfl,rfl⟩:=ha
     obtain⟨hw1,hp1⟩:=hw.alloc (n:=0) hn .live
     refine⟨_,_,w.heap.size,0,[{ target:=.collected w.heap.size,args:=#[] }],hw1,hp1,YK _ _ _ _,.cons (.collected (YK _ _ _ _)) .nil,fun tm =>?_⟩
     rw [hro.none_eq]
     simp only [Instr.enterLoop,Sem.run_bind,Result.andThen_ok,Sem.run_pure,run_newObj_alloc]
    ·cases ha
  obtain⟨ρ1,w1,dc,dm,mark',hw1,hp1,hdd,hmark,hrun⟩:=first
  split at hr
  ·rename_i H2 hn
   have hfnn:f.fn = g.fn:=h.fn
   obtain⟨hw2,hp2⟩:=hw1.alloc (n:=0) hn (.loop (state:=.ready) (pending:=none) (fn:=f.fn) (params:=params) (assign:=assign) (body:=body) (ht.ext hp1.ext) hdd)
   have hpp:=hp1.trans hp2
   have hkp:Xe H.next ρ H _ H2:=hpp.keeps (Nat.le_refl _)
   split at hr
   ·rename_i r hcall
    have hg2:=hg.ext hkp.ext
    have hfv:VR _ fv (g.eval fo):=(evR_plain hg ht fo _ hfo).ext hkp.ext
    obtain⟨d,hd,hdo⟩:=callU_sound (P:=P) hng hw2 hfv (args':=#[.func (.yield w1.heap.size) #[] #[]]) (.cons (.yield (YK _ _ _ _)) .nil) hcall
    have hf2:=h.keeps (top':=false) (hi':=H2.next) hkp (Nat.le_refl _) hkp.next
    have hfr:FrR P _ H2 lo H2.next false { f with todo:=.inRangeFunc H1.next :: k,defers:=mark ++ f.defers } { g with todo:=.inRangeFunc w1.heap.size :: k',defers:=mark' ++ g.defers } :=
     ⟨hf2.fn,hf2.kind,hf2.lid,hf2.round,hf2.mode,(hmark.ext hp2.ext).append hf2.defers,.plain (.cons (.inRange (YK _ _ _ _)) (hks.ext hkp.ext)) (ht.ext hkp.ext)⟩
    have happ:=applyU_sound (c0:=c0) hg2 (Nat.le_trans hlo hkp.next) hfr hm (hs.keeps hkp hlo) hdo hr
    obtain⟨g',ds',w',hst,hmr⟩:=happ
    refine .of_stepG ⟨g',ds',w',?_,hmr⟩
    rw [← hst]
    have hres:(do let d ← resolve ({ g with todo:=.inRangeFunc w1.heap.size :: k',defers:=mark' ++ g.defers }:Frame).eval { callee:=.value fo,args:=#[.const (.func (.yield w1.heap.size) #[] #[])],argTypes:=#[] } 0;invoke d.target d.args:Sem Next).run P (w1.alloc (.loop { state:=.ready,pending:=none,fn:=f.fn,tmps:=g.tmps,params,assign,body,defers:=dc })) =
      (invoke d.target d.args).run P (w1.alloc (.loop { state:=.ready,pending:=none,fn:=f.fn,tmps:=g.tmps,params,assign,body,defers:=dc })):=by
     have he:({ g with todo:=.inRangeFunc w1.heap.size :: k',defers:=mark' ++ g.defers }:Frame).eval fo = g.eval fo:=by cases fo <;> rfl
     simp only [resolve,Sem.run_bind]
     rw [he]
     have:=hd (w1.alloc (.loop { state:=.ready,pending:=none,fn:=f.fn,tmps:=g.tmps,params,assign,body,defers:=dc }))
     simp only [List.map_toArray,List.map_cons,List.map_nil]
     rw [show (({ g with todo:=.inRangeFunc w1.heap.size :: k',defers:=mark' ++ g.defers }:Frame).eval (.const (.func (.yield w1.heap.size) #[] #[]))) = .func (.yield w1.heap.size) #[] #[] from rfl,this]
     rfl
    rw [← apply_congr hres,hfnn]
    simp [stepG,stepG.exec,hgm,hk,hrun]
   ·cases hr
  ·cases hr
 ·cases hr
end
end Go.Ev
end
section
namespace Go.Ev
open Go.RowKit
section
variable {P:Program} {w0:World} {ρ:Yl} {H:AH} {w:World}
section leave
variable {g:Frame} {cs:List Frame} {k:List Item}
theorem leave_nil (hm:g.mode = .run) (hk:g.todo = []):stepG P true { frame:=g,callers:=cs,status:=.running,dying:=none } w = leaveG P g cs w none:=by
 obtain⟨fn,a,todo,defers,mode,kind,roundOf⟩:=g
 dsimp only at hm hk
 subst hm hk
 rfl
theorem leave_ret (hm:g.mode = .run) (hk:g.todo = .code .ret :: k):stepG P true { frame:=g,callers:=cs,status:=.running,dying:=none } w = leaveG P g cs w (some .ret):=by
 obtain⟨fn,a,todo,defers,mode,kind,roundOf⟩:=g
 dsimp only at hm hk
 subst hm hk
 rfl
theorem leave_exit {id:Nat} (hm:g.mode = .run) (hk:g.todo = .code (.exit id) :: k) (he:exitTo id k = none):stepG P true { frame:=g,callers:=cs,status:=.running,dying:=none } w = leaveG P g cs w (some (.exit id)):=by
 obtain⟨fn,a,todo,defers,mode,kind,roundOf⟩:=g
 dsimp only at hm hk
 subst hm hk
 simp only [stepG,stepG.exec,he,Option.elim_none]
 rfl
theorem leave_goto {id:Nat} (hm:g.mode = .run) (hk:g.todo = .code (.goto id) :: k) (he:gotoIn id k = none):stepG P true { frame:=g,callers:=cs,status:=.running,dying:=none } w = leaveG P g cs w (some (.goto id)):=by
 obtain⟨fn,a,todo,defers,mode,kind,roundOf⟩:=g
 dsimp only at hm hk
 subst hm hk
 simp only [stepG,stepG.exec,he,Option.elim_none]
 rfl
end leave
/-- What is asked of a map literal's region. -/
def LitGoes (P:Program) (w0:World):Prop :=
 ∀{ρ:Yl} {H:AH} {w:World} {lo:Nat} {f:AF} {g:Frame} {cs:List AF} {ds c0:List Frame} {m:Yc} {id:Nat} {ops:Array Oper} {k:List AI} {k':List Item},GR ρ→WR w0 ρ H w→lo≤H.next→FrR P ρ H lo H.next true f g→f.mode = .run→FrRs P ρ H lo cs ds→TR ρ f.tmps f.n g.tmps →
  IRs ρ k k'→g.todo = .code (.region id ops true) :: k'→mapLitA P f cs H ops k = some m→Goes P w0 g ds c0 w m
variable (hng : ∀ (f : FuncId) (fn : Func), P.funcs[f]? = some fn → (fn.name == "runtime.NumGoroutine") = false) (hmix : P.follows .mixedOrders = true) (hlit : LitGoes P w0)
include hng hmix hlit
theorem codeA_sound {lo:Nat} {f:AF} {g:Frame} {cs:List AF} {ds c0:List Frame} {m:Yc} (hg:GR ρ) (hw:WR w0 ρ H w) (hlo:lo≤H.next) (h:FrR P ρ H lo H.next true f g) (hm:f.mode = .run) (hs:FrRs P ρ H lo cs ds) (ht:TR ρ f.tmps f.n g.tmps)
  {c:Code} {k:List AI} {k':List Item} (hk:g.todo = .code c :: k') (hks:IRs ρ k k') (hfk:IRs ρ f.todo g.todo) (hr:codeA P f cs H c k = some m):Goes P w0 g ds c0 w m:=by
 have hgm:=W4 h hm
 have hlow:FrR P ρ H lo H.next false f g:=⟨h.fn,h.kind,h.lid,h.round,h.mode,h.defers,.plain hfk ht⟩
 have leave:∀{jump},leaveU P f cs H jump = some m→stepG P true { frame:=g,callers:=ds ++ c0,status:=.running,dying:=none } w = leaveG P g (ds ++ c0) w jump→Goes P w0 g ds c0 w m:=by
  intro jump hl hst
  obtain⟨g',ds',w',h1,h2⟩:=leaveU_sound (c0:=c0) hg hw hlo h hs ht h.todo.noCall hl
  exact .of_stepG ⟨g',ds',w',by rw [hst];exact h1,h2⟩
 cases c with
 | ret =>exact leave (jump:=some .ret) hr (leave_ret hgm hk)
 | skip =>exact Xk hg hw hlo h hs ht hks hr (by simp [stepG,stepG.exec,hgm,hk])
 | label l =>exact Xk hg hw hlo h hs ht hks hr (by simp [stepG,stepG.exec,hgm,hk])
 | seq a b =>exact Xk hg hw hlo h hs ht (.cons (.code a) (.cons (.code b) hks)) hr (by simp [stepG,stepG.exec,hgm,hk])
 | cond x a b =>
  simp only [codeA,condA] at hr
  split at hr
  ·rename_i hv
   have:=evR_plain hg ht x _ hv
   generalize hx:g.eval x = xv at this
   cases this
   exact Xk hg hw hlo h hs ht (.cons (.code a) hks) hr (by simp [stepG,stepG.exec,hgm,hk,hx])
  ·rename_i hv
   have:=evR_plain hg ht x _ hv
   generalize hx:g.eval x = xv at this
   cases this
   exact Xk hg hw hlo h hs ht (.cons (.code b) hks) hr (by simp [stepG,stepG.exec,hgm,hk,hx])
  ·cases hr
 | block id c =>exact Xk hg hw hlo h hs ht (.cons (.code c) (.cons (.inBlock id) hks)) hr (by simp [stepG,stepG.exec,hgm,hk])
 | loop c =>exact Xk hg hw hlo h hs ht (.cons (.code c) (.cons (.inLoop c) hks)) hr (by simp [stepG,stepG.exec,hgm,hk])
 | scope c =>exact Xk hg hw hlo h hs ht (.cons (.code c) (.cons (.inScope c) hks)) hr (by simp [stepG,stepG.exec,hgm,hk])
 | exit id =>
  simp only [codeA,exitA] at hr
  obtain⟨e1,e2⟩:=exitU_sound (id:=id) hks
  split at hr
  ·rename_i r hx
   obtain⟨r',hx',hrr⟩:=e1 r hx
   exact Xk hg hw hlo h hs ht hrr hr (by simp [stepG,stepG.exec,hgm,hk,hx'])
  ·rename_i hx
   exact leave (jump:=some (.exit id)) hr (leave_exit hgm hk (e2 hx))
 | goto l =>
  simp only [codeA,gotoA] at hr
  obtain⟨e1,e2⟩:=gotoU_sound (id:=l) hks
  split at hr
  ·rename_i r hx
   obtain⟨r',hx',hrr⟩:=e1 r hx
   exact Xk hg hw hlo h hs ht hrr hr (by simp [stepG,stepG.exec,hgm,hk,hx'])
  ·rename_i hx
   exact leave (jump:=some (.goto l)) hr (leave_goto hgm hk (e2 hx))
 | rangeFunc fo params assign body =>exact rangeA_sound hng hg hw hlo hlow hm hs ht hk hks hr
 | refuse why =>cases hr
 | region id ops draw =>
  simp only [codeA,regionA] at hr
  split at hr
  ·rename_i hd
   have hd:draw = false:=by simpa using hd
   subst hd
   exact Xk hg hw hlo h hs ht (.cons (.inRegion ops _) hks) hr (by simp [stepG,stepG.exec,hgm,hk])
  ·rename_i hd
   have hd:draw = true:=by simpa using hd
   subst hd
   split at hr
   ·exact hlit hg hw hlo h hm hs ht hks hk hr
   ·split at hr
    ·rename_i hok
     have hf:=regOK_facts hok
     simp only [toA,Option.some.injEq] at hr
     subst hr
     refine .of_stepG ⟨{ g with todo:=.inRegion ops (Region.schedule (P.follows .mixedOrders) ops (w.tape w.drawn (.order g.fn id))) :: k' },ds,{ w with drawn:=w.drawn + 1 },?_,⟨ρ,lo,hg,hw.drew,hlo,⟨h.fn,h.kind,h.lid,h.round,h.mode,h.defers,?_⟩,hs⟩⟩
     ·simp [stepG,stepG.exec,hgm,hk,choose,Sem.run,Question.forced,Question.cut]
     ·rw [hmix]
      refine .drawn rfl hm hks (schedule_sched hf.low _) { ok:=hf,shutD:=.zero ops,shutL:=.zero ops,sub:=fun i hi =>hi,size:=ht.1,temps:=fun k v hv _ =>ht.2 k v hv,dstn:=?_,noeff:=?_,pend:=⟨fun _ =>none,?_,?_,?_⟩ }
      ·intro i o d hi;rw [bit_zero] at hi;cases hi
      ·intro i o hi;rw [bit_zero] at hi;cases hi
      ·intro i j b hi;cases hi
      ·intro i b hi;cases hi
      ·intro i o hi;rw [bit_zero] at hi;cases hi
    ·cases hr
theorem execA_sound {lo:Nat} {f:AF} {g:Frame} {cs:List AF} {ds c0:List Frame} {m:Yc} (hg:GR ρ) (hw:WR w0 ρ H w) (hlo:lo≤H.next) (h:FrR P ρ H lo H.next true f g) (hm:f.mode = .run) (hs:FrRs P ρ H lo cs ds)
  (hr:Xs P f cs H = some m):Goes P w0 g ds c0 w m:=by
 have hgm:=W4 h hm
 have htd:=h.todo
 unfold Xs at hr
 generalize hft:f.todo = ft at htd hr
 generalize hgt:g.todo = gt at htd
 generalize hga:g.tmps = ga at htd
 cases htd with
 | gone hne =>exact absurd hm hne
 | waits _ hk ho hD hf hs hd =>simp [Xq] at hr
 | drawn _ _ hk hsch hd =>
  simp only [Xq] at hr
  subst hga
  exact drawnA_sound hng hg hw hlo h hm hs hgt hk hsch hd hr
 | plain hk ht =>
  subst hga
  have hfk:IRs ρ f.todo g.todo:=by rw [hft,hgt];exact hk
  have hlow:FrR P ρ H lo H.next false f g:=⟨h.fn,h.kind,h.lid,h.round,h.mode,h.defers,.plain hfk ht⟩
  cases hk with
  | nil =>
   obtain⟨g',ds',w',h1,h2⟩:=leaveU_sound (c0:=c0) hg hw hlo h hs ht h.todo.noCall hr
   exact .of_stepG ⟨g',ds',w',by rw [leave_nil hgm hgt];exact h1,h2⟩
  | cons hi hks =>
   dsimp only at hr
   cases hi with
   | code c =>exact codeA_sound hng hmix hlit hg hw hlo h hm hs ht hgt hks hfk hr
   | inBlock id =>exact Xk hg hw hlo h hs ht hks hr (by simp [stepG,stepG.exec,hgm,hgt])
   | inScope c =>exact Xk hg hw hlo h hs ht hks hr (by simp [stepG,stepG.exec,hgm,hgt])
   | inLoop c =>exact Xk hg hw hlo h hs ht (.cons (.code c) (.cons (.inLoop c) hks)) hr (by simp [stepG,stepG.exec,hgm,hgt])
   | inRegion ops todo =>
    cases todo with
    | nil =>exact Xk hg hw hlo h hs ht hks hr (by simp [stepG,stepG.exec,hgm,hgt])
    | cons i rest =>exact operA_sound hng hg hw hlo hlow hm hs ht hgt hr
   | inRange hl =>simp [Xq] at hr
   | endRange hl =>exact endRangeA_sound hg hw hlo hlow hm hs ht hl hgt hks hr
   | beginRound =>exact beginA_sound hg hw hlo hlow hm hs hgt hr
end
end Go.Ev
end
section
namespace Go.Ev
open Go.RowKit
section
variable {P:Program} {w0:World} {ρ:Yl} {H:AH} {w:World}
structure StrictFacts (ops:Array Oper):Prop where
 low:Low ops
 one:∀(i j:Nat) (oi oj:Oper) (d:Tmp),ops[i]? = some oi→ops[j]? = some oj→oj.dst = some d→i ≠ j→oi.dst ≠ some d
 look:∀(i j:Nat) (oi oj:Oper) (d:Tmp),ops[i]? = some oi→ops[j]? = some oj→oj.dst = some d→i ≠ j→d ∈ Oper.looksAt ops oi→Xg ((Region.before ops).getD i 0) j = true
 self:∀(j:Nat) (oj:Oper) (d:Tmp),ops[j]? = some oj→oj.dst = some d→d ∉ Oper.looksAt ops oj
theorem strictOK_facts {ops:Array Oper} (h:strictOK ops = true):StrictFacts ops:=by
 unfold strictOK at h
 simp only [List.all_eq_true,List.mem_range] at h
 have base:∀(j:Nat) (oj:Oper),ops[j]? = some oj→(oj.after.all (fun e =>!Region.binds .any e || Nat.blt e.on j) = true)∧∀d,oj.dst = some d→d ∉ Oper.looksAt ops oj∧∀(i:Nat) (oi:Oper),ops[i]? = some oi→i ≠ j →
   oi.dst ≠ some d∧(d ∉ Oper.looksAt ops oi ∨ Xg ((Region.before ops).getD i 0) j = true):=by
  intro j oj hj
  have hlt:=(Array.getElem?_eq_some_iff.1 hj).1
  have hh:=h j hlt
  rw [hj] at hh
  simp only [Bool.and_eq_true] at hh
  refine⟨hh.1,fun d hd =>?_⟩
  have h2:=hh.2
  rw [hd] at h2
  simp only [Bool.and_eq_true,List.all_eq_true,List.mem_range,Bool.not_eq_true',List.contains_eq_mem,decide_eq_false_iff_not] at h2
  refine⟨h2.1,fun i oi hi hne =>?_⟩
  have hilt:=(Array.getElem?_eq_some_iff.1 hi).1
  have h3:=h2.2 i hilt
  rw [hi] at h3
  simp only [Bool.or_eq_true,Bool.and_eq_true,Bool.not_eq_true',bne_iff_ne,ne_eq,decide_eq_false_iff_not] at h3
  rcases h3 with h3 | h3
  ·exact absurd (Nat.eq_of_beq_eq_true h3) hne
  ·exact h3
 refine⟨?_,?_,?_,?_⟩
 ·intro i o ho e he hb
  have:=Array.all_eq_true_iff_forall_mem.1 (base i o ho).1 e he
  rw [hb] at this
  simpa [Nat.blt_eq] using this
 ·intro i j oi oj d hi hj hd hne
  exact (((base j oj hj).2 d hd).2 i oi hi hne).1
 ·intro i j oi oj d hi hj hd hne hl
  rcases (((base j oj hj).2 d hd).2 i oi hi hne).2 with h1 | h1
  ·exact absurd hl h1
  ·exact h1
 ·intro j oj d hj hd
  exact ((base j oj hj).2 d hd).1
/-- Temporaries that no operation fills stay. -/
theorem litRun_keeps:∀{l:List Oper} {fr fr':AF},fr.n≤Tri.lid→litRun P l fr = some fr'→fr' = { fr with tmps:=fr'.tmps }∧∀k,(∀o ∈ l,o.dst ≠ some k)→fr'.tmps.get k = fr.tmps.get k
 | [],fr,fr',_,h =>by
  simp only [litRun,Option.some.injEq] at h
  subst h
  exact⟨rfl,fun _ _ =>rfl⟩
 | o :: l,fr,fr',hn,h =>by
  unfold litRun at h
  have rest:∀{v:AV} {fr1:AF},putT fr o.dst v = some fr1→litRun P l fr1 = some fr'→fr' = { fr with tmps:=fr'.tmps }∧∀k,(∀o' ∈ o :: l,o'.dst ≠ some k)→fr'.tmps.get k = fr.tmps.get k:=by
   intro v fr1 hp hl
   obtain⟨rfl,hlt⟩:=W3 hp
   obtain⟨h1,h2⟩:=litRun_keeps (fr:={ fr with tmps:=putD fr.tmps o.dst v }) hn hl
   refine⟨h1,fun k hk =>?_⟩
   rw [h2 k fun o' ho' =>hk o' (List.mem_cons_of_mem _ ho')]
   exact putD_ne (fun d hd =>Nat.lt_of_lt_of_le (hlt d hd) hn) (hk o List.mem_cons_self)
  split at h
  ·obtain⟨h1,h2⟩:=litRun_keeps hn h
   exact⟨h1,fun k hk =>h2 k fun o' ho' =>hk o' (List.mem_cons_of_mem _ ho')⟩
  ·split at h
   ·split at h
    ·rename_i hp
     exact rest hp h
    ·cases h
   ·cases h
/-- What is known of the temporaries behind all. -/
structure LitFacts (P:Program) (ops:Array Oper) (m:Tmp) (bm:Nat) (t:Tri AV):Prop where
 strict:StrictFacts ops
 first:∃a b c d,ops[0]? = some ⟨some m,.makeMap a none,b,c,d,none⟩
 guard:∀(i:Nat) (o:Oper),ops[i]? = some o→o.guard = none
 map:t.get m = some (.map bm)
 rest:∀(i:Nat) (o:Oper),ops[i]? = some o→i ≠ 0 →
  (∃ty k x kt et kv xv,o.op = .insert ty (.tmp m) k x∧o.dst = none∧P.underlying ty = some (.map kt et)∧YR P ty = some (.map kt et)∧Zg t k = some kv∧Zg t x = some xv∧keyU P 4 kt kv = true ∧
   ∀(j:Nat) (oj:Oper) (k' v':AV),i ≠ j→ops[j]? = some oj→entU t oj = some (k',v')→eqlU P Op.maxDepth kt kv k' = some false) ∨
  (entU t o = none∧(∀c,o.op ≠ .defer c)∧∃v,pureU P t o.op = some v∧∀d,o.dst = some d→t.get d = some v)
theorem entU_none {t:Tri AV} {o:Oper} (h:∀ty m k x,o.op ≠ .insert ty m k x):entU t o = none:=by
 unfold entU
 split
 ·rename_i heq
  exact absurd heq (h _ _ _ _)
 ·rfl
theorem litOne_sound {ops:Array Oper} {m:Tmp} {t:Tri AV} {i:Nat} {o:Oper} (ho:ops[i]? = some o) (hi:i ≠ 0) (h:litOne P ops m t i = true) :
  (∃ty k x kt et kv xv,o.op = .insert ty (.tmp m) k x∧o.dst = none∧P.underlying ty = some (.map kt et)∧YR P ty = some (.map kt et)∧Zg t k = some kv∧Zg t x = some xv∧keyU P 4 kt kv = true ∧
   ∀(j:Nat) (oj:Oper) (k' v':AV),i ≠ j→ops[j]? = some oj→entU t oj = some (k',v')→eqlU P Op.maxDepth kt kv k' = some false) ∨
  (entU t o = none∧(∀c,o.op ≠ .defer c)∧∃v,pureU P t o.op = some v∧∀d,o.dst = some d→t.get d = some v):=by
 unfold litOne at h
 rw [Bool.or_eq_true] at h
 rcases h with h | h
 ·exact absurd (Nat.eq_of_beq_eq_true h) hi
 rw [ho] at h
 dsimp only at h
 split at h
 ·rename_i ty m' k x hop
  simp only [Bool.and_eq_true,Option.isNone_iff_eq_none] at h
  obtain⟨⟨h1,h2⟩,h3⟩:=h
  have h1:=Nat.eq_of_beq_eq_true h1
  subst h1
  split at h3
  ·rename_i kt et kv vv hty hent
   simp only [Bool.and_eq_true,List.all_eq_true,List.mem_range] at h3
   obtain⟨hkey,hall⟩:=h3
   have hent':=hent
   unfold entU at hent'
   rw [hop] at hent'
   dsimp only at hent'
   split at hent'
   ·rename_i k1 v1 hk1 hv1
    simp only [Option.some.injEq,Prod.mk.injEq] at hent'
    obtain⟨rfl,rfl⟩:=hent'
    refine .inl ⟨ty,k,x,kt,et,k1,v1,hop,h2,Zm hty,hty,hk1,hv1,hkey,fun j oj k' v' hne hoj hej =>?_⟩
    have:=hall j (Array.getElem?_eq_some_iff.1 hoj).1
    rw [Bool.or_eq_true] at this
    rcases this with this | this
    ·exact absurd (Nat.eq_of_beq_eq_true this) hne
    ·rw [hoj] at this
     simp only [Option.bind_some,hej,beq_iff_eq] at this
     exact this
   ·cases hent'
  ·cases h3
 ·cases h
 ·rename_i hni1 hni2
  have hno:∀ty m k x,o.op ≠ .insert ty m k x:=fun ty m k x he =>hni2 ty m k x he
  split at h
  ·rename_i v hv
   refine .inr ⟨entU_none hno,fun c hc =>?_,v,hv,fun d hd =>?_⟩
   ·rw [hc] at hv
    simp [pureU] at hv
   ·rw [hd] at h
    dsimp only at h
    split at h
    ·rename_i u hu
     rw [AV.beq_eq h]
     exact hu
    ·cases h
  ·cases h
end
end Go.Ev
end
section
namespace Go.Ev
open Go.RowKit
section
variable {P:Program} {w0:World} {ρ:Yl} {H:AH} {w:World}
/-- The heap with the map. -/
def HL (H:AH) (l:List (AV × AV)):AH:=⟨H.t.put H.next (some (.map l false)),H.next + 1⟩
theorem HL_get (h:True) (l:List (AV × AV)) (b:Nat):(HL H l).t.get b = if b = H.next then some (.map l false) else H.t.get b:=Tri.get_put h b
theorem WR.gets {H':AH} (h:WR w0 ρ H w) (hg:∀b,H'.t.get b = H.t.get b) (hn:H'.next = H.next):WR w0 ρ H' w :=
 ⟨fun b B c n hb =>h.blk b B c n (hg b ▸ hb),fun b b' B B' c n n' hb hb' =>h.inj b b' B B' c n n' (hg b ▸ hb) (hg b' ▸ hb'),fun b B c n hb =>h.own b B c n (hg b ▸ hb),fun b x hb =>hn ▸ h.dom b x hb,fun b B hb =>hn ▸ h.bnd b B (hg b ▸ hb),trivial,h.below⟩
theorem WR.perm {l l':List (AV × AV)} (hlid:True) (h:WR w0 ρ (HL H l) w) (hp:l.Perm l'):WR w0 ρ (HL H l') w:=by
 have old:∀b B,(HL H l').t.get b = some B→∃B',(HL H l).t.get b = some B'∧B.ro = B'.ro∧∀n o,BR ρ n B' o→BR ρ n B o:=by
  intro b B hb
  rw [HL_get hlid] at hb
  by_cases e:b = H.next
  ·rw [if_pos e] at hb
   cases hb
   refine⟨.map l false,by rw [HL_get hlid,if_pos e],rfl,fun n o ho =>?_⟩
   cases ho with | map hp' he =>exact .map (hp'.trans hp) he
  ·rw [if_neg e] at hb
   exact⟨B,by rw [HL_get hlid,if_neg e];exact hb,rfl,fun n o ho =>ho⟩
 refine⟨fun b B c n hb hr =>?_,fun b b' B B' c n n' hb hb' hr hr' =>?_,fun b B c n hb hr hro =>?_,h.dom,fun b B hb =>?_,h.lid,h.below⟩
 ·obtain⟨B',hb',_,hB⟩:=old b B hb
  obtain⟨o,ho,hBo⟩:=h.blk b B' c n hb' hr
  exact⟨o,ho,hB n o hBo⟩
 ·obtain⟨B1,h1,_⟩:=old b B hb
  obtain⟨B2,h2,_⟩:=old b' B' hb'
  exact h.inj _ _ _ _ _ _ _ h1 h2 hr hr'
 ·obtain⟨B1,h1,h2,_⟩:=old b B hb
  exact h.own _ _ _ _ h1 hr (h2 ▸ hro)
 ·obtain⟨B1,h1,_⟩:=old b B hb
  exact h.bnd _ _ h1
def ent (ops:Array Oper) (t:Tri AV) (i:Nat):Option (AV × AV):=(ops[i]?).bind (entU t)
structure LI (w0:World) (ρ:Yl) (H:AH) (ops:Array Oper) (t:Tri AV) (n:Nat) (L:Nat) (S:List Nat) (ρ':Yl) (w:World) (a:Array Value):Prop where
 size:a.size = n
 temps:∀k v,t.get k = some v→(∀(i:Nat) (o:Oper),ops[i]? = some o→Xg L i = false→o.dst ≠ some k)→VR ρ' v (a.getD k undef)
 shut:Shut ops L
 ext:Xo ρ ρ'
 other:∀b,b ≠ H.next→ρ' b = ρ b
 nodup:S.Nodup
 mem:∀i,i ∈ S ↔ (i < ops.size∧Xg L i = true)
 world:(Xg L 0 = false∧WR w0 ρ' H w∧S.filterMap (ent ops t) = []) ∨ (Xg L 0 = true∧(∃c n,ρ' H.next = some (c,n))∧WR w0 ρ' (HL H (S.filterMap (ent ops t))) w)
theorem findU_new {kt:TypeId} {k:AV}:∀{l:List (AV × AV)},(∀p ∈ l,eqlU P Op.maxDepth kt k p.1 = some false)→findU P kt k l = some none
 | [],_ =>rfl
 | (j,v) :: l,h =>by
  unfold findU
  rw [findU_new fun p hp =>h p (List.mem_cons_of_mem _ hp),h (j,v) List.mem_cons_self]
theorem step_skipped {g:Frame} {cs:List Frame} {ops:Array Oper} {i:Nat} {o:Oper} {rest:List Nat} {k:List Item} (hm:g.mode = .run) (ho:ops[i]? = some o) (hk:g.todo = .inRegion ops (i :: rest) :: k) (hw:Region.wanted o (yielded ops g.tmps) = true) (hd:∀c,o.op ≠ .defer c) {w':World} (hr:(execOp g.eval o).run P w = .ok .skip w') :
  step P (lone g cs w) = .next (lone (g.finish undef) cs w') :=
 step_lone_go (by rw [stepG_oper hm ho hk hw (.inr hd)];simp [stepG.apply,hr])
theorem lit_step {ops:Array Oper} {m:Tmp} {t:Tri AV} {n L:Nat} {S:List Nat} {ρ':Yl} {g:Frame} {cs:List Frame} {i:Nat} {o:Oper} {rest:List Nat} {k:List Item} (hF:LitFacts P ops m H.next t) (hlid:True) (hdn:∀(i:Nat) (o:Oper) (d:Tmp),ops[i]? = some o→o.dst = some d→d < n)
  (hg:GR ρ) (hm:g.mode = .run) (hk:g.todo = .inRegion ops (i :: rest) :: k) (h:LI w0 ρ H ops t n L S ρ' w g.tmps) (ho:ops[i]? = some o) (hL:Xg L i = false) (hf:Xv L o = true) :
  ∃ρ2 w' a',step P (lone g cs w) = .next (lone { g with tmps:=a',todo:=.inRegion ops rest :: k } cs w')∧LI w0 ρ H ops t n (ins L i) (S ++ [i]) ρ2 w' a':=by
 have hi:=(Array.getElem?_eq_some_iff.1 ho).1
 have hg':=hg.ext h.ext
 have hread:∀d ∈ Oper.looksAt ops o,∀v,t.get d = some v→VR ρ' v (g.tmps.getD d undef):=by
  intro d hd v hv
  refine h.temps d v hv fun j oj hoj hjL hdst =>?_
  by_cases e:i = j
  ·subst e
   rw [ho] at hoj
   cases hoj
   exact hF.strict.self i o d ho hdst hd
  ·rw [anc_done h.shut i ho hf (hF.strict.look i j o oj d ho hoj hdst e hd)] at hjL
   cases hjL
 have hev:∀x ∈ o.op.operands,EvR ρ' t g.eval x:=fun x hx =>evR_of hg' fun d v hxd hv =>by
  subst hxd
  exact hread d (by
   unfold Oper.looksAt
   exact List.mem_append_left _ (List.mem_filterMap.2 ⟨.tmp d,by simpa using hx,rfl⟩)) v hv
 have hw:Region.wanted o (yielded ops g.tmps) = true:=by
  unfold Region.wanted
  rw [hF.guard i o ho]
 have hmem:∀j,j ∈ S ++ [i] ↔ (j < ops.size∧Xg (ins L i) j = true):=by
  intro j
  rw [List.mem_append,List.mem_singleton,h.mem]
  constructor
  ·rintro (⟨h1,h2⟩ | rfl)
   ·exact⟨h1,Ws h2⟩
   ·exact⟨hi,X5 _ _⟩
  ·rintro ⟨h1,h2⟩
   rcases bit_ins_cases h2 with h2 | h2
   ·exact .inl ⟨h1,h2⟩
   ·exact .inr h2
 have hnd:(S ++ [i]).Nodup:=by
  rw [List.nodup_append]
  refine⟨h.nodup,by simp,fun a ha b hb =>?_⟩
  rw [List.mem_singleton] at hb
  subst hb
  rintro rfl
  have:=((h.mem a).1 ha).2
  rw [hL] at this
  cases this
 have htemps:∀{ρ2:Yl} {x:Value},Xo ρ' ρ2→(∀d v,o.dst = some d→t.get d = some v→VR ρ2 v x)→∀k v,t.get k = some v→(∀(j:Nat) (oj:Oper),ops[j]? = some oj→Xg (ins L i) j = false→oj.dst ≠ some k)→VR ρ2 v ((putA g.tmps o.dst x).getD k undef):=by
  intro ρ2 x he hx k v hv hk
  by_cases hdk:o.dst = some k
  ·rw [putA_eq hdk (by rw [h.size];exact hdn i o k ho hdk)]
   exact hx k v hdk hv
  ·rw [putA_ne hdk]
   refine (h.temps k v hv fun j oj hoj hjL =>?_).ext he
   by_cases e:i = j
   ·subst e
    rw [ho] at hoj
    cases hoj
    exact hdk
   ·exact hk j oj hoj (by rw [Wt e];exact hjL)
 have hfm:∀{q},ent ops t i = q→(S ++ [i]).filterMap (ent ops t) = S.filterMap (ent ops t) ++ q.toList:=by
  intro q hq
  rw [List.filterMap_append]
  congr 1
  cases q with
  | none =>simp [hq]
  | some e =>simp [hq]
 have hent:ent ops t i = entU t o:=by unfold ent;rw [ho];rfl
 by_cases hi0:i = 0
 ·
  subst hi0
  obtain⟨ty,b,c,d,hfirst⟩:=hF.first
  rw [ho] at hfirst
  simp only [Option.some.injEq] at hfirst
  have hwd:=h.world
  rcases hwd with ⟨_,hwr,hnil⟩ | ⟨h1,_⟩
  ·have hnew:H.new (.map [] false) = some (HL H []):=by
    unfold AH.new
    rw [if_pos]
    ·rfl
    ·simp [AB.one]
   have hv:newU P t o.op = some (.map [] false,fun b =>.map b):=by rw [hfirst];rfl
   obtain⟨obj,mm,val,hB,hval,hrun⟩:=newU_sound (P:=P) hev hv rfl
   obtain⟨hw2,hp2⟩:=hwr.alloc hnew hB
   have hdm:o.dst = some m:=by rw [hfirst]
   have hen:entU t o = none:=entU_none fun _ _ _ _ he =>by rw [hfirst] at he;cases he
   have hndf:∀c,o.op ≠ .defer c:=fun _ he =>by rw [hfirst] at he;cases he
   refine⟨ρ'.at H.next w.heap.size mm,w.alloc obj,putA g.tmps o.dst (val w.heap.size),by rw [step_value hm ho hk hw hndf (hrun w),Xn ho hk],?_⟩
   refine⟨by rw [putA_size];exact h.size,htemps hp2.ext (fun d u hd hu =>?_),h.shut.ins ho hf,h.ext.trans hp2.ext,fun b hb =>?_,hnd,hmem,.inr ⟨X5 _ _,⟨_,_,YK _ _ _ _⟩,?_⟩⟩
   ·rw [hdm] at hd
    cases hd
    rw [hF.map] at hu
    cases hu
    exact hval _ _ _ hp2.ext (YK _ _ _ _)
   ·rw [← h.other b hb]
    unfold Yl.at
    rw [if_neg hb]
   ·rw [hfm (hent.trans hen),hnil]
    exact hw2
  ·rw [hL] at h1;cases h1
 ·rcases hF.rest i o ho hi0 with ⟨ty,kx,vx,kt,et,kv,xv,hop,hdst,hty,hty',hkv,hxv,hkey,hall⟩ | ⟨hno,hnd',v,hv,hdv⟩
  ·
   have hml:m ∈ Oper.looksAt ops o:=by
    unfold Oper.looksAt
    refine List.mem_append_left _ (List.mem_filterMap.2 ⟨.tmp m,?_,rfl⟩)
    rw [hop]
    simp [Op.operands]
   obtain⟨fa,fb,fc,fd,hfirst⟩:=hF.first
   have h0:Xg L 0 = true:=anc_done h.shut i ho hf (hF.strict.look i 0 o _ m ho hfirst rfl hi0 hml)
   rcases h.world with ⟨h1,_⟩ | ⟨_,⟨c,nn,hc⟩,hwr⟩
   ·rw [h0] at h1;cases h1
   have hmv:=hev (.tmp m) (by rw [hop];simp [Op.operands]) _ hF.map
   have hkk:=hev kx (by rw [hop];simp [Op.operands]) _ hkv
   have hxx:=hev vx (by rw [hop];simp [Op.operands]) _ hxv
   have hupd:mapUpdateU P kt (.map H.next) kv xv (HL H (S.filterMap (ent ops t))) = some ((HL H (S.filterMap (ent ops t))).set H.next (.map (S.filterMap (ent ops t) ++ [(kv,xv)]) false)):=by
    unfold mapUpdateU
    dsimp only
    rw [HL_get hlid,if_pos rfl]
    dsimp only
    rw [if_pos hkey,findU_new fun p hp =>?_]
    obtain⟨j,hj,hjp⟩:=List.mem_filterMap.1 hp
    unfold ent at hjp
    simp only [Option.bind_eq_some_iff] at hjp
    obtain⟨oj,hoj,hej⟩:=hjp
    refine hall j oj p.1 p.2 (fun e =>?_) hoj hej
    subst e
    rw [((h.mem i).1 hj).2] at hL
    cases hL
   obtain⟨w',hw2,hp2,hrun⟩:=mapUpdateU_sound (P:=P) hwr hty hmv hkk hxx hupd
   have hndf:∀c,o.op ≠ .defer c:=fun _ he =>by rw [hop] at he;cases he
   have hex:(execOp g.eval o).run P w = .ok .skip w':=by
    unfold execOp
    rw [hop]
    simp only [Sem.run_bind,hrun,Result.andThen_ok,Sem.run_pure]
   have hent':entU t o = some (kv,xv):=by
    unfold entU
    rw [hop]
    simp only [hkv,hxv]
   refine⟨ρ',w',putA g.tmps o.dst undef,by rw [step_skipped hm ho hk hw hndf hex,Xn ho hk],?_⟩
   refine⟨by rw [putA_size];exact h.size,htemps (Xo.refl _) (fun d u hd =>by rw [hdst] at hd;cases hd),h.shut.ins ho hf,h.ext,h.other,hnd,hmem,.inr ⟨Ws h0,⟨c,nn,hc⟩,?_⟩⟩
   rw [hfm (hent.trans hent')]
   refine hw2.gets (fun b =>?_) rfl
   show _ = ((HL H (S.filterMap (ent ops t))).t.put H.next _).get b
   rw [Tri.get_put hlid,HL_get hlid,HL_get hlid]
   by_cases e:b = H.next
   ·rw [if_pos e,if_pos e];rfl
   ·rw [if_neg e,if_neg e,if_neg e]
  ·obtain⟨x,hx,hrun⟩:=pureU_sound (P:=P) hev hv
   refine⟨ρ',w,putA g.tmps o.dst x,by rw [step_value hm ho hk hw hnd' (hrun w),Xn ho hk],?_⟩
   refine⟨by rw [putA_size];exact h.size,htemps (Xo.refl _) (fun d u hd hu =>by rw [hdv d hd] at hu;cases hu;exact hx),h.shut.ins ho hf,h.ext,h.other,hnd,hmem,?_⟩
   rw [hfm (hent.trans hno),Wt hi0]
   simp only [Option.toList_none,List.append_nil]
   exact h.world
end
end Go.Ev
end
section
namespace Go.Ev
open Go.RowKit
section
variable {P:Program} {w0:World} {ρ:Yl} {H:AH} {w:World}
theorem litRun_dst:∀{l:List Oper} {fr fr':AF},litRun P l fr = some fr'→∀o ∈ l,(∀ty m k x,o.op ≠ .insert ty m k x)→∀d,o.dst = some d→d < fr.n
 | [],_,_,_,o,ho,_ =>by cases ho
 | o :: l,fr,fr',h,o',ho',hno =>by
  unfold litRun at h
  have rest:∀{v:AV} {fr1:AF},putT fr o.dst v = some fr1→litRun P l fr1 = some fr'→∀d,o'.dst = some d→d < fr.n:=by
   intro v fr1 hp hl
   obtain⟨rfl,hlt⟩:=W3 hp
   rcases List.mem_cons.1 ho' with rfl | ho'
   ·exact hlt
   ·exact litRun_dst (fr:={ fr with tmps:=putD fr.tmps o.dst v }) hl o' ho' hno
  split at h
  ·rename_i heq
   rcases List.mem_cons.1 ho' with rfl | ho'
   ·exact absurd heq (hno _ _ _ _)
   ·exact litRun_dst h o' ho' hno
  ·split at h
   ·split at h
    ·rename_i hp
     exact rest hp h
    ·cases h
   ·cases h
theorem lit_run {ops:Array Oper} {m:Tmp} {t:Tri AV} {n:Nat} {cs:List Frame} {k:List Item} (hF:LitFacts P ops m H.next t) (hlid:True) (hdn:∀(i:Nat) (o:Oper) (d:Tmp),ops[i]? = some o→o.dst = some d→d < n) (hg:GR ρ) {L:Nat} {todo:List Nat} (hs:Sched ops L todo) :
  ∀{S:List Nat} {ρ':Yl} {w:World} {g:Frame},g.mode = .run→g.todo = .inRegion ops todo :: k→LI w0 ρ H ops t n L S ρ' w g.tmps →
  ∃L' S' ρ2 w' a',Steps P (lone g cs w) (lone { g with tmps:=a',todo:=.inRegion ops [] :: k } cs w')∧LI w0 ρ H ops t n L' S' ρ2 w' a'∧∀i,i < ops.size→Xg L' i = true:=by
 induction hs with
 | nil hall =>
  intro S ρ' w g hm hk h
  refine⟨_,S,ρ',w,g.tmps,?_,h,hall⟩
  rw [← hk]
  exact .refl _ _
 | @cons L i o rest ho hn hf hs ih =>
  intro S ρ' w g hm hk h
  obtain⟨ρ2,w',a',hst,h2⟩:=lit_step (cs:=cs) hF hlid hdn hg hm hk h ho hn hf
  obtain⟨L',S',ρ3,w3,a3,hst3,h3,hall⟩:=ih (g:={ g with tmps:=a',todo:=.inRegion ops rest :: k }) hm rfl h2
  exact⟨L',S',ρ3,w3,a3,.head hst hst3,h3,hall⟩
theorem perm_range {S:List Nat} {n:Nat} (hn:S.Nodup) (hm:∀i,i ∈ S ↔ i < n):S.Perm (List.range n):=by
 rw [List.perm_ext_iff_of_nodup hn List.nodup_range]
 intro i
 rw [hm,List.mem_range]
theorem range_ent (ops:Array Oper) (t:Tri AV):(List.range ops.size).filterMap (ent ops t) = ops.toList.filterMap (entU t):=by
 obtain⟨l⟩:=ops
 have gen:∀(l:List Oper) (k:Nat) (f:Nat→Option (AV × AV)),(∀i,i < l.length→f (k + i) = (l[i]?).bind (entU t))→(List.range' k l.length).filterMap f = l.filterMap (entU t):=by
  intro l
  induction l with
  | nil =>intro k f _;rfl
  | cons o l ih =>
   intro k f hf
   have h0:=hf 0 (by simp)
   simp only [Nat.add_zero,List.getElem?_cons_zero,Option.bind_some] at h0
   rw [List.length_cons,List.range'_succ,List.filterMap_cons,List.filterMap_cons,h0,ih (k + 1) f fun i hi =>?_]
   rw [show k + 1 + i = k + (i + 1) from by omega,hf (i + 1) (by simp;omega),List.getElem?_cons_succ]
 have:=gen l 0 (ent ⟨l⟩ t) (fun i hi =>by simp [ent])
 simpa [List.range_eq_range'] using this
theorem lit_goes (hmix:P.follows .mixedOrders = true) (w0:World):LitGoes P w0:=by
 intro ρ H w lo f g cs ds c0 m id ops k k' hg hw hlo h hm hs ht hks hgt hr
 have hgm:=W4 h hm
 unfold mapLitA at hr
 split at hr
 ·rename_i mt hlit
  split at hr
  ·rename_i hstrict
   split at hr
   ·rename_i fr1 hput
    split at hr
    ·rename_i fr2 hrun
     have hmapb:∃b,fr2.tmps.get mt = some (.map b):=by
      cases hq:fr2.tmps.get mt with
      | none =>rw [hq] at hr;simp at hr
      | some q =>
       rw [hq] at hr
       cases q <;> first | exact⟨_,rfl⟩ | (simp at hr;done)
     obtain⟨b0,hb0⟩:=hmapb
     rw [hb0] at hr
     dsimp only at hr
     split at hr
     ·rename_i hall
      rw [Bool.and_eq_true] at hall
      split at hr
      ·rename_i H' hnew
       simp only [Option.some.injEq] at hr
       subst hr
       obtain⟨hlidn,_,hH'⟩:=Wa hnew
       obtain⟨hf1,hlt1⟩:=W3 hput
       have hn1:fr1.n = f.n:=by rw [hf1]
       obtain⟨hf2,hkeep⟩:=litRun_keeps (by rw [hn1];exact h.lid) hrun
       have hSF:=strictOK_facts hstrict
       have hmap:fr2.tmps.get mt = some (.map H.next):=by rw [hb0,Nat.eq_of_beq_eq_true hall.2]
       unfold mapLitOK at hlit
       split at hlit
       ·rename_i m0 a b c d hfirst
        split at hlit
        ·rename_i hdrop
         simp only [Option.some.injEq] at hlit
         subst hlit
         rw [List.all_eq_true] at hdrop
         have tail:∀(i:Nat) (o:Oper),ops[i]? = some o→i ≠ 0→o ∈ ops.toList.drop 1:=by
          intro i o ho hi
          rw [List.mem_iff_getElem?]
          exact⟨i - 1,by rw [List.getElem?_drop,show 1 + (i - 1) = i from by omega,Array.getElem?_toList];exact ho⟩
         have hF:LitFacts P ops m0 H.next fr2.tmps:=by
          refine⟨hSF,⟨a,b,c,d,hfirst⟩,fun i o ho =>?_,hmap,fun i o ho hi =>?_⟩
          ·by_cases hi:i = 0
           ·subst hi
            rw [hfirst] at ho
            cases ho
            rfl
           ·have:=hdrop o (tail i o ho hi)
            rw [Bool.and_eq_true,Option.isNone_iff_eq_none] at this
            exact this.1
          ·exact litOne_sound ho hi (List.all_eq_true.1 hall.1 i (List.mem_range.2 (Array.getElem?_eq_some_iff.1 ho).1))
         have hdn:∀(i:Nat) (o:Oper) (d:Tmp),ops[i]? = some o→o.dst = some d→d < f.n:=by
          intro i o d ho hd
          by_cases hi:i = 0
          ·subst hi
           rw [hfirst] at ho
           cases ho
           exact hlt1 d hd
          ·rcases hF.rest i o ho hi with ⟨_,_,_,_,_,_,_,_,hdst,_⟩ | ⟨hno,_,_,hv,_⟩
           ·rw [hdst] at hd;cases hd
           ·rw [← hn1]
            refine litRun_dst hrun o (tail i o ho hi) (fun ty mm kk x he =>?_) d hd
            rw [he] at hv
            simp [pureU] at hv
         have hsch:=schedule_sched hSF.low (w.tape w.drawn (.order g.fn id))
         have hstep:step P (lone g (ds ++ c0) w) = .next (lone { g with todo:=.inRegion ops (Region.schedule true ops (w.tape w.drawn (.order g.fn id))) :: k' } (ds ++ c0) { w with drawn:=w.drawn + 1 }) :=
          step_lone_go (by simp [stepG,stepG.exec,hgm,hgt,hmix,choose,Sem.run,Question.forced,Question.cut])
         have hLI:LI w0 ρ H ops fr2.tmps f.n 0 [] ρ { w with drawn:=w.drawn + 1 } g.tmps:=by
          refine⟨ht.1,fun kk v hv hk =>?_,.zero ops,Xo.refl _,fun _ _ =>rfl,List.nodup_nil,fun i =>⟨fun hi =>(by cases hi),fun hi =>(by rw [bit_zero] at hi;cases hi.2)⟩,.inl ⟨bit_zero 0,hw.drew,rfl⟩⟩
          have h1:=hkeep kk fun o ho =>by
           obtain⟨i,hi⟩:=List.mem_iff_getElem?.1 ho
           rw [List.getElem?_drop,Array.getElem?_toList] at hi
           exact hk _ o hi (bit_zero _)
          have h2:fr1.tmps.get kk = f.tmps.get kk:=by
           rw [hf1]
           exact putD_ne (fun d hd =>Nat.lt_of_lt_of_le (hlt1 d hd) h.lid) (hk 0 _ hfirst (bit_zero _))
          exact ht.2 kk v (by rw [← h2,← h1];exact hv)
         obtain⟨L',S',ρ2,w2,a2,hst,hLI2,hdone⟩:=lit_run (cs:=ds ++ c0) (g:={ g with todo:=.inRegion ops (Region.schedule true ops (w.tape w.drawn (.order g.fn id))) :: k' }) hF hlidn hdn hg hsch hgm rfl hLI
         have hsz:0 < ops.size:=(Array.getElem?_eq_some_iff.1 hfirst).1
         rcases hLI2.world with ⟨h1,_⟩ | ⟨_,_,hwr⟩
         ·rw [hdone 0 hsz] at h1;cases h1
         have hperm:(S'.filterMap (ent ops fr2.tmps)).Perm (ops.toList.filterMap (entU fr2.tmps)):=by
          rw [← range_ent]
          exact (perm_range hLI2.nodup fun i =>by rw [hLI2.mem];exact⟨fun hh =>hh.1,fun hh =>⟨hh,hdone i hh⟩⟩).filterMap _
         have hwf:=hwr.perm hlidn hperm
         have hHL:HL H (ops.toList.filterMap (entU fr2.tmps)) = H':=hH'.symm
         rw [hHL] at hwf
         have htr:TR ρ2 fr2.tmps f.n a2:=⟨hLI2.size,fun kk v hv =>hLI2.temps kk v hv fun i o ho hL =>by
          rw [hdone i (Array.getElem?_eq_some_iff.1 ho).1] at hL;cases hL⟩
         have hkp:Xe H.next ρ H ρ2 H':=by
          refine⟨hLI2.ext,by rw [hH'];exact Nat.le_succ _,fun b hb hnb =>⟨by rw [hLI2.other b (by omega)];exact hnb,?_⟩⟩
          rw [← hHL,HL_get hlidn,if_neg (by omega)]
         have hfin:step P (lone { g with tmps:=a2,todo:=.inRegion ops [] :: k' } (ds ++ c0) w2) = .next (lone { g with tmps:=a2,todo:=k' } (ds ++ c0) w2) :=
          step_lone_go (by simp [stepG,stepG.exec,hgm])
         refine⟨{ g with tmps:=a2,todo:=k' },ds,w2,.head hstep (hst.trans (.one hfin)),⟨ρ2,lo,hg.ext hkp.ext,hwf,Nat.le_trans hlo hkp.next,?_,hs.keeps hkp hlo⟩⟩
         have hff:fr2 = { f with tmps:=fr2.tmps }:=by rw [hf2,hf1]
         rw [hff]
         exact⟨h.fn,h.kind,h.lid,h.round.ext hkp.ext,h.mode.ext hkp.ext,h.defers.ext hkp.ext,.plain (hks.ext hkp.ext) htr⟩
        ·cases hlit
       ·cases hlit
      ·cases hr
     ·cases hr
    ·cases hr
   ·cases hr
  ·cases hr
 ·cases hr
end
end Go.Ev
end
section
namespace Go.Ev
open Go.RowKit
section
variable {P:Program} {w0:World} {ρ:Yl} {H:AH} {w:World}
def resF (tmps:Array Value):ResultVar→Sem Value
 | .tmp t =>pure (tmps.getD t undef)
 | .cell a t =>do loadVar t (← asAddr (tmps.getD a undef))
theorem resultsU_sound (hw:WR w0 ρ H w) {t:Tri AV} {n:Nat} {a:Array Value} (ht:TR ρ t n a):∀{l:List ResultVar} {vs:List AV},Zi P t H l = some vs→∃xs,Xy ρ vs xs∧(l.mapM (resF a)).run P w = .ok xs w
 | [],vs,h =>by
  simp only [Zi,Option.some.injEq] at h
  subst h
  exact⟨[],.nil,rfl⟩
 | .tmp i :: l,vs,h =>by
  simp only [Zi] at h
  split at h
  ·rename_i v vs' hv hvs
   simp only [Option.some.injEq] at h
   subst h
   obtain⟨xs,hx,hrun⟩:=resultsU_sound hw ht hvs
   refine⟨_,.cons (ht.2 i v hv) hx,?_⟩
   rw [List.mapM_cons]
   simp only [resF,Sem.run_bind,Sem.run_pure,Result.andThen_ok,hrun]
  ·cases h
 | .cell i ty :: l,vs,h =>by
  simp only [Zi] at h
  split at h
  ·rename_i b off vs' hv hvs
   simp only [Option.map_eq_some_iff] at h
   obtain⟨v,hl,rfl⟩:=h
   obtain⟨xs,hx,hrun⟩:=resultsU_sound hw ht hvs
   have hp:=ht.2 i _ hv
   generalize hg:a.getD i undef = pv at hp
   cases hp with | ptr hb =>
   obtain⟨x,hxr,hld⟩:=loadVarU_sound (P:=P) hw hb hl
   refine⟨_,.cons hxr hx,?_⟩
   rw [List.mapM_cons]
   simp only [resF,hg,asAddr,Sem.run_bind,Sem.run_pure,Result.andThen_ok,hld,hrun]
  ·cases h
theorem resultU_sound (hw:WR w0 ρ H w) {f:AF} {g:Frame} (hfn:f.fn = g.fn) (ht:TR ρ f.tmps f.n g.tmps) {v:AV} (h:ZI P f H = some v):∃fn x,P.funcs[g.fn]? = some fn∧VR ρ v x∧(results fn g.tmps).run P w = .ok x w:=by
 unfold ZI at h
 split at h
 ·rename_i fn hf
  have hf:=funcU_sound hf
  rw [hfn] at hf
  have gen:∀vs,Zi P f.tmps H fn.results.toList = some vs→∃xs:List Value,Xy ρ vs xs∧(results fn g.tmps).run P w = .ok (if h:xs.toArray.size = 1 then xs.toArray[0] else .tuple xs.toArray) w:=by
   intro vs hvs
   obtain⟨xs,hx,hrun⟩:=resultsU_sound hw ht hvs
   refine⟨xs,hx,?_⟩
   have he:results fn g.tmps = (do let vs ← fn.results.mapM (resF g.tmps);pure (if h:vs.size = 1 then vs[0] else .tuple vs)):=rfl
   rw [he,Array.mapM_eq_mapM_toList]
   simp [hrun]
  split at h
  ·rename_i v' hvs
   simp only [Option.some.injEq] at h
   subst h
   obtain⟨xs,hx,hrun⟩:=gen _ hvs
   cases hx with | cons h1 h2 =>
   cases h2
   exact⟨fn,_,hf,h1,hrun⟩
  ·rename_i vs hne hvs
   simp only [Option.some.injEq] at h
   subst h
   obtain⟨xs,hx,hrun⟩:=gen _ hvs
   refine⟨fn,.tuple xs.toArray,hf,.tuple hx,?_⟩
   rw [hrun,dif_neg]
   intro h1
   have hl:=hx.length
   simp only [List.size_toArray] at h1
   rw [h1] at hl
   match vs,hl with
   | [v],_ =>exact absurd rfl (hne v)
  ·cases h
 ·cases h
theorem CR.older {l:List (AV × Bool)} {m:List PanicEntry} (h:CR ρ l m):m.dropWhile (!·.goexit) = []:=by
 induction h with
 | nil =>rfl
 | cons h hs ih =>simpa using ih
theorem TD.tr {lo hi:Nat} {top:Bool} {m:AM} {n:Nat} {t:Tri AV} {k:List AI} {a:Array Value} {k':List Item} (h:TD P ρ H lo hi top m n t k a k') (hm:m ≠ .run):TR ρ t n a:=by
 cases h with
 | plain _ ht =>exact ht
 | gone _ _ ht =>exact ht
 | drawn _ hr =>exact absurd hr hm
 | waits hr =>exact absurd hr hm
theorem FrR.mode_ne {lo hi:Nat} {top:Bool} {f:AF} {g:Frame} (h:FrR P ρ H lo hi top f g) (hm:f.mode ≠ .run):g.mode ≠ .run:=by
 have:=h.mode
 intro e
 rw [e] at this
 generalize f.mode = fm at hm this
 cases this
 exact hm rfl
theorem FrR.down {lo hi:Nat} {top top':Bool} {f:AF} {g:Frame} (h:FrR P ρ H lo hi top f g) (hm:f.mode ≠ .run):FrR P ρ H lo hi top' f g :=
 ⟨h.fn,h.kind,h.lid,h.round,h.mode,h.defers,h.todo.turn hm hm⟩
theorem stepG_unwind {g:Frame} {cs:List Frame} (hm:g.mode ≠ .run):stepG P true { frame:=g,callers:=cs,status:=.running,dying:=none } w = unwind P true g cs none w:=by
 obtain⟨fn,a,todo,defers,mode,kind,roundOf⟩:=g
 cases mode with
 | run =>exact absurd rfl hm
 | returning =>rfl
 | panicking c =>rfl
variable (hng : ∀ (f : FuncId) (fn : Func), P.funcs[f]? = some fn → (fn.name == "runtime.NumGoroutine") = false)
include hng
theorem unwindA_sound {lo:Nat} {f:AF} {g:Frame} {cs:List AF} {ds c0:List Frame} {m:Yc} (hg:GR ρ) (hw:WR w0 ρ H w) (hlo:lo≤H.next) (h:FrR P ρ H lo H.next true f g) (hm:f.mode ≠ .run) (hs:FrRs P ρ H lo cs ds)
  (hr:unwindA P f cs H = some m):Goes P w0 g ds c0 w m:=by
 have hgm:=h.mode_ne hm
 have hdf:=h.defers
 have ht:=h.todo.tr hm
 refine .of_stepG ?_
 rw [stepG_unwind hgm]
 unfold unwindA at hr
 split at hr
 ·
  rename_i b dfs hfd
  rw [hfd] at hdf
  generalize hgd:g.defers = gd at hdf
  cases hdf with | @cons _ _ _ dtl hd hds =>
  cases hd with | @collected _ c n hb =>
  split at hr
  ·rename_i hl
   simp only [Option.some.injEq] at hr
   subst hr
   obtain⟨o,ho,hB⟩:=hw.blk _ _ _ _ hl hb
   cases hB
   obtain⟨hw',hp⟩:=hw.obj hl hb rfl (BR.taken (ρ:=ρ) (n:=n))
   have hkp:Xe H.next ρ H ρ _:=hp.keeps (Nat.le_refl _)
   have hrun:(Instr.takeDeferred c).run P w = .ok [] { w with heap:=w.heap.setIfInBounds c (.deferred none) }:=by
    simp only [Instr.takeDeferred,Sem.run_bind,WZ ho rfl,Result.andThen_ok,run_setObj ho rfl,Sem.run_pure]
   have hf2:=(h.down (top':=false) hm).keeps (top':=true) (hi':=H.next) hkp (Nat.le_refl _) (Nat.le_refl _)
   exact⟨{ g with defers:=dtl },ds,_,by simp [unwind,hgd,hrun],⟨ρ,lo,hg,hw',hlo,⟨hf2.fn,hf2.kind,hf2.lid,hf2.round,hf2.mode,hds,hf2.todo⟩,hs.keeps hkp hlo⟩⟩
  ·cases hr
 ·
  rename_i fid args caps dfs hfd
  rw [hfd] at hdf
  generalize hgd:g.defers = gd at hdf
  cases hdf with | @cons _ _ _ dtl hd hds =>
  cases hd with | @call _ _ _ args' caps' ha hc =>
  simp only [Option.map_eq_some_iff] at hr
  obtain⟨g2,he,rfl⟩:=hr
  have hargs:Xy ρ (args ++ caps) (args' ++ caps').toList:=by rw [Array.toList_append];exact ha.append hc
  obtain⟨h1,_,_⟩:=enterU_sound (P:=P) (H:=H) (lo:=H.next) (hi:=H.next) he hargs
  have hbody:∃fn b,P.funcs[fid]? = some fn∧fn.body = some b:=by
   unfold ZQ at he
   split at he
   ·rename_i fn hf
    split at he
    ·rename_i c hc
     exact⟨fn,c,funcU_sound hf,hc⟩
    ·cases he
   ·cases he
  obtain⟨fn,b,hfn,hbd⟩:=hbody
  have hrun:(invoke (.fn (.func fid) caps') args').run P w = .ok (.enter fid (args' ++ caps')) w:=by
   have hn:=hng fid fn hfn
   have hn : fn.name ≠ "runtime.NumGoroutine" := by simpa using hn
   show (callFunc fid (args' ++ caps')).run P w = _
   simp [callFunc,hfn,hn,hbd]
  have hf2:=h.down (top':=false) hm
  refine⟨Frame.enter P fid (args' ++ caps') .deferred,{ g with defers:=dtl } :: ds,w,?_,⟨ρ,H.next,hg,hw,Nat.le_refl _,h1,.cons (lo:=lo) hlo ⟨hf2.fn,hf2.kind,hf2.lid,hf2.round,hf2.mode,hds,hf2.todo⟩ hs⟩⟩
  simp [unwind,hgd,callDeferred,hrun]
 ·rename_i hfd
  rw [hfd] at hdf
  have hgd:g.defers = []:=by
   generalize g.defers = gd at hdf
   cases hdf
   rfl
  have hmode:=h.mode
  have hno:=h.todo.noCall
  split at hr
  ·
   rename_i chain c cs1 hfm
   simp only [Option.some.injEq] at hr
   subst hr
   rw [hfm] at hmode
   generalize hgmm:g.mode = gmm at hmode
   cases hmode with | panicking hc =>
   cases hs with | @cons lo1 _ _ d _ ds1 hle1 hc1 hs1 =>
   obtain⟨h1,_⟩:=raiseU_sound (hc1.keeps (top':=false) (hi':=H.next) (Xe.refl lo ρ H) (Nat.le_refl _) hlo) hc
   refine⟨_,ds1,w,?_,⟨ρ,lo1,hg,hw,Nat.le_trans hle1 hlo,h1,hs1⟩⟩
   have hcat:g.catches P = false:=by
    unfold Frame.catches
    split
    ·rename_i heq
     rw [heq] at hno
     cases hno
    ·rfl
   simp [unwind,hgd,hgmm,hcat]
  ·
   rename_i c cs1 hfm
   rw [hfm] at hmode
   generalize hgmm:g.mode = gmm at hmode
   cases hmode
   split at hr
   ·rename_i v hv
    obtain⟨fn,x,hfn,hvx,hrun⟩:=resultU_sound hw h.fn ht hv
    cases hs with | @cons lo1 _ _ d _ ds1 hle1 hc1 hs1 =>
    have hkd:=h.kind
    have hc2:=hc1.keeps (top':=false) (hi':=H.next) (Xe.refl lo ρ H) (Nat.le_refl _) hlo
    split at hr
    ·rename_i hfk
     rw [hfk] at hkd
     cases hcm:c.mode with
     | run =>
      simp only [hcm,Option.map_eq_some_iff] at hr
      obtain⟨c',hfin,rfl⟩:=hr
      obtain⟨h1,_⟩:=YV (x:=x) hc2 hcm hvx hfin
      exact⟨_,ds1,w,by simp [unwind,hgd,hgmm,hfn,hrun,doReturn,← hkd],⟨ρ,lo1,hg,hw,Nat.le_trans hle1 hlo,h1,hs1⟩⟩
     | returning =>simp [hcm] at hr
     | panicking l =>simp [hcm] at hr
    ·rename_i hfk
     rw [hfk] at hkd
     simp only [Option.some.injEq] at hr
     subst hr
     have hcmode:=hc1.mode
     have hc3:=hc1.keeps (top':=true) (hi':=H.next) (Xe.refl lo ρ H) (Nat.le_refl _) hlo
     have stay:∀d',settleMode c.mode = c.mode→doReturn P true g (d :: ds1 ++ c0) none x w = .go { frame:=d',callers:=ds1 ++ c0,status:=.running,dying:=none } w→d' = d →
       ∃g' ds' w',(unwind P true g (d :: ds1 ++ c0) none w).bare = .go { frame:=g',callers:=ds' ++ c0,status:=.running,dying:=none } w'∧MR P w0 ⟨{ c with mode:=settleMode c.mode },cs1,H⟩ g' ds' w':=by
      intro d' hse hdo hdd
      subst hdd
      refine⟨d',ds1,w,by simp [unwind,hgd,hgmm,hfn,hrun];rw [← List.cons_append,hdo];rfl,⟨ρ,lo1,hg,hw,Nat.le_trans hle1 hlo,?_,hs1⟩⟩
      rw [hse]
      exact hc3
     generalize hcm:c.mode = cm at hcmode stay
     generalize hdm:d.mode = dm at hcmode
     cases hcmode with
     | run =>exact stay d rfl (by simp [doReturn,← hkd,hdm]) rfl
     | returning =>exact stay d rfl (by simp [doReturn,← hkd,hdm]) rfl
     | panicking hch =>
      cases hch with
      | nil =>exact stay d rfl (by simp [doReturn,← hkd,hdm]) rfl
      | @cons v x2 r l m hv hsr =>
       cases r with
       | false =>exact stay d rfl (by simp [doReturn,← hkd,hdm]) rfl
       | true =>
        refine⟨{ d with mode:=.returning },ds1,w,by simp [unwind,hgd,hgmm,hfn,hrun,doReturn,← hkd,hdm,hsr.older],⟨ρ,lo1,hg,hw,Nat.le_trans hle1 hlo,?_,hs1⟩⟩
        have htd:=hc3.todo
        rw [hcm] at htd
        exact⟨hc3.fn,hc3.kind,hc3.lid,hc3.round,.returning,hc3.defers,htd.turn (by simp) (by simp [settleMode])⟩
    ·cases hr
   ·cases hr
  ·cases hr
end
end Go.Ev
end
section
namespace Go.Ev
open Go.RowKit
section
variable {P:Program} {w0 w:World}
variable (hng : ∀ (f : FuncId) (fn : Func), P.funcs[f]? = some fn → (fn.name == "runtime.NumGoroutine") = false) (hmix : P.follows .mixedOrders = true) (hlit : ∀ w0, LitGoes P w0)
/-- Every state of the model that stands to the one comes to a state that stands to the other. -/
def Leads (P:Program) (m m':Yc):Prop:=∀(w0 w:World) (g:Frame) (ds c0:List Frame),MR P w0 m g ds w→Goes P w0 g ds c0 w m'
omit hng hmix hlit in
theorem Leads.refl (m:Yc):Leads P m m:=fun _ _ _ _ _ h =>⟨_,_,_,.refl _ _,h⟩
omit hng hmix hlit in
theorem Leads.trans {m m1 m2:Yc} (h:Leads P m m1) (h':Leads P m1 m2):Leads P m m2:=fun w0 w g ds c0 hm =>by
 obtain⟨g',ds',w',hs,hm'⟩:=h w0 w g ds c0 hm
 obtain⟨g2,ds2,w2,hs2,hm2⟩:=h' w0 w' g' ds' c0 hm'
 exact⟨g2,ds2,w2,hs.trans hs2,hm2⟩
include hng hmix hlit
theorem stepA_leads {m m':Yc} (h:YU P m = some m'):Leads P m m':=by
 intro w0 w g ds c0 hm
 obtain⟨ρ,lo,hg,hw,hlo,hf,hs⟩:=hm.rel
 unfold YU at h
 cases hmode:m.fr.mode with
 | run =>
  rw [hmode] at h
  exact execA_sound hng hmix (hlit w0) hg hw hlo hf hmode hs h
 | returning =>
  rw [hmode] at h
  exact unwindA_sound hng hg hw hlo hf (by rw [hmode];simp) hs h
 | panicking l =>
  rw [hmode] at h
  exact unwindA_sound hng hg hw hlo hf (by rw [hmode];simp) hs h
theorem runA_leads:∀{n:Nat} {m m':Yc},runA P n m = some m'→Leads P m m'
 | 0,m,m',h =>by
  simp only [runA,Option.some.injEq] at h
  subst h
  exact .refl m
 | n + 1,m,m',h =>by
  unfold runA at h
  cases hd:doneA m with
  | true =>
   rw [hd] at h
   simp only [if_true,Option.some.injEq] at h
   subst h
   exact .refl m
  | false =>
   rw [hd] at h
   simp only [Bool.false_eq_true,if_false] at h
   split at h
   ·rename_i m1 h1
    exact (stepA_leads hng hmix hlit h1).trans (runA_leads h)
   ·cases h
end
end Go.Ev
end