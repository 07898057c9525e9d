/- Contracts: a reader of bytes, numbers read and written. -/
import Derived.Test.YtkkegnkopmpjhaaGreatDoorEvE
import Derived.Test.YtkkegnkopmpjhaaGreatDoorEvF
import Derived.Test.YtkkegnkopmpjhaaGreatDoorEvH
import Derived.Test.YtkkegnkopmpjhaaGreatDoorEvJ
set_option linter.unusedVariables false
set_option linter.unusedSimpArgs false
set_option linter.all false
section
namespace Go.Ev
theorem lay_n (i:Nat) (t:Tri AV):Zn i [] t = t:=rfl
theorem lay_c (i:Nat) (v:AV) (l:List AV) (t:Tri AV):Zn i (v :: l) t = Zn (i + 1) l (t.put i (some v)):=rfl
def rQ:=And.intro rO (And.intro lay_n (And.intro lay_c (And.intro @decide_true (And.intro @Zd.eq_def (And.intro @ZN.eq_def @AV.cells.eq_def)))))
/-- A step of a frame that looks at its code alone. -/
def unS:AI→List AI→Option (List AI)
 | .code (.seq a b),k =>some (.code a :: .code b :: k)
 | .code (.block i c),k =>some (.code c :: .inBlock i :: k)
 | .code .skip,k =>some k
 | .code (.exit i),k =>exitU i k
 | .inBlock _,k =>some k
 | _,_ =>none
section
variable {P:Program} {L:World→Prop} [Yu P L] {f n:Nat} {t:Tri AV} {k:List AI} {H:AH} {Φ:AF→AH→Prop}
theorem Zh {x:AI} {k':List AI} (h:unS x k = some k') (hw:WF P L (PF f n t k') H Φ):WF P L (PF f n t (x :: k)) H Φ:=by
 unfold unS at h
 split at h
 ·cases h;exact WF.seq hw
 ·cases h;exact WF.block hw
 ·cases h;exact WF.skip hw
 ·exact WF.exit h hw
 ·cases h;exact WF.endBlock hw
 ·cases h
theorem Zl {ops:Array Oper} {i:Nat} {l:List Oper} {o:Oper} {v:AV} {H1:AH} {t':Tri AV} (hg:o.guard = none) (hx:Xr P t o.op H = some (.val v,H1))
  (hd:XM n t o.dst v = some t') (h:WO P L f n ops (i + 1) l t' H1 k Φ):WO P L f n ops i (o :: l) t H k Φ :=
 WO.op (by unfold Zb;rw [hg]) hx hd h
end
def rS:=And.intro rQ (And.intro @Zr.eq_def @AH.set.eq_def)
end Go.Ev
end
section
namespace Go.Ev
open Go.RowKit
section
variable {P:Program} {L:World→Prop} [Yu P L] {f n:Nat} {t:Tri AV} {k:List AI} {H:AH} {Φ:AF→AH→Prop}
theorem XX.order {Ψ:AV→AH→Prop} {v:AV} {ops:Array Oper} {l:List Nat} (h:Ψ v H):XX Ψ (raiseU (PF f n t (.inRegion ops l :: k)) [(v,false)]) H:=⟨rfl,v,rfl,h⟩
theorem XX.drawn {Ψ:AV→AH→Prop} {v:AV} {ops:Array Oper} {D:Nat} {e:Option Nat} (h:Ψ v H):XX Ψ (raiseU (PF f n t (.drawn ops D e :: k)) [(v,false)]) H:=⟨rfl,v,rfl,h⟩
theorem WF.panic {ops:Array Oper} {i:Nat} {rest:List Nat} {o:Oper} {v:AV} {H1:AH} (ho:ops[i]? = some o) (hw:Zb ops t o = some true) (hx:Xr P t o.op H = some (.panic v,H1))
  (h:Φ (raiseU (PF f n t (.inRegion ops (i :: rest) :: k)) [(v,false)]) H1):WF P L (PF f n t (.inRegion ops (i :: rest) :: k)) H Φ :=
 WF.step (fr1:=raiseU (PF f n t (.inRegion ops (i :: rest) :: k)) [(v,false)]) (H1:=H1) (fun cs =>by simp only [YU,Xs,Xq,operA,ho,hw,hx,XW,Y1]) (.done h)
theorem WF.callP {ops:Array Oper} {i:Nat} {rest:List Nat} {o:Oper} {fid:FuncId} {args:List AV} {H1:AH} {Ψ:AV→AH→Prop} (ho:ops[i]? = some o) (hw:Zb ops t o = some true) (hx:Xr P t o.op H = some (.enter fid args,H1))
  (hf:Pn P L fid args H1 Ψ) (h:∀v H2,Ψ v H2→Φ (raiseU (PF f n t (.inRegion ops (i :: rest) :: k)) [(v,false)]) H2):WF P L (PF f n t (.inRegion ops (i :: rest) :: k)) H Φ:=by
 obtain⟨v,H2,g,hΨ,he,hl⟩:=hf
 refine⟨_,H2,h v H2 hΨ,fun cs =>.trans (Z0 (m':=⟨g,PF f n t (.inRegion ops (i :: rest) :: k) :: cs,H1⟩) ?_) (hl _ cs)⟩
 simp only [YU,Xs,Xq,operA,ho,hw,hx,XW,Y1]
 rw [he]
 rfl
theorem WO.panic {ops:Array Oper} {i:Nat} {l:List Oper} {o:Oper} {v:AV} {H1:AH} {Ψ:AV→AH→Prop} (hw:Zb ops t o = some true) (hx:Xr P t o.op H = some (.panic v,H1))
  (h:Ψ v H1):WO P L f n ops i (o :: l) t H k (XX Ψ):=fun hdr =>by
 obtain⟨h1,_⟩:=Xx hdr
 exact WF.panic (by simpa using h1) hw hx (XX.order h)
theorem WO.callP {ops:Array Oper} {i:Nat} {l:List Oper} {o:Oper} {fid:FuncId} {args:List AV} {H1:AH} {Ψ Ψ':AV→AH→Prop} (hw:Zb ops t o = some true) (hx:Xr P t o.op H = some (.enter fid args,H1))
  (hf:Pn P L fid args H1 Ψ) (h:∀v H2,Ψ v H2→Ψ' v H2):WO P L f n ops i (o :: l) t H k (XX Ψ'):=fun hdr =>by
 obtain⟨h1,_⟩:=Xx hdr
 exact WF.callP (by simpa using h1) hw hx hf fun v H2 hΨ =>XX.order (h v H2 hΨ)
end
/-- An answer, or a panic. -/
def YL (P:Program) {α:Type} (f:FuncId) (o:Option α) (Ψ:α→AV→AH→Prop) (Ψp:AV→AH→Prop):AF→AH→Prop:=match o with
 | some a =>Ret P f (Ψ a)
 | none =>XX Ψp
theorem YL.fn {P:Program} {L:World→Prop} [Yu P L] {α:Type} {f:FuncId} {o:Option α} {a:α} {Ψ:α→AV→AH→Prop} {Ψp:AV→AH→Prop} {args:List AV} {g:AF} {H:AH} (h:o = some a) (he:ZQ P f args .normal = some g) (hw:WF P L g H (YL P f o Ψ Ψp)):Fn P L f args H (Ψ a):=by
 subst h
 exact Fn.intro he hw
theorem YL.pn {P:Program} {L:World→Prop} [Yu P L] {α:Type} {f:FuncId} {o:Option α} {Ψ:α→AV→AH→Prop} {Ψp:AV→AH→Prop} {args:List AV} {g:AF} {H:AH} (h:o = none) (he:ZQ P f args .normal = some g) (hw:WF P L g H (YL P f o Ψ Ψp)):Pn P L f args H Ψp:=by
 subst h
 exact Pn.intro he hw
end Go.Ev
end
section
namespace Go.Ev
open Go.RowKit
/-- A frame that runs. -/
abbrev PK (f n:Nat) (t:Tri AV) (k:List AI) (d:List AD) (kd:CallKind):AF:=⟨f,n,t,k,d,.run,kd,none⟩
section
variable {P:Program} {L:World→Prop} [Yu P L] {f n:Nat} {t:Tri AV} {k:List AI} {d:List AD} {kd:CallKind} {H:AH} {Φ:AF→AH→Prop}
theorem WK.seq {a b:Code} (h:WF P L (PK f n t (.code a :: .code b :: k) d kd) H Φ):WF P L (PK f n t (.code (.seq a b) :: k) d kd) H Φ:=h.step fun _ =>rfl
theorem WK.skip (h:WF P L (PK f n t k d kd) H Φ):WF P L (PK f n t (.code .skip :: k) d kd) H Φ:=h.step fun _ =>rfl
theorem WK.region {i:Nat} {ops:Array Oper} (h:WF P L (PK f n t (.inRegion ops (List.range ops.size) :: k) d kd) H Φ):WF P L (PK f n t (.code (.region i ops false) :: k) d kd) H Φ:=h.step fun _ =>rfl
theorem WK.endRegion {ops:Array Oper} (h:WF P L (PK f n t k d kd) H Φ):WF P L (PK f n t (.inRegion ops [] :: k) d kd) H Φ:=h.step fun _ =>rfl
theorem WK.condT {c:Operand} {a b:Code} (hc:Zg t c = some (.bool true)) (h:WF P L (PK f n t (.code a :: k) d kd) H Φ):WF P L (PK f n t (.code (.cond c a b) :: k) d kd) H Φ :=
 h.step fun _ =>by simp only [YU,Xs,Xq,codeA,condA,hc,toA]
theorem WK.condF {c:Operand} {a b:Code} (hc:Zg t c = some (.bool false)) (h:WF P L (PK f n t (.code b :: k) d kd) H Φ):WF P L (PK f n t (.code (.cond c a b) :: k) d kd) H Φ :=
 h.step fun _ =>by simp only [YU,Xs,Xq,codeA,condA,hc,toA]
theorem putT_PK {dst:Option Tmp} {v:AV} {t':Tri AV} (h:XM n t dst v = some t'):putT (PK f n t k d kd) dst v = some (PK f n t' k d kd):=by
 unfold XM at h
 unfold putT
 cases dst with
 | none =>cases h;rfl
 | some e =>
  dsimp only at h ⊢
  split at h
  ·rename_i hb
   cases h
   rw [if_pos hb]
  ·cases h
theorem finish_PK {ops:Array Oper} {i:Nat} {rest:List Nat} {o:Oper} {v:AV} {t':Tri AV} (ho:ops[i]? = some o) (hd:XM n t o.dst v = some t') :
  YZ P (PK f n t (.inRegion ops (i :: rest) :: k) d kd) v H = some (PK f n t' (.inRegion ops rest :: k) d kd):=by
 unfold YZ
 dsimp only
 rw [ho]
 dsimp only [Option.bind_some]
 rw [putT_PK hd]
 rfl
theorem WK.op {ops:Array Oper} {i:Nat} {rest:List Nat} {o:Oper} {v:AV} {H1:AH} {t':Tri AV} (ho:ops[i]? = some o) (hw:Zb ops t o = some true) (hx:Xr P t o.op H = some (.val v,H1))
  (hd:XM n t o.dst v = some t') (h:WF P L (PK f n t' (.inRegion ops rest :: k) d kd) H1 Φ):WF P L (PK f n t (.inRegion ops (i :: rest) :: k) d kd) H Φ :=
 h.step fun cs =>by
  simp only [YU,Xs,Xq,operA,ho,hw,hx,XW,Y1]
  rw [finish_PK ho hd]
  rfl
theorem WK.defer {ops:Array Oper} {i:Nat} {rest:List Nat} {o:Oper} {g:FuncId} {args caps:List AV} {H1:AH} {t':Tri AV} (ho:ops[i]? = some o) (hw:Zb ops t o = some true) (hx:Xr P t o.op H = some (.defer g args caps,H1))
  (hd:XM n t o.dst (.tuple []) = some t') (h:WF P L (PK f n t' (.inRegion ops rest :: k) (.call g args caps :: d) kd) H1 Φ):WF P L (PK f n t (.inRegion ops (i :: rest) :: k) d kd) H Φ :=
 h.step fun cs =>by
  simp only [YU,Xs,Xq,operA,ho,hw,hx,XW,Y1]
  rw [finish_PK ho hd]
  rfl
theorem WK.call {ops:Array Oper} {i:Nat} {rest:List Nat} {o:Oper} {fid:FuncId} {args:List AV} {H1:AH} {Ψ:AV→AH→Prop} (ho:ops[i]? = some o) (hw:Zb ops t o = some true) (hx:Xr P t o.op H = some (.enter fid args,H1))
  (hf:Fn P L fid args H1 Ψ) (h:∀v H2,Ψ v H2→∃t',XM n t o.dst v = some t'∧WF P L (PK f n t' (.inRegion ops rest :: k) d kd) H2 Φ):WF P L (PK f n t (.inRegion ops (i :: rest) :: k) d kd) H Φ:=by
 obtain⟨v,H2,g,hΨ,he,hl⟩:=hf
 obtain⟨t',hd,hwf⟩:=h v H2 hΨ
 refine hwf.leads fun cs =>.trans (Z0 (m':=⟨g,PK f n t (.inRegion ops (i :: rest) :: k) d kd :: cs,H1⟩) ?_) (hl _ cs _ rfl (finish_PK ho hd))
 simp only [YU,Xs,Xq,operA,ho,hw,hx,XW,Y1]
 rw [he]
 rfl
theorem WK.callP {ops:Array Oper} {i:Nat} {rest:List Nat} {o:Oper} {fid:FuncId} {args:List AV} {H1:AH} {Ψ:AV→AH→Prop} (ho:ops[i]? = some o) (hw:Zb ops t o = some true) (hx:Xr P t o.op H = some (.enter fid args,H1))
  (hf:Pn P L fid args H1 Ψ) (h:∀v H2,Ψ v H2→WF P L { PK f n t [] d kd with mode:=.panicking [(v,false)] } H2 Φ):WF P L (PK f n t (.inRegion ops (i :: rest) :: k) d kd) H Φ:=by
 obtain⟨v,H2,g,hΨ,he,hl⟩:=hf
 refine (h v H2 hΨ).leads fun cs =>.trans (Z0 (m':=⟨g,PK f n t (.inRegion ops (i :: rest) :: k) d kd :: cs,H1⟩) ?_) (hl _ cs)
 simp only [YU,Xs,Xq,operA,ho,hw,hx,XW,Y1]
 rw [he]
 rfl
theorem WK.ret (h:WF P L { PK f n t (.code .ret :: k) d kd with mode:=.returning } H Φ):WF P L (PK f n t (.code .ret :: k) d kd) H Φ:=h.step fun _ =>rfl
theorem WK.fall (h:WF P L { PK f n t [] d kd with mode:=.returning } H Φ):WF P L (PK f n t [] d kd) H Φ:=h.step fun _ =>rfl
end
end Go.Ev
end
section
namespace Go.Ev.C
open Go.Proofs
theorem und71:YR Q 71 = some (.int .u64):=by kernel_rfl
theorem ZB:Xj Q 120 = some false:=by kernel_rfl
theorem ZR:Xj Q 125 = some true:=by kernel_rfl
theorem Yd:szU Q 125 = some 1:=by kernel_rfl
theorem sz188:szU Q 188 = some 0:=by kernel_rfl
theorem YE (b off:Nat):ZS Q 122 (.ptr b off) 1 = some (.ptr b (off + 1)):=by kernel_rfl
theorem YF (b off:Nat):ZS Q 122 (.ptr b off) 0 = some (.ptr b (off + 0)):=by kernel_rfl
theorem Z4 (b off:Nat):ZS Q 125 (.ptr b off) 0 = some (.ptr b (off + 0)):=by kernel_rfl
noncomputable def c6:Code:=(Tryz.f6.body).getD .skip
noncomputable def c16:Code:=(Tryz.f16.body).getD .skip
theorem en16 (a0:AV):ZQ Q 16 [a0] .normal = some (PF 16 8 (Zn 0 [a0] .leaf) [.code c16]):=by kernel_rfl
theorem rs16 (n:Nat) (t:Tri AV) (k:List AI) (H:AH):ZI Q (PF 16 n t k) H = ZL (Zi Q t H [.tmp 2,.tmp 3]):=by kernel_rfl
theorem cu16 (l:List AV) (H:AH):Yh Q (.func 16 [] []) l H = some (.enter 16 ([] ++ l ++ []),H):=by kernel_rfl
noncomputable def c17:Code:=(Tryz.f17.body).getD .skip
theorem en17 (a0:AV):ZQ Q 17 [a0] .normal = some (PF 17 72 (Zn 0 [a0] .leaf) [.code c17]):=by kernel_rfl
theorem rs17 (n:Nat) (t:Tri AV) (k:List AI) (H:AH):ZI Q (PF 17 n t k) H = ZL (Zi Q t H [.tmp 2,.tmp 3]):=by kernel_rfl
theorem cu17 (l:List AV) (H:AH):Yh Q (.func 17 [] []) l H = some (.enter 17 ([] ++ l ++ []),H):=by kernel_rfl
noncomputable def c24:Code:=(Tryz.f24.body).getD .skip
theorem en24 (a0 a1:AV):ZQ Q 24 [a0,a1] .normal = some (PF 24 27 (Zn 0 [a0,a1] .leaf) [.code c24]):=by kernel_rfl
theorem rs24 (n:Nat) (t:Tri AV) (k:List AI) (H:AH):ZI Q (PF 24 n t k) H = ZL (Zi Q t H [.tmp 4]):=by kernel_rfl
theorem cu24 (l:List AV) (H:AH):Yh Q (.func 24 [] []) l H = some (.enter 24 ([] ++ l ++ []),H):=by kernel_rfl
noncomputable def c45:Code:=(Tryz.f45.body).getD .skip
theorem en45 (a0:AV):ZQ Q 45 [a0] .normal = some (PF 45 6 (Zn 0 [a0] .leaf) [.code c45]):=by kernel_rfl
theorem rs45 (n:Nat) (t:Tri AV) (k:List AI) (H:AH):ZI Q (PF 45 n t k) H = ZL (Zi Q t H [.cell 2 4]):=by kernel_rfl
theorem cu45 (l:List AV) (H:AH):Yh Q (.func 45 [] []) l H = some (.enter 45 ([] ++ l ++ []),H):=by kernel_rfl
noncomputable def c48:Code:=(Tryz.f48.body).getD .skip
theorem en48 (a0 a1:AV):ZQ Q 48 [a0,a1] .normal = some (PF 48 7 (Zn 0 [a0,a1] .leaf) [.code c48]):=by kernel_rfl
theorem rs48 (n:Nat) (t:Tri AV) (k:List AI) (H:AH):ZI Q (PF 48 n t k) H = ZL (Zi Q t H []):=by kernel_rfl
noncomputable def c49:Code:=(Tryz.f49.body).getD .skip
theorem en49 (a0:AV):ZQ Q 49 [a0] .normal = some (PF 49 38 (Zn 0 [a0] .leaf) [.code c49]):=by kernel_rfl
theorem rs49 (n:Nat) (t:Tri AV) (k:List AI) (H:AH):ZI Q (PF 49 n t k) H = ZL (Zi Q t H [.tmp 2]):=by kernel_rfl
theorem cu49 (l:List AV) (H:AH):Yh Q (.func 49 [] []) l H = some (.enter 49 ([] ++ l ++ []),H):=by kernel_rfl
noncomputable def c50:Code:=(Tryz.f50.body).getD .skip
theorem en50 (a0 a1:AV):ZQ Q 50 [a0,a1] .normal = some (PF 50 23 (Zn 0 [a0,a1] .leaf) [.code c50]):=by kernel_rfl
theorem rs50 (n:Nat) (t:Tri AV) (k:List AI) (H:AH):ZI Q (PF 50 n t k) H = ZL (Zi Q t H [.tmp 4]):=by kernel_rfl
theorem Xf (l:List AV) (H:AH):Yh Q (.func 50 [] []) l H = some (.enter 50 ([] ++ l ++ []),H):=by kernel_rfl
noncomputable def c51:Code:=(Tryz.f51.body).getD .skip
theorem en51 (a0 a1:AV):ZQ Q 51 [a0,a1] .normal = some (PF 51 23 (Zn 0 [a0,a1] .leaf) [.code c51]):=by kernel_rfl
theorem rs51 (n:Nat) (t:Tri AV) (k:List AI) (H:AH):ZI Q (PF 51 n t k) H = ZL (Zi Q t H [.tmp 4]):=by kernel_rfl
theorem cu51 (l:List AV) (H:AH):Yh Q (.func 51 [] []) l H = some (.enter 51 ([] ++ l ++ []),H):=by kernel_rfl
noncomputable def c86:Code:=(Tryz.f86.body).getD .skip
noncomputable def c90:Code:=(Tryz.f90.body).getD .skip
theorem en90 (a0 a1:AV):ZQ Q 90 [a0,a1] .normal = some (PF 90 43 (Zn 0 [a0,a1] .leaf) [.code c90]):=by kernel_rfl
theorem rs90 (n:Nat) (t:Tri AV) (k:List AI) (H:AH):ZI Q (PF 90 n t k) H = ZL (Zi Q t H [.tmp 4]):=by kernel_rfl
theorem XJ (l:List AV) (H:AH):Yh Q (.func 90 [] []) l H = some (.enter 90 ([] ++ l ++ []),H):=by kernel_rfl
noncomputable def c91:Code:=(Tryz.f91.body).getD .skip
theorem en91 (a0 a1:AV):ZQ Q 91 [a0,a1] .normal = some (PF 91 41 (Zn 0 [a0,a1] .leaf) [.code c91]):=by kernel_rfl
theorem rs91 (n:Nat) (t:Tri AV) (k:List AI) (H:AH):ZI Q (PF 91 n t k) H = ZL (Zi Q t H [.tmp 4]):=by kernel_rfl
theorem YQ (l:List AV) (H:AH):Yh Q (.func 91 [] []) l H = some (.enter 91 ([] ++ l ++ []),H):=by kernel_rfl
noncomputable def c92:Code:=(Tryz.f92.body).getD .skip
theorem en92 (a0:AV):ZQ Q 92 [a0] .normal = some (PF 92 43 (Zn 0 [a0] .leaf) [.code c92]):=by kernel_rfl
theorem rs92 (n:Nat) (t:Tri AV) (k:List AI) (H:AH):ZI Q (PF 92 n t k) H = ZL (Zi Q t H [.cell 2 80]):=by kernel_rfl
theorem cu92 (l:List AV) (H:AH):Yh Q (.func 92 [] []) l H = some (.enter 92 ([] ++ l ++ []),H):=by kernel_rfl
noncomputable def c132:Code:=(Tryz.f132.body).getD .skip
theorem en132 (a0:AV):ZQ Q 132 [a0] .normal = some (PF 132 33 (Zn 0 [a0] .leaf) [.code c132]):=by kernel_rfl
theorem rs132 (n:Nat) (t:Tri AV) (k:List AI) (H:AH):ZI Q (PF 132 n t k) H = ZL (Zi Q t H [.tmp 2]):=by kernel_rfl
theorem cu132 (l:List AV) (H:AH):Yh Q (.func 132 [] []) l H = some (.enter 132 ([] ++ l ++ []),H):=by kernel_rfl
end Go.Ev.C
end
section
namespace Go.Fmt
/-- A number, 7 bits a byte. -/
def Xp (n:Nat):List Nat:=if n < 128 then [n] else (n % 128 + 128) :: Xp (n / 128)
termination_by n
decreasing_by omega
theorem lebN_lt {n:Nat} (h:n < 128):Xp n = [n]:=by
 rw [Xp,if_pos h]
theorem lebN_ge {n:Nat} (h:128≤n):Xp n = (n % 128 + 128) :: Xp (n / 128):=by
 rw [Xp,if_neg (by omega)]
def getN:Nat→Nat→List Nat→Option (Nat × List Nat)
 | 0,_,_ =>none
 | _ + 1,_,[] =>none
 | k + 1,i,x :: s =>if 0 < i∧x = 0 then none else if x < 128 then some (x,s) else (getN k (i + 1) s).map fun p =>(x - 128 + 128 * p.1,p.2)
theorem getN_leb:∀(k i v:Nat) (r:List Nat),1≤k→v < 128 ^ k→(0 < i→v ≠ 0)→getN k i (Xp v ++ r) = some (v,r)
 | 0,_,_,_,h,_,_ =>by omega
 | k + 1,i,v,r,_,hv,hi =>by
  by_cases h:v < 128
  ·rw [lebN_lt h,List.singleton_append,getN,if_neg (fun hh =>hi hh.1 hh.2),if_pos h]
  ·have h':128≤v:=by omega
   have hk:1≤k:=by
    rcases k with _ | k
    ·simp at hv
     omega
    ·omega
   have hp:128 ^ (k + 1) = 128 ^ k * 128:=Nat.pow_succ ..
   rw [lebN_ge h',List.cons_append,getN,if_neg (by omega),if_neg (by omega),getN_leb k (i + 1) (v / 128) r hk (by omega) (fun _ =>by omega)]
   have e:v % 128 + 128 - 128 + 128 * (v / 128) = v:=by omega
   show some (v % 128 + 128 - 128 + 128 * (v / 128),r) = some (v,r)
   rw [e]
theorem leb_getN:∀(k i:Nat) (s:List Nat) (v:Nat) (r:List Nat),(∀c ∈ s,c < 256)→getN k i s = some (v,r)→s = Xp v ++ r∧v < 128 ^ k∧(0 < i→v ≠ 0)
 | 0,_,_,_,_,_,h =>by cases h
 | _ + 1,_,[],_,_,_,h =>by cases h
 | k + 1,i,x :: s,v,r,h8,h =>by
  have hp:128 ^ (k + 1) = 128 ^ k * 128:=Nat.pow_succ ..
  have hp1:1≤128 ^ k:=by simpa using Nat.pow_le_pow_right (show 0 < 128 by omega) (Nat.zero_le k)
  have hx:=h8 x (by simp)
  rw [getN] at h
  split at h
  ·cases h
  rename_i h0
  split at h
  ·rename_i h1
   cases h
   exact⟨by rw [lebN_lt h1];rfl,by omega,fun hi hv =>h0 ⟨hi,hv⟩⟩
  ·rename_i h1
   obtain⟨p,hp1',he⟩:=Option.map_eq_some_iff.1 h
   obtain⟨w,r'⟩:=p
   cases he
   obtain⟨a1,a2,a3⟩:=leb_getN k (i + 1) s w r' (fun c hc =>h8 c (by simp [hc])) hp1'
   have hw:=a3 (by omega)
   refine⟨?_,by omega,fun _ =>by omega⟩
   rw [lebN_ge (by omega),a1]
   have e1:(x - 128 + 128 * w) % 128 + 128 = x:=by omega
   have e2:(x - 128 + 128 * w) / 128 = w:=by omega
   rw [e1,e2]
   rfl
theorem WA:∀(k v:Nat),v < 128 ^ k→∀c ∈ Xp v,c < 256
 | 0,v,h,c,hc =>by
  rw [lebN_lt (by simp at h;omega)] at hc
  simp at hc
  simp at h
  omega
 | k + 1,v,h,c,hc =>by
  by_cases h1:v < 128
  ·rw [lebN_lt h1] at hc
   simp at hc
   omega
  ·rw [lebN_ge (by omega)] at hc
   rcases List.mem_cons.1 hc with rfl | hc
   ·omega
   ·have hp:128 ^ (k + 1) = 128 ^ k * 128:=Nat.pow_succ ..
    exact WA k (v / 128) (by omega) c hc
theorem Yj:∀(k v:Nat),v < 128 ^ (k + 1)→(Xp v).length≤k + 1
 | 0,v,h =>by
  rw [lebN_lt (by simpa using h)]
  simp
 | k + 1,v,h =>by
  by_cases h1:v < 128
  ·rw [lebN_lt h1]
   simp
  ·have hp:128 ^ (k + 1 + 1) = 128 ^ (k + 1) * 128:=Nat.pow_succ ..
   have:=Yj k (v / 128) (by omega)
   rw [lebN_ge (by omega)]
   simp
   omega
/-- A number of at most 'most'. -/
def Wz (most:Nat) (s:List Nat):Option (Nat × List Nat):=match getN 9 0 s with
 | some p =>if p.1≤most then some p else none
 | none =>none
theorem num_put {most v:Nat} (hm:most < 9223372036854775808) (h:v≤most) (r:List Nat):Wz most (Xp v ++ r) = some (v,r):=by
 unfold Wz
 rw [getN_leb 9 0 v r (by omega) (by omega) (by omega)]
 dsimp only
 rw [if_pos h]
theorem WT {most:Nat} {s:List Nat} {v:Nat} {r:List Nat} (h8:∀c ∈ s,c < 256) (h:Wz most s = some (v,r)):s = Xp v ++ r∧v≤most:=by
 unfold Wz at h
 split at h
 ·rename_i p hp
  split at h
  ·rename_i hle
   cases h
   exact⟨(leb_getN 9 0 s v r h8 hp).1,hle⟩
  ·cases h
 ·cases h
/-- A record. -/
structure WI where
 id:Nat
 tm:Nat
 data:List Nat
/-- A batch. -/
structure YT where
 cpu:Nat
 dr:Nat
 ah:Nat
 recs:List WI
def pokR (x:WI):Prop:=1≤x.id∧x.id≤1073741824∧x.tm≤1099511627776∧x.data.length≤256
def pokB (x:YT):Prop:=x.cpu≤3∧x.dr≤1099511627776∧x.ah≤1∧x.recs.length≤1000∧∀y ∈ x.recs,pokR y
def pokL (l:List YT):Prop:=l.length≤200∧∀x ∈ l,pokB x
def encR (x:WI):List Nat:=Xp x.id ++ (Xp x.tm ++ (Xp x.data.length ++ x.data))
def XD:List WI→List Nat
 | [] =>[]
 | x :: l =>encR x ++ XD l
def encB (x:YT):List Nat:=Xp x.cpu ++ (Xp x.dr ++ (Xp x.ah ++ (Xp x.recs.length ++ XD x.recs)))
def XE:List YT→List Nat
 | [] =>[]
 | x :: l =>encB x ++ XE l
def encL (l:List YT):List Nat:=Xp l.length ++ XE l
def WB (l:List YT):List Nat:=[84,66,65,84] ++ encL l
def rdR (s:List Nat):Option (WI × List Nat):=match Wz 1073741824 s with
 | none =>none
 | some (i,s) =>match Wz 1099511627776 s with
  | none =>none
  | some (t,s) =>match Wz 256 s with
   | none =>none
   | some (n,s) =>if n≤s.length then some (⟨i,t,s.take n⟩,s.drop n) else none
def rdRs:Nat→List Nat→Option (List WI × List Nat)
 | 0,s =>some ([],s)
 | n + 1,s =>match rdR s with
  | none =>none
  | some (x,s) =>match rdRs n s with
   | none =>none
   | some (l,s) =>some (x :: l,s)
def oneR (x:WI):Bool:=decide (1≤x.id)
def rdB (s:List Nat):Option (YT × List Nat):=match Wz 3 s with
 | none =>none
 | some (c,s) =>match Wz 1099511627776 s with
  | none =>none
  | some (d,s) =>match Wz 1 s with
   | none =>none
   | some (a,s) =>match Wz 1000 s with
    | none =>none
    | some (n,s) =>match rdRs n s with
     | none =>none
     | some (l,s) =>if l.all oneR = true then some (⟨c,d,a,l⟩,s) else none
def rdBs:Nat→List Nat→Option (List YT × List Nat)
 | 0,s =>some ([],s)
 | n + 1,s =>match rdB s with
  | none =>none
  | some (x,s) =>match rdBs n s with
   | none =>none
   | some (l,s) =>some (x :: l,s)
def rdL (s:List Nat):Option (List YT × List Nat):=match Wz 200 s with
 | none =>none
 | some (n,s) =>rdBs n s
/-- What Decode makes of bytes. -/
def XI (s:List Nat):Option (List YT):=if s.take 4 = [84,66,65,84] then
  match rdL (s.drop 4) with
  | some (l,[]) =>some l
  | _ =>none
 else none
def pokR' (x:WI):Prop:=x.id≤1073741824∧x.tm≤1099511627776∧x.data.length≤256
theorem getR_enc {x:WI} (h:pokR' x) (r:List Nat):rdR (encR x ++ r) = some (x,r):=by
 obtain⟨h2,h3,h4⟩:=h
 unfold rdR encR
 simp only [List.append_assoc]
 rw [num_put (by omega) h2]
 dsimp only
 rw [num_put (by omega) h3]
 dsimp only
 rw [num_put (by omega) h4]
 dsimp only
 rw [if_pos (by simp)]
 simp
theorem enc_getR {s:List Nat} {x:WI} {r:List Nat} (h8:∀c ∈ s,c < 256) (h:rdR s = some (x,r)):s = encR x ++ r∧pokR' x:=by
 unfold rdR at h
 split at h
 ·cases h
 rename_i i s1 h1
 obtain⟨rfl,a1⟩:=WT h8 h1
 have g1:∀c ∈ s1,c < 256:=fun c hc =>h8 c (by simp [hc])
 split at h
 ·cases h
 rename_i t s2 h2
 obtain⟨rfl,a2⟩:=WT g1 h2
 have g2:∀c ∈ s2,c < 256:=fun c hc =>g1 c (by simp [hc])
 split at h
 ·cases h
 rename_i n s3 h3
 obtain⟨rfl,a3⟩:=WT g2 h3
 split at h
 ·rename_i hn
  cases h
  have hl:(s3.take n).length = n:=by simp;omega
  refine⟨?_,a1,a2,by dsimp only;omega⟩
  unfold encR
  dsimp only
  rw [hl]
  simp
 ·cases h
theorem getRs_enc:∀{l:List WI},(∀y ∈ l,pokR' y)→∀r,rdRs l.length (XD l ++ r) = some (l,r)
 | [],_,r =>rfl
 | x :: l,h,r =>by
  show rdRs (l.length + 1) _ = _
  rw [rdRs,XD,List.append_assoc,getR_enc (h x (by simp))]
  dsimp only
  rw [getRs_enc (fun y hy =>h y (by simp [hy]))]
theorem enc_getRs:∀{n:Nat} {s:List Nat} {l:List WI} {r:List Nat},(∀c ∈ s,c < 256)→rdRs n s = some (l,r)→s = XD l ++ r∧l.length = n∧∀y ∈ l,pokR' y
 | 0,s,l,r,_,h =>by
  cases h
  exact⟨rfl,rfl,by simp⟩
 | n + 1,s,l,r,h8,h =>by
  unfold rdRs at h
  split at h
  ·cases h
  rename_i x s1 h1
  obtain⟨rfl,a1⟩:=enc_getR h8 h1
  split at h
  ·cases h
  rename_i l1 s2 h2
  cases h
  obtain⟨rfl,a2,a3⟩:=enc_getRs (fun c hc =>h8 c (by simp [hc])) h2
  refine⟨by rw [XD,List.append_assoc],by simp [a2],fun y hy =>?_⟩
  rcases List.mem_cons.1 hy with rfl | hy
  ·exact a1
  ·exact a3 y hy
theorem getB_enc {x:YT} (h:pokB x) (r:List Nat):rdB (encB x ++ r) = some (x,r):=by
 obtain⟨h1,h2,h3,h4,h5⟩:=h
 unfold rdB encB
 simp only [List.append_assoc]
 rw [num_put (by omega) h1]
 dsimp only
 rw [num_put (by omega) h2]
 dsimp only
 rw [num_put (by omega) h3]
 dsimp only
 rw [num_put (by omega) h4]
 dsimp only
 rw [getRs_enc (fun y hy =>(h5 y hy).2)]
 dsimp only
 rw [if_pos (show x.recs.all oneR = true from List.all_eq_true.2 fun y hy =>decide_eq_true (h5 y hy).1)]
theorem enc_getB {s:List Nat} {x:YT} {r:List Nat} (h8:∀c ∈ s,c < 256) (h:rdB s = some (x,r)):s = encB x ++ r∧pokB x:=by
 unfold rdB at h
 split at h
 ·cases h
 rename_i i s1 h1
 obtain⟨rfl,a1⟩:=WT h8 h1
 have g1:∀c ∈ s1,c < 256:=fun c hc =>h8 c (by simp [hc])
 split at h
 ·cases h
 rename_i t s2 h2
 obtain⟨rfl,a2⟩:=WT g1 h2
 have g2:∀c ∈ s2,c < 256:=fun c hc =>g1 c (by simp [hc])
 split at h
 ·cases h
 rename_i a s3 h3
 obtain⟨rfl,a3⟩:=WT g2 h3
 have g3:∀c ∈ s3,c < 256:=fun c hc =>g2 c (by simp [hc])
 split at h
 ·cases h
 rename_i n s4 h4
 obtain⟨rfl,a4⟩:=WT g3 h4
 have g4:∀c ∈ s4,c < 256:=fun c hc =>g3 c (by simp [hc])
 split at h
 ·cases h
 rename_i l s5 h5
 obtain⟨rfl,a5,a6⟩:=enc_getRs g4 h5
 split at h
 ·rename_i hall
  cases h
  refine⟨?_,a1,a2,a3,by dsimp only;omega,fun y hy =>⟨of_decide_eq_true (List.all_eq_true.1 hall y hy),a6 y hy⟩⟩
  unfold encB
  dsimp only
  rw [a5]
  simp
 ·cases h
theorem getBs_enc:∀{l:List YT},(∀y ∈ l,pokB y)→∀r,rdBs l.length (XE l ++ r) = some (l,r)
 | [],_,r =>rfl
 | x :: l,h,r =>by
  show rdBs (l.length + 1) _ = _
  rw [rdBs,XE,List.append_assoc,getB_enc (h x (by simp))]
  dsimp only
  rw [getBs_enc (fun y hy =>h y (by simp [hy]))]
theorem enc_getBs:∀{n:Nat} {s:List Nat} {l:List YT} {r:List Nat},(∀c ∈ s,c < 256)→rdBs n s = some (l,r)→s = XE l ++ r∧l.length = n∧∀y ∈ l,pokB y
 | 0,s,l,r,_,h =>by
  cases h
  exact⟨rfl,rfl,by simp⟩
 | n + 1,s,l,r,h8,h =>by
  unfold rdBs at h
  split at h
  ·cases h
  rename_i x s1 h1
  obtain⟨rfl,a1⟩:=enc_getB h8 h1
  split at h
  ·cases h
  rename_i l1 s2 h2
  cases h
  obtain⟨rfl,a2,a3⟩:=enc_getBs (fun c hc =>h8 c (by simp [hc])) h2
  refine⟨by rw [XE,List.append_assoc],by simp [a2],fun y hy =>?_⟩
  rcases List.mem_cons.1 hy with rfl | hy
  ·exact a1
  ·exact a3 y hy
theorem getL_enc {l:List YT} (h:pokL l) (r:List Nat):rdL (encL l ++ r) = some (l,r):=by
 unfold rdL encL
 rw [List.append_assoc,num_put (by omega) h.1]
 dsimp only
 exact getBs_enc h.2 r
theorem enc_getL {s:List Nat} {l:List YT} {r:List Nat} (h8:∀c ∈ s,c < 256) (h:rdL s = some (l,r)):s = encL l ++ r∧pokL l:=by
 unfold rdL at h
 split at h
 ·cases h
 rename_i n s1 h1
 obtain⟨rfl,a1⟩:=WT h8 h1
 obtain⟨rfl,a2,a3⟩:=enc_getBs (fun c hc =>h8 c (by simp [hc])) h
 refine⟨?_,by omega,a3⟩
 unfold encL
 rw [a2,List.append_assoc]
theorem dec_enc {l:List YT} (h:pokL l):XI (WB l) = some l:=by
 unfold XI WB
 rw [if_pos (by simp),List.drop_append_of_le_length (by simp)]
 have:=getL_enc h []
 rw [List.append_nil] at this
 rw [show List.drop 4 [84,66,65,84] ++ encL l = encL l from rfl,this]
theorem enc_dec {s:List Nat} {l:List YT} (h8:∀c ∈ s,c < 256) (h:XI s = some l):s = WB l∧pokL l:=by
 unfold XI at h
 split at h
 ·rename_i h4
  split at h
  ·rename_i l1 hg
   cases h
   obtain⟨a1,a2⟩:=enc_getL (fun c hc =>h8 c (List.mem_of_mem_drop hc)) hg
   rw [List.append_nil] at a1
   refine⟨?_,a2⟩
   unfold WB
   rw [← h4,← a1,List.take_append_drop]
  ·cases h
 ·cases h
theorem encR_byte {x:WI} (h:pokR' x) (h8:∀c ∈ x.data,c < 256):∀c ∈ encR x,c < 256:=by
 obtain⟨h2,h3,h4⟩:=h
 intro c hc
 unfold encR at hc
 simp only [List.mem_append] at hc
 rcases hc with hc | hc | hc | hc
 ·exact WA 9 _ (by omega) c hc
 ·exact WA 9 _ (by omega) c hc
 ·exact WA 9 _ (by omega) c hc
 ·exact h8 c hc
end Go.Fmt
end
section
namespace Go.Ev.C
open Go.Proofs Go.RowKit Go.Fmt
set_option maxRecDepth 100000
set_option linter.unusedSimpArgs false
variable {L:World→Prop} [Yu Q L]
/-- All blocks but one are left as they are. -/
structure Y2 (p:Nat) (H H':AH):Prop where
 next:H.next≤H'.next
 old:∀b,b < H.next→b ≠ p→H'.t.get b = H.t.get b
theorem Y2.refl (p:Nat) (H:AH):Y2 p H H:=⟨Nat.le_refl _,fun _ _ _ =>rfl⟩
theorem Y2.trans {p:Nat} {H H' H'':AH} (h:Y2 p H H') (h':Y2 p H' H''):Y2 p H H'' :=
 ⟨Nat.le_trans h.next h'.next,fun b hb hn =>by rw [h'.old b (Nat.lt_of_lt_of_le hb h.next) hn,h.old b hb hn]⟩
theorem Y2.of {p:Nat} {H H':AH} (u:Up H H'):Y2 p H H':=⟨u.next,fun b hb _ =>u.old b hb⟩
theorem Y2.put (p:Nat) (H:AH) (o:Option AB):Y2 p H ⟨H.t.put p o,H.next⟩ :=
 ⟨Nat.le_refl _,fun b _ hn =>by show (H.t.put _ _).get b = _;rw [Tri.gp,if_neg hn]⟩
theorem Y2.up {p:Nat} {H0 H H':AH} (u0:Up H0 H) (u:Y2 p H H') (hp:H0.next≤p):Up H0 H' :=
 ⟨Nat.le_trans u0.next u.next,fun b hb =>by rw [u.old b (Nat.lt_of_lt_of_le hb u0.next) (by omega),u0.old b hb]⟩
theorem Y2.cellsAt {p:Nat} {H H':AH} (u:Y2 p H H') {b:Nat} (hb:b < H.next) (hn:b ≠ p):H'.cellsAt b = H.cellsAt b:=by
 unfold AH.cellsAt
 rw [u.old b hb hn]
theorem Wv.upx {p:Nat} {H H':AH} (u:Y2 p H H') {v:AV} {r:List AV} (h:Wv H p v r):Wv H' p v r :=
 ⟨h.1,fun b' off m cap e hn =>by
  obtain⟨h1,c,hb,hc,hr⟩:=h.2 b' off m cap e hn
  exact⟨h1,c,Nat.lt_of_lt_of_le hb u.next,by rw [u.cellsAt hb h1];exact hc,hr⟩⟩
def Xw (s:List Nat):List AV:=s.map byteV
theorem YJ (s:List Nat):(Xw s).length = s.length:=by simp [Xw]
theorem X4 (s:List Nat):(Xw s).all Yn = true:=List.all_eq_true.2 fun v hv =>by obtain⟨x,_,rfl⟩:=List.mem_map.1 hv;rfl
theorem bsA_hole (s:List Nat):(Xw s).all ZO = true:=List.all_eq_true.2 fun v hv =>by obtain⟨x,_,rfl⟩:=List.mem_map.1 hv;rfl
/-- The capacity is known, or that of what append made. -/
def CapOk (v:AV):Prop:=∀b off n cap,v = .slice b off n cap→(∃c,cap = .is c∧n≤c) ∨ cap = .up 1 ∨ (cap = .lost∧n = 0)
/-- The bytes that are read, from a place on. -/
structure Rd (H:AH) (p:Nat) (bv:AV) (s:List Nat) (a:Nat):Prop where
 pos:H.t.get p = some (.cells 122 [bv,.int .i64 (a:Int)] 0 false false)
 lt:p < H.next
 data:Wv H p bv (Xw s)
 le:a≤s.length
 len:s.length≤100000000
 byte:∀c ∈ s,c < 256
 cap:CapOk bv
def Wk (H:AH) (p:Nat) (bv:AV) (a:Nat):AH:=⟨H.t.put p (some (.cells 122 [bv,.int .i64 (a:Int)] 0 false false)),H.next⟩
theorem setPos_cells (H:AH) (p:Nat) (bv:AV) (a:Nat):(Wk H p bv a).cellsAt p = some [bv,.int .i64 (a:Int)]:=by
 unfold Wk
 rw [ZK,if_pos rfl]
theorem WY (H:AH) (p:Nat) (bv:AV) (a:Nat):Y2 p H (Wk H p bv a):=Y2.put p H _
theorem Rd.set {H:AH} {p:Nat} {bv:AV} {s:List Nat} {a:Nat} (h:Rd H p bv s a) {a':Nat} (ha:a'≤s.length):Rd (Wk H p bv a') p bv s a' :=
 ⟨by unfold Wk;show (H.t.put _ _).get p = _;rw [Tri.gp,if_pos rfl],h.lt,h.data.upx (WY H p bv a'),ha,h.len,h.byte,h.cap⟩
theorem Rd.up {H H':AH} {p:Nat} {bv:AV} {s:List Nat} {a:Nat} (h:Rd H p bv s a) (u:Up H H'):Rd H' p bv s a :=
 ⟨by rw [u.old p h.lt];exact h.pos,Nat.lt_of_lt_of_le h.lt u.next,h.data.upx (Y2.of u),h.le,h.len,h.byte,h.cap⟩
theorem Rd.cells {H:AH} {p:Nat} {bv:AV} {s:List Nat} {a:Nat} (h:Rd H p bv s a):H.cellsAt p = some [bv,.int .i64 (a:Int)]:=by
 unfold AH.cellsAt
 rw [h.pos]
theorem Rd.sl {H:AH} {p:Nat} {bv:AV} {s:List Nat} {a:Nat} (h:Rd H p bv s a):SL bv s.length:=by
 have:=h.data.1
 rw [YJ] at this
 exact this
theorem Rd.at {H:AH} {p:Nat} {bv:AV} {s:List Nat} {a:Nat} (h:Rd H p bv s a) (hs:s ≠ []):∃b off cap c,bv = .slice b off s.length cap∧b ≠ p∧b < H.next∧H.cellsAt b = some c∧cut c off s.length = some (Xw s):=by
 have h1:=h.sl
 have h2:=h.data.2
 have hl:s.length ≠ 0:=fun e =>hs (List.length_eq_zero_iff.1 e)
 generalize hn:s.length = n at h1 hl
 cases h1 with
 | nil =>exact absurd rfl hl
 | sl b off n cap =>
  obtain⟨g1,c,g2,g3,g4,_⟩:=h2 b off _ cap rfl (by unfold Xw;simpa using hs)
  rw [YJ,hn] at g4
  exact⟨b,off,cap,c,rfl,g1,g2,g3,g4⟩
theorem cut_at {c:List AV} {s:List Nat} {off i:Nat} (h:cut c off s.length = some (Xw s)) (hi:i < s.length):c[off + i * 1]? = some (.int .u8 ((s[i]:Nat):Int)):=by
 obtain⟨_,hat⟩:=Yg.1 h
 obtain⟨v,a0,_,b0⟩:=hat i hi
 unfold Xw at b0
 rw [List.getElem?_map,List.getElem?_eq_getElem hi] at b0
 cases b0
 rw [Nat.mul_one]
 exact a0
theorem storePos {H:AH} {p:Nat} {bv:AV} {a:Nat} (hg:H.t.get p = some (.cells 122 [bv,.int .i64 (a:Int)] 0 false false)) (z:Nat):Zr Q 3 p 1 (.int .i64 (z:Int)) H = some (Wk H p bv z):=by
 unfold Zr
 rw [hg,sz3]
 rfl
theorem XF (t:Tri AV):buildP Q t 188 #[] = some (.agg []):=by kernel_rfl
/-- What a malformed text panics with. -/
def bad:AV:=.iface 188 (.agg [])
set_option maxHeartbeats 4000000 in
theorem next_p (H:AH) (p:Nat) (bv:AV) (s:List Nat) (hr:Rd H p bv s s.length):Pn Q L 132 [.ptr p 0] H (fun v H' =>v = bad∧H' = H):=by
 refine Pn.intro (en132 _) ?_
 have hs:=hr.sl
 have hpc:=hr.cells
 unfold c132 Tryz.f132
 simp only [Option.getD_some]
 have q1:decide ((s.length:Int)≤(s.length:Int)) = true:=by simp
 repeat (first|(apply Zh;exact rfl)|apply Zc|apply WO.nil|(apply Zl;exact rfl;simp only [rE,rS,li,lo,reduceIte,Nat.reduceEqDiff,Nat.reduceAdd,Nat.reduceMul,YF,YE,Za Zu,Za Zx,Za agg5,hpc,hs.one,hs.solid,Zf Zo hs];exact rfl;exact rfl))
 (apply Yw;kernel_rfl;kernel_rfl)
 (refine Zq ?_;(iterate 10 (first|(apply ZW.pure;kernel_rfl;kernel_rfl;(focus ((simp only [rQ,Zb,li,lo,reduceIte,Nat.reduceEqDiff,Nat.reduceAdd,beq_self_eq_true,q1];done)));simp only [rE,rS,li,lo,reduceIte,Nat.reduceEqDiff,Nat.reduceAdd,Nat.reduceMul,YF,YE,Za Zu,Za Zx,Za agg5,hpc,hs.one,hs.solid,Zf Zo hs,q1];exact rfl;exact rfl)|(apply ZW.load;kernel_rfl;kernel_rfl;(focus ((simp only [rQ,Zb,li,lo,reduceIte,Nat.reduceEqDiff,Nat.reduceAdd,beq_self_eq_true,q1];done)));simp only [rE,rS,li,lo,reduceIte,Nat.reduceEqDiff,Nat.reduceAdd,Nat.reduceMul,YF,YE,Za Zu,Za Zx,Za agg5,hpc,hs.one,hs.solid,Zf Zo hs,q1];exact rfl;exact rfl)));refine ZW.nil ?_)
 (apply ZY.all;kernel_rfl;kernel_rfl)
 (first|(apply WF.condT;(focus (simp only [Zg,Zd,Tri.gp,Zn,Bool.not_true,Bool.not_false,reduceIte,Nat.reduceEqDiff,q1];done)))|(apply WF.condF;(focus (simp only [Zg,Zd,Tri.gp,Zn,Bool.not_true,Bool.not_false,reduceIte,Nat.reduceEqDiff,q1];done))))
 repeat (first|(apply Zh;exact rfl)|apply Zc|apply WO.nil|(apply Zl;exact rfl;simp only [rE,rS,li,lo,reduceIte,Nat.reduceEqDiff,Nat.reduceAdd,Nat.reduceMul,XF];exact rfl;exact rfl))
 (apply WO.panic;(focus (simp only [rQ,Zb,li,lo,reduceIte,Nat.reduceEqDiff,Nat.reduceAdd,beq_self_eq_true];done));simp only [rE,rS,li,lo,reduceIte,Nat.reduceEqDiff,Nat.reduceAdd,Nat.reduceMul,XF,WG];exact rfl)
 exact⟨rfl,rfl⟩
set_option maxHeartbeats 4000000 in
theorem next_c (H:AH) (p:Nat) (bv:AV) (s:List Nat) (a:Nat) (hr:Rd H p bv s a) (ha:a < s.length):Fn Q L 132 [.ptr p 0] H (fun w H' =>w = .int .u8 ((s[a]:Nat):Int)∧H' = Wk H p bv (a + 1)):=by
 refine Fn.intro (en132 _) ?_
 have hs:=hr.sl
 have hpc:=hr.cells
 have hlen:=hr.len
 have hst:=storePos hr.pos (a + 1)
 obtain⟨b,off,cap,c,hbv,hbp,hb,hc,hcut⟩:=hr.at (by rintro rfl;simp at ha)
 have hpc2:=setPos_cells H p bv (a + 1)
 have hc2:(Wk H p bv (a + 1)).cellsAt b = some c:=by rw [(WY H p bv (a + 1)).cellsAt hb hbp];exact hc
 have hat:=cut_at hcut ha
 have q1:decide ((s.length:Int)≤(a:Int)) = false:=by simp;omega
 have w1:IntKind.i64.wrap ((a:Int) + 1) = ((a + 1:Nat):Int):=by rw [Go.Ev.w64 (by omega) (by omega)];omega
 have w2:IntKind.i64.wrap (((a + 1:Nat):Int) - 1) = (a:Int):=by rw [Go.Ev.w64 (by omega) (by omega)];omega
 unfold c132 Tryz.f132
 simp only [Option.getD_some]
 repeat (first|(apply Zh;exact rfl)|apply Zc|apply WO.nil|(apply Zl;exact rfl;simp only [rE,rS,li,lo,reduceIte,Nat.reduceEqDiff,Nat.reduceAdd,Nat.reduceMul,YF,YE,Za Zu,Za Zx,Za agg5,hpc,hs.one,hs.solid,Zf Zo hs];exact rfl;exact rfl))
 (apply Yw;kernel_rfl;kernel_rfl)
 (refine Zq ?_;(iterate 10 (first|(apply ZW.pure;kernel_rfl;kernel_rfl;(focus ((simp only [rQ,Zb,li,lo,reduceIte,Nat.reduceEqDiff,Nat.reduceAdd,beq_self_eq_true,q1];done)));simp only [rE,rS,li,lo,reduceIte,Nat.reduceEqDiff,Nat.reduceAdd,Nat.reduceMul,YF,YE,Za Zu,Za Zx,Za agg5,hpc,hs.one,hs.solid,Zf Zo hs,q1];exact rfl;exact rfl)|(apply ZW.load;kernel_rfl;kernel_rfl;(focus ((simp only [rQ,Zb,li,lo,reduceIte,Nat.reduceEqDiff,Nat.reduceAdd,beq_self_eq_true,q1];done)));simp only [rE,rS,li,lo,reduceIte,Nat.reduceEqDiff,Nat.reduceAdd,Nat.reduceMul,YF,YE,Za Zu,Za Zx,Za agg5,hpc,hs.one,hs.solid,Zf Zo hs,q1];exact rfl;exact rfl)));refine ZW.nil ?_)
 (apply ZY.all;kernel_rfl;kernel_rfl)
 (first|(apply WF.condT;(focus (simp only [Zg,Zd,Tri.gp,Zn,Bool.not_true,Bool.not_false,reduceIte,Nat.reduceEqDiff,q1];done)))|(apply WF.condF;(focus (simp only [Zg,Zd,Tri.gp,Zn,Bool.not_true,Bool.not_false,reduceIte,Nat.reduceEqDiff,q1];done))))
 repeat (first|(apply Zh;exact rfl)|apply Zc|apply WO.nil|(apply Zl;exact rfl;simp only [rE,rQ,li,lo,reduceIte,Nat.reduceEqDiff,Nat.reduceAdd,Nat.reduceMul,AH.set,YF,YE,Za Zu,Za Zx,Za agg5,hpc,hs.one,hs.solid,Zf Zo hs,w1,hst];exact rfl;exact rfl))
 (apply Yw;kernel_rfl;kernel_rfl)
 subst hbv
 (refine Zq ?_;(iterate 11 (first|(apply ZW.pure;kernel_rfl;kernel_rfl;(focus ((simp only [rQ,Zb,li,lo,reduceIte,Nat.reduceEqDiff,Nat.reduceAdd,beq_self_eq_true];done)));simp only [rE,rS,li,lo,reduceIte,Nat.reduceEqDiff,Nat.reduceAdd,Nat.reduceMul,YF,YE,Za Zu,Za Zx,Za agg5,hpc2,hs.one,hs.solid,w2,Zt Zo sz5 ha,hc2,hat];exact rfl;exact rfl)|(apply ZW.load;kernel_rfl;kernel_rfl;(focus ((simp only [rQ,Zb,li,lo,reduceIte,Nat.reduceEqDiff,Nat.reduceAdd,beq_self_eq_true];done)));simp only [rE,rS,li,lo,reduceIte,Nat.reduceEqDiff,Nat.reduceAdd,Nat.reduceMul,YF,YE,Za Zu,Za Zx,Za agg5,hpc2,hs.one,hs.solid,w2,Zt Zo sz5 ha,hc2,hat];exact rfl;exact rfl)));(iterate 1 (apply ZW.later;kernel_rfl));refine ZW.nil ?_)
 (apply ZY.eff (e:=11);kernel_rfl;simp only [li];exact rfl;(focus (simp only [rQ,Zb,li,lo,reduceIte,Nat.reduceEqDiff,Nat.reduceAdd,beq_self_eq_true];done));simp only [rE,rS,li,lo,reduceIte,Nat.reduceEqDiff,Nat.reduceAdd,Nat.reduceMul,YF,YE,Za Zu,Za Zx,Za agg5,hpc2,hs.one,hs.solid];exact rfl;exact rfl;(focus exact ZM (by kernel_rfl)))
 (refine Zq ?_;(iterate 12 (apply ZW.later;kernel_rfl));refine ZW.nil ?_)
 (apply ZY.all;kernel_rfl;kernel_rfl)
 repeat (first|(apply Zh;exact rfl)|apply Zc|apply WO.nil|(apply WO.op;(focus (simp only [rQ,Zb,li,lo,reduceIte,Nat.reduceEqDiff,Nat.reduceAdd,beq_self_eq_true,q1];done));simp only [rE,rS,li,lo,reduceIte,Nat.reduceEqDiff,Nat.reduceAdd,Nat.reduceMul,q1];exact rfl;exact rfl)|(apply WO.unwanted;(focus (simp only [rQ,Zb,li,lo,reduceIte,Nat.reduceEqDiff,Nat.reduceAdd,beq_self_eq_true,q1];done));exact rfl))
 (apply WF.ret;(focus (simp only [Zi,Tri.gp,Zn,ZL,reduceIte,Nat.reduceEqDiff,rs132];exact rfl)))
 exact⟨rfl,rfl⟩
end Go.Ev.C
end
section
namespace Go.Ev.C
open Go.Proofs Go.RowKit Go.Fmt
set_option maxRecDepth 100000
set_option linter.unusedSimpArgs false
variable {L:World→Prop} [Yu Q L]
theorem app35i (s x:AV) (H:AH):X8 Q [35,35] [s,x] H = (match YG 1 x H with | some (n,cs) =>Yq 5 1 s n cs H | none =>none):=by kernel_rfl
/-- Bytes in a block of their own, made since. -/
def FreshB (H H':AH) (w:AV) (l:List Nat):Prop:=(l = []∧w = .nilslice) ∨ (l ≠ []∧∃b,w = .slice b 0 l.length (.up 1)∧H.next≤b∧b < H'.next∧H'.t.get b = some (.cells 5 (Xw l) 0 false false))
theorem boundI {m d cap:Nat} (h:m≤cap):XV (some (.int .i64 (m:Int))) d cap = some m:=boundU_le h
theorem slice_read {H:AH} {p:Nat} {bv:AV} {s:List Nat} {a:Nat} (hr:Rd H p bv s a) {n:Nat} (hn:a + n≤s.length) :
  ∃x,YW Q 35 bv (some (.int .i64 (a:Int))) (some (.int .i64 ((a + n:Nat):Int))) none = some x∧((n = 0∧(x = .nilslice ∨ ∃b off cap,x = .slice b off 0 cap)) ∨ (n ≠ 0∧∃b off cap c,x = .slice b off n cap∧b ≠ p∧b < H.next∧H.cellsAt b = some c∧cut c off n = some (Xw ((s.drop a).take n)))):=by
 by_cases h0:s = []
 ·subst h0
  obtain rfl:n = 0:=by simp at hn;omega
  obtain rfl:a = 0:=by simp at hn;omega
  have h1:=hr.sl
  have hcap:=hr.cap
  generalize hz:([]:List Nat).length = z at h1
  cases h1 with
  | nil =>exact⟨.nilslice,by simp only [YW,Zo,sz5];rfl,.inl ⟨rfl,.inl rfl⟩⟩
  | sl b off n' cap =>
   subst hz
   rcases hcap b off 0 cap rfl with ⟨c,rfl,_⟩ | rfl | ⟨rfl,_⟩
   ·refine⟨.slice b (if Nat.beq c 0 then off else off + 0 * 1) (0 - 0) (.is (c - 0)),?_,.inl ⟨rfl,.inr ⟨b,_,_,rfl⟩⟩⟩
    simp only [YW,Zo,sz5,X2,Cap.sure]
    rw [boundI (m:=0 + 0) (cap:=c) (by omega)]
    dsimp only
    rw [boundI (m:=0) (cap:=0) (by omega)]
   ·refine⟨.slice b (off + 0 * 1) (0 - 0) (.up 1),?_,.inl ⟨rfl,.inr ⟨b,_,_,rfl⟩⟩⟩
    simp only [YW,Zo,sz5,X2,Cap.sure]
    rw [boundI (m:=0 + 0) (cap:=([]:List Nat).length) (by omega)]
    dsimp only
    rw [boundI (m:=0) (cap:=0) (by omega)]
    rfl
   ·refine⟨.slice b off 0 .lost,?_,.inl ⟨rfl,.inr ⟨b,_,_,rfl⟩⟩⟩
    simp only [YW,Zo,sz5,X2,Cap.sure]
    rw [boundI (m:=0 + 0) (cap:=([]:List Nat).length) (by omega)]
    dsimp only
    rw [boundI (m:=0) (cap:=0 + 0) (by omega)]
 ·obtain⟨b,off,cap,c,rfl,hbp,hb,hc,hcut⟩:=hr.at h0
  have hsub:n ≠ 0→cut c (off + a * 1) n = some (Xw ((s.drop a).take n)):=fun _ =>by
   obtain⟨_,hat⟩:=Yg.1 hcut
   refine Yg.2 ⟨by rw [YJ];simp;omega,fun j hj =>?_⟩
   obtain⟨v,a0,h0,b0⟩:=hat (a + j) (by omega)
   refine⟨v,by rw [show off + a * 1 + j = off + (a + j) from by omega];exact a0,h0,?_⟩
   unfold Xw at b0 ⊢
   rw [List.getElem?_map] at b0 ⊢
   rw [List.getElem?_take,if_pos hj,List.getElem?_drop]
   exact b0
  rcases hr.cap b off _ cap rfl with ⟨k,rfl,hk⟩ | rfl | ⟨_,hz⟩
  rotate_right
  ·exact absurd (List.length_eq_zero_iff.1 hz) h0
  ·refine⟨.slice b (if Nat.beq k a then off else off + a * 1) (a + n - a) (.is (k - a)),?_,?_⟩
   ·simp only [YW,Zo,sz5,X2,Cap.sure]
    rw [boundI (m:=a + n) (cap:=k) (by omega)]
    dsimp only
    rw [boundI (m:=a) (cap:=a + n) (by omega)]
   ·rw [show a + n - a = n from by omega]
    by_cases hn0:n = 0
    ·subst hn0
     exact .inl ⟨rfl,.inr ⟨_,_,_,rfl⟩⟩
    ·have hka:Nat.beq k a = false:=by
      rw [← Bool.not_eq_true,Nat.beq_eq]
      omega
     rw [hka]
     exact .inr ⟨hn0,b,off + a * 1,_,c,rfl,hbp,hb,hc,hsub hn0⟩
  ·by_cases hn0:n = 0
   ·subst hn0
    by_cases ha0:a = 0
    ·subst ha0
     refine⟨.slice b (off + 0 * 1) 0 (.up 1),?_,.inl ⟨rfl,.inr ⟨_,_,_,rfl⟩⟩⟩
     simp only [YW,Zo,sz5,X2,Cap.sure]
     rw [boundI (m:=0 + 0) (cap:=s.length) (by omega)]
     dsimp only
     rw [boundI (m:=0) (cap:=0 + 0) (by omega)]
     rfl
    ·refine⟨.slice b off 0 .lost,?_,.inl ⟨rfl,.inr ⟨_,_,_,rfl⟩⟩⟩
     simp only [YW,Zo,sz5,X2,Cap.sure]
     rw [boundI (m:=a + 0) (cap:=s.length) (by omega)]
     dsimp only
     rw [boundI (m:=a) (cap:=a + 0) (by omega)]
     have e1:Nat.beq 1 1 = true:=rfl
     have e2:Nat.beq (a + 0) a = true:=by rw [Nat.beq_eq];omega
     have e3:Nat.beq a 0 = false:=by rw [← Bool.not_eq_true,Nat.beq_eq];exact ha0
     simp only [e1,e2,e3]
     rfl
   ·refine⟨.slice b (off + a * 1) (a + n - a) (.up 1),?_,?_⟩
    ·simp only [YW,Zo,sz5,X2,Cap.sure]
     rw [boundI (m:=a + n) (cap:=s.length) (by omega)]
     dsimp only
     rw [boundI (m:=a) (cap:=a + n) (by omega)]
     have e1:Nat.beq 1 1 = true:=rfl
     have e2:Nat.beq (a + n) a = false:=by rw [← Bool.not_eq_true,Nat.beq_eq];omega
     simp only [e1,e2]
     rfl
    ·rw [show a + n - a = n from by omega]
     exact .inr ⟨hn0,b,off + a * 1,_,c,rfl,hbp,hb,hc,hsub hn0⟩
theorem take_app {H:AH} {p:Nat} {bv:AV} {s:List Nat} {a:Nat} (hr:Rd H p bv s a) {n:Nat} (hn:a + n≤s.length) :
  ∃x v H2,YW Q 35 bv (some (.int .i64 (a:Int))) (some (.int .i64 ((a + n:Nat):Int))) none = some x∧ZO x = true∧Yn x = true∧X8 Q [35,35] [.nilslice,x] (Wk H p bv (a + n)) = some (v,H2)∧Up (Wk H p bv (a + n)) H2∧FreshB H H2 v ((s.drop a).take n)∧Yn v = true∧ZO v = true:=by
 obtain⟨x,hx,hc⟩:=slice_read hr hn
 have hlen:=hr.len
 rcases hc with ⟨rfl,hx0⟩ | ⟨hn0,b,off,cap,c,rfl,hbp,hb,hcell,hcut⟩
 ·refine⟨x,.nilslice,Wk H p bv (a + 0),hx,?_,?_,?_,Up.refl _,.inl ⟨by simp,rfl⟩,rfl,rfl⟩
  ·rcases hx0 with rfl | ⟨_,_,_,rfl⟩ <;> rfl
  ·rcases hx0 with rfl | ⟨_,_,_,rfl⟩ <;> rfl
  ·rw [app35i]
   rcases hx0 with rfl | ⟨_,_,_,rfl⟩ <;> rfl
 ·have hc2:(Wk H p bv (a + n)).cellsAt b = some c:=by rw [(WY H p bv (a + n)).cellsAt hb hbp];exact hcell
  have hl:((s.drop a).take n).length = n:=by simp;omega
  refine⟨_,.slice H.next 0 n (.up 1),_,hx,rfl,rfl,?_,Up.box _ (some (.cells 5 (Xw ((s.drop a).take n)) 0 false false)),.inr ⟨?_,H.next,?_,Nat.le_refl _,Nat.lt_succ_self _,?_⟩,rfl,rfl⟩
  ·rw [app35i,Wd hn0 hc2 (by rw [Nat.mul_one];exact hcut)]
   dsimp only
   rw [appendTo_nil hn0 (by omega) (X4 _)]
   rfl
  ·intro e
   rw [e] at hl
   exact hn0 hl.symm
  ·rw [hl]
  ·show (Tri.put _ _ _).get _ = _
   rw [Tri.gp]
   exact if_pos rfl
set_option maxHeartbeats 4000000 in
theorem take_p (H:AH) (p:Nat) (bv:AV) (s:List Nat) (a n:Nat) (hr:Rd H p bv s a) (hn:s.length < a + n):Pn Q L 90 [.ptr p 0,.int .i64 (n:Int)] H (fun v H' =>v = bad∧H' = H):=by
 refine Pn.intro (en90 _ _) ?_
 have hs:=hr.sl
 have hpc:=hr.cells
 have hle:=hr.le
 have hlen:=hr.len
 unfold c90 Tryz.f90
 simp only [Option.getD_some]
 have w0:IntKind.i64.wrap ((s.length:Int) - (a:Int)) = ((s.length - a:Nat):Int):=by rw [Go.Ev.w64 (by omega) (by omega)];omega
 have q1:decide (((s.length - a:Nat):Int) < (n:Int)) = true:=by simp;omega
 repeat (first|(apply Zh;exact rfl)|apply Zc|apply WO.nil|(apply Zl;exact rfl;simp only [rE,rS,li,lo,reduceIte,Nat.reduceEqDiff,Nat.reduceAdd,Nat.reduceMul,YF,YE,Za Zu,Za Zx,Za agg5,hpc,hs.one,hs.solid,Zf Zo hs];exact rfl;exact rfl))
 (apply Yw;kernel_rfl;kernel_rfl)
 (refine Zq ?_;(iterate 12 (first|(apply ZW.pure;kernel_rfl;kernel_rfl;(focus ((simp only [rQ,Zb,li,lo,reduceIte,Nat.reduceEqDiff,Nat.reduceAdd,beq_self_eq_true,q1];done)));simp only [rE,rS,li,lo,reduceIte,Nat.reduceEqDiff,Nat.reduceAdd,Nat.reduceMul,YF,YE,Za Zu,Za Zx,Za agg5,hpc,hs.one,hs.solid,Zf Zo hs,w0,q1];exact rfl;exact rfl)|(apply ZW.load;kernel_rfl;kernel_rfl;(focus ((simp only [rQ,Zb,li,lo,reduceIte,Nat.reduceEqDiff,Nat.reduceAdd,beq_self_eq_true,q1];done)));simp only [rE,rS,li,lo,reduceIte,Nat.reduceEqDiff,Nat.reduceAdd,Nat.reduceMul,YF,YE,Za Zu,Za Zx,Za agg5,hpc,hs.one,hs.solid,Zf Zo hs,w0,q1];exact rfl;exact rfl)));refine ZW.nil ?_)
 (apply ZY.all;kernel_rfl;kernel_rfl)
 (first|(apply WF.condT;(focus (simp only [Zg,Zd,Tri.gp,Zn,Bool.not_true,Bool.not_false,reduceIte,Nat.reduceEqDiff,q1];done)))|(apply WF.condF;(focus (simp only [Zg,Zd,Tri.gp,Zn,Bool.not_true,Bool.not_false,reduceIte,Nat.reduceEqDiff,q1];done))))
 repeat (first|(apply Zh;exact rfl)|apply Zc|apply WO.nil|(apply Zl;exact rfl;simp only [rE,rS,li,lo,reduceIte,Nat.reduceEqDiff,Nat.reduceAdd,Nat.reduceMul,XF];exact rfl;exact rfl))
 (apply WO.panic;(focus (simp only [rQ,Zb,li,lo,reduceIte,Nat.reduceEqDiff,Nat.reduceAdd,beq_self_eq_true];done));simp only [rE,rS,li,lo,reduceIte,Nat.reduceEqDiff,Nat.reduceAdd,Nat.reduceMul,XF,WG];exact rfl)
 exact⟨rfl,rfl⟩
set_option maxHeartbeats 4000000 in
theorem take_c (H:AH) (p:Nat) (bv:AV) (s:List Nat) (a n:Nat) (hr:Rd H p bv s a) (hn:a + n≤s.length):Fn Q L 90 [.ptr p 0,.int .i64 (n:Int)] H (fun w H' =>FreshB H H' w ((s.drop a).take n)∧Rd H' p bv s (a + n)∧Y2 p H H'):=by
 refine Fn.intro (en90 _ _) ?_
 have hs:=hr.sl
 have hpc:=hr.cells
 have hlen:=hr.len
 have hst:=storePos hr.pos (a + n)
 have hpc2:=setPos_cells H p bv (a + n)
 obtain⟨x,v,H2,hsx,hx1,hx2,happ,hu,hfr,hv1,hv2⟩:=take_app hr hn
 have w0:IntKind.i64.wrap ((s.length:Int) - (a:Int)) = ((s.length - a:Nat):Int):=by rw [Go.Ev.w64 (by omega) (by omega)];omega
 have q1:decide (((s.length - a:Nat):Int) < (n:Int)) = false:=by simp;omega
 have w1:IntKind.i64.wrap ((a:Int) + (n:Int)) = ((a + n:Nat):Int):=by rw [Go.Ev.w64 (by omega) (by omega)];omega
 have w2:IntKind.i64.wrap (((a + n:Nat):Int) - (n:Int)) = (a:Int):=by rw [Go.Ev.w64 (by omega) (by omega)];omega
 unfold c90 Tryz.f90
 simp only [Option.getD_some]
 repeat (first|(apply Zh;exact rfl)|apply Zc|apply WO.nil|(apply Zl;exact rfl;simp only [rE,rS,li,lo,reduceIte,Nat.reduceEqDiff,Nat.reduceAdd,Nat.reduceMul,YF,YE,Za Zu,Za Zx,Za agg5,hpc,hs.one,hs.solid,Zf Zo hs];exact rfl;exact rfl))
 (apply Yw;kernel_rfl;kernel_rfl)
 (refine Zq ?_;(iterate 12 (first|(apply ZW.pure;kernel_rfl;kernel_rfl;(focus ((simp only [rQ,Zb,li,lo,reduceIte,Nat.reduceEqDiff,Nat.reduceAdd,beq_self_eq_true,q1];done)));simp only [rE,rS,li,lo,reduceIte,Nat.reduceEqDiff,Nat.reduceAdd,Nat.reduceMul,YF,YE,Za Zu,Za Zx,Za agg5,hpc,hs.one,hs.solid,Zf Zo hs,w0,q1];exact rfl;exact rfl)|(apply ZW.load;kernel_rfl;kernel_rfl;(focus ((simp only [rQ,Zb,li,lo,reduceIte,Nat.reduceEqDiff,Nat.reduceAdd,beq_self_eq_true,q1];done)));simp only [rE,rS,li,lo,reduceIte,Nat.reduceEqDiff,Nat.reduceAdd,Nat.reduceMul,YF,YE,Za Zu,Za Zx,Za agg5,hpc,hs.one,hs.solid,Zf Zo hs,w0,q1];exact rfl;exact rfl)));refine ZW.nil ?_)
 (apply ZY.all;kernel_rfl;kernel_rfl)
 (first|(apply WF.condT;(focus (simp only [Zg,Zd,Tri.gp,Zn,Bool.not_true,Bool.not_false,reduceIte,Nat.reduceEqDiff,q1];done)))|(apply WF.condF;(focus (simp only [Zg,Zd,Tri.gp,Zn,Bool.not_true,Bool.not_false,reduceIte,Nat.reduceEqDiff,q1];done))))
 repeat (first|(apply Zh;exact rfl)|apply Zc|apply WO.nil|(apply Zl;exact rfl;simp only [rE,rQ,li,lo,reduceIte,Nat.reduceEqDiff,Nat.reduceAdd,Nat.reduceMul,AH.set,YF,YE,Za Zu,Za Zx,Za agg5,hpc,hs.one,hs.solid,Zf Zo hs,w1,hst];exact rfl;exact rfl))
 (apply Yw;kernel_rfl;kernel_rfl)
 (refine Zq ?_;(iterate 15 (first|(apply ZW.pure;kernel_rfl;kernel_rfl;(focus ((simp only [rQ,Zb,li,lo,reduceIte,Nat.reduceEqDiff,Nat.reduceAdd,beq_self_eq_true];done)));simp only [rE,rS,li,lo,reduceIte,Nat.reduceEqDiff,Nat.reduceAdd,Nat.reduceMul,YF,YE,Za Zu,Za Zx,Za agg5,hpc2,hs.one,hs.solid,w2,hsx];exact rfl;exact rfl)|(apply ZW.load;kernel_rfl;kernel_rfl;(focus ((simp only [rQ,Zb,li,lo,reduceIte,Nat.reduceEqDiff,Nat.reduceAdd,beq_self_eq_true];done)));simp only [rE,rS,li,lo,reduceIte,Nat.reduceEqDiff,Nat.reduceAdd,Nat.reduceMul,YF,YE,Za Zu,Za Zx,Za agg5,hpc2,hs.one,hs.solid,w2,hsx];exact rfl;exact rfl)));(iterate 2 (apply ZW.later;kernel_rfl));refine ZW.nil ?_)
 (apply ZY.eff (e:=15);kernel_rfl;simp only [li];exact rfl;(focus (simp only [rQ,Zb,li,lo,reduceIte,Nat.reduceEqDiff,Nat.reduceAdd,beq_self_eq_true];done));simp only [rE,rS,li,lo,reduceIte,Nat.reduceEqDiff,Nat.reduceAdd,Nat.reduceMul,happ];exact rfl;exact rfl;(focus exact ZM (by kernel_rfl)))
 (refine Zq ?_;(iterate 17 (apply ZW.later;kernel_rfl));refine ZW.nil ?_)
 (apply ZY.eff (e:=16);kernel_rfl;simp only [li];exact rfl;(focus (simp only [rQ,Zb,li,lo,reduceIte,Nat.reduceEqDiff,Nat.reduceAdd,beq_self_eq_true];done));simp only [rE,rS,li,lo,reduceIte,Nat.reduceEqDiff,Nat.reduceAdd,Nat.reduceMul];exact rfl;exact rfl;(focus exact ZM (by kernel_rfl)))
 (refine Zq ?_;(iterate 17 (apply ZW.later;kernel_rfl));refine ZW.nil ?_)
 (apply ZY.all;kernel_rfl;kernel_rfl)
 repeat (first|(apply Zh;exact rfl)|apply Zc|apply WO.nil|(apply WO.op;(focus (simp only [rQ,Zb,li,lo,reduceIte,Nat.reduceEqDiff,Nat.reduceAdd,beq_self_eq_true,q1];done));simp only [rE,rS,li,lo,reduceIte,Nat.reduceEqDiff,Nat.reduceAdd,Nat.reduceMul,q1];exact rfl;exact rfl)|(apply WO.unwanted;(focus (simp only [rQ,Zb,li,lo,reduceIte,Nat.reduceEqDiff,Nat.reduceAdd,beq_self_eq_true,q1];done));exact rfl))
 (apply WF.ret;(focus (simp only [Zi,Tri.gp,Zn,ZL,reduceIte,Nat.reduceEqDiff,rs90];exact rfl)))
 exact⟨hfr,(hr.set (by omega)).up hu,(WY H p bv (a + n)).trans (Y2.of hu)⟩
end Go.Ev.C
end
section
namespace Go.Ev.C
open Go.Proofs Go.RowKit Go.Fmt
set_option maxRecDepth 100000
set_option linter.unusedSimpArgs false
variable {L:World→Prop} [Yu Q L]
/-- A part of a code. -/
def subC:List Nat→Code→Code
 | 0 :: p,.seq a _ =>subC p a
 | _ :: p,.seq _ b =>subC p b
 | _ :: p,.block _ c =>subC p c
 | _ :: p,.loop c =>subC p c
 | _,c =>c
theorem wr8 (x:Int):IntKind.u8.wrap x = x % 256:=by
 simp only [IntKind.wrap,IntKind.bits,IntKind.signed,Bool.false_and]
 rfl
theorem wr64 (x:Int):IntKind.u64.wrap x = x % 18446744073709551616:=by
 simp only [IntKind.wrap,IntKind.bits,IntKind.signed,Bool.false_and]
 rfl
theorem wr64n {n:Nat} (h:n < 18446744073709551616):IntKind.u64.wrap (n:Int) = (n:Int):=by
 rw [wr64]
 omega
theorem bin_andI {P:Program} (k:IntKind) (t:TypeId) (a b:Int):X6 P .and t (.int k a) (.int k b) = some (.int k (k.wrap (BitVec.ofInt k.bits a &&& BitVec.ofInt k.bits b).toNat)):=by simp [X6,intOp]
theorem bin_orI {P:Program} (k:IntKind) (t:TypeId) (a b:Int):X6 P .or t (.int k a) (.int k b) = some (.int k (k.wrap (BitVec.ofInt k.bits a ||| BitVec.ofInt k.bits b).toNat)):=by simp [X6,intOp]
theorem gOk_andI {P:Program} (t:TypeId) (x y:Operand) (a b:AV):YY P .and t x y a b = true:=rfl
theorem gOk_orI {P:Program} (t:TypeId) (x y:Operand) (a b:AV):YY P .or t x y a b = true:=rfl
theorem gOk_shlI {P:Program} (t:TypeId) (x y:Operand) (a b:AV):YY P .shl t x y a b = true:=rfl
theorem and127 {x:Nat} (h:x < 256):IntKind.u8.wrap ((BitVec.ofInt IntKind.u8.bits (x:Int) &&& BitVec.ofInt IntKind.u8.bits 127).toNat:Int) = ((x % 128:Nat):Int):=by
 have hb:IntKind.u8.bits = 8:=rfl
 have h1:(BitVec.ofInt IntKind.u8.bits (x:Int)).toNat = x:=by
  rw [hb,BitVec.toNat_ofInt]
  omega
 have h2:(BitVec.ofInt IntKind.u8.bits 127).toNat = 2 ^ 7 - 1:=rfl
 rw [BitVec.toNat_and,h1,h2,Nat.and_two_pow_sub_one_eq_mod,wr8]
 omega
theorem pow7 (i:Nat):128 ^ i = 2 ^ (7 * i):=by rw [Nat.pow_mul]
theorem mul7 {c i:Nat} (hc:c < 128) (hi:i≤8):c * 128 ^ i≤127 * 72057594037927936:=by
 have h1:128 ^ i≤128 ^ 8:=Nat.pow_le_pow_right (by omega) hi
 have h2:(128:Nat) ^ 8 = 72057594037927936:=by decide
 rw [h2] at h1
 exact Nat.mul_le_mul (by omega) h1
theorem or_add {u c i:Nat} (hu:u < 128 ^ i) (hc:c < 128) (hi:i≤8):IntKind.u64.wrap ((BitVec.ofInt IntKind.u64.bits (u:Int) ||| BitVec.ofInt IntKind.u64.bits ((c * 128 ^ i:Nat):Int)).toNat:Int) = ((u + c * 128 ^ i:Nat):Int):=by
 have hb:IntKind.u64.bits = 64:=rfl
 have h0:=mul7 hc hi
 have h1:128 ^ i≤128 ^ 8:=Nat.pow_le_pow_right (by omega) hi
 have h2:(128:Nat) ^ 8 = 72057594037927936:=by decide
 rw [h2] at h1
 have ho:u ||| c * 128 ^ i = u + c * 128 ^ i:=by
  have:=Nat.two_pow_add_eq_or_of_lt (b:=u) (i:=7 * i) (by rw [← pow7];exact hu) c
  rw [← pow7] at this
  rw [Nat.or_comm,Nat.mul_comm c,← this,Nat.add_comm]
 generalize c * 128 ^ i = m at *
 have e1:(BitVec.ofInt IntKind.u64.bits (u:Int)).toNat = u:=by
  rw [hb,BitVec.toNat_ofInt]
  omega
 have e2:(BitVec.ofInt IntKind.u64.bits (m:Int)).toNat = m:=by
  rw [hb,BitVec.toNat_ofInt]
  omega
 rw [BitVec.toNat_or,e1,e2,ho,wr64n (by omega)]
theorem shl7 {c i:Nat} (hc:c < 128) (hi:i≤8):X6 Q .shl 71 (.int .u64 (c:Int)) (.int .i64 ((7 * i:Nat):Int)) = some (.int .u64 ((c * 128 ^ i:Nat):Int)):=by
 have h0:=mul7 hc hi
 have h1:¬ (((7 * i:Nat):Int) < 0):=by omega
 have h2:min ((7 * i:Nat):Int).toNat IntKind.u64.bits = 7 * i:=by
  have:IntKind.u64.bits = 64:=rfl
  rw [this,Int.toNat_natCast]
  omega
 simp only [X6,h1,if_false,h2]
 rw [show (c:Int) * 2 ^ (7 * i) = ((c * 128 ^ i:Nat):Int) from by rw [pow7];simp,wr64n (by omega)]
set_option maxHeartbeats 8000000 in
theorem number_w (H:AH) (p:Nat) (bv:AV) (s:List Nat) (a most:Nat) (hr:Rd H p bv s a) (hm:most < 9223372036854775808) :
  WF Q L (PF 91 41 (Zn 0 [.agg [.ptr p 0],.int .u64 (most:Int)] .leaf) [.code c91]) H (YL Q 91 (Wz most (s.drop a)) (fun r w H' =>w = .int .i64 (r.1:Int)∧Y2 p H H'∧∃a',r.2 = s.drop a'∧Rd H' p bv s a') (fun w H' =>w = bad∧Y2 p H H')):=by
 have hlen:=hr.len
 unfold c91 Tryz.f91
 simp only [Option.getD_some]
 repeat (first | (apply Zh;exact rfl) | apply Zc | apply WO.nil | (apply Zl;exact rfl;simp only [rE,rS,li,lo,reduceIte,Nat.reduceEqDiff,Nat.reduceAdd,Nat.reduceMul];exact rfl;exact rfl))
 refine Ys (fun m t H' =>∃i u:Nat,i + m = 9∧Rd H' p bv s (a + i)∧Y2 p H H'∧H'.cellsAt H.next = some [.ptr p 0]∧H.next < H'.next∧u < 128 ^ i∧getN 9 0 (s.drop a) = (getN m i (s.drop (a + i))).map (fun q =>(u + 128 ^ i * q.1,q.2))∧t.get 1 = some (.int .u64 (most:Int))∧t.get 2 = some (.ptr H.next 0)∧t.get 5 = some (.int .u64 (u:Int))∧t.get 6 = some (.int .i64 ((7 * i:Nat):Int))) 9 ?_ ?_
 ·refine⟨0,0,by omega,hr.up (Up.box _ _),Y2.of (Up.box _ _),?_,Nat.lt_succ_self _,by decide,?_,?_,?_,?_,?_⟩
  ·rw [ZK,if_pos rfl]
  ·simp
  all_goals simp [Tri.gp,Zn]
 rintro m t H' ⟨i,u,him,hrd,hux,hcb,hbn,hu,hget,t1,t2,t5,t6⟩ ih
 have hle:=hrd.le
 by_cases hend:a + i < s.length
 rotate_left
 ·have hdr:s.drop (a + i) = []:=List.drop_of_length_le (by omega)
  have hnone:Wz most (s.drop a) = none:=by
   unfold Wz
   rw [hget,hdr]
   cases m <;> rfl
  rw [hnone]
  have hai:a + i = s.length:=by omega
  rw [hai] at hrd
  simp only [YL]
  repeat (first|(apply Zh;exact rfl)|apply Zc|apply WO.nil|(apply Zl;exact rfl;simp only [rE,rS,li,lo,reduceIte,Nat.reduceEqDiff,Nat.reduceAdd,Nat.reduceMul,Z4,Za ZB,hcb,t1,t2,t5,t6,cu132];exact rfl;exact rfl))
  (apply WO.callP;(focus (simp only [rQ,Zb,li,lo,reduceIte,Nat.reduceEqDiff,Nat.reduceAdd,beq_self_eq_true];done));simp only [rE,rS,li,lo,reduceIte,Nat.reduceEqDiff,Nat.reduceAdd,Nat.reduceMul,Z4,Za ZB,hcb,t1,t2,t5,t6,cu132];exact rfl;exact next_p _ p bv s hrd;rintro _ H2 ⟨rfl,rfl⟩)
  exact⟨rfl,hux⟩
 have hdr:s.drop (a + i) = s[a + i] :: s.drop (a + i + 1):=List.drop_eq_getElem_cons hend
 have hx8:=hrd.byte _ (List.getElem_mem hend)
 have hrd2:=hrd.set (a':=a + i + 1) (by omega)
 have hux2:=hux.trans (WY H' p bv (a + i + 1))
 have hnp:H.next ≠ p:=by have:=hr.lt;omega
 have hcb2:(Wk H' p bv (a + i + 1)).cellsAt H.next = some [.ptr p 0]:=by
  rw [(WY H' p bv (a + i + 1)).cellsAt hbn hnp]
  exact hcb
 repeat (first|(apply Zh;exact rfl)|apply Zc|apply WO.nil|(apply Zl;exact rfl;simp only [rE,rS,li,lo,reduceIte,Nat.reduceEqDiff,Nat.reduceAdd,Nat.reduceMul,Z4,Za ZB,hcb,t1,t2,t5,t6,cu132];exact rfl;exact rfl))
 (apply WO.call;(focus (simp only [rQ,Zb,li,lo,reduceIte,Nat.reduceEqDiff,Nat.reduceAdd,beq_self_eq_true];done));simp only [rE,rS,li,lo,reduceIte,Nat.reduceEqDiff,Nat.reduceAdd,Nat.reduceMul,Z4,Za ZB,hcb,t1,t2,t5,t6,cu132];exact rfl;exact next_c _ p bv s (a + i) hrd hend;rintro _ _ ⟨rfl,rfl⟩;refine⟨_,rfl,?_⟩)
 have hbn2:H.next < (Wk H' p bv (a + i + 1)).next:=hbn
 generalize Wk H' p bv (a + i + 1) = H2 at *
 rw [hdr] at hget
 generalize s[a + i] = x at *
 cases m with
 | zero =>
  have hnone:Wz most (s.drop a) = none:=by
   unfold Wz
   rw [hget]
   rfl
  rw [hnone]
  obtain rfl:i = 9:=by omega
  have q1:decide ((63:Int)≤((7 * 9:Nat):Int)) = true:=rfl
  simp only [YL]
  repeat (first|(apply Zh;exact rfl)|apply Zc|apply WO.nil|(apply WO.op;(focus (simp only [rQ,Zb,li,lo,reduceIte,Nat.reduceEqDiff,Nat.reduceAdd,beq_self_eq_true,q1];done));simp only [rE,rS,li,lo,reduceIte,Nat.reduceEqDiff,Nat.reduceAdd,Nat.reduceMul,t1,t2,t5,t6,q1];exact rfl;exact rfl)|(apply WO.unwanted;(focus (simp only [rQ,Zb,li,lo,reduceIte,Nat.reduceEqDiff,Nat.reduceAdd,beq_self_eq_true,q1];done));exact rfl))
  (first|(apply WF.condT;(focus (simp only [Zg,Zd,Tri.gp,Zn,Bool.not_true,Bool.not_false,reduceIte,Nat.reduceEqDiff,q1];done)))|(apply WF.condF;(focus (simp only [Zg,Zd,Tri.gp,Zn,Bool.not_true,Bool.not_false,reduceIte,Nat.reduceEqDiff,q1];done))))
  repeat (first|(apply Zh;exact rfl)|apply Zc|apply WO.nil|(apply Zl;exact rfl;simp only [rE,rS,li,lo,reduceIte,Nat.reduceEqDiff,Nat.reduceAdd,Nat.reduceMul,XF];exact rfl;exact rfl))
  (apply WO.panic;(focus (simp only [rQ,Zb,li,lo,reduceIte,Nat.reduceEqDiff,Nat.reduceAdd,beq_self_eq_true];done));simp only [rE,rS,li,lo,reduceIte,Nat.reduceEqDiff,Nat.reduceAdd,Nat.reduceMul,XF,WG];exact rfl)
  exact⟨rfl,hux2⟩
 | succ m =>
 have q1:decide ((63:Int)≤((7 * i:Nat):Int)) = false:=decide_eq_false (by omega)
 have w7:IntKind.i64.wrap (((7 * i:Nat):Int) + 7) = ((7 * (i + 1):Nat):Int):=by rw [Go.Ev.w64 (by omega) (by omega)];omega
 have ha7:=and127 hx8
 have hc7:x % 128 < 128:=Nat.mod_lt _ (by omega)
 have wz:IntKind.u64.wrap ((x % 128:Nat):Int) = ((x % 128:Nat):Int):=wr64n (by omega)
 have hsh:=shl7 hc7 (show i≤8 by omega)
 have hor:=or_add hu hc7 (show i≤8 by omega)
 have hm7:=mul7 hc7 (show i≤8 by omega)
 have hp8:128 ^ i≤72057594037927936:=by
  have h1:128 ^ i≤128 ^ 8:=Nat.pow_le_pow_right (by omega) (by omega)
  have h2:(128:Nat) ^ 8 = 72057594037927936:=by decide
  rw [h2] at h1
  exact h1
 by_cases hz:0 < i∧x = 0
 ·have hnone:Wz most (s.drop a) = none:=by
   unfold Wz
   rw [hget,getN,if_pos hz]
   rfl
  rw [hnone]
  obtain⟨hi0,rfl⟩:=hz
  have q2:decide (((0:Nat):Int) = 0) = true:=rfl
  have q3:decide ((0:Int) < ((7 * i:Nat):Int)) = true:=decide_eq_true (by omega)
  simp only [YL]
  repeat (first|(apply Zh;exact rfl)|apply Zc|apply WO.nil|(apply WO.op;(focus (simp only [rQ,Zb,li,lo,reduceIte,Nat.reduceEqDiff,Nat.reduceAdd,beq_self_eq_true,q1,q2,q3];done));simp only [rE,rS,li,lo,reduceIte,Nat.reduceEqDiff,Nat.reduceAdd,Nat.reduceMul,t1,t2,t5,t6,q1,q2,q3];exact rfl;exact rfl)|(apply WO.unwanted;(focus (simp only [rQ,Zb,li,lo,reduceIte,Nat.reduceEqDiff,Nat.reduceAdd,beq_self_eq_true,q1,q2,q3];done));exact rfl))
  (first|(apply WF.condT;(focus (simp only [Zg,Zd,Tri.gp,Zn,Bool.not_true,Bool.not_false,reduceIte,Nat.reduceEqDiff,q1];done)))|(apply WF.condF;(focus (simp only [Zg,Zd,Tri.gp,Zn,Bool.not_true,Bool.not_false,reduceIte,Nat.reduceEqDiff,q1];done))))
  repeat (first|(apply Zh;exact rfl)|apply Zc|apply WO.nil|(apply Zl;exact rfl;simp only [rE,rS,li,lo,reduceIte,Nat.reduceEqDiff,Nat.reduceAdd,Nat.reduceMul,XF];exact rfl;exact rfl))
  (apply WO.panic;(focus (simp only [rQ,Zb,li,lo,reduceIte,Nat.reduceEqDiff,Nat.reduceAdd,beq_self_eq_true];done));simp only [rE,rS,li,lo,reduceIte,Nat.reduceEqDiff,Nat.reduceAdd,Nat.reduceMul,XF,WG];exact rfl)
  exact⟨rfl,hux2⟩
 have hfin:x < 128→∀t':Tri AV,t'.get 1 = some (.int .u64 (most:Int))→t'.get 5 = some (.int .u64 ((u + x % 128 * 128 ^ i:Nat):Int)) →
   WF Q L (PF 91 41 t' [.code (subC [1,1,1] c91)]) H2 (YL Q 91 (Wz most (s.drop a)) (fun r w H' =>w = .int .i64 (r.1:Int)∧Y2 p H H'∧∃a',r.2 = s.drop a'∧Rd H' p bv s a') (fun w H' =>w = bad∧Y2 p H H')):=by
  intro hx t' e1 e5
  rw [getN,if_neg hz,if_pos hx] at hget
  have hv:u + 128 ^ i * x = u + x % 128 * 128 ^ i:=by rw [Nat.mod_eq_of_lt hx,Nat.mul_comm]
  simp only [Option.map_some,hv] at hget
  generalize u + x % 128 * 128 ^ i = v at *
  unfold c91 Tryz.f91
  simp only [Option.getD_some,subC]
  by_cases hvm:v≤most
  ·have hsome:Wz most (s.drop a) = some (v,s.drop (a + i + 1)):=by
    unfold Wz
    rw [hget]
    dsimp only
    rw [if_pos hvm]
   rw [hsome]
   have q5:decide ((most:Int) < (v:Int)) = false:=decide_eq_false (by omega)
   have wv:IntKind.i64.wrap (v:Int) = (v:Int):=Go.Ev.w64 (by omega) (by omega)
   simp only [YL]
   repeat (first|(apply Zh;exact rfl)|apply Zc|apply WO.nil|(apply WO.op;(focus (simp only [rQ,Zb,li,lo,reduceIte,Nat.reduceEqDiff,Nat.reduceAdd,beq_self_eq_true,e1,e5,q5];done));simp only [rE,rS,li,lo,reduceIte,Nat.reduceEqDiff,Nat.reduceAdd,Nat.reduceMul,e1,e5,q5];exact rfl;exact rfl)|(apply WO.unwanted;(focus (simp only [rQ,Zb,li,lo,reduceIte,Nat.reduceEqDiff,Nat.reduceAdd,beq_self_eq_true,e1,e5,q5];done));exact rfl))
   (first|(apply WF.condT;(focus (simp only [Zg,Zd,Tri.gp,Zn,Bool.not_true,Bool.not_false,reduceIte,Nat.reduceEqDiff,q5];done)))|(apply WF.condF;(focus (simp only [Zg,Zd,Tri.gp,Zn,Bool.not_true,Bool.not_false,reduceIte,Nat.reduceEqDiff,q5];done))))
   repeat (first|(apply Zh;exact rfl)|apply Zc|apply WO.nil|(apply WO.op;(focus (simp only [rQ,Zb,li,lo,reduceIte,Nat.reduceEqDiff,Nat.reduceAdd,beq_self_eq_true,e1,e5];done));simp only [rE,rS,li,lo,reduceIte,Nat.reduceEqDiff,Nat.reduceAdd,Nat.reduceMul,e1,e5,Y0,und71,und3,wv];exact rfl;exact rfl)|(apply WO.unwanted;(focus (simp only [rQ,Zb,li,lo,reduceIte,Nat.reduceEqDiff,Nat.reduceAdd,beq_self_eq_true,e1,e5];done));exact rfl))
   (apply WF.ret;(focus (simp only [Zi,Tri.gp,Zn,ZL,reduceIte,Nat.reduceEqDiff,rs91];exact rfl)))
   exact⟨rfl,hux2,a + i + 1,rfl,hrd2⟩
  ·have hnone:Wz most (s.drop a) = none:=by
    unfold Wz
    rw [hget]
    dsimp only
    rw [if_neg hvm]
   rw [hnone]
   have q5:decide ((most:Int) < (v:Int)) = true:=decide_eq_true (by omega)
   simp only [YL]
   repeat (first|(apply Zh;exact rfl)|apply Zc|apply WO.nil|(apply WO.op;(focus (simp only [rQ,Zb,li,lo,reduceIte,Nat.reduceEqDiff,Nat.reduceAdd,beq_self_eq_true,e1,e5,q5];done));simp only [rE,rS,li,lo,reduceIte,Nat.reduceEqDiff,Nat.reduceAdd,Nat.reduceMul,e1,e5,q5];exact rfl;exact rfl)|(apply WO.unwanted;(focus (simp only [rQ,Zb,li,lo,reduceIte,Nat.reduceEqDiff,Nat.reduceAdd,beq_self_eq_true,e1,e5,q5];done));exact rfl))
   (first|(apply WF.condT;(focus (simp only [Zg,Zd,Tri.gp,Zn,Bool.not_true,Bool.not_false,reduceIte,Nat.reduceEqDiff,q5];done)))|(apply WF.condF;(focus (simp only [Zg,Zd,Tri.gp,Zn,Bool.not_true,Bool.not_false,reduceIte,Nat.reduceEqDiff,q5];done))))
   repeat (first|(apply Zh;exact rfl)|apply Zc|apply WO.nil|(apply Zl;exact rfl;simp only [rE,rS,li,lo,reduceIte,Nat.reduceEqDiff,Nat.reduceAdd,Nat.reduceMul,XF];exact rfl;exact rfl))
   (apply WO.panic;(focus (simp only [rQ,Zb,li,lo,reduceIte,Nat.reduceEqDiff,Nat.reduceAdd,beq_self_eq_true];done));simp only [rE,rS,li,lo,reduceIte,Nat.reduceEqDiff,Nat.reduceAdd,Nat.reduceMul,XF,WG];exact rfl)
   exact⟨rfl,hux2⟩
 by_cases hx0:x = 0
 ·have hi0:i = 0:=by omega
  have q2:decide ((x:Int) = 0) = true:=decide_eq_true (by omega)
  have q3:decide ((0:Int) < ((7 * i:Nat):Int)) = false:=decide_eq_false (by omega)
  have q4:decide ((x:Int) < 128) = true:=decide_eq_true (by omega)
  repeat (first|(apply Zh;exact rfl)|apply Zc|apply WO.nil|(apply WO.op;(focus (simp only [rQ,Zb,li,lo,reduceIte,Nat.reduceEqDiff,Nat.reduceAdd,beq_self_eq_true,q1,q2,q3];done));simp only [rE,rS,li,lo,reduceIte,Nat.reduceEqDiff,Nat.reduceAdd,Nat.reduceMul,t1,t2,t5,t6,q1,q2,q3];exact rfl;exact rfl)|(apply WO.unwanted;(focus (simp only [rQ,Zb,li,lo,reduceIte,Nat.reduceEqDiff,Nat.reduceAdd,beq_self_eq_true,q1,q2,q3];done));exact rfl))
  (first|(apply WF.condT;(focus (simp only [Zg,Zd,Tri.gp,Zn,Bool.not_true,Bool.not_false,reduceIte,Nat.reduceEqDiff,q1];done)))|(apply WF.condF;(focus (simp only [Zg,Zd,Tri.gp,Zn,Bool.not_true,Bool.not_false,reduceIte,Nat.reduceEqDiff,q1];done))))
  repeat (first|(apply Zh;exact rfl)|apply Zc|apply WO.nil|(apply WO.op;(focus (simp only [rQ,Zb,li,lo,reduceIte,Nat.reduceEqDiff,Nat.reduceAdd,beq_self_eq_true,q4];done));simp only [rE,rS,li,lo,reduceIte,Nat.reduceEqDiff,Nat.reduceAdd,Nat.reduceMul,t1,t2,t5,t6,bin_andI,bin_orI,gOk_andI,gOk_orI,gOk_shlI,Y0,und5,und71,und3,ha7,wz,hsh,hor,w7,q4];exact rfl;exact rfl)|(apply WO.unwanted;(focus (simp only [rQ,Zb,li,lo,reduceIte,Nat.reduceEqDiff,Nat.reduceAdd,beq_self_eq_true,q4];done));exact rfl))
  (first|(apply WF.condT;(focus (simp only [Zg,Zd,Tri.gp,Zn,Bool.not_true,Bool.not_false,reduceIte,Nat.reduceEqDiff,q4];done)))|(apply WF.condF;(focus (simp only [Zg,Zd,Tri.gp,Zn,Bool.not_true,Bool.not_false,reduceIte,Nat.reduceEqDiff,q4];done))))
  apply WF.exit
  focus (exact rfl)
  exact hfin (by omega) _ (by simp [Tri.gp,t1]) (by simp [Tri.gp])
 have q2:decide ((x:Int) = 0) = false:=decide_eq_false (by omega)
 cases q4:decide ((x:Int) < 128)
 rotate_left
 ·have hx:x < 128:=by
   have:=of_decide_eq_true q4
   omega
  repeat (first|(apply Zh;exact rfl)|apply Zc|apply WO.nil|(apply WO.op;(focus (simp only [rQ,Zb,li,lo,reduceIte,Nat.reduceEqDiff,Nat.reduceAdd,beq_self_eq_true,q1,q2];done));simp only [rE,rS,li,lo,reduceIte,Nat.reduceEqDiff,Nat.reduceAdd,Nat.reduceMul,t1,t2,t5,t6,q1,q2];exact rfl;exact rfl)|(apply WO.unwanted;(focus (simp only [rQ,Zb,li,lo,reduceIte,Nat.reduceEqDiff,Nat.reduceAdd,beq_self_eq_true,q1,q2];done));exact rfl))
  (first|(apply WF.condT;(focus (simp only [Zg,Zd,Tri.gp,Zn,Bool.not_true,Bool.not_false,reduceIte,Nat.reduceEqDiff,q1];done)))|(apply WF.condF;(focus (simp only [Zg,Zd,Tri.gp,Zn,Bool.not_true,Bool.not_false,reduceIte,Nat.reduceEqDiff,q1];done))))
  repeat (first|(apply Zh;exact rfl)|apply Zc|apply WO.nil|(apply WO.op;(focus (simp only [rQ,Zb,li,lo,reduceIte,Nat.reduceEqDiff,Nat.reduceAdd,beq_self_eq_true,q4];done));simp only [rE,rS,li,lo,reduceIte,Nat.reduceEqDiff,Nat.reduceAdd,Nat.reduceMul,t1,t2,t5,t6,bin_andI,bin_orI,gOk_andI,gOk_orI,gOk_shlI,Y0,und5,und71,und3,ha7,wz,hsh,hor,w7,q4];exact rfl;exact rfl)|(apply WO.unwanted;(focus (simp only [rQ,Zb,li,lo,reduceIte,Nat.reduceEqDiff,Nat.reduceAdd,beq_self_eq_true,q4];done));exact rfl))
  (first|(apply WF.condT;(focus (simp only [Zg,Zd,Tri.gp,Zn,Bool.not_true,Bool.not_false,reduceIte,Nat.reduceEqDiff,q4];done)))|(apply WF.condF;(focus (simp only [Zg,Zd,Tri.gp,Zn,Bool.not_true,Bool.not_false,reduceIte,Nat.reduceEqDiff,q4];done))))
  apply WF.exit
  focus (exact rfl)
  exact hfin hx _ (by simp [Tri.gp,t1]) (by simp [Tri.gp])
 have hx:¬ x < 128:=by
  have:=of_decide_eq_false q4
  omega
 repeat (first|(apply Zh;exact rfl)|apply Zc|apply WO.nil|(apply WO.op;(focus (simp only [rQ,Zb,li,lo,reduceIte,Nat.reduceEqDiff,Nat.reduceAdd,beq_self_eq_true,q1,q2];done));simp only [rE,rS,li,lo,reduceIte,Nat.reduceEqDiff,Nat.reduceAdd,Nat.reduceMul,t1,t2,t5,t6,q1,q2];exact rfl;exact rfl)|(apply WO.unwanted;(focus (simp only [rQ,Zb,li,lo,reduceIte,Nat.reduceEqDiff,Nat.reduceAdd,beq_self_eq_true,q1,q2];done));exact rfl))
 (first|(apply WF.condT;(focus (simp only [Zg,Zd,Tri.gp,Zn,Bool.not_true,Bool.not_false,reduceIte,Nat.reduceEqDiff,q1];done)))|(apply WF.condF;(focus (simp only [Zg,Zd,Tri.gp,Zn,Bool.not_true,Bool.not_false,reduceIte,Nat.reduceEqDiff,q1];done))))
 repeat (first|(apply Zh;exact rfl)|apply Zc|apply WO.nil|(apply WO.op;(focus (simp only [rQ,Zb,li,lo,reduceIte,Nat.reduceEqDiff,Nat.reduceAdd,beq_self_eq_true,q4];done));simp only [rE,rS,li,lo,reduceIte,Nat.reduceEqDiff,Nat.reduceAdd,Nat.reduceMul,t1,t2,t5,t6,bin_andI,bin_orI,gOk_andI,gOk_orI,gOk_shlI,Y0,und5,und71,und3,ha7,wz,hsh,hor,w7,q4];exact rfl;exact rfl)|(apply WO.unwanted;(focus (simp only [rQ,Zb,li,lo,reduceIte,Nat.reduceEqDiff,Nat.reduceAdd,beq_self_eq_true,q4];done));exact rfl))
 (first|(apply WF.condT;(focus (simp only [Zg,Zd,Tri.gp,Zn,Bool.not_true,Bool.not_false,reduceIte,Nat.reduceEqDiff,q4];done)))|(apply WF.condF;(focus (simp only [Zg,Zd,Tri.gp,Zn,Bool.not_true,Bool.not_false,reduceIte,Nat.reduceEqDiff,q4];done))))
 repeat (first|(apply Zh;exact rfl)|apply Zc|apply WO.nil|(apply Zl;exact rfl;simp only [rE,rS,li,lo,reduceIte,Nat.reduceEqDiff,Nat.reduceAdd,Nat.reduceMul,t1,t2,t5,t6,bin_andI,bin_orI,gOk_andI,gOk_orI,gOk_shlI,Y0,und5,und71,und3,ha7,wz,hsh,hor,w7];exact rfl;exact rfl))
 refine Yt ?_
 refine ih m _ _ (by omega) ⟨i + 1,u + x % 128 * 128 ^ i,by omega,by rw [← Nat.add_assoc];exact hrd2,hux2,hcb2,hbn2,?_,?_,?_,?_,?_,?_⟩
 ·have hps:128 ^ (i + 1) = 128 ^ i * 128:=Nat.pow_succ ..
  have:x % 128 * 128 ^ i≤127 * 128 ^ i:=Nat.mul_le_mul_right _ (by omega)
  omega
 ·rw [hget,getN,if_neg hz,if_neg hx,Option.map_map]
  congr 1
  funext q
  have e:u + 128 ^ i * (x - 128 + 128 * q.1) = u + x % 128 * 128 ^ i + 128 ^ (i + 1) * q.1:=by
   have hxm:x - 128 = x % 128:=by omega
   rw [hxm,Nat.pow_succ,Nat.mul_add,Nat.mul_comm (x % 128),Nat.mul_assoc,Nat.add_assoc]
  show (u + 128 ^ i * (x - 128 + 128 * q.1),q.2) = _
  rw [e]
 all_goals simp [Tri.gp,t1,t2]
theorem number_c (H:AH) (p:Nat) (bv:AV) (s:List Nat) (a most:Nat) (hr:Rd H p bv s a) (hm:most < 9223372036854775808) {v:Nat} {r:List Nat} (h:Wz most (s.drop a) = some (v,r)) :
  Fn Q L 91 [.agg [.ptr p 0],.int .u64 (most:Int)] H (fun w H' =>w = .int .i64 (v:Int)∧Y2 p H H'∧∃a',r = s.drop a'∧Rd H' p bv s a') :=
 YL.fn h (en91 _ _) (number_w H p bv s a most hr hm)
theorem number_p (H:AH) (p:Nat) (bv:AV) (s:List Nat) (a most:Nat) (hr:Rd H p bv s a) (hm:most < 9223372036854775808) (h:Wz most (s.drop a) = none) :
  Pn Q L 91 [.agg [.ptr p 0],.int .u64 (most:Int)] H (fun w H' =>w = bad∧Y2 p H H') :=
 YL.pn h (en91 _ _) (number_w H p bv s a most hr hm)
end Go.Ev.C
end
section
namespace Go.Ev.C
open Go.Proofs Go.RowKit Go.Fmt
set_option maxRecDepth 100000
set_option linter.unusedSimpArgs false
variable {L:World→Prop} [Yu Q L]
/-- Bytes that may be appended to. -/
def X9 (H0 H:AH) (v:AV) (s:List Nat):Prop:=(s = []∧v = .nilslice) ∨ (s ≠ []∧∃b cap,v = .slice b 0 s.length cap∧(cap = .up 1 ∨ cap = .is s.length)∧H0.next≤b∧b < H.next∧H.t.get b = some (.cells 5 (Xw s) 0 false false))
theorem X9.sl {H0 H:AH} {v:AV} {s:List Nat} (h:X9 H0 H v s):SL v s.length:=by
 rcases h with ⟨rfl,rfl⟩ | ⟨_,b,cap,rfl,_⟩
 ·exact .nil
 ·exact .sl _ _ _ _
theorem X9.up {H0 H H':AH} {v:AV} {s:List Nat} (h:X9 H0 H v s) (u:Up H H'):X9 H0 H' v s:=by
 rcases h with h | ⟨h0,b,cap,h1,hc,h2,h3,h4⟩
 ·exact .inl h
 ·exact .inr ⟨h0,b,cap,h1,hc,h2,Nat.lt_of_lt_of_le h3 u.next,by rw [u.old b h3];exact h4⟩
def Xi:AV→Option Nat
 | .slice b _ _ _ =>some b
 | _ =>none
/-- All blocks but a slice's are left as they are. -/
structure UpB (v:AV) (H H':AH):Prop where
 next:H.next≤H'.next
 old:∀b,b < H.next→Xi v ≠ some b→H'.t.get b = H.t.get b
theorem UpB.of {v:AV} {H H':AH} (u:Up H H'):UpB v H H':=⟨u.next,fun b hb _ =>u.old b hb⟩
theorem UpB.trans {v v1:AV} {H H1 H2:AH} (h1:UpB v H H1) (hv:∀b,Xi v1 = some b→H.next≤b ∨ Xi v = some b) (h2:UpB v1 H1 H2):UpB v H H2 :=
 ⟨Nat.le_trans h1.next h2.next,fun b hb hn =>by
  rw [h2.old b (Nat.lt_of_lt_of_le hb h1.next) fun e =>(hv b e).elim (fun h =>by omega) hn,h1.old b hb hn]⟩
theorem UpB.cellsAt {v:AV} {H H':AH} (u:UpB v H H') {b:Nat} (hb:b < H.next) (hn:Xi v ≠ some b):H'.cellsAt b = H.cellsAt b:=by
 unfold AH.cellsAt
 rw [u.old b hb hn]
theorem bsA_append (s u:List Nat):Xw (s ++ u) = Xw s ++ Xw u:=by simp [Xw]
/-- Bytes that are appended, whatever they were read of. -/
theorem X9.more {H0 H:AH} {v:AV} {s:List Nat} (h:X9 H0 H v s) (hu:Up H0 H) (u:List Nat) (hu0:u ≠ []) (hn:s.length + u.length≤274877906944) :
  ∃v' H',Yq 5 1 v u.length (Xw u) H = some (v',H')∧X9 H0 H' v' (s ++ u)∧Up H0 H'∧UpB v H H'∧∀b,Xi v' = some b→H.next≤b:=by
 have hul:u.length ≠ 0:=fun e =>hu0 (List.length_eq_zero_iff.1 e)
 have h0:=hu.next
 rcases h with ⟨rfl,rfl⟩ | ⟨hne,b,cap,rfl,hcap,hb0,hb,hg⟩
 ·rw [appendTo_nil hul (by simpa using hn) (X4 u)]
  refine⟨_,_,rfl,.inr ⟨by simpa using hu0,H.next,.up 1,by simp,.inl rfl,h0,Nat.lt_succ_self _,?_⟩,hu.trans (Up.box _ _),UpB.of (Up.box _ _),fun b e =>by cases e;exact Nat.le_refl _⟩
  show (Tri.put _ _ _).get _ = _
  rw [Tri.gp,if_pos rfl]
  rfl
 ·have hcut:cut (Xw s) 0 (s.length * 1) = some (Xw s):=YN (by rw [YJ,Nat.mul_one]) (bsA_hole s)
  have hsu:s ++ u ≠ []:=by simp [hne]
  rcases hcap with rfl | rfl
  ·rw [appendTo_up hg hcut hul hn (X4 s) (X4 u)]
   refine⟨_,_,rfl,.inr ⟨hsu,H.next,.up 1,by simp,.inl rfl,h0,Nat.lt_succ_self _,?_⟩,⟨by show H0.next≤H.next + 1;omega,fun b' hb' =>?_⟩,⟨Nat.le_succ _,fun b' hb' hn' =>?_⟩,fun b e =>by cases e;exact Nat.le_refl _⟩
   ·show (Tri.put _ _ _).get _ = _
    rw [Tri.gp,if_pos rfl,bsA_append]
   ·show ((Tri.put _ _ _).put H.next _).get _ = _
    rw [Tri.gp,if_neg (by omega),Tri.gp,if_neg (by omega)]
    exact hu.old b' hb'
   ·have hbb:b' ≠ b:=fun e =>hn' (by rw [e];rfl)
    show ((Tri.put _ _ _).put H.next _).get _ = _
    rw [Tri.gp,if_neg (by omega),Tri.gp,if_neg hbb]
  ·have hc:H.cellsAt b = some (Xw s):=by
    unfold AH.cellsAt
    rw [hg]
   have hnew:AH.new H (.cells 5 (Xw s ++ Xw u) 0 false false) = some ⟨H.t.put H.next (some (.cells 5 (Xw s ++ Xw u) 0 false false)),H.next + 1⟩:=AH.new_one (by show (Xw s ++ Xw u).all Yn = true;rw [List.all_append,X4,X4];rfl)
   have hle:Nat.ble (s.length + u.length) 274877906944 = true:=by rw [Nat.ble_eq];exact hn
   have hno:Nat.ble (s.length + u.length) s.length = false:=by
    rw [← Bool.not_eq_true,Nat.ble_eq]
    omega
   have happ:Yq 5 1 (.slice b 0 s.length (.is s.length)) u.length (Xw u) H = some (.slice H.next 0 (s.length + u.length) (.up 1),⟨H.t.put H.next (some (.cells 5 (Xw s ++ Xw u) 0 false false)),H.next + 1⟩):=by
    simp only [Yq,hle,hno,appendGrow,hc,hcut,hnew,if_true,Bool.false_eq_true,if_false]
   rw [happ]
   refine⟨_,_,rfl,.inr ⟨hsu,H.next,.up 1,by simp,.inl rfl,h0,Nat.lt_succ_self _,?_⟩,hu.trans (Up.box _ _),UpB.of (Up.box _ _),fun b e =>by cases e;exact Nat.le_refl _⟩
   show (Tri.put _ _ _).get _ = _
   rw [Tri.gp,if_pos rfl,bsA_append]
/-- One byte that is appended. -/
theorem X9.push {H0 H:AH} {v:AV} {s:List Nat} (h:X9 H0 H v s) (hu:Up H0 H) (x:Nat) (hn:s.length + 1≤274877906944) :
  ∃v' H',X8 Q [35,35] [v,.slice H.next 0 1 (.is 1)] ⟨H.t.put H.next (some (.cells 5 [.int .u8 (x:Int)] 0 false false)),H.next + 1⟩ = some (v',H')∧X9 H0 H' v' (s ++ [x])∧Up H0 H'∧UpB v H H'∧∀b,Xi v' = some b→H.next≤b:=by
 have hcell:AH.cellsAt ⟨H.t.put H.next (some (.cells 5 [.int .u8 (x:Int)] 0 false false)),H.next + 1⟩ H.next = some (Xw [x]):=by rw [ZK,if_pos rfl];rfl
 have hnew:YG 1 (.slice H.next 0 1 (.is 1)) ⟨H.t.put H.next (some (.cells 5 [.int .u8 (x:Int)] 0 false false)),H.next + 1⟩ = some (1,Xw [x]):=Wd (by omega) hcell (YN rfl rfl)
 rw [app35i,hnew]
 obtain⟨v',H',h1,h2,h3,h4,h5⟩:=(h.up (Up.box H (some (.cells 5 [.int .u8 (x:Int)] 0 false false)))).more (hu.trans (Up.box _ _)) [x] (by simp) hn
 exact⟨v',H',h1,h2,h3,(UpB.of (Up.box H _)).trans (fun b e =>.inr e) h4,fun b e =>Nat.le_trans (Nat.le_succ _) (h5 b e)⟩
def mkY (a:Option AV):Option New:=match a with
 | some a =>(match fillU (fun i =>some (i * 1,1)) [.int .u8 0] [(0,a)] with
  | some c =>some (.cells 5 c 0 false false,fun b =>.slice b 0 1 (.is 1))
  | none =>none)
 | _ =>none
theorem zero5i:Wi Q 5 = some (.int .u8 0):=by kernel_rfl
theorem bs35y (t:Tri AV) (k:Nat):Yk Q t 35 1 #[(0,.tmp k)] = mkY (t.get k):=by
 cases ha:t.get k with
 | none =>simp [Yk,Zo,Zs,Zg,ha,mkY]
 | some a =>
  simp [Yk,Zo,sz5,zero5i,Zs,Zg,ha,mkY,AV.cells]
  cases fillU (fun i =>some (i,1)) [AV.int .u8 0] [(0,a)] <;> rfl
theorem WU (x:Int):mkY (some (.int .u8 x)) = some (.cells 5 [.int .u8 x] 0 false false,fun b =>.slice b 0 1 (.is 1)):=rfl
theorem or128 {n:Nat} (h:n < 18446744073709551616):IntKind.u8.wrap ((BitVec.ofInt IntKind.u8.bits (IntKind.u8.wrap (n:Int)) ||| BitVec.ofInt IntKind.u8.bits 128).toNat:Int) = ((n % 128 + 128:Nat):Int):=by
 have e:IntKind.u8.wrap (n:Int) = ((n % 256:Nat):Int):=by rw [wr8];omega
 rw [e]
 have hk:∀k:Fin 256,(BitVec.ofInt 8 ((k.val:Nat):Int) ||| BitVec.ofInt 8 128).toNat = k.val % 128 + 128:=by decide
 have:=hk ⟨n % 256,Nat.mod_lt _ (by omega)⟩
 have hb:IntKind.u8.bits = 8:=rfl
 rw [hb,this,wr8]
 dsimp only
 omega
theorem shr_7 (u:Nat):X6 Q .shr 71 (.int .u64 (u:Int)) (.int .u64 7) = some (.int .u64 ((u / 128:Nat):Int)):=by
 have h1:¬ ((7:Int) < 0):=by omega
 have h2:min (7:Int).toNat IntKind.u64.bits = 7:=rfl
 simp only [X6,h1,if_false,h2]
 rw [show (2 ^ 7:Int) = ((128:Nat):Int) from rfl,← Int.ofNat_fdiv]
theorem gOk_shrI {P:Program} (t:TypeId) (x y:Operand) (a b:AV):YY P .shr t x y a b = true:=rfl
set_option maxHeartbeats 4000000 in
theorem put_c (H0 H:AH) (hu0:Up H0 H) (v:AV) (s:List Nat) (n:Nat) (ho:X9 H0 H v s) (hn:n < 9223372036854775808) (hs:s.length≤200000000000):Fn Q L 50 [v,.int .i64 (n:Int)] H (fun w H' =>X9 H0 H' w (s ++ Xp n)∧Up H0 H'∧UpB v H H'∧∀b,Xi w = some b→H.next≤b):=by
 refine Fn.intro (en50 _ _) ?_
 have hpl:=Yj 9 n (by omega)
 have wz:IntKind.u64.wrap (n:Int) = (n:Int):=wr64n (by omega)
 unfold c50 Tryz.f50
 simp only [Option.getD_some]
 repeat (first|(apply Zh;exact rfl)|apply Zc|apply WO.nil|(apply Zl;exact rfl;simp only [rE,rS,li,lo,reduceIte,Nat.reduceEqDiff,Nat.reduceAdd,Nat.reduceMul,Y0,und3,und71,wz];exact rfl;exact rfl))
 refine Ys (fun m t H' =>∃(u:Nat) (v':AV) (x:List Nat),u = m∧Up H0 H'∧X9 H0 H' v' x∧UpB v H H'∧(∀b,Xi v' = some b→H.next≤b ∨ Xi v = some b)∧s ++ Xp n = x ++ Xp u∧u≤n∧t.get 0 = some v'∧t.get 5 = some (.int .u64 (u:Int))) n ?_ ?_
 ·refine⟨n,v,s,rfl,hu0,ho,UpB.of (Up.refl _),fun b e =>.inr e,rfl,Nat.le_refl _,?_,?_⟩
  all_goals simp [Tri.gp,Zn]
 rintro m t H' ⟨u,v',x,rfl,hu,ho',hub,hbl,hsx,hun,t0,t5⟩ ih
 have hone:=ho'.sl.one
 have hsol:=ho'.sl.solid
 have hxl:=congrArg List.length hsx
 simp only [List.length_append] at hxl
 by_cases hg:128≤u
 ·have q1:decide ((128:Int)≤(u:Int)) = true:=decide_eq_true (by omega)
  have h128:=or128 (n:=u) (by omega)
  have hpu:=lebN_ge hg
  have hps:(Xp u).length = (Xp (u / 128)).length + 1:=by rw [hpu];simp
  obtain⟨w,H2,happ,hw,hu2,hub2,hnw⟩:=ho'.push hu (u % 128 + 128) (by omega)
  repeat (first|(apply Zh;exact rfl)|apply Zc|apply WO.nil|(apply WO.op;(focus (simp only [rQ,Zb,li,lo,reduceIte,Nat.reduceEqDiff,Nat.reduceAdd,beq_self_eq_true,q1];done));simp only [rE,rS,li,lo,reduceIte,Nat.reduceEqDiff,Nat.reduceAdd,Nat.reduceMul,hone,hsol,t0,t5,Y0,und71,und5,bin_orI,gOk_orI,gOk_shrI,shr_7,bs35y,WU,q1];exact rfl;exact rfl)|(apply WO.unwanted;(focus (simp only [rQ,Zb,li,lo,reduceIte,Nat.reduceEqDiff,Nat.reduceAdd,beq_self_eq_true,q1];done));exact rfl))
  (first|(apply WF.condT;(focus (simp only [Zg,Zd,Tri.gp,Zn,Bool.not_true,Bool.not_false,reduceIte,Nat.reduceEqDiff,q1];done)))|(apply WF.condF;(focus (simp only [Zg,Zd,Tri.gp,Zn,Bool.not_true,Bool.not_false,reduceIte,Nat.reduceEqDiff,q1];done))))
  repeat (first|(apply Zh;exact rfl)|apply Zc|apply WO.nil|(apply Zl;exact rfl;simp only [rE,rS,li,lo,reduceIte,Nat.reduceEqDiff,Nat.reduceAdd,Nat.reduceMul,hone,hsol,t0,t5,Y0,und71,und5,bin_orI,gOk_orI,gOk_shrI,shr_7,bs35y,WU,h128,happ];exact rfl;exact rfl))
  refine Yt ?_
  refine ih (u / 128) _ _ (by omega) ⟨u / 128,w,x ++ [u % 128 + 128],rfl,hu2,hw,hub.trans hbl hub2,fun b e =>.inl (Nat.le_trans hub.next (hnw b e)),?_,by omega,?_,?_⟩
  ·rw [hsx,hpu]
   simp
  all_goals simp [Tri.gp]
 ·have q1:decide ((128:Int)≤(u:Int)) = false:=decide_eq_false (by omega)
  have wlast:IntKind.u8.wrap (u:Int) = (u:Int):=by rw [wr8];omega
  have hpu:=lebN_lt (n:=u) (by omega)
  obtain⟨w,H2,happ,hw,hu2,hub2,hnw⟩:=ho'.push hu u (by omega)
  repeat (first|(apply Zh;exact rfl)|apply Zc|apply WO.nil|(apply WO.op;(focus (simp only [rQ,Zb,li,lo,reduceIte,Nat.reduceEqDiff,Nat.reduceAdd,beq_self_eq_true,q1];done));simp only [rE,rS,li,lo,reduceIte,Nat.reduceEqDiff,Nat.reduceAdd,Nat.reduceMul,hone,hsol,t0,t5,Y0,und71,und5,bin_orI,gOk_orI,gOk_shrI,shr_7,bs35y,WU,q1];exact rfl;exact rfl)|(apply WO.unwanted;(focus (simp only [rQ,Zb,li,lo,reduceIte,Nat.reduceEqDiff,Nat.reduceAdd,beq_self_eq_true,q1];done));exact rfl))
  (first|(apply WF.condT;(focus (simp only [Zg,Zd,Tri.gp,Zn,Bool.not_true,Bool.not_false,reduceIte,Nat.reduceEqDiff,q1];done)))|(apply WF.condF;(focus (simp only [Zg,Zd,Tri.gp,Zn,Bool.not_true,Bool.not_false,reduceIte,Nat.reduceEqDiff,q1];done))))
  repeat (first|(apply Zh;exact rfl)|apply Zc|apply WO.nil|(apply Zl;exact rfl;simp only [rE,rS,li,lo,reduceIte,Nat.reduceEqDiff,Nat.reduceAdd,Nat.reduceMul,t0,t5,Y0,und71,und5,wlast,bs35y,WU,hone,hsol,happ];exact rfl;exact rfl))
  (apply WF.ret;(focus (simp only [Zi,Tri.gp,Zn,ZL,reduceIte,Nat.reduceEqDiff,rs50];exact rfl)))
  rw [hsx,hpu]
  exact⟨hw,hu2,hub.trans hbl hub2,fun b e =>Nat.le_trans hub.next (hnw b e)⟩
set_option maxHeartbeats 4000000 in
theorem putT_c (H0 H:AH) (hu0:Up H0 H) (v:AV) (s:List Nat) (n:Nat) (ho:X9 H0 H v s) (hn:n < 9223372036854775808) (hs:s.length≤200000000000):Fn Q L 51 [v,.int .i64 (n:Int)] H (fun w H' =>X9 H0 H' w (s ++ Xp n)∧Up H0 H'∧UpB v H H'∧∀b,Xi w = some b→H.next≤b):=by
 refine Fn.intro (en51 _ _) ?_
 have hpl:=Yj 9 n (by omega)
 have wz:IntKind.u64.wrap (n:Int) = (n:Int):=wr64n (by omega)
 unfold c51 Tryz.f51
 simp only [Option.getD_some]
 repeat (first|(apply Zh;exact rfl)|apply Zc|apply WO.nil|(apply Zl;exact rfl;simp only [rE,rS,li,lo,reduceIte,Nat.reduceEqDiff,Nat.reduceAdd,Nat.reduceMul,Y0,und2,und71,wz];exact rfl;exact rfl))
 refine Ys (fun m t H' =>∃(u:Nat) (v':AV) (x:List Nat),u = m∧Up H0 H'∧X9 H0 H' v' x∧UpB v H H'∧(∀b,Xi v' = some b→H.next≤b ∨ Xi v = some b)∧s ++ Xp n = x ++ Xp u∧u≤n∧t.get 0 = some v'∧t.get 5 = some (.int .u64 (u:Int))) n ?_ ?_
 ·refine⟨n,v,s,rfl,hu0,ho,UpB.of (Up.refl _),fun b e =>.inr e,rfl,Nat.le_refl _,?_,?_⟩
  all_goals simp [Tri.gp,Zn]
 rintro m t H' ⟨u,v',x,rfl,hu,ho',hub,hbl,hsx,hun,t0,t5⟩ ih
 have hone:=ho'.sl.one
 have hsol:=ho'.sl.solid
 have hxl:=congrArg List.length hsx
 simp only [List.length_append] at hxl
 by_cases hg:128≤u
 ·have q1:decide ((128:Int)≤(u:Int)) = true:=decide_eq_true (by omega)
  have h128:=or128 (n:=u) (by omega)
  have hpu:=lebN_ge hg
  have hps:(Xp u).length = (Xp (u / 128)).length + 1:=by rw [hpu];simp
  obtain⟨w,H2,happ,hw,hu2,hub2,hnw⟩:=ho'.push hu (u % 128 + 128) (by omega)
  repeat (first|(apply Zh;exact rfl)|apply Zc|apply WO.nil|(apply WO.op;(focus (simp only [rQ,Zb,li,lo,reduceIte,Nat.reduceEqDiff,Nat.reduceAdd,beq_self_eq_true,q1];done));simp only [rE,rS,li,lo,reduceIte,Nat.reduceEqDiff,Nat.reduceAdd,Nat.reduceMul,hone,hsol,t0,t5,Y0,und71,und5,bin_orI,gOk_orI,gOk_shrI,shr_7,bs35y,WU,q1];exact rfl;exact rfl)|(apply WO.unwanted;(focus (simp only [rQ,Zb,li,lo,reduceIte,Nat.reduceEqDiff,Nat.reduceAdd,beq_self_eq_true,q1];done));exact rfl))
  (first|(apply WF.condT;(focus (simp only [Zg,Zd,Tri.gp,Zn,Bool.not_true,Bool.not_false,reduceIte,Nat.reduceEqDiff,q1];done)))|(apply WF.condF;(focus (simp only [Zg,Zd,Tri.gp,Zn,Bool.not_true,Bool.not_false,reduceIte,Nat.reduceEqDiff,q1];done))))
  repeat (first|(apply Zh;exact rfl)|apply Zc|apply WO.nil|(apply Zl;exact rfl;simp only [rE,rS,li,lo,reduceIte,Nat.reduceEqDiff,Nat.reduceAdd,Nat.reduceMul,hone,hsol,t0,t5,Y0,und71,und5,bin_orI,gOk_orI,gOk_shrI,shr_7,bs35y,WU,h128,happ];exact rfl;exact rfl))
  refine Yt ?_
  refine ih (u / 128) _ _ (by omega) ⟨u / 128,w,x ++ [u % 128 + 128],rfl,hu2,hw,hub.trans hbl hub2,fun b e =>.inl (Nat.le_trans hub.next (hnw b e)),?_,by omega,?_,?_⟩
  ·rw [hsx,hpu]
   simp
  all_goals simp [Tri.gp]
 ·have q1:decide ((128:Int)≤(u:Int)) = false:=decide_eq_false (by omega)
  have wlast:IntKind.u8.wrap (u:Int) = (u:Int):=by rw [wr8];omega
  have hpu:=lebN_lt (n:=u) (by omega)
  obtain⟨w,H2,happ,hw,hu2,hub2,hnw⟩:=ho'.push hu u (by omega)
  repeat (first|(apply Zh;exact rfl)|apply Zc|apply WO.nil|(apply WO.op;(focus (simp only [rQ,Zb,li,lo,reduceIte,Nat.reduceEqDiff,Nat.reduceAdd,beq_self_eq_true,q1];done));simp only [rE,rS,li,lo,reduceIte,Nat.reduceEqDiff,Nat.reduceAdd,Nat.reduceMul,hone,hsol,t0,t5,Y0,und71,und5,bin_orI,gOk_orI,gOk_shrI,shr_7,bs35y,WU,q1];exact rfl;exact rfl)|(apply WO.unwanted;(focus (simp only [rQ,Zb,li,lo,reduceIte,Nat.reduceEqDiff,Nat.reduceAdd,beq_self_eq_true,q1];done));exact rfl))
  (first|(apply WF.condT;(focus (simp only [Zg,Zd,Tri.gp,Zn,Bool.not_true,Bool.not_false,reduceIte,Nat.reduceEqDiff,q1];done)))|(apply WF.condF;(focus (simp only [Zg,Zd,Tri.gp,Zn,Bool.not_true,Bool.not_false,reduceIte,Nat.reduceEqDiff,q1];done))))
  repeat (first|(apply Zh;exact rfl)|apply Zc|apply WO.nil|(apply Zl;exact rfl;simp only [rE,rS,li,lo,reduceIte,Nat.reduceEqDiff,Nat.reduceAdd,Nat.reduceMul,t0,t5,Y0,und71,und5,wlast,bs35y,WU,hone,hsol,happ];exact rfl;exact rfl))
  (apply WF.ret;(focus (simp only [Zi,Tri.gp,Zn,ZL,reduceIte,Nat.reduceEqDiff,rs51];exact rfl)))
  rw [hsx,hpu]
  exact⟨hw,hu2,hub.trans hbl hub2,fun b e =>Nat.le_trans hub.next (hnw b e)⟩
end Go.Ev.C
end