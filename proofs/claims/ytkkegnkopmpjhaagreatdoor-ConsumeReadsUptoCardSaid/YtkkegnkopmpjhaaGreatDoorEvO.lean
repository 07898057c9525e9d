/- The closed call returns true; the listed variables give the cells that it reads. -/
import Derived.Test.YtkkegnkopmpjhaaGreatDoorEvS0
import Derived.Test.YtkkegnkopmpjhaaGreatDoorEvS1
import Derived.Test.YtkkegnkopmpjhaaGreatDoorEvS2
import Derived.Test.YtkkegnkopmpjhaaGreatDoorEvS3
import Derived.Test.YtkkegnkopmpjhaaGreatDoorEvS4
import Derived.Test.YtkkegnkopmpjhaaGreatDoorEvS5
import Derived.Test.YtkkegnkopmpjhaaGreatDoorEvS6
import Derived.Test.YtkkegnkopmpjhaaGreatDoorEvS7
import Derived.Test.YtkkegnkopmpjhaaGreatDoorEvM
import Derived.Test.YtkkegnkopmpjhaaGreatDoorRows
import Derived.Lib.LaidTab
import Derived.Test.YtkkegnkopmpjhaaGreatDoorEvN
set_option linter.unusedVariables false
set_option linter.unusedSimpArgs false
set_option linter.all false
section
namespace Go.Ev.C
open Go.Proofs Go.RowKit
/-- A world in which the listed variables hold what the call reads of them. -/
def Laid (w:World):Prop:=∃ρ,GR ρ∧WR w ρ ⟨h0,64⟩ w
theorem h0_ro:∀b B,h0.get b = some B→B.ro = true:=by
 intro b B h
 simp only [h0,putB,Tri.gp,Tri.get_leaf] at h
 repeat' split at h
 all_goals first | (cases h;rfl) | cases h
theorem laid_keep (w w':World) (h:Laid w) (hb:Below w.heap.size w w'):Laid w':=by
 obtain⟨ρ,hg,hw⟩:=h
 have h2:=hw.later hb
 exact⟨ρ,hg,h2.blk,h2.inj,(fun b B c n hg _ hro =>by rw [h0_ro b B hg] at hro;cases hro),h2.dom,h2.bnd,trivial,Below.refl _ _⟩
instance good:Yu Q Laid where
 ng f fn h:=by
  have:=Array.all_eq_true_iff_forall_mem.1 ng fn (Array.mem_of_getElem? h)
  simpa using this
 mix:=mix
 keep:=laid_keep
theorem code10:subAt Q 10 0 = c10:=by kernel_rfl
theorem done15:doneA s15 = true:=by kernel_rfl
theorem res15:ZI Q s15.fr s15.H = some (.bool true):=by kernel_rfl
theorem cs15:s15.cs = []:=by kernel_rfl
theorem run_all:Yy Q Laid s0 s15 :=
 (XZ r1).trans <| (XZ r3).trans <| (XZ r5).trans <| (XZ r7).trans <| (XZ r9).trans <| (XZ r11).trans <| (XZ r13).trans <| XZ r15
theorem sane_c (H:AH):Fn Q Laid 10 [] H (fun v H' =>v = .bool true∧H' = H):=by
 refine⟨.bool true,H,_,⟨rfl,rfl⟩,en10,fun c cs c' hc hfin =>?_⟩
 have hl:Yy Q Laid ⟨PF 10 191 .leaf [.code c10],[],⟨h0,64⟩⟩ ⟨s15.fr,[],s15.H⟩:=by
  have:=run_all
  unfold s0 at this
  rw [show (k 10 0:Code) = c10 from code10] at this
  have e:s15 = ⟨s15.fr,[],s15.H⟩:=by rw [← cs15]
  rw [← e]
  exact this
 exact closed_leads hl (by rw [← cs15];exact done15) res15 rfl (fun w h =>h) hc hfin
end Go.Ev.C
end
section
namespace Go.Ev.C
open Go.Proofs Go.RowKit Go.ChangeShapes Go.WideShapes Go.Deep
/-- A datum's scalars, one behind the other. -/
def avF:DataW Unit→List AV
 | .lit (.int k n) =>[.int k n]
 | .lit (.bool b) =>[.bool b]
 | .lit (.string l) =>[.str (l.map UInt8.toNat)]
 | .agg ds =>avFs ds
 | _ =>[]
where avFs:List (DataW Unit)→List AV
 | [] =>[]
 | d :: r =>avF d ++ avFs r
section
variable {W:World} {base:Nat} {spare:Nat→Bool} {held:Bool} {fuel:Nat} {WB:TypeId × Value→Unit}
theorem flat_scalar {t:TypeId} {v:Value} {x:DataW Unit × List MemPlace} (ht:(∃k,Q.underlying t = some (.int k)) ∨ Q.underlying t = some .bool ∨ Q.underlying t = some .string) (h:DataW.trod WB Q W base spare held fuel t [v] = some x):[YC W v] = avF x.1:=by
 rcases ht with ⟨k,ht⟩ | ht | ht
 ·obtain⟨n,hv,hx,_⟩:=DataW.trod_int ht h
  cases hv;rw [hx];rfl
 ·obtain⟨n,hv,hx⟩:=DataW.trod_bool ht h
  cases hv;rw [hx];rfl
 ·cases fuel with
  | zero =>simp [DataW.trod] at h
  | succ m =>
   unfold DataW.trod at h
   rw [ht] at h
   cases v <;> simp at h
   obtain⟨_,rfl⟩:=h
   rfl
theorem avFs_append:∀(a b:List (DataW Unit)),avF.avFs (a ++ b) = avF.avFs a ++ avF.avFs b
 | [],b =>rfl
 | d :: a,b =>by simp [avF.avFs,avFs_append a b]
/-- Rows of k cells each. -/
theorem flat_rows (k:Nat):∀(ds:List (DataW Unit)) (cs:List Value),cs.length = ds.length * k→(∀(i:Nat) (d:DataW Unit),ds[i]? = some d→((cs.drop (i * k)).take k).map (YC W) = avF d)→cs.map (YC W) = avF.avFs ds
 | [],cs,hl,_ =>by
  simp at hl
  subst hl
  rfl
 | d :: ds,cs,hl,h =>by
  have h0:=h 0 d rfl
  rw [Nat.zero_mul,List.drop_zero] at h0
  have ih:=flat_rows k ds (cs.drop k) (by simp [hl,Nat.add_mul]) fun i d' hd =>by
   have:=h (i + 1) d' (by simpa using hd)
   rw [List.drop_drop,show k + i * k = (i + 1) * k from by rw [Nat.add_mul];omega]
   exact this
  show cs.map (YC W) = avF d ++ avF.avFs ds
  rw [← h0,← ih,← List.map_append,List.take_append_drop]
theorem flat_struct {t:TypeId} {fs:Array Field} {cs:List Value} {x:DataW Unit × List MemPlace} (ht:Q.underlying t = some (.struct fs)) (hone:oneCellFields Q fs = true) (hC:Q.cellsOf t = fs.size) (hs:∀f ∈ fs,(∃k,Q.underlying f.type = some (.int k)) ∨ Q.underlying f.type = some .bool ∨ Q.underlying f.type = some .string)
  (h:DataW.trod WB Q W base spare held fuel t cs = some x):cs.map (YC W) = avF x.1:=by
 obtain⟨ys,n',_,hy,hcl,hyl,hf⟩:=DataW.trod_struct ht h
 rw [hy]
 show cs.map (YC W) = avF.avFs (ys.map (·.1))
 refine flat_rows 1 _ _ (by simp [hcl,hC,hyl]) fun i d hd =>?_
 rw [List.getElem?_map,Option.map_eq_some_iff] at hd
 obtain⟨y,hyi,rfl⟩:=hd
 have hil:i < fs.size:=by have:=(List.getElem?_eq_some_iff.1 hyi).1;omega
 have hfi:fs[i]? = some fs[i]:=Array.getElem?_eq_getElem hil
 obtain⟨ho,hk⟩:=hone_of hone i _ hfi
 have h1:=hf i _ hfi
 rw [ho,hk,hyi,List.drop_eq_getElem_cons (by omega)] at h1
 rw [Nat.mul_one,List.drop_eq_getElem_cons (by omega)]
 exact flat_scalar (hs _ (Array.getElem_mem hil)) h1
theorem flat_array {t e n k:Nat} {cs:List Value} {x:DataW Unit × List MemPlace} (ht:Q.underlying t = some (.array n e)) (hk:Q.cellsOf e = k) (hC:Q.cellsOf t = n * k)
  (he:∀(m:Nat) (cs:List Value) (y:DataW Unit × List MemPlace),DataW.trod WB Q W base spare held m e cs = some y→cs.map (YC W) = avF y.1) (h:DataW.trod WB Q W base spare held fuel t cs = some x):cs.map (YC W) = avF x.1:=by
 cases fuel with
 | zero =>simp [DataW.trod] at h
 | succ m =>
  simp only [DataW.trod,ht,hk,hC] at h
  split at h
  ·rename_i hl
   obtain⟨xs,hm,rfl⟩:=Option.map_eq_some_iff.1 h
   have hxl:xs.length = n:=by simpa using Go.Lib.mapM_length hm
   show cs.map (YC W) = avF.avFs (xs.map (·.1))
   refine flat_rows k _ _ (by simp [hl,hxl]) fun i d hd =>?_
   rw [List.getElem?_map,Option.map_eq_some_iff] at hd
   obtain⟨y,hyi,rfl⟩:=hd
   have hil:i < n:=by have:=(List.getElem?_eq_some_iff.1 hyi).1;omega
   obtain⟨b,hb,hfb⟩:=Go.Lib.mapM_at hm i i (by simp [hil])
   rw [hyi] at hb
   cases hb
   exact he m _ _ hfb
  ·cases h
end
end Go.Ev.C
namespace Go.Ev.C
open Go.Proofs Go.RowKit Go.ChangeShapes Go.WideShapes Go.Deep
open Go.Proofs.YtkkegnkopmpjhaaGreatDoor
theorem g0:h0.get 0 = some (.cells 230 (avF Rows.laid_tapline_consume_words) 0 false true):=by kernel_rfl
theorem g5:h0.get 5 = some (.cells 488 (avF Rows.laid_tapline_check_builtins) 0 false true):=by kernel_rfl
theorem g6:h0.get 6 = some (.cells 506 (avF Rows.laid_tapline_code_forms) 0 false true):=by kernel_rfl
theorem g8:h0.get 8 = some (.cells 511 (avF Rows.laid_math_bits_deBruijn64tab) 0 false true):=by kernel_rfl
theorem g3:h0.get 3 = some (.cells 172 [.iface 467 (.opq 17)] 0 false true):=by kernel_rfl
theorem h0_keys:∀b B,h0.get b = some B→b = 0 ∨ b = 3 ∨ b = 5 ∨ b = 6 ∨ b = 8:=by
 intro b B h
 simp only [h0,putB,Tri.gp,Tri.get_leaf] at h
 repeat' split at h
 all_goals first | (subst_vars;simp;done) | cases h
def rhoG (W:World):Yl:=fun b =>if b < 64 then rhoW W b else none
theorem rhoG_GR (W:World):GR (rhoG W):=fun g hg =>by
 unfold rhoG
 rw [if_pos hg]
 exact rhoW_GR W g hg
theorem rhoG_eq {W:World} {b c n:Nat} (h:rhoG W b = some (c,n)):c = b∧b < 64∧rhoW W b = some (b,n):=by
 unfold rhoG at h
 split at h
 ·rename_i hb
  have:=rhoW_eq h
  subst this
  exact⟨rfl,hb,h⟩
 ·cases h
theorem blk_plain {W:World} {g t n:Nat} {cs:Array Value} {l:List AV} (hc:W.heap[g]? = some (.cells cs t (0,0))) (hr:rhoW W g = some (g,n)) (hl:cs.toList.map (YC W) = l) (hf:l.all (fun v =>ZO v && v.flat) = true):BR (rhoG W) n (.cells t l 0 false true) (.cells cs t (0,0)):=by
 have hn:cs.size = n:=by
  unfold rhoW at hr
  rw [hc] at hr
  cases hr
  rfl
 subst hl
 refine .cells hn (by simp [hn]) (fun i v hv hh =>?_) fun h =>by cases h
 have hfl:=List.all_eq_true.1 hf v (List.mem_of_getElem? hv)
 rw [Bool.and_eq_true] at hfl
 rw [List.getElem?_map] at hv
 cases hx:cs.toList[i]? with
 | none =>rw [hx] at hv;cases hv
 | some x =>
  rw [hx] at hv
  cases hv
  exact⟨x,by simpa using hx,(avOf_rel W x hh).unflat hfl.2,avOf_one W x⟩
theorem var_heap {W:World} {name:String} {g:Nat} {cs:Array Value} (hg:Q.globalNamed name = some g) (h:W.var? Q name = some cs):∃e f,W.heap[g]? = some (.cells cs e f):=by
 unfold World.var? at h
 rw [hg] at h
 simp only [Option.bind_some] at h
 split at h
 ·rename_i a e f hh
  cases h
  exact⟨e,f,hh⟩
 ·cases h
theorem elem_of {W:World} (hs:W.ShapedOpen Q) {g t:Nat} (hlt:g < Q.globals.size) (h:((((begin Q (fun _ _ =>0) default).world.heap[g]?).bind Obj.row?).map (·.2)) = some t):∃cs,W.heap[g]? = some (.cells cs t (0,0)):=by
 obtain⟨h1,_⟩:=hs
 obtain⟨⟨zero,t'⟩,hz,rfl⟩:=Option.map_eq_some_iff.1 h
 obtain⟨cs,hc,_⟩:=h1 g zero t' hlt hz
 exact⟨cs,hc⟩
end Go.Ev.C
end
section
namespace Go.Ev.C
open Go.Proofs Go.RowKit Go.ChangeShapes Go.WideShapes Go.Deep
open Go.Proofs.YtkkegnkopmpjhaaGreatDoor
abbrev TV (W:World) (fuel:Nat) (t:TypeId) (cs:Array Value) (d:DataW Unit) (p:List MemPlace):Prop:=DataW.trod (fun _ =>()) Q W 0 (fun _ =>true) false fuel t cs.toList = some (d,p)
theorem Wx {W:World} {n:String} {d:DataW Unit} {rest:List (String × DataW Unit)} {ps:List MemPlace} (h:DataW.LaidVars Q W ((n,d) :: rest) ps) :
  (∃g t cs fuel p,Q.globalNamed n = some g∧(Q.globals[g]?).map (·.type) = some t∧W.var? Q n = some cs∧TV W fuel t cs d p∧∀x ∈ MemPlace.row ⟨g,0,none⟩ cs.size,x ∈ ps)∧∃q,DataW.LaidVars Q W rest q∧∀x ∈ q,x ∈ ps:=by
 obtain⟨g,t,cs,fuel,p,q,hg,ht,hc,hT,hr,rfl⟩:=h
 exact⟨⟨g,t,cs,fuel,p,hg,ht,hc,hT,fun x hx =>by simp [hx]⟩,q,hr,fun x hx =>by simp [hx]⟩
/-- A variable's block, and its datum's scalars. -/
theorem var_is {W:World} (hs:W.ShapedOpen Q) {n:String} {g t:Nat} {d:DataW Unit} {ps:List MemPlace} (gn:Q.globalNamed n = some g) (gt:(Q.globals[g]?).map (·.type) = some t) (hlt:g < Q.globals.size)
  (he:((((begin Q (fun _ _ =>0) default).world.heap[g]?).bind Obj.row?).map (·.2)) = some t)
  (h:∃g t cs fuel p,Q.globalNamed n = some g∧(Q.globals[g]?).map (·.type) = some t∧W.var? Q n = some cs∧TV W fuel t cs d p∧∀x ∈ MemPlace.row ⟨g,0,none⟩ cs.size,x ∈ ps) :
  ∃cs fuel p,W.heap[g]? = some (.cells cs t (0,0))∧TV W fuel t cs d p∧∀x ∈ MemPlace.row ⟨g,0,none⟩ cs.size,x ∈ ps:=by
 obtain⟨g',t',cs,fuel,p,hg,ht,hc,hT,hp⟩:=h
 obtain rfl:=Option.some.inj (gn.symm.trans hg)
 obtain rfl:=Option.some.inj (gt.symm.trans ht)
 obtain⟨e,f,hh⟩:=var_heap gn hc
 obtain⟨cs',hh'⟩:=elem_of hs hlt he
 rw [hh] at hh'
 cases hh'
 exact⟨cs,fuel,p,hh,hT,hp⟩
theorem cells9:Q.cellsOf 9 = 1:=by kernel_rfl
theorem cells5:Q.cellsOf 5 = 1:=by kernel_rfl
theorem cells455:Q.cellsOf 455 = 5:=by kernel_rfl
theorem cells469:Q.cellsOf 469 = 1:=by kernel_rfl
theorem one455 : oneCellFields Q #[{ name := "name", type := 9, offset := 0, embedded := false, tag := "", pkgPath := "tapline/code", byteOffset := 0 }, { name := "d", type := 4, offset := 1, embedded := false, tag := "", pkgPath := "tapline/code", byteOffset := 16 }, { name := "a", type := 4, offset := 2, embedded := false, tag := "", pkgPath := "tapline/code", byteOffset := 17 }, { name := "b", type := 4, offset := 3, embedded := false, tag := "", pkgPath := "tapline/code", byteOffset := 18 }, { name := "n", type := 4, offset := 4, embedded := false, tag := "", pkgPath := "tapline/code", byteOffset := 19 }] = true := by kernel_rfl
theorem cells230:Q.cellsOf 230 = 6 * 1:=by kernel_rfl
theorem cells488:Q.cellsOf 488 = 14 * 1:=by kernel_rfl
theorem cells506:Q.cellsOf 506 = 41 * 5:=by kernel_rfl
theorem cells511:Q.cellsOf 511 = 64 * 1:=by kernel_rfl
theorem und4':Q.underlying 4 = some .bool:=Tryz.underlying4
section
variable {W:World} {base:Nat} {spare:Nat→Bool} {held:Bool} {WB:TypeId × Value→Unit}
theorem one_cell {t:TypeId} (hc:Q.cellsOf t = 1) (ht:(∃k,Q.underlying t = some (.int k)) ∨ Q.underlying t = some .string):∀(m:Nat) (cs:List Value) (y:DataW Unit × List MemPlace),DataW.trod WB Q W base spare held m t cs = some y→cs.map (YC W) = avF y.1:=by
 intro m cs y h
 have hl:∃v,cs = [v]:=by
  cases m with
  | zero =>simp [DataW.trod] at h
  | succ m =>
   unfold DataW.trod at h
   rcases ht with ⟨k,ht⟩ | ht <;> rw [ht] at h <;>
   ·match cs,h with
    | [v],_ =>exact⟨v,rfl⟩
    | a :: b :: c,h =>cases a <;> simp at h
 obtain⟨v,rfl⟩:=hl
 refine flat_scalar ?_ h
 rcases ht with ht | ht
 ·exact .inl ht
 ·exact .inr (.inr ht)
theorem form_cell:∀(m:Nat) (cs:List Value) (y:DataW Unit × List MemPlace),DataW.trod WB Q W base spare held m 455 cs = some y→cs.map (YC W) = avF y.1:=by
 intro m cs y h
 refine flat_struct Tryz.underlying455 one455 (by rw [cells455];rfl) (fun f hf =>?_) h
 simp only [List.mem_toArray,List.mem_cons,List.not_mem_nil,or_false] at hf
 rcases hf with rfl | rfl | rfl | rfl | rfl
 ·exact .inr (.inr Tryz.underlying9)
 ·exact .inr (.inl und4')
 ·exact .inr (.inl und4')
 ·exact .inr (.inl und4')
 ·exact .inr (.inl und4')
end
theorem fl0:(avF Rows.laid_tapline_consume_words).all (fun v =>ZO v && v.flat) = true:=by kernel_rfl
theorem fl5:(avF Rows.laid_tapline_check_builtins).all (fun v =>ZO v && v.flat) = true:=by kernel_rfl
theorem fl6:(avF Rows.laid_tapline_code_forms).all (fun v =>ZO v && v.flat) = true:=by kernel_rfl
theorem fl8:(avF Rows.laid_math_bits_deBruijn64tab).all (fun v =>ZO v && v.flat) = true:=by kernel_rfl
theorem gn0 : Q.globalNamed "tapline/consume.words" = some 0 := by kernel_rfl
theorem gn3 : Q.globalNamed "strconv.ErrSyntax" = some 3 := by kernel_rfl
theorem gn5 : Q.globalNamed "tapline/check.builtins" = some 5 := by kernel_rfl
theorem gn6 : Q.globalNamed "tapline/code.forms" = some 6 := by kernel_rfl
theorem gn8 : Q.globalNamed "math/bits.deBruijn64tab" = some 8 := by kernel_rfl
theorem gt0:(Q.globals[0]?).map (·.type) = some 230:=by kernel_rfl
theorem gt3:(Q.globals[3]?).map (·.type) = some 172:=by kernel_rfl
theorem gt5:(Q.globals[5]?).map (·.type) = some 488:=by kernel_rfl
theorem gt6:(Q.globals[6]?).map (·.type) = some 506:=by kernel_rfl
theorem gt8:(Q.globals[8]?).map (·.type) = some 511:=by kernel_rfl
theorem gsz:8 < Q.globals.size:=of_decide_eq_true (by kernel_rfl)
theorem ge0:((((begin Q (fun _ _ =>0) default).world.heap[0]?).bind Obj.row?).map (·.2)) = some 230:=by kernel_rfl
theorem ge3:((((begin Q (fun _ _ =>0) default).world.heap[3]?).bind Obj.row?).map (·.2)) = some 172:=by kernel_rfl
theorem ge5:((((begin Q (fun _ _ =>0) default).world.heap[5]?).bind Obj.row?).map (·.2)) = some 488:=by kernel_rfl
theorem ge6:((((begin Q (fun _ _ =>0) default).world.heap[6]?).bind Obj.row?).map (·.2)) = some 506:=by kernel_rfl
theorem ge8:((((begin Q (fun _ _ =>0) default).world.heap[8]?).bind Obj.row?).map (·.2)) = some 511:=by kernel_rfl
theorem laid_plain {W:World} (h:laidMetH Q Rows.consumeCountsUptoRow.laid W):laidMet Q Rows.consumeCountsUptoRow.laid W:=by
 unfold laidMetH at h
 rw [show (Rows.consumeCountsUptoRow.laid.filter fun x =>x.snd.handleName?.isSome) = [] by kernel_rfl] at h
 exact h
end Go.Ev.C
end
section
namespace Go.Ev.C
open Go.Proofs Go.RowKit Go.ChangeShapes Go.WideShapes Go.Deep
open Go.Proofs.YtkkegnkopmpjhaaGreatDoor
set_option maxRecDepth 100000
theorem laid_of {W:World} (h:laidMetH Q Rows.consumeCountsUptoRow.laid W) (hs:W.ShapedOpen Q):Laid W:=by
 obtain⟨ps,hv,_,hrow⟩:=laid_plain h
 have gz:=gsz
 obtain⟨_,q1,hv,s1⟩:=Wx hv
 obtain⟨x8,q2,hv,s2⟩:=Wx hv
 obtain⟨_,q3,hv,s3⟩:=Wx hv
 obtain⟨_,q4,hv,s4⟩:=Wx hv
 obtain⟨_,q5,hv,s5⟩:=Wx hv
 obtain⟨x3,q6,hv,s6⟩:=Wx hv
 obtain⟨x6,q7,hv,s7⟩:=Wx hv
 obtain⟨x5,q8,hv,s8⟩:=Wx hv
 obtain⟨x0,q9,hv,s9⟩:=Wx hv
 obtain⟨c8,_,_,b8,t8,_⟩:=var_is hs gn8 gt8 (by omega) ge8 x8
 obtain⟨c3,_,_,b3,t3,r3⟩:=var_is hs gn3 gt3 (by omega) ge3 x3
 obtain⟨c6,_,_,b6,t6,_⟩:=var_is hs gn6 gt6 (by omega) ge6 x6
 obtain⟨c5,_,_,b5,t5,_⟩:=var_is hs gn5 gt5 (by omega) ge5 x5
 obtain⟨c0,_,_,b0,t0,_⟩:=var_is hs gn0 gt0 (by omega) ge0 x0
 have m8:=flat_array Tryz.underlying511 cells5 cells511 (one_cell cells5 (.inl ⟨_,Tryz.underlying5⟩)) t8
 have m6:=flat_array Tryz.underlying506 cells455 cells506 form_cell t6
 have m5:=flat_array Tryz.underlying488 cells9 cells488 (one_cell cells9 (.inr Tryz.underlying9)) t5
 have m0:=flat_array Tryz.underlying230 cells9 cells230 (one_cell cells9 (.inr Tryz.underlying9)) t0
 obtain ⟨a, s, e3, _⟩ := errorString_of_trod (P := Q) (nm := "*errors.errorString") Tryz.underlying172 type467 Tryz.underlying467 Tryz.underlying469 rfl rfl Tryz.underlying9 cells469 cells9 t3 (fun u v hcs => by
  have hc3:c3 = #[.iface u v]:=by cases c3;simp_all
  subst hc3
  exact (hrow 3 0 (s1 _ (s2 _ (s3 _ (s4 _ (s5 _ (r3 _ (by simp [MemPlace.row])))))))).2 u v (by unfold World.cell?;rw [b3];rfl))
 have hc3:c3 = #[.iface 467 (.pointer (some a))]:=by cases c3;simp_all
 subst hc3
 refine⟨rhoG W,rhoG_GR W,⟨fun b B c n hg hr =>?_,fun b b' B B' c n n' _ _ hr hr' =>?_,fun b B c n hg _ hro =>?_,fun b x hr =>?_,fun b B hg =>?_,trivial,Below.refl _ _⟩⟩
 ·obtain⟨rfl,hb,hr⟩:=rhoG_eq hr
  have hg':h0.get c = some B:=hg
  rcases h0_keys c B hg' with rfl | rfl | rfl | rfl | rfl
  ·rw [g0] at hg'
   cases hg'
   exact⟨_,b0,blk_plain b0 hr m0 fl0⟩
  ·rw [g3] at hg'
   cases hg'
   refine⟨_,b3,?_⟩
   have hn:n = 1:=by
    unfold rhoW at hr
    rw [b3] at hr
    cases hr
    rfl
   subst hn
   refine .cells rfl (by simp) (fun i v hv hh =>?_) fun h =>by cases h
   match i,hv with
   | 0,hv =>
    cases hv
    exact⟨_,rfl,.iface .opq,rfl⟩
  ·rw [g5] at hg'
   cases hg'
   exact⟨_,b5,blk_plain b5 hr m5 fl5⟩
  ·rw [g6] at hg'
   cases hg'
   exact⟨_,b6,blk_plain b6 hr m6 fl6⟩
  ·rw [g8] at hg'
   cases hg'
   exact⟨_,b8,blk_plain b8 hr m8 fl8⟩
 ·rw [← (rhoG_eq hr).1,← (rhoG_eq hr').1]
 ·rw [h0_ro b B hg] at hro
  cases hro
 ·obtain⟨c,n⟩:=x
  exact (rhoG_eq hr).2.1
 ·show b < 64
  rcases h0_keys b B hg with rfl | rfl | rfl | rfl | rfl <;> decide
end Go.Ev.C
end