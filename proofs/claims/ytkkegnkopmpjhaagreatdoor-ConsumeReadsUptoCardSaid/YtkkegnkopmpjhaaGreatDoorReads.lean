/- ConsumeReads answers true for every input of bulk at most 1048576 (the card of the second form): the listed variables start as the program's text lays them. -/
import Derived.Test.YtkkegnkopmpjhaaGreatDoorEvYd
import Derived.Test.YtkkegnkopmpjhaaGreatDoorEvP
import Derived.Test.YtkkegnkopmpjhaaGreatDoorEvRa
import Derived.Test.YtkkegnkopmpjhaaGreatDoorEvRb
import Derived.Test.YtkkegnkopmpjhaaGreatDoorEvRc
import Derived.Test.YtkkegnkopmpjhaaGreatDoorEvRd
import Derived.Test.YtkkegnkopmpjhaaGreatDoorEvRe
import Derived.Test.YtkkegnkopmpjhaaGreatDoorEvRf
import Derived.Test.YtkkegnkopmpjhaaGreatDoorRows
import Derived.WalkKit
import Derived.ProofKit
import Derived.Deep.DeepHandedRow
import Derived.Test.YtkkegnkopmpjhaaGreatDoorCards
import Derived.Test.YtkkegnkopmpjhaaGreatDoorTie
import Derived.Test.YtkkegnkopmpjhaaGreatDoorEvW
import Derived.Test.YtkkegnkopmpjhaaGreatDoorEvQ
import Derived.Test.YtkkegnkopmpjhaaGreatDoorEvT
import Derived.Test.YtkkegnkopmpjhaaGreatDoorEvU
set_option linter.unusedVariables false
set_option linter.unusedSimpArgs false
set_option linter.all false
section
namespace Go.Ev.C
open Go.Proofs Go.RowKit Go.ChangeShapes Go.WideShapes Go.Deep
open Go.Proofs.YtkkegnkopmpjhaaGreatDoor
set_option maxRecDepth 100000
theorem cells_of_slice35i {W:World} {r:Reach} {base:Nat} {v:Value} (ok:Value.okWide Q W r base 35 v):v.cells.toList = [v]:=by
 unfold Value.okWide at ok
 simp only [Tryz.underlying35] at ok
 cases v <;> first | rfl | (unfold Cell.okWide at ok;simp [Cell.ok,Tryz.underlying35] at ok)
theorem cells_of_slice36i {W:World} {r:Reach} {base:Nat} {v:Value} (ok:Value.okWide Q W r base 36 v):v.cells.toList = [v]:=by
 unfold Value.okWide at ok
 simp only [Tryz.underlying36] at ok
 cases v <;> first | rfl | (unfold Cell.okWide at ok;simp [Cell.ok,Tryz.underlying36] at ok)
theorem cells_of_strJ {W:World} {r:Reach} {base:Nat} {v:Value} (ok:Value.okWide Q W r base 9 v):v.cells.toList = [v]:=by
 unfold Value.okWide at ok
 simp only [Tryz.underlying9] at ok
 cases v <;> first | rfl | (unfold Cell.okWide at ok;simp [Cell.ok,Tryz.underlying9] at ok)
theorem read35:Q.readableRec 35 = true:=by kernel_rfl
theorem row35:35 < Q.types.size:=of_decide_eq_true (by kernel_rfl)
theorem read9:Q.readableRec 9 = true:=by kernel_rfl
theorem row9:9 < Q.types.size:=of_decide_eq_true (by kernel_rfl)
section
variable {H:Type} {WB:TypeId × Value→H}
/-- A slice of batches. -/
theorem open_bats {W:World} {base:Nat} {v:Value} {d:DataW H} {p:List MemPlace} (hv:Value.okWide Q W .any base 36 v) (h:DataW.Trod WB Q W 0 (fun _ =>true) true 36 v d p) :
  ∃l:List XC,YI (ahOf W) (YC W v) l∧(∀d ∈ l,∀r ∈ d.recs,U8 r.r)∧l.length≤Rows.uptoBulk d:=by
 obtain⟨n,hn⟩:=h
 rw [cells_of_slice36i hv] at hn
 obtain⟨l,hl,h8,hc⟩:=read_bats hn
 refine⟨l,hl,h8,?_⟩
 rcases hc with ⟨_,rfl⟩ | ⟨el,sp,hx,hlen⟩
 ·simp
 ·have hx':d = .slice el sp:=hx
  subst hx'
  have:=bulk_length el
  simp only [Rows.uptoBulk]
  omega
/-- Bytes. -/
theorem open_bytes {W:World} {base:Nat} {v:Value} {d:DataW H} {p:List MemPlace} (hv:Value.okWide Q W .any base 35 v) (h:DataW.Trod WB Q W 0 (fun _ =>true) true 35 v d p) :
  ∃s:List Nat,(∀c ∈ s,c < 256)∧Y3 (ahOf W) (YC W v) (Xw s)∧CapOk (YC W v)∧s.length≤Rows.uptoBulk d:=by
 obtain⟨n,hn⟩:=h
 rw [cells_of_slice35i hv] at hn
 obtain⟨s,h8,hd,hcap,hc⟩:=read_src hn
 refine⟨s,h8,hd,hcap,?_⟩
 rcases hc with ⟨_,rfl⟩ | ⟨el,sp,hx,hlen⟩
 ·simp
 ·have hx':d = .slice el sp:=hx
  subst hx'
  have:=bulk_length el
  simp only [Rows.uptoBulk]
  omega
theorem bts_byteJ (s:ByteArray):∀c ∈ X1 s,c < 256:=by
 intro c hc
 obtain⟨b,_,rfl⟩:=List.mem_map.1 hc
 exact b.toNat_lt
theorem open_strJ {W:World} {base:Nat} {v:Value} {d:DataW H} {p:List MemPlace} (hv:Value.okWide Q W .any base 9 v) (h:DataW.Trod WB Q W 0 (fun _ =>true) true 9 v d p) :
  ∃s:ByteArray,v = .string s∧(∀c ∈ X1 s,c < 256)∧(X1 s).length + 1≤Rows.uptoBulk d:=by
 obtain⟨n,hn⟩:=h
 rw [cells_of_strJ hv] at hn
 obtain⟨s,e,hx,_⟩:=DataW.trod_string Tryz.underlying9 hn
 cases e
 refine⟨s,rfl,bts_byteJ s,?_⟩
 cases hx
 simp only [Rows.uptoBulk,X1,List.length_map]
 omega
theorem contract (W:World) (base:Nat) (args:Array Value) (ds gs:List (DataW H)) (before:List MemPlace)
  (hval:∀(j:Nat) t v,Tryz.f4.params[j]? = some t→args[j]? = some v→Value.okWide Q W .any base t v)
  (hW:DataW.Whole WB Q Tryz.f4.params.toList Rows.consumeReadsSpec.vars false W args.toList ds gs before) (hk:Rows.uptoSmall H (ds ++ gs) = true) (hL:laidMetH Q Rows.consumeReadsUptoRow.laid W) (hS:W.ShapedOpen Q) :
  Calls Q 4 args W fun e W' =>∃v,e = .returned v∧Rows.consumeReadsSpec.post WB Q Tryz.f4 false true false false W args v W':=by
 have hW':=hW
 obtain⟨p,q,hA0,hV,rfl,hfz,hnd⟩:=hW
 have hA:DataW.TrodAll WB Q W 0 (fun _ =>true) true Tryz.f4.params.toList args.toList ds p:=hA0
 rw [Tryz.params4] at hA hval
 obtain⟨v0,v1,v2,d0,d1,d2,p0,p1,p2,rfl,rfl,rfl,k0,k1,k2⟩:=trodAll_three hA
 obtain⟨rfl,rfl⟩:=trodVars_none hV
 obtain⟨f,rfl,hf8,hfb⟩:=open_strJ (hval 0 9 v0 rfl rfl) k0
 obtain⟨s,hs8,hs,hcap,hsl⟩:=open_bytes (hval 1 35 v1 rfl rfl) k1
 obtain⟨l,hl,h8,hll⟩:=open_bats (hval 2 36 v2 rfl rfl) k2
 have hbulk:=of_decide_eq_true hk
 simp only [List.append_nil,Rows.uptoBulkAll] at hbulk
 have hlaid:Laid W:=laid_of hL hS
 obtain⟨fr',H',⟨hfn,hmd,hdf,hkd,v,hv,hΨ⟩,hld⟩:=reads_w (ahOf W) (X1 f) (YC W v1) (YC W v2) s l (by omega) hf8 ⟨hs,hcap,by omega,hs8⟩ hl (by omega) h8
 have ha:Xy (rhoW W) [.str (X1 f),YC W v1,YC W v2] (#[Value.string f,v1,v2]:Array Value).toList :=
  .cons (avOf_rel W (.string f) (by simp [YC])) (.cons (avOf_rel W v1 (SL.ne hs.1)) (.cons (avOf_rel W v2 (SL.ne hl.1)) .nil))
 have run:=calls_of_leadsL (P:=Q) (en4 _ _ _) (hld []) hmd hdf hkd hfn hv (rhoW_GR W) (ahOf_rel W) hlaid ha
 refine run.mono fun e W' ⟨ρ',x,he,hx,hb⟩ =>?_
 subst hΨ
 cases hx
 subst he
 have hlt:∀p ∈ p0 ++ p1 ++ p2 ++ [],p.block < W.heap.size:=fun p hp =>hW'.lt p hp
 refine⟨_,rfl,post_of_below (pa:=p0 ++ (p1 ++ p2)) (pv:=[]) hW' (fun _ _ _ =>trodAll_cons_mk (shut_bool Tryz.underlying4 _) trodAll_mk0) (fun sp hsp =>?_) (fun _ _ =>rfl) (by simp) hb (ok_one (by kernel_rfl) rfl (okWide_bool_mk Tryz.underlying4 _))⟩
 rw [Tryz.params4]
 exact trodAll_mk3
  (trod_keep laidOut read9 row9 k0 hb (fun x hx =>hlt x (by simp [hx])) fun x hx =>hsp x (by simp [hx]))
  (trod_keep laidOut read35 row35 k1 hb (fun x hx =>hlt x (by simp [hx])) fun x hx =>hsp x (by simp [hx]))
  (trod_keep laidOut read36 row36 k2 hb (fun x hx =>hlt x (by simp [hx])) fun x hx =>hsp x (by simp [hx]))
end
end Go.Ev.C
end
section
namespace Go.Ev.C
open Go.Proofs Go.RowKit Go.ChangeShapes Go.WideShapes
open Go.Proofs.YtkkegnkopmpjhaaGreatDoor
set_option maxRecDepth 100000
theorem facts4:joinedFacts Tryz.pinned.checked.prog 4 Tryz.f4 (Rows.OpenSpec.upto Rows.consumeReadsSpec).bare Rows.consumeReadsUptoRow = true:=by
 unfold joinedFacts
 exact W0 (W0 (W0 (W0 (W0 (W0 (W0 (W0 (W0 (W0 (W0 (W0 (W0 (W0 (W0 (W0 (W0 (W0 (W0 (W0 (W0 (W0 (W0 (W0 (W0 (W0 (W0 (W0 (W0 (W0 (W0 (fk0) fk1) fk2) fk3) fk4) fk5) fk6) fk7) fk8) fk9) fk10) fk11) fk12) fk13) fk14) fk15) fk16) fk17) fk18) fk19) fk20) fk21) fk22) fk23) fk24) fk25) fk26) fk27) fk28) fk29) fk30) fk31
end Go.Ev.C
end
section
namespace Go.Proofs.YtkkegnkopmpjhaaGreatDoor
open Go.ChangeShapes Go.WideShapes Go.ChangeAt Go.RowKit Go.Ev.C
set_option maxRecDepth 100000 in
theorem liftedUpto (os:Os) (started:os.Started) (H:Type) (WB:TypeId × Value→H) (F:Stop.Interp) :
  ReturnsInHanded {} Tryz.checked os 4 .any ((Rows.OpenSpec.upto Rows.consumeReadsSpec).preRow WB Tryz.prog Tryz.f4 Rows.consumeReadsUptoRow.domain false Rows.consumeReadsUptoRow.laid) (((Rows.OpenSpec.upto Rows.consumeReadsSpec).at F).post WB Tryz.prog Tryz.f4 false true false false):=by
 refine returnsInHanded_of_row (C:=Tryz.checked) (s:=Rows.OpenSpec.upto Rows.consumeReadsSpec) own4 started init4 Tryz.func4 (witness os WB) ?_
 intro W base args ds gs before hval hW _ hcond _ hL hS _
 exact contract W base args ds gs before hval hW (hcond _ rfl) hL hS
set_option maxRecDepth 100000 in
theorem saidUpto:Rows.ConsumeReadsUptoSaid :=
 OpenClaim.holds_of_cond 4 Tryz.f4 rfl rfl rfl rfl rfl rfl rfl ⟨rfl,rfl,rfl,rfl,rfl⟩ rfl rfl rfl rfl rfl named4 Tryz.func4 facts4 inst4 wrap4
  (fun os started H WB _ F =>by rw [OpenClaim.pre_eq_preRow];exact liftedUpto os started H WB F)
theorem plain (f:FuncId) (fn:Func) (hf:Tryz.pinned.checked.prog.funcNamed Rows.consumeReadsUptoRow.func = some f) (hfn:Tryz.pinned.checked.prog.funcs[f]? = some fn) :
  true = Tryz.pinned.checked.prog.looks []∧∀(j:Nat) t,fn.params[j]? = some t→Tryz.pinned.checked.prog.wantsStandIn t = false:=by
 obtain rfl:f = 4:=Option.some.inj (named4.symm.trans hf) |>.symm
 obtain rfl:fn = Tryz.f4:=(Option.some.inj (Tryz.func4.symm.trans hfn)).symm
 refine⟨looks4,fun j t ht =>?_⟩
 rw [Tryz.params4] at ht
 have h:t = 9 ∨ t = 35 ∨ t = 36:=by
  have:=Array.mem_of_getElem? ht
  simp at this
  rcases this with h | h | h <;> simp [h]
 rcases h with rfl | rfl | rfl
 ·exact stand9
 ·exact stand35
 ·exact stand36
/-- ████ THE CARD. -/
theorem cardUpto:Rows.ConsumeReadsUptoCardSaid :=
 Claim7.holds_tied_plain_at .later [] _ _ _ _ saidUpto (fun _ h =>by cases h) text4 (fun _ h =>by cases h) consumeReadsUpto_row_tie rfl ⟨rfl,rfl⟩ main4 rfl plain goes4
end Go.Proofs.YtkkegnkopmpjhaaGreatDoor
end