/- Laws: what their contracts have in common. -/
import Derived.Test.YtkkegnkopmpjhaaGreatDoorEvO
import Derived.WalkKit
import Derived.ProofKit
import Derived.OpenShut
import Derived.Carry
import Derived.Lib.SmallJoins
set_option linter.unusedVariables false
set_option linter.unusedSimpArgs false
set_option linter.all false
section
namespace Go.Ev.C
open Go.Proofs Go.RowKit Go.ChangeShapes Go.WideShapes Go.Deep
open Go.Proofs.YtkkegnkopmpjhaaGreatDoor
set_option maxRecDepth 100000
section
variable {H:Type} {WB:TypeId × Value→H} {P:Program}
theorem post_of_below {f:Func} {s:ChangeSpec} {apart fresh handsOn again:Bool} {W W':World} {args:Array Value} {v:Value} {ds gs:List (DataW H)} {before pa pv:List MemPlace}
  (hW:DataW.Whole WB P f.params.toList s.vars apart W args.toList ds gs before)
  (hres:∀(b:Nat) (sp:Nat→Bool) (hd:Bool),DataW.TrodAll WB P W' b sp hd f.resultTypes.toList (v.resultList f.resultTypes.size) (s.fn H (ds ++ gs)).results [])
  (hargs:∀sp:Nat→Bool,(∀p ∈ before,sp p.block = true)→DataW.TrodAll WB P W' 0 sp true f.params.toList args.toList (s.fn H (ds ++ gs)).args pa)
  (hvars:∀sp:Nat→Bool,(∀p ∈ before,sp p.block = true)→DataW.TrodVars WB P W' sp s.vars (s.fn H (ds ++ gs)).vars pv)
  (hps:before = pa ++ pv) (hb:Below W.heap.size W W')
  (hok:∀(j:Nat) (t:TypeId) (r:Value),f.resultTypes[j]? = some t→(v.resultList f.resultTypes.size)[j]? = some r→Value.okWide P W' .any 0 t r) :
  s.post WB P f apart fresh handsOn again W args v W':=by
 have hlt:∀p ∈ before,p.block < W.heap.size:=fun p hp =>hW.lt p hp
 have hold:∀p ∈ before,(fun b =>decide (b < W.heap.size)) p.block = true:=fun p hp =>by simpa using hlt p hp
 refine⟨ds,gs,before,[],pa,pv,hW,hres _ _ _,hargs _ hold,hvars _ hold,World.keptBut_mono (fun p hp =>⟨hp,?_⟩) (hb.frame (· ∈ before)),fun _ =>?_⟩
 ·rw [hps,List.mem_append] at hp
  exact Or.inr hp
 ·obtain⟨_,_,_,_,_,hz,hn⟩:=hW
  refine⟨hok,_,_,([] ++ pa) ++ pv,⟨[] ++ pa,pv,trodAll_append (hargs _ (fun _ _ =>rfl)) (hres _ _ _),hvars _ (fun _ _ =>rfl),rfl,?_,?_⟩,?_⟩
  ·intro b off hp
   have hin:MemPlace.cell b off ∈ before:=by rw [hps];simpa using hp
   rw [hb.frozen (hlt _ hin)]
   exact hz b off hin
  ·intro ha
   have:=hn ha
   rw [hps] at this
   simpa using this
  ·intro p hp _
   rw [hps]
   simpa using hp
theorem bulk_one (d:DataW H):1≤Rows.uptoBulk d:=by
 cases d with
 | lit l =>cases l <;> simp [Rows.uptoBulk]
 | _ =>simp [Rows.uptoBulk]
theorem bulk_length (l:List (DataW H)):l.length≤Rows.uptoBulkAll l:=by
 induction l with
 | nil =>simp [Rows.uptoBulkAll]
 | cons x r ih =>
  have:=bulk_one x
  simp only [Rows.uptoBulkAll,List.length_cons]
  omega
theorem trod_keep {t:TypeId} (hl:laidOutB P = true) (hr:P.readableRec t = true) (hrow:t < P.types.size) {W W':World} {v:Value} {d:DataW H} {ps:List MemPlace} {sp:Nat→Bool}
  (h:DataW.Trod WB P W 0 (fun _ =>true) true t v d ps) (hb:Below W.heap.size W W') (hlt:∀x ∈ ps,x.block < W.heap.size) (hsp:∀x ∈ ps,sp x.block = true):DataW.Trod WB P W' 0 sp true t v d ps :=
 WideElems.Trod_stays hl hr hrow h (fun x hx =>hb.same (hlt x hx)) hsp
end
theorem SL.ne {v:AV} {n:Nat} (h:SL v n):v ≠ .hole:=by cases h <;> simp
theorem laidOut:laidOutB Q = true:=by kernel_rfl
theorem read36:Q.readableRec 36 = true:=by kernel_rfl
theorem row36:36 < Q.types.size:=of_decide_eq_true (by kernel_rfl)
end Go.Ev.C
end