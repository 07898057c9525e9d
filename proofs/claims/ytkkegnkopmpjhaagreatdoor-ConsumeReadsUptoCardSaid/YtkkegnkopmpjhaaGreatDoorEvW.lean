/- The law Reads: one input that fits. -/
import Derived.Test.YtkkegnkopmpjhaaGreatDoorEvY
import Derived.Test.YtkkegnkopmpjhaaGreatDoorRows
import Derived.WalkKit
import Derived.ProofKit
import Derived.Deep.DeepHandedRow
import Derived.Lay
set_option linter.unusedVariables false
set_option linter.unusedSimpArgs false
set_option linter.all false
section
namespace Go.Ev.C
open Go.Proofs Go.RowKit Go.ChangeShapes Go.WideShapes
open Go.Proofs.YtkkegnkopmpjhaaGreatDoor
def wargs:Array Value:=#[.string ⟨#[]⟩,.slice none 0 0,.slice none 0 0]
noncomputable abbrev ww (os:Os):World:=World.laidAll Q os Rows.consumeReadsUptoRow.laid
set_option maxRecDepth 100000
theorem wshape (os:Os):((ww os).forCall (fun _ _ =>0) ⟨#[],wargs,[]⟩).Shaped Q:=World.shaped_of_ZipB (by kernel_rfl) (by kernel_rfl)
theorem wok (os:Os):Input.okWideB Q ((ww os).forCall (fun _ _ =>0) ⟨#[],wargs,[]⟩) 4 ⟨#[],wargs,[]⟩ = true:=by kernel_rfl
theorem wplain:(Rows.consumeReadsUptoRow.laid.filter fun x =>x.snd.handleName?.isSome) = []:=by kernel_rfl
theorem wmet0 (os:Os):laidMet Q Rows.consumeReadsUptoRow.laid ((ww os).forCall (fun _ _ =>0) ⟨#[],wargs,[]⟩).memory:=laidMet_laidAll _ (by kernel_rfl) (by kernel_rfl)
theorem wmet (os:Os):laidMetH Q Rows.consumeReadsUptoRow.laid ((ww os).forCall (fun _ _ =>0) ⟨#[],wargs,[]⟩).memory:=by
 unfold laidMetH
 rw [wplain]
 exact wmet0 os
theorem wreads (os:Os) {H:Type} (WB:TypeId × Value→H):∃places,DataW.whole WB Q ((ww os).forCall (fun _ _ =>0) ⟨#[],wargs,[]⟩).memory Tryz.f4.params.toList Rows.consumeReadsSpec.vars false wargs.toList 4 = some ([.lit (.string []),.nil,.nil],[],places) :=
 ⟨[],by kernel_rfl⟩
theorem witness (os:Os) {H:Type} (WB:TypeId × Value→H):∃(w:World) (tape:Tape) (i:Input),w.os = os∧(w.forCall tape i).Shaped Q∧i.vars = []∧Input.okWide Q (w.forCall tape i) .any w.heap.size 4 i ∧
   (Rows.OpenSpec.upto Rows.consumeReadsSpec).preRow WB Q Tryz.f4 Rows.consumeReadsUptoRow.domain false Rows.consumeReadsUptoRow.laid (w.forCall tape i).memory i.args∧({ modest:=false }:Assume).holds Q (lone (Frame.enter Q 4 i.args .normal) [] (w.forCall tape i)):=by
 obtain⟨places,hx⟩:=wreads os WB
 refine⟨ww os,fun _ _ =>0,⟨#[],wargs,[]⟩,World.laidAll_os _ _ _,wshape os,(Input.okWide_of_okWideB (base:=0) (wok os)).1,(Input.okWide_of_okWideB (wok os)).2,OpenSpec.preRow_of_cond 4 hx (by kernel_rfl) (fun k hk =>by cases hk;kernel_rfl) (by kernel_rfl) (wmet os),?_⟩
 simp only [Assume.holds]
 exact⟨by simp,by simp,fun _ =>Modest.zero,by simp,by simp⟩
end Go.Ev.C
end