/- ConsumeSaved answers true for every input of bulk at most 1048576 (the card of the second form): the listed variables start as the program's text lays them. -/
import Derived.Test.YtkkegnkopmpjhaaGreatDoorEvXc
import Derived.Test.YtkkegnkopmpjhaaGreatDoorEvP
import Derived.Test.YtkkegnkopmpjhaaGreatDoorEvRa
import Derived.Test.YtkkegnkopmpjhaaGreatDoorEvRb
import Derived.Test.YtkkegnkopmpjhaaGreatDoorEvRc
import Derived.Test.YtkkegnkopmpjhaaGreatDoorEvRd
import Derived.Test.YtkkegnkopmpjhaaGreatDoorEvRe
import Derived.Test.YtkkegnkopmpjhaaGreatDoorEvRf
import Derived.Test.YtkkegnkopmpjhaaGreatDoorRows
import Derived.WalkKit
import Derived.ProofKit
import Derived.Deep.DeepHandedRow
import Derived.Test.YtkkegnkopmpjhaaGreatDoorCards
import Derived.Test.YtkkegnkopmpjhaaGreatDoorTie
import Derived.Test.YtkkegnkopmpjhaaGreatDoorEvW
import Derived.Test.YtkkegnkopmpjhaaGreatDoorEvQ
import Derived.Test.YtkkegnkopmpjhaaGreatDoorEvT
import Derived.Test.YtkkegnkopmpjhaaGreatDoorEvU
section
set_option linter.unusedVariables false
set_option linter.unusedSimpArgs false
set_option linter.defProp false
set_option linter.all false
namespace Go.Ev.C
open Go.Proofs Go.RowKit Go.ChangeShapes Go.WideShapes Go.Deep
open Go.Proofs.YtkkegnkopmpjhaaGreatDoor
set_option maxRecDepth 100000
theorem cells_of_slice35i {W : World} {r : Reach} {base : Nat} {v : Value} (ok : Value.okWide Q W r base 35 v) : v.cells.toList = [v] := by
  unfold Value.okWide at ok
  simp only [Tryz.underlying35] at ok
  cases v <;> first | rfl | (unfold Cell.okWide at ok; simp [Cell.ok, Tryz.underlying35] at ok)
theorem cells_of_slice36i {W : World} {r : Reach} {base : Nat} {v : Value} (ok : Value.okWide Q W r base 36 v) : v.cells.toList = [v] := by
  unfold Value.okWide at ok
  simp only [Tryz.underlying36] at ok
  cases v <;> first | rfl | (unfold Cell.okWide at ok; simp [Cell.ok, Tryz.underlying36] at ok)
theorem cells_of_int3i {W : World} {r : Reach} {base : Nat} {v : Value} (ok : Value.okWide Q W r base 3 v) : v.cells.toList = [v] := by
  unfold Value.okWide at ok
  simp only [Tryz.underlying3] at ok
  cases v <;> first | rfl | (unfold Cell.okWide at ok; simp [Cell.ok, Tryz.underlying3] at ok)
theorem read35 : Q.readableRec 35 = true := by kernel_rfl
theorem row35 : 35 < Q.types.size := of_decide_eq_true (by kernel_rfl)
theorem read3 : Q.readableRec 3 = true := by kernel_rfl
theorem row3 : 3 < Q.types.size := of_decide_eq_true (by kernel_rfl)
section
variable {H : Type} {Xn : TypeId × Value → H}
/-- A slice of batches. -/
theorem open_bats {W : World} {base : Nat} {v : Value} {d : DataW H} {p : List MemPlace} (hv : Value.okWide Q W .any base 36 v) (h : DataW.Trod Xn Q W 0 (fun _ => true) true 36 v d p) :
    ∃ l : List XH, YN (ahOf W) (Z5 W v) l ∧ (∀ d ∈ l, ∀ r ∈ d.recs, U8 r.r) ∧ l.length ≤ Rows.uptoBulk d := by
  obtain ⟨n, hn⟩ := h
  rw [cells_of_slice36i hv] at hn
  obtain ⟨l, hl, h8, hc⟩ := read_bats hn
  refine ⟨l, hl, h8, ?_⟩
  rcases hc with ⟨_, rfl⟩ | ⟨el, sp, hx, hlen⟩
  · simp
  · have hx' : d = .slice el sp := hx
    subst hx'
    have := bulk_length el
    simp only [Rows.uptoBulk]
    omega
/-- Bytes. -/
theorem open_bytes {W : World} {base : Nat} {v : Value} {d : DataW H} {p : List MemPlace} (hv : Value.okWide Q W .any base 35 v) (h : DataW.Trod Xn Q W 0 (fun _ => true) true 35 v d p) :
    ∃ s : List Nat, (∀ c ∈ s, c < 256) ∧ Ym (ahOf W) (Z5 W v) (Xc s) ∧ CapOk (Z5 W v) ∧ s.length ≤ Rows.uptoBulk d := by
  obtain ⟨n, hn⟩ := h
  rw [cells_of_slice35i hv] at hn
  obtain ⟨s, h8, hd, hcap, hc⟩ := read_src hn
  refine ⟨s, h8, hd, hcap, ?_⟩
  rcases hc with ⟨_, rfl⟩ | ⟨el, sp, hx, hlen⟩
  · simp
  · have hx' : d = .slice el sp := hx
    subst hx'
    have := bulk_length el
    simp only [Rows.uptoBulk]
    omega
theorem open_int3 {W : World} {base : Nat} {v : Value} {d : DataW H} {p : List MemPlace} (hv : Value.okWide Q W .any base 3 v) (h : DataW.Trod Xn Q W 0 (fun _ => true) true 3 v d p) : ∃ n : Int,v = .int .i64 n ∧ -9223372036854775808 ≤ n ∧ n ≤ 9223372036854775807 := by
  obtain ⟨k, hn⟩ := h
  rw [cells_of_int3i hv] at hn
  obtain ⟨n, e, _, hwf⟩ := DataW.trod_int Tryz.underlying3 hn
  cases e
  refine ⟨n, rfl, ?_⟩
  unfold Lit.wf at hwf
  simp only [Bool.and_eq_true, decide_eq_true_eq] at hwf
  have a : IntKind.i64.max = 9223372036854775807 := rfl
  rw [a] at hwf
  exact hwf
theorem contract (W : World) (base : Nat) (args : Array Value) (ds gs : List (DataW H)) (before : List MemPlace)
    (hval : ∀ (j : Nat) t v, Tryz.f6.params[j]? = some t → args[j]? = some v → Value.okWide Q W .any base t v)
    (hW : DataW.Whole Xn Q Tryz.f6.params.toList Rows.consumeSavedSpec.vars false W args.toList ds gs before) (hk : Rows.uptoSmall H (ds ++ gs) = true) (hL : laidMetH Q Rows.consumeSavedUptoRow.laid W) (hS : W.ShapedOpen Q) :
    Calls Q 6 args W fun e W' => ∃ v, e = .returned v ∧ Rows.consumeSavedSpec.post Xn Q Tryz.f6 false true false false W args v W' := by
  have hW' := hW
  obtain ⟨p, q, hA0, hV, rfl, hfz, hnd⟩ := hW
  have hA : DataW.TrodAll Xn Q W 0 (fun _ => true) true Tryz.f6.params.toList args.toList ds p := hA0
  rw [Tryz.params6] at hA hval
  obtain ⟨v0, v1, v2, d0, d1, d2, p0, p1, p2, rfl, rfl, rfl, k0, k1, k2⟩ := trodAll_three hA
  obtain ⟨rfl, rfl⟩ := trodVars_none hV
  obtain ⟨l, hl, h8, hll⟩ := open_bats (hval 0 36 v0 rfl rfl) k0
  obtain ⟨s, hs8, hs, hcap, hsl⟩ := open_bytes (hval 1 35 v1 rfl rfl) k1
  obtain ⟨z, rfl, hz⟩ := open_int3 (hval 2 3 v2 rfl rfl) k2
  have hbulk := of_decide_eq_true hk
  simp only [List.append_nil, Rows.uptoBulkAll] at hbulk
  have hlaid : Laid W := laid_of hL hS
  obtain ⟨fr', H', ⟨hfn, hmd, hdf, hkd, v, hv, hΨ⟩, hld⟩ := saved_w (ahOf W) (Z5 W v0) (Z5 W v1) z l s hl (by omega) h8 ⟨hs, hcap, by omega, hs8⟩ hz
  have ha : YK (rhoW W) [Z5 W v0, Z5 W v1, .int .i64 z] (#[v0, v1, Value.int .i64 z] : Array Value).toList :=
    .cons (avOf_rel W v0 (SL.ne hl.1)) (.cons (avOf_rel W v1 (SL.ne hs.1)) (.cons (.int _ _) .nil))
  have run := calls_of_leadsL (P := Q) (en6 _ _ _) (hld []) hmd hdf hkd hfn hv (rhoW_GR W) (ahOf_rel W) hlaid ha
  refine run.mono fun e W' ⟨ρ', x, he, hx, hb⟩ => ?_
  subst hΨ
  cases hx
  subst he
  have hlt : ∀ p ∈ p0 ++ p1 ++ p2 ++ [], p.block < W.heap.size := fun p hp => hW'.lt p hp
  refine ⟨_,rfl,post_of_below (pa := p0 ++ (p1 ++ p2)) (pv := []) hW' (fun _ _ _ => trodAll_cons_mk (shut_bool Tryz.underlying4 _) trodAll_mk0) (fun sp hsp => ?_) (fun _ _ => rfl) (by simp) hb (ok_one (by kernel_rfl) rfl (okWide_bool_mk Tryz.underlying4 _))⟩
  rw [Tryz.params6]
  exact trodAll_mk3
    (trod_keep laidOut read36 row36 k0 hb (fun x hx => hlt x (by simp [hx])) fun x hx => hsp x (by simp [hx]))
    (trod_keep laidOut read35 row35 k1 hb (fun x hx => hlt x (by simp [hx])) fun x hx => hsp x (by simp [hx]))
    (trod_keep laidOut read3 row3 k2 hb (fun x hx => hlt x (by simp [hx])) fun x hx => hsp x (by simp [hx]))
end
end Go.Ev.C
end
section
set_option linter.unusedVariables false
set_option linter.unusedSimpArgs false
set_option linter.defProp false
set_option linter.all false
namespace Go.Ev.C
open Go.Proofs Go.RowKit Go.ChangeShapes Go.WideShapes
open Go.Proofs.YtkkegnkopmpjhaaGreatDoor
set_option maxRecDepth 100000
theorem facts6 : joinedFacts Tryz.pinned.checked.prog 6 Tryz.f6 (Rows.OpenSpec.upto Rows.consumeSavedSpec).bare Rows.consumeSavedUptoRow = true := by
  unfold joinedFacts
  exact XP (XP (XP (XP (XP (XP (XP (XP (XP (XP (XP (XP (XP (XP (XP (XP (XP (XP (XP (XP (XP (XP (XP (XP (XP (XP (XP (XP (XP (XP (XP (fk0) fk1) fk2) fk3) fk4) fk5) fk6) fk7) fk8) fk9) fk10) fk11) fk12) fk13) fk14) fk15) fk16) fk17) fk18) fk19) fk20) fk21) fk22) fk23) fk24) fk25) fk26) fk27) fk28) fk29) fk30) fk31
end Go.Ev.C
end
section
set_option linter.unusedVariables false
set_option linter.unusedSimpArgs false
set_option linter.defProp false
set_option linter.all false
namespace Go.Proofs.YtkkegnkopmpjhaaGreatDoor
open Go.ChangeShapes Go.WideShapes Go.ChangeAt Go.RowKit Go.Ev.C
set_option maxRecDepth 100000 in
theorem liftedUpto (os : Os) (started : os.Started) (H : Type) (Xn : TypeId × Value → H) (F : Stop.Interp) :
    ReturnsInHanded {} Tryz.checked os 6 .any ((Rows.OpenSpec.upto Rows.consumeSavedSpec).preRow Xn Tryz.prog Tryz.f6 Rows.consumeSavedUptoRow.domain false Rows.consumeSavedUptoRow.laid) (((Rows.OpenSpec.upto Rows.consumeSavedSpec).at F).post Xn Tryz.prog Tryz.f6 false true false false) := by
  refine returnsInHanded_of_row (C := Tryz.checked) (s := Rows.OpenSpec.upto Rows.consumeSavedSpec) own6 started init6 Tryz.func6 (witness os Xn) ?_
  intro W base args ds gs before hval hW _ hcond _ hL hS _
  exact contract W base args ds gs before hval hW (hcond _ rfl) hL hS
set_option maxRecDepth 100000 in
theorem saidUpto : Rows.ConsumeSavedUptoSaid :=
  OpenClaim.holds_of_cond 6 Tryz.f6 rfl rfl rfl rfl rfl rfl rfl ⟨rfl, rfl, rfl, rfl, rfl⟩ rfl rfl rfl rfl rfl named6 Tryz.func6 facts6 inst6 wrap6
    (fun os started H Xn _ F => by rw [OpenClaim.pre_eq_preRow]; exact liftedUpto os started H Xn F)
theorem plain (f : FuncId) (fn : Func) (hf : Tryz.pinned.checked.prog.funcNamed Rows.consumeSavedUptoRow.func = some f) (hfn : Tryz.pinned.checked.prog.funcs[f]? = some fn) :
    true = Tryz.pinned.checked.prog.looks [] ∧ ∀ (j : Nat) t, fn.params[j]? = some t → Tryz.pinned.checked.prog.wantsStandIn t = false := by
  obtain rfl : f = 6 := Option.some.inj (named6.symm.trans hf) |>.symm
  obtain rfl : fn = Tryz.f6 := (Option.some.inj (Tryz.func6.symm.trans hfn)).symm
  refine ⟨looks6, fun j t ht => ?_⟩
  rw [Tryz.params6] at ht
  have h : t = 36 ∨ t = 35 ∨ t = 3 := by
    have := Array.mem_of_getElem? ht
    simp at this
    rcases this with h | h | h <;> simp [h]
  rcases h with rfl | rfl | rfl
  · exact stand36
  · exact stand35
  · exact stand3
/-- ████ THE CARD. -/
theorem cardUpto : Rows.ConsumeSavedUptoCardSaid :=
  Claim7.holds_tied_plain_at .later [] _ _ _ _ saidUpto (fun _ h => by cases h) text6 (fun _ h => by cases h) consumeSavedUpto_row_tie rfl ⟨rfl, rfl⟩ main6 rfl plain goes6
end Go.Proofs.YtkkegnkopmpjhaaGreatDoor
end
