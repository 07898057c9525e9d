/- ConsumeNumbers answers true for every input of bulk at most 1048576 (the card of the second form): the listed variables start as the program's text lays them. -/
import Derived.Test.YtkkegnkopmpjhaaGreatDoorEvX
import Derived.Test.YtkkegnkopmpjhaaGreatDoorEvP
import Derived.Test.YtkkegnkopmpjhaaGreatDoorEvRa
import Derived.Test.YtkkegnkopmpjhaaGreatDoorEvRb
import Derived.Test.YtkkegnkopmpjhaaGreatDoorEvRc
import Derived.Test.YtkkegnkopmpjhaaGreatDoorEvRd
import Derived.Test.YtkkegnkopmpjhaaGreatDoorEvRe
import Derived.Test.YtkkegnkopmpjhaaGreatDoorEvRf
import Derived.Test.YtkkegnkopmpjhaaGreatDoorRows
import Derived.WalkKit
import Derived.ProofKit
import Derived.Deep.DeepHandedRow
import Derived.Test.YtkkegnkopmpjhaaGreatDoorCards
import Derived.Test.YtkkegnkopmpjhaaGreatDoorTie
import Derived.Test.YtkkegnkopmpjhaaGreatDoorEvW
import Derived.Test.YtkkegnkopmpjhaaGreatDoorEvQ
import Derived.Test.YtkkegnkopmpjhaaGreatDoorEvT
import Derived.Test.YtkkegnkopmpjhaaGreatDoorEvU
section
set_option linter.unusedVariables false
set_option linter.unusedSimpArgs false
set_option linter.defProp false
set_option linter.all false
namespace Go.Ev.C
open Go.Proofs Go.Fmt Go.RowKit Go.ChangeShapes Go.WideShapes Go.Deep
open Go.Proofs.YtkkegnkopmpjhaaGreatDoor
set_option maxRecDepth 100000
theorem cells_of_int2 {W : World} {r : Reach} {base : Nat} {v : Value} (ok : Value.okWide Q W r base 2 v) : v.cells.toList = [v] := by
  unfold Value.okWide at ok
  simp only [Tryz.underlying2] at ok
  cases v <;> first | rfl | (unfold Cell.okWide at ok; simp [Cell.ok, Tryz.underlying2] at ok)
theorem cells_of_u8 {W : World} {r : Reach} {base : Nat} {v : Value} (ok : Value.okWide Q W r base 5 v) : v.cells.toList = [v] := by
  unfold Value.okWide at ok
  simp only [Tryz.underlying5] at ok
  cases v <;> first | rfl | (unfold Cell.okWide at ok; simp [Cell.ok, Tryz.underlying5] at ok)
theorem cells_of_bool {W : World} {r : Reach} {base : Nat} {v : Value} (ok : Value.okWide Q W r base 4 v) : v.cells.toList = [v] := by
  unfold Value.okWide at ok
  simp only [Tryz.underlying4] at ok
  cases v <;> first | rfl | (unfold Cell.okWide at ok; simp [Cell.ok, Tryz.underlying4] at ok)
theorem n2_64 : Q.cellsOf 64 = 2 := by kernel_rfl
theorem read64 : Q.readableRec 64 = true := by kernel_rfl
theorem read2 : Q.readableRec 2 = true := by kernel_rfl
theorem read5 : Q.readableRec 5 = true := by kernel_rfl
theorem read4 : Q.readableRec 4 = true := by kernel_rfl
theorem row64 : 64 < Q.types.size := of_decide_eq_true (by kernel_rfl)
theorem row2 : 2 < Q.types.size := of_decide_eq_true (by kernel_rfl)
theorem row5 : 5 < Q.types.size := of_decide_eq_true (by kernel_rfl)
theorem row4 : 4 < Q.types.size := of_decide_eq_true (by kernel_rfl)
section
variable {H : Type} {enc : TypeId × Value → H}
theorem open_int2 {W : World} {base : Nat} {v : Value} {d : DataW H} {p : List MemPlace} (hv : Value.okWide Q W .any base 2 v) (h : DataW.Trod enc Q W 0 (fun _ => true) true 2 v d p) : ∃ n : Int, v = .int .i64 n ∧ -9223372036854775808 ≤ n ∧ n ≤ 9223372036854775807 := by
  obtain ⟨k, hn⟩ := h
  rw [cells_of_int2 hv] at hn
  obtain ⟨n, e, _, hwf⟩ := DataW.trod_int Tryz.underlying2 hn
  cases e
  refine ⟨n, rfl, ?_⟩
  unfold Lit.wf at hwf
  simp only [Bool.and_eq_true, decide_eq_true_eq] at hwf
  have a : IntKind.i64.max = 9223372036854775807 := rfl
  rw [a] at hwf
  exact hwf
theorem open_u8 {W : World} {base : Nat} {v : Value} {d : DataW H} {p : List MemPlace} (hv : Value.okWide Q W .any base 5 v) (h : DataW.Trod enc Q W 0 (fun _ => true) true 5 v d p) : ∃ n : Nat, v = .int .u8 (n : Int) ∧ n < 256 := by
  obtain ⟨k, hn⟩ := h
  rw [cells_of_u8 hv] at hn
  obtain ⟨n, e, _, hwf⟩ := DataW.trod_int Tryz.underlying5 hn
  cases e
  have h1 : 0 ≤ n ∧ n < 256 := by
    unfold Lit.wf at hwf
    simp only [Bool.and_eq_true, decide_eq_true_eq] at hwf
    have a : IntKind.u8.min = 0 := rfl
    have b : IntKind.u8.max = 255 := rfl
    rw [a, b] at hwf
    omega
  exact ⟨n.toNat, by rw [Int.toNat_of_nonneg h1.1], by omega⟩
theorem open_bool {W : World} {base : Nat} {v : Value} {d : DataW H} {p : List MemPlace} (hv : Value.okWide Q W .any base 4 v) (h : DataW.Trod enc Q W 0 (fun _ => true) true 4 v d p) : ∃ b, v = .bool b := by
  obtain ⟨k, hn⟩ := h
  rw [cells_of_bool hv] at hn
  obtain ⟨b, e, _⟩ := DataW.trod_bool Tryz.underlying4 hn
  cases e
  exact ⟨b, rfl⟩
theorem open_num {W : World} {base : Nat} {v : Value} {d : DataW H} {p : List MemPlace} (hv : Value.okWide Q W .any base 64 v) (h : DataW.Trod enc Q W 0 (fun _ => true) true 64 v d p) : ∃ z g, v = .agg #[.int .i64 z, .bool g] := by
  obtain ⟨v0, v1, y0, y1, n, rfl, _, _, h0, h1⟩ := Joins.open_agg2 Tryz.underlying64 (by kernel_rfl) n2_64 hv h
  obtain ⟨z, e0, _, _⟩ := DataW.trod_int Tryz.underlying3 h0
  obtain ⟨g, e1, _⟩ := DataW.trod_bool Tryz.underlying4 h1
  cases e0; cases e1
  exact ⟨z, g, rfl⟩
theorem contract (W : World) (base : Nat) (args : Array Value) (ds gs : List (DataW H)) (before : List MemPlace)
    (hval : ∀ (j : Nat) t v, Tryz.f7.params[j]? = some t → args[j]? = some v → Value.okWide Q W .any base t v)
    (hW : DataW.Whole enc Q Tryz.f7.params.toList Rows.consumeNumbersSpec.vars false W args.toList ds gs before) (_hk : Rows.uptoSmall H (ds ++ gs) = true) (hL : laidMetH Q Rows.consumeNumbersUptoRow.laid W) (hS : W.ShapedOpen Q) :
    Calls Q 7 args W fun e W' => ∃ v, e = .returned v ∧ Rows.consumeNumbersSpec.post enc Q Tryz.f7 false true false false W args v W' := by
  have hW' := hW
  obtain ⟨p, q, hA0, hV, rfl, hfz, hnd⟩ := hW
  have hA : DataW.TrodAll enc Q W 0 (fun _ => true) true Tryz.f7.params.toList args.toList ds p := hA0
  rw [Tryz.params7] at hA hval
  obtain ⟨v0, v1, v2, v3, d0, d1, d2, d3, p0, p1, p2, p3, rfl, rfl, rfl, k0, k1, k2, k3⟩ := trodAll_four hA
  obtain ⟨rfl, rfl⟩ := trodVars_none hV
  obtain ⟨z, g, rfl⟩ := open_num (hval 0 64 v0 rfl rfl) k0
  obtain ⟨n, rfl, hn0, hn1⟩ := open_int2 (hval 1 2 v1 rfl rfl) k1
  obtain ⟨wd, rfl, hwd⟩ := open_u8 (hval 2 5 v2 rfl rfl) k2
  obtain ⟨left, rfl⟩ := open_bool (hval 3 4 v3 rfl rfl) k3
  have hlaid : Laid2 W := laid2_of hL hS
  obtain ⟨fr', H', ⟨hfn, hmd, hdf, hkd, v, hv, hΨ⟩, hld⟩ := numbers_w (ahOf W) z g n wd left hn0 hn1 hwd
  have ha : VRs (rhoW W) [.agg [.int .i64 z, .bool g], .int .i64 n, .int .u8 (wd : Int), .bool left] (#[Value.agg #[.int .i64 z, .bool g], .int .i64 n, .int .u8 (wd : Int), .bool left] : Array Value).toList :=
    .cons (.agg (.cons (.int _ _) (.cons (.bool _) .nil))) (.cons (.int _ _) (.cons (.int _ _) (.cons (.bool _) .nil)))
  have run := calls_of_leadsL (P := Q) (en7 _ _ _ _) (hld []) hmd hdf hkd hfn hv (rhoW_GR W) (ahOf_rel W) hlaid ha
  refine run.mono fun e W' ⟨ρ', x, he, hx, hb⟩ => ?_
  subst hΨ
  cases hx
  subst he
  have hlt : ∀ p ∈ p0 ++ p1 ++ p2 ++ p3 ++ [], p.block < W.heap.size := fun p hp => hW'.lt p hp
  refine ⟨_, rfl, post_of_below (pa := p0 ++ (p1 ++ (p2 ++ p3))) (pv := []) hW' (fun _ _ _ => trodAll_cons_mk (shut_bool Tryz.underlying4 _) trodAll_mk0) (fun sp hsp => ?_) (fun _ _ => rfl) (by simp) hb (ok_one (by kernel_rfl) rfl (okWide_bool_mk Tryz.underlying4 _))⟩
  rw [Tryz.params7]
  exact trodAll_mk4
    (trod_keep laidOut read64 row64 k0 hb (fun x hx => hlt x (by simp [hx])) fun x hx => hsp x (by simp [hx]))
    (trod_keep laidOut read2 row2 k1 hb (fun x hx => hlt x (by simp [hx])) fun x hx => hsp x (by simp [hx]))
    (trod_keep laidOut read5 row5 k2 hb (fun x hx => hlt x (by simp [hx])) fun x hx => hsp x (by simp [hx]))
    (trod_keep laidOut read4 row4 k3 hb (fun x hx => hlt x (by simp [hx])) fun x hx => hsp x (by simp [hx]))
end
end Go.Ev.C
end
section
set_option linter.unusedVariables false
set_option linter.unusedSimpArgs false
set_option linter.defProp false
set_option linter.all false
namespace Go.Ev.C
open Go.Proofs Go.RowKit Go.ChangeShapes Go.WideShapes
open Go.Proofs.YtkkegnkopmpjhaaGreatDoor
set_option maxRecDepth 100000
theorem facts7 : joinedFacts Tryz.pinned.checked.prog 7 Tryz.f7 (Rows.OpenSpec.upto Rows.consumeNumbersSpec).bare Rows.consumeNumbersUptoRow = true := by
  unfold joinedFacts
  exact and2 (and2 (and2 (and2 (and2 (and2 (and2 (and2 (and2 (and2 (and2 (and2 (and2 (and2 (and2 (and2 (and2 (and2 (and2 (and2 (and2 (and2 (and2 (and2 (and2 (and2 (and2 (and2 (and2 (and2 (and2 (fk0) fk1) fk2) fk3) fk4) fk5) fk6) fk7) fk8) fk9) fk10) fk11) fk12) fk13) fk14) fk15) fk16) fk17) fk18) fk19) fk20) fk21) fk22) fk23) fk24) fk25) fk26) fk27) fk28) fk29) fk30) fk31
end Go.Ev.C
end
section
set_option linter.unusedVariables false
set_option linter.unusedSimpArgs false
set_option linter.defProp false
set_option linter.all false
namespace Go.Proofs.YtkkegnkopmpjhaaGreatDoor
open Go.ChangeShapes Go.WideShapes Go.ChangeAt Go.RowKit Go.Ev.C
set_option maxRecDepth 100000 in
theorem liftedUpto (os : Os) (started : os.Started) (H : Type) (enc : TypeId × Value → H) (F : Stop.Interp) :
    ReturnsInHanded {} Tryz.checked os 7 .any ((Rows.OpenSpec.upto Rows.consumeNumbersSpec).preRow enc Tryz.prog Tryz.f7 Rows.consumeNumbersUptoRow.domain false Rows.consumeNumbersUptoRow.laid) (((Rows.OpenSpec.upto Rows.consumeNumbersSpec).at F).post enc Tryz.prog Tryz.f7 false true false false) := by
  refine returnsInHanded_of_row (C := Tryz.checked) (s := Rows.OpenSpec.upto Rows.consumeNumbersSpec) own7 started init7 Tryz.func7 (witness os enc) ?_
  intro W base args ds gs before hval hW _ hcond _ hL hS _
  exact contract W base args ds gs before hval hW (hcond _ rfl) hL hS
set_option maxRecDepth 100000 in
theorem saidUpto : Rows.ConsumeNumbersUptoSaid :=
  OpenClaim.holds_of_cond 7 Tryz.f7 rfl rfl rfl rfl rfl rfl rfl ⟨rfl, rfl, rfl, rfl, rfl⟩ rfl rfl rfl rfl rfl named7 Tryz.func7 facts7 inst7 wrap7
    (fun os started H enc _ F => by rw [OpenClaim.pre_eq_preRow]; exact liftedUpto os started H enc F)
theorem plain (f : FuncId) (fn : Func) (hf : Tryz.pinned.checked.prog.funcNamed Rows.consumeNumbersUptoRow.func = some f) (hfn : Tryz.pinned.checked.prog.funcs[f]? = some fn) :
    true = Tryz.pinned.checked.prog.looks [] ∧ ∀ (j : Nat) t, fn.params[j]? = some t → Tryz.pinned.checked.prog.wantsStandIn t = false := by
  obtain rfl : f = 7 := Option.some.inj (named7.symm.trans hf) |>.symm
  obtain rfl : fn = Tryz.f7 := (Option.some.inj (Tryz.func7.symm.trans hfn)).symm
  refine ⟨looks7, fun j t ht => ?_⟩
  rw [Tryz.params7] at ht
  have h : t = 64 ∨ t = 2 ∨ t = 5 ∨ t = 4 := by
    have := Array.mem_of_getElem? ht
    simp at this
    rcases this with h | h | h | h <;> simp [h]
  rcases h with rfl | rfl | rfl | rfl
  · exact stand64
  · exact stand2
  · exact stand5
  · exact stand4
/-- ████ THE CARD. -/
theorem cardUpto : Rows.ConsumeNumbersUptoCardSaid :=
  Claim7.holds_tied_plain_at .later [] _ _ _ _ saidUpto (fun _ h => by cases h) text7 (fun _ h => by cases h) consumeNumbersUpto_row_tie rfl ⟨rfl, rfl⟩ main7 rfl plain goes7
end Go.Proofs.YtkkegnkopmpjhaaGreatDoor
end
