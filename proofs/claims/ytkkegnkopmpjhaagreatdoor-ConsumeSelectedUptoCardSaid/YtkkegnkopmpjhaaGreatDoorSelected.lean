/- ConsumeSelected answers true for every input of bulk at most 1048576 (the card of the second form): the listed variables start as the program's text lays them. -/
import Derived.Test.YtkkegnkopmpjhaaGreatDoorEvL
import Derived.Test.YtkkegnkopmpjhaaGreatDoorEvP
import Derived.Test.YtkkegnkopmpjhaaGreatDoorEvRa
import Derived.Test.YtkkegnkopmpjhaaGreatDoorEvRb
import Derived.Test.YtkkegnkopmpjhaaGreatDoorEvRc
import Derived.Test.YtkkegnkopmpjhaaGreatDoorEvRd
import Derived.Test.YtkkegnkopmpjhaaGreatDoorEvRe
import Derived.Test.YtkkegnkopmpjhaaGreatDoorEvRf
import Derived.Test.YtkkegnkopmpjhaaGreatDoorRows
import Derived.WalkKit
import Derived.ProofKit
import Derived.Deep.DeepHandedRow
import Derived.Test.YtkkegnkopmpjhaaGreatDoorCards
import Derived.Test.YtkkegnkopmpjhaaGreatDoorTie
import Derived.Test.YtkkegnkopmpjhaaGreatDoorEvW
import Derived.Test.YtkkegnkopmpjhaaGreatDoorEvQ
import Derived.Test.YtkkegnkopmpjhaaGreatDoorEvT
import Derived.Test.YtkkegnkopmpjhaaGreatDoorEvU
section
set_option linter.unusedVariables false
set_option linter.unusedSimpArgs false
set_option linter.defProp false
set_option linter.all false
namespace Go.Ev.C
open Go.Proofs Go.RowKit Go.ChangeShapes Go.WideShapes Go.Deep
open Go.Proofs.YtkkegnkopmpjhaaGreatDoor
set_option maxRecDepth 100000
theorem cells_of_slice84 {W : World} {r : Reach} {base : Nat} {v : Value} (ok : Value.okWide Q W r base 84 v) : v.cells.toList = [v] := by
  unfold Value.okWide at ok
  simp only [Tryz.underlying84] at ok
  cases v <;> first | rfl | (unfold Cell.okWide at ok; simp [Cell.ok, Tryz.underlying84] at ok)
theorem read84 : Q.readableRec 84 = true := by kernel_rfl
theorem row84 : 84 < Q.types.size := of_decide_eq_true (by kernel_rfl)
theorem four_mul (a b : Nat) : 4 * (a * b) ≤ (a + b) * (a + b) := by
  rcases Nat.le_total a b with h | h
  · obtain ⟨d, rfl⟩ := Nat.exists_eq_add_of_le h
    have : (a + (a + d)) * (a + (a + d)) = 4 * (a * (a + d)) + d * d := by
      simp only [Nat.mul_add, Nat.add_mul, Nat.mul_comm d a]
      omega
    omega
  · obtain ⟨d, rfl⟩ := Nat.exists_eq_add_of_le h
    have : (b + d + b) * (b + d + b) = 4 * ((b + d) * b) + d * d := by
      simp only [Nat.mul_add, Nat.add_mul, Nat.mul_comm d b]
      omega
    omega
theorem prod_small {a b : Nat} (h : a + b ≤ 1048576) : a * b ≤ 274877906944 := by
  have h1 := four_mul a b
  have h2 : (a + b) * (a + b) ≤ 1048576 * 1048576 := Nat.mul_le_mul h h
  omega
section
variable {H : Type} {enc : TypeId × Value → H}
/-- A batch, by value. -/
theorem open_batch {W : World} {base : Nat} {v : Value} {d : DataW H} {p : List MemPlace} (hv : Value.okWide Q W .any base 80 v) (h : DataW.Trod enc Q W 0 (fun _ => true) true 80 v d p) :
    ∃ c r dr b, v = .agg #[.int .i64 c, r, .int .i64 dr, .bool b] ∧ ∃ l : List RecD, l.length < 9223372036854775808 ∧ (∀ d ∈ l, U8 d.r) ∧ RecsAt (ahOf W) (avOf W r) l := by
  obtain ⟨v0, v1, v2, v3, y0, y1, y2, y3, n, rfl, _, _, h0, h1, h2, h3⟩ := Joins.open_agg4 Tryz.underlying80 (by kernel_rfl) cells80 hv h
  obtain ⟨c, e0, _, _⟩ := DataW.trod_int Tryz.underlying3 h0
  obtain ⟨dr, e2, _, _⟩ := DataW.trod_int Tryz.underlying3 h2
  obtain ⟨b, e3, _⟩ := DataW.trod_bool Tryz.underlying4 h3
  cases e0; cases e2; cases e3
  exact ⟨c, v1, dr, b, rfl, read_recs h1⟩
/-- A slice of numbers. -/
theorem open_ints {W : World} {base : Nat} {v : Value} {d : DataW H} {p : List MemPlace} (hv : Value.okWide Q W .any base 84 v) (h : DataW.Trod enc Q W 0 (fun _ => true) true 84 v d p) :
    ∃ l : List Int, IntsAt (ahOf W) (avOf W v) l ∧ l.length ≤ Rows.uptoBulk d := by
  obtain ⟨n, hn⟩ := h
  rw [cells_of_slice84 hv] at hn
  obtain ⟨l, hl, hc⟩ := read_ints hn
  refine ⟨l, hl, ?_⟩
  rcases hc with ⟨_, rfl⟩ | ⟨el, sp, hx, hlen⟩
  · simp
  · have hx' : d = .slice el sp := hx
    subst hx'
    have := bulk_length el
    simp only [Rows.uptoBulk]
    omega
theorem contract (W : World) (base : Nat) (args : Array Value) (ds gs : List (DataW H)) (before : List MemPlace)
    (hval : ∀ (j : Nat) t v, Tryz.f9.params[j]? = some t → args[j]? = some v → Value.okWide Q W .any base t v)
    (hW : DataW.Whole enc Q Tryz.f9.params.toList Rows.consumeSelectedSpec.vars false W args.toList ds gs before) (hk : Rows.uptoSmall H (ds ++ gs) = true) (hL : laidMetH Q Rows.consumeSelectedUptoRow.laid W) (hS : W.ShapedOpen Q) :
    Calls Q 9 args W fun e W' => ∃ v, e = .returned v ∧ Rows.consumeSelectedSpec.post enc Q Tryz.f9 false true false false W args v W' := by
  have hW' := hW
  obtain ⟨p, q, hA0, hV, rfl, hfz, hnd⟩ := hW
  have hA : DataW.TrodAll enc Q W 0 (fun _ => true) true Tryz.f9.params.toList args.toList ds p := hA0
  rw [Tryz.params9] at hA hval
  obtain ⟨v0, v1, v2, d0, d1, d2, p0, p1, p2, rfl, rfl, rfl, k0, k1, k2⟩ := trodAll_three hA
  obtain ⟨rfl, rfl⟩ := trodVars_none hV
  obtain ⟨c1, r1, dr1, b1, rfl, l1, hn1, h8, hr1⟩ := open_batch (hval 0 80 v0 rfl rfl) k0
  obtain ⟨l, hl, hll⟩ := open_ints (hval 1 84 v1 rfl rfl) k1
  obtain ⟨m, hm, hml⟩ := open_ints (hval 2 84 v2 rfl rfl) k2
  have hbulk := of_decide_eq_true hk
  simp only [List.append_nil, Rows.uptoBulkAll] at hbulk
  have hlaid : Laid W := laid_of hL hS
  obtain ⟨fr', H', ⟨hfn, hmd, hdf, hkd, v, hv, hΨ⟩, hld⟩ := selected_w (L := Laid) sane_c (ahOf W) c1 dr1 b1 (avOf W r1) (avOf W v1) (avOf W v2) l1 l m hr1 hn1 h8 hl hm (by omega) (by omega) (prod_small (by omega))
  have ha : VRs (rhoW W) [BV c1 (avOf W r1) dr1 b1, avOf W v1, avOf W v2] (#[Value.agg #[.int .i64 c1, r1, .int .i64 dr1, .bool b1], v1, v2] : Array Value).toList :=
    .cons (.agg (.cons (.int _ _) (.cons (avOf_rel W r1 (SL.ne hr1.1)) (.cons (.int _ _) (.cons (.bool _) .nil))))) (.cons (avOf_rel W v1 (SL.ne hl.1)) (.cons (avOf_rel W v2 (SL.ne hm.1)) .nil))
  have run := calls_of_leadsL (P := Q) (en9 _ _ _) (hld []) hmd hdf hkd hfn hv (rhoW_GR W) (ahOf_rel W) hlaid ha
  refine run.mono fun e W' ⟨ρ', x, he, hx, hb⟩ => ?_
  subst hΨ
  cases hx
  subst he
  have hlt : ∀ p ∈ p0 ++ p1 ++ p2 ++ [], p.block < W.heap.size := fun p hp => hW'.lt p hp
  refine ⟨_, rfl, post_of_below (pa := p0 ++ (p1 ++ p2)) (pv := []) hW' (fun _ _ _ => trodAll_cons_mk (shut_bool Tryz.underlying4 _) trodAll_mk0) (fun sp hsp => ?_) (fun _ _ => rfl) (by simp) hb (ok_one (by kernel_rfl) rfl (okWide_bool_mk Tryz.underlying4 _))⟩
  rw [Tryz.params9]
  exact trodAll_mk3
    (trod_keep laidOut read80 row80 k0 hb (fun x hx => hlt x (by simp [hx])) fun x hx => hsp x (by simp [hx]))
    (trod_keep laidOut read84 row84 k1 hb (fun x hx => hlt x (by simp [hx])) fun x hx => hsp x (by simp [hx]))
    (trod_keep laidOut read84 row84 k2 hb (fun x hx => hlt x (by simp [hx])) fun x hx => hsp x (by simp [hx]))
end
end Go.Ev.C
end
section
set_option linter.unusedVariables false
set_option linter.unusedSimpArgs false
set_option linter.defProp false
set_option linter.all false
namespace Go.Ev.C
open Go.Proofs Go.RowKit Go.ChangeShapes Go.WideShapes
open Go.Proofs.YtkkegnkopmpjhaaGreatDoor
set_option maxRecDepth 100000
theorem facts9 : joinedFacts Tryz.pinned.checked.prog 9 Tryz.f9 (Rows.OpenSpec.upto Rows.consumeSelectedSpec).bare Rows.consumeSelectedUptoRow = true := by
  unfold joinedFacts
  exact and2 (and2 (and2 (and2 (and2 (and2 (and2 (and2 (and2 (and2 (and2 (and2 (and2 (and2 (and2 (and2 (and2 (and2 (and2 (and2 (and2 (and2 (and2 (and2 (and2 (and2 (and2 (and2 (and2 (and2 (and2 (fk0) fk1) fk2) fk3) fk4) fk5) fk6) fk7) fk8) fk9) fk10) fk11) fk12) fk13) fk14) fk15) fk16) fk17) fk18) fk19) fk20) fk21) fk22) fk23) fk24) fk25) fk26) fk27) fk28) fk29) fk30) fk31
end Go.Ev.C
end
section
set_option linter.unusedVariables false
set_option linter.unusedSimpArgs false
set_option linter.defProp false
set_option linter.all false
namespace Go.Proofs.YtkkegnkopmpjhaaGreatDoor
open Go.ChangeShapes Go.WideShapes Go.ChangeAt Go.RowKit Go.Ev.C
set_option maxRecDepth 100000 in
theorem liftedUpto (os : Os) (started : os.Started) (H : Type) (enc : TypeId × Value → H) (F : Stop.Interp) :
    ReturnsInHanded {} Tryz.checked os 9 .any ((Rows.OpenSpec.upto Rows.consumeSelectedSpec).preRow enc Tryz.prog Tryz.f9 Rows.consumeSelectedUptoRow.domain false Rows.consumeSelectedUptoRow.laid) (((Rows.OpenSpec.upto Rows.consumeSelectedSpec).at F).post enc Tryz.prog Tryz.f9 false true false false) := by
  refine returnsInHanded_of_row (C := Tryz.checked) (s := Rows.OpenSpec.upto Rows.consumeSelectedSpec) own9 started init9 Tryz.func9 (witness os enc) ?_
  intro W base args ds gs before hval hW _ hcond _ hL hS _
  exact contract W base args ds gs before hval hW (hcond _ rfl) hL hS
set_option maxRecDepth 100000 in
theorem saidUpto : Rows.ConsumeSelectedUptoSaid :=
  OpenClaim.holds_of_cond 9 Tryz.f9 rfl rfl rfl rfl rfl rfl rfl ⟨rfl, rfl, rfl, rfl, rfl⟩ rfl rfl rfl rfl rfl named9 Tryz.func9 facts9 inst9 wrap9
    (fun os started H enc _ F => by rw [OpenClaim.pre_eq_preRow]; exact liftedUpto os started H enc F)
theorem plain (f : FuncId) (fn : Func) (hf : Tryz.pinned.checked.prog.funcNamed Rows.consumeSelectedUptoRow.func = some f) (hfn : Tryz.pinned.checked.prog.funcs[f]? = some fn) :
    true = Tryz.pinned.checked.prog.looks [] ∧ ∀ (j : Nat) t, fn.params[j]? = some t → Tryz.pinned.checked.prog.wantsStandIn t = false := by
  obtain rfl : f = 9 := Option.some.inj (named9.symm.trans hf) |>.symm
  obtain rfl : fn = Tryz.f9 := (Option.some.inj (Tryz.func9.symm.trans hfn)).symm
  refine ⟨looks9, fun j t ht => ?_⟩
  rw [Tryz.params9] at ht
  have h : t = 80 ∨ t = 84 := by
    have := Array.mem_of_getElem? ht
    simp at this
    omega
  rcases h with rfl | rfl
  · exact stand80
  · exact stand84
/-- ████ THE CARD. -/
theorem cardUpto : Rows.ConsumeSelectedUptoCardSaid :=
  Claim7.holds_tied_plain_at .later [] _ _ _ _ saidUpto (fun _ h => by cases h) text9 (fun _ h => by cases h) consumeSelectedUpto_row_tie rfl ⟨rfl, rfl⟩ main9 rfl plain goes9
end Go.Proofs.YtkkegnkopmpjhaaGreatDoor
end
