/- ConsumeFormats answers true for every input of bulk at most 1048576 (the card of the second form): the listed variables start as the program's text lays them. -/
import Derived.Test.YtkkegnkopmpjhaaGreatDoorEvXc
import Derived.Test.YtkkegnkopmpjhaaGreatDoorEvXb
import Derived.Test.YtkkegnkopmpjhaaGreatDoorEvRa
import Derived.Test.YtkkegnkopmpjhaaGreatDoorEvRb
import Derived.Test.YtkkegnkopmpjhaaGreatDoorEvRc
import Derived.Test.YtkkegnkopmpjhaaGreatDoorEvRd
import Derived.Test.YtkkegnkopmpjhaaGreatDoorEvRe
import Derived.Test.YtkkegnkopmpjhaaGreatDoorEvRf
import Derived.Test.YtkkegnkopmpjhaaGreatDoorRows
import Derived.WalkKit
import Derived.ProofKit
import Derived.Deep.DeepHandedRow
import Derived.Test.YtkkegnkopmpjhaaGreatDoorCards
import Derived.Test.YtkkegnkopmpjhaaGreatDoorTie
import Derived.Test.YtkkegnkopmpjhaaGreatDoorEvW
import Derived.Test.YtkkegnkopmpjhaaGreatDoorEvQ
import Derived.Test.YtkkegnkopmpjhaaGreatDoorEvT
import Derived.Test.YtkkegnkopmpjhaaGreatDoorEvU
section
set_option linter.unusedVariables false
set_option linter.unusedSimpArgs false
set_option linter.defProp false
set_option linter.all false
namespace Go.Ev.C
open Go.Proofs Go.Fmt Go.RowKit Go.ChangeShapes Go.WideShapes Go.Deep
open Go.Proofs.YtkkegnkopmpjhaaGreatDoor
set_option maxRecDepth 100000
theorem cells_of_str {W : World} {r : Reach} {base : Nat} {v : Value} (ok : Value.okWide Q W r base 9 v) : v.cells.toList = [v] := by
  unfold Value.okWide at ok
  simp only [Tryz.underlying9] at ok
  cases v <;> first | rfl | (unfold Cell.okWide at ok; simp [Cell.ok, Tryz.underlying9] at ok)
theorem cells_of_slice22 {W : World} {r : Reach} {base : Nat} {v : Value} (ok : Value.okWide Q W r base 22 v) : v.cells.toList = [v] := by
  unfold Value.okWide at ok
  simp only [Tryz.underlying22] at ok
  cases v <;> first | rfl | (unfold Cell.okWide at ok; simp [Cell.ok, Tryz.underlying22] at ok)
theorem cells_of_slice23 {W : World} {r : Reach} {base : Nat} {v : Value} (ok : Value.okWide Q W r base 23 v) : v.cells.toList = [v] := by
  unfold Value.okWide at ok
  simp only [Tryz.underlying23] at ok
  cases v <;> first | rfl | (unfold Cell.okWide at ok; simp [Cell.ok, Tryz.underlying23] at ok)
theorem cells_of_slice24 {W : World} {r : Reach} {base : Nat} {v : Value} (ok : Value.okWide Q W r base 24 v) : v.cells.toList = [v] := by
  unfold Value.okWide at ok
  simp only [Tryz.underlying24] at ok
  cases v <;> first | rfl | (unfold Cell.okWide at ok; simp [Cell.ok, Tryz.underlying24] at ok)
theorem read9 : Q.readableRec 9 = true := by kernel_rfl
theorem read22 : Q.readableRec 22 = true := by kernel_rfl
theorem read23 : Q.readableRec 23 = true := by kernel_rfl
theorem read24 : Q.readableRec 24 = true := by kernel_rfl
theorem row23 : 23 < Q.types.size := of_decide_eq_true (by kernel_rfl)
theorem row24 : 24 < Q.types.size := of_decide_eq_true (by kernel_rfl)
theorem row9 : 9 < Q.types.size := of_decide_eq_true (by kernel_rfl)
theorem row22 : 22 < Q.types.size := of_decide_eq_true (by kernel_rfl)
section
variable {H : Type} {enc : TypeId × Value → H}
theorem open_str {W : World} {base : Nat} {v : Value} {d : DataW H} {p : List MemPlace} (hv : Value.okWide Q W .any base 9 v) (h : DataW.Trod enc Q W 0 (fun _ => true) true 9 v d p) :
    ∃ s : ByteArray, v = .string s ∧ (∀ c ∈ Xt s, c < 256) ∧ (Xt s).length + 1 ≤ Rows.uptoBulk d := by
  obtain ⟨n, hn⟩ := h
  rw [cells_of_str hv] at hn
  obtain ⟨s, e, hx, _⟩ := DataW.trod_string Tryz.underlying9 hn
  cases e
  refine ⟨s, rfl, bts_byte s, ?_⟩
  cases hx
  simp only [Rows.uptoBulk, Xt, List.length_map]
  omega
theorem open_items {W : World} {base : Nat} {v : Value} {d : DataW H} {p : List MemPlace} (hv : Value.okWide Q W .any base 22 v) (h : DataW.Trod enc Q W 0 (fun _ => true) true 22 v d p) :
    ∃ l : List (XB × AV), XR (ahOf W) (Yt W v) l ∧ 6 * l.length ≤ Rows.uptoBulk d ∧ (Rows.uptoBulk d ≤ 10000000 → ∀ y ∈ l, ItIn y.1 y.2) := by
  obtain ⟨n, hn⟩ := h
  rw [cells_of_slice22 hv] at hn
  obtain ⟨l, h1, h2, h3⟩ := read_items hn
  refine ⟨l, h1, h2, fun hb y hy => ?_⟩
  obtain ⟨k1, k2, k3, k4, k5, k6⟩ := h3 y hy
  have k6' : y.1.vs.length ≤ Rows.uptoBulk d := k6
  exact ⟨k2, k1, k3, k4, by omega, k5⟩
theorem open_syms {W : World} {base : Nat} {v : Value} {d : DataW H} {p : List MemPlace} (hv : Value.okWide Q W .any base 23 v) (h : DataW.Trod enc Q W 0 (fun _ => true) true 23 v d p) :
    ∃ l : List Xn, Xr (ahOf W) (Yt W v) l ∧ l.length < 9223372036854775808 ∧ (Rows.uptoBulk d ≤ 1900000 → ∀ z ∈ l, SymOk z) := by
  obtain ⟨n, hn⟩ := h
  rw [cells_of_slice23 hv] at hn
  exact read_syms hn
theorem open_addrs {W : World} {base : Nat} {v : Value} {d : DataW H} {p : List MemPlace} (hv : Value.okWide Q W .any base 24 v) (h : DataW.Trod enc Q W 0 (fun _ => true) true 24 v d p) :
    ∃ l : List Int, Wl (ahOf W) (Yt W v) l ∧ ∀ a ∈ l, -9223372036854775808 ≤ a ∧ a ≤ 9223372036854775807 := by
  obtain ⟨n, hn⟩ := h
  rw [cells_of_slice24 hv] at hn
  exact read_addrs hn
theorem contract (W : World) (base : Nat) (args : Array Value) (ds gs : List (DataW H)) (before : List MemPlace)
    (hval : ∀ (j : Nat) t v, Tryz.f3.params[j]? = some t → args[j]? = some v → Value.okWide Q W .any base t v)
    (hW : DataW.Whole enc Q Tryz.f3.params.toList Rows.consumeFormatsSpec.vars false W args.toList ds gs before) (hk : Rows.uptoSmall H (ds ++ gs) = true) (hL : laidMetH Q Rows.consumeFormatsUptoRow.laid W) (hS : W.ShapedOpen Q) :
    Calls Q 3 args W fun e W' => ∃ v, e = .returned v ∧ Rows.consumeFormatsSpec.post enc Q Tryz.f3 false true false false W args v W' := by
  have hW' := hW
  obtain ⟨p, q, hA0, hV, rfl, hfz, hnd⟩ := hW
  have hA : DataW.TrodAll enc Q W 0 (fun _ => true) true Tryz.f3.params.toList args.toList ds p := hA0
  rw [Tryz.params3] at hA hval
  obtain ⟨v0, v1, v2, v3, d0, d1, d2, d3, p0, p1, p2, p3, rfl, rfl, rfl, k0, k1, k2, k3⟩ := trodAll_four hA
  obtain ⟨rfl, rfl⟩ := trodVars_none hV
  obtain ⟨f, rfl, hf8, hfb⟩ := open_str (hval 0 9 v0 rfl rfl) k0
  obtain ⟨l, hl, hll, hli⟩ := open_items (hval 1 22 v1 rfl rfl) k1
  obtain ⟨sy, hsy, hsl, hsk⟩ := open_syms (hval 2 23 v2 rfl rfl) k2
  obtain ⟨ad, had, hab⟩ := open_addrs (hval 3 24 v3 rfl rfl) k3
  have hbulk := of_decide_eq_true hk
  simp only [List.append_nil, Rows.uptoBulkAll] at hbulk
  have hlaid : YM W := laid2_of hL hS
  obtain ⟨fr', H', ⟨hfn, hmd, hdf, hkd, v, hv, hΨ⟩, hld⟩ := formats_w (ahOf W) (Xt f) (Yt W v1) (Yt W v2) (Yt W v3) l sy ad hf8 hl (hli (by omega)) (by omega) hsy had (hsk (by omega)) hab hsl
  have ha : Xg (rhoW W) [.str (Xt f), Yt W v1, Yt W v2, Yt W v3] (#[Value.string f, v1, v2, v3] : Array Value).toList :=
    .cons (avOf_rel W (.string f) (by simp [Yt])) (.cons (avOf_rel W v1 (SL.ne hl.1)) (.cons (avOf_rel W v2 (SL.ne hsy.1)) (.cons (avOf_rel W v3 (SL.ne had.1)) .nil)))
  have run := calls_of_leadsL (P := Q) (en3 _ _ _ _) (hld []) hmd hdf hkd hfn hv (rhoW_GR W) (ahOf_rel W) hlaid ha
  refine run.mono fun e W' ⟨ρ', x, he, hx, hb⟩ => ?_
  subst hΨ
  cases hx
  subst he
  have hlt : ∀ p ∈ p0 ++ p1 ++ p2 ++ p3 ++ [], p.block < W.heap.size := fun p hp => hW'.lt p hp
  refine ⟨_,rfl,post_of_below (pa := p0 ++ (p1 ++ (p2 ++ p3))) (pv := []) hW' (fun _ _ _ => trodAll_cons_mk (shut_bool Tryz.underlying4 _) trodAll_mk0) (fun sp hsp => ?_) (fun _ _ => rfl) (by simp) hb (ok_one (by kernel_rfl) rfl (okWide_bool_mk Tryz.underlying4 _))⟩
  rw [Tryz.params3]
  exact trodAll_mk4
    (trod_keep laidOut read9 row9 k0 hb (fun x hx => hlt x (by simp [hx])) fun x hx => hsp x (by simp [hx]))
    (trod_keep laidOut read22 row22 k1 hb (fun x hx => hlt x (by simp [hx])) fun x hx => hsp x (by simp [hx]))
    (trod_keep laidOut read23 row23 k2 hb (fun x hx => hlt x (by simp [hx])) fun x hx => hsp x (by simp [hx]))
    (trod_keep laidOut read24 row24 k3 hb (fun x hx => hlt x (by simp [hx])) fun x hx => hsp x (by simp [hx]))
end
end Go.Ev.C
end
section
set_option linter.unusedVariables false
set_option linter.unusedSimpArgs false
set_option linter.defProp false
set_option linter.all false
namespace Go.Ev.C
open Go.Proofs Go.RowKit Go.ChangeShapes Go.WideShapes
open Go.Proofs.YtkkegnkopmpjhaaGreatDoor
set_option maxRecDepth 100000
theorem facts3 : joinedFacts Tryz.pinned.checked.prog 3 Tryz.f3 (Rows.OpenSpec.upto Rows.consumeFormatsSpec).bare Rows.consumeFormatsUptoRow = true := by
  unfold joinedFacts
  exact Wq (Wq (Wq (Wq (Wq (Wq (Wq (Wq (Wq (Wq (Wq (Wq (Wq (Wq (Wq (Wq (Wq (Wq (Wq (Wq (Wq (Wq (Wq (Wq (Wq (Wq (Wq (Wq (Wq (Wq (Wq (fk0) fk1) fk2) fk3) fk4) fk5) fk6) fk7) fk8) fk9) fk10) fk11) fk12) fk13) fk14) fk15) fk16) fk17) fk18) fk19) fk20) fk21) fk22) fk23) fk24) fk25) fk26) fk27) fk28) fk29) fk30) fk31
end Go.Ev.C
end
section
set_option linter.unusedVariables false
set_option linter.unusedSimpArgs false
set_option linter.defProp false
set_option linter.all false
namespace Go.Proofs.YtkkegnkopmpjhaaGreatDoor
open Go.ChangeShapes Go.WideShapes Go.ChangeAt Go.RowKit Go.Ev.C
set_option maxRecDepth 100000 in
theorem liftedUpto (os : Os) (started : os.Started) (H : Type) (enc : TypeId × Value → H) (F : Stop.Interp) :
    ReturnsInHanded {} Tryz.checked os 3 .any ((Rows.OpenSpec.upto Rows.consumeFormatsSpec).preRow enc Tryz.prog Tryz.f3 Rows.consumeFormatsUptoRow.domain false Rows.consumeFormatsUptoRow.laid) (((Rows.OpenSpec.upto Rows.consumeFormatsSpec).at F).post enc Tryz.prog Tryz.f3 false true false false) := by
  refine returnsInHanded_of_row (C := Tryz.checked) (s := Rows.OpenSpec.upto Rows.consumeFormatsSpec) own3 started init3 Tryz.func3 (witness os enc) ?_
  intro W base args ds gs before hval hW _ hcond _ hL hS _
  exact contract W base args ds gs before hval hW (hcond _ rfl) hL hS
set_option maxRecDepth 100000 in
theorem saidUpto : Rows.ConsumeFormatsUptoSaid :=
  OpenClaim.holds_of_cond 3 Tryz.f3 rfl rfl rfl rfl rfl rfl rfl ⟨rfl, rfl, rfl, rfl, rfl⟩ rfl rfl rfl rfl rfl named3 Tryz.func3 facts3 inst3 wrap3
    (fun os started H enc _ F => by rw [OpenClaim.pre_eq_preRow]; exact liftedUpto os started H enc F)
theorem plain (f : FuncId) (fn : Func) (hf : Tryz.pinned.checked.prog.funcNamed Rows.consumeFormatsUptoRow.func = some f) (hfn : Tryz.pinned.checked.prog.funcs[f]? = some fn) :
    true = Tryz.pinned.checked.prog.looks [] ∧ ∀ (j : Nat) t, fn.params[j]? = some t → Tryz.pinned.checked.prog.wantsStandIn t = false := by
  obtain rfl : f = 3 := Option.some.inj (named3.symm.trans hf) |>.symm
  obtain rfl : fn = Tryz.f3 := (Option.some.inj (Tryz.func3.symm.trans hfn)).symm
  refine ⟨looks3, fun j t ht => ?_⟩
  rw [Tryz.params3] at ht
  have h : t = 9 ∨ t = 22 ∨ t = 23 ∨ t = 24 := by
    have := Array.mem_of_getElem? ht
    simp at this
    rcases this with h | h | h | h <;> simp [h]
  rcases h with rfl | rfl | rfl | rfl
  · exact stand9
  · exact stand22
  · exact stand23
  · exact stand24
/-- ████ THE CARD. -/
theorem cardUpto : Rows.ConsumeFormatsUptoCardSaid :=
  Claim7.holds_tied_plain_at .later [] _ _ _ _ saidUpto (fun _ h => by cases h) text3 (fun _ h => by cases h) consumeFormatsUpto_row_tie rfl ⟨rfl, rfl⟩ main3 rfl plain goes3
end Go.Proofs.YtkkegnkopmpjhaaGreatDoor
end
