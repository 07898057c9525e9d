/- ConsumeJoins answers true for every input of bulk at most 1048576 (the card of the second form): the listed variables start as the program's text lays them. -/
import Derived.Test.YtkkegnkopmpjhaaGreatDoorEvX
import Derived.Test.YtkkegnkopmpjhaaGreatDoorEvRa
import Derived.Test.YtkkegnkopmpjhaaGreatDoorEvRb
import Derived.Test.YtkkegnkopmpjhaaGreatDoorEvRc
import Derived.Test.YtkkegnkopmpjhaaGreatDoorEvRd
import Derived.Test.YtkkegnkopmpjhaaGreatDoorEvRe
import Derived.Test.YtkkegnkopmpjhaaGreatDoorEvRf
import Derived.Test.YtkkegnkopmpjhaaGreatDoorRows
import Derived.WalkKit
import Derived.ProofKit
import Derived.Deep.DeepHandedRow
import Derived.Test.YtkkegnkopmpjhaaGreatDoorCards
import Derived.Test.YtkkegnkopmpjhaaGreatDoorTie
import Derived.Test.YtkkegnkopmpjhaaGreatDoorEvW
import Derived.Test.YtkkegnkopmpjhaaGreatDoorEvQ
import Derived.Test.YtkkegnkopmpjhaaGreatDoorEvT
import Derived.Test.YtkkegnkopmpjhaaGreatDoorEvU
section
set_option linter.unusedVariables false
set_option linter.unusedSimpArgs false
set_option linter.defProp false
set_option linter.all false
namespace Go.Ev.C
open Go.Proofs Go.Fmt Go.RowKit Go.ChangeShapes Go.WideShapes Go.Deep
open Go.Proofs.YtkkegnkopmpjhaaGreatDoor
set_option maxRecDepth 100000
theorem at_len {f : List Nat} : ∀ (m p : Nat) (r : List Seg), f.length - p ≤ m → p ≤ f.length → at' f p = some r → r.length + p ≤ f.length
  | m, p, r, hm, hpl, h => by
    rcases Nat.lt_or_ge p f.length with hp | hp
    rotate_left
    · rw [at_end hp] at h
      cases h
      simpa using hpl
    cases m with
    | zero => omega
    | succ m =>
    by_cases hc : f[p] = 37
    · by_cases h37 : f[p + 1]? = some 37
      · rw [at_pct hp hc h37] at h
        obtain ⟨r', hr', rfl⟩ := Option.map_eq_some_iff.1 h
        have h1 := (List.getElem?_eq_some_iff.1 h37).1
        have := at_len m (p + 2) r' (by omega) (by omega) hr'
        simp
        omega
      · rw [at_cv hp hc h37] at h
        cases hs : scanK f 2 (digAt f p) with
        | none => rw [hs] at h; cases h
        | some e =>
          rw [hs] at h
          dsimp only at h
          obtain ⟨r', hr', rfl⟩ := Option.map_eq_some_iff.1 h
          have he := scanK_lt hs
          have hd := digAt_lt f p
          have := at_len m e r' (by omega) (by omega) hr'
          simp
          omega
    · rw [at_lit hp hc] at h
      obtain ⟨r', hr', rfl⟩ := Option.map_eq_some_iff.1 h
      have := at_len m (p + 1) r' (by omega) (by omega) hr'
      simp
      omega
theorem outS_len : ∀ (s : List Seg) (l : List ItD), (∀ t ∈ cvs s, IsCv t) → allFit (cvs s) l = true → (outS s l).length ≤ s.length + 200 * l.length
  | [], l, _, _ => by simp [outS]
  | .lit c :: s, l, h, hf => by
    have := outS_len s l h hf
    simp [outS]
    omega
  | .pct :: s, l, h, hf => by
    have := outS_len s l h hf
    simp [outS]
    omega
  | .cv t :: s, [], h, hf => by simp [outS]
  | .cv t :: s, x :: l, h, hf => by
    have e : allFit (cvs (.cv t :: s)) (x :: l) = (fit1 t x && allFit (cvs s) l) := rfl
    rw [e, Bool.and_eq_true] at hf
    have h1 := cvOut_len (h t (by simp [cvs])) hf.1
    have h2 := outS_len s l (fun u hu => h u (by simp [cvs, hu])) hf.2
    simp [outS]
    omega
theorem fmtR_len (f : List Nat) (l : List ItD) : ((fmtR f l).1).length ≤ f.length + 200 * l.length := by
  unfold fmtR
  cases hp : parse f with
  | none => simp
  | some a =>
    dsimp only
    split
    · rename_i h
      have h1 := outS_len a l (parse_isCv hp) h.2
      have h2 := at_len (f := f) f.length 0 a (by omega) (by omega) (by rw [← parse_eq]; exact hp)
      dsimp only
      omega
    · simp
theorem cells_of_str {W : World} {r : Reach} {base : Nat} {v : Value} (ok : Value.okWide Q W r base 9 v) : v.cells.toList = [v] := by
  unfold Value.okWide at ok
  simp only [Tryz.underlying9] at ok
  cases v <;> first | rfl | (unfold Cell.okWide at ok; simp [Cell.ok, Tryz.underlying9] at ok)
theorem cells_of_slice22 {W : World} {r : Reach} {base : Nat} {v : Value} (ok : Value.okWide Q W r base 22 v) : v.cells.toList = [v] := by
  unfold Value.okWide at ok
  simp only [Tryz.underlying22] at ok
  cases v <;> first | rfl | (unfold Cell.okWide at ok; simp [Cell.ok, Tryz.underlying22] at ok)
theorem read9 : Q.readableRec 9 = true := by kernel_rfl
theorem read22 : Q.readableRec 22 = true := by kernel_rfl
theorem row9 : 9 < Q.types.size := of_decide_eq_true (by kernel_rfl)
theorem row22 : 22 < Q.types.size := of_decide_eq_true (by kernel_rfl)
section
variable {H : Type} {enc : TypeId × Value → H}
theorem open_str {W : World} {base : Nat} {v : Value} {d : DataW H} {p : List MemPlace} (hv : Value.okWide Q W .any base 9 v) (h : DataW.Trod enc Q W 0 (fun _ => true) true 9 v d p) :
    ∃ s : ByteArray, v = .string s ∧ (∀ c ∈ bts s, c < 256) ∧ (bts s).length + 1 ≤ Rows.uptoBulk d := by
  obtain ⟨n, hn⟩ := h
  rw [cells_of_str hv] at hn
  obtain ⟨s, e, hx, _⟩ := DataW.trod_string Tryz.underlying9 hn
  cases e
  refine ⟨s, rfl, bts_byte s, ?_⟩
  cases hx
  simp only [Rows.uptoBulk, bts, List.length_map]
  omega
theorem open_items {W : World} {base : Nat} {v : Value} {d : DataW H} {p : List MemPlace} (hv : Value.okWide Q W .any base 22 v) (h : DataW.Trod enc Q W 0 (fun _ => true) true 22 v d p) :
    ∃ l : List (ItD × AV), ItemsAt (ahOf W) (avOf W v) l ∧ 6 * l.length ≤ Rows.uptoBulk d ∧ (Rows.uptoBulk d ≤ 10000000 → ∀ y ∈ l, ItIn y.1 y.2) := by
  obtain ⟨n, hn⟩ := h
  rw [cells_of_slice22 hv] at hn
  obtain ⟨l, h1, h2, h3⟩ := read_items hn
  refine ⟨l, h1, h2, fun hb y hy => ?_⟩
  obtain ⟨k1, k2, k3, k4, k5, k6⟩ := h3 y hy
  have k6' : y.1.vs.length ≤ Rows.uptoBulk d := k6
  exact ⟨k2, k1, k3, k4, by omega, k5⟩
theorem contract (W : World) (base : Nat) (args : Array Value) (ds gs : List (DataW H)) (before : List MemPlace)
    (hval : ∀ (j : Nat) t v, Tryz.f5.params[j]? = some t → args[j]? = some v → Value.okWide Q W .any base t v)
    (hW : DataW.Whole enc Q Tryz.f5.params.toList Rows.consumeJoinsSpec.vars false W args.toList ds gs before) (hk : Rows.uptoSmall H (ds ++ gs) = true) (hL : laidMetH Q Rows.consumeJoinsUptoRow.laid W) (hS : W.ShapedOpen Q) :
    Calls Q 5 args W fun e W' => ∃ v, e = .returned v ∧ Rows.consumeJoinsSpec.post enc Q Tryz.f5 false true false false W args v W' := by
  have hW' := hW
  obtain ⟨p, q, hA0, hV, rfl, hfz, hnd⟩ := hW
  have hA : DataW.TrodAll enc Q W 0 (fun _ => true) true Tryz.f5.params.toList args.toList ds p := hA0
  rw [Tryz.params5] at hA hval
  obtain ⟨v0, v1, v2, v3, d0, d1, d2, d3, p0, p1, p2, p3, rfl, rfl, rfl, k0, k1, k2, k3⟩ := trodAll_four hA
  obtain ⟨rfl, rfl⟩ := trodVars_none hV
  obtain ⟨f, rfl, hf8, hfb⟩ := open_str (hval 0 9 v0 rfl rfl) k0
  obtain ⟨l, hl, hll, hli⟩ := open_items (hval 1 22 v1 rfl rfl) k1
  obtain ⟨g, rfl, hg8, hgb⟩ := open_str (hval 2 9 v2 rfl rfl) k2
  obtain ⟨m, hm, hml, hmi⟩ := open_items (hval 3 22 v3 rfl rfl) k3
  have hbulk := of_decide_eq_true hk
  simp only [List.append_nil, Rows.uptoBulkAll] at hbulk
  have hlaid : Laid2 W := laid2_of hL hS
  have o1 := fmtR_len (bts f) (l.map (·.1))
  have o2 := fmtR_len (bts g) (m.map (·.1))
  rw [List.length_map] at o1 o2
  obtain ⟨fr', H', ⟨hfn, hmd, hdf, hkd, v, hv, hΨ⟩, hld⟩ := joins_w (ahOf W) (bts f) (bts g) (avOf W v1) (avOf W v3) l m hf8 hg8 hl hm (hli (by omega)) (hmi (by omega)) (by omega) (by omega) (by omega)
  have ha : VRs (rhoW W) [.str (bts f), avOf W v1, .str (bts g), avOf W v3] (#[Value.string f, v1, Value.string g, v3] : Array Value).toList :=
    .cons (avOf_rel W (.string f) (by simp [avOf])) (.cons (avOf_rel W v1 (SL.ne hl.1)) (.cons (avOf_rel W (.string g) (by simp [avOf])) (.cons (avOf_rel W v3 (SL.ne hm.1)) .nil)))
  have run := calls_of_leadsL (P := Q) (en5 _ _ _ _) (hld []) hmd hdf hkd hfn hv (rhoW_GR W) (ahOf_rel W) hlaid ha
  refine run.mono fun e W' ⟨ρ', x, he, hx, hb⟩ => ?_
  subst hΨ
  cases hx
  subst he
  have hlt : ∀ p ∈ p0 ++ p1 ++ p2 ++ p3 ++ [], p.block < W.heap.size := fun p hp => hW'.lt p hp
  refine ⟨_, rfl, post_of_below (pa := p0 ++ (p1 ++ (p2 ++ p3))) (pv := []) hW' (fun _ _ _ => trodAll_cons_mk (shut_bool Tryz.underlying4 _) trodAll_mk0) (fun sp hsp => ?_) (fun _ _ => rfl) (by simp) hb (ok_one (by kernel_rfl) rfl (okWide_bool_mk Tryz.underlying4 _))⟩
  rw [Tryz.params5]
  exact trodAll_mk4
    (trod_keep laidOut read9 row9 k0 hb (fun x hx => hlt x (by simp [hx])) fun x hx => hsp x (by simp [hx]))
    (trod_keep laidOut read22 row22 k1 hb (fun x hx => hlt x (by simp [hx])) fun x hx => hsp x (by simp [hx]))
    (trod_keep laidOut read9 row9 k2 hb (fun x hx => hlt x (by simp [hx])) fun x hx => hsp x (by simp [hx]))
    (trod_keep laidOut read22 row22 k3 hb (fun x hx => hlt x (by simp [hx])) fun x hx => hsp x (by simp [hx]))
end
end Go.Ev.C
end
section
set_option linter.unusedVariables false
set_option linter.unusedSimpArgs false
set_option linter.defProp false
set_option linter.all false
namespace Go.Ev.C
open Go.Proofs Go.RowKit Go.ChangeShapes Go.WideShapes
open Go.Proofs.YtkkegnkopmpjhaaGreatDoor
set_option maxRecDepth 100000
theorem facts5 : joinedFacts Tryz.pinned.checked.prog 5 Tryz.f5 (Rows.OpenSpec.upto Rows.consumeJoinsSpec).bare Rows.consumeJoinsUptoRow = true := by
  unfold joinedFacts
  exact and2 (and2 (and2 (and2 (and2 (and2 (and2 (and2 (and2 (and2 (and2 (and2 (and2 (and2 (and2 (and2 (and2 (and2 (and2 (and2 (and2 (and2 (and2 (and2 (and2 (and2 (and2 (and2 (and2 (and2 (and2 (fk0) fk1) fk2) fk3) fk4) fk5) fk6) fk7) fk8) fk9) fk10) fk11) fk12) fk13) fk14) fk15) fk16) fk17) fk18) fk19) fk20) fk21) fk22) fk23) fk24) fk25) fk26) fk27) fk28) fk29) fk30) fk31
end Go.Ev.C
end
section
set_option linter.unusedVariables false
set_option linter.unusedSimpArgs false
set_option linter.defProp false
set_option linter.all false
namespace Go.Proofs.YtkkegnkopmpjhaaGreatDoor
open Go.ChangeShapes Go.WideShapes Go.ChangeAt Go.RowKit Go.Ev.C
set_option maxRecDepth 100000 in
theorem liftedUpto (os : Os) (started : os.Started) (H : Type) (enc : TypeId × Value → H) (F : Stop.Interp) :
    ReturnsInHanded {} Tryz.checked os 5 .any ((Rows.OpenSpec.upto Rows.consumeJoinsSpec).preRow enc Tryz.prog Tryz.f5 Rows.consumeJoinsUptoRow.domain false Rows.consumeJoinsUptoRow.laid) (((Rows.OpenSpec.upto Rows.consumeJoinsSpec).at F).post enc Tryz.prog Tryz.f5 false true false false) := by
  refine returnsInHanded_of_row (C := Tryz.checked) (s := Rows.OpenSpec.upto Rows.consumeJoinsSpec) own5 started init5 Tryz.func5 (witness os enc) ?_
  intro W base args ds gs before hval hW _ hcond _ hL hS _
  exact contract W base args ds gs before hval hW (hcond _ rfl) hL hS
set_option maxRecDepth 100000 in
theorem saidUpto : Rows.ConsumeJoinsUptoSaid :=
  OpenClaim.holds_of_cond 5 Tryz.f5 rfl rfl rfl rfl rfl rfl rfl ⟨rfl, rfl, rfl, rfl, rfl⟩ rfl rfl rfl rfl rfl named5 Tryz.func5 facts5 inst5 wrap5
    (fun os started H enc _ F => by rw [OpenClaim.pre_eq_preRow]; exact liftedUpto os started H enc F)
theorem plain (f : FuncId) (fn : Func) (hf : Tryz.pinned.checked.prog.funcNamed Rows.consumeJoinsUptoRow.func = some f) (hfn : Tryz.pinned.checked.prog.funcs[f]? = some fn) :
    true = Tryz.pinned.checked.prog.looks [] ∧ ∀ (j : Nat) t, fn.params[j]? = some t → Tryz.pinned.checked.prog.wantsStandIn t = false := by
  obtain rfl : f = 5 := Option.some.inj (named5.symm.trans hf) |>.symm
  obtain rfl : fn = Tryz.f5 := (Option.some.inj (Tryz.func5.symm.trans hfn)).symm
  refine ⟨looks5, fun j t ht => ?_⟩
  rw [Tryz.params5] at ht
  have h : t = 9 ∨ t = 22 := by
    have := Array.mem_of_getElem? ht
    simp at this
    rcases this with h | h | h | h <;> simp [h]
  rcases h with rfl | rfl
  · exact stand9
  · exact stand22
/-- ████ THE CARD. -/
theorem cardUpto : Rows.ConsumeJoinsUptoCardSaid :=
  Claim7.holds_tied_plain_at .later [] _ _ _ _ saidUpto (fun _ h => by cases h) text5 (fun _ h => by cases h) consumeJoinsUpto_row_tie rfl ⟨rfl, rfl⟩ main5 rfl plain goes5
end Go.Proofs.YtkkegnkopmpjhaaGreatDoor
end
