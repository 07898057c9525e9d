/- Contracts of the functions that the law calls: Select. -/
import Derived.Test.YtkkegnkopmpjhaaGreatDoorEvH
section
set_option linter.unusedVariables false
set_option linter.unusedSimpArgs false
set_option linter.defProp false
set_option linter.all false
namespace Go.Ev.C
open Go.Proofs
set_option maxRecDepth 100000
set_option linter.unusedSimpArgs false
variable {L : World → Prop} [Good Q L]
theorem cu62c (x : AV) (l : List AV) (H : AH) : callU Q (.func 62 [] [x]) l H = some (.enter 62 ([] ++ l ++ [x]), H) := by kernel_rfl
/-- A list of numbers. -/
def IntsAt (H : AH) (v : AV) (l : List Int) : Prop := SL v l.length ∧ ∀ b off n cap, v = .slice b off n cap → l ≠ [] → ∃ c, b < H.next ∧ H.cellsAt b = some c ∧ ∀ (i : Nat) (z : Int), l[i]? = some z → c[off + i * 1]? = some (.int .i64 z)
theorem IntsAt.up {H H' : AH} (u : Up H H') {v : AV} {l : List Int} (h : IntsAt H v l) : IntsAt H' v l :=
  ⟨h.1, fun b off n cap e hn => by
    obtain ⟨c, hb, hc, hr⟩ := h.2 b off n cap e hn
    exact ⟨c, Nat.lt_of_lt_of_le hb u.next, by rw [u.cellsAt hb]; exact hc, hr⟩⟩
theorem IntsAt.lock {H : AH} {v : AV} {l : List Int} (h : IntsAt H v l) : IntsAt (lock H) v l :=
  ⟨h.1, fun b off n cap e hn => by
    obtain ⟨c, hb, hc, hr⟩ := h.2 b off n cap e hn
    exact ⟨c, hb, lock_cellsAt hc, hr⟩⟩
theorem IntsAt.at {H : AH} {v : AV} {l : List Int} (h : IntsAt H v l) {i : Nat} (hi : i < l.length) : ∃ b off cap c, v = .slice b off l.length cap ∧ H.cellsAt b = some c ∧ c[off + i * 1]? = some (.int .i64 l[i]) := by
  obtain ⟨h1, h2⟩ := h
  generalize hn : l.length = n at h1
  cases h1 with
  | nil => omega
  | sl b off n cap =>
    obtain ⟨c, _, hc, hr⟩ := h2 b off _ cap rfl (by intro e; subst e; simp at hi)
    exact ⟨b, off, cap, c, rfl, hc, hr i l[i] (List.getElem?_eq_getElem hi)⟩

theorem idxInt_c (H : AH) (v : AV) (l : List Int) (x : Int) (hr : IntsAt H v l) (hlen : l.length < 9223372036854775808) : Fn Q L 104 [v, .int .i64 x] H (fun w H' => ∃ r : Int, w = .int .i64 r ∧ decide (0 ≤ r) = l.contains x ∧ H' = H) := by
  refine Fn.intro (en104 _ _) ?_
  have hs := hr.1
  unfold c104 Tryz.f104
  simp only [Option.getD_some]
  repeat (first | refine WF.seq ?_ | refine WF.regionL ?_ | refine WO.nil ?_ | refine WF.block ?_ | refine WF.skip ?_ | refine WF.endBlock ?_ | (apply WF.exit; (focus (exact rfl))) | (apply WO.op; (focus ((simp only [rO, wantedU, lay, li, lo, reduceIte, Nat.reduceEqDiff, Nat.reduceAdd, beq_self_eq_true]; done))); (focus (simp only [rE, rO, li, lo, lay, evalL, ofConst, storeU, AH.set, AV.cells, if_true, if_false, reduceIte, Nat.reduceEqDiff, Nat.reduceAdd, Nat.reduceMul, und84, len_SL und84 hs]; exact rfl)); (focus (exact rfl))) | (apply WO.unwanted; (focus ((simp only [rO, wantedU, lay, li, lo, reduceIte, Nat.reduceEqDiff, Nat.reduceAdd, beq_self_eq_true]; done))); (focus (exact rfl))))
  refine WF.while (fun m t H' => ∃ i : Nat, H' = H ∧ i + m = l.length ∧ (∀ j (h : j < l.length), j < i → l[j] ≠ x) ∧ t.get 0 = some v ∧ t.get 1 = some (.int .i64 x) ∧ t.get 7 = some (.int .i64 (l.length : Int)) ∧ t.get 8 = some (.int .i64 (i : Int))) l.length ?_ ?_
  · refine ⟨0, rfl, by omega, fun j h hj => by omega, ?_, ?_, ?_, ?_⟩ <;> simp [Tri.gp, lay]
  rintro m t H' ⟨i, rfl, him, hok, ht0, ht1, ht7, ht8⟩ ih
  by_cases hi : i < l.length
  · have hlt : decide ((i : Int) < (l.length : Int)) = true := by simp; omega
    obtain ⟨b, off, cap, c, rfl, hc, hcell⟩ := hr.at hi
    repeat (first | refine WF.seq ?_ | refine WF.regionL ?_ | refine WO.nil ?_ | refine WF.block ?_ | refine WF.skip ?_ | refine WF.endBlock ?_ | (apply WF.exit; (focus (exact rfl))) | (apply WO.op; (focus ((simp only [rO, wantedU, lay, li, lo, reduceIte, Nat.reduceEqDiff, Nat.reduceAdd, beq_self_eq_true, hlt]; done))); (focus (simp only [rE, rO, li, lo, lay, evalL, ofConst, storeU, AH.set, AV.cells, if_true, if_false, reduceIte, Nat.reduceEqDiff, Nat.reduceAdd, Nat.reduceMul, und84, len_SL und84 hs, loadVar_one agg3, ht0, ht1, ht7, ht8, hlt]; exact rfl)); (focus (exact rfl))) | (apply WO.unwanted; (focus ((simp only [rO, wantedU, lay, li, lo, reduceIte, Nat.reduceEqDiff, Nat.reduceAdd, beq_self_eq_true, hlt]; done))); (focus (exact rfl))))
    (first | (apply WF.condT; (focus (simp only [evalO, ofConst, Tri.gp, lay, Bool.not_true, Bool.not_false, reduceIte, Nat.reduceEqDiff, hlt]; done))) | (apply WF.condF; (focus (simp only [evalO, ofConst, Tri.gp, lay, Bool.not_true, Bool.not_false, reduceIte, Nat.reduceEqDiff, hlt]; done))))
    repeat (first | refine WF.seq ?_ | refine WF.regionL ?_ | refine WO.nil ?_ | refine WF.block ?_ | refine WF.skip ?_ | refine WF.endBlock ?_ | (apply WF.exit; (focus (exact rfl))) | (apply WO.op; (focus ((simp only [rO, wantedU, lay, li, lo, reduceIte, Nat.reduceEqDiff, Nat.reduceAdd, beq_self_eq_true, hlt]; done))); (focus (simp only [rE, rO, li, lo, lay, evalL, ofConst, storeU, AH.set, AV.cells, if_true, if_false, reduceIte, Nat.reduceEqDiff, Nat.reduceAdd, Nat.reduceMul, und84, len_SL und84 hs, loadVar_one agg3, ht0, ht1, ht7, ht8, hlt, index_SL und84 sz3 hi, hc, hcell]; exact rfl)); (focus (exact rfl))) | (apply WO.unwanted; (focus ((simp only [rO, wantedU, lay, li, lo, reduceIte, Nat.reduceEqDiff, Nat.reduceAdd, beq_self_eq_true, hlt]; done))); (focus (exact rfl))))
    cases hv : decide (x = l[i])
    · (first | (apply WF.condT; (focus (simp only [evalO, ofConst, Tri.gp, lay, Bool.not_true, Bool.not_false, reduceIte, Nat.reduceEqDiff, hv]; done))) | (apply WF.condF; (focus (simp only [evalO, ofConst, Tri.gp, lay, Bool.not_true, Bool.not_false, reduceIte, Nat.reduceEqDiff, hv]; done))))
      repeat (first | refine WF.seq ?_ | refine WF.regionL ?_ | refine WO.nil ?_ | refine WF.block ?_ | refine WF.skip ?_ | refine WF.endBlock ?_ | (apply WF.exit; (focus (exact rfl))) | (apply WO.op; (focus ((simp only [rO, wantedU, lay, li, lo, reduceIte, Nat.reduceEqDiff, Nat.reduceAdd, beq_self_eq_true]; done))); (focus (simp only [rE, rO, li, lo, lay, evalL, ofConst, storeU, AH.set, AV.cells, if_true, if_false, reduceIte, Nat.reduceEqDiff, Nat.reduceAdd, Nat.reduceMul, und84, len_SL und84 hs, loadVar_one agg3, ht0, ht1, ht7, ht8]; exact rfl)); (focus (exact rfl))) | (apply WO.unwanted; (focus ((simp only [rO, wantedU, lay, li, lo, reduceIte, Nat.reduceEqDiff, Nat.reduceAdd, beq_self_eq_true]; done))); (focus (exact rfl))))
      refine WF.again ?_
      refine ih (m - 1) _ _ (by omega) ⟨i + 1, rfl, by omega, fun j h hj => ?_, ?_, ?_, ?_, ?_⟩
      · by_cases e : j = i
        · subst e
          have := of_decide_eq_false hv
          exact fun h => this h.symm
        · exact hok j h (by omega)
      · simp [Tri.gp, ht0]
      · simp [Tri.gp, ht1]
      · simp [Tri.gp, ht7]
      · simp only [Tri.gp, reduceIte]
        rw [w64 (by omega) (by omega)]
        simp
    · (first | (apply WF.condT; (focus (simp only [evalO, ofConst, Tri.gp, lay, Bool.not_true, Bool.not_false, reduceIte, Nat.reduceEqDiff, hv]; done))) | (apply WF.condF; (focus (simp only [evalO, ofConst, Tri.gp, lay, Bool.not_true, Bool.not_false, reduceIte, Nat.reduceEqDiff, hv]; done))))
      repeat (first | refine WF.seq ?_ | refine WF.regionL ?_ | refine WO.nil ?_ | refine WF.block ?_ | refine WF.skip ?_ | refine WF.endBlock ?_ | (apply WF.exit; (focus (exact rfl))) | (apply WO.op; (focus ((simp only [rO, wantedU, lay, li, lo, reduceIte, Nat.reduceEqDiff, Nat.reduceAdd, beq_self_eq_true]; done))); (focus (simp only [rE, rO, li, lo, lay, evalL, ofConst, storeU, AH.set, AV.cells, if_true, if_false, reduceIte, Nat.reduceEqDiff, Nat.reduceAdd, Nat.reduceMul, und84, len_SL und84 hs, loadVar_one agg3, ht0, ht1, ht7, ht8]; exact rfl)); (focus (exact rfl))) | (apply WO.unwanted; (focus ((simp only [rO, wantedU, lay, li, lo, reduceIte, Nat.reduceEqDiff, Nat.reduceAdd, beq_self_eq_true]; done))); (focus (exact rfl))))
      (apply WF.ret; (focus (simp only [resultsU, Tri.gp, lay, resL, reduceIte, Nat.reduceEqDiff, rs104]; exact rfl)))
      refine ⟨_, rfl, ?_, rfl⟩
      have h1 : l.contains x = true := List.contains_iff_mem.2 (by rw [of_decide_eq_true hv]; exact List.getElem_mem _)
      rw [h1]
      simp
  · have hlt : decide ((i : Int) < (l.length : Int)) = false := by simp; omega
    repeat (first | refine WF.seq ?_ | refine WF.regionL ?_ | refine WO.nil ?_ | refine WF.block ?_ | refine WF.skip ?_ | refine WF.endBlock ?_ | (apply WF.exit; (focus (exact rfl))) | (apply WO.op; (focus ((simp only [rO, wantedU, lay, li, lo, reduceIte, Nat.reduceEqDiff, Nat.reduceAdd, beq_self_eq_true, hlt]; done))); (focus (simp only [rE, rO, li, lo, lay, evalL, ofConst, storeU, AH.set, AV.cells, if_true, if_false, reduceIte, Nat.reduceEqDiff, Nat.reduceAdd, Nat.reduceMul, und84, len_SL und84 hs, loadVar_one agg3, ht0, ht1, ht7, ht8, hlt]; exact rfl)); (focus (exact rfl))) | (apply WO.unwanted; (focus ((simp only [rO, wantedU, lay, li, lo, reduceIte, Nat.reduceEqDiff, Nat.reduceAdd, beq_self_eq_true, hlt]; done))); (focus (exact rfl))))
    (first | (apply WF.condT; (focus (simp only [evalO, ofConst, Tri.gp, lay, Bool.not_true, Bool.not_false, reduceIte, Nat.reduceEqDiff, hlt]; done))) | (apply WF.condF; (focus (simp only [evalO, ofConst, Tri.gp, lay, Bool.not_true, Bool.not_false, reduceIte, Nat.reduceEqDiff, hlt]; done))))
    repeat (first | refine WF.seq ?_ | refine WF.regionL ?_ | refine WO.nil ?_ | refine WF.block ?_ | refine WF.skip ?_ | refine WF.endBlock ?_ | (apply WF.exit; (focus (exact rfl))) | (apply WO.op; (focus ((simp only [rO, wantedU, lay, li, lo, reduceIte, Nat.reduceEqDiff, Nat.reduceAdd, beq_self_eq_true, hlt]; done))); (focus (simp only [rE, rO, li, lo, lay, evalL, ofConst, storeU, AH.set, AV.cells, if_true, if_false, reduceIte, Nat.reduceEqDiff, Nat.reduceAdd, Nat.reduceMul, und84, len_SL und84 hs, loadVar_one agg3, ht0, ht1, ht7, ht8, hlt]; exact rfl)); (focus (exact rfl))) | (apply WO.unwanted; (focus ((simp only [rO, wantedU, lay, li, lo, reduceIte, Nat.reduceEqDiff, Nat.reduceAdd, beq_self_eq_true, hlt]; done))); (focus (exact rfl))))
    (apply WF.ret; (focus (simp only [resultsU, Tri.gp, lay, resL, reduceIte, Nat.reduceEqDiff, rs104]; exact rfl)))
    refine ⟨_, rfl, ?_, rfl⟩
    have h1 : l.contains x = false := by
      rw [Bool.eq_false_iff]
      intro h
      obtain ⟨j, hj, e⟩ := List.mem_iff_getElem.1 (List.contains_iff_mem.1 h)
      exact hok j hj (by omega) e
    rw [h1]
    decide
end Go.Ev.C
end
section
set_option linter.unusedVariables false
set_option linter.unusedSimpArgs false
set_option linter.defProp false
set_option linter.all false
namespace Go.Ev.C
open Go.Proofs
set_option maxRecDepth 100000
set_option linter.unusedSimpArgs false
variable {L : World → Prop} [Good Q L]
theorem has_c (H : AH) (v : AV) (l : List Int) (x : Int) (hr : IntsAt H v l) (hlen : l.length < 9223372036854775808) : Fn Q L 63 [v, .int .i64 x] H (fun w H' => w = .bool (l.contains x) ∧ H' = H) := by
  refine Fn.intro (en63 _ _) ?_
  unfold c63 Tryz.f63
  simp only [Option.getD_some]
  repeat (first | refine WF.seq ?_ | refine WF.regionL ?_ | refine WO.nil ?_ | refine WF.block ?_ | refine WF.skip ?_ | refine WF.endBlock ?_ | (apply WF.exit; (focus (exact rfl))) | (apply WO.op; (focus ((simp only [rO, wantedU, lay, li, lo, reduceIte, Nat.reduceEqDiff, Nat.reduceAdd, beq_self_eq_true]; done))); (focus (simp only [rE, rO, li, lo, lay, evalL, ofConst, storeU, AH.set, AV.cells, if_true, if_false, reduceIte, Nat.reduceEqDiff, Nat.reduceAdd, Nat.reduceMul]; exact rfl)); (focus (exact rfl))) | (apply WO.unwanted; (focus ((simp only [rO, wantedU, lay, li, lo, reduceIte, Nat.reduceEqDiff, Nat.reduceAdd, beq_self_eq_true]; done))); (focus (exact rfl))))
  (apply WO.call; (focus ((simp only [rO, wantedU, lay, li, lo, reduceIte, Nat.reduceEqDiff, Nat.reduceAdd, beq_self_eq_true]; done))); (focus (simp only [rE, rO, li, lo, lay, evalL, ofConst, storeU, AH.set, AV.cells, if_true, if_false, reduceIte, Nat.reduceEqDiff, Nat.reduceAdd, Nat.reduceMul, cu104]; exact rfl)); (focus (exact idxInt_c _ _ _ _ hr hlen)); rintro _ _ ⟨r, rfl, hr0, rfl⟩; refine ⟨_, rfl, ?_⟩)
  repeat (first | refine WF.seq ?_ | refine WF.regionL ?_ | refine WO.nil ?_ | refine WF.block ?_ | refine WF.skip ?_ | refine WF.endBlock ?_ | (apply WF.exit; (focus (exact rfl))) | (apply WO.op; (focus ((simp only [rO, wantedU, lay, li, lo, reduceIte, Nat.reduceEqDiff, Nat.reduceAdd, beq_self_eq_true]; done))); (focus (simp only [rE, rO, li, lo, lay, evalL, ofConst, storeU, AH.set, AV.cells, if_true, if_false, reduceIte, Nat.reduceEqDiff, Nat.reduceAdd, Nat.reduceMul, hr0]; exact rfl)); (focus (exact rfl))) | (apply WO.unwanted; (focus ((simp only [rO, wantedU, lay, li, lo, reduceIte, Nat.reduceEqDiff, Nat.reduceAdd, beq_self_eq_true]; done))); (focus (exact rfl))))
  (apply WF.ret; (focus (simp only [resultsU, Tri.gp, lay, resL, reduceIte, Nat.reduceEqDiff, rs63]; exact rfl)))
  exact ⟨rfl, rfl⟩
theorem other_c (H : AH) (bx : Nat) (v : AV) (l : List Int) (id tm : Int) (dv : AV) (n : Nat) (hd : SL dv n) (hb : bx < H.next) (hc : H.cellsAt bx = some [v]) (hr : IntsAt H v l) (hlen : l.length < 9223372036854775808) :
    Fn Q L 62 [RV id tm dv, .ptr bx 0] H (fun w H' => w = .bool (!l.contains id) ∧ H' = H) := by
  refine Fn.gc (en62 _ _) rfl ?_
  have hr := hr.lock
  have hc := lock_cellsAt hc
  have hb : bx < (lock H).next := hb
  generalize lock H = H at hr hc hb
  have hone := hd.one
  have hsol := hd.solid
  have hvs := hr.1.solid
  have hb0 : (bx = H.next) = False := eq_false (by omega)
  unfold c62 Tryz.f62 RV
  simp only [Option.getD_some]
  repeat (first | refine WF.seq ?_ | refine WF.regionL ?_ | refine WO.nil ?_ | refine WF.block ?_ | refine WF.skip ?_ | refine WF.endBlock ?_ | (apply WF.exit; (focus (exact rfl))) | (apply WO.op; (focus ((simp only [rO, wantedU, lay, li, lo, reduceIte, Nat.reduceEqDiff, Nat.reduceAdd, beq_self_eq_true]; done))); (focus (simp only [rE, rO, li, lo, lay, evalL, ofConst, storeU, AH.set, AV.cells, if_true, if_false, reduceIte, Nat.reduceEqDiff, Nat.reduceAdd, Nat.reduceMul, hone, hsol, hvs, hb0, hc, fa87_0, loadVar_one agg3, loadVar_one agg84, cu63]; exact rfl)); (focus (exact rfl))) | (apply WO.unwanted; (focus ((simp only [rO, wantedU, lay, li, lo, reduceIte, Nat.reduceEqDiff, Nat.reduceAdd, beq_self_eq_true]; done))); (focus (exact rfl))))
  (apply WO.call; (focus ((simp only [rO, wantedU, lay, li, lo, reduceIte, Nat.reduceEqDiff, Nat.reduceAdd, beq_self_eq_true]; done))); (focus (simp only [rE, rO, li, lo, lay, evalL, ofConst, storeU, AH.set, AV.cells, if_true, if_false, reduceIte, Nat.reduceEqDiff, Nat.reduceAdd, Nat.reduceMul, hone, hsol, hvs, hb0, hc, fa87_0, loadVar_one agg3, loadVar_one agg84, cu63]; exact rfl)); (focus (exact has_c _ _ _ _ (hr.up (Up.box _ _)) hlen)); rintro _ H ⟨rfl, rfl⟩; refine ⟨_, rfl, ?_⟩)
  repeat (first | refine WF.seq ?_ | refine WF.regionL ?_ | refine WO.nil ?_ | refine WF.block ?_ | refine WF.skip ?_ | refine WF.endBlock ?_ | (apply WF.exit; (focus (exact rfl))) | (apply WO.op; (focus ((simp only [rO, wantedU, lay, li, lo, reduceIte, Nat.reduceEqDiff, Nat.reduceAdd, beq_self_eq_true]; done))); (focus (simp only [rE, rO, li, lo, lay, evalL, ofConst, storeU, AH.set, AV.cells, if_true, if_false, reduceIte, Nat.reduceEqDiff, Nat.reduceAdd, Nat.reduceMul, hone, hsol, hvs, hb0, hc, fa87_0, loadVar_one agg3, loadVar_one agg84, cu63]; exact rfl)); (focus (exact rfl))) | (apply WO.unwanted; (focus ((simp only [rO, wantedU, lay, li, lo, reduceIte, Nat.reduceEqDiff, Nat.reduceAdd, beq_self_eq_true]; done))); (focus (exact rfl))))
  (apply WF.ret; (focus (simp only [resultsU, Tri.gp, lay, resL, reduceIte, Nat.reduceEqDiff, rs62]; exact rfl)))
  rfl
end Go.Ev.C
end
section
set_option linter.unusedVariables false
set_option linter.unusedSimpArgs false
set_option linter.defProp false
set_option linter.all false
namespace Go.Ev.C
open Go.Proofs
set_option maxRecDepth 100000
set_option linter.unusedSimpArgs false
variable {L : World → Prop} [Good Q L]
theorem idxOther_c (H : AH) (rv : AV) (l : List RecD) (bx : Nat) (v : AV) (ids : List Int) (hr : RecsAt H rv l) (hlen : l.length < 9223372036854775808) (hb : bx < H.next) (hbc : H.cellsAt bx = some [v]) (hi : IntsAt H v ids) (hilen : ids.length < 9223372036854775808) :
    Fn Q L 105 [rv, .func 62 [] [.ptr bx 0]] H (fun w H' => H' = H ∧ ∃ r : Int, w = .int .i64 r ∧ ((r = -1 ∧ ∀ j (h : j < l.length), ids.contains l[j].id = true) ∨ ∃ i : Nat, r = (i : Int) ∧ ∃ h : i < l.length, ids.contains l[i].id = false ∧ ∀ j (h : j < l.length), j < i → ids.contains l[j].id = true)) := by
  refine Fn.intro (en105 _ _) ?_
  have hs := hr.1
  unfold c105 Tryz.f105
  simp only [Option.getD_some]
  repeat (first | refine WF.seq ?_ | refine WF.regionL ?_ | refine WO.nil ?_ | refine WF.block ?_ | refine WF.skip ?_ | refine WF.endBlock ?_ | (apply WF.exit; (focus (exact rfl))) | (apply WO.op; (focus ((simp only [rO, wantedU, lay, li, lo, reduceIte, Nat.reduceEqDiff, Nat.reduceAdd, beq_self_eq_true]; done))); (focus (simp only [rE, rO, li, lo, lay, evalL, ofConst, storeU, AH.set, AV.cells, if_true, if_false, reduceIte, Nat.reduceEqDiff, Nat.reduceAdd, Nat.reduceMul, und78, len_SL und78 hs]; exact rfl)); (focus (exact rfl))) | (apply WO.unwanted; (focus ((simp only [rO, wantedU, lay, li, lo, reduceIte, Nat.reduceEqDiff, Nat.reduceAdd, beq_self_eq_true]; done))); (focus (exact rfl))))
  refine WF.while (fun m t H' => ∃ i : Nat, H' = H ∧ i + m = l.length ∧ (∀ j (h : j < l.length), j < i → ids.contains l[j].id = true) ∧ t.get 0 = some rv ∧ t.get 1 = some (.func 62 [] [.ptr bx 0]) ∧ t.get 7 = some (.int .i64 (l.length : Int)) ∧ t.get 8 = some (.int .i64 (i : Int))) l.length ?_ ?_
  · refine ⟨0, rfl, by omega, fun j h hj => by omega, ?_, ?_, ?_, ?_⟩ <;> simp [Tri.gp, lay]
  rintro m t H' ⟨i, rfl, him, hok, ht0, ht1, ht7, ht8⟩ ih
  by_cases hil : i < l.length
  · have hlt : decide ((i : Int) < (l.length : Int)) = true := by simp; omega
    obtain ⟨b, off, cap, c, dv, rfl, hc, hd, hcut⟩ := hr.at hil
    repeat (first | refine WF.seq ?_ | refine WF.regionL ?_ | refine WO.nil ?_ | refine WF.block ?_ | refine WF.skip ?_ | refine WF.endBlock ?_ | (apply WF.exit; (focus (exact rfl))) | (apply WO.op; (focus ((simp only [rO, wantedU, lay, li, lo, reduceIte, Nat.reduceEqDiff, Nat.reduceAdd, beq_self_eq_true, hlt]; done))); (focus (simp only [rE, rO, li, lo, lay, evalL, ofConst, storeU, AH.set, AV.cells, if_true, if_false, reduceIte, Nat.reduceEqDiff, Nat.reduceAdd, Nat.reduceMul, und78, len_SL und78 hs, loadVar_agg agg87 sz87, cu62c, ht0, ht1, ht7, ht8, hlt]; exact rfl)); (focus (exact rfl))) | (apply WO.unwanted; (focus ((simp only [rO, wantedU, lay, li, lo, reduceIte, Nat.reduceEqDiff, Nat.reduceAdd, beq_self_eq_true, hlt]; done))); (focus (exact rfl))))
    (first | (apply WF.condT; (focus (simp only [evalO, ofConst, Tri.gp, lay, Bool.not_true, Bool.not_false, reduceIte, Nat.reduceEqDiff, hlt]; done))) | (apply WF.condF; (focus (simp only [evalO, ofConst, Tri.gp, lay, Bool.not_true, Bool.not_false, reduceIte, Nat.reduceEqDiff, hlt]; done))))
    repeat (first | refine WF.seq ?_ | refine WF.regionL ?_ | refine WO.nil ?_ | refine WF.block ?_ | refine WF.skip ?_ | refine WF.endBlock ?_ | (apply WF.exit; (focus (exact rfl))) | (apply WO.op; (focus ((simp only [rO, wantedU, lay, li, lo, reduceIte, Nat.reduceEqDiff, Nat.reduceAdd, beq_self_eq_true, hlt]; done))); (focus (simp only [rE, rO, li, lo, lay, evalL, ofConst, storeU, AH.set, AV.cells, if_true, if_false, reduceIte, Nat.reduceEqDiff, Nat.reduceAdd, Nat.reduceMul, und78, len_SL und78 hs, loadVar_agg agg87 sz87, cu62c, ht0, ht1, ht7, ht8, hlt, index_SL und78 sz87 hil, hc, hcut]; exact rfl)); (focus (exact rfl))) | (apply WO.unwanted; (focus ((simp only [rO, wantedU, lay, li, lo, reduceIte, Nat.reduceEqDiff, Nat.reduceAdd, beq_self_eq_true, hlt]; done))); (focus (exact rfl))))
    (apply WO.call; (focus ((simp only [rO, wantedU, lay, li, lo, reduceIte, Nat.reduceEqDiff, Nat.reduceAdd, beq_self_eq_true, hlt]; done))); (focus (simp only [rE, rO, li, lo, lay, evalL, ofConst, storeU, AH.set, AV.cells, if_true, if_false, reduceIte, Nat.reduceEqDiff, Nat.reduceAdd, Nat.reduceMul, und78, len_SL und78 hs, loadVar_agg agg87 sz87, cu62c, ht0, ht1, ht7, ht8, hlt, index_SL und78 sz87 hil, hc, hcut]; exact rfl)); (focus (exact other_c _ _ _ _ _ _ _ _ hd.1 hb hbc hi hilen)); rintro _ H ⟨rfl, rfl⟩; refine ⟨_, rfl, ?_⟩)
    repeat (first | refine WF.seq ?_ | refine WF.regionL ?_ | refine WO.nil ?_ | refine WF.block ?_ | refine WF.skip ?_ | refine WF.endBlock ?_ | (apply WF.exit; (focus (exact rfl))) | (apply WO.op; (focus ((simp only [rO, wantedU, lay, li, lo, reduceIte, Nat.reduceEqDiff, Nat.reduceAdd, beq_self_eq_true]; done))); (focus (simp only [rE, rO, li, lo, lay, evalL, ofConst, storeU, AH.set, AV.cells, if_true, if_false, reduceIte, Nat.reduceEqDiff, Nat.reduceAdd, Nat.reduceMul, und78, len_SL und78 hs, loadVar_agg agg87 sz87, cu62c, ht0, ht1, ht7, ht8]; exact rfl)); (focus (exact rfl))) | (apply WO.unwanted; (focus ((simp only [rO, wantedU, lay, li, lo, reduceIte, Nat.reduceEqDiff, Nat.reduceAdd, beq_self_eq_true]; done))); (focus (exact rfl))))
    cases hv : ids.contains l[i].id
    · simp only [Bool.not_false]
      (first | (apply WF.condT; (focus (simp only [evalO, ofConst, Tri.gp, lay, Bool.not_true, Bool.not_false, reduceIte, Nat.reduceEqDiff, hv]; done))) | (apply WF.condF; (focus (simp only [evalO, ofConst, Tri.gp, lay, Bool.not_true, Bool.not_false, reduceIte, Nat.reduceEqDiff, hv]; done))))
      repeat (first | refine WF.seq ?_ | refine WF.regionL ?_ | refine WO.nil ?_ | refine WF.block ?_ | refine WF.skip ?_ | refine WF.endBlock ?_ | (apply WF.exit; (focus (exact rfl))) | (apply WO.op; (focus ((simp only [rO, wantedU, lay, li, lo, reduceIte, Nat.reduceEqDiff, Nat.reduceAdd, beq_self_eq_true]; done))); (focus (simp only [rE, rO, li, lo, lay, evalL, ofConst, storeU, AH.set, AV.cells, if_true, if_false, reduceIte, Nat.reduceEqDiff, Nat.reduceAdd, Nat.reduceMul, und78, len_SL und78 hs, loadVar_agg agg87 sz87, cu62c, ht0, ht1, ht7, ht8]; exact rfl)); (focus (exact rfl))) | (apply WO.unwanted; (focus ((simp only [rO, wantedU, lay, li, lo, reduceIte, Nat.reduceEqDiff, Nat.reduceAdd, beq_self_eq_true]; done))); (focus (exact rfl))))
      (apply WF.ret; (focus (simp only [resultsU, Tri.gp, lay, resL, reduceIte, Nat.reduceEqDiff, rs105]; exact rfl)))
      exact ⟨rfl, _, rfl, .inr ⟨i, rfl, hil, hv, hok⟩⟩
    · simp only [Bool.not_true]
      (first | (apply WF.condT; (focus (simp only [evalO, ofConst, Tri.gp, lay, Bool.not_true, Bool.not_false, reduceIte, Nat.reduceEqDiff, hv]; done))) | (apply WF.condF; (focus (simp only [evalO, ofConst, Tri.gp, lay, Bool.not_true, Bool.not_false, reduceIte, Nat.reduceEqDiff, hv]; done))))
      repeat (first | refine WF.seq ?_ | refine WF.regionL ?_ | refine WO.nil ?_ | refine WF.block ?_ | refine WF.skip ?_ | refine WF.endBlock ?_ | (apply WF.exit; (focus (exact rfl))) | (apply WO.op; (focus ((simp only [rO, wantedU, lay, li, lo, reduceIte, Nat.reduceEqDiff, Nat.reduceAdd, beq_self_eq_true]; done))); (focus (simp only [rE, rO, li, lo, lay, evalL, ofConst, storeU, AH.set, AV.cells, if_true, if_false, reduceIte, Nat.reduceEqDiff, Nat.reduceAdd, Nat.reduceMul, und78, len_SL und78 hs, loadVar_agg agg87 sz87, cu62c, ht0, ht1, ht7, ht8]; exact rfl)); (focus (exact rfl))) | (apply WO.unwanted; (focus ((simp only [rO, wantedU, lay, li, lo, reduceIte, Nat.reduceEqDiff, Nat.reduceAdd, beq_self_eq_true]; done))); (focus (exact rfl))))
      refine WF.again ?_
      refine ih (m - 1) _ _ (by omega) ⟨i + 1, rfl, by omega, fun j h hj => ?_, ?_, ?_, ?_, ?_⟩
      · by_cases e : j = i
        · subst e; exact hv
        · exact hok j h (by omega)
      · simp [Tri.gp, ht0]
      · simp [Tri.gp, ht1]
      · simp [Tri.gp, ht7]
      · simp only [Tri.gp, reduceIte]
        rw [w64 (by omega) (by omega)]
        simp
  · have hlt : decide ((i : Int) < (l.length : Int)) = false := by simp; omega
    repeat (first | refine WF.seq ?_ | refine WF.regionL ?_ | refine WO.nil ?_ | refine WF.block ?_ | refine WF.skip ?_ | refine WF.endBlock ?_ | (apply WF.exit; (focus (exact rfl))) | (apply WO.op; (focus ((simp only [rO, wantedU, lay, li, lo, reduceIte, Nat.reduceEqDiff, Nat.reduceAdd, beq_self_eq_true, hlt]; done))); (focus (simp only [rE, rO, li, lo, lay, evalL, ofConst, storeU, AH.set, AV.cells, if_true, if_false, reduceIte, Nat.reduceEqDiff, Nat.reduceAdd, Nat.reduceMul, und78, len_SL und78 hs, loadVar_agg agg87 sz87, cu62c, ht0, ht1, ht7, ht8, hlt]; exact rfl)); (focus (exact rfl))) | (apply WO.unwanted; (focus ((simp only [rO, wantedU, lay, li, lo, reduceIte, Nat.reduceEqDiff, Nat.reduceAdd, beq_self_eq_true, hlt]; done))); (focus (exact rfl))))
    (first | (apply WF.condT; (focus (simp only [evalO, ofConst, Tri.gp, lay, Bool.not_true, Bool.not_false, reduceIte, Nat.reduceEqDiff, hlt]; done))) | (apply WF.condF; (focus (simp only [evalO, ofConst, Tri.gp, lay, Bool.not_true, Bool.not_false, reduceIte, Nat.reduceEqDiff, hlt]; done))))
    repeat (first | refine WF.seq ?_ | refine WF.regionL ?_ | refine WO.nil ?_ | refine WF.block ?_ | refine WF.skip ?_ | refine WF.endBlock ?_ | (apply WF.exit; (focus (exact rfl))) | (apply WO.op; (focus ((simp only [rO, wantedU, lay, li, lo, reduceIte, Nat.reduceEqDiff, Nat.reduceAdd, beq_self_eq_true, hlt]; done))); (focus (simp only [rE, rO, li, lo, lay, evalL, ofConst, storeU, AH.set, AV.cells, if_true, if_false, reduceIte, Nat.reduceEqDiff, Nat.reduceAdd, Nat.reduceMul, und78, len_SL und78 hs, loadVar_agg agg87 sz87, cu62c, ht0, ht1, ht7, ht8, hlt]; exact rfl)); (focus (exact rfl))) | (apply WO.unwanted; (focus ((simp only [rO, wantedU, lay, li, lo, reduceIte, Nat.reduceEqDiff, Nat.reduceAdd, beq_self_eq_true, hlt]; done))); (focus (exact rfl))))
    (apply WF.ret; (focus (simp only [resultsU, Tri.gp, lay, resL, reduceIte, Nat.reduceEqDiff, rs105]; exact rfl)))
    exact ⟨rfl, _, rfl, .inl ⟨rfl, fun j h => hok j h (by omega)⟩⟩
end Go.Ev.C
end
section
set_option linter.unusedVariables false
set_option linter.unusedSimpArgs false
set_option linter.defProp false
set_option linter.all false
namespace Go.Ev
open Go.RowKit
section
variable {P : Program} {L : World → Prop} {f n : Nat} {t : Tri AV} {H : AH} {k : List AI} {Φ : AF → AH → Prop}
theorem WF.does {ops : Array Oper} {i : Nat} {rest : List Nat} {o : Oper} {v : AV} {H1 : AH} {t' : Tri AV} (ho : ops[i]? = some o) (hw : wantedU ops t o = some true) (hdef : ∀ c, o.op ≠ .defer c)
    (hx : ∀ (w0 w : World) (ρ : Ren) (ev : Operand → Value), WR w0 ρ H w → (∀ x, EvR ρ t ev x) → Does P w0 ρ H w (.val v, H1) (execOp ev o))
    (hd : putN n t o.dst v = some t') (h : WF P L (PF f n t' (.inRegion ops rest :: k)) H1 Φ) : WF P L (PF f n t (.inRegion ops (i :: rest) :: k)) H Φ :=
  h.leads fun cs w0 w g ds c0 _ hm => by
    obtain ⟨ρ, lo, hg, hw', hlo, hf, hs⟩ := hm.rel
    dsimp only at hw' hlo hf hs
    have htd := hf.todo
    generalize hgt : g.todo = gt at htd
    generalize hga : g.tmps = ga at htd
    cases htd with
    | gone hne => exact absurd rfl hne
    | plain hk ht =>
      subst hga
      have hfk : IRs ρ (PF f n t (.inRegion ops (i :: rest) :: k)).todo g.todo := by rw [hgt]; exact hk
      have hlow : FrR P ρ H lo H.next false (PF f n t (.inRegion ops (i :: rest) :: k)) g := ⟨hf.fn, hf.kind, hf.lid, hf.round, hf.mode, hf.defers, .plain hfk ht⟩
      cases hk with
      | cons hi hks =>
        cases hi with
        | inRegion =>
          refine one_sound hg hw' hlo hlow rfl hs ho hgt (fun d _ v hv => ht.2 d v hv) (ex := some (.val v, H1)) (fun r hr => ?_) (fun c hc => absurd hc (hdef c)) ?_
          · cases hr
            exact hx w0 w ρ _ hw' (fun x => evR_plain hg ht x)
          · have hw2 : wantedU ops (PF f n t (.inRegion ops (i :: rest) :: k)).tmps o = some true := hw
            rw [hw2]
            simp only [applyO, applyU]
            rw [finish_PF ho hd]
            rfl
end
end Go.Ev
end
section
set_option linter.unusedVariables false
set_option linter.unusedSimpArgs false
set_option linter.defProp false
set_option linter.all false
namespace Go.Ev.C
open Go.Proofs Go.RowKit
theorem zero87 : zeroU Q 87 = some (.agg [.int .i64 0, .int .i64 0, .nilslice]) := by kernel_rfl
def zs : Nat → List AV
  | 0 => []
  | n + 1 => .int .i64 0 :: .int .i64 0 :: .nilslice :: zs n
theorem zs_length : ∀ n, (zs n).length = n * 3
  | 0 => rfl
  | n + 1 => by simp [zs, zs_length n]; omega
theorem zs_one : ∀ n, (zs n).all oneA = true
  | 0 => rfl
  | n + 1 => by simp [zs, zs_one n, oneA]
theorem zs_rel {ρ : Ren} {l : List Value} (h : VRs ρ [.int .i64 0, .int .i64 0, .nilslice] l) : ∀ n, VRs ρ (zs n) (List.replicate n l).flatten
  | 0 => .nil
  | n + 1 => by
    have ih := zs_rel h n
    rw [List.replicate_succ, List.flatten_cons]
    cases h with
    | cons h1 h => cases h with
      | cons h2 h => cases h with
        | cons h3 h => cases h; exact .cons h1 (.cons h2 (.cons h3 ih))
theorem zc (a b c : Value) : ∀ m, (List.range (m * 3)).map (fun i => (#[a, b, c] : Array Value)[i % 3]!) = (List.replicate m [a, b, c]).flatten
  | 0 => rfl
  | m + 1 => by
    rw [show (m + 1) * 3 = m * 3 + 1 + 1 + 1 from by omega, List.range_succ, List.range_succ, List.range_succ, List.replicate_succ', List.flatten_append]
    simp only [List.map_append, zc a b c m, List.map_cons, List.map_nil]
    rw [show m * 3 % 3 = 0 from by omega, show (m * 3 + 1) % 3 = 1 from by omega, show (m * 3 + 1 + 1) % 3 = 2 from by omega]
    simp
theorem clear_gives {w0 w : World} {ρ : Ren} {H : AH} (h : WR w0 ρ H w) {b off m : Nat} {cap : Cap} {c c' : List AV} {ty : TypeId} (hm : m ≠ 0) (hg : H.t.get b = some (.cells 87 c 0 false false)) (ho : over c off (zs m) = some c') {x : Value} (hx : VR ρ (.slice b off m cap) x) :
    Gives Q w0 ρ H w (.tuple [], H.set b (.cells 87 c' 0 false false)) (Builtin.clear_ #[78] ty #[x]) := by
  obtain ⟨zx, hzx, hzr⟩ := run_zeroU (ρ := ρ) zero87
  cases hzx with
  | @agg l l' hl =>
    have hz : (Builtin.zeroCells (Value.agg l').cells m).toList = (List.replicate m l'.toList).flatten := by
      have h3 : ∃ a b c, l' = #[a, b, c] := by
        obtain ⟨l'⟩ := l'
        dsimp only at hl
        cases hl with | cons _ hl => cases hl with | cons _ hl => cases hl with | cons _ hl => cases hl; exact ⟨_, _, _, rfl⟩
      obtain ⟨a, b, c, rfl⟩ := h3
      rw [← zc]
      simp [Builtin.zeroCells, Value.cells]
    have fin : ∀ cb n cp, ρ b = some (cb, n) → x = .slice (some ⟨cb, off, none⟩) m cp → Gives Q w0 ρ H w (.tuple [], H.set b (.cells 87 c' 0 false false)) (Builtin.clear_ #[78] ty #[x]) := by
      rintro cb n cp hb rfl
      obtain ⟨w', hrun, hw', hp⟩ := h.store (P := Q) hb hg (Nat.zero_le _) (zs_rel hl m) ho
      refine ⟨ρ, w', _, hw', hp, .tuple (l' := #[]) .nil, ?_⟩
      have hu : Q.underlying 78 = some (.slice 87) := Tryz.underlying78
      cases m with
      | zero => exact absurd rfl hm
      | succ m =>
        simp only [Builtin.clear_, List.getElem?_toArray, List.getElem?_cons_zero, Sem.run_bind, run_underlying hu, Result.andThen_ok, hzr, hz, hrun]
        rfl
    cases hx with
    | sliceIs hb hl => exact fin _ _ _ hb rfl
    | sliceUp hb hl hr => exact fin _ _ _ hb rfl
    | sliceLost => exact absurd rfl hm
end Go.Ev.C
end
section
set_option linter.unusedVariables false
set_option linter.unusedSimpArgs false
set_option linter.defProp false
set_option linter.all false
namespace Go.Ev.C
open Go.Proofs
def RowAt (w : Nat) (H : AH) (b : Nat) (c : List AV) (q : Nat) (d : RecD) : Prop := ∃ dv, DataNe H b dv d.r ∧ (∀ b' off m cap, dv = .slice b' off m cap → w ≤ b') ∧ cut c (q * 3) 3 = some [.int .i64 d.id, .int .i64 d.tm, dv]
/-- The first ones are what was kept; from place j on nothing has turned. -/
def Kept (w : Nat) (H : AH) (b : Nat) (l : List RecD) (j : Nat) (ks : List RecD) : Prop := ∃ c, H.t.get b = some (.cells 87 c 0 false false) ∧ b < H.next ∧ c.length = l.length * 3 ∧ ks.length ≤ j ∧ (∀ (q : Nat) (d : RecD), ks[q]? = some d → RowAt w H b c q d) ∧ ∀ (q : Nat) (d : RecD), j ≤ q → l[q]? = some d → RowAt w H b c q d
theorem RowAt.up {H H' : AH} (u : Up H H') {b : Nat} {c : List AV} {q : Nat} {d : RecD} {w : Nat} (h : RowAt w H b c q d) : RowAt w H' b c q d := by
  obtain ⟨dv, h1, hw, h2⟩ := h
  exact ⟨dv, h1.up u, hw, h2⟩
theorem Kept.up {H H' : AH} (u : Up H H') {b : Nat} {l ks : List RecD} {j : Nat} {w : Nat} (h : Kept w H b l j ks) : Kept w H' b l j ks := by
  obtain ⟨c, h1, h2, h3, h4, h5, h6⟩ := h
  exact ⟨c, by rw [u.old b h2]; exact h1, Nat.lt_of_lt_of_le h2 u.next, h3, h4, fun q d hq => (h5 q d hq).up u, fun q d hj hq => (h6 q d hj hq).up u⟩
theorem Kept.start {w : Nat} {H : AH} {b : Nat} {l : List RecD} (h : OwnNe w l.length H b l) {i : Nat} (hi : i ≤ l.length) : Kept w H b l (i + 1) (l.take i) := by
  obtain ⟨c, hg, hb, h1, h4⟩ := h
  refine ⟨c, hg, hb, h1, by simp; omega, fun q d hq => ?_, fun q d _ hq => ?_⟩
  · have hq' : l[q]? = some d := by
      rw [List.getElem?_take] at hq
      split at hq
      · exact hq
      · cases hq
    obtain ⟨dv, hd, hw, hc⟩ := h4 q d hq'
    exact ⟨dv, hd, hw (List.getElem?_eq_some_iff.1 hq').1, hc⟩
  · obtain ⟨dv, hd, hw, hc⟩ := h4 q d hq
    exact ⟨dv, hd, hw (List.getElem?_eq_some_iff.1 hq).1, hc⟩
theorem Kept.skip {H : AH} {b : Nat} {l ks : List RecD} {j w : Nat} (h : Kept w H b l j ks) : Kept w H b l (j + 1) ks := by
  obtain ⟨c, h1, h2, h3, h4, h5, h6⟩ := h
  exact ⟨c, h1, h2, h3, by omega, h5, fun q d hj hq => h6 q d (by omega) hq⟩
theorem Kept.at {H : AH} {b : Nat} {l ks : List RecD} {j w : Nat} (h : Kept w H b l j ks) (hj : j < l.length) : ∃ c dv, H.cellsAt b = some c ∧ DataNe H b dv l[j].r ∧ (∀ b' off m cap, dv = .slice b' off m cap → w ≤ b') ∧ cut c (0 + j * 3) 3 = some [.int .i64 l[j].id, .int .i64 l[j].tm, dv] := by
  obtain ⟨c, h1, h2, h3, h4, h5, h6⟩ := h
  obtain ⟨dv, hd, hw, hc⟩ := h6 j l[j] (Nat.le_refl _) (List.getElem?_eq_getElem hj)
  exact ⟨c, dv, by unfold AH.cellsAt; rw [h1], hd, hw, by rw [Nat.zero_add]; exact hc⟩
theorem over_ok {c vs : List AV} {off : Nat} (hl : off + vs.length ≤ c.length) (h1 : vs.all oneA = true) : over c off vs = some (c.take off ++ vs ++ c.drop (off + vs.length)) := by
  unfold over
  rw [if_pos]
  simp only [Bool.and_eq_true, Nat.ble_eq]
  exact ⟨hl, h1⟩
theorem RowAt.over {H : AH} {b : Nat} {B : AB} {c c' vs : List AV} {off q w : Nat} {d : RecD} (h : RowAt w H b c q d) (ho : over c off vs = some c') (hne : q * 3 + 3 ≤ off ∨ off + vs.length ≤ q * 3) : RowAt w (H.set b B) b c' q d := by
  obtain ⟨dv, hd, hw, hc⟩ := h
  obtain ⟨_, hget⟩ := over_get ho
  obtain ⟨k1, k2⟩ := cut_iff.1 hc
  refine ⟨dv, hd.set, hw, cut_iff.2 ⟨k1, fun p hp => ?_⟩⟩
  obtain ⟨u, p1, p2, p3⟩ := k2 p hp
  refine ⟨u, ?_, p2, p3⟩
  rw [hget, if_neg (by omega)]
  exact p1
theorem Kept.put {H : AH} {b : Nat} {l ks : List RecD} {j w : Nat} (h : Kept w H b l j ks) (hj : j < l.length) {d : RecD} {dv : AV} (hd : DataNe H b dv d.r) (hw : ∀ b' off m cap, dv = .slice b' off m cap → w ≤ b') :
    ∃ c c', H.t.get b = some (.cells 87 c 0 false false) ∧ Go.Ev.over c (0 + ks.length * 3) [.int .i64 d.id, .int .i64 d.tm, dv] = some c' ∧ Kept w (H.set b (.cells 87 c' 0 false false)) b l (j + 1) (ks ++ [d]) := by
  obtain ⟨c, h1, h2, h3, h4, h5, h6⟩ := h
  have ho := over_ok (c := c) (vs := [.int .i64 d.id, .int .i64 d.tm, dv]) (off := 0 + ks.length * 3) (by simp; omega) (by simp [one_int, hd.1.one])
  obtain ⟨hl, hget⟩ := over_get ho
  refine ⟨c, _, h1, ho, _, by unfold AH.set; rw [Tri.gp, if_pos rfl], h2, by rw [hl]; exact h3, by simp; omega, fun q e hq => ?_, fun q e hjq hq => ?_⟩
  · by_cases hql : q < ks.length
    · rw [List.getElem?_append_left hql] at hq
      exact (h5 q e hq).over ho (by left; omega)
    · rw [List.getElem?_append_right (by omega)] at hq
      obtain rfl : q = ks.length := by
        have := (List.getElem?_eq_some_iff.1 hq).1
        simp at this
        omega
      simp at hq
      subst hq
      refine ⟨dv, hd.set, hw, cut_iff.2 ⟨rfl, fun p hp => ?_⟩⟩
      rw [hget, if_pos (by simp; omega)]
      rcases (show p = 0 ∨ p = 1 ∨ p = 2 from by omega) with rfl | rfl | rfl
      · exact ⟨_, by simp, rfl, rfl⟩
      · exact ⟨_, by rw [show ks.length * 3 + 1 - (0 + ks.length * 3) = 1 from by omega]; rfl, rfl, rfl⟩
      · exact ⟨dv, by rw [show ks.length * 3 + 2 - (0 + ks.length * 3) = 2 from by omega]; rfl, hd.1.solid, rfl⟩
  · exact (h6 q e (by omega) hq).over ho (by right; simp; omega)
theorem Kept.recs {H : AH} {b : Nat} {l ks : List RecD} {j w : Nat} (h : Kept w H b l j ks) (cap : Cap) : RecsAt H (.slice b 0 ks.length cap) ks := by
  obtain ⟨c, h1, h2, h3, h4, h5, h6⟩ := h
  refine ⟨.sl _ _ _ _, fun b' off n cap' e _ => ?_⟩
  cases e
  refine ⟨c, h2, by unfold AH.cellsAt; rw [h1], fun i d hi => ?_⟩
  obtain ⟨dv, hd, _, hc⟩ := h5 i d hi
  exact ⟨dv, hd.data, by rw [Nat.zero_add]; exact hc⟩
theorem Kept.from {H : AH} {b : Nat} {l ks : List RecD} {j w : Nat} (h : Kept w H b l j ks) (hb : w ≤ b) (cap : Cap) : RecsFrom w H (.slice b 0 ks.length cap) ks := by
  obtain ⟨c, h1, h2, h3, h4, h5, h6⟩ := h
  refine ⟨.sl _ _ _ _, fun b' off n cap' e _ => ?_⟩
  cases e
  refine ⟨c, hb, h2, by unfold AH.cellsAt; rw [h1], fun i d hi => ?_⟩
  obtain ⟨dv, hd, hw, hc⟩ := h5 i d hi
  exact ⟨dv, ⟨hd.1, fun b' off m cap e hn => ⟨hw b' off m cap e, (hd.2 b' off m cap e hn).2⟩⟩, by rw [Nat.zero_add]; exact hc⟩
theorem Kept.clear {H : AH} {b : Nat} {l ks : List RecD} {j w : Nat} (h : Kept w H b l j ks) (hk : ks.length ≤ l.length) : ∃ c c', H.t.get b = some (.cells 87 c 0 false false) ∧ Go.Ev.over c (0 + ks.length * 3) (zs (l.length - ks.length)) = some c' ∧ Kept w (H.set b (.cells 87 c' 0 false false)) b l (max j l.length) ks := by
  obtain ⟨c, h1, h2, h3, h4, h5, h6⟩ := h
  have hz := zs_length (l.length - ks.length)
  have ho := over_ok (c := c) (vs := zs (l.length - ks.length)) (off := 0 + ks.length * 3) (by rw [hz, h3]; omega) (zs_one _)
  obtain ⟨hl, hget⟩ := over_get ho
  refine ⟨c, _, h1, ho, _, by unfold AH.set; rw [Tri.gp, if_pos rfl], h2, by rw [hl]; exact h3, by omega, fun q e hq => ?_, fun q e hjq hq => ?_⟩
  · have := (List.getElem?_eq_some_iff.1 hq).1
    exact (h5 q e hq).over ho (by left; omega)
  · have := (List.getElem?_eq_some_iff.1 hq).1
    omega
end Go.Ev.C
end
section
set_option linter.unusedVariables false
set_option linter.unusedSimpArgs false
set_option linter.defProp false
set_option linter.all false
namespace Go.Ev.C
open Go.Proofs
set_option maxRecDepth 100000
set_option linter.unusedSimpArgs false
variable {L : World → Prop} [Good Q L]
theorem store87 {H : AH} {b off : Nat} {c c' : List AV} {x y z : AV} (hg : H.t.get b = some (.cells 87 c 0 false false)) (ho : over c off [x, y, z] = some c') : storeU Q 87 b off (.agg [x, y, z]) H = some (H.set b (.cells 87 c' 0 false false)) := by
  unfold storeU
  rw [hg, sz87]
  simp [AV.cells, ho]
theorem cut_rec (x y : Int) {v : AV} (h : noHole v = true) : cut [.int .i64 x, .int .i64 y, v] 0 3 = some [.int .i64 x, .int .i64 y, v] := cut_self rfl (by simp [hole_int, h])
theorem over_rec (x y : Int) {v : AV} (h : oneA v = true) : over [.int .i64 0, .int .i64 0, .nilslice] 0 [.int .i64 x, .int .i64 y, v] = some [.int .i64 x, .int .i64 y, v] := by
  rw [over_ok (by simp) (by simp [one_int, h])]
  rfl
theorem slU78 (x : AV) (lo' hi : Option AV) : sliceU Q 78 x lo' hi none = (match x with | .slice b off len cap => sliceSl 3 b off len cap lo' hi | .nilslice => sliceNil lo' hi | _ => none) := by
  simp only [sliceU, und78, sz87]
  cases x <;> rfl
theorem sl_from {b len k : Nat} (hk : k < len) : sliceSl 3 b 0 len (.up 3) (some (.int .i64 (k : Int))) none = some (.slice b (k * 3) (len - k) (.up 3)) := by
  have h1 : boundU none len (Cap.sure (.up 3) len) = some len := rfl
  have h2 : boundU (some (.int .i64 (k : Int))) 0 len = some k := by simp [boundU]; omega
  have h3 : Nat.beq len k = false := by rw [← Bool.not_eq_true, Nat.beq_eq]; omega
  unfold sliceSl
  rw [h1]
  dsimp only
  rw [h2]
  simp [h3]
theorem sl_to {b len k : Nat} (hk : k ≤ len) : sliceSl 3 b 0 len (.up 3) none (some (.int .i64 (k : Int))) = some (.slice b 0 k (.up 3)) := by
  have h1 : boundU (some (.int .i64 (k : Int))) len (Cap.sure (.up 3) len) = some k := by simp [boundU, Cap.sure]; omega
  have h2 : boundU none 0 k = some 0 := rfl
  unfold sliceSl
  rw [h1]
  dsimp only
  rw [h2]
  simp
theorem WO.does {f n : Nat} {t : Tri AV} {H : AH} {k : List AI} {Φ : AF → AH → Prop} {ops : Array Oper} {i : Nat} {l : List Oper} {o : Oper} {v : AV} {H1 : AH} {t' : Tri AV} (hw : wantedU ops t o = some true) (hdef : ∀ c, o.op ≠ .defer c)
    (hx : ∀ (w0 w : World) (ρ : Ren) (ev : Operand → Value), WR w0 ρ H w → (∀ x, EvR ρ t ev x) → Does Q w0 ρ H w (.val v, H1) (execOp ev o))
    (hd : putN n t o.dst v = some t') (h : WO Q L f n ops (i + 1) l t' H1 k Φ) : WO Q L f n ops i (o :: l) t H k Φ := fun hdr => by
  obtain ⟨h1, h2⟩ := drop_cons hdr
  exact WF.does (by simpa using h1) hw hdef hx hd (h h2)
set_option maxHeartbeats 2000000 in
theorem delete_c (H0 H : AH) (hu0 : Up H0 H) (b : Nat) (hb0 : H0.next ≤ b) (l : List RecD) (hlen : l.length ≤ 100000000) (hown : OwnNe H0.next l.length H b l) (bx : Nat) (vid : AV) (ids : List Int) (hbx : bx < H0.next) (hbc : H0.cellsAt bx = some [vid]) (hi : IntsAt H0 vid ids) (hilen : ids.length < 9223372036854775808) :
    Fn Q L 64 [.slice b 0 l.length (.up 3), .func 62 [] [.ptr bx 0]] H (fun v H' => Up H0 H' ∧ RecsFrom H0.next H' v (l.filter fun d => ids.contains d.id)) := by
  refine Fn.intro (en64 _ _) ?_
  have hra : RecsAt H (.slice b 0 l.length (.up 3)) l := by
    have := (Kept.start hown (Nat.le_refl _)).recs (.up 3)
    simpa using this
  have hbx1 : bx < H.next := Nat.lt_of_lt_of_le hbx hu0.next
  have hbc1 : H.cellsAt bx = some [vid] := by rw [hu0.cellsAt hbx]; exact hbc
  have hi1 := hi.up hu0
  unfold c64 Tryz.f64
  simp only [Option.getD_some]
  repeat (first | refine WF.seq ?_ | refine WF.regionL ?_ | refine WO.nil ?_ | refine WF.block ?_ | refine WF.skip ?_ | refine WF.endBlock ?_ | (apply WF.exit; (focus (exact rfl))) | (apply WO.op; (focus ((simp only [rO, wantedU, lay, li, lo, reduceIte, Nat.reduceEqDiff, Nat.reduceAdd, beq_self_eq_true]; done))); (focus (simp only [rE, rO, li, lo, lay, evalL, ofConst, storeU, AH.set, AV.cells, if_true, if_false, reduceIte, Nat.reduceEqDiff, Nat.reduceAdd, Nat.reduceMul]; exact rfl)); (focus (exact rfl))) | (apply WO.unwanted; (focus ((simp only [rO, wantedU, lay, li, lo, reduceIte, Nat.reduceEqDiff, Nat.reduceAdd, beq_self_eq_true]; done))); (focus (exact rfl))))
  (apply WO.call; (focus ((simp only [rO, wantedU, lay, li, lo, reduceIte, Nat.reduceEqDiff, Nat.reduceAdd, beq_self_eq_true]; done))); (focus (simp only [rE, rO, li, lo, lay, evalL, ofConst, storeU, AH.set, AV.cells, if_true, if_false, reduceIte, Nat.reduceEqDiff, Nat.reduceAdd, Nat.reduceMul, cu105]; exact rfl)); (focus (exact idxOther_c _ _ _ _ _ _ hra (by omega) hbx1 hbc1 hi1 hilen)); rintro _ _ ⟨rfl, r, rfl, hr⟩; refine ⟨_, rfl, ?_⟩)
  rcases hr with ⟨rfl, hall⟩ | ⟨i, rfl, hil, hni, hbef⟩
  · have d1 : decide ((-1 : Int) = -1) = true := by decide
    repeat (first | refine WF.seq ?_ | refine WF.regionL ?_ | refine WO.nil ?_ | refine WF.block ?_ | refine WF.skip ?_ | refine WF.endBlock ?_ | (apply WF.exit; (focus (exact rfl))) | (apply WO.op; (focus ((simp only [rO, wantedU, lay, li, lo, reduceIte, Nat.reduceEqDiff, Nat.reduceAdd, beq_self_eq_true, d1]; done))); (focus (simp only [rE, rO, li, lo, lay, evalL, ofConst, storeU, AH.set, AV.cells, if_true, if_false, reduceIte, Nat.reduceEqDiff, Nat.reduceAdd, Nat.reduceMul, d1, decide_true]; exact rfl)); (focus (exact rfl))) | (apply WO.unwanted; (focus ((simp only [rO, wantedU, lay, li, lo, reduceIte, Nat.reduceEqDiff, Nat.reduceAdd, beq_self_eq_true, d1]; done))); (focus (exact rfl))))
    (first | (apply WF.condT; (focus (simp only [evalO, ofConst, Tri.gp, lay, Bool.not_true, Bool.not_false, reduceIte, Nat.reduceEqDiff, d1, decide_true]; done))) | (apply WF.condF; (focus (simp only [evalO, ofConst, Tri.gp, lay, Bool.not_true, Bool.not_false, reduceIte, Nat.reduceEqDiff, d1, decide_true]; done))))
    repeat (first | refine WF.seq ?_ | refine WF.regionL ?_ | refine WO.nil ?_ | refine WF.block ?_ | refine WF.skip ?_ | refine WF.endBlock ?_ | (apply WF.exit; (focus (exact rfl))) | (apply WO.op; (focus ((simp only [rO, wantedU, lay, li, lo, reduceIte, Nat.reduceEqDiff, Nat.reduceAdd, beq_self_eq_true]; done))); (focus (simp only [rE, rO, li, lo, lay, evalL, ofConst, storeU, AH.set, AV.cells, if_true, if_false, reduceIte, Nat.reduceEqDiff, Nat.reduceAdd, Nat.reduceMul]; exact rfl)); (focus (exact rfl))) | (apply WO.unwanted; (focus ((simp only [rO, wantedU, lay, li, lo, reduceIte, Nat.reduceEqDiff, Nat.reduceAdd, beq_self_eq_true]; done))); (focus (exact rfl))))
    (apply WF.ret; (focus (simp only [resultsU, Tri.gp, lay, resL, reduceIte, Nat.reduceEqDiff, rs64]; exact rfl)))
    rw [List.filter_eq_self.2 fun d hd => by obtain ⟨j, hj, rfl⟩ := List.mem_iff_getElem.1 hd; exact hall j hj]
    exact ⟨hu0, by have h := (Kept.start hown (Nat.le_refl _)).from hb0 (.up 3); simpa using h⟩
  · have d1 : decide ((i : Int) = -1) = false := by simp
    repeat (first | refine WF.seq ?_ | refine WF.regionL ?_ | refine WO.nil ?_ | refine WF.block ?_ | refine WF.skip ?_ | refine WF.endBlock ?_ | (apply WF.exit; (focus (exact rfl))) | (apply WO.op; (focus ((simp only [rO, wantedU, lay, li, lo, reduceIte, Nat.reduceEqDiff, Nat.reduceAdd, beq_self_eq_true, d1]; done))); (focus (simp only [rE, rO, li, lo, lay, evalL, ofConst, storeU, AH.set, AV.cells, if_true, if_false, reduceIte, Nat.reduceEqDiff, Nat.reduceAdd, Nat.reduceMul, d1]; exact rfl)); (focus (exact rfl))) | (apply WO.unwanted; (focus ((simp only [rO, wantedU, lay, li, lo, reduceIte, Nat.reduceEqDiff, Nat.reduceAdd, beq_self_eq_true, d1]; done))); (focus (exact rfl))))
    (first | (apply WF.condT; (focus (simp only [evalO, ofConst, Tri.gp, lay, Bool.not_true, Bool.not_false, reduceIte, Nat.reduceEqDiff, d1]; done))) | (apply WF.condF; (focus (simp only [evalO, ofConst, Tri.gp, lay, Bool.not_true, Bool.not_false, reduceIte, Nat.reduceEqDiff, d1]; done))))
    repeat (first | refine WF.seq ?_ | refine WF.regionL ?_ | refine WO.nil ?_ | refine WF.block ?_ | refine WF.skip ?_ | refine WF.endBlock ?_ | (apply WF.exit; (focus (exact rfl))) | (apply WO.op; (focus ((simp only [rO, wantedU, lay, li, lo, reduceIte, Nat.reduceEqDiff, Nat.reduceAdd, beq_self_eq_true, d1]; done))); (focus (simp only [rE, rO, li, lo, lay, evalL, ofConst, storeU, AH.set, AV.cells, if_true, if_false, reduceIte, Nat.reduceEqDiff, Nat.reduceAdd, Nat.reduceMul, d1]; exact rfl)); (focus (exact rfl))) | (apply WO.unwanted; (focus ((simp only [rO, wantedU, lay, li, lo, reduceIte, Nat.reduceEqDiff, Nat.reduceAdd, beq_self_eq_true, d1]; done))); (focus (exact rfl))))
    refine WF.while (fun m t H' => ∃ j ks, Up H0 H' ∧ j + m = l.length ∧ ks = (l.take j).filter (fun d => ids.contains d.id) ∧ (ks.length < j ∧ j ≤ l.length) ∧ Kept H0.next H' b l j ks ∧ t.get 0 = some (.slice b 0 l.length (.up 3)) ∧ t.get 1 = some (.func 62 [] [.ptr bx 0]) ∧ t.get 5 = some (.int .i64 (ks.length : Int)) ∧ t.get 6 = some (.int .i64 (j : Int))) (l.length - (i + 1)) ?_ ?_
    · refine ⟨i + 1, l.take i, hu0, by omega, ?_, ⟨by simp; omega, by omega⟩, Kept.start hown (by omega), ?_, ?_, ?_, ?_⟩
      · have hn2 : l[i].id ∉ ids := by simpa using hni
        rw [List.take_succ_eq_append_getElem hil, List.filter_append, List.filter_eq_self.2 fun d hd => ?_]
        · simp [hn2]
        · obtain ⟨j, hj, rfl⟩ := List.mem_iff_getElem.1 hd
          simp only [List.length_take] at hj
          rw [List.getElem_take]
          exact hbef j (by omega) (by omega)
      · simp [Tri.gp, lay]
      · simp [Tri.gp, lay]
      · simp [Tri.gp, lay, Nat.min_eq_left (Nat.le_of_lt hil)]
      · simp only [Tri.gp, lay, reduceIte, Nat.reduceEqDiff]
        rw [w64 (by omega) (by omega)]
        simp
    rintro m t H' ⟨j, ks, hu, hjm, hks, ⟨hkj, hjl⟩, hkept, ht0, ht1, ht5, ht6⟩ ih
    by_cases hj : j < l.length
    · have hlt : decide ((j : Int) < (l.length : Int)) = true := by simp; omega
      obtain ⟨c, dv, hc, hdn, hwd, hcut⟩ := hkept.at hj
      rw [Nat.zero_add] at hcut
      have hone := hdn.1.one
      have hsol := hdn.1.solid
      have ov := over_rec l[j].id l[j].tm hone
      have cr := cut_rec l[j].id l[j].tm hsol
      repeat (first | refine WF.seq ?_ | refine WF.regionL ?_ | refine WO.nil ?_ | refine WF.block ?_ | refine WF.skip ?_ | refine WF.endBlock ?_ | (apply WF.exit; (focus (exact rfl))) | (apply WO.op; (focus ((simp only [rO, wantedU, lay, li, lo, reduceIte, Nat.reduceEqDiff, Nat.reduceAdd, beq_self_eq_true, hlt]; done))); (focus (simp only [rE, rO, li, lo, lay, evalL, ofConst, storeU, AH.set, AV.cells, if_true, if_false, reduceIte, Nat.reduceEqDiff, Nat.reduceAdd, Nat.reduceMul, und78, loadVar_agg agg87 sz87, sz87, zero87, cu62c, ht0, ht1, ht5, ht6, hlt, len_SL und78 hra.1]; exact rfl)); (focus (exact rfl))) | (apply WO.unwanted; (focus ((simp only [rO, wantedU, lay, li, lo, reduceIte, Nat.reduceEqDiff, Nat.reduceAdd, beq_self_eq_true, hlt]; done))); (focus (exact rfl))))
      (first | (apply WF.condT; (focus (simp only [evalO, ofConst, Tri.gp, lay, Bool.not_true, Bool.not_false, reduceIte, Nat.reduceEqDiff, hlt]; done))) | (apply WF.condF; (focus (simp only [evalO, ofConst, Tri.gp, lay, Bool.not_true, Bool.not_false, reduceIte, Nat.reduceEqDiff, hlt]; done))))
      repeat (first | refine WF.seq ?_ | refine WF.regionL ?_ | refine WO.nil ?_ | refine WF.block ?_ | refine WF.skip ?_ | refine WF.endBlock ?_ | (apply WF.exit; (focus (exact rfl))) | (apply WO.op; (focus ((simp only [rO, wantedU, lay, li, lo, reduceIte, Nat.reduceEqDiff, Nat.reduceAdd, beq_self_eq_true, hlt]; done))); (focus (simp only [rE, rO, li, lo, lay, evalL, ofConst, storeU, AH.set, AV.cells, if_true, if_false, reduceIte, Nat.reduceEqDiff, Nat.reduceAdd, Nat.reduceMul, und78, loadVar_agg agg87 sz87, sz87, zero87, cu62c, ht0, ht1, ht5, ht6, hlt, index_SL und78 sz87 hj, hc, hcut, ov, cr]; exact rfl)); (focus (exact rfl))) | (apply WO.unwanted; (focus ((simp only [rO, wantedU, lay, li, lo, reduceIte, Nat.reduceEqDiff, Nat.reduceAdd, beq_self_eq_true, hlt]; done))); (focus (exact rfl))))
      have hu2 := hu.trans (Up.box2 H' (some (.cells 87 [.int .i64 0, .int .i64 0, .nilslice] 0 false false)) (some (.cells 87 [.int .i64 l[j].id, .int .i64 l[j].tm, dv] 0 false false)))
      have hbx2 := Nat.lt_of_lt_of_le hbx hu2.next
      have hbc2 := (hu2.cellsAt hbx).trans hbc
      (apply WO.call; (focus ((simp only [rO, wantedU, lay, li, lo, reduceIte, Nat.reduceEqDiff, Nat.reduceAdd, beq_self_eq_true, hlt]; done))); (focus (simp only [rE, rO, li, lo, lay, evalL, ofConst, storeU, AH.set, AV.cells, if_true, if_false, reduceIte, Nat.reduceEqDiff, Nat.reduceAdd, Nat.reduceMul, und78, loadVar_agg agg87 sz87, sz87, zero87, cu62c, ht0, ht1, ht5, ht6, hlt, ov, cr, cut_three (hole_int _ _) (hole_int _ _) hsol]; exact rfl)); (focus (exact other_c _ _ _ _ _ _ _ _ hdn.1 hbx2 hbc2 (hi.up hu2) hilen)); rintro _ H ⟨rfl, rfl⟩; refine ⟨_, rfl, ?_⟩)
      cases hv : ids.contains l[j].id
      · simp only [Bool.not_false]
        repeat (first | refine WF.seq ?_ | refine WF.regionL ?_ | refine WO.nil ?_ | refine WF.block ?_ | refine WF.skip ?_ | refine WF.endBlock ?_ | (apply WF.exit; (focus (exact rfl))) | (apply WO.op; (focus ((simp only [rO, wantedU, lay, li, lo, reduceIte, Nat.reduceEqDiff, Nat.reduceAdd, beq_self_eq_true, hlt]; done))); (focus (simp only [rE, rO, li, lo, lay, evalL, ofConst, storeU, AH.set, AV.cells, if_true, if_false, reduceIte, Nat.reduceEqDiff, Nat.reduceAdd, Nat.reduceMul, und78, loadVar_agg agg87 sz87, sz87, zero87, cu62c, ht0, ht1, ht5, ht6, hlt]; exact rfl)); (focus (exact rfl))) | (apply WO.unwanted; (focus ((simp only [rO, wantedU, lay, li, lo, reduceIte, Nat.reduceEqDiff, Nat.reduceAdd, beq_self_eq_true, hlt]; done))); (focus (exact rfl))))
        (first | (apply WF.condT; (focus (simp only [evalO, ofConst, Tri.gp, lay, Bool.not_true, Bool.not_false, reduceIte, Nat.reduceEqDiff, hlt]; done))) | (apply WF.condF; (focus (simp only [evalO, ofConst, Tri.gp, lay, Bool.not_true, Bool.not_false, reduceIte, Nat.reduceEqDiff, hlt]; done))))
        repeat (first | refine WF.seq ?_ | refine WF.regionL ?_ | refine WO.nil ?_ | refine WF.block ?_ | refine WF.skip ?_ | refine WF.endBlock ?_ | (apply WF.exit; (focus (exact rfl))) | (apply WO.op; (focus ((simp only [rO, wantedU, lay, li, lo, reduceIte, Nat.reduceEqDiff, Nat.reduceAdd, beq_self_eq_true, hlt]; done))); (focus (simp only [rE, rO, li, lo, lay, evalL, ofConst, storeU, AH.set, AV.cells, if_true, if_false, reduceIte, Nat.reduceEqDiff, Nat.reduceAdd, Nat.reduceMul, und78, loadVar_agg agg87 sz87, sz87, zero87, cu62c, ht0, ht1, ht5, ht6, hlt]; exact rfl)); (focus (exact rfl))) | (apply WO.unwanted; (focus ((simp only [rO, wantedU, lay, li, lo, reduceIte, Nat.reduceEqDiff, Nat.reduceAdd, beq_self_eq_true, hlt]; done))); (focus (exact rfl))))
        refine WF.again ?_
        refine ih (m - 1) _ _ (by omega) ⟨j + 1, ks, hu2, by omega, ?_, ⟨by omega, by omega⟩, (hkept.up (Up.box2 _ _ _)).skip, ?_, ?_, ?_, ?_⟩
        · have hn2 : l[j].id ∉ ids := by simpa using hv
          rw [List.take_succ_eq_append_getElem hj, List.filter_append, ← hks]
          simp [hn2]
        · simp [Tri.gp, ht0]
        · simp [Tri.gp, ht1]
        · simp [Tri.gp, ht5]
        · simp only [Tri.gp, reduceIte]
          rw [w64 (by omega) (by omega)]
          simp
      · simp only [Bool.not_true]
        repeat (first | refine WF.seq ?_ | refine WF.regionL ?_ | refine WO.nil ?_ | refine WF.block ?_ | refine WF.skip ?_ | refine WF.endBlock ?_ | (apply WF.exit; (focus (exact rfl))) | (apply WO.op; (focus ((simp only [rO, wantedU, lay, li, lo, reduceIte, Nat.reduceEqDiff, Nat.reduceAdd, beq_self_eq_true, hlt]; done))); (focus (simp only [rE, rO, li, lo, lay, evalL, ofConst, storeU, AH.set, AV.cells, if_true, if_false, reduceIte, Nat.reduceEqDiff, Nat.reduceAdd, Nat.reduceMul, und78, loadVar_agg agg87 sz87, sz87, zero87, cu62c, ht0, ht1, ht5, ht6, hlt]; exact rfl)); (focus (exact rfl))) | (apply WO.unwanted; (focus ((simp only [rO, wantedU, lay, li, lo, reduceIte, Nat.reduceEqDiff, Nat.reduceAdd, beq_self_eq_true, hlt]; done))); (focus (exact rfl))))
        (first | (apply WF.condT; (focus (simp only [evalO, ofConst, Tri.gp, lay, Bool.not_true, Bool.not_false, reduceIte, Nat.reduceEqDiff, hlt]; done))) | (apply WF.condF; (focus (simp only [evalO, ofConst, Tri.gp, lay, Bool.not_true, Bool.not_false, reduceIte, Nat.reduceEqDiff, hlt]; done))))
        have hkl : ks.length < l.length := by omega
        obtain ⟨c1, c2, hg, ho, hk2⟩ := (hkept.up (Up.box2 H' (some (.cells 87 [.int .i64 0, .int .i64 0, .nilslice] 0 false false)) (some (.cells 87 [.int .i64 l[j].id, .int .i64 l[j].tm, dv] 0 false false)))).put hj (d := l[j]) (hdn.up (Up.box2 _ _ _)) hwd
        rw [Nat.zero_add] at ho
        have hst := store87 hg ho
        repeat (first | refine WF.seq ?_ | refine WF.regionL ?_ | refine WO.nil ?_ | refine WF.block ?_ | refine WF.skip ?_ | refine WF.endBlock ?_ | (apply WF.exit; (focus (exact rfl))) | (apply WO.op; (focus ((simp only [rO, wantedU, lay, li, lo, reduceIte, Nat.reduceEqDiff, Nat.reduceAdd, beq_self_eq_true, hlt]; done))); (focus (simp only [rE, rO, li, lo, lay, evalL, ofConst, AV.cells, if_true, if_false, reduceIte, Nat.reduceEqDiff, Nat.reduceAdd, Nat.reduceMul, und78, loadVar_agg agg87 sz87, sz87, zero87, cu62c, ht0, ht1, ht5, ht6, hlt, cut_three (hole_int _ _) (hole_int _ _) hsol, index_SL und78 sz87 hkl, hst]; exact rfl)); (focus (exact rfl))) | (apply WO.unwanted; (focus ((simp only [rO, wantedU, lay, li, lo, reduceIte, Nat.reduceEqDiff, Nat.reduceAdd, beq_self_eq_true, hlt]; done))); (focus (exact rfl))))
        refine WF.again ?_
        refine ih (m - 1) _ _ (by omega) ⟨j + 1, ks ++ [l[j]], hu2.set hb0, by omega, ?_, ⟨by simp; omega, by omega⟩, hk2, ?_, ?_, ?_, ?_⟩
        · have hn2 : l[j].id ∈ ids := by simpa using hv
          rw [List.take_succ_eq_append_getElem hj, List.filter_append, ← hks]
          simp [hn2]
        · simp [Tri.gp, ht0]
        · simp [Tri.gp, ht1]
        · simp only [Tri.gp, reduceIte, Nat.reduceEqDiff]
          rw [w64 (by omega) (by omega)]
          simp
        · simp only [Tri.gp, reduceIte]
          rw [w64 (by omega) (by omega)]
          simp
    · have hlt : decide ((j : Int) < (l.length : Int)) = false := by simp; omega
      obtain rfl : j = l.length := by omega
      rw [List.take_length] at hks
      have hkl : ks.length < l.length := by omega
      repeat (first | refine WF.seq ?_ | refine WF.regionL ?_ | refine WO.nil ?_ | refine WF.block ?_ | refine WF.skip ?_ | refine WF.endBlock ?_ | (apply WF.exit; (focus (exact rfl))) | (apply WO.op; (focus ((simp only [rO, wantedU, lay, li, lo, reduceIte, Nat.reduceEqDiff, Nat.reduceAdd, beq_self_eq_true, hlt]; done))); (focus (simp only [rE, rO, li, lo, lay, evalL, ofConst, storeU, AH.set, AV.cells, if_true, if_false, reduceIte, Nat.reduceEqDiff, Nat.reduceAdd, Nat.reduceMul, und78, loadVar_agg agg87 sz87, sz87, zero87, cu62c, ht0, ht1, ht5, ht6, hlt, len_SL und78 hra.1]; exact rfl)); (focus (exact rfl))) | (apply WO.unwanted; (focus ((simp only [rO, wantedU, lay, li, lo, reduceIte, Nat.reduceEqDiff, Nat.reduceAdd, beq_self_eq_true, hlt]; done))); (focus (exact rfl))))
      (first | (apply WF.condT; (focus (simp only [evalO, ofConst, Tri.gp, lay, Bool.not_true, Bool.not_false, reduceIte, Nat.reduceEqDiff, hlt]; done))) | (apply WF.condF; (focus (simp only [evalO, ofConst, Tri.gp, lay, Bool.not_true, Bool.not_false, reduceIte, Nat.reduceEqDiff, hlt]; done))))
      repeat (first | refine WF.seq ?_ | refine WF.regionL ?_ | refine WO.nil ?_ | refine WF.block ?_ | refine WF.skip ?_ | refine WF.endBlock ?_ | (apply WF.exit; (focus (exact rfl))) | (apply WO.op; (focus ((simp only [rO, wantedU, lay, li, lo, reduceIte, Nat.reduceEqDiff, Nat.reduceAdd, beq_self_eq_true, hlt]; done))); (focus (simp only [rE, rO, li, lo, lay, evalL, ofConst, storeU, AH.set, AV.cells, if_true, if_false, reduceIte, Nat.reduceEqDiff, Nat.reduceAdd, Nat.reduceMul, und78, loadVar_agg agg87 sz87, sz87, zero87, cu62c, ht0, ht1, ht5, ht6, hlt, slU78, sl_from hkl, sl_to (Nat.le_of_lt hkl)]; exact rfl)); (focus (exact rfl))) | (apply WO.unwanted; (focus ((simp only [rO, wantedU, lay, li, lo, reduceIte, Nat.reduceEqDiff, Nat.reduceAdd, beq_self_eq_true, hlt]; done))); (focus (exact rfl))))
      obtain ⟨c1, c2, hg, ho, hk2⟩ := hkept.clear (Nat.le_of_lt hkl)
      rw [Nat.zero_add] at ho
      refine WO.does (v := .tuple []) (H1 := H'.set b (.cells 87 c2 0 false false)) (by simp only [rO, wantedU, lay, li, lo, reduceIte, Nat.reduceEqDiff, Nat.reduceAdd, beq_self_eq_true]; done) (fun c h => by cases h) (fun w0 w ρ ev hw hev => ?_) rfl ?_
      · have hxv : VR ρ (.slice b (ks.length * 3) (l.length - ks.length) (.up 3)) (ev (.tmp 38)) := hev (.tmp 38) _ (by simp only [evalO, Tri.gp, reduceIte])
        unfold Does
        have he : (#[Operand.tmp 38] : Array Operand).map ev = #[ev (.tmp 38)] := by simp
        have g := clear_gives (ty := 0) hw (by omega) hg ho hxv
        rw [← he] at g
        exact Gives.does g
      repeat (first | refine WF.seq ?_ | refine WF.regionL ?_ | refine WO.nil ?_ | refine WF.block ?_ | refine WF.skip ?_ | refine WF.endBlock ?_ | (apply WF.exit; (focus (exact rfl))) | (apply WO.op; (focus ((simp only [rO, wantedU, lay, li, lo, reduceIte, Nat.reduceEqDiff, Nat.reduceAdd, beq_self_eq_true]; done))); (focus (simp only [rE, rO, li, lo, lay, evalL, ofConst, storeU, AH.set, AV.cells, if_true, if_false, reduceIte, Nat.reduceEqDiff, Nat.reduceAdd, Nat.reduceMul, und78, loadVar_agg agg87 sz87, sz87, zero87, cu62c, ht0, ht1, ht5, ht6, slU78, sl_from hkl, sl_to (Nat.le_of_lt hkl)]; exact rfl)); (focus (exact rfl))) | (apply WO.unwanted; (focus ((simp only [rO, wantedU, lay, li, lo, reduceIte, Nat.reduceEqDiff, Nat.reduceAdd, beq_self_eq_true]; done))); (focus (exact rfl))))
      (apply WF.ret; (focus (simp only [resultsU, Tri.gp, lay, resL, reduceIte, Nat.reduceEqDiff, rs64]; exact rfl)))
      rw [← hks]
      exact ⟨hu.set hb0, hk2.from hb0 _⟩
end Go.Ev.C
end
section
set_option linter.unusedVariables false
set_option linter.unusedSimpArgs false
set_option linter.defProp false
set_option linter.all false
namespace Go.Ev.C
open Go.Proofs
set_option maxRecDepth 100000
set_option linter.unusedSimpArgs false
variable {L : World → Prop} [Good Q L]
theorem delete0_c (H : AH) (v : AV) (hs : SL v 0) (bx : Nat) (vid : AV) (ids : List Int) (hbx : bx < H.next) (hbc : H.cellsAt bx = some [vid]) (hi : IntsAt H vid ids) (hilen : ids.length < 9223372036854775808) :
    Fn Q L 64 [v, .func 62 [] [.ptr bx 0]] H (fun w H' => w = v ∧ H' = H) := by
  refine Fn.intro (en64 _ _) ?_
  have hra : RecsAt H v [] := ⟨hs, fun _ _ _ _ _ h => absurd rfl h⟩
  have h0 : ([] : List RecD).length < 9223372036854775808 := by decide
  unfold c64 Tryz.f64
  simp only [Option.getD_some]
  repeat (first | refine WF.seq ?_ | refine WF.regionL ?_ | refine WO.nil ?_ | refine WF.block ?_ | refine WF.skip ?_ | refine WF.endBlock ?_ | (apply WF.exit; (focus (exact rfl))) | (apply WO.op; (focus ((simp only [rO, wantedU, lay, li, lo, reduceIte, Nat.reduceEqDiff, Nat.reduceAdd, beq_self_eq_true]; done))); (focus (simp only [rE, rO, li, lo, lay, evalL, ofConst, storeU, AH.set, AV.cells, if_true, if_false, reduceIte, Nat.reduceEqDiff, Nat.reduceAdd, Nat.reduceMul]; exact rfl)); (focus (exact rfl))) | (apply WO.unwanted; (focus ((simp only [rO, wantedU, lay, li, lo, reduceIte, Nat.reduceEqDiff, Nat.reduceAdd, beq_self_eq_true]; done))); (focus (exact rfl))))
  (apply WO.call; (focus ((simp only [rO, wantedU, lay, li, lo, reduceIte, Nat.reduceEqDiff, Nat.reduceAdd, beq_self_eq_true]; done))); (focus (simp only [rE, rO, li, lo, lay, evalL, ofConst, storeU, AH.set, AV.cells, if_true, if_false, reduceIte, Nat.reduceEqDiff, Nat.reduceAdd, Nat.reduceMul, cu105]; exact rfl)); (focus (exact idxOther_c _ _ _ _ _ _ hra h0 hbx hbc hi hilen)); rintro _ _ ⟨rfl, r, rfl, hr⟩; refine ⟨_, rfl, ?_⟩)
  rcases hr with ⟨rfl, hall⟩ | ⟨i, rfl, hil, _⟩
  · have d1 : decide ((-1 : Int) = -1) = true := by decide
    repeat (first | refine WF.seq ?_ | refine WF.regionL ?_ | refine WO.nil ?_ | refine WF.block ?_ | refine WF.skip ?_ | refine WF.endBlock ?_ | (apply WF.exit; (focus (exact rfl))) | (apply WO.op; (focus ((simp only [rO, wantedU, lay, li, lo, reduceIte, Nat.reduceEqDiff, Nat.reduceAdd, beq_self_eq_true, d1]; done))); (focus (simp only [rE, rO, li, lo, lay, evalL, ofConst, storeU, AH.set, AV.cells, if_true, if_false, reduceIte, Nat.reduceEqDiff, Nat.reduceAdd, Nat.reduceMul, d1, decide_true]; exact rfl)); (focus (exact rfl))) | (apply WO.unwanted; (focus ((simp only [rO, wantedU, lay, li, lo, reduceIte, Nat.reduceEqDiff, Nat.reduceAdd, beq_self_eq_true, d1]; done))); (focus (exact rfl))))
    (first | (apply WF.condT; (focus (simp only [evalO, ofConst, Tri.gp, lay, Bool.not_true, Bool.not_false, reduceIte, Nat.reduceEqDiff, d1, decide_true]; done))) | (apply WF.condF; (focus (simp only [evalO, ofConst, Tri.gp, lay, Bool.not_true, Bool.not_false, reduceIte, Nat.reduceEqDiff, d1, decide_true]; done))))
    repeat (first | refine WF.seq ?_ | refine WF.regionL ?_ | refine WO.nil ?_ | refine WF.block ?_ | refine WF.skip ?_ | refine WF.endBlock ?_ | (apply WF.exit; (focus (exact rfl))) | (apply WO.op; (focus ((simp only [rO, wantedU, lay, li, lo, reduceIte, Nat.reduceEqDiff, Nat.reduceAdd, beq_self_eq_true]; done))); (focus (simp only [rE, rO, li, lo, lay, evalL, ofConst, storeU, AH.set, AV.cells, if_true, if_false, reduceIte, Nat.reduceEqDiff, Nat.reduceAdd, Nat.reduceMul]; exact rfl)); (focus (exact rfl))) | (apply WO.unwanted; (focus ((simp only [rO, wantedU, lay, li, lo, reduceIte, Nat.reduceEqDiff, Nat.reduceAdd, beq_self_eq_true]; done))); (focus (exact rfl))))
    (apply WF.ret; (focus (simp only [resultsU, Tri.gp, lay, resL, reduceIte, Nat.reduceEqDiff, rs64]; exact rfl)))
    exact ⟨rfl, rfl⟩
  · simp at hil
end Go.Ev.C
end
section
set_option linter.unusedVariables false
set_option linter.unusedSimpArgs false
set_option linter.defProp false
set_option linter.all false
namespace Go.Ev.C
open Go.Proofs
set_option maxRecDepth 100000
set_option linter.unusedSimpArgs false
variable {L : World → Prop} [Good Q L]
theorem RecsFrom.keep {w m : Nat} {H : AH} {v : AV} {l : List RecD} (h : RecsFrom w H v l) (hm : m < w) (B : AB) : RecsFrom w (H.set m B) v l :=
  ⟨h.1, fun b off n cap e hn => by
    obtain ⟨c, h1, h2, h3, h4⟩ := h.2 b off n cap e hn
    refine ⟨c, h1, h2, by rw [set_cellsAt (by omega)]; exact h3, fun i d hi => ?_⟩
    obtain ⟨dv, hd, hc⟩ := h4 i d hi
    refine ⟨dv, ⟨hd.1, fun b' off m' cap e hn => ?_⟩, hc⟩
    obtain ⟨k1, c', k2, k3, k4⟩ := hd.2 b' off m' cap e hn
    exact ⟨k1, c', k2, by rw [set_cellsAt (by omega)]; exact k3, k4⟩⟩
theorem cells_agg (l : List AV) : (AV.agg l).cells = l := rfl
theorem set_at (H : AH) (b : Nat) (e : TypeId) (c : List AV) (fz : Nat) (mk ro : Bool) : (H.set b (.cells e c fz mk ro)).cellsAt b = some c := by
  unfold AH.cellsAt AH.set
  dsimp only
  rw [Tri.gp, if_pos rfl]
theorem store80 {H : AH} {b : Nat} {x y z u v : AV} (hg : H.t.get b = some (.cells 80 [x, y, z, u] 0 false false)) (hv : v.cells = [v]) (h1 : oneA v = true) : storeU Q 78 b 1 v H = some (H.set b (.cells 80 [x, v, z, u] 0 false false)) := by
  unfold storeU
  rw [hg, sz78]
  simp [hv, over_ok (c := [x, y, z, u]) (vs := [v]) (off := 1) (by simp) (by simp [h1])]
theorem store80a {H : AH} {b : Nat} {x y z u x' y' z' u' : AV} (hg : H.t.get b = some (.cells 80 [x, y, z, u] 0 false false)) (h1 : [x', y', z', u'].all oneA = true) : storeU Q 80 b 0 (.agg [x', y', z', u']) H = some (H.set b (.cells 80 [x', y', z', u'] 0 false false)) := by
  unfold storeU
  rw [hg, sz80]
  simp only [cells_agg]
  rw [over_ok (c := [x, y, z, u]) (by simp) h1]
  rfl
theorem SL.cells' {v : AV} {n : Nat} (h : SL v n) : v.cells = [v] := by cases h <;> rfl
theorem zero80d : zeroU Q 80 = some (.agg [.int .i64 0, .nilslice, .int .i64 0, .bool false]) := by kernel_rfl
theorem bu80d (t : Tri AV) : buildP Q t 80 #[] = some (.agg [.int .i64 0, .nilslice, .int .i64 0, .bool false]) := by kernel_rfl
theorem Up.box3d (H : AH) (o1 o2 o3 : Option AB) : Up H ⟨((H.t.put H.next o1).put (H.next + 1) o2).put (H.next + 1 + 1) o3, H.next + 1 + 1 + 1⟩ :=
  ⟨by show H.next ≤ H.next + 1 + 1 + 1; omega, fun b hb => by show (((H.t.put _ _).put _ _).put _ _).get b = _; rw [Tri.gp, if_neg (by omega), Tri.gp, if_neg (by omega), Tri.gp, if_neg (by omega)]⟩
theorem Up.put3d (H : AH) (o1 o2 o3 o4 : Option AB) : Up H ⟨(((H.t.put H.next o1).put (H.next + 1) o2).put (H.next + 1 + 1) o3).put (H.next + 1 + 1) o4, H.next + 1 + 1 + 1⟩ :=
  ⟨by show H.next ≤ H.next + 1 + 1 + 1; omega, fun b hb => by show ((((H.t.put _ _).put _ _).put _ _).put _ _).get b = _; rw [Tri.gp, if_neg (by omega), Tri.gp, if_neg (by omega), Tri.gp, if_neg (by omega), Tri.gp, if_neg (by omega)]⟩
set_option maxHeartbeats 2000000 in
theorem select_c (H : AH) (cpu dr : Int) (ah : Bool) (rv : AV) (l : List RecD) (vid : AV) (ids : List Int) (hr : RecsAt H rv l) (hlen : l.length < 9223372036854775808) (hi : IntsAt H vid ids) (hilen : ids.length < 9223372036854775808) :
    Fn Q L 28 [BV cpu rv dr ah, vid] H (fun v H' => Up H H' ∧ ((okB cpu l dr = false ∧ v = .tuple [.agg [.int .i64 0, .nilslice, .int .i64 0, .bool false], .int .i64 260]) ∨ (okB cpu l dr = true ∧ ∃ rv', v = .tuple [BV cpu rv' dr ah, .int .i64 0] ∧ RecsAt H' rv' (l.filter fun d => ids.contains d.id)))) := by
  refine Fn.intro (en28 _ _) ?_
  have hs := hr.1
  have hv := hi.1
  have hvc := SL.cells' hv
  have n01 : (H.next = H.next + 1) = False := eq_false (by omega)
  have n02 : (H.next = H.next + 1 + 1) = False := eq_false (by omega)
  have n12 : (H.next + 1 = H.next + 1 + 1) = False := eq_false (by omega)
  have n10 : (H.next + 1 = H.next) = False := eq_false (by omega)
  have n20 : (H.next + 1 + 1 = H.next) = False := eq_false (by omega)
  have n21 : (H.next + 1 + 1 = H.next + 1) = False := eq_false (by omega)
  unfold c28 Tryz.f28 BV
  simp only [Option.getD_some]
  repeat (first | refine WF.seq ?_ | refine WF.regionL ?_ | refine WO.nil ?_ | refine WF.block ?_ | refine WF.skip ?_ | refine WF.endBlock ?_ | (apply WF.exit; (focus (exact rfl))) | (apply WO.op; (focus ((simp only [rO, wantedU, lay, li, lo, reduceIte, Nat.reduceEqDiff, Nat.reduceAdd, beq_self_eq_true]; done))); (focus (simp only [rE, rO, li, lo, lay, evalL, ofConst, storeU, AH.set, if_true, if_false, reduceIte, Nat.reduceEqDiff, Nat.reduceAdd, Nat.reduceMul, cells_agg, hvc, hs.one, hs.solid, hv.one, hv.solid, fa80_1, loadVar_one agg78, loadVar_agg agg80 sz80, sz80, zero80d, bu80d, cut_four, cu54, n01, n02, n12, n10, n20, n21]; exact rfl)); (focus (exact rfl))) | (apply WO.unwanted; (focus ((simp only [rO, wantedU, lay, li, lo, reduceIte, Nat.reduceEqDiff, Nat.reduceAdd, beq_self_eq_true]; done))); (focus (exact rfl))))
  (apply WO.call; (focus ((simp only [rO, wantedU, lay, li, lo, reduceIte, Nat.reduceEqDiff, Nat.reduceAdd, beq_self_eq_true]; done))); (focus (simp only [rE, rO, li, lo, lay, evalL, ofConst, storeU, AH.set, if_true, if_false, reduceIte, Nat.reduceEqDiff, Nat.reduceAdd, Nat.reduceMul, cells_agg, hvc, hs.one, hs.solid, hv.one, hv.solid, fa80_1, loadVar_one agg78, loadVar_agg agg80 sz80, sz80, zero80d, bu80d, cut_four, cu54, n01, n02, n12, n10, n20, n21]; exact rfl)); (focus (exact whole_c _ _ _ _ _ _ (hr.up (Up.box3d _ _ _ _)) hlen)); rintro _ _ ⟨rfl, rfl⟩; refine ⟨_, rfl, ?_⟩)
  cases hb : okB cpu l dr
  · repeat (first | refine WF.seq ?_ | refine WF.regionL ?_ | refine WO.nil ?_ | refine WF.block ?_ | refine WF.skip ?_ | refine WF.endBlock ?_ | (apply WF.exit; (focus (exact rfl))) | (apply WO.op; (focus ((simp only [rO, wantedU, lay, li, lo, reduceIte, Nat.reduceEqDiff, Nat.reduceAdd, beq_self_eq_true]; done))); (focus (simp only [rE, rO, li, lo, lay, evalL, ofConst, storeU, AH.set, if_true, if_false, reduceIte, Nat.reduceEqDiff, Nat.reduceAdd, Nat.reduceMul, cells_agg, hvc, hs.one, hs.solid, hv.one, hv.solid, fa80_1, loadVar_one agg78, loadVar_agg agg80 sz80, sz80, zero80d, bu80d, cut_four, cu54, n01, n02, n12, n10, n20, n21]; exact rfl)); (focus (exact rfl))) | (apply WO.unwanted; (focus ((simp only [rO, wantedU, lay, li, lo, reduceIte, Nat.reduceEqDiff, Nat.reduceAdd, beq_self_eq_true]; done))); (focus (exact rfl))))
    (first | (apply WF.condT; (focus (simp only [evalO, ofConst, Tri.gp, lay, Bool.not_true, Bool.not_false, reduceIte, Nat.reduceEqDiff]; done))) | (apply WF.condF; (focus (simp only [evalO, ofConst, Tri.gp, lay, Bool.not_true, Bool.not_false, reduceIte, Nat.reduceEqDiff]; done))))
    repeat (first | refine WF.seq ?_ | refine WF.regionL ?_ | refine WO.nil ?_ | refine WF.block ?_ | refine WF.skip ?_ | refine WF.endBlock ?_ | (apply WF.exit; (focus (exact rfl))) | (apply WO.op; (focus ((simp only [rO, wantedU, lay, li, lo, reduceIte, Nat.reduceEqDiff, Nat.reduceAdd, beq_self_eq_true]; done))); (focus (simp only [rE, rO, li, lo, lay, evalL, ofConst, storeU, AH.set, if_true, if_false, reduceIte, Nat.reduceEqDiff, Nat.reduceAdd, Nat.reduceMul, cells_agg, hvc, hs.one, hs.solid, hv.one, hv.solid, fa80_1, loadVar_one agg78, loadVar_agg agg80 sz80, sz80, zero80d, bu80d, cut_four, cu54, n01, n02, n12, n10, n20, n21]; exact rfl)); (focus (exact rfl))) | (apply WO.unwanted; (focus ((simp only [rO, wantedU, lay, li, lo, reduceIte, Nat.reduceEqDiff, Nat.reduceAdd, beq_self_eq_true]; done))); (focus (exact rfl))))
    (apply WF.ret; (focus (simp only [resultsU, Tri.gp, lay, resL, reduceIte, Nat.reduceEqDiff, rs28, loadVar_agg agg80 sz80, cellsAt_put, cut_four, hole_int, hole_bool, hole_nilslice, Option.map_some]; exact rfl)))
    exact ⟨Up.put3d _ _ _ _ _, .inl ⟨rfl, rfl⟩⟩
  · repeat (first | refine WF.seq ?_ | refine WF.regionL ?_ | refine WO.nil ?_ | refine WF.block ?_ | refine WF.skip ?_ | refine WF.endBlock ?_ | (apply WF.exit; (focus (exact rfl))) | (apply WO.op; (focus ((simp only [rO, wantedU, lay, li, lo, reduceIte, Nat.reduceEqDiff, Nat.reduceAdd, beq_self_eq_true]; done))); (focus (simp only [rE, rO, li, lo, lay, evalL, ofConst, storeU, AH.set, if_true, if_false, reduceIte, Nat.reduceEqDiff, Nat.reduceAdd, Nat.reduceMul, cells_agg, hvc, hs.one, hs.solid, hv.one, hv.solid, fa80_1, loadVar_one agg78, loadVar_agg agg80 sz80, sz80, zero80d, bu80d, cut_four, cu54, n01, n02, n12, n10, n20, n21]; exact rfl)); (focus (exact rfl))) | (apply WO.unwanted; (focus ((simp only [rO, wantedU, lay, li, lo, reduceIte, Nat.reduceEqDiff, Nat.reduceAdd, beq_self_eq_true]; done))); (focus (exact rfl))))
    (first | (apply WF.condT; (focus (simp only [evalO, ofConst, Tri.gp, lay, Bool.not_true, Bool.not_false, reduceIte, Nat.reduceEqDiff]; done))) | (apply WF.condF; (focus (simp only [evalO, ofConst, Tri.gp, lay, Bool.not_true, Bool.not_false, reduceIte, Nat.reduceEqDiff]; done))))
    repeat (first | refine WF.seq ?_ | refine WF.regionL ?_ | refine WO.nil ?_ | refine WF.block ?_ | refine WF.skip ?_ | refine WF.endBlock ?_ | (apply WF.exit; (focus (exact rfl))) | (apply WO.op; (focus ((simp only [rO, wantedU, lay, li, lo, reduceIte, Nat.reduceEqDiff, Nat.reduceAdd, beq_self_eq_true]; done))); (focus (simp only [rE, rO, li, lo, lay, evalL, ofConst, storeU, AH.set, if_true, if_false, reduceIte, Nat.reduceEqDiff, Nat.reduceAdd, Nat.reduceMul, cells_agg, hvc, hs.one, hs.solid, hv.one, hv.solid, fa80_1, loadVar_one agg78, loadVar_agg agg80 sz80, sz80, zero80d, bu80d, cut_four, cu54, n01, n02, n12, n10, n20, n21]; exact rfl)); (focus (exact rfl))) | (apply WO.unwanted; (focus ((simp only [rO, wantedU, lay, li, lo, reduceIte, Nat.reduceEqDiff, Nat.reduceAdd, beq_self_eq_true]; done))); (focus (exact rfl))))
    have ob := hb
    unfold okB at ob
    simp only [Bool.and_eq_true, decide_eq_true_eq] at ob
    have hle : ∀ d ∈ l, d.n ≤ 100000000 := by
      intro d hd
      have hok : d.ok = true := by
        have k1 := ob.2
        simp only [Bool.not_eq_true', List.any_eq_false] at k1
        simpa using k1 d hd
      unfold RecD.ok vld at hok
      simp only [Bool.and_eq_true, decide_eq_true_eq] at hok
      omega
    have hln : l.length ≤ 100000000 := by omega
    let H3 : AH := ⟨((H.t.put H.next (some (.cells 80 [.int .i64 cpu, rv, .int .i64 dr, .bool ah] 0 false false))).put (H.next + 1) (some (.cells 84 [vid] 0 false false))).put (H.next + 1 + 1) (some (.cells 80 [.int .i64 0, .nilslice, .int .i64 0, .bool false] 0 false false)), H.next + 1 + 1 + 1⟩
    have hu3 : Up H H3 := Up.box3d _ _ _ _
    have hbx : H.next + 1 < H3.next := by show H.next + 1 < H.next + 1 + 1 + 1; omega
    have hbc : H3.cellsAt (H.next + 1) = some [vid] := by simp only [H3, cellsAt_put, reduceIte, n12]
    (apply WO.call; (focus ((simp only [rO, wantedU, lay, li, lo, reduceIte, Nat.reduceEqDiff, Nat.reduceAdd, beq_self_eq_true]; done))); (focus (simp only [rE, rO, li, lo, lay, evalL, ofConst, storeU, AH.set, if_true, if_false, reduceIte, Nat.reduceEqDiff, Nat.reduceAdd, Nat.reduceMul, cells_agg, hvc, hs.one, hs.solid, hv.one, hv.solid, fa80_1, loadVar_one agg78, loadVar_agg agg80 sz80, sz80, zero80d, bu80d, cut_four, cu54, n01, n02, n12, n10, n20, n21, cu60]; exact rfl)); (focus (exact copies_c _ _ _ (hr.up hu3) hln hle)); rintro v1 H1 ⟨hu1, hcop⟩; refine ⟨_, rfl, ?_⟩)
    have hdel : Fn Q L 64 [v1, .func 62 [] [.ptr (H.next + 1) 0]] H1 (fun v H' => Up H3 H' ∧ RecsFrom H3.next H' v (l.filter fun d => ids.contains d.id)) := by
      rcases hcop with ⟨rfl, hs0⟩ | ⟨hne, b, rfl, hb0, hown⟩
      · refine (delete0_c H1 v1 hs0 (H.next + 1) vid ids (Nat.lt_of_lt_of_le hbx hu1.next) ((hu1.cellsAt hbx).trans hbc) ((hi.up hu3).up hu1) hilen).mono ?_
        rintro _ _ ⟨rfl, rfl⟩
        exact ⟨hu1, hs0, fun _ _ _ _ _ h => absurd rfl h⟩
      · exact delete_c H3 H1 hu1 b hb0 l hln hown (H.next + 1) vid ids hbx hbc (hi.up hu3) hilen
    repeat (first | refine WF.seq ?_ | refine WF.regionL ?_ | refine WO.nil ?_ | refine WF.block ?_ | refine WF.skip ?_ | refine WF.endBlock ?_ | (apply WF.exit; (focus (exact rfl))) | (apply WO.op; (focus ((simp only [rO, wantedU, lay, li, lo, reduceIte, Nat.reduceEqDiff, Nat.reduceAdd, beq_self_eq_true]; done))); (focus (simp only [rE, rO, li, lo, lay, evalL, ofConst, storeU, AH.set, if_true, if_false, reduceIte, Nat.reduceEqDiff, Nat.reduceAdd, Nat.reduceMul, cells_agg, hvc, hs.one, hs.solid, hv.one, hv.solid, fa80_1, loadVar_one agg78, loadVar_agg agg80 sz80, sz80, zero80d, bu80d, cut_four, cu54, n01, n02, n12, n10, n20, n21]; exact rfl)); (focus (exact rfl))) | (apply WO.unwanted; (focus ((simp only [rO, wantedU, lay, li, lo, reduceIte, Nat.reduceEqDiff, Nat.reduceAdd, beq_self_eq_true]; done))); (focus (exact rfl))))
    (apply WO.call; (focus ((simp only [rO, wantedU, lay, li, lo, reduceIte, Nat.reduceEqDiff, Nat.reduceAdd, beq_self_eq_true]; done))); (focus (simp only [rE, rO, li, lo, lay, evalL, ofConst, storeU, AH.set, if_true, if_false, reduceIte, Nat.reduceEqDiff, Nat.reduceAdd, Nat.reduceMul, cells_agg, hvc, hs.one, hs.solid, hv.one, hv.solid, fa80_1, loadVar_one agg78, loadVar_agg agg80 sz80, sz80, zero80d, bu80d, cut_four, cu54, n01, n02, n12, n10, n20, n21, cu64]; exact rfl)); (focus (exact hdel)); rintro v2 H2 ⟨hu2, hrv⟩; refine ⟨_, rfl, ?_⟩)
    have hb3 : H.next < H3.next := by show H.next < H.next + 1 + 1 + 1; omega
    have hb5 : H.next + 1 + 1 < H3.next := by show H.next + 1 + 1 < H.next + 1 + 1 + 1; omega
    have hg : H2.t.get H.next = some (.cells 80 [.int .i64 cpu, rv, .int .i64 dr, .bool ah] 0 false false) := by
      rw [hu2.old H.next hb3]
      simp only [H3, Tri.gp, reduceIte, n01, n02]
    have hg5 : H2.t.get (H.next + 1 + 1) = some (.cells 80 [.int .i64 0, .nilslice, .int .i64 0, .bool false] 0 false false) := by
      rw [hu2.old (H.next + 1 + 1) hb5]
      simp only [H3, Tri.gp, reduceIte]
    have hst := store80 hg (SL.cells' hrv.1) hrv.1.one (x := .int .i64 cpu) (y := rv) (z := .int .i64 dr) (u := .bool ah)
    have hg5' : (H2.set H.next (.cells 80 [.int .i64 cpu, v2, .int .i64 dr, .bool ah] 0 false false)).t.get (H.next + 1 + 1) = some (.cells 80 [.int .i64 0, .nilslice, .int .i64 0, .bool false] 0 false false) := by
      unfold AH.set
      simp only [Tri.gp, n20, reduceIte]
      exact hg5
    have hst2 := store80a hg5' (x' := .int .i64 cpu) (y' := v2) (z' := .int .i64 dr) (u' := .bool ah) (by simp [one_int, one_bool, hrv.1.one])
    repeat (first | refine WF.seq ?_ | refine WF.regionL ?_ | refine WO.nil ?_ | refine WF.block ?_ | refine WF.skip ?_ | refine WF.endBlock ?_ | (apply WF.exit; (focus (exact rfl))) | (apply WO.op; (focus ((simp only [rO, wantedU, lay, li, lo, reduceIte, Nat.reduceEqDiff, Nat.reduceAdd, beq_self_eq_true]; done))); (focus (simp only [rE, rO, li, lo, lay, evalL, ofConst, if_true, if_false, reduceIte, Nat.reduceEqDiff, Nat.reduceAdd, Nat.reduceMul, cells_agg, hvc, hs.one, hs.solid, hv.one, hv.solid, fa80_1, loadVar_one agg78, loadVar_agg agg80 sz80, sz80, zero80d, bu80d, cut_four, cu54, n01, n02, n12, n10, n20, n21, hst, hst2, set_at, hrv.1.one, hrv.1.solid]; exact rfl)); (focus (exact rfl))) | (apply WO.unwanted; (focus ((simp only [rO, wantedU, lay, li, lo, reduceIte, Nat.reduceEqDiff, Nat.reduceAdd, beq_self_eq_true]; done))); (focus (exact rfl))))
    (apply WF.ret; (focus (simp only [resultsU, Tri.gp, lay, resL, reduceIte, Nat.reduceEqDiff, rs28, loadVar_agg agg80 sz80, set_at, cut_four, hole_int, hole_bool, hrv.1.solid, Option.map_some]; exact rfl)))
    have hH := hu3.trans hu2
    refine ⟨(hH.set (Nat.le_refl _)).set (by omega), .inr ⟨rfl, v2, rfl, ?_⟩⟩
    exact (hrv.keep hb3 _).set hb5 _
end Go.Ev.C
end
