/- The law's loops. -/
import Derived.Test.YtkkegnkopmpjhaaGreatDoorEvJ
section
set_option linter.unusedVariables false
set_option linter.unusedSimpArgs false
set_option linter.defProp false
set_option linter.all false
namespace Go.Ev.C
open Go.Proofs
set_option maxRecDepth 100000
set_option linter.unusedSimpArgs false
variable {L : World → Prop} [Good Q L]
/-- A part of a code. -/
def sub : List Nat → Code → Code
  | 0 :: p, .seq a _ => sub p a
  | _ :: p, .seq _ b => sub p b
  | _ :: p, .block _ c => sub p c
  | _ :: p, .loop c => sub p c
  | _, c => c
/-- What the law's loops leave alone. -/
structure Sel (t : Tri AV) (v1 v2 : AV) (b3 b8 : Nat) : Prop where
  t1 : t.get 1 = some v1
  t2 : t.get 2 = some v2
  t3 : t.get 3 = some (.ptr b3 0)
  t7 : t.get 7 = some (.bool true)
  t8 : t.get 8 = some (.ptr b8 0)
theorem Sel.put {t : Tri AV} {v1 v2 : AV} {b3 b8 n : Nat} (h : Sel t v1 v2 b3 b8) (o : Option AV) (hn : (Nat.blt 8 n || Nat.beq n 0 || Nat.beq n 4 || Nat.beq n 5 || Nat.beq n 6) = true) : Sel (t.put n o) v1 v2 b3 b8 := by
  have key : n ≠ 1 ∧ n ≠ 2 ∧ n ≠ 3 ∧ n ≠ 7 ∧ n ≠ 8 := by
    simp only [Bool.or_eq_true, Nat.blt_eq, Nat.beq_eq] at hn
    omega
  exact ⟨by rw [Tri.gp, if_neg (by omega)]; exact h.t1, by rw [Tri.gp, if_neg (by omega)]; exact h.t2, by rw [Tri.gp, if_neg (by omega)]; exact h.t3, by rw [Tri.gp, if_neg (by omega)]; exact h.t7, by rw [Tri.gp, if_neg (by omega)]; exact h.t8⟩
set_option maxHeartbeats 2000000 in
theorem others_w {k : List AI} {Φ : AF → AH → Prop} (H0 : AH) (cpu dr : Int) (ah : Bool) (rv v1 v2 : AV) (b3 b8 : Nat) (l : List RecD) (ids : List Int) (hb3 : b3 < H0.next) (hc : H0.cellsAt b3 = some [.int .i64 cpu, rv, .int .i64 dr, .bool ah]) (hr : RecsAt H0 rv l) (hl : l.length ≤ 1000) (hi : IntsAt H0 v1 ids) (hil : ids.length < 9223372036854775808)
    (t : Tri AV) (hS : Sel t v1 v2 b3 b8) (ht10 : t.get 10 = some .nilslice) (ht11 : t.get 11 = some .nilslice) (ht12 : t.get 12 = some (.int .i64 0))
    (hk : ∀ t H v, Up H0 H → OwnInts H0 H v (othersL ids l) → Sel t v1 v2 b3 b8 → t.get 10 = some v → t.get 11 = some .nilslice → WF Q L (PF 9 225 t k) H Φ) :
    WF Q L (PF 9 225 t (.code (sub [1, 1, 1, 1, 1, 1, 0, 1, 0] c9) :: .inBlock 0 :: k)) H0 Φ := by
  have hs := hr.1
  have hsi := hi.1
  unfold c9 Tryz.f9
  simp only [Option.getD_some, sub]

  refine WF.while (fun m t H => ∃ (i : Nat) (v : AV), Up H0 H ∧ i + m = l.length ∧ OwnInts H0 H v (othersL ids (l.take i)) ∧ Sel t v1 v2 b3 b8 ∧ t.get 10 = some v ∧ t.get 11 = some .nilslice ∧ t.get 12 = some (.int .i64 (i : Int))) l.length ?_ ?_
  · exact ⟨0, .nilslice, Up.refl _, by omega, by rw [List.take_zero]; exact OwnInts.nil _ _, hS, ht10, ht11, ht12⟩
  rintro m t H ⟨i, v, hu, him, hown, hS, ht10, ht11, ht12⟩ ih
  obtain ⟨t1, t2, t3, t7, t8⟩ := id hS
  have hc3 := (hu.cellsAt hb3).trans hc
  by_cases hil' : i < l.length
  · have hlt : decide ((i : Int) < (l.length : Int)) = true := by simp; omega
    obtain ⟨bb, boff, bcap, bc, dv, hrv, hbc, hdd, hcut⟩ := (hr.up hu).at hil'
    have hcell : bc[boff + i * 3]? = some (.int .i64 l[i].id) := by
      obtain ⟨w, p1, _, p3⟩ := (cut_iff.1 hcut).2 0 (by omega)
      cases p3
      exact p1
    repeat (first | refine WF.seq ?_ | refine WF.regionL ?_ | refine WO.nil ?_ | refine WF.block ?_ | refine WF.skip ?_ | refine WF.endBlock ?_ | (apply WF.exit; (focus (exact rfl))) | (apply WO.op; (focus ((simp only [rO, wantedU, lay, decide_true, li, lo, reduceIte, Nat.reduceEqDiff, Nat.reduceAdd, beq_self_eq_true, hlt]; done))); (focus (simp only [rE, rO, li, lo, lay, evalL, ofConst, storeU, AH.set, AV.cells, decide_true, if_true, if_false, reduceIte, Nat.reduceEqDiff, Nat.reduceAdd, Nat.reduceMul, und78, und84, len_SL und78 hs, len_SL und84 hsi, fa80_1, fa87_0, loadVar_one agg78, loadVar_one agg3, hc3, hs.solid, t1, t3, ht10, ht12, hlt]; exact rfl)); (focus (exact rfl))) | (apply WO.unwanted; (focus ((simp only [rO, wantedU, lay, decide_true, li, lo, reduceIte, Nat.reduceEqDiff, Nat.reduceAdd, beq_self_eq_true, hlt]; done))); (focus (exact rfl))))
    (first | (apply WF.condT; (focus (simp only [evalO, ofConst, Tri.gp, lay, Bool.not_true, Bool.not_false, reduceIte, Nat.reduceEqDiff, hlt]; done))) | (apply WF.condF; (focus (simp only [evalO, ofConst, Tri.gp, lay, Bool.not_true, Bool.not_false, reduceIte, Nat.reduceEqDiff, hlt]; done))))
    repeat (first | refine WF.seq ?_ | refine WF.regionL ?_ | refine WO.nil ?_ | refine WF.block ?_ | refine WF.skip ?_ | refine WF.endBlock ?_ | (apply WF.exit; (focus (exact rfl))) | (apply WO.op; (focus ((simp only [rO, wantedU, lay, decide_true, li, lo, reduceIte, Nat.reduceEqDiff, Nat.reduceAdd, beq_self_eq_true, hlt]; done))); (focus (simp only [rE, rO, li, lo, lay, evalL, ofConst, storeU, AH.set, AV.cells, decide_true, if_true, if_false, reduceIte, Nat.reduceEqDiff, Nat.reduceAdd, Nat.reduceMul, und78, und84, len_SL und78 hs, len_SL und84 hsi, fa80_1, fa87_0, loadVar_one agg78, loadVar_one agg3, hc3, hs.solid, t1, t3, ht10, ht12, hlt]; exact rfl)); (focus (exact rfl))) | (apply WO.unwanted; (focus ((simp only [rO, wantedU, lay, decide_true, li, lo, reduceIte, Nat.reduceEqDiff, Nat.reduceAdd, beq_self_eq_true, hlt]; done))); (focus (exact rfl))))
    refine WF.while (fun m t H' => ∃ j : Nat, H' = H ∧ j + m = ids.length ∧ Sel t v1 v2 b3 b8 ∧ t.get 10 = some v ∧ t.get 11 = some .nilslice ∧ t.get 12 = some (.int .i64 (i : Int)) ∧ t.get 13 = some (.bool ((ids.take j).contains l[i].id)) ∧ t.get 14 = some (.int .i64 (j : Int))) ids.length ?_ ?_
    · refine ⟨0, rfl, by omega, ?_, ?_, ?_, ?_, ?_, ?_⟩
      · ((repeat (refine Sel.put ?_ _ rfl)); exact hS)
      · simp [Tri.gp, ht10]
      · simp [Tri.gp, ht11]
      · simp [Tri.gp, ht12]
      · simp [Tri.gp]
      · simp [Tri.gp]
    clear hS ht10 ht11 ht12 t1 t2 t3 t7 t8
    rintro m2 t H' ⟨j, rfl, hjm, hS, ht10, ht11, ht12, ht13, ht14⟩ ih2
    obtain ⟨t1, t2, t3, t7, t8⟩ := id hS
    by_cases hj : j < ids.length
    · have hltj : decide ((j : Int) < (ids.length : Int)) = true := by simp; omega
      obtain ⟨ib, ioff, icap, ic, hv1, hic, hicell⟩ := (hi.up hu).at hj
      have hsucc := contains_succ l[i].id ids hj
      repeat (first | refine WF.seq ?_ | refine WF.regionL ?_ | refine WO.nil ?_ | refine WF.block ?_ | refine WF.skip ?_ | refine WF.endBlock ?_ | (apply WF.exit; (focus (exact rfl))) | (apply WO.op; (focus ((simp only [rO, wantedU, lay, decide_true, li, lo, reduceIte, Nat.reduceEqDiff, Nat.reduceAdd, beq_self_eq_true]; done))); (focus (simp only [rE, rO, li, lo, lay, evalL, ofConst, storeU, AH.set, AV.cells, decide_true, if_true, if_false, reduceIte, Nat.reduceEqDiff, Nat.reduceAdd, Nat.reduceMul, und78, und84, len_SL und78 hs, len_SL und84 hsi, fa80_1, fa87_0, loadVar_one agg78, loadVar_one agg3, hc3, hs.solid, t1, t3, ht10, ht12, ht13, ht14, hltj]; exact rfl)); (focus (exact rfl))) | (apply WO.unwanted; (focus ((simp only [rO, wantedU, lay, decide_true, li, lo, reduceIte, Nat.reduceEqDiff, Nat.reduceAdd, beq_self_eq_true]; done))); (focus (exact rfl))))
      (first | (apply WF.condT; (focus (simp only [evalO, ofConst, Tri.gp, lay, Bool.not_true, Bool.not_false, reduceIte, Nat.reduceEqDiff, hltj]; done))) | (apply WF.condF; (focus (simp only [evalO, ofConst, Tri.gp, lay, Bool.not_true, Bool.not_false, reduceIte, Nat.reduceEqDiff, hltj]; done))))
      repeat (first | refine WF.seq ?_ | refine WF.regionL ?_ | refine WO.nil ?_ | refine WF.block ?_ | refine WF.skip ?_ | refine WF.endBlock ?_ | (apply WF.exit; (focus (exact rfl))) | (apply WO.op; (focus ((simp only [rO, wantedU, lay, decide_true, li, lo, reduceIte, Nat.reduceEqDiff, Nat.reduceAdd, beq_self_eq_true]; done))); (focus (simp only [rE, rO, li, lo, lay, evalL, ofConst, storeU, AH.set, AV.cells, decide_true, if_true, if_false, reduceIte, Nat.reduceEqDiff, Nat.reduceAdd, Nat.reduceMul, und78, und84, len_SL und78 hs, len_SL und84 hsi, fa80_1, fa87_0, loadVar_one agg78, loadVar_one agg3, hc3, hs.solid, t1, t3, ht10, ht12, ht13, ht14, hltj]; exact rfl)); (focus (exact rfl))) | (apply WO.unwanted; (focus ((simp only [rO, wantedU, lay, decide_true, li, lo, reduceIte, Nat.reduceEqDiff, Nat.reduceAdd, beq_self_eq_true]; done))); (focus (exact rfl))))
      (apply WF.draws; (focus kernel_rfl); (focus kernel_rfl))
      cases hin : (ids.take j).contains l[i].id
      · rw [hin] at ht13 hsucc
        subst hv1
        subst hrv
        (refine WF.settleL ?_; (iterate 14 (first | (apply WSL.pure; (focus kernel_rfl); (focus kernel_rfl); (focus ((simp only [rO, wantedU, lay, decide_true, li, lo, reduceIte, Nat.reduceEqDiff, Nat.reduceAdd, beq_self_eq_true]; done))); (focus (simp only [rE, rO, li, lo, lay, evalL, ofConst, storeU, AH.set, AV.cells, decide_true, if_true, if_false, reduceIte, Nat.reduceEqDiff, Nat.reduceAdd, Nat.reduceMul, und78, und84, len_SL und78 hs, len_SL und84 hsi, fa80_1, fa87_0, loadVar_one agg78, loadVar_one agg3, hc3, hs.solid, t1, t3, ht10, ht12, ht13, ht14, hltj, index_SL und84 sz3 hj, index_SL und78 sz87 hil', hic, hicell, hbc, hcell]; exact rfl)); (focus (exact rfl))) | (apply WSL.load; (focus kernel_rfl); (focus kernel_rfl); (focus ((simp only [rO, wantedU, lay, decide_true, li, lo, reduceIte, Nat.reduceEqDiff, Nat.reduceAdd, beq_self_eq_true]; done))); (focus (simp only [rE, rO, li, lo, lay, evalL, ofConst, storeU, AH.set, AV.cells, decide_true, if_true, if_false, reduceIte, Nat.reduceEqDiff, Nat.reduceAdd, Nat.reduceMul, und78, und84, len_SL und78 hs, len_SL und84 hsi, fa80_1, fa87_0, loadVar_one agg78, loadVar_one agg3, hc3, hs.solid, t1, t3, ht10, ht12, ht13, ht14, hltj, index_SL und84 sz3 hj, index_SL und78 sz87 hil', hic, hicell, hbc, hcell]; exact rfl)); (focus (exact rfl))))); (iterate 1 (apply WSL.later; (focus kernel_rfl))); refine WSL.nil ?_)
        (apply After.eff (e := 14); (focus kernel_rfl); (focus (simp only [List.getElem?_toArray, List.getElem?_cons_succ, List.getElem?_cons_zero]; exact rfl)); (focus ((simp only [rO, wantedU, lay, decide_true, li, lo, reduceIte, Nat.reduceEqDiff, Nat.reduceAdd, beq_self_eq_true]; done))); (focus (simp only [rE, rO, li, lo, lay, evalL, ofConst, storeU, AH.set, AV.cells, decide_true, if_true, if_false, reduceIte, Nat.reduceEqDiff, Nat.reduceAdd, Nat.reduceMul, und78, und84, len_SL und78 hs, len_SL und84 hsi, fa80_1, fa87_0, loadVar_one agg78, loadVar_one agg3, hc3, hs.solid, t1, t3, ht10, ht12, ht13, ht14]; exact rfl)); (focus (exact rfl)); (focus exact recheck_static (by kernel_rfl)))
        (refine WF.settleL ?_; (iterate 15 (apply WSL.later; (focus kernel_rfl))); refine WSL.nil ?_)
        (apply After.all; (focus kernel_rfl); (focus kernel_rfl))
        repeat (first | refine WF.seq ?_ | refine WF.regionL ?_ | refine WO.nil ?_ | refine WF.block ?_ | refine WF.skip ?_ | refine WF.endBlock ?_ | (apply WF.exit; (focus (exact rfl))) | (apply WO.op; (focus ((simp only [rO, wantedU, lay, decide_true, li, lo, reduceIte, Nat.reduceEqDiff, Nat.reduceAdd, beq_self_eq_true]; done))); (focus (simp only [rE, rO, li, lo, lay, evalL, ofConst, storeU, AH.set, AV.cells, decide_true, if_true, if_false, reduceIte, Nat.reduceEqDiff, Nat.reduceAdd, Nat.reduceMul, und78, und84, len_SL und78 hs, len_SL und84 hsi, fa80_1, fa87_0, loadVar_one agg78, loadVar_one agg3, hc3, hs.solid, t1, t3, ht10, ht12, ht13, ht14]; exact rfl)); (focus (exact rfl))) | (apply WO.unwanted; (focus ((simp only [rO, wantedU, lay, decide_true, li, lo, reduceIte, Nat.reduceEqDiff, Nat.reduceAdd, beq_self_eq_true]; done))); (focus (exact rfl))))
        refine WF.again ?_
        refine ih2 (m2 - 1) _ _ (by omega) ⟨j + 1, rfl, by omega, ?_, ?_, ?_, ?_, ?_, ?_⟩
        · ((repeat (refine Sel.put ?_ _ rfl)); exact hS)
        · simp [Tri.gp, ht10]
        · simp [Tri.gp, ht11]
        · simp [Tri.gp, ht12]
        · rw [hsucc]
          simp [Tri.gp]
        · simp only [Tri.gp, reduceIte, Nat.reduceEqDiff]
          rw [w64 (by omega) (by omega)]
          simp
      · rw [hin] at ht13 hsucc
        (refine WF.settleL ?_; (iterate 14 (first | (apply WSL.pure; (focus kernel_rfl); (focus kernel_rfl); (focus ((simp only [rO, wantedU, lay, decide_true, li, lo, reduceIte, Nat.reduceEqDiff, Nat.reduceAdd, beq_self_eq_true]; done))); (focus (simp only [rE, rO, li, lo, lay, evalL, ofConst, storeU, AH.set, AV.cells, decide_true, if_true, if_false, reduceIte, Nat.reduceEqDiff, Nat.reduceAdd, Nat.reduceMul, und78, und84, len_SL und78 hs, len_SL und84 hsi, fa80_1, fa87_0, loadVar_one agg78, loadVar_one agg3, hc3, hs.solid, t1, t3, ht10, ht12, ht13, ht14, hltj]; exact rfl)); (focus (exact rfl))) | (apply WSL.unwanted; (focus kernel_rfl); (focus ((simp only [rO, wantedU, lay, decide_true, li, lo, reduceIte, Nat.reduceEqDiff, Nat.reduceAdd, beq_self_eq_true]; done))); (focus (exact rfl))))); (iterate 1 (apply WSL.later; (focus kernel_rfl))); refine WSL.nil ?_)
        (apply After.eff (e := 14); (focus kernel_rfl); (focus (simp only [List.getElem?_toArray, List.getElem?_cons_succ, List.getElem?_cons_zero]; exact rfl)); (focus ((simp only [rO, wantedU, lay, decide_true, li, lo, reduceIte, Nat.reduceEqDiff, Nat.reduceAdd, beq_self_eq_true]; done))); (focus (simp only [rE, rO, li, lo, lay, evalL, ofConst, storeU, AH.set, AV.cells, decide_true, if_true, if_false, reduceIte, Nat.reduceEqDiff, Nat.reduceAdd, Nat.reduceMul, und78, und84, len_SL und78 hs, len_SL und84 hsi, fa80_1, fa87_0, loadVar_one agg78, loadVar_one agg3, hc3, hs.solid, t1, t3, ht10, ht12, ht13, ht14]; exact rfl)); (focus (exact rfl)); (focus exact recheck_static (by kernel_rfl)))
        (refine WF.settleL ?_; (iterate 15 (apply WSL.later; (focus kernel_rfl))); refine WSL.nil ?_)
        (apply After.all; (focus kernel_rfl); (focus kernel_rfl))
        repeat (first | refine WF.seq ?_ | refine WF.regionL ?_ | refine WO.nil ?_ | refine WF.block ?_ | refine WF.skip ?_ | refine WF.endBlock ?_ | (apply WF.exit; (focus (exact rfl))) | (apply WO.op; (focus ((simp only [rO, wantedU, lay, decide_true, li, lo, reduceIte, Nat.reduceEqDiff, Nat.reduceAdd, beq_self_eq_true]; done))); (focus (simp only [rE, rO, li, lo, lay, evalL, ofConst, storeU, AH.set, AV.cells, decide_true, if_true, if_false, reduceIte, Nat.reduceEqDiff, Nat.reduceAdd, Nat.reduceMul, und78, und84, len_SL und78 hs, len_SL und84 hsi, fa80_1, fa87_0, loadVar_one agg78, loadVar_one agg3, hc3, hs.solid, t1, t3, ht10, ht12, ht13, ht14]; exact rfl)); (focus (exact rfl))) | (apply WO.unwanted; (focus ((simp only [rO, wantedU, lay, decide_true, li, lo, reduceIte, Nat.reduceEqDiff, Nat.reduceAdd, beq_self_eq_true]; done))); (focus (exact rfl))))
        refine WF.again ?_
        refine ih2 (m2 - 1) _ _ (by omega) ⟨j + 1, rfl, by omega, ?_, ?_, ?_, ?_, ?_, ?_⟩
        · ((repeat (refine Sel.put ?_ _ rfl)); exact hS)
        · simp [Tri.gp, ht10]
        · simp [Tri.gp, ht11]
        · simp [Tri.gp, ht12]
        · rw [hsucc]
          simp [Tri.gp]
        · simp only [Tri.gp, reduceIte, Nat.reduceEqDiff]
          rw [w64 (by omega) (by omega)]
          simp
    · have hltj : decide ((j : Int) < (ids.length : Int)) = false := by simp; omega
      obtain rfl : j = ids.length := by omega
      rw [List.take_length] at ht13
      have hos := othersL_succ ids l hil'
      repeat (first | refine WF.seq ?_ | refine WF.regionL ?_ | refine WO.nil ?_ | refine WF.block ?_ | refine WF.skip ?_ | refine WF.endBlock ?_ | (apply WF.exit; (focus (exact rfl))) | (apply WO.op; (focus ((simp only [rO, wantedU, lay, decide_true, li, lo, reduceIte, Nat.reduceEqDiff, Nat.reduceAdd, beq_self_eq_true]; done))); (focus (simp only [rE, rO, li, lo, lay, evalL, ofConst, storeU, AH.set, AV.cells, decide_true, if_true, if_false, reduceIte, Nat.reduceEqDiff, Nat.reduceAdd, Nat.reduceMul, und78, und84, len_SL und78 hs, len_SL und84 hsi, fa80_1, fa87_0, loadVar_one agg78, loadVar_one agg3, hc3, hs.solid, t1, t3, ht10, ht12, ht13, ht14, hltj]; exact rfl)); (focus (exact rfl))) | (apply WO.unwanted; (focus ((simp only [rO, wantedU, lay, decide_true, li, lo, reduceIte, Nat.reduceEqDiff, Nat.reduceAdd, beq_self_eq_true]; done))); (focus (exact rfl))))
      (first | (apply WF.condT; (focus (simp only [evalO, ofConst, Tri.gp, lay, Bool.not_true, Bool.not_false, reduceIte, Nat.reduceEqDiff, hltj]; done))) | (apply WF.condF; (focus (simp only [evalO, ofConst, Tri.gp, lay, Bool.not_true, Bool.not_false, reduceIte, Nat.reduceEqDiff, hltj]; done))))
      repeat (first | refine WF.seq ?_ | refine WF.regionL ?_ | refine WO.nil ?_ | refine WF.block ?_ | refine WF.skip ?_ | refine WF.endBlock ?_ | (apply WF.exit; (focus (exact rfl))) | (apply WO.op; (focus ((simp only [rO, wantedU, lay, decide_true, li, lo, reduceIte, Nat.reduceEqDiff, Nat.reduceAdd, beq_self_eq_true]; done))); (focus (simp only [rE, rO, li, lo, lay, evalL, ofConst, storeU, AH.set, AV.cells, decide_true, if_true, if_false, reduceIte, Nat.reduceEqDiff, Nat.reduceAdd, Nat.reduceMul, und78, und84, len_SL und78 hs, len_SL und84 hsi, fa80_1, fa87_0, loadVar_one agg78, loadVar_one agg3, hc3, hs.solid, t1, t3, ht10, ht12, ht13, ht14, hltj]; exact rfl)); (focus (exact rfl))) | (apply WO.unwanted; (focus ((simp only [rO, wantedU, lay, decide_true, li, lo, reduceIte, Nat.reduceEqDiff, Nat.reduceAdd, beq_self_eq_true]; done))); (focus (exact rfl))))
      cases hin : ids.contains l[i].id
      · rw [hin] at ht13 hos
        have hlo : (othersL ids (l.take i)).length + 1 ≤ 274877906944 := by
          have h1 : (othersL ids (l.take i)).length ≤ (l.take i).length := by
            unfold othersL
            rw [List.length_map]
            exact List.length_filter_le _ _
          rw [List.length_take] at h1
          omega
        obtain ⟨v', H2, hp, hown2, hup2⟩ := hown.push hu l[i].id hlo
        unfold one84 at hp
        subst hrv
        repeat (first | refine WF.seq ?_ | refine WF.regionL ?_ | refine WO.nil ?_ | refine WF.block ?_ | refine WF.skip ?_ | refine WF.endBlock ?_ | (apply WF.exit; (focus (exact rfl))) | (apply WO.op; (focus ((simp only [rO, wantedU, lay, decide_true, li, lo, reduceIte, Nat.reduceEqDiff, Nat.reduceAdd, beq_self_eq_true]; done))); (focus (simp only [rE, rO, li, lo, lay, evalL, ofConst, storeU, AH.set, AV.cells, decide_true, if_true, if_false, reduceIte, Nat.reduceEqDiff, Nat.reduceAdd, Nat.reduceMul, und78, und84, len_SL und78 hs, len_SL und84 hsi, fa80_1, fa87_0, loadVar_one agg78, loadVar_one agg3, hc3, hs.solid, t1, t3, ht10, ht12, ht13, ht14]; exact rfl)); (focus (exact rfl))) | (apply WO.unwanted; (focus ((simp only [rO, wantedU, lay, decide_true, li, lo, reduceIte, Nat.reduceEqDiff, Nat.reduceAdd, beq_self_eq_true]; done))); (focus (exact rfl))))
        (first | (apply WF.condT; (focus (simp only [evalO, ofConst, Tri.gp, lay, Bool.not_true, Bool.not_false, reduceIte, Nat.reduceEqDiff]; done))) | (apply WF.condF; (focus (simp only [evalO, ofConst, Tri.gp, lay, Bool.not_true, Bool.not_false, reduceIte, Nat.reduceEqDiff]; done))))
        repeat (first | refine WF.seq ?_ | refine WF.regionL ?_ | refine WO.nil ?_ | refine WF.block ?_ | refine WF.skip ?_ | refine WF.endBlock ?_ | (apply WF.exit; (focus (exact rfl))) | (apply WO.op; (focus ((simp only [rO, wantedU, lay, decide_true, li, lo, reduceIte, Nat.reduceEqDiff, Nat.reduceAdd, beq_self_eq_true]; done))); (focus (simp only [rE, rO, li, lo, lay, evalL, ofConst, storeU, AH.set, AV.cells, decide_true, if_true, if_false, reduceIte, Nat.reduceEqDiff, Nat.reduceAdd, Nat.reduceMul, und78, und84, len_SL und78 hs, len_SL und84 hsi, fa80_1, fa87_0, loadVar_one agg78, loadVar_one agg3, hc3, hs.solid, t1, t3, ht10, ht12, ht13, ht14, index_SL und78 sz87 hil', hbc, hcell, bs84, mkI1_int, hp]; exact rfl)); (focus (exact rfl))) | (apply WO.unwanted; (focus ((simp only [rO, wantedU, lay, decide_true, li, lo, reduceIte, Nat.reduceEqDiff, Nat.reduceAdd, beq_self_eq_true]; done))); (focus (exact rfl))))
        refine WF.again ?_
        refine ih (m - 1) _ _ (by omega) ⟨i + 1, v', hup2, by omega, ?_, ?_, ?_, ?_, ?_⟩
        · rw [hos]
          exact hown2
        · ((repeat (refine Sel.put ?_ _ rfl)); exact hS)
        · simp [Tri.gp]
        · simp [Tri.gp, ht11]
        · simp only [Tri.gp, reduceIte, Nat.reduceEqDiff]
          rw [w64 (by omega) (by omega)]
          simp
      · rw [hin] at ht13 hos
        repeat (first | refine WF.seq ?_ | refine WF.regionL ?_ | refine WO.nil ?_ | refine WF.block ?_ | refine WF.skip ?_ | refine WF.endBlock ?_ | (apply WF.exit; (focus (exact rfl))) | (apply WO.op; (focus ((simp only [rO, wantedU, lay, decide_true, li, lo, reduceIte, Nat.reduceEqDiff, Nat.reduceAdd, beq_self_eq_true]; done))); (focus (simp only [rE, rO, li, lo, lay, evalL, ofConst, storeU, AH.set, AV.cells, decide_true, if_true, if_false, reduceIte, Nat.reduceEqDiff, Nat.reduceAdd, Nat.reduceMul, und78, und84, len_SL und78 hs, len_SL und84 hsi, fa80_1, fa87_0, loadVar_one agg78, loadVar_one agg3, hc3, hs.solid, t1, t3, ht10, ht12, ht13, ht14]; exact rfl)); (focus (exact rfl))) | (apply WO.unwanted; (focus ((simp only [rO, wantedU, lay, decide_true, li, lo, reduceIte, Nat.reduceEqDiff, Nat.reduceAdd, beq_self_eq_true]; done))); (focus (exact rfl))))
        (first | (apply WF.condT; (focus (simp only [evalO, ofConst, Tri.gp, lay, Bool.not_true, Bool.not_false, reduceIte, Nat.reduceEqDiff]; done))) | (apply WF.condF; (focus (simp only [evalO, ofConst, Tri.gp, lay, Bool.not_true, Bool.not_false, reduceIte, Nat.reduceEqDiff]; done))))
        repeat (first | refine WF.seq ?_ | refine WF.regionL ?_ | refine WO.nil ?_ | refine WF.block ?_ | refine WF.skip ?_ | refine WF.endBlock ?_ | (apply WF.exit; (focus (exact rfl))) | (apply WO.op; (focus ((simp only [rO, wantedU, lay, decide_true, li, lo, reduceIte, Nat.reduceEqDiff, Nat.reduceAdd, beq_self_eq_true]; done))); (focus (simp only [rE, rO, li, lo, lay, evalL, ofConst, storeU, AH.set, AV.cells, decide_true, if_true, if_false, reduceIte, Nat.reduceEqDiff, Nat.reduceAdd, Nat.reduceMul, und78, und84, len_SL und78 hs, len_SL und84 hsi, fa80_1, fa87_0, loadVar_one agg78, loadVar_one agg3, hc3, hs.solid, t1, t3, ht10, ht12, ht13, ht14]; exact rfl)); (focus (exact rfl))) | (apply WO.unwanted; (focus ((simp only [rO, wantedU, lay, decide_true, li, lo, reduceIte, Nat.reduceEqDiff, Nat.reduceAdd, beq_self_eq_true]; done))); (focus (exact rfl))))
        refine WF.again ?_
        refine ih (m - 1) _ _ (by omega) ⟨i + 1, v, hu, by omega, ?_, ?_, ?_, ?_, ?_⟩
        · rw [hos]
          simpa using hown
        · ((repeat (refine Sel.put ?_ _ rfl)); exact hS)
        · simp [Tri.gp, ht10]
        · simp [Tri.gp, ht11]
        · simp only [Tri.gp, reduceIte, Nat.reduceEqDiff]
          rw [w64 (by omega) (by omega)]
          simp
  · have hlt : decide ((i : Int) < (l.length : Int)) = false := by simp; omega
    obtain rfl : i = l.length := by omega
    rw [List.take_length] at hown
    repeat (first | refine WF.seq ?_ | refine WF.regionL ?_ | refine WO.nil ?_ | refine WF.block ?_ | refine WF.skip ?_ | refine WF.endBlock ?_ | (apply WF.exit; (focus (exact rfl))) | (apply WO.op; (focus ((simp only [rO, wantedU, lay, decide_true, li, lo, reduceIte, Nat.reduceEqDiff, Nat.reduceAdd, beq_self_eq_true, hlt]; done))); (focus (simp only [rE, rO, li, lo, lay, evalL, ofConst, storeU, AH.set, AV.cells, decide_true, if_true, if_false, reduceIte, Nat.reduceEqDiff, Nat.reduceAdd, Nat.reduceMul, und78, und84, len_SL und78 hs, len_SL und84 hsi, fa80_1, fa87_0, loadVar_one agg78, loadVar_one agg3, hc3, hs.solid, t1, t3, ht10, ht12, hlt]; exact rfl)); (focus (exact rfl))) | (apply WO.unwanted; (focus ((simp only [rO, wantedU, lay, decide_true, li, lo, reduceIte, Nat.reduceEqDiff, Nat.reduceAdd, beq_self_eq_true, hlt]; done))); (focus (exact rfl))))
    (first | (apply WF.condT; (focus (simp only [evalO, ofConst, Tri.gp, lay, Bool.not_true, Bool.not_false, reduceIte, Nat.reduceEqDiff, hlt]; done))) | (apply WF.condF; (focus (simp only [evalO, ofConst, Tri.gp, lay, Bool.not_true, Bool.not_false, reduceIte, Nat.reduceEqDiff, hlt]; done))))
    repeat (first | refine WF.seq ?_ | refine WF.regionL ?_ | refine WO.nil ?_ | refine WF.block ?_ | refine WF.skip ?_ | refine WF.endBlock ?_ | (apply WF.exit; (focus (exact rfl))) | (apply WO.op; (focus ((simp only [rO, wantedU, lay, decide_true, li, lo, reduceIte, Nat.reduceEqDiff, Nat.reduceAdd, beq_self_eq_true, hlt]; done))); (focus (simp only [rE, rO, li, lo, lay, evalL, ofConst, storeU, AH.set, AV.cells, decide_true, if_true, if_false, reduceIte, Nat.reduceEqDiff, Nat.reduceAdd, Nat.reduceMul, und78, und84, len_SL und78 hs, len_SL und84 hsi, fa80_1, fa87_0, loadVar_one agg78, loadVar_one agg3, hc3, hs.solid, t1, t3, ht10, ht12, hlt]; exact rfl)); (focus (exact rfl))) | (apply WO.unwanted; (focus ((simp only [rO, wantedU, lay, decide_true, li, lo, reduceIte, Nat.reduceEqDiff, Nat.reduceAdd, beq_self_eq_true, hlt]; done))); (focus (exact rfl))))
    refine hk _ _ v hu hown ?_ ?_ ?_
    · ((repeat (refine Sel.put ?_ _ rfl)); exact hS)
    · simp [Tri.gp, ht10]
    · simp [Tri.gp, ht11]
end Go.Ev.C
end
section
set_option linter.unusedVariables false
set_option linter.unusedSimpArgs false
set_option linter.defProp false
set_option linter.all false
namespace Go.Ev.C
open Go.Proofs
set_option maxRecDepth 100000
set_option linter.unusedSimpArgs false
variable {L : World → Prop} [Good Q L]
set_option maxHeartbeats 2000000 in
theorem both_w {k : List AI} {Φ : AF → AH → Prop} (H0 : AH) (v1 v2 vo : AV) (b3 b8 : Nat) (ids more : List Int) (hi : IntsAt H0 v1 ids) (hm : IntsAt H0 v2 more) (hil : ids.length < 9223372036854775808) (hml : more.length < 9223372036854775808) (hprod : ids.length * more.length ≤ 274877906944)
    (t : Tri AV) (hS : Sel t v1 v2 b3 b8) (ht10 : t.get 10 = some vo) (ht11 : t.get 11 = some .nilslice) (ht15 : t.get 15 = some (.int .i64 0))
    (hk : ∀ t H v, Up H0 H → OwnInts H0 H v (bothL more ids) → Sel t v1 v2 b3 b8 → t.get 10 = some vo → t.get 11 = some v → WF Q L (PF 9 225 t k) H Φ) :
    WF Q L (PF 9 225 t (.code (sub [1, 1, 1, 1, 1, 1, 1, 0, 1, 0] c9) :: .inBlock 4 :: k)) H0 Φ := by
  have hsi := hi.1
  have hsm := hm.1
  unfold c9 Tryz.f9
  simp only [Option.getD_some, sub]

  refine WF.while (fun m t H => ∃ (i : Nat) (v : AV), Up H0 H ∧ i + m = ids.length ∧ OwnInts H0 H v (bothL more (ids.take i)) ∧ Sel t v1 v2 b3 b8 ∧ t.get 10 = some vo ∧ t.get 11 = some v ∧ t.get 15 = some (.int .i64 (i : Int))) ids.length ?_ ?_
  · exact ⟨0, .nilslice, Up.refl _, by omega, by rw [List.take_zero]; exact OwnInts.nil _ _, hS, ht10, ht11, ht15⟩
  rintro m t H ⟨i, v, hu, him, hown, hS, ht10, ht11, ht15⟩ ih
  obtain ⟨t1, t2, t3, t7, t8⟩ := id hS
  by_cases hii : i < ids.length
  · have hlt : decide ((i : Int) < (ids.length : Int)) = true := by simp; omega
    have hbl := bothL_length more (ids.take i)
    rw [List.length_take, Nat.min_eq_left (Nat.le_of_lt hii)] at hbl
    have hmul : i * more.length + more.length ≤ ids.length * more.length := by
      have := Nat.mul_le_mul_right more.length hii
      rw [Nat.succ_mul] at this
      exact this
    repeat (first | refine WF.seq ?_ | refine WF.regionL ?_ | refine WO.nil ?_ | refine WF.block ?_ | refine WF.skip ?_ | refine WF.endBlock ?_ | (apply WF.exit; (focus (exact rfl))) | (apply WO.op; (focus ((simp only [rO, wantedU, lay, decide_true, li, lo, reduceIte, Nat.reduceEqDiff, Nat.reduceAdd, beq_self_eq_true, hlt]; done))); (focus (simp only [rE, rO, li, lo, lay, evalL, ofConst, storeU, AH.set, AV.cells, decide_true, if_true, if_false, reduceIte, Nat.reduceEqDiff, Nat.reduceAdd, Nat.reduceMul, und84, len_SL und84 hsi, len_SL und84 hsm, loadVar_one agg3, t1, t2, ht11, ht15, hlt]; exact rfl)); (focus (exact rfl))) | (apply WO.unwanted; (focus ((simp only [rO, wantedU, lay, decide_true, li, lo, reduceIte, Nat.reduceEqDiff, Nat.reduceAdd, beq_self_eq_true, hlt]; done))); (focus (exact rfl))))
    (first | (apply WF.condT; (focus (simp only [evalO, ofConst, Tri.gp, lay, Bool.not_true, Bool.not_false, reduceIte, Nat.reduceEqDiff, hlt]; done))) | (apply WF.condF; (focus (simp only [evalO, ofConst, Tri.gp, lay, Bool.not_true, Bool.not_false, reduceIte, Nat.reduceEqDiff, hlt]; done))))
    repeat (first | refine WF.seq ?_ | refine WF.regionL ?_ | refine WO.nil ?_ | refine WF.block ?_ | refine WF.skip ?_ | refine WF.endBlock ?_ | (apply WF.exit; (focus (exact rfl))) | (apply WO.op; (focus ((simp only [rO, wantedU, lay, decide_true, li, lo, reduceIte, Nat.reduceEqDiff, Nat.reduceAdd, beq_self_eq_true, hlt]; done))); (focus (simp only [rE, rO, li, lo, lay, evalL, ofConst, storeU, AH.set, AV.cells, decide_true, if_true, if_false, reduceIte, Nat.reduceEqDiff, Nat.reduceAdd, Nat.reduceMul, und84, len_SL und84 hsi, len_SL und84 hsm, loadVar_one agg3, t1, t2, ht11, ht15, hlt]; exact rfl)); (focus (exact rfl))) | (apply WO.unwanted; (focus ((simp only [rO, wantedU, lay, decide_true, li, lo, reduceIte, Nat.reduceEqDiff, Nat.reduceAdd, beq_self_eq_true, hlt]; done))); (focus (exact rfl))))
    refine WF.while (fun m t H => ∃ (j : Nat) (v : AV), Up H0 H ∧ j + m = more.length ∧ OwnInts H0 H v (bothL more (ids.take i) ++ rowL ids[i] (more.take j)) ∧ Sel t v1 v2 b3 b8 ∧ t.get 10 = some vo ∧ t.get 11 = some v ∧ t.get 15 = some (.int .i64 (i : Int)) ∧ t.get 16 = some (.int .i64 (j : Int))) more.length ?_ ?_
    · refine ⟨0, v, hu, by omega, ?_, ?_, ?_, ?_, ?_, ?_⟩
      · simpa [rowL] using hown
      · ((repeat (refine Sel.put ?_ _ rfl)); exact hS)
      · simp [Tri.gp, ht10]
      · simp [Tri.gp, ht11]
      · simp [Tri.gp, ht15]
      · simp [Tri.gp]
    clear hS ht10 ht11 ht15 t1 t2 t3 t7 t8 hown hu
    rintro m2 t H ⟨j, v, hu, hjm, hown, hS, ht10, ht11, ht15, ht16⟩ ih2
    obtain ⟨t1, t2, t3, t7, t8⟩ := id hS
    by_cases hj : j < more.length
    · have hltj : decide ((j : Int) < (more.length : Int)) = true := by simp; omega
      obtain ⟨ib, ioff, icap, ic, hv1, hic, hicell⟩ := (hi.up hu).at hii
      obtain ⟨mb, moff, mcap, mc, hv2, hmc, hmcell⟩ := (hm.up hu).at hj
      have hsucc := rowL_succ ids[i] more hj
      subst hv1
      subst hv2
      repeat (first | refine WF.seq ?_ | refine WF.regionL ?_ | refine WO.nil ?_ | refine WF.block ?_ | refine WF.skip ?_ | refine WF.endBlock ?_ | (apply WF.exit; (focus (exact rfl))) | (apply WO.op; (focus ((simp only [rO, wantedU, lay, decide_true, li, lo, reduceIte, Nat.reduceEqDiff, Nat.reduceAdd, beq_self_eq_true]; done))); (focus (simp only [rE, rO, li, lo, lay, evalL, ofConst, storeU, AH.set, AV.cells, decide_true, if_true, if_false, reduceIte, Nat.reduceEqDiff, Nat.reduceAdd, Nat.reduceMul, und84, len_SL und84 hsi, len_SL und84 hsm, loadVar_one agg3, t1, t2, ht11, ht15, ht16, hltj]; exact rfl)); (focus (exact rfl))) | (apply WO.unwanted; (focus ((simp only [rO, wantedU, lay, decide_true, li, lo, reduceIte, Nat.reduceEqDiff, Nat.reduceAdd, beq_self_eq_true]; done))); (focus (exact rfl))))
      (first | (apply WF.condT; (focus (simp only [evalO, ofConst, Tri.gp, lay, Bool.not_true, Bool.not_false, reduceIte, Nat.reduceEqDiff, hltj]; done))) | (apply WF.condF; (focus (simp only [evalO, ofConst, Tri.gp, lay, Bool.not_true, Bool.not_false, reduceIte, Nat.reduceEqDiff, hltj]; done))))
      repeat (first | refine WF.seq ?_ | refine WF.regionL ?_ | refine WO.nil ?_ | refine WF.block ?_ | refine WF.skip ?_ | refine WF.endBlock ?_ | (apply WF.exit; (focus (exact rfl))) | (apply WO.op; (focus ((simp only [rO, wantedU, lay, decide_true, li, lo, reduceIte, Nat.reduceEqDiff, Nat.reduceAdd, beq_self_eq_true]; done))); (focus (simp only [rE, rO, li, lo, lay, evalL, ofConst, storeU, AH.set, AV.cells, decide_true, if_true, if_false, reduceIte, Nat.reduceEqDiff, Nat.reduceAdd, Nat.reduceMul, und84, len_SL und84 hsi, len_SL und84 hsm, loadVar_one agg3, t1, t2, ht11, ht15, ht16, hltj]; exact rfl)); (focus (exact rfl))) | (apply WO.unwanted; (focus ((simp only [rO, wantedU, lay, decide_true, li, lo, reduceIte, Nat.reduceEqDiff, Nat.reduceAdd, beq_self_eq_true]; done))); (focus (exact rfl))))
      (apply WF.draws; (focus kernel_rfl); (focus kernel_rfl))
      (refine WF.settleL ?_; (iterate 9 (first | (apply WSL.pure; (focus kernel_rfl); (focus kernel_rfl); (focus ((simp only [rO, wantedU, lay, decide_true, li, lo, reduceIte, Nat.reduceEqDiff, Nat.reduceAdd, beq_self_eq_true]; done))); (focus (simp only [rE, rO, li, lo, lay, evalL, ofConst, storeU, AH.set, AV.cells, decide_true, if_true, if_false, reduceIte, Nat.reduceEqDiff, Nat.reduceAdd, Nat.reduceMul, und84, len_SL und84 hsi, len_SL und84 hsm, loadVar_one agg3, t1, t2, ht11, ht15, ht16, hltj, index_SL und84 sz3 hii, index_SL und84 sz3 hj, hic, hicell, hmc, hmcell]; exact rfl)); (focus (exact rfl))) | (apply WSL.load; (focus kernel_rfl); (focus kernel_rfl); (focus ((simp only [rO, wantedU, lay, decide_true, li, lo, reduceIte, Nat.reduceEqDiff, Nat.reduceAdd, beq_self_eq_true]; done))); (focus (simp only [rE, rO, li, lo, lay, evalL, ofConst, storeU, AH.set, AV.cells, decide_true, if_true, if_false, reduceIte, Nat.reduceEqDiff, Nat.reduceAdd, Nat.reduceMul, und84, len_SL und84 hsi, len_SL und84 hsm, loadVar_one agg3, t1, t2, ht11, ht15, ht16, hltj, index_SL und84 sz3 hii, index_SL und84 sz3 hj, hic, hicell, hmc, hmcell]; exact rfl)); (focus (exact rfl))))); refine WSL.nil ?_)
      (apply After.all; (focus kernel_rfl); (focus kernel_rfl))
      cases hin : decide (ids[i] = more[j])
      · rw [hin] at hsucc
        (first | (apply WF.condT; (focus (simp only [evalO, ofConst, Tri.gp, lay, Bool.not_true, Bool.not_false, reduceIte, Nat.reduceEqDiff, hin]; done))) | (apply WF.condF; (focus (simp only [evalO, ofConst, Tri.gp, lay, Bool.not_true, Bool.not_false, reduceIte, Nat.reduceEqDiff, hin]; done))))
        repeat (first | refine WF.seq ?_ | refine WF.regionL ?_ | refine WO.nil ?_ | refine WF.block ?_ | refine WF.skip ?_ | refine WF.endBlock ?_ | (apply WF.exit; (focus (exact rfl))) | (apply WO.op; (focus ((simp only [rO, wantedU, lay, decide_true, li, lo, reduceIte, Nat.reduceEqDiff, Nat.reduceAdd, beq_self_eq_true]; done))); (focus (simp only [rE, rO, li, lo, lay, evalL, ofConst, storeU, AH.set, AV.cells, decide_true, if_true, if_false, reduceIte, Nat.reduceEqDiff, Nat.reduceAdd, Nat.reduceMul, und84, len_SL und84 hsi, len_SL und84 hsm, loadVar_one agg3, t1, t2, ht11, ht15, ht16]; exact rfl)); (focus (exact rfl))) | (apply WO.unwanted; (focus ((simp only [rO, wantedU, lay, decide_true, li, lo, reduceIte, Nat.reduceEqDiff, Nat.reduceAdd, beq_self_eq_true]; done))); (focus (exact rfl))))
        refine WF.again ?_
        refine ih2 (m2 - 1) _ _ (by omega) ⟨j + 1, v, hu, by omega, ?_, ?_, ?_, ?_, ?_, ?_⟩
        · rw [hsucc]
          simpa using hown
        · ((repeat (refine Sel.put ?_ _ rfl)); exact hS)
        · simp [Tri.gp, ht10]
        · simp [Tri.gp, ht11]
        · simp [Tri.gp, ht15]
        · simp only [Tri.gp, reduceIte, Nat.reduceEqDiff]
          rw [w64 (by omega) (by omega)]
          simp
      · rw [hin] at hsucc
        have hrl := rowL_length ids[i] (more.take j)
        rw [List.length_take, Nat.min_eq_left (Nat.le_of_lt hj)] at hrl
        obtain ⟨v', H2, hp, hown2, hup2⟩ := hown.push hu ids[i] (by rw [List.length_append]; omega)
        unfold one84 at hp
        (first | (apply WF.condT; (focus (simp only [evalO, ofConst, Tri.gp, lay, Bool.not_true, Bool.not_false, reduceIte, Nat.reduceEqDiff, hin]; done))) | (apply WF.condF; (focus (simp only [evalO, ofConst, Tri.gp, lay, Bool.not_true, Bool.not_false, reduceIte, Nat.reduceEqDiff, hin]; done))))
        repeat (first | refine WF.seq ?_ | refine WF.regionL ?_ | refine WO.nil ?_ | refine WF.block ?_ | refine WF.skip ?_ | refine WF.endBlock ?_ | (apply WF.exit; (focus (exact rfl))) | (apply WO.op; (focus ((simp only [rO, wantedU, lay, decide_true, li, lo, reduceIte, Nat.reduceEqDiff, Nat.reduceAdd, beq_self_eq_true]; done))); (focus (simp only [rE, rO, li, lo, lay, evalL, ofConst, storeU, AH.set, AV.cells, decide_true, if_true, if_false, reduceIte, Nat.reduceEqDiff, Nat.reduceAdd, Nat.reduceMul, und84, len_SL und84 hsi, len_SL und84 hsm, loadVar_one agg3, t1, t2, ht11, ht15, ht16, index_SL und84 sz3 hii, hic, hicell, bs84, mkI1_int, hp]; exact rfl)); (focus (exact rfl))) | (apply WO.unwanted; (focus ((simp only [rO, wantedU, lay, decide_true, li, lo, reduceIte, Nat.reduceEqDiff, Nat.reduceAdd, beq_self_eq_true]; done))); (focus (exact rfl))))
        refine WF.again ?_
        refine ih2 (m2 - 1) _ _ (by omega) ⟨j + 1, v', hup2, by omega, ?_, ?_, ?_, ?_, ?_, ?_⟩
        · rw [hsucc]
          simpa using hown2
        · ((repeat (refine Sel.put ?_ _ rfl)); exact hS)
        · simp [Tri.gp, ht10]
        · simp [Tri.gp]
        · simp [Tri.gp, ht15]
        · simp only [Tri.gp, reduceIte, Nat.reduceEqDiff]
          rw [w64 (by omega) (by omega)]
          simp
    · have hltj : decide ((j : Int) < (more.length : Int)) = false := by simp; omega
      obtain rfl : j = more.length := by omega
      rw [List.take_length] at hown
      repeat (first | refine WF.seq ?_ | refine WF.regionL ?_ | refine WO.nil ?_ | refine WF.block ?_ | refine WF.skip ?_ | refine WF.endBlock ?_ | (apply WF.exit; (focus (exact rfl))) | (apply WO.op; (focus ((simp only [rO, wantedU, lay, decide_true, li, lo, reduceIte, Nat.reduceEqDiff, Nat.reduceAdd, beq_self_eq_true]; done))); (focus (simp only [rE, rO, li, lo, lay, evalL, ofConst, storeU, AH.set, AV.cells, decide_true, if_true, if_false, reduceIte, Nat.reduceEqDiff, Nat.reduceAdd, Nat.reduceMul, und84, len_SL und84 hsi, len_SL und84 hsm, loadVar_one agg3, t1, t2, ht11, ht15, ht16, hltj]; exact rfl)); (focus (exact rfl))) | (apply WO.unwanted; (focus ((simp only [rO, wantedU, lay, decide_true, li, lo, reduceIte, Nat.reduceEqDiff, Nat.reduceAdd, beq_self_eq_true]; done))); (focus (exact rfl))))
      (first | (apply WF.condT; (focus (simp only [evalO, ofConst, Tri.gp, lay, Bool.not_true, Bool.not_false, reduceIte, Nat.reduceEqDiff, hltj]; done))) | (apply WF.condF; (focus (simp only [evalO, ofConst, Tri.gp, lay, Bool.not_true, Bool.not_false, reduceIte, Nat.reduceEqDiff, hltj]; done))))
      repeat (first | refine WF.seq ?_ | refine WF.regionL ?_ | refine WO.nil ?_ | refine WF.block ?_ | refine WF.skip ?_ | refine WF.endBlock ?_ | (apply WF.exit; (focus (exact rfl))) | (apply WO.op; (focus ((simp only [rO, wantedU, lay, decide_true, li, lo, reduceIte, Nat.reduceEqDiff, Nat.reduceAdd, beq_self_eq_true]; done))); (focus (simp only [rE, rO, li, lo, lay, evalL, ofConst, storeU, AH.set, AV.cells, decide_true, if_true, if_false, reduceIte, Nat.reduceEqDiff, Nat.reduceAdd, Nat.reduceMul, und84, len_SL und84 hsi, len_SL und84 hsm, loadVar_one agg3, t1, t2, ht11, ht15, ht16, hltj]; exact rfl)); (focus (exact rfl))) | (apply WO.unwanted; (focus ((simp only [rO, wantedU, lay, decide_true, li, lo, reduceIte, Nat.reduceEqDiff, Nat.reduceAdd, beq_self_eq_true]; done))); (focus (exact rfl))))
      refine WF.again ?_
      refine ih (m - 1) _ _ (by omega) ⟨i + 1, v, hu, by omega, ?_, ?_, ?_, ?_, ?_⟩
      · rw [bothL_succ more ids hii]
        exact hown
      · ((repeat (refine Sel.put ?_ _ rfl)); exact hS)
      · simp [Tri.gp, ht10]
      · simp [Tri.gp, ht11]
      · simp only [Tri.gp, reduceIte, Nat.reduceEqDiff, ht15]
        rw [w64 (by omega) (by omega)]
        simp
  · have hlt : decide ((i : Int) < (ids.length : Int)) = false := by simp; omega
    obtain rfl : i = ids.length := by omega
    rw [List.take_length] at hown
    repeat (first | refine WF.seq ?_ | refine WF.regionL ?_ | refine WO.nil ?_ | refine WF.block ?_ | refine WF.skip ?_ | refine WF.endBlock ?_ | (apply WF.exit; (focus (exact rfl))) | (apply WO.op; (focus ((simp only [rO, wantedU, lay, decide_true, li, lo, reduceIte, Nat.reduceEqDiff, Nat.reduceAdd, beq_self_eq_true, hlt]; done))); (focus (simp only [rE, rO, li, lo, lay, evalL, ofConst, storeU, AH.set, AV.cells, decide_true, if_true, if_false, reduceIte, Nat.reduceEqDiff, Nat.reduceAdd, Nat.reduceMul, und84, len_SL und84 hsi, len_SL und84 hsm, loadVar_one agg3, t1, t2, ht11, ht15, hlt]; exact rfl)); (focus (exact rfl))) | (apply WO.unwanted; (focus ((simp only [rO, wantedU, lay, decide_true, li, lo, reduceIte, Nat.reduceEqDiff, Nat.reduceAdd, beq_self_eq_true, hlt]; done))); (focus (exact rfl))))
    (first | (apply WF.condT; (focus (simp only [evalO, ofConst, Tri.gp, lay, Bool.not_true, Bool.not_false, reduceIte, Nat.reduceEqDiff, hlt]; done))) | (apply WF.condF; (focus (simp only [evalO, ofConst, Tri.gp, lay, Bool.not_true, Bool.not_false, reduceIte, Nat.reduceEqDiff, hlt]; done))))
    repeat (first | refine WF.seq ?_ | refine WF.regionL ?_ | refine WO.nil ?_ | refine WF.block ?_ | refine WF.skip ?_ | refine WF.endBlock ?_ | (apply WF.exit; (focus (exact rfl))) | (apply WO.op; (focus ((simp only [rO, wantedU, lay, decide_true, li, lo, reduceIte, Nat.reduceEqDiff, Nat.reduceAdd, beq_self_eq_true, hlt]; done))); (focus (simp only [rE, rO, li, lo, lay, evalL, ofConst, storeU, AH.set, AV.cells, decide_true, if_true, if_false, reduceIte, Nat.reduceEqDiff, Nat.reduceAdd, Nat.reduceMul, und84, len_SL und84 hsi, len_SL und84 hsm, loadVar_one agg3, t1, t2, ht11, ht15, hlt]; exact rfl)); (focus (exact rfl))) | (apply WO.unwanted; (focus ((simp only [rO, wantedU, lay, decide_true, li, lo, reduceIte, Nat.reduceEqDiff, Nat.reduceAdd, beq_self_eq_true, hlt]; done))); (focus (exact rfl))))
    refine hk _ _ v hu hown ?_ ?_ ?_
    · ((repeat (refine Sel.put ?_ _ rfl)); exact hS)
    · simp [Tri.gp, ht10]
    · simp [Tri.gp, ht11]
end Go.Ev.C
end
section
set_option linter.unusedVariables false
set_option linter.unusedSimpArgs false
set_option linter.defProp false
set_option linter.all false
namespace Go.Ev.C
open Go.Proofs
set_option maxRecDepth 100000
set_option linter.unusedSimpArgs false
variable {L : World → Prop} [Good Q L]
structure Sel2 (t : Tri AV) (v1 v2 : AV) (b3 b8 b17 : Nat) : Prop where
  s : Sel t v1 v2 b3 b8
  t17 : t.get 17 = some (.ptr b17 0)
theorem Sel2.put {t : Tri AV} {v1 v2 : AV} {b3 b8 b17 n : Nat} (h : Sel2 t v1 v2 b3 b8 b17) (o : Option AV) (hn : (Nat.blt 8 n || Nat.beq n 0 || Nat.beq n 4 || Nat.beq n 5 || Nat.beq n 6) = true) (h17 : Nat.beq n 17 = false) : Sel2 (t.put n o) v1 v2 b3 b8 b17 :=
  ⟨h.s.put o hn, by
    have : ¬ n = 17 := by rw [← Nat.beq_eq]; simp [h17]
    rw [Tri.gp, if_neg (by omega)]
    exact h.t17⟩
set_option maxHeartbeats 4000000 in
theorem merge_w {k : List AI} {Φ : AF → AH → Prop} (H : AH) (cpu dr : Int) (ah : Bool) (rv rx ry v1 v2 : AV) (b3 b8 b17 : Nat) (l : List RecD) (ids : List Int)
    (hc3 : H.cellsAt b3 = some [.int .i64 cpu, rv, .int .i64 dr, .bool ah]) (hc8 : H.cellsAt b8 = some [.int .i64 cpu, rx, .int .i64 dr, .bool ah]) (hc17 : H.cellsAt b17 = some [.int .i64 cpu, ry, .int .i64 dr, .bool ah])
    (hr : RecsAt H rv l) (hx : RecsAt H rx (l.filter fun d => ids.contains d.id)) (hy : RecsAt H ry (l.filter fun d => !ids.contains d.id)) (hl : l.length ≤ 1000) (h8 : ∀ d ∈ l, U8 d.r)
    (t : Tri AV) (hS : Sel2 t v1 v2 b3 b8 b17) (ht23 : t.get 23 = some (.int .i64 0)) (ht24 : t.get 24 = some (.int .i64 0)) (ht25 : t.get 25 = some (.int .i64 0))
    (hk : ∀ t, Sel2 t v1 v2 b3 b8 b17 → t.get 23 = some (.int .i64 ((l.filter fun d => ids.contains d.id).length : Int)) → t.get 24 = some (.int .i64 ((l.filter fun d => !ids.contains d.id).length : Int)) → WF Q L (PF 9 225 t k) H Φ) :
    WF Q L (PF 9 225 t (.code (sub [1, 1, 1, 1, 1, 1, 1, 1, 1, 1, 1, 1, 1, 1, 0, 1, 0] c9) :: .inBlock 8 :: k)) H Φ := by
  have hs := hr.1
  have hsx := hx.1
  have hsy := hy.1
  have hlx : (l.filter fun d => ids.contains d.id).length ≤ l.length := List.length_filter_le _ _
  have hly : (l.filter fun d => !ids.contains d.id).length ≤ l.length := List.length_filter_le _ _
  unfold c9 Tryz.f9
  simp only [Option.getD_some, sub]

  refine WF.while (fun m t H' => ∃ n : Nat, H' = H ∧ n + m = l.length ∧ Sel2 t v1 v2 b3 b8 b17 ∧ t.get 23 = some (.int .i64 (((l.take n).filter fun d => ids.contains d.id).length : Int)) ∧ t.get 24 = some (.int .i64 (((l.take n).filter fun d => !ids.contains d.id).length : Int)) ∧ t.get 25 = some (.int .i64 (n : Int))) l.length ?_ ?_
  · exact ⟨0, rfl, by omega, hS, by simpa using ht23, by simpa using ht24, ht25⟩
  rintro m t H' ⟨n, rfl, hnm, hS, ht23, ht24, ht25⟩ ih
  obtain ⟨⟨t1, t2, t3, t7, t8⟩, t17⟩ := id hS
  by_cases hn : n < l.length
  · have hlt : decide ((n : Int) < (l.length : Int)) = true := by simp; omega
    have hu8 := h8 _ (List.getElem_mem hn)
    have fs1 := filter_succ (fun d : RecD => ids.contains d.id) l hn
    have fs2 := filter_succ (fun d : RecD => !ids.contains d.id) l hn
    obtain ⟨ba, oa, capa, ca, da, hrv, hca, hda, hcuta⟩ := hr.at hn
    cases hin : ids.contains l[n].id
    · -- one of the others
      have hp : (fun d : RecD => !ids.contains d.id) l[n] = true := by show (!ids.contains l[n].id) = true; rw [hin]; rfl
      obtain ⟨hky, hyk⟩ := filter_at (fun d : RecD => !ids.contains d.id) l hn hp
      simp only [hin, Bool.not_false, if_true, if_false, Bool.false_eq_true, Nat.add_zero] at fs1 fs2
      generalize hi : ((l.take n).filter fun d => ids.contains d.id).length = i at ht23 fs1
      generalize hkk : ((l.take n).filter fun d => !ids.contains d.id).length = kk at ht24 fs2 hky hyk
      obtain ⟨by', oy, capy, cy, dy, hry, hcy, hdy, hcuty⟩ := hy.at hky
      have hyn : (l.filter fun d => !ids.contains d.id)[kk] = l[n] := by
        rw [List.getElem?_eq_getElem hky] at hyk
        exact Option.some.inj hyk
      rw [hyn] at hdy hcuty
      have hlty : decide ((kk : Int) < ((l.filter fun d => !ids.contains d.id).length : Int)) = true := decide_eq_true (Int.ofNat_lt.2 hky)
      have hile : i ≤ l.length := by rw [← hi]; exact Nat.le_trans (List.length_filter_le _ _) (by rw [List.length_take]; omega)
      have hkle : kk ≤ l.length := by omega
      repeat (first | refine WF.seq ?_ | refine WF.regionL ?_ | refine WO.nil ?_ | refine WF.block ?_ | refine WF.skip ?_ | refine WF.endBlock ?_ | (apply WF.exit; (focus (exact rfl))) | (apply WO.op; (focus ((simp only [rO, wantedU, lay, decide_true, li, lo, reduceIte, Nat.reduceEqDiff, Nat.reduceAdd, beq_self_eq_true, hlt]; done))); (focus (simp only [rE, rO, li, lo, lay, evalL, ofConst, storeU, AH.set, AV.cells, decide_true, if_true, if_false, reduceIte, Nat.reduceEqDiff, Nat.reduceAdd, Nat.reduceMul, und78, len_SL und78 hs, len_SL und78 hsx, len_SL und78 hsy, fa80_1, loadVar_one agg78, loadVar_agg agg87 sz87, hc3, hc8, hc17, hs.solid, hsx.solid, hsy.solid, t3, t8, t17, ht23, ht24, ht25, cu30, hlt]; exact rfl)); (focus (exact rfl))) | (apply WO.unwanted; (focus ((simp only [rO, wantedU, lay, decide_true, li, lo, reduceIte, Nat.reduceEqDiff, Nat.reduceAdd, beq_self_eq_true, hlt]; done))); (focus (exact rfl))))
      (first | (apply WF.condT; (focus (simp only [evalO, ofConst, Tri.gp, lay, Bool.not_true, Bool.not_false, reduceIte, Nat.reduceEqDiff, hlt]; done))) | (apply WF.condF; (focus (simp only [evalO, ofConst, Tri.gp, lay, Bool.not_true, Bool.not_false, reduceIte, Nat.reduceEqDiff, hlt]; done))))
      repeat (first | refine WF.seq ?_ | refine WF.regionL ?_ | refine WO.nil ?_ | refine WF.block ?_ | refine WF.skip ?_ | refine WF.endBlock ?_ | (apply WF.exit; (focus (exact rfl))) | (apply WO.op; (focus ((simp only [rO, wantedU, lay, decide_true, li, lo, reduceIte, Nat.reduceEqDiff, Nat.reduceAdd, beq_self_eq_true, hlt]; done))); (focus (simp only [rE, rO, li, lo, lay, evalL, ofConst, storeU, AH.set, AV.cells, decide_true, if_true, if_false, reduceIte, Nat.reduceEqDiff, Nat.reduceAdd, Nat.reduceMul, und78, len_SL und78 hs, len_SL und78 hsx, len_SL und78 hsy, fa80_1, loadVar_one agg78, loadVar_agg agg87 sz87, hc3, hc8, hc17, hs.solid, hsx.solid, hsy.solid, t3, t8, t17, ht23, ht24, ht25, cu30, hlt]; exact rfl)); (focus (exact rfl))) | (apply WO.unwanted; (focus ((simp only [rO, wantedU, lay, decide_true, li, lo, reduceIte, Nat.reduceEqDiff, Nat.reduceAdd, beq_self_eq_true, hlt]; done))); (focus (exact rfl))))
      (apply WF.draws; (focus kernel_rfl); (focus kernel_rfl))
      by_cases hix : i < (l.filter fun d => ids.contains d.id).length
      · have hltx : decide ((i : Int) < ((l.filter fun d => ids.contains d.id).length : Int)) = true := decide_eq_true (Int.ofNat_lt.2 hix)
        obtain ⟨bx, ox, capx, cx, dx, hrx, hcx, hdx, hcutx⟩ := hx.at hix
        have hne : (l.filter fun d => ids.contains d.id)[i].id ≠ l[n].id := by
          have := (List.mem_filter.1 (List.getElem_mem hix)).2
          intro e
          rw [e, hin] at this
          cases this
        subst hrv
        subst hrx
        subst hry
        (refine WF.settleL ?_; (iterate 16 (first | (apply WSL.pure; (focus kernel_rfl); (focus kernel_rfl); (focus ((simp only [rO, wantedU, lay, decide_true, li, lo, reduceIte, Nat.reduceEqDiff, Nat.reduceAdd, beq_self_eq_true, hlt]; done))); (focus (simp only [rE, rO, li, lo, lay, evalL, ofConst, storeU, AH.set, AV.cells, decide_true, if_true, if_false, reduceIte, Nat.reduceEqDiff, Nat.reduceAdd, Nat.reduceMul, und78, len_SL und78 hs, len_SL und78 hsx, len_SL und78 hsy, fa80_1, loadVar_one agg78, loadVar_agg agg87 sz87, hc3, hc8, hc17, hs.solid, hsx.solid, hsy.solid, t3, t8, t17, ht23, ht24, ht25, cu30, hlt, hltx, index_SL und78 sz87 hn, index_SL und78 sz87 hix, hca, hcuta, hcx, hcutx]; exact rfl)); (focus (exact rfl))) | (apply WSL.load; (focus kernel_rfl); (focus kernel_rfl); (focus ((simp only [rO, wantedU, lay, decide_true, li, lo, reduceIte, Nat.reduceEqDiff, Nat.reduceAdd, beq_self_eq_true, hlt]; done))); (focus (simp only [rE, rO, li, lo, lay, evalL, ofConst, storeU, AH.set, AV.cells, decide_true, if_true, if_false, reduceIte, Nat.reduceEqDiff, Nat.reduceAdd, Nat.reduceMul, und78, len_SL und78 hs, len_SL und78 hsx, len_SL und78 hsy, fa80_1, loadVar_one agg78, loadVar_agg agg87 sz87, hc3, hc8, hc17, hs.solid, hsx.solid, hsy.solid, t3, t8, t17, ht23, ht24, ht25, cu30, hlt, hltx, index_SL und78 sz87 hn, index_SL und78 sz87 hix, hca, hcuta, hcx, hcutx]; exact rfl)); (focus (exact rfl))))); (iterate 3 (apply WSL.later; (focus kernel_rfl))); refine WSL.nil ?_)
        (apply After.call (e := 16); (focus kernel_rfl); (focus (simp only [List.getElem?_toArray, List.getElem?_cons_succ, List.getElem?_cons_zero]; exact rfl)); (focus ((simp only [rO, wantedU, lay, decide_true, li, lo, reduceIte, Nat.reduceEqDiff, Nat.reduceAdd, beq_self_eq_true]; done))); (focus (simp only [rE, rO, li, lo, lay, evalL, ofConst, storeU, AH.set, AV.cells, decide_true, if_true, if_false, reduceIte, Nat.reduceEqDiff, Nat.reduceAdd, Nat.reduceMul, und78, len_SL und78 hs, len_SL und78 hsx, len_SL und78 hsy, fa80_1, loadVar_one agg78, loadVar_agg agg87 sz87, hc3, hc8, hc17, hs.solid, hsx.solid, hsy.solid, t3, t8, t17, ht23, ht24, ht25, cu30]; exact rfl)); (focus (exact differ_c _ _ _ _ _ _ _ _ _ hdx.1 hda.1 hne)); rintro _ _ ⟨rfl, rfl⟩; refine ⟨_, rfl, ?_, ?_⟩; (focus exact recheck_static (by kernel_rfl)))
        (refine WF.settleL ?_; (iterate 17 (apply WSL.later; (focus kernel_rfl))); (iterate 1 (apply WSL.pure; (focus kernel_rfl); (focus kernel_rfl); (focus ((simp only [rO, wantedU, lay, decide_true, li, lo, reduceIte, Nat.reduceEqDiff, Nat.reduceAdd, beq_self_eq_true]; done))); (focus (simp only [rE, rO, li, lo, lay, evalL, ofConst, storeU, AH.set, AV.cells, decide_true, if_true, if_false, reduceIte, Nat.reduceEqDiff, Nat.reduceAdd, Nat.reduceMul, und78, len_SL und78 hs, len_SL und78 hsx, len_SL und78 hsy, fa80_1, loadVar_one agg78, loadVar_agg agg87 sz87, hc3, hc8, hc17, hs.solid, hsx.solid, hsy.solid, t3, t8, t17, ht23, ht24, ht25, cu30]; exact rfl)); (focus (exact rfl)))); (iterate 1 (apply WSL.later; (focus kernel_rfl))); refine WSL.nil ?_)
        (apply After.eff (e := 18); (focus kernel_rfl); (focus (simp only [List.getElem?_toArray, List.getElem?_cons_succ, List.getElem?_cons_zero]; exact rfl)); (focus ((simp only [rO, wantedU, lay, decide_true, li, lo, reduceIte, Nat.reduceEqDiff, Nat.reduceAdd, beq_self_eq_true]; done))); (focus (simp only [rE, rO, li, lo, lay, evalL, ofConst, storeU, AH.set, AV.cells, decide_true, if_true, if_false, reduceIte, Nat.reduceEqDiff, Nat.reduceAdd, Nat.reduceMul, und78, len_SL und78 hs, len_SL und78 hsx, len_SL und78 hsy, fa80_1, loadVar_one agg78, loadVar_agg agg87 sz87, hc3, hc8, hc17, hs.solid, hsx.solid, hsy.solid, t3, t8, t17, ht23, ht24, ht25, cu30]; exact rfl)); (focus (exact rfl)); (focus exact recheck_static (by kernel_rfl)))
        (refine WF.settleL ?_; (iterate 19 (apply WSL.later; (focus kernel_rfl))); refine WSL.nil ?_)
        (apply After.all; (focus kernel_rfl); (focus kernel_rfl))
        (first | (apply WF.condT; (focus (simp only [evalO, ofConst, Tri.gp, lay, Bool.not_true, Bool.not_false, reduceIte, Nat.reduceEqDiff]; done))) | (apply WF.condF; (focus (simp only [evalO, ofConst, Tri.gp, lay, Bool.not_true, Bool.not_false, reduceIte, Nat.reduceEqDiff]; done))))
        repeat (first | refine WF.seq ?_ | refine WF.regionL ?_ | refine WO.nil ?_ | refine WF.block ?_ | refine WF.skip ?_ | refine WF.endBlock ?_ | (apply WF.exit; (focus (exact rfl))) | (apply WO.op; (focus ((simp only [rO, wantedU, lay, decide_true, li, lo, reduceIte, Nat.reduceEqDiff, Nat.reduceAdd, beq_self_eq_true]; done))); (focus (simp only [rE, rO, li, lo, lay, evalL, ofConst, storeU, AH.set, AV.cells, decide_true, if_true, if_false, reduceIte, Nat.reduceEqDiff, Nat.reduceAdd, Nat.reduceMul, und78, len_SL und78 hs, len_SL und78 hsx, len_SL und78 hsy, fa80_1, loadVar_one agg78, loadVar_agg agg87 sz87, hc3, hc8, hc17, hs.solid, hsx.solid, hsy.solid, t3, t8, t17, ht23, ht24, ht25, cu30]; exact rfl)); (focus (exact rfl))) | (apply WO.unwanted; (focus ((simp only [rO, wantedU, lay, decide_true, li, lo, reduceIte, Nat.reduceEqDiff, Nat.reduceAdd, beq_self_eq_true]; done))); (focus (exact rfl))))
        (apply WF.draws; (focus kernel_rfl); (focus kernel_rfl))
        (refine WF.settleL ?_; (iterate 16 (first | (apply WSL.pure; (focus kernel_rfl); (focus kernel_rfl); (focus ((simp only [rO, wantedU, lay, decide_true, li, lo, reduceIte, Nat.reduceEqDiff, Nat.reduceAdd, beq_self_eq_true, hlt]; done))); (focus (simp only [rE, rO, li, lo, lay, evalL, ofConst, storeU, AH.set, AV.cells, decide_true, if_true, if_false, reduceIte, Nat.reduceEqDiff, Nat.reduceAdd, Nat.reduceMul, und78, len_SL und78 hs, len_SL und78 hsx, len_SL und78 hsy, fa80_1, loadVar_one agg78, loadVar_agg agg87 sz87, hc3, hc8, hc17, hs.solid, hsx.solid, hsy.solid, t3, t8, t17, ht23, ht24, ht25, cu30, hlt, hlty, index_SL und78 sz87 hn, index_SL und78 sz87 hky, hca, hcuta, hcy, hcuty]; exact rfl)); (focus (exact rfl))) | (apply WSL.load; (focus kernel_rfl); (focus kernel_rfl); (focus ((simp only [rO, wantedU, lay, decide_true, li, lo, reduceIte, Nat.reduceEqDiff, Nat.reduceAdd, beq_self_eq_true, hlt]; done))); (focus (simp only [rE, rO, li, lo, lay, evalL, ofConst, storeU, AH.set, AV.cells, decide_true, if_true, if_false, reduceIte, Nat.reduceEqDiff, Nat.reduceAdd, Nat.reduceMul, und78, len_SL und78 hs, len_SL und78 hsx, len_SL und78 hsy, fa80_1, loadVar_one agg78, loadVar_agg agg87 sz87, hc3, hc8, hc17, hs.solid, hsx.solid, hsy.solid, t3, t8, t17, ht23, ht24, ht25, cu30, hlt, hlty, index_SL und78 sz87 hn, index_SL und78 sz87 hky, hca, hcuta, hcy, hcuty]; exact rfl)); (focus (exact rfl))))); (iterate 3 (apply WSL.later; (focus kernel_rfl))); refine WSL.nil ?_)
        (apply After.call (e := 16); (focus kernel_rfl); (focus (simp only [List.getElem?_toArray, List.getElem?_cons_succ, List.getElem?_cons_zero]; exact rfl)); (focus ((simp only [rO, wantedU, lay, decide_true, li, lo, reduceIte, Nat.reduceEqDiff, Nat.reduceAdd, beq_self_eq_true]; done))); (focus (simp only [rE, rO, li, lo, lay, evalL, ofConst, storeU, AH.set, AV.cells, decide_true, if_true, if_false, reduceIte, Nat.reduceEqDiff, Nat.reduceAdd, Nat.reduceMul, und78, len_SL und78 hs, len_SL und78 hsx, len_SL und78 hsy, fa80_1, loadVar_one agg78, loadVar_agg agg87 sz87, hc3, hc8, hc17, hs.solid, hsx.solid, hsy.solid, t3, t8, t17, ht23, ht24, ht25, cu30]; exact rfl)); (focus (exact same_c _ _ _ _ _ _ hdy hda hu8)); rintro _ _ ⟨rfl, rfl⟩; refine ⟨_, rfl, ?_, ?_⟩; (focus exact recheck_static (by kernel_rfl)))
        (refine WF.settleL ?_; (iterate 17 (apply WSL.later; (focus kernel_rfl))); (iterate 1 (apply WSL.pure; (focus kernel_rfl); (focus kernel_rfl); (focus ((simp only [rO, wantedU, lay, decide_true, li, lo, reduceIte, Nat.reduceEqDiff, Nat.reduceAdd, beq_self_eq_true]; done))); (focus (simp only [rE, rO, li, lo, lay, evalL, ofConst, storeU, AH.set, AV.cells, decide_true, if_true, if_false, reduceIte, Nat.reduceEqDiff, Nat.reduceAdd, Nat.reduceMul, und78, len_SL und78 hs, len_SL und78 hsx, len_SL und78 hsy, fa80_1, loadVar_one agg78, loadVar_agg agg87 sz87, hc3, hc8, hc17, hs.solid, hsx.solid, hsy.solid, t3, t8, t17, ht23, ht24, ht25, cu30]; exact rfl)); (focus (exact rfl)))); (iterate 1 (apply WSL.later; (focus kernel_rfl))); refine WSL.nil ?_)
        (apply After.eff (e := 18); (focus kernel_rfl); (focus (simp only [List.getElem?_toArray, List.getElem?_cons_succ, List.getElem?_cons_zero]; exact rfl)); (focus ((simp only [rO, wantedU, lay, decide_true, li, lo, reduceIte, Nat.reduceEqDiff, Nat.reduceAdd, beq_self_eq_true]; done))); (focus (simp only [rE, rO, li, lo, lay, evalL, ofConst, storeU, AH.set, AV.cells, decide_true, if_true, if_false, reduceIte, Nat.reduceEqDiff, Nat.reduceAdd, Nat.reduceMul, und78, len_SL und78 hs, len_SL und78 hsx, len_SL und78 hsy, fa80_1, loadVar_one agg78, loadVar_agg agg87 sz87, hc3, hc8, hc17, hs.solid, hsx.solid, hsy.solid, t3, t8, t17, ht23, ht24, ht25, cu30]; exact rfl)); (focus (exact rfl)); (focus exact recheck_static (by kernel_rfl)))
        (refine WF.settleL ?_; (iterate 19 (apply WSL.later; (focus kernel_rfl))); refine WSL.nil ?_)
        (apply After.all; (focus kernel_rfl); (focus kernel_rfl))
        (first | (apply WF.condT; (focus (simp only [evalO, ofConst, Tri.gp, lay, Bool.not_true, Bool.not_false, reduceIte, Nat.reduceEqDiff]; done))) | (apply WF.condF; (focus (simp only [evalO, ofConst, Tri.gp, lay, Bool.not_true, Bool.not_false, reduceIte, Nat.reduceEqDiff]; done))))
        repeat (first | refine WF.seq ?_ | refine WF.regionL ?_ | refine WO.nil ?_ | refine WF.block ?_ | refine WF.skip ?_ | refine WF.endBlock ?_ | (apply WF.exit; (focus (exact rfl))) | (apply WO.op; (focus ((simp only [rO, wantedU, lay, decide_true, li, lo, reduceIte, Nat.reduceEqDiff, Nat.reduceAdd, beq_self_eq_true]; done))); (focus (simp only [rE, rO, li, lo, lay, evalL, ofConst, storeU, AH.set, AV.cells, decide_true, if_true, if_false, reduceIte, Nat.reduceEqDiff, Nat.reduceAdd, Nat.reduceMul, und78, len_SL und78 hs, len_SL und78 hsx, len_SL und78 hsy, fa80_1, loadVar_one agg78, loadVar_agg agg87 sz87, hc3, hc8, hc17, hs.solid, hsx.solid, hsy.solid, t3, t8, t17, ht23, ht24, ht25, cu30]; exact rfl)); (focus (exact rfl))) | (apply WO.unwanted; (focus ((simp only [rO, wantedU, lay, decide_true, li, lo, reduceIte, Nat.reduceEqDiff, Nat.reduceAdd, beq_self_eq_true]; done))); (focus (exact rfl))))
        refine WF.again ?_
        refine ih (m - 1) _ _ (by omega) ⟨n + 1, rfl, by omega, ?_, ?_, ?_, ?_⟩
        · ((repeat (refine Sel2.put ?_ _ rfl rfl)); exact hS)
        · rw [fs1]
          simp [Tri.gp, ht23]
        · rw [fs2]
          simp only [Tri.gp, reduceIte, Nat.reduceEqDiff]
          rw [w64 (by omega) (by omega)]
          simp
        · simp only [Tri.gp, reduceIte, Nat.reduceEqDiff]
          rw [w64 (by omega) (by omega)]
          simp
      · have hltx : decide ((i : Int) < ((l.filter fun d => ids.contains d.id).length : Int)) = false := decide_eq_false fun h => hix (Int.ofNat_lt.1 h)
        subst hrv
        subst hry
        (refine WF.settleL ?_; (iterate 16 (first | (apply WSL.pure; (focus kernel_rfl); (focus kernel_rfl); (focus ((simp only [rO, wantedU, lay, decide_true, li, lo, reduceIte, Nat.reduceEqDiff, Nat.reduceAdd, beq_self_eq_true, hlt]; done))); (focus (simp only [rE, rO, li, lo, lay, evalL, ofConst, storeU, AH.set, AV.cells, decide_true, if_true, if_false, reduceIte, Nat.reduceEqDiff, Nat.reduceAdd, Nat.reduceMul, und78, len_SL und78 hs, len_SL und78 hsx, len_SL und78 hsy, fa80_1, loadVar_one agg78, loadVar_agg agg87 sz87, hc3, hc8, hc17, hs.solid, hsx.solid, hsy.solid, t3, t8, t17, ht23, ht24, ht25, cu30, hlt, hltx]; exact rfl)); (focus (exact rfl))) | (apply WSL.load; (focus kernel_rfl); (focus kernel_rfl); (focus ((simp only [rO, wantedU, lay, decide_true, li, lo, reduceIte, Nat.reduceEqDiff, Nat.reduceAdd, beq_self_eq_true, hlt]; done))); (focus (simp only [rE, rO, li, lo, lay, evalL, ofConst, storeU, AH.set, AV.cells, decide_true, if_true, if_false, reduceIte, Nat.reduceEqDiff, Nat.reduceAdd, Nat.reduceMul, und78, len_SL und78 hs, len_SL und78 hsx, len_SL und78 hsy, fa80_1, loadVar_one agg78, loadVar_agg agg87 sz87, hc3, hc8, hc17, hs.solid, hsx.solid, hsy.solid, t3, t8, t17, ht23, ht24, ht25, cu30, hlt, hltx]; exact rfl)); (focus (exact rfl))) | (apply WSL.unwanted; (focus kernel_rfl); (focus ((simp only [rO, wantedU, lay, decide_true, li, lo, reduceIte, Nat.reduceEqDiff, Nat.reduceAdd, beq_self_eq_true, hlt]; done))); (focus (exact rfl))))); (iterate 3 (apply WSL.later; (focus kernel_rfl))); refine WSL.nil ?_)
        (apply After.unwanted (e := 16); (focus kernel_rfl); (focus (simp only [List.getElem?_toArray, List.getElem?_cons_succ, List.getElem?_cons_zero]; exact rfl)); (focus ((simp only [rO, wantedU, lay, decide_true, li, lo, reduceIte, Nat.reduceEqDiff, Nat.reduceAdd, beq_self_eq_true]; done))); (focus (exact rfl)); (focus exact recheck_static (by kernel_rfl)))
        (refine WF.settleL ?_; (iterate 17 (apply WSL.later; (focus kernel_rfl))); (iterate 1 (apply WSL.pure; (focus kernel_rfl); (focus kernel_rfl); (focus ((simp only [rO, wantedU, lay, decide_true, li, lo, reduceIte, Nat.reduceEqDiff, Nat.reduceAdd, beq_self_eq_true]; done))); (focus (simp only [rE, rO, li, lo, lay, evalL, ofConst, storeU, AH.set, AV.cells, decide_true, if_true, if_false, reduceIte, Nat.reduceEqDiff, Nat.reduceAdd, Nat.reduceMul, und78, len_SL und78 hs, len_SL und78 hsx, len_SL und78 hsy, fa80_1, loadVar_one agg78, loadVar_agg agg87 sz87, hc3, hc8, hc17, hs.solid, hsx.solid, hsy.solid, t3, t8, t17, ht23, ht24, ht25, cu30]; exact rfl)); (focus (exact rfl)))); (iterate 1 (apply WSL.later; (focus kernel_rfl))); refine WSL.nil ?_)
        (apply After.eff (e := 18); (focus kernel_rfl); (focus (simp only [List.getElem?_toArray, List.getElem?_cons_succ, List.getElem?_cons_zero]; exact rfl)); (focus ((simp only [rO, wantedU, lay, decide_true, li, lo, reduceIte, Nat.reduceEqDiff, Nat.reduceAdd, beq_self_eq_true]; done))); (focus (simp only [rE, rO, li, lo, lay, evalL, ofConst, storeU, AH.set, AV.cells, decide_true, if_true, if_false, reduceIte, Nat.reduceEqDiff, Nat.reduceAdd, Nat.reduceMul, und78, len_SL und78 hs, len_SL und78 hsx, len_SL und78 hsy, fa80_1, loadVar_one agg78, loadVar_agg agg87 sz87, hc3, hc8, hc17, hs.solid, hsx.solid, hsy.solid, t3, t8, t17, ht23, ht24, ht25, cu30]; exact rfl)); (focus (exact rfl)); (focus exact recheck_static (by kernel_rfl)))
        (refine WF.settleL ?_; (iterate 19 (apply WSL.later; (focus kernel_rfl))); refine WSL.nil ?_)
        (apply After.all; (focus kernel_rfl); (focus kernel_rfl))
        (first | (apply WF.condT; (focus (simp only [evalO, ofConst, Tri.gp, lay, Bool.not_true, Bool.not_false, reduceIte, Nat.reduceEqDiff]; done))) | (apply WF.condF; (focus (simp only [evalO, ofConst, Tri.gp, lay, Bool.not_true, Bool.not_false, reduceIte, Nat.reduceEqDiff]; done))))
        repeat (first | refine WF.seq ?_ | refine WF.regionL ?_ | refine WO.nil ?_ | refine WF.block ?_ | refine WF.skip ?_ | refine WF.endBlock ?_ | (apply WF.exit; (focus (exact rfl))) | (apply WO.op; (focus ((simp only [rO, wantedU, lay, decide_true, li, lo, reduceIte, Nat.reduceEqDiff, Nat.reduceAdd, beq_self_eq_true]; done))); (focus (simp only [rE, rO, li, lo, lay, evalL, ofConst, storeU, AH.set, AV.cells, decide_true, if_true, if_false, reduceIte, Nat.reduceEqDiff, Nat.reduceAdd, Nat.reduceMul, und78, len_SL und78 hs, len_SL und78 hsx, len_SL und78 hsy, fa80_1, loadVar_one agg78, loadVar_agg agg87 sz87, hc3, hc8, hc17, hs.solid, hsx.solid, hsy.solid, t3, t8, t17, ht23, ht24, ht25, cu30]; exact rfl)); (focus (exact rfl))) | (apply WO.unwanted; (focus ((simp only [rO, wantedU, lay, decide_true, li, lo, reduceIte, Nat.reduceEqDiff, Nat.reduceAdd, beq_self_eq_true]; done))); (focus (exact rfl))))
        (apply WF.draws; (focus kernel_rfl); (focus kernel_rfl))
        (refine WF.settleL ?_; (iterate 16 (first | (apply WSL.pure; (focus kernel_rfl); (focus kernel_rfl); (focus ((simp only [rO, wantedU, lay, decide_true, li, lo, reduceIte, Nat.reduceEqDiff, Nat.reduceAdd, beq_self_eq_true, hlt]; done))); (focus (simp only [rE, rO, li, lo, lay, evalL, ofConst, storeU, AH.set, AV.cells, decide_true, if_true, if_false, reduceIte, Nat.reduceEqDiff, Nat.reduceAdd, Nat.reduceMul, und78, len_SL und78 hs, len_SL und78 hsx, len_SL und78 hsy, fa80_1, loadVar_one agg78, loadVar_agg agg87 sz87, hc3, hc8, hc17, hs.solid, hsx.solid, hsy.solid, t3, t8, t17, ht23, ht24, ht25, cu30, hlt, hlty, index_SL und78 sz87 hn, index_SL und78 sz87 hky, hca, hcuta, hcy, hcuty]; exact rfl)); (focus (exact rfl))) | (apply WSL.load; (focus kernel_rfl); (focus kernel_rfl); (focus ((simp only [rO, wantedU, lay, decide_true, li, lo, reduceIte, Nat.reduceEqDiff, Nat.reduceAdd, beq_self_eq_true, hlt]; done))); (focus (simp only [rE, rO, li, lo, lay, evalL, ofConst, storeU, AH.set, AV.cells, decide_true, if_true, if_false, reduceIte, Nat.reduceEqDiff, Nat.reduceAdd, Nat.reduceMul, und78, len_SL und78 hs, len_SL und78 hsx, len_SL und78 hsy, fa80_1, loadVar_one agg78, loadVar_agg agg87 sz87, hc3, hc8, hc17, hs.solid, hsx.solid, hsy.solid, t3, t8, t17, ht23, ht24, ht25, cu30, hlt, hlty, index_SL und78 sz87 hn, index_SL und78 sz87 hky, hca, hcuta, hcy, hcuty]; exact rfl)); (focus (exact rfl))))); (iterate 3 (apply WSL.later; (focus kernel_rfl))); refine WSL.nil ?_)
        (apply After.call (e := 16); (focus kernel_rfl); (focus (simp only [List.getElem?_toArray, List.getElem?_cons_succ, List.getElem?_cons_zero]; exact rfl)); (focus ((simp only [rO, wantedU, lay, decide_true, li, lo, reduceIte, Nat.reduceEqDiff, Nat.reduceAdd, beq_self_eq_true]; done))); (focus (simp only [rE, rO, li, lo, lay, evalL, ofConst, storeU, AH.set, AV.cells, decide_true, if_true, if_false, reduceIte, Nat.reduceEqDiff, Nat.reduceAdd, Nat.reduceMul, und78, len_SL und78 hs, len_SL und78 hsx, len_SL und78 hsy, fa80_1, loadVar_one agg78, loadVar_agg agg87 sz87, hc3, hc8, hc17, hs.solid, hsx.solid, hsy.solid, t3, t8, t17, ht23, ht24, ht25, cu30]; exact rfl)); (focus (exact same_c _ _ _ _ _ _ hdy hda hu8)); rintro _ _ ⟨rfl, rfl⟩; refine ⟨_, rfl, ?_, ?_⟩; (focus exact recheck_static (by kernel_rfl)))
        (refine WF.settleL ?_; (iterate 17 (apply WSL.later; (focus kernel_rfl))); (iterate 1 (apply WSL.pure; (focus kernel_rfl); (focus kernel_rfl); (focus ((simp only [rO, wantedU, lay, decide_true, li, lo, reduceIte, Nat.reduceEqDiff, Nat.reduceAdd, beq_self_eq_true]; done))); (focus (simp only [rE, rO, li, lo, lay, evalL, ofConst, storeU, AH.set, AV.cells, decide_true, if_true, if_false, reduceIte, Nat.reduceEqDiff, Nat.reduceAdd, Nat.reduceMul, und78, len_SL und78 hs, len_SL und78 hsx, len_SL und78 hsy, fa80_1, loadVar_one agg78, loadVar_agg agg87 sz87, hc3, hc8, hc17, hs.solid, hsx.solid, hsy.solid, t3, t8, t17, ht23, ht24, ht25, cu30]; exact rfl)); (focus (exact rfl)))); (iterate 1 (apply WSL.later; (focus kernel_rfl))); refine WSL.nil ?_)
        (apply After.eff (e := 18); (focus kernel_rfl); (focus (simp only [List.getElem?_toArray, List.getElem?_cons_succ, List.getElem?_cons_zero]; exact rfl)); (focus ((simp only [rO, wantedU, lay, decide_true, li, lo, reduceIte, Nat.reduceEqDiff, Nat.reduceAdd, beq_self_eq_true]; done))); (focus (simp only [rE, rO, li, lo, lay, evalL, ofConst, storeU, AH.set, AV.cells, decide_true, if_true, if_false, reduceIte, Nat.reduceEqDiff, Nat.reduceAdd, Nat.reduceMul, und78, len_SL und78 hs, len_SL und78 hsx, len_SL und78 hsy, fa80_1, loadVar_one agg78, loadVar_agg agg87 sz87, hc3, hc8, hc17, hs.solid, hsx.solid, hsy.solid, t3, t8, t17, ht23, ht24, ht25, cu30]; exact rfl)); (focus (exact rfl)); (focus exact recheck_static (by kernel_rfl)))
        (refine WF.settleL ?_; (iterate 19 (apply WSL.later; (focus kernel_rfl))); refine WSL.nil ?_)
        (apply After.all; (focus kernel_rfl); (focus kernel_rfl))
        (first | (apply WF.condT; (focus (simp only [evalO, ofConst, Tri.gp, lay, Bool.not_true, Bool.not_false, reduceIte, Nat.reduceEqDiff]; done))) | (apply WF.condF; (focus (simp only [evalO, ofConst, Tri.gp, lay, Bool.not_true, Bool.not_false, reduceIte, Nat.reduceEqDiff]; done))))
        repeat (first | refine WF.seq ?_ | refine WF.regionL ?_ | refine WO.nil ?_ | refine WF.block ?_ | refine WF.skip ?_ | refine WF.endBlock ?_ | (apply WF.exit; (focus (exact rfl))) | (apply WO.op; (focus ((simp only [rO, wantedU, lay, decide_true, li, lo, reduceIte, Nat.reduceEqDiff, Nat.reduceAdd, beq_self_eq_true]; done))); (focus (simp only [rE, rO, li, lo, lay, evalL, ofConst, storeU, AH.set, AV.cells, decide_true, if_true, if_false, reduceIte, Nat.reduceEqDiff, Nat.reduceAdd, Nat.reduceMul, und78, len_SL und78 hs, len_SL und78 hsx, len_SL und78 hsy, fa80_1, loadVar_one agg78, loadVar_agg agg87 sz87, hc3, hc8, hc17, hs.solid, hsx.solid, hsy.solid, t3, t8, t17, ht23, ht24, ht25, cu30]; exact rfl)); (focus (exact rfl))) | (apply WO.unwanted; (focus ((simp only [rO, wantedU, lay, decide_true, li, lo, reduceIte, Nat.reduceEqDiff, Nat.reduceAdd, beq_self_eq_true]; done))); (focus (exact rfl))))
        refine WF.again ?_
        refine ih (m - 1) _ _ (by omega) ⟨n + 1, rfl, by omega, ?_, ?_, ?_, ?_⟩
        · ((repeat (refine Sel2.put ?_ _ rfl rfl)); exact hS)
        · rw [fs1]
          simp [Tri.gp, ht23]
        · rw [fs2]
          simp only [Tri.gp, reduceIte, Nat.reduceEqDiff]
          rw [w64 (by omega) (by omega)]
          simp
        · simp only [Tri.gp, reduceIte, Nat.reduceEqDiff]
          rw [w64 (by omega) (by omega)]
          simp
    · -- one of the chosen
      have hp : (fun d : RecD => ids.contains d.id) l[n] = true := hin
      obtain ⟨hix, hxk⟩ := filter_at (fun d : RecD => ids.contains d.id) l hn hp
      simp only [hin, Bool.not_true, if_true, if_false, Bool.false_eq_true, Nat.add_zero] at fs1 fs2
      generalize hi : ((l.take n).filter fun d => ids.contains d.id).length = i at ht23 fs1 hix hxk
      generalize hkk : ((l.take n).filter fun d => !ids.contains d.id).length = kk at ht24 fs2
      obtain ⟨bx, ox, capx, cx, dx, hrx, hcx, hdx, hcutx⟩ := hx.at hix
      have hxn : (l.filter fun d => ids.contains d.id)[i] = l[n] := by
        rw [List.getElem?_eq_getElem hix] at hxk
        exact Option.some.inj hxk
      rw [hxn] at hdx hcutx
      have hltx : decide ((i : Int) < ((l.filter fun d => ids.contains d.id).length : Int)) = true := decide_eq_true (Int.ofNat_lt.2 hix)
      have hile : i ≤ l.length := by omega
      subst hrv
      subst hrx
      repeat (first | refine WF.seq ?_ | refine WF.regionL ?_ | refine WO.nil ?_ | refine WF.block ?_ | refine WF.skip ?_ | refine WF.endBlock ?_ | (apply WF.exit; (focus (exact rfl))) | (apply WO.op; (focus ((simp only [rO, wantedU, lay, decide_true, li, lo, reduceIte, Nat.reduceEqDiff, Nat.reduceAdd, beq_self_eq_true, hlt]; done))); (focus (simp only [rE, rO, li, lo, lay, evalL, ofConst, storeU, AH.set, AV.cells, decide_true, if_true, if_false, reduceIte, Nat.reduceEqDiff, Nat.reduceAdd, Nat.reduceMul, und78, len_SL und78 hs, len_SL und78 hsx, len_SL und78 hsy, fa80_1, loadVar_one agg78, loadVar_agg agg87 sz87, hc3, hc8, hc17, hs.solid, hsx.solid, hsy.solid, t3, t8, t17, ht23, ht24, ht25, cu30, hlt]; exact rfl)); (focus (exact rfl))) | (apply WO.unwanted; (focus ((simp only [rO, wantedU, lay, decide_true, li, lo, reduceIte, Nat.reduceEqDiff, Nat.reduceAdd, beq_self_eq_true, hlt]; done))); (focus (exact rfl))))
      (first | (apply WF.condT; (focus (simp only [evalO, ofConst, Tri.gp, lay, Bool.not_true, Bool.not_false, reduceIte, Nat.reduceEqDiff, hlt]; done))) | (apply WF.condF; (focus (simp only [evalO, ofConst, Tri.gp, lay, Bool.not_true, Bool.not_false, reduceIte, Nat.reduceEqDiff, hlt]; done))))
      repeat (first | refine WF.seq ?_ | refine WF.regionL ?_ | refine WO.nil ?_ | refine WF.block ?_ | refine WF.skip ?_ | refine WF.endBlock ?_ | (apply WF.exit; (focus (exact rfl))) | (apply WO.op; (focus ((simp only [rO, wantedU, lay, decide_true, li, lo, reduceIte, Nat.reduceEqDiff, Nat.reduceAdd, beq_self_eq_true, hlt]; done))); (focus (simp only [rE, rO, li, lo, lay, evalL, ofConst, storeU, AH.set, AV.cells, decide_true, if_true, if_false, reduceIte, Nat.reduceEqDiff, Nat.reduceAdd, Nat.reduceMul, und78, len_SL und78 hs, len_SL und78 hsx, len_SL und78 hsy, fa80_1, loadVar_one agg78, loadVar_agg agg87 sz87, hc3, hc8, hc17, hs.solid, hsx.solid, hsy.solid, t3, t8, t17, ht23, ht24, ht25, cu30, hlt]; exact rfl)); (focus (exact rfl))) | (apply WO.unwanted; (focus ((simp only [rO, wantedU, lay, decide_true, li, lo, reduceIte, Nat.reduceEqDiff, Nat.reduceAdd, beq_self_eq_true, hlt]; done))); (focus (exact rfl))))
      (apply WF.draws; (focus kernel_rfl); (focus kernel_rfl))
      (refine WF.settleL ?_; (iterate 16 (first | (apply WSL.pure; (focus kernel_rfl); (focus kernel_rfl); (focus ((simp only [rO, wantedU, lay, decide_true, li, lo, reduceIte, Nat.reduceEqDiff, Nat.reduceAdd, beq_self_eq_true, hlt]; done))); (focus (simp only [rE, rO, li, lo, lay, evalL, ofConst, storeU, AH.set, AV.cells, decide_true, if_true, if_false, reduceIte, Nat.reduceEqDiff, Nat.reduceAdd, Nat.reduceMul, und78, len_SL und78 hs, len_SL und78 hsx, len_SL und78 hsy, fa80_1, loadVar_one agg78, loadVar_agg agg87 sz87, hc3, hc8, hc17, hs.solid, hsx.solid, hsy.solid, t3, t8, t17, ht23, ht24, ht25, cu30, hlt, hltx, index_SL und78 sz87 hn, index_SL und78 sz87 hix, hca, hcuta, hcx, hcutx]; exact rfl)); (focus (exact rfl))) | (apply WSL.load; (focus kernel_rfl); (focus kernel_rfl); (focus ((simp only [rO, wantedU, lay, decide_true, li, lo, reduceIte, Nat.reduceEqDiff, Nat.reduceAdd, beq_self_eq_true, hlt]; done))); (focus (simp only [rE, rO, li, lo, lay, evalL, ofConst, storeU, AH.set, AV.cells, decide_true, if_true, if_false, reduceIte, Nat.reduceEqDiff, Nat.reduceAdd, Nat.reduceMul, und78, len_SL und78 hs, len_SL und78 hsx, len_SL und78 hsy, fa80_1, loadVar_one agg78, loadVar_agg agg87 sz87, hc3, hc8, hc17, hs.solid, hsx.solid, hsy.solid, t3, t8, t17, ht23, ht24, ht25, cu30, hlt, hltx, index_SL und78 sz87 hn, index_SL und78 sz87 hix, hca, hcuta, hcx, hcutx]; exact rfl)); (focus (exact rfl))))); (iterate 3 (apply WSL.later; (focus kernel_rfl))); refine WSL.nil ?_)
      (apply After.call (e := 16); (focus kernel_rfl); (focus (simp only [List.getElem?_toArray, List.getElem?_cons_succ, List.getElem?_cons_zero]; exact rfl)); (focus ((simp only [rO, wantedU, lay, decide_true, li, lo, reduceIte, Nat.reduceEqDiff, Nat.reduceAdd, beq_self_eq_true]; done))); (focus (simp only [rE, rO, li, lo, lay, evalL, ofConst, storeU, AH.set, AV.cells, decide_true, if_true, if_false, reduceIte, Nat.reduceEqDiff, Nat.reduceAdd, Nat.reduceMul, und78, len_SL und78 hs, len_SL und78 hsx, len_SL und78 hsy, fa80_1, loadVar_one agg78, loadVar_agg agg87 sz87, hc3, hc8, hc17, hs.solid, hsx.solid, hsy.solid, t3, t8, t17, ht23, ht24, ht25, cu30]; exact rfl)); (focus (exact same_c _ _ _ _ _ _ hdx hda hu8)); rintro _ _ ⟨rfl, rfl⟩; refine ⟨_, rfl, ?_, ?_⟩; (focus exact recheck_static (by kernel_rfl)))
      (refine WF.settleL ?_; (iterate 17 (apply WSL.later; (focus kernel_rfl))); (iterate 1 (apply WSL.pure; (focus kernel_rfl); (focus kernel_rfl); (focus ((simp only [rO, wantedU, lay, decide_true, li, lo, reduceIte, Nat.reduceEqDiff, Nat.reduceAdd, beq_self_eq_true]; done))); (focus (simp only [rE, rO, li, lo, lay, evalL, ofConst, storeU, AH.set, AV.cells, decide_true, if_true, if_false, reduceIte, Nat.reduceEqDiff, Nat.reduceAdd, Nat.reduceMul, und78, len_SL und78 hs, len_SL und78 hsx, len_SL und78 hsy, fa80_1, loadVar_one agg78, loadVar_agg agg87 sz87, hc3, hc8, hc17, hs.solid, hsx.solid, hsy.solid, t3, t8, t17, ht23, ht24, ht25, cu30]; exact rfl)); (focus (exact rfl)))); (iterate 1 (apply WSL.later; (focus kernel_rfl))); refine WSL.nil ?_)
      (apply After.eff (e := 18); (focus kernel_rfl); (focus (simp only [List.getElem?_toArray, List.getElem?_cons_succ, List.getElem?_cons_zero]; exact rfl)); (focus ((simp only [rO, wantedU, lay, decide_true, li, lo, reduceIte, Nat.reduceEqDiff, Nat.reduceAdd, beq_self_eq_true]; done))); (focus (simp only [rE, rO, li, lo, lay, evalL, ofConst, storeU, AH.set, AV.cells, decide_true, if_true, if_false, reduceIte, Nat.reduceEqDiff, Nat.reduceAdd, Nat.reduceMul, und78, len_SL und78 hs, len_SL und78 hsx, len_SL und78 hsy, fa80_1, loadVar_one agg78, loadVar_agg agg87 sz87, hc3, hc8, hc17, hs.solid, hsx.solid, hsy.solid, t3, t8, t17, ht23, ht24, ht25, cu30]; exact rfl)); (focus (exact rfl)); (focus exact recheck_static (by kernel_rfl)))
      (refine WF.settleL ?_; (iterate 19 (apply WSL.later; (focus kernel_rfl))); refine WSL.nil ?_)
      (apply After.all; (focus kernel_rfl); (focus kernel_rfl))
      (first | (apply WF.condT; (focus (simp only [evalO, ofConst, Tri.gp, lay, Bool.not_true, Bool.not_false, reduceIte, Nat.reduceEqDiff]; done))) | (apply WF.condF; (focus (simp only [evalO, ofConst, Tri.gp, lay, Bool.not_true, Bool.not_false, reduceIte, Nat.reduceEqDiff]; done))))
      repeat (first | refine WF.seq ?_ | refine WF.regionL ?_ | refine WO.nil ?_ | refine WF.block ?_ | refine WF.skip ?_ | refine WF.endBlock ?_ | (apply WF.exit; (focus (exact rfl))) | (apply WO.op; (focus ((simp only [rO, wantedU, lay, decide_true, li, lo, reduceIte, Nat.reduceEqDiff, Nat.reduceAdd, beq_self_eq_true]; done))); (focus (simp only [rE, rO, li, lo, lay, evalL, ofConst, storeU, AH.set, AV.cells, decide_true, if_true, if_false, reduceIte, Nat.reduceEqDiff, Nat.reduceAdd, Nat.reduceMul, und78, len_SL und78 hs, len_SL und78 hsx, len_SL und78 hsy, fa80_1, loadVar_one agg78, loadVar_agg agg87 sz87, hc3, hc8, hc17, hs.solid, hsx.solid, hsy.solid, t3, t8, t17, ht23, ht24, ht25, cu30]; exact rfl)); (focus (exact rfl))) | (apply WO.unwanted; (focus ((simp only [rO, wantedU, lay, decide_true, li, lo, reduceIte, Nat.reduceEqDiff, Nat.reduceAdd, beq_self_eq_true]; done))); (focus (exact rfl))))
      refine WF.again ?_
      refine ih (m - 1) _ _ (by omega) ⟨n + 1, rfl, by omega, ?_, ?_, ?_, ?_⟩
      · ((repeat (refine Sel2.put ?_ _ rfl rfl)); exact hS)
      · rw [fs1]
        simp only [Tri.gp, reduceIte, Nat.reduceEqDiff]
        rw [w64 (by omega) (by omega)]
        simp
      · rw [fs2]
        simp [Tri.gp, ht24]
      · simp only [Tri.gp, reduceIte, Nat.reduceEqDiff]
        rw [w64 (by omega) (by omega)]
        simp
  · have hlt : decide ((n : Int) < (l.length : Int)) = false := by simp; omega
    obtain rfl : n = l.length := by omega
    rw [List.take_length] at ht23 ht24
    repeat (first | refine WF.seq ?_ | refine WF.regionL ?_ | refine WO.nil ?_ | refine WF.block ?_ | refine WF.skip ?_ | refine WF.endBlock ?_ | (apply WF.exit; (focus (exact rfl))) | (apply WO.op; (focus ((simp only [rO, wantedU, lay, decide_true, li, lo, reduceIte, Nat.reduceEqDiff, Nat.reduceAdd, beq_self_eq_true, hlt]; done))); (focus (simp only [rE, rO, li, lo, lay, evalL, ofConst, storeU, AH.set, AV.cells, decide_true, if_true, if_false, reduceIte, Nat.reduceEqDiff, Nat.reduceAdd, Nat.reduceMul, und78, len_SL und78 hs, len_SL und78 hsx, len_SL und78 hsy, fa80_1, loadVar_one agg78, loadVar_agg agg87 sz87, hc3, hc8, hc17, hs.solid, hsx.solid, hsy.solid, t3, t8, t17, ht23, ht24, ht25, cu30, hlt]; exact rfl)); (focus (exact rfl))) | (apply WO.unwanted; (focus ((simp only [rO, wantedU, lay, decide_true, li, lo, reduceIte, Nat.reduceEqDiff, Nat.reduceAdd, beq_self_eq_true, hlt]; done))); (focus (exact rfl))))
    (first | (apply WF.condT; (focus (simp only [evalO, ofConst, Tri.gp, lay, Bool.not_true, Bool.not_false, reduceIte, Nat.reduceEqDiff, hlt]; done))) | (apply WF.condF; (focus (simp only [evalO, ofConst, Tri.gp, lay, Bool.not_true, Bool.not_false, reduceIte, Nat.reduceEqDiff, hlt]; done))))
    repeat (first | refine WF.seq ?_ | refine WF.regionL ?_ | refine WO.nil ?_ | refine WF.block ?_ | refine WF.skip ?_ | refine WF.endBlock ?_ | (apply WF.exit; (focus (exact rfl))) | (apply WO.op; (focus ((simp only [rO, wantedU, lay, decide_true, li, lo, reduceIte, Nat.reduceEqDiff, Nat.reduceAdd, beq_self_eq_true, hlt]; done))); (focus (simp only [rE, rO, li, lo, lay, evalL, ofConst, storeU, AH.set, AV.cells, decide_true, if_true, if_false, reduceIte, Nat.reduceEqDiff, Nat.reduceAdd, Nat.reduceMul, und78, len_SL und78 hs, len_SL und78 hsx, len_SL und78 hsy, fa80_1, loadVar_one agg78, loadVar_agg agg87 sz87, hc3, hc8, hc17, hs.solid, hsx.solid, hsy.solid, t3, t8, t17, ht23, ht24, ht25, cu30, hlt]; exact rfl)); (focus (exact rfl))) | (apply WO.unwanted; (focus ((simp only [rO, wantedU, lay, decide_true, li, lo, reduceIte, Nat.reduceEqDiff, Nat.reduceAdd, beq_self_eq_true, hlt]; done))); (focus (exact rfl))))
    refine hk _ ?_ ?_ ?_
    · ((repeat (refine Sel2.put ?_ _ rfl rfl)); exact hS)
    · simp [Tri.gp, ht23]
    · simp [Tri.gp, ht24]
end Go.Ev.C
end
