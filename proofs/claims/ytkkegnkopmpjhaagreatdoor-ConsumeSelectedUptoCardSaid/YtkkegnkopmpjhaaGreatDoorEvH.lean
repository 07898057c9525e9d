/- Contracts of the functions that the law calls: copies. -/
import Derived.Test.YtkkegnkopmpjhaaGreatDoorEvG
import Derived.Test.YtkkegnkopmpjhaaGreatDoorEvF
section
set_option linter.unusedVariables false
set_option linter.unusedSimpArgs false
set_option linter.defProp false
set_option linter.all false
namespace Go.Ev.C
open Go.Proofs
set_option maxRecDepth 100000
set_option linter.unusedSimpArgs false
variable {L : World → Prop} [Good Q L]
theorem app35 (s x : AV) (H : AH) : appendU Q [35, 35] [s, x] H = (match newCells 1 x H with | some (n, cs) => appendTo 5 1 s n cs H | none => none) := by kernel_rfl
theorem app78 (s x : AV) (H : AH) : appendU Q [78, 78] [s, x] H = (match newCells 3 x H with | some (n, cs) => appendTo 87 3 s n cs H | none => none) := by kernel_rfl
theorem bs35 (t : Tri AV) : buildSliceN Q t 35 0 #[] = some (.cells 5 [] 0 false false, fun b => .slice b 0 0 (.is 0)) := by kernel_rfl
theorem bs78 (t : Tri AV) : buildSliceN Q t 78 0 #[] = some (.cells 87 [] 0 false false, fun b => .slice b 0 0 (.is 0)) := by kernel_rfl
theorem Up.own {H : AH} {b : Nat} (hb : H.next ≤ b) (o : Option AB) (m : Nat) (hm : H.next ≤ m) {t : Tri AB} (h : Up H ⟨t, m⟩) : Up H ⟨t.put b o, m⟩ :=
  ⟨hm, fun b' hb' => by show (t.put _ _).get b' = _; rw [Tri.gp, if_neg (by omega)]; exact h.old b' hb'⟩

theorem cloneB_c (H : AH) (dv : AV) (r : List AV) (hd : DataAt H dv r) (hn : r.length ≤ 100000000) : Fn Q L 102 [dv] H (fun v H' => Up H H' ∧ DataAt H' v r ∧ ∀ b off m cap, v = .slice b off m cap → H.next ≤ b) := by
  refine Fn.intro (en102 _) ?_
  have hs := hd.1
  unfold c102 Tryz.f102
  simp only [Option.getD_some]
  generalize hnr : r.length = n at hs hn
  cases hs with
  | nil =>
    obtain rfl := List.length_eq_zero_iff.1 hnr
    repeat (first | refine WF.seq ?_ | refine WF.regionL ?_ | refine WO.nil ?_ | refine WF.block ?_ | refine WF.skip ?_ | refine WF.endBlock ?_ | (apply WF.exit; (focus (exact rfl))) | (apply WO.op; (focus ((simp only [rO, wantedU, lay, li, lo, reduceIte, Nat.reduceEqDiff, Nat.reduceAdd, beq_self_eq_true]; done))); (focus (simp only [rE, rO, li, lo, lay, evalL, ofConst, storeU, AH.set, AV.cells, if_true, if_false, reduceIte, Nat.reduceEqDiff, Nat.reduceAdd, Nat.reduceMul, bin_eqlNil und35 SL.nil, gOk_eqlS _ _ _ SL.nil]; exact rfl)); (focus (exact rfl))) | (apply WO.unwanted; (focus ((simp only [rO, wantedU, lay, li, lo, reduceIte, Nat.reduceEqDiff, Nat.reduceAdd, beq_self_eq_true]; done))); (focus (exact rfl))))
    (first | (apply WF.condT; (focus (simp only [evalO, ofConst, Tri.gp, lay, Bool.not_true, Bool.not_false, reduceIte, Nat.reduceEqDiff]; done))) | (apply WF.condF; (focus (simp only [evalO, ofConst, Tri.gp, lay, Bool.not_true, Bool.not_false, reduceIte, Nat.reduceEqDiff]; done))))
    repeat (first | refine WF.seq ?_ | refine WF.regionL ?_ | refine WO.nil ?_ | refine WF.block ?_ | refine WF.skip ?_ | refine WF.endBlock ?_ | (apply WF.exit; (focus (exact rfl))) | (apply WO.op; (focus ((simp only [rO, wantedU, lay, li, lo, reduceIte, Nat.reduceEqDiff, Nat.reduceAdd, beq_self_eq_true]; done))); (focus (simp only [rE, rO, li, lo, lay, evalL, ofConst, storeU, AH.set, AV.cells, if_true, if_false, reduceIte, Nat.reduceEqDiff, Nat.reduceAdd, Nat.reduceMul]; exact rfl)); (focus (exact rfl))) | (apply WO.unwanted; (focus ((simp only [rO, wantedU, lay, li, lo, reduceIte, Nat.reduceEqDiff, Nat.reduceAdd, beq_self_eq_true]; done))); (focus (exact rfl))))
    (apply WF.ret; (focus (simp only [resultsU, Tri.gp, lay, resL, reduceIte, Nat.reduceEqDiff, rs102]; exact rfl)))
    exact ⟨Up.refl _, ⟨.nil, fun _ _ _ _ h => by cases h⟩, fun _ _ _ _ h => by cases h⟩
  | sl b off _ cap =>
    repeat (first | refine WF.seq ?_ | refine WF.regionL ?_ | refine WO.nil ?_ | refine WF.block ?_ | refine WF.skip ?_ | refine WF.endBlock ?_ | (apply WF.exit; (focus (exact rfl))) | (apply WO.op; (focus ((simp only [rO, wantedU, lay, li, lo, reduceIte, Nat.reduceEqDiff, Nat.reduceAdd, beq_self_eq_true]; done))); (focus (simp only [rE, rO, li, lo, lay, evalL, ofConst, storeU, AH.set, AV.cells, if_true, if_false, reduceIte, Nat.reduceEqDiff, Nat.reduceAdd, Nat.reduceMul, bin_eqlNil und35 (SL.sl b off n cap), gOk_eqlS _ _ _ (SL.sl b off n cap), bs35, buildSliceN]; exact rfl)); (focus (exact rfl))) | (apply WO.unwanted; (focus ((simp only [rO, wantedU, lay, li, lo, reduceIte, Nat.reduceEqDiff, Nat.reduceAdd, beq_self_eq_true]; done))); (focus (exact rfl))))
    (first | (apply WF.condT; (focus (simp only [evalO, ofConst, Tri.gp, lay, Bool.not_true, Bool.not_false, reduceIte, Nat.reduceEqDiff]; done))) | (apply WF.condF; (focus (simp only [evalO, ofConst, Tri.gp, lay, Bool.not_true, Bool.not_false, reduceIte, Nat.reduceEqDiff]; done))))
    by_cases h0 : n = 0
    · subst h0
      have ha : ∀ t : Tri AB, appendU Q [35, 35] [.slice H.next 0 0 (.is 0), .slice b off 0 cap] ⟨H.t.put H.next (some (.cells 5 [] 0 false false)), H.next + 1⟩ = some (.slice H.next 0 0 (.is 0), AH.set ⟨H.t.put H.next (some (.cells 5 [] 0 false false)), H.next + 1⟩ H.next (.cells 5 [] 0 false false)) := fun _ => by
        rw [app35, newCells_zero]
        exact appendTo_empty0 (by simp [Tri.gp])
      have ha := ha .leaf
      repeat (first | refine WF.seq ?_ | refine WF.regionL ?_ | refine WO.nil ?_ | refine WF.block ?_ | refine WF.skip ?_ | refine WF.endBlock ?_ | (apply WF.exit; (focus (exact rfl))) | (apply WO.op; (focus ((simp only [rO, wantedU, lay, li, lo, reduceIte, Nat.reduceEqDiff, Nat.reduceAdd, beq_self_eq_true]; done))); (focus (simp only [rE, rO, li, lo, lay, evalL, ofConst, storeU, AH.set, AV.cells, if_true, if_false, reduceIte, Nat.reduceEqDiff, Nat.reduceAdd, Nat.reduceMul, bs35, ha]; exact rfl)); (focus (exact rfl))) | (apply WO.unwanted; (focus ((simp only [rO, wantedU, lay, li, lo, reduceIte, Nat.reduceEqDiff, Nat.reduceAdd, beq_self_eq_true]; done))); (focus (exact rfl))))
      (apply WF.ret; (focus (simp only [resultsU, Tri.gp, lay, resL, reduceIte, Nat.reduceEqDiff, rs102]; exact rfl)))
      exact ⟨Up.box2 _ _ _, ⟨by rw [hnr]; exact .sl _ _ _ _, fun _ _ _ _ _ h => absurd (List.length_eq_zero_iff.1 hnr) h⟩, fun _ _ _ _ h => by cases h; exact Nat.le_refl _⟩
    · obtain ⟨c, hb, hc, hr, h1⟩ := hd.2 b off n cap rfl (by rintro rfl; exact h0 hnr.symm)
      rw [hnr] at hr
      have ha : appendU Q [35, 35] [.slice H.next 0 0 (.is 0), .slice b off n cap] ⟨H.t.put H.next (some (.cells 5 [] 0 false false)), H.next + 1⟩ = some (.slice (H.next + 1) 0 n (.up 1), ⟨(H.t.put H.next (some (.cells 5 [] 0 false false))).put (H.next + 1) (some (.cells 5 r 0 false false)), H.next + 1 + 1⟩) := by
        rw [app35, newCells_some (c := c) (cs := r) h0 (by rw [cellsAt_put, if_neg (by omega)]; exact hc) (by rw [Nat.mul_one]; exact hr)]
        exact appendTo_empty (c := []) (by rw [cellsAt_put, if_pos rfl]) h0 (by omega) h1
      repeat (first | refine WF.seq ?_ | refine WF.regionL ?_ | refine WO.nil ?_ | refine WF.block ?_ | refine WF.skip ?_ | refine WF.endBlock ?_ | (apply WF.exit; (focus (exact rfl))) | (apply WO.op; (focus ((simp only [rO, wantedU, lay, li, lo, reduceIte, Nat.reduceEqDiff, Nat.reduceAdd, beq_self_eq_true]; done))); (focus (simp only [rE, rO, li, lo, lay, evalL, ofConst, storeU, AH.set, AV.cells, if_true, if_false, reduceIte, Nat.reduceEqDiff, Nat.reduceAdd, Nat.reduceMul, bs35, ha]; exact rfl)); (focus (exact rfl))) | (apply WO.unwanted; (focus ((simp only [rO, wantedU, lay, li, lo, reduceIte, Nat.reduceEqDiff, Nat.reduceAdd, beq_self_eq_true]; done))); (focus (exact rfl))))
      (apply WF.ret; (focus (simp only [resultsU, Tri.gp, lay, resL, reduceIte, Nat.reduceEqDiff, rs102]; exact rfl)))
      have hlen := (cut_iff.1 hr).1
      refine ⟨(Up.box H _).trans (Up.box _ _), ⟨by rw [hnr]; exact .sl _ _ _ _, fun b' off' m' cap' e _ => ?_⟩, fun _ _ _ _ h => by cases h; exact Nat.le_succ _⟩
      cases e
      exact ⟨r, by simp, by rw [cellsAt_put, if_pos rfl], by rw [hnr]; exact cut_self hlen (cut_all hr), h1⟩
end Go.Ev.C
end
section
set_option linter.unusedVariables false
set_option linter.unusedSimpArgs false
set_option linter.defProp false
set_option linter.all false
namespace Go.Ev.C
open Go.Proofs
set_option maxRecDepth 100000
set_option linter.unusedSimpArgs false
variable {L : World → Prop} [Good Q L]
theorem rows_all {c : List AV} {n k : Nat} (hlen : c.length = n * k) (h : ∀ i, i < n → ∃ r, cut c (i * k) k = some r ∧ r.all oneA = true) : c.all oneA = true := by
  refine List.all_eq_true.2 fun v hv => ?_
  obtain ⟨j, hj, rfl⟩ := List.mem_iff_getElem.1 hv
  have hk : 0 < k := by
    rcases Nat.eq_zero_or_pos k with rfl | h0
    · rw [hlen, Nat.mul_zero] at hj; omega
    · exact h0
  obtain ⟨r, hr, h1⟩ := h (j / k) ((Nat.div_lt_iff_lt_mul hk).2 (by rw [← hlen]; exact hj))
  obtain ⟨w, k1, _, k3⟩ := (cut_iff.1 hr).2 (j % k) (Nat.mod_lt _ hk)
  have hjk := Nat.div_add_mod' j k
  rw [hjk] at k1
  rw [List.getElem?_eq_getElem hj] at k1
  cases k1
  exact List.all_eq_true.1 h1 _ (List.mem_of_getElem? k3)

/-- Rows of records, one behind the other. -/
def Rows (H : AH) (c : List AV) (l : List RecD) : Prop := c.length = l.length * 3 ∧ c.all oneA = true ∧ c.all noHole = true ∧ ∀ (i : Nat) (d : RecD), l[i]? = some d → ∃ dv, DataAt H dv d.r ∧ cut c (i * 3) 3 = some [.int .i64 d.id, .int .i64 d.tm, dv]
theorem Rows.up {H H' : AH} (u : Up H H') {c : List AV} {l : List RecD} (h : Rows H c l) : Rows H' c l :=
  ⟨h.1, h.2.1, h.2.2.1, fun i d hi => by obtain ⟨dv, hd, hc⟩ := h.2.2.2 i d hi; exact ⟨dv, hd.up u, hc⟩⟩
theorem Rows.nil (H : AH) : Rows H [] [] := ⟨rfl, rfl, rfl, fun i d h => by simp at h⟩
theorem Rows.append {H : AH} {c c' : List AV} {l l' : List RecD} (h : Rows H c l) (h' : Rows H c' l') : Rows H (c ++ c') (l ++ l') := by
  obtain ⟨h1, h2, h3, h4⟩ := h
  obtain ⟨k1, k2, k3, k4⟩ := h'
  refine ⟨by simp [h1, k1, Nat.add_mul], by rw [List.all_append, h2, k2]; rfl, by rw [List.all_append, h3, k3]; rfl, fun i d hi => ?_⟩
  by_cases hil : i < l.length
  · rw [List.getElem?_append_left hil] at hi
    obtain ⟨dv, hd, hc⟩ := h4 i d hi
    exact ⟨dv, hd, cut_append_left hc⟩
  · rw [List.getElem?_append_right (by omega)] at hi
    obtain ⟨dv, hd, hc⟩ := k4 _ d hi
    refine ⟨dv, hd, ?_⟩
    have := cut_append_right (c := c) hc
    rw [h1, ← Nat.add_mul, show l.length + (i - l.length) = i from by omega] at this
    exact this
/-- A list of the run's own. -/
def OwnRecs (H : AH) (b : Nat) (l : List RecD) : Prop := ∃ c, H.t.get b = some (.cells 87 c 0 false false) ∧ b < H.next ∧ Rows H c l
theorem OwnRecs.recs {H : AH} {b : Nat} {l : List RecD} (h : OwnRecs H b l) (cap : Cap) : RecsAt H (.slice b 0 l.length cap) l := by
  obtain ⟨c, hg, hb, h1, h2, h3, h4⟩ := h
  refine ⟨.sl _ _ _ _, fun b' off n cap' e _ => ?_⟩
  cases e
  exact ⟨c, hb, by unfold AH.cellsAt; rw [hg], fun i d hi => by rw [Nat.zero_add]; exact h4 i d hi⟩
theorem RecsAt.rows {H : AH} {b off n : Nat} {cap : Cap} {l : List RecD} (h : RecsAt H (.slice b off n cap) l) (hne : l ≠ []) : n = l.length ∧ ∃ c cs, b < H.next ∧ H.cellsAt b = some c ∧ cut c off (l.length * 3) = some cs ∧ Rows H cs l := by
  obtain ⟨hs, h2⟩ := h
  obtain ⟨c, hb, hc, hr⟩ := h2 b off n cap rfl hne
  obtain ⟨cs, h3, h4⟩ := cut_rows (c := c) (off := off) (n := l.length) (k := 3) fun i hi => by
    obtain ⟨dv, _, hcut⟩ := hr i l[i] (List.getElem?_eq_getElem hi)
    exact ⟨_, hcut⟩
  have h5 : ∀ (i : Nat) (d : RecD), l[i]? = some d → ∃ dv, DataAt H dv d.r ∧ cut cs (i * 3) 3 = some [.int .i64 d.id, .int .i64 d.tm, dv] := fun i d hi => by
    obtain ⟨dv, hd, hcut⟩ := hr i d hi
    exact ⟨dv, hd, by rw [h4 i (List.getElem?_eq_some_iff.1 hi).1]; exact hcut⟩
  refine ⟨by generalize hn : l.length = m at hs; cases hs; rfl, c, cs, hb, hc, h3, (cut_iff.1 h3).1, ?_, cut_all h3, h5⟩
  refine rows_all (cut_iff.1 h3).1 fun i hi => ?_
  obtain ⟨dv, hd, hcut⟩ := h5 i l[i] (List.getElem?_eq_getElem hi)
  exact ⟨_, hcut, by simp [one_int, hd.1.one]⟩

/-- A copy: nil or empty, or a list of the run's own. -/
def Copied (H : AH) (H' : AH) (v : AV) (l : List RecD) : Prop := (l = [] ∧ (v = .nilslice ∨ ∃ b, v = .slice b 0 0 (.is 0))) ∨ (l ≠ [] ∧ ∃ b, H.next ≤ b ∧ v = .slice b 0 l.length (.up 3) ∧ ∃ c, H'.t.get b = some (.cells 87 c 0 false false) ∧ b < H'.next ∧ Rows H c l)

theorem cloneR_c (H : AH) (rv : AV) (l : List RecD) (hr : RecsAt H rv l) (hn : l.length ≤ 100000000) : Fn Q L 101 [rv] H (fun v H' => Up H H' ∧ Copied H H' v l) := by
  refine Fn.intro (en101 _) ?_
  have hs := hr.1
  unfold c101 Tryz.f101
  simp only [Option.getD_some]
  generalize hnl : l.length = n at hs
  cases hs with
  | nil =>
    repeat (first | refine WF.seq ?_ | refine WF.regionL ?_ | refine WO.nil ?_ | refine WF.block ?_ | refine WF.skip ?_ | refine WF.endBlock ?_ | (apply WF.exit; (focus (exact rfl))) | (apply WO.op; (focus ((simp only [rO, wantedU, lay, li, lo, reduceIte, Nat.reduceEqDiff, Nat.reduceAdd, beq_self_eq_true]; done))); (focus (simp only [rE, rO, li, lo, lay, evalL, ofConst, storeU, AH.set, AV.cells, if_true, if_false, reduceIte, Nat.reduceEqDiff, Nat.reduceAdd, Nat.reduceMul, bin_eqlNil und78 SL.nil, gOk_eqlS _ _ _ SL.nil]; exact rfl)); (focus (exact rfl))) | (apply WO.unwanted; (focus ((simp only [rO, wantedU, lay, li, lo, reduceIte, Nat.reduceEqDiff, Nat.reduceAdd, beq_self_eq_true]; done))); (focus (exact rfl))))
    (first | (apply WF.condT; (focus (simp only [evalO, ofConst, Tri.gp, lay, Bool.not_true, Bool.not_false, reduceIte, Nat.reduceEqDiff]; done))) | (apply WF.condF; (focus (simp only [evalO, ofConst, Tri.gp, lay, Bool.not_true, Bool.not_false, reduceIte, Nat.reduceEqDiff]; done))))
    repeat (first | refine WF.seq ?_ | refine WF.regionL ?_ | refine WO.nil ?_ | refine WF.block ?_ | refine WF.skip ?_ | refine WF.endBlock ?_ | (apply WF.exit; (focus (exact rfl))) | (apply WO.op; (focus ((simp only [rO, wantedU, lay, li, lo, reduceIte, Nat.reduceEqDiff, Nat.reduceAdd, beq_self_eq_true]; done))); (focus (simp only [rE, rO, li, lo, lay, evalL, ofConst, storeU, AH.set, AV.cells, if_true, if_false, reduceIte, Nat.reduceEqDiff, Nat.reduceAdd, Nat.reduceMul]; exact rfl)); (focus (exact rfl))) | (apply WO.unwanted; (focus ((simp only [rO, wantedU, lay, li, lo, reduceIte, Nat.reduceEqDiff, Nat.reduceAdd, beq_self_eq_true]; done))); (focus (exact rfl))))
    (apply WF.ret; (focus (simp only [resultsU, Tri.gp, lay, resL, reduceIte, Nat.reduceEqDiff, rs101]; exact rfl)))
    exact ⟨Up.refl _, .inl ⟨List.length_eq_zero_iff.1 hnl, .inl rfl⟩⟩
  | sl b off _ cap =>
    repeat (first | refine WF.seq ?_ | refine WF.regionL ?_ | refine WO.nil ?_ | refine WF.block ?_ | refine WF.skip ?_ | refine WF.endBlock ?_ | (apply WF.exit; (focus (exact rfl))) | (apply WO.op; (focus ((simp only [rO, wantedU, lay, li, lo, reduceIte, Nat.reduceEqDiff, Nat.reduceAdd, beq_self_eq_true]; done))); (focus (simp only [rE, rO, li, lo, lay, evalL, ofConst, storeU, AH.set, AV.cells, if_true, if_false, reduceIte, Nat.reduceEqDiff, Nat.reduceAdd, Nat.reduceMul, bin_eqlNil und78 (SL.sl b off n cap), gOk_eqlS _ _ _ (SL.sl b off n cap), bs78, buildSliceN]; exact rfl)); (focus (exact rfl))) | (apply WO.unwanted; (focus ((simp only [rO, wantedU, lay, li, lo, reduceIte, Nat.reduceEqDiff, Nat.reduceAdd, beq_self_eq_true]; done))); (focus (exact rfl))))
    (first | (apply WF.condT; (focus (simp only [evalO, ofConst, Tri.gp, lay, Bool.not_true, Bool.not_false, reduceIte, Nat.reduceEqDiff]; done))) | (apply WF.condF; (focus (simp only [evalO, ofConst, Tri.gp, lay, Bool.not_true, Bool.not_false, reduceIte, Nat.reduceEqDiff]; done))))
    by_cases h0 : n = 0
    · subst h0
      have ha : appendU Q [78, 78] [.slice H.next 0 0 (.is 0), .slice b off 0 cap] ⟨H.t.put H.next (some (.cells 87 [] 0 false false)), H.next + 1⟩ = some (.slice H.next 0 0 (.is 0), AH.set ⟨H.t.put H.next (some (.cells 87 [] 0 false false)), H.next + 1⟩ H.next (.cells 87 [] 0 false false)) := by
        rw [app78, newCells_zero]
        exact appendTo_empty0 (by simp [Tri.gp])
      repeat (first | refine WF.seq ?_ | refine WF.regionL ?_ | refine WO.nil ?_ | refine WF.block ?_ | refine WF.skip ?_ | refine WF.endBlock ?_ | (apply WF.exit; (focus (exact rfl))) | (apply WO.op; (focus ((simp only [rO, wantedU, lay, li, lo, reduceIte, Nat.reduceEqDiff, Nat.reduceAdd, beq_self_eq_true]; done))); (focus (simp only [rE, rO, li, lo, lay, evalL, ofConst, storeU, AH.set, AV.cells, if_true, if_false, reduceIte, Nat.reduceEqDiff, Nat.reduceAdd, Nat.reduceMul, bs78, ha]; exact rfl)); (focus (exact rfl))) | (apply WO.unwanted; (focus ((simp only [rO, wantedU, lay, li, lo, reduceIte, Nat.reduceEqDiff, Nat.reduceAdd, beq_self_eq_true]; done))); (focus (exact rfl))))
      (apply WF.ret; (focus (simp only [resultsU, Tri.gp, lay, resL, reduceIte, Nat.reduceEqDiff, rs101]; exact rfl)))
      exact ⟨Up.box2 _ _ _, .inl ⟨List.length_eq_zero_iff.1 hnl, .inr ⟨_, rfl⟩⟩⟩
    · have hne : l ≠ [] := by rintro rfl; exact h0 hnl.symm
      obtain ⟨_, c, cs, hb, hc, hcut, hrow⟩ := hr.rows hne
      rw [hnl] at hcut
      have ha : appendU Q [78, 78] [.slice H.next 0 0 (.is 0), .slice b off n cap] ⟨H.t.put H.next (some (.cells 87 [] 0 false false)), H.next + 1⟩ = some (.slice (H.next + 1) 0 n (.up 3), ⟨(H.t.put H.next (some (.cells 87 [] 0 false false))).put (H.next + 1) (some (.cells 87 cs 0 false false)), H.next + 1 + 1⟩) := by
        rw [app78, newCells_some (c := c) (cs := cs) h0 (by rw [cellsAt_put, if_neg (by omega)]; exact hc) hcut]
        exact appendTo_empty (c := []) (by rw [cellsAt_put, if_pos rfl]) h0 (by omega) hrow.2.1
      repeat (first | refine WF.seq ?_ | refine WF.regionL ?_ | refine WO.nil ?_ | refine WF.block ?_ | refine WF.skip ?_ | refine WF.endBlock ?_ | (apply WF.exit; (focus (exact rfl))) | (apply WO.op; (focus ((simp only [rO, wantedU, lay, li, lo, reduceIte, Nat.reduceEqDiff, Nat.reduceAdd, beq_self_eq_true]; done))); (focus (simp only [rE, rO, li, lo, lay, evalL, ofConst, storeU, AH.set, AV.cells, if_true, if_false, reduceIte, Nat.reduceEqDiff, Nat.reduceAdd, Nat.reduceMul, bs78, ha]; exact rfl)); (focus (exact rfl))) | (apply WO.unwanted; (focus ((simp only [rO, wantedU, lay, li, lo, reduceIte, Nat.reduceEqDiff, Nat.reduceAdd, beq_self_eq_true]; done))); (focus (exact rfl))))
      (apply WF.ret; (focus (simp only [resultsU, Tri.gp, lay, resL, reduceIte, Nat.reduceEqDiff, rs101]; exact rfl)))
      have hu : Up H ⟨(H.t.put H.next (some (.cells 87 [] 0 false false))).put (H.next + 1) (some (.cells 87 cs 0 false false)), H.next + 1 + 1⟩ := (Up.box H _).trans (Up.box _ _)
      refine ⟨hu, .inr ⟨hne, H.next + 1, by omega, by rw [hnl], cs, by simp [Tri.gp], by simp, hrow⟩⟩
end Go.Ev.C
end
section
set_option linter.unusedVariables false
set_option linter.unusedSimpArgs false
set_option linter.defProp false
set_option linter.all false
namespace Go.Ev.C
open Go.Proofs
set_option maxRecDepth 100000
set_option linter.unusedSimpArgs false
variable {L : World → Prop} [Good Q L]
theorem over_get {c vs c' : List AV} {off : Nat} (h : over c off vs = some c') : c'.length = c.length ∧ ∀ j, c'[j]? = if off ≤ j ∧ j < off + vs.length then vs[j - off]? else c[j]? := by
  obtain ⟨hle, _, rfl⟩ := over_some h
  refine ⟨by simp; omega, fun j => ?_⟩
  rw [List.append_assoc, List.getElem?_append]
  simp only [List.length_take]
  rw [Nat.min_eq_left (by omega)]
  by_cases h1 : j < off
  · rw [if_pos h1, if_neg (by omega), List.getElem?_take, if_pos h1]
  · rw [if_neg h1, List.getElem?_append]
    by_cases h2 : j - off < vs.length
    · rw [if_pos h2, if_pos (by omega)]
    · rw [if_neg h2, if_neg (by omega), List.getElem?_drop, show off + vs.length + (j - off - vs.length) = j from by omega]
/-- Data that lie elsewhere. -/
def DataNe (H : AH) (b : Nat) (v : AV) (r : List AV) : Prop := SL v r.length ∧ ∀ b' off m cap, v = .slice b' off m cap → r ≠ [] → b' ≠ b ∧ ∃ c, b' < H.next ∧ H.cellsAt b' = some c ∧ cut c off r.length = some r ∧ r.all oneA = true
theorem DataNe.data {H : AH} {b : Nat} {v : AV} {r : List AV} (h : DataNe H b v r) : DataAt H v r := ⟨h.1, fun b' off m cap e hn => (h.2 b' off m cap e hn).2⟩
theorem DataNe.up {H H' : AH} (u : Up H H') {b : Nat} {v : AV} {r : List AV} (h : DataNe H b v r) : DataNe H' b v r :=
  ⟨h.1, fun b' off m cap e hn => by
    obtain ⟨h1, c, hb, hc, hr⟩ := h.2 b' off m cap e hn
    exact ⟨h1, c, Nat.lt_of_lt_of_le hb u.next, by rw [u.cellsAt hb]; exact hc, hr⟩⟩
theorem DataNe.set {H : AH} {b : Nat} {B : AB} {v : AV} {r : List AV} (h : DataNe H b v r) : DataNe (H.set b B) b v r :=
  ⟨h.1, fun b' off m cap e hn => by
    obtain ⟨h1, c, hb, hc, hr⟩ := h.2 b' off m cap e hn
    refine ⟨h1, c, hb, ?_, hr⟩
    unfold AH.cellsAt AH.set at *
    dsimp only
    rw [Tri.gp, if_neg h1]
    exact hc⟩
/-- Records whose memory was made behind a mark. -/
def DataFrom (lo : Nat) (H : AH) (v : AV) (r : List AV) : Prop := SL v r.length ∧ ∀ b' off m cap, v = .slice b' off m cap → r ≠ [] → lo ≤ b' ∧ ∃ c, b' < H.next ∧ H.cellsAt b' = some c ∧ cut c off r.length = some r ∧ r.all oneA = true
def RecsFrom (lo : Nat) (H : AH) (v : AV) (l : List RecD) : Prop := SL v l.length ∧ ∀ b off n cap, v = .slice b off n cap → l ≠ [] → ∃ c, lo ≤ b ∧ b < H.next ∧ H.cellsAt b = some c ∧ ∀ (i : Nat) (d : RecD), l[i]? = some d → ∃ dv, DataFrom lo H dv d.r ∧ cut c (off + i * 3) 3 = some [.int .i64 d.id, .int .i64 d.tm, dv]
theorem set_cellsAt {H : AH} {b m : Nat} {B : AB} (h : b ≠ m) : (H.set m B).cellsAt b = H.cellsAt b := by
  unfold AH.cellsAt AH.set
  dsimp only
  rw [Tri.gp, if_neg h]
theorem RecsFrom.set {lo m : Nat} {H : AH} {v : AV} {l : List RecD} (h : RecsFrom lo H v l) (hm : m < lo) (B : AB) : RecsAt (H.set m B) v l :=
  ⟨h.1, fun b off n cap e hn => by
    obtain ⟨c, h1, h2, h3, h4⟩ := h.2 b off n cap e hn
    refine ⟨c, h2, by rw [set_cellsAt (by omega)]; exact h3, fun i d hi => ?_⟩
    obtain ⟨dv, hd, hc⟩ := h4 i d hi
    refine ⟨dv, ⟨hd.1, fun b' off m' cap e hn => ?_⟩, hc⟩
    obtain ⟨k1, c', k2, k3, k4⟩ := hd.2 b' off m' cap e hn
    exact ⟨c', k2, by rw [set_cellsAt (by omega)]; exact k3, k4⟩⟩
/-- A list of the run's own: the data of the first i records were made behind a mark. -/
def OwnNe (lo i : Nat) (H : AH) (b : Nat) (l : List RecD) : Prop := ∃ c, H.t.get b = some (.cells 87 c 0 false false) ∧ b < H.next ∧ c.length = l.length * 3 ∧ ∀ (j : Nat) (d : RecD), l[j]? = some d → ∃ dv, DataNe H b dv d.r ∧ (j < i → ∀ b' off m cap, dv = .slice b' off m cap → lo ≤ b') ∧ cut c (j * 3) 3 = some [.int .i64 d.id, .int .i64 d.tm, dv]
theorem OwnNe.recs {lo : Nat} {H : AH} {b : Nat} {l : List RecD} (h : OwnNe lo l.length H b l) (hb0 : lo ≤ b) (cap : Cap) : RecsFrom lo H (.slice b 0 l.length cap) l := by
  obtain ⟨c, hg, hb, h1, h4⟩ := h
  refine ⟨.sl _ _ _ _, fun b' off n cap' e _ => ?_⟩
  cases e
  refine ⟨c, hb0, hb, by unfold AH.cellsAt; rw [hg], fun i d hi => ?_⟩
  obtain ⟨dv, hd, hlo, hc⟩ := h4 i d hi
  exact ⟨dv, ⟨hd.1, fun b' off m cap e hn => ⟨hlo (List.getElem?_eq_some_iff.1 hi).1 b' off m cap e, (hd.2 b' off m cap e hn).2⟩⟩, by rw [Nat.zero_add]; exact hc⟩
/-- A record's data are put in another place. -/
theorem OwnNe.put {lo : Nat} {H H1 : AH} {b : Nat} {l : List RecD} {i : Nat} (h : OwnNe lo i H b l) (hlo : lo ≤ H.next) (hi : i < l.length) (hu : Up H H1) {v : AV} (hv : DataAt H1 v l[i].r) (hnew : ∀ b' off m cap, v = .slice b' off m cap → H.next ≤ b') :
    ∃ c c', H1.t.get b = some (.cells 87 c 0 false false) ∧ over c (i * 3 + 2) [v] = some c' ∧ OwnNe lo (i + 1) (H1.set b (.cells 87 c' 0 false false)) b l := by
  obtain ⟨c, hg, hb, h1, h4⟩ := h
  have hone := hv.1.one
  have hov : over c (i * 3 + 2) [v] = some (c.take (i * 3 + 2) ++ [v] ++ c.drop (i * 3 + 2 + 1)) := by
    unfold over
    rw [if_pos]
    · rfl
    · simp [hone]; omega
  refine ⟨c, _, by rw [hu.old b hb]; exact hg, hov, _, by unfold AH.set; rw [Tri.gp, if_pos rfl], Nat.lt_of_lt_of_le hb hu.next, by rw [(over_get hov).1]; exact h1, fun j d hj => ?_⟩
  obtain ⟨dv, hd, hlod, hcut⟩ := h4 j d hj
  obtain ⟨hl, hget⟩ := over_get hov
  obtain ⟨k1, k2⟩ := cut_iff.1 hcut
  by_cases e : j = i
  · subst e
    have hdj : d = l[j] := by rw [List.getElem?_eq_getElem hi] at hj; exact (Option.some.inj hj).symm
    subst hdj
    refine ⟨v, DataNe.set ⟨hv.1, fun b' off m cap e hn => ⟨by have := hnew b' off m cap e; omega, hv.2 b' off m cap e hn⟩⟩, fun _ b' off m cap e => Nat.le_trans hlo (hnew b' off m cap e), cut_iff.2 ⟨rfl, fun q hq => ?_⟩⟩
    rw [hget]
    rcases Nat.lt_or_ge q 2 with h2 | h2
    · obtain ⟨w, p1, p2, p3⟩ := k2 q hq
      refine ⟨w, by rw [if_neg (by omega)]; exact p1, p2, ?_⟩
      rcases (show q = 0 ∨ q = 1 from by omega) with rfl | rfl <;> exact p3
    · obtain rfl : q = 2 := by omega
      exact ⟨v, by rw [if_pos (by simp)]; simp, hv.1.solid, rfl⟩
  · refine ⟨dv, (hd.up hu).set, fun hji => hlod (by omega), cut_iff.2 ⟨k1, fun q hq => ?_⟩⟩
    obtain ⟨w, p1, p2, p3⟩ := k2 q hq
    refine ⟨w, ?_, p2, p3⟩
    rw [hget, if_neg (by simp; omega)]
    exact p1
theorem OwnNe.at {lo i0 : Nat} {H : AH} {b : Nat} {l : List RecD} (h : OwnNe lo i0 H b l) {i : Nat} (hi : i < l.length) : ∃ c dv, H.cellsAt b = some c ∧ DataAt H dv l[i].r ∧ c[i * 3 + 2]? = some dv := by
  obtain ⟨c, hg, hb, h1, h4⟩ := h
  obtain ⟨dv, hd, _, hcut⟩ := h4 i _ (List.getElem?_eq_getElem hi)
  obtain ⟨w, p1, _, p3⟩ := (cut_iff.1 hcut).2 2 (by omega)
  cases p3
  exact ⟨c, dv, by unfold AH.cellsAt; rw [hg], hd.data, p1⟩

theorem store35 {H : AH} {b off : Nat} {c c' : List AV} {v : AV} {n : Nat} (hs : SL v n) (hg : H.t.get b = some (.cells 87 c 0 false false)) (ho : over c off [v] = some c') : storeU Q 35 b off v H = some (H.set b (.cells 87 c' 0 false false)) := by
  unfold storeU
  rw [hg, sz35]
  have hv : v.cells = [v] := by cases hs <;> rfl
  simp [hv, ho]

theorem copies_c (H : AH) (rv : AV) (l : List RecD) (hr : RecsAt H rv l) (hn : l.length ≤ 100000000) (hd : ∀ d ∈ l, d.n ≤ 100000000) : Fn Q L 60 [rv] H (fun v H' => Up H H' ∧ ((l = [] ∧ SL v 0) ∨ (l ≠ [] ∧ ∃ b, v = .slice b 0 l.length (.up 3) ∧ H.next ≤ b ∧ OwnNe H.next l.length H' b l))) := by
  refine Fn.intro (en60 _) ?_
  unfold c60 Tryz.f60
  simp only [Option.getD_some]
  repeat (first | refine WF.seq ?_ | refine WF.regionL ?_ | refine WO.nil ?_ | refine WF.block ?_ | refine WF.skip ?_ | refine WF.endBlock ?_ | (apply WF.exit; (focus (exact rfl))) | (apply WO.op; (focus ((simp only [rO, wantedU, lay, li, lo, reduceIte, Nat.reduceEqDiff, Nat.reduceAdd, beq_self_eq_true]; done))); (focus (simp only [rE, rO, li, lo, lay, evalL, ofConst, storeU, AH.set, AV.cells, if_true, if_false, reduceIte, Nat.reduceEqDiff, Nat.reduceAdd, Nat.reduceMul]; exact rfl)); (focus (exact rfl))) | (apply WO.unwanted; (focus ((simp only [rO, wantedU, lay, li, lo, reduceIte, Nat.reduceEqDiff, Nat.reduceAdd, beq_self_eq_true]; done))); (focus (exact rfl))))
  (apply WO.call; (focus ((simp only [rO, wantedU, lay, li, lo, reduceIte, Nat.reduceEqDiff, Nat.reduceAdd, beq_self_eq_true]; done))); (focus (simp only [rE, rO, li, lo, lay, evalL, ofConst, storeU, AH.set, AV.cells, if_true, if_false, reduceIte, Nat.reduceEqDiff, Nat.reduceAdd, Nat.reduceMul, cu101]; exact rfl)); (focus (exact cloneR_c _ _ _ hr hn)); rintro v H1 ⟨hu, hv⟩; refine ⟨_, rfl, ?_⟩)
  have hvs : SL v l.length := by
    rcases hv with ⟨rfl, rfl | ⟨b, rfl⟩⟩ | ⟨_, b, _, rfl, _⟩ <;> constructor
  repeat (first | refine WF.seq ?_ | refine WF.regionL ?_ | refine WO.nil ?_ | refine WF.block ?_ | refine WF.skip ?_ | refine WF.endBlock ?_ | (apply WF.exit; (focus (exact rfl))) | (apply WO.op; (focus ((simp only [rO, wantedU, lay, li, lo, reduceIte, Nat.reduceEqDiff, Nat.reduceAdd, beq_self_eq_true]; done))); (focus (simp only [rE, rO, li, lo, lay, evalL, ofConst, storeU, AH.set, AV.cells, if_true, if_false, reduceIte, Nat.reduceEqDiff, Nat.reduceAdd, Nat.reduceMul, len_SL und78 hvs]; exact rfl)); (focus (exact rfl))) | (apply WO.unwanted; (focus ((simp only [rO, wantedU, lay, li, lo, reduceIte, Nat.reduceEqDiff, Nat.reduceAdd, beq_self_eq_true]; done))); (focus (exact rfl))))
  rcases hv with ⟨rfl, hv⟩ | ⟨hne, b, hb, rfl, hown⟩
  · have d0 : decide ((0 : Int) < ((([] : List RecD).length : Nat) : Int)) = false := by decide
    refine WF.loop ?_
    repeat (first | refine WF.seq ?_ | refine WF.regionL ?_ | refine WO.nil ?_ | refine WF.block ?_ | refine WF.skip ?_ | refine WF.endBlock ?_ | (apply WF.exit; (focus (exact rfl))) | (apply WO.op; (focus ((simp only [rO, wantedU, lay, li, lo, reduceIte, Nat.reduceEqDiff, Nat.reduceAdd, beq_self_eq_true, d0]; done))); (focus (simp only [rE, rO, li, lo, lay, evalL, ofConst, storeU, AH.set, AV.cells, if_true, if_false, reduceIte, Nat.reduceEqDiff, Nat.reduceAdd, Nat.reduceMul, d0]; exact rfl)); (focus (exact rfl))) | (apply WO.unwanted; (focus ((simp only [rO, wantedU, lay, li, lo, reduceIte, Nat.reduceEqDiff, Nat.reduceAdd, beq_self_eq_true, d0]; done))); (focus (exact rfl))))
    (first | (apply WF.condT; (focus (simp only [evalO, ofConst, Tri.gp, lay, Bool.not_true, Bool.not_false, reduceIte, Nat.reduceEqDiff, d0]; done))) | (apply WF.condF; (focus (simp only [evalO, ofConst, Tri.gp, lay, Bool.not_true, Bool.not_false, reduceIte, Nat.reduceEqDiff, d0]; done))))
    repeat (first | refine WF.seq ?_ | refine WF.regionL ?_ | refine WO.nil ?_ | refine WF.block ?_ | refine WF.skip ?_ | refine WF.endBlock ?_ | (apply WF.exit; (focus (exact rfl))) | (apply WO.op; (focus ((simp only [rO, wantedU, lay, li, lo, reduceIte, Nat.reduceEqDiff, Nat.reduceAdd, beq_self_eq_true]; done))); (focus (simp only [rE, rO, li, lo, lay, evalL, ofConst, storeU, AH.set, AV.cells, if_true, if_false, reduceIte, Nat.reduceEqDiff, Nat.reduceAdd, Nat.reduceMul]; exact rfl)); (focus (exact rfl))) | (apply WO.unwanted; (focus ((simp only [rO, wantedU, lay, li, lo, reduceIte, Nat.reduceEqDiff, Nat.reduceAdd, beq_self_eq_true]; done))); (focus (exact rfl))))
    (apply WF.ret; (focus (simp only [resultsU, Tri.gp, lay, resL, reduceIte, Nat.reduceEqDiff, rs60]; exact rfl)))
    exact ⟨hu, .inl ⟨rfl, hvs⟩⟩
  · have hown0 : OwnNe H.next 0 H1 b l := by
      obtain ⟨c, hg, hb1, h1, h2, h3, h4⟩ := hown
      refine ⟨c, hg, hb1, h1, fun i d hi => ?_⟩
      obtain ⟨dv, hdd, hcut⟩ := h4 i d hi
      refine ⟨dv, ⟨hdd.1, fun b' off m cap e hn0 => ?_⟩, fun h => by omega, hcut⟩
      obtain ⟨_, hlt, _⟩ := hdd.2 b' off m cap e hn0
      exact ⟨by omega, (hdd.up hu).2 b' off m cap e hn0⟩
    refine WF.while (fun m t H' => ∃ i : Nat, Up H H' ∧ i + m = l.length ∧ OwnNe H.next i H' b l ∧ t.get 0 = some (.slice b 0 l.length (.up 3)) ∧ t.get 7 = some (.int .i64 (l.length : Int)) ∧ t.get 8 = some (.int .i64 (i : Int))) l.length ?_ ?_
    · refine ⟨0, hu, by omega, hown0, ?_, ?_, ?_⟩ <;> simp [Tri.gp, lay]
    rintro m t H' ⟨i, hu', him, hown', ht0, ht7, ht8⟩ ih
    by_cases hi : i < l.length
    · have hlt : decide ((i : Int) < (l.length : Int)) = true := by simp; omega
      obtain ⟨c, dv, hc, hdd, hcell⟩ := hown'.at hi
      have hsol := hdd.1.solid
      repeat (first | refine WF.seq ?_ | refine WF.regionL ?_ | refine WO.nil ?_ | refine WF.block ?_ | refine WF.skip ?_ | refine WF.endBlock ?_ | (apply WF.exit; (focus (exact rfl))) | (apply WO.op; (focus ((simp only [rO, wantedU, lay, li, lo, reduceIte, Nat.reduceEqDiff, Nat.reduceAdd, beq_self_eq_true, hlt]; done))); (focus (simp only [rE, rO, li, lo, lay, evalL, ofConst, storeU, AH.set, AV.cells, if_true, if_false, reduceIte, Nat.reduceEqDiff, Nat.reduceAdd, Nat.reduceMul, und78, ht0, ht7, ht8, hlt]; exact rfl)); (focus (exact rfl))) | (apply WO.unwanted; (focus ((simp only [rO, wantedU, lay, li, lo, reduceIte, Nat.reduceEqDiff, Nat.reduceAdd, beq_self_eq_true, hlt]; done))); (focus (exact rfl))))
      (first | (apply WF.condT; (focus (simp only [evalO, ofConst, Tri.gp, lay, Bool.not_true, Bool.not_false, reduceIte, Nat.reduceEqDiff, hlt]; done))) | (apply WF.condF; (focus (simp only [evalO, ofConst, Tri.gp, lay, Bool.not_true, Bool.not_false, reduceIte, Nat.reduceEqDiff, hlt]; done))))
      repeat (first | refine WF.seq ?_ | refine WF.regionL ?_ | refine WO.nil ?_ | refine WF.block ?_ | refine WF.skip ?_ | refine WF.endBlock ?_ | (apply WF.exit; (focus (exact rfl))) | (apply WO.op; (focus ((simp only [rO, wantedU, lay, li, lo, reduceIte, Nat.reduceEqDiff, Nat.reduceAdd, beq_self_eq_true, hlt]; done))); (focus (simp only [rE, rO, li, lo, lay, evalL, ofConst, storeU, AH.set, AV.cells, if_true, if_false, reduceIte, Nat.reduceEqDiff, Nat.reduceAdd, Nat.reduceMul, und78, ht0, ht7, ht8, hlt, index_SL und78 sz87 hi, fa87_2, loadVar_one agg35, hc, hcell, hsol]; exact rfl)); (focus (exact rfl))) | (apply WO.unwanted; (focus ((simp only [rO, wantedU, lay, li, lo, reduceIte, Nat.reduceEqDiff, Nat.reduceAdd, beq_self_eq_true, hlt]; done))); (focus (exact rfl))))
      (apply WO.call; (focus ((simp only [rO, wantedU, lay, li, lo, reduceIte, Nat.reduceEqDiff, Nat.reduceAdd, beq_self_eq_true]; done))); (focus (simp only [rE, rO, li, lo, lay, evalL, ofConst, storeU, AH.set, AV.cells, if_true, if_false, reduceIte, Nat.reduceEqDiff, Nat.reduceAdd, Nat.reduceMul, und78, ht0, ht7, ht8, cu102]; exact rfl)); (focus (exact cloneB_c _ _ _ hdd (hd _ (List.getElem_mem _)))); rintro v2 H2 ⟨hu2, hv2, hnew⟩; refine ⟨_, rfl, ?_⟩)
      obtain ⟨c1, c2, hg, ho, hown2⟩ := hown'.put hu'.next hi hu2 hv2 hnew
      have hst := store35 hv2.1 hg ho
      repeat (first | refine WF.seq ?_ | refine WF.regionL ?_ | refine WO.nil ?_ | refine WF.block ?_ | refine WF.skip ?_ | refine WF.endBlock ?_ | (apply WF.exit; (focus (exact rfl))) | (apply WO.op; (focus ((simp only [rO, wantedU, lay, li, lo, reduceIte, Nat.reduceEqDiff, Nat.reduceAdd, beq_self_eq_true]; done))); (focus (simp only [rE, rO, li, lo, lay, evalL, ofConst, AV.cells, if_true, if_false, reduceIte, Nat.reduceEqDiff, Nat.reduceAdd, Nat.reduceMul, und78, ht0, ht7, ht8, index_SL und78 sz87 hi, fa87_2, hst]; exact rfl)); (focus (exact rfl))) | (apply WO.unwanted; (focus ((simp only [rO, wantedU, lay, li, lo, reduceIte, Nat.reduceEqDiff, Nat.reduceAdd, beq_self_eq_true]; done))); (focus (exact rfl))))
      refine WF.again ?_
      refine ih (m - 1) _ _ (by omega) ⟨i + 1, ?_, by omega, hown2, ?_, ?_, ?_⟩
      · exact (hu'.trans hu2).set hb
      · simp [Tri.gp, ht0]
      · simp [Tri.gp, ht7]
      · simp only [Tri.gp, reduceIte]
        rw [w64 (by omega) (by omega)]
        simp
    · have hlt : decide ((i : Int) < (l.length : Int)) = false := by simp; omega
      repeat (first | refine WF.seq ?_ | refine WF.regionL ?_ | refine WO.nil ?_ | refine WF.block ?_ | refine WF.skip ?_ | refine WF.endBlock ?_ | (apply WF.exit; (focus (exact rfl))) | (apply WO.op; (focus ((simp only [rO, wantedU, lay, li, lo, reduceIte, Nat.reduceEqDiff, Nat.reduceAdd, beq_self_eq_true, hlt]; done))); (focus (simp only [rE, rO, li, lo, lay, evalL, ofConst, storeU, AH.set, AV.cells, if_true, if_false, reduceIte, Nat.reduceEqDiff, Nat.reduceAdd, Nat.reduceMul, und78, ht0, ht7, ht8, hlt]; exact rfl)); (focus (exact rfl))) | (apply WO.unwanted; (focus ((simp only [rO, wantedU, lay, li, lo, reduceIte, Nat.reduceEqDiff, Nat.reduceAdd, beq_self_eq_true, hlt]; done))); (focus (exact rfl))))
      (first | (apply WF.condT; (focus (simp only [evalO, ofConst, Tri.gp, lay, Bool.not_true, Bool.not_false, reduceIte, Nat.reduceEqDiff, hlt]; done))) | (apply WF.condF; (focus (simp only [evalO, ofConst, Tri.gp, lay, Bool.not_true, Bool.not_false, reduceIte, Nat.reduceEqDiff, hlt]; done))))
      repeat (first | refine WF.seq ?_ | refine WF.regionL ?_ | refine WO.nil ?_ | refine WF.block ?_ | refine WF.skip ?_ | refine WF.endBlock ?_ | (apply WF.exit; (focus (exact rfl))) | (apply WO.op; (focus ((simp only [rO, wantedU, lay, li, lo, reduceIte, Nat.reduceEqDiff, Nat.reduceAdd, beq_self_eq_true, hlt]; done))); (focus (simp only [rE, rO, li, lo, lay, evalL, ofConst, storeU, AH.set, AV.cells, if_true, if_false, reduceIte, Nat.reduceEqDiff, Nat.reduceAdd, Nat.reduceMul, und78, ht0, ht7, ht8, hlt]; exact rfl)); (focus (exact rfl))) | (apply WO.unwanted; (focus ((simp only [rO, wantedU, lay, li, lo, reduceIte, Nat.reduceEqDiff, Nat.reduceAdd, beq_self_eq_true, hlt]; done))); (focus (exact rfl))))
      (apply WF.ret; (focus (simp only [resultsU, Tri.gp, lay, resL, reduceIte, Nat.reduceEqDiff, rs60, ht0]; exact rfl)))
      obtain rfl : i = l.length := by omega
      exact ⟨hu', .inr ⟨hne, b, rfl, hb, hown'⟩⟩
end Go.Ev.C
end
section
set_option linter.unusedVariables false
set_option linter.unusedSimpArgs false
set_option linter.defProp false
set_option linter.all false
namespace Go.Ev.C
open Go.Proofs
-- T2 int64 size 1 bytes 8
-- T3 int size 1 bytes 8
-- T4 bool size 1 bytes 1
-- T5 uint8 size 1 bytes 1
-- T9 string size 1 bytes 16
-- T26 api.Errno size 1 bytes 8
-- T35 []uint8 size 1 bytes 24
-- T78 []api.Record size 1 bytes 24
-- T80 api.Batch size 4 bytes 48
theorem und84 : undU Q 84 = some (.slice 3) := by kernel_rfl
theorem agg84 : isAggU Q 84 = some false := by kernel_rfl
theorem sz84 : szU Q 84 = some 1 := by kernel_rfl
-- T84 []int size 1 bytes 24
-- T87 api.Record size 3 bytes 40
-- T143 func(api.Record) bool size 1 bytes 8
noncomputable def c9 : Code := (Tryz.f9.body).getD .skip
theorem en9 (a0 a1 a2 : AV) : enterU Q 9 [a0, a1, a2] .normal = some (PF 9 225 (lay 0 [a0, a1, a2] .leaf) [.code c9]) := by kernel_rfl
theorem rs9 (n : Nat) (t : Tri AV) (k : List AI) (H : AH) : resultU Q (PF 9 n t k) H = resL (resultsU Q t H [.tmp 6]) := by kernel_rfl
theorem cu9 (l : List AV) (H : AH) : callU Q (.func 9 [] []) l H = some (.enter 9 ([] ++ l ++ []), H) := by kernel_rfl
noncomputable def c28 : Code := (Tryz.f28.body).getD .skip
theorem en28 (a0 a1 : AV) : enterU Q 28 [a0, a1] .normal = some (PF 28 19 (lay 0 [a0, a1] .leaf) [.code c28]) := by kernel_rfl
theorem rs28 (n : Nat) (t : Tri AV) (k : List AI) (H : AH) : resultU Q (PF 28 n t k) H = resL (resultsU Q t H [.cell 4 80, .tmp 5]) := by kernel_rfl
theorem cu28 (l : List AV) (H : AH) : callU Q (.func 28 [] []) l H = some (.enter 28 ([] ++ l ++ []), H) := by kernel_rfl
noncomputable def c62 : Code := (Tryz.f62.body).getD .skip
theorem en62 (a0 a1 : AV) : enterU Q 62 [a0, a1] .normal = some (PF 62 9 (lay 0 [a0, a1] .leaf) [.code c62]) := by kernel_rfl
theorem rs62 (n : Nat) (t : Tri AV) (k : List AI) (H : AH) : resultU Q (PF 62 n t k) H = resL (resultsU Q t H [.tmp 3]) := by kernel_rfl
theorem cu62 (l : List AV) (H : AH) : callU Q (.func 62 [] []) l H = some (.enter 62 ([] ++ l ++ []), H) := by kernel_rfl
noncomputable def c63 : Code := (Tryz.f63.body).getD .skip
theorem en63 (a0 a1 : AV) : enterU Q 63 [a0, a1] .normal = some (PF 63 9 (lay 0 [a0, a1] .leaf) [.code c63]) := by kernel_rfl
theorem rs63 (n : Nat) (t : Tri AV) (k : List AI) (H : AH) : resultU Q (PF 63 n t k) H = resL (resultsU Q t H [.tmp 4]) := by kernel_rfl
theorem cu63 (l : List AV) (H : AH) : callU Q (.func 63 [] []) l H = some (.enter 63 ([] ++ l ++ []), H) := by kernel_rfl
noncomputable def c64 : Code := (Tryz.f64.body).getD .skip
theorem en64 (a0 a1 : AV) : enterU Q 64 [a0, a1] .normal = some (PF 64 42 (lay 0 [a0, a1] .leaf) [.code c64]) := by kernel_rfl
theorem rs64 (n : Nat) (t : Tri AV) (k : List AI) (H : AH) : resultU Q (PF 64 n t k) H = resL (resultsU Q t H [.tmp 4]) := by kernel_rfl
theorem cu64 (l : List AV) (H : AH) : callU Q (.func 64 [] []) l H = some (.enter 64 ([] ++ l ++ []), H) := by kernel_rfl
noncomputable def c104 : Code := (Tryz.f104.body).getD .skip
theorem en104 (a0 a1 : AV) : enterU Q 104 [a0, a1] .normal = some (PF 104 19 (lay 0 [a0, a1] .leaf) [.code c104]) := by kernel_rfl
theorem rs104 (n : Nat) (t : Tri AV) (k : List AI) (H : AH) : resultU Q (PF 104 n t k) H = resL (resultsU Q t H [.tmp 4]) := by kernel_rfl
theorem cu104 (l : List AV) (H : AH) : callU Q (.func 104 [] []) l H = some (.enter 104 ([] ++ l ++ []), H) := by kernel_rfl
noncomputable def c29 : Code := (Tryz.f29.body).getD .skip
theorem en29 (a0 a1 : AV) : enterU Q 29 [a0, a1] .normal = some (PF 29 31 (lay 0 [a0, a1] .leaf) [.code c29]) := by kernel_rfl
theorem rs29 (n : Nat) (t : Tri AV) (k : List AI) (H : AH) : resultU Q (PF 29 n t k) H = resL (resultsU Q t H [.tmp 4]) := by kernel_rfl
theorem cu29 (l : List AV) (H : AH) : callU Q (.func 29 [] []) l H = some (.enter 29 ([] ++ l ++ []), H) := by kernel_rfl
noncomputable def c65 : Code := (Tryz.f65.body).getD .skip
theorem en65 (a0 a1 : AV) : enterU Q 65 [a0, a1] .normal = some (PF 65 27 (lay 0 [a0, a1] .leaf) [.code c65]) := by kernel_rfl
theorem rs65 (n : Nat) (t : Tri AV) (k : List AI) (H : AH) : resultU Q (PF 65 n t k) H = resL (resultsU Q t H [.tmp 4]) := by kernel_rfl
theorem cu65 (l : List AV) (H : AH) : callU Q (.func 65 [] []) l H = some (.enter 65 ([] ++ l ++ []), H) := by kernel_rfl
noncomputable def c30 : Code := (Tryz.f30.body).getD .skip
theorem en30 (a0 a1 : AV) : enterU Q 30 [a0, a1] .normal = some (PF 30 26 (lay 0 [a0, a1] .leaf) [.code c30]) := by kernel_rfl
theorem rs30 (n : Nat) (t : Tri AV) (k : List AI) (H : AH) : resultU Q (PF 30 n t k) H = resL (resultsU Q t H [.tmp 4]) := by kernel_rfl
theorem cu30 (l : List AV) (H : AH) : callU Q (.func 30 [] []) l H = some (.enter 30 ([] ++ l ++ []), H) := by kernel_rfl
end Go.Ev.C
end
