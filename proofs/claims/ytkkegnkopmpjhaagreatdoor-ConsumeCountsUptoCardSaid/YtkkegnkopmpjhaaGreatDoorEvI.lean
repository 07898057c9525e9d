/- Contracts of the functions that the law calls: copies and joins. -/
import Derived.Test.YtkkegnkopmpjhaaGreatDoorEvH
section
set_option linter.unusedVariables false
set_option linter.unusedSimpArgs false
set_option linter.defProp false
set_option linter.all false
namespace Go.Ev.C
open Go.Proofs
set_option maxRecDepth 100000
set_option linter.unusedSimpArgs false
variable {L : World → Prop} [Good Q L]
theorem rows_all {c : List AV} {n k : Nat} (hlen : c.length = n * k) (h : ∀ i, i < n → ∃ r, cut c (i * k) k = some r ∧ r.all oneA = true) : c.all oneA = true := by
  refine List.all_eq_true.2 fun v hv => ?_
  obtain ⟨j, hj, rfl⟩ := List.mem_iff_getElem.1 hv
  have hk : 0 < k := by
    rcases Nat.eq_zero_or_pos k with rfl | h0
    · rw [hlen, Nat.mul_zero] at hj; omega
    · exact h0
  obtain ⟨r, hr, h1⟩ := h (j / k) ((Nat.div_lt_iff_lt_mul hk).2 (by rw [← hlen]; exact hj))
  obtain ⟨w, k1, _, k3⟩ := (cut_iff.1 hr).2 (j % k) (Nat.mod_lt _ hk)
  have hjk := Nat.div_add_mod' j k
  rw [hjk] at k1
  rw [List.getElem?_eq_getElem hj] at k1
  cases k1
  exact List.all_eq_true.1 h1 _ (List.mem_of_getElem? k3)

/-- Rows of records, one behind the other. -/
def Rows (H : AH) (c : List AV) (l : List RecD) : Prop := c.length = l.length * 3 ∧ c.all oneA = true ∧ c.all noHole = true ∧ ∀ (i : Nat) (d : RecD), l[i]? = some d → ∃ dv, DataAt H dv d.n ∧ cut c (i * 3) 3 = some [.int .i64 d.id, .int .i64 d.tm, dv]
theorem Rows.up {H H' : AH} (u : Up H H') {c : List AV} {l : List RecD} (h : Rows H c l) : Rows H' c l :=
  ⟨h.1, h.2.1, h.2.2.1, fun i d hi => by obtain ⟨dv, hd, hc⟩ := h.2.2.2 i d hi; exact ⟨dv, hd.up u, hc⟩⟩
theorem Rows.nil (H : AH) : Rows H [] [] := ⟨rfl, rfl, rfl, fun i d h => by simp at h⟩
theorem Rows.append {H : AH} {c c' : List AV} {l l' : List RecD} (h : Rows H c l) (h' : Rows H c' l') : Rows H (c ++ c') (l ++ l') := by
  obtain ⟨h1, h2, h3, h4⟩ := h
  obtain ⟨k1, k2, k3, k4⟩ := h'
  refine ⟨by simp [h1, k1, Nat.add_mul], by rw [List.all_append, h2, k2]; rfl, by rw [List.all_append, h3, k3]; rfl, fun i d hi => ?_⟩
  by_cases hil : i < l.length
  · rw [List.getElem?_append_left hil] at hi
    obtain ⟨dv, hd, hc⟩ := h4 i d hi
    exact ⟨dv, hd, cut_append_left hc⟩
  · rw [List.getElem?_append_right (by omega)] at hi
    obtain ⟨dv, hd, hc⟩ := k4 _ d hi
    refine ⟨dv, hd, ?_⟩
    have := cut_append_right (c := c) hc
    rw [h1, ← Nat.add_mul, show l.length + (i - l.length) = i from by omega] at this
    exact this
/-- A list of the run's own. -/
def OwnRecs (H : AH) (b : Nat) (l : List RecD) : Prop := ∃ c, H.t.get b = some (.cells 87 c 0 false false) ∧ b < H.next ∧ Rows H c l
theorem OwnRecs.recs {H : AH} {b : Nat} {l : List RecD} (h : OwnRecs H b l) (cap : Cap) : RecsAt H (.slice b 0 l.length cap) l := by
  obtain ⟨c, hg, hb, h1, h2, h3, h4⟩ := h
  refine ⟨.sl _ _ _ _, fun b' off n cap' e _ => ?_⟩
  cases e
  exact ⟨c, hb, by unfold AH.cellsAt; rw [hg], fun i d hi => by rw [Nat.zero_add]; exact h4 i d hi⟩
theorem RecsAt.rows {H : AH} {b off n : Nat} {cap : Cap} {l : List RecD} (h : RecsAt H (.slice b off n cap) l) (hne : l ≠ []) : n = l.length ∧ ∃ c cs, b < H.next ∧ H.cellsAt b = some c ∧ cut c off (l.length * 3) = some cs ∧ Rows H cs l := by
  obtain ⟨hs, h2⟩ := h
  obtain ⟨c, hb, hc, hr⟩ := h2 b off n cap rfl hne
  obtain ⟨cs, h3, h4⟩ := cut_rows (c := c) (off := off) (n := l.length) (k := 3) fun i hi => by
    obtain ⟨dv, _, hcut⟩ := hr i l[i] (List.getElem?_eq_getElem hi)
    exact ⟨_, hcut⟩
  have h5 : ∀ (i : Nat) (d : RecD), l[i]? = some d → ∃ dv, DataAt H dv d.n ∧ cut cs (i * 3) 3 = some [.int .i64 d.id, .int .i64 d.tm, dv] := fun i d hi => by
    obtain ⟨dv, hd, hcut⟩ := hr i d hi
    exact ⟨dv, hd, by rw [h4 i (List.getElem?_eq_some_iff.1 hi).1]; exact hcut⟩
  refine ⟨by generalize hn : l.length = m at hs; cases hs; rfl, c, cs, hb, hc, h3, (cut_iff.1 h3).1, ?_, cut_all h3, h5⟩
  refine rows_all (cut_iff.1 h3).1 fun i hi => ?_
  obtain ⟨dv, hd, hcut⟩ := h5 i l[i] (List.getElem?_eq_getElem hi)
  exact ⟨_, hcut, by simp [one_int, hd.1.one]⟩

/-- A copy: nil or empty, or a list of the run's own. -/
def Copied (H : AH) (H' : AH) (v : AV) (l : List RecD) : Prop := (l = [] ∧ (v = .nilslice ∨ ∃ b, v = .slice b 0 0 (.is 0))) ∨ (l ≠ [] ∧ ∃ b, H.next ≤ b ∧ v = .slice b 0 l.length (.up 3) ∧ ∃ c, H'.t.get b = some (.cells 87 c 0 false false) ∧ b < H'.next ∧ Rows H c l)

theorem cloneR_c (H : AH) (rv : AV) (l : List RecD) (hr : RecsAt H rv l) (hn : l.length ≤ 100000000) : Fn Q L 101 [rv] H (fun v H' => Up H H' ∧ Copied H H' v l) := by
  refine Fn.intro (en101 _) ?_
  have hs := hr.1
  unfold c101 Tryz.f101
  simp only [Option.getD_some]
  generalize hnl : l.length = n at hs
  cases hs with
  | nil =>
    repeat (first | refine WF.seq ?_ | refine WF.regionL ?_ | refine WO.nil ?_ | refine WF.block ?_ | refine WF.skip ?_ | refine WF.endBlock ?_ | (apply WF.exit; (focus (exact rfl))) | (apply WO.op; (focus ((simp only [wantedU, Tri.gp, lay, li, lo, bo, reduceIte, Nat.reduceEqDiff, Nat.reduceAdd, beq_self_eq_true]; done))); (focus (simp only [execU, cls, clsConv, clsLen, clsCall, pureX, loadX, newX, effX, pureU, loadU, newU, effU, pickP, buildP, nilP, binP, unP, convP, ifaceP, makeP, sliceP, fieldAddrP, fieldP, indexAddrP, indexP, extractP, builtinP, callP, loadP, boxN, allocN, storeE, storeU, AH.set, over_four, heapE, valE, builtinE, callE, assignE, evalO, evalL, optO, ofConst, Tri.gp, lay, unot, AH.new, AB.one, solid, AV.cells, if_true, if_false, reduceIte, Nat.reduceEqDiff, Nat.reduceAdd, Nat.reduceMul, Nat.zero_add, Nat.add_zero, oh, bi, ca, li, lo, bo, bin_eqlNil und78 SL.nil, gOk_eqlS _ _ _ SL.nil]; exact rfl)); (focus (exact rfl))) | (apply WO.unwanted; (focus ((simp only [wantedU, Tri.gp, lay, li, lo, bo, reduceIte, Nat.reduceEqDiff, Nat.reduceAdd, beq_self_eq_true]; done))); (focus (exact rfl))))
    (first | (apply WF.condT; (focus (simp only [evalO, ofConst, Tri.gp, lay, Bool.not_true, Bool.not_false, reduceIte, Nat.reduceEqDiff]; done))) | (apply WF.condF; (focus (simp only [evalO, ofConst, Tri.gp, lay, Bool.not_true, Bool.not_false, reduceIte, Nat.reduceEqDiff]; done))))
    repeat (first | refine WF.seq ?_ | refine WF.regionL ?_ | refine WO.nil ?_ | refine WF.block ?_ | refine WF.skip ?_ | refine WF.endBlock ?_ | (apply WF.exit; (focus (exact rfl))) | (apply WO.op; (focus ((simp only [wantedU, Tri.gp, lay, li, lo, bo, reduceIte, Nat.reduceEqDiff, Nat.reduceAdd, beq_self_eq_true]; done))); (focus (simp only [execU, cls, clsConv, clsLen, clsCall, pureX, loadX, newX, effX, pureU, loadU, newU, effU, pickP, buildP, nilP, binP, unP, convP, ifaceP, makeP, sliceP, fieldAddrP, fieldP, indexAddrP, indexP, extractP, builtinP, callP, loadP, boxN, allocN, storeE, storeU, AH.set, over_four, heapE, valE, builtinE, callE, assignE, evalO, evalL, optO, ofConst, Tri.gp, lay, unot, AH.new, AB.one, solid, AV.cells, if_true, if_false, reduceIte, Nat.reduceEqDiff, Nat.reduceAdd, Nat.reduceMul, Nat.zero_add, Nat.add_zero, oh, bi, ca, li, lo, bo]; exact rfl)); (focus (exact rfl))) | (apply WO.unwanted; (focus ((simp only [wantedU, Tri.gp, lay, li, lo, bo, reduceIte, Nat.reduceEqDiff, Nat.reduceAdd, beq_self_eq_true]; done))); (focus (exact rfl))))
    (apply WF.ret; (focus (simp only [resultsU, Tri.gp, lay, resL, reduceIte, Nat.reduceEqDiff, rs101]; exact rfl)))
    exact ⟨Up.refl _, .inl ⟨List.length_eq_zero_iff.1 hnl, .inl rfl⟩⟩
  | sl b off _ cap =>
    repeat (first | refine WF.seq ?_ | refine WF.regionL ?_ | refine WO.nil ?_ | refine WF.block ?_ | refine WF.skip ?_ | refine WF.endBlock ?_ | (apply WF.exit; (focus (exact rfl))) | (apply WO.op; (focus ((simp only [wantedU, Tri.gp, lay, li, lo, bo, reduceIte, Nat.reduceEqDiff, Nat.reduceAdd, beq_self_eq_true]; done))); (focus (simp only [execU, cls, clsConv, clsLen, clsCall, pureX, loadX, newX, effX, pureU, loadU, newU, effU, pickP, buildP, nilP, binP, unP, convP, ifaceP, makeP, sliceP, fieldAddrP, fieldP, indexAddrP, indexP, extractP, builtinP, callP, loadP, boxN, allocN, storeE, storeU, AH.set, over_four, heapE, valE, builtinE, callE, assignE, evalO, evalL, optO, ofConst, Tri.gp, lay, unot, AH.new, AB.one, solid, AV.cells, if_true, if_false, reduceIte, Nat.reduceEqDiff, Nat.reduceAdd, Nat.reduceMul, Nat.zero_add, Nat.add_zero, oh, bi, ca, li, lo, bo, bin_eqlNil und78 (SL.sl b off n cap), gOk_eqlS _ _ _ (SL.sl b off n cap), bs78, buildSliceN]; exact rfl)); (focus (exact rfl))) | (apply WO.unwanted; (focus ((simp only [wantedU, Tri.gp, lay, li, lo, bo, reduceIte, Nat.reduceEqDiff, Nat.reduceAdd, beq_self_eq_true]; done))); (focus (exact rfl))))
    (first | (apply WF.condT; (focus (simp only [evalO, ofConst, Tri.gp, lay, Bool.not_true, Bool.not_false, reduceIte, Nat.reduceEqDiff]; done))) | (apply WF.condF; (focus (simp only [evalO, ofConst, Tri.gp, lay, Bool.not_true, Bool.not_false, reduceIte, Nat.reduceEqDiff]; done))))
    by_cases h0 : n = 0
    · subst h0
      have ha : appendU Q [78, 78] [.slice H.next 0 0 (.is 0), .slice b off 0 cap] ⟨H.t.put H.next (some (.cells 87 [] 0 false false)), H.next + 1⟩ = some (.slice H.next 0 0 (.is 0), AH.set ⟨H.t.put H.next (some (.cells 87 [] 0 false false)), H.next + 1⟩ H.next (.cells 87 [] 0 false false)) := by
        rw [app78, newCells_zero]
        exact appendTo_empty0 (by simp [Tri.gp])
      repeat (first | refine WF.seq ?_ | refine WF.regionL ?_ | refine WO.nil ?_ | refine WF.block ?_ | refine WF.skip ?_ | refine WF.endBlock ?_ | (apply WF.exit; (focus (exact rfl))) | (apply WO.op; (focus ((simp only [wantedU, Tri.gp, lay, li, lo, bo, reduceIte, Nat.reduceEqDiff, Nat.reduceAdd, beq_self_eq_true]; done))); (focus (simp only [execU, cls, clsConv, clsLen, clsCall, pureX, loadX, newX, effX, pureU, loadU, newU, effU, pickP, buildP, nilP, binP, unP, convP, ifaceP, makeP, sliceP, fieldAddrP, fieldP, indexAddrP, indexP, extractP, builtinP, callP, loadP, boxN, allocN, storeE, storeU, AH.set, over_four, heapE, valE, builtinE, callE, assignE, evalO, evalL, optO, ofConst, Tri.gp, lay, unot, AH.new, AB.one, solid, AV.cells, if_true, if_false, reduceIte, Nat.reduceEqDiff, Nat.reduceAdd, Nat.reduceMul, Nat.zero_add, Nat.add_zero, oh, bi, ca, li, lo, bo, bs78, ha]; exact rfl)); (focus (exact rfl))) | (apply WO.unwanted; (focus ((simp only [wantedU, Tri.gp, lay, li, lo, bo, reduceIte, Nat.reduceEqDiff, Nat.reduceAdd, beq_self_eq_true]; done))); (focus (exact rfl))))
      (apply WF.ret; (focus (simp only [resultsU, Tri.gp, lay, resL, reduceIte, Nat.reduceEqDiff, rs101]; exact rfl)))
      exact ⟨Up.box2 _ _ _, .inl ⟨List.length_eq_zero_iff.1 hnl, .inr ⟨_, rfl⟩⟩⟩
    · have hne : l ≠ [] := by rintro rfl; exact h0 hnl.symm
      obtain ⟨_, c, cs, hb, hc, hcut, hrow⟩ := hr.rows hne
      rw [hnl] at hcut
      have ha : appendU Q [78, 78] [.slice H.next 0 0 (.is 0), .slice b off n cap] ⟨H.t.put H.next (some (.cells 87 [] 0 false false)), H.next + 1⟩ = some (.slice (H.next + 1) 0 n (.up 3), ⟨(H.t.put H.next (some (.cells 87 [] 0 false false))).put (H.next + 1) (some (.cells 87 cs 0 false false)), H.next + 1 + 1⟩) := by
        rw [app78, newCells_some (c := c) (cs := cs) h0 (by rw [cellsAt_put, if_neg (by omega)]; exact hc) hcut]
        exact appendTo_empty (c := []) (by rw [cellsAt_put, if_pos rfl]) h0 (by omega) hrow.2.1
      repeat (first | refine WF.seq ?_ | refine WF.regionL ?_ | refine WO.nil ?_ | refine WF.block ?_ | refine WF.skip ?_ | refine WF.endBlock ?_ | (apply WF.exit; (focus (exact rfl))) | (apply WO.op; (focus ((simp only [wantedU, Tri.gp, lay, li, lo, bo, reduceIte, Nat.reduceEqDiff, Nat.reduceAdd, beq_self_eq_true]; done))); (focus (simp only [execU, cls, clsConv, clsLen, clsCall, pureX, loadX, newX, effX, pureU, loadU, newU, effU, pickP, buildP, nilP, binP, unP, convP, ifaceP, makeP, sliceP, fieldAddrP, fieldP, indexAddrP, indexP, extractP, builtinP, callP, loadP, boxN, allocN, storeE, storeU, AH.set, over_four, heapE, valE, builtinE, callE, assignE, evalO, evalL, optO, ofConst, Tri.gp, lay, unot, AH.new, AB.one, solid, AV.cells, if_true, if_false, reduceIte, Nat.reduceEqDiff, Nat.reduceAdd, Nat.reduceMul, Nat.zero_add, Nat.add_zero, oh, bi, ca, li, lo, bo, bs78, ha]; exact rfl)); (focus (exact rfl))) | (apply WO.unwanted; (focus ((simp only [wantedU, Tri.gp, lay, li, lo, bo, reduceIte, Nat.reduceEqDiff, Nat.reduceAdd, beq_self_eq_true]; done))); (focus (exact rfl))))
      (apply WF.ret; (focus (simp only [resultsU, Tri.gp, lay, resL, reduceIte, Nat.reduceEqDiff, rs101]; exact rfl)))
      have hu : Up H ⟨(H.t.put H.next (some (.cells 87 [] 0 false false))).put (H.next + 1) (some (.cells 87 cs 0 false false)), H.next + 1 + 1⟩ := (Up.box H _).trans (Up.box _ _)
      refine ⟨hu, .inr ⟨hne, H.next + 1, by omega, by rw [hnl], cs, by simp [Tri.gp], by simp, hrow⟩⟩
end Go.Ev.C
end
section
set_option linter.unusedVariables false
set_option linter.unusedSimpArgs false
set_option linter.defProp false
set_option linter.all false
namespace Go.Ev.C
open Go.Proofs
set_option maxRecDepth 100000
set_option linter.unusedSimpArgs false
variable {L : World → Prop} [Good Q L]
/-- A list that is appended to; its data were there before. -/
def Acc (H0 H : AH) (b : Nat) (l : List RecD) : Prop := ∃ c cs, H.t.get b = some (.cells 87 c 0 false false) ∧ b < H.next ∧ H0.next ≤ b ∧ cut c 0 (l.length * 3) = some cs ∧ Rows H0 cs l
theorem cut_cut {c cs r : List AV} {n off k : Nat} (h : cut c 0 n = some cs) (h' : cut cs off k = some r) : cut c off k = some r := by
  obtain ⟨k1, k2⟩ := cut_iff.1 h'
  obtain ⟨m1, m2⟩ := cut_iff.1 h
  refine cut_iff.2 ⟨k1, fun j hj => ?_⟩
  obtain ⟨v, p1, p2, p3⟩ := k2 j hj
  have hlt := (List.getElem?_eq_some_iff.1 p1).1
  obtain ⟨w, q1, q2, q3⟩ := m2 (off + j) (by omega)
  rw [p1] at q3
  cases q3
  exact ⟨v, by rw [Nat.zero_add] at q1; exact q1, p2, p3⟩
theorem Acc.recs {H0 H : AH} {b : Nat} {l : List RecD} (h : Acc H0 H b l) (hu : Up H0 H) (cap : Cap) : RecsAt H (.slice b 0 l.length cap) l := by
  obtain ⟨c, cs, hg, hb, _, hcut, h1, h2, h3, h4⟩ := h
  refine ⟨.sl _ _ _ _, fun b' off n cap' e _ => ?_⟩
  cases e
  refine ⟨c, hb, by unfold AH.cellsAt; rw [hg], fun i d hi => ?_⟩
  obtain ⟨dv, hd, hr⟩ := h4 i d hi
  exact ⟨dv, hd.up hu, by rw [Nat.zero_add]; exact cut_cut hcut hr⟩
/-- One more list is appended. -/
theorem acc_append {H0 H : AH} {b : Nat} {l l' : List RecD} {rv : AV} (h : Acc H0 H b l) (hu : Up H0 H) (hr : RecsAt H0 rv l') (hn : l.length + l'.length ≤ 100000000) :
    ∃ b' H', appendU Q [78, 78] [.slice b 0 l.length (.up 3), rv] H = some (.slice b' 0 (l ++ l').length (.up 3), H') ∧ Acc H0 H' b' (l ++ l') ∧ Up H0 H' := by
  obtain ⟨c, cs, hg, hb, hb0, hcut, hrow⟩ := h
  by_cases hne : l' = []
  · subst hne
    refine ⟨b, H, ?_, ⟨c, cs, hg, hb, hb0, by rw [List.append_nil]; exact hcut, by rw [List.append_nil]; exact hrow⟩, hu⟩
    rw [List.append_nil, app78]
    have h1 := hr.1
    cases h1 with
    | nil => rw [newCells_nil]; exact appendTo_up0 (by omega)
    | sl b' off _ cap => rw [List.length_nil, newCells_zero]; exact appendTo_up0 (by omega)
  · have h1 := hr.1
    have hlen : l'.length ≠ 0 := fun h => hne (List.length_eq_zero_iff.1 h)
    generalize hnl : l'.length = n at h1
    cases h1 with
    | nil => exact absurd hnl hlen
    | sl b' off _ cap =>
      obtain ⟨_, c2, cs2, hb2, hc2, hcut2, hrow2⟩ := hr.rows hne
      rw [hnl] at hcut2 hlen hn
      have hnn := hu.next
      refine ⟨H.next, ⟨(H.t.put b none).put H.next (some (.cells 87 (cs ++ cs2) 0 false false)), H.next + 1⟩, ?_, ⟨cs ++ cs2, cs ++ cs2, by simp [Tri.gp], Nat.lt_succ_self _, hnn, ?_, hrow.append hrow2⟩, ?_⟩
      · rw [app78, newCells_some hlen (by rw [hu.cellsAt hb2]; exact hc2) hcut2, List.length_append, hnl]
        exact appendTo_up hg hcut hlen hn hrow.2.1 hrow2.2.1
      · have := hrow.append hrow2
        exact cut_self this.1 this.2.2.1
      · exact ⟨by show H0.next ≤ H.next + 1; omega, fun b1 hb1 => by
          show ((H.t.put b none).put H.next _).get b1 = _
          rw [Tri.gp, if_neg (by omega), Tri.gp, if_neg (by omega)]
          exact hu.old b1 hb1⟩

theorem app78i (s x : AV) (H : AH) : appendU Q [78, 3] [s, x] H = (match addedU (.int .i64) x 3 [.int .i64 0, .int .i64 0, .nilslice] H with | some (n, cs) => appendTo 87 3 s n cs H | none => none) := by kernel_rfl
theorem slU78 (x : AV) (lo hi : Option AV) : sliceU Q 78 x lo hi none = (match x with | .slice b off len cap => sliceSl 3 b off len cap lo hi | .nilslice => sliceNil lo hi | _ => none) := by
  cases x <;> kernel_rfl
theorem grow_c (H : AH) (n : Nat) (hn : n ≤ 100000) : Fn Q L 103 [.nilslice, .int .i64 (n : Int)] H (fun v H' => Up H H' ∧ ((n = 0 ∧ v = .nilslice ∧ H' = H) ∨ (n ≠ 0 ∧ ∃ b, v = .slice b 0 0 (.up 3) ∧ Acc H H' b []))) := by
  refine Fn.intro (en103 _ _) ?_
  unfold c103 Tryz.f103
  simp only [Option.getD_some]
  have e0 : decide ((n : Int) < 0) = false := by simp
  have e1 : IntKind.i64.wrap ((n : Int) - IntKind.i64.wrap (0 - ((0 : Nat) : Int))) = (n : Int) := by
    rw [w64 (x := 0 - ((0 : Nat) : Int)) (by omega) (by omega), w64 (by omega) (by omega)]; omega
  have e2 : ∀ ts l, builtinU Q .cap (78 :: ts) (.nilslice :: l) = some (.int .i64 0) := fun ts l => by simp [builtinU, und78]
  repeat (first | refine WF.seq ?_ | refine WF.regionL ?_ | refine WO.nil ?_ | refine WF.block ?_ | refine WF.skip ?_ | refine WF.endBlock ?_ | (apply WF.exit; (focus (exact rfl))) | (apply WO.op; (focus ((simp only [wantedU, Tri.gp, lay, li, lo, bo, reduceIte, Nat.reduceEqDiff, Nat.reduceAdd, beq_self_eq_true]; done))); (focus (simp only [execU, cls, clsConv, clsLen, clsCall, pureX, loadX, newX, effX, pureU, loadU, newU, effU, pickP, buildP, nilP, binP, unP, convP, ifaceP, makeP, sliceP, fieldAddrP, fieldP, indexAddrP, indexP, extractP, builtinP, callP, loadP, boxN, allocN, storeE, storeU, AH.set, over_four, heapE, valE, builtinE, callE, assignE, evalO, evalL, optO, ofConst, Tri.gp, lay, unot, AH.new, AB.one, solid, AV.cells, if_true, if_false, reduceIte, Nat.reduceEqDiff, Nat.reduceAdd, Nat.reduceMul, Nat.zero_add, Nat.add_zero, oh, bi, ca, li, lo, bo, e0]; exact rfl)); (focus (exact rfl))) | (apply WO.unwanted; (focus ((simp only [wantedU, Tri.gp, lay, li, lo, bo, reduceIte, Nat.reduceEqDiff, Nat.reduceAdd, beq_self_eq_true]; done))); (focus (exact rfl))))
  (first | (apply WF.condT; (focus (simp only [evalO, ofConst, Tri.gp, lay, Bool.not_true, Bool.not_false, reduceIte, Nat.reduceEqDiff, e0]; done))) | (apply WF.condF; (focus (simp only [evalO, ofConst, Tri.gp, lay, Bool.not_true, Bool.not_false, reduceIte, Nat.reduceEqDiff, e0]; done))))
  repeat (first | refine WF.seq ?_ | refine WF.regionL ?_ | refine WO.nil ?_ | refine WF.block ?_ | refine WF.skip ?_ | refine WF.endBlock ?_ | (apply WF.exit; (focus (exact rfl))) | (apply WO.op; (focus ((simp only [wantedU, Tri.gp, lay, li, lo, bo, reduceIte, Nat.reduceEqDiff, Nat.reduceAdd, beq_self_eq_true]; done))); (focus (simp only [execU, cls, clsConv, clsLen, clsCall, pureX, loadX, newX, effX, pureU, loadU, newU, effU, pickP, buildP, nilP, binP, unP, convP, ifaceP, makeP, sliceP, fieldAddrP, fieldP, indexAddrP, indexP, extractP, builtinP, callP, loadP, boxN, allocN, storeE, storeU, AH.set, over_four, heapE, valE, builtinE, callE, assignE, evalO, evalL, optO, ofConst, Tri.gp, lay, unot, AH.new, AB.one, solid, AV.cells, if_true, if_false, reduceIte, Nat.reduceEqDiff, Nat.reduceAdd, Nat.reduceMul, Nat.zero_add, Nat.add_zero, oh, bi, ca, li, lo, bo, e0, e1, e2, len_SL und78 SL.nil]; exact rfl)); (focus (exact rfl))) | (apply WO.unwanted; (focus ((simp only [wantedU, Tri.gp, lay, li, lo, bo, reduceIte, Nat.reduceEqDiff, Nat.reduceAdd, beq_self_eq_true]; done))); (focus (exact rfl))))
  by_cases h0 : n = 0
  · subst h0
    have e3 : decide ((0 : Int) < ((0 : Nat) : Int)) = false := by simp
    repeat (first | refine WF.seq ?_ | refine WF.regionL ?_ | refine WO.nil ?_ | refine WF.block ?_ | refine WF.skip ?_ | refine WF.endBlock ?_ | (apply WF.exit; (focus (exact rfl))) | (apply WO.op; (focus ((simp only [wantedU, Tri.gp, lay, li, lo, bo, reduceIte, Nat.reduceEqDiff, Nat.reduceAdd, beq_self_eq_true]; done))); (focus (simp only [execU, cls, clsConv, clsLen, clsCall, pureX, loadX, newX, effX, pureU, loadU, newU, effU, pickP, buildP, nilP, binP, unP, convP, ifaceP, makeP, sliceP, fieldAddrP, fieldP, indexAddrP, indexP, extractP, builtinP, callP, loadP, boxN, allocN, storeE, storeU, AH.set, over_four, heapE, valE, builtinE, callE, assignE, evalO, evalL, optO, ofConst, Tri.gp, lay, unot, AH.new, AB.one, solid, AV.cells, if_true, if_false, reduceIte, Nat.reduceEqDiff, Nat.reduceAdd, Nat.reduceMul, Nat.zero_add, Nat.add_zero, oh, bi, ca, li, lo, bo, e0, e1, e2, e3, len_SL und78 SL.nil]; exact rfl)); (focus (exact rfl))) | (apply WO.unwanted; (focus ((simp only [wantedU, Tri.gp, lay, li, lo, bo, reduceIte, Nat.reduceEqDiff, Nat.reduceAdd, beq_self_eq_true]; done))); (focus (exact rfl))))
    (first | (apply WF.condT; (focus (simp only [evalO, ofConst, Tri.gp, lay, Bool.not_true, Bool.not_false, reduceIte, Nat.reduceEqDiff, e3]; done))) | (apply WF.condF; (focus (simp only [evalO, ofConst, Tri.gp, lay, Bool.not_true, Bool.not_false, reduceIte, Nat.reduceEqDiff, e3]; done))))
    repeat (first | refine WF.seq ?_ | refine WF.regionL ?_ | refine WO.nil ?_ | refine WF.block ?_ | refine WF.skip ?_ | refine WF.endBlock ?_ | (apply WF.exit; (focus (exact rfl))) | (apply WO.op; (focus ((simp only [wantedU, Tri.gp, lay, li, lo, bo, reduceIte, Nat.reduceEqDiff, Nat.reduceAdd, beq_self_eq_true]; done))); (focus (simp only [execU, cls, clsConv, clsLen, clsCall, pureX, loadX, newX, effX, pureU, loadU, newU, effU, pickP, buildP, nilP, binP, unP, convP, ifaceP, makeP, sliceP, fieldAddrP, fieldP, indexAddrP, indexP, extractP, builtinP, callP, loadP, boxN, allocN, storeE, storeU, AH.set, over_four, heapE, valE, builtinE, callE, assignE, evalO, evalL, optO, ofConst, Tri.gp, lay, unot, AH.new, AB.one, solid, AV.cells, if_true, if_false, reduceIte, Nat.reduceEqDiff, Nat.reduceAdd, Nat.reduceMul, Nat.zero_add, Nat.add_zero, oh, bi, ca, li, lo, bo, e0, e1, e2, e3, len_SL und78 SL.nil]; exact rfl)); (focus (exact rfl))) | (apply WO.unwanted; (focus ((simp only [wantedU, Tri.gp, lay, li, lo, bo, reduceIte, Nat.reduceEqDiff, Nat.reduceAdd, beq_self_eq_true]; done))); (focus (exact rfl))))
    (apply WF.ret; (focus (simp only [resultsU, Tri.gp, lay, resL, reduceIte, Nat.reduceEqDiff, rs103]; exact rfl)))
    exact ⟨Up.refl _, .inl ⟨rfl, rfl, rfl⟩⟩
  · have e3 : decide ((0 : Int) < (n : Int)) = true := by simp; omega
    have ha : appendU Q [78, 3] [.nilslice, .int .i64 (n : Int)] H = some (.slice H.next 0 n (.up 3), ⟨H.t.put H.next (some (.cells 87 (List.replicate n [AV.int .i64 0, .int .i64 0, .nilslice]).flatten 0 false false)), H.next + 1⟩) := by
      rw [app78i]
      have : addedU (.int .i64) (.int .i64 (n : Int)) 3 [.int .i64 0, .int .i64 0, .nilslice] H = some (n, (List.replicate n [AV.int .i64 0, .int .i64 0, .nilslice]).flatten) := by
        show (if Nat.ble n 100000000 then _ else _) = _
        rw [if_pos (by rw [Nat.ble_eq]; omega)]
      rw [this]
      refine appendTo_nil h0 (by omega) ?_
      refine List.all_eq_true.2 fun v hv => ?_
      obtain ⟨r, hr, hv⟩ := List.mem_flatten.1 hv
      obtain rfl := List.eq_of_mem_replicate hr
      simp at hv
      rcases hv with rfl | rfl | rfl <;> simp [oneA]
    repeat (first | refine WF.seq ?_ | refine WF.regionL ?_ | refine WO.nil ?_ | refine WF.block ?_ | refine WF.skip ?_ | refine WF.endBlock ?_ | (apply WF.exit; (focus (exact rfl))) | (apply WO.op; (focus ((simp only [wantedU, Tri.gp, lay, li, lo, bo, reduceIte, Nat.reduceEqDiff, Nat.reduceAdd, beq_self_eq_true]; done))); (focus (simp only [execU, cls, clsConv, clsLen, clsCall, pureX, loadX, newX, effX, pureU, loadU, newU, effU, pickP, buildP, nilP, binP, unP, convP, ifaceP, makeP, sliceP, fieldAddrP, fieldP, indexAddrP, indexP, extractP, builtinP, callP, loadP, boxN, allocN, storeE, storeU, AH.set, over_four, heapE, valE, builtinE, callE, assignE, evalO, evalL, optO, ofConst, Tri.gp, lay, unot, AH.new, AB.one, solid, AV.cells, if_true, if_false, reduceIte, Nat.reduceEqDiff, Nat.reduceAdd, Nat.reduceMul, Nat.zero_add, Nat.add_zero, oh, bi, ca, li, lo, bo, e0, e1, e2, e3, ha, len_SL und78 SL.nil, slU78, sliceNil, boundU_none, boundU_zero]; exact rfl)); (focus (exact rfl))) | (apply WO.unwanted; (focus ((simp only [wantedU, Tri.gp, lay, li, lo, bo, reduceIte, Nat.reduceEqDiff, Nat.reduceAdd, beq_self_eq_true]; done))); (focus (exact rfl))))
    (first | (apply WF.condT; (focus (simp only [evalO, ofConst, Tri.gp, lay, Bool.not_true, Bool.not_false, reduceIte, Nat.reduceEqDiff, e3]; done))) | (apply WF.condF; (focus (simp only [evalO, ofConst, Tri.gp, lay, Bool.not_true, Bool.not_false, reduceIte, Nat.reduceEqDiff, e3]; done))))
    repeat (first | refine WF.seq ?_ | refine WF.regionL ?_ | refine WO.nil ?_ | refine WF.block ?_ | refine WF.skip ?_ | refine WF.endBlock ?_ | (apply WF.exit; (focus (exact rfl))) | (apply WO.op; (focus ((simp only [wantedU, Tri.gp, lay, li, lo, bo, reduceIte, Nat.reduceEqDiff, Nat.reduceAdd, beq_self_eq_true]; done))); (focus (simp only [execU, cls, clsConv, clsLen, clsCall, pureX, loadX, newX, effX, pureU, loadU, newU, effU, pickP, buildP, nilP, binP, unP, convP, ifaceP, makeP, sliceP, fieldAddrP, fieldP, indexAddrP, indexP, extractP, builtinP, callP, loadP, boxN, allocN, storeE, storeU, AH.set, over_four, heapE, valE, builtinE, callE, assignE, evalO, evalL, optO, ofConst, Tri.gp, lay, unot, AH.new, AB.one, solid, AV.cells, if_true, if_false, reduceIte, Nat.reduceEqDiff, Nat.reduceAdd, Nat.reduceMul, Nat.zero_add, Nat.add_zero, oh, bi, ca, li, lo, bo, e0, e1, e2, e3, ha, len_SL und78 SL.nil, slU78, sliceNil, sliceSl, boundU_none, boundU_zero]; exact rfl)); (focus (exact rfl))) | (apply WO.unwanted; (focus ((simp only [wantedU, Tri.gp, lay, li, lo, bo, reduceIte, Nat.reduceEqDiff, Nat.reduceAdd, beq_self_eq_true]; done))); (focus (exact rfl))))
    (apply WF.ret; (focus (simp only [resultsU, Tri.gp, lay, resL, reduceIte, Nat.reduceEqDiff, rs103, Nat.sub_self]; exact rfl)))
    exact ⟨Up.box _ _, .inr ⟨h0, H.next, rfl, _, [], by rw [Tri.gp, if_pos rfl], Nat.lt_succ_self _, Nat.le_refl _, cut_zero _ _, Rows.nil _⟩⟩
end Go.Ev.C
end
section
set_option linter.unusedVariables false
set_option linter.unusedSimpArgs false
set_option linter.defProp false
set_option linter.all false
namespace Go.Ev.C
open Go.Proofs
set_option maxRecDepth 100000
set_option linter.unusedSimpArgs false
variable {L : World → Prop} [Good Q L]
theorem concat_c (H : AH) (bb : Nat) (cap : Cap) (r1 r2 : AV) (l1 l2 : List RecD) (hb : bb < H.next) (hc : H.cellsAt bb = some [r1, r2]) (hr1 : RecsAt H r1 l1) (hr2 : RecsAt H r2 l2) (hn1 : l1.length ≤ 1000) (hn2 : l2.length ≤ 1000) :
    Fn Q L 61 [.slice bb 0 2 cap] H (fun v H' => Up H H' ∧ RecsAt H' v (l1 ++ l2)) := by
  refine Fn.intro (en61 _) ?_
  have hs1 := hr1.1
  have hs2 := hr2.1
  have hh1 := hs1.solid
  have hh2 := hs2.solid
  unfold c61 Tryz.f61
  simp only [Option.getD_some]
  have w0 : IntKind.i64.wrap (0 + (l1.length : Int)) = (l1.length : Int) := by rw [w64 (by omega) (by omega)]; omega
  have w1 : IntKind.i64.wrap ((l1.length : Int) + (l2.length : Int)) = ((l1.length + l2.length : Nat) : Int) := by rw [w64 (by omega) (by omega)]; omega
  have w2 : IntKind.i64.wrap (0 + 1) = ((1 : Nat) : Int) := by decide
  have w3 : IntKind.i64.wrap (((1 : Nat) : Int) + 1) = 2 := by decide
  have d0 : decide ((0 : Int) < ((2 : Nat) : Int)) = true := by decide
  have d1 : decide (((1 : Nat) : Int) < ((2 : Nat) : Int)) = true := by decide
  have d2 : decide ((2 : Int) < ((2 : Nat) : Int)) = false := by decide
  have d3 : decide ((l1.length : Int) < 0) = false := by simp
  have d4 : decide (((l1.length + l2.length : Nat) : Int) < 0) = false := by simp; omega
  have i0 : indexAddrU Q 202 (.slice bb 0 2 cap) (.int .i64 0) = some (.ptr bb 0) := index_SL (k := 0) (kd := .i64) und202 sz78 (by omega)
  have i1 : indexAddrU Q 202 (.slice bb 0 2 cap) (.int .i64 ((1 : Nat) : Int)) = some (.ptr bb 1) := index_SL (k := 1) (kd := .i64) und202 sz78 (by omega)
  repeat (first | refine WF.seq ?_ | refine WF.regionL ?_ | refine WO.nil ?_ | refine WF.block ?_ | refine WF.skip ?_ | refine WF.endBlock ?_ | (apply WF.exit; (focus (exact rfl))) | (apply WO.op; (focus ((simp only [wantedU, Tri.gp, lay, li, lo, bo, reduceIte, Nat.reduceEqDiff, Nat.reduceAdd, beq_self_eq_true]; done))); (focus (simp only [execU, cls, clsConv, clsLen, clsCall, pureX, loadX, newX, effX, pureU, loadU, newU, effU, pickP, buildP, nilP, binP, unP, convP, ifaceP, makeP, sliceP, fieldAddrP, fieldP, indexAddrP, indexP, extractP, builtinP, callP, loadP, boxN, allocN, storeE, storeU, AH.set, over_four, heapE, valE, builtinE, callE, assignE, evalO, evalL, optO, ofConst, Tri.gp, lay, unot, AH.new, AB.one, solid, AV.cells, if_true, if_false, reduceIte, Nat.reduceEqDiff, Nat.reduceAdd, Nat.reduceMul, Nat.zero_add, Nat.add_zero, oh, bi, ca, li, lo, bo, len_SL und202 (SL.sl bb 0 2 cap)]; exact rfl)); (focus (exact rfl))) | (apply WO.unwanted; (focus ((simp only [wantedU, Tri.gp, lay, li, lo, bo, reduceIte, Nat.reduceEqDiff, Nat.reduceAdd, beq_self_eq_true]; done))); (focus (exact rfl))))
  refine WF.loop ?_
  repeat (first | refine WF.seq ?_ | refine WF.regionL ?_ | refine WO.nil ?_ | refine WF.block ?_ | refine WF.skip ?_ | refine WF.endBlock ?_ | (apply WF.exit; (focus (exact rfl))) | (apply WO.op; (focus ((simp only [wantedU, Tri.gp, lay, li, lo, bo, reduceIte, Nat.reduceEqDiff, Nat.reduceAdd, beq_self_eq_true]; done))); (focus (simp only [execU, cls, clsConv, clsLen, clsCall, pureX, loadX, newX, effX, pureU, loadU, newU, effU, pickP, buildP, nilP, binP, unP, convP, ifaceP, makeP, sliceP, fieldAddrP, fieldP, indexAddrP, indexP, extractP, builtinP, callP, loadP, boxN, allocN, storeE, storeU, AH.set, over_four, heapE, valE, builtinE, callE, assignE, evalO, evalL, optO, ofConst, Tri.gp, lay, unot, AH.new, AB.one, solid, AV.cells, if_true, if_false, reduceIte, Nat.reduceEqDiff, Nat.reduceAdd, Nat.reduceMul, Nat.zero_add, Nat.add_zero, oh, bi, ca, li, lo, bo, d0]; exact rfl)); (focus (exact rfl))) | (apply WO.unwanted; (focus ((simp only [wantedU, Tri.gp, lay, li, lo, bo, reduceIte, Nat.reduceEqDiff, Nat.reduceAdd, beq_self_eq_true]; done))); (focus (exact rfl))))
  (first | (apply WF.condT; (focus (simp only [evalO, ofConst, Tri.gp, lay, Bool.not_true, Bool.not_false, reduceIte, Nat.reduceEqDiff, d0]; done))) | (apply WF.condF; (focus (simp only [evalO, ofConst, Tri.gp, lay, Bool.not_true, Bool.not_false, reduceIte, Nat.reduceEqDiff, d0]; done))))
  repeat (first | refine WF.seq ?_ | refine WF.regionL ?_ | refine WO.nil ?_ | refine WF.block ?_ | refine WF.skip ?_ | refine WF.endBlock ?_ | (apply WF.exit; (focus (exact rfl))) | (apply WO.op; (focus ((simp only [wantedU, Tri.gp, lay, li, lo, bo, reduceIte, Nat.reduceEqDiff, Nat.reduceAdd, beq_self_eq_true]; done))); (focus (simp only [execU, cls, clsConv, clsLen, clsCall, pureX, loadX, newX, effX, pureU, loadU, newU, effU, pickP, buildP, nilP, binP, unP, convP, ifaceP, makeP, sliceP, fieldAddrP, fieldP, indexAddrP, indexP, extractP, builtinP, callP, loadP, boxN, allocN, storeE, storeU, AH.set, over_four, heapE, valE, builtinE, callE, assignE, evalO, evalL, optO, ofConst, Tri.gp, lay, unot, AH.new, AB.one, solid, AV.cells, if_true, if_false, reduceIte, Nat.reduceEqDiff, Nat.reduceAdd, Nat.reduceMul, Nat.zero_add, Nat.add_zero, oh, bi, ca, li, lo, bo, d0, i0, i1, loadVar_one agg78, hc, hh1, hh2, len_SL und78 hs1, len_SL und78 hs2, w0, w1, w2, w3, d3, d4]; exact rfl)); (focus (exact rfl))) | (apply WO.unwanted; (focus ((simp only [wantedU, Tri.gp, lay, li, lo, bo, reduceIte, Nat.reduceEqDiff, Nat.reduceAdd, beq_self_eq_true]; done))); (focus (exact rfl))))
  (first | (apply WF.condT; (focus (simp only [evalO, ofConst, Tri.gp, lay, Bool.not_true, Bool.not_false, reduceIte, Nat.reduceEqDiff, d3]; done))) | (apply WF.condF; (focus (simp only [evalO, ofConst, Tri.gp, lay, Bool.not_true, Bool.not_false, reduceIte, Nat.reduceEqDiff, d3]; done))))
  repeat (first | refine WF.seq ?_ | refine WF.regionL ?_ | refine WO.nil ?_ | refine WF.block ?_ | refine WF.skip ?_ | refine WF.endBlock ?_ | (apply WF.exit; (focus (exact rfl))) | (apply WO.op; (focus ((simp only [wantedU, Tri.gp, lay, li, lo, bo, reduceIte, Nat.reduceEqDiff, Nat.reduceAdd, beq_self_eq_true]; done))); (focus (simp only [execU, cls, clsConv, clsLen, clsCall, pureX, loadX, newX, effX, pureU, loadU, newU, effU, pickP, buildP, nilP, binP, unP, convP, ifaceP, makeP, sliceP, fieldAddrP, fieldP, indexAddrP, indexP, extractP, builtinP, callP, loadP, boxN, allocN, storeE, storeU, AH.set, over_four, heapE, valE, builtinE, callE, assignE, evalO, evalL, optO, ofConst, Tri.gp, lay, unot, AH.new, AB.one, solid, AV.cells, if_true, if_false, reduceIte, Nat.reduceEqDiff, Nat.reduceAdd, Nat.reduceMul, Nat.zero_add, Nat.add_zero, oh, bi, ca, li, lo, bo, w0, w2]; exact rfl)); (focus (exact rfl))) | (apply WO.unwanted; (focus ((simp only [wantedU, Tri.gp, lay, li, lo, bo, reduceIte, Nat.reduceEqDiff, Nat.reduceAdd, beq_self_eq_true]; done))); (focus (exact rfl))))
  refine WF.again ?_
  repeat (first | refine WF.seq ?_ | refine WF.regionL ?_ | refine WO.nil ?_ | refine WF.block ?_ | refine WF.skip ?_ | refine WF.endBlock ?_ | (apply WF.exit; (focus (exact rfl))) | (apply WO.op; (focus ((simp only [wantedU, Tri.gp, lay, li, lo, bo, reduceIte, Nat.reduceEqDiff, Nat.reduceAdd, beq_self_eq_true]; done))); (focus (simp only [execU, cls, clsConv, clsLen, clsCall, pureX, loadX, newX, effX, pureU, loadU, newU, effU, pickP, buildP, nilP, binP, unP, convP, ifaceP, makeP, sliceP, fieldAddrP, fieldP, indexAddrP, indexP, extractP, builtinP, callP, loadP, boxN, allocN, storeE, storeU, AH.set, over_four, heapE, valE, builtinE, callE, assignE, evalO, evalL, optO, ofConst, Tri.gp, lay, unot, AH.new, AB.one, solid, AV.cells, if_true, if_false, reduceIte, Nat.reduceEqDiff, Nat.reduceAdd, Nat.reduceMul, Nat.zero_add, Nat.add_zero, oh, bi, ca, li, lo, bo, d1]; exact rfl)); (focus (exact rfl))) | (apply WO.unwanted; (focus ((simp only [wantedU, Tri.gp, lay, li, lo, bo, reduceIte, Nat.reduceEqDiff, Nat.reduceAdd, beq_self_eq_true]; done))); (focus (exact rfl))))
  (first | (apply WF.condT; (focus (simp only [evalO, ofConst, Tri.gp, lay, Bool.not_true, Bool.not_false, reduceIte, Nat.reduceEqDiff, d1]; done))) | (apply WF.condF; (focus (simp only [evalO, ofConst, Tri.gp, lay, Bool.not_true, Bool.not_false, reduceIte, Nat.reduceEqDiff, d1]; done))))
  repeat (first | refine WF.seq ?_ | refine WF.regionL ?_ | refine WO.nil ?_ | refine WF.block ?_ | refine WF.skip ?_ | refine WF.endBlock ?_ | (apply WF.exit; (focus (exact rfl))) | (apply WO.op; (focus ((simp only [wantedU, Tri.gp, lay, li, lo, bo, reduceIte, Nat.reduceEqDiff, Nat.reduceAdd, beq_self_eq_true]; done))); (focus (simp only [execU, cls, clsConv, clsLen, clsCall, pureX, loadX, newX, effX, pureU, loadU, newU, effU, pickP, buildP, nilP, binP, unP, convP, ifaceP, makeP, sliceP, fieldAddrP, fieldP, indexAddrP, indexP, extractP, builtinP, callP, loadP, boxN, allocN, storeE, storeU, AH.set, over_four, heapE, valE, builtinE, callE, assignE, evalO, evalL, optO, ofConst, Tri.gp, lay, unot, AH.new, AB.one, solid, AV.cells, if_true, if_false, reduceIte, Nat.reduceEqDiff, Nat.reduceAdd, Nat.reduceMul, Nat.zero_add, Nat.add_zero, oh, bi, ca, li, lo, bo, d0, i0, i1, loadVar_one agg78, hc, hh1, hh2, len_SL und78 hs1, len_SL und78 hs2, w0, w1, w2, w3, d3, d4]; exact rfl)); (focus (exact rfl))) | (apply WO.unwanted; (focus ((simp only [wantedU, Tri.gp, lay, li, lo, bo, reduceIte, Nat.reduceEqDiff, Nat.reduceAdd, beq_self_eq_true]; done))); (focus (exact rfl))))
  (first | (apply WF.condT; (focus (simp only [evalO, ofConst, Tri.gp, lay, Bool.not_true, Bool.not_false, reduceIte, Nat.reduceEqDiff, d4]; done))) | (apply WF.condF; (focus (simp only [evalO, ofConst, Tri.gp, lay, Bool.not_true, Bool.not_false, reduceIte, Nat.reduceEqDiff, d4]; done))))
  repeat (first | refine WF.seq ?_ | refine WF.regionL ?_ | refine WO.nil ?_ | refine WF.block ?_ | refine WF.skip ?_ | refine WF.endBlock ?_ | (apply WF.exit; (focus (exact rfl))) | (apply WO.op; (focus ((simp only [wantedU, Tri.gp, lay, li, lo, bo, reduceIte, Nat.reduceEqDiff, Nat.reduceAdd, beq_self_eq_true]; done))); (focus (simp only [execU, cls, clsConv, clsLen, clsCall, pureX, loadX, newX, effX, pureU, loadU, newU, effU, pickP, buildP, nilP, binP, unP, convP, ifaceP, makeP, sliceP, fieldAddrP, fieldP, indexAddrP, indexP, extractP, builtinP, callP, loadP, boxN, allocN, storeE, storeU, AH.set, over_four, heapE, valE, builtinE, callE, assignE, evalO, evalL, optO, ofConst, Tri.gp, lay, unot, AH.new, AB.one, solid, AV.cells, if_true, if_false, reduceIte, Nat.reduceEqDiff, Nat.reduceAdd, Nat.reduceMul, Nat.zero_add, Nat.add_zero, oh, bi, ca, li, lo, bo, w3]; exact rfl)); (focus (exact rfl))) | (apply WO.unwanted; (focus ((simp only [wantedU, Tri.gp, lay, li, lo, bo, reduceIte, Nat.reduceEqDiff, Nat.reduceAdd, beq_self_eq_true]; done))); (focus (exact rfl))))
  refine WF.again ?_
  repeat (first | refine WF.seq ?_ | refine WF.regionL ?_ | refine WO.nil ?_ | refine WF.block ?_ | refine WF.skip ?_ | refine WF.endBlock ?_ | (apply WF.exit; (focus (exact rfl))) | (apply WO.op; (focus ((simp only [wantedU, Tri.gp, lay, li, lo, bo, reduceIte, Nat.reduceEqDiff, Nat.reduceAdd, beq_self_eq_true]; done))); (focus (simp only [execU, cls, clsConv, clsLen, clsCall, pureX, loadX, newX, effX, pureU, loadU, newU, effU, pickP, buildP, nilP, binP, unP, convP, ifaceP, makeP, sliceP, fieldAddrP, fieldP, indexAddrP, indexP, extractP, builtinP, callP, loadP, boxN, allocN, storeE, storeU, AH.set, over_four, heapE, valE, builtinE, callE, assignE, evalO, evalL, optO, ofConst, Tri.gp, lay, unot, AH.new, AB.one, solid, AV.cells, if_true, if_false, reduceIte, Nat.reduceEqDiff, Nat.reduceAdd, Nat.reduceMul, Nat.zero_add, Nat.add_zero, oh, bi, ca, li, lo, bo, d2]; exact rfl)); (focus (exact rfl))) | (apply WO.unwanted; (focus ((simp only [wantedU, Tri.gp, lay, li, lo, bo, reduceIte, Nat.reduceEqDiff, Nat.reduceAdd, beq_self_eq_true]; done))); (focus (exact rfl))))
  (first | (apply WF.condT; (focus (simp only [evalO, ofConst, Tri.gp, lay, Bool.not_true, Bool.not_false, reduceIte, Nat.reduceEqDiff, d2]; done))) | (apply WF.condF; (focus (simp only [evalO, ofConst, Tri.gp, lay, Bool.not_true, Bool.not_false, reduceIte, Nat.reduceEqDiff, d2]; done))))
  repeat (first | refine WF.seq ?_ | refine WF.regionL ?_ | refine WO.nil ?_ | refine WF.block ?_ | refine WF.skip ?_ | refine WF.endBlock ?_ | (apply WF.exit; (focus (exact rfl))) | (apply WO.op; (focus ((simp only [wantedU, Tri.gp, lay, li, lo, bo, reduceIte, Nat.reduceEqDiff, Nat.reduceAdd, beq_self_eq_true]; done))); (focus (simp only [execU, cls, clsConv, clsLen, clsCall, pureX, loadX, newX, effX, pureU, loadU, newU, effU, pickP, buildP, nilP, binP, unP, convP, ifaceP, makeP, sliceP, fieldAddrP, fieldP, indexAddrP, indexP, extractP, builtinP, callP, loadP, boxN, allocN, storeE, storeU, AH.set, over_four, heapE, valE, builtinE, callE, assignE, evalO, evalL, optO, ofConst, Tri.gp, lay, unot, AH.new, AB.one, solid, AV.cells, if_true, if_false, reduceIte, Nat.reduceEqDiff, Nat.reduceAdd, Nat.reduceMul, Nat.zero_add, Nat.add_zero, oh, bi, ca, li, lo, bo]; exact rfl)); (focus (exact rfl))) | (apply WO.unwanted; (focus ((simp only [wantedU, Tri.gp, lay, li, lo, bo, reduceIte, Nat.reduceEqDiff, Nat.reduceAdd, beq_self_eq_true]; done))); (focus (exact rfl))))
  (apply WO.call; (focus ((simp only [wantedU, Tri.gp, lay, li, lo, bo, reduceIte, Nat.reduceEqDiff, Nat.reduceAdd, beq_self_eq_true]; done))); (focus (simp only [execU, cls, clsConv, clsLen, clsCall, pureX, loadX, newX, effX, pureU, loadU, newU, effU, pickP, buildP, nilP, binP, unP, convP, ifaceP, makeP, sliceP, fieldAddrP, fieldP, indexAddrP, indexP, extractP, builtinP, callP, loadP, boxN, allocN, storeE, storeU, AH.set, over_four, heapE, valE, builtinE, callE, assignE, evalO, evalL, optO, ofConst, Tri.gp, lay, unot, AH.new, AB.one, solid, AV.cells, if_true, if_false, reduceIte, Nat.reduceEqDiff, Nat.reduceAdd, Nat.reduceMul, Nat.zero_add, Nat.add_zero, oh, bi, ca, li, lo, bo, cu103]; exact rfl)); (focus (exact grow_c _ (l1.length + l2.length) (by omega))); rintro v H1 ⟨hu, hv⟩; refine ⟨_, rfl, ?_⟩)
  rcases hv with ⟨h0, rfl, rfl⟩ | ⟨h0, b, rfl, hacc⟩
  · have e1 : l1 = [] := List.length_eq_zero_iff.1 (by omega)
    have e2 : l2 = [] := List.length_eq_zero_iff.1 (by omega)
    subst e1
    subst e2
    have ha1 : ∀ r n H, SL r n → n = 0 → appendU Q [78, 78] [.nilslice, r] H = some (.nilslice, H) := by
      intro r n H hs hn
      rw [app78]
      cases hs with
      | nil => rfl
      | sl b' off _ cap' => subst hn; rfl
    have a1 := ha1 r1 _ H1 hs1 rfl
    have a2 := ha1 r2 _ H1 hs2 rfl
    repeat (first | refine WF.seq ?_ | refine WF.regionL ?_ | refine WO.nil ?_ | refine WF.block ?_ | refine WF.skip ?_ | refine WF.endBlock ?_ | (apply WF.exit; (focus (exact rfl))) | (apply WO.op; (focus ((simp only [wantedU, Tri.gp, lay, li, lo, bo, reduceIte, Nat.reduceEqDiff, Nat.reduceAdd, beq_self_eq_true]; done))); (focus (simp only [execU, cls, clsConv, clsLen, clsCall, pureX, loadX, newX, effX, pureU, loadU, newU, effU, pickP, buildP, nilP, binP, unP, convP, ifaceP, makeP, sliceP, fieldAddrP, fieldP, indexAddrP, indexP, extractP, builtinP, callP, loadP, boxN, allocN, storeE, storeU, AH.set, over_four, heapE, valE, builtinE, callE, assignE, evalO, evalL, optO, ofConst, Tri.gp, lay, unot, AH.new, AB.one, solid, AV.cells, if_true, if_false, reduceIte, Nat.reduceEqDiff, Nat.reduceAdd, Nat.reduceMul, Nat.zero_add, Nat.add_zero, oh, bi, ca, li, lo, bo, len_SL und202 (SL.sl bb 0 2 cap)]; exact rfl)); (focus (exact rfl))) | (apply WO.unwanted; (focus ((simp only [wantedU, Tri.gp, lay, li, lo, bo, reduceIte, Nat.reduceEqDiff, Nat.reduceAdd, beq_self_eq_true]; done))); (focus (exact rfl))))
    refine WF.loop ?_
    repeat (first | refine WF.seq ?_ | refine WF.regionL ?_ | refine WO.nil ?_ | refine WF.block ?_ | refine WF.skip ?_ | refine WF.endBlock ?_ | (apply WF.exit; (focus (exact rfl))) | (apply WO.op; (focus ((simp only [wantedU, Tri.gp, lay, li, lo, bo, reduceIte, Nat.reduceEqDiff, Nat.reduceAdd, beq_self_eq_true]; done))); (focus (simp only [execU, cls, clsConv, clsLen, clsCall, pureX, loadX, newX, effX, pureU, loadU, newU, effU, pickP, buildP, nilP, binP, unP, convP, ifaceP, makeP, sliceP, fieldAddrP, fieldP, indexAddrP, indexP, extractP, builtinP, callP, loadP, boxN, allocN, storeE, storeU, AH.set, over_four, heapE, valE, builtinE, callE, assignE, evalO, evalL, optO, ofConst, Tri.gp, lay, unot, AH.new, AB.one, solid, AV.cells, if_true, if_false, reduceIte, Nat.reduceEqDiff, Nat.reduceAdd, Nat.reduceMul, Nat.zero_add, Nat.add_zero, oh, bi, ca, li, lo, bo, d0]; exact rfl)); (focus (exact rfl))) | (apply WO.unwanted; (focus ((simp only [wantedU, Tri.gp, lay, li, lo, bo, reduceIte, Nat.reduceEqDiff, Nat.reduceAdd, beq_self_eq_true]; done))); (focus (exact rfl))))
    (first | (apply WF.condT; (focus (simp only [evalO, ofConst, Tri.gp, lay, Bool.not_true, Bool.not_false, reduceIte, Nat.reduceEqDiff, d0]; done))) | (apply WF.condF; (focus (simp only [evalO, ofConst, Tri.gp, lay, Bool.not_true, Bool.not_false, reduceIte, Nat.reduceEqDiff, d0]; done))))
    repeat (first | refine WF.seq ?_ | refine WF.regionL ?_ | refine WO.nil ?_ | refine WF.block ?_ | refine WF.skip ?_ | refine WF.endBlock ?_ | (apply WF.exit; (focus (exact rfl))) | (apply WO.op; (focus ((simp only [wantedU, Tri.gp, lay, li, lo, bo, reduceIte, Nat.reduceEqDiff, Nat.reduceAdd, beq_self_eq_true]; done))); (focus (simp only [execU, cls, clsConv, clsLen, clsCall, pureX, loadX, newX, effX, pureU, loadU, newU, effU, pickP, buildP, nilP, binP, unP, convP, ifaceP, makeP, sliceP, fieldAddrP, fieldP, indexAddrP, indexP, extractP, builtinP, callP, loadP, boxN, allocN, storeE, storeU, AH.set, over_four, heapE, valE, builtinE, callE, assignE, evalO, evalL, optO, ofConst, Tri.gp, lay, unot, AH.new, AB.one, solid, AV.cells, if_true, if_false, reduceIte, Nat.reduceEqDiff, Nat.reduceAdd, Nat.reduceMul, Nat.zero_add, Nat.add_zero, oh, bi, ca, li, lo, bo, i0, i1, loadVar_one agg78, hc, hh1, hh2, a1, a2, w2]; exact rfl)); (focus (exact rfl))) | (apply WO.unwanted; (focus ((simp only [wantedU, Tri.gp, lay, li, lo, bo, reduceIte, Nat.reduceEqDiff, Nat.reduceAdd, beq_self_eq_true]; done))); (focus (exact rfl))))
    refine WF.again ?_
    repeat (first | refine WF.seq ?_ | refine WF.regionL ?_ | refine WO.nil ?_ | refine WF.block ?_ | refine WF.skip ?_ | refine WF.endBlock ?_ | (apply WF.exit; (focus (exact rfl))) | (apply WO.op; (focus ((simp only [wantedU, Tri.gp, lay, li, lo, bo, reduceIte, Nat.reduceEqDiff, Nat.reduceAdd, beq_self_eq_true]; done))); (focus (simp only [execU, cls, clsConv, clsLen, clsCall, pureX, loadX, newX, effX, pureU, loadU, newU, effU, pickP, buildP, nilP, binP, unP, convP, ifaceP, makeP, sliceP, fieldAddrP, fieldP, indexAddrP, indexP, extractP, builtinP, callP, loadP, boxN, allocN, storeE, storeU, AH.set, over_four, heapE, valE, builtinE, callE, assignE, evalO, evalL, optO, ofConst, Tri.gp, lay, unot, AH.new, AB.one, solid, AV.cells, if_true, if_false, reduceIte, Nat.reduceEqDiff, Nat.reduceAdd, Nat.reduceMul, Nat.zero_add, Nat.add_zero, oh, bi, ca, li, lo, bo, d1]; exact rfl)); (focus (exact rfl))) | (apply WO.unwanted; (focus ((simp only [wantedU, Tri.gp, lay, li, lo, bo, reduceIte, Nat.reduceEqDiff, Nat.reduceAdd, beq_self_eq_true]; done))); (focus (exact rfl))))
    (first | (apply WF.condT; (focus (simp only [evalO, ofConst, Tri.gp, lay, Bool.not_true, Bool.not_false, reduceIte, Nat.reduceEqDiff, d1]; done))) | (apply WF.condF; (focus (simp only [evalO, ofConst, Tri.gp, lay, Bool.not_true, Bool.not_false, reduceIte, Nat.reduceEqDiff, d1]; done))))
    repeat (first | refine WF.seq ?_ | refine WF.regionL ?_ | refine WO.nil ?_ | refine WF.block ?_ | refine WF.skip ?_ | refine WF.endBlock ?_ | (apply WF.exit; (focus (exact rfl))) | (apply WO.op; (focus ((simp only [wantedU, Tri.gp, lay, li, lo, bo, reduceIte, Nat.reduceEqDiff, Nat.reduceAdd, beq_self_eq_true]; done))); (focus (simp only [execU, cls, clsConv, clsLen, clsCall, pureX, loadX, newX, effX, pureU, loadU, newU, effU, pickP, buildP, nilP, binP, unP, convP, ifaceP, makeP, sliceP, fieldAddrP, fieldP, indexAddrP, indexP, extractP, builtinP, callP, loadP, boxN, allocN, storeE, storeU, AH.set, over_four, heapE, valE, builtinE, callE, assignE, evalO, evalL, optO, ofConst, Tri.gp, lay, unot, AH.new, AB.one, solid, AV.cells, if_true, if_false, reduceIte, Nat.reduceEqDiff, Nat.reduceAdd, Nat.reduceMul, Nat.zero_add, Nat.add_zero, oh, bi, ca, li, lo, bo, i0, i1, loadVar_one agg78, hc, hh1, hh2, a1, a2, w3]; exact rfl)); (focus (exact rfl))) | (apply WO.unwanted; (focus ((simp only [wantedU, Tri.gp, lay, li, lo, bo, reduceIte, Nat.reduceEqDiff, Nat.reduceAdd, beq_self_eq_true]; done))); (focus (exact rfl))))
    refine WF.again ?_
    repeat (first | refine WF.seq ?_ | refine WF.regionL ?_ | refine WO.nil ?_ | refine WF.block ?_ | refine WF.skip ?_ | refine WF.endBlock ?_ | (apply WF.exit; (focus (exact rfl))) | (apply WO.op; (focus ((simp only [wantedU, Tri.gp, lay, li, lo, bo, reduceIte, Nat.reduceEqDiff, Nat.reduceAdd, beq_self_eq_true]; done))); (focus (simp only [execU, cls, clsConv, clsLen, clsCall, pureX, loadX, newX, effX, pureU, loadU, newU, effU, pickP, buildP, nilP, binP, unP, convP, ifaceP, makeP, sliceP, fieldAddrP, fieldP, indexAddrP, indexP, extractP, builtinP, callP, loadP, boxN, allocN, storeE, storeU, AH.set, over_four, heapE, valE, builtinE, callE, assignE, evalO, evalL, optO, ofConst, Tri.gp, lay, unot, AH.new, AB.one, solid, AV.cells, if_true, if_false, reduceIte, Nat.reduceEqDiff, Nat.reduceAdd, Nat.reduceMul, Nat.zero_add, Nat.add_zero, oh, bi, ca, li, lo, bo, d2]; exact rfl)); (focus (exact rfl))) | (apply WO.unwanted; (focus ((simp only [wantedU, Tri.gp, lay, li, lo, bo, reduceIte, Nat.reduceEqDiff, Nat.reduceAdd, beq_self_eq_true]; done))); (focus (exact rfl))))
    (first | (apply WF.condT; (focus (simp only [evalO, ofConst, Tri.gp, lay, Bool.not_true, Bool.not_false, reduceIte, Nat.reduceEqDiff, d2]; done))) | (apply WF.condF; (focus (simp only [evalO, ofConst, Tri.gp, lay, Bool.not_true, Bool.not_false, reduceIte, Nat.reduceEqDiff, d2]; done))))
    repeat (first | refine WF.seq ?_ | refine WF.regionL ?_ | refine WO.nil ?_ | refine WF.block ?_ | refine WF.skip ?_ | refine WF.endBlock ?_ | (apply WF.exit; (focus (exact rfl))) | (apply WO.op; (focus ((simp only [wantedU, Tri.gp, lay, li, lo, bo, reduceIte, Nat.reduceEqDiff, Nat.reduceAdd, beq_self_eq_true]; done))); (focus (simp only [execU, cls, clsConv, clsLen, clsCall, pureX, loadX, newX, effX, pureU, loadU, newU, effU, pickP, buildP, nilP, binP, unP, convP, ifaceP, makeP, sliceP, fieldAddrP, fieldP, indexAddrP, indexP, extractP, builtinP, callP, loadP, boxN, allocN, storeE, storeU, AH.set, over_four, heapE, valE, builtinE, callE, assignE, evalO, evalL, optO, ofConst, Tri.gp, lay, unot, AH.new, AB.one, solid, AV.cells, if_true, if_false, reduceIte, Nat.reduceEqDiff, Nat.reduceAdd, Nat.reduceMul, Nat.zero_add, Nat.add_zero, oh, bi, ca, li, lo, bo]; exact rfl)); (focus (exact rfl))) | (apply WO.unwanted; (focus ((simp only [wantedU, Tri.gp, lay, li, lo, bo, reduceIte, Nat.reduceEqDiff, Nat.reduceAdd, beq_self_eq_true]; done))); (focus (exact rfl))))
    (apply WF.ret; (focus (simp only [resultsU, Tri.gp, lay, resL, reduceIte, Nat.reduceEqDiff, rs61]; exact rfl)))
    exact ⟨Up.refl _, .nil, fun _ _ _ _ h => by cases h⟩
  · obtain ⟨b1, H2, a1, hacc1, hu1⟩ := acc_append hacc hu hr1 (by simp; omega)
    obtain ⟨b2, H3, a2, hacc2, hu2⟩ := acc_append hacc1 hu1 hr2 (by simp; omega)
    have hc1 : H1.cellsAt bb = some [r1, r2] := by rw [hu.cellsAt hb]; exact hc
    have hc2 : H2.cellsAt bb = some [r1, r2] := by rw [hu1.cellsAt hb]; exact hc
    simp only [List.nil_append, List.length_nil] at a1 a2 hacc1 hacc2
    repeat (first | refine WF.seq ?_ | refine WF.regionL ?_ | refine WO.nil ?_ | refine WF.block ?_ | refine WF.skip ?_ | refine WF.endBlock ?_ | (apply WF.exit; (focus (exact rfl))) | (apply WO.op; (focus ((simp only [wantedU, Tri.gp, lay, li, lo, bo, reduceIte, Nat.reduceEqDiff, Nat.reduceAdd, beq_self_eq_true]; done))); (focus (simp only [execU, cls, clsConv, clsLen, clsCall, pureX, loadX, newX, effX, pureU, loadU, newU, effU, pickP, buildP, nilP, binP, unP, convP, ifaceP, makeP, sliceP, fieldAddrP, fieldP, indexAddrP, indexP, extractP, builtinP, callP, loadP, boxN, allocN, storeE, storeU, AH.set, over_four, heapE, valE, builtinE, callE, assignE, evalO, evalL, optO, ofConst, Tri.gp, lay, unot, AH.new, AB.one, solid, AV.cells, if_true, if_false, reduceIte, Nat.reduceEqDiff, Nat.reduceAdd, Nat.reduceMul, Nat.zero_add, Nat.add_zero, oh, bi, ca, li, lo, bo, len_SL und202 (SL.sl bb 0 2 cap)]; exact rfl)); (focus (exact rfl))) | (apply WO.unwanted; (focus ((simp only [wantedU, Tri.gp, lay, li, lo, bo, reduceIte, Nat.reduceEqDiff, Nat.reduceAdd, beq_self_eq_true]; done))); (focus (exact rfl))))
    refine WF.loop ?_
    repeat (first | refine WF.seq ?_ | refine WF.regionL ?_ | refine WO.nil ?_ | refine WF.block ?_ | refine WF.skip ?_ | refine WF.endBlock ?_ | (apply WF.exit; (focus (exact rfl))) | (apply WO.op; (focus ((simp only [wantedU, Tri.gp, lay, li, lo, bo, reduceIte, Nat.reduceEqDiff, Nat.reduceAdd, beq_self_eq_true]; done))); (focus (simp only [execU, cls, clsConv, clsLen, clsCall, pureX, loadX, newX, effX, pureU, loadU, newU, effU, pickP, buildP, nilP, binP, unP, convP, ifaceP, makeP, sliceP, fieldAddrP, fieldP, indexAddrP, indexP, extractP, builtinP, callP, loadP, boxN, allocN, storeE, storeU, AH.set, over_four, heapE, valE, builtinE, callE, assignE, evalO, evalL, optO, ofConst, Tri.gp, lay, unot, AH.new, AB.one, solid, AV.cells, if_true, if_false, reduceIte, Nat.reduceEqDiff, Nat.reduceAdd, Nat.reduceMul, Nat.zero_add, Nat.add_zero, oh, bi, ca, li, lo, bo, d0]; exact rfl)); (focus (exact rfl))) | (apply WO.unwanted; (focus ((simp only [wantedU, Tri.gp, lay, li, lo, bo, reduceIte, Nat.reduceEqDiff, Nat.reduceAdd, beq_self_eq_true]; done))); (focus (exact rfl))))
    (first | (apply WF.condT; (focus (simp only [evalO, ofConst, Tri.gp, lay, Bool.not_true, Bool.not_false, reduceIte, Nat.reduceEqDiff, d0]; done))) | (apply WF.condF; (focus (simp only [evalO, ofConst, Tri.gp, lay, Bool.not_true, Bool.not_false, reduceIte, Nat.reduceEqDiff, d0]; done))))
    repeat (first | refine WF.seq ?_ | refine WF.regionL ?_ | refine WO.nil ?_ | refine WF.block ?_ | refine WF.skip ?_ | refine WF.endBlock ?_ | (apply WF.exit; (focus (exact rfl))) | (apply WO.op; (focus ((simp only [wantedU, Tri.gp, lay, li, lo, bo, reduceIte, Nat.reduceEqDiff, Nat.reduceAdd, beq_self_eq_true]; done))); (focus (simp only [execU, cls, clsConv, clsLen, clsCall, pureX, loadX, newX, effX, pureU, loadU, newU, effU, pickP, buildP, nilP, binP, unP, convP, ifaceP, makeP, sliceP, fieldAddrP, fieldP, indexAddrP, indexP, extractP, builtinP, callP, loadP, boxN, allocN, storeE, storeU, AH.set, over_four, heapE, valE, builtinE, callE, assignE, evalO, evalL, optO, ofConst, Tri.gp, lay, unot, AH.new, AB.one, solid, AV.cells, if_true, if_false, reduceIte, Nat.reduceEqDiff, Nat.reduceAdd, Nat.reduceMul, Nat.zero_add, Nat.add_zero, oh, bi, ca, li, lo, bo, i0, i1, loadVar_one agg78, hc1, hh1, hh2, a1, w2]; exact rfl)); (focus (exact rfl))) | (apply WO.unwanted; (focus ((simp only [wantedU, Tri.gp, lay, li, lo, bo, reduceIte, Nat.reduceEqDiff, Nat.reduceAdd, beq_self_eq_true]; done))); (focus (exact rfl))))
    refine WF.again ?_
    repeat (first | refine WF.seq ?_ | refine WF.regionL ?_ | refine WO.nil ?_ | refine WF.block ?_ | refine WF.skip ?_ | refine WF.endBlock ?_ | (apply WF.exit; (focus (exact rfl))) | (apply WO.op; (focus ((simp only [wantedU, Tri.gp, lay, li, lo, bo, reduceIte, Nat.reduceEqDiff, Nat.reduceAdd, beq_self_eq_true]; done))); (focus (simp only [execU, cls, clsConv, clsLen, clsCall, pureX, loadX, newX, effX, pureU, loadU, newU, effU, pickP, buildP, nilP, binP, unP, convP, ifaceP, makeP, sliceP, fieldAddrP, fieldP, indexAddrP, indexP, extractP, builtinP, callP, loadP, boxN, allocN, storeE, storeU, AH.set, over_four, heapE, valE, builtinE, callE, assignE, evalO, evalL, optO, ofConst, Tri.gp, lay, unot, AH.new, AB.one, solid, AV.cells, if_true, if_false, reduceIte, Nat.reduceEqDiff, Nat.reduceAdd, Nat.reduceMul, Nat.zero_add, Nat.add_zero, oh, bi, ca, li, lo, bo, d1]; exact rfl)); (focus (exact rfl))) | (apply WO.unwanted; (focus ((simp only [wantedU, Tri.gp, lay, li, lo, bo, reduceIte, Nat.reduceEqDiff, Nat.reduceAdd, beq_self_eq_true]; done))); (focus (exact rfl))))
    (first | (apply WF.condT; (focus (simp only [evalO, ofConst, Tri.gp, lay, Bool.not_true, Bool.not_false, reduceIte, Nat.reduceEqDiff, d1]; done))) | (apply WF.condF; (focus (simp only [evalO, ofConst, Tri.gp, lay, Bool.not_true, Bool.not_false, reduceIte, Nat.reduceEqDiff, d1]; done))))
    repeat (first | refine WF.seq ?_ | refine WF.regionL ?_ | refine WO.nil ?_ | refine WF.block ?_ | refine WF.skip ?_ | refine WF.endBlock ?_ | (apply WF.exit; (focus (exact rfl))) | (apply WO.op; (focus ((simp only [wantedU, Tri.gp, lay, li, lo, bo, reduceIte, Nat.reduceEqDiff, Nat.reduceAdd, beq_self_eq_true]; done))); (focus (simp only [execU, cls, clsConv, clsLen, clsCall, pureX, loadX, newX, effX, pureU, loadU, newU, effU, pickP, buildP, nilP, binP, unP, convP, ifaceP, makeP, sliceP, fieldAddrP, fieldP, indexAddrP, indexP, extractP, builtinP, callP, loadP, boxN, allocN, storeE, storeU, AH.set, over_four, heapE, valE, builtinE, callE, assignE, evalO, evalL, optO, ofConst, Tri.gp, lay, unot, AH.new, AB.one, solid, AV.cells, if_true, if_false, reduceIte, Nat.reduceEqDiff, Nat.reduceAdd, Nat.reduceMul, Nat.zero_add, Nat.add_zero, oh, bi, ca, li, lo, bo, i0, i1, loadVar_one agg78, hc2, hh1, hh2, a2, w3]; exact rfl)); (focus (exact rfl))) | (apply WO.unwanted; (focus ((simp only [wantedU, Tri.gp, lay, li, lo, bo, reduceIte, Nat.reduceEqDiff, Nat.reduceAdd, beq_self_eq_true]; done))); (focus (exact rfl))))
    refine WF.again ?_
    repeat (first | refine WF.seq ?_ | refine WF.regionL ?_ | refine WO.nil ?_ | refine WF.block ?_ | refine WF.skip ?_ | refine WF.endBlock ?_ | (apply WF.exit; (focus (exact rfl))) | (apply WO.op; (focus ((simp only [wantedU, Tri.gp, lay, li, lo, bo, reduceIte, Nat.reduceEqDiff, Nat.reduceAdd, beq_self_eq_true]; done))); (focus (simp only [execU, cls, clsConv, clsLen, clsCall, pureX, loadX, newX, effX, pureU, loadU, newU, effU, pickP, buildP, nilP, binP, unP, convP, ifaceP, makeP, sliceP, fieldAddrP, fieldP, indexAddrP, indexP, extractP, builtinP, callP, loadP, boxN, allocN, storeE, storeU, AH.set, over_four, heapE, valE, builtinE, callE, assignE, evalO, evalL, optO, ofConst, Tri.gp, lay, unot, AH.new, AB.one, solid, AV.cells, if_true, if_false, reduceIte, Nat.reduceEqDiff, Nat.reduceAdd, Nat.reduceMul, Nat.zero_add, Nat.add_zero, oh, bi, ca, li, lo, bo, d2]; exact rfl)); (focus (exact rfl))) | (apply WO.unwanted; (focus ((simp only [wantedU, Tri.gp, lay, li, lo, bo, reduceIte, Nat.reduceEqDiff, Nat.reduceAdd, beq_self_eq_true]; done))); (focus (exact rfl))))
    (first | (apply WF.condT; (focus (simp only [evalO, ofConst, Tri.gp, lay, Bool.not_true, Bool.not_false, reduceIte, Nat.reduceEqDiff, d2]; done))) | (apply WF.condF; (focus (simp only [evalO, ofConst, Tri.gp, lay, Bool.not_true, Bool.not_false, reduceIte, Nat.reduceEqDiff, d2]; done))))
    repeat (first | refine WF.seq ?_ | refine WF.regionL ?_ | refine WO.nil ?_ | refine WF.block ?_ | refine WF.skip ?_ | refine WF.endBlock ?_ | (apply WF.exit; (focus (exact rfl))) | (apply WO.op; (focus ((simp only [wantedU, Tri.gp, lay, li, lo, bo, reduceIte, Nat.reduceEqDiff, Nat.reduceAdd, beq_self_eq_true]; done))); (focus (simp only [execU, cls, clsConv, clsLen, clsCall, pureX, loadX, newX, effX, pureU, loadU, newU, effU, pickP, buildP, nilP, binP, unP, convP, ifaceP, makeP, sliceP, fieldAddrP, fieldP, indexAddrP, indexP, extractP, builtinP, callP, loadP, boxN, allocN, storeE, storeU, AH.set, over_four, heapE, valE, builtinE, callE, assignE, evalO, evalL, optO, ofConst, Tri.gp, lay, unot, AH.new, AB.one, solid, AV.cells, if_true, if_false, reduceIte, Nat.reduceEqDiff, Nat.reduceAdd, Nat.reduceMul, Nat.zero_add, Nat.add_zero, oh, bi, ca, li, lo, bo]; exact rfl)); (focus (exact rfl))) | (apply WO.unwanted; (focus ((simp only [wantedU, Tri.gp, lay, li, lo, bo, reduceIte, Nat.reduceEqDiff, Nat.reduceAdd, beq_self_eq_true]; done))); (focus (exact rfl))))
    (apply WF.ret; (focus (simp only [resultsU, Tri.gp, lay, resL, reduceIte, Nat.reduceEqDiff, rs61]; exact rfl)))
    exact ⟨hu2, hacc2.recs hu2 _⟩
end Go.Ev.C
end
section
set_option linter.unusedVariables false
set_option linter.unusedSimpArgs false
set_option linter.defProp false
set_option linter.all false
namespace Go.Ev.C
open Go.Proofs
set_option maxRecDepth 100000
set_option linter.unusedSimpArgs false
variable {L : World → Prop} [Good Q L]
theorem over_get {c vs c' : List AV} {off : Nat} (h : over c off vs = some c') : c'.length = c.length ∧ ∀ j, c'[j]? = if off ≤ j ∧ j < off + vs.length then vs[j - off]? else c[j]? := by
  obtain ⟨hle, _, rfl⟩ := over_some h
  refine ⟨by simp; omega, fun j => ?_⟩
  rw [List.append_assoc, List.getElem?_append]
  simp only [List.length_take]
  rw [Nat.min_eq_left (by omega)]
  by_cases h1 : j < off
  · rw [if_pos h1, if_neg (by omega), List.getElem?_take, if_pos h1]
  · rw [if_neg h1, List.getElem?_append]
    by_cases h2 : j - off < vs.length
    · rw [if_pos h2, if_pos (by omega)]
    · rw [if_neg h2, if_neg (by omega), List.getElem?_drop, show off + vs.length + (j - off - vs.length) = j from by omega]
/-- Data that lie elsewhere. -/
def DataNe (H : AH) (b : Nat) (v : AV) (n : Nat) : Prop := SL v n ∧ ∀ b' off m cap, v = .slice b' off m cap → n ≠ 0 → b' ≠ b ∧ ∃ c r, b' < H.next ∧ H.cellsAt b' = some c ∧ cut c off n = some r ∧ r.all oneA = true
theorem DataNe.data {H : AH} {b : Nat} {v : AV} {n : Nat} (h : DataNe H b v n) : DataAt H v n := ⟨h.1, fun b' off m cap e hn => (h.2 b' off m cap e hn).2⟩
theorem DataNe.up {H H' : AH} (u : Up H H') {b : Nat} {v : AV} {n : Nat} (h : DataNe H b v n) : DataNe H' b v n :=
  ⟨h.1, fun b' off m cap e hn => by
    obtain ⟨h1, c, r, hb, hc, hr⟩ := h.2 b' off m cap e hn
    exact ⟨h1, c, r, Nat.lt_of_lt_of_le hb u.next, by rw [u.cellsAt hb]; exact hc, hr⟩⟩
theorem DataNe.set {H : AH} {b : Nat} {B : AB} {v : AV} {n : Nat} (h : DataNe H b v n) : DataNe (H.set b B) b v n :=
  ⟨h.1, fun b' off m cap e hn => by
    obtain ⟨h1, c, r, hb, hc, hr⟩ := h.2 b' off m cap e hn
    refine ⟨h1, c, r, hb, ?_, hr⟩
    unfold AH.cellsAt AH.set at *
    dsimp only
    rw [Tri.gp, if_neg h1]
    exact hc⟩
/-- Records whose memory was made behind a mark. -/
def DataFrom (lo : Nat) (H : AH) (v : AV) (n : Nat) : Prop := SL v n ∧ ∀ b' off m cap, v = .slice b' off m cap → n ≠ 0 → lo ≤ b' ∧ ∃ c r, b' < H.next ∧ H.cellsAt b' = some c ∧ cut c off n = some r ∧ r.all oneA = true
def RecsFrom (lo : Nat) (H : AH) (v : AV) (l : List RecD) : Prop := SL v l.length ∧ ∀ b off n cap, v = .slice b off n cap → l ≠ [] → ∃ c, lo ≤ b ∧ b < H.next ∧ H.cellsAt b = some c ∧ ∀ (i : Nat) (d : RecD), l[i]? = some d → ∃ dv, DataFrom lo H dv d.n ∧ cut c (off + i * 3) 3 = some [.int .i64 d.id, .int .i64 d.tm, dv]
theorem set_cellsAt {H : AH} {b m : Nat} {B : AB} (h : b ≠ m) : (H.set m B).cellsAt b = H.cellsAt b := by
  unfold AH.cellsAt AH.set
  dsimp only
  rw [Tri.gp, if_neg h]
theorem RecsFrom.set {lo m : Nat} {H : AH} {v : AV} {l : List RecD} (h : RecsFrom lo H v l) (hm : m < lo) (B : AB) : RecsAt (H.set m B) v l :=
  ⟨h.1, fun b off n cap e hn => by
    obtain ⟨c, h1, h2, h3, h4⟩ := h.2 b off n cap e hn
    refine ⟨c, h2, by rw [set_cellsAt (by omega)]; exact h3, fun i d hi => ?_⟩
    obtain ⟨dv, hd, hc⟩ := h4 i d hi
    refine ⟨dv, ⟨hd.1, fun b' off m' cap e hn => ?_⟩, hc⟩
    obtain ⟨k1, c', r, k2, k3, k4⟩ := hd.2 b' off m' cap e hn
    exact ⟨c', r, k2, by rw [set_cellsAt (by omega)]; exact k3, k4⟩⟩
/-- A list of the run's own: the data of the first i records were made behind a mark. -/
def OwnNe (lo i : Nat) (H : AH) (b : Nat) (l : List RecD) : Prop := ∃ c, H.t.get b = some (.cells 87 c 0 false false) ∧ b < H.next ∧ c.length = l.length * 3 ∧ ∀ (j : Nat) (d : RecD), l[j]? = some d → ∃ dv, DataNe H b dv d.n ∧ (j < i → ∀ b' off m cap, dv = .slice b' off m cap → lo ≤ b') ∧ cut c (j * 3) 3 = some [.int .i64 d.id, .int .i64 d.tm, dv]
theorem OwnNe.recs {lo : Nat} {H : AH} {b : Nat} {l : List RecD} (h : OwnNe lo l.length H b l) (hb0 : lo ≤ b) (cap : Cap) : RecsFrom lo H (.slice b 0 l.length cap) l := by
  obtain ⟨c, hg, hb, h1, h4⟩ := h
  refine ⟨.sl _ _ _ _, fun b' off n cap' e _ => ?_⟩
  cases e
  refine ⟨c, hb0, hb, by unfold AH.cellsAt; rw [hg], fun i d hi => ?_⟩
  obtain ⟨dv, hd, hlo, hc⟩ := h4 i d hi
  exact ⟨dv, ⟨hd.1, fun b' off m cap e hn => ⟨hlo (List.getElem?_eq_some_iff.1 hi).1 b' off m cap e, (hd.2 b' off m cap e hn).2⟩⟩, by rw [Nat.zero_add]; exact hc⟩
/-- A record's data are put in another place. -/
theorem OwnNe.put {lo : Nat} {H H1 : AH} {b : Nat} {l : List RecD} {i : Nat} (h : OwnNe lo i H b l) (hlo : lo ≤ H.next) (hi : i < l.length) (hu : Up H H1) {v : AV} (hv : DataAt H1 v l[i].n) (hnew : ∀ b' off m cap, v = .slice b' off m cap → H.next ≤ b') :
    ∃ c c', H1.t.get b = some (.cells 87 c 0 false false) ∧ over c (i * 3 + 2) [v] = some c' ∧ OwnNe lo (i + 1) (H1.set b (.cells 87 c' 0 false false)) b l := by
  obtain ⟨c, hg, hb, h1, h4⟩ := h
  have hone := hv.1.one
  have hov : over c (i * 3 + 2) [v] = some (c.take (i * 3 + 2) ++ [v] ++ c.drop (i * 3 + 2 + 1)) := by
    unfold over
    rw [if_pos]
    · rfl
    · simp [hone]; omega
  refine ⟨c, _, by rw [hu.old b hb]; exact hg, hov, _, by unfold AH.set; rw [Tri.gp, if_pos rfl], Nat.lt_of_lt_of_le hb hu.next, by rw [(over_get hov).1]; exact h1, fun j d hj => ?_⟩
  obtain ⟨dv, hd, hlod, hcut⟩ := h4 j d hj
  obtain ⟨hl, hget⟩ := over_get hov
  obtain ⟨k1, k2⟩ := cut_iff.1 hcut
  by_cases e : j = i
  · subst e
    have hdj : d = l[j] := by rw [List.getElem?_eq_getElem hi] at hj; exact (Option.some.inj hj).symm
    subst hdj
    refine ⟨v, DataNe.set ⟨hv.1, fun b' off m cap e hn => ⟨by have := hnew b' off m cap e; omega, hv.2 b' off m cap e hn⟩⟩, fun _ b' off m cap e => Nat.le_trans hlo (hnew b' off m cap e), cut_iff.2 ⟨rfl, fun q hq => ?_⟩⟩
    rw [hget]
    rcases Nat.lt_or_ge q 2 with h2 | h2
    · obtain ⟨w, p1, p2, p3⟩ := k2 q hq
      refine ⟨w, by rw [if_neg (by omega)]; exact p1, p2, ?_⟩
      rcases (show q = 0 ∨ q = 1 from by omega) with rfl | rfl <;> exact p3
    · obtain rfl : q = 2 := by omega
      exact ⟨v, by rw [if_pos (by simp)]; simp, hv.1.solid, rfl⟩
  · refine ⟨dv, (hd.up hu).set, fun hji => hlod (by omega), cut_iff.2 ⟨k1, fun q hq => ?_⟩⟩
    obtain ⟨w, p1, p2, p3⟩ := k2 q hq
    refine ⟨w, ?_, p2, p3⟩
    rw [hget, if_neg (by simp; omega)]
    exact p1
theorem OwnNe.at {lo i0 : Nat} {H : AH} {b : Nat} {l : List RecD} (h : OwnNe lo i0 H b l) {i : Nat} (hi : i < l.length) : ∃ c dv, H.cellsAt b = some c ∧ DataAt H dv l[i].n ∧ c[i * 3 + 2]? = some dv := by
  obtain ⟨c, hg, hb, h1, h4⟩ := h
  obtain ⟨dv, hd, _, hcut⟩ := h4 i _ (List.getElem?_eq_getElem hi)
  obtain ⟨w, p1, _, p3⟩ := (cut_iff.1 hcut).2 2 (by omega)
  cases p3
  exact ⟨c, dv, by unfold AH.cellsAt; rw [hg], hd.data, p1⟩

theorem store35 {H : AH} {b off : Nat} {c c' : List AV} {v : AV} {n : Nat} (hs : SL v n) (hg : H.t.get b = some (.cells 87 c 0 false false)) (ho : over c off [v] = some c') : storeU Q 35 b off v H = some (H.set b (.cells 87 c' 0 false false)) := by
  unfold storeU
  rw [hg, sz35]
  have hv : v.cells = [v] := by cases hs <;> rfl
  simp [hv, ho]

theorem copies_c (H : AH) (rv : AV) (l : List RecD) (hr : RecsAt H rv l) (hn : l.length ≤ 100000000) (hd : ∀ d ∈ l, d.n ≤ 100000000) : Fn Q L 60 [rv] H (fun v H' => Up H H' ∧ RecsFrom H.next H' v l) := by
  refine Fn.intro (en60 _) ?_
  unfold c60 Tryz.f60
  simp only [Option.getD_some]
  repeat (first | refine WF.seq ?_ | refine WF.regionL ?_ | refine WO.nil ?_ | refine WF.block ?_ | refine WF.skip ?_ | refine WF.endBlock ?_ | (apply WF.exit; (focus (exact rfl))) | (apply WO.op; (focus ((simp only [wantedU, Tri.gp, lay, li, lo, bo, reduceIte, Nat.reduceEqDiff, Nat.reduceAdd, beq_self_eq_true]; done))); (focus (simp only [execU, cls, clsConv, clsLen, clsCall, pureX, loadX, newX, effX, pureU, loadU, newU, effU, pickP, buildP, nilP, binP, unP, convP, ifaceP, makeP, sliceP, fieldAddrP, fieldP, indexAddrP, indexP, extractP, builtinP, callP, loadP, boxN, allocN, storeE, storeU, AH.set, over_four, heapE, valE, builtinE, callE, assignE, evalO, evalL, optO, ofConst, Tri.gp, lay, unot, AH.new, AB.one, solid, AV.cells, if_true, if_false, reduceIte, Nat.reduceEqDiff, Nat.reduceAdd, Nat.reduceMul, Nat.zero_add, Nat.add_zero, oh, bi, ca, li, lo, bo]; exact rfl)); (focus (exact rfl))) | (apply WO.unwanted; (focus ((simp only [wantedU, Tri.gp, lay, li, lo, bo, reduceIte, Nat.reduceEqDiff, Nat.reduceAdd, beq_self_eq_true]; done))); (focus (exact rfl))))
  (apply WO.call; (focus ((simp only [wantedU, Tri.gp, lay, li, lo, bo, reduceIte, Nat.reduceEqDiff, Nat.reduceAdd, beq_self_eq_true]; done))); (focus (simp only [execU, cls, clsConv, clsLen, clsCall, pureX, loadX, newX, effX, pureU, loadU, newU, effU, pickP, buildP, nilP, binP, unP, convP, ifaceP, makeP, sliceP, fieldAddrP, fieldP, indexAddrP, indexP, extractP, builtinP, callP, loadP, boxN, allocN, storeE, storeU, AH.set, over_four, heapE, valE, builtinE, callE, assignE, evalO, evalL, optO, ofConst, Tri.gp, lay, unot, AH.new, AB.one, solid, AV.cells, if_true, if_false, reduceIte, Nat.reduceEqDiff, Nat.reduceAdd, Nat.reduceMul, Nat.zero_add, Nat.add_zero, oh, bi, ca, li, lo, bo, cu101]; exact rfl)); (focus (exact cloneR_c _ _ _ hr hn)); rintro v H1 ⟨hu, hv⟩; refine ⟨_, rfl, ?_⟩)
  have hvs : SL v l.length := by
    rcases hv with ⟨rfl, rfl | ⟨b, rfl⟩⟩ | ⟨_, b, _, rfl, _⟩ <;> constructor
  repeat (first | refine WF.seq ?_ | refine WF.regionL ?_ | refine WO.nil ?_ | refine WF.block ?_ | refine WF.skip ?_ | refine WF.endBlock ?_ | (apply WF.exit; (focus (exact rfl))) | (apply WO.op; (focus ((simp only [wantedU, Tri.gp, lay, li, lo, bo, reduceIte, Nat.reduceEqDiff, Nat.reduceAdd, beq_self_eq_true]; done))); (focus (simp only [execU, cls, clsConv, clsLen, clsCall, pureX, loadX, newX, effX, pureU, loadU, newU, effU, pickP, buildP, nilP, binP, unP, convP, ifaceP, makeP, sliceP, fieldAddrP, fieldP, indexAddrP, indexP, extractP, builtinP, callP, loadP, boxN, allocN, storeE, storeU, AH.set, over_four, heapE, valE, builtinE, callE, assignE, evalO, evalL, optO, ofConst, Tri.gp, lay, unot, AH.new, AB.one, solid, AV.cells, if_true, if_false, reduceIte, Nat.reduceEqDiff, Nat.reduceAdd, Nat.reduceMul, Nat.zero_add, Nat.add_zero, oh, bi, ca, li, lo, bo, len_SL und78 hvs]; exact rfl)); (focus (exact rfl))) | (apply WO.unwanted; (focus ((simp only [wantedU, Tri.gp, lay, li, lo, bo, reduceIte, Nat.reduceEqDiff, Nat.reduceAdd, beq_self_eq_true]; done))); (focus (exact rfl))))
  rcases hv with ⟨rfl, hv⟩ | ⟨hne, b, hb, rfl, hown⟩
  · have d0 : decide ((0 : Int) < ((([] : List RecD).length : Nat) : Int)) = false := by decide
    refine WF.loop ?_
    repeat (first | refine WF.seq ?_ | refine WF.regionL ?_ | refine WO.nil ?_ | refine WF.block ?_ | refine WF.skip ?_ | refine WF.endBlock ?_ | (apply WF.exit; (focus (exact rfl))) | (apply WO.op; (focus ((simp only [wantedU, Tri.gp, lay, li, lo, bo, reduceIte, Nat.reduceEqDiff, Nat.reduceAdd, beq_self_eq_true]; done))); (focus (simp only [execU, cls, clsConv, clsLen, clsCall, pureX, loadX, newX, effX, pureU, loadU, newU, effU, pickP, buildP, nilP, binP, unP, convP, ifaceP, makeP, sliceP, fieldAddrP, fieldP, indexAddrP, indexP, extractP, builtinP, callP, loadP, boxN, allocN, storeE, storeU, AH.set, over_four, heapE, valE, builtinE, callE, assignE, evalO, evalL, optO, ofConst, Tri.gp, lay, unot, AH.new, AB.one, solid, AV.cells, if_true, if_false, reduceIte, Nat.reduceEqDiff, Nat.reduceAdd, Nat.reduceMul, Nat.zero_add, Nat.add_zero, oh, bi, ca, li, lo, bo, d0]; exact rfl)); (focus (exact rfl))) | (apply WO.unwanted; (focus ((simp only [wantedU, Tri.gp, lay, li, lo, bo, reduceIte, Nat.reduceEqDiff, Nat.reduceAdd, beq_self_eq_true]; done))); (focus (exact rfl))))
    (first | (apply WF.condT; (focus (simp only [evalO, ofConst, Tri.gp, lay, Bool.not_true, Bool.not_false, reduceIte, Nat.reduceEqDiff, d0]; done))) | (apply WF.condF; (focus (simp only [evalO, ofConst, Tri.gp, lay, Bool.not_true, Bool.not_false, reduceIte, Nat.reduceEqDiff, d0]; done))))
    repeat (first | refine WF.seq ?_ | refine WF.regionL ?_ | refine WO.nil ?_ | refine WF.block ?_ | refine WF.skip ?_ | refine WF.endBlock ?_ | (apply WF.exit; (focus (exact rfl))) | (apply WO.op; (focus ((simp only [wantedU, Tri.gp, lay, li, lo, bo, reduceIte, Nat.reduceEqDiff, Nat.reduceAdd, beq_self_eq_true]; done))); (focus (simp only [execU, cls, clsConv, clsLen, clsCall, pureX, loadX, newX, effX, pureU, loadU, newU, effU, pickP, buildP, nilP, binP, unP, convP, ifaceP, makeP, sliceP, fieldAddrP, fieldP, indexAddrP, indexP, extractP, builtinP, callP, loadP, boxN, allocN, storeE, storeU, AH.set, over_four, heapE, valE, builtinE, callE, assignE, evalO, evalL, optO, ofConst, Tri.gp, lay, unot, AH.new, AB.one, solid, AV.cells, if_true, if_false, reduceIte, Nat.reduceEqDiff, Nat.reduceAdd, Nat.reduceMul, Nat.zero_add, Nat.add_zero, oh, bi, ca, li, lo, bo]; exact rfl)); (focus (exact rfl))) | (apply WO.unwanted; (focus ((simp only [wantedU, Tri.gp, lay, li, lo, bo, reduceIte, Nat.reduceEqDiff, Nat.reduceAdd, beq_self_eq_true]; done))); (focus (exact rfl))))
    (apply WF.ret; (focus (simp only [resultsU, Tri.gp, lay, resL, reduceIte, Nat.reduceEqDiff, rs60]; exact rfl)))
    exact ⟨hu, hvs, fun _ _ _ _ _ h => absurd rfl h⟩
  · have hown0 : OwnNe H.next 0 H1 b l := by
      obtain ⟨c, hg, hb1, h1, h2, h3, h4⟩ := hown
      refine ⟨c, hg, hb1, h1, fun i d hi => ?_⟩
      obtain ⟨dv, hdd, hcut⟩ := h4 i d hi
      refine ⟨dv, ⟨hdd.1, fun b' off m cap e hn0 => ?_⟩, fun h => by omega, hcut⟩
      obtain ⟨_, _, hlt, _⟩ := hdd.2 b' off m cap e hn0
      exact ⟨by omega, (hdd.up hu).2 b' off m cap e hn0⟩
    refine WF.while (fun m t H' => ∃ i : Nat, Up H H' ∧ i + m = l.length ∧ OwnNe H.next i H' b l ∧ t.get 0 = some (.slice b 0 l.length (.up 3)) ∧ t.get 7 = some (.int .i64 (l.length : Int)) ∧ t.get 8 = some (.int .i64 (i : Int))) l.length ?_ ?_
    · refine ⟨0, hu, by omega, hown0, ?_, ?_, ?_⟩ <;> simp [Tri.gp, lay]
    rintro m t H' ⟨i, hu', him, hown', ht0, ht7, ht8⟩ ih
    by_cases hi : i < l.length
    · have hlt : decide ((i : Int) < (l.length : Int)) = true := by simp; omega
      obtain ⟨c, dv, hc, hdd, hcell⟩ := hown'.at hi
      have hsol := hdd.1.solid
      repeat (first | refine WF.seq ?_ | refine WF.regionL ?_ | refine WO.nil ?_ | refine WF.block ?_ | refine WF.skip ?_ | refine WF.endBlock ?_ | (apply WF.exit; (focus (exact rfl))) | (apply WO.op; (focus ((simp only [wantedU, Tri.gp, lay, li, lo, bo, reduceIte, Nat.reduceEqDiff, Nat.reduceAdd, beq_self_eq_true]; done))); (focus (simp only [execU, cls, clsConv, clsLen, clsCall, pureX, loadX, newX, effX, pureU, loadU, newU, effU, pickP, buildP, nilP, binP, unP, convP, ifaceP, makeP, sliceP, fieldAddrP, fieldP, indexAddrP, indexP, extractP, builtinP, callP, loadP, boxN, allocN, storeE, storeU, AH.set, over_four, heapE, valE, builtinE, callE, assignE, evalO, evalL, optO, ofConst, Tri.gp, lay, unot, AH.new, AB.one, solid, AV.cells, if_true, if_false, reduceIte, Nat.reduceEqDiff, Nat.reduceAdd, Nat.reduceMul, Nat.zero_add, Nat.add_zero, oh, bi, ca, li, lo, bo, und78, ht0, ht7, ht8, hlt]; exact rfl)); (focus (exact rfl))) | (apply WO.unwanted; (focus ((simp only [wantedU, Tri.gp, lay, li, lo, bo, reduceIte, Nat.reduceEqDiff, Nat.reduceAdd, beq_self_eq_true]; done))); (focus (exact rfl))))
      (first | (apply WF.condT; (focus (simp only [evalO, ofConst, Tri.gp, lay, Bool.not_true, Bool.not_false, reduceIte, Nat.reduceEqDiff, hlt]; done))) | (apply WF.condF; (focus (simp only [evalO, ofConst, Tri.gp, lay, Bool.not_true, Bool.not_false, reduceIte, Nat.reduceEqDiff, hlt]; done))))
      repeat (first | refine WF.seq ?_ | refine WF.regionL ?_ | refine WO.nil ?_ | refine WF.block ?_ | refine WF.skip ?_ | refine WF.endBlock ?_ | (apply WF.exit; (focus (exact rfl))) | (apply WO.op; (focus ((simp only [wantedU, Tri.gp, lay, li, lo, bo, reduceIte, Nat.reduceEqDiff, Nat.reduceAdd, beq_self_eq_true]; done))); (focus (simp only [execU, cls, clsConv, clsLen, clsCall, pureX, loadX, newX, effX, pureU, loadU, newU, effU, pickP, buildP, nilP, binP, unP, convP, ifaceP, makeP, sliceP, fieldAddrP, fieldP, indexAddrP, indexP, extractP, builtinP, callP, loadP, boxN, allocN, storeE, storeU, AH.set, over_four, heapE, valE, builtinE, callE, assignE, evalO, evalL, optO, ofConst, Tri.gp, lay, unot, AH.new, AB.one, solid, AV.cells, if_true, if_false, reduceIte, Nat.reduceEqDiff, Nat.reduceAdd, Nat.reduceMul, Nat.zero_add, Nat.add_zero, oh, bi, ca, li, lo, bo, und78, ht0, ht7, ht8, hlt, index_SL und78 sz87 hi, fa87_2, loadVar_one agg35, hc, hcell, hsol]; exact rfl)); (focus (exact rfl))) | (apply WO.unwanted; (focus ((simp only [wantedU, Tri.gp, lay, li, lo, bo, reduceIte, Nat.reduceEqDiff, Nat.reduceAdd, beq_self_eq_true]; done))); (focus (exact rfl))))
      (apply WO.call; (focus ((simp only [wantedU, Tri.gp, lay, li, lo, bo, reduceIte, Nat.reduceEqDiff, Nat.reduceAdd, beq_self_eq_true]; done))); (focus (simp only [execU, cls, clsConv, clsLen, clsCall, pureX, loadX, newX, effX, pureU, loadU, newU, effU, pickP, buildP, nilP, binP, unP, convP, ifaceP, makeP, sliceP, fieldAddrP, fieldP, indexAddrP, indexP, extractP, builtinP, callP, loadP, boxN, allocN, storeE, storeU, AH.set, over_four, heapE, valE, builtinE, callE, assignE, evalO, evalL, optO, ofConst, Tri.gp, lay, unot, AH.new, AB.one, solid, AV.cells, if_true, if_false, reduceIte, Nat.reduceEqDiff, Nat.reduceAdd, Nat.reduceMul, Nat.zero_add, Nat.add_zero, oh, bi, ca, li, lo, bo, und78, ht0, ht7, ht8, cu102]; exact rfl)); (focus (exact cloneB_c _ _ _ hdd (hd _ (List.getElem_mem _)))); rintro v2 H2 ⟨hu2, hv2, hnew⟩; refine ⟨_, rfl, ?_⟩)
      obtain ⟨c1, c2, hg, ho, hown2⟩ := hown'.put hu'.next hi hu2 hv2 hnew
      have hst := store35 hv2.1 hg ho
      repeat (first | refine WF.seq ?_ | refine WF.regionL ?_ | refine WO.nil ?_ | refine WF.block ?_ | refine WF.skip ?_ | refine WF.endBlock ?_ | (apply WF.exit; (focus (exact rfl))) | (apply WO.op; (focus ((simp only [wantedU, Tri.gp, lay, li, lo, bo, reduceIte, Nat.reduceEqDiff, Nat.reduceAdd, beq_self_eq_true]; done))); (focus (simp only [execU, cls, clsConv, clsLen, clsCall, pureX, loadX, newX, effX, pureU, loadU, newU, effU, pickP, buildP, nilP, binP, unP, convP, ifaceP, makeP, sliceP, fieldAddrP, fieldP, indexAddrP, indexP, extractP, builtinP, callP, loadP, boxN, allocN, storeE, over_four, heapE, valE, builtinE, callE, assignE, evalO, evalL, optO, ofConst, Tri.gp, lay, unot, AH.new, AB.one, solid, AV.cells, if_true, if_false, reduceIte, Nat.reduceEqDiff, Nat.reduceAdd, Nat.reduceMul, Nat.zero_add, Nat.add_zero, oh, bi, ca, li, lo, bo, und78, ht0, ht7, ht8, index_SL und78 sz87 hi, fa87_2, hst]; exact rfl)); (focus (exact rfl))) | (apply WO.unwanted; (focus ((simp only [wantedU, Tri.gp, lay, li, lo, bo, reduceIte, Nat.reduceEqDiff, Nat.reduceAdd, beq_self_eq_true]; done))); (focus (exact rfl))))
      refine WF.again ?_
      refine ih (m - 1) _ _ (by omega) ⟨i + 1, ?_, by omega, hown2, ?_, ?_, ?_⟩
      · exact (hu'.trans hu2).set hb
      · simp [Tri.gp, ht0]
      · simp [Tri.gp, ht7]
      · simp only [Tri.gp, reduceIte]
        rw [w64 (by omega) (by omega)]
        simp
    · have hlt : decide ((i : Int) < (l.length : Int)) = false := by simp; omega
      repeat (first | refine WF.seq ?_ | refine WF.regionL ?_ | refine WO.nil ?_ | refine WF.block ?_ | refine WF.skip ?_ | refine WF.endBlock ?_ | (apply WF.exit; (focus (exact rfl))) | (apply WO.op; (focus ((simp only [wantedU, Tri.gp, lay, li, lo, bo, reduceIte, Nat.reduceEqDiff, Nat.reduceAdd, beq_self_eq_true]; done))); (focus (simp only [execU, cls, clsConv, clsLen, clsCall, pureX, loadX, newX, effX, pureU, loadU, newU, effU, pickP, buildP, nilP, binP, unP, convP, ifaceP, makeP, sliceP, fieldAddrP, fieldP, indexAddrP, indexP, extractP, builtinP, callP, loadP, boxN, allocN, storeE, storeU, AH.set, over_four, heapE, valE, builtinE, callE, assignE, evalO, evalL, optO, ofConst, Tri.gp, lay, unot, AH.new, AB.one, solid, AV.cells, if_true, if_false, reduceIte, Nat.reduceEqDiff, Nat.reduceAdd, Nat.reduceMul, Nat.zero_add, Nat.add_zero, oh, bi, ca, li, lo, bo, und78, ht0, ht7, ht8, hlt]; exact rfl)); (focus (exact rfl))) | (apply WO.unwanted; (focus ((simp only [wantedU, Tri.gp, lay, li, lo, bo, reduceIte, Nat.reduceEqDiff, Nat.reduceAdd, beq_self_eq_true]; done))); (focus (exact rfl))))
      (first | (apply WF.condT; (focus (simp only [evalO, ofConst, Tri.gp, lay, Bool.not_true, Bool.not_false, reduceIte, Nat.reduceEqDiff, hlt]; done))) | (apply WF.condF; (focus (simp only [evalO, ofConst, Tri.gp, lay, Bool.not_true, Bool.not_false, reduceIte, Nat.reduceEqDiff, hlt]; done))))
      repeat (first | refine WF.seq ?_ | refine WF.regionL ?_ | refine WO.nil ?_ | refine WF.block ?_ | refine WF.skip ?_ | refine WF.endBlock ?_ | (apply WF.exit; (focus (exact rfl))) | (apply WO.op; (focus ((simp only [wantedU, Tri.gp, lay, li, lo, bo, reduceIte, Nat.reduceEqDiff, Nat.reduceAdd, beq_self_eq_true]; done))); (focus (simp only [execU, cls, clsConv, clsLen, clsCall, pureX, loadX, newX, effX, pureU, loadU, newU, effU, pickP, buildP, nilP, binP, unP, convP, ifaceP, makeP, sliceP, fieldAddrP, fieldP, indexAddrP, indexP, extractP, builtinP, callP, loadP, boxN, allocN, storeE, storeU, AH.set, over_four, heapE, valE, builtinE, callE, assignE, evalO, evalL, optO, ofConst, Tri.gp, lay, unot, AH.new, AB.one, solid, AV.cells, if_true, if_false, reduceIte, Nat.reduceEqDiff, Nat.reduceAdd, Nat.reduceMul, Nat.zero_add, Nat.add_zero, oh, bi, ca, li, lo, bo, und78, ht0, ht7, ht8, hlt]; exact rfl)); (focus (exact rfl))) | (apply WO.unwanted; (focus ((simp only [wantedU, Tri.gp, lay, li, lo, bo, reduceIte, Nat.reduceEqDiff, Nat.reduceAdd, beq_self_eq_true]; done))); (focus (exact rfl))))
      (apply WF.ret; (focus (simp only [resultsU, Tri.gp, lay, resL, reduceIte, Nat.reduceEqDiff, rs60, ht0]; exact rfl)))
      obtain rfl : i = l.length := by omega
      exact ⟨hu', hown'.recs hb _⟩
end Go.Ev.C
end
