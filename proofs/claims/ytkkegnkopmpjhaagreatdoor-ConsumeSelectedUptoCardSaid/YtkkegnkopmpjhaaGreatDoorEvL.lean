/- The law, walked whole; its arguments. -/
import Derived.Test.YtkkegnkopmpjhaaGreatDoorEvK
import Derived.Test.YtkkegnkopmpjhaaGreatDoorEvM
section
set_option linter.unusedVariables false
set_option linter.unusedSimpArgs false
set_option linter.defProp false
set_option linter.all false
namespace Go.Ev.C
open Go.Proofs
set_option maxRecDepth 100000
set_option linter.unusedSimpArgs false
variable {L : World → Prop} [Good Q L]
theorem bin_neB (a b : Bool) : binU Q .neq 4 (.bool a) (.bool b) = some (.bool !(a == b)) := bin_neqB und4 a b
set_option maxHeartbeats 4000000 in
theorem end_w (H : AH) (cpu dr : Int) (ah : Bool) (rv rx ry rz rw v1 v2 : AV) (b3 b8 b17 b19 b21 : Nat) (l lz : List RecD) (ids : List Int)
    (hc3 : H.cellsAt b3 = some [.int .i64 cpu, rv, .int .i64 dr, .bool ah]) (hc8 : H.cellsAt b8 = some [.int .i64 cpu, rx, .int .i64 dr, .bool ah]) (hc17 : H.cellsAt b17 = some [.int .i64 cpu, ry, .int .i64 dr, .bool ah])
    (hc19 : H.cellsAt b19 = some [.int .i64 cpu, rz, .int .i64 dr, .bool ah]) (hc21 : H.cellsAt b21 = some [.int .i64 cpu, rw, .int .i64 dr, .bool ah])
    (hr : RecsAt H rv l) (hx : RecsAt H rx (l.filter fun d => ids.contains d.id)) (hy : RecsAt H ry (l.filter fun d => !ids.contains d.id)) (hz : RecsAt H rz lz) (hw : RecsAt H rw lz) (hl : l.length ≤ 1000) (hlz : lz.length ≤ 1000) (h8 : ∀ d ∈ l, U8 d.r) (h8z : ∀ d ∈ lz, U8 d.r)
    (t : Tri AV) (hS : Sel2 t v1 v2 b3 b8 b17) (t18 : t.get 18 = some (.int .i64 0)) (t19 : t.get 19 = some (.ptr b19 0)) (t20 : t.get 20 = some (.int .i64 0)) (t21 : t.get 21 = some (.ptr b21 0)) (t22 : t.get 22 = some (.int .i64 0)) :
    WF Q L (PF 9 225 t [.code (sub [1, 1, 1, 1, 1, 1, 1, 1, 1, 1, 1] c9)]) H (Ret Q 9 fun v _ => v = .bool true) := by
  have hs := hr.1
  have hsx := hx.1
  have hsy := hy.1
  have hsz := hz.1
  have hsw := hw.1
  obtain ⟨⟨t1, t2, t3, t7, t8⟩, t17⟩ := id hS
  have q0 : decide ((0 : Int) = 0) = true := rfl
  have q1 : decide (cpu = cpu) = true := by simp
  have q2 : decide (dr = dr) = true := by simp
  have q3 : (ah == ah) = true := by simp
  unfold c9 Tryz.f9
  simp only [Option.getD_some, sub]
  repeat (first | refine WF.seq ?_ | refine WF.regionL ?_ | refine WO.nil ?_ | refine WF.block ?_ | refine WF.skip ?_ | refine WF.endBlock ?_ | (apply WF.exit; (focus (exact rfl))) | (apply WO.op; (focus ((simp only [rO, wantedU, lay, decide_true, li, lo, reduceIte, Nat.reduceEqDiff, Nat.reduceAdd, beq_self_eq_true, q0, q1, q2, q3]; done))); (focus (simp only [rE, rO, li, lo, lay, evalL, ofConst, storeU, AH.set, AV.cells, decide_true, if_true, if_false, reduceIte, Nat.reduceEqDiff, Nat.reduceAdd, Nat.reduceMul, und78, len_SL und78 hsx, len_SL und78 hsy, fa80_0, fa80_1, fa80_2, fa80_3, loadVar_one agg3, loadVar_one agg4, loadVar_one agg78, loadVar_agg agg80 sz80, bin_neB, hc3, hc8, hc17, hc19, hc21, cut_four, hole_int, hole_bool, hsx.solid, hsy.solid, hsz.solid, hsw.solid, hs.solid, t3, t7, t8, t17, t18, t19, t20, t21, t22, q0, q1, q2, q3, cu29]; exact rfl)); (focus (exact rfl))) | (apply WO.unwanted; (focus ((simp only [rO, wantedU, lay, decide_true, li, lo, reduceIte, Nat.reduceEqDiff, Nat.reduceAdd, beq_self_eq_true, q0, q1, q2, q3]; done))); (focus (exact rfl))))
  (apply WO.call; (focus ((simp only [rO, wantedU, lay, decide_true, li, lo, reduceIte, Nat.reduceEqDiff, Nat.reduceAdd, beq_self_eq_true, q0, q1, q2, q3]; done))); (focus (simp only [rE, rO, li, lo, lay, evalL, ofConst, storeU, AH.set, AV.cells, decide_true, if_true, if_false, reduceIte, Nat.reduceEqDiff, Nat.reduceAdd, Nat.reduceMul, und78, len_SL und78 hsx, len_SL und78 hsy, fa80_0, fa80_1, fa80_2, fa80_3, loadVar_one agg3, loadVar_one agg4, loadVar_one agg78, loadVar_agg agg80 sz80, bin_neB, hc3, hc8, hc17, hc19, hc21, cut_four, hole_int, hole_bool, hsx.solid, hsy.solid, hsz.solid, hsw.solid, hs.solid, t3, t7, t8, t17, t18, t19, t20, t21, t22, q0, q1, q2, q3, cu29]; exact rfl)); (focus (exact sameB_c _ _ _ _ _ _ _ hz hw h8z (by omega))); rintro _ H ⟨rfl, rfl⟩; refine ⟨_, rfl, ?_⟩)
  repeat (first | refine WF.seq ?_ | refine WF.regionL ?_ | refine WO.nil ?_ | refine WF.block ?_ | refine WF.skip ?_ | refine WF.endBlock ?_ | (apply WF.exit; (focus (exact rfl))) | (apply WO.op; (focus ((simp only [rO, wantedU, lay, decide_true, li, lo, reduceIte, Nat.reduceEqDiff, Nat.reduceAdd, beq_self_eq_true, q0, q1, q2, q3]; done))); (focus (simp only [rE, rO, li, lo, lay, evalL, ofConst, storeU, AH.set, AV.cells, decide_true, if_true, if_false, reduceIte, Nat.reduceEqDiff, Nat.reduceAdd, Nat.reduceMul, und78, len_SL und78 hsx, len_SL und78 hsy, fa80_0, fa80_1, fa80_2, fa80_3, loadVar_one agg3, loadVar_one agg4, loadVar_one agg78, loadVar_agg agg80 sz80, bin_neB, hc3, hc8, hc17, hc19, hc21, cut_four, hole_int, hole_bool, hsx.solid, hsy.solid, hsz.solid, hsw.solid, hs.solid, t3, t7, t8, t17, t18, t19, t20, t21, t22, q0, q1, q2, q3, cu29]; exact rfl)); (focus (exact rfl))) | (apply WO.unwanted; (focus ((simp only [rO, wantedU, lay, decide_true, li, lo, reduceIte, Nat.reduceEqDiff, Nat.reduceAdd, beq_self_eq_true, q0, q1, q2, q3]; done))); (focus (exact rfl))))
  (first | (apply WF.condT; (focus (simp only [evalO, ofConst, Tri.gp, lay, Bool.not_true, Bool.not_false, reduceIte, Nat.reduceEqDiff]; done))) | (apply WF.condF; (focus (simp only [evalO, ofConst, Tri.gp, lay, Bool.not_true, Bool.not_false, reduceIte, Nat.reduceEqDiff]; done))))
  repeat (first | refine WF.seq ?_ | refine WF.regionL ?_ | refine WO.nil ?_ | refine WF.block ?_ | refine WF.skip ?_ | refine WF.endBlock ?_ | (apply WF.exit; (focus (exact rfl))) | (apply WO.op; (focus ((simp only [rO, wantedU, lay, decide_true, li, lo, reduceIte, Nat.reduceEqDiff, Nat.reduceAdd, beq_self_eq_true, q0, q1, q2, q3]; done))); (focus (simp only [rE, rO, li, lo, lay, evalL, ofConst, storeU, AH.set, AV.cells, decide_true, if_true, if_false, reduceIte, Nat.reduceEqDiff, Nat.reduceAdd, Nat.reduceMul, und78, len_SL und78 hsx, len_SL und78 hsy, fa80_0, fa80_1, fa80_2, fa80_3, loadVar_one agg3, loadVar_one agg4, loadVar_one agg78, loadVar_agg agg80 sz80, bin_neB, hc3, hc8, hc17, hc19, hc21, cut_four, hole_int, hole_bool, hsx.solid, hsy.solid, hsz.solid, hsw.solid, hs.solid, t3, t7, t8, t17, t18, t19, t20, t21, t22, q0, q1, q2, q3, cu29]; exact rfl)); (focus (exact rfl))) | (apply WO.unwanted; (focus ((simp only [rO, wantedU, lay, decide_true, li, lo, reduceIte, Nat.reduceEqDiff, Nat.reduceAdd, beq_self_eq_true, q0, q1, q2, q3]; done))); (focus (exact rfl))))
  refine merge_w (L := L) H cpu dr ah rv rx ry v1 v2 b3 b8 b17 l ids hc3 hc8 hc17 hr hx hy hl h8 _ ?_ ?_ ?_ ?_ ?_
  · ((repeat (refine Sel2.put ?_ _ rfl rfl)); exact hS)
  · simp [Tri.gp]
  · simp [Tri.gp]
  · simp [Tri.gp]
  clear hS t1 t2 t3 t7 t8 t17 t18 t19 t20 t21 t22
  intro t hS t23 t24
  obtain ⟨⟨t1, t2, t3, t7, t8⟩, t17⟩ := id hS
  have d1 : decide (((l.filter fun d => ids.contains d.id).length : Int) = ((l.filter fun d => ids.contains d.id).length : Int)) = true := by simp
  have d2 : decide (((l.filter fun d => !ids.contains d.id).length : Int) = ((l.filter fun d => !ids.contains d.id).length : Int)) = true := by simp
  repeat (first | refine WF.seq ?_ | refine WF.regionL ?_ | refine WO.nil ?_ | refine WF.block ?_ | refine WF.skip ?_ | refine WF.endBlock ?_ | (apply WF.exit; (focus (exact rfl))) | (apply WO.op; (focus ((simp only [rO, wantedU, lay, decide_true, li, lo, reduceIte, Nat.reduceEqDiff, Nat.reduceAdd, beq_self_eq_true, d1, d2]; done))); (focus (simp only [rE, rO, li, lo, lay, evalL, ofConst, storeU, AH.set, AV.cells, decide_true, if_true, if_false, reduceIte, Nat.reduceEqDiff, Nat.reduceAdd, Nat.reduceMul, und78, len_SL und78 hsx, len_SL und78 hsy, fa80_1, loadVar_one agg78, hc8, hc17, hsx.solid, hsy.solid, t7, t8, t17, t23, t24, d1, d2]; exact rfl)); (focus (exact rfl))) | (apply WO.unwanted; (focus ((simp only [rO, wantedU, lay, decide_true, li, lo, reduceIte, Nat.reduceEqDiff, Nat.reduceAdd, beq_self_eq_true, d1, d2]; done))); (focus (exact rfl))))
  (apply WF.ret; (focus (simp only [resultsU, Tri.gp, lay, resL, reduceIte, Nat.reduceEqDiff, rs9]; exact rfl)))
  rfl
end Go.Ev.C
end
section
set_option linter.unusedVariables false
set_option linter.unusedSimpArgs false
set_option linter.defProp false
set_option linter.all false
namespace Go.Ev.C
open Go.Proofs
set_option maxRecDepth 100000
set_option linter.unusedSimpArgs false
variable {L : World → Prop} [Good Q L]
theorem okB_filter {cpu dr : Int} {l : List RecD} (h : okB cpu l dr = true) (p : RecD → Bool) : okB cpu (l.filter p) dr = true := by
  have hl := List.length_filter_le p l
  unfold okB at h ⊢
  simp only [Bool.and_eq_true, decide_eq_true_eq, Bool.not_eq_true', List.any_eq_false] at h ⊢
  refine ⟨⟨⟨⟨⟨h.1.1.1.1.1, h.1.1.1.1.2⟩, by omega⟩, h.1.1.2⟩, h.1.2⟩, fun d hd => h.2 d (List.mem_filter.1 hd).1⟩
theorem okB_len {cpu dr : Int} {l : List RecD} (h : okB cpu l dr = true) : l.length ≤ 1000 := by
  unfold okB at h
  simp only [Bool.and_eq_true, decide_eq_true_eq] at h
  omega
/-- A struct's new block that is filled. -/
def fill80 (H : AH) (a b c d : AV) : AH := ⟨(H.t.put H.next (some (.cells 80 [.int .i64 0, .nilslice, .int .i64 0, .bool false] 0 false false))).put H.next (some (.cells 80 [a, b, c, d] 0 false false)), H.next + 1⟩
theorem fill80_up (H : AH) (a b c d : AV) : Up H (fill80 H a b c d) := Up.box2 _ _ _
theorem fill80_at (H : AH) (a b c d : AV) : (fill80 H a b c d).cellsAt H.next = some [a, b, c, d] := by
  unfold fill80
  rw [cellsAt_put, if_pos rfl]
set_option maxHeartbeats 4000000 in
theorem tail_w (H : AH) (cpu dr : Int) (ah : Bool) (rv rx v1 v2 vo vb : AV) (b3 b8 : Nat) (l : List RecD) (ids more : List Int) (hb3 : b3 < H.next) (hb8 : b8 < H.next)
    (hc3 : H.cellsAt b3 = some [.int .i64 cpu, rv, .int .i64 dr, .bool ah]) (hc8 : H.cellsAt b8 = some [.int .i64 cpu, rx, .int .i64 dr, .bool ah]) (hr : RecsAt H rv l) (hx : RecsAt H rx (l.filter fun d => ids.contains d.id)) (hok : okB cpu l dr = true)
    (hm : IntsAt H v2 more) (hml : more.length < 9223372036854775808) (ho : IntsAt H vo (othersL ids l)) (hb : IntsAt H vb (bothL more ids)) (hbl : (bothL more ids).length < 9223372036854775808) (h8 : ∀ d ∈ l, U8 d.r)
    (t : Tri AV) (hS : Sel t v1 v2 b3 b8) (ht10 : t.get 10 = some vo) (ht11 : t.get 11 = some vb) :
    WF Q L (PF 9 225 t [.code (sub [1, 1, 1, 1, 1, 1, 1, 1] c9)]) H (Ret Q 9 fun v _ => v = .bool true) := by
  have hs := hr.1
  have hsx := hx.1
  have hl := okB_len hok
  have hlx : (l.filter fun d => ids.contains d.id).length ≤ l.length := List.length_filter_le _ _
  have hokx := okB_filter hok fun d => ids.contains d.id
  have hol : (othersL ids l).length < 9223372036854775808 := by
    have : (othersL ids l).length ≤ l.length := by
      unfold othersL
      rw [List.length_map]
      exact List.length_filter_le _ _
    omega
  obtain ⟨t1, t2, t3, t7, t8⟩ := id hS
  unfold c9 Tryz.f9
  simp only [Option.getD_some, sub]
  repeat (first | refine WF.seq ?_ | refine WF.regionL ?_ | refine WO.nil ?_ | refine WF.block ?_ | refine WF.skip ?_ | refine WF.endBlock ?_ | (apply WF.exit; (focus (exact rfl))) | (apply WO.op; (focus ((simp only [rO, wantedU, lay, decide_true, li, lo, reduceIte, Nat.reduceEqDiff, Nat.reduceAdd, beq_self_eq_true]; done))); (focus (simp only [rE, rO, li, lo, lay, evalL, ofConst, storeU, AH.set, AV.cells, decide_true, if_true, if_false, reduceIte, Nat.reduceEqDiff, Nat.reduceAdd, Nat.reduceMul, fa80_0, fa80_1, fa80_2, fa80_3, loadVar_one agg3, loadVar_one agg4, loadVar_one agg78, loadVar_agg agg80 sz80, sz80, zero80d, cut_four, hole_int, hole_bool, hs.solid, hs.one, hsx.solid, hsx.one, t2, t3, t8, ht10, ht11, cu28, hc3, hc8]; exact rfl)); (focus (exact rfl))) | (apply WO.unwanted; (focus ((simp only [rO, wantedU, lay, decide_true, li, lo, reduceIte, Nat.reduceEqDiff, Nat.reduceAdd, beq_self_eq_true]; done))); (focus (exact rfl))))
  (apply WO.call; (focus ((simp only [rO, wantedU, lay, decide_true, li, lo, reduceIte, Nat.reduceEqDiff, Nat.reduceAdd, beq_self_eq_true]; done))); (focus (simp only [rE, rO, li, lo, lay, evalL, ofConst, storeU, AH.set, AV.cells, decide_true, if_true, if_false, reduceIte, Nat.reduceEqDiff, Nat.reduceAdd, Nat.reduceMul, fa80_0, fa80_1, fa80_2, fa80_3, loadVar_one agg3, loadVar_one agg4, loadVar_one agg78, loadVar_agg agg80 sz80, sz80, zero80d, cut_four, hole_int, hole_bool, hs.solid, hs.one, hsx.solid, hsx.one, t2, t3, t8, ht10, ht11, cu28, hc3, hc8]; exact rfl)); (focus (exact select_c _ _ _ _ _ _ _ _ hr (by omega) ho hol)); rintro _ H5 ⟨hu5, hsel⟩; refine ⟨_, rfl, ?_⟩)
  rcases hsel with ⟨hn, _⟩ | ⟨_, ry, rfl, hry⟩
  · rw [hok] at hn; cases hn
  unfold BV
  have n5 := hu5.next
  have hsy := hry.1
  have hc35 := (hu5.cellsAt hb3).trans hc3
  have hc85 := (hu5.cellsAt hb8).trans hc8
  have x35 : (b3 = H5.next) = False := eq_false (by omega)
  have x85 : (b8 = H5.next) = False := eq_false (by omega)
  repeat (first | refine WF.seq ?_ | refine WF.regionL ?_ | refine WO.nil ?_ | refine WF.block ?_ | refine WF.skip ?_ | refine WF.endBlock ?_ | (apply WF.exit; (focus (exact rfl))) | (apply WO.op; (focus ((simp only [rO, wantedU, lay, decide_true, li, lo, reduceIte, Nat.reduceEqDiff, Nat.reduceAdd, beq_self_eq_true]; done))); (focus (simp only [rE, rO, li, lo, lay, evalL, ofConst, storeU, AH.set, AV.cells, decide_true, if_true, if_false, reduceIte, Nat.reduceEqDiff, Nat.reduceAdd, Nat.reduceMul, fa80_0, fa80_1, fa80_2, fa80_3, loadVar_one agg3, loadVar_one agg4, loadVar_one agg78, loadVar_agg agg80 sz80, sz80, zero80d, cut_four, hole_int, hole_bool, hs.solid, hs.one, hsx.solid, hsx.one, t2, t3, t8, ht10, ht11, cu28, hc35, hc85, x35, x85, hsy.one, hsy.solid]; exact rfl)); (focus (exact rfl))) | (apply WO.unwanted; (focus ((simp only [rO, wantedU, lay, decide_true, li, lo, reduceIte, Nat.reduceEqDiff, Nat.reduceAdd, beq_self_eq_true]; done))); (focus (exact rfl))))
  have hu5' : Up H (fill80 H5 (.int .i64 cpu) ry (.int .i64 dr) (.bool ah)) := hu5.trans (fill80_up _ _ _ _ _)
  (apply WO.call; (focus ((simp only [rO, wantedU, lay, decide_true, li, lo, reduceIte, Nat.reduceEqDiff, Nat.reduceAdd, beq_self_eq_true]; done))); (focus (simp only [rE, rO, li, lo, lay, evalL, ofConst, storeU, AH.set, AV.cells, decide_true, if_true, if_false, reduceIte, Nat.reduceEqDiff, Nat.reduceAdd, Nat.reduceMul, fa80_0, fa80_1, fa80_2, fa80_3, loadVar_one agg3, loadVar_one agg4, loadVar_one agg78, loadVar_agg agg80 sz80, sz80, zero80d, cut_four, hole_int, hole_bool, hs.solid, hs.one, hsx.solid, hsx.one, t2, t3, t8, ht10, ht11, cu28, hc35, hc85, x35, x85]; exact rfl)); (focus (exact select_c (fill80 H5 (.int .i64 cpu) ry (.int .i64 dr) (.bool ah)) _ _ _ _ _ _ _ (hx.up hu5') (by omega) (hm.up hu5') hml)); rintro _ H6 ⟨hu6, hsel⟩; refine ⟨_, rfl, ?_⟩)
  rcases hsel with ⟨hn, _⟩ | ⟨_, rz, rfl, hrz⟩
  · rw [hokx] at hn; cases hn
  unfold BV
  have n6 : H5.next + 1 ≤ H6.next := hu6.next
  have hsz := hrz.1
  have hU6 := hu5'.trans hu6
  have hc36 := (hU6.cellsAt hb3).trans hc3
  have hc86 := (hU6.cellsAt hb8).trans hc8
  have x36 : (b3 = H6.next) = False := eq_false (by omega)
  have x86 : (b8 = H6.next) = False := eq_false (by omega)
  repeat (first | refine WF.seq ?_ | refine WF.regionL ?_ | refine WO.nil ?_ | refine WF.block ?_ | refine WF.skip ?_ | refine WF.endBlock ?_ | (apply WF.exit; (focus (exact rfl))) | (apply WO.op; (focus ((simp only [rO, wantedU, lay, decide_true, li, lo, reduceIte, Nat.reduceEqDiff, Nat.reduceAdd, beq_self_eq_true]; done))); (focus (simp only [rE, rO, li, lo, lay, evalL, ofConst, storeU, AH.set, AV.cells, decide_true, if_true, if_false, reduceIte, Nat.reduceEqDiff, Nat.reduceAdd, Nat.reduceMul, fa80_0, fa80_1, fa80_2, fa80_3, loadVar_one agg3, loadVar_one agg4, loadVar_one agg78, loadVar_agg agg80 sz80, sz80, zero80d, cut_four, hole_int, hole_bool, hs.solid, hs.one, hsx.solid, hsx.one, t2, t3, t8, ht10, ht11, cu28, hc36, hc86, x36, x86, hsz.one, hsz.solid]; exact rfl)); (focus (exact rfl))) | (apply WO.unwanted; (focus ((simp only [rO, wantedU, lay, decide_true, li, lo, reduceIte, Nat.reduceEqDiff, Nat.reduceAdd, beq_self_eq_true]; done))); (focus (exact rfl))))
  have hu6' : Up H (fill80 H6 (.int .i64 cpu) rz (.int .i64 dr) (.bool ah)) := hU6.trans (fill80_up _ _ _ _ _)
  (apply WO.call; (focus ((simp only [rO, wantedU, lay, decide_true, li, lo, reduceIte, Nat.reduceEqDiff, Nat.reduceAdd, beq_self_eq_true]; done))); (focus (simp only [rE, rO, li, lo, lay, evalL, ofConst, storeU, AH.set, AV.cells, decide_true, if_true, if_false, reduceIte, Nat.reduceEqDiff, Nat.reduceAdd, Nat.reduceMul, fa80_0, fa80_1, fa80_2, fa80_3, loadVar_one agg3, loadVar_one agg4, loadVar_one agg78, loadVar_agg agg80 sz80, sz80, zero80d, cut_four, hole_int, hole_bool, hs.solid, hs.one, hsx.solid, hsx.one, t2, t3, t8, ht10, ht11, cu28, hc36, hc86, x36, x86]; exact rfl)); (focus (exact select_c (fill80 H6 (.int .i64 cpu) rz (.int .i64 dr) (.bool ah)) _ _ _ _ _ _ _ (hr.up hu6') (by omega) (hb.up hu6') hbl)); rintro _ H7 ⟨hu7, hsel⟩; refine ⟨_, rfl, ?_⟩)
  rcases hsel with ⟨hn, _⟩ | ⟨_, rw, rfl, hrw⟩
  · rw [hok] at hn; cases hn
  unfold BV
  have n7 : H6.next + 1 ≤ H7.next := hu7.next
  have hsw := hrw.1
  have hU7 := hu6'.trans hu7
  iterate 7 (first | refine WF.seq ?_ | refine WF.regionL ?_ | refine WO.nil ?_ | refine WF.block ?_ | refine WF.skip ?_ | refine WF.endBlock ?_ | (apply WF.exit; (focus (exact rfl))) | (apply WO.op; (focus ((simp only [rO, wantedU, lay, decide_true, li, lo, reduceIte, Nat.reduceEqDiff, Nat.reduceAdd, beq_self_eq_true]; done))); (focus (simp only [rE, rO, li, lo, lay, evalL, ofConst, storeU, AH.set, AV.cells, decide_true, if_true, if_false, reduceIte, Nat.reduceEqDiff, Nat.reduceAdd, Nat.reduceMul, fa80_0, fa80_1, fa80_2, fa80_3, loadVar_one agg3, loadVar_one agg4, loadVar_one agg78, loadVar_agg agg80 sz80, sz80, zero80d, cut_four, hole_int, hole_bool, hs.solid, hs.one, hsx.solid, hsx.one, t2, t3, t8, ht10, ht11, cu28, hsw.one, hsw.solid]; exact rfl)); (focus (exact rfl))) | (apply WO.unwanted; (focus ((simp only [rO, wantedU, lay, decide_true, li, lo, reduceIte, Nat.reduceEqDiff, Nat.reduceAdd, beq_self_eq_true]; done))); (focus (exact rfl))))
  have hu7' : Up H (fill80 H7 (.int .i64 cpu) rw (.int .i64 dr) (.bool ah)) := hU7.trans (fill80_up _ _ _ _ _)
  have u5 : Up (fill80 H5 (.int .i64 cpu) ry (.int .i64 dr) (.bool ah)) (fill80 H7 (.int .i64 cpu) rw (.int .i64 dr) (.bool ah)) := (hu6.trans (fill80_up _ _ _ _ _)).trans (hu7.trans (fill80_up _ _ _ _ _))
  have u6 : Up (fill80 H6 (.int .i64 cpu) rz (.int .i64 dr) (.bool ah)) (fill80 H7 (.int .i64 cpu) rw (.int .i64 dr) (.bool ah)) := hu7.trans (fill80_up _ _ _ _ _)
  have ey : (l.filter fun d => (othersL ids l).contains d.id) = l.filter fun d => !ids.contains d.id := List.filter_congr fun d hd => mem_othersL hd
  have ez : (l.filter fun d => (bothL more ids).contains d.id) = (l.filter fun d => ids.contains d.id).filter fun d => more.contains d.id := by
    rw [List.filter_filter]
    refine List.filter_congr fun d hd => ?_
    rw [mem_bothL, Bool.and_comm]
  rw [ey] at hry
  rw [ez] at hrw
  have hlz : ((l.filter fun d => ids.contains d.id).filter fun d => more.contains d.id).length ≤ (l.filter fun d => ids.contains d.id).length := List.length_filter_le _ _
  refine end_w (L := L) (fill80 H7 (.int .i64 cpu) rw (.int .i64 dr) (.bool ah)) cpu dr ah rv rx ry rz rw v1 v2 b3 b8 H5.next H6.next H7.next l _ ids ((hu7'.cellsAt hb3).trans hc3) ((hu7'.cellsAt hb8).trans hc8) ((u5.cellsAt (Nat.lt_succ_self _)).trans (fill80_at _ _ _ _ _)) ((u6.cellsAt (Nat.lt_succ_self _)).trans (fill80_at _ _ _ _ _)) (fill80_at _ _ _ _ _)
    (hr.up hu7') (hx.up hu7') (hry.up (((fill80_up _ _ _ _ _).trans hu6).trans ((fill80_up _ _ _ _ _).trans (hu7.trans (fill80_up _ _ _ _ _))))) (hrz.up ((fill80_up _ _ _ _ _).trans (hu7.trans (fill80_up _ _ _ _ _)))) (hrw.up (fill80_up _ _ _ _ _)) hl (by omega) h8 (fun d hd => h8 d (List.mem_filter.1 (List.mem_filter.1 hd).1).1) _ ⟨?_, ?_⟩ ?_ ?_ ?_ ?_ ?_
  · ((repeat (refine Sel.put ?_ _ rfl)); exact hS)
  all_goals simp [Tri.gp]
end Go.Ev.C
end
section
set_option linter.unusedVariables false
set_option linter.unusedSimpArgs false
set_option linter.defProp false
set_option linter.all false
namespace Go.Ev.C
open Go.Proofs
set_option maxRecDepth 100000
set_option linter.unusedSimpArgs false
variable {L : World → Prop} [Good Q L]
set_option maxHeartbeats 4000000 in
theorem selected_w (hsane : ∀ H, Fn Q L 10 [] H (fun v H' => v = .bool true ∧ H' = H)) (H : AH) (cpu dr : Int) (ah : Bool) (rv v1 v2 : AV) (l : List RecD) (ids more : List Int) (hr : RecsAt H rv l) (hn : l.length < 9223372036854775808) (h8 : ∀ d ∈ l, U8 d.r)
    (hi : IntsAt H v1 ids) (hm : IntsAt H v2 more) (hil : ids.length < 9223372036854775808) (hml : more.length < 9223372036854775808) (hprod : ids.length * more.length ≤ 274877906944) :
    WF Q L (PF 9 225 (lay 0 [BV cpu rv dr ah, v1, v2] .leaf) [.code c9]) H (Ret Q 9 fun v _ => v = .bool true) := by
  have hs := hr.1
  have z0 : decide ((260 : Int) = 0) = false := rfl
  unfold BV
  have start : WF Q L (PF 9 225 (lay 0 [AV.agg [.int .i64 cpu, rv, .int .i64 dr, .bool ah], v1, v2] .leaf) [.code (sub [] c9)]) H (Ret Q 9 fun v _ => v = .bool true) := by
    unfold c9 Tryz.f9
    simp only [Option.getD_some, sub]
    repeat (first | refine WF.seq ?_ | refine WF.regionL ?_ | refine WO.nil ?_ | refine WF.block ?_ | refine WF.skip ?_ | refine WF.endBlock ?_ | (apply WF.exit; (focus (exact rfl))) | (apply WO.op; (focus ((simp only [rO, wantedU, lay, decide_true, li, lo, reduceIte, Nat.reduceEqDiff, Nat.reduceAdd, beq_self_eq_true]; done))); (focus (simp only [rE, rO, li, lo, lay, evalL, ofConst, storeU, AH.set, AV.cells, decide_true, if_true, if_false, reduceIte, Nat.reduceEqDiff, Nat.reduceAdd, Nat.reduceMul, hs.one, hs.solid, loadVar_agg agg80 sz80, sz80, zero80d, cut_four, hole_int, hole_bool, cu10, cu28, z0]; exact rfl)); (focus (exact rfl))) | (apply WO.unwanted; (focus ((simp only [rO, wantedU, lay, decide_true, li, lo, reduceIte, Nat.reduceEqDiff, Nat.reduceAdd, beq_self_eq_true]; done))); (focus (exact rfl))))
    (apply WO.call; (focus ((simp only [rO, wantedU, lay, decide_true, li, lo, reduceIte, Nat.reduceEqDiff, Nat.reduceAdd, beq_self_eq_true]; done))); (focus (simp only [rE, rO, li, lo, lay, evalL, ofConst, storeU, AH.set, AV.cells, decide_true, if_true, if_false, reduceIte, Nat.reduceEqDiff, Nat.reduceAdd, Nat.reduceMul, hs.one, hs.solid, loadVar_agg agg80 sz80, sz80, zero80d, cut_four, hole_int, hole_bool, cu10, cu28, z0]; exact rfl)); (focus (exact hsane _)); rintro _ _ ⟨rfl, rfl⟩; refine ⟨_, rfl, ?_⟩)
    repeat (first | refine WF.seq ?_ | refine WF.regionL ?_ | refine WO.nil ?_ | refine WF.block ?_ | refine WF.skip ?_ | refine WF.endBlock ?_ | (apply WF.exit; (focus (exact rfl))) | (apply WO.op; (focus ((simp only [rO, wantedU, lay, decide_true, li, lo, reduceIte, Nat.reduceEqDiff, Nat.reduceAdd, beq_self_eq_true]; done))); (focus (simp only [rE, rO, li, lo, lay, evalL, ofConst, storeU, AH.set, AV.cells, decide_true, if_true, if_false, reduceIte, Nat.reduceEqDiff, Nat.reduceAdd, Nat.reduceMul, hs.one, hs.solid, loadVar_agg agg80 sz80, sz80, zero80d, cut_four, hole_int, hole_bool, cu10, cu28, z0]; exact rfl)); (focus (exact rfl))) | (apply WO.unwanted; (focus ((simp only [rO, wantedU, lay, decide_true, li, lo, reduceIte, Nat.reduceEqDiff, Nat.reduceAdd, beq_self_eq_true]; done))); (focus (exact rfl))))
    (apply WO.call; (focus ((simp only [rO, wantedU, lay, decide_true, li, lo, reduceIte, Nat.reduceEqDiff, Nat.reduceAdd, beq_self_eq_true]; done))); (focus (simp only [rE, rO, li, lo, lay, evalL, ofConst, storeU, AH.set, AV.cells, decide_true, if_true, if_false, reduceIte, Nat.reduceEqDiff, Nat.reduceAdd, Nat.reduceMul, hs.one, hs.solid, loadVar_agg agg80 sz80, sz80, zero80d, cut_four, hole_int, hole_bool, cu10, cu28, z0]; exact rfl)); (focus (exact select_c _ _ _ _ _ _ _ _ (hr.up (Up.box _ _)) hn (hi.up (Up.box _ _)) hil)); rintro _ H1 ⟨hu1, hsel⟩; refine ⟨_, rfl, ?_⟩)
    rcases hsel with ⟨hb, rfl⟩ | ⟨hok, rx, rfl, hrx⟩
    · repeat (first | refine WF.seq ?_ | refine WF.regionL ?_ | refine WO.nil ?_ | refine WF.block ?_ | refine WF.skip ?_ | refine WF.endBlock ?_ | (apply WF.exit; (focus (exact rfl))) | (apply WO.op; (focus ((simp only [rO, wantedU, lay, decide_true, li, lo, reduceIte, Nat.reduceEqDiff, Nat.reduceAdd, beq_self_eq_true]; done))); (focus (simp only [rE, rO, li, lo, lay, evalL, ofConst, storeU, AH.set, AV.cells, decide_true, if_true, if_false, reduceIte, Nat.reduceEqDiff, Nat.reduceAdd, Nat.reduceMul, hs.one, hs.solid, loadVar_agg agg80 sz80, sz80, zero80d, cut_four, hole_int, hole_bool, cu10, cu28, z0]; exact rfl)); (focus (exact rfl))) | (apply WO.unwanted; (focus ((simp only [rO, wantedU, lay, decide_true, li, lo, reduceIte, Nat.reduceEqDiff, Nat.reduceAdd, beq_self_eq_true]; done))); (focus (exact rfl))))
      (first | (apply WF.condT; (focus (simp only [evalO, ofConst, Tri.gp, lay, Bool.not_true, Bool.not_false, reduceIte, Nat.reduceEqDiff]; done))) | (apply WF.condF; (focus (simp only [evalO, ofConst, Tri.gp, lay, Bool.not_true, Bool.not_false, reduceIte, Nat.reduceEqDiff]; done))))
      repeat (first | refine WF.seq ?_ | refine WF.regionL ?_ | refine WO.nil ?_ | refine WF.block ?_ | refine WF.skip ?_ | refine WF.endBlock ?_ | (apply WF.exit; (focus (exact rfl))) | (apply WO.op; (focus ((simp only [rO, wantedU, lay, decide_true, li, lo, reduceIte, Nat.reduceEqDiff, Nat.reduceAdd, beq_self_eq_true]; done))); (focus (simp only [rE, rO, li, lo, lay, evalL, ofConst, storeU, AH.set, AV.cells, decide_true, if_true, if_false, reduceIte, Nat.reduceEqDiff, Nat.reduceAdd, Nat.reduceMul, hs.one, hs.solid, loadVar_agg agg80 sz80, sz80, zero80d, cut_four, hole_int, hole_bool, cu10, cu28, z0]; exact rfl)); (focus (exact rfl))) | (apply WO.unwanted; (focus ((simp only [rO, wantedU, lay, decide_true, li, lo, reduceIte, Nat.reduceEqDiff, Nat.reduceAdd, beq_self_eq_true]; done))); (focus (exact rfl))))
      (apply WF.ret; (focus (simp only [resultsU, Tri.gp, lay, resL, reduceIte, Nat.reduceEqDiff, rs9]; exact rfl)))
      rfl
    unfold BV
    have n1 : H.next + 1 ≤ H1.next := hu1.next
    have hsx := hrx.1
    repeat (first | refine WF.seq ?_ | refine WF.regionL ?_ | refine WO.nil ?_ | refine WF.block ?_ | refine WF.skip ?_ | refine WF.endBlock ?_ | (apply WF.exit; (focus (exact rfl))) | (apply WO.op; (focus ((simp only [rO, wantedU, lay, decide_true, li, lo, reduceIte, Nat.reduceEqDiff, Nat.reduceAdd, beq_self_eq_true]; done))); (focus (simp only [rE, rO, li, lo, lay, evalL, ofConst, storeU, AH.set, AV.cells, decide_true, if_true, if_false, reduceIte, Nat.reduceEqDiff, Nat.reduceAdd, Nat.reduceMul, hs.one, hs.solid, loadVar_agg agg80 sz80, sz80, zero80d, cut_four, hole_int, hole_bool, cu10, cu28, z0, hsx.one, hsx.solid]; exact rfl)); (focus (exact rfl))) | (apply WO.unwanted; (focus ((simp only [rO, wantedU, lay, decide_true, li, lo, reduceIte, Nat.reduceEqDiff, Nat.reduceAdd, beq_self_eq_true]; done))); (focus (exact rfl))))
    (first | (apply WF.condT; (focus (simp only [evalO, ofConst, Tri.gp, lay, Bool.not_true, Bool.not_false, reduceIte, Nat.reduceEqDiff]; done))) | (apply WF.condF; (focus (simp only [evalO, ofConst, Tri.gp, lay, Bool.not_true, Bool.not_false, reduceIte, Nat.reduceEqDiff]; done))))
    repeat (first | refine WF.seq ?_ | refine WF.regionL ?_ | refine WO.nil ?_ | refine WF.block ?_ | refine WF.skip ?_ | refine WF.endBlock ?_ | (apply WF.exit; (focus (exact rfl))) | (apply WO.op; (focus ((simp only [rO, wantedU, lay, decide_true, li, lo, reduceIte, Nat.reduceEqDiff, Nat.reduceAdd, beq_self_eq_true]; done))); (focus (simp only [rE, rO, li, lo, lay, evalL, ofConst, storeU, AH.set, AV.cells, decide_true, if_true, if_false, reduceIte, Nat.reduceEqDiff, Nat.reduceAdd, Nat.reduceMul, hs.one, hs.solid, loadVar_agg agg80 sz80, sz80, zero80d, cut_four, hole_int, hole_bool, cu10, cu28, z0, hsx.one, hsx.solid]; exact rfl)); (focus (exact rfl))) | (apply WO.unwanted; (focus ((simp only [rO, wantedU, lay, decide_true, li, lo, reduceIte, Nat.reduceEqDiff, Nat.reduceAdd, beq_self_eq_true]; done))); (focus (exact rfl))))
    have hU : Up H (fill80 H1 (.int .i64 cpu) rx (.int .i64 dr) (.bool ah)) := ((Up.box H _).trans hu1).trans (fill80_up _ _ _ _ _)
    have hc : (fill80 H1 (.int .i64 cpu) rx (.int .i64 dr) (.bool ah)).cellsAt H.next = some [.int .i64 cpu, rv, .int .i64 dr, .bool ah] := by
      rw [(fill80_up _ _ _ _ _).cellsAt (by omega), hu1.cellsAt (Nat.lt_succ_self _), cellsAt_put, if_pos rfl]
    refine others_w (L := L) (fill80 H1 (.int .i64 cpu) rx (.int .i64 dr) (.bool ah)) cpu dr ah rv v1 v2 H.next H1.next l ids (by show H.next < H1.next + 1; omega) hc (hr.up hU) (okB_len hok) (hi.up hU) hil _ ⟨?_, ?_, ?_, ?_, ?_⟩ ?_ ?_ ?_ ?_
    any_goals (simp [Tri.gp, lay]; done)
    intro t H2 vo hu2 hown hS ht10 ht11
    have hU2 := hU.trans hu2
    repeat (first | refine WF.seq ?_ | refine WF.regionL ?_ | refine WO.nil ?_ | refine WF.block ?_ | refine WF.skip ?_ | refine WF.endBlock ?_ | (apply WF.exit; (focus (exact rfl))) | (apply WO.op; (focus ((simp only [rO, wantedU, lay, decide_true, li, lo, reduceIte, Nat.reduceEqDiff, Nat.reduceAdd, beq_self_eq_true]; done))); (focus (simp only [rE, rO, li, lo, lay, evalL, ofConst, storeU, AH.set, AV.cells, decide_true, if_true, if_false, reduceIte, Nat.reduceEqDiff, Nat.reduceAdd, Nat.reduceMul]; exact rfl)); (focus (exact rfl))) | (apply WO.unwanted; (focus ((simp only [rO, wantedU, lay, decide_true, li, lo, reduceIte, Nat.reduceEqDiff, Nat.reduceAdd, beq_self_eq_true]; done))); (focus (exact rfl))))
    refine both_w (L := L) H2 v1 v2 vo H.next H1.next ids more (hi.up hU2) (hm.up hU2) hil hml hprod _ ?_ ?_ ?_ ?_ ?_
    · ((repeat (refine Sel.put ?_ _ rfl)); exact hS)
    · simp [Tri.gp, ht10]
    · simp [Tri.gp, ht11]
    · simp [Tri.gp]
    clear hS ht10 ht11
    intro t H3 vb hu3 hown3 hS ht10 ht11
    have hU3 := hU2.trans hu3
    have hF := hu2.trans hu3
    have hbl := bothL_length more ids
    exact tail_w (L := L) H3 cpu dr ah rv rx v1 v2 vo vb H.next H1.next l ids more (Nat.lt_of_lt_of_le (by show H.next < H1.next + 1; omega) hF.next) (Nat.lt_of_lt_of_le (Nat.lt_succ_self _) hF.next) ((hF.cellsAt (by show H.next < H1.next + 1; omega)).trans hc) ((hF.cellsAt (Nat.lt_succ_self _)).trans (fill80_at _ _ _ _ _)) (hr.up hU3) (hrx.up ((fill80_up _ _ _ _ _).trans hF)) hok (hm.up hU3) hml (hown.ints.up hu3) hown3.ints (by omega) h8 t hS ht10 ht11
  exact start
end Go.Ev.C
end
section
set_option linter.unusedVariables false
set_option linter.unusedSimpArgs false
set_option linter.defProp false
set_option linter.all false
namespace Go.Ev.C
open Go.Proofs Go.RowKit Go.ChangeShapes Go.WideShapes Go.Deep
section
variable {H : Type} {enc : TypeId × Value → H} {W : World} {base : Nat} {spare : Nat → Bool} {held : Bool} {fuel : Nat}
theorem u8_list : ∀ {r : List AV}, (∀ v ∈ r, ∃ n : Nat, n < 256 ∧ v = byteV n) → U8 r
  | [], _ => ⟨[], rfl, by simp⟩
  | v :: r, h => by
    obtain ⟨n, hn, rfl⟩ := h v (by simp)
    obtain ⟨bs, rfl, h8⟩ := u8_list (r := r) fun w hw => h w (by simp [hw])
    refine ⟨n :: bs, rfl, fun k hk => ?_⟩
    rcases List.mem_cons.1 hk with rfl | hk
    · exact hn
    · exact h8 k hk
theorem u8_wf {z : Int} (h : (Lit.int .u8 z).wf = true) : ∃ n : Nat, n < 256 ∧ (AV.int .u8 z) = byteV n := by
  have h1 : 0 ≤ z ∧ z < 256 := by
    unfold Lit.wf at h
    simp only [Bool.and_eq_true, decide_eq_true_eq] at h
    have a : IntKind.u8.min = 0 := rfl
    have b : IntKind.u8.max = 255 := rfl
    rw [a, b] at h
    omega
  refine ⟨z.toNat, by omega, ?_⟩
  unfold byteV
  rw [Int.ofNat_eq_natCast, Int.toNat_of_nonneg h1.1]
theorem read_data {v : Value} {x : DataW H × List MemPlace} (h : DataW.trod enc Q W base spare held fuel 35 [v] = some x) : ∃ r, U8 r ∧ DataAt (ahOf W) (avOf W v) r := by
  rcases open_slice Tryz.underlying35 h with ⟨hv, _⟩ | ⟨a, len, cap, m, k, D, Pl, hv, _, hl, hm, hmm, _, hi⟩
  · cases hv
    exact ⟨[], ⟨[], rfl, by simp⟩, .nil, fun _ _ _ _ _ h => absurd rfl h⟩
  · cases hv
    by_cases h0 : len = 0
    · subst h0
      exact ⟨[], ⟨[], rfl, by simp⟩, avOf_slice0 _ _ _, fun _ _ _ _ _ h => absurd rfl h⟩
    have hlm : len ≤ m := by rw [hmm]; split <;> omega
    have hC : Q.cellsOf 5 = 1 := by kernel_rfl
    obtain ⟨c, off, arr, e, f, rfl, hc, hcell⟩ := block_of (R := fun _ v => ∃ n : Nat, n < 256 ∧ avOf W v = byteV n) (Nat.pos_of_ne_zero h0) (a := a) fun i hilt => by
      obtain ⟨cs, hcs, ht⟩ := hi i (by omega)
      rw [hC, Nat.mul_one] at hcs
      obtain ⟨_, hcl, hat⟩ := World.cells?_some hcs
      obtain ⟨z, rfl, _, hwf⟩ := DataW.trod_int Tryz.underlying5 ht
      have := hat 0 (by omega)
      obtain ⟨n, hn, hz⟩ := u8_wf hwf
      exact ⟨.int .u8 z, this, n, hn, hz⟩
    have hlen : (((arr.toList.map (avOf W)).drop off).take len).length = len := by
      obtain ⟨v, hv, _⟩ := hcell (len - 1) (by omega)
      have := (Array.getElem?_eq_some_iff.1 hv).1
      simp
      omega
    have hat : ∀ j, j < len → ∃ v, (((arr.toList.map (avOf W)).drop off).take len)[j]? = some (avOf W v) ∧ (arr.toList.map (avOf W))[off + j]? = some (avOf W v) ∧ ∃ n : Nat, n < 256 ∧ avOf W v = byteV n := by
      intro j hj
      obtain ⟨v, hv, hn⟩ := hcell j hj
      refine ⟨v, ?_, ?_, hn⟩
      · rw [List.getElem?_take, if_pos hj, List.getElem?_drop, List.getElem?_map, Array.getElem?_toList, hv]; rfl
      · rw [List.getElem?_map, Array.getElem?_toList, hv]; rfl
    refine ⟨((arr.toList.map (avOf W)).drop off).take len, u8_list fun v hv => ?_, ?_⟩
    · obtain ⟨j, hj, rfl⟩ := List.mem_iff_getElem.1 hv
      obtain ⟨u, hu, _, n, hn, e⟩ := hat j (by omega)
      rw [List.getElem?_eq_getElem hj] at hu
      exact ⟨n, hn, (Option.some.inj hu).trans e⟩
    rw [avOf_sliceS hc hl]
    refine ⟨by rw [hlen]; exact .sl _ _ _ _, fun b off' m' cap' e _ => ?_⟩
    cases e
    refine ⟨_, ahOf_lt hc, ahOf_cellsAt hc, cut_iff.2 ⟨rfl, fun j hj => ?_⟩, ?_⟩
    · rw [hlen] at hj
      obtain ⟨v, hv1, hv2, n, hn, e⟩ := hat j hj
      exact ⟨avOf W v, hv2, by rw [e]; rfl, hv1⟩
    · refine List.all_eq_true.2 fun v hv => ?_
      obtain ⟨u, _, rfl⟩ := List.mem_map.1 (List.mem_of_mem_drop (List.mem_of_mem_take hv))
      exact avOf_one W u
theorem read_recs {v : Value} {x : DataW H × List MemPlace} (h : DataW.trod enc Q W base spare held fuel 78 [v] = some x) : ∃ l : List RecD, l.length < 9223372036854775808 ∧ (∀ d ∈ l, U8 d.r) ∧ RecsAt (ahOf W) (avOf W v) l := by
  rcases read_fields Tryz.underlying78 Tryz.underlying87 (by kernel_rfl) (by kernel_rfl) h with ⟨rfl, _⟩ | ⟨a, len, cap, el, sp, rfl, hl, hm, _, _, hi⟩
  · exact ⟨[], by simp, by simp, .nil, fun _ _ _ _ _ h => absurd rfl h⟩
  · have hml : maxLen = 9223372036854775807 := rfl
    by_cases h0 : len = 0
    · subst h0
      exact ⟨[], by simp, by simp, avOf_slice0 _ _ _, fun _ _ _ _ _ h => absurd rfl h⟩
    obtain ⟨c, off, arr, e, f, rfl, hc, hcell⟩ := block_of (n := len * 3) (R := fun t w => (t % 3 = 0 → ∃ z, w = .int .i64 z) ∧ (t % 3 = 1 → ∃ z, w = .int .i64 z) ∧ (t % 3 = 2 → ∃ r, U8 r ∧ DataAt (ahOf W) (avOf W w) r)) (by omega) (a := a) fun t ht => by
      have hmod : t % 3 < 3 := Nat.mod_lt _ (by omega)
      have hdm : t / 3 * 3 + t % 3 = t := by omega
      have key := hi (t / 3) (by omega)
      rcases (show t % 3 = 0 ∨ t % 3 = 1 ∨ t % 3 = 2 from by omega) with hj | hj | hj
      · obtain ⟨u, n, y, hu, hy⟩ := key 0 _ rfl
        obtain ⟨z, hz, _, _⟩ := DataW.trod_int Tryz.underlying3 hy
        cases hz
        refine ⟨_, ?_, fun _ => ⟨z, rfl⟩, fun h => by omega, fun h => by omega⟩
        rw [← hdm, hj]; exact hu
      · obtain ⟨u, n, y, hu, hy⟩ := key 1 _ rfl
        obtain ⟨z, hz, _, _⟩ := DataW.trod_int Tryz.underlying2 hy
        cases hz
        refine ⟨_, ?_, fun h => by omega, fun _ => ⟨z, rfl⟩, fun h => by omega⟩
        rw [← hdm, hj]; exact hu
      · obtain ⟨u, n, y, hu, hy⟩ := key 2 _ rfl
        obtain ⟨k, hk, hd⟩ := read_data hy
        refine ⟨u, ?_, fun h => by omega, fun h => by omega, fun _ => ⟨k, hk, hd⟩⟩
        rw [← hdm, hj]; exact hu
    obtain ⟨l, hll, hlp⟩ := list_of (P := fun i (d : RecD) => U8 d.r ∧ ∃ dv, DataAt (ahOf W) dv d.r ∧ cut (arr.toList.map (avOf W)) (off + i * 3) 3 = some [.int .i64 d.id, .int .i64 d.tm, dv]) len fun i hilt => by
      obtain ⟨v0, h0, r0, _, _⟩ := hcell (i * 3) (by omega)
      obtain ⟨v1, h1, _, r1, _⟩ := hcell (i * 3 + 1) (by omega)
      obtain ⟨v2, h2, _, _, r2⟩ := hcell (i * 3 + 2) (by omega)
      obtain ⟨z0, rfl⟩ := r0 (by omega)
      obtain ⟨z1, rfl⟩ := r1 (by omega)
      obtain ⟨n, h8, hd⟩ := r2 (by omega)
      rw [← Nat.add_assoc] at h1 h2
      exact ⟨⟨z0, z1, n⟩, h8, avOf W v2, hd, cut_three_at (av_at h0) (av_at h1) (av_at h2) rfl rfl hd.1.solid⟩
    rw [avOf_sliceS hc hl]
    refine ⟨l, by omega, fun d hd => ?_, by rw [hll]; exact .sl _ _ _ _, fun b off' m' cap' e _ => ?_⟩
    · obtain ⟨j, hj⟩ := List.mem_iff_getElem?.1 hd
      exact (hlp j d hj).1
    · cases e
      exact ⟨_, ahOf_lt hc, ahOf_cellsAt hc, fun i d hi => (hlp i d hi).2⟩
theorem read_ints {v : Value} {x : DataW H × List MemPlace} (h : DataW.trod enc Q W base spare held fuel 84 [v] = some x) : ∃ l : List Int, IntsAt (ahOf W) (avOf W v) l ∧ ((x.1 = .nil ∧ l = []) ∨ ∃ el sp, x.1 = .slice el sp ∧ l.length = el.length) := by
  rcases open_slice Tryz.underlying84 h with ⟨hv, hx⟩ | ⟨a, len, cap, m, k, D, Pl, hv, _, hl, hm, hmm, hx, hi⟩
  · cases hv
    exact ⟨[], ⟨.nil, fun _ _ _ _ _ h => absurd rfl h⟩, .inl ⟨by rw [hx], rfl⟩⟩
  · cases hv
    have hlm : len ≤ m := by rw [hmm]; split <;> omega
    have hC : Q.cellsOf 3 = 1 := by kernel_rfl
    have hel : ((List.range len).map D).length = len := by simp
    by_cases h0 : len = 0
    · subst h0
      exact ⟨[], ⟨avOf_slice0 _ _ _, fun _ _ _ _ _ h => absurd rfl h⟩, .inr ⟨_, _, by rw [hx], by simp⟩⟩
    obtain ⟨c, off, arr, e, f, rfl, hc, hcell⟩ := block_of (R := fun _ v => ∃ z, v = .int .i64 z) (Nat.pos_of_ne_zero h0) (a := a) fun i hilt => by
      obtain ⟨cs, hcs, ht⟩ := hi i (by omega)
      rw [hC, Nat.mul_one] at hcs
      obtain ⟨_, hcl, hat⟩ := World.cells?_some hcs
      obtain ⟨z, rfl, _, _⟩ := DataW.trod_int Tryz.underlying3 ht
      exact ⟨.int .i64 z, hat 0 (by omega), z, rfl⟩
    obtain ⟨l, hll, hlp⟩ := list_of (P := fun i (z : Int) => (arr.toList.map (avOf W))[off + i * 1]? = some (.int .i64 z)) len fun i hilt => by
      obtain ⟨v0, h0, z, rfl⟩ := hcell i hilt
      exact ⟨z, by rw [Nat.mul_one]; exact av_at h0⟩
    rw [avOf_sliceS hc hl]
    refine ⟨l, ⟨by rw [hll]; exact .sl _ _ _ _, fun b off' m' cap' e _ => ?_⟩, .inr ⟨_, _, by rw [hx], by rw [hll]; simp⟩⟩
    cases e
    exact ⟨_, ahOf_lt hc, ahOf_cellsAt hc, hlp⟩
end
end Go.Ev.C
end
