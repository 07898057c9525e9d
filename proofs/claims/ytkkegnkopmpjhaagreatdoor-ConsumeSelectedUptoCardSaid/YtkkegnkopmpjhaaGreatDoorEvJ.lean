/- Contracts: comparing; lists of numbers. -/
import Derived.Test.YtkkegnkopmpjhaaGreatDoorEvI
section
set_option linter.unusedVariables false
set_option linter.unusedSimpArgs false
set_option linter.defProp false
set_option linter.all false
namespace Go.Ev.C
open Go.Proofs
set_option maxRecDepth 100000
set_option linter.unusedSimpArgs false
variable {L : World → Prop} [Good Q L]
theorem Up.boxes2 (H : AH) (o1 o2 : Option AB) : Up H ⟨(H.t.put H.next o1).put (H.next + 1) o2, H.next + 1 + 1⟩ :=
  ⟨by show H.next ≤ H.next + 1 + 1; omega, fun b hb => by show ((H.t.put _ _).put _ _).get b = _; rw [Tri.gp, if_neg (by omega), Tri.gp, if_neg (by omega)]⟩
/-- Data of bytes. -/
def U8 (r : List AV) : Prop := ∃ bs : List Nat, r = bs.map byteV ∧ ∀ n ∈ bs, n < 256
theorem byteL_map : ∀ {bs : List Nat}, (∀ n ∈ bs, n < 256) → byteL (bs.map byteV) = some bs
  | [], _ => rfl
  | n :: bs, h => by
    have h1 : Nat.blt n 256 = true := by rw [Nat.blt_eq]; exact h n (by simp)
    have ih := byteL_map (bs := bs) fun k hk => h k (by simp [hk])
    show (if Nat.blt n 256 then (byteL (bs.map byteV)).map (n :: ·) else none) = some (n :: bs)
    rw [if_pos h1, ih]
    rfl
theorem bin_eqlStr {P : Program} (t : TypeId) (a b : List Nat) : binU P .eql t (.str a) (.str b) = some (.bool (a == b)) := rfl
theorem gOk_eqlStr {P : Program} (t : TypeId) (x y : Operand) (a b : List Nat) : guardOk P .eql t x y (.str a) (.str b) = true := rfl
theorem gOk_neqStr {P : Program} (t : TypeId) (x y : Operand) (a b : List Nat) : guardOk P .neq t x y (.str a) (.str b) = true := rfl
/-- string(data) -/
theorem conv_data {H : AH} {dv : AV} {r : List AV} (hd : DataAt H dv r) {bs : List Nat} (hr : r = bs.map byteV) (h8 : ∀ n ∈ bs, n < 256) (t : Tri AV) (o : Operand) (ho : evalO t o = some dv) : execU Q t (.convert 35 9 o) H = some (.val (.str bs), H) := by
  have hcls : cls Q (.convert 35 9 o) = .load := by simp only [cls, clsConv, und35, und9]
  have hl : r.length = bs.length := by rw [hr]; simp
  obtain ⟨hs, hd⟩ := hd
  unfold execU
  rw [hcls]
  dsimp only
  unfold loadX
  rw [hl] at hs
  generalize hn : bs.length = n at hs
  cases hs with
  | nil =>
    obtain rfl := List.length_eq_zero_iff.1 hn
    simp only [loadU, ho, convL, und35, und9, pureX, pureU, convP, convU, und5]
  | sl b off n cap =>
    by_cases h0 : bs = []
    · subst h0
      obtain rfl : n = 0 := by simpa using hn.symm
      simp only [loadU, ho, convL, und35, und9, und5, show Nat.beq 0 0 = true from rfl, if_true]
    · have hne : r ≠ [] := by rw [hr]; simpa using h0
      obtain ⟨c, hb, hc, hcut, _⟩ := hd b off _ cap rfl hne
      rw [hl, hn] at hcut
      have hz : Nat.beq n 0 = false := by
        rw [← Bool.not_eq_true, Nat.beq_eq]
        rintro rfl
        exact h0 (List.length_eq_zero_iff.1 hn)
      simp only [loadU, ho, convL, und35, und9, und5, hz, hc, hcut, hr, byteL_map h8, Option.map_some, if_false, Bool.false_eq_true]
theorem same_c (H : AH) (id tm : Int) (dv1 dv2 : AV) (r : List AV) (h1 : DataAt H dv1 r) (h2 : DataAt H dv2 r) (h8 : U8 r) : Fn Q L 30 [RV id tm dv1, RV id tm dv2] H (fun w H' => w = .bool true ∧ H' = H) := by
  refine Fn.gc (en30 _ _) rfl ?_
  have h1 := h1.lock
  have h2 := h2.lock
  generalize lock H = H at h1 h2
  obtain ⟨bs, hr, h8⟩ := h8
  have ho1 := h1.1.one
  have ho2 := h2.1.one
  have hs1 := h1.1.solid
  have hs2 := h2.1.solid
  have n01 : (H.next = H.next + 1) = False := eq_false (by omega)
  have n10 : (H.next + 1 = H.next) = False := eq_false (by omega)
  unfold c30 Tryz.f30 RV
  simp only [Option.getD_some]
  have q1 : decide (id = id) = true := by simp
  have q2 : decide (tm = tm) = true := by simp
  have k1 := conv_data (h1.up (Up.boxes2 H (some (.cells 87 [.int .i64 id, .int .i64 tm, dv1] 0 false false)) (some (.cells 87 [.int .i64 id, .int .i64 tm, dv2] 0 false false)))) hr h8
  have k2 := conv_data (h2.up (Up.boxes2 H (some (.cells 87 [.int .i64 id, .int .i64 tm, dv1] 0 false false)) (some (.cells 87 [.int .i64 id, .int .i64 tm, dv2] 0 false false)))) hr h8
  repeat (first | refine WF.seq ?_ | refine WF.regionL ?_ | refine WO.nil ?_ | refine WF.block ?_ | refine WF.skip ?_ | refine WF.endBlock ?_ | (apply WF.exit; (focus (exact rfl))) | (apply WO.op; (focus ((simp only [rO, wantedU, lay, decide_true, li, lo, reduceIte, Nat.reduceEqDiff, Nat.reduceAdd, beq_self_eq_true, q1, q2]; done))); (focus (simp only [rE, rO, li, lo, lay, evalL, ofConst, storeU, AH.set, AV.cells, decide_true, if_true, if_false, reduceIte, Nat.reduceEqDiff, Nat.reduceAdd, Nat.reduceMul, fa87_0, fa87_1, fa87_2, loadVar_one agg2, loadVar_one agg3, loadVar_one agg35, n01, n10, ho1, ho2, hs1, hs2, q1, q2]; exact rfl)); (focus (exact rfl))) | (apply WO.unwanted; (focus ((simp only [rO, wantedU, lay, decide_true, li, lo, reduceIte, Nat.reduceEqDiff, Nat.reduceAdd, beq_self_eq_true, q1, q2]; done))); (focus (exact rfl))))
  refine WO.op (v := .str bs) (by simp only [rO, wantedU, lay, decide_true, li, lo, reduceIte, Nat.reduceEqDiff, Nat.reduceAdd, beq_self_eq_true, q1, q2]; done) (k1 _ _ (by simp only [rO, reduceIte, Nat.reduceEqDiff])) rfl ?_
  repeat (first | refine WF.seq ?_ | refine WF.regionL ?_ | refine WO.nil ?_ | refine WF.block ?_ | refine WF.skip ?_ | refine WF.endBlock ?_ | (apply WF.exit; (focus (exact rfl))) | (apply WO.op; (focus ((simp only [rO, wantedU, lay, decide_true, li, lo, reduceIte, Nat.reduceEqDiff, Nat.reduceAdd, beq_self_eq_true, q1, q2]; done))); (focus (simp only [rE, rO, li, lo, lay, evalL, ofConst, storeU, AH.set, AV.cells, decide_true, if_true, if_false, reduceIte, Nat.reduceEqDiff, Nat.reduceAdd, Nat.reduceMul, fa87_0, fa87_1, fa87_2, loadVar_one agg2, loadVar_one agg3, loadVar_one agg35, n01, n10, ho1, ho2, hs1, hs2, q1, q2]; exact rfl)); (focus (exact rfl))) | (apply WO.unwanted; (focus ((simp only [rO, wantedU, lay, decide_true, li, lo, reduceIte, Nat.reduceEqDiff, Nat.reduceAdd, beq_self_eq_true, q1, q2]; done))); (focus (exact rfl))))
  refine WO.op (v := .str bs) (by simp only [rO, wantedU, lay, decide_true, li, lo, reduceIte, Nat.reduceEqDiff, Nat.reduceAdd, beq_self_eq_true, q1, q2]; done) (k2 _ _ (by simp only [rO, reduceIte, Nat.reduceEqDiff])) rfl ?_
  have q3 : (bs == bs) = true := by simp
  repeat (first | refine WF.seq ?_ | refine WF.regionL ?_ | refine WO.nil ?_ | refine WF.block ?_ | refine WF.skip ?_ | refine WF.endBlock ?_ | (apply WF.exit; (focus (exact rfl))) | (apply WO.op; (focus ((simp only [rO, wantedU, lay, decide_true, li, lo, reduceIte, Nat.reduceEqDiff, Nat.reduceAdd, beq_self_eq_true, q1, q2, q3]; done))); (focus (simp only [rE, rO, li, lo, lay, evalL, ofConst, storeU, AH.set, AV.cells, decide_true, if_true, if_false, reduceIte, Nat.reduceEqDiff, Nat.reduceAdd, Nat.reduceMul, fa87_0, fa87_1, fa87_2, loadVar_one agg2, loadVar_one agg3, loadVar_one agg35, n01, n10, ho1, ho2, hs1, hs2, q1, q2, q3, bin_eqlStr, gOk_eqlStr]; exact rfl)); (focus (exact rfl))) | (apply WO.unwanted; (focus ((simp only [rO, wantedU, lay, decide_true, li, lo, reduceIte, Nat.reduceEqDiff, Nat.reduceAdd, beq_self_eq_true, q1, q2, q3]; done))); (focus (exact rfl))))
  (apply WF.ret; (focus (simp only [resultsU, Tri.gp, lay, resL, reduceIte, Nat.reduceEqDiff, rs30]; exact rfl)))
  rfl
theorem differ_c (H : AH) (id1 id2 tm1 tm2 : Int) (dv1 dv2 : AV) (n m : Nat) (h1 : SL dv1 n) (h2 : SL dv2 m) (hne : id1 ≠ id2) : Fn Q L 30 [RV id1 tm1 dv1, RV id2 tm2 dv2] H (fun w H' => w = .bool false ∧ H' = H) := by
  refine Fn.gc (en30 _ _) rfl ?_
  generalize lock H = H
  have ho1 := h1.one
  have ho2 := h2.one
  have hs1 := h1.solid
  have hs2 := h2.solid
  have n01 : (H.next = H.next + 1) = False := eq_false (by omega)
  have n10 : (H.next + 1 = H.next) = False := eq_false (by omega)
  unfold c30 Tryz.f30 RV
  simp only [Option.getD_some]
  have q1 : decide (id1 = id2) = false := by simpa using hne
  repeat (first | refine WF.seq ?_ | refine WF.regionL ?_ | refine WO.nil ?_ | refine WF.block ?_ | refine WF.skip ?_ | refine WF.endBlock ?_ | (apply WF.exit; (focus (exact rfl))) | (apply WO.op; (focus ((simp only [rO, wantedU, lay, decide_true, li, lo, reduceIte, Nat.reduceEqDiff, Nat.reduceAdd, beq_self_eq_true, q1]; done))); (focus (simp only [rE, rO, li, lo, lay, evalL, ofConst, storeU, AH.set, AV.cells, decide_true, if_true, if_false, reduceIte, Nat.reduceEqDiff, Nat.reduceAdd, Nat.reduceMul, fa87_0, fa87_1, fa87_2, loadVar_one agg2, loadVar_one agg3, loadVar_one agg35, n01, n10, ho1, ho2, hs1, hs2, q1]; exact rfl)); (focus (exact rfl))) | (apply WO.unwanted; (focus ((simp only [rO, wantedU, lay, decide_true, li, lo, reduceIte, Nat.reduceEqDiff, Nat.reduceAdd, beq_self_eq_true, q1]; done))); (focus (exact rfl))))
  (apply WF.ret; (focus (simp only [resultsU, Tri.gp, lay, resL, reduceIte, Nat.reduceEqDiff, rs30]; exact rfl)))
  rfl
end Go.Ev.C
end
section
set_option linter.unusedVariables false
set_option linter.unusedSimpArgs false
set_option linter.defProp false
set_option linter.all false
namespace Go.Ev.C
open Go.Proofs
set_option maxRecDepth 100000
set_option linter.unusedSimpArgs false
variable {L : World → Prop} [Good Q L]
theorem sames_c (H : AH) (rv1 rv2 : AV) (l : List RecD) (h1 : RecsAt H rv1 l) (h2 : RecsAt H rv2 l) (h8 : ∀ d ∈ l, U8 d.r) (hlen : l.length < 9223372036854775808) : Fn Q L 65 [rv1, rv2] H (fun w H' => w = .bool true ∧ H' = H) := by
  refine Fn.intro (en65 _ _) ?_
  have hs1 := h1.1
  have hs2 := h2.1
  have dl : decide ((l.length : Int) = (l.length : Int)) = true := by simp
  unfold c65 Tryz.f65
  simp only [Option.getD_some]
  repeat (first | refine WF.seq ?_ | refine WF.regionL ?_ | refine WO.nil ?_ | refine WF.block ?_ | refine WF.skip ?_ | refine WF.endBlock ?_ | (apply WF.exit; (focus (exact rfl))) | (apply WO.op; (focus ((simp only [rO, wantedU, lay, decide_true, li, lo, reduceIte, Nat.reduceEqDiff, Nat.reduceAdd, beq_self_eq_true]; done))); (focus (simp only [rE, rO, li, lo, lay, evalL, ofConst, storeU, AH.set, AV.cells, decide_true, if_true, if_false, reduceIte, Nat.reduceEqDiff, Nat.reduceAdd, Nat.reduceMul, und78, len_SL und78 hs1, len_SL und78 hs2, dl]; exact rfl)); (focus (exact rfl))) | (apply WO.unwanted; (focus ((simp only [rO, wantedU, lay, decide_true, li, lo, reduceIte, Nat.reduceEqDiff, Nat.reduceAdd, beq_self_eq_true]; done))); (focus (exact rfl))))
  (first | (apply WF.condT; (focus (simp only [evalO, ofConst, Tri.gp, lay, Bool.not_true, Bool.not_false, reduceIte, Nat.reduceEqDiff, dl]; done))) | (apply WF.condF; (focus (simp only [evalO, ofConst, Tri.gp, lay, Bool.not_true, Bool.not_false, reduceIte, Nat.reduceEqDiff, dl]; done))))
  repeat (first | refine WF.seq ?_ | refine WF.regionL ?_ | refine WO.nil ?_ | refine WF.block ?_ | refine WF.skip ?_ | refine WF.endBlock ?_ | (apply WF.exit; (focus (exact rfl))) | (apply WO.op; (focus ((simp only [rO, wantedU, lay, decide_true, li, lo, reduceIte, Nat.reduceEqDiff, Nat.reduceAdd, beq_self_eq_true]; done))); (focus (simp only [rE, rO, li, lo, lay, evalL, ofConst, storeU, AH.set, AV.cells, decide_true, if_true, if_false, reduceIte, Nat.reduceEqDiff, Nat.reduceAdd, Nat.reduceMul]; exact rfl)); (focus (exact rfl))) | (apply WO.unwanted; (focus ((simp only [rO, wantedU, lay, decide_true, li, lo, reduceIte, Nat.reduceEqDiff, Nat.reduceAdd, beq_self_eq_true]; done))); (focus (exact rfl))))
  refine WF.while (fun m t H' => ∃ i : Nat, H' = H ∧ i + m = l.length ∧ t.get 0 = some rv1 ∧ t.get 1 = some rv2 ∧ t.get 5 = some (.int .i64 (i : Int))) l.length ?_ ?_
  · refine ⟨0, rfl, by omega, ?_, ?_, ?_⟩ <;> simp [Tri.gp, lay]
  rintro m t H' ⟨i, rfl, him, ht0, ht1, ht5⟩ ih
  by_cases hi : i < l.length
  · have hlt : decide ((i : Int) < (l.length : Int)) = true := by simp; omega
    obtain ⟨b1, off1, cap1, c1, dv1, rfl, hc1, hd1, hcut1⟩ := h1.at hi
    obtain ⟨b2, off2, cap2, c2, dv2, rfl, hc2, hd2, hcut2⟩ := h2.at hi
    have hu := h8 _ (List.getElem_mem hi)
    repeat (first | refine WF.seq ?_ | refine WF.regionL ?_ | refine WO.nil ?_ | refine WF.block ?_ | refine WF.skip ?_ | refine WF.endBlock ?_ | (apply WF.exit; (focus (exact rfl))) | (apply WO.op; (focus ((simp only [rO, wantedU, lay, decide_true, li, lo, reduceIte, Nat.reduceEqDiff, Nat.reduceAdd, beq_self_eq_true, hlt]; done))); (focus (simp only [rE, rO, li, lo, lay, evalL, ofConst, storeU, AH.set, AV.cells, decide_true, if_true, if_false, reduceIte, Nat.reduceEqDiff, Nat.reduceAdd, Nat.reduceMul, und78, len_SL und78 hs1, len_SL und78 hs2, loadVar_agg agg87 sz87, ht0, ht1, ht5, dl, hlt]; exact rfl)); (focus (exact rfl))) | (apply WO.unwanted; (focus ((simp only [rO, wantedU, lay, decide_true, li, lo, reduceIte, Nat.reduceEqDiff, Nat.reduceAdd, beq_self_eq_true, hlt]; done))); (focus (exact rfl))))
    (first | (apply WF.condT; (focus (simp only [evalO, ofConst, Tri.gp, lay, Bool.not_true, Bool.not_false, reduceIte, Nat.reduceEqDiff, hlt]; done))) | (apply WF.condF; (focus (simp only [evalO, ofConst, Tri.gp, lay, Bool.not_true, Bool.not_false, reduceIte, Nat.reduceEqDiff, hlt]; done))))
    repeat (first | refine WF.seq ?_ | refine WF.regionL ?_ | refine WO.nil ?_ | refine WF.block ?_ | refine WF.skip ?_ | refine WF.endBlock ?_ | (apply WF.exit; (focus (exact rfl))) | (apply WO.op; (focus ((simp only [rO, wantedU, lay, decide_true, li, lo, reduceIte, Nat.reduceEqDiff, Nat.reduceAdd, beq_self_eq_true, hlt]; done))); (focus (simp only [rE, rO, li, lo, lay, evalL, ofConst, storeU, AH.set, AV.cells, decide_true, if_true, if_false, reduceIte, Nat.reduceEqDiff, Nat.reduceAdd, Nat.reduceMul, und78, len_SL und78 hs1, len_SL und78 hs2, loadVar_agg agg87 sz87, ht0, ht1, ht5, dl, hlt]; exact rfl)); (focus (exact rfl))) | (apply WO.unwanted; (focus ((simp only [rO, wantedU, lay, decide_true, li, lo, reduceIte, Nat.reduceEqDiff, Nat.reduceAdd, beq_self_eq_true, hlt]; done))); (focus (exact rfl))))
    (apply WF.draws; (focus kernel_rfl); (focus kernel_rfl))
    (refine WF.settleL ?_; (iterate 8 (first | (apply WSL.pure; (focus kernel_rfl); (focus kernel_rfl); (focus ((simp only [rO, wantedU, lay, decide_true, li, lo, reduceIte, Nat.reduceEqDiff, Nat.reduceAdd, beq_self_eq_true, hlt]; done))); (focus (simp only [rE, rO, li, lo, lay, evalL, ofConst, storeU, AH.set, AV.cells, decide_true, if_true, if_false, reduceIte, Nat.reduceEqDiff, Nat.reduceAdd, Nat.reduceMul, und78, len_SL und78 hs1, len_SL und78 hs2, loadVar_agg agg87 sz87, ht0, ht1, ht5, dl, hlt, index_SL und78 sz87 hi, hc1, hc2, hcut1, hcut2]; exact rfl)); (focus (exact rfl))) | (apply WSL.load; (focus kernel_rfl); (focus kernel_rfl); (focus ((simp only [rO, wantedU, lay, decide_true, li, lo, reduceIte, Nat.reduceEqDiff, Nat.reduceAdd, beq_self_eq_true, hlt]; done))); (focus (simp only [rE, rO, li, lo, lay, evalL, ofConst, storeU, AH.set, AV.cells, decide_true, if_true, if_false, reduceIte, Nat.reduceEqDiff, Nat.reduceAdd, Nat.reduceMul, und78, len_SL und78 hs1, len_SL und78 hs2, loadVar_agg agg87 sz87, ht0, ht1, ht5, dl, hlt, index_SL und78 sz87 hi, hc1, hc2, hcut1, hcut2]; exact rfl)); (focus (exact rfl))))); (iterate 2 (apply WSL.later; (focus kernel_rfl))); refine WSL.nil ?_)
    (apply After.call (e := 8); (focus kernel_rfl); (focus (simp only [List.getElem?_toArray, List.getElem?_cons_succ, List.getElem?_cons_zero]; exact rfl)); (focus ((simp only [rO, wantedU, lay, decide_true, li, lo, reduceIte, Nat.reduceEqDiff, Nat.reduceAdd, beq_self_eq_true, hlt]; done))); (focus (simp only [rE, rO, li, lo, lay, evalL, ofConst, storeU, AH.set, AV.cells, decide_true, if_true, if_false, reduceIte, Nat.reduceEqDiff, Nat.reduceAdd, Nat.reduceMul, und78, len_SL und78 hs1, len_SL und78 hs2, loadVar_agg agg87 sz87, ht0, ht1, ht5, dl, hlt, cu30]; exact rfl)); (focus (exact same_c _ _ _ _ _ _ hd1 hd2 hu)); rintro _ _ ⟨rfl, rfl⟩; refine ⟨_, rfl, ?_, ?_⟩; (focus exact recheck_static (by kernel_rfl)))
    (refine WF.settleL ?_; (iterate 9 (apply WSL.later; (focus kernel_rfl))); (iterate 1 (apply WSL.pure; (focus kernel_rfl); (focus kernel_rfl); (focus ((simp only [rO, wantedU, lay, decide_true, li, lo, reduceIte, Nat.reduceEqDiff, Nat.reduceAdd, beq_self_eq_true]; done))); (focus (simp only [rE, rO, li, lo, lay, evalL, ofConst, storeU, AH.set, AV.cells, decide_true, if_true, if_false, reduceIte, Nat.reduceEqDiff, Nat.reduceAdd, Nat.reduceMul, und78, len_SL und78 hs1, len_SL und78 hs2, loadVar_agg agg87 sz87, ht0, ht1, ht5, dl]; exact rfl)); (focus (exact rfl)))); refine WSL.nil ?_)
    (apply After.all; (focus kernel_rfl); (focus kernel_rfl))
    repeat (first | refine WF.seq ?_ | refine WF.regionL ?_ | refine WO.nil ?_ | refine WF.block ?_ | refine WF.skip ?_ | refine WF.endBlock ?_ | (apply WF.exit; (focus (exact rfl))) | (apply WO.op; (focus ((simp only [rO, wantedU, lay, decide_true, li, lo, reduceIte, Nat.reduceEqDiff, Nat.reduceAdd, beq_self_eq_true]; done))); (focus (simp only [rE, rO, li, lo, lay, evalL, ofConst, storeU, AH.set, AV.cells, decide_true, if_true, if_false, reduceIte, Nat.reduceEqDiff, Nat.reduceAdd, Nat.reduceMul, und78, len_SL und78 hs1, len_SL und78 hs2, loadVar_agg agg87 sz87, ht0, ht1, ht5, dl]; exact rfl)); (focus (exact rfl))) | (apply WO.unwanted; (focus ((simp only [rO, wantedU, lay, decide_true, li, lo, reduceIte, Nat.reduceEqDiff, Nat.reduceAdd, beq_self_eq_true]; done))); (focus (exact rfl))))
    (first | (apply WF.condT; (focus (simp only [evalO, ofConst, Tri.gp, lay, Bool.not_true, Bool.not_false, reduceIte, Nat.reduceEqDiff]; done))) | (apply WF.condF; (focus (simp only [evalO, ofConst, Tri.gp, lay, Bool.not_true, Bool.not_false, reduceIte, Nat.reduceEqDiff]; done))))
    repeat (first | refine WF.seq ?_ | refine WF.regionL ?_ | refine WO.nil ?_ | refine WF.block ?_ | refine WF.skip ?_ | refine WF.endBlock ?_ | (apply WF.exit; (focus (exact rfl))) | (apply WO.op; (focus ((simp only [rO, wantedU, lay, decide_true, li, lo, reduceIte, Nat.reduceEqDiff, Nat.reduceAdd, beq_self_eq_true]; done))); (focus (simp only [rE, rO, li, lo, lay, evalL, ofConst, storeU, AH.set, AV.cells, decide_true, if_true, if_false, reduceIte, Nat.reduceEqDiff, Nat.reduceAdd, Nat.reduceMul, und78, len_SL und78 hs1, len_SL und78 hs2, loadVar_agg agg87 sz87, ht0, ht1, ht5, dl]; exact rfl)); (focus (exact rfl))) | (apply WO.unwanted; (focus ((simp only [rO, wantedU, lay, decide_true, li, lo, reduceIte, Nat.reduceEqDiff, Nat.reduceAdd, beq_self_eq_true]; done))); (focus (exact rfl))))
    refine WF.again ?_
    refine ih (m - 1) _ _ (by omega) ⟨i + 1, rfl, by omega, ?_, ?_, ?_⟩
    · simp [Tri.gp, ht0]
    · simp [Tri.gp, ht1]
    · simp only [Tri.gp, reduceIte, ht5]
      rw [w64 (by omega) (by omega)]
      simp
  · have hlt : decide ((i : Int) < (l.length : Int)) = false := by simp; omega
    repeat (first | refine WF.seq ?_ | refine WF.regionL ?_ | refine WO.nil ?_ | refine WF.block ?_ | refine WF.skip ?_ | refine WF.endBlock ?_ | (apply WF.exit; (focus (exact rfl))) | (apply WO.op; (focus ((simp only [rO, wantedU, lay, decide_true, li, lo, reduceIte, Nat.reduceEqDiff, Nat.reduceAdd, beq_self_eq_true, hlt]; done))); (focus (simp only [rE, rO, li, lo, lay, evalL, ofConst, storeU, AH.set, AV.cells, decide_true, if_true, if_false, reduceIte, Nat.reduceEqDiff, Nat.reduceAdd, Nat.reduceMul, und78, len_SL und78 hs1, len_SL und78 hs2, loadVar_agg agg87 sz87, ht0, ht1, ht5, dl, hlt]; exact rfl)); (focus (exact rfl))) | (apply WO.unwanted; (focus ((simp only [rO, wantedU, lay, decide_true, li, lo, reduceIte, Nat.reduceEqDiff, Nat.reduceAdd, beq_self_eq_true, hlt]; done))); (focus (exact rfl))))
    (first | (apply WF.condT; (focus (simp only [evalO, ofConst, Tri.gp, lay, Bool.not_true, Bool.not_false, reduceIte, Nat.reduceEqDiff, hlt]; done))) | (apply WF.condF; (focus (simp only [evalO, ofConst, Tri.gp, lay, Bool.not_true, Bool.not_false, reduceIte, Nat.reduceEqDiff, hlt]; done))))
    repeat (first | refine WF.seq ?_ | refine WF.regionL ?_ | refine WO.nil ?_ | refine WF.block ?_ | refine WF.skip ?_ | refine WF.endBlock ?_ | (apply WF.exit; (focus (exact rfl))) | (apply WO.op; (focus ((simp only [rO, wantedU, lay, decide_true, li, lo, reduceIte, Nat.reduceEqDiff, Nat.reduceAdd, beq_self_eq_true, hlt]; done))); (focus (simp only [rE, rO, li, lo, lay, evalL, ofConst, storeU, AH.set, AV.cells, decide_true, if_true, if_false, reduceIte, Nat.reduceEqDiff, Nat.reduceAdd, Nat.reduceMul, und78, len_SL und78 hs1, len_SL und78 hs2, loadVar_agg agg87 sz87, ht0, ht1, ht5, dl, hlt]; exact rfl)); (focus (exact rfl))) | (apply WO.unwanted; (focus ((simp only [rO, wantedU, lay, decide_true, li, lo, reduceIte, Nat.reduceEqDiff, Nat.reduceAdd, beq_self_eq_true, hlt]; done))); (focus (exact rfl))))
    (apply WF.ret; (focus (simp only [resultsU, Tri.gp, lay, resL, reduceIte, Nat.reduceEqDiff, rs65]; exact rfl)))
    exact ⟨rfl, rfl⟩
theorem bin_eqB (a b : Bool) : binU Q .eql 4 (.bool a) (.bool b) = some (.bool (a == b)) := bin_eqlB und4 a b
theorem sameB_c (H : AH) (cpu dr : Int) (ah : Bool) (rv1 rv2 : AV) (l : List RecD) (h1 : RecsAt H rv1 l) (h2 : RecsAt H rv2 l) (h8 : ∀ d ∈ l, U8 d.r) (hlen : l.length < 9223372036854775808) : Fn Q L 29 [BV cpu rv1 dr ah, BV cpu rv2 dr ah] H (fun w H' => w = .bool true ∧ H' = H) := by
  refine Fn.gc (en29 _ _) rfl ?_
  have h1 := h1.lock
  have h2 := h2.lock
  generalize lock H = H at h1 h2
  have ho1 := h1.1.one
  have ho2 := h2.1.one
  have hs1 := h1.1.solid
  have hs2 := h2.1.solid
  have n01 : (H.next = H.next + 1) = False := eq_false (by omega)
  have n10 : (H.next + 1 = H.next) = False := eq_false (by omega)
  have q1 : decide (cpu = cpu) = true := by simp
  have q2 : decide (dr = dr) = true := by simp
  have q3 : (ah == ah) = true := by simp
  unfold c29 Tryz.f29 BV
  simp only [Option.getD_some]
  repeat (first | refine WF.seq ?_ | refine WF.regionL ?_ | refine WO.nil ?_ | refine WF.block ?_ | refine WF.skip ?_ | refine WF.endBlock ?_ | (apply WF.exit; (focus (exact rfl))) | (apply WO.op; (focus ((simp only [rO, wantedU, lay, decide_true, li, lo, reduceIte, Nat.reduceEqDiff, Nat.reduceAdd, beq_self_eq_true, q1, q2, q3]; done))); (focus (simp only [rE, rO, li, lo, lay, evalL, ofConst, storeU, AH.set, AV.cells, decide_true, if_true, if_false, reduceIte, Nat.reduceEqDiff, Nat.reduceAdd, Nat.reduceMul, fa80_0, fa80_1, fa80_2, fa80_3, loadVar_one agg3, loadVar_one agg4, loadVar_one agg78, bin_eqB, n01, n10, ho1, ho2, hs1, hs2, q1, q2, q3, cu65]; exact rfl)); (focus (exact rfl))) | (apply WO.unwanted; (focus ((simp only [rO, wantedU, lay, decide_true, li, lo, reduceIte, Nat.reduceEqDiff, Nat.reduceAdd, beq_self_eq_true, q1, q2, q3]; done))); (focus (exact rfl))))
  (apply WO.call; (focus ((simp only [rO, wantedU, lay, decide_true, li, lo, reduceIte, Nat.reduceEqDiff, Nat.reduceAdd, beq_self_eq_true, q1, q2, q3]; done))); (focus (simp only [rE, rO, li, lo, lay, evalL, ofConst, storeU, AH.set, AV.cells, decide_true, if_true, if_false, reduceIte, Nat.reduceEqDiff, Nat.reduceAdd, Nat.reduceMul, fa80_0, fa80_1, fa80_2, fa80_3, loadVar_one agg3, loadVar_one agg4, loadVar_one agg78, bin_eqB, n01, n10, ho1, ho2, hs1, hs2, q1, q2, q3, cu65]; exact rfl)); (focus (exact sames_c _ _ _ _ (h1.up (Up.boxes2 _ _ _)) (h2.up (Up.boxes2 _ _ _)) h8 hlen)); rintro _ H ⟨rfl, rfl⟩; refine ⟨_, rfl, ?_⟩)
  repeat (first | refine WF.seq ?_ | refine WF.regionL ?_ | refine WO.nil ?_ | refine WF.block ?_ | refine WF.skip ?_ | refine WF.endBlock ?_ | (apply WF.exit; (focus (exact rfl))) | (apply WO.op; (focus ((simp only [rO, wantedU, lay, decide_true, li, lo, reduceIte, Nat.reduceEqDiff, Nat.reduceAdd, beq_self_eq_true, q1, q2, q3]; done))); (focus (simp only [rE, rO, li, lo, lay, evalL, ofConst, storeU, AH.set, AV.cells, decide_true, if_true, if_false, reduceIte, Nat.reduceEqDiff, Nat.reduceAdd, Nat.reduceMul, fa80_0, fa80_1, fa80_2, fa80_3, loadVar_one agg3, loadVar_one agg4, loadVar_one agg78, bin_eqB, n01, n10, ho1, ho2, hs1, hs2, q1, q2, q3, cu65]; exact rfl)); (focus (exact rfl))) | (apply WO.unwanted; (focus ((simp only [rO, wantedU, lay, decide_true, li, lo, reduceIte, Nat.reduceEqDiff, Nat.reduceAdd, beq_self_eq_true, q1, q2, q3]; done))); (focus (exact rfl))))
  (apply WF.ret; (focus (simp only [resultsU, Tri.gp, lay, resL, reduceIte, Nat.reduceEqDiff, rs29]; exact rfl)))
  rfl
end Go.Ev.C
end
section
set_option linter.unusedVariables false
set_option linter.unusedSimpArgs false
set_option linter.defProp false
set_option linter.all false
namespace Go.Ev.C
open Go.Proofs
set_option maxRecDepth 100000
set_option linter.unusedSimpArgs false
def intL (l : List Int) : List AV := l.map (.int .i64)
theorem intL_one (l : List Int) : (intL l).all oneA = true := List.all_eq_true.2 fun v hv => by obtain ⟨x, _, rfl⟩ := List.mem_map.1 hv; rfl
theorem intL_hole (l : List Int) : (intL l).all noHole = true := List.all_eq_true.2 fun v hv => by obtain ⟨x, _, rfl⟩ := List.mem_map.1 hv; rfl
def OwnInts (H0 H : AH) (v : AV) (l : List Int) : Prop := (l = [] ∧ v = .nilslice) ∨ (l ≠ [] ∧ ∃ b, v = .slice b 0 l.length (.up 1) ∧ H0.next ≤ b ∧ b < H.next ∧ H.t.get b = some (.cells 3 (intL l) 0 false false))
theorem OwnInts.sl {H0 H : AH} {v : AV} {l : List Int} (h : OwnInts H0 H v l) : SL v l.length := by
  rcases h with ⟨rfl, rfl⟩ | ⟨_, b, rfl, _⟩
  · exact .nil
  · exact .sl _ _ _ _
theorem OwnInts.ints {H0 H : AH} {v : AV} {l : List Int} (h : OwnInts H0 H v l) : IntsAt H v l := by
  refine ⟨h.sl, fun b off n cap e hne => ?_⟩
  rcases h with ⟨rfl, _⟩ | ⟨_, b', rfl, _, hb, hg⟩
  · exact absurd rfl hne
  · cases e
    refine ⟨_, hb, by unfold AH.cellsAt; rw [hg], fun i z hz => ?_⟩
    rw [Nat.zero_add, Nat.mul_one]
    unfold intL
    rw [List.getElem?_map, hz]
    rfl
theorem OwnInts.nil (H0 H : AH) : OwnInts H0 H .nilslice [] := .inl ⟨rfl, rfl⟩
theorem OwnInts.up {H0 H H' : AH} {v : AV} {l : List Int} (h : OwnInts H0 H v l) (u : Up H H') : OwnInts H0 H' v l := by
  rcases h with h | ⟨h0, b, h1, h2, h3, h4⟩
  · exact .inl h
  · exact .inr ⟨h0, b, h1, h2, Nat.lt_of_lt_of_le h3 u.next, by rw [u.old b h3]; exact h4⟩
theorem app84 (s x : AV) (H : AH) : appendU Q [84, 84] [s, x] H = (match newCells 1 x H with | some (n, cs) => appendTo 3 1 s n cs H | none => none) := by kernel_rfl
/-- The heap with a cell for a number. -/
def one84 (H : AH) (x : Int) : AH := ⟨H.t.put H.next (some (.cells 3 [.int .i64 x] 0 false false)), H.next + 1⟩
theorem OwnInts.push {H0 H : AH} {v : AV} {l : List Int} (h : OwnInts H0 H v l) (hu : Up H0 H) (x : Int) (hn : l.length + 1 ≤ 274877906944) :
    ∃ v' H', appendU Q [84, 84] [v, .slice H.next 0 1 (.is 1)] (one84 H x) = some (v', H') ∧ OwnInts H0 H' v' (l ++ [x]) ∧ Up H0 H' := by
  have hu1 : Up H0 (one84 H x) := hu.trans (Up.box _ _)
  have hnx : (one84 H x).next = H.next + 1 := rfl
  have hcell : (one84 H x).cellsAt H.next = some [.int .i64 x] := by unfold one84; rw [cellsAt_put, if_pos rfl]
  have hnew : newCells 1 (.slice H.next 0 1 (.is 1)) (one84 H x) = some (1, [.int .i64 x]) := newCells_some (by omega) hcell (cut_self rfl rfl)
  rw [app84, hnew]
  dsimp only
  have h0 := hu.next
  rcases h with ⟨rfl, rfl⟩ | ⟨hne, b, rfl, hb0, hb, hg⟩
  · rw [appendTo_nil (by omega) (by omega) rfl]
    refine ⟨_, _, rfl, .inr ⟨by simp, (one84 H x).next, rfl, ?_, ?_, ?_⟩, ?_⟩
    · rw [hnx]; omega
    · exact Nat.lt_succ_self _
    · show (Tri.put _ _ _).get _ = _
      rw [Tri.gp, if_pos rfl]
      rfl
    · exact hu1.trans (Up.box _ _)
  · have hg1 : (one84 H x).t.get b = some (.cells 3 (intL l) 0 false false) := by
      show (Tri.put _ _ _).get _ = _
      rw [Tri.gp, if_neg (by omega)]
      exact hg
    have hl : (intL l).length = l.length * 1 := by simp [intL]
    rw [appendTo_up hg1 (cut_self hl (intL_hole l)) (by omega) hn (intL_one l) rfl]
    refine ⟨_, _, rfl, .inr ⟨by simp, (one84 H x).next, by simp, ?_, ?_, ?_⟩, ?_⟩
    · rw [hnx]; omega
    · exact Nat.lt_succ_self _
    · show (Tri.put _ _ _).get _ = _
      rw [Tri.gp, if_pos rfl]
      simp [intL]
    · refine ⟨by show H0.next ≤ (one84 H x).next + 1; rw [hnx]; omega, fun b' hb' => ?_⟩
      show ((Tri.put _ _ _).put _ _).get _ = _
      rw [Tri.gp, if_neg (by rw [hnx]; omega), Tri.gp, if_neg (by omega)]
      exact hu1.old b' hb'
def mkI1 (a : Option AV) : Option New := match a with
  | some a => (match fillU (fun i => some (i * 1, 1)) [.int .i64 0] [(0, a)] with
    | some c => some (.cells 3 c 0 false false, fun b => .slice b 0 1 (.is 1))
    | none => none)
  | _ => none
theorem zero3 : zeroU Q 3 = some (.int .i64 0) := by kernel_rfl
theorem bs84 (t : Tri AV) (k : Nat) : buildSliceN Q t 84 1 #[(0, .tmp k)] = mkI1 (t.get k) := by
  cases ha : t.get k with
  | none => simp [buildSliceN, und84, partsU, evalO, ha, mkI1]
  | some a =>
    simp [buildSliceN, und84, sz3, zero3, partsU, evalO, ha, mkI1, AV.cells]
    cases fillU (fun i => some (i, 1)) [AV.int .i64 0] [(0, a)] <;> rfl
theorem mkI1_int (x : Int) : mkI1 (some (.int .i64 x)) = some (.cells 3 [.int .i64 x] 0 false false, fun b => .slice b 0 1 (.is 1)) := rfl

/-! ### the lists -/
def othersL (ids : List Int) (l : List RecD) : List Int := (l.filter fun d => !ids.contains d.id).map (·.id)
def rowL (x : Int) (m : List Int) : List Int := (m.filter fun y => decide (x = y)).map fun _ => x
def bothL (m : List Int) (ids : List Int) : List Int := ids.flatMap fun x => rowL x m
theorem othersL_succ (ids : List Int) (l : List RecD) {i : Nat} (hi : i < l.length) : othersL ids (l.take (i + 1)) = othersL ids (l.take i) ++ (if ids.contains l[i].id then [] else [l[i].id]) := by
  unfold othersL
  rw [List.take_succ_eq_append_getElem hi, List.filter_append, List.map_append]
  cases h : ids.contains l[i].id <;> simp only [List.filter_cons, List.filter_nil, h, Bool.not_false, Bool.not_true, if_true, if_false, Bool.false_eq_true, List.map_cons, List.map_nil]
theorem rowL_succ (x : Int) (m : List Int) {k : Nat} (hk : k < m.length) : rowL x (m.take (k + 1)) = rowL x (m.take k) ++ (if decide (x = m[k]) then [x] else []) := by
  unfold rowL
  rw [List.take_succ_eq_append_getElem hk, List.filter_append, List.map_append]
  by_cases h : x = m[k] <;> simp [h]
theorem bothL_succ (m ids : List Int) {i : Nat} (hi : i < ids.length) : bothL m (ids.take (i + 1)) = bothL m (ids.take i) ++ rowL ids[i] m := by
  unfold bothL
  rw [List.take_succ_eq_append_getElem hi, List.flatMap_append]
  simp
theorem rowL_length (x : Int) (m : List Int) : (rowL x m).length ≤ m.length := by
  unfold rowL
  rw [List.length_map]
  exact List.length_filter_le _ _
theorem bothL_length (m : List Int) : ∀ ids : List Int, (bothL m ids).length ≤ ids.length * m.length
  | [] => by simp [bothL]
  | x :: ids => by
    have h1 := rowL_length x m
    have h2 := bothL_length m ids
    have e : bothL m (x :: ids) = rowL x m ++ bothL m ids := by simp [bothL]
    rw [e, List.length_append, List.length_cons, Nat.add_mul, Nat.one_mul]
    omega
theorem mem_bothL {m ids : List Int} {z : Int} : (bothL m ids).contains z = (ids.contains z && m.contains z) := by
  rw [Bool.eq_iff_iff]
  simp only [Bool.and_eq_true, List.contains_iff_mem]
  unfold bothL rowL
  simp only [List.mem_flatMap, List.mem_map, List.mem_filter, decide_eq_true_eq]
  constructor
  · rintro ⟨x, hx, y, ⟨hy, rfl⟩, rfl⟩
    exact ⟨hx, hy⟩
  · rintro ⟨h1, h2⟩
    exact ⟨z, h1, z, ⟨h2, rfl⟩, rfl⟩
theorem mem_othersL {ids : List Int} {l : List RecD} {d : RecD} (hd : d ∈ l) : (othersL ids l).contains d.id = !ids.contains d.id := by
  rw [Bool.eq_iff_iff]
  unfold othersL
  rw [List.contains_iff_mem]
  simp only [List.mem_map, List.mem_filter]
  constructor
  · rintro ⟨e, ⟨_, he⟩, h⟩
    rw [← h]; exact he
  · intro h
    exact ⟨d, ⟨hd, h⟩, rfl⟩
theorem contains_succ (x : Int) (ids : List Int) {k : Nat} (hk : k < ids.length) : (ids.take (k + 1)).contains x = ((ids.take k).contains x || decide (ids[k] = x)) := by
  rw [Bool.eq_iff_iff, List.take_succ_eq_append_getElem hk]
  simp only [List.contains_iff_mem, List.mem_append, List.mem_singleton, Bool.or_eq_true, decide_eq_true_eq]
  constructor
  · rintro (h | h)
    · exact .inl h
    · exact .inr h.symm
  · rintro (h | h)
    · exact .inl h
    · exact .inr h.symm
/-- Where the next one of those that were chosen stands. -/
theorem filter_at {α : Type} (p : α → Bool) (l : List α) {n : Nat} (hn : n < l.length) (hp : p l[n] = true) : ((l.take n).filter p).length < (l.filter p).length ∧ (l.filter p)[((l.take n).filter p).length]? = some l[n] := by
  have e : l.filter p = (l.take n).filter p ++ l[n] :: (l.drop (n + 1)).filter p := by
    conv => lhs; rw [← List.take_append_drop n l, List.drop_eq_getElem_cons hn, List.filter_append, List.filter_cons, if_pos hp]
  rw [e]
  refine ⟨by simp, ?_⟩
  rw [List.getElem?_append_right (Nat.le_refl _), Nat.sub_self]
  rfl
theorem filter_succ {α : Type} (p : α → Bool) (l : List α) {n : Nat} (hn : n < l.length) : ((l.take (n + 1)).filter p).length = ((l.take n).filter p).length + if p l[n] then 1 else 0 := by
  rw [List.take_succ_eq_append_getElem hn, List.filter_append, List.length_append]
  cases h : p l[n] <;> simp [h]
end Go.Ev.C
end
