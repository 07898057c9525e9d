/- The law, walked whole; what is read of the arguments. -/
import Derived.Test.YtkkegnkopmpjhaaGreatDoorEvXb
import Derived.Test.YtkkegnkopmpjhaaGreatDoorEvO
import Derived.Test.YtkkegnkopmpjhaaGreatDoorEvJ
section
set_option linter.unusedVariables false
set_option linter.unusedSimpArgs false
set_option linter.defProp false
set_option linter.all false
namespace Go.Ev.C
open Go.Proofs Go.RowKit Go.Fmt
set_option maxRecDepth 100000
set_option linter.unusedSimpArgs false
variable {L : World → Prop} [Yj Q L]
set_option maxHeartbeats 4000000 in
theorem sameBs_c (H : AH) (v1 v2 : AV) (l : List XH) (h1 : YN H v1 l) (h2 : YN H v2 l) (h8 : ∀ d ∈ l,∀ r ∈ d.recs,U8 r.r) (hlen : l.length < 9223372036854775808) : Fn Q L 24 [v1,v2] H (fun w H' => w = .bool true ∧ H' = H) := by
  refine Fn.intro (en24 _ _) ?_
  have hs1 := h1.1
  have hs2 := h2.1
  have q0 : decide ((l.length : Int) = (l.length : Int)) = true := by simp
  unfold c24 Tryz.f24
  simp only [Option.getD_some]
  repeat (first|(apply Zo;exact rfl)|apply Zd|apply WO.nil|(apply WO.op;(focus (simp only [rQ,Zb,li,lo,reduceIte,Nat.reduceEqDiff,Nat.reduceAdd,beq_self_eq_true,q0];done));simp only [rE,rS,li,lo,reduceIte,Nat.reduceEqDiff,Nat.reduceAdd,Nat.reduceMul,Zp,Zh Zp hs1,Zh Zp hs2,q0];exact rfl;exact rfl)|(apply WO.unwanted;(focus (simp only [rQ,Zb,li,lo,reduceIte,Nat.reduceEqDiff,Nat.reduceAdd,beq_self_eq_true,q0];done));exact rfl))
  (first|(apply WF.condT;(focus (simp only [Zi,Zf,Ze,Zk,Bool.not_true,Bool.not_false,reduceIte,Nat.reduceEqDiff,q0];done)))|(apply WF.condF;(focus (simp only [Zi,Zf,Ze,Zk,Bool.not_true,Bool.not_false,reduceIte,Nat.reduceEqDiff,q0];done))))
  repeat (first|(apply Zo;exact rfl)|apply Zd|apply WO.nil|(apply Zw;exact rfl;simp only [rE,rS,li,lo,reduceIte,Nat.reduceEqDiff,Nat.reduceAdd,Nat.reduceMul,Zp];exact rfl;exact rfl))
  refine Y6 (fun m t H' => ∃ i : Nat, H' = H ∧ i + m = l.length ∧ t.get 0 = some v1 ∧ t.get 1 = some v2 ∧ t.get 5 = some (.int .i64 (i : Int))) l.length ?_ ?_
  · refine ⟨0, rfl, by omega, ?_, ?_, ?_⟩ <;> simp [Ze, Zk]
  rintro m t H' ⟨i, rfl, him, ht0, ht1, ht5⟩ ih
  by_cases hi : i < l.length
  · have hlt : decide ((i : Int) < (l.length : Int)) = true := by simp; omega
    have wi : IntKind.i64.wrap ((i : Int) + 1) = ((i + 1 : Nat) : Int) := by rw [Go.Ev.w64 (by omega) (by omega)]; omega
    obtain ⟨b1, off1, cap1, c1, rv1, rfl, hb1, hc1, hd1, hl1, hcut1⟩ := h1.at hi
    obtain ⟨b2, off2, cap2, c2, rv2, rfl, hb2, hc2, hd2, hl2, hcut2⟩ := h2.at hi
    have hmem := h8 _ (List.getElem_mem hi)
    repeat (first|(apply Zo;exact rfl)|apply Zd|apply WO.nil|(apply WO.op;(focus (simp only [rQ,Zb,li,lo,reduceIte,Nat.reduceEqDiff,Nat.reduceAdd,beq_self_eq_true,hlt];done));simp only [rE,rS,li,lo,reduceIte,Nat.reduceEqDiff,Nat.reduceAdd,Nat.reduceMul,Zp,Zh Zp hs1,Zh Zp hs2,ht0,ht1,ht5,hlt];exact rfl;exact rfl)|(apply WO.unwanted;(focus (simp only [rQ,Zb,li,lo,reduceIte,Nat.reduceEqDiff,Nat.reduceAdd,beq_self_eq_true,hlt];done));exact rfl))
    (first|(apply WF.condT;(focus (simp only [Zi,Zf,Ze,Zk,Bool.not_true,Bool.not_false,reduceIte,Nat.reduceEqDiff,hlt];done)))|(apply WF.condF;(focus (simp only [Zi,Zf,Ze,Zk,Bool.not_true,Bool.not_false,reduceIte,Nat.reduceEqDiff,hlt];done))))
    repeat (first|(apply Zo;exact rfl)|apply Zd|apply WO.nil|(apply WO.op;(focus (simp only [rQ,Zb,li,lo,reduceIte,Nat.reduceEqDiff,Nat.reduceAdd,beq_self_eq_true,hlt];done));simp only [rE,rS,li,lo,reduceIte,Nat.reduceEqDiff,Nat.reduceAdd,Nat.reduceMul,Zp,Zh Zp hs1,Zh Zp hs2,ht0,ht1,ht5,hlt];exact rfl;exact rfl)|(apply WO.unwanted;(focus (simp only [rQ,Zb,li,lo,reduceIte,Nat.reduceEqDiff,Nat.reduceAdd,beq_self_eq_true,hlt];done));exact rfl))
    (apply YF; kernel_rfl; kernel_rfl)
    (refine Zq ?_;(iterate 8 (first|(apply ZX.pure;kernel_rfl;kernel_rfl;(focus ((simp only [rQ,Zb,li,lo,reduceIte,Nat.reduceEqDiff,Nat.reduceAdd,beq_self_eq_true,hlt];done)));simp only [rE,rS,li,lo,reduceIte,Nat.reduceEqDiff,Nat.reduceAdd,Nat.reduceMul,Zp,Zh Zp hs1,Zh Zp hs2,ht0,ht1,ht5,hlt,YS Zp Zv hi,Zc ZM Zv,hc1,hcut1,hc2,hcut2];exact rfl;exact rfl)|(apply ZX.load;kernel_rfl;kernel_rfl;(focus ((simp only [rQ,Zb,li,lo,reduceIte,Nat.reduceEqDiff,Nat.reduceAdd,beq_self_eq_true,hlt];done)));simp only [rE,rS,li,lo,reduceIte,Nat.reduceEqDiff,Nat.reduceAdd,Nat.reduceMul,Zp,Zh Zp hs1,Zh Zp hs2,ht0,ht1,ht5,hlt,YS Zp Zv hi,Zc ZM Zv,hc1,hcut1,hc2,hcut2];exact rfl;exact rfl)));(iterate 2 (apply ZX.later;kernel_rfl));refine ZX.nil ?_)
    (apply ZY.call (e := 8);kernel_rfl;simp only [li];exact rfl;(focus (simp only [rQ,Zb,li,lo,reduceIte,Nat.reduceEqDiff,Nat.reduceAdd,beq_self_eq_true];done));simp only [rE,rS,li,lo,reduceIte,Nat.reduceEqDiff,Nat.reduceAdd,Nat.reduceMul,Zp,Zh Zp hs1,Zh Zp hs2,ht0,ht1,ht5,cu29];exact rfl;exact sameB_c _ _ _ _ _ _ _ hd1 hd2 hmem hl1;rintro _ H' ⟨rfl,rfl⟩;refine ⟨_,rfl,?_,?_⟩;(focus exact ZH (by kernel_rfl)))
    (refine Zq ?_;(iterate 9 (apply ZX.later;kernel_rfl));(iterate 1 (apply ZX.pure;kernel_rfl;kernel_rfl;(focus ((simp only [rQ,Zb,li,lo,reduceIte,Nat.reduceEqDiff,Nat.reduceAdd,beq_self_eq_true];done)));simp only [rE,rS,li,lo,reduceIte,Nat.reduceEqDiff,Nat.reduceAdd,Nat.reduceMul,Zp,Zh Zp hs1,Zh Zp hs2,ht0,ht1,ht5];exact rfl;exact rfl));refine ZX.nil ?_)
    (apply ZY.all; kernel_rfl; kernel_rfl)
    (first|(apply WF.condT;(focus (simp only [Zi,Zf,Ze,Zk,Bool.not_true,Bool.not_false,reduceIte,Nat.reduceEqDiff];done)))|(apply WF.condF;(focus (simp only [Zi,Zf,Ze,Zk,Bool.not_true,Bool.not_false,reduceIte,Nat.reduceEqDiff];done))))
    repeat (first|(apply Zo;exact rfl)|apply Zd|apply WO.nil|(apply Zw;exact rfl;simp only [rE,rS,li,lo,reduceIte,Nat.reduceEqDiff,Nat.reduceAdd,Nat.reduceMul,Zp,Zh Zp hs1,Zh Zp hs2,ht0,ht1,ht5,wi];exact rfl;exact rfl))
    refine Y7 ?_
    refine ih (m - 1) _ _ (by omega) ⟨i + 1, rfl, by omega, ?_, ?_, ?_⟩
    all_goals simp [Ze, ht0, ht1]
  · obtain rfl : i = l.length := by omega
    have hlt : decide ((l.length : Int) < (l.length : Int)) = false := by simp
    repeat (first|(apply Zo;exact rfl)|apply Zd|apply WO.nil|(apply WO.op;(focus (simp only [rQ,Zb,li,lo,reduceIte,Nat.reduceEqDiff,Nat.reduceAdd,beq_self_eq_true,hlt];done));simp only [rE,rS,li,lo,reduceIte,Nat.reduceEqDiff,Nat.reduceAdd,Nat.reduceMul,Zp,Zh Zp hs1,Zh Zp hs2,ht0,ht1,ht5,hlt];exact rfl;exact rfl)|(apply WO.unwanted;(focus (simp only [rQ,Zb,li,lo,reduceIte,Nat.reduceEqDiff,Nat.reduceAdd,beq_self_eq_true,hlt];done));exact rfl))
    (first|(apply WF.condT;(focus (simp only [Zi,Zf,Ze,Zk,Bool.not_true,Bool.not_false,reduceIte,Nat.reduceEqDiff,hlt];done)))|(apply WF.condF;(focus (simp only [Zi,Zf,Ze,Zk,Bool.not_true,Bool.not_false,reduceIte,Nat.reduceEqDiff,hlt];done))))
    repeat (first|(apply Zo;exact rfl)|apply Zd|apply WO.nil|(apply WO.op;(focus (simp only [rQ,Zb,li,lo,reduceIte,Nat.reduceEqDiff,Nat.reduceAdd,beq_self_eq_true,hlt];done));simp only [rE,rS,li,lo,reduceIte,Nat.reduceEqDiff,Nat.reduceAdd,Nat.reduceMul,Zp,Zh Zp hs1,Zh Zp hs2,ht0,ht1,ht5,hlt];exact rfl;exact rfl)|(apply WO.unwanted;(focus (simp only [rQ,Zb,li,lo,reduceIte,Nat.reduceEqDiff,Nat.reduceAdd,beq_self_eq_true,hlt];done));exact rfl))
    (apply WF.ret; (focus (simp only [Zl, Ze, Zk, Z3, reduceIte, Nat.reduceEqDiff, rs24]; exact rfl)))
    exact ⟨rfl, rfl⟩
/-- Batches that Encode refuses. -/
theorem encode_n (H : AH) (bv : AV) (l : List XH) (hr : YN H bv l) (hlen : l.length < 9223372036854775808) (hbad : (l.any fun d => !d.ok) = true ∨ 200 < l.length) :
    Fn Q L 17 [bv] H (fun w H' => H' = H ∧ ∃ e : Int, e ≠ 0 ∧ w = .tuple [.nilslice, .int .i64 e]) := by
  refine Fn.intro (en17 _) ?_
  have hcnt : ∃ e : Int, e ≠ 0 ∧ cnt l = .tuple [.int .i64 0, .int .i64 0, .int .i64 e] := by
    unfold cnt
    cases hb : l.any fun d => !d.ok
    · rcases hbad with h | h
      · rw [hb] at h; cases h
      · rw [if_neg (by simp), if_pos (show l.length > 200 from h)]
        exact ⟨2, by decide, rfl⟩
    · rw [if_pos rfl]
      exact ⟨260, by decide, rfl⟩
  obtain ⟨e, he, hcnt⟩ := hcnt
  have hcc := count_c (L := L) H bv l hr hlen
  rw [hcnt] at hcc
  have q1 : decide (e = 0) = false := decide_eq_false he
  unfold c17 Tryz.f17
  simp only [Option.getD_some]
  repeat (first|(apply Zo;exact rfl)|apply Zd|apply WO.nil|(apply Zw;exact rfl;simp only [rE,rS,li,lo,reduceIte,Nat.reduceEqDiff,Nat.reduceAdd,Nat.reduceMul,cu18];exact rfl;exact rfl))
  (apply WO.call;(focus (simp only [rQ,Zb,li,lo,reduceIte,Nat.reduceEqDiff,Nat.reduceAdd,beq_self_eq_true];done));simp only [rE,rS,li,lo,reduceIte,Nat.reduceEqDiff,Nat.reduceAdd,Nat.reduceMul,cu18];exact rfl;exact hcc;rintro _ H ⟨rfl,rfl⟩;refine ⟨_,rfl,?_⟩)
  repeat (first|(apply Zo;exact rfl)|apply Zd|apply WO.nil|(apply WO.op;(focus (simp only [rQ,Zb,li,lo,reduceIte,Nat.reduceEqDiff,Nat.reduceAdd,beq_self_eq_true,q1];done));simp only [rE,rS,li,lo,reduceIte,Nat.reduceEqDiff,Nat.reduceAdd,Nat.reduceMul,q1];exact rfl;exact rfl)|(apply WO.unwanted;(focus (simp only [rQ,Zb,li,lo,reduceIte,Nat.reduceEqDiff,Nat.reduceAdd,beq_self_eq_true,q1];done));exact rfl))
  (first|(apply WF.condT;(focus (simp only [Zi,Zf,Ze,Zk,Bool.not_true,Bool.not_false,reduceIte,Nat.reduceEqDiff,q1];done)))|(apply WF.condF;(focus (simp only [Zi,Zf,Ze,Zk,Bool.not_true,Bool.not_false,reduceIte,Nat.reduceEqDiff,q1];done))))
  repeat (first|(apply Zo;exact rfl)|apply Zd|apply WO.nil|(apply WO.op;(focus (simp only [rQ,Zb,li,lo,reduceIte,Nat.reduceEqDiff,Nat.reduceAdd,beq_self_eq_true,q1];done));simp only [rE,rS,li,lo,reduceIte,Nat.reduceEqDiff,Nat.reduceAdd,Nat.reduceMul,q1];exact rfl;exact rfl)|(apply WO.unwanted;(focus (simp only [rQ,Zb,li,lo,reduceIte,Nat.reduceEqDiff,Nat.reduceAdd,beq_self_eq_true,q1];done));exact rfl))
  (apply WF.ret; (focus (simp only [Zl, Ze, Zk, Z3, reduceIte, Nat.reduceEqDiff, rs17]; exact rfl)))
  exact ⟨rfl, e, he, rfl⟩
theorem rec_of {d : Z6} (h : d.ok = true) (h8 : U8 d.r) : ∃ y : RecP, d = ofR y ∧ pokR y ∧ ∀ c ∈ y.data, c < 256 := by
  obtain ⟨bs, hb, h8⟩ := h8
  obtain ⟨id, tm, r⟩ := d
  dsimp only at hb
  subst hb
  unfold Z6.ok vld at h
  simp only [Z6.n, Bool.and_eq_true, decide_eq_true_eq, List.length_map] at h
  refine ⟨⟨id.toNat, tm.toNat, bs⟩, ?_, ⟨by dsimp only; omega, by dsimp only; omega, by dsimp only; omega, by dsimp only; omega⟩, h8⟩
  unfold ofR Xc
  dsimp only
  rw [Int.toNat_of_nonneg (by omega), Int.toNat_of_nonneg (by omega)]
theorem map_of {α β : Type} {f : β → α} {P : β → Prop} : ∀ {l : List α}, (∀ d ∈ l, ∃ y, d = f y ∧ P y) → ∃ m : List β, l = m.map f ∧ ∀ y ∈ m, P y
  | [], _ => ⟨[], rfl, by simp⟩
  | d :: l, h => by
    obtain ⟨y, rfl, hy⟩ := h d (by simp)
    obtain ⟨m, rfl, hm⟩ := map_of (l := l) fun x hx => h x (by simp [hx])
    refine ⟨y :: m, rfl, fun z hz => ?_⟩
    rcases List.mem_cons.1 hz with rfl | hz
    · exact hy
    · exact hm z hz
def byteB (x : YW) : Prop := ∀ y ∈ x.recs, ∀ c ∈ y.data, c < 256
theorem bat_of {d : XH} (h : d.ok = true) (h8 : ∀ r ∈ d.recs, U8 r.r) : ∃ x : YW, d = ofB x ∧ pokB x ∧ byteB x := by
  obtain ⟨cpu, recs, dr, ah⟩ := d
  unfold XH.ok okB at h
  simp only [Bool.and_eq_true, decide_eq_true_eq, Bool.not_eq_true', List.any_eq_false, Bool.not_eq_true] at h
  obtain ⟨⟨⟨⟨⟨g1, g2⟩, g3⟩, g4⟩, g5⟩, g6⟩ := h
  obtain ⟨ys, rfl, hys⟩ := map_of (f := ofR) (P := fun y => pokR y ∧ ∀ c ∈ y.data, c < 256) (l := recs) fun r hr => rec_of (by simpa using g6 r hr) (h8 r hr)
  rw [List.length_map] at g3
  refine ⟨⟨cpu.toNat,dr.toNat,if ah then 1 else 0,ys⟩,?_,⟨by dsimp only;omega,by dsimp only;omega,by dsimp only;split <;> omega,by dsimp only;omega,fun y hy => (hys y hy).1⟩,fun y hy => (hys y hy).2⟩
  unfold ofB
  dsimp only
  rw [Int.toNat_of_nonneg (by omega), Int.toNat_of_nonneg (by omega)]
  cases ah <;> rfl
theorem bats_of {l : List XH} (h : (l.any fun d => !d.ok) = false) (hl : l.length ≤ 200) (h8 : ∀ d ∈ l, ∀ r ∈ d.recs, U8 r.r) : ∃ ps : List YW, l = ps.map ofB ∧ pokL ps ∧ ∀ x ∈ ps, byteB x := by
  rw [List.any_eq_false] at h
  obtain ⟨ps, rfl, hp⟩ := map_of (f := ofB) (P := fun x => pokB x ∧ byteB x) (l := l) fun d hd => bat_of (by simpa using h d hd) (h8 d hd)
  rw [List.length_map] at hl
  exact ⟨ps, rfl, ⟨hl, fun x hx => (hp x hx).1⟩, fun x hx => (hp x hx).2⟩
theorem encRs_byte : ∀ {l : List RecP}, (∀ y ∈ l, pokR y) → (∀ y ∈ l, ∀ c ∈ y.data, c < 256) → ∀ c ∈ encRs l, c < 256
  | [], _, _, c, hc => by cases hc
  | x :: l, h, h8, c, hc => by
    rw [encRs] at hc
    rcases List.mem_append.1 hc with hc | hc
    · exact encR_byte (h x (by simp)).2 (h8 x (by simp)) c hc
    · exact encRs_byte (l := l) (fun y hy => h y (by simp [hy])) (fun y hy => h8 y (by simp [hy])) c hc
theorem encB_byte {x : YW} (h : pokB x) (h8 : byteB x) : ∀ c ∈ encB x, c < 256 := by
  obtain ⟨h1, h2, h3, h4, h5⟩ := h
  intro c hc
  unfold encB at hc
  simp only [List.mem_append] at hc
  rcases hc with hc | hc | hc | hc | hc
  · exact Xt 9 _ (by omega) c hc
  · exact Xt 9 _ (by omega) c hc
  · exact Xt 9 _ (by omega) c hc
  · exact Xt 9 _ (by omega) c hc
  · exact encRs_byte h5 h8 c hc
theorem encBs_byte : ∀ {l : List YW}, (∀ y ∈ l, pokB y) → (∀ y ∈ l, byteB y) → ∀ c ∈ encBs l, c < 256
  | [], _, _, c, hc => by cases hc
  | x :: l, h, h8, c, hc => by
    rw [encBs] at hc
    rcases List.mem_append.1 hc with hc | hc
    · exact encB_byte (h x (by simp)) (h8 x (by simp)) c hc
    · exact encBs_byte (l := l) (fun y hy => h y (by simp [hy])) (fun y hy => h8 y (by simp [hy])) c hc
theorem enc_byte {l : List YW} (h : pokL l) (h8 : ∀ y ∈ l, byteB y) : ∀ c ∈ Xn l, c < 256 := by
  intro c hc
  unfold Xn encL at hc
  have h1 := h.1
  simp only [List.mem_append] at hc
  rcases hc with hc | hc | hc
  · simp at hc
    omega
  · exact Xt 9 _ (by omega) c hc
  · exact encBs_byte h.2 h8 c hc
theorem u8_of {ps : List YW} (h8 : ∀ y ∈ ps, byteB y) : ∀ d ∈ ps.map ofB, ∀ r ∈ d.recs, U8 r.r := by
  intro d hd r hr
  obtain ⟨x, hx, rfl⟩ := List.mem_map.1 hd
  obtain ⟨y, hy, rfl⟩ := List.mem_map.1 hr
  exact ⟨y.data, rfl, h8 x hx y hy⟩
end Go.Ev.C
end
section
set_option linter.unusedVariables false
set_option linter.unusedSimpArgs false
set_option linter.defProp false
set_option linter.all false
namespace Go.Ev.C
open Go.Proofs Go.RowKit Go.Fmt
set_option maxRecDepth 100000
set_option linter.unusedSimpArgs false
theorem conv_src {H : AH} {v : AV} {s : List Nat} (hd : Ym H v (Xc s)) (hne : s ≠ []) (h8 : ∀ c ∈ s, c < 256) : convL Q 35 9 (some v) H = some (.str s) := by
  have h1 := hd.1
  have h2 := hd.2
  rw [Yx] at h1
  have hl : s.length ≠ 0 := fun e => hne (List.length_eq_zero_iff.1 e)
  generalize hn : s.length = n at h1 hl
  cases h1 with
  | nil => exact absurd rfl hl
  | sl b off n cap =>
    obtain ⟨c, hb, hc, hcut, _⟩ := h2 b off _ cap rfl (by unfold Xc; simpa using hne)
    rw [Yx, hn] at hcut
    have hz : Nat.beq n 0 = false := by
      rw [← Bool.not_eq_true, Nat.beq_eq]
      exact hl
    have hb : byteL (Xc s) = some s := byteL_map h8
    simp only [convL, Zs, und9, und5, hz, hc, hcut, hb, Option.map_some, Bool.false_eq_true, if_false]
theorem OutB.src {H0 H : AH} {v : AV} {s : List Nat} (h : OutB H0 H v s) (hl : s.length ≤ 100000000) (h8 : ∀ c ∈ s, c < 256) : Src H v s := by
  refine ⟨⟨by rw [Yx]; exact h.sl, fun b off m cap e hn => ?_⟩, fun b off n cap e => ?_, hl, h8⟩
  · rcases h with ⟨rfl, rfl⟩ | ⟨hne, b', cap', rfl, hcap, h1, h2, h3⟩
    · cases e
    · cases e
      exact ⟨Xc s, h2, get_cells h3, YI rfl (bsA_hole s), bsA_one s⟩
  · rcases h with ⟨rfl, rfl⟩ | ⟨hne, b', cap', rfl, hcap, h1, h2, h3⟩
    · cases e
    · cases e
      rcases hcap with rfl | rfl
      · exact .inr (.inl rfl)
      · exact .inl ⟨_, rfl, Nat.le_refl _⟩
theorem Src.first {H : AH} {v : AV} {s : List Nat} (h : Src H v s) {k : Nat} (hk : k < s.length) : ∃ x, Xx Q 35 v none (some (.int .i64 (k : Int))) none = some x ∧ Src H x (s.take k) := by
  have h1 := h.sl
  have h2 := h.data.2
  have hcap := h.cap
  have hne : s ≠ [] := by rintro rfl; simp at hk
  have hl : s.length ≠ 0 := by omega
  have htl : (s.take k).length = k := by simp; omega
  have key : ∀ (b off cap : _) (c : List AV),b < H.next → H.cellsAt b = some c → cut c off s.length = some (Xc s) → CapOk (.slice b (off + 0 * 1) k cap) → Src H (.slice b (off + 0 * 1) k cap) (s.take k) := fun b off cap c hb hc hcut hcp => by
    refine ⟨⟨by rw [Yx, htl]; exact .sl _ _ _ _, fun b' off' m cap' e _ => ?_⟩, hcp, by have := h.len; omega, fun c hc => h.byte c (List.mem_of_mem_take hc)⟩
    cases e
    refine ⟨c, hb, hc, ?_, bsA_one _⟩
    obtain ⟨_, hat⟩ := ZU.1 hcut
    refine ZU.2 ⟨rfl, fun j hj => ?_⟩
    rw [Yx, htl] at hj
    obtain ⟨v, a0, h0, b0⟩ := hat j (by omega)
    refine ⟨v, by rw [Nat.zero_mul, Nat.add_zero]; exact a0, h0, ?_⟩
    unfold Xc at b0 ⊢
    rw [List.getElem?_map] at b0 ⊢
    rw [List.getElem?_take, if_pos hj]
    exact b0
  generalize hn : s.length = n at h1 hl
  cases h1 with
  | nil => exact absurd rfl hl
  | sl b off n cap =>
    obtain ⟨c, hb, hc, hcut, _⟩ := h2 b off _ cap rfl (by unfold Xc; simpa using hne)
    rw [Yx] at hcut
    rcases hcap b off _ cap rfl with ⟨q, rfl, hq⟩ | rfl | ⟨_, hz⟩
    rotate_right
    · exact absurd hz hl
    · refine ⟨.slice b (off + 0 * 1) k (.is q), ?_, key b off _ c hb hc hcut (fun _ _ _ _ e => by cases e; exact .inl ⟨q, rfl, by omega⟩)⟩
      have hqz : Nat.beq q 0 = false := by
        rw [← Bool.not_eq_true, Nat.beq_eq]
        omega
      simp only [Xx, Zs, sz5, XI, Cap.sure]
      rw [Xy (m := k) (cap := q) (by omega)]
      have hb0 : Y8 none 0 k = some 0 := rfl
      simp only [hb0, hqz]
      rfl
    · refine ⟨.slice b (off + 0 * 1) k (.up 1), ?_, key b off _ c hb hc hcut (fun _ _ _ _ e => by cases e; exact .inr (.inl rfl))⟩
      simp only [Xx, Zs, sz5, XI, Cap.sure]
      rw [Xy (m := k) (cap := n) (by omega)]
      have hb0 : Y8 none 0 k = some 0 := rfl
      have hb1 : Nat.beq 1 1 = true := rfl
      have hb2 : Nat.beq 0 0 = true := rfl
      simp only [hb0, hb1, hb2]
      simp
theorem eqS_true (s : List Nat) : (s == s) = true := by simp
set_option maxHeartbeats 8000000 in
theorem saved_tail (H : AH) (bv : AV) (s : List Nat) (hs : Src H bv s) (t : Tri AV) (u1 : t.get 1 = some bv) (u7 : t.get 7 = some (.bool true)) :
    WF Q Laid (PF 6 86 t [.code (subC [1, 1, 1, 1] c6)]) H (Ret Q 6 fun v _ => v = .bool true) := by
  unfold c6 Tryz.f6
  simp only [Option.getD_some, subC]
  repeat (first|(apply Zo;exact rfl)|apply Zd|apply WO.nil|(apply Zw;exact rfl;simp only [rE,rS,li,lo,reduceIte,Nat.reduceEqDiff,Nat.reduceAdd,Nat.reduceMul,cu16,cu17,u1,u7];exact rfl;exact rfl))
  cases hd : dec' s with
  | none =>
    have q1 : decide ((262 : Int) = 0) = false := rfl
    have hln : builtinU Q .len [36] [.nilslice] = some (.int .i64 0) := by kernel_rfl
    have q2 : decide ((0 : Int) = 0) = true := rfl
    (apply WO.call;(focus (simp only [rQ,Zb,li,lo,reduceIte,Nat.reduceEqDiff,Nat.reduceAdd,beq_self_eq_true];done));simp only [rE,rS,li,lo,reduceIte,Nat.reduceEqDiff,Nat.reduceAdd,Nat.reduceMul,cu16,cu17,u1,u7];exact rfl;exact decode_n _ bv s hs hd;rintro _ H2 ⟨rfl,u2⟩;refine ⟨_,rfl,?_⟩)
    repeat (first|(apply Zo;exact rfl)|apply Zd|apply WO.nil|(apply WO.op;(focus (simp only [rQ,Zb,li,lo,reduceIte,Nat.reduceEqDiff,Nat.reduceAdd,beq_self_eq_true,q1];done));simp only [rE,rS,li,lo,reduceIte,Nat.reduceEqDiff,Nat.reduceAdd,Nat.reduceMul,cu16,cu17,u1,u7,q1];exact rfl;exact rfl)|(apply WO.unwanted;(focus (simp only [rQ,Zb,li,lo,reduceIte,Nat.reduceEqDiff,Nat.reduceAdd,beq_self_eq_true,q1];done));exact rfl))
    (first|(apply WF.condT;(focus (simp only [Zi,Zf,Ze,Zk,Bool.not_true,Bool.not_false,reduceIte,Nat.reduceEqDiff,q1];done)))|(apply WF.condF;(focus (simp only [Zi,Zf,Ze,Zk,Bool.not_true,Bool.not_false,reduceIte,Nat.reduceEqDiff,q1];done))))
    repeat (first|(apply Zo;exact rfl)|apply Zd|apply WO.nil|(apply WO.op;(focus (simp only [rQ,Zb,li,lo,reduceIte,Nat.reduceEqDiff,Nat.reduceAdd,beq_self_eq_true,q2];done));simp only [rE,rS,li,lo,reduceIte,Nat.reduceEqDiff,Nat.reduceAdd,Nat.reduceMul,cu16,cu17,u1,u7,hln,q2];exact rfl;exact rfl)|(apply WO.unwanted;(focus (simp only [rQ,Zb,li,lo,reduceIte,Nat.reduceEqDiff,Nat.reduceAdd,beq_self_eq_true,q2];done));exact rfl))
    (apply WF.ret; (focus (simp only [Zl, Ze, Zk, Z3, reduceIte, Nat.reduceEqDiff, rs6]; exact rfl)))
    rfl
  | some m =>
    obtain ⟨hse, hok⟩ := enc_dec hs.byte hd
    have q1 : decide ((0 : Int) = 0) = true := rfl
    (apply WO.call;(focus (simp only [rQ,Zb,li,lo,reduceIte,Nat.reduceEqDiff,Nat.reduceAdd,beq_self_eq_true];done));simp only [rE,rS,li,lo,reduceIte,Nat.reduceEqDiff,Nat.reduceAdd,Nat.reduceMul,cu16,cu17,u1,u7];exact rfl;exact decode_c _ bv s hs hd;rintro _ H2 ⟨v,rfl,hb,u2⟩;refine ⟨_,rfl,?_⟩)
    have hvo := hb.1.one
    have hvs := hb.1.solid
    repeat (first|(apply Zo;exact rfl)|apply Zd|apply WO.nil|(apply WO.op;(focus (simp only [rQ,Zb,li,lo,reduceIte,Nat.reduceEqDiff,Nat.reduceAdd,beq_self_eq_true,q1];done));simp only [rE,rS,li,lo,reduceIte,Nat.reduceEqDiff,Nat.reduceAdd,Nat.reduceMul,cu16,cu17,u1,u7,q1];exact rfl;exact rfl)|(apply WO.unwanted;(focus (simp only [rQ,Zb,li,lo,reduceIte,Nat.reduceEqDiff,Nat.reduceAdd,beq_self_eq_true,q1];done));exact rfl))
    (first|(apply WF.condT;(focus (simp only [Zi,Zf,Ze,Zk,Bool.not_true,Bool.not_false,reduceIte,Nat.reduceEqDiff,q1];done)))|(apply WF.condF;(focus (simp only [Zi,Zf,Ze,Zk,Bool.not_true,Bool.not_false,reduceIte,Nat.reduceEqDiff,q1];done))))
    repeat (first|(apply Zo;exact rfl)|apply Zd|apply WO.nil|(apply WO.op;(focus (simp only [rQ,Zb,li,lo,reduceIte,Nat.reduceEqDiff,Nat.reduceAdd,beq_self_eq_true,q1];done));simp only [rE,rS,li,lo,reduceIte,Nat.reduceEqDiff,Nat.reduceAdd,Nat.reduceMul,cu16,cu17,u1,u7,q1];exact rfl;exact rfl)|(apply WO.unwanted;(focus (simp only [rQ,Zb,li,lo,reduceIte,Nat.reduceEqDiff,Nat.reduceAdd,beq_self_eq_true,q1];done));exact rfl))
    (apply WO.call;(focus (simp only [rQ,Zb,li,lo,reduceIte,Nat.reduceEqDiff,Nat.reduceAdd,beq_self_eq_true];done));simp only [rE,rS,li,lo,reduceIte,Nat.reduceEqDiff,Nat.reduceAdd,Nat.reduceMul,cu16,cu17,u1,u7];exact rfl;exact encode_c _ v m hb hok;rintro _ H3 ⟨w,rfl,ho,u3⟩;refine ⟨_,rfl,?_⟩)
    have hne : s ≠ [] := by
      rw [hse]
      unfold Xn
      simp
    rw [← hse] at ho
    have hsw := ho.src hs.len hs.byte
    have c1 := conv_src hsw.data hne hs.byte
    have c2 := conv_src ((hs.up (u2.trans u3)).data) hne hs.byte
    have hwo := ho.sl.one
    have hws := ho.sl.solid
    repeat (first|(apply Zo;exact rfl)|apply Zd|apply WO.nil|(apply WO.op;(focus (simp only [rQ,Zb,li,lo,reduceIte,Nat.reduceEqDiff,Nat.reduceAdd,beq_self_eq_true,q1];done));simp only [rE,rS,li,lo,reduceIte,Nat.reduceEqDiff,Nat.reduceAdd,Nat.reduceMul,cu16,cu17,u1,u7,q1,Zs,und9,c1,c2,bin_eqlStr,gOk_eqlStr,eqS_true];exact rfl;exact rfl)|(apply WO.unwanted;(focus (simp only [rQ,Zb,li,lo,reduceIte,Nat.reduceEqDiff,Nat.reduceAdd,beq_self_eq_true,q1];done));exact rfl))
    (apply WF.ret; (focus (simp only [Zl, Ze, Zk, Z3, reduceIte, Nat.reduceEqDiff, rs6]; exact rfl)))
    rfl
set_option maxHeartbeats 8000000 in
theorem saved_w (H : AH) (lv bv : AV) (z : Int) (l : List XH) (s : List Nat) (hl : YN H lv l) (hlen : l.length < 9223372036854775808) (h8 : ∀ d ∈ l,∀ r ∈ d.recs,U8 r.r) (hs : Src H bv s) (hz : -9223372036854775808 ≤ z ∧ z ≤ 9223372036854775807) :
    WF Q Laid (PF 6 86 (Zk 0 [lv, bv, .int .i64 z] .leaf) [.code c6]) H (Ret Q 6 fun v _ => v = .bool true) := by
  have htail : ∀ (H' : AH) (t : Tri AV),Up H H' → t.get 1 = some bv → t.get 7 = some (.bool true) → WF Q Laid (PF 6 86 t [.code (subC [1,1,1,1] c6)]) H' (Ret Q 6 fun v _ => v = .bool true) := fun H' t u e1 e2 => saved_tail H' bv s (hs.up u) t e1 e2
  unfold c6 Tryz.f6 at htail ⊢
  simp only [Option.getD_some, subC] at htail ⊢
  repeat (first|(apply Zo;exact rfl)|apply Zd|apply WO.nil|(apply Zw;exact rfl;simp only [rE,rS,li,lo,reduceIte,Nat.reduceEqDiff,Nat.reduceAdd,Nat.reduceMul,cu10];exact rfl;exact rfl))
  (apply WO.call;(focus (simp only [rQ,Zb,li,lo,reduceIte,Nat.reduceEqDiff,Nat.reduceAdd,beq_self_eq_true];done));simp only [rE,rS,li,lo,reduceIte,Nat.reduceEqDiff,Nat.reduceAdd,Nat.reduceMul,cu10];exact rfl;exact sane_c _;rintro _ H ⟨rfl,rfl⟩;refine ⟨_,rfl,?_⟩)
  repeat (first|(apply Zo;exact rfl)|apply Zd|apply WO.nil|(apply Zw;exact rfl;simp only [rE,rS,li,lo,reduceIte,Nat.reduceEqDiff,Nat.reduceAdd,Nat.reduceMul,cu17];exact rfl;exact rfl))
  by_cases hgood : (l.any fun d => !d.ok) = false ∧ l.length ≤ 200
  rotate_left
  · have hbad : (l.any fun d => !d.ok) = true ∨ 200 < l.length := by
      by_cases h200 : 200 < l.length
      · exact .inr h200
      · cases hh : l.any fun d => !d.ok
        · exact absurd ⟨hh, by omega⟩ hgood
        · exact .inl rfl
    (apply WO.call;(focus (simp only [rQ,Zb,li,lo,reduceIte,Nat.reduceEqDiff,Nat.reduceAdd,beq_self_eq_true];done));simp only [rE,rS,li,lo,reduceIte,Nat.reduceEqDiff,Nat.reduceAdd,Nat.reduceMul,cu17];exact rfl;exact encode_n _ lv l hl hlen hbad;rintro _ H ⟨rfl,e,he,rfl⟩;refine ⟨_,rfl,?_⟩)
    have q1 : decide (e = 0) = false := decide_eq_false he
    iterate 6 (first|(apply Zo;exact rfl)|apply Zd|apply WO.nil|(apply WO.op;(focus (simp only [rQ,Zb,li,lo,reduceIte,Nat.reduceEqDiff,Nat.reduceAdd,beq_self_eq_true,q1];done));simp only [rE,rS,li,lo,reduceIte,Nat.reduceEqDiff,Nat.reduceAdd,Nat.reduceMul,q1];exact rfl;exact rfl)|(apply WO.unwanted;(focus (simp only [rQ,Zb,li,lo,reduceIte,Nat.reduceEqDiff,Nat.reduceAdd,beq_self_eq_true,q1];done));exact rfl))
    refine Zo rfl ?_
    refine Zo rfl ?_
    repeat (first|(apply Zo;exact rfl)|apply Zd|apply WO.nil|(apply WO.op;(focus (simp only [rQ,Zb,li,lo,reduceIte,Nat.reduceEqDiff,Nat.reduceAdd,beq_self_eq_true,q1];done));simp only [rE,rS,li,lo,reduceIte,Nat.reduceEqDiff,Nat.reduceAdd,Nat.reduceMul,q1];exact rfl;exact rfl)|(apply WO.unwanted;(focus (simp only [rQ,Zb,li,lo,reduceIte,Nat.reduceEqDiff,Nat.reduceAdd,beq_self_eq_true,q1];done));exact rfl))
    (first|(apply WF.condT;(focus (simp only [Zi,Zf,Ze,Zk,Bool.not_true,Bool.not_false,reduceIte,Nat.reduceEqDiff,q1];done)))|(apply WF.condF;(focus (simp only [Zi,Zf,Ze,Zk,Bool.not_true,Bool.not_false,reduceIte,Nat.reduceEqDiff,q1];done))))
    refine Zo rfl ?_
    exact htail _ _ (Up.refl _) (by simp [Ze, Zk]) (by simp [Ze])
  obtain ⟨ps, rfl, hok, hb8⟩ := bats_of hgood.1 hgood.2 h8
  have heb := enc_byte hok hb8
  have hel := enc_len hok
  (apply WO.call;(focus (simp only [rQ,Zb,li,lo,reduceIte,Nat.reduceEqDiff,Nat.reduceAdd,beq_self_eq_true];done));simp only [rE,rS,li,lo,reduceIte,Nat.reduceEqDiff,Nat.reduceAdd,Nat.reduceMul,cu17];exact rfl;exact encode_c _ lv ps hl hok;rintro _ H1 ⟨cv,rfl,ho,hu1⟩;refine ⟨_,rfl,?_⟩)
  have q1 : decide ((0 : Int) = 0) = true := rfl
  have hcs := ho.src (by omega) heb
  have hvo := hcs.sl.one
  have hvs := hcs.sl.solid
  iterate 6 (first|(apply Zo;exact rfl)|apply Zd|apply WO.nil|(apply Zw;exact rfl;simp only [rE,rS,li,lo,reduceIte,Nat.reduceEqDiff,Nat.reduceAdd,Nat.reduceMul,hvo,hvs];exact rfl;exact rfl))
  refine Zo rfl ?_
  refine Zo rfl ?_
  repeat (first|(apply Zo;exact rfl)|apply Zd|apply WO.nil|(apply WO.op;(focus (simp only [rQ,Zb,li,lo,reduceIte,Nat.reduceEqDiff,Nat.reduceAdd,beq_self_eq_true,q1];done));simp only [rE,rS,li,lo,reduceIte,Nat.reduceEqDiff,Nat.reduceAdd,Nat.reduceMul,q1];exact rfl;exact rfl)|(apply WO.unwanted;(focus (simp only [rQ,Zb,li,lo,reduceIte,Nat.reduceEqDiff,Nat.reduceAdd,beq_self_eq_true,q1];done));exact rfl))
  (first|(apply WF.condT;(focus (simp only [Zi,Zf,Ze,Zk,Bool.not_true,Bool.not_false,reduceIte,Nat.reduceEqDiff,q1];done)))|(apply WF.condF;(focus (simp only [Zi,Zf,Ze,Zk,Bool.not_true,Bool.not_false,reduceIte,Nat.reduceEqDiff,q1];done))))
  repeat (first|(apply Zo;exact rfl)|apply Zd|apply WO.nil|(apply Zw;exact rfl;simp only [rE,rS,li,lo,reduceIte,Nat.reduceEqDiff,Nat.reduceAdd,Nat.reduceMul,cu16];exact rfl;exact rfl))
  (apply WO.call;(focus (simp only [rQ,Zb,li,lo,reduceIte,Nat.reduceEqDiff,Nat.reduceAdd,beq_self_eq_true];done));simp only [rE,rS,li,lo,reduceIte,Nat.reduceEqDiff,Nat.reduceAdd,Nat.reduceMul,cu16];exact rfl;exact decode_c H1 cv (Xn ps) hcs (dec_enc hok);rintro _ H2 ⟨mv,rfl,hmb,hu2⟩;refine ⟨_,rfl,?_⟩)
  have hU2 := hu1.trans hu2
  have q0 : (!true) = false := rfl
  repeat (first|(apply Zo;exact rfl)|apply Zd|apply WO.nil|(apply WO.op;(focus (simp only [rQ,Zb,li,lo,reduceIte,Nat.reduceEqDiff,Nat.reduceAdd,beq_self_eq_true,q1];done));simp only [rE,rS,li,lo,reduceIte,Nat.reduceEqDiff,Nat.reduceAdd,Nat.reduceMul,q1,cu24];exact rfl;exact rfl)|(apply WO.unwanted;(focus (simp only [rQ,Zb,li,lo,reduceIte,Nat.reduceEqDiff,Nat.reduceAdd,beq_self_eq_true,q1];done));exact rfl))
  (apply WO.call;(focus (simp only [rQ,Zb,li,lo,reduceIte,Nat.reduceEqDiff,Nat.reduceAdd,beq_self_eq_true,q1];done));simp only [rE,rS,li,lo,reduceIte,Nat.reduceEqDiff,Nat.reduceAdd,Nat.reduceMul,q1,cu24];exact rfl;exact sameBs_c H2 mv lv (ps.map ofB) hmb (hl.up hU2) (u8_of hb8) hlen;rintro _ H2 ⟨rfl,rfl⟩;refine ⟨_,rfl,?_⟩)
  repeat (first|(apply Zo;exact rfl)|apply Zd|apply WO.nil|(apply WO.op;(focus (simp only [rQ,Zb,li,lo,reduceIte,Nat.reduceEqDiff,Nat.reduceAdd,beq_self_eq_true,q1];done));simp only [rE,rS,li,lo,reduceIte,Nat.reduceEqDiff,Nat.reduceAdd,Nat.reduceMul,q1];exact rfl;exact rfl)|(apply WO.unwanted;(focus (simp only [rQ,Zb,li,lo,reduceIte,Nat.reduceEqDiff,Nat.reduceAdd,beq_self_eq_true,q1];done));exact rfl))
  (first|(apply WF.condT;(focus (simp only [Zi,Zf,Ze,Zk,Bool.not_true,Bool.not_false,reduceIte,Nat.reduceEqDiff];done)))|(apply WF.condF;(focus (simp only [Zi,Zf,Ze,Zk,Bool.not_true,Bool.not_false,reduceIte,Nat.reduceEqDiff];done))))
  by_cases hz0 : 0 ≤ z
  rotate_left
  · have q3 : decide ((0 : Int) ≤ z) = false := decide_eq_false hz0
    repeat (first|(apply Zo;exact rfl)|apply Zd|apply WO.nil|(apply WO.op;(focus (simp only [rQ,Zb,li,lo,reduceIte,Nat.reduceEqDiff,Nat.reduceAdd,beq_self_eq_true,q3];done));simp only [rE,rS,li,lo,reduceIte,Nat.reduceEqDiff,Nat.reduceAdd,Nat.reduceMul,q3];exact rfl;exact rfl)|(apply WO.unwanted;(focus (simp only [rQ,Zb,li,lo,reduceIte,Nat.reduceEqDiff,Nat.reduceAdd,beq_self_eq_true,q3];done));exact rfl))
    (first|(apply WF.condT;(focus (simp only [Zi,Zf,Ze,Zk,Bool.not_true,Bool.not_false,reduceIte,Nat.reduceEqDiff,q3];done)))|(apply WF.condF;(focus (simp only [Zi,Zf,Ze,Zk,Bool.not_true,Bool.not_false,reduceIte,Nat.reduceEqDiff,q3];done))))
    refine Zo rfl ?_
    exact htail _ _ hU2 (by simp [Ze, Zk]) (by simp [Ze])
  obtain ⟨k, rfl⟩ : ∃ k : Nat, z = (k : Int) := ⟨z.toNat, by omega⟩
  have q3 : decide ((0 : Int) ≤ (k : Int)) = true := decide_eq_true hz0
  have hsl := ho.sl
  by_cases hk : k < (Xn ps).length
  rotate_left
  · have q4 : decide ((k : Int) < ((Xn ps).length : Int)) = false := decide_eq_false (by omega)
    repeat (first|(apply Zo;exact rfl)|apply Zd|apply WO.nil|(apply WO.op;(focus (simp only [rQ,Zb,li,lo,reduceIte,Nat.reduceEqDiff,Nat.reduceAdd,beq_self_eq_true,q3,q4];done));simp only [rE,rS,li,lo,reduceIte,Nat.reduceEqDiff,Nat.reduceAdd,Nat.reduceMul,q3,q4,Zs,Zh Zs hsl];exact rfl;exact rfl)|(apply WO.unwanted;(focus (simp only [rQ,Zb,li,lo,reduceIte,Nat.reduceEqDiff,Nat.reduceAdd,beq_self_eq_true,q3,q4];done));exact rfl))
    (first|(apply WF.condT;(focus (simp only [Zi,Zf,Ze,Zk,Bool.not_true,Bool.not_false,reduceIte,Nat.reduceEqDiff,q4];done)))|(apply WF.condF;(focus (simp only [Zi,Zf,Ze,Zk,Bool.not_true,Bool.not_false,reduceIte,Nat.reduceEqDiff,q4];done))))
    refine Zo rfl ?_
    exact htail _ _ hU2 (by simp [Ze, Zk]) (by simp [Ze])
  have q4 : decide ((k : Int) < ((Xn ps).length : Int)) = true := decide_eq_true (by omega)
  obtain ⟨x, hx, hxs⟩ := (hcs.up hu2).first hk
  have q5 : decide ((262 : Int) = 0) = false := rfl
  repeat (first|(apply Zo;exact rfl)|apply Zd|apply WO.nil|(apply WO.op;(focus (simp only [rQ,Zb,li,lo,reduceIte,Nat.reduceEqDiff,Nat.reduceAdd,beq_self_eq_true,q3,q4];done));simp only [rE,rS,li,lo,reduceIte,Nat.reduceEqDiff,Nat.reduceAdd,Nat.reduceMul,q3,q4,Zs,Zh Zs hsl];exact rfl;exact rfl)|(apply WO.unwanted;(focus (simp only [rQ,Zb,li,lo,reduceIte,Nat.reduceEqDiff,Nat.reduceAdd,beq_self_eq_true,q3,q4];done));exact rfl))
  (first|(apply WF.condT;(focus (simp only [Zi,Zf,Ze,Zk,Bool.not_true,Bool.not_false,reduceIte,Nat.reduceEqDiff,q4];done)))|(apply WF.condF;(focus (simp only [Zi,Zf,Ze,Zk,Bool.not_true,Bool.not_false,reduceIte,Nat.reduceEqDiff,q4];done))))
  repeat (first|(apply Zo;exact rfl)|apply Zd|apply WO.nil|(apply Zw;exact rfl;simp only [rE,rS,li,lo,reduceIte,Nat.reduceEqDiff,Nat.reduceAdd,Nat.reduceMul,hx,cu16];exact rfl;exact rfl))
  (apply WO.call;(focus (simp only [rQ,Zb,li,lo,reduceIte,Nat.reduceEqDiff,Nat.reduceAdd,beq_self_eq_true];done));simp only [rE,rS,li,lo,reduceIte,Nat.reduceEqDiff,Nat.reduceAdd,Nat.reduceMul,hx,cu16];exact rfl;exact decode_n H2 x _ hxs (dec_cut hok heb hk);rintro _ H3 ⟨rfl,hu3⟩;refine ⟨_,rfl,?_⟩)
  repeat (first|(apply Zo;exact rfl)|apply Zd|apply WO.nil|(apply WO.op;(focus (simp only [rQ,Zb,li,lo,reduceIte,Nat.reduceEqDiff,Nat.reduceAdd,beq_self_eq_true,q5];done));simp only [rE,rS,li,lo,reduceIte,Nat.reduceEqDiff,Nat.reduceAdd,Nat.reduceMul,q5];exact rfl;exact rfl)|(apply WO.unwanted;(focus (simp only [rQ,Zb,li,lo,reduceIte,Nat.reduceEqDiff,Nat.reduceAdd,beq_self_eq_true,q5];done));exact rfl))
  (first|(apply WF.condT;(focus (simp only [Zi,Zf,Ze,Zk,Bool.not_true,Bool.not_false,reduceIte,Nat.reduceEqDiff,q5];done)))|(apply WF.condF;(focus (simp only [Zi,Zf,Ze,Zk,Bool.not_true,Bool.not_false,reduceIte,Nat.reduceEqDiff,q5];done))))
  refine Zo rfl ?_
  exact htail _ _ (hU2.trans hu3) (by simp [Ze, Zk]) (by simp [Ze])
end Go.Ev.C
end
section
set_option linter.unusedVariables false
set_option linter.unusedSimpArgs false
set_option linter.defProp false
set_option linter.all false
namespace Go.Ev.C
open Go.Proofs Go.RowKit Go.ChangeShapes Go.WideShapes Go.Deep
set_option maxRecDepth 100000
section
variable {H : Type} {Xn : TypeId × Value → H} {W : World} {base : Nat} {spare : Nat → Bool} {held : Bool} {fuel : Nat}
theorem read_bats {v : Value} {x : DataW H × List MemPlace} (h : DataW.trod Xn Q W base spare held fuel 36 [v] = some x) : ∃ l : List XH,YN (ahOf W) (Z5 W v) l ∧ (∀ d ∈ l,∀ r ∈ d.recs,U8 r.r) ∧ ((x.1 = .nil ∧ l = []) ∨ ∃ el sp,x.1 = .slice el sp ∧ l.length = el.length) := by
  rcases read_fields Tryz.underlying36 Tryz.underlying80 (by kernel_rfl) (by kernel_rfl) h with ⟨rfl, hx⟩ | ⟨a, len, cap, el, sp, rfl, hl, hm, hx, hel, hi⟩
  · exact ⟨[], ⟨.nil, fun _ _ _ _ _ h => absurd rfl h⟩, by simp, .inl ⟨hx, rfl⟩⟩
  · by_cases h0 : len = 0
    · subst h0
      exact ⟨[], ⟨avOf_slice0 _ _ _, fun _ _ _ _ _ h => absurd rfl h⟩, by simp, .inr ⟨el, sp, hx, by simp [hel]⟩⟩
    obtain ⟨c,off,arr,e,f,rfl,hc,hcell⟩ := block_of (n := len * 4) (R := fun t w => (t % 4 = 0 → ∃ z,w = .int .i64 z) ∧ (t % 4 = 1 → ∃ l : List Z6,l.length < 9223372036854775808 ∧ (∀ d ∈ l,U8 d.r) ∧ Yh (ahOf W) (Z5 W w) l) ∧ (t % 4 = 2 → ∃ z,w = .int .i64 z) ∧ (t % 4 = 3 → ∃ z,w = .bool z)) (by omega) (a := a) fun t ht => by
      have hmod : t % 4 < 4 := Nat.mod_lt _ (by omega)
      have hdm : t / 4 * 4 + t % 4 = t := by omega
      have key := hi (t / 4) (by omega)
      rcases (show t % 4 = 0 ∨ t % 4 = 1 ∨ t % 4 = 2 ∨ t % 4 = 3 from by omega) with hj | hj | hj | hj
      · obtain ⟨u, n, y, hu, hy⟩ := key 0 _ rfl
        obtain ⟨z, hz, _, _⟩ := DataW.trod_int Tryz.underlying3 hy
        cases hz
        refine ⟨_, ?_, fun _ => ⟨z, rfl⟩, fun h => by omega, fun h => by omega, fun h => by omega⟩
        rw [← hdm, hj]; exact hu
      · obtain ⟨u, n, y, hu, hy⟩ := key 1 _ rfl
        obtain ⟨k, hk, h8, hd⟩ := read_recs hy
        refine ⟨u, ?_, fun h => by omega, fun _ => ⟨k, hk, h8, hd⟩, fun h => by omega, fun h => by omega⟩
        rw [← hdm, hj]; exact hu
      · obtain ⟨u, n, y, hu, hy⟩ := key 2 _ rfl
        obtain ⟨z, hz, _, _⟩ := DataW.trod_int Tryz.underlying3 hy
        cases hz
        refine ⟨_, ?_, fun h => by omega, fun h => by omega, fun _ => ⟨z, rfl⟩, fun h => by omega⟩
        rw [← hdm, hj]; exact hu
      · obtain ⟨u, n, y, hu, hy⟩ := key 3 _ rfl
        obtain ⟨z, hz, _⟩ := DataW.trod_bool Tryz.underlying4 hy
        cases hz
        refine ⟨_, ?_, fun h => by omega, fun h => by omega, fun h => by omega, fun _ => ⟨z, rfl⟩⟩
        rw [← hdm, hj]; exact hu
    obtain ⟨l,hll,hlp⟩ := list_of (P := fun i (d : XH) => (∀ r ∈ d.recs,U8 r.r) ∧ ∃ rv,Yh (ahOf W) rv d.recs ∧ d.recs.length < 9223372036854775808 ∧ cut (arr.toList.map (Z5 W)) (off + i * 4) 4 = some [.int .i64 d.cpu,rv,.int .i64 d.dr,.bool d.ah]) len fun i hilt => by
      obtain ⟨v0, h0, r0, _⟩ := hcell (i * 4) (by omega)
      obtain ⟨v1, h1, _, r1, _⟩ := hcell (i * 4 + 1) (by omega)
      obtain ⟨v2, h2, _, _, r2, _⟩ := hcell (i * 4 + 2) (by omega)
      obtain ⟨v3, h3, _, _, _, r3⟩ := hcell (i * 4 + 3) (by omega)
      obtain ⟨z0, rfl⟩ := r0 (by omega)
      obtain ⟨rl, hrl, h8, hd⟩ := r1 (by omega)
      obtain ⟨z2, rfl⟩ := r2 (by omega)
      obtain ⟨z3, rfl⟩ := r3 (by omega)
      rw [← Nat.add_assoc] at h1 h2 h3
      exact ⟨⟨z0, rl, z2, z3⟩, h8, Z5 W v1, hd, hrl, cut_four_at (av_at h0) (av_at h1) (av_at h2) (av_at h3) rfl hd.1.solid rfl rfl⟩
    rw [avOf_sliceS hc hl]
    refine ⟨l, ⟨by rw [hll]; exact .sl _ _ _ _, fun b off' m' cap' e _ => ?_⟩, fun d hd => ?_, .inr ⟨el, sp, hx, by omega⟩⟩
    · cases e
      exact ⟨_, ahOf_lt hc, ahOf_cellsAt hc, fun i d hi => (hlp i d hi).2⟩
    · obtain ⟨j, hj⟩ := List.mem_iff_getElem?.1 hd
      exact (hlp j d hj).1
theorem capOk_slice (W : World) (a : Addr) (len cap : Nat) (hh : ∀ b off n c, Z5 W (.slice (some a) len cap) = .slice b off n c → True) : CapOk (Z5 W (.slice (some a) len cap)) := by
  obtain ⟨c, off, spot⟩ := a
  intro b o n k e
  cases spot with
  | none =>
    simp only [Z5] at e
    split at e
    · rename_i hc
      cases e
      exact .inl ⟨_, rfl, hc.2⟩
    · split at e
      · cases e
        exact .inr (.inr ⟨rfl, rfl⟩)
      · cases e
  | some x =>
    cases len with
    | zero =>
      simp only [Z5] at e
      cases e
      exact .inr (.inr ⟨rfl, rfl⟩)
    | succ m =>
      simp only [Z5] at e
      cases e
theorem read_src {v : Value} {x : DataW H × List MemPlace} (h : DataW.trod Xn Q W base spare held fuel 35 [v] = some x) : ∃ s : List Nat,(∀ c ∈ s,c < 256) ∧ Ym (ahOf W) (Z5 W v) (Xc s) ∧ CapOk (Z5 W v) ∧ ((x.1 = .nil ∧ s = []) ∨ ∃ el sp,x.1 = .slice el sp ∧ s.length = el.length) := by
  obtain ⟨r, ⟨bs, hr, h8⟩, hd⟩ := read_data h
  refine ⟨bs, h8, by unfold Xc; rw [← hr]; exact hd, ?_⟩
  have hl : r.length = bs.length := by rw [hr]; simp
  rcases open_slice Tryz.underlying35 h with ⟨hv, hx⟩ | ⟨a, len, cap, m, k, D, Pl, hv, _, hle, hm, hmm, hx, hi⟩
  · cases hv
    refine ⟨fun b off n c e => (by cases e), .inl ⟨by rw [hx], ?_⟩⟩
    have := hd.1
    rw [hl] at this
    generalize hn : bs.length = n at this
    cases this
    exact List.length_eq_zero_iff.1 hn
  · cases hv
    refine ⟨capOk_slice W a len cap fun _ _ _ _ _ => trivial, .inr ⟨_, _, by rw [hx], ?_⟩⟩
    have hs := hd.1
    rw [hl] at hs
    rw [List.length_map, List.length_range]
    by_cases h0 : len = 0
    · subst h0
      have h2 := avOf_slice0 W a cap
      generalize Z5 W (.slice (some a) 0 cap) = u at hs h2
      generalize hn : bs.length = n at hs
      generalize hz : (0 : Nat) = z at h2
      cases h2 with
      | nil => cases hs; rfl
      | sl b off n' c => cases hs; first | rfl | exact hz.symm
    · have hlm : len ≤ m := by rw [hmm]; split <;> omega
      have hC : Q.cellsOf 5 = 1 := by kernel_rfl
      obtain ⟨c, off, arr, e, f, rfl, hc, _⟩ := block_of (R := fun _ _ => True) (Nat.pos_of_ne_zero h0) (a := a) fun i hilt => by
        obtain ⟨cs, hcs, _⟩ := hi i (by omega)
        rw [hC, Nat.mul_one] at hcs
        obtain ⟨_, hcl, hat⟩ := World.cells?_some hcs
        have := hat 0 (by omega)
        have hlt : 0 < cs.length := by omega
        exact ⟨cs[0], by rw [← List.getElem?_eq_getElem]; exact this, trivial⟩
      rw [avOf_sliceS hc hle] at hs
      generalize hn : bs.length = n at hs
      cases hs
      rfl
end
end Go.Ev.C
end
