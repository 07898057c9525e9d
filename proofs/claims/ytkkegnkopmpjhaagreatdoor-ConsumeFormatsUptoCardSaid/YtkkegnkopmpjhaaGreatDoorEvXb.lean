/- Contracts: symbols, names, stacks; the law, walked whole. -/
import Derived.Test.YtkkegnkopmpjhaaGreatDoorEvXa
import Derived.Test.YtkkegnkopmpjhaaGreatDoorEvL
import Derived.Test.YtkkegnkopmpjhaaGreatDoorEvO
section
set_option linter.unusedVariables false
set_option linter.unusedSimpArgs false
set_option linter.defProp false
set_option linter.all false
namespace Go.Ev.C
open Go.Proofs Go.Fmt Go.RowKit
set_option maxRecDepth 100000
set_option linter.unusedSimpArgs false
variable {L : World → Prop} [YQ Q L]
/-- A symbol. -/
structure Xn where
  name : List Nat
  pos : Int
  size : Int
def symL (z : Xn) : List AV := [.str z.name, .int .i64 z.pos, .int .i64 z.size]
/-- What is asked of a symbol. -/
structure SymOk (z : Xn) : Prop where
  plo : -9223372036854775808 ≤ z.pos
  phi : z.pos ≤ 9223372036854775807
  slo : -9223372036854775808 ≤ z.size
  shi : z.size ≤ 9223372036854775807
  byte : ∀ c ∈ z.name, c < 256
  len : z.name.length ≤ 2000000
/-- Symbols in memory. -/
def Xr (H : AH) (v : AV) (l : List Xn) : Prop := SL v l.length ∧ ∀ b off n cap,v = .slice b off n cap → l ≠ [] → ∃ c,b < H.next ∧ H.cellsAt b = some c ∧ ∀ (i : Nat) (z : Xn),l[i]? = some z → cut c (off + i * 3) 3 = some (symL z)
theorem Xr.up {H H' : AH} (u : Up H H') {v : AV} {l : List Xn} (h : Xr H v l) : Xr H' v l :=
  ⟨h.1, fun b off n cap e hn => by
    obtain ⟨c, hb, hc, hr⟩ := h.2 b off n cap e hn
    exact ⟨c, Nat.lt_of_lt_of_le hb u.next, by rw [u.cellsAt hb]; exact hc, hr⟩⟩
theorem Xr.at {H : AH} {v : AV} {l : List Xn} (h : Xr H v l) {i : Nat} {z : Xn} (hz : l[i]? = some z) : ∃ b off cap c,v = .slice b off l.length cap ∧ b < H.next ∧ H.cellsAt b = some c ∧ cut c (off + i * 3) 3 = some (symL z) ∧ c[off + i * 3]? = some (.str z.name) ∧ c[off + i * 3 + 1]? = some (.int .i64 z.pos) := by
  obtain ⟨h1, h2⟩ := h
  have hi := (List.getElem?_eq_some_iff.1 hz).1
  generalize hn : l.length = n at h1
  cases h1 with
  | nil => omega
  | sl b off n cap =>
    obtain ⟨c, hb, hc, hr⟩ := h2 b off _ cap rfl (by intro e; subst e; simp at hi)
    have hcut := hr i z hz
    obtain ⟨_, hat⟩ := cut_iff.1 hcut
    obtain ⟨v0, a0, _, b0⟩ := hat 0 (by omega)
    obtain ⟨v1, a1, _, b1⟩ := hat 1 (by omega)
    cases b0
    cases b1
    exact ⟨b, off, cap, c, rfl, hb, hc, hcut, a0, a1⟩
def covB (a : Int) (z : Xn) : Bool := decide (z.pos ≤ a) && decide (a - z.pos < z.size)
theorem wu64 (x : Int) : IntKind.u64.wrap x = x % 18446744073709551616 := by
  simp only [IntKind.wrap, IntKind.bits, IntKind.signed, Bool.false_and]
  rfl
theorem sub_u64 {x y : Int} (h : y ≤ x) (h' : x - y < 18446744073709551616) : IntKind.u64.wrap (IntKind.u64.wrap x - IntKind.u64.wrap y) = x - y := by
  rw [wu64, wu64, wu64, ← Int.sub_emod]
  omega
theorem wsz {x : Int} (h : 0 ≤ x) (h' : x ≤ 9223372036854775807) : IntKind.u64.wrap x = x := by
  rw [wu64]
  omega
set_option maxHeartbeats 2000000 in
theorem covers_c (H : AH) (z : Xn) (a : Int) (hz : SymOk z) (h0 : -9223372036854775808 ≤ a) (h1 : a ≤ 9223372036854775807) : Fn Q L 168 [.agg (symL z),.int .i64 a] H (fun w H' => w = .bool (covB a z) ∧ H' = H) := by
  refine Y2 (en168 _ _) rfl ?_
  generalize lock H = H
  obtain ⟨nm, pos, size⟩ := z
  obtain ⟨g0, g1, g2, g3, _, _⟩ := hz
  dsimp only at g0 g1 g2 g3
  unfold covB
  dsimp only
  unfold c168 Tryz.f168 symL
  simp only [Option.getD_some]
  cases q1 : decide (pos ≤ a)
  · repeat (first|(apply Zh;exact rfl)|apply Zb|apply WO.nil|(apply WO.op;(focus (simp only [rQ,Zc,li,lo,reduceIte,Nat.reduceEqDiff,Nat.reduceAdd,beq_self_eq_true,q1];done));simp only [rE,rS,li,lo,reduceIte,Nat.reduceEqDiff,Nat.reduceAdd,Nat.reduceMul,Yp,fa104_2,Za Zt,ZN,Yx,ZY,q1];exact rfl;exact rfl)|(apply WO.unwanted;(focus (simp only [rQ,Zc,li,lo,reduceIte,Nat.reduceEqDiff,Nat.reduceAdd,beq_self_eq_true,q1];done));exact rfl))
    (apply WF.ret; (focus (simp only [Zj, Zd, Zm, Zv, reduceIte, Nat.reduceEqDiff, rs168]; exact rfl)))
    rfl
  have hp := of_decide_eq_true q1
  have ws := sub_u64 hp (by omega)
  cases q2 : decide (0 < size)
  · have hs := of_decide_eq_false q2
    repeat (first|(apply Zh;exact rfl)|apply Zb|apply WO.nil|(apply WO.op;(focus (simp only [rQ,Zc,li,lo,reduceIte,Nat.reduceEqDiff,Nat.reduceAdd,beq_self_eq_true,q1,q2];done));simp only [rE,rS,li,lo,reduceIte,Nat.reduceEqDiff,Nat.reduceAdd,Nat.reduceMul,Yp,fa104_2,Za Zt,ZN,Yx,ZY,q1,q2];exact rfl;exact rfl)|(apply WO.unwanted;(focus (simp only [rQ,Zc,li,lo,reduceIte,Nat.reduceEqDiff,Nat.reduceAdd,beq_self_eq_true,q1,q2];done));exact rfl))
    (apply WF.ret; (focus (simp only [Zj, Zd, Zm, Zv, reduceIte, Nat.reduceEqDiff, rs168]; exact rfl)))
    have : decide (a - pos < size) = false := decide_eq_false (by omega)
    rw [this]
    rfl
  · have hs := of_decide_eq_true q2
    have wz := wsz (x := size) (by omega) (by omega)
    repeat (first|(apply Zh;exact rfl)|apply Zb|apply WO.nil|(apply WO.op;(focus (simp only [rQ,Zc,li,lo,reduceIte,Nat.reduceEqDiff,Nat.reduceAdd,beq_self_eq_true,q1,q2];done));simp only [rE,rS,li,lo,reduceIte,Nat.reduceEqDiff,Nat.reduceAdd,Nat.reduceMul,Yp,fa104_2,Za Zt,ZN,Yx,ZY,q1,q2,ws,wz];exact rfl;exact rfl)|(apply WO.unwanted;(focus (simp only [rQ,Zc,li,lo,reduceIte,Nat.reduceEqDiff,Nat.reduceAdd,beq_self_eq_true,q1,q2];done));exact rfl))
    (apply WF.ret; (focus (simp only [Zj, Zd, Zm, Zv, reduceIte, Nat.reduceEqDiff, rs168]; exact rfl)))
    rfl
theorem cu164c (x : AV) (l : List AV) (H : AH) : Z3 Q (.func 164 [] [x]) l H = some (.enter 164 ([] ++ l ++ [x]), H) := by kernel_rfl
theorem mx2 (z : Int) : XJ Q .max [2, 2] [.int .i64 z, .int .i64 0] = some (.int .i64 (if z < 0 then 0 else z)) := rfl
set_option maxHeartbeats 2000000 in
theorem finds_c (H : AH) (z : Xn) (b : Nat) (a : Int) (hz : SymOk z) (h0 : -9223372036854775808 ≤ a) (h1 : a ≤ 9223372036854775807) (hb : b < H.next) (hc : H.cellsAt b = some [.int .i64 a]) : Fn Q L 164 [.agg (symL z),.ptr b 0] H (fun w H' => w = .bool (covB a z) ∧ H' = H) := by
  refine Y2 (en164 _ _) rfl ?_
  have hc := lock_cellsAt hc
  have hb : b < (lock H).next := hb
  generalize lock H = H at hc hb
  have hb0 : (b = H.next) = False := eq_false (by omega)
  obtain ⟨nm, pos, size⟩ := z
  obtain ⟨g0, g1, g2, g3, _, _⟩ := hz
  dsimp only at g0 g1 g2 g3
  unfold covB
  dsimp only
  unfold c164 Tryz.f164 symL
  simp only [Option.getD_some]
  cases q1 : decide (pos ≤ a)
  · repeat (first|(apply Zh;exact rfl)|apply Zb|apply WO.nil|(apply WO.op;(focus (simp only [rQ,Zc,li,lo,reduceIte,Nat.reduceEqDiff,Nat.reduceAdd,beq_self_eq_true,q1];done));simp only [rE,rS,li,lo,reduceIte,Nat.reduceEqDiff,Nat.reduceAdd,Nat.reduceMul,Yp,fa104_2,Za Zt,ZN,Yx,ZY,hc,hb0,q1];exact rfl;exact rfl)|(apply WO.unwanted;(focus (simp only [rQ,Zc,li,lo,reduceIte,Nat.reduceEqDiff,Nat.reduceAdd,beq_self_eq_true,q1];done));exact rfl))
    (apply WF.ret; (focus (simp only [Zj, Zd, Zm, Zv, reduceIte, Nat.reduceEqDiff, rs164]; exact rfl)))
    rfl
  have hp := of_decide_eq_true q1
  have ws := sub_u64 hp (by omega)
  have hm : (if size < 0 then (0 : Int) else size) = max size 0 := by split <;> omega
  have wz := wsz (x := max size 0) (by omega) (by omega)
  repeat (first|(apply Zh;exact rfl)|apply Zb|apply WO.nil|(apply WO.op;(focus (simp only [rQ,Zc,li,lo,reduceIte,Nat.reduceEqDiff,Nat.reduceAdd,beq_self_eq_true,q1];done));simp only [rE,rS,li,lo,reduceIte,Nat.reduceEqDiff,Nat.reduceAdd,Nat.reduceMul,Yp,fa104_2,Za Zt,ZN,Yx,ZY,hc,hb0,q1,ws,mx2,hm,wz];exact rfl;exact rfl)|(apply WO.unwanted;(focus (simp only [rQ,Zc,li,lo,reduceIte,Nat.reduceEqDiff,Nat.reduceAdd,beq_self_eq_true,q1];done));exact rfl))
  (apply WF.ret; (focus (simp only [Zj, Zd, Zm, Zv, reduceIte, Nat.reduceEqDiff, rs164]; exact rfl)))
  have : decide (a - pos < max size 0) = decide (a - pos < size) := by
    by_cases h : a - pos < size
    · rw [decide_eq_true h, decide_eq_true (by omega)]
    · rw [decide_eq_false h, decide_eq_false (by omega)]
  rw [this]
  rfl
end Go.Ev.C
end
section
set_option linter.unusedVariables false
set_option linter.unusedSimpArgs false
set_option linter.defProp false
set_option linter.all false
namespace Go.Ev.C
open Go.Proofs Go.Fmt Go.RowKit
set_option maxRecDepth 100000
set_option linter.unusedSimpArgs false
variable {L : World → Prop} [YQ Q L]
/-- The first symbol that covers an address. -/
def symI (l : List Xn) (a : Int) : Option Nat := l.findIdx? (covB a)
theorem symI_none {l : List Xn} {a : Int} (h : ∀ j (h : j < l.length), covB a l[j] = false) : symI l a = none := by
  unfold symI
  rw [List.findIdx?_eq_none_iff]
  intro x hx
  obtain ⟨j, hj, rfl⟩ := List.mem_iff_getElem.1 hx
  exact h j hj
theorem symI_some {l : List Xn} {a : Int} {i : Nat} (hi : i < l.length) (hc : covB a l[i] = true) (h : ∀ j (h : j < l.length), j < i → covB a l[j] = false) : symI l a = some i := by
  unfold symI
  rw [List.findIdx?_eq_some_iff_getElem]
  refine ⟨hi, hc, fun j hj => ?_⟩
  rw [h j (by omega) hj]
  simp
set_option maxHeartbeats 4000000 in
theorem index_c (H : AH) (rv : AV) (l : List Xn) (bx : Nat) (a : Int) (hr : Xr H rv l) (hok' : ∀ z ∈ l,SymOk z) (h0 : -9223372036854775808 ≤ a) (h1 : a ≤ 9223372036854775807) (hlen : l.length < 9223372036854775808) (hb : bx < H.next) (hbc : H.cellsAt bx = some [.int .i64 a]) :
    Fn Q L 163 [rv, .func 164 [] [.ptr bx 0]] H (fun w H' => H' = H ∧ w = .int .i64 (match symI l a with
      | some i => (i : Int)
      | none => -1)) := by
  refine Fn.intro (en163 _ _) ?_
  have hs := hr.1
  unfold c163 Tryz.f163
  simp only [Option.getD_some]
  repeat (first|(apply Zh;exact rfl)|apply Zb|apply WO.nil|(apply Zk;exact rfl;simp only [rE,rS,li,lo,reduceIte,Nat.reduceEqDiff,Nat.reduceAdd,Nat.reduceMul,ZL,ZP ZL hs];exact rfl;exact rfl))
  refine YL (fun m t H' => ∃ i : Nat,H' = H ∧ i + m = l.length ∧ (∀ j (h : j < l.length),j < i → covB a l[j] = false) ∧ t.get 0 = some rv ∧ t.get 1 = some (.func 164 [] [.ptr bx 0]) ∧ t.get 7 = some (.int .i64 (l.length : Int)) ∧ t.get 8 = some (.int .i64 (i : Int))) l.length ?_ ?_
  · refine ⟨0, rfl, by omega, fun j h hj => by omega, ?_, ?_, ?_, ?_⟩ <;> simp [Zd, Zm]
  rintro m t H' ⟨i, rfl, him, hok, ht0, ht1, ht7, ht8⟩ ih
  by_cases hil : i < l.length
  · have hlt : decide ((i : Int) < (l.length : Int)) = true := by simp; omega
    have wi : IntKind.i64.wrap ((i : Int) + 1) = ((i + 1 : Nat) : Int) := by rw [Go.Ev.w64 (by omega) (by omega)]; omega
    obtain ⟨b, off, cap, c, rfl, hbb, hc, hcut, _, _⟩ := hr.at (List.getElem?_eq_getElem hil)
    have hfn := finds_c (L := L) H' l[i] bx a (hok' _ (List.getElem_mem hil)) h0 h1 hb hbc
    repeat (first|(apply Zh;exact rfl)|apply Zb|apply WO.nil|(apply WO.op;(focus (simp only [rQ,Zc,li,lo,reduceIte,Nat.reduceEqDiff,Nat.reduceAdd,beq_self_eq_true,hlt];done));simp only [rE,rS,li,lo,reduceIte,Nat.reduceEqDiff,Nat.reduceAdd,Nat.reduceMul,ZL,ZP ZL hs,Ze Wr Ym,cu164c,ht0,ht1,ht7,ht8,hlt];exact rfl;exact rfl)|(apply WO.unwanted;(focus (simp only [rQ,Zc,li,lo,reduceIte,Nat.reduceEqDiff,Nat.reduceAdd,beq_self_eq_true,hlt];done));exact rfl))
    (first|(apply WF.condT;(focus (simp only [Zg,Zf,Zd,Zm,Bool.not_true,Bool.not_false,reduceIte,Nat.reduceEqDiff,hlt];done)))|(apply WF.condF;(focus (simp only [Zg,Zf,Zd,Zm,Bool.not_true,Bool.not_false,reduceIte,Nat.reduceEqDiff,hlt];done))))
    repeat (first|(apply Zh;exact rfl)|apply Zb|apply WO.nil|(apply WO.op;(focus (simp only [rQ,Zc,li,lo,reduceIte,Nat.reduceEqDiff,Nat.reduceAdd,beq_self_eq_true,hlt];done));simp only [rE,rS,li,lo,reduceIte,Nat.reduceEqDiff,Nat.reduceAdd,Nat.reduceMul,ZL,ZP ZL hs,Ze Wr Ym,cu164c,ht0,ht1,ht7,ht8,hlt,ZH ZL Ym hil,hc,hcut];exact rfl;exact rfl)|(apply WO.unwanted;(focus (simp only [rQ,Zc,li,lo,reduceIte,Nat.reduceEqDiff,Nat.reduceAdd,beq_self_eq_true,hlt];done));exact rfl))
    (apply WO.call;(focus (simp only [rQ,Zc,li,lo,reduceIte,Nat.reduceEqDiff,Nat.reduceAdd,beq_self_eq_true,hlt];done));simp only [rE,rS,li,lo,reduceIte,Nat.reduceEqDiff,Nat.reduceAdd,Nat.reduceMul,ZL,ZP ZL hs,Ze Wr Ym,cu164c,ht0,ht1,ht7,ht8,hlt,ZH ZL Ym hil,hc,hcut];exact rfl;exact hfn;rintro _ _ ⟨rfl,rfl⟩;refine ⟨_,rfl,?_⟩)
    repeat (first|(apply Zh;exact rfl)|apply Zb|apply WO.nil|(apply Zk;exact rfl;simp only [rE,rS,li,lo,reduceIte,Nat.reduceEqDiff,Nat.reduceAdd,Nat.reduceMul,ZL,ZP ZL hs,Ze Wr Ym,cu164c,ht0,ht1,ht7,ht8];exact rfl;exact rfl))
    cases hv : covB a l[i]
    · (first|(apply WF.condT;(focus (simp only [Zg,Zf,Zd,Zm,Bool.not_true,Bool.not_false,reduceIte,Nat.reduceEqDiff,hv];done)))|(apply WF.condF;(focus (simp only [Zg,Zf,Zd,Zm,Bool.not_true,Bool.not_false,reduceIte,Nat.reduceEqDiff,hv];done))))
      repeat (first|(apply Zh;exact rfl)|apply Zb|apply WO.nil|(apply Zk;exact rfl;simp only [rE,rS,li,lo,reduceIte,Nat.reduceEqDiff,Nat.reduceAdd,Nat.reduceMul,ZL,ZP ZL hs,Ze Wr Ym,cu164c,ht0,ht1,ht7,ht8,wi];exact rfl;exact rfl))
      refine Z4 ?_
      refine ih (m - 1) _ _ (by omega) ⟨i + 1, rfl, by omega, fun j h hj => ?_, ?_, ?_, ?_, ?_⟩
      · by_cases e : j = i
        · subst e; exact hv
        · exact hok j h (by omega)
      all_goals simp [Zd, ht0, ht1, ht7]
    · (first|(apply WF.condT;(focus (simp only [Zg,Zf,Zd,Zm,Bool.not_true,Bool.not_false,reduceIte,Nat.reduceEqDiff,hv];done)))|(apply WF.condF;(focus (simp only [Zg,Zf,Zd,Zm,Bool.not_true,Bool.not_false,reduceIte,Nat.reduceEqDiff,hv];done))))
      repeat (first|(apply Zh;exact rfl)|apply Zb|apply WO.nil|(apply Zk;exact rfl;simp only [rE,rS,li,lo,reduceIte,Nat.reduceEqDiff,Nat.reduceAdd,Nat.reduceMul,ZL,ZP ZL hs,Ze Wr Ym,cu164c,ht0,ht1,ht7,ht8];exact rfl;exact rfl))
      (apply WF.ret; (focus (simp only [Zj, Zd, Zm, Zv, reduceIte, Nat.reduceEqDiff, rs163]; exact rfl)))
      rw [symI_some hil hv hok]
      exact ⟨rfl, rfl⟩
  · have hlt : decide ((i : Int) < (l.length : Int)) = false := by simp; omega
    repeat (first|(apply Zh;exact rfl)|apply Zb|apply WO.nil|(apply WO.op;(focus (simp only [rQ,Zc,li,lo,reduceIte,Nat.reduceEqDiff,Nat.reduceAdd,beq_self_eq_true,hlt];done));simp only [rE,rS,li,lo,reduceIte,Nat.reduceEqDiff,Nat.reduceAdd,Nat.reduceMul,ZL,ZP ZL hs,Ze Wr Ym,cu164c,ht0,ht1,ht7,ht8,hlt];exact rfl;exact rfl)|(apply WO.unwanted;(focus (simp only [rQ,Zc,li,lo,reduceIte,Nat.reduceEqDiff,Nat.reduceAdd,beq_self_eq_true,hlt];done));exact rfl))
    (first|(apply WF.condT;(focus (simp only [Zg,Zf,Zd,Zm,Bool.not_true,Bool.not_false,reduceIte,Nat.reduceEqDiff,hlt];done)))|(apply WF.condF;(focus (simp only [Zg,Zf,Zd,Zm,Bool.not_true,Bool.not_false,reduceIte,Nat.reduceEqDiff,hlt];done))))
    repeat (first|(apply Zh;exact rfl)|apply Zb|apply WO.nil|(apply WO.op;(focus (simp only [rQ,Zc,li,lo,reduceIte,Nat.reduceEqDiff,Nat.reduceAdd,beq_self_eq_true,hlt];done));simp only [rE,rS,li,lo,reduceIte,Nat.reduceEqDiff,Nat.reduceAdd,Nat.reduceMul,ZL,ZP ZL hs,Ze Wr Ym,cu164c,ht0,ht1,ht7,ht8,hlt];exact rfl;exact rfl)|(apply WO.unwanted;(focus (simp only [rQ,Zc,li,lo,reduceIte,Nat.reduceEqDiff,Nat.reduceAdd,beq_self_eq_true,hlt];done));exact rfl))
    (apply WF.ret; (focus (simp only [Zj, Zd, Zm, Zv, reduceIte, Nat.reduceEqDiff, rs163]; exact rfl)))
    rw [symI_none fun j h => hok j h (by omega)]
    exact ⟨rfl, rfl⟩
/-- What Find answers. -/
def findR (l : List Xn) (a : Int) : Int × Int × Bool := match symI l a with
  | some i => ((i : Int), a - (match l[i]? with
      | some z => z.pos
      | none => 0), true)
  | none => (0, 0, false)
theorem symI_at {l : List Xn} {a : Int} {i : Nat} (h : symI l a = some i) : ∃ hi : i < l.length, covB a l[i] = true := by
  unfold symI at h
  rw [List.findIdx?_eq_some_iff_getElem] at h
  obtain ⟨hi, hc, _⟩ := h
  exact ⟨hi, hc⟩
theorem Xr.lock {H : AH} {v : AV} {l : List Xn} (h : Xr H v l) : Xr (lock H) v l :=
  ⟨h.1, fun b off n cap e hn => by
    obtain ⟨c, hb, hc, hr⟩ := h.2 b off n cap e hn
    exact ⟨c, hb, lock_cellsAt hc, hr⟩⟩
theorem findR_at {l : List Xn} {a : Int} {i : Nat} (h : symI l a = some i) (hi : i < l.length) : findR l a = ((i : Int), a - l[i].pos, true) := by
  unfold findR
  rw [h]
  dsimp only
  rw [List.getElem?_eq_getElem hi]
set_option maxHeartbeats 4000000 in
theorem find124_c (H : AH) (rv : AV) (l : List Xn) (a : Int) (hr : Xr H rv l) (hok' : ∀ z ∈ l,SymOk z) (h0 : -9223372036854775808 ≤ a) (h1 : a ≤ 9223372036854775807) (hlen : l.length < 9223372036854775808) :
    Fn Q L 124 [rv, .int .i64 a] H (fun w H' => w = .tuple [.int .i64 (findR l a).1, .int .i64 (findR l a).2.1, .bool (findR l a).2.2] ∧ H' = H) := by
  refine Y2 (en124 _ _) rfl ?_
  replace hr := hr.lock
  generalize lock H = H at hr
  have hr1 : Xr ⟨H.t.put H.next (some (.cells 2 [.int .i64 a] 0 false false)), H.next + 1⟩ rv l := hr.up (Up.bx1 H _)
  have hbc : AH.cellsAt ⟨H.t.put H.next (some (.cells 2 [.int .i64 a] 0 false false)), H.next + 1⟩ H.next = some [.int .i64 a] := by
    rw [Yu, if_pos rfl]
  unfold c124 Tryz.f124
  simp only [Option.getD_some]
  repeat (first | (apply Zh; exact rfl) | apply Zb | apply WO.nil | (apply Zk; exact rfl; simp only [rE, rS, li, lo, reduceIte, Nat.reduceEqDiff, Nat.reduceAdd, Nat.reduceMul]; exact rfl; exact rfl))
  (apply WO.call;(focus (simp only [rQ,Zc,li,lo,reduceIte,Nat.reduceEqDiff,Nat.reduceAdd,beq_self_eq_true];done));simp only [rE,rS,li,lo,reduceIte,Nat.reduceEqDiff,Nat.reduceAdd,Nat.reduceMul,cu163];exact rfl;exact index_c _ rv l H.next a hr1 hok' h0 h1 hlen (Nat.lt_succ_self _) hbc;rintro _ _ ⟨rfl,rfl⟩;refine ⟨_,rfl,?_⟩)
  cases hsi : symI l a with
  | none =>
    have hfr : findR l a = (0, 0, false) := by unfold findR; rw [hsi]
    rw [hfr]
    have d1 : decide ((-1 : Int) < 0) = true := rfl
    repeat (first|(apply Zh;exact rfl)|apply Zb|apply WO.nil|(apply WO.op;(focus (simp only [rQ,Zc,li,lo,reduceIte,Nat.reduceEqDiff,Nat.reduceAdd,beq_self_eq_true,d1];done));simp only [rE,rS,li,lo,reduceIte,Nat.reduceEqDiff,Nat.reduceAdd,Nat.reduceMul,d1];exact rfl;exact rfl)|(apply WO.unwanted;(focus (simp only [rQ,Zc,li,lo,reduceIte,Nat.reduceEqDiff,Nat.reduceAdd,beq_self_eq_true,d1];done));exact rfl))
    (first|(apply WF.condT;(focus (simp only [Zg,Zf,Zd,Zm,Bool.not_true,Bool.not_false,reduceIte,Nat.reduceEqDiff,d1];done)))|(apply WF.condF;(focus (simp only [Zg,Zf,Zd,Zm,Bool.not_true,Bool.not_false,reduceIte,Nat.reduceEqDiff,d1];done))))
    repeat (first|(apply Zh;exact rfl)|apply Zb|apply WO.nil|(apply Zk;exact rfl;simp only [rE,rS,li,lo,reduceIte,Nat.reduceEqDiff,Nat.reduceAdd,Nat.reduceMul];exact rfl;exact rfl))
    (apply WF.ret; (focus (simp only [Zj, Zd, Zm, Zv, reduceIte, Nat.reduceEqDiff, rs124]; exact rfl)))
    rfl
  | some i =>
    obtain ⟨hi, hcv⟩ := symI_at hsi
    have hz := hok' _ (List.getElem_mem hi)
    have d1 : decide ((i : Int) < 0) = false := decide_eq_false (by omega)
    have hgi : l[i]? = some l[i] := List.getElem?_eq_getElem hi
    obtain ⟨b, off, cap, c, rfl, hbb, hc, hcut, _, hpos⟩ := hr1.at hgi
    have hfr := findR_at hsi hi
    rw [hfr]
    generalize l[i] = z at *
    unfold covB at hcv
    simp only [Bool.and_eq_true, decide_eq_true_eq] at hcv
    have g1 := hz.plo
    have g2 := hz.phi
    have g3 := hz.shi
    have ws : IntKind.i64.wrap (a - z.pos) = a - z.pos := Go.Ev.w64 (by omega) (by omega)
    repeat (first|(apply Zh;exact rfl)|apply Zb|apply WO.nil|(apply WO.op;(focus (simp only [rQ,Zc,li,lo,reduceIte,Nat.reduceEqDiff,Nat.reduceAdd,beq_self_eq_true,d1];done));simp only [rE,rS,li,lo,reduceIte,Nat.reduceEqDiff,Nat.reduceAdd,Nat.reduceMul,d1];exact rfl;exact rfl)|(apply WO.unwanted;(focus (simp only [rQ,Zc,li,lo,reduceIte,Nat.reduceEqDiff,Nat.reduceAdd,beq_self_eq_true,d1];done));exact rfl))
    (first|(apply WF.condT;(focus (simp only [Zg,Zf,Zd,Zm,Bool.not_true,Bool.not_false,reduceIte,Nat.reduceEqDiff,d1];done)))|(apply WF.condF;(focus (simp only [Zg,Zf,Zd,Zm,Bool.not_true,Bool.not_false,reduceIte,Nat.reduceEqDiff,d1];done))))
    repeat (first|(apply Zh;exact rfl)|apply Zb|apply WO.nil|(apply WO.op;(focus (simp only [rQ,Zc,li,lo,reduceIte,Nat.reduceEqDiff,Nat.reduceAdd,beq_self_eq_true,d1];done));simp only [rE,rS,li,lo,reduceIte,Nat.reduceEqDiff,Nat.reduceAdd,Nat.reduceMul,d1];exact rfl;exact rfl)|(apply WO.unwanted;(focus (simp only [rQ,Zc,li,lo,reduceIte,Nat.reduceEqDiff,Nat.reduceAdd,beq_self_eq_true,d1];done));exact rfl))
    (apply YB; kernel_rfl; kernel_rfl)
    (refine Zs ?_;(iterate 8 (first|(apply ZU.pure;kernel_rfl;kernel_rfl;(focus ((simp only [rQ,Zc,li,lo,reduceIte,Nat.reduceEqDiff,Nat.reduceAdd,beq_self_eq_true];done)));simp only [rE,rS,li,lo,reduceIte,Nat.reduceEqDiff,Nat.reduceAdd,Nat.reduceMul,Yp,Za Zt,ZL,ZH ZL Ym hi,hc,hpos,ws];exact rfl;exact rfl)|(apply ZU.load;kernel_rfl;kernel_rfl;(focus ((simp only [rQ,Zc,li,lo,reduceIte,Nat.reduceEqDiff,Nat.reduceAdd,beq_self_eq_true];done)));simp only [rE,rS,li,lo,reduceIte,Nat.reduceEqDiff,Nat.reduceAdd,Nat.reduceMul,Yp,Za Zt,ZL,ZH ZL Ym hi,hc,hpos,ws];exact rfl;exact rfl)));(iterate 3 (apply ZU.later;kernel_rfl));refine ZU.nil ?_)
    (apply ZZ.eff (e := 8);kernel_rfl;simp only [li];exact rfl;(focus (simp only [rQ,Zc,li,lo,reduceIte,Nat.reduceEqDiff,Nat.reduceAdd,beq_self_eq_true];done));simp only [rE,rS,li,lo,reduceIte,Nat.reduceEqDiff,Nat.reduceAdd,Nat.reduceMul,Yp,Za Zt,ZL,ZH ZL Ym hi,hc,hpos,ws];exact rfl;exact rfl;(focus (apply Xm (R := [1,6]);kernel_rfl;(apply Anew.cons;simp only [li];exact rfl;(focus (simp only [rQ,Zc,li,lo,reduceIte,Nat.reduceEqDiff,Nat.reduceAdd,beq_self_eq_true];done));simp only [rE,rS,li,lo,reduceIte,Nat.reduceEqDiff,Nat.reduceAdd,Nat.reduceMul,Yp,Za Zt,ZL,ZH ZL Ym hi,hc,hpos,ws];exact rfl;exact rfl;(focus (simp only [Zd,Zm,reduceIte,Nat.reduceEqDiff,Yp,Za Zt,ZL,ZH ZL Ym hi,hc,hpos,ws];exact rfl));(focus (simp [AV.beq,Xz,Yp,Za Zt,ZL,ZH ZL Ym hi,hc,hpos,ws];done)));(apply Anew.cons;simp only [li];exact rfl;(focus (simp only [rQ,Zc,li,lo,reduceIte,Nat.reduceEqDiff,Nat.reduceAdd,beq_self_eq_true];done));simp only [rE,rS,li,lo,reduceIte,Nat.reduceEqDiff,Nat.reduceAdd,Nat.reduceMul,Yp,Za Zt,ZL,ZH ZL Ym hi,hc,hpos,ws];exact rfl;exact rfl;(focus (simp only [Zd,Zm,reduceIte,Nat.reduceEqDiff,Yp,Za Zt,ZL,ZH ZL Ym hi,hc,hpos,ws];exact rfl));(focus (simp [AV.beq,Xz,Yp,Za Zt,ZL,ZH ZL Ym hi,hc,hpos,ws];done)));exact Anew.nil)))
    (refine Zs ?_; (iterate 11 (apply ZU.later; kernel_rfl)); refine ZU.nil ?_)
    (apply ZZ.eff (e := 9);kernel_rfl;simp only [li];exact rfl;(focus (simp only [rQ,Zc,li,lo,reduceIte,Nat.reduceEqDiff,Nat.reduceAdd,beq_self_eq_true];done));simp only [rE,rS,li,lo,reduceIte,Nat.reduceEqDiff,Nat.reduceAdd,Nat.reduceMul,Yp,Za Zt,ZL];exact rfl;exact rfl;(focus exact Zx (by kernel_rfl)))
    (refine Zs ?_; (iterate 11 (apply ZU.later; kernel_rfl)); refine ZU.nil ?_)
    (apply ZZ.eff (e := 10);kernel_rfl;simp only [li];exact rfl;(focus (simp only [rQ,Zc,li,lo,reduceIte,Nat.reduceEqDiff,Nat.reduceAdd,beq_self_eq_true];done));simp only [rE,rS,li,lo,reduceIte,Nat.reduceEqDiff,Nat.reduceAdd,Nat.reduceMul,Yp,Za Zt,ZL];exact rfl;exact rfl;(focus exact Zx (by kernel_rfl)))
    (refine Zs ?_; (iterate 11 (apply ZU.later; kernel_rfl)); refine ZU.nil ?_)
    (apply ZZ.all; kernel_rfl; kernel_rfl)
    repeat (first|(apply Zh;exact rfl)|apply Zb|apply WO.nil|(apply Zk;exact rfl;simp only [rE,rS,li,lo,reduceIte,Nat.reduceEqDiff,Nat.reduceAdd,Nat.reduceMul,Yp,Za Zt,ZL];exact rfl;exact rfl))
    (apply WF.ret; (focus (simp only [Zj, Zd, Zm, Zv, reduceIte, Nat.reduceEqDiff, rs124]; exact rfl)))
    rfl
set_option maxHeartbeats 4000000 in
theorem find129_c (H : AH) (rv : AV) (l : List Xn) (a : Int) (hr : Xr H rv l) (hok' : ∀ z ∈ l,SymOk z) (h0 : -9223372036854775808 ≤ a) (h1 : a ≤ 9223372036854775807) (hlen : l.length < 9223372036854775808) :
    Fn Q L 129 [rv, .int .i64 a] H (fun w H' => w = .tuple [.int .i64 (findR l a).1, .int .i64 (findR l a).2.1, .bool (findR l a).2.2] ∧ H' = H) := by
  refine Fn.intro (en129 _ _) ?_
  have hs := hr.1
  unfold c129 Tryz.f129
  simp only [Option.getD_some]
  repeat (first|(apply Zh;exact rfl)|apply Zb|apply WO.nil|(apply Zk;exact rfl;simp only [rE,rS,li,lo,reduceIte,Nat.reduceEqDiff,Nat.reduceAdd,Nat.reduceMul,ZL,ZP ZL hs];exact rfl;exact rfl))
  refine YL (fun m t H' => ∃ i : Nat,H' = H ∧ i + m = l.length ∧ (∀ j (h : j < l.length),j < i → covB a l[j] = false) ∧ t.get 0 = some rv ∧ t.get 1 = some (.int .i64 a) ∧ t.get 7 = some (.int .i64 (i : Int))) l.length ?_ ?_
  · refine ⟨0, rfl, by omega, fun j h hj => by omega, ?_, ?_, ?_⟩ <;> simp [Zd, Zm]
  rintro m t H' ⟨i, rfl, him, hok, ht0, ht1, ht7⟩ ih
  by_cases hil : i < l.length
  · have hlt : decide ((i : Int) < (l.length : Int)) = true := by simp; omega
    have wi : IntKind.i64.wrap ((i : Int) + 1) = ((i + 1 : Nat) : Int) := by rw [Go.Ev.w64 (by omega) (by omega)]; omega
    obtain ⟨b, off, cap, c, rfl, hbb, hc, hcut, _, hpos⟩ := hr.at (List.getElem?_eq_getElem hil)
    have hz := hok' _ (List.getElem_mem hil)
    repeat (first|(apply Zh;exact rfl)|apply Zb|apply WO.nil|(apply WO.op;(focus (simp only [rQ,Zc,li,lo,reduceIte,Nat.reduceEqDiff,Nat.reduceAdd,beq_self_eq_true,hlt];done));simp only [rE,rS,li,lo,reduceIte,Nat.reduceEqDiff,Nat.reduceAdd,Nat.reduceMul,ZL,ZP ZL hs,Ze Wr Ym,ht0,ht1,ht7,hlt];exact rfl;exact rfl)|(apply WO.unwanted;(focus (simp only [rQ,Zc,li,lo,reduceIte,Nat.reduceEqDiff,Nat.reduceAdd,beq_self_eq_true,hlt];done));exact rfl))
    (first|(apply WF.condT;(focus (simp only [Zg,Zf,Zd,Zm,Bool.not_true,Bool.not_false,reduceIte,Nat.reduceEqDiff,hlt];done)))|(apply WF.condF;(focus (simp only [Zg,Zf,Zd,Zm,Bool.not_true,Bool.not_false,reduceIte,Nat.reduceEqDiff,hlt];done))))
    repeat (first|(apply Zh;exact rfl)|apply Zb|apply WO.nil|(apply WO.op;(focus (simp only [rQ,Zc,li,lo,reduceIte,Nat.reduceEqDiff,Nat.reduceAdd,beq_self_eq_true,hlt];done));simp only [rE,rS,li,lo,reduceIte,Nat.reduceEqDiff,Nat.reduceAdd,Nat.reduceMul,ZL,ZP ZL hs,Ze Wr Ym,ht0,ht1,ht7,hlt,ZH ZL Ym hil,hc,hcut];exact rfl;exact rfl)|(apply WO.unwanted;(focus (simp only [rQ,Zc,li,lo,reduceIte,Nat.reduceEqDiff,Nat.reduceAdd,beq_self_eq_true,hlt];done));exact rfl))
    (apply WO.call;(focus (simp only [rQ,Zc,li,lo,reduceIte,Nat.reduceEqDiff,Nat.reduceAdd,beq_self_eq_true,hlt];done));simp only [rE,rS,li,lo,reduceIte,Nat.reduceEqDiff,Nat.reduceAdd,Nat.reduceMul,ZL,ZP ZL hs,Ze Wr Ym,ht0,ht1,ht7,hlt,ZH ZL Ym hil,hc,hcut,cu168];exact rfl;exact covers_c _ _ _ hz h0 h1;rintro _ _ ⟨rfl,rfl⟩;refine ⟨_,rfl,?_⟩)
    repeat (first|(apply Zh;exact rfl)|apply Zb|apply WO.nil|(apply Zk;exact rfl;simp only [rE,rS,li,lo,reduceIte,Nat.reduceEqDiff,Nat.reduceAdd,Nat.reduceMul,ZL,ZP ZL hs,Ze Wr Ym,ht0,ht1,ht7];exact rfl;exact rfl))
    cases hv : covB a l[i]
    · (first|(apply WF.condT;(focus (simp only [Zg,Zf,Zd,Zm,Bool.not_true,Bool.not_false,reduceIte,Nat.reduceEqDiff,hv];done)))|(apply WF.condF;(focus (simp only [Zg,Zf,Zd,Zm,Bool.not_true,Bool.not_false,reduceIte,Nat.reduceEqDiff,hv];done))))
      repeat (first|(apply Zh;exact rfl)|apply Zb|apply WO.nil|(apply Zk;exact rfl;simp only [rE,rS,li,lo,reduceIte,Nat.reduceEqDiff,Nat.reduceAdd,Nat.reduceMul,ZL,ZP ZL hs,Ze Wr Ym,ht0,ht1,ht7,wi];exact rfl;exact rfl))
      refine Z4 ?_
      refine ih (m - 1) _ _ (by omega) ⟨i + 1, rfl, by omega, fun j h hj => ?_, ?_, ?_, ?_⟩
      · by_cases e : j = i
        · subst e; exact hv
        · exact hok j h (by omega)
      all_goals simp [Zd, ht0, ht1]
    · (first|(apply WF.condT;(focus (simp only [Zg,Zf,Zd,Zm,Bool.not_true,Bool.not_false,reduceIte,Nat.reduceEqDiff,hv];done)))|(apply WF.condF;(focus (simp only [Zg,Zf,Zd,Zm,Bool.not_true,Bool.not_false,reduceIte,Nat.reduceEqDiff,hv];done))))
      have hfr := findR_at (symI_some hil hv hok) hil
      rw [hfr]
      generalize l[i] = z at *
      unfold covB at hv
      simp only [Bool.and_eq_true, decide_eq_true_eq] at hv
      have g1 := hz.plo
      have g2 := hz.phi
      have g3 := hz.shi
      have ws : IntKind.i64.wrap (a - z.pos) = a - z.pos := Go.Ev.w64 (by omega) (by omega)
      repeat (first|(apply Zh;exact rfl)|apply Zb|apply WO.nil|(apply Zk;exact rfl;simp only [rE,rS,li,lo,reduceIte,Nat.reduceEqDiff,Nat.reduceAdd,Nat.reduceMul,ZL,Yp,Za Zt,ht0,ht1,ht7];exact rfl;exact rfl))
      (apply YB; kernel_rfl; kernel_rfl)
      (refine Zs ?_;(iterate 8 (first|(apply ZU.pure;kernel_rfl;kernel_rfl;(focus ((simp only [rQ,Zc,li,lo,reduceIte,Nat.reduceEqDiff,Nat.reduceAdd,beq_self_eq_true];done)));simp only [rE,rS,li,lo,reduceIte,Nat.reduceEqDiff,Nat.reduceAdd,Nat.reduceMul,ZL,Yp,Za Zt,ht0,ht1,ht7,ZH ZL Ym hil,hc,hpos,ws];exact rfl;exact rfl)|(apply ZU.load;kernel_rfl;kernel_rfl;(focus ((simp only [rQ,Zc,li,lo,reduceIte,Nat.reduceEqDiff,Nat.reduceAdd,beq_self_eq_true];done)));simp only [rE,rS,li,lo,reduceIte,Nat.reduceEqDiff,Nat.reduceAdd,Nat.reduceMul,ZL,Yp,Za Zt,ht0,ht1,ht7,ZH ZL Ym hil,hc,hpos,ws];exact rfl;exact rfl)));(iterate 3 (apply ZU.later;kernel_rfl));refine ZU.nil ?_)
      (apply ZZ.eff (e := 8);kernel_rfl;simp only [li];exact rfl;(focus (simp only [rQ,Zc,li,lo,reduceIte,Nat.reduceEqDiff,Nat.reduceAdd,beq_self_eq_true];done));simp only [rE,rS,li,lo,reduceIte,Nat.reduceEqDiff,Nat.reduceAdd,Nat.reduceMul,ZL,Yp,Za Zt,ht0,ht1,ht7,ZH ZL Ym hil,hc,hpos,ws];exact rfl;exact rfl;(focus (apply Xm (R := [6]);kernel_rfl;(apply Anew.cons;simp only [li];exact rfl;(focus (simp only [rQ,Zc,li,lo,reduceIte,Nat.reduceEqDiff,Nat.reduceAdd,beq_self_eq_true];done));simp only [rE,rS,li,lo,reduceIte,Nat.reduceEqDiff,Nat.reduceAdd,Nat.reduceMul,ZL,Yp,Za Zt,ht0,ht1,ht7,ZH ZL Ym hil,hc,hpos,ws];exact rfl;exact rfl;(focus (simp only [Zd,Zm,reduceIte,Nat.reduceEqDiff,ZL,Yp,Za Zt,ht0,ht1,ht7,ZH ZL Ym hil,hc,hpos,ws];exact rfl));(focus (simp [AV.beq,Xz,ZL,Yp,Za Zt,ht0,ht1,ht7,ZH ZL Ym hil,hc,hpos,ws];done)));exact Anew.nil)))
      (refine Zs ?_; (iterate 11 (apply ZU.later; kernel_rfl)); refine ZU.nil ?_)
      (apply ZZ.eff (e := 9);kernel_rfl;simp only [li];exact rfl;(focus (simp only [rQ,Zc,li,lo,reduceIte,Nat.reduceEqDiff,Nat.reduceAdd,beq_self_eq_true];done));simp only [rE,rS,li,lo,reduceIte,Nat.reduceEqDiff,Nat.reduceAdd,Nat.reduceMul,ZL,Yp,Za Zt,ht0,ht1,ht7];exact rfl;exact rfl;(focus exact Zx (by kernel_rfl)))
      (refine Zs ?_; (iterate 11 (apply ZU.later; kernel_rfl)); refine ZU.nil ?_)
      (apply ZZ.eff (e := 10);kernel_rfl;simp only [li];exact rfl;(focus (simp only [rQ,Zc,li,lo,reduceIte,Nat.reduceEqDiff,Nat.reduceAdd,beq_self_eq_true];done));simp only [rE,rS,li,lo,reduceIte,Nat.reduceEqDiff,Nat.reduceAdd,Nat.reduceMul,ZL,Yp,Za Zt,ht0,ht1,ht7];exact rfl;exact rfl;(focus exact Zx (by kernel_rfl)))
      (refine Zs ?_; (iterate 11 (apply ZU.later; kernel_rfl)); refine ZU.nil ?_)
      (apply ZZ.all; kernel_rfl; kernel_rfl)
      repeat (first|(apply Zh;exact rfl)|apply Zb|apply WO.nil|(apply Zk;exact rfl;simp only [rE,rS,li,lo,reduceIte,Nat.reduceEqDiff,Nat.reduceAdd,Nat.reduceMul,ZL,Yp,Za Zt,ht0,ht1,ht7];exact rfl;exact rfl))
      (apply WF.ret; (focus (simp only [Zj, Zd, Zm, Zv, reduceIte, Nat.reduceEqDiff, rs129]; exact rfl)))
      exact ⟨rfl, rfl⟩
  · have hlt : decide ((i : Int) < (l.length : Int)) = false := by simp; omega
    repeat (first|(apply Zh;exact rfl)|apply Zb|apply WO.nil|(apply WO.op;(focus (simp only [rQ,Zc,li,lo,reduceIte,Nat.reduceEqDiff,Nat.reduceAdd,beq_self_eq_true,hlt];done));simp only [rE,rS,li,lo,reduceIte,Nat.reduceEqDiff,Nat.reduceAdd,Nat.reduceMul,ZL,ZP ZL hs,Ze Wr Ym,ht0,ht1,ht7,hlt];exact rfl;exact rfl)|(apply WO.unwanted;(focus (simp only [rQ,Zc,li,lo,reduceIte,Nat.reduceEqDiff,Nat.reduceAdd,beq_self_eq_true,hlt];done));exact rfl))
    (first|(apply WF.condT;(focus (simp only [Zg,Zf,Zd,Zm,Bool.not_true,Bool.not_false,reduceIte,Nat.reduceEqDiff,hlt];done)))|(apply WF.condF;(focus (simp only [Zg,Zf,Zd,Zm,Bool.not_true,Bool.not_false,reduceIte,Nat.reduceEqDiff,hlt];done))))
    repeat (first|(apply Zh;exact rfl)|apply Zb|apply WO.nil|(apply WO.op;(focus (simp only [rQ,Zc,li,lo,reduceIte,Nat.reduceEqDiff,Nat.reduceAdd,beq_self_eq_true,hlt];done));simp only [rE,rS,li,lo,reduceIte,Nat.reduceEqDiff,Nat.reduceAdd,Nat.reduceMul,ZL,ZP ZL hs,Ze Wr Ym,ht0,ht1,ht7,hlt];exact rfl;exact rfl)|(apply WO.unwanted;(focus (simp only [rQ,Zc,li,lo,reduceIte,Nat.reduceEqDiff,Nat.reduceAdd,beq_self_eq_true,hlt];done));exact rfl))
    (apply WF.ret; (focus (simp only [Zj, Zd, Zm, Zv, reduceIte, Nat.reduceEqDiff, rs129]; exact rfl)))
    unfold findR
    rw [symI_none fun j h => hok j h (by omega)]
    exact ⟨rfl, rfl⟩
end Go.Ev.C
end
section
set_option linter.unusedVariables false
set_option linter.unusedSimpArgs false
set_option linter.defProp false
set_option linter.all false
namespace Go.Ev.C
open Go.Proofs Go.Fmt Go.RowKit
set_option maxRecDepth 100000
set_option linter.unusedSimpArgs false
/-- The name of an address. -/
def nameR (l : List Xn) (a : Int) : List Nat := match symI l a with
  | some i => match l[i]? with
    | some z => if a - z.pos = 0 then z.name else (z.name ++ [43]) ++ dec (a - z.pos)
    | none => []
  | none => [48, 120] ++ hx 16 (u64N a)
theorem nameR_none {l : List Xn} {a : Int} (h : symI l a = none) : nameR l a = [48, 120] ++ hx 16 (u64N a) := by
  unfold nameR
  rw [h]
theorem nameR_some {l : List Xn} {a : Int} {i : Nat} (h : symI l a = some i) (hi : i < l.length) : nameR l a = if a - l[i].pos = 0 then l[i].name else (l[i].name ++ [43]) ++ dec (a - l[i].pos) := by
  unfold nameR
  rw [h]
  dsimp only
  rw [List.getElem?_eq_getElem hi]
theorem nameR_len {l : List Xn} (hok : ∀ z ∈ l, SymOk z) (a : Int) : (nameR l a).length ≤ 2000100 := by
  cases h : symI l a with
  | none =>
    rw [nameR_none h]
    have := Yf 16 (u64N a)
    simp
    omega
  | some i =>
    obtain ⟨hi, _⟩ := symI_at h
    rw [nameR_some h hi]
    have h1 := (hok _ (List.getElem_mem hi)).len
    have h2 := dec_len (a - l[i].pos)
    split
    · omega
    · simp
      omega
theorem nameR_byte {l : List Xn} (hok : ∀ z ∈ l, SymOk z) (a : Int) : ∀ c ∈ nameR l a, c < 256 := by
  intro c hc
  cases h : symI l a with
  | none =>
    rw [nameR_none h] at hc
    rcases List.mem_append.1 hc with h1 | h1
    · simp at h1
      omega
    · exact hx_byte 16 _ (by omega) (by omega) c h1
  | some i =>
    obtain ⟨hi, _⟩ := symI_at h
    rw [nameR_some h hi] at hc
    have hb := (hok _ (List.getElem_mem hi)).byte c
    split at hc
    · exact hb hc
    · rcases List.mem_append.1 hc with h1 | h1
      · rcases List.mem_append.1 h1 with h2 | h2
        · exact hb h2
        · simp at h2
          omega
      · exact dec_byte _ c h1
section
variable {L : World → Prop} [YQ Q L]
theorem cu125c (x : AV) (l : List AV) (H : AH) : Z3 Q (.func 125 [] [x]) l H = some (.enter 125 ([] ++ l ++ [x]), H) := by kernel_rfl
set_option maxHeartbeats 2000000 in
theorem name1_c : ∀ (k n : Nat),n ≤ k → n < 18446744073709551616 → ∀ (H : AH) (b : Nat),H.cellsAt b = some [.func 125 [] [.ptr b 0]] → Fn Q L 125 [.int .u64 (n : Int),.ptr b 0] H (fun w H' => w = .str (hx 16 n) ∧ H' = H) := by
  intro k
  induction k with
  | zero =>
    intro n hk hn H b hc
    obtain rfl : n = 0 := by omega
    refine Fn.intro (en125 _ _) ?_
    unfold c125 Tryz.f125
    simp only [Option.getD_some]
    have w1 : IntKind.u64.wrap (((0 : Nat) : Int) + 1) = ((0 + 1 : Nat) : Int) := rfl
    have hsl := d16_sl 0 (by omega)
    have q1 : decide (((0 : Nat) : Int) < 16) = true := rfl
    repeat (first|(apply Zh;exact rfl)|apply Zb|apply WO.nil|(apply WO.op;(focus (simp only [rQ,Zc,li,lo,reduceIte,Nat.reduceEqDiff,Nat.reduceAdd,beq_self_eq_true,q1];done));simp only [rE,rS,li,lo,reduceIte,Nat.reduceEqDiff,Nat.reduceAdd,Nat.reduceMul,XQ,ZF,q1];exact rfl;exact rfl)|(apply WO.unwanted;(focus (simp only [rQ,Zc,li,lo,reduceIte,Nat.reduceEqDiff,Nat.reduceAdd,beq_self_eq_true,q1];done));exact rfl))
    (first|(apply WF.condT;(focus (simp only [Zg,Zf,Zd,Zm,Bool.not_true,Bool.not_false,reduceIte,Nat.reduceEqDiff,q1];done)))|(apply WF.condF;(focus (simp only [Zg,Zf,Zd,Zm,Bool.not_true,Bool.not_false,reduceIte,Nat.reduceEqDiff,q1];done))))
    repeat (first|(apply Zh;exact rfl)|apply Zb|apply WO.nil|(apply Zk;exact rfl;simp only [rE,rS,li,lo,reduceIte,Nat.reduceEqDiff,Nat.reduceAdd,Nat.reduceMul,XQ,ZF,w1,hsl];exact rfl;exact rfl))
    (apply WF.ret; (focus (simp only [Zj, Zd, Zm, Zv, reduceIte, Nat.reduceEqDiff, rs125]; exact rfl)))
    exact ⟨rfl, rfl⟩
  | succ k ih =>
    intro n hk hn H b hc
    refine Fn.intro (en125 _ _) ?_
    unfold c125 Tryz.f125
    simp only [Option.getD_some]
    have hq : YP Q .quo 71 (.int .u64 (n : Int)) (.int .u64 16) = some (.int .u64 ((n / 16 : Nat) : Int)) := quo_u n 16 (by omega) hn
    have hr : YP Q .rem 71 (.int .u64 (n : Int)) (.int .u64 16) = some (.int .u64 ((n % 16 : Nat) : Int)) := rem_u n 16 (by omega)
    by_cases h10 : n < 16
    · have q1 : decide ((n : Int) < 16) = true := decide_eq_true (by omega)
      have w1 : IntKind.u64.wrap ((n : Int) + 1) = ((n + 1 : Nat) : Int) := wrap64n (by omega) (by omega)
      have hsl := d16_sl n h10
      repeat (first|(apply Zh;exact rfl)|apply Zb|apply WO.nil|(apply WO.op;(focus (simp only [rQ,Zc,li,lo,reduceIte,Nat.reduceEqDiff,Nat.reduceAdd,beq_self_eq_true,q1];done));simp only [rE,rS,li,lo,reduceIte,Nat.reduceEqDiff,Nat.reduceAdd,Nat.reduceMul,XQ,ZF,q1];exact rfl;exact rfl)|(apply WO.unwanted;(focus (simp only [rQ,Zc,li,lo,reduceIte,Nat.reduceEqDiff,Nat.reduceAdd,beq_self_eq_true,q1];done));exact rfl))
      (first|(apply WF.condT;(focus (simp only [Zg,Zf,Zd,Zm,Bool.not_true,Bool.not_false,reduceIte,Nat.reduceEqDiff,q1];done)))|(apply WF.condF;(focus (simp only [Zg,Zf,Zd,Zm,Bool.not_true,Bool.not_false,reduceIte,Nat.reduceEqDiff,q1];done))))
      repeat (first|(apply Zh;exact rfl)|apply Zb|apply WO.nil|(apply Zk;exact rfl;simp only [rE,rS,li,lo,reduceIte,Nat.reduceEqDiff,Nat.reduceAdd,Nat.reduceMul,XQ,ZF,w1,hsl];exact rfl;exact rfl))
      (apply WF.ret; (focus (simp only [Zj, Zd, Zm, Zv, reduceIte, Nat.reduceEqDiff, rs125]; exact rfl)))
      rw [Wf h10]
      exact ⟨rfl, rfl⟩
    · have q1 : decide ((n : Int) < 16) = false := decide_eq_false (by omega)
      have hl1 := Yf 16 (n / 16)
      have hl2 := Yf 16 (n % 16)
      have hadd := Yq (P := Q) 9 (a := hx 16 (n / 16)) (b := hx 16 (n % 16)) (by omega)
      repeat (first|(apply Zh;exact rfl)|apply Zb|apply WO.nil|(apply WO.op;(focus (simp only [rQ,Zc,li,lo,reduceIte,Nat.reduceEqDiff,Nat.reduceAdd,beq_self_eq_true,q1];done));simp only [rE,rS,li,lo,reduceIte,Nat.reduceEqDiff,Nat.reduceAdd,Nat.reduceMul,q1];exact rfl;exact rfl)|(apply WO.unwanted;(focus (simp only [rQ,Zc,li,lo,reduceIte,Nat.reduceEqDiff,Nat.reduceAdd,beq_self_eq_true,q1];done));exact rfl))
      (first|(apply WF.condT;(focus (simp only [Zg,Zf,Zd,Zm,Bool.not_true,Bool.not_false,reduceIte,Nat.reduceEqDiff,q1];done)))|(apply WF.condF;(focus (simp only [Zg,Zf,Zd,Zm,Bool.not_true,Bool.not_false,reduceIte,Nat.reduceEqDiff,q1];done))))
      repeat (first|(apply Zh;exact rfl)|apply Zb|apply WO.nil|(apply WO.op;(focus (simp only [rQ,Zc,li,lo,reduceIte,Nat.reduceEqDiff,Nat.reduceAdd,beq_self_eq_true,q1];done));simp only [rE,rS,li,lo,reduceIte,Nat.reduceEqDiff,Nat.reduceAdd,Nat.reduceMul,q1];exact rfl;exact rfl)|(apply WO.unwanted;(focus (simp only [rQ,Zc,li,lo,reduceIte,Nat.reduceEqDiff,Nat.reduceAdd,beq_self_eq_true,q1];done));exact rfl))
      (apply YB; kernel_rfl; kernel_rfl)
      (refine Zs ?_;(iterate 3 (first|(apply ZU.pure;kernel_rfl;kernel_rfl;(focus ((simp only [rQ,Zc,li,lo,reduceIte,Nat.reduceEqDiff,Nat.reduceAdd,beq_self_eq_true];done)));simp only [rE,rS,li,lo,reduceIte,Nat.reduceEqDiff,Nat.reduceAdd,Nat.reduceMul,Z2,ZS,hq,hr,Za agg248,hc];exact rfl;exact rfl)|(apply ZU.load;kernel_rfl;kernel_rfl;(focus ((simp only [rQ,Zc,li,lo,reduceIte,Nat.reduceEqDiff,Nat.reduceAdd,beq_self_eq_true];done)));simp only [rE,rS,li,lo,reduceIte,Nat.reduceEqDiff,Nat.reduceAdd,Nat.reduceMul,Z2,ZS,hq,hr,Za agg248,hc];exact rfl;exact rfl)));(iterate 1 (apply ZU.later;kernel_rfl));(iterate 3 (first|(apply ZU.pure;kernel_rfl;kernel_rfl;(focus ((simp only [rQ,Zc,li,lo,reduceIte,Nat.reduceEqDiff,Nat.reduceAdd,beq_self_eq_true];done)));simp only [rE,rS,li,lo,reduceIte,Nat.reduceEqDiff,Nat.reduceAdd,Nat.reduceMul,Z2,ZS,hq,hr,Za agg248,hc];exact rfl;exact rfl)|(apply ZU.load;kernel_rfl;kernel_rfl;(focus ((simp only [rQ,Zc,li,lo,reduceIte,Nat.reduceEqDiff,Nat.reduceAdd,beq_self_eq_true];done)));simp only [rE,rS,li,lo,reduceIte,Nat.reduceEqDiff,Nat.reduceAdd,Nat.reduceMul,Z2,ZS,hq,hr,Za agg248,hc];exact rfl;exact rfl)));(iterate 3 (apply ZU.later;kernel_rfl));refine ZU.nil ?_)
      (apply ZZ.call (e := 3);kernel_rfl;simp only [li];exact rfl;(focus (simp only [rQ,Zc,li,lo,reduceIte,Nat.reduceEqDiff,Nat.reduceAdd,beq_self_eq_true];done));simp only [rE,rS,li,lo,reduceIte,Nat.reduceEqDiff,Nat.reduceAdd,Nat.reduceMul,cu125c];exact rfl;exact ih (n / 16) (by omega) (by omega) _ b hc;rintro _ H' ⟨rfl,rfl⟩;refine ⟨_,rfl,?_,?_⟩;(focus (apply Xm (R := [4]);kernel_rfl;(apply Anew.cons;simp only [li];exact rfl;(focus (simp only [rQ,Zc,li,lo,reduceIte,Nat.reduceEqDiff,Nat.reduceAdd,beq_self_eq_true];done));simp only [rE,rS,li,lo,reduceIte,Nat.reduceEqDiff,Nat.reduceAdd,Nat.reduceMul,Za agg248,hc];exact rfl;exact rfl;(focus (simp only [Zd,Zm,reduceIte,Nat.reduceEqDiff,Za agg248,hc];exact rfl));(focus (simp [AV.beq,Xz,Za agg248,hc];done)));exact Anew.nil)))
      (refine Zs ?_; (iterate 10 (apply ZU.later; kernel_rfl)); refine ZU.nil ?_)
      (apply ZZ.call (e := 7);kernel_rfl;simp only [li];exact rfl;(focus (simp only [rQ,Zc,li,lo,reduceIte,Nat.reduceEqDiff,Nat.reduceAdd,beq_self_eq_true];done));simp only [rE,rS,li,lo,reduceIte,Nat.reduceEqDiff,Nat.reduceAdd,Nat.reduceMul,cu125c];exact rfl;exact ih (n % 16) (by omega) (by omega) _ b hc;rintro _ H' ⟨rfl,rfl⟩;refine ⟨_,rfl,?_,?_⟩;(focus exact Zx (by kernel_rfl)))
      (refine Zs ?_;(iterate 8 (apply ZU.later;kernel_rfl));(iterate 1 (apply ZU.pure;kernel_rfl;kernel_rfl;(focus ((simp only [rQ,Zc,li,lo,reduceIte,Nat.reduceEqDiff,Nat.reduceAdd,beq_self_eq_true];done)));simp only [rE,rS,li,lo,reduceIte,Nat.reduceEqDiff,Nat.reduceAdd,Nat.reduceMul,hadd];exact rfl;exact rfl));(iterate 1 (apply ZU.later;kernel_rfl));refine ZU.nil ?_)
      (apply ZZ.eff (e := 9);kernel_rfl;simp only [li];exact rfl;(focus (simp only [rQ,Zc,li,lo,reduceIte,Nat.reduceEqDiff,Nat.reduceAdd,beq_self_eq_true];done));simp only [rE,rS,li,lo,reduceIte,Nat.reduceEqDiff,Nat.reduceAdd,Nat.reduceMul];exact rfl;exact rfl;(focus exact Zx (by kernel_rfl)))
      (refine Zs ?_; (iterate 10 (apply ZU.later; kernel_rfl)); refine ZU.nil ?_)
      (apply ZZ.all; kernel_rfl; kernel_rfl)
      repeat (first|(apply Zh;exact rfl)|apply Zb|apply WO.nil|(apply WO.op;(focus (simp only [rQ,Zc,li,lo,reduceIte,Nat.reduceEqDiff,Nat.reduceAdd,beq_self_eq_true,q1];done));simp only [rE,rS,li,lo,reduceIte,Nat.reduceEqDiff,Nat.reduceAdd,Nat.reduceMul,q1];exact rfl;exact rfl)|(apply WO.unwanted;(focus (simp only [rQ,Zc,li,lo,reduceIte,Nat.reduceEqDiff,Nat.reduceAdd,beq_self_eq_true,q1];done));exact rfl))
      (apply WF.ret; (focus (simp only [Zj, Zd, Zm, Zv, reduceIte, Nat.reduceEqDiff, rs125]; exact rfl)))
      rw [hx_step (by omega) h10 hn, Wf (show n % 16 < 16 by omega)]
      exact ⟨rfl, rfl⟩
end
theorem zero248 : zeroU Q 248 = some .nilfunc := by kernel_rfl
theorem store248 {H : AH} {b : Nat} {v0 : AV} (hg : H.t.get b = some (.cells 248 [v0] 0 false false)) (f : Nat) (c : List AV) : Wn Q 248 b 0 (.func f [] c) H = some ⟨H.t.put b (some (.cells 248 [.func f [] c] 0 false false)),H.next⟩ := by
  unfold Wn
  rw [hg, sz248]
  simp [AV.cells, over, one_func, AH.set]
theorem bts43 : Xt ⟨#[43]⟩ = [43] := rfl
set_option maxHeartbeats 4000000 in
theorem name80_c (H : AH) (rv : AV) (l : List Xn) (a : Int) (hr : Xr H rv l) (hok' : ∀ z ∈ l,SymOk z) (h0 : -9223372036854775808 ≤ a) (h1 : a ≤ 9223372036854775807) (hlen : l.length < 9223372036854775808) :
    Fn Q YM 80 [rv, .int .i64 a] H (fun w H' => w = .str (nameR l a) ∧ H' = H) := by
  refine Y2 (en80 _ _) rfl ?_
  replace hr := hr.lock
  generalize lock H = H at hr
  unfold c80 Tryz.f80
  simp only [Option.getD_some]
  repeat (first|(apply Zh;exact rfl)|apply Zb|apply WO.nil|(apply Zk;exact rfl;simp only [rE,rS,li,lo,reduceIte,Nat.reduceEqDiff,Nat.reduceAdd,Nat.reduceMul,Zw];exact rfl;exact rfl))
  (apply WO.call;(focus (simp only [rQ,Zc,li,lo,reduceIte,Nat.reduceEqDiff,Nat.reduceAdd,beq_self_eq_true];done));simp only [rE,rS,li,lo,reduceIte,Nat.reduceEqDiff,Nat.reduceAdd,Nat.reduceMul,cu124];exact rfl;exact find124_c _ rv l a hr hok' h0 h1 hlen;rintro _ H ⟨rfl,rfl⟩;refine ⟨_,rfl,?_⟩)
  cases hsi : symI l a with
  | none =>
    have hfr : findR l a = (0, 0, false) := by unfold findR; rw [hsi]
    rw [hfr, nameR_none hsi]
    dsimp only
    have wv : IntKind.u64.wrap a = ((u64N a : Nat) : Int) := (Wt a).symm
    have hst := store248 (H := ⟨H.t.put H.next (some (.cells 248 [.nilfunc] 0 false false)), H.next + 1⟩) (b := H.next) get_one 125 [.ptr H.next 0]
    have hc : AH.cellsAt ⟨(H.t.put H.next (some (.cells 248 [.nilfunc] 0 false false))).put H.next (some (.cells 248 [.func 125 [] [.ptr H.next 0]] 0 false false)),H.next + 1⟩ H.next = some [.func 125 [] [.ptr H.next 0]] := by
      rw [Yu, if_pos rfl]
    have hadd := bin_addX (P := Q) 9 (hx 16 (u64N a)) (by have := Yf 16 (u64N a); omega)
    repeat (first|(apply Zh;exact rfl)|apply Zb|apply WO.nil|(apply Zk;exact rfl;simp only [rE,rS,li,lo,reduceIte,Nat.reduceEqDiff,Nat.reduceAdd,Nat.reduceMul,Zw];exact rfl;exact rfl))
    (first|(apply WF.condT;(focus (simp only [Zg,Zf,Zd,Zm,Bool.not_true,Bool.not_false,reduceIte,Nat.reduceEqDiff];done)))|(apply WF.condF;(focus (simp only [Zg,Zf,Zd,Zm,Bool.not_true,Bool.not_false,reduceIte,Nat.reduceEqDiff];done))))
    repeat (first|(apply Zh;exact rfl)|apply Zb|apply WO.nil|(apply Zk;exact rfl;simp only [rE,rQ,li,lo,reduceIte,Nat.reduceEqDiff,Nat.reduceAdd,Nat.reduceMul,AH.set,zero248,hst,Za agg248,hc,ZN,Yx,ZY,wv];exact rfl;exact rfl))
    (apply WO.call;(focus (simp only [rQ,Zc,li,lo,reduceIte,Nat.reduceEqDiff,Nat.reduceAdd,beq_self_eq_true];done));simp only [rE,rS,li,lo,reduceIte,Nat.reduceEqDiff,Nat.reduceAdd,Nat.reduceMul,zero248,Za agg248,hc,ZN,Yx,ZY,wv,cu125c];exact rfl;exact name1_c (u64N a) (u64N a) (Nat.le_refl _) (u64N_lt a) _ H.next hc;rintro _ _ ⟨rfl,rfl⟩;refine ⟨_,rfl,?_⟩)
    repeat (first|(apply Zh;exact rfl)|apply Zb|apply WO.nil|(apply Zk;exact rfl;simp only [rE,rS,li,lo,reduceIte,Nat.reduceEqDiff,Nat.reduceAdd,Nat.reduceMul,hadd];exact rfl;exact rfl))
    (apply WF.ret; (focus (simp only [Zj, Zd, Zm, Zv, reduceIte, Nat.reduceEqDiff, rs80]; exact rfl)))
    rfl
  | some i =>
    obtain ⟨hi, hcv⟩ := symI_at hsi
    have hz := hok' _ (List.getElem_mem hi)
    rw [findR_at hsi hi, nameR_some hsi hi]
    dsimp only
    obtain ⟨b, off, cap, c, rfl, hbb, hc, hcut, hnm, hpos⟩ := hr.at (List.getElem?_eq_getElem hi)
    generalize l[i] = z at *
    unfold covB at hcv
    simp only [Bool.and_eq_true, decide_eq_true_eq] at hcv
    have g1 := hz.plo
    have g2 := hz.phi
    have g3 := hz.shi
    have g4 := hz.len
    repeat (first|(apply Zh;exact rfl)|apply Zb|apply WO.nil|(apply Zk;exact rfl;simp only [rE,rS,li,lo,reduceIte,Nat.reduceEqDiff,Nat.reduceAdd,Nat.reduceMul,Zw];exact rfl;exact rfl))
    (first|(apply WF.condT;(focus (simp only [Zg,Zf,Zd,Zm,Bool.not_true,Bool.not_false,reduceIte,Nat.reduceEqDiff];done)))|(apply WF.condF;(focus (simp only [Zg,Zf,Zd,Zm,Bool.not_true,Bool.not_false,reduceIte,Nat.reduceEqDiff];done))))
    cases q1 : decide (a - z.pos = 0)
    · have hne := of_decide_eq_false q1
      rw [if_neg hne]
      have hdl := dec_len (a - z.pos)
      have hadd1 := Yq (P := Q) 9 (a := z.name) (b := [43]) (by simp; omega)
      have hadd2 := Yq (P := Q) 9 (a := z.name ++ [43]) (b := dec (a - z.pos)) (by simp; omega)
      repeat (first|(apply Zh;exact rfl)|apply Zb|apply WO.nil|(apply WO.op;(focus (simp only [rQ,Zc,li,lo,reduceIte,Nat.reduceEqDiff,Nat.reduceAdd,beq_self_eq_true,q1];done));simp only [rE,rS,li,lo,reduceIte,Nat.reduceEqDiff,Nat.reduceAdd,Nat.reduceMul,q1];exact rfl;exact rfl)|(apply WO.unwanted;(focus (simp only [rQ,Zc,li,lo,reduceIte,Nat.reduceEqDiff,Nat.reduceAdd,beq_self_eq_true,q1];done));exact rfl))
      (first|(apply WF.condT;(focus (simp only [Zg,Zf,Zd,Zm,Bool.not_true,Bool.not_false,reduceIte,Nat.reduceEqDiff,q1];done)))|(apply WF.condF;(focus (simp only [Zg,Zf,Zd,Zm,Bool.not_true,Bool.not_false,reduceIte,Nat.reduceEqDiff,q1];done))))
      repeat (first|(apply Zh;exact rfl)|apply Zb|apply WO.nil|(apply WO.op;(focus (simp only [rQ,Zc,li,lo,reduceIte,Nat.reduceEqDiff,Nat.reduceAdd,beq_self_eq_true,q1];done));simp only [rE,rS,li,lo,reduceIte,Nat.reduceEqDiff,Nat.reduceAdd,Nat.reduceMul,q1];exact rfl;exact rfl)|(apply WO.unwanted;(focus (simp only [rQ,Zc,li,lo,reduceIte,Nat.reduceEqDiff,Nat.reduceAdd,beq_self_eq_true,q1];done));exact rfl))
      (apply YB; kernel_rfl; kernel_rfl)
      (refine Zs ?_;(iterate 7 (first|(apply ZU.pure;kernel_rfl;kernel_rfl;(focus ((simp only [rQ,Zc,li,lo,reduceIte,Nat.reduceEqDiff,Nat.reduceAdd,beq_self_eq_true];done)));simp only [rE,rS,li,lo,reduceIte,Nat.reduceEqDiff,Nat.reduceAdd,Nat.reduceMul,ZL,XP,Za ZA,ZH ZL Ym hi,hc,hnm,bts43,hadd1];exact rfl;exact rfl)|(apply ZU.load;kernel_rfl;kernel_rfl;(focus ((simp only [rQ,Zc,li,lo,reduceIte,Nat.reduceEqDiff,Nat.reduceAdd,beq_self_eq_true];done)));simp only [rE,rS,li,lo,reduceIte,Nat.reduceEqDiff,Nat.reduceAdd,Nat.reduceMul,ZL,XP,Za ZA,ZH ZL Ym hi,hc,hnm,bts43,hadd1];exact rfl;exact rfl)));(iterate 3 (apply ZU.later;kernel_rfl));refine ZU.nil ?_)
      (apply ZZ.call (e := 7);kernel_rfl;simp only [li];exact rfl;(focus (simp only [rQ,Zc,li,lo,reduceIte,Nat.reduceEqDiff,Nat.reduceAdd,beq_self_eq_true];done));simp only [rE,rS,li,lo,reduceIte,Nat.reduceEqDiff,Nat.reduceAdd,Nat.reduceMul,ZL,XP,Za ZA,cu113];exact rfl;exact fmtI10 _ (a - z.pos) (by omega) (by omega);rintro _ H' ⟨rfl,rfl⟩;refine ⟨_,rfl,?_,?_⟩;(focus (apply Xm (R := [4]);kernel_rfl;(apply Anew.cons;simp only [li];exact rfl;(focus (simp only [rQ,Zc,li,lo,reduceIte,Nat.reduceEqDiff,Nat.reduceAdd,beq_self_eq_true];done));simp only [rE,rS,li,lo,reduceIte,Nat.reduceEqDiff,Nat.reduceAdd,Nat.reduceMul,ZL,XP,Za ZA,ZH ZL Ym hi,hc,hnm];exact rfl;exact rfl;(focus (simp only [Zd,Zm,reduceIte,Nat.reduceEqDiff,ZL,XP,Za ZA,ZH ZL Ym hi,hc,hnm];exact rfl));(focus (simp [AV.beq,Xz,ZL,XP,Za ZA,ZH ZL Ym hi,hc,hnm];done)));exact Anew.nil)))
      (refine Zs ?_;(iterate 8 (apply ZU.later;kernel_rfl));(iterate 1 (apply ZU.pure;kernel_rfl;kernel_rfl;(focus ((simp only [rQ,Zc,li,lo,reduceIte,Nat.reduceEqDiff,Nat.reduceAdd,beq_self_eq_true];done)));simp only [rE,rS,li,lo,reduceIte,Nat.reduceEqDiff,Nat.reduceAdd,Nat.reduceMul,hadd2];exact rfl;exact rfl));(iterate 1 (apply ZU.later;kernel_rfl));refine ZU.nil ?_)
      (apply ZZ.eff (e := 9);kernel_rfl;simp only [li];exact rfl;(focus (simp only [rQ,Zc,li,lo,reduceIte,Nat.reduceEqDiff,Nat.reduceAdd,beq_self_eq_true];done));simp only [rE,rS,li,lo,reduceIte,Nat.reduceEqDiff,Nat.reduceAdd,Nat.reduceMul];exact rfl;exact rfl;(focus exact Zx (by kernel_rfl)))
      (refine Zs ?_; (iterate 10 (apply ZU.later; kernel_rfl)); refine ZU.nil ?_)
      (apply ZZ.all; kernel_rfl; kernel_rfl)
      repeat (first|(apply Zh;exact rfl)|apply Zb|apply WO.nil|(apply WO.op;(focus (simp only [rQ,Zc,li,lo,reduceIte,Nat.reduceEqDiff,Nat.reduceAdd,beq_self_eq_true,q1];done));simp only [rE,rS,li,lo,reduceIte,Nat.reduceEqDiff,Nat.reduceAdd,Nat.reduceMul,q1];exact rfl;exact rfl)|(apply WO.unwanted;(focus (simp only [rQ,Zc,li,lo,reduceIte,Nat.reduceEqDiff,Nat.reduceAdd,beq_self_eq_true,q1];done));exact rfl))
      (apply WF.ret; (focus (simp only [Zj, Zd, Zm, Zv, reduceIte, Nat.reduceEqDiff, rs80]; exact rfl)))
      rfl
    · have he := of_decide_eq_true q1
      rw [if_pos he]
      repeat (first|(apply Zh;exact rfl)|apply Zb|apply WO.nil|(apply WO.op;(focus (simp only [rQ,Zc,li,lo,reduceIte,Nat.reduceEqDiff,Nat.reduceAdd,beq_self_eq_true,q1];done));simp only [rE,rS,li,lo,reduceIte,Nat.reduceEqDiff,Nat.reduceAdd,Nat.reduceMul,q1];exact rfl;exact rfl)|(apply WO.unwanted;(focus (simp only [rQ,Zc,li,lo,reduceIte,Nat.reduceEqDiff,Nat.reduceAdd,beq_self_eq_true,q1];done));exact rfl))
      (first|(apply WF.condT;(focus (simp only [Zg,Zf,Zd,Zm,Bool.not_true,Bool.not_false,reduceIte,Nat.reduceEqDiff,q1];done)))|(apply WF.condF;(focus (simp only [Zg,Zf,Zd,Zm,Bool.not_true,Bool.not_false,reduceIte,Nat.reduceEqDiff,q1];done))))
      repeat (first|(apply Zh;exact rfl)|apply Zb|apply WO.nil|(apply Zk;exact rfl;simp only [rE,rS,li,lo,reduceIte,Nat.reduceEqDiff,Nat.reduceAdd,Nat.reduceMul,ZL,XP,Za ZA,ZH ZL Ym hi,hc,hnm];exact rfl;exact rfl))
      (apply WF.ret; (focus (simp only [Zj, Zd, Zm, Zv, reduceIte, Nat.reduceEqDiff, rs80]; exact rfl)))
      rfl
set_option maxHeartbeats 4000000 in
theorem name85_c {L : World → Prop} [YQ Q L] (H : AH) (rv : AV) (l : List Xn) (a : Int) (hr : Xr H rv l) (hok' : ∀ z ∈ l,SymOk z) (h0 : -9223372036854775808 ≤ a) (h1 : a ≤ 9223372036854775807) (hlen : l.length < 9223372036854775808) :
    Fn Q L 85 [rv, .int .i64 a] H (fun w H' => w = .str (nameR l a) ∧ H' = H) := by
  refine Y2 (en85 _ _) rfl ?_
  replace hr := hr.lock
  generalize lock H = H at hr
  unfold c85 Tryz.f85
  simp only [Option.getD_some]
  repeat (first|(apply Zh;exact rfl)|apply Zb|apply WO.nil|(apply Zk;exact rfl;simp only [rE,rS,li,lo,reduceIte,Nat.reduceEqDiff,Nat.reduceAdd,Nat.reduceMul,Zw];exact rfl;exact rfl))
  (apply WO.call;(focus (simp only [rQ,Zc,li,lo,reduceIte,Nat.reduceEqDiff,Nat.reduceAdd,beq_self_eq_true];done));simp only [rE,rS,li,lo,reduceIte,Nat.reduceEqDiff,Nat.reduceAdd,Nat.reduceMul,cu129];exact rfl;exact find129_c _ rv l a hr hok' h0 h1 hlen;rintro _ H ⟨rfl,rfl⟩;refine ⟨_,rfl,?_⟩)
  cases hsi : symI l a with
  | none =>
    have hfr : findR l a = (0, 0, false) := by unfold findR; rw [hsi]
    rw [hfr, nameR_none hsi]
    dsimp only
    have wv : IntKind.u64.wrap a = ((u64N a : Nat) : Int) := (Wt a).symm
    have hadd := bin_addX (P := Q) 9 (hx 16 (u64N a)) (by have := Yf 16 (u64N a); omega)
    repeat (first|(apply Zh;exact rfl)|apply Zb|apply WO.nil|(apply Zk;exact rfl;simp only [rE,rS,li,lo,reduceIte,Nat.reduceEqDiff,Nat.reduceAdd,Nat.reduceMul,Zw];exact rfl;exact rfl))
    (first|(apply WF.condT;(focus (simp only [Zg,Zf,Zd,Zm,Bool.not_true,Bool.not_false,reduceIte,Nat.reduceEqDiff];done)))|(apply WF.condF;(focus (simp only [Zg,Zf,Zd,Zm,Bool.not_true,Bool.not_false,reduceIte,Nat.reduceEqDiff];done))))
    repeat (first|(apply Zh;exact rfl)|apply Zb|apply WO.nil|(apply Zk;exact rfl;simp only [rE,rS,li,lo,reduceIte,Nat.reduceEqDiff,Nat.reduceAdd,Nat.reduceMul,ZN,Yx,ZY,wv];exact rfl;exact rfl))
    (apply WO.call;(focus (simp only [rQ,Zc,li,lo,reduceIte,Nat.reduceEqDiff,Nat.reduceAdd,beq_self_eq_true];done));simp only [rE,rS,li,lo,reduceIte,Nat.reduceEqDiff,Nat.reduceAdd,Nat.reduceMul,ZN,Yx,ZY,wv,cu130];exact rfl;exact hex1_c (u64N a) (u64N a) (Nat.le_refl _) (u64N_lt a) _;rintro _ _ ⟨rfl,rfl⟩;refine ⟨_,rfl,?_⟩)
    repeat (first|(apply Zh;exact rfl)|apply Zb|apply WO.nil|(apply Zk;exact rfl;simp only [rE,rS,li,lo,reduceIte,Nat.reduceEqDiff,Nat.reduceAdd,Nat.reduceMul,hadd];exact rfl;exact rfl))
    (apply WF.ret; (focus (simp only [Zj, Zd, Zm, Zv, reduceIte, Nat.reduceEqDiff, rs85]; exact rfl)))
    rfl
  | some i =>
    obtain ⟨hi, hcv⟩ := symI_at hsi
    have hz := hok' _ (List.getElem_mem hi)
    rw [findR_at hsi hi, nameR_some hsi hi]
    dsimp only
    obtain ⟨b, off, cap, c, rfl, hbb, hc, hcut, hnm, hpos⟩ := hr.at (List.getElem?_eq_getElem hi)
    generalize l[i] = z at *
    unfold covB at hcv
    simp only [Bool.and_eq_true, decide_eq_true_eq] at hcv
    have g1 := hz.plo
    have g2 := hz.phi
    have g3 := hz.shi
    have g4 := hz.len
    repeat (first|(apply Zh;exact rfl)|apply Zb|apply WO.nil|(apply Zk;exact rfl;simp only [rE,rS,li,lo,reduceIte,Nat.reduceEqDiff,Nat.reduceAdd,Nat.reduceMul,Zw];exact rfl;exact rfl))
    (first|(apply WF.condT;(focus (simp only [Zg,Zf,Zd,Zm,Bool.not_true,Bool.not_false,reduceIte,Nat.reduceEqDiff];done)))|(apply WF.condF;(focus (simp only [Zg,Zf,Zd,Zm,Bool.not_true,Bool.not_false,reduceIte,Nat.reduceEqDiff];done))))
    cases q1 : decide (a - z.pos = 0)
    · have hne := of_decide_eq_false q1
      rw [if_neg hne]
      have hdd : dec (a - z.pos) = hx 10 (a - z.pos).toNat := by
        unfold dec
        rw [if_neg (by omega), show (a - z.pos).natAbs = (a - z.pos).toNat from by omega]
      rw [hdd]
      have hdl := Yf 10 (a - z.pos).toNat
      have wv : IntKind.u64.wrap (a - z.pos) = (((a - z.pos).toNat : Nat) : Int) := by
        rw [wsz (by omega) (by omega)]
        omega
      have hadd1 := Yq (P := Q) 9 (a := z.name) (b := [43]) (by simp; omega)
      have hadd2 := Yq (P := Q) 9 (a := z.name ++ [43]) (b := hx 10 (a - z.pos).toNat) (by simp; omega)
      repeat (first|(apply Zh;exact rfl)|apply Zb|apply WO.nil|(apply WO.op;(focus (simp only [rQ,Zc,li,lo,reduceIte,Nat.reduceEqDiff,Nat.reduceAdd,beq_self_eq_true,q1];done));simp only [rE,rS,li,lo,reduceIte,Nat.reduceEqDiff,Nat.reduceAdd,Nat.reduceMul,q1];exact rfl;exact rfl)|(apply WO.unwanted;(focus (simp only [rQ,Zc,li,lo,reduceIte,Nat.reduceEqDiff,Nat.reduceAdd,beq_self_eq_true,q1];done));exact rfl))
      (first|(apply WF.condT;(focus (simp only [Zg,Zf,Zd,Zm,Bool.not_true,Bool.not_false,reduceIte,Nat.reduceEqDiff,q1];done)))|(apply WF.condF;(focus (simp only [Zg,Zf,Zd,Zm,Bool.not_true,Bool.not_false,reduceIte,Nat.reduceEqDiff,q1];done))))
      repeat (first|(apply Zh;exact rfl)|apply Zb|apply WO.nil|(apply WO.op;(focus (simp only [rQ,Zc,li,lo,reduceIte,Nat.reduceEqDiff,Nat.reduceAdd,beq_self_eq_true,q1];done));simp only [rE,rS,li,lo,reduceIte,Nat.reduceEqDiff,Nat.reduceAdd,Nat.reduceMul,q1];exact rfl;exact rfl)|(apply WO.unwanted;(focus (simp only [rQ,Zc,li,lo,reduceIte,Nat.reduceEqDiff,Nat.reduceAdd,beq_self_eq_true,q1];done));exact rfl))
      (apply YB; kernel_rfl; kernel_rfl)
      (refine Zs ?_;(iterate 8 (first|(apply ZU.pure;kernel_rfl;kernel_rfl;(focus ((simp only [rQ,Zc,li,lo,reduceIte,Nat.reduceEqDiff,Nat.reduceAdd,beq_self_eq_true];done)));simp only [rE,rS,li,lo,reduceIte,Nat.reduceEqDiff,Nat.reduceAdd,Nat.reduceMul,ZL,XP,Za ZA,ZH ZL Ym hi,hc,hnm,bts43,hadd1,ZN,Yx,ZY,wv];exact rfl;exact rfl)|(apply ZU.load;kernel_rfl;kernel_rfl;(focus ((simp only [rQ,Zc,li,lo,reduceIte,Nat.reduceEqDiff,Nat.reduceAdd,beq_self_eq_true];done)));simp only [rE,rS,li,lo,reduceIte,Nat.reduceEqDiff,Nat.reduceAdd,Nat.reduceMul,ZL,XP,Za ZA,ZH ZL Ym hi,hc,hnm,bts43,hadd1,ZN,Yx,ZY,wv];exact rfl;exact rfl)));(iterate 3 (apply ZU.later;kernel_rfl));refine ZU.nil ?_)
      (apply ZZ.call (e := 8);kernel_rfl;simp only [li];exact rfl;(focus (simp only [rQ,Zc,li,lo,reduceIte,Nat.reduceEqDiff,Nat.reduceAdd,beq_self_eq_true];done));simp only [rE,rS,li,lo,reduceIte,Nat.reduceEqDiff,Nat.reduceAdd,Nat.reduceMul,ZL,XP,Za ZA,cu131];exact rfl;exact digits1_c (a - z.pos).toNat (a - z.pos).toNat (Nat.le_refl _) (by omega) _;rintro _ H' ⟨rfl,rfl⟩;refine ⟨_,rfl,?_,?_⟩;(focus (apply Xm (R := [4]);kernel_rfl;(apply Anew.cons;simp only [li];exact rfl;(focus (simp only [rQ,Zc,li,lo,reduceIte,Nat.reduceEqDiff,Nat.reduceAdd,beq_self_eq_true];done));simp only [rE,rS,li,lo,reduceIte,Nat.reduceEqDiff,Nat.reduceAdd,Nat.reduceMul,ZL,XP,Za ZA,ZH ZL Ym hi,hc,hnm];exact rfl;exact rfl;(focus (simp only [Zd,Zm,reduceIte,Nat.reduceEqDiff,ZL,XP,Za ZA,ZH ZL Ym hi,hc,hnm];exact rfl));(focus (simp [AV.beq,Xz,ZL,XP,Za ZA,ZH ZL Ym hi,hc,hnm];done)));exact Anew.nil)))
      (refine Zs ?_;(iterate 9 (apply ZU.later;kernel_rfl));(iterate 1 (apply ZU.pure;kernel_rfl;kernel_rfl;(focus ((simp only [rQ,Zc,li,lo,reduceIte,Nat.reduceEqDiff,Nat.reduceAdd,beq_self_eq_true];done)));simp only [rE,rS,li,lo,reduceIte,Nat.reduceEqDiff,Nat.reduceAdd,Nat.reduceMul,hadd2];exact rfl;exact rfl));(iterate 1 (apply ZU.later;kernel_rfl));refine ZU.nil ?_)
      (apply ZZ.eff (e := 10);kernel_rfl;simp only [li];exact rfl;(focus (simp only [rQ,Zc,li,lo,reduceIte,Nat.reduceEqDiff,Nat.reduceAdd,beq_self_eq_true];done));simp only [rE,rS,li,lo,reduceIte,Nat.reduceEqDiff,Nat.reduceAdd,Nat.reduceMul];exact rfl;exact rfl;(focus exact Zx (by kernel_rfl)))
      (refine Zs ?_; (iterate 11 (apply ZU.later; kernel_rfl)); refine ZU.nil ?_)
      (apply ZZ.all; kernel_rfl; kernel_rfl)
      repeat (first|(apply Zh;exact rfl)|apply Zb|apply WO.nil|(apply WO.op;(focus (simp only [rQ,Zc,li,lo,reduceIte,Nat.reduceEqDiff,Nat.reduceAdd,beq_self_eq_true,q1];done));simp only [rE,rS,li,lo,reduceIte,Nat.reduceEqDiff,Nat.reduceAdd,Nat.reduceMul,q1];exact rfl;exact rfl)|(apply WO.unwanted;(focus (simp only [rQ,Zc,li,lo,reduceIte,Nat.reduceEqDiff,Nat.reduceAdd,beq_self_eq_true,q1];done));exact rfl))
      (apply WF.ret; (focus (simp only [Zj, Zd, Zm, Zv, reduceIte, Nat.reduceEqDiff, rs85]; exact rfl)))
      rfl
    · have he := of_decide_eq_true q1
      rw [if_pos he]
      repeat (first|(apply Zh;exact rfl)|apply Zb|apply WO.nil|(apply WO.op;(focus (simp only [rQ,Zc,li,lo,reduceIte,Nat.reduceEqDiff,Nat.reduceAdd,beq_self_eq_true,q1];done));simp only [rE,rS,li,lo,reduceIte,Nat.reduceEqDiff,Nat.reduceAdd,Nat.reduceMul,q1];exact rfl;exact rfl)|(apply WO.unwanted;(focus (simp only [rQ,Zc,li,lo,reduceIte,Nat.reduceEqDiff,Nat.reduceAdd,beq_self_eq_true,q1];done));exact rfl))
      (first|(apply WF.condT;(focus (simp only [Zg,Zf,Zd,Zm,Bool.not_true,Bool.not_false,reduceIte,Nat.reduceEqDiff,q1];done)))|(apply WF.condF;(focus (simp only [Zg,Zf,Zd,Zm,Bool.not_true,Bool.not_false,reduceIte,Nat.reduceEqDiff,q1];done))))
      repeat (first|(apply Zh;exact rfl)|apply Zb|apply WO.nil|(apply Zk;exact rfl;simp only [rE,rS,li,lo,reduceIte,Nat.reduceEqDiff,Nat.reduceAdd,Nat.reduceMul,ZL,XP,Za ZA,ZH ZL Ym hi,hc,hnm];exact rfl;exact rfl))
      (apply WF.ret; (focus (simp only [Zj, Zd, Zm, Zv, reduceIte, Nat.reduceEqDiff, rs85]; exact rfl)))
      rfl
end Go.Ev.C
end
section
set_option linter.unusedVariables false
set_option linter.unusedSimpArgs false
set_option linter.defProp false
set_option linter.all false
namespace Go.Ev.C
open Go.Proofs Go.Fmt Go.RowKit
set_option maxRecDepth 100000
set_option linter.unusedSimpArgs false
/-- Addresses in memory. -/
def Wl (H : AH) (v : AV) (l : List Int) : Prop := SL v l.length ∧ ∀ b off n cap,v = .slice b off n cap → l ≠ [] → ∃ c,b < H.next ∧ H.cellsAt b = some c ∧ ∀ (i : Nat) (z : Int),l[i]? = some z → c[off + i * 1]? = some (.int .i64 z)
theorem Wl.up {H H' : AH} (u : Up H H') {v : AV} {l : List Int} (h : Wl H v l) : Wl H' v l :=
  ⟨h.1, fun b off n cap e hn => by
    obtain ⟨c, hb, hc, hr⟩ := h.2 b off n cap e hn
    exact ⟨c, Nat.lt_of_lt_of_le hb u.next, by rw [u.cellsAt hb]; exact hc, hr⟩⟩
theorem Wl.at {H : AH} {v : AV} {l : List Int} (h : Wl H v l) {i : Nat} {z : Int} (hz : l[i]? = some z) : ∃ b off cap c,v = .slice b off l.length cap ∧ H.cellsAt b = some c ∧ c[off + i * 1]? = some (.int .i64 z) := by
  obtain ⟨h1, h2⟩ := h
  have hi := (List.getElem?_eq_some_iff.1 hz).1
  generalize hn : l.length = n at h1
  cases h1 with
  | nil => omega
  | sl b off n cap =>
    obtain ⟨c, _, hc, hr⟩ := h2 b off _ cap rfl (by intro e; subst e; simp at hi)
    exact ⟨b, off, cap, c, rfl, hc, hr i z hz⟩
def lineR (syms : List Xn) (a : Int) : List Nat := ([32, 32] ++ nameR syms a) ++ [10]
/-- The text of a stack. -/
def Xp (syms : List Xn) : List Int → List Nat
  | [] => []
  | a :: l => if a = 0 then [] else lineR syms a ++ Xp syms l
theorem line_len {syms : List Xn} (hok : ∀ z ∈ syms, SymOk z) (a : Int) : (lineR syms a).length ≤ 2000103 := by
  have := nameR_len hok a
  unfold lineR
  simp
  omega
theorem line_byte {syms : List Xn} (hok : ∀ z ∈ syms, SymOk z) (a : Int) : ∀ c ∈ lineR syms a, c < 256 := by
  intro c hc
  have := nameR_byte hok a c
  unfold lineR at hc
  simp at hc
  rcases hc with h | h | h
  · omega
  · exact this h
  · omega
theorem stack_zero {syms : List Xn} {l : List Int} {i : Nat} (hi : i < l.length) (h : l[i] = 0) : Xp syms (l.drop i) = [] := by
  rw [List.drop_eq_getElem_cons hi, Xp, if_pos h]
theorem stack_next {syms : List Xn} {l : List Int} {i : Nat} (hi : i < l.length) (h : l[i] ≠ 0) : Xp syms (l.drop i) = lineR syms l[i] ++ Xp syms (l.drop (i + 1)) := by
  rw [List.drop_eq_getElem_cons hi, Xp, if_neg h]
theorem stack_end {syms : List Xn} (l : List Int) : Xp syms (l.drop l.length) = [] := by
  rw [List.drop_length, Xp]
theorem YK : Xt ⟨#[32, 32]⟩ = [32, 32] := rfl
theorem Xd : Xt ⟨#[10]⟩ = [10] := rfl
set_option maxHeartbeats 4000000 in
theorem frames_c (H : AH) (sv av : AV) (syms : List Xn) (l : List Int) (hs : Xr H sv syms) (hi : Wl H av l) (hok : ∀ z ∈ syms,SymOk z) (hr : ∀ a ∈ l,-9223372036854775808 ≤ a ∧ a ≤ 9223372036854775807) (hsl : syms.length < 9223372036854775808) (hl16 : l.length ≤ 16) :
    Fn Q YM 40 [sv, av] H (fun w H' => w = .str (Xp syms l) ∧ Up H H') := by
  refine Fn.intro (en40 _ _) ?_
  have his := hi.1
  unfold c40 Tryz.f40
  simp only [Option.getD_some]
  repeat (first|(apply Zh;exact rfl)|apply Zb|apply WO.nil|(apply Zk;exact rfl;simp only [rE,rS,li,lo,reduceIte,Nat.reduceEqDiff,Nat.reduceAdd,Nat.reduceMul,Zw,ZX,ZP ZX his];exact rfl;exact rfl))
  refine YL (fun m t H' => ∃ (i : Nat) (s : List Nat),Up H H' ∧ i + m = l.length ∧ Xp syms l = s ++ Xp syms (l.drop i) ∧ s.length ≤ 3000000 * i ∧ BufAt H H' H.next s ∧ t.get 0 = some sv ∧ t.get 5 = some (.ptr H.next 0) ∧ t.get 8 = some av ∧ t.get 9 = some (.int .i64 (l.length : Int)) ∧ t.get 10 = some (.int .i64 (i : Int))) l.length ?_ ?_
  · refine ⟨0, [], Up.box _ _, by omega, by simp, by simp, ?_, ?_, ?_, ?_, ?_, ?_⟩
    · refine ⟨Nat.le_refl _, Nat.lt_succ_self _, by simp, .nilptr, .nilslice, ?_, .inl rfl, .inl ⟨rfl, rfl⟩, by simp [AV.blk]⟩
      simp [Zd]
    all_goals simp [Zd, Zm]
  rintro m t H' ⟨i, s, hu, him, hst, hsn, hbuf, ht0, ht5, ht8, ht9, ht10⟩ ih
  by_cases hil : i < l.length
  rotate_left
  · obtain rfl : i = l.length := by omega
    have hlt : decide ((l.length : Int) < (l.length : Int)) = false := by simp
    repeat (first|(apply Zh;exact rfl)|apply Zb|apply WO.nil|(apply WO.op;(focus (simp only [rQ,Zc,li,lo,reduceIte,Nat.reduceEqDiff,Nat.reduceAdd,beq_self_eq_true,hlt];done));simp only [rE,rS,li,lo,reduceIte,Nat.reduceEqDiff,Nat.reduceAdd,Nat.reduceMul,ZX,ZP ZX his,Za Zt,ht0,ht5,ht8,ht9,ht10,YK,Xd,cu80,hlt];exact rfl;exact rfl)|(apply WO.unwanted;(focus (simp only [rQ,Zc,li,lo,reduceIte,Nat.reduceEqDiff,Nat.reduceAdd,beq_self_eq_true,hlt];done));exact rfl))
    (first|(apply WF.condT;(focus (simp only [Zg,Zf,Zd,Zm,Bool.not_true,Bool.not_false,reduceIte,Nat.reduceEqDiff,hlt];done)))|(apply WF.condF;(focus (simp only [Zg,Zf,Zd,Zm,Bool.not_true,Bool.not_false,reduceIte,Nat.reduceEqDiff,hlt];done))))
    repeat (first|(apply Zh;exact rfl)|apply Zb|apply WO.nil|(apply WO.op;(focus (simp only [rQ,Zc,li,lo,reduceIte,Nat.reduceEqDiff,Nat.reduceAdd,beq_self_eq_true,hlt];done));simp only [rE,rS,li,lo,reduceIte,Nat.reduceEqDiff,Nat.reduceAdd,Nat.reduceMul,ZX,ZP ZX his,Za Zt,ht0,ht5,ht8,ht9,ht10,YK,Xd,cu80,hlt];exact rfl;exact rfl)|(apply WO.unwanted;(focus (simp only [rQ,Zc,li,lo,reduceIte,Nat.reduceEqDiff,Nat.reduceAdd,beq_self_eq_true,hlt];done));exact rfl))
    (apply WO.call;(focus (simp only [rQ,Zc,li,lo,reduceIte,Nat.reduceEqDiff,Nat.reduceAdd,beq_self_eq_true];done));simp only [rE,rS,li,lo,reduceIte,Nat.reduceEqDiff,Nat.reduceAdd,Nat.reduceMul,ZX,ZP ZX his,Za Zt,ht0,ht5,ht8,ht9,ht10,YK,Xd,cu80];exact rfl;exact string_c H _ H.next s hu hbuf (by omega);rintro _ H2 ⟨rfl,hu2⟩;refine ⟨_,rfl,?_⟩)
    repeat (first|(apply Zh;exact rfl)|apply Zb|apply WO.nil|(apply Zk;exact rfl;simp only [rE,rS,li,lo,reduceIte,Nat.reduceEqDiff,Nat.reduceAdd,Nat.reduceMul,ZX,ZP ZX his,Za Zt,ht0,ht5,ht8,ht9,ht10,YK,Xd,cu80];exact rfl;exact rfl))
    (apply WF.ret; (focus (simp only [Zj, Zd, Zm, Zv, reduceIte, Nat.reduceEqDiff, rs40]; exact rfl)))
    refine ⟨?_, hu2⟩
    rw [hst, stack_end, List.append_nil]
  have hlt : decide ((i : Int) < (l.length : Int)) = true := by simp; omega
  have wi : IntKind.i64.wrap ((i : Int) + 1) = ((i + 1 : Nat) : Int) := by rw [Go.Ev.w64 (by omega) (by omega)]; omega
  obtain ⟨b, off, cap, c, rfl, hc, hcell⟩ := (hi.up hu).at (List.getElem?_eq_getElem hil)
  have hra := hr _ (List.getElem_mem hil)
  have hz0 : l[i] = 0 → Xp syms (l.drop i) = [] := stack_zero hil
  have hz1 : l[i] ≠ 0 → Xp syms (l.drop i) = lineR syms l[i] ++ Xp syms (l.drop (i + 1)) := stack_next hil
  generalize l[i] = a at *
  repeat (first|(apply Zh;exact rfl)|apply Zb|apply WO.nil|(apply WO.op;(focus (simp only [rQ,Zc,li,lo,reduceIte,Nat.reduceEqDiff,Nat.reduceAdd,beq_self_eq_true,hlt];done));simp only [rE,rS,li,lo,reduceIte,Nat.reduceEqDiff,Nat.reduceAdd,Nat.reduceMul,ZX,ZP ZX his,Za Zt,ht0,ht5,ht8,ht9,ht10,YK,Xd,cu80,hlt];exact rfl;exact rfl)|(apply WO.unwanted;(focus (simp only [rQ,Zc,li,lo,reduceIte,Nat.reduceEqDiff,Nat.reduceAdd,beq_self_eq_true,hlt];done));exact rfl))
  (first|(apply WF.condT;(focus (simp only [Zg,Zf,Zd,Zm,Bool.not_true,Bool.not_false,reduceIte,Nat.reduceEqDiff,hlt];done)))|(apply WF.condF;(focus (simp only [Zg,Zf,Zd,Zm,Bool.not_true,Bool.not_false,reduceIte,Nat.reduceEqDiff,hlt];done))))
  cases q1 : decide (a = 0)
  · have hne := of_decide_eq_false q1
    have hl1 := line_len hok a
    have hn1 := nameR_len hok a
    have hadd1 := Yq (P := Q) 9 (a := [32, 32]) (b := nameR syms a) (by simp; omega)
    have hadd2 := Yq (P := Q) 9 (a := [32, 32] ++ nameR syms a) (b := [10]) (by simp; omega)
    repeat (first|(apply Zh;exact rfl)|apply Zb|apply WO.nil|(apply WO.op;(focus (simp only [rQ,Zc,li,lo,reduceIte,Nat.reduceEqDiff,Nat.reduceAdd,beq_self_eq_true,hlt,q1];done));simp only [rE,rS,li,lo,reduceIte,Nat.reduceEqDiff,Nat.reduceAdd,Nat.reduceMul,ZX,ZP ZX his,Za Zt,ht0,ht5,ht8,ht9,ht10,YK,Xd,cu80,hlt,ZH ZX sz2 hil,hc,hcell,q1];exact rfl;exact rfl)|(apply WO.unwanted;(focus (simp only [rQ,Zc,li,lo,reduceIte,Nat.reduceEqDiff,Nat.reduceAdd,beq_self_eq_true,hlt,q1];done));exact rfl))
    (first|(apply WF.condT;(focus (simp only [Zg,Zf,Zd,Zm,Bool.not_true,Bool.not_false,reduceIte,Nat.reduceEqDiff,q1];done)))|(apply WF.condF;(focus (simp only [Zg,Zf,Zd,Zm,Bool.not_true,Bool.not_false,reduceIte,Nat.reduceEqDiff,q1];done))))
    repeat (first|(apply Zh;exact rfl)|apply Zb|apply WO.nil|(apply WO.op;(focus (simp only [rQ,Zc,li,lo,reduceIte,Nat.reduceEqDiff,Nat.reduceAdd,beq_self_eq_true,hlt];done));simp only [rE,rS,li,lo,reduceIte,Nat.reduceEqDiff,Nat.reduceAdd,Nat.reduceMul,ZX,ZP ZX his,Za Zt,ht0,ht5,ht8,ht9,ht10,YK,Xd,cu80,hlt];exact rfl;exact rfl)|(apply WO.unwanted;(focus (simp only [rQ,Zc,li,lo,reduceIte,Nat.reduceEqDiff,Nat.reduceAdd,beq_self_eq_true,hlt];done));exact rfl))
    (apply WO.call;(focus (simp only [rQ,Zc,li,lo,reduceIte,Nat.reduceEqDiff,Nat.reduceAdd,beq_self_eq_true];done));simp only [rE,rS,li,lo,reduceIte,Nat.reduceEqDiff,Nat.reduceAdd,Nat.reduceMul,ZX,ZP ZX his,Za Zt,ht0,ht5,ht8,ht9,ht10,YK,Xd,cu80];exact rfl;exact name80_c _ sv syms a (hs.up hu) hok hra.1 hra.2 hsl;rintro _ _ ⟨rfl,rfl⟩;refine ⟨_,rfl,?_⟩)
    repeat (first|(apply Zh;exact rfl)|apply Zb|apply WO.nil|(apply Zk;exact rfl;simp only [rE,rS,li,lo,reduceIte,Nat.reduceEqDiff,Nat.reduceAdd,Nat.reduceMul,ZX,ZP ZX his,Za Zt,ht0,ht5,ht8,ht9,ht10,YK,Xd,cu80,hadd1,hadd2];exact rfl;exact rfl))
    (apply WO.call;(focus (simp only [rQ,Zc,li,lo,reduceIte,Nat.reduceEqDiff,Nat.reduceAdd,beq_self_eq_true];done));simp only [rE,rS,li,lo,reduceIte,Nat.reduceEqDiff,Nat.reduceAdd,Nat.reduceMul,ZX,ZP ZX his,Za Zt,ht0,ht5,ht8,ht9,ht10,YK,Xd,cu80];exact rfl;exact writeString_c H _ H.next (lineR syms a) s hu hbuf (line_byte hok a) (by omega);rintro _ H2 ⟨rfl,hu2,hbuf2⟩;refine ⟨_,rfl,?_⟩)
    repeat (first|(apply Zh;exact rfl)|apply Zb|apply WO.nil|(apply Zk;exact rfl;simp only [rE,rS,li,lo,reduceIte,Nat.reduceEqDiff,Nat.reduceAdd,Nat.reduceMul,ZX,ZP ZX his,Za Zt,ht0,ht5,ht8,ht9,ht10,YK,Xd,cu80,wi];exact rfl;exact rfl))
    refine Z4 ?_
    refine ih (m - 1) _ _ (by omega) ⟨i + 1, s ++ lineR syms a, hu2, by omega, ?_, ?_, hbuf2, ?_, ?_, ?_, ?_, ?_⟩
    · rw [hst, hz1 hne, List.append_assoc]
    · simp; omega
    all_goals simp [Zd, ht0, ht5, ht8, ht9]
  · have he := of_decide_eq_true q1
    repeat (first|(apply Zh;exact rfl)|apply Zb|apply WO.nil|(apply WO.op;(focus (simp only [rQ,Zc,li,lo,reduceIte,Nat.reduceEqDiff,Nat.reduceAdd,beq_self_eq_true,hlt,q1];done));simp only [rE,rS,li,lo,reduceIte,Nat.reduceEqDiff,Nat.reduceAdd,Nat.reduceMul,ZX,ZP ZX his,Za Zt,ht0,ht5,ht8,ht9,ht10,YK,Xd,cu80,hlt,ZH ZX sz2 hil,hc,hcell,q1];exact rfl;exact rfl)|(apply WO.unwanted;(focus (simp only [rQ,Zc,li,lo,reduceIte,Nat.reduceEqDiff,Nat.reduceAdd,beq_self_eq_true,hlt,q1];done));exact rfl))
    (first|(apply WF.condT;(focus (simp only [Zg,Zf,Zd,Zm,Bool.not_true,Bool.not_false,reduceIte,Nat.reduceEqDiff,q1];done)))|(apply WF.condF;(focus (simp only [Zg,Zf,Zd,Zm,Bool.not_true,Bool.not_false,reduceIte,Nat.reduceEqDiff,q1];done))))
    repeat (first|(apply Zh;exact rfl)|apply Zb|apply WO.nil|(apply WO.op;(focus (simp only [rQ,Zc,li,lo,reduceIte,Nat.reduceEqDiff,Nat.reduceAdd,beq_self_eq_true,hlt];done));simp only [rE,rS,li,lo,reduceIte,Nat.reduceEqDiff,Nat.reduceAdd,Nat.reduceMul,ZX,ZP ZX his,Za Zt,ht0,ht5,ht8,ht9,ht10,YK,Xd,cu80,hlt];exact rfl;exact rfl)|(apply WO.unwanted;(focus (simp only [rQ,Zc,li,lo,reduceIte,Nat.reduceEqDiff,Nat.reduceAdd,beq_self_eq_true,hlt];done));exact rfl))
    (apply WO.call;(focus (simp only [rQ,Zc,li,lo,reduceIte,Nat.reduceEqDiff,Nat.reduceAdd,beq_self_eq_true];done));simp only [rE,rS,li,lo,reduceIte,Nat.reduceEqDiff,Nat.reduceAdd,Nat.reduceMul,ZX,ZP ZX his,Za Zt,ht0,ht5,ht8,ht9,ht10,YK,Xd,cu80];exact rfl;exact string_c H _ H.next s hu hbuf (by omega);rintro _ H2 ⟨rfl,hu2⟩;refine ⟨_,rfl,?_⟩)
    repeat (first|(apply Zh;exact rfl)|apply Zb|apply WO.nil|(apply Zk;exact rfl;simp only [rE,rS,li,lo,reduceIte,Nat.reduceEqDiff,Nat.reduceAdd,Nat.reduceMul,ZX,ZP ZX his,Za Zt,ht0,ht5,ht8,ht9,ht10,YK,Xd,cu80];exact rfl;exact rfl))
    (apply WF.ret; (focus (simp only [Zj, Zd, Zm, Zv, reduceIte, Nat.reduceEqDiff, rs40]; exact rfl)))
    refine ⟨?_, hu2⟩
    rw [hst, hz0 he, List.append_nil]
section
variable {L : World → Prop} [YQ Q L]
set_option maxHeartbeats 4000000 in
theorem stack44_c (H : AH) (sv av : AV) (syms : List Xn) (l : List Int) (hs : Xr H sv syms) (hi : Wl H av l) (hok : ∀ z ∈ syms,SymOk z) (hr : ∀ a ∈ l,-9223372036854775808 ≤ a ∧ a ≤ 9223372036854775807) (hsl : syms.length < 9223372036854775808) (hl16 : l.length ≤ 16) :
    Fn Q L 44 [sv, av] H (fun w H' => w = .str (Xp syms l) ∧ H' = H) := by
  refine Fn.intro (en44 _ _) ?_
  have his := hi.1
  unfold c44 Tryz.f44
  simp only [Option.getD_some]
  repeat (first|(apply Zh;exact rfl)|apply Zb|apply WO.nil|(apply Zk;exact rfl;simp only [rE,rS,li,lo,reduceIte,Nat.reduceEqDiff,Nat.reduceAdd,Nat.reduceMul,Zw];exact rfl;exact rfl))
  refine YL (fun m t H' => ∃ (i : Nat) (s : List Nat),H' = H ∧ i + m = l.length ∧ Xp syms l = s ++ Xp syms (l.drop i) ∧ s.length ≤ 3000000 * i ∧ t.get 0 = some sv ∧ t.get 1 = some av ∧ t.get 5 = some (.str s) ∧ t.get 6 = some (.int .i64 (i : Int))) l.length ?_ ?_
  · refine ⟨0, [], rfl, by omega, by simp, by simp, ?_, ?_, ?_, ?_⟩
    all_goals simp [Zd, Zm]
  rintro m t H' ⟨i, s, rfl, him, hst, hsn, ht0, ht1, ht5, ht6⟩ ih
  by_cases hil : i < l.length
  rotate_left
  · obtain rfl : i = l.length := by omega
    have hlt : decide ((l.length : Int) < (l.length : Int)) = false := by simp
    repeat (first|(apply Zh;exact rfl)|apply Zb|apply WO.nil|(apply WO.op;(focus (simp only [rQ,Zc,li,lo,reduceIte,Nat.reduceEqDiff,Nat.reduceAdd,beq_self_eq_true,hlt];done));simp only [rE,rS,li,lo,reduceIte,Nat.reduceEqDiff,Nat.reduceAdd,Nat.reduceMul,ZX,ZP ZX his,Za Zt,ht0,ht1,ht5,ht6,YK,Xd,cu85,hlt];exact rfl;exact rfl)|(apply WO.unwanted;(focus (simp only [rQ,Zc,li,lo,reduceIte,Nat.reduceEqDiff,Nat.reduceAdd,beq_self_eq_true,hlt];done));exact rfl))
    (first|(apply WF.condT;(focus (simp only [Zg,Zf,Zd,Zm,Bool.not_true,Bool.not_false,reduceIte,Nat.reduceEqDiff,hlt];done)))|(apply WF.condF;(focus (simp only [Zg,Zf,Zd,Zm,Bool.not_true,Bool.not_false,reduceIte,Nat.reduceEqDiff,hlt];done))))
    repeat (first|(apply Zh;exact rfl)|apply Zb|apply WO.nil|(apply WO.op;(focus (simp only [rQ,Zc,li,lo,reduceIte,Nat.reduceEqDiff,Nat.reduceAdd,beq_self_eq_true,hlt];done));simp only [rE,rS,li,lo,reduceIte,Nat.reduceEqDiff,Nat.reduceAdd,Nat.reduceMul,ZX,ZP ZX his,Za Zt,ht0,ht1,ht5,ht6,YK,Xd,cu85,hlt];exact rfl;exact rfl)|(apply WO.unwanted;(focus (simp only [rQ,Zc,li,lo,reduceIte,Nat.reduceEqDiff,Nat.reduceAdd,beq_self_eq_true,hlt];done));exact rfl))
    (apply WF.ret; (focus (simp only [Zj, Zd, Zm, Zv, reduceIte, Nat.reduceEqDiff, rs44]; exact rfl)))
    refine ⟨?_, rfl⟩
    rw [hst, stack_end, List.append_nil]
  have hlt : decide ((i : Int) < (l.length : Int)) = true := by simp; omega
  have wi : IntKind.i64.wrap ((i : Int) + 1) = ((i + 1 : Nat) : Int) := by rw [Go.Ev.w64 (by omega) (by omega)]; omega
  obtain ⟨b, off, cap, c, rfl, hc, hcell⟩ := hi.at (List.getElem?_eq_getElem hil)
  have hra := hr _ (List.getElem_mem hil)
  have hz0 : l[i] = 0 → Xp syms (l.drop i) = [] := stack_zero hil
  have hz1 : l[i] ≠ 0 → Xp syms (l.drop i) = lineR syms l[i] ++ Xp syms (l.drop (i + 1)) := stack_next hil
  generalize l[i] = a at *
  cases q1 : decide (a = 0)
  · have hne := of_decide_eq_false q1
    have hl1 := line_len hok a
    have hn1 := nameR_len hok a
    have hadd1 := Yq (P := Q) 9 (a := s) (b := [32, 32]) (by simp; omega)
    have hadd2 := Yq (P := Q) 9 (a := s ++ [32, 32]) (b := nameR syms a) (by simp; omega)
    have hadd3 := Yq (P := Q) 9 (a := (s ++ [32, 32]) ++ nameR syms a) (b := [10]) (by simp; omega)
    repeat (first|(apply Zh;exact rfl)|apply Zb|apply WO.nil|(apply WO.op;(focus (simp only [rQ,Zc,li,lo,reduceIte,Nat.reduceEqDiff,Nat.reduceAdd,beq_self_eq_true,hlt,q1];done));simp only [rE,rS,li,lo,reduceIte,Nat.reduceEqDiff,Nat.reduceAdd,Nat.reduceMul,ZX,ZP ZX his,Za Zt,ht0,ht1,ht5,ht6,YK,Xd,cu85,hlt,ZH ZX sz2 hil,hc,hcell,q1];exact rfl;exact rfl)|(apply WO.unwanted;(focus (simp only [rQ,Zc,li,lo,reduceIte,Nat.reduceEqDiff,Nat.reduceAdd,beq_self_eq_true,hlt,q1];done));exact rfl))
    (first|(apply WF.condT;(focus (simp only [Zg,Zf,Zd,Zm,Bool.not_true,Bool.not_false,reduceIte,Nat.reduceEqDiff,q1];done)))|(apply WF.condF;(focus (simp only [Zg,Zf,Zd,Zm,Bool.not_true,Bool.not_false,reduceIte,Nat.reduceEqDiff,q1];done))))
    repeat (first|(apply Zh;exact rfl)|apply Zb|apply WO.nil|(apply WO.op;(focus (simp only [rQ,Zc,li,lo,reduceIte,Nat.reduceEqDiff,Nat.reduceAdd,beq_self_eq_true,hlt];done));simp only [rE,rS,li,lo,reduceIte,Nat.reduceEqDiff,Nat.reduceAdd,Nat.reduceMul,ZX,ZP ZX his,Za Zt,ht0,ht1,ht5,ht6,YK,Xd,cu85,hlt,ZH ZX sz2 hil,hc,hcell,hadd1];exact rfl;exact rfl)|(apply WO.unwanted;(focus (simp only [rQ,Zc,li,lo,reduceIte,Nat.reduceEqDiff,Nat.reduceAdd,beq_self_eq_true,hlt];done));exact rfl))
    (apply WO.call;(focus (simp only [rQ,Zc,li,lo,reduceIte,Nat.reduceEqDiff,Nat.reduceAdd,beq_self_eq_true];done));simp only [rE,rS,li,lo,reduceIte,Nat.reduceEqDiff,Nat.reduceAdd,Nat.reduceMul,ZX,ZP ZX his,Za Zt,ht0,ht1,ht5,ht6,YK,Xd,cu85,ZH ZX sz2 hil,hc,hcell,hadd1];exact rfl;exact name85_c _ sv syms a hs hok hra.1 hra.2 hsl;rintro _ _ ⟨rfl,rfl⟩;refine ⟨_,rfl,?_⟩)
    repeat (first|(apply Zh;exact rfl)|apply Zb|apply WO.nil|(apply Zk;exact rfl;simp only [rE,rS,li,lo,reduceIte,Nat.reduceEqDiff,Nat.reduceAdd,Nat.reduceMul,ZX,ZP ZX his,Za Zt,ht0,ht1,ht5,ht6,YK,Xd,cu85,hadd2,hadd3,wi];exact rfl;exact rfl))
    refine Z4 ?_
    refine ih (m - 1) _ _ (by omega) ⟨i + 1, s ++ lineR syms a, rfl, by omega, ?_, ?_, ?_, ?_, ?_, ?_⟩
    · rw [hst, hz1 hne, List.append_assoc]
    · simp; omega
    · simp [Zd, ht0]
    · simp [Zd, ht1]
    · simp [Zd, lineR]
    · simp [Zd]
  · have he := of_decide_eq_true q1
    repeat (first|(apply Zh;exact rfl)|apply Zb|apply WO.nil|(apply WO.op;(focus (simp only [rQ,Zc,li,lo,reduceIte,Nat.reduceEqDiff,Nat.reduceAdd,beq_self_eq_true,hlt,q1];done));simp only [rE,rS,li,lo,reduceIte,Nat.reduceEqDiff,Nat.reduceAdd,Nat.reduceMul,ZX,ZP ZX his,Za Zt,ht0,ht1,ht5,ht6,YK,Xd,cu85,hlt,ZH ZX sz2 hil,hc,hcell,q1];exact rfl;exact rfl)|(apply WO.unwanted;(focus (simp only [rQ,Zc,li,lo,reduceIte,Nat.reduceEqDiff,Nat.reduceAdd,beq_self_eq_true,hlt,q1];done));exact rfl))
    (first|(apply WF.condT;(focus (simp only [Zg,Zf,Zd,Zm,Bool.not_true,Bool.not_false,reduceIte,Nat.reduceEqDiff,q1];done)))|(apply WF.condF;(focus (simp only [Zg,Zf,Zd,Zm,Bool.not_true,Bool.not_false,reduceIte,Nat.reduceEqDiff,q1];done))))
    repeat (first|(apply Zh;exact rfl)|apply Zb|apply WO.nil|(apply WO.op;(focus (simp only [rQ,Zc,li,lo,reduceIte,Nat.reduceEqDiff,Nat.reduceAdd,beq_self_eq_true,hlt];done));simp only [rE,rS,li,lo,reduceIte,Nat.reduceEqDiff,Nat.reduceAdd,Nat.reduceMul,ZX,ZP ZX his,Za Zt,ht0,ht1,ht5,ht6,YK,Xd,cu85,hlt];exact rfl;exact rfl)|(apply WO.unwanted;(focus (simp only [rQ,Zc,li,lo,reduceIte,Nat.reduceEqDiff,Nat.reduceAdd,beq_self_eq_true,hlt];done));exact rfl))
    (apply WF.ret; (focus (simp only [Zj, Zd, Zm, Zv, reduceIte, Nat.reduceEqDiff, rs44]; exact rfl)))
    refine ⟨?_, rfl⟩
    rw [hst, hz0 he, List.append_nil]
end
end Go.Ev.C
end
section
set_option linter.unusedVariables false
set_option linter.unusedSimpArgs false
set_option linter.defProp false
set_option linter.all false
namespace Go.Ev.C
open Go.Proofs Go.Fmt Go.RowKit
set_option maxRecDepth 100000
set_option linter.unusedSimpArgs false
def stkR (syms : List Xn) (l : List Int) : List Nat × Int := if 16 < l.length then ([], 2) else (Xp syms l, 0)
set_option maxHeartbeats 2000000 in
theorem stack12_c (H : AH) (sv av : AV) (syms : List Xn) (l : List Int) (hs : Xr H sv syms) (hi : Wl H av l) (hok : ∀ z ∈ syms,SymOk z) (hr : ∀ a ∈ l,-9223372036854775808 ≤ a ∧ a ≤ 9223372036854775807) (hsl : syms.length < 9223372036854775808) :
    Fn Q YM 12 [sv, av] H (fun w H' => w = .tuple [.str (stkR syms l).1, .int .i64 (stkR syms l).2] ∧ Up H H') := by
  refine Fn.intro (en12 _ _) ?_
  have his := hi.1
  unfold stkR
  unfold c12 Tryz.f12
  simp only [Option.getD_some]
  by_cases h16 : 16 < l.length
  · have q1 : decide ((16 : Int) < (l.length : Int)) = true := decide_eq_true (by omega)
    rw [if_pos h16]
    repeat (first|(apply Zh;exact rfl)|apply Zb|apply WO.nil|(apply WO.op;(focus (simp only [rQ,Zc,li,lo,reduceIte,Nat.reduceEqDiff,Nat.reduceAdd,beq_self_eq_true,q1];done));simp only [rE,rS,li,lo,reduceIte,Nat.reduceEqDiff,Nat.reduceAdd,Nat.reduceMul,ZX,ZP ZX his,cu40,Zw,q1];exact rfl;exact rfl)|(apply WO.unwanted;(focus (simp only [rQ,Zc,li,lo,reduceIte,Nat.reduceEqDiff,Nat.reduceAdd,beq_self_eq_true,q1];done));exact rfl))
    (first|(apply WF.condT;(focus (simp only [Zg,Zf,Zd,Zm,Bool.not_true,Bool.not_false,reduceIte,Nat.reduceEqDiff,q1];done)))|(apply WF.condF;(focus (simp only [Zg,Zf,Zd,Zm,Bool.not_true,Bool.not_false,reduceIte,Nat.reduceEqDiff,q1];done))))
    repeat (first|(apply Zh;exact rfl)|apply Zb|apply WO.nil|(apply WO.op;(focus (simp only [rQ,Zc,li,lo,reduceIte,Nat.reduceEqDiff,Nat.reduceAdd,beq_self_eq_true,q1];done));simp only [rE,rS,li,lo,reduceIte,Nat.reduceEqDiff,Nat.reduceAdd,Nat.reduceMul,ZX,ZP ZX his,cu40,Zw,q1];exact rfl;exact rfl)|(apply WO.unwanted;(focus (simp only [rQ,Zc,li,lo,reduceIte,Nat.reduceEqDiff,Nat.reduceAdd,beq_self_eq_true,q1];done));exact rfl))
    (apply WF.ret; (focus (simp only [Zj, Zd, Zm, Zv, reduceIte, Nat.reduceEqDiff, rs12]; exact rfl)))
    exact ⟨rfl, Up.refl _⟩
  · have q1 : decide ((16 : Int) < (l.length : Int)) = false := decide_eq_false (by omega)
    rw [if_neg h16]
    repeat (first|(apply Zh;exact rfl)|apply Zb|apply WO.nil|(apply WO.op;(focus (simp only [rQ,Zc,li,lo,reduceIte,Nat.reduceEqDiff,Nat.reduceAdd,beq_self_eq_true,q1];done));simp only [rE,rS,li,lo,reduceIte,Nat.reduceEqDiff,Nat.reduceAdd,Nat.reduceMul,ZX,ZP ZX his,cu40,Zw,q1];exact rfl;exact rfl)|(apply WO.unwanted;(focus (simp only [rQ,Zc,li,lo,reduceIte,Nat.reduceEqDiff,Nat.reduceAdd,beq_self_eq_true,q1];done));exact rfl))
    (first|(apply WF.condT;(focus (simp only [Zg,Zf,Zd,Zm,Bool.not_true,Bool.not_false,reduceIte,Nat.reduceEqDiff,q1];done)))|(apply WF.condF;(focus (simp only [Zg,Zf,Zd,Zm,Bool.not_true,Bool.not_false,reduceIte,Nat.reduceEqDiff,q1];done))))
    repeat (first|(apply Zh;exact rfl)|apply Zb|apply WO.nil|(apply WO.op;(focus (simp only [rQ,Zc,li,lo,reduceIte,Nat.reduceEqDiff,Nat.reduceAdd,beq_self_eq_true,q1];done));simp only [rE,rS,li,lo,reduceIte,Nat.reduceEqDiff,Nat.reduceAdd,Nat.reduceMul,ZX,ZP ZX his,cu40,Zw,q1];exact rfl;exact rfl)|(apply WO.unwanted;(focus (simp only [rQ,Zc,li,lo,reduceIte,Nat.reduceEqDiff,Nat.reduceAdd,beq_self_eq_true,q1];done));exact rfl))
    (apply WO.call;(focus (simp only [rQ,Zc,li,lo,reduceIte,Nat.reduceEqDiff,Nat.reduceAdd,beq_self_eq_true,q1];done));simp only [rE,rS,li,lo,reduceIte,Nat.reduceEqDiff,Nat.reduceAdd,Nat.reduceMul,ZX,ZP ZX his,cu40,Zw,q1];exact rfl;exact frames_c H sv av syms l hs hi hok hr hsl (by omega);rintro _ H2 ⟨rfl,hu2⟩;refine ⟨_,rfl,?_⟩)
    repeat (first|(apply Zh;exact rfl)|apply Zb|apply WO.nil|(apply WO.op;(focus (simp only [rQ,Zc,li,lo,reduceIte,Nat.reduceEqDiff,Nat.reduceAdd,beq_self_eq_true,q1];done));simp only [rE,rS,li,lo,reduceIte,Nat.reduceEqDiff,Nat.reduceAdd,Nat.reduceMul,ZX,ZP ZX his,cu40,Zw,q1];exact rfl;exact rfl)|(apply WO.unwanted;(focus (simp only [rQ,Zc,li,lo,reduceIte,Nat.reduceEqDiff,Nat.reduceAdd,beq_self_eq_true,q1];done));exact rfl))
    (apply WF.ret; (focus (simp only [Zj, Zd, Zm, Zv, reduceIte, Nat.reduceEqDiff, rs12]; exact rfl)))
    exact ⟨rfl, hu2⟩
section
variable {L : World → Prop} [YQ Q L]
set_option maxHeartbeats 2000000 in
theorem stack14_c (H : AH) (sv av : AV) (syms : List Xn) (l : List Int) (hs : Xr H sv syms) (hi : Wl H av l) (hok : ∀ z ∈ syms,SymOk z) (hr : ∀ a ∈ l,-9223372036854775808 ≤ a ∧ a ≤ 9223372036854775807) (hsl : syms.length < 9223372036854775808) :
    Fn Q L 14 [sv, av] H (fun w H' => w = .agg [.str (stkR syms l).1, .int .i64 (stkR syms l).2] ∧ Up H H') := by
  refine Fn.intro (en14 _ _) ?_
  have his := hi.1
  have hst := store31 (H := ⟨H.t.put H.next (some (.cells 31 [.str [], .int .i64 0] 0 false false)), H.next + 1⟩) (b := H.next) get_one
  have hup : ∀ o, Up H ⟨(H.t.put H.next (some (.cells 31 [.str [], .int .i64 0] 0 false false))).put H.next o, H.next + 1⟩ := fun o => Up.st (Up.bx1 H _) (Nat.le_refl _) o
  unfold stkR
  unfold c14 Tryz.f14
  simp only [Option.getD_some]
  by_cases h16 : 16 < l.length
  · have q1 : decide ((16 : Int) < (l.length : Int)) = true := decide_eq_true (by omega)
    rw [if_pos h16]
    repeat (first|(apply Zh;exact rfl)|apply Zb|apply WO.nil|(apply WO.op;(focus (simp only [rQ,Zc,li,lo,reduceIte,Nat.reduceEqDiff,Nat.reduceAdd,beq_self_eq_true,q1];done));simp only [rE,rQ,li,lo,reduceIte,Nat.reduceEqDiff,Nat.reduceAdd,Nat.reduceMul,AH.set,ZX,ZP ZX his,cu44,Zw,q1,Xi,YX,bu31e,bu31s,hst];exact rfl;exact rfl)|(apply WO.unwanted;(focus (simp only [rQ,Zc,li,lo,reduceIte,Nat.reduceEqDiff,Nat.reduceAdd,beq_self_eq_true,q1];done));exact rfl))
    (first|(apply WF.condT;(focus (simp only [Zg,Zf,Zd,Zm,Bool.not_true,Bool.not_false,reduceIte,Nat.reduceEqDiff,q1];done)))|(apply WF.condF;(focus (simp only [Zg,Zf,Zd,Zm,Bool.not_true,Bool.not_false,reduceIte,Nat.reduceEqDiff,q1];done))))
    repeat (first|(apply Zh;exact rfl)|apply Zb|apply WO.nil|(apply WO.op;(focus (simp only [rQ,Zc,li,lo,reduceIte,Nat.reduceEqDiff,Nat.reduceAdd,beq_self_eq_true,q1];done));simp only [rE,rQ,li,lo,reduceIte,Nat.reduceEqDiff,Nat.reduceAdd,Nat.reduceMul,AH.set,ZX,ZP ZX his,cu44,Zw,q1,Xi,YX,bu31e,bu31s,hst];exact rfl;exact rfl)|(apply WO.unwanted;(focus (simp only [rQ,Zc,li,lo,reduceIte,Nat.reduceEqDiff,Nat.reduceAdd,beq_self_eq_true,q1];done));exact rfl))
    (apply WF.ret; (focus (simp only [Zj, Zd, Zm, Zv, reduceIte, Nat.reduceEqDiff, rs14, Ze agg31 sz31, Yu, two_all, Option.map_some]; exact rfl)))
    exact ⟨rfl, hup _⟩
  · have q1 : decide ((16 : Int) < (l.length : Int)) = false := decide_eq_false (by omega)
    rw [if_neg h16]
    repeat (first|(apply Zh;exact rfl)|apply Zb|apply WO.nil|(apply WO.op;(focus (simp only [rQ,Zc,li,lo,reduceIte,Nat.reduceEqDiff,Nat.reduceAdd,beq_self_eq_true,q1];done));simp only [rE,rQ,li,lo,reduceIte,Nat.reduceEqDiff,Nat.reduceAdd,Nat.reduceMul,AH.set,ZX,ZP ZX his,cu44,Zw,q1,Xi,YX,bu31e,bu31s,hst];exact rfl;exact rfl)|(apply WO.unwanted;(focus (simp only [rQ,Zc,li,lo,reduceIte,Nat.reduceEqDiff,Nat.reduceAdd,beq_self_eq_true,q1];done));exact rfl))
    (first|(apply WF.condT;(focus (simp only [Zg,Zf,Zd,Zm,Bool.not_true,Bool.not_false,reduceIte,Nat.reduceEqDiff,q1];done)))|(apply WF.condF;(focus (simp only [Zg,Zf,Zd,Zm,Bool.not_true,Bool.not_false,reduceIte,Nat.reduceEqDiff,q1];done))))
    repeat (first|(apply Zh;exact rfl)|apply Zb|apply WO.nil|(apply WO.op;(focus (simp only [rQ,Zc,li,lo,reduceIte,Nat.reduceEqDiff,Nat.reduceAdd,beq_self_eq_true,q1];done));simp only [rE,rQ,li,lo,reduceIte,Nat.reduceEqDiff,Nat.reduceAdd,Nat.reduceMul,AH.set,ZX,ZP ZX his,cu44,Zw,q1,Xi,YX,bu31e,bu31s,hst];exact rfl;exact rfl)|(apply WO.unwanted;(focus (simp only [rQ,Zc,li,lo,reduceIte,Nat.reduceEqDiff,Nat.reduceAdd,beq_self_eq_true,q1];done));exact rfl))
    (apply WO.call;(focus (simp only [rQ,Zc,li,lo,reduceIte,Nat.reduceEqDiff,Nat.reduceAdd,beq_self_eq_true,q1];done));simp only [rE,rQ,li,lo,reduceIte,Nat.reduceEqDiff,Nat.reduceAdd,Nat.reduceMul,AH.set,ZX,ZP ZX his,cu44,Zw,q1,Xi,YX,bu31e,bu31s,hst];exact rfl;exact stack44_c _ sv av syms l (hs.up (Up.bx1 H _)) (hi.up (Up.bx1 H _)) hok hr hsl (by omega);rintro _ H2 ⟨rfl,rfl⟩;refine ⟨_,rfl,?_⟩)
    repeat (first|(apply Zh;exact rfl)|apply Zb|apply WO.nil|(apply WO.op;(focus (simp only [rQ,Zc,li,lo,reduceIte,Nat.reduceEqDiff,Nat.reduceAdd,beq_self_eq_true,q1];done));simp only [rE,rQ,li,lo,reduceIte,Nat.reduceEqDiff,Nat.reduceAdd,Nat.reduceMul,AH.set,ZX,ZP ZX his,cu44,Zw,q1,Xi,YX,bu31e,bu31s,hst];exact rfl;exact rfl)|(apply WO.unwanted;(focus (simp only [rQ,Zc,li,lo,reduceIte,Nat.reduceEqDiff,Nat.reduceAdd,beq_self_eq_true,q1];done));exact rfl))
    (apply WF.ret; (focus (simp only [Zj, Zd, Zm, Zv, reduceIte, Nat.reduceEqDiff, rs14, Ze agg31 sz31, Yu, two_all, Option.map_some]; exact rfl)))
    exact ⟨rfl, hup _⟩
end
set_option maxHeartbeats 8000000 in
theorem formats_w (H : AH) (f : List Nat) (iv sv av : AV) (l : List (XB × AV)) (syms : List Xn) (ad : List Int) (hf8 : ∀ c ∈ f,c < 256) (h1 : XR H iv l) (hl : ∀ x ∈ l,ItIn x.1 x.2) (hsz : f.length + 200 * l.length ≤ 90000000)
    (hs : Xr H sv syms) (ha : Wl H av ad) (hok : ∀ z ∈ syms, SymOk z) (hr : ∀ a ∈ ad, -9223372036854775808 ≤ a ∧ a ≤ 9223372036854775807) (hsl : syms.length < 9223372036854775808) :
    WF Q YM (PF 3 60 (Zm 0 [.str f, iv, sv, av] .leaf) [.code c3]) H (Ret Q 3 fun v _ => v = .bool true) := by
  unfold c3 Tryz.f3
  simp only [Option.getD_some]
  repeat (first|(apply Zh;exact rfl)|apply Zb|apply WO.nil|(apply WO.op;(focus (simp only [rQ,Zc,li,lo,reduceIte,Nat.reduceEqDiff,Nat.reduceAdd,beq_self_eq_true];done));simp only [rE,rS,li,lo,reduceIte,Nat.reduceEqDiff,Nat.reduceAdd,Nat.reduceMul,Zi,Zw,cu10,cu11,cu12,cu13,cu14,Xi,fa31_0,fa31_1,Za ZA,Za agg26,sz31];exact rfl;exact rfl)|(apply WO.unwanted;(focus (simp only [rQ,Zc,li,lo,reduceIte,Nat.reduceEqDiff,Nat.reduceAdd,beq_self_eq_true];done));exact rfl))
  (apply WO.call;(focus (simp only [rQ,Zc,li,lo,reduceIte,Nat.reduceEqDiff,Nat.reduceAdd,beq_self_eq_true];done));simp only [rE,rS,li,lo,reduceIte,Nat.reduceEqDiff,Nat.reduceAdd,Nat.reduceMul,Zi,Zw,cu10,cu11,cu12,cu13,cu14,Xi,fa31_0,fa31_1,Za ZA,Za agg26,sz31];exact rfl;exact sane_c2 _;rintro _ H ⟨rfl,rfl⟩;refine ⟨_,rfl,?_⟩)
  repeat (first|(apply Zh;exact rfl)|apply Zb|apply WO.nil|(apply WO.op;(focus (simp only [rQ,Zc,li,lo,reduceIte,Nat.reduceEqDiff,Nat.reduceAdd,beq_self_eq_true];done));simp only [rE,rS,li,lo,reduceIte,Nat.reduceEqDiff,Nat.reduceAdd,Nat.reduceMul,Zi,Zw,cu10,cu11,cu12,cu13,cu14,Xi,fa31_0,fa31_1,Za ZA,Za agg26,sz31];exact rfl;exact rfl)|(apply WO.unwanted;(focus (simp only [rQ,Zc,li,lo,reduceIte,Nat.reduceEqDiff,Nat.reduceAdd,beq_self_eq_true];done));exact rfl))
  (apply WO.call;(focus (simp only [rQ,Zc,li,lo,reduceIte,Nat.reduceEqDiff,Nat.reduceAdd,beq_self_eq_true];done));simp only [rE,rS,li,lo,reduceIte,Nat.reduceEqDiff,Nat.reduceAdd,Nat.reduceMul,Zi,Zw,cu10,cu11,cu12,cu13,cu14,Xi,fa31_0,fa31_1,Za ZA,Za agg26,sz31];exact rfl;exact format_c H f l iv hf8 h1 hl hsz;rintro _ H1 ⟨rfl,hu1⟩;refine ⟨_,rfl,?_⟩)
  repeat (first|(apply Zh;exact rfl)|apply Zb|apply WO.nil|(apply WO.op;(focus (simp only [rQ,Zc,li,lo,reduceIte,Nat.reduceEqDiff,Nat.reduceAdd,beq_self_eq_true];done));simp only [rE,rS,li,lo,reduceIte,Nat.reduceEqDiff,Nat.reduceAdd,Nat.reduceMul,Zi,Zw,cu10,cu11,cu12,cu13,cu14,Xi,fa31_0,fa31_1,Za ZA,Za agg26,sz31];exact rfl;exact rfl)|(apply WO.unwanted;(focus (simp only [rQ,Zc,li,lo,reduceIte,Nat.reduceEqDiff,Nat.reduceAdd,beq_self_eq_true];done));exact rfl))
  (apply WO.call;(focus (simp only [rQ,Zc,li,lo,reduceIte,Nat.reduceEqDiff,Nat.reduceAdd,beq_self_eq_true];done));simp only [rE,rS,li,lo,reduceIte,Nat.reduceEqDiff,Nat.reduceAdd,Nat.reduceMul,Zi,Zw,cu10,cu11,cu12,cu13,cu14,Xi,fa31_0,fa31_1,Za ZA,Za agg26,sz31];exact rfl;exact stack12_c H1 sv av syms ad (hs.up hu1) (ha.up hu1) hok hr hsl;rintro _ H2 ⟨rfl,hu2⟩;refine ⟨_,rfl,?_⟩)
  have hU2 := hu1.trans hu2
  repeat (first|(apply Zh;exact rfl)|apply Zb|apply WO.nil|(apply WO.op;(focus (simp only [rQ,Zc,li,lo,reduceIte,Nat.reduceEqDiff,Nat.reduceAdd,beq_self_eq_true];done));simp only [rE,rS,li,lo,reduceIte,Nat.reduceEqDiff,Nat.reduceAdd,Nat.reduceMul,Zi,Zw,cu10,cu11,cu12,cu13,cu14,Xi,fa31_0,fa31_1,Za ZA,Za agg26,sz31];exact rfl;exact rfl)|(apply WO.unwanted;(focus (simp only [rQ,Zc,li,lo,reduceIte,Nat.reduceEqDiff,Nat.reduceAdd,beq_self_eq_true];done));exact rfl))
  (apply WO.call;(focus (simp only [rQ,Zc,li,lo,reduceIte,Nat.reduceEqDiff,Nat.reduceAdd,beq_self_eq_true];done));simp only [rE,rS,li,lo,reduceIte,Nat.reduceEqDiff,Nat.reduceAdd,Nat.reduceMul,Zi,Zw,cu10,cu11,cu12,cu13,cu14,Xi,fa31_0,fa31_1,Za ZA,Za agg26,sz31];exact rfl;exact format13_c H2 f l iv (h1.up hU2) hl hsz;rintro _ H3 ⟨rfl,hu3⟩;refine ⟨_,rfl,?_⟩)
  generalize (fmtR f (l.map (·.1))).1 = x1
  generalize (fmtR f (l.map (·.1))).2 = x2
  have hU3 := hU2.trans hu3
  have hst := store31 (H := ⟨H3.t.put H3.next (some (.cells 31 [.str [], .int .i64 0] 0 false false)), H3.next + 1⟩) (b := H3.next) get_one x1 x2
  repeat (first|(apply Zh;exact rfl)|apply Zb|apply WO.nil|(apply WO.op;(focus (simp only [rQ,Zc,li,lo,reduceIte,Nat.reduceEqDiff,Nat.reduceAdd,beq_self_eq_true];done));simp only [rE,rQ,li,lo,reduceIte,Nat.reduceEqDiff,Nat.reduceAdd,Nat.reduceMul,AH.set,Zi,Zw,cu10,cu11,cu12,cu13,cu14,Xi,fa31_0,fa31_1,Za ZA,Za agg26,sz31,hst];exact rfl;exact rfl)|(apply WO.unwanted;(focus (simp only [rQ,Zc,li,lo,reduceIte,Nat.reduceEqDiff,Nat.reduceAdd,beq_self_eq_true];done));exact rfl))
  have hU4 : Up H ⟨(H3.t.put H3.next (some (.cells 31 [.str [],.int .i64 0] 0 false false))).put H3.next (some (.cells 31 [.str x1,.int .i64 x2] 0 false false)),H3.next + 1⟩ := hU3.trans (Up.box2 H3 _ _)
  (apply WO.call;(focus (simp only [rQ,Zc,li,lo,reduceIte,Nat.reduceEqDiff,Nat.reduceAdd,beq_self_eq_true];done));simp only [rE,rS,li,lo,reduceIte,Nat.reduceEqDiff,Nat.reduceAdd,Nat.reduceMul,Zi,Zw,cu10,cu11,cu12,cu13,cu14,Xi,fa31_0,fa31_1,Za ZA,Za agg26,sz31];exact rfl;exact stack14_c _ sv av syms ad (hs.up hU4) (ha.up hU4) hok hr hsl;rintro _ H4 ⟨rfl,hu4⟩;refine ⟨_,rfl,?_⟩)
  generalize (stkR syms ad).1 = y1
  generalize (stkR syms ad).2 = y2
  have hst2 := store31 (H := ⟨H4.t.put H4.next (some (.cells 31 [.str [], .int .i64 0] 0 false false)), H4.next + 1⟩) (b := H4.next) get_one y1 y2
  have hn4 : H3.next < H4.next := Nat.lt_of_lt_of_le (Nat.lt_succ_self _) hu4.next
  have n34 : (H3.next = H4.next) = False := eq_false (by omega)
  have hc3 : H4.cellsAt H3.next = some [.str x1, .int .i64 x2] := by
    rw [hu4.cellsAt (Nat.lt_succ_self _), Yu, if_pos rfl]
  repeat (first|(apply Zh;exact rfl)|apply Zb|apply WO.nil|(apply WO.op;(focus (simp only [rQ,Zc,li,lo,reduceIte,Nat.reduceEqDiff,Nat.reduceAdd,beq_self_eq_true];done));simp only [rE,rQ,li,lo,reduceIte,Nat.reduceEqDiff,Nat.reduceAdd,Nat.reduceMul,AH.set,Zi,Zw,cu10,cu11,cu12,cu13,cu14,Xi,fa31_0,fa31_1,Za ZA,Za agg26,sz31,hst2,n34,hc3,eq_tr,ZD,ZC,beq_self_eq_true];exact rfl;exact rfl)|(apply WO.unwanted;(focus (simp only [rQ,Zc,li,lo,reduceIte,Nat.reduceEqDiff,Nat.reduceAdd,beq_self_eq_true];done));exact rfl))
  (apply WF.ret; (focus (simp only [Zj, Zd, Zm, Zv, reduceIte, Nat.reduceEqDiff, rs3]; exact rfl)))
  rfl
end Go.Ev.C
end
section
set_option linter.unusedVariables false
set_option linter.unusedSimpArgs false
set_option linter.defProp false
set_option linter.all false
namespace Go.Ev.C
open Go.Proofs Go.RowKit Go.ChangeShapes Go.WideShapes Go.Deep
open Go.Proofs.YtkkegnkopmpjhaaGreatDoor
set_option maxRecDepth 100000
theorem av_int {W : World} {v : Value} {k : IntKind} {n : Int} (h : Yt W v = .int k n) : v = .int k n := by
  have r := avOf_rel W v (by rw [h]; simp)
  rw [h] at r
  cases r
  rfl
theorem gn2 : Q.globalNamed "internal/strconv.uint64pow10" = some 2 := by kernel_rfl
theorem gt2 : (Q.globals[2]?).map (·.type) = some 419 := by kernel_rfl
theorem cells71 : Q.cellsOf 71 = 1 := by kernel_rfl
theorem cells419 : Q.cellsOf 419 = 20 * 1 := by kernel_rfl
theorem pow_lits : avF Rows.laid_internal_strconv_uint64pow10 = Lib.pow10Tab.map fun z => AV.int .u64 z := by kernel_rfl
theorem ints_back {W : World} : ∀ (cs : List Value) (l : List Int), cs.map (Yt W) = l.map (fun z => AV.int .u64 z) → cs = l.map fun z => Value.int .u64 z
  | [], [], _ => rfl
  | [], _ :: _, h => by simp at h
  | _ :: _, [], h => by simp at h
  | c :: cs, z :: l, h => by
    simp only [List.map_cons, List.cons.injEq] at h ⊢
    exact ⟨av_int h.1, ints_back cs l h.2⟩
theorem pow_of {W : World} (h : laidMetH Q Rows.consumeCountsUptoRow.laid W) : Pow W := by
  obtain ⟨ps, hv, _, _⟩ := laid_plain h
  obtain ⟨_, q1, hv, s1⟩ := Xj hv
  obtain ⟨_, q2, hv, s2⟩ := Xj hv
  obtain ⟨⟨g, t, cs, fuel, p, hg, ht, hc, hT, _⟩, _⟩ := Xj hv
  obtain rfl := Option.some.inj (gn2.symm.trans hg)
  obtain rfl := Option.some.inj (gt2.symm.trans ht)
  obtain ⟨e, f, hh⟩ := var_heap gn2 hc
  have m := flat_array Tryz.underlying419 cells71 cells419 (one_cell cells71 (.inl ⟨_, Tryz.underlying71⟩)) hT
  rw [pow_lits] at m
  have hcs := ints_back _ _ m
  refine ⟨e, f, ?_⟩
  rw [hh, ← hcs]
theorem laid2_of {W : World} (h : laidMetH Q Rows.consumeCountsUptoRow.laid W) (hs : W.ShapedOpen Q) : YM W := ⟨laid_of h hs, pow_of h⟩
end Go.Ev.C
end
