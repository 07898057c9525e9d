/- Contracts: the reference: numerals, letters, conversions, formats. -/
import Derived.Test.YtkkegnkopmpjhaaGreatDoorEvX
section
set_option linter.unusedVariables false
set_option linter.unusedSimpArgs false
set_option linter.defProp false
set_option linter.all false
namespace Go.Ev.C
open Go.Proofs Go.Fmt Go.RowKit
set_option maxRecDepth 100000
set_option linter.unusedSimpArgs false
variable {L : World → Prop} [YQ Q L]
def d10 : List Nat := [48, 49, 50, 51, 52, 53, 54, 55, 56, 57]
theorem d10_sl (n : Nat) (h : n < 10) : YT d10 (some (.int .u64 (n : Int))) (some (.int .u64 ((n + 1 : Nat) : Int))) = some (.str [ch n]) := by
  have : ∀ n : Fin 10, (d10.drop n.val).take (n.val + 1 - n.val) = [ch n.val] := by decide
  have e := this ⟨n, h⟩
  unfold YT
  rw [X6 (by show n + 1 ≤ 10; omega)]
  dsimp only
  rw [X6 (by omega)]
  dsimp only
  rw [e]
theorem quo_u (n b : Nat) (hb : 0 < b) (hn : n < 18446744073709551616) : YP Q .quo 71 (.int .u64 (n : Int)) (.int .u64 (b : Int)) = some (.int .u64 ((n / b : Nat) : Int)) := by
  have e : (n : Int).tdiv (b : Int) = ((n / b : Nat) : Int) := (Int.ofNat_tdiv n b).symm
  have hle := Nat.div_le_self n b
  have e2 : IntKind.u64.wrap ((n / b : Nat) : Int) = ((n / b : Nat) : Int) := wrap64n rfl (by omega)
  simp only [YP, intOp, if_true, e, e2]
  rw [if_neg (by omega)]
theorem rem_u (n b : Nat) (hb : 0 < b) : YP Q .rem 71 (.int .u64 (n : Int)) (.int .u64 (b : Int)) = some (.int .u64 ((n % b : Nat) : Int)) := by
  have e : (n : Int).tmod (b : Int) = ((n % b : Nat) : Int) := (Int.ofNat_tmod n b).symm
  simp only [YP, intOp, if_true, e]
  rw [if_neg (by omega)]
theorem bts10 : Xt ⟨#[48, 49, 50, 51, 52, 53, 54, 55, 56, 57]⟩ = d10 := rfl
theorem Z2 {P : Program} (t : TypeId) (x y : Operand) (a b : AV) : YC P .quo t x y a b = true := rfl
theorem ZS {P : Program} (t : TypeId) (x y : Operand) (a b : AV) : YC P .rem t x y a b = true := rfl
theorem digits1_c : ∀ (k n : Nat), n ≤ k → n < 18446744073709551616 → ∀ H : AH, Fn Q L 131 [.int .u64 (n : Int)] H (fun w H' => w = .str (hx 10 n) ∧ H' = H) := by
  intro k
  induction k with
  | zero =>
    intro n hk hn H
    obtain rfl : n = 0 := by omega
    refine Fn.intro (en131 _) ?_
    unfold c131 Tryz.f131
    simp only [Option.getD_some]
    have q1 : decide (((0 : Nat) : Int) < 10) = true := rfl
    have w1 : IntKind.u64.wrap (((0 : Nat) : Int) + 1) = ((0 + 1 : Nat) : Int) := rfl
    have hsl := d10_sl 0 (by omega)
    repeat (first|(apply Zh;exact rfl)|apply Zb|apply WO.nil|(apply WO.op;(focus (simp only [rQ,Zc,li,lo,reduceIte,Nat.reduceEqDiff,Nat.reduceAdd,beq_self_eq_true,q1];done));simp only [rE,rS,li,lo,reduceIte,Nat.reduceEqDiff,Nat.reduceAdd,Nat.reduceMul,bts10,ZF,q1,Z2,ZS,cu131];exact rfl;exact rfl)|(apply WO.unwanted;(focus (simp only [rQ,Zc,li,lo,reduceIte,Nat.reduceEqDiff,Nat.reduceAdd,beq_self_eq_true,q1];done));exact rfl))
    (first|(apply WF.condT;(focus (simp only [Zg,Zf,Zd,Zm,Bool.not_true,Bool.not_false,reduceIte,Nat.reduceEqDiff,q1];done)))|(apply WF.condF;(focus (simp only [Zg,Zf,Zd,Zm,Bool.not_true,Bool.not_false,reduceIte,Nat.reduceEqDiff,q1];done))))
    repeat (first|(apply Zh;exact rfl)|apply Zb|apply WO.nil|(apply WO.op;(focus (simp only [rQ,Zc,li,lo,reduceIte,Nat.reduceEqDiff,Nat.reduceAdd,beq_self_eq_true,q1];done));simp only [rE,rS,li,lo,reduceIte,Nat.reduceEqDiff,Nat.reduceAdd,Nat.reduceMul,bts10,ZF,q1,Z2,ZS,cu131,w1,hsl];exact rfl;exact rfl)|(apply WO.unwanted;(focus (simp only [rQ,Zc,li,lo,reduceIte,Nat.reduceEqDiff,Nat.reduceAdd,beq_self_eq_true,q1];done));exact rfl))
    (apply WF.ret; (focus (simp only [Zj, Zd, Zm, Zv, reduceIte, Nat.reduceEqDiff, rs131]; exact rfl)))
    exact ⟨rfl, rfl⟩
  | succ k ih =>
    intro n hk hn H
    refine Fn.intro (en131 _) ?_
    unfold c131 Tryz.f131
    simp only [Option.getD_some]
    by_cases h10 : n < 10
    · have q1 : decide ((n : Int) < 10) = true := decide_eq_true (by omega)
      have w1 : IntKind.u64.wrap ((n : Int) + 1) = ((n + 1 : Nat) : Int) := wrap64n (by omega) (by omega)
      have hsl := d10_sl n h10
      repeat (first|(apply Zh;exact rfl)|apply Zb|apply WO.nil|(apply WO.op;(focus (simp only [rQ,Zc,li,lo,reduceIte,Nat.reduceEqDiff,Nat.reduceAdd,beq_self_eq_true,q1];done));simp only [rE,rS,li,lo,reduceIte,Nat.reduceEqDiff,Nat.reduceAdd,Nat.reduceMul,bts10,ZF,q1,Z2,ZS,cu131];exact rfl;exact rfl)|(apply WO.unwanted;(focus (simp only [rQ,Zc,li,lo,reduceIte,Nat.reduceEqDiff,Nat.reduceAdd,beq_self_eq_true,q1];done));exact rfl))
      (first|(apply WF.condT;(focus (simp only [Zg,Zf,Zd,Zm,Bool.not_true,Bool.not_false,reduceIte,Nat.reduceEqDiff,q1];done)))|(apply WF.condF;(focus (simp only [Zg,Zf,Zd,Zm,Bool.not_true,Bool.not_false,reduceIte,Nat.reduceEqDiff,q1];done))))
      repeat (first|(apply Zh;exact rfl)|apply Zb|apply WO.nil|(apply WO.op;(focus (simp only [rQ,Zc,li,lo,reduceIte,Nat.reduceEqDiff,Nat.reduceAdd,beq_self_eq_true,q1];done));simp only [rE,rS,li,lo,reduceIte,Nat.reduceEqDiff,Nat.reduceAdd,Nat.reduceMul,bts10,ZF,q1,Z2,ZS,cu131,w1,hsl];exact rfl;exact rfl)|(apply WO.unwanted;(focus (simp only [rQ,Zc,li,lo,reduceIte,Nat.reduceEqDiff,Nat.reduceAdd,beq_self_eq_true,q1];done));exact rfl))
      (apply WF.ret; (focus (simp only [Zj, Zd, Zm, Zv, reduceIte, Nat.reduceEqDiff, rs131]; exact rfl)))
      rw [Wf h10]
      exact ⟨rfl, rfl⟩
    · have q1 : decide ((n : Int) < 10) = false := decide_eq_false (by omega)
      have hq : YP Q .quo 71 (.int .u64 (n : Int)) (.int .u64 10) = some (.int .u64 ((n / 10 : Nat) : Int)) := quo_u n 10 (by omega) hn
      have hr : YP Q .rem 71 (.int .u64 (n : Int)) (.int .u64 10) = some (.int .u64 ((n % 10 : Nat) : Int)) := rem_u n 10 (by omega)
      have hl1 := Yf 10 (n / 10)
      have hl2 := Yf 10 (n % 10)
      have hadd := Yq (P := Q) 9 (a := hx 10 (n / 10)) (b := hx 10 (n % 10)) (by omega)
      repeat (first|(apply Zh;exact rfl)|apply Zb|apply WO.nil|(apply WO.op;(focus (simp only [rQ,Zc,li,lo,reduceIte,Nat.reduceEqDiff,Nat.reduceAdd,beq_self_eq_true,q1];done));simp only [rE,rS,li,lo,reduceIte,Nat.reduceEqDiff,Nat.reduceAdd,Nat.reduceMul,bts10,ZF,q1,Z2,ZS,cu131];exact rfl;exact rfl)|(apply WO.unwanted;(focus (simp only [rQ,Zc,li,lo,reduceIte,Nat.reduceEqDiff,Nat.reduceAdd,beq_self_eq_true,q1];done));exact rfl))
      (first|(apply WF.condT;(focus (simp only [Zg,Zf,Zd,Zm,Bool.not_true,Bool.not_false,reduceIte,Nat.reduceEqDiff,q1];done)))|(apply WF.condF;(focus (simp only [Zg,Zf,Zd,Zm,Bool.not_true,Bool.not_false,reduceIte,Nat.reduceEqDiff,q1];done))))
      repeat (first|(apply Zh;exact rfl)|apply Zb|apply WO.nil|(apply WO.op;(focus (simp only [rQ,Zc,li,lo,reduceIte,Nat.reduceEqDiff,Nat.reduceAdd,beq_self_eq_true,q1];done));simp only [rE,rS,li,lo,reduceIte,Nat.reduceEqDiff,Nat.reduceAdd,Nat.reduceMul,bts10,ZF,q1,Z2,ZS,cu131,hq];exact rfl;exact rfl)|(apply WO.unwanted;(focus (simp only [rQ,Zc,li,lo,reduceIte,Nat.reduceEqDiff,Nat.reduceAdd,beq_self_eq_true,q1];done));exact rfl))
      (apply WO.call;(focus (simp only [rQ,Zc,li,lo,reduceIte,Nat.reduceEqDiff,Nat.reduceAdd,beq_self_eq_true,q1];done));simp only [rE,rS,li,lo,reduceIte,Nat.reduceEqDiff,Nat.reduceAdd,Nat.reduceMul,bts10,ZF,q1,Z2,ZS,cu131,hq];exact rfl;exact ih (n / 10) (by omega) (by omega) _;rintro _ _ ⟨rfl,rfl⟩;refine ⟨_,rfl,?_⟩)
      repeat (first|(apply Zh;exact rfl)|apply Zb|apply WO.nil|(apply WO.op;(focus (simp only [rQ,Zc,li,lo,reduceIte,Nat.reduceEqDiff,Nat.reduceAdd,beq_self_eq_true,q1];done));simp only [rE,rS,li,lo,reduceIte,Nat.reduceEqDiff,Nat.reduceAdd,Nat.reduceMul,bts10,ZF,q1,Z2,ZS,cu131,hr];exact rfl;exact rfl)|(apply WO.unwanted;(focus (simp only [rQ,Zc,li,lo,reduceIte,Nat.reduceEqDiff,Nat.reduceAdd,beq_self_eq_true,q1];done));exact rfl))
      (apply WO.call;(focus (simp only [rQ,Zc,li,lo,reduceIte,Nat.reduceEqDiff,Nat.reduceAdd,beq_self_eq_true,q1];done));simp only [rE,rS,li,lo,reduceIte,Nat.reduceEqDiff,Nat.reduceAdd,Nat.reduceMul,bts10,ZF,q1,Z2,ZS,cu131,hr];exact rfl;exact ih (n % 10) (by omega) (by omega) _;rintro _ _ ⟨rfl,rfl⟩;refine ⟨_,rfl,?_⟩)
      repeat (first|(apply Zh;exact rfl)|apply Zb|apply WO.nil|(apply WO.op;(focus (simp only [rQ,Zc,li,lo,reduceIte,Nat.reduceEqDiff,Nat.reduceAdd,beq_self_eq_true,q1];done));simp only [rE,rS,li,lo,reduceIte,Nat.reduceEqDiff,Nat.reduceAdd,Nat.reduceMul,bts10,ZF,q1,Z2,ZS,cu131,hadd];exact rfl;exact rfl)|(apply WO.unwanted;(focus (simp only [rQ,Zc,li,lo,reduceIte,Nat.reduceEqDiff,Nat.reduceAdd,beq_self_eq_true,q1];done));exact rfl))
      (apply WF.ret; (focus (simp only [Zj, Zd, Zm, Zv, reduceIte, Nat.reduceEqDiff, rs131]; exact rfl)))
      rw [hx_step (by omega) h10 hn, Wf (show n % 10 < 10 by omega)]
      exact ⟨rfl, rfl⟩
end Go.Ev.C
end
section
set_option linter.unusedVariables false
set_option linter.unusedSimpArgs false
set_option linter.defProp false
set_option linter.all false
namespace Go.Ev.C
open Go.Proofs Go.Fmt Go.RowKit
set_option maxRecDepth 100000
set_option linter.unusedSimpArgs false
variable {L : World → Prop} [YQ Q L]
def d16 : List Nat := [48, 49, 50, 51, 52, 53, 54, 55, 56, 57, 97, 98, 99, 100, 101, 102]
theorem XQ : Xt ⟨#[48, 49, 50, 51, 52, 53, 54, 55, 56, 57, 97, 98, 99, 100, 101, 102]⟩ = d16 := rfl
theorem d16_sl (n : Nat) (h : n < 16) : YT d16 (some (.int .u64 (n : Int))) (some (.int .u64 ((n + 1 : Nat) : Int))) = some (.str [ch n]) := by
  have : ∀ n : Fin 16, (d16.drop n.val).take (n.val + 1 - n.val) = [ch n.val] := by decide
  have e := this ⟨n, h⟩
  unfold YT
  rw [X6 (by show n + 1 ≤ 16; omega)]
  dsimp only
  rw [X6 (by omega)]
  dsimp only
  rw [e]
theorem hex1_c : ∀ (k n : Nat), n ≤ k → n < 18446744073709551616 → ∀ H : AH, Fn Q L 130 [.int .u64 (n : Int)] H (fun w H' => w = .str (hx 16 n) ∧ H' = H) := by
  intro k
  induction k with
  | zero =>
    intro n hk hn H
    obtain rfl : n = 0 := by omega
    refine Fn.intro (en130 _) ?_
    unfold c130 Tryz.f130
    simp only [Option.getD_some]
    have hq : YP Q .quo 71 (.int .u64 ((0 : Nat) : Int)) (.int .u64 16) = some (.int .u64 ((0 / 16 : Nat) : Int)) := quo_u 0 16 (by omega) hn
    have hr : YP Q .rem 71 (.int .u64 ((0 : Nat) : Int)) (.int .u64 16) = some (.int .u64 ((0 % 16 : Nat) : Int)) := rem_u 0 16 (by omega)
    have w1 : IntKind.u64.wrap (((0 % 16 : Nat) : Int) + 1) = ((0 % 16 + 1 : Nat) : Int) := rfl
    have hsl := d16_sl (0 % 16) (by omega)
    have q1 : decide (((0 : Nat) : Int) < 16) = true := rfl
    repeat (first|(apply Zh;exact rfl)|apply Zb|apply WO.nil|(apply WO.op;(focus (simp only [rQ,Zc,li,lo,reduceIte,Nat.reduceEqDiff,Nat.reduceAdd,beq_self_eq_true,q1];done));simp only [rE,rS,li,lo,reduceIte,Nat.reduceEqDiff,Nat.reduceAdd,Nat.reduceMul,XQ,ZF,q1,Z2,ZS,hq,hr,w1,hsl];exact rfl;exact rfl)|(apply WO.unwanted;(focus (simp only [rQ,Zc,li,lo,reduceIte,Nat.reduceEqDiff,Nat.reduceAdd,beq_self_eq_true,q1];done));exact rfl))
    (first|(apply WF.condT;(focus (simp only [Zg,Zf,Zd,Zm,Bool.not_true,Bool.not_false,reduceIte,Nat.reduceEqDiff,q1];done)))|(apply WF.condF;(focus (simp only [Zg,Zf,Zd,Zm,Bool.not_true,Bool.not_false,reduceIte,Nat.reduceEqDiff,q1];done))))
    repeat (first|(apply Zh;exact rfl)|apply Zb|apply WO.nil|(apply WO.op;(focus (simp only [rQ,Zc,li,lo,reduceIte,Nat.reduceEqDiff,Nat.reduceAdd,beq_self_eq_true,q1];done));simp only [rE,rS,li,lo,reduceIte,Nat.reduceEqDiff,Nat.reduceAdd,Nat.reduceMul,XQ,ZF,q1,Z2,ZS,hq,hr,w1,hsl];exact rfl;exact rfl)|(apply WO.unwanted;(focus (simp only [rQ,Zc,li,lo,reduceIte,Nat.reduceEqDiff,Nat.reduceAdd,beq_self_eq_true,q1];done));exact rfl))
    (apply WF.ret; (focus (simp only [Zj, Zd, Zm, Zv, reduceIte, Nat.reduceEqDiff, rs130]; exact rfl)))
    exact ⟨rfl, rfl⟩
  | succ k ih =>
    intro n hk hn H
    refine Fn.intro (en130 _) ?_
    unfold c130 Tryz.f130
    simp only [Option.getD_some]
    have hq : YP Q .quo 71 (.int .u64 (n : Int)) (.int .u64 16) = some (.int .u64 ((n / 16 : Nat) : Int)) := quo_u n 16 (by omega) hn
    have hr : YP Q .rem 71 (.int .u64 (n : Int)) (.int .u64 16) = some (.int .u64 ((n % 16 : Nat) : Int)) := rem_u n 16 (by omega)
    have w1 : IntKind.u64.wrap (((n % 16 : Nat) : Int) + 1) = ((n % 16 + 1 : Nat) : Int) := wrap64n (by omega) (by omega)
    have hsl := d16_sl (n % 16) (by omega)
    by_cases h10 : n < 16
    · have q1 : decide ((n : Int) < 16) = true := decide_eq_true (by omega)
      repeat (first|(apply Zh;exact rfl)|apply Zb|apply WO.nil|(apply WO.op;(focus (simp only [rQ,Zc,li,lo,reduceIte,Nat.reduceEqDiff,Nat.reduceAdd,beq_self_eq_true,q1];done));simp only [rE,rS,li,lo,reduceIte,Nat.reduceEqDiff,Nat.reduceAdd,Nat.reduceMul,XQ,ZF,q1,Z2,ZS,hq,hr,w1,hsl];exact rfl;exact rfl)|(apply WO.unwanted;(focus (simp only [rQ,Zc,li,lo,reduceIte,Nat.reduceEqDiff,Nat.reduceAdd,beq_self_eq_true,q1];done));exact rfl))
      (first|(apply WF.condT;(focus (simp only [Zg,Zf,Zd,Zm,Bool.not_true,Bool.not_false,reduceIte,Nat.reduceEqDiff,q1];done)))|(apply WF.condF;(focus (simp only [Zg,Zf,Zd,Zm,Bool.not_true,Bool.not_false,reduceIte,Nat.reduceEqDiff,q1];done))))
      repeat (first|(apply Zh;exact rfl)|apply Zb|apply WO.nil|(apply WO.op;(focus (simp only [rQ,Zc,li,lo,reduceIte,Nat.reduceEqDiff,Nat.reduceAdd,beq_self_eq_true,q1];done));simp only [rE,rS,li,lo,reduceIte,Nat.reduceEqDiff,Nat.reduceAdd,Nat.reduceMul,XQ,ZF,q1,Z2,ZS,hq,hr,w1,hsl];exact rfl;exact rfl)|(apply WO.unwanted;(focus (simp only [rQ,Zc,li,lo,reduceIte,Nat.reduceEqDiff,Nat.reduceAdd,beq_self_eq_true,q1];done));exact rfl))
      (apply WF.ret; (focus (simp only [Zj, Zd, Zm, Zv, reduceIte, Nat.reduceEqDiff, rs130]; exact rfl)))
      rw [Wf h10, Nat.mod_eq_of_lt h10]
      exact ⟨rfl, rfl⟩
    · have q1 : decide ((n : Int) < 16) = false := decide_eq_false (by omega)
      have hl1 := Yf 16 (n / 16)
      have hadd := Yq (P := Q) 9 (a := hx 16 (n / 16)) (b := [ch (n % 16)]) (by simp; omega)
      repeat (first|(apply Zh;exact rfl)|apply Zb|apply WO.nil|(apply WO.op;(focus (simp only [rQ,Zc,li,lo,reduceIte,Nat.reduceEqDiff,Nat.reduceAdd,beq_self_eq_true,q1];done));simp only [rE,rS,li,lo,reduceIte,Nat.reduceEqDiff,Nat.reduceAdd,Nat.reduceMul,XQ,ZF,q1,Z2,ZS,hq,hr,w1,hsl];exact rfl;exact rfl)|(apply WO.unwanted;(focus (simp only [rQ,Zc,li,lo,reduceIte,Nat.reduceEqDiff,Nat.reduceAdd,beq_self_eq_true,q1];done));exact rfl))
      (first|(apply WF.condT;(focus (simp only [Zg,Zf,Zd,Zm,Bool.not_true,Bool.not_false,reduceIte,Nat.reduceEqDiff,q1];done)))|(apply WF.condF;(focus (simp only [Zg,Zf,Zd,Zm,Bool.not_true,Bool.not_false,reduceIte,Nat.reduceEqDiff,q1];done))))
      repeat (first|(apply Zh;exact rfl)|apply Zb|apply WO.nil|(apply WO.op;(focus (simp only [rQ,Zc,li,lo,reduceIte,Nat.reduceEqDiff,Nat.reduceAdd,beq_self_eq_true,q1];done));simp only [rE,rS,li,lo,reduceIte,Nat.reduceEqDiff,Nat.reduceAdd,Nat.reduceMul,XQ,ZF,q1,Z2,ZS,hq,hr,w1,hsl];exact rfl;exact rfl)|(apply WO.unwanted;(focus (simp only [rQ,Zc,li,lo,reduceIte,Nat.reduceEqDiff,Nat.reduceAdd,beq_self_eq_true,q1];done));exact rfl))
      (apply WO.call;(focus (simp only [rQ,Zc,li,lo,reduceIte,Nat.reduceEqDiff,Nat.reduceAdd,beq_self_eq_true,q1];done));simp only [rE,rS,li,lo,reduceIte,Nat.reduceEqDiff,Nat.reduceAdd,Nat.reduceMul,XQ,ZF,q1,Z2,ZS,hq,hr,w1,hsl,cu130];exact rfl;exact ih (n / 16) (by omega) (by omega) _;rintro _ _ ⟨rfl,rfl⟩;refine ⟨_,rfl,?_⟩)
      repeat (first|(apply Zh;exact rfl)|apply Zb|apply WO.nil|(apply WO.op;(focus (simp only [rQ,Zc,li,lo,reduceIte,Nat.reduceEqDiff,Nat.reduceAdd,beq_self_eq_true,q1];done));simp only [rE,rS,li,lo,reduceIte,Nat.reduceEqDiff,Nat.reduceAdd,Nat.reduceMul,XQ,ZF,q1,Z2,ZS,hq,hr,w1,hsl,hadd];exact rfl;exact rfl)|(apply WO.unwanted;(focus (simp only [rQ,Zc,li,lo,reduceIte,Nat.reduceEqDiff,Nat.reduceAdd,beq_self_eq_true,q1];done));exact rfl))
      (apply WF.ret; (focus (simp only [Zj, Zd, Zm, Zv, reduceIte, Nat.reduceEqDiff, rs130]; exact rfl)))
      rw [hx_step (by omega) h10 hn]
      exact ⟨rfl, rfl⟩
end Go.Ev.C
end
section
set_option linter.unusedVariables false
set_option linter.unusedSimpArgs false
set_option linter.defProp false
set_option linter.all false
namespace Go.Ev.C
open Go.Proofs Go.Fmt Go.RowKit
set_option maxRecDepth 100000
set_option linter.unusedSimpArgs false
variable {L : World → Prop} [YQ Q L]
theorem digits2_c (b : Nat) (hb : 2 ≤ b) (hb' : b ≤ 16) : ∀ (k n : Nat),n ≤ k → n < 18446744073709551616 → ∀ H : AH,Fn Q L 166 [.int .u64 (n : Int),.int .u64 (b : Int)] H (fun w H' => w = .str (hx b n) ∧ H' = H) := by
  intro k
  induction k with
  | zero =>
    intro n hk hn H
    obtain rfl : n = 0 := by omega
    refine Fn.intro (en166 _ _) ?_
    unfold c166 Tryz.f166
    simp only [Option.getD_some]
    have hq := quo_u 0 b (by omega) hn
    have hr := rem_u 0 b (by omega)
    have hlt := Nat.mod_lt 0 (show 0 < b by omega)
    have w1 : IntKind.u64.wrap (((0 % b : Nat) : Int) + 1) = ((0 % b + 1 : Nat) : Int) := wrap64n (by omega) (by omega)
    have hsl := d16_sl (0 % b) (by omega)
    have q1 : decide (((0 : Nat) : Int) < (b : Int)) = true := decide_eq_true (by omega)
    iterate 5 (first|(apply Zh;exact rfl)|apply Zb|apply WO.nil|(apply WO.op;(focus (simp only [rQ,Zc,li,lo,reduceIte,Nat.reduceEqDiff,Nat.reduceAdd,beq_self_eq_true,q1];done));simp only [rE,rS,li,lo,reduceIte,Nat.reduceEqDiff,Nat.reduceAdd,Nat.reduceMul,XQ,ZF,q1,Z2,ZS,hq,hr,w1,hsl];exact rfl;exact rfl)|(apply WO.unwanted;(focus (simp only [rQ,Zc,li,lo,reduceIte,Nat.reduceEqDiff,Nat.reduceAdd,beq_self_eq_true,q1];done));exact rfl))
    (apply YB; kernel_rfl; kernel_rfl)
    (refine Zs ?_;(iterate 8 (apply ZU.pure;kernel_rfl;kernel_rfl;(focus ((simp only [rQ,Zc,li,lo,reduceIte,Nat.reduceEqDiff,Nat.reduceAdd,beq_self_eq_true,q1];done)));simp only [rE,rS,li,lo,reduceIte,Nat.reduceEqDiff,Nat.reduceAdd,Nat.reduceMul,XQ,ZF,q1,Z2,ZS,hq,hr,w1,hsl];exact rfl;exact rfl));(iterate 1 (apply ZU.later;kernel_rfl));refine ZU.nil ?_)
    (apply ZZ.eff (e := 8);kernel_rfl;simp only [li];exact rfl;(focus (simp only [rQ,Zc,li,lo,reduceIte,Nat.reduceEqDiff,Nat.reduceAdd,beq_self_eq_true,q1];done));simp only [rE,rS,li,lo,reduceIte,Nat.reduceEqDiff,Nat.reduceAdd,Nat.reduceMul,XQ,ZF,q1,Z2,ZS,hq,hr,w1,hsl];exact rfl;exact rfl;(focus exact Zx (by kernel_rfl)))
    (refine Zs ?_; (iterate 9 (apply ZU.later; kernel_rfl)); refine ZU.nil ?_)
    (apply ZZ.all; kernel_rfl; kernel_rfl)
    repeat (first|(apply Zh;exact rfl)|apply Zb|apply WO.nil|(apply WO.op;(focus (simp only [rQ,Zc,li,lo,reduceIte,Nat.reduceEqDiff,Nat.reduceAdd,beq_self_eq_true,q1];done));simp only [rE,rS,li,lo,reduceIte,Nat.reduceEqDiff,Nat.reduceAdd,Nat.reduceMul,XQ,ZF,q1,Z2,ZS,hq,hr,w1,hsl];exact rfl;exact rfl)|(apply WO.unwanted;(focus (simp only [rQ,Zc,li,lo,reduceIte,Nat.reduceEqDiff,Nat.reduceAdd,beq_self_eq_true,q1];done));exact rfl))
    (first|(apply WF.condT;(focus (simp only [Zg,Zf,Zd,Zm,Bool.not_true,Bool.not_false,reduceIte,Nat.reduceEqDiff,q1];done)))|(apply WF.condF;(focus (simp only [Zg,Zf,Zd,Zm,Bool.not_true,Bool.not_false,reduceIte,Nat.reduceEqDiff,q1];done))))
    repeat (first|(apply Zh;exact rfl)|apply Zb|apply WO.nil|(apply WO.op;(focus (simp only [rQ,Zc,li,lo,reduceIte,Nat.reduceEqDiff,Nat.reduceAdd,beq_self_eq_true,q1];done));simp only [rE,rS,li,lo,reduceIte,Nat.reduceEqDiff,Nat.reduceAdd,Nat.reduceMul,XQ,ZF,q1,Z2,ZS,hq,hr,w1,hsl];exact rfl;exact rfl)|(apply WO.unwanted;(focus (simp only [rQ,Zc,li,lo,reduceIte,Nat.reduceEqDiff,Nat.reduceAdd,beq_self_eq_true,q1];done));exact rfl))
    (apply WF.ret; (focus (simp only [Zj, Zd, Zm, Zv, reduceIte, Nat.reduceEqDiff, rs166]; exact rfl)))
    rw [Wf (by omega), Nat.mod_eq_of_lt (by omega)]
    exact ⟨rfl, rfl⟩
  | succ k ih =>
    intro n hk hn H
    refine Fn.intro (en166 _ _) ?_
    unfold c166 Tryz.f166
    simp only [Option.getD_some]
    have hq := quo_u n b (by omega) hn
    have hr := rem_u n b (by omega)
    have hlt := Nat.mod_lt n (show 0 < b by omega)
    have w1 : IntKind.u64.wrap (((n % b : Nat) : Int) + 1) = ((n % b + 1 : Nat) : Int) := wrap64n (by omega) (by omega)
    have hsl := d16_sl (n % b) (by omega)
    iterate 5 (first|(apply Zh;exact rfl)|apply Zb|apply WO.nil|(apply Zk;exact rfl;simp only [rE,rS,li,lo,reduceIte,Nat.reduceEqDiff,Nat.reduceAdd,Nat.reduceMul,Zw];exact rfl;exact rfl))
    (apply YB; kernel_rfl; kernel_rfl)
    (refine Zs ?_;(iterate 8 (apply ZU.pure;kernel_rfl;kernel_rfl;(focus ((simp only [rQ,Zc,li,lo,reduceIte,Nat.reduceEqDiff,Nat.reduceAdd,beq_self_eq_true];done)));simp only [rE,rS,li,lo,reduceIte,Nat.reduceEqDiff,Nat.reduceAdd,Nat.reduceMul,XQ,ZF,ZS,hr,w1,hsl];exact rfl;exact rfl));(iterate 1 (apply ZU.later;kernel_rfl));refine ZU.nil ?_)
    (apply ZZ.eff (e := 8);kernel_rfl;simp only [li];exact rfl;(focus (simp only [rQ,Zc,li,lo,reduceIte,Nat.reduceEqDiff,Nat.reduceAdd,beq_self_eq_true];done));simp only [rE,rS,li,lo,reduceIte,Nat.reduceEqDiff,Nat.reduceAdd,Nat.reduceMul];exact rfl;exact rfl;(focus exact Zx (by kernel_rfl)))
    (refine Zs ?_; (iterate 9 (apply ZU.later; kernel_rfl)); refine ZU.nil ?_)
    (apply ZZ.all; kernel_rfl; kernel_rfl)
    by_cases h10 : n < b
    · have q1 : decide ((n : Int) < (b : Int)) = true := decide_eq_true (by omega)
      repeat (first|(apply Zh;exact rfl)|apply Zb|apply WO.nil|(apply WO.op;(focus (simp only [rQ,Zc,li,lo,reduceIte,Nat.reduceEqDiff,Nat.reduceAdd,beq_self_eq_true,q1];done));simp only [rE,rS,li,lo,reduceIte,Nat.reduceEqDiff,Nat.reduceAdd,Nat.reduceMul,XQ,ZF,q1,Z2,ZS,hq,hr,w1,hsl];exact rfl;exact rfl)|(apply WO.unwanted;(focus (simp only [rQ,Zc,li,lo,reduceIte,Nat.reduceEqDiff,Nat.reduceAdd,beq_self_eq_true,q1];done));exact rfl))
      (first|(apply WF.condT;(focus (simp only [Zg,Zf,Zd,Zm,Bool.not_true,Bool.not_false,reduceIte,Nat.reduceEqDiff,q1];done)))|(apply WF.condF;(focus (simp only [Zg,Zf,Zd,Zm,Bool.not_true,Bool.not_false,reduceIte,Nat.reduceEqDiff,q1];done))))
      repeat (first|(apply Zh;exact rfl)|apply Zb|apply WO.nil|(apply WO.op;(focus (simp only [rQ,Zc,li,lo,reduceIte,Nat.reduceEqDiff,Nat.reduceAdd,beq_self_eq_true,q1];done));simp only [rE,rS,li,lo,reduceIte,Nat.reduceEqDiff,Nat.reduceAdd,Nat.reduceMul,XQ,ZF,q1,Z2,ZS,hq,hr,w1,hsl];exact rfl;exact rfl)|(apply WO.unwanted;(focus (simp only [rQ,Zc,li,lo,reduceIte,Nat.reduceEqDiff,Nat.reduceAdd,beq_self_eq_true,q1];done));exact rfl))
      (apply WF.ret; (focus (simp only [Zj, Zd, Zm, Zv, reduceIte, Nat.reduceEqDiff, rs166]; exact rfl)))
      rw [Wf h10, Nat.mod_eq_of_lt h10]
      exact ⟨rfl, rfl⟩
    · have q1 : decide ((n : Int) < (b : Int)) = false := decide_eq_false (by omega)
      have hdl : n / b < n := Nat.div_lt_self (by omega) (by omega)
      have hl1 := Yf b (n / b)
      have hadd := Yq (P := Q) 9 (a := hx b (n / b)) (b := [ch (n % b)]) (by simp; omega)
      repeat (first|(apply Zh;exact rfl)|apply Zb|apply WO.nil|(apply WO.op;(focus (simp only [rQ,Zc,li,lo,reduceIte,Nat.reduceEqDiff,Nat.reduceAdd,beq_self_eq_true,q1];done));simp only [rE,rS,li,lo,reduceIte,Nat.reduceEqDiff,Nat.reduceAdd,Nat.reduceMul,XQ,ZF,q1,Z2,ZS,hq,hr,w1,hsl];exact rfl;exact rfl)|(apply WO.unwanted;(focus (simp only [rQ,Zc,li,lo,reduceIte,Nat.reduceEqDiff,Nat.reduceAdd,beq_self_eq_true,q1];done));exact rfl))
      (first|(apply WF.condT;(focus (simp only [Zg,Zf,Zd,Zm,Bool.not_true,Bool.not_false,reduceIte,Nat.reduceEqDiff,q1];done)))|(apply WF.condF;(focus (simp only [Zg,Zf,Zd,Zm,Bool.not_true,Bool.not_false,reduceIte,Nat.reduceEqDiff,q1];done))))
      repeat (first|(apply Zh;exact rfl)|apply Zb|apply WO.nil|(apply WO.op;(focus (simp only [rQ,Zc,li,lo,reduceIte,Nat.reduceEqDiff,Nat.reduceAdd,beq_self_eq_true,q1];done));simp only [rE,rS,li,lo,reduceIte,Nat.reduceEqDiff,Nat.reduceAdd,Nat.reduceMul,XQ,ZF,q1,Z2,ZS,hq,hr,w1,hsl];exact rfl;exact rfl)|(apply WO.unwanted;(focus (simp only [rQ,Zc,li,lo,reduceIte,Nat.reduceEqDiff,Nat.reduceAdd,beq_self_eq_true,q1];done));exact rfl))
      (apply WO.call;(focus (simp only [rQ,Zc,li,lo,reduceIte,Nat.reduceEqDiff,Nat.reduceAdd,beq_self_eq_true,q1];done));simp only [rE,rS,li,lo,reduceIte,Nat.reduceEqDiff,Nat.reduceAdd,Nat.reduceMul,XQ,ZF,q1,Z2,ZS,hq,hr,w1,hsl,Z9];exact rfl;exact ih (n / b) (by omega) (by omega) _;rintro _ _ ⟨rfl,rfl⟩;refine ⟨_,rfl,?_⟩)
      repeat (first|(apply Zh;exact rfl)|apply Zb|apply WO.nil|(apply WO.op;(focus (simp only [rQ,Zc,li,lo,reduceIte,Nat.reduceEqDiff,Nat.reduceAdd,beq_self_eq_true,q1];done));simp only [rE,rS,li,lo,reduceIte,Nat.reduceEqDiff,Nat.reduceAdd,Nat.reduceMul,XQ,ZF,q1,Z2,ZS,hq,hr,w1,hsl,hadd];exact rfl;exact rfl)|(apply WO.unwanted;(focus (simp only [rQ,Zc,li,lo,reduceIte,Nat.reduceEqDiff,Nat.reduceAdd,beq_self_eq_true,q1];done));exact rfl))
      (apply WF.ret; (focus (simp only [Zj, Zd, Zm, Zv, reduceIte, Nat.reduceEqDiff, rs166]; exact rfl)))
      rw [hx_step (by omega) h10 hn]
      exact ⟨rfl, rfl⟩
end Go.Ev.C
end
section
set_option linter.unusedVariables false
set_option linter.unusedSimpArgs false
set_option linter.defProp false
set_option linter.all false
namespace Go.Ev.C
open Go.Proofs Go.Fmt Go.RowKit
set_option maxRecDepth 100000
set_option linter.unusedSimpArgs false
variable {L : World → Prop} [YQ Q L]
set_option maxHeartbeats 2000000 in
theorem pattern2_c (H : AH) (x : XB) (sv : AV) (hsv1 : Ye sv = true) (hk : x.kind = 1 → (Ys x.size x.sg).isSome = true) : Fn Q L 167 [IV x sv] H (fun w H' => w = .int .u64 (Wa x : Int) ∧ H' = H) := by
  refine Y2 (en167 _) rfl ?_
  generalize lock H = H
  obtain ⟨act, val, kind, size, sg, ref, vstr, vn, vs⟩ := x
  have m1 : IntKind.i64.wrap (8 * 1) = 8 := rfl
  have m2 : IntKind.i64.wrap (8 * 2) = 16 := rfl
  have m3 : IntKind.i64.wrap (8 * 4) = 32 := rfl
  have wv : IntKind.u64.wrap vn = ((u64N vn : Nat) : Int) := (Wt vn).symm
  unfold c167 Tryz.f167 IV IC
  simp only [Option.getD_some]
  cases q1 : decide (kind = 1)
  · repeat (first|(apply Zh;exact rfl)|apply Zb|apply WO.nil|(apply WO.op;(focus (simp only [rQ,Zc,li,lo,reduceIte,Nat.reduceEqDiff,Nat.reduceAdd,beq_self_eq_true,q1];done));simp only [rE,rS,li,lo,reduceIte,Nat.reduceEqDiff,Nat.reduceAdd,Nat.reduceMul,ZT,Zr,Zz,Zy,Zo,ZW,Za ZM,Za Zt,hsv1,ZN,Yx,ZY,YA,Yy,ZS,YV,m1,m2,m3,wv,shl8,Ww,Wv,q1];exact rfl;exact rfl)|(apply WO.unwanted;(focus (simp only [rQ,Zc,li,lo,reduceIte,Nat.reduceEqDiff,Nat.reduceAdd,beq_self_eq_true,q1];done));exact rfl))
    (first|(apply WF.condT;(focus (simp only [Zg,Zf,Zd,Zm,Bool.not_true,Bool.not_false,reduceIte,Nat.reduceEqDiff];done)))|(apply WF.condF;(focus (simp only [Zg,Zf,Zd,Zm,Bool.not_true,Bool.not_false,reduceIte,Nat.reduceEqDiff];done))))
    repeat (first|(apply Zh;exact rfl)|apply Zb|apply WO.nil|(apply Zk;exact rfl;simp only [rE,rS,li,lo,reduceIte,Nat.reduceEqDiff,Nat.reduceAdd,Nat.reduceMul,ZT,Zr,Zz,Zy,Zo,ZW,Za ZM,Za Zt,hsv1,ZN,Yx,ZY,YA,Yy,ZS,YV,m1,m2,m3,wv,shl8,Ww,Wv];exact rfl;exact rfl))
    (apply WF.ret; (focus (simp only [Zj, Zd, Zm, Zv, reduceIte, Nat.reduceEqDiff, rs167]; exact rfl)))
    have := of_decide_eq_false q1
    simp [Wa, this]
  obtain rfl := of_decide_eq_true q1
  have hz : size = 1 ∨ size = 2 ∨ size = 4 ∨ size = 8 := by
    have h' : (Ys size sg).isSome = true := hk rfl
    unfold Ys at h'
    by_cases h1 : size = 1
    · exact .inl h1
    by_cases h2 : size = 2
    · exact .inr (.inl h2)
    by_cases h3 : size = 4
    · exact .inr (.inr (.inl h3))
    by_cases h4 : size = 8
    · exact .inr (.inr (.inr h4))
    simp [h1, h2, h3, h4] at h'
  rcases hz with rfl | rfl | rfl | rfl
  · have q2 : decide ((1 : Int) < 8) = true := rfl
    have hr : YP Q .rem 71 (.int .u64 ((u64N vn : Nat) : Int)) (.int .u64 256) = some (.int .u64 ((u64N vn % 256 : Nat) : Int)) := rem_u _ 256 (by omega)
    repeat (first|(apply Zh;exact rfl)|apply Zb|apply WO.nil|(apply WO.op;(focus (simp only [rQ,Zc,li,lo,reduceIte,Nat.reduceEqDiff,Nat.reduceAdd,beq_self_eq_true,q1,q2];done));simp only [rE,rS,li,lo,reduceIte,Nat.reduceEqDiff,Nat.reduceAdd,Nat.reduceMul,ZT,Zr,Zz,Zy,Zo,ZW,Za ZM,Za Zt,hsv1,ZN,Yx,ZY,YA,Yy,ZS,YV,m1,m2,m3,wv,shl8,Ww,Wv,q1,q2];exact rfl;exact rfl)|(apply WO.unwanted;(focus (simp only [rQ,Zc,li,lo,reduceIte,Nat.reduceEqDiff,Nat.reduceAdd,beq_self_eq_true,q1,q2];done));exact rfl))
    (first|(apply WF.condT;(focus (simp only [Zg,Zf,Zd,Zm,Bool.not_true,Bool.not_false,reduceIte,Nat.reduceEqDiff];done)))|(apply WF.condF;(focus (simp only [Zg,Zf,Zd,Zm,Bool.not_true,Bool.not_false,reduceIte,Nat.reduceEqDiff];done))))
    repeat (first|(apply Zh;exact rfl)|apply Zb|apply WO.nil|(apply Zk;exact rfl;simp only [rE,rS,li,lo,reduceIte,Nat.reduceEqDiff,Nat.reduceAdd,Nat.reduceMul,ZT,Zr,Zz,Zy,Zo,ZW,Za ZM,Za Zt,hsv1,ZN,Yx,ZY,YA,Yy,ZS,YV,m1,m2,m3,wv,shl8,Ww,Wv,hr];exact rfl;exact rfl))
    (apply WF.ret; (focus (simp only [Zj, Zd, Zm, Zv, reduceIte, Nat.reduceEqDiff, rs167]; exact rfl)))
    rfl
  · have q2 : decide ((2 : Int) < 8) = true := rfl
    have hr : YP Q .rem 71 (.int .u64 ((u64N vn : Nat) : Int)) (.int .u64 65536) = some (.int .u64 ((u64N vn % 65536 : Nat) : Int)) := rem_u _ 65536 (by omega)
    repeat (first|(apply Zh;exact rfl)|apply Zb|apply WO.nil|(apply WO.op;(focus (simp only [rQ,Zc,li,lo,reduceIte,Nat.reduceEqDiff,Nat.reduceAdd,beq_self_eq_true,q1,q2];done));simp only [rE,rS,li,lo,reduceIte,Nat.reduceEqDiff,Nat.reduceAdd,Nat.reduceMul,ZT,Zr,Zz,Zy,Zo,ZW,Za ZM,Za Zt,hsv1,ZN,Yx,ZY,YA,Yy,ZS,YV,m1,m2,m3,wv,shl8,Ww,Wv,q1,q2];exact rfl;exact rfl)|(apply WO.unwanted;(focus (simp only [rQ,Zc,li,lo,reduceIte,Nat.reduceEqDiff,Nat.reduceAdd,beq_self_eq_true,q1,q2];done));exact rfl))
    (first|(apply WF.condT;(focus (simp only [Zg,Zf,Zd,Zm,Bool.not_true,Bool.not_false,reduceIte,Nat.reduceEqDiff];done)))|(apply WF.condF;(focus (simp only [Zg,Zf,Zd,Zm,Bool.not_true,Bool.not_false,reduceIte,Nat.reduceEqDiff];done))))
    repeat (first|(apply Zh;exact rfl)|apply Zb|apply WO.nil|(apply Zk;exact rfl;simp only [rE,rS,li,lo,reduceIte,Nat.reduceEqDiff,Nat.reduceAdd,Nat.reduceMul,ZT,Zr,Zz,Zy,Zo,ZW,Za ZM,Za Zt,hsv1,ZN,Yx,ZY,YA,Yy,ZS,YV,m1,m2,m3,wv,shl8,Ww,Wv,hr];exact rfl;exact rfl))
    (apply WF.ret; (focus (simp only [Zj, Zd, Zm, Zv, reduceIte, Nat.reduceEqDiff, rs167]; exact rfl)))
    rfl
  · have q2 : decide ((4 : Int) < 8) = true := rfl
    have hr : YP Q .rem 71 (.int .u64 ((u64N vn : Nat) : Int)) (.int .u64 4294967296) = some (.int .u64 ((u64N vn % 4294967296 : Nat) : Int)) := rem_u _ 4294967296 (by omega)
    repeat (first|(apply Zh;exact rfl)|apply Zb|apply WO.nil|(apply WO.op;(focus (simp only [rQ,Zc,li,lo,reduceIte,Nat.reduceEqDiff,Nat.reduceAdd,beq_self_eq_true,q1,q2];done));simp only [rE,rS,li,lo,reduceIte,Nat.reduceEqDiff,Nat.reduceAdd,Nat.reduceMul,ZT,Zr,Zz,Zy,Zo,ZW,Za ZM,Za Zt,hsv1,ZN,Yx,ZY,YA,Yy,ZS,YV,m1,m2,m3,wv,shl8,Ww,Wv,q1,q2];exact rfl;exact rfl)|(apply WO.unwanted;(focus (simp only [rQ,Zc,li,lo,reduceIte,Nat.reduceEqDiff,Nat.reduceAdd,beq_self_eq_true,q1,q2];done));exact rfl))
    (first|(apply WF.condT;(focus (simp only [Zg,Zf,Zd,Zm,Bool.not_true,Bool.not_false,reduceIte,Nat.reduceEqDiff];done)))|(apply WF.condF;(focus (simp only [Zg,Zf,Zd,Zm,Bool.not_true,Bool.not_false,reduceIte,Nat.reduceEqDiff];done))))
    repeat (first|(apply Zh;exact rfl)|apply Zb|apply WO.nil|(apply Zk;exact rfl;simp only [rE,rS,li,lo,reduceIte,Nat.reduceEqDiff,Nat.reduceAdd,Nat.reduceMul,ZT,Zr,Zz,Zy,Zo,ZW,Za ZM,Za Zt,hsv1,ZN,Yx,ZY,YA,Yy,ZS,YV,m1,m2,m3,wv,shl8,Ww,Wv,hr];exact rfl;exact rfl))
    (apply WF.ret; (focus (simp only [Zj, Zd, Zm, Zv, reduceIte, Nat.reduceEqDiff, rs167]; exact rfl)))
    rfl
  · have q2 : decide ((8 : Int) < 8) = false := rfl
    repeat (first|(apply Zh;exact rfl)|apply Zb|apply WO.nil|(apply WO.op;(focus (simp only [rQ,Zc,li,lo,reduceIte,Nat.reduceEqDiff,Nat.reduceAdd,beq_self_eq_true,q1,q2];done));simp only [rE,rS,li,lo,reduceIte,Nat.reduceEqDiff,Nat.reduceAdd,Nat.reduceMul,ZT,Zr,Zz,Zy,Zo,ZW,Za ZM,Za Zt,hsv1,ZN,Yx,ZY,YA,Yy,ZS,YV,m1,m2,m3,wv,shl8,Ww,Wv,q1,q2];exact rfl;exact rfl)|(apply WO.unwanted;(focus (simp only [rQ,Zc,li,lo,reduceIte,Nat.reduceEqDiff,Nat.reduceAdd,beq_self_eq_true,q1,q2];done));exact rfl))
    (first|(apply WF.condT;(focus (simp only [Zg,Zf,Zd,Zm,Bool.not_true,Bool.not_false,reduceIte,Nat.reduceEqDiff];done)))|(apply WF.condF;(focus (simp only [Zg,Zf,Zd,Zm,Bool.not_true,Bool.not_false,reduceIte,Nat.reduceEqDiff];done))))
    repeat (first|(apply Zh;exact rfl)|apply Zb|apply WO.nil|(apply Zk;exact rfl;simp only [rE,rS,li,lo,reduceIte,Nat.reduceEqDiff,Nat.reduceAdd,Nat.reduceMul,ZT,Zr,Zz,Zy,Zo,ZW,Za ZM,Za Zt,hsv1,ZN,Yx,ZY,YA,Yy,ZS,YV,m1,m2,m3,wv,shl8,Ww,Wv];exact rfl;exact rfl))
    (apply WF.ret; (focus (simp only [Zj, Zd, Zm, Zv, reduceIte, Nat.reduceEqDiff, rs167]; exact rfl)))
    rfl
end Go.Ev.C
end
section
set_option linter.unusedVariables false
set_option linter.unusedSimpArgs false
set_option linter.defProp false
set_option linter.all false
namespace Go.Ev.C
open Go.Proofs Go.Fmt Go.RowKit
set_option maxRecDepth 100000
set_option linter.unusedSimpArgs false
variable {L : World → Prop} [YQ Q L]
theorem XS (k : IntKind) (n : Int) : unU .neg (.int k n) = some (.int k (k.wrap (0 - n))) := rfl
theorem bts45 : Xt ⟨#[45]⟩ = [45] := rfl
set_option maxHeartbeats 2000000 in
theorem text64_c (H : AH) (v : Int) (h0 : -9223372036854775808 ≤ v) (h1 : v ≤ 9223372036854775807) : Fn Q L 231 [.agg [.int .i64 8,.bool true],.int .i64 v] H (fun w H' => w = .tuple [.str (dec v),.int .i64 0] ∧ H' = H) := by
  refine Y2 (en231 _ _) rfl ?_
  generalize lock H = H
  have hc1 : ∀ H, Fn Q L 82 [.agg [.int .i64 8, .bool true]] H (fun w H' => w = .int .i64 0 ∧ H' = H) := fun H => chk_c H 8 true
  have hc2 : ∀ H, Fn Q L 127 [.agg [.int .i64 8, .bool true], .int .i64 v] H (fun w H' => w = .int .i64 v ∧ H' = H) := fun H => wrapped_c H 8 true v
  have d0 : decide ((0 : Int) = 0) = true := rfl
  unfold c231 Tryz.f231
  simp only [Option.getD_some]
  repeat (first|(apply Zh;exact rfl)|apply Zb|apply WO.nil|(apply WO.op;(focus (simp only [rQ,Zc,li,lo,reduceIte,Nat.reduceEqDiff,Nat.reduceAdd,beq_self_eq_true,d0];done));simp only [rE,rS,li,lo,reduceIte,Nat.reduceEqDiff,Nat.reduceAdd,Nat.reduceMul,ZW,Z8,Za ZM,Za Z0,Ze Zu ZJ,ZG,Zl,Zp,ZN,Yx,ZY,XS,Zw,bts45,d0];exact rfl;exact rfl)|(apply WO.unwanted;(focus (simp only [rQ,Zc,li,lo,reduceIte,Nat.reduceEqDiff,Nat.reduceAdd,beq_self_eq_true,d0];done));exact rfl))
  (apply WO.call;(focus (simp only [rQ,Zc,li,lo,reduceIte,Nat.reduceEqDiff,Nat.reduceAdd,beq_self_eq_true,d0];done));simp only [rE,rS,li,lo,reduceIte,Nat.reduceEqDiff,Nat.reduceAdd,Nat.reduceMul,ZW,Z8,Za ZM,Za Z0,Ze Zu ZJ,ZG,Zl,Zp,ZN,Yx,ZY,XS,Zw,bts45,d0,cu82];exact rfl;exact hc1 _;rintro _ _ ⟨rfl,rfl⟩;refine ⟨_,rfl,?_⟩)
  repeat (first|(apply Zh;exact rfl)|apply Zb|apply WO.nil|(apply WO.op;(focus (simp only [rQ,Zc,li,lo,reduceIte,Nat.reduceEqDiff,Nat.reduceAdd,beq_self_eq_true,d0];done));simp only [rE,rS,li,lo,reduceIte,Nat.reduceEqDiff,Nat.reduceAdd,Nat.reduceMul,ZW,Z8,Za ZM,Za Z0,Ze Zu ZJ,ZG,Zl,Zp,ZN,Yx,ZY,XS,Zw,bts45,d0];exact rfl;exact rfl)|(apply WO.unwanted;(focus (simp only [rQ,Zc,li,lo,reduceIte,Nat.reduceEqDiff,Nat.reduceAdd,beq_self_eq_true,d0];done));exact rfl))
  (first|(apply WF.condT;(focus (simp only [Zg,Zf,Zd,Zm,Bool.not_true,Bool.not_false,reduceIte,Nat.reduceEqDiff,d0];done)))|(apply WF.condF;(focus (simp only [Zg,Zf,Zd,Zm,Bool.not_true,Bool.not_false,reduceIte,Nat.reduceEqDiff,d0];done))))
  repeat (first|(apply Zh;exact rfl)|apply Zb|apply WO.nil|(apply WO.op;(focus (simp only [rQ,Zc,li,lo,reduceIte,Nat.reduceEqDiff,Nat.reduceAdd,beq_self_eq_true,d0];done));simp only [rE,rS,li,lo,reduceIte,Nat.reduceEqDiff,Nat.reduceAdd,Nat.reduceMul,ZW,Z8,Za ZM,Za Z0,Ze Zu ZJ,ZG,Zl,Zp,ZN,Yx,ZY,XS,Zw,bts45,d0];exact rfl;exact rfl)|(apply WO.unwanted;(focus (simp only [rQ,Zc,li,lo,reduceIte,Nat.reduceEqDiff,Nat.reduceAdd,beq_self_eq_true,d0];done));exact rfl))
  (apply WO.call;(focus (simp only [rQ,Zc,li,lo,reduceIte,Nat.reduceEqDiff,Nat.reduceAdd,beq_self_eq_true,d0];done));simp only [rE,rS,li,lo,reduceIte,Nat.reduceEqDiff,Nat.reduceAdd,Nat.reduceMul,ZW,Z8,Za ZM,Za Z0,Ze Zu ZJ,ZG,Zl,Zp,ZN,Yx,ZY,XS,Zw,bts45,d0,cu127];exact rfl;exact hc2 _;rintro _ _ ⟨rfl,rfl⟩;refine ⟨_,rfl,?_⟩)
  repeat (first|(apply Zh;exact rfl)|apply Zb|apply WO.nil|(apply WO.op;(focus (simp only [rQ,Zc,li,lo,reduceIte,Nat.reduceEqDiff,Nat.reduceAdd,beq_self_eq_true,d0];done));simp only [rE,rS,li,lo,reduceIte,Nat.reduceEqDiff,Nat.reduceAdd,Nat.reduceMul,ZW,Z8,Za ZM,Za Z0,Ze Zu ZJ,ZG,Zl,Zp,ZN,Yx,ZY,XS,Zw,bts45,d0];exact rfl;exact rfl)|(apply WO.unwanted;(focus (simp only [rQ,Zc,li,lo,reduceIte,Nat.reduceEqDiff,Nat.reduceAdd,beq_self_eq_true,d0];done));exact rfl))
  cases q1 : decide (v < 0)
  · have hv := of_decide_eq_false q1
    have wv : IntKind.u64.wrap v = ((v.natAbs : Nat) : Int) := wrap64n (by omega) (by omega)
    repeat (first|(apply Zh;exact rfl)|apply Zb|apply WO.nil|(apply WO.op;(focus (simp only [rQ,Zc,li,lo,reduceIte,Nat.reduceEqDiff,Nat.reduceAdd,beq_self_eq_true,d0,q1];done));simp only [rE,rS,li,lo,reduceIte,Nat.reduceEqDiff,Nat.reduceAdd,Nat.reduceMul,ZW,Z8,Za ZM,Za Z0,Ze Zu ZJ,ZG,Zl,Zp,ZN,Yx,ZY,XS,Zw,bts45,d0,q1];exact rfl;exact rfl)|(apply WO.unwanted;(focus (simp only [rQ,Zc,li,lo,reduceIte,Nat.reduceEqDiff,Nat.reduceAdd,beq_self_eq_true,d0,q1];done));exact rfl))
    (first|(apply WF.condT;(focus (simp only [Zg,Zf,Zd,Zm,Bool.not_true,Bool.not_false,reduceIte,Nat.reduceEqDiff];done)))|(apply WF.condF;(focus (simp only [Zg,Zf,Zd,Zm,Bool.not_true,Bool.not_false,reduceIte,Nat.reduceEqDiff];done))))
    repeat (first|(apply Zh;exact rfl)|apply Zb|apply WO.nil|(apply WO.op;(focus (simp only [rQ,Zc,li,lo,reduceIte,Nat.reduceEqDiff,Nat.reduceAdd,beq_self_eq_true,d0];done));simp only [rE,rS,li,lo,reduceIte,Nat.reduceEqDiff,Nat.reduceAdd,Nat.reduceMul,ZW,Z8,Za ZM,Za Z0,Ze Zu ZJ,ZG,Zl,Zp,ZN,Yx,ZY,XS,Zw,bts45,d0,wv];exact rfl;exact rfl)|(apply WO.unwanted;(focus (simp only [rQ,Zc,li,lo,reduceIte,Nat.reduceEqDiff,Nat.reduceAdd,beq_self_eq_true,d0];done));exact rfl))
    (apply WO.call;(focus (simp only [rQ,Zc,li,lo,reduceIte,Nat.reduceEqDiff,Nat.reduceAdd,beq_self_eq_true,d0];done));simp only [rE,rS,li,lo,reduceIte,Nat.reduceEqDiff,Nat.reduceAdd,Nat.reduceMul,ZW,Z8,Za ZM,Za Z0,Ze Zu ZJ,ZG,Zl,Zp,ZN,Yx,ZY,XS,Zw,bts45,d0,cu131];exact rfl;exact digits1_c v.natAbs v.natAbs (Nat.le_refl _) (by omega) _;rintro _ _ ⟨rfl,rfl⟩;refine ⟨_,rfl,?_⟩)
    repeat (first|(apply Zh;exact rfl)|apply Zb|apply WO.nil|(apply WO.op;(focus (simp only [rQ,Zc,li,lo,reduceIte,Nat.reduceEqDiff,Nat.reduceAdd,beq_self_eq_true,d0];done));simp only [rE,rS,li,lo,reduceIte,Nat.reduceEqDiff,Nat.reduceAdd,Nat.reduceMul,ZW,Z8,Za ZM,Za Z0,Ze Zu ZJ,ZG,Zl,Zp,ZN,Yx,ZY,XS,Zw,bts45,d0];exact rfl;exact rfl)|(apply WO.unwanted;(focus (simp only [rQ,Zc,li,lo,reduceIte,Nat.reduceEqDiff,Nat.reduceAdd,beq_self_eq_true,d0];done));exact rfl))
    (apply WF.ret; (focus (simp only [Zj, Zd, Zm, Zv, reduceIte, Nat.reduceEqDiff, rs231]; exact rfl)))
    unfold dec
    rw [if_neg hv]
  · have hv := of_decide_eq_true q1
    have w1 : IntKind.i64.wrap (v + 1) = v + 1 := Go.Ev.w64 (by omega) (by omega)
    have w2 : IntKind.i64.wrap (0 - (v + 1)) = ((v.natAbs - 1 : Nat) : Int) := by rw [Go.Ev.w64 (by omega) (by omega)]; omega
    have w3 : IntKind.u64.wrap ((v.natAbs - 1 : Nat) : Int) = ((v.natAbs - 1 : Nat) : Int) := wrap64n rfl (by omega)
    have w4 : IntKind.u64.wrap (((v.natAbs - 1 : Nat) : Int) + 1) = ((v.natAbs : Nat) : Int) := wrap64n (by omega) (by omega)
    have hl1 := Yf 10 v.natAbs
    have hadd := Yq (P := Q) 9 (a := [45]) (b := hx 10 v.natAbs) (by simp; omega)
    repeat (first|(apply Zh;exact rfl)|apply Zb|apply WO.nil|(apply WO.op;(focus (simp only [rQ,Zc,li,lo,reduceIte,Nat.reduceEqDiff,Nat.reduceAdd,beq_self_eq_true,d0,q1];done));simp only [rE,rS,li,lo,reduceIte,Nat.reduceEqDiff,Nat.reduceAdd,Nat.reduceMul,ZW,Z8,Za ZM,Za Z0,Ze Zu ZJ,ZG,Zl,Zp,ZN,Yx,ZY,XS,Zw,bts45,d0,q1];exact rfl;exact rfl)|(apply WO.unwanted;(focus (simp only [rQ,Zc,li,lo,reduceIte,Nat.reduceEqDiff,Nat.reduceAdd,beq_self_eq_true,d0,q1];done));exact rfl))
    (first|(apply WF.condT;(focus (simp only [Zg,Zf,Zd,Zm,Bool.not_true,Bool.not_false,reduceIte,Nat.reduceEqDiff];done)))|(apply WF.condF;(focus (simp only [Zg,Zf,Zd,Zm,Bool.not_true,Bool.not_false,reduceIte,Nat.reduceEqDiff];done))))
    repeat (first|(apply Zh;exact rfl)|apply Zb|apply WO.nil|(apply WO.op;(focus (simp only [rQ,Zc,li,lo,reduceIte,Nat.reduceEqDiff,Nat.reduceAdd,beq_self_eq_true,d0];done));simp only [rE,rS,li,lo,reduceIte,Nat.reduceEqDiff,Nat.reduceAdd,Nat.reduceMul,ZW,Z8,Za ZM,Za Z0,Ze Zu ZJ,ZG,Zl,Zp,ZN,Yx,ZY,XS,Zw,bts45,d0,w1,w2,w3,w4];exact rfl;exact rfl)|(apply WO.unwanted;(focus (simp only [rQ,Zc,li,lo,reduceIte,Nat.reduceEqDiff,Nat.reduceAdd,beq_self_eq_true,d0];done));exact rfl))
    (apply WO.call;(focus (simp only [rQ,Zc,li,lo,reduceIte,Nat.reduceEqDiff,Nat.reduceAdd,beq_self_eq_true,d0];done));simp only [rE,rS,li,lo,reduceIte,Nat.reduceEqDiff,Nat.reduceAdd,Nat.reduceMul,ZW,Z8,Za ZM,Za Z0,Ze Zu ZJ,ZG,Zl,Zp,ZN,Yx,ZY,XS,Zw,bts45,d0,w1,w2,w3,w4,cu131];exact rfl;exact digits1_c v.natAbs v.natAbs (Nat.le_refl _) (by omega) _;rintro _ _ ⟨rfl,rfl⟩;refine ⟨_,rfl,?_⟩)
    repeat (first|(apply Zh;exact rfl)|apply Zb|apply WO.nil|(apply WO.op;(focus (simp only [rQ,Zc,li,lo,reduceIte,Nat.reduceEqDiff,Nat.reduceAdd,beq_self_eq_true,d0];done));simp only [rE,rS,li,lo,reduceIte,Nat.reduceEqDiff,Nat.reduceAdd,Nat.reduceMul,ZW,Z8,Za ZM,Za Z0,Ze Zu ZJ,ZG,Zl,Zp,ZN,Yx,ZY,XS,Zw,bts45,d0,hadd];exact rfl;exact rfl)|(apply WO.unwanted;(focus (simp only [rQ,Zc,li,lo,reduceIte,Nat.reduceEqDiff,Nat.reduceAdd,beq_self_eq_true,d0];done));exact rfl))
    (apply WF.ret; (focus (simp only [Zj, Zd, Zm, Zv, reduceIte, Nat.reduceEqDiff, rs231]; exact rfl)))
    unfold dec
    rw [if_pos hv]
    rfl
theorem bu64 : buildU Q 64 [(0, .int .i64 8), (1, .bool true)] = some (.agg [.int .i64 8, .bool true]) := by kernel_rfl
theorem signed_c (H : AH) (v : Int) (h0 : -9223372036854775808 ≤ v) (h1 : v ≤ 9223372036854775807) : Fn Q L 165 [.int .i64 v] H (fun w H' => w = .str (dec v) ∧ H' = H) := by
  refine Fn.intro (en165 _) ?_
  unfold c165 Tryz.f165
  simp only [Option.getD_some]
  repeat (first|(apply Zh;exact rfl)|apply Zb|apply WO.nil|(apply Zk;exact rfl;simp only [rE,rS,li,lo,reduceIte,Nat.reduceEqDiff,Nat.reduceAdd,Nat.reduceMul,ZW,Z8,Za ZM,Za Z0,Ze Zu ZJ,ZG,Zl,Zp,ZN,Yx,ZY,XS,Zw,bts45,YX,bu64];exact rfl;exact rfl))
  (apply WO.call;(focus (simp only [rQ,Zc,li,lo,reduceIte,Nat.reduceEqDiff,Nat.reduceAdd,beq_self_eq_true];done));simp only [rE,rS,li,lo,reduceIte,Nat.reduceEqDiff,Nat.reduceAdd,Nat.reduceMul,ZW,Z8,Za ZM,Za Z0,Ze Zu ZJ,ZG,Zl,Zp,ZN,Yx,ZY,XS,Zw,bts45,YX,bu64,cu231];exact rfl;exact text64_c _ v h0 h1;rintro _ _ ⟨rfl,rfl⟩;refine ⟨_,rfl,?_⟩)
  repeat (first|(apply Zh;exact rfl)|apply Zb|apply WO.nil|(apply Zk;exact rfl;simp only [rE,rS,li,lo,reduceIte,Nat.reduceEqDiff,Nat.reduceAdd,Nat.reduceMul,ZW,Z8,Za ZM,Za Z0,Ze Zu ZJ,ZG,Zl,Zp,ZN,Yx,ZY,XS,Zw,bts45];exact rfl;exact rfl))
  (apply WF.ret; (focus (simp only [Zj, Zd, Zm, Zv, reduceIte, Nat.reduceEqDiff, rs165]; exact rfl)))
  exact ⟨rfl, rfl⟩
end Go.Ev.C
end
section
set_option linter.unusedVariables false
set_option linter.unusedSimpArgs false
set_option linter.defProp false
set_option linter.all false
namespace Go.Ev.C
open Go.Proofs Go.Fmt Go.RowKit
set_option maxRecDepth 100000
set_option linter.unusedSimpArgs false
variable {L : World → Prop} [YQ Q L]
set_option maxHeartbeats 2000000 in
theorem letter115_c (H : AH) (x : XB) (sv : AV) (hok : ItOk x sv) : Fn Q L 128 [.int .u8 115, IV x sv] H (fun w H' => w = .str (ZK 115 x) ∧ H' = H) := by
  refine Y2 (en128 _ _) rfl ?_
  generalize lock H = H
  have cutA := cut10 (Zl .i64 x.act) (Zl .i64 x.val) (Zl .i64 x.kind) (Zl .i64 x.size) (Zp x.sg) (Zl .i64 x.ref) (Zp x.vstr) (Zl .i64 x.vn) (Y0 x.vs) hok.solid
  unfold c128 Tryz.f128 IV IC
  simp only [Option.getD_some]
  repeat (first|(apply Zh;exact rfl)|apply Zb|apply WO.nil|(apply Zk;exact rfl;simp only [rE,rS,li,lo,reduceIte,Nat.reduceEqDiff,Nat.reduceAdd,Nat.reduceMul,cutA,Zr,Zo,Zq,Ze ZE ZR,Za Zt,Za ZA,hok.one,hok.solid,Int.reduceEq,decide_false,Yd,Z9,Yc,Zw];exact rfl;exact rfl))
  (first|(apply WF.condT;(focus (simp only [Zg,Zf,Zd,Zm,Bool.not_true,Bool.not_false,reduceIte,Nat.reduceEqDiff,Int.reduceEq,decide_true];done)))|(apply WF.condF;(focus (simp only [Zg,Zf,Zd,Zm,Bool.not_true,Bool.not_false,reduceIte,Nat.reduceEqDiff,Int.reduceEq,decide_true];done))))
  repeat (first|(apply Zh;exact rfl)|apply Zb|apply WO.nil|(apply Zk;exact rfl;simp only [rE,rS,li,lo,reduceIte,Nat.reduceEqDiff,Nat.reduceAdd,Nat.reduceMul,cutA,Zr,Zo,Zq,Ze ZE ZR,Za Zt,Za ZA,hok.one,hok.solid,Int.reduceEq,decide_false,Yd,Z9,Yc,Zw];exact rfl;exact rfl))
  (apply WF.ret; (focus (simp only [Zj, Zd, Zm, Zv, reduceIte, Nat.reduceEqDiff, rs128]; exact rfl)))
  simp [ZK]
set_option maxHeartbeats 2000000 in
theorem letter100_c (H : AH) (x : XB) (sv : AV) (hok : ItOk x sv) : Fn Q L 128 [.int .u8 100, IV x sv] H (fun w H' => w = .str (ZK 100 x) ∧ H' = H) := by
  refine Y2 (en128 _ _) rfl ?_
  generalize lock H = H
  have cutA := cut10 (Zl .i64 x.act) (Zl .i64 x.val) (Zl .i64 x.kind) (Zl .i64 x.size) (Zp x.sg) (Zl .i64 x.ref) (Zp x.vstr) (Zl .i64 x.vn) (Y0 x.vs) hok.solid
  unfold c128 Tryz.f128 IV IC
  simp only [Option.getD_some]
  repeat (first|(apply Zh;exact rfl)|apply Zb|apply WO.nil|(apply Zk;exact rfl;simp only [rE,rS,li,lo,reduceIte,Nat.reduceEqDiff,Nat.reduceAdd,Nat.reduceMul,cutA,Zr,Zo,Zq,Ze ZE ZR,Za Zt,Za ZA,hok.one,hok.solid,Int.reduceEq,decide_false,Yd,Z9,Yc,Zw];exact rfl;exact rfl))
  (first|(apply WF.condT;(focus (simp only [Zg,Zf,Zd,Zm,Bool.not_true,Bool.not_false,reduceIte,Nat.reduceEqDiff,Int.reduceEq,decide_false];done)))|(apply WF.condF;(focus (simp only [Zg,Zf,Zd,Zm,Bool.not_true,Bool.not_false,reduceIte,Nat.reduceEqDiff,Int.reduceEq,decide_false];done))))
  repeat (first|(apply Zh;exact rfl)|apply Zb|apply WO.nil|(apply Zk;exact rfl;simp only [rE,rS,li,lo,reduceIte,Nat.reduceEqDiff,Nat.reduceAdd,Nat.reduceMul,cutA,Zr,Zo,Zq,Ze ZE ZR,Za Zt,Za ZA,hok.one,hok.solid,Int.reduceEq,decide_false,Yd,Z9,Yc,Zw];exact rfl;exact rfl))
  (first|(apply WF.condT;(focus (simp only [Zg,Zf,Zd,Zm,Bool.not_true,Bool.not_false,reduceIte,Nat.reduceEqDiff,Int.reduceEq,decide_true];done)))|(apply WF.condF;(focus (simp only [Zg,Zf,Zd,Zm,Bool.not_true,Bool.not_false,reduceIte,Nat.reduceEqDiff,Int.reduceEq,decide_true];done))))
  repeat (first|(apply Zh;exact rfl)|apply Zb|apply WO.nil|(apply Zk;exact rfl;simp only [rE,rS,li,lo,reduceIte,Nat.reduceEqDiff,Nat.reduceAdd,Nat.reduceMul,cutA,Zr,Zo,Zq,Ze ZE ZR,Za Zt,Za ZA,hok.one,hok.solid,Int.reduceEq,decide_false,Yd,Z9,Yc,Zw];exact rfl;exact rfl))
  (apply WO.call;(focus (simp only [rQ,Zc,li,lo,reduceIte,Nat.reduceEqDiff,Nat.reduceAdd,beq_self_eq_true];done));simp only [rE,rS,li,lo,reduceIte,Nat.reduceEqDiff,Nat.reduceAdd,Nat.reduceMul,cutA,Zr,Zo,Zq,Ze ZE ZR,Za Zt,Za ZA,hok.one,hok.solid,Int.reduceEq,decide_false,Yd,Z9,Yc,Zw];exact rfl;exact signed_c _ x.vn hok.lo hok.hi;rintro _ _ ⟨rfl,rfl⟩;refine ⟨_,rfl,?_⟩)
  repeat (first|(apply Zh;exact rfl)|apply Zb|apply WO.nil|(apply Zk;exact rfl;simp only [rE,rS,li,lo,reduceIte,Nat.reduceEqDiff,Nat.reduceAdd,Nat.reduceMul,cutA,Zr,Zo,Zq,Ze ZE ZR,Za Zt,Za ZA,hok.one,hok.solid,Int.reduceEq,decide_false,Yd,Z9,Yc,Zw];exact rfl;exact rfl))
  (apply WF.ret; (focus (simp only [Zj, Zd, Zm, Zv, reduceIte, Nat.reduceEqDiff, rs128]; exact rfl)))
  simp [ZK]
set_option maxHeartbeats 2000000 in
theorem letter117_c (H : AH) (x : XB) (sv : AV) (hok : ItOk x sv) : Fn Q L 128 [.int .u8 117, IV x sv] H (fun w H' => w = .str (ZK 117 x) ∧ H' = H) := by
  refine Y2 (en128 _ _) rfl ?_
  generalize lock H = H
  have cutA := cut10 (Zl .i64 x.act) (Zl .i64 x.val) (Zl .i64 x.kind) (Zl .i64 x.size) (Zp x.sg) (Zl .i64 x.ref) (Zp x.vstr) (Zl .i64 x.vn) (Y0 x.vs) hok.solid
  unfold c128 Tryz.f128 IV IC
  simp only [Option.getD_some]
  repeat (first|(apply Zh;exact rfl)|apply Zb|apply WO.nil|(apply Zk;exact rfl;simp only [rE,rS,li,lo,reduceIte,Nat.reduceEqDiff,Nat.reduceAdd,Nat.reduceMul,cutA,Zr,Zo,Zq,Ze ZE ZR,Za Zt,Za ZA,hok.one,hok.solid,Int.reduceEq,decide_false,Yd,Z9,Yc,Zw];exact rfl;exact rfl))
  (first|(apply WF.condT;(focus (simp only [Zg,Zf,Zd,Zm,Bool.not_true,Bool.not_false,reduceIte,Nat.reduceEqDiff,Int.reduceEq,decide_false];done)))|(apply WF.condF;(focus (simp only [Zg,Zf,Zd,Zm,Bool.not_true,Bool.not_false,reduceIte,Nat.reduceEqDiff,Int.reduceEq,decide_false];done))))
  repeat (first|(apply Zh;exact rfl)|apply Zb|apply WO.nil|(apply Zk;exact rfl;simp only [rE,rS,li,lo,reduceIte,Nat.reduceEqDiff,Nat.reduceAdd,Nat.reduceMul,cutA,Zr,Zo,Zq,Ze ZE ZR,Za Zt,Za ZA,hok.one,hok.solid,Int.reduceEq,decide_false,Yd,Z9,Yc,Zw];exact rfl;exact rfl))
  (first|(apply WF.condT;(focus (simp only [Zg,Zf,Zd,Zm,Bool.not_true,Bool.not_false,reduceIte,Nat.reduceEqDiff,Int.reduceEq,decide_false];done)))|(apply WF.condF;(focus (simp only [Zg,Zf,Zd,Zm,Bool.not_true,Bool.not_false,reduceIte,Nat.reduceEqDiff,Int.reduceEq,decide_false];done))))
  repeat (first|(apply Zh;exact rfl)|apply Zb|apply WO.nil|(apply Zk;exact rfl;simp only [rE,rS,li,lo,reduceIte,Nat.reduceEqDiff,Nat.reduceAdd,Nat.reduceMul,cutA,Zr,Zo,Zq,Ze ZE ZR,Za Zt,Za ZA,hok.one,hok.solid,Int.reduceEq,decide_false,Yd,Z9,Yc,Zw];exact rfl;exact rfl))
  (first|(apply WF.condT;(focus (simp only [Zg,Zf,Zd,Zm,Bool.not_true,Bool.not_false,reduceIte,Nat.reduceEqDiff,Int.reduceEq,decide_true];done)))|(apply WF.condF;(focus (simp only [Zg,Zf,Zd,Zm,Bool.not_true,Bool.not_false,reduceIte,Nat.reduceEqDiff,Int.reduceEq,decide_true];done))))
  have hpl := pat_lt x
  have hdg : ∀ H,Fn Q L 166 [.int .u64 ((Wa x : Nat) : Int),.int .u64 10] H (fun w H' => w = .str (hx 10 (Wa x)) ∧ H' = H) := fun H => digits2_c 10 (by omega) (by omega) (Wa x) (Wa x) (Nat.le_refl _) hpl H
  repeat (first|(apply Zh;exact rfl)|apply Zb|apply WO.nil|(apply Zk;exact rfl;simp only [rE,rS,li,lo,reduceIte,Nat.reduceEqDiff,Nat.reduceAdd,Nat.reduceMul,cutA,Zr,Zo,Zq,Ze ZE ZR,Za Zt,Za ZA,hok.one,hok.solid,Int.reduceEq,decide_false,Yd,Z9,Yc,Zw];exact rfl;exact rfl))
  (apply WO.call;(focus (simp only [rQ,Zc,li,lo,reduceIte,Nat.reduceEqDiff,Nat.reduceAdd,beq_self_eq_true];done));simp only [rE,rS,li,lo,reduceIte,Nat.reduceEqDiff,Nat.reduceAdd,Nat.reduceMul,cutA,Zr,Zo,Zq,Ze ZE ZR,Za Zt,Za ZA,hok.one,hok.solid,Int.reduceEq,decide_false,Yd,Z9,Yc,Zw];exact rfl;exact pattern2_c _ x sv hok.one hok.sz;rintro _ _ ⟨rfl,rfl⟩;refine ⟨_,rfl,?_⟩)
  repeat (first|(apply Zh;exact rfl)|apply Zb|apply WO.nil|(apply Zk;exact rfl;simp only [rE,rS,li,lo,reduceIte,Nat.reduceEqDiff,Nat.reduceAdd,Nat.reduceMul,cutA,Zr,Zo,Zq,Ze ZE ZR,Za Zt,Za ZA,hok.one,hok.solid,Int.reduceEq,decide_false,Yd,Z9,Yc,Zw];exact rfl;exact rfl))
  (apply WO.call;(focus (simp only [rQ,Zc,li,lo,reduceIte,Nat.reduceEqDiff,Nat.reduceAdd,beq_self_eq_true];done));simp only [rE,rS,li,lo,reduceIte,Nat.reduceEqDiff,Nat.reduceAdd,Nat.reduceMul,cutA,Zr,Zo,Zq,Ze ZE ZR,Za Zt,Za ZA,hok.one,hok.solid,Int.reduceEq,decide_false,Yd,Z9,Yc,Zw];exact rfl;exact hdg _;rintro _ _ ⟨rfl,rfl⟩;refine ⟨_,rfl,?_⟩)
  repeat (first|(apply Zh;exact rfl)|apply Zb|apply WO.nil|(apply Zk;exact rfl;simp only [rE,rS,li,lo,reduceIte,Nat.reduceEqDiff,Nat.reduceAdd,Nat.reduceMul,cutA,Zr,Zo,Zq,Ze ZE ZR,Za Zt,Za ZA,hok.one,hok.solid,Int.reduceEq,decide_false,Yd,Z9,Yc,Zw];exact rfl;exact rfl))
  (apply WF.ret; (focus (simp only [Zj, Zd, Zm, Zv, reduceIte, Nat.reduceEqDiff, rs128]; exact rfl)))
  simp [ZK]
set_option maxHeartbeats 2000000 in
theorem letter120_c (H : AH) (x : XB) (sv : AV) (hok : ItOk x sv) : Fn Q L 128 [.int .u8 120, IV x sv] H (fun w H' => w = .str (ZK 120 x) ∧ H' = H) := by
  refine Y2 (en128 _ _) rfl ?_
  generalize lock H = H
  have cutA := cut10 (Zl .i64 x.act) (Zl .i64 x.val) (Zl .i64 x.kind) (Zl .i64 x.size) (Zp x.sg) (Zl .i64 x.ref) (Zp x.vstr) (Zl .i64 x.vn) (Y0 x.vs) hok.solid
  unfold c128 Tryz.f128 IV IC
  simp only [Option.getD_some]
  repeat (first|(apply Zh;exact rfl)|apply Zb|apply WO.nil|(apply Zk;exact rfl;simp only [rE,rS,li,lo,reduceIte,Nat.reduceEqDiff,Nat.reduceAdd,Nat.reduceMul,cutA,Zr,Zo,Zq,Ze ZE ZR,Za Zt,Za ZA,hok.one,hok.solid,Int.reduceEq,decide_false,Yd,Z9,Yc,Zw];exact rfl;exact rfl))
  (first|(apply WF.condT;(focus (simp only [Zg,Zf,Zd,Zm,Bool.not_true,Bool.not_false,reduceIte,Nat.reduceEqDiff,Int.reduceEq,decide_false];done)))|(apply WF.condF;(focus (simp only [Zg,Zf,Zd,Zm,Bool.not_true,Bool.not_false,reduceIte,Nat.reduceEqDiff,Int.reduceEq,decide_false];done))))
  repeat (first|(apply Zh;exact rfl)|apply Zb|apply WO.nil|(apply Zk;exact rfl;simp only [rE,rS,li,lo,reduceIte,Nat.reduceEqDiff,Nat.reduceAdd,Nat.reduceMul,cutA,Zr,Zo,Zq,Ze ZE ZR,Za Zt,Za ZA,hok.one,hok.solid,Int.reduceEq,decide_false,Yd,Z9,Yc,Zw];exact rfl;exact rfl))
  (first|(apply WF.condT;(focus (simp only [Zg,Zf,Zd,Zm,Bool.not_true,Bool.not_false,reduceIte,Nat.reduceEqDiff,Int.reduceEq,decide_false];done)))|(apply WF.condF;(focus (simp only [Zg,Zf,Zd,Zm,Bool.not_true,Bool.not_false,reduceIte,Nat.reduceEqDiff,Int.reduceEq,decide_false];done))))
  repeat (first|(apply Zh;exact rfl)|apply Zb|apply WO.nil|(apply Zk;exact rfl;simp only [rE,rS,li,lo,reduceIte,Nat.reduceEqDiff,Nat.reduceAdd,Nat.reduceMul,cutA,Zr,Zo,Zq,Ze ZE ZR,Za Zt,Za ZA,hok.one,hok.solid,Int.reduceEq,decide_false,Yd,Z9,Yc,Zw];exact rfl;exact rfl))
  (first|(apply WF.condT;(focus (simp only [Zg,Zf,Zd,Zm,Bool.not_true,Bool.not_false,reduceIte,Nat.reduceEqDiff,Int.reduceEq,decide_false];done)))|(apply WF.condF;(focus (simp only [Zg,Zf,Zd,Zm,Bool.not_true,Bool.not_false,reduceIte,Nat.reduceEqDiff,Int.reduceEq,decide_false];done))))
  repeat (first|(apply Zh;exact rfl)|apply Zb|apply WO.nil|(apply Zk;exact rfl;simp only [rE,rS,li,lo,reduceIte,Nat.reduceEqDiff,Nat.reduceAdd,Nat.reduceMul,cutA,Zr,Zo,Zq,Ze ZE ZR,Za Zt,Za ZA,hok.one,hok.solid,Int.reduceEq,decide_false,Yd,Z9,Yc,Zw];exact rfl;exact rfl))
  (first|(apply WF.condT;(focus (simp only [Zg,Zf,Zd,Zm,Bool.not_true,Bool.not_false,reduceIte,Nat.reduceEqDiff,Int.reduceEq,decide_true];done)))|(apply WF.condF;(focus (simp only [Zg,Zf,Zd,Zm,Bool.not_true,Bool.not_false,reduceIte,Nat.reduceEqDiff,Int.reduceEq,decide_true];done))))
  have hpl := pat_lt x
  have hdg : ∀ H,Fn Q L 166 [.int .u64 ((Wa x : Nat) : Int),.int .u64 16] H (fun w H' => w = .str (hx 16 (Wa x)) ∧ H' = H) := fun H => digits2_c 16 (by omega) (by omega) (Wa x) (Wa x) (Nat.le_refl _) hpl H
  repeat (first|(apply Zh;exact rfl)|apply Zb|apply WO.nil|(apply Zk;exact rfl;simp only [rE,rS,li,lo,reduceIte,Nat.reduceEqDiff,Nat.reduceAdd,Nat.reduceMul,cutA,Zr,Zo,Zq,Ze ZE ZR,Za Zt,Za ZA,hok.one,hok.solid,Int.reduceEq,decide_false,Yd,Z9,Yc,Zw];exact rfl;exact rfl))
  (apply WO.call;(focus (simp only [rQ,Zc,li,lo,reduceIte,Nat.reduceEqDiff,Nat.reduceAdd,beq_self_eq_true];done));simp only [rE,rS,li,lo,reduceIte,Nat.reduceEqDiff,Nat.reduceAdd,Nat.reduceMul,cutA,Zr,Zo,Zq,Ze ZE ZR,Za Zt,Za ZA,hok.one,hok.solid,Int.reduceEq,decide_false,Yd,Z9,Yc,Zw];exact rfl;exact pattern2_c _ x sv hok.one hok.sz;rintro _ _ ⟨rfl,rfl⟩;refine ⟨_,rfl,?_⟩)
  repeat (first|(apply Zh;exact rfl)|apply Zb|apply WO.nil|(apply Zk;exact rfl;simp only [rE,rS,li,lo,reduceIte,Nat.reduceEqDiff,Nat.reduceAdd,Nat.reduceMul,cutA,Zr,Zo,Zq,Ze ZE ZR,Za Zt,Za ZA,hok.one,hok.solid,Int.reduceEq,decide_false,Yd,Z9,Yc,Zw];exact rfl;exact rfl))
  (apply WO.call;(focus (simp only [rQ,Zc,li,lo,reduceIte,Nat.reduceEqDiff,Nat.reduceAdd,beq_self_eq_true];done));simp only [rE,rS,li,lo,reduceIte,Nat.reduceEqDiff,Nat.reduceAdd,Nat.reduceMul,cutA,Zr,Zo,Zq,Ze ZE ZR,Za Zt,Za ZA,hok.one,hok.solid,Int.reduceEq,decide_false,Yd,Z9,Yc,Zw];exact rfl;exact hdg _;rintro _ _ ⟨rfl,rfl⟩;refine ⟨_,rfl,?_⟩)
  repeat (first|(apply Zh;exact rfl)|apply Zb|apply WO.nil|(apply Zk;exact rfl;simp only [rE,rS,li,lo,reduceIte,Nat.reduceEqDiff,Nat.reduceAdd,Nat.reduceMul,cutA,Zr,Zo,Zq,Ze ZE ZR,Za Zt,Za ZA,hok.one,hok.solid,Int.reduceEq,decide_false,Yd,Z9,Yc,Zw];exact rfl;exact rfl))
  (apply WF.ret; (focus (simp only [Zj, Zd, Zm, Zv, reduceIte, Nat.reduceEqDiff, rs128]; exact rfl)))
  simp [ZK]
set_option maxHeartbeats 2000000 in
theorem letter111_c (H : AH) (x : XB) (sv : AV) (hok : ItOk x sv) : Fn Q L 128 [.int .u8 111, IV x sv] H (fun w H' => w = .str (ZK 111 x) ∧ H' = H) := by
  refine Y2 (en128 _ _) rfl ?_
  generalize lock H = H
  have cutA := cut10 (Zl .i64 x.act) (Zl .i64 x.val) (Zl .i64 x.kind) (Zl .i64 x.size) (Zp x.sg) (Zl .i64 x.ref) (Zp x.vstr) (Zl .i64 x.vn) (Y0 x.vs) hok.solid
  unfold c128 Tryz.f128 IV IC
  simp only [Option.getD_some]
  repeat (first|(apply Zh;exact rfl)|apply Zb|apply WO.nil|(apply Zk;exact rfl;simp only [rE,rS,li,lo,reduceIte,Nat.reduceEqDiff,Nat.reduceAdd,Nat.reduceMul,cutA,Zr,Zo,Zq,Ze ZE ZR,Za Zt,Za ZA,hok.one,hok.solid,Int.reduceEq,decide_false,Yd,Z9,Yc,Zw];exact rfl;exact rfl))
  (first|(apply WF.condT;(focus (simp only [Zg,Zf,Zd,Zm,Bool.not_true,Bool.not_false,reduceIte,Nat.reduceEqDiff,Int.reduceEq,decide_false];done)))|(apply WF.condF;(focus (simp only [Zg,Zf,Zd,Zm,Bool.not_true,Bool.not_false,reduceIte,Nat.reduceEqDiff,Int.reduceEq,decide_false];done))))
  repeat (first|(apply Zh;exact rfl)|apply Zb|apply WO.nil|(apply Zk;exact rfl;simp only [rE,rS,li,lo,reduceIte,Nat.reduceEqDiff,Nat.reduceAdd,Nat.reduceMul,cutA,Zr,Zo,Zq,Ze ZE ZR,Za Zt,Za ZA,hok.one,hok.solid,Int.reduceEq,decide_false,Yd,Z9,Yc,Zw];exact rfl;exact rfl))
  (first|(apply WF.condT;(focus (simp only [Zg,Zf,Zd,Zm,Bool.not_true,Bool.not_false,reduceIte,Nat.reduceEqDiff,Int.reduceEq,decide_false];done)))|(apply WF.condF;(focus (simp only [Zg,Zf,Zd,Zm,Bool.not_true,Bool.not_false,reduceIte,Nat.reduceEqDiff,Int.reduceEq,decide_false];done))))
  repeat (first|(apply Zh;exact rfl)|apply Zb|apply WO.nil|(apply Zk;exact rfl;simp only [rE,rS,li,lo,reduceIte,Nat.reduceEqDiff,Nat.reduceAdd,Nat.reduceMul,cutA,Zr,Zo,Zq,Ze ZE ZR,Za Zt,Za ZA,hok.one,hok.solid,Int.reduceEq,decide_false,Yd,Z9,Yc,Zw];exact rfl;exact rfl))
  (first|(apply WF.condT;(focus (simp only [Zg,Zf,Zd,Zm,Bool.not_true,Bool.not_false,reduceIte,Nat.reduceEqDiff,Int.reduceEq,decide_false];done)))|(apply WF.condF;(focus (simp only [Zg,Zf,Zd,Zm,Bool.not_true,Bool.not_false,reduceIte,Nat.reduceEqDiff,Int.reduceEq,decide_false];done))))
  repeat (first|(apply Zh;exact rfl)|apply Zb|apply WO.nil|(apply Zk;exact rfl;simp only [rE,rS,li,lo,reduceIte,Nat.reduceEqDiff,Nat.reduceAdd,Nat.reduceMul,cutA,Zr,Zo,Zq,Ze ZE ZR,Za Zt,Za ZA,hok.one,hok.solid,Int.reduceEq,decide_false,Yd,Z9,Yc,Zw];exact rfl;exact rfl))
  (first|(apply WF.condT;(focus (simp only [Zg,Zf,Zd,Zm,Bool.not_true,Bool.not_false,reduceIte,Nat.reduceEqDiff,Int.reduceEq,decide_false];done)))|(apply WF.condF;(focus (simp only [Zg,Zf,Zd,Zm,Bool.not_true,Bool.not_false,reduceIte,Nat.reduceEqDiff,Int.reduceEq,decide_false];done))))
  repeat (first|(apply Zh;exact rfl)|apply Zb|apply WO.nil|(apply Zk;exact rfl;simp only [rE,rS,li,lo,reduceIte,Nat.reduceEqDiff,Nat.reduceAdd,Nat.reduceMul,cutA,Zr,Zo,Zq,Ze ZE ZR,Za Zt,Za ZA,hok.one,hok.solid,Int.reduceEq,decide_false,Yd,Z9,Yc,Zw];exact rfl;exact rfl))
  (first|(apply WF.condT;(focus (simp only [Zg,Zf,Zd,Zm,Bool.not_true,Bool.not_false,reduceIte,Nat.reduceEqDiff,Int.reduceEq,decide_true];done)))|(apply WF.condF;(focus (simp only [Zg,Zf,Zd,Zm,Bool.not_true,Bool.not_false,reduceIte,Nat.reduceEqDiff,Int.reduceEq,decide_true];done))))
  have hpl := pat_lt x
  have hdg : ∀ H,Fn Q L 166 [.int .u64 ((Wa x : Nat) : Int),.int .u64 8] H (fun w H' => w = .str (hx 8 (Wa x)) ∧ H' = H) := fun H => digits2_c 8 (by omega) (by omega) (Wa x) (Wa x) (Nat.le_refl _) hpl H
  repeat (first|(apply Zh;exact rfl)|apply Zb|apply WO.nil|(apply Zk;exact rfl;simp only [rE,rS,li,lo,reduceIte,Nat.reduceEqDiff,Nat.reduceAdd,Nat.reduceMul,cutA,Zr,Zo,Zq,Ze ZE ZR,Za Zt,Za ZA,hok.one,hok.solid,Int.reduceEq,decide_false,Yd,Z9,Yc,Zw];exact rfl;exact rfl))
  (apply WO.call;(focus (simp only [rQ,Zc,li,lo,reduceIte,Nat.reduceEqDiff,Nat.reduceAdd,beq_self_eq_true];done));simp only [rE,rS,li,lo,reduceIte,Nat.reduceEqDiff,Nat.reduceAdd,Nat.reduceMul,cutA,Zr,Zo,Zq,Ze ZE ZR,Za Zt,Za ZA,hok.one,hok.solid,Int.reduceEq,decide_false,Yd,Z9,Yc,Zw];exact rfl;exact pattern2_c _ x sv hok.one hok.sz;rintro _ _ ⟨rfl,rfl⟩;refine ⟨_,rfl,?_⟩)
  repeat (first|(apply Zh;exact rfl)|apply Zb|apply WO.nil|(apply Zk;exact rfl;simp only [rE,rS,li,lo,reduceIte,Nat.reduceEqDiff,Nat.reduceAdd,Nat.reduceMul,cutA,Zr,Zo,Zq,Ze ZE ZR,Za Zt,Za ZA,hok.one,hok.solid,Int.reduceEq,decide_false,Yd,Z9,Yc,Zw];exact rfl;exact rfl))
  (apply WO.call;(focus (simp only [rQ,Zc,li,lo,reduceIte,Nat.reduceEqDiff,Nat.reduceAdd,beq_self_eq_true];done));simp only [rE,rS,li,lo,reduceIte,Nat.reduceEqDiff,Nat.reduceAdd,Nat.reduceMul,cutA,Zr,Zo,Zq,Ze ZE ZR,Za Zt,Za ZA,hok.one,hok.solid,Int.reduceEq,decide_false,Yd,Z9,Yc,Zw];exact rfl;exact hdg _;rintro _ _ ⟨rfl,rfl⟩;refine ⟨_,rfl,?_⟩)
  repeat (first|(apply Zh;exact rfl)|apply Zb|apply WO.nil|(apply Zk;exact rfl;simp only [rE,rS,li,lo,reduceIte,Nat.reduceEqDiff,Nat.reduceAdd,Nat.reduceMul,cutA,Zr,Zo,Zq,Ze ZE ZR,Za Zt,Za ZA,hok.one,hok.solid,Int.reduceEq,decide_false,Yd,Z9,Yc,Zw];exact rfl;exact rfl))
  (apply WF.ret; (focus (simp only [Zj, Zd, Zm, Zv, reduceIte, Nat.reduceEqDiff, rs128]; exact rfl)))
  simp [ZK]
set_option maxHeartbeats 2000000 in
theorem letter112_c (H : AH) (x : XB) (sv : AV) (hok : ItOk x sv) : Fn Q L 128 [.int .u8 112, IV x sv] H (fun w H' => w = .str (ZK 112 x) ∧ H' = H) := by
  refine Y2 (en128 _ _) rfl ?_
  generalize lock H = H
  have cutA := cut10 (Zl .i64 x.act) (Zl .i64 x.val) (Zl .i64 x.kind) (Zl .i64 x.size) (Zp x.sg) (Zl .i64 x.ref) (Zp x.vstr) (Zl .i64 x.vn) (Y0 x.vs) hok.solid
  unfold c128 Tryz.f128 IV IC
  simp only [Option.getD_some]
  repeat (first|(apply Zh;exact rfl)|apply Zb|apply WO.nil|(apply Zk;exact rfl;simp only [rE,rS,li,lo,reduceIte,Nat.reduceEqDiff,Nat.reduceAdd,Nat.reduceMul,cutA,Zr,Zo,Zq,Ze ZE ZR,Za Zt,Za ZA,hok.one,hok.solid,Int.reduceEq,decide_false,Yd,Z9,Yc,Zw];exact rfl;exact rfl))
  (first|(apply WF.condT;(focus (simp only [Zg,Zf,Zd,Zm,Bool.not_true,Bool.not_false,reduceIte,Nat.reduceEqDiff,Int.reduceEq,decide_false];done)))|(apply WF.condF;(focus (simp only [Zg,Zf,Zd,Zm,Bool.not_true,Bool.not_false,reduceIte,Nat.reduceEqDiff,Int.reduceEq,decide_false];done))))
  repeat (first|(apply Zh;exact rfl)|apply Zb|apply WO.nil|(apply Zk;exact rfl;simp only [rE,rS,li,lo,reduceIte,Nat.reduceEqDiff,Nat.reduceAdd,Nat.reduceMul,cutA,Zr,Zo,Zq,Ze ZE ZR,Za Zt,Za ZA,hok.one,hok.solid,Int.reduceEq,decide_false,Yd,Z9,Yc,Zw];exact rfl;exact rfl))
  (first|(apply WF.condT;(focus (simp only [Zg,Zf,Zd,Zm,Bool.not_true,Bool.not_false,reduceIte,Nat.reduceEqDiff,Int.reduceEq,decide_false];done)))|(apply WF.condF;(focus (simp only [Zg,Zf,Zd,Zm,Bool.not_true,Bool.not_false,reduceIte,Nat.reduceEqDiff,Int.reduceEq,decide_false];done))))
  repeat (first|(apply Zh;exact rfl)|apply Zb|apply WO.nil|(apply Zk;exact rfl;simp only [rE,rS,li,lo,reduceIte,Nat.reduceEqDiff,Nat.reduceAdd,Nat.reduceMul,cutA,Zr,Zo,Zq,Ze ZE ZR,Za Zt,Za ZA,hok.one,hok.solid,Int.reduceEq,decide_false,Yd,Z9,Yc,Zw];exact rfl;exact rfl))
  (first|(apply WF.condT;(focus (simp only [Zg,Zf,Zd,Zm,Bool.not_true,Bool.not_false,reduceIte,Nat.reduceEqDiff,Int.reduceEq,decide_false];done)))|(apply WF.condF;(focus (simp only [Zg,Zf,Zd,Zm,Bool.not_true,Bool.not_false,reduceIte,Nat.reduceEqDiff,Int.reduceEq,decide_false];done))))
  repeat (first|(apply Zh;exact rfl)|apply Zb|apply WO.nil|(apply Zk;exact rfl;simp only [rE,rS,li,lo,reduceIte,Nat.reduceEqDiff,Nat.reduceAdd,Nat.reduceMul,cutA,Zr,Zo,Zq,Ze ZE ZR,Za Zt,Za ZA,hok.one,hok.solid,Int.reduceEq,decide_false,Yd,Z9,Yc,Zw];exact rfl;exact rfl))
  (first|(apply WF.condT;(focus (simp only [Zg,Zf,Zd,Zm,Bool.not_true,Bool.not_false,reduceIte,Nat.reduceEqDiff,Int.reduceEq,decide_false];done)))|(apply WF.condF;(focus (simp only [Zg,Zf,Zd,Zm,Bool.not_true,Bool.not_false,reduceIte,Nat.reduceEqDiff,Int.reduceEq,decide_false];done))))
  repeat (first|(apply Zh;exact rfl)|apply Zb|apply WO.nil|(apply Zk;exact rfl;simp only [rE,rS,li,lo,reduceIte,Nat.reduceEqDiff,Nat.reduceAdd,Nat.reduceMul,cutA,Zr,Zo,Zq,Ze ZE ZR,Za Zt,Za ZA,hok.one,hok.solid,Int.reduceEq,decide_false,Yd,Z9,Yc,Zw];exact rfl;exact rfl))
  (first|(apply WF.condT;(focus (simp only [Zg,Zf,Zd,Zm,Bool.not_true,Bool.not_false,reduceIte,Nat.reduceEqDiff,Int.reduceEq,decide_false];done)))|(apply WF.condF;(focus (simp only [Zg,Zf,Zd,Zm,Bool.not_true,Bool.not_false,reduceIte,Nat.reduceEqDiff,Int.reduceEq,decide_false];done))))
  repeat (first|(apply Zh;exact rfl)|apply Zb|apply WO.nil|(apply Zk;exact rfl;simp only [rE,rS,li,lo,reduceIte,Nat.reduceEqDiff,Nat.reduceAdd,Nat.reduceMul,cutA,Zr,Zo,Zq,Ze ZE ZR,Za Zt,Za ZA,hok.one,hok.solid,Int.reduceEq,decide_false,Yd,Z9,Yc,Zw];exact rfl;exact rfl))
  (first|(apply WF.condT;(focus (simp only [Zg,Zf,Zd,Zm,Bool.not_true,Bool.not_false,reduceIte,Nat.reduceEqDiff,Int.reduceEq,decide_true];done)))|(apply WF.condF;(focus (simp only [Zg,Zf,Zd,Zm,Bool.not_true,Bool.not_false,reduceIte,Nat.reduceEqDiff,Int.reduceEq,decide_true];done))))
  have hpl := pat_lt x
  have hdg : ∀ H,Fn Q L 166 [.int .u64 ((Wa x : Nat) : Int),.int .u64 16] H (fun w H' => w = .str (hx 16 (Wa x)) ∧ H' = H) := fun H => digits2_c 16 (by omega) (by omega) (Wa x) (Wa x) (Nat.le_refl _) hpl H
  repeat (first|(apply Zh;exact rfl)|apply Zb|apply WO.nil|(apply Zk;exact rfl;simp only [rE,rS,li,lo,reduceIte,Nat.reduceEqDiff,Nat.reduceAdd,Nat.reduceMul,cutA,Zr,Zo,Zq,Ze ZE ZR,Za Zt,Za ZA,hok.one,hok.solid,Int.reduceEq,decide_false,Yd,Z9,Yc,Zw];exact rfl;exact rfl))
  (apply WO.call;(focus (simp only [rQ,Zc,li,lo,reduceIte,Nat.reduceEqDiff,Nat.reduceAdd,beq_self_eq_true];done));simp only [rE,rS,li,lo,reduceIte,Nat.reduceEqDiff,Nat.reduceAdd,Nat.reduceMul,cutA,Zr,Zo,Zq,Ze ZE ZR,Za Zt,Za ZA,hok.one,hok.solid,Int.reduceEq,decide_false,Yd,Z9,Yc,Zw];exact rfl;exact pattern2_c _ x sv hok.one hok.sz;rintro _ _ ⟨rfl,rfl⟩;refine ⟨_,rfl,?_⟩)
  repeat (first|(apply Zh;exact rfl)|apply Zb|apply WO.nil|(apply Zk;exact rfl;simp only [rE,rS,li,lo,reduceIte,Nat.reduceEqDiff,Nat.reduceAdd,Nat.reduceMul,cutA,Zr,Zo,Zq,Ze ZE ZR,Za Zt,Za ZA,hok.one,hok.solid,Int.reduceEq,decide_false,Yd,Z9,Yc,Zw];exact rfl;exact rfl))
  (apply WO.call;(focus (simp only [rQ,Zc,li,lo,reduceIte,Nat.reduceEqDiff,Nat.reduceAdd,beq_self_eq_true];done));simp only [rE,rS,li,lo,reduceIte,Nat.reduceEqDiff,Nat.reduceAdd,Nat.reduceMul,cutA,Zr,Zo,Zq,Ze ZE ZR,Za Zt,Za ZA,hok.one,hok.solid,Int.reduceEq,decide_false,Yd,Z9,Yc,Zw];exact rfl;exact hdg _;rintro _ _ ⟨rfl,rfl⟩;refine ⟨_,rfl,?_⟩)
  have hadd := bin_addX (P := Q) 9 (hx 16 (Wa x)) (by have := Yf 16 (Wa x); omega)
  repeat (first|(apply Zh;exact rfl)|apply Zb|apply WO.nil|(apply Zk;exact rfl;simp only [rE,rS,li,lo,reduceIte,Nat.reduceEqDiff,Nat.reduceAdd,Nat.reduceMul,cutA,Zr,Zo,Zq,Ze ZE ZR,Za Zt,Za ZA,hok.one,hok.solid,Int.reduceEq,decide_false,Yd,Z9,Yc,Zw,hadd];exact rfl;exact rfl))
  (apply WF.ret; (focus (simp only [Zj, Zd, Zm, Zv, reduceIte, Nat.reduceEqDiff, rs128]; exact rfl)))
  simp [ZK]
set_option maxHeartbeats 2000000 in
theorem letter99_c (H : AH) (x : XB) (sv : AV) (hok : ItOk x sv) : Fn Q L 128 [.int .u8 99, IV x sv] H (fun w H' => w = .str (ZK 99 x) ∧ H' = H) := by
  refine Y2 (en128 _ _) rfl ?_
  generalize lock H = H
  have cutA := cut10 (Zl .i64 x.act) (Zl .i64 x.val) (Zl .i64 x.kind) (Zl .i64 x.size) (Zp x.sg) (Zl .i64 x.ref) (Zp x.vstr) (Zl .i64 x.vn) (Y0 x.vs) hok.solid
  unfold c128 Tryz.f128 IV IC
  simp only [Option.getD_some]
  repeat (first|(apply Zh;exact rfl)|apply Zb|apply WO.nil|(apply Zk;exact rfl;simp only [rE,rS,li,lo,reduceIte,Nat.reduceEqDiff,Nat.reduceAdd,Nat.reduceMul,cutA,Zr,Zo,Zq,Ze ZE ZR,Za Zt,Za ZA,hok.one,hok.solid,Int.reduceEq,decide_false,Yd,Z9,Yc,Zw];exact rfl;exact rfl))
  (first|(apply WF.condT;(focus (simp only [Zg,Zf,Zd,Zm,Bool.not_true,Bool.not_false,reduceIte,Nat.reduceEqDiff,Int.reduceEq,decide_false];done)))|(apply WF.condF;(focus (simp only [Zg,Zf,Zd,Zm,Bool.not_true,Bool.not_false,reduceIte,Nat.reduceEqDiff,Int.reduceEq,decide_false];done))))
  repeat (first|(apply Zh;exact rfl)|apply Zb|apply WO.nil|(apply Zk;exact rfl;simp only [rE,rS,li,lo,reduceIte,Nat.reduceEqDiff,Nat.reduceAdd,Nat.reduceMul,cutA,Zr,Zo,Zq,Ze ZE ZR,Za Zt,Za ZA,hok.one,hok.solid,Int.reduceEq,decide_false,Yd,Z9,Yc,Zw];exact rfl;exact rfl))
  (first|(apply WF.condT;(focus (simp only [Zg,Zf,Zd,Zm,Bool.not_true,Bool.not_false,reduceIte,Nat.reduceEqDiff,Int.reduceEq,decide_false];done)))|(apply WF.condF;(focus (simp only [Zg,Zf,Zd,Zm,Bool.not_true,Bool.not_false,reduceIte,Nat.reduceEqDiff,Int.reduceEq,decide_false];done))))
  repeat (first|(apply Zh;exact rfl)|apply Zb|apply WO.nil|(apply Zk;exact rfl;simp only [rE,rS,li,lo,reduceIte,Nat.reduceEqDiff,Nat.reduceAdd,Nat.reduceMul,cutA,Zr,Zo,Zq,Ze ZE ZR,Za Zt,Za ZA,hok.one,hok.solid,Int.reduceEq,decide_false,Yd,Z9,Yc,Zw];exact rfl;exact rfl))
  (first|(apply WF.condT;(focus (simp only [Zg,Zf,Zd,Zm,Bool.not_true,Bool.not_false,reduceIte,Nat.reduceEqDiff,Int.reduceEq,decide_false];done)))|(apply WF.condF;(focus (simp only [Zg,Zf,Zd,Zm,Bool.not_true,Bool.not_false,reduceIte,Nat.reduceEqDiff,Int.reduceEq,decide_false];done))))
  repeat (first|(apply Zh;exact rfl)|apply Zb|apply WO.nil|(apply Zk;exact rfl;simp only [rE,rS,li,lo,reduceIte,Nat.reduceEqDiff,Nat.reduceAdd,Nat.reduceMul,cutA,Zr,Zo,Zq,Ze ZE ZR,Za Zt,Za ZA,hok.one,hok.solid,Int.reduceEq,decide_false,Yd,Z9,Yc,Zw];exact rfl;exact rfl))
  (first|(apply WF.condT;(focus (simp only [Zg,Zf,Zd,Zm,Bool.not_true,Bool.not_false,reduceIte,Nat.reduceEqDiff,Int.reduceEq,decide_false];done)))|(apply WF.condF;(focus (simp only [Zg,Zf,Zd,Zm,Bool.not_true,Bool.not_false,reduceIte,Nat.reduceEqDiff,Int.reduceEq,decide_false];done))))
  repeat (first|(apply Zh;exact rfl)|apply Zb|apply WO.nil|(apply Zk;exact rfl;simp only [rE,rS,li,lo,reduceIte,Nat.reduceEqDiff,Nat.reduceAdd,Nat.reduceMul,cutA,Zr,Zo,Zq,Ze ZE ZR,Za Zt,Za ZA,hok.one,hok.solid,Int.reduceEq,decide_false,Yd,Z9,Yc,Zw];exact rfl;exact rfl))
  (first|(apply WF.condT;(focus (simp only [Zg,Zf,Zd,Zm,Bool.not_true,Bool.not_false,reduceIte,Nat.reduceEqDiff,Int.reduceEq,decide_false];done)))|(apply WF.condF;(focus (simp only [Zg,Zf,Zd,Zm,Bool.not_true,Bool.not_false,reduceIte,Nat.reduceEqDiff,Int.reduceEq,decide_false];done))))
  repeat (first|(apply Zh;exact rfl)|apply Zb|apply WO.nil|(apply Zk;exact rfl;simp only [rE,rS,li,lo,reduceIte,Nat.reduceEqDiff,Nat.reduceAdd,Nat.reduceMul,cutA,Zr,Zo,Zq,Ze ZE ZR,Za Zt,Za ZA,hok.one,hok.solid,Int.reduceEq,decide_false,Yd,Z9,Yc,Zw];exact rfl;exact rfl))
  (first|(apply WF.condT;(focus (simp only [Zg,Zf,Zd,Zm,Bool.not_true,Bool.not_false,reduceIte,Nat.reduceEqDiff,Int.reduceEq,decide_false];done)))|(apply WF.condF;(focus (simp only [Zg,Zf,Zd,Zm,Bool.not_true,Bool.not_false,reduceIte,Nat.reduceEqDiff,Int.reduceEq,decide_false];done))))
  have hm : (x.vn % 256).toNat < 256 := by omega
  have hcv := conv1 (H := ⟨H.t.put H.next (some (.cells 70 [.int .i64 x.act,.int .i64 x.val,.int .i64 x.kind,.int .i64 x.size,.bool x.sg,.int .i64 x.ref,.bool x.vstr,.int .i64 x.vn,.str x.vs,sv] 0 false false)),H.next + 1⟩) (x.vn % 256).toNat hm
  dsimp only at hcv
  repeat (first|(apply Zh;exact rfl)|apply Zb|apply WO.nil|(apply Zk;exact rfl;simp only [rE,rS,li,lo,reduceIte,Nat.reduceEqDiff,Nat.reduceAdd,Nat.reduceMul,cutA,Zr,Zo,Zq,Ze ZE ZR,Za Zt,Za ZA,hok.one,hok.solid,Int.reduceEq,decide_false,Yd,Z9,Yc,Zw,ZN,Yx,und5,XH,und9,wrap_u8,bs35_1,mkB8_int,hcv];exact rfl;exact rfl))
  (apply WF.ret; (focus (simp only [Zj, Zd, Zm, Zv, reduceIte, Nat.reduceEqDiff, rs128]; exact rfl)))
  simp [ZK]
theorem letter_c (H : AH) (x : XB) (sv : AV) (hok : ItOk x sv) (l : Nat) (hl : letters.contains l = true) : Fn Q L 128 [.int .u8 (l : Int), IV x sv] H (fun w H' => w = .str (ZK l x) ∧ H' = H) := by


  rcases letters_mem hl with rfl | rfl | rfl | rfl | rfl | rfl | rfl
  · exact letter100_c H x sv hok
  · exact letter117_c H x sv hok
  · exact letter120_c H x sv hok
  · exact letter111_c H x sv hok
  · exact letter99_c H x sv hok
  · exact letter112_c H x sv hok
  · exact letter115_c H x sv hok
end Go.Ev.C
end
section
set_option linter.unusedVariables false
set_option linter.unusedSimpArgs false
set_option linter.defProp false
set_option linter.all false
namespace Go.Ev.C
open Go.Proofs Go.Fmt Go.RowKit
set_option maxRecDepth 100000
set_option linter.unusedSimpArgs false
variable {L : World → Prop} [YQ Q L]
def wdd (s : List Nat) : Nat := s.foldl (fun a c => if c = 45 then a else 10 * a + (c - 48)) 0
theorem wdd_snoc (s : List Nat) (c : Nat) : wdd (s ++ [c]) = if c = 45 then wdd s else 10 * wdd s + (c - 48) := by simp [wdd, List.foldl_append]
theorem wdd_wide {d : List Nat} (hd : d ∈ Y7) : wdd d = Wz d := by
  have h : Y7.all (fun d => Nat.beq (wdd d) (Wz d)) = true := by decide
  exact Nat.eq_of_beq_eq_true (List.all_eq_true.1 h d hd)
theorem wide_dig {d : List Nat} (hd : d ∈ Y7) : ∀ c ∈ d, 48 ≤ c ∧ c ≤ 57 := by
  have h : Y7.all (fun d => d.all fun c => Nat.ble 48 c && Nat.ble c 57) = true := by decide
  intro c hc
  have := List.all_eq_true.1 (List.all_eq_true.1 h d hd) c hc
  simp only [Bool.and_eq_true, Nat.ble_eq] at this
  exact this
theorem conv_parts {tt : List Nat} (h : IsCv tt) : ∃ mid l,tt = 37 :: (mid ++ [l]) ∧ YH tt = l ∧ letters.contains l = true ∧ mid.length ≤ 3 ∧ (∀ c ∈ mid,c = 45 ∨ 48 ≤ c ∧ c ≤ 57) ∧ wdd mid = Wz (cvDig tt) ∧ Wz (cvDig tt) < 100 := by
  obtain ⟨left, d, l, hd, hl, rfl⟩ := h
  have h1 := wid_len hd
  have h2 := wide_dig hd
  have h3 := wdd_wide hd
  have h4 := wid_lt hd
  rw [cv_dig hd hl]
  refine ⟨(if left then [45] else []) ++ d, l, rfl, cv_letter _ _ _, hl, ?_, ?_, ?_, h4⟩
  · cases left <;> simp <;> omega
  · intro c hc
    cases left
    · exact .inr (h2 c (by simpa using hc))
    · rcases List.mem_cons.1 (show c ∈ 45 :: d by simpa using hc) with rfl | hc
      · exact .inl rfl
      · exact .inr (h2 c hc)
  · cases left
    · simpa using h3
    · rw [← h3]
      simp [wdd]
def pk (left : Bool) (k : Nat) (s : List Nat) : List Nat := if left then s ++ List.replicate k 32 else List.replicate k 32 ++ s
theorem pk_len (left : Bool) (k : Nat) (s : List Nat) : (pk left k s).length = s.length + k := by
  unfold pk
  cases left <;> simp <;> omega
theorem bts32 : Xt ⟨#[32]⟩ = [32] := rfl
set_option maxHeartbeats 8000000 in
theorem converted84_c (H : AH) (x : XB) (sv : AV) (tt : List Nat) (hci : IsCv tt) (hxi : ItIn x sv) (hf : fit1 tt x = true) : Fn Q L 84 [.str tt,IV x sv] H (fun w H' => w = .str (cvOut tt x) ∧ H' = H) := by
  refine Y2 (en84 _ _) rfl ?_
  generalize lock H = H
  have hok := hxi.ok (l := YH tt) hf
  have hsl := letter_len (l := YH tt) (x := x) hf
  have cutA := cut10 (Zl .i64 x.act) (Zl .i64 x.val) (Zl .i64 x.kind) (Zl .i64 x.size) (Zp x.sg) (Zl .i64 x.ref) (Zp x.vstr) (Zl .i64 x.vn) (Y0 x.vs) hok.solid
  have hix := idx_last hci
  obtain ⟨mid, l, htt, hcl, hlc, hml, hmd, hwd, hw1⟩ := conv_parts hci
  have hlet : ∀ H, Fn Q L 128 [.int .u8 ((YH tt : Nat) : Int), IV x sv] H (fun w H' => w = .str (ZK (YH tt) x) ∧ H' = H) := fun H => letter_c H x sv hok _ (by rw [hcl]; exact hlc)
  have htl : tt.length = mid.length + 2 := by rw [htt]; simp
  have wl : IntKind.i64.wrap ((tt.length : Int) - 1) = ((tt.length - 1 : Nat) : Int) := by rw [Go.Ev.w64 (by omega) (by omega)]; omega
  have h1 : 1 < tt.length := by omega
  have h1x : XN Q 9 (.str tt) (.int .i64 1) = some (.int .u8 ((tt[1] : Nat) : Int)) := XA (i := 1) h1
  have hleft : decide (((tt[1] : Nat) : Int) = 45) = cvLeft tt := by
    unfold cvLeft
    rw [List.getElem?_eq_getElem h1]
    by_cases e : tt[1] = 45
    · rw [e]; rfl
    · have e' : ¬ ((tt[1] : Nat) : Int) = 45 := by omega
      simp [e, e']
  generalize hc1 : tt[1] = c1 at h1x hleft
  have hout : cvOut tt x = pk (cvLeft tt) (Wz (cvDig tt) - (ZK (YH tt) x).length) (ZK (YH tt) x) := rfl
  unfold c84 Tryz.f84 IV IC
  simp only [Option.getD_some]
  repeat (first|(apply Zh;exact rfl)|apply Zb|apply WO.nil|(apply Zk;exact rfl;simp only [rE,rS,li,lo,reduceIte,Nat.reduceEqDiff,Nat.reduceAdd,Nat.reduceMul,Zi,cutA,Ze ZE ZR,Zw,wl,hix,hok.one,hok.solid];exact rfl;exact rfl))
  (apply YB; kernel_rfl; kernel_rfl)
  (refine Zs ?_;(iterate 6 (first|(apply ZU.pure;kernel_rfl;kernel_rfl;(focus ((simp only [rQ,Zc,li,lo,reduceIte,Nat.reduceEqDiff,Nat.reduceAdd,beq_self_eq_true];done)));simp only [rE,rS,li,lo,reduceIte,Nat.reduceEqDiff,Nat.reduceAdd,Nat.reduceMul,Zi,cutA,Ze ZE ZR,Zw,wl,hix,hok.one,hok.solid];exact rfl;exact rfl)|(apply ZU.load;kernel_rfl;kernel_rfl;(focus ((simp only [rQ,Zc,li,lo,reduceIte,Nat.reduceEqDiff,Nat.reduceAdd,beq_self_eq_true];done)));simp only [rE,rS,li,lo,reduceIte,Nat.reduceEqDiff,Nat.reduceAdd,Nat.reduceMul,Zi,cutA,Ze ZE ZR,Zw,wl,hix,hok.one,hok.solid];exact rfl;exact rfl)));(iterate 2 (apply ZU.later;kernel_rfl));refine ZU.nil ?_)
  (apply ZZ.call (e := 6);kernel_rfl;simp only [li];exact rfl;(focus (simp only [rQ,Zc,li,lo,reduceIte,Nat.reduceEqDiff,Nat.reduceAdd,beq_self_eq_true];done));simp only [rE,rS,li,lo,reduceIte,Nat.reduceEqDiff,Nat.reduceAdd,Nat.reduceMul,Zi,cutA,Ze ZE ZR,Zw,wl,hix,hok.one,hok.solid,cu128];exact rfl;exact hlet _;rintro _ H' ⟨rfl,rfl⟩;refine ⟨_,rfl,?_,?_⟩;(focus exact Zx (by kernel_rfl)))
  (refine Zs ?_; (iterate 8 (apply ZU.later; kernel_rfl)); refine ZU.nil ?_)
  (apply ZZ.eff (e := 7);kernel_rfl;simp only [li];exact rfl;(focus (simp only [rQ,Zc,li,lo,reduceIte,Nat.reduceEqDiff,Nat.reduceAdd,beq_self_eq_true];done));simp only [rE,rS,li,lo,reduceIte,Nat.reduceEqDiff,Nat.reduceAdd,Nat.reduceMul,Zi,cutA,Ze ZE ZR,Zw,wl,hix,hok.one,hok.solid];exact rfl;exact rfl;(focus exact Zx (by kernel_rfl)))
  (refine Zs ?_; (iterate 8 (apply ZU.later; kernel_rfl)); refine ZU.nil ?_)
  (apply ZZ.all; kernel_rfl; kernel_rfl)
  rw [hout]
  generalize ZK (YH tt) x = s at *
  generalize Wz (cvDig tt) = n at *
  generalize cvLeft tt = left at *
  repeat (first|(apply Zh;exact rfl)|apply Zb|apply WO.nil|(apply Zk;exact rfl;simp only [rE,rS,li,lo,reduceIte,Nat.reduceEqDiff,Nat.reduceAdd,Nat.reduceMul,Zi,cutA,Ze ZE ZR,Zw,wl,hix,hok.one,hok.solid,h1x,hleft];exact rfl;exact rfl))
  refine YL (fun m t _ => ∃ j w : Nat,j + m = mid.length ∧ w = wdd (mid.take j) ∧ w < 10 ^ j ∧ t.get 0 = some (.str tt) ∧ t.get 5 = some (.str s) ∧ t.get 6 = some (.bool left) ∧ t.get 7 = some (.int .i64 (w : Int)) ∧ t.get 8 = some (.int .i64 ((j + 1 : Nat) : Int))) mid.length ?_ ?_
  · refine ⟨0, 0, by omega, rfl, by decide, ?_, ?_, ?_, ?_, ?_⟩
    all_goals simp [Zd, Zm, hleft]
  rintro m t H' ⟨j, w, hjm, hw, hwl, t0, t5, t6, t7, t8⟩ ih
  by_cases hj : j < mid.length
  · have hlt : decide (((j + 1 : Nat) : Int) < ((tt.length - 1 : Nat) : Int)) = true := decide_eq_true (by omega)
    have hp10 : 10 ^ (j + 1) = 10 ^ j * 10 := Nat.pow_succ ..
    have hp3 : 10 ^ j ≤ 10 ^ 3 := Nat.pow_le_pow_right (by omega) (by omega)
    have hmem := hmd mid[j] (List.getElem_mem hj)
    have htk : mid.take (j + 1) = mid.take j ++ [mid[j]] := by simp
    have hix1 : XN Q 9 (.str tt) (.int .i64 ((j + 1 : Nat) : Int)) = some (.int .u8 ((mid[j] : Nat) : Int)) := by
      rw [XA (by omega)]
      have e : tt[j + 1]? = some mid[j] := by
        rw [htt, List.getElem?_cons_succ, List.getElem?_append_left hj, List.getElem?_eq_getElem hj]
      rw [List.getElem?_eq_getElem (by omega)] at e
      rw [Option.some.inj e]
    generalize mid[j] = c at *
    have wj : IntKind.i64.wrap (((j + 1 : Nat) : Int) + 1) = ((j + 1 + 1 : Nat) : Int) := by rw [Go.Ev.w64 (by omega) (by omega)]; omega
    repeat (first|(apply Zh;exact rfl)|apply Zb|apply WO.nil|(apply WO.op;(focus (simp only [rQ,Zc,li,lo,reduceIte,Nat.reduceEqDiff,Nat.reduceAdd,beq_self_eq_true,hlt];done));simp only [rE,rS,li,lo,reduceIte,Nat.reduceEqDiff,Nat.reduceAdd,Nat.reduceMul,Zi,bts32,t0,t5,t6,t7,t8,wl,hlt];exact rfl;exact rfl)|(apply WO.unwanted;(focus (simp only [rQ,Zc,li,lo,reduceIte,Nat.reduceEqDiff,Nat.reduceAdd,beq_self_eq_true,hlt];done));exact rfl))
    (first|(apply WF.condT;(focus (simp only [Zg,Zf,Zd,Zm,Bool.not_true,Bool.not_false,reduceIte,Nat.reduceEqDiff,hlt];done)))|(apply WF.condF;(focus (simp only [Zg,Zf,Zd,Zm,Bool.not_true,Bool.not_false,reduceIte,Nat.reduceEqDiff,hlt];done))))
    cases q1 : decide ((c : Int) = 45)
    · have hc45 : c ≠ 45 := by
        have := of_decide_eq_false q1
        omega
      have wm : IntKind.i64.wrap (10 * (w : Int)) = ((10 * w : Nat) : Int) := by rw [Go.Ev.w64 (by omega) (by omega)]; omega
      have ws : IntKind.u8.wrap ((c : Int) - 48) = ((c - 48 : Nat) : Int) := by rw [wrap_u8]; omega
      have wc : IntKind.i64.wrap ((c - 48 : Nat) : Int) = ((c - 48 : Nat) : Int) := Go.Ev.w64 (by omega) (by omega)
      have wa : IntKind.i64.wrap (((10 * w : Nat) : Int) + ((c - 48 : Nat) : Int)) = ((10 * w + (c - 48) : Nat) : Int) := by rw [Go.Ev.w64 (by omega) (by omega)]; omega
      repeat (first|(apply Zh;exact rfl)|apply Zb|apply WO.nil|(apply WO.op;(focus (simp only [rQ,Zc,li,lo,reduceIte,Nat.reduceEqDiff,Nat.reduceAdd,beq_self_eq_true,hlt,q1];done));simp only [rE,rS,li,lo,reduceIte,Nat.reduceEqDiff,Nat.reduceAdd,Nat.reduceMul,Zi,bts32,t0,t5,t6,t7,t8,wl,hlt,hix1,q1];exact rfl;exact rfl)|(apply WO.unwanted;(focus (simp only [rQ,Zc,li,lo,reduceIte,Nat.reduceEqDiff,Nat.reduceAdd,beq_self_eq_true,hlt,q1];done));exact rfl))
      (first|(apply WF.condT;(focus (simp only [Zg,Zf,Zd,Zm,Bool.not_true,Bool.not_false,reduceIte,Nat.reduceEqDiff,q1];done)))|(apply WF.condF;(focus (simp only [Zg,Zf,Zd,Zm,Bool.not_true,Bool.not_false,reduceIte,Nat.reduceEqDiff,q1];done))))
      repeat (first|(apply Zh;exact rfl)|apply Zb|apply WO.nil|(apply Zk;exact rfl;simp only [rE,rS,li,lo,reduceIte,Nat.reduceEqDiff,Nat.reduceAdd,Nat.reduceMul,Zi,bts32,t0,t5,t6,t7,t8,wl,hix1,YA,Yy,ZN,und5,und3,wm,ws,wc,wa,wj];exact rfl;exact rfl))
      refine Z4 ?_
      refine ih (m - 1) _ _ (by omega) ⟨j + 1, 10 * w + (c - 48), by omega, ?_, by omega, ?_, ?_, ?_, ?_, ?_⟩
      · rw [htk, wdd_snoc, if_neg hc45, hw]
      all_goals simp [Zd, t0, t5, t6]
    · have hc45 : c = 45 := by
        have := of_decide_eq_true q1
        omega
      repeat (first|(apply Zh;exact rfl)|apply Zb|apply WO.nil|(apply WO.op;(focus (simp only [rQ,Zc,li,lo,reduceIte,Nat.reduceEqDiff,Nat.reduceAdd,beq_self_eq_true,hlt,q1];done));simp only [rE,rS,li,lo,reduceIte,Nat.reduceEqDiff,Nat.reduceAdd,Nat.reduceMul,Zi,bts32,t0,t5,t6,t7,t8,wl,hlt,hix1,q1];exact rfl;exact rfl)|(apply WO.unwanted;(focus (simp only [rQ,Zc,li,lo,reduceIte,Nat.reduceEqDiff,Nat.reduceAdd,beq_self_eq_true,hlt,q1];done));exact rfl))
      (first|(apply WF.condT;(focus (simp only [Zg,Zf,Zd,Zm,Bool.not_true,Bool.not_false,reduceIte,Nat.reduceEqDiff,q1];done)))|(apply WF.condF;(focus (simp only [Zg,Zf,Zd,Zm,Bool.not_true,Bool.not_false,reduceIte,Nat.reduceEqDiff,q1];done))))
      repeat (first|(apply Zh;exact rfl)|apply Zb|apply WO.nil|(apply Zk;exact rfl;simp only [rE,rS,li,lo,reduceIte,Nat.reduceEqDiff,Nat.reduceAdd,Nat.reduceMul,Zi,bts32,t0,t5,t6,t7,t8,wl,hix1,wj];exact rfl;exact rfl))
      refine Z4 ?_
      refine ih (m - 1) _ _ (by omega) ⟨j + 1, w, by omega, ?_, by omega, ?_, ?_, ?_, ?_, ?_⟩
      · rw [htk, wdd_snoc, if_pos hc45, hw]
      all_goals simp [Zd, t0, t5, t6, t7]
  obtain rfl : j = mid.length := by omega
  have hlt : decide (((mid.length + 1 : Nat) : Int) < ((tt.length - 1 : Nat) : Int)) = false := decide_eq_false (by omega)
  rw [List.take_length, hwd] at hw
  subst hw
  repeat (first|(apply Zh;exact rfl)|apply Zb|apply WO.nil|(apply WO.op;(focus (simp only [rQ,Zc,li,lo,reduceIte,Nat.reduceEqDiff,Nat.reduceAdd,beq_self_eq_true,hlt];done));simp only [rE,rS,li,lo,reduceIte,Nat.reduceEqDiff,Nat.reduceAdd,Nat.reduceMul,Zi,bts32,t0,t5,t6,t7,t8,wl,hlt];exact rfl;exact rfl)|(apply WO.unwanted;(focus (simp only [rQ,Zc,li,lo,reduceIte,Nat.reduceEqDiff,Nat.reduceAdd,beq_self_eq_true,hlt];done));exact rfl))
  (first|(apply WF.condT;(focus (simp only [Zg,Zf,Zd,Zm,Bool.not_true,Bool.not_false,reduceIte,Nat.reduceEqDiff,hlt];done)))|(apply WF.condF;(focus (simp only [Zg,Zf,Zd,Zm,Bool.not_true,Bool.not_false,reduceIte,Nat.reduceEqDiff,hlt];done))))
  repeat (first|(apply Zh;exact rfl)|apply Zb|apply WO.nil|(apply WO.op;(focus (simp only [rQ,Zc,li,lo,reduceIte,Nat.reduceEqDiff,Nat.reduceAdd,beq_self_eq_true,hlt];done));simp only [rE,rS,li,lo,reduceIte,Nat.reduceEqDiff,Nat.reduceAdd,Nat.reduceMul,Zi,bts32,t0,t5,t6,t7,t8,wl,hlt];exact rfl;exact rfl)|(apply WO.unwanted;(focus (simp only [rQ,Zc,li,lo,reduceIte,Nat.reduceEqDiff,Nat.reduceAdd,beq_self_eq_true,hlt];done));exact rfl))
  refine YL (fun m t _ => ∃ k : Nat, k + m = w - s.length ∧ t.get 5 = some (.str (pk left k s)) ∧ t.get 6 = some (.bool left) ∧ t.get 7 = some (.int .i64 (w : Int))) (w - s.length) ?_ ?_
  · refine ⟨0, by omega, ?_, ?_, ?_⟩
    · cases left <;> simp [Zd, t5, pk]
    all_goals simp [Zd, t6, t7]
  clear ih
  rintro m t H' ⟨k, hkm, s5, s6, s7⟩ ih
  have hpl := pk_len left k s
  by_cases hk : k < w - s.length
  · have hl2 : decide (((pk left k s).length : Int) < (w : Int)) = true := decide_eq_true (by omega)
    repeat (first|(apply Zh;exact rfl)|apply Zb|apply WO.nil|(apply Zk;exact rfl;simp only [rE,rS,li,lo,reduceIte,Nat.reduceEqDiff,Nat.reduceAdd,Nat.reduceMul,Zi,bts32,s5,s6,s7,hl2];exact rfl;exact rfl))
    (first|(apply WF.condT;(focus (simp only [Zg,Zf,Zd,Zm,Bool.not_true,Bool.not_false,reduceIte,Nat.reduceEqDiff,hl2];done)))|(apply WF.condF;(focus (simp only [Zg,Zf,Zd,Zm,Bool.not_true,Bool.not_false,reduceIte,Nat.reduceEqDiff,hl2];done))))
    repeat (first|(apply Zh;exact rfl)|apply Zb|apply WO.nil|(apply Zk;exact rfl;simp only [rE,rS,li,lo,reduceIte,Nat.reduceEqDiff,Nat.reduceAdd,Nat.reduceMul,Zi,bts32,s5,s6,s7,hl2];exact rfl;exact rfl))
    cases left
    · have hadd := Yq (P := Q) 9 (a := [32]) (b := pk false k s) (by simp; omega)
      (first|(apply WF.condT;(focus (simp only [Zg,Zf,Zd,Zm,Bool.not_true,Bool.not_false,reduceIte,Nat.reduceEqDiff];done)))|(apply WF.condF;(focus (simp only [Zg,Zf,Zd,Zm,Bool.not_true,Bool.not_false,reduceIte,Nat.reduceEqDiff];done))))
      repeat (first|(apply Zh;exact rfl)|apply Zb|apply WO.nil|(apply Zk;exact rfl;simp only [rE,rS,li,lo,reduceIte,Nat.reduceEqDiff,Nat.reduceAdd,Nat.reduceMul,Zi,bts32,s5,s6,s7,hadd];exact rfl;exact rfl))
      refine Z4 ?_
      refine ih (m - 1) _ _ (by omega) ⟨k + 1, by omega, ?_, ?_, ?_⟩
      · simp [Zd, pk, List.replicate_succ]
      all_goals simp [Zd, s6, s7]
    · have hadd := Yq (P := Q) 9 (a := pk true k s) (b := [32]) (by simp; omega)
      (first|(apply WF.condT;(focus (simp only [Zg,Zf,Zd,Zm,Bool.not_true,Bool.not_false,reduceIte,Nat.reduceEqDiff];done)))|(apply WF.condF;(focus (simp only [Zg,Zf,Zd,Zm,Bool.not_true,Bool.not_false,reduceIte,Nat.reduceEqDiff];done))))
      repeat (first|(apply Zh;exact rfl)|apply Zb|apply WO.nil|(apply Zk;exact rfl;simp only [rE,rS,li,lo,reduceIte,Nat.reduceEqDiff,Nat.reduceAdd,Nat.reduceMul,Zi,bts32,s5,s6,s7,hadd];exact rfl;exact rfl))
      refine Z4 ?_
      refine ih (m - 1) _ _ (by omega) ⟨k + 1, by omega, ?_, ?_, ?_⟩
      · simp [Zd, pk, List.replicate_succ']
      all_goals simp [Zd, s6, s7]
  · have hl2 : decide (((pk left k s).length : Int) < (w : Int)) = false := decide_eq_false (by omega)
    obtain rfl : k = w - s.length := by omega
    repeat (first|(apply Zh;exact rfl)|apply Zb|apply WO.nil|(apply Zk;exact rfl;simp only [rE,rS,li,lo,reduceIte,Nat.reduceEqDiff,Nat.reduceAdd,Nat.reduceMul,Zi,bts32,s5,s6,s7,hl2];exact rfl;exact rfl))
    (first|(apply WF.condT;(focus (simp only [Zg,Zf,Zd,Zm,Bool.not_true,Bool.not_false,reduceIte,Nat.reduceEqDiff,hl2];done)))|(apply WF.condF;(focus (simp only [Zg,Zf,Zd,Zm,Bool.not_true,Bool.not_false,reduceIte,Nat.reduceEqDiff,hl2];done))))
    repeat (first|(apply Zh;exact rfl)|apply Zb|apply WO.nil|(apply Zk;exact rfl;simp only [rE,rS,li,lo,reduceIte,Nat.reduceEqDiff,Nat.reduceAdd,Nat.reduceMul,Zi,bts32,s5,s6,s7,hl2];exact rfl;exact rfl))
    (apply WF.ret; (focus (simp only [Zj, Zd, Zm, Zv, reduceIte, Nat.reduceEqDiff, rs84]; exact rfl)))
    rfl
end Go.Ev.C
end
section
set_option linter.unusedVariables false
set_option linter.unusedSimpArgs false
set_option linter.defProp false
set_option linter.all false
namespace Go.Ev.C
open Go.Proofs Go.Fmt Go.RowKit
set_option maxRecDepth 100000
set_option linter.unusedSimpArgs false
variable {L : World → Prop} [YQ Q L]
theorem bts37 : Xt ⟨#[37]⟩ = [37] := rfl
set_option maxHeartbeats 8000000 in
theorem format43_c (H : AH) (f : List Nat) (segs : List Seg) (l : List (XB × AV)) (iv : AV) (hp : parse f = some segs) (hi : XR H iv l) (hl : (Xw segs).length = l.length)
    (hfit : ∀ (i : Nat) (t : List Nat) (x : XB × AV), (Xw segs)[i]? = some t → l[i]? = some x → fit1 t x.1 = true) (hin : ∀ x ∈ l, ItIn x.1 x.2) (hlen : f.length + 200 * l.length ≤ 90000000) :
    Fn Q L 43 [.str f, iv] H (fun w H' => w = .str (WA segs (l.map (·.1))) ∧ Up H H') := by
  refine Fn.intro (en43 _ _) ?_
  unfold c43 Tryz.f43
  simp only [Option.getD_some]
  repeat (first|(apply Zh;exact rfl)|apply Zb|apply WO.nil|(apply Zk;exact rfl;simp only [rE,rS,li,lo,reduceIte,Nat.reduceEqDiff,Nat.reduceAdd,Nat.reduceMul,Zw];exact rfl;exact rfl))
  (apply WO.call;(focus (simp only [rQ,Zc,li,lo,reduceIte,Nat.reduceEqDiff,Nat.reduceAdd,beq_self_eq_true];done));simp only [rE,rS,li,lo,reduceIte,Nat.reduceEqDiff,Nat.reduceAdd,Nat.reduceMul,Zw];exact rfl;exact formatted2_c _ f (by omega);rintro _ H1 ⟨hu1,hpost⟩;refine ⟨_,rfl,?_⟩)
  rw [hp] at hpost
  obtain ⟨sv, rfl, hown⟩ := hpost
  have hs := hown.strs
  replace hi := hi.up hu1
  repeat (first|(apply Zh;exact rfl)|apply Zb|apply WO.nil|(apply Zk;exact rfl;simp only [rE,rS,li,lo,reduceIte,Nat.reduceEqDiff,Nat.reduceAdd,Nat.reduceMul,Zw];exact rfl;exact rfl))
  refine YL (fun m t H' => ∃ (p n : Nat) (s : List Nat) (r : List Seg),H' = H1 ∧ p + m = f.length ∧ at' f p = some r ∧ WA segs (l.map (·.1)) = s ++ WA r ((l.drop n).map (·.1)) ∧ (Xw segs).drop n = Xw r ∧ n ≤ l.length ∧ s.length ≤ p + 200 * n ∧ t.get 0 = some (.str f) ∧ t.get 1 = some iv ∧ t.get 5 = some sv ∧ t.get 7 = some (.str s) ∧ t.get 8 = some (.int .i64 (n : Int)) ∧ t.get 9 = some (.int .i64 (p : Int))) f.length ?_ ?_
  · refine ⟨0, 0, [], segs, rfl, by omega, by rw [← parse_eq]; exact hp, by simp, by simp, by omega, by simp, ?_, ?_, ?_, ?_, ?_, ?_⟩
    all_goals simp [Zd, Zm]
  rintro m t H' ⟨p, n, s, r, rfl, hpm, hpar, hout, hcv, hnl, hsl, ht0, ht1, ht5, ht7, ht8, ht9⟩ ih
  rcases Nat.lt_or_ge p f.length with hp1 | hp1
  rotate_left
  · obtain rfl : p = f.length := by omega
    have hlt : decide ((f.length : Int) < (f.length : Int)) = false := by simp
    repeat (first|(apply Zh;exact rfl)|apply Zb|apply WO.nil|(apply WO.op;(focus (simp only [rQ,Zc,li,lo,reduceIte,Nat.reduceEqDiff,Nat.reduceAdd,beq_self_eq_true,hlt];done));simp only [rE,rS,li,lo,reduceIte,Nat.reduceEqDiff,Nat.reduceAdd,Nat.reduceMul,Zi,ZF,ht0,ht1,ht5,ht7,ht8,ht9,bts37,Zw,hlt];exact rfl;exact rfl)|(apply WO.unwanted;(focus (simp only [rQ,Zc,li,lo,reduceIte,Nat.reduceEqDiff,Nat.reduceAdd,beq_self_eq_true,hlt];done));exact rfl))
    (first|(apply WF.condT;(focus (simp only [Zg,Zf,Zd,Zm,Bool.not_true,Bool.not_false,reduceIte,Nat.reduceEqDiff,hlt];done)))|(apply WF.condF;(focus (simp only [Zg,Zf,Zd,Zm,Bool.not_true,Bool.not_false,reduceIte,Nat.reduceEqDiff,hlt];done))))
    repeat (first|(apply Zh;exact rfl)|apply Zb|apply WO.nil|(apply WO.op;(focus (simp only [rQ,Zc,li,lo,reduceIte,Nat.reduceEqDiff,Nat.reduceAdd,beq_self_eq_true,hlt];done));simp only [rE,rS,li,lo,reduceIte,Nat.reduceEqDiff,Nat.reduceAdd,Nat.reduceMul,Zi,ZF,ht0,ht1,ht5,ht7,ht8,ht9,bts37,Zw,hlt];exact rfl;exact rfl)|(apply WO.unwanted;(focus (simp only [rQ,Zc,li,lo,reduceIte,Nat.reduceEqDiff,Nat.reduceAdd,beq_self_eq_true,hlt];done));exact rfl))
    (apply WF.ret; (focus (simp only [Zj, Zd, Zm, Zv, reduceIte, Nat.reduceEqDiff, rs43]; exact rfl)))
    rw [at_end (Nat.le_refl _)] at hpar
    obtain rfl := Option.some.inj hpar
    refine ⟨?_, hu1⟩
    rw [hout]
    simp [WA]
  have hlt : decide ((p : Int) < (f.length : Int)) = true := by simp; omega
  have w1 : IntKind.i64.wrap ((p : Int) + 1) = ((p + 1 : Nat) : Int) := by rw [Go.Ev.w64 (by omega) (by omega)]; omega
  have w2 : IntKind.i64.wrap (((p + 1 : Nat) : Int) + 1) = ((p + 2 : Nat) : Int) := by rw [Go.Ev.w64 (by omega) (by omega)]; omega
  have wn : IntKind.i64.wrap ((n : Int) + 1) = ((n + 1 : Nat) : Int) := by rw [Go.Ev.w64 (by omega) (by omega)]; omega
  repeat (first|(apply Zh;exact rfl)|apply Zb|apply WO.nil|(apply WO.op;(focus (simp only [rQ,Zc,li,lo,reduceIte,Nat.reduceEqDiff,Nat.reduceAdd,beq_self_eq_true,hlt];done));simp only [rE,rS,li,lo,reduceIte,Nat.reduceEqDiff,Nat.reduceAdd,Nat.reduceMul,Zi,ZF,ht0,ht1,ht5,ht7,ht8,ht9,bts37,Zw,hlt];exact rfl;exact rfl)|(apply WO.unwanted;(focus (simp only [rQ,Zc,li,lo,reduceIte,Nat.reduceEqDiff,Nat.reduceAdd,beq_self_eq_true,hlt];done));exact rfl))
  (first|(apply WF.condT;(focus (simp only [Zg,Zf,Zd,Zm,Bool.not_true,Bool.not_false,reduceIte,Nat.reduceEqDiff,hlt];done)))|(apply WF.condF;(focus (simp only [Zg,Zf,Zd,Zm,Bool.not_true,Bool.not_false,reduceIte,Nat.reduceEqDiff,hlt];done))))
  cases q1 : decide (((f[p] : Nat) : Int) = 37)
  · have hne : f[p] ≠ 37 := by
      have := of_decide_eq_false q1
      omega
    rw [at_lit hp1 hne] at hpar
    obtain ⟨r', hr', rfl⟩ := Option.map_eq_some_iff.1 hpar
    have hs1 : YT f (some (.int .i64 (p : Int))) (some (.int .i64 ((p + 1 : Nat) : Int))) = some (.str [f[p]]) := by
      have := slS_both (s := f) (a := p) (b := p + 1) (by omega) (by omega)
      have e : (f.drop p).take (p + 1 - p) = [f[p]] := by
        rw [XL hp1 (by omega), take_done]
      rw [e] at this
      exact this
    have hadd := Yq (P := Q) 9 (a := s) (b := [f[p]]) (by simp; omega)
    repeat (first|(apply Zh;exact rfl)|apply Zb|apply WO.nil|(apply WO.op;(focus (simp only [rQ,Zc,li,lo,reduceIte,Nat.reduceEqDiff,Nat.reduceAdd,beq_self_eq_true,hlt,q1];done));simp only [rE,rS,li,lo,reduceIte,Nat.reduceEqDiff,Nat.reduceAdd,Nat.reduceMul,Zi,ZF,ht0,ht1,ht5,ht7,ht8,ht9,bts37,Zw,hlt,XA hp1,q1];exact rfl;exact rfl)|(apply WO.unwanted;(focus (simp only [rQ,Zc,li,lo,reduceIte,Nat.reduceEqDiff,Nat.reduceAdd,beq_self_eq_true,hlt,q1];done));exact rfl))
    (first|(apply WF.condT;(focus (simp only [Zg,Zf,Zd,Zm,Bool.not_true,Bool.not_false,reduceIte,Nat.reduceEqDiff,q1];done)))|(apply WF.condF;(focus (simp only [Zg,Zf,Zd,Zm,Bool.not_true,Bool.not_false,reduceIte,Nat.reduceEqDiff,q1];done))))
    repeat (first|(apply Zh;exact rfl)|apply Zb|apply WO.nil|(apply WO.op;(focus (simp only [rQ,Zc,li,lo,reduceIte,Nat.reduceEqDiff,Nat.reduceAdd,beq_self_eq_true,hlt];done));simp only [rE,rS,li,lo,reduceIte,Nat.reduceEqDiff,Nat.reduceAdd,Nat.reduceMul,Zi,ZF,ht0,ht1,ht5,ht7,ht8,ht9,bts37,Zw,hlt,w1,hs1,hadd];exact rfl;exact rfl)|(apply WO.unwanted;(focus (simp only [rQ,Zc,li,lo,reduceIte,Nat.reduceEqDiff,Nat.reduceAdd,beq_self_eq_true,hlt];done));exact rfl))
    refine Z4 ?_
    refine ih (m - 1) _ _ (by omega) ⟨p + 1, n, s ++ [f[p]], r', rfl, by omega, hr', ?_, by simpa [Xw] using hcv, hnl, ?_, ?_, ?_, ?_, ?_, ?_, ?_⟩
    · rw [hout, outS_lit]; simp
    · simp; omega
    all_goals simp [Zd, ht0, ht1, ht5, ht8]
  have heq : f[p] = 37 := by
    have := of_decide_eq_true q1
    omega
  have hp1l : p + 1 < f.length := by
    by_cases h37 : f[p + 1]? = some 37
    · exact (List.getElem?_eq_some_iff.1 h37).1
    · rw [at_cv hp1 heq h37] at hpar
      cases hse : YG f 2 (Yh f p) with
      | none => rw [hse] at hpar; cases hpar
      | some e =>
        have h1 := Xk hse
        have h2 := Wh f p
        omega
  repeat (first|(apply Zh;exact rfl)|apply Zb|apply WO.nil|(apply WO.op;(focus (simp only [rQ,Zc,li,lo,reduceIte,Nat.reduceEqDiff,Nat.reduceAdd,beq_self_eq_true,hlt,q1];done));simp only [rE,rS,li,lo,reduceIte,Nat.reduceEqDiff,Nat.reduceAdd,Nat.reduceMul,Zi,ZF,ht0,ht1,ht5,ht7,ht8,ht9,bts37,Zw,hlt,XA hp1,q1];exact rfl;exact rfl)|(apply WO.unwanted;(focus (simp only [rQ,Zc,li,lo,reduceIte,Nat.reduceEqDiff,Nat.reduceAdd,beq_self_eq_true,hlt,q1];done));exact rfl))
  (first|(apply WF.condT;(focus (simp only [Zg,Zf,Zd,Zm,Bool.not_true,Bool.not_false,reduceIte,Nat.reduceEqDiff,q1];done)))|(apply WF.condF;(focus (simp only [Zg,Zf,Zd,Zm,Bool.not_true,Bool.not_false,reduceIte,Nat.reduceEqDiff,q1];done))))
  cases q2 : decide (((f[p + 1] : Nat) : Int) = 37)
  rotate_left
  · have h37 : f[p + 1]? = some 37 := by
      rw [List.getElem?_eq_getElem hp1l]
      have := of_decide_eq_true q2
      exact congrArg some (by omega)
    rw [at_pct hp1 heq h37] at hpar
    obtain ⟨r', hr', rfl⟩ := Option.map_eq_some_iff.1 hpar
    have hadd := Yq (P := Q) 9 (a := s) (b := [37]) (by simp; omega)
    repeat (first|(apply Zh;exact rfl)|apply Zb|apply WO.nil|(apply WO.op;(focus (simp only [rQ,Zc,li,lo,reduceIte,Nat.reduceEqDiff,Nat.reduceAdd,beq_self_eq_true,hlt,q2];done));simp only [rE,rS,li,lo,reduceIte,Nat.reduceEqDiff,Nat.reduceAdd,Nat.reduceMul,Zi,ZF,ht0,ht1,ht5,ht7,ht8,ht9,bts37,Zw,hlt,w1,XA hp1l,q2];exact rfl;exact rfl)|(apply WO.unwanted;(focus (simp only [rQ,Zc,li,lo,reduceIte,Nat.reduceEqDiff,Nat.reduceAdd,beq_self_eq_true,hlt,q2];done));exact rfl))
    (first|(apply WF.condT;(focus (simp only [Zg,Zf,Zd,Zm,Bool.not_true,Bool.not_false,reduceIte,Nat.reduceEqDiff,q2];done)))|(apply WF.condF;(focus (simp only [Zg,Zf,Zd,Zm,Bool.not_true,Bool.not_false,reduceIte,Nat.reduceEqDiff,q2];done))))
    repeat (first|(apply Zh;exact rfl)|apply Zb|apply WO.nil|(apply WO.op;(focus (simp only [rQ,Zc,li,lo,reduceIte,Nat.reduceEqDiff,Nat.reduceAdd,beq_self_eq_true,hlt];done));simp only [rE,rS,li,lo,reduceIte,Nat.reduceEqDiff,Nat.reduceAdd,Nat.reduceMul,Zi,ZF,ht0,ht1,ht5,ht7,ht8,ht9,bts37,Zw,hlt,w1,w2,hadd];exact rfl;exact rfl)|(apply WO.unwanted;(focus (simp only [rQ,Zc,li,lo,reduceIte,Nat.reduceEqDiff,Nat.reduceAdd,beq_self_eq_true,hlt];done));exact rfl))
    refine Z4 ?_
    refine ih (f.length - (p + 2)) _ _ (by omega) ⟨p + 2, n, s ++ [37], r', rfl, by omega, hr', ?_, by simpa [Xw] using hcv, hnl, ?_, ?_, ?_, ?_, ?_, ?_, ?_⟩
    · rw [hout]; simp [WA]
    · simp; omega
    all_goals simp [Zd, ht0, ht1, ht5, ht8]
  have h37 : f[p + 1]? ≠ some 37 := by
    rw [List.getElem?_eq_getElem hp1l]
    have := of_decide_eq_false q2
    intro h
    have := Option.some.inj h
    omega
  rw [at_cv hp1 heq h37] at hpar
  cases hse : YG f 2 (Yh f p) with
  | none => rw [hse] at hpar; cases hpar
  | some e =>
  rw [hse] at hpar
  dsimp only at hpar
  obtain ⟨r', hr', rfl⟩ := Option.map_eq_some_iff.1 hpar
  have he := Xk hse
  have hpd := Wh f p
  have hiscv := isCv hp1 heq hse
  generalize htt : (f.drop p).take (e - p) = tt at *
  have htl : tt.length = e - p := by rw [← htt]; simp; omega
  obtain ⟨hcn, hcv'⟩ := drop_at (show (Xw segs).drop n = tt :: Xw r' from hcv)
  have hn1 : n < l.length := by rw [← hl]; exact (List.getElem?_eq_some_iff.1 hcn).1
  have hln : l[n]? = some l[n] := List.getElem?_eq_getElem hn1
  have hldrop : l.drop n = l[n] :: l.drop (n + 1) := List.drop_eq_getElem_cons hn1
  generalize hx : l[n] = x at *
  have hfx := hfit n tt x hcn hln
  have hxi := hin x (by rw [← hx]; exact List.getElem_mem hn1)
  obtain ⟨sb, soff, scap, sc, rfl, hsc, hscell⟩ := hs.at hcn
  obtain ⟨ib, ioff, icap, ic, rfl, hic, hicell⟩ := hi.at hln
  have hcs : n < (Xw segs).length := by omega
  have hol := cvOut_len hiscv hfx
  have we : IntKind.i64.wrap ((p : Int) + (tt.length : Int)) = ((e : Nat) : Int) := by rw [Go.Ev.w64 (by omega) (by omega)]; omega
  have we1 : IntKind.i64.wrap ((e : Int) - 1) = ((e - 1 : Nat) : Int) := by rw [Go.Ev.w64 (by omega) (by omega)]; omega
  have we2 : IntKind.i64.wrap (((e - 1 : Nat) : Int) + 1) = ((e : Nat) : Int) := by rw [Go.Ev.w64 (by omega) (by omega)]; omega
  have hadd := Yq (P := Q) 9 (a := s) (b := cvOut tt x.1) (by omega)
  repeat (first|(apply Zh;exact rfl)|apply Zb|apply WO.nil|(apply WO.op;(focus (simp only [rQ,Zc,li,lo,reduceIte,Nat.reduceEqDiff,Nat.reduceAdd,beq_self_eq_true,hlt,q2];done));simp only [rE,rS,li,lo,reduceIte,Nat.reduceEqDiff,Nat.reduceAdd,Nat.reduceMul,Zi,ZF,ht0,ht1,ht5,ht7,ht8,ht9,bts37,Zw,hlt,w1,XA hp1l,q2];exact rfl;exact rfl)|(apply WO.unwanted;(focus (simp only [rQ,Zc,li,lo,reduceIte,Nat.reduceEqDiff,Nat.reduceAdd,beq_self_eq_true,hlt,q2];done));exact rfl))
  (first|(apply WF.condT;(focus (simp only [Zg,Zf,Zd,Zm,Bool.not_true,Bool.not_false,reduceIte,Nat.reduceEqDiff,q2];done)))|(apply WF.condF;(focus (simp only [Zg,Zf,Zd,Zm,Bool.not_true,Bool.not_false,reduceIte,Nat.reduceEqDiff,q2];done))))
  repeat (first|(apply Zh;exact rfl)|apply Zb|apply WO.nil|(apply WO.op;(focus (simp only [rQ,Zc,li,lo,reduceIte,Nat.reduceEqDiff,Nat.reduceAdd,beq_self_eq_true,hlt];done));simp only [rE,rS,li,lo,reduceIte,Nat.reduceEqDiff,Nat.reduceAdd,Nat.reduceMul,Zi,ZF,ht0,ht1,ht5,ht7,ht8,ht9,bts37,Zw,hlt];exact rfl;exact rfl)|(apply WO.unwanted;(focus (simp only [rQ,Zc,li,lo,reduceIte,Nat.reduceEqDiff,Nat.reduceAdd,beq_self_eq_true,hlt];done));exact rfl))
  (apply YB; kernel_rfl; kernel_rfl)
  (refine Zs ?_;(iterate 9 (first|(apply ZU.pure;kernel_rfl;kernel_rfl;(focus ((simp only [rQ,Zc,li,lo,reduceIte,Nat.reduceEqDiff,Nat.reduceAdd,beq_self_eq_true];done)));simp only [rE,rS,li,lo,reduceIte,Nat.reduceEqDiff,Nat.reduceAdd,Nat.reduceMul,Zi,ZF,ht0,ht1,ht5,ht7,ht8,ht9,bts37,Zw,ZH und74 sz9 hcs,ZH und22 ZR hn1,Za ZA,Ze ZE ZR,hsc,hscell,hic,hicell,cell_str];exact rfl;exact rfl)|(apply ZU.load;kernel_rfl;kernel_rfl;(focus ((simp only [rQ,Zc,li,lo,reduceIte,Nat.reduceEqDiff,Nat.reduceAdd,beq_self_eq_true];done)));simp only [rE,rS,li,lo,reduceIte,Nat.reduceEqDiff,Nat.reduceAdd,Nat.reduceMul,Zi,ZF,ht0,ht1,ht5,ht7,ht8,ht9,bts37,Zw,ZH und74 sz9 hcs,ZH und22 ZR hn1,Za ZA,Ze ZE ZR,hsc,hscell,hic,hicell,cell_str];exact rfl;exact rfl)));(iterate 3 (apply ZU.later;kernel_rfl));refine ZU.nil ?_)
  (apply ZZ.call (e := 9);kernel_rfl;simp only [li];exact rfl;(focus (simp only [rQ,Zc,li,lo,reduceIte,Nat.reduceEqDiff,Nat.reduceAdd,beq_self_eq_true];done));simp only [rE,rS,li,lo,reduceIte,Nat.reduceEqDiff,Nat.reduceAdd,Nat.reduceMul,Zi,ZF,ht0,ht1,ht5,ht7,ht8,ht9,bts37,Zw,cu84];exact rfl;exact converted84_c _ x.1 x.2 tt hiscv hxi hfx;rintro _ H' ⟨rfl,rfl⟩;refine ⟨_,rfl,?_,?_⟩;(focus exact Zx (by kernel_rfl)))
  (refine Zs ?_;(iterate 10 (apply ZU.later;kernel_rfl));(iterate 1 (apply ZU.pure;kernel_rfl;kernel_rfl;(focus ((simp only [rQ,Zc,li,lo,reduceIte,Nat.reduceEqDiff,Nat.reduceAdd,beq_self_eq_true];done)));simp only [rE,rS,li,lo,reduceIte,Nat.reduceEqDiff,Nat.reduceAdd,Nat.reduceMul,Zi,ZF,ht0,ht1,ht5,ht7,ht8,ht9,bts37,Zw,hadd];exact rfl;exact rfl));(iterate 1 (apply ZU.later;kernel_rfl));refine ZU.nil ?_)
  (apply ZZ.eff (e := 11);kernel_rfl;simp only [li];exact rfl;(focus (simp only [rQ,Zc,li,lo,reduceIte,Nat.reduceEqDiff,Nat.reduceAdd,beq_self_eq_true];done));simp only [rE,rS,li,lo,reduceIte,Nat.reduceEqDiff,Nat.reduceAdd,Nat.reduceMul,Zi,ZF,ht0,ht1,ht5,ht7,ht8,ht9,bts37,Zw];exact rfl;exact rfl;(focus exact Zx (by kernel_rfl)))
  (refine Zs ?_; (iterate 12 (apply ZU.later; kernel_rfl)); refine ZU.nil ?_)
  (apply ZZ.all; kernel_rfl; kernel_rfl)
  repeat (first|(apply Zh;exact rfl)|apply Zb|apply WO.nil|(apply Zk;exact rfl;simp only [rE,rS,li,lo,reduceIte,Nat.reduceEqDiff,Nat.reduceAdd,Nat.reduceMul,Zi,ZF,ht0,ht1,ht5,ht7,ht8,ht9,bts37,Zw,ZH und74 sz9 hcs,Za ZA,hsc,hscell,cell_str,we,we1,we2,wn];exact rfl;exact rfl))
  refine Z4 ?_
  refine ih (f.length - e) _ _ (by omega) ⟨e, n + 1, s ++ cvOut tt x.1, r', rfl, by omega, hr', ?_, hcv', by omega, ?_, ?_, ?_, ?_, ?_, ?_, ?_⟩
  · rw [hout, hldrop]
    simp [WA]
  · simp; omega
  all_goals simp [Zd, ht0, ht1, ht5]
end Go.Ev.C
end
section
set_option linter.unusedVariables false
set_option linter.unusedSimpArgs false
set_option linter.defProp false
set_option linter.all false
namespace Go.Ev.C
open Go.Proofs Go.Fmt Go.RowKit
set_option maxRecDepth 100000
set_option linter.unusedSimpArgs false
variable {L : World → Prop} [YQ Q L]
theorem Xi : zeroU Q 31 = some (.agg [.str [], .int .i64 0]) := by kernel_rfl
theorem bu31e (z : Int) : buildU Q 31 [(1, .int .i64 z)] = some (.agg [.str [], .int .i64 z]) := by kernel_rfl
theorem bu31s (s : List Nat) : buildU Q 31 [(0, .str s)] = some (.agg [.str s, .int .i64 0]) := by kernel_rfl
theorem get_one {t : Tri AB} {n : Nat} {o : Option AB} : (Tri.put t n o).get n = o := by rw [Zd, if_pos rfl]
theorem Up.bx1 (H : AH) (o : Option AB) : Up H ⟨H.t.put H.next o, H.next + 1⟩ :=
  ⟨Nat.le_succ _, fun b hb => by show (H.t.put _ _).get b = _; rw [Zd, if_neg (by omega)]⟩
theorem Up.st {H0 H : AH} (hu : Up H0 H) {b : Nat} (hb : H0.next ≤ b) (o : Option AB) : Up H0 ⟨H.t.put b o, H.next⟩ :=
  ⟨hu.next, fun b' hb' => by show (H.t.put _ _).get b' = _; rw [Zd, if_neg (by omega)]; exact hu.old b' hb'⟩
theorem two_all (s : List Nat) (z : Int) : cut [.str s, .int .i64 z] 0 2 = some [.str s, .int .i64 z] := ZG rfl rfl
theorem store31 {H : AH} {b : Nat} {s0 : List Nat} {z0 : Int} (hg : H.t.get b = some (.cells 31 [.str s0,.int .i64 z0] 0 false false)) (s : List Nat) (z : Int) : Wn Q 31 b 0 (.agg [.str s,.int .i64 z]) H = some ⟨H.t.put b (some (.cells 31 [.str s,.int .i64 z] 0 false false)),H.next⟩ := by
  unfold Wn
  rw [hg, sz31]
  rfl
set_option maxHeartbeats 8000000 in
theorem format13_c (H : AH) (f : List Nat) (l : List (XB × AV)) (iv : AV) (hi : XR H iv l) (hin : ∀ x ∈ l, ItIn x.1 x.2) (hlen : f.length + 200 * l.length ≤ 90000000) :
    Fn Q L 13 [.str f, iv] H (fun w H' => w = .agg [.str (fmtR f (l.map (·.1))).1, .int .i64 (fmtR f (l.map (·.1))).2] ∧ Up H H') := by
  refine Fn.intro (en13 _ _) ?_
  have his := hi.1
  unfold c13 Tryz.f13
  simp only [Option.getD_some]
  repeat (first|(apply Zh;exact rfl)|apply Zb|apply WO.nil|(apply Zk;exact rfl;simp only [rE,rS,li,lo,reduceIte,Nat.reduceEqDiff,Nat.reduceAdd,Nat.reduceMul,Xi];exact rfl;exact rfl))
  (apply WO.call;(focus (simp only [rQ,Zc,li,lo,reduceIte,Nat.reduceEqDiff,Nat.reduceAdd,beq_self_eq_true];done));simp only [rE,rS,li,lo,reduceIte,Nat.reduceEqDiff,Nat.reduceAdd,Nat.reduceMul,Xi];exact rfl;exact formatted2_c _ f (by omega);rintro _ H1 ⟨hu1,hpost⟩;refine ⟨_,rfl,?_⟩)
  have hg1 : H1.t.get H.next = some (.cells 31 [.str [], .int .i64 0] 0 false false) := by
    rw [hu1.old _ (Nat.lt_succ_self _)]
    exact get_one
  have hub : Up H H1 := (Up.bx1 H _).trans hu1
  have hst1 := store31 hg1
  have hup : ∀ o, Up H ⟨H1.t.put H.next o, H1.next⟩ := fun o => Up.st hub (Nat.le_refl _) o
  unfold fmtR
  cases hp : parse f with
  | none =>
    rw [hp] at hpost
    subst hpost
    repeat (first|(apply Zh;exact rfl)|apply Zb|apply WO.nil|(apply Zk;exact rfl;simp only [rE,rS,li,lo,reduceIte,Nat.reduceEqDiff,Nat.reduceAdd,Nat.reduceMul,Xi];exact rfl;exact rfl))
    (first|(apply WF.condT;(focus (simp only [Zg,Zf,Zd,Zm,Bool.not_true,Bool.not_false,reduceIte,Nat.reduceEqDiff];done)))|(apply WF.condF;(focus (simp only [Zg,Zf,Zd,Zm,Bool.not_true,Bool.not_false,reduceIte,Nat.reduceEqDiff];done))))
    repeat (first|(apply Zh;exact rfl)|apply Zb|apply WO.nil|(apply Zk;exact rfl;simp only [rE,rQ,li,lo,reduceIte,Nat.reduceEqDiff,Nat.reduceAdd,Nat.reduceMul,AH.set,YX,bu31e,hst1];exact rfl;exact rfl))
    (apply WF.ret; (focus (simp only [Zj, Zd, Zm, Zv, reduceIte, Nat.reduceEqDiff, rs13, Ze agg31 sz31, Yu, two_all, Option.map_some]; exact rfl)))
    exact ⟨rfl, hup _⟩
  | some segs =>
  rw [hp] at hpost
  obtain ⟨v, rfl, hown⟩ := hpost
  have hstr := hown.strs
  have hss := hstr.1
  have hcv := parse_isCv hp
  replace hi := hi.up hub
  repeat (first|(apply Zh;exact rfl)|apply Zb|apply WO.nil|(apply Zk;exact rfl;simp only [rE,rS,li,lo,reduceIte,Nat.reduceEqDiff,Nat.reduceAdd,Nat.reduceMul,Xi];exact rfl;exact rfl))
  (first|(apply WF.condT;(focus (simp only [Zg,Zf,Zd,Zm,Bool.not_true,Bool.not_false,reduceIte,Nat.reduceEqDiff];done)))|(apply WF.condF;(focus (simp only [Zg,Zf,Zd,Zm,Bool.not_true,Bool.not_false,reduceIte,Nat.reduceEqDiff];done))))
  repeat (first|(apply Zh;exact rfl)|apply Zb|apply WO.nil|(apply Zk;exact rfl;simp only [rE,rS,li,lo,reduceIte,Nat.reduceEqDiff,Nat.reduceAdd,Nat.reduceMul,und74,und22,ZP und74 hss,ZP und22 his];exact rfl;exact rfl))
  cases dl : decide (((Xw segs).length : Int) = (l.length : Int))
  · have hne : (Xw segs).length ≠ l.length := by
      have := of_decide_eq_false dl
      omega
    repeat (first|(apply Zh;exact rfl)|apply Zb|apply WO.nil|(apply Zk;exact rfl;simp only [rE,rS,li,lo,reduceIte,Nat.reduceEqDiff,Nat.reduceAdd,Nat.reduceMul,dl];exact rfl;exact rfl))
    (first|(apply WF.condT;(focus (simp only [Zg,Zf,Zd,Zm,Bool.not_true,Bool.not_false,reduceIte,Nat.reduceEqDiff,dl];done)))|(apply WF.condF;(focus (simp only [Zg,Zf,Zd,Zm,Bool.not_true,Bool.not_false,reduceIte,Nat.reduceEqDiff,dl];done))))
    repeat (first|(apply Zh;exact rfl)|apply Zb|apply WO.nil|(apply Zk;exact rfl;simp only [rE,rQ,li,lo,reduceIte,Nat.reduceEqDiff,Nat.reduceAdd,Nat.reduceMul,AH.set,YX,bu31e,hst1];exact rfl;exact rfl))
    (apply WF.ret; (focus (simp only [Zj, Zd, Zm, Zv, reduceIte, Nat.reduceEqDiff, rs13, Ze agg31 sz31, Yu, two_all, Option.map_some]; exact rfl)))
    refine ⟨?_, hup _⟩
    simp [hne]
  have hll : (Xw segs).length = l.length := by
    have := of_decide_eq_true dl
    omega
  repeat (first|(apply Zh;exact rfl)|apply Zb|apply WO.nil|(apply Zk;exact rfl;simp only [rE,rS,li,lo,reduceIte,Nat.reduceEqDiff,Nat.reduceAdd,Nat.reduceMul,dl];exact rfl;exact rfl))
  (first|(apply WF.condT;(focus (simp only [Zg,Zf,Zd,Zm,Bool.not_true,Bool.not_false,reduceIte,Nat.reduceEqDiff,dl];done)))|(apply WF.condF;(focus (simp only [Zg,Zf,Zd,Zm,Bool.not_true,Bool.not_false,reduceIte,Nat.reduceEqDiff,dl];done))))
  repeat (first|(apply Zh;exact rfl)|apply Zb|apply WO.nil|(apply Zk;exact rfl;simp only [rE,rS,li,lo,reduceIte,Nat.reduceEqDiff,Nat.reduceAdd,Nat.reduceMul,Xi];exact rfl;exact rfl))
  refine YL (fun m t H' => ∃ i : Nat,H' = H1 ∧ i + m = l.length ∧ (∀ (j : Nat) (tt : List Nat) (x : XB × AV),j < i → (Xw segs)[j]? = some tt → l[j]? = some x → fit1 tt x.1 = true) ∧ t.get 0 = some (.str f) ∧ t.get 1 = some iv ∧ t.get 4 = some (.ptr H.next 0) ∧ t.get 5 = some v ∧ t.get 7 = some (.int .i64 (i : Int))) l.length ?_ ?_
  · refine ⟨0, rfl, by omega, fun j _ _ h => by omega, ?_, ?_, ?_, ?_, ?_⟩
    all_goals simp [Zd, Zm, hll]
  rintro m t H' ⟨i, rfl, him, hok, ht0, ht1, ht4, ht5, ht7⟩ ih
  by_cases hil : i < l.length
  · have hlt : decide ((i : Int) < (l.length : Int)) = true := by simp; omega
    have hcs : i < (Xw segs).length := by omega
    have htt : (Xw segs)[i]? = some (Xw segs)[i] := List.getElem?_eq_getElem hcs
    have hln : l[i]? = some l[i] := List.getElem?_eq_getElem hil
    have hci : IsCv (Xw segs)[i] := hcv _ (List.getElem_mem hcs)
    have hxi := hin l[i] (List.getElem_mem hil)
    generalize (Xw segs)[i] = tt at *
    generalize l[i] = x at *
    obtain ⟨sb, soff, scap, sc, rfl, hsc, hscell⟩ := hstr.at htt
    obtain ⟨ib, ioff, icap, ic, rfl, hic, hicell⟩ := hi.at hln
    have wi : IntKind.i64.wrap ((i : Int) + 1) = ((i + 1 : Nat) : Int) := by
      have := Nat.lt_of_lt_of_le hil (show l.length ≤ 90000000 by omega)
      rw [Go.Ev.w64 (by omega) (by omega)]; omega
    have hrf : ∀ H, Fn Q L 42 [.str tt, IV x.1 x.2] H (fun w H' => w = .bool (fitsB x.1 (YH tt)) ∧ H' = H) := fun H => by
      rw [← ref_fits hxi.lo hxi.hi]
      exact refFits_c H x.1 x.2 hxi.one (by have := hxi.len; omega) tt hci
    repeat (first|(apply Zh;exact rfl)|apply Zb|apply WO.nil|(apply WO.op;(focus (simp only [rQ,Zc,li,lo,reduceIte,Nat.reduceEqDiff,Nat.reduceAdd,beq_self_eq_true,hlt];done));simp only [rE,rS,li,lo,reduceIte,Nat.reduceEqDiff,Nat.reduceAdd,Nat.reduceMul,Zi,ht0,ht1,ht4,ht5,ht7,und22,ZP und22 his,hlt];exact rfl;exact rfl)|(apply WO.unwanted;(focus (simp only [rQ,Zc,li,lo,reduceIte,Nat.reduceEqDiff,Nat.reduceAdd,beq_self_eq_true,hlt];done));exact rfl))
    (first|(apply WF.condT;(focus (simp only [Zg,Zf,Zd,Zm,Bool.not_true,Bool.not_false,reduceIte,Nat.reduceEqDiff,hlt];done)))|(apply WF.condF;(focus (simp only [Zg,Zf,Zd,Zm,Bool.not_true,Bool.not_false,reduceIte,Nat.reduceEqDiff,hlt];done))))
    repeat (first|(apply Zh;exact rfl)|apply Zb|apply WO.nil|(apply WO.op;(focus (simp only [rQ,Zc,li,lo,reduceIte,Nat.reduceEqDiff,Nat.reduceAdd,beq_self_eq_true,hlt];done));simp only [rE,rS,li,lo,reduceIte,Nat.reduceEqDiff,Nat.reduceAdd,Nat.reduceMul,Zi,ht0,ht1,ht4,ht5,ht7,hlt];exact rfl;exact rfl)|(apply WO.unwanted;(focus (simp only [rQ,Zc,li,lo,reduceIte,Nat.reduceEqDiff,Nat.reduceAdd,beq_self_eq_true,hlt];done));exact rfl))
    (apply YB; kernel_rfl; kernel_rfl)
    (refine Zs ?_;(iterate 8 (first|(apply ZU.pure;kernel_rfl;kernel_rfl;(focus ((simp only [rQ,Zc,li,lo,reduceIte,Nat.reduceEqDiff,Nat.reduceAdd,beq_self_eq_true,hlt];done)));simp only [rE,rS,li,lo,reduceIte,Nat.reduceEqDiff,Nat.reduceAdd,Nat.reduceMul,Zi,ht0,ht1,ht4,ht5,ht7,hlt,ZH und74 sz9 hcs,Za ZA,hsc,hscell,cell_str,ZH und22 ZR hil,Ze ZE ZR,hic,hicell];exact rfl;exact rfl)|(apply ZU.load;kernel_rfl;kernel_rfl;(focus ((simp only [rQ,Zc,li,lo,reduceIte,Nat.reduceEqDiff,Nat.reduceAdd,beq_self_eq_true,hlt];done)));simp only [rE,rS,li,lo,reduceIte,Nat.reduceEqDiff,Nat.reduceAdd,Nat.reduceMul,Zi,ht0,ht1,ht4,ht5,ht7,hlt,ZH und74 sz9 hcs,Za ZA,hsc,hscell,cell_str,ZH und22 ZR hil,Ze ZE ZR,hic,hicell];exact rfl;exact rfl)));(iterate 2 (apply ZU.later;kernel_rfl));refine ZU.nil ?_)
    (apply ZZ.call (e := 8);kernel_rfl;simp only [li];exact rfl;(focus (simp only [rQ,Zc,li,lo,reduceIte,Nat.reduceEqDiff,Nat.reduceAdd,beq_self_eq_true];done));simp only [rE,rS,li,lo,reduceIte,Nat.reduceEqDiff,Nat.reduceAdd,Nat.reduceMul,Zi,ht0,ht1,ht4,ht5,ht7,cu42];exact rfl;exact hrf _;rintro _ H' ⟨rfl,rfl⟩;refine ⟨_,rfl,?_,?_⟩;(focus exact Zx (by kernel_rfl)))
    (refine Zs ?_;(iterate 9 (apply ZU.later;kernel_rfl));(iterate 1 (apply ZU.pure;kernel_rfl;kernel_rfl;(focus ((simp only [rQ,Zc,li,lo,reduceIte,Nat.reduceEqDiff,Nat.reduceAdd,beq_self_eq_true];done)));simp only [rE,rS,li,lo,reduceIte,Nat.reduceEqDiff,Nat.reduceAdd,Nat.reduceMul,Zi,ht0,ht1,ht4,ht5,ht7];exact rfl;exact rfl));refine ZU.nil ?_)
    (apply ZZ.all; kernel_rfl; kernel_rfl)
    cases hfx : fitsB x.1 (YH tt)
    · repeat (first|(apply Zh;exact rfl)|apply Zb|apply WO.nil|(apply Zk;exact rfl;simp only [rE,rS,li,lo,reduceIte,Nat.reduceEqDiff,Nat.reduceAdd,Nat.reduceMul,Zi,ht0,ht1,ht4,ht5,ht7,hfx];exact rfl;exact rfl))
      (first|(apply WF.condT;(focus (simp only [Zg,Zf,Zd,Zm,Bool.not_true,Bool.not_false,reduceIte,Nat.reduceEqDiff];done)))|(apply WF.condF;(focus (simp only [Zg,Zf,Zd,Zm,Bool.not_true,Bool.not_false,reduceIte,Nat.reduceEqDiff];done))))
      repeat (first|(apply Zh;exact rfl)|apply Zb|apply WO.nil|(apply Zk;exact rfl;simp only [rE,rQ,li,lo,reduceIte,Nat.reduceEqDiff,Nat.reduceAdd,Nat.reduceMul,AH.set,Zi,ht0,ht1,ht4,ht5,ht7,YX,bu31e,hst1];exact rfl;exact rfl))
      (apply WF.ret; (focus (simp only [Zj, Zd, Zm, Zv, reduceIte, Nat.reduceEqDiff, rs13, Ze agg31 sz31, Yu, two_all, Option.map_some, ht4]; exact rfl)))
      refine ⟨?_, hup _⟩
      have hnf : X9 (Xw segs) (l.map (·.1)) ≠ true := fun h => by
        have := allFit_get h i tt x.1 htt (by rw [List.getElem?_map, hln]; rfl)
        unfold fit1 at this
        rw [hfx] at this
        cases this
      simp [hnf]
    · repeat (first|(apply Zh;exact rfl)|apply Zb|apply WO.nil|(apply Zk;exact rfl;simp only [rE,rS,li,lo,reduceIte,Nat.reduceEqDiff,Nat.reduceAdd,Nat.reduceMul,Zi,ht0,ht1,ht4,ht5,ht7,hfx];exact rfl;exact rfl))
      (first|(apply WF.condT;(focus (simp only [Zg,Zf,Zd,Zm,Bool.not_true,Bool.not_false,reduceIte,Nat.reduceEqDiff];done)))|(apply WF.condF;(focus (simp only [Zg,Zf,Zd,Zm,Bool.not_true,Bool.not_false,reduceIte,Nat.reduceEqDiff];done))))
      repeat (first|(apply Zh;exact rfl)|apply Zb|apply WO.nil|(apply Zk;exact rfl;simp only [rE,rS,li,lo,reduceIte,Nat.reduceEqDiff,Nat.reduceAdd,Nat.reduceMul,Zi,ht0,ht1,ht4,ht5,ht7,hfx,wi];exact rfl;exact rfl))
      refine Z4 ?_
      refine ih (m - 1) _ _ (by omega) ⟨i + 1, rfl, by omega, ?_, ?_, ?_, ?_, ?_, ?_⟩
      · intro j tt' x' hj h1 h2
        by_cases e : j = i
        · subst e
          rw [htt] at h1
          rw [hln] at h2
          cases h1
          cases h2
          exact hfx
        · exact hok j tt' x' (by omega) h1 h2
      all_goals simp [Zd, ht0, ht1, ht4, ht5]
  · have hlt : decide ((i : Int) < (l.length : Int)) = false := by simp; omega
    obtain rfl : i = l.length := by omega
    have hfit : ∀ (j : Nat) (tt : List Nat) (x : XB × AV), (Xw segs)[j]? = some tt → l[j]? = some x → fit1 tt x.1 = true := fun j tt x h1 h2 => hok j tt x (List.getElem?_eq_some_iff.1 h2).1 h1 h2
    have haf : X9 (Xw segs) (l.map (·.1)) = true := allFit_of fun j tt x h1 h2 => by
      rw [List.getElem?_map, Option.map_eq_some_iff] at h2
      obtain ⟨y, hy, rfl⟩ := h2
      exact hfit j tt y h1 hy
    repeat (first|(apply Zh;exact rfl)|apply Zb|apply WO.nil|(apply WO.op;(focus (simp only [rQ,Zc,li,lo,reduceIte,Nat.reduceEqDiff,Nat.reduceAdd,beq_self_eq_true,hlt];done));simp only [rE,rS,li,lo,reduceIte,Nat.reduceEqDiff,Nat.reduceAdd,Nat.reduceMul,Zi,ht0,ht1,ht4,ht5,ht7,und22,ZP und22 his,hlt];exact rfl;exact rfl)|(apply WO.unwanted;(focus (simp only [rQ,Zc,li,lo,reduceIte,Nat.reduceEqDiff,Nat.reduceAdd,beq_self_eq_true,hlt];done));exact rfl))
    (first|(apply WF.condT;(focus (simp only [Zg,Zf,Zd,Zm,Bool.not_true,Bool.not_false,reduceIte,Nat.reduceEqDiff,hlt];done)))|(apply WF.condF;(focus (simp only [Zg,Zf,Zd,Zm,Bool.not_true,Bool.not_false,reduceIte,Nat.reduceEqDiff,hlt];done))))
    repeat (first|(apply Zh;exact rfl)|apply Zb|apply WO.nil|(apply WO.op;(focus (simp only [rQ,Zc,li,lo,reduceIte,Nat.reduceEqDiff,Nat.reduceAdd,beq_self_eq_true,hlt];done));simp only [rE,rS,li,lo,reduceIte,Nat.reduceEqDiff,Nat.reduceAdd,Nat.reduceMul,Zi,ht0,ht1,ht4,ht5,ht7,hlt];exact rfl;exact rfl)|(apply WO.unwanted;(focus (simp only [rQ,Zc,li,lo,reduceIte,Nat.reduceEqDiff,Nat.reduceAdd,beq_self_eq_true,hlt];done));exact rfl))
    (apply WO.call;(focus (simp only [rQ,Zc,li,lo,reduceIte,Nat.reduceEqDiff,Nat.reduceAdd,beq_self_eq_true];done));simp only [rE,rS,li,lo,reduceIte,Nat.reduceEqDiff,Nat.reduceAdd,Nat.reduceMul,Zi,ht0,ht1,ht4,ht5,ht7,cu43];exact rfl;exact format43_c _ f segs l iv hp hi hll hfit hin hlen;rintro _ H3 ⟨rfl,hu3⟩;refine ⟨_,rfl,?_⟩)
    have hg3 : H3.t.get H.next = some (.cells 31 [.str [], .int .i64 0] 0 false false) := by
      rw [hu3.old _ (Nat.lt_of_lt_of_le (Nat.lt_succ_self _) hu1.next)]
      exact hg1
    have hst3 := store31 hg3
    repeat (first|(apply Zh;exact rfl)|apply Zb|apply WO.nil|(apply Zk;exact rfl;simp only [rE,rQ,li,lo,reduceIte,Nat.reduceEqDiff,Nat.reduceAdd,Nat.reduceMul,AH.set,Zi,ht0,ht1,ht4,ht5,ht7,YX,bu31s,hst3];exact rfl;exact rfl))
    (apply WF.ret; (focus (simp only [Zj, Zd, Zm, Zv, reduceIte, Nat.reduceEqDiff, rs13, Ze agg31 sz31, Yu, two_all, Option.map_some, ht4]; exact rfl)))
    refine ⟨?_, Up.st (hub.trans hu3) (Nat.le_refl _) _⟩
    simp [hll, haf]
end Go.Ev.C
end
