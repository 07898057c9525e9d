/- Contracts: the reference: kinds, values, conversions found. -/
import Derived.Test.YtkkegnkopmpjhaaGreatDoorEvG
import Derived.Test.YtkkegnkopmpjhaaGreatDoorEvL
section
set_option linter.unusedVariables false
set_option linter.unusedSimpArgs false
set_option linter.defProp false
set_option linter.all false
namespace Go.Ev.C
open Go.Proofs
-- T2 int64 size 1 bytes 8
-- T3 int size 1 bytes 8
-- T4 bool size 1 bytes 1
-- T5 uint8 size 1 bytes 1
-- T9 string size 1 bytes 16
-- T21 int32 size 1 bytes 4
-- T22 []api.Item size 1 bytes 24
-- T23 []api.Sym size 1 bytes 24
-- T24 []int64 size 1 bytes 24
-- T26 api.Errno size 1 bytes 8
theorem agg31 : Xq Q 31 = some true := by kernel_rfl
theorem sz31 : szU Q 31 = some 2 := by kernel_rfl
-- T31 taplineref26.Said size 2 bytes 24
-- T35 []uint8 size 1 bytes 24
-- T64 api.Int size 2 bytes 16
-- T66 api.Ty size 4 bytes 32
-- T68 api.Value size 3 bytes 32
-- T70 api.Item size 10 bytes 104
-- T71 uint64 size 1 bytes 8
-- T74 []string size 1 bytes 24
-- T104 api.Sym size 3 bytes 32
-- T168 *strings.Builder size 1 bytes 8
-- T170 strings.Builder size 2 bytes 32
theorem agg248 : Xq Q 248 = some false := by kernel_rfl
theorem sz248 : szU Q 248 = some 1 := by kernel_rfl
-- T248 func(uint64) string size 1 bytes 8
-- T294 func(api.Sym) bool size 1 bytes 8
-- T295 int8 size 1 bytes 1
-- T296 int16 size 1 bytes 2
-- T297 uint16 size 1 bytes 2
-- T298 uint32 size 1 bytes 4
theorem Z8 (b off : Nat) : Ya Q 64 (.ptr b off) 1 = some (.ptr b (off + 1)) := by kernel_rfl
theorem fa104_2 (b off : Nat) : Ya Q 104 (.ptr b off) 2 = some (.ptr b (off + 2)) := by kernel_rfl
theorem Yp (b off : Nat) : Ya Q 104 (.ptr b off) 1 = some (.ptr b (off + 1)) := by kernel_rfl
theorem XP (b off : Nat) : Ya Q 104 (.ptr b off) 0 = some (.ptr b (off + 0)) := by kernel_rfl
theorem fa31_1 (b off : Nat) : Ya Q 31 (.ptr b off) 1 = some (.ptr b (off + 1)) := by kernel_rfl
theorem fa31_0 (b off : Nat) : Ya Q 31 (.ptr b off) 0 = some (.ptr b (off + 0)) := by kernel_rfl
noncomputable def c3 : Code := (Tryz.f3.body).getD .skip
theorem en3 (a0 a1 a2 a3 : AV) : ZI Q 3 [a0, a1, a2, a3] .normal = some (PF 3 60 (Zm 0 [a0, a1, a2, a3] .leaf) [.code c3]) := by kernel_rfl
theorem rs3 (n : Nat) (t : Tri AV) (k : List AI) (H : AH) : ZB Q (PF 3 n t k) H = Zv (Zj Q t H [.tmp 8]) := by kernel_rfl
noncomputable def c12 : Code := (Tryz.f12.body).getD .skip
theorem en12 (a0 a1 : AV) : ZI Q 12 [a0, a1] .normal = some (PF 12 12 (Zm 0 [a0, a1] .leaf) [.code c12]) := by kernel_rfl
theorem rs12 (n : Nat) (t : Tri AV) (k : List AI) (H : AH) : ZB Q (PF 12 n t k) H = Zv (Zj Q t H [.tmp 4, .tmp 5]) := by kernel_rfl
theorem cu12 (l : List AV) (H : AH) : Z3 Q (.func 12 [] []) l H = some (.enter 12 ([] ++ l ++ []), H) := by kernel_rfl
noncomputable def c13 : Code := (Tryz.f13.body).getD .skip
theorem en13 (a0 a1 : AV) : ZI Q 13 [a0, a1] .normal = some (PF 13 43 (Zm 0 [a0, a1] .leaf) [.code c13]) := by kernel_rfl
theorem rs13 (n : Nat) (t : Tri AV) (k : List AI) (H : AH) : ZB Q (PF 13 n t k) H = Zv (Zj Q t H [.cell 4 31]) := by kernel_rfl
theorem cu13 (l : List AV) (H : AH) : Z3 Q (.func 13 [] []) l H = some (.enter 13 ([] ++ l ++ []), H) := by kernel_rfl
noncomputable def c14 : Code := (Tryz.f14.body).getD .skip
theorem en14 (a0 a1 : AV) : ZI Q 14 [a0, a1] .normal = some (PF 14 13 (Zm 0 [a0, a1] .leaf) [.code c14]) := by kernel_rfl
theorem rs14 (n : Nat) (t : Tri AV) (k : List AI) (H : AH) : ZB Q (PF 14 n t k) H = Zv (Zj Q t H [.cell 4 31]) := by kernel_rfl
theorem cu14 (l : List AV) (H : AH) : Z3 Q (.func 14 [] []) l H = some (.enter 14 ([] ++ l ++ []), H) := by kernel_rfl
noncomputable def c40 : Code := (Tryz.f40.body).getD .skip
theorem en40 (a0 a1 : AV) : ZI Q 40 [a0, a1] .normal = some (PF 40 24 (Zm 0 [a0, a1] .leaf) [.code c40]) := by kernel_rfl
theorem rs40 (n : Nat) (t : Tri AV) (k : List AI) (H : AH) : ZB Q (PF 40 n t k) H = Zv (Zj Q t H [.tmp 4]) := by kernel_rfl
theorem cu40 (l : List AV) (H : AH) : Z3 Q (.func 40 [] []) l H = some (.enter 40 ([] ++ l ++ []), H) := by kernel_rfl
noncomputable def c41 : Code := (Tryz.f41.body).getD .skip
theorem en41 (a0 : AV) : ZI Q 41 [a0] .normal = some (PF 41 87 (Zm 0 [a0] .leaf) [.code c41]) := by kernel_rfl
theorem rs41 (n : Nat) (t : Tri AV) (k : List AI) (H : AH) : ZB Q (PF 41 n t k) H = Zv (Zj Q t H [.tmp 2, .tmp 3]) := by kernel_rfl
noncomputable def c42 : Code := (Tryz.f42.body).getD .skip
theorem en42 (a0 a1 : AV) : ZI Q 42 [a0, a1] .normal = some (PF 42 47 (Zm 0 [a0, a1] .leaf) [.code c42]) := by kernel_rfl
theorem rs42 (n : Nat) (t : Tri AV) (k : List AI) (H : AH) : ZB Q (PF 42 n t k) H = Zv (Zj Q t H [.tmp 4]) := by kernel_rfl
theorem cu42 (l : List AV) (H : AH) : Z3 Q (.func 42 [] []) l H = some (.enter 42 ([] ++ l ++ []), H) := by kernel_rfl
noncomputable def c43 : Code := (Tryz.f43.body).getD .skip
theorem en43 (a0 a1 : AV) : ZI Q 43 [a0, a1] .normal = some (PF 43 65 (Zm 0 [a0, a1] .leaf) [.code c43]) := by kernel_rfl
theorem rs43 (n : Nat) (t : Tri AV) (k : List AI) (H : AH) : ZB Q (PF 43 n t k) H = Zv (Zj Q t H [.tmp 4]) := by kernel_rfl
theorem cu43 (l : List AV) (H : AH) : Z3 Q (.func 43 [] []) l H = some (.enter 43 ([] ++ l ++ []), H) := by kernel_rfl
noncomputable def c44 : Code := (Tryz.f44.body).getD .skip
theorem en44 (a0 a1 : AV) : ZI Q 44 [a0, a1] .normal = some (PF 44 31 (Zm 0 [a0, a1] .leaf) [.code c44]) := by kernel_rfl
theorem rs44 (n : Nat) (t : Tri AV) (k : List AI) (H : AH) : ZB Q (PF 44 n t k) H = Zv (Zj Q t H [.tmp 4]) := by kernel_rfl
theorem cu44 (l : List AV) (H : AH) : Z3 Q (.func 44 [] []) l H = some (.enter 44 ([] ++ l ++ []), H) := by kernel_rfl
noncomputable def c80 : Code := (Tryz.f80.body).getD .skip
theorem en80 (a0 a1 : AV) : ZI Q 80 [a0, a1] .normal = some (PF 80 40 (Zm 0 [a0, a1] .leaf) [.code c80]) := by kernel_rfl
theorem rs80 (n : Nat) (t : Tri AV) (k : List AI) (H : AH) : ZB Q (PF 80 n t k) H = Zv (Zj Q t H [.tmp 4]) := by kernel_rfl
theorem cu80 (l : List AV) (H : AH) : Z3 Q (.func 80 [] []) l H = some (.enter 80 ([] ++ l ++ []), H) := by kernel_rfl
noncomputable def c81 : Code := (Tryz.f81.body).getD .skip
theorem en81 (a0 a1 : AV) : ZI Q 81 [a0, a1] .normal = some (PF 81 17 (Zm 0 [a0, a1] .leaf) [.code c81]) := by kernel_rfl
theorem rs81 (n : Nat) (t : Tri AV) (k : List AI) (H : AH) : ZB Q (PF 81 n t k) H = Zv (Zj Q t H [.tmp 4]) := by kernel_rfl
theorem cu81 (l : List AV) (H : AH) : Z3 Q (.func 81 [] []) l H = some (.enter 81 ([] ++ l ++ []), H) := by kernel_rfl
noncomputable def c82 : Code := (Tryz.f82.body).getD .skip
theorem en82 (a0 : AV) : ZI Q 82 [a0] .normal = some (PF 82 21 (Zm 0 [a0] .leaf) [.code c82]) := by kernel_rfl
theorem rs82 (n : Nat) (t : Tri AV) (k : List AI) (H : AH) : ZB Q (PF 82 n t k) H = Zv (Zj Q t H [.tmp 2]) := by kernel_rfl
theorem cu82 (l : List AV) (H : AH) : Z3 Q (.func 82 [] []) l H = some (.enter 82 ([] ++ l ++ []), H) := by kernel_rfl
noncomputable def c83 : Code := (Tryz.f83.body).getD .skip
theorem en83 (a0 a1 : AV) : ZI Q 83 [a0, a1] .normal = some (PF 83 49 (Zm 0 [a0, a1] .leaf) [.code c83]) := by kernel_rfl
theorem rs83 (n : Nat) (t : Tri AV) (k : List AI) (H : AH) : ZB Q (PF 83 n t k) H = Zv (Zj Q t H [.tmp 4]) := by kernel_rfl
theorem cu83 (l : List AV) (H : AH) : Z3 Q (.func 83 [] []) l H = some (.enter 83 ([] ++ l ++ []), H) := by kernel_rfl
noncomputable def c84 : Code := (Tryz.f84.body).getD .skip
theorem en84 (a0 a1 : AV) : ZI Q 84 [a0, a1] .normal = some (PF 84 48 (Zm 0 [a0, a1] .leaf) [.code c84]) := by kernel_rfl
theorem rs84 (n : Nat) (t : Tri AV) (k : List AI) (H : AH) : ZB Q (PF 84 n t k) H = Zv (Zj Q t H [.tmp 4]) := by kernel_rfl
theorem cu84 (l : List AV) (H : AH) : Z3 Q (.func 84 [] []) l H = some (.enter 84 ([] ++ l ++ []), H) := by kernel_rfl
noncomputable def c85 : Code := (Tryz.f85.body).getD .skip
theorem en85 (a0 a1 : AV) : ZI Q 85 [a0, a1] .normal = some (PF 85 38 (Zm 0 [a0, a1] .leaf) [.code c85]) := by kernel_rfl
theorem rs85 (n : Nat) (t : Tri AV) (k : List AI) (H : AH) : ZB Q (PF 85 n t k) H = Zv (Zj Q t H [.tmp 4]) := by kernel_rfl
theorem cu85 (l : List AV) (H : AH) : Z3 Q (.func 85 [] []) l H = some (.enter 85 ([] ++ l ++ []), H) := by kernel_rfl
noncomputable def c124 : Code := (Tryz.f124.body).getD .skip
theorem en124 (a0 a1 : AV) : ZI Q 124 [a0, a1] .normal = some (PF 124 21 (Zm 0 [a0, a1] .leaf) [.code c124]) := by kernel_rfl
theorem rs124 (n : Nat) (t : Tri AV) (k : List AI) (H : AH) : ZB Q (PF 124 n t k) H = Zv (Zj Q t H [.tmp 4, .tmp 5, .tmp 6]) := by kernel_rfl
theorem cu124 (l : List AV) (H : AH) : Z3 Q (.func 124 [] []) l H = some (.enter 124 ([] ++ l ++ []), H) := by kernel_rfl
noncomputable def c125 : Code := (Tryz.f125.body).getD .skip
theorem en125 (a0 a1 : AV) : ZI Q 125 [a0, a1] .normal = some (PF 125 19 (Zm 0 [a0, a1] .leaf) [.code c125]) := by kernel_rfl
theorem rs125 (n : Nat) (t : Tri AV) (k : List AI) (H : AH) : ZB Q (PF 125 n t k) H = Zv (Zj Q t H [.tmp 3]) := by kernel_rfl
noncomputable def c126 : Code := (Tryz.f126.body).getD .skip
theorem en126 (a0 : AV) : ZI Q 126 [a0] .normal = some (PF 126 17 (Zm 0 [a0] .leaf) [.code c126]) := by kernel_rfl
theorem rs126 (n : Nat) (t : Tri AV) (k : List AI) (H : AH) : ZB Q (PF 126 n t k) H = Zv (Zj Q t H [.tmp 2]) := by kernel_rfl
noncomputable def c127 : Code := (Tryz.f127.body).getD .skip
theorem en127 (a0 a1 : AV) : ZI Q 127 [a0, a1] .normal = some (PF 127 38 (Zm 0 [a0, a1] .leaf) [.code c127]) := by kernel_rfl
theorem rs127 (n : Nat) (t : Tri AV) (k : List AI) (H : AH) : ZB Q (PF 127 n t k) H = Zv (Zj Q t H [.tmp 4]) := by kernel_rfl
theorem cu127 (l : List AV) (H : AH) : Z3 Q (.func 127 [] []) l H = some (.enter 127 ([] ++ l ++ []), H) := by kernel_rfl
noncomputable def c128 : Code := (Tryz.f128.body).getD .skip
theorem en128 (a0 a1 : AV) : ZI Q 128 [a0, a1] .normal = some (PF 128 44 (Zm 0 [a0, a1] .leaf) [.code c128]) := by kernel_rfl
theorem rs128 (n : Nat) (t : Tri AV) (k : List AI) (H : AH) : ZB Q (PF 128 n t k) H = Zv (Zj Q t H [.tmp 4]) := by kernel_rfl
theorem cu128 (l : List AV) (H : AH) : Z3 Q (.func 128 [] []) l H = some (.enter 128 ([] ++ l ++ []), H) := by kernel_rfl
noncomputable def c129 : Code := (Tryz.f129.body).getD .skip
theorem en129 (a0 a1 : AV) : ZI Q 129 [a0, a1] .normal = some (PF 129 28 (Zm 0 [a0, a1] .leaf) [.code c129]) := by kernel_rfl
theorem rs129 (n : Nat) (t : Tri AV) (k : List AI) (H : AH) : ZB Q (PF 129 n t k) H = Zv (Zj Q t H [.tmp 4, .tmp 5, .tmp 6]) := by kernel_rfl
theorem cu129 (l : List AV) (H : AH) : Z3 Q (.func 129 [] []) l H = some (.enter 129 ([] ++ l ++ []), H) := by kernel_rfl
noncomputable def c130 : Code := (Tryz.f130.body).getD .skip
theorem en130 (a0 : AV) : ZI Q 130 [a0] .normal = some (PF 130 18 (Zm 0 [a0] .leaf) [.code c130]) := by kernel_rfl
theorem rs130 (n : Nat) (t : Tri AV) (k : List AI) (H : AH) : ZB Q (PF 130 n t k) H = Zv (Zj Q t H [.tmp 2]) := by kernel_rfl
theorem cu130 (l : List AV) (H : AH) : Z3 Q (.func 130 [] []) l H = some (.enter 130 ([] ++ l ++ []), H) := by kernel_rfl
noncomputable def c131 : Code := (Tryz.f131.body).getD .skip
theorem en131 (a0 : AV) : ZI Q 131 [a0] .normal = some (PF 131 16 (Zm 0 [a0] .leaf) [.code c131]) := by kernel_rfl
theorem rs131 (n : Nat) (t : Tri AV) (k : List AI) (H : AH) : ZB Q (PF 131 n t k) H = Zv (Zj Q t H [.tmp 2]) := by kernel_rfl
theorem cu131 (l : List AV) (H : AH) : Z3 Q (.func 131 [] []) l H = some (.enter 131 ([] ++ l ++ []), H) := by kernel_rfl
noncomputable def c163 : Code := (Tryz.f163.body).getD .skip
theorem en163 (a0 a1 : AV) : ZI Q 163 [a0, a1] .normal = some (PF 163 19 (Zm 0 [a0, a1] .leaf) [.code c163]) := by kernel_rfl
theorem rs163 (n : Nat) (t : Tri AV) (k : List AI) (H : AH) : ZB Q (PF 163 n t k) H = Zv (Zj Q t H [.tmp 4]) := by kernel_rfl
theorem cu163 (l : List AV) (H : AH) : Z3 Q (.func 163 [] []) l H = some (.enter 163 ([] ++ l ++ []), H) := by kernel_rfl
noncomputable def c164 : Code := (Tryz.f164.body).getD .skip
theorem en164 (a0 a1 : AV) : ZI Q 164 [a0, a1] .normal = some (PF 164 21 (Zm 0 [a0, a1] .leaf) [.code c164]) := by kernel_rfl
theorem rs164 (n : Nat) (t : Tri AV) (k : List AI) (H : AH) : ZB Q (PF 164 n t k) H = Zv (Zj Q t H [.tmp 3]) := by kernel_rfl
noncomputable def c165 : Code := (Tryz.f165.body).getD .skip
theorem en165 (a0 : AV) : ZI Q 165 [a0] .normal = some (PF 165 12 (Zm 0 [a0] .leaf) [.code c165]) := by kernel_rfl
theorem rs165 (n : Nat) (t : Tri AV) (k : List AI) (H : AH) : ZB Q (PF 165 n t k) H = Zv (Zj Q t H [.tmp 2]) := by kernel_rfl
theorem Yd (l : List AV) (H : AH) : Z3 Q (.func 165 [] []) l H = some (.enter 165 ([] ++ l ++ []), H) := by kernel_rfl
noncomputable def c166 : Code := (Tryz.f166.body).getD .skip
theorem en166 (a0 a1 : AV) : ZI Q 166 [a0, a1] .normal = some (PF 166 25 (Zm 0 [a0, a1] .leaf) [.code c166]) := by kernel_rfl
theorem rs166 (n : Nat) (t : Tri AV) (k : List AI) (H : AH) : ZB Q (PF 166 n t k) H = Zv (Zj Q t H [.tmp 4]) := by kernel_rfl
theorem Z9 (l : List AV) (H : AH) : Z3 Q (.func 166 [] []) l H = some (.enter 166 ([] ++ l ++ []), H) := by kernel_rfl
noncomputable def c167 : Code := (Tryz.f167.body).getD .skip
theorem en167 (a0 : AV) : ZI Q 167 [a0] .normal = some (PF 167 28 (Zm 0 [a0] .leaf) [.code c167]) := by kernel_rfl
theorem rs167 (n : Nat) (t : Tri AV) (k : List AI) (H : AH) : ZB Q (PF 167 n t k) H = Zv (Zj Q t H [.tmp 2]) := by kernel_rfl
theorem Yc (l : List AV) (H : AH) : Z3 Q (.func 167 [] []) l H = some (.enter 167 ([] ++ l ++ []), H) := by kernel_rfl
noncomputable def c168 : Code := (Tryz.f168.body).getD .skip
theorem en168 (a0 a1 : AV) : ZI Q 168 [a0, a1] .normal = some (PF 168 26 (Zm 0 [a0, a1] .leaf) [.code c168]) := by kernel_rfl
theorem rs168 (n : Nat) (t : Tri AV) (k : List AI) (H : AH) : ZB Q (PF 168 n t k) H = Zv (Zj Q t H [.tmp 4]) := by kernel_rfl
theorem cu168 (l : List AV) (H : AH) : Z3 Q (.func 168 [] []) l H = some (.enter 168 ([] ++ l ++ []), H) := by kernel_rfl
noncomputable def c231 : Code := (Tryz.f231.body).getD .skip
theorem en231 (a0 a1 : AV) : ZI Q 231 [a0, a1] .normal = some (PF 231 31 (Zm 0 [a0, a1] .leaf) [.code c231]) := by kernel_rfl
theorem rs231 (n : Nat) (t : Tri AV) (k : List AI) (H : AH) : ZB Q (PF 231 n t k) H = Zv (Zj Q t H [.tmp 4, .tmp 5]) := by kernel_rfl
theorem cu231 (l : List AV) (H : AH) : Z3 Q (.func 231 [] []) l H = some (.enter 231 ([] ++ l ++ []), H) := by kernel_rfl
end Go.Ev.C
end
section
set_option linter.unusedVariables false
set_option linter.unusedSimpArgs false
set_option linter.defProp false
set_option linter.all false
namespace Go.Ev.C
open Go.Proofs Go.Fmt Go.RowKit
set_option maxRecDepth 100000
set_option linter.unusedSimpArgs false
variable {L : World → Prop} [YQ Q L]
theorem one_c (H : AH) (c : Nat) (s : List Nat) (hs : s.length ≤ 1000000000) : Fn Q L 81 [.int .u8 (c : Int), .str s] H (fun w H' => w = .bool (s.contains c) ∧ H' = H) := by
  refine Fn.intro (en81 _ _) ?_
  unfold c81 Tryz.f81
  simp only [Option.getD_some]
  repeat (first | (apply Zh; exact rfl) | apply Zb | apply WO.nil | (apply Zk; exact rfl; simp only [rE, rS, li, lo, reduceIte, Nat.reduceEqDiff, Nat.reduceAdd, Nat.reduceMul]; exact rfl; exact rfl))
  refine YL (fun m t H' => ∃ i : Nat,H' = H ∧ i + m = s.length ∧ (∀ j (h : j < s.length),j < i → s[j] ≠ c) ∧ t.get 0 = some (.int .u8 (c : Int)) ∧ t.get 1 = some (.str s) ∧ t.get 5 = some (.int .i64 (i : Int))) s.length ?_ ?_
  · refine ⟨0, rfl, by omega, fun j h hj => by omega, ?_, ?_, ?_⟩ <;> simp [Zd, Zm]
  rintro m t H' ⟨i, rfl, him, hok, ht0, ht1, ht5⟩ ih
  by_cases hi : i < s.length
  · have hlt : decide ((i : Int) < (s.length : Int)) = true := decide_eq_true (by omega)
    have wi : IntKind.i64.wrap ((i : Int) + 1) = ((i + 1 : Nat) : Int) := by rw [Go.Ev.w64 (by omega) (by omega)]; omega
    have hx1 := XA hi
    repeat (first|(apply Zh;exact rfl)|apply Zb|apply WO.nil|(apply WO.op;(focus (simp only [rQ,Zc,li,lo,reduceIte,Nat.reduceEqDiff,Nat.reduceAdd,beq_self_eq_true,hlt];done));simp only [rE,rS,li,lo,reduceIte,Nat.reduceEqDiff,Nat.reduceAdd,Nat.reduceMul,Zi,ht0,ht1,ht5,hlt];exact rfl;exact rfl)|(apply WO.unwanted;(focus (simp only [rQ,Zc,li,lo,reduceIte,Nat.reduceEqDiff,Nat.reduceAdd,beq_self_eq_true,hlt];done));exact rfl))
    (first|(apply WF.condT;(focus (simp only [Zg,Zf,Zd,Zm,Bool.not_true,Bool.not_false,reduceIte,Nat.reduceEqDiff,hlt];done)))|(apply WF.condF;(focus (simp only [Zg,Zf,Zd,Zm,Bool.not_true,Bool.not_false,reduceIte,Nat.reduceEqDiff,hlt];done))))
    repeat (first|(apply Zh;exact rfl)|apply Zb|apply WO.nil|(apply WO.op;(focus (simp only [rQ,Zc,li,lo,reduceIte,Nat.reduceEqDiff,Nat.reduceAdd,beq_self_eq_true,hlt];done));simp only [rE,rS,li,lo,reduceIte,Nat.reduceEqDiff,Nat.reduceAdd,Nat.reduceMul,Zi,ht0,ht1,ht5,hlt,hx1];exact rfl;exact rfl)|(apply WO.unwanted;(focus (simp only [rQ,Zc,li,lo,reduceIte,Nat.reduceEqDiff,Nat.reduceAdd,beq_self_eq_true,hlt];done));exact rfl))
    cases q1 : decide (((s[i] : Nat) : Int) = (c : Int))
    · (first|(apply WF.condT;(focus (simp only [Zg,Zf,Zd,Zm,Bool.not_true,Bool.not_false,reduceIte,Nat.reduceEqDiff,q1];done)))|(apply WF.condF;(focus (simp only [Zg,Zf,Zd,Zm,Bool.not_true,Bool.not_false,reduceIte,Nat.reduceEqDiff,q1];done))))
      repeat (first|(apply Zh;exact rfl)|apply Zb|apply WO.nil|(apply Zk;exact rfl;simp only [rE,rS,li,lo,reduceIte,Nat.reduceEqDiff,Nat.reduceAdd,Nat.reduceMul,Zi,ht0,ht1,ht5,wi];exact rfl;exact rfl))
      refine Z4 ?_
      refine ih (m - 1) _ _ (by omega) ⟨i + 1, rfl, by omega, fun j h hj => ?_, ?_, ?_, ?_⟩
      · by_cases e : j = i
        · subst e
          have := of_decide_eq_false q1
          omega
        · exact hok j h (by omega)
      · simp [Zd, ht0]
      · simp [Zd, ht1]
      · simp [Zd]
    · (first|(apply WF.condT;(focus (simp only [Zg,Zf,Zd,Zm,Bool.not_true,Bool.not_false,reduceIte,Nat.reduceEqDiff,q1];done)))|(apply WF.condF;(focus (simp only [Zg,Zf,Zd,Zm,Bool.not_true,Bool.not_false,reduceIte,Nat.reduceEqDiff,q1];done))))
      repeat (first|(apply Zh;exact rfl)|apply Zb|apply WO.nil|(apply Zk;exact rfl;simp only [rE,rS,li,lo,reduceIte,Nat.reduceEqDiff,Nat.reduceAdd,Nat.reduceMul,Zi,ht0,ht1,ht5];exact rfl;exact rfl))
      (apply WF.ret; (focus (simp only [Zj, Zd, Zm, Zv, reduceIte, Nat.reduceEqDiff, rs81]; exact rfl)))
      have := of_decide_eq_true q1
      have h1 : s.contains c = true := List.contains_iff_mem.2 (by
        have e : c = s[i] := by omega
        rw [e]
        exact List.getElem_mem hi)
      rw [h1]
      exact ⟨rfl, rfl⟩
  · have hlt : decide ((i : Int) < (s.length : Int)) = false := decide_eq_false (by omega)
    repeat (first|(apply Zh;exact rfl)|apply Zb|apply WO.nil|(apply WO.op;(focus (simp only [rQ,Zc,li,lo,reduceIte,Nat.reduceEqDiff,Nat.reduceAdd,beq_self_eq_true,hlt];done));simp only [rE,rS,li,lo,reduceIte,Nat.reduceEqDiff,Nat.reduceAdd,Nat.reduceMul,Zi,ht0,ht1,ht5,hlt];exact rfl;exact rfl)|(apply WO.unwanted;(focus (simp only [rQ,Zc,li,lo,reduceIte,Nat.reduceEqDiff,Nat.reduceAdd,beq_self_eq_true,hlt];done));exact rfl))
    (first|(apply WF.condT;(focus (simp only [Zg,Zf,Zd,Zm,Bool.not_true,Bool.not_false,reduceIte,Nat.reduceEqDiff,hlt];done)))|(apply WF.condF;(focus (simp only [Zg,Zf,Zd,Zm,Bool.not_true,Bool.not_false,reduceIte,Nat.reduceEqDiff,hlt];done))))
    repeat (first|(apply Zh;exact rfl)|apply Zb|apply WO.nil|(apply WO.op;(focus (simp only [rQ,Zc,li,lo,reduceIte,Nat.reduceEqDiff,Nat.reduceAdd,beq_self_eq_true,hlt];done));simp only [rE,rS,li,lo,reduceIte,Nat.reduceEqDiff,Nat.reduceAdd,Nat.reduceMul,Zi,ht0,ht1,ht5,hlt];exact rfl;exact rfl)|(apply WO.unwanted;(focus (simp only [rQ,Zc,li,lo,reduceIte,Nat.reduceEqDiff,Nat.reduceAdd,beq_self_eq_true,hlt];done));exact rfl))
    (apply WF.ret; (focus (simp only [Zj, Zd, Zm, Zv, reduceIte, Nat.reduceEqDiff, rs81]; exact rfl)))
    have h1 : s.contains c = false := by
      rw [← Bool.not_eq_true]
      intro h
      obtain ⟨j, hj, e⟩ := List.mem_iff_getElem.1 (List.contains_iff_mem.1 h)
      exact hok j hj (by omega) e
    rw [h1]
    exact ⟨rfl, rfl⟩
theorem clean_c (H : AH) (s : List Nat) (hs : s.length ≤ 1000000000) : Fn Q L 126 [.str s] H (fun w H' => w = .bool (decide ((s.length : Int) ≤ 64) && !s.contains 0) ∧ H' = H) := by
  refine Fn.intro (en126 _) ?_
  unfold c126 Tryz.f126
  simp only [Option.getD_some]
  repeat (first | (apply Zh; exact rfl) | apply Zb | apply WO.nil | (apply Zk; exact rfl; simp only [rE, rS, li, lo, reduceIte, Nat.reduceEqDiff, Nat.reduceAdd, Nat.reduceMul]; exact rfl; exact rfl))
  refine YL (fun m t H' => ∃ i : Nat, H' = H ∧ i + m = s.length ∧ (∀ j (h : j < s.length), j < i → s[j] ≠ 0) ∧ t.get 0 = some (.str s) ∧ t.get 3 = some (.int .i64 (i : Int))) s.length ?_ ?_
  · refine ⟨0, rfl, by omega, fun j h hj => by omega, ?_, ?_⟩ <;> simp [Zd, Zm]
  rintro m t H' ⟨i, rfl, him, hok, ht0, ht3⟩ ih
  by_cases hi : i < s.length
  · have hlt : decide ((i : Int) < (s.length : Int)) = true := decide_eq_true (by omega)
    have wi : IntKind.i64.wrap ((i : Int) + 1) = ((i + 1 : Nat) : Int) := by rw [Go.Ev.w64 (by omega) (by omega)]; omega
    have hx1 := XA hi
    repeat (first|(apply Zh;exact rfl)|apply Zb|apply WO.nil|(apply WO.op;(focus (simp only [rQ,Zc,li,lo,reduceIte,Nat.reduceEqDiff,Nat.reduceAdd,beq_self_eq_true,hlt];done));simp only [rE,rS,li,lo,reduceIte,Nat.reduceEqDiff,Nat.reduceAdd,Nat.reduceMul,Zi,ht0,ht3,hlt];exact rfl;exact rfl)|(apply WO.unwanted;(focus (simp only [rQ,Zc,li,lo,reduceIte,Nat.reduceEqDiff,Nat.reduceAdd,beq_self_eq_true,hlt];done));exact rfl))
    (first|(apply WF.condT;(focus (simp only [Zg,Zf,Zd,Zm,Bool.not_true,Bool.not_false,reduceIte,Nat.reduceEqDiff,hlt];done)))|(apply WF.condF;(focus (simp only [Zg,Zf,Zd,Zm,Bool.not_true,Bool.not_false,reduceIte,Nat.reduceEqDiff,hlt];done))))
    repeat (first|(apply Zh;exact rfl)|apply Zb|apply WO.nil|(apply WO.op;(focus (simp only [rQ,Zc,li,lo,reduceIte,Nat.reduceEqDiff,Nat.reduceAdd,beq_self_eq_true,hlt];done));simp only [rE,rS,li,lo,reduceIte,Nat.reduceEqDiff,Nat.reduceAdd,Nat.reduceMul,Zi,ht0,ht3,hlt,hx1];exact rfl;exact rfl)|(apply WO.unwanted;(focus (simp only [rQ,Zc,li,lo,reduceIte,Nat.reduceEqDiff,Nat.reduceAdd,beq_self_eq_true,hlt];done));exact rfl))
    cases q1 : decide (((s[i] : Nat) : Int) = 0)
    · (first|(apply WF.condT;(focus (simp only [Zg,Zf,Zd,Zm,Bool.not_true,Bool.not_false,reduceIte,Nat.reduceEqDiff,q1];done)))|(apply WF.condF;(focus (simp only [Zg,Zf,Zd,Zm,Bool.not_true,Bool.not_false,reduceIte,Nat.reduceEqDiff,q1];done))))
      repeat (first|(apply Zh;exact rfl)|apply Zb|apply WO.nil|(apply Zk;exact rfl;simp only [rE,rS,li,lo,reduceIte,Nat.reduceEqDiff,Nat.reduceAdd,Nat.reduceMul,Zi,ht0,ht3,wi];exact rfl;exact rfl))
      refine Z4 ?_
      refine ih (m - 1) _ _ (by omega) ⟨i + 1, rfl, by omega, fun j h hj => ?_, ?_, ?_⟩
      · by_cases e : j = i
        · subst e
          have := of_decide_eq_false q1
          omega
        · exact hok j h (by omega)
      · simp [Zd, ht0]
      · simp [Zd]
    · (first|(apply WF.condT;(focus (simp only [Zg,Zf,Zd,Zm,Bool.not_true,Bool.not_false,reduceIte,Nat.reduceEqDiff,q1];done)))|(apply WF.condF;(focus (simp only [Zg,Zf,Zd,Zm,Bool.not_true,Bool.not_false,reduceIte,Nat.reduceEqDiff,q1];done))))
      repeat (first|(apply Zh;exact rfl)|apply Zb|apply WO.nil|(apply Zk;exact rfl;simp only [rE,rS,li,lo,reduceIte,Nat.reduceEqDiff,Nat.reduceAdd,Nat.reduceMul,Zi,ht0,ht3];exact rfl;exact rfl))
      (apply WF.ret; (focus (simp only [Zj, Zd, Zm, Zv, reduceIte, Nat.reduceEqDiff, rs126]; exact rfl)))
      have := of_decide_eq_true q1
      have h1 : s.contains 0 = true := List.contains_iff_mem.2 (by
        have e : 0 = s[i] := by omega
        rw [e]
        exact List.getElem_mem hi)
      rw [h1]
      exact ⟨by simp, rfl⟩
  · have hlt : decide ((i : Int) < (s.length : Int)) = false := decide_eq_false (by omega)
    repeat (first|(apply Zh;exact rfl)|apply Zb|apply WO.nil|(apply WO.op;(focus (simp only [rQ,Zc,li,lo,reduceIte,Nat.reduceEqDiff,Nat.reduceAdd,beq_self_eq_true,hlt];done));simp only [rE,rS,li,lo,reduceIte,Nat.reduceEqDiff,Nat.reduceAdd,Nat.reduceMul,Zi,ht0,ht3,hlt];exact rfl;exact rfl)|(apply WO.unwanted;(focus (simp only [rQ,Zc,li,lo,reduceIte,Nat.reduceEqDiff,Nat.reduceAdd,beq_self_eq_true,hlt];done));exact rfl))
    (first|(apply WF.condT;(focus (simp only [Zg,Zf,Zd,Zm,Bool.not_true,Bool.not_false,reduceIte,Nat.reduceEqDiff,hlt];done)))|(apply WF.condF;(focus (simp only [Zg,Zf,Zd,Zm,Bool.not_true,Bool.not_false,reduceIte,Nat.reduceEqDiff,hlt];done))))
    repeat (first|(apply Zh;exact rfl)|apply Zb|apply WO.nil|(apply WO.op;(focus (simp only [rQ,Zc,li,lo,reduceIte,Nat.reduceEqDiff,Nat.reduceAdd,beq_self_eq_true,hlt];done));simp only [rE,rS,li,lo,reduceIte,Nat.reduceEqDiff,Nat.reduceAdd,Nat.reduceMul,Zi,ht0,ht3,hlt];exact rfl;exact rfl)|(apply WO.unwanted;(focus (simp only [rQ,Zc,li,lo,reduceIte,Nat.reduceEqDiff,Nat.reduceAdd,beq_self_eq_true,hlt];done));exact rfl))
    (apply WF.ret; (focus (simp only [Zj, Zd, Zm, Zv, reduceIte, Nat.reduceEqDiff, rs126]; exact rfl)))
    have h1 : s.contains 0 = false := by
      rw [← Bool.not_eq_true]
      intro h
      obtain ⟨j, hj, e⟩ := List.mem_iff_getElem.1 (List.contains_iff_mem.1 h)
      exact hok j hj (by omega) e
    rw [h1]
    exact ⟨by simp, rfl⟩
theorem chk_c (H : AH) (z : Int) (g : Bool) : Fn Q L 82 [.agg [.int .i64 z, .bool g]] H (fun w H' => w = .int .i64 (if (Ys z g).isSome then 0 else 10) ∧ H' = H) := by
  refine Y2 (en82 _) rfl ?_
  generalize lock H = H
  unfold c82 Tryz.f82
  simp only [Option.getD_some]
  cases q1 : decide (z = 1)
  · cases q2 : decide (z = 2)
    · cases q3 : decide (z = 4)
      · cases q4 : decide (z = 8)
        · repeat (first|(apply Zh;exact rfl)|apply Zb|apply WO.nil|(apply WO.op;(focus (simp only [rQ,Zc,li,lo,reduceIte,Nat.reduceEqDiff,Nat.reduceAdd,beq_self_eq_true,q1,q2,q3,q4];done));simp only [rE,rS,li,lo,reduceIte,Nat.reduceEqDiff,Nat.reduceAdd,Nat.reduceMul,ZW,Z8,Za ZM,Za Z0,Ze Zu ZJ,ZG,Zl,Zp,q1,q2,q3,q4];exact rfl;exact rfl)|(apply WO.unwanted;(focus (simp only [rQ,Zc,li,lo,reduceIte,Nat.reduceEqDiff,Nat.reduceAdd,beq_self_eq_true,q1,q2,q3,q4];done));exact rfl))
          (first|(apply WF.condT;(focus (simp only [Zg,Zf,Zd,Zm,Bool.not_true,Bool.not_false,reduceIte,Nat.reduceEqDiff];done)))|(apply WF.condF;(focus (simp only [Zg,Zf,Zd,Zm,Bool.not_true,Bool.not_false,reduceIte,Nat.reduceEqDiff];done))))
          repeat (first|(apply Zh;exact rfl)|apply Zb|apply WO.nil|(apply Zk;exact rfl;simp only [rE,rS,li,lo,reduceIte,Nat.reduceEqDiff,Nat.reduceAdd,Nat.reduceMul];exact rfl;exact rfl))
          (apply WF.ret; (focus (simp only [Zj, Zd, Zm, Zv, reduceIte, Nat.reduceEqDiff, rs82]; exact rfl)))
          simp [Ys, of_decide_eq_false q1, of_decide_eq_false q2, of_decide_eq_false q3, of_decide_eq_false q4]
        · repeat (first|(apply Zh;exact rfl)|apply Zb|apply WO.nil|(apply WO.op;(focus (simp only [rQ,Zc,li,lo,reduceIte,Nat.reduceEqDiff,Nat.reduceAdd,beq_self_eq_true,q1,q2,q3,q4];done));simp only [rE,rS,li,lo,reduceIte,Nat.reduceEqDiff,Nat.reduceAdd,Nat.reduceMul,ZW,Z8,Za ZM,Za Z0,Ze Zu ZJ,ZG,Zl,Zp,q1,q2,q3,q4];exact rfl;exact rfl)|(apply WO.unwanted;(focus (simp only [rQ,Zc,li,lo,reduceIte,Nat.reduceEqDiff,Nat.reduceAdd,beq_self_eq_true,q1,q2,q3,q4];done));exact rfl))
          (first|(apply WF.condT;(focus (simp only [Zg,Zf,Zd,Zm,Bool.not_true,Bool.not_false,reduceIte,Nat.reduceEqDiff];done)))|(apply WF.condF;(focus (simp only [Zg,Zf,Zd,Zm,Bool.not_true,Bool.not_false,reduceIte,Nat.reduceEqDiff];done))))
          repeat (first|(apply Zh;exact rfl)|apply Zb|apply WO.nil|(apply Zk;exact rfl;simp only [rE,rS,li,lo,reduceIte,Nat.reduceEqDiff,Nat.reduceAdd,Nat.reduceMul];exact rfl;exact rfl))
          (apply WF.ret; (focus (simp only [Zj, Zd, Zm, Zv, reduceIte, Nat.reduceEqDiff, rs82]; exact rfl)))
          obtain rfl := of_decide_eq_true q4
          rfl
      · repeat (first|(apply Zh;exact rfl)|apply Zb|apply WO.nil|(apply WO.op;(focus (simp only [rQ,Zc,li,lo,reduceIte,Nat.reduceEqDiff,Nat.reduceAdd,beq_self_eq_true,q1,q2,q3];done));simp only [rE,rS,li,lo,reduceIte,Nat.reduceEqDiff,Nat.reduceAdd,Nat.reduceMul,ZW,Z8,Za ZM,Za Z0,Ze Zu ZJ,ZG,Zl,Zp,q1,q2,q3];exact rfl;exact rfl)|(apply WO.unwanted;(focus (simp only [rQ,Zc,li,lo,reduceIte,Nat.reduceEqDiff,Nat.reduceAdd,beq_self_eq_true,q1,q2,q3];done));exact rfl))
        (first|(apply WF.condT;(focus (simp only [Zg,Zf,Zd,Zm,Bool.not_true,Bool.not_false,reduceIte,Nat.reduceEqDiff];done)))|(apply WF.condF;(focus (simp only [Zg,Zf,Zd,Zm,Bool.not_true,Bool.not_false,reduceIte,Nat.reduceEqDiff];done))))
        repeat (first|(apply Zh;exact rfl)|apply Zb|apply WO.nil|(apply Zk;exact rfl;simp only [rE,rS,li,lo,reduceIte,Nat.reduceEqDiff,Nat.reduceAdd,Nat.reduceMul];exact rfl;exact rfl))
        (apply WF.ret; (focus (simp only [Zj, Zd, Zm, Zv, reduceIte, Nat.reduceEqDiff, rs82]; exact rfl)))
        obtain rfl := of_decide_eq_true q3
        rfl
    · repeat (first|(apply Zh;exact rfl)|apply Zb|apply WO.nil|(apply WO.op;(focus (simp only [rQ,Zc,li,lo,reduceIte,Nat.reduceEqDiff,Nat.reduceAdd,beq_self_eq_true,q1,q2];done));simp only [rE,rS,li,lo,reduceIte,Nat.reduceEqDiff,Nat.reduceAdd,Nat.reduceMul,ZW,Z8,Za ZM,Za Z0,Ze Zu ZJ,ZG,Zl,Zp,q1,q2];exact rfl;exact rfl)|(apply WO.unwanted;(focus (simp only [rQ,Zc,li,lo,reduceIte,Nat.reduceEqDiff,Nat.reduceAdd,beq_self_eq_true,q1,q2];done));exact rfl))
      (first|(apply WF.condT;(focus (simp only [Zg,Zf,Zd,Zm,Bool.not_true,Bool.not_false,reduceIte,Nat.reduceEqDiff];done)))|(apply WF.condF;(focus (simp only [Zg,Zf,Zd,Zm,Bool.not_true,Bool.not_false,reduceIte,Nat.reduceEqDiff];done))))
      repeat (first|(apply Zh;exact rfl)|apply Zb|apply WO.nil|(apply Zk;exact rfl;simp only [rE,rS,li,lo,reduceIte,Nat.reduceEqDiff,Nat.reduceAdd,Nat.reduceMul];exact rfl;exact rfl))
      (apply WF.ret; (focus (simp only [Zj, Zd, Zm, Zv, reduceIte, Nat.reduceEqDiff, rs82]; exact rfl)))
      obtain rfl := of_decide_eq_true q2
      rfl
  · repeat (first|(apply Zh;exact rfl)|apply Zb|apply WO.nil|(apply WO.op;(focus (simp only [rQ,Zc,li,lo,reduceIte,Nat.reduceEqDiff,Nat.reduceAdd,beq_self_eq_true,q1];done));simp only [rE,rS,li,lo,reduceIte,Nat.reduceEqDiff,Nat.reduceAdd,Nat.reduceMul,ZW,Z8,Za ZM,Za Z0,Ze Zu ZJ,ZG,Zl,Zp,q1];exact rfl;exact rfl)|(apply WO.unwanted;(focus (simp only [rQ,Zc,li,lo,reduceIte,Nat.reduceEqDiff,Nat.reduceAdd,beq_self_eq_true,q1];done));exact rfl))
    (first|(apply WF.condT;(focus (simp only [Zg,Zf,Zd,Zm,Bool.not_true,Bool.not_false,reduceIte,Nat.reduceEqDiff];done)))|(apply WF.condF;(focus (simp only [Zg,Zf,Zd,Zm,Bool.not_true,Bool.not_false,reduceIte,Nat.reduceEqDiff];done))))
    repeat (first|(apply Zh;exact rfl)|apply Zb|apply WO.nil|(apply Zk;exact rfl;simp only [rE,rS,li,lo,reduceIte,Nat.reduceEqDiff,Nat.reduceAdd,Nat.reduceMul];exact rfl;exact rfl))
    (apply WF.ret; (focus (simp only [Zj, Zd, Zm, Zv, reduceIte, Nat.reduceEqDiff, rs82]; exact rfl)))
    obtain rfl := of_decide_eq_true q1
    rfl
def wrd (z : Int) (g : Bool) (v : Int) : Int := if z = 8 then v else match Ys z g with
  | some k => wr k v
  | none => v
theorem wrapped_c (H : AH) (z : Int) (g : Bool) (v : Int) : Fn Q L 127 [.agg [.int .i64 z, .bool g], .int .i64 v] H (fun w H' => w = .int .i64 (wrd z g v) ∧ H' = H) := by
  refine Y2 (en127 _ _) rfl ?_
  generalize lock H = H
  unfold c127 Tryz.f127
  simp only [Option.getD_some]
  cases q1 : decide (z = 1)
  · cases q2 : decide (z = 2)
    · cases q3 : decide (z = 4)
      · repeat (first|(apply Zh;exact rfl)|apply Zb|apply WO.nil|(apply Zk;exact rfl;simp only [rE,rS,li,lo,reduceIte,Nat.reduceEqDiff,Nat.reduceAdd,Nat.reduceMul,ZW,Z8,Za ZM,Za Z0,Ze Zu ZJ,ZG,Zl,Zp];exact rfl;exact rfl))
        (first|(apply WF.condT;(focus (simp only [Zg,Zf,Zd,Zm,Bool.not_true,Bool.not_false,reduceIte,Nat.reduceEqDiff,q1];done)))|(apply WF.condF;(focus (simp only [Zg,Zf,Zd,Zm,Bool.not_true,Bool.not_false,reduceIte,Nat.reduceEqDiff,q1];done))))
        repeat (first|(apply Zh;exact rfl)|apply Zb|apply WO.nil|(apply Zk;exact rfl;simp only [rE,rS,li,lo,reduceIte,Nat.reduceEqDiff,Nat.reduceAdd,Nat.reduceMul,ZW,Z8,Za ZM,Za Z0,Ze Zu ZJ,ZG,Zl,Zp];exact rfl;exact rfl))
        (first|(apply WF.condT;(focus (simp only [Zg,Zf,Zd,Zm,Bool.not_true,Bool.not_false,reduceIte,Nat.reduceEqDiff,q2];done)))|(apply WF.condF;(focus (simp only [Zg,Zf,Zd,Zm,Bool.not_true,Bool.not_false,reduceIte,Nat.reduceEqDiff,q2];done))))
        repeat (first|(apply Zh;exact rfl)|apply Zb|apply WO.nil|(apply Zk;exact rfl;simp only [rE,rS,li,lo,reduceIte,Nat.reduceEqDiff,Nat.reduceAdd,Nat.reduceMul,ZW,Z8,Za ZM,Za Z0,Ze Zu ZJ,ZG,Zl,Zp];exact rfl;exact rfl))
        (first|(apply WF.condT;(focus (simp only [Zg,Zf,Zd,Zm,Bool.not_true,Bool.not_false,reduceIte,Nat.reduceEqDiff,q3];done)))|(apply WF.condF;(focus (simp only [Zg,Zf,Zd,Zm,Bool.not_true,Bool.not_false,reduceIte,Nat.reduceEqDiff,q3];done))))
        repeat (first|(apply Zh;exact rfl)|apply Zb|apply WO.nil|(apply Zk;exact rfl;simp only [rE,rS,li,lo,reduceIte,Nat.reduceEqDiff,Nat.reduceAdd,Nat.reduceMul,ZW,Z8,Za ZM,Za Z0,Ze Zu ZJ,ZG,Zl,Zp];exact rfl;exact rfl))
        (apply WF.ret; (focus (simp only [Zj, Zd, Zm, Zv, reduceIte, Nat.reduceEqDiff, rs127]; exact rfl)))
        simp [wrd, Ys, of_decide_eq_false q1, of_decide_eq_false q2, of_decide_eq_false q3]
        split <;> simp_all
      · obtain rfl := of_decide_eq_true q3
        repeat (first|(apply Zh;exact rfl)|apply Zb|apply WO.nil|(apply Zk;exact rfl;simp only [rE,rS,li,lo,reduceIte,Nat.reduceEqDiff,Nat.reduceAdd,Nat.reduceMul,ZW,Z8,Za ZM,Za Z0,Ze Zu ZJ,ZG,Zl,Zp];exact rfl;exact rfl))
        (first|(apply WF.condT;(focus (simp only [Zg,Zf,Zd,Zm,Bool.not_true,Bool.not_false,reduceIte,Nat.reduceEqDiff,q1];done)))|(apply WF.condF;(focus (simp only [Zg,Zf,Zd,Zm,Bool.not_true,Bool.not_false,reduceIte,Nat.reduceEqDiff,q1];done))))
        repeat (first|(apply Zh;exact rfl)|apply Zb|apply WO.nil|(apply Zk;exact rfl;simp only [rE,rS,li,lo,reduceIte,Nat.reduceEqDiff,Nat.reduceAdd,Nat.reduceMul,ZW,Z8,Za ZM,Za Z0,Ze Zu ZJ,ZG,Zl,Zp];exact rfl;exact rfl))
        (first|(apply WF.condT;(focus (simp only [Zg,Zf,Zd,Zm,Bool.not_true,Bool.not_false,reduceIte,Nat.reduceEqDiff,q2];done)))|(apply WF.condF;(focus (simp only [Zg,Zf,Zd,Zm,Bool.not_true,Bool.not_false,reduceIte,Nat.reduceEqDiff,q2];done))))
        repeat (first|(apply Zh;exact rfl)|apply Zb|apply WO.nil|(apply Zk;exact rfl;simp only [rE,rS,li,lo,reduceIte,Nat.reduceEqDiff,Nat.reduceAdd,Nat.reduceMul,ZW,Z8,Za ZM,Za Z0,Ze Zu ZJ,ZG,Zl,Zp];exact rfl;exact rfl))
        (first|(apply WF.condT;(focus (simp only [Zg,Zf,Zd,Zm,Bool.not_true,Bool.not_false,reduceIte,Nat.reduceEqDiff,q3];done)))|(apply WF.condF;(focus (simp only [Zg,Zf,Zd,Zm,Bool.not_true,Bool.not_false,reduceIte,Nat.reduceEqDiff,q3];done))))
        repeat (first|(apply Zh;exact rfl)|apply Zb|apply WO.nil|(apply Zk;exact rfl;simp only [rE,rS,li,lo,reduceIte,Nat.reduceEqDiff,Nat.reduceAdd,Nat.reduceMul,ZW,Z8,Za ZM,Za Z0,Ze Zu ZJ,ZG,Zl,Zp];exact rfl;exact rfl))
        cases g
        · (first|(apply WF.condT;(focus (simp only [Zg,Zf,Zd,Zm,Bool.not_true,Bool.not_false,reduceIte,Nat.reduceEqDiff];done)))|(apply WF.condF;(focus (simp only [Zg,Zf,Zd,Zm,Bool.not_true,Bool.not_false,reduceIte,Nat.reduceEqDiff];done))))
          repeat (first|(apply Zh;exact rfl)|apply Zb|apply WO.nil|(apply Zk;exact rfl;simp only [rE,rS,li,lo,reduceIte,Nat.reduceEqDiff,Nat.reduceAdd,Nat.reduceMul,ZW,Z8,Za ZM,Za Z0,Ze Zu ZJ,ZG,Zl,Zp,ZN,Yx,und298];exact rfl;exact rfl))
          (apply WF.ret; (focus (simp only [Zj, Zd, Zm, Zv, reduceIte, Nat.reduceEqDiff, rs127]; exact rfl)))
          rfl
        · (first|(apply WF.condT;(focus (simp only [Zg,Zf,Zd,Zm,Bool.not_true,Bool.not_false,reduceIte,Nat.reduceEqDiff];done)))|(apply WF.condF;(focus (simp only [Zg,Zf,Zd,Zm,Bool.not_true,Bool.not_false,reduceIte,Nat.reduceEqDiff];done))))
          repeat (first|(apply Zh;exact rfl)|apply Zb|apply WO.nil|(apply Zk;exact rfl;simp only [rE,rS,li,lo,reduceIte,Nat.reduceEqDiff,Nat.reduceAdd,Nat.reduceMul,ZW,Z8,Za ZM,Za Z0,Ze Zu ZJ,ZG,Zl,Zp,ZN,Yx,und21];exact rfl;exact rfl))
          (apply WF.ret; (focus (simp only [Zj, Zd, Zm, Zv, reduceIte, Nat.reduceEqDiff, rs127]; exact rfl)))
          rfl
    · obtain rfl := of_decide_eq_true q2
      repeat (first|(apply Zh;exact rfl)|apply Zb|apply WO.nil|(apply Zk;exact rfl;simp only [rE,rS,li,lo,reduceIte,Nat.reduceEqDiff,Nat.reduceAdd,Nat.reduceMul,ZW,Z8,Za ZM,Za Z0,Ze Zu ZJ,ZG,Zl,Zp];exact rfl;exact rfl))
      (first|(apply WF.condT;(focus (simp only [Zg,Zf,Zd,Zm,Bool.not_true,Bool.not_false,reduceIte,Nat.reduceEqDiff,q1];done)))|(apply WF.condF;(focus (simp only [Zg,Zf,Zd,Zm,Bool.not_true,Bool.not_false,reduceIte,Nat.reduceEqDiff,q1];done))))
      repeat (first|(apply Zh;exact rfl)|apply Zb|apply WO.nil|(apply Zk;exact rfl;simp only [rE,rS,li,lo,reduceIte,Nat.reduceEqDiff,Nat.reduceAdd,Nat.reduceMul,ZW,Z8,Za ZM,Za Z0,Ze Zu ZJ,ZG,Zl,Zp];exact rfl;exact rfl))
      (first|(apply WF.condT;(focus (simp only [Zg,Zf,Zd,Zm,Bool.not_true,Bool.not_false,reduceIte,Nat.reduceEqDiff,q2];done)))|(apply WF.condF;(focus (simp only [Zg,Zf,Zd,Zm,Bool.not_true,Bool.not_false,reduceIte,Nat.reduceEqDiff,q2];done))))
      repeat (first|(apply Zh;exact rfl)|apply Zb|apply WO.nil|(apply Zk;exact rfl;simp only [rE,rS,li,lo,reduceIte,Nat.reduceEqDiff,Nat.reduceAdd,Nat.reduceMul,ZW,Z8,Za ZM,Za Z0,Ze Zu ZJ,ZG,Zl,Zp];exact rfl;exact rfl))
      cases g
      · (first|(apply WF.condT;(focus (simp only [Zg,Zf,Zd,Zm,Bool.not_true,Bool.not_false,reduceIte,Nat.reduceEqDiff];done)))|(apply WF.condF;(focus (simp only [Zg,Zf,Zd,Zm,Bool.not_true,Bool.not_false,reduceIte,Nat.reduceEqDiff];done))))
        repeat (first|(apply Zh;exact rfl)|apply Zb|apply WO.nil|(apply Zk;exact rfl;simp only [rE,rS,li,lo,reduceIte,Nat.reduceEqDiff,Nat.reduceAdd,Nat.reduceMul,ZW,Z8,Za ZM,Za Z0,Ze Zu ZJ,ZG,Zl,Zp,ZN,Yx,und297];exact rfl;exact rfl))
        (apply WF.ret; (focus (simp only [Zj, Zd, Zm, Zv, reduceIte, Nat.reduceEqDiff, rs127]; exact rfl)))
        rfl
      · (first|(apply WF.condT;(focus (simp only [Zg,Zf,Zd,Zm,Bool.not_true,Bool.not_false,reduceIte,Nat.reduceEqDiff];done)))|(apply WF.condF;(focus (simp only [Zg,Zf,Zd,Zm,Bool.not_true,Bool.not_false,reduceIte,Nat.reduceEqDiff];done))))
        repeat (first|(apply Zh;exact rfl)|apply Zb|apply WO.nil|(apply Zk;exact rfl;simp only [rE,rS,li,lo,reduceIte,Nat.reduceEqDiff,Nat.reduceAdd,Nat.reduceMul,ZW,Z8,Za ZM,Za Z0,Ze Zu ZJ,ZG,Zl,Zp,ZN,Yx,und296];exact rfl;exact rfl))
        (apply WF.ret; (focus (simp only [Zj, Zd, Zm, Zv, reduceIte, Nat.reduceEqDiff, rs127]; exact rfl)))
        rfl
  · obtain rfl := of_decide_eq_true q1
    repeat (first|(apply Zh;exact rfl)|apply Zb|apply WO.nil|(apply Zk;exact rfl;simp only [rE,rS,li,lo,reduceIte,Nat.reduceEqDiff,Nat.reduceAdd,Nat.reduceMul,ZW,Z8,Za ZM,Za Z0,Ze Zu ZJ,ZG,Zl,Zp];exact rfl;exact rfl))
    (first|(apply WF.condT;(focus (simp only [Zg,Zf,Zd,Zm,Bool.not_true,Bool.not_false,reduceIte,Nat.reduceEqDiff,q1];done)))|(apply WF.condF;(focus (simp only [Zg,Zf,Zd,Zm,Bool.not_true,Bool.not_false,reduceIte,Nat.reduceEqDiff,q1];done))))
    repeat (first|(apply Zh;exact rfl)|apply Zb|apply WO.nil|(apply Zk;exact rfl;simp only [rE,rS,li,lo,reduceIte,Nat.reduceEqDiff,Nat.reduceAdd,Nat.reduceMul,ZW,Z8,Za ZM,Za Z0,Ze Zu ZJ,ZG,Zl,Zp];exact rfl;exact rfl))
    cases g
    · (first|(apply WF.condT;(focus (simp only [Zg,Zf,Zd,Zm,Bool.not_true,Bool.not_false,reduceIte,Nat.reduceEqDiff];done)))|(apply WF.condF;(focus (simp only [Zg,Zf,Zd,Zm,Bool.not_true,Bool.not_false,reduceIte,Nat.reduceEqDiff];done))))
      repeat (first|(apply Zh;exact rfl)|apply Zb|apply WO.nil|(apply Zk;exact rfl;simp only [rE,rS,li,lo,reduceIte,Nat.reduceEqDiff,Nat.reduceAdd,Nat.reduceMul,ZW,Z8,Za ZM,Za Z0,Ze Zu ZJ,ZG,Zl,Zp,ZN,Yx,und5];exact rfl;exact rfl))
      (apply WF.ret; (focus (simp only [Zj, Zd, Zm, Zv, reduceIte, Nat.reduceEqDiff, rs127]; exact rfl)))
      rfl
    · (first|(apply WF.condT;(focus (simp only [Zg,Zf,Zd,Zm,Bool.not_true,Bool.not_false,reduceIte,Nat.reduceEqDiff];done)))|(apply WF.condF;(focus (simp only [Zg,Zf,Zd,Zm,Bool.not_true,Bool.not_false,reduceIte,Nat.reduceEqDiff];done))))
      repeat (first|(apply Zh;exact rfl)|apply Zb|apply WO.nil|(apply Zk;exact rfl;simp only [rE,rS,li,lo,reduceIte,Nat.reduceEqDiff,Nat.reduceAdd,Nat.reduceMul,ZW,Z8,Za ZM,Za Z0,Ze Zu ZJ,ZG,Zl,Zp,ZN,Yx,und295];exact rfl;exact rfl))
      (apply WF.ret; (focus (simp only [Zj, Zd, Zm, Zv, reduceIte, Nat.reduceEqDiff, rs127]; exact rfl)))
      rfl
end Go.Ev.C
end
section
set_option linter.unusedVariables false
set_option linter.unusedSimpArgs false
set_option linter.defProp false
set_option linter.all false
namespace Go.Ev
section
variable {P : Program}
theorem recheck_off1 {ops : Array Oper} {fr : AF} {H : AH} {D e i : Nat} {o : Oper} (h : recheckR P ops D e [i] = true) (ho : ops[i]? = some o) (hw : Zc ops fr.tmps o = some false) : XO P ops fr H D e = true := by
  unfold recheckR at h
  unfold XO
  simp only [List.all_eq_true] at h ⊢
  intro k hk
  have := h k hk
  simp only [Bool.or_eq_true] at this ⊢
  rcases this with (this | this) | this
  · exact .inl this
  · right
    have e : k = i := by simpa using this
    subst e
    rw [ho]
    dsimp only
    rw [hw]
    split <;> rfl
  · right
    split at this
    · rename_i o ho
      rw [ho]
      dsimp only
      split at this
      · cases this
      · rename_i hne
        split
        · rename_i hl; exact absurd hl hne
        · rfl
    · rename_i ho
      rw [ho]
end
end Go.Ev
namespace Go.Ev.C
open Go.Proofs Go.Fmt Go.RowKit
set_option maxRecDepth 100000
set_option linter.unusedSimpArgs false
variable {L : World → Prop} [YQ Q L]
def fitsV (kind z : Int) (g : Bool) (vstr : Bool) (vn : Int) (vs : List Nat) : Bool :=
  if kind = 2 then vstr && decide (vn = 0) && (decide ((vs.length : Int) ≤ 64) && !vs.contains 0)
  else !vstr && (vs == []) && (!decide (kind = 1) || ((Ys z g).isSome && decide (wrd z g vn = vn)))
theorem YF (k z : Int) (g : Bool) (r : Int) : cut [.int .i64 k, .int .i64 z, .bool g, .int .i64 r] 1 2 = some [.int .i64 z, .bool g] := rfl
set_option maxHeartbeats 4000000 in
theorem fitsV_c (H : AH) (kind z : Int) (g : Bool) (ref : Int) (vstr : Bool) (vn : Int) (vs : List Nat) (hvs : vs.length ≤ 1000000000) : Fn Q L 83 [.agg [.int .i64 kind,.int .i64 z,.bool g,.int .i64 ref],.agg [.bool vstr,.int .i64 vn,.str vs]] H (fun w H' => w = .bool (fitsV kind z g vstr vn vs) ∧ H' = H) := by
  refine Y2 (en83 _ _) rfl ?_
  generalize lock H = H
  have n01 : (H.next = H.next + 1) = False := eq_false (by omega)
  have n10 : (H.next + 1 = H.next) = False := eq_false (by omega)
  unfold c83 Tryz.f83
  simp only [Option.getD_some]
  cases q1 : decide (kind = 2)
  rotate_left
  · have hk := of_decide_eq_true q1
    unfold fitsV
    rw [if_pos hk]
    repeat (first|(apply Zh;exact rfl)|apply Zb|apply WO.nil|(apply WO.op;(focus (simp only [rQ,Zc,li,lo,reduceIte,Nat.reduceEqDiff,Nat.reduceAdd,beq_self_eq_true,q1];done));simp only [rE,rS,li,lo,reduceIte,Nat.reduceEqDiff,Nat.reduceAdd,Nat.reduceMul,Zz,Zy,ZQ,Zo,Zq,Za ZM,Za Z0,Za Zt,Za ZA,Ze Zu ZJ,YF,Zw,ZD,ZC,n01,n10,q1];exact rfl;exact rfl)|(apply WO.unwanted;(focus (simp only [rQ,Zc,li,lo,reduceIte,Nat.reduceEqDiff,Nat.reduceAdd,beq_self_eq_true,q1];done));exact rfl))
    (first|(apply WF.condT;(focus (simp only [Zg,Zf,Zd,Zm,Bool.not_true,Bool.not_false,reduceIte,Nat.reduceEqDiff,q1];done)))|(apply WF.condF;(focus (simp only [Zg,Zf,Zd,Zm,Bool.not_true,Bool.not_false,reduceIte,Nat.reduceEqDiff,q1];done))))
    cases vstr
    · repeat (first|(apply Zh;exact rfl)|apply Zb|apply WO.nil|(apply WO.op;(focus (simp only [rQ,Zc,li,lo,reduceIte,Nat.reduceEqDiff,Nat.reduceAdd,beq_self_eq_true,q1];done));simp only [rE,rS,li,lo,reduceIte,Nat.reduceEqDiff,Nat.reduceAdd,Nat.reduceMul,Zz,Zy,ZQ,Zo,Zq,Za ZM,Za Z0,Za Zt,Za ZA,Ze Zu ZJ,YF,Zw,ZD,ZC,n01,n10,q1];exact rfl;exact rfl)|(apply WO.unwanted;(focus (simp only [rQ,Zc,li,lo,reduceIte,Nat.reduceEqDiff,Nat.reduceAdd,beq_self_eq_true,q1];done));exact rfl))
      (apply WF.ret; (focus (simp only [Zj, Zd, Zm, Zv, reduceIte, Nat.reduceEqDiff, rs83]; exact rfl)))
      rfl
    cases q2 : decide (vn = 0)
    · repeat (first|(apply Zh;exact rfl)|apply Zb|apply WO.nil|(apply WO.op;(focus (simp only [rQ,Zc,li,lo,reduceIte,Nat.reduceEqDiff,Nat.reduceAdd,beq_self_eq_true,q1,q2];done));simp only [rE,rS,li,lo,reduceIte,Nat.reduceEqDiff,Nat.reduceAdd,Nat.reduceMul,Zz,Zy,ZQ,Zo,Zq,Za ZM,Za Z0,Za Zt,Za ZA,Ze Zu ZJ,YF,Zw,ZD,ZC,n01,n10,q1,q2];exact rfl;exact rfl)|(apply WO.unwanted;(focus (simp only [rQ,Zc,li,lo,reduceIte,Nat.reduceEqDiff,Nat.reduceAdd,beq_self_eq_true,q1,q2];done));exact rfl))
      (apply WF.ret; (focus (simp only [Zj, Zd, Zm, Zv, reduceIte, Nat.reduceEqDiff, rs83]; exact rfl)))
      rfl
    repeat (first|(apply Zh;exact rfl)|apply Zb|apply WO.nil|(apply WO.op;(focus (simp only [rQ,Zc,li,lo,reduceIte,Nat.reduceEqDiff,Nat.reduceAdd,beq_self_eq_true,q1,q2];done));simp only [rE,rS,li,lo,reduceIte,Nat.reduceEqDiff,Nat.reduceAdd,Nat.reduceMul,Zz,Zy,ZQ,Zo,Zq,Za ZM,Za Z0,Za Zt,Za ZA,Ze Zu ZJ,YF,Zw,ZD,ZC,n01,n10,q1,q2];exact rfl;exact rfl)|(apply WO.unwanted;(focus (simp only [rQ,Zc,li,lo,reduceIte,Nat.reduceEqDiff,Nat.reduceAdd,beq_self_eq_true,q1,q2];done));exact rfl))
    (apply WO.call;(focus (simp only [rQ,Zc,li,lo,reduceIte,Nat.reduceEqDiff,Nat.reduceAdd,beq_self_eq_true,q1,q2];done));simp only [rE,rS,li,lo,reduceIte,Nat.reduceEqDiff,Nat.reduceAdd,Nat.reduceMul,Zz,Zy,ZQ,Zo,Zq,Za ZM,Za Z0,Za Zt,Za ZA,Ze Zu ZJ,YF,Zw,ZD,ZC,n01,n10,q1,q2];exact rfl;exact clean_c _ vs hvs;rintro _ _ ⟨rfl,rfl⟩;refine ⟨_,rfl,?_⟩)
    repeat (first|(apply Zh;exact rfl)|apply Zb|apply WO.nil|(apply WO.op;(focus (simp only [rQ,Zc,li,lo,reduceIte,Nat.reduceEqDiff,Nat.reduceAdd,beq_self_eq_true,q1,q2];done));simp only [rE,rS,li,lo,reduceIte,Nat.reduceEqDiff,Nat.reduceAdd,Nat.reduceMul,Zz,Zy,ZQ,Zo,Zq,Za ZM,Za Z0,Za Zt,Za ZA,Ze Zu ZJ,YF,Zw,ZD,ZC,n01,n10,q1,q2];exact rfl;exact rfl)|(apply WO.unwanted;(focus (simp only [rQ,Zc,li,lo,reduceIte,Nat.reduceEqDiff,Nat.reduceAdd,beq_self_eq_true,q1,q2];done));exact rfl))
    (apply WF.ret; (focus (simp only [Zj, Zd, Zm, Zv, reduceIte, Nat.reduceEqDiff, rs83]; exact rfl)))
    rfl
  have hk := of_decide_eq_false q1
  unfold fitsV
  rw [if_neg hk]
  cases vstr
  rotate_left
  · repeat (first|(apply Zh;exact rfl)|apply Zb|apply WO.nil|(apply WO.op;(focus (simp only [rQ,Zc,li,lo,reduceIte,Nat.reduceEqDiff,Nat.reduceAdd,beq_self_eq_true,q1];done));simp only [rE,rS,li,lo,reduceIte,Nat.reduceEqDiff,Nat.reduceAdd,Nat.reduceMul,Zz,Zy,ZQ,Zo,Zq,Za ZM,Za Z0,Za Zt,Za ZA,Ze Zu ZJ,YF,Zw,ZD,ZC,n01,n10,q1];exact rfl;exact rfl)|(apply WO.unwanted;(focus (simp only [rQ,Zc,li,lo,reduceIte,Nat.reduceEqDiff,Nat.reduceAdd,beq_self_eq_true,q1];done));exact rfl))
    (first|(apply WF.condT;(focus (simp only [Zg,Zf,Zd,Zm,Bool.not_true,Bool.not_false,reduceIte,Nat.reduceEqDiff,q1];done)))|(apply WF.condF;(focus (simp only [Zg,Zf,Zd,Zm,Bool.not_true,Bool.not_false,reduceIte,Nat.reduceEqDiff,q1];done))))
    iterate 2 (first|(apply Zh;exact rfl)|apply Zb|apply WO.nil|(apply Zk;exact rfl;simp only [rE,rS,li,lo,reduceIte,Nat.reduceEqDiff,Nat.reduceAdd,Nat.reduceMul];exact rfl;exact rfl))
    (apply YB; kernel_rfl; kernel_rfl)
    (refine Zs ?_;(iterate 15 (first|(apply ZU.pure;kernel_rfl;kernel_rfl;(focus ((simp only [rQ,Zc,li,lo,reduceIte,Nat.reduceEqDiff,Nat.reduceAdd,beq_self_eq_true];done)));simp only [rE,rS,li,lo,reduceIte,Nat.reduceEqDiff,Nat.reduceAdd,Nat.reduceMul,Zz,Zy,ZQ,Zo,Zq,Za ZM,Za Z0,Za Zt,Za ZA,Ze Zu ZJ,YF,Zw,ZD,ZC,n01,n10];exact rfl;exact rfl)|(apply ZU.load;kernel_rfl;kernel_rfl;(focus ((simp only [rQ,Zc,li,lo,reduceIte,Nat.reduceEqDiff,Nat.reduceAdd,beq_self_eq_true];done)));simp only [rE,rS,li,lo,reduceIte,Nat.reduceEqDiff,Nat.reduceAdd,Nat.reduceMul,Zz,Zy,ZQ,Zo,Zq,Za ZM,Za Z0,Za Zt,Za ZA,Ze Zu ZJ,YF,Zw,ZD,ZC,n01,n10];exact rfl;exact rfl)|(apply ZU.unwanted;kernel_rfl;(focus ((simp only [rQ,Zc,li,lo,reduceIte,Nat.reduceEqDiff,Nat.reduceAdd,beq_self_eq_true];done)));exact rfl)));(iterate 15 (apply ZU.later;kernel_rfl));refine ZU.nil ?_)
    (apply ZZ.unwanted (e := 15);kernel_rfl;simp only [li];exact rfl;(focus (simp only [rQ,Zc,li,lo,reduceIte,Nat.reduceEqDiff,Nat.reduceAdd,beq_self_eq_true];done));exact rfl;(focus exact Zx (by kernel_rfl)))
    (refine Zs ?_;(iterate 16 (apply ZU.later;kernel_rfl));(iterate 6 (apply ZU.unwanted;kernel_rfl;(focus ((simp only [rQ,Zc,li,lo,reduceIte,Nat.reduceEqDiff,Nat.reduceAdd,beq_self_eq_true];done)));exact rfl));(iterate 1 (apply ZU.later;kernel_rfl));(iterate 2 (apply ZU.unwanted;kernel_rfl;(focus ((simp only [rQ,Zc,li,lo,reduceIte,Nat.reduceEqDiff,Nat.reduceAdd,beq_self_eq_true];done)));exact rfl));(iterate 5 (apply ZU.later;kernel_rfl));refine ZU.nil ?_)
    (apply ZZ.unwanted (e := 22);kernel_rfl;simp only [li];exact rfl;(focus (simp only [rQ,Zc,li,lo,reduceIte,Nat.reduceEqDiff,Nat.reduceAdd,beq_self_eq_true];done));exact rfl;(focus (apply recheck_off1 (i := 24);kernel_rfl;simp only [li];exact rfl;(focus (simp only [rQ,Zc,li,lo,reduceIte,Nat.reduceEqDiff,Nat.reduceAdd,beq_self_eq_true];done)))))
    (refine Zs ?_;(iterate 25 (apply ZU.later;kernel_rfl));(iterate 4 (first|(apply ZU.pure;kernel_rfl;kernel_rfl;(focus ((simp only [rQ,Zc,li,lo,reduceIte,Nat.reduceEqDiff,Nat.reduceAdd,beq_self_eq_true];done)));simp only [rE,rS,li,lo,reduceIte,Nat.reduceEqDiff,Nat.reduceAdd,Nat.reduceMul,Zz,Zy,ZQ,Zo,Zq,Za ZM,Za Z0,Za Zt,Za ZA,Ze Zu ZJ,YF,Zw,ZD,ZC,n01,n10];exact rfl;exact rfl)|(apply ZU.unwanted;kernel_rfl;(focus ((simp only [rQ,Zc,li,lo,reduceIte,Nat.reduceEqDiff,Nat.reduceAdd,beq_self_eq_true];done)));exact rfl)));(iterate 1 (apply ZU.later;kernel_rfl));refine ZU.nil ?_)
    (apply ZZ.eff (e := 29);kernel_rfl;simp only [li];exact rfl;(focus (simp only [rQ,Zc,li,lo,reduceIte,Nat.reduceEqDiff,Nat.reduceAdd,beq_self_eq_true];done));simp only [rE,rS,li,lo,reduceIte,Nat.reduceEqDiff,Nat.reduceAdd,Nat.reduceMul,Zz,Zy,ZQ,Zo,Zq,Za ZM,Za Z0,Za Zt,Za ZA,Ze Zu ZJ,YF,Zw,ZD,ZC,n01,n10];exact rfl;exact rfl;(focus exact Zx (by kernel_rfl)))
    (refine Zs ?_; (iterate 30 (apply ZU.later; kernel_rfl)); refine ZU.nil ?_)
    (apply ZZ.all; kernel_rfl; kernel_rfl)
    repeat (first|(apply Zh;exact rfl)|apply Zb|apply WO.nil|(apply Zk;exact rfl;simp only [rE,rS,li,lo,reduceIte,Nat.reduceEqDiff,Nat.reduceAdd,Nat.reduceMul];exact rfl;exact rfl))
    (apply WF.ret; (focus (simp only [Zj, Zd, Zm, Zv, reduceIte, Nat.reduceEqDiff, rs83]; exact rfl)))
    rfl
  cases q2 : (vs == ([] : List Nat))
  · repeat (first|(apply Zh;exact rfl)|apply Zb|apply WO.nil|(apply WO.op;(focus (simp only [rQ,Zc,li,lo,reduceIte,Nat.reduceEqDiff,Nat.reduceAdd,beq_self_eq_true,q1];done));simp only [rE,rS,li,lo,reduceIte,Nat.reduceEqDiff,Nat.reduceAdd,Nat.reduceMul,Zz,Zy,ZQ,Zo,Zq,Za ZM,Za Z0,Za Zt,Za ZA,Ze Zu ZJ,YF,Zw,ZD,ZC,n01,n10,q1];exact rfl;exact rfl)|(apply WO.unwanted;(focus (simp only [rQ,Zc,li,lo,reduceIte,Nat.reduceEqDiff,Nat.reduceAdd,beq_self_eq_true,q1];done));exact rfl))
    (first|(apply WF.condT;(focus (simp only [Zg,Zf,Zd,Zm,Bool.not_true,Bool.not_false,reduceIte,Nat.reduceEqDiff,q1];done)))|(apply WF.condF;(focus (simp only [Zg,Zf,Zd,Zm,Bool.not_true,Bool.not_false,reduceIte,Nat.reduceEqDiff,q1];done))))
    iterate 2 (first|(apply Zh;exact rfl)|apply Zb|apply WO.nil|(apply Zk;exact rfl;simp only [rE,rS,li,lo,reduceIte,Nat.reduceEqDiff,Nat.reduceAdd,Nat.reduceMul];exact rfl;exact rfl))
    (apply YB; kernel_rfl; kernel_rfl)
    (refine Zs ?_;(iterate 15 (first|(apply ZU.pure;kernel_rfl;kernel_rfl;(focus ((simp only [rQ,Zc,li,lo,reduceIte,Nat.reduceEqDiff,Nat.reduceAdd,beq_self_eq_true,q2];done)));simp only [rE,rS,li,lo,reduceIte,Nat.reduceEqDiff,Nat.reduceAdd,Nat.reduceMul,Zz,Zy,ZQ,Zo,Zq,Za ZM,Za Z0,Za Zt,Za ZA,Ze Zu ZJ,YF,Zw,ZD,ZC,n01,n10,q2];exact rfl;exact rfl)|(apply ZU.load;kernel_rfl;kernel_rfl;(focus ((simp only [rQ,Zc,li,lo,reduceIte,Nat.reduceEqDiff,Nat.reduceAdd,beq_self_eq_true,q2];done)));simp only [rE,rS,li,lo,reduceIte,Nat.reduceEqDiff,Nat.reduceAdd,Nat.reduceMul,Zz,Zy,ZQ,Zo,Zq,Za ZM,Za Z0,Za Zt,Za ZA,Ze Zu ZJ,YF,Zw,ZD,ZC,n01,n10,q2];exact rfl;exact rfl)|(apply ZU.unwanted;kernel_rfl;(focus ((simp only [rQ,Zc,li,lo,reduceIte,Nat.reduceEqDiff,Nat.reduceAdd,beq_self_eq_true,q2];done)));exact rfl)));(iterate 15 (apply ZU.later;kernel_rfl));refine ZU.nil ?_)
    (apply ZZ.unwanted (e := 15);kernel_rfl;simp only [li];exact rfl;(focus (simp only [rQ,Zc,li,lo,reduceIte,Nat.reduceEqDiff,Nat.reduceAdd,beq_self_eq_true];done));exact rfl;(focus exact Zx (by kernel_rfl)))
    (refine Zs ?_;(iterate 16 (apply ZU.later;kernel_rfl));(iterate 6 (apply ZU.unwanted;kernel_rfl;(focus ((simp only [rQ,Zc,li,lo,reduceIte,Nat.reduceEqDiff,Nat.reduceAdd,beq_self_eq_true];done)));exact rfl));(iterate 1 (apply ZU.later;kernel_rfl));(iterate 2 (apply ZU.unwanted;kernel_rfl;(focus ((simp only [rQ,Zc,li,lo,reduceIte,Nat.reduceEqDiff,Nat.reduceAdd,beq_self_eq_true];done)));exact rfl));(iterate 5 (apply ZU.later;kernel_rfl));refine ZU.nil ?_)
    (apply ZZ.unwanted (e := 22);kernel_rfl;simp only [li];exact rfl;(focus (simp only [rQ,Zc,li,lo,reduceIte,Nat.reduceEqDiff,Nat.reduceAdd,beq_self_eq_true];done));exact rfl;(focus (apply recheck_off1 (i := 24);kernel_rfl;simp only [li];exact rfl;(focus (simp only [rQ,Zc,li,lo,reduceIte,Nat.reduceEqDiff,Nat.reduceAdd,beq_self_eq_true];done)))))
    (refine Zs ?_;(iterate 25 (apply ZU.later;kernel_rfl));(iterate 4 (first|(apply ZU.pure;kernel_rfl;kernel_rfl;(focus ((simp only [rQ,Zc,li,lo,reduceIte,Nat.reduceEqDiff,Nat.reduceAdd,beq_self_eq_true];done)));simp only [rE,rS,li,lo,reduceIte,Nat.reduceEqDiff,Nat.reduceAdd,Nat.reduceMul,Zz,Zy,ZQ,Zo,Zq,Za ZM,Za Z0,Za Zt,Za ZA,Ze Zu ZJ,YF,Zw,ZD,ZC,n01,n10];exact rfl;exact rfl)|(apply ZU.unwanted;kernel_rfl;(focus ((simp only [rQ,Zc,li,lo,reduceIte,Nat.reduceEqDiff,Nat.reduceAdd,beq_self_eq_true];done)));exact rfl)));(iterate 1 (apply ZU.later;kernel_rfl));refine ZU.nil ?_)
    (apply ZZ.eff (e := 29);kernel_rfl;simp only [li];exact rfl;(focus (simp only [rQ,Zc,li,lo,reduceIte,Nat.reduceEqDiff,Nat.reduceAdd,beq_self_eq_true];done));simp only [rE,rS,li,lo,reduceIte,Nat.reduceEqDiff,Nat.reduceAdd,Nat.reduceMul,Zz,Zy,ZQ,Zo,Zq,Za ZM,Za Z0,Za Zt,Za ZA,Ze Zu ZJ,YF,Zw,ZD,ZC,n01,n10];exact rfl;exact rfl;(focus exact Zx (by kernel_rfl)))
    (refine Zs ?_; (iterate 30 (apply ZU.later; kernel_rfl)); refine ZU.nil ?_)
    (apply ZZ.all; kernel_rfl; kernel_rfl)
    repeat (first|(apply Zh;exact rfl)|apply Zb|apply WO.nil|(apply Zk;exact rfl;simp only [rE,rS,li,lo,reduceIte,Nat.reduceEqDiff,Nat.reduceAdd,Nat.reduceMul];exact rfl;exact rfl))
    (apply WF.ret; (focus (simp only [Zj, Zd, Zm, Zv, reduceIte, Nat.reduceEqDiff, rs83]; exact rfl)))
    rfl
  cases q3 : decide (kind = 1)
  · repeat (first|(apply Zh;exact rfl)|apply Zb|apply WO.nil|(apply WO.op;(focus (simp only [rQ,Zc,li,lo,reduceIte,Nat.reduceEqDiff,Nat.reduceAdd,beq_self_eq_true,q1];done));simp only [rE,rS,li,lo,reduceIte,Nat.reduceEqDiff,Nat.reduceAdd,Nat.reduceMul,Zz,Zy,ZQ,Zo,Zq,Za ZM,Za Z0,Za Zt,Za ZA,Ze Zu ZJ,YF,Zw,ZD,ZC,n01,n10,q1];exact rfl;exact rfl)|(apply WO.unwanted;(focus (simp only [rQ,Zc,li,lo,reduceIte,Nat.reduceEqDiff,Nat.reduceAdd,beq_self_eq_true,q1];done));exact rfl))
    (first|(apply WF.condT;(focus (simp only [Zg,Zf,Zd,Zm,Bool.not_true,Bool.not_false,reduceIte,Nat.reduceEqDiff,q1];done)))|(apply WF.condF;(focus (simp only [Zg,Zf,Zd,Zm,Bool.not_true,Bool.not_false,reduceIte,Nat.reduceEqDiff,q1];done))))
    iterate 2 (first|(apply Zh;exact rfl)|apply Zb|apply WO.nil|(apply Zk;exact rfl;simp only [rE,rS,li,lo,reduceIte,Nat.reduceEqDiff,Nat.reduceAdd,Nat.reduceMul];exact rfl;exact rfl))
    (apply YB; kernel_rfl; kernel_rfl)
    (refine Zs ?_;(iterate 15 (first|(apply ZU.pure;kernel_rfl;kernel_rfl;(focus ((simp only [rQ,Zc,li,lo,reduceIte,Nat.reduceEqDiff,Nat.reduceAdd,beq_self_eq_true,q2,q3];done)));simp only [rE,rS,li,lo,reduceIte,Nat.reduceEqDiff,Nat.reduceAdd,Nat.reduceMul,Zz,Zy,ZQ,Zo,Zq,Za ZM,Za Z0,Za Zt,Za ZA,Ze Zu ZJ,YF,Zw,ZD,ZC,n01,n10,q2,q3];exact rfl;exact rfl)|(apply ZU.load;kernel_rfl;kernel_rfl;(focus ((simp only [rQ,Zc,li,lo,reduceIte,Nat.reduceEqDiff,Nat.reduceAdd,beq_self_eq_true,q2,q3];done)));simp only [rE,rS,li,lo,reduceIte,Nat.reduceEqDiff,Nat.reduceAdd,Nat.reduceMul,Zz,Zy,ZQ,Zo,Zq,Za ZM,Za Z0,Za Zt,Za ZA,Ze Zu ZJ,YF,Zw,ZD,ZC,n01,n10,q2,q3];exact rfl;exact rfl)|(apply ZU.unwanted;kernel_rfl;(focus ((simp only [rQ,Zc,li,lo,reduceIte,Nat.reduceEqDiff,Nat.reduceAdd,beq_self_eq_true,q2,q3];done)));exact rfl)));(iterate 15 (apply ZU.later;kernel_rfl));refine ZU.nil ?_)
    (apply ZZ.unwanted (e := 15);kernel_rfl;simp only [li];exact rfl;(focus (simp only [rQ,Zc,li,lo,reduceIte,Nat.reduceEqDiff,Nat.reduceAdd,beq_self_eq_true];done));exact rfl;(focus exact Zx (by kernel_rfl)))
    (refine Zs ?_;(iterate 16 (apply ZU.later;kernel_rfl));(iterate 6 (apply ZU.unwanted;kernel_rfl;(focus ((simp only [rQ,Zc,li,lo,reduceIte,Nat.reduceEqDiff,Nat.reduceAdd,beq_self_eq_true];done)));exact rfl));(iterate 1 (apply ZU.later;kernel_rfl));(iterate 2 (apply ZU.unwanted;kernel_rfl;(focus ((simp only [rQ,Zc,li,lo,reduceIte,Nat.reduceEqDiff,Nat.reduceAdd,beq_self_eq_true];done)));exact rfl));(iterate 5 (apply ZU.later;kernel_rfl));refine ZU.nil ?_)
    (apply ZZ.unwanted (e := 22);kernel_rfl;simp only [li];exact rfl;(focus (simp only [rQ,Zc,li,lo,reduceIte,Nat.reduceEqDiff,Nat.reduceAdd,beq_self_eq_true];done));exact rfl;(focus (apply recheck_off1 (i := 24);kernel_rfl;simp only [li];exact rfl;(focus (simp only [rQ,Zc,li,lo,reduceIte,Nat.reduceEqDiff,Nat.reduceAdd,beq_self_eq_true];done)))))
    (refine Zs ?_;(iterate 25 (apply ZU.later;kernel_rfl));(iterate 4 (first|(apply ZU.pure;kernel_rfl;kernel_rfl;(focus ((simp only [rQ,Zc,li,lo,reduceIte,Nat.reduceEqDiff,Nat.reduceAdd,beq_self_eq_true];done)));simp only [rE,rS,li,lo,reduceIte,Nat.reduceEqDiff,Nat.reduceAdd,Nat.reduceMul,Zz,Zy,ZQ,Zo,Zq,Za ZM,Za Z0,Za Zt,Za ZA,Ze Zu ZJ,YF,Zw,ZD,ZC,n01,n10];exact rfl;exact rfl)|(apply ZU.unwanted;kernel_rfl;(focus ((simp only [rQ,Zc,li,lo,reduceIte,Nat.reduceEqDiff,Nat.reduceAdd,beq_self_eq_true];done)));exact rfl)));(iterate 1 (apply ZU.later;kernel_rfl));refine ZU.nil ?_)
    (apply ZZ.eff (e := 29);kernel_rfl;simp only [li];exact rfl;(focus (simp only [rQ,Zc,li,lo,reduceIte,Nat.reduceEqDiff,Nat.reduceAdd,beq_self_eq_true];done));simp only [rE,rS,li,lo,reduceIte,Nat.reduceEqDiff,Nat.reduceAdd,Nat.reduceMul,Zz,Zy,ZQ,Zo,Zq,Za ZM,Za Z0,Za Zt,Za ZA,Ze Zu ZJ,YF,Zw,ZD,ZC,n01,n10];exact rfl;exact rfl;(focus exact Zx (by kernel_rfl)))
    (refine Zs ?_; (iterate 30 (apply ZU.later; kernel_rfl)); refine ZU.nil ?_)
    (apply ZZ.all; kernel_rfl; kernel_rfl)
    repeat (first|(apply Zh;exact rfl)|apply Zb|apply WO.nil|(apply Zk;exact rfl;simp only [rE,rS,li,lo,reduceIte,Nat.reduceEqDiff,Nat.reduceAdd,Nat.reduceMul];exact rfl;exact rfl))
    (apply WF.ret; (focus (simp only [Zj, Zd, Zm, Zv, reduceIte, Nat.reduceEqDiff, rs83]; exact rfl)))
    rfl
  obtain rfl := of_decide_eq_true q3
  cases hkd : (Ys z g).isSome
  · have d10 : decide ((10 : Int) = 0) = false := rfl
    repeat (first|(apply Zh;exact rfl)|apply Zb|apply WO.nil|(apply WO.op;(focus (simp only [rQ,Zc,li,lo,reduceIte,Nat.reduceEqDiff,Nat.reduceAdd,beq_self_eq_true,q1];done));simp only [rE,rS,li,lo,reduceIte,Nat.reduceEqDiff,Nat.reduceAdd,Nat.reduceMul,Zz,Zy,ZQ,Zo,Zq,Za ZM,Za Z0,Za Zt,Za ZA,Ze Zu ZJ,YF,Zw,ZD,ZC,n01,n10,q1];exact rfl;exact rfl)|(apply WO.unwanted;(focus (simp only [rQ,Zc,li,lo,reduceIte,Nat.reduceEqDiff,Nat.reduceAdd,beq_self_eq_true,q1];done));exact rfl))
    (first|(apply WF.condT;(focus (simp only [Zg,Zf,Zd,Zm,Bool.not_true,Bool.not_false,reduceIte,Nat.reduceEqDiff,q1];done)))|(apply WF.condF;(focus (simp only [Zg,Zf,Zd,Zm,Bool.not_true,Bool.not_false,reduceIte,Nat.reduceEqDiff,q1];done))))
    iterate 2 (first|(apply Zh;exact rfl)|apply Zb|apply WO.nil|(apply Zk;exact rfl;simp only [rE,rS,li,lo,reduceIte,Nat.reduceEqDiff,Nat.reduceAdd,Nat.reduceMul];exact rfl;exact rfl))
    (apply YB; kernel_rfl; kernel_rfl)
    (refine Zs ?_;(iterate 15 (first|(apply ZU.pure;kernel_rfl;kernel_rfl;(focus ((simp only [rQ,Zc,li,lo,reduceIte,Nat.reduceEqDiff,Nat.reduceAdd,beq_self_eq_true,q2,q3];done)));simp only [rE,rS,li,lo,reduceIte,Nat.reduceEqDiff,Nat.reduceAdd,Nat.reduceMul,Zz,Zy,ZQ,Zo,Zq,Za ZM,Za Z0,Za Zt,Za ZA,Ze Zu ZJ,YF,Zw,ZD,ZC,n01,n10,q2,q3];exact rfl;exact rfl)|(apply ZU.load;kernel_rfl;kernel_rfl;(focus ((simp only [rQ,Zc,li,lo,reduceIte,Nat.reduceEqDiff,Nat.reduceAdd,beq_self_eq_true,q2,q3];done)));simp only [rE,rS,li,lo,reduceIte,Nat.reduceEqDiff,Nat.reduceAdd,Nat.reduceMul,Zz,Zy,ZQ,Zo,Zq,Za ZM,Za Z0,Za Zt,Za ZA,Ze Zu ZJ,YF,Zw,ZD,ZC,n01,n10,q2,q3];exact rfl;exact rfl)));(iterate 15 (apply ZU.later;kernel_rfl));refine ZU.nil ?_)
    (apply ZZ.call (e := 15);kernel_rfl;simp only [li];exact rfl;(focus (simp only [rQ,Zc,li,lo,reduceIte,Nat.reduceEqDiff,Nat.reduceAdd,beq_self_eq_true];done));simp only [rE,rS,li,lo,reduceIte,Nat.reduceEqDiff,Nat.reduceAdd,Nat.reduceMul,Zz,Zy,ZQ,Zo,Zq,Za ZM,Za Z0,Za Zt,Za ZA,Ze Zu ZJ,YF,Zw,ZD,ZC,n01,n10,cu82];exact rfl;exact chk_c _ z g;rintro _ _ ⟨rfl,rfl⟩;refine ⟨_,rfl,?_,?_⟩;(focus exact Zx (by kernel_rfl)))
    (refine Zs ?_;(iterate 16 (apply ZU.later;kernel_rfl));(iterate 6 (first|(apply ZU.pure;kernel_rfl;kernel_rfl;(focus ((simp only [rQ,Zc,li,lo,reduceIte,Nat.reduceEqDiff,Nat.reduceAdd,beq_self_eq_true];done)));simp only [rE,rS,li,lo,reduceIte,Nat.reduceEqDiff,Nat.reduceAdd,Nat.reduceMul,Zz,Zy,ZQ,Zo,Zq,Za ZM,Za Z0,Za Zt,Za ZA,Ze Zu ZJ,YF,Zw,ZD,ZC,n01,n10,hkd,Bool.false_eq_true,d10];exact rfl;exact rfl)|(apply ZU.unwanted;kernel_rfl;(focus ((simp only [rQ,Zc,li,lo,reduceIte,Nat.reduceEqDiff,Nat.reduceAdd,beq_self_eq_true];done)));exact rfl)));(iterate 1 (apply ZU.later;kernel_rfl));(iterate 2 (apply ZU.unwanted;kernel_rfl;(focus ((simp only [rQ,Zc,li,lo,reduceIte,Nat.reduceEqDiff,Nat.reduceAdd,beq_self_eq_true];done)));exact rfl));(iterate 5 (apply ZU.later;kernel_rfl));refine ZU.nil ?_)
    (apply ZZ.unwanted (e := 22);kernel_rfl;simp only [li];exact rfl;(focus (simp only [rQ,Zc,li,lo,reduceIte,Nat.reduceEqDiff,Nat.reduceAdd,beq_self_eq_true];done));exact rfl;(focus (apply recheck_off1 (i := 24);kernel_rfl;simp only [li];exact rfl;(focus (simp only [rQ,Zc,li,lo,reduceIte,Nat.reduceEqDiff,Nat.reduceAdd,beq_self_eq_true];done)))))
    (refine Zs ?_;(iterate 25 (apply ZU.later;kernel_rfl));(iterate 4 (first|(apply ZU.pure;kernel_rfl;kernel_rfl;(focus ((simp only [rQ,Zc,li,lo,reduceIte,Nat.reduceEqDiff,Nat.reduceAdd,beq_self_eq_true];done)));simp only [rE,rS,li,lo,reduceIte,Nat.reduceEqDiff,Nat.reduceAdd,Nat.reduceMul,Zz,Zy,ZQ,Zo,Zq,Za ZM,Za Z0,Za Zt,Za ZA,Ze Zu ZJ,YF,Zw,ZD,ZC,n01,n10];exact rfl;exact rfl)|(apply ZU.unwanted;kernel_rfl;(focus ((simp only [rQ,Zc,li,lo,reduceIte,Nat.reduceEqDiff,Nat.reduceAdd,beq_self_eq_true];done)));exact rfl)));(iterate 1 (apply ZU.later;kernel_rfl));refine ZU.nil ?_)
    (apply ZZ.eff (e := 29);kernel_rfl;simp only [li];exact rfl;(focus (simp only [rQ,Zc,li,lo,reduceIte,Nat.reduceEqDiff,Nat.reduceAdd,beq_self_eq_true];done));simp only [rE,rS,li,lo,reduceIte,Nat.reduceEqDiff,Nat.reduceAdd,Nat.reduceMul,Zz,Zy,ZQ,Zo,Zq,Za ZM,Za Z0,Za Zt,Za ZA,Ze Zu ZJ,YF,Zw,ZD,ZC,n01,n10];exact rfl;exact rfl;(focus exact Zx (by kernel_rfl)))
    (refine Zs ?_; (iterate 30 (apply ZU.later; kernel_rfl)); refine ZU.nil ?_)
    (apply ZZ.all; kernel_rfl; kernel_rfl)
    repeat (first|(apply Zh;exact rfl)|apply Zb|apply WO.nil|(apply Zk;exact rfl;simp only [rE,rS,li,lo,reduceIte,Nat.reduceEqDiff,Nat.reduceAdd,Nat.reduceMul];exact rfl;exact rfl))
    (apply WF.ret; (focus (simp only [Zj, Zd, Zm, Zv, reduceIte, Nat.reduceEqDiff, rs83]; exact rfl)))
    rfl
  · have d0 : decide ((0 : Int) = 0) = true := rfl
    cases q5 : decide (wrd z g vn = vn)
    all_goals (
      repeat (first|(apply Zh;exact rfl)|apply Zb|apply WO.nil|(apply WO.op;(focus (simp only [rQ,Zc,li,lo,reduceIte,Nat.reduceEqDiff,Nat.reduceAdd,beq_self_eq_true,q1];done));simp only [rE,rS,li,lo,reduceIte,Nat.reduceEqDiff,Nat.reduceAdd,Nat.reduceMul,Zz,Zy,ZQ,Zo,Zq,Za ZM,Za Z0,Za Zt,Za ZA,Ze Zu ZJ,YF,Zw,ZD,ZC,n01,n10,q1];exact rfl;exact rfl)|(apply WO.unwanted;(focus (simp only [rQ,Zc,li,lo,reduceIte,Nat.reduceEqDiff,Nat.reduceAdd,beq_self_eq_true,q1];done));exact rfl))
      (first|(apply WF.condT;(focus (simp only [Zg,Zf,Zd,Zm,Bool.not_true,Bool.not_false,reduceIte,Nat.reduceEqDiff,q1];done)))|(apply WF.condF;(focus (simp only [Zg,Zf,Zd,Zm,Bool.not_true,Bool.not_false,reduceIte,Nat.reduceEqDiff,q1];done))))
      iterate 2 (first|(apply Zh;exact rfl)|apply Zb|apply WO.nil|(apply Zk;exact rfl;simp only [rE,rS,li,lo,reduceIte,Nat.reduceEqDiff,Nat.reduceAdd,Nat.reduceMul];exact rfl;exact rfl))
      (apply YB; kernel_rfl; kernel_rfl)
      (refine Zs ?_;(iterate 15 (first|(apply ZU.pure;kernel_rfl;kernel_rfl;(focus ((simp only [rQ,Zc,li,lo,reduceIte,Nat.reduceEqDiff,Nat.reduceAdd,beq_self_eq_true,q2,q3];done)));simp only [rE,rS,li,lo,reduceIte,Nat.reduceEqDiff,Nat.reduceAdd,Nat.reduceMul,Zz,Zy,ZQ,Zo,Zq,Za ZM,Za Z0,Za Zt,Za ZA,Ze Zu ZJ,YF,Zw,ZD,ZC,n01,n10,q2,q3];exact rfl;exact rfl)|(apply ZU.load;kernel_rfl;kernel_rfl;(focus ((simp only [rQ,Zc,li,lo,reduceIte,Nat.reduceEqDiff,Nat.reduceAdd,beq_self_eq_true,q2,q3];done)));simp only [rE,rS,li,lo,reduceIte,Nat.reduceEqDiff,Nat.reduceAdd,Nat.reduceMul,Zz,Zy,ZQ,Zo,Zq,Za ZM,Za Z0,Za Zt,Za ZA,Ze Zu ZJ,YF,Zw,ZD,ZC,n01,n10,q2,q3];exact rfl;exact rfl)));(iterate 15 (apply ZU.later;kernel_rfl));refine ZU.nil ?_)
      (apply ZZ.call (e := 15);kernel_rfl;simp only [li];exact rfl;(focus (simp only [rQ,Zc,li,lo,reduceIte,Nat.reduceEqDiff,Nat.reduceAdd,beq_self_eq_true];done));simp only [rE,rS,li,lo,reduceIte,Nat.reduceEqDiff,Nat.reduceAdd,Nat.reduceMul,Zz,Zy,ZQ,Zo,Zq,Za ZM,Za Z0,Za Zt,Za ZA,Ze Zu ZJ,YF,Zw,ZD,ZC,n01,n10,cu82];exact rfl;exact chk_c _ z g;rintro _ _ ⟨rfl,rfl⟩;refine ⟨_,rfl,?_,?_⟩;(focus exact Zx (by kernel_rfl)))
      (refine Zs ?_;(iterate 16 (apply ZU.later;kernel_rfl));(iterate 6 (first|(apply ZU.pure;kernel_rfl;kernel_rfl;(focus ((simp only [rQ,Zc,li,lo,reduceIte,Nat.reduceEqDiff,Nat.reduceAdd,beq_self_eq_true,d0];done)));simp only [rE,rS,li,lo,reduceIte,Nat.reduceEqDiff,Nat.reduceAdd,Nat.reduceMul,Zz,Zy,ZQ,Zo,Zq,Za ZM,Za Z0,Za Zt,Za ZA,Ze Zu ZJ,YF,Zw,ZD,ZC,n01,n10,hkd,d0];exact rfl;exact rfl)|(apply ZU.load;kernel_rfl;kernel_rfl;(focus ((simp only [rQ,Zc,li,lo,reduceIte,Nat.reduceEqDiff,Nat.reduceAdd,beq_self_eq_true,d0];done)));simp only [rE,rS,li,lo,reduceIte,Nat.reduceEqDiff,Nat.reduceAdd,Nat.reduceMul,Zz,Zy,ZQ,Zo,Zq,Za ZM,Za Z0,Za Zt,Za ZA,Ze Zu ZJ,YF,Zw,ZD,ZC,n01,n10,hkd,d0];exact rfl;exact rfl)));(iterate 1 (apply ZU.later;kernel_rfl));(iterate 2 (first|(apply ZU.pure;kernel_rfl;kernel_rfl;(focus ((simp only [rQ,Zc,li,lo,reduceIte,Nat.reduceEqDiff,Nat.reduceAdd,beq_self_eq_true,d0];done)));simp only [rE,rS,li,lo,reduceIte,Nat.reduceEqDiff,Nat.reduceAdd,Nat.reduceMul,Zz,Zy,ZQ,Zo,Zq,Za ZM,Za Z0,Za Zt,Za ZA,Ze Zu ZJ,YF,Zw,ZD,ZC,n01,n10,hkd,d0];exact rfl;exact rfl)|(apply ZU.load;kernel_rfl;kernel_rfl;(focus ((simp only [rQ,Zc,li,lo,reduceIte,Nat.reduceEqDiff,Nat.reduceAdd,beq_self_eq_true,d0];done)));simp only [rE,rS,li,lo,reduceIte,Nat.reduceEqDiff,Nat.reduceAdd,Nat.reduceMul,Zz,Zy,ZQ,Zo,Zq,Za ZM,Za Z0,Za Zt,Za ZA,Ze Zu ZJ,YF,Zw,ZD,ZC,n01,n10,hkd,d0];exact rfl;exact rfl)));(iterate 5 (apply ZU.later;kernel_rfl));refine ZU.nil ?_)
      (apply ZZ.call (e := 22);kernel_rfl;simp only [li];exact rfl;(focus (simp only [rQ,Zc,li,lo,reduceIte,Nat.reduceEqDiff,Nat.reduceAdd,beq_self_eq_true];done));simp only [rE,rS,li,lo,reduceIte,Nat.reduceEqDiff,Nat.reduceAdd,Nat.reduceMul,Zz,Zy,ZQ,Zo,Zq,Za ZM,Za Z0,Za Zt,Za ZA,Ze Zu ZJ,YF,Zw,ZD,ZC,n01,n10,cu127];exact rfl;exact wrapped_c _ z g vn;rintro _ _ ⟨rfl,rfl⟩;refine ⟨_,rfl,?_,?_⟩;(focus (apply Xm (R := [24]);kernel_rfl;(apply Anew.cons;simp only [li];exact rfl;(focus (simp only [rQ,Zc,li,lo,reduceIte,Nat.reduceEqDiff,Nat.reduceAdd,beq_self_eq_true];done));simp only [rE,rS,li,lo,reduceIte,Nat.reduceEqDiff,Nat.reduceAdd,Nat.reduceMul,Zz,Zy,ZQ,Zo,Zq,Za ZM,Za Z0,Za Zt,Za ZA,Ze Zu ZJ,YF,Zw,ZD,ZC,n01,n10];exact rfl;exact rfl;(focus (simp only [Zd,Zm,reduceIte,Nat.reduceEqDiff,Zz,Zy,ZQ,Zo,Zq,Za ZM,Za Z0,Za Zt,Za ZA,Ze Zu ZJ,YF,Zw,ZD,ZC,n01,n10];exact rfl));(focus (simp [AV.beq,Xz,Zz,Zy,ZQ,Zo,Zq,Za ZM,Za Z0,Za Zt,Za ZA,Ze Zu ZJ,YF,Zw,ZD,ZC,n01,n10];done)));exact Anew.nil)))
      (refine Zs ?_;(iterate 25 (apply ZU.later;kernel_rfl));(iterate 4 (apply ZU.pure;kernel_rfl;kernel_rfl;(focus ((simp only [rQ,Zc,li,lo,reduceIte,Nat.reduceEqDiff,Nat.reduceAdd,beq_self_eq_true,q5];done)));simp only [rE,rS,li,lo,reduceIte,Nat.reduceEqDiff,Nat.reduceAdd,Nat.reduceMul,Zz,Zy,ZQ,Zo,Zq,Za ZM,Za Z0,Za Zt,Za ZA,Ze Zu ZJ,YF,Zw,ZD,ZC,n01,n10,q5];exact rfl;exact rfl));(iterate 1 (apply ZU.later;kernel_rfl));refine ZU.nil ?_)
      (apply ZZ.eff (e := 29);kernel_rfl;simp only [li];exact rfl;(focus (simp only [rQ,Zc,li,lo,reduceIte,Nat.reduceEqDiff,Nat.reduceAdd,beq_self_eq_true];done));simp only [rE,rS,li,lo,reduceIte,Nat.reduceEqDiff,Nat.reduceAdd,Nat.reduceMul,Zz,Zy,ZQ,Zo,Zq,Za ZM,Za Z0,Za Zt,Za ZA,Ze Zu ZJ,YF,Zw,ZD,ZC,n01,n10];exact rfl;exact rfl;(focus exact Zx (by kernel_rfl)))
      (refine Zs ?_; (iterate 30 (apply ZU.later; kernel_rfl)); refine ZU.nil ?_)
      (apply ZZ.all; kernel_rfl; kernel_rfl)
      repeat (first|(apply Zh;exact rfl)|apply Zb|apply WO.nil|(apply Zk;exact rfl;simp only [rE,rS,li,lo,reduceIte,Nat.reduceEqDiff,Nat.reduceAdd,Nat.reduceMul];exact rfl;exact rfl))
      (apply WF.ret; (focus (simp only [Zj, Zd, Zm, Zv, reduceIte, Nat.reduceEqDiff, rs83]; exact rfl)))
      rfl)
end Go.Ev.C
end
section
set_option linter.unusedVariables false
set_option linter.unusedSimpArgs false
set_option linter.defProp false
set_option linter.all false
namespace Go.Ev.C
open Go.Proofs Go.Fmt Go.RowKit
set_option maxRecDepth 100000
set_option linter.unusedSimpArgs false
variable {L : World → Prop} [YQ Q L]
theorem wr_u64 {v : Int} (h0 : -9223372036854775808 ≤ v) (h1 : v ≤ 9223372036854775807) : wr .u64 v = v := by
  show IntKind.i64.wrap (IntKind.u64.wrap v) = v
  rw [wrap_u64]
  unfold IntKind.wrap
  simp only [IntKind.bits, IntKind.signed, Bool.true_and]
  split
  · rename_i hh
    have := of_decide_eq_true hh
    omega
  · rename_i hh
    have : ¬ (v % 18446744073709551616 % 2 ^ 64 ≥ 2 ^ (64 - 1)) := fun hc => hh (decide_eq_true hc)
    omega
def refFits (x : XB) (l : Nat) : Bool :=
  if (decide (l = 115)) = (decide (x.kind = 2)) then (decide (l = 115) || decide (x.kind = 3) || (decide (x.kind = 1) && (Ys x.size x.sg).isSome)) && fitsV x.kind x.size x.sg x.vstr x.vn x.vs else false
theorem ref_fits {x : XB} {l : Nat} (h0 : -9223372036854775808 ≤ x.vn) (h1 : x.vn ≤ 9223372036854775807) : refFits x l = fitsB x l := by
  obtain ⟨act, val, kind, size, sg, ref, vstr, vn, vs⟩ := x
  unfold refFits fitsB fitsV
  dsimp only at h0 h1 ⊢
  by_cases hl : l = 115
  · rw [if_pos hl]
    by_cases hk : kind = 2
    · simp [hl, hk, Bool.and_assoc]
    · simp [hl, hk]
  · rw [if_neg hl]
    by_cases hk : kind = 2
    · subst hk
      simp [hl]
    · by_cases h1k : kind = 1
      · subst h1k
        cases hkd : Ys size sg with
        | none => cases vstr <;> simp [hl]
        | some k =>
          have hw : wrd size sg vn = wr k vn := by
            unfold wrd
            by_cases h8 : size = 8
            · subst h8
              rw [if_pos rfl]
              have e : Ys 8 sg = some (if sg then .i64 else .u64) := by cases sg <;> rfl
              rw [e] at hkd
              cases hkd
              cases sg
              · exact (wr_u64 h0 h1).symm
              · rfl
            · rw [if_neg h8, hkd]
          rw [hw]
          cases vstr <;> cases hv : (vs == ([] : List Nat)) <;> simp [hl]
      · cases vstr <;> cases hv : (vs == ([] : List Nat)) <;> simp [hl, hk, h1k]
theorem cutT (a b k z : Int) (g : Bool) (r : Int) (vst : Bool) (vn : Int) (vs : List Nat) (sv : AV) : cut [.int .i64 a,.int .i64 b,.int .i64 k,.int .i64 z,.bool g,.int .i64 r,.bool vst,.int .i64 vn,.str vs,sv] 2 4 = some [.int .i64 k,.int .i64 z,.bool g,.int .i64 r] := rfl
set_option maxHeartbeats 4000000 in
theorem refFits_c (H : AH) (x : XB) (sv : AV) (hsv1 : Ye sv = true) (hvs : x.vs.length ≤ 1000000000) (tt : List Nat) (hci : IsCv tt) : Fn Q L 42 [.str tt,IV x sv] H (fun w H' => w = .bool (refFits x (YH tt)) ∧ H' = H) := by
  refine Y2 (en42 _ _) rfl ?_
  generalize lock H = H
  have hcl := cv_len hci
  have we : IntKind.i64.wrap ((tt.length : Int) - 1) = ((tt.length - 1 : Nat) : Int) := by rw [Go.Ev.w64 (by omega) (by omega)]; omega
  have hix := idx_last hci
  obtain ⟨act, val, kind, size, sg, ref, vstr, vn, vs⟩ := x
  dsimp only at hvs
  generalize YH tt = l at *
  unfold c42 Tryz.f42 IV IC refFits
  simp only [Option.getD_some]
  have hle : decide ((l : Int) = 115) = decide (l = 115) := decide_eq_decide.2 (by omega)
  have d0 : decide ((0 : Int) = 0) = true := rfl
  have d10 : decide ((10 : Int) = 0) = false := rfl
  cases q1 : decide (l = 115)
  · have q1' : decide ((l : Int) = 115) = false := by rw [hle]; exact q1
    cases q2 : decide (kind = 2)
    rotate_left
    · repeat (first|(apply Zh;exact rfl)|apply Zb|apply WO.nil|(apply WO.op;(focus (simp only [rQ,Zc,li,lo,reduceIte,Nat.reduceEqDiff,Nat.reduceAdd,beq_self_eq_true,q2];done));simp only [rE,rS,li,lo,reduceIte,Nat.reduceEqDiff,Nat.reduceAdd,Nat.reduceMul,Zi,ZT,Zr,Zz,Zy,Za ZM,Ze Zu ZJ,Ze Wi sz66,Ze Yn Yk,Xf,Xe,cutT,hsv1,Yz und4,we,hix,q1',q2];exact rfl;exact rfl)|(apply WO.unwanted;(focus (simp only [rQ,Zc,li,lo,reduceIte,Nat.reduceEqDiff,Nat.reduceAdd,beq_self_eq_true,q2];done));exact rfl))
      (first|(apply WF.condT;(focus (simp only [Zg,Zf,Zd,Zm,Bool.not_true,Bool.not_false,reduceIte,Nat.reduceEqDiff];done)))|(apply WF.condF;(focus (simp only [Zg,Zf,Zd,Zm,Bool.not_true,Bool.not_false,reduceIte,Nat.reduceEqDiff];done))))
      repeat (first|(apply Zh;exact rfl)|apply Zb|apply WO.nil|(apply WO.op;(focus (simp only [rQ,Zc,li,lo,reduceIte,Nat.reduceEqDiff,Nat.reduceAdd,beq_self_eq_true,q2];done));simp only [rE,rS,li,lo,reduceIte,Nat.reduceEqDiff,Nat.reduceAdd,Nat.reduceMul,Zi,ZT,Zr,Zz,Zy,Za ZM,Ze Zu ZJ,Ze Wi sz66,Ze Yn Yk,Xf,Xe,cutT,hsv1,Yz und4,we,hix,q1',q2];exact rfl;exact rfl)|(apply WO.unwanted;(focus (simp only [rQ,Zc,li,lo,reduceIte,Nat.reduceEqDiff,Nat.reduceAdd,beq_self_eq_true,q2];done));exact rfl))
      (apply WF.ret; (focus (simp only [Zj, Zd, Zm, Zv, reduceIte, Nat.reduceEqDiff, rs42]; exact rfl)))
      simp
    cases q3 : decide (kind = 3)
    · cases q4 : decide (kind = 1)
      · repeat (first|(apply Zh;exact rfl)|apply Zb|apply WO.nil|(apply WO.op;(focus (simp only [rQ,Zc,li,lo,reduceIte,Nat.reduceEqDiff,Nat.reduceAdd,beq_self_eq_true,q2,q3,q4];done));simp only [rE,rS,li,lo,reduceIte,Nat.reduceEqDiff,Nat.reduceAdd,Nat.reduceMul,Zi,ZT,Zr,Zz,Zy,Za ZM,Ze Zu ZJ,Ze Wi sz66,Ze Yn Yk,Xf,Xe,cutT,hsv1,Yz und4,we,hix,q1',q2,q3,q4];exact rfl;exact rfl)|(apply WO.unwanted;(focus (simp only [rQ,Zc,li,lo,reduceIte,Nat.reduceEqDiff,Nat.reduceAdd,beq_self_eq_true,q2,q3,q4];done));exact rfl))
        (first|(apply WF.condT;(focus (simp only [Zg,Zf,Zd,Zm,Bool.not_true,Bool.not_false,reduceIte,Nat.reduceEqDiff];done)))|(apply WF.condF;(focus (simp only [Zg,Zf,Zd,Zm,Bool.not_true,Bool.not_false,reduceIte,Nat.reduceEqDiff];done))))
        repeat (first|(apply Zh;exact rfl)|apply Zb|apply WO.nil|(apply WO.op;(focus (simp only [rQ,Zc,li,lo,reduceIte,Nat.reduceEqDiff,Nat.reduceAdd,beq_self_eq_true,q2,q3,q4];done));simp only [rE,rS,li,lo,reduceIte,Nat.reduceEqDiff,Nat.reduceAdd,Nat.reduceMul,Zi,ZT,Zr,Zz,Zy,Za ZM,Ze Zu ZJ,Ze Wi sz66,Ze Yn Yk,Xf,Xe,cutT,hsv1,Yz und4,we,hix,q1',q2,q3,q4];exact rfl;exact rfl)|(apply WO.unwanted;(focus (simp only [rQ,Zc,li,lo,reduceIte,Nat.reduceEqDiff,Nat.reduceAdd,beq_self_eq_true,q2,q3,q4];done));exact rfl))
        (apply WF.ret; (focus (simp only [Zj, Zd, Zm, Zv, reduceIte, Nat.reduceEqDiff, rs42]; exact rfl)))
        simp
      · repeat (first|(apply Zh;exact rfl)|apply Zb|apply WO.nil|(apply WO.op;(focus (simp only [rQ,Zc,li,lo,reduceIte,Nat.reduceEqDiff,Nat.reduceAdd,beq_self_eq_true,q2,q3,q4];done));simp only [rE,rS,li,lo,reduceIte,Nat.reduceEqDiff,Nat.reduceAdd,Nat.reduceMul,Zi,ZT,Zr,Zz,Zy,Za ZM,Ze Zu ZJ,Ze Wi sz66,Ze Yn Yk,Xf,Xe,cutT,hsv1,Yz und4,we,hix,q1',q2,q3,q4];exact rfl;exact rfl)|(apply WO.unwanted;(focus (simp only [rQ,Zc,li,lo,reduceIte,Nat.reduceEqDiff,Nat.reduceAdd,beq_self_eq_true,q2,q3,q4];done));exact rfl))
        (first|(apply WF.condT;(focus (simp only [Zg,Zf,Zd,Zm,Bool.not_true,Bool.not_false,reduceIte,Nat.reduceEqDiff];done)))|(apply WF.condF;(focus (simp only [Zg,Zf,Zd,Zm,Bool.not_true,Bool.not_false,reduceIte,Nat.reduceEqDiff];done))))
        repeat (first|(apply Zh;exact rfl)|apply Zb|apply WO.nil|(apply WO.op;(focus (simp only [rQ,Zc,li,lo,reduceIte,Nat.reduceEqDiff,Nat.reduceAdd,beq_self_eq_true,q2,q3,q4];done));simp only [rE,rS,li,lo,reduceIte,Nat.reduceEqDiff,Nat.reduceAdd,Nat.reduceMul,Zi,ZT,Zr,Zz,Zy,Za ZM,Ze Zu ZJ,Ze Wi sz66,Ze Yn Yk,Xf,Xe,cutT,hsv1,Yz und4,we,hix,q1',q2,q3,q4];exact rfl;exact rfl)|(apply WO.unwanted;(focus (simp only [rQ,Zc,li,lo,reduceIte,Nat.reduceEqDiff,Nat.reduceAdd,beq_self_eq_true,q2,q3,q4];done));exact rfl))
        (apply WO.call;(focus (simp only [rQ,Zc,li,lo,reduceIte,Nat.reduceEqDiff,Nat.reduceAdd,beq_self_eq_true,q2,q3,q4];done));simp only [rE,rS,li,lo,reduceIte,Nat.reduceEqDiff,Nat.reduceAdd,Nat.reduceMul,Zi,ZT,Zr,Zz,Zy,Za ZM,Ze Zu ZJ,Ze Wi sz66,Ze Yn Yk,Xf,Xe,cutT,hsv1,Yz und4,we,hix,q1',q2,q3,q4,cu82];exact rfl;exact chk_c _ _ _;rintro _ _ ⟨rfl,rfl⟩;refine ⟨_,rfl,?_⟩)
        cases hkd : (Ys size sg).isSome
        · repeat (first|(apply Zh;exact rfl)|apply Zb|apply WO.nil|(apply WO.op;(focus (simp only [rQ,Zc,li,lo,reduceIte,Nat.reduceEqDiff,Nat.reduceAdd,beq_self_eq_true,q2,q3,q4];done));simp only [rE,rS,li,lo,reduceIte,Nat.reduceEqDiff,Nat.reduceAdd,Nat.reduceMul,Zi,ZT,Zr,Zz,Zy,Za ZM,Ze Zu ZJ,Ze Wi sz66,Ze Yn Yk,Xf,Xe,cutT,hsv1,Yz und4,we,hix,q1',q2,q3,q4,hkd,Bool.false_eq_true,d10];exact rfl;exact rfl)|(apply WO.unwanted;(focus (simp only [rQ,Zc,li,lo,reduceIte,Nat.reduceEqDiff,Nat.reduceAdd,beq_self_eq_true,q2,q3,q4];done));exact rfl))
          (apply WF.ret; (focus (simp only [Zj, Zd, Zm, Zv, reduceIte, Nat.reduceEqDiff, rs42]; exact rfl)))
          simp
        · repeat (first|(apply Zh;exact rfl)|apply Zb|apply WO.nil|(apply WO.op;(focus (simp only [rQ,Zc,li,lo,reduceIte,Nat.reduceEqDiff,Nat.reduceAdd,beq_self_eq_true,q2,q3,q4,d0];done));simp only [rE,rS,li,lo,reduceIte,Nat.reduceEqDiff,Nat.reduceAdd,Nat.reduceMul,Zi,ZT,Zr,Zz,Zy,Za ZM,Ze Zu ZJ,Ze Wi sz66,Ze Yn Yk,Xf,Xe,cutT,hsv1,Yz und4,we,hix,q1',q2,q3,q4,hkd,d0];exact rfl;exact rfl)|(apply WO.unwanted;(focus (simp only [rQ,Zc,li,lo,reduceIte,Nat.reduceEqDiff,Nat.reduceAdd,beq_self_eq_true,q2,q3,q4,d0];done));exact rfl))
          (apply WO.call;(focus (simp only [rQ,Zc,li,lo,reduceIte,Nat.reduceEqDiff,Nat.reduceAdd,beq_self_eq_true,q2,q3,q4];done));simp only [rE,rS,li,lo,reduceIte,Nat.reduceEqDiff,Nat.reduceAdd,Nat.reduceMul,Zi,ZT,Zr,Zz,Zy,Za ZM,Ze Zu ZJ,Ze Wi sz66,Ze Yn Yk,Xf,Xe,cutT,hsv1,Yz und4,we,hix,q1',q2,q3,q4,cu83];exact rfl;exact fitsV_c _ _ _ _ _ _ _ _ hvs;rintro _ _ ⟨rfl,rfl⟩;refine ⟨_,rfl,?_⟩)
          repeat (first|(apply Zh;exact rfl)|apply Zb|apply WO.nil|(apply WO.op;(focus (simp only [rQ,Zc,li,lo,reduceIte,Nat.reduceEqDiff,Nat.reduceAdd,beq_self_eq_true,q2,q3,q4,d0];done));simp only [rE,rS,li,lo,reduceIte,Nat.reduceEqDiff,Nat.reduceAdd,Nat.reduceMul,Zi,ZT,Zr,Zz,Zy,Za ZM,Ze Zu ZJ,Ze Wi sz66,Ze Yn Yk,Xf,Xe,cutT,hsv1,Yz und4,we,hix,q1',q2,q3,q4,hkd,d0];exact rfl;exact rfl)|(apply WO.unwanted;(focus (simp only [rQ,Zc,li,lo,reduceIte,Nat.reduceEqDiff,Nat.reduceAdd,beq_self_eq_true,q2,q3,q4,d0];done));exact rfl))
          (apply WF.ret; (focus (simp only [Zj, Zd, Zm, Zv, reduceIte, Nat.reduceEqDiff, rs42]; exact rfl)))
          simp
    · repeat (first|(apply Zh;exact rfl)|apply Zb|apply WO.nil|(apply WO.op;(focus (simp only [rQ,Zc,li,lo,reduceIte,Nat.reduceEqDiff,Nat.reduceAdd,beq_self_eq_true,q2,q3];done));simp only [rE,rS,li,lo,reduceIte,Nat.reduceEqDiff,Nat.reduceAdd,Nat.reduceMul,Zi,ZT,Zr,Zz,Zy,Za ZM,Ze Zu ZJ,Ze Wi sz66,Ze Yn Yk,Xf,Xe,cutT,hsv1,Yz und4,we,hix,q1',q2,q3];exact rfl;exact rfl)|(apply WO.unwanted;(focus (simp only [rQ,Zc,li,lo,reduceIte,Nat.reduceEqDiff,Nat.reduceAdd,beq_self_eq_true,q2,q3];done));exact rfl))
      (first|(apply WF.condT;(focus (simp only [Zg,Zf,Zd,Zm,Bool.not_true,Bool.not_false,reduceIte,Nat.reduceEqDiff];done)))|(apply WF.condF;(focus (simp only [Zg,Zf,Zd,Zm,Bool.not_true,Bool.not_false,reduceIte,Nat.reduceEqDiff];done))))
      repeat (first|(apply Zh;exact rfl)|apply Zb|apply WO.nil|(apply WO.op;(focus (simp only [rQ,Zc,li,lo,reduceIte,Nat.reduceEqDiff,Nat.reduceAdd,beq_self_eq_true,q2,q3];done));simp only [rE,rS,li,lo,reduceIte,Nat.reduceEqDiff,Nat.reduceAdd,Nat.reduceMul,Zi,ZT,Zr,Zz,Zy,Za ZM,Ze Zu ZJ,Ze Wi sz66,Ze Yn Yk,Xf,Xe,cutT,hsv1,Yz und4,we,hix,q1',q2,q3];exact rfl;exact rfl)|(apply WO.unwanted;(focus (simp only [rQ,Zc,li,lo,reduceIte,Nat.reduceEqDiff,Nat.reduceAdd,beq_self_eq_true,q2,q3];done));exact rfl))
      (apply WO.call;(focus (simp only [rQ,Zc,li,lo,reduceIte,Nat.reduceEqDiff,Nat.reduceAdd,beq_self_eq_true,q2,q3];done));simp only [rE,rS,li,lo,reduceIte,Nat.reduceEqDiff,Nat.reduceAdd,Nat.reduceMul,Zi,ZT,Zr,Zz,Zy,Za ZM,Ze Zu ZJ,Ze Wi sz66,Ze Yn Yk,Xf,Xe,cutT,hsv1,Yz und4,we,hix,q1',q2,q3,cu83];exact rfl;exact fitsV_c _ _ _ _ _ _ _ _ hvs;rintro _ _ ⟨rfl,rfl⟩;refine ⟨_,rfl,?_⟩)
      repeat (first|(apply Zh;exact rfl)|apply Zb|apply WO.nil|(apply WO.op;(focus (simp only [rQ,Zc,li,lo,reduceIte,Nat.reduceEqDiff,Nat.reduceAdd,beq_self_eq_true,q2,q3];done));simp only [rE,rS,li,lo,reduceIte,Nat.reduceEqDiff,Nat.reduceAdd,Nat.reduceMul,Zi,ZT,Zr,Zz,Zy,Za ZM,Ze Zu ZJ,Ze Wi sz66,Ze Yn Yk,Xf,Xe,cutT,hsv1,Yz und4,we,hix,q1',q2,q3];exact rfl;exact rfl)|(apply WO.unwanted;(focus (simp only [rQ,Zc,li,lo,reduceIte,Nat.reduceEqDiff,Nat.reduceAdd,beq_self_eq_true,q2,q3];done));exact rfl))
      (apply WF.ret; (focus (simp only [Zj, Zd, Zm, Zv, reduceIte, Nat.reduceEqDiff, rs42]; exact rfl)))
      simp
  · have q1' : decide ((l : Int) = 115) = true := by rw [hle]; exact q1
    cases q2 : decide (kind = 2)
    · repeat (first|(apply Zh;exact rfl)|apply Zb|apply WO.nil|(apply WO.op;(focus (simp only [rQ,Zc,li,lo,reduceIte,Nat.reduceEqDiff,Nat.reduceAdd,beq_self_eq_true,q2];done));simp only [rE,rS,li,lo,reduceIte,Nat.reduceEqDiff,Nat.reduceAdd,Nat.reduceMul,Zi,ZT,Zr,Zz,Zy,Za ZM,Ze Zu ZJ,Ze Wi sz66,Ze Yn Yk,Xf,Xe,cutT,hsv1,Yz und4,we,hix,q1',q2];exact rfl;exact rfl)|(apply WO.unwanted;(focus (simp only [rQ,Zc,li,lo,reduceIte,Nat.reduceEqDiff,Nat.reduceAdd,beq_self_eq_true,q2];done));exact rfl))
      (first|(apply WF.condT;(focus (simp only [Zg,Zf,Zd,Zm,Bool.not_true,Bool.not_false,reduceIte,Nat.reduceEqDiff];done)))|(apply WF.condF;(focus (simp only [Zg,Zf,Zd,Zm,Bool.not_true,Bool.not_false,reduceIte,Nat.reduceEqDiff];done))))
      repeat (first|(apply Zh;exact rfl)|apply Zb|apply WO.nil|(apply WO.op;(focus (simp only [rQ,Zc,li,lo,reduceIte,Nat.reduceEqDiff,Nat.reduceAdd,beq_self_eq_true,q2];done));simp only [rE,rS,li,lo,reduceIte,Nat.reduceEqDiff,Nat.reduceAdd,Nat.reduceMul,Zi,ZT,Zr,Zz,Zy,Za ZM,Ze Zu ZJ,Ze Wi sz66,Ze Yn Yk,Xf,Xe,cutT,hsv1,Yz und4,we,hix,q1',q2];exact rfl;exact rfl)|(apply WO.unwanted;(focus (simp only [rQ,Zc,li,lo,reduceIte,Nat.reduceEqDiff,Nat.reduceAdd,beq_self_eq_true,q2];done));exact rfl))
      (apply WF.ret; (focus (simp only [Zj, Zd, Zm, Zv, reduceIte, Nat.reduceEqDiff, rs42]; exact rfl)))
      simp
    · repeat (first|(apply Zh;exact rfl)|apply Zb|apply WO.nil|(apply WO.op;(focus (simp only [rQ,Zc,li,lo,reduceIte,Nat.reduceEqDiff,Nat.reduceAdd,beq_self_eq_true,q2];done));simp only [rE,rS,li,lo,reduceIte,Nat.reduceEqDiff,Nat.reduceAdd,Nat.reduceMul,Zi,ZT,Zr,Zz,Zy,Za ZM,Ze Zu ZJ,Ze Wi sz66,Ze Yn Yk,Xf,Xe,cutT,hsv1,Yz und4,we,hix,q1',q2];exact rfl;exact rfl)|(apply WO.unwanted;(focus (simp only [rQ,Zc,li,lo,reduceIte,Nat.reduceEqDiff,Nat.reduceAdd,beq_self_eq_true,q2];done));exact rfl))
      (first|(apply WF.condT;(focus (simp only [Zg,Zf,Zd,Zm,Bool.not_true,Bool.not_false,reduceIte,Nat.reduceEqDiff];done)))|(apply WF.condF;(focus (simp only [Zg,Zf,Zd,Zm,Bool.not_true,Bool.not_false,reduceIte,Nat.reduceEqDiff];done))))
      repeat (first|(apply Zh;exact rfl)|apply Zb|apply WO.nil|(apply WO.op;(focus (simp only [rQ,Zc,li,lo,reduceIte,Nat.reduceEqDiff,Nat.reduceAdd,beq_self_eq_true,q2];done));simp only [rE,rS,li,lo,reduceIte,Nat.reduceEqDiff,Nat.reduceAdd,Nat.reduceMul,Zi,ZT,Zr,Zz,Zy,Za ZM,Ze Zu ZJ,Ze Wi sz66,Ze Yn Yk,Xf,Xe,cutT,hsv1,Yz und4,we,hix,q1',q2];exact rfl;exact rfl)|(apply WO.unwanted;(focus (simp only [rQ,Zc,li,lo,reduceIte,Nat.reduceEqDiff,Nat.reduceAdd,beq_self_eq_true,q2];done));exact rfl))
      (apply WO.call;(focus (simp only [rQ,Zc,li,lo,reduceIte,Nat.reduceEqDiff,Nat.reduceAdd,beq_self_eq_true,q2];done));simp only [rE,rS,li,lo,reduceIte,Nat.reduceEqDiff,Nat.reduceAdd,Nat.reduceMul,Zi,ZT,Zr,Zz,Zy,Za ZM,Ze Zu ZJ,Ze Wi sz66,Ze Yn Yk,Xf,Xe,cutT,hsv1,Yz und4,we,hix,q1',q2,cu83];exact rfl;exact fitsV_c _ _ _ _ _ _ _ _ hvs;rintro _ _ ⟨rfl,rfl⟩;refine ⟨_,rfl,?_⟩)
      repeat (first|(apply Zh;exact rfl)|apply Zb|apply WO.nil|(apply WO.op;(focus (simp only [rQ,Zc,li,lo,reduceIte,Nat.reduceEqDiff,Nat.reduceAdd,beq_self_eq_true,q2];done));simp only [rE,rS,li,lo,reduceIte,Nat.reduceEqDiff,Nat.reduceAdd,Nat.reduceMul,Zi,ZT,Zr,Zz,Zy,Za ZM,Ze Zu ZJ,Ze Wi sz66,Ze Yn Yk,Xf,Xe,cutT,hsv1,Yz und4,we,hix,q1',q2];exact rfl;exact rfl)|(apply WO.unwanted;(focus (simp only [rQ,Zc,li,lo,reduceIte,Nat.reduceEqDiff,Nat.reduceAdd,beq_self_eq_true,q2];done));exact rfl))
      (apply WF.ret; (focus (simp only [Zj, Zd, Zm, Zv, reduceIte, Nat.reduceEqDiff, rs42]; exact rfl)))
      simp
end Go.Ev.C
end
section
set_option linter.unusedVariables false
set_option linter.unusedSimpArgs false
set_option linter.defProp false
set_option linter.all false
namespace Go.Ev.C
open Go.Proofs Go.Fmt Go.RowKit
set_option maxRecDepth 100000
set_option linter.unusedSimpArgs false
variable {L : World → Prop} [YQ Q L]
theorem dig_not {c : Nat} (h : 48 ≤ c) (h' : c ≤ 57) : letters.contains c = false := by
  rw [← Bool.not_eq_true]
  intro hc
  have := letters_mem hc
  omega
theorem scan_digit {f : List Nat} {k e : Nat} (he : e < f.length) (h : 48 ≤ f[e]) (h' : f[e] ≤ 57) : YG f (k + 1) e = YG f k (e + 1) := by
  rw [Xc he (dig_not h h'), if_neg (by omega)]
theorem scan_stop {f : List Nat} {k e : Nat} (he : e < f.length) (h : k = 0 ∨ f[e] < 48 ∨ 57 < f[e]) : YG f k e = if letters.contains f[e] then some (e + 1) else none := by
  cases hc : letters.contains f[e]
  · rw [if_neg (by simp)]
    cases k with
    | zero => exact scanK_zero he hc
    | succ k => rw [Xc he hc, if_pos (by omega)]
  · rw [if_pos rfl]
    exact Y3 he hc
def FmtPost2 (f : List Nat) (H : AH) (w : AV) (H' : AH) : Prop := Up H H' ∧ match parse f with
  | none => w = .tuple [.nilslice, .bool false]
  | some segs => ∃ v, w = .tuple [v, .bool true] ∧ OwnL 9 H H' v (strL (Xw segs))
set_option maxHeartbeats 4000000 in
theorem formatted2_c (H : AH) (f : List Nat) (hf : f.length ≤ 1000000000) : Fn Q L 41 [.str f] H (FmtPost2 f H) := by
  refine Fn.intro (en41 _) ?_
  unfold c41 Tryz.f41
  simp only [Option.getD_some]
  repeat (first|(apply Zh;exact rfl)|apply Zb|apply WO.nil|(apply WO.op;(focus (simp only [rQ,Zc,li,lo,reduceIte,Nat.reduceEqDiff,Nat.reduceAdd,beq_self_eq_true];done));simp only [rE,rS,li,lo,reduceIte,Nat.reduceEqDiff,Nat.reduceAdd,Nat.reduceMul];exact rfl;exact rfl)|(apply WO.unwanted;(focus (simp only [rQ,Zc,li,lo,reduceIte,Nat.reduceEqDiff,Nat.reduceAdd,beq_self_eq_true];done));exact rfl))
  refine YL (fun m t H' => ∃ (p : Nat) (acc : List Seg) (v : AV),Up H H' ∧ p + m = f.length ∧ parse f = (at' f p).map (acc ++ ·) ∧ (Xw acc).length ≤ p ∧ OwnL 9 H H' v (strL (Xw acc)) ∧ t.get 0 = some (.str f) ∧ t.get 4 = some v ∧ t.get 5 = some (.int .i64 (p : Int))) f.length ?_ ?_
  · refine ⟨0, [], .nilslice, Up.refl _, by omega, ?_, Nat.le_refl _, OwnL.nil _ _ _, ?_, ?_, ?_⟩
    · rw [parse_eq]
      cases at' f 0 <;> simp
    · simp [Zd, Zm]
    · simp [Zd, Zm]
    · simp [Zd, Zm]
  rintro m t H' ⟨p, acc, v, hu, hpm, hpar, hcl, hown, ht0, ht4, ht5⟩ ih
  rcases Nat.lt_or_ge p f.length with hp | hp
  rotate_left
  · obtain rfl : p = f.length := by omega
    have hlt : decide ((f.length : Int) < (f.length : Int)) = false := by simp
    repeat (first|(apply Zh;exact rfl)|apply Zb|apply WO.nil|(apply WO.op;(focus (simp only [rQ,Zc,li,lo,reduceIte,Nat.reduceEqDiff,Nat.reduceAdd,beq_self_eq_true,hlt];done));simp only [rE,rS,li,lo,reduceIte,Nat.reduceEqDiff,Nat.reduceAdd,Nat.reduceMul,Zi,ZF,ht0,ht4,ht5,hlt];exact rfl;exact rfl)|(apply WO.unwanted;(focus (simp only [rQ,Zc,li,lo,reduceIte,Nat.reduceEqDiff,Nat.reduceAdd,beq_self_eq_true,hlt];done));exact rfl))
    (first|(apply WF.condT;(focus (simp only [Zg,Zf,Zd,Zm,Bool.not_true,Bool.not_false,reduceIte,Nat.reduceEqDiff,hlt];done)))|(apply WF.condF;(focus (simp only [Zg,Zf,Zd,Zm,Bool.not_true,Bool.not_false,reduceIte,Nat.reduceEqDiff,hlt];done))))
    repeat (first|(apply Zh;exact rfl)|apply Zb|apply WO.nil|(apply WO.op;(focus (simp only [rQ,Zc,li,lo,reduceIte,Nat.reduceEqDiff,Nat.reduceAdd,beq_self_eq_true,hlt];done));simp only [rE,rS,li,lo,reduceIte,Nat.reduceEqDiff,Nat.reduceAdd,Nat.reduceMul,Zi,ZF,ht0,ht4,ht5,hlt];exact rfl;exact rfl)|(apply WO.unwanted;(focus (simp only [rQ,Zc,li,lo,reduceIte,Nat.reduceEqDiff,Nat.reduceAdd,beq_self_eq_true,hlt];done));exact rfl))
    (apply WF.ret; (focus (simp only [Zj, Zd, Zm, Zv, reduceIte, Nat.reduceEqDiff, rs41, ht4]; exact rfl)))
    rw [at_end (Nat.le_refl _)] at hpar
    unfold FmtPost2
    rw [hpar]
    exact ⟨hu, v, rfl, by simpa using hown⟩
  have hlt : decide ((p : Int) < (f.length : Int)) = true := by simp; omega
  have w1 : IntKind.i64.wrap ((p : Int) + 1) = ((p + 1 : Nat) : Int) := by rw [Go.Ev.w64 (by omega) (by omega)]; omega
  have w2 : IntKind.i64.wrap (((p + 1 : Nat) : Int) + 1) = ((p + 2 : Nat) : Int) := by rw [Go.Ev.w64 (by omega) (by omega)]; omega
  repeat (first|(apply Zh;exact rfl)|apply Zb|apply WO.nil|(apply WO.op;(focus (simp only [rQ,Zc,li,lo,reduceIte,Nat.reduceEqDiff,Nat.reduceAdd,beq_self_eq_true,hlt];done));simp only [rE,rS,li,lo,reduceIte,Nat.reduceEqDiff,Nat.reduceAdd,Nat.reduceMul,Zi,ZF,ht0,ht4,ht5,hlt];exact rfl;exact rfl)|(apply WO.unwanted;(focus (simp only [rQ,Zc,li,lo,reduceIte,Nat.reduceEqDiff,Nat.reduceAdd,beq_self_eq_true,hlt];done));exact rfl))
  (first|(apply WF.condT;(focus (simp only [Zg,Zf,Zd,Zm,Bool.not_true,Bool.not_false,reduceIte,Nat.reduceEqDiff,hlt];done)))|(apply WF.condF;(focus (simp only [Zg,Zf,Zd,Zm,Bool.not_true,Bool.not_false,reduceIte,Nat.reduceEqDiff,hlt];done))))
  cases q1 : decide (((f[p] : Nat) : Int) = 37)
  · have hne : f[p] ≠ 37 := by
      have := of_decide_eq_false q1
      omega
    rw [at_lit hp hne, Option.map_map] at hpar
    repeat (first|(apply Zh;exact rfl)|apply Zb|apply WO.nil|(apply WO.op;(focus (simp only [rQ,Zc,li,lo,reduceIte,Nat.reduceEqDiff,Nat.reduceAdd,beq_self_eq_true,hlt,q1];done));simp only [rE,rS,li,lo,reduceIte,Nat.reduceEqDiff,Nat.reduceAdd,Nat.reduceMul,Zi,ZF,ht0,ht4,ht5,hlt,XA hp,q1];exact rfl;exact rfl)|(apply WO.unwanted;(focus (simp only [rQ,Zc,li,lo,reduceIte,Nat.reduceEqDiff,Nat.reduceAdd,beq_self_eq_true,hlt,q1];done));exact rfl))
    (first|(apply WF.condT;(focus (simp only [Zg,Zf,Zd,Zm,Bool.not_true,Bool.not_false,reduceIte,Nat.reduceEqDiff,q1];done)))|(apply WF.condF;(focus (simp only [Zg,Zf,Zd,Zm,Bool.not_true,Bool.not_false,reduceIte,Nat.reduceEqDiff,q1];done))))
    repeat (first|(apply Zh;exact rfl)|apply Zb|apply WO.nil|(apply WO.op;(focus (simp only [rQ,Zc,li,lo,reduceIte,Nat.reduceEqDiff,Nat.reduceAdd,beq_self_eq_true,hlt];done));simp only [rE,rS,li,lo,reduceIte,Nat.reduceEqDiff,Nat.reduceAdd,Nat.reduceMul,Zi,ZF,ht0,ht4,ht5,hlt,w1];exact rfl;exact rfl)|(apply WO.unwanted;(focus (simp only [rQ,Zc,li,lo,reduceIte,Nat.reduceEqDiff,Nat.reduceAdd,beq_self_eq_true,hlt];done));exact rfl))
    refine Z4 ?_
    refine ih (m - 1) _ _ (by omega) ⟨p + 1, acc ++ [.lit f[p]], v, hu, by omega, ?_, ?_, ?_, ?_, ?_, ?_⟩
    · rw [hpar]
      congr 1
      funext x
      simp
    · rw [Yb]; simp [Xw]; omega
    · rw [Yb]; simpa [Xw] using hown
    · simp [Zd, ht0]
    · simp [Zd, ht4]
    · simp [Zd]
  have heq : f[p] = 37 := by
    have := of_decide_eq_true q1
    omega
  repeat (first|(apply Zh;exact rfl)|apply Zb|apply WO.nil|(apply WO.op;(focus (simp only [rQ,Zc,li,lo,reduceIte,Nat.reduceEqDiff,Nat.reduceAdd,beq_self_eq_true,hlt,q1];done));simp only [rE,rS,li,lo,reduceIte,Nat.reduceEqDiff,Nat.reduceAdd,Nat.reduceMul,Zi,ZF,ht0,ht4,ht5,hlt,XA hp,q1];exact rfl;exact rfl)|(apply WO.unwanted;(focus (simp only [rQ,Zc,li,lo,reduceIte,Nat.reduceEqDiff,Nat.reduceAdd,beq_self_eq_true,hlt,q1];done));exact rfl))
  (first|(apply WF.condT;(focus (simp only [Zg,Zf,Zd,Zm,Bool.not_true,Bool.not_false,reduceIte,Nat.reduceEqDiff,q1];done)))|(apply WF.condF;(focus (simp only [Zg,Zf,Zd,Zm,Bool.not_true,Bool.not_false,reduceIte,Nat.reduceEqDiff,q1];done))))
  by_cases h37 : f[p + 1]? = some 37
  · have h1 := (List.getElem?_eq_some_iff.1 h37).1
    have e37 : f[p + 1] = 37 := (List.getElem?_eq_some_iff.1 h37).2
    rw [at_pct hp heq h37, Option.map_map] at hpar
    have q2 : decide (((p + 1 : Nat) : Int) < (f.length : Int)) = true := decide_eq_true (by omega)
    have q3 : decide (((f[p + 1] : Nat) : Int) = 37) = true := decide_eq_true (by omega)
    repeat (first|(apply Zh;exact rfl)|apply Zb|apply WO.nil|(apply WO.op;(focus (simp only [rQ,Zc,li,lo,reduceIte,Nat.reduceEqDiff,Nat.reduceAdd,beq_self_eq_true,q2,q3];done));simp only [rE,rS,li,lo,reduceIte,Nat.reduceEqDiff,Nat.reduceAdd,Nat.reduceMul,Zi,ZF,ht0,ht4,ht5,w1,q2,q3,XA h1];exact rfl;exact rfl)|(apply WO.unwanted;(focus (simp only [rQ,Zc,li,lo,reduceIte,Nat.reduceEqDiff,Nat.reduceAdd,beq_self_eq_true,q2,q3];done));exact rfl))
    (first|(apply WF.condT;(focus (simp only [Zg,Zf,Zd,Zm,Bool.not_true,Bool.not_false,reduceIte,Nat.reduceEqDiff];done)))|(apply WF.condF;(focus (simp only [Zg,Zf,Zd,Zm,Bool.not_true,Bool.not_false,reduceIte,Nat.reduceEqDiff];done))))
    repeat (first|(apply Zh;exact rfl)|apply Zb|apply WO.nil|(apply WO.op;(focus (simp only [rQ,Zc,li,lo,reduceIte,Nat.reduceEqDiff,Nat.reduceAdd,beq_self_eq_true];done));simp only [rE,rS,li,lo,reduceIte,Nat.reduceEqDiff,Nat.reduceAdd,Nat.reduceMul,Zi,ZF,ht0,ht4,ht5,w2];exact rfl;exact rfl)|(apply WO.unwanted;(focus (simp only [rQ,Zc,li,lo,reduceIte,Nat.reduceEqDiff,Nat.reduceAdd,beq_self_eq_true];done));exact rfl))
    refine Z4 ?_
    refine ih (f.length - (p + 2)) _ _ (by omega) ⟨p + 2, acc ++ [.pct], v, hu, by omega, ?_, ?_, ?_, ?_, ?_, ?_⟩
    · rw [hpar]
      congr 1
      funext x
      simp
    · rw [Yb]; simp [Xw]; omega
    · rw [Yb]; simpa [Xw] using hown
    · simp [Zd, ht0]
    · simp [Zd, ht4]
    · simp [Zd]
  rw [at_cv hp heq h37] at hpar
  iterate 12 (first|(apply Zh;exact rfl)|apply Zb|apply WO.nil|(apply WO.op;(focus (simp only [rQ,Zc,li,lo,reduceIte,Nat.reduceEqDiff,Nat.reduceAdd,beq_self_eq_true,hlt];done));simp only [rE,rS,li,lo,reduceIte,Nat.reduceEqDiff,Nat.reduceAdd,Nat.reduceMul,Zi,ZF,ht0,ht4,ht5,hlt,w1];exact rfl;exact rfl)|(apply WO.unwanted;(focus (simp only [rQ,Zc,li,lo,reduceIte,Nat.reduceEqDiff,Nat.reduceAdd,beq_self_eq_true,hlt];done));exact rfl))
  refine WF.seq ?_
  refine WF.cutT (fun t => t.get 0 = some (.str f) ∧ t.get 4 = some v ∧ t.get 5 = some (.int .i64 ((p + 1 : Nat) : Int)) ∧ t.get 6 = some (.int .i64 (p : Int))) ?_ ?_
  rotate_left
  · intro tail
    by_cases h1 : p + 1 < f.length
    · have q2 : decide (((p + 1 : Nat) : Int) < (f.length : Int)) = true := decide_eq_true (by omega)
      have q3 : decide (((f[p + 1] : Nat) : Int) = 37) = false := decide_eq_false (by
        intro e
        apply h37
        rw [List.getElem?_eq_getElem h1]
        congr 1
        omega)
      repeat (first|(apply Zh;exact rfl)|apply Zb|apply WO.nil|(apply WO.op;(focus (simp only [rQ,Zc,li,lo,reduceIte,Nat.reduceEqDiff,Nat.reduceAdd,beq_self_eq_true,q2,q3];done));simp only [rE,rS,li,lo,reduceIte,Nat.reduceEqDiff,Nat.reduceAdd,Nat.reduceMul,Zi,ZF,ht0,ht4,ht5,q2,q3,XA h1];exact rfl;exact rfl)|(apply WO.unwanted;(focus (simp only [rQ,Zc,li,lo,reduceIte,Nat.reduceEqDiff,Nat.reduceAdd,beq_self_eq_true,q2,q3];done));exact rfl))
      (first|(apply WF.condT;(focus (simp only [Zg,Zf,Zd,Zm,Bool.not_true,Bool.not_false,reduceIte,Nat.reduceEqDiff];done)))|(apply WF.condF;(focus (simp only [Zg,Zf,Zd,Zm,Bool.not_true,Bool.not_false,reduceIte,Nat.reduceEqDiff];done))))
      refine WF.skip ?_
      exact tail _ ⟨by simp [Zd, ht0], by simp [Zd, ht4], by simp [Zd], by simp [Zd]⟩
    · have q2 : decide (((p + 1 : Nat) : Int) < (f.length : Int)) = false := decide_eq_false (by omega)
      repeat (first|(apply Zh;exact rfl)|apply Zb|apply WO.nil|(apply WO.op;(focus (simp only [rQ,Zc,li,lo,reduceIte,Nat.reduceEqDiff,Nat.reduceAdd,beq_self_eq_true,q2];done));simp only [rE,rS,li,lo,reduceIte,Nat.reduceEqDiff,Nat.reduceAdd,Nat.reduceMul,Zi,ZF,ht0,ht4,ht5,q2];exact rfl;exact rfl)|(apply WO.unwanted;(focus (simp only [rQ,Zc,li,lo,reduceIte,Nat.reduceEqDiff,Nat.reduceAdd,beq_self_eq_true,q2];done));exact rfl))
      (first|(apply WF.condT;(focus (simp only [Zg,Zf,Zd,Zm,Bool.not_true,Bool.not_false,reduceIte,Nat.reduceEqDiff];done)))|(apply WF.condF;(focus (simp only [Zg,Zf,Zd,Zm,Bool.not_true,Bool.not_false,reduceIte,Nat.reduceEqDiff];done))))
      refine WF.skip ?_
      exact tail _ ⟨by simp [Zd, ht0], by simp [Zd, ht4], by simp [Zd], by simp [Zd]⟩
  clear ht0 ht4 ht5
  rintro t ⟨ht0, ht4, ht5, ht6⟩
  refine WF.seq ?_
  refine WF.cutT (fun t => t.get 0 = some (.str f) ∧ t.get 4 = some v ∧ t.get 5 = some (.int .i64 ((Yh f p : Nat) : Int)) ∧ t.get 6 = some (.int .i64 (p : Int)) ∧ Yh f p ≤ f.length) ?_ ?_
  rotate_left
  · intro tail
    by_cases h1 : p + 1 < f.length
    · have q2 : decide (((p + 1 : Nat) : Int) < (f.length : Int)) = true := decide_eq_true (by omega)
      cases q4 : decide (((f[p + 1] : Nat) : Int) = 45)
      · have hd : Yh f p = p + 1 := by
          unfold Yh
          rw [if_neg]
          rw [List.getElem?_eq_getElem h1]
          have := of_decide_eq_false q4
          intro e
          have := Option.some.inj e
          omega
        repeat (first|(apply Zh;exact rfl)|apply Zb|apply WO.nil|(apply WO.op;(focus (simp only [rQ,Zc,li,lo,reduceIte,Nat.reduceEqDiff,Nat.reduceAdd,beq_self_eq_true,q2,q4];done));simp only [rE,rS,li,lo,reduceIte,Nat.reduceEqDiff,Nat.reduceAdd,Nat.reduceMul,Zi,ZF,ht0,ht4,ht5,q2,q4,XA h1];exact rfl;exact rfl)|(apply WO.unwanted;(focus (simp only [rQ,Zc,li,lo,reduceIte,Nat.reduceEqDiff,Nat.reduceAdd,beq_self_eq_true,q2,q4];done));exact rfl))
        (first|(apply WF.condT;(focus (simp only [Zg,Zf,Zd,Zm,Bool.not_true,Bool.not_false,reduceIte,Nat.reduceEqDiff];done)))|(apply WF.condF;(focus (simp only [Zg,Zf,Zd,Zm,Bool.not_true,Bool.not_false,reduceIte,Nat.reduceEqDiff];done))))
        refine WF.skip ?_
        exact tail _ ⟨by simp [Zd, ht0], by simp [Zd, ht4], by rw [hd]; simp [Zd, ht5], by simp [Zd, ht6], by omega⟩
      · have hd : Yh f p = p + 2 := by
          unfold Yh
          rw [if_pos]
          rw [List.getElem?_eq_getElem h1]
          have := of_decide_eq_true q4
          congr 1
          omega
        repeat (first|(apply Zh;exact rfl)|apply Zb|apply WO.nil|(apply WO.op;(focus (simp only [rQ,Zc,li,lo,reduceIte,Nat.reduceEqDiff,Nat.reduceAdd,beq_self_eq_true,q2,q4];done));simp only [rE,rS,li,lo,reduceIte,Nat.reduceEqDiff,Nat.reduceAdd,Nat.reduceMul,Zi,ZF,ht0,ht4,ht5,q2,q4,XA h1];exact rfl;exact rfl)|(apply WO.unwanted;(focus (simp only [rQ,Zc,li,lo,reduceIte,Nat.reduceEqDiff,Nat.reduceAdd,beq_self_eq_true,q2,q4];done));exact rfl))
        (first|(apply WF.condT;(focus (simp only [Zg,Zf,Zd,Zm,Bool.not_true,Bool.not_false,reduceIte,Nat.reduceEqDiff];done)))|(apply WF.condF;(focus (simp only [Zg,Zf,Zd,Zm,Bool.not_true,Bool.not_false,reduceIte,Nat.reduceEqDiff];done))))
        iterate 5 (first|(apply Zh;exact rfl)|apply Zb|apply WO.nil|(apply WO.op;(focus (simp only [rQ,Zc,li,lo,reduceIte,Nat.reduceEqDiff,Nat.reduceAdd,beq_self_eq_true];done));simp only [rE,rS,li,lo,reduceIte,Nat.reduceEqDiff,Nat.reduceAdd,Nat.reduceMul,Zi,ZF,ht0,ht4,ht5,w2];exact rfl;exact rfl)|(apply WO.unwanted;(focus (simp only [rQ,Zc,li,lo,reduceIte,Nat.reduceEqDiff,Nat.reduceAdd,beq_self_eq_true];done));exact rfl))
        exact tail _ ⟨by simp [Zd, ht0], by simp [Zd, ht4], by rw [hd]; simp [Zd], by simp [Zd, ht6], by omega⟩
    · have q2 : decide (((p + 1 : Nat) : Int) < (f.length : Int)) = false := decide_eq_false (by omega)
      have hd : Yh f p = p + 1 := by
        unfold Yh
        rw [if_neg]
        rw [List.getElem?_eq_none (by omega)]
        simp
      repeat (first|(apply Zh;exact rfl)|apply Zb|apply WO.nil|(apply WO.op;(focus (simp only [rQ,Zc,li,lo,reduceIte,Nat.reduceEqDiff,Nat.reduceAdd,beq_self_eq_true,q2];done));simp only [rE,rS,li,lo,reduceIte,Nat.reduceEqDiff,Nat.reduceAdd,Nat.reduceMul,Zi,ZF,ht0,ht4,ht5,q2];exact rfl;exact rfl)|(apply WO.unwanted;(focus (simp only [rQ,Zc,li,lo,reduceIte,Nat.reduceEqDiff,Nat.reduceAdd,beq_self_eq_true,q2];done));exact rfl))
      (first|(apply WF.condT;(focus (simp only [Zg,Zf,Zd,Zm,Bool.not_true,Bool.not_false,reduceIte,Nat.reduceEqDiff];done)))|(apply WF.condF;(focus (simp only [Zg,Zf,Zd,Zm,Bool.not_true,Bool.not_false,reduceIte,Nat.reduceEqDiff];done))))
      refine WF.skip ?_
      exact tail _ ⟨by simp [Zd, ht0], by simp [Zd, ht4], by rw [hd]; simp [Zd, ht5], by simp [Zd, ht6], by omega⟩
  clear ht0 ht4 ht5 ht6
  rintro t ⟨ht0, ht4, ht5, ht6, hdl⟩
  repeat (first|(apply Zh;exact rfl)|apply Zb|apply WO.nil|(apply WO.op;(focus (simp only [rQ,Zc,li,lo,reduceIte,Nat.reduceEqDiff,Nat.reduceAdd,beq_self_eq_true];done));simp only [rE,rS,li,lo,reduceIte,Nat.reduceEqDiff,Nat.reduceAdd,Nat.reduceMul,Zi,ZF,ht0,ht4,ht5,ht6];exact rfl;exact rfl)|(apply WO.unwanted;(focus (simp only [rQ,Zc,li,lo,reduceIte,Nat.reduceEqDiff,Nat.reduceAdd,beq_self_eq_true];done));exact rfl))
  refine YL (fun m t H2 => ∃ (e n : Nat),H2 = H' ∧ n + m = 2 ∧ e ≤ f.length ∧ p < e ∧ YG f (2 - n) e = YG f 2 (Yh f p) ∧ t.get 0 = some (.str f) ∧ t.get 4 = some v ∧ t.get 5 = some (.int .i64 (e : Int)) ∧ t.get 6 = some (.int .i64 (p : Int)) ∧ t.get 7 = some (.int .i64 (n : Int))) 2 ?_ ?_
  · refine ⟨Yh f p, 0, rfl, by omega, hdl, Wh f p, rfl, ?_, ?_, ?_, ?_, ?_⟩
    · simp [Zd, ht0]
    · simp [Zd, ht4]
    · simp [Zd, ht5]
    · simp [Zd, ht6]
    · simp [Zd]
  clear ht0 ht4 ht5 ht6
  rintro m2 t H2 ⟨e, n, hH, hnm, hel, hpe, hsc, ht0, ht4, ht5, ht6, ht7⟩ ih2
  subst hH
  have we : IntKind.i64.wrap ((e : Int) + 1) = ((e + 1 : Nat) : Int) := by rw [Go.Ev.w64 (by omega) (by omega)]; omega
  have wn : IntKind.i64.wrap ((n : Int) + 1) = ((n + 1 : Nat) : Int) := by rw [Go.Ev.w64 (by omega) (by omega)]; omega
  by_cases hn : n < 2
  rotate_left
  · have r1 : decide ((n : Int) < 2) = false := decide_eq_false (by omega)
    have p1 := r1
    repeat (first|(apply Zh;exact rfl)|apply Zb|apply WO.nil|(apply WO.op;(focus (simp only [rQ,Zc,li,lo,reduceIte,Nat.reduceEqDiff,Nat.reduceAdd,beq_self_eq_true,p1];done));simp only [rE,rS,li,lo,reduceIte,Nat.reduceEqDiff,Nat.reduceAdd,Nat.reduceMul,Zi,ZF,ht0,ht4,ht5,ht6,ht7,p1];exact rfl;exact rfl)|(apply WO.unwanted;(focus (simp only [rQ,Zc,li,lo,reduceIte,Nat.reduceEqDiff,Nat.reduceAdd,beq_self_eq_true,p1];done));exact rfl))
    (first|(apply WF.condT;(focus (simp only [Zg,Zf,Zd,Zm,Bool.not_true,Bool.not_false,reduceIte,Nat.reduceEqDiff];done)))|(apply WF.condF;(focus (simp only [Zg,Zf,Zd,Zm,Bool.not_true,Bool.not_false,reduceIte,Nat.reduceEqDiff];done))))
    by_cases he : e < f.length
    · have q9 : decide ((f.length : Int) ≤ (e : Int)) = false := decide_eq_false (by omega)
      have hst : 2 - n = 0 ∨ f[e] < 48 ∨ 57 < f[e] := .inl (by omega)
      have hix := XA he
      have hone := fun HH => one_c (L := L) HH f[e] letters (by decide)
      repeat (first|(apply Zh;exact rfl)|apply Zb|apply WO.nil|(apply WO.op;(focus (simp only [rQ,Zc,li,lo,reduceIte,Nat.reduceEqDiff,Nat.reduceAdd,beq_self_eq_true,q9];done));simp only [rE,rS,li,lo,reduceIte,Nat.reduceEqDiff,Nat.reduceAdd,Nat.reduceMul,Zi,ZF,ht0,ht4,ht5,ht6,ht7,q9,XA he];exact rfl;exact rfl)|(apply WO.unwanted;(focus (simp only [rQ,Zc,li,lo,reduceIte,Nat.reduceEqDiff,Nat.reduceAdd,beq_self_eq_true,q9];done));exact rfl))
      (apply WO.call;(focus (simp only [rQ,Zc,li,lo,reduceIte,Nat.reduceEqDiff,Nat.reduceAdd,beq_self_eq_true,q9];done));simp only [rE,rS,li,lo,reduceIte,Nat.reduceEqDiff,Nat.reduceAdd,Nat.reduceMul,Zi,ZF,ht0,ht4,ht5,ht6,ht7,q9,hix,cu81];exact rfl;exact hone _;rintro _ _ ⟨rfl,rfl⟩;refine ⟨_,rfl,?_⟩)
      cases hl : letters.contains f[e]
      · repeat (first|(apply Zh;exact rfl)|apply Zb|apply WO.nil|(apply WO.op;(focus (simp only [rQ,Zc,li,lo,reduceIte,Nat.reduceEqDiff,Nat.reduceAdd,beq_self_eq_true];done));simp only [rE,rS,li,lo,reduceIte,Nat.reduceEqDiff,Nat.reduceAdd,Nat.reduceMul,Zi,ZF,ht0,ht4,ht5,ht6,ht7,hl];exact rfl;exact rfl)|(apply WO.unwanted;(focus (simp only [rQ,Zc,li,lo,reduceIte,Nat.reduceEqDiff,Nat.reduceAdd,beq_self_eq_true];done));exact rfl))
        (first|(apply WF.condT;(focus (simp only [Zg,Zf,Zd,Zm,Bool.not_true,Bool.not_false,reduceIte,Nat.reduceEqDiff];done)))|(apply WF.condF;(focus (simp only [Zg,Zf,Zd,Zm,Bool.not_true,Bool.not_false,reduceIte,Nat.reduceEqDiff];done))))
        repeat (first|(apply Zh;exact rfl)|apply Zb|apply WO.nil|(apply WO.op;(focus (simp only [rQ,Zc,li,lo,reduceIte,Nat.reduceEqDiff,Nat.reduceAdd,beq_self_eq_true];done));simp only [rE,rS,li,lo,reduceIte,Nat.reduceEqDiff,Nat.reduceAdd,Nat.reduceMul,Zi,ZF,ht0,ht4,ht5,ht6,ht7];exact rfl;exact rfl)|(apply WO.unwanted;(focus (simp only [rQ,Zc,li,lo,reduceIte,Nat.reduceEqDiff,Nat.reduceAdd,beq_self_eq_true];done));exact rfl))
        (apply WF.ret; (focus (simp only [Zj, Zd, Zm, Zv, reduceIte, Nat.reduceEqDiff, rs41]; exact rfl)))
        unfold FmtPost2
        rw [hpar, ← hsc, scan_stop he hst, hl]
        exact ⟨hu, rfl⟩
      · have hse : YG f 2 (Yh f p) = some (e + 1) := by rw [← hsc, scan_stop he hst, hl]; rfl
        rw [hse] at hpar
        dsimp only at hpar
        rw [Option.map_map] at hpar
        have hsl := slS_both (s := f) (a := p) (b := e + 1) (by omega) (by omega)
        obtain ⟨v', H3, hp3, hown3, hu3⟩ := hown.push app74 hu (.str ((f.drop p).take (e + 1 - p))) rfl rfl (strL_one _) (strL_hole _) (by simp [strL]; omega)
        repeat (first|(apply Zh;exact rfl)|apply Zb|apply WO.nil|(apply WO.op;(focus (simp only [rQ,Zc,li,lo,reduceIte,Nat.reduceEqDiff,Nat.reduceAdd,beq_self_eq_true];done));simp only [rE,rS,li,lo,reduceIte,Nat.reduceEqDiff,Nat.reduceAdd,Nat.reduceMul,Zi,ZF,ht0,ht4,ht5,ht6,ht7,hl];exact rfl;exact rfl)|(apply WO.unwanted;(focus (simp only [rQ,Zc,li,lo,reduceIte,Nat.reduceEqDiff,Nat.reduceAdd,beq_self_eq_true];done));exact rfl))
        (first|(apply WF.condT;(focus (simp only [Zg,Zf,Zd,Zm,Bool.not_true,Bool.not_false,reduceIte,Nat.reduceEqDiff];done)))|(apply WF.condF;(focus (simp only [Zg,Zf,Zd,Zm,Bool.not_true,Bool.not_false,reduceIte,Nat.reduceEqDiff];done))))
        repeat (first|(apply Zh;exact rfl)|apply Zb|apply WO.nil|(apply WO.op;(focus (simp only [rQ,Zc,li,lo,reduceIte,Nat.reduceEqDiff,Nat.reduceAdd,beq_self_eq_true];done));simp only [rE,rS,li,lo,reduceIte,Nat.reduceEqDiff,Nat.reduceAdd,Nat.reduceMul,Zi,ZF,ht0,ht4,ht5,ht6,ht7,we,hsl,bs74,mkS1_str,hp3];exact rfl;exact rfl)|(apply WO.unwanted;(focus (simp only [rQ,Zc,li,lo,reduceIte,Nat.reduceEqDiff,Nat.reduceAdd,beq_self_eq_true];done));exact rfl))
        refine Z4 ?_
        refine ih (f.length - (e + 1)) _ _ (by omega) ⟨e + 1, acc ++ [.cv ((f.drop p).take (e + 1 - p))], v', hu3, by omega, ?_, ?_, ?_, ?_, ?_, ?_⟩
        · rw [hpar]
          congr 1
          funext x
          simp
        · rw [Yb]; simp [Xw]; omega
        · rw [Yb]; simpa [Xw, strL] using hown3
        · simp [Zd, ht0]
        · simp [Zd]
        · simp [Zd]
    · have q9 : decide ((f.length : Int) ≤ (e : Int)) = true := decide_eq_true (by omega)
      repeat (first|(apply Zh;exact rfl)|apply Zb|apply WO.nil|(apply WO.op;(focus (simp only [rQ,Zc,li,lo,reduceIte,Nat.reduceEqDiff,Nat.reduceAdd,beq_self_eq_true,q9];done));simp only [rE,rS,li,lo,reduceIte,Nat.reduceEqDiff,Nat.reduceAdd,Nat.reduceMul,Zi,ZF,ht0,ht4,ht5,ht6,ht7,q9];exact rfl;exact rfl)|(apply WO.unwanted;(focus (simp only [rQ,Zc,li,lo,reduceIte,Nat.reduceEqDiff,Nat.reduceAdd,beq_self_eq_true,q9];done));exact rfl))
      (first|(apply WF.condT;(focus (simp only [Zg,Zf,Zd,Zm,Bool.not_true,Bool.not_false,reduceIte,Nat.reduceEqDiff];done)))|(apply WF.condF;(focus (simp only [Zg,Zf,Zd,Zm,Bool.not_true,Bool.not_false,reduceIte,Nat.reduceEqDiff];done))))
      repeat (first|(apply Zh;exact rfl)|apply Zb|apply WO.nil|(apply WO.op;(focus (simp only [rQ,Zc,li,lo,reduceIte,Nat.reduceEqDiff,Nat.reduceAdd,beq_self_eq_true];done));simp only [rE,rS,li,lo,reduceIte,Nat.reduceEqDiff,Nat.reduceAdd,Nat.reduceMul,Zi,ZF,ht0,ht4,ht5,ht6,ht7];exact rfl;exact rfl)|(apply WO.unwanted;(focus (simp only [rQ,Zc,li,lo,reduceIte,Nat.reduceEqDiff,Nat.reduceAdd,beq_self_eq_true];done));exact rfl))
      (apply WF.ret; (focus (simp only [Zj, Zd, Zm, Zv, reduceIte, Nat.reduceEqDiff, rs41]; exact rfl)))
      unfold FmtPost2
      rw [hpar, ← hsc, scanK_none (by omega)]
      exact ⟨hu, rfl⟩
  have p1 : decide ((n : Int) < 2) = true := decide_eq_true (by omega)
  by_cases he : e < f.length
  rotate_left
  · have p2 : decide ((e : Int) < (f.length : Int)) = false := decide_eq_false (by omega)
    repeat (first|(apply Zh;exact rfl)|apply Zb|apply WO.nil|(apply WO.op;(focus (simp only [rQ,Zc,li,lo,reduceIte,Nat.reduceEqDiff,Nat.reduceAdd,beq_self_eq_true,p1,p2];done));simp only [rE,rS,li,lo,reduceIte,Nat.reduceEqDiff,Nat.reduceAdd,Nat.reduceMul,Zi,ZF,ht0,ht4,ht5,ht6,ht7,p1,p2];exact rfl;exact rfl)|(apply WO.unwanted;(focus (simp only [rQ,Zc,li,lo,reduceIte,Nat.reduceEqDiff,Nat.reduceAdd,beq_self_eq_true,p1,p2];done));exact rfl))
    (first|(apply WF.condT;(focus (simp only [Zg,Zf,Zd,Zm,Bool.not_true,Bool.not_false,reduceIte,Nat.reduceEqDiff];done)))|(apply WF.condF;(focus (simp only [Zg,Zf,Zd,Zm,Bool.not_true,Bool.not_false,reduceIte,Nat.reduceEqDiff];done))))
    have q9 : decide ((f.length : Int) ≤ (e : Int)) = true := decide_eq_true (by omega)
    repeat (first|(apply Zh;exact rfl)|apply Zb|apply WO.nil|(apply WO.op;(focus (simp only [rQ,Zc,li,lo,reduceIte,Nat.reduceEqDiff,Nat.reduceAdd,beq_self_eq_true,q9];done));simp only [rE,rS,li,lo,reduceIte,Nat.reduceEqDiff,Nat.reduceAdd,Nat.reduceMul,Zi,ZF,ht0,ht4,ht5,ht6,ht7,q9];exact rfl;exact rfl)|(apply WO.unwanted;(focus (simp only [rQ,Zc,li,lo,reduceIte,Nat.reduceEqDiff,Nat.reduceAdd,beq_self_eq_true,q9];done));exact rfl))
    (first|(apply WF.condT;(focus (simp only [Zg,Zf,Zd,Zm,Bool.not_true,Bool.not_false,reduceIte,Nat.reduceEqDiff];done)))|(apply WF.condF;(focus (simp only [Zg,Zf,Zd,Zm,Bool.not_true,Bool.not_false,reduceIte,Nat.reduceEqDiff];done))))
    repeat (first|(apply Zh;exact rfl)|apply Zb|apply WO.nil|(apply WO.op;(focus (simp only [rQ,Zc,li,lo,reduceIte,Nat.reduceEqDiff,Nat.reduceAdd,beq_self_eq_true];done));simp only [rE,rS,li,lo,reduceIte,Nat.reduceEqDiff,Nat.reduceAdd,Nat.reduceMul,Zi,ZF,ht0,ht4,ht5,ht6,ht7];exact rfl;exact rfl)|(apply WO.unwanted;(focus (simp only [rQ,Zc,li,lo,reduceIte,Nat.reduceEqDiff,Nat.reduceAdd,beq_self_eq_true];done));exact rfl))
    (apply WF.ret; (focus (simp only [Zj, Zd, Zm, Zv, reduceIte, Nat.reduceEqDiff, rs41]; exact rfl)))
    unfold FmtPost2
    rw [hpar, ← hsc, scanK_none (by omega)]
    exact ⟨hu, rfl⟩
  have p2 : decide ((e : Int) < (f.length : Int)) = true := decide_eq_true (by omega)
  have q9 : decide ((f.length : Int) ≤ (e : Int)) = false := decide_eq_false (by omega)
  by_cases hc1 : 48 ≤ f[e]
  rotate_left
  · have p3 : decide ((48 : Int) ≤ ((f[e] : Nat) : Int)) = false := decide_eq_false (by omega)
    have hst : 2 - n = 0 ∨ f[e] < 48 ∨ 57 < f[e] := .inr (.inl (by omega))
    repeat (first|(apply Zh;exact rfl)|apply Zb|apply WO.nil|(apply WO.op;(focus (simp only [rQ,Zc,li,lo,reduceIte,Nat.reduceEqDiff,Nat.reduceAdd,beq_self_eq_true,p1,p2,p3];done));simp only [rE,rS,li,lo,reduceIte,Nat.reduceEqDiff,Nat.reduceAdd,Nat.reduceMul,Zi,ZF,ht0,ht4,ht5,ht6,ht7,p1,p2,p3,XA he];exact rfl;exact rfl)|(apply WO.unwanted;(focus (simp only [rQ,Zc,li,lo,reduceIte,Nat.reduceEqDiff,Nat.reduceAdd,beq_self_eq_true,p1,p2,p3];done));exact rfl))
    (first|(apply WF.condT;(focus (simp only [Zg,Zf,Zd,Zm,Bool.not_true,Bool.not_false,reduceIte,Nat.reduceEqDiff];done)))|(apply WF.condF;(focus (simp only [Zg,Zf,Zd,Zm,Bool.not_true,Bool.not_false,reduceIte,Nat.reduceEqDiff];done))))
    have hix := XA he
    have hone := fun HH => one_c (L := L) HH f[e] letters (by decide)
    repeat (first|(apply Zh;exact rfl)|apply Zb|apply WO.nil|(apply WO.op;(focus (simp only [rQ,Zc,li,lo,reduceIte,Nat.reduceEqDiff,Nat.reduceAdd,beq_self_eq_true,q9];done));simp only [rE,rS,li,lo,reduceIte,Nat.reduceEqDiff,Nat.reduceAdd,Nat.reduceMul,Zi,ZF,ht0,ht4,ht5,ht6,ht7,q9,XA he];exact rfl;exact rfl)|(apply WO.unwanted;(focus (simp only [rQ,Zc,li,lo,reduceIte,Nat.reduceEqDiff,Nat.reduceAdd,beq_self_eq_true,q9];done));exact rfl))
    (apply WO.call;(focus (simp only [rQ,Zc,li,lo,reduceIte,Nat.reduceEqDiff,Nat.reduceAdd,beq_self_eq_true,q9];done));simp only [rE,rS,li,lo,reduceIte,Nat.reduceEqDiff,Nat.reduceAdd,Nat.reduceMul,Zi,ZF,ht0,ht4,ht5,ht6,ht7,q9,hix,cu81];exact rfl;exact hone _;rintro _ _ ⟨rfl,rfl⟩;refine ⟨_,rfl,?_⟩)
    cases hl : letters.contains f[e]
    · repeat (first|(apply Zh;exact rfl)|apply Zb|apply WO.nil|(apply WO.op;(focus (simp only [rQ,Zc,li,lo,reduceIte,Nat.reduceEqDiff,Nat.reduceAdd,beq_self_eq_true];done));simp only [rE,rS,li,lo,reduceIte,Nat.reduceEqDiff,Nat.reduceAdd,Nat.reduceMul,Zi,ZF,ht0,ht4,ht5,ht6,ht7,hl];exact rfl;exact rfl)|(apply WO.unwanted;(focus (simp only [rQ,Zc,li,lo,reduceIte,Nat.reduceEqDiff,Nat.reduceAdd,beq_self_eq_true];done));exact rfl))
      (first|(apply WF.condT;(focus (simp only [Zg,Zf,Zd,Zm,Bool.not_true,Bool.not_false,reduceIte,Nat.reduceEqDiff];done)))|(apply WF.condF;(focus (simp only [Zg,Zf,Zd,Zm,Bool.not_true,Bool.not_false,reduceIte,Nat.reduceEqDiff];done))))
      repeat (first|(apply Zh;exact rfl)|apply Zb|apply WO.nil|(apply WO.op;(focus (simp only [rQ,Zc,li,lo,reduceIte,Nat.reduceEqDiff,Nat.reduceAdd,beq_self_eq_true];done));simp only [rE,rS,li,lo,reduceIte,Nat.reduceEqDiff,Nat.reduceAdd,Nat.reduceMul,Zi,ZF,ht0,ht4,ht5,ht6,ht7];exact rfl;exact rfl)|(apply WO.unwanted;(focus (simp only [rQ,Zc,li,lo,reduceIte,Nat.reduceEqDiff,Nat.reduceAdd,beq_self_eq_true];done));exact rfl))
      (apply WF.ret; (focus (simp only [Zj, Zd, Zm, Zv, reduceIte, Nat.reduceEqDiff, rs41]; exact rfl)))
      unfold FmtPost2
      rw [hpar, ← hsc, scan_stop he hst, hl]
      exact ⟨hu, rfl⟩
    · have hse : YG f 2 (Yh f p) = some (e + 1) := by rw [← hsc, scan_stop he hst, hl]; rfl
      rw [hse] at hpar
      dsimp only at hpar
      rw [Option.map_map] at hpar
      have hsl := slS_both (s := f) (a := p) (b := e + 1) (by omega) (by omega)
      obtain ⟨v', H3, hp3, hown3, hu3⟩ := hown.push app74 hu (.str ((f.drop p).take (e + 1 - p))) rfl rfl (strL_one _) (strL_hole _) (by simp [strL]; omega)
      repeat (first|(apply Zh;exact rfl)|apply Zb|apply WO.nil|(apply WO.op;(focus (simp only [rQ,Zc,li,lo,reduceIte,Nat.reduceEqDiff,Nat.reduceAdd,beq_self_eq_true];done));simp only [rE,rS,li,lo,reduceIte,Nat.reduceEqDiff,Nat.reduceAdd,Nat.reduceMul,Zi,ZF,ht0,ht4,ht5,ht6,ht7,hl];exact rfl;exact rfl)|(apply WO.unwanted;(focus (simp only [rQ,Zc,li,lo,reduceIte,Nat.reduceEqDiff,Nat.reduceAdd,beq_self_eq_true];done));exact rfl))
      (first|(apply WF.condT;(focus (simp only [Zg,Zf,Zd,Zm,Bool.not_true,Bool.not_false,reduceIte,Nat.reduceEqDiff];done)))|(apply WF.condF;(focus (simp only [Zg,Zf,Zd,Zm,Bool.not_true,Bool.not_false,reduceIte,Nat.reduceEqDiff];done))))
      repeat (first|(apply Zh;exact rfl)|apply Zb|apply WO.nil|(apply WO.op;(focus (simp only [rQ,Zc,li,lo,reduceIte,Nat.reduceEqDiff,Nat.reduceAdd,beq_self_eq_true];done));simp only [rE,rS,li,lo,reduceIte,Nat.reduceEqDiff,Nat.reduceAdd,Nat.reduceMul,Zi,ZF,ht0,ht4,ht5,ht6,ht7,we,hsl,bs74,mkS1_str,hp3];exact rfl;exact rfl)|(apply WO.unwanted;(focus (simp only [rQ,Zc,li,lo,reduceIte,Nat.reduceEqDiff,Nat.reduceAdd,beq_self_eq_true];done));exact rfl))
      refine Z4 ?_
      refine ih (f.length - (e + 1)) _ _ (by omega) ⟨e + 1, acc ++ [.cv ((f.drop p).take (e + 1 - p))], v', hu3, by omega, ?_, ?_, ?_, ?_, ?_, ?_⟩
      · rw [hpar]
        congr 1
        funext x
        simp
      · rw [Yb]; simp [Xw]; omega
      · rw [Yb]; simpa [Xw, strL] using hown3
      · simp [Zd, ht0]
      · simp [Zd]
      · simp [Zd]
  have p3 : decide ((48 : Int) ≤ ((f[e] : Nat) : Int)) = true := decide_eq_true (by omega)
  by_cases hc2 : f[e] ≤ 57
  rotate_left
  · have p4 : decide (((f[e] : Nat) : Int) ≤ 57) = false := decide_eq_false (by omega)
    have hst : 2 - n = 0 ∨ f[e] < 48 ∨ 57 < f[e] := .inr (.inr (by omega))
    repeat (first|(apply Zh;exact rfl)|apply Zb|apply WO.nil|(apply WO.op;(focus (simp only [rQ,Zc,li,lo,reduceIte,Nat.reduceEqDiff,Nat.reduceAdd,beq_self_eq_true,p1,p2,p3,p4];done));simp only [rE,rS,li,lo,reduceIte,Nat.reduceEqDiff,Nat.reduceAdd,Nat.reduceMul,Zi,ZF,ht0,ht4,ht5,ht6,ht7,p1,p2,p3,p4,XA he];exact rfl;exact rfl)|(apply WO.unwanted;(focus (simp only [rQ,Zc,li,lo,reduceIte,Nat.reduceEqDiff,Nat.reduceAdd,beq_self_eq_true,p1,p2,p3,p4];done));exact rfl))
    (first|(apply WF.condT;(focus (simp only [Zg,Zf,Zd,Zm,Bool.not_true,Bool.not_false,reduceIte,Nat.reduceEqDiff];done)))|(apply WF.condF;(focus (simp only [Zg,Zf,Zd,Zm,Bool.not_true,Bool.not_false,reduceIte,Nat.reduceEqDiff];done))))
    have hix := XA he
    have hone := fun HH => one_c (L := L) HH f[e] letters (by decide)
    repeat (first|(apply Zh;exact rfl)|apply Zb|apply WO.nil|(apply WO.op;(focus (simp only [rQ,Zc,li,lo,reduceIte,Nat.reduceEqDiff,Nat.reduceAdd,beq_self_eq_true,q9];done));simp only [rE,rS,li,lo,reduceIte,Nat.reduceEqDiff,Nat.reduceAdd,Nat.reduceMul,Zi,ZF,ht0,ht4,ht5,ht6,ht7,q9,XA he];exact rfl;exact rfl)|(apply WO.unwanted;(focus (simp only [rQ,Zc,li,lo,reduceIte,Nat.reduceEqDiff,Nat.reduceAdd,beq_self_eq_true,q9];done));exact rfl))
    (apply WO.call;(focus (simp only [rQ,Zc,li,lo,reduceIte,Nat.reduceEqDiff,Nat.reduceAdd,beq_self_eq_true,q9];done));simp only [rE,rS,li,lo,reduceIte,Nat.reduceEqDiff,Nat.reduceAdd,Nat.reduceMul,Zi,ZF,ht0,ht4,ht5,ht6,ht7,q9,hix,cu81];exact rfl;exact hone _;rintro _ _ ⟨rfl,rfl⟩;refine ⟨_,rfl,?_⟩)
    cases hl : letters.contains f[e]
    · repeat (first|(apply Zh;exact rfl)|apply Zb|apply WO.nil|(apply WO.op;(focus (simp only [rQ,Zc,li,lo,reduceIte,Nat.reduceEqDiff,Nat.reduceAdd,beq_self_eq_true];done));simp only [rE,rS,li,lo,reduceIte,Nat.reduceEqDiff,Nat.reduceAdd,Nat.reduceMul,Zi,ZF,ht0,ht4,ht5,ht6,ht7,hl];exact rfl;exact rfl)|(apply WO.unwanted;(focus (simp only [rQ,Zc,li,lo,reduceIte,Nat.reduceEqDiff,Nat.reduceAdd,beq_self_eq_true];done));exact rfl))
      (first|(apply WF.condT;(focus (simp only [Zg,Zf,Zd,Zm,Bool.not_true,Bool.not_false,reduceIte,Nat.reduceEqDiff];done)))|(apply WF.condF;(focus (simp only [Zg,Zf,Zd,Zm,Bool.not_true,Bool.not_false,reduceIte,Nat.reduceEqDiff];done))))
      repeat (first|(apply Zh;exact rfl)|apply Zb|apply WO.nil|(apply WO.op;(focus (simp only [rQ,Zc,li,lo,reduceIte,Nat.reduceEqDiff,Nat.reduceAdd,beq_self_eq_true];done));simp only [rE,rS,li,lo,reduceIte,Nat.reduceEqDiff,Nat.reduceAdd,Nat.reduceMul,Zi,ZF,ht0,ht4,ht5,ht6,ht7];exact rfl;exact rfl)|(apply WO.unwanted;(focus (simp only [rQ,Zc,li,lo,reduceIte,Nat.reduceEqDiff,Nat.reduceAdd,beq_self_eq_true];done));exact rfl))
      (apply WF.ret; (focus (simp only [Zj, Zd, Zm, Zv, reduceIte, Nat.reduceEqDiff, rs41]; exact rfl)))
      unfold FmtPost2
      rw [hpar, ← hsc, scan_stop he hst, hl]
      exact ⟨hu, rfl⟩
    · have hse : YG f 2 (Yh f p) = some (e + 1) := by rw [← hsc, scan_stop he hst, hl]; rfl
      rw [hse] at hpar
      dsimp only at hpar
      rw [Option.map_map] at hpar
      have hsl := slS_both (s := f) (a := p) (b := e + 1) (by omega) (by omega)
      obtain ⟨v', H3, hp3, hown3, hu3⟩ := hown.push app74 hu (.str ((f.drop p).take (e + 1 - p))) rfl rfl (strL_one _) (strL_hole _) (by simp [strL]; omega)
      repeat (first|(apply Zh;exact rfl)|apply Zb|apply WO.nil|(apply WO.op;(focus (simp only [rQ,Zc,li,lo,reduceIte,Nat.reduceEqDiff,Nat.reduceAdd,beq_self_eq_true];done));simp only [rE,rS,li,lo,reduceIte,Nat.reduceEqDiff,Nat.reduceAdd,Nat.reduceMul,Zi,ZF,ht0,ht4,ht5,ht6,ht7,hl];exact rfl;exact rfl)|(apply WO.unwanted;(focus (simp only [rQ,Zc,li,lo,reduceIte,Nat.reduceEqDiff,Nat.reduceAdd,beq_self_eq_true];done));exact rfl))
      (first|(apply WF.condT;(focus (simp only [Zg,Zf,Zd,Zm,Bool.not_true,Bool.not_false,reduceIte,Nat.reduceEqDiff];done)))|(apply WF.condF;(focus (simp only [Zg,Zf,Zd,Zm,Bool.not_true,Bool.not_false,reduceIte,Nat.reduceEqDiff];done))))
      repeat (first|(apply Zh;exact rfl)|apply Zb|apply WO.nil|(apply WO.op;(focus (simp only [rQ,Zc,li,lo,reduceIte,Nat.reduceEqDiff,Nat.reduceAdd,beq_self_eq_true];done));simp only [rE,rS,li,lo,reduceIte,Nat.reduceEqDiff,Nat.reduceAdd,Nat.reduceMul,Zi,ZF,ht0,ht4,ht5,ht6,ht7,we,hsl,bs74,mkS1_str,hp3];exact rfl;exact rfl)|(apply WO.unwanted;(focus (simp only [rQ,Zc,li,lo,reduceIte,Nat.reduceEqDiff,Nat.reduceAdd,beq_self_eq_true];done));exact rfl))
      refine Z4 ?_
      refine ih (f.length - (e + 1)) _ _ (by omega) ⟨e + 1, acc ++ [.cv ((f.drop p).take (e + 1 - p))], v', hu3, by omega, ?_, ?_, ?_, ?_, ?_, ?_⟩
      · rw [hpar]
        congr 1
        funext x
        simp
      · rw [Yb]; simp [Xw]; omega
      · rw [Yb]; simpa [Xw, strL] using hown3
      · simp [Zd, ht0]
      · simp [Zd]
      · simp [Zd]
  have p4 : decide (((f[e] : Nat) : Int) ≤ 57) = true := decide_eq_true (by omega)
  repeat (first|(apply Zh;exact rfl)|apply Zb|apply WO.nil|(apply WO.op;(focus (simp only [rQ,Zc,li,lo,reduceIte,Nat.reduceEqDiff,Nat.reduceAdd,beq_self_eq_true,p1,p2,p3,p4];done));simp only [rE,rS,li,lo,reduceIte,Nat.reduceEqDiff,Nat.reduceAdd,Nat.reduceMul,Zi,ZF,ht0,ht4,ht5,ht6,ht7,p1,p2,p3,p4,XA he];exact rfl;exact rfl)|(apply WO.unwanted;(focus (simp only [rQ,Zc,li,lo,reduceIte,Nat.reduceEqDiff,Nat.reduceAdd,beq_self_eq_true,p1,p2,p3,p4];done));exact rfl))
  (first|(apply WF.condT;(focus (simp only [Zg,Zf,Zd,Zm,Bool.not_true,Bool.not_false,reduceIte,Nat.reduceEqDiff];done)))|(apply WF.condF;(focus (simp only [Zg,Zf,Zd,Zm,Bool.not_true,Bool.not_false,reduceIte,Nat.reduceEqDiff];done))))
  repeat (first|(apply Zh;exact rfl)|apply Zb|apply WO.nil|(apply WO.op;(focus (simp only [rQ,Zc,li,lo,reduceIte,Nat.reduceEqDiff,Nat.reduceAdd,beq_self_eq_true];done));simp only [rE,rS,li,lo,reduceIte,Nat.reduceEqDiff,Nat.reduceAdd,Nat.reduceMul,Zi,ZF,ht0,ht4,ht5,ht6,ht7,we,wn];exact rfl;exact rfl)|(apply WO.unwanted;(focus (simp only [rQ,Zc,li,lo,reduceIte,Nat.reduceEqDiff,Nat.reduceAdd,beq_self_eq_true];done));exact rfl))
  refine Z4 ?_
  refine ih2 (m2 - 1) _ _ (by omega) ⟨e + 1, n + 1, rfl, by omega, by omega, by omega, ?_, ?_, ?_, ?_, ?_, ?_⟩
  · rw [← hsc, show 2 - n = (2 - (n + 1)) + 1 from by omega, scan_digit he hc1 hc2]
  · simp [Zd, ht0]
  · simp [Zd, ht4]
  · simp [Zd]
  · simp [Zd, ht6]
  · simp [Zd]
end Go.Ev.C
end
