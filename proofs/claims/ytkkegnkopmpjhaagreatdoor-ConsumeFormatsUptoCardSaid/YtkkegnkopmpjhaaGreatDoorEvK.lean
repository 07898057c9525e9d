/- Contracts: a conversion's text. -/
import Derived.Test.YtkkegnkopmpjhaaGreatDoorEvI
section
set_option linter.unusedVariables false
set_option linter.unusedSimpArgs false
set_option linter.defProp false
set_option linter.all false
namespace Go.Ev.C
open Go.Proofs Go.Fmt Go.RowKit
set_option maxRecDepth 100000
set_option linter.unusedSimpArgs false
noncomputable def repOk (n : Nat) : Bool := match X5 Q 3000 123 [.str [32], .int .i64 (n : Int)] ⟨h0, 64⟩ with
  | some (.str s) => s == List.replicate n 32
  | _ => false
theorem rep_all : (List.range 100).all repOk = true := by kernel_rfl
theorem repeat_c (H : AH) (n : Nat) (hn : n < 100) : Fn Q YM 123 [.str [32], .int .i64 (n : Int)] H (fun w H' => w = .str (List.replicate n 32) ∧ H' = H) := by
  have h := List.all_eq_true.1 rep_all n (List.mem_range.2 hn)
  unfold repOk at h
  split at h
  · rename_i s hs
    rw [← eq_of_beq h]
    exact closed2 rfl hs
  · cases h
/-- The digits of a width. -/
def Y7 : List (List Nat) := [[]] ++ (List.range 10).map (fun a => [48 + a]) ++ (List.range 100).map (fun a => [48 + a / 10, 48 + a % 10])
def Wz (d : List Nat) : Nat := d.foldl (fun a c => 10 * a + (c - 48)) 0
noncomputable def atoiOk (d : List Nat) : Bool := match X5 Q 5000 121 [.str d] ⟨h0, 64⟩ with
  | some (.tuple [.int .i64 m, _]) => decide (m = (Wz d : Int))
  | _ => false
theorem atoi_all : Y7.all atoiOk = true := by kernel_rfl
theorem atoi_c (H : AH) (d : List Nat) (hd : d ∈ Y7) : ∃ e, Fn Q YM 121 [.str d] H (fun w H' => w = .tuple [.int .i64 (Wz d : Int), e] ∧ H' = H) := by
  have h := List.all_eq_true.1 atoi_all d hd
  unfold atoiOk at h
  split at h
  · rename_i m e hs
    refine ⟨e, ?_⟩
    rw [← of_decide_eq_true h]
    exact closed2 rfl hs
  · cases h
theorem wid_lt {d : List Nat} (hd : d ∈ Y7) : Wz d < 100 := by
  have h : Y7.all (fun d => Nat.blt (Wz d) 100) = true := by decide
  have := List.all_eq_true.1 h d hd
  rw [Nat.blt_eq] at this
  exact this
end Go.Ev.C
end
section
set_option linter.unusedVariables false
set_option linter.unusedSimpArgs false
set_option linter.defProp false
set_option linter.all false
namespace Go.Ev.C
open Go.Proofs Go.Fmt Go.RowKit
set_option maxRecDepth 100000
set_option linter.unusedSimpArgs false
theorem trim_c (H : AH) (w : List Nat) : Fn Q YM 159 [.str w, .str [45]] H (fun v H' => v = .str (if pre w [45] then w.drop 1 else w) ∧ H' = H) := by
  refine Fn.intro (en159 _ _) ?_
  unfold c159 Tryz.f159
  simp only [Option.getD_some]
  repeat (first|(apply Zh;exact rfl)|apply Zb|apply WO.nil|(apply Zk;exact rfl;simp only [rE,rS,li,lo,reduceIte,Nat.reduceEqDiff,Nat.reduceAdd,Nat.reduceMul,Zi,ZF,cu119];exact rfl;exact rfl))
  (apply WO.call;(focus (simp only [rQ,Zc,li,lo,reduceIte,Nat.reduceEqDiff,Nat.reduceAdd,beq_self_eq_true];done));simp only [rE,rS,li,lo,reduceIte,Nat.reduceEqDiff,Nat.reduceAdd,Nat.reduceMul,Zi,ZF,cu119];exact rfl;exact stringslite_prefix_c _ _ _;rintro _ _ ⟨rfl,rfl⟩;refine ⟨_,rfl,?_⟩)
  cases hp : pre w [45]
  · repeat (first|(apply Zh;exact rfl)|apply Zb|apply WO.nil|(apply Zk;exact rfl;simp only [rE,rS,li,lo,reduceIte,Nat.reduceEqDiff,Nat.reduceAdd,Nat.reduceMul,Zi,ZF,cu119];exact rfl;exact rfl))
    (first|(apply WF.condT;(focus (simp only [Zg,Zf,Zd,Zm,Bool.not_true,Bool.not_false,reduceIte,Nat.reduceEqDiff,hp];done)))|(apply WF.condF;(focus (simp only [Zg,Zf,Zd,Zm,Bool.not_true,Bool.not_false,reduceIte,Nat.reduceEqDiff,hp];done))))
    repeat (first|(apply Zh;exact rfl)|apply Zb|apply WO.nil|(apply Zk;exact rfl;simp only [rE,rS,li,lo,reduceIte,Nat.reduceEqDiff,Nat.reduceAdd,Nat.reduceMul,Zi,ZF,cu119];exact rfl;exact rfl))
    (apply WF.ret; (focus (simp only [Zj, Zd, Zm, Zv, reduceIte, Nat.reduceEqDiff, rs159]; exact rfl)))
    exact ⟨rfl, rfl⟩
  · have hl : 1 ≤ w.length := by
      unfold pre at hp
      simp only [Bool.and_eq_true, decide_eq_true_eq] at hp
      exact hp.1
    have hs : YT w (some (.int .i64 (([45] : List Nat).length : Int))) none = some (.str (w.drop 1)) := slS_from hl
    repeat (first|(apply Zh;exact rfl)|apply Zb|apply WO.nil|(apply Zk;exact rfl;simp only [rE,rS,li,lo,reduceIte,Nat.reduceEqDiff,Nat.reduceAdd,Nat.reduceMul,Zi,ZF,cu119];exact rfl;exact rfl))
    (first|(apply WF.condT;(focus (simp only [Zg,Zf,Zd,Zm,Bool.not_true,Bool.not_false,reduceIte,Nat.reduceEqDiff,hp];done)))|(apply WF.condF;(focus (simp only [Zg,Zf,Zd,Zm,Bool.not_true,Bool.not_false,reduceIte,Nat.reduceEqDiff,hp];done))))
    repeat (first|(apply Zh;exact rfl)|apply Zb|apply WO.nil|(apply Zk;exact rfl;simp only [rE,rS,li,lo,reduceIte,Nat.reduceEqDiff,Nat.reduceAdd,Nat.reduceMul,Zi,ZF,cu119,hs];exact rfl;exact rfl))
    (apply WF.ret; (focus (simp only [Zj, Zd, Zm, Zv, reduceIte, Nat.reduceEqDiff, rs159]; exact rfl)))
    exact ⟨rfl, rfl⟩
theorem strim_c (H : AH) (w : List Nat) : Fn Q YM 122 [.str w, .str [45]] H (fun v H' => v = .str (if pre w [45] then w.drop 1 else w) ∧ H' = H) := by
  refine Fn.intro (en122 _ _) ?_
  unfold c122 Tryz.f122
  simp only [Option.getD_some]
  repeat (first | (apply Zh; exact rfl) | apply Zb | apply WO.nil | (apply Zk; exact rfl; simp only [rE, rS, li, lo, reduceIte, Nat.reduceEqDiff, Nat.reduceAdd, Nat.reduceMul]; exact rfl; exact rfl))
  (apply WO.call;(focus (simp only [rQ,Zc,li,lo,reduceIte,Nat.reduceEqDiff,Nat.reduceAdd,beq_self_eq_true];done));simp only [rE,rS,li,lo,reduceIte,Nat.reduceEqDiff,Nat.reduceAdd,Nat.reduceMul,cu159];exact rfl;exact trim_c _ _;rintro _ _ ⟨rfl,rfl⟩;refine ⟨_,rfl,?_⟩)
  repeat (first | (apply Zh; exact rfl) | apply Zb | apply WO.nil | (apply Zk; exact rfl; simp only [rE, rS, li, lo, reduceIte, Nat.reduceEqDiff, Nat.reduceAdd, Nat.reduceMul]; exact rfl; exact rfl))
  (apply WF.ret; (focus (simp only [Zj, Zd, Zm, Zv, reduceIte, Nat.reduceEqDiff, rs122]; exact rfl)))
  exact ⟨rfl, rfl⟩
end Go.Ev.C
end
section
set_option linter.unusedVariables false
set_option linter.unusedSimpArgs false
set_option linter.defProp false
set_option linter.all false
namespace Go.Ev.C
open Go.Proofs Go.Fmt Go.RowKit
set_option maxRecDepth 100000
set_option linter.unusedSimpArgs false
def pad (left : Bool) (n : Nat) (s : List Nat) : List Nat := if left then s ++ List.replicate (n - s.length) 32 else List.replicate (n - s.length) 32 ++ s
/-- A conversion's text: the sign, the digits, the letter. -/
def Xb (left : Bool) (d : List Nat) (l : Nat) : List Nat := 37 :: (((if left then [45] else []) ++ d) ++ [l])
theorem wid_pre {d : List Nat} (hd : d ∈ Y7) : pre d [45] = false := by
  have h : Y7.all (fun d => !pre d [45]) = true := by decide
  have := List.all_eq_true.1 h d hd
  simpa using this
theorem wid_len {d : List Nat} (hd : d ∈ Y7) : d.length ≤ 2 := by
  have h : Y7.all (fun d => Nat.ble d.length 2) = true := by decide
  have := List.all_eq_true.1 h d hd
  rw [Nat.ble_eq] at this
  exact this
theorem Yq {P : Program} (t : TypeId) {a b : List Nat} (h : a.length + b.length < 100000000) : YP P .add t (.str a) (.str b) = some (.str (a ++ b)) := by
  have : Nat.blt (a.length + b.length) 100000000 = true := by rw [Nat.blt_eq]; exact h
  simp [YP, this]
theorem mx (ts : List TypeId) (z : Int) : XJ Q .max ts [.int .i64 0, .int .i64 z] = some (.int .i64 (if 0 < z then z else 0)) := rfl
theorem convEnd_w (H : AH) (left : Bool) (d : List Nat) (l : Nat) (tx : List Nat) (hd : d ∈ Y7) (htx : tx.length < 99999000) (t : Tri AV) (t0 : t.get 0 = some (.str (Xb left d l))) (t6 : t.get 6 = some (.str tx)) :
    WF Q YM (PF 79 84 t [.code (sub [1, 1, 1, 1] c79)]) H (Ret Q 79 fun v _ => v = .str (pad left (Wz d) tx)) := by
  have hdl := wid_len hd
  have hw := wid_lt hd
  generalize hwd : (if left then [45] else []) ++ d = w at *
  have hcl : (Xb left d l).length = w.length + 2 := by unfold Xb; rw [hwd]; simp
  have hwl : w.length ≤ 3 := by
    rw [← hwd]
    cases left <;> simp <;> omega
  have wl : IntKind.i64.wrap (((Xb left d l).length : Int) - 1) = ((w.length + 1 : Nat) : Int) := by
    rw [hcl, Go.Ev.w64 (by omega) (by omega)]; omega
  have hs : YT (Xb left d l) (some (.int .i64 1)) (some (.int .i64 ((w.length + 1 : Nat) : Int))) = some (.str w) := by
    have := slS_both (s := Xb left d l) (a := 1) (b := w.length + 1) (by omega) (by omega)
    have e : ((Xb left d l).drop 1).take (w.length + 1 - 1) = w := by
      unfold Xb
      rw [hwd]
      simp
    rw [e] at this
    exact this
  have hpre : pre w [45] = left := by
    rw [← hwd]
    cases left
    · exact wid_pre hd
    · simp [pre]
  have htr : (if pre w [45] then w.drop 1 else w) = d := by
    rw [hpre, ← hwd]
    cases left <;> simp
  have wm : IntKind.i64.wrap ((Wz d : Int) - (tx.length : Int)) = (Wz d : Int) - (tx.length : Int) := Go.Ev.w64 (by omega) (by omega)
  have hm : (if 0 < (Wz d : Int) - (tx.length : Int) then (Wz d : Int) - (tx.length : Int) else 0) = ((Wz d - tx.length : Nat) : Int) := by split <;> omega
  have hp1 : ∀ H, Fn Q YM 78 [.str w, .str [45]] H (fun v H' => v = .bool left ∧ H' = H) := fun H => by
    have := prefix_c (L := YM) H w [45]
    rw [hpre] at this
    exact this
  have hp2 : ∀ H, Fn Q YM 122 [.str w, .str [45]] H (fun v H' => v = .str d ∧ H' = H) := fun H => by
    have := strim_c H w
    rw [htr] at this
    exact this
  unfold c79 Tryz.f79
  simp only [Option.getD_some, sub]
  repeat (first|(apply Zh;exact rfl)|apply Zb|apply WO.nil|(apply Zk;exact rfl;simp only [rE,rS,li,lo,reduceIte,Nat.reduceEqDiff,Nat.reduceAdd,Nat.reduceMul,Zi,ZF,t0,t6,cu78,cu122,cu121,cu123,wl,hs,mx,wm,hm];exact rfl;exact rfl))
  (apply WO.call;(focus (simp only [rQ,Zc,li,lo,reduceIte,Nat.reduceEqDiff,Nat.reduceAdd,beq_self_eq_true];done));simp only [rE,rS,li,lo,reduceIte,Nat.reduceEqDiff,Nat.reduceAdd,Nat.reduceMul,Zi,ZF,t0,t6,cu78,cu122,cu121,cu123,wl,hs,mx,wm,hm];exact rfl;exact hp1 _;rintro _ H ⟨rfl,rfl⟩;refine ⟨_,rfl,?_⟩)
  repeat (first|(apply Zh;exact rfl)|apply Zb|apply WO.nil|(apply Zk;exact rfl;simp only [rE,rS,li,lo,reduceIte,Nat.reduceEqDiff,Nat.reduceAdd,Nat.reduceMul,Zi,ZF,t0,t6,cu78,cu122,cu121,cu123,wl,hs,mx,wm,hm];exact rfl;exact rfl))
  (apply WO.call;(focus (simp only [rQ,Zc,li,lo,reduceIte,Nat.reduceEqDiff,Nat.reduceAdd,beq_self_eq_true];done));simp only [rE,rS,li,lo,reduceIte,Nat.reduceEqDiff,Nat.reduceAdd,Nat.reduceMul,Zi,ZF,t0,t6,cu78,cu122,cu121,cu123,wl,hs,mx,wm,hm];exact rfl;exact hp2 _;rintro _ H ⟨rfl,rfl⟩;refine ⟨_,rfl,?_⟩)
  obtain ⟨e, hat⟩ := atoi_c H d hd
  repeat (first|(apply Zh;exact rfl)|apply Zb|apply WO.nil|(apply Zk;exact rfl;simp only [rE,rS,li,lo,reduceIte,Nat.reduceEqDiff,Nat.reduceAdd,Nat.reduceMul,Zi,ZF,t0,t6,cu78,cu122,cu121,cu123,wl,hs,mx,wm,hm];exact rfl;exact rfl))
  (apply WO.call;(focus (simp only [rQ,Zc,li,lo,reduceIte,Nat.reduceEqDiff,Nat.reduceAdd,beq_self_eq_true];done));simp only [rE,rS,li,lo,reduceIte,Nat.reduceEqDiff,Nat.reduceAdd,Nat.reduceMul,Zi,ZF,t0,t6,cu78,cu122,cu121,cu123,wl,hs,mx,wm,hm];exact rfl;exact hat;rintro _ H ⟨rfl,rfl⟩;refine ⟨_,rfl,?_⟩)
  repeat (first|(apply Zh;exact rfl)|apply Zb|apply WO.nil|(apply Zk;exact rfl;simp only [rE,rS,li,lo,reduceIte,Nat.reduceEqDiff,Nat.reduceAdd,Nat.reduceMul,Zi,ZF,t0,t6,cu78,cu122,cu121,cu123,wl,hs,mx,wm,hm];exact rfl;exact rfl))
  (apply WO.call;(focus (simp only [rQ,Zc,li,lo,reduceIte,Nat.reduceEqDiff,Nat.reduceAdd,beq_self_eq_true];done));simp only [rE,rS,li,lo,reduceIte,Nat.reduceEqDiff,Nat.reduceAdd,Nat.reduceMul,Zi,ZF,t0,t6,cu78,cu122,cu121,cu123,wl,hs,mx,wm,hm];exact rfl;exact repeat_c _ (Wz d - tx.length) (by omega);rintro _ _ ⟨rfl,rfl⟩;refine ⟨_,rfl,?_⟩)
  repeat (first|(apply Zh;exact rfl)|apply Zb|apply WO.nil|(apply Zk;exact rfl;simp only [rE,rS,li,lo,reduceIte,Nat.reduceEqDiff,Nat.reduceAdd,Nat.reduceMul,Zi,ZF,t0,t6,cu78,cu122,cu121,cu123,wl,hs,mx,wm,hm];exact rfl;exact rfl))
  have hrl : (List.replicate (Wz d - tx.length) 32).length < 100 := by rw [List.length_replicate]; omega
  cases left
  · (first|(apply WF.condT;(focus (simp only [Zg,Zf,Zd,Zm,Bool.not_true,Bool.not_false,reduceIte,Nat.reduceEqDiff];done)))|(apply WF.condF;(focus (simp only [Zg,Zf,Zd,Zm,Bool.not_true,Bool.not_false,reduceIte,Nat.reduceEqDiff];done))))
    repeat (first|(apply Zh;exact rfl)|apply Zb|apply WO.nil|(apply Zk;exact rfl;simp only [rE,rS,li,lo,reduceIte,Nat.reduceEqDiff,Nat.reduceAdd,Nat.reduceMul,Zi,ZF,t0,t6,cu78,cu122,cu121,cu123,wl,hs,mx,wm,hm,Yq (P := Q) 9 (show (List.replicate (Wz d - tx.length) 32).length + tx.length < 100000000 by omega)];exact rfl;exact rfl))
    (apply WF.ret; (focus (simp only [Zj, Zd, Zm, Zv, reduceIte, Nat.reduceEqDiff, rs79]; exact rfl)))
    rfl
  · (first|(apply WF.condT;(focus (simp only [Zg,Zf,Zd,Zm,Bool.not_true,Bool.not_false,reduceIte,Nat.reduceEqDiff];done)))|(apply WF.condF;(focus (simp only [Zg,Zf,Zd,Zm,Bool.not_true,Bool.not_false,reduceIte,Nat.reduceEqDiff];done))))
    repeat (first|(apply Zh;exact rfl)|apply Zb|apply WO.nil|(apply Zk;exact rfl;simp only [rE,rS,li,lo,reduceIte,Nat.reduceEqDiff,Nat.reduceAdd,Nat.reduceMul,Zi,ZF,t0,t6,cu78,cu122,cu121,cu123,wl,hs,mx,wm,hm,Yq (P := Q) 9 (show tx.length + (List.replicate (Wz d - tx.length) 32).length < 100000000 by omega)];exact rfl;exact rfl))
    (apply WF.ret; (focus (simp only [Zj, Zd, Zm, Zv, reduceIte, Nat.reduceEqDiff, rs79]; exact rfl)))
    rfl
end Go.Ev.C
end
section
set_option linter.unusedVariables false
set_option linter.unusedSimpArgs false
set_option linter.defProp false
set_option linter.all false
namespace Go.Ev.C
open Go.Proofs Go.Fmt Go.RowKit
set_option maxRecDepth 100000
set_option linter.unusedSimpArgs false
theorem WF.cutTH {P : Program} {L : World → Prop} {f n : Nat} {t : Tri AV} {x : AI} {k : List AI} {H : AH} {Φ : AF → AH → Prop} (I : Tri AV → AH → Prop) (hk : ∀ t H,I t H → WF P L (PF f n t k) H Φ) (h : (∀ t H,I t H → WF P L (PF f n t k) H Φ) → WF P L (PF f n t (x :: k)) H Φ) : WF P L (PF f n t (x :: k)) H Φ := h hk
def ZK (l : Nat) (x : XB) : List Nat := if l = 115 then x.vs else if l = 100 then dec x.vn else if l = 117 then hx 10 (Wa x) else if l = 120 then hx 16 (Wa x) else if l = 111 then hx 8 (Wa x) else if l = 112 then [48,120] ++ hx 16 (Wa x) else [(x.vn % 256).toNat]
/-- What is asked of an item. -/
structure ItOk (x : XB) (sv : AV) : Prop where
  one : Ye sv = true
  solid : ZO sv = true
  lo : -9223372036854775808 ≤ x.vn
  hi : x.vn ≤ 9223372036854775807
  len : x.vs.length ≤ 10000000
  sz : x.kind = 1 → (Ys x.size x.sg).isSome = true
theorem dec_len (n : Int) : (dec n).length ≤ 65 := by
  have := Yf 10 n.natAbs
  unfold dec
  split <;> simp <;> omega
theorem cut10 {a b c d e f g h i s : AV} (h1 : ZO a = true) (h2 : ZO b = true) (h3 : ZO c = true) (h4 : ZO d = true) (h5 : ZO e = true) (h6 : ZO f = true) (h7 : ZO g = true) (h8 : ZO h = true) (h9 : ZO i = true) (hs : ZO s = true) : cut [a,b,c,d,e,f,g,h,i,s] 0 10 = some [a,b,c,d,e,f,g,h,i,s] := cut_self rfl (by simp [h1,h2,h3,h4,h5,h6,h7,h8,h9,hs])
theorem wrap_u8 (x : Int) : IntKind.u8.wrap x = (((x % 256).toNat : Nat) : Int) := by
  have : IntKind.u8.wrap x = x % 256 := by
    simp only [IntKind.wrap, IntKind.bits, IntKind.signed, Bool.false_and]
    rfl
  rw [this]
  omega
theorem bin_addX {P : Program} (t : TypeId) (b : List Nat) (h : b.length < 1000) : YP P .add t (.str (Xt ⟨#[48,120]⟩)) (.str b) = some (.str ([48,120] ++ b)) := Yq t (show 2 + b.length < 100000000 by omega)
theorem conv1 {H : AH} (m : Nat) (hm : m < 256) : convL Q 35 9 (some (.slice H.next 0 1 (.is 1))) ⟨H.t.put H.next (some (.cells 5 [.int .u8 (m : Int)] 0 false false)),H.next + 1⟩ = some (.str [m]) := by
  have hc : AH.cellsAt ⟨H.t.put H.next (some (.cells 5 [.int .u8 (m : Int)] 0 false false)), H.next + 1⟩ H.next = some (bsL [m]) := by rw [Yu, if_pos rfl]; rfl
  have hcut : cut (bsL [m]) 0 1 = some (bsL [m]) := cut_self rfl rfl
  have hb : byteL (bsL [m]) = some [m] := byteL_map (by simpa using hm)
  have hz : Nat.beq 1 0 = false := rfl
  simp only [convL, XH, und9, und5, hz, hc, hcut, hb, Option.map_some, Bool.false_eq_true, if_false]
set_option maxHeartbeats 2000000 in
theorem converted115_c (H : AH) (x : XB) (sv : AV) (hok : ItOk x sv) (left : Bool) (d : List Nat) (hd : d ∈ Y7) : Fn Q YM 79 [.str (Xb left d 115),IV x sv] H (fun w H' => w = .str (pad left (Wz d) (ZK 115 x)) ∧ H' = H) := by
  refine Y2 (en79 _ _) rfl ?_
  generalize lock H = H
  have hdl := wid_len hd
  have hcl : (Xb left d 115).length = ((if left then [45] else []) ++ d).length + 2 := by unfold Xb; simp; omega
  have hwl : ((if left then [45] else []) ++ d).length ≤ 3 := by cases left <;> simp <;> omega
  have wl : IntKind.i64.wrap (((Xb left d 115).length : Int) - 1) = (((Xb left d 115).length - 1 : Nat) : Int) := by
    rw [Go.Ev.w64 (by omega) (by omega)]; omega
  have hi : XN Q 9 (.str (Xb left d 115)) (.int .i64 (((Xb left d 115).length - 1 : Nat) : Int)) = some (.int .u8 115) := by
    rw [XA (by omega)]
    have e : (Xb left d 115)[(Xb left d 115).length - 1]? = some 115 := by
      rw [hcl]
      unfold Xb
      simp
    rw [List.getElem?_eq_getElem (by omega)] at e
    rw [Option.some.inj e]
    rfl
  have cutA := cut10 (Zl .i64 x.act) (Zl .i64 x.val) (Zl .i64 x.kind) (Zl .i64 x.size) (Zp x.sg) (Zl .i64 x.ref) (Zp x.vstr) (Zl .i64 x.vn) (Y0 x.vs) hok.solid
  have hpl := pat_lt x
  have hlen : (ZK 115 x).length < 99999000 := by
    have hh10 := Yf 10 (Wa x)
    have hh16 := Yf 16 (Wa x)
    have hh8 := Yf 8 (Wa x)
    have hdn := dec_len x.vn
    have hvl := hok.len
    unfold ZK
    repeat' split
    all_goals (first | omega | (simp; omega) | simp)
  unfold c79 Tryz.f79 IV IC
  simp only [Option.getD_some]
  iterate 18 (first|(apply Zh;exact rfl)|apply Zb|apply WO.nil|(apply Zk;exact rfl;simp only [rE,rS,li,lo,reduceIte,Nat.reduceEqDiff,Nat.reduceAdd,Nat.reduceMul,Zi,cutA,Zr,Zo,Zq,Ze ZE ZR,Za Zt,Za ZA,hok.one,hok.solid,hi,wl,Int.reduceEq,decide_false,YI,Z6];exact rfl;exact rfl))
  refine WF.seq ?_
  refine WF.cutTH (fun t _ => t.get 0 = some (.str (Xb left d 115)) ∧ t.get 6 = some (.str (ZK 115 x))) ?_ ?_
  · rintro t H' ⟨t0, t6⟩
    exact convEnd_w H' left d 115 _ hd hlen t t0 t6
  intro tail
  repeat (first|(apply Zh;exact rfl)|apply Zb|apply WO.nil|(apply Zk;exact rfl;simp only [rE,rS,li,lo,reduceIte,Nat.reduceEqDiff,Nat.reduceAdd,Nat.reduceMul,Zi,cutA,Zr,Zo,Zq,Ze ZE ZR,Za Zt,Za ZA,hok.one,hok.solid,hi,wl,Int.reduceEq,decide_false,YI,Z6];exact rfl;exact rfl))
  (first|(apply WF.condT;(focus (simp only [Zg,Zf,Zd,Zm,Bool.not_true,Bool.not_false,reduceIte,Nat.reduceEqDiff,Int.reduceEq,decide_true];done)))|(apply WF.condF;(focus (simp only [Zg,Zf,Zd,Zm,Bool.not_true,Bool.not_false,reduceIte,Nat.reduceEqDiff,Int.reduceEq,decide_true];done))))
  iterate 6 (first|(apply Zh;exact rfl)|apply Zb|apply WO.nil|(apply Zk;exact rfl;simp only [rE,rS,li,lo,reduceIte,Nat.reduceEqDiff,Nat.reduceAdd,Nat.reduceMul,Zi,cutA,Zr,Zo,Zq,Ze ZE ZR,Za Zt,Za ZA,hok.one,hok.solid,hi,wl,Int.reduceEq,decide_false,YI,Z6];exact rfl;exact rfl))
  refine XC ?_
  exact tail _ _ ⟨by simp [Zd, Zm], by simp [Zd, ZK]⟩
set_option maxHeartbeats 2000000 in
theorem converted100_c (H : AH) (x : XB) (sv : AV) (hok : ItOk x sv) (left : Bool) (d : List Nat) (hd : d ∈ Y7) : Fn Q YM 79 [.str (Xb left d 100),IV x sv] H (fun w H' => w = .str (pad left (Wz d) (ZK 100 x)) ∧ H' = H) := by
  refine Y2 (en79 _ _) rfl ?_
  generalize lock H = H
  have hdl := wid_len hd
  have hcl : (Xb left d 100).length = ((if left then [45] else []) ++ d).length + 2 := by unfold Xb; simp; omega
  have hwl : ((if left then [45] else []) ++ d).length ≤ 3 := by cases left <;> simp <;> omega
  have wl : IntKind.i64.wrap (((Xb left d 100).length : Int) - 1) = (((Xb left d 100).length - 1 : Nat) : Int) := by
    rw [Go.Ev.w64 (by omega) (by omega)]; omega
  have hi : XN Q 9 (.str (Xb left d 100)) (.int .i64 (((Xb left d 100).length - 1 : Nat) : Int)) = some (.int .u8 100) := by
    rw [XA (by omega)]
    have e : (Xb left d 100)[(Xb left d 100).length - 1]? = some 100 := by
      rw [hcl]
      unfold Xb
      simp
    rw [List.getElem?_eq_getElem (by omega)] at e
    rw [Option.some.inj e]
    rfl
  have cutA := cut10 (Zl .i64 x.act) (Zl .i64 x.val) (Zl .i64 x.kind) (Zl .i64 x.size) (Zp x.sg) (Zl .i64 x.ref) (Zp x.vstr) (Zl .i64 x.vn) (Y0 x.vs) hok.solid
  have hpl := pat_lt x
  have hlen : (ZK 100 x).length < 99999000 := by
    have hh10 := Yf 10 (Wa x)
    have hh16 := Yf 16 (Wa x)
    have hh8 := Yf 8 (Wa x)
    have hdn := dec_len x.vn
    have hvl := hok.len
    unfold ZK
    repeat' split
    all_goals (first | omega | (simp; omega) | simp)
  unfold c79 Tryz.f79 IV IC
  simp only [Option.getD_some]
  iterate 18 (first|(apply Zh;exact rfl)|apply Zb|apply WO.nil|(apply Zk;exact rfl;simp only [rE,rS,li,lo,reduceIte,Nat.reduceEqDiff,Nat.reduceAdd,Nat.reduceMul,Zi,cutA,Zr,Zo,Zq,Ze ZE ZR,Za Zt,Za ZA,hok.one,hok.solid,hi,wl,Int.reduceEq,decide_false,YI,Z6];exact rfl;exact rfl))
  refine WF.seq ?_
  refine WF.cutTH (fun t _ => t.get 0 = some (.str (Xb left d 100)) ∧ t.get 6 = some (.str (ZK 100 x))) ?_ ?_
  · rintro t H' ⟨t0, t6⟩
    exact convEnd_w H' left d 100 _ hd hlen t t0 t6
  intro tail
  repeat (first|(apply Zh;exact rfl)|apply Zb|apply WO.nil|(apply Zk;exact rfl;simp only [rE,rS,li,lo,reduceIte,Nat.reduceEqDiff,Nat.reduceAdd,Nat.reduceMul,Zi,cutA,Zr,Zo,Zq,Ze ZE ZR,Za Zt,Za ZA,hok.one,hok.solid,hi,wl,Int.reduceEq,decide_false,YI,Z6];exact rfl;exact rfl))
  (first|(apply WF.condT;(focus (simp only [Zg,Zf,Zd,Zm,Bool.not_true,Bool.not_false,reduceIte,Nat.reduceEqDiff,Int.reduceEq,decide_false];done)))|(apply WF.condF;(focus (simp only [Zg,Zf,Zd,Zm,Bool.not_true,Bool.not_false,reduceIte,Nat.reduceEqDiff,Int.reduceEq,decide_false];done))))
  repeat (first|(apply Zh;exact rfl)|apply Zb|apply WO.nil|(apply Zk;exact rfl;simp only [rE,rS,li,lo,reduceIte,Nat.reduceEqDiff,Nat.reduceAdd,Nat.reduceMul,Zi,cutA,Zr,Zo,Zq,Ze ZE ZR,Za Zt,Za ZA,hok.one,hok.solid,hi,wl,Int.reduceEq,decide_false,YI,Z6];exact rfl;exact rfl))
  (first|(apply WF.condT;(focus (simp only [Zg,Zf,Zd,Zm,Bool.not_true,Bool.not_false,reduceIte,Nat.reduceEqDiff,Int.reduceEq,decide_true];done)))|(apply WF.condF;(focus (simp only [Zg,Zf,Zd,Zm,Bool.not_true,Bool.not_false,reduceIte,Nat.reduceEqDiff,Int.reduceEq,decide_true];done))))
  repeat (first|(apply Zh;exact rfl)|apply Zb|apply WO.nil|(apply Zk;exact rfl;simp only [rE,rS,li,lo,reduceIte,Nat.reduceEqDiff,Nat.reduceAdd,Nat.reduceMul,Zi,cutA,Zr,Zo,Zq,Ze ZE ZR,Za Zt,Za ZA,hok.one,hok.solid,hi,wl,Int.reduceEq,decide_false,YI,Z6];exact rfl;exact rfl))
  (apply WO.call;(focus (simp only [rQ,Zc,li,lo,reduceIte,Nat.reduceEqDiff,Nat.reduceAdd,beq_self_eq_true];done));simp only [rE,rS,li,lo,reduceIte,Nat.reduceEqDiff,Nat.reduceAdd,Nat.reduceMul,Zi,cutA,Zr,Zo,Zq,Ze ZE ZR,Za Zt,Za ZA,hok.one,hok.solid,hi,wl,Int.reduceEq,decide_false,YI,Z6];exact rfl;exact digits_c _ _ hok.lo hok.hi;rintro _ _ ⟨rfl,rfl⟩;refine ⟨_,rfl,?_⟩)
  iterate 2 (first|(apply Zh;exact rfl)|apply Zb|apply WO.nil|(apply Zk;exact rfl;simp only [rE,rS,li,lo,reduceIte,Nat.reduceEqDiff,Nat.reduceAdd,Nat.reduceMul,Zi,cutA,Zr,Zo,Zq,Ze ZE ZR,Za Zt,Za ZA,hok.one,hok.solid,hi,wl,Int.reduceEq,decide_false,YI,Z6];exact rfl;exact rfl))
  refine XC ?_
  exact tail _ _ ⟨by simp [Zd, Zm], by simp [Zd, ZK]⟩
set_option maxHeartbeats 2000000 in
theorem converted117_c (H : AH) (x : XB) (sv : AV) (hok : ItOk x sv) (left : Bool) (d : List Nat) (hd : d ∈ Y7) : Fn Q YM 79 [.str (Xb left d 117),IV x sv] H (fun w H' => w = .str (pad left (Wz d) (ZK 117 x)) ∧ H' = H) := by
  refine Y2 (en79 _ _) rfl ?_
  generalize lock H = H
  have hdl := wid_len hd
  have hcl : (Xb left d 117).length = ((if left then [45] else []) ++ d).length + 2 := by unfold Xb; simp; omega
  have hwl : ((if left then [45] else []) ++ d).length ≤ 3 := by cases left <;> simp <;> omega
  have wl : IntKind.i64.wrap (((Xb left d 117).length : Int) - 1) = (((Xb left d 117).length - 1 : Nat) : Int) := by
    rw [Go.Ev.w64 (by omega) (by omega)]; omega
  have hi : XN Q 9 (.str (Xb left d 117)) (.int .i64 (((Xb left d 117).length - 1 : Nat) : Int)) = some (.int .u8 117) := by
    rw [XA (by omega)]
    have e : (Xb left d 117)[(Xb left d 117).length - 1]? = some 117 := by
      rw [hcl]
      unfold Xb
      simp
    rw [List.getElem?_eq_getElem (by omega)] at e
    rw [Option.some.inj e]
    rfl
  have cutA := cut10 (Zl .i64 x.act) (Zl .i64 x.val) (Zl .i64 x.kind) (Zl .i64 x.size) (Zp x.sg) (Zl .i64 x.ref) (Zp x.vstr) (Zl .i64 x.vn) (Y0 x.vs) hok.solid
  have hpl := pat_lt x
  have hlen : (ZK 117 x).length < 99999000 := by
    have hh10 := Yf 10 (Wa x)
    have hh16 := Yf 16 (Wa x)
    have hh8 := Yf 8 (Wa x)
    have hdn := dec_len x.vn
    have hvl := hok.len
    unfold ZK
    repeat' split
    all_goals (first | omega | (simp; omega) | simp)
  unfold c79 Tryz.f79 IV IC
  simp only [Option.getD_some]
  iterate 18 (first|(apply Zh;exact rfl)|apply Zb|apply WO.nil|(apply Zk;exact rfl;simp only [rE,rS,li,lo,reduceIte,Nat.reduceEqDiff,Nat.reduceAdd,Nat.reduceMul,Zi,cutA,Zr,Zo,Zq,Ze ZE ZR,Za Zt,Za ZA,hok.one,hok.solid,hi,wl,Int.reduceEq,decide_false,YI,Z6];exact rfl;exact rfl))
  refine WF.seq ?_
  refine WF.cutTH (fun t _ => t.get 0 = some (.str (Xb left d 117)) ∧ t.get 6 = some (.str (ZK 117 x))) ?_ ?_
  · rintro t H' ⟨t0, t6⟩
    exact convEnd_w H' left d 117 _ hd hlen t t0 t6
  intro tail
  repeat (first|(apply Zh;exact rfl)|apply Zb|apply WO.nil|(apply Zk;exact rfl;simp only [rE,rS,li,lo,reduceIte,Nat.reduceEqDiff,Nat.reduceAdd,Nat.reduceMul,Zi,cutA,Zr,Zo,Zq,Ze ZE ZR,Za Zt,Za ZA,hok.one,hok.solid,hi,wl,Int.reduceEq,decide_false,YI,Z6];exact rfl;exact rfl))
  (first|(apply WF.condT;(focus (simp only [Zg,Zf,Zd,Zm,Bool.not_true,Bool.not_false,reduceIte,Nat.reduceEqDiff,Int.reduceEq,decide_false];done)))|(apply WF.condF;(focus (simp only [Zg,Zf,Zd,Zm,Bool.not_true,Bool.not_false,reduceIte,Nat.reduceEqDiff,Int.reduceEq,decide_false];done))))
  repeat (first|(apply Zh;exact rfl)|apply Zb|apply WO.nil|(apply Zk;exact rfl;simp only [rE,rS,li,lo,reduceIte,Nat.reduceEqDiff,Nat.reduceAdd,Nat.reduceMul,Zi,cutA,Zr,Zo,Zq,Ze ZE ZR,Za Zt,Za ZA,hok.one,hok.solid,hi,wl,Int.reduceEq,decide_false,YI,Z6];exact rfl;exact rfl))
  (first|(apply WF.condT;(focus (simp only [Zg,Zf,Zd,Zm,Bool.not_true,Bool.not_false,reduceIte,Nat.reduceEqDiff,Int.reduceEq,decide_false];done)))|(apply WF.condF;(focus (simp only [Zg,Zf,Zd,Zm,Bool.not_true,Bool.not_false,reduceIte,Nat.reduceEqDiff,Int.reduceEq,decide_false];done))))
  repeat (first|(apply Zh;exact rfl)|apply Zb|apply WO.nil|(apply Zk;exact rfl;simp only [rE,rS,li,lo,reduceIte,Nat.reduceEqDiff,Nat.reduceAdd,Nat.reduceMul,Zi,cutA,Zr,Zo,Zq,Ze ZE ZR,Za Zt,Za ZA,hok.one,hok.solid,hi,wl,Int.reduceEq,decide_false,YI,Z6];exact rfl;exact rfl))
  (first|(apply WF.condT;(focus (simp only [Zg,Zf,Zd,Zm,Bool.not_true,Bool.not_false,reduceIte,Nat.reduceEqDiff,Int.reduceEq,decide_true];done)))|(apply WF.condF;(focus (simp only [Zg,Zf,Zd,Zm,Bool.not_true,Bool.not_false,reduceIte,Nat.reduceEqDiff,Int.reduceEq,decide_true];done))))
  repeat (first|(apply Zh;exact rfl)|apply Zb|apply WO.nil|(apply Zk;exact rfl;simp only [rE,rS,li,lo,reduceIte,Nat.reduceEqDiff,Nat.reduceAdd,Nat.reduceMul,Zi,cutA,Zr,Zo,Zq,Ze ZE ZR,Za Zt,Za ZA,hok.one,hok.solid,hi,wl,Int.reduceEq,decide_false,YI,Z6];exact rfl;exact rfl))
  (apply WO.call;(focus (simp only [rQ,Zc,li,lo,reduceIte,Nat.reduceEqDiff,Nat.reduceAdd,beq_self_eq_true];done));simp only [rE,rS,li,lo,reduceIte,Nat.reduceEqDiff,Nat.reduceAdd,Nat.reduceMul,Zi,cutA,Zr,Zo,Zq,Ze ZE ZR,Za Zt,Za ZA,hok.one,hok.solid,hi,wl,Int.reduceEq,decide_false,YI,Z6,cu120];exact rfl;exact pattern_c _ x sv hok.one hok.sz;rintro _ _ ⟨rfl,rfl⟩;refine ⟨_,rfl,?_⟩)
  repeat (first|(apply Zh;exact rfl)|apply Zb|apply WO.nil|(apply Zk;exact rfl;simp only [rE,rS,li,lo,reduceIte,Nat.reduceEqDiff,Nat.reduceAdd,Nat.reduceMul,Zi,cutA,Zr,Zo,Zq,Ze ZE ZR,Za Zt,Za ZA,hok.one,hok.solid,hi,wl,Int.reduceEq,decide_false,YI,Z6];exact rfl;exact rfl))
  (apply WO.call;(focus (simp only [rQ,Zc,li,lo,reduceIte,Nat.reduceEqDiff,Nat.reduceAdd,beq_self_eq_true];done));simp only [rE,rS,li,lo,reduceIte,Nat.reduceEqDiff,Nat.reduceAdd,Nat.reduceMul,Zi,cutA,Zr,Zo,Zq,Ze ZE ZR,Za Zt,Za ZA,hok.one,hok.solid,hi,wl,Int.reduceEq,decide_false,YI,Z6];exact rfl;exact fmtU10 _ _ hpl;rintro _ _ ⟨rfl,rfl⟩;refine ⟨_,rfl,?_⟩)
  iterate 2 (first|(apply Zh;exact rfl)|apply Zb|apply WO.nil|(apply Zk;exact rfl;simp only [rE,rS,li,lo,reduceIte,Nat.reduceEqDiff,Nat.reduceAdd,Nat.reduceMul,Zi,cutA,Zr,Zo,Zq,Ze ZE ZR,Za Zt,Za ZA,hok.one,hok.solid,hi,wl,Int.reduceEq,decide_false,YI,Z6];exact rfl;exact rfl))
  refine XC ?_
  exact tail _ _ ⟨by simp [Zd, Zm], by simp [Zd, ZK]⟩
set_option maxHeartbeats 2000000 in
theorem converted120_c (H : AH) (x : XB) (sv : AV) (hok : ItOk x sv) (left : Bool) (d : List Nat) (hd : d ∈ Y7) : Fn Q YM 79 [.str (Xb left d 120),IV x sv] H (fun w H' => w = .str (pad left (Wz d) (ZK 120 x)) ∧ H' = H) := by
  refine Y2 (en79 _ _) rfl ?_
  generalize lock H = H
  have hdl := wid_len hd
  have hcl : (Xb left d 120).length = ((if left then [45] else []) ++ d).length + 2 := by unfold Xb; simp; omega
  have hwl : ((if left then [45] else []) ++ d).length ≤ 3 := by cases left <;> simp <;> omega
  have wl : IntKind.i64.wrap (((Xb left d 120).length : Int) - 1) = (((Xb left d 120).length - 1 : Nat) : Int) := by
    rw [Go.Ev.w64 (by omega) (by omega)]; omega
  have hi : XN Q 9 (.str (Xb left d 120)) (.int .i64 (((Xb left d 120).length - 1 : Nat) : Int)) = some (.int .u8 120) := by
    rw [XA (by omega)]
    have e : (Xb left d 120)[(Xb left d 120).length - 1]? = some 120 := by
      rw [hcl]
      unfold Xb
      simp
    rw [List.getElem?_eq_getElem (by omega)] at e
    rw [Option.some.inj e]
    rfl
  have cutA := cut10 (Zl .i64 x.act) (Zl .i64 x.val) (Zl .i64 x.kind) (Zl .i64 x.size) (Zp x.sg) (Zl .i64 x.ref) (Zp x.vstr) (Zl .i64 x.vn) (Y0 x.vs) hok.solid
  have hpl := pat_lt x
  have hlen : (ZK 120 x).length < 99999000 := by
    have hh10 := Yf 10 (Wa x)
    have hh16 := Yf 16 (Wa x)
    have hh8 := Yf 8 (Wa x)
    have hdn := dec_len x.vn
    have hvl := hok.len
    unfold ZK
    repeat' split
    all_goals (first | omega | (simp; omega) | simp)
  unfold c79 Tryz.f79 IV IC
  simp only [Option.getD_some]
  iterate 18 (first|(apply Zh;exact rfl)|apply Zb|apply WO.nil|(apply Zk;exact rfl;simp only [rE,rS,li,lo,reduceIte,Nat.reduceEqDiff,Nat.reduceAdd,Nat.reduceMul,Zi,cutA,Zr,Zo,Zq,Ze ZE ZR,Za Zt,Za ZA,hok.one,hok.solid,hi,wl,Int.reduceEq,decide_false,YI,Z6];exact rfl;exact rfl))
  refine WF.seq ?_
  refine WF.cutTH (fun t _ => t.get 0 = some (.str (Xb left d 120)) ∧ t.get 6 = some (.str (ZK 120 x))) ?_ ?_
  · rintro t H' ⟨t0, t6⟩
    exact convEnd_w H' left d 120 _ hd hlen t t0 t6
  intro tail
  repeat (first|(apply Zh;exact rfl)|apply Zb|apply WO.nil|(apply Zk;exact rfl;simp only [rE,rS,li,lo,reduceIte,Nat.reduceEqDiff,Nat.reduceAdd,Nat.reduceMul,Zi,cutA,Zr,Zo,Zq,Ze ZE ZR,Za Zt,Za ZA,hok.one,hok.solid,hi,wl,Int.reduceEq,decide_false,YI,Z6];exact rfl;exact rfl))
  (first|(apply WF.condT;(focus (simp only [Zg,Zf,Zd,Zm,Bool.not_true,Bool.not_false,reduceIte,Nat.reduceEqDiff,Int.reduceEq,decide_false];done)))|(apply WF.condF;(focus (simp only [Zg,Zf,Zd,Zm,Bool.not_true,Bool.not_false,reduceIte,Nat.reduceEqDiff,Int.reduceEq,decide_false];done))))
  repeat (first|(apply Zh;exact rfl)|apply Zb|apply WO.nil|(apply Zk;exact rfl;simp only [rE,rS,li,lo,reduceIte,Nat.reduceEqDiff,Nat.reduceAdd,Nat.reduceMul,Zi,cutA,Zr,Zo,Zq,Ze ZE ZR,Za Zt,Za ZA,hok.one,hok.solid,hi,wl,Int.reduceEq,decide_false,YI,Z6];exact rfl;exact rfl))
  (first|(apply WF.condT;(focus (simp only [Zg,Zf,Zd,Zm,Bool.not_true,Bool.not_false,reduceIte,Nat.reduceEqDiff,Int.reduceEq,decide_false];done)))|(apply WF.condF;(focus (simp only [Zg,Zf,Zd,Zm,Bool.not_true,Bool.not_false,reduceIte,Nat.reduceEqDiff,Int.reduceEq,decide_false];done))))
  repeat (first|(apply Zh;exact rfl)|apply Zb|apply WO.nil|(apply Zk;exact rfl;simp only [rE,rS,li,lo,reduceIte,Nat.reduceEqDiff,Nat.reduceAdd,Nat.reduceMul,Zi,cutA,Zr,Zo,Zq,Ze ZE ZR,Za Zt,Za ZA,hok.one,hok.solid,hi,wl,Int.reduceEq,decide_false,YI,Z6];exact rfl;exact rfl))
  (first|(apply WF.condT;(focus (simp only [Zg,Zf,Zd,Zm,Bool.not_true,Bool.not_false,reduceIte,Nat.reduceEqDiff,Int.reduceEq,decide_false];done)))|(apply WF.condF;(focus (simp only [Zg,Zf,Zd,Zm,Bool.not_true,Bool.not_false,reduceIte,Nat.reduceEqDiff,Int.reduceEq,decide_false];done))))
  repeat (first|(apply Zh;exact rfl)|apply Zb|apply WO.nil|(apply Zk;exact rfl;simp only [rE,rS,li,lo,reduceIte,Nat.reduceEqDiff,Nat.reduceAdd,Nat.reduceMul,Zi,cutA,Zr,Zo,Zq,Ze ZE ZR,Za Zt,Za ZA,hok.one,hok.solid,hi,wl,Int.reduceEq,decide_false,YI,Z6];exact rfl;exact rfl))
  (first|(apply WF.condT;(focus (simp only [Zg,Zf,Zd,Zm,Bool.not_true,Bool.not_false,reduceIte,Nat.reduceEqDiff,Int.reduceEq,decide_true];done)))|(apply WF.condF;(focus (simp only [Zg,Zf,Zd,Zm,Bool.not_true,Bool.not_false,reduceIte,Nat.reduceEqDiff,Int.reduceEq,decide_true];done))))
  repeat (first|(apply Zh;exact rfl)|apply Zb|apply WO.nil|(apply Zk;exact rfl;simp only [rE,rS,li,lo,reduceIte,Nat.reduceEqDiff,Nat.reduceAdd,Nat.reduceMul,Zi,cutA,Zr,Zo,Zq,Ze ZE ZR,Za Zt,Za ZA,hok.one,hok.solid,hi,wl,Int.reduceEq,decide_false,YI,Z6];exact rfl;exact rfl))
  (apply WO.call;(focus (simp only [rQ,Zc,li,lo,reduceIte,Nat.reduceEqDiff,Nat.reduceAdd,beq_self_eq_true];done));simp only [rE,rS,li,lo,reduceIte,Nat.reduceEqDiff,Nat.reduceAdd,Nat.reduceMul,Zi,cutA,Zr,Zo,Zq,Ze ZE ZR,Za Zt,Za ZA,hok.one,hok.solid,hi,wl,Int.reduceEq,decide_false,YI,Z6,cu120];exact rfl;exact pattern_c _ x sv hok.one hok.sz;rintro _ _ ⟨rfl,rfl⟩;refine ⟨_,rfl,?_⟩)
  repeat (first|(apply Zh;exact rfl)|apply Zb|apply WO.nil|(apply Zk;exact rfl;simp only [rE,rS,li,lo,reduceIte,Nat.reduceEqDiff,Nat.reduceAdd,Nat.reduceMul,Zi,cutA,Zr,Zo,Zq,Ze ZE ZR,Za Zt,Za ZA,hok.one,hok.solid,hi,wl,Int.reduceEq,decide_false,YI,Z6];exact rfl;exact rfl))
  (apply WO.call;(focus (simp only [rQ,Zc,li,lo,reduceIte,Nat.reduceEqDiff,Nat.reduceAdd,beq_self_eq_true];done));simp only [rE,rS,li,lo,reduceIte,Nat.reduceEqDiff,Nat.reduceAdd,Nat.reduceMul,Zi,cutA,Zr,Zo,Zq,Ze ZE ZR,Za Zt,Za ZA,hok.one,hok.solid,hi,wl,Int.reduceEq,decide_false,YI,Z6];exact rfl;exact fmtU16 _ _ hpl;rintro _ _ ⟨rfl,rfl⟩;refine ⟨_,rfl,?_⟩)
  iterate 2 (first|(apply Zh;exact rfl)|apply Zb|apply WO.nil|(apply Zk;exact rfl;simp only [rE,rS,li,lo,reduceIte,Nat.reduceEqDiff,Nat.reduceAdd,Nat.reduceMul,Zi,cutA,Zr,Zo,Zq,Ze ZE ZR,Za Zt,Za ZA,hok.one,hok.solid,hi,wl,Int.reduceEq,decide_false,YI,Z6];exact rfl;exact rfl))
  refine XC ?_
  exact tail _ _ ⟨by simp [Zd, Zm], by simp [Zd, ZK]⟩
end Go.Ev.C
end
section
set_option linter.unusedVariables false
set_option linter.unusedSimpArgs false
set_option linter.defProp false
set_option linter.all false
namespace Go.Ev.C
open Go.Proofs Go.Fmt Go.RowKit
set_option maxRecDepth 100000
set_option linter.unusedSimpArgs false
set_option maxHeartbeats 2000000 in
theorem converted111_c (H : AH) (x : XB) (sv : AV) (hok : ItOk x sv) (left : Bool) (d : List Nat) (hd : d ∈ Y7) : Fn Q YM 79 [.str (Xb left d 111),IV x sv] H (fun w H' => w = .str (pad left (Wz d) (ZK 111 x)) ∧ H' = H) := by
  refine Y2 (en79 _ _) rfl ?_
  generalize lock H = H
  have hdl := wid_len hd
  have hcl : (Xb left d 111).length = ((if left then [45] else []) ++ d).length + 2 := by unfold Xb; simp; omega
  have hwl : ((if left then [45] else []) ++ d).length ≤ 3 := by cases left <;> simp <;> omega
  have wl : IntKind.i64.wrap (((Xb left d 111).length : Int) - 1) = (((Xb left d 111).length - 1 : Nat) : Int) := by
    rw [Go.Ev.w64 (by omega) (by omega)]; omega
  have hi : XN Q 9 (.str (Xb left d 111)) (.int .i64 (((Xb left d 111).length - 1 : Nat) : Int)) = some (.int .u8 111) := by
    rw [XA (by omega)]
    have e : (Xb left d 111)[(Xb left d 111).length - 1]? = some 111 := by
      rw [hcl]
      unfold Xb
      simp
    rw [List.getElem?_eq_getElem (by omega)] at e
    rw [Option.some.inj e]
    rfl
  have cutA := cut10 (Zl .i64 x.act) (Zl .i64 x.val) (Zl .i64 x.kind) (Zl .i64 x.size) (Zp x.sg) (Zl .i64 x.ref) (Zp x.vstr) (Zl .i64 x.vn) (Y0 x.vs) hok.solid
  have hpl := pat_lt x
  have hlen : (ZK 111 x).length < 99999000 := by
    have hh10 := Yf 10 (Wa x)
    have hh16 := Yf 16 (Wa x)
    have hh8 := Yf 8 (Wa x)
    have hdn := dec_len x.vn
    have hvl := hok.len
    unfold ZK
    repeat' split
    all_goals (first | omega | (simp; omega) | simp)
  unfold c79 Tryz.f79 IV IC
  simp only [Option.getD_some]
  iterate 18 (first|(apply Zh;exact rfl)|apply Zb|apply WO.nil|(apply Zk;exact rfl;simp only [rE,rS,li,lo,reduceIte,Nat.reduceEqDiff,Nat.reduceAdd,Nat.reduceMul,Zi,cutA,Zr,Zo,Zq,Ze ZE ZR,Za Zt,Za ZA,hok.one,hok.solid,hi,wl,Int.reduceEq,decide_false,YI,Z6];exact rfl;exact rfl))
  refine WF.seq ?_
  refine WF.cutTH (fun t _ => t.get 0 = some (.str (Xb left d 111)) ∧ t.get 6 = some (.str (ZK 111 x))) ?_ ?_
  · rintro t H' ⟨t0, t6⟩
    exact convEnd_w H' left d 111 _ hd hlen t t0 t6
  intro tail
  repeat (first|(apply Zh;exact rfl)|apply Zb|apply WO.nil|(apply Zk;exact rfl;simp only [rE,rS,li,lo,reduceIte,Nat.reduceEqDiff,Nat.reduceAdd,Nat.reduceMul,Zi,cutA,Zr,Zo,Zq,Ze ZE ZR,Za Zt,Za ZA,hok.one,hok.solid,hi,wl,Int.reduceEq,decide_false,YI,Z6];exact rfl;exact rfl))
  (first|(apply WF.condT;(focus (simp only [Zg,Zf,Zd,Zm,Bool.not_true,Bool.not_false,reduceIte,Nat.reduceEqDiff,Int.reduceEq,decide_false];done)))|(apply WF.condF;(focus (simp only [Zg,Zf,Zd,Zm,Bool.not_true,Bool.not_false,reduceIte,Nat.reduceEqDiff,Int.reduceEq,decide_false];done))))
  repeat (first|(apply Zh;exact rfl)|apply Zb|apply WO.nil|(apply Zk;exact rfl;simp only [rE,rS,li,lo,reduceIte,Nat.reduceEqDiff,Nat.reduceAdd,Nat.reduceMul,Zi,cutA,Zr,Zo,Zq,Ze ZE ZR,Za Zt,Za ZA,hok.one,hok.solid,hi,wl,Int.reduceEq,decide_false,YI,Z6];exact rfl;exact rfl))
  (first|(apply WF.condT;(focus (simp only [Zg,Zf,Zd,Zm,Bool.not_true,Bool.not_false,reduceIte,Nat.reduceEqDiff,Int.reduceEq,decide_false];done)))|(apply WF.condF;(focus (simp only [Zg,Zf,Zd,Zm,Bool.not_true,Bool.not_false,reduceIte,Nat.reduceEqDiff,Int.reduceEq,decide_false];done))))
  repeat (first|(apply Zh;exact rfl)|apply Zb|apply WO.nil|(apply Zk;exact rfl;simp only [rE,rS,li,lo,reduceIte,Nat.reduceEqDiff,Nat.reduceAdd,Nat.reduceMul,Zi,cutA,Zr,Zo,Zq,Ze ZE ZR,Za Zt,Za ZA,hok.one,hok.solid,hi,wl,Int.reduceEq,decide_false,YI,Z6];exact rfl;exact rfl))
  (first|(apply WF.condT;(focus (simp only [Zg,Zf,Zd,Zm,Bool.not_true,Bool.not_false,reduceIte,Nat.reduceEqDiff,Int.reduceEq,decide_false];done)))|(apply WF.condF;(focus (simp only [Zg,Zf,Zd,Zm,Bool.not_true,Bool.not_false,reduceIte,Nat.reduceEqDiff,Int.reduceEq,decide_false];done))))
  repeat (first|(apply Zh;exact rfl)|apply Zb|apply WO.nil|(apply Zk;exact rfl;simp only [rE,rS,li,lo,reduceIte,Nat.reduceEqDiff,Nat.reduceAdd,Nat.reduceMul,Zi,cutA,Zr,Zo,Zq,Ze ZE ZR,Za Zt,Za ZA,hok.one,hok.solid,hi,wl,Int.reduceEq,decide_false,YI,Z6];exact rfl;exact rfl))
  (first|(apply WF.condT;(focus (simp only [Zg,Zf,Zd,Zm,Bool.not_true,Bool.not_false,reduceIte,Nat.reduceEqDiff,Int.reduceEq,decide_false];done)))|(apply WF.condF;(focus (simp only [Zg,Zf,Zd,Zm,Bool.not_true,Bool.not_false,reduceIte,Nat.reduceEqDiff,Int.reduceEq,decide_false];done))))
  repeat (first|(apply Zh;exact rfl)|apply Zb|apply WO.nil|(apply Zk;exact rfl;simp only [rE,rS,li,lo,reduceIte,Nat.reduceEqDiff,Nat.reduceAdd,Nat.reduceMul,Zi,cutA,Zr,Zo,Zq,Ze ZE ZR,Za Zt,Za ZA,hok.one,hok.solid,hi,wl,Int.reduceEq,decide_false,YI,Z6];exact rfl;exact rfl))
  (first|(apply WF.condT;(focus (simp only [Zg,Zf,Zd,Zm,Bool.not_true,Bool.not_false,reduceIte,Nat.reduceEqDiff,Int.reduceEq,decide_true];done)))|(apply WF.condF;(focus (simp only [Zg,Zf,Zd,Zm,Bool.not_true,Bool.not_false,reduceIte,Nat.reduceEqDiff,Int.reduceEq,decide_true];done))))
  repeat (first|(apply Zh;exact rfl)|apply Zb|apply WO.nil|(apply Zk;exact rfl;simp only [rE,rS,li,lo,reduceIte,Nat.reduceEqDiff,Nat.reduceAdd,Nat.reduceMul,Zi,cutA,Zr,Zo,Zq,Ze ZE ZR,Za Zt,Za ZA,hok.one,hok.solid,hi,wl,Int.reduceEq,decide_false,YI,Z6];exact rfl;exact rfl))
  (apply WO.call;(focus (simp only [rQ,Zc,li,lo,reduceIte,Nat.reduceEqDiff,Nat.reduceAdd,beq_self_eq_true];done));simp only [rE,rS,li,lo,reduceIte,Nat.reduceEqDiff,Nat.reduceAdd,Nat.reduceMul,Zi,cutA,Zr,Zo,Zq,Ze ZE ZR,Za Zt,Za ZA,hok.one,hok.solid,hi,wl,Int.reduceEq,decide_false,YI,Z6,cu120];exact rfl;exact pattern_c _ x sv hok.one hok.sz;rintro _ _ ⟨rfl,rfl⟩;refine ⟨_,rfl,?_⟩)
  repeat (first|(apply Zh;exact rfl)|apply Zb|apply WO.nil|(apply Zk;exact rfl;simp only [rE,rS,li,lo,reduceIte,Nat.reduceEqDiff,Nat.reduceAdd,Nat.reduceMul,Zi,cutA,Zr,Zo,Zq,Ze ZE ZR,Za Zt,Za ZA,hok.one,hok.solid,hi,wl,Int.reduceEq,decide_false,YI,Z6];exact rfl;exact rfl))
  (apply WO.call;(focus (simp only [rQ,Zc,li,lo,reduceIte,Nat.reduceEqDiff,Nat.reduceAdd,beq_self_eq_true];done));simp only [rE,rS,li,lo,reduceIte,Nat.reduceEqDiff,Nat.reduceAdd,Nat.reduceMul,Zi,cutA,Zr,Zo,Zq,Ze ZE ZR,Za Zt,Za ZA,hok.one,hok.solid,hi,wl,Int.reduceEq,decide_false,YI,Z6];exact rfl;exact fmtU8 _ _ hpl;rintro _ _ ⟨rfl,rfl⟩;refine ⟨_,rfl,?_⟩)
  iterate 2 (first|(apply Zh;exact rfl)|apply Zb|apply WO.nil|(apply Zk;exact rfl;simp only [rE,rS,li,lo,reduceIte,Nat.reduceEqDiff,Nat.reduceAdd,Nat.reduceMul,Zi,cutA,Zr,Zo,Zq,Ze ZE ZR,Za Zt,Za ZA,hok.one,hok.solid,hi,wl,Int.reduceEq,decide_false,YI,Z6];exact rfl;exact rfl))
  refine XC ?_
  exact tail _ _ ⟨by simp [Zd, Zm], by simp [Zd, ZK]⟩
set_option maxHeartbeats 2000000 in
theorem converted112_c (H : AH) (x : XB) (sv : AV) (hok : ItOk x sv) (left : Bool) (d : List Nat) (hd : d ∈ Y7) : Fn Q YM 79 [.str (Xb left d 112),IV x sv] H (fun w H' => w = .str (pad left (Wz d) (ZK 112 x)) ∧ H' = H) := by
  refine Y2 (en79 _ _) rfl ?_
  generalize lock H = H
  have hdl := wid_len hd
  have hcl : (Xb left d 112).length = ((if left then [45] else []) ++ d).length + 2 := by unfold Xb; simp; omega
  have hwl : ((if left then [45] else []) ++ d).length ≤ 3 := by cases left <;> simp <;> omega
  have wl : IntKind.i64.wrap (((Xb left d 112).length : Int) - 1) = (((Xb left d 112).length - 1 : Nat) : Int) := by
    rw [Go.Ev.w64 (by omega) (by omega)]; omega
  have hi : XN Q 9 (.str (Xb left d 112)) (.int .i64 (((Xb left d 112).length - 1 : Nat) : Int)) = some (.int .u8 112) := by
    rw [XA (by omega)]
    have e : (Xb left d 112)[(Xb left d 112).length - 1]? = some 112 := by
      rw [hcl]
      unfold Xb
      simp
    rw [List.getElem?_eq_getElem (by omega)] at e
    rw [Option.some.inj e]
    rfl
  have cutA := cut10 (Zl .i64 x.act) (Zl .i64 x.val) (Zl .i64 x.kind) (Zl .i64 x.size) (Zp x.sg) (Zl .i64 x.ref) (Zp x.vstr) (Zl .i64 x.vn) (Y0 x.vs) hok.solid
  have hpl := pat_lt x
  have hlen : (ZK 112 x).length < 99999000 := by
    have hh10 := Yf 10 (Wa x)
    have hh16 := Yf 16 (Wa x)
    have hh8 := Yf 8 (Wa x)
    have hdn := dec_len x.vn
    have hvl := hok.len
    unfold ZK
    repeat' split
    all_goals (first | omega | (simp; omega) | simp)
  unfold c79 Tryz.f79 IV IC
  simp only [Option.getD_some]
  iterate 18 (first|(apply Zh;exact rfl)|apply Zb|apply WO.nil|(apply Zk;exact rfl;simp only [rE,rS,li,lo,reduceIte,Nat.reduceEqDiff,Nat.reduceAdd,Nat.reduceMul,Zi,cutA,Zr,Zo,Zq,Ze ZE ZR,Za Zt,Za ZA,hok.one,hok.solid,hi,wl,Int.reduceEq,decide_false,YI,Z6];exact rfl;exact rfl))
  refine WF.seq ?_
  refine WF.cutTH (fun t _ => t.get 0 = some (.str (Xb left d 112)) ∧ t.get 6 = some (.str (ZK 112 x))) ?_ ?_
  · rintro t H' ⟨t0, t6⟩
    exact convEnd_w H' left d 112 _ hd hlen t t0 t6
  intro tail
  repeat (first|(apply Zh;exact rfl)|apply Zb|apply WO.nil|(apply Zk;exact rfl;simp only [rE,rS,li,lo,reduceIte,Nat.reduceEqDiff,Nat.reduceAdd,Nat.reduceMul,Zi,cutA,Zr,Zo,Zq,Ze ZE ZR,Za Zt,Za ZA,hok.one,hok.solid,hi,wl,Int.reduceEq,decide_false,YI,Z6];exact rfl;exact rfl))
  (first|(apply WF.condT;(focus (simp only [Zg,Zf,Zd,Zm,Bool.not_true,Bool.not_false,reduceIte,Nat.reduceEqDiff,Int.reduceEq,decide_false];done)))|(apply WF.condF;(focus (simp only [Zg,Zf,Zd,Zm,Bool.not_true,Bool.not_false,reduceIte,Nat.reduceEqDiff,Int.reduceEq,decide_false];done))))
  repeat (first|(apply Zh;exact rfl)|apply Zb|apply WO.nil|(apply Zk;exact rfl;simp only [rE,rS,li,lo,reduceIte,Nat.reduceEqDiff,Nat.reduceAdd,Nat.reduceMul,Zi,cutA,Zr,Zo,Zq,Ze ZE ZR,Za Zt,Za ZA,hok.one,hok.solid,hi,wl,Int.reduceEq,decide_false,YI,Z6];exact rfl;exact rfl))
  (first|(apply WF.condT;(focus (simp only [Zg,Zf,Zd,Zm,Bool.not_true,Bool.not_false,reduceIte,Nat.reduceEqDiff,Int.reduceEq,decide_false];done)))|(apply WF.condF;(focus (simp only [Zg,Zf,Zd,Zm,Bool.not_true,Bool.not_false,reduceIte,Nat.reduceEqDiff,Int.reduceEq,decide_false];done))))
  repeat (first|(apply Zh;exact rfl)|apply Zb|apply WO.nil|(apply Zk;exact rfl;simp only [rE,rS,li,lo,reduceIte,Nat.reduceEqDiff,Nat.reduceAdd,Nat.reduceMul,Zi,cutA,Zr,Zo,Zq,Ze ZE ZR,Za Zt,Za ZA,hok.one,hok.solid,hi,wl,Int.reduceEq,decide_false,YI,Z6];exact rfl;exact rfl))
  (first|(apply WF.condT;(focus (simp only [Zg,Zf,Zd,Zm,Bool.not_true,Bool.not_false,reduceIte,Nat.reduceEqDiff,Int.reduceEq,decide_false];done)))|(apply WF.condF;(focus (simp only [Zg,Zf,Zd,Zm,Bool.not_true,Bool.not_false,reduceIte,Nat.reduceEqDiff,Int.reduceEq,decide_false];done))))
  repeat (first|(apply Zh;exact rfl)|apply Zb|apply WO.nil|(apply Zk;exact rfl;simp only [rE,rS,li,lo,reduceIte,Nat.reduceEqDiff,Nat.reduceAdd,Nat.reduceMul,Zi,cutA,Zr,Zo,Zq,Ze ZE ZR,Za Zt,Za ZA,hok.one,hok.solid,hi,wl,Int.reduceEq,decide_false,YI,Z6];exact rfl;exact rfl))
  (first|(apply WF.condT;(focus (simp only [Zg,Zf,Zd,Zm,Bool.not_true,Bool.not_false,reduceIte,Nat.reduceEqDiff,Int.reduceEq,decide_false];done)))|(apply WF.condF;(focus (simp only [Zg,Zf,Zd,Zm,Bool.not_true,Bool.not_false,reduceIte,Nat.reduceEqDiff,Int.reduceEq,decide_false];done))))
  repeat (first|(apply Zh;exact rfl)|apply Zb|apply WO.nil|(apply Zk;exact rfl;simp only [rE,rS,li,lo,reduceIte,Nat.reduceEqDiff,Nat.reduceAdd,Nat.reduceMul,Zi,cutA,Zr,Zo,Zq,Ze ZE ZR,Za Zt,Za ZA,hok.one,hok.solid,hi,wl,Int.reduceEq,decide_false,YI,Z6];exact rfl;exact rfl))
  (first|(apply WF.condT;(focus (simp only [Zg,Zf,Zd,Zm,Bool.not_true,Bool.not_false,reduceIte,Nat.reduceEqDiff,Int.reduceEq,decide_false];done)))|(apply WF.condF;(focus (simp only [Zg,Zf,Zd,Zm,Bool.not_true,Bool.not_false,reduceIte,Nat.reduceEqDiff,Int.reduceEq,decide_false];done))))
  repeat (first|(apply Zh;exact rfl)|apply Zb|apply WO.nil|(apply Zk;exact rfl;simp only [rE,rS,li,lo,reduceIte,Nat.reduceEqDiff,Nat.reduceAdd,Nat.reduceMul,Zi,cutA,Zr,Zo,Zq,Ze ZE ZR,Za Zt,Za ZA,hok.one,hok.solid,hi,wl,Int.reduceEq,decide_false,YI,Z6];exact rfl;exact rfl))
  (first|(apply WF.condT;(focus (simp only [Zg,Zf,Zd,Zm,Bool.not_true,Bool.not_false,reduceIte,Nat.reduceEqDiff,Int.reduceEq,decide_true];done)))|(apply WF.condF;(focus (simp only [Zg,Zf,Zd,Zm,Bool.not_true,Bool.not_false,reduceIte,Nat.reduceEqDiff,Int.reduceEq,decide_true];done))))
  repeat (first|(apply Zh;exact rfl)|apply Zb|apply WO.nil|(apply Zk;exact rfl;simp only [rE,rS,li,lo,reduceIte,Nat.reduceEqDiff,Nat.reduceAdd,Nat.reduceMul,Zi,cutA,Zr,Zo,Zq,Ze ZE ZR,Za Zt,Za ZA,hok.one,hok.solid,hi,wl,Int.reduceEq,decide_false,YI,Z6];exact rfl;exact rfl))
  (apply WO.call;(focus (simp only [rQ,Zc,li,lo,reduceIte,Nat.reduceEqDiff,Nat.reduceAdd,beq_self_eq_true];done));simp only [rE,rS,li,lo,reduceIte,Nat.reduceEqDiff,Nat.reduceAdd,Nat.reduceMul,Zi,cutA,Zr,Zo,Zq,Ze ZE ZR,Za Zt,Za ZA,hok.one,hok.solid,hi,wl,Int.reduceEq,decide_false,YI,Z6,cu120];exact rfl;exact pattern_c _ x sv hok.one hok.sz;rintro _ _ ⟨rfl,rfl⟩;refine ⟨_,rfl,?_⟩)
  repeat (first|(apply Zh;exact rfl)|apply Zb|apply WO.nil|(apply Zk;exact rfl;simp only [rE,rS,li,lo,reduceIte,Nat.reduceEqDiff,Nat.reduceAdd,Nat.reduceMul,Zi,cutA,Zr,Zo,Zq,Ze ZE ZR,Za Zt,Za ZA,hok.one,hok.solid,hi,wl,Int.reduceEq,decide_false,YI,Z6];exact rfl;exact rfl))
  (apply WO.call;(focus (simp only [rQ,Zc,li,lo,reduceIte,Nat.reduceEqDiff,Nat.reduceAdd,beq_self_eq_true];done));simp only [rE,rS,li,lo,reduceIte,Nat.reduceEqDiff,Nat.reduceAdd,Nat.reduceMul,Zi,cutA,Zr,Zo,Zq,Ze ZE ZR,Za Zt,Za ZA,hok.one,hok.solid,hi,wl,Int.reduceEq,decide_false,YI,Z6];exact rfl;exact fmtU16 _ _ hpl;rintro _ _ ⟨rfl,rfl⟩;refine ⟨_,rfl,?_⟩)
  have hadd := bin_addX (P := Q) 9 (hx 16 (Wa x)) (by have := Yf 16 (Wa x); omega)
  iterate 3 (first|(apply Zh;exact rfl)|apply Zb|apply WO.nil|(apply Zk;exact rfl;simp only [rE,rS,li,lo,reduceIte,Nat.reduceEqDiff,Nat.reduceAdd,Nat.reduceMul,Zi,cutA,Zr,Zo,Zq,Ze ZE ZR,Za Zt,Za ZA,hok.one,hok.solid,hi,wl,Int.reduceEq,decide_false,YI,Z6,hadd];exact rfl;exact rfl))
  refine XC ?_
  exact tail _ _ ⟨by simp [Zd, Zm], by simp [Zd, ZK]⟩
set_option maxHeartbeats 2000000 in
theorem converted99_c (H : AH) (x : XB) (sv : AV) (hok : ItOk x sv) (left : Bool) (d : List Nat) (hd : d ∈ Y7) : Fn Q YM 79 [.str (Xb left d 99),IV x sv] H (fun w H' => w = .str (pad left (Wz d) (ZK 99 x)) ∧ H' = H) := by
  refine Y2 (en79 _ _) rfl ?_
  generalize lock H = H
  have hdl := wid_len hd
  have hcl : (Xb left d 99).length = ((if left then [45] else []) ++ d).length + 2 := by unfold Xb; simp; omega
  have hwl : ((if left then [45] else []) ++ d).length ≤ 3 := by cases left <;> simp <;> omega
  have wl : IntKind.i64.wrap (((Xb left d 99).length : Int) - 1) = (((Xb left d 99).length - 1 : Nat) : Int) := by
    rw [Go.Ev.w64 (by omega) (by omega)]; omega
  have hi : XN Q 9 (.str (Xb left d 99)) (.int .i64 (((Xb left d 99).length - 1 : Nat) : Int)) = some (.int .u8 99) := by
    rw [XA (by omega)]
    have e : (Xb left d 99)[(Xb left d 99).length - 1]? = some 99 := by
      rw [hcl]
      unfold Xb
      simp
    rw [List.getElem?_eq_getElem (by omega)] at e
    rw [Option.some.inj e]
    rfl
  have cutA := cut10 (Zl .i64 x.act) (Zl .i64 x.val) (Zl .i64 x.kind) (Zl .i64 x.size) (Zp x.sg) (Zl .i64 x.ref) (Zp x.vstr) (Zl .i64 x.vn) (Y0 x.vs) hok.solid
  have hpl := pat_lt x
  have hlen : (ZK 99 x).length < 99999000 := by
    have hh10 := Yf 10 (Wa x)
    have hh16 := Yf 16 (Wa x)
    have hh8 := Yf 8 (Wa x)
    have hdn := dec_len x.vn
    have hvl := hok.len
    unfold ZK
    repeat' split
    all_goals (first | omega | (simp; omega) | simp)
  unfold c79 Tryz.f79 IV IC
  simp only [Option.getD_some]
  iterate 18 (first|(apply Zh;exact rfl)|apply Zb|apply WO.nil|(apply Zk;exact rfl;simp only [rE,rS,li,lo,reduceIte,Nat.reduceEqDiff,Nat.reduceAdd,Nat.reduceMul,Zi,cutA,Zr,Zo,Zq,Ze ZE ZR,Za Zt,Za ZA,hok.one,hok.solid,hi,wl,Int.reduceEq,decide_false,YI,Z6];exact rfl;exact rfl))
  refine WF.seq ?_
  refine WF.cutTH (fun t _ => t.get 0 = some (.str (Xb left d 99)) ∧ t.get 6 = some (.str (ZK 99 x))) ?_ ?_
  · rintro t H' ⟨t0, t6⟩
    exact convEnd_w H' left d 99 _ hd hlen t t0 t6
  intro tail
  repeat (first|(apply Zh;exact rfl)|apply Zb|apply WO.nil|(apply Zk;exact rfl;simp only [rE,rS,li,lo,reduceIte,Nat.reduceEqDiff,Nat.reduceAdd,Nat.reduceMul,Zi,cutA,Zr,Zo,Zq,Ze ZE ZR,Za Zt,Za ZA,hok.one,hok.solid,hi,wl,Int.reduceEq,decide_false,YI,Z6];exact rfl;exact rfl))
  (first|(apply WF.condT;(focus (simp only [Zg,Zf,Zd,Zm,Bool.not_true,Bool.not_false,reduceIte,Nat.reduceEqDiff,Int.reduceEq,decide_false];done)))|(apply WF.condF;(focus (simp only [Zg,Zf,Zd,Zm,Bool.not_true,Bool.not_false,reduceIte,Nat.reduceEqDiff,Int.reduceEq,decide_false];done))))
  repeat (first|(apply Zh;exact rfl)|apply Zb|apply WO.nil|(apply Zk;exact rfl;simp only [rE,rS,li,lo,reduceIte,Nat.reduceEqDiff,Nat.reduceAdd,Nat.reduceMul,Zi,cutA,Zr,Zo,Zq,Ze ZE ZR,Za Zt,Za ZA,hok.one,hok.solid,hi,wl,Int.reduceEq,decide_false,YI,Z6];exact rfl;exact rfl))
  (first|(apply WF.condT;(focus (simp only [Zg,Zf,Zd,Zm,Bool.not_true,Bool.not_false,reduceIte,Nat.reduceEqDiff,Int.reduceEq,decide_false];done)))|(apply WF.condF;(focus (simp only [Zg,Zf,Zd,Zm,Bool.not_true,Bool.not_false,reduceIte,Nat.reduceEqDiff,Int.reduceEq,decide_false];done))))
  repeat (first|(apply Zh;exact rfl)|apply Zb|apply WO.nil|(apply Zk;exact rfl;simp only [rE,rS,li,lo,reduceIte,Nat.reduceEqDiff,Nat.reduceAdd,Nat.reduceMul,Zi,cutA,Zr,Zo,Zq,Ze ZE ZR,Za Zt,Za ZA,hok.one,hok.solid,hi,wl,Int.reduceEq,decide_false,YI,Z6];exact rfl;exact rfl))
  (first|(apply WF.condT;(focus (simp only [Zg,Zf,Zd,Zm,Bool.not_true,Bool.not_false,reduceIte,Nat.reduceEqDiff,Int.reduceEq,decide_false];done)))|(apply WF.condF;(focus (simp only [Zg,Zf,Zd,Zm,Bool.not_true,Bool.not_false,reduceIte,Nat.reduceEqDiff,Int.reduceEq,decide_false];done))))
  repeat (first|(apply Zh;exact rfl)|apply Zb|apply WO.nil|(apply Zk;exact rfl;simp only [rE,rS,li,lo,reduceIte,Nat.reduceEqDiff,Nat.reduceAdd,Nat.reduceMul,Zi,cutA,Zr,Zo,Zq,Ze ZE ZR,Za Zt,Za ZA,hok.one,hok.solid,hi,wl,Int.reduceEq,decide_false,YI,Z6];exact rfl;exact rfl))
  (first|(apply WF.condT;(focus (simp only [Zg,Zf,Zd,Zm,Bool.not_true,Bool.not_false,reduceIte,Nat.reduceEqDiff,Int.reduceEq,decide_false];done)))|(apply WF.condF;(focus (simp only [Zg,Zf,Zd,Zm,Bool.not_true,Bool.not_false,reduceIte,Nat.reduceEqDiff,Int.reduceEq,decide_false];done))))
  repeat (first|(apply Zh;exact rfl)|apply Zb|apply WO.nil|(apply Zk;exact rfl;simp only [rE,rS,li,lo,reduceIte,Nat.reduceEqDiff,Nat.reduceAdd,Nat.reduceMul,Zi,cutA,Zr,Zo,Zq,Ze ZE ZR,Za Zt,Za ZA,hok.one,hok.solid,hi,wl,Int.reduceEq,decide_false,YI,Z6];exact rfl;exact rfl))
  (first|(apply WF.condT;(focus (simp only [Zg,Zf,Zd,Zm,Bool.not_true,Bool.not_false,reduceIte,Nat.reduceEqDiff,Int.reduceEq,decide_false];done)))|(apply WF.condF;(focus (simp only [Zg,Zf,Zd,Zm,Bool.not_true,Bool.not_false,reduceIte,Nat.reduceEqDiff,Int.reduceEq,decide_false];done))))
  repeat (first|(apply Zh;exact rfl)|apply Zb|apply WO.nil|(apply Zk;exact rfl;simp only [rE,rS,li,lo,reduceIte,Nat.reduceEqDiff,Nat.reduceAdd,Nat.reduceMul,Zi,cutA,Zr,Zo,Zq,Ze ZE ZR,Za Zt,Za ZA,hok.one,hok.solid,hi,wl,Int.reduceEq,decide_false,YI,Z6];exact rfl;exact rfl))
  (first|(apply WF.condT;(focus (simp only [Zg,Zf,Zd,Zm,Bool.not_true,Bool.not_false,reduceIte,Nat.reduceEqDiff,Int.reduceEq,decide_false];done)))|(apply WF.condF;(focus (simp only [Zg,Zf,Zd,Zm,Bool.not_true,Bool.not_false,reduceIte,Nat.reduceEqDiff,Int.reduceEq,decide_false];done))))
  repeat (first|(apply Zh;exact rfl)|apply Zb|apply WO.nil|(apply Zk;exact rfl;simp only [rE,rS,li,lo,reduceIte,Nat.reduceEqDiff,Nat.reduceAdd,Nat.reduceMul,Zi,cutA,Zr,Zo,Zq,Ze ZE ZR,Za Zt,Za ZA,hok.one,hok.solid,hi,wl,Int.reduceEq,decide_false,YI,Z6];exact rfl;exact rfl))
  (first|(apply WF.condT;(focus (simp only [Zg,Zf,Zd,Zm,Bool.not_true,Bool.not_false,reduceIte,Nat.reduceEqDiff,Int.reduceEq,decide_true];done)))|(apply WF.condF;(focus (simp only [Zg,Zf,Zd,Zm,Bool.not_true,Bool.not_false,reduceIte,Nat.reduceEqDiff,Int.reduceEq,decide_true];done))))
  have hm : (x.vn % 256).toNat < 256 := by omega
  have hcv := conv1 (H := ⟨H.t.put H.next (some (.cells 70 [.int .i64 x.act,.int .i64 x.val,.int .i64 x.kind,.int .i64 x.size,.bool x.sg,.int .i64 x.ref,.bool x.vstr,.int .i64 x.vn,.str x.vs,sv] 0 false false)),H.next + 1⟩) (x.vn % 256).toNat hm
  dsimp only at hcv
  iterate 9 (first|(apply Zh;exact rfl)|apply Zb|apply WO.nil|(apply Zk;exact rfl;simp only [rE,rS,li,lo,reduceIte,Nat.reduceEqDiff,Nat.reduceAdd,Nat.reduceMul,Zi,cutA,Zr,Zo,Zq,Ze ZE ZR,Za Zt,Za ZA,hok.one,hok.solid,hi,wl,Int.reduceEq,decide_false,YI,Z6,ZN,Yx,und5,XH,und9,wrap_u8,bs35_1,mkB8_int,hcv];exact rfl;exact rfl))
  refine XC ?_
  exact tail _ _ ⟨by simp [Zd, Zm], by simp [Zd, ZK]⟩
end Go.Ev.C
end
