/- Contracts: strings.Builder; items and conversions. -/
import Derived.Test.YtkkegnkopmpjhaaGreatDoorEvG
section
set_option linter.unusedVariables false
set_option linter.unusedSimpArgs false
set_option linter.defProp false
set_option linter.all false
namespace Go.Ev.C
open Go.Proofs Go.Fmt
set_option maxRecDepth 100000
set_option linter.unusedSimpArgs false
variable {L : World → Prop} [YQ Q L]
def AV.blk : AV → Option Nat
  | .slice b _ _ _ => some b
  | _ => none
/-- Cells appended. -/
theorem OwnL.app {e : TypeId} {H0 H : AH} {v : AV} {l cs : List AV} (h : OwnL e H0 H v l) (hu : Up H0 H) (hc1 : cs.all Ye = true) (hl1 : l.all Ye = true) (hl2 : l.all ZO = true) (hn : l.length + cs.length ≤ 274877906944) :
    ∃ v' H',Y1 e 1 v cs.length cs H = some (v',H') ∧ OwnL e H0 H' v' (l ++ cs) ∧ Up H0 H' ∧ H.next ≤ H'.next ∧ (∀ b,b < H.next → AV.blk v ≠ some b → H'.t.get b = H.t.get b) ∧ (∀ b,AV.blk v' = some b → AV.blk v = some b ∨ H.next ≤ b) := by
  have h0 := hu.next
  by_cases hz : cs = []
  · subst hz
    rcases h with ⟨rfl, rfl⟩ | ⟨hne, b, rfl, hb0, hb, hg⟩
    · exact ⟨_, _, appendTo_nil0 _ _ _ _, .inl ⟨rfl, rfl⟩, hu, Nat.le_refl _, fun _ _ _ => rfl, fun b hb => .inl hb⟩
    · refine ⟨_, _, appendTo_up0 (by simpa using hn), .inr ⟨by simpa using hne, b, by simp, hb0, hb, by simpa using hg⟩, hu, Nat.le_refl _, fun _ _ _ => rfl, fun b hb => .inl hb⟩
  have hz0 : cs.length ≠ 0 := fun h => hz (List.length_eq_zero_iff.1 h)
  rcases h with ⟨rfl, rfl⟩ | ⟨hne, b, rfl, hb0, hb, hg⟩
  · rw [appendTo_nil hz0 (by simpa using hn) hc1]
    refine ⟨_, _, rfl, .inr ⟨by simpa using hz, H.next, rfl, h0, Nat.lt_succ_self _, ?_⟩, hu.trans (Up.box _ _), Nat.le_succ _, fun b hb _ => ?_, fun b hb => ?_⟩
    · show (Tri.put _ _ _).get _ = _
      rw [Zd, if_pos rfl]
      rfl
    · show (Tri.put _ _ _).get _ = _
      rw [Zd, if_neg (by omega)]
    · cases hb
      exact .inr (Nat.le_refl _)
  · rw [appendTo_up hg (cut_self (by rw [Nat.mul_one]) hl2) hz0 hn hl1 hc1]
    refine ⟨_, _, rfl, .inr ⟨by simp [hne], H.next, by simp, h0, Nat.lt_succ_self _, ?_⟩, ?_, Nat.le_succ _, fun b' hb' hne' => ?_, fun b' hb' => ?_⟩
    · show (Tri.put _ _ _).get _ = _
      rw [Zd, if_pos rfl]
    · refine ⟨by show H0.next ≤ H.next + 1; omega, fun b' hb' => ?_⟩
      show ((Tri.put _ _ _).put H.next _).get _ = _
      rw [Zd, if_neg (by omega), Zd, if_neg (by omega)]
      exact hu.old b' hb'
    · show ((Tri.put _ _ _).put H.next _).get _ = _
      rw [Zd, if_neg (by omega), Zd, if_neg]
      rintro rfl
      exact hne' rfl
    · cases hb'
      exact .inr (Nat.le_refl _)
def bsL (s : List Nat) : List AV := s.map byteV
theorem bsL_one (s : List Nat) : (bsL s).all Ye = true := List.all_eq_true.2 fun v hv => by obtain ⟨x, _, rfl⟩ := List.mem_map.1 hv; rfl
theorem bsL_hole (s : List Nat) : (bsL s).all ZO = true := List.all_eq_true.2 fun v hv => by obtain ⟨x, _, rfl⟩ := List.mem_map.1 hv; rfl
theorem bsL_len (s : List Nat) : (bsL s).length = s.length := by simp [bsL]
theorem byteL_map : ∀ {bs : List Nat}, (∀ n ∈ bs, n < 256) → byteL (bsL bs) = some bs
  | [], _ => rfl
  | n :: bs, h => by
    have h1 : Nat.blt n 256 = true := by rw [Nat.blt_eq]; exact h n (by simp)
    have ih := byteL_map (bs := bs) fun k hk => h k (by simp [hk])
    show (if Nat.blt n 256 then (byteL (bsL bs)).map (n :: ·) else none) = some (n :: bs)
    rw [if_pos h1, ih]
    rfl
/-- A builder that holds a text. -/
def BufAt (H0 H : AH) (b : Nat) (s : List Nat) : Prop := H0.next ≤ b ∧ b < H.next ∧ (∀ n ∈ s,n < 256) ∧ ∃ pv bv,H.t.get b = some (.cells 170 [pv,bv] 0 false false) ∧ (pv = .nilptr ∨ pv = .ptr b 0) ∧ OwnL 5 H0 H bv (bsL s) ∧ AV.blk bv ≠ some b
theorem eqP1 : YP Q .eql 168 .nilptr .nilptr = some (.bool true) := by kernel_rfl
theorem eqP2 (b o : Nat) : YP Q .eql 168 (.ptr b o) .nilptr = some (.bool false) := by kernel_rfl
theorem neP (b : Nat) : YP Q .neq 168 (.ptr b 0) (.ptr b 0) = some (.bool false) := by
  have h : YP Q .neq 168 (.ptr b 0) (.ptr b 0) = ((if Nat.beq b b then some (Nat.beq 0 0) else none).map fun x => .bool !x) := by kernel_rfl
  rw [h, if_pos (by simp)]
  rfl
theorem gP1 (t : TypeId) (x y : Operand) : YC Q .eql t x y .nilptr .nilptr = true := rfl
theorem gP2 (t : TypeId) (x y : Operand) (b o : Nat) : YC Q .eql t x y (.ptr b o) .nilptr = true := rfl
theorem gP3 (t : TypeId) (x y : Operand) (b o b' o' : Nat) : YC Q .neq t x y (.ptr b o) (.ptr b' o') = true := rfl
theorem und282 : Yi Q 282 = some .unsafePointer := by kernel_rfl
theorem cv168 {H : AH} {b : Nat} {x y : AV} (hg : H.t.get b = some (.cells 170 [x, y] 0 false false)) : convE Q 168 282 (.ptr b 0) H = some (.ptr b 0, H) := by
  simp only [convE, und168, und282, hg, sz170]
  rfl
theorem cv282 {H : AH} {b : Nat} {x y : AV} (hg : H.t.get b = some (.cells 170 [x, y] 0 false false)) : convE Q 282 168 (.ptr b 0) H = some (.ptr b 0, H) := by
  simp only [convE, und168, und282, hg, sz170]
  rfl
theorem cu154 (v : AV) (H : AH) : Z3 Q (.func 154 [] []) [v] H = some (.val v, H) := by kernel_rfl
theorem store168 {H : AH} {b : Nat} {x y z : AV} (hg : H.t.get b = some (.cells 170 [x,y] 0 false false)) (hz : Ye z = true) (hc : z.cells = [z]) : Wn Q 168 b 0 z H = some (H.set b (.cells 170 [z,y] 0 false false)) := by
  unfold Wn
  rw [hg, sz168, hc]
  simp [over, hz]
theorem store35b {H : AH} {b : Nat} {x y z : AV} (hg : H.t.get b = some (.cells 170 [x,y] 0 false false)) (hz : Ye z = true) (hc : z.cells = [z]) : Wn Q 35 b 1 z H = some (H.set b (.cells 170 [x,z] 0 false false)) := by
  unfold Wn
  rw [hg, sz35, hc]
  simp [over, hz]
theorem get_set {H : AH} {b : Nat} {B : AB} : (H.set b B).t.get b = some B := by unfold AH.set; rw [Zd, if_pos rfl]
theorem get_set_ne {H : AH} {b b' : Nat} {B : AB} (h : b' ≠ b) : (H.set b B).t.get b' = H.t.get b' := by unfold AH.set; rw [Zd, if_neg h]
theorem at_get {H : AH} {b : Nat} {e : TypeId} {c : List AV} {fz : Nat} {mk ro : Bool} (h : H.t.get b = some (.cells e c fz mk ro)) : H.cellsAt b = some c := by unfold AH.cellsAt; rw [h]
theorem copyCheck_c (H : AH) (b : Nat) (pv bv : AV) (hb1 : Ye bv = true) (hb2 : ZO bv = true) (hg : H.t.get b = some (.cells 170 [pv, bv] 0 false false)) (hp : pv = .nilptr ∨ pv = .ptr b 0) :
    Fn Q L 114 [.ptr b 0] H (fun w H' => w = .tuple [] ∧ (H' = H.set b (.cells 170 [.ptr b 0, bv] 0 false false) ∨ (H' = H ∧ pv = .ptr b 0))) := by
  refine Fn.intro (en114 _) ?_
  have hc := at_get hg
  unfold c114 Tryz.f114
  simp only [Option.getD_some]
  rcases hp with rfl | rfl
  · repeat (first|(apply Zh;exact rfl)|apply Zb|apply WO.nil|(apply Zk;exact rfl;simp only [rE,rS,li,lo,reduceIte,Nat.reduceEqDiff,Nat.reduceAdd,Nat.reduceMul,fa170_0,YJ,Za agg168,Za XY,hc,convertE,cu154,gP1,gP2,gP3,eqP1,eqP2,neP];exact rfl;exact rfl))
    (first|(apply WF.condT;(focus (simp only [Zg,Zf,Zd,Zm,Bool.not_true,Bool.not_false,reduceIte,Nat.reduceEqDiff];done)))|(apply WF.condF;(focus (simp only [Zg,Zf,Zd,Zm,Bool.not_true,Bool.not_false,reduceIte,Nat.reduceEqDiff];done))))
    have st := store168 (z := .ptr b 0) hg rfl rfl
    repeat (first|(apply Zh;exact rfl)|apply Zb|apply WO.nil|(apply Zk;exact rfl;simp only [rE,rQ,li,lo,reduceIte,Nat.reduceEqDiff,Nat.reduceAdd,Nat.reduceMul,fa170_0,YJ,Za agg168,Za XY,hc,convertE,cu154,gP1,gP2,gP3,eqP1,eqP2,neP,cv168 hg,cv282 hg,st];exact rfl;exact rfl))
    refine WF.fall (v := .tuple []) ?_ ?_
    · simp only [rs114, Zj, Zv]
    · exact ⟨rfl, .inl rfl⟩
  · repeat (first|(apply Zh;exact rfl)|apply Zb|apply WO.nil|(apply Zk;exact rfl;simp only [rE,rS,li,lo,reduceIte,Nat.reduceEqDiff,Nat.reduceAdd,Nat.reduceMul,fa170_0,YJ,Za agg168,Za XY,hc,convertE,cu154,gP1,gP2,gP3,eqP1,eqP2,neP];exact rfl;exact rfl))
    (first|(apply WF.condT;(focus (simp only [Zg,Zf,Zd,Zm,Bool.not_true,Bool.not_false,reduceIte,Nat.reduceEqDiff];done)))|(apply WF.condF;(focus (simp only [Zg,Zf,Zd,Zm,Bool.not_true,Bool.not_false,reduceIte,Nat.reduceEqDiff];done))))
    repeat (first|(apply Zh;exact rfl)|apply Zb|apply WO.nil|(apply Zk;exact rfl;simp only [rE,rS,li,lo,reduceIte,Nat.reduceEqDiff,Nat.reduceAdd,Nat.reduceMul,fa170_0,YJ,Za agg168,Za XY,hc,convertE,cu154,gP1,gP2,gP3,eqP1,eqP2,neP];exact rfl;exact rfl))
    (first|(apply WF.condT;(focus (simp only [Zg,Zf,Zd,Zm,Bool.not_true,Bool.not_false,reduceIte,Nat.reduceEqDiff];done)))|(apply WF.condF;(focus (simp only [Zg,Zf,Zd,Zm,Bool.not_true,Bool.not_false,reduceIte,Nat.reduceEqDiff];done))))
    repeat (first|(apply Zh;exact rfl)|apply Zb|apply WO.nil|(apply Zk;exact rfl;simp only [rE,rS,li,lo,reduceIte,Nat.reduceEqDiff,Nat.reduceAdd,Nat.reduceMul,fa170_0,YJ,Za agg168,Za XY,hc,convertE,cu154,gP1,gP2,gP3,eqP1,eqP2,neP];exact rfl;exact rfl))
    refine WF.fall (v := .tuple []) ?_ ?_
    · simp only [rs114, Zj, Zv]
    · exact ⟨rfl, .inr ⟨rfl, rfl⟩⟩
end Go.Ev.C
end
section
set_option linter.unusedVariables false
set_option linter.unusedSimpArgs false
set_option linter.defProp false
set_option linter.all false
namespace Go.Ev.C
open Go.Proofs Go.Fmt
set_option maxRecDepth 100000
set_option linter.unusedSimpArgs false
variable {L : World → Prop} [YQ Q L]
theorem app35b (s x : AV) (H : AH) : appendU Q [35, 35] [s, x] H = (match YZ 1 x H with | some (n, cs) => Y1 5 1 s n cs H | none => none) := by kernel_rfl
theorem app359 (s : AV) (u : List Nat) (H : AH) : appendU Q [35, 9] [s, .str u] H = Y1 5 1 s u.length (bsL u) H := by
  have h : ∀ x, appendU Q [35, 9] [s, x] H = (match YZ 1 x H with | some (n, cs) => Y1 5 1 s n cs H | none => none) := fun x => by kernel_rfl
  rw [h]
  rfl
def mkB8 (a : Option AV) : Option New := match a with
  | some a => (match fillU (fun i => some (i * 1, 1)) [.int .u8 0] [(0, a)] with
    | some c => some (.cells 5 c 0 false false, fun b => .slice b 0 1 (.is 1))
    | none => none)
  | _ => none
theorem zero5 : zeroU Q 5 = some (.int .u8 0) := by kernel_rfl
theorem bs35_1 (t : Tri AV) (k : Nat) : Xa Q t 35 1 #[(0, .tmp k)] = mkB8 (t.get k) := by
  cases ha : t.get k with
  | none => simp [Xa, XH, YX, Zg, ha, mkB8]
  | some a =>
    simp [Xa, XH, sz5, zero5, YX, Zg, ha, mkB8, AV.cells]
    cases fillU (fun i => some (i, 1)) [AV.int .u8 0] [(0, a)] <;> rfl
theorem mkB8_int (x : Int) : mkB8 (some (.int .u8 x)) = some (.cells 5 [.int .u8 x] 0 false false, fun b => .slice b 0 1 (.is 1)) := rfl
theorem OwnL.cell {e : TypeId} {H0 H : AH} {v : AV} {l : List AV} (h : OwnL e H0 H v l) : Ye v = true ∧ ZO v = true ∧ v.cells = [v] := by
  rcases h with ⟨rfl, rfl⟩ | ⟨_, b, rfl, _⟩ <;> exact ⟨rfl, rfl, rfl⟩
/-- Behind copyCheck. -/
theorem BufAt.checked {H0 H : AH} {b : Nat} {s : List Nat} (hu : Up H0 H) (h : BufAt H0 H b s) : Fn Q L 114 [.ptr b 0] H (fun w H' => w = .tuple [] ∧ Up H0 H' ∧ ∃ bv,H0.next ≤ b ∧ b < H'.next ∧ H'.t.get b = some (.cells 170 [.ptr b 0,bv] 0 false false) ∧ OwnL 5 H0 H' bv (bsL s) ∧ AV.blk bv ≠ some b) := by
  obtain ⟨h1, h2, h3, pv, bv, hg, hp, hown, hne⟩ := h
  obtain ⟨c1, c2, _⟩ := hown.cell
  refine (copyCheck_c H b pv bv c1 c2 hg hp).mono ?_
  rintro w H' ⟨rfl, rfl | ⟨rfl, rfl⟩⟩
  · refine ⟨rfl, hu.set h1, bv, h1, h2, get_set, ?_, hne⟩
    rcases hown with hh | ⟨k0, bb, rfl, k2, k3, k4⟩
    · exact .inl hh
    · refine .inr ⟨k0, bb, rfl, k2, k3, ?_⟩
      rw [get_set_ne (fun e => hne (by rw [e]; rfl))]
      exact k4
  · exact ⟨rfl, hu, bv, h1, h2, hg, hown, hne⟩
/-- Behind the store of what append gave. -/
theorem buf_stored {H0 H H1 : AH} {b : Nat} {s u : List Nat} {bv v : AV} (hu : Up H0 H1) (h1 : H0.next ≤ b) (h2 : b < H.next) (hn : H.next ≤ H1.next) (h3 : ∀ n ∈ s ++ u,n < 256) (hown : OwnL 5 H0 H1 v (bsL s ++ bsL u)) (hne : AV.blk bv ≠ some b) (hb : ∀ b,AV.blk v = some b → AV.blk bv = some b ∨ H.next ≤ b) :
    Up H0 (H1.set b (.cells 170 [.ptr b 0, v] 0 false false)) ∧ BufAt H0 (H1.set b (.cells 170 [.ptr b 0, v] 0 false false)) b (s ++ u) := by
  have hvb : AV.blk v ≠ some b := fun e => by
    rcases hb b e with h | h
    · exact hne h
    · omega
  refine ⟨hu.set h1, h1, Nat.lt_of_lt_of_le h2 hn, h3, _, v, get_set, .inr rfl, ?_, hvb⟩
  unfold bsL at hown ⊢
  rw [List.map_append]
  rcases hown with hh | ⟨k0, bb, rfl, k2, k3, k4⟩
  · exact .inl hh
  · refine .inr ⟨k0, bb, rfl, k2, k3, ?_⟩
    rw [get_set_ne (fun e => hvb (by rw [e]; rfl))]
    exact k4
theorem writeByte_c (H0 H : AH) (b c : Nat) (s : List Nat) (hu : Up H0 H) (h : BufAt H0 H b s) (hc : c < 256) (hn : s.length < 274877906944) : Fn Q L 77 [.ptr b 0,.int .u8 (c : Int)] H (fun w H' => w = .niliface ∧ Up H0 H' ∧ BufAt H0 H' b (s ++ [c])) := by
  refine Fn.intro (en77 _ _) ?_
  have h8 := h.2.2.1
  unfold c77 Tryz.f77
  simp only [Option.getD_some]
  repeat (first|(apply Zh;exact rfl)|apply Zb|apply WO.nil|(apply Zk;exact rfl;simp only [rE,rS,li,lo,reduceIte,Nat.reduceEqDiff,Nat.reduceAdd,Nat.reduceMul,fa170_0,YJ,Za agg168,Za XY,cu114];exact rfl;exact rfl))
  (apply WO.call;(focus (simp only [rQ,Zc,li,lo,reduceIte,Nat.reduceEqDiff,Nat.reduceAdd,beq_self_eq_true];done));simp only [rE,rS,li,lo,reduceIte,Nat.reduceEqDiff,Nat.reduceAdd,Nat.reduceMul,fa170_0,YJ,Za agg168,Za XY,cu114];exact rfl;exact BufAt.checked hu h;rintro _ H1 ⟨rfl,hu1,bv,h1,h2,hg,hown,hne⟩;refine ⟨_,rfl,?_⟩)
  obtain ⟨c1, c2, c3⟩ := hown.cell
  have hc1 := at_get hg
  have hub := hu1.trans (Up.box H1 (some (.cells 5 [.int .u8 (c : Int)] 0 false false)))
  have hownb := hown.up (Up.box H1 (some (.cells 5 [.int .u8 (c : Int)] 0 false false)))
  obtain ⟨v', H2, hap, hown2, hu2, hn2, hk2, hb2⟩ := hownb.app hub (cs := bsL [c]) (bsL_one _) (bsL_one _) (bsL_hole _) (by rw [bsL_len]; simp [bsL]; omega)
  have hnew : YZ 1 (.slice H1.next 0 1 (.is 1)) ⟨H1.t.put H1.next (some (.cells 5 [.int .u8 (c : Int)] 0 false false)),H1.next + 1⟩ = some (1,bsL [c]) := newCells_some (by omega) (by rw [Yu,if_pos rfl];rfl) (cut_self rfl rfl)
  have hap2 : appendU Q [35, 35] [bv, .slice H1.next 0 1 (.is 1)] ⟨H1.t.put H1.next (some (.cells 5 [.int .u8 (c : Int)] 0 false false)), H1.next + 1⟩ = some (v', H2) := by
    rw [app35b, hnew]
    exact hap
  obtain ⟨d1, d2, d3⟩ := hown2.cell
  have hg2 : H2.t.get b = some (.cells 170 [.ptr b 0, bv] 0 false false) := by
    rw [hk2 b (by show b < H1.next + 1; omega) hne]
    show (Tri.put _ _ _).get _ = _
    rw [Zd, if_neg (by omega)]
    exact hg
  have st := store35b (z := v') hg2 d1 d3
  have x01 : (b = H1.next) = False := eq_false (by omega)
  repeat (first|(apply Zh;exact rfl)|apply Zb|apply WO.nil|(apply Zk;exact rfl;simp only [rE,rQ,li,lo,reduceIte,Nat.reduceEqDiff,Nat.reduceAdd,Nat.reduceMul,fa170_0,YJ,Za agg168,Za XY,cu114,hc1,c2,x01,bs35_1,mkB8_int,hap2,st];exact rfl;exact rfl))
  (apply WF.ret; (focus (simp only [Zj, Zd, Zm, Zv, reduceIte, Nat.reduceEqDiff, rs77]; exact rfl)))
  refine ⟨rfl, buf_stored hu2 h1 h2 (Nat.le_trans (Nat.le_succ _) hn2) ?_ hown2 hne ?_⟩
  · intro n hn
    rcases List.mem_append.1 hn with hn | hn
    · exact h8 n hn
    · simp at hn
      omega
  · intro b' hb'
    rcases hb2 b' hb' with hh | hh
    · exact .inl hh
    · exact .inr (by have : H1.next + 1 ≤ b' := hh; omega)
theorem writeString_c (H0 H : AH) (b : Nat) (u s : List Nat) (hu : Up H0 H) (h : BufAt H0 H b s) (hc : ∀ n ∈ u,n < 256) (hn : s.length + u.length ≤ 274877906944) : Fn Q L 71 [.ptr b 0,.str u] H (fun w H' => w = .tuple [.int .i64 (u.length : Int),.niliface] ∧ Up H0 H' ∧ BufAt H0 H' b (s ++ u)) := by
  refine Fn.intro (en71 _ _) ?_
  have h8 := h.2.2.1
  unfold c71 Tryz.f71
  simp only [Option.getD_some]
  repeat (first|(apply Zh;exact rfl)|apply Zb|apply WO.nil|(apply Zk;exact rfl;simp only [rE,rS,li,lo,reduceIte,Nat.reduceEqDiff,Nat.reduceAdd,Nat.reduceMul,fa170_0,YJ,Za agg168,Za XY,cu114];exact rfl;exact rfl))
  (apply WO.call;(focus (simp only [rQ,Zc,li,lo,reduceIte,Nat.reduceEqDiff,Nat.reduceAdd,beq_self_eq_true];done));simp only [rE,rS,li,lo,reduceIte,Nat.reduceEqDiff,Nat.reduceAdd,Nat.reduceMul,fa170_0,YJ,Za agg168,Za XY,cu114];exact rfl;exact BufAt.checked hu h;rintro _ H1 ⟨rfl,hu1,bv,h1,h2,hg,hown,hne⟩;refine ⟨_,rfl,?_⟩)
  obtain ⟨c1, c2, c3⟩ := hown.cell
  have hc1 := at_get hg
  obtain ⟨v', H2, hap, hown2, hu2, hn2, hk2, hb2⟩ := hown.app hu1 (cs := bsL u) (bsL_one _) (bsL_one _) (bsL_hole _) (by rw [bsL_len, bsL_len]; exact hn)
  rw [bsL_len] at hap
  have hap2 : appendU Q [35, 9] [bv, .str u] H1 = some (v', H2) := by
    rw [app359]
    exact hap
  obtain ⟨d1, d2, d3⟩ := hown2.cell
  have hg2 : H2.t.get b = some (.cells 170 [.ptr b 0, bv] 0 false false) := by
    rw [hk2 b h2 hne]
    exact hg
  have st := store35b (z := v') hg2 d1 d3
  repeat (first|(apply Zh;exact rfl)|apply Zb|apply WO.nil|(apply Zk;exact rfl;simp only [rE,rQ,li,lo,reduceIte,Nat.reduceEqDiff,Nat.reduceAdd,Nat.reduceMul,fa170_0,YJ,Za agg168,Za XY,cu114,hc1,c2,hap2,Zi,st];exact rfl;exact rfl))
  (apply WF.ret; (focus (simp only [Zj, Zd, Zm, Zv, reduceIte, Nat.reduceEqDiff, rs71]; exact rfl)))
  refine ⟨rfl, buf_stored hu2 h1 h2 hn2 ?_ hown2 hne hb2⟩
  intro n hn
  rcases List.mem_append.1 hn with hn | hn
  · exact h8 n hn
  · exact hc n hn
end Go.Ev.C
end
section
set_option linter.unusedVariables false
set_option linter.unusedSimpArgs false
set_option linter.defProp false
set_option linter.all false
namespace Go.Ev.C
open Go.Proofs Go.Fmt
set_option maxRecDepth 100000
set_option linter.unusedSimpArgs false
variable {L : World → Prop} [YQ Q L]
theorem usN (H : AH) : XK Q [239, 3] [.nilptr, .int .i64 0] H = some (.str [], H) := by kernel_rfl
theorem usdN (H : AH) : XJ Q .unsafeSliceData [35] [.nilslice] = some .nilptr := by kernel_rfl
theorem usd (b off n : Nat) (cap : Cap) : XJ Q .unsafeSliceData [35] [.slice b off (n + 1) cap] = some (.ptr b off) := by kernel_rfl
theorem lenN : XJ Q .len [35] [.nilslice] = some (.int .i64 0) := by kernel_rfl
theorem us_some {H : AH} {bb : Nat} {s : List Nat} {k : Nat} (hk : s.length = k + 1) (hg : H.t.get bb = some (.cells 5 (bsL s) 0 false false)) (h8 : ∀ n ∈ s, n < 256) (hs : s.length ≤ 100000000) :
    XK Q [239, 3] [.ptr bb 0, .int .i64 ((k + 1 : Nat) : Int)] H = some (.str s, H.set bb (.cells 5 (bsL s) (max 0 (0 + (k + 1))) false false)) := by
  have hcut : cut (bsL s) 0 (k + 1) = some (bsL s) := cut_self (by rw [bsL_len, hk]) (bsL_hole s)
  have h1 : Nat.ble (k + 1) 100000000 = true := by rw [Nat.ble_eq]; omega
  have h2 : ((k + 1 : Nat) : Int) = Int.ofNat (k + 1) := rfl
  have h3 : Nat.beq (k + 1) 0 = false := rfl
  have h4 : Nat.beq 5 5 = true := rfl
  rw [h2]
  simp only [XK, h3, h1, h4, und239, hg, und5, sz5, hcut, byteL_map h8, Bool.and_self, if_true, Bool.false_eq_true, if_false]
theorem string_c (H0 H : AH) (b : Nat) (s : List Nat) (hu : Up H0 H) (h : BufAt H0 H b s) (hs : s.length ≤ 100000000) : Fn Q L 73 [.ptr b 0] H (fun w H' => w = .str s ∧ Up H0 H') := by
  refine Fn.intro (en73 _) ?_
  obtain ⟨h1, h2, h8, pv, bv, hg, hp, hown, hne⟩ := h
  have hc := at_get hg
  obtain ⟨c1, c2, c3⟩ := hown.cell
  unfold c73 Tryz.f73
  simp only [Option.getD_some]
  rcases hown with ⟨h0, rfl⟩ | ⟨h0, bb, rfl, k2, k3, k4⟩
  · have hs0 : s = [] := by
      unfold bsL at h0
      simpa using h0
    subst hs0
    repeat (first|(apply Zh;exact rfl)|apply Zb|apply WO.nil|(apply Zk;exact rfl;simp only [rE,rS,li,lo,reduceIte,Nat.reduceEqDiff,Nat.reduceAdd,Nat.reduceMul,YJ,Za XY,usN,usdN,lenN,usd,hc];exact rfl;exact rfl))
    (apply YB; kernel_rfl; kernel_rfl)
    (refine Zs ?_;(iterate 10 (first|(apply ZU.pure;kernel_rfl;kernel_rfl;(focus ((simp only [rQ,Zc,li,lo,reduceIte,Nat.reduceEqDiff,Nat.reduceAdd,beq_self_eq_true];done)));simp only [rE,rS,li,lo,reduceIte,Nat.reduceEqDiff,Nat.reduceAdd,Nat.reduceMul,YJ,Za XY,usN,usdN,lenN,usd,hc];exact rfl;exact rfl)|(apply ZU.load;kernel_rfl;kernel_rfl;(focus ((simp only [rQ,Zc,li,lo,reduceIte,Nat.reduceEqDiff,Nat.reduceAdd,beq_self_eq_true];done)));simp only [rE,rS,li,lo,reduceIte,Nat.reduceEqDiff,Nat.reduceAdd,Nat.reduceMul,YJ,Za XY,usN,usdN,lenN,usd,hc];exact rfl;exact rfl)));(iterate 2 (apply ZU.later;kernel_rfl));refine ZU.nil ?_)
    (apply ZZ.eff (e := 10);kernel_rfl;simp only [li];exact rfl;(focus (simp only [rQ,Zc,li,lo,reduceIte,Nat.reduceEqDiff,Nat.reduceAdd,beq_self_eq_true];done));simp only [rE,rS,li,lo,reduceIte,Nat.reduceEqDiff,Nat.reduceAdd,Nat.reduceMul,YJ,Za XY,usN,usdN,lenN,usd,hc];exact rfl;exact rfl;(focus exact Zx (by kernel_rfl)))
    (refine Zs ?_; (iterate 12 (apply ZU.later; kernel_rfl)); refine ZU.nil ?_)
    (apply ZZ.eff (e := 11);kernel_rfl;simp only [li];exact rfl;(focus (simp only [rQ,Zc,li,lo,reduceIte,Nat.reduceEqDiff,Nat.reduceAdd,beq_self_eq_true];done));simp only [rE,rS,li,lo,reduceIte,Nat.reduceEqDiff,Nat.reduceAdd,Nat.reduceMul,YJ,Za XY,usN,usdN,lenN,usd,hc];exact rfl;exact rfl;(focus exact Zx (by kernel_rfl)))
    (refine Zs ?_; (iterate 12 (apply ZU.later; kernel_rfl)); refine ZU.nil ?_)
    (apply ZZ.all; kernel_rfl; kernel_rfl)
    repeat (first|(apply Zh;exact rfl)|apply Zb|apply WO.nil|(apply Zk;exact rfl;simp only [rE,rS,li,lo,reduceIte,Nat.reduceEqDiff,Nat.reduceAdd,Nat.reduceMul,YJ,Za XY,usN,usdN,lenN,usd,hc];exact rfl;exact rfl))
    (apply WF.ret; (focus (simp only [Zj, Zd, Zm, Zv, reduceIte, Nat.reduceEqDiff, rs73]; exact rfl)))
    exact ⟨rfl, hu⟩
  · rw [bsL_len] at hc hg
    obtain ⟨k, hk⟩ : ∃ k, s.length = k + 1 := ⟨s.length - 1, by
      have : s.length ≠ 0 := fun e => h0 (by rw [List.length_eq_zero_iff.1 e]; rfl)
      omega⟩
    have hU := us_some hk k4 h8 hs
    rw [hk] at hc
    have hl := ZP (P := Q) (ts := []) (l := []) XH (SL.sl bb 0 (k + 1) (.up 1))
    repeat (first|(apply Zh;exact rfl)|apply Zb|apply WO.nil|(apply Zk;exact rfl;simp only [rE,rS,li,lo,reduceIte,Nat.reduceEqDiff,Nat.reduceAdd,Nat.reduceMul,YJ,Za XY,usN,usdN,lenN,usd,hc];exact rfl;exact rfl))
    (apply YB; kernel_rfl; kernel_rfl)
    (refine Zs ?_;(iterate 10 (first|(apply ZU.pure;kernel_rfl;kernel_rfl;(focus ((simp only [rQ,Zc,li,lo,reduceIte,Nat.reduceEqDiff,Nat.reduceAdd,beq_self_eq_true];done)));simp only [rE,rS,li,lo,reduceIte,Nat.reduceEqDiff,Nat.reduceAdd,Nat.reduceMul,YJ,Za XY,usN,usdN,lenN,usd,hc,hl];exact rfl;exact rfl)|(apply ZU.load;kernel_rfl;kernel_rfl;(focus ((simp only [rQ,Zc,li,lo,reduceIte,Nat.reduceEqDiff,Nat.reduceAdd,beq_self_eq_true];done)));simp only [rE,rS,li,lo,reduceIte,Nat.reduceEqDiff,Nat.reduceAdd,Nat.reduceMul,YJ,Za XY,usN,usdN,lenN,usd,hc,hl];exact rfl;exact rfl)));(iterate 2 (apply ZU.later;kernel_rfl));refine ZU.nil ?_)
    (apply ZZ.eff (e := 10);kernel_rfl;simp only [li];exact rfl;(focus (simp only [rQ,Zc,li,lo,reduceIte,Nat.reduceEqDiff,Nat.reduceAdd,beq_self_eq_true];done));simp only [rE,rQ,li,lo,reduceIte,Nat.reduceEqDiff,Nat.reduceAdd,Nat.reduceMul,Wn,YJ,Za XY,usN,usdN,lenN,usd,hc,hU];exact rfl;exact rfl;(focus exact Zx (by kernel_rfl)))
    (refine Zs ?_; (iterate 12 (apply ZU.later; kernel_rfl)); refine ZU.nil ?_)
    (apply ZZ.eff (e := 11);kernel_rfl;simp only [li];exact rfl;(focus (simp only [rQ,Zc,li,lo,reduceIte,Nat.reduceEqDiff,Nat.reduceAdd,beq_self_eq_true];done));simp only [rE,rS,li,lo,reduceIte,Nat.reduceEqDiff,Nat.reduceAdd,Nat.reduceMul,YJ,Za XY,usN,usdN,lenN,usd,hc];exact rfl;exact rfl;(focus exact Zx (by kernel_rfl)))
    (refine Zs ?_; (iterate 12 (apply ZU.later; kernel_rfl)); refine ZU.nil ?_)
    (apply ZZ.all; kernel_rfl; kernel_rfl)
    repeat (first|(apply Zh;exact rfl)|apply Zb|apply WO.nil|(apply Zk;exact rfl;simp only [rE,rS,li,lo,reduceIte,Nat.reduceEqDiff,Nat.reduceAdd,Nat.reduceMul,YJ,Za XY,usN,usdN,lenN,usd,hc];exact rfl;exact rfl))
    (apply WF.ret; (focus (simp only [Zj, Zd, Zm, Zv, reduceIte, Nat.reduceEqDiff, rs73]; exact rfl)))
    exact ⟨rfl, hu.set k2⟩
end Go.Ev.C
end
section
set_option linter.unusedVariables false
set_option linter.unusedSimpArgs false
set_option linter.defProp false
set_option linter.all false
namespace Go.Ev
section
variable {P : Program} {L : World → Prop} {f n : Nat} {t : Tri AV} {k : List AI} {H : AH} {Φ : AF → AH → Prop}
theorem mapLitA_eq {fr fr1 fr2 : AF} {cs : List AF} {ops : Array Oper} {m : Tmp} (h1 : mapLitOK ops = some m) (h2 : strictOK ops = true) (h3 : putT fr (some m) (.map H.next) = some fr1) (h4 : litRun P (ops.toList.drop 1) fr1 = some fr2) (h5 : (List.range ops.size).all (litOne P ops m fr2.tmps) = true) (h6 : fr2.tmps.get m = some (.map H.next)) :
    mapLitA P fr cs H ops k = some ⟨{ fr2 with todo := k }, cs, ⟨H.t.put H.next (some (.map (ops.toList.filterMap (entU fr2.tmps)) false)), H.next + 1⟩⟩ := by
  unfold mapLitA
  rw [h1]
  dsimp only
  rw [h2, if_pos rfl, h3]
  dsimp only
  rw [h4]
  dsimp only
  rw [h5, h6]
  rw [if_pos (by simp)]
  rfl
theorem WF.mapLit [YQ P L] {i : Nat} {ops : Array Oper} {t' : Tri AV} {H' : AH} (hm : isMapLit ops = true) (h : ∀ cs,mapLitA P (PF f n t (.code (.region i ops true) :: k)) cs H ops k = some ⟨PF f n t' k,cs,H'⟩) (hw : WF P L (PF f n t' k) H' Φ) : WF P L (PF f n t (.code (.region i ops true) :: k)) H Φ :=
  hw.step fun cs => by simp only [Wu, execA, itemA, codeA, regionA, hm, h]; rfl
end
end Go.Ev
namespace Go.Ev.C
open Go.Proofs Go.Fmt
set_option maxRecDepth 100000
set_option linter.unusedSimpArgs false
variable {L : World → Prop} [YQ Q L]
def Y4 (n : Int) (s : Bool) : AV := .agg [.int .i64 n, .bool s]
/-- The table. -/
def convM : List (AV × AV) := [(Y4 1 true,.func 215 [] []),(Y4 1 false,.func 216 [] []),(Y4 2 true,.func 217 [] []),(Y4 2 false,.func 218 [] []),(Y4 4 true,.func 219 [] []),(Y4 4 false,.func 220 [] []),(Y4 8 true,.func 221 [] []),(Y4 8 false,.func 222 [] [])]
/-- A part of a code. -/
def sub : List Nat → Code → Code
  | 0 :: p, .seq a _ => sub p a
  | _ :: p, .seq _ b => sub p b
  | 0 :: p, .cond _ a _ => sub p a
  | _ :: p, .cond _ _ b => sub p b
  | _ :: p, .block _ c => sub p c
  | _ :: p, .loop c => sub p c
  | _ :: p, .scope c => sub p c
  | _, c => c
def opsOf : Code → Array Oper
  | .region _ ops _ => ops
  | _ => #[]
noncomputable def ops156 : Array Oper := opsOf (sub [1, 0] c156)
def tabM (t : Tri AV) (v : AV) : Tri AV := ((((((((((t.put 1 (some v)).put 2 (some (Y4 1 true))).put 3 (some (Y4 1 false))).put 4 (some (Y4 2 true))).put 5 (some (Y4 2 false))).put 6 (some (Y4 4 true))).put 7 (some (Y4 4 false))).put 8 (some (Y4 8 true))).put 9 (some (Y4 8 false))).put 10 (some v)).put 0 (some v)
theorem conv_c (H : AH) : Fn Q L 156 [] H (fun w H' => w = .map H.next ∧ H' = ⟨H.t.put H.next (some (.map convM false)), H.next + 1⟩) := by
  refine Fn.intro en156 ?_
  unfold c156 Tryz.f156
  simp only [Option.getD_some]
  repeat (first | (apply Zh; exact rfl) | apply Zb | apply WO.nil | (apply Zk; exact rfl; simp only [rE, rS, li, lo, reduceIte, Nat.reduceEqDiff, Nat.reduceAdd, Nat.reduceMul]; exact rfl; exact rfl))
  have key : ∀ (todo k : List AI) (t : Tri AV),t = (Zm 0 [] Tri.leaf).put 0 (some .nilmap) → ∀ cs,mapLitA Q (PF 156 11 t todo) cs H (ops156) k = some ⟨PF 156 11 (tabM t (.map H.next)) k,cs,⟨H.t.put H.next (some (.map convM false)),H.next + 1⟩⟩ := by
    intro todo k t ht cs
    subst ht
    exact mapLitA_eq (fr1 := PF 156 11 (((Zm 0 [] Tri.leaf).put 0 (some .nilmap)).put 1 (some (.map H.next))) todo) (fr2 := PF 156 11 (tabM ((Zm 0 [] Tri.leaf).put 0 (some .nilmap)) (.map H.next)) todo) (m := 1) (by kernel_rfl) (by kernel_rfl) (by kernel_rfl) (by kernel_rfl)
      (by
        have e : (List.range (ops156).size).all (litOne Q (ops156) 1 (tabM ((Zm 0 [] Tri.leaf).put 0 (some .nilmap)) (.map H.next))) = (Nat.beq H.next H.next && (Nat.beq H.next H.next && true)) := by kernel_rfl
        rw [e]
        simp) (by kernel_rfl)
  refine WF.mapLit (t' := tabM ((Zm 0 [] Tri.leaf).put 0 (some .nilmap)) (.map H.next)) (by kernel_rfl) (fun cs => key _ _ _ rfl cs) ?_
  (apply WF.ret; (focus (simp only [Zj, Zd, Zm, Zv, reduceIte, Nat.reduceEqDiff, rs156, tabM]; exact rfl)))
  exact ⟨rfl, rfl⟩
end Go.Ev.C
end
section
set_option linter.unusedVariables false
set_option linter.unusedSimpArgs false
set_option linter.defProp false
set_option linter.all false
namespace Go.Ev.C
open Go.Proofs Go.Fmt
set_option maxRecDepth 100000
set_option linter.unusedSimpArgs false
variable {L : World → Prop} [YQ Q L]
def Ys (n : Int) (s : Bool) : Option IntKind := if n = 1 then some (if s then .i8 else .u8) else if n = 2 then some (if s then .i16 else .u16) else if n = 4 then some (if s then .i32 else .u32) else if n = 8 then some (if s then .i64 else .u64) else none
def thr : IntKind → FuncId
  | .i8 => 215
  | .u8 => 216
  | .i16 => 217
  | .u16 => 218
  | .i32 => 219
  | .u32 => 220
  | .i64 => 221
  | .u64 => 222
def wr (k : IntKind) (v : Int) : Int := match k with
  | .i64 => v
  | k => IntKind.i64.wrap (k.wrap v)
theorem cuT (k : IntKind) (l : List AV) (H : AH) : Z3 Q (.func (thr k) [] []) l H = some (.enter (thr k) ([] ++ l ++ []), H) := by
  cases k <;> kernel_rfl
theorem thr_i8 (H : AH) (v : Int) : Fn Q L 215 [.int .i64 v] H (fun w H' => w = .int .i64 (wr .i8 v) ∧ H' = H) := by
  refine Fn.intro (en215 _) ?_
  unfold c215 Tryz.f215
  simp only [Option.getD_some]
  repeat (first|(apply Zh;exact rfl)|apply Zb|apply WO.nil|(apply Zk;exact rfl;simp only [rE,rS,li,lo,reduceIte,Nat.reduceEqDiff,Nat.reduceAdd,Nat.reduceMul,ZN,Yx,und295];exact rfl;exact rfl))
  (apply WF.ret; (focus (simp only [Zj, Zd, Zm, Zv, reduceIte, Nat.reduceEqDiff, rs215]; exact rfl)))
  exact ⟨rfl, rfl⟩
theorem thr_u8 (H : AH) (v : Int) : Fn Q L 216 [.int .i64 v] H (fun w H' => w = .int .i64 (wr .u8 v) ∧ H' = H) := by
  refine Fn.intro (en216 _) ?_
  unfold c216 Tryz.f216
  simp only [Option.getD_some]
  repeat (first|(apply Zh;exact rfl)|apply Zb|apply WO.nil|(apply Zk;exact rfl;simp only [rE,rS,li,lo,reduceIte,Nat.reduceEqDiff,Nat.reduceAdd,Nat.reduceMul,ZN,Yx,und5];exact rfl;exact rfl))
  (apply WF.ret; (focus (simp only [Zj, Zd, Zm, Zv, reduceIte, Nat.reduceEqDiff, rs216]; exact rfl)))
  exact ⟨rfl, rfl⟩
theorem thr_i16 (H : AH) (v : Int) : Fn Q L 217 [.int .i64 v] H (fun w H' => w = .int .i64 (wr .i16 v) ∧ H' = H) := by
  refine Fn.intro (en217 _) ?_
  unfold c217 Tryz.f217
  simp only [Option.getD_some]
  repeat (first|(apply Zh;exact rfl)|apply Zb|apply WO.nil|(apply Zk;exact rfl;simp only [rE,rS,li,lo,reduceIte,Nat.reduceEqDiff,Nat.reduceAdd,Nat.reduceMul,ZN,Yx,und296];exact rfl;exact rfl))
  (apply WF.ret; (focus (simp only [Zj, Zd, Zm, Zv, reduceIte, Nat.reduceEqDiff, rs217]; exact rfl)))
  exact ⟨rfl, rfl⟩
theorem thr_u16 (H : AH) (v : Int) : Fn Q L 218 [.int .i64 v] H (fun w H' => w = .int .i64 (wr .u16 v) ∧ H' = H) := by
  refine Fn.intro (en218 _) ?_
  unfold c218 Tryz.f218
  simp only [Option.getD_some]
  repeat (first|(apply Zh;exact rfl)|apply Zb|apply WO.nil|(apply Zk;exact rfl;simp only [rE,rS,li,lo,reduceIte,Nat.reduceEqDiff,Nat.reduceAdd,Nat.reduceMul,ZN,Yx,und297];exact rfl;exact rfl))
  (apply WF.ret; (focus (simp only [Zj, Zd, Zm, Zv, reduceIte, Nat.reduceEqDiff, rs218]; exact rfl)))
  exact ⟨rfl, rfl⟩
theorem thr_i32 (H : AH) (v : Int) : Fn Q L 219 [.int .i64 v] H (fun w H' => w = .int .i64 (wr .i32 v) ∧ H' = H) := by
  refine Fn.intro (en219 _) ?_
  unfold c219 Tryz.f219
  simp only [Option.getD_some]
  repeat (first|(apply Zh;exact rfl)|apply Zb|apply WO.nil|(apply Zk;exact rfl;simp only [rE,rS,li,lo,reduceIte,Nat.reduceEqDiff,Nat.reduceAdd,Nat.reduceMul,ZN,Yx,und21];exact rfl;exact rfl))
  (apply WF.ret; (focus (simp only [Zj, Zd, Zm, Zv, reduceIte, Nat.reduceEqDiff, rs219]; exact rfl)))
  exact ⟨rfl, rfl⟩
theorem thr_u32 (H : AH) (v : Int) : Fn Q L 220 [.int .i64 v] H (fun w H' => w = .int .i64 (wr .u32 v) ∧ H' = H) := by
  refine Fn.intro (en220 _) ?_
  unfold c220 Tryz.f220
  simp only [Option.getD_some]
  repeat (first|(apply Zh;exact rfl)|apply Zb|apply WO.nil|(apply Zk;exact rfl;simp only [rE,rS,li,lo,reduceIte,Nat.reduceEqDiff,Nat.reduceAdd,Nat.reduceMul,ZN,Yx,und298];exact rfl;exact rfl))
  (apply WF.ret; (focus (simp only [Zj, Zd, Zm, Zv, reduceIte, Nat.reduceEqDiff, rs220]; exact rfl)))
  exact ⟨rfl, rfl⟩
theorem thr_i64 (H : AH) (v : Int) : Fn Q L 221 [.int .i64 v] H (fun w H' => w = .int .i64 (wr .i64 v) ∧ H' = H) := by
  refine Fn.intro (en221 _) ?_
  unfold c221 Tryz.f221
  simp only [Option.getD_some]
  repeat (first|(apply Zh;exact rfl)|apply Zb|apply WO.nil|(apply Zk;exact rfl;simp only [rE,rS,li,lo,reduceIte,Nat.reduceEqDiff,Nat.reduceAdd,Nat.reduceMul,ZN,Yx,Yx];exact rfl;exact rfl))
  (apply WF.ret; (focus (simp only [Zj, Zd, Zm, Zv, reduceIte, Nat.reduceEqDiff, rs221]; exact rfl)))
  exact ⟨rfl, rfl⟩
theorem thr_u64 (H : AH) (v : Int) : Fn Q L 222 [.int .i64 v] H (fun w H' => w = .int .i64 (wr .u64 v) ∧ H' = H) := by
  refine Fn.intro (en222 _) ?_
  unfold c222 Tryz.f222
  simp only [Option.getD_some]
  repeat (first|(apply Zh;exact rfl)|apply Zb|apply WO.nil|(apply Zk;exact rfl;simp only [rE,rS,li,lo,reduceIte,Nat.reduceEqDiff,Nat.reduceAdd,Nat.reduceMul,ZN,Yx,ZY];exact rfl;exact rfl))
  (apply WF.ret; (focus (simp only [Zj, Zd, Zm, Zv, reduceIte, Nat.reduceEqDiff, rs222]; exact rfl)))
  exact ⟨rfl, rfl⟩
theorem thr_c (k : IntKind) (H : AH) (v : Int) : Fn Q L (thr k) [.int .i64 v] H (fun w H' => w = .int .i64 (wr k v) ∧ H' = H) := by
  exact match k with
    | .i8 => thr_i8 _ _
    | .i16 => thr_i16 _ _
    | .i32 => thr_i32 _ _
    | .i64 => thr_i64 _ _
    | .u8 => thr_u8 _ _
    | .u16 => thr_u16 _ _
    | .u32 => thr_u32 _ _
    | .u64 => thr_u64 _ _
theorem eqK (a c : Int) (b d : Bool) : eqlU Q Op.maxDepth 64 (Y4 a b) (Y4 c d) = some (decide (a = c) && (b == d)) := by
  have h : eqlU Q Op.maxDepth 64 (Y4 a b) (Y4 c d) = (match some (a == c) with|some true => (match some (b == d) with|some true => some true|some false => some false|none => none)|some false => some false|none => none) := by kernel_rfl
  rw [h]
  by_cases h1 : a = c
  · subst h1
    cases b <;> cases d <;> simp
  · have : (a == c) = false := by simpa using h1
    rw [this]
    simp [h1]
theorem findK (n : Int) (s : Bool) : findU Q 64 (Y4 n s) convM = some ((Ys n s).map fun k => .func (thr k) [] []) := by
  unfold convM
  simp only [findU, eqK]
  unfold Ys
  by_cases h1 : n = 1
  · subst h1; cases s <;> rfl
  by_cases h2 : n = 2
  · subst h2; cases s <;> rfl
  by_cases h4 : n = 4
  · subst h4; cases s <;> rfl
  by_cases h8 : n = 8
  · subst h8; cases s <;> rfl
  simp [h1, h2, h4, h8]
theorem key64 (n : Int) (s : Bool) : keyU Q 4 64 (Y4 n s) = true := by kernel_rfl
end Go.Ev.C
end
section
set_option linter.unusedVariables false
set_option linter.unusedSimpArgs false
set_option linter.defProp false
set_option linter.all false
namespace Go.Ev.C
open Go.Proofs Go.Fmt
set_option maxRecDepth 100000
set_option linter.unusedSimpArgs false
variable {L : World → Prop} [YQ Q L]
theorem ZV (t : Tri AB) (m n b : Nat) (l : List (AV × AV)) (ro : Bool) : AH.cellsAt ⟨t.put m (some (.map l ro)), n⟩ b = if b = m then none else AH.cellsAt ⟨t, n⟩ b := by
  simp only [AH.cellsAt, Zd]
  by_cases h : b = m <;> simp [h]
theorem zero284 : zeroU Q 284 = some .nilfunc := by kernel_rfl
theorem look_ok {H : AH} {b : Nat} (hg : H.t.get b = some (.map convM false)) (n : Int) (s : Bool) : lookupU Q 286 (.map b) (.agg [.int .i64 n,.bool s]) true H = some (.tuple [match Ys n s with|some k => .func (thr k) [] []|none => .nilfunc,.bool (Ys n s).isSome]) := by
  have h := findK n s
  have k := key64 n s
  unfold Y4 at h k
  simp only [lookupU, und286, mapAt, hg, k, h, zero284]
  cases Ys n s <;> rfl
theorem look_at {H : AH} {b : Nat} (hg : H.t.get b = some (.map convM false)) (n : Int) (s : Bool) {k : IntKind} (hk : Ys n s = some k) : lookupU Q 286 (.map b) (.agg [.int .i64 n,.bool s]) false H = some (.func (thr k) [] []) := by
  have h := findK n s
  have k := key64 n s
  unfold Y4 at h k
  simp only [lookupU, und286, mapAt, hg, k, h, hk]
  rfl
theorem ZG {a b : AV} (ha : ZO a = true) (hb : ZO b = true) : cut [a, b] 0 2 = some [a, b] := by
  unfold cut
  simp [ha, hb]
theorem intCheck_c (H : AH) (n : Int) (s : Bool) : Fn Q L 117 [.agg [.int .i64 n, .bool s]] H (fun w H' => w = .int .i64 (if (Ys n s).isSome then 0 else 10) ∧ H' = H) := by
  refine Y2 (en117 _) rfl ?_
  generalize lock H = H
  have n01 : (H.next = H.next + 1) = False := eq_false (by omega)
  have n10 : (H.next + 1 = H.next) = False := eq_false (by omega)
  unfold c117 Tryz.f117
  simp only [Option.getD_some]
  repeat (first|(apply Zh;exact rfl)|apply Zb|apply WO.nil|(apply Zk;exact rfl;simp only [rE,rS,li,lo,reduceIte,Nat.reduceEqDiff,Nat.reduceAdd,Nat.reduceMul,Ze Zu ZJ,ZG,Zl,Zp,Yo,ZV,n01,n10];exact rfl;exact rfl))
  (apply YB; kernel_rfl; kernel_rfl)
  (refine Zs ?_;(iterate 1 (apply ZU.later;kernel_rfl));(iterate 1 (apply ZU.load;kernel_rfl;kernel_rfl;(focus ((simp only [rQ,Zc,li,lo,reduceIte,Nat.reduceEqDiff,Nat.reduceAdd,beq_self_eq_true];done)));simp only [rE,rS,li,lo,reduceIte,Nat.reduceEqDiff,Nat.reduceAdd,Nat.reduceMul,Ze Zu ZJ,ZG,Zl,Zp,Yo,ZV,n01,n10];exact rfl;exact rfl));(iterate 6 (apply ZU.later;kernel_rfl));refine ZU.nil ?_)
  (apply ZZ.call (e := 0);kernel_rfl;simp only [li];exact rfl;(focus (simp only [rQ,Zc,li,lo,reduceIte,Nat.reduceEqDiff,Nat.reduceAdd,beq_self_eq_true];done));simp only [rE,rS,li,lo,reduceIte,Nat.reduceEqDiff,Nat.reduceAdd,Nat.reduceMul,Ze Zu ZJ,ZG,Zl,Zp,Yo,ZV,n01,n10,cu156];exact rfl;exact conv_c _;rintro _ _ ⟨rfl,rfl⟩;refine ⟨_,rfl,?_,?_⟩;(focus (apply Xm (R := [1]);kernel_rfl;(apply Anew.cons;simp only [li];exact rfl;(focus (simp only [rQ,Zc,li,lo,reduceIte,Nat.reduceEqDiff,Nat.reduceAdd,beq_self_eq_true];done));simp only [rE,rS,li,lo,reduceIte,Nat.reduceEqDiff,Nat.reduceAdd,Nat.reduceMul,Ze Zu ZJ,ZG,Zl,Zp,Yo,ZV,n01,n10];exact rfl;exact rfl;(focus (simp only [Zd,Zm,reduceIte,Nat.reduceEqDiff,Ze Zu ZJ,ZG,Zl,Zp,Yo,ZV,n01,n10];exact rfl));(focus (simp [AV.beq,Xz,Ze Zu ZJ,ZG,Zl,Zp,Yo,ZV,n01,n10];done)));exact Anew.nil)))
  have hl := look_ok (H := ⟨(H.t.put H.next (some (.cells 64 [.int .i64 n,.bool s] 0 false false))).put (H.next + 1) (some (.map convM false)),H.next + 1 + 1⟩) (b := H.next + 1) (by rw [Zd,if_pos rfl]) n s
  (refine Zs ?_;(iterate 2 (apply ZU.later;kernel_rfl));(iterate 4 (first|(apply ZU.pure;kernel_rfl;kernel_rfl;(focus ((simp only [rQ,Zc,li,lo,reduceIte,Nat.reduceEqDiff,Nat.reduceAdd,beq_self_eq_true];done)));simp only [rE,rS,li,lo,reduceIte,Nat.reduceEqDiff,Nat.reduceAdd,Nat.reduceMul,Ze Zu ZJ,ZG,Zl,Zp,Yo,ZV,n01,n10,hl];exact rfl;exact rfl)|(apply ZU.load;kernel_rfl;kernel_rfl;(focus ((simp only [rQ,Zc,li,lo,reduceIte,Nat.reduceEqDiff,Nat.reduceAdd,beq_self_eq_true];done)));simp only [rE,rS,li,lo,reduceIte,Nat.reduceEqDiff,Nat.reduceAdd,Nat.reduceMul,Ze Zu ZJ,ZG,Zl,Zp,Yo,ZV,n01,n10,hl];exact rfl;exact rfl)));(iterate 2 (apply ZU.later;kernel_rfl));refine ZU.nil ?_)
  (apply ZZ.eff (e := 6);kernel_rfl;simp only [li];exact rfl;(focus (simp only [rQ,Zc,li,lo,reduceIte,Nat.reduceEqDiff,Nat.reduceAdd,beq_self_eq_true];done));simp only [rE,rS,li,lo,reduceIte,Nat.reduceEqDiff,Nat.reduceAdd,Nat.reduceMul,Ze Zu ZJ,ZG,Zl,Zp,Yo,ZV,n01,n10];exact rfl;exact rfl;(focus exact Zx (by kernel_rfl)))
  (refine Zs ?_; (iterate 8 (apply ZU.later; kernel_rfl)); refine ZU.nil ?_)
  (apply ZZ.eff (e := 7);kernel_rfl;simp only [li];exact rfl;(focus (simp only [rQ,Zc,li,lo,reduceIte,Nat.reduceEqDiff,Nat.reduceAdd,beq_self_eq_true];done));simp only [rE,rS,li,lo,reduceIte,Nat.reduceEqDiff,Nat.reduceAdd,Nat.reduceMul,Ze Zu ZJ,ZG,Zl,Zp,Yo,ZV,n01,n10];exact rfl;exact rfl;(focus exact Zx (by kernel_rfl)))
  (refine Zs ?_; (iterate 8 (apply ZU.later; kernel_rfl)); refine ZU.nil ?_)
  (apply ZZ.all; kernel_rfl; kernel_rfl)
  repeat (first|(apply Zh;exact rfl)|apply Zb|apply WO.nil|(apply Zk;exact rfl;simp only [rE,rS,li,lo,reduceIte,Nat.reduceEqDiff,Nat.reduceAdd,Nat.reduceMul,Ze Zu ZJ,ZG,Zl,Zp,Yo,ZV,n01,n10];exact rfl;exact rfl))
  cases hk : Ys n s
  · (first|(apply WF.condT;(focus (simp only [Zg,Zf,Zd,Zm,Bool.not_true,Bool.not_false,reduceIte,Nat.reduceEqDiff,hk,Option.isSome_none];done)))|(apply WF.condF;(focus (simp only [Zg,Zf,Zd,Zm,Bool.not_true,Bool.not_false,reduceIte,Nat.reduceEqDiff,hk,Option.isSome_none];done))))
    repeat (first|(apply Zh;exact rfl)|apply Zb|apply WO.nil|(apply Zk;exact rfl;simp only [rE,rS,li,lo,reduceIte,Nat.reduceEqDiff,Nat.reduceAdd,Nat.reduceMul,Ze Zu ZJ,ZG,Zl,Zp,Yo,ZV,n01,n10];exact rfl;exact rfl))
    (apply WF.ret; (focus (simp only [Zj, Zd, Zm, Zv, reduceIte, Nat.reduceEqDiff, rs117]; exact rfl)))
    rfl
  · (first|(apply WF.condT;(focus (simp only [Zg,Zf,Zd,Zm,Bool.not_true,Bool.not_false,reduceIte,Nat.reduceEqDiff,hk,Option.isSome_some];done)))|(apply WF.condF;(focus (simp only [Zg,Zf,Zd,Zm,Bool.not_true,Bool.not_false,reduceIte,Nat.reduceEqDiff,hk,Option.isSome_some];done))))
    repeat (first|(apply Zh;exact rfl)|apply Zb|apply WO.nil|(apply Zk;exact rfl;simp only [rE,rS,li,lo,reduceIte,Nat.reduceEqDiff,Nat.reduceAdd,Nat.reduceMul,Ze Zu ZJ,ZG,Zl,Zp,Yo,ZV,n01,n10];exact rfl;exact rfl))
    (apply WF.ret; (focus (simp only [Zj, Zd, Zm, Zv, reduceIte, Nat.reduceEqDiff, rs117]; exact rfl)))
    rfl
theorem intWrap_c (H : AH) (n : Int) (s : Bool) (v : Int) {k : IntKind} (hk : Ys n s = some k) : Fn Q L 118 [.agg [.int .i64 n,.bool s],.int .i64 v] H (fun w H' => w = .int .i64 (wr k v) ∧ H' = H) := by
  refine Y2 (en118 _ _) rfl ?_
  generalize lock H = H
  have n01 : (H.next = H.next + 1) = False := eq_false (by omega)
  have n10 : (H.next + 1 = H.next) = False := eq_false (by omega)
  unfold c118 Tryz.f118
  simp only [Option.getD_some]
  repeat (first|(apply Zh;exact rfl)|apply Zb|apply WO.nil|(apply Zk;exact rfl;simp only [rE,rS,li,lo,reduceIte,Nat.reduceEqDiff,Nat.reduceAdd,Nat.reduceMul,Ze Zu ZJ,ZG,Zl,Zp,Yo,ZV,n01,n10];exact rfl;exact rfl))
  (apply YB; kernel_rfl; kernel_rfl)
  (refine Zs ?_;(iterate 1 (apply ZU.later;kernel_rfl));(iterate 1 (apply ZU.load;kernel_rfl;kernel_rfl;(focus ((simp only [rQ,Zc,li,lo,reduceIte,Nat.reduceEqDiff,Nat.reduceAdd,beq_self_eq_true];done)));simp only [rE,rS,li,lo,reduceIte,Nat.reduceEqDiff,Nat.reduceAdd,Nat.reduceMul,Ze Zu ZJ,ZG,Zl,Zp,Yo,ZV,n01,n10];exact rfl;exact rfl));(iterate 1 (apply ZU.later;kernel_rfl));(iterate 1 (apply ZU.pure;kernel_rfl;kernel_rfl;(focus ((simp only [rQ,Zc,li,lo,reduceIte,Nat.reduceEqDiff,Nat.reduceAdd,beq_self_eq_true];done)));simp only [rE,rS,li,lo,reduceIte,Nat.reduceEqDiff,Nat.reduceAdd,Nat.reduceMul,Ze Zu ZJ,ZG,Zl,Zp,Yo,ZV,n01,n10];exact rfl;exact rfl));(iterate 2 (apply ZU.later;kernel_rfl));refine ZU.nil ?_)
  (apply ZZ.call (e := 0);kernel_rfl;simp only [li];exact rfl;(focus (simp only [rQ,Zc,li,lo,reduceIte,Nat.reduceEqDiff,Nat.reduceAdd,beq_self_eq_true];done));simp only [rE,rS,li,lo,reduceIte,Nat.reduceEqDiff,Nat.reduceAdd,Nat.reduceMul,Ze Zu ZJ,ZG,Zl,Zp,Yo,ZV,n01,n10,cu156];exact rfl;exact conv_c _;rintro _ _ ⟨rfl,rfl⟩;refine ⟨_,rfl,?_,?_⟩;(focus (apply Xm (R := [1]);kernel_rfl;(apply Anew.cons;simp only [li];exact rfl;(focus (simp only [rQ,Zc,li,lo,reduceIte,Nat.reduceEqDiff,Nat.reduceAdd,beq_self_eq_true];done));simp only [rE,rS,li,lo,reduceIte,Nat.reduceEqDiff,Nat.reduceAdd,Nat.reduceMul,Ze Zu ZJ,ZG,Zl,Zp,Yo,ZV,n01,n10];exact rfl;exact rfl;(focus (simp only [Zd,Zm,reduceIte,Nat.reduceEqDiff,Ze Zu ZJ,ZG,Zl,Zp,Yo,ZV,n01,n10];exact rfl));(focus (simp [AV.beq,Xz,Ze Zu ZJ,ZG,Zl,Zp,Yo,ZV,n01,n10];done)));exact Anew.nil)))
  have hl := look_at (H := ⟨(H.t.put H.next (some (.cells 64 [.int .i64 n,.bool s] 0 false false))).put (H.next + 1) (some (.map convM false)),H.next + 1 + 1⟩) (b := H.next + 1) (by rw [Zd,if_pos rfl]) n s hk
  (refine Zs ?_;(iterate 2 (apply ZU.later;kernel_rfl));(iterate 1 (apply ZU.load;kernel_rfl;kernel_rfl;(focus ((simp only [rQ,Zc,li,lo,reduceIte,Nat.reduceEqDiff,Nat.reduceAdd,beq_self_eq_true];done)));simp only [rE,rS,li,lo,reduceIte,Nat.reduceEqDiff,Nat.reduceAdd,Nat.reduceMul,Ze Zu ZJ,ZG,Zl,Zp,Yo,ZV,n01,n10,hl];exact rfl;exact rfl));(iterate 3 (apply ZU.later;kernel_rfl));refine ZU.nil ?_)
  (apply ZZ.call (e := 4);kernel_rfl;simp only [li];exact rfl;(focus (simp only [rQ,Zc,li,lo,reduceIte,Nat.reduceEqDiff,Nat.reduceAdd,beq_self_eq_true];done));simp only [rE,rS,li,lo,reduceIte,Nat.reduceEqDiff,Nat.reduceAdd,Nat.reduceMul,Ze Zu ZJ,ZG,Zl,Zp,Yo,ZV,n01,n10,cuT];exact rfl;exact thr_c k _ _;rintro _ _ ⟨rfl,rfl⟩;refine ⟨_,rfl,?_,?_⟩;(focus exact Zx (by kernel_rfl)))
  (refine Zs ?_; (iterate 6 (apply ZU.later; kernel_rfl)); refine ZU.nil ?_)
  (apply ZZ.eff (e := 5);kernel_rfl;simp only [li];exact rfl;(focus (simp only [rQ,Zc,li,lo,reduceIte,Nat.reduceEqDiff,Nat.reduceAdd,beq_self_eq_true];done));simp only [rE,rS,li,lo,reduceIte,Nat.reduceEqDiff,Nat.reduceAdd,Nat.reduceMul,Ze Zu ZJ,ZG,Zl,Zp,Yo,ZV,n01,n10];exact rfl;exact rfl;(focus exact Zx (by kernel_rfl)))
  (refine Zs ?_; (iterate 6 (apply ZU.later; kernel_rfl)); refine ZU.nil ?_)
  (apply ZZ.all; kernel_rfl; kernel_rfl)
  repeat (first|(apply Zh;exact rfl)|apply Zb|apply WO.nil|(apply Zk;exact rfl;simp only [rE,rS,li,lo,reduceIte,Nat.reduceEqDiff,Nat.reduceAdd,Nat.reduceMul,Ze Zu ZJ,ZG,Zl,Zp,Yo,ZV,n01,n10];exact rfl;exact rfl))
  (apply WF.ret; (focus (simp only [Zj, Zd, Zm, Zv, reduceIte, Nat.reduceEqDiff, rs118]; exact rfl)))
  rfl
theorem wrap_c (H : AH) (n : Int) (s : Bool) (v : Int) : Fn Q L 76 [.agg [.int .i64 n,.bool s],.int .i64 v] H (fun w H' => w = .tuple [.int .i64 (match Ys n s with|some k => wr k v|none => 0),.int .i64 (if (Ys n s).isSome then 0 else 10)] ∧ H' = H) := by
  refine Y2 (en76 _ _) (by cases Ys n s <;> rfl) ?_
  generalize lock H = H
  unfold c76 Tryz.f76
  simp only [Option.getD_some]
  repeat (first|(apply Zh;exact rfl)|apply Zb|apply WO.nil|(apply Zk;exact rfl;simp only [rE,rS,li,lo,reduceIte,Nat.reduceEqDiff,Nat.reduceAdd,Nat.reduceMul,Ze Zu ZJ,ZG,Zl,Zp,cu117,cu118];exact rfl;exact rfl))
  (apply WO.call;(focus (simp only [rQ,Zc,li,lo,reduceIte,Nat.reduceEqDiff,Nat.reduceAdd,beq_self_eq_true];done));simp only [rE,rS,li,lo,reduceIte,Nat.reduceEqDiff,Nat.reduceAdd,Nat.reduceMul,Ze Zu ZJ,ZG,Zl,Zp,cu117,cu118];exact rfl;exact intCheck_c _ _ _;rintro _ _ ⟨rfl,rfl⟩;refine ⟨_,rfl,?_⟩)
  cases hk : Ys n s
  · have d1 : decide ((10 : Int) = 0) = false := rfl
    repeat (first|(apply Zh;exact rfl)|apply Zb|apply WO.nil|(apply WO.op;(focus (simp only [rQ,Zc,li,lo,reduceIte,Nat.reduceEqDiff,Nat.reduceAdd,beq_self_eq_true,d1];done));simp only [rE,rS,li,lo,reduceIte,Nat.reduceEqDiff,Nat.reduceAdd,Nat.reduceMul,Ze Zu ZJ,ZG,Zl,Zp,cu117,cu118,Option.isSome_none,Bool.false_eq_true,d1];exact rfl;exact rfl)|(apply WO.unwanted;(focus (simp only [rQ,Zc,li,lo,reduceIte,Nat.reduceEqDiff,Nat.reduceAdd,beq_self_eq_true,d1];done));exact rfl))
    (first|(apply WF.condT;(focus (simp only [Zg,Zf,Zd,Zm,Bool.not_true,Bool.not_false,reduceIte,Nat.reduceEqDiff,d1];done)))|(apply WF.condF;(focus (simp only [Zg,Zf,Zd,Zm,Bool.not_true,Bool.not_false,reduceIte,Nat.reduceEqDiff,d1];done))))
    repeat (first|(apply Zh;exact rfl)|apply Zb|apply WO.nil|(apply Zk;exact rfl;simp only [rE,rS,li,lo,reduceIte,Nat.reduceEqDiff,Nat.reduceAdd,Nat.reduceMul,Ze Zu ZJ,ZG,Zl,Zp,cu117,cu118];exact rfl;exact rfl))
    (apply WF.ret; (focus (simp only [Zj, Zd, Zm, Zv, reduceIte, Nat.reduceEqDiff, rs76]; exact rfl)))
    rfl
  · have d1 : decide ((0 : Int) = 0) = true := rfl
    repeat (first|(apply Zh;exact rfl)|apply Zb|apply WO.nil|(apply WO.op;(focus (simp only [rQ,Zc,li,lo,reduceIte,Nat.reduceEqDiff,Nat.reduceAdd,beq_self_eq_true,d1];done));simp only [rE,rS,li,lo,reduceIte,Nat.reduceEqDiff,Nat.reduceAdd,Nat.reduceMul,Ze Zu ZJ,ZG,Zl,Zp,cu117,cu118,Option.isSome_some,d1];exact rfl;exact rfl)|(apply WO.unwanted;(focus (simp only [rQ,Zc,li,lo,reduceIte,Nat.reduceEqDiff,Nat.reduceAdd,beq_self_eq_true,d1];done));exact rfl))
    (first|(apply WF.condT;(focus (simp only [Zg,Zf,Zd,Zm,Bool.not_true,Bool.not_false,reduceIte,Nat.reduceEqDiff,d1];done)))|(apply WF.condF;(focus (simp only [Zg,Zf,Zd,Zm,Bool.not_true,Bool.not_false,reduceIte,Nat.reduceEqDiff,d1];done))))
    repeat (first|(apply Zh;exact rfl)|apply Zb|apply WO.nil|(apply Zk;exact rfl;simp only [rE,rS,li,lo,reduceIte,Nat.reduceEqDiff,Nat.reduceAdd,Nat.reduceMul,Ze Zu ZJ,ZG,Zl,Zp,cu117,cu118];exact rfl;exact rfl))
    (apply WO.call;(focus (simp only [rQ,Zc,li,lo,reduceIte,Nat.reduceEqDiff,Nat.reduceAdd,beq_self_eq_true];done));simp only [rE,rS,li,lo,reduceIte,Nat.reduceEqDiff,Nat.reduceAdd,Nat.reduceMul,Ze Zu ZJ,ZG,Zl,Zp,cu117,cu118];exact rfl;exact intWrap_c _ _ _ _ hk;rintro _ _ ⟨rfl,rfl⟩;refine ⟨_,rfl,?_⟩)
    repeat (first|(apply Zh;exact rfl)|apply Zb|apply WO.nil|(apply Zk;exact rfl;simp only [rE,rS,li,lo,reduceIte,Nat.reduceEqDiff,Nat.reduceAdd,Nat.reduceMul,Ze Zu ZJ,ZG,Zl,Zp,cu117,cu118];exact rfl;exact rfl))
    (apply WF.ret; (focus (simp only [Zj, Zd, Zm, Zv, reduceIte, Nat.reduceEqDiff, rs76]; exact rfl)))
    rfl
end Go.Ev.C
end
section
set_option linter.unusedVariables false
set_option linter.unusedSimpArgs false
set_option linter.defProp false
set_option linter.all false
namespace Go.Ev.C
open Go.Proofs Go.Fmt
set_option maxRecDepth 100000
set_option linter.unusedSimpArgs false
variable {L : World → Prop} [YQ Q L]
/-- An item, but for its stack. -/
structure XB where
  act : Int
  val : Int
  kind : Int
  size : Int
  sg : Bool
  ref : Int
  vstr : Bool
  vn : Int
  vs : List Nat
def IC (x : XB) (sv : AV) : List AV := [.int .i64 x.act, .int .i64 x.val, .int .i64 x.kind, .int .i64 x.size, .bool x.sg, .int .i64 x.ref, .bool x.vstr, .int .i64 x.vn, .str x.vs, sv]
def IV (x : XB) (sv : AV) : AV := .agg (IC x sv)
def fitsB (x : XB) (c : Nat) : Bool :=
  if c = 115 then decide (x.kind = 2) && x.vstr && decide (x.vn = 0) && decide ((x.vs.length : Int) ≤ 64) && !x.vs.contains 0
  else if x.vstr || !(x.vs == []) then false
  else if x.kind = 1 then (Ys x.size x.sg).isSome && decide ((match Ys x.size x.sg with | some k => wr k x.vn | none => 0) = x.vn)
  else decide (x.kind = 3)
theorem YW : zeroU Q 68 = some (.agg [.bool false, .int .i64 0, .str []]) := by kernel_rfl
theorem Z1 {a b c a' b' c' : AV} (ha : Ye a = true) (hb : Ye b = true) (hc : Ye c = true) : over [a', b', c'] 0 [a, b, c] = some [a, b, c] := by
  unfold over
  simp [ha, hb, hc]
theorem Xe (a b k z : Int) (g : Bool) (r : Int) (vst : Bool) (vn : Int) (vs : List Nat) (sv : AV) : cut [.int .i64 a,.int .i64 b,.int .i64 k,.int .i64 z,.bool g,.int .i64 r,.bool vst,.int .i64 vn,.str vs,sv] 6 3 = some [.bool vst,.int .i64 vn,.str vs] := rfl
theorem Xf (a b k z : Int) (g : Bool) (r : Int) (vst : Bool) (vn : Int) (vs : List Nat) (sv : AV) : cut [.int .i64 a,.int .i64 b,.int .i64 k,.int .i64 z,.bool g,.int .i64 r,.bool vst,.int .i64 vn,.str vs,sv] 3 2 = some [.int .i64 z,.bool g] := rfl
theorem Zw : Xt ⟨#[]⟩ = [] := rfl
set_option maxHeartbeats 2000000 in
theorem fits_c (H : AH) (x : XB) (sv : AV) (hsv1 : Ye sv = true) (c : Nat) : Fn Q L 38 [IV x sv, .int .u8 (c : Int)] H (fun w H' => w = .bool (fitsB x c) ∧ H' = H) := by
  refine Y2 (en38 _ _) rfl ?_
  generalize lock H = H
  have n01 : (H.next = H.next + 1) = False := eq_false (by omega)
  have n10 : (H.next + 1 = H.next) = False := eq_false (by omega)
  obtain ⟨act, val, kind, size, sg, ref, vstr, vn, vs⟩ := x
  unfold c38 Tryz.f38 IV IC fitsB
  simp only [Option.getD_some]
  cases c1 : decide ((c : Int) = 115)
  · have hc : c ≠ 115 := by
      have := of_decide_eq_false c1
      omega
    rw [if_neg hc]
    cases vstr
    · cases q2 : (vs == ([] : List Nat))
      · repeat (first|(apply Zh;exact rfl)|apply Zb|apply WO.nil|(apply WO.op;(focus (simp only [rQ,Zc,li,lo,reduceIte,Nat.reduceEqDiff,Nat.reduceAdd,beq_self_eq_true];done));simp only [rE,rS,li,lo,reduceIte,Nat.reduceEqDiff,Nat.reduceAdd,Nat.reduceMul,ZT,Zr,Zz,Zy,ZQ,Zo,Zq,Ze Yn Yk,Ze Zu ZJ,Za ZM,Za Z0,Za Zt,Za ZA,Xe,Xf,YW,Yk,Z1,hsv1,ZD,YE,ZC,YD,Zi,Zw,n01,n10,cu75,cu76,c1];exact rfl;exact rfl)|(apply WO.unwanted;(focus (simp only [rQ,Zc,li,lo,reduceIte,Nat.reduceEqDiff,Nat.reduceAdd,beq_self_eq_true];done));exact rfl))
        (first|(apply WF.condT;(focus (simp only [Zg,Zf,Zd,Zm,Bool.not_true,Bool.not_false,reduceIte,Nat.reduceEqDiff,c1];done)))|(apply WF.condF;(focus (simp only [Zg,Zf,Zd,Zm,Bool.not_true,Bool.not_false,reduceIte,Nat.reduceEqDiff,c1];done))))
        repeat (first|(apply Zh;exact rfl)|apply Zb|apply WO.nil|(apply WO.op;(focus (simp only [rQ,Zc,li,lo,reduceIte,Nat.reduceEqDiff,Nat.reduceAdd,beq_self_eq_true,q2];done));simp only [rE,rS,li,lo,reduceIte,Nat.reduceEqDiff,Nat.reduceAdd,Nat.reduceMul,ZT,Zr,Zz,Zy,ZQ,Zo,Zq,Ze Yn Yk,Ze Zu ZJ,Za ZM,Za Z0,Za Zt,Za ZA,Xe,Xf,YW,Yk,Z1,hsv1,ZD,YE,ZC,YD,Zi,Zw,n01,n10,cu75,cu76,c1,q2];exact rfl;exact rfl)|(apply WO.unwanted;(focus (simp only [rQ,Zc,li,lo,reduceIte,Nat.reduceEqDiff,Nat.reduceAdd,beq_self_eq_true,q2];done));exact rfl))
        (first|(apply WF.condT;(focus (simp only [Zg,Zf,Zd,Zm,Bool.not_true,Bool.not_false,reduceIte,Nat.reduceEqDiff,q2];done)))|(apply WF.condF;(focus (simp only [Zg,Zf,Zd,Zm,Bool.not_true,Bool.not_false,reduceIte,Nat.reduceEqDiff,q2];done))))
        repeat (first|(apply Zh;exact rfl)|apply Zb|apply WO.nil|(apply WO.op;(focus (simp only [rQ,Zc,li,lo,reduceIte,Nat.reduceEqDiff,Nat.reduceAdd,beq_self_eq_true,q2];done));simp only [rE,rS,li,lo,reduceIte,Nat.reduceEqDiff,Nat.reduceAdd,Nat.reduceMul,ZT,Zr,Zz,Zy,ZQ,Zo,Zq,Ze Yn Yk,Ze Zu ZJ,Za ZM,Za Z0,Za Zt,Za ZA,Xe,Xf,YW,Yk,Z1,hsv1,ZD,YE,ZC,YD,Zi,Zw,n01,n10,cu75,cu76,c1,q2];exact rfl;exact rfl)|(apply WO.unwanted;(focus (simp only [rQ,Zc,li,lo,reduceIte,Nat.reduceEqDiff,Nat.reduceAdd,beq_self_eq_true,q2];done));exact rfl))
        (apply WF.ret; (focus (simp only [Zj, Zd, Zm, Zv, reduceIte, Nat.reduceEqDiff, rs38]; exact rfl)))
        rfl
      · have hz : (false || !true) = false := rfl
        rw [hz, if_neg (by simp)]
        cases q3 : decide (kind = 1)
        · rw [if_neg (of_decide_eq_false q3)]
          repeat (first|(apply Zh;exact rfl)|apply Zb|apply WO.nil|(apply WO.op;(focus (simp only [rQ,Zc,li,lo,reduceIte,Nat.reduceEqDiff,Nat.reduceAdd,beq_self_eq_true];done));simp only [rE,rS,li,lo,reduceIte,Nat.reduceEqDiff,Nat.reduceAdd,Nat.reduceMul,ZT,Zr,Zz,Zy,ZQ,Zo,Zq,Ze Yn Yk,Ze Zu ZJ,Za ZM,Za Z0,Za Zt,Za ZA,Xe,Xf,YW,Yk,Z1,hsv1,ZD,YE,ZC,YD,Zi,Zw,n01,n10,cu75,cu76,c1];exact rfl;exact rfl)|(apply WO.unwanted;(focus (simp only [rQ,Zc,li,lo,reduceIte,Nat.reduceEqDiff,Nat.reduceAdd,beq_self_eq_true];done));exact rfl))
          (first|(apply WF.condT;(focus (simp only [Zg,Zf,Zd,Zm,Bool.not_true,Bool.not_false,reduceIte,Nat.reduceEqDiff,c1];done)))|(apply WF.condF;(focus (simp only [Zg,Zf,Zd,Zm,Bool.not_true,Bool.not_false,reduceIte,Nat.reduceEqDiff,c1];done))))
          repeat (first|(apply Zh;exact rfl)|apply Zb|apply WO.nil|(apply WO.op;(focus (simp only [rQ,Zc,li,lo,reduceIte,Nat.reduceEqDiff,Nat.reduceAdd,beq_self_eq_true,q2];done));simp only [rE,rS,li,lo,reduceIte,Nat.reduceEqDiff,Nat.reduceAdd,Nat.reduceMul,ZT,Zr,Zz,Zy,ZQ,Zo,Zq,Ze Yn Yk,Ze Zu ZJ,Za ZM,Za Z0,Za Zt,Za ZA,Xe,Xf,YW,Yk,Z1,hsv1,ZD,YE,ZC,YD,Zi,Zw,n01,n10,cu75,cu76,c1,q2];exact rfl;exact rfl)|(apply WO.unwanted;(focus (simp only [rQ,Zc,li,lo,reduceIte,Nat.reduceEqDiff,Nat.reduceAdd,beq_self_eq_true,q2];done));exact rfl))
          (first|(apply WF.condT;(focus (simp only [Zg,Zf,Zd,Zm,Bool.not_true,Bool.not_false,reduceIte,Nat.reduceEqDiff,q2];done)))|(apply WF.condF;(focus (simp only [Zg,Zf,Zd,Zm,Bool.not_true,Bool.not_false,reduceIte,Nat.reduceEqDiff,q2];done))))
          repeat (first|(apply Zh;exact rfl)|apply Zb|apply WO.nil|(apply WO.op;(focus (simp only [rQ,Zc,li,lo,reduceIte,Nat.reduceEqDiff,Nat.reduceAdd,beq_self_eq_true,q3];done));simp only [rE,rS,li,lo,reduceIte,Nat.reduceEqDiff,Nat.reduceAdd,Nat.reduceMul,ZT,Zr,Zz,Zy,ZQ,Zo,Zq,Ze Yn Yk,Ze Zu ZJ,Za ZM,Za Z0,Za Zt,Za ZA,Xe,Xf,YW,Yk,Z1,hsv1,ZD,YE,ZC,YD,Zi,Zw,n01,n10,cu75,cu76,c1,q3];exact rfl;exact rfl)|(apply WO.unwanted;(focus (simp only [rQ,Zc,li,lo,reduceIte,Nat.reduceEqDiff,Nat.reduceAdd,beq_self_eq_true,q3];done));exact rfl))
          (first|(apply WF.condT;(focus (simp only [Zg,Zf,Zd,Zm,Bool.not_true,Bool.not_false,reduceIte,Nat.reduceEqDiff,q3];done)))|(apply WF.condF;(focus (simp only [Zg,Zf,Zd,Zm,Bool.not_true,Bool.not_false,reduceIte,Nat.reduceEqDiff,q3];done))))
          repeat (first|(apply Zh;exact rfl)|apply Zb|apply WO.nil|(apply WO.op;(focus (simp only [rQ,Zc,li,lo,reduceIte,Nat.reduceEqDiff,Nat.reduceAdd,beq_self_eq_true];done));simp only [rE,rS,li,lo,reduceIte,Nat.reduceEqDiff,Nat.reduceAdd,Nat.reduceMul,ZT,Zr,Zz,Zy,ZQ,Zo,Zq,Ze Yn Yk,Ze Zu ZJ,Za ZM,Za Z0,Za Zt,Za ZA,Xe,Xf,YW,Yk,Z1,hsv1,ZD,YE,ZC,YD,Zi,Zw,n01,n10,cu75,cu76,c1];exact rfl;exact rfl)|(apply WO.unwanted;(focus (simp only [rQ,Zc,li,lo,reduceIte,Nat.reduceEqDiff,Nat.reduceAdd,beq_self_eq_true];done));exact rfl))
          (apply WF.ret; (focus (simp only [Zj, Zd, Zm, Zv, reduceIte, Nat.reduceEqDiff, rs38]; exact rfl)))
          rfl
        · rw [if_pos (of_decide_eq_true q3)]
          repeat (first|(apply Zh;exact rfl)|apply Zb|apply WO.nil|(apply WO.op;(focus (simp only [rQ,Zc,li,lo,reduceIte,Nat.reduceEqDiff,Nat.reduceAdd,beq_self_eq_true];done));simp only [rE,rS,li,lo,reduceIte,Nat.reduceEqDiff,Nat.reduceAdd,Nat.reduceMul,ZT,Zr,Zz,Zy,ZQ,Zo,Zq,Ze Yn Yk,Ze Zu ZJ,Za ZM,Za Z0,Za Zt,Za ZA,Xe,Xf,YW,Yk,Z1,hsv1,ZD,YE,ZC,YD,Zi,Zw,n01,n10,cu75,cu76,c1];exact rfl;exact rfl)|(apply WO.unwanted;(focus (simp only [rQ,Zc,li,lo,reduceIte,Nat.reduceEqDiff,Nat.reduceAdd,beq_self_eq_true];done));exact rfl))
          (first|(apply WF.condT;(focus (simp only [Zg,Zf,Zd,Zm,Bool.not_true,Bool.not_false,reduceIte,Nat.reduceEqDiff,c1];done)))|(apply WF.condF;(focus (simp only [Zg,Zf,Zd,Zm,Bool.not_true,Bool.not_false,reduceIte,Nat.reduceEqDiff,c1];done))))
          repeat (first|(apply Zh;exact rfl)|apply Zb|apply WO.nil|(apply WO.op;(focus (simp only [rQ,Zc,li,lo,reduceIte,Nat.reduceEqDiff,Nat.reduceAdd,beq_self_eq_true,q2];done));simp only [rE,rS,li,lo,reduceIte,Nat.reduceEqDiff,Nat.reduceAdd,Nat.reduceMul,ZT,Zr,Zz,Zy,ZQ,Zo,Zq,Ze Yn Yk,Ze Zu ZJ,Za ZM,Za Z0,Za Zt,Za ZA,Xe,Xf,YW,Yk,Z1,hsv1,ZD,YE,ZC,YD,Zi,Zw,n01,n10,cu75,cu76,c1,q2];exact rfl;exact rfl)|(apply WO.unwanted;(focus (simp only [rQ,Zc,li,lo,reduceIte,Nat.reduceEqDiff,Nat.reduceAdd,beq_self_eq_true,q2];done));exact rfl))
          (first|(apply WF.condT;(focus (simp only [Zg,Zf,Zd,Zm,Bool.not_true,Bool.not_false,reduceIte,Nat.reduceEqDiff,q2];done)))|(apply WF.condF;(focus (simp only [Zg,Zf,Zd,Zm,Bool.not_true,Bool.not_false,reduceIte,Nat.reduceEqDiff,q2];done))))
          repeat (first|(apply Zh;exact rfl)|apply Zb|apply WO.nil|(apply WO.op;(focus (simp only [rQ,Zc,li,lo,reduceIte,Nat.reduceEqDiff,Nat.reduceAdd,beq_self_eq_true,q3];done));simp only [rE,rS,li,lo,reduceIte,Nat.reduceEqDiff,Nat.reduceAdd,Nat.reduceMul,ZT,Zr,Zz,Zy,ZQ,Zo,Zq,Ze Yn Yk,Ze Zu ZJ,Za ZM,Za Z0,Za Zt,Za ZA,Xe,Xf,YW,Yk,Z1,hsv1,ZD,YE,ZC,YD,Zi,Zw,n01,n10,cu75,cu76,c1,q3];exact rfl;exact rfl)|(apply WO.unwanted;(focus (simp only [rQ,Zc,li,lo,reduceIte,Nat.reduceEqDiff,Nat.reduceAdd,beq_self_eq_true,q3];done));exact rfl))
          (first|(apply WF.condT;(focus (simp only [Zg,Zf,Zd,Zm,Bool.not_true,Bool.not_false,reduceIte,Nat.reduceEqDiff,q3];done)))|(apply WF.condF;(focus (simp only [Zg,Zf,Zd,Zm,Bool.not_true,Bool.not_false,reduceIte,Nat.reduceEqDiff,q3];done))))
          repeat (first|(apply Zh;exact rfl)|apply Zb|apply WO.nil|(apply WO.op;(focus (simp only [rQ,Zc,li,lo,reduceIte,Nat.reduceEqDiff,Nat.reduceAdd,beq_self_eq_true];done));simp only [rE,rS,li,lo,reduceIte,Nat.reduceEqDiff,Nat.reduceAdd,Nat.reduceMul,ZT,Zr,Zz,Zy,ZQ,Zo,Zq,Ze Yn Yk,Ze Zu ZJ,Za ZM,Za Z0,Za Zt,Za ZA,Xe,Xf,YW,Yk,Z1,hsv1,ZD,YE,ZC,YD,Zi,Zw,n01,n10,cu75,cu76,c1];exact rfl;exact rfl)|(apply WO.unwanted;(focus (simp only [rQ,Zc,li,lo,reduceIte,Nat.reduceEqDiff,Nat.reduceAdd,beq_self_eq_true];done));exact rfl))
          (apply WO.call;(focus (simp only [rQ,Zc,li,lo,reduceIte,Nat.reduceEqDiff,Nat.reduceAdd,beq_self_eq_true];done));simp only [rE,rS,li,lo,reduceIte,Nat.reduceEqDiff,Nat.reduceAdd,Nat.reduceMul,ZT,Zr,Zz,Zy,ZQ,Zo,Zq,Ze Yn Yk,Ze Zu ZJ,Za ZM,Za Z0,Za Zt,Za ZA,Xe,Xf,YW,Yk,Z1,hsv1,ZD,YE,ZC,YD,Zi,Zw,n01,n10,cu75,cu76,c1];exact rfl;exact wrap_c _ _ _ _;rintro _ _ ⟨rfl,rfl⟩;refine ⟨_,rfl,?_⟩)
          cases hk : Ys size sg
          · have d1 : decide ((10 : Int) = 0) = false := rfl
            repeat (first|(apply Zh;exact rfl)|apply Zb|apply WO.nil|(apply WO.op;(focus (simp only [rQ,Zc,li,lo,reduceIte,Nat.reduceEqDiff,Nat.reduceAdd,beq_self_eq_true,d1];done));simp only [rE,rS,li,lo,reduceIte,Nat.reduceEqDiff,Nat.reduceAdd,Nat.reduceMul,ZT,Zr,Zz,Zy,ZQ,Zo,Zq,Ze Yn Yk,Ze Zu ZJ,Za ZM,Za Z0,Za Zt,Za ZA,Xe,Xf,YW,Yk,Z1,hsv1,ZD,YE,ZC,YD,Zi,Zw,n01,n10,cu75,cu76,c1,Option.isSome_none,Bool.false_eq_true,d1];exact rfl;exact rfl)|(apply WO.unwanted;(focus (simp only [rQ,Zc,li,lo,reduceIte,Nat.reduceEqDiff,Nat.reduceAdd,beq_self_eq_true,d1];done));exact rfl))
            (apply WF.ret; (focus (simp only [Zj, Zd, Zm, Zv, reduceIte, Nat.reduceEqDiff, rs38]; exact rfl)))
            rfl
          · have d1 : decide ((0 : Int) = 0) = true := rfl
            repeat (first|(apply Zh;exact rfl)|apply Zb|apply WO.nil|(apply WO.op;(focus (simp only [rQ,Zc,li,lo,reduceIte,Nat.reduceEqDiff,Nat.reduceAdd,beq_self_eq_true,d1];done));simp only [rE,rS,li,lo,reduceIte,Nat.reduceEqDiff,Nat.reduceAdd,Nat.reduceMul,ZT,Zr,Zz,Zy,ZQ,Zo,Zq,Ze Yn Yk,Ze Zu ZJ,Za ZM,Za Z0,Za Zt,Za ZA,Xe,Xf,YW,Yk,Z1,hsv1,ZD,YE,ZC,YD,Zi,Zw,n01,n10,cu75,cu76,c1,Option.isSome_some,d1];exact rfl;exact rfl)|(apply WO.unwanted;(focus (simp only [rQ,Zc,li,lo,reduceIte,Nat.reduceEqDiff,Nat.reduceAdd,beq_self_eq_true,d1];done));exact rfl))
            (apply WF.ret; (focus (simp only [Zj, Zd, Zm, Zv, reduceIte, Nat.reduceEqDiff, rs38]; exact rfl)))
            rfl
    · repeat (first|(apply Zh;exact rfl)|apply Zb|apply WO.nil|(apply WO.op;(focus (simp only [rQ,Zc,li,lo,reduceIte,Nat.reduceEqDiff,Nat.reduceAdd,beq_self_eq_true];done));simp only [rE,rS,li,lo,reduceIte,Nat.reduceEqDiff,Nat.reduceAdd,Nat.reduceMul,ZT,Zr,Zz,Zy,ZQ,Zo,Zq,Ze Yn Yk,Ze Zu ZJ,Za ZM,Za Z0,Za Zt,Za ZA,Xe,Xf,YW,Yk,Z1,hsv1,ZD,YE,ZC,YD,Zi,Zw,n01,n10,cu75,cu76,c1];exact rfl;exact rfl)|(apply WO.unwanted;(focus (simp only [rQ,Zc,li,lo,reduceIte,Nat.reduceEqDiff,Nat.reduceAdd,beq_self_eq_true];done));exact rfl))
      (first|(apply WF.condT;(focus (simp only [Zg,Zf,Zd,Zm,Bool.not_true,Bool.not_false,reduceIte,Nat.reduceEqDiff,c1];done)))|(apply WF.condF;(focus (simp only [Zg,Zf,Zd,Zm,Bool.not_true,Bool.not_false,reduceIte,Nat.reduceEqDiff,c1];done))))
      repeat (first|(apply Zh;exact rfl)|apply Zb|apply WO.nil|(apply WO.op;(focus (simp only [rQ,Zc,li,lo,reduceIte,Nat.reduceEqDiff,Nat.reduceAdd,beq_self_eq_true];done));simp only [rE,rS,li,lo,reduceIte,Nat.reduceEqDiff,Nat.reduceAdd,Nat.reduceMul,ZT,Zr,Zz,Zy,ZQ,Zo,Zq,Ze Yn Yk,Ze Zu ZJ,Za ZM,Za Z0,Za Zt,Za ZA,Xe,Xf,YW,Yk,Z1,hsv1,ZD,YE,ZC,YD,Zi,Zw,n01,n10,cu75,cu76,c1];exact rfl;exact rfl)|(apply WO.unwanted;(focus (simp only [rQ,Zc,li,lo,reduceIte,Nat.reduceEqDiff,Nat.reduceAdd,beq_self_eq_true];done));exact rfl))
      (first|(apply WF.condT;(focus (simp only [Zg,Zf,Zd,Zm,Bool.not_true,Bool.not_false,reduceIte,Nat.reduceEqDiff];done)))|(apply WF.condF;(focus (simp only [Zg,Zf,Zd,Zm,Bool.not_true,Bool.not_false,reduceIte,Nat.reduceEqDiff];done))))
      repeat (first|(apply Zh;exact rfl)|apply Zb|apply WO.nil|(apply WO.op;(focus (simp only [rQ,Zc,li,lo,reduceIte,Nat.reduceEqDiff,Nat.reduceAdd,beq_self_eq_true];done));simp only [rE,rS,li,lo,reduceIte,Nat.reduceEqDiff,Nat.reduceAdd,Nat.reduceMul,ZT,Zr,Zz,Zy,ZQ,Zo,Zq,Ze Yn Yk,Ze Zu ZJ,Za ZM,Za Z0,Za Zt,Za ZA,Xe,Xf,YW,Yk,Z1,hsv1,ZD,YE,ZC,YD,Zi,Zw,n01,n10,cu75,cu76,c1];exact rfl;exact rfl)|(apply WO.unwanted;(focus (simp only [rQ,Zc,li,lo,reduceIte,Nat.reduceEqDiff,Nat.reduceAdd,beq_self_eq_true];done));exact rfl))
      (apply WF.ret; (focus (simp only [Zj, Zd, Zm, Zv, reduceIte, Nat.reduceEqDiff, rs38]; exact rfl)))
      rfl
  · have hc : c = 115 := by
      have := of_decide_eq_true c1
      omega
    rw [if_pos hc]
    repeat (first|(apply Zh;exact rfl)|apply Zb|apply WO.nil|(apply WO.op;(focus (simp only [rQ,Zc,li,lo,reduceIte,Nat.reduceEqDiff,Nat.reduceAdd,beq_self_eq_true];done));simp only [rE,rS,li,lo,reduceIte,Nat.reduceEqDiff,Nat.reduceAdd,Nat.reduceMul,ZT,Zr,Zz,Zy,ZQ,Zo,Zq,Ze Yn Yk,Ze Zu ZJ,Za ZM,Za Z0,Za Zt,Za ZA,Xe,Xf,YW,Yk,Z1,hsv1,ZD,YE,ZC,YD,Zi,Zw,n01,n10,cu75,cu76,c1];exact rfl;exact rfl)|(apply WO.unwanted;(focus (simp only [rQ,Zc,li,lo,reduceIte,Nat.reduceEqDiff,Nat.reduceAdd,beq_self_eq_true];done));exact rfl))
    (first|(apply WF.condT;(focus (simp only [Zg,Zf,Zd,Zm,Bool.not_true,Bool.not_false,reduceIte,Nat.reduceEqDiff,c1];done)))|(apply WF.condF;(focus (simp only [Zg,Zf,Zd,Zm,Bool.not_true,Bool.not_false,reduceIte,Nat.reduceEqDiff,c1];done))))
    cases q1 : decide (kind = 2)
    · repeat (first|(apply Zh;exact rfl)|apply Zb|apply WO.nil|(apply WO.op;(focus (simp only [rQ,Zc,li,lo,reduceIte,Nat.reduceEqDiff,Nat.reduceAdd,beq_self_eq_true,q1];done));simp only [rE,rS,li,lo,reduceIte,Nat.reduceEqDiff,Nat.reduceAdd,Nat.reduceMul,ZT,Zr,Zz,Zy,ZQ,Zo,Zq,Ze Yn Yk,Ze Zu ZJ,Za ZM,Za Z0,Za Zt,Za ZA,Xe,Xf,YW,Yk,Z1,hsv1,ZD,YE,ZC,YD,Zi,Zw,n01,n10,cu75,cu76,c1,q1];exact rfl;exact rfl)|(apply WO.unwanted;(focus (simp only [rQ,Zc,li,lo,reduceIte,Nat.reduceEqDiff,Nat.reduceAdd,beq_self_eq_true,q1];done));exact rfl))
      (apply WF.ret; (focus (simp only [Zj, Zd, Zm, Zv, reduceIte, Nat.reduceEqDiff, rs38]; exact rfl)))
      rfl
    cases vstr
    · repeat (first|(apply Zh;exact rfl)|apply Zb|apply WO.nil|(apply WO.op;(focus (simp only [rQ,Zc,li,lo,reduceIte,Nat.reduceEqDiff,Nat.reduceAdd,beq_self_eq_true,q1];done));simp only [rE,rS,li,lo,reduceIte,Nat.reduceEqDiff,Nat.reduceAdd,Nat.reduceMul,ZT,Zr,Zz,Zy,ZQ,Zo,Zq,Ze Yn Yk,Ze Zu ZJ,Za ZM,Za Z0,Za Zt,Za ZA,Xe,Xf,YW,Yk,Z1,hsv1,ZD,YE,ZC,YD,Zi,Zw,n01,n10,cu75,cu76,c1,q1];exact rfl;exact rfl)|(apply WO.unwanted;(focus (simp only [rQ,Zc,li,lo,reduceIte,Nat.reduceEqDiff,Nat.reduceAdd,beq_self_eq_true,q1];done));exact rfl))
      (apply WF.ret; (focus (simp only [Zj, Zd, Zm, Zv, reduceIte, Nat.reduceEqDiff, rs38]; exact rfl)))
      rfl
    cases q3 : decide (vn = 0)
    · repeat (first|(apply Zh;exact rfl)|apply Zb|apply WO.nil|(apply WO.op;(focus (simp only [rQ,Zc,li,lo,reduceIte,Nat.reduceEqDiff,Nat.reduceAdd,beq_self_eq_true,q1,q3];done));simp only [rE,rS,li,lo,reduceIte,Nat.reduceEqDiff,Nat.reduceAdd,Nat.reduceMul,ZT,Zr,Zz,Zy,ZQ,Zo,Zq,Ze Yn Yk,Ze Zu ZJ,Za ZM,Za Z0,Za Zt,Za ZA,Xe,Xf,YW,Yk,Z1,hsv1,ZD,YE,ZC,YD,Zi,Zw,n01,n10,cu75,cu76,c1,q1,q3];exact rfl;exact rfl)|(apply WO.unwanted;(focus (simp only [rQ,Zc,li,lo,reduceIte,Nat.reduceEqDiff,Nat.reduceAdd,beq_self_eq_true,q1,q3];done));exact rfl))
      (apply WF.ret; (focus (simp only [Zj, Zd, Zm, Zv, reduceIte, Nat.reduceEqDiff, rs38]; exact rfl)))
      rfl
    cases q4 : decide ((vs.length : Int) ≤ 64)
    · repeat (first|(apply Zh;exact rfl)|apply Zb|apply WO.nil|(apply WO.op;(focus (simp only [rQ,Zc,li,lo,reduceIte,Nat.reduceEqDiff,Nat.reduceAdd,beq_self_eq_true,q1,q3,q4];done));simp only [rE,rS,li,lo,reduceIte,Nat.reduceEqDiff,Nat.reduceAdd,Nat.reduceMul,ZT,Zr,Zz,Zy,ZQ,Zo,Zq,Ze Yn Yk,Ze Zu ZJ,Za ZM,Za Z0,Za Zt,Za ZA,Xe,Xf,YW,Yk,Z1,hsv1,ZD,YE,ZC,YD,Zi,Zw,n01,n10,cu75,cu76,c1,q1,q3,q4];exact rfl;exact rfl)|(apply WO.unwanted;(focus (simp only [rQ,Zc,li,lo,reduceIte,Nat.reduceEqDiff,Nat.reduceAdd,beq_self_eq_true,q1,q3,q4];done));exact rfl))
      (apply WF.ret; (focus (simp only [Zj, Zd, Zm, Zv, reduceIte, Nat.reduceEqDiff, rs38]; exact rfl)))
      rfl
    repeat (first|(apply Zh;exact rfl)|apply Zb|apply WO.nil|(apply WO.op;(focus (simp only [rQ,Zc,li,lo,reduceIte,Nat.reduceEqDiff,Nat.reduceAdd,beq_self_eq_true,q1,q3,q4];done));simp only [rE,rS,li,lo,reduceIte,Nat.reduceEqDiff,Nat.reduceAdd,Nat.reduceMul,ZT,Zr,Zz,Zy,ZQ,Zo,Zq,Ze Yn Yk,Ze Zu ZJ,Za ZM,Za Z0,Za Zt,Za ZA,Xe,Xf,YW,Yk,Z1,hsv1,ZD,YE,ZC,YD,Zi,Zw,n01,n10,cu75,cu76,c1,q1,q3,q4];exact rfl;exact rfl)|(apply WO.unwanted;(focus (simp only [rQ,Zc,li,lo,reduceIte,Nat.reduceEqDiff,Nat.reduceAdd,beq_self_eq_true,q1,q3,q4];done));exact rfl))
    (apply WO.call;(focus (simp only [rQ,Zc,li,lo,reduceIte,Nat.reduceEqDiff,Nat.reduceAdd,beq_self_eq_true,q1,q3,q4];done));simp only [rE,rS,li,lo,reduceIte,Nat.reduceEqDiff,Nat.reduceAdd,Nat.reduceMul,ZT,Zr,Zz,Zy,ZQ,Zo,Zq,Ze Yn Yk,Ze Zu ZJ,Za ZM,Za Z0,Za Zt,Za ZA,Xe,Xf,YW,Yk,Z1,hsv1,ZD,YE,ZC,YD,Zi,Zw,n01,n10,cu75,cu76,c1,q1,q3,q4];exact rfl;exact contains0_c _ _;rintro _ _ ⟨rfl,rfl⟩;refine ⟨_,rfl,?_⟩)
    repeat (first|(apply Zh;exact rfl)|apply Zb|apply WO.nil|(apply WO.op;(focus (simp only [rQ,Zc,li,lo,reduceIte,Nat.reduceEqDiff,Nat.reduceAdd,beq_self_eq_true,q1,q3,q4];done));simp only [rE,rS,li,lo,reduceIte,Nat.reduceEqDiff,Nat.reduceAdd,Nat.reduceMul,ZT,Zr,Zz,Zy,ZQ,Zo,Zq,Ze Yn Yk,Ze Zu ZJ,Za ZM,Za Z0,Za Zt,Za ZA,Xe,Xf,YW,Yk,Z1,hsv1,ZD,YE,ZC,YD,Zi,Zw,n01,n10,cu75,cu76,c1,q1,q3,q4];exact rfl;exact rfl)|(apply WO.unwanted;(focus (simp only [rQ,Zc,li,lo,reduceIte,Nat.reduceEqDiff,Nat.reduceAdd,beq_self_eq_true,q1,q3,q4];done));exact rfl))
    (apply WF.ret; (focus (simp only [Zj, Zd, Zm, Zv, reduceIte, Nat.reduceEqDiff, rs38]; exact rfl)))
    rfl
end Go.Ev.C
end
section
set_option linter.unusedVariables false
set_option linter.unusedSimpArgs false
set_option linter.defProp false
set_option linter.all false
namespace Go.Ev.C
open Go.Proofs Go.Fmt
set_option maxRecDepth 100000
set_option linter.unusedSimpArgs false
variable {L : World → Prop} [YQ Q L]
theorem wrap_u64 (x : Int) : IntKind.u64.wrap x = x % 18446744073709551616 := by
  simp only [IntKind.wrap, IntKind.bits, IntKind.signed, Bool.false_and]
  rfl
def u64N (v : Int) : Nat := (v % 18446744073709551616).toNat
theorem Wt (v : Int) : ((u64N v : Nat) : Int) = IntKind.u64.wrap v := by
  rw [wrap_u64]
  unfold u64N
  omega
theorem u64N_lt (v : Int) : u64N v < 18446744073709551616 := by
  unfold u64N
  omega
def Wa (x : XB) : Nat := if x.kind = 1 ∧ x.size < 8 then u64N x.vn % 2 ^ (8 * x.size.toNat) else u64N x.vn
theorem pat_lt (x : XB) : Wa x < 18446744073709551616 := by
  unfold Wa
  have := u64N_lt x.vn
  split
  · exact Nat.lt_of_le_of_lt (Nat.mod_le _ _) this
  · exact this
theorem and_mask (a k : Nat) (ha : a < 18446744073709551616) (hk : k < 64) : IntKind.u64.wrap ((BitVec.ofInt IntKind.u64.bits (a : Int) &&& BitVec.ofInt IntKind.u64.bits ((2 ^ k - 1 : Nat) : Int)).toNat : Int) = ((a % 2 ^ k : Nat) : Int) := by
  have hb : IntKind.u64.bits = 64 := rfl
  have h2 : 2 ^ k ≤ 2 ^ 63 := Nat.pow_le_pow_right (by omega) (by omega)
  have h1 : (BitVec.ofInt IntKind.u64.bits (a : Int)).toNat = a := by
    rw [hb, BitVec.toNat_ofInt]
    omega
  have h3 : (BitVec.ofInt IntKind.u64.bits ((2 ^ k - 1 : Nat) : Int)).toNat = 2 ^ k - 1 := by
    rw [hb, BitVec.toNat_ofInt]
    have : 2 ^ k - 1 < 2 ^ 63 := by
      have : 0 < 2 ^ k := Nat.two_pow_pos k
      omega
    generalize 2 ^ k - 1 = m at this
    omega
  rw [BitVec.toNat_and, h1, h3, Nat.and_two_pow_sub_one_eq_mod, wrap_u64]
  have : a % 2 ^ k ≤ a := Nat.mod_le _ _
  omega
theorem Wk {P : Program} (k : IntKind) (t : TypeId) (a b : Int) : YP P .and t (.int k a) (.int k b) = some (.int k (k.wrap (BitVec.ofInt k.bits a &&& BitVec.ofInt k.bits b).toNat)) := by simp [YP,intOp]
theorem Wj {P : Program} (t : TypeId) (x y : Operand) (a b : AV) : YC P .and t x y a b = true := rfl
theorem YV {P : Program} (t : TypeId) (x y : Operand) (a b : AV) : YC P .shl t x y a b = true := rfl
theorem shl8 : YP Q .shl 71 (.int .u64 1) (.int .i64 8) = some (.int .u64 256) := by kernel_rfl
theorem Ww : YP Q .shl 71 (.int .u64 1) (.int .i64 16) = some (.int .u64 65536) := by kernel_rfl
theorem Wv : YP Q .shl 71 (.int .u64 1) (.int .i64 32) = some (.int .u64 4294967296) := by kernel_rfl
theorem YA {P : Program} (k : IntKind) (t : TypeId) (a b : Int) : YP P .mul t (.int k a) (.int k b) = some (.int k (k.wrap (a * b))) := by simp [YP, intOp]
theorem Yy {P : Program} (t : TypeId) (x y : Operand) (a b : AV) : YC P .mul t x y a b = true := rfl
set_option maxHeartbeats 2000000 in
theorem pattern_c (H : AH) (x : XB) (sv : AV) (hsv1 : Ye sv = true) (hk : x.kind = 1 → (Ys x.size x.sg).isSome = true) : Fn Q L 120 [IV x sv] H (fun w H' => w = .int .u64 (Wa x : Int) ∧ H' = H) := by
  refine Y2 (en120 _) rfl ?_
  generalize lock H = H
  obtain ⟨act, val, kind, size, sg, ref, vstr, vn, vs⟩ := x
  have m1 : IntKind.i64.wrap (8 * 1) = 8 := rfl
  have m2 : IntKind.i64.wrap (8 * 2) = 16 := rfl
  have m3 : IntKind.i64.wrap (8 * 4) = 32 := rfl
  have s1 : IntKind.u64.wrap (256 - 1) = 255 := rfl
  have s2 : IntKind.u64.wrap (65536 - 1) = 65535 := rfl
  have s3 : IntKind.u64.wrap (4294967296 - 1) = 4294967295 := rfl
  unfold c120 Tryz.f120 IV IC
  simp only [Option.getD_some]
  cases q1 : decide (kind = 1)
  · have hp : ((Wa ⟨act, val, kind, size, sg, ref, vstr, vn, vs⟩ : Nat) : Int) = IntKind.u64.wrap vn := by
      unfold Wa
      rw [if_neg (fun h => of_decide_eq_false q1 h.1), Wt]
    rw [hp]
    repeat (first|(apply Zh;exact rfl)|apply Zb|apply WO.nil|(apply WO.op;(focus (simp only [rQ,Zc,li,lo,reduceIte,Nat.reduceEqDiff,Nat.reduceAdd,beq_self_eq_true,q1];done));simp only [rE,rS,li,lo,reduceIte,Nat.reduceEqDiff,Nat.reduceAdd,Nat.reduceMul,ZT,Zr,Zz,Zy,Zo,ZW,Za ZM,Za Zt,hsv1,ZN,Yx,ZY,shl8,Ww,Wv,Wk,YA,Yy,Wj,YV,m1,m2,m3,s1,s2,s3,q1];exact rfl;exact rfl)|(apply WO.unwanted;(focus (simp only [rQ,Zc,li,lo,reduceIte,Nat.reduceEqDiff,Nat.reduceAdd,beq_self_eq_true,q1];done));exact rfl))
    (first|(apply WF.condT;(focus (simp only [Zg,Zf,Zd,Zm,Bool.not_true,Bool.not_false,reduceIte,Nat.reduceEqDiff,q1];done)))|(apply WF.condF;(focus (simp only [Zg,Zf,Zd,Zm,Bool.not_true,Bool.not_false,reduceIte,Nat.reduceEqDiff,q1];done))))
    repeat (first|(apply Zh;exact rfl)|apply Zb|apply WO.nil|(apply Zk;exact rfl;simp only [rE,rS,li,lo,reduceIte,Nat.reduceEqDiff,Nat.reduceAdd,Nat.reduceMul,ZT,Zr,Zz,Zy,Zo,ZW,Za ZM,Za Zt,hsv1,ZN,Yx,ZY,shl8,Ww,Wv,Wk,YA,Yy,Wj,YV,m1,m2,m3,s1,s2,s3];exact rfl;exact rfl))
    (apply WF.ret; (focus (simp only [Zj, Zd, Zm, Zv, reduceIte, Nat.reduceEqDiff, rs120]; exact rfl)))
    rfl
  have hk1 := of_decide_eq_true q1
  have hsz := hk hk1
  dsimp only at hsz
  have hsz : size = 1 ∨ size = 2 ∨ size = 4 ∨ size = 8 := by
    unfold Ys at hsz
    by_cases h1 : size = 1
    · exact .inl h1
    by_cases h2 : size = 2
    · exact .inr (.inl h2)
    by_cases h3 : size = 4
    · exact .inr (.inr (.inl h3))
    by_cases h4 : size = 8
    · exact .inr (.inr (.inr h4))
    rw [if_neg h1, if_neg h2, if_neg h3, if_neg h4] at hsz
    cases hsz
  rcases hsz with rfl | rfl | rfl | rfl
  · have q2 : decide ((1 : Int) < 8) = true := rfl
    have hp : ((Wa ⟨act,val,kind,1,sg,ref,vstr,vn,vs⟩ : Nat) : Int) = IntKind.u64.wrap ((BitVec.ofInt IntKind.u64.bits (IntKind.u64.wrap vn) &&& BitVec.ofInt IntKind.u64.bits 255).toNat : Int) := by
      unfold Wa
      rw [if_pos ⟨hk1, show (1 : Int) < 8 from by decide⟩]
      have := and_mask (u64N vn) 8 (u64N_lt vn) (by omega)
      rw [Wt] at this
      exact this.symm
    rw [hp]
    repeat (first|(apply Zh;exact rfl)|apply Zb|apply WO.nil|(apply WO.op;(focus (simp only [rQ,Zc,li,lo,reduceIte,Nat.reduceEqDiff,Nat.reduceAdd,beq_self_eq_true,q1,q2];done));simp only [rE,rS,li,lo,reduceIte,Nat.reduceEqDiff,Nat.reduceAdd,Nat.reduceMul,ZT,Zr,Zz,Zy,Zo,ZW,Za ZM,Za Zt,hsv1,ZN,Yx,ZY,shl8,Ww,Wv,Wk,YA,Yy,Wj,YV,m1,m2,m3,s1,s2,s3,q1,q2];exact rfl;exact rfl)|(apply WO.unwanted;(focus (simp only [rQ,Zc,li,lo,reduceIte,Nat.reduceEqDiff,Nat.reduceAdd,beq_self_eq_true,q1,q2];done));exact rfl))
    (first|(apply WF.condT;(focus (simp only [Zg,Zf,Zd,Zm,Bool.not_true,Bool.not_false,reduceIte,Nat.reduceEqDiff,q2];done)))|(apply WF.condF;(focus (simp only [Zg,Zf,Zd,Zm,Bool.not_true,Bool.not_false,reduceIte,Nat.reduceEqDiff,q2];done))))
    repeat (first|(apply Zh;exact rfl)|apply Zb|apply WO.nil|(apply Zk;exact rfl;simp only [rE,rS,li,lo,reduceIte,Nat.reduceEqDiff,Nat.reduceAdd,Nat.reduceMul,ZT,Zr,Zz,Zy,Zo,ZW,Za ZM,Za Zt,hsv1,ZN,Yx,ZY,shl8,Ww,Wv,Wk,YA,Yy,Wj,YV,m1,m2,m3,s1,s2,s3];exact rfl;exact rfl))
    (apply WF.ret; (focus (simp only [Zj, Zd, Zm, Zv, reduceIte, Nat.reduceEqDiff, rs120]; exact rfl)))
    rfl
  · have q2 : decide ((2 : Int) < 8) = true := rfl
    have hp : ((Wa ⟨act,val,kind,2,sg,ref,vstr,vn,vs⟩ : Nat) : Int) = IntKind.u64.wrap ((BitVec.ofInt IntKind.u64.bits (IntKind.u64.wrap vn) &&& BitVec.ofInt IntKind.u64.bits 65535).toNat : Int) := by
      unfold Wa
      rw [if_pos ⟨hk1, show (2 : Int) < 8 from by decide⟩]
      have := and_mask (u64N vn) 16 (u64N_lt vn) (by omega)
      rw [Wt] at this
      exact this.symm
    rw [hp]
    repeat (first|(apply Zh;exact rfl)|apply Zb|apply WO.nil|(apply WO.op;(focus (simp only [rQ,Zc,li,lo,reduceIte,Nat.reduceEqDiff,Nat.reduceAdd,beq_self_eq_true,q1,q2];done));simp only [rE,rS,li,lo,reduceIte,Nat.reduceEqDiff,Nat.reduceAdd,Nat.reduceMul,ZT,Zr,Zz,Zy,Zo,ZW,Za ZM,Za Zt,hsv1,ZN,Yx,ZY,shl8,Ww,Wv,Wk,YA,Yy,Wj,YV,m1,m2,m3,s1,s2,s3,q1,q2];exact rfl;exact rfl)|(apply WO.unwanted;(focus (simp only [rQ,Zc,li,lo,reduceIte,Nat.reduceEqDiff,Nat.reduceAdd,beq_self_eq_true,q1,q2];done));exact rfl))
    (first|(apply WF.condT;(focus (simp only [Zg,Zf,Zd,Zm,Bool.not_true,Bool.not_false,reduceIte,Nat.reduceEqDiff,q2];done)))|(apply WF.condF;(focus (simp only [Zg,Zf,Zd,Zm,Bool.not_true,Bool.not_false,reduceIte,Nat.reduceEqDiff,q2];done))))
    repeat (first|(apply Zh;exact rfl)|apply Zb|apply WO.nil|(apply Zk;exact rfl;simp only [rE,rS,li,lo,reduceIte,Nat.reduceEqDiff,Nat.reduceAdd,Nat.reduceMul,ZT,Zr,Zz,Zy,Zo,ZW,Za ZM,Za Zt,hsv1,ZN,Yx,ZY,shl8,Ww,Wv,Wk,YA,Yy,Wj,YV,m1,m2,m3,s1,s2,s3];exact rfl;exact rfl))
    (apply WF.ret; (focus (simp only [Zj, Zd, Zm, Zv, reduceIte, Nat.reduceEqDiff, rs120]; exact rfl)))
    rfl
  · have q2 : decide ((4 : Int) < 8) = true := rfl
    have hp : ((Wa ⟨act,val,kind,4,sg,ref,vstr,vn,vs⟩ : Nat) : Int) = IntKind.u64.wrap ((BitVec.ofInt IntKind.u64.bits (IntKind.u64.wrap vn) &&& BitVec.ofInt IntKind.u64.bits 4294967295).toNat : Int) := by
      unfold Wa
      rw [if_pos ⟨hk1, show (4 : Int) < 8 from by decide⟩]
      have := and_mask (u64N vn) 32 (u64N_lt vn) (by omega)
      rw [Wt] at this
      exact this.symm
    rw [hp]
    repeat (first|(apply Zh;exact rfl)|apply Zb|apply WO.nil|(apply WO.op;(focus (simp only [rQ,Zc,li,lo,reduceIte,Nat.reduceEqDiff,Nat.reduceAdd,beq_self_eq_true,q1,q2];done));simp only [rE,rS,li,lo,reduceIte,Nat.reduceEqDiff,Nat.reduceAdd,Nat.reduceMul,ZT,Zr,Zz,Zy,Zo,ZW,Za ZM,Za Zt,hsv1,ZN,Yx,ZY,shl8,Ww,Wv,Wk,YA,Yy,Wj,YV,m1,m2,m3,s1,s2,s3,q1,q2];exact rfl;exact rfl)|(apply WO.unwanted;(focus (simp only [rQ,Zc,li,lo,reduceIte,Nat.reduceEqDiff,Nat.reduceAdd,beq_self_eq_true,q1,q2];done));exact rfl))
    (first|(apply WF.condT;(focus (simp only [Zg,Zf,Zd,Zm,Bool.not_true,Bool.not_false,reduceIte,Nat.reduceEqDiff,q2];done)))|(apply WF.condF;(focus (simp only [Zg,Zf,Zd,Zm,Bool.not_true,Bool.not_false,reduceIte,Nat.reduceEqDiff,q2];done))))
    repeat (first|(apply Zh;exact rfl)|apply Zb|apply WO.nil|(apply Zk;exact rfl;simp only [rE,rS,li,lo,reduceIte,Nat.reduceEqDiff,Nat.reduceAdd,Nat.reduceMul,ZT,Zr,Zz,Zy,Zo,ZW,Za ZM,Za Zt,hsv1,ZN,Yx,ZY,shl8,Ww,Wv,Wk,YA,Yy,Wj,YV,m1,m2,m3,s1,s2,s3];exact rfl;exact rfl))
    (apply WF.ret; (focus (simp only [Zj, Zd, Zm, Zv, reduceIte, Nat.reduceEqDiff, rs120]; exact rfl)))
    rfl
  · have q2 : decide ((8 : Int) < 8) = false := rfl
    have hp : ((Wa ⟨act, val, kind, 8, sg, ref, vstr, vn, vs⟩ : Nat) : Int) = IntKind.u64.wrap vn := by
      unfold Wa
      rw [if_neg (fun h => absurd (show (8 : Int) < 8 from h.2) (by decide)), Wt]
    rw [hp]
    repeat (first|(apply Zh;exact rfl)|apply Zb|apply WO.nil|(apply WO.op;(focus (simp only [rQ,Zc,li,lo,reduceIte,Nat.reduceEqDiff,Nat.reduceAdd,beq_self_eq_true,q1,q2];done));simp only [rE,rS,li,lo,reduceIte,Nat.reduceEqDiff,Nat.reduceAdd,Nat.reduceMul,ZT,Zr,Zz,Zy,Zo,ZW,Za ZM,Za Zt,hsv1,ZN,Yx,ZY,shl8,Ww,Wv,Wk,YA,Yy,Wj,YV,m1,m2,m3,s1,s2,s3,q1,q2];exact rfl;exact rfl)|(apply WO.unwanted;(focus (simp only [rQ,Zc,li,lo,reduceIte,Nat.reduceEqDiff,Nat.reduceAdd,beq_self_eq_true,q1,q2];done));exact rfl))
    (first|(apply WF.condT;(focus (simp only [Zg,Zf,Zd,Zm,Bool.not_true,Bool.not_false,reduceIte,Nat.reduceEqDiff,q2];done)))|(apply WF.condF;(focus (simp only [Zg,Zf,Zd,Zm,Bool.not_true,Bool.not_false,reduceIte,Nat.reduceEqDiff,q2];done))))
    repeat (first|(apply Zh;exact rfl)|apply Zb|apply WO.nil|(apply Zk;exact rfl;simp only [rE,rS,li,lo,reduceIte,Nat.reduceEqDiff,Nat.reduceAdd,Nat.reduceMul,ZT,Zr,Zz,Zy,Zo,ZW,Za ZM,Za Zt,hsv1,ZN,Yx,ZY,shl8,Ww,Wv,Wk,YA,Yy,Wj,YV,m1,m2,m3,s1,s2,s3];exact rfl;exact rfl))
    (apply WF.ret; (focus (simp only [Zj, Zd, Zm, Zv, reduceIte, Nat.reduceEqDiff, rs120]; exact rfl)))
    rfl
end Go.Ev.C
end
