/- Contracts: digits. -/
import Derived.Test.YtkkegnkopmpjhaaGreatDoorEvH
import Derived.Shelf.Strconv.Itoa0
import Derived.Shelf.Strconv.Itoa1
import Derived.Shelf.LaysM
import Derived.Shelf.Strconv.Itoa2
import Derived.Shelf.Strconv.Itoa3
import Derived.Test.YtkkegnkopmpjhaaGreatDoorProg
import Derived.Lib.Walk
import Derived.Lib.ItoaMem
import Derived.Lib.AppendIntMem
import Derived.WalkKit
import Derived.BigCall
import Derived.BigGuard
import Derived.Test.YtkkegnkopmpjhaaGreatDoorEvO
section
set_option linter.unusedVariables false
set_option linter.unusedSimpArgs false
set_option linter.defProp false
set_option linter.all false
namespace Go.Fmt
def ch (d : Nat) : Nat := if d < 10 then 48 + d else 87 + d
def hxF (b : Nat) : Nat → Nat → List Nat
  | 0, _ => []
  | k + 1, n => if n < b then [ch n] else hxF b k (n / b) ++ [ch (n % b)]
def hx (b n : Nat) : List Nat := hxF b 64 n
theorem half_lt {b n k : Nat} (hb : 2 ≤ b) (h : n < 2 ^ (k + 1)) : n / b < 2 ^ k := by
  have h1 : n / b ≤ n / 2 := Nat.div_le_div_left hb (by omega)
  have h2 : n / 2 < 2 ^ k := by
    rw [Nat.pow_succ] at h
    omega
  omega
theorem hxF_any {b : Nat} (hb : 2 ≤ b) : ∀ {k k' n : Nat}, n < 2 ^ k → n < 2 ^ k' → 0 < k → 0 < k' → hxF b k n = hxF b k' n
  | 0, _, _, _, _, h, _ => by omega
  | _, 0, _, _, _, _, h => by omega
  | k + 1, k' + 1, n, h, h', _, _ => by
    unfold hxF
    by_cases hn : n < b
    · rw [if_pos hn, if_pos hn]
    · rw [if_neg hn, if_neg hn]
      have e1 := half_lt hb h
      have e2 := half_lt hb h'
      have hpos : 0 < n / b := Nat.div_pos (by omega) (by omega)
      have k0 : 0 < k := by
        rcases Nat.eq_zero_or_pos k with rfl | hk
        · simp at e1; omega
        · exact hk
      have k0' : 0 < k' := by
        rcases Nat.eq_zero_or_pos k' with rfl | hk
        · simp at e2; omega
        · exact hk
      rw [hxF_any hb e1 e2 k0 k0']
theorem Wf {b n : Nat} (h : n < b) : hx b n = [ch n] := by
  unfold hx hxF
  rw [if_pos h]
theorem hx_step {b n : Nat} (hb : 2 ≤ b) (h : ¬ n < b) (hn : n < 18446744073709551616) : hx b n = hx b (n / b) ++ [ch (n % b)] := by
  have h64 : n < 2 ^ (63 + 1) := hn
  have e1 := half_lt hb h64
  have e2 : n / b < 2 ^ 64 := Nat.lt_of_lt_of_le e1 (by decide)
  unfold hx
  rw [hxF_any (k := 64) (k' := 63) hb e2 e1 (by omega) (by omega)]
  conv => lhs; unfold hxF
  rw [if_neg h]
theorem ch_lt {d : Nat} (h : d < 36) : ch d < 256 := by
  unfold ch
  split <;> omega
theorem hxF_lt {b : Nat} (hb : 2 ≤ b) (hb' : b ≤ 36) : ∀ {k n : Nat}, ∀ c ∈ hxF b k n, c < 256
  | 0, n, c, h => by cases h
  | k + 1, n, c, h => by
    unfold hxF at h
    split at h
    · rename_i hn
      simp at h
      rw [h]
      exact ch_lt (by omega)
    · rcases List.mem_append.1 h with h | h
      · exact hxF_lt hb hb' c h
      · simp at h
        rw [h]
        exact ch_lt (by have := Nat.mod_lt n (show 0 < b by omega); omega)
theorem hxF_len {b : Nat} : ∀ {k n : Nat}, (hxF b k n).length ≤ k
  | 0, n => by simp [hxF]
  | k + 1, n => by
    unfold hxF
    split
    · simp
    · have := hxF_len (b := b) (k := k) (n := n / b)
      simp
      omega
theorem Yf (b n : Nat) : (hx b n).length ≤ 64 := hxF_len
end Go.Fmt
end
section
set_option linter.unusedVariables false
set_option linter.unusedSimpArgs false
set_option linter.defProp false
set_option linter.all false
namespace Go.Ev.C
open Go.Proofs Go.Fmt
set_option maxRecDepth 100000
set_option linter.unusedSimpArgs false
variable {L : World → Prop} [YQ Q L]
def d36 : List Nat := [48, 49, 50, 51, 52, 53, 54, 55, 56, 57, 97, 98, 99, 100, 101, 102, 103, 104, 105, 106, 107, 108, 109, 110, 111, 112, 113, 114, 115, 116, 117, 118, 119, 120, 121, 122]
theorem bts36 : Xt ⟨#[48,49,50,51,52,53,54,55,56,57,97,98,99,100,101,102,103,104,105,106,107,108,109,110,111,112,113,114,115,116,117,118,119,120,121,122]⟩ = d36 := rfl
theorem d36_at : ∀ k : Fin 36, d36[k.val]? = some (ch k.val) := by decide
theorem idx36 {k : Nat} (h : k < 36) : XN Q 9 (.str d36) (.int .u64 (k : Int)) = some (.int .u8 ((ch k : Nat) : Int)) := by
  have h1 := d36_at ⟨k, h⟩
  have h2 : k < d36.length := h
  simp only [XN, und9, idxU_lt h2]
  dsimp only at h1
  rw [h1]
  rfl
theorem ia420 {b off i : Nat} (h : i < 65) : Wp Q 420 (.ptr b off) (.int .i64 (i : Int)) = some (.ptr b (off + i)) := by
  simp only [Wp, und420, idxU_lt h, sz5, Nat.mul_one]
theorem sl420 {b i : Nat} (h : i < 65) : sliceU Q 420 (.ptr b 0) (some (.int .i64 (i : Int))) none none = some (.slice b i (65 - i) (.is (65 - i))) := by
  have h1 : Nat.beq 65 i = false := by rw [← Bool.not_eq_true, Nat.beq_eq]; omega
  simp only [sliceU, und420, sz5, sliceArr, boundU_none, X6 (Nat.le_of_lt h), h1]
  simp
theorem Yj : zeroU Q 420 = some (.agg (List.replicate 65 (.int .u8 0))) := by kernel_rfl
theorem rep_one (n : Nat) : (List.replicate n (AV.int .u8 0)).all Ye = true := List.all_eq_true.2 fun v hv => by rw [List.eq_of_mem_replicate hv]; rfl
theorem over_ok {c vs : List AV} {off : Nat} (hl : off + vs.length ≤ c.length) (h1 : vs.all Ye = true) : over c off vs = some (c.take off ++ vs ++ c.drop (off + vs.length)) := by
  unfold over
  rw [if_pos]
  simp only [Bool.and_eq_true, Nat.ble_eq]
  exact ⟨hl, h1⟩
theorem storeB {H : AH} {b i : Nat} {c : List AV} {x : Int} {e : TypeId} (hg : H.t.get b = some (.cells e c 0 false false)) (hi : i < c.length) : Wn Q 5 b i (.int .u8 x) H = some (H.set b (.cells e (c.take i ++ [.int .u8 x] ++ c.drop (i + 1)) 0 false false)) := by
  unfold Wn
  rw [hg, sz5]
  simp [AV.cells, over_ok (c := c) (vs := [AV.int .u8 x]) (off := i) (by simp; omega) rfl]
theorem drop_put {c : List AV} {i : Nat} (v : AV) (hi : i < c.length) : (c.take i ++ [v] ++ c.drop (i + 1)).drop i = v :: c.drop (i + 1) := by
  rw [List.append_assoc, List.drop_append_of_le_length (by simp; omega), List.drop_of_length_le (by simp; omega)]
  rfl
theorem len_put {c : List AV} {i : Nat} (v : AV) (hi : i < c.length) : (c.take i ++ [v] ++ c.drop (i + 1)).length = c.length := by
  simp
  omega
theorem Z7 {P : Program} (k : IntKind) (t : TypeId) (a b : Int) : YP P .geq t (.int k a) (.int k b) = some (.bool (decide (b ≤ a))) := bin_geq k t a b
theorem gOk_shr {P : Program} (t : TypeId) (x y : Operand) (a b : AV) : YC P .shr t x y a b = true := rfl
theorem shr_n (u s : Nat) (hs : s < 64) : YP Q .shr 71 (.int .u64 (u : Int)) (.int .u64 (s : Int)) = some (.int .u64 ((u / 2 ^ s : Nat) : Int)) := by
  have h1 : ¬ ((s : Int) < 0) := by omega
  have h2 : min (s : Int).toNat IntKind.u64.bits = s := by
    have : IntKind.u64.bits = 64 := rfl
    rw [this, Int.toNat_natCast]
    omega
  simp only [YP, h1, if_false, h2]
  congr 2
  rw [show (2 ^ s : Int) = ((2 ^ s : Nat) : Int) from by simp, ← Int.ofNat_fdiv]
/-- string(a[i:]) -/
theorem conv_tail {H : AH} {b i : Nat} {c : List AV} {s : List Nat} (hg : H.t.get b = some (.cells 420 c 0 false false)) (hl : c.length = 65) (hi : i < 65) (hd : c.drop i = bsL s) (h8 : ∀ n ∈ s,n < 256) : convL Q 35 9 (some (.slice b i (65 - i) (.is (65 - i)))) H = some (.str s) := by
  have hc := at_get hg
  have hcut : cut c i (65 - i) = some (bsL s) := by
    unfold cut
    rw [hd, List.take_of_length_le (by rw [← hd]; simp; omega)]
    have h1 : (bsL s).length = 65 - i := by rw [← hd]; simp; omega
    simp only [h1, bsL_hole]
    simp
  have hz : Nat.beq (65 - i) 0 = false := by rw [← Bool.not_eq_true, Nat.beq_eq]; omega
  simp only [convL, XH, und9, und5, hz, hc, hcut, byteL_map h8, Option.map_some, Bool.false_eq_true, if_false]
end Go.Ev.C
end
section
set_option linter.unusedVariables false
set_option linter.unusedSimpArgs false
set_option linter.defProp false
set_option linter.all false
namespace Go.Ev.C
open Go.Proofs Go.Fmt
set_option maxRecDepth 100000
set_option linter.unusedSimpArgs false
variable {L : World → Prop} [YQ Q L]
set_option maxHeartbeats 4000000 in
theorem formatBits16_c (hpow : ∀ H,Fn Q L 274 [.int .i64 16] H fun v H' => v = .bool true ∧ H' = H) (htz : ∀ H,Fn Q L 275 [.int .u64 16] H fun v H' => v = .int .i64 4 ∧ H' = H) (H : AH) (u : Nat) (hu : u < 18446744073709551616) :
    Fn Q L 209 [.nilslice, .int .u64 (u : Int), .int .i64 16, .bool false, .bool false] H (fun w H' => w = .tuple [.nilslice, .str (hx 16 u)] ∧ H' = H) := by
  refine Y2 (en209 _ _ _ _ _) rfl ?_
  generalize lock H = H
  have d1 : decide ((16 : Int) < 2) = false := rfl
  have d2 : decide ((16 : Int) = 10) = false := rfl
  have d3 : decide ((36 : Int) < 16) = false := rfl
  have w1 : IntKind.u64.wrap 16 = 16 := rfl
  have w2 : IntKind.u64.wrap (16 - 1) = 15 := rfl
  have w3 : IntKind.u64.wrap 4 = 4 := rfl
  unfold c209 Tryz.f209
  simp only [Option.getD_some]
  repeat (first|(apply Zh;exact rfl)|apply Zb|apply WO.nil|(apply WO.op;(focus (simp only [rQ,Zc,li,lo,reduceIte,Nat.reduceEqDiff,Nat.reduceAdd,beq_self_eq_true,d1,d2,d3];done));simp only [rE,rS,li,lo,reduceIte,Nat.reduceEqDiff,Nat.reduceAdd,Nat.reduceMul,ZN,und3,YO,ZY,Yj,Z7,Xs,Zi,d1,d2,d3];exact rfl;exact rfl)|(apply WO.unwanted;(focus (simp only [rQ,Zc,li,lo,reduceIte,Nat.reduceEqDiff,Nat.reduceAdd,beq_self_eq_true,d1,d2,d3];done));exact rfl))
  (first|(apply WF.condT;(focus (simp only [Zg,Zf,Zd,Zm,Bool.not_true,Bool.not_false,reduceIte,Nat.reduceEqDiff,d3];done)))|(apply WF.condF;(focus (simp only [Zg,Zf,Zd,Zm,Bool.not_true,Bool.not_false,reduceIte,Nat.reduceEqDiff,d3];done))))
  repeat (first|(apply Zh;exact rfl)|apply Zb|apply WO.nil|(apply Zk;exact rfl;simp only [rE,rS,li,lo,reduceIte,Nat.reduceEqDiff,Nat.reduceAdd,Nat.reduceMul,ZN,und3,YO,ZY,Yj,Z7,Xs,Zi,rep_one];exact rfl;exact rfl))
  (first|(apply WF.condT;(focus (simp only [Zg,Zf,Zd,Zm,Bool.not_true,Bool.not_false,reduceIte,Nat.reduceEqDiff];done)))|(apply WF.condF;(focus (simp only [Zg,Zf,Zd,Zm,Bool.not_true,Bool.not_false,reduceIte,Nat.reduceEqDiff];done))))
  repeat (first|(apply Zh;exact rfl)|apply Zb|apply WO.nil|(apply Zk;exact rfl;simp only [rE,rS,li,lo,reduceIte,Nat.reduceEqDiff,Nat.reduceAdd,Nat.reduceMul,ZN,und3,YO,ZY,Yj,Z7,Xs,Zi];exact rfl;exact rfl))
  (apply WO.call;(focus (simp only [rQ,Zc,li,lo,reduceIte,Nat.reduceEqDiff,Nat.reduceAdd,beq_self_eq_true];done));simp only [rE,rS,li,lo,reduceIte,Nat.reduceEqDiff,Nat.reduceAdd,Nat.reduceMul,ZN,und3,YO,ZY,Yj,Z7,Xs,Zi];exact rfl;exact hpow _;rintro _ H ⟨rfl,rfl⟩;refine ⟨_,rfl,?_⟩)
  repeat (first|(apply Zh;exact rfl)|apply Zb|apply WO.nil|(apply Zk;exact rfl;simp only [rE,rS,li,lo,reduceIte,Nat.reduceEqDiff,Nat.reduceAdd,Nat.reduceMul,ZN,und3,YO,ZY,Yj,Z7,Xs,Zi];exact rfl;exact rfl))
  (first|(apply WF.condT;(focus (simp only [Zg,Zf,Zd,Zm,Bool.not_true,Bool.not_false,reduceIte,Nat.reduceEqDiff];done)))|(apply WF.condF;(focus (simp only [Zg,Zf,Zd,Zm,Bool.not_true,Bool.not_false,reduceIte,Nat.reduceEqDiff];done))))
  repeat (first|(apply Zh;exact rfl)|apply Zb|apply WO.nil|(apply Zk;exact rfl;simp only [rE,rS,li,lo,reduceIte,Nat.reduceEqDiff,Nat.reduceAdd,Nat.reduceMul,ZN,und3,YO,ZY,Yj,Z7,Xs,Zi,w1];exact rfl;exact rfl))
  (apply WO.call;(focus (simp only [rQ,Zc,li,lo,reduceIte,Nat.reduceEqDiff,Nat.reduceAdd,beq_self_eq_true];done));simp only [rE,rS,li,lo,reduceIte,Nat.reduceEqDiff,Nat.reduceAdd,Nat.reduceMul,ZN,und3,YO,ZY,Yj,Z7,Xs,Zi,w1,cu275];exact rfl;exact htz _;rintro _ _ ⟨rfl,rfl⟩;refine ⟨_,rfl,?_⟩)
  repeat (first|(apply Zh;exact rfl)|apply Zb|apply WO.nil|(apply Zk;exact rfl;simp only [rE,rS,li,lo,reduceIte,Nat.reduceEqDiff,Nat.reduceAdd,Nat.reduceMul,ZN,und3,YO,ZY,Yj,Z7,Xs,Zi,w1,w2,w3];exact rfl;exact rfl))
  refine YL (fun m t H' => ∃ (v i : Nat) (c : List AV) (tail : List Nat),v = m ∧ Up H H' ∧ H.next < H'.next ∧ H'.t.get H.next = some (.cells 420 c 0 false false) ∧ c.length = 65 ∧ i ≤ 65 ∧ 1 ≤ i ∧ v < 2 ^ (i - 1) ∧ c.drop i = bsL tail ∧ hx 16 u = hx 16 v ++ tail ∧ (∀ n ∈ tail,n < 256) ∧ t.get 1 = some (.int .u64 (v : Int)) ∧ t.get 12 = some (.ptr H.next 0) ∧ t.get 13 = some (.int .i64 (i : Int)) ∧ t.get 14 = some (.int .u64 4) ∧ t.get 15 = some (.int .u64 16) ∧ t.get 16 = some (.int .u64 15) ∧ t.get 3 = some (.bool false) ∧ t.get 4 = some (.bool false) ∧ t.get 10 = some .nilslice) u ?_ ?_
  · refine ⟨u, 65, List.replicate 65 (.int .u8 0), [], rfl, Up.box _ _, Nat.lt_succ_self _, ?_, by simp, by omega, by omega, hu, rfl, by simp, by simp, ?_, ?_, ?_, ?_, ?_, ?_, ?_, ?_, ?_⟩
    · show (Tri.put _ _ _).get _ = _
      rw [Zd, if_pos rfl]
    all_goals simp [Zd, Zm]
  rintro m t H' ⟨v, i, c, tail, rfl, hup, hnx, hg, hlen, hi, hi1, hv, hd, hxe, h8, t1, t12, t13, t14, t15, t16, t3, t4, t10⟩ ih
  have hv64 : v < 18446744073709551616 := Nat.lt_of_lt_of_le hv (Nat.le_trans (Nat.pow_le_pow_right (by omega) (show i - 1 ≤ 64 by omega)) (by decide))
  have wi : IntKind.i64.wrap ((i : Int) - 1) = ((i - 1 : Nat) : Int) := by rw [Go.Ev.w64 (by omega) (by omega)]; omega
  rcases Nat.lt_or_ge v 16 with hlt | hge
  · have q1 : decide ((16 : Int) ≤ (v : Int)) = false := by simp; omega
    have hidx := idx36 (show v < 36 by omega)
    have hst := storeB (x := ((ch v : Nat) : Int)) hg (show i - 1 < c.length by omega)
    repeat (first|(apply Zh;exact rfl)|apply Zb|apply WO.nil|(apply WO.op;(focus (simp only [rQ,Zc,li,lo,reduceIte,Nat.reduceEqDiff,Nat.reduceAdd,beq_self_eq_true,q1];done));simp only [rE,rS,li,lo,reduceIte,Nat.reduceEqDiff,Nat.reduceAdd,Nat.reduceMul,ZN,und3,YO,ZY,Yj,Z7,Xs,Zi,t1,t12,t13,t14,t15,t16,t3,t4,t10,q1];exact rfl;exact rfl)|(apply WO.unwanted;(focus (simp only [rQ,Zc,li,lo,reduceIte,Nat.reduceEqDiff,Nat.reduceAdd,beq_self_eq_true,q1];done));exact rfl))
    (first|(apply WF.condT;(focus (simp only [Zg,Zf,Zd,Zm,Bool.not_true,Bool.not_false,reduceIte,Nat.reduceEqDiff,q1];done)))|(apply WF.condF;(focus (simp only [Zg,Zf,Zd,Zm,Bool.not_true,Bool.not_false,reduceIte,Nat.reduceEqDiff,q1];done))))
    repeat (first|(apply Zh;exact rfl)|apply Zb|apply WO.nil|(apply WO.op;(focus (simp only [rQ,Zc,li,lo,reduceIte,Nat.reduceEqDiff,Nat.reduceAdd,beq_self_eq_true,q1];done));simp only [rE,rQ,li,lo,reduceIte,Nat.reduceEqDiff,Nat.reduceAdd,Nat.reduceMul,ZN,und3,YO,ZY,Yj,Z7,Xs,Zi,t1,t12,t13,t14,t15,t16,t3,t4,t10,q1,wi,hidx,bts36,ia420 (show i - 1 < 65 by omega),hst];exact rfl;exact rfl)|(apply WO.unwanted;(focus (simp only [rQ,Zc,li,lo,reduceIte,Nat.reduceEqDiff,Nat.reduceAdd,beq_self_eq_true,q1];done));exact rfl))
    (first|(apply WF.condT;(focus (simp only [Zg,Zf,Zd,Zm,Bool.not_true,Bool.not_false,reduceIte,Nat.reduceEqDiff,t3,t4];done)))|(apply WF.condF;(focus (simp only [Zg,Zf,Zd,Zm,Bool.not_true,Bool.not_false,reduceIte,Nat.reduceEqDiff,t3,t4];done))))
    repeat (first|(apply Zh;exact rfl)|apply Zb|apply WO.nil|(apply Zk;exact rfl;simp only [rE,rS,li,lo,reduceIte,Nat.reduceEqDiff,Nat.reduceAdd,Nat.reduceMul,ZN,und3,YO,ZY,Yj,Z7,Xs,Zi,t1,t12,t13,t14,t15,t16,t3,t4,t10];exact rfl;exact rfl))
    (first|(apply WF.condT;(focus (simp only [Zg,Zf,Zd,Zm,Bool.not_true,Bool.not_false,reduceIte,Nat.reduceEqDiff,t3,t4];done)))|(apply WF.condF;(focus (simp only [Zg,Zf,Zd,Zm,Bool.not_true,Bool.not_false,reduceIte,Nat.reduceEqDiff,t3,t4];done))))
    have hd' : (c.take (i - 1) ++ [AV.int .u8 ((ch v : Nat) : Int)] ++ c.drop (i - 1 + 1)).drop (i - 1) = bsL (ch v :: tail) := by
      rw [drop_put _ (by omega), show i - 1 + 1 = i from by omega, hd]
      rfl
    have h8' : ∀ n ∈ ch v :: tail, n < 256 := by
      intro n hn
      rcases List.mem_cons.1 hn with rfl | hn
      · exact ch_lt (by omega)
      · exact h8 n hn
    have hcv := conv_tail (H := H'.set H.next (.cells 420 (c.take (i - 1) ++ [AV.int .u8 ((ch v : Nat) : Int)] ++ c.drop (i - 1 + 1)) 0 false false)) get_set (by rw [len_put _ (by omega)];exact hlen) (show i - 1 < 65 by omega) hd' h8'
    unfold AH.set at hcv
    repeat (first|(apply Zh;exact rfl)|apply Zb|apply WO.nil|(apply Zk;exact rfl;simp only [rE,rS,li,lo,reduceIte,Nat.reduceEqDiff,Nat.reduceAdd,Nat.reduceMul,ZN,und3,YO,ZY,Yj,Z7,Xs,Zi,t1,t12,t13,t14,t15,t16,t3,t4,t10,sl420 (show i - 1 < 65 by omega),XH,und9,hcv];exact rfl;exact rfl))
    (apply WF.ret; (focus (simp only [Zj, Zd, Zm, Zv, reduceIte, Nat.reduceEqDiff, rs209, t1, t12, t13, t14, t15, t16, t3, t4, t10]; exact rfl)))
    rw [hxe, Wf hlt]
    rfl
  · have q1 : decide ((16 : Int) ≤ (v : Int)) = true := by simp; omega
    have hi2 : 3 ≤ i := by
      rcases Nat.lt_or_ge i 3 with h | h
      · have : 2 ^ (i - 1) ≤ 2 ^ 1 := Nat.pow_le_pow_right (by omega) (by omega)
        omega
      · exact h
    have hm : v % 16 < 36 := by omega
    have hidx := idx36 hm
    have hand : IntKind.u64.wrap ((BitVec.ofInt IntKind.u64.bits (v : Int) &&& BitVec.ofInt IntKind.u64.bits 15).toNat : Int) = ((v % 16 : Nat) : Int) := and_mask v 4 hv64 (by omega)
    have hst := storeB (x := ((ch (v % 16) : Nat) : Int)) hg (show i - 1 < c.length by omega)
    have hsh : YP Q .shr 71 (.int .u64 (v : Int)) (.int .u64 4) = some (.int .u64 ((v / 16 : Nat) : Int)) := shr_n v 4 (by omega)
    repeat (first|(apply Zh;exact rfl)|apply Zb|apply WO.nil|(apply WO.op;(focus (simp only [rQ,Zc,li,lo,reduceIte,Nat.reduceEqDiff,Nat.reduceAdd,beq_self_eq_true,q1];done));simp only [rE,rS,li,lo,reduceIte,Nat.reduceEqDiff,Nat.reduceAdd,Nat.reduceMul,ZN,und3,YO,ZY,Yj,Z7,Xs,Zi,t1,t12,t13,t14,t15,t16,t3,t4,t10,q1];exact rfl;exact rfl)|(apply WO.unwanted;(focus (simp only [rQ,Zc,li,lo,reduceIte,Nat.reduceEqDiff,Nat.reduceAdd,beq_self_eq_true,q1];done));exact rfl))
    (first|(apply WF.condT;(focus (simp only [Zg,Zf,Zd,Zm,Bool.not_true,Bool.not_false,reduceIte,Nat.reduceEqDiff,q1];done)))|(apply WF.condF;(focus (simp only [Zg,Zf,Zd,Zm,Bool.not_true,Bool.not_false,reduceIte,Nat.reduceEqDiff,q1];done))))
    repeat (first|(apply Zh;exact rfl)|apply Zb|apply WO.nil|(apply WO.op;(focus (simp only [rQ,Zc,li,lo,reduceIte,Nat.reduceEqDiff,Nat.reduceAdd,beq_self_eq_true,q1];done));simp only [rE,rQ,li,lo,reduceIte,Nat.reduceEqDiff,Nat.reduceAdd,Nat.reduceMul,ZN,und3,YO,ZY,Yj,Z7,Xs,Zi,t1,t12,t13,t14,t15,t16,t3,t4,t10,q1,wi,hidx,bts36,Wk,Wj,hand,hsh,gOk_shr,ia420 (show i - 1 < 65 by omega),hst];exact rfl;exact rfl)|(apply WO.unwanted;(focus (simp only [rQ,Zc,li,lo,reduceIte,Nat.reduceEqDiff,Nat.reduceAdd,beq_self_eq_true,q1];done));exact rfl))
    refine Z4 ?_
    refine ih (v / 16) _ _ (Nat.div_lt_self (by omega) (by omega)) ⟨v / 16,i - 1,c.take (i - 1) ++ [AV.int .u8 ((ch (v % 16) : Nat) : Int)] ++ c.drop (i - 1 + 1),ch (v % 16) :: tail,rfl,hup.set (Nat.le_refl _),hnx,get_set,by rw [len_put _ (by omega)];exact hlen,by omega,by omega,?_,?_,?_,?_,?_,?_,?_,?_,?_,?_,?_,?_,?_⟩
    · have : v < 2 ^ ((i - 1 - 1) + 1) := by rw [show i - 1 - 1 + 1 = i - 1 from by omega]; exact hv
      exact half_lt (by omega) this
    · rw [drop_put _ (by omega), show i - 1 + 1 = i from by omega, hd]
      rfl
    · rw [hxe, hx_step (by omega) (by omega) hv64, List.append_assoc]
      rfl
    · intro n hn
      rcases List.mem_cons.1 hn with rfl | hn
      · exact ch_lt hm
      · exact h8 n hn
    all_goals simp [Zd, t1, t12, t13, t14, t15, t16, t3, t4, t10]
end Go.Ev.C
end
section
set_option linter.unusedVariables false
set_option linter.unusedSimpArgs false
set_option linter.defProp false
set_option linter.all false
namespace Go.Ev.C
open Go.Proofs Go.Fmt
set_option maxRecDepth 100000
set_option linter.unusedSimpArgs false
variable {L : World → Prop} [YQ Q L]
set_option maxHeartbeats 4000000 in
theorem formatBits8_c (hpow : ∀ H,Fn Q L 274 [.int .i64 8] H fun v H' => v = .bool true ∧ H' = H) (htz : ∀ H,Fn Q L 275 [.int .u64 8] H fun v H' => v = .int .i64 3 ∧ H' = H) (H : AH) (u : Nat) (hu : u < 18446744073709551616) :
    Fn Q L 209 [.nilslice, .int .u64 (u : Int), .int .i64 8, .bool false, .bool false] H (fun w H' => w = .tuple [.nilslice, .str (hx 8 u)] ∧ H' = H) := by
  refine Y2 (en209 _ _ _ _ _) rfl ?_
  generalize lock H = H
  have d1 : decide ((8 : Int) < 2) = false := rfl
  have d2 : decide ((8 : Int) = 10) = false := rfl
  have d3 : decide ((36 : Int) < 8) = false := rfl
  have w1 : IntKind.u64.wrap 8 = 8 := rfl
  have w2 : IntKind.u64.wrap (8 - 1) = 7 := rfl
  have w3 : IntKind.u64.wrap 3 = 3 := rfl
  unfold c209 Tryz.f209
  simp only [Option.getD_some]
  repeat (first|(apply Zh;exact rfl)|apply Zb|apply WO.nil|(apply WO.op;(focus (simp only [rQ,Zc,li,lo,reduceIte,Nat.reduceEqDiff,Nat.reduceAdd,beq_self_eq_true,d1,d2,d3];done));simp only [rE,rS,li,lo,reduceIte,Nat.reduceEqDiff,Nat.reduceAdd,Nat.reduceMul,ZN,und3,YO,ZY,Yj,Z7,Xs,Zi,d1,d2,d3];exact rfl;exact rfl)|(apply WO.unwanted;(focus (simp only [rQ,Zc,li,lo,reduceIte,Nat.reduceEqDiff,Nat.reduceAdd,beq_self_eq_true,d1,d2,d3];done));exact rfl))
  (first|(apply WF.condT;(focus (simp only [Zg,Zf,Zd,Zm,Bool.not_true,Bool.not_false,reduceIte,Nat.reduceEqDiff,d3];done)))|(apply WF.condF;(focus (simp only [Zg,Zf,Zd,Zm,Bool.not_true,Bool.not_false,reduceIte,Nat.reduceEqDiff,d3];done))))
  repeat (first|(apply Zh;exact rfl)|apply Zb|apply WO.nil|(apply Zk;exact rfl;simp only [rE,rS,li,lo,reduceIte,Nat.reduceEqDiff,Nat.reduceAdd,Nat.reduceMul,ZN,und3,YO,ZY,Yj,Z7,Xs,Zi,rep_one];exact rfl;exact rfl))
  (first|(apply WF.condT;(focus (simp only [Zg,Zf,Zd,Zm,Bool.not_true,Bool.not_false,reduceIte,Nat.reduceEqDiff];done)))|(apply WF.condF;(focus (simp only [Zg,Zf,Zd,Zm,Bool.not_true,Bool.not_false,reduceIte,Nat.reduceEqDiff];done))))
  repeat (first|(apply Zh;exact rfl)|apply Zb|apply WO.nil|(apply Zk;exact rfl;simp only [rE,rS,li,lo,reduceIte,Nat.reduceEqDiff,Nat.reduceAdd,Nat.reduceMul,ZN,und3,YO,ZY,Yj,Z7,Xs,Zi];exact rfl;exact rfl))
  (apply WO.call;(focus (simp only [rQ,Zc,li,lo,reduceIte,Nat.reduceEqDiff,Nat.reduceAdd,beq_self_eq_true];done));simp only [rE,rS,li,lo,reduceIte,Nat.reduceEqDiff,Nat.reduceAdd,Nat.reduceMul,ZN,und3,YO,ZY,Yj,Z7,Xs,Zi];exact rfl;exact hpow _;rintro _ H ⟨rfl,rfl⟩;refine ⟨_,rfl,?_⟩)
  repeat (first|(apply Zh;exact rfl)|apply Zb|apply WO.nil|(apply Zk;exact rfl;simp only [rE,rS,li,lo,reduceIte,Nat.reduceEqDiff,Nat.reduceAdd,Nat.reduceMul,ZN,und3,YO,ZY,Yj,Z7,Xs,Zi];exact rfl;exact rfl))
  (first|(apply WF.condT;(focus (simp only [Zg,Zf,Zd,Zm,Bool.not_true,Bool.not_false,reduceIte,Nat.reduceEqDiff];done)))|(apply WF.condF;(focus (simp only [Zg,Zf,Zd,Zm,Bool.not_true,Bool.not_false,reduceIte,Nat.reduceEqDiff];done))))
  repeat (first|(apply Zh;exact rfl)|apply Zb|apply WO.nil|(apply Zk;exact rfl;simp only [rE,rS,li,lo,reduceIte,Nat.reduceEqDiff,Nat.reduceAdd,Nat.reduceMul,ZN,und3,YO,ZY,Yj,Z7,Xs,Zi,w1];exact rfl;exact rfl))
  (apply WO.call;(focus (simp only [rQ,Zc,li,lo,reduceIte,Nat.reduceEqDiff,Nat.reduceAdd,beq_self_eq_true];done));simp only [rE,rS,li,lo,reduceIte,Nat.reduceEqDiff,Nat.reduceAdd,Nat.reduceMul,ZN,und3,YO,ZY,Yj,Z7,Xs,Zi,w1,cu275];exact rfl;exact htz _;rintro _ _ ⟨rfl,rfl⟩;refine ⟨_,rfl,?_⟩)
  repeat (first|(apply Zh;exact rfl)|apply Zb|apply WO.nil|(apply Zk;exact rfl;simp only [rE,rS,li,lo,reduceIte,Nat.reduceEqDiff,Nat.reduceAdd,Nat.reduceMul,ZN,und3,YO,ZY,Yj,Z7,Xs,Zi,w1,w2,w3];exact rfl;exact rfl))
  refine YL (fun m t H' => ∃ (v i : Nat) (c : List AV) (tail : List Nat),v = m ∧ Up H H' ∧ H.next < H'.next ∧ H'.t.get H.next = some (.cells 420 c 0 false false) ∧ c.length = 65 ∧ i ≤ 65 ∧ 1 ≤ i ∧ v < 2 ^ (i - 1) ∧ c.drop i = bsL tail ∧ hx 8 u = hx 8 v ++ tail ∧ (∀ n ∈ tail,n < 256) ∧ t.get 1 = some (.int .u64 (v : Int)) ∧ t.get 12 = some (.ptr H.next 0) ∧ t.get 13 = some (.int .i64 (i : Int)) ∧ t.get 14 = some (.int .u64 3) ∧ t.get 15 = some (.int .u64 8) ∧ t.get 16 = some (.int .u64 7) ∧ t.get 3 = some (.bool false) ∧ t.get 4 = some (.bool false) ∧ t.get 10 = some .nilslice) u ?_ ?_
  · refine ⟨u, 65, List.replicate 65 (.int .u8 0), [], rfl, Up.box _ _, Nat.lt_succ_self _, ?_, by simp, by omega, by omega, hu, rfl, by simp, by simp, ?_, ?_, ?_, ?_, ?_, ?_, ?_, ?_, ?_⟩
    · show (Tri.put _ _ _).get _ = _
      rw [Zd, if_pos rfl]
    all_goals simp [Zd, Zm]
  rintro m t H' ⟨v, i, c, tail, rfl, hup, hnx, hg, hlen, hi, hi1, hv, hd, hxe, h8, t1, t12, t13, t14, t15, t16, t3, t4, t10⟩ ih
  have hv64 : v < 18446744073709551616 := Nat.lt_of_lt_of_le hv (Nat.le_trans (Nat.pow_le_pow_right (by omega) (show i - 1 ≤ 64 by omega)) (by decide))
  have wi : IntKind.i64.wrap ((i : Int) - 1) = ((i - 1 : Nat) : Int) := by rw [Go.Ev.w64 (by omega) (by omega)]; omega
  rcases Nat.lt_or_ge v 8 with hlt | hge
  · have q1 : decide ((8 : Int) ≤ (v : Int)) = false := by simp; omega
    have hidx := idx36 (show v < 36 by omega)
    have hst := storeB (x := ((ch v : Nat) : Int)) hg (show i - 1 < c.length by omega)
    repeat (first|(apply Zh;exact rfl)|apply Zb|apply WO.nil|(apply WO.op;(focus (simp only [rQ,Zc,li,lo,reduceIte,Nat.reduceEqDiff,Nat.reduceAdd,beq_self_eq_true,q1];done));simp only [rE,rS,li,lo,reduceIte,Nat.reduceEqDiff,Nat.reduceAdd,Nat.reduceMul,ZN,und3,YO,ZY,Yj,Z7,Xs,Zi,t1,t12,t13,t14,t15,t16,t3,t4,t10,q1];exact rfl;exact rfl)|(apply WO.unwanted;(focus (simp only [rQ,Zc,li,lo,reduceIte,Nat.reduceEqDiff,Nat.reduceAdd,beq_self_eq_true,q1];done));exact rfl))
    (first|(apply WF.condT;(focus (simp only [Zg,Zf,Zd,Zm,Bool.not_true,Bool.not_false,reduceIte,Nat.reduceEqDiff,q1];done)))|(apply WF.condF;(focus (simp only [Zg,Zf,Zd,Zm,Bool.not_true,Bool.not_false,reduceIte,Nat.reduceEqDiff,q1];done))))
    repeat (first|(apply Zh;exact rfl)|apply Zb|apply WO.nil|(apply WO.op;(focus (simp only [rQ,Zc,li,lo,reduceIte,Nat.reduceEqDiff,Nat.reduceAdd,beq_self_eq_true,q1];done));simp only [rE,rQ,li,lo,reduceIte,Nat.reduceEqDiff,Nat.reduceAdd,Nat.reduceMul,ZN,und3,YO,ZY,Yj,Z7,Xs,Zi,t1,t12,t13,t14,t15,t16,t3,t4,t10,q1,wi,hidx,bts36,ia420 (show i - 1 < 65 by omega),hst];exact rfl;exact rfl)|(apply WO.unwanted;(focus (simp only [rQ,Zc,li,lo,reduceIte,Nat.reduceEqDiff,Nat.reduceAdd,beq_self_eq_true,q1];done));exact rfl))
    (first|(apply WF.condT;(focus (simp only [Zg,Zf,Zd,Zm,Bool.not_true,Bool.not_false,reduceIte,Nat.reduceEqDiff,t3,t4];done)))|(apply WF.condF;(focus (simp only [Zg,Zf,Zd,Zm,Bool.not_true,Bool.not_false,reduceIte,Nat.reduceEqDiff,t3,t4];done))))
    repeat (first|(apply Zh;exact rfl)|apply Zb|apply WO.nil|(apply Zk;exact rfl;simp only [rE,rS,li,lo,reduceIte,Nat.reduceEqDiff,Nat.reduceAdd,Nat.reduceMul,ZN,und3,YO,ZY,Yj,Z7,Xs,Zi,t1,t12,t13,t14,t15,t16,t3,t4,t10];exact rfl;exact rfl))
    (first|(apply WF.condT;(focus (simp only [Zg,Zf,Zd,Zm,Bool.not_true,Bool.not_false,reduceIte,Nat.reduceEqDiff,t3,t4];done)))|(apply WF.condF;(focus (simp only [Zg,Zf,Zd,Zm,Bool.not_true,Bool.not_false,reduceIte,Nat.reduceEqDiff,t3,t4];done))))
    have hd' : (c.take (i - 1) ++ [AV.int .u8 ((ch v : Nat) : Int)] ++ c.drop (i - 1 + 1)).drop (i - 1) = bsL (ch v :: tail) := by
      rw [drop_put _ (by omega), show i - 1 + 1 = i from by omega, hd]
      rfl
    have h8' : ∀ n ∈ ch v :: tail, n < 256 := by
      intro n hn
      rcases List.mem_cons.1 hn with rfl | hn
      · exact ch_lt (by omega)
      · exact h8 n hn
    have hcv := conv_tail (H := H'.set H.next (.cells 420 (c.take (i - 1) ++ [AV.int .u8 ((ch v : Nat) : Int)] ++ c.drop (i - 1 + 1)) 0 false false)) get_set (by rw [len_put _ (by omega)];exact hlen) (show i - 1 < 65 by omega) hd' h8'
    unfold AH.set at hcv
    repeat (first|(apply Zh;exact rfl)|apply Zb|apply WO.nil|(apply Zk;exact rfl;simp only [rE,rS,li,lo,reduceIte,Nat.reduceEqDiff,Nat.reduceAdd,Nat.reduceMul,ZN,und3,YO,ZY,Yj,Z7,Xs,Zi,t1,t12,t13,t14,t15,t16,t3,t4,t10,sl420 (show i - 1 < 65 by omega),XH,und9,hcv];exact rfl;exact rfl))
    (apply WF.ret; (focus (simp only [Zj, Zd, Zm, Zv, reduceIte, Nat.reduceEqDiff, rs209, t1, t12, t13, t14, t15, t16, t3, t4, t10]; exact rfl)))
    rw [hxe, Wf hlt]
    rfl
  · have q1 : decide ((8 : Int) ≤ (v : Int)) = true := by simp; omega
    have hi2 : 3 ≤ i := by
      rcases Nat.lt_or_ge i 3 with h | h
      · have : 2 ^ (i - 1) ≤ 2 ^ 1 := Nat.pow_le_pow_right (by omega) (by omega)
        omega
      · exact h
    have hm : v % 8 < 36 := by omega
    have hidx := idx36 hm
    have hand : IntKind.u64.wrap ((BitVec.ofInt IntKind.u64.bits (v : Int) &&& BitVec.ofInt IntKind.u64.bits 7).toNat : Int) = ((v % 8 : Nat) : Int) := and_mask v 3 hv64 (by omega)
    have hst := storeB (x := ((ch (v % 8) : Nat) : Int)) hg (show i - 1 < c.length by omega)
    have hsh : YP Q .shr 71 (.int .u64 (v : Int)) (.int .u64 3) = some (.int .u64 ((v / 8 : Nat) : Int)) := shr_n v 3 (by omega)
    repeat (first|(apply Zh;exact rfl)|apply Zb|apply WO.nil|(apply WO.op;(focus (simp only [rQ,Zc,li,lo,reduceIte,Nat.reduceEqDiff,Nat.reduceAdd,beq_self_eq_true,q1];done));simp only [rE,rS,li,lo,reduceIte,Nat.reduceEqDiff,Nat.reduceAdd,Nat.reduceMul,ZN,und3,YO,ZY,Yj,Z7,Xs,Zi,t1,t12,t13,t14,t15,t16,t3,t4,t10,q1];exact rfl;exact rfl)|(apply WO.unwanted;(focus (simp only [rQ,Zc,li,lo,reduceIte,Nat.reduceEqDiff,Nat.reduceAdd,beq_self_eq_true,q1];done));exact rfl))
    (first|(apply WF.condT;(focus (simp only [Zg,Zf,Zd,Zm,Bool.not_true,Bool.not_false,reduceIte,Nat.reduceEqDiff,q1];done)))|(apply WF.condF;(focus (simp only [Zg,Zf,Zd,Zm,Bool.not_true,Bool.not_false,reduceIte,Nat.reduceEqDiff,q1];done))))
    repeat (first|(apply Zh;exact rfl)|apply Zb|apply WO.nil|(apply WO.op;(focus (simp only [rQ,Zc,li,lo,reduceIte,Nat.reduceEqDiff,Nat.reduceAdd,beq_self_eq_true,q1];done));simp only [rE,rQ,li,lo,reduceIte,Nat.reduceEqDiff,Nat.reduceAdd,Nat.reduceMul,ZN,und3,YO,ZY,Yj,Z7,Xs,Zi,t1,t12,t13,t14,t15,t16,t3,t4,t10,q1,wi,hidx,bts36,Wk,Wj,hand,hsh,gOk_shr,ia420 (show i - 1 < 65 by omega),hst];exact rfl;exact rfl)|(apply WO.unwanted;(focus (simp only [rQ,Zc,li,lo,reduceIte,Nat.reduceEqDiff,Nat.reduceAdd,beq_self_eq_true,q1];done));exact rfl))
    refine Z4 ?_
    refine ih (v / 8) _ _ (Nat.div_lt_self (by omega) (by omega)) ⟨v / 8,i - 1,c.take (i - 1) ++ [AV.int .u8 ((ch (v % 8) : Nat) : Int)] ++ c.drop (i - 1 + 1),ch (v % 8) :: tail,rfl,hup.set (Nat.le_refl _),hnx,get_set,by rw [len_put _ (by omega)];exact hlen,by omega,by omega,?_,?_,?_,?_,?_,?_,?_,?_,?_,?_,?_,?_,?_⟩
    · have : v < 2 ^ ((i - 1 - 1) + 1) := by rw [show i - 1 - 1 + 1 = i - 1 from by omega]; exact hv
      exact half_lt (by omega) this
    · rw [drop_put _ (by omega), show i - 1 + 1 = i from by omega, hd]
      rfl
    · rw [hxe, hx_step (by omega) (by omega) hv64, List.append_assoc]
      rfl
    · intro n hn
      rcases List.mem_cons.1 hn with rfl | hn
      · exact ch_lt hm
      · exact h8 n hn
    all_goals simp [Zd, t1, t12, t13, t14, t15, t16, t3, t4, t10]
end Go.Ev.C
end
section
set_option linter.unusedVariables false
set_option linter.unusedSimpArgs false
set_option linter.defProp false
set_option linter.all false
namespace Go.Proofs
open Go.Shelf
def Tryz.laysM246_ren : Go.Shelf.Ren := ⟨fun|246 => 153|283 => 206|284 => 207|285 => 208|286 => 209|129 => 272|317 => 271|318 => 273|319 => 274|320 => 275|337 => 328|338 => 329|n => n,fun|2 => 2|3 => 3|9 => 9|4 => 4|171 => 355|0 => 0|53 => 71|37 => 35|5 => 5|173 => 357|212 => 419|51 => 298|20 => 20|213 => 420|46 => 195|232 => 510|233 => 511|n => n,fun|17 => 2|18 => 7|19 => 8|n => n⟩
theorem Tryz.laysM246 : Go.Proofs.LaysM.n246 Tryz.prog Tryz.laysM246_ren := {
  mixed := by kernel_rfl
  f129 := Tryz.func272.trans (congrArg some (by kernel_rfl))
  f246 := Tryz.func153.trans (congrArg some (by kernel_rfl))
  f283 := Tryz.func206.trans (congrArg some (by kernel_rfl))
  f284 := Tryz.func207.trans (congrArg some (by kernel_rfl))
  f285 := Tryz.func208.trans (congrArg some (by kernel_rfl))
  f286 := Tryz.func209.trans (congrArg some (by kernel_rfl))
  f317 := Tryz.func271.trans (congrArg some (by kernel_rfl))
  f318 := Tryz.func273.trans (congrArg some (by kernel_rfl))
  f319 := Tryz.func274.trans (congrArg some (by kernel_rfl))
  f320 := Tryz.func275.trans (congrArg some (by kernel_rfl))
  f337 := Tryz.func328.trans (congrArg some (by kernel_rfl))
  f338 := Tryz.func329.trans (congrArg some (by kernel_rfl))
  t0 := Tryz.underlying0
  a0 := Tryz.isAgg0
  z0 := Tryz.sizeOf0
  v0 := Tryz.zeroValue0
  t2 := Tryz.underlying2
  a2 := Tryz.isAgg2
  z2 := Tryz.sizeOf2
  v2 := Tryz.zeroValue2
  t3 := Tryz.underlying3
  a3 := Tryz.isAgg3
  z3 := Tryz.sizeOf3
  v3 := Tryz.zeroValue3
  t4 := Tryz.underlying4
  a4 := Tryz.isAgg4
  z4 := Tryz.sizeOf4
  v4 := Tryz.zeroValue4
  t5 := Tryz.underlying5
  a5 := Tryz.isAgg5
  z5 := Tryz.sizeOf5
  v5 := Tryz.zeroValue5
  t9 := Tryz.underlying9
  a9 := Tryz.isAgg9
  z9 := Tryz.sizeOf9
  v9 := Tryz.zeroValue9
  t20 := Tryz.underlying20
  a20 := Tryz.isAgg20
  z20 := Tryz.sizeOf20
  v20 := Tryz.zeroValue20
  t37 := Tryz.underlying35
  a37 := Tryz.isAgg35
  z37 := Tryz.sizeOf35
  v37 := Tryz.zeroValue35
  t46 := Tryz.underlying195
  a46 := Tryz.isAgg195
  z46 := Tryz.sizeOf195
  v46 := Tryz.zeroValue195
  t51 := Tryz.underlying298
  a51 := Tryz.isAgg298
  z51 := Tryz.sizeOf298
  v51 := Tryz.zeroValue298
  t53 := Tryz.underlying71
  a53 := Tryz.isAgg71
  z53 := Tryz.sizeOf71
  v53 := Tryz.zeroValue71
  t171 := Tryz.underlying355
  a171 := Tryz.isAgg355
  z171 := Tryz.sizeOf355
  v171 := Tryz.zeroValue355
  t173 := Tryz.underlying357
  a173 := Tryz.isAgg357
  z173 := Tryz.sizeOf357
  v173 := Tryz.zeroValue357
  t212 := Tryz.underlying419
  a212 := Tryz.isAgg419
  z212 := Tryz.sizeOf419
  v212 := Tryz.zeroValue419
  t213 := Tryz.underlying420
  a213 := Tryz.isAgg420
  z213 := Tryz.sizeOf420
  t232 := Tryz.underlying510
  a232 := Tryz.isAgg510
  z232 := Tryz.sizeOf510
  v232 := Tryz.zeroValue510
  t233 := Tryz.underlying511
  a233 := Tryz.isAgg511
  z233 := Tryz.sizeOf511
  v233 := Tryz.zeroValue511
  g17 := by kernel_rfl
  g18 := by kernel_rfl
  g19 := by kernel_rfl
  i0 := by kernel_rfl
  i2 := by kernel_rfl
  i3 := by kernel_rfl
  i4 := by kernel_rfl
  i5 := by kernel_rfl
  i9 := by kernel_rfl
  i20 := by kernel_rfl
  i37 := by kernel_rfl
  i46 := by kernel_rfl
  i51 := by kernel_rfl
  i53 := by kernel_rfl
  i171 := by kernel_rfl
  i173 := by kernel_rfl
  i212 := by kernel_rfl
  i232 := by kernel_rfl
  i233 := by kernel_rfl
  m17 := by kernel_rfl
  m18 := by kernel_rfl
  m19 := by kernel_rfl }
end Go.Proofs
end
section
set_option linter.unusedVariables false
set_option linter.unusedSimpArgs false
set_option linter.defProp false
set_option linter.all false
namespace Go.Proofs
open Go.Shelf Go.RowKit Go.Sort Go.Lib
theorem holds_zero0 (w : World) (T : TypeId) (nd : Nat) (hs : nd ≤ 24) : Holds (fun (b : UInt8) => Value.int .u8 (b.toNat : Int)) (w.alloc (.cells zeros24 T)) w.heap.size 0 (Array.replicate nd (0 : UInt8)) := fun j hj => by
  have hj' : j < nd := by simpa using hj
  refine ⟨?_, World.frozen?_alloc_new _ _ _ _⟩
  rw [World.cell?_alloc_new, zeros24_at _ (by omega), getElem!_pos _ j hj]
  simp
theorem fin_pos0 (w : World) (o : Obj) (dk : Array UInt8) (k : Nat) : ∃ os,(putRow (fun (b : UInt8) => Value.int .u8 (b.toNat : Int)) (w.alloc o) w.heap.size 0 dk).drewN k = grow (w.drewN k) os := by
  rw [alloc_eq_grow]
  obtain ⟨os', _, e⟩ := putRow_grow_new (fun (b : UInt8) => Value.int .u8 (b.toNat : Int)) w #[o] w.heap.size 0 dk (Nat.le_refl _)
  exact ⟨os', by rw [e]; rfl⟩
/-- The table of the powers of ten. -/
def Pow (w : World) : Prop := ∃ e f, w.heap[2]? = some (.cells (Lib.pow10Tab.map fun z => Value.int .u64 z).toArray e f)
theorem tab_of {w : World} {nm : String} (hg : Tryz.prog.globalNamed nm = some 2) (h : Pow w) : Lib.TabIs Tryz.prog w nm .u64 Lib.pow10Tab := by
  obtain ⟨e, f, h⟩ := h
  unfold Lib.TabIs World.var?
  rw [hg]
  simp [h]
theorem pow_alloc {w : World} (h : Pow w) (o : Obj) : Pow (w.alloc o) := by
  obtain ⟨e, f, h⟩ := h
  refine ⟨e, f, ?_⟩
  have hlt := (Array.getElem?_eq_some_iff.1 h).1
  unfold World.alloc
  simp only [Array.getElem?_push]
  rw [if_neg (by omega)]
  exact h
theorem numD (u : Nat) (h1 : 1 ≤ u) (h2 : u < 18446744073709551616) (w : World) (hp : Pow w) : Calls Tryz.prog 207 #[.int .u64 u] w fun e w' => e = .returned (.int .i64 (Lib.nDigits u)) ∧ w' = w :=
  Any.internal_strconv_numDigits { Tryz.laysM246 with } u h1 h2 w (tab_of (by kernel_rfl) hp)
theorem fmtInt (n : Int) (h0 : -9223372036854775808 ≤ n) (h1 : n ≤ 9223372036854775807) (w : World) (hp : Pow w) : Calls Tryz.prog 153 #[.int .i64 n,.int .i64 10] w fun e w' => e = .returned (.string ⟨(Lib.itoa n).toArray⟩) ∧ ∃ k os,w' = grow (w.drewN k) os :=
  Any.internal_strconv_FormatInt_10 Tryz.laysM246 n h0 h1 w (tab_of (by kernel_rfl) hp)
theorem fmtBase (blk off cap : Nat) (u : Nat) (d : Array UInt8) (w : World) (hH : Holds (fun (b : UInt8) => Value.int .u8 (b.toNat : Int)) w blk off d) (hu : u < 10 ^ d.size) (hu64 : u < 18446744073709551616) (hsz : d.size < 4611686018427387904) :
    Calls Tryz.prog 208 #[.slice (some ⟨blk, off, none⟩) d.size cap, .int .u64 u] w fun e w' =>
      e = .returned (.tuple #[]) ∧ ∃ (n v' : Nat) (dk : Array UInt8), w' = (putRow (fun (b : UInt8) => Value.int .u8 (b.toNat : Int)) w blk off dk).drewN n ∧ FmtInv d.size u 0 v' dk :=
  Any.internal_strconv_formatBase10 { Tryz.laysM246 with } blk off cap u d w hH hu hu64 hsz
set_option maxHeartbeats 6400000 in
set_option maxRecDepth 100000 in
theorem fmtUint (u : Nat) (hu64 : u < 18446744073709551616) (w : World) (hp : Pow w) :
    Calls Tryz.prog 149 #[.int .u64 u, .int .i64 10] w fun e w' => e = .returned (.string ⟨(Lib.decDigits u).toArray⟩) ∧ ∃ k os, w' = grow (w.drewN k) os := by
  by_cases hs : u < 100
  · have hw : IntKind.i64.wrap (u : Int) = u := by rw [IntKind.wrap_i64]; omega
    go_enter Tryz.func149, Tryz.ntmps149
    go_wp2_with (go_at_call 206; refine (Any.internal_strconv_small { Tryz.laysM246 with } u hs _).mono ?_; rintro e w' ⟨rfl, rfl⟩)
    go_ret
    exact ⟨rfl, 0, #[], by simp [World.drewN_zero]⟩
  · have hu1 : 1 ≤ u := by omega
    have hnd20 : Lib.nDigits u ≤ 20 := by have := Lib.numDigits_eq u hu1 hu64; split at this <;> omega
    have hb3 : Lib.nDigits u ≤ 24 := by omega
    have hal : Tryz.prog.arrayLen 355 = 24 := by kernel_rfl
    have hsl1 : ∀ W,(Instr.sliceAt 355 (.pointer (some ⟨w.heap.size,0,none⟩)) none (some (.int .i64 (Lib.nDigits u : Int))) none).run Tryz.prog W = .ok (.slice (some ⟨w.heap.size,0,none⟩) (Lib.nDigits u) 24) W := fun W => by
      rw [run_sliceAt_array_h W 355 ⟨w.heap.size, 0, none⟩ (by kernel_rfl) .i64 (Lib.nDigits u : Int) (by omega) (by rw [hal]; omega)]
      go_simp
    have hH0 := holds_zero0 w 355 (Lib.nDigits u) (by omega)
    have hfmt := fmtBase w.heap.size 0 24 u (Array.replicate (Lib.nDigits u) 0) (w.alloc (.cells Lib.zeros24 355)) hH0 (by rw [Array.size_replicate];exact Lib.lt_pow_nDigits u) hu64 (by rw [Array.size_replicate];omega)
    rw [Array.size_replicate] at hfmt
    have HH0 := Lib.hid hH0
    clear hH0 hal
    go_enter Tryz.func149, Tryz.ntmps149
    go_wp2_with (first
      | (go_at_call 207; refine (numD u hu1 hu64 _ (pow_alloc hp _)).mono ?_; rintro e w' ⟨rfl, rfl⟩))
    go_at_call 208
    refine hfmt.mono ?_
    rintro e w' ⟨rfl, k, v', dk, rfl, hF⟩
    have hcv : (convert 35 9 (.slice (some ⟨w.heap.size,0,none⟩) (Lib.nDigits u) 24)).run Tryz.prog ((putRow (fun (b : UInt8) => Value.int .u8 (b.toNat : Int)) (w.alloc (.cells Lib.zeros24 355)) w.heap.size 0 dk).drewN k) = .ok (.string ⟨(Lib.decDigits u).toArray⟩) ((putRow (fun (b : UInt8) => Value.int .u8 (b.toNat : Int)) (w.alloc (.cells Lib.zeros24 355)) w.heap.size 0 dk).drewN k) := by
      have h := run_convert_bytes_back (P := Tryz.prog) ((putRow (fun (b : UInt8) => Value.int .u8 (b.toNat : Int)) (w.alloc (.cells Lib.zeros24 355)) w.heap.size 0 dk).drewN k) 35 9 5 ⟨w.heap.size,0,none⟩ 24 (Lib.decDigits u) Tryz.underlying35 Tryz.underlying5 Tryz.underlying9 (fun j hj => by
        rw [Lib.row_is_numeral hF j hj, Lib.add_plain, World.cell?_drewN]
        exact cell?_putRow (fun (b : UInt8) => Value.int .u8 (b.toNat : Int)) _ w.heap.size 0 _ dk HH0.out (by rw [hF.size,Array.size_replicate]) j (by rw [hF.size];rw [Lib.decDigits_length] at hj;exact hj))
      rw [Lib.decDigits_length] at h
      exact h
    go_wp2
    go_ret
    obtain ⟨os, eo⟩ := fin_pos0 w (.cells Lib.zeros24 355) dk k
    exact ⟨rfl, k, os, eo⟩
end Go.Proofs
end
section
set_option linter.unusedVariables false
set_option linter.unusedSimpArgs false
set_option linter.defProp false
set_option linter.all false
namespace Go.Ev.C
open Go.Proofs Go.Fmt Go.RowKit
set_option maxRecDepth 100000
set_option linter.unusedSimpArgs false
/-- A world in which the listed variables hold what is read of them, the powers of ten besides. -/
def YM (w : World) : Prop := Laid w ∧ Pow w
theorem pow_keep {w w' : World} (h : Pow w) (hb : Below w.heap.size w w') : Pow w' := by
  obtain ⟨e, f, h⟩ := h
  exact ⟨e, f, by rw [hb.block 2 (Array.getElem?_eq_some_iff.1 h).1]; exact h⟩
instance good2 : YQ Q YM where
  ng := good.ng
  mix := good.mix
  keep w w' h hb := ⟨laid_keep w w' h.1 hb, pow_keep h.2 hb⟩
theorem Fn.weaken {L L' : World → Prop} (hL : ∀ w, L' w → L w) {f : FuncId} {args : List AV} {H : AH} {Ψ : AV → AH → Prop} (h : Fn Q L f args H Ψ) : Fn Q L' f args H Ψ := by
  obtain ⟨v, H', g, h1, h2, h3⟩ := h
  exact ⟨v, H', g, h1, h2, fun c cs c' hc hf w0 w g ds c0 hw hm => h3 c cs c' hc hf w0 w g ds c0 (hL _ hw) hm⟩
theorem hL0 : ∀ w, YM w → ∃ ρ, GR ρ ∧ WR w ρ ⟨h0, 64⟩ w := fun w h => h.1
/-- A closed call. -/
theorem closed2 {fuel : Nat} {f : FuncId} {args : List AV} {H : AH} {v : AV} (ha : X0 args = true) (h : X5 Q fuel f args ⟨h0,64⟩ = some v) : Fn Q YM f args H (fun v' H' => v' = v ∧ H' = H) := closed_c ha h hL0
theorem pow16 : X5 Q 100 274 [.int .i64 16] ⟨h0, 64⟩ = some (.bool true) := by kernel_rfl
theorem pow8 : X5 Q 100 274 [.int .i64 8] ⟨h0, 64⟩ = some (.bool true) := by kernel_rfl
theorem tz16 : X5 Q 200 275 [.int .u64 16] ⟨h0, 64⟩ = some (.int .i64 4) := by kernel_rfl
theorem tz8 : X5 Q 200 275 [.int .u64 8] ⟨h0, 64⟩ = some (.int .i64 3) := by kernel_rfl
theorem dec_hx : ∀ (k u : Nat), u ≤ k → u < 18446744073709551616 → (Lib.decDigits u).map UInt8.toNat = hx 10 u
  | k, u, hk, hu => by
    rw [Lib.decDigits]
    by_cases h : u < 10
    · rw [dif_pos h, Wf h]
      unfold ch
      rw [if_pos h]
      simp
      omega
    · rw [dif_neg h, hx_step (by omega) h hu, List.map_append]
      cases k with
      | zero => omega
      | succ k =>
        rw [dec_hx k (u / 10) (by omega) (by omega)]
        congr 1
        unfold ch
        rw [if_pos (by omega)]
        simp
        omega
theorem vr_str {ρ : Ren} {l : List UInt8} {s : List Nat} (h : l.map UInt8.toNat = s) : VR ρ (.str s) (.string ⟨l.toArray⟩) := by
  have e : Xt ⟨l.toArray⟩ = s := h
  rw [← e]
  exact .str _
theorem args2 {ρ : Ren} {k k' : IntKind} {x y : Int} {args' : Array Value} (h : Xg ρ [.int k x, .int k' y] args'.toList) : args' = #[.int k x, .int k' y] := by
  obtain ⟨l⟩ := args'
  dsimp only at h
  cases h with | cons h1 h => cases h with | cons h2 h => cases h; cases h1; cases h2; rfl
theorem fmtUint_v (H : AH) (u : Nat) (hu : u < 18446744073709551616) : CallsV Q YM 149 [.int .u64 (u : Int), .int .i64 10] H (.str (hx 10 u)) := by
  intro w ρ args' hL hg hw ha
  rw [args2 ha]
  refine (fmtUint u hu w hL.2).mono fun e w' ⟨he, k, os, hw'⟩ => ⟨ρ, _, he, vr_str (dec_hx u u (Nat.le_refl _) hu), ?_⟩
  rw [hw']
  exact Lib.below_grow _ _ (Nat.le_refl _) _ _
/-- The number in decimal digits. -/
def dec (n : Int) : List Nat := if n < 0 then 45 :: hx 10 n.natAbs else hx 10 n.natAbs
theorem fmtInt_v (H : AH) (n : Int) (h0 : -9223372036854775808 ≤ n) (h1 : n ≤ 9223372036854775807) : CallsV Q YM 153 [.int .i64 n, .int .i64 10] H (.str (dec n)) := by
  intro w ρ args' hL hg hw ha
  rw [args2 ha]
  refine (fmtInt n h0 h1 w hL.2).mono fun e w' ⟨he, k, os, hw'⟩ => ⟨ρ, _, he, vr_str ?_, ?_⟩
  · unfold Lib.itoa dec
    by_cases h : n < 0
    · rw [if_pos h, if_pos h]
      simp only [List.map_cons]
      rw [dec_hx _ _ (Nat.le_refl _) (by omega)]
      rfl
    · rw [if_neg h, if_neg h, dec_hx _ _ (Nat.le_refl _) (by omega), show n.natAbs = n.toNat from by omega]
  · rw [hw']
    exact Lib.below_grow _ _ (Nat.le_refl _) _ _
theorem fmtBits16 (H : AH) (u : Nat) (hu : u < 18446744073709551616) : Fn Q YM 209 [.nilslice,.int .u64 (u : Int),.int .i64 16,.bool false,.bool false] H (fun w H' => w = .tuple [.nilslice,.str (hx 16 u)] ∧ H' = H) :=
  formatBits16_c (fun _ => closed2 rfl pow16) (fun _ => closed2 rfl tz16) H u hu
theorem fmtBits8 (H : AH) (u : Nat) (hu : u < 18446744073709551616) : Fn Q YM 209 [.nilslice,.int .u64 (u : Int),.int .i64 8,.bool false,.bool false] H (fun w H' => w = .tuple [.nilslice,.str (hx 8 u)] ∧ H' = H) :=
  formatBits8_c (fun _ => closed2 rfl pow8) (fun _ => closed2 rfl tz8) H u hu
theorem fmtU16 (H : AH) (u : Nat) (hu : u < 18446744073709551616) : Fn Q YM 111 [.int .u64 (u : Int), .int .i64 16] H (fun w H' => w = .str (hx 16 u) ∧ H' = H) := by
  have in16 : ∀ H, Fn Q YM 149 [.int .u64 (u : Int), .int .i64 16] H (fun w H' => w = .str (hx 16 u) ∧ H' = H) := by
    intro H
    refine Fn.intro (en149 _ _) ?_
    have d1 : decide ((16 : Int) = 10) = false := rfl
    unfold c149 Tryz.f149
    simp only [Option.getD_some]
    repeat (first|(apply Zh;exact rfl)|apply Zb|apply WO.nil|(apply WO.op;(focus (simp only [rQ,Zc,li,lo,reduceIte,Nat.reduceEqDiff,Nat.reduceAdd,beq_self_eq_true,d1];done));simp only [rE,rS,li,lo,reduceIte,Nat.reduceEqDiff,Nat.reduceAdd,Nat.reduceMul,d1];exact rfl;exact rfl)|(apply WO.unwanted;(focus (simp only [rQ,Zc,li,lo,reduceIte,Nat.reduceEqDiff,Nat.reduceAdd,beq_self_eq_true,d1];done));exact rfl))
    (first|(apply WF.condT;(focus (simp only [Zg,Zf,Zd,Zm,Bool.not_true,Bool.not_false,reduceIte,Nat.reduceEqDiff,d1];done)))|(apply WF.condF;(focus (simp only [Zg,Zf,Zd,Zm,Bool.not_true,Bool.not_false,reduceIte,Nat.reduceEqDiff,d1];done))))
    repeat (first|(apply Zh;exact rfl)|apply Zb|apply WO.nil|(apply Zk;exact rfl;simp only [rE,rS,li,lo,reduceIte,Nat.reduceEqDiff,Nat.reduceAdd,Nat.reduceMul];exact rfl;exact rfl))
    (apply WO.call;(focus (simp only [rQ,Zc,li,lo,reduceIte,Nat.reduceEqDiff,Nat.reduceAdd,beq_self_eq_true];done));simp only [rE,rS,li,lo,reduceIte,Nat.reduceEqDiff,Nat.reduceAdd,Nat.reduceMul,cu209];exact rfl;exact fmtBits16 _ _ hu;rintro _ _ ⟨rfl,rfl⟩;refine ⟨_,rfl,?_⟩)
    repeat (first|(apply Zh;exact rfl)|apply Zb|apply WO.nil|(apply Zk;exact rfl;simp only [rE,rS,li,lo,reduceIte,Nat.reduceEqDiff,Nat.reduceAdd,Nat.reduceMul];exact rfl;exact rfl))
    (apply WF.ret; (focus (simp only [Zj, Zd, Zm, Zv, reduceIte, Nat.reduceEqDiff, rs149]; exact rfl)))
    exact ⟨rfl, rfl⟩
  refine Fn.intro (en111 _ _) ?_
  unfold c111 Tryz.f111
  simp only [Option.getD_some]
  repeat (first | (apply Zh; exact rfl) | apply Zb | apply WO.nil | (apply Zk; exact rfl; simp only [rE, rS, li, lo, reduceIte, Nat.reduceEqDiff, Nat.reduceAdd, Nat.reduceMul]; exact rfl; exact rfl))
  (apply WO.call;(focus (simp only [rQ,Zc,li,lo,reduceIte,Nat.reduceEqDiff,Nat.reduceAdd,beq_self_eq_true];done));simp only [rE,rS,li,lo,reduceIte,Nat.reduceEqDiff,Nat.reduceAdd,Nat.reduceMul,cu149];exact rfl;exact in16 _;rintro _ _ ⟨rfl,rfl⟩;refine ⟨_,rfl,?_⟩)
  repeat (first | (apply Zh; exact rfl) | apply Zb | apply WO.nil | (apply Zk; exact rfl; simp only [rE, rS, li, lo, reduceIte, Nat.reduceEqDiff, Nat.reduceAdd, Nat.reduceMul]; exact rfl; exact rfl))
  (apply WF.ret; (focus (simp only [Zj, Zd, Zm, Zv, reduceIte, Nat.reduceEqDiff, rs111]; exact rfl)))
  exact ⟨rfl, rfl⟩
theorem fmtU8 (H : AH) (u : Nat) (hu : u < 18446744073709551616) : Fn Q YM 111 [.int .u64 (u : Int), .int .i64 8] H (fun w H' => w = .str (hx 8 u) ∧ H' = H) := by
  have in8 : ∀ H, Fn Q YM 149 [.int .u64 (u : Int), .int .i64 8] H (fun w H' => w = .str (hx 8 u) ∧ H' = H) := by
    intro H
    refine Fn.intro (en149 _ _) ?_
    have d1 : decide ((8 : Int) = 10) = false := rfl
    unfold c149 Tryz.f149
    simp only [Option.getD_some]
    repeat (first|(apply Zh;exact rfl)|apply Zb|apply WO.nil|(apply WO.op;(focus (simp only [rQ,Zc,li,lo,reduceIte,Nat.reduceEqDiff,Nat.reduceAdd,beq_self_eq_true,d1];done));simp only [rE,rS,li,lo,reduceIte,Nat.reduceEqDiff,Nat.reduceAdd,Nat.reduceMul,d1];exact rfl;exact rfl)|(apply WO.unwanted;(focus (simp only [rQ,Zc,li,lo,reduceIte,Nat.reduceEqDiff,Nat.reduceAdd,beq_self_eq_true,d1];done));exact rfl))
    (first|(apply WF.condT;(focus (simp only [Zg,Zf,Zd,Zm,Bool.not_true,Bool.not_false,reduceIte,Nat.reduceEqDiff,d1];done)))|(apply WF.condF;(focus (simp only [Zg,Zf,Zd,Zm,Bool.not_true,Bool.not_false,reduceIte,Nat.reduceEqDiff,d1];done))))
    repeat (first|(apply Zh;exact rfl)|apply Zb|apply WO.nil|(apply Zk;exact rfl;simp only [rE,rS,li,lo,reduceIte,Nat.reduceEqDiff,Nat.reduceAdd,Nat.reduceMul];exact rfl;exact rfl))
    (apply WO.call;(focus (simp only [rQ,Zc,li,lo,reduceIte,Nat.reduceEqDiff,Nat.reduceAdd,beq_self_eq_true];done));simp only [rE,rS,li,lo,reduceIte,Nat.reduceEqDiff,Nat.reduceAdd,Nat.reduceMul,cu209];exact rfl;exact fmtBits8 _ _ hu;rintro _ _ ⟨rfl,rfl⟩;refine ⟨_,rfl,?_⟩)
    repeat (first|(apply Zh;exact rfl)|apply Zb|apply WO.nil|(apply Zk;exact rfl;simp only [rE,rS,li,lo,reduceIte,Nat.reduceEqDiff,Nat.reduceAdd,Nat.reduceMul];exact rfl;exact rfl))
    (apply WF.ret; (focus (simp only [Zj, Zd, Zm, Zv, reduceIte, Nat.reduceEqDiff, rs149]; exact rfl)))
    exact ⟨rfl, rfl⟩
  refine Fn.intro (en111 _ _) ?_
  unfold c111 Tryz.f111
  simp only [Option.getD_some]
  repeat (first | (apply Zh; exact rfl) | apply Zb | apply WO.nil | (apply Zk; exact rfl; simp only [rE, rS, li, lo, reduceIte, Nat.reduceEqDiff, Nat.reduceAdd, Nat.reduceMul]; exact rfl; exact rfl))
  (apply WO.call;(focus (simp only [rQ,Zc,li,lo,reduceIte,Nat.reduceEqDiff,Nat.reduceAdd,beq_self_eq_true];done));simp only [rE,rS,li,lo,reduceIte,Nat.reduceEqDiff,Nat.reduceAdd,Nat.reduceMul,cu149];exact rfl;exact in8 _;rintro _ _ ⟨rfl,rfl⟩;refine ⟨_,rfl,?_⟩)
  repeat (first | (apply Zh; exact rfl) | apply Zb | apply WO.nil | (apply Zk; exact rfl; simp only [rE, rS, li, lo, reduceIte, Nat.reduceEqDiff, Nat.reduceAdd, Nat.reduceMul]; exact rfl; exact rfl))
  (apply WF.ret; (focus (simp only [Zj, Zd, Zm, Zv, reduceIte, Nat.reduceEqDiff, rs111]; exact rfl)))
  exact ⟨rfl, rfl⟩
theorem fmtU10 (H : AH) (u : Nat) (hu : u < 18446744073709551616) : Fn Q YM 111 [.int .u64 (u : Int), .int .i64 10] H (fun w H' => w = .str (hx 10 u) ∧ H' = H) := by
  refine Fn.intro (en111 _ _) ?_
  unfold c111 Tryz.f111
  simp only [Option.getD_some]
  repeat (first | (apply Zh; exact rfl) | apply Zb | apply WO.nil | (apply Zk; exact rfl; simp only [rE, rS, li, lo, reduceIte, Nat.reduceEqDiff, Nat.reduceAdd, Nat.reduceMul]; exact rfl; exact rfl))
  refine WO.callC (by simp only [rQ,Zc,li,lo,reduceIte,Nat.reduceEqDiff,Nat.reduceAdd,beq_self_eq_true];done) (fun c h => by cases h) (by simp only [rE,rS,li,lo,reduceIte,Nat.reduceEqDiff,Nat.reduceAdd,Nat.reduceMul,cu149]) rfl (fmtUint_v _ _ hu) rfl ?_
  repeat (first | (apply Zh; exact rfl) | apply Zb | apply WO.nil | (apply Zk; exact rfl; simp only [rE, rS, li, lo, reduceIte, Nat.reduceEqDiff, Nat.reduceAdd, Nat.reduceMul]; exact rfl; exact rfl))
  (apply WF.ret; (focus (simp only [Zj, Zd, Zm, Zv, reduceIte, Nat.reduceEqDiff, rs111]; exact rfl)))
  exact ⟨rfl, rfl⟩
theorem fmtI10 (H : AH) (n : Int) (h0 : -9223372036854775808 ≤ n) (h1 : n ≤ 9223372036854775807) : Fn Q YM 113 [.int .i64 n, .int .i64 10] H (fun w H' => w = .str (dec n) ∧ H' = H) := by
  refine Fn.intro (en113 _ _) ?_
  unfold c113 Tryz.f113
  simp only [Option.getD_some]
  repeat (first | (apply Zh; exact rfl) | apply Zb | apply WO.nil | (apply Zk; exact rfl; simp only [rE, rS, li, lo, reduceIte, Nat.reduceEqDiff, Nat.reduceAdd, Nat.reduceMul]; exact rfl; exact rfl))
  refine WO.callC (by simp only [rQ,Zc,li,lo,reduceIte,Nat.reduceEqDiff,Nat.reduceAdd,beq_self_eq_true];done) (fun c h => by cases h) (by simp only [rE,rS,li,lo,reduceIte,Nat.reduceEqDiff,Nat.reduceAdd,Nat.reduceMul,cu153]) rfl (fmtInt_v _ _ h0 h1) rfl ?_
  repeat (first | (apply Zh; exact rfl) | apply Zb | apply WO.nil | (apply Zk; exact rfl; simp only [rE, rS, li, lo, reduceIte, Nat.reduceEqDiff, Nat.reduceAdd, Nat.reduceMul]; exact rfl; exact rfl))
  (apply WF.ret; (focus (simp only [Zj, Zd, Zm, Zv, reduceIte, Nat.reduceEqDiff, rs113]; exact rfl)))
  exact ⟨rfl, rfl⟩
theorem digits_c (H : AH) (n : Int) (h0 : -9223372036854775808 ≤ n) (h1 : n ≤ 9223372036854775807) : Fn Q YM 72 [.int .i64 n] H (fun w H' => w = .str (dec n) ∧ H' = H) := by
  refine Fn.intro (en72 _) ?_
  unfold c72 Tryz.f72
  simp only [Option.getD_some]
  repeat (first | (apply Zh; exact rfl) | apply Zb | apply WO.nil | (apply Zk; exact rfl; simp only [rE, rS, li, lo, reduceIte, Nat.reduceEqDiff, Nat.reduceAdd, Nat.reduceMul]; exact rfl; exact rfl))
  (apply WO.call;(focus (simp only [rQ,Zc,li,lo,reduceIte,Nat.reduceEqDiff,Nat.reduceAdd,beq_self_eq_true];done));simp only [rE,rS,li,lo,reduceIte,Nat.reduceEqDiff,Nat.reduceAdd,Nat.reduceMul,cu113];exact rfl;exact fmtI10 _ _ h0 h1;rintro _ _ ⟨rfl,rfl⟩;refine ⟨_,rfl,?_⟩)
  repeat (first | (apply Zh; exact rfl) | apply Zb | apply WO.nil | (apply Zk; exact rfl; simp only [rE, rS, li, lo, reduceIte, Nat.reduceEqDiff, Nat.reduceAdd, Nat.reduceMul]; exact rfl; exact rfl))
  (apply WF.ret; (focus (simp only [Zj, Zd, Zm, Zv, reduceIte, Nat.reduceEqDiff, rs72]; exact rfl)))
  exact ⟨rfl, rfl⟩
end Go.Ev.C
end
