/- The law, walked whole. -/
import Derived.Test.YtkkegnkopmpjhaaGreatDoorEvL
import Derived.Test.YtkkegnkopmpjhaaGreatDoorEvO
section
set_option linter.unusedVariables false
set_option linter.unusedSimpArgs false
set_option linter.defProp false
set_option linter.all false
namespace Go.Ev.C
open Go.Proofs Go.Fmt
def pOk (left : Bool) (d : List Nat) (l : Nat) : Bool := match parse (cvT left d l) with
  | some [.cv t] => t == cvT left d l
  | _ => false
theorem p_all : ([true, false].all fun left => wides.all fun d => letters.all fun l => pOk left d l) = true := by kernel_rfl
theorem parse_cv (left : Bool) {d : List Nat} {l : Nat} (hd : d ∈ wides) (hl : letters.contains l = true) : parse (cvT left d l) = some [.cv (cvT left d l)] := by
  have h0 := List.all_eq_true.1 p_all left (by cases left <;> simp)
  have h1 := List.all_eq_true.1 h0 d hd
  have h2 := List.all_eq_true.1 h1 l (List.contains_iff_mem.1 hl)
  unfold pOk at h2
  split at h2
  · rename_i t e
    rw [e, beq_iff_eq.1 h2]
  · cases h2
theorem fmt_cv (left : Bool) {d : List Nat} {l : Nat} (hd : d ∈ wides) (hl : letters.contains l = true) (x : ItD) : fmtR (cvT left d l) [x] = if fitsB x l = true then (pad left (widN d) (letterS l x), 0) else ([], 1) := by
  unfold fmtR
  rw [parse_cv left hd hl]
  have h1 : allFit (cvs [.cv (cvT left d l)]) [x] = (fitsB x l && true) := by
    show (fit1 (cvT left d l) x && true) = _
    unfold fit1
    rw [cv_letter]
  have h2 : outS [.cv (cvT left d l)] [x] = pad left (widN d) (letterS l x) := by
    show cvOut (cvT left d l) x ++ [] = _
    rw [List.append_nil, cvOut_T hd hl]
  dsimp only
  rw [h1, h2]
  cases fitsB x l <;> simp [cvs]
theorem pad_zero (s : List Nat) : pad false 0 s = s := by
  unfold pad
  simp
theorem pad_max (left : Bool) (n : Nat) (s : List Nat) : (pad left n s).length = max n s.length := by
  unfold pad
  cases left <;> simp <;> omega
theorem noSp_rep (n : Nat) : noSp (List.replicate n 32) = [] := by
  unfold noSp
  rw [List.filter_eq_nil_iff]
  intro c hc
  rw [(List.mem_replicate.1 hc).2]
  simp
theorem noSp_append (s t : List Nat) : noSp (s ++ t) = noSp s ++ noSp t := List.filter_append ..
theorem noSp_id {s : List Nat} (h : ∀ c ∈ s, c ≠ 32) : noSp s = s := List.filter_eq_self.2 fun c hc => by simpa using h c hc
theorem noSp_pad (left : Bool) (n : Nat) {s : List Nat} (h : ∀ c ∈ s, c ≠ 32) : noSp (pad left n s) = s := by
  unfold pad
  cases left
  · rw [if_neg (by simp), noSp_append, noSp_rep, noSp_id h]
    rfl
  · rw [if_pos rfl, noSp_append, noSp_rep, noSp_id h, List.append_nil]
theorem pad_take (left : Bool) {n : Nat} {s : List Nat} (hn : s.length < n) (h0 : s ≠ []) (h : ∀ c ∈ s, c ≠ 32) : ((pad left n s).take s.length == s) = left := by
  unfold pad
  cases left
  · rw [if_neg (by simp), beq_eq_false_iff_ne]
    intro e
    obtain ⟨k, hk⟩ : ∃ k, n - s.length = k + 1 := ⟨n - s.length - 1, by omega⟩
    cases s with
    | nil => exact h0 rfl
    | cons c s =>
      rw [hk, List.replicate_succ, List.cons_append, List.length_cons, List.take_succ_cons] at e
      exact h c (by simp) (List.cons.inj e).1.symm
  · rw [if_pos rfl, List.take_left' rfl, beq_iff_eq]
theorem hx_noSp {b : Nat} (hb : 2 ≤ b) (n : Nat) : ∀ c ∈ hx b n, c ≠ 32 := by
  intro c hc
  obtain ⟨d, _, rfl⟩ := hxF_dig hb 64 n c hc
  unfold ch
  split <;> omega
theorem dec_noSp (n : Int) : ∀ c ∈ dec n, c ≠ 32 := by
  intro c hc
  have := hx_noSp (b := 10) (by omega) n.natAbs c
  unfold dec at hc
  split at hc
  · rcases List.mem_cons.1 hc with rfl | hc
    · omega
    · exact this hc
  · exact this hc
theorem hx_ne {b n : Nat} (hb : 2 ≤ b) (hb' : b ≤ 36) (hn : n < 18446744073709551616) : hx b n ≠ [] := by
  obtain ⟨c, s, e, _⟩ := hx_head hb hb' hn
  rw [e]
  simp
theorem hx_dig45 {b : Nat} (hb : 2 ≤ b) (n : Nat) : ∀ c ∈ hx b n, c ≠ 45 := by
  intro c hc
  obtain ⟨d, _, rfl⟩ := hxF_dig hb 64 n c hc
  unfold ch
  split <;> omega
/-- Numbers' items. -/
def numD (z : Int) (g : Bool) (v : Int) : ItD := ⟨0, 0, 1, z, g, 0, false, v, []⟩
theorem fits_num {z : Int} {g : Bool} {v : Int} {l : Nat} (hl : l ≠ 115) : fitsB (numD z g v) l = fitsB (numD z g v) 100 := by
  unfold fitsB
  rw [if_neg hl]
  rfl
end Go.Ev.C
end
section
set_option linter.unusedVariables false
set_option linter.unusedSimpArgs false
set_option linter.defProp false
set_option linter.all false
namespace Go.Ev.C
open Go.Proofs Go.Fmt Go.RowKit
set_option maxRecDepth 100000
set_option linter.unusedSimpArgs false
theorem b66 (z : Int) (g : Bool) : buildU Q 66 [(0, .int .i64 1), (1, .agg [.int .i64 z, .bool g])] = some (.agg [.int .i64 1, .int .i64 z, .bool g, .int .i64 0]) := by kernel_rfl
theorem b68 (v : Int) : buildU Q 68 [(1, .int .i64 v)] = some (.agg [.bool false, .int .i64 v, .str []]) := by kernel_rfl
theorem b70 (z : Int) (g : Bool) (v : Int) : buildU Q 70 [(2, .agg [.int .i64 1, .int .i64 z, .bool g, .int .i64 0]), (3, .agg [.bool false, .int .i64 v, .str []])] = some (IV (numD z g v) .nilslice) := by kernel_rfl
def mkI22 (a : Option AV) : Option New := match a with
  | some a => (match fillU (fun i => some (i * 10, 10)) [.int .i64 0, .int .i64 0, .int .i64 0, .int .i64 0, .bool false, .int .i64 0, .bool false, .int .i64 0, .str [], .nilslice] [(0, a)] with
    | some c => some (.cells 70 c 0 false false, fun b => .slice b 0 1 (.is 1))
    | none => none)
  | _ => none
theorem zero70 : zeroU Q 70 = some (.agg [.int .i64 0, .int .i64 0, .int .i64 0, .int .i64 0, .bool false, .int .i64 0, .bool false, .int .i64 0, .str [], .nilslice]) := by kernel_rfl
theorem bs22_1 (t : Tri AV) (k : Nat) : buildSliceN Q t 22 1 #[(0, .tmp k)] = mkI22 (t.get k) := by
  cases ha : t.get k with
  | none => simp [buildSliceN, und22, partsU, evalO, ha, mkI22]
  | some a =>
    simp [buildSliceN, und22, sz70, zero70, partsU, evalO, ha, mkI22, AV.cells]
    split <;> split <;> simp_all
theorem mkI22_num (z : Int) (g : Bool) (v : Int) : mkI22 (some (IV (numD z g v) .nilslice)) = some (.cells 70 (IC (numD z g v) .nilslice) 0 false false, fun b => .slice b 0 1 (.is 1)) := by kernel_rfl
def let4 : List (List Nat) := [[117], [120], [111], [100]]
def bas3 : List Nat := [10, 16, 8]
theorem bs74c4 (t : Tri AV) : buildSliceN Q t 74 4 #[(0, .const (.string ⟨#[117]⟩)), (1, .const (.string ⟨#[120]⟩)), (2, .const (.string ⟨#[111]⟩)), (3, .const (.string ⟨#[100]⟩))] = some (.cells 9 (strL let4) 0 false false, fun b => .slice b 0 4 (.is 4)) := by kernel_rfl
theorem bs75c3 (t : Tri AV) : buildSliceN Q t 75 3 #[(0, .const (.int .u64 10)), (1, .const (.int .u64 16)), (2, .const (.int .u64 8))] = some (.cells 71 (bas3.map fun n : Nat => AV.int .u64 (n : Int)) 0 false false, fun b => .slice b 0 3 (.is 3)) := by kernel_rfl
theorem fnum_c (H : AH) (iv : AV) (x : ItD) (hi : ItemsAt H iv [(x, .nilslice)]) (hin : ItIn x .nilslice) (left : Bool) (d : List Nat) (l : Nat) (hd : d ∈ wides) (hl : letters.contains l = true) (h8 : l < 256) : Fn Q Laid2 11 [.str (cvT left d l), iv] H (fun w H' => w = .tuple [.str (if fitsB x l = true then pad left (widN d) (letterS l x) else []), .int .i64 (if fitsB x l = true then 0 else 1)] ∧ Up H H') := by
  have hdl := wid_len hd
  refine (format_c H (cvT left d l) [(x, .nilslice)] iv ?_ hi (by intro y hy; simp at hy; rw [hy]; exact hin) ?_).mono fun w H' h => ?_
  · intro c hc
    have hd8 : ∀ c ∈ d, c < 256 := by
      have h : wides.all (fun d => d.all fun c => decide (c < 256)) = true := by decide
      have h1 := List.all_eq_true.1 h d hd
      intro c hc
      simpa using List.all_eq_true.1 h1 c hc
    unfold cvT at hc
    rcases List.mem_cons.1 hc with rfl | hc
    · omega
    rcases List.mem_append.1 hc with hc | hc
    · rcases List.mem_append.1 hc with hc | hc
      · cases left
        · cases hc
        · simp at hc; omega
      · exact hd8 c hc
    · simp at hc; omega
  · unfold cvT
    cases left <;> simp <;> omega
  · obtain ⟨rfl, hu⟩ := h
    refine ⟨?_, hu⟩
    show AV.tuple [.str (fmtR (cvT left d l) [x]).1, .int .i64 (fmtR (cvT left d l) [x]).2] = _
    rw [fmt_cv left hd hl]
    cases fitsB x l <;> rfl
end Go.Ev.C
end
section
set_option linter.unusedVariables false
set_option linter.unusedSimpArgs false
set_option linter.defProp false
set_option linter.all false
namespace Go.Ev.C
open Go.Proofs Go.Fmt Go.RowKit
set_option maxRecDepth 100000
set_option linter.unusedSimpArgs false
theorem w_nil : ([] : List Nat) ∈ wides := by unfold wides; simp
/-- Numbers of 64 bits in memory. -/
def U64At (H : AH) (v : AV) (l : List Nat) : Prop := SL v l.length ∧ ∀ b off n cap, v = .slice b off n cap → l ≠ [] → ∃ c, b < H.next ∧ H.cellsAt b = some c ∧ ∀ (i : Nat) (z : Nat), l[i]? = some z → c[off + i * 1]? = some (.int .u64 (z : Int))
theorem U64At.up {H H' : AH} (u : Up H H') {v : AV} {l : List Nat} (h : U64At H v l) : U64At H' v l :=
  ⟨h.1, fun b off n cap e hn => by
    obtain ⟨c, hb, hc, hr⟩ := h.2 b off n cap e hn
    exact ⟨c, Nat.lt_of_lt_of_le hb u.next, by rw [u.cellsAt hb]; exact hc, hr⟩⟩
theorem U64At.at {H : AH} {v : AV} {l : List Nat} (h : U64At H v l) {i : Nat} {z : Nat} (hz : l[i]? = some z) : ∃ b off cap c, v = .slice b off l.length cap ∧ H.cellsAt b = some c ∧ c[off + i * 1]? = some (.int .u64 (z : Int)) := by
  obtain ⟨h1, h2⟩ := h
  have hi := (List.getElem?_eq_some_iff.1 hz).1
  generalize hn : l.length = n at h1
  cases h1 with
  | nil => omega
  | sl b off n cap =>
    obtain ⟨c, _, hc, hr⟩ := h2 b off _ cap rfl (by intro e; subst e; simp at hi)
    exact ⟨b, off, cap, c, rfl, hc, hr i z hz⟩
theorem let4_at {i : Nat} (h : i < 4) : ∃ li, let4[i]? = some [li] ∧ letters.contains li = true ∧ li < 256 ∧ li ≠ 115 ∧ ((i < 3 ∧ ∃ b, bas3[i]? = some b ∧ 2 ≤ b ∧ b ≤ 16 ∧ ∀ x, letterS li x = hx b (pat x)) ∨ (i = 3 ∧ ∀ x, letterS li x = dec x.vn)) := by
  rcases (show i = 0 ∨ i = 1 ∨ i = 2 ∨ i = 3 from by omega) with rfl | rfl | rfl | rfl
  · exact ⟨117, rfl, rfl, by omega, by omega, .inl ⟨by omega, 10, rfl, by omega, by omega, fun _ => rfl⟩⟩
  · exact ⟨120, rfl, rfl, by omega, by omega, .inl ⟨by omega, 16, rfl, by omega, by omega, fun _ => rfl⟩⟩
  · exact ⟨111, rfl, rfl, by omega, by omega, .inl ⟨by omega, 8, rfl, by omega, by omega, fun _ => rfl⟩⟩
  · exact ⟨100, rfl, rfl, by omega, by omega, .inr ⟨rfl, fun _ => rfl⟩⟩
theorem wide_w {w : Nat} (hw : w < 100) : [48 + w / 10, 48 + w % 10] ∈ wides ∧ widN [48 + w / 10, 48 + w % 10] = w := by
  constructor
  · unfold wides
    simp only [List.mem_append, List.mem_map, List.mem_range]
    exact .inr ⟨w, hw, rfl⟩
  · simp only [widN, List.foldl]
    omega
theorem fnum_ok (H : AH) (iv : AV) (x : ItD) (hi : ItemsAt H iv [(x, .nilslice)]) (hin : ItIn x .nilslice) (left : Bool) (d : List Nat) (l : Nat) (hd : d ∈ wides) (hl : letters.contains l = true) (h8 : l < 256) (hf : fitsB x l = true) : Fn Q Laid2 11 [.str (cvT left d l), iv] H (fun w H' => w = .tuple [.str (pad left (widN d) (letterS l x)), .int .i64 0] ∧ Up H H') :=
  (fnum_c H iv x hi hin left d l hd hl h8).mono fun w H' h => by
    rw [hf] at h
    exact h
theorem fnum_ok0 (H : AH) (iv : AV) (x : ItD) (hi : ItemsAt H iv [(x, .nilslice)]) (hin : ItIn x .nilslice) (l : Nat) (hl : letters.contains l = true) (h8 : l < 256) (hf : fitsB x l = true) : Fn Q Laid2 11 [.str ([37] ++ [l]), iv] H (fun w H' => w = .tuple [.str (letterS l x), .int .i64 0] ∧ Up H H') :=
  (fnum_ok H iv x hi hin false [] l w_nil hl h8 hf).mono fun w H' h => by
    have e : pad false (widN []) (letterS l x) = letterS l x := pad_zero _
    rw [e] at h
    exact h
theorem fnum_bad (H : AH) (iv : AV) (x : ItD) (hi : ItemsAt H iv [(x, .nilslice)]) (hin : ItIn x .nilslice) (l : Nat) (hl : letters.contains l = true) (h8 : l < 256) (hf : fitsB x l = false) : Fn Q Laid2 11 [.str ([37] ++ [l]), iv] H (fun w H' => w = .tuple [.str [], .int .i64 1] ∧ Up H H') :=
  (fnum_c H iv x hi hin false [] l w_nil hl h8).mono fun w H' h => by
    rw [hf] at h
    exact h
theorem add37 {P : Program} (t : TypeId) (b : List Nat) (h : b.length < 1000) : binU P .add t (.str (bts ⟨#[37]⟩)) (.str b) = some (.str ([37] ++ b)) := bin_addS t (show 1 + b.length < 100000000 by omega)
theorem shr_i (u s : Nat) (hs : s < 64) : binU Q .shr 71 (.int .u64 (u : Int)) (.int .i64 (s : Int)) = some (.int .u64 ((u / 2 ^ s : Nat) : Int)) := by
  have h1 : ¬ ((s : Int) < 0) := by omega
  have h2 : min (s : Int).toNat IntKind.u64.bits = s := by
    have : IntKind.u64.bits = 64 := rfl
    rw [this, Int.toNat_natCast]
    omega
  simp only [binU, h1, if_false, h2]
  congr 2
  rw [show (2 ^ s : Int) = ((2 ^ s : Nat) : Int) from by simp, ← Int.ofNat_fdiv]
theorem quo_i (w : Nat) (hw : w < 100) : binU Q .quo 3 (.int .i64 (w : Int)) (.int .i64 10) = some (.int .i64 ((w / 10 : Nat) : Int)) := by
  have e : (w : Int).tdiv 10 = ((w / 10 : Nat) : Int) := (Int.ofNat_tdiv w 10).symm
  have e2 : IntKind.i64.wrap ((w / 10 : Nat) : Int) = ((w / 10 : Nat) : Int) := Go.Ev.w64 (by omega) (by omega)
  simp only [binU, intOp, if_true, e, e2]
  rw [if_neg (by omega)]
theorem rem_i (w : Nat) : binU Q .rem 3 (.int .i64 (w : Int)) (.int .i64 10) = some (.int .i64 ((w % 10 : Nat) : Int)) := by
  have e : (w : Int).tmod 10 = ((w % 10 : Nat) : Int) := (Int.ofNat_tmod w 10).symm
  simp only [binU, intOp, if_true, e]
  rw [if_neg (by omega)]
theorem rem_8 (w : Nat) : binU Q .rem 5 (.int .u8 (w : Int)) (.int .u8 100) = some (.int .u8 ((w % 100 : Nat) : Int)) := by
  have e : (w : Int).tmod 100 = ((w % 100 : Nat) : Int) := (Int.ofNat_tmod w 100).symm
  simp only [binU, intOp, if_true, e]
  rw [if_neg (by omega)]
theorem gOk_quo {P : Program} (t : TypeId) (x y : Operand) (a b : AV) : guardOk P .quo t x y a b = true := rfl
theorem gOk_rem {P : Program} (t : TypeId) (x y : Operand) (a b : AV) : guardOk P .rem t x y a b = true := rfl
def mkB82 (a b : Option AV) : Option New := match a, b with
  | some a, some b => (match fillU (fun i => some (i * 1, 1)) [.int .u8 0, .int .u8 0] [(0, a), (1, b)] with
    | some c => some (.cells 5 c 0 false false, fun b => .slice b 0 2 (.is 2))
    | none => none)
  | _, _ => none
theorem bs35_2 (t : Tri AV) (k j : Nat) : buildSliceN Q t 35 2 #[(0, .tmp k), (1, .tmp j)] = mkB82 (t.get k) (t.get j) := by
  cases ha : t.get k with
  | none => simp [buildSliceN, und35, partsU, evalO, ha, mkB82]
  | some a =>
    cases hb : t.get j with
    | none => simp [buildSliceN, und35, partsU, evalO, ha, hb, mkB82]
    | some b =>
      simp [buildSliceN, und35, sz5, zero5, partsU, evalO, ha, hb, mkB82, AV.cells]
      split <;> split <;> simp_all
theorem mkB82_int (x y : Int) : mkB82 (some (.int .u8 x)) (some (.int .u8 y)) = some (.cells 5 [.int .u8 x, .int .u8 y] 0 false false, fun b => .slice b 0 2 (.is 2)) := rfl
theorem conv2 {H : AH} (m n : Nat) (hm : m < 256) (hn : n < 256) : convL Q 35 9 (some (.slice H.next 0 2 (.is 2))) ⟨H.t.put H.next (some (.cells 5 [.int .u8 (m : Int), .int .u8 (n : Int)] 0 false false)), H.next + 1⟩ = some (.str [m, n]) := by
  have hc : AH.cellsAt ⟨H.t.put H.next (some (.cells 5 [.int .u8 (m : Int), .int .u8 (n : Int)] 0 false false)), H.next + 1⟩ H.next = some (bsL [m, n]) := by rw [cellsAt_put, if_pos rfl]; rfl
  have hcut : cut (bsL [m, n]) 0 2 = some (bsL [m, n]) := cut_self rfl rfl
  have hb : byteL (bsL [m, n]) = some [m, n] := byteL_map (by intro k hk; simp at hk; omega)
  have hz : Nat.beq 2 0 = false := rfl
  simp only [convL, und35, und9, und5, hz, hc, hcut, hb, Option.map_some, Bool.false_eq_true, if_false]
theorem mx2 (ts : List TypeId) (a z : Int) : builtinU Q .max ts [.int .i64 a, .int .i64 z] = some (.int .i64 (if a < z then z else a)) := rfl
/-- Temporaries that a loop keeps. -/
def Kp (S : List Nat) (t0 t : Tri AV) : Prop := ∀ j, S.contains j = true → t.get j = t0.get j
theorem Kp.put {S : List Nat} {t0 t : Tri AV} {n : Nat} (h : Kp S t0 t) (o : Option AV) (hn : S.contains n = false) : Kp S t0 (t.put n o) := fun j hj => by
  have hne : j ≠ n := by
    rintro rfl
    rw [hn] at hj
    cases hj
  rw [Tri.gp, if_neg hne]
  exact h j hj
theorem Kp.refl (S : List Nat) (t : Tri AV) : Kp S t t := fun _ _ => rfl
end Go.Ev.C
end
section
set_option linter.unusedVariables false
set_option linter.unusedSimpArgs false
set_option linter.defProp false
set_option linter.all false
namespace Go.Ev.C
open Go.Proofs Go.Fmt Go.RowKit
set_option maxRecDepth 100000
set_option linter.unusedSimpArgs false
def keep7 : List Nat := [1, 3, 9, 10, 17, 18, 19, 20, 21]
/-- How many bits. -/
structure Bits (z : Int) (v : Int) (g : Bool) (s : Nat) : Prop where
  le : s ≤ 64
  lt : s < 64 → pat (numD z g v) = u64N v % 2 ^ s ∧ binU Q .shl 71 (.int .u64 1) (.int .i64 (s : Int)) = some (.int .u64 ((2 ^ s : Nat) : Int))
  eq : s = 64 → pat (numD z g v) = u64N v
  pos : 0 < s
theorem fnum_w (H : AH) (iv : AV) (x : ItD) (hi : ItemsAt H iv [(x, .nilslice)]) (hin : ItIn x .nilslice) (left : Bool) (w l : Nat) (hw : w < 100) (hl : letters.contains l = true) (h8 : l < 256) (hf : fitsB x l = true) : Fn Q Laid2 11 [.str ((([37] ++ if left = true then [45] else []) ++ [48 + w / 10, 48 + w % 10]) ++ [l]), iv] H (fun r H' => r = .tuple [.str (pad left w (letterS l x)), .int .i64 0] ∧ Up H H') := by
  have h := fnum_ok H iv x hi hin left _ l (wide_w hw).1 hl h8 hf
  rw [(wide_w hw).2] at h
  have e : cvT left [48 + w / 10, 48 + w % 10] l = (([37] ++ if left = true then [45] else []) ++ [48 + w / 10, 48 + w % 10]) ++ [l] := by
    unfold cvT
    cases left <;> rfl
  rw [e] at h
  exact h
theorem unsp_c (H : AH) (left : Bool) (w : Nat) (s : List Nat) (hw : w < 100) (hs : s.length ≤ 1000) (h : ∀ c ∈ s, c ≠ 32) : Fn Q Laid2 26 [.str (pad left w s)] H (fun r H' => r = .str s ∧ H' = H) :=
  (unspaced_c H (pad left w s) (by rw [pad_max]; omega)).mono fun r H' hh => by
    rw [noSp_pad left w h] at hh
    exact hh
set_option maxHeartbeats 8000000 in
theorem loop7_w (H0 : AH) (z v : Int) (g left : Bool) (w s : Nat) (iv vL vB : AV) (t0 : Tri AV) (hin : ItIn (numD z g v) .nilslice) (hf : fitsB (numD z g v) 100 = true) (hb : Bits z v g s) (hw : w < 100)
    (hi : ItemsAt H0 iv [(numD z g v, .nilslice)]) (hL : StrsAt H0 vL let4) (hB : U64At H0 vB bas3)
    (h1 : t0.get 1 = some (.int .i64 v)) (h3 : t0.get 3 = some (.bool left)) (h9 : t0.get 9 = some (.bool true)) (h10 : t0.get 10 = some iv) (h17 : t0.get 17 = some (.int .i64 (s : Int))) (h18 : t0.get 18 = some vL) (h19 : t0.get 19 = some vB) (h20 : t0.get 20 = some (.int .i64 (w : Int))) (h21 : t0.get 21 = some (.str (if left then [45] else []))) :
    WF Q Laid2 (PF 7 208 t0 [.code (sub [1, 1, 1, 1, 1, 1, 1, 1, 1, 1, 1, 1, 1, 1, 1, 1, 1] c7)]) H0 (Ret Q 7 fun v _ => v = .bool true) := by
  unfold c7 Tryz.f7
  simp only [Option.getD_some, sub]
  repeat (first | apply WF.seq | apply WF.regionL | apply WO.nil | apply WF.block | apply WF.skip | apply WF.endBlock | (apply WF.exit; (focus (exact rfl))) | (apply WO.op; (focus (simp only [rQ, wantedU, li, lo, reduceIte, Nat.reduceEqDiff, Nat.reduceAdd, beq_self_eq_true]; done)); (focus (simp only [rE, rQ, li, lo, storeU, AH.set, reduceIte, Nat.reduceEqDiff, Nat.reduceAdd, Nat.reduceMul]; exact rfl)); (focus (exact rfl))) | (apply WO.unwanted; (focus (simp only [rQ, wantedU, li, lo, reduceIte, Nat.reduceEqDiff, Nat.reduceAdd, beq_self_eq_true]; done)); (focus (exact rfl))))
  refine WF.while (fun m t H => ∃ i : Nat, Up H0 H ∧ i + m = 4 ∧ Kp keep7 t0 t ∧ t.get 22 = some (.int .i64 (i : Int))) 4 ?_ ?_
  · refine ⟨0, Up.refl _, by omega, ?_, ?_⟩
    · (repeat (refine Kp.put ?_ _ rfl)); exact Kp.refl _ _
    · simp [Tri.gp]
  rintro m t H ⟨i, hu, him, hS, ht22⟩ ih
  have ht1 := (hS 1 rfl).trans h1
  have ht3 := (hS 3 rfl).trans h3
  have ht9 := (hS 9 rfl).trans h9
  have ht10 := (hS 10 rfl).trans h10
  have ht17 := (hS 17 rfl).trans h17
  have ht18 := (hS 18 rfl).trans h18
  have ht19 := (hS 19 rfl).trans h19
  have ht20 := (hS 20 rfl).trans h20
  have ht21 := (hS 21 rfl).trans h21
  by_cases hi4 : i < 4
  rotate_left
  · have hlt : decide ((i : Int) < 4) = false := decide_eq_false (by omega)
    repeat (first | apply WF.seq | apply WF.regionL | apply WO.nil | apply WF.block | apply WF.skip | apply WF.endBlock | (apply WF.exit; (focus (exact rfl))) | (apply WO.op; (focus (simp only [rQ, wantedU, li, lo, reduceIte, Nat.reduceEqDiff, Nat.reduceAdd, beq_self_eq_true, hlt]; done)); (focus (simp only [rE, rQ, li, lo, storeU, AH.set, reduceIte, Nat.reduceEqDiff, Nat.reduceAdd, Nat.reduceMul, ht9, ht22, hlt]; exact rfl)); (focus (exact rfl))) | (apply WO.unwanted; (focus (simp only [rQ, wantedU, li, lo, reduceIte, Nat.reduceEqDiff, Nat.reduceAdd, beq_self_eq_true, hlt]; done)); (focus (exact rfl))))
    (first | (apply WF.condT; (focus (simp only [evalO, ofConst, Tri.gp, lay, Bool.not_true, Bool.not_false, reduceIte, Nat.reduceEqDiff, hlt]; done))) | (apply WF.condF; (focus (simp only [evalO, ofConst, Tri.gp, lay, Bool.not_true, Bool.not_false, reduceIte, Nat.reduceEqDiff, hlt]; done))))
    repeat (first | apply WF.seq | apply WF.regionL | apply WO.nil | apply WF.block | apply WF.skip | apply WF.endBlock | (apply WF.exit; (focus (exact rfl))) | (apply WO.op; (focus (simp only [rQ, wantedU, li, lo, reduceIte, Nat.reduceEqDiff, Nat.reduceAdd, beq_self_eq_true, hlt]; done)); (focus (simp only [rE, rQ, li, lo, storeU, AH.set, reduceIte, Nat.reduceEqDiff, Nat.reduceAdd, Nat.reduceMul, ht9, ht22, hlt]; exact rfl)); (focus (exact rfl))) | (apply WO.unwanted; (focus (simp only [rQ, wantedU, li, lo, reduceIte, Nat.reduceEqDiff, Nat.reduceAdd, beq_self_eq_true, hlt]; done)); (focus (exact rfl))))
    (apply WF.ret; (focus (simp only [resultsU, Tri.gp, lay, resL, reduceIte, Nat.reduceEqDiff, rs7]; exact rfl)))
    rfl
  have hi4' : i < let4.length := hi4
  have hlt : decide ((i : Int) < 4) = true := decide_eq_true (by omega)
  have wi : IntKind.i64.wrap ((i : Int) + 1) = ((i + 1 : Nat) : Int) := by rw [Go.Ev.w64 (by omega) (by omega)]; omega
  have d0 : decide ((0 : Int) = 0) = true := rfl
  obtain ⟨ll, hli, hlet, hl8, hl115, hcase⟩ := let4_at hi4
  have hfl : fitsB (numD z g v) ll = true := by rw [fits_num hl115]; exact hf
  have hpl := pat_lt (numD z g v)
  have hPlen := letter_len hfl
  have hPsp : ∀ c ∈ letterS ll (numD z g v), c ≠ 32 := by
    rcases hcase with ⟨_, b, _, hb2, _, hP⟩ | ⟨_, hP⟩
    · rw [hP]; exact hx_noSp hb2 _
    · rw [hP]; exact dec_noSp _
  have hPne : letterS ll (numD z g v) ≠ [] := by
    rcases hcase with ⟨_, b, _, hb2, hb16, hP⟩ | ⟨_, hP⟩
    · rw [hP]; exact hx_ne hb2 (by omega) hpl
    · rw [hP]
      have := hx_ne (b := 10) (n := (numD z g v).vn.natAbs) (by omega) (by omega) (by have := hin.lo; have := hin.hi; omega)
      unfold dec
      split
      · simp
      · exact this
  obtain ⟨Lb, Loff, Lcap, Lc, hvL, hLc, hLcell⟩ := (hL.up hu).at hli
  subst hvL
  have hadd := add37 (P := Q) 9 [ll] (by simp)
  repeat (first | apply WF.seq | apply WF.regionL | apply WO.nil | apply WF.block | apply WF.skip | apply WF.endBlock | (apply WF.exit; (focus (exact rfl))) | (apply WO.op; (focus (simp only [rQ, wantedU, li, lo, reduceIte, Nat.reduceEqDiff, Nat.reduceAdd, beq_self_eq_true, hlt]; done)); (focus (simp only [rE, rQ, li, lo, storeU, AH.set, reduceIte, Nat.reduceEqDiff, Nat.reduceAdd, Nat.reduceMul, ht22, hlt]; exact rfl)); (focus (exact rfl))) | (apply WO.unwanted; (focus (simp only [rQ, wantedU, li, lo, reduceIte, Nat.reduceEqDiff, Nat.reduceAdd, beq_self_eq_true, hlt]; done)); (focus (exact rfl))))
  (first | (apply WF.condT; (focus (simp only [evalO, ofConst, Tri.gp, lay, Bool.not_true, Bool.not_false, reduceIte, Nat.reduceEqDiff, hlt]; done))) | (apply WF.condF; (focus (simp only [evalO, ofConst, Tri.gp, lay, Bool.not_true, Bool.not_false, reduceIte, Nat.reduceEqDiff, hlt]; done))))
  repeat (first | apply WF.seq | apply WF.regionL | apply WO.nil | apply WF.block | apply WF.skip | apply WF.endBlock | (apply WF.exit; (focus (exact rfl))) | (apply WO.op; (focus (simp only [rQ, wantedU, li, lo, reduceIte, Nat.reduceEqDiff, Nat.reduceAdd, beq_self_eq_true, d0]; done)); (focus (simp only [rE, rQ, li, lo, storeU, AH.set, reduceIte, Nat.reduceEqDiff, Nat.reduceAdd, Nat.reduceMul, len_str, slU9, bts0, cu11, cu25, cu26, und74, und75, index_SL und74 sz9 hi4', loadVar_one agg9, loadVar_one agg71, ht1, ht3, ht9, ht10, ht17, ht18, ht19, ht20, ht21, ht22, hLc, hLcell, cell_str, d0, hadd]; exact rfl)); (focus (exact rfl))) | (apply WO.unwanted; (focus (simp only [rQ, wantedU, li, lo, reduceIte, Nat.reduceEqDiff, Nat.reduceAdd, beq_self_eq_true, d0]; done)); (focus (exact rfl))))
  (apply WO.call; (focus (simp only [rQ, wantedU, li, lo, reduceIte, Nat.reduceEqDiff, Nat.reduceAdd, beq_self_eq_true, d0]; done)); (focus (simp only [rE, rQ, li, lo, storeU, AH.set, reduceIte, Nat.reduceEqDiff, Nat.reduceAdd, Nat.reduceMul, len_str, slU9, bts0, cu11, cu25, cu26, und74, und75, index_SL und74 sz9 hi4', loadVar_one agg9, loadVar_one agg71, ht1, ht3, ht9, ht10, ht17, ht18, ht19, ht20, ht21, ht22, hLc, hLcell, cell_str, d0, hadd]; exact rfl)); (focus (exact fnum_ok0 H iv _ (hi.up hu) hin ll hlet hl8 hfl)); rintro _ H1 ⟨rfl, hu1⟩; refine ⟨_, rfl, ?_⟩)
  repeat (first | apply WF.seq | apply WF.regionL | apply WO.nil | apply WF.block | apply WF.skip | apply WF.endBlock | (apply WF.exit; (focus (exact rfl))) | (apply WO.op; (focus (simp only [rQ, wantedU, li, lo, reduceIte, Nat.reduceEqDiff, Nat.reduceAdd, beq_self_eq_true, d0]; done)); (focus (simp only [rE, rQ, li, lo, storeU, AH.set, reduceIte, Nat.reduceEqDiff, Nat.reduceAdd, Nat.reduceMul, len_str, slU9, bts0, cu11, cu25, cu26, und74, und75, index_SL und74 sz9 hi4', loadVar_one agg9, loadVar_one agg71, ht1, ht3, ht9, ht10, ht17, ht18, ht19, ht20, ht21, ht22, hLc, hLcell, cell_str, d0]; exact rfl)); (focus (exact rfl))) | (apply WO.unwanted; (focus (simp only [rQ, wantedU, li, lo, reduceIte, Nat.reduceEqDiff, Nat.reduceAdd, beq_self_eq_true, d0]; done)); (focus (exact rfl))))
  (first | (apply WF.condT; (focus (simp only [evalO, ofConst, Tri.gp, lay, Bool.not_true, Bool.not_false, reduceIte, Nat.reduceEqDiff, d0]; done))) | (apply WF.condF; (focus (simp only [evalO, ofConst, Tri.gp, lay, Bool.not_true, Bool.not_false, reduceIte, Nat.reduceEqDiff, d0]; done))))
  iterate 1 (first | apply WF.seq | apply WF.regionL | apply WO.nil | apply WF.block | apply WF.skip | apply WF.endBlock | (apply WF.exit; (focus (exact rfl))) | (apply WO.op; (focus (simp only [rQ, wantedU, li, lo, reduceIte, Nat.reduceEqDiff, Nat.reduceAdd, beq_self_eq_true]; done)); (focus (simp only [rE, rQ, li, lo, storeU, AH.set, reduceIte, Nat.reduceEqDiff, Nat.reduceAdd, Nat.reduceMul]; exact rfl)); (focus (exact rfl))) | (apply WO.unwanted; (focus (simp only [rQ, wantedU, li, lo, reduceIte, Nat.reduceEqDiff, Nat.reduceAdd, beq_self_eq_true]; done)); (focus (exact rfl))))
  refine WF.seq ?_
  refine WF.cutTH (fun t' H' => H' = H1 ∧ Kp keep7 t0 t' ∧ t'.get 22 = some (.int .i64 (i : Int)) ∧ t'.get 23 = some (.str (letterS ll (numD z g v)))) ?_ ?_
  · rintro t' H' ⟨hH, hS', ht22', ht23'⟩
    subst hH
    clear ht1 ht3 ht9 ht10 ht17 ht18 ht19 ht20 ht21 ht22 hS
    have ht1 := (hS' 1 rfl).trans h1
    have ht3 := (hS' 3 rfl).trans h3
    have ht9 := (hS' 9 rfl).trans h9
    have ht10 := (hS' 10 rfl).trans h10
    have ht18 := (hS' 18 rfl).trans h18
    have ht20 := (hS' 20 rfl).trans h20
    have ht21 := (hS' 21 rfl).trans h21
    have hU := hu.trans hu1
    obtain ⟨Lb2, Loff2, Lcap2, Lc2, hv2, hLc2, hLcell2⟩ := (hL.up hU).at hli
    cases hv2
    have hsl : (if left = true then [45] else ([] : List Nat)).length < 1000 := by split <;> simp
    have hadd1 := add37 (P := Q) 9 (if left = true then [45] else []) hsl
    have hadd2 := bin_addS (P := Q) 9 (a := [37] ++ if left = true then [45] else []) (b := [48 + w / 10, 48 + w % 10]) (by simp; omega)
    have hadd3 := bin_addS (P := Q) 9 (a := ([37] ++ if left = true then [45] else []) ++ [48 + w / 10, 48 + w % 10]) (b := [ll]) (by simp; omega)
    have hq := quo_i w hw
    have hr := rem_i w
    have wq : IntKind.i64.wrap (48 + ((w / 10 : Nat) : Int)) = ((48 + w / 10 : Nat) : Int) := by rw [Go.Ev.w64 (by omega) (by omega)]; omega
    have wr : IntKind.i64.wrap (48 + ((w % 10 : Nat) : Int)) = ((48 + w % 10 : Nat) : Int) := by rw [Go.Ev.w64 (by omega) (by omega)]; omega
    have wq8 : IntKind.u8.wrap ((48 + w / 10 : Nat) : Int) = ((48 + w / 10 : Nat) : Int) := wrap8n rfl (by omega)
    have wr8 : IntKind.u8.wrap ((48 + w % 10 : Nat) : Int) = ((48 + w % 10 : Nat) : Int) := wrap8n rfl (by omega)
    have hcv := conv2 (H := H') (48 + w / 10) (48 + w % 10) (by omega) (by omega)
    have hLb : Lb < H'.next := ((hL.up hU).2 _ _ _ _ rfl (by intro e; cases e)).choose_spec.1
    have hLc3 : AH.cellsAt ⟨H'.t.put H'.next (some (.cells 5 [.int .u8 ((48 + w / 10 : Nat) : Int), .int .u8 ((48 + w % 10 : Nat) : Int)] 0 false false)), H'.next + 1⟩ Lb = some Lc2 := by
      rw [(Up.box H' _).cellsAt hLb]
      exact hLc2
    have hits := hi.up (hU.trans (Up.box H' (some (.cells 5 [.int .u8 ((48 + w / 10 : Nat) : Int), .int .u8 ((48 + w % 10 : Nat) : Int)] 0 false false))))
    iterate 1 (first | apply WF.seq | apply WF.regionL | apply WO.nil | apply WF.block | apply WF.skip | apply WF.endBlock | (apply WF.exit; (focus (exact rfl))) | (apply WO.op; (focus (simp only [rQ, wantedU, li, lo, reduceIte, Nat.reduceEqDiff, Nat.reduceAdd, beq_self_eq_true]; done)); (focus (simp only [rE, rQ, li, lo, storeU, AH.set, reduceIte, Nat.reduceEqDiff, Nat.reduceAdd, Nat.reduceMul]; exact rfl)); (focus (exact rfl))) | (apply WO.unwanted; (focus (simp only [rQ, wantedU, li, lo, reduceIte, Nat.reduceEqDiff, Nat.reduceAdd, beq_self_eq_true]; done)); (focus (exact rfl))))
    (apply WF.draws; (focus kernel_rfl); (focus kernel_rfl))
    (refine WF.settleL ?_; (iterate 19 (first | (apply WSL.pure; (focus kernel_rfl); (focus kernel_rfl); (focus ((simp only [rQ, wantedU, li, lo, reduceIte, Nat.reduceEqDiff, Nat.reduceAdd, beq_self_eq_true]; done))); (focus (simp only [rE, rQ, li, lo, storeU, AH.set, reduceIte, Nat.reduceEqDiff, Nat.reduceAdd, Nat.reduceMul, len_str, bts0, und74, index_SL und74 sz9 hi4', loadVar_one agg9, ht10, ht18, ht20, ht21, ht22', hLc3, hLcell2, cell_str, hadd1, hadd2, hadd3, hq, hr, gOk_quo, gOk_rem, wq, wr, wq8, wr8, convU, und3, und5, bs35_2, mkB82_int, hcv]; exact rfl)); (focus (exact rfl))) | (apply WSL.load; (focus kernel_rfl); (focus kernel_rfl); (focus ((simp only [rQ, wantedU, li, lo, reduceIte, Nat.reduceEqDiff, Nat.reduceAdd, beq_self_eq_true]; done))); (focus (simp only [rE, rQ, li, lo, storeU, AH.set, reduceIte, Nat.reduceEqDiff, Nat.reduceAdd, Nat.reduceMul, len_str, bts0, und74, index_SL und74 sz9 hi4', loadVar_one agg9, ht10, ht18, ht20, ht21, ht22', hLc3, hLcell2, cell_str, hadd1, hadd2, hadd3, hq, hr, gOk_quo, gOk_rem, wq, wr, wq8, wr8, convU, und3, und5, bs35_2, mkB82_int, hcv]; exact rfl)); (focus (exact rfl))) | (apply WSL.new; (focus kernel_rfl); (focus kernel_rfl); (focus ((simp only [rQ, wantedU, li, lo, reduceIte, Nat.reduceEqDiff, Nat.reduceAdd, beq_self_eq_true]; done))); (focus (simp only [rE, rQ, li, lo, storeU, AH.set, reduceIte, Nat.reduceEqDiff, Nat.reduceAdd, Nat.reduceMul, len_str, bts0, und74, index_SL und74 sz9 hi4', loadVar_one agg9, ht10, ht18, ht20, ht21, ht22', hLc3, hLcell2, cell_str, hadd1, hadd2, hadd3, hq, hr, gOk_quo, gOk_rem, wq, wr, wq8, wr8, convU, und3, und5, bs35_2, mkB82_int, hcv]; exact rfl)); (focus (simp only [rE, rQ, li, lo, storeU, AH.set, reduceIte, Nat.reduceEqDiff, Nat.reduceAdd, Nat.reduceMul, len_str, bts0, und74, index_SL und74 sz9 hi4', loadVar_one agg9, ht10, ht18, ht20, ht21, ht22', hLc3, hLcell2, cell_str, hadd1, hadd2, hadd3, hq, hr, gOk_quo, gOk_rem, wq, wr, wq8, wr8, convU, und3, und5, bs35_2, mkB82_int, hcv]; exact rfl)); (focus (exact rfl))))); (iterate 6 (apply WSL.later; (focus kernel_rfl))); refine WSL.nil ?_)
    (apply After.call (e := 19); (focus kernel_rfl); (focus (simp only [List.getElem?_toArray, List.getElem?_cons_succ, List.getElem?_cons_zero]; exact rfl)); (focus (simp only [rQ, wantedU, li, lo, reduceIte, Nat.reduceEqDiff, Nat.reduceAdd, beq_self_eq_true]; done)); (focus (simp only [rE, rQ, li, lo, storeU, AH.set, reduceIte, Nat.reduceEqDiff, Nat.reduceAdd, Nat.reduceMul, cu11]; exact rfl)); (focus (exact fnum_w _ iv _ hits hin left w ll hw hlet hl8 hfl)); rintro _ H2 ⟨rfl, hu2⟩; refine ⟨_, rfl, ?_, ?_⟩; (focus exact recheck_static (by kernel_rfl)))
    (refine WF.settleL ?_; (iterate 20 (apply WSL.later; (focus kernel_rfl))); (iterate 3 (apply WSL.pure; (focus kernel_rfl); (focus kernel_rfl); (focus ((simp only [rQ, wantedU, li, lo, reduceIte, Nat.reduceEqDiff, Nat.reduceAdd, beq_self_eq_true]; done))); (focus (simp only [rE, rQ, li, lo, storeU, AH.set, reduceIte, Nat.reduceEqDiff, Nat.reduceAdd, Nat.reduceMul]; exact rfl)); (focus (exact rfl)))); (iterate 2 (apply WSL.later; (focus kernel_rfl))); refine WSL.nil ?_)
    (apply After.eff (e := 23); (focus kernel_rfl); (focus (simp only [List.getElem?_toArray, List.getElem?_cons_succ, List.getElem?_cons_zero]; exact rfl)); (focus (simp only [rQ, wantedU, li, lo, reduceIte, Nat.reduceEqDiff, Nat.reduceAdd, beq_self_eq_true]; done)); (focus (simp only [rE, rQ, li, lo, storeU, AH.set, reduceIte, Nat.reduceEqDiff, Nat.reduceAdd, Nat.reduceMul]; exact rfl)); (focus (exact rfl)); (focus exact recheck_static (by kernel_rfl)))
    (refine WF.settleL ?_; (iterate 25 (apply WSL.later; (focus kernel_rfl))); refine WSL.nil ?_)
    (apply After.eff (e := 24); (focus kernel_rfl); (focus (simp only [List.getElem?_toArray, List.getElem?_cons_succ, List.getElem?_cons_zero]; exact rfl)); (focus (simp only [rQ, wantedU, li, lo, reduceIte, Nat.reduceEqDiff, Nat.reduceAdd, beq_self_eq_true]; done)); (focus (simp only [rE, rQ, li, lo, storeU, AH.set, reduceIte, Nat.reduceEqDiff, Nat.reduceAdd, Nat.reduceMul]; exact rfl)); (focus (exact rfl)); (focus exact recheck_static (by kernel_rfl)))
    (refine WF.settleL ?_; (iterate 25 (apply WSL.later; (focus kernel_rfl))); refine WSL.nil ?_)
    (apply After.all; (focus kernel_rfl); (focus kernel_rfl))
    have hU2 : Up H0 H2 := (hU.trans (Up.box _ _)).trans hu2
    have q5 : decide (((pad left w (letterS ll (numD z g v))).length : Int) = if (w : Int) < ((letterS ll (numD z g v)).length : Int) then ((letterS ll (numD z g v)).length : Int) else (w : Int)) = true := by
      rw [pad_max]
      split <;> simp <;> omega
    have hto := slS_to (s := pad left w (letterS ll (numD z g v))) (n := (letterS ll (numD z g v)).length) (by rw [pad_max]; omega)
    repeat (first | apply WF.seq | apply WF.regionL | apply WO.nil | apply WF.block | apply WF.skip | apply WF.endBlock | (apply WF.exit; (focus (exact rfl))) | (apply WO.op; (focus (simp only [rQ, wantedU, li, lo, reduceIte, Nat.reduceEqDiff, Nat.reduceAdd, beq_self_eq_true, d0, q5]; done)); (focus (simp only [rE, rQ, li, lo, storeU, AH.set, reduceIte, Nat.reduceEqDiff, Nat.reduceAdd, Nat.reduceMul, len_str, ht20, ht23', d0, q5, mx2]; exact rfl)); (focus (exact rfl))) | (apply WO.unwanted; (focus (simp only [rQ, wantedU, li, lo, reduceIte, Nat.reduceEqDiff, Nat.reduceAdd, beq_self_eq_true, d0, q5]; done)); (focus (exact rfl))))
    (apply WO.call; (focus (simp only [rQ, wantedU, li, lo, reduceIte, Nat.reduceEqDiff, Nat.reduceAdd, beq_self_eq_true, d0, q5]; done)); (focus (simp only [rE, rQ, li, lo, storeU, AH.set, reduceIte, Nat.reduceEqDiff, Nat.reduceAdd, Nat.reduceMul, len_str, ht20, ht23', d0, q5, cu26]; exact rfl)); (focus (exact unsp_c H2 left w _ hw (by omega) hPsp)); rintro _ H2 ⟨rfl, rfl⟩; refine ⟨_, rfl, ?_⟩)
    by_cases hgt : (letterS ll (numD z g v)).length < w
    · have p1 : decide (((letterS ll (numD z g v)).length : Int) < ((pad left w (letterS ll (numD z g v))).length : Int)) = true := decide_eq_true (by rw [pad_max]; omega)
      have hpt : ((pad left w (letterS ll (numD z g v))).take (letterS ll (numD z g v)).length == letterS ll (numD z g v)) = left := pad_take left hgt hPne hPsp
      repeat (first | apply WF.seq | apply WF.regionL | apply WO.nil | apply WF.block | apply WF.skip | apply WF.endBlock | (apply WF.exit; (focus (exact rfl))) | (apply WO.op; (focus (simp only [rQ, wantedU, li, lo, reduceIte, Nat.reduceEqDiff, Nat.reduceAdd, beq_self_eq_true, d0, q5, p1]; done)); (focus (simp only [rE, rQ, li, lo, storeU, AH.set, reduceIte, Nat.reduceEqDiff, Nat.reduceAdd, Nat.reduceMul, len_str, ht3, ht20, ht23', d0, q5, slU9, hto, hpt, p1, bin_eqS, gOk_eqS, bin_neS, gOk_neS, bin_neqB und4, beq_self_eq_true]; exact rfl)); (focus (exact rfl))) | (apply WO.unwanted; (focus (simp only [rQ, wantedU, li, lo, reduceIte, Nat.reduceEqDiff, Nat.reduceAdd, beq_self_eq_true, d0, q5, p1]; done)); (focus (exact rfl))))
      (first | (apply WF.condT; (focus (simp only [evalO, ofConst, Tri.gp, lay, Bool.not_true, Bool.not_false, reduceIte, Nat.reduceEqDiff]; done))) | (apply WF.condF; (focus (simp only [evalO, ofConst, Tri.gp, lay, Bool.not_true, Bool.not_false, reduceIte, Nat.reduceEqDiff]; done))))
      repeat (first | apply WF.seq | apply WF.regionL | apply WO.nil | apply WF.block | apply WF.skip | apply WF.endBlock | (apply WF.exit; (focus (exact rfl))) | (apply WO.op; (focus (simp only [rQ, wantedU, li, lo, reduceIte, Nat.reduceEqDiff, Nat.reduceAdd, beq_self_eq_true]; done)); (focus (simp only [rE, rQ, li, lo, storeU, AH.set, reduceIte, Nat.reduceEqDiff, Nat.reduceAdd, Nat.reduceMul, ht22', wi]; exact rfl)); (focus (exact rfl))) | (apply WO.unwanted; (focus (simp only [rQ, wantedU, li, lo, reduceIte, Nat.reduceEqDiff, Nat.reduceAdd, beq_self_eq_true]; done)); (focus (exact rfl))))
      refine WF.again ?_
      refine ih (m - 1) _ _ (by omega) ⟨i + 1, hU2, by omega, ?_, ?_⟩
      · (repeat (refine Kp.put ?_ _ rfl)); exact hS'
      · simp [Tri.gp]
    · have p1 : decide (((letterS ll (numD z g v)).length : Int) < ((pad left w (letterS ll (numD z g v))).length : Int)) = false := decide_eq_false (by rw [pad_max]; omega)
      repeat (first | apply WF.seq | apply WF.regionL | apply WO.nil | apply WF.block | apply WF.skip | apply WF.endBlock | (apply WF.exit; (focus (exact rfl))) | (apply WO.op; (focus (simp only [rQ, wantedU, li, lo, reduceIte, Nat.reduceEqDiff, Nat.reduceAdd, beq_self_eq_true, d0, q5, p1]; done)); (focus (simp only [rE, rQ, li, lo, storeU, AH.set, reduceIte, Nat.reduceEqDiff, Nat.reduceAdd, Nat.reduceMul, len_str, ht3, ht20, ht23', d0, q5, p1, bin_eqS, gOk_eqS, bin_neS, gOk_neS, beq_self_eq_true]; exact rfl)); (focus (exact rfl))) | (apply WO.unwanted; (focus (simp only [rQ, wantedU, li, lo, reduceIte, Nat.reduceEqDiff, Nat.reduceAdd, beq_self_eq_true, d0, q5, p1]; done)); (focus (exact rfl))))
      (first | (apply WF.condT; (focus (simp only [evalO, ofConst, Tri.gp, lay, Bool.not_true, Bool.not_false, reduceIte, Nat.reduceEqDiff]; done))) | (apply WF.condF; (focus (simp only [evalO, ofConst, Tri.gp, lay, Bool.not_true, Bool.not_false, reduceIte, Nat.reduceEqDiff]; done))))
      repeat (first | apply WF.seq | apply WF.regionL | apply WO.nil | apply WF.block | apply WF.skip | apply WF.endBlock | (apply WF.exit; (focus (exact rfl))) | (apply WO.op; (focus (simp only [rQ, wantedU, li, lo, reduceIte, Nat.reduceEqDiff, Nat.reduceAdd, beq_self_eq_true]; done)); (focus (simp only [rE, rQ, li, lo, storeU, AH.set, reduceIte, Nat.reduceEqDiff, Nat.reduceAdd, Nat.reduceMul, ht22', wi]; exact rfl)); (focus (exact rfl))) | (apply WO.unwanted; (focus (simp only [rQ, wantedU, li, lo, reduceIte, Nat.reduceEqDiff, Nat.reduceAdd, beq_self_eq_true]; done)); (focus (exact rfl))))
      refine WF.again ?_
      refine ih (m - 1) _ _ (by omega) ⟨i + 1, hU2, by omega, ?_, ?_⟩
      · (repeat (refine Kp.put ?_ _ rfl)); exact hS'
      · simp [Tri.gp]
  intro tail
  rcases hcase with ⟨hi3, b, hbi, hb2, hb16, hP⟩ | ⟨hi3, hP⟩
  rotate_left
  · have g3 : decide ((i : Int) < 3) = false := decide_eq_false (by omega)
    repeat (first | apply WF.seq | apply WF.regionL | apply WO.nil | apply WF.block | apply WF.skip | apply WF.endBlock | (apply WF.exit; (focus (exact rfl))) | (apply WO.op; (focus (simp only [rQ, wantedU, li, lo, reduceIte, Nat.reduceEqDiff, Nat.reduceAdd, beq_self_eq_true, g3]; done)); (focus (simp only [rE, rQ, li, lo, storeU, AH.set, reduceIte, Nat.reduceEqDiff, Nat.reduceAdd, Nat.reduceMul, ht22, g3]; exact rfl)); (focus (exact rfl))) | (apply WO.unwanted; (focus (simp only [rQ, wantedU, li, lo, reduceIte, Nat.reduceEqDiff, Nat.reduceAdd, beq_self_eq_true, g3]; done)); (focus (exact rfl))))
    (first | (apply WF.condT; (focus (simp only [evalO, ofConst, Tri.gp, lay, Bool.not_true, Bool.not_false, reduceIte, Nat.reduceEqDiff, g3]; done))) | (apply WF.condF; (focus (simp only [evalO, ofConst, Tri.gp, lay, Bool.not_true, Bool.not_false, reduceIte, Nat.reduceEqDiff, g3]; done))))
    refine WF.skip ?_
    refine tail _ _ ⟨rfl, ?_, ?_, ?_⟩
    · (repeat (refine Kp.put ?_ _ rfl)); exact hS
    · simp [Tri.gp, ht22]
    · simp [Tri.gp]
  have g3 : decide ((i : Int) < 3) = true := decide_eq_true (by omega)
  rw [hP] at tail ⊢
  obtain ⟨Bb, Boff, Bcap, Bc, hvB, hBc, hBcell⟩ := ((hB.up hu).up hu1).at hbi
  subst hvB
  have hi3' : i < bas3.length := hi3
  repeat (first | apply WF.seq | apply WF.regionL | apply WO.nil | apply WF.block | apply WF.skip | apply WF.endBlock | (apply WF.exit; (focus (exact rfl))) | (apply WO.op; (focus (simp only [rQ, wantedU, li, lo, reduceIte, Nat.reduceEqDiff, Nat.reduceAdd, beq_self_eq_true, g3]; done)); (focus (simp only [rE, rQ, li, lo, storeU, AH.set, reduceIte, Nat.reduceEqDiff, Nat.reduceAdd, Nat.reduceMul, ht22, g3]; exact rfl)); (focus (exact rfl))) | (apply WO.unwanted; (focus (simp only [rQ, wantedU, li, lo, reduceIte, Nat.reduceEqDiff, Nat.reduceAdd, beq_self_eq_true, g3]; done)); (focus (exact rfl))))
  (first | (apply WF.condT; (focus (simp only [evalO, ofConst, Tri.gp, lay, Bool.not_true, Bool.not_false, reduceIte, Nat.reduceEqDiff, g3]; done))) | (apply WF.condF; (focus (simp only [evalO, ofConst, Tri.gp, lay, Bool.not_true, Bool.not_false, reduceIte, Nat.reduceEqDiff, g3]; done))))
  repeat (first | apply WF.seq | apply WF.regionL | apply WO.nil | apply WF.block | apply WF.skip | apply WF.endBlock | (apply WF.exit; (focus (exact rfl))) | (apply WO.op; (focus (simp only [rQ, wantedU, li, lo, reduceIte, Nat.reduceEqDiff, Nat.reduceAdd, beq_self_eq_true, d0]; done)); (focus (simp only [rE, rQ, li, lo, storeU, AH.set, reduceIte, Nat.reduceEqDiff, Nat.reduceAdd, Nat.reduceMul, len_str, slU9, bts0, cu11, cu25, cu26, und74, und75, index_SL und74 sz9 hi4', loadVar_one agg9, loadVar_one agg71, ht1, ht3, ht9, ht10, ht17, ht18, ht19, ht20, ht21, ht22, hLc, hLcell, cell_str, d0, index_SL und75 sz71 hi3', hBc, hBcell]; exact rfl)); (focus (exact rfl))) | (apply WO.unwanted; (focus (simp only [rQ, wantedU, li, lo, reduceIte, Nat.reduceEqDiff, Nat.reduceAdd, beq_self_eq_true, d0]; done)); (focus (exact rfl))))
  (apply WO.call; (focus (simp only [rQ, wantedU, li, lo, reduceIte, Nat.reduceEqDiff, Nat.reduceAdd, beq_self_eq_true, d0]; done)); (focus (simp only [rE, rQ, li, lo, storeU, AH.set, reduceIte, Nat.reduceEqDiff, Nat.reduceAdd, Nat.reduceMul, len_str, slU9, bts0, cu11, cu25, cu26, und74, und75, index_SL und74 sz9 hi4', loadVar_one agg9, loadVar_one agg71, ht1, ht3, ht9, ht10, ht17, ht18, ht19, ht20, ht21, ht22, hLc, hLcell, cell_str, d0]; exact rfl)); (focus (exact value_c H1 b (pat (numD z g v)) hb2 hb16 hpl)); rintro _ H1 ⟨rfl, rfl⟩; refine ⟨_, rfl, ?_⟩)
  have wv : IntKind.u64.wrap v = ((u64N v : Nat) : Int) := (u64N_cast v).symm
  have d0' : decide ((0 : Int) = 0) = true := rfl
  by_cases hs : s < 64
  · obtain ⟨hp, hshl⟩ := hb.lt hs
    have q1 : decide ((s : Int) < 64) = true := decide_eq_true (by omega)
    have q2 : decide ((64 : Int) ≤ (s : Int)) = false := decide_eq_false (by omega)
    have q4 : decide (((pat (numD z g v) : Nat) : Int) = ((u64N v % 2 ^ s : Nat) : Int)) = true := by rw [hp]; simp
    have hz0 : pat (numD z g v) / 2 ^ s = 0 := by rw [hp]; exact Nat.div_eq_of_lt (Nat.mod_lt _ (Nat.two_pow_pos s))
    have hshr : binU Q .shr 71 (.int .u64 ((pat (numD z g v) : Nat) : Int)) (.int .i64 (s : Int)) = some (.int .u64 0) := by
      rw [shr_i _ s hs, hz0]
      rfl
    have h2 : 2 ^ s ≤ 2 ^ 63 := Nat.pow_le_pow_right (by omega) (by omega)
    have h2' : 0 < 2 ^ s := Nat.two_pow_pos s
    have wsub : IntKind.u64.wrap (((2 ^ s : Nat) : Int) - 1) = ((2 ^ s - 1 : Nat) : Int) := wrap64n (by omega) (by generalize 2 ^ s = m at *; omega)
    have hand := and_mask (u64N v) s (u64N_lt v) hs
    repeat (first | apply WF.seq | apply WF.regionL | apply WO.nil | apply WF.block | apply WF.skip | apply WF.endBlock | (apply WF.exit; (focus (exact rfl))) | (apply WO.op; (focus (simp only [rQ, wantedU, li, lo, reduceIte, Nat.reduceEqDiff, Nat.reduceAdd, beq_self_eq_true, q1, q2, q4, d0]; done)); (focus (simp only [rE, rQ, li, lo, storeU, AH.set, reduceIte, Nat.reduceEqDiff, Nat.reduceAdd, Nat.reduceMul, ht1, ht17, q1, q2, q4, d0, hshr, hshl, wv, wsub, hand, bin_and, gOk_and, gOk_shl, gOk_shr, convU, und2, und71]; exact rfl)); (focus (exact rfl))) | (apply WO.unwanted; (focus (simp only [rQ, wantedU, li, lo, reduceIte, Nat.reduceEqDiff, Nat.reduceAdd, beq_self_eq_true, q1, q2, q4, d0]; done)); (focus (exact rfl))))
    (first | (apply WF.condT; (focus (simp only [evalO, ofConst, Tri.gp, lay, Bool.not_true, Bool.not_false, reduceIte, Nat.reduceEqDiff]; done))) | (apply WF.condF; (focus (simp only [evalO, ofConst, Tri.gp, lay, Bool.not_true, Bool.not_false, reduceIte, Nat.reduceEqDiff]; done))))
    refine WF.skip ?_
    refine tail _ _ ⟨rfl, ?_, ?_, ?_⟩
    · (repeat (refine Kp.put ?_ _ rfl)); exact hS
    · simp [Tri.gp, ht22]
    · simp [Tri.gp]
  · have hs64 : s = 64 := by have := hb.le; omega
    have hp := hb.eq hs64
    have q1 : decide ((s : Int) < 64) = false := decide_eq_false (by omega)
    have q2 : decide ((64 : Int) ≤ (s : Int)) = true := decide_eq_true (by omega)
    have q4 : decide (((pat (numD z g v) : Nat) : Int) = ((u64N v : Nat) : Int)) = true := by rw [hp]; simp
    repeat (first | apply WF.seq | apply WF.regionL | apply WO.nil | apply WF.block | apply WF.skip | apply WF.endBlock | (apply WF.exit; (focus (exact rfl))) | (apply WO.op; (focus (simp only [rQ, wantedU, li, lo, reduceIte, Nat.reduceEqDiff, Nat.reduceAdd, beq_self_eq_true, q1, q2, q4, d0]; done)); (focus (simp only [rE, rQ, li, lo, storeU, AH.set, reduceIte, Nat.reduceEqDiff, Nat.reduceAdd, Nat.reduceMul, ht1, ht17, q1, q2, q4, d0, wv, convU, und2, und71]; exact rfl)); (focus (exact rfl))) | (apply WO.unwanted; (focus (simp only [rQ, wantedU, li, lo, reduceIte, Nat.reduceEqDiff, Nat.reduceAdd, beq_self_eq_true, q1, q2, q4, d0]; done)); (focus (exact rfl))))
    (first | (apply WF.condT; (focus (simp only [evalO, ofConst, Tri.gp, lay, Bool.not_true, Bool.not_false, reduceIte, Nat.reduceEqDiff]; done))) | (apply WF.condF; (focus (simp only [evalO, ofConst, Tri.gp, lay, Bool.not_true, Bool.not_false, reduceIte, Nat.reduceEqDiff]; done))))
    refine WF.skip ?_
    refine tail _ _ ⟨rfl, ?_, ?_, ?_⟩
    · (repeat (refine Kp.put ?_ _ rfl)); exact hS
    · simp [Tri.gp, ht22]
    · simp [Tri.gp]
end Go.Ev.C
end
section
set_option linter.unusedVariables false
set_option linter.unusedSimpArgs false
set_option linter.defProp false
set_option linter.all false
namespace Go.Ev.C
open Go.Proofs Go.Fmt Go.RowKit
set_option maxRecDepth 100000
set_option linter.unusedSimpArgs false
theorem cut2 (z : Int) (g : Bool) : cut [.int .i64 z, .bool g] 0 2 = some [.int .i64 z, .bool g] := rfl
theorem num_bits {z v : Int} {g : Bool} (hv0 : -9223372036854775808 ≤ v) (hf : fitsB (numD z g v) 100 = true) : ∃ s : Nat, 8 * z = (s : Int) ∧ Bits z v g s := by
  have h := fit_sz hf rfl
  have hz : z = 1 ∨ z = 2 ∨ z = 4 ∨ z = 8 := by
    have h' : (kindOf z g).isSome = true := h
    unfold kindOf at h'
    by_cases h1 : z = 1
    · exact .inl h1
    by_cases h2 : z = 2
    · exact .inr (.inl h2)
    by_cases h3 : z = 4
    · exact .inr (.inr (.inl h3))
    by_cases h4 : z = 8
    · exact .inr (.inr (.inr h4))
    simp [h1, h2, h3, h4] at h'
  rcases hz with rfl | rfl | rfl | rfl
  · exact ⟨8, rfl, by omega, fun _ => ⟨rfl, shl8⟩, fun h => by omega, by omega⟩
  · exact ⟨16, rfl, by omega, fun _ => ⟨rfl, shl16⟩, fun h => by omega, by omega⟩
  · exact ⟨32, rfl, by omega, fun _ => ⟨rfl, shl32⟩, fun h => by omega, by omega⟩
  · exact ⟨64, rfl, by omega, fun h => by omega, fun _ => rfl, by omega⟩
set_option maxHeartbeats 8000000 in
theorem mid7_w (H0 : AH) (z v : Int) (g left : Bool) (wd b4 : Nat) (iv : AV) (t0 : Tri AV) (hin : ItIn (numD z g v) .nilslice) (hf : fitsB (numD z g v) 100 = true) (hwd : wd < 256)
    (hi : ItemsAt H0 iv [(numD z g v, .nilslice)]) (hc4 : H0.cellsAt b4 = some [.int .i64 z, .bool g])
    (ht1 : t0.get 1 = some (.int .i64 v)) (ht2 : t0.get 2 = some (.int .u8 (wd : Int))) (ht3 : t0.get 3 = some (.bool left)) (ht4 : t0.get 4 = some (.ptr b4 0)) (ht9 : t0.get 9 = some (.bool true)) (ht10 : t0.get 10 = some iv) :
    WF Q Laid2 (PF 7 208 t0 [.code (sub [1, 1, 1, 1, 1, 1, 1, 1, 1, 1, 1] c7)]) H0 (Ret Q 7 fun v _ => v = .bool true) := by
  obtain ⟨s, hs, hb⟩ := num_bits hin.lo hf
  have hsl := hb.le
  have h8z : IntKind.i64.wrap (8 * z) = (s : Int) := by rw [hs, Go.Ev.w64 (by omega) (by omega)]
  have w100 : IntKind.i64.wrap ((wd % 100 : Nat) : Int) = ((wd % 100 : Nat) : Int) := Go.Ev.w64 (by omega) (by omega)
  have uL : Up H0 ⟨H0.t.put H0.next (some (.cells 9 (strL let4) 0 false false)), H0.next + 1⟩ := Up.box _ _
  have uB : Up ⟨H0.t.put H0.next (some (.cells 9 (strL let4) 0 false false)), H0.next + 1⟩ ⟨(H0.t.put H0.next (some (.cells 9 (strL let4) 0 false false))).put (H0.next + 1) (some (.cells 71 (bas3.map fun n : Nat => AV.int .u64 (n : Int)) 0 false false)), H0.next + 1 + 1⟩ := Up.box _ _
  have hL : StrsAt ⟨H0.t.put H0.next (some (.cells 9 (strL let4) 0 false false)), H0.next + 1⟩ (.slice H0.next 0 4 (.is 4)) let4 := by
    refine ⟨.sl _ _ _ _, fun b off n cap e _ => ?_⟩
    cases e
    refine ⟨strL let4, Nat.lt_succ_self _, by rw [cellsAt_put, if_pos rfl], fun i q hq => ?_⟩
    unfold strL
    rw [Nat.zero_add, Nat.mul_one, List.getElem?_map, hq]
    rfl
  have hB : U64At ⟨(H0.t.put H0.next (some (.cells 9 (strL let4) 0 false false))).put (H0.next + 1) (some (.cells 71 (bas3.map fun n : Nat => AV.int .u64 (n : Int)) 0 false false)), H0.next + 1 + 1⟩ (.slice (H0.next + 1) 0 3 (.is 3)) bas3 := by
    refine ⟨.sl _ _ _ _, fun b off n cap e _ => ?_⟩
    cases e
    refine ⟨bas3.map fun n : Nat => AV.int .u64 (n : Int), Nat.lt_succ_self _, by rw [cellsAt_put, if_pos rfl], fun i q hq => ?_⟩
    rw [Nat.zero_add, Nat.mul_one, List.getElem?_map, hq]
    rfl
  have key : ∀ t, t.get 1 = some (.int .i64 v) → t.get 3 = some (.bool left) → t.get 9 = some (.bool true) → t.get 10 = some iv → t.get 17 = some (.int .i64 (s : Int)) → t.get 18 = some (.slice H0.next 0 4 (.is 4)) → t.get 19 = some (.slice (H0.next + 1) 0 3 (.is 3)) → t.get 20 = some (.int .i64 ((wd % 100 : Nat) : Int)) → t.get 21 = some (.str (if left then [45] else [])) →
      WF Q Laid2 (PF 7 208 t [.code (sub [1, 1, 1, 1, 1, 1, 1, 1, 1, 1, 1, 1, 1, 1, 1, 1, 1] c7)]) ⟨(H0.t.put H0.next (some (.cells 9 (strL let4) 0 false false))).put (H0.next + 1) (some (.cells 71 (bas3.map fun n : Nat => AV.int .u64 (n : Int)) 0 false false)), H0.next + 1 + 1⟩ (Ret Q 7 fun v _ => v = .bool true) := fun t k1 k3 k9 k10 k17 k18 k19 k20 k21 =>
    loop7_w _ z v g left (wd % 100) s iv _ _ t hin hf hb (by omega) (hi.up (uL.trans uB)) (hL.up uB) hB k1 k3 k9 k10 k17 k18 k19 k20 k21
  revert key
  unfold c7 Tryz.f7
  simp only [Option.getD_some, sub]
  intro key
  cases left
  · repeat (first | apply WF.seq | apply WF.regionL | apply WO.nil | apply WF.block | apply WF.skip | apply WF.endBlock | (apply WF.exit; (focus (exact rfl))) | (apply WO.op; (focus (simp only [rQ, wantedU, li, lo, reduceIte, Nat.reduceEqDiff, Nat.reduceAdd, beq_self_eq_true]; done)); (focus (simp only [rE, rQ, li, lo, storeU, AH.set, reduceIte, Nat.reduceEqDiff, Nat.reduceAdd, Nat.reduceMul, len_str, fa64_0, loadVar_one agg3, ht1, ht2, ht3, ht4, ht9, ht10, hc4, bs74c4, bs75c3, h8z, rem_8, gOk_rem, convU, und5, und3, w100, bts0]; exact rfl)); (focus (exact rfl))) | (apply WO.unwanted; (focus (simp only [rQ, wantedU, li, lo, reduceIte, Nat.reduceEqDiff, Nat.reduceAdd, beq_self_eq_true]; done)); (focus (exact rfl))))
    (first | (apply WF.condT; (focus (simp only [evalO, ofConst, Tri.gp, lay, Bool.not_true, Bool.not_false, reduceIte, Nat.reduceEqDiff, ht3]; done))) | (apply WF.condF; (focus (simp only [evalO, ofConst, Tri.gp, lay, Bool.not_true, Bool.not_false, reduceIte, Nat.reduceEqDiff, ht3]; done))))
    iterate 1 (first | apply WF.seq | apply WF.regionL | apply WO.nil | apply WF.block | apply WF.skip | apply WF.endBlock | (apply WF.exit; (focus (exact rfl))) | (apply WO.op; (focus (simp only [rQ, wantedU, li, lo, reduceIte, Nat.reduceEqDiff, Nat.reduceAdd, beq_self_eq_true]; done)); (focus (simp only [rE, rQ, li, lo, storeU, AH.set, reduceIte, Nat.reduceEqDiff, Nat.reduceAdd, Nat.reduceMul]; exact rfl)); (focus (exact rfl))) | (apply WO.unwanted; (focus (simp only [rQ, wantedU, li, lo, reduceIte, Nat.reduceEqDiff, Nat.reduceAdd, beq_self_eq_true]; done)); (focus (exact rfl))))
    refine key _ ?_ ?_ ?_ ?_ ?_ ?_ ?_ ?_ ?_
    all_goals (first | (simp [Tri.gp, ht1, ht3, ht9, ht10]; done) | (simp [Tri.gp]; rfl))
  · repeat (first | apply WF.seq | apply WF.regionL | apply WO.nil | apply WF.block | apply WF.skip | apply WF.endBlock | (apply WF.exit; (focus (exact rfl))) | (apply WO.op; (focus (simp only [rQ, wantedU, li, lo, reduceIte, Nat.reduceEqDiff, Nat.reduceAdd, beq_self_eq_true]; done)); (focus (simp only [rE, rQ, li, lo, storeU, AH.set, reduceIte, Nat.reduceEqDiff, Nat.reduceAdd, Nat.reduceMul, len_str, fa64_0, loadVar_one agg3, ht1, ht2, ht3, ht4, ht9, ht10, hc4, bs74c4, bs75c3, h8z, rem_8, gOk_rem, convU, und5, und3, w100, bts0]; exact rfl)); (focus (exact rfl))) | (apply WO.unwanted; (focus (simp only [rQ, wantedU, li, lo, reduceIte, Nat.reduceEqDiff, Nat.reduceAdd, beq_self_eq_true]; done)); (focus (exact rfl))))
    (first | (apply WF.condT; (focus (simp only [evalO, ofConst, Tri.gp, lay, Bool.not_true, Bool.not_false, reduceIte, Nat.reduceEqDiff, ht3]; done))) | (apply WF.condF; (focus (simp only [evalO, ofConst, Tri.gp, lay, Bool.not_true, Bool.not_false, reduceIte, Nat.reduceEqDiff, ht3]; done))))
    iterate 3 (first | apply WF.seq | apply WF.regionL | apply WO.nil | apply WF.block | apply WF.skip | apply WF.endBlock | (apply WF.exit; (focus (exact rfl))) | (apply WO.op; (focus (simp only [rQ, wantedU, li, lo, reduceIte, Nat.reduceEqDiff, Nat.reduceAdd, beq_self_eq_true]; done)); (focus (simp only [rE, rQ, li, lo, storeU, AH.set, reduceIte, Nat.reduceEqDiff, Nat.reduceAdd, Nat.reduceMul, bts0]; exact rfl)); (focus (exact rfl))) | (apply WO.unwanted; (focus (simp only [rQ, wantedU, li, lo, reduceIte, Nat.reduceEqDiff, Nat.reduceAdd, beq_self_eq_true]; done)); (focus (exact rfl))))
    refine key _ ?_ ?_ ?_ ?_ ?_ ?_ ?_ ?_ ?_
    all_goals (first | (simp [Tri.gp, ht1, ht3, ht9, ht10]; done) | (simp [Tri.gp]; rfl))
end Go.Ev.C
end
section
set_option linter.unusedVariables false
set_option linter.unusedSimpArgs false
set_option linter.defProp false
set_option linter.all false
namespace Go.Ev.C
open Go.Proofs Go.Fmt Go.RowKit
set_option maxRecDepth 100000
set_option linter.unusedSimpArgs false
theorem neg_wrap {v : Int} (h0 : -9223372036854775808 ≤ v) (h : v < 0) : IntKind.i64.wrap (IntKind.u64.wrap (0 - (v.natAbs : Int))) = v := by
  have e1 : (0 - (v.natAbs : Int)) = v := by omega
  rw [wrap_u64, e1]
  have e2 : v % 18446744073709551616 = v + 18446744073709551616 := by omega
  rw [e2]
  unfold IntKind.wrap
  simp only [IntKind.bits, IntKind.signed, Bool.true_and]
  split
  · rename_i hh
    have := of_decide_eq_true hh
    omega
  · rename_i hh
    have : ¬ ((v + 18446744073709551616) % 2 ^ 64 ≥ 2 ^ (64 - 1)) := fun hc => hh (decide_eq_true hc)
    omega
theorem pad_dec (z v : Int) (g : Bool) : letterS 100 (numD z g v) = dec v := rfl
set_option maxHeartbeats 8000000 in
theorem numbers_w (H : AH) (z : Int) (g : Bool) (v : Int) (wd : Nat) (left : Bool) (hv0 : -9223372036854775808 ≤ v) (hv1 : v ≤ 9223372036854775807) (hwd : wd < 256) :
    WF Q Laid2 (PF 7 208 (lay 0 [.agg [.int .i64 z, .bool g], .int .i64 v, .int .u8 (wd : Int), .bool left] .leaf) [.code c7]) H (Ret Q 7 fun v _ => v = .bool true) := by
  have hin : ItIn (numD z g v) .nilslice := ⟨rfl, rfl, hv0, hv1, by simp [numD], by simp [numD]⟩
  have n01 : (H.next = H.next + 1) = False := eq_false (by omega)
  have n10 : (H.next + 1 = H.next) = False := eq_false (by omega)
  have d0 : decide ((0 : Int) = 0) = true := rfl
  have d1 : decide ((1 : Int) = 0) = false := rfl
  have d2 : decide ((1 : Int) = 1) = true := rfl
  have mid : ∀ (H0 : AH) (b4 : Nat) (iv : AV) (t0 : Tri AV), fitsB (numD z g v) 100 = true → ItemsAt H0 iv [(numD z g v, .nilslice)] → H0.cellsAt b4 = some [.int .i64 z, .bool g] → t0.get 1 = some (.int .i64 v) → t0.get 2 = some (.int .u8 (wd : Int)) → t0.get 3 = some (.bool left) → t0.get 4 = some (.ptr b4 0) → t0.get 9 = some (.bool true) → t0.get 10 = some iv → WF Q Laid2 (PF 7 208 t0 [.code (sub [1, 1, 1, 1, 1, 1, 1, 1, 1, 1, 1] c7)]) H0 (Ret Q 7 fun v _ => v = .bool true) :=
    fun H0 b4 iv t0 hf hi hc k1 k2 k3 k4 k9 k10 => mid7_w H0 z v g left wd b4 iv t0 hin hf hwd hi hc k1 k2 k3 k4 k9 k10
  revert mid
  unfold c7 Tryz.f7
  simp only [Option.getD_some, sub]
  intro mid
  repeat (first | apply WF.seq | apply WF.regionL | apply WO.nil | apply WF.block | apply WF.skip | apply WF.endBlock | (apply WF.exit; (focus (exact rfl))) | (apply WO.op; (focus (simp only [rQ, wantedU, li, lo, reduceIte, Nat.reduceEqDiff, Nat.reduceAdd, beq_self_eq_true]; done)); (focus (simp only [rE, rQ, li, lo, storeU, AH.set, reduceIte, Nat.reduceEqDiff, Nat.reduceAdd, Nat.reduceMul, len_str, cut2, bts0, n01, n10]; exact rfl)); (focus (exact rfl))) | (apply WO.unwanted; (focus (simp only [rQ, wantedU, li, lo, reduceIte, Nat.reduceEqDiff, Nat.reduceAdd, beq_self_eq_true]; done)); (focus (exact rfl))))
  (apply WO.call; (focus (simp only [rQ, wantedU, li, lo, reduceIte, Nat.reduceEqDiff, Nat.reduceAdd, beq_self_eq_true]; done)); (focus (simp only [rE, rQ, li, lo, storeU, AH.set, reduceIte, Nat.reduceEqDiff, Nat.reduceAdd, Nat.reduceMul, cu10]; exact rfl)); (focus (exact sane_c2 _)); rintro _ _ ⟨rfl, rfl⟩; refine ⟨_, rfl, ?_⟩)
  repeat (first | apply WF.seq | apply WF.regionL | apply WO.nil | apply WF.block | apply WF.skip | apply WF.endBlock | (apply WF.exit; (focus (exact rfl))) | (apply WO.op; (focus (simp only [rQ, wantedU, li, lo, reduceIte, Nat.reduceEqDiff, Nat.reduceAdd, beq_self_eq_true]; done)); (focus (simp only [rE, rQ, li, lo, storeU, AH.set, reduceIte, Nat.reduceEqDiff, Nat.reduceAdd, Nat.reduceMul, len_str, cut2, bts0, n01, n10, b66, b68, b70, bs22_1, mkI22_num, partsU, sz64, agg64, loadVar_agg agg64 sz64]; exact rfl)); (focus (exact rfl))) | (apply WO.unwanted; (focus (simp only [rQ, wantedU, li, lo, reduceIte, Nat.reduceEqDiff, Nat.reduceAdd, beq_self_eq_true]; done)); (focus (exact rfl))))
  have hits : ItemsAt ⟨(H.t.put H.next (some (.cells 64 [.int .i64 z, .bool g] 0 false false))).put (H.next + 1) (some (.cells 70 (IC (numD z g v) .nilslice) 0 false false)), H.next + 1 + 1⟩ (.slice (H.next + 1) 0 1 (.is 1)) [(numD z g v, .nilslice)] := by
    refine ⟨.sl _ _ _ _, fun b off n cap e _ => ?_⟩
    cases e
    refine ⟨IC (numD z g v) .nilslice, Nat.lt_succ_self _, by rw [cellsAt_put, if_pos rfl], fun i q hq => ?_⟩
    cases i with
    | zero =>
      cases hq
      exact cut_self rfl (IC_hole hin)
    | succ i => simp at hq
  have hcb : AH.cellsAt ⟨(H.t.put H.next (some (.cells 64 [.int .i64 z, .bool g] 0 false false))).put (H.next + 1) (some (.cells 70 (IC (numD z g v) .nilslice) 0 false false)), H.next + 1 + 1⟩ H.next = some [.int .i64 z, .bool g] := by
    unfold AH.cellsAt
    dsimp only
    rw [Tri.gp, if_neg (by omega), Tri.gp, if_pos rfl]
  have hblt : H.next < H.next + 1 + 1 := by omega
  cases hf : fitsB (numD z g v) 100
  · (apply WO.call; (focus (simp only [rQ, wantedU, li, lo, reduceIte, Nat.reduceEqDiff, Nat.reduceAdd, beq_self_eq_true]; done)); (focus (simp only [rE, rQ, li, lo, storeU, AH.set, reduceIte, Nat.reduceEqDiff, Nat.reduceAdd, Nat.reduceMul, cu11, bts0]; exact rfl)); (focus (exact fnum_bad _ _ _ hits hin 100 rfl (by omega) hf)); rintro _ H1 ⟨rfl, hu1⟩; refine ⟨_, rfl, ?_⟩)
    repeat (first | apply WF.seq | apply WF.regionL | apply WO.nil | apply WF.block | apply WF.skip | apply WF.endBlock | (apply WF.exit; (focus (exact rfl))) | (apply WO.op; (focus (simp only [rQ, wantedU, li, lo, reduceIte, Nat.reduceEqDiff, Nat.reduceAdd, beq_self_eq_true, d1, d2]; done)); (focus (simp only [rE, rQ, li, lo, storeU, AH.set, reduceIte, Nat.reduceEqDiff, Nat.reduceAdd, Nat.reduceMul, d1, d2]; exact rfl)); (focus (exact rfl))) | (apply WO.unwanted; (focus (simp only [rQ, wantedU, li, lo, reduceIte, Nat.reduceEqDiff, Nat.reduceAdd, beq_self_eq_true, d1, d2]; done)); (focus (exact rfl))))
    (first | (apply WF.condT; (focus (simp only [evalO, ofConst, Tri.gp, lay, Bool.not_true, Bool.not_false, reduceIte, Nat.reduceEqDiff]; done))) | (apply WF.condF; (focus (simp only [evalO, ofConst, Tri.gp, lay, Bool.not_true, Bool.not_false, reduceIte, Nat.reduceEqDiff]; done))))
    repeat (first | apply WF.seq | apply WF.regionL | apply WO.nil | apply WF.block | apply WF.skip | apply WF.endBlock | (apply WF.exit; (focus (exact rfl))) | (apply WO.op; (focus (simp only [rQ, wantedU, li, lo, reduceIte, Nat.reduceEqDiff, Nat.reduceAdd, beq_self_eq_true, d1, d2]; done)); (focus (simp only [rE, rQ, li, lo, storeU, AH.set, reduceIte, Nat.reduceEqDiff, Nat.reduceAdd, Nat.reduceMul, d1, d2]; exact rfl)); (focus (exact rfl))) | (apply WO.unwanted; (focus (simp only [rQ, wantedU, li, lo, reduceIte, Nat.reduceEqDiff, Nat.reduceAdd, beq_self_eq_true, d1, d2]; done)); (focus (exact rfl))))
    (apply WF.ret; (focus (simp only [resultsU, Tri.gp, lay, resL, reduceIte, Nat.reduceEqDiff, rs7]; exact rfl)))
    rfl
  (apply WO.call; (focus (simp only [rQ, wantedU, li, lo, reduceIte, Nat.reduceEqDiff, Nat.reduceAdd, beq_self_eq_true]; done)); (focus (simp only [rE, rQ, li, lo, storeU, AH.set, reduceIte, Nat.reduceEqDiff, Nat.reduceAdd, Nat.reduceMul, cu11, bts0]; exact rfl)); (focus (exact fnum_ok0 _ _ _ hits hin 100 rfl (by omega) hf)); rintro _ H1 ⟨rfl, hu1⟩; refine ⟨_, rfl, ?_⟩)
  rw [pad_dec]
  repeat (first | apply WF.seq | apply WF.regionL | apply WO.nil | apply WF.block | apply WF.skip | apply WF.endBlock | (apply WF.exit; (focus (exact rfl))) | (apply WO.op; (focus (simp only [rQ, wantedU, li, lo, reduceIte, Nat.reduceEqDiff, Nat.reduceAdd, beq_self_eq_true, d0]; done)); (focus (simp only [rE, rQ, li, lo, storeU, AH.set, reduceIte, Nat.reduceEqDiff, Nat.reduceAdd, Nat.reduceMul, d0]; exact rfl)); (focus (exact rfl))) | (apply WO.unwanted; (focus (simp only [rQ, wantedU, li, lo, reduceIte, Nat.reduceEqDiff, Nat.reduceAdd, beq_self_eq_true, d0]; done)); (focus (exact rfl))))
  (first | (apply WF.condT; (focus (simp only [evalO, ofConst, Tri.gp, lay, Bool.not_true, Bool.not_false, reduceIte, Nat.reduceEqDiff]; done))) | (apply WF.condF; (focus (simp only [evalO, ofConst, Tri.gp, lay, Bool.not_true, Bool.not_false, reduceIte, Nat.reduceEqDiff]; done))))
  have hlo := hin.lo
  have hmx : v.natAbs < 18446744073709551616 := by omega
  by_cases hv : v < 0
  · have hdec : dec v = 45 :: hx 10 v.natAbs := by unfold dec; rw [if_pos hv]
    rw [hdec]
    have p1 : decide ((0 : Int) < ((45 :: hx 10 v.natAbs).length : Int)) = true := decide_eq_true (by simp)
    have p2 : decide ((45 : Int) = 45) = true := rfl
    have hx0 : indexU Q 9 (.str (45 :: hx 10 v.natAbs)) (.int .i64 0) = some (.int .u8 45) := idxS (s := 45 :: hx 10 v.natAbs) (i := 0) (by simp)
    have hsl : sliceStr (45 :: hx 10 v.natAbs) (some (.int .i64 1)) none = some (.str (hx 10 v.natAbs)) := slS_from (s := 45 :: hx 10 v.natAbs) (n := 1) (by simp)
    have h1 : decide (v < 0) = true := decide_eq_true hv
    have hng : unU .neg (.int .u64 (v.natAbs : Int)) = some (.int .u64 (IntKind.u64.wrap (0 - (v.natAbs : Int)))) := rfl
    have wc : IntKind.i64.wrap (IntKind.u64.wrap (0 - (v.natAbs : Int))) = v := neg_wrap hv0 hv
    repeat (first | apply WF.seq | apply WF.regionL | apply WO.nil | apply WF.block | apply WF.skip | apply WF.endBlock | (apply WF.exit; (focus (exact rfl))) | (apply WO.op; (focus (simp only [rQ, wantedU, li, lo, reduceIte, Nat.reduceEqDiff, Nat.reduceAdd, beq_self_eq_true, p1, p2]; done)); (focus (simp only [rE, rQ, li, lo, storeU, AH.set, reduceIte, Nat.reduceEqDiff, Nat.reduceAdd, Nat.reduceMul, len_str, hx0, p1, p2]; exact rfl)); (focus (exact rfl))) | (apply WO.unwanted; (focus (simp only [rQ, wantedU, li, lo, reduceIte, Nat.reduceEqDiff, Nat.reduceAdd, beq_self_eq_true, p1, p2]; done)); (focus (exact rfl))))
    (first | (apply WF.condT; (focus (simp only [evalO, ofConst, Tri.gp, lay, Bool.not_true, Bool.not_false, reduceIte, Nat.reduceEqDiff]; done))) | (apply WF.condF; (focus (simp only [evalO, ofConst, Tri.gp, lay, Bool.not_true, Bool.not_false, reduceIte, Nat.reduceEqDiff]; done))))
    repeat (first | apply WF.seq | apply WF.regionL | apply WO.nil | apply WF.block | apply WF.skip | apply WF.endBlock | (apply WF.exit; (focus (exact rfl))) | (apply WO.op; (focus (simp only [rQ, wantedU, li, lo, reduceIte, Nat.reduceEqDiff, Nat.reduceAdd, beq_self_eq_true]; done)); (focus (simp only [rE, rQ, li, lo, storeU, AH.set, reduceIte, Nat.reduceEqDiff, Nat.reduceAdd, Nat.reduceMul, len_str, slU9, hsl]; exact rfl)); (focus (exact rfl))) | (apply WO.unwanted; (focus (simp only [rQ, wantedU, li, lo, reduceIte, Nat.reduceEqDiff, Nat.reduceAdd, beq_self_eq_true]; done)); (focus (exact rfl))))
    (apply WO.call; (focus (simp only [rQ, wantedU, li, lo, reduceIte, Nat.reduceEqDiff, Nat.reduceAdd, beq_self_eq_true]; done)); (focus (simp only [rE, rQ, li, lo, storeU, AH.set, reduceIte, Nat.reduceEqDiff, Nat.reduceAdd, Nat.reduceMul, cu25]; exact rfl)); (focus (exact value_c H1 10 v.natAbs (by omega) (by omega) hmx)); rintro _ H1 ⟨rfl, rfl⟩; refine ⟨_, rfl, ?_⟩)
    repeat (first | apply WF.seq | apply WF.regionL | apply WO.nil | apply WF.block | apply WF.skip | apply WF.endBlock | (apply WF.exit; (focus (exact rfl))) | (apply WO.op; (focus (simp only [rQ, wantedU, li, lo, reduceIte, Nat.reduceEqDiff, Nat.reduceAdd, beq_self_eq_true]; done)); (focus (simp only [rE, rQ, li, lo, storeU, AH.set, reduceIte, Nat.reduceEqDiff, Nat.reduceAdd, Nat.reduceMul]; exact rfl)); (focus (exact rfl))) | (apply WO.unwanted; (focus (simp only [rQ, wantedU, li, lo, reduceIte, Nat.reduceEqDiff, Nat.reduceAdd, beq_self_eq_true]; done)); (focus (exact rfl))))
    (first | (apply WF.condT; (focus (simp only [evalO, ofConst, Tri.gp, lay, Bool.not_true, Bool.not_false, reduceIte, Nat.reduceEqDiff]; done))) | (apply WF.condF; (focus (simp only [evalO, ofConst, Tri.gp, lay, Bool.not_true, Bool.not_false, reduceIte, Nat.reduceEqDiff]; done))))
    repeat (first | apply WF.seq | apply WF.regionL | apply WO.nil | apply WF.block | apply WF.skip | apply WF.endBlock | (apply WF.exit; (focus (exact rfl))) | (apply WO.op; (focus (simp only [rQ, wantedU, li, lo, reduceIte, Nat.reduceEqDiff, Nat.reduceAdd, beq_self_eq_true, h1]; done)); (focus (simp only [rE, rQ, li, lo, storeU, AH.set, reduceIte, Nat.reduceEqDiff, Nat.reduceAdd, Nat.reduceMul, hng, convU, und71, und2, wc, eq_tr, h1, bin_neqB und4, beq_self_eq_true]; exact rfl)); (focus (exact rfl))) | (apply WO.unwanted; (focus (simp only [rQ, wantedU, li, lo, reduceIte, Nat.reduceEqDiff, Nat.reduceAdd, beq_self_eq_true, h1]; done)); (focus (exact rfl))))
    (first | (apply WF.condT; (focus (simp only [evalO, ofConst, Tri.gp, lay, Bool.not_true, Bool.not_false, reduceIte, Nat.reduceEqDiff]; done))) | (apply WF.condF; (focus (simp only [evalO, ofConst, Tri.gp, lay, Bool.not_true, Bool.not_false, reduceIte, Nat.reduceEqDiff]; done))))
    iterate 1 (first | apply WF.seq | apply WF.regionL | apply WO.nil | apply WF.block | apply WF.skip | apply WF.endBlock | (apply WF.exit; (focus (exact rfl))) | (apply WO.op; (focus (simp only [rQ, wantedU, li, lo, reduceIte, Nat.reduceEqDiff, Nat.reduceAdd, beq_self_eq_true]; done)); (focus (simp only [rE, rQ, li, lo, storeU, AH.set, reduceIte, Nat.reduceEqDiff, Nat.reduceAdd, Nat.reduceMul]; exact rfl)); (focus (exact rfl))) | (apply WO.unwanted; (focus (simp only [rQ, wantedU, li, lo, reduceIte, Nat.reduceEqDiff, Nat.reduceAdd, beq_self_eq_true]; done)); (focus (exact rfl))))
    refine mid H1 H.next _ _ hf (hits.up hu1) ?_ ?_ ?_ ?_ ?_ ?_ ?_
    · rw [hu1.cellsAt hblt]; exact hcb
    all_goals (simp [Tri.gp, lay]; done)
  · have hdec : dec v = hx 10 v.natAbs := by unfold dec; rw [if_neg hv]
    rw [hdec]
    obtain ⟨c0, s0, hcs, _⟩ := hx_head (b := 10) (n := v.natAbs) (by omega) (by omega) hmx
    have hc45 : c0 ≠ 45 := hx_dig45 (b := 10) (by omega) v.natAbs c0 (by rw [hcs]; simp)
    have hpos : 0 < (hx 10 v.natAbs).length := by rw [hcs]; simp
    have p1 : decide ((0 : Int) < ((hx 10 v.natAbs).length : Int)) = true := decide_eq_true (by omega)
    have p2 : decide (((c0 : Nat) : Int) = 45) = false := decide_eq_false (by omega)
    have hx0 : indexU Q 9 (.str (hx 10 v.natAbs)) (.int .i64 0) = some (.int .u8 (c0 : Int)) := by
      have e0 : (hx 10 v.natAbs)[0] = c0 := by simp [hcs]
      rw [← e0]
      exact idxS (s := hx 10 v.natAbs) (i := 0) hpos
    have h1 : decide (v < 0) = false := decide_eq_false hv
    have wc : IntKind.i64.wrap (v.natAbs : Int) = v := by rw [Go.Ev.w64 (by omega) (by omega)]; omega
    repeat (first | apply WF.seq | apply WF.regionL | apply WO.nil | apply WF.block | apply WF.skip | apply WF.endBlock | (apply WF.exit; (focus (exact rfl))) | (apply WO.op; (focus (simp only [rQ, wantedU, li, lo, reduceIte, Nat.reduceEqDiff, Nat.reduceAdd, beq_self_eq_true, p1, p2]; done)); (focus (simp only [rE, rQ, li, lo, storeU, AH.set, reduceIte, Nat.reduceEqDiff, Nat.reduceAdd, Nat.reduceMul, len_str, hx0, p1, p2]; exact rfl)); (focus (exact rfl))) | (apply WO.unwanted; (focus (simp only [rQ, wantedU, li, lo, reduceIte, Nat.reduceEqDiff, Nat.reduceAdd, beq_self_eq_true, p1, p2]; done)); (focus (exact rfl))))
    (first | (apply WF.condT; (focus (simp only [evalO, ofConst, Tri.gp, lay, Bool.not_true, Bool.not_false, reduceIte, Nat.reduceEqDiff]; done))) | (apply WF.condF; (focus (simp only [evalO, ofConst, Tri.gp, lay, Bool.not_true, Bool.not_false, reduceIte, Nat.reduceEqDiff]; done))))
    repeat (first | apply WF.seq | apply WF.regionL | apply WO.nil | apply WF.block | apply WF.skip | apply WF.endBlock | (apply WF.exit; (focus (exact rfl))) | (apply WO.op; (focus (simp only [rQ, wantedU, li, lo, reduceIte, Nat.reduceEqDiff, Nat.reduceAdd, beq_self_eq_true]; done)); (focus (simp only [rE, rQ, li, lo, storeU, AH.set, reduceIte, Nat.reduceEqDiff, Nat.reduceAdd, Nat.reduceMul, len_str]; exact rfl)); (focus (exact rfl))) | (apply WO.unwanted; (focus (simp only [rQ, wantedU, li, lo, reduceIte, Nat.reduceEqDiff, Nat.reduceAdd, beq_self_eq_true]; done)); (focus (exact rfl))))
    (apply WO.call; (focus (simp only [rQ, wantedU, li, lo, reduceIte, Nat.reduceEqDiff, Nat.reduceAdd, beq_self_eq_true]; done)); (focus (simp only [rE, rQ, li, lo, storeU, AH.set, reduceIte, Nat.reduceEqDiff, Nat.reduceAdd, Nat.reduceMul, cu25]; exact rfl)); (focus (exact value_c H1 10 v.natAbs (by omega) (by omega) hmx)); rintro _ H1 ⟨rfl, rfl⟩; refine ⟨_, rfl, ?_⟩)
    repeat (first | apply WF.seq | apply WF.regionL | apply WO.nil | apply WF.block | apply WF.skip | apply WF.endBlock | (apply WF.exit; (focus (exact rfl))) | (apply WO.op; (focus (simp only [rQ, wantedU, li, lo, reduceIte, Nat.reduceEqDiff, Nat.reduceAdd, beq_self_eq_true]; done)); (focus (simp only [rE, rQ, li, lo, storeU, AH.set, reduceIte, Nat.reduceEqDiff, Nat.reduceAdd, Nat.reduceMul]; exact rfl)); (focus (exact rfl))) | (apply WO.unwanted; (focus (simp only [rQ, wantedU, li, lo, reduceIte, Nat.reduceEqDiff, Nat.reduceAdd, beq_self_eq_true]; done)); (focus (exact rfl))))
    (first | (apply WF.condT; (focus (simp only [evalO, ofConst, Tri.gp, lay, Bool.not_true, Bool.not_false, reduceIte, Nat.reduceEqDiff]; done))) | (apply WF.condF; (focus (simp only [evalO, ofConst, Tri.gp, lay, Bool.not_true, Bool.not_false, reduceIte, Nat.reduceEqDiff]; done))))
    repeat (first | apply WF.seq | apply WF.regionL | apply WO.nil | apply WF.block | apply WF.skip | apply WF.endBlock | (apply WF.exit; (focus (exact rfl))) | (apply WO.op; (focus (simp only [rQ, wantedU, li, lo, reduceIte, Nat.reduceEqDiff, Nat.reduceAdd, beq_self_eq_true, h1]; done)); (focus (simp only [rE, rQ, li, lo, storeU, AH.set, reduceIte, Nat.reduceEqDiff, Nat.reduceAdd, Nat.reduceMul, convU, und71, und2, wc, eq_tr, h1, bin_neqB und4, beq_self_eq_true]; exact rfl)); (focus (exact rfl))) | (apply WO.unwanted; (focus (simp only [rQ, wantedU, li, lo, reduceIte, Nat.reduceEqDiff, Nat.reduceAdd, beq_self_eq_true, h1]; done)); (focus (exact rfl))))
    (first | (apply WF.condT; (focus (simp only [evalO, ofConst, Tri.gp, lay, Bool.not_true, Bool.not_false, reduceIte, Nat.reduceEqDiff]; done))) | (apply WF.condF; (focus (simp only [evalO, ofConst, Tri.gp, lay, Bool.not_true, Bool.not_false, reduceIte, Nat.reduceEqDiff]; done))))
    iterate 1 (first | apply WF.seq | apply WF.regionL | apply WO.nil | apply WF.block | apply WF.skip | apply WF.endBlock | (apply WF.exit; (focus (exact rfl))) | (apply WO.op; (focus (simp only [rQ, wantedU, li, lo, reduceIte, Nat.reduceEqDiff, Nat.reduceAdd, beq_self_eq_true]; done)); (focus (simp only [rE, rQ, li, lo, storeU, AH.set, reduceIte, Nat.reduceEqDiff, Nat.reduceAdd, Nat.reduceMul]; exact rfl)); (focus (exact rfl))) | (apply WO.unwanted; (focus (simp only [rQ, wantedU, li, lo, reduceIte, Nat.reduceEqDiff, Nat.reduceAdd, beq_self_eq_true]; done)); (focus (exact rfl))))
    refine mid H1 H.next _ _ hf (hits.up hu1) ?_ ?_ ?_ ?_ ?_ ?_ ?_
    · rw [hu1.cellsAt hblt]; exact hcb
    all_goals (simp [Tri.gp, lay]; done)
end Go.Ev.C
end
section
set_option linter.unusedVariables false
set_option linter.unusedSimpArgs false
set_option linter.defProp false
set_option linter.all false
namespace Go.Ev.C
open Go.Proofs Go.RowKit Go.ChangeShapes Go.WideShapes Go.Deep
open Go.Proofs.YtkkegnkopmpjhaaGreatDoor
set_option maxRecDepth 100000
theorem av_int {W : World} {v : Value} {k : IntKind} {n : Int} (h : avOf W v = .int k n) : v = .int k n := by
  have r := avOf_rel W v (by rw [h]; simp)
  rw [h] at r
  cases r
  rfl
theorem gn2 : Q.globalNamed "internal/strconv.uint64pow10" = some 2 := by kernel_rfl
theorem gt2 : (Q.globals[2]?).map (·.type) = some 419 := by kernel_rfl
theorem cells71 : Q.cellsOf 71 = 1 := by kernel_rfl
theorem cells419 : Q.cellsOf 419 = 20 * 1 := by kernel_rfl
theorem pow_lits : avF Rows.laid_internal_strconv_uint64pow10 = Lib.pow10Tab.map fun z => AV.int .u64 z := by kernel_rfl
theorem ints_back {W : World} : ∀ (cs : List Value) (l : List Int), cs.map (avOf W) = l.map (fun z => AV.int .u64 z) → cs = l.map fun z => Value.int .u64 z
  | [], [], _ => rfl
  | [], _ :: _, h => by simp at h
  | _ :: _, [], h => by simp at h
  | c :: cs, z :: l, h => by
    simp only [List.map_cons, List.cons.injEq] at h ⊢
    exact ⟨av_int h.1, ints_back cs l h.2⟩
theorem pow_of {W : World} (h : laidMetH Q Rows.consumeCountsUptoRow.laid W) : Pow W := by
  obtain ⟨ps, hv, _, _⟩ := laid_plain h
  obtain ⟨_, q1, hv, s1⟩ := vars_cons hv
  obtain ⟨_, q2, hv, s2⟩ := vars_cons hv
  obtain ⟨⟨g, t, cs, fuel, p, hg, ht, hc, hT, _⟩, _⟩ := vars_cons hv
  obtain rfl := Option.some.inj (gn2.symm.trans hg)
  obtain rfl := Option.some.inj (gt2.symm.trans ht)
  obtain ⟨e, f, hh⟩ := var_heap gn2 hc
  have m := flat_array Tryz.underlying419 cells71 cells419 (one_cell cells71 (.inl ⟨_, Tryz.underlying71⟩)) hT
  rw [pow_lits] at m
  have hcs := ints_back _ _ m
  refine ⟨e, f, ?_⟩
  rw [hh, ← hcs]
theorem laid2_of {W : World} (h : laidMetH Q Rows.consumeCountsUptoRow.laid W) (hs : W.ShapedOpen Q) : Laid2 W := ⟨laid_of h hs, pow_of h⟩
end Go.Ev.C
end
