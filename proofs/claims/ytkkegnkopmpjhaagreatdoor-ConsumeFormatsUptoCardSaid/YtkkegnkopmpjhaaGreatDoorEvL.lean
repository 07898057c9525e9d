/- Contracts: Format. -/
import Derived.Test.YtkkegnkopmpjhaaGreatDoorEvK
import Derived.Test.YtkkegnkopmpjhaaGreatDoorEvO
import Derived.Test.YtkkegnkopmpjhaaGreatDoorEvG
section
set_option linter.unusedVariables false
set_option linter.unusedSimpArgs false
set_option linter.defProp false
set_option linter.all false
namespace Go.Ev.C
open Go.Proofs Go.Fmt Go.RowKit
set_option maxRecDepth 100000
set_option linter.unusedSimpArgs false
def cvLeft (t : List Nat) : Bool := t[1]? == some 45
def YH (t : List Nat) : Nat := t.getLast?.getD 0
def cvDig (t : List Nat) : List Nat := (t.drop (if cvLeft t then 2 else 1)).dropLast
def cvOut (t : List Nat) (x : XB) : List Nat := pad (cvLeft t) (Wz (cvDig t)) (ZK (YH t) x)
/-- A conversion. -/
def IsCv (t : List Nat) : Prop := ∃ left d l, d ∈ Y7 ∧ letters.contains l = true ∧ t = Xb left d l
theorem wid_head {d : List Nat} (hd : d ∈ Y7) : d[0]? ≠ some 45 := by
  have h : Y7.all (fun d => !(d[0]? == some 45)) = true := by decide
  have := List.all_eq_true.1 h d hd
  simpa using this
theorem cv_left {left : Bool} {d : List Nat} {l : Nat} (hd : d ∈ Y7) (hl : letters.contains l = true) : cvLeft (Xb left d l) = left := by
  have h45 : l ≠ 45 := by
    rintro rfl
    revert hl
    decide
  have hh := wid_head hd
  unfold cvLeft Xb
  cases left
  · cases d with
    | nil => simpa using h45
    | cons a r => simpa using hh
  · simp
theorem cv_dig {left : Bool} {d : List Nat} {l : Nat} (hd : d ∈ Y7) (hl : letters.contains l = true) : cvDig (Xb left d l) = d := by
  unfold cvDig
  rw [cv_left hd hl]
  unfold Xb
  cases left <;> simp
theorem cv_letter (left : Bool) (d : List Nat) (l : Nat) : YH (Xb left d l) = l := by
  unfold YH Xb
  rw [← List.cons_append, List.getLast?_append]
  simp
theorem cvOut_T {left : Bool} {d : List Nat} {l : Nat} (hd : d ∈ Y7) (hl : letters.contains l = true) (x : XB) : cvOut (Xb left d l) x = pad left (Wz d) (ZK l x) := by
  unfold cvOut
  rw [cv_left hd hl, cv_dig hd hl, cv_letter]
theorem wide1 {a : Nat} (h : 48 ≤ a) (h' : a ≤ 57) : [a] ∈ Y7 := by
  unfold Y7
  simp only [List.mem_append, List.mem_map, List.mem_range]
  exact .inl (.inr ⟨a - 48, by omega, by rw [show 48 + (a - 48) = a from by omega]⟩)
theorem wide2 {a b : Nat} (h : 48 ≤ a) (h' : a ≤ 57) (k : 48 ≤ b) (k' : b ≤ 57) : [a, b] ∈ Y7 := by
  unfold Y7
  simp only [List.mem_append, List.mem_map, List.mem_range]
  refine .inr ⟨(a - 48) * 10 + (b - 48), by omega, ?_⟩
  rw [show 48 + ((a - 48) * 10 + (b - 48)) / 10 = a from by omega, show 48 + ((a - 48) * 10 + (b - 48)) % 10 = b from by omega]
/-- What stands from a place on, up to a conversion's end. -/
theorem XL {f : List Nat} {p e : Nat} (hp : p < f.length) (he : p < e) : (f.drop p).take (e - p) = f[p] :: (f.drop (p + 1)).take (e - (p + 1)) := by
  rw [List.drop_eq_getElem_cons hp, show e - p = (e - (p + 1)) + 1 from by omega, List.take_succ_cons]
theorem take_done (f : List Nat) (p : Nat) : (f.drop p).take (p - p) = [] := by simp
theorem scan_dig {f : List Nat} {q e : Nat} (h : YG f 2 q = some e) : ∃ d l, d ∈ Y7 ∧ letters.contains l = true ∧ (f.drop q).take (e - q) = d ++ [l] := by
  have h0 := Xk h
  have hq : q < f.length := by omega
  cases c0 : letters.contains f[q]
  · rw [Xc hq c0] at h
    split at h
    · cases h
    · rename_i hd0
      have h1 := Xk h
      have hq1 : q + 1 < f.length := by omega
      cases c1 : letters.contains f[q + 1]
      · rw [Xc hq1 c1] at h
        split at h
        · cases h
        · rename_i hd1
          have h2 := Xk h
          have hq2 : q + 1 + 1 < f.length := by omega
          cases c2 : letters.contains f[q + 1 + 1]
          · rw [scanK_zero hq2 c2] at h
            cases h
          · rw [Y3 hq2 c2] at h
            cases h
            refine ⟨[f[q], f[q + 1]], f[q + 1 + 1], wide2 (by omega) (by omega) (by omega) (by omega), c2, ?_⟩
            rw [XL hq (by omega), XL hq1 (by omega), XL hq2 (by omega), take_done]
            rfl
      · rw [Y3 hq1 c1] at h
        cases h
        refine ⟨[f[q]], f[q + 1], wide1 (by omega) (by omega), c1, ?_⟩
        rw [XL hq (by omega), XL hq1 (by omega), take_done]
        rfl
  · rw [Y3 hq c0] at h
    cases h
    refine ⟨[], f[q], by unfold Y7; simp, c0, ?_⟩
    rw [XL hq (by omega), take_done]
    rfl
theorem isCv {f : List Nat} {p e : Nat} (hp : p < f.length) (hc : f[p] = 37) (h : YG f 2 (Yh f p) = some e) : IsCv ((f.drop p).take (e - p)) := by
  obtain ⟨d, l, hd, hl, ht⟩ := scan_dig h
  have hlt := Xk h
  by_cases hm : f[p + 1]? = some 45
  · have hdg : Yh f p = p + 2 := by unfold Yh; rw [if_pos hm]
    rw [hdg] at ht hlt
    have hp1 : p + 1 < f.length := (List.getElem?_eq_some_iff.1 hm).1
    have h45 : f[p + 1] = 45 := by
      rw [List.getElem?_eq_getElem hp1] at hm
      exact Option.some.inj hm
    refine ⟨true, d, l, hd, hl, ?_⟩
    rw [XL hp (by omega), XL hp1 (by omega), ht, hc, h45]
    simp [Xb]
  · have hdg : Yh f p = p + 1 := by unfold Yh; rw [if_neg hm]
    rw [hdg] at ht hlt
    refine ⟨false, d, l, hd, hl, ?_⟩
    rw [XL hp (by omega), ht, hc]
    simp [Xb]
/-- A format's text. -/
def WA : List Seg → List XB → List Nat
  | [], _ => []
  | .lit c :: s, l => c :: WA s l
  | .pct :: s, l => 37 :: WA s l
  | .cv t :: s, x :: l => cvOut t x ++ WA s l
  | .cv _ :: _, [] => []
def fit1 (t : List Nat) (x : XB) : Bool := fitsB x (YH t)
theorem pad_len (left : Bool) (n : Nat) (s : List Nat) : (pad left n s).length ≤ n + s.length := by
  unfold pad
  cases left <;> simp <;> omega
theorem letter_len {l : Nat} {x : XB} (h : fitsB x l = true) : (ZK l x).length ≤ 100 := by
  have hh10 := Yf 10 (Wa x)
  have hh16 := Yf 16 (Wa x)
  have hh8 := Yf 8 (Wa x)
  have hdn := dec_len x.vn
  unfold ZK
  split
  · rename_i hl
    unfold fitsB at h
    rw [if_pos hl] at h
    simp only [Bool.and_eq_true, decide_eq_true_eq] at h
    omega
  repeat' split
  all_goals (first | omega | (simp; omega) | simp)
theorem cvOut_len {t : List Nat} (ht : IsCv t) {x : XB} (h : fit1 t x = true) : (cvOut t x).length ≤ 200 := by
  obtain ⟨left, d, l, hd, hl, rfl⟩ := ht
  rw [cvOut_T hd hl]
  unfold fit1 at h
  rw [cv_letter] at h
  have h1 := pad_len left (Wz d) (ZK l x)
  have h2 := letter_len h
  have h3 := wid_lt hd
  omega
end Go.Ev.C
end
section
set_option linter.unusedVariables false
set_option linter.unusedSimpArgs false
set_option linter.defProp false
set_option linter.all false
namespace Go.Ev.C
open Go.Proofs Go.Fmt Go.RowKit
set_option maxRecDepth 100000
set_option linter.unusedSimpArgs false
/-- Texts in memory. -/
def StrsAt (H : AH) (v : AV) (l : List (List Nat)) : Prop := SL v l.length ∧ ∀ b off n cap,v = .slice b off n cap → l ≠ [] → ∃ c,b < H.next ∧ H.cellsAt b = some c ∧ ∀ (i : Nat) (z : List Nat),l[i]? = some z → c[off + i * 1]? = some (.str z)
theorem StrsAt.up {H H' : AH} (u : Up H H') {v : AV} {l : List (List Nat)} (h : StrsAt H v l) : StrsAt H' v l :=
  ⟨h.1, fun b off n cap e hn => by
    obtain ⟨c, hb, hc, hr⟩ := h.2 b off n cap e hn
    exact ⟨c, Nat.lt_of_lt_of_le hb u.next, by rw [u.cellsAt hb]; exact hc, hr⟩⟩
theorem StrsAt.at {H : AH} {v : AV} {l : List (List Nat)} (h : StrsAt H v l) {i : Nat} {z : List Nat} (hz : l[i]? = some z) : ∃ b off cap c,v = .slice b off l.length cap ∧ H.cellsAt b = some c ∧ c[off + i * 1]? = some (.str z) := by
  obtain ⟨h1, h2⟩ := h
  have hi := (List.getElem?_eq_some_iff.1 hz).1
  generalize hn : l.length = n at h1
  cases h1 with
  | nil => omega
  | sl b off n cap =>
    obtain ⟨c, _, hc, hr⟩ := h2 b off _ cap rfl (by intro e; subst e; simp at hi)
    exact ⟨b, off, cap, c, rfl, hc, hr i z hz⟩
theorem OwnL.strs {H0 H : AH} {v : AV} {l : List (List Nat)} (h : OwnL 9 H0 H v (strL l)) : StrsAt H v l := by
  have hs := h.sl
  rw [show (strL l).length = l.length from by simp [strL]] at hs
  refine ⟨hs, fun b off n cap e hn => ?_⟩
  rcases h with ⟨_, rfl⟩ | ⟨_, b', rfl, h1, h2, h3⟩
  · cases e
  · cases e
    refine ⟨_, h2, by unfold AH.cellsAt; rw [h3], fun i z hz => ?_⟩
    unfold strL
    rw [Nat.zero_add, Nat.mul_one, List.getElem?_map, hz]
    rfl
/-- What is asked of an item whose conversion is not known yet. -/
structure ItIn (x : XB) (sv : AV) : Prop where
  one : Ye sv = true
  solid : ZO sv = true
  lo : -9223372036854775808 ≤ x.vn
  hi : x.vn ≤ 9223372036854775807
  len : x.vs.length ≤ 10000000
  byte : ∀ c ∈ x.vs, c < 256
/-- Items in memory. -/
def XR (H : AH) (v : AV) (l : List (XB × AV)) : Prop := SL v l.length ∧ ∀ b off n cap,v = .slice b off n cap → l ≠ [] → ∃ c,b < H.next ∧ H.cellsAt b = some c ∧ ∀ (i : Nat) (z : XB × AV),l[i]? = some z → cut c (off + i * 10) 10 = some (IC z.1 z.2)
theorem XR.up {H H' : AH} (u : Up H H') {v : AV} {l : List (XB × AV)} (h : XR H v l) : XR H' v l :=
  ⟨h.1, fun b off n cap e hn => by
    obtain ⟨c, hb, hc, hr⟩ := h.2 b off n cap e hn
    exact ⟨c, Nat.lt_of_lt_of_le hb u.next, by rw [u.cellsAt hb]; exact hc, hr⟩⟩
theorem XR.at {H : AH} {v : AV} {l : List (XB × AV)} (h : XR H v l) {i : Nat} {z : XB × AV} (hz : l[i]? = some z) : ∃ b off cap c,v = .slice b off l.length cap ∧ H.cellsAt b = some c ∧ cut c (off + i * 10) 10 = some (IC z.1 z.2) := by
  obtain ⟨h1, h2⟩ := h
  have hi := (List.getElem?_eq_some_iff.1 hz).1
  generalize hn : l.length = n at h1
  cases h1 with
  | nil => omega
  | sl b off n cap =>
    obtain ⟨c, _, hc, hr⟩ := h2 b off _ cap rfl (by intro e; subst e; simp at hi)
    exact ⟨b, off, cap, c, rfl, hc, hr i z hz⟩
theorem fit_sz {x : XB} {l : Nat} (hf : fitsB x l = true) (hk : x.kind = 1) : (Ys x.size x.sg).isSome = true := by
  unfold fitsB at hf
  split at hf
  · simp only [Bool.and_eq_true, decide_eq_true_eq] at hf
    omega
  · split at hf
    · cases hf
    · simp only [Bool.and_eq_true] at hf
      exact hf.1
theorem ItIn.ok {x : XB} {sv : AV} (h : ItIn x sv) {l : Nat} (hf : fitsB x l = true) : ItOk x sv := ⟨h.one, h.solid, h.lo, h.hi, h.len, fit_sz hf⟩
theorem letters_mem {l : Nat} (h : letters.contains l = true) : l = 100 ∨ l = 117 ∨ l = 120 ∨ l = 111 ∨ l = 99 ∨ l = 112 ∨ l = 115 := by
  unfold letters at h
  simp at h
  omega
theorem converted_c (H : AH) (x : XB) (sv : AV) (t : List Nat) (ht : IsCv t) (hi : ItIn x sv) (hf : fit1 t x = true) : Fn Q YM 79 [.str t, IV x sv] H (fun w H' => w = .str (cvOut t x) ∧ H' = H) := by
  obtain ⟨left, d, l, hd, hl, rfl⟩ := ht
  rw [cvOut_T hd hl]
  unfold fit1 at hf
  rw [cv_letter] at hf
  have hok := hi.ok hf
  rcases letters_mem hl with rfl | rfl | rfl | rfl | rfl | rfl | rfl
  · exact converted100_c H x sv hok left d hd
  · exact converted117_c H x sv hok left d hd
  · exact converted120_c H x sv hok left d hd
  · exact converted111_c H x sv hok left d hd
  · exact converted99_c H x sv hok left d hd
  · exact converted112_c H x sv hok left d hd
  · exact converted115_c H x sv hok left d hd
theorem pad_byte (left : Bool) (n : Nat) {s : List Nat} (h : ∀ c ∈ s, c < 256) : ∀ c ∈ pad left n s, c < 256 := by
  intro c hc
  unfold pad at hc
  have hr : c ∈ List.replicate (n - s.length) 32 → c < 256 := fun h => by rw [(List.mem_replicate.1 h).2]; omega
  cases left
  · rcases List.mem_append.1 hc with h1 | h1
    · exact hr h1
    · exact h c h1
  · rcases List.mem_append.1 hc with h1 | h1
    · exact h c h1
    · exact hr h1
theorem hx_byte (b n : Nat) (hb : 2 ≤ b) (hb' : b ≤ 36) : ∀ c ∈ hx b n, c < 256 := fun c h => hxF_lt hb hb' c h
theorem dec_byte (n : Int) : ∀ c ∈ dec n, c < 256 := by
  intro c h
  have := hx_byte 10 n.natAbs (by omega) (by omega) c
  unfold dec at h
  split at h
  · rcases List.mem_cons.1 h with rfl | h
    · omega
    · exact this h
  · exact this h
theorem letter_byte {x : XB} {sv : AV} (h : ItIn x sv) (l : Nat) : ∀ c ∈ ZK l x, c < 256 := by
  intro c hc
  have h10 := hx_byte 10 (Wa x) (by omega) (by omega) c
  have h16 := hx_byte 16 (Wa x) (by omega) (by omega) c
  have h8 := hx_byte 8 (Wa x) (by omega) (by omega) c
  have hd := dec_byte x.vn c
  have hb := h.byte c
  unfold ZK at hc
  split at hc
  · exact hb hc
  split at hc
  · exact hd hc
  split at hc
  · exact h10 hc
  split at hc
  · exact h16 hc
  split at hc
  · exact h8 hc
  split at hc
  · rcases List.mem_append.1 hc with h1 | h1
    · simp at h1; omega
    · exact h16 h1
  · simp at hc; omega
theorem cvOut_byte {x : XB} {sv : AV} (h : ItIn x sv) (t : List Nat) : ∀ c ∈ cvOut t x, c < 256 := pad_byte _ _ (letter_byte h _)
end Go.Ev.C
end
section
set_option linter.unusedVariables false
set_option linter.unusedSimpArgs false
set_option linter.defProp false
set_option linter.all false
namespace Go.Ev.C
open Go.Proofs Go.Fmt Go.RowKit
set_option maxRecDepth 100000
set_option linter.unusedSimpArgs false
theorem outS_lit (c : Nat) (s : List Seg) (l : List XB) : WA (.lit c :: s) l = c :: WA s l := rfl
theorem cell_str (s : List Nat) : ZO (.str s) = true := rfl
theorem drop_at {α : Type} {l : List α} {n : Nat} {a : α} {r : List α} (h : l.drop n = a :: r) : l[n]? = some a ∧ l.drop (n + 1) = r := by
  constructor
  · have : (l.drop n)[0]? = some a := by rw [h]; rfl
    rw [List.getElem?_drop] at this
    simpa using this
  · have : (l.drop n).drop 1 = r := by rw [h]; rfl
    rw [List.drop_drop] at this
    exact this
theorem bts2 : Xt ⟨#[37, 37]⟩ = [37, 37] := rfl
theorem pct_pre {f : List Nat} {p : Nat} (hp : p < f.length) (hc : f[p] = 37) : pre (f.drop p) [37, 37] = decide (f[p + 1]? = some 37) := by
  have e : f.drop p = 37 :: f.drop (p + 1) := by rw [List.drop_eq_getElem_cons hp, hc]
  rw [e]
  unfold pre
  cases h : f.drop (p + 1) with
  | nil =>
    have : f[p + 1]? = none := by
      have : (f.drop (p + 1))[0]? = none := by rw [h]; rfl
      rw [List.getElem?_drop] at this
      simpa using this
    rw [this]
    simp
  | cons a q =>
    have : f[p + 1]? = some a := by
      have : (f.drop (p + 1))[0]? = some a := by rw [h]; rfl
      rw [List.getElem?_drop] at this
      simpa using this
    rw [this]
    simp
    rfl
set_option maxHeartbeats 4000000 in
theorem formatted_c (H : AH) (f : List Nat) (segs : List Seg) (l : List (XB × AV)) (sv iv : AV) (hp : parse f = some segs) (h8 : ∀ c ∈ f,c < 256) (hs : StrsAt H sv (Xw segs)) (hi : XR H iv l) (hl : (Xw segs).length = l.length)
    (hfit : ∀ (i : Nat) (t : List Nat) (x : XB × AV), (Xw segs)[i]? = some t → l[i]? = some x → fit1 t x.1 = true) (hin : ∀ x ∈ l, ItIn x.1 x.2) (hlen : f.length + 200 * l.length ≤ 90000000) :
    Fn Q YM 39 [.str f, sv, iv] H (fun w H' => w = .str (WA segs (l.map (·.1))) ∧ Up H H') := by
  refine Fn.intro (en39 _ _ _) ?_
  unfold c39 Tryz.f39
  simp only [Option.getD_some]
  repeat (first|(apply Zh;exact rfl)|apply Zb|apply WO.nil|(apply Zk;exact rfl;simp only [rE,rS,li,lo,reduceIte,Nat.reduceEqDiff,Nat.reduceAdd,Nat.reduceMul,Zw];exact rfl;exact rfl))
  refine YL (fun m t H' => ∃ (p n : Nat) (s : List Nat) (r : List Seg),Up H H' ∧ p + m = f.length ∧ at' f p = some r ∧ WA segs (l.map (·.1)) = s ++ WA r ((l.drop n).map (·.1)) ∧ (Xw segs).drop n = Xw r ∧ n ≤ l.length ∧ s.length ≤ p + 200 * n ∧ BufAt H H' H.next s ∧ t.get 0 = some (.str f) ∧ t.get 1 = some sv ∧ t.get 2 = some iv ∧ t.get 7 = some (.ptr H.next 0) ∧ t.get 8 = some (.int .i64 (n : Int)) ∧ t.get 9 = some (.int .i64 (p : Int))) f.length ?_ ?_
  · refine ⟨0, 0, [], segs, Up.box _ _, by omega, by rw [← parse_eq]; exact hp, by simp, by simp, by omega, by simp, ?_, ?_, ?_, ?_, ?_, ?_, ?_⟩
    · refine ⟨Nat.le_refl _, Nat.lt_succ_self _, by simp, .nilptr, .nilslice, ?_, .inl rfl, .inl ⟨rfl, rfl⟩, by simp [AV.blk]⟩
      simp [Zd]
    all_goals simp [Zd, Zm]
  rintro m t H' ⟨p, n, s, r, hu, hpm, hpar, hout, hcv, hnl, hsl, hbuf, ht0, ht1, ht2, ht7, ht8, ht9⟩ ih
  rcases Nat.lt_or_ge p f.length with hp1 | hp1
  rotate_left
  · obtain rfl : p = f.length := by omega
    have hlt : decide ((f.length : Int) < (f.length : Int)) = false := by simp
    repeat (first|(apply Zh;exact rfl)|apply Zb|apply WO.nil|(apply WO.op;(focus (simp only [rQ,Zc,li,lo,reduceIte,Nat.reduceEqDiff,Nat.reduceAdd,beq_self_eq_true,hlt];done));simp only [rE,rS,li,lo,reduceIte,Nat.reduceEqDiff,Nat.reduceAdd,Nat.reduceMul,Zi,ZF,ht0,ht1,ht2,ht7,ht8,ht9,bts2,Zw,hlt];exact rfl;exact rfl)|(apply WO.unwanted;(focus (simp only [rQ,Zc,li,lo,reduceIte,Nat.reduceEqDiff,Nat.reduceAdd,beq_self_eq_true,hlt];done));exact rfl))
    (first|(apply WF.condT;(focus (simp only [Zg,Zf,Zd,Zm,Bool.not_true,Bool.not_false,reduceIte,Nat.reduceEqDiff,hlt];done)))|(apply WF.condF;(focus (simp only [Zg,Zf,Zd,Zm,Bool.not_true,Bool.not_false,reduceIte,Nat.reduceEqDiff,hlt];done))))
    repeat (first|(apply Zh;exact rfl)|apply Zb|apply WO.nil|(apply WO.op;(focus (simp only [rQ,Zc,li,lo,reduceIte,Nat.reduceEqDiff,Nat.reduceAdd,beq_self_eq_true,hlt];done));simp only [rE,rS,li,lo,reduceIte,Nat.reduceEqDiff,Nat.reduceAdd,Nat.reduceMul,Zi,ZF,ht0,ht1,ht2,ht7,ht8,ht9,bts2,Zw,hlt];exact rfl;exact rfl)|(apply WO.unwanted;(focus (simp only [rQ,Zc,li,lo,reduceIte,Nat.reduceEqDiff,Nat.reduceAdd,beq_self_eq_true,hlt];done));exact rfl))
    (apply WO.call;(focus (simp only [rQ,Zc,li,lo,reduceIte,Nat.reduceEqDiff,Nat.reduceAdd,beq_self_eq_true];done));simp only [rE,rS,li,lo,reduceIte,Nat.reduceEqDiff,Nat.reduceAdd,Nat.reduceMul,Zi,ZF,ht0,ht1,ht2,ht7,ht8,ht9,bts2,Zw];exact rfl;exact string_c H _ H.next s hu hbuf (by omega);rintro _ H2 ⟨rfl,hu2⟩;refine ⟨_,rfl,?_⟩)
    repeat (first|(apply Zh;exact rfl)|apply Zb|apply WO.nil|(apply Zk;exact rfl;simp only [rE,rS,li,lo,reduceIte,Nat.reduceEqDiff,Nat.reduceAdd,Nat.reduceMul,Zi,ZF,ht0,ht1,ht2,ht7,ht8,ht9,bts2,Zw];exact rfl;exact rfl))
    (apply WF.ret; (focus (simp only [Zj, Zd, Zm, Zv, reduceIte, Nat.reduceEqDiff, rs39]; exact rfl)))
    rw [at_end (Nat.le_refl _)] at hpar
    obtain rfl := Option.some.inj hpar
    refine ⟨?_, hu2⟩
    rw [hout]
    simp [WA]
  have hlt : decide ((p : Int) < (f.length : Int)) = true := by simp; omega
  have w1 : IntKind.i64.wrap ((p : Int) + 1) = ((p + 1 : Nat) : Int) := by rw [Go.Ev.w64 (by omega) (by omega)]; omega
  have w2 : IntKind.i64.wrap ((p : Int) + 2) = ((p + 2 : Nat) : Int) := by rw [Go.Ev.w64 (by omega) (by omega)]; omega
  have wn : IntKind.i64.wrap ((n : Int) + 1) = ((n + 1 : Nat) : Int) := by rw [Go.Ev.w64 (by omega) (by omega)]; omega
  have hc8 : f[p] < 256 := h8 _ (List.getElem_mem hp1)
  repeat (first|(apply Zh;exact rfl)|apply Zb|apply WO.nil|(apply WO.op;(focus (simp only [rQ,Zc,li,lo,reduceIte,Nat.reduceEqDiff,Nat.reduceAdd,beq_self_eq_true,hlt];done));simp only [rE,rS,li,lo,reduceIte,Nat.reduceEqDiff,Nat.reduceAdd,Nat.reduceMul,Zi,ZF,ht0,ht1,ht2,ht7,ht8,ht9,bts2,Zw,hlt];exact rfl;exact rfl)|(apply WO.unwanted;(focus (simp only [rQ,Zc,li,lo,reduceIte,Nat.reduceEqDiff,Nat.reduceAdd,beq_self_eq_true,hlt];done));exact rfl))
  (first|(apply WF.condT;(focus (simp only [Zg,Zf,Zd,Zm,Bool.not_true,Bool.not_false,reduceIte,Nat.reduceEqDiff,hlt];done)))|(apply WF.condF;(focus (simp only [Zg,Zf,Zd,Zm,Bool.not_true,Bool.not_false,reduceIte,Nat.reduceEqDiff,hlt];done))))
  cases q1 : decide (((f[p] : Nat) : Int) = 37)
  · have hne : f[p] ≠ 37 := by
      have := of_decide_eq_false q1
      omega
    rw [at_lit hp1 hne] at hpar
    obtain ⟨r', hr', rfl⟩ := Option.map_eq_some_iff.1 hpar
    repeat (first|(apply Zh;exact rfl)|apply Zb|apply WO.nil|(apply WO.op;(focus (simp only [rQ,Zc,li,lo,reduceIte,Nat.reduceEqDiff,Nat.reduceAdd,beq_self_eq_true,hlt,q1];done));simp only [rE,rS,li,lo,reduceIte,Nat.reduceEqDiff,Nat.reduceAdd,Nat.reduceMul,Zi,ZF,ht0,ht1,ht2,ht7,ht8,ht9,bts2,Zw,hlt,XA hp1,q1];exact rfl;exact rfl)|(apply WO.unwanted;(focus (simp only [rQ,Zc,li,lo,reduceIte,Nat.reduceEqDiff,Nat.reduceAdd,beq_self_eq_true,hlt,q1];done));exact rfl))
    (first|(apply WF.condT;(focus (simp only [Zg,Zf,Zd,Zm,Bool.not_true,Bool.not_false,reduceIte,Nat.reduceEqDiff,q1];done)))|(apply WF.condF;(focus (simp only [Zg,Zf,Zd,Zm,Bool.not_true,Bool.not_false,reduceIte,Nat.reduceEqDiff,q1];done))))
    repeat (first|(apply Zh;exact rfl)|apply Zb|apply WO.nil|(apply WO.op;(focus (simp only [rQ,Zc,li,lo,reduceIte,Nat.reduceEqDiff,Nat.reduceAdd,beq_self_eq_true,hlt];done));simp only [rE,rS,li,lo,reduceIte,Nat.reduceEqDiff,Nat.reduceAdd,Nat.reduceMul,Zi,ZF,ht0,ht1,ht2,ht7,ht8,ht9,bts2,Zw,hlt,XA hp1];exact rfl;exact rfl)|(apply WO.unwanted;(focus (simp only [rQ,Zc,li,lo,reduceIte,Nat.reduceEqDiff,Nat.reduceAdd,beq_self_eq_true,hlt];done));exact rfl))
    (apply WO.call;(focus (simp only [rQ,Zc,li,lo,reduceIte,Nat.reduceEqDiff,Nat.reduceAdd,beq_self_eq_true];done));simp only [rE,rS,li,lo,reduceIte,Nat.reduceEqDiff,Nat.reduceAdd,Nat.reduceMul,Zi,ZF,ht0,ht1,ht2,ht7,ht8,ht9,bts2,Zw];exact rfl;exact writeByte_c H _ H.next _ s hu hbuf hc8 (by omega);rintro _ H2 ⟨rfl,hu2,hbuf2⟩;refine ⟨_,rfl,?_⟩)
    repeat (first|(apply Zh;exact rfl)|apply Zb|apply WO.nil|(apply Zk;exact rfl;simp only [rE,rS,li,lo,reduceIte,Nat.reduceEqDiff,Nat.reduceAdd,Nat.reduceMul,Zi,ZF,ht0,ht1,ht2,ht7,ht8,ht9,bts2,Zw,w1];exact rfl;exact rfl))
    refine Z4 ?_
    refine ih (m - 1) _ _ (by omega) ⟨p + 1, n, s ++ [f[p]], r', hu2, by omega, hr', ?_, by simpa [Xw] using hcv, hnl, ?_, hbuf2, ?_, ?_, ?_, ?_, ?_, ?_⟩
    · rw [hout, outS_lit]; simp
    · simp; omega
    all_goals simp [Zd, ht0, ht1, ht2, ht7, ht8]
  have heq : f[p] = 37 := by
    have := of_decide_eq_true q1
    omega
  have hpre := pct_pre hp1 heq
  have hsl1 := slS_from (s := f) (n := p) (by omega)
  repeat (first|(apply Zh;exact rfl)|apply Zb|apply WO.nil|(apply WO.op;(focus (simp only [rQ,Zc,li,lo,reduceIte,Nat.reduceEqDiff,Nat.reduceAdd,beq_self_eq_true,hlt,q1];done));simp only [rE,rS,li,lo,reduceIte,Nat.reduceEqDiff,Nat.reduceAdd,Nat.reduceMul,Zi,ZF,ht0,ht1,ht2,ht7,ht8,ht9,bts2,Zw,hlt,XA hp1,q1];exact rfl;exact rfl)|(apply WO.unwanted;(focus (simp only [rQ,Zc,li,lo,reduceIte,Nat.reduceEqDiff,Nat.reduceAdd,beq_self_eq_true,hlt,q1];done));exact rfl))
  (first|(apply WF.condT;(focus (simp only [Zg,Zf,Zd,Zm,Bool.not_true,Bool.not_false,reduceIte,Nat.reduceEqDiff,q1];done)))|(apply WF.condF;(focus (simp only [Zg,Zf,Zd,Zm,Bool.not_true,Bool.not_false,reduceIte,Nat.reduceEqDiff,q1];done))))
  repeat (first|(apply Zh;exact rfl)|apply Zb|apply WO.nil|(apply WO.op;(focus (simp only [rQ,Zc,li,lo,reduceIte,Nat.reduceEqDiff,Nat.reduceAdd,beq_self_eq_true,hlt];done));simp only [rE,rS,li,lo,reduceIte,Nat.reduceEqDiff,Nat.reduceAdd,Nat.reduceMul,Zi,ZF,ht0,ht1,ht2,ht7,ht8,ht9,bts2,Zw,hlt,hsl1];exact rfl;exact rfl)|(apply WO.unwanted;(focus (simp only [rQ,Zc,li,lo,reduceIte,Nat.reduceEqDiff,Nat.reduceAdd,beq_self_eq_true,hlt];done));exact rfl))
  (apply WO.call;(focus (simp only [rQ,Zc,li,lo,reduceIte,Nat.reduceEqDiff,Nat.reduceAdd,beq_self_eq_true];done));simp only [rE,rS,li,lo,reduceIte,Nat.reduceEqDiff,Nat.reduceAdd,Nat.reduceMul,Zi,ZF,ht0,ht1,ht2,ht7,ht8,ht9,bts2,Zw,hsl1];exact rfl;exact prefix_c _ _ _;rintro _ _ ⟨rfl,rfl⟩;refine ⟨_,rfl,?_⟩)
  by_cases h37 : f[p + 1]? = some 37
  · rw [hpre, decide_eq_true h37]
    rw [at_pct hp1 heq h37] at hpar
    obtain ⟨r', hr', rfl⟩ := Option.map_eq_some_iff.1 hpar
    have hp2 := (List.getElem?_eq_some_iff.1 h37).1
    repeat (first|(apply Zh;exact rfl)|apply Zb|apply WO.nil|(apply WO.op;(focus (simp only [rQ,Zc,li,lo,reduceIte,Nat.reduceEqDiff,Nat.reduceAdd,beq_self_eq_true,hlt];done));simp only [rE,rS,li,lo,reduceIte,Nat.reduceEqDiff,Nat.reduceAdd,Nat.reduceMul,Zi,ZF,ht0,ht1,ht2,ht7,ht8,ht9,bts2,Zw,hlt];exact rfl;exact rfl)|(apply WO.unwanted;(focus (simp only [rQ,Zc,li,lo,reduceIte,Nat.reduceEqDiff,Nat.reduceAdd,beq_self_eq_true,hlt];done));exact rfl))
    (first|(apply WF.condT;(focus (simp only [Zg,Zf,Zd,Zm,Bool.not_true,Bool.not_false,reduceIte,Nat.reduceEqDiff];done)))|(apply WF.condF;(focus (simp only [Zg,Zf,Zd,Zm,Bool.not_true,Bool.not_false,reduceIte,Nat.reduceEqDiff];done))))
    repeat (first|(apply Zh;exact rfl)|apply Zb|apply WO.nil|(apply WO.op;(focus (simp only [rQ,Zc,li,lo,reduceIte,Nat.reduceEqDiff,Nat.reduceAdd,beq_self_eq_true,hlt];done));simp only [rE,rS,li,lo,reduceIte,Nat.reduceEqDiff,Nat.reduceAdd,Nat.reduceMul,Zi,ZF,ht0,ht1,ht2,ht7,ht8,ht9,bts2,Zw,hlt];exact rfl;exact rfl)|(apply WO.unwanted;(focus (simp only [rQ,Zc,li,lo,reduceIte,Nat.reduceEqDiff,Nat.reduceAdd,beq_self_eq_true,hlt];done));exact rfl))
    (apply WO.call;(focus (simp only [rQ,Zc,li,lo,reduceIte,Nat.reduceEqDiff,Nat.reduceAdd,beq_self_eq_true];done));simp only [rE,rS,li,lo,reduceIte,Nat.reduceEqDiff,Nat.reduceAdd,Nat.reduceMul,Zi,ZF,ht0,ht1,ht2,ht7,ht8,ht9,bts2,Zw];exact rfl;exact writeByte_c H _ H.next 37 s hu hbuf (by omega) (by omega);rintro _ H2 ⟨rfl,hu2,hbuf2⟩;refine ⟨_,rfl,?_⟩)
    repeat (first|(apply Zh;exact rfl)|apply Zb|apply WO.nil|(apply Zk;exact rfl;simp only [rE,rS,li,lo,reduceIte,Nat.reduceEqDiff,Nat.reduceAdd,Nat.reduceMul,Zi,ZF,ht0,ht1,ht2,ht7,ht8,ht9,bts2,Zw,w2];exact rfl;exact rfl))
    refine Z4 ?_
    refine ih (f.length - (p + 2)) _ _ (by omega) ⟨p + 2, n, s ++ [37], r', hu2, by omega, hr', ?_, by simpa [Xw] using hcv, hnl, ?_, hbuf2, ?_, ?_, ?_, ?_, ?_, ?_⟩
    · rw [hout]; simp [WA]
    · simp; omega
    all_goals simp [Zd, ht0, ht1, ht2, ht7, ht8]
  rw [hpre, decide_eq_false h37]
  rw [at_cv hp1 heq h37] at hpar
  cases hse : YG f 2 (Yh f p) with
  | none => rw [hse] at hpar; cases hpar
  | some e =>
  rw [hse] at hpar
  dsimp only at hpar
  obtain ⟨r', hr', rfl⟩ := Option.map_eq_some_iff.1 hpar
  have he := Xk hse
  have hpd := Wh f p
  have hiscv := isCv hp1 heq hse
  generalize htt : (f.drop p).take (e - p) = tt at *
  have htl : tt.length = e - p := by rw [← htt]; simp; omega
  obtain ⟨hcn, hcv'⟩ := drop_at (show (Xw segs).drop n = tt :: Xw r' from hcv)
  have hn1 : n < l.length := by rw [← hl]; exact (List.getElem?_eq_some_iff.1 hcn).1
  have hln : l[n]? = some l[n] := List.getElem?_eq_getElem hn1
  have hldrop : l.drop n = l[n] :: l.drop (n + 1) := List.drop_eq_getElem_cons hn1
  generalize hx : l[n] = x at *
  have hfx := hfit n tt x hcn hln
  have hxi := hin x (by rw [← hx]; exact List.getElem_mem hn1)
  obtain ⟨sb, soff, scap, sc, rfl, hsc, hscell⟩ := (hs.up hu).at hcn
  obtain ⟨ib, ioff, icap, ic, rfl, hic, hicell⟩ := (hi.up hu).at hln
  have hcs : n < (Xw segs).length := by omega
  have hol := cvOut_len hiscv hfx
  have we : IntKind.i64.wrap ((p : Int) + (tt.length : Int)) = ((e : Nat) : Int) := by rw [Go.Ev.w64 (by omega) (by omega)]; omega
  repeat (first|(apply Zh;exact rfl)|apply Zb|apply WO.nil|(apply WO.op;(focus (simp only [rQ,Zc,li,lo,reduceIte,Nat.reduceEqDiff,Nat.reduceAdd,beq_self_eq_true,hlt];done));simp only [rE,rS,li,lo,reduceIte,Nat.reduceEqDiff,Nat.reduceAdd,Nat.reduceMul,Zi,ZF,ht0,ht1,ht2,ht7,ht8,ht9,bts2,Zw,hlt];exact rfl;exact rfl)|(apply WO.unwanted;(focus (simp only [rQ,Zc,li,lo,reduceIte,Nat.reduceEqDiff,Nat.reduceAdd,beq_self_eq_true,hlt];done));exact rfl))
  (first|(apply WF.condT;(focus (simp only [Zg,Zf,Zd,Zm,Bool.not_true,Bool.not_false,reduceIte,Nat.reduceEqDiff];done)))|(apply WF.condF;(focus (simp only [Zg,Zf,Zd,Zm,Bool.not_true,Bool.not_false,reduceIte,Nat.reduceEqDiff];done))))
  repeat (first|(apply Zh;exact rfl)|apply Zb|apply WO.nil|(apply WO.op;(focus (simp only [rQ,Zc,li,lo,reduceIte,Nat.reduceEqDiff,Nat.reduceAdd,beq_self_eq_true,hlt];done));simp only [rE,rS,li,lo,reduceIte,Nat.reduceEqDiff,Nat.reduceAdd,Nat.reduceMul,Zi,ZF,ht0,ht1,ht2,ht7,ht8,ht9,bts2,Zw,hlt];exact rfl;exact rfl)|(apply WO.unwanted;(focus (simp only [rQ,Zc,li,lo,reduceIte,Nat.reduceEqDiff,Nat.reduceAdd,beq_self_eq_true,hlt];done));exact rfl))
  (apply YB; kernel_rfl; kernel_rfl)
  (refine Zs ?_;(iterate 8 (first|(apply ZU.pure;kernel_rfl;kernel_rfl;(focus ((simp only [rQ,Zc,li,lo,reduceIte,Nat.reduceEqDiff,Nat.reduceAdd,beq_self_eq_true];done)));simp only [rE,rS,li,lo,reduceIte,Nat.reduceEqDiff,Nat.reduceAdd,Nat.reduceMul,Zi,ZF,ht0,ht1,ht2,ht7,ht8,ht9,bts2,Zw,ZH und74 sz9 hcs,ZH und22 ZR hn1,Za ZA,Ze ZE ZR,hsc,hscell,hic,hicell,cell_str];exact rfl;exact rfl)|(apply ZU.load;kernel_rfl;kernel_rfl;(focus ((simp only [rQ,Zc,li,lo,reduceIte,Nat.reduceEqDiff,Nat.reduceAdd,beq_self_eq_true];done)));simp only [rE,rS,li,lo,reduceIte,Nat.reduceEqDiff,Nat.reduceAdd,Nat.reduceMul,Zi,ZF,ht0,ht1,ht2,ht7,ht8,ht9,bts2,Zw,ZH und74 sz9 hcs,ZH und22 ZR hn1,Za ZA,Ze ZE ZR,hsc,hscell,hic,hicell,cell_str];exact rfl;exact rfl)));(iterate 2 (apply ZU.later;kernel_rfl));refine ZU.nil ?_)
  (apply ZZ.call (e := 8);kernel_rfl;simp only [li];exact rfl;(focus (simp only [rQ,Zc,li,lo,reduceIte,Nat.reduceEqDiff,Nat.reduceAdd,beq_self_eq_true];done));simp only [rE,rS,li,lo,reduceIte,Nat.reduceEqDiff,Nat.reduceAdd,Nat.reduceMul,Zi,ZF,ht0,ht1,ht2,ht7,ht8,ht9,bts2,Zw];exact rfl;exact converted_c _ x.1 x.2 tt hiscv hxi hfx;rintro _ H' ⟨rfl,rfl⟩;refine ⟨_,rfl,?_,?_⟩;(focus exact Zx (by kernel_rfl)))
  (refine Zs ?_; (iterate 10 (apply ZU.later; kernel_rfl)); refine ZU.nil ?_)
  (apply ZZ.call (e := 9);kernel_rfl;simp only [li];exact rfl;(focus (simp only [rQ,Zc,li,lo,reduceIte,Nat.reduceEqDiff,Nat.reduceAdd,beq_self_eq_true];done));simp only [rE,rS,li,lo,reduceIte,Nat.reduceEqDiff,Nat.reduceAdd,Nat.reduceMul,Zi,ZF,ht0,ht1,ht2,ht7,ht8,ht9,bts2,Zw];exact rfl;exact writeString_c H _ H.next (cvOut tt x.1) s hu hbuf (cvOut_byte hxi tt) (by omega);rintro _ H2 ⟨rfl,hu2,hbuf2⟩;refine ⟨_,rfl,?_,?_⟩;(focus exact Zx (by kernel_rfl)))
  (refine Zs ?_; (iterate 10 (apply ZU.later; kernel_rfl)); refine ZU.nil ?_)
  (apply ZZ.all; kernel_rfl; kernel_rfl)
  obtain ⟨sb', soff', scap', sc', hsv', hsc', hscell'⟩ := (hs.up hu2).at hcn
  cases hsv'
  repeat (first|(apply Zh;exact rfl)|apply Zb|apply WO.nil|(apply Zk;exact rfl;simp only [rE,rS,li,lo,reduceIte,Nat.reduceEqDiff,Nat.reduceAdd,Nat.reduceMul,Zi,ZF,ht0,ht1,ht2,ht7,ht8,ht9,bts2,Zw,ZH und74 sz9 hcs,Za ZA,hsc',hscell',cell_str,we,wn];exact rfl;exact rfl))
  refine Z4 ?_
  refine ih (f.length - e) _ _ (by omega) ⟨e, n + 1, s ++ cvOut tt x.1, r', hu2, by omega, hr', ?_, hcv', by omega, ?_, hbuf2, ?_, ?_, ?_, ?_, ?_, ?_⟩
  · rw [hout, hldrop]
    simp [WA]
  · simp; omega
  all_goals simp [Zd, ht0, ht1, ht2, ht7, ht8]
end Go.Ev.C
end
section
set_option linter.unusedVariables false
set_option linter.unusedSimpArgs false
set_option linter.defProp false
set_option linter.all false
namespace Go.Ev.C
open Go.Proofs Go.Fmt Go.RowKit
set_option maxRecDepth 100000
set_option linter.unusedSimpArgs false
theorem cvs_isCv {f : List Nat} : ∀ (m p : Nat) (r : List Seg), f.length - p ≤ m → at' f p = some r → ∀ t ∈ Xw r, IsCv t
  | 0, p, r, hm, h, t, ht => by
    rw [at_end (by omega)] at h
    cases h
    cases ht
  | m + 1, p, r, hm, h, t, ht => by
    rcases Nat.lt_or_ge p f.length with hp | hp
    · by_cases hc : f[p] = 37
      · by_cases h37 : f[p + 1]? = some 37
        · rw [at_pct hp hc h37] at h
          obtain ⟨r', hr', rfl⟩ := Option.map_eq_some_iff.1 h
          exact cvs_isCv m (p + 2) r' (by omega) hr' t ht
        · rw [at_cv hp hc h37] at h
          cases hs : YG f 2 (Yh f p) with
          | none => rw [hs] at h; cases h
          | some e =>
            rw [hs] at h
            dsimp only at h
            obtain ⟨r', hr', rfl⟩ := Option.map_eq_some_iff.1 h
            have he := Xk hs
            have hd := Wh f p
            rcases List.mem_cons.1 ht with rfl | ht
            · exact isCv hp hc hs
            · exact cvs_isCv m e r' (by omega) hr' t ht
      · rw [at_lit hp hc] at h
        obtain ⟨r', hr', rfl⟩ := Option.map_eq_some_iff.1 h
        exact cvs_isCv m (p + 1) r' (by omega) hr' t ht
    · rw [at_end hp] at h
      cases h
      cases ht
theorem parse_isCv {f : List Nat} {segs : List Seg} (h : parse f = some segs) : ∀ t ∈ Xw segs, IsCv t := cvs_isCv _ 0 _ (Nat.le_refl _) (by rw [← parse_eq]; exact h)
theorem cv_len {t : List Nat} (h : IsCv t) : 2 ≤ t.length ∧ t.length ≤ 5 := by
  obtain ⟨left, d, l, hd, hl, rfl⟩ := h
  have := wid_len hd
  unfold Xb
  cases left <;> simp <;> omega
theorem idx_last {t : List Nat} (h : IsCv t) : XN Q 9 (.str t) (.int .i64 ((t.length - 1 : Nat) : Int)) = some (.int .u8 (YH t : Int)) := by
  have hl := cv_len h
  rw [XA (by omega)]
  unfold YH
  rw [List.getLast?_eq_getElem?, List.getElem?_eq_getElem (by omega)]
  rfl
def X9 : List (List Nat) → List XB → Bool
  | t :: ts, x :: l => fit1 t x && X9 ts l
  | _, _ => true
/-- What Format answers. -/
def fmtR (f : List Nat) (l : List XB) : List Nat × Int := match parse f with
  | none => ([], 5)
  | some segs => if (Xw segs).length = l.length ∧ X9 (Xw segs) l = true then (WA segs l, 0) else ([], 1)
theorem allFit_get : ∀ {ts : List (List Nat)} {l : List XB}, X9 ts l = true → ∀ (i : Nat) (t : List Nat) (x : XB), ts[i]? = some t → l[i]? = some x → fit1 t x = true
  | [], _, _, i, t, x, h1, _ => by simp at h1
  | _ :: _, [], _, i, t, x, _, h2 => by simp at h2
  | t0 :: ts, x0 :: l, h, i, t, x, h1, h2 => by
    unfold X9 at h
    rw [Bool.and_eq_true] at h
    cases i with
    | zero =>
      simp at h1 h2
      subst h1 h2
      exact h.1
    | succ i =>
      simp at h1 h2
      exact allFit_get h.2 i t x h1 h2
theorem allFit_of : ∀ {ts : List (List Nat)} {l : List XB}, (∀ (i : Nat) (t : List Nat) (x : XB), ts[i]? = some t → l[i]? = some x → fit1 t x = true) → X9 ts l = true
  | [], _, _ => rfl
  | _ :: _, [], _ => rfl
  | t0 :: ts, x0 :: l, h => by
    unfold X9
    rw [Bool.and_eq_true]
    exact ⟨h 0 t0 x0 rfl rfl, allFit_of fun i t x h1 h2 => h (i + 1) t x (by simpa using h1) (by simpa using h2)⟩
set_option maxHeartbeats 4000000 in
theorem format_c (H : AH) (f : List Nat) (l : List (XB × AV)) (iv : AV) (h8 : ∀ c ∈ f, c < 256) (hi : XR H iv l) (hin : ∀ x ∈ l, ItIn x.1 x.2) (hlen : f.length + 200 * l.length ≤ 90000000) :
    Fn Q YM 11 [.str f, iv] H (fun w H' => w = .tuple [.str (fmtR f (l.map (·.1))).1, .int .i64 (fmtR f (l.map (·.1))).2] ∧ Up H H') := by
  refine Fn.intro (en11 _ _) ?_
  have his := hi.1
  unfold c11 Tryz.f11
  simp only [Option.getD_some]
  repeat (first|(apply Zh;exact rfl)|apply Zb|apply WO.nil|(apply Zk;exact rfl;simp only [rE,rS,li,lo,reduceIte,Nat.reduceEqDiff,Nat.reduceAdd,Nat.reduceMul,Zw];exact rfl;exact rfl))
  (apply WO.call;(focus (simp only [rQ,Zc,li,lo,reduceIte,Nat.reduceEqDiff,Nat.reduceAdd,beq_self_eq_true];done));simp only [rE,rS,li,lo,reduceIte,Nat.reduceEqDiff,Nat.reduceAdd,Nat.reduceMul,Zw];exact rfl;exact checkFormat_c _ f (by omega);rintro _ H1 ⟨hu1,hpost⟩;refine ⟨_,rfl,?_⟩)
  unfold fmtR
  cases hp : parse f with
  | none =>
    rw [hp] at hpost
    subst hpost
    have d5 : decide ((5 : Int) = 0) = false := rfl
    repeat (first|(apply Zh;exact rfl)|apply Zb|apply WO.nil|(apply WO.op;(focus (simp only [rQ,Zc,li,lo,reduceIte,Nat.reduceEqDiff,Nat.reduceAdd,beq_self_eq_true,d5];done));simp only [rE,rS,li,lo,reduceIte,Nat.reduceEqDiff,Nat.reduceAdd,Nat.reduceMul,d5];exact rfl;exact rfl)|(apply WO.unwanted;(focus (simp only [rQ,Zc,li,lo,reduceIte,Nat.reduceEqDiff,Nat.reduceAdd,beq_self_eq_true,d5];done));exact rfl))
    (first|(apply WF.condT;(focus (simp only [Zg,Zf,Zd,Zm,Bool.not_true,Bool.not_false,reduceIte,Nat.reduceEqDiff,d5];done)))|(apply WF.condF;(focus (simp only [Zg,Zf,Zd,Zm,Bool.not_true,Bool.not_false,reduceIte,Nat.reduceEqDiff,d5];done))))
    repeat (first|(apply Zh;exact rfl)|apply Zb|apply WO.nil|(apply Zk;exact rfl;simp only [rE,rS,li,lo,reduceIte,Nat.reduceEqDiff,Nat.reduceAdd,Nat.reduceMul,Zw];exact rfl;exact rfl))
    (apply WF.ret; (focus (simp only [Zj, Zd, Zm, Zv, reduceIte, Nat.reduceEqDiff, rs11]; exact rfl)))
    exact ⟨rfl, hu1⟩
  | some segs =>
  rw [hp] at hpost
  obtain ⟨v, rfl, hown⟩ := hpost
  have hstr := hown.strs
  have hss := hstr.1
  have hcv := parse_isCv hp
  have d5 : decide ((0 : Int) = 0) = true := rfl
  repeat (first|(apply Zh;exact rfl)|apply Zb|apply WO.nil|(apply WO.op;(focus (simp only [rQ,Zc,li,lo,reduceIte,Nat.reduceEqDiff,Nat.reduceAdd,beq_self_eq_true,d5];done));simp only [rE,rS,li,lo,reduceIte,Nat.reduceEqDiff,Nat.reduceAdd,Nat.reduceMul,d5];exact rfl;exact rfl)|(apply WO.unwanted;(focus (simp only [rQ,Zc,li,lo,reduceIte,Nat.reduceEqDiff,Nat.reduceAdd,beq_self_eq_true,d5];done));exact rfl))
  (first|(apply WF.condT;(focus (simp only [Zg,Zf,Zd,Zm,Bool.not_true,Bool.not_false,reduceIte,Nat.reduceEqDiff,d5];done)))|(apply WF.condF;(focus (simp only [Zg,Zf,Zd,Zm,Bool.not_true,Bool.not_false,reduceIte,Nat.reduceEqDiff,d5];done))))
  repeat (first|(apply Zh;exact rfl)|apply Zb|apply WO.nil|(apply WO.op;(focus (simp only [rQ,Zc,li,lo,reduceIte,Nat.reduceEqDiff,Nat.reduceAdd,beq_self_eq_true,d5];done));simp only [rE,rS,li,lo,reduceIte,Nat.reduceEqDiff,Nat.reduceAdd,Nat.reduceMul,d5,und74,und22,ZP und74 hss,ZP und22 his];exact rfl;exact rfl)|(apply WO.unwanted;(focus (simp only [rQ,Zc,li,lo,reduceIte,Nat.reduceEqDiff,Nat.reduceAdd,beq_self_eq_true,d5];done));exact rfl))
  cases dl : decide (((Xw segs).length : Int) = (l.length : Int))
  · have hne : (Xw segs).length ≠ l.length := by
      have := of_decide_eq_false dl
      omega
    repeat (first|(apply Zh;exact rfl)|apply Zb|apply WO.nil|(apply Zk;exact rfl;simp only [rE,rS,li,lo,reduceIte,Nat.reduceEqDiff,Nat.reduceAdd,Nat.reduceMul,dl];exact rfl;exact rfl))
    (first|(apply WF.condT;(focus (simp only [Zg,Zf,Zd,Zm,Bool.not_true,Bool.not_false,reduceIte,Nat.reduceEqDiff,dl];done)))|(apply WF.condF;(focus (simp only [Zg,Zf,Zd,Zm,Bool.not_true,Bool.not_false,reduceIte,Nat.reduceEqDiff,dl];done))))
    repeat (first|(apply Zh;exact rfl)|apply Zb|apply WO.nil|(apply Zk;exact rfl;simp only [rE,rS,li,lo,reduceIte,Nat.reduceEqDiff,Nat.reduceAdd,Nat.reduceMul,Zw];exact rfl;exact rfl))
    (apply WF.ret; (focus (simp only [Zj, Zd, Zm, Zv, reduceIte, Nat.reduceEqDiff, rs11]; exact rfl)))
    refine ⟨?_, hu1⟩
    simp [hne]
  have hll : (Xw segs).length = l.length := by
    have := of_decide_eq_true dl
    omega
  repeat (first|(apply Zh;exact rfl)|apply Zb|apply WO.nil|(apply Zk;exact rfl;simp only [rE,rS,li,lo,reduceIte,Nat.reduceEqDiff,Nat.reduceAdd,Nat.reduceMul,dl];exact rfl;exact rfl))
  (first|(apply WF.condT;(focus (simp only [Zg,Zf,Zd,Zm,Bool.not_true,Bool.not_false,reduceIte,Nat.reduceEqDiff,dl];done)))|(apply WF.condF;(focus (simp only [Zg,Zf,Zd,Zm,Bool.not_true,Bool.not_false,reduceIte,Nat.reduceEqDiff,dl];done))))
  repeat (first|(apply Zh;exact rfl)|apply Zb|apply WO.nil|(apply Zk;exact rfl;simp only [rE,rS,li,lo,reduceIte,Nat.reduceEqDiff,Nat.reduceAdd,Nat.reduceMul,und74,und22,ZP und74 hss];exact rfl;exact rfl))
  refine YL (fun m t H' => ∃ i : Nat,Up H H' ∧ Up H1 H' ∧ i + m = l.length ∧ (∀ (j : Nat) (tt : List Nat) (x : XB × AV),j < i → (Xw segs)[j]? = some tt → l[j]? = some x → fit1 tt x.1 = true) ∧ t.get 0 = some (.str f) ∧ t.get 1 = some iv ∧ t.get 6 = some v ∧ t.get 22 = some v ∧ t.get 23 = some (.int .i64 (l.length : Int)) ∧ t.get 24 = some (.int .i64 (i : Int))) l.length ?_ ?_
  · refine ⟨0, hu1, Up.refl _, by omega, fun j _ _ h => by omega, ?_, ?_, ?_, ?_, ?_, ?_⟩
    all_goals simp [Zd, Zm, hll]
  rintro m t H' ⟨i, hu, hu2, him, hok, ht0, ht1, ht6, ht22, ht23, ht24⟩ ih
  by_cases hil : i < l.length
  · have hlt : decide ((i : Int) < (l.length : Int)) = true := by simp; omega
    have hcs : i < (Xw segs).length := by omega
    have htt : (Xw segs)[i]? = some (Xw segs)[i] := List.getElem?_eq_getElem hcs
    have hln : l[i]? = some l[i] := List.getElem?_eq_getElem hil
    have hci : IsCv (Xw segs)[i] := hcv _ (List.getElem_mem hcs)
    have hxi := hin l[i] (List.getElem_mem hil)
    generalize (Xw segs)[i] = tt at *
    generalize l[i] = x at *
    obtain ⟨sb, soff, scap, sc, rfl, hsc, hscell⟩ := (hstr.up hu2).at htt
    obtain ⟨ib, ioff, icap, ic, rfl, hic, hicell⟩ := (hi.up hu).at hln
    have hcl := cv_len hci
    have we : IntKind.i64.wrap ((tt.length : Int) - 1) = ((tt.length - 1 : Nat) : Int) := by rw [Go.Ev.w64 (by omega) (by omega)]; omega
    have hix := idx_last hci
    repeat (first|(apply Zh;exact rfl)|apply Zb|apply WO.nil|(apply WO.op;(focus (simp only [rQ,Zc,li,lo,reduceIte,Nat.reduceEqDiff,Nat.reduceAdd,beq_self_eq_true,hlt];done));simp only [rE,rS,li,lo,reduceIte,Nat.reduceEqDiff,Nat.reduceAdd,Nat.reduceMul,Zi,ZF,ht0,ht1,ht6,ht22,ht23,ht24,hlt];exact rfl;exact rfl)|(apply WO.unwanted;(focus (simp only [rQ,Zc,li,lo,reduceIte,Nat.reduceEqDiff,Nat.reduceAdd,beq_self_eq_true,hlt];done));exact rfl))
    (first|(apply WF.condT;(focus (simp only [Zg,Zf,Zd,Zm,Bool.not_true,Bool.not_false,reduceIte,Nat.reduceEqDiff,hlt];done)))|(apply WF.condF;(focus (simp only [Zg,Zf,Zd,Zm,Bool.not_true,Bool.not_false,reduceIte,Nat.reduceEqDiff,hlt];done))))
    repeat (first|(apply Zh;exact rfl)|apply Zb|apply WO.nil|(apply WO.op;(focus (simp only [rQ,Zc,li,lo,reduceIte,Nat.reduceEqDiff,Nat.reduceAdd,beq_self_eq_true,hlt];done));simp only [rE,rS,li,lo,reduceIte,Nat.reduceEqDiff,Nat.reduceAdd,Nat.reduceMul,Zi,ZF,ht0,ht1,ht6,ht22,ht23,ht24,hlt,ZH und74 sz9 hcs,Za ZA,hsc,hscell,cell_str];exact rfl;exact rfl)|(apply WO.unwanted;(focus (simp only [rQ,Zc,li,lo,reduceIte,Nat.reduceEqDiff,Nat.reduceAdd,beq_self_eq_true,hlt];done));exact rfl))
    (apply YB; kernel_rfl; kernel_rfl)
    (refine Zs ?_;(iterate 9 (first|(apply ZU.pure;kernel_rfl;kernel_rfl;(focus ((simp only [rQ,Zc,li,lo,reduceIte,Nat.reduceEqDiff,Nat.reduceAdd,beq_self_eq_true,hlt];done)));simp only [rE,rS,li,lo,reduceIte,Nat.reduceEqDiff,Nat.reduceAdd,Nat.reduceMul,Zi,ZF,ht0,ht1,ht6,ht22,ht23,ht24,hlt,ZH und22 ZR hil,Ze ZE ZR,hic,hicell,we,hix];exact rfl;exact rfl)|(apply ZU.load;kernel_rfl;kernel_rfl;(focus ((simp only [rQ,Zc,li,lo,reduceIte,Nat.reduceEqDiff,Nat.reduceAdd,beq_self_eq_true,hlt];done)));simp only [rE,rS,li,lo,reduceIte,Nat.reduceEqDiff,Nat.reduceAdd,Nat.reduceMul,Zi,ZF,ht0,ht1,ht6,ht22,ht23,ht24,hlt,ZH und22 ZR hil,Ze ZE ZR,hic,hicell,we,hix];exact rfl;exact rfl)));(iterate 2 (apply ZU.later;kernel_rfl));refine ZU.nil ?_)
    (apply ZZ.call (e := 9);kernel_rfl;simp only [li];exact rfl;(focus (simp only [rQ,Zc,li,lo,reduceIte,Nat.reduceEqDiff,Nat.reduceAdd,beq_self_eq_true];done));simp only [rE,rS,li,lo,reduceIte,Nat.reduceEqDiff,Nat.reduceAdd,Nat.reduceMul,Zi,ZF,ht0,ht1,ht6,ht22,ht23,ht24,cu38];exact rfl;exact fits_c _ x.1 x.2 hxi.one (YH tt);rintro _ H' ⟨rfl,rfl⟩;refine ⟨_,rfl,?_,?_⟩;(focus exact Zx (by kernel_rfl)))
    (refine Zs ?_;(iterate 10 (apply ZU.later;kernel_rfl));(iterate 1 (apply ZU.pure;kernel_rfl;kernel_rfl;(focus ((simp only [rQ,Zc,li,lo,reduceIte,Nat.reduceEqDiff,Nat.reduceAdd,beq_self_eq_true];done)));simp only [rE,rS,li,lo,reduceIte,Nat.reduceEqDiff,Nat.reduceAdd,Nat.reduceMul,Zi,ZF,ht0,ht1,ht6,ht22,ht23,ht24];exact rfl;exact rfl));refine ZU.nil ?_)
    (apply ZZ.all; kernel_rfl; kernel_rfl)
    cases hfx : fitsB x.1 (YH tt)
    · repeat (first|(apply Zh;exact rfl)|apply Zb|apply WO.nil|(apply Zk;exact rfl;simp only [rE,rS,li,lo,reduceIte,Nat.reduceEqDiff,Nat.reduceAdd,Nat.reduceMul,Zi,ZF,ht0,ht1,ht6,ht22,ht23,ht24,hfx];exact rfl;exact rfl))
      (first|(apply WF.condT;(focus (simp only [Zg,Zf,Zd,Zm,Bool.not_true,Bool.not_false,reduceIte,Nat.reduceEqDiff];done)))|(apply WF.condF;(focus (simp only [Zg,Zf,Zd,Zm,Bool.not_true,Bool.not_false,reduceIte,Nat.reduceEqDiff];done))))
      repeat (first|(apply Zh;exact rfl)|apply Zb|apply WO.nil|(apply Zk;exact rfl;simp only [rE,rS,li,lo,reduceIte,Nat.reduceEqDiff,Nat.reduceAdd,Nat.reduceMul,Zi,ZF,ht0,ht1,ht6,ht22,ht23,ht24,Zw];exact rfl;exact rfl))
      (apply WF.ret; (focus (simp only [Zj, Zd, Zm, Zv, reduceIte, Nat.reduceEqDiff, rs11]; exact rfl)))
      refine ⟨?_, hu⟩
      have hnf : X9 (Xw segs) (l.map (·.1)) ≠ true := fun h => by
        have := allFit_get h i tt x.1 htt (by rw [List.getElem?_map, hln]; rfl)
        unfold fit1 at this
        rw [hfx] at this
        cases this
      simp [hnf]
    · repeat (first|(apply Zh;exact rfl)|apply Zb|apply WO.nil|(apply Zk;exact rfl;simp only [rE,rS,li,lo,reduceIte,Nat.reduceEqDiff,Nat.reduceAdd,Nat.reduceMul,Zi,ZF,ht0,ht1,ht6,ht22,ht23,ht24,hfx];exact rfl;exact rfl))
      (first|(apply WF.condT;(focus (simp only [Zg,Zf,Zd,Zm,Bool.not_true,Bool.not_false,reduceIte,Nat.reduceEqDiff];done)))|(apply WF.condF;(focus (simp only [Zg,Zf,Zd,Zm,Bool.not_true,Bool.not_false,reduceIte,Nat.reduceEqDiff];done))))
      repeat (first|(apply Zh;exact rfl)|apply Zb|apply WO.nil|(apply Zk;exact rfl;simp only [rE,rS,li,lo,reduceIte,Nat.reduceEqDiff,Nat.reduceAdd,Nat.reduceMul,Zi,ZF,ht0,ht1,ht6,ht22,ht23,ht24,hfx];exact rfl;exact rfl))
      refine Z4 ?_
      refine ih (m - 1) _ _ (by omega) ⟨i + 1, hu, hu2, by omega, ?_, ?_, ?_, ?_, ?_, ?_, ?_⟩
      · intro j tt' x' hj h1 h2
        by_cases e : j = i
        · subst e
          rw [htt] at h1
          rw [hln] at h2
          cases h1
          cases h2
          exact hfx
        · exact hok j tt' x' (by omega) h1 h2
      · simp [Zd, ht0]
      · simp [Zd, ht1]
      · simp [Zd, ht6]
      · simp [Zd, ht22]
      · simp [Zd, ht23]
      · simp only [Zd, reduceIte]
        rw [Go.Ev.w64 (by omega) (by omega)]
        simp
  · have hlt : decide ((i : Int) < (l.length : Int)) = false := by simp; omega
    obtain rfl : i = l.length := by omega
    have hfit : ∀ (j : Nat) (tt : List Nat) (x : XB × AV), (Xw segs)[j]? = some tt → l[j]? = some x → fit1 tt x.1 = true := fun j tt x h1 h2 => hok j tt x (List.getElem?_eq_some_iff.1 h2).1 h1 h2
    have haf : X9 (Xw segs) (l.map (·.1)) = true := allFit_of fun j tt x h1 h2 => by
      rw [List.getElem?_map, Option.map_eq_some_iff] at h2
      obtain ⟨y, hy, rfl⟩ := h2
      exact hfit j tt y h1 hy
    repeat (first|(apply Zh;exact rfl)|apply Zb|apply WO.nil|(apply WO.op;(focus (simp only [rQ,Zc,li,lo,reduceIte,Nat.reduceEqDiff,Nat.reduceAdd,beq_self_eq_true,hlt];done));simp only [rE,rS,li,lo,reduceIte,Nat.reduceEqDiff,Nat.reduceAdd,Nat.reduceMul,Zi,ZF,ht0,ht1,ht6,ht22,ht23,ht24,hlt];exact rfl;exact rfl)|(apply WO.unwanted;(focus (simp only [rQ,Zc,li,lo,reduceIte,Nat.reduceEqDiff,Nat.reduceAdd,beq_self_eq_true,hlt];done));exact rfl))
    (first|(apply WF.condT;(focus (simp only [Zg,Zf,Zd,Zm,Bool.not_true,Bool.not_false,reduceIte,Nat.reduceEqDiff,hlt];done)))|(apply WF.condF;(focus (simp only [Zg,Zf,Zd,Zm,Bool.not_true,Bool.not_false,reduceIte,Nat.reduceEqDiff,hlt];done))))
    repeat (first|(apply Zh;exact rfl)|apply Zb|apply WO.nil|(apply WO.op;(focus (simp only [rQ,Zc,li,lo,reduceIte,Nat.reduceEqDiff,Nat.reduceAdd,beq_self_eq_true,hlt];done));simp only [rE,rS,li,lo,reduceIte,Nat.reduceEqDiff,Nat.reduceAdd,Nat.reduceMul,Zi,ZF,ht0,ht1,ht6,ht22,ht23,ht24,hlt];exact rfl;exact rfl)|(apply WO.unwanted;(focus (simp only [rQ,Zc,li,lo,reduceIte,Nat.reduceEqDiff,Nat.reduceAdd,beq_self_eq_true,hlt];done));exact rfl))
    (apply WO.call;(focus (simp only [rQ,Zc,li,lo,reduceIte,Nat.reduceEqDiff,Nat.reduceAdd,beq_self_eq_true];done));simp only [rE,rS,li,lo,reduceIte,Nat.reduceEqDiff,Nat.reduceAdd,Nat.reduceMul,Zi,ZF,ht0,ht1,ht6,ht22,ht23,ht24];exact rfl;exact formatted_c _ f segs l v iv hp h8 (hstr.up hu2) (hi.up hu) hll hfit hin hlen;rintro _ H3 ⟨rfl,hu3⟩;refine ⟨_,rfl,?_⟩)
    repeat (first|(apply Zh;exact rfl)|apply Zb|apply WO.nil|(apply Zk;exact rfl;simp only [rE,rS,li,lo,reduceIte,Nat.reduceEqDiff,Nat.reduceAdd,Nat.reduceMul,Zi,ZF,ht0,ht1,ht6,ht22,ht23,ht24];exact rfl;exact rfl))
    (apply WF.ret; (focus (simp only [Zj, Zd, Zm, Zv, reduceIte, Nat.reduceEqDiff, rs11]; exact rfl)))
    refine ⟨?_, hu.trans hu3⟩
    simp [hll, haf]
end Go.Ev.C
end
section
set_option linter.unusedVariables false
set_option linter.unusedSimpArgs false
set_option linter.defProp false
set_option linter.all false
namespace Go.Fmt
open Go.Ev.C
theorem get_left {f g : List Nat} {p : Nat} (h : p < f.length) : (f ++ g)[p]? = f[p]? := List.getElem?_append_left h
theorem scanK_left {f g : List Nat} : ∀ {k e r : Nat}, YG f k e = some r → YG (f ++ g) k e = some r
  | k, e, r, h => by
    have hlt := Xk h
    have he : e < f.length := by omega
    have he' : e < (f ++ g).length := by simp; omega
    have hg : (f ++ g)[e] = f[e] := List.getElem_append_left he
    cases hc : letters.contains f[e]
    · cases k with
      | zero => rw [scanK_zero he hc] at h; cases h
      | succ k =>
        rw [Xc he hc] at h
        rw [Xc he' (by rw [hg]; exact hc), hg]
        split at h
        · cases h
        · rename_i hd
          rw [if_neg hd]
          exact scanK_left h
    · rw [Y3 he hc] at h
      rw [Y3 he' (by rw [hg]; exact hc)]
      exact h
theorem scanK_right {f g : List Nat} : ∀ {k e : Nat}, YG (f ++ g) k (f.length + e) = (YG g k e).map (f.length + ·)
  | k, e => by
    rcases Nat.lt_or_ge e g.length with he | he
    · have he' : f.length + e < (f ++ g).length := by simp; omega
      have hg : (f ++ g)[f.length + e] = g[e] := by
        rw [List.getElem_append_right (by omega)]
        simp
      cases hc : letters.contains g[e]
      · cases k with
        | zero =>
          rw [scanK_zero he hc, scanK_zero he' (by rw [hg]; exact hc)]
          rfl
        | succ k =>
          rw [Xc he hc, Xc he' (by rw [hg]; exact hc), hg]
          split
          · rfl
          · rw [Nat.add_assoc]
            exact scanK_right
      · rw [Y3 he hc, Y3 he' (by rw [hg]; exact hc)]
        simp [Nat.add_assoc]
    · rw [scanK_none he, scanK_none (by simp; omega)]
      rfl
theorem at_right {f g : List Nat} : ∀ (m p : Nat), g.length - p ≤ m → at' (f ++ g) (f.length + p) = at' g p
  | m, p, hm => by
    rcases Nat.lt_or_ge p g.length with hp | hp
    rotate_left
    · rw [at_end hp, at_end (by simp; omega)]
    cases m with
    | zero => omega
    | succ m =>
    have hp' : f.length + p < (f ++ g).length := by simp; omega
    have hg : (f ++ g)[f.length + p] = g[p] := by
      rw [List.getElem_append_right (by omega)]
      simp
    have hg1 : (f ++ g)[f.length + p + 1]? = g[p + 1]? := by
      rw [List.getElem?_append_right (by omega)]
      congr 1
      omega
    by_cases hc : g[p] = 37
    · by_cases h37 : g[p + 1]? = some 37
      · rw [at_pct hp hc h37, at_pct hp' (by rw [hg]; exact hc) (by rw [hg1]; exact h37)]
        rw [Nat.add_assoc, at_right m (p + 2) (by omega)]
      · have hd : Yh (f ++ g) (f.length + p) = f.length + Yh g p := by
          unfold Yh
          rw [hg1]
          split <;> omega
        rw [at_cv hp hc h37, at_cv hp' (by rw [hg]; exact hc) (by rw [hg1]; exact h37), hd, scanK_right]
        cases hs : YG g 2 (Yh g p) with
        | none => rfl
        | some e =>
          have he := Xk hs
          have hpd := Wh g p
          have ht : ((f ++ g).drop (f.length + p)).take (f.length + e - (f.length + p)) = (g.drop p).take (e - p) := by
            rw [List.drop_append, List.drop_eq_nil_of_le (show f.length ≤ f.length + p by omega)]
            rw [show f.length + p - f.length = p from by omega, show f.length + e - (f.length + p) = e - p from by omega, List.nil_append]
          dsimp only [Option.map_some]
          rw [ht, at_right m e (by omega)]
    · rw [at_lit hp hc, at_lit hp' (by rw [hg]; exact hc), hg, Nat.add_assoc, at_right m (p + 1) (by omega)]
theorem at_left {f g : List Nat} : ∀ (m p : Nat) (a : List Seg), f.length - p ≤ m → p ≤ f.length → at' f p = some a → at' (f ++ g) p = (at' g 0).map (a ++ ·)
  | m, p, a, hm, hpl, h => by
    rcases Nat.lt_or_ge p f.length with hp | hp
    rotate_left
    · obtain rfl : p = f.length := by omega
      rw [at_end (Nat.le_refl _)] at h
      cases h
      have := at_right (f := f) (g := g) g.length 0 (by omega)
      rw [Nat.add_zero] at this
      rw [this]
      cases at' g 0 <;> rfl
    cases m with
    | zero => omega
    | succ m =>
    have hp' : p < (f ++ g).length := by simp; omega
    have hg : (f ++ g)[p] = f[p] := List.getElem_append_left hp
    by_cases hc : f[p] = 37
    · by_cases h37 : f[p + 1]? = some 37
      · rw [at_pct hp hc h37] at h
        obtain ⟨a', h', rfl⟩ := Option.map_eq_some_iff.1 h
        have h1 := (List.getElem?_eq_some_iff.1 h37).1
        rw [at_pct hp' (by rw [hg]; exact hc) (by rw [get_left h1]; exact h37), at_left m (p + 2) a' (by omega) (by omega) h']
        cases at' g 0 <;> simp
      · rw [at_cv hp hc h37] at h
        cases hs : YG f 2 (Yh f p) with
        | none => rw [hs] at h; cases h
        | some e =>
          rw [hs] at h
          dsimp only at h
          obtain ⟨a', h', rfl⟩ := Option.map_eq_some_iff.1 h
          have he := Xk hs
          have hpd := Wh f p
          have h1 : p + 1 < f.length := by omega
          have hd : Yh (f ++ g) p = Yh f p := by unfold Yh; rw [get_left h1]
          have ht : ((f ++ g).drop p).take (e - p) = (f.drop p).take (e - p) := by
            rw [List.drop_append_of_le_length hpl, List.take_append_of_le_length (by simp; omega)]
          rw [at_cv hp' (by rw [hg]; exact hc) (by rw [get_left h1]; exact h37), hd, scanK_left hs]
          dsimp only
          rw [ht, at_left m e a' (by omega) (by omega) h']
          cases at' g 0 <;> simp
    · rw [at_lit hp hc] at h
      obtain ⟨a', h', rfl⟩ := Option.map_eq_some_iff.1 h
      rw [at_lit hp' (by rw [hg]; exact hc), hg, at_left m (p + 1) a' (by omega) (by omega) h']
      cases at' g 0 <;> simp
theorem outS_append : ∀ {a : List Seg} {l : List XB} (b : List Seg) (m : List XB), (Xw a).length = l.length → WA (a ++ b) (l ++ m) = WA a l ++ WA b m
  | [], l, b, m, h => by
    obtain rfl : l = [] := List.length_eq_zero_iff.1 (by simpa [Xw] using h.symm)
    rfl
  | .lit c :: a, l, b, m, h => by
    show c :: WA (a ++ b) (l ++ m) = c :: WA a l ++ WA b m
    rw [outS_append b m (by simpa [Xw] using h)]
    rfl
  | .pct :: a, l, b, m, h => by
    show 37 :: WA (a ++ b) (l ++ m) = 37 :: WA a l ++ WA b m
    rw [outS_append b m (by simpa [Xw] using h)]
    rfl
  | .cv t :: a, [], b, m, h => by simp [Xw] at h
  | .cv t :: a, x :: l, b, m, h => by
    show cvOut t x ++ WA (a ++ b) (l ++ m) = (cvOut t x ++ WA a l) ++ WA b m
    rw [outS_append b m (by simpa [Xw] using h), List.append_assoc]
theorem allFit_append : ∀ {a : List (List Nat)} {l : List XB} (b : List (List Nat)) (m : List XB), a.length = l.length → X9 (a ++ b) (l ++ m) = (X9 a l && X9 b m)
  | [], l, b, m, h => by
    obtain rfl : l = [] := List.length_eq_zero_iff.1 (by simpa using h.symm)
    rfl
  | t :: a, [], b, m, h => by simp at h
  | t :: a, x :: l, b, m, h => by
    show (fit1 t x && X9 (a ++ b) (l ++ m)) = ((fit1 t x && X9 a l) && X9 b m)
    rw [allFit_append b m (by simpa using h), Bool.and_assoc]
end Go.Fmt
end
section
set_option linter.unusedVariables false
set_option linter.unusedSimpArgs false
set_option linter.defProp false
set_option linter.all false
namespace Go.Ev.C
open Go.Proofs Go.Fmt Go.RowKit
set_option maxRecDepth 100000
set_option linter.unusedSimpArgs false
/-- Items' cells, one after the other. -/
def itemL (l : List (XB × AV)) : List AV := (l.map fun x => IC x.1 x.2).flatten
theorem itemL_len (l : List (XB × AV)) : (itemL l).length = l.length * 10 := by
  induction l with
  | nil => rfl
  | cons x l ih =>
    have : itemL (x :: l) = IC x.1 x.2 ++ itemL l := rfl
    rw [this, List.length_append, ih, List.length_cons]
    show 10 + l.length * 10 = _
    omega
theorem IC_hole {x : XB} {sv : AV} (h : ItIn x sv) : (IC x sv).all ZO = true := by
  unfold IC
  simp [Zl, Zp, h.solid]
  rfl
theorem IC_one {x : XB} {sv : AV} (h : ItIn x sv) : (IC x sv).all Ye = true := by
  unfold IC
  simp [h.one]
  exact ⟨rfl, rfl, rfl, rfl, rfl, rfl, rfl, rfl, rfl⟩
theorem itemL_hole : ∀ {l : List (XB × AV)}, (∀ x ∈ l, ItIn x.1 x.2) → (itemL l).all ZO = true
  | [], _ => rfl
  | x :: l, h => by
    show (IC x.1 x.2 ++ itemL l).all ZO = true
    rw [List.all_append, IC_hole (h x (by simp)), itemL_hole fun y hy => h y (by simp [hy])]
    rfl
theorem itemL_one : ∀ {l : List (XB × AV)}, (∀ x ∈ l, ItIn x.1 x.2) → (itemL l).all Ye = true
  | [], _ => rfl
  | x :: l, h => by
    show (IC x.1 x.2 ++ itemL l).all Ye = true
    rw [List.all_append, IC_one (h x (by simp)), itemL_one fun y hy => h y (by simp [hy])]
    rfl
theorem itemL_cut : ∀ {l : List (XB × AV)} (c0 c1 : List AV),(∀ x ∈ l,ItIn x.1 x.2) → ∀ (i : Nat) (z : XB × AV),l[i]? = some z → cut (c0 ++ itemL l ++ c1) (c0.length + i * 10) 10 = some (IC z.1 z.2)
  | [], c0, c1, _, i, z, h => by simp at h
  | x :: l, c0, c1, hi, i, z, h => by
    cases i with
    | zero =>
      simp at h
      subst h
      have e : c0 ++ itemL (x :: l) ++ c1 = c0 ++ (IC x.1 x.2 ++ (itemL l ++ c1)) := by
        show c0 ++ (IC x.1 x.2 ++ itemL l) ++ c1 = _
        simp
      rw [e, Nat.zero_mul]
      exact cut_append_right (cut_append_left (cut_self rfl (IC_hole (hi x (by simp)))))
    | succ i =>
      have e : c0 ++ itemL (x :: l) ++ c1 = (c0 ++ IC x.1 x.2) ++ itemL l ++ c1 := by
        show c0 ++ (IC x.1 x.2 ++ itemL l) ++ c1 = _
        simp
      have := itemL_cut (l := l) (c0 ++ IC x.1 x.2) c1 (fun y hy => hi y (by simp [hy])) i z (by simpa using h)
      rw [e, ← this]
      congr 1
      rw [List.length_append]
      show _ = c0.length + 10 + i * 10
      omega
/-- Items, all of them, read. -/
theorem XR.new {H : AH} {v : AV} {l : List (XB × AV)} (h : XR H v l) : YZ 10 v H = some (l.length, itemL l) := by
  obtain ⟨h1, h2⟩ := h
  by_cases hl : l = []
  · subst hl
    cases h1 <;> rfl
  generalize hn : l.length = n at h1
  have hn0 : n ≠ 0 := fun e => hl (List.length_eq_zero_iff.1 (by omega))
  cases h1 with
  | nil => omega
  | sl b off n cap =>
    obtain ⟨c, _, hc, hr⟩ := h2 b off _ cap rfl hl
    refine newCells_some hn0 hc ?_
    refine cut_iff.2 ⟨by rw [itemL_len, hn], fun j hj => ?_⟩
    have hjl : j / 10 < l.length := by omega
    have hz : l[j / 10]? = some l[j / 10] := List.getElem?_eq_getElem hjl
    obtain ⟨_, k2⟩ := cut_iff.1 (hr (j / 10) _ hz)
    obtain ⟨w, p1, p2, p3⟩ := k2 (j % 10) (Nat.mod_lt _ (by omega))
    refine ⟨w, by rw [← p1]; congr 1; omega, p2, ?_⟩
    have key : ∀ (l : List (XB × AV)) (q r : Nat) (z : XB × AV), l[q]? = some z → r < 10 → (itemL l)[q * 10 + r]? = (IC z.1 z.2)[r]? := by
      intro l
      induction l with
      | nil => intro q r z h; simp at h
      | cons x l ih =>
        intro q r z h hr
        have e : itemL (x :: l) = IC x.1 x.2 ++ itemL l := rfl
        have hlen : (IC x.1 x.2).length = 10 := rfl
        cases q with
        | zero =>
          simp at h
          subst h
          rw [e, List.getElem?_append_left (by omega)]
          congr 1
          omega
        | succ q =>
          rw [e, List.getElem?_append_right (by omega), ← ih q r z (by simpa using h) hr]
          congr 1
          omega
    rw [← p3, ← key l (j / 10) (j % 10) _ hz (Nat.mod_lt _ (by omega))]
    congr 1
    omega
end Go.Ev.C
end
section
set_option linter.unusedVariables false
set_option linter.unusedSimpArgs false
set_option linter.defProp false
set_option linter.all false
namespace Go.Ev.C
open Go.Proofs Go.Fmt Go.RowKit
set_option maxRecDepth 100000
set_option linter.unusedSimpArgs false
theorem eq_tr (x : Int) : decide (x = x) = true := by simp
theorem sane_c2 (H : AH) : Fn Q YM 10 [] H (fun v H' => v = .bool true ∧ H' = H) := Fn.weaken (fun _ h => h.1) (sane_c H)
end Go.Ev.C
end
section
set_option linter.unusedVariables false
set_option linter.unusedSimpArgs false
set_option linter.defProp false
set_option linter.all false
namespace Go.Ev.C
open Go.Proofs
-- T2 int64 size 1 bytes 8
-- T3 int size 1 bytes 8
-- T4 bool size 1 bytes 1
-- T5 uint8 size 1 bytes 1
-- T9 string size 1 bytes 16
-- T22 []api.Item size 1 bytes 24
-- T24 []int64 size 1 bytes 24
-- T26 api.Errno size 1 bytes 8
-- T35 []uint8 size 1 bytes 24
-- T64 api.Int size 2 bytes 16
-- T66 api.Ty size 4 bytes 32
-- T68 api.Value size 3 bytes 32
-- T70 api.Item size 10 bytes 104
-- T71 uint64 size 1 bytes 8
-- T74 []string size 1 bytes 24
-- T75 []uint64 size 1 bytes 24
end Go.Ev.C
end
section
set_option linter.unusedVariables false
set_option linter.unusedSimpArgs false
set_option linter.defProp false
set_option linter.all false
namespace Go.Fmt
open Go.Ev.C
/-- A digit's number. -/
def dg (c : Nat) : Nat := if 48 ≤ c ∧ c ≤ 57 then c - 48 else if 97 ≤ c ∧ c ≤ 102 then c - 87 else 99
def valF (b : Nat) : Nat → List Nat → Nat
  | a, [] => a
  | a, c :: s => valF b (a * b + dg c) s
theorem valF_append (b : Nat) : ∀ (a : Nat) (s t : List Nat), valF b a (s ++ t) = valF b (valF b a s) t
  | a, [], t => rfl
  | a, c :: s, t => valF_append b (a * b + dg c) s t
theorem valF_le {b : Nat} (hb : 1 ≤ b) : ∀ (a : Nat) (s : List Nat), a ≤ valF b a s
  | a, [] => Nat.le_refl _
  | a, c :: s => by
    have h := valF_le hb (a * b + dg c) s
    have h1 : a * 1 ≤ a * b := Nat.mul_le_mul_left a hb
    show a ≤ valF b (a * b + dg c) s
    omega
theorem dg_ch {d : Nat} (h : d < 16) : dg (ch d) = d := by
  unfold dg ch
  by_cases h1 : d < 10
  · rw [if_pos h1, if_pos (by omega)]
    omega
  · rw [if_neg h1, if_neg (by omega), if_pos (by omega)]
    omega
theorem hxF_dig {b : Nat} (hb : 2 ≤ b) : ∀ (k n : Nat), ∀ c ∈ hxF b k n, ∃ d, d < b ∧ c = ch d
  | 0, n, c, h => by cases h
  | k + 1, n, c, h => by
    unfold hxF at h
    split at h
    · rename_i hn
      simp at h
      exact ⟨n, hn, h⟩
    · rcases List.mem_append.1 h with h | h
      · exact hxF_dig hb k _ c h
      · simp at h
        exact ⟨n % b, Nat.mod_lt _ (by omega), h⟩
theorem hxF_val {b : Nat} (hb : 2 ≤ b) (hb' : b ≤ 16) : ∀ (k n : Nat), n < 2 ^ k → 0 < k → valF b 0 (hxF b k n) = n
  | 0, n, _, h => by omega
  | k + 1, n, hn, _ => by
    unfold hxF
    by_cases h : n < b
    · rw [if_pos h]
      show 0 * b + dg (ch n) = n
      rw [dg_ch (by omega)]
      omega
    · rw [if_neg h, valF_append]
      have h1 := half_lt hb hn
      have hk : 0 < k := by
        rcases Nat.eq_zero_or_pos k with rfl | hk
        · have : 0 < n / b := Nat.div_pos (by omega) (by omega)
          simp at h1
          omega
        · exact hk
      rw [hxF_val hb hb' k _ h1 hk]
      show n / b * b + dg (ch (n % b)) = n
      have hm := Nat.mod_lt n (show 0 < b by omega)
      rw [dg_ch (by omega)]
      exact Nat.div_add_mod' n b
theorem ch48 {d : Nat} (h : ch d = 48) (hd : d < 36) : d = 0 := by
  unfold ch at h
  split at h <;> omega
/-- A numeral's first digit. -/
theorem hxF_head {b : Nat} (hb : 2 ≤ b) (hb' : b ≤ 36) : ∀ (k n : Nat), n < 2 ^ k → 0 < k → ∃ c s, hxF b k n = c :: s ∧ (c ≠ 48 ∨ s = [])
  | 0, n, _, h => by omega
  | k + 1, n, hn, _ => by
    unfold hxF
    by_cases h : n < b
    · rw [if_pos h]
      exact ⟨_, [], rfl, .inr rfl⟩
    · rw [if_neg h]
      have h1 := half_lt hb hn
      have hpos : 0 < n / b := Nat.div_pos (by omega) (by omega)
      have hk : 0 < k := by
        rcases Nat.eq_zero_or_pos k with rfl | hk
        · simp at h1
          omega
        · exact hk
      obtain ⟨c, s, e, hc⟩ := hxF_head hb hb' k (n / b) h1 hk
      rw [e]
      refine ⟨c, s ++ [ch (n % b)], rfl, .inl fun hc48 => ?_⟩
      rcases hc with hc | rfl
      · exact hc hc48
      · cases k with
        | zero => omega
        | succ k =>
          unfold hxF at e
          split at e
          · rename_i hlt
            have : ch (n / b) = c := by simpa using e
            rw [hc48] at this
            have := ch48 this (by omega)
            omega
          · have hne : hxF b k (n / b / b) = [] := by
              cases hh : hxF b k (n / b / b) with
              | nil => rfl
              | cons x y => rw [hh] at e; simp at e
            cases k with
            | zero =>
              rename_i hlt
              have : n / b < 2 ^ 1 := h1
              omega
            | succ k =>
              unfold hxF at hne
              split at hne <;> simp at hne
end Go.Fmt
end
section
set_option linter.unusedVariables false
set_option linter.unusedSimpArgs false
set_option linter.defProp false
set_option linter.all false
namespace Go.Ev.C
open Go.Proofs Go.Fmt Go.RowKit
set_option maxRecDepth 100000
set_option linter.unusedSimpArgs false
theorem wrap64n {x : Int} {n : Nat} (h : x = (n : Int)) (hn : n < 18446744073709551616) : IntKind.u64.wrap x = (n : Int) := by
  rw [wrap_u64, h]
  omega
end Go.Ev.C
end
section
set_option linter.unusedVariables false
set_option linter.unusedSimpArgs false
set_option linter.defProp false
set_option linter.all false
namespace Go.Ev.C
open Go.Proofs Go.Fmt Go.RowKit
set_option maxRecDepth 100000
set_option linter.unusedSimpArgs false
end Go.Ev.C
end
