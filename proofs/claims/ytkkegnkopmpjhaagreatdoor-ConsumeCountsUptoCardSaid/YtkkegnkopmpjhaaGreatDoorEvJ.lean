/- Contracts of counting; how arguments are read. -/
import Derived.Test.YtkkegnkopmpjhaaGreatDoorEvI
import Derived.Deep.Slices
import Derived.Deep.Fields
import Derived.Lib.SmallJoins
section
set_option linter.unusedVariables false
set_option linter.unusedSimpArgs false
set_option linter.defProp false
set_option linter.all false
namespace Go.Ev.C
open Go.Proofs
set_option maxRecDepth 100000
set_option linter.unusedSimpArgs false
/-- Rows of batches, one behind the other. -/
def RowsB (H : AH) (c : List AV) (l : List BatD) : Prop := c.length = l.length * 4 ∧ c.all oneA = true ∧ c.all noHole = true ∧ ∀ (i : Nat) (d : BatD), l[i]? = some d → ∃ rv, RecsAt H rv d.recs ∧ d.recs.length < 9223372036854775808 ∧ cut c (i * 4) 4 = some [.int .i64 d.cpu, rv, .int .i64 d.dr, .bool d.ah]
theorem RowsB.up {H H' : AH} (u : Up H H') {c : List AV} {l : List BatD} (h : RowsB H c l) : RowsB H' c l :=
  ⟨h.1, h.2.1, h.2.2.1, fun i d hi => by obtain ⟨rv, hd, hn, hc⟩ := h.2.2.2 i d hi; exact ⟨rv, hd.up u, hn, hc⟩⟩
theorem RowsB.nil (H : AH) : RowsB H [] [] := ⟨rfl, rfl, rfl, fun i d h => by simp at h⟩
theorem RowsB.one {H : AH} {cpu : Int} {rv : AV} {dr : Int} {ah : Bool} {l : List RecD} (hr : RecsAt H rv l) (hn : l.length < 9223372036854775808) : RowsB H [.int .i64 cpu, rv, .int .i64 dr, .bool ah] [⟨cpu, l, dr, ah⟩] := by
  have h1 := hr.1.one
  have h2 := hr.1.solid
  refine ⟨rfl, by simp [h1, one_int, one_bool], by simp [h2, hole_int, hole_bool], fun i d hi => ?_⟩
  cases i with
  | zero => cases hi; exact ⟨rv, hr, hn, cut_four (hole_int _ _) h2 (hole_int _ _) (hole_bool _)⟩
  | succ i => simp at hi
theorem RowsB.append {H : AH} {c c' : List AV} {l l' : List BatD} (h : RowsB H c l) (h' : RowsB H c' l') : RowsB H (c ++ c') (l ++ l') := by
  obtain ⟨h1, h2, h3, h4⟩ := h
  obtain ⟨k1, k2, k3, k4⟩ := h'
  refine ⟨by simp [h1, k1, Nat.add_mul], by rw [List.all_append, h2, k2]; rfl, by rw [List.all_append, h3, k3]; rfl, fun i d hi => ?_⟩
  by_cases hil : i < l.length
  · rw [List.getElem?_append_left hil] at hi
    obtain ⟨dv, hd, hn, hc⟩ := h4 i d hi
    exact ⟨dv, hd, hn, cut_append_left hc⟩
  · rw [List.getElem?_append_right (by omega)] at hi
    obtain ⟨dv, hd, hn, hc⟩ := k4 _ d hi
    refine ⟨dv, hd, hn, ?_⟩
    have := cut_append_right (c := c) hc
    rw [h1, ← Nat.add_mul, show l.length + (i - l.length) = i from by omega] at this
    exact this
theorem RowsB.bats {H : AH} {b n : Nat} {c : List AV} {l : List BatD} (h : RowsB H c l) (hb : b < H.next) (hc : H.cellsAt b = some c) (hn : n = l.length) (cap : Cap) : BatsAt H (.slice b 0 n cap) l := by
  subst hn
  obtain ⟨h1, h2, h3, h4⟩ := h
  refine ⟨.sl _ _ _ _, fun b' off n cap' e _ => ?_⟩
  cases e
  exact ⟨c, hb, hc, fun i d hi => by rw [Nat.zero_add]; exact h4 i d hi⟩
theorem BatsAt.rows {H : AH} {b off n : Nat} {cap : Cap} {l : List BatD} (h : BatsAt H (.slice b off n cap) l) (hne : l ≠ []) : n = l.length ∧ ∃ c cs, b < H.next ∧ H.cellsAt b = some c ∧ cut c off (l.length * 4) = some cs ∧ RowsB H cs l := by
  obtain ⟨hs, h2⟩ := h
  obtain ⟨c, hb, hc, hr⟩ := h2 b off n cap rfl hne
  obtain ⟨cs, h3, h4⟩ := cut_rows (c := c) (off := off) (n := l.length) (k := 4) fun i hi => by
    obtain ⟨dv, _, _, hcut⟩ := hr i l[i] (List.getElem?_eq_getElem hi)
    exact ⟨_, hcut⟩
  have h5 : ∀ (i : Nat) (d : BatD), l[i]? = some d → ∃ rv, RecsAt H rv d.recs ∧ d.recs.length < 9223372036854775808 ∧ cut cs (i * 4) 4 = some [.int .i64 d.cpu, rv, .int .i64 d.dr, .bool d.ah] := fun i d hi => by
    obtain ⟨dv, hd, hn, hcut⟩ := hr i d hi
    exact ⟨dv, hd, hn, by rw [h4 i (List.getElem?_eq_some_iff.1 hi).1]; exact hcut⟩
  refine ⟨by generalize hn : l.length = m at hs; cases hs; rfl, c, cs, hb, hc, h3, (cut_iff.1 h3).1, ?_, cut_all h3, h5⟩
  refine rows_all (cut_iff.1 h3).1 fun i hi => ?_
  obtain ⟨dv, hd, _, hcut⟩ := h5 i l[i] (List.getElem?_eq_getElem hi)
  exact ⟨_, hcut, by simp [one_int, one_bool, hd.1.one]⟩
theorem app36 (s x : AV) (H : AH) : appendU Q [36, 36] [s, x] H = (match newCells 4 x H with | some (n, cs) => appendTo 80 4 s n cs H | none => none) := by kernel_rfl

theorem newCellsB {H : AH} {v : AV} {l : List BatD} (h : BatsAt H v l) : ∃ cs, (∀ H', Up H H' → newCells 4 v H' = some (l.length, cs)) ∧ (l = [] → cs = []) ∧ RowsB H cs l := by
  by_cases hne : l = []
  · subst hne
    refine ⟨[], fun H' _ => ?_, fun _ => rfl, RowsB.nil H⟩
    have h1 := h.1
    cases h1 <;> rfl
  · have h1 := h.1
    have hlen : l.length ≠ 0 := fun h => hne (List.length_eq_zero_iff.1 h)
    generalize hnl : l.length = n at h1
    cases h1 with
    | nil => exact absurd hnl hlen
    | sl b off _ cap =>
      obtain ⟨_, c, cs, hb, hc, hcut, hrow⟩ := h.rows hne
      rw [hnl] at hcut hlen
      exact ⟨cs, fun H' hu => newCells_some hlen (by rw [hu.cellsAt hb]; exact hc) hcut, fun h => absurd h hne, hrow⟩

/-- Two lists of batches onto a fresh empty one. -/
theorem append2 {H0 H : AH} {e : Nat} {l m : List BatD} {lv mv : AV} (hg : H.t.get e = some (.cells 80 [] 0 false false)) (he0 : H0.next ≤ e) (hu : Up H0 H) (hl : BatsAt H0 lv l) (hm : BatsAt H0 mv m) (hn : l.length + m.length ≤ 100000000) :
    ∃ v1 H1 v2 H2, appendU Q [36, 36] [.slice e 0 0 (.is 0), lv] H = some (v1, H1) ∧ appendU Q [36, 36] [v1, mv] H1 = some (v2, H2) ∧ Up H0 H2 ∧ BatsAt H2 v2 (l ++ m) := by
  obtain ⟨cl, hcl, hcl0, hrl⟩ := newCellsB hl
  obtain ⟨cm, hcm, hcm0, hrm⟩ := newCellsB hm
  have hcat : H.cellsAt e = some [] := by unfold AH.cellsAt; rw [hg]
  have hnn := hu.next
  by_cases hle : l.length = 0
  · have hl0 : l = [] := List.length_eq_zero_iff.1 hle
    have a1 : appendU Q [36, 36] [.slice e 0 0 (.is 0), lv] H = some (.slice e 0 0 (.is 0), H.set e (.cells 80 [] 0 false false)) := by
      rw [app36, hcl H hu, hle, hcl0 hl0]
      exact appendTo_empty0 hg
    have hu1 : Up H0 (H.set e (.cells 80 [] 0 false false)) := hu.set he0
    have hg1 : (H.set e (.cells 80 [] 0 false false)).t.get e = some (.cells 80 [] 0 false false) := by unfold AH.set; rw [Tri.gp, if_pos rfl]
    by_cases hme : m.length = 0
    · have hm0 : m = [] := List.length_eq_zero_iff.1 hme
      refine ⟨_, _, .slice e 0 0 (.is 0), (H.set e (.cells 80 [] 0 false false)).set e (.cells 80 [] 0 false false), a1, ?_, hu1.set he0, ?_⟩
      · rw [app36, hcm _ hu1, hme, hcm0 hm0]
        exact appendTo_empty0 hg1
      · subst hl0; subst hm0
        exact ⟨.sl _ _ _ _, fun _ _ _ _ _ h => absurd rfl h⟩
    · have a2 : appendU Q [36, 36] [.slice e 0 0 (.is 0), mv] (H.set e (.cells 80 [] 0 false false)) = some (.slice H.next 0 m.length (.up 4), ⟨(H.set e (.cells 80 [] 0 false false)).t.put H.next (some (.cells 80 cm 0 false false)), H.next + 1⟩) := by
        rw [app36, hcm _ hu1]
        exact appendTo_empty (c := []) (by unfold AH.cellsAt; rw [hg1]) hme (by omega) hrm.2.1
      have hu2 : Up H0 ⟨(H.set e (.cells 80 [] 0 false false)).t.put H.next (some (.cells 80 cm 0 false false)), H.next + 1⟩ := hu1.trans (Up.box (H.set e (.cells 80 [] 0 false false)) _)
      refine ⟨_, _, _, _, a1, a2, hu2, ?_⟩
      subst hl0
      rw [List.nil_append]
      exact (hrm.up hu2).bats (Nat.lt_succ_self _) (by rw [cellsAt_put, if_pos rfl]) rfl _
  · have a1 : appendU Q [36, 36] [.slice e 0 0 (.is 0), lv] H = some (.slice H.next 0 l.length (.up 4), ⟨H.t.put H.next (some (.cells 80 cl 0 false false)), H.next + 1⟩) := by
      rw [app36, hcl H hu]
      exact appendTo_empty hcat hle (by omega) hrl.2.1
    have hu1 : Up H0 ⟨H.t.put H.next (some (.cells 80 cl 0 false false)), H.next + 1⟩ := hu.trans (Up.box _ _)
    have hg1 : (⟨H.t.put H.next (some (.cells 80 cl 0 false false)), H.next + 1⟩ : AH).t.get H.next = some (.cells 80 cl 0 false false) := by show (H.t.put _ _).get _ = _; rw [Tri.gp, if_pos rfl]
    by_cases hme : m.length = 0
    · have hm0 : m = [] := List.length_eq_zero_iff.1 hme
      refine ⟨_, _, .slice H.next 0 l.length (.up 4), ⟨H.t.put H.next (some (.cells 80 cl 0 false false)), H.next + 1⟩, a1, ?_, hu1, ?_⟩
      · rw [app36, hcm _ hu1, hme]
        exact appendTo_up0 (by omega)
      · subst hm0
        rw [List.append_nil]
        exact (hrl.up hu1).bats (Nat.lt_succ_self _) (by rw [cellsAt_put, if_pos rfl]) rfl _
    · have a2 : appendU Q [36, 36] [.slice H.next 0 l.length (.up 4), mv] ⟨H.t.put H.next (some (.cells 80 cl 0 false false)), H.next + 1⟩ = some (.slice (H.next + 1) 0 (l.length + m.length) (.up 4), ⟨((H.t.put H.next (some (.cells 80 cl 0 false false))).put H.next none).put (H.next + 1) (some (.cells 80 (cl ++ cm) 0 false false)), H.next + 1 + 1⟩) := by
        rw [app36, hcm _ hu1]
        exact appendTo_up hg1 (cut_self hrl.1 hrl.2.2.1) hme (by omega) hrl.2.1 hrm.2.1
      have hu2 : Up H0 ⟨((H.t.put H.next (some (.cells 80 cl 0 false false))).put H.next none).put (H.next + 1) (some (.cells 80 (cl ++ cm) 0 false false)), H.next + 1 + 1⟩ := ⟨by show H0.next ≤ H.next + 1 + 1; omega, fun b hb => by
          show (((H.t.put _ _).put _ _).put _ _).get b = _
          rw [Tri.gp, if_neg (by omega), Tri.gp, if_neg (by omega), Tri.gp, if_neg (by omega)]
          exact hu.old b hb⟩
      exact ⟨_, _, _, _, a1, a2, hu2, ((hrl.append hrm).up hu2).bats (Nat.lt_succ_self _) (by rw [cellsAt_put, if_pos rfl]) (by simp) _⟩

/-! ### what Count says -/
def cn (l : List BatD) : Int := if (l.any fun d => !d.ok) then 0 else if l.length > 200 then 0 else nS l
def cd (l : List BatD) : Int := if (l.any fun d => !d.ok) then 0 else if l.length > 200 then 0 else dS l
def ce (l : List BatD) : Int := if (l.any fun d => !d.ok) then 260 else if l.length > 200 then 2 else 0
theorem cnt_eq (l : List BatD) : cnt l = .tuple [.int .i64 (cn l), .int .i64 (cd l), .int .i64 (ce l)] := by
  unfold cnt cn cd ce
  split
  · rfl
  · split <;> rfl
theorem ce_zero {l : List BatD} : ce l = 0 ↔ (l.any fun d => !d.ok) = false ∧ l.length ≤ 200 := by
  unfold ce
  cases h : (l.any fun d => !d.ok)
  · by_cases h2 : l.length > 200
    · simp [h2]
    · simp [h2]; omega
  · simp
theorem ce_append {l m : List BatD} : ce (l ++ m) = 0 ↔ ce l = 0 ∧ ce m = 0 ∧ l.length + m.length ≤ 200 := by
  simp only [ce_zero, List.any_append, Bool.or_eq_false_iff, List.length_append]
  constructor
  · rintro ⟨⟨h1, h2⟩, h3⟩
    exact ⟨⟨h1, by omega⟩, ⟨h2, by omega⟩, h3⟩
  · rintro ⟨⟨h1, _⟩, ⟨h2, _⟩, h3⟩
    exact ⟨⟨h1, h2⟩, h3⟩
theorem cn_zero {l : List BatD} (h : ce l = 0) : cn l = nS l ∧ cd l = dS l := by
  obtain ⟨h1, h2⟩ := ce_zero.1 h
  unfold cn cd
  rw [h1]
  simp only [Bool.false_eq_true, if_false]
  rw [if_neg (by omega), if_neg (by omega)]
  exact ⟨rfl, rfl⟩
theorem nS_append (l m : List BatD) : nS (l ++ m) = nS l + nS m ∧ dS (l ++ m) = dS l + dS m := by
  simp [nS, dS]
theorem nS_bound {l : List BatD} (h : ce l = 0) : (0 ≤ nS l ∧ nS l ≤ 200000) ∧ (0 ≤ dS l ∧ dS l ≤ 219902325555200) := by
  obtain ⟨h1, h2⟩ := ce_zero.1 h
  have hall : ∀ d ∈ l, d.ok = true := fun d hd => by
    rw [List.any_eq_false] at h1
    simpa using h1 d hd
  have k1 := sum_bound (fun d : BatD => (d.recs.length : Int)) 1000 l fun x hx => (okB_bounds (hall x hx)).1
  have k2 := sum_bound (fun d : BatD => d.dr) 1099511627776 l fun x hx => (okB_bounds (hall x hx)).2
  have h3 : (l.length : Int) ≤ 200 := by omega
  unfold nS dS
  omega
end Go.Ev.C
end
section
set_option linter.unusedVariables false
set_option linter.unusedSimpArgs false
set_option linter.defProp false
set_option linter.all false
namespace Go.Ev.C
open Go.Proofs Go.RowKit Go.ChangeShapes Go.WideShapes Go.Deep
theorem list_of {α : Type} {P : Nat → α → Prop} : ∀ (n : Nat), (∀ i, i < n → ∃ d, P i d) → ∃ l : List α, l.length = n ∧ ∀ (i : Nat) (d : α), l[i]? = some d → P i d
  | 0, _ => ⟨[], rfl, fun i d h => by simp at h⟩
  | n + 1, h => by
    obtain ⟨l, hl, hp⟩ := list_of n fun i hi => h i (by omega)
    obtain ⟨d, hd⟩ := h n (by omega)
    refine ⟨l ++ [d], by simp [hl], fun i x hx => ?_⟩
    by_cases hi : i < l.length
    · rw [List.getElem?_append_left hi] at hx
      exact hp i x hx
    · rw [List.getElem?_append_right (by omega)] at hx
      have : i - l.length = 0 := by
        have := (List.getElem?_eq_some_iff.1 hx).1
        simp at this
        omega
      rw [this] at hx
      cases hx
      obtain rfl : i = n := by omega
      exact hd
/-- Cells that are read lie in one block. -/
theorem block_of {W : World} {a : Addr} {n : Nat} {R : Nat → Value → Prop} (hn : 0 < n) (h : ∀ i, i < n → ∃ v, W.cell? (a.add i) = some v ∧ R i v) : ∃ c off arr e f, a = ⟨c, off, none⟩ ∧ W.heap[c]? = some (.cells arr e f) ∧ ∀ i, i < n → ∃ v, arr[off + i]? = some v ∧ R i v := by
  obtain ⟨c, off, spot⟩ := a
  obtain ⟨v0, h0, _⟩ := h 0 hn
  have hadd : ∀ i, (⟨c, off, spot⟩ : Addr).add i = if i = 0 then ⟨c, off, spot⟩ else ⟨c, off + i, none⟩ := fun i => rfl
  rw [hadd, if_pos rfl] at h0
  unfold World.cell? at h0
  cases ho : W.heap[c]? with
  | none => rw [ho] at h0; cases h0
  | some o =>
    rw [ho] at h0
    cases o with
    | cells arr e f =>
      dsimp only at h0
      split at h0
      · cases h0
      · rename_i hs
        obtain rfl : spot = none := by cases spot <;> simp_all
        refine ⟨c, off, arr, e, f, rfl, ho, fun i hi => ?_⟩
        obtain ⟨v, hv, hR⟩ := h i hi
        refine ⟨v, ?_, hR⟩
        rw [hadd] at hv
        split at hv
        · rename_i hz; subst hz
          unfold World.cell? at hv
          rw [ho] at hv
          simpa using hv
        · unfold World.cell? at hv
          rw [ho] at hv
          simpa using hv
    | _ => cases h0
theorem avOf_slice0 (W : World) (a : Addr) (cap : Nat) : SL (avOf W (.slice (some a) 0 cap)) 0 := by
  obtain ⟨c, off, spot⟩ := a
  cases spot with
  | none =>
    simp only [avOf]
    split
    · exact .sl _ _ _ _
    · exact .sl _ _ _ _
  | some x => exact .sl _ _ _ _
theorem avOf_sliceS {W : World} {c off len cap : Nat} {o : Obj} (hc : W.heap[c]? = some o) (hl : len ≤ cap) : avOf W (.slice (some ⟨c, off, none⟩) len cap) = .slice c off len (.is cap) := by
  simp only [avOf]
  rw [if_pos ⟨(Array.getElem?_eq_some_iff.1 hc).1, hl⟩]
theorem ahOf_lt {W : World} {c : Nat} {o : Obj} (hc : W.heap[c]? = some o) : c < (ahOf W).next := by
  have := (Array.getElem?_eq_some_iff.1 hc).1
  show c < max 64 W.heap.size
  omega
theorem ahOf_cellsAt {W : World} {c : Nat} {a : Array Value} {e : TypeId} {f : Nat × Nat} (h : W.heap[c]? = some (.cells a e f)) : (ahOf W).cellsAt c = some (a.toList.map (avOf W)) := by
  unfold AH.cellsAt
  rw [ahOf_cells h]

section
variable {H : Type} {enc : TypeId × Value → H} {W : World} {base : Nat} {spare : Nat → Bool} {held : Bool} {fuel : Nat}
theorem read_data {v : Value} {x : DataW H × List MemPlace} (h : DataW.trod enc Q W base spare held fuel 35 [v] = some x) : ∃ n, n ≤ maxLen ∧ DataAt (ahOf W) (avOf W v) n := by
  rcases open_slice Tryz.underlying35 h with ⟨hv, _⟩ | ⟨a, len, cap, m, k, D, Pl, hv, _, hl, hm, hmm, _, hi⟩
  · cases hv
    exact ⟨0, by omega, .nil, fun _ _ _ _ _ h => absurd rfl h⟩
  · cases hv
    refine ⟨len, by omega, ?_⟩
    by_cases h0 : len = 0
    · subst h0
      exact ⟨avOf_slice0 _ _ _, fun _ _ _ _ _ h => absurd rfl h⟩
    have hlm : len ≤ m := by rw [hmm]; split <;> omega
    have hC : Q.cellsOf 5 = 1 := by kernel_rfl
    obtain ⟨c, off, arr, e, f, rfl, hc, hcell⟩ := block_of (R := fun _ v => noHole (avOf W v) = true) (Nat.pos_of_ne_zero h0) (a := a) fun i hilt => by
      obtain ⟨cs, hcs, ht⟩ := hi i (by omega)
      rw [hC, Nat.mul_one] at hcs
      obtain ⟨_, hcl, hat⟩ := World.cells?_some hcs
      obtain ⟨z, rfl, _, _⟩ := DataW.trod_int Tryz.underlying5 ht
      have := hat 0 (by omega)
      refine ⟨.int .u8 z, ?_, rfl⟩
      exact this
    rw [avOf_sliceS hc hl]
    refine ⟨.sl _ _ _ _, fun b off' m' cap' e _ => ?_⟩
    cases e
    refine ⟨_, ((arr.toList.map (avOf W)).drop off).take len, ahOf_lt hc, ahOf_cellsAt hc, cut_iff.2 ⟨?_, fun j hj => ?_⟩, ?_⟩
    · obtain ⟨v, hv, _⟩ := hcell (len - 1) (by omega)
      have := (Array.getElem?_eq_some_iff.1 hv).1
      simp
      omega
    · obtain ⟨v, hv, hh⟩ := hcell j hj
      refine ⟨avOf W v, ?_, hh, ?_⟩
      · rw [List.getElem?_map, Array.getElem?_toList, hv]; rfl
      · rw [List.getElem?_take, if_pos hj, List.getElem?_drop, List.getElem?_map, Array.getElem?_toList, hv]; rfl
    · refine List.all_eq_true.2 fun v hv => ?_
      obtain ⟨u, _, rfl⟩ := List.mem_map.1 (List.mem_of_mem_drop (List.mem_of_mem_take hv))
      exact avOf_one W u
end
end Go.Ev.C
namespace Go.Ev.C
open Go.Proofs Go.RowKit Go.ChangeShapes Go.WideShapes Go.Deep
section
variable {H : Type} {enc : TypeId × Value → H} {W : World} {base : Nat} {spare : Nat → Bool} {held : Bool} {fuel : Nat}
/-- A slice of structs whose fields have a cell each. -/
theorem read_fields {t e : TypeId} {fs : Array Field} {v : Value} {x : DataW H × List MemPlace} (ht : Q.underlying t = some (.slice e)) (he : Q.underlying e = some (.struct fs)) (hone : oneCellFields Q fs = true) (hC : Q.cellsOf e = fs.size) (h : DataW.trod enc Q W base spare held fuel t [v] = some x) :
    (v = .slice none 0 0 ∧ x.1 = .nil) ∨ ∃ (a : Addr) (len cap : Nat) (el sp : List (DataW H)), v = .slice (some a) len cap ∧ len ≤ cap ∧ cap ≤ maxLen ∧ x.1 = .slice el sp ∧ el.length = len ∧
      ∀ i, i < len → ∀ (j : Nat) (f : Field), fs[j]? = some f → ∃ (u : Value) (n : Nat) (y : DataW H × List MemPlace), W.cell? (a.add (i * fs.size + j)) = some u ∧ DataW.trod enc Q W base spare held n f.type [u] = some y := by
  rcases open_slice ht h with ⟨hv, hx⟩ | ⟨a, len, cap, m, n, D, Pl, hv, hb, hl, hm, hmm, hx, hi⟩
  · cases hv
    exact .inl ⟨rfl, by rw [hx]⟩
  · cases hv
    refine .inr ⟨a, len, cap, (List.range len).map D, _, rfl, hl, hm, by rw [hx], by simp, fun i hlt j f hj => ?_⟩
    obtain ⟨cs, hc, ht'⟩ := hi i (by rw [hmm]; split <;> omega)
    rw [hC] at hc
    obtain ⟨ys, n', _, _, _, hyl, hf⟩ := DataW.trod_struct he ht'
    obtain ⟨_, hcl, hat⟩ := World.cells?_some hc
    obtain ⟨ho, hk⟩ := hone_of hone j f hj
    have hjl : j < fs.size := (Array.getElem?_eq_some_iff.1 hj).1
    have h1 := hf j f hj
    rw [ho, hk, List.drop_eq_getElem_cons (by omega)] at h1
    refine ⟨cs[j]'(by omega), n', ys[j]'(by omega), ?_, ?_⟩
    · rw [← Go.Deep.add_add, hat j hjl]
      exact List.getElem?_eq_getElem _
    · exact h1.trans (List.getElem?_eq_getElem _)
theorem cut_three_at {c : List AV} {o : Nat} {x y z : AV} (hx : c[o]? = some x) (hy : c[o + 1]? = some y) (hz : c[o + 2]? = some z) (nx : noHole x = true) (ny : noHole y = true) (nz : noHole z = true) : cut c o 3 = some [x, y, z] :=
  cut_iff.2 ⟨rfl, fun j hj => by
    rcases (show j = 0 ∨ j = 1 ∨ j = 2 from by omega) with rfl | rfl | rfl
    · exact ⟨x, hx, nx, rfl⟩
    · exact ⟨y, hy, ny, rfl⟩
    · exact ⟨z, hz, nz, rfl⟩⟩
theorem cut_four_at {c : List AV} {o : Nat} {x y z u : AV} (hx : c[o]? = some x) (hy : c[o + 1]? = some y) (hz : c[o + 2]? = some z) (hu : c[o + 3]? = some u) (nx : noHole x = true) (ny : noHole y = true) (nz : noHole z = true) (nu : noHole u = true) : cut c o 4 = some [x, y, z, u] :=
  cut_iff.2 ⟨rfl, fun j hj => by
    rcases (show j = 0 ∨ j = 1 ∨ j = 2 ∨ j = 3 from by omega) with rfl | rfl | rfl | rfl
    · exact ⟨x, hx, nx, rfl⟩
    · exact ⟨y, hy, ny, rfl⟩
    · exact ⟨z, hz, nz, rfl⟩
    · exact ⟨u, hu, nu, rfl⟩⟩
theorem av_at {W : World} {arr : Array Value} {i : Nat} {v : Value} (h : arr[i]? = some v) : (arr.toList.map (avOf W))[i]? = some (avOf W v) := by
  rw [List.getElem?_map, Array.getElem?_toList, h]
  rfl
theorem read_recs {v : Value} {x : DataW H × List MemPlace} (h : DataW.trod enc Q W base spare held fuel 78 [v] = some x) : ∃ l : List RecD, l.length < 9223372036854775808 ∧ RecsAt (ahOf W) (avOf W v) l := by
  rcases read_fields Tryz.underlying78 Tryz.underlying87 (by kernel_rfl) (by kernel_rfl) h with ⟨rfl, _⟩ | ⟨a, len, cap, el, sp, rfl, hl, hm, _, _, hi⟩
  · exact ⟨[], by simp, .nil, fun _ _ _ _ _ h => absurd rfl h⟩
  · have hml : maxLen = 9223372036854775807 := rfl
    by_cases h0 : len = 0
    · subst h0
      exact ⟨[], by simp, avOf_slice0 _ _ _, fun _ _ _ _ _ h => absurd rfl h⟩
    obtain ⟨c, off, arr, e, f, rfl, hc, hcell⟩ := block_of (n := len * 3) (R := fun t w => (t % 3 = 0 → ∃ z, w = .int .i64 z) ∧ (t % 3 = 1 → ∃ z, w = .int .i64 z) ∧ (t % 3 = 2 → ∃ n, DataAt (ahOf W) (avOf W w) n)) (by omega) (a := a) fun t ht => by
      have hmod : t % 3 < 3 := Nat.mod_lt _ (by omega)
      have hdm : t / 3 * 3 + t % 3 = t := by omega
      have key := hi (t / 3) (by omega)
      rcases (show t % 3 = 0 ∨ t % 3 = 1 ∨ t % 3 = 2 from by omega) with hj | hj | hj
      · obtain ⟨u, n, y, hu, hy⟩ := key 0 _ rfl
        obtain ⟨z, hz, _, _⟩ := DataW.trod_int Tryz.underlying3 hy
        cases hz
        refine ⟨_, ?_, fun _ => ⟨z, rfl⟩, fun h => by omega, fun h => by omega⟩
        rw [← hdm, hj]; exact hu
      · obtain ⟨u, n, y, hu, hy⟩ := key 1 _ rfl
        obtain ⟨z, hz, _, _⟩ := DataW.trod_int Tryz.underlying2 hy
        cases hz
        refine ⟨_, ?_, fun h => by omega, fun _ => ⟨z, rfl⟩, fun h => by omega⟩
        rw [← hdm, hj]; exact hu
      · obtain ⟨u, n, y, hu, hy⟩ := key 2 _ rfl
        obtain ⟨k, _, hd⟩ := read_data hy
        refine ⟨u, ?_, fun h => by omega, fun h => by omega, fun _ => ⟨k, hd⟩⟩
        rw [← hdm, hj]; exact hu
    obtain ⟨l, hll, hlp⟩ := list_of (P := fun i (d : RecD) => ∃ dv, DataAt (ahOf W) dv d.n ∧ cut (arr.toList.map (avOf W)) (off + i * 3) 3 = some [.int .i64 d.id, .int .i64 d.tm, dv]) len fun i hilt => by
      obtain ⟨v0, h0, r0, _, _⟩ := hcell (i * 3) (by omega)
      obtain ⟨v1, h1, _, r1, _⟩ := hcell (i * 3 + 1) (by omega)
      obtain ⟨v2, h2, _, _, r2⟩ := hcell (i * 3 + 2) (by omega)
      obtain ⟨z0, rfl⟩ := r0 (by omega)
      obtain ⟨z1, rfl⟩ := r1 (by omega)
      obtain ⟨n, hd⟩ := r2 (by omega)
      rw [← Nat.add_assoc] at h1 h2
      exact ⟨⟨z0, z1, n⟩, avOf W v2, hd, cut_three_at (av_at h0) (av_at h1) (av_at h2) rfl rfl hd.1.solid⟩
    rw [avOf_sliceS hc hl]
    refine ⟨l, by omega, by rw [hll]; exact .sl _ _ _ _, fun b off' m' cap' e _ => ?_⟩
    cases e
    exact ⟨_, ahOf_lt hc, ahOf_cellsAt hc, hlp⟩
theorem read_bats {v : Value} {x : DataW H × List MemPlace} (h : DataW.trod enc Q W base spare held fuel 36 [v] = some x) : ∃ l : List BatD, BatsAt (ahOf W) (avOf W v) l ∧ ((x.1 = .nil ∧ l = []) ∨ ∃ el sp, x.1 = .slice el sp ∧ l.length = el.length) := by
  rcases read_fields Tryz.underlying36 Tryz.underlying80 (by kernel_rfl) (by kernel_rfl) h with ⟨rfl, hx⟩ | ⟨a, len, cap, el, sp, rfl, hl, hm, hx, hel, hi⟩
  · exact ⟨[], ⟨.nil, fun _ _ _ _ _ h => absurd rfl h⟩, .inl ⟨hx, rfl⟩⟩
  · by_cases h0 : len = 0
    · subst h0
      exact ⟨[], ⟨avOf_slice0 _ _ _, fun _ _ _ _ _ h => absurd rfl h⟩, .inr ⟨el, sp, hx, by simp [hel]⟩⟩
    obtain ⟨c, off, arr, e, f, rfl, hc, hcell⟩ := block_of (n := len * 4) (R := fun t w => (t % 4 = 0 → ∃ z, w = .int .i64 z) ∧ (t % 4 = 1 → ∃ l : List RecD, l.length < 9223372036854775808 ∧ RecsAt (ahOf W) (avOf W w) l) ∧ (t % 4 = 2 → ∃ z, w = .int .i64 z) ∧ (t % 4 = 3 → ∃ z, w = .bool z)) (by omega) (a := a) fun t ht => by
      have hmod : t % 4 < 4 := Nat.mod_lt _ (by omega)
      have hdm : t / 4 * 4 + t % 4 = t := by omega
      have key := hi (t / 4) (by omega)
      rcases (show t % 4 = 0 ∨ t % 4 = 1 ∨ t % 4 = 2 ∨ t % 4 = 3 from by omega) with hj | hj | hj | hj
      · obtain ⟨u, n, y, hu, hy⟩ := key 0 _ rfl
        obtain ⟨z, hz, _, _⟩ := DataW.trod_int Tryz.underlying3 hy
        cases hz
        refine ⟨_, ?_, fun _ => ⟨z, rfl⟩, fun h => by omega, fun h => by omega, fun h => by omega⟩
        rw [← hdm, hj]; exact hu
      · obtain ⟨u, n, y, hu, hy⟩ := key 1 _ rfl
        obtain ⟨k, hk, hd⟩ := read_recs hy
        refine ⟨u, ?_, fun h => by omega, fun _ => ⟨k, hk, hd⟩, fun h => by omega, fun h => by omega⟩
        rw [← hdm, hj]; exact hu
      · obtain ⟨u, n, y, hu, hy⟩ := key 2 _ rfl
        obtain ⟨z, hz, _, _⟩ := DataW.trod_int Tryz.underlying3 hy
        cases hz
        refine ⟨_, ?_, fun h => by omega, fun h => by omega, fun _ => ⟨z, rfl⟩, fun h => by omega⟩
        rw [← hdm, hj]; exact hu
      · obtain ⟨u, n, y, hu, hy⟩ := key 3 _ rfl
        obtain ⟨z, hz, _⟩ := DataW.trod_bool Tryz.underlying4 hy
        cases hz
        refine ⟨_, ?_, fun h => by omega, fun h => by omega, fun h => by omega, fun _ => ⟨z, rfl⟩⟩
        rw [← hdm, hj]; exact hu
    obtain ⟨l, hll, hlp⟩ := list_of (P := fun i (d : BatD) => ∃ rv, RecsAt (ahOf W) rv d.recs ∧ d.recs.length < 9223372036854775808 ∧ cut (arr.toList.map (avOf W)) (off + i * 4) 4 = some [.int .i64 d.cpu, rv, .int .i64 d.dr, .bool d.ah]) len fun i hilt => by
      obtain ⟨v0, h0, r0, _⟩ := hcell (i * 4) (by omega)
      obtain ⟨v1, h1, _, r1, _⟩ := hcell (i * 4 + 1) (by omega)
      obtain ⟨v2, h2, _, _, r2, _⟩ := hcell (i * 4 + 2) (by omega)
      obtain ⟨v3, h3, _, _, _, r3⟩ := hcell (i * 4 + 3) (by omega)
      obtain ⟨z0, rfl⟩ := r0 (by omega)
      obtain ⟨rl, hrl, hd⟩ := r1 (by omega)
      obtain ⟨z2, rfl⟩ := r2 (by omega)
      obtain ⟨z3, rfl⟩ := r3 (by omega)
      rw [← Nat.add_assoc] at h1 h2 h3
      exact ⟨⟨z0, rl, z2, z3⟩, avOf W v1, hd, hrl, cut_four_at (av_at h0) (av_at h1) (av_at h2) (av_at h3) rfl hd.1.solid rfl rfl⟩
    rw [avOf_sliceS hc hl]
    refine ⟨l, ⟨by rw [hll]; exact .sl _ _ _ _, fun b off' m' cap' e _ => ?_⟩, .inr ⟨el, sp, hx, by omega⟩⟩
    cases e
    exact ⟨_, ahOf_lt hc, ahOf_cellsAt hc, hlp⟩
end
end Go.Ev.C
end
