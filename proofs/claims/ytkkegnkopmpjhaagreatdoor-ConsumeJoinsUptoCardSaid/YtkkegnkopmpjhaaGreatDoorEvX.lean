/- What is read of the arguments, and of the table. -/
import Derived.Test.YtkkegnkopmpjhaaGreatDoorEvL
import Derived.Test.YtkkegnkopmpjhaaGreatDoorEvM
import Derived.Test.YtkkegnkopmpjhaaGreatDoorEvP
import Derived.Test.YtkkegnkopmpjhaaGreatDoorEvO
section
set_option linter.unusedVariables false
set_option linter.unusedSimpArgs false
set_option linter.defProp false
set_option linter.all false
namespace Go.Ev.C
open Go.Proofs Go.Fmt Go.RowKit Go.ChangeShapes Go.WideShapes Go.Deep
open Go.Proofs.YtkkegnkopmpjhaaGreatDoor
set_option maxRecDepth 100000
set_option linter.unusedSimpArgs false
section
variable {H : Type} {enc : TypeId × Value → H} {W : World} {base : Nat} {spare : Nat → Bool} {held : Bool} {fuel : Nat}
theorem c1_3 : Q.cellsOf 3 = 1 := by kernel_rfl
theorem c1_2 : Q.cellsOf 2 = 1 := by kernel_rfl
theorem c1_4 : Q.cellsOf 4 = 1 := by kernel_rfl
theorem c1_9 : Q.cellsOf 9 = 1 := by kernel_rfl
theorem c1_24 : Q.cellsOf 24 = 1 := by kernel_rfl
theorem c2_64 : Q.cellsOf 64 = 2 := by kernel_rfl
theorem c4_66 : Q.cellsOf 66 = 4 := by kernel_rfl
theorem c3_68 : Q.cellsOf 68 = 3 := by kernel_rfl
theorem c10_70 : Q.cellsOf 70 = 10 := by kernel_rfl
theorem bts_byte (s : ByteArray) : ∀ c ∈ bts s, c < 256 := by
  intro c hc
  obtain ⟨b, _, rfl⟩ := List.mem_map.1 hc
  exact b.toNat_lt
/-- A slice that is read is told. -/
theorem slice_solid {t e : TypeId} {v : Value} {x : DataW H × List MemPlace} (ht : Q.underlying t = some (.slice e)) (he : 0 < Q.cellsOf e) (h : DataW.trod enc Q W base spare held fuel t [v] = some x) : noHole (avOf W v) = true := by
  rcases open_slice ht h with ⟨hv, _⟩ | ⟨a, len, cap, m, k, D, Pl, hv, _, hl, hm, hmm, _, hi⟩
  · cases hv
    rfl
  · cases hv
    by_cases h0 : len = 0
    · subst h0
      exact (avOf_slice0 _ _ _).solid
    · have hlm : len ≤ m := by rw [hmm]; split <;> omega
      obtain ⟨c, off, arr, e', f, rfl, hc, _⟩ := block_of (R := fun _ _ => True) he (a := a) fun i hilt => by
        obtain ⟨cs, hcs, _⟩ := hi 0 (by omega)
        obtain ⟨_, hcl, hat⟩ := World.cells?_some hcs
        have := hat i hilt
        rw [Nat.zero_mul] at this
        exact ⟨cs[i], by rw [← List.getElem?_eq_getElem]; exact this, trivial⟩
      rw [avOf_sliceS hc hl]
      rfl
theorem five {α : Type} {l : List α} (h : l.length = 5) : ∃ a b c d e, l = [a, b, c, d, e] := by
  match l, h with
  | [a, b, c, d, e], _ => exact ⟨a, b, c, d, e, rfl⟩
theorem three {α : Type} {l : List α} (h : l.length = 3) : ∃ a b c, l = [a, b, c] := by
  match l, h with
  | [a, b, c], _ => exact ⟨a, b, c, rfl⟩
theorem two {α : Type} {l : List α} (h : l.length = 2) : ∃ a b, l = [a, b] := by
  match l, h with
  | [a, b], _ => exact ⟨a, b, rfl⟩
theorem ten {α : Type} {l : List α} (h : l.length = 10) : ∃ a b c d e f g i j k, l = [a, b, c, d, e, f, g, i, j, k] := by
  match l, h with
  | [a, b, c, d, e, f, g, i, j, k], _ => exact ⟨a, b, c, d, e, f, g, i, j, k, rfl⟩
/-- An item that is read. -/
theorem read_item {cs : List Value} {x : DataW H × List MemPlace} (h : DataW.trod enc Q W base spare held fuel 70 cs = some x) :
    ∃ (y : ItD) (u : Value), cs.map (avOf W) = IC y (avOf W u) ∧ noHole (avOf W u) = true ∧ -9223372036854775808 ≤ y.vn ∧ y.vn ≤ 9223372036854775807 ∧ (∀ c ∈ y.vs, c < 256) ∧ y.vs.length + 6 ≤ Rows.uptoBulk x.1 := by
  obtain ⟨xs, n, _, hx, hcl, hxl, hf⟩ := DataW.trod_struct Tryz.underlying70 h
  rw [c10_70] at hcl
  obtain ⟨a, b, c, d, e, f, g, i, j, u, rfl⟩ := ten hcl
  obtain ⟨x0, x1, x2, x3, x4, rfl⟩ := five hxl
  have h0 := hf 0 _ rfl
  have h1 := hf 1 _ rfl
  have h2 := hf 2 _ rfl
  have h3 := hf 3 _ rfl
  have h4 := hf 4 _ rfl
  simp only [c1_3, c4_66, c3_68, c1_24, List.drop_zero, List.drop_succ_cons, List.take_succ_cons, List.take_zero, List.getElem?_cons_zero, List.getElem?_cons_succ] at h0 h1 h2 h3 h4
  obtain ⟨act, e0, _, _⟩ := DataW.trod_int Tryz.underlying3 h0
  obtain ⟨val, e1, _, _⟩ := DataW.trod_int Tryz.underlying3 h1
  cases e0; cases e1
  obtain ⟨ys, n2, _, _, _, hyl, hg⟩ := DataW.trod_struct Tryz.underlying66 h2
  obtain ⟨y0, y1, y2, rfl⟩ := three hyl
  have k0 := hg 0 _ rfl
  have k1 := hg 1 _ rfl
  have k2 := hg 2 _ rfl
  simp only [c1_3, c2_64, List.drop_zero, List.drop_succ_cons, List.take_succ_cons, List.take_zero, List.getElem?_cons_zero, List.getElem?_cons_succ] at k0 k1 k2
  obtain ⟨kind, e0, _, _⟩ := DataW.trod_int Tryz.underlying3 k0
  obtain ⟨ref, e2, _, _⟩ := DataW.trod_int Tryz.underlying3 k2
  cases e0; cases e2
  obtain ⟨zs, n3, _, _, _, hzl, hz⟩ := DataW.trod_struct Tryz.underlying64 k1
  obtain ⟨z0, z1, rfl⟩ := two hzl
  have m0 := hz 0 _ rfl
  have m1 := hz 1 _ rfl
  simp only [c1_3, c1_4, List.drop_zero, List.drop_succ_cons, List.take_succ_cons, List.take_zero, List.getElem?_cons_zero, List.getElem?_cons_succ] at m0 m1
  obtain ⟨size, e0, _, _⟩ := DataW.trod_int Tryz.underlying3 m0
  obtain ⟨sg, e1, _⟩ := DataW.trod_bool Tryz.underlying4 m1
  cases e0; cases e1
  obtain ⟨ws, n4, _, hw3, _, hwl, hw⟩ := DataW.trod_struct Tryz.underlying68 h3
  obtain ⟨w0, w1, w2, rfl⟩ := three hwl
  have q0 := hw 0 _ rfl
  have q1 := hw 1 _ rfl
  have q2 := hw 2 _ rfl
  simp only [c1_4, c1_2, c1_9, List.drop_zero, List.drop_succ_cons, List.take_succ_cons, List.take_zero, List.getElem?_cons_zero, List.getElem?_cons_succ] at q0 q1 q2
  obtain ⟨vst, e0, _⟩ := DataW.trod_bool Tryz.underlying4 q0
  obtain ⟨vn, e1, _, hwf⟩ := DataW.trod_int Tryz.underlying2 q1
  obtain ⟨s, e2, hw2, _⟩ := DataW.trod_string Tryz.underlying9 q2
  cases e0; cases e1; cases e2
  have hu := slice_solid Tryz.underlying24 (by rw [c1_2]; omega) h4
  refine ⟨⟨act, val, kind, size, sg, ref, vst, vn, bts s⟩, u, rfl, hu, ?_, ?_, bts_byte s, ?_⟩
  · unfold Lit.wf at hwf
    simp only [Bool.and_eq_true, decide_eq_true_eq] at hwf
    exact hwf.1
  · unfold Lit.wf at hwf
    simp only [Bool.and_eq_true, decide_eq_true_eq] at hwf
    have a : IntKind.i64.max = 9223372036854775807 := rfl
    have := hwf.2
    rw [a] at this
    exact this
  · rw [hx]
    have b0 := bulk_one x0.1
    have b1 := bulk_one x1.1
    have b2 := bulk_one x2.1
    have b4 := bulk_one x4.1
    rw [hw2] at hw3
    rw [hw3]
    simp only [List.map_cons, List.map_nil, Rows.uptoBulk, Rows.uptoBulkAll, bts, List.length_map]
    omega
theorem bulk_six : ∀ {l : List (DataW H)}, (∀ d ∈ l, 6 ≤ Rows.uptoBulk d) → 6 * l.length ≤ Rows.uptoBulkAll l
  | [], _ => by simp
  | d :: l, h => by
    have h1 := h d (by simp)
    have h2 := bulk_six (l := l) fun x hx => h x (by simp [hx])
    simp only [Rows.uptoBulkAll, List.length_cons]
    omega
theorem bulk_mem : ∀ {l : List (DataW H)} {d : DataW H}, d ∈ l → Rows.uptoBulk d ≤ Rows.uptoBulkAll l
  | [], _, h => by cases h
  | x :: l, d, h => by
    simp only [Rows.uptoBulkAll]
    rcases List.mem_cons.1 h with rfl | h
    · omega
    · have := bulk_mem h
      omega
theorem read_items {v : Value} {x : DataW H × List MemPlace} (h : DataW.trod enc Q W base spare held fuel 22 [v] = some x) : ∃ l : List (ItD × AV), ItemsAt (ahOf W) (avOf W v) l ∧ 6 * l.length ≤ Rows.uptoBulk x.1 ∧ ∀ y ∈ l, noHole y.2 = true ∧ oneA y.2 = true ∧ -9223372036854775808 ≤ y.1.vn ∧ y.1.vn ≤ 9223372036854775807 ∧ (∀ c ∈ y.1.vs, c < 256) ∧ y.1.vs.length ≤ Rows.uptoBulk x.1 := by
  rcases open_slice Tryz.underlying22 h with ⟨hv, hx⟩ | ⟨a, len, cap, m, k, D, Pl, hv, _, hl, hm, hmm, hx, hi⟩
  · cases hv
    exact ⟨[], ⟨.nil, fun _ _ _ _ _ h => absurd rfl h⟩, by simp, fun y hy => by cases hy⟩
  · cases hv
    by_cases h0 : len = 0
    · subst h0
      exact ⟨[], ⟨avOf_slice0 _ _ _, fun _ _ _ _ _ h => absurd rfl h⟩, by simp, fun y hy => by cases hy⟩
    have hlm : len ≤ m := by rw [hmm]; split <;> omega
    rw [c10_70] at hi
    obtain ⟨c, off, arr, e', f, rfl, hc, hcell⟩ := block_of (n := len * 10) (R := fun t w => ∀ cs, W.cells? base (a.add (t / 10 * 10)) 10 = some cs → cs[t % 10]? = some w) (by omega) (a := a) fun t ht => by
      obtain ⟨cs, hcs, _⟩ := hi (t / 10) (by omega)
      obtain ⟨_, hcl, hat⟩ := World.cells?_some hcs
      have := hat (t % 10) (Nat.mod_lt _ (by omega))
      rw [Go.Deep.add_add, show t / 10 * 10 + t % 10 = t from by omega] at this
      have hlt : t % 10 < cs.length := by rw [hcl]; exact Nat.mod_lt _ (by omega)
      refine ⟨cs[t % 10], by rw [this]; exact List.getElem?_eq_getElem hlt, fun cs' hcs' => ?_⟩
      rw [hcs] at hcs'
      cases hcs'
      exact List.getElem?_eq_getElem hlt
    have hD : ∀ i, i < len → 6 ≤ Rows.uptoBulk (D i) := fun i hilt => by
      obtain ⟨cs, _, ht⟩ := hi i (by omega)
      obtain ⟨y, u, _, _, _, _, _, hb⟩ := read_item ht
      have hb' : y.vs.length + 6 ≤ Rows.uptoBulk (D i) := hb
      omega
    have hbx : Rows.uptoBulkAll ((List.range len).map D) ≤ Rows.uptoBulk x.1 := by
      rw [hx]
      simp only [Rows.uptoBulk]
      omega
    obtain ⟨l, hll, hlp⟩ := list_of (P := fun i (z : ItD × AV) => cut (arr.toList.map (avOf W)) (off + i * 10) 10 = some (IC z.1 z.2) ∧ noHole z.2 = true ∧ oneA z.2 = true ∧ -9223372036854775808 ≤ z.1.vn ∧ z.1.vn ≤ 9223372036854775807 ∧ (∀ c ∈ z.1.vs, c < 256) ∧ z.1.vs.length ≤ Rows.uptoBulk x.1) len fun i hilt => by
      obtain ⟨cs, hcs, ht⟩ := hi i (by omega)
      obtain ⟨y, u, hcy, hu, hlo, hhi, hby, hb⟩ := read_item ht
      have hb' : y.vs.length + 6 ≤ Rows.uptoBulk (D i) := hb
      have hmem : D i ∈ (List.range len).map D := List.mem_map.2 ⟨i, List.mem_range.2 hilt, rfl⟩
      have := bulk_mem hmem
      refine ⟨(y, avOf W u), cut_iff.2 ⟨rfl, fun q hq => ?_⟩, hu, avOf_one W u, hlo, hhi, hby, by show y.vs.length ≤ _; omega⟩
      obtain ⟨w, hw, hwr⟩ := hcell (i * 10 + q) (by omega)
      have hd : (i * 10 + q) / 10 = i := by omega
      have hmod : (i * 10 + q) % 10 = q := by omega
      have hq' := hwr cs (by rw [hd]; exact hcs)
      rw [hmod] at hq'
      have hic : (IC y (avOf W u))[q]? = some (avOf W w) := by
        rw [← hcy, List.getElem?_map, hq']
        rfl
      refine ⟨avOf W w, by rw [Nat.add_assoc]; exact av_at hw, ?_, hic⟩
      have hall : (IC y (avOf W u)).all noHole = true := by
        unfold IC
        simp [hole_int, hole_bool, hu]
        rfl
      exact List.all_eq_true.1 hall _ (List.mem_of_getElem? hic)
    rw [avOf_sliceS hc hl]
    refine ⟨l, ⟨by rw [hll]; exact .sl _ _ _ _, fun b off' m' cap' e _ => ?_⟩, ?_, fun y hy => ?_⟩
    · cases e
      exact ⟨_, ahOf_lt hc, ahOf_cellsAt hc, fun i z hz => (hlp i z hz).1⟩
    · have := bulk_six (l := (List.range len).map D) fun d hd => by
        obtain ⟨i, hi', rfl⟩ := List.mem_map.1 hd
        exact hD i (List.mem_range.1 hi')
      simp at this
      omega
    · obtain ⟨j, hj⟩ := List.mem_iff_getElem?.1 hy
      exact (hlp j y hj).2
end
end Go.Ev.C
end
section
set_option linter.unusedVariables false
set_option linter.unusedSimpArgs false
set_option linter.defProp false
set_option linter.all false
namespace Go.Ev.C
open Go.Proofs Go.RowKit Go.ChangeShapes Go.WideShapes Go.Deep
open Go.Proofs.YtkkegnkopmpjhaaGreatDoor
set_option maxRecDepth 100000
theorem av_int {W : World} {v : Value} {k : IntKind} {n : Int} (h : avOf W v = .int k n) : v = .int k n := by
  have r := avOf_rel W v (by rw [h]; simp)
  rw [h] at r
  cases r
  rfl
theorem gn2 : Q.globalNamed "internal/strconv.uint64pow10" = some 2 := by kernel_rfl
theorem gt2 : (Q.globals[2]?).map (·.type) = some 419 := by kernel_rfl
theorem cells71 : Q.cellsOf 71 = 1 := by kernel_rfl
theorem cells419 : Q.cellsOf 419 = 20 * 1 := by kernel_rfl
theorem pow_lits : avF Rows.laid_internal_strconv_uint64pow10 = Lib.pow10Tab.map fun z => AV.int .u64 z := by kernel_rfl
theorem ints_back {W : World} : ∀ (cs : List Value) (l : List Int), cs.map (avOf W) = l.map (fun z => AV.int .u64 z) → cs = l.map fun z => Value.int .u64 z
  | [], [], _ => rfl
  | [], _ :: _, h => by simp at h
  | _ :: _, [], h => by simp at h
  | c :: cs, z :: l, h => by
    simp only [List.map_cons, List.cons.injEq] at h ⊢
    exact ⟨av_int h.1, ints_back cs l h.2⟩
theorem pow_of {W : World} (h : laidMetH Q Rows.consumeCountsUptoRow.laid W) : Pow W := by
  obtain ⟨ps, hv, _, _⟩ := laid_plain h
  obtain ⟨_, q1, hv, s1⟩ := vars_cons hv
  obtain ⟨_, q2, hv, s2⟩ := vars_cons hv
  obtain ⟨⟨g, t, cs, fuel, p, hg, ht, hc, hT, _⟩, _⟩ := vars_cons hv
  obtain rfl := Option.some.inj (gn2.symm.trans hg)
  obtain rfl := Option.some.inj (gt2.symm.trans ht)
  obtain ⟨e, f, hh⟩ := var_heap gn2 hc
  have m := flat_array Tryz.underlying419 cells71 cells419 (one_cell cells71 (.inl ⟨_, Tryz.underlying71⟩)) hT
  rw [pow_lits] at m
  have hcs := ints_back _ _ m
  refine ⟨e, f, ?_⟩
  rw [hh, ← hcs]
theorem laid2_of {W : World} (h : laidMetH Q Rows.consumeCountsUptoRow.laid W) (hs : W.ShapedOpen Q) : Laid2 W := ⟨laid_of h hs, pow_of h⟩
end Go.Ev.C
end
