/- What is read of the arguments. -/
import Derived.Test.YtkkegnkopmpjhaaGreatDoorEvL
import Derived.Test.YtkkegnkopmpjhaaGreatDoorEvM
import Derived.Test.YtkkegnkopmpjhaaGreatDoorEvP
import Derived.Test.YtkkegnkopmpjhaaGreatDoorEvXb
section
set_option linter.unusedVariables false
set_option linter.unusedSimpArgs false
set_option linter.defProp false
set_option linter.all false
namespace Go.Ev.C
open Go.Proofs Go.Fmt Go.RowKit Go.ChangeShapes Go.WideShapes Go.Deep
open Go.Proofs.YtkkegnkopmpjhaaGreatDoor
set_option maxRecDepth 100000
set_option linter.unusedSimpArgs false
section
variable {H : Type} {enc : TypeId × Value → H} {W : World} {base : Nat} {spare : Nat → Bool} {held : Bool} {fuel : Nat}
theorem c1_3 : Q.cellsOf 3 = 1 := by kernel_rfl
theorem c1_2 : Q.cellsOf 2 = 1 := by kernel_rfl
theorem c1_4 : Q.cellsOf 4 = 1 := by kernel_rfl
theorem c1_9 : Q.cellsOf 9 = 1 := by kernel_rfl
theorem c1_24 : Q.cellsOf 24 = 1 := by kernel_rfl
theorem c2_64 : Q.cellsOf 64 = 2 := by kernel_rfl
theorem c4_66 : Q.cellsOf 66 = 4 := by kernel_rfl
theorem c3_68 : Q.cellsOf 68 = 3 := by kernel_rfl
theorem c10_70 : Q.cellsOf 70 = 10 := by kernel_rfl
theorem bts_byte (s : ByteArray) : ∀ c ∈ Xt s, c < 256 := by
  intro c hc
  obtain ⟨b, _, rfl⟩ := List.mem_map.1 hc
  exact b.toNat_lt
/-- A slice that is read is told. -/
theorem slice_solid {t e : TypeId} {v : Value} {x : DataW H × List MemPlace} (ht : Q.underlying t = some (.slice e)) (he : 0 < Q.cellsOf e) (h : DataW.trod enc Q W base spare held fuel t [v] = some x) : ZO (Yt W v) = true := by
  rcases open_slice ht h with ⟨hv, _⟩ | ⟨a, len, cap, m, k, D, Pl, hv, _, hl, hm, hmm, _, hi⟩
  · cases hv
    rfl
  · cases hv
    by_cases h0 : len = 0
    · subst h0
      exact (avOf_slice0 _ _ _).solid
    · have hlm : len ≤ m := by rw [hmm]; split <;> omega
      obtain ⟨c, off, arr, e', f, rfl, hc, _⟩ := block_of (R := fun _ _ => True) he (a := a) fun i hilt => by
        obtain ⟨cs, hcs, _⟩ := hi 0 (by omega)
        obtain ⟨_, hcl, hat⟩ := World.cells?_some hcs
        have := hat i hilt
        rw [Nat.zero_mul] at this
        exact ⟨cs[i], by rw [← List.getElem?_eq_getElem]; exact this, trivial⟩
      rw [avOf_sliceS hc hl]
      rfl
theorem five {α : Type} {l : List α} (h : l.length = 5) : ∃ a b c d e, l = [a, b, c, d, e] := by
  match l, h with
  | [a, b, c, d, e], _ => exact ⟨a, b, c, d, e, rfl⟩
theorem three {α : Type} {l : List α} (h : l.length = 3) : ∃ a b c, l = [a, b, c] := by
  match l, h with
  | [a, b, c], _ => exact ⟨a, b, c, rfl⟩
theorem two {α : Type} {l : List α} (h : l.length = 2) : ∃ a b, l = [a, b] := by
  match l, h with
  | [a, b], _ => exact ⟨a, b, rfl⟩
theorem ten {α : Type} {l : List α} (h : l.length = 10) : ∃ a b c d e f g i j k, l = [a, b, c, d, e, f, g, i, j, k] := by
  match l, h with
  | [a, b, c, d, e, f, g, i, j, k], _ => exact ⟨a, b, c, d, e, f, g, i, j, k, rfl⟩
/-- An item that is read. -/
theorem read_item {cs : List Value} {x : DataW H × List MemPlace} (h : DataW.trod enc Q W base spare held fuel 70 cs = some x) :
    ∃ (y : XB) (u : Value),cs.map (Yt W) = IC y (Yt W u) ∧ ZO (Yt W u) = true ∧ -9223372036854775808 ≤ y.vn ∧ y.vn ≤ 9223372036854775807 ∧ (∀ c ∈ y.vs,c < 256) ∧ y.vs.length + 6 ≤ Rows.uptoBulk x.1 := by
  obtain ⟨xs, n, _, hx, hcl, hxl, hf⟩ := DataW.trod_struct Tryz.underlying70 h
  rw [c10_70] at hcl
  obtain ⟨a, b, c, d, e, f, g, i, j, u, rfl⟩ := ten hcl
  obtain ⟨x0, x1, x2, x3, x4, rfl⟩ := five hxl
  have h0 := hf 0 _ rfl
  have h1 := hf 1 _ rfl
  have h2 := hf 2 _ rfl
  have h3 := hf 3 _ rfl
  have h4 := hf 4 _ rfl
  simp only [c1_3, c4_66, c3_68, c1_24, List.drop_zero, List.drop_succ_cons, List.take_succ_cons, List.take_zero, List.getElem?_cons_zero, List.getElem?_cons_succ] at h0 h1 h2 h3 h4
  obtain ⟨act, e0, _, _⟩ := DataW.trod_int Tryz.underlying3 h0
  obtain ⟨val, e1, _, _⟩ := DataW.trod_int Tryz.underlying3 h1
  cases e0; cases e1
  obtain ⟨ys, n2, _, _, _, hyl, hg⟩ := DataW.trod_struct Tryz.underlying66 h2
  obtain ⟨y0, y1, y2, rfl⟩ := three hyl
  have k0 := hg 0 _ rfl
  have k1 := hg 1 _ rfl
  have k2 := hg 2 _ rfl
  simp only [c1_3, c2_64, List.drop_zero, List.drop_succ_cons, List.take_succ_cons, List.take_zero, List.getElem?_cons_zero, List.getElem?_cons_succ] at k0 k1 k2
  obtain ⟨kind, e0, _, _⟩ := DataW.trod_int Tryz.underlying3 k0
  obtain ⟨ref, e2, _, _⟩ := DataW.trod_int Tryz.underlying3 k2
  cases e0; cases e2
  obtain ⟨zs, n3, _, _, _, hzl, hz⟩ := DataW.trod_struct Tryz.underlying64 k1
  obtain ⟨z0, z1, rfl⟩ := two hzl
  have m0 := hz 0 _ rfl
  have m1 := hz 1 _ rfl
  simp only [c1_3, c1_4, List.drop_zero, List.drop_succ_cons, List.take_succ_cons, List.take_zero, List.getElem?_cons_zero, List.getElem?_cons_succ] at m0 m1
  obtain ⟨size, e0, _, _⟩ := DataW.trod_int Tryz.underlying3 m0
  obtain ⟨sg, e1, _⟩ := DataW.trod_bool Tryz.underlying4 m1
  cases e0; cases e1
  obtain ⟨ws, n4, _, hw3, _, hwl, hw⟩ := DataW.trod_struct Tryz.underlying68 h3
  obtain ⟨w0, w1, w2, rfl⟩ := three hwl
  have q0 := hw 0 _ rfl
  have q1 := hw 1 _ rfl
  have q2 := hw 2 _ rfl
  simp only [c1_4, c1_2, c1_9, List.drop_zero, List.drop_succ_cons, List.take_succ_cons, List.take_zero, List.getElem?_cons_zero, List.getElem?_cons_succ] at q0 q1 q2
  obtain ⟨vst, e0, _⟩ := DataW.trod_bool Tryz.underlying4 q0
  obtain ⟨vn, e1, _, hwf⟩ := DataW.trod_int Tryz.underlying2 q1
  obtain ⟨s, e2, hw2, _⟩ := DataW.trod_string Tryz.underlying9 q2
  cases e0; cases e1; cases e2
  have hu := slice_solid Tryz.underlying24 (by rw [c1_2]; omega) h4
  refine ⟨⟨act, val, kind, size, sg, ref, vst, vn, Xt s⟩, u, rfl, hu, ?_, ?_, bts_byte s, ?_⟩
  · unfold Lit.wf at hwf
    simp only [Bool.and_eq_true, decide_eq_true_eq] at hwf
    exact hwf.1
  · unfold Lit.wf at hwf
    simp only [Bool.and_eq_true, decide_eq_true_eq] at hwf
    have a : IntKind.i64.max = 9223372036854775807 := rfl
    have := hwf.2
    rw [a] at this
    exact this
  · rw [hx]
    have b0 := bulk_one x0.1
    have b1 := bulk_one x1.1
    have b2 := bulk_one x2.1
    have b4 := bulk_one x4.1
    rw [hw2] at hw3
    rw [hw3]
    simp only [List.map_cons, List.map_nil, Rows.uptoBulk, Rows.uptoBulkAll, Xt, List.length_map]
    omega
theorem bulk_six : ∀ {l : List (DataW H)}, (∀ d ∈ l, 6 ≤ Rows.uptoBulk d) → 6 * l.length ≤ Rows.uptoBulkAll l
  | [], _ => by simp
  | d :: l, h => by
    have h1 := h d (by simp)
    have h2 := bulk_six (l := l) fun x hx => h x (by simp [hx])
    simp only [Rows.uptoBulkAll, List.length_cons]
    omega
theorem bulk_mem : ∀ {l : List (DataW H)} {d : DataW H}, d ∈ l → Rows.uptoBulk d ≤ Rows.uptoBulkAll l
  | [], _, h => by cases h
  | x :: l, d, h => by
    simp only [Rows.uptoBulkAll]
    rcases List.mem_cons.1 h with rfl | h
    · omega
    · have := bulk_mem h
      omega
theorem read_items {v : Value} {x : DataW H × List MemPlace} (h : DataW.trod enc Q W base spare held fuel 22 [v] = some x) : ∃ l : List (XB × AV),XR (ahOf W) (Yt W v) l ∧ 6 * l.length ≤ Rows.uptoBulk x.1 ∧ ∀ y ∈ l,ZO y.2 = true ∧ Ye y.2 = true ∧ -9223372036854775808 ≤ y.1.vn ∧ y.1.vn ≤ 9223372036854775807 ∧ (∀ c ∈ y.1.vs,c < 256) ∧ y.1.vs.length ≤ Rows.uptoBulk x.1 := by
  rcases open_slice Tryz.underlying22 h with ⟨hv, hx⟩ | ⟨a, len, cap, m, k, D, Pl, hv, _, hl, hm, hmm, hx, hi⟩
  · cases hv
    exact ⟨[], ⟨.nil, fun _ _ _ _ _ h => absurd rfl h⟩, by simp, fun y hy => by cases hy⟩
  · cases hv
    by_cases h0 : len = 0
    · subst h0
      exact ⟨[], ⟨avOf_slice0 _ _ _, fun _ _ _ _ _ h => absurd rfl h⟩, by simp, fun y hy => by cases hy⟩
    have hlm : len ≤ m := by rw [hmm]; split <;> omega
    rw [c10_70] at hi
    obtain ⟨c,off,arr,e',f,rfl,hc,hcell⟩ := block_of (n := len * 10) (R := fun t w => ∀ cs,W.cells? base (a.add (t / 10 * 10)) 10 = some cs → cs[t % 10]? = some w) (by omega) (a := a) fun t ht => by
      obtain ⟨cs, hcs, _⟩ := hi (t / 10) (by omega)
      obtain ⟨_, hcl, hat⟩ := World.cells?_some hcs
      have := hat (t % 10) (Nat.mod_lt _ (by omega))
      rw [Go.Deep.add_add, show t / 10 * 10 + t % 10 = t from by omega] at this
      have hlt : t % 10 < cs.length := by rw [hcl]; exact Nat.mod_lt _ (by omega)
      refine ⟨cs[t % 10], by rw [this]; exact List.getElem?_eq_getElem hlt, fun cs' hcs' => ?_⟩
      rw [hcs] at hcs'
      cases hcs'
      exact List.getElem?_eq_getElem hlt
    have hD : ∀ i, i < len → 6 ≤ Rows.uptoBulk (D i) := fun i hilt => by
      obtain ⟨cs, _, ht⟩ := hi i (by omega)
      obtain ⟨y, u, _, _, _, _, _, hb⟩ := read_item ht
      have hb' : y.vs.length + 6 ≤ Rows.uptoBulk (D i) := hb
      omega
    have hbx : Rows.uptoBulkAll ((List.range len).map D) ≤ Rows.uptoBulk x.1 := by
      rw [hx]
      simp only [Rows.uptoBulk]
      omega
    obtain ⟨l,hll,hlp⟩ := list_of (P := fun i (z : XB × AV) => cut (arr.toList.map (Yt W)) (off + i * 10) 10 = some (IC z.1 z.2) ∧ ZO z.2 = true ∧ Ye z.2 = true ∧ -9223372036854775808 ≤ z.1.vn ∧ z.1.vn ≤ 9223372036854775807 ∧ (∀ c ∈ z.1.vs,c < 256) ∧ z.1.vs.length ≤ Rows.uptoBulk x.1) len fun i hilt => by
      obtain ⟨cs, hcs, ht⟩ := hi i (by omega)
      obtain ⟨y, u, hcy, hu, hlo, hhi, hby, hb⟩ := read_item ht
      have hb' : y.vs.length + 6 ≤ Rows.uptoBulk (D i) := hb
      have hmem : D i ∈ (List.range len).map D := List.mem_map.2 ⟨i, List.mem_range.2 hilt, rfl⟩
      have := bulk_mem hmem
      refine ⟨(y, Yt W u), cut_iff.2 ⟨rfl, fun q hq => ?_⟩, hu, avOf_one W u, hlo, hhi, hby, by show y.vs.length ≤ _; omega⟩
      obtain ⟨w, hw, hwr⟩ := hcell (i * 10 + q) (by omega)
      have hd : (i * 10 + q) / 10 = i := by omega
      have hmod : (i * 10 + q) % 10 = q := by omega
      have hq' := hwr cs (by rw [hd]; exact hcs)
      rw [hmod] at hq'
      have hic : (IC y (Yt W u))[q]? = some (Yt W w) := by
        rw [← hcy, List.getElem?_map, hq']
        rfl
      refine ⟨Yt W w, by rw [Nat.add_assoc]; exact av_at hw, ?_, hic⟩
      have hall : (IC y (Yt W u)).all ZO = true := by
        unfold IC
        simp [Zl, Zp, hu]
        rfl
      exact List.all_eq_true.1 hall _ (List.mem_of_getElem? hic)
    rw [avOf_sliceS hc hl]
    refine ⟨l, ⟨by rw [hll]; exact .sl _ _ _ _, fun b off' m' cap' e _ => ?_⟩, ?_, fun y hy => ?_⟩
    · cases e
      exact ⟨_, ahOf_lt hc, ahOf_cellsAt hc, fun i z hz => (hlp i z hz).1⟩
    · have := bulk_six (l := (List.range len).map D) fun d hd => by
        obtain ⟨i, hi', rfl⟩ := List.mem_map.1 hd
        exact hD i (List.mem_range.1 hi')
      simp at this
      omega
    · obtain ⟨j, hj⟩ := List.mem_iff_getElem?.1 hy
      exact (hlp j y hj).2
end
end Go.Ev.C
end
section
set_option linter.unusedVariables false
set_option linter.unusedSimpArgs false
set_option linter.defProp false
set_option linter.all false
namespace Go.Ev.C
open Go.Proofs Go.Fmt Go.RowKit Go.ChangeShapes Go.WideShapes Go.Deep
open Go.Proofs.YtkkegnkopmpjhaaGreatDoor
set_option maxRecDepth 100000
set_option linter.unusedSimpArgs false
section
variable {H : Type} {enc : TypeId × Value → H} {W : World} {base : Nat} {spare : Nat → Bool} {held : Bool} {fuel : Nat}
theorem c3_104 : Q.cellsOf 104 = 3 := by kernel_rfl
theorem wf_i64 {z : Int} (h : (Lit.int .i64 z).wf = true) : -9223372036854775808 ≤ z ∧ z ≤ 9223372036854775807 := by
  unfold Lit.wf at h
  simp only [Bool.and_eq_true, decide_eq_true_eq] at h
  have a : IntKind.i64.max = 9223372036854775807 := rfl
  rw [a] at h
  exact h
/-- A symbol that is read. -/
theorem read_sym {cs : List Value} {x : DataW H × List MemPlace} (h : DataW.trod enc Q W base spare held fuel 104 cs = some x) :
    ∃ z : Xn,cs.map (Yt W) = symL z ∧ (-9223372036854775808 ≤ z.pos ∧ z.pos ≤ 9223372036854775807) ∧ (-9223372036854775808 ≤ z.size ∧ z.size ≤ 9223372036854775807) ∧ (∀ c ∈ z.name,c < 256) ∧ z.name.length ≤ Rows.uptoBulk x.1 := by
  obtain ⟨xs, n, _, hx, hcl, hxl, hf⟩ := DataW.trod_struct Tryz.underlying104 h
  rw [c3_104] at hcl
  obtain ⟨a, b, c, rfl⟩ := three hcl
  obtain ⟨x0, x1, x2, rfl⟩ := three hxl
  have h0 := hf 0 _ rfl
  have h1 := hf 1 _ rfl
  have h2 := hf 2 _ rfl
  simp only [c1_2, c1_9, List.drop_zero, List.drop_succ_cons, List.take_succ_cons, List.take_zero, List.getElem?_cons_zero, List.getElem?_cons_succ] at h0 h1 h2
  obtain ⟨s, e0, hs0, _⟩ := DataW.trod_string Tryz.underlying9 h0
  obtain ⟨p, e1, _, hp⟩ := DataW.trod_int Tryz.underlying2 h1
  obtain ⟨q, e2, _, hq⟩ := DataW.trod_int Tryz.underlying2 h2
  cases e0; cases e1; cases e2
  refine ⟨⟨Xt s, p, q⟩, rfl, wf_i64 hp, wf_i64 hq, bts_byte s, ?_⟩
  rw [hx, hs0]
  simp only [List.map_cons, List.map_nil, Rows.uptoBulk, Rows.uptoBulkAll, Xt, List.length_map]
  omega
theorem read_syms {v : Value} {x : DataW H × List MemPlace} (h : DataW.trod enc Q W base spare held fuel 23 [v] = some x) : ∃ l : List Xn,Xr (ahOf W) (Yt W v) l ∧ l.length < 9223372036854775808 ∧ (Rows.uptoBulk x.1 ≤ 1900000 → ∀ z ∈ l,SymOk z) := by
  rcases open_slice Tryz.underlying23 h with ⟨hv, hx⟩ | ⟨a, len, cap, m, k, D, Pl, hv, _, hl, hm, hmm, hx, hi⟩
  · cases hv
    exact ⟨[], ⟨.nil, fun _ _ _ _ _ h => absurd rfl h⟩, by simp, fun _ y hy => by cases hy⟩
  · cases hv
    by_cases h0 : len = 0
    · subst h0
      exact ⟨[], ⟨avOf_slice0 _ _ _, fun _ _ _ _ _ h => absurd rfl h⟩, by simp, fun _ y hy => by cases hy⟩
    have hlm : len ≤ m := by rw [hmm]; split <;> omega
    have hml : maxLen = 9223372036854775807 := rfl
    rw [c3_104] at hi
    obtain ⟨c,off,arr,e',f,rfl,hc,hcell⟩ := block_of (n := len * 3) (R := fun t w => ∀ cs,W.cells? base (a.add (t / 3 * 3)) 3 = some cs → cs[t % 3]? = some w) (by omega) (a := a) fun t ht => by
      obtain ⟨cs, hcs, _⟩ := hi (t / 3) (by omega)
      obtain ⟨_, hcl, hat⟩ := World.cells?_some hcs
      have := hat (t % 3) (Nat.mod_lt _ (by omega))
      rw [Go.Deep.add_add, show t / 3 * 3 + t % 3 = t from by omega] at this
      have hlt : t % 3 < cs.length := by rw [hcl]; exact Nat.mod_lt _ (by omega)
      refine ⟨cs[t % 3], by rw [this]; exact List.getElem?_eq_getElem hlt, fun cs' hcs' => ?_⟩
      rw [hcs] at hcs'
      cases hcs'
      exact List.getElem?_eq_getElem hlt
    have hbx : Rows.uptoBulkAll ((List.range len).map D) ≤ Rows.uptoBulk x.1 := by
      rw [hx]
      simp only [Rows.uptoBulk]
      omega
    obtain ⟨l, hll, hlp⟩ := list_of (P := fun i (z : Xn) => cut (arr.toList.map (Yt W)) (off + i * 3) 3 = some (symL z) ∧ (Rows.uptoBulk x.1 ≤ 1900000 → SymOk z)) len fun i hilt => by
      obtain ⟨cs, hcs, ht⟩ := hi i (by omega)
      obtain ⟨z, hcy, hp, hq, hby, hb⟩ := read_sym ht
      have hb' : z.name.length ≤ Rows.uptoBulk (D i) := hb
      have hmem : D i ∈ (List.range len).map D := List.mem_map.2 ⟨i, List.mem_range.2 hilt, rfl⟩
      have := bulk_mem hmem
      refine ⟨z, cut_iff.2 ⟨rfl, fun q hq => ?_⟩, fun hbk => ⟨hp.1, hp.2, hq.1, hq.2, hby, by omega⟩⟩
      obtain ⟨w, hw, hwr⟩ := hcell (i * 3 + q) (by omega)
      have hd : (i * 3 + q) / 3 = i := by omega
      have hmod : (i * 3 + q) % 3 = q := by omega
      have hq' := hwr cs (by rw [hd]; exact hcs)
      rw [hmod] at hq'
      have hic : (symL z)[q]? = some (Yt W w) := by
        rw [← hcy, List.getElem?_map, hq']
        rfl
      refine ⟨Yt W w, by rw [Nat.add_assoc]; exact av_at hw, ?_, hic⟩
      have hall : (symL z).all ZO = true := rfl
      exact List.all_eq_true.1 hall _ (List.mem_of_getElem? hic)
    rw [avOf_sliceS hc hl]
    refine ⟨l, ⟨by rw [hll]; exact .sl _ _ _ _, fun b off' m' cap' e _ => ?_⟩, by omega, fun hbk y hy => ?_⟩
    · cases e
      exact ⟨_, ahOf_lt hc, ahOf_cellsAt hc, fun i z hz => (hlp i z hz).1⟩
    · obtain ⟨j, hj⟩ := List.mem_iff_getElem?.1 hy
      exact (hlp j y hj).2 hbk
theorem read_addrs {v : Value} {x : DataW H × List MemPlace} (h : DataW.trod enc Q W base spare held fuel 24 [v] = some x) : ∃ l : List Int,Wl (ahOf W) (Yt W v) l ∧ ∀ a ∈ l,-9223372036854775808 ≤ a ∧ a ≤ 9223372036854775807 := by
  rcases open_slice Tryz.underlying24 h with ⟨hv, hx⟩ | ⟨a, len, cap, m, k, D, Pl, hv, _, hl, hm, hmm, hx, hi⟩
  · cases hv
    exact ⟨[], ⟨.nil, fun _ _ _ _ _ h => absurd rfl h⟩, by simp⟩
  · cases hv
    have hlm : len ≤ m := by rw [hmm]; split <;> omega
    by_cases h0 : len = 0
    · subst h0
      exact ⟨[], ⟨avOf_slice0 _ _ _, fun _ _ _ _ _ h => absurd rfl h⟩, by simp⟩
    obtain ⟨c,off,arr,e,f,rfl,hc,hcell⟩ := block_of (R := fun _ v => ∃ z,v = .int .i64 z ∧ -9223372036854775808 ≤ z ∧ z ≤ 9223372036854775807) (Nat.pos_of_ne_zero h0) (a := a) fun i hilt => by
      obtain ⟨cs, hcs, ht⟩ := hi i (by omega)
      rw [c1_2, Nat.mul_one] at hcs
      obtain ⟨_, hcl, hat⟩ := World.cells?_some hcs
      obtain ⟨z, rfl, _, hz⟩ := DataW.trod_int Tryz.underlying2 ht
      exact ⟨.int .i64 z, hat 0 (by omega), z, rfl, wf_i64 hz⟩
    obtain ⟨l, hll, hlp⟩ := list_of (P := fun i (z : Int) => (arr.toList.map (Yt W))[off + i * 1]? = some (.int .i64 z) ∧ -9223372036854775808 ≤ z ∧ z ≤ 9223372036854775807) len fun i hilt => by
      obtain ⟨v0, h0, z, rfl, hz⟩ := hcell i hilt
      exact ⟨z, by rw [Nat.mul_one]; exact av_at h0, hz⟩
    rw [avOf_sliceS hc hl]
    refine ⟨l, ⟨by rw [hll]; exact .sl _ _ _ _, fun b off' m' cap' e _ => ?_⟩, fun y hy => ?_⟩
    · cases e
      exact ⟨_, ahOf_lt hc, ahOf_cellsAt hc, fun i z hz => (hlp i z hz).1⟩
    · obtain ⟨j, hj⟩ := List.mem_iff_getElem?.1 hy
      exact (hlp j y hj).2
end
end Go.Ev.C
end
