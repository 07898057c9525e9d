/- How arguments are read. -/
import Derived.Test.YtkkegnkopmpjhaaGreatDoorEvF
import Derived.Deep.Slices
import Derived.Deep.Fields
import Derived.Lib.SmallJoins
section
set_option linter.unusedVariables false
set_option linter.unusedSimpArgs false
set_option linter.defProp false
set_option linter.all false
namespace Go.Ev.C
open Go.Proofs Go.RowKit Go.ChangeShapes Go.WideShapes Go.Deep
theorem list_of {α : Type} {P : Nat → α → Prop} : ∀ (n : Nat), (∀ i, i < n → ∃ d, P i d) → ∃ l : List α, l.length = n ∧ ∀ (i : Nat) (d : α), l[i]? = some d → P i d
  | 0, _ => ⟨[], rfl, fun i d h => by simp at h⟩
  | n + 1, h => by
    obtain ⟨l, hl, hp⟩ := list_of n fun i hi => h i (by omega)
    obtain ⟨d, hd⟩ := h n (by omega)
    refine ⟨l ++ [d], by simp [hl], fun i x hx => ?_⟩
    by_cases hi : i < l.length
    · rw [List.getElem?_append_left hi] at hx
      exact hp i x hx
    · rw [List.getElem?_append_right (by omega)] at hx
      have : i - l.length = 0 := by
        have := (List.getElem?_eq_some_iff.1 hx).1
        simp at this
        omega
      rw [this] at hx
      cases hx
      obtain rfl : i = n := by omega
      exact hd
/-- Cells that are read lie in one block. -/
theorem block_of {W : World} {a : Addr} {n : Nat} {R : Nat → Value → Prop} (hn : 0 < n) (h : ∀ i,i < n → ∃ v,W.cell? (a.add i) = some v ∧ R i v) : ∃ c off arr e f,a = ⟨c,off,none⟩ ∧ W.heap[c]? = some (.cells arr e f) ∧ ∀ i,i < n → ∃ v,arr[off + i]? = some v ∧ R i v := by
  obtain ⟨c, off, spot⟩ := a
  obtain ⟨v0, h0, _⟩ := h 0 hn
  have hadd : ∀ i, (⟨c, off, spot⟩ : Addr).add i = if i = 0 then ⟨c, off, spot⟩ else ⟨c, off + i, none⟩ := fun i => rfl
  rw [hadd, if_pos rfl] at h0
  unfold World.cell? at h0
  cases ho : W.heap[c]? with
  | none => rw [ho] at h0; cases h0
  | some o =>
    rw [ho] at h0
    cases o with
    | cells arr e f =>
      dsimp only at h0
      split at h0
      · cases h0
      · rename_i hs
        obtain rfl : spot = none := by cases spot <;> simp_all
        refine ⟨c, off, arr, e, f, rfl, ho, fun i hi => ?_⟩
        obtain ⟨v, hv, hR⟩ := h i hi
        refine ⟨v, ?_, hR⟩
        rw [hadd] at hv
        split at hv
        · rename_i hz; subst hz
          unfold World.cell? at hv
          rw [ho] at hv
          simpa using hv
        · unfold World.cell? at hv
          rw [ho] at hv
          simpa using hv
    | _ => cases h0
theorem avOf_slice0 (W : World) (a : Addr) (cap : Nat) : SL (Yt W (.slice (some a) 0 cap)) 0 := by
  obtain ⟨c, off, spot⟩ := a
  cases spot with
  | none =>
    simp only [Yt]
    split
    · exact .sl _ _ _ _
    · exact .sl _ _ _ _
  | some x => exact .sl _ _ _ _
theorem avOf_sliceS {W : World} {c off len cap : Nat} {o : Obj} (hc : W.heap[c]? = some o) (hl : len ≤ cap) : Yt W (.slice (some ⟨c, off, none⟩) len cap) = .slice c off len (.is cap) := by
  simp only [Yt]
  rw [if_pos ⟨(Array.getElem?_eq_some_iff.1 hc).1, hl⟩]
theorem ahOf_lt {W : World} {c : Nat} {o : Obj} (hc : W.heap[c]? = some o) : c < (ahOf W).next := by
  have := (Array.getElem?_eq_some_iff.1 hc).1
  show c < max 64 W.heap.size
  omega
theorem ahOf_cellsAt {W : World} {c : Nat} {a : Array Value} {e : TypeId} {f : Nat × Nat} (h : W.heap[c]? = some (.cells a e f)) : (ahOf W).cellsAt c = some (a.toList.map (Yt W)) := by
  unfold AH.cellsAt
  rw [ahOf_cells h]

section
variable {H : Type} {enc : TypeId × Value → H} {W : World} {base : Nat} {spare : Nat → Bool} {held : Bool} {fuel : Nat}
theorem av_at {W : World} {arr : Array Value} {i : Nat} {v : Value} (h : arr[i]? = some v) : (arr.toList.map (Yt W))[i]? = some (Yt W v) := by
  rw [List.getElem?_map, Array.getElem?_toList, h]
  rfl
end
end Go.Ev.C
end
