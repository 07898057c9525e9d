/- How arguments are read. -/
import Derived.Test.YtkkegnkopmpjhaaGreatDoorEvF
import Derived.Deep.Slices
import Derived.Deep.Fields
import Derived.Lib.SmallJoins
set_option linter.unusedVariables false
set_option linter.unusedSimpArgs false
set_option linter.all false
section
namespace Go.Ev.C
open Go.Proofs Go.RowKit Go.ChangeShapes Go.WideShapes Go.Deep
theorem list_of {α:Type} {P:Nat→α→Prop}:∀(n:Nat),(∀i,i < n→∃d,P i d)→∃l:List α,l.length = n∧∀(i:Nat) (d:α),l[i]? = some d→P i d
 | 0,_ =>⟨[],rfl,fun i d h =>by simp at h⟩
 | n + 1,h =>by
  obtain⟨l,hl,hp⟩:=list_of n fun i hi =>h i (by omega)
  obtain⟨d,hd⟩:=h n (by omega)
  refine⟨l ++ [d],by simp [hl],fun i x hx =>?_⟩
  by_cases hi:i < l.length
  ·rw [List.getElem?_append_left hi] at hx
   exact hp i x hx
  ·rw [List.getElem?_append_right (by omega)] at hx
   have:i - l.length = 0:=by
    have:=(List.getElem?_eq_some_iff.1 hx).1
    simp at this
    omega
   rw [this] at hx
   cases hx
   obtain rfl:i = n:=by omega
   exact hd
/-- Cells that are read lie in one block. -/
theorem block_of {W:World} {a:Addr} {n:Nat} {R:Nat→Value→Prop} (hn:0 < n) (h:∀i,i < n→∃v,W.cell? (a.add i) = some v∧R i v):∃c off arr e f,a = ⟨c,off,none⟩∧W.heap[c]? = some (.cells arr e f)∧∀i,i < n→∃v,arr[off + i]? = some v∧R i v:=by
 obtain⟨c,off,spot⟩:=a
 obtain⟨v0,h0,_⟩:=h 0 hn
 have hadd:∀i,(⟨c,off,spot⟩:Addr).add i = if i = 0 then ⟨c,off,spot⟩ else ⟨c,off + i,none⟩:=fun i =>rfl
 rw [hadd,if_pos rfl] at h0
 unfold World.cell? at h0
 cases ho:W.heap[c]? with
 | none =>rw [ho] at h0;cases h0
 | some o =>
  rw [ho] at h0
  cases o with
  | cells arr e f =>
   dsimp only at h0
   split at h0
   ·cases h0
   ·rename_i hs
    obtain rfl:spot = none:=by cases spot <;> simp_all
    refine⟨c,off,arr,e,f,rfl,ho,fun i hi =>?_⟩
    obtain⟨v,hv,hR⟩:=h i hi
    refine⟨v,?_,hR⟩
    rw [hadd] at hv
    split at hv
    ·rename_i hz;subst hz
     unfold World.cell? at hv
     rw [ho] at hv
     simpa using hv
    ·unfold World.cell? at hv
     rw [ho] at hv
     simpa using hv
  | _ =>cases h0
theorem avOf_slice0 (W:World) (a:Addr) (cap:Nat):SL (YC W (.slice (some a) 0 cap)) 0:=by
 obtain⟨c,off,spot⟩:=a
 cases spot with
 | none =>
  simp only [YC]
  split
  ·exact .sl _ _ _ _
  ·exact .sl _ _ _ _
 | some x =>exact .sl _ _ _ _
theorem avOf_sliceS {W:World} {c off len cap:Nat} {o:Obj} (hc:W.heap[c]? = some o) (hl:len≤cap):YC W (.slice (some ⟨c,off,none⟩) len cap) = .slice c off len (.is cap):=by
 simp only [YC]
 rw [if_pos ⟨(Array.getElem?_eq_some_iff.1 hc).1,hl⟩]
theorem ahOf_lt {W:World} {c:Nat} {o:Obj} (hc:W.heap[c]? = some o):c < (ahOf W).next:=by
 have:=(Array.getElem?_eq_some_iff.1 hc).1
 show c < max 64 W.heap.size
 omega
theorem ahOf_cellsAt {W:World} {c:Nat} {a:Array Value} {e:TypeId} {f:Nat × Nat} (h:W.heap[c]? = some (.cells a e f)):(ahOf W).cellsAt c = some (a.toList.map (YC W)):=by
 unfold AH.cellsAt
 rw [ahOf_cells h]
section
variable {H:Type} {WB:TypeId × Value→H} {W:World} {base:Nat} {spare:Nat→Bool} {held:Bool} {fuel:Nat}
/-- A slice of structs whose fields have a cell each. -/
theorem read_fields {t e:TypeId} {fs:Array Field} {v:Value} {x:DataW H × List MemPlace} (ht:Q.underlying t = some (.slice e)) (he:Q.underlying e = some (.struct fs)) (hone:oneCellFields Q fs = true) (hC:Q.cellsOf e = fs.size) (h:DataW.trod WB Q W base spare held fuel t [v] = some x) :
  (v = .slice none 0 0∧x.1 = .nil) ∨ ∃(a:Addr) (len cap:Nat) (el sp:List (DataW H)),v = .slice (some a) len cap∧len≤cap∧cap≤maxLen∧x.1 = .slice el sp∧el.length = len ∧
   ∀i,i < len→∀(j:Nat) (f:Field),fs[j]? = some f→∃(u:Value) (n:Nat) (y:DataW H × List MemPlace),W.cell? (a.add (i * fs.size + j)) = some u∧DataW.trod WB Q W base spare held n f.type [u] = some y:=by
 rcases open_slice ht h with ⟨hv,hx⟩ | ⟨a,len,cap,m,n,D,Pl,hv,hb,hl,hm,hmm,hx,hi⟩
 ·cases hv
  exact .inl ⟨rfl,by rw [hx]⟩
 ·cases hv
  refine .inr ⟨a,len,cap,(List.range len).map D,_,rfl,hl,hm,by rw [hx],by simp,fun i hlt j f hj =>?_⟩
  obtain⟨cs,hc,ht'⟩:=hi i (by rw [hmm];split <;> omega)
  rw [hC] at hc
  obtain⟨ys,n',_,_,_,hyl,hf⟩:=DataW.trod_struct he ht'
  obtain⟨_,hcl,hat⟩:=World.cells?_some hc
  obtain⟨ho,hk⟩:=hone_of hone j f hj
  have hjl:j < fs.size:=(Array.getElem?_eq_some_iff.1 hj).1
  have h1:=hf j f hj
  rw [ho,hk,List.drop_eq_getElem_cons (by omega)] at h1
  refine⟨cs[j]'(by omega),n',ys[j]'(by omega),?_,?_⟩
  ·rw [← Go.Deep.add_add,hat j hjl]
   exact List.getElem?_eq_getElem _
  ·exact h1.trans (List.getElem?_eq_getElem _)
theorem cut_three_at {c:List AV} {o:Nat} {x y z:AV} (hx:c[o]? = some x) (hy:c[o + 1]? = some y) (hz:c[o + 2]? = some z) (nx:ZO x = true) (ny:ZO y = true) (nz:ZO z = true):cut c o 3 = some [x,y,z] :=
 Yg.2 ⟨rfl,fun j hj =>by
  rcases (show j = 0 ∨ j = 1 ∨ j = 2 from by omega) with rfl | rfl | rfl
  ·exact⟨x,hx,nx,rfl⟩
  ·exact⟨y,hy,ny,rfl⟩
  ·exact⟨z,hz,nz,rfl⟩⟩
theorem cut_four_at {c:List AV} {o:Nat} {x y z u:AV} (hx:c[o]? = some x) (hy:c[o + 1]? = some y) (hz:c[o + 2]? = some z) (hu:c[o + 3]? = some u) (nx:ZO x = true) (ny:ZO y = true) (nz:ZO z = true) (nu:ZO u = true):cut c o 4 = some [x,y,z,u] :=
 Yg.2 ⟨rfl,fun j hj =>by
  rcases (show j = 0 ∨ j = 1 ∨ j = 2 ∨ j = 3 from by omega) with rfl | rfl | rfl | rfl
  ·exact⟨x,hx,nx,rfl⟩
  ·exact⟨y,hy,ny,rfl⟩
  ·exact⟨z,hz,nz,rfl⟩
  ·exact⟨u,hu,nu,rfl⟩⟩
theorem av_at {W:World} {arr:Array Value} {i:Nat} {v:Value} (h:arr[i]? = some v):(arr.toList.map (YC W))[i]? = some (YC W v):=by
 rw [List.getElem?_map,Array.getElem?_toList,h]
 rfl
end
end Go.Ev.C
end