/- The interpreter of the translated code, and its proof: part B. -/
import Derived.Test.YtcoemakddkfdcaaGreatHxA
import Derived.Deep.Upon
import Derived.MapKept
import Derived.Laws.Strings
import Derived.Lib.ConvBytes
import Derived.Laws.BytesString
import Derived.Laws.IdiomCopy
import Derived.Lib.LazyBuf
import Derived.Lib.SliceRun
set_option linter.all false
namespace Go.Abs
open Go.RowKit (Below)
variable [Inhabited Glob]
structure CR (T : Nat → Nat → Prop) (G : Gh) (w : World) (cs : List Val) (us : Array Value) : Prop where
 size : us.size = cs.length
 one : ∀ i,i < cs.length → oneV (us.getD i undef) = true
 vr : ∀ i,i < cs.length → VR T G w (cs.getD i .dead) (us.getD i undef)
theorem setCells_length : ∀ (vs : List Val) (cs : List Val) (off : Nat),(setCells cs off vs).length = cs.length
 | [],_,_ => rfl
 | v :: vs,cs,off => by rw [setCells,setCells_length]; simp
theorem setCells_get : ∀ (vs : List Val) (cs : List Val) (off i : Nat),off + vs.length ≤ cs.length → (setCells cs off vs)[i]? = if off ≤ i ∧ i < off + vs.length then vs[i - off]? else cs[i]?
 | [],cs,off,i,_ => by simp [setCells]; omega
 | v :: vs,cs,off,i,h => by
  simp only [List.length_cons] at h
  rw [setCells,setCells_get vs _ _ _ (by simp; omega)]
  by_cases h1 : off + 1 ≤ i ∧ i < off + 1 + vs.length
  ·rw [if_pos h1,if_pos (by simp; omega),show i - off = (i - (off + 1)) + 1 by omega,List.getElem?_cons_succ]
  ·rw [if_neg h1]
   by_cases h2 : i = off
   ·subst h2; rw [if_pos (by simp)]; simp [List.getElem?_set,show i < cs.length by omega]
   ·have h3 : ¬ off = i := fun e => h2 e.symm
    rw [if_neg (by simp; omega)]; simp [List.getElem?_set,h3]
theorem CR.set {T : Nat → Nat → Prop} {G : Gh} {w : World} {cs vs : List Val} {us xs : Array Value} (h : CR T G w cs us) (hv : CR T G w vs xs) {off : Nat} (hl : off + vs.length ≤ cs.length) :
  CR T G w (setCells cs off vs) (wr us off xs.toList) := by
 have e1 : ∀ i,i < cs.length → (setCells cs off vs).getD i .dead = if off ≤ i ∧ i < off + vs.length then vs.getD (i - off) .dead else cs.getD i .dead := by
  intro i hi
  simp only [List.getD_eq_getElem?_getD,setCells_get vs cs off i hl]
  split <;> rfl
 have e2 : ∀ i,i < cs.length → (wr us off xs.toList).getD i undef = if off ≤ i ∧ i < off + vs.length then xs.getD (i - off) undef else us.getD i undef := by
  intro i hi
  have hx : xs.toList.length = vs.length := by simp [hv.size]
  simp only [Array.getD_eq_getD_getElem?,wr_get xs.toList us off i (by rw [hx,h.size]; exact hl),hx]
  split <;> simp
 refine ⟨by rw [wr_size,setCells_length,h.size],fun i hi => ?_,fun i hi => ?_⟩ <;> rw [setCells_length] at hi
 ·rw [e2 i hi]; split
  ·exact hv.one _ (by omega)
  ·exact h.one _ hi
 ·rw [e1 i hi,e2 i hi]; split
  ·exact hv.vr _ (by omega)
  ·exact h.vr _ hi
theorem fold_wr : ∀ (l : List Value) (k off : Nat) (c : Array Value),(l.zipIdx k).foldl (fun (cs : Array Value) (p : Value × Nat) => cs.setIfInBounds (off + p.2) p.1) c = wr c (off + k) l
 | [],_,_,_ => rfl
 | v :: l,k,off,c => by
  simp only [List.zipIdx_cons,List.foldl_cons,wr]
  rw [fold_wr l (k + 1) off]; rfl
section
variable {P : Program} {Ξ : Env} {B : Nat} {S : Nat → Nat → Prop} {G : Gh} {st : St} {N : Nat} {a : Act} {w : World} {o : Oper} {d : Nat} {r : Res}
theorem VR.cr {T : Nat → Nat → Prop} {v : Val} {x : Value} (h : VR T G w v x) (h1 : v.one = true) : CR T G w v.cells x.cells :=
 let ⟨a,b,c⟩ := h.cells (fun vs e => by rw [e] at h1; cases h1)
 ⟨a,b,c⟩
theorem fill_sound {T : Nat → Nat → Prop} {place : Nat → Option (Nat × Nat)} : ∀ (ps : List (Nat × Value)) (qs : List (Nat × Nat × Val)) (cs : List Val) (us : Array Value) (r : List Val),qs.length = ps.length →
  (∀ i (h : i < ps.length) (h' : i < qs.length),place ps[i].1 = some (qs[i].1,qs[i].2.1) ∧ VR T G w qs[i].2.2 ps[i].2) → CR T G w cs us → fillIn cs qs = some r → ∃ us',Instr.fill place us ps = some us' ∧ CR T G w r us'
 | [],[],cs,us,r,_,_,hc,h => by simp only [fillIn,Option.some.injEq] at h; subst h; exact ⟨us,rfl,hc⟩
 | [],_ :: _,_,_,_,h,_,_,_ => by simp at h
 | _ :: _,[],_,_,_,h,_,_,_ => by simp at h
 |(i,x) :: ps,(off,size,v) :: qs,cs,us,r,hl,hp,hc,h => by
  simp only [fillIn] at h
  split at h
  ·rename_i hcond
   obtain ⟨hp0,hv0⟩ := hp 0 (by simp) (by simp)
   simp only [List.getElem_cons_zero] at hp0 hv0
   have hcr := hv0.cr hcond.1
   have hsz : x.cells.size = size := by rw [hcr.size]; exact hcond.2.1
   have hfold : (x.cells.zipIdx.foldl (fun cs (c,j) => cs.setIfInBounds (off + j) c) us) = wr us off x.cells.toList := by
    rw [← Array.foldl_toList,Array.toList_zipIdx]
    exact fold_wr x.cells.toList 0 off us
   obtain ⟨us',h1,h2⟩ := fill_sound ps qs _ (wr us off x.cells.toList) r (by simpa using hl) (fun j hj hj' => hp (j + 1) (by simp; omega) (by simp; omega)) (hc.set hcr (by rw [hcond.2.1]; exact hcond.2.2)) h
   refine ⟨us',?_,h2⟩
   simp only [Instr.fill,hp0,hsz]
   rw [if_neg (by simp [hc.size]; exact hcond.2.2),hfold]
   exact h1
  ·cases h
theorem run_places {fs : List Field} (h : fs.all (fun f => (P.info? f.type).isSome) = true) : (fs.mapM (fun f => do pure (f.offset,← sizeOf f.type) : Field → Sem (Nat × Nat))).run P w = .ok (fs.map fun f => (f.offset,P.cellsOf f.type)) w := by
 induction fs with
 | nil => rfl
 | cons f fs ih =>
  simp only [List.all_cons,Bool.and_eq_true] at h
  obtain ⟨ti,hti⟩ := Option.isSome_iff_exists.1 h.1
  simp only [List.mapM_cons,Sem.run_bind,run_sizeOf hti,Result.andThen_ok,ih h.2,Sem.run_pure,List.map_cons]
theorem zero_cr {T : Nat → Nat → Prop} {t : TypeId} {z : List Val} (h : lowZero P t = some z) : ∃ i v,P.info? t = some i ∧ i.zero = some v ∧ CR T G w z v.cells :=
 let ⟨i,v,a,b,c,e,f⟩ := zero_sound (P := P) (G := G) (w := w) (T := T) h
 ⟨i,v,a,b,c,e,f⟩
theorem parts_sound {α : Type} (hR : Rel P Ξ B S G st N a w) {f : Nat × Operand → Option α} {get : α → Opd} {ps : List (Nat × Operand)} {qs : List α} (h : mapO f ps = some qs) (hg : ∀ p q,f p = some q → lowOpd p.2 = some (get q)) :
  qs.length = ps.length ∧ ∀ i (h : i < ps.length) (h' : i < qs.length),f ps[i] = some qs[i] ∧ VR (Stab B S G w.heap.size) G w (St.get st.fr (get qs[i])) (a.eval ps[i].2) := by
 obtain ⟨h1,h2⟩ := mapO_some h
 exact ⟨h1,fun i hi hi' => ⟨h2 i hi hi',opd_sound hR (hg _ _ (h2 i hi hi'))⟩⟩
theorem op_build_struct (hR : Rel P Ξ B S G st N a w) {t : TypeId} {parts : Array (Nat × Operand)} {fs : Array Field} {z : List Val} {ps : List (Nat × Nat × Opd)} {cs : List Val} (ho : o.op = .build t parts) (ht : P.underlying t = some (.struct fs))
  (hfs : fs.toList.all (fun f => (P.info? f.type).isSome) = true) (hz : lowZero P t = some z)
  (hp : mapO (fun (p : Nat × Operand) => (do let f ← fs[p.1]?; pure (f.offset,P.cellsOf f.type,← lowOpd p.2) : Option (Nat × Nat × Opd))) parts.toList = some ps)
  (hv : fillIn z (ps.map fun p => (p.1,p.2.1,St.get st.fr p.2.2)) = some cs) : OpOk P Ξ B S st N a w o d { v := .agg cs } := by
 obtain ⟨ti,zv,hti,hzv,hcr⟩ := zero_cr (P := P) (G := G) (w := w) (T := Stab B S G w.heap.size) hz
 have hpp : ∀ (p : Nat × Operand) (q : Nat × Nat × Opd),(do let f ← fs[p.1]?; pure (f.offset,P.cellsOf f.type,← lowOpd p.2) : Option (Nat × Nat × Opd)) = some q → ∃ f,fs[p.1]? = some f ∧ q.1 = f.offset ∧ q.2.1 = P.cellsOf f.type ∧ lowOpd p.2 = some q.2.2 := by
  intro p q h
  simp only [Option.bind_eq_bind,Option.bind_eq_some_iff,Option.pure_def,Option.some.injEq] at h
  obtain ⟨f,hf,y,hy,rfl⟩ := h
  exact ⟨f,hf,rfl,rfl,hy⟩
 obtain ⟨l1,l2⟩ := parts_sound (get := fun q => q.2.2) hR hp (fun p q h => let ⟨_,_,_,_,e⟩ := hpp p q h; e)
 obtain ⟨us,h1,h2⟩ := fill_sound (G := G) (w := w) (place := fun i => (fs.toList.map fun f => (f.offset,P.cellsOf f.type)).toArray[i]?) (parts.toList.map fun (p : Nat × Operand) => (p.1,a.eval p.2)) (ps.map fun p => (p.1,p.2.1,St.get st.fr p.2.2)) z zv.cells cs
  (by simp [l1]) (fun i hi hi' => by
   simp only [List.length_map] at hi hi'
   obtain ⟨e1,e2⟩ := l2 i hi hi'
   obtain ⟨f,g1,g2,g3,g4⟩ := hpp _ _ e1
   simp only [List.getElem_map]
   refine ⟨?_,e2⟩
   rw [g2,g3]
   simp only [List.getElem?_toArray,List.getElem?_map,Array.getElem?_toList,g1,Option.map_some]) hcr hv
 refine ok_pure (x := .agg us) hR ?_ (.agg cs us h2.size h2.one h2.vr)
 have hpl : (fs.mapM (fun f => do pure (f.offset,← sizeOf f.type) : Field → Sem (Nat × Nat))).run P w = .ok (fs.toList.map fun f => (f.offset,P.cellsOf f.type)).toArray w := by
  rw [Array.mapM_eq_mapM_toList]
  simp only [Sem.run_map,run_places hfs,Result.andThen_ok]
 simp only [execOp,ho,Instr.build,Sem.run_bind,run_zeroValue hti hzv,Result.andThen_ok,run_underlying ht,hpl]
 rw [show (parts.map fun (i,x) => (i,a.eval x)).toList = parts.toList.map fun (p : Nat × Operand) => (p.1,a.eval p.2) by simp,h1]
 simp
theorem op_build_array (hR : Rel P Ξ B S G st N a w) {t e : TypeId} {n : Nat} {parts : Array (Nat × Operand)} {z : List Val} {ps : List (Nat × Nat × Opd)} {cs : List Val} (ho : o.op = .build t parts) (ht : P.underlying t = some (.array n e))
  (he : (P.info? e).isSome = true) (hz : lowZero P t = some z)
  (hp : mapO (fun (p : Nat × Operand) => (do pure (p.1 * P.cellsOf e,P.cellsOf e,← lowOpd p.2) : Option (Nat × Nat × Opd))) parts.toList = some ps)
  (hv : fillIn z (ps.map fun p => (p.1,p.2.1,St.get st.fr p.2.2)) = some cs) : OpOk P Ξ B S st N a w o d { v := .agg cs } := by
 obtain ⟨te,hte⟩ := Option.isSome_iff_exists.1 he
 obtain ⟨ti,zv,hti,hzv,hcr⟩ := zero_cr (P := P) (G := G) (w := w) (T := Stab B S G w.heap.size) hz
 have hpp : ∀ (p : Nat × Operand) (q : Nat × Nat × Opd),(do pure (p.1 * P.cellsOf e,P.cellsOf e,← lowOpd p.2) : Option (Nat × Nat × Opd)) = some q → q.1 = p.1 * P.cellsOf e ∧ q.2.1 = P.cellsOf e ∧ lowOpd p.2 = some q.2.2 := by
  intro p q h
  simp only [Option.bind_eq_bind,Option.bind_eq_some_iff,Option.pure_def,Option.some.injEq] at h
  obtain ⟨y,hy,rfl⟩ := h
  exact ⟨rfl,rfl,hy⟩
 obtain ⟨l1,l2⟩ := parts_sound (get := fun q => q.2.2) hR hp (fun p q h => (hpp p q h).2.2)
 obtain ⟨us,h1,h2⟩ := fill_sound (G := G) (w := w) (place := fun i => some (i * P.cellsOf e,P.cellsOf e)) (parts.toList.map fun (p : Nat × Operand) => (p.1,a.eval p.2)) (ps.map fun p => (p.1,p.2.1,St.get st.fr p.2.2)) z zv.cells cs
  (by simp [l1]) (fun i hi hi' => by
   simp only [List.length_map] at hi hi'
   obtain ⟨e1,e2⟩ := l2 i hi hi'
   obtain ⟨g2,g3,g4⟩ := hpp _ _ e1
   simp only [List.getElem_map]
   exact ⟨by rw [g2,g3],e2⟩) hcr hv
 refine ok_pure (x := .agg us) hR ?_ (.agg cs us h2.size h2.one h2.vr)
 simp only [execOp,ho,Instr.build,Sem.run_bind,run_zeroValue hti hzv,Result.andThen_ok,run_underlying ht,run_sizeOf hte]
 rw [show (parts.map fun (i,x) => (i,a.eval x)).toList = parts.toList.map fun (p : Nat × Operand) => (p.1,a.eval p.2) by simp,h1]
 simp
theorem op_store_box (hR : Rel P Ξ B S G st N a w) {t : TypeId} {x y : Operand} {x' y' : Opd} {k : Key} {off : Nat} {cs : List Val} {rs : List R} (ho : o.op = .store t x y) (hi : (P.info? t).isSome = true) (h1 : lowOpd x = some x') (h2 : lowOpd y = some y')
  (h3 : (St.get st.fr y').one = true) (h4 : (St.get st.fr y').cells.length = P.cellsOf t) (hX : St.get st.fr x' = .ptr k off) (he : st.en k = some (.box cs false)) (hl : off + P.cellsOf t ≤ cs.length) :
  OpOk P Ξ B S st N a w o d { v := .tup [],ws := [.cells k off (St.get st.fr y').cells],rs := rs } := by
 have hx := opd_sound hR h1
 have hy := (opd_sound hR h2).cr h3
 generalize St.get st.fr y' = Y at *
 generalize hgx : a.eval x = u at hx
 rw [hX] at hx
 cases hx with
 | ptr _ _ b hb =>
 have hE := hR.ents k _ he (Gh.knows_box hb)
 cases hE with
 | box _ _ b' c ty hb' hB hh hs ho1 hv hown =>
  rw [hb] at hb'; simp only [Option.some.injEq] at hb'; subst hb'
  simp only [Bool.false_eq_true,if_false] at hown
  have hcr : CR (Stab B S G w.heap.size) G w cs c := ⟨hs,ho1,hv⟩
  have hset := hcr.set hy (by rw [h4]; exact hl)
  have hrel := hR.write (e' := .box (setCells cs off Y.cells) false) (o' := .cells (wr c off (a.eval y).cells.toList) ty (0,0)) hown hh (fun _ _ => .inl (by simp)) (fun _ => by simp) (fun _ h => by cases h) (fun off h => by omega)
   (fun m => .box _ false b _ ty hb hB (by rw [wput_same _ (heap_lt hh)]) hset.size hset.one (fun j hj => (hset.vr j hj).mono m) (by simpa using hown))
  refine ok_skip ?_ (G' := G) (w' := wput w b (.cells (wr c off (a.eval y).cells.toList) ty (0,0))) ?_ rfl ?_
  ·have hrun := run_storeVar (P := P) (t := t) (o := off) (x := a.eval y) hh (Option.isSome_iff_exists.1 hi) (by rw [hy.size,h4]) (fun i hi => hy.one i (by rw [← hy.size]; exact hi)) (by rw [hy.size,h4,hs]; exact hl)
   simp [execOp,ho,hgx,Instr.storeAt,Instr.sureAddr,hrun]
  ·have : W.applyAll st.en [.cells k off Y.cells] = st.en.set k (some (.box (setCells cs off Y.cells) false)) := by
    simp [W.applyAll,W.apply,he]
   simp only [St.mem,this]
   exact hrel
  ·refine ⟨rfl,rfl,rfl,by rw [wput_size]; exact Nat.le_refl _,fun k hk => wput_other _ (by omega)⟩
end
end Go.Abs
namespace Go.Abs
open Go.RowKit (Below)
structure FR (T : Nat → Nat → Prop) (G : Gh) (w : World) (sz : Nat) (xs : List Val) (us : Array Value) : Prop where
 size : us.size = xs.length * sz
 len : ∀ i,i < xs.length → (xs.getD i .dead).cells.length = sz
 one : ∀ i j,i < xs.length → j < sz → oneV (us.getD (i * sz + j) undef) = true
 vr : ∀ i j,i < xs.length → j < sz → VR T G w ((xs.getD i .dead).cells.getD j .dead) (us.getD (i * sz + j) undef)
theorem idx_lt {i j n sz : Nat} (hi : i < n) (hj : j < sz) : i * sz + j < n * sz := by
 have : i * sz + sz ≤ n * sz := by rw [← Nat.succ_mul]; exact Nat.mul_le_mul_right _ hi
 omega
theorem getD_set {xs : List Val} {i k : Nat} {v : Val} (hk : k < xs.length) : (xs.set i v).getD k .dead = if i = k then v else xs.getD k .dead := by
 simp only [List.getD_eq_getElem?_getD,List.getElem?_set]
 split
 ·rename_i h; subst h; simp [hk]
 ·rfl
theorem FR.set {T : Nat → Nat → Prop} {G : Gh} {w : World} {sz : Nat} {xs : List Val} {us vs : Array Value} {v : Val} {i : Nat} (h : FR T G w sz xs us) (hv : CR T G w v.cells vs) (hl : v.cells.length = sz) (hi : i < xs.length) :
  FR T G w sz (xs.set i v) (wr us (i * sz) vs.toList) := by
 have hvs : vs.toList.length = sz := by simp [hv.size,hl]
 have hend : i * sz + vs.toList.length ≤ us.size := by
  rw [hvs,h.size,← Nat.succ_mul]; exact Nat.mul_le_mul_right _ hi
 have hget : ∀ k j,k < xs.length → j < sz → (wr us (i * sz) vs.toList).getD (k * sz + j) undef = if i = k then vs.getD j undef else us.getD (k * sz + j) undef := by
  intro k j hk hj
  simp only [Array.getD_eq_getD_getElem?,wr_get vs.toList us (i * sz) _ hend,hvs]
  by_cases hik : i = k
  ·subst hik
   rw [if_pos (by omega),if_pos rfl,show i * sz + j - i * sz = j by omega]
   simp
  ·rw [if_neg hik,if_neg]
   rintro ⟨h1,h2⟩
   rcases Nat.lt_or_gt_of_ne hik with h3 | h3
   ·have : i * sz + sz ≤ k * sz := by rw [← Nat.succ_mul]; exact Nat.mul_le_mul_right _ h3
    omega
   ·have : k * sz + sz ≤ i * sz := by rw [← Nat.succ_mul]; exact Nat.mul_le_mul_right _ h3
    omega
 refine ⟨by rw [wr_size,h.size]; simp,fun k hk => ?_,fun k j hk hj => ?_,fun k j hk hj => ?_⟩ <;> simp only [List.length_set] at hk
 ·rw [getD_set hk]; split
  ·exact hl
  ·exact h.len k hk
 ·rw [hget k j hk hj]; split
  ·exact hv.one j (by omega)
  ·exact h.one k j hk hj
 ·rw [getD_set hk,hget k j hk hj]
  by_cases hik : i = k
  ·rw [if_pos hik,if_pos hik]; exact hv.vr j (by omega)
  ·rw [if_neg hik,if_neg hik]; exact h.vr k j hk hj
theorem ofZero_cells {sz : Nat} {z : List Val} (hz : z.length = sz) (h1 : ∀ i,i < z.length → (z.getD i .dead).cells = [z.getD i .dead]) : (ofZero sz z false).cells = z := by
 unfold ofZero
 simp only [Bool.false_eq_true,if_false]
 split
 ·rename_i h
  rw [h] at hz
  match z,hz with
  | [x],_ => simpa using h1 0 (by simp)
 ·rfl
theorem FR.mono {T T' : Nat → Nat → Prop} {G G' : Gh} {w w' : World} {sz : Nat} {xs : List Val} {us : Array Value} (m : Mono T G w T' G' w') (h : FR T G w sz xs us) : FR T' G' w' sz xs us :=
 ⟨h.size,h.len,h.one,fun i j hi hj => (h.vr i j hi hj).mono m⟩
section
variable {P : Program} {Ξ : Env} {B : Nat} {S : Nat → Nat → Prop} {G : Gh} {st : St} {N : Nat} {a : Act} {w : World} {o : Oper} {d : Nat} {r : Res}
theorem fr_zero {T : Nat → Nat → Prop} {e : TypeId} {z : List Val} {sz len : Nat} (hz : lowZero P e = some z) (hl : z.length = sz) :
  ∃ i v,P.info? e = some i ∧ i.zero = some v ∧ v.cells.size = sz ∧ FR T Gh.none w sz (List.replicate len (ofZero sz z false)) ((Array.range (len * sz)).map (v.cells[· % v.cells.size]!)) := by
 obtain ⟨i,v,hi,hzv,hs,ho,hv⟩ := zero_sound (P := P) (G := Gh.none) (w := w) (T := T) hz
 refine ⟨i,v,hi,hzv,by omega,?_⟩
 have hc1 : (ofZero sz z false).cells = z := ofZero_cells hl fun k hk => by
  have h1 := (hv k hk).not_agg (ho k hk)
  generalize z.getD k .dead = u at h1
  cases u <;> first | rfl | exact absurd rfl (h1 _)
 have hget : ∀ k,k < len → (List.replicate len (ofZero sz z false)).getD k .dead = ofZero sz z false := fun k hk => by
  simp [List.getD_eq_getElem?_getD,List.getElem?_replicate,hk]
 have hgu : ∀ k j,k < len → j < sz → ((Array.range (len * sz)).map (v.cells[· % v.cells.size]!)).getD (k * sz + j) undef = v.cells.getD j undef := by
  intro k j hk hj
  have hlt := idx_lt hk hj
  have hmod : (k * sz + j) % v.cells.size = j := by
   rw [show v.cells.size = sz by omega,Nat.mul_comm,Nat.mul_add_mod,Nat.mod_eq_of_lt hj]
  simp only [Array.getD_eq_getD_getElem?,Array.getElem?_map,Array.getElem?_range,hlt,if_true,Option.map_some,Option.getD_some,hmod]
  simp [show j < v.cells.size by omega]
 refine ⟨by simp,fun k hk => ?_,fun k j hk hj => ?_,fun k j hk hj => ?_⟩ <;> simp only [List.length_replicate] at hk
 ·rw [hget k hk,hc1]; exact hl
 ·rw [hgu k j hk hj]; exact ho j (by omega)
 ·rw [hget k hk,hc1,hgu k j hk hj]; exact hv j (by omega)
theorem fillE_sound {T : Nat → Nat → Prop} {sz : Nat} : ∀ (ps : List (Nat × Value)) (qs : List (Nat × Val)) (xs : List Val) (us : Array Value) (r : List Val),qs.length = ps.length →
  (∀ i (h : i < ps.length) (h' : i < qs.length),qs[i].1 = ps[i].1 ∧ VR T G w qs[i].2 ps[i].2) → FR T G w sz xs us → fillElems xs sz qs = some r →
  ∃ us',Instr.fill (fun i => some (i * sz,sz)) us ps = some us' ∧ FR T G w sz r us'
 | [],[],xs,us,r,_,_,hc,h => by simp only [fillElems,Option.some.injEq] at h; subst h; exact ⟨us,rfl,hc⟩
 | [],_ :: _,_,_,_,h,_,_,_ => by simp at h
 | _ :: _,[],_,_,_,h,_,_,_ => by simp at h
 |(i,x) :: ps,(i',v) :: qs,xs,us,r,hl,hp,hc,h => by
  simp only [fillElems] at h
  split at h
  ·rename_i hcond
   obtain ⟨hp0,hv0⟩ := hp 0 (by simp) (by simp)
   simp only [List.getElem_cons_zero] at hp0 hv0
   subst hp0
   have hcr := hv0.cr hcond.1
   have hsz : x.cells.size = sz := by rw [hcr.size]; exact hcond.2.1
   have hfold : (x.cells.zipIdx.foldl (fun cs (c,j) => cs.setIfInBounds (i' * sz + j) c) us) = wr us (i' * sz) x.cells.toList := by
    rw [← Array.foldl_toList,Array.toList_zipIdx]
    exact fold_wr x.cells.toList 0 (i' * sz) us
   obtain ⟨us',h1,h2⟩ := fillE_sound ps qs _ (wr us (i' * sz) x.cells.toList) r (by simpa using hl) (fun j hj hj' => hp (j + 1) (by simp; omega) (by simp; omega)) (hc.set hcr hcond.2.1 hcond.2.2) h
   refine ⟨us',?_,h2⟩
   simp only [Instr.fill,hsz]
   rw [if_neg (by
    have : i' * sz + sz ≤ xs.length * sz := by rw [← Nat.succ_mul]; exact Nat.mul_le_mul_right _ hcond.2.2
    simp [hc.size]; omega),hfold]
   exact h1
  ·cases h
theorem VR.wk {T : Nat → Nat → Prop} {v : Val} {x : Value} (h : VR T G w v x) : VR T G w v.wk x := by
 cases v with
 | tup vs =>
  cases h with
  | tup _ us h hv => exact .tup _ us (by simpa using h) (fun i hi => by rw [wk1_getD]; exact (hv i (by simpa using hi)).wk1)
 | _ => exact h.wk1
end
end Go.Abs
namespace Go.Abs
open Go.RowKit (Below)
variable [Inhabited Glob]
section
variable {P : Program} {Ξ : Env} {B : Nat} {S : Nat → Nat → Prop} {G : Gh} {st : St} {N : Nat} {a : Act} {w : World} {o : Oper} {d : Nat} {r : Res}
theorem freeze_snapsK (hR : Rel P Ξ B S G st N a w) (ks : List Key) : ∃ G',Rel P Ξ B S G' { st with en := W.applyAll st.en (ks.map .frz) } N a w ∧ G.le G' ∧ (∀ b o,Stab B S G w.heap.size b o → Stab B S G' w.heap.size b o) ∧
  (∀ (n : Nat) (v v' : Val) (x : Value) (ks' : List Key),VR (Stab B S G w.heap.size) G w v x → snap n st.en v = some (v',ks') → (∀ k ∈ ks',k ∈ ks) → VR (Stab B S G' w.heap.size) Gh.none w v' x) ∧ ∀ k,G'.knows k → G.knows k := by
 obtain ⟨G',h1,m,e1,e2,e3,hc⟩ := hR.freezeAll ks
 refine ⟨G',h1,m.g,m.t,fun n v v' x ks' hv hs hk => ?_,fun k hk => by unfold Gh.knows at hk ⊢; rwa [e1,e2,e3] at hk⟩
 exact snap_sound hR.ents ⟨m.t,G.le_refl,m.cell,m.map,m.defer,m.loop⟩ n hv hs fun k hk' e he => (hc k (hk k hk') e he).mono (fun _ _ h => h) e1.symm e2.symm e3.symm
theorem freeze_snaps (hR : Rel P Ξ B S G st N a w) (ks : List Key) : ∃ G',Rel P Ξ B S G' { st with en := W.applyAll st.en (ks.map .frz) } N a w ∧ G.le G' ∧ (∀ b o,Stab B S G w.heap.size b o → Stab B S G' w.heap.size b o) ∧
  ∀ (n : Nat) (v v' : Val) (x : Value) (ks' : List Key),VR (Stab B S G w.heap.size) G w v x → snap n st.en v = some (v',ks') → (∀ k ∈ ks',k ∈ ks) → VR (Stab B S G' w.heap.size) Gh.none w v' x := by
 obtain ⟨G',h1,h2,h3,h4,_⟩ := freeze_snapsK hR ks
 exact ⟨G',h1,h2,h3,h4⟩
theorem fr_cl {T : Nat → Nat → Prop} {sz : Nat} {xs : List Val} {us : Array Value} {b : Nat} {ty : TypeId} (h : FR T Gh.none w sz xs us) (hb : w.heap[b]? = some (.cells us ty (0,0))) (ht : ∀ o,o < us.size → T b o) :
  VR T G w (.cl xs) (.slice (some ⟨b,0,none⟩) xs.length xs.length) := by
 refine .cl xs b 0 sz (fun i j => us.getD (i * sz + j) undef) h.len (fun i j hi hj => ?_) (fun i j hi hj => ?_) h.one h.vr
 ·have := idx_lt hi hj
  rw [Nat.zero_add,cell_get hb]; simp [show i * sz + j < us.size by rw [h.size]; exact this]
 ·rw [Nat.zero_add]; exact ht _ (by rw [h.size]; exact idx_lt hi hj)
theorem op_bsliceF {F : Val → Val} (hF : ∀ {T : Nat → Nat → Prop} {w : World} {v : Val} {x : Value},VR T Gh.none w v x → VR T Gh.none w (F v) x) (hR : Rel P Ξ B S G st N a w) {t e : TypeId} {len n : Nat} {parts : Array (Nat × Operand)} {z : List Val} {qs : List (Nat × Opd)} {ps : List ((Nat × Val) × List Key)} {xs : List Val} (ho : o.op = .buildSlice t len parts) (ht : P.underlying t = some (.slice e))
  (hz : lowZero P e = some z) (hzl : z.length = P.cellsOf e) (hp : mapO (fun (p : Nat × Operand) => (do pure (p.1,← lowOpd p.2) : Option (Nat × Opd))) parts.toList = some qs)
  (hl : len * P.cellsOf e ≤ 16777216) (hs : mapO (fun p => (snap n st.en (St.get st.fr p.2)).map fun r => ((p.1,F r.1),r.2)) qs = some ps)
  (hf : fillElems (List.replicate len (ofZero (P.cellsOf e) z false)) (P.cellsOf e) (ps.map (·.1)) = some xs) {rs : List R} :
  OpOk P Ξ B S st N a w o d { v := .cl xs,ws := (ps.flatMap (·.2)).map .frz,rs := rs } := by
 obtain ⟨G',hR',hg,hT,hsnap⟩ := freeze_snaps hR (ps.flatMap (·.2))
 obtain ⟨l1,l2⟩ := parts_sound (get := fun q => q.2) hR hp (fun p q h => by
  simp only [Option.bind_eq_bind,Option.bind_eq_some_iff,Option.pure_def,Option.some.injEq] at h
  obtain ⟨y,hy,rfl⟩ := h; exact hy)
 obtain ⟨m1,m2⟩ := mapO_some hs
 obtain ⟨i,v,hi,hzv,hvs,hfr⟩ := fr_zero (P := P) (w := w) (T := Stab B S G' w.heap.size) (len := len) hz hzl
 obtain ⟨us,h1,h2⟩ := fillE_sound (G := Gh.none) (w := w) (T := Stab B S G' w.heap.size) (parts.toList.map fun (p : Nat × Operand) => (p.1,a.eval p.2)) (ps.map (·.1)) _ _ xs (by simp [m1,l1]) (fun i hi hi' => by
  simp only [List.length_map] at hi hi'
  have hiq : i < qs.length := by omega
  obtain ⟨e1,e2⟩ := l2 i hi hiq
  have e3 := m2 i hiq hi'
  simp only [Option.map_eq_some_iff] at e3
  obtain ⟨⟨v',ks'⟩,e4,e5⟩ := e3
  simp only [Option.bind_eq_bind,Option.bind_eq_some_iff,Option.pure_def,Option.some.injEq] at e1
  obtain ⟨y,_,e6⟩ := e1
  simp only [List.getElem_map,← e5]
  refine ⟨by rw [← e6],hF (hsnap n _ v' _ ks' e2 e4 fun k hk => List.mem_flatMap.2 ⟨ps[i],List.getElem_mem hi',by rw [← e5]; exact hk⟩)⟩) hfr hf
 have hxl : xs.length = len := by
  have : ∀ (qs : List (Nat × Val)) (ys r : List Val) (s : Nat),fillElems ys s qs = some r → r.length = ys.length := by
   intro qs
   induction qs with
   | nil => intro ys r s h; simp only [fillElems,Option.some.injEq] at h; subst h; rfl
   | cons q qs ih =>
    intro ys r s h
    simp only [fillElems] at h
    split at h
    ·have := ih _ _ _ h; simpa using this
    ·cases h
  simpa using this _ _ _ _ hf
 have hb := below_alloc hR (.cells us e)
 have hRf := hR'.below ((Below.refl w.heap.size w).alloc (Nat.le_refl _) (.cells us e))
 have hnew := heap_alloc_new w (.cells us e)
 have hm : Mono (Stab B S G' w.heap.size) Gh.none w (Stab B S G' (w.alloc (.cells us e)).heap.size) Gh.none (w.alloc (.cells us e)) :=
  (mono_below (B := B) (S := S) (G := G') ((Below.refl w.heap.size w).alloc (Nat.le_refl _) (.cells us e))).none
 have hval := fr_cl (G := G') (h2.mono hm) hnew (fun o ho => ⟨heap_lt hnew,.inr ⟨hR.size,by
  cases hown : G'.own w.heap.size with
  | none => trivial
  | some q => obtain ⟨q1,q2⟩ := q; have := (hR'.own _ _ _ hown).2.1; omega⟩⟩)
 rw [hxl] at hval
 refine ok_value (G' := G') (x := .slice (some ⟨w.heap.size,0,none⟩) len len) ?_ ?_ hval hb
 ·have hpre : ∀ zero : Array Value,zero = #[] → len * P.cellsOf e = 0 → (Array.range (len * P.cellsOf e)).map (zero[· % zero.size]!) = (Array.range (len * P.cellsOf e)).map (v.cells[· % v.cells.size]!) := by
   intro zero _ h0; rw [h0,Array.range_zero',Array.map_empty,Array.map_empty]
  simp only [execOp,ho,Instr.buildSlice,Sem.run_bind,run_underlying ht,Result.andThen_ok,run_sizeOf hi]
  rw [if_neg (by omega)]
  rw [show (parts.map fun (i,x) => (i,a.eval x)).toList = parts.toList.map fun (p : Nat × Operand) => (p.1,a.eval p.2) by simp]
  by_cases h0 : len * P.cellsOf e = 0
  ·simp only [if_pos h0,Sem.run_bind,Sem.run_pure,Result.andThen_ok]
   rw [hpre _ rfl h0,h1]
   simp [newRow]
  ·simp only [if_neg h0,Sem.run_bind,run_zeroValue hi hzv,Sem.run_pure,Result.andThen_ok]
   rw [h1]
   simp [newRow]
 ·exact hRf
theorem op_mklen (hR : Rel P Ξ B S G st N a w) {t e : TypeId} {x y : Operand} {x' y' : Opd} {z : List Val} {m : Int} (ho : o.op = .makeSlice t x y) (ht : P.underlying t = some (.slice e))
  (hz : lowZero P e = some z) (hzl : z.length = P.cellsOf e) (hby : P.bytesOf e ≤ 1048576) (h1 : lowOpd x = some x') (h2 : lowOpd y = some y') (hx : St.get st.fr x' = .int .i64 m) (hy : St.get st.fr y' = .int .i64 m) (hm : 0 ≤ m ∧ m ≤ 16777216) :
  OpOk P Ξ B S st N a w o d { v := .bl ⟨0,d,st.cnt 0 d⟩ 0 m.toNat,ws := [.ent ⟨0,d,st.cnt 0 d⟩ (some (.blk (P.cellsOf e) (List.replicate m.toNat (ofZero (P.cellsOf e) z false)) false))],bump := true } := by
 have vx := opd_sound hR h1
 have vy := opd_sound hR h2
 rw [hx] at vx; rw [hy] at vy
 have ex := int_of vx
 have ey := int_of vy
 obtain ⟨k,rfl⟩ := Int.eq_ofNat_of_zero_le hm.1
 obtain ⟨i,v,hi,hzv,hvs,hfr⟩ := fr_zero (P := P) (w := w) (T := Stab B S G w.heap.size) (len := k) hz hzl
 have hf := hR.freshG ⟨0,d,st.cnt 0 d⟩ (Nat.le_refl _)
 have hg := Gh.le_addBlk (b := w.heap.size) (base := 0) (sz := P.cellsOf e) (C := k) (thr := 0) hf.2.1
 have ho' : ∀ b,b ≠ w.heap.size → (G.addBlk ⟨0,d,st.cnt 0 d⟩ w.heap.size 0 (P.cellsOf e) k 0).own b = G.own b := fun b hb => by simp [Gh.addBlk,hb]
 have mm := mono_alloc (B := B) (S := S) (w := w) (o := .cells ((Array.range (k * P.cellsOf e)).map (v.cells[· % v.cells.size]!)) e) hg ho'
 have hrel := hR.alloc d (.cells ((Array.range (k * P.cellsOf e)).map (v.cells[· % v.cells.size]!)) e) (.blk (P.cellsOf e) (List.replicate k (ofZero (P.cellsOf e) z false)) false) _ hg ho'
  (fun k' hk' => by simp [Gh.addBlk,hk']) (fun k' t h => by simp [Gh.addBlk] at h; exact h.1.symm)
  (.blk _ false w.heap.size 0 _ k 0 _ e (by simp [Gh.addBlk]) hR.size (heap_alloc_new _ _) (by simp) (by rw [hfr.size]; simp) hfr.len
   (fun i j hi hj => by rw [Nat.zero_add]; exact hfr.one i j hi hj) (fun i j hi hj => by rw [Nat.zero_add]; exact ((hfr.vr i j hi hj).mono mm.none).into _) (by simp [Gh.addBlk]) (by simp))
 refine ok_value (x := .slice (some ⟨w.heap.size,0,none⟩) k k) ?_ (by simpa [St.mem,W.applyAll,W.apply] using hrel) ?_ (below_alloc hR _)
 ·have hb : P.bytesOf e = i.bytes := by simp [Program.bytesOf,hi]
  have hbig : ¬ (281474976710656 < (i.bytes : Int) * k) := by
   rw [hb] at hby
   have : i.bytes * k ≤ 1048576 * 16777216 := Nat.mul_le_mul hby (by omega)
   have : ((i.bytes * k : Nat) : Int) ≤ 17592186044416 := by omega
   rw [Int.natCast_mul] at this
   omega
  have hw : IntKind.i64.wrap (k : Int) = k := IntWalk.i64_in _ (by omega)
  have hpre : ∀ zero : Array Value,zero = #[] → k * P.cellsOf e = 0 → (Array.range (k * P.cellsOf e)).map (zero[· % zero.size]!) = (Array.range (k * P.cellsOf e)).map (v.cells[· % v.cells.size]!) := by
   intro zero _ h0; rw [h0,Array.range_zero',Array.map_empty,Array.map_empty]
  have hti : (typeInfo e).run P w = .ok i w := by simp [typeInfo,hi]
  simp only [execOp,ho,ex,ey,Instr.makeSlice,Sem.run_bind,run_underlying ht,Result.andThen_ok,asInt,asIntOf,Sem.run_pure,hti,hw]
  rw [if_neg (by simp [hbig])]
  simp only [Sem.run_bind,run_askRoom,Result.andThen_ok,run_sizeOf hi,Int.toNat_natCast]
  by_cases h0 : k * P.cellsOf e = 0
  ·simp only [if_pos h0,Sem.run_bind,Sem.run_pure,Result.andThen_ok]
   rw [hpre _ rfl h0]
   simp [newRow]
  ·simp only [if_neg h0,Sem.run_bind,run_zeroValue hi hzv,Sem.run_pure,Result.andThen_ok]
   simp [newRow]
 ·have := VR.bl (T := Stab B S (G.addBlk ⟨0,d,st.cnt 0 d⟩ w.heap.size 0 (P.cellsOf e) k 0) (w.alloc (.cells ((Array.range (k * P.cellsOf e)).map (v.cells[· % v.cells.size]!)) e)).heap.size)
   (G := G.addBlk ⟨0,d,st.cnt 0 d⟩ w.heap.size 0 (P.cellsOf e) k 0) (w := w.alloc (.cells ((Array.range (k * P.cellsOf e)).map (v.cells[· % v.cells.size]!)) e)) ⟨0,d,st.cnt 0 d⟩ 0 k w.heap.size 0 (P.cellsOf e) k (by simp [Gh.addBlk]) (by omega)
  simpa using this
end
end Go.Abs
namespace Go.Abs
open Go.RowKit (Below)
variable [Inhabited Glob]
structure Rd (T : Nat → Nat → Prop) (G0 : Gh) (w : World) (sz : Nat) (xs : List Val) (b off : Nat) : Prop where
 len : ∀ i,i < xs.length → (xs.getD i .dead).cells.length = sz
 cell : ∀ i j,i < xs.length → j < sz → ∃ c,w.cell? ⟨b,off + i * sz + j,.none⟩ = some c ∧ oneV c = true ∧ VR T G0 w ((xs.getD i .dead).cells.getD j .dead) c
def rdl (w : World) (b off n : Nat) : List Value := (List.range n).map fun k => (w.cell? ⟨b,off + k,.none⟩).getD undef
theorem rdl_len (w : World) (b off n : Nat) : (rdl w b off n).length = n := by simp [rdl]
theorem rdl_get {w : World} {b off n k : Nat} (hk : k < n) : (rdl w b off n)[k]? = some ((w.cell? ⟨b,off + k,.none⟩).getD undef) := by
 simp [rdl,List.getElem?_range hk]
theorem div_lt {k n sz : Nat} (h : k < n * sz) : k / sz < n ∧ k % sz < sz ∧ k = k / sz * sz + k % sz := by
 have hsz : 0 < sz := by
  rcases Nat.eq_zero_or_pos sz with h0 | h0
  ·subst h0; simp at h
  ·exact h0
 exact ⟨(Nat.div_lt_iff_lt_mul hsz).2 h,Nat.mod_lt _ hsz,by rw [Nat.mul_comm]; exact (Nat.div_add_mod k sz).symm⟩
theorem Rd.news {T : Nat → Nat → Prop} {G0 : Gh} {w : World} {sz : Nat} {xs : List Val} {b off : Nat} (h : Rd T G0 w sz xs b off) :
  ∀ j v,(rdl w b off (xs.length * sz))[j]? = some v → w.cell? ((⟨b,off,.none⟩ : Addr).add j) = some v := by
 intro j v hv
 have hj : j < xs.length * sz := by
  have := (List.getElem?_eq_some_iff.1 hv).1; rwa [rdl_len] at this
 rw [rdl_get hj] at hv
 obtain ⟨h1,h2,h3⟩ := div_lt hj
 obtain ⟨c,hc,_⟩ := h.cell _ _ h1 h2
 rw [Nat.add_assoc,← h3] at hc
 rw [hc] at hv
 rw [add_none,hc]; exact hv
theorem Rd.at {T : Nat → Nat → Prop} {G0 : Gh} {w : World} {sz : Nat} {xs : List Val} {b off : Nat} (h : Rd T G0 w sz xs b off) {i j : Nat} (hi : i < xs.length) (hj : j < sz) :
  ∃ c,(rdl w b off (xs.length * sz))[i * sz + j]? = some c ∧ oneV c = true ∧ VR T G0 w ((xs.getD i .dead).cells.getD j .dead) c := by
 obtain ⟨c,h1,h2,h3⟩ := h.cell i j hi hj
 refine ⟨c,?_,h2,h3⟩
 rw [rdl_get (idx_lt hi hj),← Nat.add_assoc,h1]; rfl
theorem getD_append {xs ys : List Val} {i : Nat} : (xs ++ ys).getD i .dead = if i < xs.length then xs.getD i .dead else ys.getD (i - xs.length) .dead := by
 simp only [List.getD_eq_getElem?_getD,List.getElem?_append]
 split <;> rfl
section
variable {P : Program} {Ξ : Env} {B : Nat} {S : Nat → Nat → Prop} {G : Gh} {st : St} {N : Nat} {a : Act} {w : World} {o : Oper} {d : Nat} {r : Res}
theorem src_sound (hR : Rel P Ξ B S G st N a w) {Y : Val} {y : Value} {ys : List Val} {rs : List R} (hy : VR (Stab B S G w.heap.size) G w Y y) (h : elemsOf st.en Y = some (ys,rs)) :
  ∃ q cap,y = .slice q ys.length cap ∧ (ys = [] ∨ ∃ b off sz,q = some ⟨b,off,.none⟩ ∧ Rd (Stab B S G w.heap.size) Gh.none w sz ys b off) := by
 have fro : ∀ {xs : List Val} {clip : Bool},Fro (Stab B S G w.heap.size) w xs clip y → ∃ q cap,y = .slice q xs.length cap ∧ (xs = [] ∨ ∃ b off sz,q = some ⟨b,off,.none⟩ ∧ Rd (Stab B S G w.heap.size) Gh.none w sz xs b off) := by
  intro xs clip hf
  cases hf with
  | nil p cap h hc => subst h; exact ⟨p,cap,rfl,.inl rfl⟩
  | some b off sz cap c hc hcl hs h ht ho hv => exact ⟨_,_,rfl,.inr ⟨b,off,sz,rfl,hs,fun i j hi hj => ⟨c i j,h i j hi hj,ho i j hi hj,hv i j hi hj⟩⟩⟩
 unfold elemsOf at h
 split at h
 ·simp only [Option.some.injEq,Prod.mk.injEq] at h; obtain ⟨rfl,_⟩ := h; exact fro (fro_fz hy)
 ·simp only [Option.some.injEq,Prod.mk.injEq] at h; obtain ⟨rfl,_⟩ := h; exact fro (fro_cl hy)
 ·simp only [Option.some.injEq,Prod.mk.injEq] at h; obtain ⟨rfl,_⟩ := h
  cases hy with
  | es p cap => exact ⟨p,cap,rfl,.inl rfl⟩
 ·rename_i k off len
  split at h
  ·rename_i sz xs f he
   split at h
   ·rename_i hle
    obtain ⟨hle,hdp⟩ := hle
    simp only [Option.some.injEq,Prod.mk.injEq] at h; obtain ⟨rfl,_⟩ := h
    have hlen : ((xs.drop off).take len).length = len := by simp; omega
    cases hy with
    | bl0 _ p hb => exact ⟨p,0,by rw [hlen],.inl (by simp)⟩
    | ble _ p b base sz C hb => exact ⟨p,0,by rw [hlen],.inl (by simp)⟩
    | bl _ _ _ b base sz' C hb hC =>
     refine ⟨_,_,by rw [hlen],.inr ⟨b,base + off * sz',sz',rfl,fun i hi => ?_,fun i j hi hj => ?_⟩⟩ <;> rw [hlen] at hi <;> rw [getD_drop_take hi hle]
     ·exact ((hR.ents k _ he (Gh.knows_blk hb)).elem hb (i := off + i) (by omega)).1
     ·obtain ⟨c,h1,h2,h3⟩ := ((hR.ents k _ he (Gh.knows_blk hb)).elem hb (i := off + i) (by omega)).2 j hj
      rw [Gh.at_none hdp] at h3
      exact ⟨c,by rw [show base + off * sz' + i * sz' + j = base + (off + i) * sz' + j by rw [Nat.add_mul]; omega]; exact h1,h2,h3⟩
   ·cases h
  ·cases h
 ·cases h
theorem Rel.drop (hR : Rel P Ξ B S G st N a w) (k : Key) : Rel P Ξ B S G { st with en := st.en.set k none } N a w :=
 ⟨hR.size,hR.tmps,hR.frame,hR.marks,fun k' e he hkn => by
  simp only [En.set] at he; split at he
  ·cases he
  ·exact hR.ents k' e he hkn,fun k' hk' => by
  simp only [En.set]; split
  ·rfl
  ·exact hR.freshEn k' hk',hR.freshG,hR.own,hR.extra,hR.round,hR.defs,hR.virt⟩
theorem rel_grow {q : Nat} (hR : Rel P Ξ B S G st N a w) {zs : List Val} {c : Array Value} {e : TypeId} {cap sz : Nat} {frz : Bool} (hlen : ∀ i,i < zs.length → (zs.getD i .dead).cells.length = sz)
  (hcell : ∀ i j,i < zs.length → j < sz → ∃ u,c[i * sz + j]? = some u ∧ oneV u = true ∧ VR (Stab B S G w.heap.size) (G.atq q) w ((zs.getD i .dead).cells.getD j .dead) u) (hcap : zs.length ≤ cap) (hsize : cap * sz ≤ c.size) :
  ∃ G',Rel P Ξ B S G' { fr := st.fr,en := st.en.set ⟨q,d,st.cnt q d⟩ (some (.blk sz zs frz)),cnt := setCnt st.cnt q d (st.cnt q d + 1) } N a (w.alloc (.cells c e)) ∧
   VR (Stab B S G' (w.alloc (.cells c e)).heap.size) G' (w.alloc (.cells c e)) (.bl ⟨q,d,st.cnt q d⟩ 0 zs.length) (.slice (some ⟨w.heap.size,0,none⟩) zs.length cap) := by
 have hf := hR.freshG ⟨q,d,st.cnt q d⟩ (Nat.le_refl _)
 let thr := if frz then zs.length * sz else 0
 have hg := Gh.le_addBlk (b := w.heap.size) (base := 0) (sz := sz) (C := cap) (thr := thr) hf.2.1
 have ho' : ∀ b,b ≠ w.heap.size → (G.addBlk ⟨q,d,st.cnt q d⟩ w.heap.size 0 sz cap thr).own b = G.own b := fun b hb => by simp [Gh.addBlk,hb]
 have mm := mono_alloc (B := B) (S := S) (w := w) (o := .cells c e) hg ho'
 have hget : ∀ i j,i < zs.length → j < sz → oneV (c.getD (i * sz + j) undef) = true ∧ VR (Stab B S G w.heap.size) (G.atq q) w ((zs.getD i .dead).cells.getD j .dead) (c.getD (i * sz + j) undef) := fun i j hi hj => by
  obtain ⟨u,h1,h2,h3⟩ := hcell i j hi hj
  simp only [Array.getD_eq_getD_getElem?,h1,Option.getD_some]; exact ⟨h2,h3⟩
 refine ⟨_,hR.allocN q d (.cells c e) (.blk sz zs frz) _ hg ho' (fun k' hk' => by simp [Gh.addBlk,hk']) (fun k' t h => by simp [Gh.addBlk] at h; exact h.1.symm)
  (.blk zs frz w.heap.size 0 sz cap thr c e (by simp [Gh.addBlk]) hR.size (heap_alloc_new _ _) hcap (by omega) hlen
   (fun i j hi hj => by rw [Nat.zero_add]; exact (hget i j hi hj).1) (fun i j hi hj => by rw [Nat.zero_add]; exact (hget i j hi hj).2.mono (mm.atq q)) (by simp [Gh.addBlk]) (by simp [thr])),?_⟩
 have := VR.bl (T := Stab B S (G.addBlk ⟨q,d,st.cnt q d⟩ w.heap.size 0 sz cap thr) (w.alloc (.cells c e)).heap.size) (G := G.addBlk ⟨q,d,st.cnt q d⟩ w.heap.size 0 sz cap thr) (w := w.alloc (.cells c e)) ⟨q,d,st.cnt q d⟩ 0 zs.length w.heap.size 0 sz cap (by simp [Gh.addBlk]) (by omega)
 simpa using this
theorem rel_nul {q : Nat} (hR : Rel P Ξ B S G st N a w) (sz : Nat) (frz : Bool) : ∃ G',Rel P Ξ B S G' { fr := st.fr,en := st.en.set ⟨q,d,st.cnt q d⟩ (some (.blk sz [] frz)),cnt := setCnt st.cnt q d (st.cnt q d + 1) } N a w ∧
   ∀ p,VR (Stab B S G' w.heap.size) G' w (.bl ⟨q,d,st.cnt q d⟩ 0 0) (.slice p 0 0) := by
 have hf := hR.freshG ⟨q,d,st.cnt q d⟩ (Nat.le_refl _)
 have hg := Gh.le_addNul hf.2.1
 have m : Mono (Stab B S G w.heap.size) G w (Stab B S (G.addNul ⟨q,d,st.cnt q d⟩) w.heap.size) (G.addNul ⟨q,d,st.cnt q d⟩) w := ⟨fun _ _ h => h,hg,fun _ _ _ _ h => h,fun _ _ _ _ h => h,fun _ _ h => h,fun _ r h => ⟨r,h⟩⟩
 refine ⟨G.addNul ⟨q,d,st.cnt q d⟩,hR.change m (Nat.le_refl _) (fun k e hk hkn => ?_) (fun k hk => ?_) (fun b k t hb => ?_) (hR.virtAt fun k hk => by simp [Gh.addNul,hk]),fun p => .bl0 _ p (by simp [Gh.addNul])⟩
 ·simp only [En.set] at hk; split at hk
  ·rename_i hke; subst hke; simp only [Option.some.injEq] at hk; subst hk; exact .nul sz frz (by simp [Gh.addNul])
  ·rename_i hne
   exact (hR.ents k e hk (Gh.knows_of (fun k hk => by simp [Gh.addNul,hk]) hne hkn)).mono m.four fun b _ _ => ⟨rfl,rfl⟩
 ·have hne : k ≠ ⟨q,d,st.cnt q d⟩ := by rintro rfl; simp only [bumped_at] at hk; omega
  have hle : st.cnt k.n k.t ≤ k.g := Nat.le_trans (bumped _ _) hk
  obtain ⟨f1,f2,f3⟩ := hR.freshG k hle
  exact ⟨by simp only [En.set,if_neg hne]; exact hR.freshEn k hle,f1,by simp only [Gh.addNul,if_neg hne]; exact f2,f3⟩
 ·obtain ⟨h1,h2,h3⟩ := hR.own b k t hb
  exact ⟨h1,h2,Nat.lt_of_lt_of_le h3 (bumped _ _)⟩
theorem rel_full {q : Nat} (hR : Rel P Ξ B S G st N a w) {xs : List Val} {b base sz : Nat} (hs : ∀ i,i < xs.length → (xs.getD i .dead).cells.length = sz)
  (h : ∀ i j,i < xs.length → j < sz → ∃ c,w.cell? ⟨b,base + i * sz + j,.none⟩ = some c ∧ Stab B S G w.heap.size b (base + i * sz + j) ∧ oneV c = true ∧ VR (Stab B S G w.heap.size) Gh.none w ((xs.getD i .dead).cells.getD j .dead) c) :
  ∃ G',Rel P Ξ B S G' { fr := st.fr,en := st.en.set ⟨q,d,st.cnt q d⟩ (some (.blk sz xs true)),cnt := setCnt st.cnt q d (st.cnt q d + 1) } N a w ∧
   VR (Stab B S G' w.heap.size) G' w (.bl ⟨q,d,st.cnt q d⟩ 0 xs.length) (.slice (some ⟨b,base,none⟩) xs.length xs.length) := by
 have hf := hR.freshG ⟨q,d,st.cnt q d⟩ (Nat.le_refl _)
 have hg := Gh.le_addFull (b := b) (base := base) (sz := sz) (C := xs.length) hf.2.1
 have m : Mono (Stab B S G w.heap.size) G w (Stab B S (G.addFull ⟨q,d,st.cnt q d⟩ b base sz xs.length) w.heap.size) (G.addFull ⟨q,d,st.cnt q d⟩ b base sz xs.length) w := ⟨fun _ _ h => h,hg,fun _ _ _ _ h => h,fun _ _ _ _ h => h,fun _ _ h => h,fun _ r h => ⟨r,h⟩⟩
 have h1 : ∀ i j,∃ c,i < xs.length → j < sz → w.cell? ⟨b,base + i * sz + j,.none⟩ = some c ∧ Stab B S G w.heap.size b (base + i * sz + j) ∧ oneV c = true ∧ VR (Stab B S G w.heap.size) Gh.none w ((xs.getD i .dead).cells.getD j .dead) c := by
  intro i j
  by_cases hi : i < xs.length
  ·by_cases hj : j < sz
   ·obtain ⟨c,hc⟩ := h i j hi hj; exact ⟨c,fun _ _ => hc⟩
   ·exact ⟨undef,fun _ h => absurd h hj⟩
  ·exact ⟨undef,fun h => absurd h hi⟩
 obtain ⟨c,hc⟩ := Classical.axiomOfChoice fun i => Classical.axiomOfChoice (h1 i)
 refine ⟨_,hR.change m (Nat.le_refl _) (fun k e hk hkn => ?_) (fun k hk => ?_) (fun b k t hb => ?_) (hR.virtAt fun k hk => by simp [Gh.addFull,hk]),?_⟩
 ·simp only [En.set] at hk; split at hk
  ·rename_i hke; subst hke; simp only [Option.some.injEq] at hk; subst hk
   exact .full xs b base sz c (by simp [Gh.addFull]) hs (fun i j hi hj => (hc i j hi hj).1) (fun i j hi hj => (hc i j hi hj).2.1) (fun i j hi hj => (hc i j hi hj).2.2.1) (fun i j hi hj => (hc i j hi hj).2.2.2)
  ·rename_i hne
   exact (hR.ents k e hk (Gh.knows_of (fun k hk => by simp [Gh.addFull,hk]) hne hkn)).mono m.four fun b _ _ => ⟨rfl,rfl⟩
 ·have hne : k ≠ ⟨q,d,st.cnt q d⟩ := by rintro rfl; simp only [bumped_at] at hk; omega
  have hle : st.cnt k.n k.t ≤ k.g := Nat.le_trans (bumped _ _) hk
  obtain ⟨f1,f2,f3⟩ := hR.freshG k hle
  exact ⟨by simp only [En.set,if_neg hne]; exact hR.freshEn k hle,f1,by simp only [Gh.addFull,if_neg hne]; exact f2,f3⟩
 ·obtain ⟨h1,h2,h3⟩ := hR.own b k t hb
  exact ⟨h1,h2,Nat.lt_of_lt_of_le h3 (bumped _ _)⟩
 ·have := VR.bl (T := Stab B S (G.addFull ⟨q,d,st.cnt q d⟩ b base sz xs.length) w.heap.size) (G := G.addFull ⟨q,d,st.cnt q d⟩ b base sz xs.length) (w := w) ⟨q,d,st.cnt q d⟩ 0 xs.length b base sz xs.length (by simp [Gh.addFull]) (by omega)
  simpa using this
end
end Go.Abs
namespace Go.Abs
open Go.RowKit (Below)
variable [Inhabited Glob]
theorem setCells_wr {b : Nat} {t : TypeId} : ∀ (vs : List Value) (c : Array Value) (o : Nat) (w : World),w.heap[b]? = some (.cells c t (0,0)) → w.setCells b o vs = wput w b (.cells (wr c o vs) t (0,0))
 | [],c,o,w,h => by rw [World.setCells,wr,wput_id h]
 | v :: vs,c,o,w,h => by
  rw [World.setCells,setCell_put v h,setCells_wr vs (c.setIfInBounds o v) (o + 1) _ (wput_same _ (heap_lt h)),wput_wput,wr]
structure Cs (T : Nat → Nat → Prop) (G0 : Gh) (w : World) (sz : Nat) (xs : List Val) (us : List Value) : Prop where
 len : ∀ i,i < xs.length → (xs.getD i .dead).cells.length = sz
 size : us.length = xs.length * sz
 at' : ∀ i j,i < xs.length → j < sz → ∃ c,us[i * sz + j]? = some c ∧ oneV c = true ∧ VR T G0 w ((xs.getD i .dead).cells.getD j .dead) c
theorem Cs.nil {T : Nat → Nat → Prop} {G0 : Gh} {w : World} {sz : Nat} : Cs T G0 w sz [] [] := ⟨fun i hi => by simp at hi,by simp,fun i j hi => by simp at hi⟩
theorem Cs.one {T : Nat → Nat → Prop} {G0 : Gh} {w : World} {sz : Nat} {xs : List Val} {us : List Value} (h : Cs T G0 w sz xs us) : ∀ u ∈ us,oneV u = true := by
 intro u hu
 obtain ⟨k,hk,rfl⟩ := List.getElem_of_mem hu
 have hk' := hk
 rw [h.size] at hk'
 obtain ⟨h1,h2,h3⟩ := div_lt hk'
 obtain ⟨c,hc,ho,_⟩ := h.at' _ _ h1 h2
 rw [← h3,List.getElem?_eq_getElem hk,Option.some.injEq] at hc
 rw [hc]; exact ho
theorem Cs.mono {T T' : Nat → Nat → Prop} {G G' : Gh} {w w' : World} {sz : Nat} {xs : List Val} {us : List Value} {q : Nat} (m : Mono T G w T' G' w') (h : Cs T (G.atq q) w sz xs us) : Cs T' (G'.atq q) w' sz xs us :=
 ⟨h.len,h.size,fun i j hi hj => by
  obtain ⟨c,h1,h2,h3⟩ := h.at' i j hi hj
  exact ⟨c,h1,h2,h3.mono (m.atq q)⟩⟩
theorem Cs.into {T : Nat → Nat → Prop} {w : World} {sz : Nat} {xs : List Val} {us : List Value} (h : Cs T Gh.none w sz xs us) (G0 : Gh) : Cs T G0 w sz xs us :=
 ⟨h.len,h.size,fun i j hi hj => let ⟨c,h1,h2,h3⟩ := h.at' i j hi hj; ⟨c,h1,h2,h3.into _⟩⟩
theorem Cs.append {T : Nat → Nat → Prop} {G0 : Gh} {w : World} {sz : Nat} {xs ys : List Val} {us vs : List Value} (h : Cs T G0 w sz xs us) (k : Cs T G0 w sz ys vs) : Cs T G0 w sz (xs ++ ys) (us ++ vs) := by
 refine ⟨fun i hi => ?_,by simp [h.size,k.size,Nat.add_mul],fun i j hi hj => ?_⟩
 ·rw [getD_append]; split
  ·exact h.len i (by assumption)
  ·simp at hi; exact k.len _ (by omega)
 ·rw [getD_append]; split
  ·rename_i hlt
   obtain ⟨c,h1,h2⟩ := h.at' i j hlt hj
   exact ⟨c,by rw [List.getElem?_append_left (by rw [h.size]; exact idx_lt hlt hj)]; exact h1,h2⟩
  ·rename_i hge
   simp at hi
   obtain ⟨c,h1,h2⟩ := k.at' (i - xs.length) j (by omega) hj
   refine ⟨c,?_,h2⟩
   have he : i * sz + j - us.length = (i - xs.length) * sz + j := by
    rw [h.size,Nat.sub_mul]
    have : xs.length * sz ≤ i * sz := Nat.mul_le_mul_right _ (by omega)
    omega
   rw [List.getElem?_append_right (by rw [h.size]; have : xs.length * sz ≤ i * sz := Nat.mul_le_mul_right _ (by omega); omega),he]; exact h1
theorem Rd.cs {T : Nat → Nat → Prop} {G0 : Gh} {w : World} {sz : Nat} {xs : List Val} {b off : Nat} (h : Rd T G0 w sz xs b off) : Cs T G0 w sz xs (rdl w b off (xs.length * sz)) :=
 ⟨h.len,rdl_len _ _ _ _,fun _ _ hi hj => h.at hi hj⟩
theorem size_zeroCells' (z : Array Value) (n : Nat) : (Builtin.zeroCells z n).size = n * z.size := by simp [Builtin.zeroCells]
theorem dbl {n cap bytes : Nat} (hc : cap < n) (hn : n ≤ 16777216 + 16777216) (hb : bytes ≤ 1048576) : Builtin.nextslicecap n cap * bytes ≤ 281474976710656 := by
 refine growslice_fits hc ?_
 have := Nat.mul_le_mul hn hb
 omega
section
variable {P : Program} {Ξ : Env} {B : Nat} {S : Nat → Nat → Prop} {G : Gh} {st : St} {N : Nat} {a : Act} {w : World} {o : Oper} {d : Nat} {r : Res}
theorem src_of (hR : Rel P Ξ B S G st N a w) {t e : TypeId} {i : TypeInfo} (ht : P.underlying t = some (.slice e)) {Y : Val} {y : Value} {ys : List Val} {rs : List R} (hy : VR (Stab B S G w.heap.size) G w Y y)
  (h : elemsOf st.en Y = some (ys,rs)) (hh : headOk i.size ys = true) : ∃ news,Src P i.size t y ys.length news w ∧ Cs (Stab B S G w.heap.size) Gh.none w i.size ys news := by
 obtain ⟨q,cap,rfl,h0⟩ := src_sound hR hy h
 have nil : ys = [] → ∃ news,Src P i.size t (.slice q ys.length cap) ys.length news w ∧ Cs (Stab B S G w.heap.size) Gh.none w i.size ys news := by
  rintro rfl
  refine ⟨[],?_,Cs.nil⟩
  cases q with
  | none => exact Src.ofNil w ht cap
  | some q => exact Src.ofSlice w ht q 0 cap [] (by simp) (by simp) (by simp)
 rcases h0 with h0 | ⟨b,off,sz,rfl,hrd⟩
 ·exact nil h0
 ·rcases size_of_head hrd.len hh with h0 | rfl
  ·exact nil h0
  ·exact ⟨_,Src.ofSlice w ht _ _ _ _ (rdl_len _ _ _ _) hrd.news (fun u hu => oneCell_of (hrd.cs.one u hu)),hrd.cs⟩
theorem grow_sound {q : Nat} (hR : Rel P Ξ B S G st N a w) {t e ty : TypeId} {i : TypeInfo} {z : Value} (ht : P.underlying t = some (.slice e)) (hi : P.info? e = some i) (hz : i.zero = some z) (hzs : z.cells.size = i.size) (hby : i.bytes ≤ 1048576)
  {p : Option Addr} {cap : Nat} {xs ys : List Val} {olds news : List Value} {y : Value} {frz : Bool} (hold : (Builtin.firstCells i.size xs.length (.slice p xs.length cap)).run P w.drew = .ok olds.toArray w.drew)
  (hx : Cs (Stab B S G w.heap.size) (G.atq q) w i.size xs olds) (hs : Src P i.size t y ys.length news w) (hy : Cs (Stab B S G w.heap.size) Gh.none w i.size ys news) (hg : cap < xs.length + ys.length) (hsm : xs.length + ys.length ≤ 16777216) :
  ∃ G' x w',(Builtin.append_ #[t,t] ty #[.slice p xs.length cap,y]).run P w = .ok x w' ∧
   Rel P Ξ B S G' { fr := st.fr,en := st.en.set ⟨q,d,st.cnt q d⟩ (some (.blk i.size (xs ++ ys) frz)),cnt := setCnt st.cnt q d (st.cnt q d + 1) } N a w' ∧
   VR (Stab B S G' w'.heap.size) G' w' (.bl ⟨q,d,st.cnt q d⟩ 0 (xs.length + ys.length)) x ∧ Below B w w' := by
 have hrun := run_append_grow_src w t t ty e i z ht hi hz p xs.length cap olds hold y ys.length news hs hg (by omega) (dbl hg (by omega) hby)
 have hbd : Below w.heap.size w w.drew := (Below.refl _ _).drew
 have hcs := (hx.append (hy.into _)).mono (mono_below (B := B) (S := S) (G := G) hbd)
 have hR' := hR.below hbd
 have hge := grownCap_ge w (xs.length + ys.length) cap e
 obtain ⟨G',h1,h2⟩ := rel_grow (q := q) (d := d) (frz := frz) (e := e) hR' (zs := xs ++ ys) (c := (olds ++ news).toArray ++ Builtin.zeroCells z.cells (grownCap w (xs.length + ys.length) cap e - (xs.length + ys.length))) (cap := grownCap w (xs.length + ys.length) cap e)
  hcs.len (fun i' j hi' hj => by
   obtain ⟨c,h1,h2,h3⟩ := hcs.at' i' j hi' hj
   refine ⟨c,?_,h2,h3⟩
   rw [Array.getElem?_append_left (by rw [List.size_toArray,hcs.size]; exact idx_lt hi' hj)]; simpa using h1) (by simp; omega) (by
   rw [Array.size_append,List.size_toArray,hcs.size,size_zeroCells',hzs,List.length_append,← Nat.add_mul]
   exact Nat.mul_le_mul_right _ (by omega))
 refine ⟨G',_,_,hrun,h1,by simpa using h2,(Below.refl B w).drew.alloc hR.size _⟩
theorem first_nil {size cap : Nat} {p : Option Addr} (w : World) : (Builtin.firstCells size 0 (.slice p 0 cap)).run P w = .ok ([] : List Value).toArray w := by
 cases p with
 | none => exact run_firstCells_none w size 0 0 cap
 | some q => exact run_firstCells_some w size 0 q 0 cap [] (by simp) (by simp)
end
end Go.Abs
namespace Go.Abs
open Go.RowKit (Below)
variable [Inhabited Glob]
section
variable {P : Program} {Ξ : Env} {B : Nat} {S : Nat → Nat → Prop} {G : Gh} {st : St} {N : Nat} {a : Act} {w : World} {o : Oper} {d : Nat} {r : Res}
theorem rel_room {q : Nat} (hR : Rel P Ξ B S G st N a w) {k : Key} {xs ys : List Val} {news : List Value} {f : Bool} {b base sz C thr off : Nat} {c : Array Value} {ty : TypeId} (he : st.en k = some (.blk sz xs f))
  (hown : G.own b = some (k,thr)) (h : w.heap[b]? = some (.cells c ty (0,0))) (hC' : base + C * sz ≤ c.size) (hthr : thr = if f then base + xs.length * sz else base)
  (hs : ∀ i,i < xs.length → (xs.getD i .dead).cells.length = sz)
  (ho : ∀ i j,i < xs.length → j < sz → oneV (c.getD (base + i * sz + j) undef) = true)
  (hkq : k.deep = true → q = 3) (hv : ∀ i j,i < xs.length → j < sz → VR (Stab B S G w.heap.size) (G.at k) w ((xs.getD i .dead).cells.getD j .dead) (c.getD (base + i * sz + j) undef))
  (hy : Cs (Stab B S G w.heap.size) Gh.none w sz ys news) (hoff : off ≤ xs.length) (hroom : xs.length + ys.length ≤ C) :
  ∃ G',Rel P Ξ B S G' { fr := st.fr,en := (st.en.set k none).set ⟨q,d,st.cnt q d⟩ (some (.blk sz (xs.drop off ++ ys) f)),cnt := setCnt st.cnt q d (st.cnt q d + 1) } N a (wput w b (.cells (wr c (base + xs.length * sz) news) ty (0,0))) ∧
   VR (Stab B S G' (wput w b (.cells (wr c (base + xs.length * sz) news) ty (0,0))).heap.size) G' (wput w b (.cells (wr c (base + xs.length * sz) news) ty (0,0))) (.bl ⟨q,d,st.cnt q d⟩ 0 (xs.length - off + ys.length))
    (.slice (some ⟨b,base + off * sz,none⟩) (xs.length - off + ys.length) (C - off)) := by
 obtain ⟨hB,hlt,hk⟩ := hR.own b k thr hown
 have hf := hR.freshG ⟨q,d,st.cnt q d⟩ (Nat.le_refl _)
 let nk : Key := ⟨q,d,st.cnt q d⟩
 have hne : k ≠ nk := by rintro rfl; simp only [nk] at hk; omega
 have hmul : base + off * sz ≤ base + xs.length * sz := by have := Nat.mul_le_mul_right sz hoff; omega
 have hfit : base + xs.length * sz + news.length ≤ c.size := by
  rw [hy.size]
  have := Nat.mul_le_mul_right sz hroom
  rw [Nat.add_mul] at this; omega
 let thr' := if f then base + off * sz + (xs.length - off + ys.length) * sz else base + off * sz
 have htt : thr ≤ thr' := by
  simp only [hthr,thr']
  cases f with
  | false => simp
  | true =>
   simp only [if_true]
   rw [Nat.add_mul,Nat.sub_mul]; have := Nat.mul_le_mul_right sz hoff; omega
 let G' : Gh := { G.addFull nk b (base + off * sz) sz (C - off) with own := fun b' => if b' = b then some (nk,thr') else G.own b' }
 let w' := wput w b (.cells (wr c (base + xs.length * sz) news) ty (0,0))
 have hsz : w'.heap.size = w.heap.size := wput_size _ _ _
 have hg : G.le G' := ⟨fun k' b' h => h,(Gh.le_addFull hf.2.1).blk,fun k' b' h => h⟩
 have hnew : w'.heap[b]? = some (.cells (wr c (base + xs.length * sz) news) ty (0,0)) := wput_same _ hlt
 have hle : thr ≤ base + xs.length * sz := by
  rw [hthr]; split
  ·exact Nat.le_refl _
  ·omega
 have m : Mono (Stab B S G w.heap.size) G w (Stab B S G' w'.heap.size) G' w' := by
  refine ⟨fun b' o' hst => ?_,hg,fun b' o' u hst hu => ?_,fun r es cl hst hr => ?_,fun b' ds h' => by
   by_cases hb : b' = b
   ·subst hb; rw [h] at h'; cases h'
   ·rw [wput_other _ hb]; exact h',fun b' r h' => by
   by_cases hb : b' = b
   ·subst hb; rw [h] at h'; cases h'
   ·exact ⟨r,by rw [wput_other _ hb]; exact h'⟩⟩
  ·rw [hsz]
   obtain ⟨h1,h2⟩ := hst
   refine ⟨h1,h2.imp id fun h2 => ⟨h2.1,?_⟩⟩
   by_cases hb : b' = b
   ·subst hb
    have h3 := h2.2; rw [hown] at h3
    have h4 : G'.own b' = some (nk,thr') := by simp [G']
    rw [h4]; exact Nat.lt_of_lt_of_le h3 htt
   ·simp only [G',if_neg hb]; exact h2.2
  ·by_cases hb : b' = b
   ·subst hb
    have ho' : o' < thr := by
     rcases hst with ⟨_,⟨h,_⟩ | ⟨_,h⟩⟩
     ·omega
     ·rw [hown] at h; exact h
    rw [cell_get hnew,wr_get _ _ _ _ hfit,if_neg (by omega)]
    rw [cell_get h] at hu; exact hu
   ·rw [cell_of_heap (wput_other _ hb)]; exact hu
  ·by_cases hb : r = b
   ·subst hb; rw [h] at hr; cases hr
   ·rw [wput_other _ hb]; exact hr
 have hlen : (xs.drop off ++ ys).length = xs.length - off + ys.length := by simp
 refine ⟨G',hR.change m (by rw [hsz]; exact Nat.le_refl _) (fun k' e hk' hkn => ?_) (fun k' hk' => ?_) (fun b' k' t hb' => ?_) (hR.virtAt fun k hk => by simp [G',Gh.addFull,nk,hk]),?_⟩
 ·simp only [En.set] at hk'
  split at hk'
  ·rename_i hke
   simp only [Option.some.injEq] at hk'; subst hk'
   rw [hke]
   have hget : ∀ i j,i < (xs.drop off ++ ys).length → j < sz → ∃ u,(wr c (base + xs.length * sz) news)[base + off * sz + i * sz + j]? = some u ∧ oneV u = true ∧ VR (Stab B S G w.heap.size) (G.atq q) w (((xs.drop off ++ ys).getD i .dead).cells.getD j .dead) u := by
    intro i j hi hj
    rw [hlen] at hi
    have e0 : base + off * sz + i * sz + j = base + (off + i) * sz + j := by rw [Nat.add_mul]; omega
    rw [getD_append,wr_get _ _ _ _ hfit,e0]
    by_cases hl : i < (xs.drop off).length
    ·simp only [List.length_drop] at hl
     have h3 : off + i < xs.length := by omega
     have h4 := idx_lt h3 hj
     rw [if_pos (show i < (xs.drop off).length by simpa using hl),if_neg (by omega)]
     have h5 : base + (off + i) * sz + j < c.size := by have := hy.size; omega
     refine ⟨c.getD (base + (off + i) * sz + j) undef,by simp [Array.getElem?_eq_getElem h5,Array.getD_eq_getD_getElem?],ho _ _ h3 hj,?_⟩
     have e1 : (xs.drop off).getD i .dead = xs.getD (off + i) .dead := by simp [List.getD_eq_getElem?_getD,List.getElem?_drop]
     rw [e1]; exact (hv _ _ h3 hj).shift hkq
    ·rw [if_neg hl]
     simp only [List.length_drop] at hl ⊢
     have hi' : i - (xs.length - off) < ys.length := by omega
     obtain ⟨u,h1,h2,h3⟩ := hy.at' _ j hi' hj
     have e1 : (off + i) * sz = xs.length * sz + (i - (xs.length - off)) * sz := by rw [← Nat.add_mul]; congr 1; omega
     have h4 := idx_lt hi' hj
     rw [if_pos ⟨by omega,by rw [hy.size]; omega⟩,show base + (off + i) * sz + j - (base + xs.length * sz) = (i - (xs.length - off)) * sz + j by omega]
     exact ⟨u,h1,h2,h3.into _⟩
   have hget' : ∀ i j,i < (xs.drop off ++ ys).length → j < sz → oneV ((wr c (base + xs.length * sz) news).getD (base + off * sz + i * sz + j) undef) = true ∧
     VR (Stab B S G w.heap.size) (G.atq q) w (((xs.drop off ++ ys).getD i .dead).cells.getD j .dead) ((wr c (base + xs.length * sz) news).getD (base + off * sz + i * sz + j) undef) := fun i j hi hj => by
    obtain ⟨u,h1,h2,h3⟩ := hget i j hi hj
    simp only [Array.getD_eq_getD_getElem?,h1,Option.getD_some]; exact ⟨h2,h3⟩
   refine .blk _ f b (base + off * sz) sz (C - off) thr' _ ty (by simp [G',Gh.addFull,nk]) hB hnew (by rw [hlen]; omega) (by
     rw [wr_size,Nat.sub_mul]; have := Nat.mul_le_mul_right sz (show off ≤ C by omega); omega) (fun i hi => ?_)
    (fun i j hi hj => (hget' i j hi hj).1) (fun i j hi hj => (hget' i j hi hj).2.mono (m.atq q)) (by simp [G',nk]) (by simp only [thr',hlen])
   rw [getD_append]; split
   ·rename_i hl; simp at hl
    have e1 : (xs.drop off).getD i .dead = xs.getD (off + i) .dead := by simp [List.getD_eq_getElem?_getD,List.getElem?_drop]
    rw [e1]; exact hs _ (by omega)
   ·rename_i hl; rw [hlen] at hi; simp at hl; exact hy.len _ (by simp; omega)
  ·rename_i hn1
   split at hk'
   ·cases hk'
   ·rename_i hn2
    refine (hR.ents k' e hk' (Gh.knows_of (nk := nk) (fun k hk => by simp [G',Gh.addFull,hk]) hn1 hkn)).mono m.four fun b' _ hb' => ?_
    have hb : b' ≠ b := by
     rintro rfl
     rcases hb' with ⟨t,hb'⟩ | ⟨hb',_⟩
     ·rw [hown] at hb'; simp only [Option.some.injEq,Prod.mk.injEq] at hb'; exact hn2 hb'.1.symm
     ·rw [hown] at hb'; cases hb'
    exact ⟨wput_other _ hb,by simp only [G',if_neg hb]⟩
 ·have hne' : k' ≠ nk := by rintro rfl; simp only [nk,bumped_at] at hk'; omega
  have hle' : st.cnt k'.n k'.t ≤ k'.g := Nat.le_trans (bumped _ _) hk'
  obtain ⟨f1,f2,f3⟩ := hR.freshG k' hle'
  refine ⟨?_,f1,by simp only [G',Gh.addFull,if_neg hne']; exact f2,f3⟩
  simp only [En.set]
  rw [if_neg hne']; split
  ·rfl
  ·exact hR.freshEn k' hle'
 ·simp only [G'] at hb'
  rw [hsz]
  split at hb'
  ·rename_i hbb
   simp only [Option.some.injEq,Prod.mk.injEq] at hb'
   obtain ⟨rfl,_⟩ := hb'
   subst hbb
   exact ⟨hB,hlt,by simp only [nk,bumped_at]; omega⟩
  ·obtain ⟨h1,h2,h3⟩ := hR.own b' k' t hb'
   exact ⟨h1,h2,Nat.lt_of_lt_of_le h3 (bumped _ _)⟩
 ·have := VR.bl (T := Stab B S G' w'.heap.size) (G := G') (w := w') nk 0 (xs.length - off + ys.length) b (base + off * sz) sz (C - off) (by simp [G',Gh.addFull,nk]) (by omega)
  simpa using this
theorem below_put {b : Nat} {o' : Obj} (hB : B ≤ b) : Below B w (wput w b o') :=
 ⟨rfl,rfl,rfl,by rw [wput_size]; exact Nat.le_refl _,fun k hk => wput_other _ (by omega)⟩
end
end Go.Abs
namespace Go.Abs
open Go.RowKit (Below)
variable [Inhabited Glob]
section
variable {P : Program} {Ξ : Env} {B : Nat} {S : Nat → Nat → Prop} {G : Gh} {st : St} {N : Nat} {a : Act} {w : World} {o : Oper} {d : Nat} {r : Res}
theorem run_app {ts : Array TypeId} {x y : Operand} {v : Value} {w' : World} (ho : o.op = .call { callee := .builtin .append,args := #[x,y],argTypes := ts })
  (h : (Builtin.append_ ts o.type #[a.eval x,a.eval y]).run P w = .ok v w') : (execOp a.eval o).run P w = .ok (.value v) w' := by
 simp [execOp,ho,resolve,invoke,builtin,h]
theorem drop_getD {xs : List Val} {off i : Nat} : (xs.drop off).getD i .dead = xs.getD (off + i) .dead := by simp [List.getD_eq_getElem?_getD,List.getElem?_drop]
theorem op_append_bl {q : Nat} (hR : Rel P Ξ B S G st N a w) {t e : TypeId} {x y : Operand} {i : TypeInfo} {zv : Value} {ys : List Val} {rs : List R} {news : List Value} {k : Key} {off len : Nat} {xs : List Val} {f : Bool}
  (ho : o.op = .call { callee := .builtin .append,args := #[x,y],argTypes := #[t,t] }) (ht : P.underlying t = some (.slice e)) (hi : P.info? e = some i) (hzv : i.zero = some zv) (hzs : zv.cells.size = i.size) (hbe : i.bytes ≤ 1048576)
  (hs : Src P i.size t (a.eval y) ys.length news w) (hcy : Cs (Stab B S G w.heap.size) Gh.none w i.size ys news)
  (hle : ∀ {p : Option Addr} {m c : Nat},m ≤ c → ys = [] → (Builtin.append_ #[t,t] o.type #[.slice p m c,a.eval y]).run P w = .ok (.slice p m c) w)
  (vx : VR (Stab B S G w.heap.size) G w (.bl k off len) (a.eval x)) (hk : st.en k = some (.blk i.size xs f)) (hkq : k.deep = true → q = 3) (hc1 : off + len = xs.length) (hc2 : len + ys.length ≤ 16777216) :
  OpOk P Ξ B S st N a w o d { v := .bl ⟨q,d,st.cnt q d⟩ 0 (len + ys.length),ws := [.ent k none,.ent ⟨q,d,st.cnt q d⟩ (some (.blk i.size (xs.drop off ++ ys) f))],rs := .val k :: .flag k :: rs,bump := true } q := by
 have hE := hR.ents k _ hk vx.knows_bl
 have hRd := hR.drop k
 have hlen : (xs.drop off).length = len := by simp; omega
 have empty : ∀ p,a.eval x = .slice p 0 0 → xs.drop off = [] → OpOk P Ξ B S st N a w o d
   { v := .bl ⟨q,d,st.cnt q d⟩ 0 (len + ys.length),ws := [.ent k none,.ent ⟨q,d,st.cnt q d⟩ (some (.blk i.size (xs.drop off ++ ys) f))],rs := .val k :: .flag k :: rs,bump := true } q := by
  intro p hp h0
  rw [h0] at hlen ⊢
  simp only [List.length_nil] at hlen
  subst hlen
  by_cases hn : ys = []
  ·subst hn
   obtain ⟨G',g1,g2⟩ := rel_nul (q := q) (d := d) hRd i.size f
   exact ok_value (x := .slice p 0 0) (run_app ho (by rw [hp]; exact hle (Nat.le_refl 0) rfl)) (by simpa [St.mem,W.applyAll,W.apply] using g1) (by simpa using g2 p) (Below.refl _ _)
  ·have hpos : 0 < ys.length := List.length_pos_iff.2 hn
   obtain ⟨G',xv,w',hrun,g1,g2,g3⟩ := grow_sound (q := q) (d := d) (ty := o.type) (frz := f) (p := p) (cap := 0) (xs := []) (olds := []) hRd ht hi hzv hzs hbe (first_nil w.drew) Cs.nil hs hcy (by simpa using hpos) (by simpa using hc2)
   exact ok_value (run_app ho (hp ▸ hrun)) (by simpa [St.mem,W.applyAll,W.apply] using g1) (by simpa using g2) g3
 have anew : ∀ b base C,G.blk k = some (some (b,base,i.size,C)) → a.eval x = .slice (some ⟨b,base + off * i.size,.none⟩) len (C - off) → C - off < len + ys.length → OpOk P Ξ B S st N a w o d
   { v := .bl ⟨q,d,st.cnt q d⟩ 0 (len + ys.length),ws := [.ent k none,.ent ⟨q,d,st.cnt q d⟩ (some (.blk i.size (xs.drop off ++ ys) f))],rs := .val k :: .flag k :: rs,bump := true } q := by
  intro b base C hb hp hgt
  have hrd : Rd (Stab B S G w.heap.size) (G.atq q) w i.size (xs.drop off) b (base + off * i.size) := by
   refine ⟨fun i' hi' => ?_,fun i' j hi' hj => ?_⟩ <;> rw [drop_getD] <;> rw [hlen] at hi'
   ·exact (hE.elem hb (i := off + i') (by omega)).1
   ·obtain ⟨c,e1,e2,e3⟩ := (hE.elem hb (i := off + i') (by omega)).2 j hj
    exact ⟨c,by rw [show base + off * i.size + i' * i.size + j = base + (off + i') * i.size + j by rw [Nat.add_mul]; omega]; exact e1,e2,e3.shift hkq⟩
  rw [← hlen] at hp hgt hc2 ⊢
  obtain ⟨G',xv,w',hrun,g1,g2,g3⟩ := grow_sound (q := q) (d := d) (ty := o.type) (frz := f) hRd ht hi hzv hzs hbe (run_firstCells_some w.drew i.size _ ⟨b,base + off * i.size,.none⟩ (xs.drop off).length (C - off) _ (rdl_len _ _ _ _) (by simpa using hrd.news)) hrd.cs hs hcy hgt hc2
  exact ok_value (run_app ho (hp ▸ hrun)) (by simpa [St.mem,W.applyAll,W.apply] using g1) g2 g3
 generalize hxv : a.eval x = xv at vx
 cases vx with
 | bl0 _ p hb =>
  refine empty p hxv ?_
  cases hE with
  | nul _ _ _ => simp
  | blk _ _ b base sz C thr c t' hb1 => rw [hb] at hb1; cases hb1
  | full _ b base sz c hb1 => rw [hb] at hb1; cases hb1
 | ble _ p b base sz C hb =>
  refine empty p hxv ?_
  cases hE with
  | nul _ _ hb1 => rw [hb] at hb1; cases hb1
  | blk _ _ b base sz C' thr c t' hb1 _ _ hC => rw [hb] at hb1; simp only [Option.some.injEq,Prod.mk.injEq] at hb1; rw [List.drop_eq_nil_iff]; omega
  | full _ b base sz c hb1 => rw [hb] at hb1; simp only [Option.some.injEq,Prod.mk.injEq] at hb1; rw [List.drop_eq_nil_iff]; omega
 | bl _ _ _ b base sz C hb hl =>
  cases hE with
  | nul _ _ hb1 => rw [hb] at hb1; cases hb1
  | blk _ _ b1 base1 _ C1 thr c t1 hb1 hB hh1 hC hC' hs1 ho1 hv1 hown hthr =>
   have hbb := hb1
   rw [hb] at hb1; simp only [Option.some.injEq,Prod.mk.injEq] at hb1
   obtain ⟨rfl,rfl,rfl,rfl⟩ := hb1
   by_cases hroom : xs.length + ys.length ≤ C
   ·obtain ⟨G',g1,g2⟩ := rel_room (q := q) (d := d) (off := off) hR hk hown hh1 hC' hthr hs1 ho1 hkq hv1 hcy (by omega) hroom
    have hxl : base + off * i.size + len * i.size = base + xs.length * i.size := by rw [Nat.add_assoc,← Nat.add_mul,hc1]
    have hfit : base + xs.length * i.size + news.length ≤ c.size := by
     rw [hcy.size]
     have := Nat.mul_le_mul_right i.size hroom
     rw [Nat.add_mul] at this; omega
    have hrun := run_append_room_src (P := P) w t t o.type e i ht hi b (base + off * i.size) len (C - off) (a.eval y) ys.length news hs (by omega)
     (fun j hj => by rw [hxl,cell_get hh1]; simp; omega)
     (fun j hj => by simp [World.frozen?,hh1])
    rw [hxl,setCells_wr _ _ _ _ hh1] at hrun
    rw [show xs.length - off = len by omega] at g2
    exact ok_value (run_app ho (hxv ▸ hrun)) (by simpa [St.mem,W.applyAll,W.apply] using g1) g2 (below_put hB)
   ·exact anew b base C hbb hxv (by omega)
  | full _ b1 base1 _ c hb1 hs1 hcell hst ho1 hv1 =>
   have hbb := hb1
   rw [hb] at hb1; simp only [Option.some.injEq,Prod.mk.injEq] at hb1
   obtain ⟨rfl,rfl,rfl,rfl⟩ := hb1
   by_cases hn : ys = []
   ·subst hn
    by_cases h0 : i.size = 0 ∧ False
    ·exact absurd h0.2 id
    ·obtain ⟨G',g1,g2⟩ := rel_full (q := q) (d := d) (b := b) (base := base + off * i.size) (xs := xs.drop off) (sz := i.size) hRd (fun i' hi' => by rw [drop_getD]; rw [hlen] at hi'; exact hs1 _ (by omega)) (fun i' j hi' hj => by
      rw [hlen] at hi'
      have e0 : base + off * i.size + i' * i.size + j = base + (off + i') * i.size + j := by rw [Nat.add_mul]; omega
      rw [drop_getD,e0]
      exact ⟨c (off + i') j,hcell _ _ (by omega) hj,hst _ _ (by omega) hj,ho1 _ _ (by omega) hj,hv1 _ _ (by omega) hj⟩)
     have hrun : (execOp a.eval o).run P w = .ok (.value (.slice (some ⟨b,base + off * i.size,.none⟩) len (xs.length - off))) w := run_app ho (by rw [hxv]; exact hle (by omega) rfl)
     rw [show xs.length - off = len by omega] at hrun
     rw [hlen] at g2
     exact ok_value hrun (by simpa [St.mem,W.applyAll,W.apply] using g1) (by simpa using g2) (Below.refl _ _)
   ·have hpos : 0 < ys.length := List.length_pos_iff.2 hn
    exact anew b base xs.length hbb hxv (by omega)
theorem Rel.trunc (hR : Rel P Ξ B S G st N a w) {k : Key} {sz : Nat} {xs : List Val} {f : Bool} (hk : st.en k = some (.blk sz xs f)) {m : Nat} (hm : m = xs.length ∨ f = false ∧ m ≤ xs.length) :
  Rel P Ξ B S G { st with en := st.en.set k (some (.blk sz (xs.take m) f)) } N a w := by
 refine ⟨hR.size,hR.tmps,hR.frame,hR.marks,fun k' e he hkn => ?_,fun k' hk' => ?_,hR.freshG,hR.own,hR.extra,hR.round,hR.defs,hR.virt⟩
 ·simp only [En.set] at he
  split at he
  ·rename_i hkk
   subst hkk
   simp only [Option.some.injEq] at he; subst he
   have hE := hR.ents k' _ hk hkn
   rcases hm with rfl | ⟨rfl,hm⟩
   ·rw [List.take_length]; exact hE
   ·have hgd : ∀ i,i < m → (xs.take m).getD i .dead = xs.getD i .dead := fun i hi => by simp [List.getD_eq_getElem?_getD,List.getElem?_take,hi]
    cases hE with
    | nul _ _ h => rw [List.take_nil]; exact .nul _ _ h
    | blk _ _ b base _ C thr c t hb hB h hC hC' hs ho hv hown hthr =>
     have hl : (xs.take m).length = m := by simp; omega
     refine .blk _ false b base _ C thr c t hb hB h (by omega) hC' (fun i hi => ?_) (fun i j hi hj => ?_) (fun i j hi hj => ?_) hown hthr <;> rw [hl] at hi
     ·rw [hgd i hi]; exact hs i (by omega)
     ·exact ho i j (by omega) hj
     ·rw [hgd i hi]; exact hv i j (by omega) hj
  ·exact hR.ents k' e he hkn
 ·simp only [En.set]
  split
  ·rename_i hkk; subst hkk; have := hR.freshEn k' hk'; rw [this] at hk; cases hk
  ·exact hR.freshEn k' hk'
theorem op_appendV {q : Nat} (hR : Rel P Ξ B S G st N a w) {t e : TypeId} {x y : Operand} {x' y' : Opd} (ho : o.op = .call { callee := .builtin .append,args := #[x,y],argTypes := #[t,t] }) (ht : P.underlying t = some (.slice e))
  (hz : (lowZero P e).map List.length = some (P.cellsOf e)) (hby : P.bytesOf e ≤ 1048576) (h1 : lowOpd x = some x') (h2 : lowOpd y = some y')
  (hev : appendV q d (st.cnt q d) st.en (P.cellsOf e) (St.get st.fr x') (elemsOf st.en (St.get st.fr y')) = some r) : OpOk P Ξ B S st N a w o d r q := by
 obtain ⟨z,hz1,hz2⟩ := Option.map_eq_some_iff.1 hz
 obtain ⟨i,zv,hi,hzv,hzc⟩ := zero_cr (P := P) (w := w) (T := Stab B S G w.heap.size) (G := G) hz1
 have hsz : P.cellsOf e = i.size := by simp [Program.cellsOf,hi]
 have hbe : i.bytes ≤ 1048576 := by simpa [Program.bytesOf,hi] using hby
 have hzs : zv.cells.size = i.size := by rw [hzc.size,hz2,hsz]
 rw [hsz] at hev
 have vx := opd_sound hR h1
 have vy := opd_sound hR h2
 simp only [appendV] at hev
 split at hev
 case h_2 => cases hev
 rename_i ys rs hel
 split at hev
 case isFalse => cases hev
 rename_i hh
 obtain ⟨news,hs,hcy⟩ := src_of (i := i) hR ht vy hel hh
 have hle : ∀ {p : Option Addr} {m c : Nat},m ≤ c → ys = [] → (Builtin.append_ #[t,t] o.type #[.slice p m c,a.eval y]).run P w = .ok (.slice p m c) w := by
  rintro p m c hm rfl
  have : news = [] := by have := hcy.size; simpa using this
  subst this
  exact run_append_nothing w t t o.type e i ht hi p m c hm _ hs
 split at hev
 ·-- a slice without room
  rename_i xs hX
  rw [hX] at vx
  split at hev
  ·rename_i hye
   simp only [Option.some.injEq] at hev
   subst hev
   have hn : ys = [] := List.isEmpty_iff.1 hye
   have hfro := fro_cl vx
   obtain ⟨p,hp⟩ : ∃ p,a.eval x = .slice p xs.length xs.length := by
    generalize a.eval x = xv at hfro
    cases hfro with
    | nil p cap h hcap => subst h; exact ⟨p,by rw [hcap rfl]; rfl⟩
    | some b off sz cap c hcc hcl hsx hcell hst ho1 hv1 => exact ⟨_,by rw [hcl rfl]⟩
   exact ok_pure (x := .slice p xs.length xs.length) hR (run_app ho (by rw [hp]; exact hle (Nat.le_refl xs.length) hn)) (hp ▸ vx)
  rename_i hne
  split at hev
  case isFalse => cases hev
  rename_i hc
  simp only [Option.some.injEq] at hev
  subst hev
  have hfro := fro_cl vx
  have key : ∃ p,a.eval x = .slice p xs.length xs.length ∧ ∃ olds,(Builtin.firstCells i.size xs.length (.slice p xs.length xs.length)).run P w.drew = .ok olds.toArray w.drew ∧ Cs (Stab B S G w.heap.size) Gh.none w i.size xs olds ∧
    (xs = [] ∨ ∃ b off,p = some ⟨b,off,none⟩ ∧ ∀ i' j,i' < xs.length → j < i.size → ∃ c,w.cell? ⟨b,off + i' * i.size + j,.none⟩ = some c ∧ Stab B S G w.heap.size b (off + i' * i.size + j) ∧ oneV c = true ∧ VR (Stab B S G w.heap.size) Gh.none w ((xs.getD i' .dead).cells.getD j .dead) c) := by
   generalize a.eval x = xv at hfro
   cases hfro with
   | nil p cap h hcap => subst h; exact ⟨p,by rw [hcap rfl]; rfl,[],first_nil w.drew,Cs.nil,.inl rfl⟩
   | some b off sz cap c hcc hcl hsx hcell hst ho1 hv1 =>
    rcases size_of_head hsx hc.2 with h0 | rfl
    ·subst h0; exact ⟨_,by rw [hcl rfl],[],first_nil w.drew,Cs.nil,.inl rfl⟩
    ·have hrd : Rd (Stab B S G w.heap.size) Gh.none w i.size xs b off := ⟨hsx,fun i' j hi' hj => ⟨c i' j,hcell i' j hi' hj,ho1 i' j hi' hj,hv1 i' j hi' hj⟩⟩
     exact ⟨_,by rw [hcl rfl],_,run_firstCells_some w.drew i.size xs.length _ _ _ _ (rdl_len _ _ _ _) (by simpa using hrd.news),hrd.cs,
      .inr ⟨b,off,rfl,fun i' j hi' hj => ⟨c i' j,hcell i' j hi' hj,hst i' j hi' hj,ho1 i' j hi' hj,hv1 i' j hi' hj⟩⟩⟩
  obtain ⟨p,hp,olds,hold,hcx,hpl⟩ := key
  have hn : ys ≠ [] := fun h => hne (by rw [h]; rfl)
  have hpos : 0 < ys.length := List.length_pos_iff.2 hn
  obtain ⟨G',xv,w',hrun,g1,g2,g3⟩ := grow_sound (q := q) (d := d) (ty := o.type) (frz := !xs.isEmpty) hR ht hi hzv hzs hbe hold (hcx.into _) hs hcy (by omega) hc.1
  exact ok_value (run_app ho (hp ▸ hrun)) (by simpa [St.mem,W.applyAll,W.apply] using g1) g2 g3
 ·-- an own slice
  rename_i k off len hX
  rw [hX] at vx
  split at hev
  case h_2 => cases hev
  rename_i sz xs f hk
  split at hev
  case isFalse => cases hev
  rename_i hc
  obtain ⟨hc1,hc2,rfl,hkq⟩ := hc
  simp only [Option.some.injEq] at hev
  subst hev
  have hR' := hR.trunc hk hc1
  have hl : off + len = (xs.take (off + len)).length := by
   rw [List.length_take]
   rcases hc1 with h | ⟨_,h⟩ <;> omega
  have hok := op_append_bl (q := q) (d := d) (rs := rs) (f := f) (k := k) hR' ho ht hi hzv hzs hbe hs hcy hle vx (by simp [En.set]) hkq hl hc2
  have hen : ∀ (u v : Option Ent),W.applyAll (st.en.set k u) [.ent k none,.ent ⟨q,d,st.cnt q d⟩ v] = W.applyAll st.en [.ent k none,.ent ⟨q,d,st.cnt q d⟩ v] := by
   intro u v
   simp only [W.applyAll,List.foldl_cons,List.foldl_nil,W.apply]
   funext k'; simp only [En.set]; split
   ·rfl
   ·split <;> rfl
  intro ro m next Q kk
  refine hok ro m next Q fun x w' G' h1 h2 h3 => kk x w' G' ?_ h2 h3
  simp only [St.mem,hen] at h1 ⊢
  exact h1
 ·cases hev
theorem op_append (hR : Rel P Ξ B S G st N a w) {n : Nat} {call : CallFn} {t e : TypeId} {x y : Operand} {x' y' : Opd} (ho : o.op = .call { callee := .builtin .append,args := #[x,y],argTypes := #[t,t] }) (ht : P.underlying t = some (.slice e))
  (hz : (lowZero P e).map List.length = some (P.cellsOf e)) (hby : P.bytesOf e ≤ 1048576) (h1 : lowOpd x = some x') (h2 : lowOpd y = some y')
  (hev : eval n call 0 d (st.cnt 0 d) st.en (St.get st.fr) (.append (P.cellsOf e) x' y') = some r) : OpOk P Ξ B S st N a w o d r :=
 op_appendV hR ho ht hz hby h1 h2 hev
end
end Go.Abs
namespace Go.Abs
open Go.RowKit (Below)
variable [Inhabited Glob]
theorem putCells_cells {y : Val} {off : Nat} {vs : List Val} (hl : off + vs.length ≤ y.cells.length) (h1 : ∀ v ∈ vs,v.cells = [v]) : (putCells y off vs).cells = setCells y.cells off vs := by
 cases y with
 | agg cs => rfl
 | _ =>
  simp only [Val.cells,List.length_cons,List.length_nil] at hl
  rcases vs with _ | ⟨v,_ | ⟨v2,vs⟩⟩
  ·cases off <;> simp [putCells,setCells,Val.cells]
  ·cases off with
   | zero => simp only [putCells,setCells,if_pos,Val.cells,List.set]; exact h1 v (by simp)
   | succ n => simp at hl
  ·simp only [List.length_cons] at hl; omega
theorem applyAll_frz {ks : List Key} {en : En} {k : Key} (h : k ∉ ks) : W.applyAll en (ks.map .frz) k = en k := by
 induction ks generalizing en with
 | nil => rfl
 | cons k0 ks ih =>
  simp only [List.mem_cons,not_or] at h
  have h2 : W.applyAll en ((k0 :: ks).map .frz) = W.applyAll (W.apply en (.frz k0)) (ks.map .frz) := rfl
  rw [h2,ih h.2]
  simp only [W.apply]
  cases en k0 with
  | none => rfl
  | some e => simp only [En.set,if_neg h.1]
section
variable {P : Program} {Ξ : Env} {B : Nat} {S : Nat → Nat → Prop} {G : Gh} {st : St} {N : Nat} {a : Act} {w : World} {o : Oper} {d : Nat} {r : Res}
theorem store_core {G' : Gh} {ws0 : List W} {u : Val} {t : TypeId} {x y : Operand} {k : Key} {i off sz : Nat} {xs : List Val} {Y : Val} {rs : List R} (hR' : Rel P Ξ B S G' { st with en := W.applyAll st.en ws0 } N a w)
  (ho : o.op = .store t x y) (hi : (P.info? t).isSome = true) (hx : VR (Stab B S G' w.heap.size) G' w (.ep k i off) (a.eval x)) (hen : W.applyAll st.en ws0 k = some (.blk sz xs false)) (hY : xs[i]? = some Y) (hl : off + P.cellsOf t ≤ Y.cells.length)
  (hone : u.one = true) (hwl : u.cells.length = P.cellsOf t) (hv0 : VR (Stab B S G' w.heap.size) (G'.at k) w u (a.eval y)) :
  OpOk P Ξ B S st N a w o d { v := .tup [],ws := ws0 ++ [.elem k i off u.cells],rs := rs } := by
 have hy := hv0.cr hone
 generalize hV : u.cells = vs at *
 generalize hgx : a.eval x = ux at hx
 obtain ⟨hi',hgd⟩ := xs_getD hY
 cases hx with
 | ep _ _ _ b base sz' C hb' hiC =>
 have hE := hR'.ents k _ hen (Gh.knows_blk hb')
 cases hE with
 | nul _ _ hb1 => rw [hb'] at hb1; cases hb1
 | blk _ _ b1 base1 _ C1 thr c ty hb1 hB hh hC hC' hs1 ho1 hv1 hown hthr =>
  rw [hb'] at hb1; simp only [Option.some.injEq,Prod.mk.injEq] at hb1
  obtain ⟨rfl,rfl,rfl,rfl⟩ := hb1
  simp only [Bool.false_eq_true,if_false] at hthr
  have hthr' := hthr.symm
  subst hthr'
  have hYl : Y.cells.length = sz' := by rw [← hgd]; exact hs1 i hi'
  have hfit : base + i * sz' + off + (a.eval y).cells.toList.length ≤ c.size := by
   have h5 : i * sz' + sz' ≤ C * sz' := by rw [← Nat.succ_mul]; exact Nat.mul_le_mul_right _ (by omega)
   have h6 : (a.eval y).cells.toList.length = P.cellsOf t := by rw [Array.length_toList,hy.size,hwl]
   omega
  have hcell1 : ∀ v ∈ vs,v.cells = [v] := by
   intro v hv
   obtain ⟨j,hj,rfl⟩ := List.getElem_of_mem hv
   have e1 := hy.vr j hj
   have e2 := hy.one j hj
   rw [show vs.getD j .dead = vs[j] by simp [List.getD_eq_getElem?_getD,hj]] at e1
   have := e1.not_agg e2
   generalize vs[j] = q at this
   cases q <;> first | rfl | exact absurd rfl (this _)
  have hpc : (putCells Y off vs).cells = setCells Y.cells off vs := putCells_cells (by omega) hcell1
  have hset : ∀ m : Nat,m < xs.length → (xs.set i (putCells Y off vs)).getD m .dead = if i = m then putCells Y off vs else xs.getD m .dead := fun m hm => getD_set hm
  have hyl : (a.eval y).cells.toList.length = vs.length := by rw [Array.length_toList,hy.size]
  have hat : ∀ m j,m < xs.length → j < sz' → ∃ u,(wr c (base + i * sz' + off) (a.eval y).cells.toList)[base + m * sz' + j]? = some u ∧ oneV u = true ∧
    VR (Stab B S G' w.heap.size) (G'.at k) w (((xs.set i (putCells Y off vs)).getD m .dead).cells.getD j .dead) u := by
   intro m j hm hj
   rw [wr_get _ _ _ _ hfit,hset m hm]
   have hin : base + m * sz' + j < c.size := by
    have h5 : m * sz' + sz' ≤ C * sz' := by rw [← Nat.succ_mul]; exact Nat.mul_le_mul_right _ (by omega)
    omega
   by_cases him : i = m
   ·subst him
    rw [if_pos rfl,hpc,List.getD_eq_getElem?_getD,setCells_get _ _ _ _ (by omega)]
    by_cases hr : off ≤ j ∧ j < off + vs.length
    ·rw [if_pos (by omega),if_pos hr,show base + i * sz' + j - (base + i * sz' + off) = j - off by omega]
     have hjo : j - off < vs.length := by omega
     refine ⟨(a.eval y).cells.getD (j - off) undef,?_,hy.one _ hjo,?_⟩
     ·have : j - off < (a.eval y).cells.size := by rw [hy.size]; exact hjo
      simp [Array.getElem?_toList,this]
     ·rw [← List.getD_eq_getElem?_getD]; exact hy.vr _ hjo
    ·rw [if_neg (by omega),if_neg hr]
     refine ⟨c.getD (base + i * sz' + j) undef,by simp [Array.getD_eq_getD_getElem?,hin],ho1 i j hm hj,?_⟩
     rw [← List.getD_eq_getElem?_getD]
     have := hv1 i j hm hj; rw [hgd] at this; exact this
   ·have hdis : ¬ (base + i * sz' + off ≤ base + m * sz' + j ∧ base + m * sz' + j < base + i * sz' + off + (a.eval y).cells.toList.length) := by
     rw [hyl]
     rcases Nat.lt_or_gt_of_ne him with h | h
     ·have : i * sz' + sz' ≤ m * sz' := by rw [← Nat.succ_mul]; exact Nat.mul_le_mul_right _ h
      omega
     ·have : m * sz' + sz' ≤ i * sz' := by rw [← Nat.succ_mul]; exact Nat.mul_le_mul_right _ h
      omega
    rw [if_neg him,if_neg hdis]
    exact ⟨c.getD (base + m * sz' + j) undef,by simp [Array.getD_eq_getD_getElem?,hin],ho1 m j hm hj,hv1 m j hm hj⟩
  have hat' : ∀ m j,m < xs.length → j < sz' → oneV ((wr c (base + i * sz' + off) (a.eval y).cells.toList).getD (base + m * sz' + j) undef) = true ∧
    VR (Stab B S G' w.heap.size) (G'.at k) w (((xs.set i (putCells Y off vs)).getD m .dead).cells.getD j .dead) ((wr c (base + i * sz' + off) (a.eval y).cells.toList).getD (base + m * sz' + j) undef) := fun m j hm hj => by
   obtain ⟨u,e1,e2,e3⟩ := hat m j hm hj
   simp only [Array.getD_eq_getD_getElem?,e1,Option.getD_some]; exact ⟨e2,e3⟩
  have hrel := hR'.write (e' := .blk sz' (xs.set i (putCells Y off vs)) false) (o' := .cells (wr c (base + i * sz' + off) (a.eval y).cells.toList) ty (0,0)) hown hh (fun _ _ => .inl (by simp)) (fun _ => by simp) (fun _ h => by cases h)
   (fun q hq => by rw [cell_get (wput_same _ (heap_lt hh)),cell_get hh,wr_get _ _ _ _ hfit,if_neg (by omega)])
   (fun m => .blk _ false b base sz' C base _ ty hb' hB (wput_same _ (heap_lt hh)) (by simpa using hC) (by rw [wr_size]; exact hC')
    (fun q hq => by
     simp only [List.length_set] at hq
     rw [hset q hq]; split
     ·rw [hpc,setCells_length]; exact hYl
     ·exact hs1 q hq)
    (fun q j hq hj => (hat' q j (by simpa using hq) hj).1) (fun q j hq hj => (hat' q j (by simpa using hq) hj).2.mono (m.atq k.n)) hown (by simp))
  refine ok_skip ?_ (G' := G') (w' := wput w b (.cells (wr c (base + i * sz' + off) (a.eval y).cells.toList) ty (0,0))) ?_ rfl (below_put hB)
  ·have hrun := run_storeVar (P := P) (t := t) (o := base + i * sz' + off) (x := a.eval y) hh (Option.isSome_iff_exists.1 hi) (by rw [hy.size,hwl]) (fun j hj => hy.one j (by rw [← hy.size]; exact hj)) (by rw [hy.size]; simpa [hyl] using hfit)
   simp [execOp,ho,hgx,Instr.storeAt,Instr.sureAddr,hrun]
  ·have : W.applyAll st.en (ws0 ++ [.elem k i off vs]) = (W.applyAll st.en ws0).set k (some (.blk sz' (xs.set i (putCells Y off vs)) false)) := by
    simp only [W.applyAll,List.foldl_append] at hen ⊢
    simp only [List.foldl_cons,List.foldl_nil,W.apply,hen,hY]
   simp only [St.mem,this]
   exact hrel
theorem op_store_elem (hR : Rel P Ξ B S G st N a w) {t : TypeId} {x y : Operand} {x' y' : Opd} {k : Key} {i off n sz : Nat} {xs : List Val} {Y : Val} {v' : Val} {ks : List Key} {rs : List R} (ho : o.op = .store t x y) (hi : (P.info? t).isSome = true) (h1 : lowOpd x = some x') (h2 : lowOpd y = some y')
  (hX : St.get st.fr x' = .ep k i off) (he : st.en k = some (.blk sz xs false)) (hY : xs[i]? = some Y) (hl : off + P.cellsOf t ≤ Y.cells.length)
  (hs : snap n st.en (St.get st.fr y') = some (v',ks)) (h3 : v'.one = true) (h4 : v'.cells.length = P.cellsOf t) (hk : k ∉ ks) :
  OpOk P Ξ B S st N a w o d { v := .tup [],ws := ks.map .frz ++ [.elem k i off v'.wk1.cells],rs := rs } := by
 obtain ⟨G',hR',hg,hT,hsnap⟩ := freeze_snaps hR ks
 have hx := opd_sound hR h1
 rw [hX] at hx
 have hone : v'.wk1.one = true := by cases v' <;> first | rfl | simp [Val.one] at h3
 have hwl : v'.wk1.cells.length = P.cellsOf t := by
  rw [← h4]
  cases v' <;> first | rfl | simp [Val.wk1,Val.wk0,Val.cells]
 refine store_core hR' ho hi ?_ (by rw [applyAll_frz hk,he]) hY hl hone hwl ((hsnap n _ v' _ ks (opd_sound hR h2) hs fun _ h => h).wk1.into _)
 generalize a.eval x = ux at hx
 cases hx with
 | ep _ _ _ b base sz' C hb hiC => exact .ep _ _ _ b base sz' C (hg.blk _ _ hb) hiC
theorem op_store_deep (hR : Rel P Ξ B S G st N a w) {t : TypeId} {x y : Operand} {x' y' : Opd} {k : Key} {i off sz : Nat} {xs : List Val} {Y : Val} {rs : List R} (ho : o.op = .store t x y) (hi : (P.info? t).isSome = true) (h1 : lowOpd x = some x') (h2 : lowOpd y = some y')
  (hX : St.get st.fr x' = .ep k i off) (he : st.en k = some (.blk sz xs false)) (hY : xs[i]? = some Y) (hl : off + P.cellsOf t ≤ Y.cells.length) (hd : k.deep = true)
  (h3 : (St.get st.fr y').one = true) (h4 : (St.get st.fr y').cells.length = P.cellsOf t) :
  OpOk P Ξ B S st N a w o d { v := .tup [],ws := [.elem k i off (St.get st.fr y').cells],rs := rs } := by
 have hx := opd_sound hR h1
 rw [hX] at hx
 have hv := opd_sound hR h2
 have : VR (Stab B S G w.heap.size) (G.at k) w (St.get st.fr y') (a.eval y) := by
  have : G.at k = G := by simp only [Key.deep,decide_eq_true_eq] at hd; simp [Gh.at,Gh.atq,hd]
  rw [this]; exact hv
 exact store_core (ws0 := []) hR ho hi hx he hY hl h3 h4 this
end
end Go.Abs
namespace Go.Abs
open Go.RowKit (Below)
variable [Inhabited Glob]
def Gone (w : World) (S : Nat → Nat → Prop) (w' : World) (b o : Nat) : Prop := b < w'.heap.size ∧ (b < w.heap.size → S b o)
def OwnR (B : Nat) (T : Nat → Nat → Prop) (w : World) (sz : Nat) (xs : List Val) (v : Value) : Prop :=
 (xs = [] ∧ ∃ a,v = .slice a 0 0) ∨ ∃ (b base C : Nat) (c : Array Value) (t : TypeId),B ≤ b ∧ v = .slice (some ⟨b,base,.none⟩) xs.length C ∧ w.heap[b]? = some (.cells c t (0,0)) ∧ xs.length ≤ C ∧ base + C * sz ≤ c.size ∧
  (∀ i,i < xs.length → (xs.getD i .dead).cells.length = sz) ∧ (∀ i j,i < xs.length → j < sz → oneV (c.getD (base + i * sz + j) undef) = true) ∧
  ∀ i j,i < xs.length → j < sz → VR (fun b' o => T b' o ∧ (b' = b → o < base)) Gh.none w ((xs.getD i .dead).cells.getD j .dead) (c.getD (base + i * sz + j) undef)
def ResR (B : Nat) (T : Nat → Nat → Prop) (w : World) (r : Val) (v : Value) : Prop :=
 match r with
 | .own sz xs => OwnR B T w sz xs v
 | r => VR T Gh.none w r v
theorem ResR.vr {B : Nat} {T : Nat → Nat → Prop} {w : World} {r : Val} {v : Value} (h : VR T Gh.none w r v) : ResR B T w r v := by
 cases r <;> first | exact h | cases h
def CallOk (P : Program) (call : CallFn) : Prop := ∀ f args r,call f args = some r →
 (∃ fn,P.funcs[f]? = some fn ∧ (fn.name == "runtime.NumGoroutine") = false ∧ fn.body.isNone = false) ∧
 ∀ (S : Nat → Nat → Prop) (w : World) (vals : Array Value),(∀ b o,S b o → b < w.heap.size) → GlobOk S w → vals.size = args.length →
  (∀ i,i < args.length → VR S Gh.none w (args.getD i .dead) (vals.getD i undef)) →
  Calls P f vals w fun e w' => ∃ v,e = .returned v ∧ Below w.heap.size w w' ∧ ResR w.heap.size (Gone w S w') w' r v
theorem flat0_mono {T T' : Nat → Nat → Prop} {G G' : Gh} {w w' : World} {v : Val} {x : Value} (h : VR T G w v x) (hf : v.flat0 = true) : VR T' G' w' v x := by
 cases h with
 | fn f a b x y ha hb hx hy =>
  cases a with
  | nil => cases b with
   | nil => exact .fn f [] [] x y ha hb (fun i hi => by simp at hi) (fun i hi => by simp at hi)
   | cons => simp [Val.flat0] at hf
  | cons => simp [Val.flat0] at hf
 | _ => first | (simp [Val.flat0] at hf; done) | constructor
theorem flat1_mono {T T' : Nat → Nat → Prop} {G G' : Gh} {w w' : World} {v : Val} {x : Value} (h : VR T G w v x) (hf : v.flat1 = true) : VR T' G' w' v x := by
 have agg : ∀ {cs : List Val} {x : Value},VR T G w (.agg cs) x → cs.all Val.flat0 = true → VR T' G' w' (.agg cs) x := by
  intro cs x h hf
  cases h with
  | agg _ y h1 ho hv =>
   refine .agg cs y h1 ho fun i hi => flat0_mono (hv i hi) ?_
   have := List.all_eq_true.1 hf cs[i] (List.getElem_mem hi)
   simpa [List.getD_eq_getElem?_getD,hi] using this
 cases v with
 | agg cs => exact agg h hf
 | ifc t v =>
  cases h with
  | ifc _ _ y h =>
   refine .ifc t v y ?_
   cases v with
   | agg cs => exact agg h hf
   | _ => exact flat0_mono h hf
 | _ => exact flat0_mono h hf
theorem flat_mono {T T' : Nat → Nat → Prop} {G G' : Gh} {w w' : World} {v : Val} {x : Value} (h : VR T G w v x) (hf : v.flat = true) : VR T' G' w' v x := by
 cases v with
 | tup vs =>
  cases h with
  | tup _ y h1 hv =>
   refine .tup vs y h1 fun i hi => flat1_mono (hv i hi) ?_
   have := List.all_eq_true.1 hf vs[i] (List.getElem_mem hi)
   simpa [List.getD_eq_getElem?_getD,hi] using this
 | _ => exact flat1_mono h hf
section
variable {P : Program} {Ξ : Env} {B : Nat} {S : Nat → Nat → Prop} {G : Gh} {st : St} {N : Nat} {a : Act} {w : World} {o : Oper} {d : Nat} {r : Res}
theorem cov_all (hR : Rel P Ξ B S G st N a w) {k : Key} {e : Ent} (he : st.en k = some e) : Cov (fun b _ => b < w.heap.size) G k e := by
 by_cases hkn : G.knows k
 case neg =>
  obtain ⟨u1,u2,u3⟩ := Gh.not_knows hkn
  cases e with
  | box cs f => intro b hb; rw [u1] at hb; cases hb
  | blk sz xs f => intro b base sz C hb; rw [u2] at hb; cases hb
  | map ks vs f => intro r hr; rw [u3] at hr; cases hr
  | loop => trivial
  | iter => trivial
 have h := hR.ents k e he hkn
 cases h with
 | box cs frz b c t hb hB hh => intro b' hb' j _; rw [hb] at hb'; simp only [Option.some.injEq] at hb'; subst hb'; exact heap_lt hh
 | nul sz frz hn => intro b base sz C hb i j hi; simp at hi
 | blk xs frz b base sz C thr c t hb hB hh =>
  intro b' base' sz' C' hb' i j hi hj; rw [hb] at hb'; simp only [Option.some.injEq,Prod.mk.injEq] at hb'; obtain ⟨rfl,_⟩ := hb'; exact heap_lt hh
 | full xs b base sz c hb hs hh ht =>
  intro b' base' sz' C' hb' i j hi hj
  rw [hb] at hb'; simp only [Option.some.injEq,Prod.mk.injEq] at hb'; obtain ⟨rfl,rfl,rfl,rfl⟩ := hb'
  exact cell_lt (hh i j hi hj)
 | map ks vs frz r es cl hr hB hh => intro r' hr'; rw [hr] at hr'; simp only [Option.some.injEq] at hr'; subst hr'; exact heap_lt hh
 | loop => trivial
 | iter => trivial
theorem callsIn_any {P : Program} {ro : Option Nat} {m : Nat} {f : FuncId} {args : Array Value} {w : World} {R : Ending → World → Prop} (h : Calls P f args w R) : CallsIn (Fx ro) m P f args w R :=
 (callsIn_wide (n := m)).2 h
theorem rel_own (hR : Rel P Ξ B S G st N a w) {w' : World} (hb : Below w.heap.size w w') {S' : Nat → Nat → Prop} (hS : ∀ b o,b < w.heap.size → S' b o → Stab B S G w.heap.size b o) {sz : Nat} {xs : List Val} {v : Value}
  (h : OwnR w.heap.size (Gone w S' w') w' sz xs v) :
  ∃ G',Rel P Ξ B S G' { fr := st.fr,en := st.en.set ⟨0,d,st.cnt 0 d⟩ (some (.blk sz xs false)),cnt := setCnt st.cnt 0 d (st.cnt 0 d + 1) } N a w' ∧ VR (Stab B S G' w'.heap.size) G' w' (.bl ⟨0,d,st.cnt 0 d⟩ 0 xs.length) v := by
 rcases h with ⟨rfl,p,rfl⟩ | ⟨b,base,C,c,t,hB,rfl,hh,hC,hC',hs,ho,hv⟩
 ·obtain ⟨G',h1,h2⟩ := rel_nul (d := d) (hR.below hb) sz false
  exact ⟨G',h1,h2 p⟩
 have hf := hR.freshG ⟨0,d,st.cnt 0 d⟩ (Nat.le_refl _)
 have hg := Gh.le_addBlk (b := b) (base := base) (sz := sz) (C := C) (thr := base) hf.2.1
 have hlt : ∀ {b' k t},G.own b' = some (k,t) → b' < w.heap.size := fun h => (hR.own _ _ _ h).2.1
 have hown : ∀ b',b' ≠ b → (G.addBlk ⟨0,d,st.cnt 0 d⟩ b base sz C base).own b' = G.own b' := fun b' hb' => by simp [Gh.addBlk,hb']
 have hsz := hR.size
 have ht : ∀ b' o,Stab B S G w.heap.size b' o → Stab B S (G.addBlk ⟨0,d,st.cnt 0 d⟩ b base sz C base) w'.heap.size b' o := by
  intro b' o h
  refine ⟨Nat.lt_of_lt_of_le h.1 hb.size,?_⟩
  rw [hown b' (by have := h.1; omega)]; exact h.2
 have m : Mono (Stab B S G w.heap.size) G w (Stab B S (G.addBlk ⟨0,d,st.cnt 0 d⟩ b base sz C base) w'.heap.size) (G.addBlk ⟨0,d,st.cnt 0 d⟩ b base sz C base) w' :=
  let mm := mono_below (B := B) (S := S) (G := G) hb
  ⟨ht,hg,mm.cell,mm.map,mm.defer,mm.loop⟩
 refine ⟨_,hR.change m hb.size (fun k e hk hkn => ?_) (fun k hk => ?_) (fun b' k t hb' => ?_) (hR.virtAt fun k hk => by simp [Gh.addBlk,hk]),?_⟩
 ·simp only [En.set] at hk
  split at hk
  ·rename_i hkk; subst hkk
   simp only [Option.some.injEq] at hk; subst hk
   refine .blk xs false b base sz C base c t (by simp [Gh.addBlk]) (by omega) hh hC hC' hs ho (fun i j hi hj => VR.into ((hv i j hi hj).mono ⟨fun b' o h => ?_,Gh.le_refl _,fun _ _ _ _ h => h,fun _ _ _ _ h => h,fun _ _ h => h,fun _ r h => ⟨r,h⟩⟩) _) (by simp [Gh.addBlk]) rfl
   obtain ⟨⟨g1,g2⟩,g3⟩ := h
   by_cases hbw : b' < w.heap.size
   ·exact ht _ _ (hS _ _ hbw (g2 hbw))
   ·refine ⟨g1,.inr ⟨by omega,?_⟩⟩
    by_cases hbb : b' = b
    ·subst hbb; simp [Gh.addBlk]; exact g3 rfl
    ·rw [hown b' hbb]
     cases hw : G.own b' with
     | none => trivial
     | some z => obtain ⟨k,t⟩ := z; have := hlt hw; omega
  ·rename_i hne
   refine (hR.ents k e hk (Gh.knows_of (fun k hk => by simp [Gh.addBlk,hk]) hne hkn)).mono m.four fun b' _ hb' => ?_
   have h1 := own_lt (fun b k t ho => hlt ho) hb'
   exact ⟨hb.block b' h1,hown b' (by omega)⟩
 ·have hne : k ≠ ⟨0,d,st.cnt 0 d⟩ := by rintro rfl; simp only [bumped_at] at hk; omega
  have hle : st.cnt k.n k.t ≤ k.g := Nat.le_trans (bumped _ _) hk
  obtain ⟨f1,f2,f3⟩ := hR.freshG k hle
  exact ⟨by simp only [En.set,if_neg hne]; exact hR.freshEn k hle,f1,by simp only [Gh.addBlk,if_neg hne]; exact f2,f3⟩
 ·by_cases hbb : b' = b
  ·subst hbb
   simp only [Gh.addBlk,if_true,Option.some.injEq,Prod.mk.injEq] at hb'
   obtain ⟨rfl,_⟩ := hb'
   exact ⟨by omega,heap_lt hh,by simp only [bumped_at]; omega⟩
  ·rw [hown b' hbb] at hb'
   obtain ⟨h1,h2,h3⟩ := hR.own _ _ _ hb'
   exact ⟨h1,Nat.lt_of_lt_of_le h2 hb.size,Nat.lt_of_lt_of_le h3 (bumped _ _)⟩
 ·have := VR.bl (T := Stab B S (G.addBlk ⟨0,d,st.cnt 0 d⟩ b base sz C base) w'.heap.size) (G := G.addBlk ⟨0,d,st.cnt 0 d⟩ b base sz C base) (w := w') ⟨0,d,st.cnt 0 d⟩ 0 xs.length b base sz C (by simp [Gh.addBlk]) (by omega)
  simpa using this
theorem flat1_cells {T T' : Nat → Nat → Prop} {G G' : Gh} {w w' : World} {x : Val} {v : Value} {j : Nat} (hf : x.flat1 = true) (hj : j < x.cells.length) (h : VR T G w (x.cells.getD j .dead) v) : VR T' G' w' (x.cells.getD j .dead) v := by
 cases x with
 | agg cs =>
  refine flat0_mono h ?_
  have hj' : j < cs.length := hj
  have e : (Val.agg cs).cells.getD j .dead = cs[j] := by simp [Val.cells,List.getD_eq_getElem?_getD,hj']
  rw [e]
  exact List.all_eq_true.1 hf _ (List.getElem_mem hj')
 | _ =>
  simp only [Val.cells,List.length_cons,List.length_nil] at hj
  obtain rfl : j = 0 := by omega
  exact flat1_mono h hf
theorem own_flat {B : Nat} {T T' : Nat → Nat → Prop} {w : World} {sz : Nat} {xs : List Val} {v : Value} (h : OwnR B T w sz xs v) (hf : xs.all Val.flat1 = true) : OwnR B T' w sz xs v := by
 rcases h with h | ⟨b,base,C,c,t,hB,e,hh,hC,hC',hs,ho,hv⟩
 ·exact .inl h
 ·refine .inr ⟨b,base,C,c,t,hB,e,hh,hC,hC',hs,ho,fun i j hi hj => flat1_cells ?_ (by rw [hs i hi]; exact hj) (hv i j hi hj)⟩
  have := List.all_eq_true.1 hf xs[i] (List.getElem_mem hi)
  simpa [List.getD_eq_getElem?_getD,hi] using this
theorem op_enter (hR : Rel P Ξ B S G st N a w) {n : Nat} {call : CallFn} (hcall : CallOk P call) {f : Nat} {X : List Val} {Y : Array Value} {rs : List (Val × List Key)} {v : Val}
  (hlen : X.length = Y.size) (hvals : ∀ i,i < X.length → VR (Stab B S G w.heap.size) G w (X.getD i .dead) (Y.getD i undef)) (hrun : (execOp a.eval o).run P w = .ok (.enter f Y) w)
  (hs : mapO (fun x => snap n st.en x) X = some rs) (hr : call f (rs.map (·.1.wk1)) = some v) :
  OpOk P Ξ B S st N a w o d (callRes 0 d (st.cnt 0 d) v (rs.flatMap (·.2))) := by
 obtain ⟨_,hcalls⟩ := hcall _ _ _ hr
 obtain ⟨s1,s2⟩ := snaps_some hs
 have hrl : (rs.map (·.1.wk1)).length = rs.length := by simp
 have l0 : rs.length = X.length := by rw [← s1]; simp
 have fin : ∀ (S' : Nat → Nat → Prop),(∀ b o,S' b o → b < w.heap.size) → GlobOk S' w →
   (∀ i,i < X.length → VR S' Gh.none w ((rs.map (·.1)).getD i .dead) (Y.getD i undef)) →
   (∀ x w',Below w.heap.size w w' → ResR w.heap.size (Gone w S' w') w' v x → ∃ G',Rel P Ξ B S G' (st.mem d (callRes 0 d (st.cnt 0 d) v (rs.flatMap (·.2)))) N a w' ∧ VR (Stab B S G' w'.heap.size) G' w' (callRes 0 d (st.cnt 0 d) v (rs.flatMap (·.2))).v x) →
   OpOk P Ξ B S st N a w o d (callRes 0 d (st.cnt 0 d) v (rs.flatMap (·.2))) := by
  intro S' hlt hgl hin hout ro m next Q k
  refine ⟨fun _ _ => trivial,?_⟩
  rw [semAt_of hrun (by simp),Oper.uponIn_enter]
  refine ⟨fun h => by simp [Fx,Fence.wide] at h,?_⟩
  refine callsIn_any (Calls.mono (hcalls S' w _ hlt hgl (by rw [hrl,l0,hlen]) (fun i hi => ?_)) ?_)
  ·rw [hrl,l0] at hi
   have := (hin i hi).wk1
   rw [show rs.map (·.1.wk1) = (rs.map (·.1)).map Val.wk1 by simp]
   rw [wk1_getD]; exact this
  ·rintro e w' ⟨x,rfl,hb,hv⟩
   obtain ⟨G',g1,g2⟩ := hout x w' hb hv
   exact k x w' G' g1 g2 ⟨hb.os,hb.tape,hb.output,hb.size,fun k hk => hb.block k (Nat.lt_of_lt_of_le hk hR.size)⟩
 have all : ∀ i,i < X.length → VR (fun b _ => b < w.heap.size) Gh.none w ((rs.map (·.1)).getD i .dead) (Y.getD i undef) := fun i hi => by
  obtain ⟨ks,e1,_⟩ := s2 i hi
  exact snap_sound hR.ents ⟨fun _ _ h => h.1,G.le_refl,fun _ _ _ _ h => h,fun _ _ _ _ h => h,fun _ _ h => h,fun _ r h => ⟨r,h⟩⟩ n (hvals i hi) e1 fun k _ e he => cov_all hR he
 obtain ⟨G',hR',hg,hT,hsnap⟩ := freeze_snaps hR (rs.flatMap (·.2))
 have frz : ∀ i,i < X.length → VR (Stab B S G' w.heap.size) Gh.none w ((rs.map (·.1)).getD i .dead) (Y.getD i undef) := fun i hi => by
  obtain ⟨ks,e1,e2⟩ := s2 i hi
  exact hsnap n _ _ _ ks (hvals i hi) e1 e2
 by_cases hown : ∃ sz xs,v = .own sz xs
 ·obtain ⟨sz,xs,rfl⟩ := hown
  by_cases hfl : xs.all Val.flat1 = true
  ·refine fin (fun b _ => b < w.heap.size) (fun _ _ h => h) (hR.glob.mono fun _ _ h => h.1) all fun x w' hb hv => ?_
   obtain ⟨G2,h1,h2⟩ := rel_own (d := d) (S' := fun _ _ => False) hR hb (fun _ _ _ h => h.elim) (own_flat hv hfl)
   exact ⟨G2,by simpa [St.mem,callRes,hfl,W.applyAll,W.apply] using h1,h2⟩
  ·refine fin (Stab B S G' w.heap.size) (fun _ _ h => h.1) hR'.glob frz fun x w' hb hv => ?_
   obtain ⟨G2,h1,h2⟩ := rel_own (d := d) hR' hb (fun _ _ _ h => h) hv
   refine ⟨G2,?_,h2⟩
   simpa [St.mem,callRes,hfl,W.applyAll,W.apply] using h1
 have hcr : callRes 0 d (st.cnt 0 d) v (rs.flatMap (·.2)) = { v := v,ws := if v.flat then [] else (rs.flatMap (·.2)).map .frz,rs := (rs.flatMap (·.2)).map .val } := by
  cases v <;> first | rfl | exact absurd ⟨_,_,rfl⟩ hown
 have hres : ∀ {B' : Nat} {T : Nat → Nat → Prop} {w' : World} {x : Value},ResR B' T w' v x → VR T Gh.none w' v x := by
  intro B' T w' x h
  cases v <;> first | exact h | exact absurd ⟨_,_,rfl⟩ hown
 by_cases hfl : v.flat = true
 ·refine fin (fun b _ => b < w.heap.size) (fun _ _ h => h) (hR.glob.mono fun _ _ h => h.1) all fun x w' hb hv => ⟨G,?_,?_⟩
  ·rw [hcr]; simpa [St.mem,hfl,W.applyAll] using hR.below hb
  ·rw [hcr]; exact flat_mono (hres hv) hfl
 ·refine fin (Stab B S G' w.heap.size) (fun _ _ h => h.1) hR'.glob frz fun x w' hb hv => ⟨G',?_,?_⟩
  ·rw [hcr]; simpa [St.mem,hfl] using hR'.below hb
  ·rw [hcr]
   refine (hres hv).mono ⟨fun b q h => ?_,Gh.none_le _,fun _ _ _ _ h => h,fun _ _ _ _ h => h,fun _ _ h => h,fun _ r h => ⟨r,h⟩⟩
   by_cases hbw : b < w.heap.size
   ·exact ⟨h.1,(h.2 hbw).2⟩
   ·refine ⟨h.1,.inr ⟨by have := hR.size; omega,?_⟩⟩
    cases hown : G'.own b with
    | none => trivial
    | some z => obtain ⟨k,t⟩ := z; have := (hR'.own _ _ _ hown).2.1; omega
theorem op_call (hR : Rel P Ξ B S G st N a w) {n : Nat} {call : CallFn} (hcall : CallOk P call) {c : Call} {F : Operand} {f : Nat} {x : Opd} {ys : List Opd} {A Z : List Val} {rs : List (Val × List Key)} {v : Val}
  (ho : o.op = .call c) (hc : c.callee = .value F) (h1 : lowOpd F = some x) (h2 : lowOpds c.args.toList = some ys) (hf : St.get st.fr x = .fn f A Z)
  (hs : mapO (fun x => snap n st.en x) (A ++ ys.map (St.get st.fr) ++ Z) = some rs) (hr : call f (rs.map (·.1.wk1)) = some v) :
  OpOk P Ξ B S st N a w o d (callRes 0 d (st.cnt 0 d) v (rs.flatMap (·.2))) := by
 obtain ⟨⟨fn,hfn,hnm,hbody⟩,hcalls⟩ := hcall _ _ _ hr
 have hF := opd_sound hR h1
 rw [hf] at hF
 obtain ⟨ly,vy⟩ := opds_sound hR h2
 generalize hgF : a.eval F = uF at hF
 cases hF with
 | fn _ _ _ p q hp hq hvp hvq =>
 obtain ⟨s1,s2⟩ := snaps_some hs
 have hlen : (A ++ ys.map (St.get st.fr) ++ Z).length = (p ++ c.args.map a.eval ++ q).size := by simp [hp,hq,ly]
 have hvals : ∀ i,i < (A ++ ys.map (St.get st.fr) ++ Z).length → VR (Stab B S G w.heap.size) G w ((A ++ ys.map (St.get st.fr) ++ Z).getD i .dead) ((p ++ c.args.map a.eval ++ q).getD i undef) := by
  intro i hi
  simp only [List.getD_eq_getElem?_getD,Array.getD_eq_getD_getElem?,List.getElem?_append,Array.getElem?_append,List.length_append,Array.size_append,Array.size_map,List.length_map] at hi ⊢
  have e1 : p.size = A.length := hp
  have e2 : c.args.size = ys.length := by simp [ly]
  rw [e1,e2]
  split
  ·split
   ·rename_i h; have := hvp i h; simpa [List.getD_eq_getElem?_getD,Array.getD_eq_getD_getElem?] using this
   ·have hi' : i - A.length < ys.length := by omega
    have := vy (i - A.length) hi'
    have hi2 : i - A.length < c.args.size := by omega
    simpa [List.getD_eq_getElem?_getD,Array.getD_eq_getD_getElem?,hi',hi2] using this
  ·have := hvq (i - (A.length + ys.length)) (by omega); simpa [List.getD_eq_getElem?_getD,Array.getD_eq_getD_getElem?] using this
 have hrun : (execOp a.eval o).run P w = .ok (.enter f (p ++ c.args.map a.eval ++ q)) w := by
  have hnm' : ¬ fn.name = "runtime.NumGoroutine" := by simpa using hnm
  have hbody' : ¬ fn.body = none := by intro h; rw [h] at hbody; cases hbody
  simp [execOp,ho,resolve,hc,hgF,Deferred.ofValue,invoke,callFunc,hfn,hnm',hbody']
 exact op_enter hR hcall hlen hvals hrun hs hr
theorem lookup_mem {tbl : List (Nat × Nat)} {t f : Nat} (h : tbl.lookup t = some f) : (t,f) ∈ tbl := by
 induction tbl with
 | nil => cases h
 | cons x l ih =>
  obtain ⟨t',f'⟩ := x
  simp only [List.lookup] at h
  split at h
  ·rename_i he; simp only [Option.some.injEq] at h; subst h; simp at he; subst he; simp
  ·exact List.mem_cons_of_mem _ (ih h)
theorem run_method {name : String} {t : TypeId} {f : Nat} (h : methodAt P name t = some f) (x : Value) (k : Nat) : (method (k + 1) t x name).run P w = .ok (f,x) w := by
 unfold methodAt at h
 split at h
 ·rename_i i hi
  split at h
  ·rename_i m hm
   split at h
   ·rename_i hp hf
    split at h
    ·rename_i e hu
     split at h
     ·rename_i hpr
      simp only [Option.some.injEq] at h; subst h
      subst hpr
      simp [method,typeInfo,hi,hm,hp,hf,follow,receiverAt,run_underlying hu,Place.get]
     ·cases h
    ·rename_i dsc hu hnp
     split at h
     ·cases h
     ·rename_i hpr
      simp only [Option.some.injEq] at h; subst h
      have hpr' := eq_false_of_ne_true hpr
      subst hpr'
      have hnp' := run_underlying (w := w) hnp
      cases dsc <;> first | (exact absurd rfl (hu _)) | simp [method,typeInfo,hi,hm,hp,hf,follow,receiverAt,hnp',Place.get]
    ·cases h
   ·cases h
  ·cases h
 ·cases h
theorem op_inv (hR : Rel P Ξ B S G st N a w) {n : Nat} {call : CallFn} (hcall : CallOk P call) {c : Call} {t : Nat} {name : String} {f : Nat} {ys : List Opd} {A Z : List Val} {rs : List (Val × List Key)} {v : Val}
  (ho : o.op = .call c) (hc : c.callee = .invoke (.tmp t) name) (h2 : lowOpds c.args.toList = some ys) (hf : methodOf (methodTbl P name) (st.fr t) = .fn f A Z)
  (hs : mapO (fun x => snap n st.en x) (A ++ ys.map (St.get st.fr) ++ Z) = some rs) (hr : call f (rs.map (·.1.wk1)) = some v) :
  OpOk P Ξ B S st N a w o d (callRes 0 d (st.cnt 0 d) v (rs.flatMap (·.2))) := by
 obtain ⟨⟨fn,hfn,hnm,hbody⟩,_⟩ := hcall _ _ _ hr
 have hF := hR.frame t
 generalize st.fr t = V at hf hF
 cases V <;> simp only [methodOf,reduceCtorEq] at hf
 rename_i ty u
 split at hf
 case h_2 => cases hf
 rename_i f' hl
 simp only [Val.fn.injEq] at hf
 obtain ⟨rfl,rfl,rfl⟩ := hf
 have hm := lookup_mem hl
 simp only [methodTbl,List.mem_filterMap,Option.map_eq_some_iff,Prod.mk.injEq] at hm
 obtain ⟨t',_,f'',hm,rfl,rfl⟩ := hm
 generalize hg : a.tmps.getD t undef = uF at hF
 cases hF with
 | ifc _ _ x hx =>
 obtain ⟨ly,vy⟩ := opds_sound hR h2
 refine op_enter hR hcall (Y := #[x] ++ c.args.map a.eval) (by simp [ly]; omega) (fun i hi => ?_) ?_ hs hr
 ·simp only [List.cons_append,List.nil_append,List.append_nil,List.length_cons,List.length_map] at hi
  cases i with
  | zero => simpa [Array.getD_eq_getD_getElem?,Array.getElem?_append] using hx
  | succ i =>
   have hi' : i < ys.length := by omega
   have := vy i hi'
   have hi2 : i < c.args.size := by rw [ly] at hi'; simpa using hi'
   simpa [List.getD_eq_getElem?_getD,Array.getD_eq_getD_getElem?,Array.getElem?_append,hi',hi2] using this
 ·have hnm' : ¬ fn.name = "runtime.NumGoroutine" := by simpa using hnm
  have hbody' : ¬ fn.body = none := by intro h; rw [h] at hbody; cases hbody
  have hrm := run_method (P := P) (w := w) hm x (P.types.size + Made.depth - 1)
  have hne : P.types.size + Made.depth - 1 + 1 = P.types.size + Made.depth := by
   have : 0 < Made.depth := by decide
   omega
  rw [hne] at hrm
  have hev : a.eval (.tmp t) = .iface t' x := hg
  have e0 : (#[Value.iface t' x] ++ c.args.map a.eval)[0]? = some (.iface t' x) := by simp [Array.getElem?_append]
  have e1 : (c.args.map a.eval).extract 0 c.args.size = c.args.map a.eval := by
   apply Array.ext'
   simp only [Array.toList_extract,Array.toList_map]
   rw [List.extract_eq_take_drop] <;> simp [List.take_of_length_le]
  simp [execOp,ho,resolve,hc,hev,invoke,callMethod,e0,hrm,callFunc,hfn,hnm',hbody',e1]
end
end Go.Abs
namespace Go.Abs
open Go.RowKit (Below)
variable [Inhabited Glob]
def KeyT : EqT → TypeDesc → Prop
 | .num,.int _ => True
 | .str,.string => True
 | .bool,.bool => True
 | _,_ => False
theorem keyTag_spec {P : Program} {t : TypeId} {e : EqT} (h : keyTag P t = some e) : ∃ d,P.underlying t = some d ∧ KeyT e d := by
 unfold keyTag at h
 split at h <;> simp only [Option.some.injEq,reduceCtorEq] at h <;> subst h
 ·refine ⟨_,by assumption,?_⟩; trivial
 ·refine ⟨_,by assumption,?_⟩; trivial
 ·refine ⟨_,by assumption,?_⟩; trivial
theorem toList_inj {a b : ByteArray} (h : a.toList = b.toList) : a = b := by
 rw [ByteArray.toList_eq,ByteArray.toList_eq] at h
 obtain ⟨⟨x⟩⟩ := a; obtain ⟨⟨y⟩⟩ := b
 simp only at h; rw [h]
theorem beq_toList (a b : ByteArray) : (a == b) = (a.toList == b.toList) := by
 rw [Bool.eq_iff_iff,MapKept.bytes_beq]
 constructor
 ·rintro rfl; simp
 ·intro h; exact toList_inj (by simpa using h)
theorem same_now {e : EqT} {d : TypeDesc} (hd : KeyT e d) {T T' : Nat → Nat → Prop} {G G' : Gh} {w w' : World} {k x : Val} {u v : Value} {b : Bool} (hk : VR T G w k u) (hx : VR T' G' w' x v) (h : eqVal e k x = some b) :
  Instr.sameNow d u v = some b := by
 cases e <;> cases d <;> simp only [KeyT] at hd <;> cases k <;> cases x <;> simp only [eqVal,reduceCtorEq] at h <;> cases hk <;> cases hx
 ·simp only [Instr.sameNow]; exact h
 ·simp only [Instr.sameNow,beq_toList]; exact h
 ·simp only [Instr.sameNow]; exact h
theorem find_now {e : EqT} {d : TypeDesc} (hd : KeyT e d) {T T' : Nat → Nat → Prop} {G G' : Gh} {w w' : World} {k : Val} {u : Value} (hk : VR T G w k u) :
  ∀ (ks : List Val) (es : List MapEntry) (i : Nat) (r : Option Nat),es.length = ks.length → (∀ j,j < ks.length → VR T' G' w' (ks.getD j .dead) (es.getD j default).key) → findKey e k ks = some r →
   Instr.findNow d u es i = some (r.map fun j => (i + j,(es.getD j default).val)) ∧ ∀ j,r = some j → j < ks.length ∧ eqVal e k (ks.getD j .dead) = some true := by
 intro ks
 induction ks with
 | nil =>
  intro es i r hl hv h
  cases es with
  | nil => simp only [findKey,Option.some.injEq] at h; subst h; exact ⟨rfl,fun j h => by cases h⟩
  | cons => simp at hl
 | cons x xs ih =>
  intro es i r hl hv h
  cases es with
  | nil => simp at hl
  | cons y ys =>
   have h0 := hv 0 (by simp)
   simp only [List.getD_cons_zero] at h0
   have ht : ∀ j,j < xs.length → VR T' G' w' (xs.getD j .dead) (ys.getD j default).key := fun j hj => by
    have := hv (j + 1) (by simp; omega); simpa only [List.getD_cons_succ] using this
   simp only [findKey] at h
   split at h
   ·rename_i hq
    simp only [Option.some.injEq] at h; subst h
    refine ⟨by simp [Instr.findNow,same_now hd hk h0 hq],fun j hj => ?_⟩
    simp only [Option.some.injEq] at hj; subst hj
    exact ⟨by simp,by simpa using hq⟩
   ·rename_i hq
    split at h
    ·rename_i j hj
     simp only [Option.some.injEq] at h; subst h
     obtain ⟨h1,h2⟩ := ih ys (i + 1) _ (by simpa using hl) ht hj
     refine ⟨by simp only [Instr.findNow,same_now hd hk h0 hq,h1,Option.map_some,List.getD_cons_succ]; congr 3; omega,fun j' hj' => ?_⟩
     simp only [Option.some.injEq] at hj'; subst hj'
     obtain ⟨h3,h4⟩ := h2 j rfl
     exact ⟨by simp; omega,by simpa using h4⟩
    ·rename_i hj
     simp only [Option.some.injEq] at h; subst h
     obtain ⟨h1,h2⟩ := ih ys (i + 1) _ (by simpa using hl) ht hj
     exact ⟨by simp only [Instr.findNow,same_now hd hk h0 hq,h1,Option.map_none],fun j h => by cases h⟩
    ·cases h
   ·cases h
theorem check_of {P : Program} {w' : World} {kt : TypeId} {e : EqT} {d : TypeDesc} (hd : P.underlying kt = some d) (hK : KeyT e d) {T : Nat → Nat → Prop} {G : Gh} {w : World} {k : Val} {u : Value} (hk : VR T G w k u) (h : keyOk e k = true) (b : Bool) (n : Nat) :
  (Instr.checkKey b (n + 1) kt u).run P w' = .ok () w' := by
 unfold Instr.checkKey
 simp only [Sem.run_bind,run_underlying hd,Result.andThen]
 cases e <;> cases d <;> simp only [KeyT] at hK <;> rfl
theorem stays_of {P : Program} {w' : World} {e : EqT} {T : Nat → Nat → Prop} {G : Gh} {w : World} {k : Val} {u : Value} (hk : VR T G w k u) (h : keyOk e k = true) : (Instr.keyThatStays u u).run P w' = .ok u w' := by
 have : Instr.sameBits 10000 u u = true := by
  cases k <;> simp [keyOk] at h <;> cases hk <;> simp [Instr.sameBits,MapKept.bytes_beq]
 simp [Instr.keyThatStays,this]
theorem keyOk_none {e : EqT} {T : Nat → Nat → Prop} {G : Gh} {w : World} {k : Val} {u : Value} (hk : VR T G w k u) (h : keyOk e k = true) (T' : Nat → Nat → Prop) (G' : Gh) (w' : World) : VR T' G' w' k u := by
 cases k <;> simp [keyOk] at h <;> cases hk
 ·exact .bool _
 ·exact .int _ _
 ·exact .str _
theorem eq_key {e : EqT} {d : TypeDesc} (hd : KeyT e d) {T T' : Nat → Nat → Prop} {G G' : Gh} {w w' : World} {k x : Val} {u v : Value} (hk : VR T G w k u) (hx : VR T' G' w' x v) (h : eqVal e k x = some true) : v = u := by
 cases e <;> cases d <;> simp only [KeyT] at hd <;> cases k <;> cases x <;> simp only [eqVal,reduceCtorEq] at h <;> cases hk <;> cases hx
 ·split at h
  ·rename_i hj; subst hj; simp at h; rw [h]
  ·cases h
 ·simp at h; rw [toList_inj h]
 ·simp at h; rw [h]
section
variable {P : Program} {Ξ : Env} {B : Nat} {S : Nat → Nat → Prop} {G : Gh} {st : St} {N : Nat} {a : Act} {w : World} {o : Oper} {d : Nat} {r : Res}
theorem op_mkmap (hR : Rel P Ξ B S G st N a w) {t : TypeId} (ho : o.op = .makeMap t none) :
  OpOk P Ξ B S st N a w o d { v := .mp ⟨0,d,st.cnt 0 d⟩,ws := [.ent ⟨0,d,st.cnt 0 d⟩ (some (.map [] [] false))],bump := true } := by
 have hf := hR.freshG ⟨0,d,st.cnt 0 d⟩ (Nat.le_refl _)
 have hg := Gh.le_addMp (b := w.heap.size) hf.2.2
 have ho' : ∀ b,b ≠ w.heap.size → (G.addMp ⟨0,d,st.cnt 0 d⟩ w.heap.size).own b = G.own b := fun b hb => by simp [Gh.addMp,hb]
 refine ok_value (G' := G.addMp ⟨0,d,st.cnt 0 d⟩ w.heap.size) (w' := w.alloc (.map #[] 0)) (x := .map (some w.heap.size)) ?_ ?_ (.mp _ _ (by simp [Gh.addMp])) ((Below.refl B w).alloc hR.size _)
 ·simp [execOp,ho,Instr.makeMap]
 ·exact hR.alloc d _ _ _ hg ho' (fun k' hk' => by simp [Gh.addMp,hk']) (fun k' t h => by simp [Gh.addMp] at h; exact h.1.symm)
   (.map [] [] false w.heap.size #[] 0 (by simp [Gh.addMp]) hR.size (heap_alloc_new _ _) rfl rfl (fun i hi => by simp at hi) (fun i hi => by simp at hi) (by simp [Gh.addMp]))
theorem es_toList {es : Array MapEntry} {j : Nat} : es.toList.getD j default = es.getD j default := by
 simp [List.getD_eq_getElem?_getD,Array.getD_eq_getD_getElem?]
def MapAt (w : World) (x : Value) (es : Array MapEntry) : Prop :=
 match x with
 | .map none => es = #[]
 | .map (some r) => ∃ clock,w.heap[r]? = some (.map es clock)
 | _ => False
def lookV (vs : List Val) (z : Val) (ok : Bool) : Option Nat → Val
 | some i => if ok then .tup [vs.getD i .dead,.bool true] else vs.getD i .dead
 | none => if ok then .tup [z,.bool false] else z
theorem look_sound {T : Nat → Nat → Prop} {kt et t : TypeId} {e : EqT} {dd : TypeDesc} (ht : P.underlying t = some (.map kt et)) (hd : P.underlying kt = some dd) (hK : KeyT e dd) {z : Val} (hz : lowZeroV P et = some z) {K : Val} {u : Value}
  (hk : VR T G w K u) (hok : keyOk e K = true) {ks vs : List Val} {es : Array MapEntry} {x : Value} (hes : MapAt w x es)
  (hs : es.size = ks.length) (hl : vs.length = ks.length) (hkv : ∀ i,i < ks.length → VR T Gh.none w (ks.getD i .dead) (es.getD i default).key) (hvv : ∀ i,i < ks.length → VR T Gh.none w (vs.getD i .dead) (es.getD i default).val)
  {q : Option Nat} (hf : findKey e K ks = some q) (ok : Bool) :
  ∃ y,(Instr.lookup t x u ok).run P w = .ok y w ∧ VR T G w (lookV vs z ok q) y := by
 have hfind := find_now hK hk ks es.toList 0 q (by simpa using hs) (fun j hj => by rw [es_toList]; exact hkv j hj) hf
 have hik := fun b => check_of (w' := w) hd hK hk hok b 9999
 obtain ⟨i0,zv,hi0,hzv,hzr⟩ := zeroV_sound (G := G) (w := w) (T := T) hz
 have hzero : (zeroValue et).run P w = .ok zv w := by simp [zeroValue,typeInfo,hi0,hzv]
 have main : ∀ (g : Sem (Array MapEntry)),g.run P w = .ok es w → (Instr.lookup t x u ok).run P w = (do
    let .map key elem ← underlying t | stuck "Lookup: map type expected"
    let es ← g
    Instr.checkKey es.isEmpty 10000 key u
    let (v,ok') ← match ← Instr.findKey key u es.toList with
     | some (_,v) => pure (v,true)
     | none => pure (← zeroValue elem,false)
    pure (if ok then .tuple #[v,.bool ok'] else v) : Sem Value).run P w → ∃ y,(Instr.lookup t x u ok).run P w = .ok y w ∧ VR T G w (lookV vs z ok q) y := by
  intro g hg heq
  rw [heq]
  cases q with
  | none =>
   refine ⟨if ok then .tuple #[zv,.bool false] else zv,?_,?_⟩
   ·simp only [Sem.run_bind,run_underlying ht,Result.andThen_ok,hg,hik,MapKept.run_findKey hd hfind.1,Option.map_none,hzero,Sem.run_pure]
   ·cases ok
    ·exact hzr
    ·exact hzr.tup2 (.bool _)
  | some j =>
   obtain ⟨hj,_⟩ := hfind.2 j rfl
   refine ⟨if ok then .tuple #[(es.getD j default).val,.bool true] else (es.getD j default).val,?_,?_⟩
   ·simp only [Sem.run_bind,run_underlying ht,Result.andThen_ok,hg,hik,MapKept.run_findKey hd hfind.1,Option.map_some,es_toList,Sem.run_pure]
   ·have hv : VR T G w (vs.getD j .dead) (es.getD j default).val := (hvv j hj).mono4 ⟨fun _ _ h => h,G.none_le,fun _ _ _ _ h => h,fun _ _ _ _ h => h⟩
    cases ok
    ·exact hv
    ·exact hv.tup2 (.bool _)
 unfold MapAt at hes
 split at hes
 ·subst hes; exact main (pure #[]) rfl rfl
 ·rename_i r
  obtain ⟨clock,hb⟩ := hes
  exact main (do
   let .map es _ ← getObj r | stuck "Lookup: map expected"
   pure es) (by simp [MapKept.run_getObj_map hb]) (by cases q <;> simp only [Instr.lookup,Sem.run_bind,run_underlying ht,Result.andThen_ok,MapKept.run_getObj_map hb,Sem.run_pure,hik,MapKept.run_findKey hd hfind.1,Option.map_none,Option.map_some,hzero])
 ·exact hes.elim
theorem op_mget (hR : Rel P Ξ B S G st N a w) {t kt et : TypeId} {x y : Operand} {x' y' : Opd} {ok : Bool} {e : EqT} {z : Val} {n : Nat} {call : CallFn} (ho : o.op = .lookup t x y ok) (ht : P.underlying t = some (.map kt et))
  (hK : keyTag P kt = some e) (hz : lowZeroV P et = some z) (h1 : lowOpd x = some x') (h2 : lowOpd y = some y') (hev : eval n call 0 d (st.cnt 0 d) st.en (St.get st.fr) (.mget e z ok x' y') = some r) : OpOk P Ξ B S st N a w o d r := by
 obtain ⟨dd,hd,hKd⟩ := keyTag_spec hK
 have hx := opd_sound hR h1
 have hy := opd_sound hR h2
 simp only [eval] at hev
 split at hev
 case isFalse => cases hev
 rename_i hok
 have run : ∀ {v : Value},(Instr.lookup t (a.eval x) (a.eval y) ok).run P w = .ok v w → (execOp a.eval o).run P w = .ok (.value v) w := by
  intro v h; simp [execOp,ho,h]
 generalize hg : a.eval x = u at hx run
 have fin : ∀ {ks vs : List Val} {es : Array MapEntry} {rs : List R},MapAt w u es → es.size = ks.length → vs.length = ks.length →
   (∀ i,i < ks.length → VR (Stab B S G w.heap.size) Gh.none w (ks.getD i .dead) (es.getD i default).key) → (∀ i,i < ks.length → VR (Stab B S G w.heap.size) Gh.none w (vs.getD i .dead) (es.getD i default).val) →
   (match findKey e (St.get st.fr y') ks with
    | some (some i) => some (if ok then Val.tup [vs.getD i .dead,.bool true] else vs.getD i .dead)
    | some none => some (if ok then Val.tup [z,.bool false] else z)
    | none => none).map (fun v => ({ v := v,rs := rs } : Res)) = some r → OpOk P Ξ B S st N a w o d r := by
  intro ks vs es rs hes hs hl hkv hvv hm
  cases hf : findKey e (St.get st.fr y') ks with
  | none => rw [hf] at hm; cases hm
  | some q =>
   obtain ⟨v,hrun,hv⟩ := look_sound ht hd hKd hz hy hok hes hs hl hkv hvv hf ok
   rw [hf] at hm
   cases q with
   | none => simp only [Option.map_some,Option.some.injEq] at hm; subst hm; exact ok_pure hR (run hrun) hv
   | some j => simp only [Option.map_some,Option.some.injEq] at hm; subst hm; exact ok_pure hR (run hrun) hv
 split at hev
 ·rename_i key hX
  split at hev
  ·rename_i ks vs frz he
   rw [hX] at hx
   cases hx with
   | mp _ r' hr' =>
    have hE := hR.ents key _ he (Gh.knows_mp hr')
    cases hE with
    | map _ _ _ r2 es clock hr2 hB hh hk hl hkv hvv hown =>
     rw [hr'] at hr2; simp only [Option.some.injEq] at hr2; subst hr2
     exact fin (rs := [.val key]) ⟨clock,hh⟩ hk hl hkv hvv hev
  ·cases hev
 ·rename_i ks vs hX
  rw [hX] at hx
  cases hx with
  | fm _ _ r' es clock hh hT hk hl hkv hvv => exact fin (rs := []) ⟨clock,hh⟩ hk hl hkv hvv hev
 ·rename_i hX
  rw [hX] at hx
  cases hx with
  | nilm => exact fin (ks := []) (vs := []) (rs := []) rfl rfl rfl (fun i hi => by simp at hi) (fun i hi => by simp at hi) hev
 ·cases hev
theorem modify_getD {es : Array MapEntry} {i j : Nat} {f : MapEntry → MapEntry} (hi : i < es.size) (hj : j < es.size) : (es.modify i f).getD j default = if i = j then f (es.getD i default) else es.getD j default := by
 simp only [Array.getD_eq_getD_getElem?,Array.getElem?_modify]
 by_cases h : i = j
 ·subst h; simp [hi]
 ·simp [h]
theorem push_getD {es : Array MapEntry} {j : Nat} {x : MapEntry} (hj : j < es.size + 1) : (es.push x).getD j default = if j < es.size then es.getD j default else x := by
 simp only [Array.getD_eq_getD_getElem?,Array.getElem?_push]
 by_cases h : j < es.size
 ·rw [if_neg (by omega),if_pos h]
 ·rw [if_pos (by omega),if_neg h]; rfl
theorem set_getD {ks : List Val} {i j : Nat} {x : Val} (hi : i < ks.length) : (ks.set i x).getD j .dead = if i = j then x else ks.getD j .dead := by
 simp only [List.getD_eq_getElem?_getD,List.getElem?_set]
 by_cases h : i = j
 ·subst h; simp [hi]
 ·simp [h]
theorem snoc_getD {ks : List Val} {j : Nat} {x : Val} (hj : j < ks.length + 1) : (ks ++ [x]).getD j .dead = if j < ks.length then ks.getD j .dead else x := by
 simp only [List.getD_eq_getElem?_getD,List.getElem?_append]
 by_cases h : j < ks.length
 ·simp [h]
 ·have : j - ks.length = 0 := by omega
  simp [h,this]
theorem op_mput (hR : Rel P Ξ B S G st N a w) {t kt et : TypeId} {x y v : Operand} {x' y' v' : Opd} {e : EqT} {n : Nat} {call : CallFn} (ho : o.op = .mapUpdate t x y v ∨ o.op = .insert t x y v) (ht : P.underlying t = some (.map kt et))
  (hK : keyTag P kt = some e) (h1 : lowOpd x = some x') (h2 : lowOpd y = some y') (h3 : lowOpd v = some v') (hev : eval n call 0 d (st.cnt 0 d) st.en (St.get st.fr) (.mput e x' y' v') = some r) : OpOk P Ξ B S st N a w o d r := by
 obtain ⟨dd,hd,hKd⟩ := keyTag_spec hK
 have hx := opd_sound hR h1
 have hy := opd_sound hR h2
 have hv := opd_sound hR h3
 simp only [eval] at hev
 split at hev
 case h_2 => cases hev
 rename_i key hX
 split at hev
 case h_2 => cases hev
 rename_i ks vs he
 split at hev
 case isFalse => cases hev
 rename_i hcond
 simp only [Bool.and_eq_true] at hcond
 obtain ⟨hok,hfl⟩ := hcond
 generalize hg : a.eval x = u at hx
 rw [hX] at hx
 cases hx with
 | mp _ b hr' =>
 have hE := hR.ents key _ he (Gh.knows_mp hr')
 cases hE with
 | map _ _ _ r2 es clock hr2 hB hh hk hl hkv hvv hown =>
 rw [hr'] at hr2; simp only [Option.some.injEq] at hr2; subst hr2
 simp only [Bool.false_eq_true,if_false] at hown
 have hik := fun b => check_of (w' := w) hd hKd hy hok b 9999
 have hsk : ∀ (es' : Array MapEntry) (cl : Nat) (ks' vs' : List Val) (rs : List R),(Instr.mapUpdate t (.map (some b)) (a.eval y) (a.eval v)).run P w = .ok () (wput w b (.map es' cl)) → es'.size = ks'.length → vs'.length = ks'.length →
   (∀ j,j < ks'.length → VR (Stab B S G w.heap.size) Gh.none w (ks'.getD j .dead) (es'.getD j default).key) → (∀ j,j < ks'.length → VR (Stab B S G w.heap.size) Gh.none w (vs'.getD j .dead) (es'.getD j default).val) →
   OpOk P Ξ B S st N a w o d { v := .tup [],ws := [.ent key (some (.map ks' vs' false))],rs := rs } := by
  intro es' cl ks' vs' rs hrun hs' hl' hk' hv'
  have hrel := hR.write (e' := .map ks' vs' false) (o' := .map es' cl) hown hh (fun _ _ => .inr (Nat.le_refl 0)) (fun _ => by simp) (fun _ h => by cases h) (fun off h => by omega)
   (fun m => .map _ _ false b es' cl hr' hB (by rw [wput_same _ (heap_lt hh)]) hs' hl' (fun j hj => (hk' j hj).mono m.none) (fun j hj => (hv' j hj).mono m.none) (by simpa using hown))
  refine ok_skip ?_ (G' := G) (w' := wput w b (.map es' cl)) ?_ rfl ?_
  ·rcases ho with ho | ho <;> simp [execOp,ho,hg,hrun]
  ·have : W.applyAll st.en [.ent key (some (.map ks' vs' false))] = st.en.set key (some (.map ks' vs' false)) := rfl
   simp only [St.mem,this]; exact hrel
  ·exact ⟨rfl,rfl,rfl,by rw [wput_size]; exact Nat.le_refl _,fun k hk => wput_other _ (by omega)⟩
 have hy0 := keyOk_none hy hok (Stab B S G w.heap.size) Gh.none w
 have hv0 : VR (Stab B S G w.heap.size) Gh.none w _ _ := flat1_mono hv hfl
 split at hev
 ·rename_i i hf
  simp only [Option.some.injEq] at hev; subst hev
  obtain ⟨hfn,hfi⟩ := find_now hKd hy ks es.toList 0 _ (by simpa using hk) (fun j hj => by rw [es_toList]; exact hkv j hj) hf
  obtain ⟨hi,heq⟩ := hfi i rfl
  have hie : i < es.size := by omega
  have hkeq : (es.getD i default).key = a.eval y := eq_key hKd hy (hkv i hi) heq
  refine hsk (es.modify i fun e => { e with key := a.eval y,val := a.eval v }) clock _ _ _ ?_ (by simp [hk]) (by simp [hl]) (fun j hj => ?_) (fun j hj => ?_)
  ·have hold : ((es[i]?).map (·.key)).getD (a.eval y) = a.eval y := by
    rw [← hkeq]; simp [Array.getD_eq_getD_getElem?,hie]
   have hst : (Instr.keyThatStays (((es[i]?).map (·.key)).getD (a.eval y)) (a.eval y)).run P w = .ok (a.eval y) w := by
    rw [hold]; exact stays_of hy hok
   simp only [Instr.mapUpdate,Sem.run_bind,run_underlying ht,Result.andThen_ok,MapKept.run_getObj_map hh,hik,MapKept.run_findKey hd hfn,Option.map_some,Nat.zero_add,hst,MapKept.run_setObj_map _ hh]
   rfl
  ·rw [List.length_set] at hj
   rw [modify_getD hie (by omega),set_getD hi]
   split
   ·exact hy0
   ·exact hkv j hj
  ·rw [List.length_set] at hj
   rw [modify_getD hie (by omega),set_getD (by omega)]
   split
   ·exact hv0
   ·exact hvv j hj
 ·rename_i hf
  simp only [Option.some.injEq] at hev; subst hev
  obtain ⟨hfn,_⟩ := find_now hKd hy ks es.toList 0 _ (by simpa using hk) (fun j hj => by rw [es_toList]; exact hkv j hj) hf
  refine hsk (es.push { key := a.eval y,val := a.eval v,born := clock }) (clock + 1) _ _ _ ?_ (by simp [hk]) (by simp [hl]) (fun j hj => ?_) (fun j hj => ?_)
  ·simp only [Instr.mapUpdate,Sem.run_bind,run_underlying ht,Result.andThen_ok,MapKept.run_getObj_map hh,hik,MapKept.run_findKey hd hfn,Option.map_none,MapKept.run_setObj_map _ hh]
   rfl
  ·simp only [List.length_append,List.length_cons,List.length_nil] at hj
   rw [push_getD (by omega),snoc_getD (by omega),hk]
   split
   ·exact hkv j (by omega)
   ·exact hy0
  ·simp only [List.length_append,List.length_cons,List.length_nil] at hj
   rw [push_getD (by omega),snoc_getD (by omega),hk,hl]
   split
   ·exact hvv j (by omega)
   ·exact hv0
 ·cases hev
theorem op_len_map (hR : Rel P Ξ B S G st N a w) {t kt et : TypeId} {ts : Array TypeId} {x : Operand} {x' : Opd} {n : Nat} {call : CallFn} (ho : o.op = .call { callee := .builtin .len,args := #[x],argTypes := ts }) (ht : ts[0]? = some t)
  (hu : P.underlying t = some (.map kt et)) (h1 : lowOpd x = some x') (hev : eval n call 0 d (st.cnt 0 d) st.en (St.get st.fr) (.len .map x') = some r) : OpOk P Ξ B S st N a w o d r := by
 have hx := opd_sound hR h1
 generalize hg : a.eval x = u at hx
 simp only [eval] at hev
 split at hev
 ·rename_i key hX
  split at hev
  ·rename_i ks vs frz he
   simp only [Option.some.injEq] at hev; subst hev
   rw [hX] at hx
   cases hx with
   | mp _ b hr' =>
    have hE := hR.ents key _ he (Gh.knows_mp hr')
    cases hE with
    | map _ _ _ r2 es clock hr2 hB hh hk hl hkv hvv hown =>
     rw [hr'] at hr2; simp only [Option.some.injEq] at hr2; subst hr2
     refine ok_pure (x := .int .i64 ks.length) hR ?_ (.int _ _)
     simp [execOp,ho,resolve,invoke,builtin,Builtin.len_,ht,run_underlying hu,hg,goInt,MapKept.run_getObj_map hh,hk]
  ·cases hev
 ·rename_i ks vs hX
  simp only [Option.some.injEq] at hev; subst hev
  rw [hX] at hx
  cases hx with
  | fm _ _ b es clock hh hT hk hl hkv hvv =>
   refine ok_pure (x := .int .i64 ks.length) hR ?_ (.int _ _)
   simp [execOp,ho,resolve,invoke,builtin,Builtin.len_,ht,run_underlying hu,hg,goInt,MapKept.run_getObj_map hh,hk]
 ·rename_i hX
  simp only [Option.some.injEq] at hev; subst hev
  rw [hX] at hx
  cases hx with
  | nilm =>
   refine ok_pure (x := .int .i64 0) hR ?_ (.int _ _)
   simp [execOp,ho,resolve,invoke,builtin,Builtin.len_,ht,run_underlying hu,hg,goInt]
 ·cases hev
theorem op_rng (hR : Rel P Ξ B S G st N a w) {t : TypeId} {x : Operand} {x' : Opd} {s : ByteArray} (ho : o.op = .range t x) (ht : P.underlying t = some .string) (h1 : lowOpd x = some x') (hX : St.get st.fr x' = .str s) :
  OpOk P Ξ B S st N a w o d { v := .it ⟨0,d,st.cnt 0 d⟩,ws := [.ent ⟨0,d,st.cnt 0 d⟩ (some (.iter s 0))],bump := true } := by
 have hx := opd_sound hR h1
 rw [hX] at hx
 have hxe : a.eval x = .string s := by generalize a.eval x = u at hx; cases hx; rfl
 have hf := hR.freshG ⟨0,d,st.cnt 0 d⟩ (Nat.le_refl _)
 have hg := Gh.le_addMp (b := w.heap.size) hf.2.2
 have ho' : ∀ b,b ≠ w.heap.size → (G.addMp ⟨0,d,st.cnt 0 d⟩ w.heap.size).own b = G.own b := fun b hb => by simp [Gh.addMp,hb]
 refine ok_value (G' := G.addMp ⟨0,d,st.cnt 0 d⟩ w.heap.size) (w' := w.alloc (.stringIter s 0)) (x := .pointer (some ⟨w.heap.size,0,none⟩)) ?_ ?_ (.it _ _ (by simp [Gh.addMp])) ((Below.refl B w).alloc hR.size _)
 ·have hrun : (Instr.range t (.string s)).run P w = .ok (.pointer (some ⟨w.heap.size,0,none⟩)) (w.alloc (.stringIter s 0)) := by
   simp only [Instr.range,Sem.run_bind,run_underlying ht,Result.andThen_ok,Sem.run_pure]
   rfl
  simp [execOp,ho,hxe,hrun]
 ·exact hR.alloc d _ _ _ hg ho' (fun k' hk' => by simp [Gh.addMp,hk']) (fun k' t h => by simp [Gh.addMp] at h; exact h.1.symm)
   (.iter s 0 w.heap.size (by simp [Gh.addMp]) hR.size (heap_alloc_new _ _) (by simp [Gh.addMp]))
theorem op_nxt (hR : Rel P Ξ B S G st N a w) {x : Operand} {x' : Opd} {n : Nat} {call : CallFn} (ho : o.op = .next x true) (h1 : lowOpd x = some x') (hev : eval n call 0 d (st.cnt 0 d) st.en (St.get st.fr) (.nxt x') = some r) : OpOk P Ξ B S st N a w o d r := by
 have hx := opd_sound hR h1
 simp only [eval] at hev
 split at hev
 case h_2 => cases hev
 rename_i k hX
 split at hev
 case h_2 => cases hev
 rename_i s pos he
 generalize hg : a.eval x = u at hx
 rw [hX] at hx
 cases hx with
 | it _ b hb =>
 have hE := hR.ents k _ he (Gh.knows_mp hb)
 cases hE with
 | iter _ _ r' hr' hB hh hown =>
 rw [hb] at hr'; simp only [Option.some.injEq] at hr'; subst hr'
 have hget : (getObj b).run P w = .ok (.stringIter s pos) w := by simp [getObj,Sem.run,hh]
 have hset : ∀ o',(setObj b o').run P w = .ok () (wput w b o') := fun o' => by simp [setObj,Sem.run,hh,wput]
 split at hev
 ·rename_i hlt
  simp only [Option.some.injEq] at hev; subst hev
  have hrel := hR.write (e' := .iter s (pos + (Utf8.decode s pos).2)) (o' := .stringIter s (pos + (Utf8.decode s pos).2)) hown hh (fun _ _ => .inl (by simp)) (fun _ => by simp) (fun _ h => by cases h) (fun off h => by omega)
   (fun m => .iter s _ b hb hB (wput_same _ (heap_lt hh)) hown)
  refine ok_value (x := .tuple #[.bool true,.int .i64 pos,.int .i32 (Utf8.decode s pos).1]) (G' := G) (w' := wput w b (.stringIter s (pos + (Utf8.decode s pos).2))) ?_ ?_ ?_ ⟨rfl,rfl,rfl,by rw [wput_size]; exact Nat.le_refl _,fun k hk => wput_other _ (by omega)⟩
  ·have hrun : (Instr.next (.pointer (some ⟨b,0,none⟩)) true o.type).run P w = .ok (.tuple #[.bool true,.int .i64 pos,.int .i32 (Utf8.decode s pos).1]) (wput w b (.stringIter s (pos + (Utf8.decode s pos).2))) := by
    simp only [Instr.next,Sem.run_bind,hget,Result.andThen_ok,hlt,if_true,hset,Sem.run_pure,goInt]
   simp [execOp,ho,hg,hrun]
  ·have : W.applyAll st.en [.ent k (some (.iter s (pos + (Utf8.decode s pos).2)))] = st.en.set k (some (.iter s (pos + (Utf8.decode s pos).2))) := rfl
   simp only [St.mem,this]; exact hrel
  ·refine .tup _ _ rfl (fun i hi => ?_)
   match i,hi with
   | 0,_ => exact .bool _
   | 1,_ => exact .int _ _
   | 2,_ => exact .int _ _
 ·rename_i hge
  simp only [Option.some.injEq] at hev; subst hev
  refine ok_pure (x := .tuple #[.bool false]) hR ?_ (.tup _ _ rfl fun i hi => ?_)
  ·have hrun : (Instr.next (.pointer (some ⟨b,0,none⟩)) true o.type).run P w = .ok (.tuple #[.bool false]) w := by
    simp only [Instr.next,Sem.run_bind,hget,Result.andThen_ok,hge,if_false,Sem.run_pure]
   simp [execOp,ho,hg,hrun]
  ·match i,hi with
   | 0,_ => exact .bool _
end
end Go.Abs
namespace Go.Abs
open Go.RowKit (Below)
variable [Inhabited Glob]
section
variable {P : Program} {Ξ : Env} {B : Nat} {S : Nat → Nat → Prop} {G : Gh} {st : St} {N : Nat} {a : Act} {w : World} {o : Oper} {d : Nat} {r : Res}
theorem fillElems_len : ∀ (qs : List (Nat × Val)) (ys r : List Val) (s : Nat),fillElems ys s qs = some r → r.length = ys.length
 | [],ys,r,s,h => by simp only [fillElems,Option.some.injEq] at h; subst h; rfl
 | q :: qs,ys,r,s,h => by
  simp only [fillElems] at h
  split at h
  ·have := fillElems_len qs _ _ _ h; simpa using this
  ·cases h
theorem ok_block {us : Array Value} {xs : List Val} {k C sz : Nat} {e : TypeId} {w' : World} (hR : Rel P Ξ B S G st N a w') (hb : Below B w w') (hf : FR (Stab B S G w'.heap.size) Gh.none w' sz xs (us.extract 0 (k * sz))) (hk : xs.length = k) (hC : k ≤ C) (hus : us.size = C * sz)
  (hrun : (execOp a.eval o).run P w = .ok (.value (.slice (some ⟨w'.heap.size,0,none⟩) k C)) (w'.alloc (.cells us e))) :
  OpOk P Ξ B S st N a w o d { v := .bl ⟨0,d,st.cnt 0 d⟩ 0 k,ws := [.ent ⟨0,d,st.cnt 0 d⟩ (some (.blk sz xs false))],bump := true } := by
 have hfr := hR.freshG ⟨0,d,st.cnt 0 d⟩ (Nat.le_refl _)
 have hg := Gh.le_addBlk (b := w'.heap.size) (base := 0) (sz := sz) (C := C) (thr := 0) hfr.2.1
 have ho' : ∀ b,b ≠ w'.heap.size → (G.addBlk ⟨0,d,st.cnt 0 d⟩ w'.heap.size 0 sz C 0).own b = G.own b := fun b hb => by simp [Gh.addBlk,hb]
 have mm := mono_alloc (B := B) (S := S) (w := w') (o := .cells us e) hg ho'
 have hget : ∀ i j,i < xs.length → j < sz → (us.extract 0 (k * sz)).getD (i * sz + j) undef = us.getD (i * sz + j) undef := fun i j hi hj => by
  have := idx_lt hi hj
  have h2 : k * sz ≤ C * sz := Nat.mul_le_mul_right _ hC
  rw [hk] at this
  simp only [Array.getD_eq_getD_getElem?,Array.getElem?_extract,Nat.zero_add,Nat.sub_zero]
  rw [if_pos (by rw [hus,Nat.min_eq_left h2]; exact this)]
 have hrel := hR.alloc d (.cells us e) (.blk sz xs false) _ hg ho'
  (fun k' hk' => by simp [Gh.addBlk,hk']) (fun k' t h => by simp [Gh.addBlk] at h; exact h.1.symm)
  (.blk _ false w'.heap.size 0 _ C 0 _ e (by simp [Gh.addBlk]) hR.size (heap_alloc_new _ _) (by omega) (by omega) hf.len
   (fun i j hi hj => by rw [Nat.zero_add,← hget i j hi hj]; exact hf.one i j hi hj) (fun i j hi hj => by rw [Nat.zero_add,← hget i j hi hj]; exact ((hf.vr i j hi hj).mono mm.none).into _) (by simp [Gh.addBlk]) (by simp))
 refine ok_value (x := .slice (some ⟨w'.heap.size,0,none⟩) k C) hrun (by simpa [St.mem,W.applyAll,W.apply] using hrel) ?_ (hb.trans (below_alloc hR _))
 have := VR.bl (T := Stab B S (G.addBlk ⟨0,d,st.cnt 0 d⟩ w'.heap.size 0 sz C 0) (w'.alloc (.cells us e)).heap.size)
  (G := G.addBlk ⟨0,d,st.cnt 0 d⟩ w'.heap.size 0 sz C 0) (w := w'.alloc (.cells us e)) ⟨0,d,st.cnt 0 d⟩ 0 k w'.heap.size 0 sz C (by simp [Gh.addBlk]) (by omega)
 simpa using this
theorem op_bsliceO (hR : Rel P Ξ B S G st N a w) {t e : TypeId} {len n : Nat} {parts : Array (Nat × Operand)} {z : List Val} {qs : List (Nat × Opd)} {ps : List ((Nat × Val) × List Key)} {xs : List Val} (ho : o.op = .buildSlice t len parts) (ht : P.underlying t = some (.slice e))
  (hz : lowZero P e = some z) (hzl : z.length = P.cellsOf e) (hp : mapO (fun (p : Nat × Operand) => (do pure (p.1,← lowOpd p.2) : Option (Nat × Opd))) parts.toList = some qs)
  (hl : len * P.cellsOf e ≤ 16777216) (hs : mapO (fun p => (snap n st.en (St.get st.fr p.2)).map fun r => ((p.1,r.1.wk1),r.2)) qs = some ps)
  (hf : fillElems (List.replicate len (ofZero (P.cellsOf e) z false)) (P.cellsOf e) (ps.map (·.1)) = some xs) {rs : List R} :
  OpOk P Ξ B S st N a w o d { v := .bl ⟨0,d,st.cnt 0 d⟩ 0 len,ws := (ps.flatMap (·.2)).map .frz ++ [.ent ⟨0,d,st.cnt 0 d⟩ (some (.blk (P.cellsOf e) xs false))],rs := rs,bump := true } := by
 obtain ⟨G',hR',hg,hT,hsnap⟩ := freeze_snaps hR (ps.flatMap (·.2))
 obtain ⟨l1,l2⟩ := parts_sound (get := fun q => q.2) hR hp (fun p q h => by
  simp only [Option.bind_eq_bind,Option.bind_eq_some_iff,Option.pure_def,Option.some.injEq] at h
  obtain ⟨y,hy,rfl⟩ := h; exact hy)
 obtain ⟨m1,m2⟩ := mapO_some hs
 obtain ⟨i,v,hi,hzv,hvs,hfr⟩ := fr_zero (P := P) (w := w) (T := Stab B S G' w.heap.size) (len := len) hz hzl
 obtain ⟨us,h1,h2⟩ := fillE_sound (G := Gh.none) (w := w) (T := Stab B S G' w.heap.size) (parts.toList.map fun (p : Nat × Operand) => (p.1,a.eval p.2)) (ps.map (·.1)) _ _ xs (by simp [m1,l1]) (fun i hi hi' => by
  simp only [List.length_map] at hi hi'
  have hiq : i < qs.length := by omega
  obtain ⟨e1,e2⟩ := l2 i hi hiq
  have e3 := m2 i hiq hi'
  simp only [Option.map_eq_some_iff] at e3
  obtain ⟨⟨v',ks'⟩,e4,e5⟩ := e3
  simp only [Option.bind_eq_bind,Option.bind_eq_some_iff,Option.pure_def,Option.some.injEq] at e1
  obtain ⟨y,_,e6⟩ := e1
  simp only [List.getElem_map,← e5]
  refine ⟨by rw [← e6],VR.wk1 (hsnap n _ v' _ ks' e2 e4 fun k hk => List.mem_flatMap.2 ⟨ps[i],List.getElem_mem hi',by rw [← e5]; exact hk⟩)⟩) hfr hf
 have hxl : xs.length = len := by simpa using fillElems_len _ _ _ _ hf
 have hus : us.size = len * P.cellsOf e := by rw [h2.size,hxl]
 have ok := ok_block (us := us) (C := len) (e := e) (o := o) (d := d) (w := w) hR' (Below.refl _ _) (by rw [show us.extract 0 (len * P.cellsOf e) = us by rw [← hus]; simp]; exact h2) hxl (Nat.le_refl _) hus (by
  have hpre : ∀ zero : Array Value,zero = #[] → len * P.cellsOf e = 0 → (Array.range (len * P.cellsOf e)).map (zero[· % zero.size]!) = (Array.range (len * P.cellsOf e)).map (v.cells[· % v.cells.size]!) := by
   intro zero _ h0; rw [h0,Array.range_zero',Array.map_empty,Array.map_empty]
  simp only [execOp,ho,Instr.buildSlice,Sem.run_bind,run_underlying ht,Result.andThen_ok,run_sizeOf hi]
  rw [if_neg (by omega)]
  rw [show (parts.map fun (i,x) => (i,a.eval x)).toList = parts.toList.map fun (p : Nat × Operand) => (p.1,a.eval p.2) by simp]
  by_cases h0 : len * P.cellsOf e = 0
  ·simp only [if_pos h0,Sem.run_bind,Sem.run_pure,Result.andThen_ok]
   rw [hpre _ rfl h0,h1]
   simp [newRow]
  ·simp only [if_neg h0,Sem.run_bind,run_zeroValue hi hzv,Sem.run_pure,Result.andThen_ok]
   rw [h1]
   simp [newRow])
 have e : St.mem st d { v := .bl ⟨0,d,st.cnt 0 d⟩ 0 len,ws := (ps.flatMap (·.2)).map .frz ++ [.ent ⟨0,d,st.cnt 0 d⟩ (some (.blk (P.cellsOf e) xs false))],rs := rs,bump := true } = St.mem { st with en := W.applyAll st.en ((ps.flatMap (·.2)).map .frz) } d { v := .bl ⟨0,d,st.cnt 0 d⟩ 0 len,ws := [.ent ⟨0,d,st.cnt 0 d⟩ (some (.blk (P.cellsOf e) xs false))],bump := true } := by
  simp only [St.mem,W.applyAll,List.foldl_append]
 unfold OpOk at ok ⊢
 rw [e]
 exact ok
theorem op_cap (hR : Rel P Ξ B S G st N a w) {t e : TypeId} {ts : Array TypeId} {x : Operand} {x' : Opd} {xs : List Val} (ho : o.op = .call { callee := .builtin .cap,args := #[x],argTypes := ts }) (ht : ts[0]? = some t)
  (hu : P.underlying t = some (.slice e)) (h1 : lowOpd x = some x') (hl : St.get st.fr x' = .cl xs) : OpOk P Ξ B S st N a w o d { v := .int .i64 xs.length } := by
 have hx := opd_sound hR h1
 rw [hl] at hx
 obtain ⟨p,hp⟩ : ∃ p,a.eval x = .slice p xs.length xs.length := by
  generalize a.eval x = u at hx
  cases hx with
  | cl0 a => exact ⟨_,rfl⟩
  | cl xs b off sz c hs h ht ho hv => exact ⟨_,rfl⟩
 refine ok_pure (x := .int .i64 xs.length) hR ?_ (.int _ _)
 simp [execOp,ho,resolve,invoke,builtin,Builtin.cap_,ht,run_underlying hu,hp,goInt]
theorem run_append_zeros (w : World) (t tn ty e : TypeId) (i : TypeInfo) (z : Value) (k kn : IntKind) (ht : P.underlying t = some (.slice e)) (htn : P.underlying tn = some (.int kn)) (hi : P.info? e = some i) (hz : i.zero = some z)
  (p : Option Addr) (n : Nat) (h0 : 0 < n) (hs : 0 < i.size) (h63 : (n : Int) ≤ 9223372036854775807) (h48 : n * i.bytes ≤ 281474976710656) :
  (Builtin.append_ #[t,tn] ty #[.slice p 0 0,.int k n]).run P w =
   .ok (.slice (some ⟨w.heap.size,0,none⟩) n (grownCap w n 0 e)) (w.drew.alloc (.cells (Builtin.zeroCells z.cells n ++ Builtin.zeroCells z.cells (grownCap w n 0 e - n)) e)) := by
 have hn : n ≠ 0 := by omega
 have hw : IntKind.i64.wrap (n : Int) = n := by rw [IntKind.wrap_i64]; omega
 have h63' : ¬ (9223372036854775807 < (n : Int)) := by omega
 have h48' : ¬ (281474976710656 < Builtin.nextslicecap n 0 * i.bytes) := by rw [nextslicecap_zero h0]; omega
 have h48i : ¬ (281474976710656 < (n : Int) * (i.bytes : Int)) := by
  rw [← Int.natCast_mul]
  omega
 have hneg : ¬ ((n : Int) < 0) := by omega
 have hns : ¬ (n * i.size = 0) := Nat.mul_ne_zero hn (by omega)
 have hfn := first_nil (P := P) (size := i.size) (cap := 0) (p := p) w.drew
 simp [Builtin.append_,run_underlying ht,run_underlying htn,sizeOf,typeInfo,zeroValue,hi,hz,asInt,asIntOf,hw,hn,hneg,hns,h63',h48',h48i,Question.forced,hfn,newRow,grownCap]
theorem op_appendZ (hR : Rel P Ξ B S G st N a w) {t tn e : TypeId} {x y : Operand} {x' y' : Opd} {z : List Val} {m : Int} {kn k : IntKind} (ho : o.op = .call { callee := .builtin .append,args := #[x,y],argTypes := #[t,tn] }) (ht : P.underlying t = some (.slice e)) (htn : P.underlying tn = some (.int kn))
  (hz : lowZero P e = some z) (hzl : z.length = P.cellsOf e) (hpos : 0 < P.cellsOf e) (hby : P.bytesOf e ≤ 1048576) (h1 : lowOpd x = some x') (h2 : lowOpd y = some y') (hx : St.get st.fr x' = .cl []) (hy : St.get st.fr y' = .int k m) (hm : 0 < m ∧ m ≤ 16777216) :
  OpOk P Ξ B S st N a w o d { v := .bl ⟨0,d,st.cnt 0 d⟩ 0 m.toNat,ws := [.ent ⟨0,d,st.cnt 0 d⟩ (some (.blk (P.cellsOf e) (List.replicate m.toNat (ofZero (P.cellsOf e) z false)) false))],bump := true } := by
 have vx := opd_sound hR h1
 have vy := opd_sound hR h2
 rw [hx] at vx; rw [hy] at vy
 obtain ⟨p,hp⟩ : ∃ p,a.eval x = .slice p 0 0 := by
  generalize a.eval x = u at vx
  cases vx with
  | cl0 a => exact ⟨_,rfl⟩
  | cl xs b off sz c hs h ht ho hv => exact ⟨_,rfl⟩
 have ey := int_of vy
 obtain ⟨n,rfl⟩ := Int.eq_ofNat_of_zero_le (Int.le_of_lt hm.1)
 simp only [Int.toNat_natCast]
 obtain ⟨i,v,hi,hzv,hvs,_⟩ := fr_zero (P := P) (w := w) (T := Stab B S G w.heap.size) (len := n) hz hzl
 have hsz : P.cellsOf e = i.size := by simp [Program.cellsOf,hi]
 have hb : P.bytesOf e = i.bytes := by simp [Program.bytesOf,hi]
 rw [hb] at hby
 have h48 : n * i.bytes ≤ 281474976710656 := by
  have := Nat.mul_le_mul (show n ≤ 16777216 by omega) hby
  omega
 have hrun := run_append_zeros (P := P) w t tn o.type e i v k kn ht htn hi hzv p n (by omega) (by omega) (by omega) h48
 have hge := grownCap_ge w n 0 e
 have hbd : Below w.heap.size w w.drew := (Below.refl _ _).drew
 have hR' := hR.below hbd
 have hvsz : v.cells.size = i.size := by rw [hvs,hsz]
 obtain ⟨_,_,hi2,hzv2,_,hfr⟩ := fr_zero (P := P) (w := w.drew) (T := Stab B S G w.drew.heap.size) (len := n) hz hzl
 rw [hi] at hi2; obtain rfl := Option.some.inj hi2
 rw [hzv] at hzv2; obtain rfl := Option.some.inj hzv2
 have hzc : ∀ c : Nat,Builtin.zeroCells v.cells c = (Array.range (c * P.cellsOf e)).map (v.cells[· % v.cells.size]!) := fun c => by rw [Builtin.zeroCells,hvsz,hsz]
 refine ok_block (w' := w.drew) (us := Builtin.zeroCells v.cells n ++ Builtin.zeroCells v.cells (grownCap w n 0 e - n)) (C := grownCap w n 0 e) (e := e) hR' (Below.refl B w).drew ?_ (by simp) hge ?_ (run_app ho (by rw [hp,ey]; exact hrun))
 ·have : (Builtin.zeroCells v.cells n ++ Builtin.zeroCells v.cells (grownCap w n 0 e - n)).extract 0 (n * P.cellsOf e) = (Array.range (n * P.cellsOf e)).map (v.cells[· % v.cells.size]!) := by
   rw [← hzc n]
   have : (Builtin.zeroCells v.cells n).size = n * P.cellsOf e := by rw [size_zeroCells',hvsz,hsz]
   rw [← this]; simp
  rw [this]; exact hfr
 ·rw [Array.size_append,size_zeroCells',size_zeroCells',hvsz,← Nat.add_mul,hsz]
  congr 1; omega
end
end Go.Abs
namespace Go.Abs
open Go.RowKit (Below)
variable [Inhabited Glob]
section
variable {P : Program} {Ξ : Env} {B : Nat} {S : Nat → Nat → Prop} {G : Gh} {st : St} {N : Nat} {a : Act} {w : World} {o : Oper} {d : Nat} {r : Res}
theorem flat0_cells {v : Val} (h : v.flat0 = true) : v.cells = [v] := by cases v <;> first | rfl | (simp [Val.flat0] at h)
theorem flat0_none {T T' : Nat → Nat → Prop} {G G' : Gh} {w' : World} {v : Val} {x : Value} (h : v.flat0 = true) (hv : VR T G w v x) : VR T' G' w' v x ∧ oneV x = true := by
 cases hv with
 | bool b => exact ⟨.bool b,rfl⟩
 | int k n => exact ⟨.int k n,rfl⟩
 | str s => exact ⟨.str s,rfl⟩
 | nilp => exact ⟨.nilp,rfl⟩
 | nilm => exact ⟨.nilm,rfl⟩
 | nilf => exact ⟨.nilf,rfl⟩
 | nili => exact ⟨.nili,rfl⟩
 | fn f a b x y ha hb hx hy =>
  cases a with
  | cons _ _ => simp [Val.flat0] at h
  | nil =>
   cases b with
   | cons _ _ => simp [Val.flat0] at h
   | nil => exact ⟨.fn f [] [] x y ha hb (fun i hi => by simp at hi) (fun i hi => by simp at hi),rfl⟩
 | _ => simp [Val.flat0] at h
theorem getD_all {l : List Val} (h : l.all Val.flat0 = true) {i : Nat} (hi : i < l.length) : (l.getD i .dead).flat0 = true := by
 rw [List.getD_eq_getElem?_getD,List.getElem?_eq_getElem hi]
 exact List.all_eq_true.1 h _ (List.getElem_mem hi)
theorem hadd (b o q : Nat) : (Addr.add ⟨b,o,none⟩ q) = ⟨b,o + q,none⟩ := by
 unfold Addr.add
 split
 ·rename_i h0; rw [h0]; rfl
 ·rfl
theorem op_sla (hR : Rel P Ξ B S G st N a w) {t e : TypeId} {n : Nat} {ag : Bool} {x : Operand} {x' : Opd} {lo hi : Option Operand} {lo' hi' : Option Opd} {r : Res} (ho : o.op = .slice t x lo hi none) (ht : P.underlying t = some (.array n e))
  (he : (P.info? e).isSome = true) (h1 : lowOpd x = some x') (h2 : lowOpt lo = some lo') (h3 : lowOpt hi = some hi') {m : Nat} {call : CallFn}
  (hv : eval m call 0 d (st.cnt 0 d) st.en (St.get st.fr) (.sla n (P.cellsOf e) ag x' lo' hi') = some r) : OpOk P Ξ B S st N a w o d r := by
 have hx := opd_sound hR h1
 obtain ⟨ti,hti⟩ := Option.isSome_iff_exists.1 he
 have hsz : ∀ w,(Go.sizeOf e).run P w = .ok (P.cellsOf e) w := fun w => by rw [run_sizeOf hti]; try simp [Program.cellsOf,hti]
 generalize P.cellsOf e = sz at hv hsz
 simp only [eval] at hv
 split at hv
 case h_2 => cases hv
 rename_i h hb1
 split at hv
 case h_2 => cases hv
 rename_i l hb2
 split at hv
 case isFalse => cases hv
 rename_i hln
 obtain ⟨bh,lh⟩ := bound_is hb1 (opt_some hR h3) (opt_none h3)
 obtain ⟨bl,ll⟩ := bound_is hb2 (opt_some hR h2) (opt_none h2)
 have sb : ∀ {k : IntKind} {n top : Nat} {c : BoundsCode},n ≤ top → (Instr.sliceBound (.int k n) top c).run P w = .ok n w := by
  intro k n top c hle
  simp [Instr.sliceBound,asIntOf,hle]
 have hh : h ≤ n := by
  rcases lh with h0 | h0
  ·exact h0
  ·rw [h0] at bh; simp only [boundIs] at bh; omega
 have hl : l ≤ h := by
  rcases ll with h0 | h0
  ·exact h0
  ·rw [h0] at bl; simp only [boundIs] at bl; omega
 have run : ∀ q : Addr,(Instr.sliceAt t (.pointer (some q)) (lo.map a.eval) (hi.map a.eval) none).run P w = .ok (.slice (some (q.add (l * sz))) (h - l) (n - l)) w := by
  intro q
  simp only [Instr.sliceAt,Sem.run_bind,run_underlying ht,Result.andThen_ok,Instr.sureAddr,Instr.sliceBounds]
  have hne : ¬ n = l := by omega
  generalize hi.map a.eval = hiv at bh
  generalize lo.map a.eval = lov at bl
  cases hiv with
  | none =>
   simp only [boundIs] at bh; subst bh
   cases lov with
   | none => simp only [boundIs] at bl; subst bl; simp [hsz,hne]
   | some lv => obtain ⟨k,rfl⟩ := bl; simp [sb hl,hsz,hne]
  | some hv =>
   obtain ⟨kh,rfl⟩ := bh
   cases lov with
   | none => simp only [boundIs] at bl; subst bl; first | (simp [sb hh,hsz,hne]; done) | (simp only [Sem.run_bind,Sem.run_pure,Result.andThen_ok,sb hh,hsz]; simp [hne])
   | some lv => obtain ⟨k,rfl⟩ := bl; simp [sb hl,sb hh,hsz,hne]
 generalize hg : a.eval x = u at hx
 split at hv
 ·rename_i k off hX
  rw [hX] at hx
  split at hv
  case isFalse => cases hv
  rename_i hs1
  subst hs1
  simp only [Option.some.injEq] at hv; subst hv
  cases hx with
  | ptr _ _ b hb =>
   refine ok_pure (x := .slice (some ⟨b,off + l,none⟩) (h - l) (n - l)) hR ?_ (.sl k (off + l) (h - l) b (n - l) hb (by omega))
   simp [execOp,ho,hg,run,hadd]
 ·rename_i cs off hX
  rw [hX] at hx
  split at hv
  case isFalse => cases hv
  rename_i hc
  obtain ⟨hc1,hc3⟩ := hc
  simp only [Option.some.injEq] at hv; subst hv
  have hle : ∀ i,i < h - l → off + (l + i) * sz + sz ≤ cs.length := fun i hi => by
   have : (l + i + 1) * sz ≤ n * sz := Nat.mul_le_mul_right _ (by omega)
   rw [Nat.add_mul,Nat.one_mul] at this; omega
  have hcut : ∀ i,i < h - l → (cutV ag sz cs (off + (l + i) * sz)).cells.length = sz ∧ ∀ j,j < sz → (cutV ag sz cs (off + (l + i) * sz)).cells.getD j .dead = cs.getD (off + (l + i) * sz + j) .dead := fun i hi => by
   have h0 := hle i hi
   cases ag with
   | true =>
    simp only [cutV,if_true,Val.cells]
    refine ⟨by simp; omega,fun j hj => ?_⟩
    simp only [List.getD_eq_getElem?_getD,List.getElem?_take,List.getElem?_drop]
    rw [if_pos hj]
   | false =>
    obtain ⟨hs1,hc2⟩ : sz = 1 ∧ ((cs.drop off).take n).all Val.flat0 = true := by rcases hc3 with h | h; cases h; exact h
    subst hs1
    have hfl := getD_all hc2 (i := l + i) (by simp; omega)
    rw [getD_drop_take (by omega) (by omega)] at hfl
    simp only [cutV,Bool.false_eq_true,if_false]
    rw [show off + (l + i) * 1 = off + (l + i) by omega,flat0_cells hfl]
    refine ⟨rfl,fun j hj => ?_⟩
    obtain rfl : j = 0 := by omega
    rfl
  have hget : ∀ i,i < h - l → ((List.range (h - l)).map fun i => cutV ag sz cs (off + (l + i) * sz)).getD i .dead = cutV ag sz cs (off + (l + i) * sz) := fun i hi => by
   simp [List.getD_eq_getElem?_getD,hi]
  cases hx with
  | fp _ _ b base c hcell hT hone hvr =>
   have hlen : ((List.range (h - l)).map fun i => cutV ag sz cs (off + (l + i) * sz)).length = h - l := by simp
   refine ok_pure (x := .slice (some ⟨b,base + off + l * sz,none⟩) (h - l) (n - l)) hR ?_ ?_
   ·simp [execOp,ho,hg,run,hadd]
   ·have hpos : ∀ i j : Nat,base + off + l * sz + i * sz + j = base + (off + (l + i) * sz + j) := fun i j => by rw [Nat.add_mul]; omega
    have hfz := VR.fz (T := Stab B S G w.heap.size) (G := G) (w := w) ((List.range (h - l)).map fun i => cutV ag sz cs (off + (l + i) * sz)) b (base + off + l * sz) sz (n - l) (fun i j => c (off + (l + i) * sz + j)) (by omega)
     (fun i hi => by rw [hlen] at hi; rw [hget i hi]; exact (hcut i hi).1)
     (fun i j hi hj => by
      rw [hlen] at hi
      rw [hpos]; exact hcell _ (by have := hle i hi; omega))
     (fun i j hi hj => by
      rw [hlen] at hi
      rw [hpos]; exact hT _ (by have := hle i hi; omega))
     (fun i j hi hj => by rw [hlen] at hi; exact hone _ (by have := hle i hi; omega))
     (fun i j hi hj => by
      rw [hlen] at hi
      rw [hget i hi,(hcut i hi).2 j hj]
      exact hvr _ (by have := hle i hi; omega))
    rw [hlen] at hfz
    exact hfz
 ·cases hv
theorem bytes_of {ys : List Val} {s : ByteArray} (h : bytesOf ys = some s) : ∃ ns : List Int,ys = ns.map (.int .u8) ∧ s = ns.foldl (fun r n => r.push (UInt8.ofNat n.toNat)) ByteArray.empty := by
 simp only [bytesOf,Option.map_eq_some_iff] at h
 obtain ⟨l,hl,rfl⟩ := h
 have hns : ∀ (ys : List Val) (l : List UInt8),mapO byteOf ys = some l → ∃ ns : List Int,ys = ns.map (.int .u8) ∧ l = ns.map fun n => UInt8.ofNat n.toNat := by
  intro ys
  induction ys with
  | nil => intro l h; simp only [mapO,Option.some.injEq] at h; exact ⟨[],rfl,h.symm⟩
  | cons y ys ih =>
   intro l h
   simp only [mapO] at h
   split at h
   case h_2 => cases h
   rename_i b hb
   split at h
   case h_2 => cases h
   rename_i bs hbs
   simp only [Option.some.injEq] at h; subst h
   obtain ⟨ns,rfl,rfl⟩ := ih bs hbs
   unfold byteOf at hb
   split at hb
   ·rename_i n
    simp only [Option.some.injEq] at hb; subst hb
    exact ⟨n :: ns,rfl,rfl⟩
   ·cases hb
 obtain ⟨ns,rfl,rfl⟩ := hns ys l hl
 refine ⟨ns,rfl,?_⟩
 have hf : ∀ (ns : List Int) (r : ByteArray),(ns.foldl (fun r n => r.push (UInt8.ofNat n.toNat)) r).data = r.data ++ (ns.map fun n => UInt8.ofNat n.toNat).toArray := by
  intro ns
  induction ns with
  | nil => intro r; simp
  | cons n ns ih =>
   intro r
   have e : (r.push (UInt8.ofNat n.toNat)).data = r.data.push (UInt8.ofNat n.toNat) := rfl
   rw [List.foldl_cons,ih,e,List.map_cons]; simp
 have := hf ns ByteArray.empty
 cases hq : ns.foldl (fun r n => r.push (UInt8.ofNat n.toNat)) ByteArray.empty with
 | mk dd => rw [hq] at this; simp at this; rw [this]
theorem srcO_sound (hR : Rel P Ξ B S G st N a w) {Y : Val} {y : Value} {ys : List Val} {rs : List R} (hy : VR (Stab B S G w.heap.size) G w Y y) (h : srcOf st.en Y = some (ys,rs)) (hs : isStr Y = false) :
  ys.all Val.flat0 = true ∧ ∃ q cap,y = .slice q ys.length cap ∧ (ys = [] ∨ ∃ b off,q = some ⟨b,off,.none⟩ ∧ ∀ i,i < ys.length → ∃ c,w.cell? ⟨b,off + i,.none⟩ = some c ∧ VR (Stab B S G w.heap.size) G w (ys.getD i .dead) c) := by
 unfold srcOf at h
 split at h
 ·simp [isStr] at hs
 ·rename_i k off len
  split at h
  ·rename_i cs f he
   split at h
   ·rename_i hc
    obtain ⟨hc1,hc2⟩ := hc
    simp only [Option.some.injEq,Prod.mk.injEq] at h; obtain ⟨rfl,_⟩ := h
    have hlen : ((cs.drop off).take len).length = len := by simp; omega
    cases hy with
    | sl _ _ _ b cap hb hcap =>
     refine ⟨hc2,_,cap,by rw [hlen],.inr ⟨b,off,rfl,fun i hi => ?_⟩⟩
     rw [hlen] at hi
     have hE := hR.ents k _ he (Gh.knows_box hb)
     cases hE with
     | box _ _ b' c ty hb' hB hh hs' ho1 hv hown =>
      rw [hb] at hb'; simp only [Option.some.injEq] at hb'; subst hb'
      refine ⟨c.getD (off + i) undef,?_,?_⟩
      ·rw [cell_get hh]
       simp only [Array.getD_eq_getD_getElem?]
       rw [Array.getElem?_eq_getElem (by omega)]; rfl
      ·rw [getD_drop_take hi hc1]; exact hv _ (by omega)
   ·cases h
  ·cases h
 ·split at h
  ·rename_i xs rs' he
   split at h
   ·rename_i hf
    simp only [Option.some.injEq,Prod.mk.injEq] at h; obtain ⟨rfl,_⟩ := h
    refine ⟨hf,?_⟩
    obtain ⟨q,cap,rfl,h0⟩ := src_sound hR hy he
    refine ⟨q,cap,rfl,?_⟩
    rcases h0 with h0 | ⟨b,off,sz,rfl,hrd⟩
    ·exact .inl h0
    ·by_cases hx : xs = []
     ·exact .inl hx
     ·have hsz : sz = 1 := by
       have h0 : 0 < xs.length := List.length_pos_iff.2 hx
       have := hrd.len 0 h0
       rw [flat0_cells (getD_all hf h0)] at this; simpa using this.symm
      subst hsz
      refine .inr ⟨b,off,rfl,fun i hi => ?_⟩
      obtain ⟨c,c1,c2,c3⟩ := hrd.cell i 0 hi (by omega)
      rw [flat0_cells (getD_all hf hi)] at c3
      exact ⟨c,by simpa using c1,c3.into G⟩
   ·cases h
  ·cases h
theorem op_b2s (hR : Rel P Ξ B S G st N a w) {s t e : TypeId} {x : Operand} {x' : Opd} {r : Res} (ho : o.op = .convert s t x) (hs : P.underlying s = some (.slice e)) (he : P.underlying e = some (.int .u8)) (ht : P.underlying t = some .string)
  (h1 : lowOpd x = some x') {m : Nat} {call : CallFn} (hv : eval m call 0 d (st.cnt 0 d) st.en (St.get st.fr) (.b2s x') = some r) : OpOk P Ξ B S st N a w o d r := by
 have hx := opd_sound hR h1
 simp only [eval] at hv
 split at hv
 ·cases hv
 rename_i hns
 split at hv
 case h_2 => cases hv
 rename_i ys rs hsrc
 simp only [Option.map_eq_some_iff] at hv
 obtain ⟨b,hb,rfl⟩ := hv
 obtain ⟨ns,rfl,rfl⟩ := bytes_of hb
 obtain ⟨_,q,cap,hq,h0⟩ := srcO_sound hR hx hsrc (by simpa using hns)
 refine ok_pure (x := .string (ns.foldl (fun r n => r.push (UInt8.ofNat n.toNat)) ByteArray.empty)) hR ?_ (.str _)
 have hrun : (convert s t (a.eval x)).run P w = .ok (.string (ns.foldl (fun r n => r.push (UInt8.ofNat n.toNat)) ByteArray.empty)) w := by
  rw [hq,run_convert_bytes_string w s t e q _ cap hs he ht]
  have load : ∀ q' : Addr,(∀ i,i < ns.length → w.cell? (q'.add i) = some (.int .u8 (ns.getD i 0))) → (loadCells q' ns.length).run P w = .ok (ns.map (Value.int .u8)).toArray w := by
   intro q' hc
   have := run_loadCells_list (P := P) w q' (ns.map (Value.int .u8)) (fun j v hj => by
    rw [List.getElem?_map,Option.map_eq_some_iff] at hj
    obtain ⟨n,hn,rfl⟩ := hj
    have hjl : j < ns.length := (List.getElem?_eq_some_iff.1 hn).1
    rw [hc j hjl,List.getD_eq_getElem?_getD,hn]; rfl)
   rw [List.length_map] at this; exact this
  rcases h0 with h0 | ⟨b,off,rfl,hcells⟩
  ·have : ns = [] := by simpa using h0
   subst this
   cases q with
   | none => simp [Conv.bytesToString]
   | some q' => exact run_bytesToString w q' _ cap [] (load q' (fun i hi => by simp at hi))
  ·rw [List.length_map] at hcells ⊢
   refine run_bytesToString w _ _ cap ns (load _ fun i hi => ?_)
   obtain ⟨c,c1,c2⟩ := hcells i hi
   have e1 : (ns.map (Val.int .u8)).getD i .dead = .int .u8 (ns.getD i 0) := by
    simp [List.getD_eq_getElem?_getD,hi]
   rw [e1] at c2
   rw [← int_of c2,hadd]; exact c1
 simp [execOp,ho,hrun]
theorem op_s2b (hR : Rel P Ξ B S G st N a w) {s t e : TypeId} {u : TypeDesc} {x : Operand} {x' : Opd} {r : Res} (ho : o.op = .convert s t x) (hs : P.underlying s = some u) (he : P.underlying e = some (.int .u8)) (ht : P.underlying t = some (.slice e))
  (h1 : lowOpd x = some x') {m : Nat} {call : CallFn} (hv : eval m call 0 d (st.cnt 0 d) st.en (St.get st.fr) (.s2b x') = some r) : OpOk P Ξ B S st N a w o d r := by
 have hx := opd_sound hR h1
 simp only [eval] at hv
 split at hv
 case h_2 => cases hv
 rename_i b hX
 split at hv
 case isFalse => cases hv
 simp only [Option.some.injEq] at hv; subst hv
 rw [hX] at hx
 generalize hg : a.eval x = y at hx
 cases hx with
 | str =>
 have hrun := Lib.run_convert_string_bytes (P := P) w s t e b hs ht he
 have hbw : Below w.heap.size w (Lib.bytesWorld w e b) := by
  have h2 := ((Below.refl w.heap.size w).drew).alloc (Nat.le_refl _) (.cells (Lib.bytesCells w e b) e)
  refine ⟨h2.os,h2.tape,h2.output,by rw [Lib.bytesWorld_size]; omega,fun k hk => Lib.bytesWorld_at_old w e b k hk⟩
 have hR' := hR.below hbw
 have hsz := Lib.bytesWorld_size w e b
 have hown : G.own w.heap.size = none := by
  cases hq : G.own w.heap.size with
  | none => rfl
  | some p => obtain ⟨k,t'⟩ := p; have := (hR.own _ _ _ hq).2.1; omega
 have hl : (strVals b).length = b.size := by rw [strVals,List.length_map,Array.length_toList]; rfl
 have hget : ∀ i,i < b.size → (strVals b).getD i .dead = .int .u8 (b.data.toList.getD i 0).toNat := fun i hi => by
  have : i < b.data.size := hi
  simp only [strVals,List.getD_eq_getElem?_getD,List.getElem?_map,Array.getElem?_toList,Array.getElem?_eq_getElem this,Option.map_some,Option.getD_some]
 refine ok_value (x := .slice (some ⟨w.heap.size,0,none⟩) b.size (grownCap w b.size 0 e)) (w' := Lib.bytesWorld w e b) (G' := G) (by simp [execOp,ho,hg,hrun]) (by simpa [St.mem,W.applyAll] using hR') ?_ (hbw.mono hR.size)
 have hge := grownCap_ge w b.size 0 e
 have := VR.fz (T := Stab B S G (Lib.bytesWorld w e b).heap.size) (G := G) (w := Lib.bytesWorld w e b) (strVals b) w.heap.size 0 1 (grownCap w b.size 0 e) (fun i _ => .int .u8 (b.data.toList.getD i 0).toNat) (by rw [hl]; exact hge)
  (fun i hi => by rw [hl] at hi; rw [hget i hi]; rfl)
  (fun i j hi hj => by
   rw [hl] at hi
   obtain rfl : j = 0 := by omega
   have := Lib.bytesWorld_cell w e b i hi
   simpa using this)
  (fun i j hi hj => ⟨by rw [hsz]; omega,.inr ⟨hR.size,by rw [hown]; trivial⟩⟩)
  (fun i j hi hj => rfl)
  (fun i j hi hj => by
   rw [hl] at hi
   obtain rfl : j = 0 := by omega
   rw [hget i hi]; exact .int _ _)
 rw [hl] at this
 exact this
theorem put_cells (hR : Rel P Ξ B S G st N a w) {k : Key} {off b : Nat} {cs vs : List Val} {news : List Value} {rs : List R} {v : Val} {x : Value} (hb : G.box k = some b) (he : st.en k = some (.box cs false)) (hl : off + vs.length ≤ cs.length)
  (hn : news.length = vs.length) (h1 : ∀ u ∈ news,oneV u = true) (hvr : ∀ i,i < vs.length → VR (Stab B S G w.heap.size) G w (vs.getD i .dead) (news.getD i undef))
  (hx : ∀ {T : Nat → Nat → Prop} {G' : Gh} {w' : World},VR T G' w' v x) (hrun : (∀ j,j < vs.length → (w.cell? ⟨b,off + j,none⟩).isSome = true ∧ w.frozen? ⟨b,off + j,none⟩ = false) → (execOp a.eval o).run P w = .ok (.value x) (w.setCells b off news)) :
  OpOk P Ξ B S st N a w o d { v := v,ws := [.cells k off vs],rs := rs } := by
 have hE := hR.ents k _ he (Gh.knows_box hb)
 cases hE with
 | box _ _ b' c ty hb' hB hh hs ho1 hv hown =>
  rw [hb] at hb'; simp only [Option.some.injEq] at hb'; subst hb'
  simp only [Bool.false_eq_true,if_false] at hown
  have hcr : CR (Stab B S G w.heap.size) G w cs c := ⟨hs,ho1,hv⟩
  have hy : CR (Stab B S G w.heap.size) G w vs news.toArray := ⟨by simp [hn],fun i hi => by
    have hi' : i < news.length := by omega
    have : news.toArray.getD i undef = news[i] := by simp [hi']
    rw [this]; exact h1 _ (List.getElem_mem _),fun i hi => by
    have := hvr i hi
    have hi' : i < news.length := by omega
    have e : news.toArray.getD i undef = news.getD i undef := by simp [List.getD_eq_getElem?_getD,hi']
    rw [e]; exact this⟩
  have hset := hcr.set hy hl
  have hrel := hR.write (e' := .box (setCells cs off vs) false) (o' := .cells (wr c off news) ty (0,0)) hown hh (fun _ _ => .inl (by simp)) (fun _ => by simp) (fun _ h => by cases h) (fun off h => by omega)
   (fun m => .box _ false b _ ty hb hB (by rw [wput_same _ (heap_lt hh)]) (by simpa using hset.size) (by simpa using hset.one) (fun j hj => by have := (hset.vr j hj).mono m; simpa using this) (by simpa using hown))
  have hr := hrun fun j hj => ⟨by rw [cell_get hh,Array.getElem?_eq_getElem (by omega)]; rfl,by simp [World.frozen?,hh]⟩
  rw [setCells_wr news c off w hh] at hr
  refine ok_value (x := x) (G' := G) (w' := wput w b (.cells (wr c off news) ty (0,0))) hr ?_ hx ?_
  ·have : W.applyAll st.en [.cells k off vs] = st.en.set k (some (.box (setCells cs off vs) false)) := by
    simp [W.applyAll,W.apply,he]
   simp only [St.mem,this]
   exact hrel
  ·refine ⟨rfl,rfl,rfl,by rw [wput_size]; exact Nat.le_refl _,fun k hk => wput_other _ (by omega)⟩
theorem op_copy (hR : Rel P Ξ B S G st N a w) {t t' e : TypeId} {x y : Operand} {x' y' : Opd} {r : Res} (ho : o.op = .call { callee := .builtin .copy,args := #[x,y],argTypes := #[t,t'] }) (ht : P.underlying t = some (.slice e))
  (he : (P.info? e).isSome = true) (hs : P.cellsOf e = 1) (h1 : lowOpd x = some x') (h2 : lowOpd y = some y') {m : Nat} {call : CallFn} (hv : eval m call 0 d (st.cnt 0 d) st.en (St.get st.fr) (.copy 1 x' y') = some r) : OpOk P Ξ B S st N a w o d r := by
 have hx := opd_sound hR h1
 have hy := opd_sound hR h2
 obtain ⟨ti,hti⟩ := Option.isSome_iff_exists.1 he
 have hsz : ti.size = 1 := by rw [← hs]; simp [Program.cellsOf,hti]
 simp only [eval,if_true] at hv
 split at hv
 case h_2 => cases hv
 rename_i k off len hX
 split at hv
 case h_2 => cases hv
 rename_i cs hen
 split at hv
 case isFalse => cases hv
 rename_i hle
 split at hv
 case h_2 => cases hv
 rename_i ys rs hsrc
 split at hv
 case isFalse => cases hv
 rename_i hst
 simp only [Option.some.injEq] at hv; subst hv
 rw [hX] at hx
 generalize hgx : a.eval x = u at hx
 cases hx with
 | sl _ _ _ b cap hb hcap =>
 have hlt : (ys.take len).length = min ys.length len := by simp; omega
 have hres : ∀ {T : Nat → Nat → Prop} {G' : Gh} {w' : World},VR T G' w' (.int .i64 (min ys.length len : Nat)) (goInt ((min ys.length len : Nat) : Int)) := by intro T G' w'; exact .int _ _
 cases hY : isStr (St.get st.fr y') with
 | true =>
  obtain ⟨s,hsY⟩ : ∃ s,St.get st.fr y' = .str s := by
   cases hq : St.get st.fr y' <;> rw [hq] at hY <;> first | (cases hY; done) | exact ⟨_,rfl⟩
  rw [hsY] at hy hsrc hst
  simp only [srcOf,Option.some.injEq,Prod.mk.injEq] at hsrc
  obtain ⟨rfl,rfl⟩ := hsrc
  have hl : (strVals s).length = s.size := by rw [strVals,List.length_map,Array.length_toList]; rfl
  have hls : s.size ≤ len := by
   rcases hst with h | h
   ·cases h
   ·rw [hl] at h; exact h
  generalize hgy : a.eval y = z at hy
  cases hy with
  | str =>
  have htk : (strVals s).take len = strVals s := List.take_of_length_le (by rw [hl]; exact hls)
  rw [htk]
  have hmin : min (strVals s).length len = s.size := by rw [hl]; omega
  rw [hmin] at hres ⊢
  refine put_cells (news := s.data.toList.map fun x => Value.int .u8 (x.toNat : Int)) hR hb hen (by rw [hl]; omega) (by rw [List.length_map,hl,Array.length_toList]; rfl) (fun u hu => by
   obtain ⟨x,_,rfl⟩ := List.mem_map.1 hu; rfl) (fun i hi => by
   rw [hl] at hi
   have : i < s.data.toList.length := by rw [Array.length_toList]; exact hi
   simp only [strVals,List.getD_eq_getElem?_getD,List.getElem?_map,List.getElem?_eq_getElem this,Option.map_some,Option.getD_some]
   exact .int _ _) hres (fun hc => ?_)
  have hrun := Go.run_copy_string (P := P) w t t' o.type e b off len cap s ht (fun w => by rw [run_sizeOf hti,hs]) hls (fun j hj => (hc j (by rw [hl]; exact hj)).1) (fun j hj => (hc j (by rw [hl]; exact hj)).2)
  simp [execOp,ho,resolve,invoke,builtin,hgx,hgy,hrun]
 | false =>
  obtain ⟨hf,q,qcap,hq,h0⟩ := srcO_sound hR hy hsrc hY
  obtain ⟨news,hn1,hn2⟩ : ∃ news : List Value,news.length = min ys.length len ∧ ∀ i,i < min ys.length len → VR (Stab B S G w.heap.size) G w (ys.getD i .dead) (news.getD i undef) ∧ ∀ b' off',q = some ⟨b',off',.none⟩ → w.cell? ⟨b',off' + i,.none⟩ = some (news.getD i undef) := by
   rcases h0 with rfl | ⟨b',off',rfl,hcells⟩
   ·exact ⟨[],by simp,fun i hi => by simp at hi⟩
   ·refine ⟨(List.range (min ys.length len)).map fun i => (w.cell? ⟨b',off' + i,.none⟩).getD undef,by simp,fun i hi => ?_⟩
    obtain ⟨c,c1,c2⟩ := hcells i (by omega)
    have e1 : ((List.range (min ys.length len)).map fun i => (w.cell? ⟨b',off' + i,.none⟩).getD undef).getD i undef = c := by
     rw [List.getD_eq_getElem?_getD,List.getElem?_map,List.getElem?_range hi]
     simp [c1]
    rw [e1]
    exact ⟨c2,fun b2 off2 h => by
     simp only [Option.some.injEq,Addr.mk.injEq] at h
     obtain ⟨rfl,rfl,_⟩ := h
     exact c1⟩
  have hone : ∀ u ∈ news,oneV u = true := fun u hu => by
   obtain ⟨i,hi,rfl⟩ := List.getElem_of_mem hu
   have := (hn2 i (by omega)).1
   rw [show news.getD i undef = news[i] by simp [List.getD_eq_getElem?_getD,hi]] at this
   exact (flat0_none (T' := Stab B S G w.heap.size) (G' := G) (w' := w) (getD_all hf (by omega)) this).2
  refine put_cells (news := news) hR hb hen (by rw [hlt]; omega) (by rw [hlt,hn1]) hone (fun i hi => by
   rw [hlt] at hi
   have := (hn2 i hi).1
   have e1 : (ys.take len).getD i .dead = ys.getD i .dead := by
    simp only [List.getD_eq_getElem?_getD,List.getElem?_take]
    rw [if_pos (by omega)]
   rw [e1]; exact this) hres (fun hc => ?_)
  rw [hlt] at hc
  cases q with
  | none =>
   have : ys = [] := by
    rcases h0 with h | ⟨_,_,h,_⟩
    ·exact h
    ·cases h
   subst this
   have hnn : news = [] := List.length_eq_zero_iff.1 (by rw [hn1]; simp)
   subst hnn
   have hrun := run_copy_none (P := P) w t t' o.type e (some ⟨b,off,none⟩) none len cap 0 qcap ht (by rw [hti]; simp [hsz]) (by simp)
   simp only [List.length_nil] at hq
   simp [execOp,ho,resolve,invoke,builtin,hgx,hq,hrun,World.setCells]
  | some q' =>
   obtain ⟨b',off',v'⟩ := q'
   by_cases hys : ys = []
   ·subst hys
    have hnn : news = [] := List.length_eq_zero_iff.1 (by rw [hn1]; simp)
    subst hnn
    have hrun := run_copy_none (P := P) w t t' o.type e (some ⟨b,off,none⟩) (some ⟨b',off',v'⟩) len cap 0 qcap ht (by rw [hti]; simp [hsz]) (by simp)
    simp only [List.length_nil] at hq
    simp [execOp,ho,resolve,invoke,builtin,hgx,hq,hrun,World.setCells]
   ·have hv' : v' = none := by
     rcases h0 with h | ⟨_,_,h,_⟩
     ·exact absurd h hys
     ·simp only [Option.some.injEq,Addr.mk.injEq] at h; exact h.2.2
    subst hv'
    have hrun := run_copy_cells (P := P) w t t' o.type e b off len cap ⟨b',off',none⟩ ys.length qcap news ht (by rw [hti]; simp [hsz]) hn1 (fun j v hj => by
      have hjl : j < news.length := (List.getElem?_eq_some_iff.1 hj).1
      have := (hn2 j (by omega)).2 b' off' rfl
      rw [List.getD_eq_getElem?_getD,hj] at this
      rw [hadd]; exact this) (fun j hj => (hc j (by omega)).1) (fun j hj => (hc j (by omega)).2) (fun v hv => oneCell_of (hone v hv))
    rw [hn1] at hrun
    simp [execOp,ho,resolve,invoke,builtin,hgx,hq,hrun]
theorem run_clear_nil (w : World) (t e ty : TypeId) (q : Option Addr) (c : Nat) (ht : P.underlying t = some (.slice e)) : (Builtin.clear_ #[t] ty #[.slice q 0 c]).run P w = .ok (.tuple #[]) w := by
 cases q <;> simp [Builtin.clear_,run_underlying ht]
theorem op_clr (hR : Rel P Ξ B S G st N a w) {t e : TypeId} {x : Operand} {x' : Opd} {z : Val} {r : Res} (ho : o.op = .call { callee := .builtin .clear,args := #[x],argTypes := #[t] }) (ht : P.underlying t = some (.slice e))
  (hz : lowZeroV P e = some z) (hs : P.cellsOf e = 1) (hzf : z.flat0 = true) (h1 : lowOpd x = some x') {m : Nat} {call : CallFn} (hv : eval m call 0 d (st.cnt 0 d) st.en (St.get st.fr) (.clr z x') = some r) : OpOk P Ξ B S st N a w o d r := by
 have hx := opd_sound hR h1
 obtain ⟨ti,zv,hti,hzi,hzr⟩ := zeroV_sound (w := w) (T := Stab B S G w.heap.size) (G := G) hz
 have hz1 := (flat0_none (T' := Stab B S G w.heap.size) (G' := G) (w' := w) hzf hzr).2
 have hzc : zv.cells = #[zv] := by
  cases zv <;> first | rfl | (cases hz1; done)
 have hzero : ∀ w,(zeroValue e).run P w = .ok zv w := fun w => run_zeroValue hti hzi
 have htup : ∀ {T : Nat → Nat → Prop} {G' : Gh} {w' : World},VR T G' w' (.tup []) (.tuple #[]) := .tup [] #[] rfl (fun i hi => by simp at hi)
 have nil : ∀ {q : Option Addr} {c : Nat},a.eval x = .slice q 0 c → OpOk P Ξ B S st N a w o d { v := .tup [] } := fun hq =>
  ok_pure (x := .tuple #[]) hR (by simp [execOp,ho,resolve,invoke,builtin,hq,run_clear_nil w t e o.type _ _ ht]) htup
 simp only [eval] at hv
 split at hv
 ·rename_i k off len hX
  split at hv
  case h_2 => cases hv
  rename_i cs hen
  split at hv
  case isFalse => cases hv
  rename_i hle
  simp only [Option.some.injEq] at hv; subst hv
  rw [hX] at hx
  generalize hgx : a.eval x = u at hx
  cases hx with
  | sl _ _ _ b cap hb hcap =>
  refine put_cells (news := List.replicate len zv) hR hb hen (by simpa using hle.1) (by simp) (fun u hu => by rw [List.eq_of_mem_replicate hu]; exact hz1) (fun i hi => by
   rw [List.length_replicate] at hi
   simp only [List.getD_eq_getElem?_getD,List.getElem?_replicate,hi,if_true,Option.getD_some]
   exact hzr) htup (fun hc => ?_)
  rw [List.length_replicate] at hc
  by_cases h0 : len = 0
  ·subst h0
   simp [execOp,ho,resolve,invoke,builtin,hgx,run_clear_nil w t e o.type _ _ ht,World.setCells]
  ·have hrun := Lib.run_clear_slice (P := P) w t e o.type zv ht hzero hzc (oneCell_of hz1) b off len cap (by omega) (fun j hj => (hc j hj).1) (fun j hj => (hc j hj).2)
   simp [execOp,ho,resolve,invoke,builtin,hgx,hrun]
 ·rename_i k off len hX
  split at hv
  case h_2 => cases hv
  rename_i sz xs hen
  split at hv
  case isFalse => cases hv
  rename_i hle
  obtain ⟨hs1,hle,hdp,_⟩ := hle
  simp only [Option.some.injEq] at hv; subst hv
  subst hs1
  rw [hX] at hx
  generalize hgx : a.eval x = u at hx
  have hsame : len = 0 → st.en.set k (some (.blk 1 (xs.take off ++ List.replicate len z ++ xs.drop (off + len)) false)) = st.en := fun h0 => by
   subst h0
   funext q
   simp only [En.set,List.replicate_zero,List.append_nil,Nat.add_zero,List.take_append_drop]
   split
   ·rename_i h; rw [h,hen]
   ·rfl
  have empty : ∀ {q : Option Addr} {c : Nat},u = .slice q 0 c → len = 0 → OpOk P Ξ B S st N a w o d { v := .tup [],ws := [.ent k (some (.blk 1 (xs.take off ++ List.replicate len z ++ xs.drop (off + len)) false))],rs := [.val k,.flag k] } := fun hq h0 => by
   refine ok_value (x := .tuple #[]) (G' := G) (w' := w) (by simp [execOp,ho,resolve,invoke,builtin,hgx,hq,run_clear_nil w t e o.type _ _ ht]) ?_ htup (Below.refl _ _)
   simp only [St.mem,W.applyAll,List.foldl_cons,List.foldl_nil,W.apply,hsame h0]
   exact hR
  cases hx with
  | bl0 _ p hb => exact empty rfl rfl
  | ble _ p b base sz C hb => exact empty rfl rfl
  | bl _ _ _ b base sz' C hb hC =>
  by_cases h0 : len = 0
  ·exact empty (by rw [h0]) h0
  have hE := hR.ents k _ hen (Gh.knows_blk hb)
  cases hE with
  | nul _ _ hb' => simp at hle; omega
  | blk _ _ b' base' _ C' thr c ty hb' hB hh hC1 hC2 hlen hone hvr hown hthr =>
   rw [hb] at hb'
   simp only [Option.some.injEq,Prod.mk.injEq] at hb'
   obtain ⟨rfl,rfl,rfl,rfl⟩ := hb'
   simp only [Bool.false_eq_true,if_false] at hthr
   subst hthr
   rw [Nat.mul_one] at hgx
   have hcsz : thr + off + len ≤ c.size := by omega
   have hrun := Lib.run_clear_slice (P := P) w t e o.type zv ht hzero hzc (oneCell_of hz1) b (thr + off) len (C - off) (by omega)
    (fun j hj => by rw [cell_get hh,Array.getElem?_eq_getElem (by omega)]; rfl) (fun j hj => by simp [World.frozen?,hh])
   rw [setCells_wr _ c _ w hh] at hrun
   have hnl : (xs.take off ++ List.replicate len z ++ xs.drop (off + len)).length = xs.length := by simp; omega
   have hng : ∀ i,i < xs.length → (xs.take off ++ List.replicate len z ++ xs.drop (off + len)).getD i .dead = if off ≤ i ∧ i < off + len then z else xs.getD i .dead := fun i hi => by
    simp only [List.getD_eq_getElem?_getD,List.append_assoc,List.getElem?_append,List.length_take,List.length_replicate,List.getElem?_take,List.getElem?_replicate,List.getElem?_drop]
    by_cases c1 : i < off
    ·rw [if_pos (by omega),if_pos c1,if_neg (by omega)]
    ·rw [if_neg (by omega)]
     by_cases c2 : i < off + len
     ·rw [if_pos (by omega),if_pos (by omega),if_pos ⟨by omega,c2⟩]; rfl
     ·rw [if_neg (by omega),if_neg (by omega)]
      congr 2; omega
   have hwg : ∀ i,i < xs.length → (wr c (thr + off) (List.replicate len zv)).getD (thr + i * 1 + 0) undef = if off ≤ i ∧ i < off + len then zv else c.getD (thr + i * 1 + 0) undef := fun i hi => by
    simp only [Array.getD_eq_getD_getElem?]
    rw [wr_get _ _ _ _ (by simp; omega)]
    simp only [List.length_replicate]
    by_cases c1 : off ≤ i ∧ i < off + len
    ·rw [if_pos (by omega),if_pos c1,List.getElem?_replicate,if_pos (by omega)]; rfl
    ·rw [if_neg (by omega),if_neg c1]
   have hrel := hR.write (e' := .blk 1 (xs.take off ++ List.replicate len z ++ xs.drop (off + len)) false) (o' := .cells (wr c (thr + off) (List.replicate len zv)) ty (0,0)) hown hh (fun _ _ => .inl (by simp)) (fun _ => by simp) (fun _ h => by cases h)
    (fun q hq => by
     rw [cell_get (wput_same _ (heap_lt hh)),cell_get hh,wr_get _ _ _ _ (by simp; omega),if_neg (by omega)])
    (fun mm => .blk _ false b thr 1 C thr _ ty hb hB (by rw [wput_same _ (heap_lt hh)]) (by rw [hnl]; exact hC1) (by rw [wr_size]; exact hC2)
     (fun i hi => by
      rw [hnl] at hi
      rw [hng i hi]
      split
      ·rw [flat0_cells hzf]; rfl
      ·exact hlen i hi)
     (fun i j hi hj => by
      rw [hnl] at hi
      obtain rfl : j = 0 := by omega
      rw [hwg i hi]
      split
      ·exact hz1
      ·exact hone i 0 hi (by omega))
     (fun i j hi hj => by
      rw [hnl] at hi
      obtain rfl : j = 0 := by omega
      rw [hwg i hi,hng i hi]
      split
      ·rw [flat0_cells hzf]; exact (flat0_none hzf hzr).1
      ·exact ((hvr i 0 hi (by omega)).mono (mm.atq _))) (by simpa using hown) (by simp))
   refine ok_value (x := .tuple #[]) (G' := G) (w' := wput w b (.cells (wr c (thr + off) (List.replicate len zv)) ty (0,0))) (by simp [execOp,ho,resolve,invoke,builtin,hgx,hrun]) ?_ htup ⟨rfl,rfl,rfl,by rw [wput_size]; exact Nat.le_refl _,fun k hk => wput_other _ (by omega)⟩
   simpa [St.mem,W.applyAll,W.apply] using hrel
 ·rename_i hX
  simp only [Option.some.injEq] at hv; subst hv
  rw [hX] at hx
  generalize hgx : a.eval x = u at hx
  cases hx with
  | fz0 q cap => exact nil hgx
  | fz xs b off sz cap c hc _ _ _ _ _ => exact nil hgx
 ·rename_i hX
  simp only [Option.some.injEq] at hv; subst hv
  rw [hX] at hx
  generalize hgx : a.eval x = u at hx
  cases hx with
  | cl0 q => exact nil hgx
  | cl xs b off sz c _ _ _ _ _ => exact nil hgx
 ·rename_i hX
  simp only [Option.some.injEq] at hv; subst hv
  rw [hX] at hx
  generalize hgx : a.eval x = u at hx
  cases hx with
  | es q cap => exact nil hgx
 ·cases hv
end
end Go.Abs
namespace Go.Abs
open Go.RowKit (Below)
variable [Inhabited Glob]
section
variable {P : Program} {Ξ : Env} {B : Nat} {S : Nat → Nat → Prop} {G : Gh} {st : St} {N : Nat} {a : Act} {w : World} {o : Oper} {d : Nat} {r : Res} {I : Operand → Bool}
theorem list1 {α : Type} {a : Array α} {x : α} (h : a.toList = [x]) : a = #[x] := by
 cases a; simp at h; subst h; rfl
theorem list2 {α : Type} {a : Array α} {x y : α} (h : a.toList = [x,y]) : a = #[x,y] := by
 cases a; simp at h; subst h; rfl
theorem ev_sliceI {n : Nat} {call : CallFn} (hR : Rel P Ξ B S G st N a w) {lop : LOp} (ho : lowOp P I o.op = some lop) (hev : eval n call 0 d (st.cnt 0 d) st.en (St.get st.fr) lop = some r)
  (h : ∃ t x y,o.op = .indexAddr t x y) : OpOk P Ξ B S st N a w o d r := by
 obtain ⟨t,x,i,hop⟩ := h
 rw [hop] at ho
 simp only [lowOp] at ho
 split at ho
 ·rename_i e ht
  split at ho
  ·cases ho
  rename_i he
  have he : (P.info? e).isSome = true := eq_true_of_ne_false he
  simp only [Option.bind_eq_bind,Option.bind_eq_some_iff,Option.pure_def,Option.some.injEq] at ho
  obtain ⟨x',h1,i',h2,rfl⟩ := ho
  simp only [eval] at hev
  split at hev
  case h_2 => cases hev
  rename_i k j hi
  have fz : ∀ xs,(St.get st.fr x' = .fz xs ∨ St.get st.fr x' = .cl xs) → (if 0 ≤ j then (match xs[j.toNat]? with
     | some y => if y.cells.length = P.cellsOf e then some { v := .fp y.cells 0 } else none
     | none => none) else none : Option Res) = some r → OpOk P Ξ B S st N a w o d r := by
   intro xs hX hev
   split at hev
   case isFalse => cases hev
   rename_i hj
   split at hev
   case h_2 => cases hev
   rename_i y hy
   split at hev
   case isFalse => cases hev
   rename_i hl
   simp only [Option.some.injEq] at hev; subst hev
   exact op_ia_fz hR hop ht he h1 h2 hi hj hX hy hl
  split at hev
  ·exact fz _ (.inl (by assumption)) hev
  ·exact fz _ (.inr (by assumption)) hev
  ·rename_i key off len hX
   split at hev
   case h_2 => cases hev
   rename_i sz ys f hen
   split at hev
   case isFalse => cases hev
   rename_i hc
   simp only [Option.some.injEq] at hev; subst hev
   obtain ⟨c1,c2,rfl⟩ := hc
   exact op_ia_bl hR hop ht he h1 h2 hi ⟨c1,c2⟩ hX hen
  ·cases hev
 ·rename_i m e ht
  split at ho
  ·cases ho
  rename_i he
  have he : (P.info? e).isSome = true := eq_true_of_ne_false he
  simp only [Option.bind_eq_bind,Option.bind_eq_some_iff,Option.pure_def,Option.some.injEq] at ho
  obtain ⟨x',h1,i',h2,rfl⟩ := ho
  simp only [eval] at hev
  split at hev
  case h_2 => cases hev
  rename_i k j hi
  split at hev
  case isFalse => cases hev
  rename_i hj
  obtain ⟨v,rfl⟩ : ∃ v,r = { v := v } := by
   revert hev; split <;> simp only [Option.some.injEq,reduceCtorEq,false_implies] <;> (rintro rfl; exact ⟨_,rfl⟩)
  exact op_iaa hR hop ht he h1 h2 hi hj hev
 ·cases ho
theorem ev_index {n : Nat} {call : CallFn} (hR : Rel P Ξ B S G st N a w) {lop : LOp} (ho : lowOp P I o.op = some lop) (hev : eval n call 0 d (st.cnt 0 d) st.en (St.get st.fr) lop = some r)
  (h : ∃ t x y,o.op = .index t x y) : OpOk P Ξ B S st N a w o d r := by
 obtain ⟨t,x,i,hop⟩ := h
 rw [hop] at ho
 simp only [lowOp] at ho
 split at ho
 ·rename_i ht
  simp only [Option.bind_eq_bind,Option.bind_eq_some_iff,Option.pure_def,Option.some.injEq] at ho
  obtain ⟨x',h1,i',h2,rfl⟩ := ho
  simp only [eval] at hev
  split at hev
  case h_2 => cases hev
  rename_i s k j hX hi
  split at hev
  case isFalse => cases hev
  rename_i hj
  obtain ⟨b,hb,rfl⟩ := Option.map_eq_some_iff.1 hev
  exact op_ixs hR hop ht h1 h2 hi hX hj hb
 ·rename_i m e ht
  split at ho
  ·cases ho
  rename_i he
  have he : (P.underlying e).isSome = true := eq_true_of_ne_false he
  simp only [Option.bind_eq_bind,Option.bind_eq_some_iff,Option.pure_def,Option.some.injEq] at ho
  obtain ⟨x',h1,i',h2,rfl⟩ := ho
  simp only [eval] at hev
  split at hev
  case h_2 => cases hev
  rename_i cs k j hX hi
  split at hev
  case isFalse => cases hev
  rename_i hj
  obtain ⟨v,hv,rfl⟩ := Option.map_eq_some_iff.1 hev
  exact op_ixa hR hop ht he h1 h2 hi hX hj hv
 ·cases ho
theorem ev_store {n : Nat} {call : CallFn} (hR : Rel P Ξ B S G st N a w) {lop : LOp} (ho : lowOp P I o.op = some lop) (hev : eval n call 0 d (st.cnt 0 d) st.en (St.get st.fr) lop = some r)
  (h : ∃ t x y,o.op = .store t x y) : OpOk P Ξ B S st N a w o d r := by
 obtain ⟨t,x,y,hop⟩ := h
 rw [hop] at ho
 simp only [lowOp] at ho
 split at ho
 case isFalse => cases ho
 rename_i hi
 simp only [Option.bind_eq_bind,Option.bind_eq_some_iff,Option.pure_def,Option.some.injEq] at ho
 obtain ⟨x',h1,y',h2,rfl⟩ := ho
 simp only [eval] at hev
 split at hev
 case isFalse => cases hev
 rename_i hc
 split at hev
 ·rename_i k off hX
  split at hev
  case h_2 => cases hev
  rename_i cs hen
  split at hev
  case isFalse => cases hev
  rename_i hl
  simp only [Option.some.injEq] at hev; subst hev
  exact op_store_box hR hop hi h1 h2 hc.1 hc.2 hX hen hl
 ·rename_i k i off hX
  split at hev
  case h_2 => cases hev
  rename_i sz xs hen
  split at hev
  case h_2 => cases hev
  rename_i Y hY
  split at hev
  case isFalse => cases hev
  rename_i hl
  split at hev
  ·rename_i hd
   simp only [Option.some.injEq] at hev; subst hev
   exact op_store_deep hR hop hi h1 h2 hX hen hY hl hd hc.1 hc.2
  split at hev
  case h_2 => cases hev
  rename_i v' ks hs
  split at hev
  case isFalse => cases hev
  rename_i hk
  simp only [Option.some.injEq] at hev; subst hev
  refine op_store_elem hR hop hi h1 h2 hX hen hY hl hs hk.1 hk.2.1 fun hm => ?_
  have := List.all_eq_true.1 hk.2.2 k hm
  simp at this
 ·cases hev
theorem ev_call {n : Nat} {call : CallFn} (hcall : CallOk P call) (hR : Rel P Ξ B S G st N a w) {lop : LOp} (ho : lowOp P I o.op = some lop) (hev : eval n call 0 d (st.cnt 0 d) st.en (St.get st.fr) lop = some r)
  (hme : lop.me 0 = 0) (h : ∃ c,o.op = .call c) : OpOk P Ξ B S st N a w o d r := by
 obtain ⟨c,hop⟩ := h
 rw [hop] at ho
 simp only [lowOp] at ho
 split at ho
 ·rename_i F hc
  split at ho
  ·simp only [Option.bind_eq_bind,Option.bind_eq_some_iff,Option.pure_def,Option.some.injEq] at ho
   obtain ⟨x',h1,ys,h2,rfl⟩ := ho
   simp [eval] at hev
  simp only [Option.bind_eq_bind,Option.bind_eq_some_iff,Option.pure_def,Option.some.injEq] at ho
  obtain ⟨x',h1,ys,h2,rfl⟩ := ho
  simp only [eval] at hev
  split at hev
  case h_2 => cases hev
  rename_i f A Z hf
  split at hev
  case h_2 => cases hev
  rename_i rs hs
  split at hev
  case h_2 => cases hev
  rename_i v hv
  simp only [Option.some.injEq] at hev; subst hev
  exact op_call hR hcall hop hc h1 h2 hf hs hv
 ·rename_i t name hc
  simp only [Option.bind_eq_bind,Option.bind_eq_some_iff,Option.pure_def,Option.some.injEq] at ho
  obtain ⟨ys,h2,rfl⟩ := ho
  simp only [eval] at hev
  split at hev
  case h_2 => cases hev
  rename_i f A Z hf
  split at hev
  case h_2 => cases hev
  rename_i rs hs
  split at hev
  case h_2 => cases hev
  rename_i v hv
  simp only [Option.some.injEq] at hev; subst hev
  exact op_inv hR hcall hop hc h2 hf hs hv
 ·rename_i hc
  obtain ⟨cal,args,ts⟩ := c
  simp only at hc ho; subst hc
  split at ho
  case h_2 => cases ho
  rename_i x hx
  have := list1 hx; subst this
  split at ho
  ·rename_i e ht
   obtain ⟨t,ht0,ht1⟩ := Option.bind_eq_some_iff.1 ht
   obtain ⟨x',h1,rfl⟩ := Option.map_eq_some_iff.1 ho
   simp only [eval] at hev
   obtain ⟨m,hm,rfl⟩ := Option.map_eq_some_iff.1 hev
   simp only [Option.bind_eq_bind,Option.bind_eq_some_iff,Option.pure_def,Option.some.injEq] at hm
   obtain ⟨m',hm,rfl⟩ := hm
   exact op_len_slice hR hop ht0 ht1 h1 hm
  ·rename_i ht
   obtain ⟨t,ht0,ht1⟩ := Option.bind_eq_some_iff.1 ht
   obtain ⟨x',h1,rfl⟩ := Option.map_eq_some_iff.1 ho
   simp only [eval] at hev
   split at hev
   case h_2 => cases hev
   rename_i s hs
   simp only [Option.some.injEq] at hev; subst hev
   exact op_len_str hR hop ht0 ht1 h1 hs
  ·rename_i ht
   obtain ⟨t,ht0,ht1⟩ := Option.bind_eq_some_iff.1 ht
   obtain ⟨x',h1,rfl⟩ := Option.map_eq_some_iff.1 ho
   exact op_len_map hR hop ht0 ht1 h1 hev
  ·cases ho
 ·rename_i hc
  obtain ⟨cal,args,ts⟩ := c
  simp only at hc ho; subst hc
  split at ho
  case h_2 => cases ho
  rename_i t t' x y hts hargs
  have := list2 hts; subst this
  have := list2 hargs; subst this
  split at ho
  case h_2 => cases ho
  rename_i e ht
  split at ho
  case isFalse =>
   obtain ⟨z,x',y',kn,htn,hz,h1,h2,hzl,hpos,hby,rfl⟩ := lowZ_some ho
   simp only [eval] at hev
   split at hev
   case h_2 => cases hev
   rename_i k m hx hy
   split at hev
   case isFalse => cases hev
   rename_i hm
   simp only [Option.some.injEq] at hev; subst hev
   exact op_appendZ hR hop ht htn hz hzl hpos hby h1 h2 hx hy hm
  rename_i hcond
  obtain ⟨rfl,hz,hby⟩ := hcond
  simp only [Option.bind_eq_bind,Option.bind_eq_some_iff,Option.pure_def,Option.some.injEq] at ho
  obtain ⟨x',h1,y',h2,rfl⟩ := ho
  by_cases hI : I (.const (.bool true)) = true
  ·rw [if_pos hI] at hme; simp [LOp.me] at hme
  ·rw [if_neg hI] at hev; exact op_append hR hop ht hz hby h1 h2 hev
 ·rename_i hc
  obtain ⟨cal,args,ts⟩ := c
  simp only at hc ho; subst hc
  split at ho
  case h_2 => cases ho
  rename_i x hx
  have := list1 hx; subst this
  split at ho
  case h_2 => cases ho
  rename_i e ht
  obtain ⟨t,ht0,ht1⟩ := Option.bind_eq_some_iff.1 ht
  obtain ⟨x',h1,rfl⟩ := Option.map_eq_some_iff.1 ho
  simp only [eval] at hev
  split at hev
  case h_2 => cases hev
  rename_i xs hl
  simp only [Option.some.injEq] at hev; subst hev
  exact op_cap hR hop ht0 ht1 h1 hl
 ·rename_i hc
  obtain ⟨cal,args,ts⟩ := c
  simp only at hc ho; subst hc
  split at ho
  case h_2 => cases ho
  rename_i t t' x y hts hx
  have := list2 hx; subst this
  have := list2 hts; subst this
  split at ho
  case h_2 => cases ho
  rename_i e ht
  split at ho
  case isFalse => cases ho
  rename_i hi
  simp only [Option.bind_eq_bind,Option.bind_eq_some_iff,Option.pure_def,Option.some.injEq] at ho
  obtain ⟨x',h1,y',h2,rfl⟩ := ho
  exact op_copy hR hop ht hi.1 hi.2 h1 h2 hev
 ·rename_i hc
  obtain ⟨cal,args,ts⟩ := c
  simp only at hc ho; subst hc
  split at ho
  case h_2 => cases ho
  rename_i t x hts hx
  have := list1 hx; subst this
  have := list1 hts; subst this
  split at ho
  case h_2 => cases ho
  rename_i e ht
  simp only [Option.bind_eq_bind,Option.bind_eq_some_iff] at ho
  obtain ⟨z,hz,ho⟩ := ho
  split at ho
  case isFalse => cases ho
  rename_i hi
  simp only [Option.bind_eq_some_iff,Option.pure_def,Option.some.injEq] at ho
  obtain ⟨x',h1,rfl⟩ := ho
  exact op_clr hR hop ht hz hi.1 hi.2 h1 hev
 all_goals first
  |(cases ho; done)
  |(rename_i hc
    obtain ⟨cal,args,ts⟩ := c
    simp only at hc ho; subst hc
    obtain ⟨xs,h1,rfl⟩ := Option.map_eq_some_iff.1 ho
    simp only [eval] at hev
    split at hev
    case h_2 => cases hev
    rename_i j m k n hx
    split at hev
    case isFalse => cases hev
    rename_i hjk
    subst hjk
    simp only [Option.some.injEq] at hev; subst hev
    rcases xs with _ | ⟨x',_ | ⟨y',_ | ⟨z',xs⟩⟩⟩
    ·simp at hx
    ·simp at hx
    ·simp only [List.map_cons,List.map_nil,List.cons.injEq,and_true] at hx
     obtain ⟨l1,l2⟩ := mapO_some h1
     rcases hargs : args.toList with _ | ⟨x,_ | ⟨y,_ | ⟨z,as⟩⟩⟩ <;> rw [hargs] at l1 l2
     ·simp at l1
     ·simp at l1
     ·have := list2 hargs; subst this
      have e1 := l2 0 (by simp) (by simp)
      have e2 := l2 1 (by simp) (by simp)
      first
       | exact op_minmax (mx := true) hR hop e1 e2 hx.1 hx.2
       | exact op_minmax (mx := false) hR hop e1 e2 hx.1 hx.2
     ·simp at l1
    ·simp at hx)
end
end Go.Abs
namespace Go.Abs
open Go.RowKit (Below)
variable [Inhabited Glob]
section
variable {P : Program} {Ξ : Env} {B : Nat} {S : Nat → Nat → Prop} {G : Gh} {st : St} {N : Nat} {a : Act} {w : World} {o : Oper} {d : Nat} {r : Res} {I : Operand → Bool}
theorem eval_sound {n : Nat} {call : CallFn} (hcall : CallOk P call) (hR : Rel P Ξ B S G st N a w) {lop : LOp} (ho : lowOp P I o.op = some lop) (hev : eval n call 0 d (st.cnt 0 d) st.en (St.get st.fr) lop = some r) (hme : lop.me 0 = 0) : OpOk P Ξ B S st N a w o d r := by
 have ho' := ho
 have hev' := hev
 cases hop : o.op <;> rw [hop] at ho
 case panic x =>
  obtain ⟨x',h1,rfl⟩ := Option.map_eq_some_iff.1 ho
  simp [eval] at hev
 case indexAddr t x y => exact ev_sliceI hR ho' hev' ⟨_,_,_,hop⟩
 case index t x y => exact ev_index hR ho' hev' ⟨_,_,_,hop⟩
 case store t x y => exact ev_store hR ho' hev' ⟨_,_,_,hop⟩
 case call c => exact ev_call hcall hR ho' hev' hme ⟨_,hop⟩
 case move x =>
  obtain ⟨x',h1,rfl⟩ := Option.map_eq_some_iff.1 ho
  simp only [eval,Option.some.injEq] at hev; subst hev
  exact op_mv hR (.inl hop) h1
 case assign x =>
  obtain ⟨x',h1,rfl⟩ := Option.map_eq_some_iff.1 ho
  simp only [eval,Option.some.injEq] at hev; subst hev
  exact op_mv hR (.inr hop) h1
 case pick c x y =>
  simp only [lowOp,Option.bind_eq_bind,Option.bind_eq_some_iff,Option.pure_def,Option.some.injEq] at ho
  obtain ⟨c',h1,x',h2,y',h3,rfl⟩ := ho
  simp only [eval] at hev
  split at hev
  case h_2 => cases hev
  rename_i b hb
  simp only [Option.some.injEq] at hev; subst hev
  exact op_pick hR hop h1 h2 h3 hb
 case alloc t =>
  simp only [lowOp,Option.bind_eq_bind,Option.bind_eq_some_iff,Option.pure_def,Option.some.injEq] at ho
  obtain ⟨z,h1,rfl⟩ := ho
  simp only [eval,Option.some.injEq] at hev; subst hev
  exact op_alloc hR hop h1
 case box t x =>
  simp only [lowOp,Option.bind_eq_bind,Option.bind_eq_some_iff,Option.pure_def,Option.some.injEq] at ho
  obtain ⟨x',h1,rfl⟩ := ho
  simp only [eval] at hev
  split at hev
  case isFalse => cases hev
  rename_i hc
  simp only [Option.some.injEq] at hev; subst hev
  exact op_box hR hop h1 hc.1
 case build t parts =>
  simp only [lowOp] at ho
  split at ho
  ·rename_i fs ht
   split at ho
   case isFalse => cases ho
   rename_i hfs
   simp only [Option.bind_eq_bind,Option.bind_eq_some_iff,Option.some.injEq] at ho
   obtain ⟨z,hz,ps,hp,hx⟩ := ho
   simp only [Option.pure_def,Option.some.injEq] at hx
   subst hx
   simp only [eval] at hev
   obtain ⟨cs,hcs,rfl⟩ := Option.map_eq_some_iff.1 hev
   exact op_build_struct hR hop ht hfs hz hp hcs
  ·rename_i m e ht
   split at ho
   case isFalse => cases ho
   rename_i he
   simp only [Option.bind_eq_bind,Option.bind_eq_some_iff,Option.some.injEq] at ho
   obtain ⟨z,hz,ps,hp,hx⟩ := ho
   simp only [Option.pure_def,Option.some.injEq] at hx
   subst hx
   simp only [eval] at hev
   obtain ⟨cs,hcs,rfl⟩ := Option.map_eq_some_iff.1 hev
   exact op_build_array hR hop ht he hz hp hcs
  ·cases ho
 case buildSlice t len parts =>
  simp only [lowOp] at ho
  split at ho
  case h_2 => cases ho
  rename_i e ht
  simp only [Option.bind_eq_bind,Option.bind_eq_some_iff] at ho
  obtain ⟨z,hz,ho⟩ := ho
  split at ho
  case isFalse => cases ho
  rename_i hzl
  simp only [Option.bind_eq_some_iff] at ho
  obtain ⟨qs,hp,hx⟩ := ho
  simp only [Option.pure_def,Option.some.injEq] at hx
  subst hx
  by_cases hI : I (.const (.bool true)) = true
  ·rw [if_pos hI] at hev
   simp only [eval] at hev
   split at hev
   case isFalse => cases hev
   rename_i hl
   split at hev
   case h_2 => cases hev
   rename_i ps hs
   split at hev
   case h_2 => cases hev
   rename_i xs hf
   simp only [Option.some.injEq] at hev; subst hev
   exact op_bsliceF (F := id) (fun h => h) hR hop ht hz hzl hp hl hs hf
  rw [if_neg hI] at hev
  by_cases hI2 : I (.const (.bool false)) = true
  ·rw [if_pos hI2] at hev
   simp only [eval] at hev
   split at hev
   case isFalse => cases hev
   rename_i hl
   split at hev
   case h_2 => cases hev
   rename_i ps hs
   split at hev
   case h_2 => cases hev
   rename_i xs hf
   simp only [Option.some.injEq] at hev; subst hev
   exact op_bsliceO hR hop ht hz hzl hp hl hs hf
  rw [if_neg hI2] at hev
  simp only [eval] at hev
  split at hev
  case isFalse => cases hev
  rename_i hl
  split at hev
  case h_2 => cases hev
  rename_i ps hs
  split at hev
  case h_2 => cases hev
  rename_i xs hf
  simp only [Option.some.injEq] at hev; subst hev
  exact op_bsliceF (F := Val.wk1) VR.wk1 hR hop ht hz hzl hp hl hs hf
 case load t x =>
  simp only [lowOp] at ho
  split at ho
  case isFalse => cases ho
  rename_i hu
  obtain ⟨x',h1,rfl⟩ := Option.map_eq_some_iff.1 ho
  simp only [eval] at hev
  split at hev
  case h_2 => cases hev
  rename_i cs rs hr
  obtain ⟨v,hv,rfl⟩ := Option.map_eq_some_iff.1 hev
  exact op_load hR hop hu h1 hr hv
 case nilCheck x =>
  obtain ⟨x',h1,rfl⟩ := Option.map_eq_some_iff.1 ho
  simp only [eval] at hev
  obtain ⟨v,rfl⟩ : ∃ v,r = { v := v } := by
   revert hev; split <;> simp only [Option.some.injEq,reduceCtorEq,false_implies] <;> (rintro rfl; exact ⟨_,rfl⟩)
  exact op_nilck hR hop h1 hev
 case binOp op t x y ty =>
  simp only [lowOp,Option.bind_eq_bind,Option.bind_eq_some_iff] at ho
  obtain ⟨e,ht,ho⟩ := ho
  split at ho
  ·rename_i he
   subst he
   split at ho
   ·simp only [Option.bind_eq_some_iff,Option.pure_def,Option.some.injEq] at ho
    obtain ⟨x',h1,rfl⟩ := ho
    simp only [eval] at hev
    obtain ⟨v,hv,rfl⟩ := Option.map_eq_some_iff.1 hev
    exact op_bin_nil hR hop ht h1 hv
   ·cases ho
  ·split at ho
   ·cases ho
   rename_i hif
   simp only [Option.bind_eq_some_iff,Option.pure_def,Option.some.injEq] at ho
   obtain ⟨x',h1,y',h2,rfl⟩ := ho
   simp only [eval] at hev
   obtain ⟨v,hv,rfl⟩ := Option.map_eq_some_iff.1 hev
   exact op_bin hR hop ht (fun he => by cases hx : constly x <;> cases hy : constly y <;> simp [he,hx,hy] at hif ⊢) h1 h2 hv
 case unOp op t x =>
  obtain ⟨x',h1,rfl⟩ := Option.map_eq_some_iff.1 ho
  simp only [eval] at hev
  obtain ⟨v,rfl⟩ : ∃ v,r = { v := v } := by
   revert hev; split <;> simp only [Option.some.injEq,reduceCtorEq,false_implies] <;> (rintro rfl; exact ⟨_,rfl⟩)
  exact op_un hR hop h1 (by rw [← hev]; cases op <;> cases St.get st.fr x' <;> rfl)
 case convert s t x =>
  simp only [lowOp] at ho
  split at ho
  ·rename_i j k hs ht
   obtain ⟨x',h1,rfl⟩ := Option.map_eq_some_iff.1 ho
   simp only [eval] at hev
   split at hev
   case h_2 => cases hev
   rename_i j m hx
   simp only [Option.some.injEq] at hev; subst hev
   exact op_wrap hR hop hs ht h1 hx
  ·rename_i e hs ht
   split at ho
   case isFalse => cases ho
   rename_i he
   obtain ⟨x',h1,rfl⟩ := Option.map_eq_some_iff.1 ho
   exact op_s2b hR hop hs (u8_of he) ht h1 hev
  ·rename_i e hs ht
   split at ho
   case isFalse => cases ho
   rename_i he
   obtain ⟨x',h1,rfl⟩ := Option.map_eq_some_iff.1 ho
   exact op_b2s hR hop hs (u8_of he) ht h1 hev
  ·cases ho
 case makeInterface t x =>
  simp only [lowOp] at ho
  split at ho
  ·cases ho
  ·cases ho
  ·rename_i h1 h2
   obtain ⟨x',h3,rfl⟩ := Option.map_eq_some_iff.1 ho
   simp only [eval] at hev
   split at hev
   case isFalse => cases hev
   simp only [Option.some.injEq] at hev; subst hev
   exact op_iface hR hop h1 h2 h3
 case makeFunc f x y =>
  cases f <;> simp only [lowOp,reduceCtorEq,Option.bind_eq_bind,Option.bind_eq_some_iff,Option.pure_def,Option.some.injEq] at ho
  obtain ⟨x',h1,y',h2,rfl⟩ := ho
  simp only [eval,Option.some.injEq] at hev; subst hev
  exact op_mkfn hR hop h1 h2
 case makeSlice t x y =>
  simp only [lowOp] at ho
  split at ho
  case h_2 => cases ho
  rename_i e ht
  simp only [Option.bind_eq_bind,Option.bind_eq_some_iff] at ho
  obtain ⟨z,hz,ho⟩ := ho
  split at ho
  case isFalse => cases ho
  rename_i hzl
  simp only [Option.bind_eq_some_iff,Option.pure_def,Option.some.injEq] at ho
  obtain ⟨x',h1,y',h2,rfl⟩ := ho
  simp only [eval] at hev
  split at hev
  case h_2 => cases hev
  rename_i m k hx hy
  split at hev
  case isFalse => cases hev
  rename_i hc
  simp only [Option.some.injEq] at hev; subst hev
  obtain ⟨rfl,hm⟩ := hc
  exact op_mklen hR hop ht hz hzl.1 hzl.2 h1 h2 hx hy (by simpa [small] using hm)
 case slice t x lo hi mx =>
  simp only [lowOp] at ho
  split at ho
  ·rename_i e ht
   split at ho
   ·cases ho
   rename_i he
   simp only [Option.bind_eq_bind,Option.bind_eq_some_iff,Option.pure_def,Option.some.injEq] at ho
   obtain ⟨x',h1,lo',h2,hi',h3,mx',h4,rfl⟩ := ho
   exact op_slice hR hop ht (eq_true_of_ne_false he) h1 h2 h3 h4 hev
  ·rename_i ht
   split at ho
   ·cases ho
   rename_i hmx
   simp only [Option.bind_eq_bind,Option.bind_eq_some_iff,Option.pure_def,Option.some.injEq] at ho
   obtain ⟨x',h1,lo',h2,hi',h3,rfl⟩ := ho
   have : mx = none := by cases mx <;> simp at hmx ⊢
   subst this
   exact op_slice_str hR hop ht h1 h2 h3 hev
  ·rename_i n e ht
   split at ho
   ·cases ho
   rename_i hc
   simp only [not_or,Bool.not_eq_true,ne_eq,Decidable.not_not] at hc
   simp only [Option.bind_eq_bind,Option.bind_eq_some_iff,Option.pure_def,Option.some.injEq] at ho
   obtain ⟨x',h1,lo',h2,hi',h3,rfl⟩ := ho
   have : mx = none := by cases mx <;> simp at hc ⊢
   subst this
   exact op_sla hR hop ht (eq_true_of_ne_false hc.2) h1 h2 h3 hev
  ·cases ho
 case range t x =>
  simp only [lowOp] at ho
  split at ho
  case h_2 => cases ho
  rename_i ht
  obtain ⟨x',h1,rfl⟩ := Option.map_eq_some_iff.1 ho
  simp only [eval] at hev
  split at hev
  case h_2 => cases hev
  rename_i s hs
  simp only [Option.some.injEq] at hev; subst hev
  exact op_rng hR hop ht h1 hs
 case next x b =>
  cases b with
  | false => simp [lowOp] at ho
  | true =>
   simp only [lowOp] at ho
   obtain ⟨x',h1,rfl⟩ := Option.map_eq_some_iff.1 ho
   exact op_nxt hR hop h1 hev
 case makeMap t q =>
  cases q with
  | some _ => simp [lowOp] at ho
  | none =>
   simp only [lowOp,Option.some.injEq] at ho; subst ho
   simp only [eval,Option.some.injEq] at hev; subst hev
   exact op_mkmap hR hop
 case lookup t x y ok =>
  simp only [lowOp] at ho
  split at ho
  case h_2 => cases ho
  rename_i kt et ht
  simp only [Option.bind_eq_bind,Option.bind_eq_some_iff,Option.pure_def,Option.some.injEq] at ho
  obtain ⟨e,hK,z,hz,x',h1,y',h2,rfl⟩ := ho
  exact op_mget hR hop ht hK hz h1 h2 hev
 case mapUpdate t x y v =>
  simp only [lowOp] at ho
  split at ho
  case h_2 => cases ho
  rename_i kt et ht
  simp only [Option.bind_eq_bind,Option.bind_eq_some_iff,Option.pure_def,Option.some.injEq] at ho
  obtain ⟨e,hK,x',h1,y',h2,v',h3,rfl⟩ := ho
  exact op_mput hR (.inl hop) ht hK h1 h2 h3 hev
 case insert t x y v =>
  simp only [lowOp] at ho
  split at ho
  case h_2 => cases ho
  rename_i kt et ht
  simp only [Option.bind_eq_bind,Option.bind_eq_some_iff,Option.pure_def,Option.some.injEq] at ho
  obtain ⟨e,hK,x',h1,y',h2,v',h3,rfl⟩ := ho
  exact op_mput hR (.inr hop) ht hK h1 h2 h3 hev
 case fieldAddr s x i =>
  simp only [lowOp] at ho
  split at ho
  case h_2 => cases ho
  rename_i fs hs
  simp only [Option.bind_eq_bind,Option.bind_eq_some_iff] at ho
  obtain ⟨f,hf,ho⟩ := ho
  split at ho
  ·cases ho
  rename_i hz
  simp only [Option.bind_eq_some_iff,Option.pure_def,Option.some.injEq] at ho
  obtain ⟨x',h1,rfl⟩ := ho
  simp only [eval] at hev
  obtain ⟨v,rfl⟩ : ∃ v,r = { v := v } := by
   revert hev; split <;> simp only [Option.some.injEq,reduceCtorEq,false_implies] <;> (rintro rfl; exact ⟨_,rfl⟩)
  exact op_fa hR hop hs hf hz h1 hev
 case field s x i =>
  simp only [lowOp] at ho
  split at ho
  case h_2 => cases ho
  rename_i fs hs
  simp only [Option.bind_eq_bind,Option.bind_eq_some_iff] at ho
  obtain ⟨f,hf,ho⟩ := ho
  split at ho
  case isFalse => cases ho
  rename_i hu
  simp only [Option.bind_eq_some_iff,Option.pure_def,Option.some.injEq] at ho
  obtain ⟨x',h1,rfl⟩ := ho
  simp only [eval] at hev
  split at hev
  case h_2 => cases hev
  rename_i cs hg
  split at hev
  case isFalse => cases hev
  rename_i hl
  obtain ⟨v,hv,rfl⟩ := Option.map_eq_some_iff.1 hev
  exact op_fld hR hop hs hf hu h1 hg hl hv
 case extract x i =>
  obtain ⟨x',h1,rfl⟩ := Option.map_eq_some_iff.1 ho
  simp only [eval] at hev
  split at hev
  case h_2 => cases hev
  rename_i vs hg
  obtain ⟨v,hv,rfl⟩ := Option.map_eq_some_iff.1 hev
  exact op_ext hR hop h1 hg hv
 case typeAssert x xt t ok =>
  simp only [lowOp] at ho
  split at ho
  ·cases ho
  ·cases ho
  ·rename_i h1 h2
   simp only [Option.bind_eq_bind,Option.bind_eq_some_iff,Option.pure_def,Option.some.injEq] at ho
   obtain ⟨z,hz,x',h3,rfl⟩ := ho
   simp only [eval] at hev
   obtain ⟨v,rfl⟩ : ∃ v,r = { v := v } := by
    revert hev
    split
    ·split
     ·simp only [Option.some.injEq]; rintro rfl; exact ⟨_,rfl⟩
     ·split
      ·simp only [Option.some.injEq]; rintro rfl; exact ⟨_,rfl⟩
      ·intro h; cases h
    ·split
     ·simp only [Option.some.injEq]; rintro rfl; exact ⟨_,rfl⟩
     ·intro h; cases h
    ·intro h; cases h
   exact op_assert hR hop (Option.isSome_iff_ne_none.2 h2) h1 hz h3 hev
 all_goals (simp [lowOp] at ho)
theorem lowOp_appendD {op : Op} {sz : Nat} {x y : Opd} (h : lowOp P I op = some (.appendD sz x y)) : ∃ t e X Y,op = .call { callee := .builtin .append,args := #[X,Y],argTypes := #[t,t] } ∧ P.underlying t = some (.slice e) ∧
  (lowZero P e).map List.length = some (P.cellsOf e) ∧ P.bytesOf e ≤ 1048576 ∧ sz = P.cellsOf e ∧ lowOpd X = some x ∧ lowOpd Y = some y := by
 cases op
 case call c =>
  simp only [lowOp] at h
  obtain ⟨cal,args,ts⟩ := c
  cases cal with
  | builtin b =>
   cases b <;> simp only at h <;> first
    |(cases h; done)
    | skip
   case append =>
    split at h
    case h_2 => cases h
    rename_i t t' X Y hts hargs
    have := list2 hts; subst this
    have := list2 hargs; subst this
    split at h
    case h_2 => cases h
    rename_i e ht
    split at h
    case isFalse =>
     obtain ⟨_,_,_,_,_,_,_,_,_,_,_,h⟩ := lowZ_some h
     cases h
    rename_i hcond
    obtain ⟨rfl,hz,hby⟩ := hcond
    simp only [Option.bind_eq_bind,Option.bind_eq_some_iff,Option.pure_def,Option.some.injEq] at h
    obtain ⟨x',h1,y',h2,h⟩ := h
    split at h
    ·simp only [LOp.appendD.injEq] at h
     obtain ⟨rfl,rfl,rfl⟩ := h
     exact ⟨_,e,_,_,rfl,ht,hz,hby,rfl,h1,h2⟩
    ·cases h
   all_goals (exfalso; (repeat' split at h) <;> first | contradiction | (simp [Option.bind_eq_some_iff,Option.map_eq_some_iff] at h; done) | (have := lowZ_some h; simp at this))
  | _ => exfalso; simp only at h; (repeat' split at h) <;> first | contradiction | (simp [Option.bind_eq_some_iff,Option.map_eq_some_iff] at h; done) | (have := lowZ_some h; simp at this)
 case binOp op t x y ty =>
  exfalso
  simp only [lowOp,Option.bind_eq_bind,Option.bind_eq_some_iff] at h
  obtain ⟨e,_,h⟩ := h
  split at h
  ·split at h
   ·simp [Option.bind_eq_some_iff] at h
   ·cases h
  ·split at h <;> simp [Option.bind_eq_some_iff] at h
 case buildSlice t l ps =>
  exfalso
  simp only [lowOp] at h
  split at h
  ·simp only [Option.bind_eq_bind,Option.bind_eq_some_iff] at h
   obtain ⟨z,_,h⟩ := h
   split at h
   ·simp only [Option.bind_eq_some_iff,Option.pure_def,Option.some.injEq] at h
    obtain ⟨q,_,h⟩ := h
    (repeat' split at h) <;> cases h
   ·cases h
  ·cases h
 all_goals (exfalso; simp only [lowOp] at h; (repeat' split at h) <;> first | contradiction | (simp [Option.bind_eq_some_iff,Option.map_eq_some_iff] at h; done) | (have := lowZ_some h; simp at this))
theorem evalD_sound {n : Nat} {call : CallFn} (hR : Rel P Ξ B S G st N a w) {sz : Nat} {x y : Opd} (ho : lowOp P I o.op = some (.appendD sz x y)) (hev : eval n call 3 d (st.cnt 3 d) st.en (St.get st.fr) (.appendD sz x y) = some r) : OpOk P Ξ B S st N a w o d r 3 := by
 obtain ⟨t,e,X,Y,hop,ht,hz,hby,rfl,h1,h2⟩ := lowOp_appendD ho
 exact op_appendV hR hop ht hz hby h1 h2 hev
end
end Go.Abs
namespace Go.Abs
open Go.RowKit (Below)
variable [Inhabited Glob]
section
variable {P : Program} {Ξ : Env} {B : Nat} {S : Nat → Nat → Prop} {G : Gh} {st : St} {N : Nat} {a : Act} {w : World} {o : Oper}
theorem Rel.putO' (h : Rel P Ξ B S G st N a w) (dst : Option Nat) {v : Val} {x : Value} (hv : VR (Stab B S G w.heap.size) G w v x) :
  dst.all (· < N) = true → Rel P Ξ B S G { st with fr := putFr st.fr dst v } N (a.put dst x) w := by
 cases dst with
 | none => exact fun _ => h
 | some d => exact fun hd => h.put (by simpa using hd) hv
theorem wanted_sound (hR : Rel P Ξ B S G st N a w) {ops : Array Oper} {g : Option (Nat × Bool)} {b : Bool} (hg : guardTmp ops o.guard = some g) (hw : wanted st.fr g = some b) : Region.wanted o (yielded ops a.tmps) = b := by
 unfold Region.wanted
 cases ho : o.guard with
 | none =>
  rw [ho] at hg
  simp only [guardTmp,Option.some.injEq] at hg; subst hg
  simp only [wanted,Option.some.injEq] at hw; exact hw
 | some p =>
  obtain ⟨j,want⟩ := p
  rw [ho] at hg
  simp only [guardTmp] at hg
  split at hg
  case h_2 => cases hg
  rename_i t ht
  simp only [Option.some.injEq] at hg; subst hg
  simp only [wanted] at hw
  have hf := hR.frame t
  simp only [yielded,ht,Option.bind_some]
  split at hw
  ·rename_i b' hb
   simp only [Option.some.injEq] at hw; subst hw
   rw [hb] at hf
   have e : a.tmps.getD t undef = .bool b' := by
    generalize a.tmps.getD t undef = q at hf
    cases hf; rfl
   have : a.tmps[t]? = some (.bool b') := by
    rw [Array.getD_eq_getD_getElem?] at e
    cases h : a.tmps[t]? with
    | none => rw [h] at e; simp [undef] at e
    | some u => rw [h] at e; simp at e; rw [e]
   simp only [this]
   cases b' <;> cases want <;> rfl
  ·rename_i hb
   simp only [Option.some.injEq] at hw; subst hw
   rw [hb] at hf
   have e : ∀ b',a.tmps[t]? ≠ some (.bool b') := by
    intro b' h
    rw [Array.getD_eq_getD_getElem?,h] at hf
    simp only [Option.getD_some] at hf
    cases hf
   have : (match a.tmps[t]? with | some (.bool b) => some b | _ => none) = none := by
    cases h : a.tmps[t]? with
    | none => rfl
    | some u => cases u <;> first | rfl | exact absurd h (e _)
   simp only [this]
   rfl
  ·cases hw
def InlPost (P : Program) (Ξ : Env) (B : Nat) (S : Nat → Nat → Prop) (st st' : St) (N : Nat) (a : Act) (w : World) (v : Val) (e : Ending) (w' : World) : Prop :=
 ∃ x G',e = .returned x ∧ Rel P Ξ B S G' { fr := st.fr,en := st'.en,cnt := st'.cnt } N a w' ∧ VR (Stab B S G' w'.heap.size) G' w' v x ∧ Below B w w'
structure InlOk (P : Program) (io : Inl) : Prop where
 fn : ∀ f args v (st0 st' : St),io.fn f args st0 = some (v,st') → (∃ fn,P.funcs[f]? = some fn ∧ (fn.name == "runtime.NumGoroutine") = false ∧ fn.body.isNone = false) ∧
  ∀ (Ξ : Env) (B : Nat) (S : Nat → Nat → Prop) (G : Gh) (st : St) (N : Nat) (a : Act) (w : World) (vals : Array Value),Rel P Ξ B S G st N a w → st0.en = st.en → st0.cnt = st.cnt → vals.size = args.length →
   (∀ i,i < args.length → VR (Stab B S G w.heap.size) G w (args.getD i .dead) (vals.getD i undef)) → Calls P f vals w (InlPost P Ξ B S st st' N a w v)
 yld : ∀ k args v (st0 st' : St),io.yld k args st0 = some (v,st') →
  ∀ (Ξ : Env) (B : Nat) (S : Nat → Nat → Prop) (G : Gh) (st : St) (N : Nat) (a : Act) (w : World) (vals : Array Value) (l : Nat) (ro : Option Nat) (m : Nat),Rel P Ξ B S G st N a w → st0.en = st.en → st0.cnt = st.cnt → G.mp k = some l → vals.size = args.length →
   (∀ i,i < args.length → VR (Stab B S G w.heap.size) G w (args.getD i .dead) (vals.getD i undef)) →
   ∃ f tmps assign body,(Instr.yield l vals).run P w = .ok (.round l f tmps assign body) w ∧ RoundIn (Fx ro) m P l f tmps assign body w (InlPost P Ξ B S st st' N a w v)
theorem lowOp_icall {I : Operand → Bool} {op : Op} {f : Opd} {ys : List Opd} (h : lowOp P I op = some (.icall f ys)) : ∃ c F,op = .call c ∧ c.callee = .value F ∧ lowOpd F = some f ∧ lowOpds c.args.toList = some ys := by
 cases op
 case call c =>
  simp only [lowOp] at h
  split at h
  ·rename_i F hc
   split at h
   ·simp only [Option.bind_eq_bind,Option.bind_eq_some_iff,Option.pure_def,Option.some.injEq,LOp.icall.injEq] at h
    obtain ⟨x',h1,ys',h2,rfl,rfl⟩ := h
    exact ⟨c,F,rfl,hc,h1,h2⟩
   ·simp [Option.bind_eq_some_iff] at h
  all_goals (repeat' split at h) <;> first | (simp [Option.bind_eq_some_iff,Option.map_eq_some_iff] at h; done) | (have := lowZ_some h; simp at this)
 case binOp op t x y ty =>
  exfalso
  simp only [lowOp,Option.bind_eq_bind,Option.bind_eq_some_iff] at h
  obtain ⟨e,_,h⟩ := h
  split at h
  ·split at h
   ·simp [Option.bind_eq_some_iff] at h
   ·cases h
  ·split at h <;> simp [Option.bind_eq_some_iff] at h
 all_goals (exfalso; simp only [lowOp] at h; (repeat' split at h) <;> first | contradiction | (simp [Option.bind_eq_some_iff,Option.map_eq_some_iff] at h; done) | (have := lowZ_some h; simp at this))
theorem icall_sound {io : Inl} (hio : InlOk P io) (hR : Rel P Ξ B S G st N a w) {c : Call} {F : Operand} {x : Opd} {ys : List Opd} {v : Val} {st' : St} (ho : o.op = .call c) (hc : c.callee = .value F) (h1 : lowOpd F = some x) (h2 : lowOpds c.args.toList = some ys)
  (hev : io.call (St.get st.fr x) (ys.map (St.get st.fr)) { st with fr := fun _ => .dead } = some (v,st')) {ro : Option Nat} {m : Nat} {next : Act → World → Prop} {Q : Exit → Act → World → Prop}
  (k : ∀ x w' G',Rel P Ξ B S G' { fr := st.fr,en := st'.en,cnt := st'.cnt } N a w' → VR (Stab B S G' w'.heap.size) G' w' v x → Below B w w' → next (a.put o.dst x) w') : o.wpIn (Fx ro) m P a w next Q := by
 have hF := opd_sound hR h1
 obtain ⟨ly,vy⟩ := opds_sound hR h2
 have conv : ∀ i,i < ys.length → VR (Stab B S G w.heap.size) G w ((ys.map (St.get st.fr)).getD i .dead) ((c.args.map a.eval).getD i undef) := by
  intro i hi
  have := vy i hi
  have hi2 : i < c.args.size := by rw [ly] at hi; simpa using hi
  simpa [List.getD_eq_getElem?_getD,Array.getD_eq_getD_getElem?,hi,hi2] using this
 unfold Inl.call at hev
 split at hev
 ·rename_i f A Z hf
  rw [hf] at hF
  generalize hgF : a.eval F = uF at hF
  cases hF with
  | fn _ _ _ p q hp hq hvp hvq =>
  obtain ⟨⟨fn,hfn,hnm,hbody⟩,hcalls⟩ := hio.fn _ _ _ _ _ hev
  have hlen : (p ++ c.args.map a.eval ++ q).size = (A ++ ys.map (St.get st.fr) ++ Z).length := by simp [hp,hq,ly]
  have hvals : ∀ i,i < (A ++ ys.map (St.get st.fr) ++ Z).length → VR (Stab B S G w.heap.size) G w ((A ++ ys.map (St.get st.fr) ++ Z).getD i .dead) ((p ++ c.args.map a.eval ++ q).getD i undef) := by
   intro i hi
   simp only [List.getD_eq_getElem?_getD,Array.getD_eq_getD_getElem?,List.getElem?_append,Array.getElem?_append,List.length_append,Array.size_append,Array.size_map,List.length_map] at hi ⊢
   have e1 : p.size = A.length := hp
   have e2 : c.args.size = ys.length := by simp [ly]
   rw [e1,e2]
   split
   ·split
    ·rename_i h; have := hvp i h; simpa [List.getD_eq_getElem?_getD,Array.getD_eq_getD_getElem?] using this
    ·have := conv (i - A.length) (by omega)
     simpa [List.getD_eq_getElem?_getD,Array.getD_eq_getD_getElem?] using this
   ·have := hvq (i - (A.length + ys.length)) (by omega); simpa [List.getD_eq_getElem?_getD,Array.getD_eq_getD_getElem?] using this
  have hrun : (execOp a.eval o).run P w = .ok (.enter f (p ++ c.args.map a.eval ++ q)) w := by
   have hnm' : ¬ fn.name = "runtime.NumGoroutine" := by simpa using hnm
   have hbody' : ¬ fn.body = none := by intro h; rw [h] at hbody; cases hbody
   simp [execOp,ho,resolve,hc,hgF,Deferred.ofValue,invoke,callFunc,hfn,hnm',hbody']
  refine ⟨fun _ _ => trivial,?_⟩
  rw [semAt_of hrun (by simp),Oper.uponIn_enter]
  refine ⟨fun h => by simp [Fx,Fence.wide] at h,?_⟩
  refine callsIn_any (Calls.mono (hcalls Ξ B S G st N a w _ hR rfl rfl hlen hvals) ?_)
  rintro e w' ⟨x,G',rfl,hR',hv,hb⟩
  exact k x w' G' hR' hv hb
 ·rename_i key hf
  rw [hf] at hF
  generalize hgF : a.eval F = uF at hF
  cases hF with
  | yld _ l hl =>
  obtain ⟨f,tmps,as,bd,hy,hround⟩ := hio.yld _ _ _ _ _ hev Ξ B S G st N a w (c.args.map a.eval) l ro (m - 1) hR rfl rfl hl (by simp [ly]) (fun i hi => conv i (by simpa using hi))
  have hrun : (execOp a.eval o).run P w = .ok (.round l f tmps as bd) w := by
   simp [execOp,ho,resolve,hc,hgF,Deferred.ofValue,invoke,hy]
  refine ⟨fun _ _ => trivial,?_⟩
  rw [semAt_of hrun (by simp),Oper.uponIn_round]
  refine ⟨fun h => by simp [Fx,Fence.wide] at h,RoundIn.mono hround ?_⟩
  rintro e w' ⟨x,G',rfl,hR',hv,hb⟩
  exact k x w' G' hR' hv hb
 ·cases hev
theorem step_sound {n : Nat} {call : CallFn} {io : Inl} (hcall : CallOk P call) (hio : InlOk P io) (hR : Rel P Ξ B S G st N a w) {I : Operand → Bool} {ops : Array Oper} {lo : LOper} {st' : St} {r : Res} (hl : lowOper P I ops o = some lo) (hd : lo.dst.all (· < N) = true)
  (hs : step n call io 0 st lo = some (st',r)) {ro : Option Nat} {m : Nat} {next : Act → World → Prop} {Q : Exit → Act → World → Prop} (k : ∀ a' w' G',Rel P Ξ B S G' st' N a' w' → Below B w w' → next a' w') :
  if Region.wanted o (yielded ops a.tmps) = true then o.wpIn (Fx ro) m P a w next Q else (∀ f,o.about P w a.eval = some f → (Fx ro).fn f) ∧ next (a.put o.dst undef) w := by
 simp only [lowOper,Option.bind_eq_bind,Option.bind_eq_some_iff,Option.pure_def,Option.some.injEq] at hl
 obtain ⟨lop,hop,g,hg,rfl⟩ := hl
 simp only [step] at hs
 split at hs
 ·rename_i hw
  simp only [Option.some.injEq,Prod.mk.injEq] at hs
  obtain ⟨rfl,rfl⟩ := hs
  rw [wanted_sound hR hg hw,if_neg (by simp)]
  exact ⟨fun _ _ => trivial,k _ _ G (hR.putO' o.dst (v := .tup []) (x := undef) (.tup [] #[] rfl (fun i hi => by simp at hi)) hd) (Below.refl _ _)⟩
 ·rename_i hw
  rw [wanted_sound hR hg hw,if_pos rfl]
  split at hs
  ·rename_i f args
   split at hs
   case h_2 => cases hs
   rename_i v st1 hc
   simp only [Option.some.injEq,Prod.mk.injEq] at hs
   obtain ⟨rfl,rfl⟩ := hs
   obtain ⟨c,F,e1,e2,e3,e4⟩ := lowOp_icall hop
   exact icall_sound hio hR e1 e2 e3 e4 hc fun x w' G' h1 h2 h3 => k _ _ G' (h1.putO' o.dst h2 hd) h3
  ·split at hs
   case h_2 => cases hs
   rename_i r' hev
   split at hs
   ·cases hs
   simp only [Option.some.injEq,Prod.mk.injEq] at hs
   obtain ⟨rfl,rfl⟩ := hs
   by_cases hme : lop.me 0 = 0
   ·rw [hme] at hev k
    exact eval_sound hcall hR hop hev hme ro m next Q fun x w' G' h1 h2 h3 => k _ _ G' (h1.putO' o.dst h2 hd) h3
   ·cases lop with
    | appendD sz x y => exact evalD_sound hR hop hev ro m next Q fun x w' G' h1 h2 h3 => k _ _ G' (h1.putO' o.dst h2 hd) h3
    | _ => exact absurd rfl hme
 ·cases hs
end
end Go.Abs
namespace Go.Abs
inductive Shape where
 | box (n : Nat) (f : Bool)
 | blk (f : Bool)
 | map (f : Bool)
 | loop
 | iter
def Ent.shape : Ent → Shape
 | .box cs f => .box cs.length f
 | .blk _ _ f => .blk f
 | .map _ _ f => .map f
 | .loop .. => .loop
 | .iter .. => .iter
def Ent.win (off n : Nat) : Ent → Option (List Val)
 | .box cs _ => if off + n ≤ cs.length then some ((cs.drop off).take n) else none
 | _ => none
def Same (en en' : En) : R → Prop
 | .val k => (en k).map Ent.freeze = (en' k).map Ent.freeze
 | .cells k off n => (en k).map (Ent.win off n) = (en' k).map (Ent.win off n)
 | .flag k => (en k).map Ent.shape = (en' k).map Ent.shape
theorem Same.refl (en : En) (r : R) : Same en en r := by cases r <;> rfl
theorem Same.symm {en en' : En} {r : R} (h : Same en en' r) : Same en' en r := by cases r <;> exact Eq.symm h
theorem Same.trans {a b c : En} {r : R} (h : Same a b r) (k : Same b c r) : Same a c r := by cases r <;> exact Eq.trans h k
theorem Same.box {en en' : En} {k : Key} {cs : List Val} {f : Bool} (h : Same en en' (.val k)) (he : en k = some (.box cs f)) : ∃ f',en' k = some (.box cs f') := by
 simp only [Same,he,Option.map_some,Ent.freeze] at h
 cases h' : en' k with
 | none => rw [h'] at h; cases h
 | some e => rw [h'] at h; cases e <;> simp [Ent.freeze] at h; subst h; exact ⟨_,rfl⟩
theorem Same.blk {en en' : En} {k : Key} {sz : Nat} {xs : List Val} {f : Bool} (h : Same en en' (.val k)) (he : en k = some (.blk sz xs f)) : ∃ f',en' k = some (.blk sz xs f') := by
 simp only [Same,he,Option.map_some,Ent.freeze] at h
 cases h' : en' k with
 | none => rw [h'] at h; cases h
 | some e => rw [h'] at h; cases e <;> simp [Ent.freeze] at h; obtain ⟨rfl,rfl⟩ := h; exact ⟨_,rfl⟩
theorem Same.map {en en' : En} {k : Key} {ks vs : List Val} {f : Bool} (h : Same en en' (.val k)) (he : en k = some (.map ks vs f)) : ∃ f',en' k = some (.map ks vs f') := by
 simp only [Same,he,Option.map_some,Ent.freeze] at h
 cases h' : en' k with
 | none => rw [h'] at h; cases h
 | some e => rw [h'] at h; cases e <;> simp [Ent.freeze] at h; obtain ⟨rfl,rfl⟩ := h; exact ⟨_,rfl⟩
theorem Same.iter {en en' : En} {k : Key} {s : ByteArray} {pos : Nat} (h : Same en en' (.val k)) (he : en k = some (.iter s pos)) : en' k = some (.iter s pos) := by
 simp only [Same,he,Option.map_some,Ent.freeze] at h
 cases h' : en' k with
 | none => rw [h'] at h; cases h
 | some e => rw [h'] at h; cases e <;> simp [Ent.freeze] at h; obtain ⟨rfl,rfl⟩ := h; rfl
theorem Same.blkf {en en' : En} {k : Key} {sz : Nat} {xs : List Val} {f : Bool} (h : Same en en' (.val k)) (h2 : Same en en' (.flag k)) (he : en k = some (.blk sz xs f)) : en' k = some (.blk sz xs f) := by
 obtain ⟨f',h'⟩ := h.blk he
 simp only [Same,he,h',Option.map_some,Ent.shape,Option.some.injEq,Shape.blk.injEq] at h2
 subst h2; exact h'
theorem Same.mapf {en en' : En} {k : Key} {ks vs : List Val} {f : Bool} (h : Same en en' (.val k)) (h2 : Same en en' (.flag k)) (he : en k = some (.map ks vs f)) : en' k = some (.map ks vs f) := by
 obtain ⟨f',h'⟩ := h.map he
 simp only [Same,he,h',Option.map_some,Ent.shape,Option.some.injEq,Shape.map.injEq] at h2
 subst h2; exact h'
theorem Same.boxl {en en' : En} {k : Key} {cs : List Val} {f : Bool} (h2 : Same en en' (.flag k)) (he : en k = some (.box cs f)) : ∃ cs',en' k = some (.box cs' f) ∧ cs'.length = cs.length := by
 simp only [Same,he,Option.map_some,Ent.shape] at h2
 cases h' : en' k with
 | none => rw [h'] at h2; cases h2
 | some e => rw [h'] at h2; cases e <;> simp [Ent.shape] at h2; obtain ⟨h3,rfl⟩ := h2; exact ⟨_,rfl,h3.symm⟩
theorem Same.window {en en' : En} {k : Key} {cs : List Val} {f : Bool} {off n : Nat} (h : Same en en' (.cells k off n)) (he : en k = some (.box cs f)) (hl : off + n ≤ cs.length) :
  ∃ cs' f',en' k = some (.box cs' f') ∧ off + n ≤ cs'.length ∧ (cs'.drop off).take n = (cs.drop off).take n := by
 simp only [Same,he,Option.map_some,Ent.win,if_pos hl] at h
 cases h' : en' k with
 | none => rw [h'] at h; cases h
 | some e =>
  rw [h'] at h
  cases e <;> simp only [Option.map_some,Ent.win,Option.some.injEq,reduceCtorEq] at h
  split at h
  ·rename_i h3; simp only [Option.some.injEq] at h; exact ⟨_,_,rfl,h3,h.symm⟩
  ·cases h
theorem snap_frame {en en' : En} (n : Nat) : ∀ {v v' : Val} {ks : List Key},snap n en v = some (v',ks) → (∀ k ∈ ks,Same en en' (.val k)) → snap n en' v = some (v',ks) := by
 induction n with
 | zero => intro v v' ks h _; cases v <;> exact h
 | succ n ih =>
  have lst : ∀ (vs : List Val) (rs : List (Val × List Key)),mapO (snap n en) vs = some rs → (∀ k ∈ rs.flatMap (·.2),Same en en' (.val k)) → mapO (snap n en') vs = some rs := by
   intro vs
   induction vs with
   | nil => intro rs h _; exact h
   | cons v vs ihv =>
    intro rs h hk
    simp only [mapO] at h ⊢
    split at h
    case h_2 => cases h
    rename_i y hy
    split at h
    case h_2 => cases h
    rename_i ys hys
    simp only [Option.some.injEq] at h; subst h
    obtain ⟨y1,y2⟩ := y
    rw [ih hy fun k hk' => hk k (by simp [hk']),ihv ys hys fun k hk' => hk k (by simp only [List.flatMap_cons,List.mem_append]; exact .inr hk')]
  have lst2 : ∀ (vs : List Val) (f : List Val × List Key → Val × List Key) (r : Val × List Key),(∀ p k,k ∈ p.2 → k ∈ (f p).2) →
    ((mapO (snap n en) vs).map fun rs => (rs.map (·.1),rs.flatMap (·.2))).map f = some r → (∀ k ∈ r.2,Same en en' (.val k)) →
    ((mapO (snap n en') vs).map fun rs => (rs.map (·.1),rs.flatMap (·.2))).map f = some r := by
   intro vs f r hf h hk
   simp only [Option.map_map,Option.map_eq_some_iff,Function.comp] at h ⊢
   obtain ⟨rs,h1,rfl⟩ := h
   exact ⟨rs,lst vs rs h1 fun k hk' => hk k (hf _ k hk'),rfl⟩
  intro v v' ks h hk
  cases v with
  | ptr k off =>
   simp only [snap] at h ⊢
   split at h
   case h_2 => cases h
   rename_i cs f he
   have hk0 : k ∈ ks := by
    obtain ⟨rs,_,h2⟩ := Option.map_eq_some_iff.1 h
    simp only [Prod.mk.injEq] at h2; rw [← h2.2]; simp
   obtain ⟨f',he'⟩ := (hk k hk0).box he
   simp only [he']
   exact lst2 cs (fun r => (.fp r.1 off,k :: r.2)) (v',ks) (fun p q hq => List.mem_cons_of_mem _ hq) h hk
  | ep k i off =>
   simp only [snap] at h ⊢
   split at h
   case h_2 => cases h
   rename_i sz xs f he
   split at h
   ·cases h
   rename_i hd
   split at h
   case h_2 => cases h
   rename_i x hx
   simp only [Option.some.injEq,Prod.mk.injEq] at h
   obtain ⟨rfl,rfl⟩ := h
   obtain ⟨f',he'⟩ := (hk k (by simp)).blk he
   simp only [he',hx,if_neg hd]
  | bl k off len =>
   simp only [snap] at h ⊢
   split at h
   case h_2 => cases h
   rename_i sz xs f he
   split at h
   case isFalse => cases h
   rename_i hl
   split at h
   ·rename_i hd
    have hk0 : k ∈ ks := by
     obtain ⟨rs,_,h2⟩ := Option.map_eq_some_iff.1 h
     simp only [Prod.mk.injEq] at h2; rw [← h2.2]; simp
    obtain ⟨f',he'⟩ := (hk k hk0).blk he
    simp only [he',if_pos hl,if_pos hd]
    exact lst2 _ (fun r => (.fz (r.1.map Val.wk1),k :: r.2)) (v',ks) (fun p q hq => List.mem_cons_of_mem _ hq) h hk
   rename_i hd
   simp only [Option.some.injEq,Prod.mk.injEq] at h
   obtain ⟨rfl,rfl⟩ := h
   obtain ⟨f',he'⟩ := (hk k (by simp)).blk he
   simp only [he',if_pos hl,if_neg hd]
  | mp k =>
   simp only [snap] at h ⊢
   split at h
   case h_2 => cases h
   rename_i ks' vs f he
   simp only [Option.some.injEq,Prod.mk.injEq] at h
   obtain ⟨rfl,rfl⟩ := h
   obtain ⟨f',he'⟩ := (hk k (by simp)).map he
   simp only [he']
  | fn f a b =>
   simp only [snap] at h ⊢
   split at h
   case h_2 => cases h
   rename_i x y hx hy
   simp only [Option.some.injEq,Prod.mk.injEq] at h
   obtain ⟨rfl,rfl⟩ := h
   simp only [Option.map_eq_some_iff] at hx hy
   obtain ⟨r1,e1,rfl⟩ := hx
   obtain ⟨r2,e2,rfl⟩ := hy
   rw [lst a r1 e1 fun k hk' => hk k (List.mem_append.2 (.inl hk')),lst b r2 e2 fun k hk' => hk k (List.mem_append.2 (.inr hk'))]
   rfl
  | ifc t v =>
   simp only [snap] at h ⊢
   obtain ⟨⟨r1,r2⟩,e1,h2⟩ := Option.map_eq_some_iff.1 h
   simp only [Prod.mk.injEq] at h2
   obtain ⟨rfl,rfl⟩ := h2
   rw [ih e1 hk]; rfl
  | agg cs =>
   simp only [snap] at h ⊢
   exact lst2 cs (fun r => (.agg r.1,r.2)) (v',ks) (fun p q hq => hq) h hk
  | tup cs =>
   simp only [snap] at h ⊢
   exact lst2 cs (fun r => (.tup r.1,r.2)) (v',ks) (fun p q hq => hq) h hk
  | _ => exact h
theorem snaps_frame {en en' : En} {n : Nat} : ∀ {vs : List Val} {rs : List (Val × List Key)},mapO (fun x => snap n en x) vs = some rs → (∀ k ∈ rs.flatMap (·.2),Same en en' (.val k)) → mapO (fun x => snap n en' x) vs = some rs := by
 intro vs
 induction vs with
 | nil => intro rs h _; exact h
 | cons v vs ihv =>
  intro rs h hk
  simp only [mapO] at h ⊢
  split at h
  case h_2 => cases h
  rename_i y hy
  split at h
  case h_2 => cases h
  rename_i ys hys
  simp only [Option.some.injEq] at h; subst h
  obtain ⟨y1,y2⟩ := y
  rw [snap_frame n hy fun k hk' => hk k (by simp [hk']),ihv hys fun k hk' => hk k (by simp only [List.flatMap_cons,List.mem_append]; exact .inr hk')]
theorem readAt_frame {en en' : En} {a : Val} {n : Nat} {cs : List Val} {rs : List R} (h : readAt en a n = some (cs,rs)) (hk : ∀ ρ ∈ rs,Same en en' ρ) : readAt en' a n = some (cs,rs) := by
 unfold readAt at h ⊢
 split at h
 ·rename_i k off
  split at h
  case h_2 => cases h
  rename_i cs0 f he
  split at h
  case isFalse => cases h
  rename_i hl
  simp only [Option.some.injEq,Prod.mk.injEq] at h
  obtain ⟨rfl,rfl⟩ := h
  obtain ⟨cs',f',h1,h2,h3⟩ := (hk (.cells k off n) (by simp)).window he hl
  simp only [h1,if_pos h2,h3]
 ·rename_i k i off
  split at h
  case h_2 => cases h
  rename_i sz xs f he
  split at h
  case h_2 => cases h
  rename_i x hx
  split at h
  case isFalse => cases h
  rename_i hl
  simp only [Option.some.injEq,Prod.mk.injEq] at h
  obtain ⟨rfl,rfl⟩ := h
  obtain ⟨f',he'⟩ := (hk (.val k) (by simp)).blk he
  simp only [he',hx,if_pos hl]
 ·exact h
 ·cases h
theorem elemsOf_frame {en en' : En} {a : Val} {cs : List Val} {rs : List R} (h : elemsOf en a = some (cs,rs)) (hk : ∀ ρ ∈ rs,Same en en' ρ) : elemsOf en' a = some (cs,rs) := by
 unfold elemsOf at h ⊢
 split at h
 ·exact h
 ·exact h
 ·exact h
 ·rename_i k off len
  split at h
  case h_2 => cases h
  rename_i sz xs f he
  split at h
  case isFalse => cases h
  rename_i hl
  simp only [Option.some.injEq,Prod.mk.injEq] at h
  obtain ⟨rfl,rfl⟩ := h
  obtain ⟨f',he'⟩ := (hk (.val k) (by simp)).blk he
  simp only [he',if_pos hl]
 ·cases h
theorem callRes_rs {me d g : Nat} {v : Val} {ks : List Key} : (callRes me d g v ks).rs = ks.map .val := by cases v <;> rfl
theorem callRes_mem {me d g : Nat} {v : Val} {ks : List Key} : (callRes me d g v ks).mem = none := by cases v <;> rfl
theorem callRes_g {me d g : Nat} {v : Val} {ks : List Key} (h : (callRes me d g v ks).bump = false) (g' : Nat) : callRes me d g' v ks = callRes me d g v ks := by
 cases v <;> first | rfl | (simp [callRes] at h)
end Go.Abs
namespace Go.Abs
theorem append_frame {me d g : Nat} {en en' : En} {size : Nat} {X Y : Val} {r : Res} (h : appendV me d g en size X (elemsOf en Y) = some r) (hk : ∀ ρ ∈ r.rs,Same en en' ρ) : appendV me d g en' size X (elemsOf en' Y) = some r := by
 unfold appendV at h ⊢
 split at h
 case h_2 => cases h
 rename_i ys rs hel
 split at h
 case isFalse => cases h
 rename_i hh
 split at h
 ·split at h
  ·rename_i hye
   simp only [Option.some.injEq] at h; subst h
   rw [elemsOf_frame hel hk]; simp only [if_pos hh,if_pos hye]
  rename_i hye
  split at h
  case isFalse => cases h
  rename_i hc
  simp only [Option.some.injEq] at h; subst h
  rw [elemsOf_frame hel hk]; simp only [if_pos hh,if_neg hye,if_pos hc]
 ·rename_i k off len
  split at h
  case h_2 => cases h
  rename_i sz xs f he
  split at h
  case isFalse => cases h
  rename_i hc
  simp only [Option.some.injEq] at h; subst h
  have he' := (hk (.val k) (by simp)).blkf (hk (.flag k) (by simp)) he
  rw [elemsOf_frame hel fun ρ hρ => hk ρ (by simp [hρ])]
  simp only [if_pos hh,he',if_pos hc]
 ·cases h
theorem srcOf_frame {en en' : En} {a : Val} {ys : List Val} {rs : List R} (h : srcOf en a = some (ys,rs)) (hk : ∀ ρ ∈ rs,Same en en' ρ) : srcOf en' a = some (ys,rs) := by
 unfold srcOf at h ⊢
 split at h
 ·exact h
 ·rename_i k off len
  split at h
  case h_2 => cases h
  rename_i cs f he
  split at h
  case isFalse => cases h
  rename_i hl
  simp only [Option.some.injEq,Prod.mk.injEq] at h
  obtain ⟨rfl,rfl⟩ := h
  obtain ⟨cs',f',h1,h2,h3⟩ := (hk (.cells k off len) (by simp)).window he hl.1
  simp only [h1,h3]
  rw [if_pos ⟨h2,hl.2⟩]
 ·split at h
  case h_2 => cases h
  rename_i xs rs' he
  split at h
  case isFalse => cases h
  rename_i hf
  simp only [Option.some.injEq,Prod.mk.injEq] at h
  obtain ⟨rfl,rfl⟩ := h
  simp only [elemsOf_frame he hk,if_pos hf]
theorem eval_frame {n : Nat} {call : CallFn} {me d g : Nat} {en en' : En} {get get' : Opd → Val} {op : LOp} {r : Res} (h : eval n call me d g en get op = some r)
  (hg : ∀ x ∈ op.opds,get' x = get x) (hk : ∀ ρ ∈ r.rs,Same en en' ρ) : eval n call me d g en' get' op = some r := by
 cases op with
 | mv x => simp only [eval] at h ⊢; rw [hg x (by simp [LOp.opds])]; exact h
 | pick c x y => simp only [eval] at h ⊢; rw [hg c (by simp [LOp.opds]),hg x (by simp [LOp.opds]),hg y (by simp [LOp.opds])]; exact h
 | alloc z => exact h
 | box m x => simp only [eval] at h ⊢; rw [hg x (by simp [LOp.opds])]; exact h
 | build z ps =>
  simp only [eval] at h ⊢
  rw [show (ps.map fun p => (p.1,p.2.1,get' p.2.2)) = ps.map fun p => (p.1,p.2.1,get p.2.2) from List.map_congr_left fun p hp => by
   rw [hg p.2.2 (by simp only [LOp.opds,List.mem_map]; exact ⟨p,hp,rfl⟩)]]
  exact h
 | bslice len size z ps =>
  simp only [eval] at h ⊢
  split at h
  case isFalse => cases h
  rename_i hl
  split at h
  case h_2 => cases h
  rename_i qs hq
  split at h
  case h_2 => cases h
  rename_i xs hf
  simp only [Option.some.injEq] at h; subst h
  have key : ∀ (ps : List (Nat × Opd)) (qs : List ((Nat × Val) × List Key)),(∀ x ∈ ps.map (·.2),get' x = get x) → mapO (fun p => (snap n en (get p.2)).map fun r => ((p.1,r.1.wk1),r.2)) ps = some qs →
    (∀ k ∈ qs.flatMap (·.2),Same en en' (.val k)) → mapO (fun p => (snap n en' (get' p.2)).map fun r => ((p.1,r.1.wk1),r.2)) ps = some qs := by
   intro ps
   induction ps with
   | nil => intro qs _ h _; exact h
   | cons p ps ih =>
    intro qs hgp h hkk
    simp only [mapO] at h ⊢
    split at h
    case h_2 => cases h
    rename_i y hy
    split at h
    case h_2 => cases h
    rename_i ys hys
    simp only [Option.some.injEq] at h; subst h
    obtain ⟨⟨r1,r2⟩,e1,rfl⟩ := Option.map_eq_some_iff.1 hy
    rw [hgp p.2 (by simp),snap_frame n e1 fun k hk' => hkk k (by simp [hk'])]
    simp only [Option.map_some]
    rw [ih ys (fun x hx => hgp x (by simp only [List.map_cons,List.mem_cons]; exact .inr hx)) hys fun k hk' => hkk k (by simp only [List.flatMap_cons,List.mem_append]; exact .inr hk')]
  rw [key ps qs (fun x hx => hg x (by simpa [LOp.opds] using hx)) hq fun k hk' => hk _ (by simpa using hk')]
  simp only [if_pos hl,hf]
 | bsliceK len size z ps =>
  simp only [eval] at h ⊢
  split at h
  case isFalse => cases h
  rename_i hl
  split at h
  case h_2 => cases h
  rename_i qs hq
  split at h
  case h_2 => cases h
  rename_i xs hf
  simp only [Option.some.injEq] at h; subst h
  have key : ∀ (ps : List (Nat × Opd)) (qs : List ((Nat × Val) × List Key)),(∀ x ∈ ps.map (·.2),get' x = get x) → mapO (fun p => (snap n en (get p.2)).map fun r => ((p.1,r.1),r.2)) ps = some qs →
    (∀ k ∈ qs.flatMap (·.2),Same en en' (.val k)) → mapO (fun p => (snap n en' (get' p.2)).map fun r => ((p.1,r.1),r.2)) ps = some qs := by
   intro ps
   induction ps with
   | nil => intro qs _ h _; exact h
   | cons p ps ih =>
    intro qs hgp h hkk
    simp only [mapO] at h ⊢
    split at h
    case h_2 => cases h
    rename_i y hy
    split at h
    case h_2 => cases h
    rename_i ys hys
    simp only [Option.some.injEq] at h; subst h
    obtain ⟨⟨r1,r2⟩,e1,rfl⟩ := Option.map_eq_some_iff.1 hy
    rw [hgp p.2 (by simp),snap_frame n e1 fun k hk' => hkk k (by simp [hk'])]
    simp only [Option.map_some]
    rw [ih ys (fun x hx => hgp x (by simp only [List.map_cons,List.mem_cons]; exact .inr hx)) hys fun k hk' => hkk k (by simp only [List.flatMap_cons,List.mem_append]; exact .inr hk')]
  rw [key ps qs (fun x hx => hg x (by simpa [LOp.opds] using hx)) hq fun k hk' => hk _ (by simpa using hk')]
  simp only [if_pos hl,hf]
 | load ag m x =>
  simp only [eval] at h ⊢
  rw [hg x (by simp [LOp.opds])]
  split at h
  case h_2 => cases h
  rename_i cs rs hr
  obtain ⟨v,hv,rfl⟩ := Option.map_eq_some_iff.1 h
  rw [readAt_frame hr hk]; simp only [hv,Option.map_some]
 | store m x y =>
  simp only [eval] at h ⊢
  rw [hg x (by simp [LOp.opds]),hg y (by simp [LOp.opds])]
  split at h
  case isFalse => cases h
  rename_i hc
  rw [if_pos hc]
  split at h
  ·rename_i k off hX
   split at h
   case h_2 => cases h
   rename_i cs he
   split at h
   case isFalse => cases h
   rename_i hl
   simp only [Option.some.injEq] at h; subst h
   obtain ⟨cs',he',hl'⟩ := (hk (.flag k) (by simp)).boxl he
   simp only [he',hl',if_pos hl]
  ·rename_i k i off hX
   split at h
   case h_2 => cases h
   rename_i sz xs he
   split at h
   case h_2 => cases h
   rename_i Y hY
   split at h
   case isFalse => cases h
   rename_i hl
   split at h
   ·rename_i hd
    simp only [Option.some.injEq] at h; subst h
    have he' := (hk (.val k) (by simp)).blkf (hk (.flag k) (by simp)) he
    simp only [he',hY,if_pos hl,if_pos hd]
   rename_i hd
   split at h
   case h_2 => cases h
   rename_i v' ks hs
   split at h
   case isFalse => cases h
   rename_i hk2
   simp only [Option.some.injEq] at h; subst h
   have he' := (hk (.val k) (by simp)).blkf (hk (.flag k) (by simp)) he
   simp only [he',hY,if_pos hl,if_neg hd,snap_frame n hs fun k' hk' => hk _ (by simp [hk']),if_pos hk2]
  ·cases h
 | nilck x => simp only [eval] at h ⊢; rw [hg x (by simp [LOp.opds])]; exact h
 | bin o t x y => simp only [eval] at h ⊢; rw [hg x (by simp [LOp.opds]),hg y (by simp [LOp.opds])]; exact h
 | un o x => simp only [eval] at h ⊢; rw [hg x (by simp [LOp.opds])]; exact h
 | wrap k x => simp only [eval] at h ⊢; rw [hg x (by simp [LOp.opds])]; exact h
 | iface t x => simp only [eval] at h ⊢; rw [hg x (by simp [LOp.opds])]; exact h
 | assert t z ok x => simp only [eval] at h ⊢; rw [hg x (by simp [LOp.opds])]; exact h
 | mkfn f a b =>
  simp only [eval] at h ⊢
  rw [show a.map get' = a.map get from List.map_congr_left fun p hp => hg p (by simp [LOp.opds,hp]),show b.map get' = b.map get from List.map_congr_left fun p hp => hg p (by simp [LOp.opds,hp])]
  exact h
 | mkmap => exact h
 | mput t m k x =>
  simp only [eval] at h ⊢
  rw [hg m (by simp [LOp.opds]),hg k (by simp [LOp.opds]),hg x (by simp [LOp.opds])]
  split at h
  case h_2 => cases h
  rename_i key hm
  split at h
  case h_2 => cases h
  rename_i ks vs he
  split at h
  case isFalse => cases h
  rename_i hok
  have done : ∀ e : En → Option Res,(Same en en' (.val key) → Same en en' (.flag key) → en' key = some (.map ks vs false)) := fun _ a b => a.mapf b he
  split at h
  ·rename_i i hf
   simp only [Option.some.injEq] at h; subst h
   have he' := done (fun _ => none) (hk (.val key) (by simp)) (hk (.flag key) (by simp))
   simp only [he',if_pos hok,hf]
  ·rename_i hf
   simp only [Option.some.injEq] at h; subst h
   have he' := done (fun _ => none) (hk (.val key) (by simp)) (hk (.flag key) (by simp))
   simp only [he',if_pos hok,hf]
  ·cases h
 | mget t z ok m k =>
  simp only [eval] at h ⊢
  rw [hg m (by simp [LOp.opds]),hg k (by simp [LOp.opds])]
  split at h
  case isFalse => cases h
  rename_i hok
  rw [if_pos hok]
  split at h
  ·rename_i key hm
   split at h
   case h_2 => cases h
   rename_i ks vs f he
   obtain ⟨v,hv,rfl⟩ := Option.map_eq_some_iff.1 h
   obtain ⟨f',he'⟩ := (hk (.val key) (by simp)).map he
   simp only [he',hv,Option.map_some]
  ·exact h
  ·exact h
  ·cases h
 | mklen size z len cap => simp only [eval] at h ⊢; rw [hg len (by simp [LOp.opds]),hg cap (by simp [LOp.opds])]; exact h
 | appendZ size z x y => simp only [eval] at h ⊢; rw [hg x (by simp [LOp.opds]),hg y (by simp [LOp.opds])]; exact h
 | bsliceO len size z ps =>
  simp only [eval] at h ⊢
  split at h
  case isFalse => cases h
  rename_i hl
  split at h
  case h_2 => cases h
  rename_i qs hq
  split at h
  case h_2 => cases h
  rename_i xs hf
  simp only [Option.some.injEq] at h; subst h
  have key : ∀ (ps : List (Nat × Opd)) (qs : List ((Nat × Val) × List Key)),(∀ x ∈ ps.map (·.2),get' x = get x) → mapO (fun p => (snap n en (get p.2)).map fun r => ((p.1,r.1.wk1),r.2)) ps = some qs →
    (∀ k ∈ qs.flatMap (·.2),Same en en' (.val k)) → mapO (fun p => (snap n en' (get' p.2)).map fun r => ((p.1,r.1.wk1),r.2)) ps = some qs := by
   intro ps
   induction ps with
   | nil => intro qs _ h _; exact h
   | cons p ps ih =>
    intro qs hgp h hkk
    simp only [mapO] at h ⊢
    split at h
    case h_2 => cases h
    rename_i y hy
    split at h
    case h_2 => cases h
    rename_i ys hys
    simp only [Option.some.injEq] at h; subst h
    obtain ⟨⟨r1,r2⟩,e1,rfl⟩ := Option.map_eq_some_iff.1 hy
    rw [hgp p.2 (by simp),snap_frame n e1 fun k hk' => hkk k (by simp [hk'])]
    simp only [Option.map_some]
    rw [ih ys (fun x hx => hgp x (by simp only [List.map_cons,List.mem_cons]; exact .inr hx)) hys fun k hk' => hkk k (by simp only [List.flatMap_cons,List.mem_append]; exact .inr hk')]
  rw [key ps qs (fun x hx => hg x (by simpa [LOp.opds] using hx)) hq fun k hk' => hk _ (by simpa using hk')]
  simp only [if_pos hl,hf]
 | slice str size x lo hi mx =>
  have e1 : lo.map get' = lo.map get := by
   cases lo with
   | none => rfl
   | some l => simp only [Option.map_some]; rw [hg l (by simp [LOp.opds])]
  have e2 : hi.map get' = hi.map get := by
   cases hi with
   | none => rfl
   | some l => simp only [Option.map_some]; rw [hg l (by simp [LOp.opds])]
  have e3 : ∀ m,mx = some m → get' m = get m := fun m hm => hg m (by simp [LOp.opds,hm])
  simp only [eval,e1,e2] at h ⊢
  rw [hg x (by simp [LOp.opds])]
  split at h
  ·rename_i hs; rw [if_pos hs]; exact h
  ·rename_i hs
   rw [if_neg hs]
   split at h
   ·split at h
    ·exact h
    ·rename_i m; simp only [e3 m rfl]; exact h
   ·split at h
    ·exact h
    ·rename_i m; simp only [e3 m rfl]; exact h
   ·rename_i k off len hX
    split at h
    case h_2 => cases h
    split at h
    case h_2 => cases h
    rename_i hh hb
    split at h
    case h_2 => cases h
    rename_i ll hlo
    split at h
    case h_2 => cases h
    rename_i sz xs f he
    split at h
    case isFalse => cases h
    rename_i hc
    simp only [Option.some.injEq] at h; subst h
    obtain ⟨f',he'⟩ := (hk (.val k) (by simp)).blk he
    simp only [hb,hlo,he',if_pos hc]
   ·cases h
 | fa off x => simp only [eval] at h ⊢; rw [hg x (by simp [LOp.opds])]; exact h
 | fld ag off m x => simp only [eval] at h ⊢; rw [hg x (by simp [LOp.opds])]; exact h
 | ia size x i =>
  simp only [eval] at h ⊢
  rw [hg x (by simp [LOp.opds]),hg i (by simp [LOp.opds])]
  split at h
  case h_2 => cases h
  split at h
  ·exact h
  ·exact h
  ·rename_i k off len hX
   split at h
   case h_2 => cases h
   rename_i sz xs f he
   split at h
   case isFalse => cases h
   rename_i hc
   simp only [Option.some.injEq] at h; subst h
   obtain ⟨f',he'⟩ := (hk (.val k) (by simp)).blk he
   simp only [he',if_pos hc]
  ·cases h
 | iaa len size x i => simp only [eval] at h ⊢; rw [hg x (by simp [LOp.opds]),hg i (by simp [LOp.opds])]; exact h
 | ixs x i => simp only [eval] at h ⊢; rw [hg x (by simp [LOp.opds]),hg i (by simp [LOp.opds])]; exact h
 | ixa ag len size x i => simp only [eval] at h ⊢; rw [hg x (by simp [LOp.opds]),hg i (by simp [LOp.opds])]; exact h
 | ext i x => simp only [eval] at h ⊢; rw [hg x (by simp [LOp.opds])]; exact h
 | call f args =>
  simp only [eval] at h ⊢
  rw [hg f (by simp [LOp.opds]),show args.map get' = args.map get from List.map_congr_left fun p hp => hg p (by simp [LOp.opds,hp])]
  split at h
  case h_2 => cases h
  rename_i f a b hf
  split at h
  case h_2 => cases h
  rename_i rs hs
  split at h
  case h_2 => cases h
  rename_i v hv
  simp only [Option.some.injEq] at h; subst h
  rw [snaps_frame hs fun k hk' => hk _ (by rw [callRes_rs]; simpa using hk')]
  simp only [hv]
 | icall f args => cases h
 | len t x =>
  simp only [eval] at h ⊢
  rw [hg x (by simp [LOp.opds])]
  split at h
  ·split at h
   ·rename_i key hx
    split at h
    case h_2 => cases h
    rename_i ks vs f he
    simp only [Option.some.injEq] at h; subst h
    obtain ⟨f',he'⟩ := (hk (.val key) (by simp)).map he
    simp only [he']
   ·exact h
   ·exact h
   ·cases h
  ·exact h
  ·exact h
  ·exact h
  ·cases h
 | append size x y =>
  simp only [eval] at h ⊢
  rw [hg x (by simp [LOp.opds]),hg y (by simp [LOp.opds])]
  exact append_frame h hk
 | appendD size x y =>
  simp only [eval] at h ⊢
  rw [hg x (by simp [LOp.opds]),hg y (by simp [LOp.opds])]
  exact append_frame h hk
 | copy size x y =>
  simp only [eval] at h ⊢
  rw [hg x (by simp [LOp.opds]),hg y (by simp [LOp.opds])]
  split at h
  case isFalse => cases h
  rename_i hs1
  rw [if_pos hs1]
  split at h
  case h_2 => cases h
  rename_i k off len hX
  split at h
  case h_2 => cases h
  rename_i cs he
  split at h
  case isFalse => cases h
  rename_i hl
  split at h
  case h_2 => cases h
  rename_i ys rs hsrc
  split at h
  case isFalse => cases h
  rename_i hst
  simp only [Option.some.injEq] at h; subst h
  obtain ⟨cs',he',hl'⟩ := (hk (.flag k) (by simp)).boxl he
  simp only [he',hl',if_pos hl,srcOf_frame hsrc fun ρ hρ => hk ρ (by simp [hρ]),if_pos hst]
 | sla n sz ag x lo hi =>
  have e1 : lo.map get' = lo.map get := by
   cases lo with
   | none => rfl
   | some l => simp only [Option.map_some]; rw [hg l (by simp [LOp.opds])]
  have e2 : hi.map get' = hi.map get := by
   cases hi with
   | none => rfl
   | some l => simp only [Option.map_some]; rw [hg l (by simp [LOp.opds])]
  simp only [eval,e1,e2] at h ⊢
  rw [hg x (by simp [LOp.opds])]; exact h
 | s2b x => simp only [eval] at h ⊢; rw [hg x (by simp [LOp.opds])]; exact h
 | b2s x =>
  simp only [eval] at h ⊢
  rw [hg x (by simp [LOp.opds])]
  split at h
  ·cases h
  rename_i hst
  rw [if_neg hst]
  split at h
  case h_2 => cases h
  rename_i ys rs hsrc
  have hrs : r.rs = rs := by obtain ⟨_,_,rfl⟩ := Option.map_eq_some_iff.1 h; rfl
  simp only [srcOf_frame hsrc fun ρ hρ => hk ρ (by rw [hrs]; exact hρ)]
  exact h
 | clr z x =>
  simp only [eval] at h ⊢
  rw [hg x (by simp [LOp.opds])]
  split at h
  ·rename_i k off len hX
   split at h
   case h_2 => cases h
   rename_i cs he
   split at h
   case isFalse => cases h
   rename_i hl
   simp only [Option.some.injEq] at h; subst h
   obtain ⟨cs',he',hl'⟩ := (hk (.flag k) (by simp)).boxl he
   simp only [he',hl',if_pos hl]
  ·rename_i k off len hX
   split at h
   case h_2 => cases h
   rename_i sz xs he
   split at h
   case isFalse => cases h
   rename_i hl
   simp only [Option.some.injEq] at h; subst h
   have he' := (hk (.val k) (by simp)).blkf (hk (.flag k) (by simp)) he
   simp only [he',if_pos hl]
  ·exact h
  ·exact h
  ·exact h
  ·cases h
 | panic x => simp [eval] at h
 | rng x => simp only [eval] at h ⊢; rw [hg x (by simp [LOp.opds])]; exact h
 | nxt x =>
  simp only [eval] at h ⊢
  rw [hg x (by simp [LOp.opds])]
  split at h
  case h_2 => cases h
  rename_i k hX
  split at h
  case h_2 => cases h
  rename_i s pos he
  split at h
  ·rename_i hlt
   simp only [Option.some.injEq] at h; subst h
   have he' := (hk (.val k) (by simp)).iter he
   simp only [he',if_pos hlt]
  ·rename_i hlt
   simp only [Option.some.injEq] at h; subst h
   have he' := (hk (.val k) (by simp)).iter he
   simp only [he',if_neg hlt]
 | minmax mx xs =>
  simp only [eval] at h ⊢
  rw [show xs.map get' = xs.map get from List.map_congr_left fun p hp => hg p (by simp [LOp.opds,hp])]
  exact h
end Go.Abs
namespace Go.Abs
theorem eval_nowrite {n : Nat} {call : CallFn} {me d g : Nat} {en : En} {get : Opd → Val} {op : LOp} {r : Res} (h : eval n call me d g en get op = some r) (hw : op.writesMem = false) : r.ws = [] := by
 cases op <;> first
  |(simp [LOp.writesMem] at hw; done)
  |(simp only [eval,cut3,appendV] at h
    (repeat' split at h) <;> first
     |(cases h; done)
     |(simp only [Option.some.injEq] at h; subst h; rfl)
     |(obtain ⟨_,_,rfl⟩ := Option.map_eq_some_iff.1 h; rfl))
theorem eval_mem {n : Nat} {call : CallFn} {me d g : Nat} {en : En} {get : Opd → Val} {op : LOp} {r : Res} (h : eval n call me d g en get op = some r) : r.mem = none := by
 cases op <;> (
  simp only [eval,cut3,appendV] at h
  (repeat' split at h) <;> first
   |(cases h; done)
   |(simp only [Option.some.injEq] at h; subst h; rfl)
   |(simp only [Option.some.injEq] at h; subst h; exact callRes_mem)
   |(obtain ⟨_,_,rfl⟩ := Option.map_eq_some_iff.1 h; rfl))
theorem eval_nobump {n : Nat} {call : CallFn} {me d g : Nat} {en : En} {get : Opd → Val} {op : LOp} {r : Res} (h : eval n call me d g en get op = some r) (hw : op.writesMem = false) : r.bump = false := by
 cases op <;> first
  |(simp [LOp.writesMem] at hw; done)
  |(simp only [eval,cut3,appendV] at h
    (repeat' split at h) <;> first
     |(cases h; done)
     |(simp only [Option.some.injEq] at h; subst h; rfl)
     |(obtain ⟨_,_,rfl⟩ := Option.map_eq_some_iff.1 h; rfl))
theorem eval_noread {n : Nat} {call : CallFn} {me d g : Nat} {en : En} {get : Opd → Val} {op : LOp} {r : Res} (h : eval n call me d g en get op = some r) (hw : op.readsMem = false) : r.rs = [] := by
 cases op <;> first
  |(simp [LOp.readsMem] at hw; done)
  |(simp only [eval,cut3,appendV] at h
    (repeat' split at h) <;> first
     |(cases h; done)
     |(simp only [Option.some.injEq] at h; subst h; rfl)
     |(obtain ⟨_,_,rfl⟩ := Option.map_eq_some_iff.1 h; rfl))
theorem eval_g {n : Nat} {call : CallFn} {me d g : Nat} {en : En} {get : Opd → Val} {op : LOp} {r : Res} (h : eval n call me d g en get op = some r) (hw : r.bump = false) (g' : Nat) : eval n call me d g' en get op = some r := by
 by_cases hc : ∃ f args,op = .call f args
 ·obtain ⟨f,args,rfl⟩ := hc
  simp only [eval] at h ⊢
  split at h
  case h_2 => cases h
  split at h
  case h_2 => cases h
  rename_i hs
  split at h
  case h_2 => cases h
  rename_i hv
  simp only [Option.some.injEq] at h; subst h
  rw [callRes_g hw g']
 cases op <;> first
  | exact absurd ⟨_,_,rfl⟩ hc
  | exact h
  |(exfalso
    simp only [eval,appendV] at h
    ((repeat' split at h) <;> first
     |(cases h; done)
     |(simp only [Option.some.injEq] at h; subst h; cases hw)); done)
  |(simp only [eval,appendV] at h ⊢
    (repeat' split at h) <;> first
     |(cases h; done)
     |(exfalso; simp only [Option.some.injEq] at h; subst h; cases hw; done)
     |(simp only [*]; done)
     |(rename_i hh _ _ _ _; simp only [*,if_true]; done)
     |(simp only [*,if_true] at h ⊢; done)
     |(simp_all; done))
theorem setCells_far : ∀ (vs : List Val) (cs : List Val) (off i : Nat),(i < off ∨ off + vs.length ≤ i) → (setCells cs off vs)[i]? = cs[i]?
 | [],_,_,_,_ => rfl
 | v :: vs,cs,off,i,h => by
  simp only [List.length_cons] at h
  rw [setCells,setCells_far vs _ _ _ (by omega),List.getElem?_set]
  rw [if_neg (by omega)]
theorem setCells_len : ∀ (vs : List Val) (cs : List Val) (off : Nat),(setCells cs off vs).length = cs.length
 | [],_,_ => rfl
 | v :: vs,cs,off => by rw [setCells,setCells_len]; simp
theorem setCells_set (vs : List Val) : ∀ (cs : List Val) (off i : Nat) (u : Val),(i < off ∨ off + vs.length ≤ i) → setCells (cs.set i u) off vs = (setCells cs off vs).set i u := by
 induction vs with
 | nil => intro cs off i u _; rfl
 | cons v vs ih =>
  intro cs off i u h
  simp only [List.length_cons] at h
  rw [setCells,setCells,← ih _ _ _ _ (by omega)]
  congr 1
  exact List.set_comm _ _ (by omega)
theorem setCells_comm (us : List Val) : ∀ (vs cs : List Val) (off off' : Nat),(off + us.length ≤ off' ∨ off' + vs.length ≤ off) → setCells (setCells cs off us) off' vs = setCells (setCells cs off' vs) off us := by
 induction us with
 | nil => intro vs cs off off' _; rfl
 | cons u us ih =>
  intro vs cs off off' h
  simp only [List.length_cons] at h
  rw [setCells,setCells,ih _ _ _ _ (by omega),setCells_set _ _ _ _ _ (by omega)]
def W.onEnt : W → Option Ent → Option Ent
 | .ent _ e => fun _ => e
 | .cells _ off vs => fun x => match x with
  | some (.box cs f) => some (.box (setCells cs off vs) f)
  | x => x
 | .elem _ i off vs => fun x => match x with
  | some (.blk sz xs f) => match xs[i]? with
   | some y => some (.blk sz (xs.set i (putCells y off vs)) f)
   | none => some (.blk sz xs f)
  | x => x
 | .frz _ => fun x => x.map Ent.freeze
theorem W.apply_self (en : En) (w : W) : W.apply en w w.key = w.onEnt (en w.key) := by
 cases w with
 | ent k' e => simp [W.apply,W.key,W.onEnt,En.set]
 | cells k off vs =>
  show W.apply en _ k = W.onEnt _ (en k)
  simp only [W.apply,W.onEnt]
  cases h : en k with
  | none => simp [h]
  | some e => cases e <;> simp [En.set,h]
 | elem k i off vs =>
  show W.apply en _ k = W.onEnt _ (en k)
  simp only [W.apply,W.onEnt]
  cases h : en k with
  | none => simp [h]
  | some e =>
   cases e with
   | blk sz xs f => cases h' : xs[i]? <;> simp [En.set,h,h']
   | _ => simp [h]
 | frz k =>
  show W.apply en _ k = W.onEnt _ (en k)
  simp only [W.apply,W.onEnt]
  cases h : en k with
  | none => simp [h]
  | some e => simp [En.set]
theorem W.apply_other (en : En) (w : W) {k : Key} (hk : k ≠ w.key) : W.apply en w k = en k := by
 cases w with
 | ent k' e =>
  have hk : k ≠ k' := hk
  simp [W.apply,En.set,hk]
 | cells k' off vs =>
  have hk : k ≠ k' := hk
  simp only [W.apply]
  cases h : en k' with
  | none => rfl
  | some e => cases e <;> simp [En.set,hk]
 | elem k' i off vs =>
  have hk : k ≠ k' := hk
  simp only [W.apply]
  cases h : en k' with
  | none => rfl
  | some e =>
   cases e with
   | blk sz xs f => cases h' : xs[i]? <;> simp [En.set,hk,h']
   | _ => rfl
 | frz k' =>
  have hk : k ≠ k' := hk
  simp only [W.apply]
  cases h : en k' with
  | none => rfl
  | some e => simp [En.set,hk]
theorem W.apply_at (en : En) (w : W) (k : Key) : W.apply en w k = if k = w.key then w.onEnt (en k) else en k := by
 by_cases hk : k = w.key
 ·rw [if_pos hk,hk,W.apply_self]
 ·rw [if_neg hk,W.apply_other en w hk]
theorem W.comm {w w' : W} (h : apartWW w w' = true) (en : En) : W.apply (W.apply en w) w' = W.apply (W.apply en w') w := by
 have key : w.key ≠ w'.key → W.apply (W.apply en w) w' = W.apply (W.apply en w') w := by
  intro hk
  funext k
  simp only [W.apply_at]
  by_cases h1 : k = w'.key
  ·subst h1
   have h2 : ¬ w'.key = w.key := fun e => hk e.symm
   simp [h2]
  ·simp [h1]
 by_cases hk : w.key = w'.key
 ·cases w <;> cases w' <;> simp only [W.key] at hk <;> subst hk <;> simp [apartWW,W.key] at h
  ·rename_i k off vs off' vs'
   funext k'
   by_cases hk' : k' = k
   ·subst hk'
    have e1 := W.apply_self (W.apply en (.cells k' off vs)) (.cells k' off' vs')
    have e2 := W.apply_self en (.cells k' off vs)
    have e3 := W.apply_self (W.apply en (.cells k' off' vs')) (.cells k' off vs)
    have e4 := W.apply_self en (.cells k' off' vs')
    simp only [W.key] at e1 e2 e3 e4
    rw [e1,e2,e3,e4]
    cases en k' with
    | none => rfl
    | some e =>
     cases e with
     | box cs f => simp only [W.onEnt]; rw [setCells_comm _ _ _ _ _ h]
     | _ => rfl
   ·rw [W.apply_other _ (.cells k off' vs') hk',W.apply_other _ (.cells k off vs) hk',W.apply_other _ (.cells k off vs) hk',W.apply_other _ (.cells k off' vs') hk']
  ·rfl
 ·exact key hk
theorem W.same {w : W} {ρ : R} (h : apartWR w ρ = true) (en : En) : Same (W.apply en w) en ρ := by
 have key : w.key ≠ ρ.key → Same (W.apply en w) en ρ := by
  intro hk
  have e : W.apply en w ρ.key = en ρ.key := by rw [W.apply_at,if_neg fun e => hk e.symm]
  cases ρ <;> simp only [Same,R.key] at e ⊢ <;> rw [e]
 by_cases hk : w.key = ρ.key
 ·have e := W.apply_self en w
  cases w <;> cases ρ <;> simp only [W.key,R.key] at hk <;> subst hk <;> simp [apartWR,W.key,R.key] at h <;>
   simp only [W.key] at e <;> simp only [Same,e,W.onEnt]
  ·rename_i k off vs off' n
   cases en k with
   | none => rfl
   | some e =>
    cases e with
    | box cs f =>
     simp only [Option.map_some,Ent.win,setCells_len]
     split
     ·congr 2
      apply List.ext_getElem?
      intro j
      simp only [List.getElem?_take,List.getElem?_drop]
      split
      ·rw [setCells_far _ _ _ _ (by omega)]
      ·rfl
     ·rfl
    | _ => rfl
  ·rename_i k off vs
   cases en k with
   | none => rfl
   | some e => cases e <;> simp [Ent.shape,setCells_len]
  ·rename_i k i off vs
   cases en k with
   | none => rfl
   | some e =>
    cases e with
    | blk sz xs f => simp only; split <;> rfl
    | _ => rfl
  ·rename_i k
   cases en k with
   | none => rfl
   | some e => cases e <;> rfl
  ·rename_i k off n
   cases en k with
   | none => rfl
   | some e => cases e <;> rfl
 ·exact key hk
theorem applyAll_one (ws : List W) : ∀ (en : En) (w : W),(∀ w' ∈ ws,apartWW w w' = true) → W.applyAll (W.apply en w) ws = W.apply (W.applyAll en ws) w := by
 induction ws with
 | nil => intro en w _; rfl
 | cons w' ws ih =>
  intro en w h
  show W.applyAll (W.apply (W.apply en w) w') ws = W.apply (W.applyAll (W.apply en w') ws) w
  rw [W.comm (h w' (by simp)),ih _ _ fun x hx => h x (by simp [hx])]
theorem applyAll_comm (ws : List W) : ∀ (ws' : List W) (en : En),(∀ w ∈ ws,∀ w' ∈ ws',apartWW w w' = true) → W.applyAll (W.applyAll en ws) ws' = W.applyAll (W.applyAll en ws') ws := by
 induction ws with
 | nil => intro ws' en _; rfl
 | cons w ws ih =>
  intro ws' en h
  show W.applyAll (W.applyAll (W.apply en w) ws) ws' = W.applyAll (W.apply (W.applyAll en ws') w) ws
  rw [ih _ _ fun x hx => h x (by simp [hx]),applyAll_one _ _ _ (h w (by simp))]
theorem applyAll_same (ws : List W) : ∀ (en : En) (ρ : R),(∀ w ∈ ws,apartWR w ρ = true) → Same (W.applyAll en ws) en ρ := by
 induction ws with
 | nil => intro en ρ _; exact Same.refl _ _
 | cons w ws ih =>
  intro en ρ h
  show Same (W.applyAll (W.apply en w) ws) en ρ
  exact (ih _ ρ fun x hx => h x (by simp [hx])).trans (W.same (h w (by simp)) en)
end Go.Abs
namespace Go.Abs
section
variable {σ : Type} (E : Nat → σ → σ)
def foldE (L : Nat → Bool) (s : σ) : Nat → σ
 | 0 => s
 | n + 1 => if L n then E n (foldE L s n) else foldE L s n
variable {E}
theorem foldE_congr {L L' : Nat → Bool} {s : σ} : ∀ {n : Nat},(∀ i,i < n → L i = L' i) → foldE E L s n = foldE E L' s n
 | 0,_ => rfl
 | n + 1,h => by simp only [foldE]; rw [h n (by omega),foldE_congr fun i hi => h i (by omega)]
theorem foldE_put {L : Nat → Bool} {s : σ} {j : Nat} (hj : L j = false) : ∀ {n : Nat},j < n → (∀ k,j < k → k < n → L k = true → ∀ s,E k (E j s) = E j (E k s)) →
  foldE E (fun k => k == j || L k) s n = E j (foldE E L s n)
 | 0,h,_ => by omega
 | n + 1,h,hc => by
  by_cases hn : j = n
  ·subst hn
   simp only [foldE,BEq.rfl,Bool.true_or,if_true,hj,Bool.false_eq_true,if_false]
   rw [foldE_congr (L' := L) fun i hi => by
    have : (i == j) = false := by simp; omega
    simp [this]]
  ·have hlt : j < n := by omega
   have hne : (n == j) = false := by simp; omega
   simp only [foldE,hne,Bool.false_or]
   rw [foldE_put hj hlt fun k h1 h2 => hc k h1 (by omega)]
   split
   ·rename_i hL; exact hc n hlt (by omega) hL _
   ·rfl
theorem foldE_drop {L : Nat → Bool} {s : σ} {n : Nat} (Eq : σ → σ → Prop) (hrefl : ∀ s,Eq s s) (htrans : ∀ a b c,Eq a b → Eq b c → Eq a c) (keep : Nat → Bool) :
  ∀ m,m ≤ n → (∀ j,j < m → L j = true → keep j = false → (∀ s,Eq (E j s) s) ∧ ∀ k,j < k → k < n → L k = true → keep k = true → ∀ s,E k (E j s) = E j (E k s)) →
   Eq (foldE E (fun k => L k && (keep k || k < m)) s n) (foldE E (fun k => L k && keep k) s n)
 | 0,_,_ => by
  rw [foldE_congr (L' := fun k => L k && keep k) fun i hi => by simp]
  exact hrefl _
 | m + 1,hm,h => by
  refine htrans _ _ _ ?_ (foldE_drop Eq hrefl htrans keep m (by omega) fun j hj => h j (by omega))
  by_cases hc : L m = true ∧ keep m = false
  ·obtain ⟨h1,h2⟩ := h m (by omega) hc.1 hc.2
   rw [foldE_congr (L' := fun k => k == m || (L k && (keep k || k < m))) fun i hi => by
    by_cases him : i = m
    ·subst him; simp [hc.1]
    ·have e1 : (i == m) = false := by simp [him]
     have e2 : decide (i < m + 1) = decide (i < m) := by
      by_cases h : i < m
      ·simp [h]; omega
      ·simp [h]; omega
     simp [e1,e2]]
   rw [foldE_put (by simp [hc.2]) (by omega) fun k h3 h4 h5 s => by
    simp only [Bool.and_eq_true,Bool.or_eq_true,decide_eq_true_eq] at h5
    rcases h5.2 with h6 | h6
    ·exact h2 k h3 h4 h5.1 h6 s
    ·omega]
   exact h1 _
  ·rw [foldE_congr (L' := fun k => L k && (keep k || k < m)) fun i hi => by
    by_cases him : i = m
    ·subst him
     cases hL : L i with
     | false => simp
     | true => cases hk : keep i with
      | false => exact absurd ⟨hL,hk⟩ hc
      | true => simp
    ·have e2 : decide (i < m + 1) = decide (i < m) := by
      by_cases h : i < m
      ·simp [h]; omega
      ·simp [h]; omega
     simp [e2]]
   exact hrefl _
end
end Go.Abs
