/- Contracts of functions of the program and of the document: part 4. -/
import Derived.Test.YthpmfghgoabnhaaGreatM3
import Derived.Test.YthpmfghgoabnhaaGreatM2
import Derived.Test.YthpmfghgoabnhaaGreatRows
import Derived.Test.YthpmfghgoabnhaaGreatHxE
set_option linter.all false
namespace Go.Proofs.YthpmfghgoabnhaaGreat
open Go.Abs Go.Proofs
theorem idx_lt {keep : List Int} {x : Int} (h : x ∈ keep) : keep.idxOf x < keep.length := List.idxOf_lt_length_of_mem h
theorem idx_get {keep : List Int} {x : Int} (h : x ∈ keep) : keep[keep.idxOf x]'(idx_lt h) = x := List.getElem_idxOf (idx_lt h)
theorem idx_inj {keep : List Int} {x y : Int} (hx : x ∈ keep) (hy : y ∈ keep) (h : keep.idxOf x = keep.idxOf y) : x = y := by
 have h1 := idx_get hx
 have h2 := idx_get hy
 simp only [h] at h1
 rw [← h1,h2]
theorem idx_of {keep : List Int} (hr : keep.Pairwise (· < ·)) {i : Nat} (h : i < keep.length) : keep.idxOf keep[i] = i := by
 have hm := List.getElem_mem h
 have hl := idx_lt hm
 have hg := idx_get hm
 by_cases h1 : keep.idxOf keep[i] < i
 ·have := List.pairwise_iff_getElem.1 hr _ _ hl h h1
  omega
 ·by_cases h2 : i < keep.idxOf keep[i]
  ·have := List.pairwise_iff_getElem.1 hr _ _ h hl h2
   omega
  ·omega
theorem compact_obj {w : MWorld} {keep : List Int} {t : Int} (h : t ∈ keep) : (compactW w keep).obj (keep.idxOf t : Nat) = movedO keep (w.obj t) := by
 have hl := idx_lt h
 have hg := idx_get h
 simp only [MWorld.obj,compactW,Int.toNat_natCast,List.getD_eq_getElem?_getD,List.getElem?_map,List.getElem?_eq_getElem hl,Option.map_some,Option.getD_some,hg]
theorem compact_at {w : MWorld} {keep : List Int} {i : Nat} (h : i < keep.length) : (compactW w keep).obj i = movedO keep (w.obj keep[i]) := by
 simp only [MWorld.obj,compactW,Int.toNat_natCast,List.getD_eq_getElem?_getD,List.getElem?_map,List.getElem?_eq_getElem h,Option.map_some,Option.getD_some]
theorem valueOk_moved {p : BProg} {w : MWorld} {keep : List Int} {v : MVal} (h : valueOk p w v = true) (hr : isRef v = true → v.n ∈ keep) : valueOk p (compactW w keep) (movedV keep v) = true := by
 by_cases h5 : isRef v = true
 ·have hk : v.kind = 5 := of_decide_eq_true h5
  have := idx_lt (hr h5)
  simp only [valueOk,movedV,hk,h5,if_true,inR,compactW,List.length_map]
  simp; omega
 ·have hk : ¬ v.kind = 5 := fun e => h5 (decide_eq_true e)
  have e : movedV keep v = v := by rw [movedV,if_neg h5]
  rw [e]
  simpa only [valueOk,hk,if_false] using h
theorem refVals_mem {l : List MVal} {v : MVal} (hv : v ∈ l) (h : isRef v = true) : v.n ∈ refVals l := List.mem_map.2 ⟨v,List.mem_filter.2 ⟨hv,h⟩,rfl⟩
theorem valuesOk_moved {p : BProg} {w : MWorld} {keep : List Int} {l : List MVal} {m : Int} (h : valuesOk p w l m = true) (hr : ∀ x ∈ refVals l,x ∈ keep) : valuesOk p (compactW w keep) (movedL keep l) m = true := by
 simp only [valuesOk,Bool.and_eq_true,decide_eq_true_eq,List.all_eq_true] at h ⊢
 refine ⟨by simpa [movedL] using h.1,fun v hv => ?_⟩
 obtain ⟨u,hu,rfl⟩ := List.mem_map.1 hv
 exact valueOk_moved (h.2 u hu) fun h5 => hr _ (refVals_mem hu h5)
theorem movedL_len (keep : List Int) (l : List MVal) : (movedL keep l).length = l.length := by simp [movedL]
theorem frameOk_moved {p : BProg} {w : MWorld} {keep : List Int} {f : MFrame} (h : frameOk p w f = true) (hr : ∀ x ∈ frameRefs f,x ∈ keep) : frameOk p (compactW w keep) (movedF keep f) = true := by
 simp only [frameOk,Bool.and_eq_true] at h ⊢
 exact ⟨⟨h.1.1,valuesOk_moved h.1.2 fun x hx => hr x (List.mem_append_left _ hx)⟩,valuesOk_moved h.2 fun x hx => hr x (List.mem_append_right _ hx)⟩
theorem framesOk_moved {p : BProg} {w : MWorld} {keep : List Int} {l : List MFrame} (h : framesOk p w l = true) (hr : ∀ x ∈ l.flatMap frameRefs,x ∈ keep) : framesOk p (compactW w keep) (l.map (movedF keep)) = true := by
 simp only [framesOk,Bool.and_eq_true,decide_eq_true_eq,List.all_eq_true] at h ⊢
 refine ⟨by simpa using h.1,fun f hf => ?_⟩
 obtain ⟨g,hg,rfl⟩ := List.mem_map.1 hf
 exact frameOk_moved (h.2 g hg) fun x hx => hr x (List.mem_flatMap.2 ⟨g,hg,hx⟩)
theorem frameOpen_moved (p : BProg) (keep : List Int) (f : MFrame) : frameOpen p (movedF keep f) = frameOpen p f := by simp [frameOpen,movedF,movedL_len]
theorem opens_moved (p : BProg) (keep : List Int) (l : List MFrame) (k : Nat) : ((l.map (movedF keep)).take k).all (frameOpen p) = (l.take k).all (frameOpen p) := by
 rw [← List.map_take,List.all_map]
 congr 1; funext f; exact frameOpen_moved p keep f
theorem taskOk_moved {p : BProg} {w : MWorld} {keep : List Int} {o : MObj} (h : taskOk p w o = true) (hr : ∀ x ∈ refsOf o,x ∈ keep) : taskOk p (compactW w keep) (movedO keep o) = true := by
 have hv : ∀ x ∈ refVals o.vals,x ∈ keep := fun x hx => hr x (List.mem_append_left _ hx)
 have hf : ∀ x ∈ o.frames.flatMap frameRefs,x ∈ keep := fun x hx => hr x (List.mem_append_right _ hx)
 unfold taskOk at h ⊢
 simp only [movedO,List.length_map,movedL_len,opens_moved]
 split at h
 ·rename_i h0
  rw [if_pos h0]
  simp only [Bool.and_eq_true] at h ⊢
  exact ⟨⟨⟨framesOk_moved h.1.1.1 hf,valuesOk_moved h.1.1.2 hv⟩,h.1.2⟩,h.2⟩
 split at h
 ·rename_i h0 h1
  rw [if_neg h0,if_pos h1]
  simp only [Bool.and_eq_true] at h ⊢
  exact ⟨h.1,valuesOk_moved h.2 hv⟩
 split at h
 ·rename_i h0 h1 h2
  rw [if_neg h0,if_neg h1,if_pos h2]
  exact h
 ·cases h
theorem head_moved (keep : List Int) (l : List MFrame) : ((l.map (movedF keep)).headD default).node = (l.headD default).node := by cases l <;> rfl
theorem objOk_moved {p : BProg} {w : MWorld} {keep : List Int} {o : MObj} (h : objOk p w o = true) (hr : ∀ x ∈ refsOf o,x ∈ keep) : objOk p (compactW w keep) (movedO keep o) = true := by
 have hv : ∀ x ∈ refVals o.vals,x ∈ keep := fun x hx => hr x (List.mem_append_left _ hx)
 have hf : ∀ x ∈ o.frames.flatMap frameRefs,x ∈ keep := fun x hx => hr x (List.mem_append_right _ hx)
 unfold objOk at h ⊢
 split at h
 ·rename_i h0
  rw [if_pos (show (movedO keep o).form = 6 from h0)]
  exact taskOk_moved h hr
 rename_i h0
 rw [if_neg (show ¬ (movedO keep o).form = 6 from h0)]
 split at h
 ·rename_i h1
  rw [if_pos (show (movedO keep o).form = 5 from h1)]
  have ho : (o.frames.map (movedF keep)).all (frameOpen p) = o.frames.all (frameOpen p) := by
   rw [List.all_map]; congr 1; funext f; exact frameOpen_moved p keep f
  simp only [movedO,List.length_map,movedL_len,head_moved,ho]
  simp only [Bool.and_eq_true] at h ⊢
  exact ⟨⟨⟨h.1.1.1,framesOk_moved h.1.1.2 hf⟩,h.1.2⟩,h.2⟩
 rename_i h1
 rw [if_neg (show ¬ (movedO keep o).form = 5 from h1)]
 have hL : (movedO keep o).frames.length = o.frames.length := by simp only [movedO,List.length_map]
 have hVl : (movedO keep o).vals.length = o.vals.length := by simp only [movedO,movedL_len]
 rw [hL,hVl]
 split at h
 ·cases h
 rename_i h2
 rw [if_neg h2]
 split at h
 ·rename_i h3
  rw [if_pos (show (movedO keep o).form = 1 from h3)]
  simp only [Bool.and_eq_true] at h ⊢
  exact ⟨h.1,valuesOk_moved h.2 hv⟩
 rename_i h3
 rw [if_neg (show ¬ (movedO keep o).form = 1 from h3)]
 split at h
 ·rename_i h4
  rw [if_pos (show (movedO keep o).form = 2 from h4)]
  simp only [Bool.and_eq_true] at h ⊢
  exact ⟨h.1,valuesOk_moved h.2 hv⟩
 rename_i h4
 rw [if_neg (show ¬ (movedO keep o).form = 2 from h4)]
 split at h
 ·rename_i h5
  rw [if_pos (show (movedO keep o).form = 3 from h5)]
  simp only [Bool.and_eq_true] at h ⊢
  exact ⟨h.1,valuesOk_moved h.2 hv⟩
 rename_i h5
 rw [if_neg (show ¬ (movedO keep o).form = 3 from h5)]
 split at h
 ·rename_i h6
  rw [if_pos (show (movedO keep o).form = 4 from h6)]
  simp only [Bool.and_eq_true] at h ⊢
  exact ⟨h.1,valuesOk_moved h.2 hv⟩
 ·cases h
theorem isTask_moved (keep : List Int) (o : MObj) : isTask (movedO keep o) = isTask o := rfl
theorem distinct_moved {w : MWorld} {keep : List Int} : ∀ (l met : List Int),(∀ x ∈ l,x ∈ keep) → (∀ x ∈ met,x ∈ keep) → distinctTasks w met l = true → distinctTasks (compactW w keep) (met.map fun t => (keep.idxOf t : Int)) (l.map fun t => (keep.idxOf t : Int)) = true
 | [],_,_,_,_ => rfl
 | k :: l,met,hl,hm,h => by
  simp only [distinctTasks,Bool.and_eq_true] at h
  have hk := hl k (by simp)
  have hlt := idx_lt hk
  have ih := distinct_moved l (met ++ [k]) (fun x hx => hl x (by simp [hx])) (fun x hx => by rcases List.mem_append.1 hx with hx | hx; exact hm x hx; simp only [List.mem_singleton] at hx; rw [hx]; exact hk) h.2
  rw [List.map_append] at ih
  simp only [List.map_cons,distinctTasks,Bool.and_eq_true]
  refine ⟨⟨⟨?_,?_⟩,?_⟩,ih⟩
  ·simp only [inR,decide_eq_true_eq,compactW,List.length_map]; omega
  ·rw [compact_obj hk,isTask_moved]; exact h.1.1.2
  ·have hn := h.1.2
   rw [Bool.not_eq_true',← Bool.not_eq_true,List.any_eq_true] at hn ⊢
   rintro ⟨x,hx,he⟩
   obtain ⟨y,hy,rfl⟩ := List.mem_map.1 hx
   have he' : keep.idxOf y = keep.idxOf k := by have := of_decide_eq_true he; omega
   exact hn ⟨y,hy,decide_eq_true (idx_inj (hm y hy) hk he')⟩
theorem compact_ok {p : BProg} {w : MWorld} {keep : List Int} (h : given p w = true) (hs : Shut w keep) (ht : ∀ t,(∃ i : Nat,t = (i : Int) ∧ i < w.objs.length ∧ isTask (w.obj i) = true) → t ∈ keep) : given p (compactW w keep) = true := by
 obtain ⟨hT1,hT2⟩ := given_tasks h
 have htk : ∀ t ∈ w.tasks,t ∈ keep := fun t hm => ht t (hT1 t hm)
 simp only [given,worldOk,Bool.and_eq_true,← tasks_same] at h ⊢
 obtain ⟨hfm,⟨⟨⟨⟨⟨⟨a1,a2⟩,a3⟩,a4⟩,a5⟩,a6⟩,a7⟩⟩ := h
 have hl := hs.len
 refine ⟨hfm,⟨⟨⟨⟨⟨⟨?_,a2⟩,a3⟩,a4⟩,?_⟩,?_⟩,a7⟩⟩
 ·simp only [decide_eq_true_eq,compactW,List.length_map] at a1 ⊢; omega
 ·simp only [tasksB,Bool.and_eq_true] at a5 ⊢
  refine ⟨distinct_moved w.tasks [] htk (fun x hx => by cases hx) a5.1,?_⟩
  simp only [covered,List.all_eq_true]
  intro i hi
  have hi' : i < keep.length := by simpa [compactW] using hi
  rw [compact_at hi',isTask_moved]
  cases hk : isTask (w.obj keep[i]) with
  | false => simp
  | true =>
   have hri := hs.rng _ (List.getElem_mem hi')
   simp only [inR,decide_eq_true_eq] at hri
   obtain ⟨j,hj⟩ := Int.eq_ofNat_of_zero_le hri.1
   rw [hj] at hk
   have hm := hT2 j (by omega) hk
   simp only [Bool.not_true,Bool.or_false,List.any_eq_true,decide_eq_true_eq]
   refine ⟨(keep.idxOf (j : Int) : Int),List.mem_map.2 ⟨_,hm,rfl⟩,?_⟩
   rw [← hj,idx_of hs.rise hi']
 ·rw [List.all_eq_true] at a6 ⊢
  intro o ho
  obtain ⟨n,hn,rfl⟩ := List.mem_map.1 ho
  exact objOk_moved (a6 _ (obj_mem (hs.rng n hn))) (hs.refs n hn)
end Go.Proofs.YthpmfghgoabnhaaGreat
namespace Go.Proofs.YthpmfghgoabnhaaGreat
open Go.Abs Go.Proofs
theorem state_iff {p : BProg} {s : RState} : stateOk p s = true ↔ given p s.world = true ∧ MarksOk s.world s.marks ∧ s.ages.length = s.world.objs.length ∧ inR s.cycle 0 3 = true ∧ (∀ i : Nat,i < s.world.objs.length → inR (ageAt s i) 0 2 = true) ∧ (∀ i : Nat,i < s.world.objs.length → markN s.marks i = 0 → ageAt s i = 2 → s.cycle = 3) := by
 constructor
 ·intro h
  obtain ⟨a,b,c,d,e⟩ := state_marks h
  refine ⟨e,a,b,c,d,fun i hi h0 h2 => ?_⟩
  simp only [stateOk,lensOk,rowsOk,Bool.and_eq_true,decide_eq_true_eq,List.all_eq_true] at h
  have := (h.2 i (by simpa using hi)).2
  simp only [rowOk,whiteBad,Bool.and_eq_true,Bool.not_eq_true',mark_nat,h0,h2] at this
  by_cases hc : s.cycle = 3
  ·exact hc
  ·simp [hc] at this
 ·rintro ⟨hg,hm,hA,hc,hr,hw⟩
  simp only [stateOk,lensOk,rowsOk,Bool.and_eq_true,decide_eq_true_eq,List.all_eq_true]
  refine ⟨⟨hg,⟨hA,hm.len⟩,hc⟩,fun i hi => ?_⟩
  have hi : i < s.world.objs.length := by simpa using hi
  refine ⟨?_,?_⟩
  ·simp only [rangeOk,Bool.and_eq_true]
   refine ⟨hr i hi,?_⟩
   have := hm.range i (by rw [hm.len]; exact hi)
   rw [mark_nat]; simp only [inR,decide_eq_true_eq]; omega
  ·simp only [rowOk,Bool.and_eq_true,List.all_eq_true,Bool.not_eq_true']
   refine ⟨?_,fun x hx => ?_⟩
   ·rw [← Bool.not_eq_true]
    intro hb
    simp only [whiteBad,Bool.and_eq_true,Bool.or_eq_true,decide_eq_true_eq,Bool.not_eq_true',decide_eq_false_iff_not,mark_nat] at hb
    rcases hb with ⟨h0,ht | ⟨h2,h3⟩⟩
    ·exact hm.tasks i hi ht h0
    ·exact h3 (hw i hi h0 h2)
   ·rw [← Bool.not_eq_true]
    intro hb
    simp only [refBad,Bool.and_eq_true,decide_eq_true_eq,mark_nat] at hb
    exact hm.black i hi hb.1 x ((refs_mem _ _).1 hx) hb.2
theorem run_up (w : MWorld) {i : Nat} : ∀ (k : Nat) {m : List Int},¬ markN m i = 0 → ¬ markN (runS w k m) i = 0
 | 0,_,h => h
 | k + 1,m,h => by
  rw [runS]; split
  ·exact run_up w k (look_up h)
  ·exact h
theorem marksB_len (y : Int → Bool) (w : MWorld) (ages : List Int) (c : Int) : (marksB y w ages c).length = w.objs.length := by simp [marksB]
theorem marksB_at {y : Int → Bool} {w : MWorld} {ages : List Int} {c : Int} {i : Nat} (h : i < w.objs.length) : markN (marksB y w ages c) i = markB y w ages c i := by
 rw [markN_get (by rw [marksB_len]; exact h)]; simp [marksB]
theorem obj_at_mem {w : MWorld} {i : Nat} (h : i < w.objs.length) : w.obj i ∈ w.objs := by rw [objAt_get h]; exact List.getElem_mem _
theorem marks_begun {w : MWorld} {ages : List Int} {c : Int} (hin : InRange w) (hr : ∀ i : Nat,i < w.objs.length → inR (ageN ages i) 0 2 = true) :
  MarksOk w (marksB lt2 w ages c) ∧ ∀ i : Nat,i < w.objs.length → markN (marksB lt2 w ages c) i = 0 → ageN ages i = 2 → c = 3 := by
 refine ⟨⟨marksB_len ..,fun i hi => ?_,fun i hi ht => ?_,fun i hi h2 x hx => ?_⟩,fun i hi h0 h2 => ?_⟩
 ·rw [marksB_len] at hi
  rw [marksB_at hi,markB]
  split
  ·exact .inr (.inl rfl)
  ·split
   ·split
    ·exact .inr (.inl rfl)
    ·exact .inr (.inr rfl)
   ·exact .inl rfl
 ·rw [marksB_at hi,markB,if_pos ht]; decide
 ·have hxi := hin _ (obj_at_mem hi) x hx
  simp only [inR,decide_eq_true_eq] at hxi
  have hl : x.toNat < w.objs.length := by omega
  rw [marksB_at hi,markB] at h2
  split at h2
  ·exact absurd h2 (by decide)
  split at h2
  ·rename_i hc
   split at h2
   ·exact absurd h2 (by decide)
   ·rename_i hy
    have h3 : ¬ lt2 (ageN ages x) = true := fun e => hy (List.any_eq_true.2 ⟨x,(refs_mem _ _).2 hx,e⟩)
    have h4 := hr x.toNat hl
    have e5 : ageN ages (x.toNat : Nat) = ageN ages x := by rw [Int.toNat_of_nonneg hxi.1]
    rw [e5] at h4
    simp only [lt2,decide_eq_true_eq,inR] at h3 h4
    have h6 : ageN ages x = 2 := by omega
    rw [marksB_at hl,markB]
    split
    ·decide
    ·simp only [Bool.and_eq_true] at hc
     rw [e5,h6,hc.1]
     simp only [decide_true,Bool.and_self,if_true]
     split <;> decide
  ·exact absurd h2 (by decide)
 ·rw [marksB_at hi,markB] at h0
  split at h0
  ·exact absurd h0 (by decide)
  split at h0
  ·split at h0 <;> exact absurd h0 (by decide)
  ·rename_i hc
   by_cases h3 : c = 3
   ·exact h3
   ·exact absurd (by simp [h2,h3]) hc
theorem agesTo_in {s : RState} {m : List Int} {k : Nat} (hr : ∀ i : Nat,i < k → inR (ageAt s i) 0 2 = true) : ∀ x ∈ agesTo s m k,inR x 0 2 = true := by
 intro x hx
 obtain ⟨i,hi,rfl⟩ := List.mem_map.1 hx
 have hi := hr i (by have := (List.mem_filter.1 hi).1; simpa using this)
 simp only [inR,decide_eq_true_eq] at hi ⊢
 omega
theorem given_inRange {p : BProg} {w : MWorld} (h : given p w = true) : InRange w := fun o ho x hx => given_in h o ho x ((refs_mem _ _).2 hx)
theorem next_keep {p : BProg} {s : RState} {most : Nat} (h : stateOk p s = true) (hg : ¬ firstG (runS s.world most s.marks) < (runS s.world most s.marks).length) :
  Shut s.world (keepTo (runS s.world most s.marks) s.world.objs.length) ∧ ∀ t,(∃ i : Nat,t = (i : Int) ∧ i < s.world.objs.length ∧ isTask (s.world.obj i) = true) → t ∈ keepTo (runS s.world most s.marks) s.world.objs.length := by
 obtain ⟨hgv,hm,_,_,_,_⟩ := state_iff.1 h
 exact shut_marks (marks_run (given_inRange hgv) most hm) (given_inRange hgv) hg
theorem slice_state {p : BProg} {s : RState} {most : Nat} (h : stateOk p s = true) : stateOk p (sliceS s most) = true := by
 obtain ⟨hgv,hm,hA,hc,hr,hw⟩ := state_iff.1 h
 have hin := given_inRange hgv
 have hmr := marks_run hin most hm
 unfold sliceS
 split
 ·refine state_iff.2 ⟨hgv,hmr,hA,hc,hr,fun i hi h0 h2 => ?_⟩
  refine hw i hi ?_ h2
  by_cases h' : markN s.marks i = 0
  ·exact h'
  ·exact absurd h0 (run_up _ most h')
 ·rename_i hg
  obtain ⟨hs,ht⟩ := next_keep h hg
  have hgv' := compact_ok hgv hs ht
  have hl : (compactW s.world (keepTo (runS s.world most s.marks) s.world.objs.length)).objs.length = (keepTo (runS s.world most s.marks) s.world.objs.length).length := by simp [compactW]
  have hr' : ∀ i : Nat,i < (compactW s.world (keepTo (runS s.world most s.marks) s.world.objs.length)).objs.length → inR (ageN (agesTo s (runS s.world most s.marks) s.world.objs.length) i) 0 2 = true := fun i hi => by
   rw [ageN_get (by rw [agesTo_len]; omega)]
   exact agesTo_in hr _ (List.getElem_mem _)
  obtain ⟨b1,b2⟩ := marks_begun (c := (s.cycle + 1).tmod 4) (given_inRange hgv') hr'
  refine state_iff.2 ⟨hgv',b1,by rw [nextS,agesTo_len,hl],?_,hr',b2⟩
  simp only [inR,decide_eq_true_eq] at hc ⊢
  have : (s.cycle + 1).tmod 4 = (s.cycle + 1) % 4 := Int.tmod_eq_emod_of_nonneg (by omega)
  show 0 ≤ (s.cycle + 1).tmod 4 ∧ (s.cycle + 1).tmod 4 ≤ 3
  omega
theorem slice_small {p : BProg} {s : RState} {most : Nat} (h : stateOk p s = true) (hs : smallState s = true) : smallState (sliceS s most) = true := by
 obtain ⟨hgv,hm,hA,hc,hr,hw⟩ := state_iff.1 h
 simp only [smallState,Bool.and_eq_true,decide_eq_true_eq] at hs ⊢
 unfold sliceS
 split
 ·exact ⟨hs.1,by rw [runS_len]; exact hs.2⟩
 ·rename_i hg
  obtain ⟨hsh,ht⟩ := next_keep h hg
  have hkl := hsh.len
  have hml := hm.len
  refine ⟨⟨small_compact hs.1.1 hsh,?_⟩,?_⟩
  ·show ((agesTo _ _ _).length : Int) ≤ 130
   rw [agesTo_len]; omega
  ·show ((marksB _ _ _ _).length : Int) ≤ 130
   rw [marksB_len]
   simp only [compactW,List.length_map]; omega
end Go.Proofs.YthpmfghgoabnhaaGreat
namespace Go.Proofs.YthpmfghgoabnhaaGreat
open Go.Abs Go.Proofs
theorem R06_index_pc (l : List Int) (n : Int) (hl : Few l.length) : PC L F.R06_index [.fz (l.map (.int .i64)),.int .i64 n] (.int .i64 (l.idxOf n : Nat)) := by
 refine pc_of LF.R06_index rfl rfl ?_
 simp only [go_sem,qC,qG,qW,C.R06_index]
 refine wp_for (l.length) (fun k st => ∃ fr en cnt,st = ⟨fr,en,cnt⟩ ∧ (fr 0 = .fz (l.map (.int .i64))) ∧ (fr 1 = .int .i64 n) ∧ (fr 5 = .int .i64 k) ∧ (l.idxOf n = (l.drop k).idxOf n + k)) 0 (Nat.zero_le _) ⟨_,_,_,rfl,(by first | (simp only [go_sem,qW]; (try rfl); done) | rfl | simp),(by first | (simp only [go_sem,qW]; (try rfl); done) | rfl | simp),(by first | (simp only [go_sem,qW]; (try rfl); done) | rfl | simp),(by first | (simp only [go_sem,qW]; (try rfl); done) | rfl | simp)⟩ ?_
 rintro k st hk ⟨fr,en,cnt,rfl,h0,h1,h5,hI⟩
 simp only [go_sem,qC,qG,qW,h0,h1,h5]
 refine guardK_split (fun hq => ?_) (fun hq => ?_)
 ·have h' : k < l.length := of_decide_eq_true hq
  rw [idx_step h'] at hI
  simp only [go_sem,qC,qG,qW,hq,h',h0,h1,h5]
  refine condK_split (fun g => ?_) (fun g => ?_)
  ·have g' : ¬ l[k] = n := by simpa using g
   rw [if_neg g'] at hI
   simp only [go_sem,qC,qG,qW,h',h0,h1,h5]
   refine ⟨_,_,_,rfl,?_⟩
   simp only [go_sem,qW,h0,h1,h5,wrap_succ h' hl]
   omega
  ·have g' : l[k] = n := by simpa using g
   rw [if_pos g'] at hI
   simp only [go_sem,qC,qG,qW,h0,h1,h5]
   rw [hI,Nat.zero_add]
 ·have : k = l.length := by simp at hq; omega
  subst this
  simp only [go_sem,qC,qG,qW,hq,h0,h1,h5,Bool.not_true]
  rw [hI]; simp
theorem R06_moved_pc (l : List MVal) (keep : List Int) (hl : l.length ≤ 16777216) (hk : Few keep.length) : PC L F.R06_moved [.fz (l.map MVal.enc),.fz (keep.map (.int .i64))] (.fz ((movedL keep l).map MVal.enc)) := by
 have hf : Few l.length := by unfold Few; omega
 refine pc_of LF.R06_moved rfl rfl ?_
 simp only [go_sem,qC,qG,qW,C.R06_moved]
 refine wp_for l.length (fun k st => ∃ fr en cnt v,st = ⟨fr,en,cnt⟩ ∧ fr 0 = .fz (l.map MVal.enc) ∧ fr 1 = .fz (keep.map (.int .i64)) ∧ fr 5 = v ∧ fr 6 = .int .i64 k ∧ Mine en v 2 (((l.take k).map (movedV keep)).map MVal.enc) [29]) 0 (Nat.zero_le _) ⟨_,_,_,.cl [],rfl,by simp only [go_sem,qW],by simp only [go_sem,qW],by simp only [go_sem,qW],by simp only [go_sem,qW],Mine.nil _ _⟩ ?_
 rintro k st hk' ⟨fr,en,cnt,v,rfl,h0,h1,h5,h6,hv⟩
 simp only [go_sem,qC,qG,qW,h0,h1,h5,h6]
 refine condK_split (fun hq => ?_) (fun hq => ?_)
 ·have h' : k < l.length := of_decide_eq_true hq
  obtain ⟨g7,hg7⟩ : ∃ g,g = cnt 0 7 := ⟨_,rfl⟩
  refine wops_cut (fun st => (st.fr 0 = .fz (l.map MVal.enc)) ∧ (st.fr 1 = .fz (keep.map (.int .i64))) ∧ (st.fr 5 = v) ∧ (st.fr 6 = .int .i64 k) ∧ (st.fr 7 = .ptr ⟨0,7,g7⟩ 0) ∧ (st.en ⟨0,7,g7⟩ = some (.box [.int .i64 l[k].kind,.int .i64 l[k].n] false)) ∧ (Mine st.en v 2 (((l.take k).map (movedV keep)).map MVal.enc) [29])) ?_ ?_
  ·simp only [go_sem,qC,qG,qW,h',h0,h1,h5,h6,← hg7]
   exact hv.keep fun t g ht => by simp at ht; subst ht; simp only [go_sem,qW]
  ·rintro fr en cnt ⟨(h0 : fr 0 = .fz (l.map MVal.enc)),(h1 : fr 1 = .fz (keep.map (.int .i64))),(h5 : fr 5 = v),(h6 : fr 6 = .int .i64 k),(h7 : fr 7 = .ptr ⟨0,7,g7⟩ 0),(e7 : en ⟨0,7,g7⟩ = some (.box [.int .i64 l[k].kind,.int .i64 l[k].n] false)),(hv : Mine en v 2 (((l.take k).map (movedV keep)).map MVal.enc) [29])⟩
   simp only [go_sem,qC,qG,qW,h0,h1,h5,h6,h7,e7]
   refine condK_split (fun g => ?_) (fun g => ?_)
   ·have hx : movedV keep l[k] = ⟨l[k].kind,(keep.idxOf l[k].n : Int)⟩ := by rw [movedV,if_pos (show isRef l[k] = true from g)]
    simp only [go_sem,qC,qG,qW,h0,h1,h5,h6,h7,e7,(R06_index_pc keep l[k].n hk).ret]
    refine w_append (D := [29]) (xs := ((l.take k).map (movedV keep)).map MVal.enc) (ys := [MVal.enc (movedV keep l[k])]) (rs := []) ?_ ?_ ?_ ?_ ?_
    ·simp only [go_sem,qW,h5]
     exact hv.keep fun t g ht => by simp at ht; subst ht; simp only [go_sem,qW]
    ·rw [hx]; simp only [go_sem,qW]
    ·rfl
    ·simp; omega
    ·intro v' en' cnt' hown hen hcnt
     simp only [go_sem,qC,qG,qW,h0,h1,h6]
     refine ⟨h',_,_,_,v',rfl,?_⟩
     simp only [go_sem,qC,qG,qW,h0,h1,h6,wrap_succ h' hf]
     rw [moved_take h',List.map_append]
     exact Mine.sub (D := [29,29]) hown (by simp)
   ·have hx : movedV keep l[k] = l[k] := by
     have : isRef l[k] = false := g
     rw [movedV,if_neg (by rw [this]; decide)]
    simp only [go_sem,qC,qG,qW,h0,h1,h5,h6,h7,e7]
    refine w_append (D := [29]) (xs := ((l.take k).map (movedV keep)).map MVal.enc) (ys := [MVal.enc (movedV keep l[k])]) (rs := []) ?_ ?_ ?_ ?_ ?_
    ·simp only [go_sem,qW,h5]
     exact hv.keep fun t g ht => by simp at ht; subst ht; simp only [go_sem,qW]
    ·rw [hx]; simp only [go_sem,qW]
    ·rfl
    ·simp; omega
    ·intro v' en' cnt' hown hen hcnt
     simp only [go_sem,qC,qG,qW,h0,h1,h6]
     refine ⟨h',_,_,_,v',rfl,?_⟩
     simp only [go_sem,qC,qG,qW,h0,h1,h6,wrap_succ h' hf]
     rw [moved_take h',List.map_append]
     exact Mine.sub (D := [29,29]) hown (by simp)
 ·have : k = l.length := by simp at hq; omega
  subst this
  rw [List.take_length] at hv
  simp only [go_sem,qC,qG,qW,h0,h1,h5,h6]
  obtain ⟨r,ks,s1,_,_,s2,_⟩ := hv.snap 7
  simp only [go_sem,qC,qG,qW,s1,s2]
  rfl
def putL (out : List Int) (n : Int) : List Int := if out.any (fun x => decide (x = n)) = true then out else out ++ [n]
theorem some_put (out : List Int) (v : MVal) : someStep out v = if isRef v = true then putL out v.n else out := by
 unfold someStep putL
 cases isRef v <;> cases out.any (fun x => decide (x = v.n)) <;> rfl
theorem putL_len (out : List Int) (n : Int) : (putL out n).length ≤ out.length + 1 := by unfold putL; split <;> simp
theorem put_win (out : List Int) (n : Int) {v : Val} {en : En} {cnt : Nat → Nat → Nat} {D : List Nat} (hD : 12 ∈ D) (hm : Mine en v 1 (out.map (.int .i64)) D) (hb : out.length + 1 ≤ 16777216) :
  WIn L (.fn F.R06_put [] []) [v,.int .i64 n] en cnt fun r en' cnt' =>
   Mine en' r 1 ((putL out n).map (.int .i64)) D ∧ (∀ k t g,k ≠ 0 ∨ (t ∉ D ∧ t ≠ 11) → en' ⟨k,t,g⟩ = en ⟨k,t,g⟩) := by
 have hf : Few out.length := by unfold Few; omega
 obtain ⟨r,ks,s1,s2,s3⟩ := mine_ret hm
 refine win_of LF.R06_put rfl rfl ?_
 simp only [go_sem,qC,qG,qW,C.R06_put,s1,s3,(R06_listed_pc out n hf).ret]
 refine condK_split (fun hq => ?_) (fun hq => ?_)
 ·have e : putL out n = out := by rw [putL,if_pos hq]
  simp only [go_sem,qC,qG,qW,hq]
  rw [e]
  exact ⟨hm,fun _ _ _ _ => trivial⟩
 ·have e : putL out n = out ++ [n] := by rw [putL,if_neg (by rw [hq]; decide)]
  simp only [go_sem,qC,qG,qW,hq]
  refine w_append (D := D) (xs := out.map (.int .i64)) (ys := [.int .i64 n]) (rs := []) ?_ ?_ ?_ ?_ ?_
  ·simp only [go_sem,qW]
   exact hm.keep fun t g ht => by simp only [go_sem,qW]
  ·simp only [go_sem,qW]
  ·rfl
  ·simp; omega
  ·intro v' en' cnt' hown hen hcnt
   simp only [go_sem,qC,qG,qW]
   rw [e,List.map_append]
   refine ⟨Mine.sub hown (by intro t ht; rcases List.mem_cons.1 ht with rfl | ht <;> assumption),fun k t g h => ?_⟩
   rw [hen k t g (by rcases h with h | h; exact .inl h; exact .inr ⟨fun e => h.1 (e ▸ hD),h.1⟩)]
theorem put_fold {out : List Int} {l : List MVal} {k : Nat} (h : k < l.length) (hr : isRef l[k] = true) : someL out (l.take (k + 1)) = putL (someL out (l.take k)) l[k].n := by rw [someL_step h,some_put,if_pos hr]
theorem put_skip {out : List Int} {l : List MVal} {k : Nat} (h : k < l.length) (hr : isRef l[k] = false) : someL out (l.take (k + 1)) = someL out (l.take k) := by rw [someL_step h,some_put,if_neg (by rw [hr]; decide)]
theorem refs06_win (out : List Int) (l : List MVal) {v : Val} {en : En} {cnt : Nat → Nat → Nat} {D : List Nat} (hD : 12 ∈ D) (hm : Mine en v 1 (out.map (.int .i64)) D) (hb : out.length + l.length ≤ 16777216) :
  WIn L (.fn F.R06_refs [] []) [v,.fz (l.map MVal.enc)] en cnt fun r en' cnt' =>
   Mine en' r 1 ((someL out l).map (.int .i64)) D ∧ (∀ n t g,n ≠ 0 ∨ (t ∉ D ∧ t ≠ 11) → en' ⟨n,t,g⟩ = en ⟨n,t,g⟩) := by
 have hf : Few l.length := by unfold Few; omega
 obtain ⟨en0,hen0⟩ : ∃ e,e = en := ⟨_,rfl⟩
 refine win_of LF.R06_refs rfl rfl ?_
 simp only [go_sem,qC,qG,qW,C.R06_refs]
 refine wp_for l.length (fun k st => ∃ fr en cnt,st = ⟨fr,en,cnt⟩ ∧ fr 1 = .fz (l.map MVal.enc) ∧ fr 5 = .int .i64 k ∧ Mine en (fr 0) 1 ((someL out (l.take k)).map (.int .i64)) D ∧ (∀ n t g,n ≠ 0 ∨ (t ∉ D ∧ t ≠ 11) → en ⟨n,t,g⟩ = en0 ⟨n,t,g⟩)) 0 (Nat.zero_le _) ⟨_,_,_,rfl,by simp only [go_sem,qW],by simp only [go_sem,qW],by simp only [go_sem,qW]; simpa [someL] using hm,fun n t g h => by rw [hen0]⟩ ?_
 rintro k st hk ⟨fr,en,cnt,rfl,h1,h5,h0,hI⟩
 simp only [go_sem,qC,qG,qW,h1,h5]
 refine condK_split (fun h => ?_) (fun h => ?_)
 ·have h' : k < l.length := of_decide_eq_true h
  have hlen := someL_len (l.take k) out
  rw [List.length_take] at hlen
  simp only [go_sem,qC,qG,qW,h',h1,h5]
  refine condK_split (fun hg => ?_) (fun hg => ?_)
  ·have hx : isRef l[k] = true := hg
   simp only [go_sem,qC,qG,qW,h',h1,h5]
   refine (put_win (someL out (l.take k)) l[k].n hD h0 (by omega)).mono ?_
   rintro v' en' cnt' ⟨hm',hfr'⟩
   refine ⟨_,_,_,rfl,?_⟩
   simp only [go_sem,qC,qG,qW,h',h1,h5,wrap_succ h' hf]
   exact ⟨by rw [put_fold h' hx]; exact hm',fun n t g h => by rw [hfr' n t g h]; exact hI n t g h⟩
  ·have hx : isRef l[k] = false := hg
   simp only [go_sem,qC,qG,qW,h',h1,h5]
   refine ⟨_,_,_,rfl,?_⟩
   simp only [go_sem,qC,qG,qW,h',h1,h5,wrap_succ h' hf]
   exact ⟨by rw [put_skip h' hx]; exact h0,hI⟩
 ·have : k = l.length := by simp at h; omega
  subst this
  rw [List.take_length] at h0
  simp only [go_sem,qC,qG,qW]
  exact ⟨h0,fun n t g h => by rw [← hen0]; exact hI n t g h⟩
end Go.Proofs.YthpmfghgoabnhaaGreat
namespace Go.Proofs.YthpmfghgoabnhaaGreat
open Go.Abs Go.Proofs
def growO (out : List Int) (o : MObj) : List Int := o.frames.foldl (fun out f => someL (someL out f.env) f.vals) (someL out o.vals)
def tasksL (w : MWorld) : List Int := w.tasks.foldl putL []
def reachFrom (w : MWorld) : Nat → List Int → Nat → List Int
 | 0,out,_ => out
 | f + 1,out,i => if i < out.length then reachFrom w f (growO out (w.obj (numAt out i))) (i + 1) else out
def orderL (w : MWorld) : List Int := reachFrom w (w.objs.length + 1) (tasksL w) 0
theorem grow_mem {x : Int} {out : List Int} {o : MObj} : x ∈ growO out o ↔ x ∈ out ∨ x ∈ refsOf o := by
 unfold growO; rw [frames_mem,someL_mem]
 simp only [refsOf,List.mem_append,or_assoc]
theorem putL_mem {x n : Int} {out : List Int} : x ∈ putL out n ↔ x ∈ out ∨ x = n := by
 unfold putL; split
 ·rename_i h
  obtain ⟨y,hy,he⟩ := List.any_eq_true.1 h
  have := of_decide_eq_true he
  subst this
  exact ⟨.inl,fun h => h.elim id fun e => e ▸ hy⟩
 ·simp
theorem fold_put_mem {x : Int} : ∀ (l out : List Int),x ∈ l.foldl putL out ↔ x ∈ out ∨ x ∈ l
 | [],out => by simp
 | n :: l,out => by
  rw [List.foldl_cons,fold_put_mem l,putL_mem]; simp [or_assoc]
structure Adds (n : Nat) (a b : List Int) : Prop where
 pre : a <+: b
 once : b.Nodup
theorem putL_add {n : Int} {out : List Int} (h : out.Nodup) : out <+: putL out n ∧ (putL out n).Nodup := by
 unfold putL; split
 ·exact ⟨List.prefix_refl _,h⟩
 ·rename_i hn
  refine ⟨List.prefix_append _ _,List.nodup_append.2 ⟨h,by simp,?_⟩⟩
  intro a ha b hb e
  have hb' : b = n := by simpa using hb
  exact hn (List.any_eq_true.2 ⟨a,ha,decide_eq_true (by rw [e,hb'])⟩)
theorem step_add {v : MVal} {out : List Int} (h : out.Nodup) : out <+: someStep out v ∧ (someStep out v).Nodup := by
 rw [some_put]; split
 ·exact putL_add h
 ·exact ⟨List.prefix_refl _,h⟩
theorem some_add : ∀ (l : List MVal) {out : List Int},out.Nodup → out <+: someL out l ∧ (someL out l).Nodup
 | [],_,h => ⟨List.prefix_refl _,h⟩
 | v :: l,out,h => by
  obtain ⟨a,b⟩ := step_add (v := v) h
  obtain ⟨c,d⟩ := some_add l b
  exact ⟨a.trans c,d⟩
theorem frames_add : ∀ (l : List MFrame) {out : List Int},out.Nodup → out <+: l.foldl (fun out f => someL (someL out f.env) f.vals) out ∧ (l.foldl (fun out f => someL (someL out f.env) f.vals) out).Nodup
 | [],_,h => ⟨List.prefix_refl _,h⟩
 | f :: l,out,h => by
  obtain ⟨a,b⟩ := some_add f.env h
  obtain ⟨c,d⟩ := some_add f.vals b
  obtain ⟨e,g⟩ := frames_add l d
  exact ⟨(a.trans c).trans e,g⟩
theorem grow_add (o : MObj) {out : List Int} (h : out.Nodup) : out <+: growO out o ∧ (growO out o).Nodup := by
 obtain ⟨a,b⟩ := some_add o.vals h
 obtain ⟨c,d⟩ := frames_add o.frames b
 exact ⟨a.trans c,d⟩
theorem put_adds : ∀ (l : List Int) {out : List Int},out.Nodup → (l.foldl putL out).Nodup
 | [],_,h => h
 | n :: l,out,h => put_adds l (putL_add h).2
theorem nat_len : ∀ (n : Nat) {l : List Nat},l.Nodup → (∀ x ∈ l,x < n) → l.length ≤ n
 | 0,[],_,_ => Nat.le_refl _
 | 0,a :: l,_,h => by have := h a (by simp); omega
 | n + 1,l,h,hr => by
  have := nat_len n (h.erase n) (fun x hx => by
   obtain ⟨a,b⟩ := h.mem_erase_iff.1 hx
   have := hr x b
   omega)
  have hl := List.length_erase (a := n) (l := l)
  split at hl <;> omega
theorem once_len {n : Nat} {l : List Int} (h : l.Nodup) (hr : ∀ x ∈ l,inR x 0 ((n : Int) - 1) = true) : l.length ≤ n := by
 have h1 : (l.map Int.toNat).Nodup := by
  rw [List.Nodup,List.pairwise_map]
  refine h.imp_of_mem ?_
  intro a b ha hb hne e
  have h1 := hr a ha
  have h2 := hr b hb
  simp only [inR,decide_eq_true_eq] at h1 h2
  omega
 have := nat_len n h1 (fun x hx => by
  obtain ⟨y,hy,rfl⟩ := List.mem_map.1 hx
  have := hr y hy
  simp only [inR,decide_eq_true_eq] at this
  omega)
 simpa using this
def InR (w : MWorld) (l : List Int) : Prop := ∀ x ∈ l,inR x 0 ((w.objs.length : Int) - 1) = true
theorem grow_in {w : MWorld} {out : List Int} {n : Int} (hin : InRange w) (hr : InR w out) (hn : inR n 0 ((w.objs.length : Int) - 1) = true) : InR w (growO out (w.obj n)) := by
 intro x hx
 rcases grow_mem.1 hx with hx | hx
 ·exact hr x hx
 ·exact hin _ (obj_mem hn) x hx
theorem from_none {w : MWorld} {out : List Int} {i : Nat} (h : ¬ i < out.length) (f : Nat) : reachFrom w f out i = out := by
 cases f with
 | zero => rfl
 | succ f => rw [reachFrom,if_neg h]
def framesG (out : List Int) (o : MObj) (k : Nat) : List Int := (o.frames.take k).foldl (fun out f => someL (someL out f.env) f.vals) (someL out o.vals)
theorem framesG_step {out : List Int} {o : MObj} {k : Nat} (h : k < o.frames.length) : framesG out o (k + 1) = someL (someL (framesG out o k) o.frames[k].env) o.frames[k].vals := by
 unfold framesG; rw [take_step h]; simp only [List.foldl_append,List.foldl_cons,List.foldl_nil]
theorem framesG_full (out : List Int) (o : MObj) : framesG out o o.frames.length = growO out o := by unfold framesG growO; rw [List.take_length]
theorem framesG_len {out : List Int} {o : MObj} (hs : smallObj o = true) : ∀ (k : Nat),k ≤ o.frames.length → (framesG out o k).length ≤ out.length + 40 + 80 * k
 | 0,_ => by
  have h1 := someL_len o.vals out
  have h2 := (small_obj hs).1
  have e : framesG out o 0 = someL out o.vals := by simp [framesG]
  rw [e]; omega
 | k + 1,h => by
  have h1 := framesG_len (out := out) hs k (by omega)
  rw [framesG_step (by omega)]
  have h2 := someL_len o.frames[k].vals (someL (framesG out o k) o.frames[k].env)
  have h3 := someL_len o.frames[k].env (framesG out o k)
  have h4 := (small_obj hs).2.2 _ (List.getElem_mem (show k < o.frames.length by omega))
  omega
theorem tasks_step {w : MWorld} {k : Nat} (h : k < w.tasks.length) : (w.tasks.take (k + 1)).foldl putL [] = putL ((w.tasks.take k).foldl putL []) w.tasks[k] := by
 rw [take_step h]; simp only [List.foldl_append,List.foldl_cons,List.foldl_nil]
theorem fold_put_len : ∀ (l : List Int) (out : List Int),(l.foldl putL out).length ≤ out.length + l.length
 | [],out => by simp
 | n :: l,out => by
  have h1 := fold_put_len l (putL out n)
  have h2 := putL_len out n
  simp only [List.foldl_cons,List.length_cons] at h1 ⊢
  omega
theorem R06_Reach_pc (w : MWorld) (hw : w.few) (hsm : smallWorld w = true) (hin : InRange w) (ht : InR w w.tasks) : PC L F.R06_Reach [.agg [.fz (w.objs.map MObj.enc),.fz (w.tasks.map (.int .i64)),.fz (w.outs.map MOut.enc),.fz (w.ins.map (.int .i64)),.int .i64 w.used]] (.fz ((orderL w).map (.int .i64))) := by
 obtain ⟨b1,b2,b3,b4⟩ := smallW_len hsm
 refine pc_of LF.R06_Reach rfl rfl ?_
 simp only [go_sem,qC,qG,qW,C.R06_Reach]
 refine wp_for w.tasks.length (fun k st => ∃ fr en cnt,st = ⟨fr,en,cnt⟩ ∧ fr 1 = .ptr ⟨0,1,0⟩ 0 ∧ en ⟨0,1,0⟩ = some (.box [.fz (w.objs.map MObj.enc),.fz (w.tasks.map (.int .i64)),.fz (w.outs.map MOut.enc),.fz (w.ins.map (.int .i64)),.int .i64 w.used] false) ∧ fr 4 = .int .i64 k ∧ Mine en (fr 3) 1 (((w.tasks.take k).foldl putL []).map (.int .i64)) [12]) 0 (Nat.zero_le _) ⟨_,_,_,rfl,by simp only [go_sem,qW],by simp only [go_sem,qW],by simp only [go_sem,qW],by simp only [go_sem,qW]; exact Mine.nil _ _⟩ ?_
 rintro k st hk ⟨fr,en,cnt,rfl,h1,e1,h4,h3⟩
 simp only [go_sem,qC,qG,qW,h1,e1,h4]
 refine condK_split (fun hq => ?_) (fun hq => ?_)
 ·have h' : k < w.tasks.length := of_decide_eq_true hq
  have hl := fold_put_len (w.tasks.take k) []
  rw [List.length_take,List.length_nil] at hl
  simp only [go_sem,qC,qG,qW,h',h1,e1,h4]
  refine (put_win ((w.tasks.take k).foldl putL []) w.tasks[k] (D := [12]) (by simp) h3 (by omega)).mono ?_
  rintro v1 en1 cnt1 ⟨hm1,hfr1⟩
  have e1' := (hfr1 0 1 0 (.inr ⟨by simp,by simp⟩)).trans e1
  refine ⟨_,_,_,rfl,?_⟩
  simp only [go_sem,qC,qG,qW,h',h1,e1',h4,wrap_succ h' hw.tasks]
  rw [tasks_step h']
  exact hm1
 ·have : k = w.tasks.length := by simp at hq; omega
  subst this
  rw [List.take_length] at h3
  simp only [go_sem,qC,qG,qW,h1,e1,h4]
  refine Go.Abs.wp_loop (fun (x : List Int × Nat) (st : Go.Abs.St) => ∃ fr en cnt,st = ⟨fr,en,cnt⟩ ∧ fr 1 = .ptr ⟨0,1,0⟩ 0 ∧ en ⟨0,1,0⟩ = some (.box [.fz (w.objs.map MObj.enc),.fz (w.tasks.map (.int .i64)),.fz (w.outs.map MOut.enc),.fz (w.ins.map (.int .i64)),.int .i64 w.used] false) ∧ fr 5 = .int .i64 x.2 ∧ Mine en (fr 3) 1 (x.1.map (.int .i64)) [12] ∧
    x.1.Nodup ∧ InR w x.1 ∧ x.2 ≤ x.1.length ∧ reachFrom w (w.objs.length + 1 - x.2) x.1 x.2 = orderL w)
   (fun x => w.objs.length - x.2) (tasksL w,0)
   ⟨_,_,_,rfl,by simp only [go_sem,h1],by simp only [go_sem,e1],by simp only [go_sem,qW],by simp only [go_sem,qW]; exact h3,put_adds _ List.nodup_nil,fun x hx => ht x (((fold_put_mem w.tasks []).1 hx).elim (fun h => by cases h) id),Nat.zero_le _,rfl⟩ ?_
  clear h1 e1 h4 h3
  rintro ⟨out,i⟩ st ⟨fr,en,cnt,rfl,h1,e1,h5,h3,hn,hr,hi,ho⟩
  dsimp only at h5 h3 hn hr hi ho ⊢
  have hol := once_len hn hr
  have hlen := h3.len
  rw [List.length_map] at hlen
  simp only [go_sem,qC,qG,qW,h1,e1,h5,hlen]
  refine condK_split (fun hq => ?_) (fun hq => ?_)
  ·have h' : i < out.length := by simpa using hq
   obtain ⟨g,f,hv,he⟩ : ∃ g f,fr 3 = .bl ⟨0,12,g⟩ 0 out.length ∧ en ⟨0,12,g⟩ = some (.blk 1 (out.map (.int .i64)) f) := by
    rcases h3 with ⟨_,hx⟩ | ⟨t,g,f,hv,he,ht⟩
    ·rw [List.map_eq_nil_iff] at hx; rw [hx] at h'; cases h'
    ·have : t = 12 := by simpa using ht
     subst this
     exact ⟨g,f,by rw [hv,List.length_map],he⟩
   have hgi : (out.map (Val.int .i64))[i]? = some (.int .i64 (numAt out i)) := by rw [numAt_get h']; simp [h']
   have hni : inR (numAt out i) 0 ((w.objs.length : Int) - 1) = true := by rw [numAt_get h']; exact hr _ (List.getElem_mem h')
   obtain ⟨o,hoo⟩ : ∃ o,o = w.obj (numAt out i) := ⟨_,rfl⟩
   have hso : smallObj o = true := by rw [hoo]; exact smallW_obj hsm _ (obj_mem hni)
   obtain ⟨c1,c2,c3⟩ := small_frames hso
   obtain ⟨g6,hg6⟩ : ∃ g,g = cnt 0 6 := ⟨_,rfl⟩
   have hc1 : (0 : Int) ≤ (i : Int) := by omega
   have hc2 : (i : Int) < (out.length : Int) := by omega
   simp only [go_sem,qC,qG,qW,h',h1,e1,h5,hv,he]
   refine wp_foot ?_
   simp only [go_sem,qC,qG,qW,h',h1,e1,h5,hv,he,hgi,hc1,hc2,ia_obj hni,← hoo,← hg6,List.all_cons,List.getElem?_cons_zero,List.getElem?_cons_succ,Bool.true_or,Bool.or_true,Bool.false_eq_true,if_false,true_and,and_true,eq_self,if_true,Nat.zero_add,Int.toNat_natCast,List.length_map]
   have h3v : Mine en (.bl ⟨0,12,g⟩ 0 out.length) 1 (out.map (.int .i64)) [12] := hv ▸ h3
   refine (refs06_win out o.vals (D := [12]) (by simp) (h3v.keep fun t g ht => by simp at ht; subst ht; simp only [go_sem,qW]) (by omega)).mono ?_
   rintro v1 en1 cnt1 ⟨hm1,hfr1⟩
   have k1 : en1 ⟨0,1,0⟩ = some (.box [.fz (w.objs.map MObj.enc),.fz (w.tasks.map (.int .i64)),.fz (w.outs.map MOut.enc),.fz (w.ins.map (.int .i64)),.int .i64 w.used] false) := by rw [hfr1 0 1 0 (.inr ⟨by simp,by simp⟩)]; simp only [go_sem,qW,e1]
   have k6 : en1 ⟨0,6,g6⟩ = some (.box [.int .i64 o.form,.int .i64 o.n,.fz (o.vals.map MVal.enc),.fz (o.frames.map MFrame.enc)] false) := by rw [hfr1 0 6 g6 (.inr ⟨by simp,by simp⟩)]; simp only [go_sem,qW]
   refine wp_for o.frames.length (fun j st => ∃ fr en cnt,st = ⟨fr,en,cnt⟩ ∧ fr 1 = .ptr ⟨0,1,0⟩ 0 ∧ en ⟨0,1,0⟩ = some (.box [.fz (w.objs.map MObj.enc),.fz (w.tasks.map (.int .i64)),.fz (w.outs.map MOut.enc),.fz (w.ins.map (.int .i64)),.int .i64 w.used] false) ∧ fr 5 = .int .i64 i ∧ fr 6 = .ptr ⟨0,6,g6⟩ 0 ∧ en ⟨0,6,g6⟩ = some (.box [.int .i64 o.form,.int .i64 o.n,.fz (o.vals.map MVal.enc),.fz (o.frames.map MFrame.enc)] false) ∧ fr 7 = .int .i64 j ∧ Mine en (fr 3) 1 ((framesG out o j).map (.int .i64)) [12]) 0 (Nat.zero_le _)
    ⟨_,_,_,rfl,by simp only [go_sem,h1],by simp only [go_sem,k1],by simp only [go_sem,h5],by simp only [go_sem,qW],by simp only [go_sem,k6],by simp only [go_sem,qW],by simp only [go_sem,qW]; simpa [framesG] using hm1⟩ ?_
   clear h1 e1 h5 hv he h3 h3v hm1 hfr1 k1 k6 hlen
   rintro j st hj ⟨fr,en,cnt,rfl,h1,e1,h5,h6,e6,h7,h3⟩
   simp only [go_sem,qC,qG,qW,h1,e1,h5,h6,e6,h7]
   refine condK_split (fun hq2 => ?_) (fun hq2 => ?_)
   ·have h2' : j < o.frames.length := of_decide_eq_true hq2
    have h4' := c3 _ (List.getElem_mem h2')
    have hl := framesG_len (out := out) hso j hj
    have hl2 := someL_len o.frames[j].env (framesG out o j)
    have hff : Few o.frames.length := by unfold Few; omega
    simp only [go_sem,qC,qG,qW,h2',h1,e1,h5,h6,e6,h7]
    refine wp_foot ?_
    simp only [go_sem,qC,qG,qW,h2',h1,e1,h5,h6,e6,h7,List.all_cons,List.getElem?_cons_zero,List.getElem?_cons_succ,Bool.true_or,Bool.or_true]
    refine (refs06_win (framesG out o j) o.frames[j].env (D := [12]) (by simp) h3 (by omega)).mono ?_
    rintro v1 en1 cnt1 ⟨hm1,hfr1⟩
    have e6' := (hfr1 0 6 g6 (.inr ⟨by simp,by simp⟩)).trans e6
    have e1' := (hfr1 0 1 0 (.inr ⟨by simp,by simp⟩)).trans e1
    simp only [go_sem,qC,qG,qW,h2',h1,e1',h5,h6,e6',h7,List.all_cons,List.getElem?_cons_zero,List.getElem?_cons_succ,Bool.true_or,Bool.or_true]
    refine (refs06_win (someL (framesG out o j) o.frames[j].env) o.frames[j].vals (D := [12]) (by simp) hm1 (by omega)).mono ?_
    rintro v2 en2 cnt2 ⟨hm2,hfr2⟩
    have e6'' := (hfr2 0 6 g6 (.inr ⟨by simp,by simp⟩)).trans e6'
    have e1'' := (hfr2 0 1 0 (.inr ⟨by simp,by simp⟩)).trans e1'
    simp only [go_sem,qC,qG,qW,h2',h1,e1,e1',h5,h6,e6,e6',h7,List.all_cons,List.getElem?_cons_zero,List.getElem?_cons_succ,Bool.true_or,Bool.or_true,apart_m,sameE_obj,List.all_nil]
    refine ⟨rfl,_,_,_,rfl,?_⟩
    simp only [go_sem,qC,qG,qW,h2',h1,e1'',h5,h6,e6'',h7,wrap_succ h2' hff]
    rw [framesG_step h2']
    exact hm2
   ·have : j = o.frames.length := by simp at hq2; omega
    subst this
    rw [framesG_full] at h3
    have hfo : Few out.length := by unfold Few; omega
    obtain ⟨p1,p2⟩ := grow_add o hn
    simp only [go_sem,qC,qG,qW,h1,e1,h5,h6,e6,h7]
    refine ⟨(growO out o,i + 1),⟨_,_,_,rfl,?_⟩,by dsimp only; omega⟩
    simp only [go_sem,qC,qG,qW,h1,e1,h5,h6,e6,h7,wrap_succ h' hfo]
    refine ⟨h3,p2,?_,?_,?_⟩
    ·rw [hoo]; exact grow_in hin hr hni
    ·have := p1.length_le; omega
    ·have e : w.objs.length + 1 - i = (w.objs.length + 1 - (i + 1)) + 1 := by omega
     rw [e,reachFrom,if_pos h',← hoo] at ho
     exact ho
  ·have h' : ¬ i < out.length := by simpa using hq
   simp only [go_sem,qC,qG,qW,h1,e1,h5]
   obtain ⟨r,ks,s1,s2,s3⟩ := mine_ret h3
   rw [from_none h'] at ho
   simp only [go_sem,qC,qG,qW,s1,s2,ho]
end Go.Proofs.YthpmfghgoabnhaaGreat
namespace Go.Proofs.YthpmfghgoabnhaaGreat
open Go.Abs Go.Proofs
theorem from_in {w : MWorld} (hin : InRange w) : ∀ (f : Nat) {out : List Int} (i : Nat),out.Nodup → InR w out → (reachFrom w f out i).Nodup ∧ InR w (reachFrom w f out i)
 | 0,_,_,h,hr => ⟨h,hr⟩
 | f + 1,out,i,h,hr => by
  rw [reachFrom]; split
  ·rename_i hi
   exact from_in hin f (i + 1) (grow_add _ h).2 (grow_in hin hr (by rw [numAt_get hi]; exact hr _ (List.getElem_mem hi)))
  ·exact ⟨h,hr⟩
theorem tasksL_in {w : MWorld} (ht : InR w w.tasks) : InR w (tasksL w) := fun x hx => ht x (((fold_put_mem w.tasks []).1 hx).elim (fun h => by cases h) id)
theorem order_in {w : MWorld} (hin : InRange w) (ht : InR w w.tasks) : (orderL w).Nodup ∧ InR w (orderL w) := from_in hin _ 0 (put_adds _ List.nodup_nil) (tasksL_in ht)
theorem R06_Order_pc (w : MWorld) (hw : w.few) (hsm : smallWorld w = true) (hinR : InRange w) (ht : InR w w.tasks) :
  PC L F.R06_Order [.agg [.fz (w.objs.map MObj.enc),.fz (w.tasks.map (.int .i64)),.fz (w.outs.map MOut.enc),.fz (w.ins.map (.int .i64)),.int .i64 w.used]] (.agg [.fz ((compactW w (orderL w)).objs.map MObj.enc),.fz ((compactW w (orderL w)).tasks.map (.int .i64)),.fz ((compactW w (orderL w)).outs.map MOut.enc),.fz ((compactW w (orderL w)).ins.map (.int .i64)),.int .i64 (compactW w (orderL w)).used]) := by
 obtain ⟨hond,hin⟩ := order_in hinR ht
 have hk := once_len hond hin
 have hre := R06_Reach_pc w hw hsm hinR ht
 obtain ⟨keep,hkeep⟩ : ∃ l,l = orderL w := ⟨_,rfl⟩
 rw [← hkeep] at hre hk hin ⊢
 obtain ⟨b1,b2,b3,b4⟩ := smallW_len hsm
 have hfk : Few keep.length := by unfold Few; omega
 refine pc_of LF.R06_Order rfl rfl ?_
 simp only [go_sem,qC,qG,qW,C.R06_Order,hre.ret]
 refine wp_for keep.length (fun k st => ∃ fr en cnt v,st = ⟨fr,en,cnt⟩ ∧ fr 3 = .fz (keep.map (.int .i64)) ∧ fr 1 = .ptr ⟨0,1,0⟩ 0 ∧ en ⟨0,1,0⟩ = some (.box [.fz (w.objs.map MObj.enc),.fz (w.tasks.map (.int .i64)),.fz (w.outs.map MOut.enc),.fz (w.ins.map (.int .i64)),.int .i64 w.used] false) ∧ fr 2 = .ptr ⟨0,2,0⟩ 0 ∧ en ⟨0,2,0⟩ = some (.box [.cl [],.cl [],.cl [],.cl [],.int .i64 0] false) ∧ fr 4 = .ptr ⟨0,4,0⟩ 0 ∧ en ⟨0,4,0⟩ = some (.box [v,.cl [],.fz (w.outs.map MOut.enc),.fz (w.ins.map (.int .i64)),.int .i64 w.used] false) ∧ fr 5 = .int .i64 k ∧
  Mine en v 4 (((keep.take k).map fun n => movedO keep (w.obj n)).map MObj.enc) [75]) 0 (Nat.zero_le _) ⟨_,_,_,.cl [],rfl,by simp only [go_sem,qW],by simp only [go_sem,qW],by simp only [go_sem,qW],by simp only [go_sem,qW],by simp only [go_sem,qW],by simp only [go_sem,qW],by simp only [go_sem,qW],by simp only [go_sem,qW],Mine.nil _ _⟩ ?_
 rintro k st hk' ⟨fr,en,cnt,v,rfl,h1,h2,e2,h4,e4,h5,e5,h6,hv⟩
 simp only [go_sem,qC,qG,qW,h1,h2,e2,h4,e4,h5,e5,h6]
 refine condK_split (fun hq => ?_) (fun hq => ?_)
 ·have h' : k < keep.length := of_decide_eq_true hq
  have hi := hin _ (List.getElem_mem h')
  obtain ⟨o,ho⟩ : ∃ o,o = w.obj keep[k] := ⟨_,rfl⟩
  have hso : smallObj o = true := by rw [ho]; exact smallW_obj hsm _ (obj_mem hi)
  obtain ⟨c1,c2,c3⟩ := small_frames hso
  have hff : Few o.frames.length := by unfold Few; omega
  obtain ⟨g7,hg7⟩ : ∃ g,g = cnt 0 6 := ⟨_,rfl⟩
  obtain ⟨g8,hg8⟩ : ∃ g,g = cnt 0 7 := ⟨_,rfl⟩
  simp only [go_sem,qC,qG,qW,h',h1,h2,e2,h4,e4,h5,e5,h6]
  refine wp_foot ?_
  simp only [go_sem,qC,qG,qW,h',h1,h2,e2,h4,e4,h5,e5,h6,ia_obj hi,← ho,← hg7,List.all_cons,List.getElem?_cons_zero,List.getElem?_cons_succ,Bool.true_or,Bool.or_true,Bool.false_eq_true,if_false]
  refine wp_foot ?_
  simp only [go_sem,qC,qG,qW,h',h1,h2,e2,h4,e4,h5,e5,h6,← hg8,(R06_moved_pc o.vals keep (by omega) hfk).ret,List.all_cons,List.getElem?_cons_zero,List.getElem?_cons_succ,Bool.true_or,Bool.or_true,Bool.false_eq_true,if_false]
  refine wp_for o.frames.length (fun j st => ∃ fr en cnt vf,st = ⟨fr,en,cnt⟩ ∧ fr 3 = .fz (keep.map (.int .i64)) ∧ fr 1 = .ptr ⟨0,1,0⟩ 0 ∧ en ⟨0,1,0⟩ = some (.box [.fz (w.objs.map MObj.enc),.fz (w.tasks.map (.int .i64)),.fz (w.outs.map MOut.enc),.fz (w.ins.map (.int .i64)),.int .i64 w.used] false) ∧ fr 2 = .ptr ⟨0,2,0⟩ 0 ∧ en ⟨0,2,0⟩ = some (.box [.cl [],.cl [],.cl [],.cl [],.int .i64 0] false) ∧ fr 4 = .ptr ⟨0,4,0⟩ 0 ∧ en ⟨0,4,0⟩ = some (.box [v,.cl [],.fz (w.outs.map MOut.enc),.fz (w.ins.map (.int .i64)),.int .i64 w.used] false) ∧ fr 5 = .int .i64 k ∧
   fr 6 = .ptr ⟨0,6,g7⟩ 0 ∧ en ⟨0,6,g7⟩ = some (.box [.int .i64 o.form,.int .i64 o.n,.fz (o.vals.map MVal.enc),.fz (o.frames.map MFrame.enc)] false) ∧ fr 7 = .ptr ⟨0,7,g8⟩ 0 ∧ en ⟨0,7,g8⟩ = some (.box [.int .i64 o.form,.int .i64 o.n,.fz ((movedL keep o.vals).map MVal.enc),vf] false) ∧ fr 8 = .int .i64 j ∧ Mine en vf 3 (((o.frames.take j).map (movedF keep)).map MFrame.enc) [69] ∧ Mine en v 4 (((keep.take k).map fun n => movedO keep (w.obj n)).map MObj.enc) [75]) 0 (Nat.zero_le _)
   ⟨_,_,_,.cl [],rfl,by simp only [go_sem,h1],by simp only [go_sem,h2],by simp only [go_sem,e2],by simp only [go_sem,h4],by simp only [go_sem,e4],by simp only [go_sem,h5],by simp only [go_sem,e5],by simp only [go_sem,h6],by simp only [go_sem,qW],by simp only [go_sem,qW],by simp only [go_sem,qW],by simp only [go_sem,qW],by simp only [go_sem,qW],Mine.nil _ _,hv.keep fun t g ht => by simp at ht; subst ht; simp only [go_sem,qW]⟩ ?_
  clear hv e2 e4 e5 h1 h2 h4 h5 h6
  rintro j st hj' ⟨fr,en,cnt,vf,rfl,h1,h2,e2,h4,e4,h5,e5,h6,h7,e7,h8,e8,h9,mf,hv⟩
  simp only [go_sem,qC,qG,qW,h1,h2,e2,h4,e4,h5,e5,h6,h7,e7,h8,e8,h9]
  refine condK_split (fun hq2 => ?_) (fun hq2 => ?_)
  ·have h2' : j < o.frames.length := of_decide_eq_true hq2
   have hfm := c3 _ (List.getElem_mem h2')
   simp only [go_sem,qC,qG,qW,h2',h1,h2,e2,h4,e4,h5,e5,h6,h7,e7,h8,e8,h9]
   refine wp_foot ?_
   simp only [go_sem,qC,qG,qW,h2',h1,h2,e2,h4,e4,h5,e5,h6,h7,e7,h8,e8,h9,(R06_moved_pc o.frames[j].env keep (by omega) hfk).ret,(R06_moved_pc o.frames[j].vals keep (by omega) hfk).ret,List.all_cons,List.getElem?_cons_zero,List.getElem?_cons_succ,Bool.true_or,Bool.or_true,Bool.false_eq_true,if_false]
   refine wf_append (D := [69]) (xs := ((o.frames.take j).map (movedF keep)).map MFrame.enc) (ys := [MFrame.enc (movedF keep o.frames[j])]) (rs := []) ?_ ?_ ?_ rfl ?_ ?_
   ·simp only [go_sem,qW]
    exact mf.keep fun t g ht => by simp at ht; subst ht; simp only [go_sem,qW]
   ·rw [movedF_enc]; simp only [go_sem,qW]
   ·rfl
   ·simp; omega
   ·intro vf' en' cnt' r hown hen hcnt _ _ _
    have k2 : en' ⟨0,1,0⟩ = some (.box [.fz (w.objs.map MObj.enc),.fz (w.tasks.map (.int .i64)),.fz (w.outs.map MOut.enc),.fz (w.ins.map (.int .i64)),.int .i64 w.used] false) := by rw [hen 0 1 0 (.inr ⟨by decide,by simp⟩)]; simp only [go_sem,qW,e2]
    have k4 : en' ⟨0,2,0⟩ = some (.box [.cl [],.cl [],.cl [],.cl [],.int .i64 0] false) := by rw [hen 0 2 0 (.inr ⟨by decide,by simp⟩)]; simp only [go_sem,qW,e4]
    have k5 : en' ⟨0,4,0⟩ = some (.box [v,.cl [],.fz (w.outs.map MOut.enc),.fz (w.ins.map (.int .i64)),.int .i64 w.used] false) := by rw [hen 0 4 0 (.inr ⟨by decide,by simp⟩)]; simp only [go_sem,qW,e5]
    have k7 : en' ⟨0,6,g7⟩ = some (.box [.int .i64 o.form,.int .i64 o.n,.fz (o.vals.map MVal.enc),.fz (o.frames.map MFrame.enc)] false) := by rw [hen 0 6 g7 (.inr ⟨by decide,by simp⟩)]; simp only [go_sem,qW,e7]
    have k8 : en' ⟨0,7,g8⟩ = some (.box [.int .i64 o.form,.int .i64 o.n,.fz ((movedL keep o.vals).map MVal.enc),vf] false) := by rw [hen 0 7 g8 (.inr ⟨by decide,by simp⟩)]; simp only [go_sem,qW,e8]
    obtain ⟨s1,s2⟩ := hown.shape
    simp only [go_sem,qC,qG,qW,h1,h2,k2,h4,k4,h5,k5,h6,h7,k7,h8,k8,h9,s1,s2,List.all_cons,List.getElem?_cons_zero,List.getElem?_cons_succ,Bool.true_or,Bool.or_true,Bool.false_eq_true,if_false]
    refine ⟨_,_,_,vf',rfl,?_⟩
    simp only [go_sem,qC,qG,qW,h1,h2,k2,h4,k4,h5,k5,h6,h7,k7,h8,k8,h9,wrap_succ h2' hff]
    refine ⟨?_,?_⟩
    ·rw [take_step h2',List.map_append,List.map_append]
     refine Mine.sub (D := [69,69]) (Mine.keep (en := en') hown ?_) (by simp)
     intro t g ht; simp at ht; subst ht; simp only [go_sem,qW]
    ·refine hv.keep fun t g ht => ?_
     simp at ht; subst ht
     simp only [go_sem,qW,hen 0 75 g (.inr ⟨by decide,by simp⟩)]
  ·have : j = o.frames.length := by simp at hq2; omega
   subst this
   rw [List.take_length] at mf
   rcases mf with ⟨rfl,mx⟩ | ⟨t,gf,f,rfl,ef,ht⟩
   ·simp only [go_sem,qC,qG,qW,h1,h2,e2,h4,e4,h5,e5,h6,h7,e7,h8,e8,h9]
    have henc : MObj.enc (movedO keep (w.obj keep[k])) = .agg [.int .i64 o.form,.int .i64 o.n,.fz ((movedL keep o.vals).map MVal.enc),.fz []] := by rw [← ho,movedO_enc]; rw [mx]
    refine w_append (D := [75]) (xs := ((keep.take k).map fun n => movedO keep (w.obj n)).map MObj.enc) (ys := [MObj.enc (movedO keep (w.obj keep[k]))]) (rs := []) ?_ ?_ ?_ ?_ ?_
    ·simp only [go_sem,qW]
     exact hv
    ·rw [henc]; simp only [go_sem,qW]
    ·rfl
    ·simp; omega
    ·intro v' en' cnt' hown hen hcnt
     have k2 : en' ⟨0,1,0⟩ = some (.box [.fz (w.objs.map MObj.enc),.fz (w.tasks.map (.int .i64)),.fz (w.outs.map MOut.enc),.fz (w.ins.map (.int .i64)),.int .i64 w.used] false) := by rw [hen 0 1 0 (.inr ⟨by decide,by simp⟩)]; simp only [go_sem,qW,e2]
     have k4 : en' ⟨0,2,0⟩ = some (.box [.cl [],.cl [],.cl [],.cl [],.int .i64 0] false) := by rw [hen 0 2 0 (.inr ⟨by decide,by simp⟩)]; simp only [go_sem,qW,e4]
     have k5 : en' ⟨0,4,0⟩ = some (.box [v,.cl [],.fz (w.outs.map MOut.enc),.fz (w.ins.map (.int .i64)),.int .i64 w.used] false) := by rw [hen 0 4 0 (.inr ⟨by decide,by simp⟩)]; simp only [go_sem,qW,e5]
     obtain ⟨s1,s2⟩ := hown.shape
     simp only [go_sem,qC,qG,qW,h1,h2,k2,h4,k4,h5,k5,h6,s1,s2]
     refine ⟨_,_,_,v',rfl,?_⟩
     simp only [go_sem,qC,qG,qW,h1,h2,k2,h4,k4,h5,k5,h6,wrap_succ h' hfk]
     rw [aloneO_step h',List.map_append]
     refine Mine.sub (D := [75,75]) (Mine.keep (en := en') hown ?_) (by simp)
     intro t g ht; simp at ht; subst ht; simp only [go_sem,qW]
   ·have ht' : t = 69 := by simpa using ht
    subst ht'
    simp only [go_sem,qC,qG,qW,h1,h2,e2,h4,e4,h5,e5,h6,h7,e7,h8,e8,h9,ef,List.length_map,Nat.le_refl,if_true]
    have henc : MObj.enc (movedO keep (w.obj keep[k])) = .agg [.int .i64 o.form,.int .i64 o.n,.fz ((movedL keep o.vals).map MVal.enc),.fz ((o.frames.map (movedF keep)).map MFrame.enc)] := by rw [← ho,movedO_enc]
    have htk : ((o.frames.map (movedF keep)).map MFrame.enc).take o.frames.length = (o.frames.map (movedF keep)).map MFrame.enc := List.take_of_length_le (by simp)
    refine w_append (D := [75]) (xs := ((keep.take k).map fun n => movedO keep (w.obj n)).map MObj.enc) (ys := [MObj.enc (movedO keep (w.obj keep[k]))]) (rs := []) ?_ ?_ ?_ ?_ ?_
    ·simp only [go_sem,qW]
     exact hv.keep fun t g ht => by simp at ht; subst ht; simp only [go_sem,qW]
    ·rw [henc]; simp only [go_sem,qW,htk]
    ·rfl
    ·simp; omega
    ·intro v' en' cnt' hown hen hcnt
     have k2 : en' ⟨0,1,0⟩ = some (.box [.fz (w.objs.map MObj.enc),.fz (w.tasks.map (.int .i64)),.fz (w.outs.map MOut.enc),.fz (w.ins.map (.int .i64)),.int .i64 w.used] false) := by rw [hen 0 1 0 (.inr ⟨by decide,by simp⟩)]; simp only [go_sem,qW,e2]
     have k4 : en' ⟨0,2,0⟩ = some (.box [.cl [],.cl [],.cl [],.cl [],.int .i64 0] false) := by rw [hen 0 2 0 (.inr ⟨by decide,by simp⟩)]; simp only [go_sem,qW,e4]
     have k5 : en' ⟨0,4,0⟩ = some (.box [v,.cl [],.fz (w.outs.map MOut.enc),.fz (w.ins.map (.int .i64)),.int .i64 w.used] false) := by rw [hen 0 4 0 (.inr ⟨by decide,by simp⟩)]; simp only [go_sem,qW,e5]
     obtain ⟨s1,s2⟩ := hown.shape
     simp only [go_sem,qC,qG,qW,h1,h2,k2,h4,k4,h5,k5,h6,s1,s2]
     refine ⟨_,_,_,v',rfl,?_⟩
     simp only [go_sem,qC,qG,qW,h1,h2,k2,h4,k4,h5,k5,h6,wrap_succ h' hfk]
     rw [aloneO_step h',List.map_append]
     refine Mine.sub (D := [75,75]) (Mine.keep (en := en') hown ?_) (by simp)
     intro t g ht; simp at ht; subst ht; simp only [go_sem,qW]
 ·have : k = keep.length := by simp at hq; omega
  subst this
  rw [List.take_length] at hv
  simp only [go_sem,qC,qG,qW,h1,h2,e2,h4,e4,h5,e5,h6]
  refine wp_for w.tasks.length (fun j st => ∃ fr en cnt vt,st = ⟨fr,en,cnt⟩ ∧ fr 3 = .fz (keep.map (.int .i64)) ∧ fr 1 = .ptr ⟨0,1,0⟩ 0 ∧ en ⟨0,1,0⟩ = some (.box [.fz (w.objs.map MObj.enc),.fz (w.tasks.map (.int .i64)),.fz (w.outs.map MOut.enc),.fz (w.ins.map (.int .i64)),.int .i64 w.used] false) ∧ fr 2 = .ptr ⟨0,2,0⟩ 0 ∧ en ⟨0,2,0⟩ = some (.box [.cl [],.cl [],.cl [],.cl [],.int .i64 0] false) ∧ fr 4 = .ptr ⟨0,4,0⟩ 0 ∧ en ⟨0,4,0⟩ = some (.box [v,vt,.fz (w.outs.map MOut.enc),.fz (w.ins.map (.int .i64)),.int .i64 w.used] false) ∧ fr 10 = .int .i64 j ∧
   Mine en v 4 ((keep.map fun n => movedO keep (w.obj n)).map MObj.enc) [75] ∧ Mine en vt 1 (((w.tasks.take j).map fun t => (keep.idxOf t : Int)).map (.int .i64)) [94]) 0 (Nat.zero_le _)
   ⟨_,_,_,.cl [],rfl,by simp only [go_sem,h1],by simp only [go_sem,h2],by simp only [go_sem,e2],by simp only [go_sem,h4],by simp only [go_sem,e4],by simp only [go_sem,h5],by simp only [go_sem,e5],by simp only [go_sem,qW],hv,Mine.nil _ _⟩ ?_
  clear hv e2 e4 e5 h1 h2 h4 h5 h6
  rintro j st hj' ⟨fr,en,cnt,vt,rfl,h1,h2,e2,h4,e4,h5,e5,h11,hv,mt⟩
  simp only [go_sem,qC,qG,qW,h1,h2,e2,h4,e4,h5,e5,h11]
  refine condK_split (fun hq2 => ?_) (fun hq2 => ?_)
  ·have h2' : j < w.tasks.length := of_decide_eq_true hq2
   simp only [go_sem,qC,qG,qW,h2',h1,h2,e2,h4,e4,h5,e5,h11]
   refine wp_foot ?_
   simp only [go_sem,qC,qG,qW,h2',h1,h2,e2,h4,e4,h5,e5,h11,(R06_index_pc keep w.tasks[j] hfk).ret,List.all_cons,List.getElem?_cons_zero,List.getElem?_cons_succ,Bool.true_or,Bool.or_true,Bool.false_eq_true,if_false]
   refine wf_append (D := [94]) (xs := ((w.tasks.take j).map fun t => (keep.idxOf t : Int)).map (.int .i64)) (ys := [.int .i64 (keep.idxOf w.tasks[j] : Nat)]) (rs := []) ?_ ?_ ?_ rfl ?_ ?_
   ·simp only [go_sem,qW]
    exact mt
   ·simp only [go_sem,qW]
   ·rfl
   ·simp; omega
   ·intro vt' en' cnt' r hown hen hcnt _ _ _
    have k2 : en' ⟨0,1,0⟩ = some (.box [.fz (w.objs.map MObj.enc),.fz (w.tasks.map (.int .i64)),.fz (w.outs.map MOut.enc),.fz (w.ins.map (.int .i64)),.int .i64 w.used] false) := by rw [hen 0 1 0 (.inr ⟨by decide,by simp⟩)]; simp only [go_sem,qW,e2]
    have k4 : en' ⟨0,2,0⟩ = some (.box [.cl [],.cl [],.cl [],.cl [],.int .i64 0] false) := by rw [hen 0 2 0 (.inr ⟨by decide,by simp⟩)]; simp only [go_sem,qW,e4]
    have k5 : en' ⟨0,4,0⟩ = some (.box [v,vt,.fz (w.outs.map MOut.enc),.fz (w.ins.map (.int .i64)),.int .i64 w.used] false) := by rw [hen 0 4 0 (.inr ⟨by decide,by simp⟩)]; simp only [go_sem,qW,e5]
    obtain ⟨s1,s2⟩ := hown.shape
    simp only [go_sem,qC,qG,qW,h1,h2,k2,h4,k4,h5,k5,h11,s1,s2,List.all_cons,List.getElem?_cons_zero,List.getElem?_cons_succ,Bool.true_or,Bool.or_true,Bool.false_eq_true,if_false]
    refine ⟨_,_,_,vt',rfl,?_⟩
    simp only [go_sem,qC,qG,qW,h1,h2,k2,h4,k4,h5,k5,h11,wrap_succ h2' hw.tasks]
    refine ⟨?_,?_⟩
    ·refine hv.keep fun t g ht => ?_
     simp at ht; subst ht
     simp only [go_sem,qW,hen 0 75 g (.inr ⟨by decide,by simp⟩)]
    ·rw [take_step h2',List.map_append,List.map_append]
     refine Mine.sub (D := [94,94]) (Mine.keep (en := en') hown ?_) (by simp)
     intro t g ht; simp at ht; subst ht; simp only [go_sem,qW]
  ·have : j = w.tasks.length := by simp at hq2; omega
   subst this
   rw [List.take_length] at mt
   simp only [go_sem,qC,qG,qW,h1,h2,e2,h4,e4,h5,e5,h11]
   have e' : ∀ t g,¬ t = 2 → (en.set ⟨0,2,0⟩ (some (.box [v,vt,.fz (w.outs.map MOut.enc),.fz (w.ins.map (.int .i64)),.int .i64 w.used] false))) ⟨0,t,g⟩ = en ⟨0,t,g⟩ := fun t g h => en_ne_t h
   obtain ⟨x1,ks1,a1,a2,_⟩ := (hv.keep (en' := en.set ⟨0,2,0⟩ (some (.box [v,vt,.fz (w.outs.map MOut.enc),.fz (w.ins.map (.int .i64)),.int .i64 w.used] false))) fun t g ht => e' t g (by simp at ht; omega)).snap 6
   obtain ⟨x2,ks2,d1,d2,_⟩ := (mt.keep (en' := en.set ⟨0,2,0⟩ (some (.box [v,vt,.fz (w.outs.map MOut.enc),.fz (w.ins.map (.int .i64)),.int .i64 w.used] false))) fun t g ht => e' t g (by simp at ht; omega)).snap 6
   simp only [go_sem,qC,qG,qW,a1,a2,d1,d2]
   rfl
end Go.Proofs.YthpmfghgoabnhaaGreat
namespace Go.Proofs.YthpmfghgoabnhaaGreat
open Go.Abs Go.Proofs
def orderW (w : MWorld) : MWorld := compactW w (orderL w)
theorem orderW_few {w : MWorld} (hw : w.few) (hsm : smallWorld w = true) (hin : InRange w) (ht : InR w w.tasks) : (orderW w).few := by
 obtain ⟨hond,hi⟩ := order_in hin ht
 have hk := once_len hond hi
 have h1 := hw.objs
 exact compact_few hw hsm (by unfold Few at *; omega) hi
theorem R06_Alike_pc (a b : MWorld) (ha : a.few) (hb : b.few) (hsa : smallWorld a = true) (hsb : smallWorld b = true) (ia : InRange a) (ib : InRange b) (ta : InR a a.tasks) (tb : InR b b.tasks) :
  PC L F.R06_Alike [.agg [.fz (a.objs.map MObj.enc),.fz (a.tasks.map (.int .i64)),.fz (a.outs.map MOut.enc),.fz (a.ins.map (.int .i64)),.int .i64 a.used],.agg [.fz (b.objs.map MObj.enc),.fz (b.tasks.map (.int .i64)),.fz (b.outs.map MOut.enc),.fz (b.ins.map (.int .i64)),.int .i64 b.used]] (.bool (decide (orderW a = orderW b))) := by
 have h1 := R06_Order_pc a ha hsa ia ta
 have h2 := R06_Order_pc b hb hsb ib tb
 have h3 := R06_Same_pc (orderW a) (orderW b) (orderW_few ha hsa ia ta)
 simp only [orderW] at h3
 refine pc_of LF.R06_Alike rfl rfl ?_
 simp only [go_sem,qC,qG,qW,C.R06_Alike]
 refine wp_foot ?_
 simp only [go_sem,qC,qG,qW,h1.ret,h2.ret,h3.ret,List.all_cons,List.getElem?_cons_zero,List.getElem?_cons_succ,Bool.true_or,Bool.or_true,Bool.false_eq_true,if_false,orderW]
theorem W18_fair_pc (p : BProg) (s : RState) (hp : p.few) (hs : s.few) (hc : p.cons.length ≤ 1000) : PC L F.W18_fair [.agg [.fz (p.nodes.map BNode.enc),.fz (p.funs.map (.int .i64)),.int .i64 p.main,.fz (p.cons.map BCon.enc)],.agg [.fz (s.world.objs.map MObj.enc),.fz (s.world.tasks.map (.int .i64)),.fz (s.world.outs.map MOut.enc),.fz (s.world.ins.map (.int .i64)),.int .i64 s.world.used,.fz (s.ages.map (.int .i64)),.fz (s.marks.map (.int .i64)),.int .i64 s.cycle]] (.bool (smallState s && stateOk p s)) := by
 refine pc_of LF.W18_fair rfl rfl ?_
 simp only [go_sem,qC,qG,qW,C.W18_fair,(R18_SmallState_pc s hs).ret]
 refine guardK_split (fun g => ?_) (fun g => ?_)
 ·have hsw : smallWorld s.world = true := by
   simp only [smallState,Bool.and_eq_true] at g
   exact g.1.1
  simp only [go_sem,qC,qG,qW,g,(R18_State_pc p s hp hs hc hsw).ret,Bool.true_and]
 ·simp only [go_sem,qC,qG,qW,g,Bool.false_and]
theorem W18_given_pc (p : BProg) (s : RState) (most : Int) (hp : p.few) (hs : s.few) : PC L F.W18_given [.agg [.fz (p.nodes.map BNode.enc),.fz (p.funs.map (.int .i64)),.int .i64 p.main,.fz (p.cons.map BCon.enc)],.agg [.fz (s.world.objs.map MObj.enc),.fz (s.world.tasks.map (.int .i64)),.fz (s.world.outs.map MOut.enc),.fz (s.world.ins.map (.int .i64)),.int .i64 s.world.used,.fz (s.ages.map (.int .i64)),.fz (s.marks.map (.int .i64)),.int .i64 s.cycle],.int .i64 most] (.bool (smallProg p && smallState s && stateOk p s && inR most 1 200)) := by
 refine pc_of LF.W18_given rfl rfl ?_
 simp only [go_sem,qC,qG,qW,C.W18_given,(R05_SmallProg_pc p hp).ret]
 refine guardK_split (fun g1 => ?_) (fun g1 => ?_)
 ·have hc : p.cons.length ≤ 1000 := by
   have := g1
   simp only [smallProg,Bool.and_eq_true,decide_eq_true_eq] at this
   omega
  simp only [go_sem,qC,qG,qW,g1,(R18_SmallState_pc s hs).ret]
  refine guardK_split (fun g2 => ?_) (fun g2 => ?_)
  ·have hsw : smallWorld s.world = true := by
    simp only [smallState,Bool.and_eq_true] at g2
    exact g2.1.1
   simp only [go_sem,qC,qG,qW,g1,g2,(R18_State_pc p s hp hs hc hsw).ret]
   refine guardK_split (fun g3 => ?_) (fun g3 => ?_)
   ·simp only [go_sem,qC,qG,qW,g1,g2,g3,(Most_pc most).ret,Bool.true_and]
   ·simp only [go_sem,qC,qG,qW,g1,g2,g3,Bool.true_and,Bool.false_and]
  ·simp only [go_sem,qC,qG,qW,g1,g2,Bool.true_and,Bool.false_and]
 ·simp only [go_sem,qC,qG,qW,g1,Bool.false_and]
def leftTo (gone : List Int) (k : Nat) : List Int := ((List.range k).filter fun (i : Nat) => !memB gone i).map fun (i : Nat) => (i : Int)
end Go.Proofs.YthpmfghgoabnhaaGreat
namespace Go.Proofs.YthpmfghgoabnhaaGreat
open Go.Abs Go.Proofs
def plc (keep : List Int) (x : Int) : Int := (keep.idxOf x : Nat)
def Tasked (w : MWorld) (keep : List Int) : Prop := ∀ t,(∃ i : Nat,t = (i : Int) ∧ i < w.objs.length ∧ isTask (w.obj i) = true) → t ∈ keep
theorem plc_inj {keep : List Int} {x y : Int} (hx : x ∈ keep) (hy : y ∈ keep) (h : plc keep x = plc keep y) : x = y := idx_inj hx hy (by unfold plc at h; omega)
theorem put_plc {keep out : List Int} {n : Int} (ho : ∀ x ∈ out,x ∈ keep) (hn : n ∈ keep) : putL (out.map (plc keep)) (plc keep n) = (putL out n).map (plc keep) := by
 have e : (out.map (plc keep)).any (fun x => decide (x = plc keep n)) = out.any (fun x => decide (x = n)) := by
  rw [Bool.eq_iff_iff,List.any_eq_true,List.any_eq_true]
  constructor
  ·rintro ⟨x,hx,he⟩
   obtain ⟨y,hy,rfl⟩ := List.mem_map.1 hx
   exact ⟨y,hy,decide_eq_true (plc_inj (ho y hy) hn (of_decide_eq_true he))⟩
  ·rintro ⟨x,hx,he⟩
   exact ⟨plc keep x,List.mem_map.2 ⟨x,hx,rfl⟩,decide_eq_true (by rw [of_decide_eq_true he])⟩
 unfold putL; rw [e]; split
 ·rfl
 ·rw [List.map_append]; rfl
theorem some_plc {keep : List Int} : ∀ (l : List MVal) {out : List Int},(∀ x ∈ out,x ∈ keep) → (∀ x ∈ refVals l,x ∈ keep) → someL (out.map (plc keep)) (movedL keep l) = (someL out l).map (plc keep)
 | [],_,_,_ => rfl
 | v :: l,out,ho,hr => by
  have hv : isRef v = true → v.n ∈ keep := fun h => hr _ (refVals_mem (by simp) h)
  have hl : ∀ x ∈ refVals l,x ∈ keep := fun x hx => hr x (by
   obtain ⟨u,hu,rfl⟩ := List.mem_map.1 hx
   obtain ⟨h1,h2⟩ := List.mem_filter.1 hu
   exact refVals_mem (by simp [h1]) h2)
  have e : someStep (out.map (plc keep)) (movedV keep v) = (someStep out v).map (plc keep) := by
   rw [some_put,some_put]
   by_cases h : isRef v = true
   ·have hk : isRef (movedV keep v) = true := h
    have hn : (movedV keep v).n = plc keep v.n := by unfold movedV plc; rw [if_pos h]
    rw [if_pos h,if_pos hk,hn,put_plc ho (hv h)]
   ·have hk : ¬ isRef (movedV keep v) = true := h
    rw [if_neg h,if_neg hk]
  have ih := some_plc l (out := someStep out v) (fun x hx => by
   rcases (someStep_mem _ _ _).1 hx with hx | ⟨h,rfl⟩
   ·exact ho x hx
   ·exact hv h) hl
  show someL (someStep (out.map (plc keep)) (movedV keep v)) (movedL keep l) = (someL (someStep out v) l).map (plc keep)
  rw [e]; exact ih
theorem frames_plc {keep : List Int} : ∀ (l : List MFrame) {out : List Int},(∀ x ∈ out,x ∈ keep) → (∀ x ∈ l.flatMap frameRefs,x ∈ keep) →
  (l.map (movedF keep)).foldl (fun out f => someL (someL out f.env) f.vals) (out.map (plc keep)) = (l.foldl (fun out f => someL (someL out f.env) f.vals) out).map (plc keep)
 | [],_,_,_ => rfl
 | f :: l,out,ho,hr => by
  have he : ∀ x ∈ refVals f.env,x ∈ keep := fun x hx => hr x (List.mem_append_left _ (List.mem_append_left _ hx))
  have hv : ∀ x ∈ refVals f.vals,x ∈ keep := fun x hx => hr x (List.mem_append_left _ (List.mem_append_right _ hx))
  have ho1 : ∀ x ∈ someL out f.env,x ∈ keep := fun x hx => by
   rcases (someL_mem _ _ _).1 hx with hx | hx
   ·exact ho x hx
   ·exact he x hx
  have ho2 : ∀ x ∈ someL (someL out f.env) f.vals,x ∈ keep := fun x hx => by
   rcases (someL_mem _ _ _).1 hx with hx | hx
   ·exact ho1 x hx
   ·exact hv x hx
  have ih := frames_plc l ho2 fun x hx => hr x (List.mem_append_right _ hx)
  simp only [List.map_cons,List.foldl_cons]
  show (l.map (movedF keep)).foldl _ (someL (someL (out.map (plc keep)) (movedL keep f.env)) (movedL keep f.vals)) = _
  rw [some_plc _ ho he,some_plc _ ho1 hv]
  exact ih
theorem grow_plc {keep out : List Int} {o : MObj} (ho : ∀ x ∈ out,x ∈ keep) (hr : ∀ x ∈ refsOf o,x ∈ keep) : growO (out.map (plc keep)) (movedO keep o) = (growO out o).map (plc keep) := by
 have hv : ∀ x ∈ refVals o.vals,x ∈ keep := fun x hx => hr x (List.mem_append_left _ hx)
 have hf : ∀ x ∈ o.frames.flatMap frameRefs,x ∈ keep := fun x hx => hr x (List.mem_append_right _ hx)
 have ho1 : ∀ x ∈ someL out o.vals,x ∈ keep := fun x hx => by
  rcases (someL_mem _ _ _).1 hx with hx | hx
  ·exact ho x hx
  ·exact hv x hx
 show (o.frames.map (movedF keep)).foldl _ (someL (out.map (plc keep)) (movedL keep o.vals)) = _
 rw [some_plc _ ho hv]
 exact frames_plc _ ho1 hf
theorem from_plc {w : MWorld} {keep : List Int} (hs : Shut w keep) : ∀ (f : Nat) {out : List Int} (i : Nat),(∀ x ∈ out,x ∈ keep) →
  reachFrom (compactW w keep) f (out.map (plc keep)) i = (reachFrom w f out i).map (plc keep) ∧ ∀ x ∈ reachFrom w f out i,x ∈ keep
 | 0,_,_,h => ⟨rfl,h⟩
 | f + 1,out,i,h => by
  rw [reachFrom,reachFrom,List.length_map]
  split
  ·rename_i hi
   have hm := h _ (List.getElem_mem hi)
   have e1 : numAt (out.map (plc keep)) i = plc keep (numAt out i) := by
    rw [numAt_get (by rw [List.length_map]; exact hi),numAt_get hi,List.getElem_map]
   have e2 : (compactW w keep).obj (plc keep (numAt out i)) = movedO keep (w.obj (numAt out i)) := by
    rw [numAt_get hi]; exact compact_obj hm
   have hr : ∀ x ∈ refsOf (w.obj (numAt out i)),x ∈ keep := by rw [numAt_get hi]; exact hs.refs _ hm
   rw [e1,e2,grow_plc h hr]
   exact from_plc hs f (i + 1) fun x hx => by
    rcases grow_mem.1 hx with hx | hx
    ·exact h x hx
    ·exact hr x hx
  ·exact ⟨rfl,h⟩
theorem from_more {w : MWorld} (hin : InRange w) : ∀ (f : Nat) {out : List Int} (i : Nat),out.Nodup → InR w out → w.objs.length + 1 ≤ f + i → reachFrom w (f + 1) out i = reachFrom w f out i
 | 0,out,i,h,hr,hf => by
  have := once_len h hr
  rw [from_none (by omega),from_none (by omega)]
 | f + 1,out,i,h,hr,hf => by
  by_cases hi : i < out.length
  ·have e : ∀ f,reachFrom w (f + 1) out i = reachFrom w f (growO out (w.obj (numAt out i))) (i + 1) := fun f => by rw [reachFrom,if_pos hi]
   rw [e,e]
   exact from_more hin f (i + 1) (grow_add _ h).2 (grow_in hin hr (by rw [numAt_get hi]; exact hr _ (List.getElem_mem hi))) (by omega)
  ·rw [from_none hi,from_none hi]
theorem from_add {w : MWorld} (hin : InRange w) {out : List Int} {i f : Nat} (h : out.Nodup) (hr : InR w out) (hf : w.objs.length + 1 ≤ f + i) : ∀ d,reachFrom w (f + d) out i = reachFrom w f out i
 | 0 => rfl
 | d + 1 => by rw [← Nat.add_assoc,from_more hin (f + d) i h hr (by omega),from_add hin h hr hf d]
theorem tasks_plc {keep : List Int} : ∀ (l : List Int) {out : List Int},(∀ x ∈ out,x ∈ keep) → (∀ x ∈ l,x ∈ keep) → (l.map (plc keep)).foldl putL (out.map (plc keep)) = (l.foldl putL out).map (plc keep)
 | [],_,_,_ => rfl
 | n :: l,out,ho,hl => by
  simp only [List.map_cons,List.foldl_cons]
  rw [put_plc ho (hl n (by simp))]
  exact tasks_plc l (fun x hx => by
   rcases putL_mem.1 hx with hx | rfl
   ·exact ho x hx
   ·exact hl _ (by simp)) fun x hx => hl x (by simp [hx])
theorem idx_map {keep : List Int} : ∀ (l : List Int) {n : Int},(∀ x ∈ l,x ∈ keep) → n ∈ keep → (l.map (plc keep)).idxOf (plc keep n) = l.idxOf n
 | [],_,_,_ => rfl
 | y :: l,n,hl,hn => by
  rw [List.map_cons,List.idxOf_cons,List.idxOf_cons,idx_map l (fun x hx => hl x (by simp [hx])) hn]
  have e : (plc keep y == plc keep n) = (y == n) := by
   rw [Bool.eq_iff_iff,beq_iff_eq,beq_iff_eq]
   exact ⟨fun h => plc_inj (hl y (by simp)) hn h,fun h => by rw [h]⟩
  rw [e]
theorem movedV_plc {keep l : List Int} {v : MVal} (hl : ∀ x ∈ l,x ∈ keep) (hr : isRef v = true → v.n ∈ keep) : movedV (l.map (plc keep)) (movedV keep v) = movedV l v := by
 by_cases h : isRef v = true
 ·have hk : isRef (movedV keep v) = true := h
  have hn : (movedV keep v).n = plc keep v.n := by unfold movedV plc; rw [if_pos h]
  unfold movedV at hn hk ⊢
  simp only [h,if_true] at hn hk ⊢
  rw [hk,if_pos rfl]
  have e : ((keep.idxOf v.n : Nat) : Int) = plc keep v.n := rfl
  rw [e,idx_map l hl (hr h)]
 ·have e : movedV keep v = v := by rw [movedV,if_neg h]
  rw [e,movedV,movedV,if_neg h,if_neg h]
theorem movedL_plc {keep l : List Int} {vs : List MVal} (hl : ∀ x ∈ l,x ∈ keep) (hr : ∀ x ∈ refVals vs,x ∈ keep) : movedL (l.map (plc keep)) (movedL keep vs) = movedL l vs := by
 unfold movedL; rw [List.map_map]
 apply List.map_congr_left
 intro v hv
 exact movedV_plc hl fun h => hr _ (refVals_mem hv h)
theorem movedO_plc {keep l : List Int} {o : MObj} (hl : ∀ x ∈ l,x ∈ keep) (hr : ∀ x ∈ refsOf o,x ∈ keep) : movedO (l.map (plc keep)) (movedO keep o) = movedO l o := by
 have hv : ∀ x ∈ refVals o.vals,x ∈ keep := fun x hx => hr x (List.mem_append_left _ hx)
 unfold movedO
 simp only [List.map_map]
 rw [movedL_plc hl hv]
 congr 1
 apply List.map_congr_left
 intro f hf
 have hf' : ∀ x ∈ frameRefs f,x ∈ keep := fun x hx => hr x (List.mem_append_right _ (List.mem_flatMap.2 ⟨f,hf,hx⟩))
 show movedF (l.map (plc keep)) (movedF keep f) = movedF l f
 unfold movedF
 simp only
 rw [movedL_plc hl fun x hx => hf' x (List.mem_append_left _ hx),movedL_plc hl fun x hx => hf' x (List.mem_append_right _ hx)]
theorem compact_plc {w : MWorld} {keep l : List Int} (hs : Shut w keep) (ht : ∀ t ∈ w.tasks,t ∈ keep) (hl : ∀ x ∈ l,x ∈ keep) : compactW (compactW w keep) (l.map (plc keep)) = compactW w l := by
 have e1 : ((l.map (plc keep)).map fun n => movedO (l.map (plc keep)) ((compactW w keep).obj n)) = l.map fun n => movedO l (w.obj n) := by
  rw [List.map_map]
  apply List.map_congr_left
  intro n hn
  show movedO (l.map (plc keep)) ((compactW w keep).obj (plc keep n)) = _
  have e2 : (compactW w keep).obj (plc keep n) = movedO keep (w.obj n) := compact_obj (hl n hn)
  rw [e2,movedO_plc hl (hs.refs n (hl n hn))]
 have e3 : (w.tasks.map (plc keep)).map (fun t => ((l.map (plc keep)).idxOf t : Int)) = w.tasks.map fun t => (l.idxOf t : Int) := by
  rw [List.map_map]
  apply List.map_congr_left
  intro t hm
  show (((l.map (plc keep)).idxOf (plc keep t) : Nat) : Int) = _
  rw [idx_map l hl (ht t hm)]
 have e4 : (compactW w keep).tasks = w.tasks.map (plc keep) := rfl
 unfold compactW at e1 e4 ⊢
 simp only at e1 e4 ⊢
 rw [e1]
 congr 1
theorem order_plc {w : MWorld} {keep : List Int} (hin : InRange w) (hs : Shut w keep) (ht : ∀ t ∈ w.tasks,t ∈ keep) :
  orderL (compactW w keep) = (orderL w).map (plc keep) ∧ ∀ x ∈ orderL w,x ∈ keep := by
 have htl : ∀ x ∈ tasksL w,x ∈ keep := fun x hx => ht x (((fold_put_mem w.tasks []).1 hx).elim (fun h => by cases h) id)
 have h1 : tasksL (compactW w keep) = (tasksL w).map (plc keep) := tasks_plc w.tasks (out := []) (fun x hx => by cases hx) ht
 obtain ⟨h2,h3⟩ := from_plc hs (w.objs.length + 1) 0 htl
 refine ⟨?_,h3⟩
 rw [← orderL] at h2
 rw [← h2,← h1]
 have hl : (compactW w keep).objs.length = keep.length := by simp [compactW]
 have hkl := hs.len
 have hin' := compact_in hs
 have htr : InR (compactW w keep) (tasksL (compactW w keep)) := by
  rw [h1]
  intro x hx
  obtain ⟨y,hy,rfl⟩ := List.mem_map.1 hx
  have := idx_lt (htl y hy)
  simp only [inR,decide_eq_true_eq,hl,plc]; omega
 have h4 := from_add hin' (put_adds _ List.nodup_nil) htr (i := 0) (f := keep.length + 1) (by omega) (w.objs.length - keep.length)
 rw [orderL,hl]
 rw [show keep.length + 1 + (w.objs.length - keep.length) = w.objs.length + 1 by omega] at h4
 exact h4.symm
theorem order_same {w : MWorld} {keep : List Int} (hin : InRange w) (hs : Shut w keep) (ht : ∀ t ∈ w.tasks,t ∈ keep) : orderW (compactW w keep) = orderW w := by
 obtain ⟨h1,h2⟩ := order_plc hin hs ht
 unfold orderW
 rw [h1,compact_plc hs ht h2]
end Go.Proofs.YthpmfghgoabnhaaGreat
namespace Go.Proofs.YthpmfghgoabnhaaGreat
open Go.Abs Go.Proofs
def allL (n : Nat) : List Int := (List.range n).map fun (i : Nat) => (i : Int)
theorem allL_rise (n : Nat) : (allL n).Pairwise (· < ·) := by
 unfold allL; rw [List.pairwise_map]
 exact (List.pairwise_lt_range).imp fun {a b} (h : a < b) => by omega
theorem allL_len (n : Nat) : (allL n).length = n := by simp [allL]
theorem allL_mem {n : Nat} {x : Int} : x ∈ allL n ↔ inR x 0 ((n : Int) - 1) = true := by
 simp only [allL,List.mem_map,List.mem_range,inR,decide_eq_true_eq]
 constructor
 ·rintro ⟨i,hi,rfl⟩; omega
 ·intro h; exact ⟨x.toNat,by omega,by omega⟩
theorem allL_idx {n : Nat} {x : Int} (h : inR x 0 ((n : Int) - 1) = true) : (((allL n).idxOf x : Nat) : Int) = x := by
 simp only [inR,decide_eq_true_eq] at h
 have hl : x.toNat < (allL n).length := by rw [allL_len]; omega
 have e : (allL n)[x.toNat] = x := by simp only [allL,List.getElem_map,List.getElem_range]; omega
 have := idx_of (allL_rise n) hl
 rw [e] at this
 omega
theorem allL_shut {w : MWorld} (hin : InRange w) : Shut w (allL w.objs.length) :=
 ⟨allL_rise _,fun x hx => allL_mem.1 hx,fun n hn x hx => allL_mem.2 (hin _ (obj_mem (allL_mem.1 hn)) x hx),by rw [allL_len]; exact Nat.le_refl _⟩
theorem allL_tasked (w : MWorld) : Tasked w (allL w.objs.length) := by
 rintro t ⟨i,rfl,hi,_⟩
 exact allL_mem.2 (by simp only [inR,decide_eq_true_eq]; omega)
theorem movedL_all {n : Nat} {l : List MVal} (h : ∀ x ∈ refVals l,inR x 0 ((n : Int) - 1) = true) : movedL (allL n) l = l := by
 unfold movedL
 rw [List.map_congr_left (g := id),List.map_id]
 intro v hv
 unfold movedV
 by_cases hr : isRef v = true
 ·rw [if_pos hr,allL_idx (h _ (refVals_mem hv hr))]; rfl
 ·rw [if_neg hr]; rfl
theorem movedO_all {n : Nat} {o : MObj} (h : ∀ x ∈ refsOf o,inR x 0 ((n : Int) - 1) = true) : movedO (allL n) o = o := by
 unfold movedO
 rw [movedL_all fun x hx => h x (List.mem_append_left _ hx),List.map_congr_left (g := id),List.map_id]
 intro f hf
 have hf' : ∀ x ∈ frameRefs f,inR x 0 ((n : Int) - 1) = true := fun x hx => h x (List.mem_append_right _ (List.mem_flatMap.2 ⟨f,hf,hx⟩))
 unfold movedF
 rw [movedL_all fun x hx => hf' x (List.mem_append_left _ hx),movedL_all fun x hx => hf' x (List.mem_append_right _ hx)]; rfl
theorem compact_all {w : MWorld} (hin : InRange w) (ht : InR w w.tasks) : compactW w (allL w.objs.length) = w := by
 have e1 : ((allL w.objs.length).map fun n => movedO (allL w.objs.length) (w.obj n)) = w.objs := by
  apply List.ext_getElem
  ·simp [allL_len]
  ·intro i h1 h2
   simp only [List.getElem_map,allL,List.getElem_range]
   rw [objAt_get h2]
   exact movedO_all (hin _ (List.getElem_mem h2))
 have e2 : (w.tasks.map fun t => ((allL w.objs.length).idxOf t : Int)) = w.tasks := by
  rw [List.map_congr_left (g := id),List.map_id]
  intro t hm
  exact allL_idx (ht t hm)
 unfold compactW; rw [e1,e2]
theorem alone_of {w : MWorld} {keep : List Int} (hs : Shut w keep) (ht : Tasked w keep) : aloneOk w keep = true := by
 rw [alone_all]
 intro i hi
 unfold aloneRow
 rw [Bool.and_eq_true]
 refine ⟨?_,?_⟩
 ·rw [Bool.not_eq_true',← Bool.not_eq_true]
  intro h
  simp only [Bool.and_eq_true,Bool.not_eq_true'] at h
  have := memB_iff.2 (ht i ⟨i,rfl,hi,h.1⟩)
  rw [h.2] at this; cases this
 ·rw [List.all_eq_true]
  intro x hx
  rw [Bool.not_eq_true',← Bool.not_eq_true]
  intro h
  simp only [lostB,Bool.and_eq_true,Bool.not_eq_true'] at h
  have := memB_iff.2 (hs.refs i (memB_iff.1 h.1) x ((refs_mem _ _).1 hx))
  rw [h.2] at this; cases this
theorem given_tasked {p : BProg} {w : MWorld} (h : given p w = true) : InR w w.tasks ∧ ∀ keep,Tasked w keep → ∀ t ∈ w.tasks,t ∈ keep := by
 obtain ⟨a,b⟩ := given_tasks h
 refine ⟨fun t ht => ?_,fun keep hk t ht => hk t (a t ht)⟩
 obtain ⟨i,rfl,hi,_⟩ := a t ht
 simp only [inR,decide_eq_true_eq]; omega
structure Goes (w : MWorld) (gone : List Int) (w' : MWorld) : Prop where
 shut : Shut w (leftTo gone w.objs.length)
 tasked : Tasked w (leftTo gone w.objs.length)
 rng : InR w gone
 free : ∀ x ∈ gone,memB (orderL w) x = false
 once : gone.Nodup
 left : compactW w (leftTo gone w.objs.length) = w'
theorem slice_cycle (s : RState) (k : Nat) : (sliceS s k).cycle = if sliceE s k = true then (s.cycle + 1).tmod 4 else s.cycle := by
 unfold sliceS sliceE
 split
 ·rename_i h; rw [decide_eq_true h]; rfl
 ·rename_i h; rw [decide_eq_false h]; rfl
theorem given_facts {p : BProg} {s : RState} {most : Int} (h : (smallProg p && smallState s && stateOk p s && inR most 1 200) = true) :
  smallProg p = true ∧ smallState s = true ∧ stateOk p s = true ∧ p.cons.length ≤ 1000 ∧ smallWorld s.world = true ∧ ∃ k : Nat,most = k ∧ 1 ≤ k ∧ k ≤ 200 ∧ inR k 1 200 = true := by
 simp only [Bool.and_eq_true] at h
 obtain ⟨⟨⟨h1,h2⟩,h3⟩,h4⟩ := h
 have h5 := h4
 simp only [inR,decide_eq_true_eq] at h5
 refine ⟨h1,h2,h3,?_,?_,most.toNat,by omega,by omega,by omega,?_⟩
 ·simp only [smallProg,Bool.and_eq_true,decide_eq_true_eq] at h1; omega
 ·simp only [smallState,Bool.and_eq_true] at h2; exact h2.1.1
 ·rw [Int.toNat_of_nonneg (by omega)]; exact h4
theorem slice_pc {p : BProg} {s : RState} {k : Nat} (hp : p.few) (hs : s.few) (hsp : smallProg p = true) (hss : smallState s = true) (hst : stateOk p s = true) (hk : inR k 1 200 = true) :
  PC L F.reap_Slice [.agg [.fz (p.nodes.map BNode.enc),.fz (p.funs.map (.int .i64)),.int .i64 p.main,.fz (p.cons.map BCon.enc)],.agg [.fz (s.world.objs.map MObj.enc),.fz (s.world.tasks.map (.int .i64)),.fz (s.world.outs.map MOut.enc),.fz (s.world.ins.map (.int .i64)),.int .i64 s.world.used,.fz (s.ages.map (.int .i64)),.fz (s.marks.map (.int .i64)),.int .i64 s.cycle],.int .i64 k] (.tup [.agg [.fz ((sliceS s k).world.objs.map MObj.enc),.fz ((sliceS s k).world.tasks.map (.int .i64)),.fz ((sliceS s k).world.outs.map MOut.enc),.fz ((sliceS s k).world.ins.map (.int .i64)),.int .i64 (sliceS s k).world.used,.fz ((sliceS s k).ages.map (.int .i64)),.fz ((sliceS s k).marks.map (.int .i64)),.int .i64 (sliceS s k).cycle],.fz ((sliceG s k).map (.int .i64)),.bool (sliceE s k),.int .i64 0]) := by
 have := reap_Slice_pc p s k hp hs hsp hss
 rw [if_pos ⟨hst,hk⟩,Int.toNat_natCast] at this
 exact this
theorem fair_of {p : BProg} {s : RState} (hp : p.few) (hs : s.few) (hc : p.cons.length ≤ 1000) (hss : smallState s = true) (hst : stateOk p s = true) : PC L F.W18_fair [.agg [.fz (p.nodes.map BNode.enc),.fz (p.funs.map (.int .i64)),.int .i64 p.main,.fz (p.cons.map BCon.enc)],.agg [.fz (s.world.objs.map MObj.enc),.fz (s.world.tasks.map (.int .i64)),.fz (s.world.outs.map MOut.enc),.fz (s.world.ins.map (.int .i64)),.int .i64 s.world.used,.fz (s.ages.map (.int .i64)),.fz (s.marks.map (.int .i64)),.int .i64 s.cycle]] (.bool true) := by
 have := W18_fair_pc p s hp hs hc
 rw [hss,hst] at this
 exact this
theorem slice_few' {p : BProg} {s : RState} {k : Nat} (hs : s.few) (hss : smallState s = true) (hst : stateOk p s = true) : (sliceS s k).few := by
 obtain ⟨hgv,hm,_,_,_,_⟩ := state_iff.1 hst
 simp only [smallState,Bool.and_eq_true] at hss
 exact slice_few hs hss.1.1 (given_inRange hgv) hm
theorem same_self {w : MWorld} (hw : w.few) : PC L F.R06_Same [.agg [.fz (w.objs.map MObj.enc),.fz (w.tasks.map (.int .i64)),.fz (w.outs.map MOut.enc),.fz (w.ins.map (.int .i64)),.int .i64 w.used],.agg [.fz (w.objs.map MObj.enc),.fz (w.tasks.map (.int .i64)),.fz (w.outs.map MOut.enc),.fz (w.ins.map (.int .i64)),.int .i64 w.used]] (.bool true) := by
 have := R06_Same_pc w w hw
 simp only [decide_true] at this
 exact this
end Go.Proofs.YthpmfghgoabnhaaGreat
namespace Go.Proofs.YthpmfghgoabnhaaGreat
open Go.Abs Go.Proofs
theorem rise_ext : ∀ {a b : List Int},a.Pairwise (· < ·) → b.Pairwise (· < ·) → (∀ x,x ∈ a ↔ x ∈ b) → a = b
 | [],[],_,_,_ => rfl
 | [],y :: b,_,_,h => by have := (h y).2 (by simp); cases this
 | x :: a,[],_,_,h => by have := (h x).1 (by simp); cases this
 | x :: a,y :: b,ha,hb,h => by
  obtain ⟨h1,h2⟩ := List.pairwise_cons.1 ha
  obtain ⟨h3,h4⟩ := List.pairwise_cons.1 hb
  have hxy : x = y := by
   rcases List.mem_cons.1 ((h x).1 (by simp)) with h5 | h5
   ·exact h5
   ·rcases List.mem_cons.1 ((h y).2 (by simp)) with h6 | h6
    ·exact h6.symm
    ·have := h3 x h5
     have := h1 y h6
     omega
  subst hxy
  rw [rise_ext h2 h4 fun z => ⟨fun hz => by
   rcases List.mem_cons.1 ((h z).1 (by simp [hz])) with h5 | h5
   ·have := h1 z hz; omega
   ·exact h5,fun hz => by
   rcases List.mem_cons.1 ((h z).2 (by simp [hz])) with h5 | h5
   ·have := h3 z hz; omega
   ·exact h5⟩]
theorem run_black {w : MWorld} : ∀ (k : Nat) {m : List Int},firstG (runS w k m) < (runS w k m).length → notBlack (runS w k m) + k ≤ notBlack m
 | 0,_,_ => Nat.le_refl _
 | k + 1,m,h => by
  by_cases hg : firstG m < m.length
  ·rw [runS,if_pos hg] at h ⊢
   have h1 := run_black k h
   have h2 := notBlack_look (seen := refsOf (w.obj (firstG m))) hg ((firstG_spec m).2.2 hg)
   unfold lookedAt at h1 ⊢
   omega
  ·rw [runS_none hg] at h; exact absurd h hg
theorem black_le (m : List Int) : notBlack m ≤ m.length := by
 unfold notBlack
 have : ∀ l : List Nat,(l.map fun i => if markN m i = 2 then 0 else 1).sum ≤ l.length := by
  intro l
  induction l with
  | nil => exact Nat.le_refl _
  | cons a l ih =>
   simp only [List.map_cons,List.sum_cons,List.length_cons]
   split <;> omega
 simpa using this (List.range m.length)
def Tight (first : MWorld) (keep m : List Int) : Prop := ∀ j,j < keep.length → ¬ markN m j = 0 → ReachP first (numAt keep j).toNat
theorem num_plc {keep : List Int} {x : Int} (h : x ∈ keep) : numAt keep (plc keep x).toNat = x := by
 have hl := idx_lt h
 unfold plc
 rw [Int.toNat_natCast,numAt_get hl]; exact idx_get h
theorem tight_look {first : MWorld} {keep m : List Int} (hs : Shut first keep) (hl : m.length = keep.length) (ht : Tight first keep m) {n : Nat} (hn : n < m.length) (h1 : markN m n = 1) : Tight first keep (lookedAt (compactW first keep) m n) := by
 intro j hj hne
 have hjm : j < m.length := by omega
 unfold lookedAt at hne
 rw [lookM_at hjm] at hne
 have hrn := ht n (by omega) (by rw [h1]; decide)
 split at hne
 ·rename_i h; rw [h]; exact hrn
 ·split at hne
  ·rename_i h
   have hm := memB_iff.1 h.2
   have hnk : n < keep.length := by omega
   rw [compact_at hnk,refs_moved] at hm
   obtain ⟨y,hy,he⟩ := List.mem_map.1 hm
   have hyk := hs.refs _ (List.getElem_mem hnk) y hy
   have hnum := num_plc hyk
   have hj2 : (plc keep y).toNat = j := by unfold plc; omega
   rw [hj2] at hnum
   rw [hnum]
   have hnn := hs.rng _ (List.getElem_mem hnk)
   simp only [inR,decide_eq_true_eq] at hnn
   rw [numAt_get hnk] at hrn
   exact .ref hrn (by rw [Int.toNat_of_nonneg hnn.1]; exact hy)
  ·exact ht j hj hne
theorem tight_run {first : MWorld} {keep : List Int} (hs : Shut first keep) : ∀ (k : Nat) {m : List Int},m.length = keep.length → Tight first keep m → Tight first keep (runS (compactW first keep) k m)
 | 0,_,_,h => h
 | k + 1,m,hl,h => by
  rw [runS]; split
  ·rename_i hg
   exact tight_run hs k (by rw [lookedAt,lookM_len]; exact hl) (tight_look hs hl h hg ((firstG_spec m).2.2 hg))
  ·exact h
def backL (keep l : List Int) : List Int := l.map fun j => numAt keep j.toNat
theorem back_mem {keep l : List Int} (hl : ∀ x ∈ l,inR x 0 ((keep.length : Int) - 1) = true) : ∀ x ∈ backL keep l,x ∈ keep := by
 intro x hx
 obtain ⟨j,hj,rfl⟩ := List.mem_map.1 hx
 have := hl j hj
 simp only [inR,decide_eq_true_eq] at this
 rw [numAt_get (by omega)]; exact List.getElem_mem _
theorem back_plc {keep l : List Int} (hr : keep.Pairwise (· < ·)) (hl : ∀ x ∈ l,inR x 0 ((keep.length : Int) - 1) = true) : (backL keep l).map (plc keep) = l := by
 unfold backL
 rw [List.map_map]
 refine (List.map_congr_left (g := id) ?_).trans (List.map_id l)
 intro j hj
 have := hl j hj
 simp only [inR,decide_eq_true_eq] at this
 have hjl : j.toNat < keep.length := by omega
 show plc keep (numAt keep j.toNat) = j
 unfold plc
 rw [numAt_get hjl,idx_of hr hjl]; omega
theorem back_shut {first : MWorld} {keep l : List Int} (hs : Shut first keep) (hl : Shut (compactW first keep) l) : Shut first (backL keep l) := by
 have hn : (compactW first keep).objs.length = keep.length := by simp [compactW]
 have hlr : ∀ x ∈ l,inR x 0 ((keep.length : Int) - 1) = true := by rw [← hn]; exact hl.rng
 have hm := back_mem hlr
 refine ⟨?_,fun x hx => hs.rng x (hm x hx),fun n hn' x hx => ?_,?_⟩
 ·unfold backL
  rw [List.pairwise_map]
  refine hl.rise.imp_of_mem ?_
  intro a b ha hb hab
  have h1 := hlr a ha
  have h2 := hlr b hb
  simp only [inR,decide_eq_true_eq] at h1 h2
  rw [numAt_get (show a.toNat < keep.length by omega),numAt_get (show b.toNat < keep.length by omega)]
  exact List.pairwise_iff_getElem.1 hs.rise _ _ _ _ (by omega)
 ·obtain ⟨j,hj,rfl⟩ := List.mem_map.1 hn'
  have h1 := hlr j hj
  simp only [inR,decide_eq_true_eq] at h1
  have hjl : j.toNat < keep.length := by omega
  rw [numAt_get hjl] at hx
  have hxk := hs.refs _ (List.getElem_mem hjl) x hx
  have h3 := hl.refs j hj (plc keep x) (by
   have e : j = ((j.toNat : Nat) : Int) := by omega
   rw [e,compact_at hjl,refs_moved]
   exact List.mem_map.2 ⟨x,hx,rfl⟩)
  exact List.mem_map.2 ⟨plc keep x,h3,num_plc hxk⟩
 ·have h1 := hl.len
  have h2 := hs.len
  simp only [backL,List.length_map]; omega
theorem back_tasked {first : MWorld} {keep l : List Int} (ht : Tasked first keep) (hl : Tasked (compactW first keep) l) : Tasked first (backL keep l) := by
 rintro t ⟨i,rfl,hi,hk⟩
 have hm := ht i ⟨i,rfl,hi,hk⟩
 have hlt := idx_lt hm
 have h3 := hl (plc keep i) ⟨keep.idxOf (i : Int),rfl,by simpa [compactW] using hlt,by rw [compact_obj hm,isTask_moved]; exact hk⟩
 exact List.mem_map.2 ⟨plc keep i,h3,num_plc hm⟩
structure Rest (p : BProg) (first : MWorld) (c0 : Int) (d e r : Nat) (s : RState) : Prop where
 few : s.few
 small : smallState s = true
 ok : stateOk p s = true
 cyc : s.cycle = (c0 + e) % 4
 time : r + notBlack s.marks ≤ 121 * e + 120
 left : ∃ keep,Shut first keep ∧ Tasked first keep ∧ s.world = compactW first keep ∧ (e = d → Tight first keep s.marks) ∧ (d < e → ∀ x ∈ keep,ReachP first x.toNat)
theorem marks_120 {p : BProg} {s : RState} (h : stateOk p s = true) : s.marks.length ≤ 120 ∧ s.marks.length = s.world.objs.length := by
 obtain ⟨hg,hm,_,_,_,_⟩ := state_iff.1 h
 simp only [given,worldOk,Bool.and_eq_true,decide_eq_true_eq] at hg
 have := hg.2.1.1.1.1.1.1
 have := hm.len
 omega
theorem rest_first {p : BProg} {s : RState} {d : Nat} (hf : s.few) (hs : smallState s = true) (h : stateOk p s = true) (hd : 1 ≤ d) : Rest p s.world s.cycle d 0 0 s := by
 obtain ⟨hg,hm,_,hc,_,_⟩ := state_iff.1 h
 have hb := black_le s.marks
 have hl := (marks_120 h).1
 simp only [inR,decide_eq_true_eq] at hc
 refine ⟨hf,hs,h,by omega,by omega,allL s.world.objs.length,allL_shut (given_inRange hg),allL_tasked _,(compact_all (given_inRange hg) (given_tasked hg).1).symm,fun h => by omega,fun h => by omega⟩
theorem rest_step {p : BProg} {first : MWorld} {c0 : Int} {d e r k : Nat} {s : RState} (h : Rest p first c0 d e r s) (hg0 : given p first = true) (hk : 1 ≤ k) (hc0 : inR c0 0 3 = true) (hd : (c0 + d) % 4 = 3) :
  Rest p first c0 d (if sliceE s k = true then e + 1 else e) (r + 1) (sliceS s k) := by
 obtain ⟨hf,hs,hok,hcy,htm,keep,k1,k2,k3,k4,k5⟩ := h
 have hfy := slice_few' (k := k) hf hs hok
 have hsy := slice_small (most := k) hok hs
 have hty := slice_state (most := k) hok
 obtain ⟨hgv,hm,_,_,_,_⟩ := state_iff.1 hok
 have hlm := (marks_120 hok).2
 have hlk : s.marks.length = keep.length := by rw [hlm,k3]; simp [compactW]
 have hcc := slice_cycle s k
 have hby := black_le (sliceS s k).marks
 have hly := (marks_120 hty).1
 simp only [inR,decide_eq_true_eq] at hc0
 cases hE : sliceE s k with
 | false =>
  have hfg : firstG (runS s.world k s.marks) < (runS s.world k s.marks).length := by
   unfold sliceE at hE
   simpa using hE
  have hS : sliceS s k = ⟨s.world,s.ages,runS s.world k s.marks,s.cycle⟩ := by rw [sliceS,if_pos hfg]
  rw [if_neg (by decide)]
  have hrb := run_black k hfg
  refine ⟨hfy,hsy,hty,by rw [hS]; exact hcy,by rw [hS]; show r + 1 + notBlack (runS s.world k s.marks) ≤ _; omega,keep,k1,k2,by rw [hS]; exact k3,fun h => ?_,k5⟩
  rw [hS]
  show Tight first keep (runS s.world k s.marks)
  rw [k3]
  exact tight_run k1 k hlk (k4 h)
 | true =>
  have hfg : ¬ firstG (runS s.world k s.marks) < (runS s.world k s.marks).length := by
   unfold sliceE at hE
   simpa using hE
  have hS : sliceS s k = nextS s (runS s.world k s.marks) := by rw [sliceS,if_neg hfg]
  obtain ⟨n1,n2⟩ := next_keep hok hfg
  rw [if_pos rfl]
  rw [hE,if_pos rfl] at hcc
  have hcn : (sliceS s k).cycle = (c0 + ((e + 1 : Nat) : Int)) % 4 := by
   rw [hcc,hcy,Int.tmod_eq_emod_of_nonneg (by omega)]; omega
  have hwk : (compactW first keep).objs.length = keep.length := by simp [compactW]
  have hol : s.world.objs.length = keep.length := by rw [k3]; exact hwk
  have n1' : Shut (compactW first keep) (keepTo (runS s.world k s.marks) s.world.objs.length) := by rw [← k3]; exact n1
  have n2' : Tasked (compactW first keep) (keepTo (runS s.world k s.marks) s.world.objs.length) := by rw [← k3]; exact n2
  have hlr : ∀ x ∈ keepTo (runS s.world k s.marks) s.world.objs.length,inR x 0 ((keep.length : Int) - 1) = true := by rw [← hwk]; exact n1'.rng
  obtain ⟨_,ht2⟩ := given_tasked hg0
  have b1 := back_shut k1 n1'
  have b2 := back_tasked k2 n2'
  have bw : (sliceS s k).world = compactW first (backL keep (keepTo (runS s.world k s.marks) s.world.objs.length)) := by
   rw [hS]
   show compactW s.world _ = _
   rw [← compact_plc k1 (ht2 _ k2) (back_mem hlr),back_plc k1.rise hlr,← k3]
  refine ⟨hfy,hsy,hty,hcn,by omega,_,b1,b2,bw,fun h => ?_,fun h => ?_⟩
  ·have hc3 : (sliceS s k).cycle = 3 := by rw [hcn]; omega
   intro j hj hne
   have hjl : j < (sliceS s k).world.objs.length := by rw [bw]; simpa [compactW] using hj
   have hmk : (sliceS s k).marks = marksB lt2 (sliceS s k).world (sliceS s k).ages (sliceS s k).cycle := by rw [hS]; rfl
   rw [hmk,marksB_at hjl,markB] at hne
   split at hne
   ·rename_i htk
    rw [bw,compact_at hj,isTask_moved] at htk
    have hjr := b1.rng _ (List.getElem_mem hj)
    simp only [inR,decide_eq_true_eq] at hjr
    rw [numAt_get hj]
    refine .task (by omega) ?_
    rw [Int.toNat_of_nonneg hjr.1]; exact htk
   ·rw [hc3] at hne
    simp at hne
  ·intro x hx
   by_cases he : e = d
   ·obtain ⟨j,hj,rfl⟩ := List.mem_map.1 hx
    obtain ⟨i,rfl,hi,hne⟩ := keep_mem.1 hj
    rw [Int.toNat_natCast]
    have := tight_run k1 k hlk (k4 he)
    rw [← k3] at this
    exact this i (by omega) hne
   ·exact k5 (by omega) x (back_mem hlr x hx)
theorem reach_keep {first : MWorld} {keep : List Int} (hs : Shut first keep) (ht : Tasked first keep) {i : Nat} (h : ReachP first i) : (i : Int) ∈ keep := by
 induction h with
 | task hi hk => exact ht _ ⟨_,rfl,hi,hk⟩
 | ref h hx ih =>
  have := hs.refs _ ih _ hx
  have hr := hs.rng _ this
  simp only [inR,decide_eq_true_eq] at hr
  rw [Int.toNat_of_nonneg hr.1]; exact this
theorem reach_lt {first : MWorld} (hin : InRange first) {i : Nat} (h : ReachP first i) : i < first.objs.length := by
 have := reach_keep (allL_shut hin) (allL_tasked first) h
 have := allL_mem.1 this
 simp only [inR,decide_eq_true_eq] at this
 omega
theorem numsL_rise (l : List Bool) : (numsL l).Pairwise (· < ·) := by
 unfold numsL numsTo
 rw [List.pairwise_map]
 exact ((List.pairwise_lt_range).filter _).imp fun {a b} (h : a < b) => by omega
theorem numsL_reach {first : MWorld} (hin : InRange first) {x : Int} : x ∈ numsL (reachL first) ↔ ∃ i : Nat,x = i ∧ ReachP first i := by
 have hlen : (reachL first).length = first.objs.length := by simp [reachL]
 have hget : ∀ i,i < first.objs.length → (reachL first).getD i false = reachB first i := fun i hi => by
  rw [bool_get (by rw [hlen]; exact hi)]; simp [reachL]
 simp only [numsL,numsTo,List.mem_map,List.mem_filter,List.mem_range,hlen]
 constructor
 ·rintro ⟨i,⟨h1,h2⟩,rfl⟩
  rw [hget i h1] at h2
  exact ⟨i,rfl,reachB_iff.1 h2⟩
 ·rintro ⟨i,rfl,h⟩
  have hi := reach_lt hin h
  exact ⟨i,⟨hi,by rw [hget i hi]; exact reachB_iff.2 h⟩,rfl⟩
theorem full_nums {first : MWorld} {keep : List Int} (hin : InRange first) (hs : Shut first keep) (ht : Tasked first keep) (hf : ∀ x ∈ keep,ReachP first x.toNat) : keep = numsL (reachL first) := by
 refine rise_ext hs.rise (numsL_rise _) fun x => ?_
 rw [numsL_reach hin]
 constructor
 ·intro hx
  have hr := hs.rng x hx
  simp only [inR,decide_eq_true_eq] at hr
  exact ⟨x.toNat,by omega,hf x hx⟩
 ·rintro ⟨i,rfl,h⟩; exact reach_keep hs ht h
theorem rising_of {w : MWorld} {keep : List Int} (hs : Shut w keep) : risingOk w.objs.length keep = true := by
 rw [rising_all]
 intro i hi
 unfold riseAt
 rw [Bool.and_eq_true,numAt_get hi]
 refine ⟨hs.rng _ (List.getElem_mem hi),?_⟩
 by_cases h0 : i = 0
 ·simp [h0]
 ·have hi1 : i - 1 < keep.length := by omega
  rw [numAt_get hi1]
  have := List.pairwise_iff_getElem.1 hs.rise (i - 1) i hi1 hi (by omega)
  simp [this]
theorem W18_ReapRests_pc (hk : PC L F.W18_known [] (.bool true)) (p : BProg) (s : RState) (most : Int) (hp : p.few) (hs : s.few) : PC L F.W18_ReapRests [.agg [.fz (p.nodes.map BNode.enc),.fz (p.funs.map (.int .i64)),.int .i64 p.main,.fz (p.cons.map BCon.enc)],.agg [.fz (s.world.objs.map MObj.enc),.fz (s.world.tasks.map (.int .i64)),.fz (s.world.outs.map MOut.enc),.fz (s.world.ins.map (.int .i64)),.int .i64 s.world.used,.fz (s.ages.map (.int .i64)),.fz (s.marks.map (.int .i64)),.int .i64 s.cycle],.int .i64 most] (.bool true) := by
 have hG := W18_given_pc p s most hp hs
 refine pc_of LF.W18_ReapRests rfl rfl ?_
 by_cases hg : (smallProg p && smallState s && stateOk p s && inR most 1 200) = true
 ·rw [hg] at hG
  obtain ⟨hsp,hss,hst,hc,hsw,k,rfl,hk1,hk2,hk3⟩ := given_facts hg
  obtain ⟨hgv,hM,_,hcy,_,_⟩ := state_iff.1 hst
  obtain ⟨d,hd1,hd4,hd3⟩ : ∃ d : Nat,1 ≤ d ∧ d ≤ 4 ∧ (s.cycle + d) % 4 = 3 := by
   have h := hcy
   simp only [inR,decide_eq_true_eq] at h
   by_cases h3 : s.cycle = 3
   ·exact ⟨4,by omega,by omega,by omega⟩
   ·exact ⟨(3 - s.cycle).toNat,by omega,by omega,by omega⟩
  simp only [go_sem,qC,qG,qW,C.W18_ReapRests,hG.ret]
  refine wp_for 1200 (fun j st => ∃ fr en cnt x e,st = ⟨fr,en,cnt⟩ ∧ fr 2 = .int .i64 k ∧ fr 3 = .ptr ⟨0,3,0⟩ 0 ∧ en ⟨0,3,0⟩ = some (.box [.fz (p.nodes.map BNode.enc),.fz (p.funs.map (.int .i64)),.int .i64 p.main,.fz (p.cons.map BCon.enc)] false) ∧ fr 4 = .ptr ⟨0,4,0⟩ 0 ∧ en ⟨0,4,0⟩ = some (.box [.fz (x.world.objs.map MObj.enc),.fz (x.world.tasks.map (.int .i64)),.fz (x.world.outs.map MOut.enc),.fz (x.world.ins.map (.int .i64)),.int .i64 x.world.used,.fz (x.ages.map (.int .i64)),.fz (x.marks.map (.int .i64)),.int .i64 x.cycle] false) ∧ fr 7 = .ptr ⟨0,7,0⟩ 0 ∧ en ⟨0,7,0⟩ = some (.box [.fz (s.world.objs.map MObj.enc),.fz (s.world.tasks.map (.int .i64)),.fz (s.world.outs.map MOut.enc),.fz (s.world.ins.map (.int .i64)),.int .i64 s.world.used] false) ∧ fr 8 = .int .i64 (e : Nat) ∧ fr 25 = .int .i64 j ∧
   e ≤ 4 ∧ Rest p s.world s.cycle d e j x) 0 (Nat.zero_le _)
   ⟨_,_,_,s,0,rfl,by simp only [go_sem,qW],by simp only [go_sem,qW],by simp only [go_sem,qW],by simp only [go_sem,qW],by simp only [go_sem,qW],by simp only [go_sem,qW],by simp only [go_sem,qW],by simp only [go_sem,qW],by simp only [go_sem,qW],by omega,rest_first hs hss hst hd1⟩ ?_
  rintro j st hj ⟨fr,en,cnt,x,e,rfl,h2,h3,e3,h4,e4,h7,e7,h8,h25,he4,hR⟩
  by_cases h' : j < 1200
  ·have hq : decide ((j : Int) < 1200) = true := decide_eq_true (by omega)
   have hR' := rest_step hR hgv hk1 hcy hd3
   have hS := slice_pc hp hR.few hsp hR.small hR.ok hk3
   have hF := fair_of hp hR'.few hc hR'.small hR'.ok
   obtain ⟨g9,hg9⟩ : ∃ g,g = cnt 0 9 := ⟨_,rfl⟩
   cases hE : sliceE x k with
   | false =>
    rw [hE] at hS hR'
    rw [if_neg (by decide)] at hR'
    have h5 : decide ((4 : Int) < (e : Int)) = false := decide_eq_false (by omega)
    simp only [go_sem,qC,qG,qW,hq,h2,h3,e3,h4,e4,h7,e7,h8,h25,← hg9,hS.ret,hF.ret,h5]
    refine ⟨h',_,_,_,sliceS x k,e,rfl,?_⟩
    simp only [go_sem,qC,qG,qW,hq,h2,h3,e3,h4,e4,h7,e7,h8,h25,wrap_succ h' (show Few 1200 by unfold Few; omega)]
    exact ⟨he4,hR'⟩
   | true =>
    rw [hE] at hS hR'
    rw [if_pos rfl] at hR'
    have hwe : IntKind.i64.wrap ((e : Int) + 1) = ((e + 1 : Nat) : Int) := by rw [wrap_in (by omega)]; rfl
    by_cases h5 : e < 4
    ·have h6 : decide ((4 : Int) < ((e + 1 : Nat) : Int)) = false := decide_eq_false (by omega)
     simp only [go_sem,qC,qG,qW,hq,h2,h3,e3,h4,e4,h7,e7,h8,h25,← hg9,hS.ret,hF.ret,hwe,h6]
     refine ⟨h',_,_,_,sliceS x k,e + 1,rfl,?_⟩
     simp only [go_sem,qC,qG,qW,hq,h2,h3,e3,h4,e4,h7,e7,h8,h25,wrap_succ h' (show Few 1200 by unfold Few; omega)]
     exact ⟨by omega,hR'⟩
    ·have h6 : decide ((4 : Int) < ((e + 1 : Nat) : Int)) = true := decide_eq_true (by omega)
     obtain ⟨keep,k1,k2,k3,_,k5⟩ := hR'.left
     have hin := given_inRange hgv
     have hke := full_nums hin k1 k2 (k5 (by omega))
     have hsm2 : smallWorld (sliceS x k).world = true := by
      have := hR'.small
      simp only [smallState,Bool.and_eq_true] at this
      exact this.1.1
     obtain ⟨hgy,_,_,_,_,_⟩ := state_iff.1 hR'.ok
     have hRe := reap_Reached_pc p s.world hp hs.1 hsp hsw (fun _ => given_tasks hgv)
     rw [if_pos hgv,← hke] at hRe
     have hfk : Few keep.length := by
      have := k1.len
      have := hs.1.objs
      unfold Few at *; omega
     have hCo := reap_Compact_pc p s.world keep hp hs.1 hsp hsw hfk (fun _ t ht => by
      obtain ⟨i,h1,h2,h3⟩ := (given_tasks hgv).1 t ht
      exact ⟨i,h2,h1,h3⟩)
     rw [if_pos hgv,if_pos (rising_of k1),if_pos (alone_of k1 k2),← k3] at hCo
     have hsame := same_self hR'.few.1
     have hA := R06_Alike_pc s.world (sliceS x k).world hs.1 hR'.few.1 hsw hsm2 hin (given_inRange hgy) (given_tasked hgv).1 (given_tasked hgy).1
     rw [show decide (orderW s.world = orderW (sliceS x k).world) = true from decide_eq_true (by rw [k3]; exact (order_same hin k1 ((given_tasked hgv).2 _ k2)).symm)] at hA
     simp only [go_sem,qC,qG,qW,hq,h2,h3,e3,h4,e4,h7,e7,h8,h25,← hg9,hS.ret,hF.ret,hwe,h6,hRe.ret,hCo.ret,hsame.ret,hA.ret,hk.ret]
  ·have := hR.time
   omega
 ·rw [Bool.not_eq_true] at hg
  rw [hg] at hG
  simp only [go_sem,qC,qG,qW,C.W18_ReapRests,hG.ret,hk.ret]
end Go.Proofs.YthpmfghgoabnhaaGreat
namespace Go.Proofs.YthpmfghgoabnhaaGreat
open Go.Abs Go.Proofs
set_option maxRecDepth 100000
theorem fits_MVal {n : Nat} {x : List Val} (h : Fits Tryz.prog (n + 2) 75 x) : ∃ a : MVal,pack Tryz.prog 75 x = MVal.enc a ∧ True := by
 have h1 := fits_struct Tryz.underlying75 h
 simp only [FitsFs] at h1
 obtain ⟨a,b,rfl,_,ha,c,d,rfl,_,hc,rfl⟩ := h1
 obtain ⟨i,rfl⟩ := fits_int (k := .i64) (by first | exact Tryz.underlying74 | kernel_rfl) ha
 obtain ⟨j,rfl⟩ := fits_int Tryz.underlying3 hc
 exact ⟨⟨i,j⟩,by simp [pack,isAggT,Tryz.underlying75,MVal.enc],trivial⟩
theorem fits_ints {n : Nat} {x : List Val} (h : Fits Tryz.prog (n + 2) 23 x) : ∃ l : List Int,x = [.fz (l.map (.int .i64))] ∧ Few l.length := by
 obtain ⟨l,h1,h2,_⟩ := fits_slice (Val.int .i64) (fun _ => True) Tryz.underlying23 (fun y hy => by
  obtain ⟨i,rfl⟩ := fits_int Tryz.underlying3 hy
  exact ⟨i,by simp [pack,isAggT,Tryz.underlying3],trivial⟩) h
 exact ⟨l,h1,h2⟩
theorem fits_vals {n : Nat} {x : List Val} (h : Fits Tryz.prog (n + 3) 102 x) : ∃ l : List MVal,x = [.fz (l.map MVal.enc)] ∧ Few l.length := by
 obtain ⟨l,h1,h2,_⟩ := fits_slice MVal.enc (fun _ => True) Tryz.underlying102 (fun y hy => fits_MVal hy) h
 exact ⟨l,h1,h2⟩
theorem fits_MFrame {n : Nat} {x : List Val} (h : Fits Tryz.prog (n + 4) 114 x) : ∃ a : MFrame,pack Tryz.prog 114 x = MFrame.enc a ∧ a.few := by
 have h1 := fits_struct Tryz.underlying114 h
 simp only [FitsFs] at h1
 obtain ⟨a,b,rfl,_,ha,c,d,rfl,_,hc,e,f,rfl,_,he,rfl⟩ := h1
 obtain ⟨i,rfl⟩ := fits_int Tryz.underlying3 ha
 obtain ⟨l,rfl,hl⟩ := fits_vals hc
 obtain ⟨m,rfl,hm⟩ := fits_vals he
 exact ⟨⟨i,l,m⟩,by simp [pack,isAggT,Tryz.underlying114,MFrame.enc],hl,hm⟩
theorem fits_frames {n : Nat} {x : List Val} (h : Fits Tryz.prog (n + 5) 103 x) : ∃ l : List MFrame,x = [.fz (l.map MFrame.enc)] ∧ Few l.length ∧ ∀ f ∈ l,f.few :=
 fits_slice MFrame.enc MFrame.few Tryz.underlying103 (fun y hy => fits_MFrame hy) h
theorem fits_MObj {n : Nat} {x : List Val} (h : Fits Tryz.prog (n + 6) 105 x) : ∃ a : MObj,pack Tryz.prog 105 x = MObj.enc a ∧ a.few := by
 have h1 := fits_struct Tryz.underlying105 h
 simp only [FitsFs] at h1
 obtain ⟨a,b,rfl,_,ha,c,d,rfl,_,hc,e,f,rfl,_,he,g,k,rfl,_,hg,rfl⟩ := h1
 obtain ⟨i,rfl⟩ := fits_int (k := .i64) (by first | exact Tryz.underlying101 | kernel_rfl) ha
 obtain ⟨j,rfl⟩ := fits_int Tryz.underlying3 hc
 obtain ⟨l,rfl,hl⟩ := fits_vals he
 obtain ⟨m,rfl,hm,hm2⟩ := fits_frames hg
 exact ⟨⟨i,j,l,m⟩,by simp [pack,isAggT,Tryz.underlying105,MObj.enc],hl,hm,hm2⟩
theorem fits_MOut {n : Nat} {x : List Val} (h : Fits Tryz.prog (n + 2) 125 x) : ∃ a : MOut,pack Tryz.prog 125 x = MOut.enc a ∧ True := by
 have h1 := fits_struct Tryz.underlying125 h
 simp only [FitsFs] at h1
 obtain ⟨a,b,rfl,_,ha,c,d,rfl,_,hc,rfl⟩ := h1
 obtain ⟨i,rfl⟩ := fits_int Tryz.underlying3 ha
 obtain ⟨j,rfl⟩ := fits_int Tryz.underlying3 hc
 exact ⟨⟨i,j⟩,by simp [pack,isAggT,Tryz.underlying125,MOut.enc],trivial⟩
theorem fits_MWorld {n : Nat} {x : List Val} (h : Fits Tryz.prog (n + 8) 30 x) : ∃ w : MWorld,x = [.fz (w.objs.map MObj.enc),.fz (w.tasks.map (.int .i64)),.fz (w.outs.map MOut.enc),.fz (w.ins.map (.int .i64)),.int .i64 w.used] ∧ w.few := by
 have h1 := fits_struct Tryz.underlying30 h
 simp only [FitsFs] at h1
 obtain ⟨a,b,rfl,_,ha,c,d,rfl,_,hc,e,f,rfl,_,he,g,k,rfl,_,hg,r,q,rfl,_,hr,rfl⟩ := h1
 obtain ⟨l1,rfl,f1,f1'⟩ := fits_slice MObj.enc MObj.few Tryz.underlying27 (fun y hy => fits_MObj hy) ha
 obtain ⟨l2,rfl,f2⟩ := fits_ints hc
 obtain ⟨l3,rfl,f3,_⟩ := fits_slice MOut.enc (fun _ => True) Tryz.underlying28 (fun y hy => fits_MOut hy) he
 obtain ⟨l4,rfl,f4⟩ := fits_ints hg
 obtain ⟨i,rfl⟩ := fits_int Tryz.underlying3 hr
 exact ⟨⟨l1,l2,l3,l4,i⟩,rfl,⟨f1,f2,f3,f4,f1'⟩⟩
theorem fits_RState {n : Nat} {x : List Val} (h : Fits Tryz.prog (n + 9) 48 x) : ∃ s : RState,x = [.fz (s.world.objs.map MObj.enc),.fz (s.world.tasks.map (.int .i64)),.fz (s.world.outs.map MOut.enc),.fz (s.world.ins.map (.int .i64)),.int .i64 s.world.used,.fz (s.ages.map (.int .i64)),.fz (s.marks.map (.int .i64)),.int .i64 s.cycle] ∧ s.few := by
 have h1 := fits_struct Tryz.underlying48 h
 simp only [FitsFs] at h1
 obtain ⟨a,b,rfl,_,ha,c,d,rfl,_,hc,e,f,rfl,_,he,g,k,rfl,_,hg,rfl⟩ := h1
 obtain ⟨w,rfl,hw⟩ := fits_MWorld ha
 obtain ⟨l2,rfl,f2⟩ := fits_ints hc
 obtain ⟨l3,rfl,f3⟩ := fits_ints he
 obtain ⟨i,rfl⟩ := fits_int Tryz.underlying3 hg
 exact ⟨⟨w,l2,l3,i⟩,rfl,hw,f2,f3⟩
theorem fits_Pat : ∀ (n : Nat) {x : List Val},Fits Tryz.prog n 134 x → ∃ q : Pat,pack Tryz.prog 134 x = Pat.enc q ∧ q.few
 | 0,x,h => by simp [Fits] at h
 | 1,x,h => by
  have h1 := fits_struct Tryz.underlying134 h
  simp only [FitsFs] at h1
  obtain ⟨a,b,rfl,_,ha,_⟩ := h1
  simp [Fits] at ha
 | n + 2,x,h => by
  have h1 := fits_struct Tryz.underlying134 h
  simp only [FitsFs] at h1
  obtain ⟨a,b,rfl,_,ha,c,d,rfl,_,hc,e,f,rfl,_,he,g,k,rfl,_,hg,rfl⟩ := h1
  obtain ⟨i,rfl⟩ := fits_int (k := .i64) (by first | exact Tryz.underlying132 | kernel_rfl) ha
  obtain ⟨j,rfl⟩ := fits_int Tryz.underlying3 hc
  obtain ⟨t,rfl,ht⟩ := fits_str (by first | exact Tryz.underlying9 | kernel_rfl) he
  obtain ⟨l,rfl,hl,hq⟩ := fits_slice Pat.enc Pat.few Tryz.underlying128 (fun y hy => fits_Pat n hy) hg
  exact ⟨.mk i j t l,by simp [pack,isAggT,Tryz.underlying134,Pat.enc,Pat.encL_map],.mk i j t l hl ht hq⟩
theorem fits_BNode {n : Nat} {x : List Val} (h : Fits Tryz.prog (n + 4) 130 x) : ∃ a : BNode,pack Tryz.prog 130 x = BNode.enc a ∧ a.few := by
 have h1 := fits_struct Tryz.underlying130 h
 simp only [FitsFs] at h1
 obtain ⟨a,b,rfl,_,ha,c,d,rfl,_,hc,e,f,rfl,_,he,g,k,rfl,_,hg,rfl⟩ := h1
 obtain ⟨i,rfl⟩ := fits_int (k := .i64) (by first | exact Tryz.underlying72 | kernel_rfl) ha
 obtain ⟨j,rfl⟩ := fits_int Tryz.underlying3 hc
 obtain ⟨l,rfl,hl⟩ := fits_ints he
 obtain ⟨m,rfl,hm,hm2⟩ := fits_slice Pat.enc Pat.few Tryz.underlying128 (fun y hy => fits_Pat _ hy) hg
 exact ⟨⟨i,j,l,m⟩,by simp [pack,isAggT,Tryz.underlying130,BNode.enc,ints],⟨hl,hm,hm2⟩⟩
theorem fits_BCon {n : Nat} {x : List Val} (h : Fits Tryz.prog (n + 2) 127 x) : ∃ a : BCon,pack Tryz.prog 127 x = BCon.enc a ∧ Few a.name.size := by
 have h1 := fits_struct Tryz.underlying127 h
 simp only [FitsFs] at h1
 obtain ⟨a,b,rfl,_,ha,c,d,rfl,_,hc,rfl⟩ := h1
 obtain ⟨t,rfl,ht⟩ := fits_str (by first | exact Tryz.underlying9 | kernel_rfl) ha
 obtain ⟨j,rfl⟩ := fits_int Tryz.underlying3 hc
 exact ⟨⟨t,j⟩,by simp [pack,isAggT,Tryz.underlying127,BCon.enc],ht⟩
theorem fits_BProg {n : Nat} {x : List Val} (h : Fits Tryz.prog (n + 6) 26 x) : ∃ p : BProg,x = [.fz (p.nodes.map BNode.enc),.fz (p.funs.map (.int .i64)),.int .i64 p.main,.fz (p.cons.map BCon.enc)] ∧ p.few := by
 have h1 := fits_struct Tryz.underlying26 h
 simp only [FitsFs] at h1
 obtain ⟨a,b,rfl,_,ha,c,d,rfl,_,hc,e,f,rfl,_,he,g,k,rfl,_,hg,rfl⟩ := h1
 obtain ⟨l1,rfl,f1,f1'⟩ := fits_slice BNode.enc BNode.few Tryz.underlying22 (fun y hy => fits_BNode hy) ha
 obtain ⟨l2,rfl,f2⟩ := fits_ints hc
 obtain ⟨i,rfl⟩ := fits_int Tryz.underlying3 he
 obtain ⟨l3,rfl,f3,f3'⟩ := fits_slice BCon.enc (fun c => Few c.name.size) Tryz.underlying24 (fun y hy => fits_BCon hy) hg
 exact ⟨⟨l1,l2,i,l3⟩,rfl,⟨f1,f2,f3,f1',f3'⟩⟩
end Go.Proofs.YthpmfghgoabnhaaGreat
namespace Go.Proofs.YthpmfghgoabnhaaGreat
open Go.Abs Go.Proofs
open Go.ChangeShapes Go.WideShapes Go.ChangeAt Go.RowKit
theorem own : ownKnob Tryz.prog.godebug = none := by kernel_rfl
theorem laidOut : laidOutB Tryz.prog = true := by kernel_rfl
def plainT (t : TypeId) : Bool := [3,9,22,23,24,26,27,28,30,48,72,73,75,101,102,103,105,114,125,127,128,130,132,134].contains t
theorem slicesFine : closedOk Tryz.prog plainT = true := by kernel_rfl
theorem mixed : Tryz.prog.follows .mixedOrders = true := by kernel_rfl
set_option maxRecDepth 100000
theorem open_rec {H : Type} {enc : TypeId × Value → H} {W : World} {sp : Nat → Bool} {t : TypeId} {v : Value} {d : DataW H} {ps : List MemPlace} (ht : t < Tryz.prog.types.size) (hs : plainT t = true) (hv : ∃ cs,v = .agg cs) (h : DataW.Trod enc Tryz.prog W 0 sp true t v d ps) :
  ∃ n vs,Fits Tryz.prog (n + 9) t vs ∧ VR (There W) Gh.none W (.agg vs) v := by
 obtain ⟨fuel,h⟩ := h
 obtain ⟨x,rfl⟩ := hv
 obtain ⟨vs,h1,h2⟩ := open_data laidOut plainT slicesFine fuel t x.toList _ ht hs h
 exact ⟨fuel,vs,fits_more 9 h1,agg_of_reads h2⟩
end Go.Proofs.YthpmfghgoabnhaaGreat
namespace Go.Proofs.YthpmfghgoabnhaaGreat
open Go.Abs Go.Proofs
open Go.ChangeShapes Go.WideShapes Go.ChangeAt Go.RowKit
set_option maxRecDepth 100000
theorem rests_lifted (hk : PC L F.W18_known [] (.bool true)) (os : Os) (started : os.Started) (H : Type) (enc : TypeId × Value → H) :
  ReturnsInHanded {} Tryz.checked os F.W18_ReapRests .any (Rows.reapRestsSpec.pre6 enc Tryz.prog Tryz.f9 Rows.reapRestsRow.domain false) (Rows.reapRestsSpec.post enc Tryz.prog Tryz.f9 false true false false) := by
 refine returnsInHanded_of_change (C := Tryz.checked) own started (by kernel_rfl) Tryz.func9
  (ChangeSpec.witness6 (enc := enc) (C := Tryz.checked) false ⟨#[],#[.agg #[.slice none 0 0,.slice none 0 0,.int .i64 0,.slice none 0 0],.agg #[.slice none 0 0,.slice none 0 0,.slice none 0 0,.slice none 0 0,.int .i64 0,.slice none 0 0,.slice none 0 0,.int .i64 0],.int .i64 0],[]⟩ 8 (by kernel_rfl) (by kernel_rfl) (by kernel_rfl) (by kernel_rfl)) ?_
 intro W base args ds gs before hval0 hW hcnd _
 have hval : ∀ (j : Nat) t v,Tryz.f9.params[j]? = some t → args[j]? = some v → Value.okWide Tryz.prog W .any base t v := hval0
 have hW' := hW
 obtain ⟨p,q,hA0,hV,rfl,hfz,hnd⟩ := hW
 have hA : DataW.TrodAll enc Tryz.prog W 0 (fun _ => true) true Tryz.f9.params.toList args.toList ds p := hA0
 rw [Tryz.params9] at hA hval
 obtain ⟨v0,v1,v2,d0,d1,d2,p0,p1,p2,rfl,rfl,rfl,h0,h1,h2⟩ := trodAll_three hA
 obtain ⟨rfl,rfl⟩ := trodVars_none hV
 have a0 := hval 0 26 v0 rfl rfl
 have a1 := hval 1 48 v1 rfl rfl
 simp only [Value.okWide,Tryz.underlying26,Tryz.underlying48] at a0 a1
 obtain ⟨n0,x0,f0,r0⟩ := open_rec (of_decide_eq_true (by kernel_rfl)) (by decide) (a0.imp fun _ h => h.1) h0
 obtain ⟨n1,x1,f1,r1⟩ := open_rec (of_decide_eq_true (by kernel_rfl)) (by decide) (a1.imp fun _ h => h.1) h1
 obtain ⟨c,rfl,rfl,rfl,wc⟩ := open_int Tryz.underlying3 (hval 2 3 v2 rfl rfl) h2
 obtain ⟨pr,rfl,fpr⟩ := fits_BProg (n := n0 + 3) f0
 obtain ⟨s,rfl,fs⟩ := fits_RState (n := n1) f1
 clear hA0 hval0
 obtain ⟨n,hn⟩ := W18_ReapRests_pc hk pr s c fpr fs
 refine (calls_true mixed L_ok (hn n (Nat.le_refl _)) (S := There W) (w := W) (vals := #[v0,v1,.int .i64 c]) (fun _ _ h => h) rfl (fun i hi => ?_)).mono fun e W' ⟨he,hb⟩ => ?_
 ·match i,hi with
  | 0,_ => exact r0
  | 1,_ => exact r1
  | 2,_ => exact .int _ _
 ·subst he
  exact ⟨_,rfl,law_post (bt := 4) hW' rfl (by kernel_rfl) Tryz.underlying4 rfl laidOut (fun t ht => by
   rw [Tryz.params9] at ht
   simp only [List.mem_cons,List.not_mem_nil,or_false] at ht
   rcases ht with rfl | rfl | rfl <;> exact ⟨by kernel_rfl,of_decide_eq_true (by kernel_rfl)⟩) hb⟩
end Go.Proofs.YthpmfghgoabnhaaGreat
