/- Contracts of functions of the program and of the document: part 3. -/
import Derived.Test.YthpmfghgoabnhaaGreatM2
set_option linter.all false
namespace Go.Proofs.YthpmfghgoabnhaaGreat
open Go.Abs Go.Proofs
theorem bin_fm {a b : List Val} : binVal .neq .map (.fm a b) .nilm = some (.bool true) := (rfl)
theorem frz_map {ks vs : List Val} {f : Bool} : Ent.freeze (.map ks vs f) = .map ks vs true := (rfl)
theorem put_agg {cs vs : List Val} {off : Nat} : putCells (.agg cs) off vs = .agg (setCells cs off vs) := (rfl)
attribute [go_sem] bin_fm sn_mp frz_map put_agg one_mp cells_mp
def placesV (keep : List Int) : List Val := (List.range keep.length).map fun i => .int .i64 (i : Nat)
theorem findKey_idx (n : Int) : ∀ ks : List Int,findKey .num (.int .i64 n) (ks.map (.int .i64)) = some (if n ∈ ks then some (ks.idxOf n) else none)
 | [] => rfl
 | x :: ks => by
  have he : eqVal .num (.int .i64 n) (.int .i64 x) = some (n == x) := by simp [eqVal]
  by_cases h : n = x
  ·subst h
   simp only [List.map_cons,findKey,he,beq_self_eq_true]
   simp
  ·have hb : (n == x) = false := by simpa using h
   have hb' : (x == n) = false := by simpa using fun e => h e.symm
   simp only [List.map_cons,findKey,he,hb,findKey_idx n ks,List.mem_cons,h,false_or,List.idxOf_cons,hb']
   by_cases hm : n ∈ ks
   ·simp [hm]
   ·simp [hm]
theorem look_to {keep : List Int} {x : Int} (h : x ∈ keep) : lookIn .num (.int .i64 0) false (.int .i64 x) (keep.map (.int .i64)) (placesV keep) = some (.int .i64 (keep.idxOf x : Nat)) := by
 have hl : keep.idxOf x < keep.length := List.idxOf_lt_length_of_mem h
 unfold lookIn
 simp [findKey_idx,h,placesV,List.getD_eq_getElem?_getD,hl]
def midL (keep : List Int) (l : List MVal) (k : Nat) : List MVal := (l.take k).map (movedV keep) ++ l.drop k
theorem mid_zero (keep : List Int) (l : List MVal) : midL keep l 0 = l := by simp [midL]
theorem mid_full (keep : List Int) (l : List MVal) : midL keep l l.length = movedL keep l := by simp [midL,movedL]
theorem mid_len (keep : List Int) (l : List MVal) (k : Nat) : (midL keep l k).length = l.length := by simp [midL]; omega
theorem mid_get {keep : List Int} {l : List MVal} {k : Nat} (h : k < l.length) : ((midL keep l k).map MVal.enc)[k]? = some (MVal.enc l[k]) := by
 have : (midL keep l k)[k]? = some l[k] := by
  rw [midL,List.getElem?_append_right (by simp; omega),List.drop_eq_getElem_cons h]
  have : k - ((l.take k).map (movedV keep)).length = 0 := by simp; omega
  rw [this]; rfl
 rw [List.getElem?_map,this]; rfl
theorem mid_set {keep : List Int} {l : List MVal} {k : Nat} (h : k < l.length) : (midL keep l k).set k (movedV keep l[k]) = midL keep l (k + 1) := by
 have hl : ((l.take k).map (movedV keep)).length = k := by simp; omega
 have h2 : k - ((l.take k).map (movedV keep)).length = 0 := by omega
 rw [midL,midL,List.set_append_right _ _ (by omega),h2,moved_take h]
 have hd := List.drop_eq_getElem_cons h
 rw [hd,List.set_cons_zero,List.append_assoc]; rfl
theorem mid_skip {keep : List Int} {l : List MVal} {k : Nat} (h : k < l.length) (he : movedV keep l[k] = l[k]) : midL keep l (k + 1) = midL keep l k := by
 rw [← mid_set h,he]
 apply List.ext_getElem?
 intro i
 rw [List.getElem?_set]
 split
 ·rename_i e
  subst e
  rw [mid_len,if_pos h]
  have := mid_get (keep := keep) h
  rw [List.getElem?_map] at this
  cases hx : (midL keep l k)[k]? with
  | none => rw [hx] at this; cases this
  | some y =>
   rw [hx] at this
   injection this with this
   have hy : y = l[k] := by
    cases y; cases hz : l[k]; rw [hz] at this; simp only [MVal.enc] at this; injection this with this; injection this with a b; injection b with b; injection a with _ a; injection b with _ b; rw [a,b]
   rw [hy]
 ·rfl
theorem renumbered_to_c1_pc (l : List MVal) (keep : List Int) (hl : l.length ≤ 16777216) (hin : ∀ x ∈ refVals l,x ∈ keep) : PC L F.reap_renumbered_c1 [.fz (l.map MVal.enc),.fp [.fm (keep.map (.int .i64)) (placesV keep)] 0] (.fz ((movedL keep l).map MVal.enc)) := by
 have hf : Few l.length := by unfold Few; omega
 have hc := Clone_val_pc (l.map MVal.enc) (headOk_vals l) (by simpa using hl)
 refine pc_of LF.reap_renumbered_c1 rfl rfl ?_
 by_cases h0 : l = []
 ·subst h0
  have hc0 := Clone_val_pc [] rfl (by simp)
  simp only [go_sem,qC,qG,qW,C.reap_renumbered_c1,List.map_nil,hc0.ret,show cloneV 2 [] = .cl [] from rfl]
  refine wp_for (0) (fun k st => ∃ fr en cnt,st = ⟨fr,en,cnt⟩ ∧ (fr 0 = .cl []) ∧ (fr 8 = .int .i64 0) ∧ (fr 9 = .int .i64 k)) 0 (Nat.zero_le _) ⟨_,_,_,rfl,(by first | (simp only [go_sem,qW]; (try rfl); done) | rfl | simp),(by first | (simp only [go_sem,qW]; (try rfl); done) | rfl | simp),(by first | (simp only [go_sem,qW]; (try rfl); done) | rfl | simp)⟩ ?_
  rintro k st hk ⟨fr,en,cnt,rfl,h0,h8,h9⟩
  simp only [go_sem,qC,qG,qW,h0,h8,h9]
  have : k = 0 := by omega
  subst this
  simp only [go_sem,qC,qG,qW,h0,h8,h9]
  rfl
 ·have h0' : l.map MVal.enc ≠ [] := by simpa using h0
  rw [cloneV_ne h0'] at hc
  simp only [go_sem,qC,qG,qW,C.reap_renumbered_c1,hc.ret]
  have hz := mid_zero keep l
  refine wp_for (l.length) (fun k st => ∃ fr en cnt,st = ⟨fr,en,cnt⟩ ∧ (fr 0 = .bl ⟨0,6,0⟩ 0 l.length) ∧ (en ⟨0,6,0⟩ = some (.blk 2 ((midL keep l k).map MVal.enc) false)) ∧ (fr 1 = .fp [.fm (keep.map (.int .i64)) (placesV keep)] 0) ∧ (fr 8 = .int .i64 l.length) ∧ (fr 9 = .int .i64 k)) 0 (Nat.zero_le _) ⟨_,_,_,rfl,(by first | (simp only [go_sem,h0,h8,h9]; (try rfl); done) | rfl | simp),(by first | (simp only [go_sem,h0,h8,h9]; (try rfl); done) | rfl | simp),(by first | (simp only [go_sem,h0,h8,h9]; (try rfl); done) | rfl | simp),(by first | (simp only [go_sem,h0,h8,h9]; (try rfl); done) | rfl | simp),(by first | (simp only [go_sem,h0,h8,h9]; (try rfl); done) | rfl | simp)⟩ ?_
  rintro k st hk ⟨fr,en,cnt,rfl,h0,e6,h1,h8,h9⟩
  simp only [go_sem,qC,qG,qW,h0,e6,h1,h8,h9]
  refine condK_split (fun hq => ?_) (fun hq => ?_)
  ·have h' : k < l.length := of_decide_eq_true hq
   have hx := mid_get (keep := keep) h'
   have hc1 : (0 : Int) ≤ (k : Int) := by omega
   have hc2 : (k : Int) < (l.length : Int) := by omega
   simp only [go_sem,qC,qG,qW,h0,e6,h1,h8,h9,h',hx,hc1,hc2,true_and,and_true,eq_self,if_true,Nat.zero_add,Int.toNat_natCast]
   refine guardK_split (fun hg => ?_) (fun hg => ?_)
   ·have hr : isRef l[k] = true := hg
    have hk : l[k].n ∈ keep := hin _ (List.mem_map.2 ⟨l[k],List.mem_filter.2 ⟨List.getElem_mem h',hr⟩,rfl⟩)
    have hmv : movedV keep l[k] = ⟨l[k].kind,(keep.idxOf l[k].n : Int)⟩ := by rw [movedV,if_pos hr]
    have hset : ((midL keep l k).map MVal.enc).set k (.agg [.int .i64 l[k].kind,.int .i64 (keep.idxOf l[k].n : Nat)]) = (midL keep l (k + 1)).map MVal.enc := by
     rw [← mid_set h',List.map_set,hmv]; rfl
    simp only [go_sem,qC,qG,qW,hg,h0,e6,h1,h8,h9,h',hx,hc1,hc2,true_and,and_true,eq_self,if_true,Nat.zero_add,Int.toNat_natCast,look_to hk]
    try simp only [go_sem,qC,qG,qW,hset,h0,e6,h1,h8,h9,hx,put_agg]
    refine ⟨_,_,_,rfl,?_⟩
    simp only [go_sem,qW,h0,e6,h1,h8,h9,wrap_succ h' hf]
   ·have hmv : movedV keep l[k] = l[k] := by
     have : isRef l[k] = false := by simpa [isRef] using hg
     rw [movedV,if_neg (by rw [this]; decide)]
    simp only [go_sem,qC,qG,qW,hg,h0,e6,h1,h8,h9,Bool.not_true]
    refine ⟨_,_,_,rfl,?_⟩
    rw [mid_skip h' hmv]
    simp only [go_sem,qC,qG,qW,h0,e6,h1,h8,h9,wrap_succ h' hf]
  ·have : k = l.length := by simp at hq; omega
   subst this
   have hml : (movedL keep l).length = l.length := by simp [movedL]
   rw [mid_full] at e6
   have htk : ((movedL keep l).map MVal.enc).take l.length = (movedL keep l).map MVal.enc := List.take_of_length_le (by simp [hml])
   simp only [go_sem,qC,qG,qW,h0,e6,h1,h8,h9,hml,htk,Nat.le_refl,if_true,List.length_map]
theorem mem_refs {o : MObj} {keep : List Int} (h : ∀ x ∈ refsOf o,x ∈ keep) : (∀ x ∈ refVals o.vals,x ∈ keep) ∧ ∀ f ∈ o.frames,(∀ x ∈ refVals f.env,x ∈ keep) ∧ ∀ x ∈ refVals f.vals,x ∈ keep := by
 refine ⟨fun x hx => h x (List.mem_append_left _ hx),fun f hf => ⟨fun x hx => h x (List.mem_append_right _ (List.mem_flatMap.2 ⟨f,hf,List.mem_append_left _ hx⟩)),fun x hx => h x (List.mem_append_right _ (List.mem_flatMap.2 ⟨f,hf,List.mem_append_right _ hx⟩))⟩⟩
theorem renumbered_to_pc (o : MObj) (keep : List Int) (hs : smallObj o = true) (hin : ∀ x ∈ refsOf o,x ∈ keep) : PC L F.reap_renumbered [.agg [.int .i64 o.form,.int .i64 o.n,.fz (o.vals.map MVal.enc),.fz (o.frames.map MFrame.enc)],.fm (keep.map (.int .i64)) (placesV keep)] (.agg [.int .i64 (movedO keep o).form,.int .i64 (movedO keep o).n,.fz ((movedO keep o).vals.map MVal.enc),.fz ((movedO keep o).frames.map MFrame.enc)]) := by
 obtain ⟨b1,b2,b3⟩ := small_frames hs
 obtain ⟨i1,i2⟩ := mem_refs hin
 have hf : Few o.frames.length := by unfold Few; omega
 refine pc_of LF.reap_renumbered rfl rfl ?_
 simp only [go_sem,qC,qG,qW,C.reap_renumbered,box_any (v := .fm (keep.map (.int .i64)) (placesV keep)) rfl rfl]
 refine wp_foot ?_
 simp only [go_sem,qC,qG,qW,List.all_cons,List.getElem?_cons_zero,List.getElem?_cons_succ,Bool.true_or,Bool.or_true,Bool.false_eq_true,if_false,(renumbered_to_c1_pc o.vals keep (by omega) i1).ret]
 refine wp_for o.frames.length (fun k st => ∃ fr en cnt v,st = ⟨fr,en,cnt⟩ ∧ fr 4 = .ptr ⟨0,4,0⟩ 0 ∧ en ⟨0,4,0⟩ = some (.box [.int .i64 0,.int .i64 0,.cl [],.cl []] false) ∧ en ⟨0,3,0⟩ = some (.box [.fm (keep.map (.int .i64)) (placesV keep)] true) ∧ fr 5 = .fn F.reap_renumbered_c1 [] [.ptr ⟨0,3,0⟩ 0] ∧ fr 6 = .ptr ⟨0,6,0⟩ 0 ∧ en ⟨0,6,0⟩ = some (.box [.int .i64 o.form,.int .i64 o.n,.fz ((movedL keep o.vals).map MVal.enc),v] false) ∧ fr 20 = .fz (o.frames.map MFrame.enc) ∧ fr 21 = .int .i64 o.frames.length ∧ fr 22 = .int .i64 k ∧ Mine en v 3 (((o.frames.take k).map (movedF keep)).map MFrame.enc) [40]) 0 (Nat.zero_le _) ⟨_,_,_,.cl [],rfl,by simp only [go_sem,qW],by simp only [go_sem,qW],by simp only [go_sem,qW],by simp only [go_sem,qW],by simp only [go_sem,qW],by simp only [go_sem,qW],by simp only [go_sem,qW],by simp only [go_sem,qW],by simp only [go_sem,qW],Mine.nil _ _⟩ ?_
 rintro k st hk ⟨fr,en,cnt,v,rfl,h4,e4,e3,h5,h6,e6,h20,h21,h22,hv⟩
 simp only [go_sem,qC,qG,qW,h4,e4,e3,h5,h6,e6,h20,h21,h22]
 refine condK_split (fun hq => ?_) (fun hq => ?_)
 ·have h' : k < o.frames.length := of_decide_eq_true hq
  have hb := b3 _ (List.getElem_mem h')
  have hi := i2 _ (List.getElem_mem h')
  simp only [go_sem,qC,qG,qW,h',h4,e4,e3,h5,h6,e6,h20,h21,h22]
  refine wp_foot ?_
  simp only [go_sem,qC,qG,qW,h',h4,e4,e3,h5,h6,e6,h20,h21,h22,List.all_cons,List.getElem?_cons_zero,List.getElem?_cons_succ,Bool.true_or,Bool.or_true,Bool.false_eq_true,if_false,(renumbered_to_c1_pc _ keep (show o.frames[k].env.length ≤ 16777216 by omega) hi.1).ret,(renumbered_to_c1_pc _ keep (show o.frames[k].vals.length ≤ 16777216 by omega) hi.2).ret]
  refine wf_append (D := [40]) (xs := ((o.frames.take k).map (movedF keep)).map MFrame.enc) (ys := [MFrame.enc (movedF keep o.frames[k])]) (rs := []) ?_ ?_ ?_ rfl ?_ ?_
  ·simp only [go_sem,qW]
   exact hv.keep fun t g ht => by simp at ht; subst ht; simp only [go_sem,qW]
  ·rw [movedF_enc]; simp only [go_sem,qW]
  ·rfl
  ·simp; omega
  ·intro v' en' cnt' r hown hen hcnt _ _ _
   have k3 : en' ⟨0,3,0⟩ = some (.box [.fm (keep.map (.int .i64)) (placesV keep)] true) := by rw [hen 0 3 0 (.inr ⟨by decide,by simp⟩)]; simp only [go_sem,qW,e3]
   have k4 : en' ⟨0,4,0⟩ = some (.box [.int .i64 0,.int .i64 0,.cl [],.cl []] false) := by rw [hen 0 4 0 (.inr ⟨by decide,by simp⟩)]; simp only [go_sem,qW,e4]
   have k6 : en' ⟨0,6,0⟩ = some (.box [.int .i64 o.form,.int .i64 o.n,.fz ((movedL keep o.vals).map MVal.enc),v] false) := by rw [hen 0 6 0 (.inr ⟨by decide,by simp⟩)]; simp only [go_sem,qW,e6]
   obtain ⟨s1,s2⟩ := hown.shape
   simp only [go_sem,qC,qG,qW,h4,k4,k3,h5,h6,k6,h20,h21,h22,s1,s2,List.all_cons,List.getElem?_cons_zero,List.getElem?_cons_succ,Bool.true_or,Bool.or_true,Bool.false_eq_true,if_false]
   refine ⟨_,_,_,v',rfl,?_⟩
   simp only [go_sem,qC,qG,qW,h4,k4,k3,h5,h6,k6,h20,h21,h22,wrap_succ h' hf]
   rw [take_step h',List.map_append,List.map_append]
   refine Mine.sub (D := [40,40]) (Mine.keep (en := en') hown ?_) (by simp)
   intro t g ht; simp at ht; subst ht; simp only [go_sem,qW]
 ·have : k = o.frames.length := by simp at hq; omega
  subst this
  rw [List.take_length] at hv
  simp only [go_sem,qC,qG,qW,h4,e4,e3,h5,h6,e6,h20,h21,h22]
  obtain ⟨r,ks,s1,s2,_⟩ := (hv.keep (en' := en.set ⟨0,4,0⟩ (some (.box [.int .i64 o.form,.int .i64 o.n,.fz ((movedL keep o.vals).map MVal.enc),v] false))) fun t g ht => by simp at ht; subst ht; simp only [go_sem,qW]).snap 6
  simp only [go_sem,qC,qG,qW,s1,s2]
  rfl
theorem places_step (keep : List Int) {k : Nat} (h : k < keep.length) : placesV (keep.take (k + 1)) = placesV (keep.take k) ++ [.int .i64 (k : Nat)] := by
 have h1 : (keep.take (k + 1)).length = k + 1 := by simp; omega
 have h2 : (keep.take k).length = k := by simp; omega
 rw [placesV,placesV,h1,h2,List.range_succ,List.map_append]; rfl
theorem rising_take {keep : List Int} (hn : keep.Pairwise (· < ·)) {k : Nat} (h : k < keep.length) : keep[k] ∉ keep.take k := by
 intro hm
 obtain ⟨i,hi,he⟩ := List.mem_iff_getElem.1 hm
 have hik : i < k := by simp at hi; omega
 rw [List.getElem_take] at he
 have := List.pairwise_iff_getElem.1 hn i k (by omega) h hik
 omega
theorem reap_alone_pc (w : MWorld) (keep : List Int) (hw : w.few) (hsm : smallWorld w = true) (hk : keep.length ≤ 140) (hn : keep.Pairwise (· < ·)) (hin : ∀ n ∈ keep,inR n 0 ((w.objs.length : Int) - 1) = true)
  (hr : ∀ n ∈ keep,∀ x ∈ refsOf (w.obj n),x ∈ keep) (ht : ∀ t ∈ w.tasks,t ∈ keep) : PC L F.reap_alone [.agg [.fz (w.objs.map MObj.enc),.fz (w.tasks.map (.int .i64)),.fz (w.outs.map MOut.enc),.fz (w.ins.map (.int .i64)),.int .i64 w.used],.fz (keep.map (.int .i64))] (.agg [.fz ((compactW w keep).objs.map MObj.enc),.fz ((compactW w keep).tasks.map (.int .i64)),.fz ((compactW w keep).outs.map MOut.enc),.fz ((compactW w keep).ins.map (.int .i64)),.int .i64 (compactW w keep).used]) := by
 obtain ⟨b1,b2,b3,b4⟩ := smallW_len hsm
 have hfk : Few keep.length := by unfold Few; omega
 have c2 := Clone_out_pc (w.outs.map MOut.enc) (headOk_outs _) (by simp; omega)
 have c3 := Clone_int_pc (w.ins.map (.int .i64)) (headOk_ints _) (by simp; omega)
 refine pc_of LF.reap_alone rfl rfl ?_
 simp only [go_sem,qC,qG,qW,C.reap_alone]
 refine wp_for (keep.length) (fun k st => ∃ fr en cnt,st = ⟨fr,en,cnt⟩ ∧ (fr 2 = .ptr ⟨0,2,0⟩ 0) ∧ (en ⟨0,2,0⟩ = some (.box [.fz (w.objs.map MObj.enc),.fz (w.tasks.map (.int .i64)),.fz (w.outs.map MOut.enc),.fz (w.ins.map (.int .i64)),.int .i64 w.used] false)) ∧ (fr 4 = .ptr ⟨0,4,0⟩ 0) ∧ (en ⟨0,4,0⟩ = some (.box [.cl [],.cl [],.cl [],.cl [],.int .i64 0] false)) ∧ (fr 1 = .fz (keep.map (.int .i64))) ∧ (fr 5 = .mp ⟨0,13,0⟩) ∧ (fr 14 = .fz (keep.map (.int .i64))) ∧ (fr 15 = .int .i64 keep.length) ∧ (fr 16 = .int .i64 k) ∧ (en ⟨0,13,0⟩ = some (.map ((keep.take k).map (.int .i64)) (placesV (keep.take k)) false))) 0 (Nat.zero_le _) ⟨_,_,_,rfl,(by first | (simp only [go_sem,qW]; (try rfl); done) | rfl | simp),(by first | (simp only [go_sem,qW]; (try rfl); done) | rfl | simp),(by first | (simp only [go_sem,qW]; (try rfl); done) | rfl | simp),(by first | (simp only [go_sem,qW]; (try rfl); done) | rfl | simp),(by first | (simp only [go_sem,qW]; (try rfl); done) | rfl | simp),(by first | (simp only [go_sem,qW]; (try rfl); done) | rfl | simp),(by first | (simp only [go_sem,qW]; (try rfl); done) | rfl | simp),(by first | (simp only [go_sem,qW]; (try rfl); done) | rfl | simp),(by first | (simp only [go_sem,qW]; (try rfl); done) | rfl | simp),(by first | (simp only [go_sem,qW]; (try rfl); done) | rfl | simp)⟩ ?_
 rintro k st hk ⟨fr,en,cnt,rfl,h2,e2,h4,e4,h1,h5,h14,h15,h16,e13⟩
 simp only [go_sem,qC,qG,qW,h2,e2,h4,e4,h1,h5,h14,h15,h16,e13]
 refine condK_split (fun hq => ?_) (fun hq => ?_)
 ·have h' : k < keep.length := of_decide_eq_true hq
  have hnt := rising_take hn h'
  have hps := places_step keep h'
  have hmp : (keep.take (k + 1)).map (Val.int .i64) = (keep.take k).map (.int .i64) ++ [.int .i64 keep[k]] := by rw [take_step h',List.map_append]; rfl
  have hfd := findKey_idx keep[k] (keep.take k)
  rw [if_neg hnt] at hfd
  simp only [go_sem,qC,qG,qW,h',h2,e2,h4,e4,h1,h5,h14,h15,h16,e13,hfd,Bool.and_true,Bool.and_self,if_true]
  refine ⟨_,_,_,rfl,?_⟩
  simp only [go_sem,qC,qG,qW,h2,e2,h4,e4,h1,h5,h14,h15,h16,e13,wrap_succ h' hfk,hps,hmp]
 ·have : k = keep.length := by simp at hq; omega
  subst this
  rw [List.take_length] at e13
  simp only [go_sem,qC,qG,qW,h2,e2,h4,e4,h1,h5,h14,h15,h16,e13]
  obtain ⟨g8,hg8⟩ : ∃ g,g = cnt 0 8 := ⟨_,rfl⟩
  obtain ⟨g27,hg27⟩ : ∃ g,g = cnt 0 27 := ⟨_,rfl⟩
  obtain ⟨g30,hg30⟩ : ∃ g,g = cnt 0 30 := ⟨_,rfl⟩
  refine wp_cutE (fun st => st.fr 1 = .fz (keep.map (.int .i64)) ∧ st.fr 2 = .ptr ⟨0,2,0⟩ 0 ∧ st.en ⟨0,2,0⟩ = some (.box [.fz (w.objs.map MObj.enc),.fz (w.tasks.map (.int .i64)),.fz (w.outs.map MOut.enc),.fz (w.ins.map (.int .i64)),.int .i64 w.used] false) ∧ st.fr 4 = .ptr ⟨0,4,0⟩ 0 ∧ st.en ⟨0,4,0⟩ = some (.box [.cl [],.cl [],.cl [],.cl [],.int .i64 0] false) ∧ st.fr 5 = .mp ⟨0,13,0⟩ ∧ st.en ⟨0,13,0⟩ = some (.map (keep.map (.int .i64)) (placesV keep) false) ∧ st.fr 8 = .ptr ⟨0,8,g8⟩ 0 ∧
   ∃ vO vI,st.en ⟨0,8,g8⟩ = some (.box [.cl [],.cl [],vO,vI,.int .i64 w.used] false) ∧ Mine st.en vO 2 (w.outs.map MOut.enc) [27] ∧ Mine st.en vI 1 (w.ins.map (.int .i64)) [30]) ?_ ?_
  ·refine wp_foot ?_
   rcases clone_cases 2 (w.outs.map MOut.enc) with ⟨o1,o2⟩ | ⟨o1,o2⟩ <;> rw [o2] at c2 <;>
   rcases clone_cases 1 (w.ins.map (Val.int .i64)) with ⟨i1,i2⟩ | ⟨i1,i2⟩ <;> rw [i2] at c3
   all_goals simp only [go_sem,qC,qG,qW,h2,e2,h4,e4,h1,h5,h14,h15,h16,e13,e13,← hg8,← hg27,← hg30,List.all_cons,List.getElem?_cons_zero,List.getElem?_cons_succ,Bool.true_or,Bool.or_true,Bool.false_eq_true,if_false,Option.getD_some,c2.ret,c3.ret,List.length_map,Nat.le_refl,if_true,take_map_len,one_cl,cells_cl,one_bl,cells_bl]
   all_goals refine ⟨_,_,rfl,?_,?_⟩
   all_goals first
    | exact .inl ⟨rfl,by assumption⟩
    | exact mine_bl (by simp only [go_sem,qW]; try rfl) (by simp only [List.length_map])
  ·clear h1 h2 e2 h4 e4 h5 e13 h14 h15 h16
   rintro fr en cnt ⟨h1,h2,e2,h4,e4,h5,e13,h8,vO,vI,e8,mO,mI⟩
   dsimp only at h1 h2 e2 h4 e4 h5 e13 h8 e8 mO mI
   simp only [go_sem,qC,qG,qW,h1,h2,e2,h4,e4,h5,e13,h8,e8]
   refine wp_for keep.length (fun k st => ∃ fr en cnt v f,st = ⟨fr,en,cnt⟩ ∧ fr 1 = .fz (keep.map (.int .i64)) ∧ fr 2 = .ptr ⟨0,2,0⟩ 0 ∧ en ⟨0,2,0⟩ = some (.box [.fz (w.objs.map MObj.enc),.fz (w.tasks.map (.int .i64)),.fz (w.outs.map MOut.enc),.fz (w.ins.map (.int .i64)),.int .i64 w.used] false) ∧ fr 4 = .ptr ⟨0,4,0⟩ 0 ∧ en ⟨0,4,0⟩ = some (.box [.cl [],.cl [],.cl [],.cl [],.int .i64 0] false) ∧ fr 5 = .mp ⟨0,13,0⟩ ∧ en ⟨0,13,0⟩ = some (.map (keep.map (.int .i64)) (placesV keep) f) ∧ fr 8 = .ptr ⟨0,8,g8⟩ 0 ∧
    en ⟨0,8,g8⟩ = some (.box [v,.cl [],vO,vI,.int .i64 w.used] false) ∧ fr 34 = .fz (keep.map (.int .i64)) ∧ fr 35 = .int .i64 keep.length ∧ fr 36 = .int .i64 k ∧ Mine en vO 2 (w.outs.map MOut.enc) [27] ∧ Mine en vI 1 (w.ins.map (.int .i64)) [30] ∧ Mine en v 4 (((keep.take k).map fun n => movedO keep (w.obj n)).map MObj.enc) [50]) 0 (Nat.zero_le _)
    ⟨_,_,_,.cl [],false,rfl,by simp only [go_sem,h1],by simp only [go_sem,h2],by simp only [go_sem,e2],by simp only [go_sem,h4],by simp only [go_sem,e4],by simp only [go_sem,h5],by simp only [go_sem,e13],by simp only [go_sem,h8],by simp only [go_sem,e8],by simp only [go_sem,qW],by simp only [go_sem,qW],by simp only [go_sem,qW],mO,mI,Mine.nil _ _⟩ ?_
   clear h1 h2 e2 h4 e4 h5 e13 h8 e8 mO mI
   rintro k st hk' ⟨fr,en,cnt,v,f,rfl,h1,h2,e2,h4,e4,h5,e13,h8,e8,h34,h35,h36,mO,mI,hv⟩
   simp only [go_sem,qC,qG,qW,h1,h2,e2,h4,e4,h5,e13,h8,e8,h34,h35,h36]
   refine condK_split (fun hq => ?_) (fun hq => ?_)
   ·have h' : k < keep.length := of_decide_eq_true hq
    have hm := List.getElem_mem h'
    have hi := hin _ hm
    have hrn := renumbered_to_pc (w.obj keep[k]) keep (smallW_obj hsm _ (obj_mem hi)) (hr _ hm)
    simp only [go_sem,qC,qG,qW,h',h1,h2,e2,h4,e4,h5,e13,h8,e8,h34,h35,h36]
    refine wp_foot ?_
    simp only [go_sem,qC,qG,qW,h',h1,h2,e2,h4,e4,h5,e13,h8,e8,h34,h35,h36,ia_obj hi,hrn.ret,flat_mo,sn_mp,one_mp,cells_mp,List.all_cons,List.getElem?_cons_zero,List.getElem?_cons_succ,Bool.true_or,Bool.or_true,Bool.false_eq_true,if_false]
    refine wf_append (D := [50]) (xs := ((keep.take k).map fun n => movedO keep (w.obj n)).map MObj.enc) (ys := [MObj.enc (movedO keep (w.obj keep[k]))]) (rs := []) ?_ ?_ ?_ rfl ?_ ?_
    ·simp only [go_sem,qW]
     exact hv.keep fun t g ht => by simp at ht; subst ht; simp only [go_sem,qW]
    ·rw [movedO_enc]; simp only [go_sem,qW]; rfl
    ·rfl
    ·simp; omega
    ·intro v' en' cnt' r hown hen hcnt _ _ _
     have k2 : en' ⟨0,2,0⟩ = some (.box [.fz (w.objs.map MObj.enc),.fz (w.tasks.map (.int .i64)),.fz (w.outs.map MOut.enc),.fz (w.ins.map (.int .i64)),.int .i64 w.used] false) := by rw [hen 0 2 0 (.inr ⟨by decide,by simp⟩)]; simp only [go_sem,qW,e2]
     have k4 : en' ⟨0,4,0⟩ = some (.box [.cl [],.cl [],.cl [],.cl [],.int .i64 0] false) := by rw [hen 0 4 0 (.inr ⟨by decide,by simp⟩)]; simp only [go_sem,qW,e4]
     have k8 : en' ⟨0,8,g8⟩ = some (.box [v,.cl [],vO,vI,.int .i64 w.used] false) := by rw [hen 0 8 g8 (.inr ⟨by decide,by simp⟩)]; simp only [go_sem,qW,e8]
     have k13 : en' ⟨0,13,0⟩ = some (.map (keep.map (.int .i64)) (placesV keep) true) := by rw [hen 0 13 0 (.inr ⟨by decide,by simp⟩)]; simp only [go_sem,qW,e13]
     obtain ⟨s1,s2⟩ := hown.shape
     simp only [go_sem,qC,qG,qW,h1,h2,k2,h4,k4,h5,k13,h8,k8,h34,h35,h36,s1,s2,List.all_cons,List.getElem?_cons_zero,List.getElem?_cons_succ,Bool.true_or,Bool.or_true,Bool.false_eq_true,if_false]
     refine ⟨_,_,_,v',true,rfl,?_⟩
     simp only [go_sem,qC,qG,qW,h1,h2,k2,h4,k4,h5,k13,h8,k8,h34,h35,h36,wrap_succ h' hfk]
     refine ⟨?_,?_,?_⟩
     ·exact mO.keep fun t g ht => by simp at ht; subst ht; simp only [go_sem,qW,hen 0 27 g (.inr ⟨by decide,by simp⟩)]
     ·exact mI.keep fun t g ht => by simp at ht; subst ht; simp only [go_sem,qW,hen 0 30 g (.inr ⟨by decide,by simp⟩)]
     ·rw [aloneO_step h',List.map_append]
      refine Mine.sub (D := [50,50]) (Mine.keep (en := en') hown ?_) (by simp)
      intro t g ht; simp at ht; subst ht; simp only [go_sem,qW]
   ·have : k = keep.length := by simp at hq; omega
    subst this
    rw [List.take_length] at hv
    simp only [go_sem,qC,qG,qW,h1,h2,e2,h4,e4,h5,e13,h8,e8,h34,h35,h36]
    refine wp_for w.tasks.length (fun j st => ∃ fr en cnt vt,st = ⟨fr,en,cnt⟩ ∧ fr 4 = .ptr ⟨0,4,0⟩ 0 ∧ en ⟨0,4,0⟩ = some (.box [.cl [],.cl [],.cl [],.cl [],.int .i64 0] false) ∧ fr 5 = .mp ⟨0,13,0⟩ ∧ en ⟨0,13,0⟩ = some (.map (keep.map (.int .i64)) (placesV keep) f) ∧ fr 8 = .ptr ⟨0,8,g8⟩ 0 ∧
     en ⟨0,8,g8⟩ = some (.box [v,vt,vO,vI,.int .i64 w.used] false) ∧ fr 54 = .fz (w.tasks.map (.int .i64)) ∧ fr 55 = .int .i64 w.tasks.length ∧ fr 56 = .int .i64 j ∧ Mine en vO 2 (w.outs.map MOut.enc) [27] ∧ Mine en vI 1 (w.ins.map (.int .i64)) [30] ∧ Mine en v 4 ((keep.map fun n => movedO keep (w.obj n)).map MObj.enc) [50] ∧
     Mine en vt 1 (((w.tasks.take j).map fun t => (keep.idxOf t : Int)).map (.int .i64)) [66]) 0 (Nat.zero_le _)
     ⟨_,_,_,.cl [],rfl,by simp only [go_sem,h4],by simp only [go_sem,e4],by simp only [go_sem,h5],by simp only [go_sem,e13],by simp only [go_sem,h8],by simp only [go_sem,e8],by simp only [go_sem,qW],by simp only [go_sem,qW],by simp only [go_sem,qW],mO,mI,hv,Mine.nil _ _⟩ ?_
    clear h1 h2 e2 h4 e4 h5 e13 h8 e8 h34 h35 h36 mO mI hv
    rintro j st hj' ⟨fr,en,cnt,vt,rfl,h4,e4,h5,e13,h8,e8,h54,h55,h56,mO,mI,hv,mt⟩
    simp only [go_sem,qC,qG,qW,h4,e4,h5,e13,h8,e8,h54,h55,h56]
    refine condK_split (fun hq2 => ?_) (fun hq2 => ?_)
    ·have h2' : j < w.tasks.length := of_decide_eq_true hq2
     have hlk := look_to (ht _ (List.getElem_mem h2'))
     simp only [go_sem,qC,qG,qW,h2',h4,e4,h5,e13,h8,e8,h54,h55,h56,hlk]
     refine w_append (D := [66]) (xs := ((w.tasks.take j).map fun t => (keep.idxOf t : Int)).map (.int .i64)) (ys := [.int .i64 (keep.idxOf w.tasks[j] : Nat)]) (rs := []) ?_ ?_ ?_ ?_ ?_
     ·simp only [go_sem,qW]
      exact mt
     ·simp only [go_sem,qW]
     ·rfl
     ·simp; omega
     ·intro vt' en' cnt' hown hen hcnt
      have k4 : en' ⟨0,4,0⟩ = some (.box [.cl [],.cl [],.cl [],.cl [],.int .i64 0] false) := by rw [hen 0 4 0 (.inr ⟨by decide,by simp⟩)]; simp only [go_sem,qW,e4]
      have k8 : en' ⟨0,8,g8⟩ = some (.box [v,vt,vO,vI,.int .i64 w.used] false) := by rw [hen 0 8 g8 (.inr ⟨by decide,by simp⟩)]; simp only [go_sem,qW,e8]
      have k13 : en' ⟨0,13,0⟩ = some (.map (keep.map (.int .i64)) (placesV keep) f) := by rw [hen 0 13 0 (.inr ⟨by decide,by simp⟩)]; simp only [go_sem,qW,e13]
      obtain ⟨s1,s2⟩ := hown.shape
      simp only [go_sem,qC,qG,qW,h4,k4,h5,k13,h8,k8,h54,h55,h56,s1,s2]
      refine ⟨_,_,_,vt',rfl,?_⟩
      simp only [go_sem,qC,qG,qW,h4,k4,h5,k13,h8,k8,h54,h55,h56,wrap_succ h2' hw.tasks]
      refine ⟨?_,?_,?_,?_⟩
      ·exact mO.keep fun t g ht => by simp at ht; subst ht; simp only [go_sem,qW,hen 0 27 g (.inr ⟨by decide,by simp⟩)]
      ·exact mI.keep fun t g ht => by simp at ht; subst ht; simp only [go_sem,qW,hen 0 30 g (.inr ⟨by decide,by simp⟩)]
      ·exact hv.keep fun t g ht => by simp at ht; subst ht; simp only [go_sem,qW,hen 0 50 g (.inr ⟨by decide,by simp⟩)]
      ·rw [take_step h2',List.map_append,List.map_append]
       refine Mine.sub (D := [66,66]) (Mine.keep (en := en') hown ?_) (by simp)
       intro t g ht; simp at ht; subst ht; simp only [go_sem,qW]
    ·have : j = w.tasks.length := by simp at hq2; omega
     subst this
     rw [List.take_length] at mt
     simp only [go_sem,qC,qG,qW,h4,e4,h5,e13,h8,e8,h54,h55,h56]
     have e' : ∀ t g,¬ t = 4 → (en.set ⟨0,4,0⟩ (some (.box [v,vt,vO,vI,.int .i64 w.used] false))) ⟨0,t,g⟩ = en ⟨0,t,g⟩ := fun t g h => en_ne_t h
     obtain ⟨x1,ks1,a1,a2,_⟩ := (hv.keep (en' := en.set ⟨0,4,0⟩ (some (.box [v,vt,vO,vI,.int .i64 w.used] false))) fun t g ht => e' t g (by simp at ht; omega)).snap 6
     obtain ⟨x2,ks2,d1,d2,_⟩ := (mt.keep (en' := en.set ⟨0,4,0⟩ (some (.box [v,vt,vO,vI,.int .i64 w.used] false))) fun t g ht => e' t g (by simp at ht; omega)).snap 6
     obtain ⟨x3,ks3,f1,f2,_⟩ := (mO.keep (en' := en.set ⟨0,4,0⟩ (some (.box [v,vt,vO,vI,.int .i64 w.used] false))) fun t g ht => e' t g (by simp at ht; omega)).snap 6
     obtain ⟨x4,ks4,y1,y2,_⟩ := (mI.keep (en' := en.set ⟨0,4,0⟩ (some (.box [v,vt,vO,vI,.int .i64 w.used] false))) fun t g ht => e' t g (by simp at ht; omega)).snap 6
     simp only [go_sem,qC,qG,qW,a1,a2,d1,d2,f1,f2,y1,y2]
     rfl
def memB (keep : List Int) (x : Int) : Bool := keep.any fun y => decide (y = x)
theorem memB_iff {keep : List Int} {x : Int} : memB keep x = true ↔ x ∈ keep := by
 unfold memB; rw [List.any_eq_true]
 exact ⟨fun ⟨y,h,e⟩ => by rw [← of_decide_eq_true e]; exact h,fun h => ⟨x,h,by simp⟩⟩
def numAt (keep : List Int) (i : Nat) : Int := keep.getD i 0
theorem numAt_get {keep : List Int} {i : Nat} (h : i < keep.length) : numAt keep i = keep[i] := by simp [numAt,List.getD_eq_getElem?_getD,h]
def riseAt (n : Nat) (keep : List Int) (i : Nat) : Bool := inR (numAt keep i) 0 ((n : Int) - 1) && (decide (i = 0) || decide (numAt keep (i - 1) < numAt keep i))
def risingOk (n : Nat) (keep : List Int) : Bool := (List.range keep.length).all (riseAt n keep)
theorem rising_all {n : Nat} {keep : List Int} : risingOk n keep = true ↔ ∀ i,i < keep.length → riseAt n keep i = true := by
 unfold risingOk; rw [List.all_eq_true]
 exact ⟨fun h i hi => h i (by simpa using hi),fun h i hi => h i (by simpa using hi)⟩
theorem rising_pair {n : Nat} {keep : List Int} (h : risingOk n keep = true) : keep.Pairwise (· < ·) := by
 rw [rising_all] at h
 rw [List.pairwise_iff_getElem]
 intro i j hi hj hij
 obtain ⟨d,rfl⟩ : ∃ d,j = i + 1 + d := ⟨j - i - 1,by omega⟩
 induction d with
 | zero =>
  have := h (i + 1) hj
  simp only [riseAt,Bool.and_eq_true,Bool.or_eq_true,decide_eq_true_eq] at this
  rcases this.2 with h2 | h2
  ·omega
  ·rw [Nat.add_sub_cancel,numAt_get hi,numAt_get hj] at h2; exact h2
 | succ d ih =>
  have h1 := ih (by omega) (by omega)
  have := h (i + 1 + (d + 1)) hj
  simp only [riseAt,Bool.and_eq_true,Bool.or_eq_true,decide_eq_true_eq] at this
  rcases this.2 with h2 | h2
  ·omega
  ·rw [numAt_get hj,numAt_get (by omega)] at h2
   have e : i + 1 + (d + 1) - 1 = i + 1 + d := by omega
   simp only [e] at h2
   omega
theorem rising_in {n : Nat} {keep : List Int} (h : risingOk n keep = true) : ∀ x ∈ keep,inR x 0 ((n : Int) - 1) = true := by
 intro x hx
 obtain ⟨i,hi,rfl⟩ := List.mem_iff_getElem.1 hx
 have := (rising_all.1 h) i hi
 simp only [riseAt,Bool.and_eq_true] at this
 rw [← numAt_get hi]; exact this.1
def lostB (keep : List Int) (i r : Int) : Bool := memB keep i && !memB keep r
def aloneRow (w : MWorld) (keep : List Int) (i : Nat) : Bool := !(isTask (w.obj i) && !memB keep i) && (refsL (w.obj i)).all fun r => !lostB keep i r
def aloneOk (w : MWorld) (keep : List Int) : Bool := (List.range w.objs.length).all (aloneRow w keep)
theorem alone_all {w : MWorld} {keep : List Int} : aloneOk w keep = true ↔ ∀ i,i < w.objs.length → aloneRow w keep i = true := by
 unfold aloneOk; rw [List.all_eq_true]
 exact ⟨fun h i hi => h i (by simpa using hi),fun h i hi => h i (by simpa using hi)⟩
def numsTo (l : List Bool) (k : Nat) : List Int := ((List.range k).filter fun i => l.getD i false).map fun (i : Nat) => (i : Int)
def numsL (l : List Bool) : List Int := numsTo l l.length
theorem numsTo_len (l : List Bool) (k : Nat) : (numsTo l k).length ≤ k := by
 have := List.length_filter_le (fun i => l.getD i false) (List.range k)
 simpa [numsTo] using this
theorem numsTo_t {l : List Bool} {k : Nat} (h : l.getD k false = true) : numsTo l (k + 1) = numsTo l k ++ [(k : Int)] := by
 rw [numsTo,List.range_succ,List.filter_append,List.map_append]
 simp only [List.filter_cons,h,if_true,List.filter_nil]; rfl
theorem numsTo_f {l : List Bool} {k : Nat} (h : l.getD k false = false) : numsTo l (k + 1) = numsTo l k := by
 rw [numsTo,List.range_succ,List.filter_append,List.map_append]
 simp only [List.filter_cons,h,List.filter_nil,Bool.false_eq_true,if_false,List.map_nil,List.append_nil]; rfl
theorem bool_get {l : List Bool} {k : Nat} (h : k < l.length) : l.getD k false = l[k] := by simp [List.getD_eq_getElem?_getD,h]
def lastAt (keep : List Int) (k : Nat) : Int := if k = 0 then -1 else numAt keep (k - 1)
theorem rise_last {n : Nat} {keep : List Int} {k : Nat} (h : k < keep.length) (hI : ∀ i,i < k → riseAt n keep i = true) : riseAt n keep k = (!decide (keep[k] ≤ lastAt keep k) && !decide ((n : Int) ≤ keep[k])) := by
 rw [Bool.eq_iff_iff]
 by_cases h0 : k = 0
 ·subst h0
  simp [riseAt,lastAt,inR,numAt_get h]; omega
 ·have hp := hI (k - 1) (by omega)
  simp only [riseAt,Bool.and_eq_true] at hp
  have hp1 := hp.1
  simp only [inR,decide_eq_true_eq] at hp1
  simp only [riseAt,lastAt,if_neg h0,inR,numAt_get h,Bool.and_eq_true,Bool.or_eq_true,decide_eq_true_eq,Bool.not_eq_true',decide_eq_false_iff_not]
  omega
theorem last_succ {keep : List Int} {k : Nat} (h : k < keep.length) : lastAt keep (k + 1) = keep[k] := by rw [lastAt,if_neg (by omega),Nat.add_sub_cancel,numAt_get h]
def staysL (n : Nat) (keep : List Int) (k : Nat) : List Val := (List.range n).map fun i => .bool (memB (keep.take k) (i : Nat))
theorem stays_len (n : Nat) (keep : List Int) (k : Nat) : (staysL n keep k).length = n := by simp [staysL]
theorem stays_zero (n : Nat) (keep : List Int) : staysL n keep 0 = List.replicate n (.bool false) := by simp [staysL,memB,List.map_const']
theorem stays_get {n : Nat} {keep : List Int} {k j : Nat} (h : j < n) : (staysL n keep k)[j]? = some (.bool (memB (keep.take k) j)) := by simp [staysL,h]
theorem stays_set {n : Nat} {keep : List Int} {k j : Nat} (h : k < keep.length) (hj : keep[k] = (j : Int)) : (staysL n keep k).set j (.bool true) = staysL n keep (k + 1) := by
 have hm : ∀ i : Nat,memB (keep.take (k + 1)) (i : Int) = (memB (keep.take k) i || decide (j = i)) := by
  intro i
  rw [take_step h,memB,List.any_append,hj]
  simp only [List.any_cons,List.any_nil,Bool.or_false,memB]
  congr 1
  simp
  omega
 apply List.ext_getElem
 ·simp [staysL]
 ·intro i h1 h2
  simp only [List.getElem_set,staysL,List.getElem_map,List.getElem_range,hm]
  by_cases hi : j = i
  ·simp [hi]
  ·simp [hi]
theorem stays_full (n : Nat) (keep : List Int) {j : Nat} (h : j < n) : (staysL n keep keep.length)[j]? = some (.bool (memB keep j)) := by
 rw [stays_get h,List.take_length]
def CI (w : MWorld) (keep : List Int) (k g12 : Nat) (fr0 : Nat → Val) (gk : Nat) (r : List Int) (en : En) (cnt : Nat → Nat → Nat) : Prop :=
 en ⟨1,0,gk⟩ = some (.loop fr0 [66] (LCode.ops [o 14 (.mv (.t 66))]) (LCode.block 5 (.seq (.ops [o 67 (.load false 1 (.t 8)),o 68 (.load false 1 (.t 12)),o 69 (.ia 1 (.t 67) (.t 68)),o 70 (.load false 1 (.t 69)),o 71 (.mv (.t 70)),og 72 71 true (.load false 1 (.t 8)),og 73 71 true (.mv (.t 14)),og 74 71 true (.ia 1 (.t 72) (.t 73)),og 75 71 true (.load false 1 (.t 74)),og 76 71 true (.un .not (.t 75)),o 77 (.pick (.t 71) (.t 76) (.c (.bool false)))]) (.cond (.t 77) (.seq (.ops [o 78 (.build [(.cl []),(.cl []),(.cl []),(.cl []),(.int .i64 0)] []),on (.store 5 (.t 6) (.t 78)),on (.store 1 (.t 7) (.c (.int .i64 7)))]) .ret) .skip))) .ready) ∧ en ⟨0,4,0⟩ = some (.box [.fz (w.objs.map MObj.enc),.fz (w.tasks.map (.int .i64)),.fz (w.outs.map MOut.enc),.fz (w.ins.map (.int .i64)),.int .i64 w.used] false) ∧ en ⟨0,6,0⟩ = some (.box [.cl [],.cl [],.cl [],.cl [],.int .i64 0] false) ∧ en ⟨0,7,0⟩ = some (.box [.int .i64 0] false) ∧ en ⟨0,8,0⟩ = some (.box [.bl ⟨0,23,0⟩ 0 w.objs.length] false) ∧ en ⟨0,12,g12⟩ = some (.box [.int .i64 k] false) ∧ en ⟨0,23,0⟩ = some (.blk 1 (staysL w.objs.length keep keep.length) false) ∧
  (∀ x ∈ refsOf (w.obj k),lostB keep k x = true → x ∈ r) ∧ (∀ x ∈ r,x ∈ refsOf (w.obj k)) ∧ 1 ≤ cnt 0 6
def CG (w : MWorld) (keep : List Int) (k : Nat) (fr0 : Nat → Val) (gk : Nat) (en : En) (cnt : Nat → Nat → Nat) : Prop :=
 en ⟨1,0,gk⟩ = some (.loop fr0 [66] (LCode.ops [o 14 (.mv (.t 66))]) (LCode.block 5 (.seq (.ops [o 67 (.load false 1 (.t 8)),o 68 (.load false 1 (.t 12)),o 69 (.ia 1 (.t 67) (.t 68)),o 70 (.load false 1 (.t 69)),o 71 (.mv (.t 70)),og 72 71 true (.load false 1 (.t 8)),og 73 71 true (.mv (.t 14)),og 74 71 true (.ia 1 (.t 72) (.t 73)),og 75 71 true (.load false 1 (.t 74)),og 76 71 true (.un .not (.t 75)),o 77 (.pick (.t 71) (.t 76) (.c (.bool false)))]) (.cond (.t 77) (.seq (.ops [o 78 (.build [(.cl []),(.cl []),(.cl []),(.cl []),(.int .i64 0)] []),on (.store 5 (.t 6) (.t 78)),on (.store 1 (.t 7) (.c (.int .i64 7)))]) .ret) .skip))) (.done .ret)) ∧ en ⟨0,6,0⟩ = some (.box [.cl [],.cl [],.cl [],.cl [],.int .i64 0] false) ∧ en ⟨0,7,0⟩ = some (.box [.int .i64 7] false) ∧ ∃ x ∈ refsOf (w.obj k),lostB keep k x = true
theorem alone_rounds (w : MWorld) (keep : List Int) (k g12 : Nat) {fr0 : Nat → Val} {gk : Nat} {c0 : Nat → Nat} (hk : k < w.objs.length) (q6 : fr0 6 = .ptr ⟨0,6,0⟩ 0) (q7 : fr0 7 = .ptr ⟨0,7,0⟩ 0) (q8 : fr0 8 = .ptr ⟨0,8,0⟩ 0) (q12 : fr0 12 = .ptr ⟨0,12,g12⟩ 0)
  (hino : ∀ x ∈ refsOf (w.obj k),inR x 0 ((w.objs.length : Int) - 1) = true) (hc : 1 ≤ c0 6) : Rounds ⟨1,0,gk⟩ c0 (CI w keep k g12 fr0 gk) (CG w keep k fr0 gk) := by
 refine ⟨?_,?_⟩
 ·rintro r en cnt en' cnt' ⟨i1,i4,i6,i7,i8,i12,i23,j1,j2,j3⟩ hout hcnt hge
  have hge6 := hge 6 (by decide)
  exact ⟨(hout 1 0 gk (.inl (by omega))).trans i1,(hout 0 4 0 (.inr (.inl (by decide)))).trans i4,(hout 0 6 0 (.inr (.inr (by omega)))).trans i6,(hout 0 7 0 (.inr (.inl (by decide)))).trans i7,(hout 0 8 0 (.inr (.inl (by decide)))).trans i8,(hout 0 12 g12 (.inr (.inl (by decide)))).trans i12,(hout 0 23 0 (.inr (.inl (by decide)))).trans i23,j1,j2,by omega⟩
 ·rintro x rest en cnt ⟨i1,i4,i6,i7,i8,i12,i23,j1,j2,j3⟩
  have hxr := j2 x (by simp)
  have hxi := hino x hxr
  have hxi' := hxi
  simp only [inR,decide_eq_true_eq] at hxi'
  obtain ⟨j,rfl⟩ := Int.eq_ofNat_of_zero_le hxi'.1
  have hj : j < w.objs.length := by omega
  have hc1 : (0 : Int) ≤ (k : Int) := by omega
  have hc2 : (k : Int) < (w.objs.length : Int) := by omega
  have hc3 : (0 : Int) ≤ (j : Int) := by omega
  have hc4 : (j : Int) < (w.objs.length : Int) := by omega
  have gk1 := stays_full w.objs.length keep hk
  have gj1 := stays_full w.objs.length keep hj
  refine win_yld (fr := fr0) (ps := [66]) (a := (LCode.ops [o 14 (.mv (.t 66))])) (b := (LCode.block 5 (.seq (.ops [o 67 (.load false 1 (.t 8)),o 68 (.load false 1 (.t 12)),o 69 (.ia 1 (.t 67) (.t 68)),o 70 (.load false 1 (.t 69)),o 71 (.mv (.t 70)),og 72 71 true (.load false 1 (.t 8)),og 73 71 true (.mv (.t 14)),og 74 71 true (.ia 1 (.t 72) (.t 73)),og 75 71 true (.load false 1 (.t 74)),og 76 71 true (.un .not (.t 75)),o 77 (.pick (.t 71) (.t 76) (.c (.bool false)))]) (.cond (.t 77) (.seq (.ops [o 78 (.build [(.cl []),(.cl []),(.cl []),(.cl []),(.int .i64 0)] []),on (.store 5 (.t 6) (.t 78)),on (.store 1 (.t 7) (.c (.int .i64 7)))]) .ret) .skip)))) i1 rfl ?_
  simp only [go_sem,qC,qG,qW,q6,q7,q8,q12,i1,i6,i7,i8,i12,i23,stays_len,gk1,hk,hc1,hc2,true_and,and_true,eq_self,if_true,Nat.zero_add,Int.toNat_natCast]
  refine guardK_split (fun ga => ?_) (fun ga => ?_)
  ·simp only [go_sem,qC,qG,qW,ga,q6,q7,q8,q12,i1,i6,i7,i8,i12,i23,stays_len,gj1,hj,hc3,hc4,true_and,and_true,eq_self,if_true,Nat.zero_add,Int.toNat_natCast]
   refine condK_split (fun hb => ?_) (fun hb => ?_)
   ·have hlost : lostB keep k j = true := by rw [lostB,ga,Bool.true_and]; exact hb
    simp only [go_sem,qC,qG,qW,q6,q7,i1,i6,i7]
    refine ⟨fun t g ht hg => ?_,fun _ _ => trivial,.inr ⟨rfl,?_,?_,?_,(j : Int),hxr,hlost⟩⟩
    ·have n1 : (⟨0,t,g⟩ : Key) ≠ ⟨1,0,gk⟩ := by intro he; injection he with h1 _ _; omega
     have n2 : (⟨0,t,g⟩ : Key) ≠ ⟨0,6,0⟩ := by intro he; injection he with _ h2 h3; subst h2; omega
     have n3 : (⟨0,t,g⟩ : Key) ≠ ⟨0,7,0⟩ := by intro he; injection he with _ h2 h3; subst h2; simp [T4] at ht
     rw [en_ne n1,en_ne n3,en_ne n2,en_ne n1]
    ·try simp only [go_sem,qW]
     try rfl
    ·try simp only [go_sem,qW,i6]
     try rfl
    ·try simp only [go_sem,qW,i7]
     try rfl
   ·have hlost : lostB keep k j = false := by rw [lostB,ga,Bool.true_and]; exact hb
    simp only [go_sem,qC,qG,qW,q6,q7,i1,i6,i7]
    refine ⟨fun t g ht hg => ?_,fun _ _ => trivial,.inl ⟨?_,?_,?_,?_,?_,?_,?_,fun y hy hz => ?_,fun y hy => j2 y (by simp [hy]),j3⟩⟩
    ·have n1 : (⟨0,t,g⟩ : Key) ≠ ⟨1,0,gk⟩ := by intro he; injection he with h1 _ _; omega
     rw [en_ne n1,en_ne n1]
    ·try simp only [go_sem,qW]
     try rfl
    ·simp only [go_sem,qW,i4]
    ·simp only [go_sem,qW,i6]
    ·simp only [go_sem,qW,i7]
    ·simp only [go_sem,qW,i8]
    ·simp only [go_sem,qW,i12]
    ·simp only [go_sem,qW,i23]
    ·rcases List.mem_cons.1 (j1 y hy hz) with rfl | h
     ·rw [hlost] at hz; cases hz
     ·exact h
  ·have hlost : lostB keep k j = false := by rw [lostB,ga]; rfl
   simp only [go_sem,qC,qG,qW,ga,q6,q7,i1,i6,i7,Bool.not_true]
   refine ⟨fun t g ht hg => ?_,fun _ _ => trivial,.inl ⟨?_,?_,?_,?_,?_,?_,?_,fun y hy hz => ?_,fun y hy => j2 y (by simp [hy]),j3⟩⟩
   ·have n1 : (⟨0,t,g⟩ : Key) ≠ ⟨1,0,gk⟩ := by intro he; injection he with h1 _ _; omega
    rw [en_ne n1,en_ne n1]
   ·try simp only [go_sem,qW]
    try rfl
   ·simp only [go_sem,qW,i4]
   ·simp only [go_sem,qW,i6]
   ·simp only [go_sem,qW,i7]
   ·simp only [go_sem,qW,i8]
   ·simp only [go_sem,qW,i12]
   ·simp only [go_sem,qW,i23]
   ·rcases List.mem_cons.1 (j1 y hy hz) with rfl | h
    ·rw [hlost] at hz; cases hz
    ·exact h
theorem keep_len {n : Nat} {keep : List Int} (h : risingOk n keep = true) : keep.length ≤ n := by
 have hp := rising_pair h
 have hin := rising_in h
 have key : ∀ i (hi : i < keep.length),(i : Int) ≤ keep[i] := by
  intro i
  induction i with
  | zero => intro hi; have := hin _ (List.getElem_mem hi); simp only [inR,decide_eq_true_eq] at this; omega
  | succ i ih =>
   intro hi
   have h1 := ih (by omega)
   have h2 := List.pairwise_iff_getElem.1 hp i (i + 1) (by omega) hi (by omega)
   omega
 by_cases h0 : keep.length = 0
 ·omega
 ·have h1 := key (keep.length - 1) (by omega)
  have h2 := hin _ (List.getElem_mem (show keep.length - 1 < keep.length by omega))
  simp only [inR,decide_eq_true_eq] at h2
  omega
theorem alone_ok {w : MWorld} {keep : List Int} (h : aloneOk w keep = true) (hin : ∀ x ∈ keep,inR x 0 ((w.objs.length : Int) - 1) = true) :
  (∀ n ∈ keep,∀ x ∈ refsOf (w.obj n),x ∈ keep) ∧ ∀ i,i < w.objs.length → isTask (w.obj i) = true → (i : Int) ∈ keep := by
 rw [alone_all] at h
 refine ⟨fun n hn x hx => ?_,fun i hi ht => ?_⟩
 ·have hni := hin n hn
  simp only [inR,decide_eq_true_eq] at hni
  obtain ⟨j,rfl⟩ := Int.eq_ofNat_of_zero_le hni.1
  have := h j (by omega)
  simp only [aloneRow,Bool.and_eq_true,List.all_eq_true] at this
  have hl := this.2 x ((refs_mem _ _).2 hx)
  simp only [lostB,memB_iff.2 hn,Bool.true_and,Bool.not_not] at hl
  exact memB_iff.1 hl
 ·have := h i hi
  simp only [aloneRow,Bool.and_eq_true,ht,Bool.true_and,Bool.not_not] at this
  exact memB_iff.1 this.1
theorem reap_Compact_pc (p : BProg) (w : MWorld) (keep : List Int) (hp : p.few) (hw : w.few) (hsp : smallProg p = true) (hsm : smallWorld w = true) (hfk : Few keep.length)
  (htk : given p w = true → ∀ t ∈ w.tasks,∃ i : Nat,i < w.objs.length ∧ t = i ∧ isTask (w.obj i) = true) :
  PC L F.reap_Compact [.agg [.fz (p.nodes.map BNode.enc),.fz (p.funs.map (.int .i64)),.int .i64 p.main,.fz (p.cons.map BCon.enc)],.agg [.fz (w.objs.map MObj.enc),.fz (w.tasks.map (.int .i64)),.fz (w.outs.map MOut.enc),.fz (w.ins.map (.int .i64)),.int .i64 w.used],.fz (keep.map (.int .i64))] (if given p w = true then
   (if risingOk w.objs.length keep = true then (if aloneOk w keep = true then .tup [.agg [.fz ((compactW w keep).objs.map MObj.enc),.fz ((compactW w keep).tasks.map (.int .i64)),.fz ((compactW w keep).outs.map MOut.enc),.fz ((compactW w keep).ins.map (.int .i64)),.int .i64 (compactW w keep).used],.int .i64 0] else .tup [.agg [.fz [],.fz [],.fz [],.fz [],.int .i64 0],.int .i64 7]) else .tup [.agg [.fz [],.fz [],.fz [],.fz [],.int .i64 0],.int .i64 2]) else .tup [.agg [.fz [],.fz [],.fz [],.fz [],.int .i64 0],.int .i64 2]) := by
 obtain ⟨b1,b2,b3,b4⟩ := smallW_len hsm
 have hmk : w.objs.length ≤ 16777216 := by omega
 have hmc := mean_Check_pc p w hp hw hsp
 refine pc_of LF.reap_Compact rfl rfl ?_
 by_cases hg : given p w = true
 ·rw [if_pos hg]
  simp only [hg,if_true] at hmc
  have hz := stays_zero w.objs.length keep
  simp only [go_sem,qC,qG,qW,C.reap_Compact,hmc.ret,mk_nat hmk,one_bl,cells_bl]
  refine wp_for (keep.length) (fun k st => ∃ fr en cnt,st = ⟨fr,en,cnt⟩ ∧ (fr 2 = .fz (keep.map (.int .i64))) ∧ (fr 4 = .ptr ⟨0,4,0⟩ 0) ∧ (en ⟨0,4,0⟩ = some (.box [.fz (w.objs.map MObj.enc),.fz (w.tasks.map (.int .i64)),.fz (w.outs.map MOut.enc),.fz (w.ins.map (.int .i64)),.int .i64 w.used] false)) ∧ (fr 6 = .ptr ⟨0,6,0⟩ 0) ∧ (en ⟨0,6,0⟩ = some (.box [.cl [],.cl [],.cl [],.cl [],.int .i64 0] false)) ∧ (fr 7 = .ptr ⟨0,7,0⟩ 0) ∧ (en ⟨0,7,0⟩ = some (.box [.int .i64 0] false)) ∧ (fr 8 = .ptr ⟨0,8,0⟩ 0) ∧ (en ⟨0,8,0⟩ = some (.box [.bl ⟨0,23,0⟩ 0 w.objs.length] false)) ∧ (en ⟨0,23,0⟩ = some (.blk 1 (staysL w.objs.length keep k) false)) ∧ (fr 9 = .int .i64 (lastAt keep k)) ∧ (fr 24 = .fz (keep.map (.int .i64))) ∧ (fr 25 = .int .i64 keep.length) ∧ (fr 26 = .int .i64 k) ∧ (1 ≤ cnt 0 6) ∧ (∀ i,i < k → riseAt w.objs.length keep i = true)) 0 (Nat.zero_le _) ⟨_,_,_,rfl,(by first | (simp only [go_sem,hz.symm]; (try rfl); done) | rfl | simp),(by first | (simp only [go_sem,hz.symm]; (try rfl); done) | rfl | simp),(by first | (simp only [go_sem,hz.symm]; (try rfl); done) | rfl | simp),(by first | (simp only [go_sem,hz.symm]; (try rfl); done) | rfl | simp),(by first | (simp only [go_sem,hz.symm]; (try rfl); done) | rfl | simp),(by first | (simp only [go_sem,hz.symm]; (try rfl); done) | rfl | simp),(by first | (simp only [go_sem,hz.symm]; (try rfl); done) | rfl | simp),(by first | (simp only [go_sem,hz.symm]; (try rfl); done) | rfl | simp),(by first | (simp only [go_sem,hz.symm]; (try rfl); done) | rfl | simp),(by first | (simp only [go_sem,hz.symm]; (try rfl); done) | rfl | simp),(by first | (simp only [go_sem,hz.symm]; (try rfl); done) | rfl | simp),(by first | (simp only [go_sem,hz.symm]; (try rfl); done) | rfl | simp),(by first | (simp only [go_sem,hz.symm]; (try rfl); done) | rfl | simp),(by first | (simp only [go_sem,hz.symm]; (try rfl); done) | rfl | simp),(by first | (simp only [go_sem,hz.symm]; (try rfl); done) | rfl | simp),(by first | (simp only [go_sem,hz.symm]; (try rfl); done) | rfl | simp)⟩ ?_
  rintro k st hk ⟨fr,en,cnt,rfl,h2,h4,e4,h6,e6,h7,e7,h8,e8,e23,h9,h24,h25,h26,hc6,hI⟩
  simp only [go_sem,qC,qG,qW,h2,h4,e4,h6,e6,h7,e7,h8,e8,e23,h9,h24,h25,h26,hc6]
  refine condK_split (fun hq => ?_) (fun hq => ?_)
  ·have h' : k < keep.length := of_decide_eq_true hq
   have hrl := rise_last h' hI
   have bad : riseAt w.objs.length keep k = false → risingOk w.objs.length keep = false := fun h => by
    rw [← Bool.not_eq_true,rising_all]
    exact fun hh => by rw [hh k h'] at h; cases h
   have next : riseAt w.objs.length keep k = true → ∀ i,i < k + 1 → riseAt w.objs.length keep i = true := fun h i hi => by
    by_cases hik : i < k
    ·exact hI i hik
    ·have : i = k := by omega
     subst this; exact h
   simp only [go_sem,qC,qG,qW,h2,h4,e4,h6,e6,h7,e7,h8,e8,e23,h9,h24,h25,h26,hc6,h']
   refine guardK_split (fun g1 => ?_) (fun g1 => ?_)
   ·simp only [go_sem,qC,qG,qW,g1,h2,h4,e4,h6,e6,h7,e7,h8,e8,e23,h9,h24,h25,h26,hc6,h']
    refine condK_split (fun g2 => ?_) (fun g2 => ?_)
    ·simp only [go_sem,qC,qG,qW,h2,h4,e4,h6,e6,h7,e7,h8,e8,e23,h9,h24,h25,h26,hc6]
     rw [bad (by rw [hrl,g2]; simp),if_neg Bool.false_ne_true]
    ·have hok : riseAt w.objs.length keep k = true := by rw [hrl,g1,g2]; rfl
     have hin1 : inR keep[k] 0 ((w.objs.length : Int) - 1) = true := by
      simp only [riseAt,Bool.and_eq_true,numAt_get h'] at hok
      exact hok.1
     simp only [inR,decide_eq_true_eq] at hin1
     obtain ⟨j,hj⟩ := Int.eq_ofNat_of_zero_le hin1.1
     have hjn : j < w.objs.length := by omega
     have hc1 : (0 : Int) ≤ (j : Int) := by omega
     have hc2 : (j : Int) < (w.objs.length : Int) := by omega
     have hgj := stays_get (keep := keep) (k := k) hjn
     have hsj := stays_set (n := w.objs.length) h' hj
     have hls := last_succ h'
     rw [hj] at hls
     simp only [go_sem,qC,qG,qW,h2,h4,e4,h6,e6,h7,e7,h8,e8,e23,h9,h24,h25,h26,hc6,h',hj,stays_len,hgj,hsj,hjn,hc1,hc2,true_and,and_true,eq_self,if_true,Nat.zero_add,Int.toNat_natCast]
     refine ⟨_,_,_,rfl,?_⟩
     simp only [go_sem,qC,qG,qW,h2,h4,e4,h6,e6,h7,e7,h8,e8,e23,h9,h24,h25,h26,hc6,hj,hls,hsj,wrap_succ h' hfk]
     exact next hok
   ·simp only [go_sem,qC,qG,qW,g1,h2,h4,e4,h6,e6,h7,e7,h8,e8,e23,h9,h24,h25,h26,hc6,Bool.not_false]
    rw [bad (by rw [hrl,g1]; simp),if_neg Bool.false_ne_true]
  ·have : k = keep.length := by simp at hq; omega
   subst this
   have hR := rising_all.2 hI
   have hkl := keep_len hR
   have hinn := rising_in hR
   rw [if_pos hR]
   simp only [go_sem,qC,qG,qW,h2,h4,e4,h6,e6,h7,e7,h8,e8,e23,h9,h24,h25,h26,hc6]
   refine wp_for (w.objs.length) (fun k st => ∃ fr en cnt,st = ⟨fr,en,cnt⟩ ∧ (fr 2 = .fz (keep.map (.int .i64))) ∧ (fr 4 = .ptr ⟨0,4,0⟩ 0) ∧ (en ⟨0,4,0⟩ = some (.box [.fz (w.objs.map MObj.enc),.fz (w.tasks.map (.int .i64)),.fz (w.outs.map MOut.enc),.fz (w.ins.map (.int .i64)),.int .i64 w.used] false)) ∧ (fr 6 = .ptr ⟨0,6,0⟩ 0) ∧ (en ⟨0,6,0⟩ = some (.box [.cl [],.cl [],.cl [],.cl [],.int .i64 0] false)) ∧ (fr 7 = .ptr ⟨0,7,0⟩ 0) ∧ (en ⟨0,7,0⟩ = some (.box [.int .i64 0] false)) ∧ (fr 8 = .ptr ⟨0,8,0⟩ 0) ∧ (en ⟨0,8,0⟩ = some (.box [.bl ⟨0,23,0⟩ 0 w.objs.length] false)) ∧ (en ⟨0,23,0⟩ = some (.blk 1 (staysL w.objs.length keep keep.length) false)) ∧ (fr 47 = .fz (w.objs.map MObj.enc)) ∧ (fr 48 = .int .i64 w.objs.length) ∧ (fr 49 = .int .i64 k) ∧ (1 ≤ cnt 0 6) ∧ (∀ i,i < k → aloneRow w keep i = true)) 0 (Nat.zero_le _) ⟨_,_,_,rfl,(by first | (simp only [go_sem,h2,h4,e4,h6,e6,h7,e7,h8,e8,e23,h9,h24,h25,h26,hc6]; (try rfl); done) | rfl | simp),(by first | (simp only [go_sem,h2,h4,e4,h6,e6,h7,e7,h8,e8,e23,h9,h24,h25,h26,hc6]; (try rfl); done) | rfl | simp),(by first | (simp only [go_sem,h2,h4,e4,h6,e6,h7,e7,h8,e8,e23,h9,h24,h25,h26,hc6]; (try rfl); done) | rfl | simp),(by first | (simp only [go_sem,h2,h4,e4,h6,e6,h7,e7,h8,e8,e23,h9,h24,h25,h26,hc6]; (try rfl); done) | rfl | simp),(by first | (simp only [go_sem,h2,h4,e4,h6,e6,h7,e7,h8,e8,e23,h9,h24,h25,h26,hc6]; (try rfl); done) | rfl | simp),(by first | (simp only [go_sem,h2,h4,e4,h6,e6,h7,e7,h8,e8,e23,h9,h24,h25,h26,hc6]; (try rfl); done) | rfl | simp),(by first | (simp only [go_sem,h2,h4,e4,h6,e6,h7,e7,h8,e8,e23,h9,h24,h25,h26,hc6]; (try rfl); done) | rfl | simp),(by first | (simp only [go_sem,h2,h4,e4,h6,e6,h7,e7,h8,e8,e23,h9,h24,h25,h26,hc6]; (try rfl); done) | rfl | simp),(by first | (simp only [go_sem,h2,h4,e4,h6,e6,h7,e7,h8,e8,e23,h9,h24,h25,h26,hc6]; (try rfl); done) | rfl | simp),(by first | (simp only [go_sem,h2,h4,e4,h6,e6,h7,e7,h8,e8,e23,h9,h24,h25,h26,hc6]; (try rfl); done) | rfl | simp),(by first | (simp only [go_sem,h2,h4,e4,h6,e6,h7,e7,h8,e8,e23,h9,h24,h25,h26,hc6]; (try rfl); done) | rfl | simp),(by first | (simp only [go_sem,h2,h4,e4,h6,e6,h7,e7,h8,e8,e23,h9,h24,h25,h26,hc6]; (try rfl); done) | rfl | simp),(by first | (simp only [go_sem,h2,h4,e4,h6,e6,h7,e7,h8,e8,e23,h9,h24,h25,h26,hc6]; (try rfl); done) | rfl | simp),(by first | (simp only [go_sem,h2,h4,e4,h6,e6,h7,e7,h8,e8,e23,h9,h24,h25,h26,hc6]; (try rfl); done) | rfl | simp),(by first | (simp only [go_sem,h2,h4,e4,h6,e6,h7,e7,h8,e8,e23,h9,h24,h25,h26,hc6]; (try rfl); done) | rfl | simp)⟩ ?_
   rintro k st hk ⟨fr,en,cnt,rfl,h2,h4,e4,h6,e6,h7,e7,h8,e8,e23,h47,h48,h49,hc6,hR2⟩
   simp only [go_sem,qC,qG,qW,h2,h4,e4,h6,e6,h7,e7,h8,e8,e23,h47,h48,h49,hc6]
   refine condK_split (fun hq2 => ?_) (fun hq2 => ?_)
   ·have h' : k < w.objs.length := of_decide_eq_true hq2
    have hso := smallW_obj hsm _ (List.getElem_mem h')
    have bad : aloneRow w keep k = false → aloneOk w keep = false := fun h => by
     rw [← Bool.not_eq_true,alone_all]
     exact fun hh => by rw [hh k h'] at h; cases h
    have next : aloneRow w keep k = true → ∀ i,i < k + 1 → aloneRow w keep i = true := fun h i hi => by
     by_cases hik : i < k
     ·exact hR2 i hik
     ·have : i = k := by omega
      subst this; exact h
    have hc1 : (0 : Int) ≤ (k : Int) := by omega
    have hc2 : (k : Int) < (w.objs.length : Int) := by omega
    have hgk := stays_full w.objs.length keep h'
    obtain ⟨g12,hg12⟩ : ∃ g,g = cnt 0 12 := ⟨_,rfl⟩
    obtain ⟨g13,hg13⟩ : ∃ g,g = cnt 0 13 := ⟨_,rfl⟩
    refine wops_cut (fun st => (st.fr 2 = .fz (keep.map (.int .i64))) ∧ (st.fr 4 = .ptr ⟨0,4,0⟩ 0) ∧ (st.en ⟨0,4,0⟩ = some (.box [.fz (w.objs.map MObj.enc),.fz (w.tasks.map (.int .i64)),.fz (w.outs.map MOut.enc),.fz (w.ins.map (.int .i64)),.int .i64 w.used] false)) ∧ (st.fr 6 = .ptr ⟨0,6,0⟩ 0) ∧ (st.en ⟨0,6,0⟩ = some (.box [.cl [],.cl [],.cl [],.cl [],.int .i64 0] false)) ∧ (st.fr 7 = .ptr ⟨0,7,0⟩ 0) ∧ (st.en ⟨0,7,0⟩ = some (.box [.int .i64 0] false)) ∧ (st.fr 8 = .ptr ⟨0,8,0⟩ 0) ∧ (st.en ⟨0,8,0⟩ = some (.box [.bl ⟨0,23,0⟩ 0 w.objs.length] false)) ∧ (st.en ⟨0,23,0⟩ = some (.blk 1 (staysL w.objs.length keep keep.length) false)) ∧ (st.fr 47 = .fz (w.objs.map MObj.enc)) ∧ (st.fr 48 = .int .i64 w.objs.length) ∧ (st.fr 49 = .int .i64 k) ∧ (1 ≤ st.cnt 0 6) ∧ (st.fr 12 = .ptr ⟨0,12,g12⟩ 0) ∧ (st.en ⟨0,12,g12⟩ = some (.box [.int .i64 k] false)) ∧ (st.fr 13 = .ptr ⟨0,13,g13⟩ 0) ∧ (st.en ⟨0,13,g13⟩ = some (.box [.int .i64 w.objs[k].form,.int .i64 w.objs[k].n,.fz (w.objs[k].vals.map MVal.enc),.fz (w.objs[k].frames.map MFrame.enc)] false))) ?_ ?_
    ·simp only [go_sem,qC,qG,qW,h',h2,h4,e4,h6,e6,h7,e7,h8,e8,e23,h47,h48,h49,hc6,← hg12,← hg13]
    ·rintro fr en cnt ⟨(h2 : fr 2 = .fz (keep.map (.int .i64))),(h4 : fr 4 = .ptr ⟨0,4,0⟩ 0),(e4 : en ⟨0,4,0⟩ = some (.box [.fz (w.objs.map MObj.enc),.fz (w.tasks.map (.int .i64)),.fz (w.outs.map MOut.enc),.fz (w.ins.map (.int .i64)),.int .i64 w.used] false)),(h6 : fr 6 = .ptr ⟨0,6,0⟩ 0),(e6 : en ⟨0,6,0⟩ = some (.box [.cl [],.cl [],.cl [],.cl [],.int .i64 0] false)),(h7 : fr 7 = .ptr ⟨0,7,0⟩ 0),(e7 : en ⟨0,7,0⟩ = some (.box [.int .i64 0] false)),(h8 : fr 8 = .ptr ⟨0,8,0⟩ 0),(e8 : en ⟨0,8,0⟩ = some (.box [.bl ⟨0,23,0⟩ 0 w.objs.length] false)),(e23 : en ⟨0,23,0⟩ = some (.blk 1 (staysL w.objs.length keep keep.length) false)),(h47 : fr 47 = .fz (w.objs.map MObj.enc)),(h48 : fr 48 = .int .i64 w.objs.length),(h49 : fr 49 = .int .i64 k),(hc6 : 1 ≤ cnt 0 6),(h12 : fr 12 = .ptr ⟨0,12,g12⟩ 0),(e12 : en ⟨0,12,g12⟩ = some (.box [.int .i64 k] false)),(h13 : fr 13 = .ptr ⟨0,13,g13⟩ 0),(e13 : en ⟨0,13,g13⟩ = some (.box [.int .i64 w.objs[k].form,.int .i64 w.objs[k].n,.fz (w.objs[k].vals.map MVal.enc),.fz (w.objs[k].frames.map MFrame.enc)] false))⟩
     refine wops_cut (fun st => (st.fr 2 = .fz (keep.map (.int .i64))) ∧ (st.fr 4 = .ptr ⟨0,4,0⟩ 0) ∧ (st.en ⟨0,4,0⟩ = some (.box [.fz (w.objs.map MObj.enc),.fz (w.tasks.map (.int .i64)),.fz (w.outs.map MOut.enc),.fz (w.ins.map (.int .i64)),.int .i64 w.used] false)) ∧ (st.fr 6 = .ptr ⟨0,6,0⟩ 0) ∧ (st.en ⟨0,6,0⟩ = some (.box [.cl [],.cl [],.cl [],.cl [],.int .i64 0] false)) ∧ (st.fr 7 = .ptr ⟨0,7,0⟩ 0) ∧ (st.en ⟨0,7,0⟩ = some (.box [.int .i64 0] false)) ∧ (st.fr 8 = .ptr ⟨0,8,0⟩ 0) ∧ (st.en ⟨0,8,0⟩ = some (.box [.bl ⟨0,23,0⟩ 0 w.objs.length] false)) ∧ (st.en ⟨0,23,0⟩ = some (.blk 1 (staysL w.objs.length keep keep.length) false)) ∧ (st.fr 47 = .fz (w.objs.map MObj.enc)) ∧ (st.fr 48 = .int .i64 w.objs.length) ∧ (st.fr 49 = .int .i64 k) ∧ (1 ≤ st.cnt 0 6) ∧ (st.fr 12 = .ptr ⟨0,12,g12⟩ 0) ∧ (st.en ⟨0,12,g12⟩ = some (.box [.int .i64 k] false)) ∧ (st.fr 13 = .ptr ⟨0,13,g13⟩ 0) ∧ (st.en ⟨0,13,g13⟩ = some (.box [.int .i64 w.objs[k].form,.int .i64 w.objs[k].n,.fz (w.objs[k].vals.map MVal.enc),.fz (w.objs[k].frames.map MFrame.enc)] false)) ∧ (st.fr 62 = .bool (isTask (w.obj k) && !memB keep k))) ?_ ?_
     ·simp only [go_sem,qC,qG,qW,h',h2,h4,e4,h6,e6,h7,e7,h8,e8,e23,h47,h48,h49,hc6,h12,e12,h13,e13,(reap_isTask_pc _).ret]
      refine guardK_split (fun ga => ?_) (fun ga => ?_)
      ·simp only [go_sem,qC,qG,qW,h',ga,h2,h4,e4,h6,e6,h7,e7,h8,e8,e23,h47,h48,h49,hc6,h12,e12,h13,e13,stays_len,hgk,hc1,hc2,true_and,and_true,eq_self,if_true,Nat.zero_add,Int.toNat_natCast,objAt_get h',Bool.true_and]
      ·simp only [go_sem,qC,qG,qW,h',ga,h2,h4,e4,h6,e6,h7,e7,h8,e8,e23,h47,h48,h49,hc6,h12,e12,h13,e13,Bool.not_true,objAt_get h',Bool.false_and]
     ·rintro fr en cnt ⟨(h2 : fr 2 = .fz (keep.map (.int .i64))),(h4 : fr 4 = .ptr ⟨0,4,0⟩ 0),(e4 : en ⟨0,4,0⟩ = some (.box [.fz (w.objs.map MObj.enc),.fz (w.tasks.map (.int .i64)),.fz (w.outs.map MOut.enc),.fz (w.ins.map (.int .i64)),.int .i64 w.used] false)),(h6 : fr 6 = .ptr ⟨0,6,0⟩ 0),(e6 : en ⟨0,6,0⟩ = some (.box [.cl [],.cl [],.cl [],.cl [],.int .i64 0] false)),(h7 : fr 7 = .ptr ⟨0,7,0⟩ 0),(e7 : en ⟨0,7,0⟩ = some (.box [.int .i64 0] false)),(h8 : fr 8 = .ptr ⟨0,8,0⟩ 0),(e8 : en ⟨0,8,0⟩ = some (.box [.bl ⟨0,23,0⟩ 0 w.objs.length] false)),(e23 : en ⟨0,23,0⟩ = some (.blk 1 (staysL w.objs.length keep keep.length) false)),(h47 : fr 47 = .fz (w.objs.map MObj.enc)),(h48 : fr 48 = .int .i64 w.objs.length),(h49 : fr 49 = .int .i64 k),(hc6 : 1 ≤ cnt 0 6),(h12 : fr 12 = .ptr ⟨0,12,g12⟩ 0),(e12 : en ⟨0,12,g12⟩ = some (.box [.int .i64 k] false)),(h13 : fr 13 = .ptr ⟨0,13,g13⟩ 0),(e13 : en ⟨0,13,g13⟩ = some (.box [.int .i64 w.objs[k].form,.int .i64 w.objs[k].n,.fz (w.objs[k].vals.map MVal.enc),.fz (w.objs[k].frames.map MFrame.enc)] false)),(h62 : fr 62 = .bool (isTask (w.obj k) && !memB keep k))⟩
      simp only [go_sem,qC,qG,qW,h2,h4,e4,h6,e6,h7,e7,h8,e8,e23,h47,h48,h49,hc6,h12,e12,h13,e13,h62]
      refine condK_split (fun hW => ?_) (fun hW => ?_)
      ·simp only [go_sem,qC,qG,qW,h2,h4,e4,h6,e6,h7,e7,h8,e8,e23,h47,h48,h49,hc6,h12,e12,h13,e13,h62]
       rw [bad (by simp [aloneRow,hW]),if_neg Bool.false_ne_true]
      simp only [go_sem,qC,qG,qW,h2,h4,e4,h6,e6,h7,e7,h8,e8,e23,h47,h48,h49,hc6,h12,e12,h13,e13,h62,h',(reap_refs_pc _).ret]
      refine wp_range (f := F.reap_refs_c1) (x := []) (y := [.fp [.int .i64 w.objs[k].form,.int .i64 w.objs[k].n,.fz (w.objs[k].vals.map MVal.enc),.fz (w.objs[k].frames.map MFrame.enc)] 0]) (by simp only [go_sem,qW]) ?_
      intro fr0 key hfr0 hkey
      have q4 : fr0 4 = .ptr ⟨0,4,0⟩ 0 := by rw [hfr0]; simp only [go_sem,qW,h2,h4,e4,h6,e6,h7,e7,h8,e8,e23,h47,h48,h49,hc6,h12,e12,h13,e13,h62]
      have q6 : fr0 6 = .ptr ⟨0,6,0⟩ 0 := by rw [hfr0]; simp only [go_sem,qW,h2,h4,e4,h6,e6,h7,e7,h8,e8,e23,h47,h48,h49,hc6,h12,e12,h13,e13,h62]
      have q7 : fr0 7 = .ptr ⟨0,7,0⟩ 0 := by rw [hfr0]; simp only [go_sem,qW,h2,h4,e4,h6,e6,h7,e7,h8,e8,e23,h47,h48,h49,hc6,h12,e12,h13,e13,h62]
      have q8 : fr0 8 = .ptr ⟨0,8,0⟩ 0 := by rw [hfr0]; simp only [go_sem,qW,h2,h4,e4,h6,e6,h7,e7,h8,e8,e23,h47,h48,h49,hc6,h12,e12,h13,e13,h62]
      have q12 : fr0 12 = .ptr ⟨0,12,g12⟩ 0 := by rw [hfr0]; simp only [go_sem,qW,h2,h4,e4,h6,e6,h7,e7,h8,e8,e23,h47,h48,h49,hc6,h12,e12,h13,e13,h62]
      obtain ⟨gk,rfl⟩ : ∃ gk,key = ⟨1,0,gk⟩ := ⟨_,hkey⟩
      have hino := given_in hg _ (List.getElem_mem h')
      rw [← objAt_get h'] at hino ⊢
      obtain ⟨c0,hc0⟩ : ∃ c0,c0 = setCnt cnt 1 0 (cnt 1 0 + 1) 0 := ⟨_,rfl⟩
      have hcc : 1 ≤ c0 6 := by rw [hc0]; simpa [setCnt] using hc6
      have hr := alone_rounds w keep k g12 (gk := gk) (c0 := c0) h' q6 q7 q8 q12 (fun x hx => hino x ((refs_mem _ _).2 hx)) hcc
      rw [hc0] at hr
      refine (refs_win (w.obj k) (small_few (by rw [objAt_get h']; exact hso)) hr ⟨by simp only [go_sem,qW],by simp only [go_sem,e4],by simp only [go_sem,e6],by simp only [go_sem,e7],by simp only [go_sem,e8],by simp only [go_sem,e12],by simp only [go_sem,e23],fun x hx _ => hx,fun x hx => hx,by simpa [setCnt] using hc6⟩).mono ?_
      rintro v en' cnt' (⟨i1,i4,i6,i7,i8,i12,i23,j1,j2,j3⟩ | ⟨i1,i6,i7,x,hx,hb⟩)
      ·have hrow : aloneRow w keep k = true := by
        have : (refsL (w.obj k)).all (fun r => !lostB keep k r) = true := by
         rw [List.all_eq_true]
         intro x hx
         have : lostB keep k x = false := by
          rw [← Bool.not_eq_true]
          intro hb
          exact absurd (j1 x ((refs_mem _ _).1 hx) hb) (by simp)
         rw [this]; rfl
        rw [aloneRow,hW,this]; rfl
       simp only [go_sem,qC,qG,qW,i1,i4,i6,i7,i8,i12,i23,h2,h4,e4,h6,e6,h7,e7,h8,e8,e23,h47,h48,h49,hc6,h12,e12,h13,e13,h62]
       refine ⟨_,_,_,rfl,?_⟩
       simp only [go_sem,qC,qG,qW,i4,i6,i7,i8,i12,i23,h2,h4,h6,h7,h8,h47,h48,h49,wrap_succ h' hw.objs]
       exact ⟨j3,next hrow⟩
      ·have hrow : aloneRow w keep k = false := by
        have : (refsL (w.obj k)).all (fun r => !lostB keep k r) = false := by
         rw [List.all_eq_false]
         exact ⟨x,(refs_mem _ _).2 hx,by simp [hb]⟩
        rw [aloneRow,this,Bool.and_false]
       simp only [go_sem,qC,qG,qW,i1,i6,i7,h6,h7]
       rw [bad hrow,if_neg Bool.false_ne_true]
   ·have : k = w.objs.length := by simp at hq2; omega
    subst this
    have hA := alone_all.2 hR2
    obtain ⟨a1,a2⟩ := alone_ok hA hinn
    have hal := reap_alone_pc w keep hw hsm (by omega) (rising_pair hR) hinn a1 (fun t ht => by
     obtain ⟨i,hi,rfl,hti⟩ := htk hg t ht
     exact a2 i hi hti)
    rw [if_pos hA]
    simp only [go_sem,qC,qG,qW,h2,h4,e4,h6,e6,h7,e7,h8,e8,e23,h47,h48,h49,hc6,hal.ret]
 ·rw [if_neg hg]
  simp only [hg] at hmc
  simp only [go_sem,qC,qG,qW,C.reap_Compact,hmc.ret]
inductive ReachP (w : MWorld) : Nat → Prop
 | task {i : Nat} (h : i < w.objs.length) (t : isTask (w.obj i) = true) : ReachP w i
 | ref {i : Nat} {x : Int} (h : ReachP w i) (hx : x ∈ refsOf (w.obj i)) : ReachP w x.toNat
noncomputable def reachB (w : MWorld) (i : Nat) : Bool := @decide (ReachP w i) (Classical.propDecidable _)
theorem reachB_iff {w : MWorld} {i : Nat} : reachB w i = true ↔ ReachP w i := by unfold reachB; exact @decide_eq_true_iff _ (Classical.propDecidable _)
noncomputable def reachL (w : MWorld) : List Bool := (List.range w.objs.length).map (reachB w)
def atB (out : List Bool) (i : Nat) : Bool := out.getD i false
structure Going (w : MWorld) (out : List Bool) : Prop where
 len : out.length = w.objs.length
 sound : ∀ i,atB out i = true → ReachP w i
 tasks : ∀ i,i < w.objs.length → isTask (w.obj i) = true → atB out i = true
def InRange (w : MWorld) : Prop := ∀ o ∈ w.objs,∀ x ∈ refsOf o,inR x 0 ((w.objs.length : Int) - 1) = true
def CutL (en : En) (v : Val) (xs : List Val) (D : List Nat) : Prop :=
 (v = .cl [] ∧ xs = []) ∨ ∃ t g zs,v = .bl ⟨0,t,g⟩ 0 xs.length ∧ en ⟨0,t,g⟩ = some (.blk 1 zs false) ∧ xs.length ≤ zs.length ∧ zs.take xs.length = xs ∧ t ∈ D
theorem CutL.keep {en en' : En} {v : Val} {xs : List Val} {D : List Nat} (h : CutL en v xs D) (k : ∀ t g,t ∈ D → en' ⟨0,t,g⟩ = en ⟨0,t,g⟩) : CutL en' v xs D := by
 rcases h with h | ⟨t,g,zs,h1,h2,h3,h4,h5⟩
 ·exact .inl h
 ·exact .inr ⟨t,g,zs,h1,by rw [k t g h5]; exact h2,h3,h4,h5⟩
theorem CutL.sub {en : En} {v : Val} {xs : List Val} {D D' : List Nat} (h : CutL en v xs D) (k : ∀ t ∈ D,t ∈ D') : CutL en v xs D' := by
 rcases h with h | ⟨t,g,zs,h1,h2,h3,h4,h5⟩
 ·exact .inl h
 ·exact .inr ⟨t,g,zs,h1,h2,h3,h4,k t h5⟩
theorem CutL.len {en : En} {v : Val} {xs : List Val} {D : List Nat} (h : CutL en v xs D) : lenOf v = some xs.length := by
 rcases h with ⟨rfl,rfl⟩ | ⟨t,g,zs,rfl,_⟩ <;> rfl
theorem CutL.shape {en : En} {v : Val} {xs : List Val} {D : List Nat} (h : CutL en v xs D) : v.one = true ∧ v.cells = [v] := by
 rcases h with ⟨rfl,_⟩ | ⟨t,g,zs,rfl,_⟩ <;> exact ⟨rfl,rfl⟩
theorem slice_bl {size sz n i : Nat} {k : Key} {kk : IntKind} {en : En} {zs : List Val} {f : Bool} (he : en k = some (.blk sz zs f)) (h : i ≤ n) : opSlice false size en (.bl k 0 n) none (some (.int kk (i : Int))) none = some { v := .bl k 0 i,rs := [.val k] } := by
 simp [opSlice,bound_nat h,bound_no,he]
section
variable {L : Prog} {fr : Nat → Val} {en : En} {cnt : Nat → Nat → Nat} {Q : St → Prop} {l : List LOper} {d : Nat}
theorem w_append_cut {x y : Opd} {xs ys : List Val} {rs : List R} {D : List Nat} (hx : CutL en (St.get fr x) xs D) (hy : elemsOf en (St.get fr y) = some (ys,rs)) (h1 : headOk 1 ys = true) (hl : xs.length + ys.length ≤ 16777216) (hne : ys ≠ [])
  (k : ∀ v en' cnt',CutL en' v (xs ++ ys) (d :: D) → (∀ n t g,n ≠ 0 ∨ (t ≠ d ∧ t ∉ D) → en' ⟨n,t,g⟩ = en ⟨n,t,g⟩) → (∀ n t,t ≠ d → cnt' n t = cnt n t) → WOps L l ⟨setFr fr d v,en',cnt'⟩ Q) :
  WOps L (⟨some d,.append 1 x y,none⟩ :: l) ⟨fr,en,cnt⟩ Q := by
 rw [w_gen (by rfl)]
 simp only [Option.getD_some]
 rcases hx with ⟨hv,rfl⟩ | ⟨t,g,zs,hv,he,hle,htk,ht⟩
 ·have hys : ¬ ys.isEmpty = true := by simpa using hne
  simp only [evalW,eval,hy,h1,if_true,hv]
  rw [if_neg hys,if_pos ⟨by simpa using hl,rfl⟩]
  simp only [wput_bump,applyAll_cons,applyAll_nil,apply_ent]
  refine k _ _ _ (.inr ⟨d,cnt 0 d,ys,by simp,by simp [En.set],by simp,by simp,by simp⟩) (fun n t g h => en_ne (fun he => ?_)) (fun n t h => by simp [setCnt,h])
  injection he with h3 h4 h5
  rcases h with h | ⟨h,_⟩
  ·exact h h3
  ·exact h h4
 ·simp only [evalW,eval,hy,h1,if_true,hv,he]
  rw [if_pos ⟨.inr ⟨trivial,by omega⟩,hl,trivial⟩]
  simp only [wput_bump,applyAll_cons,applyAll_nil,apply_ent]
  refine k _ _ _ (.inr ⟨d,cnt 0 d,xs ++ ys,by simp,?_,by simp,List.take_of_length_le (by simp),by simp⟩) (fun n t' g' h => ?_) (fun n t h => by simp [setCnt,h])
  ·simp [En.set,htk]
  ·have e1 : (⟨n,t',g'⟩ : Key) ≠ ⟨0,d,cnt 0 d⟩ := by
    intro he; injection he with h3 h4 h5
    rcases h with h | ⟨h,_⟩
    ·exact h h3
    ·exact h h4
   have e2 : (⟨n,t',g'⟩ : Key) ≠ ⟨0,t,g⟩ := by
    intro he; injection he with h3 h4 h5
    subst h4
    rcases h with h | ⟨_,h⟩
    ·exact h h3
    ·exact h ht
   rw [en_ne e1,en_ne e2]
end
theorem sum_change {f g : Nat → Nat} {j : Nat} : ∀ n,j < n → (∀ i,i ≠ j → f i = g i) → ((List.range n).map f).sum + g j = ((List.range n).map g).sum + f j
 | 0,h,_ => by omega
 | n + 1,h,he => by
  rw [List.range_succ,List.map_append,List.map_append,List.sum_append,List.sum_append]
  simp only [List.map_cons,List.map_nil,List.sum_cons,List.sum_nil]
  by_cases hj : j < n
  ·have := sum_change n hj he
   rw [he n (by omega)]; omega
  ·have hjn : j = n := by omega
   subst hjn
   have : (List.range j).map f = (List.range j).map g := List.map_congr_left fun i hi => he i (by simp at hi; omega)
   rw [this]; omega
def weight (w : MWorld) (ks : List Int) : Nat := ((List.range w.objs.length).map fun i => if memB ks (i : Nat) = true then 0 else (refsOf (w.obj (i : Nat))).length).sum
theorem memB_append (ks : List Int) (n x : Int) : memB (ks ++ [n]) x = (memB ks x || decide (n = x)) := by simp [memB,List.any_append]
theorem weight_step (w : MWorld) (ks : List Int) {j : Nat} (hj : j < w.objs.length) (hm : memB ks j = false) : weight w (ks ++ [(j : Int)]) + (refsOf (w.obj j)).length = weight w ks := by
 have := sum_change (f := fun i => if memB (ks ++ [(j : Int)]) (i : Nat) = true then 0 else (refsOf (w.obj (i : Nat))).length) (g := fun i => if memB ks (i : Nat) = true then 0 else (refsOf (w.obj (i : Nat))).length) w.objs.length hj (fun i hi => by
  have : decide ((j : Int) = (i : Int)) = false := by simp; omega
  simp only [memB_append,this,Bool.or_false])
 unfold weight
 simp only [memB_append,decide_true,Bool.or_true,if_true,hm,Bool.false_eq_true,if_false,Nat.add_zero] at this ⊢
 exact this
structure Search (w : MWorld) (ks td : List Int) : Prop where
 met : ∀ x ∈ ks,∃ i : Nat,x = i ∧ i < w.objs.length ∧ ReachP w i
 todo : ∀ x ∈ td,∃ i : Nat,x = i ∧ i < w.objs.length ∧ ReachP w i
 tasks : ∀ x ∈ w.tasks,x ∈ ks ∨ x ∈ td
 shut : ∀ n ∈ ks,∀ x ∈ refsOf (w.obj n),x ∈ ks ∨ x ∈ td
theorem search_end {w : MWorld} {ks : List Int} (h : Search w ks []) (ht : ∀ i : Nat,i < w.objs.length → isTask (w.obj i) = true → (i : Int) ∈ w.tasks) (i : Nat) : memB ks i = reachB w i := by
 rw [Bool.eq_iff_iff,memB_iff,reachB_iff]
 refine ⟨fun hm => ?_,fun hr => ?_⟩
 ·obtain ⟨j,hj,_,hr⟩ := h.met _ hm
  have : i = j := by omega
  rw [this]; exact hr
 ·induction hr with
  | task hl htk =>
   rcases h.tasks _ (ht _ hl htk) with h | h
   ·exact h
   ·cases h
  | @ref i x hr hx ih =>
   rcases h.shut _ ih _ hx with h' | h'
   ·obtain ⟨j,hj,_⟩ := h.met _ h'
    have : ((x.toNat : Nat) : Int) = x := by omega
    rw [this]; exact h'
   ·cases h'
theorem search_drop {w : MWorld} {ks td : List Int} {n : Int} (h : Search w ks (td ++ [n])) (hm : n ∈ ks) : Search w ks td := by
 refine ⟨h.met,fun x hx => h.todo x (by simp [hx]),fun x hx => ?_,fun m hm' x hx => ?_⟩
 ·rcases h.tasks x hx with h | h
  ·exact .inl h
  ·rcases List.mem_append.1 h with h | h
   ·exact .inr h
   ·simp only [List.mem_singleton] at h; rw [h]; exact .inl hm
 ·rcases h.shut m hm' x hx with h | h
  ·exact .inl h
  ·rcases List.mem_append.1 h with h | h
   ·exact .inr h
   ·simp only [List.mem_singleton] at h; rw [h]; exact .inl hm
theorem search_step {w : MWorld} {ks td : List Int} {n : Int} (h : Search w ks (td ++ [n])) (hin : InRange w) : Search w (ks ++ [n]) (td ++ refsOf (w.obj n)) := by
 obtain ⟨i,rfl,hi,hr⟩ := h.todo n (by simp)
 have split : ∀ x,x ∈ ks ∨ x ∈ td ++ [(i : Int)] → x ∈ ks ++ [(i : Int)] ∨ x ∈ td ++ refsOf (w.obj i) := by
  intro x hx
  rcases hx with h | h
  ·exact .inl (by simp [h])
  ·rcases List.mem_append.1 h with h | h
   ·exact .inr (by simp [h])
   ·exact .inl (List.mem_append.2 (.inr h))
 refine ⟨fun x hx => ?_,fun x hx => ?_,fun x hx => split x (h.tasks x hx),fun m hm x hx => ?_⟩
 ·rcases List.mem_append.1 hx with hx | hx
  ·exact h.met x hx
  ·simp only [List.mem_singleton] at hx; exact ⟨i,hx,hi,hr⟩
 ·rcases List.mem_append.1 hx with hx | hx
  ·exact h.todo x (by simp [hx])
  ·have hg : w.obj i ∈ w.objs := by rw [objAt_get hi]; exact List.getElem_mem _
   have hxi := hin _ hg x hx
   simp only [inR,decide_eq_true_eq] at hxi
   exact ⟨x.toNat,by omega,by omega,.ref hr hx⟩
 ·rcases List.mem_append.1 hm with hm | hm
  ·exact split x (h.shut m hm x hx)
  ·simp only [List.mem_singleton] at hm; subst hm
   exact .inr (by simp [hx])
def QI (w : MWorld) (ks td : List Int) (all : List Int) (fr0 : Nat → Val) (gk : Nat) (r : List Int) (en : En) (cnt : Nat → Nat → Nat) : Prop :=
 en ⟨1,0,gk⟩ = some (.loop fr0 [47] (LCode.ops [o 10 (.mv (.t 47))]) (LCode.block 3 (.ops [o 48 (.load false 1 (.t 8)),o 49 (.mv (.t 10)),o 50 (.bslice 1 1 [(.int .i64 0)] [(0,(.t 49))]),o 51 (.append 1 (.t 48) (.t 50)),on (.store 1 (.t 8) (.t 51))])) .ready) ∧ en ⟨0,3,0⟩ = some (.box [.fz (w.objs.map MObj.enc),.fz (w.tasks.map (.int .i64)),.fz (w.outs.map MOut.enc),.fz (w.ins.map (.int .i64)),.int .i64 w.used] false) ∧ en ⟨0,18,0⟩ = some (.map (ks.map (.int .i64)) (ks.map fun _ => .bool true) false) ∧ 1 ≤ cnt 0 3 ∧
 ∃ v done,en ⟨0,8,0⟩ = some (.box [v] false) ∧ CutL en v ((td ++ done).map (.int .i64)) [21,51] ∧ done ++ r = all
theorem reach_rounds (w : MWorld) (ks td all : List Int) {fr0 : Nat → Val} {gk : Nat} {c0 : Nat → Nat} (q8 : fr0 8 = .ptr ⟨0,8,0⟩ 0) (hc : 1 ≤ c0 3) (hlen : td.length + all.length ≤ 16777215) :
  Rounds ⟨1,0,gk⟩ c0 (QI w ks td all fr0 gk) (fun _ _ => False) := by
 refine ⟨?_,?_⟩
 ·rintro r en cnt en' cnt' ⟨i1,i3,i18,ic,v,done,i8,hv,hd⟩ hout hcnt hge
  have hge3 := hge 3 (by decide)
  refine ⟨(hout 1 0 gk (.inl (by omega))).trans i1,(hout 0 3 0 (.inr (.inr (by omega)))).trans i3,(hout 0 18 0 (.inr (.inl (by decide)))).trans i18,by omega,v,done,(hout 0 8 0 (.inr (.inl (by decide)))).trans i8,hv.keep fun t g ht => hout 0 t g (.inr (.inl ?_)),hd⟩
  have ht' : t = 21 ∨ t = 51 := by simpa using ht
  rcases ht' with rfl | rfl <;> decide
 ·rintro x rest en cnt ⟨i1,i3,i18,ic,v,done,i8,hv,hd⟩
  have hl : done.length + (rest.length + 1) = all.length := by rw [← hd]; simp
  refine win_yld (fr := fr0) (ps := [47]) (a := (LCode.ops [o 10 (.mv (.t 47))])) (b := (LCode.block 3 (.ops [o 48 (.load false 1 (.t 8)),o 49 (.mv (.t 10)),o 50 (.bslice 1 1 [(.int .i64 0)] [(0,(.t 49))]),o 51 (.append 1 (.t 48) (.t 50)),on (.store 1 (.t 8) (.t 51))]))) i1 rfl ?_
  simp only [go_sem,qC,qG,qW,q8,i1,i8]
  refine w_append_cut (D := [21,51]) (xs := (td ++ done).map (.int .i64)) (ys := [.int .i64 x]) (rs := []) ?_ ?_ rfl ?_ (by simp) ?_
  ·simp only [go_sem,qW]
   exact hv.keep fun t g ht => by
    have ht' : t = 21 ∨ t = 51 := by simpa using ht
    rw [en_ne (by intro he; injection he with h1 _ _; omega)]
  ·simp only [go_sem,qW]
  ·simp; omega
  ·intro v' en' cnt' hown hen hcnt
   have k8 : en' ⟨0,8,0⟩ = some (.box [v] false) := by rw [hen 0 8 0 (.inr ⟨by decide,by decide⟩)]; simp only [go_sem,qW,i8]
   have k3 : en' ⟨0,3,0⟩ = some (.box [.fz (w.objs.map MObj.enc),.fz (w.tasks.map (.int .i64)),.fz (w.outs.map MOut.enc),.fz (w.ins.map (.int .i64)),.int .i64 w.used] false) := by rw [hen 0 3 0 (.inr ⟨by decide,by decide⟩)]; simp only [go_sem,qW,i3]
   have k18 : en' ⟨0,18,0⟩ = some (.map (ks.map (.int .i64)) (ks.map fun _ => .bool true) false) := by rw [hen 0 18 0 (.inr ⟨by decide,by decide⟩)]; simp only [go_sem,qW,i18]
   have k1 := hen 1 0 gk (.inl (by omega))
   obtain ⟨s1,s2⟩ := hown.shape
   simp only [go_sem,qC,qG,qW,q8,k8,s1,s2,k1]
   refine ⟨fun t g ht hg => ?_,fun t ht => hcnt 0 t (by intro h; subst h; simp [T4] at ht),.inl ⟨en_eq,?_,?_,?_,v',done ++ [x],?_,?_,by rw [← hd]; simp⟩⟩
   ·have n1 : (⟨0,t,g⟩ : Key) ≠ ⟨1,0,gk⟩ := by intro he; injection he with h1 _ _; omega
    have n2 : (⟨0,t,g⟩ : Key) ≠ ⟨0,8,0⟩ := by intro he; injection he with _ h2 h3; subst h2; simp [T4] at ht
    have n3 : t ≠ 51 ∧ t ∉ [21,51] := by
     simp only [T4,List.mem_cons,List.not_mem_nil,or_false] at ht ⊢
     omega
    rw [en_ne n1,en_ne n2,hen 0 t g (.inr n3),en_ne n1]
   ·simp only [go_sem,qW,k3]
   ·simp only [go_sem,qW,k18]
   ·rw [hcnt 0 3 (by decide)]; exact ic
   ·simp only [go_sem,qW]
   ·have e1 : (td ++ (done ++ [x])).map (Val.int .i64) = (td ++ done).map (.int .i64) ++ [.int .i64 x] := by simp
    rw [e1]
    refine (hown.keep fun t g ht => ?_).sub (by simp)
    have ht' : t = 51 ∨ t = 21 := by simp at ht; omega
    rw [en_ne (by intro he; injection he with h1 _ _; omega),en_ne (by intro he; injection he with _ h2 _; omega)]
theorem CutL.nil {en : En} {v : Val} {xs : List Val} {D : List Nat} (h : CutL en v xs D) (h0 : xs.length = 0) : xs = [] := List.eq_nil_of_length_eq_zero h0
theorem refs_count {w : MWorld} (hsm : smallWorld w = true) {i : Nat} (h : i < w.objs.length) : (refsOf (w.obj i)).length ≤ 5000 := by
 have hs := smallW_obj hsm _ (List.getElem_mem h)
 obtain ⟨c1,c2,c3⟩ := small_frames hs
 rw [objAt_get h]
 have hv : ∀ l : List MVal,(refVals l).length ≤ l.length := fun l => by
  have := List.length_filter_le isRef l
  simpa [refVals] using this
 have hf : ∀ l : List MFrame,(∀ f ∈ l,f.env.length ≤ 40 ∧ f.vals.length ≤ 40) → (l.flatMap frameRefs).length ≤ 80 * l.length := by
  intro l
  induction l with
  | nil => intro _; simp
  | cons f l ih =>
   intro hl
   have h1 := ih fun g hg => hl g (by simp [hg])
   have h2 := hl f (by simp)
   have h3 := hv f.env
   have h4 := hv f.vals
   simp only [List.flatMap_cons,List.length_append,List.length_cons,frameRefs]
   omega
 have h1 := hv w.objs[i].vals
 have h2 := hf w.objs[i].frames c3
 simp only [refsOf,List.length_append]
 omega
theorem sum_le {f : Nat → Nat} {m : Nat} : ∀ n,(∀ i,i < n → f i ≤ m) → ((List.range n).map f).sum ≤ n * m
 | 0,_ => by simp
 | n + 1,h => by
  rw [List.range_succ,List.map_append,List.sum_append]
  have h1 := sum_le n fun i hi => h i (by omega)
  have h2 := h n (by omega)
  simp only [List.map_cons,List.map_nil,List.sum_cons,List.sum_nil]
  rw [Nat.add_mul]; omega
theorem weight_le {w : MWorld} (hsm : smallWorld w = true) (ks : List Int) : weight w ks ≤ 650000 := by
 have hl := (smallW_len hsm).1
 have := sum_le (f := fun i => if memB ks (i : Nat) = true then 0 else (refsOf (w.obj (i : Nat))).length) (m := 5000) w.objs.length fun i hi => by
  split
  ·omega
  ·exact refs_count hsm hi
 unfold weight
 omega
theorem put_clone {L : Prog} {l : List LOper} {d g : Nat} {fr : Nat → Val} {en : En} {cnt : Nat → Nat → Nat} {Q : St → Prop} {xs : List Val} (hg : g = cnt 0 d)
  (k : ∀ v en' cnt',MineO en' v 1 xs d → (∀ n t g,¬ t = d → en' ⟨n,t,g⟩ = en ⟨n,t,g⟩) → (∀ n t,¬ t = d → cnt' n t = cnt n t) → WOps L l ⟨setFr fr d v,en',cnt'⟩ Q) : WPut L l (some d) fr en cnt Q (some (callRes 0 d g (cloneV 1 xs) [])) := by
 subst hg
 rcases clone_cases 1 xs with ⟨o1,o2⟩ | ⟨o1,o2⟩ <;> rw [o2]
 ·have := k (.cl []) en cnt (.inl ⟨rfl,o1⟩) (fun _ _ _ _ => rfl) (fun _ _ _ => rfl)
  simpa [WPut,callRes,putFr,applyAll_nil,applyAll_cons,apply_ent] using this
 ·have := k (.bl ⟨0,d,cnt 0 d⟩ 0 xs.length) (en.set ⟨0,d,cnt 0 d⟩ (some (.blk 1 xs false))) (setCnt cnt 0 d (cnt 0 d + 1)) (.inr ⟨_,rfl,en_eq⟩) (fun _ _ _ h => en_ne_t h) (fun n t h => by simp [setCnt,h])
  simpa [WPut,callRes,putFr,applyAll_nil,applyAll_cons,apply_ent] using this
theorem reap_Reached_pc (p : BProg) (w : MWorld) (hp : p.few) (hw : w.few) (hsp : smallProg p = true) (hsm : smallWorld w = true)
  (htk : given p w = true → (∀ t ∈ w.tasks,∃ i : Nat,t = i ∧ i < w.objs.length ∧ isTask (w.obj i) = true) ∧ ∀ i : Nat,i < w.objs.length → isTask (w.obj i) = true → (i : Int) ∈ w.tasks) :
  PC L F.reap_Reached [.agg [.fz (p.nodes.map BNode.enc),.fz (p.funs.map (.int .i64)),.int .i64 p.main,.fz (p.cons.map BCon.enc)],.agg [.fz (w.objs.map MObj.enc),.fz (w.tasks.map (.int .i64)),.fz (w.outs.map MOut.enc),.fz (w.ins.map (.int .i64)),.int .i64 w.used]] (if given p w = true then .tup [.fz ((numsL (reachL w)).map (.int .i64)),.int .i64 0] else .tup [.fz [],.int .i64 2]) := by
 obtain ⟨b1,b2,b3,b4⟩ := smallW_len hsm
 have hmc := mean_Check_pc p w hp hw hsp
 refine pc_of LF.reap_Reached rfl rfl ?_
 by_cases hg : given p w = true
 ·rw [if_pos hg]
  simp only [hg,if_true] at hmc
  obtain ⟨ht1,ht2⟩ := htk hg
  have hino : InRange w := fun o ho x hx => given_in hg o ho x ((refs_mem _ _).2 hx)
  have hcl := Clone_int_pc (w.tasks.map (.int .i64)) (headOk_ints _) (by simp; omega)
  have s0 : Search w [] w.tasks := ⟨fun x hx => (by cases hx),fun x hx => by obtain ⟨i,h1,h2,h3⟩ := ht1 x hx; exact ⟨i,h1,h2,.task h2 h3⟩,fun x hx => .inr hx,fun n hn => (by cases hn)⟩
  simp only [go_sem,qC,qG,qW,C.reap_Reached,hmc.ret,hcl.ret]
  refine put_clone (g := 0) (by simp only [go_sem,qW]) ?_
  intro v0 en0 cnt0 mv hen hcnt
  have e3 : en0 ⟨0,3,0⟩ = some (.box [.fz (w.objs.map MObj.enc),.fz (w.tasks.map (.int .i64)),.fz (w.outs.map MOut.enc),.fz (w.ins.map (.int .i64)),.int .i64 w.used] false) := by rw [hen 0 3 0 (by decide)]; simp only [go_sem,qW]
  have e18 : en0 ⟨0,18,0⟩ = some (.map [] [] false) := by rw [hen 0 18 0 (by decide)]; simp only [go_sem,qW]
  have c3 : 1 ≤ cnt0 0 3 := by rw [hcnt 0 3 (by decide)]; simp only [go_sem,qW]; try exact Nat.le_refl _
  have c8 : cnt0 0 8 = 0 := by rw [hcnt 0 8 (by decide)]; simp only [go_sem,qW]
  have hv0 : CutL en0 v0 (w.tasks.map (.int .i64)) [21,51] := by
   rcases mv with h | ⟨g,h1,h2⟩
   ·exact .inl h
   ·exact .inr ⟨21,g,_,h1,h2,Nat.le_refl _,List.take_of_length_le (Nat.le_refl _),by simp⟩
  have hsh := hv0.shape
  simp only [go_sem,qC,qG,qW,hsh.1,hsh.2,c8]
  refine Go.Abs.wp_loop (fun (x : List Int × List Int) (st : Go.Abs.St) => ∃ fr en cnt v,st = ⟨fr,en,cnt⟩ ∧ fr 3 = .ptr ⟨0,3,0⟩ 0 ∧ en ⟨0,3,0⟩ = some (.box [.fz (w.objs.map MObj.enc),.fz (w.tasks.map (.int .i64)),.fz (w.outs.map MOut.enc),.fz (w.ins.map (.int .i64)),.int .i64 w.used] false) ∧ fr 7 = .mp ⟨0,18,0⟩ ∧ en ⟨0,18,0⟩ = some (.map (x.1.map (.int .i64)) (x.1.map fun _ => .bool true) false) ∧ fr 8 = .ptr ⟨0,8,0⟩ 0 ∧ en ⟨0,8,0⟩ = some (.box [v] false) ∧ 1 ≤ cnt 0 3 ∧ CutL en v (x.2.map (.int .i64)) [21,51] ∧ Search w x.1 x.2 ∧ x.2.length + weight w x.1 ≤ 700000)
   (fun x => x.2.length + weight w x.1) ([],w.tasks) ⟨_,_,_,v0,rfl,by simp only [go_sem,qW],by simp only [go_sem,e3],by simp only [go_sem,qW],by simp only [go_sem,e18]; try rfl,by simp only [go_sem,qW],by simp only [go_sem,qW],by simp only [go_sem,qW]; try exact c3,?_,s0,?_⟩ ?_
  ·exact hv0.keep fun t g ht => by simp at ht; rcases ht with rfl | rfl <;> simp only [go_sem,qW]
  ·have := weight_le hsm []; dsimp only; omega
  clear hv0 hsh e3 e18 c3 c8 mv
  rintro ⟨ks,td⟩ st ⟨fr,en,cnt,v,rfl,h3,e3,h7,e18,h8,e8,hc3,hv,hS,hwt⟩
  dsimp only at e18 hv hS hwt ⊢
  have hlv := hv.len
  rw [List.length_map] at hlv
  simp only [go_sem,qC,qG,qW,h3,e3,h7,e18,h8,e8,hlv]
  refine condK_split (fun hq => ?_) (fun hq => ?_)
  ·have hpos : 0 < td.length := by simp at hq; omega
   have hne : td ≠ [] := by intro h; rw [h] at hpos; cases hpos
   obtain ⟨td',n,rfl⟩ : ∃ a b,td = a ++ [b] := ⟨td.dropLast,td.getLast hne,(List.dropLast_concat_getLast hne).symm⟩
   rcases hv with ⟨_,hx⟩ | ⟨t,g,zs,rfl,ez,hle,htk',ht⟩
   ·simp at hx
   rw [List.length_map] at hle htk' e8 hlv
   have hll : (td' ++ [n]).length = td'.length + 1 := by simp
   have hw1 : IntKind.i64.wrap (((td' ++ [n]).length : Int) - 1) = (td'.length : Int) := by
    rw [hll,wrap_in (by omega)]; omega
   have hgz : zs[td'.length]? = some (.int .i64 n) := by
    have h1 : (zs.take (td' ++ [n]).length)[td'.length]? = some (.int .i64 n) := by rw [htk']; simp
    rw [List.getElem?_take] at h1
    rw [if_pos (by omega)] at h1
    exact h1
   have hc1 : (0 : Int) ≤ (td'.length : Int) := by omega
   have hc2 : (td'.length : Int) < ((td' ++ [n]).length : Int) := by omega
   have hsl := fun kk => slice_bl (size := 1) (kk := kk) (n := (td' ++ [n]).length) (i := td'.length) ez (by omega)
   obtain ⟨m,rfl,hm,hrm⟩ := hS.todo n (by simp)
   have hin1 : inR (m : Int) 0 ((w.objs.length : Int) - 1) = true := by simp only [inR,decide_eq_true_eq]; omega
   have hcut : CutL en (.bl ⟨0,t,g⟩ 0 td'.length) (td'.map (.int .i64)) [21,51] := by
    refine .inr ⟨t,g,zs,by simp,ez,by simp; omega,?_,ht⟩
    have : (zs.take (td' ++ [(m : Int)]).length).take td'.length = td'.map (.int .i64) := by rw [htk']; simp
    rw [List.take_take,Nat.min_eq_left (by omega)] at this
    simpa using this
   have hmb : (ks.any fun x => decide (x = (m : Int))) = memB ks m := rfl
   simp only [go_sem,qC,qG,qW,h3,e3,h7,e18,h8,e8,ez,hw1,hgz,hc1,hc2,hle,hsl,one_bl,cells_bl,look_bool,hmb,true_and,and_true,eq_self,if_true,Nat.zero_add,Int.toNat_natCast]
   refine condK_split (fun gm => ?_) (fun gm => ?_)
   ·simp only [go_sem,qC,qG,qW,h3,e3,h7,e18,h8,e8]
    refine ⟨(ks,td'),⟨_,_,_,.bl ⟨0,t,g⟩ 0 td'.length,rfl,by simp only [go_sem,h3],by simp only [go_sem,e3],by simp only [go_sem,h7],by simp only [go_sem,e18],by simp only [go_sem,h8],by simp only [go_sem,qW],hc3,?_,search_drop hS (memB_iff.1 gm),?_⟩,?_⟩
    ·refine hcut.keep fun t g ht => ?_
     have ht' : t = 21 ∨ t = 51 := by simpa using ht
     rcases ht' with rfl | rfl <;> simp only [go_sem,qW]
    ·dsimp only; omega
    ·dsimp only; omega
   ·have hnm : (m : Int) ∉ ks := fun h => by rw [memB_iff.2 h] at gm; cases gm
    have hfd := findKey_idx (m : Int) ks
    rw [if_neg hnm] at hfd
    have hws := weight_step w ks hm gm
    have hk1 : (ks ++ [(m : Int)]).map (Val.int .i64) = ks.map (.int .i64) ++ [.int .i64 m] := by simp
    have hk2 : (ks ++ [(m : Int)]).map (fun _ => Val.bool true) = (ks.map fun _ => .bool true) ++ [.bool true] := by simp
    have hrc := refs_count hsm hm
    simp only [go_sem,qC,qG,qW,h3,e3,h7,e18,h8,e8,hfd,keyOk_int,flat1_bool,Bool.and_true,Bool.and_self,if_true,ia_obj hin1,(reap_refs_pc _).ret]
    refine wp_range (f := F.reap_refs_c1) (x := []) (y := [.fp [.int .i64 (w.obj m).form,.int .i64 (w.obj m).n,.fz ((w.obj m).vals.map MVal.enc),.fz ((w.obj m).frames.map MFrame.enc)] 0]) (by simp only [go_sem,qW]) ?_
    intro fr0 key hfr0 hkey
    have q3 : fr0 3 = .ptr ⟨0,3,0⟩ 0 := by rw [hfr0]; simp only [go_sem,qW,h3]
    have q7 : fr0 7 = .mp ⟨0,18,0⟩ := by rw [hfr0]; simp only [go_sem,qW,h7]
    have q8 : fr0 8 = .ptr ⟨0,8,0⟩ 0 := by rw [hfr0]; simp only [go_sem,qW,h8]
    obtain ⟨gk,rfl⟩ : ∃ gk,key = ⟨1,0,gk⟩ := ⟨_,hkey⟩
    obtain ⟨c0,hc0⟩ : ∃ c0,c0 = setCnt cnt 1 0 (cnt 1 0 + 1) 0 := ⟨_,rfl⟩
    have hcc : 1 ≤ c0 3 := by rw [hc0]; simpa [setCnt] using hc3
    have hr := reach_rounds w (ks ++ [(m : Int)]) td' (refsOf (w.obj m)) (gk := gk) (c0 := c0) q8 hcc (by omega)
    rw [hc0] at hr
    have hso : smallObj (w.obj m) = true := by rw [objAt_get hm]; exact smallW_obj hsm _ (List.getElem_mem hm)
    refine (refs_win (w.obj m) (small_few hso) hr ⟨by simp only [go_sem,qW],by simp only [go_sem,e3],by rw [hk1,hk2]; simp only [go_sem,qW],by simpa [setCnt] using hc3,.bl ⟨0,t,g⟩ 0 td'.length,[],by simp only [go_sem,qW],?_,rfl⟩).mono ?_
    ·rw [List.append_nil]
     refine hcut.keep fun t g ht => ?_
     have ht' : t = 21 ∨ t = 51 := by simpa using ht
     rcases ht' with rfl | rfl <;> simp only [go_sem,qW]
    rintro v en' cnt' (⟨i1,i3,i18,ic,v',done,i8,hv',hd⟩ | hF)
    ·rw [List.append_nil] at hd
     subst hd
     simp only [go_sem,qC,qG,qW,i1,i3,i18,i8,q3,q7,q8,h3,h7,h8]
     refine ⟨(ks ++ [(m : Int)],td' ++ refsOf (w.obj m)),⟨_,_,_,v',rfl,by simp only [go_sem,h3,q3],by simp only [go_sem,i3],by simp only [go_sem,h7,q7],by simp only [go_sem,i18],by simp only [go_sem,h8,q8],by simp only [go_sem,i8],ic,hv',search_step hS hino,?_⟩,?_⟩
     ·dsimp only; rw [List.length_append]; omega
     ·dsimp only; rw [List.length_append]; omega
    ·exact hF.elim
  ·have h0 : td = [] := by simp at hq; omega
   subst h0
   simp only [go_sem,qC,qG,qW,h3,e3,h7,e18,h8,e8,hlv]
   have hend := search_end hS ht2
   refine wp_for w.objs.length (fun k st => ∃ fr en cnt v,st = ⟨fr,en,cnt⟩ ∧ fr 7 = .mp ⟨0,18,0⟩ ∧ en ⟨0,18,0⟩ = some (.map (ks.map (.int .i64)) (ks.map fun _ => .bool true) false) ∧ fr 11 = v ∧ fr 54 = .int .i64 w.objs.length ∧ fr 55 = .int .i64 k ∧ Mine en v 1 ((numsTo (reachL w) k).map (.int .i64)) [64]) 0 (Nat.zero_le _) ⟨_,_,_,.cl [],rfl,by simp only [go_sem,h7],by simp only [go_sem,e18],by simp only [go_sem,qW],by simp only [go_sem,qW],by simp only [go_sem,qW],Mine.nil _ _⟩ ?_
   clear h3 e3 h7 e18 h8 e8 hv
   rintro k st hk ⟨fr,en,cnt,v,rfl,h7,e18,h11,h54,h55,hv⟩
   simp only [go_sem,qC,qG,qW,h7,e18,h11,h54,h55]
   refine condK_split (fun hq2 => ?_) (fun hq2 => ?_)
   ·have h' : k < w.objs.length := of_decide_eq_true hq2
    have hgt : (reachL w).getD k false = reachB w k := by simp [reachL,List.getD_eq_getElem?_getD,h']
    have hmb : (ks.any fun x => decide (x = (k : Int))) = reachB w k := hend k
    simp only [go_sem,qC,qG,qW,h7,e18,h11,h54,h55,look_bool,hmb]
    refine condK_split (fun gm => ?_) (fun gm => ?_)
    ·simp only [go_sem,qC,qG,qW,h7,e18,h11,h54,h55]
     refine w_append (D := [64]) (xs := (numsTo (reachL w) k).map (.int .i64)) (ys := [.int .i64 k]) (rs := []) ?_ ?_ ?_ ?_ ?_
     ·simp only [go_sem,qW]
      exact hv
     ·simp only [go_sem,qW]
     ·rfl
     ·have := numsTo_len (reachL w) k; simp; omega
     ·intro v' en' cnt' hown hen hcnt
      have k18 : en' ⟨0,18,0⟩ = some (.map (ks.map (.int .i64)) (ks.map fun _ => .bool true) false) := by rw [hen 0 18 0 (.inr ⟨by decide,by simp⟩)]; simp only [go_sem,qW,e18]
      simp only [go_sem,qC,qG,qW,h7,k18,h54,h55]
      refine ⟨h',_,_,_,v',rfl,?_⟩
      simp only [go_sem,qC,qG,qW,h7,k18,h54,h55,wrap_succ h' hw.objs]
      rw [numsTo_t (hgt.trans gm),List.map_append]
      exact Mine.sub (D := [64,64]) hown (by simp)
    ·simp only [go_sem,qC,qG,qW,h7,e18,h11,h54,h55]
     refine ⟨h',_,_,_,v,rfl,?_⟩
     simp only [go_sem,qC,qG,qW,h7,e18,h11,h54,h55,wrap_succ h' hw.objs]
     rw [numsTo_f (hgt.trans gm)]
     exact hv
   ·have : k = w.objs.length := by simp at hq2; omega
    subst this
    simp only [go_sem,qC,qG,qW,h11]
    obtain ⟨r,ks',s1,_,s2,_⟩ := hv.snap 6
    have hnl : numsTo (reachL w) w.objs.length = numsL (reachL w) := by simp [numsL,reachL]
    simp only [go_sem,qC,qG,qW,s1,s2,hnl]
 ·rw [if_neg hg]
  simp only [hg] at hmc
  simp only [go_sem,qC,qG,qW,C.reap_Reached,hmc.ret]
theorem distinct_mem (w : MWorld) : ∀ (l met : List Int),distinctTasks w met l = true → ∀ t ∈ l,∃ i : Nat,t = i ∧ i < w.objs.length ∧ isTask (w.obj i) = true
 | [],_,_,t,h => by cases h
 | k :: l,met,hd,t,h => by
  simp only [distinctTasks,Bool.and_eq_true] at hd
  rcases List.mem_cons.1 h with rfl | h
  ·have h1 := hd.1.1.1
   simp only [inR,decide_eq_true_eq] at h1
   obtain ⟨j,rfl⟩ := Int.eq_ofNat_of_zero_le h1.1
   exact ⟨j,rfl,by omega,hd.1.1.2⟩
  ·exact distinct_mem w l _ hd.2 t h
theorem given_tasks {p : BProg} {w : MWorld} (h : given p w = true) : (∀ t ∈ w.tasks,∃ i : Nat,t = i ∧ i < w.objs.length ∧ isTask (w.obj i) = true) ∧ ∀ i : Nat,i < w.objs.length → isTask (w.obj i) = true → (i : Int) ∈ w.tasks := by
 have ht : tasksB w = true := by
  simp only [given,worldOk,Bool.and_eq_true] at h
  rw [tasks_same]; exact h.2.1.1.2
 simp only [tasksB,Bool.and_eq_true] at ht
 refine ⟨distinct_mem w _ _ ht.1,fun i hi hk => ?_⟩
 have := ht.2
 simp only [covered,List.all_eq_true] at this
 have h2 := this i (by simpa using hi)
 rw [hk] at h2
 simp only [Bool.not_true,Bool.or_false,List.any_eq_true,decide_eq_true_eq] at h2
 obtain ⟨x,hx,rfl⟩ := h2
 exact hx
theorem movedL_few {keep : List Int} {l : List MVal} (h : Few l.length) : Few (movedL keep l).length := by simpa [movedL] using h
theorem movedO_few {keep : List Int} {o : MObj} (h : o.few) : (movedO keep o).few := by
 refine ⟨movedL_few h.1,by simpa [movedO] using h.2.1,fun f hf => ?_⟩
 obtain ⟨g,hg,rfl⟩ := List.mem_map.1 hf
 have := h.2.2 g hg
 exact ⟨movedL_few this.1,movedL_few this.2⟩
theorem compact_few {w : MWorld} {keep : List Int} (hw : w.few) (hsm : smallWorld w = true) (hk : Few keep.length) (hin : ∀ x ∈ keep,inR x 0 ((w.objs.length : Int) - 1) = true) : (compactW w keep).few := by
 refine ⟨by simpa [compactW] using hk,by simpa [compactW] using hw.tasks,hw.outs,hw.ins,fun o ho => ?_⟩
 obtain ⟨n,hn,rfl⟩ := List.mem_map.1 ho
 exact movedO_few (small_few (smallW_obj hsm _ (obj_mem (hin n hn))))
def markN (m : List Int) (i : Nat) : Int := m.getD i 0
theorem markN_get {m : List Int} {i : Nat} (h : i < m.length) : markN m i = m[i] := by simp [markN,List.getD_eq_getElem?_getD,h]
theorem markN_out {m : List Int} {i : Nat} (h : m.length ≤ i) : markN m i = 0 := by simp [markN,List.getD_eq_getElem?_getD,List.getElem?_eq_none h]
def lookM (m : List Int) (n : Nat) (seen : List Int) : List Int := (List.range m.length).map fun i => if i = n then 2 else if markN m i = 0 ∧ memB seen (i : Nat) = true then 1 else markN m i
theorem lookM_len (m : List Int) (n : Nat) (seen : List Int) : (lookM m n seen).length = m.length := by simp [lookM]
theorem lookM_at {m : List Int} {n : Nat} {seen : List Int} {i : Nat} (h : i < m.length) : markN (lookM m n seen) i = if i = n then 2 else if markN m i = 0 ∧ memB seen (i : Nat) = true then 1 else markN m i := by
 rw [markN_get (by rw [lookM_len]; exact h)]; simp [lookM]
theorem lookM_nil {m : List Int} {n : Nat} (h : n < m.length) : m.set n 2 = lookM m n [] := by
 apply List.ext_getElem
 ·simp [lookM]
 ·intro i h1 h2
  have hi : i < m.length := by simpa using h1
  simp only [List.getElem_set,lookM,List.getElem_map,List.getElem_range,markN_get hi]
  by_cases hn : n = i
  ·simp [hn]
  ·have hn' : ¬ i = n := fun e => hn e.symm
   simp [hn,hn',memB]
theorem lookM_set {m : List Int} {n : Nat} {seen : List Int} {j : Nat} (hj : j < m.length) (h0 : markN (lookM m n seen) j = 0) : (lookM m n seen).set j 1 = lookM m n (seen ++ [(j : Int)]) := by
 rw [lookM_at hj] at h0
 apply List.ext_getElem
 ·simp [lookM]
 ·intro i h1 h2
  simp only [List.getElem_set,lookM,List.getElem_map,List.getElem_range,memB_append]
  by_cases hji : j = i
  ·subst hji
   by_cases hn : j = n
   ·rw [if_pos hn] at h0; cases h0
   ·rw [if_neg hn] at h0
    have hm : markN m j = 0 := by
     split at h0
     ·cases h0
     ·exact h0
    simp [hn,hm]
  ·have : decide ((j : Int) = (i : Int)) = false := by simp; omega
   simp only [this,Bool.or_false,if_neg hji]
theorem lookM_skip {m : List Int} {n : Nat} {seen : List Int} {j : Nat} (hj : j < m.length) (h0 : ¬ markN (lookM m n seen) j = 0) : lookM m n (seen ++ [(j : Int)]) = lookM m n seen := by
 rw [lookM_at hj] at h0
 unfold lookM
 refine List.map_congr_left fun i _ => ?_
 rw [memB_append]
 by_cases hji : j = i
 ·subst hji
  by_cases hn : j = n
  ·simp [hn]
  ·rw [if_neg hn] at h0
   by_cases hm : markN m j = 0
   ·by_cases hs : memB seen (j : Nat) = true
    ·simp [hs]
    ·rw [if_neg (fun h => hs h.2)] at h0; exact absurd hm h0
   ·simp [hm]
 ·have : decide ((j : Int) = (i : Int)) = false := by simp; omega
  simp only [this,Bool.or_false]
def lookedAt (w : MWorld) (m : List Int) (n : Nat) : List Int := lookM m n (refsOf (w.obj n))
def firstG : List Int → Nat
 | [] => 0
 | x :: l => if x = 1 then 0 else firstG l + 1
theorem firstG_spec : ∀ m : List Int,firstG m ≤ m.length ∧ (∀ i,i < firstG m → ¬ markN m i = 1) ∧ (firstG m < m.length → markN m (firstG m) = 1)
 | [] => ⟨Nat.le_refl _,fun i h => (by cases h),fun h => (by cases h)⟩
 | x :: l => by
  obtain ⟨h1,h2,h3⟩ := firstG_spec l
  by_cases hx : x = 1
  ·simp [firstG,hx,markN]
  ·simp only [firstG,if_neg hx,List.length_cons]
   refine ⟨by omega,fun i hi => ?_,fun hl => ?_⟩
   ·cases i with
    | zero => simpa [markN] using hx
    | succ i => have := h2 i (by omega); simpa [markN] using this
   ·have := h3 (by omega); simpa [markN] using this
theorem firstG_eq {m : List Int} {n : Nat} (hn : n < m.length) (h1 : markN m n = 1) (h2 : ∀ i,i < n → ¬ markN m i = 1) : firstG m = n := by
 obtain ⟨a,b,c⟩ := firstG_spec m
 by_cases h : firstG m < n
 ·exact absurd (c (by omega)) (h2 _ h)
 ·by_cases h' : n < firstG m
  ·exact absurd h1 (b _ h')
  ·omega
theorem firstG_none {m : List Int} (h2 : ∀ i,i < m.length → ¬ markN m i = 1) : firstG m = m.length := by
 obtain ⟨a,b,c⟩ := firstG_spec m
 by_cases h : firstG m < m.length
 ·exact absurd (c h) (h2 _ h)
 ·omega
def runS (w : MWorld) : Nat → List Int → List Int
 | 0,m => m
 | k + 1,m => if firstG m < m.length then runS w k (lookedAt w m (firstG m)) else m
theorem runS_none {w : MWorld} {m : List Int} (h : ¬ firstG m < m.length) (k : Nat) : runS w k m = m := by
 cases k with
 | zero => rfl
 | succ k => rw [runS,if_neg h]
theorem runS_len (w : MWorld) : ∀ (k : Nat) (m : List Int),(runS w k m).length = m.length
 | 0,m => rfl
 | k + 1,m => by
  rw [runS]; split
  ·rw [runS_len w k,lookedAt,lookM_len]
  ·rfl
structure MarksOk (w : MWorld) (m : List Int) : Prop where
 len : m.length = w.objs.length
 range : ∀ i,i < m.length → markN m i = 0 ∨ markN m i = 1 ∨ markN m i = 2
 tasks : ∀ i,i < w.objs.length → isTask (w.obj i) = true → ¬ markN m i = 0
 black : ∀ i,i < w.objs.length → markN m i = 2 → ∀ x ∈ refsOf (w.obj i),¬ markN m x.toNat = 0
theorem look_up {m : List Int} {n : Nat} {seen : List Int} {i : Nat} (h : ¬ markN m i = 0) : ¬ markN (lookM m n seen) i = 0 := by
 have hi : i < m.length := by
  by_cases hl : i < m.length
  ·exact hl
  ·exact absurd (markN_out (by omega)) h
 rw [lookM_at hi]
 split
 ·omega
 ·rw [if_neg (fun hh => h hh.1)]; exact h
theorem marks_look {w : MWorld} {m : List Int} (hin : InRange w) (h : MarksOk w m) (n : Nat) : MarksOk w (lookedAt w m n) := by
 refine ⟨by rw [lookedAt,lookM_len]; exact h.len,fun i hi => ?_,fun i hi ht => look_up (h.tasks i hi ht),fun i hi hb x hx => ?_⟩
 ·rw [lookedAt,lookM_len] at hi
  rw [lookedAt,lookM_at hi]
  split
  ·exact .inr (.inr rfl)
  ·split
   ·exact .inr (.inl rfl)
   ·exact h.range i hi
 ·have hg : w.obj i ∈ w.objs := by rw [objAt_get hi]; exact List.getElem_mem _
  have hxi := hin _ hg x hx
  simp only [inR,decide_eq_true_eq] at hxi
  obtain ⟨j,rfl⟩ := Int.eq_ofNat_of_zero_le hxi.1
  have hj : j < m.length := by rw [h.len]; omega
  rw [lookedAt,lookM_at (by rw [h.len]; exact hi)] at hb
  rw [Int.toNat_natCast]
  by_cases hin' : i = n
  ·subst hin'
   rw [lookedAt,lookM_at hj]
   split
   ·omega
   ·split
    ·omega
    ·rename_i h2
     intro h0
     exact h2 ⟨h0,memB_iff.2 hx⟩
  ·rw [if_neg hin'] at hb
   split at hb
   ·omega
   ·have := h.black i hi hb _ hx
    rw [Int.toNat_natCast] at this
    exact look_up this
theorem marks_run {w : MWorld} (hin : InRange w) : ∀ (k : Nat) {m : List Int},MarksOk w m → MarksOk w (runS w k m)
 | 0,m,h => h
 | k + 1,m,h => by
  rw [runS]; split
  ·exact marks_run hin k (marks_look hin h _)
  ·exact h
def notBlack (m : List Int) : Nat := ((List.range m.length).map fun i => if markN m i = 2 then 0 else 1).sum
theorem notBlack_look {m : List Int} {n : Nat} {seen : List Int} (hn : n < m.length) (h1 : markN m n = 1) : notBlack (lookM m n seen) + 1 = notBlack m := by
 have := sum_change (f := fun i => if markN (lookM m n seen) i = 2 then 0 else 1) (g := fun i => if markN m i = 2 then 0 else 1) m.length hn (fun i hi => by
  by_cases hl : i < m.length
  ·rw [lookM_at hl,if_neg hi]
   by_cases hc : markN m i = 0 ∧ memB seen (i : Nat) = true
   ·rw [if_pos hc,hc.1]; rfl
   ·rw [if_neg hc]
  ·rw [markN_out (m := m) (by omega),markN_out (m := lookM m n seen) (by rw [lookM_len]; omega)])
 have e1 : markN (lookM m n seen) n = 2 := by rw [lookM_at hn,if_pos rfl]
 simp only [e1,h1,if_true] at this
 rw [notBlack,notBlack,lookM_len]
 simpa using this
def goneTo (m : List Int) (k : Nat) : List Int := ((List.range k).filter fun i => decide (markN m i = 0)).map fun (i : Nat) => (i : Int)
def keepTo (m : List Int) (k : Nat) : List Int := ((List.range k).filter fun i => !decide (markN m i = 0)).map fun (i : Nat) => (i : Int)
def agesTo (s : RState) (m : List Int) (k : Nat) : List Int := ((List.range k).filter fun i => !decide (markN m i = 0)).map fun (i : Nat) => min (ageAt s i + 1) 2
theorem gone_t {m : List Int} {k : Nat} (h : markN m k = 0) : goneTo m (k + 1) = goneTo m k ++ [(k : Int)] := by
 rw [goneTo,List.range_succ,List.filter_append,List.map_append]; simp [h,goneTo]
theorem gone_f {m : List Int} {k : Nat} (h : ¬ markN m k = 0) : goneTo m (k + 1) = goneTo m k := by
 rw [goneTo,List.range_succ,List.filter_append,List.map_append]; simp [h,goneTo]
theorem keep_t {m : List Int} {k : Nat} (h : ¬ markN m k = 0) : keepTo m (k + 1) = keepTo m k ++ [(k : Int)] := by
 rw [keepTo,List.range_succ,List.filter_append,List.map_append]; simp [h,keepTo]
theorem keep_f {m : List Int} {k : Nat} (h : markN m k = 0) : keepTo m (k + 1) = keepTo m k := by
 rw [keepTo,List.range_succ,List.filter_append,List.map_append]; simp [h,keepTo]
theorem ages_t {s : RState} {m : List Int} {k : Nat} (h : ¬ markN m k = 0) : agesTo s m (k + 1) = agesTo s m k ++ [min (ageAt s k + 1) 2] := by
 rw [agesTo,List.range_succ,List.filter_append,List.map_append]; simp [h,agesTo]
theorem ages_f {s : RState} {m : List Int} {k : Nat} (h : markN m k = 0) : agesTo s m (k + 1) = agesTo s m k := by
 rw [agesTo,List.range_succ,List.filter_append,List.map_append]; simp [h,agesTo]
theorem gone_len (m : List Int) (k : Nat) : (goneTo m k).length ≤ k := by
 have := List.length_filter_le (fun i => decide (markN m i = 0)) (List.range k)
 simpa [goneTo] using this
theorem keepTo_len (m : List Int) (k : Nat) : (keepTo m k).length ≤ k := by
 have := List.length_filter_le (fun i => !decide (markN m i = 0)) (List.range k)
 simpa [keepTo] using this
theorem agesTo_len (s : RState) (m : List Int) (k : Nat) : (agesTo s m k).length = (keepTo m k).length := by simp [agesTo,keepTo]
theorem keep_mem {m : List Int} {k : Nat} {x : Int} : x ∈ keepTo m k ↔ ∃ i : Nat,x = i ∧ i < k ∧ ¬ markN m i = 0 := by
 simp only [keepTo,List.mem_map,List.mem_filter,List.mem_range,Bool.not_eq_true',decide_eq_false_iff_not]
 exact ⟨fun ⟨i,⟨h1,h2⟩,h3⟩ => ⟨i,h3.symm,h1,h2⟩,fun ⟨i,h3,h1,h2⟩ => ⟨i,⟨h1,h2⟩,h3.symm⟩⟩
theorem keep_rise (m : List Int) (k : Nat) : (keepTo m k).Pairwise (· < ·) := by
 unfold keepTo
 rw [List.pairwise_map]
 exact (List.Pairwise.filter _ List.pairwise_lt_range).imp fun h => by omega
theorem keep_inR {w : MWorld} {m : List Int} : ∀ x ∈ keepTo m w.objs.length,inR x 0 ((w.objs.length : Int) - 1) = true := by
 intro x hx
 obtain ⟨i,rfl,hi,_⟩ := keep_mem.1 hx
 simp only [inR,decide_eq_true_eq]; omega
theorem refVals_moved (keep : List Int) (l : List MVal) : refVals (movedL keep l) = (refVals l).map fun x => (keep.idxOf x : Int) := by
 induction l with
 | nil => rfl
 | cons v l ih =>
  have hk : isRef (movedV keep v) = isRef v := rfl
  by_cases h : isRef v = true
  ·have e : movedL keep (v :: l) = movedV keep v :: movedL keep l := rfl
   rw [e,refVals_t (hk.trans h),refVals_t h,ih]
   simp [movedV,h]
  ·have h' : isRef v = false := by simpa using h
   have e : movedL keep (v :: l) = movedV keep v :: movedL keep l := rfl
   rw [e,refVals_f (hk.trans h'),refVals_f h',ih]
theorem refs_moved (keep : List Int) (o : MObj) : refsOf (movedO keep o) = (refsOf o).map fun x => (keep.idxOf x : Int) := by
 have hf : ∀ l : List MFrame,(l.map (movedF keep)).flatMap frameRefs = (l.flatMap frameRefs).map fun x => (keep.idxOf x : Int) := by
  intro l
  induction l with
  | nil => rfl
  | cons f l ih =>
   simp only [List.map_cons,List.flatMap_cons,List.map_append,ih]
   congr 1
   simp only [frameRefs,movedF,refVals_moved,List.map_append]
 simp only [refsOf,movedO,refVals_moved,hf,List.map_append]
structure Shut (w : MWorld) (keep : List Int) : Prop where
 rise : keep.Pairwise (· < ·)
 rng : ∀ x ∈ keep,inR x 0 ((w.objs.length : Int) - 1) = true
 refs : ∀ n ∈ keep,∀ x ∈ refsOf (w.obj n),x ∈ keep
 len : keep.length ≤ w.objs.length
theorem compact_in {w : MWorld} {keep : List Int} (h : Shut w keep) : InRange (compactW w keep) := by
 intro o ho x hx
 obtain ⟨n,hn,rfl⟩ := List.mem_map.1 ho
 rw [refs_moved] at hx
 obtain ⟨y,hy,rfl⟩ := List.mem_map.1 hx
 have := List.idxOf_lt_length_of_mem (h.refs n hn y hy)
 simp only [inR,decide_eq_true_eq,compactW,List.length_map]; omega
theorem small_moved {keep : List Int} {o : MObj} (h : smallObj o = true) : smallObj (movedO keep o) = true := by
 simp only [smallObj,Bool.and_eq_true,decide_eq_true_eq,List.all_eq_true] at h ⊢
 refine ⟨⟨by simpa [movedO,movedL] using h.1.1,by simpa [movedO] using h.1.2⟩,fun f hf => ?_⟩
 obtain ⟨g,hg,rfl⟩ := List.mem_map.1 hf
 have := h.2 g hg
 simpa [movedF,movedL] using this
theorem small_compact {w : MWorld} {keep : List Int} (hs : smallWorld w = true) (h : Shut w keep) : smallWorld (compactW w keep) = true := by
 have hl := h.len
 have hso := smallW_obj hs
 simp only [smallWorld,Bool.and_eq_true,decide_eq_true_eq,List.all_eq_true] at hs ⊢
 refine ⟨⟨⟨⟨by simp only [compactW,List.length_map]; omega,by simpa [compactW] using hs.1.1.1.2⟩,hs.1.1.2⟩,hs.1.2⟩,fun o ho => ?_⟩
 obtain ⟨n,hn,rfl⟩ := List.mem_map.1 ho
 exact small_moved (hso _ (obj_mem (h.rng n hn)))
theorem shut_marks {w : MWorld} {m : List Int} (h : MarksOk w m) (hin : InRange w) (hg : ¬ firstG m < m.length) : Shut w (keepTo m w.objs.length) ∧ ∀ t,(∃ i : Nat,t = (i : Int) ∧ i < w.objs.length ∧ isTask (w.obj i) = true) → t ∈ keepTo m w.objs.length := by
 obtain ⟨a,b,_⟩ := firstG_spec m
 refine ⟨⟨keep_rise m _,keep_inR,fun n hn x hx => ?_,keepTo_len m _⟩,fun t ⟨i,h1,h2,h3⟩ => keep_mem.2 ⟨i,h1,h2,h.tasks i h2 h3⟩⟩
 obtain ⟨i,rfl,hi,hm⟩ := keep_mem.1 hn
 have h1 : ¬ markN m i = 1 := b i (by have := h.len; omega)
 have h2 : markN m i = 2 := by
  rcases h.range i (by rw [h.len]; exact hi) with h | h | h
  ·exact absurd h hm
  ·exact absurd h h1
  ·exact h
 have hgm : w.obj i ∈ w.objs := by rw [objAt_get hi]; exact List.getElem_mem _
 have hxi := hin _ hgm x hx
 simp only [inR,decide_eq_true_eq] at hxi
 exact keep_mem.2 ⟨x.toNat,by omega,by omega,h.black i hi h2 x hx⟩
def nextS (s : RState) (m : List Int) : RState := ⟨compactW s.world (keepTo m s.world.objs.length),agesTo s m s.world.objs.length,marksB lt2 (compactW s.world (keepTo m s.world.objs.length)) (agesTo s m s.world.objs.length) ((s.cycle + 1).tmod 4),(s.cycle + 1).tmod 4⟩
def sliceS (s : RState) (most : Nat) : RState := if firstG (runS s.world most s.marks) < (runS s.world most s.marks).length then ⟨s.world,s.ages,runS s.world most s.marks,s.cycle⟩ else nextS s (runS s.world most s.marks)
def sliceG (s : RState) (most : Nat) : List Int := if firstG (runS s.world most s.marks) < (runS s.world most s.marks).length then [] else goneTo (runS s.world most s.marks) s.world.objs.length
def sliceE (s : RState) (most : Nat) : Bool := !decide (firstG (runS s.world most s.marks) < (runS s.world most s.marks).length)
theorem ints_get {m : List Int} {i : Nat} (h : i < m.length) : (m.map (Val.int .i64))[i]? = some (.int .i64 (markN m i)) := by simp [markN_get h,h]
theorem ints_set {m : List Int} {i : Nat} {x : Int} : (m.map (Val.int .i64)).set i (.int .i64 x) = (m.set i x).map (.int .i64) := by rw [List.map_set]
theorem MineO.shape {en : En} {v : Val} {size : Nat} {xs : List Val} {t : Nat} (h : MineO en v size xs t) : v.one = true ∧ v.cells = [v] := h.mine.shape
theorem MineO.keep {en en' : En} {v : Val} {size : Nat} {xs : List Val} {t : Nat} (h : MineO en v size xs t) (k : ∀ g,en' ⟨0,t,g⟩ = en ⟨0,t,g⟩) : MineO en' v size xs t := by
 rcases h with h | ⟨g,h1,h2⟩
 ·exact .inl h
 ·exact .inr ⟨g,h1,by rw [k]; exact h2⟩
def ne2 (a : Int) : Bool := !decide (a = 2)
theorem any_mem {α : Type} {a b : List α} (h : ∀ x,x ∈ a ↔ x ∈ b) (p : α → Bool) : a.any p = b.any p := by
 rw [Bool.eq_iff_iff]; simp only [List.any_eq_true]
 exact ⟨fun ⟨x,hx,k⟩ => ⟨x,(h x).1 hx,k⟩,fun ⟨x,hx,k⟩ => ⟨x,(h x).2 hx,k⟩⟩
theorem ageN_range {ages : List Int} (h : ∀ a ∈ ages,inR a 0 2 = true) (r : Int) : inR (ageN ages r) 0 2 = true := by
 unfold ageN
 rw [List.getD_eq_getElem?_getD]
 cases hg : ages[r.toNat]? with
 | none => rfl
 | some a => exact h a (List.mem_of_getElem? hg)
theorem markB_young {w : MWorld} {ages : List Int} (h : ∀ a ∈ ages,inR a 0 2 = true) (c : Int) (i : Nat) : markB ne2 w ages c i = markB lt2 w ages c i := by
 have : ∀ r,ne2 (ageN ages r) = lt2 (ageN ages r) := fun r => by
  have := ageN_range h r
  simp only [inR,decide_eq_true_eq] at this
  rw [Bool.eq_iff_iff]; simp [ne2,lt2]; omega
 simp only [markB,this]
def partB (ages : List Int) (done : List Int) : Int := if done.any (fun r => ne2 (ageN ages r)) = true then 1 else 2
theorem partB_step (ages : List Int) (done : List Int) (x : Int) : partB ages (done ++ [x]) = if ne2 (ageN ages x) = true then 1 else partB ages done := by
 unfold partB
 rw [List.any_append]
 simp only [List.any_cons,List.any_nil,Bool.or_false]
 by_cases h : ne2 (ageN ages x) = true
 ·simp [h]
 ·simp [h]
def OI (w : MWorld) (ages : List Int) (c : Int) (m : Nat → Int) (k g1 g2 g13 gk : Nat) (vA : Val) (all : List Int) (en0 : En) (fr0 : Nat → Val) (gl : Nat) (r : List Int) (en : En) (cnt : Nat → Nat → Nat) : Prop :=
 en ⟨1,0,gl⟩ = some (.loop fr0 [57] (LCode.ops [o 4 (.mv (.t 57))]) (LCode.block 4 (.seq (.ops [o 58 (.load false 1 (.t 1)),o 59 (.mv (.t 4)),o 60 (.call (.f F.reap_collector_old) [(.t 58),(.t 59)]),o 61 (.un .not (.t 60))]) (.cond (.t 61) (.draw [o 62 (.load false 1 (.t 1)),o 63 (.nilck (.t 62)),o 64 (.fa 0 (.t 63)),o 65 (.fa 6 (.t 64)),o 66 (.load false 1 (.t 65)),o 67 (.load false 1 (.t 2)),o 68 (.ia 1 (.t 66) (.t 67)),on (.store 1 (.t 68) (.c (.int .i64 1)))] []) .skip))) .ready) ∧ en ⟨0,1,g1⟩ = some (.box [.ptr ⟨0,16,gk⟩ 0] false) ∧ en ⟨0,2,g2⟩ = some (.box [.int .i64 k] false) ∧ en ⟨0,16,gk⟩ = some (.box [.fz (w.objs.map MObj.enc),.fz (w.tasks.map (.int .i64)),.fz (w.outs.map MOut.enc),.fz (w.ins.map (.int .i64)),.int .i64 w.used,vA,.bl ⟨0,13,g13⟩ 0 w.objs.length,.int .i64 c] false) ∧ Mine en vA 1 (ages.map (.int .i64)) [120] ∧ g2 + 1 ≤ cnt 0 2 ∧ 1 ≤ cnt 0 6 ∧ en ⟨0,6,0⟩ = en0 ⟨0,6,0⟩ ∧
 (∀ g,en ⟨0,103,g⟩ = en0 ⟨0,103,g⟩) ∧ ∃ done,done ++ r = all ∧ en ⟨0,13,g13⟩ = some (.blk 1 (((marksTo m w.objs.length k).set k (partB ages done)).map (.int .i64)) false)
theorem old_rounds (w : MWorld) (ages : List Int) (c : Int) (m : Nat → Int) (k g1 g2 g13 gk : Nat) (vA : Val) (all : List Int) (en0 : En) {fr0 : Nat → Val} {gl : Nat} {c0 : Nat → Nat} (hk : k < w.objs.length) (hal : ages.length = w.objs.length) (q1 : fr0 1 = .ptr ⟨0,1,g1⟩ 0) (q2 : fr0 2 = .ptr ⟨0,2,g2⟩ 0)
  (hino : ∀ x ∈ all,inR x 0 ((w.objs.length : Int) - 1) = true) (hc2 : g2 + 1 ≤ c0 2) (hc6 : 1 ≤ c0 6) : Rounds ⟨1,0,gl⟩ c0 (OI w ages c m k g1 g2 g13 gk vA all en0 fr0 gl) (fun _ _ => False) := by
 refine ⟨?_,?_⟩
 ·rintro r en cnt en' cnt' ⟨i1,j1,j2,j16,mA,hg2,hg6,e6,e103,done,hd,j13⟩ hout hcnt hge
  have h2 := hge 2 (by decide)
  have h6 := hge 6 (by decide)
  exact ⟨(hout 1 0 gl (.inl (by omega))).trans i1,(hout 0 1 g1 (.inr (.inl (by decide)))).trans j1,(hout 0 2 g2 (.inr (.inr (by omega)))).trans j2,(hout 0 16 gk (.inr (.inl (by decide)))).trans j16,mA.keep fun t g ht => hout 0 t g (.inr (.inl (by simp at ht; subst ht; decide))),by omega,by omega,(hout 0 6 0 (.inr (.inr (by omega)))).trans e6,fun g => (hout 0 103 g (.inr (.inl (by decide)))).trans (e103 g),done,hd,(hout 0 13 g13 (.inr (.inl (by decide)))).trans j13⟩
 ·rintro x rest en cnt ⟨i1,j1,j2,j16,mA,hg2,hg6,e6,e103,done,hd,j13⟩
  have hxi := hino x (by rw [← hd]; simp)
  have hxi' := hxi
  simp only [inR,decide_eq_true_eq] at hxi'
  obtain ⟨j,rfl⟩ := Int.eq_ofNat_of_zero_le hxi'.1
  have hj : j < ages.length := by omega
  have hne : ages.map (Val.int .i64) ≠ [] := by intro h; have : ages.length = 0 := by { rw [← List.length_map (f := Val.int .i64),h]; rfl }; omega
  obtain ⟨L1,hL1⟩ : ∃ L1,L1 = (marksTo m w.objs.length k).set k (partB ages done) := ⟨_,rfl⟩
  rw [← hL1] at j13
  have hl1 : L1.length = w.objs.length := by rw [hL1]; simp [marksTo_len]
  obtain ⟨ks,s1⟩ := mine_fz (mA.keep (en' := en.set ⟨1,0,gl⟩ (some (.loop fr0 [57] (LCode.ops [o 4 (.mv (.t 57))]) (LCode.block 4 (.seq (.ops [o 58 (.load false 1 (.t 1)),o 59 (.mv (.t 4)),o 60 (.call (.f F.reap_collector_old) [(.t 58),(.t 59)]),o 61 (.un .not (.t 60))]) (.cond (.t 61) (.draw [o 62 (.load false 1 (.t 1)),o 63 (.nilck (.t 62)),o 64 (.fa 0 (.t 63)),o 65 (.fa 6 (.t 64)),o 66 (.load false 1 (.t 65)),o 67 (.load false 1 (.t 2)),o 68 (.ia 1 (.t 66) (.t 67)),on (.store 1 (.t 68) (.c (.int .i64 1)))] []) .skip))) .busy))) fun t g ht => by simp at ht; subst ht; exact en_ne (by intro he; injection he with h1 _ _; omega)) hne 6
  have htk : (L1.map (Val.int .i64)).take w.objs.length = L1.map (.int .i64) := List.take_of_length_le (by simp [hl1])
  have hold : PC L F.reap_collector_old [.fp [.fz (w.objs.map MObj.enc),.fz (w.tasks.map (.int .i64)),.fz (w.outs.map MOut.enc),.fz (w.ins.map (.int .i64)),.int .i64 w.used,.fz (ages.map (.int .i64)),.fz (L1.map (.int .i64)),.int .i64 c] 0,.int .i64 j] (.bool (decide (ages[j] = 2))) := reap_old_pc ⟨w,ages,L1,c⟩ j hj
  have hc1 : (0 : Int) ≤ (k : Int) := by omega
  have hc2' : (k : Int) < (w.objs.length : Int) := by omega
  have hgk : (L1.map (Val.int .i64))[k]? = some (.int .i64 (partB ages done)) := by rw [hL1]; simp [marksTo_len,hk]
  have hps := partB_step ages done (j : Int)
  have han : ageN ages (j : Int) = ages[j] := ageN_get hj
  refine win_yld (fr := fr0) (ps := [57]) (a := (LCode.ops [o 4 (.mv (.t 57))])) (b := (LCode.block 4 (.seq (.ops [o 58 (.load false 1 (.t 1)),o 59 (.mv (.t 4)),o 60 (.call (.f F.reap_collector_old) [(.t 58),(.t 59)]),o 61 (.un .not (.t 60))]) (.cond (.t 61) (.draw [o 62 (.load false 1 (.t 1)),o 63 (.nilck (.t 62)),o 64 (.fa 0 (.t 63)),o 65 (.fa 6 (.t 64)),o 66 (.load false 1 (.t 65)),o 67 (.load false 1 (.t 2)),o 68 (.ia 1 (.t 66) (.t 67)),on (.store 1 (.t 68) (.c (.int .i64 1)))] []) .skip)))) i1 rfl ?_
  simp only [go_sem,qC,qG,qW,q1,q2,i1,j1,j2,j16,j13,s1,hl1,htk,hold.ret,Nat.le_refl,if_true,List.length_map]
  refine condK_split (fun hb => ?_) (fun hb => ?_)
  ·have hyn : ne2 (ageN ages (j : Int)) = true := by rw [han]; exact hb
   rw [if_pos hyn] at hps
   have hst : (L1.map (Val.int .i64)).set k (.int .i64 1) = ((marksTo m w.objs.length k).set k (partB ages (done ++ [(j : Int)]))).map (.int .i64) := by rw [hps,hL1,← List.map_set,List.set_set]
   simp only [go_sem,qC,qG,qW,q1,q2,i1,j1,j2,j16,j13,hl1,hgk,hst,hc1,hc2',true_and,and_true,eq_self,if_true,Nat.zero_add,Int.toNat_natCast,List.length_map,Nat.le_refl]
   refine ⟨fun t g ht hg => ?_,fun _ _ => trivial,.inl ⟨?_,?_,?_,?_,?_,hg2,hg6,?_,?_,done ++ [(j : Int)],by rw [← hd]; simp,?_⟩⟩
   ·have n1 : (⟨0,t,g⟩ : Key) ≠ ⟨1,0,gl⟩ := by intro he; injection he with h1 _ _; omega
    have n2 : (⟨0,t,g⟩ : Key) ≠ ⟨0,13,g13⟩ := by intro he; injection he with _ h2 h3; subst h2; simp [T4] at ht
    rw [en_ne n1,en_ne n2,en_ne n1]
   ·try simp only [go_sem,qW]
    try rfl
   ·simp only [go_sem,qW,j1]
   ·simp only [go_sem,qW,j2]
   ·simp only [go_sem,qW,j16]
   ·exact mA.keep fun t g ht => by simp at ht; subst ht; simp only [go_sem,qW]; try rfl
   ·simp only [go_sem,qW,e6]
   ·intro g; simp only [go_sem,qW,e103]
   ·simp only [go_sem,qW]
  ·have hyn : ¬ ne2 (ageN ages (j : Int)) = true := by rw [han]; intro h; rw [ne2] at h; rw [h] at hb; cases hb
   rw [if_neg hyn] at hps
   simp only [go_sem,qC,qG,qW,q1,q2,i1,j1,j2,j16,j13]
   refine ⟨fun t g ht hg => ?_,fun _ _ => trivial,.inl ⟨?_,?_,?_,?_,?_,hg2,hg6,?_,?_,done ++ [(j : Int)],by rw [← hd]; simp,?_⟩⟩
   ·have n1 : (⟨0,t,g⟩ : Key) ≠ ⟨1,0,gl⟩ := by intro he; injection he with h1 _ _; omega
    rw [en_ne n1,en_ne n1]
   ·try simp only [go_sem,qW]
    try rfl
   ·simp only [go_sem,qW,j1]
   ·simp only [go_sem,qW,j2]
   ·simp only [go_sem,qW,j16]
   ·exact mA.keep fun t g ht => by simp at ht; subst ht; simp only [go_sem,qW]; try rfl
   ·simp only [go_sem,qW,e6]
   ·intro g; simp only [go_sem,qW,e103]
   ·rw [hps,← hL1]; simp only [go_sem,qW,j13]
theorem mine_fzK {en : En} {v : Val} {size t : Nat} {xs : List Val} (h : Mine en v size xs [t]) (hx : xs ≠ []) (n : Nat) : ∃ ks,∀ en' : En,(∀ g,en' ⟨0,t,g⟩ = en ⟨0,t,g⟩) → snapD (n + 1) en' v = some (.fz xs,ks) := by
 rcases h with ⟨_,h⟩ | ⟨t',g,f,rfl,h2,ht⟩
 ·exact absurd h hx
 ·have : t' = t := by simpa using ht
  subst this
  exact ⟨[⟨0,t',g⟩],fun en' he => by simp [snapD,he,h2]⟩
theorem begin_win (w : MWorld) (ages : List Int) (c : Int) (hw : w.few) (hs : smallWorld w = true) (hal : ages.length = w.objs.length) (har : ∀ a ∈ ages,inR a 0 2 = true) (hin : InRange w) {en : En} {cnt : Nat → Nat → Nat} {gk : Nat} {vA vM : Val}
  (e16 : en ⟨0,16,gk⟩ = some (.box [.fz (w.objs.map MObj.enc),.fz (w.tasks.map (.int .i64)),.fz (w.outs.map MOut.enc),.fz (w.ins.map (.int .i64)),.int .i64 w.used,vA,vM,.int .i64 c] false)) (mA : Mine en vA 1 (ages.map (.int .i64)) [120]) (c6 : 1 ≤ cnt 0 6) :
  WIn L (.fn F.reap_collector_begin [] []) [.ptr ⟨0,16,gk⟩ 0] en cnt fun _ en' cnt' => ∃ g13,en' ⟨0,16,gk⟩ = some (.box [.fz (w.objs.map MObj.enc),.fz (w.tasks.map (.int .i64)),.fz (w.outs.map MOut.enc),.fz (w.ins.map (.int .i64)),.int .i64 w.used,vA,.bl ⟨0,13,g13⟩ 0 w.objs.length,.int .i64 c] false) ∧ Mine en' vA 1 (ages.map (.int .i64)) [120] ∧ en' ⟨0,13,g13⟩ = some (.blk 1 ((marksB lt2 w ages c).map (.int .i64)) false) ∧ en' ⟨0,6,0⟩ = en ⟨0,6,0⟩ ∧ ∀ g,en' ⟨0,103,g⟩ = en ⟨0,103,g⟩ := by
 obtain ⟨b1,b2,b3,b4⟩ := smallW_len hs
 have hmk : w.objs.length ≤ 16777216 := by omega
 obtain ⟨en0,hen0⟩ : ∃ e,e = en := ⟨_,rfl⟩
 obtain ⟨g1,hg1⟩ : ∃ g,g = cnt 0 1 := ⟨_,rfl⟩
 obtain ⟨g13,hg13⟩ : ∃ g,g = cnt 0 13 := ⟨_,rfl⟩
 have hmb : marksB lt2 w ages c = (List.range w.objs.length).map (markB ne2 w ages c) := List.map_congr_left fun i _ => (markB_young har c i).symm
 rw [hmb]
 refine win_of LF.reap_collector_begin rfl rfl ?_
 simp only [go_sem,qC,qG,qW,C.reap_collector_begin,box_any (v := .ptr ⟨0,16,gk⟩ 0) rfl rfl,← hg1]
 refine wp_foot ?_
 simp only [go_sem,qC,qG,qW,List.all_cons,List.getElem?_cons_zero,List.getElem?_cons_succ,Bool.true_or,Bool.or_true,Option.getD_some,mk_nat hmk,← hg1,← hg13,e16,one_bl,cells_bl]
 have hmz := marksTo_zero (markB ne2 w ages c) w.objs.length
 refine wp_for w.objs.length (fun k st => ∃ fr en cnt,st = ⟨fr,en,cnt⟩ ∧ fr 1 = .ptr ⟨0,1,g1⟩ 0 ∧ en ⟨0,1,g1⟩ = some (.box [.ptr ⟨0,16,gk⟩ 0] false) ∧ en ⟨0,16,gk⟩ = some (.box [.fz (w.objs.map MObj.enc),.fz (w.tasks.map (.int .i64)),.fz (w.outs.map MOut.enc),.fz (w.ins.map (.int .i64)),.int .i64 w.used,vA,.bl ⟨0,13,g13⟩ 0 w.objs.length,.int .i64 c] false) ∧ en ⟨0,13,g13⟩ = some (.blk 1 ((marksTo (markB ne2 w ages c) w.objs.length k).map (.int .i64)) false) ∧ fr 22 = .fz (w.objs.map MObj.enc) ∧ fr 23 = .int .i64 w.objs.length ∧ fr 24 = .int .i64 k ∧ Mine en vA 1 (ages.map (.int .i64)) [120] ∧ 1 ≤ cnt 0 6 ∧ en ⟨0,6,0⟩ = en0 ⟨0,6,0⟩ ∧ ∀ g,en ⟨0,103,g⟩ = en0 ⟨0,103,g⟩) 0 (Nat.zero_le _)
  ⟨_,_,_,rfl,by simp only [go_sem,qW],by simp only [go_sem,qW],by simp only [go_sem,qW],by rw [hmz]; simp only [go_sem,qW],by simp only [go_sem,qW],by simp only [go_sem,qW],by simp only [go_sem,qW],mA.keep (fun t g ht => by simp at ht; subst ht; simp only [go_sem,qW]),by simp only [go_sem,qW]; try exact c6,by simp only [go_sem,hen0],by intro g; simp only [go_sem,qW,hen0]⟩ ?_
 clear mA e16 c6
 rintro k st hk ⟨fr,en,cnt,rfl,h1,e1,e16,e13,h22,h23,h24,mA,c6,q6,q103⟩
 simp only [go_sem,qC,qG,qW,h1,e1,e16,h22,h23,h24]
 refine condK_split (fun hq => ?_) (fun hq => ?_)
 ·have h' : k < w.objs.length := of_decide_eq_true hq
  have hka : k < ages.length := by omega
  obtain ⟨g2,hg2⟩ : ∃ g,g = cnt 0 2 := ⟨_,rfl⟩
  obtain ⟨g3,hg3⟩ : ∃ g,g = cnt 0 3 := ⟨_,rfl⟩
  have hmg := marksTo_get (m := markB ne2 w ages c) h'
  have hml := marksTo_len (markB ne2 w ages c) w.objs.length k
  have hc1 : (0 : Int) ≤ (k : Int) := by omega
  have hc2 : (k : Int) < (w.objs.length : Int) := by omega
  have hne : ages.map (Val.int .i64) ≠ [] := by intro h; have : ages.length = 0 := by { rw [← List.length_map (f := Val.int .i64),h]; rfl }; omega
  obtain ⟨ks,s1⟩ := mine_fzK mA hne 6
  have htk : ((marksTo (markB ne2 w ages c) w.objs.length k).map (Val.int .i64)).take w.objs.length = (marksTo (markB ne2 w ages c) w.objs.length k).map (.int .i64) := List.take_of_length_le (by simp [marksTo_len])
  have hfull : PC L F.reap_collector_full [.fp [.fz (w.objs.map MObj.enc),.fz (w.tasks.map (.int .i64)),.fz (w.outs.map MOut.enc),.fz (w.ins.map (.int .i64)),.int .i64 w.used,.fz (ages.map (.int .i64)),.fz ((marksTo (markB ne2 w ages c) w.objs.length k).map (.int .i64)),.int .i64 c] 0] (.bool (decide (c = 3))) := reap_full_pc ⟨w,ages,marksTo (markB ne2 w ages c) w.objs.length k,c⟩
  have hold : PC L F.reap_collector_old [.fp [.fz (w.objs.map MObj.enc),.fz (w.tasks.map (.int .i64)),.fz (w.outs.map MOut.enc),.fz (w.ins.map (.int .i64)),.int .i64 w.used,.fz (ages.map (.int .i64)),.fz ((marksTo (markB ne2 w ages c) w.objs.length k).map (.int .i64)),.int .i64 c] 0,.int .i64 k] (.bool (decide (ages[k] = 2))) := reap_old_pc ⟨w,ages,marksTo (markB ne2 w ages c) w.objs.length k,c⟩ k hka
  simp only [go_sem,qC,qG,qW,h',h1,e1,e16,h22,h23,h24,← hg2,← hg3,(reap_isTask_pc _).ret]
  refine condK_split (fun hT => ?_) (fun hT => ?_)
  ·have hmm : markB ne2 w ages c k = 1 := by rw [markB,objAt_get h',if_pos hT]
   have hset : ((marksTo (markB ne2 w ages c) w.objs.length k).map (Val.int .i64)).set k (.int .i64 1) = (marksTo (markB ne2 w ages c) w.objs.length (k + 1)).map (.int .i64) := by rw [← marksTo_set,hmm]
   simp only [go_sem,qC,qG,qW,h',h1,e1,e16,e13,h22,h23,h24,hc1,hc2,hmg,hml,true_and,and_true,eq_self,if_true,Nat.zero_add,Int.toNat_natCast,List.length_map,Nat.le_refl]
   refine ⟨_,_,_,rfl,?_⟩
   simp only [go_sem,qC,qG,qW,h',h1,e1,e16,e13,h22,h23,h24,hset,wrap_succ h' hw.objs]
   exact ⟨mA.keep (fun t g ht => by simp at ht; subst ht; simp only [go_sem,qW]),c6,q6,q103⟩
  ·have hnt : ¬ isTask (w.obj k) = true := by rw [objAt_get h',hT]; decide
   have skip : markB ne2 w ages c k = 0 → marksTo (markB ne2 w ages c) w.objs.length (k + 1) = marksTo (markB ne2 w ages c) w.objs.length k := marksTo_skip
   simp only [go_sem,qC,qG,qW,h',h1,e1,e16,e13,h22,h23,h24,s1,htk,implies_true,List.length_map,hml,Nat.le_refl,if_true,hfull.ret]
   refine guardK_split (fun gf => ?_) (fun gf => ?_)
   ·simp only [go_sem,qC,qG,qW,gf,h',h1,e1,e16,e13,h22,h23,h24,s1,htk,implies_true,List.length_map,hml,Nat.le_refl,if_true,hold.ret]
    refine condK_split (fun go => ?_) (fun go => ?_)
    ·have hp0 : partB ages [] = 2 := rfl
     have hset2 : ((marksTo (markB ne2 w ages c) w.objs.length k).map (Val.int .i64)).set k (.int .i64 2) = ((marksTo (markB ne2 w ages c) w.objs.length k).set k (partB ages [])).map (.int .i64) := by rw [hp0,List.map_set]
     simp only [go_sem,qC,qG,qW,h',h1,e1,e16,e13,h22,h23,h24,hc1,hc2,hmg,hml,hset2,true_and,and_true,eq_self,if_true,Nat.zero_add,Int.toNat_natCast,List.length_map,Nat.le_refl,(reap_refs_pc _).ret]
     refine wp_range (f := F.reap_refs_c1) (x := []) (y := [.fp [.int .i64 w.objs[k].form,.int .i64 w.objs[k].n,.fz (w.objs[k].vals.map MVal.enc),.fz (w.objs[k].frames.map MFrame.enc)] 0]) (by simp only [go_sem,qW]) ?_
     intro fr0 key hfr0 hkey
     have r1 : fr0 1 = .ptr ⟨0,1,g1⟩ 0 := by rw [hfr0]; simp only [go_sem,qW,h1]
     have r2 : fr0 2 = .ptr ⟨0,2,g2⟩ 0 := by rw [hfr0]; simp only [go_sem,qW]
     have r22 : fr0 22 = .fz (w.objs.map MObj.enc) := by rw [hfr0]; simp only [go_sem,qW,h22]
     have r23 : fr0 23 = .int .i64 w.objs.length := by rw [hfr0]; simp only [go_sem,qW,h23]
     have r24 : fr0 24 = .int .i64 k := by rw [hfr0]; simp only [go_sem,qW,h24]
     obtain ⟨gl,rfl⟩ : ∃ gl,key = ⟨1,0,gl⟩ := ⟨_,hkey⟩
     obtain ⟨c0,hc0⟩ : ∃ c0,c0 = setCnt (setCnt (setCnt cnt 0 2 (g2 + 1)) 0 3 (g3 + 1)) 1 0 (cnt 1 0 + 1) 0 := ⟨_,rfl⟩
     have hcc2 : g2 + 1 ≤ c0 2 := by rw [hc0]; simp [setCnt]
     have hcc6 : 1 ≤ c0 6 := by rw [hc0]; simpa [setCnt] using c6
     have hso := smallW_obj hs _ (List.getElem_mem h')
     have hr := old_rounds w ages c (markB ne2 w ages c) k g1 g2 g13 gk vA (refsOf w.objs[k]) en0 (fr0 := fr0) (gl := gl) (c0 := c0) h' hal r1 r2 (hin _ (List.getElem_mem h')) hcc2 hcc6
     rw [hc0] at hr
     have hfin : partB ages (refsOf w.objs[k]) = markB ne2 w ages c k := by
      rw [markB,if_neg hnt,if_pos (by rw [ageN_get hka,go,gf]; rfl),objAt_get h',partB,any_mem (refs_mem w.objs[k])]
     have hsetf : (marksTo (markB ne2 w ages c) w.objs.length k).set k (partB ages (refsOf w.objs[k])) = marksTo (markB ne2 w ages c) w.objs.length (k + 1) := by
      rw [hfin]
      have h := marksTo_set (m := markB ne2 w ages c) (n := w.objs.length) (k := k)
      rw [← List.map_set] at h
      apply List.ext_getElem
      ·simp [marksTo_len]
      ·intro i h1 h2
       have hh := congrArg (fun l => l[i]?) h
       simp only [List.getElem?_map,List.getElem?_eq_getElem h1,List.getElem?_eq_getElem h2,Option.map_some,Option.some.injEq,Val.int.injEq,true_and] at hh
       exact hh
     refine (refs_win w.objs[k] (small_few hso) hr ⟨by simp only [go_sem,qW],by simp only [go_sem,e1],by simp only [go_sem,qW],by simp only [go_sem,e16],mA.keep (fun t g ht => by simp at ht; subst ht; simp only [go_sem,qW]),by simp [setCnt],by simpa [setCnt] using c6,by simp only [go_sem,q6],by intro g; simp only [go_sem,qW,q103],[],rfl,by simp only [go_sem,qW]⟩).mono ?_
     rintro v en' cnt' (⟨i1,j1,j2,j16,mA',hg2',hg6,e6,e103,done,hd,j13⟩ | hF)
     ·rw [List.append_nil] at hd
      subst hd
      rw [hsetf] at j13
      simp only [go_sem,qC,qG,qW,i1,j1,j2,j16,r1,r2,r22,r23,r24,h1,h22,h23,h24]
      refine ⟨_,_,_,rfl,?_⟩
      simp only [go_sem,qC,qG,qW,j1,j2,j16,j13,r1,r2,r22,r23,r24,h',h1,h22,h23,h24,wrap_succ h' hw.objs]
      exact ⟨mA'.keep (fun t g ht => by simp at ht; subst ht; exact en_ne (by intro he; injection he with h1 _ _; omega)),hg6,by simp only [go_sem,e6],by intro g; simp only [go_sem,qW,e103]⟩
     ·exact hF.elim
    ·rw [skip (by rw [markB,if_neg hnt,if_neg (by rw [ageN_get hka,go,Bool.and_false]; decide)])]
     simp only [go_sem,qC,qG,qW,h',h1,e1,e16,e13,h22,h23,h24]
     refine ⟨_,_,_,rfl,?_⟩
     simp only [go_sem,qC,qG,qW,h',h1,e1,e16,e13,h22,h23,h24,wrap_succ h' hw.objs]
     exact ⟨mA.keep (fun t g ht => by simp at ht; subst ht; simp only [go_sem,qW]),c6,q6,q103⟩
   ·rw [skip (by rw [markB,if_neg hnt,if_neg (by rw [gf]; simp)])]
    simp only [go_sem,qC,qG,qW,gf,h',h1,e1,e16,e13,h22,h23,h24,Bool.not_true]
    refine ⟨_,_,_,rfl,?_⟩
    simp only [go_sem,qC,qG,qW,h',h1,e1,e16,e13,h22,h23,h24,wrap_succ h' hw.objs]
    exact ⟨mA.keep (fun t g ht => by simp at ht; subst ht; simp only [go_sem,qW]),c6,q6,q103⟩
 ·have : k = w.objs.length := by simp at hq; omega
  subst this
  rw [marksTo_full] at e13
  simp only [go_sem,qC,qG,qW]
  exact ⟨g13,e16,mA,e13,by rw [q6,hen0],fun g => by rw [q103,hen0]⟩
theorem own_win2 (s : RState) (hs : s.few) (hsm : smallState s = true) {en : En} {cnt : Nat → Nat → Nat} :
  WIn L (.fn F.reap_own [] []) [.agg [.fz (s.world.objs.map MObj.enc),.fz (s.world.tasks.map (.int .i64)),.fz (s.world.outs.map MOut.enc),.fz (s.world.ins.map (.int .i64)),.int .i64 s.world.used,.fz (s.ages.map (.int .i64)),.fz (s.marks.map (.int .i64)),.int .i64 s.cycle]] en cnt fun v en' cnt' => ∃ g16 vA vM,v = .ptr ⟨0,16,g16⟩ 0 ∧ en' ⟨0,16,g16⟩ = some (.box [.fz (s.world.objs.map MObj.enc),.fz (s.world.tasks.map (.int .i64)),.fz (s.world.outs.map MOut.enc),.fz (s.world.ins.map (.int .i64)),.int .i64 s.world.used,vA,vM,.int .i64 s.cycle] false) ∧
   MineO en' vA 1 (s.ages.map (.int .i64)) 8 ∧ MineO en' vM 1 (s.marks.map (.int .i64)) 11 ∧ (∀ t g,¬ t = 1 → ¬ t = 8 → ¬ t = 11 → ¬ t = 16 → en' ⟨0,t,g⟩ = en ⟨0,t,g⟩) ∧ (∀ t,¬ t = 1 → ¬ t = 8 → ¬ t = 11 → ¬ t = 16 → cnt' 0 t = cnt 0 t) ∧ ∀ g,vA = .bl ⟨0,8,g⟩ 0 s.ages.length → g < cnt' 0 8 := by
 have hsw : smallWorld s.world = true ∧ (s.ages.length : Int) ≤ 130 ∧ (s.marks.length : Int) ≤ 130 := by
  simp only [smallState,Bool.and_eq_true,decide_eq_true_eq] at hsm
  exact ⟨hsm.1.1,hsm.1.2,hsm.2⟩
 have c1 := Clone_int_pc (s.ages.map (.int .i64)) (headOk_ints _) (by simp; omega)
 have c2 := Clone_int_pc (s.marks.map (.int .i64)) (headOk_ints _) (by simp; omega)
 obtain ⟨g1,hg1⟩ : ∃ g,g = cnt 0 1 := ⟨_,rfl⟩
 obtain ⟨g8,hg8⟩ : ∃ g,g = cnt 0 8 := ⟨_,rfl⟩
 obtain ⟨g11,hg11⟩ : ∃ g,g = cnt 0 11 := ⟨_,rfl⟩
 obtain ⟨g16,hg16⟩ : ∃ g,g = cnt 0 16 := ⟨_,rfl⟩
 refine win_of LF.reap_own rfl rfl ?_
 simp only [go_sem,qC,qG,qW,C.reap_own,← hg1]
 refine wp_foot ?_
 rcases clone_cases 1 (s.ages.map (Val.int .i64)) with ⟨t1,t2⟩ | ⟨t1,t2⟩ <;> rw [t2] at c1 <;>
 rcases clone_cases 1 (s.marks.map (Val.int .i64)) with ⟨o1,o2⟩ | ⟨o1,o2⟩ <;> rw [o2] at c2
 all_goals simp only [go_sem,qC,qG,qW,List.all_cons,List.getElem?_cons_zero,List.getElem?_cons_succ,Bool.true_or,Bool.or_true,Bool.false_eq_true,if_false,Option.getD_some,(reap_copied_pc s.world hs.1 hsw.1).ret,c1.ret,c2.ret,← hg8,← hg11,← hg16,List.length_map,one_cl,cells_cl,one_bl,cells_bl]
 all_goals refine ⟨g16,_,_,rfl,en_eq,?_,?_,?_,?_,?_⟩
 all_goals first
  | exact .inl ⟨rfl,by assumption⟩
  | exact mineO_bl (by simp only [go_sem,qW]; try rfl) (by simp only [List.length_map])
  |(intro t g n1 n2 n3 n4; simp only [go_sem,qW,n1,n2,n3,n4])
  |(intro t n1 n2 n3 n4; simp only [go_sem,qW,n1,n2,n3,n4]; done)
  |(intro g hg; cases hg; done)
  |(intro g hg; injection hg with h3 _ _; injection h3 with _ _ h6; subst h6; first | omega | (simp [setCnt]; done) | (simp [setCnt]; omega))
def LI (s : RState) (m : List Int) (n g2 g8 gM gk : Nat) (vA : Val) (all : List Int) (en0 : En) (fr0 : Nat → Val) (gl : Nat) (r : List Int) (en : En) (cnt : Nat → Nat → Nat) : Prop :=
 en ⟨1,0,gl⟩ = some (.loop fr0 [58] (LCode.ops [o 9 (.mv (.t 58))]) (LCode.block 3 (.seq (.ops [o 59 (.load false 1 (.t 2)),o 60 (.nilck (.t 59)),o 61 (.fa 0 (.t 60)),o 62 (.fa 6 (.t 61)),o 63 (.load false 1 (.t 62)),o 64 (.mv (.t 9)),o 65 (.ia 1 (.t 63) (.t 64)),o 66 (.load false 1 (.t 65)),o 67 (.bin .eql .num (.t 66) (.c (.int .i64 0)))]) (.cond (.t 67) (.seq (.ops [o 68 (.load false 1 (.t 2)),o 69 (.nilck (.t 68)),o 70 (.fa 0 (.t 69)),o 71 (.fa 6 (.t 70)),o 72 (.load false 1 (.t 71)),o 73 (.mv (.t 9)),o 74 (.ia 1 (.t 72) (.t 73)),on (.store 1 (.t 74) (.c (.int .i64 1)))]) (.ops [o 75 (.load false 1 (.t 8)),o 76 (.mv (.t 9)),o 77 (.minmax false [(.t 75),(.t 76)]),on (.store 1 (.t 8) (.t 77))])) .skip))) .ready) ∧ en ⟨0,2,g2⟩ = some (.box [.ptr ⟨0,16,gk⟩ 0] false) ∧ en ⟨0,16,gk⟩ = some (.box [.fz (s.world.objs.map MObj.enc),.fz (s.world.tasks.map (.int .i64)),.fz (s.world.outs.map MOut.enc),.fz (s.world.ins.map (.int .i64)),.int .i64 s.world.used,vA,.bl ⟨0,11,gM⟩ 0 m.length,.int .i64 s.cycle] false) ∧ MineO en vA 1 (s.ages.map (.int .i64)) 8 ∧ g2 + 1 ≤ cnt 0 2 ∧ 1 ≤ cnt 0 6 ∧ g8 + 1 ≤ cnt 0 8 ∧ en ⟨0,6,0⟩ = en0 ⟨0,6,0⟩ ∧
 ∃ done,done ++ r = all ∧ en ⟨0,11,gM⟩ = some (.blk 1 ((lookM m n done).map (.int .i64)) false) ∧ ∃ nx : Nat,en ⟨0,8,g8⟩ = some (.box [.int .i64 nx] false) ∧ nx ≤ n + 1 ∧ ∀ i,i < nx → ¬ markN (lookM m n done) i = 1
theorem look_rounds (s : RState) (m : List Int) (n g2 g8 gM gk : Nat) (vA : Val) (all : List Int) (en0 : En) {fr0 : Nat → Val} {gl : Nat} {c0 : Nat → Nat} (hn : n < m.length) (hml : m.length ≤ 1000) (q2 : fr0 2 = .ptr ⟨0,2,g2⟩ 0) (q8 : fr0 8 = .ptr ⟨0,8,g8⟩ 0)
  (hA8 : ∀ g,vA = .bl ⟨0,8,g⟩ 0 s.ages.length → g < g8)
  (hino : ∀ x ∈ all,inR x 0 ((m.length : Int) - 1) = true) (hc2 : g2 + 1 ≤ c0 2) (hc6 : 1 ≤ c0 6) : Rounds ⟨1,0,gl⟩ c0 (LI s m n g2 g8 gM gk vA all en0 fr0 gl) (fun _ _ => False) := by
 refine ⟨?_,?_⟩
 ·rintro r en cnt en' cnt' ⟨i1,j2,j16,mA,hg2,hg6,hg8,e6,done,hd,j11,nx,j8,hnx,hgr⟩ hout hcnt hge
  have h2 := hge 2 (by decide)
  have h6 := hge 6 (by decide)
  exact ⟨(hout 1 0 gl (.inl (by omega))).trans i1,(hout 0 2 g2 (.inr (.inr (by omega)))).trans j2,(hout 0 16 gk (.inr (.inl (by decide)))).trans j16,mA.keep fun g => hout 0 8 g (.inr (.inl (by decide))),by omega,by omega,by rw [hcnt 0 8 (by decide)]; exact hg8,(hout 0 6 0 (.inr (.inr (by omega)))).trans e6,done,hd,(hout 0 11 gM (.inr (.inl (by decide)))).trans j11,nx,(hout 0 8 g8 (.inr (.inl (by decide)))).trans j8,hnx,hgr⟩
 ·rintro x rest en cnt ⟨i1,j2,j16,mA,hg2,hg6,hg8,e6,done,hd,j11,nx,j8,hnx,hgr⟩
  have hxi := hino x (by rw [← hd]; simp)
  simp only [inR,decide_eq_true_eq] at hxi
  obtain ⟨j,rfl⟩ := Int.eq_ofNat_of_zero_le hxi.1
  have hj : j < m.length := by omega
  have hjl : j < (lookM m n done).length := by rw [lookM_len]; exact hj
  have hc1 : (0 : Int) ≤ (j : Int) := by omega
  have hc2' : (j : Int) < (m.length : Int) := by omega
  have hgj := ints_get hjl
  refine win_yld (fr := fr0) (ps := [58]) (a := (LCode.ops [o 9 (.mv (.t 58))])) (b := (LCode.block 3 (.seq (.ops [o 59 (.load false 1 (.t 2)),o 60 (.nilck (.t 59)),o 61 (.fa 0 (.t 60)),o 62 (.fa 6 (.t 61)),o 63 (.load false 1 (.t 62)),o 64 (.mv (.t 9)),o 65 (.ia 1 (.t 63) (.t 64)),o 66 (.load false 1 (.t 65)),o 67 (.bin .eql .num (.t 66) (.c (.int .i64 0)))]) (.cond (.t 67) (.seq (.ops [o 68 (.load false 1 (.t 2)),o 69 (.nilck (.t 68)),o 70 (.fa 0 (.t 69)),o 71 (.fa 6 (.t 70)),o 72 (.load false 1 (.t 71)),o 73 (.mv (.t 9)),o 74 (.ia 1 (.t 72) (.t 73)),on (.store 1 (.t 74) (.c (.int .i64 1)))]) (.ops [o 75 (.load false 1 (.t 8)),o 76 (.mv (.t 9)),o 77 (.minmax false [(.t 75),(.t 76)]),on (.store 1 (.t 8) (.t 77))])) .skip)))) i1 rfl ?_
  simp only [go_sem,qC,qG,qW,q2,q8,i1,j2,j16,j11,lookM_len,hgj,hc1,hc2',true_and,and_true,eq_self,if_true,Nat.zero_add,Int.toNat_natCast,List.length_map,Nat.le_refl]
  refine condK_split (fun hb => ?_) (fun hb => ?_)
  ·have h0 : markN (lookM m n done) j = 0 := of_decide_eq_true hb
   have hst : ((lookM m n done).map (Val.int .i64)).set j (.int .i64 1) = (lookM m n (done ++ [(j : Int)])).map (.int .i64) := by rw [ints_set,lookM_set hj h0]
   have hmin : (min (nx : Int) (j : Int)) = ((min nx j : Nat) : Int) := by omega
   simp only [go_sem,qC,qG,qW,q2,q8,i1,j2,j16,j11,j8,lookM_len,hgj,hst,hc1,hc2',true_and,and_true,eq_self,if_true,Nat.zero_add,Int.toNat_natCast,List.length_map,Nat.le_refl,hmin]
   refine ⟨fun t g ht hg => ?_,fun _ _ => trivial,.inl ⟨?_,?_,?_,?_,hg2,hg6,hg8,?_,done ++ [(j : Int)],by rw [← hd]; simp,?_,min nx j,?_,by omega,fun i hi => ?_⟩⟩
   ·have n1 : (⟨0,t,g⟩ : Key) ≠ ⟨1,0,gl⟩ := by intro he; injection he with h1 _ _; omega
    have n2 : (⟨0,t,g⟩ : Key) ≠ ⟨0,11,gM⟩ := by intro he; injection he with _ h2 h3; subst h2; simp [T4] at ht
    have n3 : (⟨0,t,g⟩ : Key) ≠ ⟨0,8,g8⟩ := by intro he; injection he with _ h2 h3; subst h2; simp [T4] at ht
    rw [en_ne n1,en_ne n3,en_ne n2,en_ne n1]
   ·try simp only [go_sem,qW]
    try rfl
   ·simp only [go_sem,qW,j2]
   ·simp only [go_sem,qW,j16]
   ·rcases mA with h | ⟨g,hv,he⟩
    ·exact .inl h
    ·have hlt := hA8 g (by rw [hv,List.length_map])
     exact .inr ⟨g,hv,by rw [en_ne (by intro h; injection h with h1 _ _; omega),en_ne (by intro h; injection h with _ _ h3; omega),en_ne (by intro h; injection h with _ h2 _; omega),en_ne (by intro h; injection h with h1 _ _; omega)]; exact he⟩
   ·simp only [go_sem,qW,e6]
   ·simp only [go_sem,qW]
   ·simp only [go_sem,qW]
   ·have hij : ¬ (j : Int) = (i : Int) := by omega
    have hold := hgr i (by omega)
    by_cases hil : i < m.length
    ·rw [lookM_at hil] at hold ⊢
     rw [memB_append,decide_eq_false hij,Bool.or_false]
     exact hold
    ·rw [markN_out (by rw [lookM_len]; omega)]; decide
  ·have h0 : ¬ markN (lookM m n done) j = 0 := of_decide_eq_false hb
   have hsk := lookM_skip hj h0
   simp only [go_sem,qC,qG,qW,q2,q8,i1,j2,j16,j11]
   refine ⟨fun t g ht hg => ?_,fun _ _ => trivial,.inl ⟨?_,?_,?_,?_,hg2,hg6,hg8,?_,done ++ [(j : Int)],by rw [← hd]; simp,?_,nx,?_,hnx,by rw [hsk]; exact hgr⟩⟩
   ·have n1 : (⟨0,t,g⟩ : Key) ≠ ⟨1,0,gl⟩ := by intro he; injection he with h1 _ _; omega
    rw [en_ne n1,en_ne n1]
   ·try simp only [go_sem,qW]
    try rfl
   ·simp only [go_sem,qW,j2]
   ·simp only [go_sem,qW,j16]
   ·exact mA.keep fun g => by rw [en_ne (by intro h; injection h with h1 _ _; omega),en_ne (by intro h; injection h with h1 _ _; omega)]
   ·simp only [go_sem,qW,e6]
   ·rw [hsk]; simp only [go_sem,qW,j11]
   ·simp only [go_sem,qW,j8]
theorem mul_less {a b c d : Nat} (h : a + 1 = b) (h2 : d < c) : a * c + d < b * c := by
 subst h; rw [Nat.add_mul,Nat.one_mul]; omega
theorem apart_ownV {ws : List W} {d : Nat} {D : List Nat} (h : ∀ w ∈ ws,w.key.n = 0 ∧ (w.key.t = d ∨ w.key.t ∈ D) ∧ ∃ e,w = .ent w.key e) {t' g' : Nat} (ht : t' ≠ d ∧ t' ∉ D) : (ws.all fun w => apartWR w (.val ⟨0,t',g'⟩)) = true := by
 rw [List.all_eq_true]
 intro w hw
 obtain ⟨h1,h2,e,h3⟩ := h w hw
 rw [h3,apart_ew]
 refine decide_eq_true ?_
 intro he
 rw [he] at h2
 rcases h2 with h2 | h2
 ·exact ht.1 h2
 ·exact ht.2 h2
theorem ages_in {s : RState} {m : List Int} {n : Nat} (h : ∀ i : Nat,i < n → inR (ageAt s i) 0 2 = true) : ∀ a ∈ agesTo s m n,inR a 0 2 = true := by
 intro a ha
 obtain ⟨i,hi,rfl⟩ := List.mem_map.1 ha
 have hi := (List.mem_filter.1 hi).1
 have := h i (by simpa using hi)
 simp only [inR,decide_eq_true_eq] at this ⊢
 omega
def SlE (s : RState) (most : Nat) (g2 gk : Nat) (vA vM : Val) (en0 : En) (st : St) : Prop :=
 ∃ fr en cnt n,st = ⟨fr,en,cnt⟩ ∧ fr 2 = .ptr ⟨0,2,g2⟩ 0 ∧ en ⟨0,2,g2⟩ = some (.box [.ptr ⟨0,16,gk⟩ 0] false) ∧ fr 6 = .int .i64 (n : Nat) ∧ en ⟨0,16,gk⟩ = some (.box [.fz (s.world.objs.map MObj.enc),.fz (s.world.tasks.map (.int .i64)),.fz (s.world.outs.map MOut.enc),.fz (s.world.ins.map (.int .i64)),.int .i64 s.world.used,vA,vM,.int .i64 s.cycle] false) ∧ MineO en vA 1 (s.ages.map (.int .i64)) 8 ∧ MineO en vM 1 ((runS s.world most s.marks).map (.int .i64)) 11 ∧ 1 ≤ cnt 0 6 ∧ en ⟨0,6,0⟩ = en0 ⟨0,6,0⟩ ∧
  decide (n < (runS s.world most s.marks).length) = decide (firstG (runS s.world most s.marks) < (runS s.world most s.marks).length)
theorem slice_win (s : RState) (most : Nat) (hs : s.few) (hsm : smallWorld s.world = true) (hin : InRange s.world) (hok : MarksOk s.world s.marks) (hA : s.ages.length = s.world.objs.length) (hmost : most ≤ 200) (hcy : inR s.cycle 0 3 = true) (hAr : ∀ i : Nat,i < s.world.objs.length → inR (ageAt s i) 0 2 = true)
  (htk : ∀ t ∈ s.world.tasks,∃ i : Nat,t = i ∧ i < s.world.objs.length ∧ isTask (s.world.obj i) = true) {en : En} {cnt : Nat → Nat → Nat} {gk : Nat} {vA vM : Val} (e16 : en ⟨0,16,gk⟩ = some (.box [.fz (s.world.objs.map MObj.enc),.fz (s.world.tasks.map (.int .i64)),.fz (s.world.outs.map MOut.enc),.fz (s.world.ins.map (.int .i64)),.int .i64 s.world.used,vA,vM,.int .i64 s.cycle] false)) (mA : MineO en vA 1 (s.ages.map (.int .i64)) 8) (mM : MineO en vM 1 (s.marks.map (.int .i64)) 11) (c6 : 1 ≤ cnt 0 6) (hA8 : ∀ g,vA = .bl ⟨0,8,g⟩ 0 s.ages.length → g < cnt 0 8) :
  WIn L (.fn F.reap_collector_slice [] []) [.ptr ⟨0,16,gk⟩ 0,.int .i64 most] en cnt fun v en' cnt' => en' ⟨0,6,0⟩ = en ⟨0,6,0⟩ ∧
   ((firstG (runS s.world most s.marks) < (runS s.world most s.marks).length ∧ v = .tup [.cl [],.bool false] ∧ en' ⟨0,16,gk⟩ = some (.box [.fz (s.world.objs.map MObj.enc),.fz (s.world.tasks.map (.int .i64)),.fz (s.world.outs.map MOut.enc),.fz (s.world.ins.map (.int .i64)),.int .i64 s.world.used,vA,vM,.int .i64 s.cycle] false) ∧ MineO en' vA 1 (s.ages.map (.int .i64)) 8 ∧ MineO en' vM 1 ((runS s.world most s.marks).map (.int .i64)) 11) ∨
    (¬ firstG (runS s.world most s.marks) < (runS s.world most s.marks).length ∧ ∃ vg va g13,v = .tup [vg,.bool true] ∧ Mine en' vg 1 ((goneTo (runS s.world most s.marks) s.world.objs.length).map (.int .i64)) [103] ∧
     en' ⟨0,16,gk⟩ = some (.box [.fz ((nextS s (runS s.world most s.marks)).world.objs.map MObj.enc),.fz ((nextS s (runS s.world most s.marks)).world.tasks.map (.int .i64)),.fz ((nextS s (runS s.world most s.marks)).world.outs.map MOut.enc),.fz ((nextS s (runS s.world most s.marks)).world.ins.map (.int .i64)),.int .i64 (nextS s (runS s.world most s.marks)).world.used,va,.bl ⟨0,13,g13⟩ 0 (nextS s (runS s.world most s.marks)).world.objs.length,.int .i64 (nextS s (runS s.world most s.marks)).cycle] false) ∧
     Mine en' va 1 ((nextS s (runS s.world most s.marks)).ages.map (.int .i64)) [120] ∧ en' ⟨0,13,g13⟩ = some (.blk 1 ((nextS s (runS s.world most s.marks)).marks.map (.int .i64)) false))) := by
 obtain ⟨b1,b2,b3,b4⟩ := smallW_len hsm
 have hml := hok.len
 obtain ⟨en0,hen0⟩ : ∃ e,e = en := ⟨_,rfl⟩
 obtain ⟨g2,hg2⟩ : ∃ g,g = cnt 0 2 := ⟨_,rfl⟩
 refine win_of LF.reap_collector_slice rfl rfl ?_
 simp only [go_sem,qC,qG,qW,C.reap_collector_slice,box_any (v := .ptr ⟨0,16,gk⟩ 0) rfl rfl,← hg2]
 refine Go.Abs.wp_mono (L := L) _ (Q := fun e st => e = .exit 0 ∧ SlE s most g2 gk vA vM en0 st) ?_ ?_
 ·refine Go.Abs.wp_loop (fun (x : Nat × Nat × List Int) (st : Go.Abs.St) => ∃ fr en cnt,st = ⟨fr,en,cnt⟩ ∧ fr 1 = .int .i64 most ∧ fr 2 = .ptr ⟨0,2,g2⟩ 0 ∧ en ⟨0,2,g2⟩ = some (.box [.ptr ⟨0,16,gk⟩ 0] false) ∧ fr 6 = .int .i64 (x.1 : Nat) ∧ fr 7 = .int .i64 (x.2.1 : Nat) ∧ en ⟨0,16,gk⟩ = some (.box [.fz (s.world.objs.map MObj.enc),.fz (s.world.tasks.map (.int .i64)),.fz (s.world.outs.map MOut.enc),.fz (s.world.ins.map (.int .i64)),.int .i64 s.world.used,vA,vM,.int .i64 s.cycle] false) ∧ MineO en vA 1 (s.ages.map (.int .i64)) 8 ∧ (∀ g,vA = .bl ⟨0,8,g⟩ 0 s.ages.length → g < cnt 0 8) ∧ MineO en vM 1 (x.2.2.map (.int .i64)) 11 ∧
    g2 + 1 ≤ cnt 0 2 ∧ 1 ≤ cnt 0 6 ∧ en ⟨0,6,0⟩ = en0 ⟨0,6,0⟩ ∧ MarksOk s.world x.2.2 ∧ x.1 ≤ x.2.2.length ∧ x.2.1 ≤ most ∧ (∀ i,i < x.1 → ¬ markN x.2.2 i = 1) ∧ runS s.world (most - x.2.1) x.2.2 = runS s.world most s.marks)
   (fun x => notBlack x.2.2 * (x.2.2.length + 1) + (x.2.2.length - x.1)) (0,0,s.marks)
   ⟨_,_,_,rfl,by simp only [go_sem,qW],by simp only [go_sem,qW],by simp only [go_sem,qW],by simp only [go_sem,qW]; try rfl,by simp only [go_sem,qW]; try rfl,by simp only [go_sem,e16],mA.keep (fun g => by simp only [go_sem,qW]),by simp only [go_sem,qW]; exact hA8,mM.keep (fun g => by simp only [go_sem,qW]),by simp only [go_sem,qW]; try exact Nat.le_refl _,by simp only [go_sem,qW]; try exact c6,by simp only [go_sem,hen0],hok,Nat.zero_le _,Nat.zero_le _,fun i hi => by omega,rfl⟩ ?_
  clear e16 mA mM c6 hA8
  rintro ⟨n,lk,m⟩ st ⟨fr,en,cnt,rfl,h1,h2,e2,h6,h7,e16,mA,hA8,mM,c2,c6,q6,hm,hnl,hlk,hng,hrun⟩
  dsimp only at h6 h7 mM hm hnl hlk hng hrun ⊢
  have hlm : m.length = s.world.objs.length := hm.len
  have hlM := mM.mine.len
  rw [List.length_map] at hlM
  have hfl : Few m.length := by unfold Few; omega
  simp only [go_sem,qC,qG,qW,h1,h2,e2,h6,h7,e16,hlM]
  refine condK_split (fun g1 => ?_) (fun g1 => ?_)
  ·have hn : n < m.length := of_decide_eq_true g1
   rcases mM with ⟨_,hx⟩ | ⟨gM,rfl,eb⟩
   ·have : m.length = 0 := by rw [← List.length_map (f := Val.int .i64),hx]; rfl
    omega
   rw [List.length_map] at e16 hlM
   have hc1 : (0 : Int) ≤ (n : Int) := by omega
   have hc2 : (n : Int) < (m.length : Int) := by omega
   have hgn := ints_get hn
   simp only [go_sem,qC,qG,qW,h1,h2,e2,h6,h7,e16,hlM,eb,hgn,hc1,hc2,true_and,and_true,eq_self,if_true,Nat.zero_add,Int.toNat_natCast,List.length_map,Nat.le_refl]
   refine condK_split (fun g3 => ?_) (fun g3 => ?_)
   ·have hne : ¬ markN m n = 1 := by simpa using g3
    simp only [go_sem,qC,qG,qW,h1,h2,e2,h6,h7,e16]
    refine ⟨(n + 1,lk,m),⟨_,_,_,rfl,by simp only [go_sem,h1],by simp only [go_sem,h2],by simp only [go_sem,e2],by simp only [go_sem,wrap_succ hn hfl],by simp only [go_sem,h7],by simp only [go_sem,e16],mA,hA8,mineO_bl eb (by simp),c2,c6,q6,hm,by dsimp only; omega,hlk,fun i hi => ?_,hrun⟩,?_⟩
    ·by_cases hin' : i < n
     ·exact hng i hin'
     ·have : i = n := by dsimp only at hi; omega
      subst this; exact hne
    ·dsimp only; omega
   ·have h1n : markN m n = 1 := by simpa using g3
    have hfg : firstG m = n := firstG_eq hn h1n hng
    simp only [go_sem,qC,qG,qW,h1,h2,e2,h6,h7,e16]
    refine condK_split (fun g4 => ?_) (fun g4 => ?_)
    ·have hl : lk = most := by simp at g4; omega
     subst hl
     rw [Nat.sub_self] at hrun
     have hrun' : m = runS s.world lk s.marks := hrun
     simp only [go_sem,qC,qG,qW]
     exact ⟨_,_,_,n,rfl,by simp only [go_sem,h2],by simp only [go_sem,e2],by simp only [go_sem,h6],by simp only [go_sem,e16],mA,by rw [← hrun']; exact mineO_bl eb (by simp),c6,q6,by rw [← hrun',hfg]⟩
    ·have hl : lk < most := by simp at g4; omega
     obtain ⟨g8,hg8⟩ : ∃ g,g = cnt 0 8 := ⟨_,rfl⟩
     have hnw : n < s.world.objs.length := by omega
     have hso := smallW_obj hsm _ (List.getElem_mem hnw)
     have hst : (m.map (Val.int .i64)).set n (.int .i64 2) = (lookM m n []).map (.int .i64) := by rw [ints_set,lookM_nil hn]
     have hfm : Few most := by unfold Few; omega
     have hon : s.world.obj n = s.world.objs[n] := objAt_get hnw
     simp only [go_sem,qC,qG,qW,h1,h2,e2,h6,h7,e16,hlM,eb,hgn,hst,hc1,hc2,hnw,true_and,and_true,eq_self,if_true,Nat.zero_add,Int.toNat_natCast,List.length_map,Nat.le_refl,wrap_succ hl hfm,wrap_succ hn hfl,← hg8,(reap_refs_pc _).ret]
     refine wp_range (f := F.reap_refs_c1) (x := []) (y := [.fp [.int .i64 s.world.objs[n].form,.int .i64 s.world.objs[n].n,.fz (s.world.objs[n].vals.map MVal.enc),.fz (s.world.objs[n].frames.map MFrame.enc)] 0]) (by simp only [go_sem,qW]) ?_
     intro fr0 key hfr0 hkey
     have r1 : fr0 1 = .int .i64 most := by rw [hfr0]; simp only [go_sem,qW,h1]
     have r2 : fr0 2 = .ptr ⟨0,2,g2⟩ 0 := by rw [hfr0]; simp only [go_sem,qW,h2]
     have r7 : fr0 7 = .int .i64 (lk + 1 : Nat) := by rw [hfr0]; simp only [go_sem,qW]
     have r8 : fr0 8 = .ptr ⟨0,8,g8⟩ 0 := by rw [hfr0]; simp only [go_sem,qW]
     obtain ⟨gl,rfl⟩ : ∃ gl,key = ⟨1,0,gl⟩ := ⟨_,hkey⟩
     obtain ⟨c0,hc0⟩ : ∃ c0,c0 = setCnt (setCnt cnt 0 8 (g8 + 1)) 1 0 (cnt 1 0 + 1) 0 := ⟨_,rfl⟩
     have hcc2 : g2 + 1 ≤ c0 2 := by rw [hc0]; simpa [setCnt] using c2
     have hcc6 : 1 ≤ c0 6 := by rw [hc0]; simpa [setCnt] using c6
     have hinm : ∀ x ∈ refsOf s.world.objs[n],inR x 0 ((m.length : Int) - 1) = true := by rw [hlm]; exact hin _ (List.getElem_mem hnw)
     have hA8' : ∀ g,vA = .bl ⟨0,8,g⟩ 0 s.ages.length → g < g8 := by rw [hg8]; exact hA8
     have hr := look_rounds s m n g2 g8 gM gk vA (refsOf s.world.objs[n]) en0 (fr0 := fr0) (gl := gl) (c0 := c0) hn (by omega) r2 r8 hA8' hinm hcc2 hcc6
     rw [hc0] at hr
     refine (refs_win s.world.objs[n] (small_few hso) hr ⟨by simp only [go_sem,qW],by simp only [go_sem,e2],by simp only [go_sem,e16],?_,by simpa [setCnt] using c2,by simpa [setCnt] using c6,by simp [setCnt],by simp only [go_sem,q6],[],rfl,by simp only [go_sem,qW],n + 1,by simp only [go_sem,qW],Nat.le_refl _,fun i hi => ?_⟩).mono ?_
     ·rcases mA with h | ⟨g,hv,he⟩
      ·exact .inl h
      ·have hlt := hA8' g (by rw [hv,List.length_map])
       exact .inr ⟨g,hv,by simp only [go_sem,Nat.ne_of_lt hlt,he]⟩
     ·by_cases hil : i < m.length
      ·rw [lookM_at hil]
       by_cases hin' : i = n
       ·rw [if_pos hin']; decide
       ·rw [if_neg hin',if_neg (by simp [memB])]
        exact hng i (by omega)
      ·rw [markN_out (by rw [lookM_len]; omega)]; decide
     ·rintro v en' cnt' (⟨i1,j2,j16,mA',hg2',hg6',hg8',e6',done,hd,j11,nx,j8,hnx,hgr⟩ | hF)
      ·rw [List.append_nil] at hd
       subst hd
       have hla : lookM m n (refsOf s.world.objs[n]) = lookedAt s.world m n := by rw [lookedAt,hon]
       rw [hla] at j11 hgr
       have hll : (lookedAt s.world m n).length = m.length := by rw [lookedAt,lookM_len]
       have hnb := notBlack_look (seen := refsOf (s.world.obj n)) hn h1n
       rw [← lookedAt] at hnb
       simp only [go_sem,qC,qG,qW,i1,j2,j16,j8,r1,r2,r7,r8,h1,h2]
       refine ⟨(nx,lk + 1,lookedAt s.world m n),⟨_,_,_,rfl,by simp only [go_sem,r1,h1],by simp only [go_sem,r2,h2],by simp only [go_sem,j2],by simp only [go_sem,qW],by simp only [go_sem,r7],by simp only [go_sem,j16],mA'.keep (fun g => en_ne (by intro h; injection h with h1 _ _; omega)),fun g hv => by have := hA8' g hv; omega,?_,hg2',hg6',by simp only [go_sem,e6'],marks_look hin hm n,by dsimp only; omega,by dsimp only; omega,hgr,?_⟩,?_⟩
       ·exact mineO_bl (by simp only [go_sem,j11]) (by simp [hll])
       ·dsimp only
        have e1 : most - lk = (most - (lk + 1)) + 1 := by omega
        rw [e1,runS,hfg,if_pos hn] at hrun
        exact hrun
       ·dsimp only
        rw [hll]
        have h3 := mul_less (c := m.length + 1) (d := m.length - nx) hnb (by omega)
        omega
      ·exact hF.elim
  ·have hn : n = m.length := by simp at g1; omega
   have hnone : firstG m = m.length := firstG_none (by rw [← hn]; exact hng)
   rw [runS_none (by omega)] at hrun
   simp only [go_sem,qC,qG,qW]
   exact ⟨_,_,_,n,rfl,by simp only [go_sem,h2],by simp only [go_sem,e2],by simp only [go_sem,h6],by simp only [go_sem,e16],mA,by rw [← hrun]; exact mM,c6,q6,by rw [← hrun,hnone,hn]⟩
 ·rintro e st ⟨rfl,fr,en,cnt,n,rfl,h2,e2,h6,e16,mA,mM,c6,q6,hdec⟩
  obtain ⟨M,hM⟩ : ∃ M,M = runS s.world most s.marks := ⟨_,rfl⟩
  rw [← hM] at mM hdec ⊢
  have hMok : MarksOk s.world M := by rw [hM]; exact marks_run hin most hok
  have hMl : M.length = s.world.objs.length := hMok.len
  have hlM := mM.mine.len
  rw [List.length_map] at hlM
  simp only [go_sem,qC,qG,qW,h2,e2,h6,e16,hlM,hdec]
  refine condK_split (fun g1 => ?_) (fun g1 => ?_)
  ·have hfg : firstG M < M.length := of_decide_eq_true g1
   simp only [go_sem,qC,qG,qW,h2,e2,h6,e16]
   exact ⟨by rw [q6,hen0],.inl ⟨hfg,mA,mM⟩⟩
  ·have hfg : ¬ firstG M < M.length := of_decide_eq_false g1
   simp only [go_sem,qC,qG,qW,h2,e2,h6,e16,hlM]
   refine wp_for M.length (fun k st => ∃ fr en cnt vg vk va,st = ⟨fr,en,cnt⟩ ∧ fr 2 = .ptr ⟨0,2,g2⟩ 0 ∧ en ⟨0,2,g2⟩ = some (.box [.ptr ⟨0,16,gk⟩ 0] false) ∧ en ⟨0,16,gk⟩ = some (.box [.fz (s.world.objs.map MObj.enc),.fz (s.world.tasks.map (.int .i64)),.fz (s.world.outs.map MOut.enc),.fz (s.world.ins.map (.int .i64)),.int .i64 s.world.used,vA,vM,.int .i64 s.cycle] false) ∧ MineO en vA 1 (s.ages.map (.int .i64)) 8 ∧ MineO en vM 1 (M.map (.int .i64)) 11 ∧ 1 ≤ cnt 0 6 ∧ en ⟨0,6,0⟩ = en0 ⟨0,6,0⟩ ∧ fr 10 = vg ∧ fr 11 = vk ∧ fr 12 = va ∧ fr 91 = vM ∧ fr 92 = .int .i64 M.length ∧ fr 93 = .int .i64 k ∧
    Mine en vg 1 ((goneTo M k).map (.int .i64)) [103] ∧ Mine en vk 1 ((keepTo M k).map (.int .i64)) [107] ∧ Mine en va 1 ((agesTo s M k).map (.int .i64)) [120]) 0 (Nat.zero_le _)
    ⟨_,_,_,.cl [],.cl [],.cl [],rfl,by simp only [go_sem,h2],by simp only [go_sem,e2],by simp only [go_sem,e16],mA,mM,c6,q6,by simp only [go_sem,qW],by simp only [go_sem,qW],by simp only [go_sem,qW],by simp only [go_sem,qW],by simp only [go_sem,qW],by simp only [go_sem,qW],Mine.nil _ _,Mine.nil _ _,Mine.nil _ _⟩ ?_
   clear h2 e2 h6 e16 mA mM c6 q6 hdec
   rintro k st hk ⟨fr,en,cnt,vg,vk,va,rfl,h2,e2,e16,mA,mM,c6,q6,h10,h11,h12,h91,h92,h93,mg,mk,ma⟩
   simp only [go_sem,qC,qG,qW,h2,e2,e16,h10,h11,h12,h91,h92,h93]
   refine condK_split (fun hq => ?_) (fun hq => ?_)
   ·have h' : k < M.length := of_decide_eq_true hq
    have h'w : k < s.world.objs.length := by omega
    have hka : k < s.ages.length := by omega
    have har := hAr k h'w
    simp only [inR,decide_eq_true_eq,ageAt_get hka] at har
    have hwa : IntKind.i64.wrap (s.ages[k] + 1) = s.ages[k] + 1 := wrap_in (by omega)
    have hgk := ints_get h'
    have hga : (s.ages.map (Val.int .i64))[k]? = some (.int .i64 s.ages[k]) := by simp [hka]
    have hfM : Few M.length := by unfold Few; omega
    have hc1 : (0 : Int) ≤ (k : Int) := by omega
    have hc2 : (k : Int) < (M.length : Int) := by omega
    have hc3 : (k : Int) < (s.ages.length : Int) := by omega
    rcases mM with ⟨_,hx⟩ | ⟨gM,rfl,eb⟩
    ·have : M.length = 0 := by rw [← List.length_map (f := Val.int .i64),hx]; rfl
     omega
    rcases mA with ⟨_,hx⟩ | ⟨ga,rfl,ea⟩
    ·have : s.ages.length = 0 := by rw [← List.length_map (f := Val.int .i64),hx]; rfl
     omega
    rw [List.length_map] at h91
    simp only [List.length_map] at e16
    simp only [go_sem,qC,qG,qW,h2,e2,e16,h10,h11,h12,h91,h92,h93,eb,hgk,hc1,hc2,true_and,and_true,eq_self,if_true,Nat.zero_add,Int.toNat_natCast,List.length_map,Nat.le_refl]
    refine condK_split (fun g2' => ?_) (fun g2' => ?_)
    ·have hm0 : markN M k = 0 := of_decide_eq_true g2'
     simp only [go_sem,qC,qG,qW,h2,e2,e16,h10,h11,h12,h91,h92,h93]
     refine w_append (D := [103]) (xs := (goneTo M k).map (.int .i64)) (ys := [.int .i64 k]) (rs := []) ?_ ?_ ?_ ?_ ?_
     ·simp only [go_sem,qW]; exact mg
     ·simp only [go_sem,qW]
     ·rfl
     ·have := gone_len M k; simp; omega
     ·intro v' en' cnt' hown hen hcnt
      have k2 : en' ⟨0,2,g2⟩ = some (.box [.ptr ⟨0,16,gk⟩ 0] false) := by rw [hen 0 2 g2 (.inr ⟨by decide,by simp⟩)]; exact e2
      have k16 := (hen 0 16 gk (.inr ⟨by decide,by simp⟩)).trans e16
      have kb := (hen 0 11 gM (.inr ⟨by decide,by simp⟩)).trans eb
      have ka := (hen 0 8 ga (.inr ⟨by decide,by simp⟩)).trans ea
      simp only [go_sem,qC,qG,qW,h2,h11,h12,h91,h92,h93]
      refine ⟨h',_,_,_,v',vk,va,rfl,?_⟩
      simp only [go_sem,qC,qG,qW,h2,k2,h11,h12,h91,h92,h93,wrap_succ h' hfM]
      refine ⟨k16,mineO_bl ka (by simp),mineO_bl kb (by simp),by rw [hcnt 0 6 (by decide)]; exact c6,(hen 0 6 0 (.inr ⟨by decide,by simp⟩)).trans q6,?_,?_,?_⟩
      ·rw [gone_t hm0,List.map_append]
       exact Mine.sub (D := [103,103]) hown (by simp)
      ·rw [keep_f hm0]
       exact mk.keep fun t g ht => by rw [hen 0 t g (.inr (by simp at ht; subst ht; decide))]
      ·rw [ages_f hm0]
       exact ma.keep fun t g ht => by rw [hen 0 t g (.inr (by simp at ht; subst ht; decide))]
    ·have hm0 : ¬ markN M k = 0 := of_decide_eq_false g2'
     simp only [go_sem,qC,qG,qW,h2,e2,e16,h10,h11,h12,h91,h92,h93]
     refine wp_foot ?_
     simp only [go_sem,qC,qG,qW,h2,e2,e16,h10,h11,h12,h91,h92,h93,List.all_cons,List.getElem?_cons_zero,List.getElem?_cons_succ,Bool.true_or,Bool.or_true,Bool.false_eq_true,if_false]
     refine wf_append (D := [107]) (xs := (keepTo M k).map (.int .i64)) (ys := [.int .i64 k]) (rs := []) ?_ ?_ ?_ rfl ?_ ?_
     ·simp only [go_sem,qW]; exact mk
     ·simp only [go_sem,qW]
     ·rfl
     ·have := keepTo_len M k; simp; omega
     ·intro v1 en1 cnt1 r1 own1 hen1 hcnt1 hw1 hr1 hm1
      have k2 : en1 ⟨0,2,g2⟩ = some (.box [.ptr ⟨0,16,gk⟩ 0] false) := by rw [hen1 0 2 g2 (.inr ⟨by decide,by simp⟩)]; exact e2
      have k16 := (hen1 0 16 gk (.inr ⟨by decide,by simp⟩)).trans e16
      have kb := (hen1 0 11 gM (.inr ⟨by decide,by simp⟩)).trans eb
      have ka := (hen1 0 8 ga (.inr ⟨by decide,by simp⟩)).trans ea
      simp only [go_sem,qC,qG,qW,h2,k2,k16,ka,h10,h12,h91,h92,h93,hga,hc1,hc3,hwa,true_and,and_true,eq_self,if_true,Nat.zero_add,Int.toNat_natCast,List.length_map,Nat.le_refl,List.all_cons,List.getElem?_cons_zero,List.getElem?_cons_succ,Bool.true_or,Bool.or_true,Bool.false_eq_true,if_false]
      refine wf_append (D := [120]) (xs := (agesTo s M k).map (.int .i64)) (ys := [.int .i64 (min (s.ages[k] + 1) 2)]) (rs := []) ?_ ?_ ?_ rfl ?_ ?_
      ·simp only [go_sem,qW]; exact ma.keep fun t g ht => by rw [hen1 0 t g (.inr (by simp at ht; subst ht; decide))]
      ·simp only [go_sem,qW]
      ·rfl
      ·have := keepTo_len M k; have := agesTo_len s M k; simp; omega
      ·intro v2 en2 cnt2 r2 own2 hen2 hcnt2 hw2 hr2 hm2
       have j2 := (hen2 0 2 g2 (.inr ⟨by decide,by simp⟩)).trans k2
       have j16 := (hen2 0 16 gk (.inr ⟨by decide,by simp⟩)).trans k16
       have jb := (hen2 0 11 gM (.inr ⟨by decide,by simp⟩)).trans kb
       have ja := (hen2 0 8 ga (.inr ⟨by decide,by simp⟩)).trans ka
       have p1 := fun o n => apart_own hw1 (t' := 2) (g' := g2) ⟨by decide,by decide⟩ o n
       have p2 := fun o n => apart_own hw1 (t' := 16) (g' := gk) ⟨by decide,by decide⟩ o n
       have p3 := apart_ownV hw1 (t' := 8) (g' := ga) ⟨by decide,by decide⟩
       simp only [go_sem,qC,qG,qW,h2,j2,h10,h91,h92,h93,p1,p2,p3,hm1,hm2,all_tt,List.all_cons,List.getElem?_cons_zero,List.getElem?_cons_succ,Bool.true_or,Bool.or_true,Bool.false_eq_true,if_false]
       refine ⟨h',_,_,_,vg,v1,v2,rfl,?_⟩
       simp only [go_sem,qC,qG,qW,h2,j2,h10,h91,h92,h93,wrap_succ h' hfM]
       refine ⟨j16,mineO_bl ja (by simp),mineO_bl jb (by simp),by rw [hcnt2 0 6 (by decide),hcnt1 0 6 (by decide)]; exact c6,(hen2 0 6 0 (.inr ⟨by decide,by simp⟩)).trans ((hen1 0 6 0 (.inr ⟨by decide,by simp⟩)).trans q6),?_,?_,?_⟩
       ·rw [gone_f hm0]
        exact mg.keep fun t g ht => by rw [hen2 0 t g (.inr (by simp at ht; subst ht; decide)),hen1 0 t g (.inr (by simp at ht; subst ht; decide))]
       ·rw [keep_t hm0,List.map_append]
        refine Mine.sub (D := [107,107]) (own1.keep fun t g ht => ?_) (by simp)
        rw [hen2 0 t g (.inr (by simp at ht; subst ht; decide))]
       ·rw [ages_t hm0,ageAt_get hka,List.map_append]
        exact Mine.sub (D := [120,120]) own2 (by simp)
   ·have : k = M.length := by simp at hq; omega
    subst this
    rw [hMl] at mg mk ma
    simp only [go_sem,qC,qG,qW,h2,e2,e16,h10,h11,h12,h91,h92,h93]
    obtain ⟨hsh1,hsh2⟩ := shut_marks hMok hin hfg
    have hkl := hsh1.len
    have hal := reap_alone_pc s.world (keepTo M s.world.objs.length) hs.1 hsm (by omega) hsh1.rise hsh1.rng hsh1.refs (fun t ht => hsh2 t (htk t ht))
    have hkf : Few (keepTo M s.world.objs.length).length := by unfold Few; omega
    have hcf := compact_few hs.1 hsm hkf hsh1.rng
    have hcs := small_compact hsm hsh1
    have hci := compact_in hsh1
    have hcy' := hcy
    simp only [inR,decide_eq_true_eq] at hcy'
    have hwc : IntKind.i64.wrap (s.cycle + 1) = s.cycle + 1 := wrap_in (by omega)
    have hsv := ma.shape
    refine wp_foot ?_
    rcases mk with ⟨rfl,mkx⟩ | ⟨t1,gx,f1,rfl,ek,tk⟩
    ·rw [mkx] at hal
     simp only [go_sem,qC,qG,qW,h2,e2,e16,h10,h11,h12,hwc,hal.ret,hsv.1,hsv.2,List.all_cons,List.getElem?_cons_zero,List.getElem?_cons_succ,Bool.true_or,Bool.or_true,Bool.false_eq_true,if_false]
     refine (begin_win (compactW s.world (keepTo M s.world.objs.length)) (agesTo s M s.world.objs.length) ((s.cycle + 1).tmod 4) hcf hcs (by rw [agesTo_len]; simp [compactW]) (ages_in hAr) hci (gk := gk) (vA := va) (vM := vM) (by simp only [go_sem,qW]) (ma.keep fun t g ht => by simp at ht; subst ht; simp only [go_sem,qW]) c6).mono ?_
     rintro v en' cnt' ⟨g13,x16,xA,x13,x6,x103⟩
     try simp only [go_sem,qC,qG,qW,h10]
     refine ⟨by rw [x6]; simp only [go_sem,qW,q6,hen0],.inr ⟨hfg,vg,va,g13,rfl,mg.keep fun t g ht => ?_,x16,xA,x13⟩⟩
     simp at ht; subst ht
     rw [x103]; simp only [go_sem,qW]
    ·have : t1 = 107 := by simpa using tk
     subst this
     simp only [go_sem,qC,qG,qW,h2,e2,e16,h10,h11,h12,hwc,hal.ret,hsv.1,hsv.2,ek,List.length_map,Nat.le_refl,if_true,take_map_len,List.all_cons,List.getElem?_cons_zero,List.getElem?_cons_succ,Bool.true_or,Bool.or_true,Bool.false_eq_true,if_false]
     refine (begin_win (compactW s.world (keepTo M s.world.objs.length)) (agesTo s M s.world.objs.length) ((s.cycle + 1).tmod 4) hcf hcs (by rw [agesTo_len]; simp [compactW]) (ages_in hAr) hci (gk := gk) (vA := va) (vM := vM) (by simp only [go_sem,qW]) (ma.keep fun t g ht => by simp at ht; subst ht; simp only [go_sem,qW]) c6).mono ?_
     rintro v en' cnt' ⟨g13,x16,xA,x13,x6,x103⟩
     try simp only [go_sem,qC,qG,qW,h10]
     refine ⟨by rw [x6]; simp only [go_sem,qW,q6,hen0],.inr ⟨hfg,vg,va,g13,rfl,mg.keep fun t g ht => ?_,x16,xA,x13⟩⟩
     simp at ht; subst ht
     rw [x103]; simp only [go_sem,qW]
theorem mine_snapB {en : En} {v : Val} {size t : Nat} {xs : List Val} (h : Mine en v size xs [t]) (n : Nat) : ∃ r ks,r.wk0 = .fz xs ∧ r.wk1 = .fz xs ∧ ∀ en' : En,(∀ g,en' ⟨0,t,g⟩ = en ⟨0,t,g⟩) → snapD (n + 1) en' v = some (r,ks) := by
 rcases h with ⟨rfl,rfl⟩ | ⟨t',g,f,rfl,h2,ht⟩
 ·exact ⟨.cl [],[],rfl,rfl,fun _ _ => rfl⟩
 ·have : t' = t := by simpa using ht
  subst this
  exact ⟨.fz xs,[⟨0,t',g⟩],rfl,rfl,fun en' he => by simp [snapD,he,h2]⟩
theorem proper_pc (n : Int) : PC L F.reap_proper [.int .i64 n] (.bool (inR n 1 200)) := by
 have e : inR n 1 200 = (decide (1 ≤ n) && decide (n ≤ 200)) := by simp [inR]
 rw [e]
 refine pc_of LF.reap_proper rfl rfl ?_
 simp only [go_sem,qC,qG,qW,C.reap_proper]
 refine guardK_split (fun g => ?_) (fun g => ?_) <;> simp only [go_sem,qC,qG,qW,g,Bool.true_and,Bool.false_and,Bool.not_true]
theorem Most_pc (n : Int) : PC L F.R18_Most [.int .i64 n] (.bool (inR n 1 200)) := by
 refine pc_of LF.R18_Most rfl rfl ?_
 simp only [go_sem,qC,qG,qW,C.R18_Most,(R18_in_pc' _ _ _).ret]
theorem mark_nat (s : RState) (i : Nat) : markAt s i = markN s.marks i := by simp [markAt,markN]
theorem state_marks {p : BProg} {s : RState} (h : stateOk p s = true) : MarksOk s.world s.marks ∧ s.ages.length = s.world.objs.length ∧ inR s.cycle 0 3 = true ∧ (∀ i : Nat,i < s.world.objs.length → inR (ageAt s i) 0 2 = true) ∧ given p s.world = true := by
 simp only [stateOk,lensOk,rowsOk,Bool.and_eq_true,decide_eq_true_eq,List.all_eq_true] at h
 obtain ⟨⟨hg,⟨h1,h2⟩,h3⟩,h4⟩ := h
 have row := fun (i : Nat) (hi : i < s.world.objs.length) => h4 i (by simpa using hi)
 refine ⟨⟨h2,fun i hi => ?_,fun i hi ht h0 => ?_,fun i hi hb x hx h0 => ?_⟩,h1,h3,fun i hi => ?_,hg⟩
 ·have := (row i (by omega)).1
  simp only [rangeOk,Bool.and_eq_true] at this
  have := this.2
  rw [mark_nat] at this
  simp only [inR,decide_eq_true_eq] at this
  omega
 ·have := (row i hi).2
  simp only [rowOk,whiteBad,Bool.and_eq_true,Bool.not_eq_true',mark_nat,h0,ht] at this
  simp at this
 ·have := (row i hi).2
  simp only [rowOk,Bool.and_eq_true,List.all_eq_true] at this
  have := this.2 x ((refs_mem _ _).2 hx)
  have h0' : markAt s x = 0 := by unfold markAt; unfold markN at h0; exact h0
  simp only [refBad,mark_nat,hb,h0',decide_true,Bool.and_self,Bool.not_true] at this
  cases this
 ·have := (row i hi).1
  simp only [rangeOk,Bool.and_eq_true] at this
  exact this.1
theorem reap_Slice_pc (p : BProg) (s : RState) (most : Int) (hp : p.few) (hs : s.few) (hsp : smallProg p = true) (hss : smallState s = true) :
  PC L F.reap_Slice [.agg [.fz (p.nodes.map BNode.enc),.fz (p.funs.map (.int .i64)),.int .i64 p.main,.fz (p.cons.map BCon.enc)],.agg [.fz (s.world.objs.map MObj.enc),.fz (s.world.tasks.map (.int .i64)),.fz (s.world.outs.map MOut.enc),.fz (s.world.ins.map (.int .i64)),.int .i64 s.world.used,.fz (s.ages.map (.int .i64)),.fz (s.marks.map (.int .i64)),.int .i64 s.cycle],.int .i64 most] (if stateOk p s = true ∧ inR most 1 200 = true then .tup [.agg [.fz ((sliceS s most.toNat).world.objs.map MObj.enc),.fz ((sliceS s most.toNat).world.tasks.map (.int .i64)),.fz ((sliceS s most.toNat).world.outs.map MOut.enc),.fz ((sliceS s most.toNat).world.ins.map (.int .i64)),.int .i64 (sliceS s most.toNat).world.used,.fz ((sliceS s most.toNat).ages.map (.int .i64)),.fz ((sliceS s most.toNat).marks.map (.int .i64)),.int .i64 (sliceS s most.toNat).cycle],.fz ((sliceG s most.toNat).map (.int .i64)),.bool (sliceE s most.toNat),.int .i64 0]
   else .tup [.agg [.fz [],.fz [],.fz [],.fz [],.int .i64 0,.fz [],.fz [],.int .i64 0],.fz [],.bool false,.int .i64 2]) := by
 have hsw1 : smallWorld s.world = true := by
  simp only [smallState,Bool.and_eq_true] at hss
  exact hss.1.1
 have hck := reap_Check_pc p s hp hs hsp hsw1
 refine pc_of LF.reap_Slice rfl rfl ?_
 by_cases h1 : stateOk p s = true
 ·rw [if_pos h1] at hck
  obtain ⟨hok,hA,hcy,hAr,hg⟩ := state_marks h1
  have hin : InRange s.world := fun o ho x hx => given_in hg o ho x ((refs_mem _ _).2 hx)
  by_cases h2 : inR most 1 200 = true
  ·rw [if_pos ⟨h1,h2⟩]
   have hpr := proper_pc most
   rw [h2] at hpr
   simp only [inR,decide_eq_true_eq] at h2
   obtain ⟨k,rfl⟩ := Int.eq_ofNat_of_zero_le (show 0 ≤ most by omega)
   simp only [go_sem,qC,qG,qW,C.reap_Slice,hck.ret,hpr.ret]
   refine (own_win2 s hs hss).mono ?_
   rintro v en1 cnt1 ⟨g16,vA,vM,rfl,e16,mA,mM,hfr,hcn,hA8⟩
   have q6 := hfr 6 0 (by decide) (by decide) (by decide) (by decide)
   have c6 : 1 ≤ cnt1 0 6 := by rw [hcn 6 (by decide) (by decide) (by decide) (by decide)]; simp only [go_sem,qW]; try exact Nat.le_refl _
   have q6' : en1 ⟨0,6,0⟩ = some (.box [.cl [],.cl [],.cl [],.cl [],.int .i64 0,.cl [],.cl [],.int .i64 0] false) := by rw [q6]; simp only [go_sem,qW]
   try simp only [go_sem,qC,qG,qW]
   refine (slice_win s k hs hsw1 hin hok hA (by omega) hcy hAr (given_tasks hg).1 e16 mA mM c6 hA8).mono ?_
   rintro v en2 cnt2 ⟨x6,(⟨hfg,rfl,x16,xA,xM⟩ | ⟨hfg,vg,va,g13,rfl,xg,x16,xA,x13⟩)⟩
   ·have y6 := x6.trans q6'
    have hS : sliceS s k = ⟨s.world,s.ages,runS s.world k s.marks,s.cycle⟩ := by rw [sliceS,if_pos hfg]
    have hG : sliceG s k = [] := by rw [sliceG,if_pos hfg]
    have hE : sliceE s k = false := by rw [sliceE,decide_eq_true hfg]; rfl
    rw [Int.toNat_natCast,hS,hG,hE]
    obtain ⟨r1,k1,a1,a2,a3⟩ := mine_snapB xA.mine 5
    obtain ⟨r2,k2,d1,d2,d3⟩ := mine_snapB xM.mine 5
    simp only [go_sem,qC,qG,qW,x16,y6,a1,a2,a3,d1,d2,d3,implies_true]
   ·have y6 := x6.trans q6'
    have hS : sliceS s k = nextS s (runS s.world k s.marks) := by rw [sliceS,if_neg hfg]
    have hG : sliceG s k = goneTo (runS s.world k s.marks) s.world.objs.length := by rw [sliceG,if_neg hfg]
    have hE : sliceE s k = true := by rw [sliceE,decide_eq_false hfg]; rfl
    rw [Int.toNat_natCast,hS,hG,hE]
    obtain ⟨r1,k1,a1,a2,a3⟩ := mine_snapB xA 5
    obtain ⟨r2,k2,d1,d2,d3⟩ := mine_snapB xg 6
    have hlm : (nextS s (runS s.world k s.marks)).marks.length = (nextS s (runS s.world k s.marks)).world.objs.length := by simp [nextS,marksB]
    have htk : ((nextS s (runS s.world k s.marks)).marks.map (Val.int .i64)).take (nextS s (runS s.world k s.marks)).world.objs.length = (nextS s (runS s.world k s.marks)).marks.map (.int .i64) := List.take_of_length_le (by simp [hlm])
    simp only [go_sem,qC,qG,qW,x16,y6,x13,a1,a2,a3,d1,d2,d3,implies_true,hlm,htk,List.length_map,Nat.le_refl,if_true]
  ·rw [if_neg (fun h => h2 h.2)]
   have hpr := proper_pc most
   rw [Bool.not_eq_true] at h2
   rw [h2] at hpr
   simp only [go_sem,qC,qG,qW,C.reap_Slice,hck.ret,hpr.ret]
 ·rw [if_neg h1] at hck
  rw [if_neg (fun h => h1 h.1)]
  simp only [go_sem,qC,qG,qW,C.reap_Slice,hck.ret]
theorem next_few {s : RState} {m : List Int} (hs : s.few) (hsm : smallWorld s.world = true) (h : Shut s.world (keepTo m s.world.objs.length)) : (nextS s m).few := by
 have hl := h.len
 have h1 := hs.1.objs
 have hkf : Few (keepTo m s.world.objs.length).length := by unfold Few at *; omega
 refine ⟨compact_few hs.1 hsm hkf h.rng,?_,?_⟩
 ·simp only [nextS,agesTo_len]; exact hkf
 ·simpa [nextS,marksB,compactW] using hkf
theorem slice_few {s : RState} {most : Nat} (hs : s.few) (hsm : smallWorld s.world = true) (hin : InRange s.world) (hok : MarksOk s.world s.marks) : (sliceS s most).few := by
 unfold sliceS
 split
 ·refine ⟨hs.1,hs.2.1,?_⟩
  have := hok.len
  have h1 := hs.1.objs
  simp only [runS_len]
  unfold Few at *; omega
 ·rename_i hfg
  exact next_few hs hsm (shut_marks (marks_run hin most hok) hin hfg).1
end Go.Proofs.YthpmfghgoabnhaaGreat
