/- Contracts of functions of the program and of the document: part 3. -/
import Derived.Test.YthpmfghgoabnhaaGreatM2
set_option linter.all false
namespace Go.Proofs.YthpmfghgoabnhaaGreat
open Go.Abs Go.Proofs
theorem aloneO_step {w : MWorld} {keep : List Int} {k : Nat} (h : k < keep.length) : ((keep.take (k + 1)).map fun n => movedO keep (w.obj n)) = ((keep.take k).map fun n => movedO keep (w.obj n)) ++ [movedO keep (w.obj keep[k])] := by rw [take_step h,List.map_append]; rfl
theorem small_frames {o : MObj} (h : smallObj o = true) : o.frames.length ≤ 50 ∧ o.vals.length ≤ 40 ∧ ∀ f ∈ o.frames,f.env.length ≤ 40 ∧ f.vals.length ≤ 40 := by
 obtain ⟨b1,b2,b3⟩ := small_obj h
 exact ⟨by omega,by omega,fun f hf => by have := b3 f hf; omega⟩
theorem obj_mem {w : MWorld} {i : Int} (h : inR i 0 ((w.objs.length : Int) - 1) = true) : w.obj i ∈ w.objs := by
 simp only [inR,decide_eq_true_eq] at h
 obtain ⟨j,rfl⟩ := Int.eq_ofNat_of_zero_le h.1
 have hj : j < w.objs.length := by omega
 rw [objAt_get hj]; exact List.getElem_mem _
theorem movedF_enc (keep : List Int) (f : MFrame) : (movedF keep f).enc = .agg [.int .i64 f.node,.fz ((movedL keep f.env).map MVal.enc),.fz ((movedL keep f.vals).map MVal.enc)] := rfl
theorem movedO_enc (keep : List Int) (o : MObj) : (movedO keep o).enc = .agg [.int .i64 o.form,.int .i64 o.n,.fz ((movedL keep o.vals).map MVal.enc),.fz ((o.frames.map (movedF keep)).map MFrame.enc)] := rfl
theorem R18_Compact_pc (w : MWorld) (keep : List Int) (hw : w.few) (hsm : smallWorld w = true) (hk : keep.length ≤ 140) (hin : ∀ n ∈ keep,inR n 0 ((w.objs.length : Int) - 1) = true) :
  PC L F.R18_Compact [.agg [.fz (w.objs.map MObj.enc),.fz (w.tasks.map (.int .i64)),.fz (w.outs.map MOut.enc),.fz (w.ins.map (.int .i64)),.int .i64 w.used],.fz (keep.map (.int .i64))] (.agg [.fz ((compactW w keep).objs.map MObj.enc),.fz ((compactW w keep).tasks.map (.int .i64)),.fz ((compactW w keep).outs.map MOut.enc),.fz ((compactW w keep).ins.map (.int .i64)),.int .i64 (compactW w keep).used]) := by
 obtain ⟨b1,b2,b3,b4⟩ := smallW_len hsm
 have hfk : Few keep.length := by unfold Few; omega
 refine pc_of LF.R18_Compact rfl rfl ?_
 simp only [go_sem,qC,qG,qW,C.R18_Compact]
 refine wp_for keep.length (fun k st => ∃ fr en cnt v,st = ⟨fr,en,cnt⟩ ∧ fr 1 = .fz (keep.map (.int .i64)) ∧ fr 2 = .ptr ⟨0,2,0⟩ 0 ∧ en ⟨0,2,0⟩ = some (.box [.fz (w.objs.map MObj.enc),.fz (w.tasks.map (.int .i64)),.fz (w.outs.map MOut.enc),.fz (w.ins.map (.int .i64)),.int .i64 w.used] false) ∧ fr 4 = .ptr ⟨0,4,0⟩ 0 ∧ en ⟨0,4,0⟩ = some (.box [.cl [],.cl [],.cl [],.cl [],.int .i64 0] false) ∧ fr 5 = .ptr ⟨0,5,0⟩ 0 ∧ en ⟨0,5,0⟩ = some (.box [v,.cl [],.fz (w.outs.map MOut.enc),.fz (w.ins.map (.int .i64)),.int .i64 w.used] false) ∧ fr 6 = .int .i64 k ∧
  Mine en v 4 (((keep.take k).map fun n => movedO keep (w.obj n)).map MObj.enc) [74]) 0 (Nat.zero_le _) ⟨_,_,_,.cl [],rfl,by simp only [go_sem,qW],by simp only [go_sem,qW],by simp only [go_sem,qW],by simp only [go_sem,qW],by simp only [go_sem,qW],by simp only [go_sem,qW],by simp only [go_sem,qW],by simp only [go_sem,qW],Mine.nil _ _⟩ ?_
 rintro k st hk' ⟨fr,en,cnt,v,rfl,h1,h2,e2,h4,e4,h5,e5,h6,hv⟩
 simp only [go_sem,qC,qG,qW,h1,h2,e2,h4,e4,h5,e5,h6]
 refine condK_split (fun hq => ?_) (fun hq => ?_)
 ·have h' : k < keep.length := of_decide_eq_true hq
  have hi := hin _ (List.getElem_mem h')
  obtain ⟨o,ho⟩ : ∃ o,o = w.obj keep[k] := ⟨_,rfl⟩
  have hso : smallObj o = true := by rw [ho]; exact smallW_obj hsm _ (obj_mem hi)
  obtain ⟨c1,c2,c3⟩ := small_frames hso
  have hff : Few o.frames.length := by unfold Few; omega
  obtain ⟨g7,hg7⟩ : ∃ g,g = cnt 0 7 := ⟨_,rfl⟩
  obtain ⟨g8,hg8⟩ : ∃ g,g = cnt 0 8 := ⟨_,rfl⟩
  simp only [go_sem,qC,qG,qW,h',h1,h2,e2,h4,e4,h5,e5,h6]
  refine wp_foot ?_
  simp only [go_sem,qC,qG,qW,h',h1,h2,e2,h4,e4,h5,e5,h6,ia_obj hi,← ho,← hg7,List.all_cons,List.getElem?_cons_zero,List.getElem?_cons_succ,Bool.true_or,Bool.or_true,Bool.false_eq_true,if_false]
  refine wp_foot ?_
  simp only [go_sem,qC,qG,qW,h',h1,h2,e2,h4,e4,h5,e5,h6,← hg8,(R18_moved_pc o.vals keep (by omega) hfk).ret,List.all_cons,List.getElem?_cons_zero,List.getElem?_cons_succ,Bool.true_or,Bool.or_true,Bool.false_eq_true,if_false]
  refine wp_for o.frames.length (fun j st => ∃ fr en cnt vf,st = ⟨fr,en,cnt⟩ ∧ fr 1 = .fz (keep.map (.int .i64)) ∧ fr 2 = .ptr ⟨0,2,0⟩ 0 ∧ en ⟨0,2,0⟩ = some (.box [.fz (w.objs.map MObj.enc),.fz (w.tasks.map (.int .i64)),.fz (w.outs.map MOut.enc),.fz (w.ins.map (.int .i64)),.int .i64 w.used] false) ∧ fr 4 = .ptr ⟨0,4,0⟩ 0 ∧ en ⟨0,4,0⟩ = some (.box [.cl [],.cl [],.cl [],.cl [],.int .i64 0] false) ∧ fr 5 = .ptr ⟨0,5,0⟩ 0 ∧ en ⟨0,5,0⟩ = some (.box [v,.cl [],.fz (w.outs.map MOut.enc),.fz (w.ins.map (.int .i64)),.int .i64 w.used] false) ∧ fr 6 = .int .i64 k ∧
   fr 7 = .ptr ⟨0,7,g7⟩ 0 ∧ en ⟨0,7,g7⟩ = some (.box [.int .i64 o.form,.int .i64 o.n,.fz (o.vals.map MVal.enc),.fz (o.frames.map MFrame.enc)] false) ∧ fr 8 = .ptr ⟨0,8,g8⟩ 0 ∧ en ⟨0,8,g8⟩ = some (.box [.int .i64 o.form,.int .i64 o.n,.fz ((movedL keep o.vals).map MVal.enc),vf] false) ∧ fr 9 = .int .i64 j ∧ Mine en vf 3 (((o.frames.take j).map (movedF keep)).map MFrame.enc) [68] ∧ Mine en v 4 (((keep.take k).map fun n => movedO keep (w.obj n)).map MObj.enc) [74]) 0 (Nat.zero_le _)
   ⟨_,_,_,.cl [],rfl,by simp only [go_sem,h1],by simp only [go_sem,h2],by simp only [go_sem,e2],by simp only [go_sem,h4],by simp only [go_sem,e4],by simp only [go_sem,h5],by simp only [go_sem,e5],by simp only [go_sem,h6],by simp only [go_sem,qW],by simp only [go_sem,qW],by simp only [go_sem,qW],by simp only [go_sem,qW],by simp only [go_sem,qW],Mine.nil _ _,hv.keep fun t g ht => by simp at ht; subst ht; simp only [go_sem,qW]⟩ ?_
  clear hv e2 e4 e5 h1 h2 h4 h5 h6
  rintro j st hj' ⟨fr,en,cnt,vf,rfl,h1,h2,e2,h4,e4,h5,e5,h6,h7,e7,h8,e8,h9,mf,hv⟩
  simp only [go_sem,qC,qG,qW,h1,h2,e2,h4,e4,h5,e5,h6,h7,e7,h8,e8,h9]
  refine condK_split (fun hq2 => ?_) (fun hq2 => ?_)
  ·have h2' : j < o.frames.length := of_decide_eq_true hq2
   have hfm := c3 _ (List.getElem_mem h2')
   simp only [go_sem,qC,qG,qW,h2',h1,h2,e2,h4,e4,h5,e5,h6,h7,e7,h8,e8,h9]
   refine wp_foot ?_
   simp only [go_sem,qC,qG,qW,h2',h1,h2,e2,h4,e4,h5,e5,h6,h7,e7,h8,e8,h9,(R18_moved_pc o.frames[j].env keep (by omega) hfk).ret,(R18_moved_pc o.frames[j].vals keep (by omega) hfk).ret,List.all_cons,List.getElem?_cons_zero,List.getElem?_cons_succ,Bool.true_or,Bool.or_true,Bool.false_eq_true,if_false]
   refine wf_append (D := [68]) (xs := ((o.frames.take j).map (movedF keep)).map MFrame.enc) (ys := [MFrame.enc (movedF keep o.frames[j])]) (rs := []) ?_ ?_ ?_ rfl ?_ ?_
   ·simp only [go_sem,qW]
    exact mf.keep fun t g ht => by simp at ht; subst ht; simp only [go_sem,qW]
   ·rw [movedF_enc]; simp only [go_sem,qW]
   ·rfl
   ·simp; omega
   ·intro vf' en' cnt' r hown hen hcnt _ _ _
    have k2 : en' ⟨0,2,0⟩ = some (.box [.fz (w.objs.map MObj.enc),.fz (w.tasks.map (.int .i64)),.fz (w.outs.map MOut.enc),.fz (w.ins.map (.int .i64)),.int .i64 w.used] false) := by rw [hen 0 2 0 (.inr ⟨by decide,by simp⟩)]; simp only [go_sem,qW,e2]
    have k4 : en' ⟨0,4,0⟩ = some (.box [.cl [],.cl [],.cl [],.cl [],.int .i64 0] false) := by rw [hen 0 4 0 (.inr ⟨by decide,by simp⟩)]; simp only [go_sem,qW,e4]
    have k5 : en' ⟨0,5,0⟩ = some (.box [v,.cl [],.fz (w.outs.map MOut.enc),.fz (w.ins.map (.int .i64)),.int .i64 w.used] false) := by rw [hen 0 5 0 (.inr ⟨by decide,by simp⟩)]; simp only [go_sem,qW,e5]
    have k7 : en' ⟨0,7,g7⟩ = some (.box [.int .i64 o.form,.int .i64 o.n,.fz (o.vals.map MVal.enc),.fz (o.frames.map MFrame.enc)] false) := by rw [hen 0 7 g7 (.inr ⟨by decide,by simp⟩)]; simp only [go_sem,qW,e7]
    have k8 : en' ⟨0,8,g8⟩ = some (.box [.int .i64 o.form,.int .i64 o.n,.fz ((movedL keep o.vals).map MVal.enc),vf] false) := by rw [hen 0 8 g8 (.inr ⟨by decide,by simp⟩)]; simp only [go_sem,qW,e8]
    obtain ⟨s1,s2⟩ := hown.shape
    simp only [go_sem,qC,qG,qW,h1,h2,k2,h4,k4,h5,k5,h6,h7,k7,h8,k8,h9,s1,s2,List.all_cons,List.getElem?_cons_zero,List.getElem?_cons_succ,Bool.true_or,Bool.or_true,Bool.false_eq_true,if_false]
    refine ⟨_,_,_,vf',rfl,?_⟩
    simp only [go_sem,qC,qG,qW,h1,h2,k2,h4,k4,h5,k5,h6,h7,k7,h8,k8,h9,wrap_succ h2' hff]
    refine ⟨?_,?_⟩
    ·rw [take_step h2',List.map_append,List.map_append]
     refine Mine.sub (D := [68,68]) (Mine.keep (en := en') hown ?_) (by simp)
     intro t g ht; simp at ht; subst ht; simp only [go_sem,qW]
    ·refine hv.keep fun t g ht => ?_
     simp at ht; subst ht
     simp only [go_sem,qW,hen 0 74 g (.inr ⟨by decide,by simp⟩)]
  ·have : j = o.frames.length := by simp at hq2; omega
   subst this
   rw [List.take_length] at mf
   rcases mf with ⟨rfl,mx⟩ | ⟨t,gf,f,rfl,ef,ht⟩
   ·simp only [go_sem,qC,qG,qW,h1,h2,e2,h4,e4,h5,e5,h6,h7,e7,h8,e8,h9]
    have henc : MObj.enc (movedO keep (w.obj keep[k])) = .agg [.int .i64 o.form,.int .i64 o.n,.fz ((movedL keep o.vals).map MVal.enc),.fz []] := by rw [← ho,movedO_enc]; rw [mx]
    refine w_append (D := [74]) (xs := ((keep.take k).map fun n => movedO keep (w.obj n)).map MObj.enc) (ys := [MObj.enc (movedO keep (w.obj keep[k]))]) (rs := []) ?_ ?_ ?_ ?_ ?_
    ·simp only [go_sem,qW]
     exact hv
    ·rw [henc]; simp only [go_sem,qW]
    ·rfl
    ·simp; omega
    ·intro v' en' cnt' hown hen hcnt
     have k2 : en' ⟨0,2,0⟩ = some (.box [.fz (w.objs.map MObj.enc),.fz (w.tasks.map (.int .i64)),.fz (w.outs.map MOut.enc),.fz (w.ins.map (.int .i64)),.int .i64 w.used] false) := by rw [hen 0 2 0 (.inr ⟨by decide,by simp⟩)]; simp only [go_sem,qW,e2]
     have k4 : en' ⟨0,4,0⟩ = some (.box [.cl [],.cl [],.cl [],.cl [],.int .i64 0] false) := by rw [hen 0 4 0 (.inr ⟨by decide,by simp⟩)]; simp only [go_sem,qW,e4]
     have k5 : en' ⟨0,5,0⟩ = some (.box [v,.cl [],.fz (w.outs.map MOut.enc),.fz (w.ins.map (.int .i64)),.int .i64 w.used] false) := by rw [hen 0 5 0 (.inr ⟨by decide,by simp⟩)]; simp only [go_sem,qW,e5]
     obtain ⟨s1,s2⟩ := hown.shape
     simp only [go_sem,qC,qG,qW,h1,h2,k2,h4,k4,h5,k5,h6,s1,s2]
     refine ⟨_,_,_,v',rfl,?_⟩
     simp only [go_sem,qC,qG,qW,h1,h2,k2,h4,k4,h5,k5,h6,wrap_succ h' hfk]
     rw [aloneO_step h',List.map_append]
     refine Mine.sub (D := [74,74]) (Mine.keep (en := en') hown ?_) (by simp)
     intro t g ht; simp at ht; subst ht; simp only [go_sem,qW]
   ·have ht' : t = 68 := by simpa using ht
    subst ht'
    simp only [go_sem,qC,qG,qW,h1,h2,e2,h4,e4,h5,e5,h6,h7,e7,h8,e8,h9,ef,List.length_map,Nat.le_refl,if_true]
    have henc : MObj.enc (movedO keep (w.obj keep[k])) = .agg [.int .i64 o.form,.int .i64 o.n,.fz ((movedL keep o.vals).map MVal.enc),.fz ((o.frames.map (movedF keep)).map MFrame.enc)] := by rw [← ho,movedO_enc]
    have htk : ((o.frames.map (movedF keep)).map MFrame.enc).take o.frames.length = (o.frames.map (movedF keep)).map MFrame.enc := List.take_of_length_le (by simp)
    refine w_append (D := [74]) (xs := ((keep.take k).map fun n => movedO keep (w.obj n)).map MObj.enc) (ys := [MObj.enc (movedO keep (w.obj keep[k]))]) (rs := []) ?_ ?_ ?_ ?_ ?_
    ·simp only [go_sem,qW]
     exact hv.keep fun t g ht => by simp at ht; subst ht; simp only [go_sem,qW]
    ·rw [henc]; simp only [go_sem,qW,htk]
    ·rfl
    ·simp; omega
    ·intro v' en' cnt' hown hen hcnt
     have k2 : en' ⟨0,2,0⟩ = some (.box [.fz (w.objs.map MObj.enc),.fz (w.tasks.map (.int .i64)),.fz (w.outs.map MOut.enc),.fz (w.ins.map (.int .i64)),.int .i64 w.used] false) := by rw [hen 0 2 0 (.inr ⟨by decide,by simp⟩)]; simp only [go_sem,qW,e2]
     have k4 : en' ⟨0,4,0⟩ = some (.box [.cl [],.cl [],.cl [],.cl [],.int .i64 0] false) := by rw [hen 0 4 0 (.inr ⟨by decide,by simp⟩)]; simp only [go_sem,qW,e4]
     have k5 : en' ⟨0,5,0⟩ = some (.box [v,.cl [],.fz (w.outs.map MOut.enc),.fz (w.ins.map (.int .i64)),.int .i64 w.used] false) := by rw [hen 0 5 0 (.inr ⟨by decide,by simp⟩)]; simp only [go_sem,qW,e5]
     obtain ⟨s1,s2⟩ := hown.shape
     simp only [go_sem,qC,qG,qW,h1,h2,k2,h4,k4,h5,k5,h6,s1,s2]
     refine ⟨_,_,_,v',rfl,?_⟩
     simp only [go_sem,qC,qG,qW,h1,h2,k2,h4,k4,h5,k5,h6,wrap_succ h' hfk]
     rw [aloneO_step h',List.map_append]
     refine Mine.sub (D := [74,74]) (Mine.keep (en := en') hown ?_) (by simp)
     intro t g ht; simp at ht; subst ht; simp only [go_sem,qW]
 ·have : k = keep.length := by simp at hq; omega
  subst this
  rw [List.take_length] at hv
  simp only [go_sem,qC,qG,qW,h1,h2,e2,h4,e4,h5,e5,h6]
  refine wp_for w.tasks.length (fun j st => ∃ fr en cnt vt,st = ⟨fr,en,cnt⟩ ∧ fr 1 = .fz (keep.map (.int .i64)) ∧ fr 2 = .ptr ⟨0,2,0⟩ 0 ∧ en ⟨0,2,0⟩ = some (.box [.fz (w.objs.map MObj.enc),.fz (w.tasks.map (.int .i64)),.fz (w.outs.map MOut.enc),.fz (w.ins.map (.int .i64)),.int .i64 w.used] false) ∧ fr 4 = .ptr ⟨0,4,0⟩ 0 ∧ en ⟨0,4,0⟩ = some (.box [.cl [],.cl [],.cl [],.cl [],.int .i64 0] false) ∧ fr 5 = .ptr ⟨0,5,0⟩ 0 ∧ en ⟨0,5,0⟩ = some (.box [v,vt,.fz (w.outs.map MOut.enc),.fz (w.ins.map (.int .i64)),.int .i64 w.used] false) ∧ fr 11 = .int .i64 j ∧
   Mine en v 4 ((keep.map fun n => movedO keep (w.obj n)).map MObj.enc) [74] ∧ Mine en vt 1 (((w.tasks.take j).map fun t => (keep.idxOf t : Int)).map (.int .i64)) [93]) 0 (Nat.zero_le _)
   ⟨_,_,_,.cl [],rfl,by simp only [go_sem,h1],by simp only [go_sem,h2],by simp only [go_sem,e2],by simp only [go_sem,h4],by simp only [go_sem,e4],by simp only [go_sem,h5],by simp only [go_sem,e5],by simp only [go_sem,qW],hv,Mine.nil _ _⟩ ?_
  clear hv e2 e4 e5 h1 h2 h4 h5 h6
  rintro j st hj' ⟨fr,en,cnt,vt,rfl,h1,h2,e2,h4,e4,h5,e5,h11,hv,mt⟩
  simp only [go_sem,qC,qG,qW,h1,h2,e2,h4,e4,h5,e5,h11]
  refine condK_split (fun hq2 => ?_) (fun hq2 => ?_)
  ·have h2' : j < w.tasks.length := of_decide_eq_true hq2
   simp only [go_sem,qC,qG,qW,h2',h1,h2,e2,h4,e4,h5,e5,h11]
   refine wp_foot ?_
   simp only [go_sem,qC,qG,qW,h2',h1,h2,e2,h4,e4,h5,e5,h11,(R18_index_pc keep w.tasks[j] hfk).ret,List.all_cons,List.getElem?_cons_zero,List.getElem?_cons_succ,Bool.true_or,Bool.or_true,Bool.false_eq_true,if_false]
   refine wf_append (D := [93]) (xs := ((w.tasks.take j).map fun t => (keep.idxOf t : Int)).map (.int .i64)) (ys := [.int .i64 (keep.idxOf w.tasks[j] : Nat)]) (rs := []) ?_ ?_ ?_ rfl ?_ ?_
   ·simp only [go_sem,qW]
    exact mt
   ·simp only [go_sem,qW]
   ·rfl
   ·simp; omega
   ·intro vt' en' cnt' r hown hen hcnt _ _ _
    have k2 : en' ⟨0,2,0⟩ = some (.box [.fz (w.objs.map MObj.enc),.fz (w.tasks.map (.int .i64)),.fz (w.outs.map MOut.enc),.fz (w.ins.map (.int .i64)),.int .i64 w.used] false) := by rw [hen 0 2 0 (.inr ⟨by decide,by simp⟩)]; simp only [go_sem,qW,e2]
    have k4 : en' ⟨0,4,0⟩ = some (.box [.cl [],.cl [],.cl [],.cl [],.int .i64 0] false) := by rw [hen 0 4 0 (.inr ⟨by decide,by simp⟩)]; simp only [go_sem,qW,e4]
    have k5 : en' ⟨0,5,0⟩ = some (.box [v,vt,.fz (w.outs.map MOut.enc),.fz (w.ins.map (.int .i64)),.int .i64 w.used] false) := by rw [hen 0 5 0 (.inr ⟨by decide,by simp⟩)]; simp only [go_sem,qW,e5]
    obtain ⟨s1,s2⟩ := hown.shape
    simp only [go_sem,qC,qG,qW,h1,h2,k2,h4,k4,h5,k5,h11,s1,s2,List.all_cons,List.getElem?_cons_zero,List.getElem?_cons_succ,Bool.true_or,Bool.or_true,Bool.false_eq_true,if_false]
    refine ⟨_,_,_,vt',rfl,?_⟩
    simp only [go_sem,qC,qG,qW,h1,h2,k2,h4,k4,h5,k5,h11,wrap_succ h2' hw.tasks]
    refine ⟨?_,?_⟩
    ·refine hv.keep fun t g ht => ?_
     simp at ht; subst ht
     simp only [go_sem,qW,hen 0 74 g (.inr ⟨by decide,by simp⟩)]
    ·rw [take_step h2',List.map_append,List.map_append]
     refine Mine.sub (D := [93,93]) (Mine.keep (en := en') hown ?_) (by simp)
     intro t g ht; simp at ht; subst ht; simp only [go_sem,qW]
  ·have : j = w.tasks.length := by simp at hq2; omega
   subst this
   rw [List.take_length] at mt
   simp only [go_sem,qC,qG,qW,h1,h2,e2,h4,e4,h5,e5,h11]
   have e' : ∀ t g,¬ t = 4 → (en.set ⟨0,4,0⟩ (some (.box [v,vt,.fz (w.outs.map MOut.enc),.fz (w.ins.map (.int .i64)),.int .i64 w.used] false))) ⟨0,t,g⟩ = en ⟨0,t,g⟩ := fun t g h => en_ne_t h
   obtain ⟨x1,ks1,a1,a2,_⟩ := (hv.keep (en' := en.set ⟨0,4,0⟩ (some (.box [v,vt,.fz (w.outs.map MOut.enc),.fz (w.ins.map (.int .i64)),.int .i64 w.used] false))) fun t g ht => e' t g (by simp at ht; omega)).snap 6
   obtain ⟨x2,ks2,d1,d2,_⟩ := (mt.keep (en' := en.set ⟨0,4,0⟩ (some (.box [v,vt,.fz (w.outs.map MOut.enc),.fz (w.ins.map (.int .i64)),.int .i64 w.used] false))) fun t g ht => e' t g (by simp at ht; omega)).snap 6
   simp only [go_sem,qC,qG,qW,a1,a2,d1,d2]
   rfl
theorem bin_fm {a b : List Val} : binVal .neq .map (.fm a b) .nilm = some (.bool true) := (rfl)
theorem frz_map {ks vs : List Val} {f : Bool} : Ent.freeze (.map ks vs f) = .map ks vs true := (rfl)
theorem put_agg {cs vs : List Val} {off : Nat} : putCells (.agg cs) off vs = .agg (setCells cs off vs) := (rfl)
attribute [go_sem] bin_fm sn_mp frz_map put_agg one_mp cells_mp
def placesV (keep : List Int) : List Val := (List.range keep.length).map fun i => .int .i64 (i : Nat)
theorem findKey_idx (n : Int) : ∀ ks : List Int,findKey .num (.int .i64 n) (ks.map (.int .i64)) = some (if n ∈ ks then some (ks.idxOf n) else none)
 | [] => rfl
 | x :: ks => by
  have he : eqVal .num (.int .i64 n) (.int .i64 x) = some (n == x) := by simp [eqVal]
  by_cases h : n = x
  ·subst h
   simp only [List.map_cons,findKey,he,beq_self_eq_true]
   simp
  ·have hb : (n == x) = false := by simpa using h
   have hb' : (x == n) = false := by simpa using fun e => h e.symm
   simp only [List.map_cons,findKey,he,hb,findKey_idx n ks,List.mem_cons,h,false_or,List.idxOf_cons,hb']
   by_cases hm : n ∈ ks
   ·simp [hm]
   ·simp [hm]
theorem look_to {keep : List Int} {x : Int} (h : x ∈ keep) : lookIn .num (.int .i64 0) false (.int .i64 x) (keep.map (.int .i64)) (placesV keep) = some (.int .i64 (keep.idxOf x : Nat)) := by
 have hl : keep.idxOf x < keep.length := List.idxOf_lt_length_of_mem h
 unfold lookIn
 simp [findKey_idx,h,placesV,List.getD_eq_getElem?_getD,hl]
def midL (keep : List Int) (l : List MVal) (k : Nat) : List MVal := (l.take k).map (movedV keep) ++ l.drop k
theorem mid_zero (keep : List Int) (l : List MVal) : midL keep l 0 = l := by simp [midL]
theorem mid_full (keep : List Int) (l : List MVal) : midL keep l l.length = movedL keep l := by simp [midL,movedL]
theorem mid_len (keep : List Int) (l : List MVal) (k : Nat) : (midL keep l k).length = l.length := by simp [midL]; omega
theorem mid_get {keep : List Int} {l : List MVal} {k : Nat} (h : k < l.length) : ((midL keep l k).map MVal.enc)[k]? = some (MVal.enc l[k]) := by
 have : (midL keep l k)[k]? = some l[k] := by
  rw [midL,List.getElem?_append_right (by simp; omega),List.drop_eq_getElem_cons h]
  have : k - ((l.take k).map (movedV keep)).length = 0 := by simp; omega
  rw [this]; rfl
 rw [List.getElem?_map,this]; rfl
theorem mid_set {keep : List Int} {l : List MVal} {k : Nat} (h : k < l.length) : (midL keep l k).set k (movedV keep l[k]) = midL keep l (k + 1) := by
 have hl : ((l.take k).map (movedV keep)).length = k := by simp; omega
 have h2 : k - ((l.take k).map (movedV keep)).length = 0 := by omega
 rw [midL,midL,List.set_append_right _ _ (by omega),h2,moved_take h]
 have hd := List.drop_eq_getElem_cons h
 rw [hd,List.set_cons_zero,List.append_assoc]; rfl
theorem mid_skip {keep : List Int} {l : List MVal} {k : Nat} (h : k < l.length) (he : movedV keep l[k] = l[k]) : midL keep l (k + 1) = midL keep l k := by
 rw [← mid_set h,he]
 apply List.ext_getElem?
 intro i
 rw [List.getElem?_set]
 split
 ·rename_i e
  subst e
  rw [mid_len,if_pos h]
  have := mid_get (keep := keep) h
  rw [List.getElem?_map] at this
  cases hx : (midL keep l k)[k]? with
  | none => rw [hx] at this; cases this
  | some y =>
   rw [hx] at this
   injection this with this
   have hy : y = l[k] := by
    cases y; cases hz : l[k]; rw [hz] at this; simp only [MVal.enc] at this; injection this with this; injection this with a b; injection b with b; injection a with _ a; injection b with _ b; rw [a,b]
   rw [hy]
 ·rfl
theorem renumbered_to_c1_pc (l : List MVal) (keep : List Int) (hl : l.length ≤ 16777216) (hin : ∀ x ∈ refVals l,x ∈ keep) : PC L F.reap_renumbered_c1 [.fz (l.map MVal.enc),.fp [.fm (keep.map (.int .i64)) (placesV keep)] 0] (.fz ((movedL keep l).map MVal.enc)) := by
 have hf : Few l.length := by unfold Few; omega
 have hc := Clone_val_pc (l.map MVal.enc) (headOk_vals l) (by simpa using hl)
 refine pc_of LF.reap_renumbered_c1 rfl rfl ?_
 by_cases h0 : l = []
 ·subst h0
  have hc0 := Clone_val_pc [] rfl (by simp)
  simp only [go_sem,qC,qG,qW,C.reap_renumbered_c1,List.map_nil,hc0.ret,show cloneV 2 [] = .cl [] from rfl]
  refine wp_for (0) (fun k st => ∃ fr en cnt,st = ⟨fr,en,cnt⟩ ∧ (fr 0 = .cl []) ∧ (fr 8 = .int .i64 0) ∧ (fr 9 = .int .i64 k)) 0 (Nat.zero_le _) ⟨_,_,_,rfl,(by first | (simp only [go_sem,qW]; (try rfl); done) | rfl | simp),(by first | (simp only [go_sem,qW]; (try rfl); done) | rfl | simp),(by first | (simp only [go_sem,qW]; (try rfl); done) | rfl | simp)⟩ ?_
  rintro k st hk ⟨fr,en,cnt,rfl,h0,h8,h9⟩
  simp only [go_sem,qC,qG,qW,h0,h8,h9]
  have : k = 0 := by omega
  subst this
  simp only [go_sem,qC,qG,qW,h0,h8,h9]
  rfl
 ·have h0' : l.map MVal.enc ≠ [] := by simpa using h0
  rw [cloneV_ne h0'] at hc
  simp only [go_sem,qC,qG,qW,C.reap_renumbered_c1,hc.ret]
  have hz := mid_zero keep l
  refine wp_for (l.length) (fun k st => ∃ fr en cnt,st = ⟨fr,en,cnt⟩ ∧ (fr 0 = .bl ⟨0,6,0⟩ 0 l.length) ∧ (en ⟨0,6,0⟩ = some (.blk 2 ((midL keep l k).map MVal.enc) false)) ∧ (fr 1 = .fp [.fm (keep.map (.int .i64)) (placesV keep)] 0) ∧ (fr 8 = .int .i64 l.length) ∧ (fr 9 = .int .i64 k)) 0 (Nat.zero_le _) ⟨_,_,_,rfl,(by first | (simp only [go_sem,h0,h8,h9]; (try rfl); done) | rfl | simp),(by first | (simp only [go_sem,h0,h8,h9]; (try rfl); done) | rfl | simp),(by first | (simp only [go_sem,h0,h8,h9]; (try rfl); done) | rfl | simp),(by first | (simp only [go_sem,h0,h8,h9]; (try rfl); done) | rfl | simp),(by first | (simp only [go_sem,h0,h8,h9]; (try rfl); done) | rfl | simp)⟩ ?_
  rintro k st hk ⟨fr,en,cnt,rfl,h0,e6,h1,h8,h9⟩
  simp only [go_sem,qC,qG,qW,h0,e6,h1,h8,h9]
  refine condK_split (fun hq => ?_) (fun hq => ?_)
  ·have h' : k < l.length := of_decide_eq_true hq
   have hx := mid_get (keep := keep) h'
   have hc1 : (0 : Int) ≤ (k : Int) := by omega
   have hc2 : (k : Int) < (l.length : Int) := by omega
   simp only [go_sem,qC,qG,qW,h0,e6,h1,h8,h9,h',hx,hc1,hc2,true_and,and_true,eq_self,if_true,Nat.zero_add,Int.toNat_natCast]
   refine guardK_split (fun hg => ?_) (fun hg => ?_)
   ·have hr : isRef l[k] = true := hg
    have hk : l[k].n ∈ keep := hin _ (List.mem_map.2 ⟨l[k],List.mem_filter.2 ⟨List.getElem_mem h',hr⟩,rfl⟩)
    have hmv : movedV keep l[k] = ⟨l[k].kind,(keep.idxOf l[k].n : Int)⟩ := by rw [movedV,if_pos hr]
    have hset : ((midL keep l k).map MVal.enc).set k (.agg [.int .i64 l[k].kind,.int .i64 (keep.idxOf l[k].n : Nat)]) = (midL keep l (k + 1)).map MVal.enc := by
     rw [← mid_set h',List.map_set,hmv]; rfl
    simp only [go_sem,qC,qG,qW,hg,h0,e6,h1,h8,h9,h',hx,hc1,hc2,true_and,and_true,eq_self,if_true,Nat.zero_add,Int.toNat_natCast,look_to hk]
    try simp only [go_sem,qC,qG,qW,hset,h0,e6,h1,h8,h9,hx,put_agg]
    refine ⟨_,_,_,rfl,?_⟩
    simp only [go_sem,qW,h0,e6,h1,h8,h9,wrap_succ h' hf]
   ·have hmv : movedV keep l[k] = l[k] := by
     have : isRef l[k] = false := by simpa [isRef] using hg
     rw [movedV,if_neg (by rw [this]; decide)]
    simp only [go_sem,qC,qG,qW,hg,h0,e6,h1,h8,h9,Bool.not_true]
    refine ⟨_,_,_,rfl,?_⟩
    rw [mid_skip h' hmv]
    simp only [go_sem,qC,qG,qW,h0,e6,h1,h8,h9,wrap_succ h' hf]
  ·have : k = l.length := by simp at hq; omega
   subst this
   have hml : (movedL keep l).length = l.length := by simp [movedL]
   rw [mid_full] at e6
   have htk : ((movedL keep l).map MVal.enc).take l.length = (movedL keep l).map MVal.enc := List.take_of_length_le (by simp [hml])
   simp only [go_sem,qC,qG,qW,h0,e6,h1,h8,h9,hml,htk,Nat.le_refl,if_true,List.length_map]
theorem mem_refs {o : MObj} {keep : List Int} (h : ∀ x ∈ refsOf o,x ∈ keep) : (∀ x ∈ refVals o.vals,x ∈ keep) ∧ ∀ f ∈ o.frames,(∀ x ∈ refVals f.env,x ∈ keep) ∧ ∀ x ∈ refVals f.vals,x ∈ keep := by
 refine ⟨fun x hx => h x (List.mem_append_left _ hx),fun f hf => ⟨fun x hx => h x (List.mem_append_right _ (List.mem_flatMap.2 ⟨f,hf,List.mem_append_left _ hx⟩)),fun x hx => h x (List.mem_append_right _ (List.mem_flatMap.2 ⟨f,hf,List.mem_append_right _ hx⟩))⟩⟩
theorem renumbered_to_pc (o : MObj) (keep : List Int) (hs : smallObj o = true) (hin : ∀ x ∈ refsOf o,x ∈ keep) : PC L F.reap_renumbered [.agg [.int .i64 o.form,.int .i64 o.n,.fz (o.vals.map MVal.enc),.fz (o.frames.map MFrame.enc)],.fm (keep.map (.int .i64)) (placesV keep)] (.agg [.int .i64 (movedO keep o).form,.int .i64 (movedO keep o).n,.fz ((movedO keep o).vals.map MVal.enc),.fz ((movedO keep o).frames.map MFrame.enc)]) := by
 obtain ⟨b1,b2,b3⟩ := small_frames hs
 obtain ⟨i1,i2⟩ := mem_refs hin
 have hf : Few o.frames.length := by unfold Few; omega
 refine pc_of LF.reap_renumbered rfl rfl ?_
 simp only [go_sem,qC,qG,qW,C.reap_renumbered,box_any (v := .fm (keep.map (.int .i64)) (placesV keep)) rfl rfl]
 refine wp_foot ?_
 simp only [go_sem,qC,qG,qW,List.all_cons,List.getElem?_cons_zero,List.getElem?_cons_succ,Bool.true_or,Bool.or_true,Bool.false_eq_true,if_false,(renumbered_to_c1_pc o.vals keep (by omega) i1).ret]
 refine wp_for o.frames.length (fun k st => ∃ fr en cnt v,st = ⟨fr,en,cnt⟩ ∧ fr 4 = .ptr ⟨0,4,0⟩ 0 ∧ en ⟨0,4,0⟩ = some (.box [.int .i64 0,.int .i64 0,.cl [],.cl []] false) ∧ en ⟨0,3,0⟩ = some (.box [.fm (keep.map (.int .i64)) (placesV keep)] true) ∧ fr 5 = .fn F.reap_renumbered_c1 [] [.ptr ⟨0,3,0⟩ 0] ∧ fr 6 = .ptr ⟨0,6,0⟩ 0 ∧ en ⟨0,6,0⟩ = some (.box [.int .i64 o.form,.int .i64 o.n,.fz ((movedL keep o.vals).map MVal.enc),v] false) ∧ fr 20 = .fz (o.frames.map MFrame.enc) ∧ fr 21 = .int .i64 o.frames.length ∧ fr 22 = .int .i64 k ∧ Mine en v 3 (((o.frames.take k).map (movedF keep)).map MFrame.enc) [40]) 0 (Nat.zero_le _) ⟨_,_,_,.cl [],rfl,by simp only [go_sem,qW],by simp only [go_sem,qW],by simp only [go_sem,qW],by simp only [go_sem,qW],by simp only [go_sem,qW],by simp only [go_sem,qW],by simp only [go_sem,qW],by simp only [go_sem,qW],by simp only [go_sem,qW],Mine.nil _ _⟩ ?_
 rintro k st hk ⟨fr,en,cnt,v,rfl,h4,e4,e3,h5,h6,e6,h20,h21,h22,hv⟩
 simp only [go_sem,qC,qG,qW,h4,e4,e3,h5,h6,e6,h20,h21,h22]
 refine condK_split (fun hq => ?_) (fun hq => ?_)
 ·have h' : k < o.frames.length := of_decide_eq_true hq
  have hb := b3 _ (List.getElem_mem h')
  have hi := i2 _ (List.getElem_mem h')
  simp only [go_sem,qC,qG,qW,h',h4,e4,e3,h5,h6,e6,h20,h21,h22]
  refine wp_foot ?_
  simp only [go_sem,qC,qG,qW,h',h4,e4,e3,h5,h6,e6,h20,h21,h22,List.all_cons,List.getElem?_cons_zero,List.getElem?_cons_succ,Bool.true_or,Bool.or_true,Bool.false_eq_true,if_false,(renumbered_to_c1_pc _ keep (show o.frames[k].env.length ≤ 16777216 by omega) hi.1).ret,(renumbered_to_c1_pc _ keep (show o.frames[k].vals.length ≤ 16777216 by omega) hi.2).ret]
  refine wf_append (D := [40]) (xs := ((o.frames.take k).map (movedF keep)).map MFrame.enc) (ys := [MFrame.enc (movedF keep o.frames[k])]) (rs := []) ?_ ?_ ?_ rfl ?_ ?_
  ·simp only [go_sem,qW]
   exact hv.keep fun t g ht => by simp at ht; subst ht; simp only [go_sem,qW]
  ·rw [movedF_enc]; simp only [go_sem,qW]
  ·rfl
  ·simp; omega
  ·intro v' en' cnt' r hown hen hcnt _ _ _
   have k3 : en' ⟨0,3,0⟩ = some (.box [.fm (keep.map (.int .i64)) (placesV keep)] true) := by rw [hen 0 3 0 (.inr ⟨by decide,by simp⟩)]; simp only [go_sem,qW,e3]
   have k4 : en' ⟨0,4,0⟩ = some (.box [.int .i64 0,.int .i64 0,.cl [],.cl []] false) := by rw [hen 0 4 0 (.inr ⟨by decide,by simp⟩)]; simp only [go_sem,qW,e4]
   have k6 : en' ⟨0,6,0⟩ = some (.box [.int .i64 o.form,.int .i64 o.n,.fz ((movedL keep o.vals).map MVal.enc),v] false) := by rw [hen 0 6 0 (.inr ⟨by decide,by simp⟩)]; simp only [go_sem,qW,e6]
   obtain ⟨s1,s2⟩ := hown.shape
   simp only [go_sem,qC,qG,qW,h4,k4,k3,h5,h6,k6,h20,h21,h22,s1,s2,List.all_cons,List.getElem?_cons_zero,List.getElem?_cons_succ,Bool.true_or,Bool.or_true,Bool.false_eq_true,if_false]
   refine ⟨_,_,_,v',rfl,?_⟩
   simp only [go_sem,qC,qG,qW,h4,k4,k3,h5,h6,k6,h20,h21,h22,wrap_succ h' hf]
   rw [take_step h',List.map_append,List.map_append]
   refine Mine.sub (D := [40,40]) (Mine.keep (en := en') hown ?_) (by simp)
   intro t g ht; simp at ht; subst ht; simp only [go_sem,qW]
 ·have : k = o.frames.length := by simp at hq; omega
  subst this
  rw [List.take_length] at hv
  simp only [go_sem,qC,qG,qW,h4,e4,e3,h5,h6,e6,h20,h21,h22]
  obtain ⟨r,ks,s1,s2,_⟩ := (hv.keep (en' := en.set ⟨0,4,0⟩ (some (.box [.int .i64 o.form,.int .i64 o.n,.fz ((movedL keep o.vals).map MVal.enc),v] false))) fun t g ht => by simp at ht; subst ht; simp only [go_sem,qW]).snap 6
  simp only [go_sem,qC,qG,qW,s1,s2]
  rfl
theorem places_step (keep : List Int) {k : Nat} (h : k < keep.length) : placesV (keep.take (k + 1)) = placesV (keep.take k) ++ [.int .i64 (k : Nat)] := by
 have h1 : (keep.take (k + 1)).length = k + 1 := by simp; omega
 have h2 : (keep.take k).length = k := by simp; omega
 rw [placesV,placesV,h1,h2,List.range_succ,List.map_append]; rfl
theorem rising_take {keep : List Int} (hn : keep.Pairwise (· < ·)) {k : Nat} (h : k < keep.length) : keep[k] ∉ keep.take k := by
 intro hm
 obtain ⟨i,hi,he⟩ := List.mem_iff_getElem.1 hm
 have hik : i < k := by simp at hi; omega
 rw [List.getElem_take] at he
 have := List.pairwise_iff_getElem.1 hn i k (by omega) h hik
 omega
theorem reap_alone_pc (w : MWorld) (keep : List Int) (hw : w.few) (hsm : smallWorld w = true) (hk : keep.length ≤ 140) (hn : keep.Pairwise (· < ·)) (hin : ∀ n ∈ keep,inR n 0 ((w.objs.length : Int) - 1) = true)
  (hr : ∀ n ∈ keep,∀ x ∈ refsOf (w.obj n),x ∈ keep) (ht : ∀ t ∈ w.tasks,t ∈ keep) : PC L F.reap_alone [.agg [.fz (w.objs.map MObj.enc),.fz (w.tasks.map (.int .i64)),.fz (w.outs.map MOut.enc),.fz (w.ins.map (.int .i64)),.int .i64 w.used],.fz (keep.map (.int .i64))] (.agg [.fz ((compactW w keep).objs.map MObj.enc),.fz ((compactW w keep).tasks.map (.int .i64)),.fz ((compactW w keep).outs.map MOut.enc),.fz ((compactW w keep).ins.map (.int .i64)),.int .i64 (compactW w keep).used]) := by
 obtain ⟨b1,b2,b3,b4⟩ := smallW_len hsm
 have hfk : Few keep.length := by unfold Few; omega
 have c2 := Clone_out_pc (w.outs.map MOut.enc) (headOk_outs _) (by simp; omega)
 have c3 := Clone_int_pc (w.ins.map (.int .i64)) (headOk_ints _) (by simp; omega)
 refine pc_of LF.reap_alone rfl rfl ?_
 simp only [go_sem,qC,qG,qW,C.reap_alone]
 refine wp_for (keep.length) (fun k st => ∃ fr en cnt,st = ⟨fr,en,cnt⟩ ∧ (fr 2 = .ptr ⟨0,2,0⟩ 0) ∧ (en ⟨0,2,0⟩ = some (.box [.fz (w.objs.map MObj.enc),.fz (w.tasks.map (.int .i64)),.fz (w.outs.map MOut.enc),.fz (w.ins.map (.int .i64)),.int .i64 w.used] false)) ∧ (fr 4 = .ptr ⟨0,4,0⟩ 0) ∧ (en ⟨0,4,0⟩ = some (.box [.cl [],.cl [],.cl [],.cl [],.int .i64 0] false)) ∧ (fr 1 = .fz (keep.map (.int .i64))) ∧ (fr 5 = .mp ⟨0,13,0⟩) ∧ (fr 14 = .fz (keep.map (.int .i64))) ∧ (fr 15 = .int .i64 keep.length) ∧ (fr 16 = .int .i64 k) ∧ (en ⟨0,13,0⟩ = some (.map ((keep.take k).map (.int .i64)) (placesV (keep.take k)) false))) 0 (Nat.zero_le _) ⟨_,_,_,rfl,(by first | (simp only [go_sem,qW]; (try rfl); done) | rfl | simp),(by first | (simp only [go_sem,qW]; (try rfl); done) | rfl | simp),(by first | (simp only [go_sem,qW]; (try rfl); done) | rfl | simp),(by first | (simp only [go_sem,qW]; (try rfl); done) | rfl | simp),(by first | (simp only [go_sem,qW]; (try rfl); done) | rfl | simp),(by first | (simp only [go_sem,qW]; (try rfl); done) | rfl | simp),(by first | (simp only [go_sem,qW]; (try rfl); done) | rfl | simp),(by first | (simp only [go_sem,qW]; (try rfl); done) | rfl | simp),(by first | (simp only [go_sem,qW]; (try rfl); done) | rfl | simp),(by first | (simp only [go_sem,qW]; (try rfl); done) | rfl | simp)⟩ ?_
 rintro k st hk ⟨fr,en,cnt,rfl,h2,e2,h4,e4,h1,h5,h14,h15,h16,e13⟩
 simp only [go_sem,qC,qG,qW,h2,e2,h4,e4,h1,h5,h14,h15,h16,e13]
 refine condK_split (fun hq => ?_) (fun hq => ?_)
 ·have h' : k < keep.length := of_decide_eq_true hq
  have hnt := rising_take hn h'
  have hps := places_step keep h'
  have hmp : (keep.take (k + 1)).map (Val.int .i64) = (keep.take k).map (.int .i64) ++ [.int .i64 keep[k]] := by rw [take_step h',List.map_append]; rfl
  have hfd := findKey_idx keep[k] (keep.take k)
  rw [if_neg hnt] at hfd
  simp only [go_sem,qC,qG,qW,h',h2,e2,h4,e4,h1,h5,h14,h15,h16,e13,hfd,Bool.and_true,Bool.and_self,if_true]
  refine ⟨_,_,_,rfl,?_⟩
  simp only [go_sem,qC,qG,qW,h2,e2,h4,e4,h1,h5,h14,h15,h16,e13,wrap_succ h' hfk,hps,hmp]
 ·have : k = keep.length := by simp at hq; omega
  subst this
  rw [List.take_length] at e13
  simp only [go_sem,qC,qG,qW,h2,e2,h4,e4,h1,h5,h14,h15,h16,e13]
  obtain ⟨g8,hg8⟩ : ∃ g,g = cnt 0 8 := ⟨_,rfl⟩
  obtain ⟨g27,hg27⟩ : ∃ g,g = cnt 0 27 := ⟨_,rfl⟩
  obtain ⟨g30,hg30⟩ : ∃ g,g = cnt 0 30 := ⟨_,rfl⟩
  refine wp_cutE (fun st => st.fr 1 = .fz (keep.map (.int .i64)) ∧ st.fr 2 = .ptr ⟨0,2,0⟩ 0 ∧ st.en ⟨0,2,0⟩ = some (.box [.fz (w.objs.map MObj.enc),.fz (w.tasks.map (.int .i64)),.fz (w.outs.map MOut.enc),.fz (w.ins.map (.int .i64)),.int .i64 w.used] false) ∧ st.fr 4 = .ptr ⟨0,4,0⟩ 0 ∧ st.en ⟨0,4,0⟩ = some (.box [.cl [],.cl [],.cl [],.cl [],.int .i64 0] false) ∧ st.fr 5 = .mp ⟨0,13,0⟩ ∧ st.en ⟨0,13,0⟩ = some (.map (keep.map (.int .i64)) (placesV keep) false) ∧ st.fr 8 = .ptr ⟨0,8,g8⟩ 0 ∧
   ∃ vO vI,st.en ⟨0,8,g8⟩ = some (.box [.cl [],.cl [],vO,vI,.int .i64 w.used] false) ∧ Mine st.en vO 2 (w.outs.map MOut.enc) [27] ∧ Mine st.en vI 1 (w.ins.map (.int .i64)) [30]) ?_ ?_
  ·refine wp_foot ?_
   rcases clone_cases 2 (w.outs.map MOut.enc) with ⟨o1,o2⟩ | ⟨o1,o2⟩ <;> rw [o2] at c2 <;>
   rcases clone_cases 1 (w.ins.map (Val.int .i64)) with ⟨i1,i2⟩ | ⟨i1,i2⟩ <;> rw [i2] at c3
   all_goals simp only [go_sem,qC,qG,qW,h2,e2,h4,e4,h1,h5,h14,h15,h16,e13,e13,← hg8,← hg27,← hg30,List.all_cons,List.getElem?_cons_zero,List.getElem?_cons_succ,Bool.true_or,Bool.or_true,Bool.false_eq_true,if_false,Option.getD_some,c2.ret,c3.ret,List.length_map,Nat.le_refl,if_true,take_map_len,one_cl,cells_cl,one_bl,cells_bl]
   all_goals refine ⟨_,_,rfl,?_,?_⟩
   all_goals first
    | exact .inl ⟨rfl,by assumption⟩
    | exact mine_bl (by simp only [go_sem,qW]; try rfl) (by simp only [List.length_map])
  ·clear h1 h2 e2 h4 e4 h5 e13 h14 h15 h16
   rintro fr en cnt ⟨h1,h2,e2,h4,e4,h5,e13,h8,vO,vI,e8,mO,mI⟩
   dsimp only at h1 h2 e2 h4 e4 h5 e13 h8 e8 mO mI
   simp only [go_sem,qC,qG,qW,h1,h2,e2,h4,e4,h5,e13,h8,e8]
   refine wp_for keep.length (fun k st => ∃ fr en cnt v f,st = ⟨fr,en,cnt⟩ ∧ fr 1 = .fz (keep.map (.int .i64)) ∧ fr 2 = .ptr ⟨0,2,0⟩ 0 ∧ en ⟨0,2,0⟩ = some (.box [.fz (w.objs.map MObj.enc),.fz (w.tasks.map (.int .i64)),.fz (w.outs.map MOut.enc),.fz (w.ins.map (.int .i64)),.int .i64 w.used] false) ∧ fr 4 = .ptr ⟨0,4,0⟩ 0 ∧ en ⟨0,4,0⟩ = some (.box [.cl [],.cl [],.cl [],.cl [],.int .i64 0] false) ∧ fr 5 = .mp ⟨0,13,0⟩ ∧ en ⟨0,13,0⟩ = some (.map (keep.map (.int .i64)) (placesV keep) f) ∧ fr 8 = .ptr ⟨0,8,g8⟩ 0 ∧
    en ⟨0,8,g8⟩ = some (.box [v,.cl [],vO,vI,.int .i64 w.used] false) ∧ fr 34 = .fz (keep.map (.int .i64)) ∧ fr 35 = .int .i64 keep.length ∧ fr 36 = .int .i64 k ∧ Mine en vO 2 (w.outs.map MOut.enc) [27] ∧ Mine en vI 1 (w.ins.map (.int .i64)) [30] ∧ Mine en v 4 (((keep.take k).map fun n => movedO keep (w.obj n)).map MObj.enc) [50]) 0 (Nat.zero_le _)
    ⟨_,_,_,.cl [],false,rfl,by simp only [go_sem,h1],by simp only [go_sem,h2],by simp only [go_sem,e2],by simp only [go_sem,h4],by simp only [go_sem,e4],by simp only [go_sem,h5],by simp only [go_sem,e13],by simp only [go_sem,h8],by simp only [go_sem,e8],by simp only [go_sem,qW],by simp only [go_sem,qW],by simp only [go_sem,qW],mO,mI,Mine.nil _ _⟩ ?_
   clear h1 h2 e2 h4 e4 h5 e13 h8 e8 mO mI
   rintro k st hk' ⟨fr,en,cnt,v,f,rfl,h1,h2,e2,h4,e4,h5,e13,h8,e8,h34,h35,h36,mO,mI,hv⟩
   simp only [go_sem,qC,qG,qW,h1,h2,e2,h4,e4,h5,e13,h8,e8,h34,h35,h36]
   refine condK_split (fun hq => ?_) (fun hq => ?_)
   ·have h' : k < keep.length := of_decide_eq_true hq
    have hm := List.getElem_mem h'
    have hi := hin _ hm
    have hrn := renumbered_to_pc (w.obj keep[k]) keep (smallW_obj hsm _ (obj_mem hi)) (hr _ hm)
    simp only [go_sem,qC,qG,qW,h',h1,h2,e2,h4,e4,h5,e13,h8,e8,h34,h35,h36]
    refine wp_foot ?_
    simp only [go_sem,qC,qG,qW,h',h1,h2,e2,h4,e4,h5,e13,h8,e8,h34,h35,h36,ia_obj hi,hrn.ret,flat_mo,sn_mp,one_mp,cells_mp,List.all_cons,List.getElem?_cons_zero,List.getElem?_cons_succ,Bool.true_or,Bool.or_true,Bool.false_eq_true,if_false]
    refine wf_append (D := [50]) (xs := ((keep.take k).map fun n => movedO keep (w.obj n)).map MObj.enc) (ys := [MObj.enc (movedO keep (w.obj keep[k]))]) (rs := []) ?_ ?_ ?_ rfl ?_ ?_
    ·simp only [go_sem,qW]
     exact hv.keep fun t g ht => by simp at ht; subst ht; simp only [go_sem,qW]
    ·rw [movedO_enc]; simp only [go_sem,qW]; rfl
    ·rfl
    ·simp; omega
    ·intro v' en' cnt' r hown hen hcnt _ _ _
     have k2 : en' ⟨0,2,0⟩ = some (.box [.fz (w.objs.map MObj.enc),.fz (w.tasks.map (.int .i64)),.fz (w.outs.map MOut.enc),.fz (w.ins.map (.int .i64)),.int .i64 w.used] false) := by rw [hen 0 2 0 (.inr ⟨by decide,by simp⟩)]; simp only [go_sem,qW,e2]
     have k4 : en' ⟨0,4,0⟩ = some (.box [.cl [],.cl [],.cl [],.cl [],.int .i64 0] false) := by rw [hen 0 4 0 (.inr ⟨by decide,by simp⟩)]; simp only [go_sem,qW,e4]
     have k8 : en' ⟨0,8,g8⟩ = some (.box [v,.cl [],vO,vI,.int .i64 w.used] false) := by rw [hen 0 8 g8 (.inr ⟨by decide,by simp⟩)]; simp only [go_sem,qW,e8]
     have k13 : en' ⟨0,13,0⟩ = some (.map (keep.map (.int .i64)) (placesV keep) true) := by rw [hen 0 13 0 (.inr ⟨by decide,by simp⟩)]; simp only [go_sem,qW,e13]
     obtain ⟨s1,s2⟩ := hown.shape
     simp only [go_sem,qC,qG,qW,h1,h2,k2,h4,k4,h5,k13,h8,k8,h34,h35,h36,s1,s2,List.all_cons,List.getElem?_cons_zero,List.getElem?_cons_succ,Bool.true_or,Bool.or_true,Bool.false_eq_true,if_false]
     refine ⟨_,_,_,v',true,rfl,?_⟩
     simp only [go_sem,qC,qG,qW,h1,h2,k2,h4,k4,h5,k13,h8,k8,h34,h35,h36,wrap_succ h' hfk]
     refine ⟨?_,?_,?_⟩
     ·exact mO.keep fun t g ht => by simp at ht; subst ht; simp only [go_sem,qW,hen 0 27 g (.inr ⟨by decide,by simp⟩)]
     ·exact mI.keep fun t g ht => by simp at ht; subst ht; simp only [go_sem,qW,hen 0 30 g (.inr ⟨by decide,by simp⟩)]
     ·rw [aloneO_step h',List.map_append]
      refine Mine.sub (D := [50,50]) (Mine.keep (en := en') hown ?_) (by simp)
      intro t g ht; simp at ht; subst ht; simp only [go_sem,qW]
   ·have : k = keep.length := by simp at hq; omega
    subst this
    rw [List.take_length] at hv
    simp only [go_sem,qC,qG,qW,h1,h2,e2,h4,e4,h5,e13,h8,e8,h34,h35,h36]
    refine wp_for w.tasks.length (fun j st => ∃ fr en cnt vt,st = ⟨fr,en,cnt⟩ ∧ fr 4 = .ptr ⟨0,4,0⟩ 0 ∧ en ⟨0,4,0⟩ = some (.box [.cl [],.cl [],.cl [],.cl [],.int .i64 0] false) ∧ fr 5 = .mp ⟨0,13,0⟩ ∧ en ⟨0,13,0⟩ = some (.map (keep.map (.int .i64)) (placesV keep) f) ∧ fr 8 = .ptr ⟨0,8,g8⟩ 0 ∧
     en ⟨0,8,g8⟩ = some (.box [v,vt,vO,vI,.int .i64 w.used] false) ∧ fr 54 = .fz (w.tasks.map (.int .i64)) ∧ fr 55 = .int .i64 w.tasks.length ∧ fr 56 = .int .i64 j ∧ Mine en vO 2 (w.outs.map MOut.enc) [27] ∧ Mine en vI 1 (w.ins.map (.int .i64)) [30] ∧ Mine en v 4 ((keep.map fun n => movedO keep (w.obj n)).map MObj.enc) [50] ∧
     Mine en vt 1 (((w.tasks.take j).map fun t => (keep.idxOf t : Int)).map (.int .i64)) [66]) 0 (Nat.zero_le _)
     ⟨_,_,_,.cl [],rfl,by simp only [go_sem,h4],by simp only [go_sem,e4],by simp only [go_sem,h5],by simp only [go_sem,e13],by simp only [go_sem,h8],by simp only [go_sem,e8],by simp only [go_sem,qW],by simp only [go_sem,qW],by simp only [go_sem,qW],mO,mI,hv,Mine.nil _ _⟩ ?_
    clear h1 h2 e2 h4 e4 h5 e13 h8 e8 h34 h35 h36 mO mI hv
    rintro j st hj' ⟨fr,en,cnt,vt,rfl,h4,e4,h5,e13,h8,e8,h54,h55,h56,mO,mI,hv,mt⟩
    simp only [go_sem,qC,qG,qW,h4,e4,h5,e13,h8,e8,h54,h55,h56]
    refine condK_split (fun hq2 => ?_) (fun hq2 => ?_)
    ·have h2' : j < w.tasks.length := of_decide_eq_true hq2
     have hlk := look_to (ht _ (List.getElem_mem h2'))
     simp only [go_sem,qC,qG,qW,h2',h4,e4,h5,e13,h8,e8,h54,h55,h56,hlk]
     refine w_append (D := [66]) (xs := ((w.tasks.take j).map fun t => (keep.idxOf t : Int)).map (.int .i64)) (ys := [.int .i64 (keep.idxOf w.tasks[j] : Nat)]) (rs := []) ?_ ?_ ?_ ?_ ?_
     ·simp only [go_sem,qW]
      exact mt
     ·simp only [go_sem,qW]
     ·rfl
     ·simp; omega
     ·intro vt' en' cnt' hown hen hcnt
      have k4 : en' ⟨0,4,0⟩ = some (.box [.cl [],.cl [],.cl [],.cl [],.int .i64 0] false) := by rw [hen 0 4 0 (.inr ⟨by decide,by simp⟩)]; simp only [go_sem,qW,e4]
      have k8 : en' ⟨0,8,g8⟩ = some (.box [v,vt,vO,vI,.int .i64 w.used] false) := by rw [hen 0 8 g8 (.inr ⟨by decide,by simp⟩)]; simp only [go_sem,qW,e8]
      have k13 : en' ⟨0,13,0⟩ = some (.map (keep.map (.int .i64)) (placesV keep) f) := by rw [hen 0 13 0 (.inr ⟨by decide,by simp⟩)]; simp only [go_sem,qW,e13]
      obtain ⟨s1,s2⟩ := hown.shape
      simp only [go_sem,qC,qG,qW,h4,k4,h5,k13,h8,k8,h54,h55,h56,s1,s2]
      refine ⟨_,_,_,vt',rfl,?_⟩
      simp only [go_sem,qC,qG,qW,h4,k4,h5,k13,h8,k8,h54,h55,h56,wrap_succ h2' hw.tasks]
      refine ⟨?_,?_,?_,?_⟩
      ·exact mO.keep fun t g ht => by simp at ht; subst ht; simp only [go_sem,qW,hen 0 27 g (.inr ⟨by decide,by simp⟩)]
      ·exact mI.keep fun t g ht => by simp at ht; subst ht; simp only [go_sem,qW,hen 0 30 g (.inr ⟨by decide,by simp⟩)]
      ·exact hv.keep fun t g ht => by simp at ht; subst ht; simp only [go_sem,qW,hen 0 50 g (.inr ⟨by decide,by simp⟩)]
      ·rw [take_step h2',List.map_append,List.map_append]
       refine Mine.sub (D := [66,66]) (Mine.keep (en := en') hown ?_) (by simp)
       intro t g ht; simp at ht; subst ht; simp only [go_sem,qW]
    ·have : j = w.tasks.length := by simp at hq2; omega
     subst this
     rw [List.take_length] at mt
     simp only [go_sem,qC,qG,qW,h4,e4,h5,e13,h8,e8,h54,h55,h56]
     have e' : ∀ t g,¬ t = 4 → (en.set ⟨0,4,0⟩ (some (.box [v,vt,vO,vI,.int .i64 w.used] false))) ⟨0,t,g⟩ = en ⟨0,t,g⟩ := fun t g h => en_ne_t h
     obtain ⟨x1,ks1,a1,a2,_⟩ := (hv.keep (en' := en.set ⟨0,4,0⟩ (some (.box [v,vt,vO,vI,.int .i64 w.used] false))) fun t g ht => e' t g (by simp at ht; omega)).snap 6
     obtain ⟨x2,ks2,d1,d2,_⟩ := (mt.keep (en' := en.set ⟨0,4,0⟩ (some (.box [v,vt,vO,vI,.int .i64 w.used] false))) fun t g ht => e' t g (by simp at ht; omega)).snap 6
     obtain ⟨x3,ks3,f1,f2,_⟩ := (mO.keep (en' := en.set ⟨0,4,0⟩ (some (.box [v,vt,vO,vI,.int .i64 w.used] false))) fun t g ht => e' t g (by simp at ht; omega)).snap 6
     obtain ⟨x4,ks4,y1,y2,_⟩ := (mI.keep (en' := en.set ⟨0,4,0⟩ (some (.box [v,vt,vO,vI,.int .i64 w.used] false))) fun t g ht => e' t g (by simp at ht; omega)).snap 6
     simp only [go_sem,qC,qG,qW,a1,a2,d1,d2,f1,f2,y1,y2]
     rfl
def memB (keep : List Int) (x : Int) : Bool := keep.any fun y => decide (y = x)
theorem memB_iff {keep : List Int} {x : Int} : memB keep x = true ↔ x ∈ keep := by
 unfold memB; rw [List.any_eq_true]
 exact ⟨fun ⟨y,h,e⟩ => by rw [← of_decide_eq_true e]; exact h,fun h => ⟨x,h,by simp⟩⟩
def numAt (keep : List Int) (i : Nat) : Int := keep.getD i 0
theorem numAt_get {keep : List Int} {i : Nat} (h : i < keep.length) : numAt keep i = keep[i] := by simp [numAt,List.getD_eq_getElem?_getD,h]
def lostB (keep : List Int) (i r : Int) : Bool := memB keep i && !memB keep r
def aloneRow (w : MWorld) (keep : List Int) (i : Nat) : Bool := !(isTask (w.obj i) && !memB keep i) && (refsL (w.obj i)).all fun r => !lostB keep i r
def aloneOk (w : MWorld) (keep : List Int) : Bool := (List.range w.objs.length).all (aloneRow w keep)
theorem alone_all {w : MWorld} {keep : List Int} : aloneOk w keep = true ↔ ∀ i,i < w.objs.length → aloneRow w keep i = true := by
 unfold aloneOk; rw [List.all_eq_true]
 exact ⟨fun h i hi => h i (by simpa using hi),fun h i hi => h i (by simpa using hi)⟩
theorem listed_pc (l : List Int) (n : Int) (hl : Few l.length) : PC L F.R18_listed [.fz (l.map (.int .i64)),.int .i64 n] (.bool (memB l n)) := R18_listed_pc l n hl
theorem R18_Alone_pc (w : MWorld) (keep : List Int) (hw : w.few) (hsm : smallWorld w = true) (hfk : Few keep.length) : PC L F.R18_Alone [.agg [.fz (w.objs.map MObj.enc),.fz (w.tasks.map (.int .i64)),.fz (w.outs.map MOut.enc),.fz (w.ins.map (.int .i64)),.int .i64 w.used],.fz (keep.map (.int .i64))] (.bool (aloneOk w keep)) := by
 refine pc_of LF.R18_Alone rfl rfl ?_
 simp only [go_sem,qC,qG,qW,C.R18_Alone]
 refine wp_for (w.objs.length) (fun k st => ∃ fr en cnt,st = ⟨fr,en,cnt⟩ ∧ (fr 1 = .fz (keep.map (.int .i64))) ∧ (fr 2 = .ptr ⟨0,2,0⟩ 0) ∧ (en ⟨0,2,0⟩ = some (.box w.cells false)) ∧ (fr 5 = .int .i64 k) ∧ (∀ i,i < k → aloneRow w keep i = true)) 0 (Nat.zero_le _) ⟨_,_,_,rfl,(by first | (simp only [go_sem,qW]; (try rfl); done) | rfl | simp),(by first | (simp only [go_sem,qW]; (try rfl); done) | rfl | simp),(by first | (simp only [go_sem,qW]; (try rfl); done) | rfl | simp),(by first | (simp only [go_sem,qW]; (try rfl); done) | rfl | simp),(by first | (simp only [go_sem,qW]; (try rfl); done) | rfl | simp)⟩ ?_
 rintro k st hk ⟨fr,en,cnt,rfl,h1,h2,e2,h5,hI⟩
 simp only [go_sem,qC,qG,qW,h1,h2,e2,h5]
 refine condK_split (fun hq => ?_) (fun hq => ?_)
 ·have h' : k < w.objs.length := of_decide_eq_true hq
  have bad : aloneRow w keep k = false → Val.bool false = Val.bool (aloneOk w keep) := fun h => by
   have : aloneOk w keep = false := by
    rw [← Bool.not_eq_true,alone_all]
    exact fun hh => by rw [hh k h'] at h; cases h
   rw [this]
  have next : aloneRow w keep k = true → ∀ i,i < k + 1 → aloneRow w keep i = true := fun h i hi => by
   by_cases hik : i < k
   ·exact hI i hik
   ·have : i = k := by omega
    subst this; exact h
  have hso := smallW_obj hsm _ (List.getElem_mem h')
  have hlen := refsL_len hso
  have hfl : Few (refsL w.objs[k]).length := by unfold Few; omega
  refine wops_cut (fun st => (st.fr 1 = .fz (keep.map (.int .i64))) ∧ (st.fr 2 = .ptr ⟨0,2,0⟩ 0) ∧ (st.en ⟨0,2,0⟩ = some (.box w.cells false)) ∧ (st.fr 5 = .int .i64 k) ∧ (st.fr 23 = .bool (isTask (w.obj k) && !memB keep k))) ?_ ?_
  ·simp only [go_sem,qC,qG,qW,h',h1,h2,e2,h5,(R18_task_pc w k h').ret]
   refine guardK_split (fun g => ?_) (fun g => ?_)
   ·simp only [go_sem,qC,qG,qW,h',g,h1,h2,e2,h5,(listed_pc keep k hfk).ret,Bool.true_and]
   ·simp only [go_sem,qC,qG,qW,h',g,h1,h2,e2,h5,Bool.not_true,Bool.false_and]
  ·rintro fr en cnt ⟨(h1 : fr 1 = .fz (keep.map (.int .i64))),(h2 : fr 2 = .ptr ⟨0,2,0⟩ 0),(e2 : en ⟨0,2,0⟩ = some (.box w.cells false)),(h5 : fr 5 = .int .i64 k),(h23 : fr 23 = .bool (isTask (w.obj k) && !memB keep k))⟩
   simp only [go_sem,qC,qG,qW,h1,h2,e2,h5,h23]
   refine condK_split (fun hW => ?_) (fun hW => ?_)
   ·simp only [go_sem,qC,qG,qW]
    exact bad (by simp [aloneRow,hW])
   ·simp only [go_sem,qC,qG,qW,h',h1,h2,e2,h5,h23,(R18_Refs_pc _ hso).ret]
    refine wp_for ((refsL w.objs[k]).length) (fun j st => ∃ fr en cnt,st = ⟨fr,en,cnt⟩ ∧ (fr 1 = .fz (keep.map (.int .i64))) ∧ (fr 2 = .ptr ⟨0,2,0⟩ 0) ∧ (en ⟨0,2,0⟩ = some (.box w.cells false)) ∧ (fr 5 = .int .i64 k) ∧ (fr 6 = .fz ((refsL w.objs[k]).map (.int .i64))) ∧ (fr 7 = .int .i64 j) ∧ (∀ x ∈ (refsL w.objs[k]).take j,lostB keep k x = false)) 0 (Nat.zero_le _) ⟨_,_,_,rfl,(by first | (simp only [go_sem,h1,h2,e2,h5,h23]; (try rfl); done) | rfl | simp),(by first | (simp only [go_sem,h1,h2,e2,h5,h23]; (try rfl); done) | rfl | simp),(by first | (simp only [go_sem,h1,h2,e2,h5,h23]; (try rfl); done) | rfl | simp),(by first | (simp only [go_sem,h1,h2,e2,h5,h23]; (try rfl); done) | rfl | simp),(by first | (simp only [go_sem,h1,h2,e2,h5,h23]; (try rfl); done) | rfl | simp),(by first | (simp only [go_sem,h1,h2,e2,h5,h23]; (try rfl); done) | rfl | simp),(by first | (simp only [go_sem,h1,h2,e2,h5,h23]; (try rfl); done) | rfl | simp)⟩ ?_
    rintro j st hk ⟨fr,en,cnt,rfl,h1,h2,e2,h5,h6,h7,hJ⟩
    simp only [go_sem,qC,qG,qW,h1,h2,e2,h5,h6,h7]
    refine condK_split (fun hq2 => ?_) (fun hq2 => ?_)
    ·have h2' : j < (refsL w.objs[k]).length := of_decide_eq_true hq2
     have okx : lostB keep k (refsL w.objs[k])[j] = false → ∀ x ∈ (refsL w.objs[k]).take (j + 1),lostB keep k x = false := fun h x hx => by
      rw [take_step h2',List.mem_append] at hx
      rcases hx with hx | hx
      ·exact hJ x hx
      ·simp only [List.mem_singleton] at hx; rw [hx]; exact h
     simp only [go_sem,qC,qG,qW,h2',h1,h2,e2,h5,h6,h7,(listed_pc keep k hfk).ret]
     refine guardK_split (fun g => ?_) (fun g => ?_)
     ·simp only [go_sem,qC,qG,qW,h2',g,h1,h2,e2,h5,h6,h7,(listed_pc keep _ hfk).ret]
      refine condK_split (fun g2 => ?_) (fun g2 => ?_)
      ·simp only [go_sem,qC,qG,qW]
       refine bad ?_
       have : (refsL (w.obj k)).all (fun r => !lostB keep k r) = false := by
        rw [objAt_get h',List.all_eq_false]
        exact ⟨_,List.getElem_mem h2',by rw [lostB,g,g2]; decide⟩
       rw [aloneRow,this,Bool.and_false]
      ·simp only [go_sem,qC,qG,qW,h2',h1,h2,e2,h5,h6,h7]
       refine ⟨_,_,_,rfl,?_⟩
       simp only [go_sem,qW,h1,h2,e2,h5,h6,h7,wrap_succ h2' hfl]
       exact okx (by rw [lostB,g2,Bool.and_false])
     ·simp only [go_sem,qC,qG,qW,h2',g,h1,h2,e2,h5,h6,h7,Bool.not_true]
      refine ⟨_,_,_,rfl,?_⟩
      simp only [go_sem,qC,qG,qW,h1,h2,e2,h5,h6,h7,wrap_succ h2' hfl]
      exact okx (by rw [lostB,g]; rfl)
    ·have : j = (refsL w.objs[k]).length := by simp at hq2; omega
     subst this
     rw [List.take_length] at hJ
     simp only [go_sem,qC,qG,qW,h1,h2,e2,h5,h6,h7]
     refine ⟨_,_,_,rfl,?_⟩
     simp only [go_sem,qC,qG,qW,h1,h2,e2,h5,h6,h7,wrap_succ h' hw.objs]
     refine next ?_
     have : (refsL (w.obj k)).all (fun r => !lostB keep k r) = true := by
      rw [objAt_get h',List.all_eq_true]
      exact fun x hx => by rw [hJ x hx]; rfl
     rw [aloneRow,hW,this]; rfl
 ·have : k = w.objs.length := by simp at hq; omega
  subst this
  simp only [go_sem,qC,qG,qW]
  rw [alone_all.2 hI]
end Go.Proofs.YthpmfghgoabnhaaGreat
namespace Go.Proofs.YthpmfghgoabnhaaGreat
open Go.Abs Go.Proofs
inductive ReachP (w : MWorld) : Nat → Prop
 | task {i : Nat} (h : i < w.objs.length) (t : isTask (w.obj i) = true) : ReachP w i
 | ref {i : Nat} {x : Int} (h : ReachP w i) (hx : x ∈ refsOf (w.obj i)) : ReachP w x.toNat
def atB (out : List Bool) (i : Nat) : Bool := out.getD i false
structure Going (w : MWorld) (out : List Bool) : Prop where
 len : out.length = w.objs.length
 sound : ∀ i,atB out i = true → ReachP w i
 tasks : ∀ i,i < w.objs.length → isTask (w.obj i) = true → atB out i = true
def InRange (w : MWorld) : Prop := ∀ o ∈ w.objs,∀ x ∈ refsOf o,inR x 0 ((w.objs.length : Int) - 1) = true
def CutL (en : En) (v : Val) (xs : List Val) (D : List Nat) : Prop :=
 (v = .cl [] ∧ xs = []) ∨ ∃ t g zs,v = .bl ⟨0,t,g⟩ 0 xs.length ∧ en ⟨0,t,g⟩ = some (.blk 1 zs false) ∧ xs.length ≤ zs.length ∧ zs.take xs.length = xs ∧ t ∈ D
theorem CutL.keep {en en' : En} {v : Val} {xs : List Val} {D : List Nat} (h : CutL en v xs D) (k : ∀ t g,t ∈ D → en' ⟨0,t,g⟩ = en ⟨0,t,g⟩) : CutL en' v xs D := by
 rcases h with h | ⟨t,g,zs,h1,h2,h3,h4,h5⟩
 ·exact .inl h
 ·exact .inr ⟨t,g,zs,h1,by rw [k t g h5]; exact h2,h3,h4,h5⟩
theorem CutL.sub {en : En} {v : Val} {xs : List Val} {D D' : List Nat} (h : CutL en v xs D) (k : ∀ t ∈ D,t ∈ D') : CutL en v xs D' := by
 rcases h with h | ⟨t,g,zs,h1,h2,h3,h4,h5⟩
 ·exact .inl h
 ·exact .inr ⟨t,g,zs,h1,h2,h3,h4,k t h5⟩
theorem CutL.len {en : En} {v : Val} {xs : List Val} {D : List Nat} (h : CutL en v xs D) : lenOf v = some xs.length := by
 rcases h with ⟨rfl,rfl⟩ | ⟨t,g,zs,rfl,_⟩ <;> rfl
theorem CutL.shape {en : En} {v : Val} {xs : List Val} {D : List Nat} (h : CutL en v xs D) : v.one = true ∧ v.cells = [v] := by
 rcases h with ⟨rfl,_⟩ | ⟨t,g,zs,rfl,_⟩ <;> exact ⟨rfl,rfl⟩
section
variable {L : Prog} {fr : Nat → Val} {en : En} {cnt : Nat → Nat → Nat} {Q : St → Prop} {l : List LOper} {d : Nat}
end
theorem sum_change {f g : Nat → Nat} {j : Nat} : ∀ n,j < n → (∀ i,i ≠ j → f i = g i) → ((List.range n).map f).sum + g j = ((List.range n).map g).sum + f j
 | 0,h,_ => by omega
 | n + 1,h,he => by
  rw [List.range_succ,List.map_append,List.map_append,List.sum_append,List.sum_append]
  simp only [List.map_cons,List.map_nil,List.sum_cons,List.sum_nil]
  by_cases hj : j < n
  ·have := sum_change n hj he
   rw [he n (by omega)]; omega
  ·have hjn : j = n := by omega
   subst hjn
   have : (List.range j).map f = (List.range j).map g := List.map_congr_left fun i hi => he i (by simp at hi; omega)
   rw [this]; omega
theorem memB_append (ks : List Int) (n x : Int) : memB (ks ++ [n]) x = (memB ks x || decide (n = x)) := by simp [memB,List.any_append]
structure Search (w : MWorld) (ks td : List Int) : Prop where
 met : ∀ x ∈ ks,∃ i : Nat,x = i ∧ i < w.objs.length ∧ ReachP w i
 todo : ∀ x ∈ td,∃ i : Nat,x = i ∧ i < w.objs.length ∧ ReachP w i
 tasks : ∀ x ∈ w.tasks,x ∈ ks ∨ x ∈ td
 shut : ∀ n ∈ ks,∀ x ∈ refsOf (w.obj n),x ∈ ks ∨ x ∈ td
theorem CutL.nil {en : En} {v : Val} {xs : List Val} {D : List Nat} (h : CutL en v xs D) (h0 : xs.length = 0) : xs = [] := List.eq_nil_of_length_eq_zero h0
theorem distinct_mem (w : MWorld) : ∀ (l met : List Int),distinctTasks w met l = true → ∀ t ∈ l,∃ i : Nat,t = i ∧ i < w.objs.length ∧ isTask (w.obj i) = true
 | [],_,_,t,h => by cases h
 | k :: l,met,hd,t,h => by
  simp only [distinctTasks,Bool.and_eq_true] at hd
  rcases List.mem_cons.1 h with rfl | h
  ·have h1 := hd.1.1.1
   simp only [inR,decide_eq_true_eq] at h1
   obtain ⟨j,rfl⟩ := Int.eq_ofNat_of_zero_le h1.1
   exact ⟨j,rfl,by omega,hd.1.1.2⟩
  ·exact distinct_mem w l _ hd.2 t h
theorem given_tasks {p : BProg} {w : MWorld} (h : given p w = true) : (∀ t ∈ w.tasks,∃ i : Nat,t = i ∧ i < w.objs.length ∧ isTask (w.obj i) = true) ∧ ∀ i : Nat,i < w.objs.length → isTask (w.obj i) = true → (i : Int) ∈ w.tasks := by
 have ht : tasksB w = true := by
  simp only [given,worldOk,Bool.and_eq_true] at h
  rw [tasks_same]; exact h.2.1.1.2
 simp only [tasksB,Bool.and_eq_true] at ht
 refine ⟨distinct_mem w _ _ ht.1,fun i hi hk => ?_⟩
 have := ht.2
 simp only [covered,List.all_eq_true] at this
 have h2 := this i (by simpa using hi)
 rw [hk] at h2
 simp only [Bool.not_true,Bool.or_false,List.any_eq_true,decide_eq_true_eq] at h2
 obtain ⟨x,hx,rfl⟩ := h2
 exact hx
theorem movedL_few {keep : List Int} {l : List MVal} (h : Few l.length) : Few (movedL keep l).length := by simpa [movedL] using h
theorem movedO_few {keep : List Int} {o : MObj} (h : o.few) : (movedO keep o).few := by
 refine ⟨movedL_few h.1,by simpa [movedO] using h.2.1,fun f hf => ?_⟩
 obtain ⟨g,hg,rfl⟩ := List.mem_map.1 hf
 have := h.2.2 g hg
 exact ⟨movedL_few this.1,movedL_few this.2⟩
theorem compact_few {w : MWorld} {keep : List Int} (hw : w.few) (hsm : smallWorld w = true) (hk : Few keep.length) (hin : ∀ x ∈ keep,inR x 0 ((w.objs.length : Int) - 1) = true) : (compactW w keep).few := by
 refine ⟨by simpa [compactW] using hk,by simpa [compactW] using hw.tasks,hw.outs,hw.ins,fun o ho => ?_⟩
 obtain ⟨n,hn,rfl⟩ := List.mem_map.1 ho
 exact movedO_few (small_few (smallW_obj hsm _ (obj_mem (hin n hn))))
def markN (m : List Int) (i : Nat) : Int := m.getD i 0
theorem markN_get {m : List Int} {i : Nat} (h : i < m.length) : markN m i = m[i] := by simp [markN,List.getD_eq_getElem?_getD,h]
theorem markN_out {m : List Int} {i : Nat} (h : m.length ≤ i) : markN m i = 0 := by simp [markN,List.getD_eq_getElem?_getD,List.getElem?_eq_none h]
def lookM (m : List Int) (n : Nat) (seen : List Int) : List Int := (List.range m.length).map fun i => if i = n then 2 else if markN m i = 0 ∧ memB seen (i : Nat) = true then 1 else markN m i
theorem lookM_len (m : List Int) (n : Nat) (seen : List Int) : (lookM m n seen).length = m.length := by simp [lookM]
theorem lookM_at {m : List Int} {n : Nat} {seen : List Int} {i : Nat} (h : i < m.length) : markN (lookM m n seen) i = if i = n then 2 else if markN m i = 0 ∧ memB seen (i : Nat) = true then 1 else markN m i := by
 rw [markN_get (by rw [lookM_len]; exact h)]; simp [lookM]
theorem lookM_nil {m : List Int} {n : Nat} (h : n < m.length) : m.set n 2 = lookM m n [] := by
 apply List.ext_getElem
 ·simp [lookM]
 ·intro i h1 h2
  have hi : i < m.length := by simpa using h1
  simp only [List.getElem_set,lookM,List.getElem_map,List.getElem_range,markN_get hi]
  by_cases hn : n = i
  ·simp [hn]
  ·have hn' : ¬ i = n := fun e => hn e.symm
   simp [hn,hn',memB]
theorem lookM_set {m : List Int} {n : Nat} {seen : List Int} {j : Nat} (hj : j < m.length) (h0 : markN (lookM m n seen) j = 0) : (lookM m n seen).set j 1 = lookM m n (seen ++ [(j : Int)]) := by
 rw [lookM_at hj] at h0
 apply List.ext_getElem
 ·simp [lookM]
 ·intro i h1 h2
  simp only [List.getElem_set,lookM,List.getElem_map,List.getElem_range,memB_append]
  by_cases hji : j = i
  ·subst hji
   by_cases hn : j = n
   ·rw [if_pos hn] at h0; cases h0
   ·rw [if_neg hn] at h0
    have hm : markN m j = 0 := by
     split at h0
     ·cases h0
     ·exact h0
    simp [hn,hm]
  ·have : decide ((j : Int) = (i : Int)) = false := by simp; omega
   simp only [this,Bool.or_false,if_neg hji]
theorem lookM_skip {m : List Int} {n : Nat} {seen : List Int} {j : Nat} (hj : j < m.length) (h0 : ¬ markN (lookM m n seen) j = 0) : lookM m n (seen ++ [(j : Int)]) = lookM m n seen := by
 rw [lookM_at hj] at h0
 unfold lookM
 refine List.map_congr_left fun i _ => ?_
 rw [memB_append]
 by_cases hji : j = i
 ·subst hji
  by_cases hn : j = n
  ·simp [hn]
  ·rw [if_neg hn] at h0
   by_cases hm : markN m j = 0
   ·by_cases hs : memB seen (j : Nat) = true
    ·simp [hs]
    ·rw [if_neg (fun h => hs h.2)] at h0; exact absurd hm h0
   ·simp [hm]
 ·have : decide ((j : Int) = (i : Int)) = false := by simp; omega
  simp only [this,Bool.or_false]
def lookedAt (w : MWorld) (m : List Int) (n : Nat) : List Int := lookM m n (refsOf (w.obj n))
def firstG : List Int → Nat
 | [] => 0
 | x :: l => if x = 1 then 0 else firstG l + 1
theorem firstG_spec : ∀ m : List Int,firstG m ≤ m.length ∧ (∀ i,i < firstG m → ¬ markN m i = 1) ∧ (firstG m < m.length → markN m (firstG m) = 1)
 | [] => ⟨Nat.le_refl _,fun i h => (by cases h),fun h => (by cases h)⟩
 | x :: l => by
  obtain ⟨h1,h2,h3⟩ := firstG_spec l
  by_cases hx : x = 1
  ·simp [firstG,hx,markN]
  ·simp only [firstG,if_neg hx,List.length_cons]
   refine ⟨by omega,fun i hi => ?_,fun hl => ?_⟩
   ·cases i with
    | zero => simpa [markN] using hx
    | succ i => have := h2 i (by omega); simpa [markN] using this
   ·have := h3 (by omega); simpa [markN] using this
theorem firstG_eq {m : List Int} {n : Nat} (hn : n < m.length) (h1 : markN m n = 1) (h2 : ∀ i,i < n → ¬ markN m i = 1) : firstG m = n := by
 obtain ⟨a,b,c⟩ := firstG_spec m
 by_cases h : firstG m < n
 ·exact absurd (c (by omega)) (h2 _ h)
 ·by_cases h' : n < firstG m
  ·exact absurd h1 (b _ h')
  ·omega
theorem firstG_none {m : List Int} (h2 : ∀ i,i < m.length → ¬ markN m i = 1) : firstG m = m.length := by
 obtain ⟨a,b,c⟩ := firstG_spec m
 by_cases h : firstG m < m.length
 ·exact absurd (c h) (h2 _ h)
 ·omega
def runS (w : MWorld) : Nat → List Int → List Int
 | 0,m => m
 | k + 1,m => if firstG m < m.length then runS w k (lookedAt w m (firstG m)) else m
theorem runS_none {w : MWorld} {m : List Int} (h : ¬ firstG m < m.length) (k : Nat) : runS w k m = m := by
 cases k with
 | zero => rfl
 | succ k => rw [runS,if_neg h]
theorem runS_len (w : MWorld) : ∀ (k : Nat) (m : List Int),(runS w k m).length = m.length
 | 0,m => rfl
 | k + 1,m => by
  rw [runS]; split
  ·rw [runS_len w k,lookedAt,lookM_len]
  ·rfl
structure MarksOk (w : MWorld) (m : List Int) : Prop where
 len : m.length = w.objs.length
 range : ∀ i,i < m.length → markN m i = 0 ∨ markN m i = 1 ∨ markN m i = 2
 tasks : ∀ i,i < w.objs.length → isTask (w.obj i) = true → ¬ markN m i = 0
 black : ∀ i,i < w.objs.length → markN m i = 2 → ∀ x ∈ refsOf (w.obj i),¬ markN m x.toNat = 0
theorem look_up {m : List Int} {n : Nat} {seen : List Int} {i : Nat} (h : ¬ markN m i = 0) : ¬ markN (lookM m n seen) i = 0 := by
 have hi : i < m.length := by
  by_cases hl : i < m.length
  ·exact hl
  ·exact absurd (markN_out (by omega)) h
 rw [lookM_at hi]
 split
 ·omega
 ·rw [if_neg (fun hh => h hh.1)]; exact h
theorem marks_look {w : MWorld} {m : List Int} (hin : InRange w) (h : MarksOk w m) (n : Nat) : MarksOk w (lookedAt w m n) := by
 refine ⟨by rw [lookedAt,lookM_len]; exact h.len,fun i hi => ?_,fun i hi ht => look_up (h.tasks i hi ht),fun i hi hb x hx => ?_⟩
 ·rw [lookedAt,lookM_len] at hi
  rw [lookedAt,lookM_at hi]
  split
  ·exact .inr (.inr rfl)
  ·split
   ·exact .inr (.inl rfl)
   ·exact h.range i hi
 ·have hg : w.obj i ∈ w.objs := by rw [objAt_get hi]; exact List.getElem_mem _
  have hxi := hin _ hg x hx
  simp only [inR,decide_eq_true_eq] at hxi
  obtain ⟨j,rfl⟩ := Int.eq_ofNat_of_zero_le hxi.1
  have hj : j < m.length := by rw [h.len]; omega
  rw [lookedAt,lookM_at (by rw [h.len]; exact hi)] at hb
  rw [Int.toNat_natCast]
  by_cases hin' : i = n
  ·subst hin'
   rw [lookedAt,lookM_at hj]
   split
   ·omega
   ·split
    ·omega
    ·rename_i h2
     intro h0
     exact h2 ⟨h0,memB_iff.2 hx⟩
  ·rw [if_neg hin'] at hb
   split at hb
   ·omega
   ·have := h.black i hi hb _ hx
    rw [Int.toNat_natCast] at this
    exact look_up this
theorem marks_run {w : MWorld} (hin : InRange w) : ∀ (k : Nat) {m : List Int},MarksOk w m → MarksOk w (runS w k m)
 | 0,m,h => h
 | k + 1,m,h => by
  rw [runS]; split
  ·exact marks_run hin k (marks_look hin h _)
  ·exact h
def notBlack (m : List Int) : Nat := ((List.range m.length).map fun i => if markN m i = 2 then 0 else 1).sum
theorem notBlack_look {m : List Int} {n : Nat} {seen : List Int} (hn : n < m.length) (h1 : markN m n = 1) : notBlack (lookM m n seen) + 1 = notBlack m := by
 have := sum_change (f := fun i => if markN (lookM m n seen) i = 2 then 0 else 1) (g := fun i => if markN m i = 2 then 0 else 1) m.length hn (fun i hi => by
  by_cases hl : i < m.length
  ·rw [lookM_at hl,if_neg hi]
   by_cases hc : markN m i = 0 ∧ memB seen (i : Nat) = true
   ·rw [if_pos hc,hc.1]; rfl
   ·rw [if_neg hc]
  ·rw [markN_out (m := m) (by omega),markN_out (m := lookM m n seen) (by rw [lookM_len]; omega)])
 have e1 : markN (lookM m n seen) n = 2 := by rw [lookM_at hn,if_pos rfl]
 simp only [e1,h1,if_true] at this
 rw [notBlack,notBlack,lookM_len]
 simpa using this
def goneTo (m : List Int) (k : Nat) : List Int := ((List.range k).filter fun i => decide (markN m i = 0)).map fun (i : Nat) => (i : Int)
def keepTo (m : List Int) (k : Nat) : List Int := ((List.range k).filter fun i => !decide (markN m i = 0)).map fun (i : Nat) => (i : Int)
def agesTo (s : RState) (m : List Int) (k : Nat) : List Int := ((List.range k).filter fun i => !decide (markN m i = 0)).map fun (i : Nat) => min (ageAt s i + 1) 2
theorem gone_t {m : List Int} {k : Nat} (h : markN m k = 0) : goneTo m (k + 1) = goneTo m k ++ [(k : Int)] := by
 rw [goneTo,List.range_succ,List.filter_append,List.map_append]; simp [h,goneTo]
theorem gone_f {m : List Int} {k : Nat} (h : ¬ markN m k = 0) : goneTo m (k + 1) = goneTo m k := by
 rw [goneTo,List.range_succ,List.filter_append,List.map_append]; simp [h,goneTo]
theorem keep_t {m : List Int} {k : Nat} (h : ¬ markN m k = 0) : keepTo m (k + 1) = keepTo m k ++ [(k : Int)] := by
 rw [keepTo,List.range_succ,List.filter_append,List.map_append]; simp [h,keepTo]
theorem keep_f {m : List Int} {k : Nat} (h : markN m k = 0) : keepTo m (k + 1) = keepTo m k := by
 rw [keepTo,List.range_succ,List.filter_append,List.map_append]; simp [h,keepTo]
theorem ages_t {s : RState} {m : List Int} {k : Nat} (h : ¬ markN m k = 0) : agesTo s m (k + 1) = agesTo s m k ++ [min (ageAt s k + 1) 2] := by
 rw [agesTo,List.range_succ,List.filter_append,List.map_append]; simp [h,agesTo]
theorem ages_f {s : RState} {m : List Int} {k : Nat} (h : markN m k = 0) : agesTo s m (k + 1) = agesTo s m k := by
 rw [agesTo,List.range_succ,List.filter_append,List.map_append]; simp [h,agesTo]
theorem gone_len (m : List Int) (k : Nat) : (goneTo m k).length ≤ k := by
 have := List.length_filter_le (fun i => decide (markN m i = 0)) (List.range k)
 simpa [goneTo] using this
theorem keepTo_len (m : List Int) (k : Nat) : (keepTo m k).length ≤ k := by
 have := List.length_filter_le (fun i => !decide (markN m i = 0)) (List.range k)
 simpa [keepTo] using this
theorem agesTo_len (s : RState) (m : List Int) (k : Nat) : (agesTo s m k).length = (keepTo m k).length := by simp [agesTo,keepTo]
theorem keep_mem {m : List Int} {k : Nat} {x : Int} : x ∈ keepTo m k ↔ ∃ i : Nat,x = i ∧ i < k ∧ ¬ markN m i = 0 := by
 simp only [keepTo,List.mem_map,List.mem_filter,List.mem_range,Bool.not_eq_true',decide_eq_false_iff_not]
 exact ⟨fun ⟨i,⟨h1,h2⟩,h3⟩ => ⟨i,h3.symm,h1,h2⟩,fun ⟨i,h3,h1,h2⟩ => ⟨i,⟨h1,h2⟩,h3.symm⟩⟩
theorem keep_rise (m : List Int) (k : Nat) : (keepTo m k).Pairwise (· < ·) := by
 unfold keepTo
 rw [List.pairwise_map]
 exact (List.Pairwise.filter _ List.pairwise_lt_range).imp fun h => by omega
theorem keep_inR {w : MWorld} {m : List Int} : ∀ x ∈ keepTo m w.objs.length,inR x 0 ((w.objs.length : Int) - 1) = true := by
 intro x hx
 obtain ⟨i,rfl,hi,_⟩ := keep_mem.1 hx
 simp only [inR,decide_eq_true_eq]; omega
theorem refVals_moved (keep : List Int) (l : List MVal) : refVals (movedL keep l) = (refVals l).map fun x => (keep.idxOf x : Int) := by
 induction l with
 | nil => rfl
 | cons v l ih =>
  have hk : isRef (movedV keep v) = isRef v := rfl
  by_cases h : isRef v = true
  ·have e : movedL keep (v :: l) = movedV keep v :: movedL keep l := rfl
   rw [e,refVals_t (hk.trans h),refVals_t h,ih]
   simp [movedV,h]
  ·have h' : isRef v = false := by simpa using h
   have e : movedL keep (v :: l) = movedV keep v :: movedL keep l := rfl
   rw [e,refVals_f (hk.trans h'),refVals_f h',ih]
theorem refs_moved (keep : List Int) (o : MObj) : refsOf (movedO keep o) = (refsOf o).map fun x => (keep.idxOf x : Int) := by
 have hf : ∀ l : List MFrame,(l.map (movedF keep)).flatMap frameRefs = (l.flatMap frameRefs).map fun x => (keep.idxOf x : Int) := by
  intro l
  induction l with
  | nil => rfl
  | cons f l ih =>
   simp only [List.map_cons,List.flatMap_cons,List.map_append,ih]
   congr 1
   simp only [frameRefs,movedF,refVals_moved,List.map_append]
 simp only [refsOf,movedO,refVals_moved,hf,List.map_append]
structure Shut (w : MWorld) (keep : List Int) : Prop where
 rise : keep.Pairwise (· < ·)
 rng : ∀ x ∈ keep,inR x 0 ((w.objs.length : Int) - 1) = true
 refs : ∀ n ∈ keep,∀ x ∈ refsOf (w.obj n),x ∈ keep
 len : keep.length ≤ w.objs.length
theorem compact_in {w : MWorld} {keep : List Int} (h : Shut w keep) : InRange (compactW w keep) := by
 intro o ho x hx
 obtain ⟨n,hn,rfl⟩ := List.mem_map.1 ho
 rw [refs_moved] at hx
 obtain ⟨y,hy,rfl⟩ := List.mem_map.1 hx
 have := List.idxOf_lt_length_of_mem (h.refs n hn y hy)
 simp only [inR,decide_eq_true_eq,compactW,List.length_map]; omega
theorem small_moved {keep : List Int} {o : MObj} (h : smallObj o = true) : smallObj (movedO keep o) = true := by
 simp only [smallObj,Bool.and_eq_true,decide_eq_true_eq,List.all_eq_true] at h ⊢
 refine ⟨⟨by simpa [movedO,movedL] using h.1.1,by simpa [movedO] using h.1.2⟩,fun f hf => ?_⟩
 obtain ⟨g,hg,rfl⟩ := List.mem_map.1 hf
 have := h.2 g hg
 simpa [movedF,movedL] using this
theorem small_compact {w : MWorld} {keep : List Int} (hs : smallWorld w = true) (h : Shut w keep) : smallWorld (compactW w keep) = true := by
 have hl := h.len
 have hso := smallW_obj hs
 simp only [smallWorld,Bool.and_eq_true,decide_eq_true_eq,List.all_eq_true] at hs ⊢
 refine ⟨⟨⟨⟨by simp only [compactW,List.length_map]; omega,by simpa [compactW] using hs.1.1.1.2⟩,hs.1.1.2⟩,hs.1.2⟩,fun o ho => ?_⟩
 obtain ⟨n,hn,rfl⟩ := List.mem_map.1 ho
 exact small_moved (hso _ (obj_mem (h.rng n hn)))
theorem shut_marks {w : MWorld} {m : List Int} (h : MarksOk w m) (hin : InRange w) (hg : ¬ firstG m < m.length) : Shut w (keepTo m w.objs.length) ∧ ∀ t,(∃ i : Nat,t = (i : Int) ∧ i < w.objs.length ∧ isTask (w.obj i) = true) → t ∈ keepTo m w.objs.length := by
 obtain ⟨a,b,_⟩ := firstG_spec m
 refine ⟨⟨keep_rise m _,keep_inR,fun n hn x hx => ?_,keepTo_len m _⟩,fun t ⟨i,h1,h2,h3⟩ => keep_mem.2 ⟨i,h1,h2,h.tasks i h2 h3⟩⟩
 obtain ⟨i,rfl,hi,hm⟩ := keep_mem.1 hn
 have h1 : ¬ markN m i = 1 := b i (by have := h.len; omega)
 have h2 : markN m i = 2 := by
  rcases h.range i (by rw [h.len]; exact hi) with h | h | h
  ·exact absurd h hm
  ·exact absurd h h1
  ·exact h
 have hgm : w.obj i ∈ w.objs := by rw [objAt_get hi]; exact List.getElem_mem _
 have hxi := hin _ hgm x hx
 simp only [inR,decide_eq_true_eq] at hxi
 exact keep_mem.2 ⟨x.toNat,by omega,by omega,h.black i hi h2 x hx⟩
def nextS (s : RState) (m : List Int) : RState := ⟨compactW s.world (keepTo m s.world.objs.length),agesTo s m s.world.objs.length,marksB lt2 (compactW s.world (keepTo m s.world.objs.length)) (agesTo s m s.world.objs.length) ((s.cycle + 1).tmod 4),(s.cycle + 1).tmod 4⟩
def sliceS (s : RState) (most : Nat) : RState := if firstG (runS s.world most s.marks) < (runS s.world most s.marks).length then ⟨s.world,s.ages,runS s.world most s.marks,s.cycle⟩ else nextS s (runS s.world most s.marks)
def sliceG (s : RState) (most : Nat) : List Int := if firstG (runS s.world most s.marks) < (runS s.world most s.marks).length then [] else goneTo (runS s.world most s.marks) s.world.objs.length
def sliceE (s : RState) (most : Nat) : Bool := !decide (firstG (runS s.world most s.marks) < (runS s.world most s.marks).length)
theorem ints_get {m : List Int} {i : Nat} (h : i < m.length) : (m.map (Val.int .i64))[i]? = some (.int .i64 (markN m i)) := by simp [markN_get h,h]
theorem ints_set {m : List Int} {i : Nat} {x : Int} : (m.map (Val.int .i64)).set i (.int .i64 x) = (m.set i x).map (.int .i64) := by rw [List.map_set]
theorem MineO.shape {en : En} {v : Val} {size : Nat} {xs : List Val} {t : Nat} (h : MineO en v size xs t) : v.one = true ∧ v.cells = [v] := h.mine.shape
theorem MineO.keep {en en' : En} {v : Val} {size : Nat} {xs : List Val} {t : Nat} (h : MineO en v size xs t) (k : ∀ g,en' ⟨0,t,g⟩ = en ⟨0,t,g⟩) : MineO en' v size xs t := by
 rcases h with h | ⟨g,h1,h2⟩
 ·exact .inl h
 ·exact .inr ⟨g,h1,by rw [k]; exact h2⟩
def ne2 (a : Int) : Bool := !decide (a = 2)
theorem any_mem {α : Type} {a b : List α} (h : ∀ x,x ∈ a ↔ x ∈ b) (p : α → Bool) : a.any p = b.any p := by
 rw [Bool.eq_iff_iff]; simp only [List.any_eq_true]
 exact ⟨fun ⟨x,hx,k⟩ => ⟨x,(h x).1 hx,k⟩,fun ⟨x,hx,k⟩ => ⟨x,(h x).2 hx,k⟩⟩
theorem ageN_range {ages : List Int} (h : ∀ a ∈ ages,inR a 0 2 = true) (r : Int) : inR (ageN ages r) 0 2 = true := by
 unfold ageN
 rw [List.getD_eq_getElem?_getD]
 cases hg : ages[r.toNat]? with
 | none => rfl
 | some a => exact h a (List.mem_of_getElem? hg)
theorem markB_young {w : MWorld} {ages : List Int} (h : ∀ a ∈ ages,inR a 0 2 = true) (c : Int) (i : Nat) : markB ne2 w ages c i = markB lt2 w ages c i := by
 have : ∀ r,ne2 (ageN ages r) = lt2 (ageN ages r) := fun r => by
  have := ageN_range h r
  simp only [inR,decide_eq_true_eq] at this
  rw [Bool.eq_iff_iff]; simp [ne2,lt2]; omega
 simp only [markB,this]
def partB (ages : List Int) (done : List Int) : Int := if done.any (fun r => ne2 (ageN ages r)) = true then 1 else 2
theorem partB_step (ages : List Int) (done : List Int) (x : Int) : partB ages (done ++ [x]) = if ne2 (ageN ages x) = true then 1 else partB ages done := by
 unfold partB
 rw [List.any_append]
 simp only [List.any_cons,List.any_nil,Bool.or_false]
 by_cases h : ne2 (ageN ages x) = true
 ·simp [h]
 ·simp [h]
def OI (w : MWorld) (ages : List Int) (c : Int) (m : Nat → Int) (k g1 g2 g13 gk : Nat) (vA : Val) (all : List Int) (en0 : En) (fr0 : Nat → Val) (gl : Nat) (r : List Int) (en : En) (cnt : Nat → Nat → Nat) : Prop :=
 en ⟨1,0,gl⟩ = some (.loop fr0 [57] (LCode.ops [o 4 (.mv (.t 57))]) (LCode.block 4 (.seq (.ops [o 58 (.load false 1 (.t 1)),o 59 (.mv (.t 4)),o 60 (.call (.f F.reap_collector_old) [(.t 58),(.t 59)]),o 61 (.un .not (.t 60))]) (.cond (.t 61) (.draw [o 62 (.load false 1 (.t 1)),o 63 (.nilck (.t 62)),o 64 (.fa 0 (.t 63)),o 65 (.fa 6 (.t 64)),o 66 (.load false 1 (.t 65)),o 67 (.load false 1 (.t 2)),o 68 (.ia 1 (.t 66) (.t 67)),on (.store 1 (.t 68) (.c (.int .i64 1)))] []) .skip))) .ready) ∧ en ⟨0,1,g1⟩ = some (.box [.ptr ⟨0,16,gk⟩ 0] false) ∧ en ⟨0,2,g2⟩ = some (.box [.int .i64 k] false) ∧ en ⟨0,16,gk⟩ = some (.box [.fz (w.objs.map MObj.enc),.fz (w.tasks.map (.int .i64)),.fz (w.outs.map MOut.enc),.fz (w.ins.map (.int .i64)),.int .i64 w.used,vA,.bl ⟨0,13,g13⟩ 0 w.objs.length,.int .i64 c] false) ∧ Mine en vA 1 (ages.map (.int .i64)) [120] ∧ g2 + 1 ≤ cnt 0 2 ∧ 1 ≤ cnt 0 6 ∧ en ⟨0,6,0⟩ = en0 ⟨0,6,0⟩ ∧
 (∀ g,en ⟨0,103,g⟩ = en0 ⟨0,103,g⟩) ∧ ∃ done,done ++ r = all ∧ en ⟨0,13,g13⟩ = some (.blk 1 (((marksTo m w.objs.length k).set k (partB ages done)).map (.int .i64)) false)
theorem old_rounds (w : MWorld) (ages : List Int) (c : Int) (m : Nat → Int) (k g1 g2 g13 gk : Nat) (vA : Val) (all : List Int) (en0 : En) {fr0 : Nat → Val} {gl : Nat} {c0 : Nat → Nat} (hk : k < w.objs.length) (hal : ages.length = w.objs.length) (q1 : fr0 1 = .ptr ⟨0,1,g1⟩ 0) (q2 : fr0 2 = .ptr ⟨0,2,g2⟩ 0)
  (hino : ∀ x ∈ all,inR x 0 ((w.objs.length : Int) - 1) = true) (hc2 : g2 + 1 ≤ c0 2) (hc6 : 1 ≤ c0 6) : Rounds ⟨1,0,gl⟩ c0 (OI w ages c m k g1 g2 g13 gk vA all en0 fr0 gl) (fun _ _ => False) := by
 refine ⟨?_,?_⟩
 ·rintro r en cnt en' cnt' ⟨i1,j1,j2,j16,mA,hg2,hg6,e6,e103,done,hd,j13⟩ hout hcnt hge
  have h2 := hge 2 (by decide)
  have h6 := hge 6 (by decide)
  exact ⟨(hout 1 0 gl (.inl (by omega))).trans i1,(hout 0 1 g1 (.inr (.inl (by decide)))).trans j1,(hout 0 2 g2 (.inr (.inr (by omega)))).trans j2,(hout 0 16 gk (.inr (.inl (by decide)))).trans j16,mA.keep fun t g ht => hout 0 t g (.inr (.inl (by simp at ht; subst ht; decide))),by omega,by omega,(hout 0 6 0 (.inr (.inr (by omega)))).trans e6,fun g => (hout 0 103 g (.inr (.inl (by decide)))).trans (e103 g),done,hd,(hout 0 13 g13 (.inr (.inl (by decide)))).trans j13⟩
 ·rintro x rest en cnt ⟨i1,j1,j2,j16,mA,hg2,hg6,e6,e103,done,hd,j13⟩
  have hxi := hino x (by rw [← hd]; simp)
  have hxi' := hxi
  simp only [inR,decide_eq_true_eq] at hxi'
  obtain ⟨j,rfl⟩ := Int.eq_ofNat_of_zero_le hxi'.1
  have hj : j < ages.length := by omega
  have hne : ages.map (Val.int .i64) ≠ [] := by intro h; have : ages.length = 0 := by { rw [← List.length_map (f := Val.int .i64),h]; rfl }; omega
  obtain ⟨L1,hL1⟩ : ∃ L1,L1 = (marksTo m w.objs.length k).set k (partB ages done) := ⟨_,rfl⟩
  rw [← hL1] at j13
  have hl1 : L1.length = w.objs.length := by rw [hL1]; simp [marksTo_len]
  obtain ⟨ks,s1⟩ := mine_fz (mA.keep (en' := en.set ⟨1,0,gl⟩ (some (.loop fr0 [57] (LCode.ops [o 4 (.mv (.t 57))]) (LCode.block 4 (.seq (.ops [o 58 (.load false 1 (.t 1)),o 59 (.mv (.t 4)),o 60 (.call (.f F.reap_collector_old) [(.t 58),(.t 59)]),o 61 (.un .not (.t 60))]) (.cond (.t 61) (.draw [o 62 (.load false 1 (.t 1)),o 63 (.nilck (.t 62)),o 64 (.fa 0 (.t 63)),o 65 (.fa 6 (.t 64)),o 66 (.load false 1 (.t 65)),o 67 (.load false 1 (.t 2)),o 68 (.ia 1 (.t 66) (.t 67)),on (.store 1 (.t 68) (.c (.int .i64 1)))] []) .skip))) .busy))) fun t g ht => by simp at ht; subst ht; exact en_ne (by intro he; injection he with h1 _ _; omega)) hne 6
  have htk : (L1.map (Val.int .i64)).take w.objs.length = L1.map (.int .i64) := List.take_of_length_le (by simp [hl1])
  have hold : PC L F.reap_collector_old [.fp [.fz (w.objs.map MObj.enc),.fz (w.tasks.map (.int .i64)),.fz (w.outs.map MOut.enc),.fz (w.ins.map (.int .i64)),.int .i64 w.used,.fz (ages.map (.int .i64)),.fz (L1.map (.int .i64)),.int .i64 c] 0,.int .i64 j] (.bool (decide (ages[j] = 2))) := reap_old_pc ⟨w,ages,L1,c⟩ j hj
  have hc1 : (0 : Int) ≤ (k : Int) := by omega
  have hc2' : (k : Int) < (w.objs.length : Int) := by omega
  have hgk : (L1.map (Val.int .i64))[k]? = some (.int .i64 (partB ages done)) := by rw [hL1]; simp [marksTo_len,hk]
  have hps := partB_step ages done (j : Int)
  have han : ageN ages (j : Int) = ages[j] := ageN_get hj
  refine win_yld (fr := fr0) (ps := [57]) (a := (LCode.ops [o 4 (.mv (.t 57))])) (b := (LCode.block 4 (.seq (.ops [o 58 (.load false 1 (.t 1)),o 59 (.mv (.t 4)),o 60 (.call (.f F.reap_collector_old) [(.t 58),(.t 59)]),o 61 (.un .not (.t 60))]) (.cond (.t 61) (.draw [o 62 (.load false 1 (.t 1)),o 63 (.nilck (.t 62)),o 64 (.fa 0 (.t 63)),o 65 (.fa 6 (.t 64)),o 66 (.load false 1 (.t 65)),o 67 (.load false 1 (.t 2)),o 68 (.ia 1 (.t 66) (.t 67)),on (.store 1 (.t 68) (.c (.int .i64 1)))] []) .skip)))) i1 rfl ?_
  simp only [go_sem,qC,qG,qW,q1,q2,i1,j1,j2,j16,j13,s1,hl1,htk,hold.ret,Nat.le_refl,if_true,List.length_map]
  refine condK_split (fun hb => ?_) (fun hb => ?_)
  ·have hyn : ne2 (ageN ages (j : Int)) = true := by rw [han]; exact hb
   rw [if_pos hyn] at hps
   have hst : (L1.map (Val.int .i64)).set k (.int .i64 1) = ((marksTo m w.objs.length k).set k (partB ages (done ++ [(j : Int)]))).map (.int .i64) := by rw [hps,hL1,← List.map_set,List.set_set]
   simp only [go_sem,qC,qG,qW,q1,q2,i1,j1,j2,j16,j13,hl1,hgk,hst,hc1,hc2',true_and,and_true,eq_self,if_true,Nat.zero_add,Int.toNat_natCast,List.length_map,Nat.le_refl]
   refine ⟨fun t g ht hg => ?_,fun _ _ => trivial,.inl ⟨?_,?_,?_,?_,?_,hg2,hg6,?_,?_,done ++ [(j : Int)],by rw [← hd]; simp,?_⟩⟩
   ·have n1 : (⟨0,t,g⟩ : Key) ≠ ⟨1,0,gl⟩ := by intro he; injection he with h1 _ _; omega
    have n2 : (⟨0,t,g⟩ : Key) ≠ ⟨0,13,g13⟩ := by intro he; injection he with _ h2 h3; subst h2; simp [T4] at ht
    rw [en_ne n1,en_ne n2,en_ne n1]
   ·try simp only [go_sem,qW]
    try rfl
   ·simp only [go_sem,qW,j1]
   ·simp only [go_sem,qW,j2]
   ·simp only [go_sem,qW,j16]
   ·exact mA.keep fun t g ht => by simp at ht; subst ht; simp only [go_sem,qW]; try rfl
   ·simp only [go_sem,qW,e6]
   ·intro g; simp only [go_sem,qW,e103]
   ·simp only [go_sem,qW]
  ·have hyn : ¬ ne2 (ageN ages (j : Int)) = true := by rw [han]; intro h; rw [ne2] at h; rw [h] at hb; cases hb
   rw [if_neg hyn] at hps
   simp only [go_sem,qC,qG,qW,q1,q2,i1,j1,j2,j16,j13]
   refine ⟨fun t g ht hg => ?_,fun _ _ => trivial,.inl ⟨?_,?_,?_,?_,?_,hg2,hg6,?_,?_,done ++ [(j : Int)],by rw [← hd]; simp,?_⟩⟩
   ·have n1 : (⟨0,t,g⟩ : Key) ≠ ⟨1,0,gl⟩ := by intro he; injection he with h1 _ _; omega
    rw [en_ne n1,en_ne n1]
   ·try simp only [go_sem,qW]
    try rfl
   ·simp only [go_sem,qW,j1]
   ·simp only [go_sem,qW,j2]
   ·simp only [go_sem,qW,j16]
   ·exact mA.keep fun t g ht => by simp at ht; subst ht; simp only [go_sem,qW]; try rfl
   ·simp only [go_sem,qW,e6]
   ·intro g; simp only [go_sem,qW,e103]
   ·rw [hps,← hL1]; simp only [go_sem,qW,j13]
theorem mine_fzK {en : En} {v : Val} {size t : Nat} {xs : List Val} (h : Mine en v size xs [t]) (hx : xs ≠ []) (n : Nat) : ∃ ks,∀ en' : En,(∀ g,en' ⟨0,t,g⟩ = en ⟨0,t,g⟩) → snapD (n + 1) en' v = some (.fz xs,ks) := by
 rcases h with ⟨_,h⟩ | ⟨t',g,f,rfl,h2,ht⟩
 ·exact absurd h hx
 ·have : t' = t := by simpa using ht
  subst this
  exact ⟨[⟨0,t',g⟩],fun en' he => by simp [snapD,he,h2]⟩
theorem begin_win (w : MWorld) (ages : List Int) (c : Int) (hw : w.few) (hs : smallWorld w = true) (hal : ages.length = w.objs.length) (har : ∀ a ∈ ages,inR a 0 2 = true) (hin : InRange w) {en : En} {cnt : Nat → Nat → Nat} {gk : Nat} {vA vM : Val}
  (e16 : en ⟨0,16,gk⟩ = some (.box [.fz (w.objs.map MObj.enc),.fz (w.tasks.map (.int .i64)),.fz (w.outs.map MOut.enc),.fz (w.ins.map (.int .i64)),.int .i64 w.used,vA,vM,.int .i64 c] false)) (mA : Mine en vA 1 (ages.map (.int .i64)) [120]) (c6 : 1 ≤ cnt 0 6) :
  WIn L (.fn F.reap_collector_begin [] []) [.ptr ⟨0,16,gk⟩ 0] en cnt fun _ en' cnt' => ∃ g13,en' ⟨0,16,gk⟩ = some (.box [.fz (w.objs.map MObj.enc),.fz (w.tasks.map (.int .i64)),.fz (w.outs.map MOut.enc),.fz (w.ins.map (.int .i64)),.int .i64 w.used,vA,.bl ⟨0,13,g13⟩ 0 w.objs.length,.int .i64 c] false) ∧ Mine en' vA 1 (ages.map (.int .i64)) [120] ∧ en' ⟨0,13,g13⟩ = some (.blk 1 ((marksB lt2 w ages c).map (.int .i64)) false) ∧ en' ⟨0,6,0⟩ = en ⟨0,6,0⟩ ∧ ∀ g,en' ⟨0,103,g⟩ = en ⟨0,103,g⟩ := by
 obtain ⟨b1,b2,b3,b4⟩ := smallW_len hs
 have hmk : w.objs.length ≤ 16777216 := by omega
 obtain ⟨en0,hen0⟩ : ∃ e,e = en := ⟨_,rfl⟩
 obtain ⟨g1,hg1⟩ : ∃ g,g = cnt 0 1 := ⟨_,rfl⟩
 obtain ⟨g13,hg13⟩ : ∃ g,g = cnt 0 13 := ⟨_,rfl⟩
 have hmb : marksB lt2 w ages c = (List.range w.objs.length).map (markB ne2 w ages c) := List.map_congr_left fun i _ => (markB_young har c i).symm
 rw [hmb]
 refine win_of LF.reap_collector_begin rfl rfl ?_
 simp only [go_sem,qC,qG,qW,C.reap_collector_begin,box_any (v := .ptr ⟨0,16,gk⟩ 0) rfl rfl,← hg1]
 refine wp_foot ?_
 simp only [go_sem,qC,qG,qW,List.all_cons,List.getElem?_cons_zero,List.getElem?_cons_succ,Bool.true_or,Bool.or_true,Option.getD_some,mk_nat hmk,← hg1,← hg13,e16,one_bl,cells_bl]
 have hmz := marksTo_zero (markB ne2 w ages c) w.objs.length
 refine wp_for w.objs.length (fun k st => ∃ fr en cnt,st = ⟨fr,en,cnt⟩ ∧ fr 1 = .ptr ⟨0,1,g1⟩ 0 ∧ en ⟨0,1,g1⟩ = some (.box [.ptr ⟨0,16,gk⟩ 0] false) ∧ en ⟨0,16,gk⟩ = some (.box [.fz (w.objs.map MObj.enc),.fz (w.tasks.map (.int .i64)),.fz (w.outs.map MOut.enc),.fz (w.ins.map (.int .i64)),.int .i64 w.used,vA,.bl ⟨0,13,g13⟩ 0 w.objs.length,.int .i64 c] false) ∧ en ⟨0,13,g13⟩ = some (.blk 1 ((marksTo (markB ne2 w ages c) w.objs.length k).map (.int .i64)) false) ∧ fr 22 = .fz (w.objs.map MObj.enc) ∧ fr 23 = .int .i64 w.objs.length ∧ fr 24 = .int .i64 k ∧ Mine en vA 1 (ages.map (.int .i64)) [120] ∧ 1 ≤ cnt 0 6 ∧ en ⟨0,6,0⟩ = en0 ⟨0,6,0⟩ ∧ ∀ g,en ⟨0,103,g⟩ = en0 ⟨0,103,g⟩) 0 (Nat.zero_le _)
  ⟨_,_,_,rfl,by simp only [go_sem,qW],by simp only [go_sem,qW],by simp only [go_sem,qW],by rw [hmz]; simp only [go_sem,qW],by simp only [go_sem,qW],by simp only [go_sem,qW],by simp only [go_sem,qW],mA.keep (fun t g ht => by simp at ht; subst ht; simp only [go_sem,qW]),by simp only [go_sem,qW]; try exact c6,by simp only [go_sem,hen0],by intro g; simp only [go_sem,qW,hen0]⟩ ?_
 clear mA e16 c6
 rintro k st hk ⟨fr,en,cnt,rfl,h1,e1,e16,e13,h22,h23,h24,mA,c6,q6,q103⟩
 simp only [go_sem,qC,qG,qW,h1,e1,e16,h22,h23,h24]
 refine condK_split (fun hq => ?_) (fun hq => ?_)
 ·have h' : k < w.objs.length := of_decide_eq_true hq
  have hka : k < ages.length := by omega
  obtain ⟨g2,hg2⟩ : ∃ g,g = cnt 0 2 := ⟨_,rfl⟩
  obtain ⟨g3,hg3⟩ : ∃ g,g = cnt 0 3 := ⟨_,rfl⟩
  have hmg := marksTo_get (m := markB ne2 w ages c) h'
  have hml := marksTo_len (markB ne2 w ages c) w.objs.length k
  have hc1 : (0 : Int) ≤ (k : Int) := by omega
  have hc2 : (k : Int) < (w.objs.length : Int) := by omega
  have hne : ages.map (Val.int .i64) ≠ [] := by intro h; have : ages.length = 0 := by { rw [← List.length_map (f := Val.int .i64),h]; rfl }; omega
  obtain ⟨ks,s1⟩ := mine_fzK mA hne 6
  have htk : ((marksTo (markB ne2 w ages c) w.objs.length k).map (Val.int .i64)).take w.objs.length = (marksTo (markB ne2 w ages c) w.objs.length k).map (.int .i64) := List.take_of_length_le (by simp [marksTo_len])
  have hfull : PC L F.reap_collector_full [.fp [.fz (w.objs.map MObj.enc),.fz (w.tasks.map (.int .i64)),.fz (w.outs.map MOut.enc),.fz (w.ins.map (.int .i64)),.int .i64 w.used,.fz (ages.map (.int .i64)),.fz ((marksTo (markB ne2 w ages c) w.objs.length k).map (.int .i64)),.int .i64 c] 0] (.bool (decide (c = 3))) := reap_full_pc ⟨w,ages,marksTo (markB ne2 w ages c) w.objs.length k,c⟩
  have hold : PC L F.reap_collector_old [.fp [.fz (w.objs.map MObj.enc),.fz (w.tasks.map (.int .i64)),.fz (w.outs.map MOut.enc),.fz (w.ins.map (.int .i64)),.int .i64 w.used,.fz (ages.map (.int .i64)),.fz ((marksTo (markB ne2 w ages c) w.objs.length k).map (.int .i64)),.int .i64 c] 0,.int .i64 k] (.bool (decide (ages[k] = 2))) := reap_old_pc ⟨w,ages,marksTo (markB ne2 w ages c) w.objs.length k,c⟩ k hka
  simp only [go_sem,qC,qG,qW,h',h1,e1,e16,h22,h23,h24,← hg2,← hg3,(reap_isTask_pc _).ret]
  refine condK_split (fun hT => ?_) (fun hT => ?_)
  ·have hmm : markB ne2 w ages c k = 1 := by rw [markB,objAt_get h',if_pos hT]
   have hset : ((marksTo (markB ne2 w ages c) w.objs.length k).map (Val.int .i64)).set k (.int .i64 1) = (marksTo (markB ne2 w ages c) w.objs.length (k + 1)).map (.int .i64) := by rw [← marksTo_set,hmm]
   simp only [go_sem,qC,qG,qW,h',h1,e1,e16,e13,h22,h23,h24,hc1,hc2,hmg,hml,true_and,and_true,eq_self,if_true,Nat.zero_add,Int.toNat_natCast,List.length_map,Nat.le_refl]
   refine ⟨_,_,_,rfl,?_⟩
   simp only [go_sem,qC,qG,qW,h',h1,e1,e16,e13,h22,h23,h24,hset,wrap_succ h' hw.objs]
   exact ⟨mA.keep (fun t g ht => by simp at ht; subst ht; simp only [go_sem,qW]),c6,q6,q103⟩
  ·have hnt : ¬ isTask (w.obj k) = true := by rw [objAt_get h',hT]; decide
   have skip : markB ne2 w ages c k = 0 → marksTo (markB ne2 w ages c) w.objs.length (k + 1) = marksTo (markB ne2 w ages c) w.objs.length k := marksTo_skip
   simp only [go_sem,qC,qG,qW,h',h1,e1,e16,e13,h22,h23,h24,s1,htk,implies_true,List.length_map,hml,Nat.le_refl,if_true,hfull.ret]
   refine guardK_split (fun gf => ?_) (fun gf => ?_)
   ·simp only [go_sem,qC,qG,qW,gf,h',h1,e1,e16,e13,h22,h23,h24,s1,htk,implies_true,List.length_map,hml,Nat.le_refl,if_true,hold.ret]
    refine condK_split (fun go => ?_) (fun go => ?_)
    ·have hp0 : partB ages [] = 2 := rfl
     have hset2 : ((marksTo (markB ne2 w ages c) w.objs.length k).map (Val.int .i64)).set k (.int .i64 2) = ((marksTo (markB ne2 w ages c) w.objs.length k).set k (partB ages [])).map (.int .i64) := by rw [hp0,List.map_set]
     simp only [go_sem,qC,qG,qW,h',h1,e1,e16,e13,h22,h23,h24,hc1,hc2,hmg,hml,hset2,true_and,and_true,eq_self,if_true,Nat.zero_add,Int.toNat_natCast,List.length_map,Nat.le_refl,(reap_refs_pc _).ret]
     refine wp_range (f := F.reap_refs_c1) (x := []) (y := [.fp [.int .i64 w.objs[k].form,.int .i64 w.objs[k].n,.fz (w.objs[k].vals.map MVal.enc),.fz (w.objs[k].frames.map MFrame.enc)] 0]) (by simp only [go_sem,qW]) ?_
     intro fr0 key hfr0 hkey
     have r1 : fr0 1 = .ptr ⟨0,1,g1⟩ 0 := by rw [hfr0]; simp only [go_sem,qW,h1]
     have r2 : fr0 2 = .ptr ⟨0,2,g2⟩ 0 := by rw [hfr0]; simp only [go_sem,qW]
     have r22 : fr0 22 = .fz (w.objs.map MObj.enc) := by rw [hfr0]; simp only [go_sem,qW,h22]
     have r23 : fr0 23 = .int .i64 w.objs.length := by rw [hfr0]; simp only [go_sem,qW,h23]
     have r24 : fr0 24 = .int .i64 k := by rw [hfr0]; simp only [go_sem,qW,h24]
     obtain ⟨gl,rfl⟩ : ∃ gl,key = ⟨1,0,gl⟩ := ⟨_,hkey⟩
     obtain ⟨c0,hc0⟩ : ∃ c0,c0 = setCnt (setCnt (setCnt cnt 0 2 (g2 + 1)) 0 3 (g3 + 1)) 1 0 (cnt 1 0 + 1) 0 := ⟨_,rfl⟩
     have hcc2 : g2 + 1 ≤ c0 2 := by rw [hc0]; simp [setCnt]
     have hcc6 : 1 ≤ c0 6 := by rw [hc0]; simpa [setCnt] using c6
     have hso := smallW_obj hs _ (List.getElem_mem h')
     have hr := old_rounds w ages c (markB ne2 w ages c) k g1 g2 g13 gk vA (refsOf w.objs[k]) en0 (fr0 := fr0) (gl := gl) (c0 := c0) h' hal r1 r2 (hin _ (List.getElem_mem h')) hcc2 hcc6
     rw [hc0] at hr
     have hfin : partB ages (refsOf w.objs[k]) = markB ne2 w ages c k := by
      rw [markB,if_neg hnt,if_pos (by rw [ageN_get hka,go,gf]; rfl),objAt_get h',partB,any_mem (refs_mem w.objs[k])]
     have hsetf : (marksTo (markB ne2 w ages c) w.objs.length k).set k (partB ages (refsOf w.objs[k])) = marksTo (markB ne2 w ages c) w.objs.length (k + 1) := by
      rw [hfin]
      have h := marksTo_set (m := markB ne2 w ages c) (n := w.objs.length) (k := k)
      rw [← List.map_set] at h
      apply List.ext_getElem
      ·simp [marksTo_len]
      ·intro i h1 h2
       have hh := congrArg (fun l => l[i]?) h
       simp only [List.getElem?_map,List.getElem?_eq_getElem h1,List.getElem?_eq_getElem h2,Option.map_some,Option.some.injEq,Val.int.injEq,true_and] at hh
       exact hh
     refine (refs_win w.objs[k] (small_few hso) hr ⟨by simp only [go_sem,qW],by simp only [go_sem,e1],by simp only [go_sem,qW],by simp only [go_sem,e16],mA.keep (fun t g ht => by simp at ht; subst ht; simp only [go_sem,qW]),by simp [setCnt],by simpa [setCnt] using c6,by simp only [go_sem,q6],by intro g; simp only [go_sem,qW,q103],[],rfl,by simp only [go_sem,qW]⟩).mono ?_
     rintro v en' cnt' (⟨i1,j1,j2,j16,mA',hg2',hg6,e6,e103,done,hd,j13⟩ | hF)
     ·rw [List.append_nil] at hd
      subst hd
      rw [hsetf] at j13
      simp only [go_sem,qC,qG,qW,i1,j1,j2,j16,r1,r2,r22,r23,r24,h1,h22,h23,h24]
      refine ⟨_,_,_,rfl,?_⟩
      simp only [go_sem,qC,qG,qW,j1,j2,j16,j13,r1,r2,r22,r23,r24,h',h1,h22,h23,h24,wrap_succ h' hw.objs]
      exact ⟨mA'.keep (fun t g ht => by simp at ht; subst ht; exact en_ne (by intro he; injection he with h1 _ _; omega)),hg6,by simp only [go_sem,e6],by intro g; simp only [go_sem,qW,e103]⟩
     ·exact hF.elim
    ·rw [skip (by rw [markB,if_neg hnt,if_neg (by rw [ageN_get hka,go,Bool.and_false]; decide)])]
     simp only [go_sem,qC,qG,qW,h',h1,e1,e16,e13,h22,h23,h24]
     refine ⟨_,_,_,rfl,?_⟩
     simp only [go_sem,qC,qG,qW,h',h1,e1,e16,e13,h22,h23,h24,wrap_succ h' hw.objs]
     exact ⟨mA.keep (fun t g ht => by simp at ht; subst ht; simp only [go_sem,qW]),c6,q6,q103⟩
   ·rw [skip (by rw [markB,if_neg hnt,if_neg (by rw [gf]; simp)])]
    simp only [go_sem,qC,qG,qW,gf,h',h1,e1,e16,e13,h22,h23,h24,Bool.not_true]
    refine ⟨_,_,_,rfl,?_⟩
    simp only [go_sem,qC,qG,qW,h',h1,e1,e16,e13,h22,h23,h24,wrap_succ h' hw.objs]
    exact ⟨mA.keep (fun t g ht => by simp at ht; subst ht; simp only [go_sem,qW]),c6,q6,q103⟩
 ·have : k = w.objs.length := by simp at hq; omega
  subst this
  rw [marksTo_full] at e13
  simp only [go_sem,qC,qG,qW]
  exact ⟨g13,e16,mA,e13,by rw [q6,hen0],fun g => by rw [q103,hen0]⟩
theorem own_win2 (s : RState) (hs : s.few) (hsm : smallState s = true) {en : En} {cnt : Nat → Nat → Nat} :
  WIn L (.fn F.reap_own [] []) [.agg [.fz (s.world.objs.map MObj.enc),.fz (s.world.tasks.map (.int .i64)),.fz (s.world.outs.map MOut.enc),.fz (s.world.ins.map (.int .i64)),.int .i64 s.world.used,.fz (s.ages.map (.int .i64)),.fz (s.marks.map (.int .i64)),.int .i64 s.cycle]] en cnt fun v en' cnt' => ∃ g16 vA vM,v = .ptr ⟨0,16,g16⟩ 0 ∧ en' ⟨0,16,g16⟩ = some (.box [.fz (s.world.objs.map MObj.enc),.fz (s.world.tasks.map (.int .i64)),.fz (s.world.outs.map MOut.enc),.fz (s.world.ins.map (.int .i64)),.int .i64 s.world.used,vA,vM,.int .i64 s.cycle] false) ∧
   MineO en' vA 1 (s.ages.map (.int .i64)) 8 ∧ MineO en' vM 1 (s.marks.map (.int .i64)) 11 ∧ (∀ t g,¬ t = 1 → ¬ t = 8 → ¬ t = 11 → ¬ t = 16 → en' ⟨0,t,g⟩ = en ⟨0,t,g⟩) ∧ (∀ t,¬ t = 1 → ¬ t = 8 → ¬ t = 11 → ¬ t = 16 → cnt' 0 t = cnt 0 t) ∧ ∀ g,vA = .bl ⟨0,8,g⟩ 0 s.ages.length → g < cnt' 0 8 := by
 have hsw : smallWorld s.world = true ∧ (s.ages.length : Int) ≤ 130 ∧ (s.marks.length : Int) ≤ 130 := by
  simp only [smallState,Bool.and_eq_true,decide_eq_true_eq] at hsm
  exact ⟨hsm.1.1,hsm.1.2,hsm.2⟩
 have c1 := Clone_int_pc (s.ages.map (.int .i64)) (headOk_ints _) (by simp; omega)
 have c2 := Clone_int_pc (s.marks.map (.int .i64)) (headOk_ints _) (by simp; omega)
 obtain ⟨g1,hg1⟩ : ∃ g,g = cnt 0 1 := ⟨_,rfl⟩
 obtain ⟨g8,hg8⟩ : ∃ g,g = cnt 0 8 := ⟨_,rfl⟩
 obtain ⟨g11,hg11⟩ : ∃ g,g = cnt 0 11 := ⟨_,rfl⟩
 obtain ⟨g16,hg16⟩ : ∃ g,g = cnt 0 16 := ⟨_,rfl⟩
 refine win_of LF.reap_own rfl rfl ?_
 simp only [go_sem,qC,qG,qW,C.reap_own,← hg1]
 refine wp_foot ?_
 rcases clone_cases 1 (s.ages.map (Val.int .i64)) with ⟨t1,t2⟩ | ⟨t1,t2⟩ <;> rw [t2] at c1 <;>
 rcases clone_cases 1 (s.marks.map (Val.int .i64)) with ⟨o1,o2⟩ | ⟨o1,o2⟩ <;> rw [o2] at c2
 all_goals simp only [go_sem,qC,qG,qW,List.all_cons,List.getElem?_cons_zero,List.getElem?_cons_succ,Bool.true_or,Bool.or_true,Bool.false_eq_true,if_false,Option.getD_some,(reap_copied_pc s.world hs.1 hsw.1).ret,c1.ret,c2.ret,← hg8,← hg11,← hg16,List.length_map,one_cl,cells_cl,one_bl,cells_bl]
 all_goals refine ⟨g16,_,_,rfl,en_eq,?_,?_,?_,?_,?_⟩
 all_goals first
  | exact .inl ⟨rfl,by assumption⟩
  | exact mineO_bl (by simp only [go_sem,qW]; try rfl) (by simp only [List.length_map])
  |(intro t g n1 n2 n3 n4; simp only [go_sem,qW,n1,n2,n3,n4])
  |(intro t n1 n2 n3 n4; simp only [go_sem,qW,n1,n2,n3,n4]; done)
  |(intro g hg; cases hg; done)
  |(intro g hg; injection hg with h3 _ _; injection h3 with _ _ h6; subst h6; first | omega | (simp [setCnt]; done) | (simp [setCnt]; omega))
def LI (s : RState) (m : List Int) (n g2 g8 gM gk : Nat) (vA : Val) (all : List Int) (en0 : En) (fr0 : Nat → Val) (gl : Nat) (r : List Int) (en : En) (cnt : Nat → Nat → Nat) : Prop :=
 en ⟨1,0,gl⟩ = some (.loop fr0 [58] (LCode.ops [o 9 (.mv (.t 58))]) (LCode.block 3 (.seq (.ops [o 59 (.load false 1 (.t 2)),o 60 (.nilck (.t 59)),o 61 (.fa 0 (.t 60)),o 62 (.fa 6 (.t 61)),o 63 (.load false 1 (.t 62)),o 64 (.mv (.t 9)),o 65 (.ia 1 (.t 63) (.t 64)),o 66 (.load false 1 (.t 65)),o 67 (.bin .eql .num (.t 66) (.c (.int .i64 0)))]) (.cond (.t 67) (.seq (.ops [o 68 (.load false 1 (.t 2)),o 69 (.nilck (.t 68)),o 70 (.fa 0 (.t 69)),o 71 (.fa 6 (.t 70)),o 72 (.load false 1 (.t 71)),o 73 (.mv (.t 9)),o 74 (.ia 1 (.t 72) (.t 73)),on (.store 1 (.t 74) (.c (.int .i64 1)))]) (.ops [o 75 (.load false 1 (.t 8)),o 76 (.mv (.t 9)),o 77 (.minmax false [(.t 75),(.t 76)]),on (.store 1 (.t 8) (.t 77))])) .skip))) .ready) ∧ en ⟨0,2,g2⟩ = some (.box [.ptr ⟨0,16,gk⟩ 0] false) ∧ en ⟨0,16,gk⟩ = some (.box [.fz (s.world.objs.map MObj.enc),.fz (s.world.tasks.map (.int .i64)),.fz (s.world.outs.map MOut.enc),.fz (s.world.ins.map (.int .i64)),.int .i64 s.world.used,vA,.bl ⟨0,11,gM⟩ 0 m.length,.int .i64 s.cycle] false) ∧ MineO en vA 1 (s.ages.map (.int .i64)) 8 ∧ g2 + 1 ≤ cnt 0 2 ∧ 1 ≤ cnt 0 6 ∧ g8 + 1 ≤ cnt 0 8 ∧ en ⟨0,6,0⟩ = en0 ⟨0,6,0⟩ ∧
 ∃ done,done ++ r = all ∧ en ⟨0,11,gM⟩ = some (.blk 1 ((lookM m n done).map (.int .i64)) false) ∧ ∃ nx : Nat,en ⟨0,8,g8⟩ = some (.box [.int .i64 nx] false) ∧ nx ≤ n + 1 ∧ ∀ i,i < nx → ¬ markN (lookM m n done) i = 1
theorem look_rounds (s : RState) (m : List Int) (n g2 g8 gM gk : Nat) (vA : Val) (all : List Int) (en0 : En) {fr0 : Nat → Val} {gl : Nat} {c0 : Nat → Nat} (hn : n < m.length) (hml : m.length ≤ 1000) (q2 : fr0 2 = .ptr ⟨0,2,g2⟩ 0) (q8 : fr0 8 = .ptr ⟨0,8,g8⟩ 0)
  (hA8 : ∀ g,vA = .bl ⟨0,8,g⟩ 0 s.ages.length → g < g8)
  (hino : ∀ x ∈ all,inR x 0 ((m.length : Int) - 1) = true) (hc2 : g2 + 1 ≤ c0 2) (hc6 : 1 ≤ c0 6) : Rounds ⟨1,0,gl⟩ c0 (LI s m n g2 g8 gM gk vA all en0 fr0 gl) (fun _ _ => False) := by
 refine ⟨?_,?_⟩
 ·rintro r en cnt en' cnt' ⟨i1,j2,j16,mA,hg2,hg6,hg8,e6,done,hd,j11,nx,j8,hnx,hgr⟩ hout hcnt hge
  have h2 := hge 2 (by decide)
  have h6 := hge 6 (by decide)
  exact ⟨(hout 1 0 gl (.inl (by omega))).trans i1,(hout 0 2 g2 (.inr (.inr (by omega)))).trans j2,(hout 0 16 gk (.inr (.inl (by decide)))).trans j16,mA.keep fun g => hout 0 8 g (.inr (.inl (by decide))),by omega,by omega,by rw [hcnt 0 8 (by decide)]; exact hg8,(hout 0 6 0 (.inr (.inr (by omega)))).trans e6,done,hd,(hout 0 11 gM (.inr (.inl (by decide)))).trans j11,nx,(hout 0 8 g8 (.inr (.inl (by decide)))).trans j8,hnx,hgr⟩
 ·rintro x rest en cnt ⟨i1,j2,j16,mA,hg2,hg6,hg8,e6,done,hd,j11,nx,j8,hnx,hgr⟩
  have hxi := hino x (by rw [← hd]; simp)
  simp only [inR,decide_eq_true_eq] at hxi
  obtain ⟨j,rfl⟩ := Int.eq_ofNat_of_zero_le hxi.1
  have hj : j < m.length := by omega
  have hjl : j < (lookM m n done).length := by rw [lookM_len]; exact hj
  have hc1 : (0 : Int) ≤ (j : Int) := by omega
  have hc2' : (j : Int) < (m.length : Int) := by omega
  have hgj := ints_get hjl
  refine win_yld (fr := fr0) (ps := [58]) (a := (LCode.ops [o 9 (.mv (.t 58))])) (b := (LCode.block 3 (.seq (.ops [o 59 (.load false 1 (.t 2)),o 60 (.nilck (.t 59)),o 61 (.fa 0 (.t 60)),o 62 (.fa 6 (.t 61)),o 63 (.load false 1 (.t 62)),o 64 (.mv (.t 9)),o 65 (.ia 1 (.t 63) (.t 64)),o 66 (.load false 1 (.t 65)),o 67 (.bin .eql .num (.t 66) (.c (.int .i64 0)))]) (.cond (.t 67) (.seq (.ops [o 68 (.load false 1 (.t 2)),o 69 (.nilck (.t 68)),o 70 (.fa 0 (.t 69)),o 71 (.fa 6 (.t 70)),o 72 (.load false 1 (.t 71)),o 73 (.mv (.t 9)),o 74 (.ia 1 (.t 72) (.t 73)),on (.store 1 (.t 74) (.c (.int .i64 1)))]) (.ops [o 75 (.load false 1 (.t 8)),o 76 (.mv (.t 9)),o 77 (.minmax false [(.t 75),(.t 76)]),on (.store 1 (.t 8) (.t 77))])) .skip)))) i1 rfl ?_
  simp only [go_sem,qC,qG,qW,q2,q8,i1,j2,j16,j11,lookM_len,hgj,hc1,hc2',true_and,and_true,eq_self,if_true,Nat.zero_add,Int.toNat_natCast,List.length_map,Nat.le_refl]
  refine condK_split (fun hb => ?_) (fun hb => ?_)
  ·have h0 : markN (lookM m n done) j = 0 := of_decide_eq_true hb
   have hst : ((lookM m n done).map (Val.int .i64)).set j (.int .i64 1) = (lookM m n (done ++ [(j : Int)])).map (.int .i64) := by rw [ints_set,lookM_set hj h0]
   have hmin : (min (nx : Int) (j : Int)) = ((min nx j : Nat) : Int) := by omega
   simp only [go_sem,qC,qG,qW,q2,q8,i1,j2,j16,j11,j8,lookM_len,hgj,hst,hc1,hc2',true_and,and_true,eq_self,if_true,Nat.zero_add,Int.toNat_natCast,List.length_map,Nat.le_refl,hmin]
   refine ⟨fun t g ht hg => ?_,fun _ _ => trivial,.inl ⟨?_,?_,?_,?_,hg2,hg6,hg8,?_,done ++ [(j : Int)],by rw [← hd]; simp,?_,min nx j,?_,by omega,fun i hi => ?_⟩⟩
   ·have n1 : (⟨0,t,g⟩ : Key) ≠ ⟨1,0,gl⟩ := by intro he; injection he with h1 _ _; omega
    have n2 : (⟨0,t,g⟩ : Key) ≠ ⟨0,11,gM⟩ := by intro he; injection he with _ h2 h3; subst h2; simp [T4] at ht
    have n3 : (⟨0,t,g⟩ : Key) ≠ ⟨0,8,g8⟩ := by intro he; injection he with _ h2 h3; subst h2; simp [T4] at ht
    rw [en_ne n1,en_ne n3,en_ne n2,en_ne n1]
   ·try simp only [go_sem,qW]
    try rfl
   ·simp only [go_sem,qW,j2]
   ·simp only [go_sem,qW,j16]
   ·rcases mA with h | ⟨g,hv,he⟩
    ·exact .inl h
    ·have hlt := hA8 g (by rw [hv,List.length_map])
     exact .inr ⟨g,hv,by rw [en_ne (by intro h; injection h with h1 _ _; omega),en_ne (by intro h; injection h with _ _ h3; omega),en_ne (by intro h; injection h with _ h2 _; omega),en_ne (by intro h; injection h with h1 _ _; omega)]; exact he⟩
   ·simp only [go_sem,qW,e6]
   ·simp only [go_sem,qW]
   ·simp only [go_sem,qW]
   ·have hij : ¬ (j : Int) = (i : Int) := by omega
    have hold := hgr i (by omega)
    by_cases hil : i < m.length
    ·rw [lookM_at hil] at hold ⊢
     rw [memB_append,decide_eq_false hij,Bool.or_false]
     exact hold
    ·rw [markN_out (by rw [lookM_len]; omega)]; decide
  ·have h0 : ¬ markN (lookM m n done) j = 0 := of_decide_eq_false hb
   have hsk := lookM_skip hj h0
   simp only [go_sem,qC,qG,qW,q2,q8,i1,j2,j16,j11]
   refine ⟨fun t g ht hg => ?_,fun _ _ => trivial,.inl ⟨?_,?_,?_,?_,hg2,hg6,hg8,?_,done ++ [(j : Int)],by rw [← hd]; simp,?_,nx,?_,hnx,by rw [hsk]; exact hgr⟩⟩
   ·have n1 : (⟨0,t,g⟩ : Key) ≠ ⟨1,0,gl⟩ := by intro he; injection he with h1 _ _; omega
    rw [en_ne n1,en_ne n1]
   ·try simp only [go_sem,qW]
    try rfl
   ·simp only [go_sem,qW,j2]
   ·simp only [go_sem,qW,j16]
   ·exact mA.keep fun g => by rw [en_ne (by intro h; injection h with h1 _ _; omega),en_ne (by intro h; injection h with h1 _ _; omega)]
   ·simp only [go_sem,qW,e6]
   ·rw [hsk]; simp only [go_sem,qW,j11]
   ·simp only [go_sem,qW,j8]
theorem mul_less {a b c d : Nat} (h : a + 1 = b) (h2 : d < c) : a * c + d < b * c := by
 subst h; rw [Nat.add_mul,Nat.one_mul]; omega
theorem apart_ownV {ws : List W} {d : Nat} {D : List Nat} (h : ∀ w ∈ ws,w.key.n = 0 ∧ (w.key.t = d ∨ w.key.t ∈ D) ∧ ∃ e,w = .ent w.key e) {t' g' : Nat} (ht : t' ≠ d ∧ t' ∉ D) : (ws.all fun w => apartWR w (.val ⟨0,t',g'⟩)) = true := by
 rw [List.all_eq_true]
 intro w hw
 obtain ⟨h1,h2,e,h3⟩ := h w hw
 rw [h3,apart_ew]
 refine decide_eq_true ?_
 intro he
 rw [he] at h2
 rcases h2 with h2 | h2
 ·exact ht.1 h2
 ·exact ht.2 h2
theorem ages_in {s : RState} {m : List Int} {n : Nat} (h : ∀ i : Nat,i < n → inR (ageAt s i) 0 2 = true) : ∀ a ∈ agesTo s m n,inR a 0 2 = true := by
 intro a ha
 obtain ⟨i,hi,rfl⟩ := List.mem_map.1 ha
 have hi := (List.mem_filter.1 hi).1
 have := h i (by simpa using hi)
 simp only [inR,decide_eq_true_eq] at this ⊢
 omega
def SlE (s : RState) (most : Nat) (g2 gk : Nat) (vA vM : Val) (en0 : En) (st : St) : Prop :=
 ∃ fr en cnt n,st = ⟨fr,en,cnt⟩ ∧ fr 2 = .ptr ⟨0,2,g2⟩ 0 ∧ en ⟨0,2,g2⟩ = some (.box [.ptr ⟨0,16,gk⟩ 0] false) ∧ fr 6 = .int .i64 (n : Nat) ∧ en ⟨0,16,gk⟩ = some (.box [.fz (s.world.objs.map MObj.enc),.fz (s.world.tasks.map (.int .i64)),.fz (s.world.outs.map MOut.enc),.fz (s.world.ins.map (.int .i64)),.int .i64 s.world.used,vA,vM,.int .i64 s.cycle] false) ∧ MineO en vA 1 (s.ages.map (.int .i64)) 8 ∧ MineO en vM 1 ((runS s.world most s.marks).map (.int .i64)) 11 ∧ 1 ≤ cnt 0 6 ∧ en ⟨0,6,0⟩ = en0 ⟨0,6,0⟩ ∧
  decide (n < (runS s.world most s.marks).length) = decide (firstG (runS s.world most s.marks) < (runS s.world most s.marks).length)
theorem slice_win (s : RState) (most : Nat) (hs : s.few) (hsm : smallWorld s.world = true) (hin : InRange s.world) (hok : MarksOk s.world s.marks) (hA : s.ages.length = s.world.objs.length) (hmost : most ≤ 200) (hcy : inR s.cycle 0 3 = true) (hAr : ∀ i : Nat,i < s.world.objs.length → inR (ageAt s i) 0 2 = true)
  (htk : ∀ t ∈ s.world.tasks,∃ i : Nat,t = i ∧ i < s.world.objs.length ∧ isTask (s.world.obj i) = true) {en : En} {cnt : Nat → Nat → Nat} {gk : Nat} {vA vM : Val} (e16 : en ⟨0,16,gk⟩ = some (.box [.fz (s.world.objs.map MObj.enc),.fz (s.world.tasks.map (.int .i64)),.fz (s.world.outs.map MOut.enc),.fz (s.world.ins.map (.int .i64)),.int .i64 s.world.used,vA,vM,.int .i64 s.cycle] false)) (mA : MineO en vA 1 (s.ages.map (.int .i64)) 8) (mM : MineO en vM 1 (s.marks.map (.int .i64)) 11) (c6 : 1 ≤ cnt 0 6) (hA8 : ∀ g,vA = .bl ⟨0,8,g⟩ 0 s.ages.length → g < cnt 0 8) :
  WIn L (.fn F.reap_collector_slice [] []) [.ptr ⟨0,16,gk⟩ 0,.int .i64 most] en cnt fun v en' cnt' => en' ⟨0,6,0⟩ = en ⟨0,6,0⟩ ∧
   ((firstG (runS s.world most s.marks) < (runS s.world most s.marks).length ∧ v = .tup [.cl [],.bool false] ∧ en' ⟨0,16,gk⟩ = some (.box [.fz (s.world.objs.map MObj.enc),.fz (s.world.tasks.map (.int .i64)),.fz (s.world.outs.map MOut.enc),.fz (s.world.ins.map (.int .i64)),.int .i64 s.world.used,vA,vM,.int .i64 s.cycle] false) ∧ MineO en' vA 1 (s.ages.map (.int .i64)) 8 ∧ MineO en' vM 1 ((runS s.world most s.marks).map (.int .i64)) 11) ∨
    (¬ firstG (runS s.world most s.marks) < (runS s.world most s.marks).length ∧ ∃ vg va g13,v = .tup [vg,.bool true] ∧ Mine en' vg 1 ((goneTo (runS s.world most s.marks) s.world.objs.length).map (.int .i64)) [103] ∧
     en' ⟨0,16,gk⟩ = some (.box [.fz ((nextS s (runS s.world most s.marks)).world.objs.map MObj.enc),.fz ((nextS s (runS s.world most s.marks)).world.tasks.map (.int .i64)),.fz ((nextS s (runS s.world most s.marks)).world.outs.map MOut.enc),.fz ((nextS s (runS s.world most s.marks)).world.ins.map (.int .i64)),.int .i64 (nextS s (runS s.world most s.marks)).world.used,va,.bl ⟨0,13,g13⟩ 0 (nextS s (runS s.world most s.marks)).world.objs.length,.int .i64 (nextS s (runS s.world most s.marks)).cycle] false) ∧
     Mine en' va 1 ((nextS s (runS s.world most s.marks)).ages.map (.int .i64)) [120] ∧ en' ⟨0,13,g13⟩ = some (.blk 1 ((nextS s (runS s.world most s.marks)).marks.map (.int .i64)) false))) := by
 obtain ⟨b1,b2,b3,b4⟩ := smallW_len hsm
 have hml := hok.len
 obtain ⟨en0,hen0⟩ : ∃ e,e = en := ⟨_,rfl⟩
 obtain ⟨g2,hg2⟩ : ∃ g,g = cnt 0 2 := ⟨_,rfl⟩
 refine win_of LF.reap_collector_slice rfl rfl ?_
 simp only [go_sem,qC,qG,qW,C.reap_collector_slice,box_any (v := .ptr ⟨0,16,gk⟩ 0) rfl rfl,← hg2]
 refine Go.Abs.wp_mono (L := L) _ (Q := fun e st => e = .exit 0 ∧ SlE s most g2 gk vA vM en0 st) ?_ ?_
 ·refine Go.Abs.wp_loop (fun (x : Nat × Nat × List Int) (st : Go.Abs.St) => ∃ fr en cnt,st = ⟨fr,en,cnt⟩ ∧ fr 1 = .int .i64 most ∧ fr 2 = .ptr ⟨0,2,g2⟩ 0 ∧ en ⟨0,2,g2⟩ = some (.box [.ptr ⟨0,16,gk⟩ 0] false) ∧ fr 6 = .int .i64 (x.1 : Nat) ∧ fr 7 = .int .i64 (x.2.1 : Nat) ∧ en ⟨0,16,gk⟩ = some (.box [.fz (s.world.objs.map MObj.enc),.fz (s.world.tasks.map (.int .i64)),.fz (s.world.outs.map MOut.enc),.fz (s.world.ins.map (.int .i64)),.int .i64 s.world.used,vA,vM,.int .i64 s.cycle] false) ∧ MineO en vA 1 (s.ages.map (.int .i64)) 8 ∧ (∀ g,vA = .bl ⟨0,8,g⟩ 0 s.ages.length → g < cnt 0 8) ∧ MineO en vM 1 (x.2.2.map (.int .i64)) 11 ∧
    g2 + 1 ≤ cnt 0 2 ∧ 1 ≤ cnt 0 6 ∧ en ⟨0,6,0⟩ = en0 ⟨0,6,0⟩ ∧ MarksOk s.world x.2.2 ∧ x.1 ≤ x.2.2.length ∧ x.2.1 ≤ most ∧ (∀ i,i < x.1 → ¬ markN x.2.2 i = 1) ∧ runS s.world (most - x.2.1) x.2.2 = runS s.world most s.marks)
   (fun x => notBlack x.2.2 * (x.2.2.length + 1) + (x.2.2.length - x.1)) (0,0,s.marks)
   ⟨_,_,_,rfl,by simp only [go_sem,qW],by simp only [go_sem,qW],by simp only [go_sem,qW],by simp only [go_sem,qW]; try rfl,by simp only [go_sem,qW]; try rfl,by simp only [go_sem,e16],mA.keep (fun g => by simp only [go_sem,qW]),by simp only [go_sem,qW]; exact hA8,mM.keep (fun g => by simp only [go_sem,qW]),by simp only [go_sem,qW]; try exact Nat.le_refl _,by simp only [go_sem,qW]; try exact c6,by simp only [go_sem,hen0],hok,Nat.zero_le _,Nat.zero_le _,fun i hi => by omega,rfl⟩ ?_
  clear e16 mA mM c6 hA8
  rintro ⟨n,lk,m⟩ st ⟨fr,en,cnt,rfl,h1,h2,e2,h6,h7,e16,mA,hA8,mM,c2,c6,q6,hm,hnl,hlk,hng,hrun⟩
  dsimp only at h6 h7 mM hm hnl hlk hng hrun ⊢
  have hlm : m.length = s.world.objs.length := hm.len
  have hlM := mM.mine.len
  rw [List.length_map] at hlM
  have hfl : Few m.length := by unfold Few; omega
  simp only [go_sem,qC,qG,qW,h1,h2,e2,h6,h7,e16,hlM]
  refine condK_split (fun g1 => ?_) (fun g1 => ?_)
  ·have hn : n < m.length := of_decide_eq_true g1
   rcases mM with ⟨_,hx⟩ | ⟨gM,rfl,eb⟩
   ·have : m.length = 0 := by rw [← List.length_map (f := Val.int .i64),hx]; rfl
    omega
   rw [List.length_map] at e16 hlM
   have hc1 : (0 : Int) ≤ (n : Int) := by omega
   have hc2 : (n : Int) < (m.length : Int) := by omega
   have hgn := ints_get hn
   simp only [go_sem,qC,qG,qW,h1,h2,e2,h6,h7,e16,hlM,eb,hgn,hc1,hc2,true_and,and_true,eq_self,if_true,Nat.zero_add,Int.toNat_natCast,List.length_map,Nat.le_refl]
   refine condK_split (fun g3 => ?_) (fun g3 => ?_)
   ·have hne : ¬ markN m n = 1 := by simpa using g3
    simp only [go_sem,qC,qG,qW,h1,h2,e2,h6,h7,e16]
    refine ⟨(n + 1,lk,m),⟨_,_,_,rfl,by simp only [go_sem,h1],by simp only [go_sem,h2],by simp only [go_sem,e2],by simp only [go_sem,wrap_succ hn hfl],by simp only [go_sem,h7],by simp only [go_sem,e16],mA,hA8,mineO_bl eb (by simp),c2,c6,q6,hm,by dsimp only; omega,hlk,fun i hi => ?_,hrun⟩,?_⟩
    ·by_cases hin' : i < n
     ·exact hng i hin'
     ·have : i = n := by dsimp only at hi; omega
      subst this; exact hne
    ·dsimp only; omega
   ·have h1n : markN m n = 1 := by simpa using g3
    have hfg : firstG m = n := firstG_eq hn h1n hng
    simp only [go_sem,qC,qG,qW,h1,h2,e2,h6,h7,e16]
    refine condK_split (fun g4 => ?_) (fun g4 => ?_)
    ·have hl : lk = most := by simp at g4; omega
     subst hl
     rw [Nat.sub_self] at hrun
     have hrun' : m = runS s.world lk s.marks := hrun
     simp only [go_sem,qC,qG,qW]
     exact ⟨_,_,_,n,rfl,by simp only [go_sem,h2],by simp only [go_sem,e2],by simp only [go_sem,h6],by simp only [go_sem,e16],mA,by rw [← hrun']; exact mineO_bl eb (by simp),c6,q6,by rw [← hrun',hfg]⟩
    ·have hl : lk < most := by simp at g4; omega
     obtain ⟨g8,hg8⟩ : ∃ g,g = cnt 0 8 := ⟨_,rfl⟩
     have hnw : n < s.world.objs.length := by omega
     have hso := smallW_obj hsm _ (List.getElem_mem hnw)
     have hst : (m.map (Val.int .i64)).set n (.int .i64 2) = (lookM m n []).map (.int .i64) := by rw [ints_set,lookM_nil hn]
     have hfm : Few most := by unfold Few; omega
     have hon : s.world.obj n = s.world.objs[n] := objAt_get hnw
     simp only [go_sem,qC,qG,qW,h1,h2,e2,h6,h7,e16,hlM,eb,hgn,hst,hc1,hc2,hnw,true_and,and_true,eq_self,if_true,Nat.zero_add,Int.toNat_natCast,List.length_map,Nat.le_refl,wrap_succ hl hfm,wrap_succ hn hfl,← hg8,(reap_refs_pc _).ret]
     refine wp_range (f := F.reap_refs_c1) (x := []) (y := [.fp [.int .i64 s.world.objs[n].form,.int .i64 s.world.objs[n].n,.fz (s.world.objs[n].vals.map MVal.enc),.fz (s.world.objs[n].frames.map MFrame.enc)] 0]) (by simp only [go_sem,qW]) ?_
     intro fr0 key hfr0 hkey
     have r1 : fr0 1 = .int .i64 most := by rw [hfr0]; simp only [go_sem,qW,h1]
     have r2 : fr0 2 = .ptr ⟨0,2,g2⟩ 0 := by rw [hfr0]; simp only [go_sem,qW,h2]
     have r7 : fr0 7 = .int .i64 (lk + 1 : Nat) := by rw [hfr0]; simp only [go_sem,qW]
     have r8 : fr0 8 = .ptr ⟨0,8,g8⟩ 0 := by rw [hfr0]; simp only [go_sem,qW]
     obtain ⟨gl,rfl⟩ : ∃ gl,key = ⟨1,0,gl⟩ := ⟨_,hkey⟩
     obtain ⟨c0,hc0⟩ : ∃ c0,c0 = setCnt (setCnt cnt 0 8 (g8 + 1)) 1 0 (cnt 1 0 + 1) 0 := ⟨_,rfl⟩
     have hcc2 : g2 + 1 ≤ c0 2 := by rw [hc0]; simpa [setCnt] using c2
     have hcc6 : 1 ≤ c0 6 := by rw [hc0]; simpa [setCnt] using c6
     have hinm : ∀ x ∈ refsOf s.world.objs[n],inR x 0 ((m.length : Int) - 1) = true := by rw [hlm]; exact hin _ (List.getElem_mem hnw)
     have hA8' : ∀ g,vA = .bl ⟨0,8,g⟩ 0 s.ages.length → g < g8 := by rw [hg8]; exact hA8
     have hr := look_rounds s m n g2 g8 gM gk vA (refsOf s.world.objs[n]) en0 (fr0 := fr0) (gl := gl) (c0 := c0) hn (by omega) r2 r8 hA8' hinm hcc2 hcc6
     rw [hc0] at hr
     refine (refs_win s.world.objs[n] (small_few hso) hr ⟨by simp only [go_sem,qW],by simp only [go_sem,e2],by simp only [go_sem,e16],?_,by simpa [setCnt] using c2,by simpa [setCnt] using c6,by simp [setCnt],by simp only [go_sem,q6],[],rfl,by simp only [go_sem,qW],n + 1,by simp only [go_sem,qW],Nat.le_refl _,fun i hi => ?_⟩).mono ?_
     ·rcases mA with h | ⟨g,hv,he⟩
      ·exact .inl h
      ·have hlt := hA8' g (by rw [hv,List.length_map])
       exact .inr ⟨g,hv,by simp only [go_sem,Nat.ne_of_lt hlt,he]⟩
     ·by_cases hil : i < m.length
      ·rw [lookM_at hil]
       by_cases hin' : i = n
       ·rw [if_pos hin']; decide
       ·rw [if_neg hin',if_neg (by simp [memB])]
        exact hng i (by omega)
      ·rw [markN_out (by rw [lookM_len]; omega)]; decide
     ·rintro v en' cnt' (⟨i1,j2,j16,mA',hg2',hg6',hg8',e6',done,hd,j11,nx,j8,hnx,hgr⟩ | hF)
      ·rw [List.append_nil] at hd
       subst hd
       have hla : lookM m n (refsOf s.world.objs[n]) = lookedAt s.world m n := by rw [lookedAt,hon]
       rw [hla] at j11 hgr
       have hll : (lookedAt s.world m n).length = m.length := by rw [lookedAt,lookM_len]
       have hnb := notBlack_look (seen := refsOf (s.world.obj n)) hn h1n
       rw [← lookedAt] at hnb
       simp only [go_sem,qC,qG,qW,i1,j2,j16,j8,r1,r2,r7,r8,h1,h2]
       refine ⟨(nx,lk + 1,lookedAt s.world m n),⟨_,_,_,rfl,by simp only [go_sem,r1,h1],by simp only [go_sem,r2,h2],by simp only [go_sem,j2],by simp only [go_sem,qW],by simp only [go_sem,r7],by simp only [go_sem,j16],mA'.keep (fun g => en_ne (by intro h; injection h with h1 _ _; omega)),fun g hv => by have := hA8' g hv; omega,?_,hg2',hg6',by simp only [go_sem,e6'],marks_look hin hm n,by dsimp only; omega,by dsimp only; omega,hgr,?_⟩,?_⟩
       ·exact mineO_bl (by simp only [go_sem,j11]) (by simp [hll])
       ·dsimp only
        have e1 : most - lk = (most - (lk + 1)) + 1 := by omega
        rw [e1,runS,hfg,if_pos hn] at hrun
        exact hrun
       ·dsimp only
        rw [hll]
        have h3 := mul_less (c := m.length + 1) (d := m.length - nx) hnb (by omega)
        omega
      ·exact hF.elim
  ·have hn : n = m.length := by simp at g1; omega
   have hnone : firstG m = m.length := firstG_none (by rw [← hn]; exact hng)
   rw [runS_none (by omega)] at hrun
   simp only [go_sem,qC,qG,qW]
   exact ⟨_,_,_,n,rfl,by simp only [go_sem,h2],by simp only [go_sem,e2],by simp only [go_sem,h6],by simp only [go_sem,e16],mA,by rw [← hrun]; exact mM,c6,q6,by rw [← hrun,hnone,hn]⟩
 ·rintro e st ⟨rfl,fr,en,cnt,n,rfl,h2,e2,h6,e16,mA,mM,c6,q6,hdec⟩
  obtain ⟨M,hM⟩ : ∃ M,M = runS s.world most s.marks := ⟨_,rfl⟩
  rw [← hM] at mM hdec ⊢
  have hMok : MarksOk s.world M := by rw [hM]; exact marks_run hin most hok
  have hMl : M.length = s.world.objs.length := hMok.len
  have hlM := mM.mine.len
  rw [List.length_map] at hlM
  simp only [go_sem,qC,qG,qW,h2,e2,h6,e16,hlM,hdec]
  refine condK_split (fun g1 => ?_) (fun g1 => ?_)
  ·have hfg : firstG M < M.length := of_decide_eq_true g1
   simp only [go_sem,qC,qG,qW,h2,e2,h6,e16]
   exact ⟨by rw [q6,hen0],.inl ⟨hfg,mA,mM⟩⟩
  ·have hfg : ¬ firstG M < M.length := of_decide_eq_false g1
   simp only [go_sem,qC,qG,qW,h2,e2,h6,e16,hlM]
   refine wp_for M.length (fun k st => ∃ fr en cnt vg vk va,st = ⟨fr,en,cnt⟩ ∧ fr 2 = .ptr ⟨0,2,g2⟩ 0 ∧ en ⟨0,2,g2⟩ = some (.box [.ptr ⟨0,16,gk⟩ 0] false) ∧ en ⟨0,16,gk⟩ = some (.box [.fz (s.world.objs.map MObj.enc),.fz (s.world.tasks.map (.int .i64)),.fz (s.world.outs.map MOut.enc),.fz (s.world.ins.map (.int .i64)),.int .i64 s.world.used,vA,vM,.int .i64 s.cycle] false) ∧ MineO en vA 1 (s.ages.map (.int .i64)) 8 ∧ MineO en vM 1 (M.map (.int .i64)) 11 ∧ 1 ≤ cnt 0 6 ∧ en ⟨0,6,0⟩ = en0 ⟨0,6,0⟩ ∧ fr 10 = vg ∧ fr 11 = vk ∧ fr 12 = va ∧ fr 91 = vM ∧ fr 92 = .int .i64 M.length ∧ fr 93 = .int .i64 k ∧
    Mine en vg 1 ((goneTo M k).map (.int .i64)) [103] ∧ Mine en vk 1 ((keepTo M k).map (.int .i64)) [107] ∧ Mine en va 1 ((agesTo s M k).map (.int .i64)) [120]) 0 (Nat.zero_le _)
    ⟨_,_,_,.cl [],.cl [],.cl [],rfl,by simp only [go_sem,h2],by simp only [go_sem,e2],by simp only [go_sem,e16],mA,mM,c6,q6,by simp only [go_sem,qW],by simp only [go_sem,qW],by simp only [go_sem,qW],by simp only [go_sem,qW],by simp only [go_sem,qW],by simp only [go_sem,qW],Mine.nil _ _,Mine.nil _ _,Mine.nil _ _⟩ ?_
   clear h2 e2 h6 e16 mA mM c6 q6 hdec
   rintro k st hk ⟨fr,en,cnt,vg,vk,va,rfl,h2,e2,e16,mA,mM,c6,q6,h10,h11,h12,h91,h92,h93,mg,mk,ma⟩
   simp only [go_sem,qC,qG,qW,h2,e2,e16,h10,h11,h12,h91,h92,h93]
   refine condK_split (fun hq => ?_) (fun hq => ?_)
   ·have h' : k < M.length := of_decide_eq_true hq
    have h'w : k < s.world.objs.length := by omega
    have hka : k < s.ages.length := by omega
    have har := hAr k h'w
    simp only [inR,decide_eq_true_eq,ageAt_get hka] at har
    have hwa : IntKind.i64.wrap (s.ages[k] + 1) = s.ages[k] + 1 := wrap_in (by omega)
    have hgk := ints_get h'
    have hga : (s.ages.map (Val.int .i64))[k]? = some (.int .i64 s.ages[k]) := by simp [hka]
    have hfM : Few M.length := by unfold Few; omega
    have hc1 : (0 : Int) ≤ (k : Int) := by omega
    have hc2 : (k : Int) < (M.length : Int) := by omega
    have hc3 : (k : Int) < (s.ages.length : Int) := by omega
    rcases mM with ⟨_,hx⟩ | ⟨gM,rfl,eb⟩
    ·have : M.length = 0 := by rw [← List.length_map (f := Val.int .i64),hx]; rfl
     omega
    rcases mA with ⟨_,hx⟩ | ⟨ga,rfl,ea⟩
    ·have : s.ages.length = 0 := by rw [← List.length_map (f := Val.int .i64),hx]; rfl
     omega
    rw [List.length_map] at h91
    simp only [List.length_map] at e16
    simp only [go_sem,qC,qG,qW,h2,e2,e16,h10,h11,h12,h91,h92,h93,eb,hgk,hc1,hc2,true_and,and_true,eq_self,if_true,Nat.zero_add,Int.toNat_natCast,List.length_map,Nat.le_refl]
    refine condK_split (fun g2' => ?_) (fun g2' => ?_)
    ·have hm0 : markN M k = 0 := of_decide_eq_true g2'
     simp only [go_sem,qC,qG,qW,h2,e2,e16,h10,h11,h12,h91,h92,h93]
     refine w_append (D := [103]) (xs := (goneTo M k).map (.int .i64)) (ys := [.int .i64 k]) (rs := []) ?_ ?_ ?_ ?_ ?_
     ·simp only [go_sem,qW]; exact mg
     ·simp only [go_sem,qW]
     ·rfl
     ·have := gone_len M k; simp; omega
     ·intro v' en' cnt' hown hen hcnt
      have k2 : en' ⟨0,2,g2⟩ = some (.box [.ptr ⟨0,16,gk⟩ 0] false) := by rw [hen 0 2 g2 (.inr ⟨by decide,by simp⟩)]; exact e2
      have k16 := (hen 0 16 gk (.inr ⟨by decide,by simp⟩)).trans e16
      have kb := (hen 0 11 gM (.inr ⟨by decide,by simp⟩)).trans eb
      have ka := (hen 0 8 ga (.inr ⟨by decide,by simp⟩)).trans ea
      simp only [go_sem,qC,qG,qW,h2,h11,h12,h91,h92,h93]
      refine ⟨h',_,_,_,v',vk,va,rfl,?_⟩
      simp only [go_sem,qC,qG,qW,h2,k2,h11,h12,h91,h92,h93,wrap_succ h' hfM]
      refine ⟨k16,mineO_bl ka (by simp),mineO_bl kb (by simp),by rw [hcnt 0 6 (by decide)]; exact c6,(hen 0 6 0 (.inr ⟨by decide,by simp⟩)).trans q6,?_,?_,?_⟩
      ·rw [gone_t hm0,List.map_append]
       exact Mine.sub (D := [103,103]) hown (by simp)
      ·rw [keep_f hm0]
       exact mk.keep fun t g ht => by rw [hen 0 t g (.inr (by simp at ht; subst ht; decide))]
      ·rw [ages_f hm0]
       exact ma.keep fun t g ht => by rw [hen 0 t g (.inr (by simp at ht; subst ht; decide))]
    ·have hm0 : ¬ markN M k = 0 := of_decide_eq_false g2'
     simp only [go_sem,qC,qG,qW,h2,e2,e16,h10,h11,h12,h91,h92,h93]
     refine wp_foot ?_
     simp only [go_sem,qC,qG,qW,h2,e2,e16,h10,h11,h12,h91,h92,h93,List.all_cons,List.getElem?_cons_zero,List.getElem?_cons_succ,Bool.true_or,Bool.or_true,Bool.false_eq_true,if_false]
     refine wf_append (D := [107]) (xs := (keepTo M k).map (.int .i64)) (ys := [.int .i64 k]) (rs := []) ?_ ?_ ?_ rfl ?_ ?_
     ·simp only [go_sem,qW]; exact mk
     ·simp only [go_sem,qW]
     ·rfl
     ·have := keepTo_len M k; simp; omega
     ·intro v1 en1 cnt1 r1 own1 hen1 hcnt1 hw1 hr1 hm1
      have k2 : en1 ⟨0,2,g2⟩ = some (.box [.ptr ⟨0,16,gk⟩ 0] false) := by rw [hen1 0 2 g2 (.inr ⟨by decide,by simp⟩)]; exact e2
      have k16 := (hen1 0 16 gk (.inr ⟨by decide,by simp⟩)).trans e16
      have kb := (hen1 0 11 gM (.inr ⟨by decide,by simp⟩)).trans eb
      have ka := (hen1 0 8 ga (.inr ⟨by decide,by simp⟩)).trans ea
      simp only [go_sem,qC,qG,qW,h2,k2,k16,ka,h10,h12,h91,h92,h93,hga,hc1,hc3,hwa,true_and,and_true,eq_self,if_true,Nat.zero_add,Int.toNat_natCast,List.length_map,Nat.le_refl,List.all_cons,List.getElem?_cons_zero,List.getElem?_cons_succ,Bool.true_or,Bool.or_true,Bool.false_eq_true,if_false]
      refine wf_append (D := [120]) (xs := (agesTo s M k).map (.int .i64)) (ys := [.int .i64 (min (s.ages[k] + 1) 2)]) (rs := []) ?_ ?_ ?_ rfl ?_ ?_
      ·simp only [go_sem,qW]; exact ma.keep fun t g ht => by rw [hen1 0 t g (.inr (by simp at ht; subst ht; decide))]
      ·simp only [go_sem,qW]
      ·rfl
      ·have := keepTo_len M k; have := agesTo_len s M k; simp; omega
      ·intro v2 en2 cnt2 r2 own2 hen2 hcnt2 hw2 hr2 hm2
       have j2 := (hen2 0 2 g2 (.inr ⟨by decide,by simp⟩)).trans k2
       have j16 := (hen2 0 16 gk (.inr ⟨by decide,by simp⟩)).trans k16
       have jb := (hen2 0 11 gM (.inr ⟨by decide,by simp⟩)).trans kb
       have ja := (hen2 0 8 ga (.inr ⟨by decide,by simp⟩)).trans ka
       have p1 := fun o n => apart_own hw1 (t' := 2) (g' := g2) ⟨by decide,by decide⟩ o n
       have p2 := fun o n => apart_own hw1 (t' := 16) (g' := gk) ⟨by decide,by decide⟩ o n
       have p3 := apart_ownV hw1 (t' := 8) (g' := ga) ⟨by decide,by decide⟩
       simp only [go_sem,qC,qG,qW,h2,j2,h10,h91,h92,h93,p1,p2,p3,hm1,hm2,all_tt,List.all_cons,List.getElem?_cons_zero,List.getElem?_cons_succ,Bool.true_or,Bool.or_true,Bool.false_eq_true,if_false]
       refine ⟨h',_,_,_,vg,v1,v2,rfl,?_⟩
       simp only [go_sem,qC,qG,qW,h2,j2,h10,h91,h92,h93,wrap_succ h' hfM]
       refine ⟨j16,mineO_bl ja (by simp),mineO_bl jb (by simp),by rw [hcnt2 0 6 (by decide),hcnt1 0 6 (by decide)]; exact c6,(hen2 0 6 0 (.inr ⟨by decide,by simp⟩)).trans ((hen1 0 6 0 (.inr ⟨by decide,by simp⟩)).trans q6),?_,?_,?_⟩
       ·rw [gone_f hm0]
        exact mg.keep fun t g ht => by rw [hen2 0 t g (.inr (by simp at ht; subst ht; decide)),hen1 0 t g (.inr (by simp at ht; subst ht; decide))]
       ·rw [keep_t hm0,List.map_append]
        refine Mine.sub (D := [107,107]) (own1.keep fun t g ht => ?_) (by simp)
        rw [hen2 0 t g (.inr (by simp at ht; subst ht; decide))]
       ·rw [ages_t hm0,ageAt_get hka,List.map_append]
        exact Mine.sub (D := [120,120]) own2 (by simp)
   ·have : k = M.length := by simp at hq; omega
    subst this
    rw [hMl] at mg mk ma
    simp only [go_sem,qC,qG,qW,h2,e2,e16,h10,h11,h12,h91,h92,h93]
    obtain ⟨hsh1,hsh2⟩ := shut_marks hMok hin hfg
    have hkl := hsh1.len
    have hal := reap_alone_pc s.world (keepTo M s.world.objs.length) hs.1 hsm (by omega) hsh1.rise hsh1.rng hsh1.refs (fun t ht => hsh2 t (htk t ht))
    have hkf : Few (keepTo M s.world.objs.length).length := by unfold Few; omega
    have hcf := compact_few hs.1 hsm hkf hsh1.rng
    have hcs := small_compact hsm hsh1
    have hci := compact_in hsh1
    have hcy' := hcy
    simp only [inR,decide_eq_true_eq] at hcy'
    have hwc : IntKind.i64.wrap (s.cycle + 1) = s.cycle + 1 := wrap_in (by omega)
    have hsv := ma.shape
    refine wp_foot ?_
    rcases mk with ⟨rfl,mkx⟩ | ⟨t1,gx,f1,rfl,ek,tk⟩
    ·rw [mkx] at hal
     simp only [go_sem,qC,qG,qW,h2,e2,e16,h10,h11,h12,hwc,hal.ret,hsv.1,hsv.2,List.all_cons,List.getElem?_cons_zero,List.getElem?_cons_succ,Bool.true_or,Bool.or_true,Bool.false_eq_true,if_false]
     refine (begin_win (compactW s.world (keepTo M s.world.objs.length)) (agesTo s M s.world.objs.length) ((s.cycle + 1).tmod 4) hcf hcs (by rw [agesTo_len]; simp [compactW]) (ages_in hAr) hci (gk := gk) (vA := va) (vM := vM) (by simp only [go_sem,qW]) (ma.keep fun t g ht => by simp at ht; subst ht; simp only [go_sem,qW]) c6).mono ?_
     rintro v en' cnt' ⟨g13,x16,xA,x13,x6,x103⟩
     try simp only [go_sem,qC,qG,qW,h10]
     refine ⟨by rw [x6]; simp only [go_sem,qW,q6,hen0],.inr ⟨hfg,vg,va,g13,rfl,mg.keep fun t g ht => ?_,x16,xA,x13⟩⟩
     simp at ht; subst ht
     rw [x103]; simp only [go_sem,qW]
    ·have : t1 = 107 := by simpa using tk
     subst this
     simp only [go_sem,qC,qG,qW,h2,e2,e16,h10,h11,h12,hwc,hal.ret,hsv.1,hsv.2,ek,List.length_map,Nat.le_refl,if_true,take_map_len,List.all_cons,List.getElem?_cons_zero,List.getElem?_cons_succ,Bool.true_or,Bool.or_true,Bool.false_eq_true,if_false]
     refine (begin_win (compactW s.world (keepTo M s.world.objs.length)) (agesTo s M s.world.objs.length) ((s.cycle + 1).tmod 4) hcf hcs (by rw [agesTo_len]; simp [compactW]) (ages_in hAr) hci (gk := gk) (vA := va) (vM := vM) (by simp only [go_sem,qW]) (ma.keep fun t g ht => by simp at ht; subst ht; simp only [go_sem,qW]) c6).mono ?_
     rintro v en' cnt' ⟨g13,x16,xA,x13,x6,x103⟩
     try simp only [go_sem,qC,qG,qW,h10]
     refine ⟨by rw [x6]; simp only [go_sem,qW,q6,hen0],.inr ⟨hfg,vg,va,g13,rfl,mg.keep fun t g ht => ?_,x16,xA,x13⟩⟩
     simp at ht; subst ht
     rw [x103]; simp only [go_sem,qW]
theorem mine_snapB {en : En} {v : Val} {size t : Nat} {xs : List Val} (h : Mine en v size xs [t]) (n : Nat) : ∃ r ks,r.wk0 = .fz xs ∧ r.wk1 = .fz xs ∧ ∀ en' : En,(∀ g,en' ⟨0,t,g⟩ = en ⟨0,t,g⟩) → snapD (n + 1) en' v = some (r,ks) := by
 rcases h with ⟨rfl,rfl⟩ | ⟨t',g,f,rfl,h2,ht⟩
 ·exact ⟨.cl [],[],rfl,rfl,fun _ _ => rfl⟩
 ·have : t' = t := by simpa using ht
  subst this
  exact ⟨.fz xs,[⟨0,t',g⟩],rfl,rfl,fun en' he => by simp [snapD,he,h2]⟩
theorem proper_pc (n : Int) : PC L F.reap_proper [.int .i64 n] (.bool (inR n 1 200)) := by
 have e : inR n 1 200 = (decide (1 ≤ n) && decide (n ≤ 200)) := by simp [inR]
 rw [e]
 refine pc_of LF.reap_proper rfl rfl ?_
 simp only [go_sem,qC,qG,qW,C.reap_proper]
 refine guardK_split (fun g => ?_) (fun g => ?_) <;> simp only [go_sem,qC,qG,qW,g,Bool.true_and,Bool.false_and,Bool.not_true]
theorem Most_pc (n : Int) : PC L F.R18_Most [.int .i64 n] (.bool (inR n 1 200)) := by
 refine pc_of LF.R18_Most rfl rfl ?_
 simp only [go_sem,qC,qG,qW,C.R18_Most,(R18_in_pc' _ _ _).ret]
theorem mark_nat (s : RState) (i : Nat) : markAt s i = markN s.marks i := by simp [markAt,markN]
theorem state_marks {p : BProg} {s : RState} (h : stateOk p s = true) : MarksOk s.world s.marks ∧ s.ages.length = s.world.objs.length ∧ inR s.cycle 0 3 = true ∧ (∀ i : Nat,i < s.world.objs.length → inR (ageAt s i) 0 2 = true) ∧ given p s.world = true := by
 simp only [stateOk,lensOk,rowsOk,Bool.and_eq_true,decide_eq_true_eq,List.all_eq_true] at h
 obtain ⟨⟨hg,⟨h1,h2⟩,h3⟩,h4⟩ := h
 have row := fun (i : Nat) (hi : i < s.world.objs.length) => h4 i (by simpa using hi)
 refine ⟨⟨h2,fun i hi => ?_,fun i hi ht h0 => ?_,fun i hi hb x hx h0 => ?_⟩,h1,h3,fun i hi => ?_,hg⟩
 ·have := (row i (by omega)).1
  simp only [rangeOk,Bool.and_eq_true] at this
  have := this.2
  rw [mark_nat] at this
  simp only [inR,decide_eq_true_eq] at this
  omega
 ·have := (row i hi).2
  simp only [rowOk,whiteBad,Bool.and_eq_true,Bool.not_eq_true',mark_nat,h0,ht] at this
  simp at this
 ·have := (row i hi).2
  simp only [rowOk,Bool.and_eq_true,List.all_eq_true] at this
  have := this.2 x ((refs_mem _ _).2 hx)
  have h0' : markAt s x = 0 := by unfold markAt; unfold markN at h0; exact h0
  simp only [refBad,mark_nat,hb,h0',decide_true,Bool.and_self,Bool.not_true] at this
  cases this
 ·have := (row i hi).1
  simp only [rangeOk,Bool.and_eq_true] at this
  exact this.1
theorem reap_Slice_pc (p : BProg) (s : RState) (most : Int) (hp : p.few) (hs : s.few) (hsp : smallProg p = true) (hss : smallState s = true) :
  PC L F.reap_Slice [.agg [.fz (p.nodes.map BNode.enc),.fz (p.funs.map (.int .i64)),.int .i64 p.main,.fz (p.cons.map BCon.enc)],.agg [.fz (s.world.objs.map MObj.enc),.fz (s.world.tasks.map (.int .i64)),.fz (s.world.outs.map MOut.enc),.fz (s.world.ins.map (.int .i64)),.int .i64 s.world.used,.fz (s.ages.map (.int .i64)),.fz (s.marks.map (.int .i64)),.int .i64 s.cycle],.int .i64 most] (if stateOk p s = true ∧ inR most 1 200 = true then .tup [.agg [.fz ((sliceS s most.toNat).world.objs.map MObj.enc),.fz ((sliceS s most.toNat).world.tasks.map (.int .i64)),.fz ((sliceS s most.toNat).world.outs.map MOut.enc),.fz ((sliceS s most.toNat).world.ins.map (.int .i64)),.int .i64 (sliceS s most.toNat).world.used,.fz ((sliceS s most.toNat).ages.map (.int .i64)),.fz ((sliceS s most.toNat).marks.map (.int .i64)),.int .i64 (sliceS s most.toNat).cycle],.fz ((sliceG s most.toNat).map (.int .i64)),.bool (sliceE s most.toNat),.int .i64 0]
   else .tup [.agg [.fz [],.fz [],.fz [],.fz [],.int .i64 0,.fz [],.fz [],.int .i64 0],.fz [],.bool false,.int .i64 2]) := by
 have hsw1 : smallWorld s.world = true := by
  simp only [smallState,Bool.and_eq_true] at hss
  exact hss.1.1
 have hck := reap_Check_pc p s hp hs hsp hsw1
 refine pc_of LF.reap_Slice rfl rfl ?_
 by_cases h1 : stateOk p s = true
 ·rw [if_pos h1] at hck
  obtain ⟨hok,hA,hcy,hAr,hg⟩ := state_marks h1
  have hin : InRange s.world := fun o ho x hx => given_in hg o ho x ((refs_mem _ _).2 hx)
  by_cases h2 : inR most 1 200 = true
  ·rw [if_pos ⟨h1,h2⟩]
   have hpr := proper_pc most
   rw [h2] at hpr
   simp only [inR,decide_eq_true_eq] at h2
   obtain ⟨k,rfl⟩ := Int.eq_ofNat_of_zero_le (show 0 ≤ most by omega)
   simp only [go_sem,qC,qG,qW,C.reap_Slice,hck.ret,hpr.ret]
   refine (own_win2 s hs hss).mono ?_
   rintro v en1 cnt1 ⟨g16,vA,vM,rfl,e16,mA,mM,hfr,hcn,hA8⟩
   have q6 := hfr 6 0 (by decide) (by decide) (by decide) (by decide)
   have c6 : 1 ≤ cnt1 0 6 := by rw [hcn 6 (by decide) (by decide) (by decide) (by decide)]; simp only [go_sem,qW]; try exact Nat.le_refl _
   have q6' : en1 ⟨0,6,0⟩ = some (.box [.cl [],.cl [],.cl [],.cl [],.int .i64 0,.cl [],.cl [],.int .i64 0] false) := by rw [q6]; simp only [go_sem,qW]
   try simp only [go_sem,qC,qG,qW]
   refine (slice_win s k hs hsw1 hin hok hA (by omega) hcy hAr (given_tasks hg).1 e16 mA mM c6 hA8).mono ?_
   rintro v en2 cnt2 ⟨x6,(⟨hfg,rfl,x16,xA,xM⟩ | ⟨hfg,vg,va,g13,rfl,xg,x16,xA,x13⟩)⟩
   ·have y6 := x6.trans q6'
    have hS : sliceS s k = ⟨s.world,s.ages,runS s.world k s.marks,s.cycle⟩ := by rw [sliceS,if_pos hfg]
    have hG : sliceG s k = [] := by rw [sliceG,if_pos hfg]
    have hE : sliceE s k = false := by rw [sliceE,decide_eq_true hfg]; rfl
    rw [Int.toNat_natCast,hS,hG,hE]
    obtain ⟨r1,k1,a1,a2,a3⟩ := mine_snapB xA.mine 5
    obtain ⟨r2,k2,d1,d2,d3⟩ := mine_snapB xM.mine 5
    simp only [go_sem,qC,qG,qW,x16,y6,a1,a2,a3,d1,d2,d3,implies_true]
   ·have y6 := x6.trans q6'
    have hS : sliceS s k = nextS s (runS s.world k s.marks) := by rw [sliceS,if_neg hfg]
    have hG : sliceG s k = goneTo (runS s.world k s.marks) s.world.objs.length := by rw [sliceG,if_neg hfg]
    have hE : sliceE s k = true := by rw [sliceE,decide_eq_false hfg]; rfl
    rw [Int.toNat_natCast,hS,hG,hE]
    obtain ⟨r1,k1,a1,a2,a3⟩ := mine_snapB xA 5
    obtain ⟨r2,k2,d1,d2,d3⟩ := mine_snapB xg 6
    have hlm : (nextS s (runS s.world k s.marks)).marks.length = (nextS s (runS s.world k s.marks)).world.objs.length := by simp [nextS,marksB]
    have htk : ((nextS s (runS s.world k s.marks)).marks.map (Val.int .i64)).take (nextS s (runS s.world k s.marks)).world.objs.length = (nextS s (runS s.world k s.marks)).marks.map (.int .i64) := List.take_of_length_le (by simp [hlm])
    simp only [go_sem,qC,qG,qW,x16,y6,x13,a1,a2,a3,d1,d2,d3,implies_true,hlm,htk,List.length_map,Nat.le_refl,if_true]
  ·rw [if_neg (fun h => h2 h.2)]
   have hpr := proper_pc most
   rw [Bool.not_eq_true] at h2
   rw [h2] at hpr
   simp only [go_sem,qC,qG,qW,C.reap_Slice,hck.ret,hpr.ret]
 ·rw [if_neg h1] at hck
  rw [if_neg (fun h => h1 h.1)]
  simp only [go_sem,qC,qG,qW,C.reap_Slice,hck.ret]
theorem next_few {s : RState} {m : List Int} (hs : s.few) (hsm : smallWorld s.world = true) (h : Shut s.world (keepTo m s.world.objs.length)) : (nextS s m).few := by
 have hl := h.len
 have h1 := hs.1.objs
 have hkf : Few (keepTo m s.world.objs.length).length := by unfold Few at *; omega
 refine ⟨compact_few hs.1 hsm hkf h.rng,?_,?_⟩
 ·simp only [nextS,agesTo_len]; exact hkf
 ·simpa [nextS,marksB,compactW] using hkf
theorem slice_few {s : RState} {most : Nat} (hs : s.few) (hsm : smallWorld s.world = true) (hin : InRange s.world) (hok : MarksOk s.world s.marks) : (sliceS s most).few := by
 unfold sliceS
 split
 ·refine ⟨hs.1,hs.2.1,?_⟩
  have := hok.len
  have h1 := hs.1.objs
  simp only [runS_len]
  unfold Few at *; omega
 ·rename_i hfg
  exact next_few hs hsm (shut_marks (marks_run hin most hok) hin hfg).1
theorem sliceG_few {s : RState} {most : Nat} (hs : s.few) : Few (sliceG s most).length := by
 have h1 := hs.1.objs
 unfold sliceG; split
 ·unfold Few at *; simp
 ·have := gone_len (runS s.world most s.marks) s.world.objs.length
  unfold Few at *; omega
theorem idx_lt {keep : List Int} {x : Int} (h : x ∈ keep) : keep.idxOf x < keep.length := List.idxOf_lt_length_of_mem h
theorem idx_get {keep : List Int} {x : Int} (h : x ∈ keep) : keep[keep.idxOf x]'(idx_lt h) = x := List.getElem_idxOf (idx_lt h)
theorem idx_inj {keep : List Int} {x y : Int} (hx : x ∈ keep) (hy : y ∈ keep) (h : keep.idxOf x = keep.idxOf y) : x = y := by
 have h1 := idx_get hx
 have h2 := idx_get hy
 simp only [h] at h1
 rw [← h1,h2]
theorem idx_of {keep : List Int} (hr : keep.Pairwise (· < ·)) {i : Nat} (h : i < keep.length) : keep.idxOf keep[i] = i := by
 have hm := List.getElem_mem h
 have hl := idx_lt hm
 have hg := idx_get hm
 by_cases h1 : keep.idxOf keep[i] < i
 ·have := List.pairwise_iff_getElem.1 hr _ _ hl h h1
  omega
 ·by_cases h2 : i < keep.idxOf keep[i]
  ·have := List.pairwise_iff_getElem.1 hr _ _ h hl h2
   omega
  ·omega
theorem compact_obj {w : MWorld} {keep : List Int} {t : Int} (h : t ∈ keep) : (compactW w keep).obj (keep.idxOf t : Nat) = movedO keep (w.obj t) := by
 have hl := idx_lt h
 have hg := idx_get h
 simp only [MWorld.obj,compactW,Int.toNat_natCast,List.getD_eq_getElem?_getD,List.getElem?_map,List.getElem?_eq_getElem hl,Option.map_some,Option.getD_some,hg]
theorem compact_at {w : MWorld} {keep : List Int} {i : Nat} (h : i < keep.length) : (compactW w keep).obj i = movedO keep (w.obj keep[i]) := by
 simp only [MWorld.obj,compactW,Int.toNat_natCast,List.getD_eq_getElem?_getD,List.getElem?_map,List.getElem?_eq_getElem h,Option.map_some,Option.getD_some]
theorem valueOk_moved {p : BProg} {w : MWorld} {keep : List Int} {v : MVal} (h : valueOk p w v = true) (hr : isRef v = true → v.n ∈ keep) : valueOk p (compactW w keep) (movedV keep v) = true := by
 by_cases h5 : isRef v = true
 ·have hk : v.kind = 5 := of_decide_eq_true h5
  have := idx_lt (hr h5)
  simp only [valueOk,movedV,hk,h5,if_true,inR,compactW,List.length_map]
  simp; omega
 ·have hk : ¬ v.kind = 5 := fun e => h5 (decide_eq_true e)
  have e : movedV keep v = v := by rw [movedV,if_neg h5]
  rw [e]
  simpa only [valueOk,hk,if_false] using h
theorem refVals_mem {l : List MVal} {v : MVal} (hv : v ∈ l) (h : isRef v = true) : v.n ∈ refVals l := List.mem_map.2 ⟨v,List.mem_filter.2 ⟨hv,h⟩,rfl⟩
theorem valuesOk_moved {p : BProg} {w : MWorld} {keep : List Int} {l : List MVal} {m : Int} (h : valuesOk p w l m = true) (hr : ∀ x ∈ refVals l,x ∈ keep) : valuesOk p (compactW w keep) (movedL keep l) m = true := by
 simp only [valuesOk,Bool.and_eq_true,decide_eq_true_eq,List.all_eq_true] at h ⊢
 refine ⟨by simpa [movedL] using h.1,fun v hv => ?_⟩
 obtain ⟨u,hu,rfl⟩ := List.mem_map.1 hv
 exact valueOk_moved (h.2 u hu) fun h5 => hr _ (refVals_mem hu h5)
theorem movedL_len (keep : List Int) (l : List MVal) : (movedL keep l).length = l.length := by simp [movedL]
theorem frameOk_moved {p : BProg} {w : MWorld} {keep : List Int} {f : MFrame} (h : frameOk p w f = true) (hr : ∀ x ∈ frameRefs f,x ∈ keep) : frameOk p (compactW w keep) (movedF keep f) = true := by
 simp only [frameOk,Bool.and_eq_true] at h ⊢
 exact ⟨⟨h.1.1,valuesOk_moved h.1.2 fun x hx => hr x (List.mem_append_left _ hx)⟩,valuesOk_moved h.2 fun x hx => hr x (List.mem_append_right _ hx)⟩
theorem framesOk_moved {p : BProg} {w : MWorld} {keep : List Int} {l : List MFrame} (h : framesOk p w l = true) (hr : ∀ x ∈ l.flatMap frameRefs,x ∈ keep) : framesOk p (compactW w keep) (l.map (movedF keep)) = true := by
 simp only [framesOk,Bool.and_eq_true,decide_eq_true_eq,List.all_eq_true] at h ⊢
 refine ⟨by simpa using h.1,fun f hf => ?_⟩
 obtain ⟨g,hg,rfl⟩ := List.mem_map.1 hf
 exact frameOk_moved (h.2 g hg) fun x hx => hr x (List.mem_flatMap.2 ⟨g,hg,hx⟩)
theorem frameOpen_moved (p : BProg) (keep : List Int) (f : MFrame) : frameOpen p (movedF keep f) = frameOpen p f := by simp [frameOpen,movedF,movedL_len]
theorem opens_moved (p : BProg) (keep : List Int) (l : List MFrame) (k : Nat) : ((l.map (movedF keep)).take k).all (frameOpen p) = (l.take k).all (frameOpen p) := by
 rw [← List.map_take,List.all_map]
 congr 1; funext f; exact frameOpen_moved p keep f
theorem taskOk_moved {p : BProg} {w : MWorld} {keep : List Int} {o : MObj} (h : taskOk p w o = true) (hr : ∀ x ∈ refsOf o,x ∈ keep) : taskOk p (compactW w keep) (movedO keep o) = true := by
 have hv : ∀ x ∈ refVals o.vals,x ∈ keep := fun x hx => hr x (List.mem_append_left _ hx)
 have hf : ∀ x ∈ o.frames.flatMap frameRefs,x ∈ keep := fun x hx => hr x (List.mem_append_right _ hx)
 unfold taskOk at h ⊢
 simp only [movedO,List.length_map,movedL_len,opens_moved]
 split at h
 ·rename_i h0
  rw [if_pos h0]
  simp only [Bool.and_eq_true] at h ⊢
  exact ⟨⟨⟨framesOk_moved h.1.1.1 hf,valuesOk_moved h.1.1.2 hv⟩,h.1.2⟩,h.2⟩
 split at h
 ·rename_i h0 h1
  rw [if_neg h0,if_pos h1]
  simp only [Bool.and_eq_true] at h ⊢
  exact ⟨h.1,valuesOk_moved h.2 hv⟩
 split at h
 ·rename_i h0 h1 h2
  rw [if_neg h0,if_neg h1,if_pos h2]
  exact h
 ·cases h
theorem head_moved (keep : List Int) (l : List MFrame) : ((l.map (movedF keep)).headD default).node = (l.headD default).node := by cases l <;> rfl
theorem objOk_moved {p : BProg} {w : MWorld} {keep : List Int} {o : MObj} (h : objOk p w o = true) (hr : ∀ x ∈ refsOf o,x ∈ keep) : objOk p (compactW w keep) (movedO keep o) = true := by
 have hv : ∀ x ∈ refVals o.vals,x ∈ keep := fun x hx => hr x (List.mem_append_left _ hx)
 have hf : ∀ x ∈ o.frames.flatMap frameRefs,x ∈ keep := fun x hx => hr x (List.mem_append_right _ hx)
 unfold objOk at h ⊢
 split at h
 ·rename_i h0
  rw [if_pos (show (movedO keep o).form = 6 from h0)]
  exact taskOk_moved h hr
 rename_i h0
 rw [if_neg (show ¬ (movedO keep o).form = 6 from h0)]
 split at h
 ·rename_i h1
  rw [if_pos (show (movedO keep o).form = 5 from h1)]
  have ho : (o.frames.map (movedF keep)).all (frameOpen p) = o.frames.all (frameOpen p) := by
   rw [List.all_map]; congr 1; funext f; exact frameOpen_moved p keep f
  simp only [movedO,List.length_map,movedL_len,head_moved,ho]
  simp only [Bool.and_eq_true] at h ⊢
  exact ⟨⟨⟨h.1.1.1,framesOk_moved h.1.1.2 hf⟩,h.1.2⟩,h.2⟩
 rename_i h1
 rw [if_neg (show ¬ (movedO keep o).form = 5 from h1)]
 have hL : (movedO keep o).frames.length = o.frames.length := by simp only [movedO,List.length_map]
 have hVl : (movedO keep o).vals.length = o.vals.length := by simp only [movedO,movedL_len]
 rw [hL,hVl]
 split at h
 ·cases h
 rename_i h2
 rw [if_neg h2]
 split at h
 ·rename_i h3
  rw [if_pos (show (movedO keep o).form = 1 from h3)]
  simp only [Bool.and_eq_true] at h ⊢
  exact ⟨h.1,valuesOk_moved h.2 hv⟩
 rename_i h3
 rw [if_neg (show ¬ (movedO keep o).form = 1 from h3)]
 split at h
 ·rename_i h4
  rw [if_pos (show (movedO keep o).form = 2 from h4)]
  simp only [Bool.and_eq_true] at h ⊢
  exact ⟨h.1,valuesOk_moved h.2 hv⟩
 rename_i h4
 rw [if_neg (show ¬ (movedO keep o).form = 2 from h4)]
 split at h
 ·rename_i h5
  rw [if_pos (show (movedO keep o).form = 3 from h5)]
  simp only [Bool.and_eq_true] at h ⊢
  exact ⟨h.1,valuesOk_moved h.2 hv⟩
 rename_i h5
 rw [if_neg (show ¬ (movedO keep o).form = 3 from h5)]
 split at h
 ·rename_i h6
  rw [if_pos (show (movedO keep o).form = 4 from h6)]
  simp only [Bool.and_eq_true] at h ⊢
  exact ⟨h.1,valuesOk_moved h.2 hv⟩
 ·cases h
theorem isTask_moved (keep : List Int) (o : MObj) : isTask (movedO keep o) = isTask o := rfl
theorem distinct_moved {w : MWorld} {keep : List Int} : ∀ (l met : List Int),(∀ x ∈ l,x ∈ keep) → (∀ x ∈ met,x ∈ keep) → distinctTasks w met l = true → distinctTasks (compactW w keep) (met.map fun t => (keep.idxOf t : Int)) (l.map fun t => (keep.idxOf t : Int)) = true
 | [],_,_,_,_ => rfl
 | k :: l,met,hl,hm,h => by
  simp only [distinctTasks,Bool.and_eq_true] at h
  have hk := hl k (by simp)
  have hlt := idx_lt hk
  have ih := distinct_moved l (met ++ [k]) (fun x hx => hl x (by simp [hx])) (fun x hx => by rcases List.mem_append.1 hx with hx | hx; exact hm x hx; simp only [List.mem_singleton] at hx; rw [hx]; exact hk) h.2
  rw [List.map_append] at ih
  simp only [List.map_cons,distinctTasks,Bool.and_eq_true]
  refine ⟨⟨⟨?_,?_⟩,?_⟩,ih⟩
  ·simp only [inR,decide_eq_true_eq,compactW,List.length_map]; omega
  ·rw [compact_obj hk,isTask_moved]; exact h.1.1.2
  ·have hn := h.1.2
   rw [Bool.not_eq_true',← Bool.not_eq_true,List.any_eq_true] at hn ⊢
   rintro ⟨x,hx,he⟩
   obtain ⟨y,hy,rfl⟩ := List.mem_map.1 hx
   have he' : keep.idxOf y = keep.idxOf k := by have := of_decide_eq_true he; omega
   exact hn ⟨y,hy,decide_eq_true (idx_inj (hm y hy) hk he')⟩
theorem compact_ok {p : BProg} {w : MWorld} {keep : List Int} (h : given p w = true) (hs : Shut w keep) (ht : ∀ t,(∃ i : Nat,t = (i : Int) ∧ i < w.objs.length ∧ isTask (w.obj i) = true) → t ∈ keep) : given p (compactW w keep) = true := by
 obtain ⟨hT1,hT2⟩ := given_tasks h
 have htk : ∀ t ∈ w.tasks,t ∈ keep := fun t hm => ht t (hT1 t hm)
 simp only [given,worldOk,Bool.and_eq_true,← tasks_same] at h ⊢
 obtain ⟨hfm,⟨⟨⟨⟨⟨⟨a1,a2⟩,a3⟩,a4⟩,a5⟩,a6⟩,a7⟩⟩ := h
 have hl := hs.len
 refine ⟨hfm,⟨⟨⟨⟨⟨⟨?_,a2⟩,a3⟩,a4⟩,?_⟩,?_⟩,a7⟩⟩
 ·simp only [decide_eq_true_eq,compactW,List.length_map] at a1 ⊢; omega
 ·simp only [tasksB,Bool.and_eq_true] at a5 ⊢
  refine ⟨distinct_moved w.tasks [] htk (fun x hx => by cases hx) a5.1,?_⟩
  simp only [covered,List.all_eq_true]
  intro i hi
  have hi' : i < keep.length := by simpa [compactW] using hi
  rw [compact_at hi',isTask_moved]
  cases hk : isTask (w.obj keep[i]) with
  | false => simp
  | true =>
   have hri := hs.rng _ (List.getElem_mem hi')
   simp only [inR,decide_eq_true_eq] at hri
   obtain ⟨j,hj⟩ := Int.eq_ofNat_of_zero_le hri.1
   rw [hj] at hk
   have hm := hT2 j (by omega) hk
   simp only [Bool.not_true,Bool.or_false,List.any_eq_true,decide_eq_true_eq]
   refine ⟨(keep.idxOf (j : Int) : Int),List.mem_map.2 ⟨_,hm,rfl⟩,?_⟩
   rw [← hj,idx_of hs.rise hi']
 ·rw [List.all_eq_true] at a6 ⊢
  intro o ho
  obtain ⟨n,hn,rfl⟩ := List.mem_map.1 ho
  exact objOk_moved (a6 _ (obj_mem (hs.rng n hn))) (hs.refs n hn)
theorem state_iff {p : BProg} {s : RState} : stateOk p s = true ↔ given p s.world = true ∧ MarksOk s.world s.marks ∧ s.ages.length = s.world.objs.length ∧ inR s.cycle 0 3 = true ∧ (∀ i : Nat,i < s.world.objs.length → inR (ageAt s i) 0 2 = true) ∧ (∀ i : Nat,i < s.world.objs.length → markN s.marks i = 0 → ageAt s i = 2 → s.cycle = 3) := by
 constructor
 ·intro h
  obtain ⟨a,b,c,d,e⟩ := state_marks h
  refine ⟨e,a,b,c,d,fun i hi h0 h2 => ?_⟩
  simp only [stateOk,lensOk,rowsOk,Bool.and_eq_true,decide_eq_true_eq,List.all_eq_true] at h
  have := (h.2 i (by simpa using hi)).2
  simp only [rowOk,whiteBad,Bool.and_eq_true,Bool.not_eq_true',mark_nat,h0,h2] at this
  by_cases hc : s.cycle = 3
  ·exact hc
  ·simp [hc] at this
 ·rintro ⟨hg,hm,hA,hc,hr,hw⟩
  simp only [stateOk,lensOk,rowsOk,Bool.and_eq_true,decide_eq_true_eq,List.all_eq_true]
  refine ⟨⟨hg,⟨hA,hm.len⟩,hc⟩,fun i hi => ?_⟩
  have hi : i < s.world.objs.length := by simpa using hi
  refine ⟨?_,?_⟩
  ·simp only [rangeOk,Bool.and_eq_true]
   refine ⟨hr i hi,?_⟩
   have := hm.range i (by rw [hm.len]; exact hi)
   rw [mark_nat]; simp only [inR,decide_eq_true_eq]; omega
  ·simp only [rowOk,Bool.and_eq_true,List.all_eq_true,Bool.not_eq_true']
   refine ⟨?_,fun x hx => ?_⟩
   ·rw [← Bool.not_eq_true]
    intro hb
    simp only [whiteBad,Bool.and_eq_true,Bool.or_eq_true,decide_eq_true_eq,Bool.not_eq_true',decide_eq_false_iff_not,mark_nat] at hb
    rcases hb with ⟨h0,ht | ⟨h2,h3⟩⟩
    ·exact hm.tasks i hi ht h0
    ·exact h3 (hw i hi h0 h2)
   ·rw [← Bool.not_eq_true]
    intro hb
    simp only [refBad,Bool.and_eq_true,decide_eq_true_eq,mark_nat] at hb
    exact hm.black i hi hb.1 x ((refs_mem _ _).1 hx) hb.2
theorem run_up (w : MWorld) {i : Nat} : ∀ (k : Nat) {m : List Int},¬ markN m i = 0 → ¬ markN (runS w k m) i = 0
 | 0,_,h => h
 | k + 1,m,h => by
  rw [runS]; split
  ·exact run_up w k (look_up h)
  ·exact h
theorem marksB_len (y : Int → Bool) (w : MWorld) (ages : List Int) (c : Int) : (marksB y w ages c).length = w.objs.length := by simp [marksB]
theorem marksB_at {y : Int → Bool} {w : MWorld} {ages : List Int} {c : Int} {i : Nat} (h : i < w.objs.length) : markN (marksB y w ages c) i = markB y w ages c i := by
 rw [markN_get (by rw [marksB_len]; exact h)]; simp [marksB]
theorem obj_at_mem {w : MWorld} {i : Nat} (h : i < w.objs.length) : w.obj i ∈ w.objs := by rw [objAt_get h]; exact List.getElem_mem _
theorem marks_begun {w : MWorld} {ages : List Int} {c : Int} (hin : InRange w) (hr : ∀ i : Nat,i < w.objs.length → inR (ageN ages i) 0 2 = true) :
  MarksOk w (marksB lt2 w ages c) ∧ ∀ i : Nat,i < w.objs.length → markN (marksB lt2 w ages c) i = 0 → ageN ages i = 2 → c = 3 := by
 refine ⟨⟨marksB_len ..,fun i hi => ?_,fun i hi ht => ?_,fun i hi h2 x hx => ?_⟩,fun i hi h0 h2 => ?_⟩
 ·rw [marksB_len] at hi
  rw [marksB_at hi,markB]
  split
  ·exact .inr (.inl rfl)
  ·split
   ·split
    ·exact .inr (.inl rfl)
    ·exact .inr (.inr rfl)
   ·exact .inl rfl
 ·rw [marksB_at hi,markB,if_pos ht]; decide
 ·have hxi := hin _ (obj_at_mem hi) x hx
  simp only [inR,decide_eq_true_eq] at hxi
  have hl : x.toNat < w.objs.length := by omega
  rw [marksB_at hi,markB] at h2
  split at h2
  ·exact absurd h2 (by decide)
  split at h2
  ·rename_i hc
   split at h2
   ·exact absurd h2 (by decide)
   ·rename_i hy
    have h3 : ¬ lt2 (ageN ages x) = true := fun e => hy (List.any_eq_true.2 ⟨x,(refs_mem _ _).2 hx,e⟩)
    have h4 := hr x.toNat hl
    have e5 : ageN ages (x.toNat : Nat) = ageN ages x := by rw [Int.toNat_of_nonneg hxi.1]
    rw [e5] at h4
    simp only [lt2,decide_eq_true_eq,inR] at h3 h4
    have h6 : ageN ages x = 2 := by omega
    rw [marksB_at hl,markB]
    split
    ·decide
    ·simp only [Bool.and_eq_true] at hc
     rw [e5,h6,hc.1]
     simp only [decide_true,Bool.and_self,if_true]
     split <;> decide
  ·exact absurd h2 (by decide)
 ·rw [marksB_at hi,markB] at h0
  split at h0
  ·exact absurd h0 (by decide)
  split at h0
  ·split at h0 <;> exact absurd h0 (by decide)
  ·rename_i hc
   by_cases h3 : c = 3
   ·exact h3
   ·exact absurd (by simp [h2,h3]) hc
theorem agesTo_in {s : RState} {m : List Int} {k : Nat} (hr : ∀ i : Nat,i < k → inR (ageAt s i) 0 2 = true) : ∀ x ∈ agesTo s m k,inR x 0 2 = true := by
 intro x hx
 obtain ⟨i,hi,rfl⟩ := List.mem_map.1 hx
 have hi := hr i (by have := (List.mem_filter.1 hi).1; simpa using this)
 simp only [inR,decide_eq_true_eq] at hi ⊢
 omega
theorem given_inRange {p : BProg} {w : MWorld} (h : given p w = true) : InRange w := fun o ho x hx => given_in h o ho x ((refs_mem _ _).2 hx)
theorem next_keep {p : BProg} {s : RState} {most : Nat} (h : stateOk p s = true) (hg : ¬ firstG (runS s.world most s.marks) < (runS s.world most s.marks).length) :
  Shut s.world (keepTo (runS s.world most s.marks) s.world.objs.length) ∧ ∀ t,(∃ i : Nat,t = (i : Int) ∧ i < s.world.objs.length ∧ isTask (s.world.obj i) = true) → t ∈ keepTo (runS s.world most s.marks) s.world.objs.length := by
 obtain ⟨hgv,hm,_,_,_,_⟩ := state_iff.1 h
 exact shut_marks (marks_run (given_inRange hgv) most hm) (given_inRange hgv) hg
theorem slice_state {p : BProg} {s : RState} {most : Nat} (h : stateOk p s = true) : stateOk p (sliceS s most) = true := by
 obtain ⟨hgv,hm,hA,hc,hr,hw⟩ := state_iff.1 h
 have hin := given_inRange hgv
 have hmr := marks_run hin most hm
 unfold sliceS
 split
 ·refine state_iff.2 ⟨hgv,hmr,hA,hc,hr,fun i hi h0 h2 => ?_⟩
  refine hw i hi ?_ h2
  by_cases h' : markN s.marks i = 0
  ·exact h'
  ·exact absurd h0 (run_up _ most h')
 ·rename_i hg
  obtain ⟨hs,ht⟩ := next_keep h hg
  have hgv' := compact_ok hgv hs ht
  have hl : (compactW s.world (keepTo (runS s.world most s.marks) s.world.objs.length)).objs.length = (keepTo (runS s.world most s.marks) s.world.objs.length).length := by simp [compactW]
  have hr' : ∀ i : Nat,i < (compactW s.world (keepTo (runS s.world most s.marks) s.world.objs.length)).objs.length → inR (ageN (agesTo s (runS s.world most s.marks) s.world.objs.length) i) 0 2 = true := fun i hi => by
   rw [ageN_get (by rw [agesTo_len]; omega)]
   exact agesTo_in hr _ (List.getElem_mem _)
  obtain ⟨b1,b2⟩ := marks_begun (c := (s.cycle + 1).tmod 4) (given_inRange hgv') hr'
  refine state_iff.2 ⟨hgv',b1,by rw [nextS,agesTo_len,hl],?_,hr',b2⟩
  simp only [inR,decide_eq_true_eq] at hc ⊢
  have : (s.cycle + 1).tmod 4 = (s.cycle + 1) % 4 := Int.tmod_eq_emod_of_nonneg (by omega)
  show 0 ≤ (s.cycle + 1).tmod 4 ∧ (s.cycle + 1).tmod 4 ≤ 3
  omega
theorem slice_small {p : BProg} {s : RState} {most : Nat} (h : stateOk p s = true) (hs : smallState s = true) : smallState (sliceS s most) = true := by
 obtain ⟨hgv,hm,hA,hc,hr,hw⟩ := state_iff.1 h
 simp only [smallState,Bool.and_eq_true,decide_eq_true_eq] at hs ⊢
 unfold sliceS
 split
 ·exact ⟨hs.1,by rw [runS_len]; exact hs.2⟩
 ·rename_i hg
  obtain ⟨hsh,ht⟩ := next_keep h hg
  have hkl := hsh.len
  have hml := hm.len
  refine ⟨⟨small_compact hs.1.1 hsh,?_⟩,?_⟩
  ·show ((agesTo _ _ _).length : Int) ≤ 130
   rw [agesTo_len]; omega
  ·show ((marksB _ _ _ _).length : Int) ≤ 130
   rw [marksB_len]
   simp only [compactW,List.length_map]; omega
def putL (out : List Int) (n : Int) : List Int := if out.any (fun x => decide (x = n)) = true then out else out ++ [n]
theorem some_put (out : List Int) (v : MVal) : someStep out v = if isRef v = true then putL out v.n else out := by
 unfold someStep putL
 cases isRef v <;> cases out.any (fun x => decide (x = v.n)) <;> rfl
theorem putL_len (out : List Int) (n : Int) : (putL out n).length ≤ out.length + 1 := by unfold putL; split <;> simp
theorem put_win (out : List Int) (n : Int) {v : Val} {en : En} {cnt : Nat → Nat → Nat} {D : List Nat} (hD : 12 ∈ D) (hm : Mine en v 1 (out.map (.int .i64)) D) (hb : out.length + 1 ≤ 16777216) :
  WIn L (.fn F.R06_put [] []) [v,.int .i64 n] en cnt fun r en' cnt' =>
   Mine en' r 1 ((putL out n).map (.int .i64)) D ∧ (∀ k t g,k ≠ 0 ∨ (t ∉ D ∧ t ≠ 11) → en' ⟨k,t,g⟩ = en ⟨k,t,g⟩) := by
 have hf : Few out.length := by unfold Few; omega
 obtain ⟨r,ks,s1,s2,s3⟩ := mine_ret hm
 refine win_of LF.R06_put rfl rfl ?_
 simp only [go_sem,qC,qG,qW,C.R06_put,s1,s3,(R06_listed_pc out n hf).ret]
 refine condK_split (fun hq => ?_) (fun hq => ?_)
 ·have e : putL out n = out := by rw [putL,if_pos hq]
  simp only [go_sem,qC,qG,qW,hq]
  rw [e]
  exact ⟨hm,fun _ _ _ _ => trivial⟩
 ·have e : putL out n = out ++ [n] := by rw [putL,if_neg (by rw [hq]; decide)]
  simp only [go_sem,qC,qG,qW,hq]
  refine w_append (D := D) (xs := out.map (.int .i64)) (ys := [.int .i64 n]) (rs := []) ?_ ?_ ?_ ?_ ?_
  ·simp only [go_sem,qW]
   exact hm.keep fun t g ht => by simp only [go_sem,qW]
  ·simp only [go_sem,qW]
  ·rfl
  ·simp; omega
  ·intro v' en' cnt' hown hen hcnt
   simp only [go_sem,qC,qG,qW]
   rw [e,List.map_append]
   refine ⟨Mine.sub hown (by intro t ht; rcases List.mem_cons.1 ht with rfl | ht <;> assumption),fun k t g h => ?_⟩
   rw [hen k t g (by rcases h with h | h; exact .inl h; exact .inr ⟨fun e => h.1 (e ▸ hD),h.1⟩)]
theorem put_fold {out : List Int} {l : List MVal} {k : Nat} (h : k < l.length) (hr : isRef l[k] = true) : someL out (l.take (k + 1)) = putL (someL out (l.take k)) l[k].n := by rw [someL_step h,some_put,if_pos hr]
theorem put_skip {out : List Int} {l : List MVal} {k : Nat} (h : k < l.length) (hr : isRef l[k] = false) : someL out (l.take (k + 1)) = someL out (l.take k) := by rw [someL_step h,some_put,if_neg (by rw [hr]; decide)]
theorem refs06_win (out : List Int) (l : List MVal) {v : Val} {en : En} {cnt : Nat → Nat → Nat} {D : List Nat} (hD : 12 ∈ D) (hm : Mine en v 1 (out.map (.int .i64)) D) (hb : out.length + l.length ≤ 16777216) :
  WIn L (.fn F.R06_refs [] []) [v,.fz (l.map MVal.enc)] en cnt fun r en' cnt' =>
   Mine en' r 1 ((someL out l).map (.int .i64)) D ∧ (∀ n t g,n ≠ 0 ∨ (t ∉ D ∧ t ≠ 11) → en' ⟨n,t,g⟩ = en ⟨n,t,g⟩) := by
 have hf : Few l.length := by unfold Few; omega
 obtain ⟨en0,hen0⟩ : ∃ e,e = en := ⟨_,rfl⟩
 refine win_of LF.R06_refs rfl rfl ?_
 simp only [go_sem,qC,qG,qW,C.R06_refs]
 refine wp_for l.length (fun k st => ∃ fr en cnt,st = ⟨fr,en,cnt⟩ ∧ fr 1 = .fz (l.map MVal.enc) ∧ fr 5 = .int .i64 k ∧ Mine en (fr 0) 1 ((someL out (l.take k)).map (.int .i64)) D ∧ (∀ n t g,n ≠ 0 ∨ (t ∉ D ∧ t ≠ 11) → en ⟨n,t,g⟩ = en0 ⟨n,t,g⟩)) 0 (Nat.zero_le _) ⟨_,_,_,rfl,by simp only [go_sem,qW],by simp only [go_sem,qW],by simp only [go_sem,qW]; simpa [someL] using hm,fun n t g h => by rw [hen0]⟩ ?_
 rintro k st hk ⟨fr,en,cnt,rfl,h1,h5,h0,hI⟩
 simp only [go_sem,qC,qG,qW,h1,h5]
 refine condK_split (fun h => ?_) (fun h => ?_)
 ·have h' : k < l.length := of_decide_eq_true h
  have hlen := someL_len (l.take k) out
  rw [List.length_take] at hlen
  simp only [go_sem,qC,qG,qW,h',h1,h5]
  refine condK_split (fun hg => ?_) (fun hg => ?_)
  ·have hx : isRef l[k] = true := hg
   simp only [go_sem,qC,qG,qW,h',h1,h5]
   refine (put_win (someL out (l.take k)) l[k].n hD h0 (by omega)).mono ?_
   rintro v' en' cnt' ⟨hm',hfr'⟩
   refine ⟨_,_,_,rfl,?_⟩
   simp only [go_sem,qC,qG,qW,h',h1,h5,wrap_succ h' hf]
   exact ⟨by rw [put_fold h' hx]; exact hm',fun n t g h => by rw [hfr' n t g h]; exact hI n t g h⟩
  ·have hx : isRef l[k] = false := hg
   simp only [go_sem,qC,qG,qW,h',h1,h5]
   refine ⟨_,_,_,rfl,?_⟩
   simp only [go_sem,qC,qG,qW,h',h1,h5,wrap_succ h' hf]
   exact ⟨by rw [put_skip h' hx]; exact h0,hI⟩
 ·have : k = l.length := by simp at h; omega
  subst this
  rw [List.take_length] at h0
  simp only [go_sem,qC,qG,qW]
  exact ⟨h0,fun n t g h => by rw [← hen0]; exact hI n t g h⟩
def growO (out : List Int) (o : MObj) : List Int := o.frames.foldl (fun out f => someL (someL out f.env) f.vals) (someL out o.vals)
def tasksL (w : MWorld) : List Int := w.tasks.foldl putL []
def reachFrom (w : MWorld) : Nat → List Int → Nat → List Int
 | 0,out,_ => out
 | f + 1,out,i => if i < out.length then reachFrom w f (growO out (w.obj (numAt out i))) (i + 1) else out
def orderL (w : MWorld) : List Int := reachFrom w (w.objs.length + 1) (tasksL w) 0
theorem grow_mem {x : Int} {out : List Int} {o : MObj} : x ∈ growO out o ↔ x ∈ out ∨ x ∈ refsOf o := by
 unfold growO; rw [frames_mem,someL_mem]
 simp only [refsOf,List.mem_append,or_assoc]
theorem putL_mem {x n : Int} {out : List Int} : x ∈ putL out n ↔ x ∈ out ∨ x = n := by
 unfold putL; split
 ·rename_i h
  obtain ⟨y,hy,he⟩ := List.any_eq_true.1 h
  have := of_decide_eq_true he
  subst this
  exact ⟨.inl,fun h => h.elim id fun e => e ▸ hy⟩
 ·simp
theorem fold_put_mem {x : Int} : ∀ (l out : List Int),x ∈ l.foldl putL out ↔ x ∈ out ∨ x ∈ l
 | [],out => by simp
 | n :: l,out => by
  rw [List.foldl_cons,fold_put_mem l,putL_mem]; simp [or_assoc]
structure Adds (n : Nat) (a b : List Int) : Prop where
 pre : a <+: b
 once : b.Nodup
theorem putL_add {n : Int} {out : List Int} (h : out.Nodup) : out <+: putL out n ∧ (putL out n).Nodup := by
 unfold putL; split
 ·exact ⟨List.prefix_refl _,h⟩
 ·rename_i hn
  refine ⟨List.prefix_append _ _,List.nodup_append.2 ⟨h,by simp,?_⟩⟩
  intro a ha b hb e
  have hb' : b = n := by simpa using hb
  exact hn (List.any_eq_true.2 ⟨a,ha,decide_eq_true (by rw [e,hb'])⟩)
theorem step_add {v : MVal} {out : List Int} (h : out.Nodup) : out <+: someStep out v ∧ (someStep out v).Nodup := by
 rw [some_put]; split
 ·exact putL_add h
 ·exact ⟨List.prefix_refl _,h⟩
theorem some_add : ∀ (l : List MVal) {out : List Int},out.Nodup → out <+: someL out l ∧ (someL out l).Nodup
 | [],_,h => ⟨List.prefix_refl _,h⟩
 | v :: l,out,h => by
  obtain ⟨a,b⟩ := step_add (v := v) h
  obtain ⟨c,d⟩ := some_add l b
  exact ⟨a.trans c,d⟩
theorem frames_add : ∀ (l : List MFrame) {out : List Int},out.Nodup → out <+: l.foldl (fun out f => someL (someL out f.env) f.vals) out ∧ (l.foldl (fun out f => someL (someL out f.env) f.vals) out).Nodup
 | [],_,h => ⟨List.prefix_refl _,h⟩
 | f :: l,out,h => by
  obtain ⟨a,b⟩ := some_add f.env h
  obtain ⟨c,d⟩ := some_add f.vals b
  obtain ⟨e,g⟩ := frames_add l d
  exact ⟨(a.trans c).trans e,g⟩
theorem grow_add (o : MObj) {out : List Int} (h : out.Nodup) : out <+: growO out o ∧ (growO out o).Nodup := by
 obtain ⟨a,b⟩ := some_add o.vals h
 obtain ⟨c,d⟩ := frames_add o.frames b
 exact ⟨a.trans c,d⟩
theorem put_adds : ∀ (l : List Int) {out : List Int},out.Nodup → (l.foldl putL out).Nodup
 | [],_,h => h
 | n :: l,out,h => put_adds l (putL_add h).2
theorem nat_len : ∀ (n : Nat) {l : List Nat},l.Nodup → (∀ x ∈ l,x < n) → l.length ≤ n
 | 0,[],_,_ => Nat.le_refl _
 | 0,a :: l,_,h => by have := h a (by simp); omega
 | n + 1,l,h,hr => by
  have := nat_len n (h.erase n) (fun x hx => by
   obtain ⟨a,b⟩ := h.mem_erase_iff.1 hx
   have := hr x b
   omega)
  have hl := List.length_erase (a := n) (l := l)
  split at hl <;> omega
theorem once_len {n : Nat} {l : List Int} (h : l.Nodup) (hr : ∀ x ∈ l,inR x 0 ((n : Int) - 1) = true) : l.length ≤ n := by
 have h1 : (l.map Int.toNat).Nodup := by
  rw [List.Nodup,List.pairwise_map]
  refine h.imp_of_mem ?_
  intro a b ha hb hne e
  have h1 := hr a ha
  have h2 := hr b hb
  simp only [inR,decide_eq_true_eq] at h1 h2
  omega
 have := nat_len n h1 (fun x hx => by
  obtain ⟨y,hy,rfl⟩ := List.mem_map.1 hx
  have := hr y hy
  simp only [inR,decide_eq_true_eq] at this
  omega)
 simpa using this
def InR (w : MWorld) (l : List Int) : Prop := ∀ x ∈ l,inR x 0 ((w.objs.length : Int) - 1) = true
theorem grow_in {w : MWorld} {out : List Int} {n : Int} (hin : InRange w) (hr : InR w out) (hn : inR n 0 ((w.objs.length : Int) - 1) = true) : InR w (growO out (w.obj n)) := by
 intro x hx
 rcases grow_mem.1 hx with hx | hx
 ·exact hr x hx
 ·exact hin _ (obj_mem hn) x hx
theorem from_none {w : MWorld} {out : List Int} {i : Nat} (h : ¬ i < out.length) (f : Nat) : reachFrom w f out i = out := by
 cases f with
 | zero => rfl
 | succ f => rw [reachFrom,if_neg h]
def framesG (out : List Int) (o : MObj) (k : Nat) : List Int := (o.frames.take k).foldl (fun out f => someL (someL out f.env) f.vals) (someL out o.vals)
theorem framesG_step {out : List Int} {o : MObj} {k : Nat} (h : k < o.frames.length) : framesG out o (k + 1) = someL (someL (framesG out o k) o.frames[k].env) o.frames[k].vals := by
 unfold framesG; rw [take_step h]; simp only [List.foldl_append,List.foldl_cons,List.foldl_nil]
theorem framesG_full (out : List Int) (o : MObj) : framesG out o o.frames.length = growO out o := by unfold framesG growO; rw [List.take_length]
theorem framesG_len {out : List Int} {o : MObj} (hs : smallObj o = true) : ∀ (k : Nat),k ≤ o.frames.length → (framesG out o k).length ≤ out.length + 40 + 80 * k
 | 0,_ => by
  have h1 := someL_len o.vals out
  have h2 := (small_obj hs).1
  have e : framesG out o 0 = someL out o.vals := by simp [framesG]
  rw [e]; omega
 | k + 1,h => by
  have h1 := framesG_len (out := out) hs k (by omega)
  rw [framesG_step (by omega)]
  have h2 := someL_len o.frames[k].vals (someL (framesG out o k) o.frames[k].env)
  have h3 := someL_len o.frames[k].env (framesG out o k)
  have h4 := (small_obj hs).2.2 _ (List.getElem_mem (show k < o.frames.length by omega))
  omega
theorem tasks_step {w : MWorld} {k : Nat} (h : k < w.tasks.length) : (w.tasks.take (k + 1)).foldl putL [] = putL ((w.tasks.take k).foldl putL []) w.tasks[k] := by
 rw [take_step h]; simp only [List.foldl_append,List.foldl_cons,List.foldl_nil]
theorem fold_put_len : ∀ (l : List Int) (out : List Int),(l.foldl putL out).length ≤ out.length + l.length
 | [],out => by simp
 | n :: l,out => by
  have h1 := fold_put_len l (putL out n)
  have h2 := putL_len out n
  simp only [List.foldl_cons,List.length_cons] at h1 ⊢
  omega
theorem R06_Reach_pc (w : MWorld) (hw : w.few) (hsm : smallWorld w = true) (hin : InRange w) (ht : InR w w.tasks) : PC L F.R06_Reach [.agg [.fz (w.objs.map MObj.enc),.fz (w.tasks.map (.int .i64)),.fz (w.outs.map MOut.enc),.fz (w.ins.map (.int .i64)),.int .i64 w.used]] (.fz ((orderL w).map (.int .i64))) := by
 obtain ⟨b1,b2,b3,b4⟩ := smallW_len hsm
 refine pc_of LF.R06_Reach rfl rfl ?_
 simp only [go_sem,qC,qG,qW,C.R06_Reach]
 refine wp_for w.tasks.length (fun k st => ∃ fr en cnt,st = ⟨fr,en,cnt⟩ ∧ fr 1 = .ptr ⟨0,1,0⟩ 0 ∧ en ⟨0,1,0⟩ = some (.box [.fz (w.objs.map MObj.enc),.fz (w.tasks.map (.int .i64)),.fz (w.outs.map MOut.enc),.fz (w.ins.map (.int .i64)),.int .i64 w.used] false) ∧ fr 4 = .int .i64 k ∧ Mine en (fr 3) 1 (((w.tasks.take k).foldl putL []).map (.int .i64)) [12]) 0 (Nat.zero_le _) ⟨_,_,_,rfl,by simp only [go_sem,qW],by simp only [go_sem,qW],by simp only [go_sem,qW],by simp only [go_sem,qW]; exact Mine.nil _ _⟩ ?_
 rintro k st hk ⟨fr,en,cnt,rfl,h1,e1,h4,h3⟩
 simp only [go_sem,qC,qG,qW,h1,e1,h4]
 refine condK_split (fun hq => ?_) (fun hq => ?_)
 ·have h' : k < w.tasks.length := of_decide_eq_true hq
  have hl := fold_put_len (w.tasks.take k) []
  rw [List.length_take,List.length_nil] at hl
  simp only [go_sem,qC,qG,qW,h',h1,e1,h4]
  refine (put_win ((w.tasks.take k).foldl putL []) w.tasks[k] (D := [12]) (by simp) h3 (by omega)).mono ?_
  rintro v1 en1 cnt1 ⟨hm1,hfr1⟩
  have e1' := (hfr1 0 1 0 (.inr ⟨by simp,by simp⟩)).trans e1
  refine ⟨_,_,_,rfl,?_⟩
  simp only [go_sem,qC,qG,qW,h',h1,e1',h4,wrap_succ h' hw.tasks]
  rw [tasks_step h']
  exact hm1
 ·have : k = w.tasks.length := by simp at hq; omega
  subst this
  rw [List.take_length] at h3
  simp only [go_sem,qC,qG,qW,h1,e1,h4]
  refine Go.Abs.wp_loop (fun (x : List Int × Nat) (st : Go.Abs.St) => ∃ fr en cnt,st = ⟨fr,en,cnt⟩ ∧ fr 1 = .ptr ⟨0,1,0⟩ 0 ∧ en ⟨0,1,0⟩ = some (.box [.fz (w.objs.map MObj.enc),.fz (w.tasks.map (.int .i64)),.fz (w.outs.map MOut.enc),.fz (w.ins.map (.int .i64)),.int .i64 w.used] false) ∧ fr 5 = .int .i64 x.2 ∧ Mine en (fr 3) 1 (x.1.map (.int .i64)) [12] ∧
    x.1.Nodup ∧ InR w x.1 ∧ x.2 ≤ x.1.length ∧ reachFrom w (w.objs.length + 1 - x.2) x.1 x.2 = orderL w)
   (fun x => w.objs.length - x.2) (tasksL w,0)
   ⟨_,_,_,rfl,by simp only [go_sem,h1],by simp only [go_sem,e1],by simp only [go_sem,qW],by simp only [go_sem,qW]; exact h3,put_adds _ List.nodup_nil,fun x hx => ht x (((fold_put_mem w.tasks []).1 hx).elim (fun h => by cases h) id),Nat.zero_le _,rfl⟩ ?_
  clear h1 e1 h4 h3
  rintro ⟨out,i⟩ st ⟨fr,en,cnt,rfl,h1,e1,h5,h3,hn,hr,hi,ho⟩
  dsimp only at h5 h3 hn hr hi ho ⊢
  have hol := once_len hn hr
  have hlen := h3.len
  rw [List.length_map] at hlen
  simp only [go_sem,qC,qG,qW,h1,e1,h5,hlen]
  refine condK_split (fun hq => ?_) (fun hq => ?_)
  ·have h' : i < out.length := by simpa using hq
   obtain ⟨g,f,hv,he⟩ : ∃ g f,fr 3 = .bl ⟨0,12,g⟩ 0 out.length ∧ en ⟨0,12,g⟩ = some (.blk 1 (out.map (.int .i64)) f) := by
    rcases h3 with ⟨_,hx⟩ | ⟨t,g,f,hv,he,ht⟩
    ·rw [List.map_eq_nil_iff] at hx; rw [hx] at h'; cases h'
    ·have : t = 12 := by simpa using ht
     subst this
     exact ⟨g,f,by rw [hv,List.length_map],he⟩
   have hgi : (out.map (Val.int .i64))[i]? = some (.int .i64 (numAt out i)) := by rw [numAt_get h']; simp [h']
   have hni : inR (numAt out i) 0 ((w.objs.length : Int) - 1) = true := by rw [numAt_get h']; exact hr _ (List.getElem_mem h')
   obtain ⟨o,hoo⟩ : ∃ o,o = w.obj (numAt out i) := ⟨_,rfl⟩
   have hso : smallObj o = true := by rw [hoo]; exact smallW_obj hsm _ (obj_mem hni)
   obtain ⟨c1,c2,c3⟩ := small_frames hso
   obtain ⟨g6,hg6⟩ : ∃ g,g = cnt 0 6 := ⟨_,rfl⟩
   have hc1 : (0 : Int) ≤ (i : Int) := by omega
   have hc2 : (i : Int) < (out.length : Int) := by omega
   simp only [go_sem,qC,qG,qW,h',h1,e1,h5,hv,he]
   refine wp_foot ?_
   simp only [go_sem,qC,qG,qW,h',h1,e1,h5,hv,he,hgi,hc1,hc2,ia_obj hni,← hoo,← hg6,List.all_cons,List.getElem?_cons_zero,List.getElem?_cons_succ,Bool.true_or,Bool.or_true,Bool.false_eq_true,if_false,true_and,and_true,eq_self,if_true,Nat.zero_add,Int.toNat_natCast,List.length_map]
   have h3v : Mine en (.bl ⟨0,12,g⟩ 0 out.length) 1 (out.map (.int .i64)) [12] := hv ▸ h3
   refine (refs06_win out o.vals (D := [12]) (by simp) (h3v.keep fun t g ht => by simp at ht; subst ht; simp only [go_sem,qW]) (by omega)).mono ?_
   rintro v1 en1 cnt1 ⟨hm1,hfr1⟩
   have k1 : en1 ⟨0,1,0⟩ = some (.box [.fz (w.objs.map MObj.enc),.fz (w.tasks.map (.int .i64)),.fz (w.outs.map MOut.enc),.fz (w.ins.map (.int .i64)),.int .i64 w.used] false) := by rw [hfr1 0 1 0 (.inr ⟨by simp,by simp⟩)]; simp only [go_sem,qW,e1]
   have k6 : en1 ⟨0,6,g6⟩ = some (.box [.int .i64 o.form,.int .i64 o.n,.fz (o.vals.map MVal.enc),.fz (o.frames.map MFrame.enc)] false) := by rw [hfr1 0 6 g6 (.inr ⟨by simp,by simp⟩)]; simp only [go_sem,qW]
   refine wp_for o.frames.length (fun j st => ∃ fr en cnt,st = ⟨fr,en,cnt⟩ ∧ fr 1 = .ptr ⟨0,1,0⟩ 0 ∧ en ⟨0,1,0⟩ = some (.box [.fz (w.objs.map MObj.enc),.fz (w.tasks.map (.int .i64)),.fz (w.outs.map MOut.enc),.fz (w.ins.map (.int .i64)),.int .i64 w.used] false) ∧ fr 5 = .int .i64 i ∧ fr 6 = .ptr ⟨0,6,g6⟩ 0 ∧ en ⟨0,6,g6⟩ = some (.box [.int .i64 o.form,.int .i64 o.n,.fz (o.vals.map MVal.enc),.fz (o.frames.map MFrame.enc)] false) ∧ fr 7 = .int .i64 j ∧ Mine en (fr 3) 1 ((framesG out o j).map (.int .i64)) [12]) 0 (Nat.zero_le _)
    ⟨_,_,_,rfl,by simp only [go_sem,h1],by simp only [go_sem,k1],by simp only [go_sem,h5],by simp only [go_sem,qW],by simp only [go_sem,k6],by simp only [go_sem,qW],by simp only [go_sem,qW]; simpa [framesG] using hm1⟩ ?_
   clear h1 e1 h5 hv he h3 h3v hm1 hfr1 k1 k6 hlen
   rintro j st hj ⟨fr,en,cnt,rfl,h1,e1,h5,h6,e6,h7,h3⟩
   simp only [go_sem,qC,qG,qW,h1,e1,h5,h6,e6,h7]
   refine condK_split (fun hq2 => ?_) (fun hq2 => ?_)
   ·have h2' : j < o.frames.length := of_decide_eq_true hq2
    have h4' := c3 _ (List.getElem_mem h2')
    have hl := framesG_len (out := out) hso j hj
    have hl2 := someL_len o.frames[j].env (framesG out o j)
    have hff : Few o.frames.length := by unfold Few; omega
    simp only [go_sem,qC,qG,qW,h2',h1,e1,h5,h6,e6,h7]
    refine wp_foot ?_
    simp only [go_sem,qC,qG,qW,h2',h1,e1,h5,h6,e6,h7,List.all_cons,List.getElem?_cons_zero,List.getElem?_cons_succ,Bool.true_or,Bool.or_true]
    refine (refs06_win (framesG out o j) o.frames[j].env (D := [12]) (by simp) h3 (by omega)).mono ?_
    rintro v1 en1 cnt1 ⟨hm1,hfr1⟩
    have e6' := (hfr1 0 6 g6 (.inr ⟨by simp,by simp⟩)).trans e6
    have e1' := (hfr1 0 1 0 (.inr ⟨by simp,by simp⟩)).trans e1
    simp only [go_sem,qC,qG,qW,h2',h1,e1',h5,h6,e6',h7,List.all_cons,List.getElem?_cons_zero,List.getElem?_cons_succ,Bool.true_or,Bool.or_true]
    refine (refs06_win (someL (framesG out o j) o.frames[j].env) o.frames[j].vals (D := [12]) (by simp) hm1 (by omega)).mono ?_
    rintro v2 en2 cnt2 ⟨hm2,hfr2⟩
    have e6'' := (hfr2 0 6 g6 (.inr ⟨by simp,by simp⟩)).trans e6'
    have e1'' := (hfr2 0 1 0 (.inr ⟨by simp,by simp⟩)).trans e1'
    simp only [go_sem,qC,qG,qW,h2',h1,e1,e1',h5,h6,e6,e6',h7,List.all_cons,List.getElem?_cons_zero,List.getElem?_cons_succ,Bool.true_or,Bool.or_true,apart_m,sameE_obj,List.all_nil]
    refine ⟨rfl,_,_,_,rfl,?_⟩
    simp only [go_sem,qC,qG,qW,h2',h1,e1'',h5,h6,e6'',h7,wrap_succ h2' hff]
    rw [framesG_step h2']
    exact hm2
   ·have : j = o.frames.length := by simp at hq2; omega
    subst this
    rw [framesG_full] at h3
    have hfo : Few out.length := by unfold Few; omega
    obtain ⟨p1,p2⟩ := grow_add o hn
    simp only [go_sem,qC,qG,qW,h1,e1,h5,h6,e6,h7]
    refine ⟨(growO out o,i + 1),⟨_,_,_,rfl,?_⟩,by dsimp only; omega⟩
    simp only [go_sem,qC,qG,qW,h1,e1,h5,h6,e6,h7,wrap_succ h' hfo]
    refine ⟨h3,p2,?_,?_,?_⟩
    ·rw [hoo]; exact grow_in hin hr hni
    ·have := p1.length_le; omega
    ·have e : w.objs.length + 1 - i = (w.objs.length + 1 - (i + 1)) + 1 := by omega
     rw [e,reachFrom,if_pos h',← hoo] at ho
     exact ho
  ·have h' : ¬ i < out.length := by simpa using hq
   simp only [go_sem,qC,qG,qW,h1,e1,h5]
   obtain ⟨r,ks,s1,s2,s3⟩ := mine_ret h3
   rw [from_none h'] at ho
   simp only [go_sem,qC,qG,qW,s1,s2,ho]
theorem from_in {w : MWorld} (hin : InRange w) : ∀ (f : Nat) {out : List Int} (i : Nat),out.Nodup → InR w out → (reachFrom w f out i).Nodup ∧ InR w (reachFrom w f out i)
 | 0,_,_,h,hr => ⟨h,hr⟩
 | f + 1,out,i,h,hr => by
  rw [reachFrom]; split
  ·rename_i hi
   exact from_in hin f (i + 1) (grow_add _ h).2 (grow_in hin hr (by rw [numAt_get hi]; exact hr _ (List.getElem_mem hi)))
  ·exact ⟨h,hr⟩
theorem tasksL_in {w : MWorld} (ht : InR w w.tasks) : InR w (tasksL w) := fun x hx => ht x (((fold_put_mem w.tasks []).1 hx).elim (fun h => by cases h) id)
theorem order_in {w : MWorld} (hin : InRange w) (ht : InR w w.tasks) : (orderL w).Nodup ∧ InR w (orderL w) := from_in hin _ 0 (put_adds _ List.nodup_nil) (tasksL_in ht)
end Go.Proofs.YthpmfghgoabnhaaGreat
