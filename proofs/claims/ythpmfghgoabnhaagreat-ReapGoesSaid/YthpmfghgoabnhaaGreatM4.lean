/- Contracts of functions of the program and of the document: part 4. -/
import Derived.Test.YthpmfghgoabnhaaGreatM3
import Derived.Test.YthpmfghgoabnhaaGreatM2
import Derived.Test.YthpmfghgoabnhaaGreatRows
import Derived.Test.YthpmfghgoabnhaaGreatHxE
set_option linter.all false
namespace Go.Proofs.YthpmfghgoabnhaaGreat
open Go.Abs Go.Proofs
theorem slices_Index_pc (l : List Int) (n : Int) (hl : Few l.length) : PC L F.slices_Index_s_int_int [.fz (l.map (.int .i64)),.int .i64 n] (.int .i64 (if memB l n = true then (l.idxOf n : Nat) else -1)) := by
 refine pc_of LF.slices_Index_s_int_int rfl rfl ?_
 simp only [go_sem,qC,qG,qW,C.slices_Index_s_int_int]
 refine wp_for (l.length) (fun k st => ∃ fr en cnt,st = ⟨fr,en,cnt⟩ ∧ (fr 0 = .fz (l.map (.int .i64))) ∧ (fr 1 = .int .i64 n) ∧ (fr 7 = .int .i64 l.length) ∧ (fr 8 = .int .i64 k) ∧ (l.idxOf n = (l.drop k).idxOf n + k) ∧ (memB (l.drop k) n = memB l n)) 0 (Nat.zero_le _) ⟨_,_,_,rfl,(by first | (simp only [go_sem,qW]; (try rfl); done) | rfl | simp),(by first | (simp only [go_sem,qW]; (try rfl); done) | rfl | simp),(by first | (simp only [go_sem,qW]; (try rfl); done) | rfl | simp),(by first | (simp only [go_sem,qW]; (try rfl); done) | rfl | simp),(by first | (simp only [go_sem,qW]; (try rfl); done) | rfl | simp),(by first | (simp only [go_sem,qW]; (try rfl); done) | rfl | simp)⟩ ?_
 rintro k st hk ⟨fr,en,cnt,rfl,h0,h1,h7,h8,hI,hM⟩
 simp only [go_sem,qC,qG,qW,h0,h1,h7,h8]
 refine condK_split (fun hq => ?_) (fun hq => ?_)
 ·have h' : k < l.length := of_decide_eq_true hq
  rw [idx_step h'] at hI
  rw [List.drop_eq_getElem_cons h'] at hM
  simp only [go_sem,qC,qG,qW,hq,h',h0,h1,h7,h8]
  refine condK_split (fun g => ?_) (fun g => ?_)
  ·have g' : l[k] = n := by simp at g; omega
   rw [if_pos g'] at hI
   have hm : memB l n = true := by rw [← hM]; simp [memB,g']
   rw [if_pos hm]
   simp only [go_sem,qC,qG,qW,h0,h1,h7,h8]
   rw [hI,Nat.zero_add]
  ·have g' : ¬ l[k] = n := by simp at g; omega
   rw [if_neg g'] at hI
   have hm : memB (l.drop (k + 1)) n = memB l n := by rw [← hM]; simp only [memB,List.any_cons,g',decide_false,Bool.false_or]
   clear hM
   simp only [go_sem,qC,qG,qW,h',h0,h1,h7,h8]
   refine ⟨_,_,_,rfl,?_⟩
   simp only [go_sem,qW,h0,h1,h7,h8,wrap_succ h' hl]
   exact ⟨by omega,hm⟩
 ·have : k = l.length := by simp at hq; omega
  subst this
  have hm : ¬ memB l n = true := by rw [← hM]; simp [memB]
  simp only [go_sem,qC,qG,qW,hq,h0,h1,h7,h8]
  rw [if_neg hm]
theorem Contains_pc (l : List Int) (n : Int) (hl : Few l.length) : PC L F.slices_Contains_s_int_int [.fz (l.map (.int .i64)),.int .i64 n] (.bool (memB l n)) := by
 have h := slices_Index_pc l n hl
 refine pc_of LF.slices_Contains_s_int_int rfl rfl ?_
 simp only [go_sem,qC,qG,qW,C.slices_Contains_s_int_int,h.ret]
 cases memB l n
 ·simp
 ·simp
theorem W18_fair_pc (p : BProg) (s : RState) (hp : p.few) (hs : s.few) (hc : p.cons.length ≤ 1000) : PC L F.W18_fair [.agg [.fz (p.nodes.map BNode.enc),.fz (p.funs.map (.int .i64)),.int .i64 p.main,.fz (p.cons.map BCon.enc)],.agg [.fz (s.world.objs.map MObj.enc),.fz (s.world.tasks.map (.int .i64)),.fz (s.world.outs.map MOut.enc),.fz (s.world.ins.map (.int .i64)),.int .i64 s.world.used,.fz (s.ages.map (.int .i64)),.fz (s.marks.map (.int .i64)),.int .i64 s.cycle]] (.bool (smallState s && stateOk p s)) := by
 refine pc_of LF.W18_fair rfl rfl ?_
 simp only [go_sem,qC,qG,qW,C.W18_fair,(R18_SmallState_pc s hs).ret]
 refine guardK_split (fun g => ?_) (fun g => ?_)
 ·have hsw : smallWorld s.world = true := by
   simp only [smallState,Bool.and_eq_true] at g
   exact g.1.1
  simp only [go_sem,qC,qG,qW,g,(R18_State_pc p s hp hs hc hsw).ret,Bool.true_and]
 ·simp only [go_sem,qC,qG,qW,g,Bool.false_and]
theorem W18_given_pc (p : BProg) (s : RState) (most : Int) (hp : p.few) (hs : s.few) : PC L F.W18_given [.agg [.fz (p.nodes.map BNode.enc),.fz (p.funs.map (.int .i64)),.int .i64 p.main,.fz (p.cons.map BCon.enc)],.agg [.fz (s.world.objs.map MObj.enc),.fz (s.world.tasks.map (.int .i64)),.fz (s.world.outs.map MOut.enc),.fz (s.world.ins.map (.int .i64)),.int .i64 s.world.used,.fz (s.ages.map (.int .i64)),.fz (s.marks.map (.int .i64)),.int .i64 s.cycle],.int .i64 most] (.bool (smallProg p && smallState s && stateOk p s && inR most 1 200)) := by
 refine pc_of LF.W18_given rfl rfl ?_
 simp only [go_sem,qC,qG,qW,C.W18_given,(R05_SmallProg_pc p hp).ret]
 refine guardK_split (fun g1 => ?_) (fun g1 => ?_)
 ·have hc : p.cons.length ≤ 1000 := by
   have := g1
   simp only [smallProg,Bool.and_eq_true,decide_eq_true_eq] at this
   omega
  simp only [go_sem,qC,qG,qW,g1,(R18_SmallState_pc s hs).ret]
  refine guardK_split (fun g2 => ?_) (fun g2 => ?_)
  ·have hsw : smallWorld s.world = true := by
    simp only [smallState,Bool.and_eq_true] at g2
    exact g2.1.1
   simp only [go_sem,qC,qG,qW,g1,g2,(R18_State_pc p s hp hs hc hsw).ret]
   refine guardK_split (fun g3 => ?_) (fun g3 => ?_)
   ·simp only [go_sem,qC,qG,qW,g1,g2,g3,(Most_pc most).ret,Bool.true_and]
   ·simp only [go_sem,qC,qG,qW,g1,g2,g3,Bool.true_and,Bool.false_and]
  ·simp only [go_sem,qC,qG,qW,g1,g2,Bool.true_and,Bool.false_and]
 ·simp only [go_sem,qC,qG,qW,g1,Bool.false_and]
def leftTo (gone : List Int) (k : Nat) : List Int := ((List.range k).filter fun (i : Nat) => !memB gone i).map fun (i : Nat) => (i : Int)
theorem left_t {gone : List Int} {k : Nat} (h : memB gone k = false) : leftTo gone (k + 1) = leftTo gone k ++ [(k : Int)] := by
 simp [leftTo,List.range_succ,List.filter_append,h]
theorem left_f {gone : List Int} {k : Nat} (h : memB gone k = true) : leftTo gone (k + 1) = leftTo gone k := by
 simp [leftTo,List.range_succ,List.filter_append,h]
theorem left_len (gone : List Int) (k : Nat) : (leftTo gone k).length ≤ k := by
 have := List.length_filter_le (fun (i : Nat) => !memB gone i) (List.range k)
 simpa [leftTo] using this
theorem left_mem {gone : List Int} {k : Nat} {x : Int} : x ∈ leftTo gone k ↔ ∃ i : Nat,x = i ∧ i < k ∧ memB gone i = false := by
 simp only [leftTo,List.mem_map,List.mem_filter,List.mem_range,Bool.not_eq_true']
 constructor
 ·rintro ⟨i,⟨h1,h2⟩,rfl⟩; exact ⟨i,rfl,h1,h2⟩
 ·rintro ⟨i,rfl,h1,h2⟩; exact ⟨i,⟨h1,h2⟩,rfl⟩
theorem W18_without_pc (w : MWorld) (gone : List Int) (hw : w.few) (hsm : smallWorld w = true) (hinR : InRange w) (ht : InR w w.tasks) (hgl : Few gone.length)
  (hgr : InR w gone) (hgo : ∀ x ∈ gone,memB (orderL w) x = false) (hgn : gone.Nodup) (hal : aloneOk w (leftTo gone w.objs.length) = true) :
  PC L F.W18_without [.agg [.fz (w.objs.map MObj.enc),.fz (w.tasks.map (.int .i64)),.fz (w.outs.map MOut.enc),.fz (w.ins.map (.int .i64)),.int .i64 w.used],.fz (gone.map (.int .i64))] (.tup [.agg [.fz ((compactW w (leftTo gone w.objs.length)).objs.map MObj.enc),.fz ((compactW w (leftTo gone w.objs.length)).tasks.map (.int .i64)),.fz ((compactW w (leftTo gone w.objs.length)).outs.map MOut.enc),.fz ((compactW w (leftTo gone w.objs.length)).ins.map (.int .i64)),.int .i64 (compactW w (leftTo gone w.objs.length)).used],.bool true]) := by
 obtain ⟨b1,b2,b3,b4⟩ := smallW_len hsm
 have hre := R06_Reach_pc w hw hsm hinR ht
 refine pc_of LF.W18_without rfl rfl ?_
 simp only [go_sem,qC,qG,qW,C.W18_without,hre.ret]
 refine wp_for w.objs.length (fun k st => ∃ fr en cnt,st = ⟨fr,en,cnt⟩ ∧ fr 1 = .fz (gone.map (.int .i64)) ∧ fr 2 = .ptr ⟨0,2,0⟩ 0 ∧ en ⟨0,2,0⟩ = some (.box [.fz (w.objs.map MObj.enc),.fz (w.tasks.map (.int .i64)),.fz (w.outs.map MOut.enc),.fz (w.ins.map (.int .i64)),.int .i64 w.used] false) ∧ fr 4 = .ptr ⟨0,4,0⟩ 0 ∧ en ⟨0,4,0⟩ = some (.box [.cl [],.cl [],.cl [],.cl [],.int .i64 0] false) ∧ fr 6 = .fz ((orderL w).map (.int .i64)) ∧ fr 15 = .int .i64 w.objs.length ∧ fr 16 = .int .i64 k ∧
  Mine en (fr 7) 1 ((leftTo gone k).map (.int .i64)) [26]) 0 (Nat.zero_le _) ⟨_,_,_,rfl,by simp only [go_sem,qW],by simp only [go_sem,qW],by simp only [go_sem,qW],by simp only [go_sem,qW],by simp only [go_sem,qW],by simp only [go_sem,qW],by simp only [go_sem,qW],by simp only [go_sem,qW],by simp only [go_sem,qW]; exact Mine.nil _ _⟩ ?_
 rintro k st hk ⟨fr,en,cnt,rfl,h1,h2,e2,h4,e4,h6,h15,h16,h7⟩
 simp only [go_sem,qC,qG,qW,h1,h2,e2,h4,e4,h6,h15,h16]
 refine condK_split (fun hq => ?_) (fun hq => ?_)
 ·have h' : k < w.objs.length := of_decide_eq_true hq
  have hll := left_len gone k
  simp only [go_sem,qC,qG,qW,h',h1,h2,e2,h4,e4,h6,h15,h16,(Contains_pc gone k hgl).ret]
  refine condK_split (fun hc => ?_) (fun hc => ?_)
  ·have hc' : memB gone k = false := by simpa using hc
   simp only [go_sem,qC,qG,qW,h',h1,h2,e2,h4,e4,h6,h15,h16]
   refine w_append (D := [26]) (xs := (leftTo gone k).map (.int .i64)) (ys := [.int .i64 k]) (rs := []) ?_ ?_ ?_ ?_ ?_
   ·simp only [go_sem,qW]
    exact h7.keep fun t g ht => by simp at ht; subst ht; simp only [go_sem,qW]
   ·simp only [go_sem,qW]
   ·rfl
   ·simp; omega
   ·intro v' en' cnt' hown hen hcnt
    have k2 : en' ⟨0,2,0⟩ = some (.box [.fz (w.objs.map MObj.enc),.fz (w.tasks.map (.int .i64)),.fz (w.outs.map MOut.enc),.fz (w.ins.map (.int .i64)),.int .i64 w.used] false) := by rw [hen 0 2 0 (.inr ⟨by decide,by simp⟩)]; simp only [go_sem,qW,e2]
    have k4 : en' ⟨0,4,0⟩ = some (.box [.cl [],.cl [],.cl [],.cl [],.int .i64 0] false) := by rw [hen 0 4 0 (.inr ⟨by decide,by simp⟩)]; simp only [go_sem,qW,e4]
    simp only [go_sem,qC,qG,qW,h',h1,h2,k2,h4,k4,h6,h15,h16]
    refine ⟨_,_,_,rfl,?_⟩
    simp only [go_sem,qC,qG,qW,h',h1,h2,k2,h4,k4,h6,h15,h16,wrap_succ h' hw.objs]
    rw [left_t hc',List.map_append]
    exact Mine.sub (D := [26,26]) hown (by simp)
  ·have hc' : memB gone k = true := by simpa using hc
   simp only [go_sem,qC,qG,qW,h',h1,h2,e2,h4,e4,h6,h15,h16]
   refine ⟨_,_,_,rfl,?_⟩
   simp only [go_sem,qC,qG,qW,h',h1,h2,e2,h4,e4,h6,h15,h16,wrap_succ h' hw.objs]
   rw [left_f hc']
   exact h7
 ·have : k = w.objs.length := by simp at hq; omega
  subst this
  simp only [go_sem,qC,qG,qW,h1,h2,e2,h4,e4,h6,h15,h16]
  refine wp_for gone.length (fun k st => ∃ fr en cnt,st = ⟨fr,en,cnt⟩ ∧ fr 1 = .fz (gone.map (.int .i64)) ∧ fr 2 = .ptr ⟨0,2,0⟩ 0 ∧ en ⟨0,2,0⟩ = some (.box [.fz (w.objs.map MObj.enc),.fz (w.tasks.map (.int .i64)),.fz (w.outs.map MOut.enc),.fz (w.ins.map (.int .i64)),.int .i64 w.used] false) ∧ fr 4 = .ptr ⟨0,4,0⟩ 0 ∧ en ⟨0,4,0⟩ = some (.box [.cl [],.cl [],.cl [],.cl [],.int .i64 0] false) ∧ fr 6 = .fz ((orderL w).map (.int .i64)) ∧ fr 28 = .fz (gone.map (.int .i64)) ∧ fr 29 = .int .i64 gone.length ∧ fr 30 = .int .i64 k ∧
   Mine en (fr 7) 1 ((leftTo gone w.objs.length).map (.int .i64)) [26]) 0 (Nat.zero_le _) ⟨_,_,_,rfl,by simp only [go_sem,h1],by simp only [go_sem,h2],by simp only [go_sem,e2],by simp only [go_sem,h4],by simp only [go_sem,e4],by simp only [go_sem,h6],by simp only [go_sem,qW],by simp only [go_sem,qW],by simp only [go_sem,qW],by simp only [go_sem,qW]; exact h7⟩ ?_
  clear h1 h2 e2 h4 e4 h6 h15 h16 h7
  rintro k st hk ⟨fr,en,cnt,rfl,h1,h2,e2,h4,e4,h6,h28,h29,h30,h7⟩
  simp only [go_sem,qC,qG,qW,h1,h2,e2,h4,e4,h6,h28,h29,h30]
  refine condK_split (fun hq => ?_) (fun hq => ?_)
  ·have h' : k < gone.length := of_decide_eq_true hq
   have hm := List.getElem_mem h'
   have hr := hgr _ hm
   have ho := hgo _ hm
   have hnr : decide (gone[k] < 0) = false := by simp only [inR,decide_eq_true_eq] at hr; exact decide_eq_false (by omega)
   have hnr2 : decide ((w.objs.length : Int) ≤ gone[k]) = false := by simp only [inR,decide_eq_true_eq] at hr; exact decide_eq_false (by omega)
   have hfo : Few (orderL w).length := by
    obtain ⟨hond,hi⟩ := order_in hinR ht
    have := once_len hond hi
    unfold Few; omega
   have hdup : memB (gone.take k) gone[k] = false := by
    rw [← Bool.not_eq_true,memB_iff]
    intro hx
    obtain ⟨j,hj,he⟩ := List.mem_iff_getElem.1 hx
    rw [List.length_take] at hj
    rw [List.getElem_take] at he
    have := (List.nodup_iff_pairwise_ne.1 hgn)
    have := List.pairwise_iff_getElem.1 this j k (by omega) h' (by omega)
    exact this he
   simp only [go_sem,qC,qG,qW,h',h1,h2,e2,h4,e4,h6,h28,h29,h30,hnr,hnr2,(Contains_pc (orderL w) gone[k] hfo).ret,ho,slice_to,hk,← List.map_take,(Contains_pc (gone.take k) gone[k] (few_take hgl k)).ret,hdup]
   refine ⟨_,_,_,rfl,?_⟩
   simp only [go_sem,qC,qG,qW,h',h1,h2,e2,h4,e4,h6,h28,h29,h30,wrap_succ h' hgl]
   exact h7
  ·have : k = gone.length := by simp at hq; omega
   subst this
   have hfl : Few (leftTo gone w.objs.length).length := by have := left_len gone w.objs.length; unfold Few; omega
   have hA := R18_Alone_pc w _ hw hsm hfl
   rw [hal] at hA
   have hC := R18_Compact_pc w (leftTo gone w.objs.length) hw hsm (by have := left_len gone w.objs.length; omega) (fun n hn => by
    obtain ⟨i,rfl,hi,_⟩ := left_mem.1 hn
    simp only [inR,decide_eq_true_eq]; omega)
   have hz : ∀ xs,Mine en (fr 7) 1 xs [26] → ∃ r ks,snapD 8 en (fr 7) = some (r,ks) ∧ r.wk1 = .fz xs ∧ W.applyAll en (ks.map W.frz) ⟨0,4,0⟩ = en ⟨0,4,0⟩ := by
    rintro xs (⟨hv,hx⟩ | ⟨t,g,f,hv,he,ht⟩)
    ·exact ⟨.cl [],[],by rw [hv]; rfl,by rw [hx]; rfl,rfl⟩
    ·have : t = 26 := by simpa using ht
     subst this
     refine ⟨.fz xs,[⟨0,26,g⟩],by rw [hv]; simp [snapD,he],rfl,?_⟩
     simp only [go_sem,qW,List.map_cons,List.map_nil,he]
   obtain ⟨r,ks,s1,s3,s4⟩ := hz _ h7
   rw [e4] at s4
   simp only [go_sem,qC,qG,qW,h1,h2,e2,h4,e4,h6,s1,s3,s4,hA.ret,hC.ret]
end Go.Proofs.YthpmfghgoabnhaaGreat
namespace Go.Proofs.YthpmfghgoabnhaaGreat
open Go.Abs Go.Proofs
def plc (keep : List Int) (x : Int) : Int := (keep.idxOf x : Nat)
def Tasked (w : MWorld) (keep : List Int) : Prop := ∀ t,(∃ i : Nat,t = (i : Int) ∧ i < w.objs.length ∧ isTask (w.obj i) = true) → t ∈ keep
theorem plc_inj {keep : List Int} {x y : Int} (hx : x ∈ keep) (hy : y ∈ keep) (h : plc keep x = plc keep y) : x = y := idx_inj hx hy (by unfold plc at h; omega)
theorem put_plc {keep out : List Int} {n : Int} (ho : ∀ x ∈ out,x ∈ keep) (hn : n ∈ keep) : putL (out.map (plc keep)) (plc keep n) = (putL out n).map (plc keep) := by
 have e : (out.map (plc keep)).any (fun x => decide (x = plc keep n)) = out.any (fun x => decide (x = n)) := by
  rw [Bool.eq_iff_iff,List.any_eq_true,List.any_eq_true]
  constructor
  ·rintro ⟨x,hx,he⟩
   obtain ⟨y,hy,rfl⟩ := List.mem_map.1 hx
   exact ⟨y,hy,decide_eq_true (plc_inj (ho y hy) hn (of_decide_eq_true he))⟩
  ·rintro ⟨x,hx,he⟩
   exact ⟨plc keep x,List.mem_map.2 ⟨x,hx,rfl⟩,decide_eq_true (by rw [of_decide_eq_true he])⟩
 unfold putL; rw [e]; split
 ·rfl
 ·rw [List.map_append]; rfl
theorem some_plc {keep : List Int} : ∀ (l : List MVal) {out : List Int},(∀ x ∈ out,x ∈ keep) → (∀ x ∈ refVals l,x ∈ keep) → someL (out.map (plc keep)) (movedL keep l) = (someL out l).map (plc keep)
 | [],_,_,_ => rfl
 | v :: l,out,ho,hr => by
  have hv : isRef v = true → v.n ∈ keep := fun h => hr _ (refVals_mem (by simp) h)
  have hl : ∀ x ∈ refVals l,x ∈ keep := fun x hx => hr x (by
   obtain ⟨u,hu,rfl⟩ := List.mem_map.1 hx
   obtain ⟨h1,h2⟩ := List.mem_filter.1 hu
   exact refVals_mem (by simp [h1]) h2)
  have e : someStep (out.map (plc keep)) (movedV keep v) = (someStep out v).map (plc keep) := by
   rw [some_put,some_put]
   by_cases h : isRef v = true
   ·have hk : isRef (movedV keep v) = true := h
    have hn : (movedV keep v).n = plc keep v.n := by unfold movedV plc; rw [if_pos h]
    rw [if_pos h,if_pos hk,hn,put_plc ho (hv h)]
   ·have hk : ¬ isRef (movedV keep v) = true := h
    rw [if_neg h,if_neg hk]
  have ih := some_plc l (out := someStep out v) (fun x hx => by
   rcases (someStep_mem _ _ _).1 hx with hx | ⟨h,rfl⟩
   ·exact ho x hx
   ·exact hv h) hl
  show someL (someStep (out.map (plc keep)) (movedV keep v)) (movedL keep l) = (someL (someStep out v) l).map (plc keep)
  rw [e]; exact ih
theorem frames_plc {keep : List Int} : ∀ (l : List MFrame) {out : List Int},(∀ x ∈ out,x ∈ keep) → (∀ x ∈ l.flatMap frameRefs,x ∈ keep) →
  (l.map (movedF keep)).foldl (fun out f => someL (someL out f.env) f.vals) (out.map (plc keep)) = (l.foldl (fun out f => someL (someL out f.env) f.vals) out).map (plc keep)
 | [],_,_,_ => rfl
 | f :: l,out,ho,hr => by
  have he : ∀ x ∈ refVals f.env,x ∈ keep := fun x hx => hr x (List.mem_append_left _ (List.mem_append_left _ hx))
  have hv : ∀ x ∈ refVals f.vals,x ∈ keep := fun x hx => hr x (List.mem_append_left _ (List.mem_append_right _ hx))
  have ho1 : ∀ x ∈ someL out f.env,x ∈ keep := fun x hx => by
   rcases (someL_mem _ _ _).1 hx with hx | hx
   ·exact ho x hx
   ·exact he x hx
  have ho2 : ∀ x ∈ someL (someL out f.env) f.vals,x ∈ keep := fun x hx => by
   rcases (someL_mem _ _ _).1 hx with hx | hx
   ·exact ho1 x hx
   ·exact hv x hx
  have ih := frames_plc l ho2 fun x hx => hr x (List.mem_append_right _ hx)
  simp only [List.map_cons,List.foldl_cons]
  show (l.map (movedF keep)).foldl _ (someL (someL (out.map (plc keep)) (movedL keep f.env)) (movedL keep f.vals)) = _
  rw [some_plc _ ho he,some_plc _ ho1 hv]
  exact ih
theorem grow_plc {keep out : List Int} {o : MObj} (ho : ∀ x ∈ out,x ∈ keep) (hr : ∀ x ∈ refsOf o,x ∈ keep) : growO (out.map (plc keep)) (movedO keep o) = (growO out o).map (plc keep) := by
 have hv : ∀ x ∈ refVals o.vals,x ∈ keep := fun x hx => hr x (List.mem_append_left _ hx)
 have hf : ∀ x ∈ o.frames.flatMap frameRefs,x ∈ keep := fun x hx => hr x (List.mem_append_right _ hx)
 have ho1 : ∀ x ∈ someL out o.vals,x ∈ keep := fun x hx => by
  rcases (someL_mem _ _ _).1 hx with hx | hx
  ·exact ho x hx
  ·exact hv x hx
 show (o.frames.map (movedF keep)).foldl _ (someL (out.map (plc keep)) (movedL keep o.vals)) = _
 rw [some_plc _ ho hv]
 exact frames_plc _ ho1 hf
theorem from_plc {w : MWorld} {keep : List Int} (hs : Shut w keep) : ∀ (f : Nat) {out : List Int} (i : Nat),(∀ x ∈ out,x ∈ keep) →
  reachFrom (compactW w keep) f (out.map (plc keep)) i = (reachFrom w f out i).map (plc keep) ∧ ∀ x ∈ reachFrom w f out i,x ∈ keep
 | 0,_,_,h => ⟨rfl,h⟩
 | f + 1,out,i,h => by
  rw [reachFrom,reachFrom,List.length_map]
  split
  ·rename_i hi
   have hm := h _ (List.getElem_mem hi)
   have e1 : numAt (out.map (plc keep)) i = plc keep (numAt out i) := by
    rw [numAt_get (by rw [List.length_map]; exact hi),numAt_get hi,List.getElem_map]
   have e2 : (compactW w keep).obj (plc keep (numAt out i)) = movedO keep (w.obj (numAt out i)) := by
    rw [numAt_get hi]; exact compact_obj hm
   have hr : ∀ x ∈ refsOf (w.obj (numAt out i)),x ∈ keep := by rw [numAt_get hi]; exact hs.refs _ hm
   rw [e1,e2,grow_plc h hr]
   exact from_plc hs f (i + 1) fun x hx => by
    rcases grow_mem.1 hx with hx | hx
    ·exact h x hx
    ·exact hr x hx
  ·exact ⟨rfl,h⟩
theorem from_more {w : MWorld} (hin : InRange w) : ∀ (f : Nat) {out : List Int} (i : Nat),out.Nodup → InR w out → w.objs.length + 1 ≤ f + i → reachFrom w (f + 1) out i = reachFrom w f out i
 | 0,out,i,h,hr,hf => by
  have := once_len h hr
  rw [from_none (by omega),from_none (by omega)]
 | f + 1,out,i,h,hr,hf => by
  by_cases hi : i < out.length
  ·have e : ∀ f,reachFrom w (f + 1) out i = reachFrom w f (growO out (w.obj (numAt out i))) (i + 1) := fun f => by rw [reachFrom,if_pos hi]
   rw [e,e]
   exact from_more hin f (i + 1) (grow_add _ h).2 (grow_in hin hr (by rw [numAt_get hi]; exact hr _ (List.getElem_mem hi))) (by omega)
  ·rw [from_none hi,from_none hi]
theorem from_add {w : MWorld} (hin : InRange w) {out : List Int} {i f : Nat} (h : out.Nodup) (hr : InR w out) (hf : w.objs.length + 1 ≤ f + i) : ∀ d,reachFrom w (f + d) out i = reachFrom w f out i
 | 0 => rfl
 | d + 1 => by rw [← Nat.add_assoc,from_more hin (f + d) i h hr (by omega),from_add hin h hr hf d]
theorem tasks_plc {keep : List Int} : ∀ (l : List Int) {out : List Int},(∀ x ∈ out,x ∈ keep) → (∀ x ∈ l,x ∈ keep) → (l.map (plc keep)).foldl putL (out.map (plc keep)) = (l.foldl putL out).map (plc keep)
 | [],_,_,_ => rfl
 | n :: l,out,ho,hl => by
  simp only [List.map_cons,List.foldl_cons]
  rw [put_plc ho (hl n (by simp))]
  exact tasks_plc l (fun x hx => by
   rcases putL_mem.1 hx with hx | rfl
   ·exact ho x hx
   ·exact hl _ (by simp)) fun x hx => hl x (by simp [hx])
theorem order_plc {w : MWorld} {keep : List Int} (hin : InRange w) (hs : Shut w keep) (ht : ∀ t ∈ w.tasks,t ∈ keep) :
  orderL (compactW w keep) = (orderL w).map (plc keep) ∧ ∀ x ∈ orderL w,x ∈ keep := by
 have htl : ∀ x ∈ tasksL w,x ∈ keep := fun x hx => ht x (((fold_put_mem w.tasks []).1 hx).elim (fun h => by cases h) id)
 have h1 : tasksL (compactW w keep) = (tasksL w).map (plc keep) := tasks_plc w.tasks (out := []) (fun x hx => by cases hx) ht
 obtain ⟨h2,h3⟩ := from_plc hs (w.objs.length + 1) 0 htl
 refine ⟨?_,h3⟩
 rw [← orderL] at h2
 rw [← h2,← h1]
 have hl : (compactW w keep).objs.length = keep.length := by simp [compactW]
 have hkl := hs.len
 have hin' := compact_in hs
 have htr : InR (compactW w keep) (tasksL (compactW w keep)) := by
  rw [h1]
  intro x hx
  obtain ⟨y,hy,rfl⟩ := List.mem_map.1 hx
  have := idx_lt (htl y hy)
  simp only [inR,decide_eq_true_eq,hl,plc]; omega
 have h4 := from_add hin' (put_adds _ List.nodup_nil) htr (i := 0) (f := keep.length + 1) (by omega) (w.objs.length - keep.length)
 rw [orderL,hl]
 rw [show keep.length + 1 + (w.objs.length - keep.length) = w.objs.length + 1 by omega] at h4
 exact h4.symm
end Go.Proofs.YthpmfghgoabnhaaGreat
namespace Go.Proofs.YthpmfghgoabnhaaGreat
open Go.Abs Go.Proofs
def allL (n : Nat) : List Int := (List.range n).map fun (i : Nat) => (i : Int)
theorem allL_rise (n : Nat) : (allL n).Pairwise (· < ·) := by
 unfold allL; rw [List.pairwise_map]
 exact (List.pairwise_lt_range).imp fun {a b} (h : a < b) => by omega
theorem allL_len (n : Nat) : (allL n).length = n := by simp [allL]
theorem allL_mem {n : Nat} {x : Int} : x ∈ allL n ↔ inR x 0 ((n : Int) - 1) = true := by
 simp only [allL,List.mem_map,List.mem_range,inR,decide_eq_true_eq]
 constructor
 ·rintro ⟨i,hi,rfl⟩; omega
 ·intro h; exact ⟨x.toNat,by omega,by omega⟩
theorem allL_idx {n : Nat} {x : Int} (h : inR x 0 ((n : Int) - 1) = true) : (((allL n).idxOf x : Nat) : Int) = x := by
 simp only [inR,decide_eq_true_eq] at h
 have hl : x.toNat < (allL n).length := by rw [allL_len]; omega
 have e : (allL n)[x.toNat] = x := by simp only [allL,List.getElem_map,List.getElem_range]; omega
 have := idx_of (allL_rise n) hl
 rw [e] at this
 omega
theorem allL_shut {w : MWorld} (hin : InRange w) : Shut w (allL w.objs.length) :=
 ⟨allL_rise _,fun x hx => allL_mem.1 hx,fun n hn x hx => allL_mem.2 (hin _ (obj_mem (allL_mem.1 hn)) x hx),by rw [allL_len]; exact Nat.le_refl _⟩
theorem allL_tasked (w : MWorld) : Tasked w (allL w.objs.length) := by
 rintro t ⟨i,rfl,hi,_⟩
 exact allL_mem.2 (by simp only [inR,decide_eq_true_eq]; omega)
theorem movedL_all {n : Nat} {l : List MVal} (h : ∀ x ∈ refVals l,inR x 0 ((n : Int) - 1) = true) : movedL (allL n) l = l := by
 unfold movedL
 rw [List.map_congr_left (g := id),List.map_id]
 intro v hv
 unfold movedV
 by_cases hr : isRef v = true
 ·rw [if_pos hr,allL_idx (h _ (refVals_mem hv hr))]; rfl
 ·rw [if_neg hr]; rfl
theorem movedO_all {n : Nat} {o : MObj} (h : ∀ x ∈ refsOf o,inR x 0 ((n : Int) - 1) = true) : movedO (allL n) o = o := by
 unfold movedO
 rw [movedL_all fun x hx => h x (List.mem_append_left _ hx),List.map_congr_left (g := id),List.map_id]
 intro f hf
 have hf' : ∀ x ∈ frameRefs f,inR x 0 ((n : Int) - 1) = true := fun x hx => h x (List.mem_append_right _ (List.mem_flatMap.2 ⟨f,hf,hx⟩))
 unfold movedF
 rw [movedL_all fun x hx => hf' x (List.mem_append_left _ hx),movedL_all fun x hx => hf' x (List.mem_append_right _ hx)]; rfl
theorem compact_all {w : MWorld} (hin : InRange w) (ht : InR w w.tasks) : compactW w (allL w.objs.length) = w := by
 have e1 : ((allL w.objs.length).map fun n => movedO (allL w.objs.length) (w.obj n)) = w.objs := by
  apply List.ext_getElem
  ·simp [allL_len]
  ·intro i h1 h2
   simp only [List.getElem_map,allL,List.getElem_range]
   rw [objAt_get h2]
   exact movedO_all (hin _ (List.getElem_mem h2))
 have e2 : (w.tasks.map fun t => ((allL w.objs.length).idxOf t : Int)) = w.tasks := by
  rw [List.map_congr_left (g := id),List.map_id]
  intro t hm
  exact allL_idx (ht t hm)
 unfold compactW; rw [e1,e2]
theorem alone_of {w : MWorld} {keep : List Int} (hs : Shut w keep) (ht : Tasked w keep) : aloneOk w keep = true := by
 rw [alone_all]
 intro i hi
 unfold aloneRow
 rw [Bool.and_eq_true]
 refine ⟨?_,?_⟩
 ·rw [Bool.not_eq_true',← Bool.not_eq_true]
  intro h
  simp only [Bool.and_eq_true,Bool.not_eq_true'] at h
  have := memB_iff.2 (ht i ⟨i,rfl,hi,h.1⟩)
  rw [h.2] at this; cases this
 ·rw [List.all_eq_true]
  intro x hx
  rw [Bool.not_eq_true',← Bool.not_eq_true]
  intro h
  simp only [lostB,Bool.and_eq_true,Bool.not_eq_true'] at h
  have := memB_iff.2 (hs.refs i (memB_iff.1 h.1) x ((refs_mem _ _).1 hx))
  rw [h.2] at this; cases this
theorem given_tasked {p : BProg} {w : MWorld} (h : given p w = true) : InR w w.tasks ∧ ∀ keep,Tasked w keep → ∀ t ∈ w.tasks,t ∈ keep := by
 obtain ⟨a,b⟩ := given_tasks h
 refine ⟨fun t ht => ?_,fun keep hk t ht => hk t (a t ht)⟩
 obtain ⟨i,rfl,hi,_⟩ := a t ht
 simp only [inR,decide_eq_true_eq]; omega
theorem left_nil (n : Nat) : leftTo [] n = allL n := by unfold leftTo allL; rw [List.filter_eq_self.2 (by simp [memB])]
theorem gone_mem {m : List Int} {k : Nat} {x : Int} : x ∈ goneTo m k ↔ ∃ i : Nat,x = i ∧ i < k ∧ markN m i = 0 := by
 simp only [goneTo,List.mem_map,List.mem_filter,List.mem_range,decide_eq_true_eq]
 constructor
 ·rintro ⟨i,⟨h1,h2⟩,rfl⟩; exact ⟨i,rfl,h1,h2⟩
 ·rintro ⟨i,rfl,h1,h2⟩; exact ⟨i,⟨h1,h2⟩,rfl⟩
theorem left_gone (m : List Int) (n : Nat) : leftTo (goneTo m n) n = keepTo m n := by
 unfold leftTo keepTo
 congr 1
 apply List.filter_congr
 intro i hi
 have hi : i < n := by simpa using hi
 congr 1
 rw [Bool.eq_iff_iff,memB_iff,gone_mem,decide_eq_true_eq]
 constructor
 ·rintro ⟨j,h1,h2,h3⟩
  have : i = j := by omega
  rw [this]; exact h3
 ·intro h; exact ⟨i,rfl,hi,h⟩
structure Goes (w : MWorld) (gone : List Int) (w' : MWorld) : Prop where
 shut : Shut w (leftTo gone w.objs.length)
 tasked : Tasked w (leftTo gone w.objs.length)
 rng : InR w gone
 free : ∀ x ∈ gone,memB (orderL w) x = false
 once : gone.Nodup
 left : compactW w (leftTo gone w.objs.length) = w'
theorem goes_slice {p : BProg} {s : RState} {k : Nat} (h : stateOk p s = true) : Goes s.world (sliceG s k) (sliceS s k).world := by
 obtain ⟨hgv,hm,_,_,_,_⟩ := state_iff.1 h
 have hin := given_inRange hgv
 obtain ⟨ht1,ht2⟩ := given_tasked hgv
 unfold sliceG sliceS
 split
 ·refine ⟨?_,?_,?_,?_,List.nodup_nil,?_⟩
  ·rw [left_nil]; exact allL_shut hin
  ·rw [left_nil]; exact allL_tasked _
  ·intro x hx; cases hx
  ·intro x hx; cases hx
  ·rw [left_nil]; exact compact_all hin ht1
 ·rename_i hg
  obtain ⟨hs,ht⟩ := next_keep h hg
  refine ⟨by rw [left_gone]; exact hs,by rw [left_gone]; exact ht,?_,?_,?_,by rw [left_gone]; rfl⟩
  ·intro x hx
   obtain ⟨i,rfl,hi,_⟩ := gone_mem.1 hx
   simp only [inR,decide_eq_true_eq]; omega
  ·intro x hx
   obtain ⟨i,rfl,hi,h0⟩ := gone_mem.1 hx
   rw [← Bool.not_eq_true,memB_iff]
   intro ho
   obtain ⟨j,h1,h2,h3⟩ := keep_mem.1 ((order_plc hin hs (ht2 _ ht)).2 _ ho)
   have : i = j := by omega
   exact h3 (this ▸ h0)
  ·unfold goneTo
   rw [List.Nodup,List.pairwise_map]
   exact ((List.pairwise_lt_range).filter _).imp fun {a b} (h : a < b) e => by omega
theorem without_of {p : BProg} {w w' : MWorld} {gone : List Int} (hg : given p w = true) (hw : w.few) (hsm : smallWorld w = true) (hgl : Few gone.length) (h : Goes w gone w') : PC L F.W18_without [.agg [.fz (w.objs.map MObj.enc),.fz (w.tasks.map (.int .i64)),.fz (w.outs.map MOut.enc),.fz (w.ins.map (.int .i64)),.int .i64 w.used],.fz (gone.map (.int .i64))] (.tup [.agg [.fz (w'.objs.map MObj.enc),.fz (w'.tasks.map (.int .i64)),.fz (w'.outs.map MOut.enc),.fz (w'.ins.map (.int .i64)),.int .i64 w'.used],.bool true]) := by
 have := W18_without_pc w gone hw hsm (given_inRange hg) (given_tasked hg).1 hgl h.rng h.free h.once (alone_of h.shut h.tasked)
 rw [h.left] at this
 exact this
theorem slice_cycle (s : RState) (k : Nat) : (sliceS s k).cycle = if sliceE s k = true then (s.cycle + 1).tmod 4 else s.cycle := by
 unfold sliceS sliceE
 split
 ·rename_i h; rw [decide_eq_true h]; rfl
 ·rename_i h; rw [decide_eq_false h]; rfl
theorem slice_gone (s : RState) (k : Nat) : (sliceE s k = false → sliceG s k = []) ∧ (sliceG s k).length ≤ s.world.objs.length := by
 unfold sliceG sliceE
 split
 ·exact ⟨fun _ => rfl,Nat.zero_le _⟩
 ·rename_i h
  refine ⟨fun h' => ?_,gone_len _ _⟩
  rw [decide_eq_false h] at h'; cases h'
theorem given_facts {p : BProg} {s : RState} {most : Int} (h : (smallProg p && smallState s && stateOk p s && inR most 1 200) = true) :
  smallProg p = true ∧ smallState s = true ∧ stateOk p s = true ∧ p.cons.length ≤ 1000 ∧ smallWorld s.world = true ∧ ∃ k : Nat,most = k ∧ 1 ≤ k ∧ k ≤ 200 ∧ inR k 1 200 = true := by
 simp only [Bool.and_eq_true] at h
 obtain ⟨⟨⟨h1,h2⟩,h3⟩,h4⟩ := h
 have h5 := h4
 simp only [inR,decide_eq_true_eq] at h5
 refine ⟨h1,h2,h3,?_,?_,most.toNat,by omega,by omega,by omega,?_⟩
 ·simp only [smallProg,Bool.and_eq_true,decide_eq_true_eq] at h1; omega
 ·simp only [smallState,Bool.and_eq_true] at h2; exact h2.1.1
 ·rw [Int.toNat_of_nonneg (by omega)]; exact h4
theorem slice_pc {p : BProg} {s : RState} {k : Nat} (hp : p.few) (hs : s.few) (hsp : smallProg p = true) (hss : smallState s = true) (hst : stateOk p s = true) (hk : inR k 1 200 = true) :
  PC L F.reap_Slice [.agg [.fz (p.nodes.map BNode.enc),.fz (p.funs.map (.int .i64)),.int .i64 p.main,.fz (p.cons.map BCon.enc)],.agg [.fz (s.world.objs.map MObj.enc),.fz (s.world.tasks.map (.int .i64)),.fz (s.world.outs.map MOut.enc),.fz (s.world.ins.map (.int .i64)),.int .i64 s.world.used,.fz (s.ages.map (.int .i64)),.fz (s.marks.map (.int .i64)),.int .i64 s.cycle],.int .i64 k] (.tup [.agg [.fz ((sliceS s k).world.objs.map MObj.enc),.fz ((sliceS s k).world.tasks.map (.int .i64)),.fz ((sliceS s k).world.outs.map MOut.enc),.fz ((sliceS s k).world.ins.map (.int .i64)),.int .i64 (sliceS s k).world.used,.fz ((sliceS s k).ages.map (.int .i64)),.fz ((sliceS s k).marks.map (.int .i64)),.int .i64 (sliceS s k).cycle],.fz ((sliceG s k).map (.int .i64)),.bool (sliceE s k),.int .i64 0]) := by
 have := reap_Slice_pc p s k hp hs hsp hss
 rw [if_pos ⟨hst,hk⟩,Int.toNat_natCast] at this
 exact this
theorem fair_of {p : BProg} {s : RState} (hp : p.few) (hs : s.few) (hc : p.cons.length ≤ 1000) (hss : smallState s = true) (hst : stateOk p s = true) : PC L F.W18_fair [.agg [.fz (p.nodes.map BNode.enc),.fz (p.funs.map (.int .i64)),.int .i64 p.main,.fz (p.cons.map BCon.enc)],.agg [.fz (s.world.objs.map MObj.enc),.fz (s.world.tasks.map (.int .i64)),.fz (s.world.outs.map MOut.enc),.fz (s.world.ins.map (.int .i64)),.int .i64 s.world.used,.fz (s.ages.map (.int .i64)),.fz (s.marks.map (.int .i64)),.int .i64 s.cycle]] (.bool true) := by
 have := W18_fair_pc p s hp hs hc
 rw [hss,hst] at this
 exact this
theorem slice_few' {p : BProg} {s : RState} {k : Nat} (hs : s.few) (hss : smallState s = true) (hst : stateOk p s = true) : (sliceS s k).few := by
 obtain ⟨hgv,hm,_,_,_,_⟩ := state_iff.1 hst
 simp only [smallState,Bool.and_eq_true] at hss
 exact slice_few hs hss.1.1 (given_inRange hgv) hm
theorem same_self {w : MWorld} (hw : w.few) : PC L F.R06_Same [.agg [.fz (w.objs.map MObj.enc),.fz (w.tasks.map (.int .i64)),.fz (w.outs.map MOut.enc),.fz (w.ins.map (.int .i64)),.int .i64 w.used],.agg [.fz (w.objs.map MObj.enc),.fz (w.tasks.map (.int .i64)),.fz (w.outs.map MOut.enc),.fz (w.ins.map (.int .i64)),.int .i64 w.used]] (.bool true) := by
 have := R06_Same_pc w w hw
 simp only [decide_true] at this
 exact this
theorem W18_ReapGoes_pc (hk : PC L F.W18_known [] (.bool true)) (p : BProg) (s : RState) (most : Int) (hp : p.few) (hs : s.few) : PC L F.W18_ReapGoes [.agg [.fz (p.nodes.map BNode.enc),.fz (p.funs.map (.int .i64)),.int .i64 p.main,.fz (p.cons.map BCon.enc)],.agg [.fz (s.world.objs.map MObj.enc),.fz (s.world.tasks.map (.int .i64)),.fz (s.world.outs.map MOut.enc),.fz (s.world.ins.map (.int .i64)),.int .i64 s.world.used,.fz (s.ages.map (.int .i64)),.fz (s.marks.map (.int .i64)),.int .i64 s.cycle],.int .i64 most] (.bool true) := by
 have hG := W18_given_pc p s most hp hs
 refine pc_of LF.W18_ReapGoes rfl rfl ?_
 by_cases hg : (smallProg p && smallState s && stateOk p s && inR most 1 200) = true
 ·rw [hg] at hG
  obtain ⟨hsp,hss,hst,hc,hsw,k,rfl,hk1,hk2,hk3⟩ := given_facts hg
  obtain ⟨hgv,hm,_,hcy,_,_⟩ := state_iff.1 hst
  have hS := slice_pc hp hs hsp hss hst hk3
  have hfew := slice_few' (k := k) hs hss hst
  have hF := fair_of hp hfew hc (slice_small (most := k) hst hss) (slice_state (most := k) hst)
  have hgo := goes_slice (k := k) hst
  have hW := without_of hgv hs.1 hsw (sliceG_few hs) hgo
  have hsame := same_self hfew.1
  obtain ⟨hg1,hg2⟩ := slice_gone s k
  have hcc := slice_cycle s k
  have hlen : decide (s.world.objs.length < (sliceG s k).length) = false := decide_eq_false (by omega)
  cases hE : sliceE s k with
  | false =>
   rw [hE] at hS hcc
   rw [if_neg (by decide)] at hcc
   have hcd : decide ((sliceS s k).cycle = s.cycle) = true := decide_eq_true hcc
   have h0 : decide ((0 : Int) < ((sliceG s k).length : Int)) = false := by rw [hg1 hE]; rfl
   simp only [go_sem,qC,qG,qW,C.W18_ReapGoes,hG.ret,hS.ret,hF.ret,hW.ret,hsame.ret,hk.ret,hlen,h0,hcd]
  | true =>
   rw [hE] at hS hcc
   rw [if_pos rfl] at hcc
   have hwc : IntKind.i64.wrap (s.cycle + 1) = s.cycle + 1 := wrap_in (by simp only [inR,decide_eq_true_eq] at hcy; omega)
   have hcd : decide ((sliceS s k).cycle = (s.cycle + 1).tmod 4) = true := decide_eq_true hcc
   simp only [go_sem,qC,qG,qW,C.W18_ReapGoes,hG.ret,hS.ret,hF.ret,hW.ret,hsame.ret,hk.ret,hlen,hwc,hcd]
 ·rw [Bool.not_eq_true] at hg
  rw [hg] at hG
  simp only [go_sem,qC,qG,qW,C.W18_ReapGoes,hG.ret,hk.ret]
end Go.Proofs.YthpmfghgoabnhaaGreat
namespace Go.Proofs.YthpmfghgoabnhaaGreat
open Go.Abs Go.Proofs
set_option maxRecDepth 100000
theorem fits_MVal {n : Nat} {x : List Val} (h : Fits Tryz.prog (n + 2) 75 x) : ∃ a : MVal,pack Tryz.prog 75 x = MVal.enc a ∧ True := by
 have h1 := fits_struct Tryz.underlying75 h
 simp only [FitsFs] at h1
 obtain ⟨a,b,rfl,_,ha,c,d,rfl,_,hc,rfl⟩ := h1
 obtain ⟨i,rfl⟩ := fits_int (k := .i64) (by first | exact Tryz.underlying74 | kernel_rfl) ha
 obtain ⟨j,rfl⟩ := fits_int Tryz.underlying3 hc
 exact ⟨⟨i,j⟩,by simp [pack,isAggT,Tryz.underlying75,MVal.enc],trivial⟩
theorem fits_ints {n : Nat} {x : List Val} (h : Fits Tryz.prog (n + 2) 23 x) : ∃ l : List Int,x = [.fz (l.map (.int .i64))] ∧ Few l.length := by
 obtain ⟨l,h1,h2,_⟩ := fits_slice (Val.int .i64) (fun _ => True) Tryz.underlying23 (fun y hy => by
  obtain ⟨i,rfl⟩ := fits_int Tryz.underlying3 hy
  exact ⟨i,by simp [pack,isAggT,Tryz.underlying3],trivial⟩) h
 exact ⟨l,h1,h2⟩
theorem fits_vals {n : Nat} {x : List Val} (h : Fits Tryz.prog (n + 3) 102 x) : ∃ l : List MVal,x = [.fz (l.map MVal.enc)] ∧ Few l.length := by
 obtain ⟨l,h1,h2,_⟩ := fits_slice MVal.enc (fun _ => True) Tryz.underlying102 (fun y hy => fits_MVal hy) h
 exact ⟨l,h1,h2⟩
theorem fits_MFrame {n : Nat} {x : List Val} (h : Fits Tryz.prog (n + 4) 114 x) : ∃ a : MFrame,pack Tryz.prog 114 x = MFrame.enc a ∧ a.few := by
 have h1 := fits_struct Tryz.underlying114 h
 simp only [FitsFs] at h1
 obtain ⟨a,b,rfl,_,ha,c,d,rfl,_,hc,e,f,rfl,_,he,rfl⟩ := h1
 obtain ⟨i,rfl⟩ := fits_int Tryz.underlying3 ha
 obtain ⟨l,rfl,hl⟩ := fits_vals hc
 obtain ⟨m,rfl,hm⟩ := fits_vals he
 exact ⟨⟨i,l,m⟩,by simp [pack,isAggT,Tryz.underlying114,MFrame.enc],hl,hm⟩
theorem fits_frames {n : Nat} {x : List Val} (h : Fits Tryz.prog (n + 5) 103 x) : ∃ l : List MFrame,x = [.fz (l.map MFrame.enc)] ∧ Few l.length ∧ ∀ f ∈ l,f.few :=
 fits_slice MFrame.enc MFrame.few Tryz.underlying103 (fun y hy => fits_MFrame hy) h
theorem fits_MObj {n : Nat} {x : List Val} (h : Fits Tryz.prog (n + 6) 105 x) : ∃ a : MObj,pack Tryz.prog 105 x = MObj.enc a ∧ a.few := by
 have h1 := fits_struct Tryz.underlying105 h
 simp only [FitsFs] at h1
 obtain ⟨a,b,rfl,_,ha,c,d,rfl,_,hc,e,f,rfl,_,he,g,k,rfl,_,hg,rfl⟩ := h1
 obtain ⟨i,rfl⟩ := fits_int (k := .i64) (by first | exact Tryz.underlying101 | kernel_rfl) ha
 obtain ⟨j,rfl⟩ := fits_int Tryz.underlying3 hc
 obtain ⟨l,rfl,hl⟩ := fits_vals he
 obtain ⟨m,rfl,hm,hm2⟩ := fits_frames hg
 exact ⟨⟨i,j,l,m⟩,by simp [pack,isAggT,Tryz.underlying105,MObj.enc],hl,hm,hm2⟩
theorem fits_MOut {n : Nat} {x : List Val} (h : Fits Tryz.prog (n + 2) 125 x) : ∃ a : MOut,pack Tryz.prog 125 x = MOut.enc a ∧ True := by
 have h1 := fits_struct Tryz.underlying125 h
 simp only [FitsFs] at h1
 obtain ⟨a,b,rfl,_,ha,c,d,rfl,_,hc,rfl⟩ := h1
 obtain ⟨i,rfl⟩ := fits_int Tryz.underlying3 ha
 obtain ⟨j,rfl⟩ := fits_int Tryz.underlying3 hc
 exact ⟨⟨i,j⟩,by simp [pack,isAggT,Tryz.underlying125,MOut.enc],trivial⟩
theorem fits_MWorld {n : Nat} {x : List Val} (h : Fits Tryz.prog (n + 8) 30 x) : ∃ w : MWorld,x = [.fz (w.objs.map MObj.enc),.fz (w.tasks.map (.int .i64)),.fz (w.outs.map MOut.enc),.fz (w.ins.map (.int .i64)),.int .i64 w.used] ∧ w.few := by
 have h1 := fits_struct Tryz.underlying30 h
 simp only [FitsFs] at h1
 obtain ⟨a,b,rfl,_,ha,c,d,rfl,_,hc,e,f,rfl,_,he,g,k,rfl,_,hg,r,q,rfl,_,hr,rfl⟩ := h1
 obtain ⟨l1,rfl,f1,f1'⟩ := fits_slice MObj.enc MObj.few Tryz.underlying27 (fun y hy => fits_MObj hy) ha
 obtain ⟨l2,rfl,f2⟩ := fits_ints hc
 obtain ⟨l3,rfl,f3,_⟩ := fits_slice MOut.enc (fun _ => True) Tryz.underlying28 (fun y hy => fits_MOut hy) he
 obtain ⟨l4,rfl,f4⟩ := fits_ints hg
 obtain ⟨i,rfl⟩ := fits_int Tryz.underlying3 hr
 exact ⟨⟨l1,l2,l3,l4,i⟩,rfl,⟨f1,f2,f3,f4,f1'⟩⟩
theorem fits_RState {n : Nat} {x : List Val} (h : Fits Tryz.prog (n + 9) 48 x) : ∃ s : RState,x = [.fz (s.world.objs.map MObj.enc),.fz (s.world.tasks.map (.int .i64)),.fz (s.world.outs.map MOut.enc),.fz (s.world.ins.map (.int .i64)),.int .i64 s.world.used,.fz (s.ages.map (.int .i64)),.fz (s.marks.map (.int .i64)),.int .i64 s.cycle] ∧ s.few := by
 have h1 := fits_struct Tryz.underlying48 h
 simp only [FitsFs] at h1
 obtain ⟨a,b,rfl,_,ha,c,d,rfl,_,hc,e,f,rfl,_,he,g,k,rfl,_,hg,rfl⟩ := h1
 obtain ⟨w,rfl,hw⟩ := fits_MWorld ha
 obtain ⟨l2,rfl,f2⟩ := fits_ints hc
 obtain ⟨l3,rfl,f3⟩ := fits_ints he
 obtain ⟨i,rfl⟩ := fits_int Tryz.underlying3 hg
 exact ⟨⟨w,l2,l3,i⟩,rfl,hw,f2,f3⟩
theorem fits_Pat : ∀ (n : Nat) {x : List Val},Fits Tryz.prog n 134 x → ∃ q : Pat,pack Tryz.prog 134 x = Pat.enc q ∧ q.few
 | 0,x,h => by simp [Fits] at h
 | 1,x,h => by
  have h1 := fits_struct Tryz.underlying134 h
  simp only [FitsFs] at h1
  obtain ⟨a,b,rfl,_,ha,_⟩ := h1
  simp [Fits] at ha
 | n + 2,x,h => by
  have h1 := fits_struct Tryz.underlying134 h
  simp only [FitsFs] at h1
  obtain ⟨a,b,rfl,_,ha,c,d,rfl,_,hc,e,f,rfl,_,he,g,k,rfl,_,hg,rfl⟩ := h1
  obtain ⟨i,rfl⟩ := fits_int (k := .i64) (by first | exact Tryz.underlying132 | kernel_rfl) ha
  obtain ⟨j,rfl⟩ := fits_int Tryz.underlying3 hc
  obtain ⟨t,rfl,ht⟩ := fits_str (by first | exact Tryz.underlying9 | kernel_rfl) he
  obtain ⟨l,rfl,hl,hq⟩ := fits_slice Pat.enc Pat.few Tryz.underlying128 (fun y hy => fits_Pat n hy) hg
  exact ⟨.mk i j t l,by simp [pack,isAggT,Tryz.underlying134,Pat.enc,Pat.encL_map],.mk i j t l hl ht hq⟩
theorem fits_BNode {n : Nat} {x : List Val} (h : Fits Tryz.prog (n + 4) 130 x) : ∃ a : BNode,pack Tryz.prog 130 x = BNode.enc a ∧ a.few := by
 have h1 := fits_struct Tryz.underlying130 h
 simp only [FitsFs] at h1
 obtain ⟨a,b,rfl,_,ha,c,d,rfl,_,hc,e,f,rfl,_,he,g,k,rfl,_,hg,rfl⟩ := h1
 obtain ⟨i,rfl⟩ := fits_int (k := .i64) (by first | exact Tryz.underlying72 | kernel_rfl) ha
 obtain ⟨j,rfl⟩ := fits_int Tryz.underlying3 hc
 obtain ⟨l,rfl,hl⟩ := fits_ints he
 obtain ⟨m,rfl,hm,hm2⟩ := fits_slice Pat.enc Pat.few Tryz.underlying128 (fun y hy => fits_Pat _ hy) hg
 exact ⟨⟨i,j,l,m⟩,by simp [pack,isAggT,Tryz.underlying130,BNode.enc,ints],⟨hl,hm,hm2⟩⟩
theorem fits_BCon {n : Nat} {x : List Val} (h : Fits Tryz.prog (n + 2) 127 x) : ∃ a : BCon,pack Tryz.prog 127 x = BCon.enc a ∧ Few a.name.size := by
 have h1 := fits_struct Tryz.underlying127 h
 simp only [FitsFs] at h1
 obtain ⟨a,b,rfl,_,ha,c,d,rfl,_,hc,rfl⟩ := h1
 obtain ⟨t,rfl,ht⟩ := fits_str (by first | exact Tryz.underlying9 | kernel_rfl) ha
 obtain ⟨j,rfl⟩ := fits_int Tryz.underlying3 hc
 exact ⟨⟨t,j⟩,by simp [pack,isAggT,Tryz.underlying127,BCon.enc],ht⟩
theorem fits_BProg {n : Nat} {x : List Val} (h : Fits Tryz.prog (n + 6) 26 x) : ∃ p : BProg,x = [.fz (p.nodes.map BNode.enc),.fz (p.funs.map (.int .i64)),.int .i64 p.main,.fz (p.cons.map BCon.enc)] ∧ p.few := by
 have h1 := fits_struct Tryz.underlying26 h
 simp only [FitsFs] at h1
 obtain ⟨a,b,rfl,_,ha,c,d,rfl,_,hc,e,f,rfl,_,he,g,k,rfl,_,hg,rfl⟩ := h1
 obtain ⟨l1,rfl,f1,f1'⟩ := fits_slice BNode.enc BNode.few Tryz.underlying22 (fun y hy => fits_BNode hy) ha
 obtain ⟨l2,rfl,f2⟩ := fits_ints hc
 obtain ⟨i,rfl⟩ := fits_int Tryz.underlying3 he
 obtain ⟨l3,rfl,f3,f3'⟩ := fits_slice BCon.enc (fun c => Few c.name.size) Tryz.underlying24 (fun y hy => fits_BCon hy) hg
 exact ⟨⟨l1,l2,i,l3⟩,rfl,⟨f1,f2,f3,f1',f3'⟩⟩
end Go.Proofs.YthpmfghgoabnhaaGreat
namespace Go.Proofs.YthpmfghgoabnhaaGreat
open Go.Abs Go.Proofs
open Go.ChangeShapes Go.WideShapes Go.ChangeAt Go.RowKit
theorem own : ownKnob Tryz.prog.godebug = none := by kernel_rfl
theorem laidOut : laidOutB Tryz.prog = true := by kernel_rfl
def plainT (t : TypeId) : Bool := [3,9,22,23,24,26,27,28,30,48,72,73,75,101,102,103,105,114,125,127,128,130,132,134].contains t
theorem slicesFine : closedOk Tryz.prog plainT = true := by kernel_rfl
theorem mixed : Tryz.prog.follows .mixedOrders = true := by kernel_rfl
set_option maxRecDepth 100000
theorem open_rec {H : Type} {enc : TypeId × Value → H} {W : World} {sp : Nat → Bool} {t : TypeId} {v : Value} {d : DataW H} {ps : List MemPlace} (ht : t < Tryz.prog.types.size) (hs : plainT t = true) (hv : ∃ cs,v = .agg cs) (h : DataW.Trod enc Tryz.prog W 0 sp true t v d ps) :
  ∃ n vs,Fits Tryz.prog (n + 9) t vs ∧ VR (There W) Gh.none W (.agg vs) v := by
 obtain ⟨fuel,h⟩ := h
 obtain ⟨x,rfl⟩ := hv
 obtain ⟨vs,h1,h2⟩ := open_data laidOut plainT slicesFine fuel t x.toList _ ht hs h
 exact ⟨fuel,vs,fits_more 9 h1,agg_of_reads h2⟩
end Go.Proofs.YthpmfghgoabnhaaGreat
namespace Go.Proofs.YthpmfghgoabnhaaGreat
open Go.Abs Go.Proofs
open Go.ChangeShapes Go.WideShapes Go.ChangeAt Go.RowKit
set_option maxRecDepth 100000
theorem goes_lifted (hk : PC L F.W18_known [] (.bool true)) (os : Os) (started : os.Started) (H : Type) (enc : TypeId × Value → H) :
  ReturnsInHanded {} Tryz.checked os F.W18_ReapGoes .any (Rows.reapGoesSpec.pre6 enc Tryz.prog Tryz.f11 Rows.reapGoesRow.domain false) (Rows.reapGoesSpec.post enc Tryz.prog Tryz.f11 false true false false) := by
 refine returnsInHanded_of_change (C := Tryz.checked) own started (by kernel_rfl) Tryz.func11
  (ChangeSpec.witness6 (enc := enc) (C := Tryz.checked) false ⟨#[],#[.agg #[.slice none 0 0,.slice none 0 0,.int .i64 0,.slice none 0 0],.agg #[.slice none 0 0,.slice none 0 0,.slice none 0 0,.slice none 0 0,.int .i64 0,.slice none 0 0,.slice none 0 0,.int .i64 0],.int .i64 0],[]⟩ 8 (by kernel_rfl) (by kernel_rfl) (by kernel_rfl) (by kernel_rfl)) ?_
 intro W base args ds gs before hval0 hW hcnd _
 have hval : ∀ (j : Nat) t v,Tryz.f11.params[j]? = some t → args[j]? = some v → Value.okWide Tryz.prog W .any base t v := hval0
 have hW' := hW
 obtain ⟨p,q,hA0,hV,rfl,hfz,hnd⟩ := hW
 have hA : DataW.TrodAll enc Tryz.prog W 0 (fun _ => true) true Tryz.f11.params.toList args.toList ds p := hA0
 rw [Tryz.params11] at hA hval
 obtain ⟨v0,v1,v2,d0,d1,d2,p0,p1,p2,rfl,rfl,rfl,h0,h1,h2⟩ := trodAll_three hA
 obtain ⟨rfl,rfl⟩ := trodVars_none hV
 have a0 := hval 0 26 v0 rfl rfl
 have a1 := hval 1 48 v1 rfl rfl
 simp only [Value.okWide,Tryz.underlying26,Tryz.underlying48] at a0 a1
 obtain ⟨n0,x0,f0,r0⟩ := open_rec (of_decide_eq_true (by kernel_rfl)) (by decide) (a0.imp fun _ h => h.1) h0
 obtain ⟨n1,x1,f1,r1⟩ := open_rec (of_decide_eq_true (by kernel_rfl)) (by decide) (a1.imp fun _ h => h.1) h1
 obtain ⟨c,rfl,rfl,rfl,wc⟩ := open_int Tryz.underlying3 (hval 2 3 v2 rfl rfl) h2
 obtain ⟨pr,rfl,fpr⟩ := fits_BProg (n := n0 + 3) f0
 obtain ⟨s,rfl,fs⟩ := fits_RState (n := n1) f1
 clear hA0 hval0
 obtain ⟨n,hn⟩ := W18_ReapGoes_pc hk pr s c fpr fs
 refine (calls_true mixed L_ok (hn n (Nat.le_refl _)) (S := There W) (w := W) (vals := #[v0,v1,.int .i64 c]) (fun _ _ h => h) rfl (fun i hi => ?_)).mono fun e W' ⟨he,hb⟩ => ?_
 ·match i,hi with
  | 0,_ => exact r0
  | 1,_ => exact r1
  | 2,_ => exact .int _ _
 ·subst he
  exact ⟨_,rfl,law_post (bt := 4) hW' rfl (by kernel_rfl) Tryz.underlying4 rfl laidOut (fun t ht => by
   rw [Tryz.params11] at ht
   simp only [List.mem_cons,List.not_mem_nil,or_false] at ht
   rcases ht with rfl | rfl | rfl <;> exact ⟨by kernel_rfl,of_decide_eq_true (by kernel_rfl)⟩) hb⟩
end Go.Proofs.YthpmfghgoabnhaaGreat
