/- Contracts of functions of the program and of the document: part 3. -/
import Derived.Test.YthpmfghgoabnhaaGreatM2
set_option linter.all false
open Bool renaming and_eq_true → bVc, and_false → bWn, and_true → bW7, false_and → bV5, false_eq_true → bVd, not_eq_true → bWi, not_eq_true' → bWh, not_true → bVq, or_true → bVi, true_and → bVy, true_or → bVj
open Int renaming eq_ofNat_of_zero_le → bWq, toNat_natCast → bV3, toNat_of_nonneg → bXr
open List renaming all_cons → bVf, all_eq_true → bVo, any_eq_true → bXk, append_nil → bWw, drop_eq_getElem_cons → bWc, ext_getElem → bXq, filter_append → bXv, flatMap_cons → bX0, getD_eq_getElem?_getD → bVm, getElem?_cons_succ → bVh, getElem?_cons_zero → bVg, getElem?_eq_getElem → bWo, getElem?_map → bXn, getElem?_set → bXm, getElem_map → bXs, getElem_mem → bVp, length_cons → bVu, length_map → bVk, map_append → bVx, map_congr_left → bWy, map_cons → bV9, map_nil → bVv, map_set → bW0, map_take → bXh, mem_append → bV6, mem_append_left → bW6, mem_append_right → bW1, mem_cons → bWe, mem_filter → bW5, mem_flatMap → bWt, mem_map → bV4, mem_range → bW4, mem_singleton → bWk, range_succ → bWr, take_length → bWf, take_of_length_le → bVw
open Nat renaming add_mul → bWm, add_zero → bWu, le_refl → bVe, zero_add → bWb, zero_le → bVn
open Option renaming getD_some → bV0, map_some → bV8
open Option.some renaming injEq → bVb
namespace Go.Proofs.YthpmfghgoabnhaaGreat
open Go.Abs Go.Proofs
def jZ (en:En)(v:Val)(size:Nat)(xs:List Val)(t:Nat):Prop:=(v= .cl []/\ xs=[]) \/ ∃g,v= .bl ⟨0,t,g⟩ 0 xs.length/\ en ⟨0,t,g⟩=some (.blk size xs false)
theorem jZ.mine {en:En}{v:Val}{size:Nat}{xs:List Val}{t:Nat}(h:jZ en v size xs t):cE en v size xs [t]:=by
 rcases h with h|⟨g,h1,h2⟩
 ·exact .inl h
 ·exact .inr ⟨t,g,false,h1,h2,by simp⟩
theorem nY {en:En}{t g n size:Nat}{xs:List Val}(h:en ⟨0,t,g⟩=some (.blk size xs false))(hx:n=xs.length):jZ en (.bl ⟨0,t,g⟩ 0 n) size xs t:= .inr ⟨g,by rw[hx],h⟩
theorem bBj (s:aX)(hs:s.few)(hsm:bI s=true){en:En}{cnt:Nat->Nat->Nat}:
  WIn L (.fn 81 [] []) [.agg [.fz (s.world.objs.map aI.enc),.fz (s.world.tasks.map (.int .i64)),.fz (s.world.outs.map aO.enc),.fz (s.world.ins.map (.int .i64)),.int .i64 s.world.used,.fz (s.ages.map (.int .i64)),.fz (s.marks.map (.int .i64)),.int .i64 s.cycle]] en cnt fun v en' cnt'=> ∃g16 vA vM,v= .ptr ⟨0,16,g16⟩ 0/\ en' ⟨0,16,g16⟩=some (.box [.fz (s.world.objs.map aI.enc),.fz (s.world.tasks.map (.int .i64)),.fz (s.world.outs.map aO.enc),.fz (s.world.ins.map (.int .i64)),.int .i64 s.world.used,vA,vM,.int .i64 s.cycle] false)/\
   jZ en' vA 1 (s.ages.map (.int .i64)) 8/\ jZ en' vM 1 (s.marks.map (.int .i64)) 11/\ (∀t g,¬t=1-> ¬t=8-> ¬t=11-> ¬t=16->en' ⟨0,t,g⟩=en ⟨0,t,g⟩):=by
 have hsw:bB s.world=true/\ (s.ages.length:Int)<=130/\ (s.marks.length:Int)<=130:=by
  simp only[bI,bVc,bYb]at hsm;exact⟨hsm.1.1,hsm.1.2,hsm.2⟩
 have c1:=jS (s.ages.map (.int .i64)) (kZ _) (by simp;omega)
 have c2:=jS (s.marks.map (.int .i64)) (kZ _) (by simp;omega)
 obtain⟨g1,hg1⟩: ∃g,g=cnt 0 1:=⟨_,rfl⟩
 obtain⟨g8,hg8⟩: ∃g,g=cnt 0 8:=⟨_,rfl⟩
 obtain⟨g11,hg11⟩: ∃g,g=cnt 0 11:=⟨_,rfl⟩
 obtain⟨g16,hg16⟩: ∃g,g=cnt 0 16:=⟨_,rfl⟩
 refine mX bHc rfl rfl ?_
 simp only[go_sem,qC,qG,qW,aXm,<-hg1]
 refine aN ?_
 rcases iK 1 (s.ages.map (Val.int .i64))with⟨t1,t2⟩|⟨t1,t2⟩<;>rw[t2]at c1<;>
 rcases iK 1 (s.marks.map (Val.int .i64))with⟨o1,o2⟩|⟨o1,o2⟩<;>rw[o2]at c2
 all_goals simp only[go_sem,qC,qG,qW,bVf,bVg,bVh,bVj,bVi,bVd,if_false,bV0,(rB s.world hs.1 hsw.1).ret,c1.ret,c2.ret,<-hg8,<-hg11,<-hg16,bVk,cX,bP,dA,bO]
 all_goals refine⟨g16,_,_,rfl,aPx,?_,?_,?_⟩
 all_goals first
  |exact .inl ⟨rfl,by assumption⟩
  |exact nY (by simp only[go_sem,qW];try rfl) (by simp only[bVk])
  |(intro t g n1 n2 n3 n4;simp only[go_sem,qW,n1,n2,n3,n4])
theorem aB7 {ws:List W}{d:Nat}{D:List Nat}(h: ∀w∈ws,w.key.n=0/\ (w.key.t=d \/w.key.t∈D)/\ ∃e,w= .ent w.key e){t' g':Nat}(ht:t'≠d/\ t'∉D)(o n:Nat):(ws.all fun w=>fX w (.cells ⟨0,t',g'⟩ o n))=true:=by
 rw[bVo];intro w hw;obtain⟨h1,h2,e,h3⟩:=h w hw;rw[h3,aE0]
 refine decide_eq_true ?_
 intro he;rw[he]at h2;rcases h2 with h2|h2
 ·exact ht.1 h2
 ·exact ht.2 h2
theorem aYh {α:Type}{l:List α}:(l.all fun _=>true)=true:=by simp
theorem aOq (s:aX)(w:aC)(hs:s.few)(hw:w.few)(hsm:bB w=true)(hA:s.ages.length=s.marks.length)(hM:s.world.objs.length=s.marks.length)(hle:s.marks.length<=w.objs.length){en:En}{cnt:Nat->Nat->Nat}{gk:Nat}{vA vM:Val}
  (e16:en ⟨0,16,gk⟩=some (.box [.fz (s.world.objs.map aI.enc),.fz (s.world.tasks.map (.int .i64)),.fz (s.world.outs.map aO.enc),.fz (s.world.ins.map (.int .i64)),.int .i64 s.world.used,vA,vM,.int .i64 s.cycle] false)) (mA:jZ en vA 1 (s.ages.map (.int .i64)) 8) (mM:jZ en vM 1 (s.marks.map (.int .i64)) 11):
  WIn L (.fn 82 [] []) [.ptr ⟨0,16,gk⟩ 0,.agg [.fz (w.objs.map aI.enc),.fz (w.tasks.map (.int .i64)),.fz (w.outs.map aO.enc),.fz (w.ins.map (.int .i64)),.int .i64 w.used]] en cnt fun v en' cnt'=>v= .int .i64 (jE s w w.objs.length)/\ ∃vA vM,en' ⟨0,16,gk⟩=some (.box [.fz (w.objs.map aI.enc),.fz (w.tasks.map (.int .i64)),.fz (w.outs.map aO.enc),.fz (w.ins.map (.int .i64)),.int .i64 w.used,vA,vM,.int .i64 s.cycle] false)/\
   cE en' vA 1 ((yL s w).map (.int .i64)) [8,32]/\ cE en' vM 1 ((pS s w).map (.int .i64)) [11,39]/\ (∀t g,¬t=3-> ¬t=7-> ¬t=8-> ¬t=11-> ¬t=16-> ¬t=32-> ¬t=39->en' ⟨0,t,g⟩=en ⟨0,t,g⟩):=by
 obtain⟨b1,b2,b3,b4⟩:=oT hsm;obtain⟨en0,hen0⟩: ∃e,e=en:=⟨_,rfl⟩
 obtain⟨g3,hg3⟩: ∃g,g=cnt 0 3:=⟨_,rfl⟩
 have u0:s.marks=upto (iS s w) (fun i=>fL s i) s.marks.length 0:=by
  rw[aHw];apply bXq
  ·simp
  ·intro i h1 h2;simp[dQ h1]
 have v0:s.ages=upto (aDm s) (fun i=>nX s i) s.marks.length 0:=by
  rw[aHw];apply bXq
  ·simp[hA]
  ·intro i h1 h2;simp[gC h1]
 refine mX bS3 rfl rfl ?_
 simp only[go_sem,qC,qG,qW,bA0,<-hg3]
 refine bF w.objs.length (fun k st=> ∃fr en cnt vA vM,st=⟨fr,en,cnt⟩/\ fr 0= .ptr ⟨0,16,gk⟩ 0/\ fr 3= .ptr ⟨0,3,g3⟩ 0/\ en ⟨0,3,g3⟩=some (.box [.fz (w.objs.map aI.enc),.fz (w.tasks.map (.int .i64)),.fz (w.outs.map aO.enc),.fz (w.ins.map (.int .i64)),.int .i64 w.used] false)/\ fr 5= .int .i64 (jE s w k:Nat)/\ fr 9= .fz (w.objs.map aI.enc)/\ fr 10= .int .i64 w.objs.length/\ fr 11= .int .i64 k/\
  en ⟨0,16,gk⟩=some (.box [.fz (s.world.objs.map aI.enc),.fz (s.world.tasks.map (.int .i64)),.fz (s.world.outs.map aO.enc),.fz (s.world.ins.map (.int .i64)),.int .i64 s.world.used,vA,vM,.int .i64 s.cycle] false)/\ cE en vA 1 ((upto (aDm s) (fun i=>nX s i) s.marks.length k).map (.int .i64)) [8,32]/\ cE en vM 1 ((upto (iS s w) (fun i=>fL s i) s.marks.length k).map (.int .i64)) [11,39]/\
  (k<s.marks.length-> ∃g,vM= .bl ⟨0,11,g⟩ 0 s.marks.length/\ en ⟨0,11,g⟩=some (.blk 1 ((upto (iS s w) (fun i=>fL s i) s.marks.length k).map (.int .i64)) false))/\
  (∀t g,¬t=3-> ¬t=7-> ¬t=8-> ¬t=11-> ¬t=16-> ¬t=32-> ¬t=39->en ⟨0,t,g⟩=en0 ⟨0,t,g⟩)) 0 (bVn _)
  ⟨_,_,_,vA,vM,rfl,by simp only[go_sem,qW],by simp only[go_sem,qW],by simp only[go_sem,qW],by simp only[go_sem,qW];rfl,by simp only[go_sem,qW],by simp only[go_sem,qW],by simp only[go_sem,qW],by simp only[go_sem,e16],?_,?_,?_,?_⟩ ?_
 ·rw[<-v0];exact(mA.mine.keep fun t g ht=>by simp at ht;subst ht;simp only[go_sem,qW]).sub (by simp)
 ·rw[<-u0];exact(mM.mine.keep fun t g ht=>by simp at ht;subst ht;simp only[go_sem,qW]).sub (by simp)
 ·intro h0;rw[<-u0];rcases mM with⟨_,h⟩|⟨g,h1,h2⟩
  ·have:s.marks.length=0:=by rw[<-bVk (f:=Val.int .i64),h];rfl
   omega
  ·exact⟨g,by simpa using h1,by simp only[go_sem,h2]⟩
 ·intro t g n3 n7 n8 n11 n16 n32 n39;rw[hen0];simp only[go_sem,qW,n3]
 clear mA mM e16
 rintro k st hk ⟨fr,en,cnt,vA,vM,rfl,h0,h3,e3,h5,h9,h10,h11,e16,mA,mM,hO,hfr⟩
 simp only[go_sem,qC,qG,qW,h0,h3,e3,h5,h9,h10,h11,e16]
 refine aA (fun hq=>?_) (fun hq=>?_)
 ·have h':k<w.objs.length:=of_decide_eq_true hq;obtain⟨g7,hg7⟩: ∃g,g=cnt 0 7:=⟨_,rfl⟩
  have hlM:=mM.len;rw[bVk,aA1]at hlM;have hcw:Few (jE s w k+1):=by have:=aHx s w k;unfold Few;omega
  simp only[go_sem,qC,qG,qW,h',h0,h3,e3,h5,h9,h10,h11,e16,hlM,<-hg7]
  refine aA (fun hq2=>?_) (fun hq2=>?_)
  ·have hn:s.marks.length<=k:=by simp at hq2;omega
   have n1:aJr s w k=true:=by simp[aJr];omega
   have hag:aDm s k=0:=by simp[aDm];omega
   have hmk:iS s w k=1:=by simp[iS];omega
   have hst:=rY s w k;rw[n1,if_pos rfl]at hst;simp only[go_sem,qC,qG,qW,h',h0,h3,e3,h5,h9,h10,h11,e16]
   refine aN ?_
   simp only[go_sem,qC,qG,qW,h',h0,h3,e3,h5,h9,h10,h11,e16,bVf,bVg,bVh,bVj,bVi,bVd,if_false]
   refine nD (D:=[8,32]) (xs:=(upto (aDm s) (fun i=>nX s i) s.marks.length k).map (.int .i64)) (ys:=[.int .i64 0]) (rs:=[]) ?_ ?_ ?_ rfl ?_ ?_
   ·simp only[go_sem,qW];exact mA.keep fun t g ht=>by simp at ht;rcases ht with rfl|rfl<;>simp only[go_sem,qW]
   ·simp only[go_sem,qW]
   ·rfl
   ·simp[aA1];omega
   ·intro vA' en1 cnt1 r1 own1 hen1 hcnt1 hw1 hr1 hm1;have k16:en1 ⟨0,16,gk⟩=some (.box [.fz (s.world.objs.map aI.enc),.fz (s.world.tasks.map (.int .i64)),.fz (s.world.outs.map aO.enc),.fz (s.world.ins.map (.int .i64)),.int .i64 s.world.used,vA,vM,.int .i64 s.cycle] false):=by rw[hen1 0 16 gk (.inr ⟨by decide,by decide⟩)];simp only[go_sem,qW,e16]
    have k3:en1 ⟨0,3,g3⟩=some (.box [.fz (w.objs.map aI.enc),.fz (w.tasks.map (.int .i64)),.fz (w.outs.map aO.enc),.fz (w.ins.map (.int .i64)),.int .i64 w.used] false):=by rw[hen1 0 3 g3 (.inr ⟨by decide,by decide⟩)];simp only[go_sem,qW,e3]
    obtain⟨s1,s2⟩:=own1.shape;simp only[go_sem,qC,qG,qW,h',h0,h3,k3,h5,h9,h10,h11,k16,s1,s2,bVf,bVg,bVh,bVj,bVi,bVd,if_false]
    refine nD (D:=[11,39]) (xs:=(upto (iS s w) (fun i=>fL s i) s.marks.length k).map (.int .i64)) (ys:=[.int .i64 1]) (rs:=[]) ?_ ?_ ?_ rfl ?_ ?_
    ·simp only[go_sem,qW];exact mM.keep fun t g ht=>by rw[hen1 0 t g (.inr (by simp at ht;rcases ht with rfl|rfl<;>decide))];simp at ht;rcases ht with rfl|rfl<;>simp only[go_sem,qW]
    ·simp only[go_sem,qW]
    ·rfl
    ·simp[aA1];omega
    ·intro vM' en2 cnt2 r2 own2 hen2 hcnt2 hw2 hr2 hm2;have j16:en2 ⟨0,16,gk⟩=some (.box [.fz (s.world.objs.map aI.enc),.fz (s.world.tasks.map (.int .i64)),.fz (s.world.outs.map aO.enc),.fz (s.world.ins.map (.int .i64)),.int .i64 s.world.used,vA,vM,.int .i64 s.cycle] false):=by rw[hen2 0 16 gk (.inr ⟨by decide,by decide⟩)];simp only[go_sem,qW,k16]
     have j3:en2 ⟨0,3,g3⟩=some (.box [.fz (w.objs.map aI.enc),.fz (w.tasks.map (.int .i64)),.fz (w.outs.map aO.enc),.fz (w.ins.map (.int .i64)),.int .i64 w.used] false):=by rw[hen2 0 3 g3 (.inr ⟨by decide,by decide⟩)];simp only[go_sem,qW,k3]
     obtain⟨s3,s4⟩:=own2.shape;have q1:=fun o n=>aB7 hw1 (t':=16) (g':=gk) ⟨by decide,by decide⟩ o n
     simp only[go_sem,qC,qG,qW,h',h0,h3,j3,h5,h9,h10,h11,j16,s1,s2,s3,s4,q1,hm1,hm2,aYh,bVf,bVg,bVh,bVj,bVi,bVd,if_false]
     refine⟨_,_,_,vA',vM',rfl,?_⟩
     simp only[go_sem,qC,qG,qW,h',h0,h3,j3,h5,h9,h10,h11,j16,s1,s2,s3,s4,aK h' hw.objs,aK (Nat.lt_succ_self _) hcw,hst]
     refine⟨?_,?_,fun h=>absurd h (by omega),?_⟩
     ·rw[aMe hn,hag,bVx]
      refine(own1.keep fun t g ht=>?_).sub (by simp)
      have ht':t=32 \/t=8:=by simp at ht;omega
      rcases ht' with rfl|rfl
      ·simp only[go_sem,qW,hen2 0 32 g (.inr ⟨by decide,by decide⟩)]
      ·simp only[go_sem,qW,hen2 0 8 g (.inr ⟨by decide,by decide⟩)]
     ·rw[aMe hn,hmk,bVx]
      refine(own2.keep fun t g ht=>?_).sub (by simp)
      have ht':t=39 \/t=11:=by simp at ht;omega
      rcases ht' with rfl|rfl<;>simp only[go_sem,qW]
     ·intro t g n3 n7 n8 n11 n16 n32 n39;rw[<-hfr t g n3 n7 n8 n11 n16 n32 n39];simp only[go_sem,qW,n16];rw[hen2 0 t g (.inr ⟨n39,by simp[n11,n39]⟩),hen1 0 t g (.inr ⟨n32,by simp[n8,n32]⟩)]
      simp only[go_sem,qW,n7]
  ·have hn:k<s.marks.length:=by simp at hq2;omega
   obtain⟨g,rfl,eM⟩:=hO hn;have hkw:k<s.world.objs.length:=by omega
   have hget:((upto (iS s w) (fun i=>fL s i) s.marks.length k).map (Val.int .i64))[k]?=some (.int .i64 (fL s k)):=by simp[aYf hn]
   have hc1:(0:Int)<=(k:Int):=by omega
   have hc2:(k:Int)<(s.marks.length:Int):=by omega
   simp only[go_sem,qC,qG,qW,h',hkw,h0,h3,e3,h5,h9,h10,h11,e16,eM,hget,hc1,hc2,true_and,and_true,eq_self,if_true,bWb,bV3];have keepA: ∀(e e':Option Ent),cE ((en.set ⟨0,7,g7⟩ e).set ⟨0,7,g7⟩ e') vA 1 ((upto (aDm s) (fun i=>nX s i) s.marks.length (k+1)).map (.int .i64)) [8,32]:=by
    intro e e';rw[tC hn (by simp[aDm,hn])]
    exact mA.keep fun t g ht=>by simp at ht;rcases ht with rfl|rfl<;>simp only[go_sem,qW]
   have frame: ∀(e e':Option Ent) (t g:Nat),¬t=3-> ¬t=7-> ¬t=8-> ¬t=11-> ¬t=16-> ¬t=32-> ¬t=39->((en.set ⟨0,7,g7⟩ e).set ⟨0,7,g7⟩ e') ⟨0,t,g⟩=en0 ⟨0,t,g⟩:=by
    intro e e' t g n3 n7 n8 n11 n16 n32 n39;rw[<-hfr t g n3 n7 n8 n11 n16 n32 n39];simp only[go_sem,qW,n7]
   have eo:decide (w.objs[k]=s.world.objs[k])=decide (s.world.obj k=w.obj k):=by
    rw[dT hkw,dT h'];exact decide_eq_decide.2 eq_comm
   have skip:rC s w k=false->iS s w k=fL s k/\ jE s w (k+1)=jE s w k:=fun h=>by
    refine⟨by simp[iS,hn,h],?_⟩
    rw[rY,if_neg (by simp[aJr,hn,h]),bWu]
   refine aE (fun g1=>?_) (fun g1=>?_)
   ·simp only[go_sem,qC,qG,qW,g1,h',hkw,h0,h3,e3,h5,h9,h10,h11,e16,(aOp w.objs[k] s.world.objs[k] (hw.obj _ (bVp h'))).ret]
    refine aA (fun g2=>?_) (fun g2=>?_)
    ·have hgr:rC s w k=true:=by
      simp only[rC,g1,<-eo,bVy];exact g2
     have hmk:iS s w k=1:=by simp[iS,hn,hgr]
     have hst:jE s w (k+1)=jE s w k+1:=by rw[rY,if_pos (by simp[aJr,hn,hgr])]
     have hset:((upto (iS s w) (fun i=>fL s i) s.marks.length k).map (Val.int .i64)).set k (.int .i64 1)=(upto (iS s w) (fun i=>fL s i) s.marks.length (k+1)).map (.int .i64):=by
      rw[aYg hn,hmk,bW0]
     simp only[go_sem,qC,qG,qW,h',hkw,h0,h3,e3,h5,h9,h10,h11,e16,eM,hget,hc1,hc2,true_and,and_true,eq_self,if_true,bWb,bV3]
     refine⟨_,_,_,vA,.bl ⟨0,11,g⟩ 0 s.marks.length,rfl,?_⟩
     simp only[go_sem,qC,qG,qW,h',hkw,h0,h3,e3,h5,h9,h10,h11,e16,hset,aK h' hw.objs,aK (Nat.lt_succ_self _) hcw,hst]
     refine⟨(keepA (some (.box [.int .i64 0,.int .i64 0,.cl [],.cl []] false)) (some (.box [.int .i64 w.objs[k].form,.int .i64 w.objs[k].n,.fz (w.objs[k].vals.map aG.enc),.fz (w.objs[k].frames.map aB.enc)] false))).keep fun t g' ht=>?_,(aJn aPx (by simp[aA1];omega)).sub (by simp),fun _=>⟨g,rfl,aPx⟩,fun t g' n3 n7 n8 n11 n16 n32 n39=>?_⟩
     ·simp at ht;rcases ht with rfl|rfl<;>simp only[go_sem,qW]
     ·rw[<-frame (some (.box [.int .i64 0,.int .i64 0,.cl [],.cl []] false)) (some (.box [.int .i64 w.objs[k].form,.int .i64 w.objs[k].n,.fz (w.objs[k].vals.map aG.enc),.fz (w.objs[k].frames.map aB.enc)] false)) t g' n3 n7 n8 n11 n16 n32 n39];exact aIy n11
    ·have hgr:rC s w k=false:=by
      simp only[rC,g1,<-eo,bVy];exact g2
     obtain⟨q1,q2⟩:=skip hgr;simp only[go_sem,qC,qG,qW,h',hkw,h0,h3,e3,h5,h9,h10,h11,e16,aK h' hw.objs,q2]
     refine⟨_,_,_,vA,.bl ⟨0,11,g⟩ 0 s.marks.length,rfl,?_⟩
     simp only[go_sem,qC,qG,qW,h',hkw,h0,h3,e3,h5,h9,h10,h11,e16,aK h' hw.objs,q2]
     refine⟨keepA _ _,?_,fun _=>⟨g,rfl,?_⟩,frame _ _⟩
     ·rw[tC hn q1];exact mM.keep fun t g ht=>by simp at ht;rcases ht with rfl|rfl<;>simp only[go_sem,qW]
     ·rw[tC hn q1];simp only[go_sem,qW,eM]
   ·simp only[go_sem,qC,qG,qW,g1,h',hkw,h0,h3,e3,h5,h9,h10,h11,e16,bVq];have hgr:rC s w k=false:=by simp only[rC,g1,bVq,bV5]
    obtain⟨q1,q2⟩:=skip hgr
    refine⟨_,_,_,vA,.bl ⟨0,11,g⟩ 0 s.marks.length,rfl,?_⟩
    simp only[go_sem,qC,qG,qW,h',hkw,h0,h3,e3,h5,h9,h10,h11,e16,aK h' hw.objs,q2]
    refine⟨keepA _ _,?_,fun _=>⟨g,rfl,?_⟩,frame _ _⟩
    ·rw[tC hn q1];exact mM.keep fun t g ht=>by simp at ht;rcases ht with rfl|rfl<;>simp only[go_sem,qW]
    ·rw[tC hn q1];simp only[go_sem,qW,eM]
 ·have:k=w.objs.length:=by simp at hq;omega
  subst this;rw[aB6 hle]at mA mM;simp only[go_sem,qC,qG,qW,h0,h3,e3,h5,h9,h10,h11,e16]
  refine⟨vA,vM,rfl,?_,?_,?_⟩
  ·exact mA.keep fun t g ht=>by simp at ht;rcases ht with rfl|rfl<;>simp only[go_sem,qW]
  ·exact mM.keep fun t g ht=>by simp at ht;rcases ht with rfl|rfl<;>simp only[go_sem,qW]
  ·intro t g n3 n7 n8 n11 n16 n32 n39;rw[<-hen0,<-hfr t g n3 n7 n8 n11 n16 n32 n39];simp only[go_sem,qW,n16]
end Go.Proofs.YthpmfghgoabnhaaGreat
namespace Go.Proofs.YthpmfghgoabnhaaGreat
open Go.Abs Go.Proofs
theorem aOr {p:aQ}{s:aX}(h:bY p s=true):s.ages.length=s.marks.length/\ s.world.objs.length=s.marks.length:=by
 simp only[bY,jR,bVc,bYb]at h;omega
theorem aMh {a b:aC}(h:fP a b=true):a.objs.length<=b.objs.length:=by
 simp only[fP,bVc,bYb]at h;exact h.1.1.1
theorem aFu (p:aQ)(s:aX)(w:aC)(hp:p.few)(hs:s.few)(hw:w.few)(hsp:aT p=true)(hss:bI s=true)(hsw:bB w=true):
  PC L 36 [.agg [.fz (p.nodes.map aJ.enc),.fz (p.funs.map (.int .i64)),.int .i64 p.main,.fz (p.cons.map bC.enc)],.agg [.fz (s.world.objs.map aI.enc),.fz (s.world.tasks.map (.int .i64)),.fz (s.world.outs.map aO.enc),.fz (s.world.ins.map (.int .i64)),.int .i64 s.world.used,.fz (s.ages.map (.int .i64)),.fz (s.marks.map (.int .i64)),.int .i64 s.cycle],.agg [.fz (w.objs.map aI.enc),.fz (w.tasks.map (.int .i64)),.fz (w.outs.map aO.enc),.fz (w.ins.map (.int .i64)),.int .i64 w.used]] (if bY p s=true/\ gG p w=true then
   (if fP s.world w=true then .tup [.agg [.fz (w.objs.map aI.enc),.fz (w.tasks.map (.int .i64)),.fz (w.outs.map aO.enc),.fz (w.ins.map (.int .i64)),.int .i64 w.used,.fz ((yL s w).map (.int .i64)),.fz ((pS s w).map (.int .i64)),.int .i64 s.cycle],.int .i64 (jE s w w.objs.length:Nat),.int .i64 0]
    else .tup [.agg [.fz [],.fz [],.fz [],.fz [],.int .i64 0,.fz [],.fz [],.int .i64 0],.int .i64 0,.int .i64 7])
   else .tup [.agg [.fz [],.fz [],.fz [],.fz [],.int .i64 0,.fz [],.fz [],.int .i64 0],.int .i64 0,.int .i64 2]):=by
 have hsw1:bB s.world=true:=by
  simp only[bI,bVc]at hss;exact hss.1.1
 have hck:=yK p s hp hs hsp hsw1;have hmc:=yJ p w hp hw hsp
 refine aL bSg rfl rfl ?_
 by_cases h1:bY p s=true
 ·rw[if_pos h1]at hck
  by_cases h2:gG p w=true
  ·simp only[h2,if_true]at hmc;rw[if_pos ⟨h1,h2⟩];obtain⟨l1,l2⟩:=aOr h1
   by_cases h3:fP s.world w=true
   ·rw[if_pos h3];have hf:=uY s.world w hs.1;rw[h3]at hf;have hle:=aMh h3;simp only[go_sem,qC,qG,qW,aN8,hck.ret,hmc.ret,hf.ret]
    refine(bBj s hs hss).mono ?_
    rintro v en1 cnt1 ⟨g16,vA,vM,rfl,e16,mA,mM,hfr⟩
    have q3:=hfr 3 0 (by decide) (by decide) (by decide) (by decide)
    have q4:=hfr 4 0 (by decide) (by decide) (by decide) (by decide)
    have q5:=hfr 5 0 (by decide) (by decide) (by decide) (by decide)
    have q6:=hfr 6 0 (by decide) (by decide) (by decide) (by decide)
    simp only[go_sem,qC,qG,qW,q5,(rB w hw hsw).ret]
    refine(aOq s w hs hw hsw l1 l2 (by omega) e16 mA mM).mono ?_
    rintro v en2 cnt2 ⟨rfl,vA',vM',e16',mA',mM',hfr'⟩
    have r6:=(hfr' 6 0 (by decide) (by decide) (by decide) (by decide) (by decide) (by decide) (by decide)).trans q6
    simp only[go_sem,qC,qG,qW,e16',r6];have e': ∀t g,¬t=6->(en2.set ⟨0,6,0⟩ (some (.box [.fz (w.objs.map aI.enc),.fz (w.tasks.map (.int .i64)),.fz (w.outs.map aO.enc),.fz (w.ins.map (.int .i64)),.int .i64 w.used,vA',vM',.int .i64 s.cycle] false))) ⟨0,t,g⟩=en2 ⟨0,t,g⟩:=fun t g h=>aIy h
    obtain⟨x1,ks1,a1,a2,_⟩:=(mA'.keep (en':=en2.set ⟨0,6,0⟩ (some (.box [.fz (w.objs.map aI.enc),.fz (w.tasks.map (.int .i64)),.fz (w.outs.map aO.enc),.fz (w.ins.map (.int .i64)),.int .i64 w.used,vA',vM',.int .i64 s.cycle] false))) fun t g ht=>e' t g (by simp at ht;omega)).snap 5
    obtain⟨x2,ks2,d1,d2,_⟩:=(mM'.keep (en':=en2.set ⟨0,6,0⟩ (some (.box [.fz (w.objs.map aI.enc),.fz (w.tasks.map (.int .i64)),.fz (w.outs.map aO.enc),.fz (w.ins.map (.int .i64)),.int .i64 w.used,vA',vM',.int .i64 s.cycle] false))) fun t g ht=>e' t g (by simp at ht;omega)).snap 5
    simp only[go_sem,qC,qG,qW,a1,a2,d1,d2]
   ·rw[if_neg h3];have hf:=uY s.world w hs.1;rw[bWi]at h3;rw[h3]at hf;simp only[go_sem,qC,qG,qW,aN8,hck.ret,hmc.ret,hf.ret]
  ·simp only[h2]at hmc;rw[if_neg (fun h=>h2 h.2)]
   simp only[go_sem,qC,qG,qW,aN8,hck.ret,hmc.ret]
 ·rw[if_neg h1]at hck;rw[if_neg (fun h=>h1 h.1)]
  simp only[go_sem,qC,qG,qW,aN8,hck.ret]
end Go.Proofs.YthpmfghgoabnhaaGreat
namespace Go.Proofs.YthpmfghgoabnhaaGreat
open Go.Abs Go.Proofs
def iB (keep:List Int)(v:aG):aG:=⟨v.kind,if lQ v=true then(keep.idxOf v.n:Int)else v.n⟩
def eK (keep:List Int)(l:List aG):List aG:=l.map (iB keep)
def lW (keep:List Int)(f:aB):aB:=⟨f.node,eK keep f.env,eK keep f.vals⟩
def cU (keep:List Int)(o:aI):aI:=⟨o.form,o.n,eK keep o.vals,o.frames.map (lW keep)⟩
def bL (w:aC)(keep:List Int):aC:=⟨keep.map fun n=>cU keep (w.obj n),w.tasks.map fun t=>(keep.idxOf t:Int),w.outs,w.ins,w.used⟩
theorem aOs {keep:List Int}{l:List aG}{k:Nat}(h:k<l.length):(l.take (k+1)).map (iB keep)=(l.take k).map (iB keep)++[iB keep l[k]]:=by rw[dE h,bVx];rfl
end Go.Proofs.YthpmfghgoabnhaaGreat
namespace Go.Proofs.YthpmfghgoabnhaaGreat
open Go.Abs Go.Proofs
def bTf (out:List Int)(n:Int):List Int:=if out.any (fun x=>decide (x=n))=true then out else out++[n]
end Go.Proofs.YthpmfghgoabnhaaGreat
namespace Go.Proofs.YthpmfghgoabnhaaGreat
open Go.Abs Go.Proofs
theorem aMi {w:aC}{keep:List Int}{k:Nat}(h:k<keep.length):((keep.take (k+1)).map fun n=>cU keep (w.obj n))=((keep.take k).map fun n=>cU keep (w.obj n))++[cU keep (w.obj keep[k])]:=by rw[dE h,bVx];rfl
theorem aJv {o:aI}(h:cZ o=true):o.frames.length<=50/\ o.vals.length<=40/\ ∀f∈o.frames,f.env.length<=40/\ f.vals.length<=40:=by
 obtain⟨b1,b2,b3⟩:=oR h;exact⟨by omega,by omega,fun f hf=>by have:=b3 f hf;omega⟩
theorem aDs {w:aC}{i:Int}(h:inR i 0 ((w.objs.length:Int)-1)=true):w.obj i∈w.objs:=by
 simp only[inR,bYb]at h;obtain⟨j,rfl⟩:=bWq h.1;have hj:j<w.objs.length:=by omega
 rw[dT hj];exact bVp _
theorem aOt (keep:List Int)(f:aB):(lW keep f).enc= .agg [.int .i64 f.node,.fz ((eK keep f.env).map aG.enc),.fz ((eK keep f.vals).map aG.enc)]:=rfl
theorem aOu (keep:List Int)(o:aI):(cU keep o).enc= .agg [.int .i64 o.form,.int .i64 o.n,.fz ((eK keep o.vals).map aG.enc),.fz ((o.frames.map (lW keep)).map aB.enc)]:=rfl
end Go.Proofs.YthpmfghgoabnhaaGreat
namespace Go.Proofs.YthpmfghgoabnhaaGreat
open Go.Abs Go.Proofs
theorem bEh {a b:List Val}:cT .neq .map (.fm a b) .nilm=some (.bool true):=(rfl)
theorem bBk {ks vs:List Val}{f:Bool}:Ent.freeze (.map ks vs f)= .map ks vs true:=(rfl)
theorem aTb {cs vs:List Val}{off:Nat}:fH (.agg cs) off vs= .agg (setCells cs off vs):=(rfl)
attribute [go_sem] bEh aX6 bBk aTb aOn aFt
def gS (keep:List Int):List Val:=(List.range keep.length).map fun i=> .int .i64 (i:Nat)
theorem wS (n:Int): ∀ks:List Int,findKey .num (.int .i64 n) (ks.map (.int .i64))=some (if n∈ks then some (ks.idxOf n)else none)
 |[]=>rfl
 |x::ks=>by
  have he:mB .num (.int .i64 n) (.int .i64 x)=some (n==x):=by simp[mB]
  by_cases h:n=x
  ·subst h;simp only[bV9,findKey,he,beq_self_eq_true];simp
  ·have hb:(n==x)=false:=by simpa using h
   have hb':(x==n)=false:=by simpa using fun e=>h e.symm
   simp only[bV9,findKey,he,hb,wS n ks,bWe,h,false_or,List.idxOf_cons,hb']
   by_cases hm:n∈ks
   ·simp[hm]
   ·simp[hm]
theorem aTc {keep:List Int}{x:Int}(h:x∈keep):tU .num (.int .i64 0) false (.int .i64 x) (keep.map (.int .i64)) (gS keep)=some (.int .i64 (keep.idxOf x:Nat)):=by
 have hl:keep.idxOf x<keep.length:=List.idxOf_lt_length_of_mem h;unfold tU;simp[wS,h,gS,bVm,hl]
def uH (keep:List Int)(l:List aG)(k:Nat):List aG:=(l.take k).map (iB keep)++l.drop k
theorem aYi (keep:List Int)(l:List aG):uH keep l 0=l:=by simp[uH]
theorem aYj (keep:List Int)(l:List aG):uH keep l l.length=eK keep l:=by simp[uH,eK]
theorem bBl (keep:List Int)(l:List aG)(k:Nat):(uH keep l k).length=l.length:=by simp[uH];omega
theorem aTd {keep:List Int}{l:List aG}{k:Nat}(h:k<l.length):((uH keep l k).map aG.enc)[k]?=some (aG.enc l[k]):=by
 have:(uH keep l k)[k]?=some l[k]:=by
  rw[uH,List.getElem?_append_right (by simp;omega),bWc h]
  have:k-((l.take k).map (iB keep)).length=0:=by simp;omega
  rw[this];rfl
 rw[bXn,this];rfl
theorem aTe {keep:List Int}{l:List aG}{k:Nat}(h:k<l.length):(uH keep l k).set k (iB keep l[k])=uH keep l (k+1):=by
 have hl:((l.take k).map (iB keep)).length=k:=by simp;omega
 have h2:k-((l.take k).map (iB keep)).length=0:=by omega
 rw[uH,uH,List.set_append_right _ _ (by omega),h2,aOs h]
 have hd:=bWc h;rw[hd,List.set_cons_zero,List.append_assoc];rfl
theorem aYk {keep:List Int}{l:List aG}{k:Nat}(h:k<l.length)(he:iB keep l[k]=l[k]):uH keep l (k+1)=uH keep l k:=by
 rw[<-aTe h,he];apply List.ext_getElem?;intro i;rw[bXm];split
 ·rename_i e;subst e;rw[bBl,if_pos h];have:=aTd (keep:=keep) h;rw[bXn]at this;cases hx:(uH keep l k)[k]? with
  |none=>rw[hx]at this;cases this
  |some y=>
   rw[hx]at this
   injection this with this
   have hy:y=l[k]:=by
    cases y;cases hz:l[k];rw[hz]at this;simp only[aG.enc]at this;injection this with this;injection this with a b;injection b with b;injection a with _ a;injection b with _ b;rw[a,b]
   rw[hy]
 ·rfl
theorem lX (l:List aG)(keep:List Int)(hl:l.length<=16777216)(hin: ∀x∈dB l,x∈keep):PC L 143 [.fz (l.map aG.enc),.fp [.fm (keep.map (.int .i64)) (gS keep)] 0] (.fz ((eK keep l).map aG.enc)):=by
 have hf:Few l.length:=by unfold Few;omega
 have hc:=pY (l.map aG.enc) (aC7 l) (by simpa using hl)
 refine aL bCj rfl rfl ?_
 by_cases h0:l=[]
 ·subst h0;have hc0:=pY [] rfl (by simp)
  simp only[go_sem,qC,qG,qW,aE2,bVv,hc0.ret,show wP 2 []= .cl []from rfl]
  refine bF (0) (fun k st=> ∃fr en cnt,st=⟨fr,en,cnt⟩/\ (fr 0= .cl [])/\ (fr 8= .int .i64 0)/\ (fr 9= .int .i64 k)) 0 (bVn _) ⟨_,_,_,rfl,(by first|(simp only[go_sem,qW];(try rfl);done)|rfl|simp),(by first|(simp only[go_sem,qW];(try rfl);done)|rfl|simp),(by first|(simp only[go_sem,qW];(try rfl);done)|rfl|simp)⟩ ?_
  rintro k st hk ⟨fr,en,cnt,rfl,h0,h8,h9⟩
  simp only[go_sem,qC,qG,qW,h0,h8,h9];have:k=0:=by omega
  subst this;simp only[go_sem,qC,qG,qW,h0,h8,h9];rfl
 ·have h0':l.map aG.enc≠[]:=by simpa using h0
  rw[aHv h0']at hc;simp only[go_sem,qC,qG,qW,aE2,hc.ret];have hz:=aYi keep l
  refine bF (l.length) (fun k st=> ∃fr en cnt,st=⟨fr,en,cnt⟩/\ (fr 0= .bl ⟨0,6,0⟩ 0 l.length)/\ (en ⟨0,6,0⟩=some (.blk 2 ((uH keep l k).map aG.enc) false))/\ (fr 1= .fp [.fm (keep.map (.int .i64)) (gS keep)] 0)/\ (fr 8= .int .i64 l.length)/\ (fr 9= .int .i64 k)) 0 (bVn _) ⟨_,_,_,rfl,(by first|(simp only[go_sem,h0,h8,h9];(try rfl);done)|rfl|simp),(by first|(simp only[go_sem,h0,h8,h9];(try rfl);done)|rfl|simp),(by first|(simp only[go_sem,h0,h8,h9];(try rfl);done)|rfl|simp),(by first|(simp only[go_sem,h0,h8,h9];(try rfl);done)|rfl|simp),(by first|(simp only[go_sem,h0,h8,h9];(try rfl);done)|rfl|simp)⟩ ?_
  rintro k st hk ⟨fr,en,cnt,rfl,h0,e6,h1,h8,h9⟩
  simp only[go_sem,qC,qG,qW,h0,e6,h1,h8,h9]
  refine aA (fun hq=>?_) (fun hq=>?_)
  ·have h':k<l.length:=of_decide_eq_true hq;have hx:=aTd (keep:=keep) h';have hc1:(0:Int)<=(k:Int):=by omega
   have hc2:(k:Int)<(l.length:Int):=by omega
   simp only[go_sem,qC,qG,qW,h0,e6,h1,h8,h9,h',hx,hc1,hc2,true_and,and_true,eq_self,if_true,bWb,bV3]
   refine aE (fun hg=>?_) (fun hg=>?_)
   ·have hr:lQ l[k]=true:=hg;have hk:l[k].n∈keep:=hin _ (bV4.2 ⟨l[k],bW5.2 ⟨bVp h',hr⟩,rfl⟩);have hmv:iB keep l[k]=⟨l[k].kind,(keep.idxOf l[k].n:Int)⟩:=by rw[iB,if_pos hr]
    have hset:((uH keep l k).map aG.enc).set k (.agg [.int .i64 l[k].kind,.int .i64 (keep.idxOf l[k].n:Nat)])=(uH keep l (k+1)).map aG.enc:=by
     rw[<-aTe h',bW0,hmv];rfl
    simp only[go_sem,qC,qG,qW,hg,h0,e6,h1,h8,h9,h',hx,hc1,hc2,true_and,and_true,eq_self,if_true,bWb,bV3,aTc hk]
    try simp only[go_sem,qC,qG,qW,hset,h0,e6,h1,h8,h9,hx,aTb]
    refine⟨_,_,_,rfl,?_⟩
    simp only[go_sem,qW,h0,e6,h1,h8,h9,aK h' hf]
   ·have hmv:iB keep l[k]=l[k]:=by
     have:lQ l[k]=false:=by simpa[lQ]using hg
     rw[iB,if_neg (by rw[this];decide)]
    simp only[go_sem,qC,qG,qW,hg,h0,e6,h1,h8,h9,bVq]
    refine⟨_,_,_,rfl,?_⟩
    rw[aYk h' hmv];simp only[go_sem,qC,qG,qW,h0,e6,h1,h8,h9,aK h' hf]
  ·have:k=l.length:=by simp at hq;omega
   subst this;have hml:(eK keep l).length=l.length:=by simp[eK]
   rw[aYj]at e6;have htk:((eK keep l).map aG.enc).take l.length=(eK keep l).map aG.enc:=bVw (by simp[hml])
   simp only[go_sem,qC,qG,qW,h0,e6,h1,h8,h9,hml,htk,bVe,if_true,bVk]
theorem aYl {o:aI}{keep:List Int}(h: ∀x∈dS o,x∈keep):(∀x∈dB o.vals,x∈keep)/\ ∀f∈o.frames,(∀x∈dB f.env,x∈keep)/\ ∀x∈dB f.vals,x∈keep:=by
 refine⟨fun x hx=>h x (bW6 _ hx),fun f hf=>⟨fun x hx=>h x (bW1 _ (bWt.2 ⟨f,hf,bW6 _ hx⟩)),fun x hx=>h x (bW1 _ (bWt.2 ⟨f,hf,bW1 _ hx⟩))⟩⟩
theorem aB8 (o:aI)(keep:List Int)(hs:cZ o=true)(hin: ∀x∈dS o,x∈keep):PC L 110 [.agg [.int .i64 o.form,.int .i64 o.n,.fz (o.vals.map aG.enc),.fz (o.frames.map aB.enc)],.fm (keep.map (.int .i64)) (gS keep)] (.agg [.int .i64 (cU keep o).form,.int .i64 (cU keep o).n,.fz ((cU keep o).vals.map aG.enc),.fz ((cU keep o).frames.map aB.enc)]):=by
 obtain⟨b1,b2,b3⟩:=aJv hs;obtain⟨i1,i2⟩:=aYl hin;have hf:Few o.frames.length:=by unfold Few;omega
 refine aL bCh rfl rfl ?_
 simp only[go_sem,qC,qG,qW,aLk,iX (v:= .fm (keep.map (.int .i64)) (gS keep)) rfl rfl]
 refine aN ?_
 simp only[go_sem,qC,qG,qW,bVf,bVg,bVh,bVj,bVi,bVd,if_false,(lX o.vals keep (by omega) i1).ret]
 refine bF o.frames.length (fun k st=> ∃fr en cnt v,st=⟨fr,en,cnt⟩/\ fr 4= .ptr ⟨0,4,0⟩ 0/\ en ⟨0,4,0⟩=some (.box [.int .i64 0,.int .i64 0,.cl [],.cl []] false)/\ en ⟨0,3,0⟩=some (.box [.fm (keep.map (.int .i64)) (gS keep)] true)/\ fr 5= .fn 143 [] [.ptr ⟨0,3,0⟩ 0]/\ fr 6= .ptr ⟨0,6,0⟩ 0/\ en ⟨0,6,0⟩=some (.box [.int .i64 o.form,.int .i64 o.n,.fz ((eK keep o.vals).map aG.enc),v] false)/\ fr 20= .fz (o.frames.map aB.enc)/\ fr 21= .int .i64 o.frames.length/\ fr 22= .int .i64 k/\ cE en v 3 (((o.frames.take k).map (lW keep)).map aB.enc) [40]) 0 (bVn _) ⟨_,_,_,.cl [],rfl,by simp only[go_sem,qW],by simp only[go_sem,qW],by simp only[go_sem,qW],by simp only[go_sem,qW],by simp only[go_sem,qW],by simp only[go_sem,qW],by simp only[go_sem,qW],by simp only[go_sem,qW],by simp only[go_sem,qW],cE.nil _ _⟩ ?_
 rintro k st hk ⟨fr,en,cnt,v,rfl,h4,e4,e3,h5,h6,e6,h20,h21,h22,hv⟩
 simp only[go_sem,qC,qG,qW,h4,e4,e3,h5,h6,e6,h20,h21,h22]
 refine aA (fun hq=>?_) (fun hq=>?_)
 ·have h':k<o.frames.length:=of_decide_eq_true hq;have hb:=b3 _ (bVp h');have hi:=i2 _ (bVp h');simp only[go_sem,qC,qG,qW,h',h4,e4,e3,h5,h6,e6,h20,h21,h22]
  refine aN ?_
  simp only[go_sem,qC,qG,qW,h',h4,e4,e3,h5,h6,e6,h20,h21,h22,bVf,bVg,bVh,bVj,bVi,bVd,if_false,(lX _ keep (show o.frames[k].env.length<=16777216 by omega) hi.1).ret,(lX _ keep (show o.frames[k].vals.length<=16777216 by omega) hi.2).ret]
  refine nD (D:=[40]) (xs:=((o.frames.take k).map (lW keep)).map aB.enc) (ys:=[aB.enc (lW keep o.frames[k])]) (rs:=[]) ?_ ?_ ?_ rfl ?_ ?_
  ·simp only[go_sem,qW];exact hv.keep fun t g ht=>by simp at ht;subst ht;simp only[go_sem,qW]
  ·rw[aOt];simp only[go_sem,qW]
  ·rfl
  ·simp;omega
  ·intro v' en' cnt' r hown hen hcnt _ _ _;have k3:en' ⟨0,3,0⟩=some (.box [.fm (keep.map (.int .i64)) (gS keep)] true):=by rw[hen 0 3 0 (.inr ⟨by decide,by simp⟩)];simp only[go_sem,qW,e3]
   have k4:en' ⟨0,4,0⟩=some (.box [.int .i64 0,.int .i64 0,.cl [],.cl []] false):=by rw[hen 0 4 0 (.inr ⟨by decide,by simp⟩)];simp only[go_sem,qW,e4]
   have k6:en' ⟨0,6,0⟩=some (.box [.int .i64 o.form,.int .i64 o.n,.fz ((eK keep o.vals).map aG.enc),v] false):=by rw[hen 0 6 0 (.inr ⟨by decide,by simp⟩)];simp only[go_sem,qW,e6]
   obtain⟨s1,s2⟩:=hown.shape;simp only[go_sem,qC,qG,qW,h4,k4,k3,h5,h6,k6,h20,h21,h22,s1,s2,bVf,bVg,bVh,bVj,bVi,bVd,if_false]
   refine⟨_,_,_,v',rfl,?_⟩
   simp only[go_sem,qC,qG,qW,h4,k4,k3,h5,h6,k6,h20,h21,h22,aK h' hf];rw[dE h',bVx,bVx]
   refine cE.sub (D:=[40,40]) (cE.keep (en:=en') hown ?_) (by simp)
   intro t g ht;simp at ht;subst ht;simp only[go_sem,qW]
 ·have:k=o.frames.length:=by simp at hq;omega
  subst this;rw[bWf]at hv;simp only[go_sem,qC,qG,qW,h4,e4,e3,h5,h6,e6,h20,h21,h22];obtain⟨r,ks,s1,s2,_⟩:=(hv.keep (en':=en.set ⟨0,4,0⟩ (some (.box [.int .i64 o.form,.int .i64 o.n,.fz ((eK keep o.vals).map aG.enc),v] false))) fun t g ht=>by simp at ht;subst ht;simp only[go_sem,qW]).snap 6
  simp only[go_sem,qC,qG,qW,s1,s2];rfl
theorem aMj (keep:List Int){k:Nat}(h:k<keep.length):gS (keep.take (k+1))=gS (keep.take k)++[.int .i64 (k:Nat)]:=by
 have h1:(keep.take (k+1)).length=k+1:=by simp;omega
 have h2:(keep.take k).length=k:=by simp;omega
 rw[gS,gS,h1,h2,bWr,bVx];rfl
theorem aMk {keep:List Int}(hn:keep.Pairwise (· < ·)){k:Nat}(h:k<keep.length):keep[k]∉keep.take k:=by
 intro hm;obtain⟨i,hi,he⟩:=List.mem_iff_getElem.1 hm;have hik:i<k:=by simp at hi;omega
 rw[List.getElem_take]at he;have:=List.pairwise_iff_getElem.1 hn i k (by omega) h hik
 omega
theorem aGu (w:aC)(keep:List Int)(hw:w.few)(hsm:bB w=true)(hk:keep.length<=140)(hn:keep.Pairwise (· < ·))(hin: ∀n∈keep,inR n 0 ((w.objs.length:Int)-1)=true)
  (hr: ∀n∈keep,∀x∈dS (w.obj n),x∈keep) (ht: ∀t∈w.tasks,t∈keep):PC L 65 [.agg [.fz (w.objs.map aI.enc),.fz (w.tasks.map (.int .i64)),.fz (w.outs.map aO.enc),.fz (w.ins.map (.int .i64)),.int .i64 w.used],.fz (keep.map (.int .i64))] (.agg [.fz ((bL w keep).objs.map aI.enc),.fz ((bL w keep).tasks.map (.int .i64)),.fz ((bL w keep).outs.map aO.enc),.fz ((bL w keep).ins.map (.int .i64)),.int .i64 (bL w keep).used]):=by
 obtain⟨b1,b2,b3,b4⟩:=oT hsm;have hfk:Few keep.length:=by unfold Few;omega
 have c2:=aA0 (w.outs.map aO.enc) (aC8 _) (by simp;omega)
 have c3:=jS (w.ins.map (.int .i64)) (kZ _) (by simp;omega)
 refine aL bSs rfl rfl ?_
 simp only[go_sem,qC,qG,qW,bAp]
 refine bF (keep.length) (fun k st=> ∃fr en cnt,st=⟨fr,en,cnt⟩/\ (fr 2= .ptr ⟨0,2,0⟩ 0)/\ (en ⟨0,2,0⟩=some (.box [.fz (w.objs.map aI.enc),.fz (w.tasks.map (.int .i64)),.fz (w.outs.map aO.enc),.fz (w.ins.map (.int .i64)),.int .i64 w.used] false))/\ (fr 4= .ptr ⟨0,4,0⟩ 0)/\ (en ⟨0,4,0⟩=some (.box [.cl [],.cl [],.cl [],.cl [],.int .i64 0] false))/\ (fr 1= .fz (keep.map (.int .i64)))/\ (fr 5= .mp ⟨0,13,0⟩)/\ (fr 14= .fz (keep.map (.int .i64)))/\ (fr 15= .int .i64 keep.length)/\ (fr 16= .int .i64 k)/\ (en ⟨0,13,0⟩=some (.map ((keep.take k).map (.int .i64)) (gS (keep.take k)) false))) 0 (bVn _) ⟨_,_,_,rfl,(by first|(simp only[go_sem,qW];(try rfl);done)|rfl|simp),(by first|(simp only[go_sem,qW];(try rfl);done)|rfl|simp),(by first|(simp only[go_sem,qW];(try rfl);done)|rfl|simp),(by first|(simp only[go_sem,qW];(try rfl);done)|rfl|simp),(by first|(simp only[go_sem,qW];(try rfl);done)|rfl|simp),(by first|(simp only[go_sem,qW];(try rfl);done)|rfl|simp),(by first|(simp only[go_sem,qW];(try rfl);done)|rfl|simp),(by first|(simp only[go_sem,qW];(try rfl);done)|rfl|simp),(by first|(simp only[go_sem,qW];(try rfl);done)|rfl|simp),(by first|(simp only[go_sem,qW];(try rfl);done)|rfl|simp)⟩ ?_
 rintro k st hk ⟨fr,en,cnt,rfl,h2,e2,h4,e4,h1,h5,h14,h15,h16,e13⟩
 simp only[go_sem,qC,qG,qW,h2,e2,h4,e4,h1,h5,h14,h15,h16,e13]
 refine aA (fun hq=>?_) (fun hq=>?_)
 ·have h':k<keep.length:=of_decide_eq_true hq;have hnt:=aMk hn h';have hps:=aMj keep h';have hmp:(keep.take (k+1)).map (Val.int .i64)=(keep.take k).map (.int .i64)++[.int .i64 keep[k]]:=by rw[dE h',bVx];rfl
  have hfd:=wS keep[k] (keep.take k);rw[if_neg hnt]at hfd;simp only[go_sem,qC,qG,qW,h',h2,e2,h4,e4,h1,h5,h14,h15,h16,e13,hfd,bW7,Bool.and_self,if_true]
  refine⟨_,_,_,rfl,?_⟩
  simp only[go_sem,qC,qG,qW,h2,e2,h4,e4,h1,h5,h14,h15,h16,e13,aK h' hfk,hps,hmp]
 ·have:k=keep.length:=by simp at hq;omega
  subst this;rw[bWf]at e13;simp only[go_sem,qC,qG,qW,h2,e2,h4,e4,h1,h5,h14,h15,h16,e13];obtain⟨g8,hg8⟩: ∃g,g=cnt 0 8:=⟨_,rfl⟩
  obtain⟨g27,hg27⟩: ∃g,g=cnt 0 27:=⟨_,rfl⟩
  obtain⟨g30,hg30⟩: ∃g,g=cnt 0 30:=⟨_,rfl⟩
  refine aS9 (fun st=>st.fr 1= .fz (keep.map (.int .i64))/\ st.fr 2= .ptr ⟨0,2,0⟩ 0/\ st.en ⟨0,2,0⟩=some (.box [.fz (w.objs.map aI.enc),.fz (w.tasks.map (.int .i64)),.fz (w.outs.map aO.enc),.fz (w.ins.map (.int .i64)),.int .i64 w.used] false)/\ st.fr 4= .ptr ⟨0,4,0⟩ 0/\ st.en ⟨0,4,0⟩=some (.box [.cl [],.cl [],.cl [],.cl [],.int .i64 0] false)/\ st.fr 5= .mp ⟨0,13,0⟩/\ st.en ⟨0,13,0⟩=some (.map (keep.map (.int .i64)) (gS keep) false)/\ st.fr 8= .ptr ⟨0,8,g8⟩ 0/\
   ∃vO vI,st.en ⟨0,8,g8⟩=some (.box [.cl [],.cl [],vO,vI,.int .i64 w.used] false)/\ cE st.en vO 2 (w.outs.map aO.enc) [27]/\ cE st.en vI 1 (w.ins.map (.int .i64)) [30]) ?_ ?_
  ·refine aN ?_
   rcases iK 2 (w.outs.map aO.enc)with⟨o1,o2⟩|⟨o1,o2⟩<;>rw[o2]at c2<;>
   rcases iK 1 (w.ins.map (Val.int .i64))with⟨i1,i2⟩|⟨i1,i2⟩<;>rw[i2]at c3
   all_goals simp only[go_sem,qC,qG,qW,h2,e2,h4,e4,h1,h5,h14,h15,h16,e13,e13,<-hg8,<-hg27,<-hg30,bVf,bVg,bVh,bVj,bVi,bVd,if_false,bV0,c2.ret,c3.ret,bVk,bVe,if_true,pZ,cX,bP,dA,bO]
   all_goals refine⟨_,_,rfl,?_,?_⟩
   all_goals first
    |exact .inl ⟨rfl,by assumption⟩
    |exact aJn (by simp only[go_sem,qW];try rfl) (by simp only[bVk])
  ·clear h1 h2 e2 h4 e4 h5 e13 h14 h15 h16
   rintro fr en cnt ⟨h1,h2,e2,h4,e4,h5,e13,h8,vO,vI,e8,mO,mI⟩
   dsimp only at h1 h2 e2 h4 e4 h5 e13 h8 e8 mO mI;simp only[go_sem,qC,qG,qW,h1,h2,e2,h4,e4,h5,e13,h8,e8]
   refine bF keep.length (fun k st=> ∃fr en cnt v f,st=⟨fr,en,cnt⟩/\ fr 1= .fz (keep.map (.int .i64))/\ fr 2= .ptr ⟨0,2,0⟩ 0/\ en ⟨0,2,0⟩=some (.box [.fz (w.objs.map aI.enc),.fz (w.tasks.map (.int .i64)),.fz (w.outs.map aO.enc),.fz (w.ins.map (.int .i64)),.int .i64 w.used] false)/\ fr 4= .ptr ⟨0,4,0⟩ 0/\ en ⟨0,4,0⟩=some (.box [.cl [],.cl [],.cl [],.cl [],.int .i64 0] false)/\ fr 5= .mp ⟨0,13,0⟩/\ en ⟨0,13,0⟩=some (.map (keep.map (.int .i64)) (gS keep) f)/\ fr 8= .ptr ⟨0,8,g8⟩ 0/\
    en ⟨0,8,g8⟩=some (.box [v,.cl [],vO,vI,.int .i64 w.used] false)/\ fr 34= .fz (keep.map (.int .i64))/\ fr 35= .int .i64 keep.length/\ fr 36= .int .i64 k/\ cE en vO 2 (w.outs.map aO.enc) [27]/\ cE en vI 1 (w.ins.map (.int .i64)) [30]/\ cE en v 4 (((keep.take k).map fun n=>cU keep (w.obj n)).map aI.enc) [50]) 0 (bVn _)
    ⟨_,_,_,.cl [],false,rfl,by simp only[go_sem,h1],by simp only[go_sem,h2],by simp only[go_sem,e2],by simp only[go_sem,h4],by simp only[go_sem,e4],by simp only[go_sem,h5],by simp only[go_sem,e13],by simp only[go_sem,h8],by simp only[go_sem,e8],by simp only[go_sem,qW],by simp only[go_sem,qW],by simp only[go_sem,qW],mO,mI,cE.nil _ _⟩ ?_
   clear h1 h2 e2 h4 e4 h5 e13 h8 e8 mO mI
   rintro k st hk' ⟨fr,en,cnt,v,f,rfl,h1,h2,e2,h4,e4,h5,e13,h8,e8,h34,h35,h36,mO,mI,hv⟩
   simp only[go_sem,qC,qG,qW,h1,h2,e2,h4,e4,h5,e13,h8,e8,h34,h35,h36]
   refine aA (fun hq=>?_) (fun hq=>?_)
   ·have h':k<keep.length:=of_decide_eq_true hq;have hm:=bVp h';have hi:=hin _ hm;have hrn:=aB8 (w.obj keep[k]) keep (kY hsm _ (aDs hi)) (hr _ hm);simp only[go_sem,qC,qG,qW,h',h1,h2,e2,h4,e4,h5,e13,h8,e8,h34,h35,h36]
    refine aN ?_
    simp only[go_sem,qC,qG,qW,h',h1,h2,e2,h4,e4,h5,e13,h8,e8,h34,h35,h36,tV hi,hrn.ret,aTa,aX6,aOn,aFt,bVf,bVg,bVh,bVj,bVi,bVd,if_false]
    refine nD (D:=[50]) (xs:=((keep.take k).map fun n=>cU keep (w.obj n)).map aI.enc) (ys:=[aI.enc (cU keep (w.obj keep[k]))]) (rs:=[]) ?_ ?_ ?_ rfl ?_ ?_
    ·simp only[go_sem,qW];exact hv.keep fun t g ht=>by simp at ht;subst ht;simp only[go_sem,qW]
    ·rw[aOu];simp only[go_sem,qW];rfl
    ·rfl
    ·simp;omega
    ·intro v' en' cnt' r hown hen hcnt _ _ _;have k2:en' ⟨0,2,0⟩=some (.box [.fz (w.objs.map aI.enc),.fz (w.tasks.map (.int .i64)),.fz (w.outs.map aO.enc),.fz (w.ins.map (.int .i64)),.int .i64 w.used] false):=by rw[hen 0 2 0 (.inr ⟨by decide,by simp⟩)];simp only[go_sem,qW,e2]
     have k4:en' ⟨0,4,0⟩=some (.box [.cl [],.cl [],.cl [],.cl [],.int .i64 0] false):=by rw[hen 0 4 0 (.inr ⟨by decide,by simp⟩)];simp only[go_sem,qW,e4]
     have k8:en' ⟨0,8,g8⟩=some (.box [v,.cl [],vO,vI,.int .i64 w.used] false):=by rw[hen 0 8 g8 (.inr ⟨by decide,by simp⟩)];simp only[go_sem,qW,e8]
     have k13:en' ⟨0,13,0⟩=some (.map (keep.map (.int .i64)) (gS keep) true):=by rw[hen 0 13 0 (.inr ⟨by decide,by simp⟩)];simp only[go_sem,qW,e13]
     obtain⟨s1,s2⟩:=hown.shape;simp only[go_sem,qC,qG,qW,h1,h2,k2,h4,k4,h5,k13,h8,k8,h34,h35,h36,s1,s2,bVf,bVg,bVh,bVj,bVi,bVd,if_false]
     refine⟨_,_,_,v',true,rfl,?_⟩
     simp only[go_sem,qC,qG,qW,h1,h2,k2,h4,k4,h5,k13,h8,k8,h34,h35,h36,aK h' hfk]
     refine⟨?_,?_,?_⟩
     ·exact mO.keep fun t g ht=>by simp at ht;subst ht;simp only[go_sem,qW,hen 0 27 g (.inr ⟨by decide,by simp⟩)]
     ·exact mI.keep fun t g ht=>by simp at ht;subst ht;simp only[go_sem,qW,hen 0 30 g (.inr ⟨by decide,by simp⟩)]
     ·rw[aMi h',bVx]
      refine cE.sub (D:=[50,50]) (cE.keep (en:=en') hown ?_) (by simp)
      intro t g ht;simp at ht;subst ht;simp only[go_sem,qW]
   ·have:k=keep.length:=by simp at hq;omega
    subst this;rw[bWf]at hv;simp only[go_sem,qC,qG,qW,h1,h2,e2,h4,e4,h5,e13,h8,e8,h34,h35,h36]
    refine bF w.tasks.length (fun j st=> ∃fr en cnt vt,st=⟨fr,en,cnt⟩/\ fr 4= .ptr ⟨0,4,0⟩ 0/\ en ⟨0,4,0⟩=some (.box [.cl [],.cl [],.cl [],.cl [],.int .i64 0] false)/\ fr 5= .mp ⟨0,13,0⟩/\ en ⟨0,13,0⟩=some (.map (keep.map (.int .i64)) (gS keep) f)/\ fr 8= .ptr ⟨0,8,g8⟩ 0/\
     en ⟨0,8,g8⟩=some (.box [v,vt,vO,vI,.int .i64 w.used] false)/\ fr 54= .fz (w.tasks.map (.int .i64))/\ fr 55= .int .i64 w.tasks.length/\ fr 56= .int .i64 j/\ cE en vO 2 (w.outs.map aO.enc) [27]/\ cE en vI 1 (w.ins.map (.int .i64)) [30]/\ cE en v 4 ((keep.map fun n=>cU keep (w.obj n)).map aI.enc) [50]/\
     cE en vt 1 (((w.tasks.take j).map fun t=>(keep.idxOf t:Int)).map (.int .i64)) [66]) 0 (bVn _)
     ⟨_,_,_,.cl [],rfl,by simp only[go_sem,h4],by simp only[go_sem,e4],by simp only[go_sem,h5],by simp only[go_sem,e13],by simp only[go_sem,h8],by simp only[go_sem,e8],by simp only[go_sem,qW],by simp only[go_sem,qW],by simp only[go_sem,qW],mO,mI,hv,cE.nil _ _⟩ ?_
    clear h1 h2 e2 h4 e4 h5 e13 h8 e8 h34 h35 h36 mO mI hv
    rintro j st hj' ⟨fr,en,cnt,vt,rfl,h4,e4,h5,e13,h8,e8,h54,h55,h56,mO,mI,hv,mt⟩
    simp only[go_sem,qC,qG,qW,h4,e4,h5,e13,h8,e8,h54,h55,h56]
    refine aA (fun hq2=>?_) (fun hq2=>?_)
    ·have h2':j<w.tasks.length:=of_decide_eq_true hq2;have hlk:=aTc (ht _ (bVp h2'));simp only[go_sem,qC,qG,qW,h2',h4,e4,h5,e13,h8,e8,h54,h55,h56,hlk]
     refine pF (D:=[66]) (xs:=((w.tasks.take j).map fun t=>(keep.idxOf t:Int)).map (.int .i64)) (ys:=[.int .i64 (keep.idxOf w.tasks[j]:Nat)]) (rs:=[]) ?_ ?_ ?_ ?_ ?_
     ·simp only[go_sem,qW];exact mt
     ·simp only[go_sem,qW]
     ·rfl
     ·simp;omega
     ·intro vt' en' cnt' hown hen hcnt;have k4:en' ⟨0,4,0⟩=some (.box [.cl [],.cl [],.cl [],.cl [],.int .i64 0] false):=by rw[hen 0 4 0 (.inr ⟨by decide,by simp⟩)];simp only[go_sem,qW,e4]
      have k8:en' ⟨0,8,g8⟩=some (.box [v,vt,vO,vI,.int .i64 w.used] false):=by rw[hen 0 8 g8 (.inr ⟨by decide,by simp⟩)];simp only[go_sem,qW,e8]
      have k13:en' ⟨0,13,0⟩=some (.map (keep.map (.int .i64)) (gS keep) f):=by rw[hen 0 13 0 (.inr ⟨by decide,by simp⟩)];simp only[go_sem,qW,e13]
      obtain⟨s1,s2⟩:=hown.shape;simp only[go_sem,qC,qG,qW,h4,k4,h5,k13,h8,k8,h54,h55,h56,s1,s2]
      refine⟨_,_,_,vt',rfl,?_⟩
      simp only[go_sem,qC,qG,qW,h4,k4,h5,k13,h8,k8,h54,h55,h56,aK h2' hw.tasks]
      refine⟨?_,?_,?_,?_⟩
      ·exact mO.keep fun t g ht=>by simp at ht;subst ht;simp only[go_sem,qW,hen 0 27 g (.inr ⟨by decide,by simp⟩)]
      ·exact mI.keep fun t g ht=>by simp at ht;subst ht;simp only[go_sem,qW,hen 0 30 g (.inr ⟨by decide,by simp⟩)]
      ·exact hv.keep fun t g ht=>by simp at ht;subst ht;simp only[go_sem,qW,hen 0 50 g (.inr ⟨by decide,by simp⟩)]
      ·rw[dE h2',bVx,bVx]
       refine cE.sub (D:=[66,66]) (cE.keep (en:=en') hown ?_) (by simp)
       intro t g ht;simp at ht;subst ht;simp only[go_sem,qW]
    ·have:j=w.tasks.length:=by simp at hq2;omega
     subst this;rw[bWf]at mt;simp only[go_sem,qC,qG,qW,h4,e4,h5,e13,h8,e8,h54,h55,h56];have e': ∀t g,¬t=4->(en.set ⟨0,4,0⟩ (some (.box [v,vt,vO,vI,.int .i64 w.used] false))) ⟨0,t,g⟩=en ⟨0,t,g⟩:=fun t g h=>aIy h
     obtain⟨x1,ks1,a1,a2,_⟩:=(hv.keep (en':=en.set ⟨0,4,0⟩ (some (.box [v,vt,vO,vI,.int .i64 w.used] false))) fun t g ht=>e' t g (by simp at ht;omega)).snap 6
     obtain⟨x2,ks2,d1,d2,_⟩:=(mt.keep (en':=en.set ⟨0,4,0⟩ (some (.box [v,vt,vO,vI,.int .i64 w.used] false))) fun t g ht=>e' t g (by simp at ht;omega)).snap 6
     obtain⟨x3,ks3,f1,f2,_⟩:=(mO.keep (en':=en.set ⟨0,4,0⟩ (some (.box [v,vt,vO,vI,.int .i64 w.used] false))) fun t g ht=>e' t g (by simp at ht;omega)).snap 6
     obtain⟨x4,ks4,y1,y2,_⟩:=(mI.keep (en':=en.set ⟨0,4,0⟩ (some (.box [v,vt,vO,vI,.int .i64 w.used] false))) fun t g ht=>e' t g (by simp at ht;omega)).snap 6
     simp only[go_sem,qC,qG,qW,a1,a2,d1,d2,f1,f2,y1,y2];rfl
end Go.Proofs.YthpmfghgoabnhaaGreat
namespace Go.Proofs.YthpmfghgoabnhaaGreat
open Go.Abs Go.Proofs
def aB9 (keep:List Int)(x:Int):Bool:=keep.any fun y=>decide (y=x)
theorem aYm {keep:List Int}{x:Int}:aB9 keep x=true↔x∈keep:=by
 unfold aB9;rw[bXk];exact⟨fun⟨y,h,e⟩=>by rw[<-of_decide_eq_true e];exact h,fun h=>⟨x,h,by simp⟩⟩
def bCo (keep:List Int)(i:Nat):Int:=keep.getD i 0
end Go.Proofs.YthpmfghgoabnhaaGreat
namespace Go.Proofs.YthpmfghgoabnhaaGreat
open Go.Abs Go.Proofs
end Go.Proofs.YthpmfghgoabnhaaGreat
namespace Go.Proofs.YthpmfghgoabnhaaGreat
open Go.Abs Go.Proofs
inductive uI (w:aC):Nat->Prop
 |task {i:Nat} (h:i<w.objs.length) (t:bH (w.obj i)=true):uI w i
 |ref {i:Nat} {x:Int} (h:uI w i) (hx:x∈dS (w.obj i)):uI w x.toNat
def atB (out:List Bool)(i:Nat):Bool:=out.getD i false
structure bUr (w:aC) (out:List Bool):Prop where
 len:out.length=w.objs.length
 sound: ∀i,atB out i=true->uI w i
 tasks: ∀i,i<w.objs.length->bH (w.obj i)=true->atB out i=true
def oY (w:aC):Prop:= ∀o∈w.objs,∀x∈dS o,inR x 0 ((w.objs.length:Int)-1)=true
end Go.Proofs.YthpmfghgoabnhaaGreat
namespace Go.Proofs.YthpmfghgoabnhaaGreat
open Go.Abs Go.Proofs
def bKo (out:List Int)(o:aI):List Int:=o.frames.foldl (fun out f=>fF (fF out f.env) f.vals) (fF out o.vals)
def bEi (w:aC):List Int:=w.tasks.foldl bTf []
def aHy (w:aC):Nat->List Int->Nat->List Int
 |0,out,_=>out
 |f+1,out,i=>if i<out.length then aHy w f (bKo out (w.obj (bCo out i))) (i+1)else out
def bEj (w:aC):List Int:=aHy w (w.objs.length+1) (bEi w) 0
structure bU6 (n:Nat) (a b:List Int):Prop where
 pre:a<+:b
 once:b.Nodup
def InR (w:aC)(l:List Int):Prop:= ∀x∈l,inR x 0 ((w.objs.length:Int)-1)=true
end Go.Proofs.YthpmfghgoabnhaaGreat
namespace Go.Proofs.YthpmfghgoabnhaaGreat
open Go.Abs Go.Proofs
end Go.Proofs.YthpmfghgoabnhaaGreat
namespace Go.Proofs.YthpmfghgoabnhaaGreat
open Go.Abs Go.Proofs
def aDn (en:En)(v:Val)(xs:List Val)(D:List Nat):Prop:=
 (v= .cl []/\ xs=[]) \/ ∃t g zs,v= .bl ⟨0,t,g⟩ 0 xs.length/\ en ⟨0,t,g⟩=some (.blk 1 zs false)/\ xs.length<=zs.length/\ zs.take xs.length=xs/\ t∈D
theorem aDn.keep {en en':En}{v:Val}{xs:List Val}{D:List Nat}(h:aDn en v xs D)(k: ∀t g,t∈D->en' ⟨0,t,g⟩=en ⟨0,t,g⟩):aDn en' v xs D:=by
 rcases h with h|⟨t,g,zs,h1,h2,h3,h4,h5⟩
 ·exact .inl h
 ·exact .inr ⟨t,g,zs,h1,by rw[k t g h5];exact h2,h3,h4,h5⟩
theorem aDn.sub {en:En}{v:Val}{xs:List Val}{D D':List Nat}(h:aDn en v xs D)(k: ∀t∈D,t∈D'):aDn en v xs D':=by
 rcases h with h|⟨t,g,zs,h1,h2,h3,h4,h5⟩
 ·exact .inl h
 ·exact .inr ⟨t,g,zs,h1,h2,h3,h4,k t h5⟩
theorem aDn.len {en:En}{v:Val}{xs:List Val}{D:List Nat}(h:aDn en v xs D):uR v=some xs.length:=by
 rcases h with⟨rfl,rfl⟩|⟨t,g,zs,rfl,_⟩<;>rfl
theorem aDn.shape {en:En}{v:Val}{xs:List Val}{D:List Nat}(h:aDn en v xs D):v.one=true/\ v.cells=[v]:=by
 rcases h with⟨rfl,_⟩|⟨t,g,zs,rfl,_⟩<;>exact⟨rfl,rfl⟩
section
variable {L :cO}{fr:Nat->Val}{en:En}{cnt:Nat->Nat->Nat}{Q:St->Prop}{l:List bE}{d:Nat}
end
theorem aFv {f g:Nat->Nat}{j:Nat}: ∀n,j<n->(∀i,i≠j->f i=g i)->((List.range n).map f).sum+g j=((List.range n).map g).sum+f j
 |0,h,_=>by omega
 |n+1,h,he=>by
  rw[bWr,bVx,bVx,List.sum_append,List.sum_append];simp only[bV9,bVv,List.sum_cons,List.sum_nil]
  by_cases hj:j<n
  ·have:=aFv n hj he;rw[he n (by omega)];omega
  ·have hjn:j=n:=by omega
   subst hjn;have:(List.range j).map f=(List.range j).map g:=bWy fun i hi=>he i (by simp at hi;omega)
   rw[this];omega
theorem wT (ks:List Int)(n x:Int):aB9 (ks++[n]) x=(aB9 ks x||decide (n=x)):=by simp[aB9,List.any_append]
structure bTg (w:aC) (ks td:List Int):Prop where
 met: ∀x∈ks,∃i:Nat,x=i/\ i<w.objs.length/\ uI w i
 todo: ∀x∈td,∃i:Nat,x=i/\ i<w.objs.length/\ uI w i
 tasks: ∀x∈w.tasks,x∈ks \/x∈td
 shut: ∀n∈ks,∀x∈dS (w.obj n),x∈ks \/x∈td
end Go.Proofs.YthpmfghgoabnhaaGreat
namespace Go.Proofs.YthpmfghgoabnhaaGreat
open Go.Abs Go.Proofs
theorem aDn.nil {en:En}{v:Val}{xs:List Val}{D:List Nat}(h:aDn en v xs D)(h0:xs.length=0):xs=[]:=List.eq_nil_of_length_eq_zero h0
end Go.Proofs.YthpmfghgoabnhaaGreat
namespace Go.Proofs.YthpmfghgoabnhaaGreat
open Go.Abs Go.Proofs
theorem aA2 (w:aC): ∀(l met:List Int),aZ w met l=true-> ∀t∈l,∃i:Nat,t=i/\ i<w.objs.length/\ bH (w.obj i)=true
 |[],_,_,t,h=>by cases h
 |k::l,met,hd,t,h=>by
  simp only[aZ,bVc]at hd;rcases bWe.1 h with rfl|h
  ·have h1:=hd.1.1.1;simp only[inR,bYb]at h1;obtain⟨j,rfl⟩:=bWq h1.1;exact⟨j,rfl,by omega,hd.1.1.2⟩
  ·exact aA2 w l _ hd.2 t h
theorem aDa {p:aQ}{w:aC}(h:gG p w=true):(∀t∈w.tasks,∃i:Nat,t=i/\ i<w.objs.length/\ bH (w.obj i)=true)/\ ∀i:Nat,i<w.objs.length->bH (w.obj i)=true->(i:Int)∈w.tasks:=by
 have ht:qZ w=true:=by
  simp only[gG,fY,bVc]at h;rw[zL];exact h.2.1.1.2
 simp only[qZ,bVc]at ht
 refine⟨aA2 w _ _ ht.1,fun i hi hk=>?_⟩
 have:=ht.2;simp only[xT,bVo]at this;have h2:=this i (by simpa using hi)
 rw[hk]at h2;simp only[bVq,Bool.or_false,bXk,bYb]at h2;obtain⟨x,hx,rfl⟩:=h2;exact hx
theorem zN {keep:List Int}{l:List aG}(h:Few l.length):Few (eK keep l).length:=by simpa[eK]using h
theorem aOv {keep:List Int}{o:aI}(h:o.few):(cU keep o).few:=by
 refine⟨zN h.1,by simpa[cU]using h.2.1,fun f hf=>?_⟩
 obtain⟨g,hg,rfl⟩:=bV4.1 hf;have:=h.2.2 g hg;exact⟨zN this.1,zN this.2⟩
theorem aDb {w:aC}{keep:List Int}(hw:w.few)(hsm:bB w=true)(hk:Few keep.length)(hin: ∀x∈keep,inR x 0 ((w.objs.length:Int)-1)=true):(bL w keep).few:=by
 refine⟨by simpa[bL]using hk,by simpa[bL]using hw.tasks,hw.outs,hw.ins,fun o ho=>?_⟩
 obtain⟨n,hn,rfl⟩:=bV4.1 ho;exact aOv (xR (kY hsm _ (aDs (hin n hn))))
end Go.Proofs.YthpmfghgoabnhaaGreat
namespace Go.Proofs.YthpmfghgoabnhaaGreat
open Go.Abs Go.Proofs
def bR (m:List Int)(i:Nat):Int:=m.getD i 0
theorem qF {m:List Int}{i:Nat}(h:i<m.length):bR m i=m[i]:=by simp[bR,bVm,h]
theorem tD {m:List Int}{i:Nat}(h:m.length<=i):bR m i=0:=by simp[bR,bVm,List.getElem?_eq_none h]
def gJ (m:List Int)(n:Nat)(seen:List Int):List Int:=(List.range m.length).map fun i=>if i=n then 2 else if bR m i=0/\ aB9 seen (i:Nat)=true then 1 else bR m i
theorem iE (m:List Int)(n:Nat)(seen:List Int):(gJ m n seen).length=m.length:=by simp[gJ]
theorem mK {m:List Int}{n:Nat}{seen:List Int}{i:Nat}(h:i<m.length):bR (gJ m n seen) i=if i=n then 2 else if bR m i=0/\ aB9 seen (i:Nat)=true then 1 else bR m i:=by
 rw[qF (by rw[iE];exact h)];simp[gJ]
theorem aU8 {m:List Int}{n:Nat}(h:n<m.length):m.set n 2=gJ m n []:=by
 apply bXq
 ·simp[gJ]
 ·intro i h1 h2;have hi:i<m.length:=by simpa using h1
  simp only[List.getElem_set,gJ,bXs,List.getElem_range,qF hi]
  by_cases hn:n=i
  ·simp[hn]
  ·have hn': ¬i=n:=fun e=>hn e.symm
   simp[hn,hn',aB9]
theorem aU9 {m:List Int}{n:Nat}{seen:List Int}{j:Nat}(hj:j<m.length)(h0:bR (gJ m n seen) j=0):(gJ m n seen).set j 1=gJ m n (seen++[(j:Int)]):=by
 rw[mK hj]at h0;apply bXq
 ·simp[gJ]
 ·intro i h1 h2;simp only[List.getElem_set,gJ,bXs,List.getElem_range,wT]
  by_cases hji:j=i
  ·subst hji
   by_cases hn:j=n
   ·rw[if_pos hn]at h0;cases h0
   ·rw[if_neg hn]at h0;have hm:bR m j=0:=by
     split at h0
     ·cases h0
     ·exact h0
    simp[hn,hm]
  ·have:decide ((j:Int)=(i:Int))=false:=by simp;omega
   simp only[this,Bool.or_false,if_neg hji]
theorem aOw {m:List Int}{n:Nat}{seen:List Int}{j:Nat}(hj:j<m.length)(h0: ¬bR (gJ m n seen) j=0):gJ m n (seen++[(j:Int)])=gJ m n seen:=by
 rw[mK hj]at h0;unfold gJ
 refine bWy fun i _=>?_
 rw[wT]
 by_cases hji:j=i
 ·subst hji
  by_cases hn:j=n
  ·simp[hn]
  ·rw[if_neg hn]at h0
   by_cases hm:bR m j=0
   ·by_cases hs:aB9 seen (j:Nat)=true
    ·simp[hs]
    ·rw[if_neg (fun h=>hs h.2)]at h0;exact absurd hm h0
   ·simp[hm]
 ·have:decide ((j:Int)=(i:Int))=false:=by simp;omega
  simp only[this,Bool.or_false]
def gK (w:aC)(m:List Int)(n:Nat):List Int:=gJ m n (dS (w.obj n))
def dX :List Int->Nat
 |[]=>0
 |x::l=>if x=1 then 0 else dX l+1
theorem nG : ∀m:List Int,dX m<=m.length/\ (∀i,i<dX m-> ¬bR m i=1)/\ (dX m<m.length->bR m (dX m)=1)
 |[]=>⟨bVe _,fun i h=>(by cases h),fun h=>(by cases h)⟩
 |x::l=>by
  obtain⟨h1,h2,h3⟩:=nG l
  by_cases hx:x=1
  ·simp[dX,hx,bR]
  ·simp only[dX,if_neg hx,bVu]
   refine⟨by omega,fun i hi=>?_,fun hl=>?_⟩
   ·cases i with
    |zero=>simpa[bR]using hx
    |succ i=>have:=h2 i (by omega);simpa[bR]using this
   ·have:=h3 (by omega);simpa[bR]using this
theorem aVa {m:List Int}{n:Nat}(hn:n<m.length)(h1:bR m n=1)(h2: ∀i,i<n-> ¬bR m i=1):dX m=n:=by
 obtain⟨a,b,c⟩:=nG m
 by_cases h:dX m<n
 ·exact absurd (c (by omega)) (h2 _ h)
 ·by_cases h':n<dX m
  ·exact absurd h1 (b _ h')
  ·omega
theorem aMl {m:List Int}(h2: ∀i,i<m.length-> ¬bR m i=1):dX m=m.length:=by
 obtain⟨a,b,c⟩:=nG m
 by_cases h:dX m<m.length
 ·exact absurd (c h) (h2 _ h)
 ·omega
def dY (w:aC):Nat->List Int->List Int
 |0,m=>m
 |k+1,m=>if dX m<m.length then dY w k (gK w m (dX m))else m
theorem aHz {w:aC}{m:List Int}(h: ¬dX m<m.length)(k:Nat):dY w k m=m:=by
 cases k with
 |zero=>rfl
 |succ k=>rw[dY,if_neg h]
theorem aFw (w:aC): ∀(k:Nat) (m:List Int),(dY w k m).length=m.length
 |0,m=>rfl
 |k+1,m=>by
  rw[dY];split
  ·rw[aFw w k,gK,iE]
  ·rfl
structure mR (w:aC) (m:List Int):Prop where
 len:m.length=w.objs.length
 range: ∀i,i<m.length->bR m i=0 \/bR m i=1 \/bR m i=2
 tasks: ∀i,i<w.objs.length->bH (w.obj i)=true-> ¬bR m i=0
 black: ∀i,i<w.objs.length->bR m i=2-> ∀x∈dS (w.obj i),¬bR m x.toNat=0
theorem aJw {m:List Int}{n:Nat}{seen:List Int}{i:Nat}(h: ¬bR m i=0): ¬bR (gJ m n seen) i=0:=by
 have hi:i<m.length:=by
  by_cases hl:i<m.length
  ·exact hl
  ·exact absurd (tD (by omega)) h
 rw[mK hi];split
 ·omega
 ·rw[if_neg (fun hh=>h hh.1)];exact h
theorem aFx {w:aC}{m:List Int}(hin:oY w)(h:mR w m)(n:Nat):mR w (gK w m n):=by
 refine⟨by rw[gK,iE];exact h.len,fun i hi=>?_,fun i hi ht=>aJw (h.tasks i hi ht),fun i hi hb x hx=>?_⟩
 ·rw[gK,iE]at hi;rw[gK,mK hi];split
  ·exact .inr (.inr rfl)
  ·split
   ·exact .inr (.inl rfl)
   ·exact h.range i hi
 ·have hg:w.obj i∈w.objs:=by rw[dT hi];exact bVp _
  have hxi:=hin _ hg x hx;simp only[inR,bYb]at hxi;obtain⟨j,rfl⟩:=bWq hxi.1;have hj:j<m.length:=by rw[h.len];omega
  rw[gK,mK (by rw[h.len];exact hi)]at hb
  rw[bV3]
  by_cases hin':i=n
  ·subst hin';rw[gK,mK hj];split
   ·omega
   ·split
    ·omega
    ·rename_i h2;intro h0;exact h2 ⟨h0,aYm.2 hx⟩
  ·rw[if_neg hin']at hb
   split at hb
   ·omega
   ·have:=h.black i hi hb _ hx;rw[bV3]at this;exact aJw this
theorem tE {w:aC}(hin:oY w): ∀(k:Nat) {m:List Int},mR w m->mR w (dY w k m)
 |0,m,h=>h
 |k+1,m,h=>by
  rw[dY];split
  ·exact tE hin k (aFx hin h _)
  ·exact h
def dL (m:List Int):Nat:=((List.range m.length).map fun i=>if bR m i=2 then 0 else 1).sum
theorem sL {m:List Int}{n:Nat}{seen:List Int}(hn:n<m.length)(h1:bR m n=1):dL (gJ m n seen)+1=dL m:=by
 have:=aFv (f:=fun i=>if bR (gJ m n seen) i=2 then 0 else 1) (g:=fun i=>if bR m i=2 then 0 else 1) m.length hn (fun i hi=>by
  by_cases hl:i<m.length
  ·rw[mK hl,if_neg hi]
   by_cases hc:bR m i=0/\ aB9 seen (i:Nat)=true
   ·rw[if_pos hc,hc.1];rfl
   ·rw[if_neg hc]
  ·rw[tD (m:=m) (by omega),tD (m:=gJ m n seen) (by rw[iE];omega)])
 have e1:bR (gJ m n seen) n=2:=by rw[mK hn,if_pos rfl]
 simp only[e1,h1,if_true]at this;rw[dL,dL,iE]
 simpa using this
end Go.Proofs.YthpmfghgoabnhaaGreat
namespace Go.Proofs.YthpmfghgoabnhaaGreat
open Go.Abs Go.Proofs
def mY (m:List Int)(k:Nat):List Int:=((List.range k).filter fun i=>decide (bR m i=0)).map fun(i:Nat)=>(i:Int)
def dU (m:List Int)(k:Nat):List Int:=((List.range k).filter fun i=>!decide (bR m i=0)).map fun(i:Nat)=>(i:Int)
def jF (s:aX)(m:List Int)(k:Nat):List Int:=((List.range k).filter fun i=>!decide (bR m i=0)).map fun(i:Nat)=>min (nX s i+1) 2
theorem bEk {m:List Int}{k:Nat}(h:bR m k=0):mY m (k+1)=mY m k++[(k:Int)]:=by
 rw[mY,bWr,bXv,bVx];simp[h,mY]
theorem bEl {m:List Int}{k:Nat}(h: ¬bR m k=0):mY m (k+1)=mY m k:=by
 rw[mY,bWr,bXv,bVx];simp[h,mY]
theorem bEm {m:List Int}{k:Nat}(h: ¬bR m k=0):dU m (k+1)=dU m k++[(k:Int)]:=by
 rw[dU,bWr,bXv,bVx];simp[h,dU]
theorem bEn {m:List Int}{k:Nat}(h:bR m k=0):dU m (k+1)=dU m k:=by
 rw[dU,bWr,bXv,bVx];simp[h,dU]
theorem bEo {s:aX}{m:List Int}{k:Nat}(h: ¬bR m k=0):jF s m (k+1)=jF s m k++[min (nX s k+1) 2]:=by
 rw[jF,bWr,bXv,bVx];simp[h,jF]
theorem bEp {s:aX}{m:List Int}{k:Nat}(h:bR m k=0):jF s m (k+1)=jF s m k:=by
 rw[jF,bWr,bXv,bVx];simp[h,jF]
theorem aYn (m:List Int)(k:Nat):(mY m k).length<=k:=by
 have:=List.length_filter_le (fun i=>decide (bR m i=0)) (List.range k)
 simpa[mY]using this
theorem zO (m:List Int)(k:Nat):(dU m k).length<=k:=by
 have:=List.length_filter_le (fun i=>!decide (bR m i=0)) (List.range k)
 simpa[dU]using this
theorem mZ (s:aX)(m:List Int)(k:Nat):(jF s m k).length=(dU m k).length:=by simp[jF,dU]
theorem aA3 {m:List Int}{k:Nat}{x:Int}:x∈dU m k↔ ∃i:Nat,x=i/\ i<k/\ ¬bR m i=0:=by
 simp only[dU,bV4,bW5,bW4,bWh,bYc];exact⟨fun⟨i,⟨h1,h2⟩,h3⟩=>⟨i,h3.symm,h1,h2⟩,fun⟨i,h3,h1,h2⟩=>⟨i,⟨h1,h2⟩,h3.symm⟩⟩
theorem aVb (m:List Int)(k:Nat):(dU m k).Pairwise (· < ·):=by
 unfold dU;rw[List.pairwise_map];exact(List.Pairwise.filter _ List.pairwise_lt_range).imp fun h=>by omega
theorem aYo {w:aC}{m:List Int}: ∀x∈dU m w.objs.length,inR x 0 ((w.objs.length:Int)-1)=true:=by
 intro x hx;obtain⟨i,rfl,hi,_⟩:=aA3.1 hx;simp only[inR,bYb];omega
theorem yM (keep:List Int)(l:List aG):dB (eK keep l)=(dB l).map fun x=>(keep.idxOf x:Int):=by
 induction l with
 |nil=>rfl
 |cons v l ih=>
  have hk:lQ (iB keep v)=lQ v:=rfl
  by_cases h:lQ v=true
  ·have e:eK keep (v::l)=iB keep v::eK keep l:=rfl;rw[e,xO (hk.trans h),xO h,ih];simp[iB,h]
  ·have h':lQ v=false:=by simpa using h
   have e:eK keep (v::l)=iB keep v::eK keep l:=rfl;rw[e,xP (hk.trans h'),xP h',ih]
theorem aOx (keep:List Int)(o:aI):dS (cU keep o)=(dS o).map fun x=>(keep.idxOf x:Int):=by
 have hf: ∀l:List aB,(l.map (lW keep)).flatMap dN=(l.flatMap dN).map fun x=>(keep.idxOf x:Int):=by
  intro l
  induction l with
  |nil=>rfl
  |cons f l ih=>
   simp only[bV9,bX0,bVx,ih]
   congr 1
   simp only[dN,lW,yM,bVx]
 simp only[dS,cU,yM,hf,bVx]
structure aMm (w:aC) (keep:List Int):Prop where
 rise:keep.Pairwise (· < ·)
 rng: ∀x∈keep,inR x 0 ((w.objs.length:Int)-1)=true
 refs: ∀n∈keep,∀x∈dS (w.obj n),x∈keep
 len:keep.length<=w.objs.length
theorem aOy {w:aC}{keep:List Int}(h:aMm w keep):oY (bL w keep):=by
 intro o ho x hx;obtain⟨n,hn,rfl⟩:=bV4.1 ho;rw[aOx]at hx;obtain⟨y,hy,rfl⟩:=bV4.1 hx;have:=List.idxOf_lt_length_of_mem (h.refs n hn y hy);simp only[inR,bYb,bL,bVk];omega
theorem aMn {keep:List Int}{o:aI}(h:cZ o=true):cZ (cU keep o)=true:=by
 simp only[cZ,bVc,bYb,bVo]at h⊢
 refine⟨⟨by simpa[cU,eK]using h.1.1,by simpa[cU]using h.1.2⟩,fun f hf=>?_⟩
 obtain⟨g,hg,rfl⟩:=bV4.1 hf;have:=h.2 g hg
 simpa[lW,eK]using this
theorem yN {w:aC}{keep:List Int}(hs:bB w=true)(h:aMm w keep):bB (bL w keep)=true:=by
 have hl:=h.len;have hso:=kY hs;simp only[bB,bVc,bYb,bVo]at hs⊢
 refine⟨⟨⟨⟨by simp only[bL,bVk];omega,by simpa[bL]using hs.1.1.1.2⟩,hs.1.1.2⟩,hs.1.2⟩,fun o ho=>?_⟩
 obtain⟨n,hn,rfl⟩:=bV4.1 ho;exact aMn (hso _ (aDs (h.rng n hn)))
theorem zP {w:aC}{m:List Int}(h:mR w m)(hin:oY w)(hg: ¬dX m<m.length):aMm w (dU m w.objs.length)/\ ∀t,(∃i:Nat,t=(i:Int)/\ i<w.objs.length/\ bH (w.obj i)=true)->t∈dU m w.objs.length:=by
 obtain⟨a,b,_⟩:=nG m
 refine⟨⟨aVb m _,aYo,fun n hn x hx=>?_,zO m _⟩,fun t ⟨i,h1,h2,h3⟩=>aA3.2 ⟨i,h1,h2,h.tasks i h2 h3⟩⟩
 obtain⟨i,rfl,hi,hm⟩:=aA3.1 hn;have h1: ¬bR m i=1:=b i (by have:=h.len;omega)
 have h2:bR m i=2:=by
  rcases h.range i (by rw[h.len];exact hi)with h|h|h
  ·exact absurd h hm
  ·exact absurd h h1
  ·exact h
 have hgm:w.obj i∈w.objs:=by rw[dT hi];exact bVp _
 have hxi:=hin _ hgm x hx;simp only[inR,bYb]at hxi;exact aA3.2 ⟨x.toNat,by omega,by omega,h.black i hi h2 x hx⟩
def mL (s:aX)(m:List Int):aX:=⟨bL s.world (dU m s.world.objs.length),jF s m s.world.objs.length,pR lt2 (bL s.world (dU m s.world.objs.length)) (jF s m s.world.objs.length) ((s.cycle+1).tmod 4),(s.cycle+1).tmod 4⟩
def dM (s:aX)(most:Nat):aX:=if dX (dY s.world most s.marks)<(dY s.world most s.marks).length then⟨s.world,s.ages,dY s.world most s.marks,s.cycle⟩else mL s (dY s.world most s.marks)
def aCa (s:aX)(most:Nat):List Int:=if dX (dY s.world most s.marks)<(dY s.world most s.marks).length then []else mY (dY s.world most s.marks) s.world.objs.length
def uJ (s:aX)(most:Nat):Bool:=!decide (dX (dY s.world most s.marks)<(dY s.world most s.marks).length)
theorem aFy {m:List Int}{i:Nat}(h:i<m.length):(m.map (Val.int .i64))[i]?=some (.int .i64 (bR m i)):=by simp[qF h,h]
theorem aMo {m:List Int}{i:Nat}{x:Int}:(m.map (Val.int .i64)).set i (.int .i64 x)=(m.set i x).map (.int .i64):=by rw[bW0]
theorem jZ.shape {en:En}{v:Val}{size:Nat}{xs:List Val}{t:Nat}(h:jZ en v size xs t):v.one=true/\ v.cells=[v]:=h.mine.shape
theorem jZ.keep {en en':En}{v:Val}{size:Nat}{xs:List Val}{t:Nat}(h:jZ en v size xs t)(k: ∀g,en' ⟨0,t,g⟩=en ⟨0,t,g⟩):jZ en' v size xs t:=by
 rcases h with h|⟨g,h1,h2⟩
 ·exact .inl h
 ·exact .inr ⟨g,h1,by rw[k];exact h2⟩
end Go.Proofs.YthpmfghgoabnhaaGreat
namespace Go.Proofs.YthpmfghgoabnhaaGreat
open Go.Abs Go.Proofs
def ne2 (a:Int):Bool:=!decide (a=2)
theorem bBm {α:Type}{a b:List α}(h: ∀x,x∈a↔x∈b)(p:α->Bool):a.any p=b.any p:=by
 rw[Bool.eq_iff_iff];simp only[bXk];exact⟨fun⟨x,hx,k⟩=>⟨x,(h x).1 hx,k⟩,fun⟨x,hx,k⟩=>⟨x,(h x).2 hx,k⟩⟩
theorem aOz {ages:List Int}(h: ∀a∈ages,inR a 0 2=true)(r:Int):inR (sK ages r) 0 2=true:=by
 unfold sK;rw[bVm];cases hg:ages[r.toNat]? with
 |none=>rfl
 |some a=>exact h a (List.mem_of_getElem? hg)
theorem aMp {w:aC}{ages:List Int}(h: ∀a∈ages,inR a 0 2=true)(c:Int)(i:Nat):eV ne2 w ages c i=eV lt2 w ages c i:=by
 have: ∀r,ne2 (sK ages r)=lt2 (sK ages r):=fun r=>by
  have:=aOz h r;simp only[inR,bYb]at this;rw[Bool.eq_iff_iff];simp[ne2,lt2];omega
 simp only[eV,this]
def uZ (ages:List Int)(done:List Int):Int:=if done.any (fun r=>ne2 (sK ages r))=true then 1 else 2
theorem aO0 (ages:List Int)(done:List Int)(x:Int):uZ ages (done++[x])=if ne2 (sK ages x)=true then 1 else uZ ages done:=by
 unfold uZ;rw[List.any_append];simp only[List.any_cons,List.any_nil,Bool.or_false]
 by_cases h:ne2 (sK ages x)=true
 ·simp[h]
 ·simp[h]
def OI (w:aC)(ages:List Int)(c:Int)(m:Nat->Int)(k g1 g2 g13 gk:Nat)(vA:Val)(all:List Int)(en0:En)(fr0:Nat->Val)(gl:Nat)(r:List Int)(en:En)(cnt:Nat->Nat->Nat):Prop:=
 en ⟨1,0,gl⟩=some (.loop fr0 [57] (cA.ops [o 4 (.mv (.t 57))]) (cA.block 4 (.seq (.ops [o 58 (.load false 1 (.t 1)),o 59 (.mv (.t 4)),o 60 (.call (.f 117) [(.t 58),(.t 59)]),o 61 (.un .not (.t 60))]) (.cond (.t 61) (.draw [o 62 (.load false 1 (.t 1)),o 63 (.nilck (.t 62)),o 64 (.fa 0 (.t 63)),o 65 (.fa 6 (.t 64)),o 66 (.load false 1 (.t 65)),o 67 (.load false 1 (.t 2)),o 68 (.ia 1 (.t 66) (.t 67)),on (.store 1 (.t 68) (.c (.int .i64 1)))] []) .skip))) .ready)/\ en ⟨0,1,g1⟩=some (.box [.ptr ⟨0,16,gk⟩ 0] false)/\ en ⟨0,2,g2⟩=some (.box [.int .i64 k] false)/\ en ⟨0,16,gk⟩=some (.box [.fz (w.objs.map aI.enc),.fz (w.tasks.map (.int .i64)),.fz (w.outs.map aO.enc),.fz (w.ins.map (.int .i64)),.int .i64 w.used,vA,.bl ⟨0,13,g13⟩ 0 w.objs.length,.int .i64 c] false)/\ cE en vA 1 (ages.map (.int .i64)) [120]/\ g2+1<=cnt 0 2/\ 1<=cnt 0 6/\ en ⟨0,6,0⟩=en0 ⟨0,6,0⟩/\
 (∀g,en ⟨0,103,g⟩=en0 ⟨0,103,g⟩)/\ ∃done,done++r=all/\ en ⟨0,13,g13⟩=some (.blk 1 (((cV m w.objs.length k).set k (uZ ages done)).map (.int .i64)) false)
theorem aO1 (w:aC)(ages:List Int)(c:Int)(m:Nat->Int)(k g1 g2 g13 gk:Nat)(vA:Val)(all:List Int)(en0:En){fr0:Nat->Val}{gl:Nat}{c0:Nat->Nat}(hk:k<w.objs.length)(hal:ages.length=w.objs.length)(q1:fr0 1= .ptr ⟨0,1,g1⟩ 0)(q2:fr0 2= .ptr ⟨0,2,g2⟩ 0)
  (hino: ∀x∈all,inR x 0 ((w.objs.length:Int)-1)=true) (hc2:g2+1<=c0 2) (hc6:1<=c0 6):zH ⟨1,0,gl⟩ c0 (OI w ages c m k g1 g2 g13 gk vA all en0 fr0 gl) (fun _ _=>False):=by
 refine⟨?_,?_⟩
 ·rintro r en cnt en' cnt' ⟨i1,j1,j2,j16,mA,hg2,hg6,e6,e103,done,hd,j13⟩ hout hcnt hge
  have h2:=hge 2 (by decide)
  have h6:=hge 6 (by decide)
  exact⟨(hout 1 0 gl (.inl (by omega))).trans i1,(hout 0 1 g1 (.inr (.inl (by decide)))).trans j1,(hout 0 2 g2 (.inr (.inr (by omega)))).trans j2,(hout 0 16 gk (.inr (.inl (by decide)))).trans j16,mA.keep fun t g ht=>hout 0 t g (.inr (.inl (by simp at ht;subst ht;decide))),by omega,by omega,(hout 0 6 0 (.inr (.inr (by omega)))).trans e6,fun g=>(hout 0 103 g (.inr (.inl (by decide)))).trans (e103 g),done,hd,(hout 0 13 g13 (.inr (.inl (by decide)))).trans j13⟩
 ·rintro x rest en cnt ⟨i1,j1,j2,j16,mA,hg2,hg6,e6,e103,done,hd,j13⟩
  have hxi:=hino x (by rw[<-hd];simp)
  have hxi':=hxi;simp only[inR,bYb]at hxi';obtain⟨j,rfl⟩:=bWq hxi'.1;have hj:j<ages.length:=by omega
  have hne:ages.map (Val.int .i64)≠[]:=by intro h;have:ages.length=0:=by{rw[<-bVk (f:=Val.int .i64),h];rfl};omega
  obtain⟨L1,hL1⟩: ∃L1,L1=(cV m w.objs.length k).set k (uZ ages done):=⟨_,rfl⟩
  rw[<-hL1]at j13;have hl1:L1.length=w.objs.length:=by rw[hL1];simp[pJ]
  obtain⟨ks,s1⟩:=bBi (mA.keep (en':=en.set ⟨1,0,gl⟩ (some (.loop fr0 [57] (cA.ops [o 4 (.mv (.t 57))]) (cA.block 4 (.seq (.ops [o 58 (.load false 1 (.t 1)),o 59 (.mv (.t 4)),o 60 (.call (.f 117) [(.t 58),(.t 59)]),o 61 (.un .not (.t 60))]) (.cond (.t 61) (.draw [o 62 (.load false 1 (.t 1)),o 63 (.nilck (.t 62)),o 64 (.fa 0 (.t 63)),o 65 (.fa 6 (.t 64)),o 66 (.load false 1 (.t 65)),o 67 (.load false 1 (.t 2)),o 68 (.ia 1 (.t 66) (.t 67)),on (.store 1 (.t 68) (.c (.int .i64 1)))] []) .skip))) .busy))) fun t g ht=>by simp at ht;subst ht;exact dZ (by intro he;injection he with h1 _ _;omega)) hne 6
  have htk:(L1.map (Val.int .i64)).take w.objs.length=L1.map (.int .i64):=bVw (by simp[hl1])
  have hold:PC L 117 [.fp [.fz (w.objs.map aI.enc),.fz (w.tasks.map (.int .i64)),.fz (w.outs.map aO.enc),.fz (w.ins.map (.int .i64)),.int .i64 w.used,.fz (ages.map (.int .i64)),.fz (L1.map (.int .i64)),.int .i64 c] 0,.int .i64 j] (.bool (decide (ages[j]=2))):=wO ⟨w,ages,L1,c⟩ j hj;have hc1:(0:Int)<=(k:Int):=by omega
  have hc2':(k:Int)<(w.objs.length:Int):=by omega
  have hgk:(L1.map (Val.int .i64))[k]?=some (.int .i64 (uZ ages done)):=by rw[hL1];simp[pJ,hk]
  have hps:=aO0 ages done (j:Int);have han:sK ages (j:Int)=ages[j]:=aAz hj
  refine aDq (fr:=fr0) (ps:=[57]) (a:=(cA.ops [o 4 (.mv (.t 57))])) (b:=(cA.block 4 (.seq (.ops [o 58 (.load false 1 (.t 1)),o 59 (.mv (.t 4)),o 60 (.call (.f 117) [(.t 58),(.t 59)]),o 61 (.un .not (.t 60))]) (.cond (.t 61) (.draw [o 62 (.load false 1 (.t 1)),o 63 (.nilck (.t 62)),o 64 (.fa 0 (.t 63)),o 65 (.fa 6 (.t 64)),o 66 (.load false 1 (.t 65)),o 67 (.load false 1 (.t 2)),o 68 (.ia 1 (.t 66) (.t 67)),on (.store 1 (.t 68) (.c (.int .i64 1)))] []) .skip)))) i1 rfl ?_
  simp only[go_sem,qC,qG,qW,q1,q2,i1,j1,j2,j16,j13,s1,hl1,htk,hold.ret,bVe,if_true,bVk]
  refine aA (fun hb=>?_) (fun hb=>?_)
  ·have hyn:ne2 (sK ages (j:Int))=true:=by rw[han];exact hb
   rw[if_pos hyn]at hps;have hst:(L1.map (Val.int .i64)).set k (.int .i64 1)=((cV m w.objs.length k).set k (uZ ages (done++[(j:Int)]))).map (.int .i64):=by rw[hps,hL1,<-bW0,List.set_set]
   simp only[go_sem,qC,qG,qW,q1,q2,i1,j1,j2,j16,j13,hl1,hgk,hst,hc1,hc2',true_and,and_true,eq_self,if_true,bWb,bV3,bVk,bVe]
   refine⟨fun t g ht hg=>?_,fun _ _=>trivial,.inl ⟨?_,?_,?_,?_,?_,hg2,hg6,?_,?_,done++[(j:Int)],by rw[<-hd];simp,?_⟩⟩
   ·have n1:(⟨0,t,g⟩:Key)≠⟨1,0,gl⟩:=by intro he;injection he with h1 _ _;omega
    have n2:(⟨0,t,g⟩:Key)≠⟨0,13,g13⟩:=by intro he;injection he with _ h2 h3;subst h2;simp[T4]at ht
    rw[dZ n1,dZ n2,dZ n1]
   ·try simp only[go_sem,qW]
    try rfl
   ·simp only[go_sem,qW,j1]
   ·simp only[go_sem,qW,j2]
   ·simp only[go_sem,qW,j16]
   ·exact mA.keep fun t g ht=>by simp at ht;subst ht;simp only[go_sem,qW];try rfl
   ·simp only[go_sem,qW,e6]
   ·intro g;simp only[go_sem,qW,e103]
   ·simp only[go_sem,qW]
  ·have hyn: ¬ne2 (sK ages (j:Int))=true:=by rw[han];intro h;rw[ne2]at h;rw[h]at hb;cases hb
   rw[if_neg hyn]at hps;simp only[go_sem,qC,qG,qW,q1,q2,i1,j1,j2,j16,j13]
   refine⟨fun t g ht hg=>?_,fun _ _=>trivial,.inl ⟨?_,?_,?_,?_,?_,hg2,hg6,?_,?_,done++[(j:Int)],by rw[<-hd];simp,?_⟩⟩
   ·have n1:(⟨0,t,g⟩:Key)≠⟨1,0,gl⟩:=by intro he;injection he with h1 _ _;omega
    rw[dZ n1,dZ n1]
   ·try simp only[go_sem,qW]
    try rfl
   ·simp only[go_sem,qW,j1]
   ·simp only[go_sem,qW,j2]
   ·simp only[go_sem,qW,j16]
   ·exact mA.keep fun t g ht=>by simp at ht;subst ht;simp only[go_sem,qW];try rfl
   ·simp only[go_sem,qW,e6]
   ·intro g;simp only[go_sem,qW,e103]
   ·rw[hps,<-hL1];simp only[go_sem,qW,j13]
theorem aYp {en:En}{v:Val}{size t:Nat}{xs:List Val}(h:cE en v size xs [t])(hx:xs≠[])(n:Nat): ∃ks,∀en':En,(∀g,en' ⟨0,t,g⟩=en ⟨0,t,g⟩)->snapD (n+1) en' v=some (.fz xs,ks):=by
 rcases h with⟨_,h⟩|⟨t',g,f,rfl,h2,ht⟩
 ·exact absurd h hx
 ·have:t'=t:=by simpa using ht
  subst this;exact⟨[⟨0,t',g⟩],fun en' he=>by simp[snapD,he,h2]⟩
theorem aH0 (w:aC)(ages:List Int)(c:Int)(hw:w.few)(hs:bB w=true)(hal:ages.length=w.objs.length)(har: ∀a∈ages,inR a 0 2=true)(hin:oY w){en:En}{cnt:Nat->Nat->Nat}{gk:Nat}{vA vM:Val}
  (e16:en ⟨0,16,gk⟩=some (.box [.fz (w.objs.map aI.enc),.fz (w.tasks.map (.int .i64)),.fz (w.outs.map aO.enc),.fz (w.ins.map (.int .i64)),.int .i64 w.used,vA,vM,.int .i64 c] false)) (mA:cE en vA 1 (ages.map (.int .i64)) [120]) (c6:1<=cnt 0 6):
  WIn L (.fn 76 [] []) [.ptr ⟨0,16,gk⟩ 0] en cnt fun _ en' cnt'=> ∃g13,en' ⟨0,16,gk⟩=some (.box [.fz (w.objs.map aI.enc),.fz (w.tasks.map (.int .i64)),.fz (w.outs.map aO.enc),.fz (w.ins.map (.int .i64)),.int .i64 w.used,vA,.bl ⟨0,13,g13⟩ 0 w.objs.length,.int .i64 c] false)/\ cE en' vA 1 (ages.map (.int .i64)) [120]/\ en' ⟨0,13,g13⟩=some (.blk 1 ((pR lt2 w ages c).map (.int .i64)) false)/\ en' ⟨0,6,0⟩=en ⟨0,6,0⟩/\ ∀g,en' ⟨0,103,g⟩=en ⟨0,103,g⟩:=by
 obtain⟨b1,b2,b3,b4⟩:=oT hs;have hmk:w.objs.length<=16777216:=by omega
 obtain⟨en0,hen0⟩: ∃e,e=en:=⟨_,rfl⟩
 obtain⟨g1,hg1⟩: ∃g,g=cnt 0 1:=⟨_,rfl⟩
 obtain⟨g13,hg13⟩: ∃g,g=cnt 0 13:=⟨_,rfl⟩
 have hmb:pR lt2 w ages c=(List.range w.objs.length).map (eV ne2 w ages c):=bWy fun i _=>(aMp har c i).symm
 rw[hmb]
 refine mX bSz rfl rfl ?_
 simp only[go_sem,qC,qG,qW,bAw,iX (v:= .ptr ⟨0,16,gk⟩ 0) rfl rfl,<-hg1]
 refine aN ?_
 simp only[go_sem,qC,qG,qW,bVf,bVg,bVh,bVj,bVi,bV0,aN4 hmk,<-hg1,<-hg13,e16,dA,bO];have hmz:=aJo (eV ne2 w ages c) w.objs.length
 refine bF w.objs.length (fun k st=> ∃fr en cnt,st=⟨fr,en,cnt⟩/\ fr 1= .ptr ⟨0,1,g1⟩ 0/\ en ⟨0,1,g1⟩=some (.box [.ptr ⟨0,16,gk⟩ 0] false)/\ en ⟨0,16,gk⟩=some (.box [.fz (w.objs.map aI.enc),.fz (w.tasks.map (.int .i64)),.fz (w.outs.map aO.enc),.fz (w.ins.map (.int .i64)),.int .i64 w.used,vA,.bl ⟨0,13,g13⟩ 0 w.objs.length,.int .i64 c] false)/\ en ⟨0,13,g13⟩=some (.blk 1 ((cV (eV ne2 w ages c) w.objs.length k).map (.int .i64)) false)/\ fr 22= .fz (w.objs.map aI.enc)/\ fr 23= .int .i64 w.objs.length/\ fr 24= .int .i64 k/\ cE en vA 1 (ages.map (.int .i64)) [120]/\ 1<=cnt 0 6/\ en ⟨0,6,0⟩=en0 ⟨0,6,0⟩/\ ∀g,en ⟨0,103,g⟩=en0 ⟨0,103,g⟩) 0 (bVn _)
  ⟨_,_,_,rfl,by simp only[go_sem,qW],by simp only[go_sem,qW],by simp only[go_sem,qW],by rw[hmz];simp only[go_sem,qW],by simp only[go_sem,qW],by simp only[go_sem,qW],by simp only[go_sem,qW],mA.keep (fun t g ht=>by simp at ht;subst ht;simp only[go_sem,qW]),by simp only[go_sem,qW];try exact c6,by simp only[go_sem,hen0],by intro g;simp only[go_sem,qW,hen0]⟩ ?_
 clear mA e16 c6
 rintro k st hk ⟨fr,en,cnt,rfl,h1,e1,e16,e13,h22,h23,h24,mA,c6,q6,q103⟩
 simp only[go_sem,qC,qG,qW,h1,e1,e16,h22,h23,h24]
 refine aA (fun hq=>?_) (fun hq=>?_)
 ·have h':k<w.objs.length:=of_decide_eq_true hq;have hka:k<ages.length:=by omega
  obtain⟨g2,hg2⟩: ∃g,g=cnt 0 2:=⟨_,rfl⟩
  obtain⟨g3,hg3⟩: ∃g,g=cnt 0 3:=⟨_,rfl⟩
  have hmg:=aMd (m:=eV ne2 w ages c) h';have hml:=pJ (eV ne2 w ages c) w.objs.length k;have hc1:(0:Int)<=(k:Int):=by omega
  have hc2:(k:Int)<(w.objs.length:Int):=by omega
  have hne:ages.map (Val.int .i64)≠[]:=by intro h;have:ages.length=0:=by{rw[<-bVk (f:=Val.int .i64),h];rfl};omega
  obtain⟨ks,s1⟩:=aYp mA hne 6;have htk:((cV (eV ne2 w ages c) w.objs.length k).map (Val.int .i64)).take w.objs.length=(cV (eV ne2 w ages c) w.objs.length k).map (.int .i64):=bVw (by simp[pJ])
  have hfull:PC L 116 [.fp [.fz (w.objs.map aI.enc),.fz (w.tasks.map (.int .i64)),.fz (w.outs.map aO.enc),.fz (w.ins.map (.int .i64)),.int .i64 w.used,.fz (ages.map (.int .i64)),.fz ((cV (eV ne2 w ages c) w.objs.length k).map (.int .i64)),.int .i64 c] 0] (.bool (decide (c=3))):=aAy ⟨w,ages,cV (eV ne2 w ages c) w.objs.length k,c⟩;have hold:PC L 117 [.fp [.fz (w.objs.map aI.enc),.fz (w.tasks.map (.int .i64)),.fz (w.outs.map aO.enc),.fz (w.ins.map (.int .i64)),.int .i64 w.used,.fz (ages.map (.int .i64)),.fz ((cV (eV ne2 w ages c) w.objs.length k).map (.int .i64)),.int .i64 c] 0,.int .i64 k] (.bool (decide (ages[k]=2))):=wO ⟨w,ages,cV (eV ne2 w ages c) w.objs.length k,c⟩ k hka;simp only[go_sem,qC,qG,qW,h',h1,e1,e16,h22,h23,h24,<-hg2,<-hg3,(wN _).ret]
  refine aA (fun hT=>?_) (fun hT=>?_)
  ·have hmm:eV ne2 w ages c k=1:=by rw[eV,dT h',if_pos hT]
   have hset:((cV (eV ne2 w ages c) w.objs.length k).map (Val.int .i64)).set k (.int .i64 1)=(cV (eV ne2 w ages c) w.objs.length (k+1)).map (.int .i64):=by rw[<-aC9,hmm]
   simp only[go_sem,qC,qG,qW,h',h1,e1,e16,e13,h22,h23,h24,hc1,hc2,hmg,hml,true_and,and_true,eq_self,if_true,bWb,bV3,bVk,bVe]
   refine⟨_,_,_,rfl,?_⟩
   simp only[go_sem,qC,qG,qW,h',h1,e1,e16,e13,h22,h23,h24,hset,aK h' hw.objs];exact⟨mA.keep (fun t g ht=>by simp at ht;subst ht;simp only[go_sem,qW]),c6,q6,q103⟩
  ·have hnt: ¬bH (w.obj k)=true:=by rw[dT h',hT];decide
   have skip:eV ne2 w ages c k=0->cV (eV ne2 w ages c) w.objs.length (k+1)=cV (eV ne2 w ages c) w.objs.length k:=aJp;simp only[go_sem,qC,qG,qW,h',h1,e1,e16,e13,h22,h23,h24,s1,htk,implies_true,bVk,hml,bVe,if_true,hfull.ret]
   refine aE (fun gf=>?_) (fun gf=>?_)
   ·simp only[go_sem,qC,qG,qW,gf,h',h1,e1,e16,e13,h22,h23,h24,s1,htk,implies_true,bVk,hml,bVe,if_true,hold.ret]
    refine aA (fun go=>?_) (fun go=>?_)
    ·have hp0:uZ ages []=2:=rfl;have hset2:((cV (eV ne2 w ages c) w.objs.length k).map (Val.int .i64)).set k (.int .i64 2)=((cV (eV ne2 w ages c) w.objs.length k).set k (uZ ages [])).map (.int .i64):=by rw[hp0,bW0]
     simp only[go_sem,qC,qG,qW,h',h1,e1,e16,e13,h22,h23,h24,hc1,hc2,hmg,hml,hset2,true_and,and_true,eq_self,if_true,bWb,bV3,bVk,bVe,(uA _).ret]
     refine aAi (f:=107) (x:=[]) (y:=[.fp [.int .i64 w.objs[k].form,.int .i64 w.objs[k].n,.fz (w.objs[k].vals.map aG.enc),.fz (w.objs[k].frames.map aB.enc)] 0]) (by simp only[go_sem,qW]) ?_
     intro fr0 key hfr0 hkey;have r1:fr0 1= .ptr ⟨0,1,g1⟩ 0:=by rw[hfr0];simp only[go_sem,qW,h1]
     have r2:fr0 2= .ptr ⟨0,2,g2⟩ 0:=by rw[hfr0];simp only[go_sem,qW]
     have r22:fr0 22= .fz (w.objs.map aI.enc):=by rw[hfr0];simp only[go_sem,qW,h22]
     have r23:fr0 23= .int .i64 w.objs.length:=by rw[hfr0];simp only[go_sem,qW,h23]
     have r24:fr0 24= .int .i64 k:=by rw[hfr0];simp only[go_sem,qW,h24]
     obtain⟨gl,rfl⟩: ∃gl,key=⟨1,0,gl⟩:=⟨_,hkey⟩
     obtain⟨c0,hc0⟩: ∃c0,c0=aP (aP (aP cnt 0 2 (g2+1)) 0 3 (g3+1)) 1 0 (cnt 1 0+1) 0:=⟨_,rfl⟩
     have hcc2:g2+1<=c0 2:=by rw[hc0];simp[aP]
     have hcc6:1<=c0 6:=by rw[hc0];simpa[aP]using c6
     have hso:=kY hs _ (bVp h');have hr:=aO1 w ages c (eV ne2 w ages c) k g1 g2 g13 gk vA (dS w.objs[k]) en0 (fr0:=fr0) (gl:=gl) (c0:=c0) h' hal r1 r2 (hin _ (bVp h')) hcc2 hcc6;rw[hc0]at hr;have hfin:uZ ages (dS w.objs[k])=eV ne2 w ages c k:=by
      rw[eV,if_neg hnt,if_pos (by rw[aAz hka,go,gf];rfl),dT h',uZ,bBm (mJ w.objs[k])]
     have hsetf:(cV (eV ne2 w ages c) w.objs.length k).set k (uZ ages (dS w.objs[k]))=cV (eV ne2 w ages c) w.objs.length (k+1):=by
      rw[hfin];have h:=aC9 (m:=eV ne2 w ages c) (n:=w.objs.length) (k:=k);rw[<-bW0]at h;apply bXq
      ·simp[pJ]
      ·intro i h1 h2;have hh:=congrArg (fun l=>l[i]?) h
       simp only[bXn,bWo h1,bWo h2,bV8,bVb,Val.int.injEq,true_and]at hh;exact hh
     refine(aFi w.objs[k] (xR hso) hr ⟨by simp only[go_sem,qW],by simp only[go_sem,e1],by simp only[go_sem,qW],by simp only[go_sem,e16],mA.keep (fun t g ht=>by simp at ht;subst ht;simp only[go_sem,qW]),by simp[aP],by simpa[aP]using c6,by simp only[go_sem,q6],by intro g;simp only[go_sem,qW,q103],[],rfl,by simp only[go_sem,qW]⟩).mono ?_
     rintro v en' cnt' (⟨i1,j1,j2,j16,mA',hg2',hg6,e6,e103,done,hd,j13⟩|hF)
     ·rw[bWw]at hd;subst hd;rw[hsetf]at j13;simp only[go_sem,qC,qG,qW,i1,j1,j2,j16,r1,r2,r22,r23,r24,h1,h22,h23,h24]
      refine⟨_,_,_,rfl,?_⟩
      simp only[go_sem,qC,qG,qW,j1,j2,j16,j13,r1,r2,r22,r23,r24,h',h1,h22,h23,h24,aK h' hw.objs];exact⟨mA'.keep (fun t g ht=>by simp at ht;subst ht;exact dZ (by intro he;injection he with h1 _ _;omega)),hg6,by simp only[go_sem,e6],by intro g;simp only[go_sem,qW,e103]⟩
     ·exact hF.elim
    ·rw[skip (by rw[eV,if_neg hnt,if_neg (by rw[aAz hka,go,bWn];decide)])]
     simp only[go_sem,qC,qG,qW,h',h1,e1,e16,e13,h22,h23,h24]
     refine⟨_,_,_,rfl,?_⟩
     simp only[go_sem,qC,qG,qW,h',h1,e1,e16,e13,h22,h23,h24,aK h' hw.objs];exact⟨mA.keep (fun t g ht=>by simp at ht;subst ht;simp only[go_sem,qW]),c6,q6,q103⟩
   ·rw[skip (by rw[eV,if_neg hnt,if_neg (by rw[gf];simp)])]
    simp only[go_sem,qC,qG,qW,gf,h',h1,e1,e16,e13,h22,h23,h24,bVq]
    refine⟨_,_,_,rfl,?_⟩
    simp only[go_sem,qC,qG,qW,h',h1,e1,e16,e13,h22,h23,h24,aK h' hw.objs];exact⟨mA.keep (fun t g ht=>by simp at ht;subst ht;simp only[go_sem,qW]),c6,q6,q103⟩
 ·have:k=w.objs.length:=by simp at hq;omega
  subst this;rw[aJq]at e13;simp only[go_sem,qC,qG,qW];exact⟨g13,e16,mA,e13,by rw[q6,hen0],fun g=>by rw[q103,hen0]⟩
end Go.Proofs.YthpmfghgoabnhaaGreat
namespace Go.Proofs.YthpmfghgoabnhaaGreat
open Go.Abs Go.Proofs
theorem aYq (s:aX)(hs:s.few)(hsm:bI s=true){en:En}{cnt:Nat->Nat->Nat}:
  WIn L (.fn 81 [] []) [.agg [.fz (s.world.objs.map aI.enc),.fz (s.world.tasks.map (.int .i64)),.fz (s.world.outs.map aO.enc),.fz (s.world.ins.map (.int .i64)),.int .i64 s.world.used,.fz (s.ages.map (.int .i64)),.fz (s.marks.map (.int .i64)),.int .i64 s.cycle]] en cnt fun v en' cnt'=> ∃g16 vA vM,v= .ptr ⟨0,16,g16⟩ 0/\ en' ⟨0,16,g16⟩=some (.box [.fz (s.world.objs.map aI.enc),.fz (s.world.tasks.map (.int .i64)),.fz (s.world.outs.map aO.enc),.fz (s.world.ins.map (.int .i64)),.int .i64 s.world.used,vA,vM,.int .i64 s.cycle] false)/\
   jZ en' vA 1 (s.ages.map (.int .i64)) 8/\ jZ en' vM 1 (s.marks.map (.int .i64)) 11/\ (∀t g,¬t=1-> ¬t=8-> ¬t=11-> ¬t=16->en' ⟨0,t,g⟩=en ⟨0,t,g⟩)/\ (∀t,¬t=1-> ¬t=8-> ¬t=11-> ¬t=16->cnt' 0 t=cnt 0 t)/\ ∀g,vA= .bl ⟨0,8,g⟩ 0 s.ages.length->g<cnt' 0 8:=by
 have hsw:bB s.world=true/\ (s.ages.length:Int)<=130/\ (s.marks.length:Int)<=130:=by
  simp only[bI,bVc,bYb]at hsm;exact⟨hsm.1.1,hsm.1.2,hsm.2⟩
 have c1:=jS (s.ages.map (.int .i64)) (kZ _) (by simp;omega)
 have c2:=jS (s.marks.map (.int .i64)) (kZ _) (by simp;omega)
 obtain⟨g1,hg1⟩: ∃g,g=cnt 0 1:=⟨_,rfl⟩
 obtain⟨g8,hg8⟩: ∃g,g=cnt 0 8:=⟨_,rfl⟩
 obtain⟨g11,hg11⟩: ∃g,g=cnt 0 11:=⟨_,rfl⟩
 obtain⟨g16,hg16⟩: ∃g,g=cnt 0 16:=⟨_,rfl⟩
 refine mX bHc rfl rfl ?_
 simp only[go_sem,qC,qG,qW,aXm,<-hg1]
 refine aN ?_
 rcases iK 1 (s.ages.map (Val.int .i64))with⟨t1,t2⟩|⟨t1,t2⟩<;>rw[t2]at c1<;>
 rcases iK 1 (s.marks.map (Val.int .i64))with⟨o1,o2⟩|⟨o1,o2⟩<;>rw[o2]at c2
 all_goals simp only[go_sem,qC,qG,qW,bVf,bVg,bVh,bVj,bVi,bVd,if_false,bV0,(rB s.world hs.1 hsw.1).ret,c1.ret,c2.ret,<-hg8,<-hg11,<-hg16,bVk,cX,bP,dA,bO]
 all_goals refine⟨g16,_,_,rfl,aPx,?_,?_,?_,?_,?_⟩
 all_goals first
  |exact .inl ⟨rfl,by assumption⟩
  |exact nY (by simp only[go_sem,qW];try rfl) (by simp only[bVk])
  |(intro t g n1 n2 n3 n4;simp only[go_sem,qW,n1,n2,n3,n4])
  |(intro t n1 n2 n3 n4;simp only[go_sem,qW,n1,n2,n3,n4];done)
  |(intro g hg;cases hg;done)
  |(intro g hg;injection hg with h3 _ _;injection h3 with _ _ h6;subst h6;first|omega|(simp[aP];done)|(simp[aP];omega))
def LI (s:aX)(m:List Int)(n g2 g8 gM gk:Nat)(vA:Val)(all:List Int)(en0:En)(fr0:Nat->Val)(gl:Nat)(r:List Int)(en:En)(cnt:Nat->Nat->Nat):Prop:=
 en ⟨1,0,gl⟩=some (.loop fr0 [58] (cA.ops [o 9 (.mv (.t 58))]) (cA.block 3 (.seq (.ops [o 59 (.load false 1 (.t 2)),o 60 (.nilck (.t 59)),o 61 (.fa 0 (.t 60)),o 62 (.fa 6 (.t 61)),o 63 (.load false 1 (.t 62)),o 64 (.mv (.t 9)),o 65 (.ia 1 (.t 63) (.t 64)),o 66 (.load false 1 (.t 65)),o 67 (.bin .eql .num (.t 66) (.c (.int .i64 0)))]) (.cond (.t 67) (.seq (.ops [o 68 (.load false 1 (.t 2)),o 69 (.nilck (.t 68)),o 70 (.fa 0 (.t 69)),o 71 (.fa 6 (.t 70)),o 72 (.load false 1 (.t 71)),o 73 (.mv (.t 9)),o 74 (.ia 1 (.t 72) (.t 73)),on (.store 1 (.t 74) (.c (.int .i64 1)))]) (.ops [o 75 (.load false 1 (.t 8)),o 76 (.mv (.t 9)),o 77 (.minmax false [(.t 75),(.t 76)]),on (.store 1 (.t 8) (.t 77))])) .skip))) .ready)/\ en ⟨0,2,g2⟩=some (.box [.ptr ⟨0,16,gk⟩ 0] false)/\ en ⟨0,16,gk⟩=some (.box [.fz (s.world.objs.map aI.enc),.fz (s.world.tasks.map (.int .i64)),.fz (s.world.outs.map aO.enc),.fz (s.world.ins.map (.int .i64)),.int .i64 s.world.used,vA,.bl ⟨0,11,gM⟩ 0 m.length,.int .i64 s.cycle] false)/\ jZ en vA 1 (s.ages.map (.int .i64)) 8/\ g2+1<=cnt 0 2/\ 1<=cnt 0 6/\ g8+1<=cnt 0 8/\ en ⟨0,6,0⟩=en0 ⟨0,6,0⟩/\
 ∃done,done++r=all/\ en ⟨0,11,gM⟩=some (.blk 1 ((gJ m n done).map (.int .i64)) false)/\ ∃nx:Nat,en ⟨0,8,g8⟩=some (.box [.int .i64 nx] false)/\ nx<=n+1/\ ∀i,i<nx-> ¬bR (gJ m n done) i=1
theorem aMq (s:aX)(m:List Int)(n g2 g8 gM gk:Nat)(vA:Val)(all:List Int)(en0:En){fr0:Nat->Val}{gl:Nat}{c0:Nat->Nat}(hn:n<m.length)(hml:m.length<=1000)(q2:fr0 2= .ptr ⟨0,2,g2⟩ 0)(q8:fr0 8= .ptr ⟨0,8,g8⟩ 0)
  (hA8: ∀g,vA= .bl ⟨0,8,g⟩ 0 s.ages.length->g<g8)
  (hino: ∀x∈all,inR x 0 ((m.length:Int)-1)=true) (hc2:g2+1<=c0 2) (hc6:1<=c0 6):zH ⟨1,0,gl⟩ c0 (LI s m n g2 g8 gM gk vA all en0 fr0 gl) (fun _ _=>False):=by
 refine⟨?_,?_⟩
 ·rintro r en cnt en' cnt' ⟨i1,j2,j16,mA,hg2,hg6,hg8,e6,done,hd,j11,nx,j8,hnx,hgr⟩ hout hcnt hge
  have h2:=hge 2 (by decide)
  have h6:=hge 6 (by decide)
  exact⟨(hout 1 0 gl (.inl (by omega))).trans i1,(hout 0 2 g2 (.inr (.inr (by omega)))).trans j2,(hout 0 16 gk (.inr (.inl (by decide)))).trans j16,mA.keep fun g=>hout 0 8 g (.inr (.inl (by decide))),by omega,by omega,by rw[hcnt 0 8 (by decide)];exact hg8,(hout 0 6 0 (.inr (.inr (by omega)))).trans e6,done,hd,(hout 0 11 gM (.inr (.inl (by decide)))).trans j11,nx,(hout 0 8 g8 (.inr (.inl (by decide)))).trans j8,hnx,hgr⟩
 ·rintro x rest en cnt ⟨i1,j2,j16,mA,hg2,hg6,hg8,e6,done,hd,j11,nx,j8,hnx,hgr⟩
  have hxi:=hino x (by rw[<-hd];simp)
  simp only[inR,bYb]at hxi;obtain⟨j,rfl⟩:=bWq hxi.1;have hj:j<m.length:=by omega
  have hjl:j<(gJ m n done).length:=by rw[iE];exact hj
  have hc1:(0:Int)<=(j:Int):=by omega
  have hc2':(j:Int)<(m.length:Int):=by omega
  have hgj:=aFy hjl
  refine aDq (fr:=fr0) (ps:=[58]) (a:=(cA.ops [o 9 (.mv (.t 58))])) (b:=(cA.block 3 (.seq (.ops [o 59 (.load false 1 (.t 2)),o 60 (.nilck (.t 59)),o 61 (.fa 0 (.t 60)),o 62 (.fa 6 (.t 61)),o 63 (.load false 1 (.t 62)),o 64 (.mv (.t 9)),o 65 (.ia 1 (.t 63) (.t 64)),o 66 (.load false 1 (.t 65)),o 67 (.bin .eql .num (.t 66) (.c (.int .i64 0)))]) (.cond (.t 67) (.seq (.ops [o 68 (.load false 1 (.t 2)),o 69 (.nilck (.t 68)),o 70 (.fa 0 (.t 69)),o 71 (.fa 6 (.t 70)),o 72 (.load false 1 (.t 71)),o 73 (.mv (.t 9)),o 74 (.ia 1 (.t 72) (.t 73)),on (.store 1 (.t 74) (.c (.int .i64 1)))]) (.ops [o 75 (.load false 1 (.t 8)),o 76 (.mv (.t 9)),o 77 (.minmax false [(.t 75),(.t 76)]),on (.store 1 (.t 8) (.t 77))])) .skip)))) i1 rfl ?_
  simp only[go_sem,qC,qG,qW,q2,q8,i1,j2,j16,j11,iE,hgj,hc1,hc2',true_and,and_true,eq_self,if_true,bWb,bV3,bVk,bVe]
  refine aA (fun hb=>?_) (fun hb=>?_)
  ·have h0:bR (gJ m n done) j=0:=of_decide_eq_true hb;have hst:((gJ m n done).map (Val.int .i64)).set j (.int .i64 1)=(gJ m n (done++[(j:Int)])).map (.int .i64):=by rw[aMo,aU9 hj h0]
   have hmin:(min (nx:Int) (j:Int))=((min nx j:Nat):Int):=by omega
   simp only[go_sem,qC,qG,qW,q2,q8,i1,j2,j16,j11,j8,iE,hgj,hst,hc1,hc2',true_and,and_true,eq_self,if_true,bWb,bV3,bVk,bVe,hmin]
   refine⟨fun t g ht hg=>?_,fun _ _=>trivial,.inl ⟨?_,?_,?_,?_,hg2,hg6,hg8,?_,done++[(j:Int)],by rw[<-hd];simp,?_,min nx j,?_,by omega,fun i hi=>?_⟩⟩
   ·have n1:(⟨0,t,g⟩:Key)≠⟨1,0,gl⟩:=by intro he;injection he with h1 _ _;omega
    have n2:(⟨0,t,g⟩:Key)≠⟨0,11,gM⟩:=by intro he;injection he with _ h2 h3;subst h2;simp[T4]at ht
    have n3:(⟨0,t,g⟩:Key)≠⟨0,8,g8⟩:=by intro he;injection he with _ h2 h3;subst h2;simp[T4]at ht
    rw[dZ n1,dZ n3,dZ n2,dZ n1]
   ·try simp only[go_sem,qW]
    try rfl
   ·simp only[go_sem,qW,j2]
   ·simp only[go_sem,qW,j16]
   ·rcases mA with h|⟨g,hv,he⟩
    ·exact .inl h
    ·have hlt:=hA8 g (by rw[hv,bVk])
     exact .inr ⟨g,hv,by rw[dZ (by intro h;injection h with h1 _ _;omega),dZ (by intro h;injection h with _ _ h3;omega),dZ (by intro h;injection h with _ h2 _;omega),dZ (by intro h;injection h with h1 _ _;omega)];exact he⟩
   ·simp only[go_sem,qW,e6]
   ·simp only[go_sem,qW]
   ·simp only[go_sem,qW]
   ·have hij: ¬(j:Int)=(i:Int):=by omega
    have hold:=hgr i (by omega)
    by_cases hil:i<m.length
    ·rw[mK hil]at hold⊢;rw[wT,decide_eq_false hij,Bool.or_false];exact hold
    ·rw[tD (by rw[iE];omega)];decide
  ·have h0: ¬bR (gJ m n done) j=0:=of_decide_eq_false hb;have hsk:=aOw hj h0;simp only[go_sem,qC,qG,qW,q2,q8,i1,j2,j16,j11]
   refine⟨fun t g ht hg=>?_,fun _ _=>trivial,.inl ⟨?_,?_,?_,?_,hg2,hg6,hg8,?_,done++[(j:Int)],by rw[<-hd];simp,?_,nx,?_,hnx,by rw[hsk];exact hgr⟩⟩
   ·have n1:(⟨0,t,g⟩:Key)≠⟨1,0,gl⟩:=by intro he;injection he with h1 _ _;omega
    rw[dZ n1,dZ n1]
   ·try simp only[go_sem,qW]
    try rfl
   ·simp only[go_sem,qW,j2]
   ·simp only[go_sem,qW,j16]
   ·exact mA.keep fun g=>by rw[dZ (by intro h;injection h with h1 _ _;omega),dZ (by intro h;injection h with h1 _ _;omega)]
   ·simp only[go_sem,qW,e6]
   ·rw[hsk];simp only[go_sem,qW,j11]
   ·simp only[go_sem,qW,j8]
end Go.Proofs.YthpmfghgoabnhaaGreat
namespace Go.Proofs.YthpmfghgoabnhaaGreat
open Go.Abs Go.Proofs
theorem aYr {a b c d:Nat}(h:a+1=b)(h2:d<c):a*c+d<b*c:=by
 subst h;rw[bWm,Nat.one_mul];omega
theorem aO2 {ws:List W}{d:Nat}{D:List Nat}(h: ∀w∈ws,w.key.n=0/\ (w.key.t=d \/w.key.t∈D)/\ ∃e,w= .ent w.key e){t' g':Nat}(ht:t'≠d/\ t'∉D):(ws.all fun w=>fX w (.val ⟨0,t',g'⟩))=true:=by
 rw[bVo];intro w hw;obtain⟨h1,h2,e,h3⟩:=h w hw;rw[h3,aE0]
 refine decide_eq_true ?_
 intro he;rw[he]at h2;rcases h2 with h2|h2
 ·exact ht.1 h2
 ·exact ht.2 h2
theorem aTf {s:aX}{m:List Int}{n:Nat}(h: ∀i:Nat,i<n->inR (nX s i) 0 2=true): ∀a∈jF s m n,inR a 0 2=true:=by
 intro a ha;obtain⟨i,hi,rfl⟩:=bV4.1 ha;have hi:=(bW5.1 hi).1;have:=h i (by simpa using hi)
 simp only[inR,bYb]at this⊢;omega
def SlE (s:aX)(most:Nat)(g2 gk:Nat)(vA vM:Val)(en0:En)(st:St):Prop:=
 ∃fr en cnt n,st=⟨fr,en,cnt⟩/\ fr 2= .ptr ⟨0,2,g2⟩ 0/\ en ⟨0,2,g2⟩=some (.box [.ptr ⟨0,16,gk⟩ 0] false)/\ fr 6= .int .i64 (n:Nat)/\ en ⟨0,16,gk⟩=some (.box [.fz (s.world.objs.map aI.enc),.fz (s.world.tasks.map (.int .i64)),.fz (s.world.outs.map aO.enc),.fz (s.world.ins.map (.int .i64)),.int .i64 s.world.used,vA,vM,.int .i64 s.cycle] false)/\ jZ en vA 1 (s.ages.map (.int .i64)) 8/\ jZ en vM 1 ((dY s.world most s.marks).map (.int .i64)) 11/\ 1<=cnt 0 6/\ en ⟨0,6,0⟩=en0 ⟨0,6,0⟩/\
  decide (n<(dY s.world most s.marks).length)=decide (dX (dY s.world most s.marks)<(dY s.world most s.marks).length)
theorem aVc (s:aX)(most:Nat)(hs:s.few)(hsm:bB s.world=true)(hin:oY s.world)(hok:mR s.world s.marks)(hA:s.ages.length=s.world.objs.length)(hmost:most<=200)(hcy:inR s.cycle 0 3=true)(hAr: ∀i:Nat,i<s.world.objs.length->inR (nX s i) 0 2=true)
  (htk: ∀t∈s.world.tasks,∃i:Nat,t=i/\ i<s.world.objs.length/\ bH (s.world.obj i)=true) {en:En} {cnt:Nat->Nat->Nat} {gk:Nat} {vA vM:Val} (e16:en ⟨0,16,gk⟩=some (.box [.fz (s.world.objs.map aI.enc),.fz (s.world.tasks.map (.int .i64)),.fz (s.world.outs.map aO.enc),.fz (s.world.ins.map (.int .i64)),.int .i64 s.world.used,vA,vM,.int .i64 s.cycle] false)) (mA:jZ en vA 1 (s.ages.map (.int .i64)) 8) (mM:jZ en vM 1 (s.marks.map (.int .i64)) 11) (c6:1<=cnt 0 6) (hA8: ∀g,vA= .bl ⟨0,8,g⟩ 0 s.ages.length->g<cnt 0 8):
  WIn L (.fn 89 [] []) [.ptr ⟨0,16,gk⟩ 0,.int .i64 most] en cnt fun v en' cnt'=>en' ⟨0,6,0⟩=en ⟨0,6,0⟩/\
   ((dX (dY s.world most s.marks)<(dY s.world most s.marks).length/\ v= .tup [.cl [],.bool false]/\ en' ⟨0,16,gk⟩=some (.box [.fz (s.world.objs.map aI.enc),.fz (s.world.tasks.map (.int .i64)),.fz (s.world.outs.map aO.enc),.fz (s.world.ins.map (.int .i64)),.int .i64 s.world.used,vA,vM,.int .i64 s.cycle] false)/\ jZ en' vA 1 (s.ages.map (.int .i64)) 8/\ jZ en' vM 1 ((dY s.world most s.marks).map (.int .i64)) 11) \/
    (¬dX (dY s.world most s.marks)<(dY s.world most s.marks).length/\ ∃vg va g13,v= .tup [vg,.bool true]/\ cE en' vg 1 ((mY (dY s.world most s.marks) s.world.objs.length).map (.int .i64)) [103]/\
     en' ⟨0,16,gk⟩=some (.box [.fz ((mL s (dY s.world most s.marks)).world.objs.map aI.enc),.fz ((mL s (dY s.world most s.marks)).world.tasks.map (.int .i64)),.fz ((mL s (dY s.world most s.marks)).world.outs.map aO.enc),.fz ((mL s (dY s.world most s.marks)).world.ins.map (.int .i64)),.int .i64 (mL s (dY s.world most s.marks)).world.used,va,.bl ⟨0,13,g13⟩ 0 (mL s (dY s.world most s.marks)).world.objs.length,.int .i64 (mL s (dY s.world most s.marks)).cycle] false)/\
     cE en' va 1 ((mL s (dY s.world most s.marks)).ages.map (.int .i64)) [120]/\ en' ⟨0,13,g13⟩=some (.blk 1 ((mL s (dY s.world most s.marks)).marks.map (.int .i64)) false))):=by
 obtain⟨b1,b2,b3,b4⟩:=oT hsm;have hml:=hok.len;obtain⟨en0,hen0⟩: ∃e,e=en:=⟨_,rfl⟩
 obtain⟨g2,hg2⟩: ∃g,g=cnt 0 2:=⟨_,rfl⟩
 refine mX bTa rfl rfl ?_
 simp only[go_sem,qC,qG,qW,bA7,iX (v:= .ptr ⟨0,16,gk⟩ 0) rfl rfl,<-hg2]
 refine Go.Abs.wp_mono (L:=L) _ (Q:=fun e st=>e= .exit 0/\ SlE s most g2 gk vA vM en0 st) ?_ ?_
 ·refine Go.Abs.wp_loop (fun(x:Nat×Nat×List Int) (st:Go.Abs.St)=> ∃fr en cnt,st=⟨fr,en,cnt⟩/\ fr 1= .int .i64 most/\ fr 2= .ptr ⟨0,2,g2⟩ 0/\ en ⟨0,2,g2⟩=some (.box [.ptr ⟨0,16,gk⟩ 0] false)/\ fr 6= .int .i64 (x.1:Nat)/\ fr 7= .int .i64 (x.2.1:Nat)/\ en ⟨0,16,gk⟩=some (.box [.fz (s.world.objs.map aI.enc),.fz (s.world.tasks.map (.int .i64)),.fz (s.world.outs.map aO.enc),.fz (s.world.ins.map (.int .i64)),.int .i64 s.world.used,vA,vM,.int .i64 s.cycle] false)/\ jZ en vA 1 (s.ages.map (.int .i64)) 8/\ (∀g,vA= .bl ⟨0,8,g⟩ 0 s.ages.length->g<cnt 0 8)/\ jZ en vM 1 (x.2.2.map (.int .i64)) 11/\
    g2+1<=cnt 0 2/\ 1<=cnt 0 6/\ en ⟨0,6,0⟩=en0 ⟨0,6,0⟩/\ mR s.world x.2.2/\ x.1<=x.2.2.length/\ x.2.1<=most/\ (∀i,i<x.1-> ¬bR x.2.2 i=1)/\ dY s.world (most-x.2.1) x.2.2=dY s.world most s.marks)
   (fun x=>dL x.2.2*(x.2.2.length+1)+(x.2.2.length-x.1)) (0,0,s.marks)
   ⟨_,_,_,rfl,by simp only[go_sem,qW],by simp only[go_sem,qW],by simp only[go_sem,qW],by simp only[go_sem,qW];try rfl,by simp only[go_sem,qW];try rfl,by simp only[go_sem,e16],mA.keep (fun g=>by simp only[go_sem,qW]),by simp only[go_sem,qW];exact hA8,mM.keep (fun g=>by simp only[go_sem,qW]),by simp only[go_sem,qW];try exact bVe _,by simp only[go_sem,qW];try exact c6,by simp only[go_sem,hen0],hok,bVn _,bVn _,fun i hi=>by omega,rfl⟩ ?_
  clear e16 mA mM c6 hA8
  rintro⟨n,lk,m⟩ st ⟨fr,en,cnt,rfl,h1,h2,e2,h6,h7,e16,mA,hA8,mM,c2,c6,q6,hm,hnl,hlk,hng,hrun⟩
  dsimp only at h6 h7 mM hm hnl hlk hng hrun⊢;have hlm:m.length=s.world.objs.length:=hm.len;have hlM:=mM.mine.len;rw[bVk]at hlM;have hfl:Few m.length:=by unfold Few;omega
  simp only[go_sem,qC,qG,qW,h1,h2,e2,h6,h7,e16,hlM]
  refine aA (fun g1=>?_) (fun g1=>?_)
  ·have hn:n<m.length:=of_decide_eq_true g1;rcases mM with⟨_,hx⟩|⟨gM,rfl,eb⟩
   ·have:m.length=0:=by rw[<-bVk (f:=Val.int .i64),hx];rfl
    omega
   rw[bVk]at e16 hlM;have hc1:(0:Int)<=(n:Int):=by omega
   have hc2:(n:Int)<(m.length:Int):=by omega
   have hgn:=aFy hn;simp only[go_sem,qC,qG,qW,h1,h2,e2,h6,h7,e16,hlM,eb,hgn,hc1,hc2,true_and,and_true,eq_self,if_true,bWb,bV3,bVk,bVe]
   refine aA (fun g3=>?_) (fun g3=>?_)
   ·have hne: ¬bR m n=1:=by simpa using g3
    simp only[go_sem,qC,qG,qW,h1,h2,e2,h6,h7,e16]
    refine⟨(n+1,lk,m),⟨_,_,_,rfl,by simp only[go_sem,h1],by simp only[go_sem,h2],by simp only[go_sem,e2],by simp only[go_sem,aK hn hfl],by simp only[go_sem,h7],by simp only[go_sem,e16],mA,hA8,nY eb (by simp),c2,c6,q6,hm,by dsimp only;omega,hlk,fun i hi=>?_,hrun⟩,?_⟩
    ·by_cases hin':i<n
     ·exact hng i hin'
     ·have:i=n:=by dsimp only at hi;omega
      subst this;exact hne
    ·dsimp only;omega
   ·have h1n:bR m n=1:=by simpa using g3
    have hfg:dX m=n:=aVa hn h1n hng;simp only[go_sem,qC,qG,qW,h1,h2,e2,h6,h7,e16]
    refine aA (fun g4=>?_) (fun g4=>?_)
    ·have hl:lk=most:=by simp at g4;omega
     subst hl;rw[Nat.sub_self]at hrun;have hrun':m=dY s.world lk s.marks:=hrun;simp only[go_sem,qC,qG,qW];exact⟨_,_,_,n,rfl,by simp only[go_sem,h2],by simp only[go_sem,e2],by simp only[go_sem,h6],by simp only[go_sem,e16],mA,by rw[<-hrun'];exact nY eb (by simp),c6,q6,by rw[<-hrun',hfg]⟩
    ·have hl:lk<most:=by simp at g4;omega
     obtain⟨g8,hg8⟩: ∃g,g=cnt 0 8:=⟨_,rfl⟩
     have hnw:n<s.world.objs.length:=by omega
     have hso:=kY hsm _ (bVp hnw);have hst:(m.map (Val.int .i64)).set n (.int .i64 2)=(gJ m n []).map (.int .i64):=by rw[aMo,aU8 hn]
     have hfm:Few most:=by unfold Few;omega
     have hon:s.world.obj n=s.world.objs[n]:=dT hnw;simp only[go_sem,qC,qG,qW,h1,h2,e2,h6,h7,e16,hlM,eb,hgn,hst,hc1,hc2,hnw,true_and,and_true,eq_self,if_true,bWb,bV3,bVk,bVe,aK hl hfm,aK hn hfl,<-hg8,(uA _).ret]
     refine aAi (f:=107) (x:=[]) (y:=[.fp [.int .i64 s.world.objs[n].form,.int .i64 s.world.objs[n].n,.fz (s.world.objs[n].vals.map aG.enc),.fz (s.world.objs[n].frames.map aB.enc)] 0]) (by simp only[go_sem,qW]) ?_
     intro fr0 key hfr0 hkey;have r1:fr0 1= .int .i64 most:=by rw[hfr0];simp only[go_sem,qW,h1]
     have r2:fr0 2= .ptr ⟨0,2,g2⟩ 0:=by rw[hfr0];simp only[go_sem,qW,h2]
     have r7:fr0 7= .int .i64 (lk+1:Nat):=by rw[hfr0];simp only[go_sem,qW]
     have r8:fr0 8= .ptr ⟨0,8,g8⟩ 0:=by rw[hfr0];simp only[go_sem,qW]
     obtain⟨gl,rfl⟩: ∃gl,key=⟨1,0,gl⟩:=⟨_,hkey⟩
     obtain⟨c0,hc0⟩: ∃c0,c0=aP (aP cnt 0 8 (g8+1)) 1 0 (cnt 1 0+1) 0:=⟨_,rfl⟩
     have hcc2:g2+1<=c0 2:=by rw[hc0];simpa[aP]using c2
     have hcc6:1<=c0 6:=by rw[hc0];simpa[aP]using c6
     have hinm: ∀x∈dS s.world.objs[n],inR x 0 ((m.length:Int)-1)=true:=by rw[hlm];exact hin _ (bVp hnw)
     have hA8': ∀g,vA= .bl ⟨0,8,g⟩ 0 s.ages.length->g<g8:=by rw[hg8];exact hA8
     have hr:=aMq s m n g2 g8 gM gk vA (dS s.world.objs[n]) en0 (fr0:=fr0) (gl:=gl) (c0:=c0) hn (by omega) r2 r8 hA8' hinm hcc2 hcc6
     rw[hc0]at hr
     refine(aFi s.world.objs[n] (xR hso) hr ⟨by simp only[go_sem,qW],by simp only[go_sem,e2],by simp only[go_sem,e16],?_,by simpa[aP]using c2,by simpa[aP]using c6,by simp[aP],by simp only[go_sem,q6],[],rfl,by simp only[go_sem,qW],n+1,by simp only[go_sem,qW],bVe _,fun i hi=>?_⟩).mono ?_
     ·rcases mA with h|⟨g,hv,he⟩
      ·exact .inl h
      ·have hlt:=hA8' g (by rw[hv,bVk])
       exact .inr ⟨g,hv,by simp only[go_sem,Nat.ne_of_lt hlt,he]⟩
     ·by_cases hil:i<m.length
      ·rw[mK hil]
       by_cases hin':i=n
       ·rw[if_pos hin'];decide
       ·rw[if_neg hin',if_neg (by simp[aB9])]
        exact hng i (by omega)
      ·rw[tD (by rw[iE];omega)];decide
     ·rintro v en' cnt' (⟨i1,j2,j16,mA',hg2',hg6',hg8',e6',done,hd,j11,nx,j8,hnx,hgr⟩|hF)
      ·rw[bWw]at hd;subst hd;have hla:gJ m n (dS s.world.objs[n])=gK s.world m n:=by rw[gK,hon]
       rw[hla]at j11 hgr;have hll:(gK s.world m n).length=m.length:=by rw[gK,iE]
       have hnb:=sL (seen:=dS (s.world.obj n)) hn h1n;rw[<-gK]at hnb;simp only[go_sem,qC,qG,qW,i1,j2,j16,j8,r1,r2,r7,r8,h1,h2]
       refine⟨(nx,lk+1,gK s.world m n),⟨_,_,_,rfl,by simp only[go_sem,r1,h1],by simp only[go_sem,r2,h2],by simp only[go_sem,j2],by simp only[go_sem,qW],by simp only[go_sem,r7],by simp only[go_sem,j16],mA'.keep (fun g=>dZ (by intro h;injection h with h1 _ _;omega)),fun g hv=>by have:=hA8' g hv;omega,?_,hg2',hg6',by simp only[go_sem,e6'],aFx hin hm n,by dsimp only;omega,by dsimp only;omega,hgr,?_⟩,?_⟩
       ·exact nY (by simp only[go_sem,j11]) (by simp[hll])
       ·dsimp only;have e1:most-lk=(most-(lk+1))+1:=by omega
        rw[e1,dY,hfg,if_pos hn]at hrun;exact hrun
       ·dsimp only;rw[hll];have h3:=aYr (c:=m.length+1) (d:=m.length-nx) hnb (by omega)
        omega
      ·exact hF.elim
  ·have hn:n=m.length:=by simp at g1;omega
   have hnone:dX m=m.length:=aMl (by rw[<-hn];exact hng)
   rw[aHz (by omega)]at hrun
   simp only[go_sem,qC,qG,qW];exact⟨_,_,_,n,rfl,by simp only[go_sem,h2],by simp only[go_sem,e2],by simp only[go_sem,h6],by simp only[go_sem,e16],mA,by rw[<-hrun];exact mM,c6,q6,by rw[<-hrun,hnone,hn]⟩
 ·rintro e st ⟨rfl,fr,en,cnt,n,rfl,h2,e2,h6,e16,mA,mM,c6,q6,hdec⟩
  obtain⟨M,hM⟩: ∃M,M=dY s.world most s.marks:=⟨_,rfl⟩
  rw[<-hM]at mM hdec⊢;have hMok:mR s.world M:=by rw[hM];exact tE hin most hok
  have hMl:M.length=s.world.objs.length:=hMok.len;have hlM:=mM.mine.len;rw[bVk]at hlM;simp only[go_sem,qC,qG,qW,h2,e2,h6,e16,hlM,hdec]
  refine aA (fun g1=>?_) (fun g1=>?_)
  ·have hfg:dX M<M.length:=of_decide_eq_true g1;simp only[go_sem,qC,qG,qW,h2,e2,h6,e16];exact⟨by rw[q6,hen0],.inl ⟨hfg,mA,mM⟩⟩
  ·have hfg: ¬dX M<M.length:=of_decide_eq_false g1;simp only[go_sem,qC,qG,qW,h2,e2,h6,e16,hlM]
   refine bF M.length (fun k st=> ∃fr en cnt vg vk va,st=⟨fr,en,cnt⟩/\ fr 2= .ptr ⟨0,2,g2⟩ 0/\ en ⟨0,2,g2⟩=some (.box [.ptr ⟨0,16,gk⟩ 0] false)/\ en ⟨0,16,gk⟩=some (.box [.fz (s.world.objs.map aI.enc),.fz (s.world.tasks.map (.int .i64)),.fz (s.world.outs.map aO.enc),.fz (s.world.ins.map (.int .i64)),.int .i64 s.world.used,vA,vM,.int .i64 s.cycle] false)/\ jZ en vA 1 (s.ages.map (.int .i64)) 8/\ jZ en vM 1 (M.map (.int .i64)) 11/\ 1<=cnt 0 6/\ en ⟨0,6,0⟩=en0 ⟨0,6,0⟩/\ fr 10=vg/\ fr 11=vk/\ fr 12=va/\ fr 91=vM/\ fr 92= .int .i64 M.length/\ fr 93= .int .i64 k/\
    cE en vg 1 ((mY M k).map (.int .i64)) [103]/\ cE en vk 1 ((dU M k).map (.int .i64)) [107]/\ cE en va 1 ((jF s M k).map (.int .i64)) [120]) 0 (bVn _)
    ⟨_,_,_,.cl [],.cl [],.cl [],rfl,by simp only[go_sem,h2],by simp only[go_sem,e2],by simp only[go_sem,e16],mA,mM,c6,q6,by simp only[go_sem,qW],by simp only[go_sem,qW],by simp only[go_sem,qW],by simp only[go_sem,qW],by simp only[go_sem,qW],by simp only[go_sem,qW],cE.nil _ _,cE.nil _ _,cE.nil _ _⟩ ?_
   clear h2 e2 h6 e16 mA mM c6 q6 hdec
   rintro k st hk ⟨fr,en,cnt,vg,vk,va,rfl,h2,e2,e16,mA,mM,c6,q6,h10,h11,h12,h91,h92,h93,mg,mk,ma⟩
   simp only[go_sem,qC,qG,qW,h2,e2,e16,h10,h11,h12,h91,h92,h93]
   refine aA (fun hq=>?_) (fun hq=>?_)
   ·have h':k<M.length:=of_decide_eq_true hq;have h'w:k<s.world.objs.length:=by omega
    have hka:k<s.ages.length:=by omega
    have har:=hAr k h'w;simp only[inR,bYb,gC hka]at har;have hwa:IntKind.i64.wrap (s.ages[k]+1)=s.ages[k]+1:=bM (by omega)
    have hgk:=aFy h';have hga:(s.ages.map (Val.int .i64))[k]?=some (.int .i64 s.ages[k]):=by simp[hka]
    have hfM:Few M.length:=by unfold Few;omega
    have hc1:(0:Int)<=(k:Int):=by omega
    have hc2:(k:Int)<(M.length:Int):=by omega
    have hc3:(k:Int)<(s.ages.length:Int):=by omega
    rcases mM with⟨_,hx⟩|⟨gM,rfl,eb⟩
    ·have:M.length=0:=by rw[<-bVk (f:=Val.int .i64),hx];rfl
     omega
    rcases mA with⟨_,hx⟩|⟨ga,rfl,ea⟩
    ·have:s.ages.length=0:=by rw[<-bVk (f:=Val.int .i64),hx];rfl
     omega
    rw[bVk]at h91;simp only[bVk]at e16;simp only[go_sem,qC,qG,qW,h2,e2,e16,h10,h11,h12,h91,h92,h93,eb,hgk,hc1,hc2,true_and,and_true,eq_self,if_true,bWb,bV3,bVk,bVe]
    refine aA (fun g2'=>?_) (fun g2'=>?_)
    ·have hm0:bR M k=0:=of_decide_eq_true g2';simp only[go_sem,qC,qG,qW,h2,e2,e16,h10,h11,h12,h91,h92,h93]
     refine pF (D:=[103]) (xs:=(mY M k).map (.int .i64)) (ys:=[.int .i64 k]) (rs:=[]) ?_ ?_ ?_ ?_ ?_
     ·simp only[go_sem,qW];exact mg
     ·simp only[go_sem,qW]
     ·rfl
     ·have:=aYn M k;simp;omega
     ·intro v' en' cnt' hown hen hcnt;have k2:en' ⟨0,2,g2⟩=some (.box [.ptr ⟨0,16,gk⟩ 0] false):=by rw[hen 0 2 g2 (.inr ⟨by decide,by simp⟩)];exact e2
      have k16:=(hen 0 16 gk (.inr ⟨by decide,by simp⟩)).trans e16
      have kb:=(hen 0 11 gM (.inr ⟨by decide,by simp⟩)).trans eb
      have ka:=(hen 0 8 ga (.inr ⟨by decide,by simp⟩)).trans ea
      simp only[go_sem,qC,qG,qW,h2,h11,h12,h91,h92,h93]
      refine⟨h',_,_,_,v',vk,va,rfl,?_⟩
      simp only[go_sem,qC,qG,qW,h2,k2,h11,h12,h91,h92,h93,aK h' hfM]
      refine⟨k16,nY ka (by simp),nY kb (by simp),by rw[hcnt 0 6 (by decide)];exact c6,(hen 0 6 0 (.inr ⟨by decide,by simp⟩)).trans q6,?_,?_,?_⟩
      ·rw[bEk hm0,bVx];exact cE.sub (D:=[103,103]) hown (by simp)
      ·rw[bEn hm0];exact mk.keep fun t g ht=>by rw[hen 0 t g (.inr (by simp at ht;subst ht;decide))]
      ·rw[bEp hm0];exact ma.keep fun t g ht=>by rw[hen 0 t g (.inr (by simp at ht;subst ht;decide))]
    ·have hm0: ¬bR M k=0:=of_decide_eq_false g2';simp only[go_sem,qC,qG,qW,h2,e2,e16,h10,h11,h12,h91,h92,h93]
     refine aN ?_
     simp only[go_sem,qC,qG,qW,h2,e2,e16,h10,h11,h12,h91,h92,h93,bVf,bVg,bVh,bVj,bVi,bVd,if_false]
     refine nD (D:=[107]) (xs:=(dU M k).map (.int .i64)) (ys:=[.int .i64 k]) (rs:=[]) ?_ ?_ ?_ rfl ?_ ?_
     ·simp only[go_sem,qW];exact mk
     ·simp only[go_sem,qW]
     ·rfl
     ·have:=zO M k;simp;omega
     ·intro v1 en1 cnt1 r1 own1 hen1 hcnt1 hw1 hr1 hm1;have k2:en1 ⟨0,2,g2⟩=some (.box [.ptr ⟨0,16,gk⟩ 0] false):=by rw[hen1 0 2 g2 (.inr ⟨by decide,by simp⟩)];exact e2
      have k16:=(hen1 0 16 gk (.inr ⟨by decide,by simp⟩)).trans e16
      have kb:=(hen1 0 11 gM (.inr ⟨by decide,by simp⟩)).trans eb
      have ka:=(hen1 0 8 ga (.inr ⟨by decide,by simp⟩)).trans ea
      simp only[go_sem,qC,qG,qW,h2,k2,k16,ka,h10,h12,h91,h92,h93,hga,hc1,hc3,hwa,true_and,and_true,eq_self,if_true,bWb,bV3,bVk,bVe,bVf,bVg,bVh,bVj,bVi,bVd,if_false]
      refine nD (D:=[120]) (xs:=(jF s M k).map (.int .i64)) (ys:=[.int .i64 (min (s.ages[k]+1) 2)]) (rs:=[]) ?_ ?_ ?_ rfl ?_ ?_
      ·simp only[go_sem,qW];exact ma.keep fun t g ht=>by rw[hen1 0 t g (.inr (by simp at ht;subst ht;decide))]
      ·simp only[go_sem,qW]
      ·rfl
      ·have:=zO M k;have:=mZ s M k;simp;omega
      ·intro v2 en2 cnt2 r2 own2 hen2 hcnt2 hw2 hr2 hm2;have j2:=(hen2 0 2 g2 (.inr ⟨by decide,by simp⟩)).trans k2
       have j16:=(hen2 0 16 gk (.inr ⟨by decide,by simp⟩)).trans k16
       have jb:=(hen2 0 11 gM (.inr ⟨by decide,by simp⟩)).trans kb
       have ja:=(hen2 0 8 ga (.inr ⟨by decide,by simp⟩)).trans ka
       have p1:=fun o n=>aB7 hw1 (t':=2) (g':=g2) ⟨by decide,by decide⟩ o n
       have p2:=fun o n=>aB7 hw1 (t':=16) (g':=gk) ⟨by decide,by decide⟩ o n
       have p3:=aO2 hw1 (t':=8) (g':=ga) ⟨by decide,by decide⟩
       simp only[go_sem,qC,qG,qW,h2,j2,h10,h91,h92,h93,p1,p2,p3,hm1,hm2,aYh,bVf,bVg,bVh,bVj,bVi,bVd,if_false]
       refine⟨h',_,_,_,vg,v1,v2,rfl,?_⟩
       simp only[go_sem,qC,qG,qW,h2,j2,h10,h91,h92,h93,aK h' hfM]
       refine⟨j16,nY ja (by simp),nY jb (by simp),by rw[hcnt2 0 6 (by decide),hcnt1 0 6 (by decide)];exact c6,(hen2 0 6 0 (.inr ⟨by decide,by simp⟩)).trans ((hen1 0 6 0 (.inr ⟨by decide,by simp⟩)).trans q6),?_,?_,?_⟩
       ·rw[bEl hm0];exact mg.keep fun t g ht=>by rw[hen2 0 t g (.inr (by simp at ht;subst ht;decide)),hen1 0 t g (.inr (by simp at ht;subst ht;decide))]
       ·rw[bEm hm0,bVx]
        refine cE.sub (D:=[107,107]) (own1.keep fun t g ht=>?_) (by simp)
        rw[hen2 0 t g (.inr (by simp at ht;subst ht;decide))]
       ·rw[bEo hm0,gC hka,bVx];exact cE.sub (D:=[120,120]) own2 (by simp)
   ·have:k=M.length:=by simp at hq;omega
    subst this;rw[hMl]at mg mk ma;simp only[go_sem,qC,qG,qW,h2,e2,e16,h10,h11,h12,h91,h92,h93];obtain⟨hsh1,hsh2⟩:=zP hMok hin hfg;have hkl:=hsh1.len;have hal:=aGu s.world (dU M s.world.objs.length) hs.1 hsm (by omega) hsh1.rise hsh1.rng hsh1.refs (fun t ht=>hsh2 t (htk t ht))
    have hkf:Few (dU M s.world.objs.length).length:=by unfold Few;omega
    have hcf:=aDb hs.1 hsm hkf hsh1.rng;have hcs:=yN hsm hsh1;have hci:=aOy hsh1;have hcy':=hcy;simp only[inR,bYb]at hcy';have hwc:IntKind.i64.wrap (s.cycle+1)=s.cycle+1:=bM (by omega)
    have hsv:=ma.shape
    refine aN ?_
    rcases mk with⟨rfl,mkx⟩|⟨t1,gx,f1,rfl,ek,tk⟩
    ·rw[mkx]at hal;simp only[go_sem,qC,qG,qW,h2,e2,e16,h10,h11,h12,hwc,hal.ret,hsv.1,hsv.2,bVf,bVg,bVh,bVj,bVi,bVd,if_false]
     refine(aH0 (bL s.world (dU M s.world.objs.length)) (jF s M s.world.objs.length) ((s.cycle+1).tmod 4) hcf hcs (by rw[mZ];simp[bL]) (aTf hAr) hci (gk:=gk) (vA:=va) (vM:=vM) (by simp only[go_sem,qW]) (ma.keep fun t g ht=>by simp at ht;subst ht;simp only[go_sem,qW]) c6).mono ?_
     rintro v en' cnt' ⟨g13,x16,xA,x13,x6,x103⟩
     try simp only[go_sem,qC,qG,qW,h10]
     refine⟨by rw[x6];simp only[go_sem,qW,q6,hen0],.inr ⟨hfg,vg,va,g13,rfl,mg.keep fun t g ht=>?_,x16,xA,x13⟩⟩
     simp at ht;subst ht
     rw[x103];simp only[go_sem,qW]
    ·have:t1=107:=by simpa using tk
     subst this;simp only[go_sem,qC,qG,qW,h2,e2,e16,h10,h11,h12,hwc,hal.ret,hsv.1,hsv.2,ek,bVk,bVe,if_true,pZ,bVf,bVg,bVh,bVj,bVi,bVd,if_false]
     refine(aH0 (bL s.world (dU M s.world.objs.length)) (jF s M s.world.objs.length) ((s.cycle+1).tmod 4) hcf hcs (by rw[mZ];simp[bL]) (aTf hAr) hci (gk:=gk) (vA:=va) (vM:=vM) (by simp only[go_sem,qW]) (ma.keep fun t g ht=>by simp at ht;subst ht;simp only[go_sem,qW]) c6).mono ?_
     rintro v en' cnt' ⟨g13,x16,xA,x13,x6,x103⟩
     try simp only[go_sem,qC,qG,qW,h10]
     refine⟨by rw[x6];simp only[go_sem,qW,q6,hen0],.inr ⟨hfg,vg,va,g13,rfl,mg.keep fun t g ht=>?_,x16,xA,x13⟩⟩
     simp at ht;subst ht
     rw[x103];simp only[go_sem,qW]
end Go.Proofs.YthpmfghgoabnhaaGreat
namespace Go.Proofs.YthpmfghgoabnhaaGreat
open Go.Abs Go.Proofs
theorem uK {en:En}{v:Val}{size t:Nat}{xs:List Val}(h:cE en v size xs [t])(n:Nat): ∃r ks,r.wk0= .fz xs/\ r.wk1= .fz xs/\ ∀en':En,(∀g,en' ⟨0,t,g⟩=en ⟨0,t,g⟩)->snapD (n+1) en' v=some (r,ks):=by
 rcases h with⟨rfl,rfl⟩|⟨t',g,f,rfl,h2,ht⟩
 ·exact⟨.cl [],[],rfl,rfl,fun _ _=>rfl⟩
 ·have:t'=t:=by simpa using ht
  subst this;exact⟨.fz xs,[⟨0,t',g⟩],rfl,rfl,fun en' he=>by simp[snapD,he,h2]⟩
theorem xU (n:Int):PC L 88 [.int .i64 n] (.bool (inR n 1 200)):=by
 have e:inR n 1 200=(decide (1<=n)&&decide (n<=200)):=by simp[inR]
 rw[e]
 refine aL bS9 rfl rfl ?_
 simp only[go_sem,qC,qG,qW,bA6]
 refine aE (fun g=>?_) (fun g=>?_)<;>simp only[go_sem,qC,qG,qW,g,bVy,bV5,bVq]
theorem bBn (n:Int):PC L 42 [.int .i64 n] (.bool (inR n 1 200)):=by
 refine aL bSk rfl rfl ?_
 simp only[go_sem,qC,qG,qW,bAi,(tZ _ _ _).ret]
theorem jG (s:aX)(i:Nat):fL s i=bR s.marks i:=by simp[fL,bR]
theorem aDc {p:aQ}{s:aX}(h:bY p s=true):mR s.world s.marks/\ s.ages.length=s.world.objs.length/\ inR s.cycle 0 3=true/\ (∀i:Nat,i<s.world.objs.length->inR (nX s i) 0 2=true)/\ gG p s.world=true:=by
 simp only[bY,jR,kX,bVc,bYb,bVo]at h;obtain⟨⟨hg,⟨h1,h2⟩,h3⟩,h4⟩:=h;have row:=fun(i:Nat) (hi:i<s.world.objs.length)=>h4 i (by simpa using hi)
 refine⟨⟨h2,fun i hi=>?_,fun i hi ht h0=>?_,fun i hi hb x hx h0=>?_⟩,h1,h3,fun i hi=>?_,hg⟩
 ·have:=(row i (by omega)).1
  simp only[kK,bVc]at this;have:=this.2;rw[jG]at this;simp only[inR,bYb]at this;omega
 ·have:=(row i hi).2;simp only[kW,fV,bVc,bWh,jG,h0,ht]at this
  simp at this
 ·have:=(row i hi).2;simp only[kW,bVc,bVo]at this;have:=this.2 x ((mJ _ _).2 hx);have h0':fL s x=0:=by unfold fL;unfold bR at h0;exact h0
  simp only[hZ,jG,hb,h0',decide_true,Bool.and_self,bVq]at this;cases this
 ·have:=(row i hi).1;simp only[kK,bVc]at this;exact this.1
theorem aGv (p:aQ)(s:aX)(most:Int)(hp:p.few)(hs:s.few)(hsp:aT p=true)(hss:bI s=true):
  PC L 41 [.agg [.fz (p.nodes.map aJ.enc),.fz (p.funs.map (.int .i64)),.int .i64 p.main,.fz (p.cons.map bC.enc)],.agg [.fz (s.world.objs.map aI.enc),.fz (s.world.tasks.map (.int .i64)),.fz (s.world.outs.map aO.enc),.fz (s.world.ins.map (.int .i64)),.int .i64 s.world.used,.fz (s.ages.map (.int .i64)),.fz (s.marks.map (.int .i64)),.int .i64 s.cycle],.int .i64 most] (if bY p s=true/\ inR most 1 200=true then .tup [.agg [.fz ((dM s most.toNat).world.objs.map aI.enc),.fz ((dM s most.toNat).world.tasks.map (.int .i64)),.fz ((dM s most.toNat).world.outs.map aO.enc),.fz ((dM s most.toNat).world.ins.map (.int .i64)),.int .i64 (dM s most.toNat).world.used,.fz ((dM s most.toNat).ages.map (.int .i64)),.fz ((dM s most.toNat).marks.map (.int .i64)),.int .i64 (dM s most.toNat).cycle],.fz ((aCa s most.toNat).map (.int .i64)),.bool (uJ s most.toNat),.int .i64 0]
   else .tup [.agg [.fz [],.fz [],.fz [],.fz [],.int .i64 0,.fz [],.fz [],.int .i64 0],.fz [],.bool false,.int .i64 2]):=by
 have hsw1:bB s.world=true:=by
  simp only[bI,bVc]at hss;exact hss.1.1
 have hck:=yK p s hp hs hsp hsw1
 refine aL bSj rfl rfl ?_
 by_cases h1:bY p s=true
 ·rw[if_pos h1]at hck;obtain⟨hok,hA,hcy,hAr,hg⟩:=aDc h1;have hin:oY s.world:=fun o ho x hx=>aAu hg o ho x ((mJ _ _).2 hx)
  by_cases h2:inR most 1 200=true
  ·rw[if_pos ⟨h1,h2⟩];have hpr:=xU most;rw[h2]at hpr;simp only[inR,bYb]at h2;obtain⟨k,rfl⟩:=bWq (show 0<=most by omega)
   simp only[go_sem,qC,qG,qW,aUn,hck.ret,hpr.ret]
   refine(aYq s hs hss).mono ?_
   rintro v en1 cnt1 ⟨g16,vA,vM,rfl,e16,mA,mM,hfr,hcn,hA8⟩
   have q6:=hfr 6 0 (by decide) (by decide) (by decide) (by decide)
   have c6:1<=cnt1 0 6:=by rw[hcn 6 (by decide) (by decide) (by decide) (by decide)];simp only[go_sem,qW];try exact bVe _
   have q6':en1 ⟨0,6,0⟩=some (.box [.cl [],.cl [],.cl [],.cl [],.int .i64 0,.cl [],.cl [],.int .i64 0] false):=by rw[q6];simp only[go_sem,qW]
   try simp only[go_sem,qC,qG,qW]
   refine(aVc s k hs hsw1 hin hok hA (by omega) hcy hAr (aDa hg).1 e16 mA mM c6 hA8).mono ?_
   rintro v en2 cnt2 ⟨x6,(⟨hfg,rfl,x16,xA,xM⟩|⟨hfg,vg,va,g13,rfl,xg,x16,xA,x13⟩)⟩
   ·have y6:=x6.trans q6';have hS:dM s k=⟨s.world,s.ages,dY s.world k s.marks,s.cycle⟩:=by rw[dM,if_pos hfg]
    have hG:aCa s k=[]:=by rw[aCa,if_pos hfg]
    have hE:uJ s k=false:=by rw[uJ,decide_eq_true hfg];rfl
    rw[bV3,hS,hG,hE];obtain⟨r1,k1,a1,a2,a3⟩:=uK xA.mine 5;obtain⟨r2,k2,d1,d2,d3⟩:=uK xM.mine 5;simp only[go_sem,qC,qG,qW,x16,y6,a1,a2,a3,d1,d2,d3,implies_true]
   ·have y6:=x6.trans q6';have hS:dM s k=mL s (dY s.world k s.marks):=by rw[dM,if_neg hfg]
    have hG:aCa s k=mY (dY s.world k s.marks) s.world.objs.length:=by rw[aCa,if_neg hfg]
    have hE:uJ s k=true:=by rw[uJ,decide_eq_false hfg];rfl
    rw[bV3,hS,hG,hE];obtain⟨r1,k1,a1,a2,a3⟩:=uK xA 5;obtain⟨r2,k2,d1,d2,d3⟩:=uK xg 6;have hlm:(mL s (dY s.world k s.marks)).marks.length=(mL s (dY s.world k s.marks)).world.objs.length:=by simp[mL,pR]
    have htk:((mL s (dY s.world k s.marks)).marks.map (Val.int .i64)).take (mL s (dY s.world k s.marks)).world.objs.length=(mL s (dY s.world k s.marks)).marks.map (.int .i64):=bVw (by simp[hlm])
    simp only[go_sem,qC,qG,qW,x16,y6,x13,a1,a2,a3,d1,d2,d3,implies_true,hlm,htk,bVk,bVe,if_true]
  ·rw[if_neg (fun h=>h2 h.2)]
   have hpr:=xU most;rw[bWi]at h2;rw[h2]at hpr;simp only[go_sem,qC,qG,qW,aUn,hck.ret,hpr.ret]
 ·rw[if_neg h1]at hck;rw[if_neg (fun h=>h1 h.1)]
  simp only[go_sem,qC,qG,qW,aUn,hck.ret]
theorem aYs {s:aX}{m:List Int}(hs:s.few)(hsm:bB s.world=true)(h:aMm s.world (dU m s.world.objs.length)):(mL s m).few:=by
 have hl:=h.len;have h1:=hs.1.objs;have hkf:Few (dU m s.world.objs.length).length:=by unfold Few at*;omega
 refine⟨aDb hs.1 hsm hkf h.rng,?_,?_⟩
 ·simp only[mL,mZ];exact hkf
 ·simpa[mL,pR,bL]using hkf
theorem aVd {s:aX}{most:Nat}(hs:s.few)(hsm:bB s.world=true)(hin:oY s.world)(hok:mR s.world s.marks):(dM s most).few:=by
 unfold dM;split
 ·refine⟨hs.1,hs.2.1,?_⟩
  have:=hok.len;have h1:=hs.1.objs;simp only[aFw];unfold Few at*;omega
 ·rename_i hfg;exact aYs hs hsm (zP (tE hin most hok) hin hfg).1
end Go.Proofs.YthpmfghgoabnhaaGreat
namespace Go.Proofs.YthpmfghgoabnhaaGreat
open Go.Abs Go.Proofs
theorem mW {keep:List Int}{x:Int}(h:x∈keep):keep.idxOf x<keep.length:=List.idxOf_lt_length_of_mem h
theorem aDt {keep:List Int}{x:Int}(h:x∈keep):keep[keep.idxOf x]'(mW h)=x:=List.getElem_idxOf (mW h)
theorem bBo {keep:List Int}{x y:Int}(hx:x∈keep)(hy:y∈keep)(h:keep.idxOf x=keep.idxOf y):x=y:=by
 have h1:=aDt hx;have h2:=aDt hy;simp only[h]at h1;rw[<-h1,h2]
theorem bEq {keep:List Int}(hr:keep.Pairwise (· < ·)){i:Nat}(h:i<keep.length):keep.idxOf keep[i]=i:=by
 have hm:=bVp h;have hl:=mW hm;have hg:=aDt hm
 by_cases h1:keep.idxOf keep[i]<i
 ·have:=List.pairwise_iff_getElem.1 hr _ _ hl h h1;omega
 ·by_cases h2:i<keep.idxOf keep[i]
  ·have:=List.pairwise_iff_getElem.1 hr _ _ h hl h2;omega
  ·omega
theorem aMr {w:aC}{keep:List Int}{t:Int}(h:t∈keep):(bL w keep).obj (keep.idxOf t:Nat)=cU keep (w.obj t):=by
 have hl:=mW h;have hg:=aDt h;simp only[aC.obj,bL,bV3,bVm,bXn,bWo hl,bV8,bV0,hg]
theorem aO3 {w:aC}{keep:List Int}{i:Nat}(h:i<keep.length):(bL w keep).obj i=cU keep (w.obj keep[i]):=by
 simp only[aC.obj,bL,bV3,bVm,bXn,bWo h,bV8,bV0]
theorem aGw {p:aQ}{w:aC}{keep:List Int}{v:aG}(h:cJ p w v=true)(hr:lQ v=true->v.n∈keep):cJ p (bL w keep) (iB keep v)=true:=by
 by_cases h5:lQ v=true
 ·have hk:v.kind=5:=of_decide_eq_true h5;have:=mW (hr h5);simp only[cJ,iB,hk,h5,if_true,inR,bL,bVk]
  simp;omega
 ·have hk: ¬v.kind=5:=fun e=>h5 (decide_eq_true e)
  have e:iB keep v=v:=by rw[iB,if_neg h5]
  rw[e]
  simpa only[cJ,hk,if_false]using h
theorem aMs {l:List aG}{v:aG}(hv:v∈l)(h:lQ v=true):v.n∈dB l:=bV4.2 ⟨v,bW5.2 ⟨hv,h⟩,rfl⟩
theorem fM {p:aQ}{w:aC}{keep:List Int}{l:List aG}{m:Int}(h:aR p w l m=true)(hr: ∀x∈dB l,x∈keep):aR p (bL w keep) (eK keep l) m=true:=by
 simp only[aR,bVc,bYb,bVo]at h⊢
 refine⟨by simpa[eK]using h.1,fun v hv=>?_⟩
 obtain⟨u,hu,rfl⟩:=bV4.1 hv;exact aGw (h.2 u hu) fun h5=>hr _ (aMs hu h5)
theorem uL (keep:List Int)(l:List aG):(eK keep l).length=l.length:=by simp[eK]
theorem aGx {p:aQ}{w:aC}{keep:List Int}{f:aB}(h:bD p w f=true)(hr: ∀x∈dN f,x∈keep):bD p (bL w keep) (lW keep f)=true:=by
 simp only[bD,bVc]at h⊢;exact⟨⟨h.1.1,fM h.1.2 fun x hx=>hr x (bW6 _ hx)⟩,fM h.2 fun x hx=>hr x (bW1 _ hx)⟩
theorem wU {p:aQ}{w:aC}{keep:List Int}{l:List aB}(h:bJ p w l=true)(hr: ∀x∈l.flatMap dN,x∈keep):bJ p (bL w keep) (l.map (lW keep))=true:=by
 simp only[bJ,bVc,bYb,bVo]at h⊢
 refine⟨by simpa using h.1,fun f hf=>?_⟩
 obtain⟨g,hg,rfl⟩:=bV4.1 hf;exact aGx (h.2 g hg) fun x hx=>hr x (bWt.2 ⟨g,hg,hx⟩)
theorem vB (p:aQ)(keep:List Int)(f:aB):cN p (lW keep f)=cN p f:=by simp[cN,lW,uL]
theorem aMt (p:aQ)(keep:List Int)(l:List aB)(k:Nat):((l.map (lW keep)).take k).all (cN p)=(l.take k).all (cN p):=by
 rw[<-bXh,List.all_map]
 congr 1;funext f;exact vB p keep f
theorem aJx {p:aQ}{w:aC}{keep:List Int}{o:aI}(h:hH p w o=true)(hr: ∀x∈dS o,x∈keep):hH p (bL w keep) (cU keep o)=true:=by
 have hv: ∀x∈dB o.vals,x∈keep:=fun x hx=>hr x (bW6 _ hx)
 have hf: ∀x∈o.frames.flatMap dN,x∈keep:=fun x hx=>hr x (bW1 _ hx)
 unfold hH at h⊢;simp only[cU,bVk,uL,aMt]
 split at h
 ·rename_i h0;rw[if_pos h0];simp only[bVc]at h⊢;exact⟨⟨⟨wU h.1.1.1 hf,fM h.1.1.2 hv⟩,h.1.2⟩,h.2⟩
 split at h
 ·rename_i h0 h1;rw[if_neg h0,if_pos h1];simp only[bVc]at h⊢;exact⟨h.1,fM h.2 hv⟩
 split at h
 ·rename_i h0 h1 h2;rw[if_neg h0,if_neg h1,if_pos h2];exact h
 ·cases h
theorem aO4 (keep:List Int)(l:List aB):((l.map (lW keep)).headD default).node=(l.headD default).node:=by cases l<;>rfl
theorem aMu {p:aQ}{w:aC}{keep:List Int}{o:aI}(h:dG p w o=true)(hr: ∀x∈dS o,x∈keep):dG p (bL w keep) (cU keep o)=true:=by
 have hv: ∀x∈dB o.vals,x∈keep:=fun x hx=>hr x (bW6 _ hx)
 have hf: ∀x∈o.frames.flatMap dN,x∈keep:=fun x hx=>hr x (bW1 _ hx)
 unfold dG at h⊢
 split at h
 ·rename_i h0;rw[if_pos (show(cU keep o).form=6 from h0)]
  exact aJx h hr
 rename_i h0;rw[if_neg (show¬(cU keep o).form=6 from h0)]
 split at h
 ·rename_i h1;rw[if_pos (show(cU keep o).form=5 from h1)]
  have ho:(o.frames.map (lW keep)).all (cN p)=o.frames.all (cN p):=by
   rw[List.all_map];congr 1;funext f;exact vB p keep f
  simp only[cU,bVk,uL,aO4,ho];simp only[bVc]at h⊢;exact⟨⟨⟨h.1.1.1,wU h.1.1.2 hf⟩,h.1.2⟩,h.2⟩
 rename_i h1;rw[if_neg (show¬(cU keep o).form=5 from h1)]
 have hL:(cU keep o).frames.length=o.frames.length:=by simp only[cU,bVk]
 have hVl:(cU keep o).vals.length=o.vals.length:=by simp only[cU,uL]
 rw[hL,hVl]
 split at h
 ·cases h
 rename_i h2;rw[if_neg h2]
 split at h
 ·rename_i h3;rw[if_pos (show(cU keep o).form=1 from h3)]
  simp only[bVc]at h⊢;exact⟨h.1,fM h.2 hv⟩
 rename_i h3;rw[if_neg (show¬(cU keep o).form=1 from h3)]
 split at h
 ·rename_i h4;rw[if_pos (show(cU keep o).form=2 from h4)]
  simp only[bVc]at h⊢;exact⟨h.1,fM h.2 hv⟩
 rename_i h4;rw[if_neg (show¬(cU keep o).form=2 from h4)]
 split at h
 ·rename_i h5;rw[if_pos (show(cU keep o).form=3 from h5)]
  simp only[bVc]at h⊢;exact⟨h.1,fM h.2 hv⟩
 rename_i h5;rw[if_neg (show¬(cU keep o).form=3 from h5)]
 split at h
 ·rename_i h6;rw[if_pos (show(cU keep o).form=4 from h6)]
  simp only[bVc]at h⊢;exact⟨h.1,fM h.2 hv⟩
 ·cases h
theorem aA4 (keep:List Int)(o:aI):bH (cU keep o)=bH o:=rfl
theorem wV {w:aC}{keep:List Int}: ∀(l met:List Int),(∀x∈l,x∈keep)->(∀x∈met,x∈keep)->aZ w met l=true->aZ (bL w keep) (met.map fun t=>(keep.idxOf t:Int)) (l.map fun t=>(keep.idxOf t:Int))=true
 |[],_,_,_,_=>rfl
 |k::l,met,hl,hm,h=>by
  simp only[aZ,bVc]at h;have hk:=hl k (by simp)
  have hlt:=mW hk;have ih:=wV l (met++[k]) (fun x hx=>hl x (by simp[hx])) (fun x hx=>by rcases bV6.1 hx with hx|hx;exact hm x hx;simp only[bWk]at hx;rw[hx];exact hk) h.2
  rw[bVx]at ih;simp only[bV9,aZ,bVc]
  refine⟨⟨⟨?_,?_⟩,?_⟩,ih⟩
  ·simp only[inR,bYb,bL,bVk];omega
  ·rw[aMr hk,aA4];exact h.1.1.2
  ·have hn:=h.1.2;rw[bWh,<-bWi,bXk]at hn⊢
   rintro⟨x,hx,he⟩
   obtain⟨y,hy,rfl⟩:=bV4.1 hx;have he':keep.idxOf y=keep.idxOf k:=by have:=of_decide_eq_true he;omega
   exact hn ⟨y,hy,decide_eq_true (bBo (hm y hy) hk he')⟩
theorem aO5 {p:aQ}{w:aC}{keep:List Int}(h:gG p w=true)(hs:aMm w keep)(ht: ∀t,(∃i:Nat,t=(i:Int)/\ i<w.objs.length/\ bH (w.obj i)=true)->t∈keep):gG p (bL w keep)=true:=by
 obtain⟨hT1,hT2⟩:=aDa h;have htk: ∀t∈w.tasks,t∈keep:=fun t hm=>ht t (hT1 t hm)
 simp only[gG,fY,bVc,<-zL]at h⊢;obtain⟨hfm,⟨⟨⟨⟨⟨⟨a1,a2⟩,a3⟩,a4⟩,a5⟩,a6⟩,a7⟩⟩:=h;have hl:=hs.len
 refine⟨hfm,⟨⟨⟨⟨⟨⟨?_,a2⟩,a3⟩,a4⟩,?_⟩,?_⟩,a7⟩⟩
 ·simp only[bYb,bL,bVk]at a1⊢;omega
 ·simp only[qZ,bVc]at a5⊢
  refine⟨wV w.tasks [] htk (fun x hx=>by cases hx) a5.1,?_⟩
  simp only[xT,bVo];intro i hi;have hi':i<keep.length:=by simpa[bL]using hi
  rw[aO3 hi',aA4];cases hk:bH (w.obj keep[i])with
  |false=>simp
  |true=>
   have hri:=hs.rng _ (bVp hi');simp only[inR,bYb]at hri;obtain⟨j,hj⟩:=bWq hri.1;rw[hj]at hk;have hm:=hT2 j (by omega) hk
   simp only[bVq,Bool.or_false,bXk,bYb]
   refine⟨(keep.idxOf (j:Int):Int),bV4.2 ⟨_,hm,rfl⟩,?_⟩
   rw[<-hj,bEq hs.rise hi']
 ·rw[bVo]at a6⊢;intro o ho;obtain⟨n,hn,rfl⟩:=bV4.1 ho;exact aMu (a6 _ (aDs (hs.rng n hn))) (hs.refs n hn)
end Go.Proofs.YthpmfghgoabnhaaGreat
namespace Go.Proofs.YthpmfghgoabnhaaGreat
open Go.Abs Go.Proofs
theorem iF {p:aQ}{s:aX}:bY p s=true↔gG p s.world=true/\ mR s.world s.marks/\ s.ages.length=s.world.objs.length/\ inR s.cycle 0 3=true/\ (∀i:Nat,i<s.world.objs.length->inR (nX s i) 0 2=true)/\ (∀i:Nat,i<s.world.objs.length->bR s.marks i=0->nX s i=2->s.cycle=3):=by
 constructor
 ·intro h;obtain⟨a,b,c,d,e⟩:=aDc h
  refine⟨e,a,b,c,d,fun i hi h0 h2=>?_⟩
  simp only[bY,jR,kX,bVc,bYb,bVo]at h;have:=(h.2 i (by simpa using hi)).2
  simp only[kW,fV,bVc,bWh,jG,h0,h2]at this
  by_cases hc:s.cycle=3
  ·exact hc
  ·simp[hc]at this
 ·rintro⟨hg,hm,hA,hc,hr,hw⟩
  simp only[bY,jR,kX,bVc,bYb,bVo]
  refine⟨⟨hg,⟨hA,hm.len⟩,hc⟩,fun i hi=>?_⟩
  have hi:i<s.world.objs.length:=by simpa using hi
  refine⟨?_,?_⟩
  ·simp only[kK,bVc]
   refine⟨hr i hi,?_⟩
   have:=hm.range i (by rw[hm.len];exact hi)
   rw[jG];simp only[inR,bYb];omega
  ·simp only[kW,bVc,bVo,bWh]
   refine⟨?_,fun x hx=>?_⟩
   ·rw[<-bWi];intro hb;simp only[fV,bVc,Bool.or_eq_true,bYb,bWh,bYc,jG]at hb;rcases hb with⟨h0,ht|⟨h2,h3⟩⟩
    ·exact hm.tasks i hi ht h0
    ·exact h3 (hw i hi h0 h2)
   ·rw[<-bWi];intro hb;simp only[hZ,bVc,bYb,jG]at hb;exact hm.black i hi hb.1 x ((mJ _ _).1 hx) hb.2
theorem aYt (w:aC){i:Nat}: ∀(k:Nat) {m:List Int},¬bR m i=0-> ¬bR (dY w k m) i=0
 |0,_,h=>h
 |k+1,m,h=>by
  rw[dY];split
  ·exact aYt w k (aJw h)
  ·exact h
theorem uM (y:Int->Bool)(w:aC)(ages:List Int)(c:Int):(pR y w ages c).length=w.objs.length:=by simp[pR]
theorem tF {y:Int->Bool}{w:aC}{ages:List Int}{c:Int}{i:Nat}(h:i<w.objs.length):bR (pR y w ages c) i=eV y w ages c i:=by
 rw[qF (by rw[uM];exact h)];simp[pR]
theorem aFz {w:aC}{i:Nat}(h:i<w.objs.length):w.obj i∈w.objs:=by rw[dT h];exact bVp _
theorem aMv {w:aC}{ages:List Int}{c:Int}(hin:oY w)(hr: ∀i:Nat,i<w.objs.length->inR (sK ages i) 0 2=true):
  mR w (pR lt2 w ages c)/\ ∀i:Nat,i<w.objs.length->bR (pR lt2 w ages c) i=0->sK ages i=2->c=3:=by
 refine⟨⟨uM ..,fun i hi=>?_,fun i hi ht=>?_,fun i hi h2 x hx=>?_⟩,fun i hi h0 h2=>?_⟩
 ·rw[uM]at hi;rw[tF hi,eV];split
  ·exact .inr (.inl rfl)
  ·split
   ·split
    ·exact .inr (.inl rfl)
    ·exact .inr (.inr rfl)
   ·exact .inl rfl
 ·rw[tF hi,eV,if_pos ht];decide
 ·have hxi:=hin _ (aFz hi) x hx;simp only[inR,bYb]at hxi;have hl:x.toNat<w.objs.length:=by omega
  rw[tF hi,eV]at h2
  split at h2
  ·exact absurd h2 (by decide)
  split at h2
  ·rename_i hc
   split at h2
   ·exact absurd h2 (by decide)
   ·rename_i hy;have h3: ¬lt2 (sK ages x)=true:=fun e=>hy (bXk.2 ⟨x,(mJ _ _).2 hx,e⟩)
    have h4:=hr x.toNat hl;have e5:sK ages (x.toNat:Nat)=sK ages x:=by rw[bXr hxi.1]
    rw[e5]at h4;simp only[lt2,bYb,inR]at h3 h4;have h6:sK ages x=2:=by omega
    rw[tF hl,eV];split
    ·decide
    ·simp only[bVc]at hc;rw[e5,h6,hc.1];simp only[decide_true,Bool.and_self,if_true]
     split<;>decide
  ·exact absurd h2 (by decide)
 ·rw[tF hi,eV]at h0
  split at h0
  ·exact absurd h0 (by decide)
  split at h0
  ·split at h0<;>exact absurd h0 (by decide)
  ·rename_i hc
   by_cases h3:c=3
   ·exact h3
   ·exact absurd (by simp[h2,h3]) hc
theorem aVe {s:aX}{m:List Int}{k:Nat}(hr: ∀i:Nat,i<k->inR (nX s i) 0 2=true): ∀x∈jF s m k,inR x 0 2=true:=by
 intro x hx;obtain⟨i,hi,rfl⟩:=bV4.1 hx;have hi:=hr i (by have:=(bW5.1 hi).1;simpa using this)
 simp only[inR,bYb]at hi⊢;omega
theorem kE {p:aQ}{w:aC}(h:gG p w=true):oY w:=fun o ho x hx=>aAu h o ho x ((mJ _ _).2 hx)
theorem aH1 {p:aQ}{s:aX}{most:Nat}(h:bY p s=true)(hg: ¬dX (dY s.world most s.marks)<(dY s.world most s.marks).length):
  aMm s.world (dU (dY s.world most s.marks) s.world.objs.length)/\ ∀t,(∃i:Nat,t=(i:Int)/\ i<s.world.objs.length/\ bH (s.world.obj i)=true)->t∈dU (dY s.world most s.marks) s.world.objs.length:=by
 obtain⟨hgv,hm,_,_,_,_⟩:=iF.1 h;exact zP (tE (kE hgv) most hm) (kE hgv) hg
theorem aMw {p:aQ}{s:aX}{most:Nat}(h:bY p s=true):bY p (dM s most)=true:=by
 obtain⟨hgv,hm,hA,hc,hr,hw⟩:=iF.1 h;have hin:=kE hgv;have hmr:=tE hin most hm;unfold dM;split
 ·refine iF.2 ⟨hgv,hmr,hA,hc,hr,fun i hi h0 h2=>?_⟩
  refine hw i hi ?_ h2
  by_cases h':bR s.marks i=0
  ·exact h'
  ·exact absurd h0 (aYt _ most h')
 ·rename_i hg;obtain⟨hs,ht⟩:=aH1 h hg;have hgv':=aO5 hgv hs ht;have hl:(bL s.world (dU (dY s.world most s.marks) s.world.objs.length)).objs.length=(dU (dY s.world most s.marks) s.world.objs.length).length:=by simp[bL]
  have hr': ∀i:Nat,i<(bL s.world (dU (dY s.world most s.marks) s.world.objs.length)).objs.length->inR (sK (jF s (dY s.world most s.marks) s.world.objs.length) i) 0 2=true:=fun i hi=>by
   rw[aAz (by rw[mZ];omega)]
   exact aVe hr _ (bVp _)
  obtain⟨b1,b2⟩:=aMv (c:=(s.cycle+1).tmod 4) (kE hgv') hr'
  refine iF.2 ⟨hgv',b1,by rw[mL,mZ,hl],?_,hr',b2⟩
  simp only[inR,bYb]at hc⊢;have:(s.cycle+1).tmod 4=(s.cycle+1)%4:=Int.tmod_eq_emod_of_nonneg (by omega)
  show 0<=(s.cycle+1).tmod 4/\ (s.cycle+1).tmod 4<=3;omega
theorem aMx {p:aQ}{s:aX}{most:Nat}(h:bY p s=true)(hs:bI s=true):bI (dM s most)=true:=by
 obtain⟨hgv,hm,hA,hc,hr,hw⟩:=iF.1 h;simp only[bI,bVc,bYb]at hs⊢;unfold dM;split
 ·exact⟨hs.1,by rw[aFw];exact hs.2⟩
 ·rename_i hg;obtain⟨hsh,ht⟩:=aH1 h hg;have hkl:=hsh.len;have hml:=hm.len
  refine⟨⟨yN hs.1.1 hsh,?_⟩,?_⟩
  ·show((jF _ _ _).length:Int)<=130;rw[mZ];omega
  ·show((pR _ _ _ _).length:Int)<=130;rw[uM];simp only[bL,bVk];omega
end Go.Proofs.YthpmfghgoabnhaaGreat
namespace Go.Proofs.YthpmfghgoabnhaaGreat
open Go.Abs Go.Proofs
theorem aMy (p:aQ)(s:aX)(hp:p.few)(hs:s.few)(hc:p.cons.length<=1000):PC L 48 [.agg [.fz (p.nodes.map aJ.enc),.fz (p.funs.map (.int .i64)),.int .i64 p.main,.fz (p.cons.map bC.enc)],.agg [.fz (s.world.objs.map aI.enc),.fz (s.world.tasks.map (.int .i64)),.fz (s.world.outs.map aO.enc),.fz (s.world.ins.map (.int .i64)),.int .i64 s.world.used,.fz (s.ages.map (.int .i64)),.fz (s.marks.map (.int .i64)),.int .i64 s.cycle]] (.bool (bI s&&bY p s)):=by
 refine aL bSn rfl rfl ?_
 simp only[go_sem,qC,qG,qW,bAk,(rV s hs).ret]
 refine aE (fun g=>?_) (fun g=>?_)
 ·have hsw:bB s.world=true:=by
   simp only[bI,bVc]at g;exact g.1.1
  simp only[go_sem,qC,qG,qW,g,(aAv p s hp hs hc hsw).ret,bVy]
 ·simp only[go_sem,qC,qG,qW,g,bV5]
theorem aJy (p:aQ)(s:aX)(most:Int)(hp:p.few)(hs:s.few):PC L 46 [.agg [.fz (p.nodes.map aJ.enc),.fz (p.funs.map (.int .i64)),.int .i64 p.main,.fz (p.cons.map bC.enc)],.agg [.fz (s.world.objs.map aI.enc),.fz (s.world.tasks.map (.int .i64)),.fz (s.world.outs.map aO.enc),.fz (s.world.ins.map (.int .i64)),.int .i64 s.world.used,.fz (s.ages.map (.int .i64)),.fz (s.marks.map (.int .i64)),.int .i64 s.cycle],.int .i64 most] (.bool (aT p&&bI s&&bY p s&&inR most 1 200)):=by
 refine aL bSl rfl rfl ?_
 simp only[go_sem,qC,qG,qW,bAj,(aB0 p hp).ret]
 refine aE (fun g1=>?_) (fun g1=>?_)
 ·have hc:p.cons.length<=1000:=by
   have:=g1;simp only[aT,bVc,bYb]at this;omega
  simp only[go_sem,qC,qG,qW,g1,(rV s hs).ret]
  refine aE (fun g2=>?_) (fun g2=>?_)
  ·have hsw:bB s.world=true:=by
    simp only[bI,bVc]at g2;exact g2.1.1
   simp only[go_sem,qC,qG,qW,g1,g2,(aAv p s hp hs hc hsw).ret]
   refine aE (fun g3=>?_) (fun g3=>?_)
   ·simp only[go_sem,qC,qG,qW,g1,g2,g3,(bBn most).ret,bVy]
   ·simp only[go_sem,qC,qG,qW,g1,g2,g3,bVy,bV5]
  ·simp only[go_sem,qC,qG,qW,g1,g2,bVy,bV5]
 ·simp only[go_sem,qC,qG,qW,g1,bV5]
def aO6 (gone:List Int)(k:Nat):List Int:=((List.range k).filter fun(i:Nat)=>!aB9 gone i).map fun(i:Nat)=>(i:Int)
end Go.Proofs.YthpmfghgoabnhaaGreat
namespace Go.Proofs.YthpmfghgoabnhaaGreat
open Go.Abs Go.Proofs
def aYu (w:aC)(keep:List Int):Prop:= ∀t,(∃i:Nat,t=(i:Int)/\ i<w.objs.length/\ bH (w.obj i)=true)->t∈keep
end Go.Proofs.YthpmfghgoabnhaaGreat
namespace Go.Proofs.YthpmfghgoabnhaaGreat
open Go.Abs Go.Proofs
structure bU7 (w:aC) (gone:List Int) (w':aC):Prop where
 shut:aMm w (aO6 gone w.objs.length)
 tasked:aYu w (aO6 gone w.objs.length)
 rng:InR w gone
 free: ∀x∈gone,aB9 (bEj w) x=false
 once:gone.Nodup
 left:bL w (aO6 gone w.objs.length)=w'
theorem aMz {p:aQ}{s:aX}{most:Int}(h:(aT p&&bI s&&bY p s&&inR most 1 200)=true):
  aT p=true/\ bI s=true/\ bY p s=true/\ p.cons.length<=1000/\ bB s.world=true/\ ∃k:Nat,most=k/\ 1<=k/\ k<=200/\ inR k 1 200=true:=by
 simp only[bVc]at h;obtain⟨⟨⟨h1,h2⟩,h3⟩,h4⟩:=h;have h5:=h4;simp only[inR,bYb]at h5
 refine⟨h1,h2,h3,?_,?_,most.toNat,by omega,by omega,by omega,?_⟩
 ·simp only[aT,bVc,bYb]at h1;omega
 ·simp only[bI,bVc]at h2;exact h2.1.1
 ·rw[bXr (by omega)];exact h4
theorem aYv {p:aQ}{s:aX}{k:Nat}(hp:p.few)(hs:s.few)(hsp:aT p=true)(hss:bI s=true)(hst:bY p s=true)(hk:inR k 1 200=true):
  PC L 41 [.agg [.fz (p.nodes.map aJ.enc),.fz (p.funs.map (.int .i64)),.int .i64 p.main,.fz (p.cons.map bC.enc)],.agg [.fz (s.world.objs.map aI.enc),.fz (s.world.tasks.map (.int .i64)),.fz (s.world.outs.map aO.enc),.fz (s.world.ins.map (.int .i64)),.int .i64 s.world.used,.fz (s.ages.map (.int .i64)),.fz (s.marks.map (.int .i64)),.int .i64 s.cycle],.int .i64 k] (.tup [.agg [.fz ((dM s k).world.objs.map aI.enc),.fz ((dM s k).world.tasks.map (.int .i64)),.fz ((dM s k).world.outs.map aO.enc),.fz ((dM s k).world.ins.map (.int .i64)),.int .i64 (dM s k).world.used,.fz ((dM s k).ages.map (.int .i64)),.fz ((dM s k).marks.map (.int .i64)),.int .i64 (dM s k).cycle],.fz ((aCa s k).map (.int .i64)),.bool (uJ s k),.int .i64 0]):=by
 have:=aGv p s k hp hs hsp hss;rw[if_pos ⟨hst,hk⟩,bV3]at this;exact this
theorem aTg {p:aQ}{s:aX}(hp:p.few)(hs:s.few)(hc:p.cons.length<=1000)(hss:bI s=true)(hst:bY p s=true):PC L 48 [.agg [.fz (p.nodes.map aJ.enc),.fz (p.funs.map (.int .i64)),.int .i64 p.main,.fz (p.cons.map bC.enc)],.agg [.fz (s.world.objs.map aI.enc),.fz (s.world.tasks.map (.int .i64)),.fz (s.world.outs.map aO.enc),.fz (s.world.ins.map (.int .i64)),.int .i64 s.world.used,.fz (s.ages.map (.int .i64)),.fz (s.marks.map (.int .i64)),.int .i64 s.cycle]] (.bool true):=by
 have:=aMy p s hp hs hc;rw[hss,hst]at this;exact this
theorem aO7 {p:aQ}{s:aX}{k:Nat}(hs:s.few)(hss:bI s=true)(hst:bY p s=true):(dM s k).few:=by
 obtain⟨hgv,hm,_,_,_,_⟩:=iF.1 hst;simp only[bI,bVc]at hss;exact aVd hs hss.1.1 (kE hgv) hm
end Go.Proofs.YthpmfghgoabnhaaGreat
namespace Go.Proofs.YthpmfghgoabnhaaGreat
open Go.Abs Go.Proofs
theorem aH2 {w:aC}: ∀(k:Nat) {m:List Int},dX (dY w k m)<(dY w k m).length->dL (dY w k m)+k<=dL m
 |0,_,_=>bVe _
 |k+1,m,h=>by
  by_cases hg:dX m<m.length
  ·rw[dY,if_pos hg]at h⊢;have h1:=aH2 k h;have h2:=sL (seen:=dS (w.obj (dX m))) hg ((nG m).2.2 hg);unfold gK at h1⊢;omega
  ·rw[aHz hg]at h;exact absurd h hg
theorem aYw (m:List Int):dL m<=m.length:=by
 unfold dL;have: ∀l:List Nat,(l.map fun i=>if bR m i=2 then 0 else 1).sum<=l.length:=by
  intro l
  induction l with
  |nil=>exact bVe _
  |cons a l ih=>
   simp only[bV9,List.sum_cons,bVu]
   split<;>omega
 simpa using this (List.range m.length)
def bKp (first:aC)(keep m:List Int):Prop:= ∀j,j<keep.length-> ¬bR m j=0->uI first (bCo keep j).toNat
structure bU8 (p:aQ) (first:aC) (c0:Int) (d e r:Nat) (s:aX):Prop where
 few:s.few
 small:bI s=true
 ok:bY p s=true
 cyc:s.cycle=(c0+e)%4
 time:r+dL s.marks<=121*e+120
 left: ∃keep,aMm first keep/\ aYu first keep/\ s.world=bL first keep/\ (e=d->bKp first keep s.marks)/\ (d<e-> ∀x∈keep,uI first x.toNat)
theorem aH3 {p:aQ}{s:aX}(h:bY p s=true):s.marks.length<=120/\ s.marks.length=s.world.objs.length:=by
 obtain⟨hg,hm,_,_,_,_⟩:=iF.1 h;simp only[gG,fY,bVc,bYb]at hg;have:=hg.2.1.1.1.1.1.1;have:=hm.len;omega
end Go.Proofs.YthpmfghgoabnhaaGreat
namespace Go.Proofs.YthpmfghgoabnhaaGreat
open Go.Abs Go.Proofs
theorem oU {s:aX}{w:aC}{i:Nat}(h:i<w.objs.length):bR (pS s w) i=iS s w i:=by
 rw[qF (by simpa[pS]using h)];simp[pS]
theorem aJz {p:aQ}{s:aX}{w:aC}(h:bY p s=true)(hg:gG p w=true)(hf:fP s.world w=true):bY p (cQ s w)=true:=by
 obtain⟨hgv,hm,hA,hc,hr,hw⟩:=iF.1 h;have hin:=kE hgv;simp only[fP,bVc,bYb,rX,bVo,bW4]at hf;obtain⟨⟨⟨f1,f2⟩,f3⟩,f4⟩:=hf;have hml:=hm.len
 refine iF.2 ⟨hg,⟨by simp[cQ,pS],fun i hi=>?_,fun i hi ht h0=>?_,fun i hi h2 x hx h0=>?_⟩,by simp[cQ,yL],hc,fun i hi=>?_,fun i hi h0 h2=>?_⟩
 ·have hi:i<w.objs.length:=by simpa[cQ,pS]using hi
  show bR (pS s w) i=0 \/_;rw[show bR (cQ s w).marks i=iS s w i from oU hi,oU hi]
  unfold iS;split
  ·split
   ·exact .inr (.inl rfl)
   ·rename_i hl _;rw[jG];exact hm.range i hl
  ·exact .inr (.inl rfl)
 ·have hi:i<w.objs.length:=hi;have h0:iS s w i=0:=(oU hi).symm.trans h0;unfold iS at h0
  split at h0
  ·rename_i hl
   split at h0
   ·cases h0
   ·rw[jG]at h0
    refine hm.tasks i (by omega) ?_ h0
    have:=f4 i (by omega)
    unfold bH at ht⊢;rw[this];exact ht
  ·cases h0
 ·have hi:i<w.objs.length:=hi;have h2:iS s w i=2:=(oU hi).symm.trans h2;unfold iS at h2
  split at h2
  ·rename_i hl
   split at h2
   ·cases h2
   ·rename_i hgr;have he:s.world.obj i=w.obj i:=by
     simp only[rC,h2,decide_true,bVy,bWh,bYc,Decidable.not_not]at hgr;exact hgr
    rw[jG]at h2;have hx':x∈dS (s.world.obj i):=by rw[he];exact hx
    have hxi:=hin _ (aFz (show i<s.world.objs.length by omega)) x hx'
    simp only[inR,bYb]at hxi;have hxl:x.toNat<s.marks.length:=by omega
    have h0:iS s w x.toNat=0:=(oU (by omega)).symm.trans h0
    unfold iS at h0;rw[if_pos hxl]at h0
    split at h0
    ·cases h0
    ·rw[jG]at h0;exact hm.black i (by omega) h2 x hx' h0
  ·cases h2
 ·have hi:i<w.objs.length:=hi;have e:nX (cQ s w) i=aDm s i:=by
   rw[gC (by simpa[cQ,yL]using hi)];simp[cQ,yL]
  rw[e];unfold aDm;split
  ·exact hr i (by omega)
  ·rfl
 ·have hi:i<w.objs.length:=hi;have e:nX (cQ s w) i=aDm s i:=by
   rw[gC (by simpa[cQ,yL]using hi)];simp[cQ,yL]
  rw[e]at h2;have h0:iS s w i=0:=(oU hi).symm.trans h0;unfold iS at h0;unfold aDm at h2
  split at h0
  ·rename_i hl;rw[if_pos hl]at h2
   split at h0
   ·cases h0
   ·rw[jG]at h0;exact hw i (by omega) h0 h2
  ·cases h0
theorem aJ0 {s:aX}{w:aC}(h:bB w=true):bI (cQ s w)=true:=by
 obtain⟨b1,_,_,_⟩:=oT h;simp only[bI,bVc,bYb]
 refine⟨⟨h,?_⟩,?_⟩
 ·simp only[cQ,yL,bVk,List.length_range];omega
 ·simp only[cQ,pS,bVk,List.length_range];omega
theorem aO8 {s:aX}{w:aC}(h:w.few):(cQ s w).few:=⟨h,by simpa[cQ,yL]using h.objs,by simpa[cQ,pS]using h.objs⟩
end Go.Proofs.YthpmfghgoabnhaaGreat
namespace Go.Abs
structure aO9 where
 task:Int
 act:Int
 n:Int
 v:aG
structure Did where
 w:aC
 what:Int
 e:aO9
def Did.enc (d:Did):Val:= .agg [.fz (d.w.objs.map aI.enc),.fz (d.w.tasks.map (.int .i64)),.fz (d.w.outs.map aO.enc),.fz (d.w.ins.map (.int .i64)),.int .i64 d.w.used,.int .i64 d.what,.int .i64 d.e.task,.int .i64 d.e.act,.int .i64 d.e.n,.int .i64 d.e.v.kind,.int .i64 d.e.v.n]
def mN :aG:=⟨0,0⟩
def lA :aO9:=⟨0,0,0,mN⟩
def aYx :aI:=⟨0,0,[],[]⟩
def nZ :aB:=⟨0,[],[]⟩
def eD :aG:=⟨3,0⟩
def tG (n:Int):aG:=⟨1,n⟩
def rD (b:Bool):aG:=⟨2,if b=true then 1 else 0⟩
def nA (n:Int):aG:=⟨5,n⟩
def aDd (v:aG):aG:=if v.kind=4 \/v.kind=5 then nA 0 else v
def iT (w:aC)(a:Int):Int:=w.tasks.getD a.toNat 0
def fZ (w:aC)(n:Int)(o:aI):aC:=⟨w.objs.set n.toNat o,w.tasks,w.outs,w.ins,w.used⟩
def gZ (w:aC)(o:aI):aC:=⟨w.objs++[o],w.tasks,w.outs,w.ins,w.used⟩
def bG (w:aC)(a st:Int):Did:=⟨fZ w (iT w a) ⟨6,st,[],[]⟩,1,⟨a,0,st,mN⟩⟩
def bW (w:aC)(a:Int)(left:List aB)(v:aG):Did:=⟨fZ w (iT w a) ⟨6,0,[v],left⟩,0,lA⟩
def fB (w:aC)(a:Int)(left:List aB)(node:Int)(env:List aG):Did:=
 if 40<=left.length \/30<env.length then bG w a 4 else⟨fZ w (iT w a) ⟨6,0,[],left++[⟨node,env,[]⟩]⟩,0,lA⟩
def gP (w:aC)(a:Int)(left:List aB)(o:aI):Did:=if 120<=w.objs.length then bG w a 4 else bW (gZ w o) a left (nA w.objs.length)
def dC (d:Did)(a act n:Int)(v:aG):Did:=if d.what=1 then d else⟨d.w,1,⟨a,act,n,aDd v⟩⟩
def kA (w:aC)(v:aG)(form:Int):Bool:=decide (v.kind=5)&&decide ((w.obj v.n).form=form)
def bEr (p:aQ)(n:Int):Int:=p.funs.getD n.toNat 0
def uN (n:aJ)(i:Int):Int:=n.kids.getD i.toNat 0
def oA (p:aQ)(w:aC)(f v:aG):Option aB:=
 if f.kind=4 then some ⟨bEr p f.n,[v],[]⟩
 else if kA w f 2=true then some ⟨uN (p.node (w.obj f.n).n) 0,(w.obj f.n).vals++[v],[]⟩else none
def eE (p:aQ)(w:aC)(a:Int)(left:List aB)(f v:aG):Did:=
 if kA w f 5=true then(if 40<(left++(w.obj f.n).frames).length then bG w a 4 else bW w a (left++(w.obj f.n).frames) v)
 else match oA p w f v with
  |none=>bG w a 2
  |some b=>fB w a left b.node b.env
def aF0 (op x y:Int):Int:=if op=9 then x+y else if op=10 then x-y else if op=11 then x*y else 0
def cD (w:aC)(a:Int)(left:List aB)(op:Int)(u v:aG):Did:=
 if op=13 then(if¬u.kind=v.kind \/3<u.kind then bG w a 2 else bW w a left (rD (decide (u=v))))
 else if¬u.kind=1 \/ ¬v.kind=1 then bG w a 2
 else if op=12 then bW w a left (rD (decide (u.n<v.n)))
 else if inR (aF0 op u.n v.n) (-1000000000) 1000000000=true then bW w a left (tG (aF0 op u.n v.n))else bG w a 4
mutual
def jT (w:aC):Pat->aG->Option (List aG)
 | .mk f n _ ps,v=>
  if f=1 then some []
  else if f=2 then some [v]
  else if f=3 then(if v=tG n then some []else none)
  else if f=4 then(if v=rD (decide (n=1))then some []else none)
  else if f=5 then(if v=eD then some []else none)
  else if kA w v 1=true/\ (w.obj v.n).n=n/\ (w.obj v.n).vals.length=ps.length then fQ w ps (w.obj v.n).vals else none
def fQ (w:aC):List Pat->List aG->Option (List aG)
 |q::ps,v::vs=>match jT w q v with
  |none=>none
  |some l=>match fQ w ps vs with
   |none=>none
   |some r=>some (l++r)
 |_,_=>some []
end
def lM (w:aC)(a:Int)(left:List aB)(kids:List Int)(env:List aG)(u:aG):Nat->List Pat->Did
 |_,[]=>bG w a 3
 |i,q::qs=>match jT w q u with
  |some l=>fB w a left (kids.getD (1+i) 0) (env++l)
  |none=>lM w a left kids env u (i+1) qs
def iL (w:aC)(a:Int)(left:List aB)(n:aJ)(env:List aG)(u:aG):Did:=lM w a left n.kids env u 0 n.pats
def qA (p:aQ)(left:List aB):Nat->Nat
 |0=>0
 |k+1=>if(p.node (left.getD k default).node).op=26 then k+1 else qA p left k
def eF (p:aQ)(w:aC)(a:Int)(left:List aB)(kid:Int)(env:List aG):Did:=
 match qA p left left.length with
 |0=>bG w a 3
 |k+1=>
  if 120<=w.objs.length then bG w a 4
  else
   let d:=fB (gZ w ⟨5,0,[],left.drop k⟩) a (left.take (k+1)) kid (env++[nA w.objs.length])
   if d.what=1 then bG w a d.e.n else d
def yA (w:aC):aC:=⟨w.objs,w.tasks++[(w.objs.length:Int)-1],w.outs,w.ins,w.used⟩
def yO (w:aC)(a:Int)(left:List aB)(o:aI):Did:=
 let d:=gP w a left o
 dC (if d.what=1 then d else⟨yA d.w,d.what,d.e⟩) a 19 0 eD
def dR (p:aQ)(w:aC)(a:Int)(left:List aB)(f:aG):Did:=
 if kA w f 5=true then yO w a left ⟨6,0,[eD],(w.obj f.n).frames⟩
 else match oA p w f eD with
  |none=>bG w a 2
  |some b=>if 30<b.env.length then bG w a 4 else yO w a left ⟨6,0,[],[b]⟩
def aW (l:List aG)(i:Nat):aG:=l.getD i mN
def eG (w:aC)(a:Int)(left:List aB)(op:Int)(l:List aG):Did:=
 if op=16 then dC (gP w a left ⟨3,0,[aW l 0],[]⟩) a op 0 (aW l 0)
 else if kA w (aW l 0) 3=true then
  (if op=17 then dC (bW w a left (aW (w.obj (aW l 0).n).vals 0)) a op 0 (aW (w.obj (aW l 0).n).vals 0)
  else dC (bW (fZ w (aW l 0).n ⟨3,0,[aW l 1],[]⟩) a left eD) a op 0 (aW l 1))
 else bG w a 2
def oB (w:aC):Did:=⟨w,2,lA⟩
def bZ (w:aC)(a:Int)(left:List aB)(op:Int)(l:List aG):Did:=
 if kA w (aW l 0) 4=true then
  (if op=22 then
   (if 4<=(w.obj (aW l 0).n).vals.length then oB w
   else dC (bW (fZ w (aW l 0).n ⟨4,0,(w.obj (aW l 0).n).vals++[aW l 1],[]⟩) a left eD) a op 0 (aW l 1))
  else if(w.obj (aW l 0).n).vals.length=0 then oB w
  else dC (bW (fZ w (aW l 0).n ⟨4,0,(w.obj (aW l 0).n).vals.drop 1,[]⟩) a left (aW (w.obj (aW l 0).n).vals 0)) a op 0 (aW (w.obj (aW l 0).n).vals 0))
 else bG w a 2
def eL (w:aC)(a:Int)(left:List aB)(v:aG):Did:=
 if kA w v 6=true then
  (if(w.obj v.n).n=0 then oB w
  else if¬(w.obj v.n).n=1 then bG w a (w.obj v.n).n
  else dC (bW w a left (aW (w.obj v.n).vals 0)) a 20 0 (aW (w.obj v.n).vals 0))
 else bG w a 2
def cR (w:aC)(a:Int)(left:List aB)(op port:Int)(l:List aG):Did:=
 if op=25 then
  (match w.ins with
  |[]=>oB w
  |x::xs=>if 1000000000<=w.used then bG w a 4 else dC (bW ⟨w.objs,w.tasks,w.outs,xs,w.used+1⟩ a left (tG x)) a op 0 (tG x))
 else if¬(aW l 0).kind=1 then bG w a 2
 else if 100<=w.outs.length then bG w a 4
 else dC (bW ⟨w.objs,w.tasks,w.outs++[⟨port,(aW l 0).n⟩],w.ins,w.used⟩ a left eD) a op port (aW l 0)
def aD (p:aQ)(w:aC)(a:Int)(left:List aB)(f:aB)(n:aJ):Did:=
 if n.op=1 then bW w a left (tG n.n)
 else if n.op=2 then bW w a left (rD (decide (n.n=1)))
 else if n.op=3 then bW w a left eD
 else if n.op=4 then(if n.n<0 then bW w a left ⟨4,-1-n.n⟩else if(f.env.length:Int)<=n.n then bG w a 2 else bW w a left (aW f.env n.n.toNat))
 else if n.op=5 then gP w a left ⟨2,f.node,f.env,[]⟩
 else if n.op=6 then eE p w a left (aW f.vals 0) (aW f.vals 1)
 else if n.op=7 then fB w a left (uN n 1) (f.env++[aW f.vals 0])
 else if n.op=8 then(if¬(aW f.vals 0).kind=2 then bG w a 2 else fB w a left (uN n (2-(aW f.vals 0).n)) f.env)
 else if n.op=9 \/n.op=10 \/n.op=11 \/n.op=12 \/n.op=13 then cD w a left n.op (aW f.vals 0) (aW f.vals 1)
 else if n.op=14 then gP w a left ⟨1,n.n,f.vals,[]⟩
 else if n.op=15 then iL w a left n f.env (aW f.vals 0)
 else if n.op=26 then bW w a left (aW f.vals 0)
 else if n.op=27 then eF p w a left (uN n 0) f.env
 else if n.op=16 \/n.op=17 \/n.op=18 then eG w a left n.op f.vals
 else if n.op=19 then dR p w a left (aW f.vals 0)
 else if n.op=20 then eL w a left (aW f.vals 0)
 else if n.op=21 then dC (gP w a left ⟨4,0,[],[]⟩) a 21 0 eD
 else if n.op=22 \/n.op=23 then bZ w a left n.op f.vals
 else if n.op=24 \/n.op=25 then cR w a left n.op n.n f.vals
 else dC (bW w a left eD) a 28 0 eD
def rE (p:aQ)(w:aC)(a:Int)(left:List aB)(f:aB):Did:=aD p w a left f (p.node f.node)
def aM0 (l:List aB)(v:aG):List aB:=l.set (l.length-1) ⟨(l.getD (l.length-1) nZ).node,(l.getD (l.length-1) nZ).env,(l.getD (l.length-1) nZ).vals++[v]⟩
def dV (p:aQ)(w:aC)(a:Int):Did:=
 let o:=w.obj (iT w a)
 if¬o.n=0 then oB w
 else if o.vals.length=1 then
  (if o.frames.length=0 then⟨fZ w (iT w a) ⟨6,1,[aW o.vals 0],[]⟩,1,⟨a,0,1,aDd (aW o.vals 0)⟩⟩
  else⟨fZ w (iT w a) ⟨6,0,[],aM0 o.frames (aW o.vals 0)⟩,0,lA⟩)
 else
  let f:=o.frames.getD (o.frames.length-1) nZ
  if(f.vals.length:Int)<(p.node f.node).asks then fB w a o.frames (uN (p.node f.node) f.vals.length) f.env
  else rE p w a (o.frames.take (o.frames.length-1)) f
end Go.Abs
