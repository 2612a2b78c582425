/- Contracts of functions of the program and of the document: part 5. -/
import Derived.Test.YtmafmhjndjmalaaGreatM3
import Derived.Test.YtmafmhjndjmalaaGreatM1
set_option linter.all false
open Bool renaming and_eq_true -> bSw, and_false -> bT6, and_true -> bUc, eq_iff_iff -> bUu, false_and -> bTk, not_eq_true' -> bUb, not_false -> bTf, not_true -> bS6, true_and -> bTo
open Int renaming eq_ofNat_of_zero_le -> bTs, not_lt -> bUe, tdiv_eq_ediv_of_nonneg -> bWm, toNat_natCast -> bTt
open List renaming all_eq_true -> bS5, append_nil -> bT1, drop_eq_getElem_cons -> bT2, drop_length -> bUo, getD_eq_getElem?_getD -> bSz, getElem?_append_left -> bUy, getElem?_eq_getElem -> bTy, getElem?_map -> bVy, getElem?_take_of_lt -> bWn, getElem_mem -> bS7, length_append -> bTg, length_cons -> bS8, length_map -> bSy, length_nil -> bTd, length_pos_iff -> bV1, length_set -> bUs, length_take -> bT3, map_append -> bT0, map_congr_left -> bU6, map_cons -> bTv, map_nil -> bTe, map_take -> bUd, mem_append -> bTn, mem_append_left -> bVb, mem_append_right -> bUn, mem_cons -> bTp, mem_filter -> bUl, mem_flatMap -> bUa, mem_map -> bTu, mem_of_mem_take -> bVf, mem_range -> bTx, mem_singleton -> bUg, nil_append -> bT4, not_mem_nil -> bU9, prefix_refl -> bUp, range'_succ -> bVp, range_eq_range' -> bVz, range_succ -> bV4, replicate_succ -> bUi, replicate_zero -> bUh, take_length -> bUf, take_succ_cons -> bS3, take_zero -> bS2
open Nat renaming add_zero -> bUk, div_le_div_right -> bWe, div_mul_le_self -> bWd, dvd_of_mod_eq_zero -> bV5, le_of_lt -> bU8, le_refl -> bSx, le_trans -> bS9, lt_irrefl -> bVg, lt_of_lt_of_le -> bTm, lt_or_ge -> bT5, mul_le_mul_right -> bT8, zero_le -> bS4
namespace Go.Proofs.YtmafmhjndjmalaaGreat
open Go.Abs Go.Proofs Tryz
set_option maxRecDepth 100000
set_option maxHeartbeats 4000000
theorem qQ (p:aD)(l:bL)(hp:p.few)(hl:l.few)(hsp:aU p=true)(h:aIu p l=true):PC L 44 [.agg p.cs,.agg l.cs] ((ply p l)):=by
 have hC:=aEo p l hp hl hsp;rw[if_pos h]at hC
 refine pcA func44 ?_
 simp only[go_sem,kK]
 refine bS ?_
 simp only[go_sem,hC.ret,(dI _).ret]
theorem qR (p:aD)(l:bL)(hp:p.few)(hl:l.few)(hsp:aU p=true)(h:aIu p l=false):PX L 44 [.agg p.cs,.agg l.cs] (aBb 2):=by
 have hC:=aEo p l hp hl hsp;rw[h,if_neg (by decide)]at hC
 refine pxA func44 ?_
 simp only[go_sem,kK]
 refine cR 4 rfl ?_
 simp only[go_sem,bS3,bS2,hC.ret,(bR _).ret]
variable {p:aD}{w:aA}
theorem aC8 (hg:bJ p w=true)(pick:Int):((cV p w pick).2.2=0/\ (aBt p w pick).2.2.2=0/\ aBt p w pick=fE p w pick/\ (cV p w pick).1=(fE p w pick).1/\ (cV p w pick).2.1=(fE p w pick).2.1) \/
  ((aBt p w pick).2.2.2=5/\ (cV p w pick).2.2=6) \/((aBt p w pick).2.2.2=8/\ (cV p w pick).2.2=8):=by
 unfold aBt cV;rw[if_pos hg]
 simp only
 rcases bBc p w pick with h|h|h
 ·refine .inl ⟨?_,?_,?_,?_,?_⟩<;>simp[h]
 ·exact .inr (.inl ⟨by simp[h],by simp[h]⟩)
 ·exact .inr (.inr ⟨by simp[h],by simp[h]⟩)
theorem xD (p:aD)(l:bL)(w:aA)(pick:Int)(hp:p.few)(hw:w.few)(hsp:aU p=true)(hg:bJ p w=true)(h:(cV p w pick).2.2=0):
  PC L 89 [(ply p l),.agg w.cs,.i pick] (.tup [.agg (cV p w pick).1.cs,evV (cV p w pick).2.1]):=by
 have hT:=aHh p w pick hp hw hsp;obtain⟨_,h0,e1,e2,e3⟩:(cV p w pick).2.2=0/\ (aBt p w pick).2.2.2=0/\ aBt p w pick=fE p w pick/\ (cV p w pick).1=(fE p w pick).1/\ (cV p w pick).2.1=(fE p w pick).2.1:=by
  rcases aC8 hg pick with h'|⟨_,h'⟩|⟨_,h'⟩
  ·exact h'
  ·rw[h]at h';cases h'
  ·rw[h]at h';cases h'
 rw[h0,e1]at hT;rw[e2,e3]
 refine pcA func89 ?_
 simp only[go_sem,kK]
 refine aH ?_
 simp only[go_sem,hT.ret,evV,kA,kF]
 refine bS ?_
 simp only[go_sem,(dI _).ret]
 refine bS ?_
 simp only[go_sem,(dI _).ret]
 refine aH ?_
 simp only[go_sem,kA,kF]
theorem xE (p:aD)(l:bL)(w:aA)(pick:Int)(hp:p.few)(hw:w.few)(hsp:aU p=true)(hg:bJ p w=true)(h: ¬(cV p w pick).2.2=0):
  PX L 89 [(ply p l),.agg w.cs,.i pick] (aBb (cV p w pick).2.2):=by
 have hT:=aHh p w pick hp hw hsp;rcases aC8 hg pick with h'|⟨h1,h2⟩|⟨h1,h2⟩
 ·exact absurd h'.1 h
 ·rw[h1]at hT;rw[h2]
  refine pxA func89 ?_
  simp only[go_sem,kK]
  refine aH ?_
  simp only[go_sem,hT.ret,evV,kA,kF]
  refine cR 2 rfl ?_
  simp only[go_sem,bS3,bS2,(bR _).ret]
 ·rw[h1]at hT;rw[h2]
  refine pxA func89 ?_
  simp only[go_sem,kK]
  refine aH ?_
  simp only[go_sem,hT.ret,evV,kA,kF]
  refine bS ?_
  simp only[go_sem,(dI _).ret]
  refine cR 3 rfl ?_
  simp only[go_sem,bS3,bS2,(bR _).ret]
theorem sA (w:aA)(hw:w.few)(hs:bZ w=true):PC L 48 [.agg w.cs] (.agg w.cs):=by
 obtain⟨b1,b2,b3,b4⟩:=aM2 hs;have c1:=rO (w.tasks.map (.int .i64)) (tM _) (by simp;omega)
 have c2:=aGp (w.outs.map bO.enc) (aJt _) (by simp;omega)
 have c3:=rO (w.ins.map (.int .i64)) (tM _) (by simp;omega)
 refine pcA func48 ?_
 simp only[go_sem,kK]
 refine aK0 (fun st=>st.fr 2= .ptr ⟨0,2,0⟩ 0/\ st.en ⟨0,2,0⟩=some (.box [.cl [],.cl [],.cl [],.cl [],.i 0] false)/\ st.fr 1= .ptr ⟨0,1,0⟩ 0/\ st.en ⟨0,1,0⟩=some (.box [.fz (w.objs.map aP.enc),.fz (w.tasks.map (.int .i64)),.fz (w.outs.map bO.enc),.fz (w.ins.map (.int .i64)),.i w.used] false)/\ st.fr 3= .ptr ⟨0,3,0⟩ 0/\
  ∃vT vO vI,st.en ⟨0,3,0⟩=some (.box [.cl [],vT,vO,vI,.i w.used] false)/\ cX st.en vT 1 (w.tasks.map (.int .i64)) [11]/\ cX st.en vO 2 (w.outs.map bO.enc) [14]/\ cX st.en vI 1 (w.ins.map (.int .i64)) [17]) ?_ ?_
 ·refine aH ?_
  rcases jU 1 (w.tasks.map (Val.int .i64))with⟨t1,t2⟩|⟨t1,t2⟩<;>rw[t2]at c1<;>
  rcases jU 2 (w.outs.map bO.enc)with⟨o1,o2⟩|⟨o1,o2⟩<;>rw[o2]at c2<;>
  rcases jU 1 (w.ins.map (Val.int .i64))with⟨i1,i2⟩|⟨i1,i2⟩<;>rw[i2]at c3
  all_goals simp only[go_sem,kA,kF,c1.ret,c2.ret,c3.ret,bSy,bSx,if_true,kB]
  all_goals refine⟨_,_,_,rfl,?_,?_,?_⟩
  all_goals first
   |exact .inl ⟨rfl,by assumption⟩
   |exact aK1 (by simp only[go_sem];try rfl) (by simp only[bSy])
 ·rintro fr en cnt ⟨h2,e2,h1,e1,h3,vT,vO,vI,e3,mT,mO,mI⟩
  dsimp only at h2 e2 h1 e1 h3 e3 mT mO mI;simp only[go_sem,h1,e1]
  refine bK w.objs.length (fun k st=> ∃fr en cnt v,st=⟨fr,en,cnt⟩/\ fr 2= .ptr ⟨0,2,0⟩ 0/\ en ⟨0,2,0⟩=some (.box [.cl [],.cl [],.cl [],.cl [],.i 0] false)/\ fr 3= .ptr ⟨0,3,0⟩ 0/\ en ⟨0,3,0⟩=some (.box [v,vT,vO,vI,.i w.used] false)/\ fr 22= .fz (w.objs.map aP.enc)/\ fr 23= .i w.objs.length/\ fr 24= .i k/\
   cX en vT 1 (w.tasks.map (.int .i64)) [11]/\ cX en vO 2 (w.outs.map bO.enc) [14]/\ cX en vI 1 (w.ins.map (.int .i64)) [17]/\ cX en v 4 ((w.objs.take k).map aP.enc) [62]) 0 (bS4 _) ⟨_,_,_,.cl [],rfl,by simp only[go_sem,h2],by simp only[go_sem,e2],by simp only[go_sem,h3],by simp only[go_sem,e3],by simp only[go_sem],by simp only[go_sem],by simp only[go_sem],mT,mO,mI,cX.nil _ _⟩ ?_
  rintro k st hk ⟨fr,en,cnt,v,rfl,h2,e2,h3,e3,h22,h23,h24,mT,mO,mI,hv⟩
  simp only[go_sem,kK,h23,h24]
  refine aG (fun hq=>?_) (fun hq=>?_)
  ·have h':k<w.objs.length:=D_o hq;have hso:=aE9 hs _ (bS7 h');obtain⟨d1,d2,d3⟩:=aP4 hso;simp only[go_sem,h',h22,h24];generalize ho:w.objs[k]=o;rw[ho]at hso d1 d2 d3;have hvl:=rP (o.vals.map aE.enc) (xW _) (by simp;omega)
   have hfo:Few o.frames.length:=by unfold Few;omega
   generalize hg5:cnt 0 5=g5;generalize hg6:cnt 0 6=g6
   refine aK0 (fun st=>st.fr 2= .ptr ⟨0,2,0⟩ 0/\ st.en ⟨0,2,0⟩=some (.box [.cl [],.cl [],.cl [],.cl [],.i 0] false)/\ st.fr 3= .ptr ⟨0,3,0⟩ 0/\ st.en ⟨0,3,0⟩=some (.box [v,vT,vO,vI,.i w.used] false)/\ st.fr 22= .fz (w.objs.map aP.enc)/\ st.fr 23= .i w.objs.length/\ st.fr 24= .i k/\ st.fr 5= .ptr ⟨0,5,g5⟩ 0/\ st.en ⟨0,5,g5⟩=some (.box [.i o.form,.i o.n,.fz (o.vals.map aE.enc),.fz (o.frames.map aB.enc)] false)/\ st.fr 6= .ptr ⟨0,6,g6⟩ 0/\ ∃u,st.en ⟨0,6,g6⟩=some (.box [.i o.form,.i o.n,u,.cl []] false)/\
    cX st.en u 2 (o.vals.map aE.enc) [34]/\ cX st.en vT 1 (w.tasks.map (.int .i64)) [11]/\ cX st.en vO 2 (w.outs.map bO.enc) [14]/\ cX st.en vI 1 (w.ins.map (.int .i64)) [17]/\ cX st.en v 4 ((w.objs.take k).map aP.enc) [62]) ?_ ?_
   ·refine aH ?_
    rcases jU 2 (o.vals.map aE.enc)with⟨t1,t2⟩|⟨t1,t2⟩<;>rw[t2]at hvl
    all_goals simp only[go_sem,hg6,h2,e2,h3,e3,h22,h23,h24,kA,kF,hvl.ret,bSy,bSx,if_true,kB]
    all_goals refine⟨_,rfl,?_,?_,?_,?_,?_⟩
    all_goals first
     |(simp only[go_sem,qW,h2,e2,h3,e3,h22,h23,h24];done)
     |(refine mT.keep fun t g ht=>?_;simp at ht;subst ht;simp only[go_sem];done)
     |(refine mO.keep fun t g ht=>?_;simp at ht;subst ht;simp only[go_sem];done)
     |(refine mI.keep fun t g ht=>?_;simp at ht;subst ht;simp only[go_sem];done)
     |(refine hv.keep fun t g ht=>?_;simp at ht;subst ht;simp only[go_sem];done)
     |exact .inl ⟨rfl,by assumption⟩
     |exact aK1 (by simp only[go_sem];try rfl) (by simp only[bSy])
     |skip
   ·rintro fr en cnt ⟨h2,e2,h3,e3,h22,h23,h24,h5,e5,h6,u,e6,mV,mT,mO,mI,hv⟩
    dsimp only at h2 e2 h3 e3 h22 h23 h24 h5 e5 h6 e6 mV mT mO mI hv;simp only[go_sem,h5,e5]
    refine bK o.frames.length (fun j st=> ∃fr en cnt x,st=⟨fr,en,cnt⟩/\ fr 2= .ptr ⟨0,2,0⟩ 0/\ en ⟨0,2,0⟩=some (.box [.cl [],.cl [],.cl [],.cl [],.i 0] false)/\ fr 3= .ptr ⟨0,3,0⟩ 0/\ en ⟨0,3,0⟩=some (.box [v,vT,vO,vI,.i w.used] false)/\ fr 22= .fz (w.objs.map aP.enc)/\ fr 23= .i w.objs.length/\ fr 24= .i k/\ fr 6= .ptr ⟨0,6,g6⟩ 0/\ en ⟨0,6,g6⟩=some (.box [.i o.form,.i o.n,u,x] false)/\ fr 37= .fz (o.frames.map aB.enc)/\ fr 38= .i o.frames.length/\ fr 39= .i j/\
     cX en u 2 (o.vals.map aE.enc) [34]/\ cX en x 3 ((o.frames.take j).map aB.enc) [55]/\ cX en vT 1 (w.tasks.map (.int .i64)) [11]/\ cX en vO 2 (w.outs.map bO.enc) [14]/\ cX en vI 1 (w.ins.map (.int .i64)) [17]/\ cX en v 4 ((w.objs.take k).map aP.enc) [62]) 0 (bS4 _) ⟨_,_,_,.cl [],rfl,by simp only[go_sem,h2],by simp only[go_sem,e2],by simp only[go_sem,h3],by simp only[go_sem,e3],by simp only[go_sem,h22],by simp only[go_sem,h23],by simp only[go_sem,h24],by simp only[go_sem,h6],by simp only[go_sem,e6],by simp only[go_sem],by simp only[go_sem],by simp only[go_sem],?_,cX.nil _ _,?_,?_,?_,?_⟩ ?_
    ·exact mV.keep fun t g ht=>by simp at ht;subst ht;simp only[go_sem]
    ·exact mT.keep fun t g ht=>by simp at ht;subst ht;simp only[go_sem]
    ·exact mO.keep fun t g ht=>by simp at ht;subst ht;simp only[go_sem]
    ·exact mI.keep fun t g ht=>by simp at ht;subst ht;simp only[go_sem]
    ·exact hv.keep fun t g ht=>by simp at ht;subst ht;simp only[go_sem]
    rintro j st hj ⟨fr,en,cnt,x,rfl,h2,e2,h3,e3,h22,h23,h24,h6,e6,h37,h38,h39,mV,mX,mT,mO,mI,hv⟩
    simp only[go_sem,kK,h38,h39]
    refine aG (fun hq'=>?_) (fun hq'=>?_)
    ·have h'':j<o.frames.length:=D_o hq';have hb:=d3 _ (bS7 h'');simp only[go_sem,h'',h37,h39];generalize hf:o.frames[j]=f;rw[hf]at hb;have ce:=rP (f.env.map aE.enc) (xW _) (by simp;omega)
     have cv:=rP (f.vals.map aE.enc) (xW _) (by simp;omega)
     refine aH ?_
     rcases jU 2 (f.env.map aE.enc)with⟨t1,t2⟩|⟨t1,t2⟩<;>rw[t2]at ce<;>
     rcases jU 2 (f.vals.map aE.enc)with⟨u1,u2⟩|⟨u1,u2⟩<;>rw[u2]at cv
     all_goals simp only[go_sem,h6,e6,kA,kF,ce.ret,cv.ret,bSy,bSx,if_true,rQ,kB]
     all_goals
      have hap:=mX.shape
      refine aIf (D:=[55]) (xs:=(o.frames.take j).map aB.enc) (ys:=[aB.enc f]) (rs:=[]) ?_ ?_ ?_ rfl ?_ ?_
      ·simp only[go_sem];exact mX.keep fun t g ht=>by simp at ht;subst ht;simp only[go_sem]
      ·simp only[go_sem,t1,u1]
      ·first|rfl|simp[aB.enc]
      ·simp;omega
      ·intro v' en' cnt' r hown hen hcnt _ _ _;have k2:en' ⟨0,2,0⟩=some (.box [.cl [],.cl [],.cl [],.cl [],.i 0] false):=by rw[hen 0 2 0 (.inr ⟨by decide,by simp⟩)];simp only[go_sem,e2]
       have k3:en' ⟨0,3,0⟩=some (.box [v,vT,vO,vI,.i w.used] false):=by rw[hen 0 3 0 (.inr ⟨by decide,by simp⟩)];simp only[go_sem,e3]
       have k6:en' ⟨0,6,g6⟩=some (.box [.i o.form,.i o.n,u,x] false):=by rw[hen 0 6 g6 (.inr ⟨by decide,by simp⟩)];simp only[go_sem,e6]
       obtain⟨s1,s2⟩:=hown.shape;simp only[go_sem,h6,k6,h39,s1,s2]
       refine⟨_,_,_,v',rfl,?_⟩
       simp only[go_sem,h2,k2,h3,k3,h22,h23,h24,h6,h37,h38,aR h'' hfo]
       refine⟨mV.keep ?_,?_,mT.keep ?_,mO.keep ?_,mI.keep ?_,hv.keep ?_⟩
       ·intro t g ht;simp at ht;subst ht;rw[kG (by simp),hen 0 34 g (.inr ⟨by decide,by simp⟩)];simp only[go_sem]
       ·rw[iG h'',bT0,hf]
        refine cX.sub (D:=[55,55]) (cX.keep (en:=en') hown ?_) (by simp)
        intro t g ht;simp at ht;subst ht;simp only[go_sem]
       ·intro t g ht;simp at ht;subst ht;rw[kG (by simp),hen 0 11 g (.inr ⟨by decide,by simp⟩)];simp only[go_sem]
       ·intro t g ht;simp at ht;subst ht;rw[kG (by simp),hen 0 14 g (.inr ⟨by decide,by simp⟩)];simp only[go_sem]
       ·intro t g ht;simp at ht;subst ht;rw[kG (by simp),hen 0 17 g (.inr ⟨by decide,by simp⟩)];simp only[go_sem]
       ·intro t g ht;simp at ht;subst ht;rw[kG (by simp),hen 0 62 g (.inr ⟨by decide,by simp⟩)];simp only[go_sem]
    ·have:j=o.frames.length:=by simp at hq';omega
     subst this;rw[bUf]at mX;have kend: ∀(fr:Nat->Val) (en:En) (cnt:Nat->Nat->Nat),fr 2= .ptr ⟨0,2,0⟩ 0->en ⟨0,2,0⟩=some (.box [.cl [],.cl [],.cl [],.cl [],.i 0] false)->fr 3= .ptr ⟨0,3,0⟩ 0->en ⟨0,3,0⟩=some (.box [v,vT,vO,vI,.i w.used] false)->fr 22= .fz (w.objs.map aP.enc)->fr 23= .i w.objs.length->fr 24= .i k->
       cX en vT 1 (w.tasks.map (.int .i64)) [11]->cX en vO 2 (w.outs.map bO.enc) [14]->cX en vI 1 (w.ins.map (.int .i64)) [17]->
       ∀v' en' cnt',cX en' v' 4 ((w.objs.take k).map aP.enc++[aP.enc o]) [62,62]->(∀n t g,n≠0 \/(t≠62/\ t∉[62])->en' ⟨n,t,g⟩=en ⟨n,t,g⟩)->(∀n t,t≠62->cnt' n t=cnt n t)->
       jF L [fA 63 0 3,sT 1 63 62] ⟨jG fr 62 v',en',cnt'⟩ fun st'=>jF L [bN 64 BinOp.add (Opd.t 24) (cI 1),Abs.mT 24 64] st' fun st'=> ∃fr en cnt v,st'=⟨fr,en,cnt⟩/\ fr 2= .ptr ⟨0,2,0⟩ 0/\ en ⟨0,2,0⟩=some (.box [.cl [],.cl [],.cl [],.cl [],.i 0] false)/\ fr 3= .ptr ⟨0,3,0⟩ 0/\ en ⟨0,3,0⟩=some (.box [v,vT,vO,vI,.i w.used] false)/\ fr 22= .fz (w.objs.map aP.enc)/\ fr 23= .i w.objs.length/\ fr 24= .i (k+1:Nat)/\
        cX en vT 1 (w.tasks.map (.int .i64)) [11]/\ cX en vO 2 (w.outs.map bO.enc) [14]/\ cX en vI 1 (w.ins.map (.int .i64)) [17]/\ cX en v 4 ((w.objs.take (k+1)).map aP.enc) [62]:=by
      intro fr en cnt h2 e2 h3 e3 h22 h23 h24 mT mO mI v' en' cnt' hown hen hcnt;have k2:en' ⟨0,2,0⟩=some (.box [.cl [],.cl [],.cl [],.cl [],.i 0] false):=by rw[hen 0 2 0 (.inr ⟨by decide,by simp⟩)];simp only[go_sem,e2]
      have k3:en' ⟨0,3,0⟩=some (.box [v,vT,vO,vI,.i w.used] false):=by rw[hen 0 3 0 (.inr ⟨by decide,by simp⟩)];simp only[go_sem,e3]
      obtain⟨s1,s2⟩:=hown.shape;simp only[go_sem,h3,k3,h24,s1,s2]
      refine⟨_,_,_,v',rfl,?_⟩
      simp only[go_sem,h2,k2,h3,h22,h23,aR h' hw.objs]
      refine⟨mT.keep ?_,mO.keep ?_,mI.keep ?_,?_⟩
      ·intro t g ht;simp at ht;subst ht;rw[kG (by simp),hen 0 11 g (.inr ⟨by decide,by simp⟩)]
      ·intro t g ht;simp at ht;subst ht;rw[kG (by simp),hen 0 14 g (.inr ⟨by decide,by simp⟩)]
      ·intro t g ht;simp at ht;subst ht;rw[kG (by simp),hen 0 17 g (.inr ⟨by decide,by simp⟩)]
      ·rw[iG h',bT0,ho]
       refine cX.sub (D:=[62,62]) (cX.keep (en:=en') hown ?_) (by simp)
       intro t g ht;simp at ht;subst ht;simp only[go_sem]
     rcases mV with⟨rfl,n1⟩|⟨t,g,f,rfl,eV,m1⟩<;>rcases mX with⟨rfl,n2⟩|⟨t',g',f',rfl,eX,m2⟩<;>(try(simp only[bUg]at m1;subst m1))<;>(try(simp only[bUg]at m2;subst m2))
     ·simp only[go_sem,h2,e2,h3,e3,h24,h6,e6,bSx,if_true,kF]
      refine jO (D:=[62]) (xs:=(w.objs.take k).map aP.enc) (ys:=[aP.enc o]) (rs:=[]) ?_ ?_ rfl ?_ ?_
      ·simp only[go_sem];exact hv.keep fun t g ht=>by simp at ht;subst ht;simp only[go_sem]
      ·simp only[go_sem,aP.enc,n1,n2]
      ·simp;omega
      ·exact kend _ _ _ (by simp only[go_sem,h2]) (by simp only[go_sem,e2]) (by simp only[go_sem,h3]) (by simp only[go_sem,e3]) (by simp only[go_sem,h22]) (by simp only[go_sem,h23]) (by simp only[go_sem,h24]) (mT.keep fun t g ht=>by simp at ht;subst ht;simp only[go_sem]) (mO.keep fun t g ht=>by simp at ht;subst ht;simp only[go_sem]) (mI.keep fun t g ht=>by simp at ht;subst ht;simp only[go_sem])
     ·simp only[go_sem,h2,e2,h3,e3,h24,h6,e6,eX,bSy,bSx,if_true,rQ,kF]
      refine jO (D:=[62]) (xs:=(w.objs.take k).map aP.enc) (ys:=[aP.enc o]) (rs:=[]) ?_ ?_ rfl ?_ ?_
      ·simp only[go_sem];exact hv.keep fun t g ht=>by simp at ht;subst ht;simp only[go_sem]
      ·simp only[go_sem,aP.enc,n1]
      ·simp;omega
      ·exact kend _ _ _ (by simp only[go_sem,h2]) (by simp only[go_sem,e2]) (by simp only[go_sem,h3]) (by simp only[go_sem,e3]) (by simp only[go_sem,h22]) (by simp only[go_sem,h23]) (by simp only[go_sem,h24]) (mT.keep fun t g ht=>by simp at ht;subst ht;simp only[go_sem]) (mO.keep fun t g ht=>by simp at ht;subst ht;simp only[go_sem]) (mI.keep fun t g ht=>by simp at ht;subst ht;simp only[go_sem])
     ·simp only[go_sem,h2,e2,h3,e3,h24,h6,e6,eV,bSy,bSx,if_true,rQ,kF]
      refine jO (D:=[62]) (xs:=(w.objs.take k).map aP.enc) (ys:=[aP.enc o]) (rs:=[]) ?_ ?_ rfl ?_ ?_
      ·simp only[go_sem];exact hv.keep fun t g ht=>by simp at ht;subst ht;simp only[go_sem]
      ·simp only[go_sem,aP.enc,n2]
      ·simp;omega
      ·exact kend _ _ _ (by simp only[go_sem,h2]) (by simp only[go_sem,e2]) (by simp only[go_sem,h3]) (by simp only[go_sem,e3]) (by simp only[go_sem,h22]) (by simp only[go_sem,h23]) (by simp only[go_sem,h24]) (mT.keep fun t g ht=>by simp at ht;subst ht;simp only[go_sem]) (mO.keep fun t g ht=>by simp at ht;subst ht;simp only[go_sem]) (mI.keep fun t g ht=>by simp at ht;subst ht;simp only[go_sem])
     ·simp only[go_sem,h2,e2,h3,e3,h24,h6,e6,eV,eX,bSy,bSx,if_true,rQ,kF]
      refine jO (D:=[62]) (xs:=(w.objs.take k).map aP.enc) (ys:=[aP.enc o]) (rs:=[]) ?_ ?_ rfl ?_ ?_
      ·simp only[go_sem];exact hv.keep fun t g ht=>by simp at ht;subst ht;simp only[go_sem]
      ·simp only[go_sem,aP.enc]
      ·simp;omega
      ·exact kend _ _ _ (by simp only[go_sem,h2]) (by simp only[go_sem,e2]) (by simp only[go_sem,h3]) (by simp only[go_sem,e3]) (by simp only[go_sem,h22]) (by simp only[go_sem,h23]) (by simp only[go_sem,h24]) (mT.keep fun t g ht=>by simp at ht;subst ht;simp only[go_sem]) (mO.keep fun t g ht=>by simp at ht;subst ht;simp only[go_sem]) (mI.keep fun t g ht=>by simp at ht;subst ht;simp only[go_sem])
  ·have:k=w.objs.length:=by simp at hq;omega
   subst this;rw[bUf]at hv;simp only[go_sem,h2,e2,h3,e3];obtain⟨r1,ks1,s1,s1',_⟩:=(hv.keep (en':=en.set ⟨0,2,0⟩ (some (.box [v,vT,vO,vI,.i w.used] false))) fun t g ht=>by simp at ht;subst ht;simp only[go_sem]).snap 6
   obtain⟨r2,ks2,s2,s2',_⟩:=(mT.keep (en':=en.set ⟨0,2,0⟩ (some (.box [v,vT,vO,vI,.i w.used] false))) fun t g ht=>by simp at ht;subst ht;simp only[go_sem]).snap 6
   obtain⟨r3,ks3,s3,s3',_⟩:=(mO.keep (en':=en.set ⟨0,2,0⟩ (some (.box [v,vT,vO,vI,.i w.used] false))) fun t g ht=>by simp at ht;subst ht;simp only[go_sem]).snap 6
   obtain⟨r4,ks4,s4,s4',_⟩:=(mI.keep (en':=en.set ⟨0,2,0⟩ (some (.box [v,vT,vO,vI,.i w.used] false))) fun t g ht=>by simp at ht;subst ht;simp only[go_sem]).snap 6
   simp only[go_sem,s1,s2,s3,s4,s1',s2',s3',s4']
def bIi :fR:={np:=2,res:=[.tmp 4],keep:=false,body:=
 (.seq (.ops [mC 4 (.bool false)])
 (.seq (.seq (.ops [mT 6 0,
 lN 7 6,
 mT 8 1,
 lN 9 8,
 bN 10 .neq (.t 7) (.t 9)])
 (.cond (.t 10)
 (.seq (.ops [mC 4 (.bool false)])
 .ret)
 .skip))
 (.seq (.seq (.ops [mT 11 0,
 lN 12 11,
 mC 13 (.int .i64 0)])
 (.block 0 (.loop (.seq (.ops [bN 14 .lss (.t 13) (.t 12)])
 (.seq (.cond (.t 14)
 .skip
 (.exit 0))
 (.seq (.block 1 (.seq (.ops [mT 15 13,
 mT 5 15])
 (.seq (.draw [mT 16 0,
 mT 17 5,
 iA 18 2 16 17,
 lT 19 2 18,
 mT 20 1,
 mT 21 5,
 iA 22 2 20 21,
 lT 23 2 22,
 o 24 (.bin .neq (.agg [.num,.num]) (.t 19) (.t 23))]
 [])
 (.cond (.t 24)
 (.seq (.ops [mC 4 (.bool false)])
 .ret)
 .skip))))
 (.ops [bN 25 .add (.t 13) (cI 1),
 mT 13 25])))))))
 (.seq (.ops [mC 4 (.bool true)])
 .ret))))}
theorem bM8 :L 163=some bIi:=by kernel_rfl
theorem aSs (a b:List bO)(ha:Few a.length):PC L 163 [.fz (a.map bO.enc),.fz (b.map bO.enc)] (.bool (decide (a=b))):=by
 refine cD bM8 rfl rfl ?_
 simp only[go_sem,kK,bIi]
 refine aG (fun h=>?_) (fun h=>?_)
 ·simp only[go_sem,kK]
  simp at h
  have: ¬a=b:=by rintro rfl;exact h rfl
  simp[this]
 ·have hl:a.length=b.length:=by simp at h;exact h
  simp only[go_sem]
  refine bK (a.length) (fun k st=> ∃fr en cnt,st=⟨fr,en,cnt⟩/\ (fr 0= .fz (a.map bO.enc))/\ (fr 1= .fz (b.map bO.enc))/\ (fr 12= .i a.length)/\ (fr 13= .i k)/\ (a.take k=b.take k)) 0 (bS4 _) (by refine⟨_,_,_,rfl,?_,?_,?_,?_,?_⟩<;>first|(simp only[go_sem];(try rfl);done)|rfl|(simp;done)) ?_
  rintro k st hk ⟨fr,en,cnt,rfl,h0,h1,h12,h13,hI⟩
  simp only[go_sem,kK,h12,h13]
  refine aG (fun hq=>?_) (fun hq=>?_)
  ·have h':k<a.length:=D_o hq;have h'':k<b.length:=by omega
   simp only[go_sem,kK,h',h'',h0,h1,h13,bO.eq_iff]
   refine aG (fun hb=>?_) (fun hb=>?_)
   ·simp only[go_sem,kK]
    simp at hb
    simp[aEf h' h'' hb]
   ·simp only[go_sem,h13]
    simp at hb
    refine⟨_,_,_,rfl,?_⟩
    simp only[go_sem,h0,h1,h12,aR h' ha];exact sV h' h'' hI hb
  ·have:k=a.length:=by simp at hq;omega
   subst this;simp only[go_sem];simp[sW hl hI]
theorem aKs (a b:aB)(ha:a.few):PC L 157 [.agg [.i a.node,.fz (a.env.map aE.enc),.fz (a.vals.map aE.enc)],.agg [.i b.node,.fz (b.env.map aE.enc),.fz (b.vals.map aE.enc)]] (.bool (decide (a=b))):=by
 rw[aB.eq_iff]
 refine pcA func157 ?_
 simp only[go_sem,kK]
 refine aI (fun g1=>?_) (fun g1=>?_)
 ·simp only[go_sem,kK,g1,(aA2 _ _ ha.1).ret]
  refine aI (fun g2=>?_) (fun g2=>?_)
  ·simp only[go_sem,kK,g2,(aA2 _ _ ha.2).ret,bTo]
  ·simp only[go_sem,kK,g2,bS6,bTk]
 ·simp only[go_sem,kK,g1,bS6,bTk]
theorem aFj (a b:List aB)(ha:Few a.length)(hf: ∀x∈a,x.few):PC L 160 [.fz (a.map aB.enc),.fz (b.map aB.enc),.fn 157 [] []] (.bool (decide (a=b))):=by
 refine pcA func160 ?_
 simp only[go_sem,kK]
 refine aG (fun h=>?_) (fun h=>?_)
 ·simp only[go_sem,kK]
  simp at h
  have: ¬a=b:=by rintro rfl;exact h rfl
  simp[this]
 ·have hl:a.length=b.length:=by simp at h;exact h
  simp only[go_sem]
  refine bK (a.length) (fun k st=> ∃fr en cnt,st=⟨fr,en,cnt⟩/\ (fr 0= .fz (a.map aB.enc))/\ (fr 1= .fz (b.map aB.enc))/\ (fr 2= .fn 157 [] [])/\ (fr 15= .fz (a.map aB.enc))/\ (fr 16= .i a.length)/\ (fr 17= .i k)/\ (a.take k=b.take k)) 0 (bS4 _) (by refine⟨_,_,_,rfl,?_,?_,?_,?_,?_,?_,?_⟩<;>first|(simp only[go_sem];(try rfl);done)|rfl|(simp;done)) ?_
  rintro k st hk ⟨fr,en,cnt,rfl,h0,h1,h2,h15,h16,h17,hI⟩
  simp only[go_sem,kK,h16,h17]
  refine aG (fun hq=>?_) (fun hq=>?_)
  ·have h':k<a.length:=D_o hq;have h'':k<b.length:=by omega
   simp only[go_sem,kK,h',h'',h1,h2,h15,h17,(aKs _ b[k] (hf _ (bS7 h'))).ret]
   refine aG (fun hb=>?_) (fun hb=>?_)
   ·simp only[go_sem,kK]
    simp at hb
    simp[aEf h' h'' hb]
   ·simp only[go_sem,h17]
    simp at hb
    refine⟨_,_,_,rfl,?_⟩
    simp only[go_sem,h0,h1,h2,h15,h16,aR h' ha];exact sV h' h'' hI hb
  ·have:k=a.length:=by simp at hq;omega
   subst this;simp only[go_sem];simp[sW hl hI]
theorem aKt (a b:aP)(ha:a.few):PC L 159 [.agg [.i a.form,.i a.n,.fz (a.vals.map aE.enc),.fz (a.frames.map aB.enc)],.agg [.i b.form,.i b.n,.fz (b.vals.map aE.enc),.fz (b.frames.map aB.enc)],.fp [.fn 157 [] []] 0] (.bool (decide (a=b))):=by
 rw[aP.eq_iff]
 refine pcA func159 ?_
 simp only[go_sem,kK]
 refine aI (fun g1=>?_) (fun g1=>?_)
 ·simp only[go_sem,kK,g1]
  refine aI (fun g2=>?_) (fun g2=>?_)
  ·simp only[go_sem,kK,g2,(aA2 _ _ ha.1).ret]
   refine aI (fun g3=>?_) (fun g3=>?_)
   ·simp only[go_sem,kK,g3,(aFj _ _ ha.2.1 ha.2.2).ret,bTo]
   ·simp only[go_sem,kK,g3,bS6,bTk]
  ·simp only[go_sem,kK,g2,bS6,bTk]
 ·simp only[go_sem,kK,g1,bS6,bTk]
theorem aIw (a b:List aP)(ha:Few a.length)(hf: ∀x∈a,x.few):PC L 161 [.fz (a.map aP.enc),.fz (b.map aP.enc),.fn 159 [] [.fp [.fn 157 [] []] 0]] (.bool (decide (a=b))):=by
 refine pcA func161 ?_
 simp only[go_sem,kK]
 refine aG (fun h=>?_) (fun h=>?_)
 ·simp only[go_sem,kK]
  simp at h
  have: ¬a=b:=by rintro rfl;exact h rfl
  simp[this]
 ·have hl:a.length=b.length:=by simp at h;exact h
  simp only[go_sem]
  refine bK (a.length) (fun k st=> ∃fr en cnt,st=⟨fr,en,cnt⟩/\ (fr 0= .fz (a.map aP.enc))/\ (fr 1= .fz (b.map aP.enc))/\ (fr 2= .fn 159 [] [.fp [.fn 157 [] []] 0])/\ (fr 15= .fz (a.map aP.enc))/\ (fr 16= .i a.length)/\ (fr 17= .i k)/\ (a.take k=b.take k)) 0 (bS4 _) (by refine⟨_,_,_,rfl,?_,?_,?_,?_,?_,?_,?_⟩<;>first|(simp only[go_sem];(try rfl);done)|rfl|(simp;done)) ?_
  rintro k st hk ⟨fr,en,cnt,rfl,h0,h1,h2,h15,h16,h17,hI⟩
  simp only[go_sem,kK,h16,h17]
  refine aG (fun hq=>?_) (fun hq=>?_)
  ·have h':k<a.length:=D_o hq;have h'':k<b.length:=by omega
   simp only[go_sem,kK,h',h'',h1,h2,h15,h17,(aKt _ b[k] (hf _ (bS7 h'))).ret]
   refine aG (fun hb=>?_) (fun hb=>?_)
   ·simp only[go_sem,kK]
    simp at hb
    simp[aEf h' h'' hb]
   ·simp only[go_sem,h17]
    simp at hb
    refine⟨_,_,_,rfl,?_⟩
    simp only[go_sem,h0,h1,h2,h15,h16,aR h' ha];exact sV h' h'' hI hb
  ·have:k=a.length:=by simp at hq;omega
   subst this;simp only[go_sem];simp[sW hl hI]
theorem aA.eq_iff {a b:aA}:decide (a=b)=(decide (a.objs=b.objs)&&decide (a.tasks=b.tasks)&&decide (a.outs=b.outs)&&decide (a.ins=b.ins)&&decide (a.used=b.used)):=by
 cases a;cases b;simp[Bool.and_assoc]
theorem aSt (a b:aA)(ha:a.few):PC L 103 [.agg a.cs,.agg b.cs] (.bool (decide (a=b))):=by
 rw[aA.eq_iff]
 refine pcA func103 ?_
 simp only[go_sem,kK,bJu,bDc,kF,(aIw _ _ ha.objs ha.obj).ret]
 refine aI (fun g1=>?_) (fun g1=>?_)
 ·simp only[go_sem,kK,g1,(aGq _ _ ha.tasks).ret]
  refine aI (fun g2=>?_) (fun g2=>?_)
  ·simp only[go_sem,kK,g2,(aSs _ _ ha.outs).ret]
   refine aI (fun g3=>?_) (fun g3=>?_)
   ·simp only[go_sem,kK,g3,(aGq _ _ ha.ins).ret]
    refine aI (fun g4=>?_) (fun g4=>?_)
    ·simp only[go_sem,kK,g4,bTo]
    ·simp only[go_sem,kK,g4,bS6,bTk]
   ·simp only[go_sem,kK,g3,bS6,bTk]
  ·simp only[go_sem,kK,g2,bS6,bTk]
 ·simp only[go_sem,kK,g1,bS6,bTk]
def bEl :fR:={np:=1,res:=[.cell 2 true 3],keep:=false,body:=
 (.seq (.ops [bX 1 3 0,
 o 2 (.alloc [(.int .i64 0),(.cl []),(.cl [])])])
 (.seq (.draw [fA 6 0 1,
 l1 7 6,
 fA 8 1 1,
 l1 9 8,
 cL 10 104 [(.t 9)],
 o 11 (.build [(.int .i64 0),(.cl []),(.cl [])] [(0,1,(.t 7)),(1,1,(.t 10))]),
 o 3 (.alloc [(.int .i64 0),(.cl []),(.cl [])]),
 sT 3 3 11]
 [(1,4),(1,6),(3,6),(4,6)])
 (.seq (.seq (.ops [fA 12 2 1,
 l1 13 12,
 lN 14 13,
 mC 15 (.int .i64 0)])
 (.block 0 (.loop (.seq (.ops [bN 16 .lss (.t 15) (.t 14)])
 (.seq (.cond (.t 16)
 .skip
 (.exit 0))
 (.seq (.block 1 (.seq (.ops [iA 17 5 13 15,
 lT 18 5 17,
 o 5 (.alloc [(.cl []),(.cl []),(.cl []),(.cl []),(.int .i64 0)]),
 sT 5 5 18])
 (.draw [fA 19 2 3,
 l1 20 19,
 lT 21 5 5,
 cL 22 48 [(.t 21)],
 o 23 (.bslice 1 5 [(.cl []),(.cl []),(.cl []),(.cl []),(.int .i64 0)] [(0,(.t 22))]),
 o 24 (.append 5 (.t 20) (.t 23)),
 fA 25 2 3,
 sT 1 25 24]
 [(1,3),(1,4)])))
 (.ops [bN 26 .add (.t 15) (cI 1),
 mT 15 26])))))))
 (.seq (.ops [lT 27 3 3,
 sT 3 2 27])
 .ret))))}
theorem bM9 :L 86=some bEl:=by kernel_rfl
def aHn (g3:Nat)(en en':En):Prop:= ∀n t g,(n≠0 \/t∉[1,2,3,5,10,24] \/(t=3/\ g<g3))->en' ⟨n,t,g⟩=en ⟨n,t,g⟩
variable {en:En}{g3:Nat}
theorem aHn.refl :aHn g3 en en:=fun _ _ _ _=>rfl
variable {e:Option Ent}{en':En}{g t:Nat}
theorem aHn.set (h:aHn g3 en en')(ht:t∈[1,2,3,5,10,24])(hg:t=3->g3<=g):aHn g3 en (en'.set ⟨0,t,g⟩ e):=by
 intro n u g' k;rw[kG,h n u g' k];intro he
 injection he with h1 h2 h3
 subst h1 h2 h3;rcases k with k|k|k
 ·exact k rfl
 ·exact k ht
 ·have:=hg k.1;omega
theorem aHn.step {en2:En}(h:aHn g3 en en')(k: ∀n t g,n≠0 \/(t≠24/\ t∉[24])->en2 ⟨n,t,g⟩=en' ⟨n,t,g⟩):aHn g3 en en2:=fun n t g q=>by
 rw[k n t g,h n t g q];rcases q with q|q|q
 ·exact .inl q
 ·exact .inr ⟨fun e=>q (by simp[e]),fun e=>q (by simp at e;simp[e])⟩
 ·exact .inr ⟨by omega,by simp;omega⟩
variable {l:bL}
theorem aQo (hl:l.few)(hp:l.picks.length<=16777216)(hm:l.marks.length<=16777216)(hs: ∀w∈l.marks,bZ w=true){en0:En}{cnt0:Nat->Nat->Nat}(n1:cnt0 0 1=0)(n2:cnt0 0 2=0)(n3:cnt0 0 3=g3){R:Ex->St->Prop}
  (hR: ∀fr en cnt vP v,fr 2= .ptr ⟨0,2,0⟩ 0->en ⟨0,2,0⟩=some (.box [.i l.every,vP,v] false)->cX en vP 1 (l.picks.map (.int .i64)) [10]->cX en v 5 (l.marks.map aA.enc) [24]->aHn g3 en0 en->R .ret ⟨fr,en,cnt⟩):
  Wp L bEl.body ⟨fun i=>[.agg [.i l.every,.is l.picks,.fz (l.marks.map aA.enc)]].getD i (.tup []),en0,cnt0⟩ R:=by
 have c1:=rO (l.picks.map (.int .i64)) (tM _) (by simp;omega)
 simp only[go_sem,kK,bEl,n1,n2]
 refine aK0 (fun st=>st.fr 2= .ptr ⟨0,2,0⟩ 0/\ st.en ⟨0,2,0⟩=some (.box [.i 0,.cl [],.cl []] false)/\ st.fr 1= .ptr ⟨0,1,0⟩ 0/\ st.en ⟨0,1,0⟩=some (.box [.i l.every,.is l.picks,.fz (l.marks.map aA.enc)] false)/\ st.fr 3= .ptr ⟨0,3,g3⟩ 0/\
  ∃vP,st.en ⟨0,3,g3⟩=some (.box [.i l.every,vP,.cl []] false)/\ cX st.en vP 1 (l.picks.map (.int .i64)) [10]/\ aHn g3 en0 st.en) ?_ ?_
 ·refine aH ?_
  rcases jU 1 (l.picks.map (Val.int .i64))with⟨t1,t2⟩|⟨t1,t2⟩<;>rw[t2]at c1
  all_goals simp only[go_sem,kA,kF,n3,c1.ret,bSy,bSx,if_true,kB]
  all_goals refine⟨_,rfl,?_,?_⟩
  all_goals first
   |exact .inl ⟨rfl,by assumption⟩
   |exact aK1 (by simp only[go_sem];try rfl) (by simp only[bSy])
   |(repeat' refine aHn.set ?_ (by simp) (by simp)
     exact aHn.refl)
 ·rintro fr en cnt ⟨h2,e2,h1,e1,h3,vP,e3,mP,hO⟩
  dsimp only at h2 e2 h1 e1 h3 e3 mP hO;simp only[go_sem,h1,e1]
  refine bK l.marks.length (fun k st=> ∃fr en cnt v,st=⟨fr,en,cnt⟩/\ fr 2= .ptr ⟨0,2,0⟩ 0/\ en ⟨0,2,0⟩=some (.box [.i 0,.cl [],.cl []] false)/\ fr 3= .ptr ⟨0,3,g3⟩ 0/\ en ⟨0,3,g3⟩=some (.box [.i l.every,vP,v] false)/\ fr 13= .fz (l.marks.map aA.enc)/\ fr 14= .i l.marks.length/\ fr 15= .i k/\
   cX en vP 1 (l.picks.map (.int .i64)) [10]/\ cX en v 5 ((l.marks.take k).map aA.enc) [24]/\ aHn g3 en0 en) 0 (bS4 _) ⟨_,_,_,.cl [],rfl,by simp only[go_sem,h2],by simp only[go_sem,e2],by simp only[go_sem,h3],by simp only[go_sem,e3],by simp only[go_sem],by simp only[go_sem],by simp only[go_sem],mP,cX.nil _ _,hO⟩ ?_
  rintro k st hk ⟨fr,en,cnt,v,rfl,h2,e2,h3,e3,h13,h14,h15,mP,hv,hO⟩
  simp only[go_sem,kK,h14,h15]
  refine aG (fun hq=>?_) (fun hq=>?_)
  ·have h':k<l.marks.length:=D_o hq;have hso:=hs _ (bS7 h');have hfo:=hl.2.2 _ (bS7 h');simp only[go_sem,h',h13,h15,rZ h'];generalize ho:l.marks[k]=o;rw[ho]at hso hfo
   refine aH ?_
   simp only[go_sem,h3,e3,kA,kF,(sA _ hfo hso).ret]
   refine aIf (D:=[24]) (xs:=(l.marks.take k).map aA.enc) (ys:=[aA.enc o]) (rs:=[]) ?_ ?_ rfl rfl ?_ ?_
   ·simp only[go_sem];exact hv.keep fun t g ht=>by simp at ht;subst ht;simp only[go_sem]
   ·simp only[go_sem,aA.enc]
   ·simp;omega
   ·intro v' en' cnt' r hown hen hcnt _ _ _;have k2:en' ⟨0,2,0⟩=some (.box [.i 0,.cl [],.cl []] false):=by rw[hen 0 2 0 (.inr ⟨by decide,by simp⟩)];simp only[go_sem,e2]
    have k3:en' ⟨0,3,g3⟩=some (.box [.i l.every,vP,v] false):=by rw[hen 0 3 g3 (.inr ⟨by decide,by simp⟩)];simp only[go_sem,e3]
    obtain⟨s1,s2⟩:=hown.shape;simp only[go_sem,h3,k3,h15,s1,s2]
    refine⟨_,_,_,v',rfl,?_⟩
    simp only[go_sem,h2,k2,h3,h13,h14,aR h' hl.2.1]
    refine⟨mP.keep ?_,?_,((((hO.set (by simp) (by simp)).set (by simp) (by simp)).step hen).set (by simp) (by simp))⟩
    ·intro t g ht;simp at ht;subst ht;rw[kG (by simp),hen 0 10 g (.inr ⟨by decide,by simp⟩)];simp only[go_sem]
    ·rw[iG h',bT0,ho]
     refine cX.sub (D:=[24,24]) (cX.keep (en:=en') hown ?_) (by simp)
     intro t g ht;simp at ht;subst ht;simp only[go_sem]
  ·have:k=l.marks.length:=by simp at hq;omega
   subst this;rw[bUf]at hv;simp only[go_sem,h2,e2,h3,e3];exact hR _ _ _ vP v (by simp only[go_sem,h2]) (by simp only[go_sem]) (mP.keep fun t g ht=>by simp at ht;subst ht;simp only[go_sem]) (hv.keep fun t g ht=>by simp at ht;subst ht;simp only[go_sem]) (hO.set (by simp) (by simp))
theorem aN5 (l:bL)(hl:l.few)(hp:l.picks.length<=16777216)(hm:l.marks.length<=16777216)(hs: ∀w∈l.marks,bZ w=true):PC L 86 [.agg [.i l.every,.is l.picks,.fz (l.marks.map aA.enc)]] (.agg [.i l.every,.is l.picks,.fz (l.marks.map aA.enc)]):=by
 refine cD bM9 rfl rfl ?_
 refine aQo (g3:=0) hl hp hm hs rfl rfl rfl fun fr en cnt vP v f2 e2 mP hv _=>?_
 obtain⟨r1,ks1,s1,s1',_⟩:=hv.snap 6;obtain⟨r2,ks2,s2,s2',_⟩:=mP.snap 6;simp only[go_sem,bEl,f2,e2,s1,s2,s1',s2']
variable {cnt:Nat->Nat->Nat}
theorem aXw (hl:l.few)(hp:l.picks.length<=16777216)(hm:l.marks.length<=16777216)(hs: ∀w∈l.marks,bZ w=true)(n1:cnt 0 1=0)(n2:cnt 0 2=0)(n3:cnt 0 3=g3):
  WIn L (.fn 86 [] []) [.agg [.i l.every,.is l.picks,.fz (l.marks.map aA.enc)]] en cnt fun r en' cnt'=> ∃vP v,r= .agg [.i l.every,vP,v]/\ cX en' vP 1 (l.picks.map (.int .i64)) [10]/\ cX en' v 5 (l.marks.map aA.enc) [24]/\ aHn g3 en en':=by
 refine dP bM9 rfl rfl ?_
 refine aQo hl hp hm hs n1 n2 n3 fun fr en' cnt' vP v f2 e2 mP hv hO=>?_
 simp only[go_sem,bEl,f2,e2];exact⟨vP,v,rfl,mP,hv,hO⟩
theorem sY (p:aD)(l:bL)(a b:Int):PC L 53 [(ply p l),.i a,.i b] (.fn 109 [] [.fp [.i a] 0,.fp [.i b] 0,.fp [(ply p l)] 0]):=by
 refine pcA func53 ?_
 simp only[go_sem,kK,kF]
theorem bKd :cW .eql .iface .nili .nili=some (.bool true):=(rfl)
theorem bKe {v:Val}:cW .eql .iface (.ifc t v) .nili=some (.bool false):=(rfl)
theorem bBe {k:Key}{a b:Option Ent}:(en.set k a).set k b=en.set k b:=by
 funext j
 by_cases h:j=k<;>simp[En.set,h]
variable {K:St->Prop}{f:Val}{fr:Nat->Val}
theorem eN {x:Val}{e:Ex}(he:e.rcvd=some .nili)(hK:K ⟨fr,en,cnt⟩):
  ∃st4,(∃n0,∀n,n0<=n->iS L (exec L n) (.fn 42 [] []) [x,f] e ⟨fr,en,cnt⟩=some st4)/\ K st4:=by
 have hL:=at_ func42
 conv at hL=>rhs;reduce
 refine uW hL rfl he rfl rfl ?_
 simp only[go_sem,kK,bT4,bT1,bKd,kF];exact hK
theorem bI {k:Key}{x:Val}{e:Ex}{n:Int}(he:e.rcvd=some (aBb n))
  (hf:WIn L f [] (en.set ⟨0,5,cnt 0 5⟩ (some (.box [.i n] false))) (aC cnt 0 5 (cnt 0 5+1)) fun _ en' cnt'=>en' k=some (.box [x] false)/\ en' ⟨0,5,cnt 0 5⟩=some (.box [.i n] false)/\ K ⟨fr,en'.set k (some (.box [.i n] false)),cnt'⟩):
  ∃st4,(∃n0,∀n,n0<=n->iS L (exec L n) (.fn 42 [] []) [.ptr k 0,f] e ⟨fr,en,cnt⟩=some st4)/\ K st4:=by
 have hL:=at_ func42
 conv at hL=>rhs;reduce
 refine uW hL rfl he rfl rfl ?_
 simp only[go_sem,kK,aBb,bT4,bT1,bKe,kF,if_true];rw[bBe]
 refine WIn.mono hf ?_
 rintro v e2 c2 ⟨k1,k2,hk⟩
 simp only[go_sem,k1,k2];exact hk
set_option maxRecDepth 100000
set_option maxHeartbeats 4000000
set_option maxRecDepth 100000
set_option maxHeartbeats 4000000
structure oS (l:bL):Prop where
 e1:1<=aQ l
 e2:aQ l<=20
 ev:l.every=(aQ l:Int)
 pk:l.picks.length<=200
 mn:l.marks.length=l.picks.length/aQ l+1
theorem oS.of (h:iR p l=true):oS l:=let ⟨_,⟨a,b,c⟩,d,e,_⟩:=qP h;⟨a,b,c,d,e⟩
variable {n:Nat}
theorem oS.lt (h:oS l)(hn:n<=l.picks.length):n/aQ l<l.marks.length:=by
 rw[h.mn];have:=bWe (c:=aQ l) hn;omega
theorem oS.div (h:oS l)(n:Nat):((n:Int)).tdiv (aQ l:Int)=((n/aQ l:Nat):Int):=by
 rw[bWm (by omega)];rfl
theorem oS.few (h:oS l):Few l.picks.length:=by have:=h.pk;unfold Few;omega
theorem oS.wdiv (h:oS l)(hn:n<=l.picks.length):IntKind.i64.wrap (((n/aQ l:Nat):Int))=((n/aQ l:Nat):Int):=by
 have h1:=Nat.div_le_self n (aQ l);have:=h.pk;generalize n/aQ l=q at h1⊢;exact aV (by omega)
theorem oS.mul (h:oS l)(hn:n<=l.picks.length):IntKind.i64.wrap (((n/aQ l:Nat):Int)*(aQ l:Int))=((n/aQ l*aQ l:Nat):Int):=by
 have h1:=bWd n (aQ l);have:=h.pk;rw[<-Int.natCast_mul];generalize n/aQ l*aQ l=q at h1⊢;exact aV (by omega)
theorem oS.ne (h:oS l):((aQ l:Int)=0)=False:=eq_false (by have:=h.e1;omega)
theorem oH {k:Nat}(h:k<l.marks.length):pE l k=l.marks[k]:=by simp[pE,h]
theorem aXx (hl:oS l)(hn:n<=l.picks.length)(hm:n%aQ l=0):PC L 49 [.fp [.i l.every,.is l.picks,.fz (l.marks.map aA.enc),.fz (p.nodes.map aL.enc),.fz (p.funs.map (.int .i64)),.i p.main,.fz (p.cons.map dC.enc)] 0,.i (n:Int)] (.agg (pE l (n/aQ l)).cs):=by
 have hlt:=hl.lt hn;have hia:=fun en=>rZ (l:=l) (en:=en) hlt
 have hnn:n/aQ l*aQ l=n:=Nat.div_mul_cancel (bV5 hm);have hmul:=hl.mul hn;rw[hnn]at hmul;have ht:=sY p l n n;rw[oH hlt];simp only[ply,hl.ev]at ht⊢
 refine pcA func49 ?_
 simp only[go_sem,kK,hl.ne,hl.div,hl.wdiv hn,hmul,kF]
 refine aH ?_
 simp only[go_sem,hl.ne,hl.div,hl.wdiv hn,hia,kA,kF];simp only[go_sem,ht.ret]
 refine zG (by simp only[go_sem];rfl) ?_
 rintro fr0 k hf hk
 rw[aW4]at hk;subst hk
 refine dP aJm rfl rfl ?_
 simp only[go_sem,kK,aJl,D_t (bSx n),kF]
 done
def aEp (w x:aA)(e:fB):Val:= .agg [.fz (w.objs.map aP.enc),.is w.tasks,.fz (w.outs.map bO.enc),.is w.ins,.i w.used,.fz (x.objs.map aP.enc),.is x.tasks,.fz (x.outs.map bO.enc),.is x.ins,.i x.used,.i e.task,.i e.act,.i e.n,.i e.v.kind,.i e.v.n]
def tU (p:aD)(l:bL)(t:Nat):Val:=aEp (atX p l t).1 (aW p l t).1 (aW p l t).2.1
def T3 :List Nat:=[5,7,8]
def aXy (c0:Nat->Nat)(en en':En):Prop:= ∀n t g,(n≠0 \/t∉T3 \/g<c0 t)->en' ⟨n,t,g⟩=en ⟨n,t,g⟩
variable {c0:Nat->Nat}
theorem aXy.trans {x y z:En}(h:aXy c0 x y)(h':aXy c0 y z):aXy c0 x z:=fun n t g k=>(h' n t g k).trans (h n t g k)
def aSu (c0:Nat->Nat)(I:En->(Nat->Nat->Nat)->Prop):Prop:= ∀en cnt en' cnt',I en cnt->aXy c0 en en'->(∀n t,n≠0 \/t∉T3->cnt' n t=cnt n t)->(∀t∈T3,cnt 0 t<=cnt' 0 t)->I en' cnt'
theorem yC (ht:t∈T3)(hg:c0 t<=g):aXy c0 en (en.set ⟨0,t,g⟩ e):=by
 intro n u g' h
 refine kG fun he=>?_
 injection he with h1 h2 h3
 rcases h with h|h|h
 ·exact h h1
 ·exact h (h2▸ht)
 ·subst h2;omega
theorem sB (h:(aW p l t).2.2=0):(atX p l t).2=0/\ (cV p (atX p l t).1 (iP l t)).2.2=0/\ aW p l t=cV p (atX p l t).1 (iP l t):=by
 unfold aW at h⊢
 by_cases h1:(atX p l t).2=0
 ·rw[if_pos h1]at h⊢
  by_cases h2:(cV p (atX p l t).1 (iP l t)).2.2=0
  ·rw[if_pos h2];exact⟨h1,h2,rfl⟩
  ·rw[if_neg h2]at h;exact absurd h h2
 ·rw[if_neg h1]at h;exact absurd h h1
theorem aIx (h1:(atX p l t).2=0)(h: ¬(aW p l t).2.2=0): ¬(cV p (atX p l t).1 (iP l t)).2.2=0/\ (aW p l t).2.2=(cV p (atX p l t).1 (iP l t)).2.2:=by
 unfold aW at h⊢;rw[if_pos h1]at h⊢
 by_cases h2:(cV p (atX p l t).1 (iP l t)).2.2=0
 ·rw[if_pos h2]at h;exact absurd h2 h
 ·rw[if_neg h2];exact⟨h2,rfl⟩
theorem aVw (h1: ¬(atX p l t).2=0):(aW p l t).2.2=(atX p l t).2:=by unfold aW;rw[if_neg h1]
theorem aY1 (hl:oS l)(h:(aW p l t).2.2=0):(atX p l (t+1)).2=0/\ ((t+1)%aQ l=0 \/(atX p l (t+1)).1=(aW p l t).1):=by
 obtain⟨h1,h2,h3⟩:=sB h
 by_cases hm:(t+1)%aQ l=0
 ·rw[xB hl.e1 hm];exact⟨rfl,.inl hm⟩
 ·rw[aN2 hl.e1 hm,if_pos h1,if_pos h2,h3];exact⟨rfl,.inr rfl⟩
theorem aHo (h:t<l.picks.length):iP l t=l.picks[t]:=by simp[iP,h]
theorem sC (h:iR p l=true)(hn:n<=l.picks.length)(he:(atX p l n).2=0):bJ p (atX p l n).1=true:=by
 have h1:=(qP h).1;have:=bEk (kN h1) h hn he;simp[bJ,h1,this]
theorem fC (hsp:aU p=true)(h:bJ p w=true):w.few:=by
 simp only[bJ,bSw]at h;exact vC (lB hsp h.2)
variable {a b u:Nat}
theorem bRf (h:n≠0 \/u∉T3):aC (aC cnt 0 7 a) 0 8 b n u=cnt n u:=by
 simp only[aC];rw[if_neg,if_neg]
 ·rintro⟨rfl,rfl⟩;rcases h with h|h
  ·exact h rfl
  ·exact h (by decide)
 ·rintro⟨rfl,rfl⟩;rcases h with h|h
  ·exact h rfl
  ·exact h (by decide)
theorem aK6 :cnt 0 u<=aC (aC cnt 0 7 (cnt 0 7+1)) 0 8 (cnt 0 8+1) 0 u:=by
 simp only[aC];split
 ·rename_i h;obtain⟨_,rfl⟩:=h;omega
 split
 ·rename_i h;obtain⟨_,rfl⟩:=h;omega
 ·exact bSx _
theorem aN6 (hpf:p.few)(hsp:aU p=true)(hok:iR p l=true){a b s:Nat}(has:a<=s)(hsb:s<=b)(hb:b<=l.picks.length)
  (hat:(atX p l a).2=0->PC L 49 [(ply p l),.i (a:Int)] (.agg (atX p l a).1.cs)) (hax: ¬(atX p l a).2=0->PX L 49 [(ply p l),.i (a:Int)] (aBb (atX p l a).2))
  {k:Key} {c0:Nat->Nat} {I:Nat->En->(Nat->Nat->Nat)->Prop} {R:Ex->St->Prop} (hst: ∀t,aSu c0 (I t))
  (hr: ∀t,a<=t->t<s->(aW p l t).2.2=0/\ ∀en cnt,I t en cnt->(∀u∈T3,c0 u<=cnt 0 u)->WIn L (.yld k) [.i (t:Int),tU p l t] en cnt fun v en' cnt'=>v= .bool true/\ I (t+1) en' cnt'/\ (∀u g,u∈T3->g<cnt 0 u->c0 u<=g->en' ⟨0,u,g⟩=en ⟨0,u,g⟩)/\ ∀u∈T3,cnt 0 u<=cnt' 0 u)
  (hfin: ∀en cnt,I s en cnt->(∀u∈T3,c0 u<=cnt 0 u)->(s=b/\ ∀e fr,e= .normal \/e= .ret->R e ⟨fr,en,cnt⟩) \/
   (s<b/\ (aW p l s).2.2=0/\ WIn L (.yld k) [.i (s:Int),tU p l s] en cnt fun v en' cnt'=>v= .bool false/\ ∀fr,R .ret ⟨fr,en',cnt'⟩) \/
   (s<b/\ ¬(aW p l s).2.2=0/\ ∀fr,R (.panic (aBb (aW p l s).2.2)) ⟨fr,en,cnt⟩))
  {en:En} {cnt:Nat->Nat->Nat} (h0:I a en cnt) (hc0: ∀u∈T3,c0 u<=cnt 0 u):
  Wp L aJl.body ⟨fun i=>[.yld k,.fp [.i (a:Int)] 0,.fp [.i (b:Int)] 0,.fp [(ply p l)] 0].getD i (.tup []),en,cnt⟩ R:=by
 have hl:=oS.of hok;simp only[go_sem,kK,aJl]
 by_cases hab:b<=a
 ·have:s=b:=by omega
  subst this;have:a=s:=by omega
  subst this;rcases hfin _ _ h0 hc0 with⟨_,h⟩|⟨h,_⟩|⟨h,_⟩
  ·simp only[go_sem,D_t hab];exact h _ _ (.inr rfl)
  ·omega
  ·omega
 simp only[go_sem,D_f hab]
 by_cases ha0:(atX p l a).2=0
 case neg=>
  have hs:s=a:=by
   rcases bT5 a s with h|h
   ·exact absurd (sB (hr a (bSx _) h).1).1 ha0
   ·omega
  subst hs;rcases hfin _ _ h0 hc0 with⟨h,_⟩|⟨_,h,_⟩|⟨_,_,h⟩
  ·omega
  ·exact absurd (sB h).1 ha0
  ·rw[aVw ha0]at h
   refine cR 2 rfl ?_
   simp only[go_sem,bS3,bS2,(hax ha0).ret];exact h _
 refine bS ?_
 simp only[go_sem,(hat ha0).ret,kF];obtain⟨g5,hg5⟩: ∃g,g=cnt 0 5:=⟨_,rfl⟩
 rw[<-hg5];have hc5:c0 5<=g5:=by rw[hg5];exact hc0 5 (by decide)
 refine bK s (fun t st=> ∃fr en cnt w,st=⟨fr,en,cnt⟩/\ fr 0= .yld k/\ fr 1= .fp [.i (a:Int)] 0/\ fr 2= .fp [.i (b:Int)] 0/\ fr 3= .fp [(ply p l)] 0/\ fr 5= .ptr ⟨0,5,g5⟩ 0/\ fr 6= .i (t:Int)/\ en ⟨0,5,g5⟩=some (.box w.cs false)/\ (t%aQ l=0 \/w=(atX p l t).1)/\ (atX p l t).2=0/\ I t en cnt/\ g5<cnt 0 5/\ a<=t/\ ∀u∈T3,c0 u<=cnt 0 u) a has ?_ ?_
 ·refine⟨_,_,_,(atX p l a).1,rfl,by simp only[go_sem],by simp only[go_sem],by simp only[go_sem],by simp only[go_sem],by simp only[go_sem],by simp only[go_sem],by simp only[go_sem],.inr rfl,ha0,?_,?_,bSx _,?_⟩
  ·refine hst a _ _ _ _ h0 ((yC (by decide) (by omega)).trans (yC (by decide) (by omega))) (fun n t h=>?_) (fun u hu=>?_)
   ·simp only[aC];split
    ·rename_i h';obtain⟨rfl,rfl⟩:=h';rcases h with h|h
     ·exact absurd rfl h
     ·exact absurd (by decide) h
    ·rfl
   ·simp only[aC];split
    ·rename_i h';obtain⟨_,rfl⟩:=h';omega
    ·exact bSx _
  ·simp only[aC];simp
  ·intro u hu;have:=hc0 u hu;simp only[aC];split
   ·rename_i h';obtain⟨_,rfl⟩:=h';omega
   ·exact this
 rintro t st hts ⟨fr,en,cnt,w,rfl,f0,f1,f2,f3,f5,f6,e5,hw,h0t,hI,hg,hta,hc⟩
 simp only[go_sem,kK,f6,f2]
 by_cases htb:t<b
 case neg=>
  have:s=b:=by omega
  subst this;have:t=s:=by omega
  subst this;simp only[go_sem,D_f htb];rcases hfin _ _ hI hc with⟨_,h⟩|⟨h,_⟩|⟨h,_⟩
  ·exact h _ _ (.inl rfl)
  ·omega
  ·omega
 have htp:t<l.picks.length:=by omega
 have hmk:=aIv (p:=p) (l:=l) t hl.e1 (by have:=hl.pk;omega) hl.ev
 have hgv:=sC hok (bU8 htp) h0t;obtain⟨y,hy⟩: ∃y,y=(atX p l t).1:=⟨_,rfl⟩
 rw[<-hy]at hw hgv
 by_cases hm:t%aQ l=0
 case' pos=>
  have hlt:=hl.lt (bU8 htp);have hia:=fun en=>rZ (l:=l) (en:=en) hlt
  have hwm:l.marks[t/aQ l]=y:=by rw[hy,xB hl.e1 hm,oH hlt]
  simp only[go_sem,kK,D_t htb,f3,f6,hmk.ret,D_t hm];simp only[go_sem,f5,hl.ev,hl.ne,hl.div,hl.wdiv (bU8 htp),hia,hwm,e5,kF];have e6:(en.set ⟨0,5,g5⟩ (some (.box y.cs false))) ⟨0,5,g5⟩=some (.box y.cs false):=by simp only[go_sem]
  have hI2:=hst t _ cnt _ cnt hI (yC (e:=some (.box y.cs false)) (t:=5) (g:=g5) (by decide) (by omega)) (fun _ _ _=>rfl) (fun _ _=>bSx _)
  generalize En.set en _ _=en1 at e6 hI2⊢
 case' neg=>
  simp only[go_sem,kK,D_t htb,f3,f6,hmk.ret,D_f hm];have e6:=e5;rw[hw.resolve_left hm]at e6;have hI2:=hI;generalize en=en1 at e6 hI2⊢
 all_goals
  clear e5 hI hw
  by_cases hk:(aW p l t).2.2=0
  case neg=>
   obtain⟨hb1,hb2⟩:=aIx h0t hk;rw[<-hy]at hb1 hb2;have hT:=xE p l y (iP l t) hpf (fC hsp hgv) hsp hgv hb1;rw[<-hb2,aHo htp]at hT;have:t=s:=by
    rcases bT5 t s with h|h
    ·exact absurd (hr t hta h).1 hk
    ·omega
   subst this
   refine mN 10 rfl rfl ?_
   simp only[go_sem,bS3,bS2,bUi,bUh,tE,f3,f5,f6,e6,htp,hT.ret,kA,kF]
   refine⟨rfl,?_⟩
   rcases hfin _ _ hI2 hc with⟨h,_⟩|⟨_,h,_⟩|⟨_,_,h⟩
   ·omega
   ·exact absurd h hk
   ·exact h _
  obtain⟨_,ht0,hta'⟩:=sB hk;rw[<-hy]at ht0 hta';have hT:=xD p l y (iP l t) hpf (fC hsp hgv) hsp hgv ht0;rw[<-hta',aHo htp]at hT;obtain⟨x,hx⟩: ∃x,x=(aW p l t).1:=⟨_,rfl⟩
  obtain⟨e,he⟩: ∃e,e=(aW p l t).2.1:=⟨_,rfl⟩
  rw[<-hx,<-he]at hT
  refine jY ?_
  simp only[go_sem,f0,f3,f5,f6,e6,htp,hT.ret,evV,kA,kF];have hc7:=hc 7 (by decide)
  have hc8:=hc 8 (by decide)
  generalize hE:En.set (En.set (En.set (En.set en1 _ _) _ _) _ _) _ _=E;have ho:aXy c0 en1 E:=by rw[<-hE];exact(((yC (by decide) hc7).trans (yC (by decide) hc8)).trans (yC (by decide) hc7)).trans (yC (by decide) hc8)
  have E5:E ⟨0,5,g5⟩=some (.box y.cs false):=by rw[<-hE];simp only[go_sem,e6]
  have E7:E ⟨0,7,cnt 0 7⟩=some (.box [.fz (x.objs.map aP.enc),.is x.tasks,.fz (x.outs.map bO.enc),.is x.ins,.i x.used] false):=by rw[<-hE];simp only[go_sem]
  have hI3:=hst t _ _ E (aC (aC cnt 0 7 (cnt 0 7+1)) 0 8 (cnt 0 8+1)) hI2 ho (fun n u h=>bRf h) (fun u _=>aK6)
  have hc3: ∀u∈T3,c0 u<=aC (aC cnt 0 7 (cnt 0 7+1)) 0 8 (cnt 0 8+1) 0 u:=fun u hu=>bS9 (hc u hu) aK6
  have hd:tU p l t=aEp y x e:=by rw[tU,hy,hx,he]
  rcases bT5 t s with hlt|hge
  ·have hrt:=(hr t hta hlt).2 _ _ hI3 hc3;rw[hd]at hrt
   refine WIn.mono hrt ?_
   rintro v en' cnt' ⟨rfl,hI4,hin,hcc⟩
   have q5:=(hin 5 g5 (by decide) (bTm hg aK6) hc5).trans E5
   have q7:=(hin 7 (cnt 0 7) (by decide) (by simp[aC]) hc7).trans E7
   obtain⟨hn0,hn1⟩:=aY1 hl hk;have hx1:(t+1)%aQ l=0 \/x=(atX p l (t+1)).1:=hn1.imp_right fun h=>by rw[hx,h]
   simp only[go_sem,kK,f5,f6,q5,q7,bS6]
   refine⟨hlt,_,_,_,x,rfl,?_⟩
   simp only[go_sem,f0,f1,f2,f3,f5,aR htp hl.few,hl.ev];exact⟨hx1,hn0,hst _ _ _ _ _ hI4 (yC (by decide) hc5) (fun _ _ _=>rfl) (fun _ _=>bSx _),bTm hg (bS9 aK6 (hcc 5 (by decide))),by omega,fun u hu=>bS9 (hc3 u hu) (hcc u hu)⟩
  ·have:t=s:=by omega
   subst this;rcases hfin _ _ hI3 hc3 with⟨h,_⟩|⟨_,_,hrt⟩|⟨_,h,_⟩
   ·omega
   ·rw[hd]at hrt
    refine WIn.mono hrt ?_
    rintro v en' cnt' ⟨rfl,hR⟩
    simp only[go_sem,kK,bTf];exact hR _
   ·exact absurd hk h
variable {m:Nat}
theorem aVx {e:Nat}(he:1<=e)(h: ¬(m+1)%e=0):(m+1)/e=m/e:=by
 rw[Nat.succ_div,if_neg (fun h'=>h (Nat.mod_eq_zero_of_dvd h')),bUk]
theorem aQp {e:Nat}(h:n%e=0):n/e*e=n:=Nat.div_mul_cancel (bV5 h)
theorem aXz {p:aD}{l:bL}(hl:oS l): ∀n,(atX p l n).2=0-> ∀t,n/aQ l*aQ l<=t->t<n->(aW p l t).2.2=0
 |0,_,t,_,h=>by omega
 |m+1,h0,t,h1,h2=>by
  by_cases hm:(m+1)%aQ l=0
  ·rw[aQp hm]at h1;omega
  ·rw[aN2 hl.e1 hm]at h0
   by_cases ha:(atX p l m).2=0
   ·rw[if_pos ha]at h0
    by_cases ht:(cV p (atX p l m).1 (iP l m)).2.2=0
    ·rcases bT5 t m with h|h
     ·exact aXz hl m ha t (by rw[<-aVx hl.e1 hm];exact h1) h
     ·obtain rfl:t=m:=by omega
      unfold aW;rw[if_pos ha,if_pos ht];exact ht
    ·rw[if_neg ht]at h0;exact absurd h0 ht
   ·rw[if_neg ha]at h0;exact absurd h0 ha
theorem aY2 {p:aD}{l:bL}(hl:oS l): ∀n,¬(atX p l n).2=0-> ∃s,n/aQ l*aQ l<=s/\ s<n/\ (∀t,n/aQ l*aQ l<=t->t<s->(aW p l t).2.2=0)/\ ¬(aW p l s).2.2=0/\ (aW p l s).2.2=(atX p l n).2
 |0,h=>by rw[xB hl.e1 (Nat.zero_mod _)]at h;exact absurd rfl h
 |m+1,h0=>by
  by_cases hm:(m+1)%aQ l=0
  ·rw[xB hl.e1 hm]at h0;exact absurd rfl h0
  ·have hd:=aVx hl.e1 hm;have hle:=bWd m (aQ l);rw[hd];have hs:=aN2 (p:=p) hl.e1 hm;rw[hs]at h0⊢
   by_cases ha:(atX p l m).2=0
   ·rw[if_pos ha]at h0⊢
    by_cases ht:(cV p (atX p l m).1 (iP l m)).2.2=0
    ·rw[if_pos ht]at h0;exact absurd rfl h0
    ·rw[if_neg ht]at h0⊢;have hk:(aW p l m).2.2=(cV p (atX p l m).1 (iP l m)).2.2:=by unfold aW;rw[if_pos ha,if_neg ht]
     exact⟨m,hle,by omega,aXz hl m ha,by rw[hk];exact ht,hk⟩
   ·rw[if_neg ha]at h0⊢;obtain⟨s,h1,h2,h3,h4,h5⟩:=aY2 hl m ha;exact⟨s,h1,by omega,h3,h4,h5⟩
def AtI (p:aD)(l:bL)(fr0:Nat->Val)(t:Nat)(en:En)(_:Nat->Nat->Nat):Prop:=
 (∃fr1,en ⟨1,0,0⟩=some (.loop fr1 [40,41] (bB.ops [o 8 (.alloc [.cl [],.cl [],.cl [],.cl [],.i 0,.cl [],.cl [],.cl [],.cl [],.i 0,.i 0,.i 0,.i 0,.i 0,.i 0]),sT 15 8 41]) (bB.block 1 (.ops [fA 42 5 8,lT 43 5 42,sT 5 6 43])) .ready)/\ fr1 6=fr0 6)/\ en ⟨0,4,0⟩=some (.box [.cl [],.cl [],.cl [],.cl [],.i 0] false)/\ ∃w,en ⟨0,6,0⟩=some (.box [.fz (w.objs.map aP.enc),.is w.tasks,.fz (w.outs.map bO.enc),.is w.ins,.i w.used] false)/\ w=(atX p l t).1
variable {fr0:Nat->Val}
theorem bEm (t:Nat):aSu (fun _=>0) (AtI p l fr0 t):=by
 rintro en cnt en' cnt' ⟨⟨fr1,h1,hf⟩,h2,w,h3,h4⟩ ho _ _
 exact⟨⟨fr1,(ho 1 0 0 (.inl (by decide))).trans h1,hf⟩,(ho 0 4 0 (.inr (.inl (by decide)))).trans h2,w,(ho 0 6 0 (.inr (.inl (by decide)))).trans h3,h4⟩
theorem bEn (hf:fr0 6= .ptr ⟨0,6,0⟩ 0)(hn:(atX p l (t+1)).1=(aW p l t).1)(hI:AtI p l fr0 t en cnt):
  WIn L (.yld ⟨1,0,0⟩) [.i (t:Int),tU p l t] en cnt fun v en' cnt'=>v= .bool true/\ AtI p l fr0 (t+1) en' cnt'/\ (∀u g,u∈T3->g<cnt 0 u->0<=g->en' ⟨0,u,g⟩=en ⟨0,u,g⟩)/\ ∀u∈T3,cnt 0 u<=cnt' 0 u:=by
 obtain⟨⟨fr1,h1,hf1⟩,h2,w,h3,h4⟩:=hI;rw[hf]at hf1
 refine aKy (fr:=fr1) (ps:=[40,41]) (a:=(bB.ops [o 8 (.alloc [.cl [],.cl [],.cl [],.cl [],.i 0,.cl [],.cl [],.cl [],.cl [],.i 0,.i 0,.i 0,.i 0,.i 0,.i 0]),sT 15 8 41])) (b:=(bB.block 1 (.ops [fA 42 5 8,lT 43 5 42,sT 5 6 43]))) h1 rfl ?_
 simp only[go_sem,tU,aEp,hf1,h1,h3]
 refine⟨⟨⟨_,by simp only[go_sem];rfl,?_⟩,by simp only[go_sem,h2],_,by simp only[go_sem],hn.symm⟩,fun u g hu hg _=>?_,fun u hu=>?_⟩
 ·simp only[go_sem,hf,hf1]
 ·simp only[T3,bTp,bU9,or_false]at hu;rcases hu with rfl|rfl|rfl
  ·simp only[go_sem]
  ·simp only[go_sem]
  ·simp only[go_sem,show¬g=cnt 0 8 by omega]
 ·simp only[aC];split
  ·rename_i h;obtain⟨_,rfl⟩:=h;omega
  ·exact bSx _
theorem aBc (hpf:p.few)(hsp:aU p=true)(hok:iR p l=true)(hn:n<=l.picks.length):
  ((atX p l n).2=0->PC L 49 [.fp [.i l.every,.is l.picks,.fz (l.marks.map aA.enc),.fz (p.nodes.map aL.enc),.fz (p.funs.map (.int .i64)),.i p.main,.fz (p.cons.map dC.enc)] 0,.i (n:Int)] (.agg (atX p l n).1.cs))/\ (¬(atX p l n).2=0->PX L 49 [.fp [.i l.every,.is l.picks,.fz (l.marks.map aA.enc),.fz (p.nodes.map aL.enc),.fz (p.funs.map (.int .i64)),.i p.main,.fz (p.cons.map dC.enc)] 0,.i (n:Int)] (aBb (atX p l n).2)):=by
 have hl:=oS.of hok;obtain⟨a,ha⟩: ∃a,a=n/aQ l*aQ l:=⟨_,rfl⟩
 have han:a<=n:=by rw[ha];exact bWd ..
 have hma:a%aQ l=0:=by rw[ha];exact Nat.mul_mod_left ..
 have hlt:=hl.lt hn;have hia:=fun en=>rZ (l:=l) (en:=en) hlt
 have hmul:=hl.mul hn;rw[<-ha]at hmul;have ht:=sY p l a n;have hda:a/aQ l=n/aQ l:=by rw[ha];exact Nat.mul_div_cancel _ (by have:=hl.e1;omega)
 have hma0:=xB (p:=p) hl.e1 hma;have hat:=aXx (p:=p) hl (bS9 han hn) hma;rw[hda]at hma0 hat;rw[oH hlt]at hma0 hat;have hmw:l.marks[n/aQ l]=(atX p l a).1:=by rw[hma0]
 have hnx: ∀t,a<=t->t<n->(aW p l t).2.2=0->(atX p l (t+1)).1=(aW p l t).1:=fun t h1 h2 h0=>by
  rcases(aY1 hl h0).2 with h|h
  ·exfalso
   have h3:(t+1)/aQ l*aQ l=t+1:=aQp h;have h4:(t+1)/aQ l<=n/aQ l:=bWe h2;have h5:=bT8 (aQ l) h4;rw[h3,<-ha]at h5;omega
  ·exact h
 rw[hmw]at hat hia;have hT:=fun fr0 (hf:fr0 6= .ptr ⟨0,6,0⟩ 0) R s (h1:a<=s) (h2:s<=n) (h3: ∀t,a<=t->t<s->(aW p l t).2.2=0)=>aN6 (R:=R) (k:=⟨1,0,0⟩) (c0:=fun _=>0) (I:=AtI p l fr0) hpf hsp hok h1 h2 hn (fun _=>hat) (fun h=>absurd (by rw[hma0]) h) bEm
  (fun t q1 q2=>⟨h3 t q1 q2,fun en cnt hI _=>bEn hf (hnx t q1 (bTm q2 h2) (h3 t q1 q2)) hI⟩)
 simp only[ply,hl.ev]at ht hat hT⊢
 refine⟨fun h0=>?_,fun h0=>?_⟩
 ·refine pcA func49 ?_
  simp only[go_sem,kK,hl.ne,hl.div,hl.wdiv hn,hmul,kF]
  refine aH ?_
  simp only[go_sem,hl.ne,hl.div,hl.wdiv hn,hia,kA,kF];simp only[go_sem,ht.ret]
  refine zG (by simp only[go_sem];rfl) ?_
  rintro fr0 k hf hk
  obtain rfl:k=⟨1,0,0⟩:=hk
  refine dP aJm rfl rfl ?_
  refine hT fr0 (by rw[hf];simp only[go_sem]) _ n han (bSx n) (fun t h1 h2=>aXz hl n h0 t (by rw[<-ha];exact h1) h2) (fun en cnt hI _=> .inl ⟨rfl,fun e fr he=>?_⟩) ?_ (fun _ _=>bS4 _)
  ·obtain⟨⟨fr1,i1,_⟩,i4,w,i6,rfl⟩:=hI
   refine⟨by rcases he with rfl|rfl<;>rfl,?_⟩
   simp only[go_sem,aJl,i1,i4,i6]
  ·refine⟨⟨_,by simp only[go_sem],rfl⟩,by simp only[go_sem],_,by simp only[go_sem],rfl⟩
 ·obtain⟨s,h1,h2,h3,h4,h5⟩:=aY2 hl n h0;rw[<-ha]at h1 h3
  refine pxA func49 ?_
  simp only[go_sem,kK,hl.ne,hl.div,hl.wdiv hn,hmul,kF]
  refine aH ?_
  simp only[go_sem,hl.ne,hl.div,hl.wdiv hn,hia,kA,kF];simp only[go_sem,ht.ret]
  refine aIe (by simp only[go_sem];rfl) ?_
  rintro fr0 k hf hk
  obtain rfl:k=⟨1,0,0⟩:=hk
  refine jK aJm rfl rfl ?_
  refine hT fr0 (by rw[hf];simp only[go_sem]) _ s h1 (bU8 h2) h3 (fun en cnt hI _=> .inr (.inr ⟨h2,h4,fun fr=>?_⟩)) ?_ (fun _ _=>bS4 _)
  ·rw[h5]
   done
  ·refine⟨⟨_,by simp only[go_sem],rfl⟩,by simp only[go_sem],_,by simp only[go_sem],rfl⟩
set_option maxRecDepth 100000
set_option maxHeartbeats 4000000
theorem lQ (p:aD)(l:bL):aIu p l=iR p l:=by
 rw[bUu];simp only[aIu,iR,bJ,inR,aQ,bSw,bUb,Bool.or_eq_false_iff,Bool.not_eq_false',bWo,bWp,bS5];constructor
 ·rintro⟨⟨⟨⟨h1,h2⟩,h3⟩,h4⟩,h5⟩
  have hd:(l.marks.length:Int)=((l.picks.length/l.every.toNat+1:Nat):Int):=by
   rw[h4,bWm (by omega)]
   have:l.every=(l.every.toNat:Int):=by omega
   rw[this];rfl
  have hl:l.marks.length=l.picks.length/l.every.toNat+1:=by exact_mod_cast hd
  have hne:l.marks≠[]:=by intro h;rw[h]at hl;simp at hl
  obtain⟨w,hw⟩:=List.exists_mem_of_ne_nil _ hne;exact⟨⟨⟨⟨(h5 w hw).1,by omega⟩,by omega⟩,D_t hl⟩,fun w hw=>(h5 w hw).2⟩
 ·rintro⟨⟨⟨⟨h1,h2⟩,h3⟩,h4⟩,h5⟩
  refine⟨⟨⟨⟨by omega,by omega⟩,by omega⟩,?_⟩,fun w hw=>⟨h1,h5 w hw⟩⟩
  rw[D_o h4,bWm (by omega)]
  have:l.every=(l.every.toNat:Int):=by omega
  rw[this];rfl
theorem bEo (h:0<l.marks.length):mH 5 en (.fz (l.marks.map aA.enc)) (.i 0)=some {v:= .fp [.fz (l.marks[0].objs.map aP.enc),.is l.marks[0].tasks,.fz (l.marks[0].outs.map bO.enc),.is l.marks[0].ins,.i l.marks[0].used] 0}:=rZ h
def xF (p:aD)(l:bL)(t:Nat):Prop:=(t+1)%aQ l=0/\ ¬(aW p l t).1=pE l ((t+1)/aQ l)
instance (p :aD)(l:bL)(t:Nat):Decidable (xF p l t):=by unfold xF;exact inferInstance
theorem aN8 {p:aD}{l:bL}: ∀(k t:Nat),
  (∃s,t<=s/\ s<t+k/\ (∀u,t<=u->u<s->(aW p l u).2.2=0/\ ¬xF p l u)/\ aFi p l t k=(s:Int)+1/\ (¬(aW p l s).2.2=0 \/(aW p l s).2.2=0/\ xF p l s)) \/
  ((∀u,t<=u->u<t+k->(aW p l u).2.2=0/\ ¬xF p l u)/\ aFi p l t k= -1)
 |0,t=> .inr ⟨fun u h1 h2=>by omega,rfl⟩
 |k+1,t=>by
  rw[aFi]
  by_cases h1:(aW p l t).2.2=0
  ·rw[if_pos h1]
   by_cases h2:xF p l t
   ·rw[if_pos (show _/\ _ from h2)]
    exact .inl ⟨t,bSx _,by omega,fun u q1 q2=>by omega,rfl,.inr ⟨h1,h2⟩⟩
   ·rw[if_neg (show¬(_/\ _)from h2)]
    rcases aN8 k (t+1)with⟨s,q1,q2,q3,q4⟩|⟨q1,q2⟩
    ·refine .inl ⟨s,by omega,by omega,fun u r1 r2=>?_,q4⟩
     rcases bT5 t u with h|h
     ·exact q3 u h r2
     ·obtain rfl:u=t:=by omega
      exact⟨h1,h2⟩
    ·refine .inr ⟨fun u r1 r2=>?_,q2⟩
     rcases bT5 t u with h|h
     ·exact q1 u h (by omega)
     ·obtain rfl:u=t:=by omega
      exact⟨h1,h2⟩
  ·rw[if_neg h1];exact .inl ⟨t,bSx _,by omega,fun u q1 q2=>by omega,rfl,.inl h1⟩
def WrI (p:aD)(l:bL)(t:Nat)(en:En)(_:Nat->Nat->Nat):Prop:=
 (∃fr1,en ⟨1,0,0⟩=some (.loop fr1 [39,40] (bB.seq (.ops [mT 7 39]) (.ops [o 8 (.alloc [.cl [],.cl [],.cl [],.cl [],.i 0,.cl [],.cl [],.cl [],.cl [],.i 0,.i 0,.i 0,.i 0,.i 0,.i 0]),sT 15 8 40])) (bB.block 1 (.seq (.ops [mT 41 7,bN 42 .add (.t 41) (cI 1),sT 1 2 42]) (.seq (.seq (.draw [l1 43 1,l1 44 2,cL 45 90 [.t 43,.t 44],mT 46 45,gF 47 46 true 5 8,gT 48 46 true 5 47,g1 49 46 true 1,og 50 46 true (.nilck (.t 49)),gF 51 46 true 0 50,gF 52 46 true 2 51,g1 53 46 true 52,g1 54 46 true 2,g1 55 46 true 1,og 56 46 true (.nilck (.t 55)),gF 57 46 true 0 56,gF 58 46 true 0 57,g1 59 46 true 58,gB 60 46 true .quo (.t 54) (.t 59),og 61 46 true (.ia 5 (.t 53) (.t 60)),gT 62 46 true 5 61,gL 63 46 true 103 [.t 48,.t 62],og 64 46 true (.un .not (.t 63)),pA 65 46 64] []) (.cond (.t 65) (.seq (.ops [l1 66 2,sT 1 2 66]) .ret) .skip)) (.ops [l1 67 2,bN 68 .add (.t 67) (cI 1),sT 1 2 68])))) .ready)/\ fr1 1= .ptr ⟨0,1,0⟩ 0/\ fr1 2= .ptr ⟨0,2,0⟩ 0)/\ en ⟨0,1,0⟩=some (.box [(ply p l)] false)/\ en ⟨0,2,0⟩=some (.box [.i ((t:Int)+1)] false)/\ en ⟨0,3,0⟩=some (.box [.i 0] false)
theorem bEp (t:Nat):aSu (fun _=>0) (WrI p l t):=by
 rintro en cnt en' cnt' ⟨⟨fr1,h1,hf⟩,h2,h3,h4⟩ ho _ _
 exact⟨⟨fr1,(ho 1 0 0 (.inl (by decide))).trans h1,hf⟩,(ho 0 1 0 (.inr (.inl (by decide)))).trans h2,(ho 0 2 0 (.inr (.inl (by decide)))).trans h3,(ho 0 3 0 (.inr (.inl (by decide)))).trans h4⟩
theorem aVy (hl:oS l)(ht:t<l.picks.length)(hfw:(aW p l t).1.few)(hI:WrI p l t en cnt):
  WIn L (.yld ⟨1,0,0⟩) [.i (t:Int),tU p l t] en cnt fun v en' cnt'=>(v= .bool (!decide (xF p l t)))/\ (¬xF p l t->WrI p l (t+1) en' cnt')/\
   (xF p l t->(∃fr1,en' ⟨1,0,0⟩=some (.loop fr1 [39,40] (bB.seq (.ops [mT 7 39]) (.ops [o 8 (.alloc [.cl [],.cl [],.cl [],.cl [],.i 0,.cl [],.cl [],.cl [],.cl [],.i 0,.i 0,.i 0,.i 0,.i 0,.i 0]),sT 15 8 40])) (bB.block 1 (.seq (.ops [mT 41 7,bN 42 .add (.t 41) (cI 1),sT 1 2 42]) (.seq (.seq (.draw [l1 43 1,l1 44 2,cL 45 90 [.t 43,.t 44],mT 46 45,gF 47 46 true 5 8,gT 48 46 true 5 47,g1 49 46 true 1,og 50 46 true (.nilck (.t 49)),gF 51 46 true 0 50,gF 52 46 true 2 51,g1 53 46 true 52,g1 54 46 true 2,g1 55 46 true 1,og 56 46 true (.nilck (.t 55)),gF 57 46 true 0 56,gF 58 46 true 0 57,g1 59 46 true 58,gB 60 46 true .quo (.t 54) (.t 59),og 61 46 true (.ia 5 (.t 53) (.t 60)),gT 62 46 true 5 61,gL 63 46 true 103 [.t 48,.t 62],og 64 46 true (.un .not (.t 63)),pA 65 46 64] []) (.cond (.t 65) (.seq (.ops [l1 66 2,sT 1 2 66]) .ret) .skip)) (.ops [l1 67 2,bN 68 .add (.t 67) (cI 1),sT 1 2 68])))) (.done .ret)))/\ en' ⟨0,2,0⟩=some (.box [.i ((t:Int)+1)] false)/\ en' ⟨0,3,0⟩=some (.box [.i 0] false))/\
   (∀u g,u∈T3->g<cnt 0 u->0<=g->en' ⟨0,u,g⟩=en ⟨0,u,g⟩)/\ ∀u∈T3,cnt 0 u<=cnt' 0 u:=by
 obtain⟨⟨fr1,h1,q1,q2⟩,h2,h3,h4⟩:=hI;have hpk:=hl.pk;have hw1:IntKind.i64.wrap ((t:Int)+1)=((t+1:Nat):Int):=aR ht hl.few;have hw2:IntKind.i64.wrap (((t+1:Nat):Int)+1)=((t+1:Nat):Int)+1:=aV (by omega)
 have hmk:=aIv (p:=p) (l:=l) (t+1) hl.e1 (by omega) hl.ev
 have hlt:=hl.lt (n:=t+1) ht;have hia:=fun en=>rZ (l:=l) (en:=en) hlt
 have hsame:=aSt (aW p l t).1 (pE l ((t+1)/aQ l)) hfw;have hbd:decide (xF p l t)=(decide ((t+1)%aQ l=0)&&!decide ((aW p l t).1=pE l ((t+1)/aQ l))):=by rw[bUu,bWo];simp[xF]
 rw[hbd]
 refine aKy (fr:=fr1) (ps:=[39,40]) (a:=(bB.seq (.ops [mT 7 39]) (.ops [o 8 (.alloc [.cl [],.cl [],.cl [],.cl [],.i 0,.cl [],.cl [],.cl [],.cl [],.i 0,.i 0,.i 0,.i 0,.i 0,.i 0]),sT 15 8 40]))) (b:=(bB.block 1 (.seq (.ops [mT 41 7,bN 42 .add (.t 41) (cI 1),sT 1 2 42]) (.seq (.seq (.draw [l1 43 1,l1 44 2,cL 45 90 [.t 43,.t 44],mT 46 45,gF 47 46 true 5 8,gT 48 46 true 5 47,g1 49 46 true 1,og 50 46 true (.nilck (.t 49)),gF 51 46 true 0 50,gF 52 46 true 2 51,g1 53 46 true 52,g1 54 46 true 2,g1 55 46 true 1,og 56 46 true (.nilck (.t 55)),gF 57 46 true 0 56,gF 58 46 true 0 57,g1 59 46 true 58,gB 60 46 true .quo (.t 54) (.t 59),og 61 46 true (.ia 5 (.t 53) (.t 60)),gT 62 46 true 5 61,gL 63 46 true 103 [.t 48,.t 62],og 64 46 true (.un .not (.t 63)),pA 65 46 64] []) (.cond (.t 65) (.seq (.ops [l1 66 2,sT 1 2 66]) .ret) .skip)) (.ops [l1 67 2,bN 68 .add (.t 67) (cI 1),sT 1 2 68]))))) h1 rfl ?_
 simp only[go_sem,kK,tU,aEp,h1,q1,q2,h2,h3,hw1,kF]
 by_cases hm:(t+1)%aQ l=0
 ·simp only[ply,hl.ev]at hmk;rw[oH hlt]at hsame⊢;simp only[go_sem,kK,q1,q2,h2,hmk.ret,D_t hm,hl.ev,hl.ne,hl.div,hl.wdiv ht,hia,hsame.ret,bTo,kF]
  by_cases he:(aW p l t).1=l.marks[(t+1)/aQ l]
  ·simp only[go_sem,D_t he,q2,h4,hw2,bS6];have hnb: ¬xF p l t:=fun h=>h.2 (by rw[oH hlt];exact he)
   exact⟨fun _=>⟨⟨_,by simp only[go_sem];rfl,by simp only[go_sem,q1],by simp only[go_sem,q2]⟩,by simp only[go_sem,h2],by simp only[go_sem],by simp only[go_sem,h4]⟩,fun h=>absurd h hnb,fun u g hu hg _=>by simp only[T3,bTp,bU9,or_false]at hu;rcases hu with rfl|rfl|rfl;(simp only[go_sem]);(simp only[go_sem]);(simp only[go_sem,show¬g=cnt 0 8 by omega]),fun u _=>by simp only[aC];split;(rename_i h;obtain⟨_,rfl⟩:=h;omega);exact bSx _⟩
  ·simp only[go_sem,kK,D_f he,q2,h4,bTf];have hnb:xF p l t:=⟨hm,by rw[oH hlt];exact he⟩
   exact⟨rfl,fun h=>absurd hnb h,fun _=>⟨⟨_,rfl⟩,rfl⟩,fun u g hu hg _=>by simp only[T3,bTp,bU9,or_false]at hu;rcases hu with rfl|rfl|rfl;(simp only[go_sem]);(simp only[go_sem]);(simp only[go_sem,show¬g=cnt 0 8 by omega]),fun u _=>by simp only[aC];split;(rename_i h;obtain⟨_,rfl⟩:=h;omega);exact bSx _⟩
 ·simp only[go_sem,kK,q2,h4,hmk.ret,D_f hm,hw2,bTk];have hnb: ¬xF p l t:=fun h=>hm h.1
  exact⟨fun _=>⟨⟨_,by simp only[go_sem];rfl,by simp only[go_sem,q1],by simp only[go_sem,q2]⟩,by simp only[go_sem,h2],by simp only[go_sem],by simp only[go_sem,h4]⟩,fun h=>absurd h hnb,fun u g hu hg _=>by simp only[T3,bTp,bU9,or_false]at hu;rcases hu with rfl|rfl|rfl;(simp only[go_sem]);(simp only[go_sem]);(simp only[go_sem,show¬g=cnt 0 8 by omega]),fun u _=>by simp only[aC];split;(rename_i h;obtain⟨_,rfl⟩:=h;omega);exact bSx _⟩
theorem aQq (hsp:aU p=true)(hok:iR p l=true)(ht:t<l.picks.length)(h0:(aW p l t).2.2=0):(aW p l t).1.few:=by
 obtain⟨h1,h2,h3⟩:=sB h0;rw[h3];have hf:=(qP hok).1;exact vC (lB hsp (aN3 (kN hf) (bEk (kN hf) hok (bU8 ht) h1) _))
theorem aVz (hok:iR p l=true):bJ p (pE l 0)=true:=by
 have:=sC hok (bS4 _) (by rw[xB (oS.of hok).e1 (Nat.zero_mod _)])
 rwa [xB (oS.of hok).e1 (Nat.zero_mod _),Nat.zero_div]at this
theorem bEq (hpf:p.few)(hsp:aU p=true)(hok:iR p l=true):PC L 45 [(ply p l)] (.i (aBa p l)):=by
 have hl:=oS.of hok;have h0m:=hl.lt (bS4 l.picks.length);rw[Nat.zero_div]at h0m;have hia:=fun en=>bEo (l:=l) (en:=en) h0m
 have hg0:=aVz hok;rw[oH h0m]at hg0;have hS:=xC p l.marks[0] hpf (fC hsp hg0) hsp;have hw:=sY p l 0 l.picks.length;have hpk:=hl.pk;unfold aBa;rw[oH h0m];have hT:=fun R (s:Nat) (h1:s<=l.picks.length) (h2: ∀u,0<=u->u<s->(aW p l u).2.2=0/\ ¬xF p l u)=>aN6 (R:=R) (a:=0) (k:=⟨1,0,0⟩) (c0:=fun _=>0) (I:=WrI p l) hpf hsp hok (bS4 s) h1 (bSx _) (aBc hpf hsp hok (bS4 _)).1 (aBc hpf hsp hok (bS4 _)).2 bEp
  (fun t q1 q2=>⟨(h2 t q1 q2).1,fun en cnt hI _=>(aVy hl (by omega) (aQq hsp hok (by omega) (h2 t q1 q2).1) hI).mono fun v en' cnt' ⟨r1,r2,_,r4,r5⟩=>⟨by rw[r1,D_f (h2 t q1 q2).2];rfl,r2 (h2 t q1 q2).2,r4,r5⟩⟩)
 refine pcA func45 ?_
 simp only[go_sem,kK,kF]
 refine wZ ?_
 simp only[go_sem,kK]
 refine aH ?_
 simp only[go_sem,kK,hia,hS.ret,kA,kF]
 by_cases hs:(aJ p l.marks[0] 0).2.2=true
 case neg=>
  rw[if_neg (fun h=>hs h.1)]
  have e2:(nA p l.marks[0]).2.2=8:=by unfold nA;rw[if_pos hg0,if_neg hs]
  simp only[go_sem,kK,e2]
  refine⟨rfl,eN rfl ?_⟩
  simp only[go_sem]
 have e2:(nA p l.marks[0]).2.2=0/\ (nA p l.marks[0]).2.1=(aJ p l.marks[0] 0).2.1:=by unfold nA;rw[if_pos hg0,if_pos hs];exact⟨rfl,rfl⟩
 by_cases hz:(aJ p l.marks[0] 0).2.1=0
 case neg=>
  rw[if_neg (fun h=>hz h.2)]
  simp only[go_sem,kK,e2.1,e2.2,show decide ((0:Int)<((aJ p l.marks[0] 0).2.1:Int))=true from D_t (by omega),kF]
  refine⟨rfl,eN rfl ?_⟩
  simp only[go_sem]
 rw[if_pos ⟨hs,hz⟩];simp only[go_sem,kK,e2.1,e2.2,show decide ((0:Int)<((aJ p l.marks[0] 0).2.1:Int))=false from D_f (by omega),bSy,hw.ret,kF]
 rcases aN8 (p:=p) (l:=l) l.picks.length 0 with⟨s,q1,q2,q3,q4,q5|⟨q5,q6⟩⟩|⟨q3,q4⟩
 ·rw[q4]
  refine aIe (by simp only[go_sem];rfl) ?_
  rintro fr0 k hf hk
  obtain rfl:k=⟨1,0,0⟩:=hk
  refine jK aJm rfl rfl ?_
  refine hT _ s (by omega) q3 (fun en cnt hI _=> .inr (.inr ⟨by omega,q5,fun fr=>?_⟩)) ?_ (fun _ _=>bS4 _)
  ·obtain⟨⟨fr1,i1,_⟩,i2,i3,i4⟩:=hI;simp only[go_sem]
   refine⟨rfl,bI (x:= .i 0) rfl ?_⟩
   refine jB func102 ?_
   simp only[go_sem,i3,i4]
  ·exact(by refine⟨⟨fr0,by simp only[go_sem],by rw[hf];simp only[go_sem],by rw[hf];simp only[go_sem]⟩,?_,?_,?_⟩<;>simp only[go_sem])
 ·rw[q4]
  refine zG (by simp only[go_sem];rfl) ?_
  rintro fr0 k hf hk
  obtain rfl:k=⟨1,0,0⟩:=hk
  refine dP aJm rfl rfl ?_
  refine hT _ s (by omega) q3 (fun en cnt hI _=> .inr (.inl ⟨by omega,q5,(aVy hl (by omega) (aQq hsp hok (by omega) q5) hI).mono fun v en' cnt' ⟨r1,_,r3,_,_⟩=>⟨by rw[r1,D_t q6];rfl,fun fr=>?_⟩⟩)) ?_ (fun _ _=>bS4 _)
  ·obtain⟨⟨fr1,i1⟩,i3,i4⟩:=r3 q6
   refine⟨rfl,?_⟩
   simp only[go_sem,aJl,i1]
   refine⟨rfl,eN rfl ?_⟩
   simp only[go_sem,i3]
  ·exact(by refine⟨⟨fr0,by simp only[go_sem],by rw[hf];simp only[go_sem],by rw[hf];simp only[go_sem]⟩,?_,?_,?_⟩<;>simp only[go_sem])
 ·rw[q4]
  refine zG (by simp only[go_sem];rfl) ?_
  rintro fr0 k hf hk
  obtain rfl:k=⟨1,0,0⟩:=hk
  refine dP aJm rfl rfl ?_
  refine hT _ l.picks.length (bSx _) (fun u r1 r2=>q3 u r1 (by omega)) (fun en cnt hI _=> .inl ⟨rfl,fun e fr he=>?_⟩) ?_ (fun _ _=>bS4 _)
  ·obtain⟨⟨fr1,i1,_⟩,i2,i3,i4⟩:=hI
   refine⟨by rcases he with rfl|rfl<;>rfl,?_⟩
   simp only[go_sem,aJl,i1,i3]
   refine⟨rfl,eN rfl ?_⟩
   simp only[go_sem]
  ·exact(by refine⟨⟨fr0,by simp only[go_sem],by rw[hf];simp only[go_sem],by rw[hf];simp only[go_sem]⟩,?_,?_,?_⟩<;>simp only[go_sem])
def verifyX (p:aD)(l:bL):Int×Int:=if iR p l=true then(if 0<=aBa p l then(aBa p l,7)else(0,0))else(0,2)
theorem aN9 (hpf:p.few)(hlf:l.few)(hsp:aU p=true):PC L 11 [.agg p.cs,.agg l.cs] (.tup [.i (verifyX p l).1,.i (verifyX p l).2]):=by
 unfold verifyX
 refine pcA func11 ?_
 simp only[go_sem,kK,kF]
 refine wZ ?_
 simp only[go_sem,kK]
 by_cases hok:iR p l=true
 case neg=>
  rw[if_neg hok]
  refine cR 2 rfl ?_
  simp only[go_sem,bS3,bS2,(qR p l hpf hlf hsp (by rw[lQ];simpa using hok)).ret]
  refine⟨rfl,bI (x:= .i 0) rfl ?_⟩
  refine jB func43 ?_
  simp only[go_sem]
 have hP:=qQ p l hpf hlf hsp (by rw[lQ];exact hok)
 rw[if_pos hok]
 refine bS ?_
 simp only[go_sem,kK,hP.ret,(bEq hpf hsp hok).ret,kF]
 by_cases h0:0<=aBa p l
 ·rw[if_pos h0];simp only[go_sem,D_f (show¬aBa p l<0 by omega)]
  refine⟨rfl,eN rfl ?_⟩
  simp only[go_sem]
 ·rw[if_neg h0];simp only[go_sem,kK,D_t (show aBa p l<0 by omega)]
  refine⟨rfl,eN rfl ?_⟩
  simp only[go_sem]
def atR (p:aD)(l:bL)(n:Int):aA×Int×Int:=
 if iR p l=true/\ 0<=n/\ n<=(l.picks.length:Int)then(if(atX p l n.toNat).2=0 then((atX p l n.toNat).1,n%(aQ l:Int),0)else(tR,0,(atX p l n.toNat).2))else(tR,0,2)
theorem tV (hsp:aU p=true)(h:bJ p w=true):bZ w=true:=by
 simp only[bJ,bSw]at h;exact lB hsp h.2
noncomputable def c46 :{c//L 46=some c}:=cA func46
theorem aBd (hpf:p.few)(hlf:l.few)(hsp:aU p=true)(n:Int):PC L 12 [.agg p.cs,.agg l.cs,.i n] (.tup [.agg (atR p l n).1.cs,.i (atR p l n).2.1,.i (atR p l n).2.2]):=by
 unfold atR
 refine pcA func12 ?_
 simp only[go_sem,kK,kF]
 refine wZ ?_
 simp only[go_sem,kK]
 by_cases hok:iR p l=true
 case neg=>
  rw[if_neg (fun h=>hok h.1)]
  refine cR 2 rfl ?_
  simp only[go_sem,bS3,bS2,(qR p l hpf hlf hsp (by rw[lQ];simpa using hok)).ret]
  refine⟨rfl,bI (x:= .i 0) rfl ?_⟩
  refine dP c46.2 rfl rfl ?_
  simp only[go_sem,c46];rfl
 have hl:=oS.of hok;have hP:=qQ p l hpf hlf hsp (by rw[lQ];exact hok)
 refine bS ?_
 simp only[go_sem,hP.ret,kF]
 by_cases hn:0<=n
 case neg=>
  rw[if_neg (fun h=>hn h.2.1)]
  refine cR 9 rfl ?_
  simp only[go_sem,kK,bS3,bS2,D_f hn,(bR _).ret]
  refine⟨rfl,bI (x:= .i 0) rfl ?_⟩
  refine dP c46.2 rfl rfl ?_
  simp only[go_sem,c46];rfl
 by_cases hn2:n<=(l.picks.length:Int)
 case neg=>
  rw[if_neg (fun h=>hn2 h.2.2)]
  refine cR 9 rfl ?_
  simp only[go_sem,kK,bS3,bS2,D_t hn,D_f hn2,bSy,(bR _).ret]
  refine⟨rfl,bI (x:= .i 0) rfl ?_⟩
  refine dP c46.2 rfl rfl ?_
  simp only[go_sem,c46];rfl
 rw[if_pos ⟨hok,hn,hn2⟩]
 refine bS ?_
 simp only[go_sem,kK,D_t hn,D_t hn2,bSy,(dI _).ret,kF];obtain⟨m,rfl⟩:=bTs hn;rw[bTt];have hm:m<=l.picks.length:=by omega
 obtain⟨ha1,ha2⟩:=aBc hpf hsp hok hm
 by_cases h0:(atX p l m).2=0
 ·rw[if_pos h0];have hgv:=sC hok hm h0;have hc:=sA (atX p l m).1 (fC hsp hgv) (tV hsp hgv);have hA:=ha1 h0;simp only[hl.ev]at hA
  refine jY ?_
  simp only[go_sem,hA.ret,hc.ret,hl.ev,hl.ne,Int.tmod_eq_emod_of_nonneg hn,kA,kF]
  refine⟨rfl,eN rfl ?_⟩
  simp only[go_sem]
 ·rw[if_neg h0];have hA:=ha2 h0;simp only[hl.ev]at hA
  refine bC7 2 [mT 24 9,mT 25 2,aBz,aBz,mT 28 2,fA 29 0 4,l1 30 29,bN 31 .rem (.t 28) (.t 30),aBz,aBz,aBz] rfl rfl ?_ ?_
  ·simp only[go_sem,bS3,bS2,hA.ret,hl.ev]
  ·simp only[go_sem,bS3,bS2,hA.ret,aBz,hl.ev,hl.ne,Int.tmod_eq_emod_of_nonneg hn,kA,kF]
   refine⟨rfl,rfl,bI (x:= .i 0) rfl ?_⟩
   refine dP c46.2 rfl rfl ?_
   simp only[go_sem,c46];rfl
def evL (p:aD)(l:bL)(a k:Nat):List Val:=(List.range k).map fun i=>evV (aW p l (a+i)).2.1
theorem aJ6 {p:aD}{l:bL}: ∀(k t:Nat),
  (∃s,t<=s/\ s<t+k/\ (∀u,t<=u->u<s->(aW p l u).2.2=0)/\ ¬(aW p l s).2.2=0/\ rY p l t k=([],(aW p l s).2.2)) \/
  ((∀u,t<=u->u<t+k->(aW p l u).2.2=0)/\ (rY p l t k).2=0/\ (rY p l t k).1.map evV=evL p l t k)
 |0,t=> .inr ⟨fun u h1 h2=>by omega,rfl,rfl⟩
 |k+1,t=>by
  rw[rY]
  by_cases h1:(aW p l t).2.2=0
  ·rw[if_pos h1];rcases aJ6 k (t+1)with⟨s,q1,q2,q3,q4,q5⟩|⟨q1,q2,q3⟩
   ·refine .inl ⟨s,by omega,by omega,fun u r1 r2=>?_,q4,by rw[q5,if_neg q4]⟩
    rcases bT5 t u with h|h
    ·exact q3 u h r2
    ·obtain rfl:u=t:=by omega
     exact h1
   ·rw[if_pos q2]
    refine .inr ⟨fun u r1 r2=>?_,rfl,?_⟩
    ·rcases bT5 t u with h|h
     ·exact q1 u h (by omega)
     ·obtain rfl:u=t:=by omega
      exact h1
    ·rw[bTv,q3,evL,evL,List.range_succ_eq_map,bTv,List.map_map]
     refine congrArg _ (bU6 fun i _=>?_)
     simp only[Function.comp,Nat.succ_eq_add_one,show t+1+i=t+(i+1)by omega]
  ·rw[if_neg h1];exact .inl ⟨t,bSx _,by omega,fun u q1 q2=>by omega,h1,rfl⟩
def c8 (u:Nat):Nat:=if u=8 then 1 else 0
def EvI (p:aD)(l:bL)(a t:Nat)(en:En)(_:Nat->Nat->Nat):Prop:=
 (∃fr1,en ⟨1,0,0⟩=some (.loop fr1 [36,37] (bB.ops [o 12 (.alloc [.cl [],.cl [],.cl [],.cl [],.i 0,.cl [],.cl [],.cl [],.cl [],.i 0,.i 0,.i 0,.i 0,.i 0,.i 0]),sT 15 12 37]) (bB.block 1 (.ops [l1 38 8,fA 39 10 12,lT 40 5 39,o 41 (.bslice 1 5 [.i 0,.i 0,.i 0,.i 0,.i 0] [(0,(.t 40))]),o 42 (.append 5 (.t 38) (.t 41)),sT 1 8 42])) .ready)/\ fr1 8= .ptr ⟨0,8,0⟩ 0/\ fr1 9= .ptr ⟨0,9,0⟩ 0/\ fr1 13= .fn 52 [] [.ptr ⟨0,8,0⟩ 0])/\ (∃v,en ⟨0,8,0⟩=some (.box [v] false)/\ cX en v 5 (evL p l a (t-a)) [42])/\ en ⟨0,9,0⟩=some (.box [.i 0] false)
theorem bEr (t:Nat):aSu c8 (EvI p l a t):=by
 rintro en cnt en' cnt' ⟨⟨fr1,h1,hf⟩,⟨v,h2,h3⟩,h4⟩ ho _ _
 exact⟨⟨fr1,(ho 1 0 0 (.inl (by decide))).trans h1,hf⟩,⟨v,(ho 0 8 0 (.inr (.inr (by decide)))).trans h2,h3.keep fun t g ht=>ho 0 t g (.inr (.inl (by simp at ht;subst ht;decide)))⟩,(ho 0 9 0 (.inr (.inl (by decide)))).trans h4⟩
theorem bEs (hat:a<=t)(ht:t<=1000)(hI:EvI p l a t en cnt)(hc: ∀u∈T3,c8 u<=cnt 0 u):
  WIn L (.yld ⟨1,0,0⟩) [.i (t:Int),tU p l t] en cnt fun v en' cnt'=>v= .bool true/\ EvI p l a (t+1) en' cnt'/\ (∀u g,u∈T3->g<cnt 0 u->c8 u<=g->en' ⟨0,u,g⟩=en ⟨0,u,g⟩)/\ ∀u∈T3,cnt 0 u<=cnt' 0 u:=by
 obtain⟨⟨fr1,h1,q8,q9,q13⟩,⟨v,h2,hm⟩,h4⟩:=hI;have hlen:(evL p l a (t-a)).length=t-a:=by simp[evL]
 refine aKy (fr:=fr1) (ps:=[36,37]) (a:=(bB.ops [o 12 (.alloc [.cl [],.cl [],.cl [],.cl [],.i 0,.cl [],.cl [],.cl [],.cl [],.i 0,.i 0,.i 0,.i 0,.i 0,.i 0]),sT 15 12 37])) (b:=(bB.block 1 (.ops [l1 38 8,fA 39 10 12,lT 40 5 39,o 41 (.bslice 1 5 [.i 0,.i 0,.i 0,.i 0,.i 0] [(0,(.t 40))]),o 42 (.append 5 (.t 38) (.t 41)),sT 1 8 42]))) h1 rfl ?_
 simp only[go_sem,tU,aEp,h1,q8,h2]
 refine jO (D:=[42]) (xs:=evL p l a (t-a)) (ys:=[evV (aW p l t).2.1]) (rs:=[]) ?_ ?_ ?_ ?_ ?_
 ·simp only[go_sem];exact hm.keep fun t g ht=>by simp at ht;subst ht;simp only[go_sem]
 ·simp only[go_sem];rfl
 ·rfl
 ·rw[hlen];simp;omega
 ·intro v' en' cnt' hown hen hcnt;obtain⟨s1,s2⟩:=hown.shape;have k1:en' ⟨1,0,0⟩=some (.loop fr1 [36,37] (bB.ops [o 12 (.alloc [.cl [],.cl [],.cl [],.cl [],.i 0,.cl [],.cl [],.cl [],.cl [],.i 0,.i 0,.i 0,.i 0,.i 0,.i 0]),sT 15 12 37]) (bB.block 1 (.ops [l1 38 8,fA 39 10 12,lT 40 5 39,o 41 (.bslice 1 5 [.i 0,.i 0,.i 0,.i 0,.i 0] [(0,(.t 40))]),o 42 (.append 5 (.t 38) (.t 41)),sT 1 8 42])) .busy):=by rw[hen 1 0 0 (.inl (by decide))];simp only[go_sem]
  have k2:en' ⟨0,8,0⟩=some (.box [v] false):=by rw[hen 0 8 0 (.inr ⟨by decide,by simp⟩)];simp only[go_sem,h2]
  have k3:en' ⟨0,9,0⟩=some (.box [.i 0] false):=by rw[hen 0 9 0 (.inr ⟨by decide,by simp⟩)];simp only[go_sem,h4]
  simp only[go_sem,q8,s1,s2,k1,k2]
  refine⟨⟨⟨_,by simp only[go_sem];rfl,by simp only[go_sem,q8],by simp only[go_sem,q9],by simp only[go_sem,q13]⟩,⟨v',by simp only[go_sem],?_⟩,by simp only[go_sem,k3]⟩,fun u g hu hg h8=>?_,fun u hu=>?_⟩
  ·refine cX.sub (D:=[42,42]) (cX.keep (en:=en') ?_ ?_) (by simp)
   ·rw[show t+1-a=(t-a)+1 by omega]
    unfold evL at hown⊢;rw[bV4,bT0];simp only[bTv,bTe,show a+(t-a)=t by omega]
    exact hown
   ·intro t g ht;simp at ht;subst ht;simp only[go_sem]
  ·simp only[T3,bTp,bU9,or_false]at hu;rcases hu with rfl|rfl|rfl
   ·simp only[go_sem];rw[hen 0 5 g (.inr ⟨by decide,by simp⟩)];simp only[go_sem]
   ·simp only[go_sem];rw[hen 0 7 g (.inr ⟨by decide,by simp⟩)];simp only[go_sem]
   ·simp only[go_sem,show¬g=0 by simp[c8]at h8;omega];rw[hen 0 8 g (.inr ⟨by decide,by simp⟩)];simp only[go_sem]
  ·rw[hcnt 0 u (by simp only[T3,bTp,bU9,or_false]at hu;rcases hu with rfl|rfl|rfl<;>decide)]
   simp only[aC];split
   ·rename_i h;obtain⟨_,rfl⟩:=h;omega
   ·exact bSx _
def eventsR (p:aD)(l:bL)(a b:Int):List fB×Int:=
 if iR p l=true/\ 0<=a/\ a<=b/\ b<=(l.picks.length:Int)then rY p l a.toNat (b.toNat-a.toNat)else([],2)
theorem aOa (hpf:p.few)(hlf:l.few)(hsp:aU p=true)(a b:Int):PC L 14 [.agg p.cs,.agg l.cs,.i a,.i b] (.tup [.fz ((eventsR p l a b).1.map evV),.i (eventsR p l a b).2]):=by
 unfold eventsR
 refine pcA func14 ?_
 simp only[go_sem,kK,kF]
 refine wZ ?_
 simp only[go_sem,kK]
 by_cases hok:iR p l=true
 case neg=>
  rw[if_neg (fun h=>hok h.1)]
  refine cR 2 rfl ?_
  simp only[go_sem,bS3,bS2,(qR p l hpf hlf hsp (by rw[lQ];simpa using hok)).ret]
  refine⟨rfl,bI (x:= .i 0) rfl ?_⟩
  refine jB func52 ?_
  simp only[go_sem,show(Val.cl []).one=true from rfl,show(Val.cl []).cells=[Val.cl []]from rfl]
 have hl:=oS.of hok;have hP:=qQ p l hpf hlf hsp (by rw[lQ];exact hok)
 refine bS ?_
 simp only[go_sem,hP.ret,kF]
 by_cases hn:0<=a/\ a<=b/\ b<=(l.picks.length:Int)
 case neg=>
  rw[if_neg (fun h=>hn h.2)]
  refine cR 14 rfl ?_
  have hc: ¬0<=a \/(0<=a/\ ¬a<=b) \/(0<=a/\ a<=b/\ ¬b<=(l.picks.length:Int)):=by omega
  rcases hc with h1|⟨h1,h2⟩|⟨h1,h2,h3⟩
  case' inr.inr=>simp only[go_sem,kK,bS3,bS2,D_t h1,D_t h2,D_f h3,bSy,(bR _).ret]
  case' inr.inl=>simp only[go_sem,kK,bS3,bS2,D_t h1,D_f h2,(bR _).ret]
  case' inl=>simp only[go_sem,kK,bS3,bS2,D_f h1,(bR _).ret]
  all_goals
   refine⟨rfl,bI (x:= .i 0) rfl ?_⟩
   refine jB func52 ?_
   simp only[go_sem,show(Val.cl []).one=true from rfl,show(Val.cl []).cells=[Val.cl []]from rfl]
 rw[if_pos ⟨hok,hn⟩];obtain⟨h1,h2,h3⟩:=hn
 refine bS ?_
 simp only[go_sem,kK,D_t h1,D_t h2,D_t h3,bSy,(dI _).ret,kF];obtain⟨a,rfl⟩:=bTs h1;obtain⟨b,rfl⟩:=bTs (Int.le_trans h1 h2);simp only[bTt];have hab:a<=b:=by omega
 have hbl:b<=l.picks.length:=by omega
 have hpk:=hl.pk;have hw:=sY p l a b;have hB:=aBc hpf hsp hok (bS9 hab hbl);have hT:=fun R (s:Nat) (h0:a<=s) (h1:s<=b) (h2: ∀u,a<=u->u<s->(aW p l u).2.2=0)=>aN6 (R:=R) (k:=⟨1,0,0⟩) (c0:=c8) (I:=EvI p l a) hpf hsp hok h0 h1 hbl hB.1 hB.2 bEr
  (fun t q1 q2=>⟨h2 t q1 q2,fun en cnt hI hc=>bEs q1 (by omega) hI hc⟩)
 simp only[go_sem,hw.ret];rcases aJ6 (p:=p) (l:=l) (b-a) a with⟨s,q1,q2,q3,q4,q5⟩|⟨q3,q4,q5⟩
 ·rw[q5]
  refine aIe (by simp only[go_sem];rfl) ?_
  rintro fr0 k hf hk
  obtain rfl:k=⟨1,0,0⟩:=hk
  refine jK aJm rfl rfl ?_
  refine hT _ s q1 (by omega) q3 (fun en cnt hI _=> .inr (.inr ⟨by omega,q4,fun fr=>?_⟩)) ?_ ?_
  ·obtain⟨⟨fr1,i1,_⟩,⟨v,i2,_⟩,i3⟩:=hI;simp only[go_sem]
   refine⟨rfl,bI (x:= .i 0) rfl ?_⟩
   refine jB func52 ?_
   simp only[go_sem,i2,i3,show(Val.cl []).one=true from rfl,show(Val.cl []).cells=[Val.cl []]from rfl]
  ·refine⟨⟨fr0,by simp only[go_sem],by rw[hf];simp only[go_sem],by rw[hf];simp only[go_sem],by rw[hf];simp only[go_sem]⟩,⟨.cl [],by simp only[go_sem],?_⟩,by simp only[go_sem]⟩
   rw[Nat.sub_self];exact cX.nil _ _
  ·intro u hu;simp only[T3,bTp,bU9,or_false]at hu;rcases hu with rfl|rfl|rfl<;>decide
 ·rw[q4,q5]
  refine zG (by simp only[go_sem];rfl) ?_
  rintro fr0 k hf hk
  obtain rfl:k=⟨1,0,0⟩:=hk
  refine dP aJm rfl rfl ?_
  refine hT _ b hab (bSx _) (fun u r1 r2=>q3 u r1 (by omega)) (fun en cnt hI _=> .inl ⟨rfl,fun e fr he=>?_⟩) ?_ ?_
  ·obtain⟨⟨fr1,i1,r8,r9,r13⟩,⟨v,i2,hm⟩,i3⟩:=hI
   refine⟨by rcases he with rfl|rfl<;>rfl,?_⟩
   obtain⟨s1,s2⟩:=hm.shape;simp only[go_sem,aJl,i1,i2,i3,s1,s2]
   refine⟨rfl,eN rfl ?_⟩
   simp only[go_sem];obtain⟨r,ks,t1,_,t3,_⟩:=(hm.keep (en':=((en.set ⟨1,0,0⟩ none).set ⟨0,8,0⟩ (some (.box [v] false))).set ⟨0,9,0⟩ (some (.box [.i 0] false))) fun t g ht=>by simp at ht;subst ht;simp only[go_sem]).snap 6
   simp only[go_sem,t1,t3]
  ·refine⟨⟨fr0,by simp only[go_sem],by rw[hf];simp only[go_sem],by rw[hf];simp only[go_sem],by rw[hf];simp only[go_sem]⟩,⟨.cl [],by simp only[go_sem],?_⟩,by simp only[go_sem]⟩
   rw[Nat.sub_self];exact cX.nil _ _
  ·intro u hu;simp only[T3,bTp,bU9,or_false]at hu;rcases hu with rfl|rfl|rfl<;>decide
def zZ (act:Int):Prop:=act=17 \/act=18 \/act=22 \/act=23 \/act=20
instance {act :Int}:Decidable (zZ act):=by unfold zZ;infer_instance
variable {env:List aE}{left:List aB}{node op:Int}{v:aE}
variable {k:aA->aE->OpR}
variable {c:Prop}{x y:OpR}
theorem aV0 {k:Int}(h:cG w v k=true):v.kind=5:=by simp only[cG,bSw,bWo]at h;exact h.1
theorem xH {a:Int}(ha:inR a 0 ((w.tasks.length:Int)-1)=true):aX w a∈w.tasks:=by
 simp only[inR,bWo]at ha;unfold aX;rw[bSz,bTy (by omega)]
 exact bS7 _
def aO8 (p:aD)(w:aA)(e:fB):Int:=
 if zZ e.act then aC6 (aJ p w 0).1 e.task else if e.act=16 \/e.act=21 \/e.act=19 then((aJ p w 0).1.objs.length:Int)else-1
theorem aK7 {o:aP}(hv:v∈nY o)(h5:v.kind=5):v.n∈wI o:=by
 have hr:aJq v=true:=D_t h5;unfold nY at hv;unfold wI;rcases bTn.1 hv with hv|hv
 ·exact bVb _ (aCx hv hr)
 ·obtain⟨f,hf,hv⟩:=bUa.1 hv
  refine bUn _ (bUa.2 ⟨f,hf,?_⟩)
  unfold zL;rcases bTn.1 hv with hv|hv
  ·exact bVb _ (aCx hv hr)
  ·exact bUn _ (aCx hv hr)
def lD (p:aD)(l:bL)(object:Int)(t:Nat):Prop:=((aW p l t).2.1.act=16 \/(aW p l t).2.1.act=18)/\ aO8 p (atX p l t).1 (aW p l t).2.1=object
instance {p :aD}{l:bL}{object:Int}{t:Nat}:Decidable (lD p l object t):=by unfold lD;infer_instance
variable {s:Nat}
theorem oI (h:bJ p w=true)(ha:a<w.tasks.length):bJ p (aM p w a).w=true/\ ((aM p w a).what=0->(aM p w a).e=eM/\ (aM p w a).w.tasks=w.tasks)/\
  ((aM p w a).what=1->(aM p w a).e.task=(a:Int)/\ (¬(aM p w a).e.act=0 \/ ¬(aM p w a).e.n=0))/\ ((aM p w a).what=0 \/(aM p w a).what=1 \/(aM p w a).what=2):=by
 simp only[bJ,bSw]at h⊢;have hi:inR (a:Int) 0 ((w.tasks.length:Int)-1)=true:=by simp[inR];omega
 have hti:=qN _ _ (by have:=(cH.1 h.2).2.2.2.2.1;simp only[gS,bSw]at this;exact this.2) (aX w a) (xH hi)
 have h0:0<=aX w a:=by have:=hti.1;simp only[inR,bWo]at this;exact this.1
 obtain⟨c1,c2,c3,_⟩:=sR (p:=p) h0 hi;exact⟨⟨h.1,(kO (kN h.1) (sX h.2) hi).ok⟩,fun hw=>⟨(c1 hw).1,(c1 hw).2.1⟩,c2,c3⟩
structure aQr (w w':aA):Prop where
 le:w.objs.length<=w'.objs.length
 same: ∀i:Nat,i<w.objs.length->w'.obj i=w.obj i \/((w.obj i).form=6/\ (w'.obj i).form=6)
def InV (w:aA)(v:aE):Prop:=v.kind=5->inR v.n 0 ((w.objs.length:Int)-1)=true
variable {w':aA}
section
variable (h:aQr w w')(hin:xZ w)
include h
theorem bBg (hv:InV w v)(h5:v.kind=5):w'.obj v.n=w.obj v.n \/((w.obj v.n).form=6/\ (w'.obj v.n).form=6):=by
 have:=hv h5;simp only[inR,bWo]at this;obtain⟨i,hi⟩:=bTs this.1;rw[hi];exact h.same i (by omega)
theorem aOf (hv:InV w v){k:Int}(hk: ¬k=6):cG w' v k=cG w v k/\ (cG w v k=true->w'.obj v.n=w.obj v.n):=by
 unfold cG
 by_cases h5:v.kind=5
 ·rcases bBg h hv h5 with e|⟨e1,e2⟩
  ·rw[e];exact⟨rfl,fun _=>rfl⟩
  ·have n1: ¬(w.obj v.n).form=k:=by rw[e1];exact fun h=>hk h.symm
   have n2: ¬(w'.obj v.n).form=k:=by rw[e2];exact fun h=>hk h.symm
   simp[n1,n2]
 ·simp[h5]
theorem aV3 {f:aE}(hf:InV w f):eW p w' f v=eW p w f v:=by
 unfold eW;obtain⟨e1,e2⟩:=aOf h hf (k:=2) (by decide)
 rw[e1]
 by_cases hc:cG w f 2=true
 ·rw[e2 hc]
 ·rw[if_neg hc,if_neg hc]
end
theorem bHe (hin:xZ w)(hv:InV w v){k:Int}(ho:cG w v k=true): ∀u∈(w.obj v.n).vals,InV w u:=by
 intro u hu h5;have h5':=aV0 ho;have:=hv h5';simp only[inR,bWo]at this;obtain⟨i,hi⟩:=bTs this.1;have hil:i<w.objs.length:=by omega
 rw[hi,qJ hil]at hu;exact hin _ (bS7 hil) _ (aK7 (bVb _ hu) h5)
mutual
theorem aKb {w w':aA}(h:aQr w w')(hin:xZ w): ∀(q:Pat) {v:aE},InV w v->fW w' q v=fW w q v
 | .mk f n t ps,v,hv=>by
  unfold fW;split
  ·rfl
  split
  ·rfl
  split
  ·rfl
  split
  ·rfl
  split
  ·rfl
  obtain⟨e1,e2⟩:=aOf h hv (k:=1) (by decide)
  by_cases hc:cG w v 1=true
  ·rw[e1,e2 hc];split
   ·exact aHp h hin ps (bHe hin hv hc)
   ·rfl
  ·rw[if_neg (fun x=>hc (by rw[<-e1];exact x.1)),if_neg (fun x=>hc x.1)]
theorem aHp {w w':aA}(h:aQr w w')(hin:xZ w): ∀(ps:List Pat) {vs:List aE},(∀v∈vs,InV w v)->fF w' ps vs=fF w ps vs
 |[],vs,_=>by unfold fF;rfl
 |q::ps,[],_=>by unfold fF;rfl
 |q::ps,v::vs,hv=>by
  unfold fF;rw[aKb h hin q (hv v (by simp)),aHp h hin ps (fun u hu=>hv u (by simp[hu]))]
end
def plR :OpR->Bool
 | .go none _ _ _=>true
 |_=>false
theorem aK9 {a:Int}{R:OpR}:(R.did w a).what=0↔plR R=true:=by
 cases R with
 |go ev w' l b=>cases ev<;>simp[OpR.did,plR]
 |wait=>simp[OpR.did,plR,mZ]
 |fail s=>simp[OpR.did,plR,bG]
theorem aV4 {env':List aE}(w':aA)(he:env'.length=env.length):plR (iX w' left node env')=plR (iX w left node env):=by
 unfold iX oY;simp only[he,bTg,bS8,bTd];split
 ·rfl
 ·split<;>rfl
theorem aHq (w':aA):plR (iX w' left node env)=plR (iX w left node env):=aV4 w' rfl
theorem aOg {w w':aA}(h:aQr w w')(hin:xZ w){left:List aB}{kids:List Int}{env:List aE}{u:aE}(hu:InV w u): ∀(l:List Pat) (i:Nat),plR (dY w' left kids env u i l)=plR (dY w left kids env u i l)
 |[],i=>rfl
 |q::qs,i=>by
  simp only[dY];rw[aKb h hin q hu];cases fW w q u with
  |some l=>exact aHq w'
  |none=>exact aOg h hin hu qs (i+1)
theorem aY4 (h:w.objs.length<=w'.objs.length){o o':aP}{k':aA->aE->OpR}(hk:plR (k' (eF w' o') (dQ w'.objs.length))=true->plR (k (eF w o) (dQ w.objs.length))=true):plR (iE w' o' k')=true->plR (iE w o k)=true:=by
 unfold iE
 by_cases h1:120<=w'.objs.length
 ·rw[if_pos h1];exact fun h=>by cases h
 ·rw[if_neg h1,if_neg (by omega)];exact hk
variable {x':OpR}
theorem bEw [Decidable c]{y':OpR}(hx:c->plR x'=true->plR x=true)(hy: ¬c->plR y'=true->plR y=true):plR (if c then x' else y')=true->plR (if c then x else y)=true:=by
 by_cases h:c
 ·rw[if_pos h,if_pos h];exact hx h
 ·rw[if_neg h,if_neg h];exact hy h
theorem bEx (h:plR x'=false):plR x'=true->plR x=true:=fun h'=>by rw[h]at h';cases h'
theorem aY5 {o:aP}(h:plR (k (eF w o) (dQ w.objs.length))=false):plR (iE w o k)=false:=by
 unfold iE;split
 ·rfl
 ·exact h
theorem bBh (h:aQr w w')(hin:xZ w){a:Int}{f:aB}{n:aL}(hv: ∀v∈f.vals,InV w v):plR (opR p w' a left f n)=true->plR (opR p w a left f n)=true:=by
 have hv0:InV w (aF f.vals 0):=by
  unfold aF;rw[bSz];cases hg:f.vals[0]? with
  |none=>intro h;cases h
  |some x=>exact hv x (List.mem_of_getElem? hg)
 unfold opR
 repeat' (with_reducible refine bEw (fun _=>?_) (fun _=>?_))
 all_goals first
  |exact fun _=>rfl
  |exact fun hp=>(aHq w').symm.trans hp
  |exact fun hp=>(aHq w').trans hp
  |exact aY4 h.le (fun _=>rfl)
  |exact fun hp=>(aOg h hin hv0 _ _).symm.trans hp
  |exact bEx rfl
  |exact bEx (aY5 rfl)
  |(refine bEx ?_;(repeat' split)<;>(first|rfl|exact aY5 rfl))
  |skip
 ·rw[aV3 h hv0];obtain⟨e1,e2⟩:=aOf h hv0 (k:=5) (by decide)
  cases eW p w (aF f.vals 0) (aF f.vals 1)with
  |some b=>exact fun hp=>(aHq w').symm.trans hp
  |none=>
   simp only
   by_cases hc:cG w (aF f.vals 0) 5=true
   ·rw[e1,if_pos hc,if_pos hc,e2 hc];exact bEw (fun _ h=>h) (fun _ _=>rfl)
   ·rw[e1,if_neg hc,if_neg hc];exact id
 ·cases gG p left left.length with
  |zero=>exact id
  |succ k=>exact aY4 h.le (fun hp=>(aV4 _ (by simp)).symm.trans hp)
theorem bBi {a:Int}(ha:inR a 0 ((w.tasks.length:Int)-1)=true)(h:(aM p w a).what=0): ∃w' l b,(aM p w a).w=dD w' (aX w' a) ⟨6,0,b,l⟩/\ w'.tasks=w.tasks/\ w.objs<+:w'.objs:=by
 have key: ∀{R:OpR},Go.Abs.Calm w a R->(R.did w a).what=0-> ∃w' l b,(R.did w a).w=dD w' (aX w' a) ⟨6,0,b,l⟩/\ w'.tasks=w.tasks/\ w.objs<+:w'.objs:=by
  intro R hR hw;cases R with
  |go ev w' l b=>
   cases ev with
   |none=>exact⟨w',l,b,rfl,hR.1,hR.2.1⟩
   |some e=>exact absurd (show(1:Int)=0 from hw) (by decide)
  |wait=>exact absurd (show(2:Int)=0 from hw) (by decide)
  |fail s=>exact absurd (show(1:Int)=0 from hw) (by decide)
 revert h
 unfold aM
 simp only
 split
 ·exact fun h=>absurd (show(2:Int)=0 from h) (by decide)
 split
 ·split
  ·exact fun h=>absurd (show(1:Int)=0 from h) (by decide)
  ·exact fun _=>⟨w,_,_,rfl,rfl,bUp _⟩
 split
 ·rw[pR];exact key zX
 ·unfold qL;rw[wO ha];exact key aHf
theorem aX0 (hg:bJ p w=true)(ha:a<w.tasks.length)(hb:b<w.tasks.length)(hab: ¬a=b)(h0: ¬(aM p w a).what=0)(hbp:(aM p w b).what=0): ¬(aM p (aM p w b).w a).what=0:=by
 have hgw:cJ p w=true:=by simp only[bJ,bSw]at hg;exact hg.2
 have hia:inR (a:Int) 0 ((w.tasks.length:Int)-1)=true:=by simp only[inR,bWo];omega
 have hib:inR (b:Int) 0 ((w.tasks.length:Int)-1)=true:=by simp only[inR,bWo];omega
 have htk:=(cH.1 hgw).2.2.2.2.1;simp only[gS,bSw]at htk;obtain⟨hd1,hd2,_⟩:=lY w _ _ htk.2;have hti:=hd1 _ (xH hia);have htj:=hd1 _ (xH hib);simp only[inR,bWo]at hti htj;obtain⟨i,hi⟩:=bTs hti.1.1;obtain⟨j,hj⟩:=bTs htj.1.1;have hij: ¬i=j:=by
  intro e;have h1:(w.tasks.map Int.toNat)[a]?=some i:=by
   have:aX w a=w.tasks[a]:=by simp[aX,ha]
   rw[bVy,bTy ha,<-this,hi];rfl
  have h2:(w.tasks.map Int.toNat)[b]?=some j:=by
   have:aX w b=w.tasks[b]:=by simp[aX,hb]
   rw[bVy,bTy hb,<-this,hj];rfl
  exact hab ((List.getElem?_inj (by simpa using ha) hd2).1 (by rw[h1,h2,e]))
 obtain⟨w1,l,bk,e1,e2,e3⟩:=bBi hib hbp;have ht1:aX w1 b=(j:Int):=by rw[aN1 e2,hj]
 rw[ht1]at e1;obtain⟨w',hw'⟩: ∃w',w'=(aM p w b).w:=⟨_,rfl⟩
 rw[<-hw']at e1⊢;have hle:w.objs.length<=w'.objs.length:=by rw[e1];simp only[dD,bUs];exact e3.length_le
 have hot: ∀k:Nat,k<w.objs.length-> ¬k=j->w'.obj k=w.obj k:=fun k hk hkj=>by
  rw[e1,aSq (by simpa using hkj)]
  exact aN0 e3 hk
 have hA:aQr w w':=⟨hle,fun k hk=>by
  rcases Decidable.em (k=j)with rfl|hkj
  ·refine .inr ⟨by have:=htj.2;rw[hj]at this;exact D_o this,?_⟩
   have hk1:k<w1.objs.length:=bTm hk e3.length_le;rw[e1];simp[aA.obj,dD,hk1]
  ·exact .inl (hot k hk hkj)⟩
 have hin:xZ w:=fun o ho x hx=>aUz hg o ho x ((aMy _ _).2 hx)
 have htk':w'.tasks=w.tasks:=by rw[e1];exact e2
 have hta:aX w' a=aX w a:=aN1 htk';have hil:i<w.objs.length:=by omega
 have hob:w'.obj (aX w a)=w.obj (aX w a):=by rw[hi];exact hot i hil hij
 intro hp;apply h0
 revert hp
 unfold aM;simp only[hta,hob];split
 ·exact fun h=>absurd (show(2:Int)=0 from h) (by decide)
 split
 ·split
  ·exact id
  ·exact fun _=>rfl
 split
 ·rw[pR,pR,aK9,aK9,aHq w'];exact id
 ·unfold qL;rw[wO hia,wO (by rw[htk'];exact hia),aK9,aK9]
  refine bBh hA hin fun v hv h5=>?_
  have hfl:0<(w.obj (aX w a)).frames.length:=by
   cases hfr:(w.obj (aX w a)).frames with
   |nil=>rw[hfr]at hv;cases hv
   |cons=>simp
  rw[bSz,bTy (by omega)]at hv
  have hom:w.obj (aX w a)∈w.objs:=by rw[hi,qJ hil];exact bS7 _
  exact hin _ hom _ (aK7 (bUn _ (bUa.2 ⟨_,bS7 _,bUn _ hv⟩)) h5)
def pF (p:aD)(w:aA)(n:Nat):Prop:= ∀a:Nat,a<n->a<w.tasks.length-> ¬(aM p w a).what=0
theorem aOh {p:aD}{b:Nat}: ∀(k:Nat) {w:aA},bJ p w=true->b<w.tasks.length->pF p w b->(cS p b k w).2.2=true->
  bJ p (cS p b k w).1=true/\ (cS p b k w).1.tasks=w.tasks/\ pF p (cS p b k w).1 (b+1)
 |0,w,hg,hb,hc,h=>by
  rw[cS]at h⊢
  by_cases h0:(aM p w b).what=0
  ·rw[if_pos h0]at h;cases h
  ·rw[if_neg h0]
   refine⟨hg,rfl,fun a h1 h2=>?_⟩
   rcases bT5 a b with h|h
   ·exact hc a h h2
   ·obtain rfl:a=b:=by omega
    exact h0
 |k+1,w,hg,hb,hc,h=>by
  rw[cS]at h⊢
  by_cases h0:(aM p w b).what=0
  ·rw[if_pos h0]at h⊢;obtain⟨g1,g2,_⟩:=oI hg hb;have ht:=(g2 h0).2;obtain⟨i1,i2,i3⟩:=aOh k g1 (by rw[ht];exact hb) (fun a h1 h2=>by
    rw[ht]at h2;exact aX0 hg h2 hb (by omega) (hc a h1 h2) h0) h
   exact⟨i1,i2.trans ht,i3⟩
  ·rw[if_neg h0]
   refine⟨hg,rfl,fun a h1 h2=>?_⟩
   rcases bT5 a b with h|h
   ·exact hc a h h2
   ·obtain rfl:a=b:=by omega
    exact h0
theorem aHr {p:aD}: ∀(n b:Nat) {w:aA} {s:Nat},bJ p w=true->w.tasks.length<=b+n->pF p w b->(eE p n b w s).2.2=true->bJ p (eE p n b w s).1=true/\ pF p (eE p n b w s).1 (eE p n b w s).1.tasks.length
 |0,b,w,s,hg,hl,hc,_=>⟨hg,fun a h1 h2=>hc a (by have:a<w.tasks.length:=h1;omega) h2⟩
 |n+1,b,w,s,hg,hl,hc,h=>by
  rw[eE]at h⊢
  by_cases hb:b<w.tasks.length
  ·rw[if_pos hb]at h⊢
   by_cases hi:(cS p b (5000-s) w).2.2=true
   ·rw[if_pos hi]at h⊢;obtain⟨i1,i2,i3⟩:=aOh _ hg hb hc hi;exact aHr n (b+1) i1 (by rw[i2];omega) i3 h
   ·rw[if_neg hi]at h;cases h
  ·rw[if_neg hb];exact⟨hg,fun a h1 h2=>hc a (by have:a<w.tasks.length:=h1;omega) h2⟩
theorem qT (hg:bJ p w=true)(h:(aJ p w s).2.2=true):bJ p (aJ p w s).1=true/\ pF p (aJ p w s).1 (aJ p w s).1.tasks.length:=by
 refine aHr 121 0 hg ?_ (fun a h1=>absurd h1 (Nat.not_lt_zero a)) h
 simp only[bJ,bSw]at hg;have hw:=cH.1 hg.2;have:=wU hw.2.2.2.2.1;omega
theorem uR {p:aD}{w:aA}(hc:pF p w w.tasks.length): ∀(n b s:Nat),eE p n b w s=(w,s,true)
 |0,_,_=>rfl
 |n+1,b,s=>by
  rw[eE]
  by_cases hb:b<w.tasks.length
  ·have hi:cS p b (5000-s) w=(w,0,true):=by
    cases h:5000-s with
    |zero=>rw[cS,if_neg (hc b hb hb)]
    |succ k=>rw[cS,if_neg (hc b hb hb)]
   rw[if_pos hb,hi,if_pos rfl];exact uR hc n (b+1) _
  ·rw[if_neg hb]
variable {xs:List Val}
theorem bEy :(Val.cl xs).cells=[Val.cl xs]:=(rfl)
theorem bKg :(Val.cl xs).one=true:=(rfl)
def aSw (p:aD)(w:aA)(every:Int):bL×Int:=if bJ p w=true/\ 1<=every/\ every<=20 then aIt p w every else(tS,2)
theorem aPb (hpf:p.few)(hwf:w.few)(hsp:aU p=true)(every:Int):PC L 41 [.agg p.cs,.agg w.cs,.i every] (.tup [bL.enc (aSw p w every).1,.i (aSw p w every).2]):=by
 unfold aSw;have hC:=aEg p w hpf hwf hsp
 refine pcA func41 ?_
 simp only[go_sem,kK,kF]
 refine wZ ?_
 simp only[go_sem,kK]
 by_cases hg:bJ p w=true/\ 1<=every/\ every<=20
 case neg=>
  rw[if_neg hg]
  refine cR 12 rfl ?_
  have hc:bJ p w=false \/(bJ p w=true/\ ¬1<=every) \/(bJ p w=true/\ 1<=every/\ ¬every<=20):=by
   cases h:bJ p w
   ·exact .inl rfl
   ·rw[h]at hg;refine .inr ?_;simp only[true_and]at hg⊢;omega
  rcases hc with h1|⟨h1,h2⟩|⟨h1,h2,h3⟩
  all_goals rw[h1]at hC
  case' inr.inr=>simp only[go_sem,kK,bS3,bS2,hC.ret,D_t h2,D_f h3,(bR _).ret,kF]
  case' inr.inl=>simp only[go_sem,kK,bS3,bS2,hC.ret,D_f h2,(bR _).ret,kF]
  case' inl=>simp only[go_sem,kK,bS3,bS2,hC.ret,(bR _).ret,kF]
  all_goals
   refine⟨rfl,bI (x:= .i 0) rfl ?_⟩
   refine jB func98 ?_
   simp only[go_sem];rfl
 rw[if_pos hg];obtain⟨h1,h2,h3⟩:=hg;rw[h1]at hC
 refine bS ?_
 simp only[go_sem,kK,hC.ret,D_t h2,D_t h3,(dI _).ret,kF];have hS:=xC p w hpf hwf hsp;unfold aIt
 by_cases hs:(aJ p w 0).2.2=true
 ·have hM:nA p w=((aJ p w 0).1,(aJ p w 0).2.1,0):=by unfold nA;rw[if_pos h1,if_pos hs]
  rw[hM]at hS;rw[if_pos hs];simp only[go_sem,hS.ret]
  refine bS ?_
  simp only[go_sem,(dI _).ret,bEy,bKg,kF]
  refine⟨rfl,eN rfl ?_⟩
  simp only[go_sem];rfl
 ·have hM:(nA p w).2.2=8:=by unfold nA;rw[if_pos h1,if_neg hs]
  rw[if_neg hs];simp only[go_sem,hS.ret,hM]
  refine cR 3 rfl ?_
  simp only[go_sem,bS3,bS2,(bR _).ret]
  refine⟨rfl,bI (x:= .i 8) rfl ?_⟩
  refine jB func98 ?_
  simp only[go_sem];rfl
theorem oS.mks (h:oS l):l.marks.length<=201:=by
 have h1:=h.mn;have:=h.pk;have h2:=Nat.div_le_self l.picks.length (aQ l);generalize l.picks.length/aQ l=q at h1 h2;omega
def bEz (p:aD)(l:bL)(n:Int):bL×Int:=if iR p l=true/\ 0<=n/\ n<=(l.picks.length:Int)then(aVv l n.toNat,0)else(tS,2)
theorem aV5 (hpf:p.few)(hlf:l.few)(hsp:aU p=true)(n:Int):PC L 31 [.agg p.cs,.agg [.i l.every,.is l.picks,.fz (l.marks.map aA.enc)],.i n] (.tup [bL.enc (bEz p l n).1,.i (bEz p l n).2]):=by
 unfold bEz
 refine pcA func31 ?_
 simp only[go_sem,kK,kF]
 refine wZ ?_
 simp only[go_sem,kK]
 by_cases hok:iR p l=true
 case neg=>
  rw[if_neg (fun h=>hok h.1)]
  refine cR 2 rfl ?_
  simp only[go_sem,bS3,bS2,(qR p l hpf hlf hsp (by rw[lQ];simpa using hok)).ret]
  refine⟨rfl,bI (x:= .i 0) rfl ?_⟩
  refine jB func85 ?_
  simp only[go_sem];rfl
 have hl:=oS.of hok;have hP:=qQ p l hpf hlf hsp (by rw[lQ];exact hok)
 refine bS ?_
 simp only[go_sem,hP.ret,kF]
 by_cases hn:0<=n/\ n<=(l.picks.length:Int)
 case neg=>
  rw[if_neg (fun h=>hn h.2)]
  refine cR 9 rfl ?_
  have hc: ¬0<=n \/(0<=n/\ ¬n<=(l.picks.length:Int)):=by omega
  rcases hc with h1|⟨h1,h2⟩
  case' inr=>simp only[go_sem,kK,bS3,bS2,D_t h1,D_f h2,bSy,(bR _).ret]
  case' inl=>simp only[go_sem,kK,bS3,bS2,D_f h1,(bR _).ret]
  all_goals
   refine⟨rfl,bI (x:= .i 0) rfl ?_⟩
   refine jB func85 ?_
   simp only[go_sem];rfl
 rw[if_pos ⟨hok,hn⟩]
 refine bS ?_
 simp only[go_sem,kK,D_t hn.1,D_t hn.2,bSy,(dI _).ret,kF];obtain⟨m,rfl⟩:=bTs hn.1;rw[bTt];have hm:m<=l.picks.length:=by omega
 have hlt:=hl.lt hm;have hcp:PC L 86 [bL.enc (aVv l m)] (bL.enc (aVv l m)):=by
  have hmk: ∀w∈(aVv l m).marks,w∈l.marks:=fun w hw=>bVf hw
  have hpk:=hl.pk
  refine aN5 (aVv l m) ⟨?_,?_,fun w hw=>hlf.2.2 w (hmk w hw)⟩ ?_ ?_ fun w hw=>?_
  ·show(l.picks.take m).length<=_;rw[bT3];omega
  ·show(l.marks.take (m/aQ l+1)).length<=_;rw[bT3];have:=hl.mks;exact bS9 (Nat.min_le_right _ _) (by omega)
  ·show(l.picks.take m).length<=_;rw[bT3];omega
  ·show(l.marks.take (m/aQ l+1)).length<=_;rw[bT3];have:=hl.mks;exact bS9 (Nat.min_le_right _ _) (by omega)
  ·have hok':=(qP hok);exact lB hsp (hok'.2.2.2.2 w (hmk w hw))
 simp only[bL.enc,aVv,Val.is,bUd]at hcp⊢;have hle:m/aQ l+1<=l.marks.length:=hlt;simp only[hl.ev]at hcp;have hw1:IntKind.i64.wrap (((m/aQ l:Nat):Int)+1)=((m/aQ l+1:Nat):Int):=by have:=hl.mks;generalize m/aQ l=q at hlt⊢;rw[aV (by omega)];rfl
 simp only[go_sem,hl.ev,hl.ne,hl.div,hl.wdiv hm,bSy,hm,hle,hw1,hcp.ret,kF]
 refine⟨rfl,eN rfl ?_⟩
 simp only[go_sem]
def bBj (p:aD)(l:bL)(pick:Int):bL×fB×Int:=if iR p l=true then bBd p l pick else(tS,eM,2)
noncomputable def c88 :{c//L 88=some c}:=cA func88
theorem aKc (hpf:p.few)(hlf:l.few)(hsp:aU p=true)(pick:Int):PC L 34 [.agg p.cs,.agg l.cs,.i pick] (.tup [bL.enc (bBj p l pick).1,evV (bBj p l pick).2.1,.i (bBj p l pick).2.2]):=by
 unfold bBj
 refine pcA func34 ?_
 simp only[go_sem,kK,kF]
 refine wZ ?_
 simp only[go_sem,kK]
 by_cases hok:iR p l=true
 case neg=>
  rw[if_neg hok]
  refine cR 2 rfl ?_
  simp only[go_sem,bS3,bS2,(qR p l hpf hlf hsp (by rw[lQ];simpa using hok)).ret]
  refine⟨rfl,bI (x:= .i 0) rfl ?_⟩
  refine dP c88.2 rfl rfl ?_
  simp only[go_sem,c88];rfl
 have hl:=oS.of hok;have hP:=qQ p l hpf hlf hsp (by rw[lQ];exact hok)
 rw[if_pos hok]
 refine bS ?_
 simp only[go_sem,hP.ret,bSy,kF];unfold bBd
 by_cases hn:200<=l.picks.length
 case pos=>
  rw[if_pos hn]
  refine cR 2 rfl ?_
  simp only[go_sem,bS3,bS2,show decide ((l.picks.length:Int)<200)=false from D_f (by omega),(bR _).ret]
  refine⟨rfl,bI (x:= .i 0) rfl ?_⟩
  refine dP c88.2 rfl rfl ?_
  simp only[go_sem,c88];rfl
 rw[if_neg hn]
 refine bS ?_
 simp only[go_sem,show decide ((l.picks.length:Int)<200)=true from D_t (by omega),(dI _).ret,kF]
 obtain⟨o1,o2⟩:=aBc hpf hsp hok (bSx l.picks.length)
 by_cases h0:(atX p l l.picks.length).2=0
 case neg=>
  rw[if_neg h0]
  refine cR 3 rfl ?_
  simp only[go_sem,bS3,bS2,(o2 h0).ret]
  refine⟨rfl,bI (x:= .i 0) rfl ?_⟩
  refine dP c88.2 rfl rfl ?_
  simp only[go_sem,c88];rfl
 rw[if_pos h0];have hg:=sC hok (bSx _) h0
 by_cases h2:(cV p (atX p l l.picks.length).1 pick).2.2=0
 case neg=>
  have hX:=xE p l (atX p l l.picks.length).1 pick hpf (fC hsp hg) hsp hg h2;rw[if_neg h2]
  refine cR 5 rfl ?_
  simp only[go_sem,bS3,bS2,(o1 h0).ret,hX.ret,kF]
  refine⟨rfl,bI (x:= .i 0) rfl ?_⟩
  refine dP c88.2 rfl rfl ?_
  simp only[go_sem,c88];rfl
 rw[if_pos h2];have hT:=xD p l (atX p l l.picks.length).1 pick hpf (fC hsp hg) hsp hg h2;generalize hr:cV p (atX p l l.picks.length).1 pick=r at*
 refine bS ?_
 simp only[go_sem,(o1 h0).ret,hT.ret,evV,kF];have hmf: ∀w∈l.marks,bZ w=true:=fun w hw=>lB hsp ((qP hok).2.2.2.2 w hw)
 refine WIn.mono (aXw hlf (by omega) (by have:=hl.mks;omega) hmf (g3:=1) rfl rfl rfl) ?_
 rintro x en' cnt' ⟨vP,v,rfl,mP,hv,hO⟩
 have k6:en' ⟨0,6,0⟩=some (.box [.i 0,.cl [],.cl []] false):=by rw[hO 0 6 0 (.inr (.inl (by decide)))];simp only[go_sem]
 have k7:en' ⟨0,7,0⟩=some (.box [.i r.2.1.task,.i r.2.1.act,.i r.2.1.n,.i r.2.1.v.kind,.i r.2.1.v.n] false):=by rw[hO 0 7 0 (.inr (.inl (by decide)))];simp only[go_sem]
 have k8:en' ⟨0,8,0⟩=some (.box [.i 0] false):=by rw[hO 0 8 0 (.inr (.inl (by decide)))];simp only[go_sem]
 have k11:en' ⟨0,11,0⟩=some (.box [.fz (r.1.objs.map aP.enc),.is r.1.tasks,.fz (r.1.outs.map bO.enc),.is r.1.ins,.i r.1.used] false):=by rw[hO 0 11 0 (.inr (.inl (by decide)))];simp only[go_sem]
 clear hO;simp only[go_sem,k6]
 refine jO (D:=[10]) (xs:=l.picks.map (.int .i64)) (ys:=[.i pick]) (rs:=[]) ?_ ?_ rfl ?_ ?_
 ·simp only[go_sem];exact mP.keep fun t g ht=>by simp at ht;subst ht;simp only[go_sem]
 ·simp only[go_sem]
 ·simp;omega
 intro vQ en2 cnt2 mQ hen hcnt;have j6:en2 ⟨0,6,0⟩=some (.box [.i l.every,vP,v] false):=by rw[hen 0 6 0 (.inr ⟨by decide,by simp⟩)];simp only[go_sem]
 have j7:=(hen 0 7 0 (.inr ⟨by decide,by simp⟩)).trans (by simp only[go_sem,k7]:_=some (.box [.i r.2.1.task,.i r.2.1.act,.i r.2.1.n,.i r.2.1.v.kind,.i r.2.1.v.n] false))
 have j8:=(hen 0 8 0 (.inr ⟨by decide,by simp⟩)).trans (by simp only[go_sem,k8]:_=some (.box [.i 0] false))
 have j11:=(hen 0 11 0 (.inr ⟨by decide,by simp⟩)).trans (by simp only[go_sem,k11]:_=some (.box [.fz (r.1.objs.map aP.enc),.is r.1.tasks,.fz (r.1.outs.map bO.enc),.is r.1.ins,.i r.1.used] false))
 have hv2:cX en2 v 5 (l.marks.map aA.enc) [24]:=hv.keep fun t g ht=>by simp at ht;subst ht;rw[hen 0 24 g (.inr ⟨by decide,by simp⟩)];simp only[go_sem]
 have hmk:=aIv (p:=p) (l:=l) (l.picks.length+1) hl.e1 (by omega) hl.ev
 have hw1:IntKind.i64.wrap ((l.picks.length:Int)+1)=((l.picks.length+1:Nat):Int):=by rw[aV (by omega)];rfl
 simp only[go_sem,kK,j6,mQ.shape.1,mQ.shape.2,hw1,hmk.ret,kF]
 by_cases hd:(l.picks.length+1)%aQ l=0
 case' neg=>
  obtain⟨M,hM⟩: ∃M,M=l.marks:=⟨_,rfl⟩
  rw[if_neg hd,<-hM];rw[<-hM]at hv2;obtain⟨vM,hvM⟩: ∃vM,vM=v:=⟨_,rfl⟩
  obtain⟨D,hD,hDm⟩: ∃D,D=[24]/\ ∀t∈D,t=24 \/t=47:=⟨_,rfl,by simp⟩
  simp only[go_sem,D_f hd];obtain⟨en3,he3⟩: ∃e,e=en2.set ⟨0,6,0⟩ (some (.box [.i l.every,vQ,v] false)):=⟨_,rfl⟩
  have i6:en3 ⟨0,6,0⟩=some (.box [.i l.every,vQ,vM] false):=by rw[he3,hvM];simp only[go_sem]
  have i7:en3 ⟨0,7,0⟩=some (.box [.i r.2.1.task,.i r.2.1.act,.i r.2.1.n,.i r.2.1.v.kind,.i r.2.1.v.n] false):=by rw[he3];simp only[go_sem,j7]
  have i8:en3 ⟨0,8,0⟩=some (.box [.i 0] false):=by rw[he3];simp only[go_sem,j8]
  have iQ:cX en3 vQ 1 ((l.picks++[pick]).map (.int .i64)) [37,10]:=by
   rw[bT0,he3];exact mQ.keep fun t g ht=>by simp at ht;rcases ht with rfl|rfl<;>simp only[go_sem]
  have iM:cX en3 vM 5 (M.map aA.enc) D:=by
   rw[hD,hvM,he3];exact hv2.keep fun t g ht=>by simp at ht;subst ht;simp only[go_sem]
  rw[<-he3]
 case' pos=>
  obtain⟨M,hM⟩: ∃M,M=l.marks++[r.1]:=⟨_,rfl⟩
  rw[if_pos hd,<-hM];simp only[go_sem,D_t hd,j11]
  refine jO (D:=[24]) (xs:=l.marks.map aA.enc) (ys:=[aA.enc r.1]) (rs:=[]) ?_ ?_ rfl ?_ ?_
  ·simp only[go_sem];exact hv2.keep fun t g ht=>by simp at ht;subst ht;simp only[go_sem]
  ·simp only[go_sem,aA.enc]
  ·have:=hl.mks;simp;omega
  intro vM en4 cnt4 mM hen4 hcnt4;have m6:en4 ⟨0,6,0⟩=some (.box [.i l.every,vQ,v] false):=by rw[hen4 0 6 0 (.inr ⟨by decide,by simp⟩)];simp only[go_sem]
  simp only[go_sem,m6,mM.shape.1,mM.shape.2];obtain⟨D,hD,hDm⟩: ∃D,D=[47,24]/\ ∀t∈D,t=24 \/t=47:=⟨_,rfl,by simp⟩
  obtain⟨en3,he3⟩: ∃e,e=en4.set ⟨0,6,0⟩ (some (.box [.i l.every,vQ,vM] false)):=⟨_,rfl⟩
  have i6:en3 ⟨0,6,0⟩=some (.box [.i l.every,vQ,vM] false):=by rw[he3];simp only[go_sem]
  have i7:en3 ⟨0,7,0⟩=some (.box [.i r.2.1.task,.i r.2.1.act,.i r.2.1.n,.i r.2.1.v.kind,.i r.2.1.v.n] false):=by rw[he3,kG (by simp),hen4 0 7 0 (.inr ⟨by decide,by simp⟩)];simp only[go_sem,j7]
  have i8:en3 ⟨0,8,0⟩=some (.box [.i 0] false):=by rw[he3,kG (by simp),hen4 0 8 0 (.inr ⟨by decide,by simp⟩)];simp only[go_sem,j8]
  have iQ:cX en3 vQ 1 ((l.picks++[pick]).map (.int .i64)) [37,10]:=by
   rw[bT0,he3];exact mQ.keep fun t g ht=>by simp at ht;rcases ht with rfl|rfl<;>(rw[kG (by simp),hen4 0 _ g (.inr ⟨by decide,by simp⟩)];simp only[go_sem])
  have iM:cX en3 vM 5 (M.map aA.enc) D:=by
   rw[hD,hM,bT0,he3];exact mM.keep fun t g ht=>by simp at ht;rcases ht with rfl|rfl<;>simp only[go_sem]
  rw[<-he3]
 all_goals
  obtain⟨u1,u2⟩:=iQ.shape;obtain⟨u3,u4⟩:=iM.shape
  refine aH ?_
  simp only[go_sem,i6,i7,i8,kA,kF]
  refine⟨rfl,eN rfl ?_⟩
  simp only[go_sem];obtain⟨E,hE⟩: ∃E,E=((en3.set ⟨0,6,0⟩ (some (.box [.i l.every,vQ,vM] false))).set ⟨0,7,0⟩ (some (.box [.i r.2.1.task,.i r.2.1.act,.i r.2.1.n,.i r.2.1.v.kind,.i r.2.1.v.n] false))).set ⟨0,8,0⟩ (some (.box [.i 0] false)):=⟨_,rfl⟩
  rw[<-hE];obtain⟨a1,b1,s1,s1',_⟩:=(iQ.keep (en':=E) fun t g ht=>by rw[hE];simp at ht;rcases ht with rfl|rfl<;>simp only[go_sem]).snap 5
  obtain⟨a2,b2,s2,s2',_⟩:=(iM.keep (en':=E) fun t g ht=>by rw[hE];rcases hDm t ht with rfl|rfl<;>simp only[go_sem]).snap 5
  simp only[go_sem,s1,s2,s1',s2'];rfl
theorem aIy (n lo hi:Int):PC L 87 [.i n,.i lo,.i hi] (.bool (inR n lo hi)):=by
 refine pcA func87 ?_
 simp only[go_sem,qW]
 refine bD (fun h=>?_) (fun h=>?_)<;>simp only[go_sem,h]<;>simp at h<;>simp[h,inR]
 omega
theorem aOj (hpf:p.few)(hlf:l.few)(hc:p.cons.length<=1000):PC L 33 [.agg p.cs,.agg [.i l.every,.is l.picks,.fz (l.marks.map aA.enc)]] (.bool (iR p l)):=by
 have hF:=aEe p hpf hc;have hlog:iR p l=(fJ p&&inR l.every 1 20&&decide (l.picks.length<=200)&&decide (l.marks.length=l.picks.length/aQ l+1)&&l.marks.all (cJ p)):=rfl
 refine pcA func33 ?_
 cases hf:fJ p with
 |false=>rw[hf]at hF hlog;rw[hlog];simp only[go_sem,kK,hF.ret,bTf,bTk,kF]
 |true=>
 cases he:inR l.every 1 20 with
 |false=>rw[hf]at hF hlog;rw[he]at hlog;rw[hlog];simp only[go_sem,kK,hF.ret,(aIy _ _ _).ret,he,bTf,bS6,bTk,bT6,kF]
 |true=>
 rw[hf]at hF hlog;rw[he]at hlog;rw[hlog]
 by_cases hk:l.picks.length<=200
 case neg=>simp only[go_sem,kK,hF.ret,(aIy _ _ _).ret,he,bSy,D_f hk,show decide ((200:Int)<(l.picks.length:Int))=true from D_t (by omega),bS6,bTk,bT6,kF]
 have hev:l.every=(aQ l:Int):=by simp only[inR,bWo]at he;unfold aQ;omega
 have h1:1<=aQ l:=by simp only[inR,bWo]at he;unfold aQ;omega
 have hdv:((l.picks.length:Int)).tdiv (aQ l:Int)=((l.picks.length/aQ l:Nat):Int):=by rw[bWm (by omega)];rfl
 have hle:=Nat.div_le_self l.picks.length (aQ l);have hw1:IntKind.i64.wrap (((l.picks.length/aQ l:Nat):Int))=((l.picks.length/aQ l:Nat):Int):=by generalize l.picks.length/aQ l=q at hle⊢;exact aV (by omega)
 have hw2:IntKind.i64.wrap (((l.picks.length/aQ l:Nat):Int)+1)=((l.picks.length/aQ l+1:Nat):Int):=by generalize l.picks.length/aQ l=q at hle⊢;rw[aV (by omega)];rfl
 have hne: ¬(aQ l:Int)=0:=by omega
 have hk':decide ((200:Int)<(l.picks.length:Int))=false:=D_f (by omega)
 rw[hev]at he;simp only[go_sem,kK,hF.ret,(aIy _ _ _).ret,hev,he,bSy,D_t hk,hk',hne,hdv,hw1,hw2,bS6,bTo,bUc,kF]
 by_cases hm:l.marks.length=l.picks.length/aQ l+1
 case neg=>simp only[go_sem,kK,D_f hm,bTf,bTk]
 simp only[go_sem,D_t hm,bS6,bTo]
 refine bK l.marks.length (fun k st=> ∃fr en cnt,st=⟨fr,en,cnt⟩/\ fr 2= .ptr ⟨0,2,0⟩ 0/\ fr 3= .ptr ⟨0,3,0⟩ 0/\ fr 5= .i (k:Int)/\ en ⟨0,2,0⟩=some (.box [.fz (p.nodes.map aL.enc),.fz (p.funs.map (.int .i64)),.i p.main,.fz (p.cons.map dC.enc)] false)/\ en ⟨0,3,0⟩=some (.box [.i (aQ l:Int),.is l.picks,.fz (l.marks.map aA.enc)] false)/\ (l.marks.drop k).all (cJ p)=l.marks.all (cJ p)) 0 (bS4 _) (by refine⟨_,_,_,rfl,?_,?_,?_,?_,?_,rfl⟩<;>simp only[go_sem]) ?_
 rintro k st hk ⟨fr,en,cnt,rfl,f2,f3,f5,e2,e3,hI⟩
 simp only[go_sem,kK,f3,f5,e3,bSy]
 refine aG (fun hq=>?_) (fun hq=>?_)
 ·have h':k<l.marks.length:=D_o hq;have hW:=rI p l.marks[k] hpf (hlf.2.2 _ (bS7 h'));have hst:=gP h' (cJ p);rw[<-hI,hst];simp only[go_sem,kK,f2,f3,f5,e2,e3,rZ h',hW.ret,kF];cases hb:cJ p l.marks[k]with
  |false=>simp only[go_sem,kK,bTf,bTk]
  |true=>
   simp only[go_sem,bS6,bTo,f5,h',aR h' hlf.2.1];exact⟨_,_,_,rfl,by simp only[go_sem,f2],by simp only[go_sem,f3],by simp only[go_sem],e2,e3⟩
 ·have:k=l.marks.length:=by simp at hq;omega
  subst this;rw[<-hI,bUo];simp only[go_sem]
def pW (l:bL):Bool:=!(decide (25<l.picks.length)&&decide (l.picks.length<=200))&&decide (l.picks.length<=205)&&decide (l.marks.length<=30)&&l.marks.all bZ
theorem aBg (hlf:l.few):PC L 32 [.agg [.i l.every,.is l.picks,.fz (l.marks.map aA.enc)]] (.bool (pW l)):=by
 have hS:pW l=(!(decide (25<l.picks.length)&&decide (l.picks.length<=200))&&decide (l.picks.length<=205)&&decide (l.marks.length<=30)&&l.marks.all bZ):=rfl;have c1:decide ((25:Int)<(l.picks.length:Int))=decide (25<l.picks.length):=by rw[bUu,bWo,bWo];omega
 have c2:decide ((l.picks.length:Int)<=200)=decide (l.picks.length<=200):=by rw[bUu,bWo,bWo];omega
 have c3:decide ((205:Int)<(l.picks.length:Int))=!decide (l.picks.length<=205):=by rw[bUu,bUb,bWo,bWp];omega
 have c4:decide ((30:Int)<(l.marks.length:Int))=!decide (l.marks.length<=30):=by rw[bUu,bUb,bWo,bWp];omega
 rw[hS]
 refine pcA func32 ?_
 generalize decide (25<l.picks.length)=b1 at c1⊢;generalize decide (l.picks.length<=200)=b2 at c2⊢;generalize decide (l.picks.length<=205)=b3 at c3⊢;generalize decide (l.marks.length<=30)=b4 at c4⊢;cases b1<;>cases b2<;>cases b3<;>cases b4
 all_goals simp only[go_sem,kK,bSy,c1,c2,c3,c4,bTf,bS6,bTo,bTk,bT6,bUc,kF]
 all_goals
  refine bK l.marks.length (fun k st=> ∃fr en cnt,st=⟨fr,en,cnt⟩/\ fr 1= .ptr ⟨0,1,0⟩ 0/\ fr 3= .i (k:Int)/\ en ⟨0,1,0⟩=some (.box [.i l.every,.is l.picks,.fz (l.marks.map aA.enc)] false)/\ (l.marks.drop k).all bZ=l.marks.all bZ) 0 (bS4 _) (by refine⟨_,_,_,rfl,?_,?_,?_,rfl⟩<;>simp only[go_sem]) ?_
  rintro k st hk ⟨fr,en,cnt,rfl,f1,f3,e1,hI⟩
  simp only[go_sem,kK,f1,f3,e1,bSy]
  refine aG (fun hq=>?_) (fun hq=>?_)
  ·have h':k<l.marks.length:=D_o hq;have hW:=nS l.marks[k] (hlf.2.2 _ (bS7 h'));have hst:=gP h' bZ;rw[<-hI,hst];simp only[go_sem,kK,f1,f3,e1,rZ h',hW.ret,kF];cases hb:bZ l.marks[k]with
   |false=>simp only[go_sem,kK,bTf,bTk]
   |true=>
    simp only[go_sem,bS6,bTo,f3,h',aR h' hlf.2.1];exact⟨_,_,_,rfl,by simp only[go_sem,f1],by simp only[go_sem],e1⟩
  ·have:k=l.marks.length:=by simp at hq;omega
   subst this;rw[<-hI,bUo];simp only[go_sem]
theorem bL.eq_iff {a b:bL}:a=b↔a.every=b.every/\ a.picks=b.picks/\ a.marks=b.marks:=by
 cases a;cases b;simp
instance : DecidableEq bL:=fun _ _=>decidable_of_iff _ bL.eq_iff.symm
theorem aV6 {b:bL}(hlf:l.few):PC L 35 [.agg [.i l.every,.is l.picks,.fz (l.marks.map aA.enc)],.agg [.i b.every,.is b.picks,.fz (b.marks.map aA.enc)]] (.bool (decide (l=b))):=by
 have hI1:=tY l.picks b.picks hlf.1
 refine pcA func35 ?_
 by_cases h1:l.every=b.every
 case neg=>
  rw[D_f (fun h:l=b=>h1 (by rw[h]))]
  simp only[go_sem,kK,D_f h1,bTf,kF]
 by_cases h2:l.picks=b.picks
 case neg=>
  rw[D_f (fun h:l=b=>h2 (by rw[h]))]
  simp only[go_sem,kK,D_t h1,hI1.ret,D_f h2,bTf,bS6,kF]
 by_cases h3:l.marks.length=b.marks.length
 case neg=>
  rw[D_f (fun h:l=b=>h3 (by rw[h]))]
  simp only[go_sem,kK,D_t h1,hI1.ret,D_t h2,bSy,D_f h3,bTf,bS6,kF]
 simp only[go_sem,kK,D_t h1,hI1.ret,D_t h2,bSy,D_t h3,bS6,kF];have hd:decide (l=b)=decide (l.marks=b.marks):=by rw[bUu,bWo,bWo,bL.eq_iff];exact⟨fun h=>h.2.2,fun h=>⟨h1,h2,h⟩⟩
 rw[hd]
 refine bK l.marks.length (fun k st=> ∃fr en cnt,st=⟨fr,en,cnt⟩/\ fr 2= .ptr ⟨0,2,0⟩ 0/\ fr 3= .ptr ⟨0,3,0⟩ 0/\ fr 5= .i (k:Int)/\ en ⟨0,2,0⟩=some (.box [.i l.every,.is l.picks,.fz (l.marks.map aA.enc)] false)/\ en ⟨0,3,0⟩=some (.box [.i b.every,.is b.picks,.fz (b.marks.map aA.enc)] false)/\ decide (l.marks.drop k=b.marks.drop k)=decide (l.marks=b.marks)) 0 (bS4 _) (by refine⟨_,_,_,rfl,?_,?_,?_,?_,?_,rfl⟩<;>simp only[go_sem]) ?_
 rintro k st hk ⟨fr,en,cnt,rfl,f2,f3,f5,e2,e3,hI⟩
 simp only[go_sem,kK,f2,f5,e2,bSy]
 refine aG (fun hq=>?_) (fun hq=>?_)
 ·have h':k<l.marks.length:=D_o hq;have h'':k<b.marks.length:=by omega
  have hW:=tI l.marks[k] b.marks[k] (hlf.2.2 _ (bS7 h'));have hst:decide (l.marks.drop k=b.marks.drop k)=(decide (l.marks[k]=b.marks[k])&&decide (l.marks.drop (k+1)=b.marks.drop (k+1))):=by
   rw[bT2 h',bT2 h'',bUu];simp only[bWo,bSw,List.cons.injEq]
  rw[<-hI,hst];simp only[go_sem,kK,f2,f3,f5,e2,e3,rZ h',rZ h'',hW.ret,kF];cases hb:decide (l.marks[k]=b.marks[k])with
  |false=>simp only[go_sem,kK,bTf,bTk]
  |true=>
   simp only[go_sem,bS6,bTo,f5,h',aR h' hlf.2.1];exact⟨_,_,_,rfl,by simp only[go_sem,f2],by simp only[go_sem,f3],by simp only[go_sem],e2,e3⟩
 ·have:k=l.marks.length:=by simp at hq;omega
  subst this;rw[<-hI,bUo,show b.marks.drop l.marks.length=[]from List.drop_of_length_le (by omega)]
  simp only[go_sem]
theorem aFk (h:aU p=true):p.cons.length<=1000:=by
 simp only[aU,bSw,bWo]at h;omega
def bKh :fR:={np:=2,res:=[.tmp 4],keep:=false,body:=
 (.seq (.ops [mC 4 (.bool false)])
 (.seq (.seq (.ops [mT 6 0,
 lN 7 6,
 mT 8 1,
 lN 9 8,
 bN 10 .neq (.t 7) (.t 9)])
 (.cond (.t 10)
 (.seq (.ops [mC 4 (.bool false)])
 .ret)
 .skip))
 (.seq (.seq (.ops [mC 5 (.int .i64 0)])
 (.block 0 (.loop (.seq (.seq (.ops [mT 11 5,
 mT 12 0,
 lN 13 12,
 bN 14 .lss (.t 11) (.t 13)])
 (.cond (.t 14)
 .skip
 (.exit 0)))
 (.seq (.block 1 (.seq (.draw [mT 17 0,
 mT 18 5,
 iA 19 5 17 18,
 lT 20 5 19,
 mT 21 1,
 mT 22 5,
 iA 23 5 21 22,
 lT 24 5 23,
 o 25 (.bin .neq (.agg [.num,.num,.num,.num,.num]) (.t 20) (.t 24))]
 [])
 (.cond (.t 25)
 (.seq (.ops [mC 4 (.bool false)])
 .ret)
 .skip)))
 (.ops [mT 15 5,
 bN 16 .add (.t 15) (cI 1),
 mT 5 16]))))))
 (.seq (.ops [mC 4 (.bool true)])
 .ret))))}
theorem bRh :L 16=some bKh:=by kernel_rfl
theorem bIj {a b:fB}:a=b↔a.task=b.task/\ a.act=b.act/\ a.n=b.n/\ a.v.kind=b.v.kind/\ a.v.n=b.v.n:=by
 obtain⟨_,_,_,⟨_,_⟩⟩:=a;obtain⟨_,_,_,⟨_,_⟩⟩:=b;simp
instance : DecidableEq fB:=fun _ _=>decidable_of_iff _ bIj.symm
theorem aY6 {a b:fB}:cW .neq (.agg [.num,.num,.num,.num,.num]) (.agg [.i a.task,.i a.act,.i a.n,.i a.v.kind,.i a.v.n]) (.agg [.i b.task,.i b.act,.i b.n,.i b.v.kind,.i b.v.n])=
  some (.bool (!decide (a=b))):=by
 have e0:decide (a=b)=(decide (a.task=b.task)&&(decide (a.act=b.act)&&(decide (a.n=b.n)&&(decide (a.v.kind=b.v.kind)&&decide (a.v.n=b.v.n))))):=by
  rw[bUu];simp only[bWo,bSw];exact bIj
 rw[e0];simp only[cW,oU,bS8,bTd,and_self,if_true,jJ,vH];have e: ∀x y:Int,(x==y)=decide (x=y):=fun x y=>by by_cases h:x=y<;>simp[h]
 simp only[e]
 by_cases h1:a.task=b.task<;>by_cases h2:a.act=b.act<;>by_cases h3:a.n=b.n<;>by_cases h4:a.v.kind=b.v.kind<;>by_cases h5:a.v.n=b.v.n<;>simp[h1,h2,h3,h4,h5]
theorem bIk {l:List fB}{k:Nat}(h:k<l.length):mH 5 en (.fz (l.map evV)) (.i (k:Int))=some {v:= .fp [.i l[k].task,.i l[k].act,.i l[k].n,.i l[k].v.kind,.i l[k].v.n] 0}:=by
 simp[mH,h,evV];exact⟨rfl,rfl⟩
theorem aPc {a b:List fB}(ha:a.length<=1000):PC L 16 [.fz (a.map evV),.fz (b.map evV)] (.bool (decide (a=b))):=by
 refine cD bRh rfl rfl ?_
 by_cases hl:a.length=b.length
 case neg=>
  rw[D_f (fun h:a=b=>hl (by rw[h]))]
  simp only[go_sem,kK,bKh,bSy,D_f hl,bTf,kF]
 simp only[go_sem,kK,bKh,bSy,D_t hl,bS6,kF]
 refine bK a.length (fun k st=> ∃fr en cnt,st=⟨fr,en,cnt⟩/\ fr 0= .fz (a.map evV)/\ fr 1= .fz (b.map evV)/\ fr 5= .i (k:Int)/\ decide (a.drop k=b.drop k)=decide (a=b)) 0 (bS4 _) (by refine⟨_,_,_,rfl,?_,?_,?_,rfl⟩<;>simp only[go_sem]) ?_
 rintro k st hk ⟨fr,en,cnt,rfl,f0,f1,f5,hI⟩
 simp only[go_sem,kK,f0,f5,bSy]
 refine aG (fun hq=>?_) (fun hq=>?_)
 ·have h':k<a.length:=D_o hq;have h'':k<b.length:=by omega
  have hst:decide (a.drop k=b.drop k)=(decide (a[k]=b[k])&&decide (a.drop (k+1)=b.drop (k+1))):=by
   rw[bT2 h',bT2 h'',bUu];simp only[bWo,bSw,List.cons.injEq]
  rw[<-hI,hst];simp only[go_sem,kK,f0,f1,f5,bIk h',bIk h'',aY6];cases hb:decide (a[k]=b[k])with
  |false=>simp only[go_sem,kK,bTf,bTk]
  |true=>
   simp only[go_sem,bS6,bTo,f5,h',aR h' (by unfold Few;omega)]
   exact⟨_,_,_,rfl,by simp only[go_sem,f0],by simp only[go_sem,f1],by simp only[go_sem]⟩
 ·have:k=a.length:=by simp at hq;omega
  subst this;rw[<-hI,bUo,show b.drop a.length=[]from List.drop_of_length_le (by omega)]
  simp only[go_sem]
def wAt (p:aD)(w:aA)(ks:List Int):Nat->aA
 |0=>w
 |i+1=>(cV p (wAt p w ks i) (ks.getD i 0)).1
def tAt (p:aD)(w:aA)(ks:List Int)(i:Nat):aA×fB×Int:=cV p (wAt p w ks i) (ks.getD i 0)
def oT (p:aD)(w:aA)(ks:List Int)(m:Nat):List fB:=(List.range m).map fun i=>(tAt p w ks i).2.1
def cZ (p:aD)(w:aA)(ks:List Int)(every:Int)(m:Nat):bL:=⟨every,ks.take m,(List.range (m/every.toNat+1)).map fun j=>wAt p w ks (j*every.toNat)⟩
structure gJ (p:aD) (w:aA) (ks:List Int) (every:Int) (m:Nat):Prop where
 g:bJ p w=true
 e1:1<=every
 e2:every<=20
 le:m<=ks.length
 m200:m<=200
 ok: ∀i,i<m->(tAt p w ks i).2.2=0
theorem aOk {k:Int}:(cV p w k).2.2=0 \/(cV p w k).2.2=6 \/(cV p w k).2.2=8:=by
 have h:(fE p w k).2.2.2=0 \/(fE p w k).2.2.2=5 \/(fE p w k).2.2.2=8:=by
  unfold fE
  simp only
  split
  ·exact .inr (.inr rfl)
  split
  ·exact .inr (.inl rfl)
  split
  ·exact .inr (.inr rfl)
  ·exact .inl rfl
 unfold cV
 simp only
 rcases h with h|h|h<;>simp[h]
theorem kP {p:aD}{w:aA}{ks:List Int}(hg:bJ p w=true): ∀i,bJ p (wAt p w ks i)=true
 |0=>hg
 |i+1=>by
  have ih:=kP (ks:=ks) hg i;simp only[bJ,bSw]at ih⊢;exact⟨ih.1,aN3 (kN ih.1) ih.2 _⟩
theorem aOl {p:aD}{w:aA}{ks:List Int}(a:Nat): ∀i,i<=a->wAt p w (ks.take a) i=wAt p w ks i
 |0,_=>rfl
 |i+1,h=>by
  have e:(ks.take a).getD i 0=ks.getD i 0:=by
   rw[bSz,bSz,bWn (by omega)]
  show(cV p (wAt p w (ks.take a) i) ((ks.take a).getD i 0)).1=(cV p (wAt p w ks i) (ks.getD i 0)).1;rw[e,aOl a i (by omega)]
theorem aSx {p:aD}{w:aA}{ks ls:List Int}: ∀i,i<=ks.length->wAt p w (ks++ls) i=wAt p w ks i
 |0,_=>rfl
 |i+1,h=>by
  have e:(ks++ls).getD i 0=ks.getD i 0:=by
   rw[bSz,bSz,bUy (by omega)]
  show(cV p (wAt p w (ks++ls) i) ((ks++ls).getD i 0)).1=(cV p (wAt p w ks i) (ks.getD i 0)).1;rw[e,aSx i (by omega)]
variable {ks:List Int}
theorem aV7 :oT p w ks (m+1)=oT p w ks m++[(tAt p w ks m).2.1]:=by
 unfold oT;rw[bV4,bT0];rfl
theorem yD :(oT p w ks m).length=m:=by simp[oT]
variable {i:Nat}
theorem bE0 (h:n<=m):(oT p w ks m).take n=oT p w ks n:=by
 unfold oT;rw[<-bUd,List.take_range,Nat.min_eq_left h]
variable {every:Int}
section
variable (h:gJ p w ks every m)
include h
theorem gJ.le' (hn:n<=m):gJ p w ks every n:=⟨h.g,h.e1,h.e2,bS9 hn h.le,bS9 hn h.m200,fun i hi=>h.ok i (by omega)⟩
theorem gJ.E :1<=every.toNat/\ every.toNat<=20/\ every=(every.toNat:Int):=by have:=h.e1;have:=h.e2;omega
theorem gJ.len :(cZ p w ks every m).picks.length=m:=by
 show(ks.take m).length=m;rw[bT3,Nat.min_eq_left h.le]
theorem gJ.log :iR p (cZ p w ks every m)=true:=by
 have hg:=h.g;simp only[bJ,bSw]at hg;have h1:=h.e1;have h2:=h.e2;have h3:=h.m200;simp only[iR,bSw,bWo,h.len,inR,bS5]
 refine⟨⟨⟨⟨hg.1,h1,h2⟩,h3⟩,?_⟩,fun x hx=>?_⟩
 ·simp[cZ,aQ]
 ·obtain⟨j,_,rfl⟩:=bTu.1 hx;have:=kP (ks:=ks) h.g (j*every.toNat);simp only[bJ,bSw]at this;exact this.2
theorem gJ.mark {j:Nat}(hj:j<=m/every.toNat):pE (cZ p w ks every m) j=wAt p w ks (j*every.toNat):=by
 have:j<m/every.toNat+1:=by omega
 simp[pE,cZ,this]
theorem gJ.pick (hi:i<m):iP (cZ p w ks every m) i=ks.getD i 0:=by
 unfold iP cZ;rw[bSz,bSz,bWn hi]
theorem gJ.run : ∀(k i:Nat),i+k<=m->aBv p (cZ p w ks every m) i k (wAt p w ks i)=(wAt p w ks (i+k),0)
 |0,i,_=>rfl
 |k+1,i,hk=>by
  rw[aBv,h.pick (by omega)]
  have e:=h.ok i (by omega)
  unfold tAt at e;rw[if_pos e];have:=gJ.run k (i+1) (by omega)
  rw[show i+1+k=i+(k+1)by omega]at this
  exact this
theorem gJ.at_ (hn:n<=m):atX p (cZ p w ks every m) n=(wAt p w ks n,0):=by
 have he:aQ (cZ p w ks every m)=every.toNat:=rfl;unfold atX;have hd:n/every.toNat*every.toNat<=n:=bWd ..;rw[he,h.mark (bWe hn),h.run _ _ (by omega),show n/every.toNat*every.toNat+(n-n/every.toNat*every.toNat)=n by omega]
theorem gJ.after (ht:t<m):aW p (cZ p w ks every m) t=(wAt p w ks (t+1),(tAt p w ks t).2.1,0):=by
 have e:=h.ok t ht;unfold tAt at e;unfold aW;rw[h.at_ (by omega),if_pos rfl,h.pick ht,if_pos e]
 exact Prod.ext rfl (Prod.ext rfl e)
theorem gJ.events : ∀(k t:Nat),t+k<=m->rY p (cZ p w ks every m) t k=(((List.range' t k).map fun i=>(tAt p w ks i).2.1),0)
 |0,t,_=>rfl
 |k+1,t,hk=>by
  rw[rY,h.after (by omega),if_pos rfl,gJ.events k (t+1) (by omega),if_pos rfl,bVp]
  rfl
theorem gJ.events0 (hn:n<=m):rY p (cZ p w ks every m) 0 n=(oT p w ks n,0):=by
 rw[h.events n 0 (by omega),<-bVz];rfl
theorem gJ.right : ∀(k t:Nat),t+k<=m->aFi p (cZ p w ks every m) t k= -1
 |0,t,_=>rfl
 |k+1,t,hk=>by
  rw[aFi,h.after (by omega),if_pos rfl,if_neg]
  ·exact gJ.right k (t+1) (by omega)
  ·rintro⟨h1,h2⟩
   refine h2 ?_
   have he:aQ (cZ p w ks every m)=every.toNat:=rfl;rw[he]at h1⊢;rw[h.mark (bWe (by omega)),Nat.div_mul_cancel (bV5 h1)]
theorem gJ.verify (hc:pF p w w.tasks.length):aBa p (cZ p w ks every m)= -1:=by
 have h0:=h.mark (j:=0) (bS4 _);rw[Nat.zero_mul]at h0;unfold aBa;rw[h0,show wAt p w ks 0=w from rfl,show aJ p w 0=(w,0,true)from uR hc 121 0 0,if_pos ⟨rfl,rfl⟩,h.len]
 exact h.right m 0 (by omega)
theorem gJ.add (hm:m<ks.length)(h2:m<200):bBd p (cZ p w ks every m) (ks.getD m 0)=if(tAt p w ks m).2.2=0 then(cZ p w ks every (m+1),(tAt p w ks m).2.1,0)else(tS,eM,(tAt p w ks m).2.2):=by
 have ht:ks.take (m+1)=ks.take m++[ks.getD m 0]:=by
  rw[List.take_succ_eq_append_getElem hm,bSz,bTy hm];rfl
 unfold bBd;rw[h.len,if_neg (by omega),h.at_ (bSx m),if_pos rfl]
 simp only
 have e:cV p (wAt p w ks m) (ks.getD m 0)=tAt p w ks m:=rfl;rw[e]
 by_cases h0:(tAt p w ks m).2.2=0
 ·rw[if_pos h0,if_pos h0];have he:aQ (cZ p w ks every m)=every.toNat:=rfl;rw[he];have hE:=h.E.1;have:(cZ p w ks every (m+1)).marks=if(m+1)%every.toNat=0 then(cZ p w ks every m).marks++[(tAt p w ks m).1]else(cZ p w ks every m).marks:=by
   unfold cZ
   simp only
   rw[Nat.succ_div]
   by_cases hd:(m+1)%every.toNat=0
   ·rw[if_pos hd,if_pos (bV5 hd),bV4,bT0,List.map_singleton];have hx:(m/every.toNat+1)*every.toNat=m+1:=by
     have h3:(m+1)/every.toNat=m/every.toNat+1:=by rw[Nat.succ_div,if_pos (bV5 hd)]
     rw[<-h3];exact Nat.div_mul_cancel (bV5 hd)
    rw[hx];rfl
   ·rw[if_neg hd,if_neg (fun x=>hd (Nat.mod_eq_zero_of_dvd x)),bUk]
  rw[<-this]
  refine Prod.ext ?_ rfl
  simp only[cZ,bL.mk.injEq,true_and,and_true];exact ht.symm
 ·rw[if_neg h0,if_neg h0]
theorem gJ.next (hm:m<ks.length)(h2:m<200)(h0:(tAt p w ks m).2.2=0):gJ p w ks every (m+1):=
 ⟨h.g,h.e1,h.e2,hm,h2,fun i hi=>by
  rcases bT5 i m with hx|hx
  ·exact h.ok i hx
  ·obtain rfl:i=m:=by omega
   exact h0⟩
theorem gJ.cut (hn:n<=m):aVv (cZ p w ks every m) n=cZ p w ks every n:=by
 have he:aQ (cZ p w ks every m)=every.toNat:=rfl;have hd:=bWe (c:=every.toNat) hn;simp only[aVv,cZ,bL.mk.injEq,true_and]
 refine⟨?_,?_⟩
 ·rw[List.take_take,Nat.min_eq_left hn]
 ·show List.take (n/every.toNat+1) _=_;rw[<-bUd,List.take_range,Nat.min_eq_left (by omega)]
end
theorem gJ.zero (hg:bJ p w=true)(e1:1<=every)(e2:every<=20):gJ p w ks every 0:=⟨hg,e1,e2,bS4 _,bS4 _,fun i hi=>absurd hi (Nat.not_lt_zero i)⟩
theorem bBk (hs:(aJ p w 0).2.2=true):aIt p w every=(cZ p (aJ p w 0).1 ks every 0,0):=by
 unfold aIt;rw[if_pos hs];simp[cZ,wAt]
set_option maxRecDepth 100000
set_option maxHeartbeats 4000000
def aDb (p:aD)(w:aA)(ks:List Int)(every:Int):Bool:=aU p&&bZ w&&bJ p w&&decide (ks.length<=15)&&decide (1<=every)&&decide (every<=20)
theorem uS (hpf:p.few)(hwf:w.few)(ks:List Int)(every:Int):PC L 8 [.agg p.cs,.agg w.cs,.is ks,.i every] (.bool (aDb p w ks every)):=by
 have h1:=aIj p hpf;have h2:=nS w hwf;have c1:decide ((ks.length:Int)<=15)=decide (ks.length<=15):=by rw[bUu,bWo,bWo];omega
 unfold aDb bJ
 refine pcA func8 ?_
 cases hsp:aU p with
 |false=>rw[hsp]at h1;simp only[go_sem,kK,h1.ret,bTk,kF]
 |true=>
 rw[hsp]at h1;cases hsw:bZ w with
 |false=>rw[hsw]at h2;simp only[go_sem,kK,h1.ret,h2.ret,bTk,bT6,kF]
 |true=>
 rw[hsw]at h2;have h3:=aEe p hpf (aFk hsp);have h4:=rI p w hpf hwf;cases hf:fJ p with
 |false=>rw[hf]at h3;simp only[go_sem,kK,h1.ret,h2.ret,h3.ret,bTk,bUc,bT6,kF]
 |true=>
 rw[hf]at h3;cases hw:cJ p w with
 |false=>rw[hw]at h4;simp only[go_sem,kK,h1.ret,h2.ret,h3.ret,h4.ret,bTk,bUc,bT6,kF]
 |true=>
 rw[hw]at h4;rcases Decidable.em (ks.length<=15)with h5|h5<;>rcases Decidable.em (1<=every)with h6|h6<;>rcases Decidable.em (every<=20)with h7|h7
 all_goals simp only[go_sem,kK,h1.ret,h2.ret,h3.ret,h4.ret,bSy,c1,h5,h6,h7,decide_false,bUc,bT6,decide_true,kF]
theorem bHf (hg:bJ p w=true)(e1:1<=every)(e2:every<=20)(hk:ks.length<=200): ∃m,gJ p w ks every m/\ (m=ks.length \/ ¬(tAt p w ks m).2.2=0):=by
 have: ∀n,n<=ks.length->(∃m,gJ p w ks every m/\ ¬(tAt p w ks m).2.2=0) \/gJ p w ks every n:=by
  intro n
  induction n with
  |zero=>intro _;exact .inr (.zero hg e1 e2)
  |succ n ih=>
   intro hn;rcases ih (by omega)with h|h
   ·exact .inl h
   ·by_cases h0:(tAt p w ks n).2.2=0
    ·exact .inr (h.next (by omega) (by omega) h0)
    ·exact .inl ⟨n,h,h0⟩
 rcases this _ (bSx _)with⟨m,h1,h2⟩|h
 ·exact⟨m,h1,.inr h2⟩
 ·exact⟨_,h,.inl rfl⟩
section
variable (h:gJ p w ks every m)(hsp:aU p=true)
include h hsp
theorem gJ.few :(cZ p w ks every m).few:=by
 have hE:=h.E;have h2:=h.m200
 refine⟨?_,?_,fun x hx=>?_⟩
 ·rw[h.len];unfold Few;omega
 ·have:=Nat.div_le_self m every.toNat;simp only[cZ,bSy,List.length_range];unfold Few;omega
 ·obtain⟨j,_,rfl⟩:=bTu.1 hx;exact fC hsp (kP h.g _)
theorem gJ.small (hm:m<=25):pW (cZ p w ks every m)=true:=by
 have:=Nat.div_le_self m every.toNat;simp only[pW,h.len,bSw,bS5,bWo,bUb]
 refine⟨⟨⟨?_,by omega⟩,?_⟩,fun x hx=>?_⟩
 ·rw[D_f (by omega)];rfl
 ·simp only[cZ,bSy,List.length_range];omega
 ·obtain⟨j,_,rfl⟩:=bTu.1 hx;have:=kP (ks:=ks) h.g (j*every.toNat);simp only[bJ,bSw]at this;exact lB hsp this.2
end
theorem aHt {l:List Int}{k:Nat}(h:k<l.length):mH 1 en (.is l) (.i (k:Int))=some {v:= .fp [.i (l.getD k 0)] 0}:=by
 simp[mH,h];exact⟨rfl,rfl⟩
theorem tW (hpf:p.few)(hwf:w.few)(hsp:aU p=true)(hks:ks.length<=25)(hg:bJ p w=true)(e1:1<=every)(e2:every<=20):
  ((aJ p w 0).2.2=false/\ PC L 10 [.agg p.cs,.agg w.cs,.is ks,.i every] (.tup [.agg tS.cs,.fz [],.bool false,.bool true])) \/
  ((aJ p w 0).2.2=true/\ ∃m,gJ p (aJ p w 0).1 ks every m/\ (m=ks.length \/ ¬(tAt p (aJ p w 0).1 ks m).2.2=0)/\
   PC L 10 [.agg p.cs,.agg w.cs,.is ks,.i every] (.tup [.agg (cZ p (aJ p w 0).1 ks every m).cs,.fz ((oT p (aJ p w 0).1 ks m).map evV),.bool true,.bool true])):=by
 have hB:=aPb hpf hwf hsp every;rw[show aSw p w every=aIt p w every from if_pos ⟨hg,e1,e2⟩]at hB
 by_cases hs:(aJ p w 0).2.2=true
 case neg=>
  refine .inl ⟨by simpa using hs,?_⟩
  rw[show aIt p w every=(tS,8)from if_neg hs]at hB
  simp only[bL.enc,tS,bL.cs,bTe]at hB⊢
  refine pcA func10 ?_
  simp only[go_sem,kK,hB.ret,bTf,decide_true,kF]<;>rfl
 have hg0:=(qT hg hs).1;obtain⟨m,hm,hend⟩:=bHf (ks:=ks) hg0 e1 e2 (by omega)
 refine .inr ⟨hs,m,hm,hend,?_⟩
 rw[bBk (ks:=ks) hs]at hB;simp only[bL.enc]at hB;clear hs;generalize (aJ p w 0).1=w0 at*;have hml:=hm.le
 refine pcA func10 ?_
 simp only[go_sem,kK,hB.ret,bSy,bS6,decide_true,kF]
 refine bK m (fun k st=> ∃fr en cnt,st=⟨fr,en,cnt⟩/\ fr 4= .ptr ⟨0,4,0⟩ 0/\ fr 8= .ptr ⟨0,8,0⟩ 0/\ fr 12= .ptr ⟨0,12,0⟩ 0/\ fr 32= .is ks/\ fr 33= .i (ks.length:Int)/\ fr 34= .i (k:Int)/\ en ⟨0,4,0⟩=some (.box p.cs false)/\ en ⟨0,8,0⟩=some (.box [.i 0,.cl [],.cl []] false)/\ en ⟨0,12,0⟩=some (.box (cZ p w0 ks every k).cs false)/\ cX en (fr 14) 5 ((oT p w0 ks k).map evV) [64]) 0 (bS4 _) (by refine⟨_,_,_,rfl,?_,?_,?_,?_,?_,?_,?_,?_,?_,by simp only[go_sem];exact cX.nil _ _⟩<;>simp only[go_sem]) ?_
 rintro k st hk ⟨fr,en,cnt,rfl,f4,f8,f12,f32,f33,f34,e4,e8,e12,hM⟩
 have hk':=hm.le' hk;have hlf:=hk'.few hsp;have hlg:=aOj hpf hlf (aFk hsp);rw[hk'.log]at hlg;have hcase:(k=m/\ ¬k<ks.length) \/(k=m/\ k<ks.length/\ ¬(tAt p w0 ks k).2.2=0) \/(k<m/\ k<ks.length/\ (tAt p w0 ks k).2.2=0):=by
  rcases bT5 k m with h|h
  ·exact .inr (.inr ⟨h,by omega,hm.ok k h⟩)
  ·obtain rfl:k=m:=by omega
   rcases hend with h|h
   ·exact .inl ⟨rfl,by omega⟩
   ·by_cases h':k<ks.length
    ·exact .inr (.inl ⟨rfl,h',h⟩)
    ·exact .inl ⟨rfl,h'⟩
 simp only[go_sem,kK,f33,f34];have hA:=aKc hpf hlf hsp (ks.getD k 0);rw[show bBj p (cZ p w0 ks every k) (ks.getD k 0)=bBd p (cZ p w0 ks every k) (ks.getD k 0)from if_pos hk'.log]at hA
 have hk2:=hm.m200;rcases hcase with⟨rfl,a⟩|⟨rfl,a,b⟩|⟨a,a',b⟩
 case' inl=>simp only[go_sem,D_f a,f8,e8]
 case' inr.inl=>
  rw[hk'.add a (by omega),if_neg b]at hA
  simp only[bL.enc,evV,tS,eM,iV,Val.is,bTe]at hA;have hcd:decide ((tAt p w0 ks k).2.2=6)=true \/(decide ((tAt p w0 ks k).2.2=6)=false/\ decide ((tAt p w0 ks k).2.2=8)=true):=by
   rcases aOk (p:=p) (w:=wAt p w0 ks k) (k:=ks.getD k 0)with h|h|h
   ·exact absurd h b
   ·exact .inl (D_t h)
   ·refine .inr ⟨D_f ?_,D_t h⟩
    intro h';have:(6:Int)=8:=h'.symm.trans h;exact absurd this (by decide)
  simp only[go_sem,kK,D_t a,f4,f12,f32,f34,e4,e12,aHt a,hA.ret,kF];rcases hcd with hcd|⟨hcd,hcd'⟩
  case' inl=>simp only[go_sem,kK,hcd,f8,f34,e8,kF]
  case' inr=>simp only[go_sem,kK,hcd,hcd',f8,f34,e8,kF]
 case inr.inr=>
  rw[hk'.add a' (by omega),if_pos b]at hA
  simp only[bL.enc,evV]at hA;have hS:=aBg ((hk'.next a' (by omega) b).few hsp)
  rw[(hk'.next a' (by omega) b).small hsp (by omega)]at hS
  simp only[go_sem,kK,D_t a',f4,f12,f32,f34,e4,e12,aHt a',hA.ret,hS.ret,bS6,decide_true,kF];have hlen:((oT p w0 ks k).map evV).length=k:=by rw[bSy,yD]
  refine jO (D:=[64]) (xs:=(oT p w0 ks k).map evV) (ys:=[evV (tAt p w0 ks k).2.1]) (rs:=[]) ?_ ?_ rfl ?_ ?_
  ·simp only[go_sem];exact hM.keep fun t g ht=>by simp at ht;subst ht;simp only[go_sem]
  ·simp only[go_sem,evV]
  ·rw[hlen];simp;omega
  intro v' en' cnt' hown hen hcnt;have k4:=(hen 0 4 0 (.inr ⟨by decide,by simp⟩)).trans (by simp only[go_sem,e4]:_=some (.box p.cs false))
  have k8:=(hen 0 8 0 (.inr ⟨by decide,by simp⟩)).trans (by simp only[go_sem,e8]:_=some (.box [.i 0,.cl [],.cl []] false))
  have k12:=(hen 0 12 0 (.inr ⟨by decide,by simp⟩)).trans (by simp only[go_sem]:_=some (.box (cZ p w0 ks every (k+1)).cs false))
  simp only[go_sem,f34,aR a' (by unfold Few;omega)]
  refine⟨a,_,_,_,rfl,by simp only[go_sem,f4],by simp only[go_sem,f8],by simp only[go_sem,f12],by simp only[go_sem,f32],by simp only[go_sem,f33],by simp only[go_sem],by simp only[go_sem,k4],by simp only[go_sem,k8],by simp only[go_sem,k12],?_⟩
  simp only[go_sem];rw[aV7,bT0];exact hown.sub (by simp)
 all_goals
  refine aH ?_
  simp only[go_sem,f4,f12,e4,e12,kA,kF];simp only[go_sem,hlg.ret,f12,e12,hk'.len,bTo,bUc,bT6,kA,kF];simp only[go_sem,hM.len,bSy,yD,f8,e8,bUc,bT6,Bool.true_or,decide_true,kA,kF];obtain⟨r,kk,t3,t1⟩:=aNf hM 6;rw[t1 _ (fun g=>by simp only[go_sem])]
  simp only[go_sem,t3]
theorem aKd (hsp:aU p=true)(hg:bJ p w=true)(hs:(aJ p w 0).2.2=true)(h:gJ p (aJ p w 0).1 ks every n):
  PC L 13 [.agg p.cs,.agg w.cs,.is (ks.take n)] (.tup [.agg (wAt p (aJ p w 0).1 ks n).cs,.fz ((oT p (aJ p w 0).1 ks n).map evV),.i 0]):=by
 have hg':=hg;simp only[bJ,bSw]at hg';have hp:=kN hg'.1;have hS:=aIs hp hsp (sX hg'.2) 0 (by omega)
 rw[show((0:Nat):Int)=0 from rfl]at hS
 have hn:=h.m200;have hlen:(ks.take n).length=n:=by rw[bT3,Nat.min_eq_left h.le]
 refine pcA func13 ?_
 simp only[go_sem,kK,hS.ret,hs,bS6,kF];generalize (aJ p w 0).1=w0 at*
 refine bK n (fun k st=> ∃fr en cnt,st=⟨fr,en,cnt⟩/\ fr 2= .is (ks.take n)/\ fr 3= .ptr ⟨0,3,0⟩ 0/\ fr 4= .ptr ⟨0,4,0⟩ 0/\ fr 6= .ptr ⟨0,6,0⟩ 0/\ fr 12= .i (k:Int)/\ en ⟨0,3,0⟩=some (.box p.cs false)/\ en ⟨0,4,0⟩=some (.box (wAt p w0 ks k).cs false)/\ en ⟨0,6,0⟩=some (.box [.cl [],.cl [],.cl [],.cl [],.i 0] false)/\ cX en (fr 11) 5 ((oT p w0 ks k).map evV) [57]) 0 (bS4 _) (by refine⟨_,_,_,rfl,?_,?_,?_,?_,?_,?_,by simp only[go_sem];rfl,?_,by simp only[go_sem];exact cX.nil _ _⟩<;>simp only[go_sem]) ?_
 rintro k st hk ⟨fr,en,cnt,rfl,f2,f3,f4,f6,f12,e3,e4,e6,hM⟩
 simp only[go_sem,kK,f2,f12,bSy,hlen]
 by_cases hkl:k<n
 case neg=>
  obtain rfl:k=n:=by omega
  simp only[go_sem,D_f (bVg k),f4,f6,e4,e6];obtain⟨r,kk,t3,t1⟩:=aNf hM 6;rw[t1 _ (fun g=>by simp only[go_sem])]
  simp only[go_sem,t3]
 have hgk:=kP (ks:=ks) h.g k;have hgk':=hgk;simp only[bJ,bSw]at hgk';have hT:=bGt hp hsp (sX hgk'.2) (ks.getD k 0);have hok:=h.ok k hkl;unfold tAt at hok;rcases aC8 hgk (ks.getD k 0)with⟨_,a1,a2,a3,a4⟩|hx
 case inr=>
  rcases hx with⟨_,h⟩|⟨_,h⟩<;>(rw[h]at hok;exact absurd hok (by decide))
 rw[a2]at a1;simp only[<-a3,<-a4]at hT;simp only[go_sem,D_t hkl]
 refine aH ?_
 have hkk:k<(ks.take n).length:=by omega
 have hgd:(ks.take n).getD k 0=ks.getD k 0:=by rw[bSz,bSz,bWn hkl]
 simp only[go_sem,kK,f2,f3,f4,f12,e3,e4,aHt hkk,hgd,hT.ret,a1,bS6,bTo,bUc,bT6,decide_true,kA,kF];have hlen2:((oT p w0 ks k).map evV).length=k:=by rw[bSy,yD]
 refine jO (D:=[57]) (xs:=(oT p w0 ks k).map evV) (ys:=[evV (tAt p w0 ks k).2.1]) (rs:=[]) ?_ ?_ rfl ?_ ?_
 ·simp only[go_sem];exact hM.keep fun t g ht=>by simp at ht;subst ht;simp only[go_sem]
 ·simp only[go_sem,evV,tAt]
 ·rw[hlen2];simp;omega
 intro v' en' cnt' hown hen hcnt;have k3:=(hen 0 3 0 (.inr ⟨by decide,by simp⟩)).trans (by simp only[go_sem,e3]:_=some (.box p.cs false))
 have k6:=(hen 0 6 0 (.inr ⟨by decide,by simp⟩)).trans (by simp only[go_sem,e6]:_=some (.box [.cl [],.cl [],.cl [],.cl [],.i 0] false))
 have k4:=(hen 0 4 0 (.inr ⟨by decide,by simp⟩)).trans (by simp only[go_sem];rfl:_=some (.box (wAt p w0 ks (k+1)).cs false))
 simp only[go_sem,f12,aR hkl (by unfold Few;omega)]
 refine⟨hkl,_,_,_,rfl,by simp only[go_sem,f2],by simp only[go_sem,f3],by simp only[go_sem,f4],by simp only[go_sem,f6],by simp only[go_sem],by simp only[go_sem,k3],by simp only[go_sem,k4],by simp only[go_sem,k6],?_⟩
 simp only[go_sem];rw[aV7,bT0];exact hown.sub (by simp)
theorem yE (h:aDb p w ks every=true):aU p=true/\ bJ p w=true/\ ks.length<=15/\ 1<=every/\ every<=20:=by
 simp only[aDb,bSw,bWo]at h;exact⟨h.1.1.1.1.1,h.1.1.1.2,h.1.1.2,h.1.2,h.2⟩
section
variable (h:gJ p w ks every m)
include h
theorem gJ.verifyX (hc:pF p w w.tasks.length):verifyX p (cZ p w ks every m)=(0,0):=by
 unfold Go.Proofs.YtmafmhjndjmalaaGreat.verifyX;rw[if_pos h.log,h.verify hc,if_neg (by decide)]
theorem gJ.atR (hn:n<=m):atR p (cZ p w ks every m) n=(wAt p w ks n,(n:Int)%every,0):=by
 have hx:aQ (cZ p w ks every m)=every.toNat:=rfl;have he:=h.E.2.2;unfold Go.Proofs.YtmafmhjndjmalaaGreat.atR;rw[if_pos ⟨h.log,by omega,by rw[h.len];omega⟩,bTt,h.at_ hn,if_pos rfl,hx,<-he]
theorem gJ.eventsR (hn:n<=m):eventsR p (cZ p w ks every m) 0 n=(oT p w ks n,0):=by
 unfold Go.Proofs.YtmafmhjndjmalaaGreat.eventsR;rw[if_pos ⟨h.log,by omega,by omega,by rw[h.len];omega⟩]
 exact h.events0 hn
end
set_option maxHeartbeats 4000000 in
theorem aIz (hk:PC L 9 [] (.bool true))(hpf:p.few)(hwf:w.few)(ks:List Int)(every n:Int):PC L 3 [.agg p.cs,.agg w.cs,.is ks,.i every,.i n] (.bool true):=by
 have hG:=uS hpf hwf ks every
 refine pcA func3 ?_
 cases hgv:aDb p w ks every with
 |false=>
  rw[hgv]at hG;simp only[go_sem,kK,hG.ret,hk.ret,bTf,kF]
 |true=>
 rw[hgv]at hG;obtain⟨hsp,hg,hks,e1,e2⟩:=yE hgv;rcases tW hpf hwf hsp (ks:=ks) (by omega) hg e1 e2 with⟨hs,hM⟩|⟨hs,m,hm,hend,hM⟩
 ·simp only[tS,bL.cs]at hM;simp only[go_sem,kK,hG.ret,hM.ret,hk.ret,bS6,bTf,kF]
 have hc:=(qT hg hs).2;have hPl:=fun{n:Nat} (h:gJ p (aJ p w 0).1 ks every n)=>aKd hsp hg hs h
 have hlf:=hm.few hsp;have hV:=aN9 hpf hlf hsp;rw[hm.verifyX hc]at hV;have hA:=aBd hpf hlf hsp n;have hE:=aOa hpf hlf hsp 0 n;have hsame:=fun x (hx:x.few)=>tI x x hx
 simp only[decide_true]at hsame;generalize hl:cZ p (aJ p w 0).1 ks every m=l at*;have hml:=hm.le;have hlen:(oT p (aJ p w 0).1 ks m).length=m:=yD
 by_cases hn:0<=n/\ n<=(m:Int)
 case neg=>
  have hc:n<0 \/(0<=n/\ (m:Int)<n):=by omega
  rcases hc with h1|⟨h1,h2⟩
  case' inl=>simp only[go_sem,kK,hG.ret,hM.ret,hV.ret,hk.ret,D_t h1,bS6,decide_true,kF]
  case' inr=>simp only[go_sem,kK,hG.ret,hM.ret,hV.ret,hk.ret,D_f (bUe.2 h1),bSy,hlen,D_t h2,bS6,decide_true,kF]
 obtain⟨k,rfl⟩:=bTs hn.1;have hkm:k<=m:=by omega
 have hP:=hPl (hm.le' hkm);have hS:=hsame _ (fC hsp (kP (ks:=ks) hm.g k));have hSE:=aPc (a:=oT p (aJ p w 0).1 ks k) (b:=oT p (aJ p w 0).1 ks k) (by rw[yD];have:=hm.m200;omega)
 simp only[decide_true]at hSE;have htk:(oT p (aJ p w 0).1 ks m).take k=oT p (aJ p w 0).1 ks k:=bE0 hkm;rw[<-hl,hm.atR hkm]at hA;rw[<-hl,hm.eventsR hkm]at hE;rw[hl]at hA hE;clear hPl hsame;generalize (aJ p w 0).1=w0 at*;have hq1:=Int.emod_nonneg (k:Int) (show every≠0 by omega)
 have hq2:=Int.emod_lt_of_pos (k:Int) (show 0<every by omega)
 simp only[go_sem,kK,hG.ret,hM.ret,hV.ret,D_f (bUe.2 hn.1),D_f (show¬m<k by omega),bSy,hlen,hA.ret,bS6,decide_true,kF]
 simp only[Val.is,bUd]at hP
 refine aH ?_
 simp only[go_sem,bSy,show k<=ks.length by omega,hP.ret,bTo,bUc,bT6,decide_true,kA,kF]
 simp only[go_sem,kK,hE.ret,D_f (bUe.2 hq1),D_f (Int.not_le.2 hq2),bS6,decide_true,kF];have hSE1:PC L 16 [.fz (List.take k ((oT p w0 ks m).map evV)),.fz ((oT p w0 ks k).map evV)] (.bool true):=by rw[<-bUd,htk];exact hSE
 simp only[go_sem,kK,hS.ret,bSy,hlen,hkm,hSE1.ret,hSE.ret,hk.ret,kF]
 done
end Go.Proofs.YtmafmhjndjmalaaGreat

