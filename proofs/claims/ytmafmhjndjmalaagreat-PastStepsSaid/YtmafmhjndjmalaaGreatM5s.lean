/- Contracts of functions of the program and of the document: part 5. -/
import Derived.Test.YtmafmhjndjmalaaGreatM3s
import Derived.Test.YtmafmhjndjmalaaGreatM1
set_option linter.all false
open Bool renaming and_eq_true -> bSw, and_false -> bT6, and_true -> bUc, eq_iff_iff -> bUu, false_and -> bTk, not_eq_true' -> bUb, not_false -> bTf, not_true -> bS6, true_and -> bTo
open Int renaming eq_ofNat_of_zero_le -> bTs, not_lt -> bUe, tdiv_eq_ediv_of_nonneg -> bWm, toNat_natCast -> bTt
open List renaming all_eq_true -> bS5, append_nil -> bT1, drop_eq_getElem_cons -> bT2, drop_length -> bUo, getD_eq_getElem?_getD -> bSz, getElem?_append_left -> bUy, getElem?_eq_getElem -> bTy, getElem?_map -> bVy, getElem?_take_of_lt -> bWn, getElem_mem -> bS7, length_append -> bTg, length_cons -> bS8, length_map -> bSy, length_nil -> bTd, length_pos_iff -> bV1, length_set -> bUs, length_take -> bT3, map_append -> bT0, map_congr_left -> bU6, map_cons -> bTv, map_nil -> bTe, map_take -> bUd, mem_append -> bTn, mem_append_left -> bVb, mem_append_right -> bUn, mem_cons -> bTp, mem_filter -> bUl, mem_flatMap -> bUa, mem_map -> bTu, mem_of_mem_take -> bVf, mem_range -> bTx, mem_singleton -> bUg, nil_append -> bT4, not_mem_nil -> bU9, prefix_refl -> bUp, range'_succ -> bVp, range_eq_range' -> bVz, range_succ -> bV4, replicate_succ -> bUi, replicate_zero -> bUh, take_length -> bUf, take_succ_cons -> bS3, take_zero -> bS2
open Nat renaming add_zero -> bUk, div_le_div_right -> bWe, div_mul_le_self -> bWd, dvd_of_mod_eq_zero -> bV5, le_of_lt -> bU8, le_refl -> bSx, le_trans -> bS9, lt_irrefl -> bVg, lt_of_lt_of_le -> bTm, lt_or_ge -> bT5, mul_le_mul_right -> bT8, zero_le -> bS4
namespace Go.Proofs.YtmafmhjndjmalaaGreat
open Go.Abs Go.Proofs Tryz
set_option maxRecDepth 100000
set_option maxHeartbeats 4000000
theorem qQ (p:aD)(l:bL)(hp:p.few)(hl:l.few)(hsp:aU p=true)(h:aIu p l=true):PC L 44 [.agg p.cs,.agg l.cs] ((ply p l)):=by
 have hC:=aEo p l hp hl hsp;rw[if_pos h]at hC
 refine pcA func44 ?_
 simp only[go_sem,kK]
 refine bS ?_
 simp only[go_sem,hC.ret,(dI _).ret]
theorem qR (p:aD)(l:bL)(hp:p.few)(hl:l.few)(hsp:aU p=true)(h:aIu p l=false):PX L 44 [.agg p.cs,.agg l.cs] (aBb 2):=by
 have hC:=aEo p l hp hl hsp;rw[h,if_neg (by decide)]at hC
 refine pxA func44 ?_
 simp only[go_sem,kK]
 refine cR 4 rfl ?_
 simp only[go_sem,bS3,bS2,hC.ret,(bR _).ret]
variable {p:aD}{w:aA}
theorem aC8 (hg:bJ p w=true)(pick:Int):((cV p w pick).2.2=0/\ (aBt p w pick).2.2.2=0/\ aBt p w pick=fE p w pick/\ (cV p w pick).1=(fE p w pick).1/\ (cV p w pick).2.1=(fE p w pick).2.1) \/
  ((aBt p w pick).2.2.2=5/\ (cV p w pick).2.2=6) \/((aBt p w pick).2.2.2=8/\ (cV p w pick).2.2=8):=by
 unfold aBt cV;rw[if_pos hg]
 simp only
 rcases bBc p w pick with h|h|h
 ·refine .inl ⟨?_,?_,?_,?_,?_⟩<;>simp[h]
 ·exact .inr (.inl ⟨by simp[h],by simp[h]⟩)
 ·exact .inr (.inr ⟨by simp[h],by simp[h]⟩)
theorem xD (p:aD)(l:bL)(w:aA)(pick:Int)(hp:p.few)(hw:w.few)(hsp:aU p=true)(hg:bJ p w=true)(h:(cV p w pick).2.2=0):
  PC L 89 [(ply p l),.agg w.cs,.i pick] (.tup [.agg (cV p w pick).1.cs,evV (cV p w pick).2.1]):=by
 have hT:=aHh p w pick hp hw hsp;obtain⟨_,h0,e1,e2,e3⟩:(cV p w pick).2.2=0/\ (aBt p w pick).2.2.2=0/\ aBt p w pick=fE p w pick/\ (cV p w pick).1=(fE p w pick).1/\ (cV p w pick).2.1=(fE p w pick).2.1:=by
  rcases aC8 hg pick with h'|⟨_,h'⟩|⟨_,h'⟩
  ·exact h'
  ·rw[h]at h';cases h'
  ·rw[h]at h';cases h'
 rw[h0,e1]at hT;rw[e2,e3]
 refine pcA func89 ?_
 simp only[go_sem,kK]
 refine aH ?_
 simp only[go_sem,hT.ret,evV,kA,kF]
 refine bS ?_
 simp only[go_sem,(dI _).ret]
 refine bS ?_
 simp only[go_sem,(dI _).ret]
 refine aH ?_
 simp only[go_sem,kA,kF]
theorem xE (p:aD)(l:bL)(w:aA)(pick:Int)(hp:p.few)(hw:w.few)(hsp:aU p=true)(hg:bJ p w=true)(h: ¬(cV p w pick).2.2=0):
  PX L 89 [(ply p l),.agg w.cs,.i pick] (aBb (cV p w pick).2.2):=by
 have hT:=aHh p w pick hp hw hsp;rcases aC8 hg pick with h'|⟨h1,h2⟩|⟨h1,h2⟩
 ·exact absurd h'.1 h
 ·rw[h1]at hT;rw[h2]
  refine pxA func89 ?_
  simp only[go_sem,kK]
  refine aH ?_
  simp only[go_sem,hT.ret,evV,kA,kF]
  refine cR 2 rfl ?_
  simp only[go_sem,bS3,bS2,(bR _).ret]
 ·rw[h1]at hT;rw[h2]
  refine pxA func89 ?_
  simp only[go_sem,kK]
  refine aH ?_
  simp only[go_sem,hT.ret,evV,kA,kF]
  refine bS ?_
  simp only[go_sem,(dI _).ret]
  refine cR 3 rfl ?_
  simp only[go_sem,bS3,bS2,(bR _).ret]
theorem sA (w:aA)(hw:w.few)(hs:bZ w=true):PC L 48 [.agg w.cs] (.agg w.cs):=by
 obtain⟨b1,b2,b3,b4⟩:=aM2 hs;have c1:=rO (w.tasks.map (.int .i64)) (tM _) (by simp;omega)
 have c2:=aGp (w.outs.map bO.enc) (aJt _) (by simp;omega)
 have c3:=rO (w.ins.map (.int .i64)) (tM _) (by simp;omega)
 refine pcA func48 ?_
 simp only[go_sem,kK]
 refine aK0 (fun st=>st.fr 2= .ptr ⟨0,2,0⟩ 0/\ st.en ⟨0,2,0⟩=some (.box [.cl [],.cl [],.cl [],.cl [],.i 0] false)/\ st.fr 1= .ptr ⟨0,1,0⟩ 0/\ st.en ⟨0,1,0⟩=some (.box [.fz (w.objs.map aP.enc),.fz (w.tasks.map (.int .i64)),.fz (w.outs.map bO.enc),.fz (w.ins.map (.int .i64)),.i w.used] false)/\ st.fr 3= .ptr ⟨0,3,0⟩ 0/\
  ∃vT vO vI,st.en ⟨0,3,0⟩=some (.box [.cl [],vT,vO,vI,.i w.used] false)/\ cX st.en vT 1 (w.tasks.map (.int .i64)) [11]/\ cX st.en vO 2 (w.outs.map bO.enc) [14]/\ cX st.en vI 1 (w.ins.map (.int .i64)) [17]) ?_ ?_
 ·refine aH ?_
  rcases jU 1 (w.tasks.map (Val.int .i64))with⟨t1,t2⟩|⟨t1,t2⟩<;>rw[t2]at c1<;>
  rcases jU 2 (w.outs.map bO.enc)with⟨o1,o2⟩|⟨o1,o2⟩<;>rw[o2]at c2<;>
  rcases jU 1 (w.ins.map (Val.int .i64))with⟨i1,i2⟩|⟨i1,i2⟩<;>rw[i2]at c3
  all_goals simp only[go_sem,kA,kF,c1.ret,c2.ret,c3.ret,bSy,bSx,if_true,kB]
  all_goals refine⟨_,_,_,rfl,?_,?_,?_⟩
  all_goals first
   |exact .inl ⟨rfl,by assumption⟩
   |exact aK1 (by simp only[go_sem];try rfl) (by simp only[bSy])
 ·rintro fr en cnt ⟨h2,e2,h1,e1,h3,vT,vO,vI,e3,mT,mO,mI⟩
  dsimp only at h2 e2 h1 e1 h3 e3 mT mO mI;simp only[go_sem,h1,e1]
  refine bK w.objs.length (fun k st=> ∃fr en cnt v,st=⟨fr,en,cnt⟩/\ fr 2= .ptr ⟨0,2,0⟩ 0/\ en ⟨0,2,0⟩=some (.box [.cl [],.cl [],.cl [],.cl [],.i 0] false)/\ fr 3= .ptr ⟨0,3,0⟩ 0/\ en ⟨0,3,0⟩=some (.box [v,vT,vO,vI,.i w.used] false)/\ fr 22= .fz (w.objs.map aP.enc)/\ fr 23= .i w.objs.length/\ fr 24= .i k/\
   cX en vT 1 (w.tasks.map (.int .i64)) [11]/\ cX en vO 2 (w.outs.map bO.enc) [14]/\ cX en vI 1 (w.ins.map (.int .i64)) [17]/\ cX en v 4 ((w.objs.take k).map aP.enc) [62]) 0 (bS4 _) ⟨_,_,_,.cl [],rfl,by simp only[go_sem,h2],by simp only[go_sem,e2],by simp only[go_sem,h3],by simp only[go_sem,e3],by simp only[go_sem],by simp only[go_sem],by simp only[go_sem],mT,mO,mI,cX.nil _ _⟩ ?_
  rintro k st hk ⟨fr,en,cnt,v,rfl,h2,e2,h3,e3,h22,h23,h24,mT,mO,mI,hv⟩
  simp only[go_sem,kK,h23,h24]
  refine aG (fun hq=>?_) (fun hq=>?_)
  ·have h':k<w.objs.length:=D_o hq;have hso:=aE9 hs _ (bS7 h');obtain⟨d1,d2,d3⟩:=aP4 hso;simp only[go_sem,h',h22,h24];generalize ho:w.objs[k]=o;rw[ho]at hso d1 d2 d3;have hvl:=rP (o.vals.map aE.enc) (xW _) (by simp;omega)
   have hfo:Few o.frames.length:=by unfold Few;omega
   generalize hg5:cnt 0 5=g5;generalize hg6:cnt 0 6=g6
   refine aK0 (fun st=>st.fr 2= .ptr ⟨0,2,0⟩ 0/\ st.en ⟨0,2,0⟩=some (.box [.cl [],.cl [],.cl [],.cl [],.i 0] false)/\ st.fr 3= .ptr ⟨0,3,0⟩ 0/\ st.en ⟨0,3,0⟩=some (.box [v,vT,vO,vI,.i w.used] false)/\ st.fr 22= .fz (w.objs.map aP.enc)/\ st.fr 23= .i w.objs.length/\ st.fr 24= .i k/\ st.fr 5= .ptr ⟨0,5,g5⟩ 0/\ st.en ⟨0,5,g5⟩=some (.box [.i o.form,.i o.n,.fz (o.vals.map aE.enc),.fz (o.frames.map aB.enc)] false)/\ st.fr 6= .ptr ⟨0,6,g6⟩ 0/\ ∃u,st.en ⟨0,6,g6⟩=some (.box [.i o.form,.i o.n,u,.cl []] false)/\
    cX st.en u 2 (o.vals.map aE.enc) [34]/\ cX st.en vT 1 (w.tasks.map (.int .i64)) [11]/\ cX st.en vO 2 (w.outs.map bO.enc) [14]/\ cX st.en vI 1 (w.ins.map (.int .i64)) [17]/\ cX st.en v 4 ((w.objs.take k).map aP.enc) [62]) ?_ ?_
   ·refine aH ?_
    rcases jU 2 (o.vals.map aE.enc)with⟨t1,t2⟩|⟨t1,t2⟩<;>rw[t2]at hvl
    all_goals simp only[go_sem,hg6,h2,e2,h3,e3,h22,h23,h24,kA,kF,hvl.ret,bSy,bSx,if_true,kB]
    all_goals refine⟨_,rfl,?_,?_,?_,?_,?_⟩
    all_goals first
     |(simp only[go_sem,qW,h2,e2,h3,e3,h22,h23,h24];done)
     |(refine mT.keep fun t g ht=>?_;simp at ht;subst ht;simp only[go_sem];done)
     |(refine mO.keep fun t g ht=>?_;simp at ht;subst ht;simp only[go_sem];done)
     |(refine mI.keep fun t g ht=>?_;simp at ht;subst ht;simp only[go_sem];done)
     |(refine hv.keep fun t g ht=>?_;simp at ht;subst ht;simp only[go_sem];done)
     |exact .inl ⟨rfl,by assumption⟩
     |exact aK1 (by simp only[go_sem];try rfl) (by simp only[bSy])
     |skip
   ·rintro fr en cnt ⟨h2,e2,h3,e3,h22,h23,h24,h5,e5,h6,u,e6,mV,mT,mO,mI,hv⟩
    dsimp only at h2 e2 h3 e3 h22 h23 h24 h5 e5 h6 e6 mV mT mO mI hv;simp only[go_sem,h5,e5]
    refine bK o.frames.length (fun j st=> ∃fr en cnt x,st=⟨fr,en,cnt⟩/\ fr 2= .ptr ⟨0,2,0⟩ 0/\ en ⟨0,2,0⟩=some (.box [.cl [],.cl [],.cl [],.cl [],.i 0] false)/\ fr 3= .ptr ⟨0,3,0⟩ 0/\ en ⟨0,3,0⟩=some (.box [v,vT,vO,vI,.i w.used] false)/\ fr 22= .fz (w.objs.map aP.enc)/\ fr 23= .i w.objs.length/\ fr 24= .i k/\ fr 6= .ptr ⟨0,6,g6⟩ 0/\ en ⟨0,6,g6⟩=some (.box [.i o.form,.i o.n,u,x] false)/\ fr 37= .fz (o.frames.map aB.enc)/\ fr 38= .i o.frames.length/\ fr 39= .i j/\
     cX en u 2 (o.vals.map aE.enc) [34]/\ cX en x 3 ((o.frames.take j).map aB.enc) [55]/\ cX en vT 1 (w.tasks.map (.int .i64)) [11]/\ cX en vO 2 (w.outs.map bO.enc) [14]/\ cX en vI 1 (w.ins.map (.int .i64)) [17]/\ cX en v 4 ((w.objs.take k).map aP.enc) [62]) 0 (bS4 _) ⟨_,_,_,.cl [],rfl,by simp only[go_sem,h2],by simp only[go_sem,e2],by simp only[go_sem,h3],by simp only[go_sem,e3],by simp only[go_sem,h22],by simp only[go_sem,h23],by simp only[go_sem,h24],by simp only[go_sem,h6],by simp only[go_sem,e6],by simp only[go_sem],by simp only[go_sem],by simp only[go_sem],?_,cX.nil _ _,?_,?_,?_,?_⟩ ?_
    ·exact mV.keep fun t g ht=>by simp at ht;subst ht;simp only[go_sem]
    ·exact mT.keep fun t g ht=>by simp at ht;subst ht;simp only[go_sem]
    ·exact mO.keep fun t g ht=>by simp at ht;subst ht;simp only[go_sem]
    ·exact mI.keep fun t g ht=>by simp at ht;subst ht;simp only[go_sem]
    ·exact hv.keep fun t g ht=>by simp at ht;subst ht;simp only[go_sem]
    rintro j st hj ⟨fr,en,cnt,x,rfl,h2,e2,h3,e3,h22,h23,h24,h6,e6,h37,h38,h39,mV,mX,mT,mO,mI,hv⟩
    simp only[go_sem,kK,h38,h39]
    refine aG (fun hq'=>?_) (fun hq'=>?_)
    ·have h'':j<o.frames.length:=D_o hq';have hb:=d3 _ (bS7 h'');simp only[go_sem,h'',h37,h39];generalize hf:o.frames[j]=f;rw[hf]at hb;have ce:=rP (f.env.map aE.enc) (xW _) (by simp;omega)
     have cv:=rP (f.vals.map aE.enc) (xW _) (by simp;omega)
     refine aH ?_
     rcases jU 2 (f.env.map aE.enc)with⟨t1,t2⟩|⟨t1,t2⟩<;>rw[t2]at ce<;>
     rcases jU 2 (f.vals.map aE.enc)with⟨u1,u2⟩|⟨u1,u2⟩<;>rw[u2]at cv
     all_goals simp only[go_sem,h6,e6,kA,kF,ce.ret,cv.ret,bSy,bSx,if_true,rQ,kB]
     all_goals
      have hap:=mX.shape
      refine aIf (D:=[55]) (xs:=(o.frames.take j).map aB.enc) (ys:=[aB.enc f]) (rs:=[]) ?_ ?_ ?_ rfl ?_ ?_
      ·simp only[go_sem];exact mX.keep fun t g ht=>by simp at ht;subst ht;simp only[go_sem]
      ·simp only[go_sem,t1,u1]
      ·first|rfl|simp[aB.enc]
      ·simp;omega
      ·intro v' en' cnt' r hown hen hcnt _ _ _;have k2:en' ⟨0,2,0⟩=some (.box [.cl [],.cl [],.cl [],.cl [],.i 0] false):=by rw[hen 0 2 0 (.inr ⟨by decide,by simp⟩)];simp only[go_sem,e2]
       have k3:en' ⟨0,3,0⟩=some (.box [v,vT,vO,vI,.i w.used] false):=by rw[hen 0 3 0 (.inr ⟨by decide,by simp⟩)];simp only[go_sem,e3]
       have k6:en' ⟨0,6,g6⟩=some (.box [.i o.form,.i o.n,u,x] false):=by rw[hen 0 6 g6 (.inr ⟨by decide,by simp⟩)];simp only[go_sem,e6]
       obtain⟨s1,s2⟩:=hown.shape;simp only[go_sem,h6,k6,h39,s1,s2]
       refine⟨_,_,_,v',rfl,?_⟩
       simp only[go_sem,h2,k2,h3,k3,h22,h23,h24,h6,h37,h38,aR h'' hfo]
       refine⟨mV.keep ?_,?_,mT.keep ?_,mO.keep ?_,mI.keep ?_,hv.keep ?_⟩
       ·intro t g ht;simp at ht;subst ht;rw[kG (by simp),hen 0 34 g (.inr ⟨by decide,by simp⟩)];simp only[go_sem]
       ·rw[iG h'',bT0,hf]
        refine cX.sub (D:=[55,55]) (cX.keep (en:=en') hown ?_) (by simp)
        intro t g ht;simp at ht;subst ht;simp only[go_sem]
       ·intro t g ht;simp at ht;subst ht;rw[kG (by simp),hen 0 11 g (.inr ⟨by decide,by simp⟩)];simp only[go_sem]
       ·intro t g ht;simp at ht;subst ht;rw[kG (by simp),hen 0 14 g (.inr ⟨by decide,by simp⟩)];simp only[go_sem]
       ·intro t g ht;simp at ht;subst ht;rw[kG (by simp),hen 0 17 g (.inr ⟨by decide,by simp⟩)];simp only[go_sem]
       ·intro t g ht;simp at ht;subst ht;rw[kG (by simp),hen 0 62 g (.inr ⟨by decide,by simp⟩)];simp only[go_sem]
    ·have:j=o.frames.length:=by simp at hq';omega
     subst this;rw[bUf]at mX;have kend: ∀(fr:Nat->Val) (en:En) (cnt:Nat->Nat->Nat),fr 2= .ptr ⟨0,2,0⟩ 0->en ⟨0,2,0⟩=some (.box [.cl [],.cl [],.cl [],.cl [],.i 0] false)->fr 3= .ptr ⟨0,3,0⟩ 0->en ⟨0,3,0⟩=some (.box [v,vT,vO,vI,.i w.used] false)->fr 22= .fz (w.objs.map aP.enc)->fr 23= .i w.objs.length->fr 24= .i k->
       cX en vT 1 (w.tasks.map (.int .i64)) [11]->cX en vO 2 (w.outs.map bO.enc) [14]->cX en vI 1 (w.ins.map (.int .i64)) [17]->
       ∀v' en' cnt',cX en' v' 4 ((w.objs.take k).map aP.enc++[aP.enc o]) [62,62]->(∀n t g,n≠0 \/(t≠62/\ t∉[62])->en' ⟨n,t,g⟩=en ⟨n,t,g⟩)->(∀n t,t≠62->cnt' n t=cnt n t)->
       jF L [fA 63 0 3,sT 1 63 62] ⟨jG fr 62 v',en',cnt'⟩ fun st'=>jF L [bN 64 BinOp.add (Opd.t 24) (cI 1),Abs.mT 24 64] st' fun st'=> ∃fr en cnt v,st'=⟨fr,en,cnt⟩/\ fr 2= .ptr ⟨0,2,0⟩ 0/\ en ⟨0,2,0⟩=some (.box [.cl [],.cl [],.cl [],.cl [],.i 0] false)/\ fr 3= .ptr ⟨0,3,0⟩ 0/\ en ⟨0,3,0⟩=some (.box [v,vT,vO,vI,.i w.used] false)/\ fr 22= .fz (w.objs.map aP.enc)/\ fr 23= .i w.objs.length/\ fr 24= .i (k+1:Nat)/\
        cX en vT 1 (w.tasks.map (.int .i64)) [11]/\ cX en vO 2 (w.outs.map bO.enc) [14]/\ cX en vI 1 (w.ins.map (.int .i64)) [17]/\ cX en v 4 ((w.objs.take (k+1)).map aP.enc) [62]:=by
      intro fr en cnt h2 e2 h3 e3 h22 h23 h24 mT mO mI v' en' cnt' hown hen hcnt;have k2:en' ⟨0,2,0⟩=some (.box [.cl [],.cl [],.cl [],.cl [],.i 0] false):=by rw[hen 0 2 0 (.inr ⟨by decide,by simp⟩)];simp only[go_sem,e2]
      have k3:en' ⟨0,3,0⟩=some (.box [v,vT,vO,vI,.i w.used] false):=by rw[hen 0 3 0 (.inr ⟨by decide,by simp⟩)];simp only[go_sem,e3]
      obtain⟨s1,s2⟩:=hown.shape;simp only[go_sem,h3,k3,h24,s1,s2]
      refine⟨_,_,_,v',rfl,?_⟩
      simp only[go_sem,h2,k2,h3,h22,h23,aR h' hw.objs]
      refine⟨mT.keep ?_,mO.keep ?_,mI.keep ?_,?_⟩
      ·intro t g ht;simp at ht;subst ht;rw[kG (by simp),hen 0 11 g (.inr ⟨by decide,by simp⟩)]
      ·intro t g ht;simp at ht;subst ht;rw[kG (by simp),hen 0 14 g (.inr ⟨by decide,by simp⟩)]
      ·intro t g ht;simp at ht;subst ht;rw[kG (by simp),hen 0 17 g (.inr ⟨by decide,by simp⟩)]
      ·rw[iG h',bT0,ho]
       refine cX.sub (D:=[62,62]) (cX.keep (en:=en') hown ?_) (by simp)
       intro t g ht;simp at ht;subst ht;simp only[go_sem]
     rcases mV with⟨rfl,n1⟩|⟨t,g,f,rfl,eV,m1⟩<;>rcases mX with⟨rfl,n2⟩|⟨t',g',f',rfl,eX,m2⟩<;>(try(simp only[bUg]at m1;subst m1))<;>(try(simp only[bUg]at m2;subst m2))
     ·simp only[go_sem,h2,e2,h3,e3,h24,h6,e6,bSx,if_true,kF]
      refine jO (D:=[62]) (xs:=(w.objs.take k).map aP.enc) (ys:=[aP.enc o]) (rs:=[]) ?_ ?_ rfl ?_ ?_
      ·simp only[go_sem];exact hv.keep fun t g ht=>by simp at ht;subst ht;simp only[go_sem]
      ·simp only[go_sem,aP.enc,n1,n2]
      ·simp;omega
      ·exact kend _ _ _ (by simp only[go_sem,h2]) (by simp only[go_sem,e2]) (by simp only[go_sem,h3]) (by simp only[go_sem,e3]) (by simp only[go_sem,h22]) (by simp only[go_sem,h23]) (by simp only[go_sem,h24]) (mT.keep fun t g ht=>by simp at ht;subst ht;simp only[go_sem]) (mO.keep fun t g ht=>by simp at ht;subst ht;simp only[go_sem]) (mI.keep fun t g ht=>by simp at ht;subst ht;simp only[go_sem])
     ·simp only[go_sem,h2,e2,h3,e3,h24,h6,e6,eX,bSy,bSx,if_true,rQ,kF]
      refine jO (D:=[62]) (xs:=(w.objs.take k).map aP.enc) (ys:=[aP.enc o]) (rs:=[]) ?_ ?_ rfl ?_ ?_
      ·simp only[go_sem];exact hv.keep fun t g ht=>by simp at ht;subst ht;simp only[go_sem]
      ·simp only[go_sem,aP.enc,n1]
      ·simp;omega
      ·exact kend _ _ _ (by simp only[go_sem,h2]) (by simp only[go_sem,e2]) (by simp only[go_sem,h3]) (by simp only[go_sem,e3]) (by simp only[go_sem,h22]) (by simp only[go_sem,h23]) (by simp only[go_sem,h24]) (mT.keep fun t g ht=>by simp at ht;subst ht;simp only[go_sem]) (mO.keep fun t g ht=>by simp at ht;subst ht;simp only[go_sem]) (mI.keep fun t g ht=>by simp at ht;subst ht;simp only[go_sem])
     ·simp only[go_sem,h2,e2,h3,e3,h24,h6,e6,eV,bSy,bSx,if_true,rQ,kF]
      refine jO (D:=[62]) (xs:=(w.objs.take k).map aP.enc) (ys:=[aP.enc o]) (rs:=[]) ?_ ?_ rfl ?_ ?_
      ·simp only[go_sem];exact hv.keep fun t g ht=>by simp at ht;subst ht;simp only[go_sem]
      ·simp only[go_sem,aP.enc,n2]
      ·simp;omega
      ·exact kend _ _ _ (by simp only[go_sem,h2]) (by simp only[go_sem,e2]) (by simp only[go_sem,h3]) (by simp only[go_sem,e3]) (by simp only[go_sem,h22]) (by simp only[go_sem,h23]) (by simp only[go_sem,h24]) (mT.keep fun t g ht=>by simp at ht;subst ht;simp only[go_sem]) (mO.keep fun t g ht=>by simp at ht;subst ht;simp only[go_sem]) (mI.keep fun t g ht=>by simp at ht;subst ht;simp only[go_sem])
     ·simp only[go_sem,h2,e2,h3,e3,h24,h6,e6,eV,eX,bSy,bSx,if_true,rQ,kF]
      refine jO (D:=[62]) (xs:=(w.objs.take k).map aP.enc) (ys:=[aP.enc o]) (rs:=[]) ?_ ?_ rfl ?_ ?_
      ·simp only[go_sem];exact hv.keep fun t g ht=>by simp at ht;subst ht;simp only[go_sem]
      ·simp only[go_sem,aP.enc]
      ·simp;omega
      ·exact kend _ _ _ (by simp only[go_sem,h2]) (by simp only[go_sem,e2]) (by simp only[go_sem,h3]) (by simp only[go_sem,e3]) (by simp only[go_sem,h22]) (by simp only[go_sem,h23]) (by simp only[go_sem,h24]) (mT.keep fun t g ht=>by simp at ht;subst ht;simp only[go_sem]) (mO.keep fun t g ht=>by simp at ht;subst ht;simp only[go_sem]) (mI.keep fun t g ht=>by simp at ht;subst ht;simp only[go_sem])
  ·have:k=w.objs.length:=by simp at hq;omega
   subst this;rw[bUf]at hv;simp only[go_sem,h2,e2,h3,e3];obtain⟨r1,ks1,s1,s1',_⟩:=(hv.keep (en':=en.set ⟨0,2,0⟩ (some (.box [v,vT,vO,vI,.i w.used] false))) fun t g ht=>by simp at ht;subst ht;simp only[go_sem]).snap 6
   obtain⟨r2,ks2,s2,s2',_⟩:=(mT.keep (en':=en.set ⟨0,2,0⟩ (some (.box [v,vT,vO,vI,.i w.used] false))) fun t g ht=>by simp at ht;subst ht;simp only[go_sem]).snap 6
   obtain⟨r3,ks3,s3,s3',_⟩:=(mO.keep (en':=en.set ⟨0,2,0⟩ (some (.box [v,vT,vO,vI,.i w.used] false))) fun t g ht=>by simp at ht;subst ht;simp only[go_sem]).snap 6
   obtain⟨r4,ks4,s4,s4',_⟩:=(mI.keep (en':=en.set ⟨0,2,0⟩ (some (.box [v,vT,vO,vI,.i w.used] false))) fun t g ht=>by simp at ht;subst ht;simp only[go_sem]).snap 6
   simp only[go_sem,s1,s2,s3,s4,s1',s2',s3',s4']
theorem aA.eq_iff {a b:aA}:decide (a=b)=(decide (a.objs=b.objs)&&decide (a.tasks=b.tasks)&&decide (a.outs=b.outs)&&decide (a.ins=b.ins)&&decide (a.used=b.used)):=by
 cases a;cases b;simp[Bool.and_assoc]
def bEl :fR:={np:=1,res:=[.cell 2 true 3],keep:=false,body:=
 (.seq (.ops [bX 1 3 0,
 o 2 (.alloc [(.int .i64 0),(.cl []),(.cl [])])])
 (.seq (.draw [fA 6 0 1,
 l1 7 6,
 fA 8 1 1,
 l1 9 8,
 cL 10 104 [(.t 9)],
 o 11 (.build [(.int .i64 0),(.cl []),(.cl [])] [(0,1,(.t 7)),(1,1,(.t 10))]),
 o 3 (.alloc [(.int .i64 0),(.cl []),(.cl [])]),
 sT 3 3 11]
 [(1,4),(1,6),(3,6),(4,6)])
 (.seq (.seq (.ops [fA 12 2 1,
 l1 13 12,
 lN 14 13,
 mC 15 (.int .i64 0)])
 (.block 0 (.loop (.seq (.ops [bN 16 .lss (.t 15) (.t 14)])
 (.seq (.cond (.t 16)
 .skip
 (.exit 0))
 (.seq (.block 1 (.seq (.ops [iA 17 5 13 15,
 lT 18 5 17,
 o 5 (.alloc [(.cl []),(.cl []),(.cl []),(.cl []),(.int .i64 0)]),
 sT 5 5 18])
 (.draw [fA 19 2 3,
 l1 20 19,
 lT 21 5 5,
 cL 22 48 [(.t 21)],
 o 23 (.bslice 1 5 [(.cl []),(.cl []),(.cl []),(.cl []),(.int .i64 0)] [(0,(.t 22))]),
 o 24 (.append 5 (.t 20) (.t 23)),
 fA 25 2 3,
 sT 1 25 24]
 [(1,3),(1,4)])))
 (.ops [bN 26 .add (.t 15) (cI 1),
 mT 15 26])))))))
 (.seq (.ops [lT 27 3 3,
 sT 3 2 27])
 .ret))))}
theorem bM9 :L 86=some bEl:=by kernel_rfl
def aHn (g3:Nat)(en en':En):Prop:= ∀n t g,(n≠0 \/t∉[1,2,3,5,10,24] \/(t=3/\ g<g3))->en' ⟨n,t,g⟩=en ⟨n,t,g⟩
variable {en:En}{g3:Nat}
theorem aHn.refl :aHn g3 en en:=fun _ _ _ _=>rfl
variable {e:Option Ent}{en':En}{g t:Nat}
theorem aHn.set (h:aHn g3 en en')(ht:t∈[1,2,3,5,10,24])(hg:t=3->g3<=g):aHn g3 en (en'.set ⟨0,t,g⟩ e):=by
 intro n u g' k;rw[kG,h n u g' k];intro he
 injection he with h1 h2 h3
 subst h1 h2 h3;rcases k with k|k|k
 ·exact k rfl
 ·exact k ht
 ·have:=hg k.1;omega
theorem aHn.step {en2:En}(h:aHn g3 en en')(k: ∀n t g,n≠0 \/(t≠24/\ t∉[24])->en2 ⟨n,t,g⟩=en' ⟨n,t,g⟩):aHn g3 en en2:=fun n t g q=>by
 rw[k n t g,h n t g q];rcases q with q|q|q
 ·exact .inl q
 ·exact .inr ⟨fun e=>q (by simp[e]),fun e=>q (by simp at e;simp[e])⟩
 ·exact .inr ⟨by omega,by simp;omega⟩
variable {l:bL}
theorem aQo (hl:l.few)(hp:l.picks.length<=16777216)(hm:l.marks.length<=16777216)(hs: ∀w∈l.marks,bZ w=true){en0:En}{cnt0:Nat->Nat->Nat}(n1:cnt0 0 1=0)(n2:cnt0 0 2=0)(n3:cnt0 0 3=g3){R:Ex->St->Prop}
  (hR: ∀fr en cnt vP v,fr 2= .ptr ⟨0,2,0⟩ 0->en ⟨0,2,0⟩=some (.box [.i l.every,vP,v] false)->cX en vP 1 (l.picks.map (.int .i64)) [10]->cX en v 5 (l.marks.map aA.enc) [24]->aHn g3 en0 en->R .ret ⟨fr,en,cnt⟩):
  Wp L bEl.body ⟨fun i=>[.agg [.i l.every,.is l.picks,.fz (l.marks.map aA.enc)]].getD i (.tup []),en0,cnt0⟩ R:=by
 have c1:=rO (l.picks.map (.int .i64)) (tM _) (by simp;omega)
 simp only[go_sem,kK,bEl,n1,n2]
 refine aK0 (fun st=>st.fr 2= .ptr ⟨0,2,0⟩ 0/\ st.en ⟨0,2,0⟩=some (.box [.i 0,.cl [],.cl []] false)/\ st.fr 1= .ptr ⟨0,1,0⟩ 0/\ st.en ⟨0,1,0⟩=some (.box [.i l.every,.is l.picks,.fz (l.marks.map aA.enc)] false)/\ st.fr 3= .ptr ⟨0,3,g3⟩ 0/\
  ∃vP,st.en ⟨0,3,g3⟩=some (.box [.i l.every,vP,.cl []] false)/\ cX st.en vP 1 (l.picks.map (.int .i64)) [10]/\ aHn g3 en0 st.en) ?_ ?_
 ·refine aH ?_
  rcases jU 1 (l.picks.map (Val.int .i64))with⟨t1,t2⟩|⟨t1,t2⟩<;>rw[t2]at c1
  all_goals simp only[go_sem,kA,kF,n3,c1.ret,bSy,bSx,if_true,kB]
  all_goals refine⟨_,rfl,?_,?_⟩
  all_goals first
   |exact .inl ⟨rfl,by assumption⟩
   |exact aK1 (by simp only[go_sem];try rfl) (by simp only[bSy])
   |(repeat' refine aHn.set ?_ (by simp) (by simp)
     exact aHn.refl)
 ·rintro fr en cnt ⟨h2,e2,h1,e1,h3,vP,e3,mP,hO⟩
  dsimp only at h2 e2 h1 e1 h3 e3 mP hO;simp only[go_sem,h1,e1]
  refine bK l.marks.length (fun k st=> ∃fr en cnt v,st=⟨fr,en,cnt⟩/\ fr 2= .ptr ⟨0,2,0⟩ 0/\ en ⟨0,2,0⟩=some (.box [.i 0,.cl [],.cl []] false)/\ fr 3= .ptr ⟨0,3,g3⟩ 0/\ en ⟨0,3,g3⟩=some (.box [.i l.every,vP,v] false)/\ fr 13= .fz (l.marks.map aA.enc)/\ fr 14= .i l.marks.length/\ fr 15= .i k/\
   cX en vP 1 (l.picks.map (.int .i64)) [10]/\ cX en v 5 ((l.marks.take k).map aA.enc) [24]/\ aHn g3 en0 en) 0 (bS4 _) ⟨_,_,_,.cl [],rfl,by simp only[go_sem,h2],by simp only[go_sem,e2],by simp only[go_sem,h3],by simp only[go_sem,e3],by simp only[go_sem],by simp only[go_sem],by simp only[go_sem],mP,cX.nil _ _,hO⟩ ?_
  rintro k st hk ⟨fr,en,cnt,v,rfl,h2,e2,h3,e3,h13,h14,h15,mP,hv,hO⟩
  simp only[go_sem,kK,h14,h15]
  refine aG (fun hq=>?_) (fun hq=>?_)
  ·have h':k<l.marks.length:=D_o hq;have hso:=hs _ (bS7 h');have hfo:=hl.2.2 _ (bS7 h');simp only[go_sem,h',h13,h15,rZ h'];generalize ho:l.marks[k]=o;rw[ho]at hso hfo
   refine aH ?_
   simp only[go_sem,h3,e3,kA,kF,(sA _ hfo hso).ret]
   refine aIf (D:=[24]) (xs:=(l.marks.take k).map aA.enc) (ys:=[aA.enc o]) (rs:=[]) ?_ ?_ rfl rfl ?_ ?_
   ·simp only[go_sem];exact hv.keep fun t g ht=>by simp at ht;subst ht;simp only[go_sem]
   ·simp only[go_sem,aA.enc]
   ·simp;omega
   ·intro v' en' cnt' r hown hen hcnt _ _ _;have k2:en' ⟨0,2,0⟩=some (.box [.i 0,.cl [],.cl []] false):=by rw[hen 0 2 0 (.inr ⟨by decide,by simp⟩)];simp only[go_sem,e2]
    have k3:en' ⟨0,3,g3⟩=some (.box [.i l.every,vP,v] false):=by rw[hen 0 3 g3 (.inr ⟨by decide,by simp⟩)];simp only[go_sem,e3]
    obtain⟨s1,s2⟩:=hown.shape;simp only[go_sem,h3,k3,h15,s1,s2]
    refine⟨_,_,_,v',rfl,?_⟩
    simp only[go_sem,h2,k2,h3,h13,h14,aR h' hl.2.1]
    refine⟨mP.keep ?_,?_,((((hO.set (by simp) (by simp)).set (by simp) (by simp)).step hen).set (by simp) (by simp))⟩
    ·intro t g ht;simp at ht;subst ht;rw[kG (by simp),hen 0 10 g (.inr ⟨by decide,by simp⟩)];simp only[go_sem]
    ·rw[iG h',bT0,ho]
     refine cX.sub (D:=[24,24]) (cX.keep (en:=en') hown ?_) (by simp)
     intro t g ht;simp at ht;subst ht;simp only[go_sem]
  ·have:k=l.marks.length:=by simp at hq;omega
   subst this;rw[bUf]at hv;simp only[go_sem,h2,e2,h3,e3];exact hR _ _ _ vP v (by simp only[go_sem,h2]) (by simp only[go_sem]) (mP.keep fun t g ht=>by simp at ht;subst ht;simp only[go_sem]) (hv.keep fun t g ht=>by simp at ht;subst ht;simp only[go_sem]) (hO.set (by simp) (by simp))
variable {cnt:Nat->Nat->Nat}
theorem aXw (hl:l.few)(hp:l.picks.length<=16777216)(hm:l.marks.length<=16777216)(hs: ∀w∈l.marks,bZ w=true)(n1:cnt 0 1=0)(n2:cnt 0 2=0)(n3:cnt 0 3=g3):
  WIn L (.fn 86 [] []) [.agg [.i l.every,.is l.picks,.fz (l.marks.map aA.enc)]] en cnt fun r en' cnt'=> ∃vP v,r= .agg [.i l.every,vP,v]/\ cX en' vP 1 (l.picks.map (.int .i64)) [10]/\ cX en' v 5 (l.marks.map aA.enc) [24]/\ aHn g3 en en':=by
 refine dP bM9 rfl rfl ?_
 refine aQo hl hp hm hs n1 n2 n3 fun fr en' cnt' vP v f2 e2 mP hv hO=>?_
 simp only[go_sem,bEl,f2,e2];exact⟨vP,v,rfl,mP,hv,hO⟩
theorem sY (p:aD)(l:bL)(a b:Int):PC L 53 [(ply p l),.i a,.i b] (.fn 109 [] [.fp [.i a] 0,.fp [.i b] 0,.fp [(ply p l)] 0]):=by
 refine pcA func53 ?_
 simp only[go_sem,kK,kF]
theorem bKd :cW .eql .iface .nili .nili=some (.bool true):=(rfl)
theorem bKe {v:Val}:cW .eql .iface (.ifc t v) .nili=some (.bool false):=(rfl)
theorem bBe {k:Key}{a b:Option Ent}:(en.set k a).set k b=en.set k b:=by
 funext j
 by_cases h:j=k<;>simp[En.set,h]
variable {K:St->Prop}{f:Val}{fr:Nat->Val}
theorem eN {x:Val}{e:Ex}(he:e.rcvd=some .nili)(hK:K ⟨fr,en,cnt⟩):
  ∃st4,(∃n0,∀n,n0<=n->iS L (exec L n) (.fn 42 [] []) [x,f] e ⟨fr,en,cnt⟩=some st4)/\ K st4:=by
 have hL:=at_ func42
 conv at hL=>rhs;reduce
 refine uW hL rfl he rfl rfl ?_
 simp only[go_sem,kK,bT4,bT1,bKd,kF];exact hK
theorem bI {k:Key}{x:Val}{e:Ex}{n:Int}(he:e.rcvd=some (aBb n))
  (hf:WIn L f [] (en.set ⟨0,5,cnt 0 5⟩ (some (.box [.i n] false))) (aC cnt 0 5 (cnt 0 5+1)) fun _ en' cnt'=>en' k=some (.box [x] false)/\ en' ⟨0,5,cnt 0 5⟩=some (.box [.i n] false)/\ K ⟨fr,en'.set k (some (.box [.i n] false)),cnt'⟩):
  ∃st4,(∃n0,∀n,n0<=n->iS L (exec L n) (.fn 42 [] []) [.ptr k 0,f] e ⟨fr,en,cnt⟩=some st4)/\ K st4:=by
 have hL:=at_ func42
 conv at hL=>rhs;reduce
 refine uW hL rfl he rfl rfl ?_
 simp only[go_sem,kK,aBb,bT4,bT1,bKe,kF,if_true];rw[bBe]
 refine WIn.mono hf ?_
 rintro v e2 c2 ⟨k1,k2,hk⟩
 simp only[go_sem,k1,k2];exact hk
set_option maxRecDepth 100000
set_option maxHeartbeats 4000000
set_option maxRecDepth 100000
set_option maxHeartbeats 4000000
structure oS (l:bL):Prop where
 e1:1<=aQ l
 e2:aQ l<=20
 ev:l.every=(aQ l:Int)
 pk:l.picks.length<=200
 mn:l.marks.length=l.picks.length/aQ l+1
theorem oS.of (h:iR p l=true):oS l:=let ⟨_,⟨a,b,c⟩,d,e,_⟩:=qP h;⟨a,b,c,d,e⟩
variable {n:Nat}
theorem oS.lt (h:oS l)(hn:n<=l.picks.length):n/aQ l<l.marks.length:=by
 rw[h.mn];have:=bWe (c:=aQ l) hn;omega
theorem oS.div (h:oS l)(n:Nat):((n:Int)).tdiv (aQ l:Int)=((n/aQ l:Nat):Int):=by
 rw[bWm (by omega)];rfl
theorem oS.few (h:oS l):Few l.picks.length:=by have:=h.pk;unfold Few;omega
theorem oS.wdiv (h:oS l)(hn:n<=l.picks.length):IntKind.i64.wrap (((n/aQ l:Nat):Int))=((n/aQ l:Nat):Int):=by
 have h1:=Nat.div_le_self n (aQ l);have:=h.pk;generalize n/aQ l=q at h1⊢;exact aV (by omega)
theorem oS.mul (h:oS l)(hn:n<=l.picks.length):IntKind.i64.wrap (((n/aQ l:Nat):Int)*(aQ l:Int))=((n/aQ l*aQ l:Nat):Int):=by
 have h1:=bWd n (aQ l);have:=h.pk;rw[<-Int.natCast_mul];generalize n/aQ l*aQ l=q at h1⊢;exact aV (by omega)
theorem oS.ne (h:oS l):((aQ l:Int)=0)=False:=eq_false (by have:=h.e1;omega)
theorem oH {k:Nat}(h:k<l.marks.length):pE l k=l.marks[k]:=by simp[pE,h]
theorem aXx (hl:oS l)(hn:n<=l.picks.length)(hm:n%aQ l=0):PC L 49 [.fp [.i l.every,.is l.picks,.fz (l.marks.map aA.enc),.fz (p.nodes.map aL.enc),.fz (p.funs.map (.int .i64)),.i p.main,.fz (p.cons.map dC.enc)] 0,.i (n:Int)] (.agg (pE l (n/aQ l)).cs):=by
 have hlt:=hl.lt hn;have hia:=fun en=>rZ (l:=l) (en:=en) hlt
 have hnn:n/aQ l*aQ l=n:=Nat.div_mul_cancel (bV5 hm);have hmul:=hl.mul hn;rw[hnn]at hmul;have ht:=sY p l n n;rw[oH hlt];simp only[ply,hl.ev]at ht⊢
 refine pcA func49 ?_
 simp only[go_sem,kK,hl.ne,hl.div,hl.wdiv hn,hmul,kF]
 refine aH ?_
 simp only[go_sem,hl.ne,hl.div,hl.wdiv hn,hia,kA,kF];simp only[go_sem,ht.ret]
 refine zG (by simp only[go_sem];rfl) ?_
 rintro fr0 k hf hk
 rw[aW4]at hk;subst hk
 refine dP aJm rfl rfl ?_
 simp only[go_sem,kK,aJl,D_t (bSx n),kF]
 done
def aEp (w x:aA)(e:fB):Val:= .agg [.fz (w.objs.map aP.enc),.is w.tasks,.fz (w.outs.map bO.enc),.is w.ins,.i w.used,.fz (x.objs.map aP.enc),.is x.tasks,.fz (x.outs.map bO.enc),.is x.ins,.i x.used,.i e.task,.i e.act,.i e.n,.i e.v.kind,.i e.v.n]
def tU (p:aD)(l:bL)(t:Nat):Val:=aEp (atX p l t).1 (aW p l t).1 (aW p l t).2.1
def T3 :List Nat:=[5,7,8]
def aXy (c0:Nat->Nat)(en en':En):Prop:= ∀n t g,(n≠0 \/t∉T3 \/g<c0 t)->en' ⟨n,t,g⟩=en ⟨n,t,g⟩
variable {c0:Nat->Nat}
theorem aXy.trans {x y z:En}(h:aXy c0 x y)(h':aXy c0 y z):aXy c0 x z:=fun n t g k=>(h' n t g k).trans (h n t g k)
def aSu (c0:Nat->Nat)(I:En->(Nat->Nat->Nat)->Prop):Prop:= ∀en cnt en' cnt',I en cnt->aXy c0 en en'->(∀n t,n≠0 \/t∉T3->cnt' n t=cnt n t)->(∀t∈T3,cnt 0 t<=cnt' 0 t)->I en' cnt'
theorem yC (ht:t∈T3)(hg:c0 t<=g):aXy c0 en (en.set ⟨0,t,g⟩ e):=by
 intro n u g' h
 refine kG fun he=>?_
 injection he with h1 h2 h3
 rcases h with h|h|h
 ·exact h h1
 ·exact h (h2▸ht)
 ·subst h2;omega
theorem sB (h:(aW p l t).2.2=0):(atX p l t).2=0/\ (cV p (atX p l t).1 (iP l t)).2.2=0/\ aW p l t=cV p (atX p l t).1 (iP l t):=by
 unfold aW at h⊢
 by_cases h1:(atX p l t).2=0
 ·rw[if_pos h1]at h⊢
  by_cases h2:(cV p (atX p l t).1 (iP l t)).2.2=0
  ·rw[if_pos h2];exact⟨h1,h2,rfl⟩
  ·rw[if_neg h2]at h;exact absurd h h2
 ·rw[if_neg h1]at h;exact absurd h h1
theorem aIx (h1:(atX p l t).2=0)(h: ¬(aW p l t).2.2=0): ¬(cV p (atX p l t).1 (iP l t)).2.2=0/\ (aW p l t).2.2=(cV p (atX p l t).1 (iP l t)).2.2:=by
 unfold aW at h⊢;rw[if_pos h1]at h⊢
 by_cases h2:(cV p (atX p l t).1 (iP l t)).2.2=0
 ·rw[if_pos h2]at h;exact absurd h2 h
 ·rw[if_neg h2];exact⟨h2,rfl⟩
theorem aVw (h1: ¬(atX p l t).2=0):(aW p l t).2.2=(atX p l t).2:=by unfold aW;rw[if_neg h1]
theorem aY1 (hl:oS l)(h:(aW p l t).2.2=0):(atX p l (t+1)).2=0/\ ((t+1)%aQ l=0 \/(atX p l (t+1)).1=(aW p l t).1):=by
 obtain⟨h1,h2,h3⟩:=sB h
 by_cases hm:(t+1)%aQ l=0
 ·rw[xB hl.e1 hm];exact⟨rfl,.inl hm⟩
 ·rw[aN2 hl.e1 hm,if_pos h1,if_pos h2,h3];exact⟨rfl,.inr rfl⟩
theorem aHo (h:t<l.picks.length):iP l t=l.picks[t]:=by simp[iP,h]
theorem sC (h:iR p l=true)(hn:n<=l.picks.length)(he:(atX p l n).2=0):bJ p (atX p l n).1=true:=by
 have h1:=(qP h).1;have:=bEk (kN h1) h hn he;simp[bJ,h1,this]
theorem fC (hsp:aU p=true)(h:bJ p w=true):w.few:=by
 simp only[bJ,bSw]at h;exact vC (lB hsp h.2)
variable {a b u:Nat}
theorem bRf (h:n≠0 \/u∉T3):aC (aC cnt 0 7 a) 0 8 b n u=cnt n u:=by
 simp only[aC];rw[if_neg,if_neg]
 ·rintro⟨rfl,rfl⟩;rcases h with h|h
  ·exact h rfl
  ·exact h (by decide)
 ·rintro⟨rfl,rfl⟩;rcases h with h|h
  ·exact h rfl
  ·exact h (by decide)
theorem aK6 :cnt 0 u<=aC (aC cnt 0 7 (cnt 0 7+1)) 0 8 (cnt 0 8+1) 0 u:=by
 simp only[aC];split
 ·rename_i h;obtain⟨_,rfl⟩:=h;omega
 split
 ·rename_i h;obtain⟨_,rfl⟩:=h;omega
 ·exact bSx _
theorem aN6 (hpf:p.few)(hsp:aU p=true)(hok:iR p l=true){a b s:Nat}(has:a<=s)(hsb:s<=b)(hb:b<=l.picks.length)
  (hat:(atX p l a).2=0->PC L 49 [(ply p l),.i (a:Int)] (.agg (atX p l a).1.cs)) (hax: ¬(atX p l a).2=0->PX L 49 [(ply p l),.i (a:Int)] (aBb (atX p l a).2))
  {k:Key} {c0:Nat->Nat} {I:Nat->En->(Nat->Nat->Nat)->Prop} {R:Ex->St->Prop} (hst: ∀t,aSu c0 (I t))
  (hr: ∀t,a<=t->t<s->(aW p l t).2.2=0/\ ∀en cnt,I t en cnt->(∀u∈T3,c0 u<=cnt 0 u)->WIn L (.yld k) [.i (t:Int),tU p l t] en cnt fun v en' cnt'=>v= .bool true/\ I (t+1) en' cnt'/\ (∀u g,u∈T3->g<cnt 0 u->c0 u<=g->en' ⟨0,u,g⟩=en ⟨0,u,g⟩)/\ ∀u∈T3,cnt 0 u<=cnt' 0 u)
  (hfin: ∀en cnt,I s en cnt->(∀u∈T3,c0 u<=cnt 0 u)->(s=b/\ ∀e fr,e= .normal \/e= .ret->R e ⟨fr,en,cnt⟩) \/
   (s<b/\ (aW p l s).2.2=0/\ WIn L (.yld k) [.i (s:Int),tU p l s] en cnt fun v en' cnt'=>v= .bool false/\ ∀fr,R .ret ⟨fr,en',cnt'⟩) \/
   (s<b/\ ¬(aW p l s).2.2=0/\ ∀fr,R (.panic (aBb (aW p l s).2.2)) ⟨fr,en,cnt⟩))
  {en:En} {cnt:Nat->Nat->Nat} (h0:I a en cnt) (hc0: ∀u∈T3,c0 u<=cnt 0 u):
  Wp L aJl.body ⟨fun i=>[.yld k,.fp [.i (a:Int)] 0,.fp [.i (b:Int)] 0,.fp [(ply p l)] 0].getD i (.tup []),en,cnt⟩ R:=by
 have hl:=oS.of hok;simp only[go_sem,kK,aJl]
 by_cases hab:b<=a
 ·have:s=b:=by omega
  subst this;have:a=s:=by omega
  subst this;rcases hfin _ _ h0 hc0 with⟨_,h⟩|⟨h,_⟩|⟨h,_⟩
  ·simp only[go_sem,D_t hab];exact h _ _ (.inr rfl)
  ·omega
  ·omega
 simp only[go_sem,D_f hab]
 by_cases ha0:(atX p l a).2=0
 case neg=>
  have hs:s=a:=by
   rcases bT5 a s with h|h
   ·exact absurd (sB (hr a (bSx _) h).1).1 ha0
   ·omega
  subst hs;rcases hfin _ _ h0 hc0 with⟨h,_⟩|⟨_,h,_⟩|⟨_,_,h⟩
  ·omega
  ·exact absurd (sB h).1 ha0
  ·rw[aVw ha0]at h
   refine cR 2 rfl ?_
   simp only[go_sem,bS3,bS2,(hax ha0).ret];exact h _
 refine bS ?_
 simp only[go_sem,(hat ha0).ret,kF];obtain⟨g5,hg5⟩: ∃g,g=cnt 0 5:=⟨_,rfl⟩
 rw[<-hg5];have hc5:c0 5<=g5:=by rw[hg5];exact hc0 5 (by decide)
 refine bK s (fun t st=> ∃fr en cnt w,st=⟨fr,en,cnt⟩/\ fr 0= .yld k/\ fr 1= .fp [.i (a:Int)] 0/\ fr 2= .fp [.i (b:Int)] 0/\ fr 3= .fp [(ply p l)] 0/\ fr 5= .ptr ⟨0,5,g5⟩ 0/\ fr 6= .i (t:Int)/\ en ⟨0,5,g5⟩=some (.box w.cs false)/\ (t%aQ l=0 \/w=(atX p l t).1)/\ (atX p l t).2=0/\ I t en cnt/\ g5<cnt 0 5/\ a<=t/\ ∀u∈T3,c0 u<=cnt 0 u) a has ?_ ?_
 ·refine⟨_,_,_,(atX p l a).1,rfl,by simp only[go_sem],by simp only[go_sem],by simp only[go_sem],by simp only[go_sem],by simp only[go_sem],by simp only[go_sem],by simp only[go_sem],.inr rfl,ha0,?_,?_,bSx _,?_⟩
  ·refine hst a _ _ _ _ h0 ((yC (by decide) (by omega)).trans (yC (by decide) (by omega))) (fun n t h=>?_) (fun u hu=>?_)
   ·simp only[aC];split
    ·rename_i h';obtain⟨rfl,rfl⟩:=h';rcases h with h|h
     ·exact absurd rfl h
     ·exact absurd (by decide) h
    ·rfl
   ·simp only[aC];split
    ·rename_i h';obtain⟨_,rfl⟩:=h';omega
    ·exact bSx _
  ·simp only[aC];simp
  ·intro u hu;have:=hc0 u hu;simp only[aC];split
   ·rename_i h';obtain⟨_,rfl⟩:=h';omega
   ·exact this
 rintro t st hts ⟨fr,en,cnt,w,rfl,f0,f1,f2,f3,f5,f6,e5,hw,h0t,hI,hg,hta,hc⟩
 simp only[go_sem,kK,f6,f2]
 by_cases htb:t<b
 case neg=>
  have:s=b:=by omega
  subst this;have:t=s:=by omega
  subst this;simp only[go_sem,D_f htb];rcases hfin _ _ hI hc with⟨_,h⟩|⟨h,_⟩|⟨h,_⟩
  ·exact h _ _ (.inl rfl)
  ·omega
  ·omega
 have htp:t<l.picks.length:=by omega
 have hmk:=aIv (p:=p) (l:=l) t hl.e1 (by have:=hl.pk;omega) hl.ev
 have hgv:=sC hok (bU8 htp) h0t;obtain⟨y,hy⟩: ∃y,y=(atX p l t).1:=⟨_,rfl⟩
 rw[<-hy]at hw hgv
 by_cases hm:t%aQ l=0
 case' pos=>
  have hlt:=hl.lt (bU8 htp);have hia:=fun en=>rZ (l:=l) (en:=en) hlt
  have hwm:l.marks[t/aQ l]=y:=by rw[hy,xB hl.e1 hm,oH hlt]
  simp only[go_sem,kK,D_t htb,f3,f6,hmk.ret,D_t hm];simp only[go_sem,f5,hl.ev,hl.ne,hl.div,hl.wdiv (bU8 htp),hia,hwm,e5,kF];have e6:(en.set ⟨0,5,g5⟩ (some (.box y.cs false))) ⟨0,5,g5⟩=some (.box y.cs false):=by simp only[go_sem]
  have hI2:=hst t _ cnt _ cnt hI (yC (e:=some (.box y.cs false)) (t:=5) (g:=g5) (by decide) (by omega)) (fun _ _ _=>rfl) (fun _ _=>bSx _)
  generalize En.set en _ _=en1 at e6 hI2⊢
 case' neg=>
  simp only[go_sem,kK,D_t htb,f3,f6,hmk.ret,D_f hm];have e6:=e5;rw[hw.resolve_left hm]at e6;have hI2:=hI;generalize en=en1 at e6 hI2⊢
 all_goals
  clear e5 hI hw
  by_cases hk:(aW p l t).2.2=0
  case neg=>
   obtain⟨hb1,hb2⟩:=aIx h0t hk;rw[<-hy]at hb1 hb2;have hT:=xE p l y (iP l t) hpf (fC hsp hgv) hsp hgv hb1;rw[<-hb2,aHo htp]at hT;have:t=s:=by
    rcases bT5 t s with h|h
    ·exact absurd (hr t hta h).1 hk
    ·omega
   subst this
   refine mN 10 rfl rfl ?_
   simp only[go_sem,bS3,bS2,bUi,bUh,tE,f3,f5,f6,e6,htp,hT.ret,kA,kF]
   refine⟨rfl,?_⟩
   rcases hfin _ _ hI2 hc with⟨h,_⟩|⟨_,h,_⟩|⟨_,_,h⟩
   ·omega
   ·exact absurd h hk
   ·exact h _
  obtain⟨_,ht0,hta'⟩:=sB hk;rw[<-hy]at ht0 hta';have hT:=xD p l y (iP l t) hpf (fC hsp hgv) hsp hgv ht0;rw[<-hta',aHo htp]at hT;obtain⟨x,hx⟩: ∃x,x=(aW p l t).1:=⟨_,rfl⟩
  obtain⟨e,he⟩: ∃e,e=(aW p l t).2.1:=⟨_,rfl⟩
  rw[<-hx,<-he]at hT
  refine jY ?_
  simp only[go_sem,f0,f3,f5,f6,e6,htp,hT.ret,evV,kA,kF];have hc7:=hc 7 (by decide)
  have hc8:=hc 8 (by decide)
  generalize hE:En.set (En.set (En.set (En.set en1 _ _) _ _) _ _) _ _=E;have ho:aXy c0 en1 E:=by rw[<-hE];exact(((yC (by decide) hc7).trans (yC (by decide) hc8)).trans (yC (by decide) hc7)).trans (yC (by decide) hc8)
  have E5:E ⟨0,5,g5⟩=some (.box y.cs false):=by rw[<-hE];simp only[go_sem,e6]
  have E7:E ⟨0,7,cnt 0 7⟩=some (.box [.fz (x.objs.map aP.enc),.is x.tasks,.fz (x.outs.map bO.enc),.is x.ins,.i x.used] false):=by rw[<-hE];simp only[go_sem]
  have hI3:=hst t _ _ E (aC (aC cnt 0 7 (cnt 0 7+1)) 0 8 (cnt 0 8+1)) hI2 ho (fun n u h=>bRf h) (fun u _=>aK6)
  have hc3: ∀u∈T3,c0 u<=aC (aC cnt 0 7 (cnt 0 7+1)) 0 8 (cnt 0 8+1) 0 u:=fun u hu=>bS9 (hc u hu) aK6
  have hd:tU p l t=aEp y x e:=by rw[tU,hy,hx,he]
  rcases bT5 t s with hlt|hge
  ·have hrt:=(hr t hta hlt).2 _ _ hI3 hc3;rw[hd]at hrt
   refine WIn.mono hrt ?_
   rintro v en' cnt' ⟨rfl,hI4,hin,hcc⟩
   have q5:=(hin 5 g5 (by decide) (bTm hg aK6) hc5).trans E5
   have q7:=(hin 7 (cnt 0 7) (by decide) (by simp[aC]) hc7).trans E7
   obtain⟨hn0,hn1⟩:=aY1 hl hk;have hx1:(t+1)%aQ l=0 \/x=(atX p l (t+1)).1:=hn1.imp_right fun h=>by rw[hx,h]
   simp only[go_sem,kK,f5,f6,q5,q7,bS6]
   refine⟨hlt,_,_,_,x,rfl,?_⟩
   simp only[go_sem,f0,f1,f2,f3,f5,aR htp hl.few,hl.ev];exact⟨hx1,hn0,hst _ _ _ _ _ hI4 (yC (by decide) hc5) (fun _ _ _=>rfl) (fun _ _=>bSx _),bTm hg (bS9 aK6 (hcc 5 (by decide))),by omega,fun u hu=>bS9 (hc3 u hu) (hcc u hu)⟩
  ·have:t=s:=by omega
   subst this;rcases hfin _ _ hI3 hc3 with⟨h,_⟩|⟨_,_,hrt⟩|⟨_,h,_⟩
   ·omega
   ·rw[hd]at hrt
    refine WIn.mono hrt ?_
    rintro v en' cnt' ⟨rfl,hR⟩
    simp only[go_sem,kK,bTf];exact hR _
   ·exact absurd hk h
variable {m:Nat}
theorem aVx {e:Nat}(he:1<=e)(h: ¬(m+1)%e=0):(m+1)/e=m/e:=by
 rw[Nat.succ_div,if_neg (fun h'=>h (Nat.mod_eq_zero_of_dvd h')),bUk]
theorem aQp {e:Nat}(h:n%e=0):n/e*e=n:=Nat.div_mul_cancel (bV5 h)
theorem aXz {p:aD}{l:bL}(hl:oS l): ∀n,(atX p l n).2=0-> ∀t,n/aQ l*aQ l<=t->t<n->(aW p l t).2.2=0
 |0,_,t,_,h=>by omega
 |m+1,h0,t,h1,h2=>by
  by_cases hm:(m+1)%aQ l=0
  ·rw[aQp hm]at h1;omega
  ·rw[aN2 hl.e1 hm]at h0
   by_cases ha:(atX p l m).2=0
   ·rw[if_pos ha]at h0
    by_cases ht:(cV p (atX p l m).1 (iP l m)).2.2=0
    ·rcases bT5 t m with h|h
     ·exact aXz hl m ha t (by rw[<-aVx hl.e1 hm];exact h1) h
     ·obtain rfl:t=m:=by omega
      unfold aW;rw[if_pos ha,if_pos ht];exact ht
    ·rw[if_neg ht]at h0;exact absurd h0 ht
   ·rw[if_neg ha]at h0;exact absurd h0 ha
theorem aY2 {p:aD}{l:bL}(hl:oS l): ∀n,¬(atX p l n).2=0-> ∃s,n/aQ l*aQ l<=s/\ s<n/\ (∀t,n/aQ l*aQ l<=t->t<s->(aW p l t).2.2=0)/\ ¬(aW p l s).2.2=0/\ (aW p l s).2.2=(atX p l n).2
 |0,h=>by rw[xB hl.e1 (Nat.zero_mod _)]at h;exact absurd rfl h
 |m+1,h0=>by
  by_cases hm:(m+1)%aQ l=0
  ·rw[xB hl.e1 hm]at h0;exact absurd rfl h0
  ·have hd:=aVx hl.e1 hm;have hle:=bWd m (aQ l);rw[hd];have hs:=aN2 (p:=p) hl.e1 hm;rw[hs]at h0⊢
   by_cases ha:(atX p l m).2=0
   ·rw[if_pos ha]at h0⊢
    by_cases ht:(cV p (atX p l m).1 (iP l m)).2.2=0
    ·rw[if_pos ht]at h0;exact absurd rfl h0
    ·rw[if_neg ht]at h0⊢;have hk:(aW p l m).2.2=(cV p (atX p l m).1 (iP l m)).2.2:=by unfold aW;rw[if_pos ha,if_neg ht]
     exact⟨m,hle,by omega,aXz hl m ha,by rw[hk];exact ht,hk⟩
   ·rw[if_neg ha]at h0⊢;obtain⟨s,h1,h2,h3,h4,h5⟩:=aY2 hl m ha;exact⟨s,h1,by omega,h3,h4,h5⟩
def AtI (p:aD)(l:bL)(fr0:Nat->Val)(t:Nat)(en:En)(_:Nat->Nat->Nat):Prop:=
 (∃fr1,en ⟨1,0,0⟩=some (.loop fr1 [40,41] (bB.ops [o 8 (.alloc [.cl [],.cl [],.cl [],.cl [],.i 0,.cl [],.cl [],.cl [],.cl [],.i 0,.i 0,.i 0,.i 0,.i 0,.i 0]),sT 15 8 41]) (bB.block 1 (.ops [fA 42 5 8,lT 43 5 42,sT 5 6 43])) .ready)/\ fr1 6=fr0 6)/\ en ⟨0,4,0⟩=some (.box [.cl [],.cl [],.cl [],.cl [],.i 0] false)/\ ∃w,en ⟨0,6,0⟩=some (.box [.fz (w.objs.map aP.enc),.is w.tasks,.fz (w.outs.map bO.enc),.is w.ins,.i w.used] false)/\ w=(atX p l t).1
variable {fr0:Nat->Val}
theorem bEm (t:Nat):aSu (fun _=>0) (AtI p l fr0 t):=by
 rintro en cnt en' cnt' ⟨⟨fr1,h1,hf⟩,h2,w,h3,h4⟩ ho _ _
 exact⟨⟨fr1,(ho 1 0 0 (.inl (by decide))).trans h1,hf⟩,(ho 0 4 0 (.inr (.inl (by decide)))).trans h2,w,(ho 0 6 0 (.inr (.inl (by decide)))).trans h3,h4⟩
theorem bEn (hf:fr0 6= .ptr ⟨0,6,0⟩ 0)(hn:(atX p l (t+1)).1=(aW p l t).1)(hI:AtI p l fr0 t en cnt):
  WIn L (.yld ⟨1,0,0⟩) [.i (t:Int),tU p l t] en cnt fun v en' cnt'=>v= .bool true/\ AtI p l fr0 (t+1) en' cnt'/\ (∀u g,u∈T3->g<cnt 0 u->0<=g->en' ⟨0,u,g⟩=en ⟨0,u,g⟩)/\ ∀u∈T3,cnt 0 u<=cnt' 0 u:=by
 obtain⟨⟨fr1,h1,hf1⟩,h2,w,h3,h4⟩:=hI;rw[hf]at hf1
 refine aKy (fr:=fr1) (ps:=[40,41]) (a:=(bB.ops [o 8 (.alloc [.cl [],.cl [],.cl [],.cl [],.i 0,.cl [],.cl [],.cl [],.cl [],.i 0,.i 0,.i 0,.i 0,.i 0,.i 0]),sT 15 8 41])) (b:=(bB.block 1 (.ops [fA 42 5 8,lT 43 5 42,sT 5 6 43]))) h1 rfl ?_
 simp only[go_sem,tU,aEp,hf1,h1,h3]
 refine⟨⟨⟨_,by simp only[go_sem];rfl,?_⟩,by simp only[go_sem,h2],_,by simp only[go_sem],hn.symm⟩,fun u g hu hg _=>?_,fun u hu=>?_⟩
 ·simp only[go_sem,hf,hf1]
 ·simp only[T3,bTp,bU9,or_false]at hu;rcases hu with rfl|rfl|rfl
  ·simp only[go_sem]
  ·simp only[go_sem]
  ·simp only[go_sem,show¬g=cnt 0 8 by omega]
 ·simp only[aC];split
  ·rename_i h;obtain⟨_,rfl⟩:=h;omega
  ·exact bSx _
theorem aBc (hpf:p.few)(hsp:aU p=true)(hok:iR p l=true)(hn:n<=l.picks.length):
  ((atX p l n).2=0->PC L 49 [.fp [.i l.every,.is l.picks,.fz (l.marks.map aA.enc),.fz (p.nodes.map aL.enc),.fz (p.funs.map (.int .i64)),.i p.main,.fz (p.cons.map dC.enc)] 0,.i (n:Int)] (.agg (atX p l n).1.cs))/\ (¬(atX p l n).2=0->PX L 49 [.fp [.i l.every,.is l.picks,.fz (l.marks.map aA.enc),.fz (p.nodes.map aL.enc),.fz (p.funs.map (.int .i64)),.i p.main,.fz (p.cons.map dC.enc)] 0,.i (n:Int)] (aBb (atX p l n).2)):=by
 have hl:=oS.of hok;obtain⟨a,ha⟩: ∃a,a=n/aQ l*aQ l:=⟨_,rfl⟩
 have han:a<=n:=by rw[ha];exact bWd ..
 have hma:a%aQ l=0:=by rw[ha];exact Nat.mul_mod_left ..
 have hlt:=hl.lt hn;have hia:=fun en=>rZ (l:=l) (en:=en) hlt
 have hmul:=hl.mul hn;rw[<-ha]at hmul;have ht:=sY p l a n;have hda:a/aQ l=n/aQ l:=by rw[ha];exact Nat.mul_div_cancel _ (by have:=hl.e1;omega)
 have hma0:=xB (p:=p) hl.e1 hma;have hat:=aXx (p:=p) hl (bS9 han hn) hma;rw[hda]at hma0 hat;rw[oH hlt]at hma0 hat;have hmw:l.marks[n/aQ l]=(atX p l a).1:=by rw[hma0]
 have hnx: ∀t,a<=t->t<n->(aW p l t).2.2=0->(atX p l (t+1)).1=(aW p l t).1:=fun t h1 h2 h0=>by
  rcases(aY1 hl h0).2 with h|h
  ·exfalso
   have h3:(t+1)/aQ l*aQ l=t+1:=aQp h;have h4:(t+1)/aQ l<=n/aQ l:=bWe h2;have h5:=bT8 (aQ l) h4;rw[h3,<-ha]at h5;omega
  ·exact h
 rw[hmw]at hat hia;have hT:=fun fr0 (hf:fr0 6= .ptr ⟨0,6,0⟩ 0) R s (h1:a<=s) (h2:s<=n) (h3: ∀t,a<=t->t<s->(aW p l t).2.2=0)=>aN6 (R:=R) (k:=⟨1,0,0⟩) (c0:=fun _=>0) (I:=AtI p l fr0) hpf hsp hok h1 h2 hn (fun _=>hat) (fun h=>absurd (by rw[hma0]) h) bEm
  (fun t q1 q2=>⟨h3 t q1 q2,fun en cnt hI _=>bEn hf (hnx t q1 (bTm q2 h2) (h3 t q1 q2)) hI⟩)
 simp only[ply,hl.ev]at ht hat hT⊢
 refine⟨fun h0=>?_,fun h0=>?_⟩
 ·refine pcA func49 ?_
  simp only[go_sem,kK,hl.ne,hl.div,hl.wdiv hn,hmul,kF]
  refine aH ?_
  simp only[go_sem,hl.ne,hl.div,hl.wdiv hn,hia,kA,kF];simp only[go_sem,ht.ret]
  refine zG (by simp only[go_sem];rfl) ?_
  rintro fr0 k hf hk
  obtain rfl:k=⟨1,0,0⟩:=hk
  refine dP aJm rfl rfl ?_
  refine hT fr0 (by rw[hf];simp only[go_sem]) _ n han (bSx n) (fun t h1 h2=>aXz hl n h0 t (by rw[<-ha];exact h1) h2) (fun en cnt hI _=> .inl ⟨rfl,fun e fr he=>?_⟩) ?_ (fun _ _=>bS4 _)
  ·obtain⟨⟨fr1,i1,_⟩,i4,w,i6,rfl⟩:=hI
   refine⟨by rcases he with rfl|rfl<;>rfl,?_⟩
   simp only[go_sem,aJl,i1,i4,i6]
  ·refine⟨⟨_,by simp only[go_sem],rfl⟩,by simp only[go_sem],_,by simp only[go_sem],rfl⟩
 ·obtain⟨s,h1,h2,h3,h4,h5⟩:=aY2 hl n h0;rw[<-ha]at h1 h3
  refine pxA func49 ?_
  simp only[go_sem,kK,hl.ne,hl.div,hl.wdiv hn,hmul,kF]
  refine aH ?_
  simp only[go_sem,hl.ne,hl.div,hl.wdiv hn,hia,kA,kF];simp only[go_sem,ht.ret]
  refine aIe (by simp only[go_sem];rfl) ?_
  rintro fr0 k hf hk
  obtain rfl:k=⟨1,0,0⟩:=hk
  refine jK aJm rfl rfl ?_
  refine hT fr0 (by rw[hf];simp only[go_sem]) _ s h1 (bU8 h2) h3 (fun en cnt hI _=> .inr (.inr ⟨h2,h4,fun fr=>?_⟩)) ?_ (fun _ _=>bS4 _)
  ·rw[h5]
   done
  ·refine⟨⟨_,by simp only[go_sem],rfl⟩,by simp only[go_sem],_,by simp only[go_sem],rfl⟩
theorem aN7 (hpf:p.few)(hsp:aU p=true)(hok:iR p l=true)(ht:t<l.picks.length):
  ((aW p l t).2.2=0->PC L 57 [(ply p l),.i (t:Int)] (tU p l t))/\ (¬(aW p l t).2.2=0->PX L 57 [(ply p l),.i (t:Int)] (aBb (aW p l t).2.2)):=by
 have hl:=oS.of hok;obtain⟨ha1,ha2⟩:=aBc hpf hsp hok (bU8 ht)
 refine⟨fun h0=>?_,fun h0=>?_⟩
 ·obtain⟨h1,h2,h3⟩:=sB h0;have hgv:=sC hok (bU8 ht) h1;have hT:=xD p l (atX p l t).1 (iP l t) hpf (fC hsp hgv) hsp hgv h2;rw[<-h3,aHo ht]at hT
  refine pcA func57 ?_
  simp only[go_sem,kK]
  refine bS ?_
  simp only[go_sem,(ha1 h1).ret,kF]
  refine jY ?_
  simp only[go_sem,ht,hT.ret,evV,kA,kF];simp only[go_sem,tU,aEp]
 ·refine pxA func57 ?_
  simp only[go_sem,kK]
  by_cases h1:(atX p l t).2=0
  ·obtain⟨h2,h3⟩:=aIx h1 h0;have hgv:=sC hok (bU8 ht) h1;have hT:=xE p l (atX p l t).1 (iP l t) hpf (fC hsp hgv) hsp hgv h2;rw[<-h3,aHo ht]at hT
   refine bS ?_
   simp only[go_sem,(ha1 h1).ret,kF]
   refine mN 10 rfl rfl ?_
   simp only[go_sem,bS3,bS2,bUi,bUh,tE,ht,hT.ret,kA,kF];rfl
  ·rw[aVw h1]
   refine cR 2 rfl ?_
   simp only[go_sem,bS3,bS2,(ha2 h1).ret]
set_option maxRecDepth 100000
set_option maxHeartbeats 4000000
theorem lQ (p:aD)(l:bL):aIu p l=iR p l:=by
 rw[bUu];simp only[aIu,iR,bJ,inR,aQ,bSw,bUb,Bool.or_eq_false_iff,Bool.not_eq_false',bWo,bWp,bS5];constructor
 ·rintro⟨⟨⟨⟨h1,h2⟩,h3⟩,h4⟩,h5⟩
  have hd:(l.marks.length:Int)=((l.picks.length/l.every.toNat+1:Nat):Int):=by
   rw[h4,bWm (by omega)]
   have:l.every=(l.every.toNat:Int):=by omega
   rw[this];rfl
  have hl:l.marks.length=l.picks.length/l.every.toNat+1:=by exact_mod_cast hd
  have hne:l.marks≠[]:=by intro h;rw[h]at hl;simp at hl
  obtain⟨w,hw⟩:=List.exists_mem_of_ne_nil _ hne;exact⟨⟨⟨⟨(h5 w hw).1,by omega⟩,by omega⟩,D_t hl⟩,fun w hw=>(h5 w hw).2⟩
 ·rintro⟨⟨⟨⟨h1,h2⟩,h3⟩,h4⟩,h5⟩
  refine⟨⟨⟨⟨by omega,by omega⟩,by omega⟩,?_⟩,fun w hw=>⟨h1,h5 w hw⟩⟩
  rw[D_o h4,bWm (by omega)]
  have:l.every=(l.every.toNat:Int):=by omega
  rw[this];rfl
def xF (p:aD)(l:bL)(t:Nat):Prop:=(t+1)%aQ l=0/\ ¬(aW p l t).1=pE l ((t+1)/aQ l)
instance (p :aD)(l:bL)(t:Nat):Decidable (xF p l t):=by unfold xF;exact inferInstance
def atR (p:aD)(l:bL)(n:Int):aA×Int×Int:=
 if iR p l=true/\ 0<=n/\ n<=(l.picks.length:Int)then(if(atX p l n.toNat).2=0 then((atX p l n.toNat).1,n%(aQ l:Int),0)else(tR,0,(atX p l n.toNat).2))else(tR,0,2)
theorem tV (hsp:aU p=true)(h:bJ p w=true):bZ w=true:=by
 simp only[bJ,bSw]at h;exact lB hsp h.2
noncomputable def c46 :{c//L 46=some c}:=cA func46
theorem aBd (hpf:p.few)(hlf:l.few)(hsp:aU p=true)(n:Int):PC L 12 [.agg p.cs,.agg l.cs,.i n] (.tup [.agg (atR p l n).1.cs,.i (atR p l n).2.1,.i (atR p l n).2.2]):=by
 unfold atR
 refine pcA func12 ?_
 simp only[go_sem,kK,kF]
 refine wZ ?_
 simp only[go_sem,kK]
 by_cases hok:iR p l=true
 case neg=>
  rw[if_neg (fun h=>hok h.1)]
  refine cR 2 rfl ?_
  simp only[go_sem,bS3,bS2,(qR p l hpf hlf hsp (by rw[lQ];simpa using hok)).ret]
  refine⟨rfl,bI (x:= .i 0) rfl ?_⟩
  refine dP c46.2 rfl rfl ?_
  simp only[go_sem,c46];rfl
 have hl:=oS.of hok;have hP:=qQ p l hpf hlf hsp (by rw[lQ];exact hok)
 refine bS ?_
 simp only[go_sem,hP.ret,kF]
 by_cases hn:0<=n
 case neg=>
  rw[if_neg (fun h=>hn h.2.1)]
  refine cR 9 rfl ?_
  simp only[go_sem,kK,bS3,bS2,D_f hn,(bR _).ret]
  refine⟨rfl,bI (x:= .i 0) rfl ?_⟩
  refine dP c46.2 rfl rfl ?_
  simp only[go_sem,c46];rfl
 by_cases hn2:n<=(l.picks.length:Int)
 case neg=>
  rw[if_neg (fun h=>hn2 h.2.2)]
  refine cR 9 rfl ?_
  simp only[go_sem,kK,bS3,bS2,D_t hn,D_f hn2,bSy,(bR _).ret]
  refine⟨rfl,bI (x:= .i 0) rfl ?_⟩
  refine dP c46.2 rfl rfl ?_
  simp only[go_sem,c46];rfl
 rw[if_pos ⟨hok,hn,hn2⟩]
 refine bS ?_
 simp only[go_sem,kK,D_t hn,D_t hn2,bSy,(dI _).ret,kF];obtain⟨m,rfl⟩:=bTs hn;rw[bTt];have hm:m<=l.picks.length:=by omega
 obtain⟨ha1,ha2⟩:=aBc hpf hsp hok hm
 by_cases h0:(atX p l m).2=0
 ·rw[if_pos h0];have hgv:=sC hok hm h0;have hc:=sA (atX p l m).1 (fC hsp hgv) (tV hsp hgv);have hA:=ha1 h0;simp only[hl.ev]at hA
  refine jY ?_
  simp only[go_sem,hA.ret,hc.ret,hl.ev,hl.ne,Int.tmod_eq_emod_of_nonneg hn,kA,kF]
  refine⟨rfl,eN rfl ?_⟩
  simp only[go_sem]
 ·rw[if_neg h0];have hA:=ha2 h0;simp only[hl.ev]at hA
  refine bC7 2 [mT 24 9,mT 25 2,aBz,aBz,mT 28 2,fA 29 0 4,l1 30 29,bN 31 .rem (.t 28) (.t 30),aBz,aBz,aBz] rfl rfl ?_ ?_
  ·simp only[go_sem,bS3,bS2,hA.ret,hl.ev]
  ·simp only[go_sem,bS3,bS2,hA.ret,aBz,hl.ev,hl.ne,Int.tmod_eq_emod_of_nonneg hn,kA,kF]
   refine⟨rfl,rfl,bI (x:= .i 0) rfl ?_⟩
   refine dP c46.2 rfl rfl ?_
   simp only[go_sem,c46];rfl
def zZ (act:Int):Prop:=act=17 \/act=18 \/act=22 \/act=23 \/act=20
instance {act :Int}:Decidable (zZ act):=by unfold zZ;infer_instance
variable {env:List aE}{left:List aB}{node op:Int}{v:aE}
variable {k:aA->aE->OpR}
variable {c:Prop}{x y:OpR}
theorem aV0 {k:Int}(h:cG w v k=true):v.kind=5:=by simp only[cG,bSw,bWo]at h;exact h.1
theorem xG {pick:Int}(h:(cV p w pick).2.2=0):(aJ p w 0).2.2=true/\ inR (fY p (aJ p w 0).1 pick) 0 (((aJ p w 0).1.tasks.length:Int)-1)=true/\
  (cV p w pick).2.1=(aM p (aJ p w 0).1 (fY p (aJ p w 0).1 pick)).e/\ ¬(aM p (aJ p w 0).1 (fY p (aJ p w 0).1 pick)).what=2:=by
 have h0:(fE p w pick).2.2.2=0:=by
  unfold cV at h;simp only at h
  split at h
  ·cases h
  split at h
  ·assumption
  ·exact h
 have h1:(cV p w pick).2.1=(fE p w pick).2.1:=by
  unfold cV;simp only;rw[if_neg (by rw[h0];decide),if_pos h0]
 rw[h1];unfold fE at h0⊢
 simp only at h0⊢
 split at h0
 ·cases h0
 rename_i hs;rw[if_neg hs]
 split at h0
 ·cases h0
 rename_i hr;rw[if_neg hr]
 split at h0
 ·cases h0
 rename_i hq;rw[if_neg hq];have hlen:0<(dS p (aJ p w 0).1).length:=bV1.2 hr;have hm:fY p (aJ p w 0).1 pick∈dS p (aJ p w 0).1:=by
  unfold fY;have:(pick%((dS p (aJ p w 0).1).length:Int)).toNat<(dS p (aJ p w 0).1).length:=by
   have:=Int.emod_nonneg pick (b:=((dS p (aJ p w 0).1).length:Int)) (by omega)
   have:=Int.emod_lt_of_pos pick (b:=((dS p (aJ p w 0).1).length:Int)) (by omega)
   omega
  rw[bSz,bTy this];exact bS7 _
 refine⟨by simpa using hs,?_,rfl,?_⟩
 ·simp only[dS,gW,bTu,bUl,bTx]at hm;obtain⟨i,⟨hi,_⟩,he⟩:=hm;rw[<-he];simp[inR];omega
 ·simp only[dS,gW,bTu,bUl,bTx]at hm;obtain⟨i,⟨_,hi⟩,he⟩:=hm;rw[<-he]
  simpa using hi
theorem xH {a:Int}(ha:inR a 0 ((w.tasks.length:Int)-1)=true):aX w a∈w.tasks:=by
 simp only[inR,bWo]at ha;unfold aX;rw[bSz,bTy (by omega)]
 exact bS7 _
def aO8 (p:aD)(w:aA)(e:fB):Int:=
 if zZ e.act then aC6 (aJ p w 0).1 e.task else if e.act=16 \/e.act=21 \/e.act=19 then((aJ p w 0).1.objs.length:Int)else-1
theorem aK7 {o:aP}(hv:v∈nY o)(h5:v.kind=5):v.n∈wI o:=by
 have hr:aJq v=true:=D_t h5;unfold nY at hv;unfold wI;rcases bTn.1 hv with hv|hv
 ·exact bVb _ (aCx hv hr)
 ·obtain⟨f,hf,hv⟩:=bUa.1 hv
  refine bUn _ (bUa.2 ⟨f,hf,?_⟩)
  unfold zL;rcases bTn.1 hv with hv|hv
  ·exact bVb _ (aCx hv hr)
  ·exact bUn _ (aCx hv hr)
def lD (p:aD)(l:bL)(object:Int)(t:Nat):Prop:=((aW p l t).2.1.act=16 \/(aW p l t).2.1.act=18)/\ aO8 p (atX p l t).1 (aW p l t).2.1=object
instance {p :aD}{l:bL}{object:Int}{t:Nat}:Decidable (lD p l object t):=by unfold lD;infer_instance
def bNa :fR:={np:=3,res:=[.cell 6 true 5,.tmp 7],keep:=false,body:=
 (.seq (.ops [bX 4 5 1,
 o 6 (.alloc [(.cl []),(.cl []),(.cl []),(.cl []),(.int .i64 0)]),
 mC 7 (.int .i64 0)])
 (.seq (.ops [mC 8 (.int .i64 0)])
 (.seq .skip
 (.seq (.block 0 (.loop (.seq (.seq (.ops [mT 12 8,
 fA 13 1 4,
 l1 14 13,
 lN 15 14,
 bN 16 .lss (.t 12) (.t 15)])
 (.cond (.t 16)
 .skip
 (.exit 0)))
 (.block 1 (.seq (.draw [mT 18 0,
 nK 19 18,
 fA 20 3 19,
 lT 21 4 20,
 lT 22 5 4,
 mT 23 8,
 cL 24 79 [(.t 21),(.t 22),(.t 23)],
 mT 17 24,
 o 25 (.ext 0 (.t 17)),
 o 26 (.ext 1 (.t 17)),
 o 27 (.ext 2 (.t 17)),
 o 9 (.alloc [(.cl []),(.cl []),(.cl []),(.cl []),(.int .i64 0)]),
 o 10 (.alloc [(.int .i64 0),(.int .i64 0),(.int .i64 0),(.int .i64 0),(.int .i64 0)]),
 sT 5 9 25,
 sT 5 10 26,
 mT 11 27]
 [(3,11),(4,11),(6,11),(3,12),(4,12),(6,12),(11,12)])
 (.seq (.block 2 (.seq (.ops [mT 29 11,
 bN 30 .neq (.t 29) (cI 0),
 mT 31 30,
 gT 32 31 false 5 10,
 og 33 31 false (.build [(.int .i64 0),(.int .i64 0),(.int .i64 0),(.int .i64 0),(.int .i64 0)] []),
 og 34 31 false (.bin .neq (.agg [.num,.num,.num,.num,.num]) (.t 32) (.t 33)),
 pO 35 31 34,
 mT 28 35])
 (.cond (.t 28)
 (.seq (.ops [mT 36 8,
 bN 37 .add (.t 36) (cI 1),
 mT 8 37])
 (.exit 1))
 (.seq (.ops [mT 39 2,
 bN 40 .eql (.t 39) (cI 0),
 mT 38 40])
 (.cond (.t 38)
 (.exit 0)
 .skip)))))
 (.seq (.ops [lT 41 5 9,
 sT 5 4 41])
 (.ops [mT 42 2,
 bN 43 .sub (.t 42) (cI 1),
 mT 2 43]))))))))
 (.seq (.ops [lT 44 5 4,
 mT 45 2,
 sT 5 6 44,
 mT 7 45])
 .ret)))))}
theorem bRg :L 78=some bNa:=by kernel_rfl
theorem nM {p:aD}: ∀(n a:Nat) (w:aA),bQ p n a w 0=(w,0)
 |0,_,_=>rfl
 |n+1,a,w=>by
  rw[bQ];split
  ·exact nM n (a+1) w
  ·rfl
variable {s:Nat}
theorem aO9 (ha:a<w.tasks.length)(h: ¬(aM p w a).what=0):bQ p (n+1) a w s=bQ p n (a+1) w s:=by
 rw[bQ,if_pos ha];cases s with
 |zero=>rfl
 |succ s=>rw[fQ,if_neg h]
theorem aPa (ha:a<w.tasks.length)(h:(aM p w a).what=0)(ht:(aM p w a).w.tasks=w.tasks):bQ p (n+1) a w (s+1)=bQ p (n+1) a (aM p w a).w s:=by
 rw[bQ,bQ,if_pos ha,if_pos (by rw[ht];exact ha),fQ,if_pos h]
theorem aSv (ha: ¬a<w.tasks.length):bQ p n a w s=(w,s):=by
 cases n with
 |zero=>rfl
 |succ n=>rw[bQ,if_neg ha]
theorem oI (h:bJ p w=true)(ha:a<w.tasks.length):bJ p (aM p w a).w=true/\ ((aM p w a).what=0->(aM p w a).e=eM/\ (aM p w a).w.tasks=w.tasks)/\
  ((aM p w a).what=1->(aM p w a).e.task=(a:Int)/\ (¬(aM p w a).e.act=0 \/ ¬(aM p w a).e.n=0))/\ ((aM p w a).what=0 \/(aM p w a).what=1 \/(aM p w a).what=2):=by
 simp only[bJ,bSw]at h⊢;have hi:inR (a:Int) 0 ((w.tasks.length:Int)-1)=true:=by simp[inR];omega
 have hti:=qN _ _ (by have:=(cH.1 h.2).2.2.2.2.1;simp only[gS,bSw]at this;exact this.2) (aX w a) (xH hi)
 have h0:0<=aX w a:=by have:=hti.1;simp only[inR,bWo]at this;exact this.1
 obtain⟨c1,c2,c3,_⟩:=sR (p:=p) h0 hi;exact⟨⟨h.1,(kO (kN h.1) (sX h.2) hi).ok⟩,fun hw=>⟨(c1 hw).1,(c1 hw).2.1⟩,c2,c3⟩
theorem bEv {a b c d f:Int}:cW .neq (.agg [.num,.num,.num,.num,.num]) (.agg [.i a,.i b,.i c,.i d,.i f]) (.agg [.i 0,.i 0,.i 0,.i 0,.i 0])=
  some (.bool (!(decide (a=0)&&decide (b=0)&&decide (c=0)&&decide (d=0)&&decide (f=0)))):=by
 simp only[cW,oU,bS8,bTd,and_self,if_true,jJ,vH];have e: ∀x:Int,(x==0)=decide (x=0):=fun x=>by by_cases h:x=0<;>simp[h]
 simp only[e]
 by_cases h1:a=0<;>by_cases h2:b=0<;>by_cases h3:c=0<;>by_cases h4:d=0<;>by_cases h5:f=0<;>simp[h1,h2,h3,h4,h5]
theorem aEq (hpf:p.few)(hsp:aU p=true)(hw:bJ p w=true)(hs:s<=9223372036854775807):
  PC L 78 [(ply p l),.agg w.cs,.i (s:Int)] (.tup [.agg (dK p w s).1.cs,.i ((dK p w s).2:Int)]):=by
 refine cD bRg rfl rfl ?_
 simp only[go_sem,kK,bNa,kF]
 refine Go.Abs.wp_loop (fun(x:Nat×aA×Nat) (st:St)=> ∃fr en cnt,st=⟨fr,en,cnt⟩/\ fr 0=(ply p l)/\ fr 4= .ptr ⟨0,4,0⟩ 0/\ fr 6= .ptr ⟨0,6,0⟩ 0/\ fr 8= .i (x.1:Int)/\ fr 2= .i (x.2.2:Int)/\ en ⟨0,4,0⟩=some (.box [.fz (x.2.1.objs.map aP.enc),.is x.2.1.tasks,.fz (x.2.1.outs.map bO.enc),.is x.2.1.ins,.i x.2.1.used] false)/\
   bJ p x.2.1=true/\ x.1<=x.2.1.tasks.length/\ x.2.1.tasks.length<=120/\ x.2.2<=s/\ bQ p (121-x.1) x.1 x.2.1 x.2.2=dK p w s/\ en ⟨0,6,0⟩=some (.box [.cl [],.cl [],.cl [],.cl [],.i 0] false)) (fun x=>(121-x.1)*(s+1)+x.2.2) (0,w,s) ?_ ?_
 ·refine⟨_,_,_,rfl,by simp only[go_sem],by simp only[go_sem],by simp only[go_sem],by simp only[go_sem],by simp only[go_sem],by simp only[go_sem],hw,bS4 _,?_,bSx _,rfl,by simp only[go_sem]⟩
  simp only[bJ,bSw]at hw;have:=(cH.1 hw.2);exact bS9 (wU this.2.2.2.2.1) this.1
 rintro⟨a,y,r⟩ st ⟨fr,en,cnt,rfl,f0,f4,f6,f8,f2,e4,hg,ha,hl,hr,hI,e6⟩
 simp only at f8 f2 e4 hg ha hl hr hI
 simp only[go_sem,kK,f4,f8,e4]
 by_cases hat:a<y.tasks.length
 case neg=>
  rw[aSv hat]at hI;rw[<-hI];simp only[go_sem,D_f hat,f4,f6,f2,e4,e6]
  skip
 simp only[go_sem,D_t hat];obtain⟨g1,g2,g3,g4⟩:=oI hg hat;have hi:inR (a:Int) 0 ((y.tasks.length:Int)-1)=true:=by simp[inR];omega
 have hS:=aHj p y (a:Int) hpf (fC hsp hg) hsp;obtain⟨q,hq⟩: ∃q,q=aHi p y (a:Int):=⟨_,rfl⟩
 rw[<-hq]at hS
 refine aH ?_
 simp only[go_sem,kK,f0,f4,f8,e4,evV,hS.ret,kA,kF];have hsm:aHi p y (a:Int)=if(aM p y a).what=2 then(rX,eM,5)else((aM p y a).w,(aM p y a).e,0):=by unfold aHi;rw[if_pos ⟨hg,hi⟩]
 rw[hsm]at hq
 by_cases h0:(aM p y a).what=0
 case neg=>
  by_cases h2:(aM p y a).what=2
  case' pos=>
   rw[if_pos h2]at hq;rw[hq];simp only[go_sem,kK,f8,kF]
  case' neg=>
   rw[if_neg h2]at hq;rw[hq];simp only[go_sem,kK]
  case' neg=>
   obtain⟨c1,c2⟩:=g3 (g4.resolve_left h0|>.resolve_right h2)
   have hne:(decide ((aM p y (a:Int)).e.task=0)&&decide ((aM p y (a:Int)).e.act=0)&&decide ((aM p y (a:Int)).e.n=0)&&decide ((aM p y (a:Int)).e.v.kind=0)&&decide ((aM p y (a:Int)).e.v.n=0))=false:=by
    rcases c2 with h|h<;>simp[h]
   simp only[go_sem,kK,bEv,hne,f8,bTf,kF]
  all_goals
   refine⟨(a+1,y,r),⟨_,_,_,rfl,by simp only[go_sem,f0],by simp only[go_sem,f4],by simp only[go_sem,f6],?_,by simp only[go_sem,f2],by simp only[go_sem,e4],hg,show a+1<=_ from hat,hl,hr,?_,by simp only[go_sem,e6]⟩,?_⟩
   ·simp only[go_sem];rw[aV (by omega)];simp
   ·rw[<-hI,show 121-a=(121-(a+1))+1 by omega,aO9 hat h0]
   ·show(121-(a+1))*(s+1)+r<(121-a)*(s+1)+r;exact Nat.add_lt_add_right (Nat.mul_lt_mul_of_pos_right (by omega) (Nat.succ_pos s)) r
 have h2: ¬(aM p y (a:Int)).what=2:=by omega
 rw[if_neg h2]at hq;obtain⟨c1,c2⟩:=g2 h0;rw[hq];simp only[go_sem,kK,f2,c1,eM,iV,bEv,decide_true,bUc,bS6,kF];cases r with
 |zero=>
  have hz:decide (((0:Nat):Int)=0)=true:=rfl;rw[nM]at hI;rw[<-hI];simp only[go_sem,f4,f6,f2,e4,e6,kF]
 |succ r=>
  have hz:decide (((r+1:Nat):Int)=0)=false:=D_f (by omega)
  simp only[go_sem,hz,f4,f2,e4];have hw1:IntKind.i64.wrap (((r+1:Nat):Int)-1)=(r:Int):=by rw[aV (by omega)];omega
  simp only[go_sem,hw1]
  refine⟨(a,(aM p y (a:Int)).w,r),⟨_,_,_,rfl,by simp only[go_sem,f0],by simp only[go_sem,f4],by simp only[go_sem,f6],by simp only[go_sem,f8],by simp only[go_sem],by simp only[go_sem],g1,?_,?_,(show r<=s by omega),?_,by simp only[go_sem,e6]⟩,?_⟩
  ·show a<=(aM p y (a:Int)).w.tasks.length;rw[c2];omega
  ·show(aM p y (a:Int)).w.tasks.length<=120;rw[c2];exact hl
  ·rw[<-hI,show 121-a=(120-a)+1 by omega,aPa hat h0 c2]
  ·show(121-a)*(s+1)+r<(121-a)*(s+1)+(r+1);omega
structure aQr (w w':aA):Prop where
 le:w.objs.length<=w'.objs.length
 same: ∀i:Nat,i<w.objs.length->w'.obj i=w.obj i \/((w.obj i).form=6/\ (w'.obj i).form=6)
def InV (w:aA)(v:aE):Prop:=v.kind=5->inR v.n 0 ((w.objs.length:Int)-1)=true
variable {w':aA}
section
variable (h:aQr w w')(hin:xZ w)
include h
theorem bBg (hv:InV w v)(h5:v.kind=5):w'.obj v.n=w.obj v.n \/((w.obj v.n).form=6/\ (w'.obj v.n).form=6):=by
 have:=hv h5;simp only[inR,bWo]at this;obtain⟨i,hi⟩:=bTs this.1;rw[hi];exact h.same i (by omega)
theorem aOf (hv:InV w v){k:Int}(hk: ¬k=6):cG w' v k=cG w v k/\ (cG w v k=true->w'.obj v.n=w.obj v.n):=by
 unfold cG
 by_cases h5:v.kind=5
 ·rcases bBg h hv h5 with e|⟨e1,e2⟩
  ·rw[e];exact⟨rfl,fun _=>rfl⟩
  ·have n1: ¬(w.obj v.n).form=k:=by rw[e1];exact fun h=>hk h.symm
   have n2: ¬(w'.obj v.n).form=k:=by rw[e2];exact fun h=>hk h.symm
   simp[n1,n2]
 ·simp[h5]
theorem aV3 {f:aE}(hf:InV w f):eW p w' f v=eW p w f v:=by
 unfold eW;obtain⟨e1,e2⟩:=aOf h hf (k:=2) (by decide)
 rw[e1]
 by_cases hc:cG w f 2=true
 ·rw[e2 hc]
 ·rw[if_neg hc,if_neg hc]
end
theorem bHe (hin:xZ w)(hv:InV w v){k:Int}(ho:cG w v k=true): ∀u∈(w.obj v.n).vals,InV w u:=by
 intro u hu h5;have h5':=aV0 ho;have:=hv h5';simp only[inR,bWo]at this;obtain⟨i,hi⟩:=bTs this.1;have hil:i<w.objs.length:=by omega
 rw[hi,qJ hil]at hu;exact hin _ (bS7 hil) _ (aK7 (bVb _ hu) h5)
mutual
theorem aKb {w w':aA}(h:aQr w w')(hin:xZ w): ∀(q:Pat) {v:aE},InV w v->fW w' q v=fW w q v
 | .mk f n t ps,v,hv=>by
  unfold fW;split
  ·rfl
  split
  ·rfl
  split
  ·rfl
  split
  ·rfl
  split
  ·rfl
  obtain⟨e1,e2⟩:=aOf h hv (k:=1) (by decide)
  by_cases hc:cG w v 1=true
  ·rw[e1,e2 hc];split
   ·exact aHp h hin ps (bHe hin hv hc)
   ·rfl
  ·rw[if_neg (fun x=>hc (by rw[<-e1];exact x.1)),if_neg (fun x=>hc x.1)]
theorem aHp {w w':aA}(h:aQr w w')(hin:xZ w): ∀(ps:List Pat) {vs:List aE},(∀v∈vs,InV w v)->fF w' ps vs=fF w ps vs
 |[],vs,_=>by unfold fF;rfl
 |q::ps,[],_=>by unfold fF;rfl
 |q::ps,v::vs,hv=>by
  unfold fF;rw[aKb h hin q (hv v (by simp)),aHp h hin ps (fun u hu=>hv u (by simp[hu]))]
end
def plR :OpR->Bool
 | .go none _ _ _=>true
 |_=>false
theorem aK9 {a:Int}{R:OpR}:(R.did w a).what=0↔plR R=true:=by
 cases R with
 |go ev w' l b=>cases ev<;>simp[OpR.did,plR]
 |wait=>simp[OpR.did,plR,mZ]
 |fail s=>simp[OpR.did,plR,bG]
theorem aV4 {env':List aE}(w':aA)(he:env'.length=env.length):plR (iX w' left node env')=plR (iX w left node env):=by
 unfold iX oY;simp only[he,bTg,bS8,bTd];split
 ·rfl
 ·split<;>rfl
theorem aHq (w':aA):plR (iX w' left node env)=plR (iX w left node env):=aV4 w' rfl
theorem aOg {w w':aA}(h:aQr w w')(hin:xZ w){left:List aB}{kids:List Int}{env:List aE}{u:aE}(hu:InV w u): ∀(l:List Pat) (i:Nat),plR (dY w' left kids env u i l)=plR (dY w left kids env u i l)
 |[],i=>rfl
 |q::qs,i=>by
  simp only[dY];rw[aKb h hin q hu];cases fW w q u with
  |some l=>exact aHq w'
  |none=>exact aOg h hin hu qs (i+1)
theorem aY4 (h:w.objs.length<=w'.objs.length){o o':aP}{k':aA->aE->OpR}(hk:plR (k' (eF w' o') (dQ w'.objs.length))=true->plR (k (eF w o) (dQ w.objs.length))=true):plR (iE w' o' k')=true->plR (iE w o k)=true:=by
 unfold iE
 by_cases h1:120<=w'.objs.length
 ·rw[if_pos h1];exact fun h=>by cases h
 ·rw[if_neg h1,if_neg (by omega)];exact hk
variable {x':OpR}
theorem bEw [Decidable c]{y':OpR}(hx:c->plR x'=true->plR x=true)(hy: ¬c->plR y'=true->plR y=true):plR (if c then x' else y')=true->plR (if c then x else y)=true:=by
 by_cases h:c
 ·rw[if_pos h,if_pos h];exact hx h
 ·rw[if_neg h,if_neg h];exact hy h
theorem bEx (h:plR x'=false):plR x'=true->plR x=true:=fun h'=>by rw[h]at h';cases h'
theorem aY5 {o:aP}(h:plR (k (eF w o) (dQ w.objs.length))=false):plR (iE w o k)=false:=by
 unfold iE;split
 ·rfl
 ·exact h
theorem bBh (h:aQr w w')(hin:xZ w){a:Int}{f:aB}{n:aL}(hv: ∀v∈f.vals,InV w v):plR (opR p w' a left f n)=true->plR (opR p w a left f n)=true:=by
 have hv0:InV w (aF f.vals 0):=by
  unfold aF;rw[bSz];cases hg:f.vals[0]? with
  |none=>intro h;cases h
  |some x=>exact hv x (List.mem_of_getElem? hg)
 unfold opR
 repeat' (with_reducible refine bEw (fun _=>?_) (fun _=>?_))
 all_goals first
  |exact fun _=>rfl
  |exact fun hp=>(aHq w').symm.trans hp
  |exact fun hp=>(aHq w').trans hp
  |exact aY4 h.le (fun _=>rfl)
  |exact fun hp=>(aOg h hin hv0 _ _).symm.trans hp
  |exact bEx rfl
  |exact bEx (aY5 rfl)
  |(refine bEx ?_;(repeat' split)<;>(first|rfl|exact aY5 rfl))
  |skip
 ·rw[aV3 h hv0];obtain⟨e1,e2⟩:=aOf h hv0 (k:=5) (by decide)
  cases eW p w (aF f.vals 0) (aF f.vals 1)with
  |some b=>exact fun hp=>(aHq w').symm.trans hp
  |none=>
   simp only
   by_cases hc:cG w (aF f.vals 0) 5=true
   ·rw[e1,if_pos hc,if_pos hc,e2 hc];exact bEw (fun _ h=>h) (fun _ _=>rfl)
   ·rw[e1,if_neg hc,if_neg hc];exact id
 ·cases gG p left left.length with
  |zero=>exact id
  |succ k=>exact aY4 h.le (fun hp=>(aV4 _ (by simp)).symm.trans hp)
theorem bBi {a:Int}(ha:inR a 0 ((w.tasks.length:Int)-1)=true)(h:(aM p w a).what=0): ∃w' l b,(aM p w a).w=dD w' (aX w' a) ⟨6,0,b,l⟩/\ w'.tasks=w.tasks/\ w.objs<+:w'.objs:=by
 have key: ∀{R:OpR},Go.Abs.Calm w a R->(R.did w a).what=0-> ∃w' l b,(R.did w a).w=dD w' (aX w' a) ⟨6,0,b,l⟩/\ w'.tasks=w.tasks/\ w.objs<+:w'.objs:=by
  intro R hR hw;cases R with
  |go ev w' l b=>
   cases ev with
   |none=>exact⟨w',l,b,rfl,hR.1,hR.2.1⟩
   |some e=>exact absurd (show(1:Int)=0 from hw) (by decide)
  |wait=>exact absurd (show(2:Int)=0 from hw) (by decide)
  |fail s=>exact absurd (show(1:Int)=0 from hw) (by decide)
 revert h
 unfold aM
 simp only
 split
 ·exact fun h=>absurd (show(2:Int)=0 from h) (by decide)
 split
 ·split
  ·exact fun h=>absurd (show(1:Int)=0 from h) (by decide)
  ·exact fun _=>⟨w,_,_,rfl,rfl,bUp _⟩
 split
 ·rw[pR];exact key zX
 ·unfold qL;rw[wO ha];exact key aHf
theorem aX0 (hg:bJ p w=true)(ha:a<w.tasks.length)(hb:b<w.tasks.length)(hab: ¬a=b)(h0: ¬(aM p w a).what=0)(hbp:(aM p w b).what=0): ¬(aM p (aM p w b).w a).what=0:=by
 have hgw:cJ p w=true:=by simp only[bJ,bSw]at hg;exact hg.2
 have hia:inR (a:Int) 0 ((w.tasks.length:Int)-1)=true:=by simp only[inR,bWo];omega
 have hib:inR (b:Int) 0 ((w.tasks.length:Int)-1)=true:=by simp only[inR,bWo];omega
 have htk:=(cH.1 hgw).2.2.2.2.1;simp only[gS,bSw]at htk;obtain⟨hd1,hd2,_⟩:=lY w _ _ htk.2;have hti:=hd1 _ (xH hia);have htj:=hd1 _ (xH hib);simp only[inR,bWo]at hti htj;obtain⟨i,hi⟩:=bTs hti.1.1;obtain⟨j,hj⟩:=bTs htj.1.1;have hij: ¬i=j:=by
  intro e;have h1:(w.tasks.map Int.toNat)[a]?=some i:=by
   have:aX w a=w.tasks[a]:=by simp[aX,ha]
   rw[bVy,bTy ha,<-this,hi];rfl
  have h2:(w.tasks.map Int.toNat)[b]?=some j:=by
   have:aX w b=w.tasks[b]:=by simp[aX,hb]
   rw[bVy,bTy hb,<-this,hj];rfl
  exact hab ((List.getElem?_inj (by simpa using ha) hd2).1 (by rw[h1,h2,e]))
 obtain⟨w1,l,bk,e1,e2,e3⟩:=bBi hib hbp;have ht1:aX w1 b=(j:Int):=by rw[aN1 e2,hj]
 rw[ht1]at e1;obtain⟨w',hw'⟩: ∃w',w'=(aM p w b).w:=⟨_,rfl⟩
 rw[<-hw']at e1⊢;have hle:w.objs.length<=w'.objs.length:=by rw[e1];simp only[dD,bUs];exact e3.length_le
 have hot: ∀k:Nat,k<w.objs.length-> ¬k=j->w'.obj k=w.obj k:=fun k hk hkj=>by
  rw[e1,aSq (by simpa using hkj)]
  exact aN0 e3 hk
 have hA:aQr w w':=⟨hle,fun k hk=>by
  rcases Decidable.em (k=j)with rfl|hkj
  ·refine .inr ⟨by have:=htj.2;rw[hj]at this;exact D_o this,?_⟩
   have hk1:k<w1.objs.length:=bTm hk e3.length_le;rw[e1];simp[aA.obj,dD,hk1]
  ·exact .inl (hot k hk hkj)⟩
 have hin:xZ w:=fun o ho x hx=>aUz hg o ho x ((aMy _ _).2 hx)
 have htk':w'.tasks=w.tasks:=by rw[e1];exact e2
 have hta:aX w' a=aX w a:=aN1 htk';have hil:i<w.objs.length:=by omega
 have hob:w'.obj (aX w a)=w.obj (aX w a):=by rw[hi];exact hot i hil hij
 intro hp;apply h0
 revert hp
 unfold aM;simp only[hta,hob];split
 ·exact fun h=>absurd (show(2:Int)=0 from h) (by decide)
 split
 ·split
  ·exact id
  ·exact fun _=>rfl
 split
 ·rw[pR,pR,aK9,aK9,aHq w'];exact id
 ·unfold qL;rw[wO hia,wO (by rw[htk'];exact hia),aK9,aK9]
  refine bBh hA hin fun v hv h5=>?_
  have hfl:0<(w.obj (aX w a)).frames.length:=by
   cases hfr:(w.obj (aX w a)).frames with
   |nil=>rw[hfr]at hv;cases hv
   |cons=>simp
  rw[bSz,bTy (by omega)]at hv
  have hom:w.obj (aX w a)∈w.objs:=by rw[hi,qJ hil];exact bS7 _
  exact hin _ hom _ (aK7 (bUn _ (bUa.2 ⟨_,bS7 _,bUn _ hv⟩)) h5)
def pF (p:aD)(w:aA)(n:Nat):Prop:= ∀a:Nat,a<n->a<w.tasks.length-> ¬(aM p w a).what=0
theorem aOh {p:aD}{b:Nat}: ∀(k:Nat) {w:aA},bJ p w=true->b<w.tasks.length->pF p w b->(cS p b k w).2.2=true->
  bJ p (cS p b k w).1=true/\ (cS p b k w).1.tasks=w.tasks/\ pF p (cS p b k w).1 (b+1)
 |0,w,hg,hb,hc,h=>by
  rw[cS]at h⊢
  by_cases h0:(aM p w b).what=0
  ·rw[if_pos h0]at h;cases h
  ·rw[if_neg h0]
   refine⟨hg,rfl,fun a h1 h2=>?_⟩
   rcases bT5 a b with h|h
   ·exact hc a h h2
   ·obtain rfl:a=b:=by omega
    exact h0
 |k+1,w,hg,hb,hc,h=>by
  rw[cS]at h⊢
  by_cases h0:(aM p w b).what=0
  ·rw[if_pos h0]at h⊢;obtain⟨g1,g2,_⟩:=oI hg hb;have ht:=(g2 h0).2;obtain⟨i1,i2,i3⟩:=aOh k g1 (by rw[ht];exact hb) (fun a h1 h2=>by
    rw[ht]at h2;exact aX0 hg h2 hb (by omega) (hc a h1 h2) h0) h
   exact⟨i1,i2.trans ht,i3⟩
  ·rw[if_neg h0]
   refine⟨hg,rfl,fun a h1 h2=>?_⟩
   rcases bT5 a b with h|h
   ·exact hc a h h2
   ·obtain rfl:a=b:=by omega
    exact h0
theorem aHr {p:aD}: ∀(n b:Nat) {w:aA} {s:Nat},bJ p w=true->w.tasks.length<=b+n->pF p w b->(eE p n b w s).2.2=true->bJ p (eE p n b w s).1=true/\ pF p (eE p n b w s).1 (eE p n b w s).1.tasks.length
 |0,b,w,s,hg,hl,hc,_=>⟨hg,fun a h1 h2=>hc a (by have:a<w.tasks.length:=h1;omega) h2⟩
 |n+1,b,w,s,hg,hl,hc,h=>by
  rw[eE]at h⊢
  by_cases hb:b<w.tasks.length
  ·rw[if_pos hb]at h⊢
   by_cases hi:(cS p b (5000-s) w).2.2=true
   ·rw[if_pos hi]at h⊢;obtain⟨i1,i2,i3⟩:=aOh _ hg hb hc hi;exact aHr n (b+1) i1 (by rw[i2];omega) i3 h
   ·rw[if_neg hi]at h;cases h
  ·rw[if_neg hb];exact⟨hg,fun a h1 h2=>hc a (by have:a<w.tasks.length:=h1;omega) h2⟩
theorem qT (hg:bJ p w=true)(h:(aJ p w s).2.2=true):bJ p (aJ p w s).1=true/\ pF p (aJ p w s).1 (aJ p w s).1.tasks.length:=by
 refine aHr 121 0 hg ?_ (fun a h1=>absurd h1 (Nat.not_lt_zero a)) h
 simp only[bJ,bSw]at hg;have hw:=cH.1 hg.2;have:=wU hw.2.2.2.2.1;omega
theorem uR {p:aD}{w:aA}(hc:pF p w w.tasks.length): ∀(n b s:Nat),eE p n b w s=(w,s,true)
 |0,_,_=>rfl
 |n+1,b,s=>by
  rw[eE]
  by_cases hb:b<w.tasks.length
  ·have hi:cS p b (5000-s) w=(w,0,true):=by
    cases h:5000-s with
    |zero=>rw[cS,if_neg (hc b hb hb)]
    |succ k=>rw[cS,if_neg (hc b hb hb)]
   rw[if_pos hb,hi,if_pos rfl];exact uR hc n (b+1) _
  ·rw[if_neg hb]
theorem aQs {p:aD}{a:Int}: ∀(k s:Nat) (w:aA),(cS p a k w).2.2=true->0<(fQ p a s w).2->(fQ p a s w).1=(cS p a k w).1
 |k,0,w,_,h=>absurd h (by rw[fQ];exact bVg 0)
 |0,s+1,w,h1,_=>by
  rw[cS]at h1⊢;rw[fQ]
  by_cases h:(aM p w a).what=0
  ·rw[if_pos h]at h1;cases h1
  ·rw[if_neg h,if_neg h]
 |k+1,s+1,w,h1,h2=>by
  rw[cS]at h1⊢;rw[fQ]at h2⊢
  by_cases h:(aM p w a).what=0
  ·rw[if_pos h]at h1 h2⊢;rw[if_pos h];exact aQs k s _ h1 h2
  ·rw[if_neg h,if_neg h]
theorem aBe {p:aD}: ∀(n a:Nat) (w:aA) (s s0:Nat),(eE p n a w s0).2.2=true->0<(bQ p n a w s).2->(bQ p n a w s).1=(eE p n a w s0).1
 |0,_,_,_,_,_,_=>rfl
 |n+1,a,w,s,s0,h1,h2=>by
  rw[eE]at h1⊢;rw[bQ]at h2⊢
  by_cases ha:a<w.tasks.length
  ·rw[if_pos ha]at h1 h2⊢;rw[if_pos ha]
   by_cases hi:(cS p a (5000-s0) w).2.2=true
   ·rw[if_pos hi]at h1⊢;have hs:0<(fQ p a s w).2:=by
     rcases Nat.eq_zero_or_pos (fQ p a s w).2 with h|h
     ·rw[h,nM]at h2;exact absurd h2 (bVg 0)
     ·exact h
    rw[aQs _ _ _ hi hs]at h2⊢;exact aBe n (a+1) _ _ _ h1 h2
   ·rw[if_neg hi]at h1;cases h1
  ·rw[if_neg ha,if_neg ha]
theorem aBf {p:aD}{a:Nat}: ∀(s:Nat) {w:aA},bJ p w=true->a<w.tasks.length->bJ p (fQ p a s w).1=true/\ (fQ p a s w).1.tasks=w.tasks/\ (fQ p a s w).2<=s
 |0,w,h,_=>⟨h,rfl,bSx _⟩
 |s+1,w,h,ha=>by
  rw[fQ]
  by_cases h0:(aM p w a).what=0
  ·rw[if_pos h0];obtain⟨g1,g2,_⟩:=oI h ha;have ht:=(g2 h0).2;obtain⟨i1,i2,i3⟩:=aBf s g1 (by rw[ht];exact ha)
   exact⟨i1,i2.trans ht,Nat.le_succ_of_le i3⟩
  ·rw[if_neg h0];exact⟨h,rfl,bSx _⟩
theorem sD {p:aD}: ∀(n a s:Nat) {w:aA},bJ p w=true->bJ p (bQ p n a w s).1=true/\ (bQ p n a w s).2<=s
 |0,_,_,_,h=>⟨h,bSx _⟩
 |n+1,a,s,w,h=>by
  rw[bQ]
  by_cases ha:a<w.tasks.length
  ·rw[if_pos ha];obtain⟨i1,_,i3⟩:=aBf s h ha;obtain⟨j1,j2⟩:=sD n (a+1) (fQ p a s w).2 i1;exact⟨j1,bS9 j2 i3⟩
  ·rw[if_neg ha];exact⟨h,bSx _⟩
theorem aQt (hg:bJ p w=true){pick:Int}(h:(cV p w pick).2.2=0):(cV p w pick).2.1.task=fY p (aJ p w 0).1 pick/\ (aM p (aJ p w 0).1 (fY p (aJ p w 0).1 pick)).what=1/\ bJ p (aM p (aJ p w 0).1 (fY p (aJ p w 0).1 pick)).w=true:=by
 obtain⟨e1,e2,e3,e4⟩:=xG h;obtain⟨c1,c2⟩:=qT hg e1;rw[e3];generalize hP:fY p (aJ p w 0).1 pick=P at*;simp only[inR,bWo]at e2;obtain⟨a,rfl⟩:=bTs e2.1;have ha:a<(aJ p w 0).1.tasks.length:=by omega
 obtain⟨g1,_,g3,g4⟩:=oI c1 ha;have h1:=(g4.resolve_left (c2 a ha ha)).resolve_right e4;exact⟨(g3 h1).1,h1,g1⟩
def aHs (p:aD)(l:bL)(n s:Int):aA×Int:=
 if iR p l=true/\ 0<=n/\ n<(l.picks.length:Int)/\ 0<=s then dW p l n.toNat s.toNat else(tR,2)
noncomputable def c77 :{c//L 77=some c}:=cA func77
theorem aOi (hpf:p.few)(hlf:l.few)(hsp:aU p=true)(n s:Int)(hs:s<=9223372036854775807):PC L 29 [.agg p.cs,.agg l.cs,.i n,.i s] (.tup [.agg (aHs p l n s).1.cs,.i (aHs p l n s).2]):=by
 unfold aHs
 refine pcA func29 ?_
 simp only[go_sem,kK,kF]
 refine wZ ?_
 simp only[go_sem,kK]
 by_cases hok:iR p l=true
 case neg=>
  rw[if_neg (fun h=>hok h.1)]
  refine cR 2 rfl ?_
  simp only[go_sem,bS3,bS2,(qR p l hpf hlf hsp (by rw[lQ];simpa using hok)).ret]
  refine⟨rfl,bI (x:= .i 0) rfl ?_⟩
  refine dP c77.2 rfl rfl ?_
  simp only[go_sem,c77];rfl
 have hl:=oS.of hok;have hP:=qQ p l hpf hlf hsp (by rw[lQ];exact hok)
 refine bS ?_
 simp only[go_sem,hP.ret,kF]
 by_cases hn:0<=n/\ n<(l.picks.length:Int)/\ 0<=s
 case neg=>
  rw[if_neg (fun h=>hn h.2)]
  refine cR 13 rfl ?_
  have hc: ¬0<=n \/(0<=n/\ ¬n<(l.picks.length:Int)) \/(0<=n/\ n<(l.picks.length:Int)/\ ¬0<=s):=by omega
  rcases hc with h1|⟨h1,h2⟩|⟨h1,h2,h3⟩
  case' inr.inr=>simp only[go_sem,kK,bS3,bS2,D_t h1,D_t h2,D_f h3,bSy,(bR _).ret]
  case' inr.inl=>simp only[go_sem,kK,bS3,bS2,D_t h1,D_f h2,bSy,(bR _).ret]
  case' inl=>simp only[go_sem,kK,bS3,bS2,D_f h1,(bR _).ret]
  all_goals
   refine⟨rfl,bI (x:= .i 0) rfl ?_⟩
   refine dP c77.2 rfl rfl ?_
   simp only[go_sem,c77];rfl
 rw[if_pos ⟨hok,hn⟩]
 refine bS ?_
 simp only[go_sem,kK,D_t hn.1,D_t hn.2.1,D_t hn.2.2,bSy,(dI _).ret,kF];obtain⟨m,rfl⟩:=bTs hn.1;obtain⟨k,rfl⟩:=bTs hn.2.2;rw[bTt,bTt];have hm:m<l.picks.length:=by omega
 obtain⟨o1,o2⟩:=aN7 hpf hsp hok hm
 by_cases h0:(aW p l m).2.2=0
 case neg=>
  have hi:dW p l m k=(tR,(aW p l m).2.2):=by
   unfold dW aW
   by_cases h1:(atX p l m).2=0
   ·have h2:=(aIx h1 h0).1;rw[if_pos h1,if_pos h1,if_neg h2,if_neg h2]
   ·rw[if_neg h1,if_neg h1]
  rw[hi]
  refine cR 2 rfl ?_
  simp only[go_sem,bS3,bS2,(o2 h0).ret]
  refine⟨rfl,bI (x:= .i 0) rfl ?_⟩
  refine dP c77.2 rfl rfl ?_
  simp only[go_sem,c77];rfl
 obtain⟨h1,h2,h3⟩:=sB h0;have hg:=sC hok (bU8 hm) h1;have hx:=o1 h0;simp only[tU,aEp]at hx;have hp1:=aEq (l:=l) hpf hsp hg (s:=k) (by omega)
 obtain⟨e1,e2,e3,e4⟩:=xG h2;rw[<-h3]at e3;have hgq:=sD 121 0 k hg;have hall:=aBe 121 0 (atX p l m).1 k 0 e1;unfold dW;rw[if_pos h1,if_pos h2]
 simp only
 have hqd:bQ p 121 0 (atX p l m).1 k=dK p (atX p l m).1 k:=rfl;rw[hqd]at hgq hall;generalize hq:dK p (atX p l m).1 k=q at*
 refine bS ?_
 simp only[go_sem,hx.ret,kF];simp only[go_sem,kK,hp1.ret]
 by_cases hz:q.2=0
 ·have hz':decide ((q.2:Int)=0)=true:=D_t (by omega)
  have hc:=sA q.1 (fC hsp hgq.1) (tV hsp hgq.1);rw[if_pos hz];simp only[go_sem,kK,hz',hc.ret,kF]
  refine⟨rfl,eN rfl ?_⟩
  simp only[go_sem]
 have hz':decide ((q.2:Int)=0)=false:=D_f (by omega)
 rw[if_neg hz];obtain⟨t1,t2,t3⟩:=aQt hg h2;have hqs:q.1=(aJ p (atX p l m).1 0).1:=hall (by omega)
 rw[<-hqs]at t1 t2 t3 e2;rw[<-h3]at t1;have hS:=aHj p q.1 (fY p q.1 (iP l m)) hpf (fC hsp hgq.1) hsp;have hM:aHi p q.1 (fY p q.1 (iP l m))=((aM p q.1 (fY p q.1 (iP l m))).w,(aM p q.1 (fY p q.1 (iP l m))).e,0):=by unfold aHi;rw[if_pos ⟨hgq.1,e2⟩,if_neg (by rw[t2];decide)]
 rw[hM]at hS;have hp2:=aEq (l:=l) hpf hsp t3 (s:=q.2-1) (by omega)
 have hgr:=sD 121 0 (q.2-1) t3;have hrd:bQ p 121 0 (aM p q.1 (fY p q.1 (iP l m))).w (q.2-1)=dK p (aM p q.1 (fY p q.1 (iP l m))).w (q.2-1):=rfl;rw[hrd]at hgr;have hw1:IntKind.i64.wrap ((q.2:Int)-1)=((q.2-1:Nat):Int):=by rw[show(q.2:Int)-1=((q.2-1:Nat):Int)by omega];exact aV (by omega)
 simp only[go_sem,hz',t1,evV,hS.ret,kF]
 refine bS ?_
 simp only[go_sem,(dI _).ret,kF];simp only[go_sem,hw1,hp2.ret];generalize hr:dK p (aM p q.1 (fY p q.1 (iP l m))).w (q.2-1)=r at*
 by_cases hy:r.2=0
 ·have hy':decide ((r.2:Int)=0)=true:=D_t (by omega)
  have hc:=sA r.1 (fC hsp hgr.1) (tV hsp hgr.1);rw[if_pos hy]
  refine bS ?_
  simp only[go_sem,hy',(dI _).ret,hc.ret,kF]
  refine⟨rfl,eN rfl ?_⟩
  simp only[go_sem]
 ·have hy':decide ((r.2:Int)=0)=false:=D_f (by omega)
  rw[if_neg hy]
  refine cR 2 rfl ?_
  simp only[go_sem,bS3,bS2,hy',(bR _).ret]
  refine⟨rfl,bI (x:= .i 0) rfl ?_⟩
  refine dP c77.2 rfl rfl ?_
  simp only[go_sem,c77];rfl
variable {xs:List Val}
theorem bEy :(Val.cl xs).cells=[Val.cl xs]:=(rfl)
theorem bKg :(Val.cl xs).one=true:=(rfl)
def aSw (p:aD)(w:aA)(every:Int):bL×Int:=if bJ p w=true/\ 1<=every/\ every<=20 then aIt p w every else(tS,2)
theorem aPb (hpf:p.few)(hwf:w.few)(hsp:aU p=true)(every:Int):PC L 41 [.agg p.cs,.agg w.cs,.i every] (.tup [bL.enc (aSw p w every).1,.i (aSw p w every).2]):=by
 unfold aSw;have hC:=aEg p w hpf hwf hsp
 refine pcA func41 ?_
 simp only[go_sem,kK,kF]
 refine wZ ?_
 simp only[go_sem,kK]
 by_cases hg:bJ p w=true/\ 1<=every/\ every<=20
 case neg=>
  rw[if_neg hg]
  refine cR 12 rfl ?_
  have hc:bJ p w=false \/(bJ p w=true/\ ¬1<=every) \/(bJ p w=true/\ 1<=every/\ ¬every<=20):=by
   cases h:bJ p w
   ·exact .inl rfl
   ·rw[h]at hg;refine .inr ?_;simp only[true_and]at hg⊢;omega
  rcases hc with h1|⟨h1,h2⟩|⟨h1,h2,h3⟩
  all_goals rw[h1]at hC
  case' inr.inr=>simp only[go_sem,kK,bS3,bS2,hC.ret,D_t h2,D_f h3,(bR _).ret,kF]
  case' inr.inl=>simp only[go_sem,kK,bS3,bS2,hC.ret,D_f h2,(bR _).ret,kF]
  case' inl=>simp only[go_sem,kK,bS3,bS2,hC.ret,(bR _).ret,kF]
  all_goals
   refine⟨rfl,bI (x:= .i 0) rfl ?_⟩
   refine jB func98 ?_
   simp only[go_sem];rfl
 rw[if_pos hg];obtain⟨h1,h2,h3⟩:=hg;rw[h1]at hC
 refine bS ?_
 simp only[go_sem,kK,hC.ret,D_t h2,D_t h3,(dI _).ret,kF];have hS:=xC p w hpf hwf hsp;unfold aIt
 by_cases hs:(aJ p w 0).2.2=true
 ·have hM:nA p w=((aJ p w 0).1,(aJ p w 0).2.1,0):=by unfold nA;rw[if_pos h1,if_pos hs]
  rw[hM]at hS;rw[if_pos hs];simp only[go_sem,hS.ret]
  refine bS ?_
  simp only[go_sem,(dI _).ret,bEy,bKg,kF]
  refine⟨rfl,eN rfl ?_⟩
  simp only[go_sem];rfl
 ·have hM:(nA p w).2.2=8:=by unfold nA;rw[if_pos h1,if_neg hs]
  rw[if_neg hs];simp only[go_sem,hS.ret,hM]
  refine cR 3 rfl ?_
  simp only[go_sem,bS3,bS2,(bR _).ret]
  refine⟨rfl,bI (x:= .i 8) rfl ?_⟩
  refine jB func98 ?_
  simp only[go_sem];rfl
theorem oS.mks (h:oS l):l.marks.length<=201:=by
 have h1:=h.mn;have:=h.pk;have h2:=Nat.div_le_self l.picks.length (aQ l);generalize l.picks.length/aQ l=q at h1 h2;omega
def bBj (p:aD)(l:bL)(pick:Int):bL×fB×Int:=if iR p l=true then bBd p l pick else(tS,eM,2)
noncomputable def c88 :{c//L 88=some c}:=cA func88
theorem aKc (hpf:p.few)(hlf:l.few)(hsp:aU p=true)(pick:Int):PC L 34 [.agg p.cs,.agg l.cs,.i pick] (.tup [bL.enc (bBj p l pick).1,evV (bBj p l pick).2.1,.i (bBj p l pick).2.2]):=by
 unfold bBj
 refine pcA func34 ?_
 simp only[go_sem,kK,kF]
 refine wZ ?_
 simp only[go_sem,kK]
 by_cases hok:iR p l=true
 case neg=>
  rw[if_neg hok]
  refine cR 2 rfl ?_
  simp only[go_sem,bS3,bS2,(qR p l hpf hlf hsp (by rw[lQ];simpa using hok)).ret]
  refine⟨rfl,bI (x:= .i 0) rfl ?_⟩
  refine dP c88.2 rfl rfl ?_
  simp only[go_sem,c88];rfl
 have hl:=oS.of hok;have hP:=qQ p l hpf hlf hsp (by rw[lQ];exact hok)
 rw[if_pos hok]
 refine bS ?_
 simp only[go_sem,hP.ret,bSy,kF];unfold bBd
 by_cases hn:200<=l.picks.length
 case pos=>
  rw[if_pos hn]
  refine cR 2 rfl ?_
  simp only[go_sem,bS3,bS2,show decide ((l.picks.length:Int)<200)=false from D_f (by omega),(bR _).ret]
  refine⟨rfl,bI (x:= .i 0) rfl ?_⟩
  refine dP c88.2 rfl rfl ?_
  simp only[go_sem,c88];rfl
 rw[if_neg hn]
 refine bS ?_
 simp only[go_sem,show decide ((l.picks.length:Int)<200)=true from D_t (by omega),(dI _).ret,kF]
 obtain⟨o1,o2⟩:=aBc hpf hsp hok (bSx l.picks.length)
 by_cases h0:(atX p l l.picks.length).2=0
 case neg=>
  rw[if_neg h0]
  refine cR 3 rfl ?_
  simp only[go_sem,bS3,bS2,(o2 h0).ret]
  refine⟨rfl,bI (x:= .i 0) rfl ?_⟩
  refine dP c88.2 rfl rfl ?_
  simp only[go_sem,c88];rfl
 rw[if_pos h0];have hg:=sC hok (bSx _) h0
 by_cases h2:(cV p (atX p l l.picks.length).1 pick).2.2=0
 case neg=>
  have hX:=xE p l (atX p l l.picks.length).1 pick hpf (fC hsp hg) hsp hg h2;rw[if_neg h2]
  refine cR 5 rfl ?_
  simp only[go_sem,bS3,bS2,(o1 h0).ret,hX.ret,kF]
  refine⟨rfl,bI (x:= .i 0) rfl ?_⟩
  refine dP c88.2 rfl rfl ?_
  simp only[go_sem,c88];rfl
 rw[if_pos h2];have hT:=xD p l (atX p l l.picks.length).1 pick hpf (fC hsp hg) hsp hg h2;generalize hr:cV p (atX p l l.picks.length).1 pick=r at*
 refine bS ?_
 simp only[go_sem,(o1 h0).ret,hT.ret,evV,kF];have hmf: ∀w∈l.marks,bZ w=true:=fun w hw=>lB hsp ((qP hok).2.2.2.2 w hw)
 refine WIn.mono (aXw hlf (by omega) (by have:=hl.mks;omega) hmf (g3:=1) rfl rfl rfl) ?_
 rintro x en' cnt' ⟨vP,v,rfl,mP,hv,hO⟩
 have k6:en' ⟨0,6,0⟩=some (.box [.i 0,.cl [],.cl []] false):=by rw[hO 0 6 0 (.inr (.inl (by decide)))];simp only[go_sem]
 have k7:en' ⟨0,7,0⟩=some (.box [.i r.2.1.task,.i r.2.1.act,.i r.2.1.n,.i r.2.1.v.kind,.i r.2.1.v.n] false):=by rw[hO 0 7 0 (.inr (.inl (by decide)))];simp only[go_sem]
 have k8:en' ⟨0,8,0⟩=some (.box [.i 0] false):=by rw[hO 0 8 0 (.inr (.inl (by decide)))];simp only[go_sem]
 have k11:en' ⟨0,11,0⟩=some (.box [.fz (r.1.objs.map aP.enc),.is r.1.tasks,.fz (r.1.outs.map bO.enc),.is r.1.ins,.i r.1.used] false):=by rw[hO 0 11 0 (.inr (.inl (by decide)))];simp only[go_sem]
 clear hO;simp only[go_sem,k6]
 refine jO (D:=[10]) (xs:=l.picks.map (.int .i64)) (ys:=[.i pick]) (rs:=[]) ?_ ?_ rfl ?_ ?_
 ·simp only[go_sem];exact mP.keep fun t g ht=>by simp at ht;subst ht;simp only[go_sem]
 ·simp only[go_sem]
 ·simp;omega
 intro vQ en2 cnt2 mQ hen hcnt;have j6:en2 ⟨0,6,0⟩=some (.box [.i l.every,vP,v] false):=by rw[hen 0 6 0 (.inr ⟨by decide,by simp⟩)];simp only[go_sem]
 have j7:=(hen 0 7 0 (.inr ⟨by decide,by simp⟩)).trans (by simp only[go_sem,k7]:_=some (.box [.i r.2.1.task,.i r.2.1.act,.i r.2.1.n,.i r.2.1.v.kind,.i r.2.1.v.n] false))
 have j8:=(hen 0 8 0 (.inr ⟨by decide,by simp⟩)).trans (by simp only[go_sem,k8]:_=some (.box [.i 0] false))
 have j11:=(hen 0 11 0 (.inr ⟨by decide,by simp⟩)).trans (by simp only[go_sem,k11]:_=some (.box [.fz (r.1.objs.map aP.enc),.is r.1.tasks,.fz (r.1.outs.map bO.enc),.is r.1.ins,.i r.1.used] false))
 have hv2:cX en2 v 5 (l.marks.map aA.enc) [24]:=hv.keep fun t g ht=>by simp at ht;subst ht;rw[hen 0 24 g (.inr ⟨by decide,by simp⟩)];simp only[go_sem]
 have hmk:=aIv (p:=p) (l:=l) (l.picks.length+1) hl.e1 (by omega) hl.ev
 have hw1:IntKind.i64.wrap ((l.picks.length:Int)+1)=((l.picks.length+1:Nat):Int):=by rw[aV (by omega)];rfl
 simp only[go_sem,kK,j6,mQ.shape.1,mQ.shape.2,hw1,hmk.ret,kF]
 by_cases hd:(l.picks.length+1)%aQ l=0
 case' neg=>
  obtain⟨M,hM⟩: ∃M,M=l.marks:=⟨_,rfl⟩
  rw[if_neg hd,<-hM];rw[<-hM]at hv2;obtain⟨vM,hvM⟩: ∃vM,vM=v:=⟨_,rfl⟩
  obtain⟨D,hD,hDm⟩: ∃D,D=[24]/\ ∀t∈D,t=24 \/t=47:=⟨_,rfl,by simp⟩
  simp only[go_sem,D_f hd];obtain⟨en3,he3⟩: ∃e,e=en2.set ⟨0,6,0⟩ (some (.box [.i l.every,vQ,v] false)):=⟨_,rfl⟩
  have i6:en3 ⟨0,6,0⟩=some (.box [.i l.every,vQ,vM] false):=by rw[he3,hvM];simp only[go_sem]
  have i7:en3 ⟨0,7,0⟩=some (.box [.i r.2.1.task,.i r.2.1.act,.i r.2.1.n,.i r.2.1.v.kind,.i r.2.1.v.n] false):=by rw[he3];simp only[go_sem,j7]
  have i8:en3 ⟨0,8,0⟩=some (.box [.i 0] false):=by rw[he3];simp only[go_sem,j8]
  have iQ:cX en3 vQ 1 ((l.picks++[pick]).map (.int .i64)) [37,10]:=by
   rw[bT0,he3];exact mQ.keep fun t g ht=>by simp at ht;rcases ht with rfl|rfl<;>simp only[go_sem]
  have iM:cX en3 vM 5 (M.map aA.enc) D:=by
   rw[hD,hvM,he3];exact hv2.keep fun t g ht=>by simp at ht;subst ht;simp only[go_sem]
  rw[<-he3]
 case' pos=>
  obtain⟨M,hM⟩: ∃M,M=l.marks++[r.1]:=⟨_,rfl⟩
  rw[if_pos hd,<-hM];simp only[go_sem,D_t hd,j11]
  refine jO (D:=[24]) (xs:=l.marks.map aA.enc) (ys:=[aA.enc r.1]) (rs:=[]) ?_ ?_ rfl ?_ ?_
  ·simp only[go_sem];exact hv2.keep fun t g ht=>by simp at ht;subst ht;simp only[go_sem]
  ·simp only[go_sem,aA.enc]
  ·have:=hl.mks;simp;omega
  intro vM en4 cnt4 mM hen4 hcnt4;have m6:en4 ⟨0,6,0⟩=some (.box [.i l.every,vQ,v] false):=by rw[hen4 0 6 0 (.inr ⟨by decide,by simp⟩)];simp only[go_sem]
  simp only[go_sem,m6,mM.shape.1,mM.shape.2];obtain⟨D,hD,hDm⟩: ∃D,D=[47,24]/\ ∀t∈D,t=24 \/t=47:=⟨_,rfl,by simp⟩
  obtain⟨en3,he3⟩: ∃e,e=en4.set ⟨0,6,0⟩ (some (.box [.i l.every,vQ,vM] false)):=⟨_,rfl⟩
  have i6:en3 ⟨0,6,0⟩=some (.box [.i l.every,vQ,vM] false):=by rw[he3];simp only[go_sem]
  have i7:en3 ⟨0,7,0⟩=some (.box [.i r.2.1.task,.i r.2.1.act,.i r.2.1.n,.i r.2.1.v.kind,.i r.2.1.v.n] false):=by rw[he3,kG (by simp),hen4 0 7 0 (.inr ⟨by decide,by simp⟩)];simp only[go_sem,j7]
  have i8:en3 ⟨0,8,0⟩=some (.box [.i 0] false):=by rw[he3,kG (by simp),hen4 0 8 0 (.inr ⟨by decide,by simp⟩)];simp only[go_sem,j8]
  have iQ:cX en3 vQ 1 ((l.picks++[pick]).map (.int .i64)) [37,10]:=by
   rw[bT0,he3];exact mQ.keep fun t g ht=>by simp at ht;rcases ht with rfl|rfl<;>(rw[kG (by simp),hen4 0 _ g (.inr ⟨by decide,by simp⟩)];simp only[go_sem])
  have iM:cX en3 vM 5 (M.map aA.enc) D:=by
   rw[hD,hM,bT0,he3];exact mM.keep fun t g ht=>by simp at ht;rcases ht with rfl|rfl<;>simp only[go_sem]
  rw[<-he3]
 all_goals
  obtain⟨u1,u2⟩:=iQ.shape;obtain⟨u3,u4⟩:=iM.shape
  refine aH ?_
  simp only[go_sem,i6,i7,i8,kA,kF]
  refine⟨rfl,eN rfl ?_⟩
  simp only[go_sem];obtain⟨E,hE⟩: ∃E,E=((en3.set ⟨0,6,0⟩ (some (.box [.i l.every,vQ,vM] false))).set ⟨0,7,0⟩ (some (.box [.i r.2.1.task,.i r.2.1.act,.i r.2.1.n,.i r.2.1.v.kind,.i r.2.1.v.n] false))).set ⟨0,8,0⟩ (some (.box [.i 0] false)):=⟨_,rfl⟩
  rw[<-hE];obtain⟨a1,b1,s1,s1',_⟩:=(iQ.keep (en':=E) fun t g ht=>by rw[hE];simp at ht;rcases ht with rfl|rfl<;>simp only[go_sem]).snap 5
  obtain⟨a2,b2,s2,s2',_⟩:=(iM.keep (en':=E) fun t g ht=>by rw[hE];rcases hDm t ht with rfl|rfl<;>simp only[go_sem]).snap 5
  simp only[go_sem,s1,s2,s1',s2'];rfl
theorem aIy (n lo hi:Int):PC L 87 [.i n,.i lo,.i hi] (.bool (inR n lo hi)):=by
 refine pcA func87 ?_
 simp only[go_sem,qW]
 refine bD (fun h=>?_) (fun h=>?_)<;>simp only[go_sem,h]<;>simp at h<;>simp[h,inR]
 omega
theorem aOj (hpf:p.few)(hlf:l.few)(hc:p.cons.length<=1000):PC L 33 [.agg p.cs,.agg [.i l.every,.is l.picks,.fz (l.marks.map aA.enc)]] (.bool (iR p l)):=by
 have hF:=aEe p hpf hc;have hlog:iR p l=(fJ p&&inR l.every 1 20&&decide (l.picks.length<=200)&&decide (l.marks.length=l.picks.length/aQ l+1)&&l.marks.all (cJ p)):=rfl
 refine pcA func33 ?_
 cases hf:fJ p with
 |false=>rw[hf]at hF hlog;rw[hlog];simp only[go_sem,kK,hF.ret,bTf,bTk,kF]
 |true=>
 cases he:inR l.every 1 20 with
 |false=>rw[hf]at hF hlog;rw[he]at hlog;rw[hlog];simp only[go_sem,kK,hF.ret,(aIy _ _ _).ret,he,bTf,bS6,bTk,bT6,kF]
 |true=>
 rw[hf]at hF hlog;rw[he]at hlog;rw[hlog]
 by_cases hk:l.picks.length<=200
 case neg=>simp only[go_sem,kK,hF.ret,(aIy _ _ _).ret,he,bSy,D_f hk,show decide ((200:Int)<(l.picks.length:Int))=true from D_t (by omega),bS6,bTk,bT6,kF]
 have hev:l.every=(aQ l:Int):=by simp only[inR,bWo]at he;unfold aQ;omega
 have h1:1<=aQ l:=by simp only[inR,bWo]at he;unfold aQ;omega
 have hdv:((l.picks.length:Int)).tdiv (aQ l:Int)=((l.picks.length/aQ l:Nat):Int):=by rw[bWm (by omega)];rfl
 have hle:=Nat.div_le_self l.picks.length (aQ l);have hw1:IntKind.i64.wrap (((l.picks.length/aQ l:Nat):Int))=((l.picks.length/aQ l:Nat):Int):=by generalize l.picks.length/aQ l=q at hle⊢;exact aV (by omega)
 have hw2:IntKind.i64.wrap (((l.picks.length/aQ l:Nat):Int)+1)=((l.picks.length/aQ l+1:Nat):Int):=by generalize l.picks.length/aQ l=q at hle⊢;rw[aV (by omega)];rfl
 have hne: ¬(aQ l:Int)=0:=by omega
 have hk':decide ((200:Int)<(l.picks.length:Int))=false:=D_f (by omega)
 rw[hev]at he;simp only[go_sem,kK,hF.ret,(aIy _ _ _).ret,hev,he,bSy,D_t hk,hk',hne,hdv,hw1,hw2,bS6,bTo,bUc,kF]
 by_cases hm:l.marks.length=l.picks.length/aQ l+1
 case neg=>simp only[go_sem,kK,D_f hm,bTf,bTk]
 simp only[go_sem,D_t hm,bS6,bTo]
 refine bK l.marks.length (fun k st=> ∃fr en cnt,st=⟨fr,en,cnt⟩/\ fr 2= .ptr ⟨0,2,0⟩ 0/\ fr 3= .ptr ⟨0,3,0⟩ 0/\ fr 5= .i (k:Int)/\ en ⟨0,2,0⟩=some (.box [.fz (p.nodes.map aL.enc),.fz (p.funs.map (.int .i64)),.i p.main,.fz (p.cons.map dC.enc)] false)/\ en ⟨0,3,0⟩=some (.box [.i (aQ l:Int),.is l.picks,.fz (l.marks.map aA.enc)] false)/\ (l.marks.drop k).all (cJ p)=l.marks.all (cJ p)) 0 (bS4 _) (by refine⟨_,_,_,rfl,?_,?_,?_,?_,?_,rfl⟩<;>simp only[go_sem]) ?_
 rintro k st hk ⟨fr,en,cnt,rfl,f2,f3,f5,e2,e3,hI⟩
 simp only[go_sem,kK,f3,f5,e3,bSy]
 refine aG (fun hq=>?_) (fun hq=>?_)
 ·have h':k<l.marks.length:=D_o hq;have hW:=rI p l.marks[k] hpf (hlf.2.2 _ (bS7 h'));have hst:=gP h' (cJ p);rw[<-hI,hst];simp only[go_sem,kK,f2,f3,f5,e2,e3,rZ h',hW.ret,kF];cases hb:cJ p l.marks[k]with
  |false=>simp only[go_sem,kK,bTf,bTk]
  |true=>
   simp only[go_sem,bS6,bTo,f5,h',aR h' hlf.2.1];exact⟨_,_,_,rfl,by simp only[go_sem,f2],by simp only[go_sem,f3],by simp only[go_sem],e2,e3⟩
 ·have:k=l.marks.length:=by simp at hq;omega
  subst this;rw[<-hI,bUo];simp only[go_sem]
def pW (l:bL):Bool:=!(decide (25<l.picks.length)&&decide (l.picks.length<=200))&&decide (l.picks.length<=205)&&decide (l.marks.length<=30)&&l.marks.all bZ
theorem aBg (hlf:l.few):PC L 32 [.agg [.i l.every,.is l.picks,.fz (l.marks.map aA.enc)]] (.bool (pW l)):=by
 have hS:pW l=(!(decide (25<l.picks.length)&&decide (l.picks.length<=200))&&decide (l.picks.length<=205)&&decide (l.marks.length<=30)&&l.marks.all bZ):=rfl;have c1:decide ((25:Int)<(l.picks.length:Int))=decide (25<l.picks.length):=by rw[bUu,bWo,bWo];omega
 have c2:decide ((l.picks.length:Int)<=200)=decide (l.picks.length<=200):=by rw[bUu,bWo,bWo];omega
 have c3:decide ((205:Int)<(l.picks.length:Int))=!decide (l.picks.length<=205):=by rw[bUu,bUb,bWo,bWp];omega
 have c4:decide ((30:Int)<(l.marks.length:Int))=!decide (l.marks.length<=30):=by rw[bUu,bUb,bWo,bWp];omega
 rw[hS]
 refine pcA func32 ?_
 generalize decide (25<l.picks.length)=b1 at c1⊢;generalize decide (l.picks.length<=200)=b2 at c2⊢;generalize decide (l.picks.length<=205)=b3 at c3⊢;generalize decide (l.marks.length<=30)=b4 at c4⊢;cases b1<;>cases b2<;>cases b3<;>cases b4
 all_goals simp only[go_sem,kK,bSy,c1,c2,c3,c4,bTf,bS6,bTo,bTk,bT6,bUc,kF]
 all_goals
  refine bK l.marks.length (fun k st=> ∃fr en cnt,st=⟨fr,en,cnt⟩/\ fr 1= .ptr ⟨0,1,0⟩ 0/\ fr 3= .i (k:Int)/\ en ⟨0,1,0⟩=some (.box [.i l.every,.is l.picks,.fz (l.marks.map aA.enc)] false)/\ (l.marks.drop k).all bZ=l.marks.all bZ) 0 (bS4 _) (by refine⟨_,_,_,rfl,?_,?_,?_,rfl⟩<;>simp only[go_sem]) ?_
  rintro k st hk ⟨fr,en,cnt,rfl,f1,f3,e1,hI⟩
  simp only[go_sem,kK,f1,f3,e1,bSy]
  refine aG (fun hq=>?_) (fun hq=>?_)
  ·have h':k<l.marks.length:=D_o hq;have hW:=nS l.marks[k] (hlf.2.2 _ (bS7 h'));have hst:=gP h' bZ;rw[<-hI,hst];simp only[go_sem,kK,f1,f3,e1,rZ h',hW.ret,kF];cases hb:bZ l.marks[k]with
   |false=>simp only[go_sem,kK,bTf,bTk]
   |true=>
    simp only[go_sem,bS6,bTo,f3,h',aR h' hlf.2.1];exact⟨_,_,_,rfl,by simp only[go_sem,f1],by simp only[go_sem],e1⟩
  ·have:k=l.marks.length:=by simp at hq;omega
   subst this;rw[<-hI,bUo];simp only[go_sem]
theorem bL.eq_iff {a b:bL}:a=b↔a.every=b.every/\ a.picks=b.picks/\ a.marks=b.marks:=by
 cases a;cases b;simp
instance : DecidableEq bL:=fun _ _=>decidable_of_iff _ bL.eq_iff.symm
theorem aFk (h:aU p=true):p.cons.length<=1000:=by
 simp only[aU,bSw,bWo]at h;omega
theorem bIj {a b:fB}:a=b↔a.task=b.task/\ a.act=b.act/\ a.n=b.n/\ a.v.kind=b.v.kind/\ a.v.n=b.v.n:=by
 obtain⟨_,_,_,⟨_,_⟩⟩:=a;obtain⟨_,_,_,⟨_,_⟩⟩:=b;simp
instance : DecidableEq fB:=fun _ _=>decidable_of_iff _ bIj.symm
theorem aY6 {a b:fB}:cW .neq (.agg [.num,.num,.num,.num,.num]) (.agg [.i a.task,.i a.act,.i a.n,.i a.v.kind,.i a.v.n]) (.agg [.i b.task,.i b.act,.i b.n,.i b.v.kind,.i b.v.n])=
  some (.bool (!decide (a=b))):=by
 have e0:decide (a=b)=(decide (a.task=b.task)&&(decide (a.act=b.act)&&(decide (a.n=b.n)&&(decide (a.v.kind=b.v.kind)&&decide (a.v.n=b.v.n))))):=by
  rw[bUu];simp only[bWo,bSw];exact bIj
 rw[e0];simp only[cW,oU,bS8,bTd,and_self,if_true,jJ,vH];have e: ∀x y:Int,(x==y)=decide (x=y):=fun x y=>by by_cases h:x=y<;>simp[h]
 simp only[e]
 by_cases h1:a.task=b.task<;>by_cases h2:a.act=b.act<;>by_cases h3:a.n=b.n<;>by_cases h4:a.v.kind=b.v.kind<;>by_cases h5:a.v.n=b.v.n<;>simp[h1,h2,h3,h4,h5]
def wAt (p:aD)(w:aA)(ks:List Int):Nat->aA
 |0=>w
 |i+1=>(cV p (wAt p w ks i) (ks.getD i 0)).1
def tAt (p:aD)(w:aA)(ks:List Int)(i:Nat):aA×fB×Int:=cV p (wAt p w ks i) (ks.getD i 0)
def oT (p:aD)(w:aA)(ks:List Int)(m:Nat):List fB:=(List.range m).map fun i=>(tAt p w ks i).2.1
def cZ (p:aD)(w:aA)(ks:List Int)(every:Int)(m:Nat):bL:=⟨every,ks.take m,(List.range (m/every.toNat+1)).map fun j=>wAt p w ks (j*every.toNat)⟩
structure gJ (p:aD) (w:aA) (ks:List Int) (every:Int) (m:Nat):Prop where
 g:bJ p w=true
 e1:1<=every
 e2:every<=20
 le:m<=ks.length
 m200:m<=200
 ok: ∀i,i<m->(tAt p w ks i).2.2=0
theorem aOk {k:Int}:(cV p w k).2.2=0 \/(cV p w k).2.2=6 \/(cV p w k).2.2=8:=by
 have h:(fE p w k).2.2.2=0 \/(fE p w k).2.2.2=5 \/(fE p w k).2.2.2=8:=by
  unfold fE
  simp only
  split
  ·exact .inr (.inr rfl)
  split
  ·exact .inr (.inl rfl)
  split
  ·exact .inr (.inr rfl)
  ·exact .inl rfl
 unfold cV
 simp only
 rcases h with h|h|h<;>simp[h]
theorem kP {p:aD}{w:aA}{ks:List Int}(hg:bJ p w=true): ∀i,bJ p (wAt p w ks i)=true
 |0=>hg
 |i+1=>by
  have ih:=kP (ks:=ks) hg i;simp only[bJ,bSw]at ih⊢;exact⟨ih.1,aN3 (kN ih.1) ih.2 _⟩
variable {ks:List Int}
theorem aV7 :oT p w ks (m+1)=oT p w ks m++[(tAt p w ks m).2.1]:=by
 unfold oT;rw[bV4,bT0];rfl
theorem yD :(oT p w ks m).length=m:=by simp[oT]
variable {i:Nat}
theorem aY7 (h:i<m):(oT p w ks m)[i]?=some (tAt p w ks i).2.1:=by simp[oT,h]
variable {every:Int}
section
variable (h:gJ p w ks every m)
include h
theorem gJ.le' (hn:n<=m):gJ p w ks every n:=⟨h.g,h.e1,h.e2,bS9 hn h.le,bS9 hn h.m200,fun i hi=>h.ok i (by omega)⟩
theorem gJ.E :1<=every.toNat/\ every.toNat<=20/\ every=(every.toNat:Int):=by have:=h.e1;have:=h.e2;omega
theorem gJ.len :(cZ p w ks every m).picks.length=m:=by
 show(ks.take m).length=m;rw[bT3,Nat.min_eq_left h.le]
theorem gJ.log :iR p (cZ p w ks every m)=true:=by
 have hg:=h.g;simp only[bJ,bSw]at hg;have h1:=h.e1;have h2:=h.e2;have h3:=h.m200;simp only[iR,bSw,bWo,h.len,inR,bS5]
 refine⟨⟨⟨⟨hg.1,h1,h2⟩,h3⟩,?_⟩,fun x hx=>?_⟩
 ·simp[cZ,aQ]
 ·obtain⟨j,_,rfl⟩:=bTu.1 hx;have:=kP (ks:=ks) h.g (j*every.toNat);simp only[bJ,bSw]at this;exact this.2
theorem gJ.mark {j:Nat}(hj:j<=m/every.toNat):pE (cZ p w ks every m) j=wAt p w ks (j*every.toNat):=by
 have:j<m/every.toNat+1:=by omega
 simp[pE,cZ,this]
theorem gJ.pick (hi:i<m):iP (cZ p w ks every m) i=ks.getD i 0:=by
 unfold iP cZ;rw[bSz,bSz,bWn hi]
theorem gJ.run : ∀(k i:Nat),i+k<=m->aBv p (cZ p w ks every m) i k (wAt p w ks i)=(wAt p w ks (i+k),0)
 |0,i,_=>rfl
 |k+1,i,hk=>by
  rw[aBv,h.pick (by omega)]
  have e:=h.ok i (by omega)
  unfold tAt at e;rw[if_pos e];have:=gJ.run k (i+1) (by omega)
  rw[show i+1+k=i+(k+1)by omega]at this
  exact this
theorem gJ.at_ (hn:n<=m):atX p (cZ p w ks every m) n=(wAt p w ks n,0):=by
 have he:aQ (cZ p w ks every m)=every.toNat:=rfl;unfold atX;have hd:n/every.toNat*every.toNat<=n:=bWd ..;rw[he,h.mark (bWe hn),h.run _ _ (by omega),show n/every.toNat*every.toNat+(n-n/every.toNat*every.toNat)=n by omega]
theorem gJ.after (ht:t<m):aW p (cZ p w ks every m) t=(wAt p w ks (t+1),(tAt p w ks t).2.1,0):=by
 have e:=h.ok t ht;unfold tAt at e;unfold aW;rw[h.at_ (by omega),if_pos rfl,h.pick ht,if_pos e]
 exact Prod.ext rfl (Prod.ext rfl e)
theorem gJ.right : ∀(k t:Nat),t+k<=m->aFi p (cZ p w ks every m) t k= -1
 |0,t,_=>rfl
 |k+1,t,hk=>by
  rw[aFi,h.after (by omega),if_pos rfl,if_neg]
  ·exact gJ.right k (t+1) (by omega)
  ·rintro⟨h1,h2⟩
   refine h2 ?_
   have he:aQ (cZ p w ks every m)=every.toNat:=rfl;rw[he]at h1⊢;rw[h.mark (bWe (by omega)),Nat.div_mul_cancel (bV5 h1)]
theorem gJ.add (hm:m<ks.length)(h2:m<200):bBd p (cZ p w ks every m) (ks.getD m 0)=if(tAt p w ks m).2.2=0 then(cZ p w ks every (m+1),(tAt p w ks m).2.1,0)else(tS,eM,(tAt p w ks m).2.2):=by
 have ht:ks.take (m+1)=ks.take m++[ks.getD m 0]:=by
  rw[List.take_succ_eq_append_getElem hm,bSz,bTy hm];rfl
 unfold bBd;rw[h.len,if_neg (by omega),h.at_ (bSx m),if_pos rfl]
 simp only
 have e:cV p (wAt p w ks m) (ks.getD m 0)=tAt p w ks m:=rfl;rw[e]
 by_cases h0:(tAt p w ks m).2.2=0
 ·rw[if_pos h0,if_pos h0];have he:aQ (cZ p w ks every m)=every.toNat:=rfl;rw[he];have hE:=h.E.1;have:(cZ p w ks every (m+1)).marks=if(m+1)%every.toNat=0 then(cZ p w ks every m).marks++[(tAt p w ks m).1]else(cZ p w ks every m).marks:=by
   unfold cZ
   simp only
   rw[Nat.succ_div]
   by_cases hd:(m+1)%every.toNat=0
   ·rw[if_pos hd,if_pos (bV5 hd),bV4,bT0,List.map_singleton];have hx:(m/every.toNat+1)*every.toNat=m+1:=by
     have h3:(m+1)/every.toNat=m/every.toNat+1:=by rw[Nat.succ_div,if_pos (bV5 hd)]
     rw[<-h3];exact Nat.div_mul_cancel (bV5 hd)
    rw[hx];rfl
   ·rw[if_neg hd,if_neg (fun x=>hd (Nat.mod_eq_zero_of_dvd x)),bUk]
  rw[<-this]
  refine Prod.ext ?_ rfl
  simp only[cZ,bL.mk.injEq,true_and,and_true];exact ht.symm
 ·rw[if_neg h0,if_neg h0]
theorem gJ.next (hm:m<ks.length)(h2:m<200)(h0:(tAt p w ks m).2.2=0):gJ p w ks every (m+1):=
 ⟨h.g,h.e1,h.e2,hm,h2,fun i hi=>by
  rcases bT5 i m with hx|hx
  ·exact h.ok i hx
  ·obtain rfl:i=m:=by omega
   exact h0⟩
end
theorem gJ.zero (hg:bJ p w=true)(e1:1<=every)(e2:every<=20):gJ p w ks every 0:=⟨hg,e1,e2,bS4 _,bS4 _,fun i hi=>absurd hi (Nat.not_lt_zero i)⟩
theorem bBk (hs:(aJ p w 0).2.2=true):aIt p w every=(cZ p (aJ p w 0).1 ks every 0,0):=by
 unfold aIt;rw[if_pos hs];simp[cZ,wAt]
set_option maxRecDepth 100000
set_option maxHeartbeats 4000000
def aDb (p:aD)(w:aA)(ks:List Int)(every:Int):Bool:=aU p&&bZ w&&bJ p w&&decide (ks.length<=15)&&decide (1<=every)&&decide (every<=20)
theorem uS (hpf:p.few)(hwf:w.few)(ks:List Int)(every:Int):PC L 8 [.agg p.cs,.agg w.cs,.is ks,.i every] (.bool (aDb p w ks every)):=by
 have h1:=aIj p hpf;have h2:=nS w hwf;have c1:decide ((ks.length:Int)<=15)=decide (ks.length<=15):=by rw[bUu,bWo,bWo];omega
 unfold aDb bJ
 refine pcA func8 ?_
 cases hsp:aU p with
 |false=>rw[hsp]at h1;simp only[go_sem,kK,h1.ret,bTk,kF]
 |true=>
 rw[hsp]at h1;cases hsw:bZ w with
 |false=>rw[hsw]at h2;simp only[go_sem,kK,h1.ret,h2.ret,bTk,bT6,kF]
 |true=>
 rw[hsw]at h2;have h3:=aEe p hpf (aFk hsp);have h4:=rI p w hpf hwf;cases hf:fJ p with
 |false=>rw[hf]at h3;simp only[go_sem,kK,h1.ret,h2.ret,h3.ret,bTk,bUc,bT6,kF]
 |true=>
 rw[hf]at h3;cases hw:cJ p w with
 |false=>rw[hw]at h4;simp only[go_sem,kK,h1.ret,h2.ret,h3.ret,h4.ret,bTk,bUc,bT6,kF]
 |true=>
 rw[hw]at h4;rcases Decidable.em (ks.length<=15)with h5|h5<;>rcases Decidable.em (1<=every)with h6|h6<;>rcases Decidable.em (every<=20)with h7|h7
 all_goals simp only[go_sem,kK,h1.ret,h2.ret,h3.ret,h4.ret,bSy,c1,h5,h6,h7,decide_false,bUc,bT6,decide_true,kF]
theorem bHf (hg:bJ p w=true)(e1:1<=every)(e2:every<=20)(hk:ks.length<=200): ∃m,gJ p w ks every m/\ (m=ks.length \/ ¬(tAt p w ks m).2.2=0):=by
 have: ∀n,n<=ks.length->(∃m,gJ p w ks every m/\ ¬(tAt p w ks m).2.2=0) \/gJ p w ks every n:=by
  intro n
  induction n with
  |zero=>intro _;exact .inr (.zero hg e1 e2)
  |succ n ih=>
   intro hn;rcases ih (by omega)with h|h
   ·exact .inl h
   ·by_cases h0:(tAt p w ks n).2.2=0
    ·exact .inr (h.next (by omega) (by omega) h0)
    ·exact .inl ⟨n,h,h0⟩
 rcases this _ (bSx _)with⟨m,h1,h2⟩|h
 ·exact⟨m,h1,.inr h2⟩
 ·exact⟨_,h,.inl rfl⟩
section
variable (h:gJ p w ks every m)(hsp:aU p=true)
include h hsp
theorem gJ.few :(cZ p w ks every m).few:=by
 have hE:=h.E;have h2:=h.m200
 refine⟨?_,?_,fun x hx=>?_⟩
 ·rw[h.len];unfold Few;omega
 ·have:=Nat.div_le_self m every.toNat;simp only[cZ,bSy,List.length_range];unfold Few;omega
 ·obtain⟨j,_,rfl⟩:=bTu.1 hx;exact fC hsp (kP h.g _)
theorem gJ.small (hm:m<=25):pW (cZ p w ks every m)=true:=by
 have:=Nat.div_le_self m every.toNat;simp only[pW,h.len,bSw,bS5,bWo,bUb]
 refine⟨⟨⟨?_,by omega⟩,?_⟩,fun x hx=>?_⟩
 ·rw[D_f (by omega)];rfl
 ·simp only[cZ,bSy,List.length_range];omega
 ·obtain⟨j,_,rfl⟩:=bTu.1 hx;have:=kP (ks:=ks) h.g (j*every.toNat);simp only[bJ,bSw]at this;exact lB hsp this.2
end
theorem aHt {l:List Int}{k:Nat}(h:k<l.length):mH 1 en (.is l) (.i (k:Int))=some {v:= .fp [.i (l.getD k 0)] 0}:=by
 simp[mH,h];exact⟨rfl,rfl⟩
theorem tW (hpf:p.few)(hwf:w.few)(hsp:aU p=true)(hks:ks.length<=25)(hg:bJ p w=true)(e1:1<=every)(e2:every<=20):
  ((aJ p w 0).2.2=false/\ PC L 10 [.agg p.cs,.agg w.cs,.is ks,.i every] (.tup [.agg tS.cs,.fz [],.bool false,.bool true])) \/
  ((aJ p w 0).2.2=true/\ ∃m,gJ p (aJ p w 0).1 ks every m/\ (m=ks.length \/ ¬(tAt p (aJ p w 0).1 ks m).2.2=0)/\
   PC L 10 [.agg p.cs,.agg w.cs,.is ks,.i every] (.tup [.agg (cZ p (aJ p w 0).1 ks every m).cs,.fz ((oT p (aJ p w 0).1 ks m).map evV),.bool true,.bool true])):=by
 have hB:=aPb hpf hwf hsp every;rw[show aSw p w every=aIt p w every from if_pos ⟨hg,e1,e2⟩]at hB
 by_cases hs:(aJ p w 0).2.2=true
 case neg=>
  refine .inl ⟨by simpa using hs,?_⟩
  rw[show aIt p w every=(tS,8)from if_neg hs]at hB
  simp only[bL.enc,tS,bL.cs,bTe]at hB⊢
  refine pcA func10 ?_
  simp only[go_sem,kK,hB.ret,bTf,decide_true,kF]<;>rfl
 have hg0:=(qT hg hs).1;obtain⟨m,hm,hend⟩:=bHf (ks:=ks) hg0 e1 e2 (by omega)
 refine .inr ⟨hs,m,hm,hend,?_⟩
 rw[bBk (ks:=ks) hs]at hB;simp only[bL.enc]at hB;clear hs;generalize (aJ p w 0).1=w0 at*;have hml:=hm.le
 refine pcA func10 ?_
 simp only[go_sem,kK,hB.ret,bSy,bS6,decide_true,kF]
 refine bK m (fun k st=> ∃fr en cnt,st=⟨fr,en,cnt⟩/\ fr 4= .ptr ⟨0,4,0⟩ 0/\ fr 8= .ptr ⟨0,8,0⟩ 0/\ fr 12= .ptr ⟨0,12,0⟩ 0/\ fr 32= .is ks/\ fr 33= .i (ks.length:Int)/\ fr 34= .i (k:Int)/\ en ⟨0,4,0⟩=some (.box p.cs false)/\ en ⟨0,8,0⟩=some (.box [.i 0,.cl [],.cl []] false)/\ en ⟨0,12,0⟩=some (.box (cZ p w0 ks every k).cs false)/\ cX en (fr 14) 5 ((oT p w0 ks k).map evV) [64]) 0 (bS4 _) (by refine⟨_,_,_,rfl,?_,?_,?_,?_,?_,?_,?_,?_,?_,by simp only[go_sem];exact cX.nil _ _⟩<;>simp only[go_sem]) ?_
 rintro k st hk ⟨fr,en,cnt,rfl,f4,f8,f12,f32,f33,f34,e4,e8,e12,hM⟩
 have hk':=hm.le' hk;have hlf:=hk'.few hsp;have hlg:=aOj hpf hlf (aFk hsp);rw[hk'.log]at hlg;have hcase:(k=m/\ ¬k<ks.length) \/(k=m/\ k<ks.length/\ ¬(tAt p w0 ks k).2.2=0) \/(k<m/\ k<ks.length/\ (tAt p w0 ks k).2.2=0):=by
  rcases bT5 k m with h|h
  ·exact .inr (.inr ⟨h,by omega,hm.ok k h⟩)
  ·obtain rfl:k=m:=by omega
   rcases hend with h|h
   ·exact .inl ⟨rfl,by omega⟩
   ·by_cases h':k<ks.length
    ·exact .inr (.inl ⟨rfl,h',h⟩)
    ·exact .inl ⟨rfl,h'⟩
 simp only[go_sem,kK,f33,f34];have hA:=aKc hpf hlf hsp (ks.getD k 0);rw[show bBj p (cZ p w0 ks every k) (ks.getD k 0)=bBd p (cZ p w0 ks every k) (ks.getD k 0)from if_pos hk'.log]at hA
 have hk2:=hm.m200;rcases hcase with⟨rfl,a⟩|⟨rfl,a,b⟩|⟨a,a',b⟩
 case' inl=>simp only[go_sem,D_f a,f8,e8]
 case' inr.inl=>
  rw[hk'.add a (by omega),if_neg b]at hA
  simp only[bL.enc,evV,tS,eM,iV,Val.is,bTe]at hA;have hcd:decide ((tAt p w0 ks k).2.2=6)=true \/(decide ((tAt p w0 ks k).2.2=6)=false/\ decide ((tAt p w0 ks k).2.2=8)=true):=by
   rcases aOk (p:=p) (w:=wAt p w0 ks k) (k:=ks.getD k 0)with h|h|h
   ·exact absurd h b
   ·exact .inl (D_t h)
   ·refine .inr ⟨D_f ?_,D_t h⟩
    intro h';have:(6:Int)=8:=h'.symm.trans h;exact absurd this (by decide)
  simp only[go_sem,kK,D_t a,f4,f12,f32,f34,e4,e12,aHt a,hA.ret,kF];rcases hcd with hcd|⟨hcd,hcd'⟩
  case' inl=>simp only[go_sem,kK,hcd,f8,f34,e8,kF]
  case' inr=>simp only[go_sem,kK,hcd,hcd',f8,f34,e8,kF]
 case inr.inr=>
  rw[hk'.add a' (by omega),if_pos b]at hA
  simp only[bL.enc,evV]at hA;have hS:=aBg ((hk'.next a' (by omega) b).few hsp)
  rw[(hk'.next a' (by omega) b).small hsp (by omega)]at hS
  simp only[go_sem,kK,D_t a',f4,f12,f32,f34,e4,e12,aHt a',hA.ret,hS.ret,bS6,decide_true,kF];have hlen:((oT p w0 ks k).map evV).length=k:=by rw[bSy,yD]
  refine jO (D:=[64]) (xs:=(oT p w0 ks k).map evV) (ys:=[evV (tAt p w0 ks k).2.1]) (rs:=[]) ?_ ?_ rfl ?_ ?_
  ·simp only[go_sem];exact hM.keep fun t g ht=>by simp at ht;subst ht;simp only[go_sem]
  ·simp only[go_sem,evV]
  ·rw[hlen];simp;omega
  intro v' en' cnt' hown hen hcnt;have k4:=(hen 0 4 0 (.inr ⟨by decide,by simp⟩)).trans (by simp only[go_sem,e4]:_=some (.box p.cs false))
  have k8:=(hen 0 8 0 (.inr ⟨by decide,by simp⟩)).trans (by simp only[go_sem,e8]:_=some (.box [.i 0,.cl [],.cl []] false))
  have k12:=(hen 0 12 0 (.inr ⟨by decide,by simp⟩)).trans (by simp only[go_sem]:_=some (.box (cZ p w0 ks every (k+1)).cs false))
  simp only[go_sem,f34,aR a' (by unfold Few;omega)]
  refine⟨a,_,_,_,rfl,by simp only[go_sem,f4],by simp only[go_sem,f8],by simp only[go_sem,f12],by simp only[go_sem,f32],by simp only[go_sem,f33],by simp only[go_sem],by simp only[go_sem,k4],by simp only[go_sem,k8],by simp only[go_sem,k12],?_⟩
  simp only[go_sem];rw[aV7,bT0];exact hown.sub (by simp)
 all_goals
  refine aH ?_
  simp only[go_sem,f4,f12,e4,e12,kA,kF];simp only[go_sem,hlg.ret,f12,e12,hk'.len,bTo,bUc,bT6,kA,kF];simp only[go_sem,hM.len,bSy,yD,f8,e8,bUc,bT6,Bool.true_or,decide_true,kA,kF];obtain⟨r,kk,t3,t1⟩:=aNf hM 6;rw[t1 _ (fun g=>by simp only[go_sem])]
  simp only[go_sem,t3]
theorem yE (h:aDb p w ks every=true):aU p=true/\ bJ p w=true/\ ks.length<=15/\ 1<=every/\ every<=20:=by
 simp only[aDb,bSw,bWo]at h;exact⟨h.1.1.1.1.1,h.1.1.1.2,h.1.1.2,h.1.2,h.2⟩
section
variable (h:gJ p w ks every m)
include h
theorem gJ.atR (hn:n<=m):atR p (cZ p w ks every m) n=(wAt p w ks n,(n:Int)%every,0):=by
 have hx:aQ (cZ p w ks every m)=every.toNat:=rfl;have he:=h.E.2.2;unfold Go.Proofs.YtmafmhjndjmalaaGreat.atR;rw[if_pos ⟨h.log,by omega,by rw[h.len];omega⟩,bTt,h.at_ hn,if_pos rfl,hx,<-he]
end
end Go.Proofs.YtmafmhjndjmalaaGreat

