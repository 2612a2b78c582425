import Derived.Test.YtmafmhjndjmalaaGreatM3d
import Derived.Test.YtmafmhjndjmalaaGreatM1d
set_option linter.all false
open Bool renaming and_eq_false_iff -> bTj, and_eq_true -> bQj, and_false -> bRp, and_true -> bRy, eq_iff_iff -> bSw, false_and -> bQ7, false_or -> bRf, not_eq_true' -> bRw, not_false -> bQ5, not_true -> bQ0, or_eq_true -> bRr, true_and -> bQ9
open Int renaming eq_ofNat_of_zero_le -> bRn, le_refl -> bS9, not_lt -> bSy, tdiv_eq_ediv_of_nonneg -> bT7, toNat_natCast -> bRh
open List renaming all_eq_true -> bQp, append_nil -> bRk, drop_length -> bSh, getD_eq_getElem?_getD -> bQn, getElem?_append_left -> bSq, getElem?_eq_getElem -> bRq, getElem?_set_ne -> bTx, getElem_mem -> bQr, length_append -> bQ2, length_cons -> bQu, length_map -> bQl, length_nil -> bQz, length_pos_iff -> bTm, length_set -> bSb, length_singleton -> bS0, length_take -> bR2, map_append -> bRl, map_cons -> bRj, map_nil -> bQ1, map_take -> bSc, mem_append -> bRb, mem_append_left -> bSu, mem_append_right -> bSe, mem_cons -> bRm, mem_filter -> bR6, mem_flatMap -> bRx, mem_map -> bRe, mem_range -> bRi, mem_singleton -> bR3, nil_append -> bRo, prefix_refl -> bR7, range_succ -> bTp, replicate_succ -> bR0, replicate_zero -> bRz, take_length -> bR1, take_succ_cons -> bQs, take_zero -> bQq
open Nat renaming add_zero -> bR5, div_mul_le_self -> bT3, dvd_of_mod_eq_zero -> bTy, le_refl -> bQk, le_trans -> bQv, lt_irrefl -> bS1, lt_of_lt_of_le -> bRa, lt_or_ge -> bRs, mul_le_mul_right -> bRv, zero_le -> bQt
namespace Go.Proofs.YtmafmhjndjmalaaGreat
open Go.Abs Go.Proofs Tryz
set_option maxRecDepth 100000
set_option maxHeartbeats 4000000
theorem xX (p:aF)(l:cG)(hp:p.few)(hl:l.few)(hsp:aS p=true)(h:aGr p l=true):PC L 44 [.agg p.cs,.agg l.cs] ((ply p l)):=by
 have hC:=aCv p l hp hl hsp;rw[if_pos h]at hC
 refine pcA func44 ?_
 simp only[go_sem,kK]
 refine bR ?_
 simp only[go_sem,hC.ret,(bZ _).ret]
theorem xY (p:aF)(l:cG)(hp:p.few)(hl:l.few)(hsp:aS p=true)(h:aGr p l=false):PX L 44 [.agg p.cs,.agg l.cs] (sK 2):=by
 have hC:=aCv p l hp hl hsp;rw[h,if_neg (by decide)]at hC
 refine pxA func44 ?_
 simp only[go_sem,kK]
 refine cO 4 rfl ?_
 simp only[go_sem,bQs,bQq,hC.ret,(dM _).ret]
variable {p:aF}{w:aA}
theorem aBe (hg:bM p w=true)(pick:Int):((cQ p w pick).2.2=0/\ (zU p w pick).2.2.2=0/\ zU p w pick=eL p w pick/\ (cQ p w pick).1=(eL p w pick).1/\ (cQ p w pick).2.1=(eL p w pick).2.1) \/
  ((zU p w pick).2.2.2=5/\ (cQ p w pick).2.2=6) \/((zU p w pick).2.2.2=8/\ (cQ p w pick).2.2=8):=by
 unfold zU cQ;rw[if_pos hg]
 simp only
 rcases aY7 p w pick with h|h|h
 ·refine .inl ⟨?_,?_,?_,?_,?_⟩<;>simp[h]
 ·exact .inr (.inl ⟨by simp[h],by simp[h]⟩)
 ·exact .inr (.inr ⟨by simp[h],by simp[h]⟩)
theorem vA (p:aF)(l:cG)(w:aA)(pick:Int)(hp:p.few)(hw:w.few)(hsp:aS p=true)(hg:bM p w=true)(h:(cQ p w pick).2.2=0):
  PC L 89 [(ply p l),.agg w.cs,.i pick] (.tup [.agg (cQ p w pick).1.cs,evV (cQ p w pick).2.1]):=by
 have hT:=aFl p w pick hp hw hsp;obtain⟨_,h0,e1,e2,e3⟩:(cQ p w pick).2.2=0/\ (zU p w pick).2.2.2=0/\ zU p w pick=eL p w pick/\ (cQ p w pick).1=(eL p w pick).1/\ (cQ p w pick).2.1=(eL p w pick).2.1:=by
  rcases aBe hg pick with h'|⟨_,h'⟩|⟨_,h'⟩
  ·exact h'
  ·rw[h]at h';cases h'
  ·rw[h]at h';cases h'
 rw[h0,e1]at hT;rw[e2,e3]
 refine pcA func89 ?_
 simp only[go_sem,kK]
 refine aG ?_
 simp only[go_sem,hT.ret,evV,kA,kF]
 refine bR ?_
 simp only[go_sem,(bZ _).ret]
 refine bR ?_
 simp only[go_sem,(bZ _).ret]
 refine aG ?_
 simp only[go_sem,kA,kF]
theorem vB (p:aF)(l:cG)(w:aA)(pick:Int)(hp:p.few)(hw:w.few)(hsp:aS p=true)(hg:bM p w=true)(h: ¬(cQ p w pick).2.2=0):
  PX L 89 [(ply p l),.agg w.cs,.i pick] (sK (cQ p w pick).2.2):=by
 have hT:=aFl p w pick hp hw hsp;rcases aBe hg pick with h'|⟨h1,h2⟩|⟨h1,h2⟩
 ·exact absurd h'.1 h
 ·rw[h1]at hT;rw[h2]
  refine pxA func89 ?_
  simp only[go_sem,kK]
  refine aG ?_
  simp only[go_sem,hT.ret,evV,kA,kF]
  refine cO 2 rfl ?_
  simp only[go_sem,bQs,bQq,(dM _).ret]
 ·rw[h1]at hT;rw[h2]
  refine pxA func89 ?_
  simp only[go_sem,kK]
  refine aG ?_
  simp only[go_sem,hT.ret,evV,kA,kF]
  refine bR ?_
  simp only[go_sem,(bZ _).ret]
  refine cO 3 rfl ?_
  simp only[go_sem,bQs,bQq,(dM _).ret]
theorem aLs (w:aA)(hw:w.few)(hs:bU w=true):PC L 48 [.agg w.cs] (.agg w.cs):=by
 obtain⟨b1,b2,b3,b4⟩:=aKo hs;have c1:=qH (w.tasks.map (.int .i64)) (rW _) (by simp;omega)
 have c2:=aEv (w.outs.map bL.enc) (aHn _) (by simp;omega)
 have c3:=qH (w.ins.map (.int .i64)) (rW _) (by simp;omega)
 refine pcA func48 ?_
 simp only[go_sem,kK]
 refine aIi (fun st=>st.fr 2= .ptr ⟨0,2,0⟩ 0/\ st.en ⟨0,2,0⟩=some (.box [.cl [],.cl [],.cl [],.cl [],.i 0] false)/\ st.fr 1= .ptr ⟨0,1,0⟩ 0/\ st.en ⟨0,1,0⟩=some (.box [.fz (w.objs.map aN.enc),.fz (w.tasks.map (.int .i64)),.fz (w.outs.map bL.enc),.fz (w.ins.map (.int .i64)),.i w.used] false)/\ st.fr 3= .ptr ⟨0,3,0⟩ 0/\
  ∃vT vO vI,st.en ⟨0,3,0⟩=some (.box [.cl [],vT,vO,vI,.i w.used] false)/\ cR st.en vT 1 (w.tasks.map (.int .i64)) [11]/\ cR st.en vO 2 (w.outs.map bL.enc) [14]/\ cR st.en vI 1 (w.ins.map (.int .i64)) [17]) ?_ ?_
 ·refine aG ?_
  rcases iY 1 (w.tasks.map (Val.int .i64))with⟨t1,t2⟩|⟨t1,t2⟩<;>rw[t2]at c1<;>
  rcases iY 2 (w.outs.map bL.enc)with⟨o1,o2⟩|⟨o1,o2⟩<;>rw[o2]at c2<;>
  rcases iY 1 (w.ins.map (Val.int .i64))with⟨i1,i2⟩|⟨i1,i2⟩<;>rw[i2]at c3
  all_goals simp only[go_sem,kA,kF,c1.ret,c2.ret,c3.ret,bQl,bQk,if_true,kB]
  all_goals refine⟨_,_,_,rfl,?_,?_,?_⟩
  all_goals first
   |exact .inl ⟨rfl,by assumption⟩
   |exact aIj (by simp only[go_sem];try rfl) (by simp only[bQl])
 ·rintro fr en cnt ⟨h2,e2,h1,e1,h3,vT,vO,vI,e3,mT,mO,mI⟩
  dsimp only at h2 e2 h1 e1 h3 e3 mT mO mI;simp only[go_sem,h1,e1]
  refine bQ w.objs.length (fun k st=> ∃fr en cnt v,st=⟨fr,en,cnt⟩/\ fr 2= .ptr ⟨0,2,0⟩ 0/\ en ⟨0,2,0⟩=some (.box [.cl [],.cl [],.cl [],.cl [],.i 0] false)/\ fr 3= .ptr ⟨0,3,0⟩ 0/\ en ⟨0,3,0⟩=some (.box [v,vT,vO,vI,.i w.used] false)/\ fr 22= .fz (w.objs.map aN.enc)/\ fr 23= .i w.objs.length/\ fr 24= .i k/\
   cR en vT 1 (w.tasks.map (.int .i64)) [11]/\ cR en vO 2 (w.outs.map bL.enc) [14]/\ cR en vI 1 (w.ins.map (.int .i64)) [17]/\ cR en v 4 ((w.objs.take k).map aN.enc) [62]) 0 (bQt _) ⟨_,_,_,.cl [],rfl,by simp only[go_sem,h2],by simp only[go_sem,e2],by simp only[go_sem,h3],by simp only[go_sem,e3],by simp only[go_sem],by simp only[go_sem],by simp only[go_sem],mT,mO,mI,cR.nil _ _⟩ ?_
  rintro k st hk ⟨fr,en,cnt,v,rfl,h2,e2,h3,e3,h22,h23,h24,mT,mO,mI,hv⟩
  simp only[go_sem,kK,h23,h24]
  refine aH (fun hq=>?_) (fun hq=>?_)
  ·have h':k<w.objs.length:=D_o hq;have hso:=aKk hs _ (bQr h');obtain⟨d1,d2,d3⟩:=aNg hso;simp only[go_sem,h',h22,h24];generalize ho:w.objs[k]=o;rw[ho]at hso d1 d2 d3;have hvl:=qI (o.vals.map aD.enc) (vW _) (by simp;omega)
   have hfo:Few o.frames.length:=by unfold Few;omega
   generalize hg5:cnt 0 5=g5;generalize hg6:cnt 0 6=g6
   refine aIi (fun st=>st.fr 2= .ptr ⟨0,2,0⟩ 0/\ st.en ⟨0,2,0⟩=some (.box [.cl [],.cl [],.cl [],.cl [],.i 0] false)/\ st.fr 3= .ptr ⟨0,3,0⟩ 0/\ st.en ⟨0,3,0⟩=some (.box [v,vT,vO,vI,.i w.used] false)/\ st.fr 22= .fz (w.objs.map aN.enc)/\ st.fr 23= .i w.objs.length/\ st.fr 24= .i k/\ st.fr 5= .ptr ⟨0,5,g5⟩ 0/\ st.en ⟨0,5,g5⟩=some (.box [.i o.form,.i o.n,.fz (o.vals.map aD.enc),.fz (o.frames.map aB.enc)] false)/\ st.fr 6= .ptr ⟨0,6,g6⟩ 0/\ ∃u,st.en ⟨0,6,g6⟩=some (.box [.i o.form,.i o.n,u,.cl []] false)/\
    cR st.en u 2 (o.vals.map aD.enc) [34]/\ cR st.en vT 1 (w.tasks.map (.int .i64)) [11]/\ cR st.en vO 2 (w.outs.map bL.enc) [14]/\ cR st.en vI 1 (w.ins.map (.int .i64)) [17]/\ cR st.en v 4 ((w.objs.take k).map aN.enc) [62]) ?_ ?_
   ·refine aG ?_
    rcases iY 2 (o.vals.map aD.enc)with⟨t1,t2⟩|⟨t1,t2⟩<;>rw[t2]at hvl
    all_goals simp only[go_sem,hg6,h2,e2,h3,e3,h22,h23,h24,kA,kF,hvl.ret,bQl,bQk,if_true,kB]
    all_goals refine⟨_,rfl,?_,?_,?_,?_,?_⟩
    all_goals first
     |(simp only[go_sem,qW,h2,e2,h3,e3,h22,h23,h24];done)
     |(refine mT.keep fun t g ht=>?_;simp at ht;subst ht;simp only[go_sem];done)
     |(refine mO.keep fun t g ht=>?_;simp at ht;subst ht;simp only[go_sem];done)
     |(refine mI.keep fun t g ht=>?_;simp at ht;subst ht;simp only[go_sem];done)
     |(refine hv.keep fun t g ht=>?_;simp at ht;subst ht;simp only[go_sem];done)
     |exact .inl ⟨rfl,by assumption⟩
     |exact aIj (by simp only[go_sem];try rfl) (by simp only[bQl])
     |skip
   ·rintro fr en cnt ⟨h2,e2,h3,e3,h22,h23,h24,h5,e5,h6,u,e6,mV,mT,mO,mI,hv⟩
    dsimp only at h2 e2 h3 e3 h22 h23 h24 h5 e5 h6 e6 mV mT mO mI hv;simp only[go_sem,h5,e5]
    refine bQ o.frames.length (fun j st=> ∃fr en cnt x,st=⟨fr,en,cnt⟩/\ fr 2= .ptr ⟨0,2,0⟩ 0/\ en ⟨0,2,0⟩=some (.box [.cl [],.cl [],.cl [],.cl [],.i 0] false)/\ fr 3= .ptr ⟨0,3,0⟩ 0/\ en ⟨0,3,0⟩=some (.box [v,vT,vO,vI,.i w.used] false)/\ fr 22= .fz (w.objs.map aN.enc)/\ fr 23= .i w.objs.length/\ fr 24= .i k/\ fr 6= .ptr ⟨0,6,g6⟩ 0/\ en ⟨0,6,g6⟩=some (.box [.i o.form,.i o.n,u,x] false)/\ fr 37= .fz (o.frames.map aB.enc)/\ fr 38= .i o.frames.length/\ fr 39= .i j/\
     cR en u 2 (o.vals.map aD.enc) [34]/\ cR en x 3 ((o.frames.take j).map aB.enc) [55]/\ cR en vT 1 (w.tasks.map (.int .i64)) [11]/\ cR en vO 2 (w.outs.map bL.enc) [14]/\ cR en vI 1 (w.ins.map (.int .i64)) [17]/\ cR en v 4 ((w.objs.take k).map aN.enc) [62]) 0 (bQt _) ⟨_,_,_,.cl [],rfl,by simp only[go_sem,h2],by simp only[go_sem,e2],by simp only[go_sem,h3],by simp only[go_sem,e3],by simp only[go_sem,h22],by simp only[go_sem,h23],by simp only[go_sem,h24],by simp only[go_sem,h6],by simp only[go_sem,e6],by simp only[go_sem],by simp only[go_sem],by simp only[go_sem],?_,cR.nil _ _,?_,?_,?_,?_⟩ ?_
    ·exact mV.keep fun t g ht=>by simp at ht;subst ht;simp only[go_sem]
    ·exact mT.keep fun t g ht=>by simp at ht;subst ht;simp only[go_sem]
    ·exact mO.keep fun t g ht=>by simp at ht;subst ht;simp only[go_sem]
    ·exact mI.keep fun t g ht=>by simp at ht;subst ht;simp only[go_sem]
    ·exact hv.keep fun t g ht=>by simp at ht;subst ht;simp only[go_sem]
    rintro j st hj ⟨fr,en,cnt,x,rfl,h2,e2,h3,e3,h22,h23,h24,h6,e6,h37,h38,h39,mV,mX,mT,mO,mI,hv⟩
    simp only[go_sem,kK,h38,h39]
    refine aH (fun hq'=>?_) (fun hq'=>?_)
    ·have h'':j<o.frames.length:=D_o hq';have hb:=d3 _ (bQr h'');simp only[go_sem,h'',h37,h39];generalize hf:o.frames[j]=f;rw[hf]at hb;have ce:=qI (f.env.map aD.enc) (vW _) (by simp;omega)
     have cv:=qI (f.vals.map aD.enc) (vW _) (by simp;omega)
     refine aG ?_
     rcases iY 2 (f.env.map aD.enc)with⟨t1,t2⟩|⟨t1,t2⟩<;>rw[t2]at ce<;>
     rcases iY 2 (f.vals.map aD.enc)with⟨u1,u2⟩|⟨u1,u2⟩<;>rw[u2]at cv
     all_goals simp only[go_sem,h6,e6,kA,kF,ce.ret,cv.ret,bQl,bQk,if_true,qJ,kB]
     all_goals
      have hap:=mX.shape
      refine aGc (D:=[55]) (xs:=(o.frames.take j).map aB.enc) (ys:=[aB.enc f]) (rs:=[]) ?_ ?_ ?_ rfl ?_ ?_
      ·simp only[go_sem];exact mX.keep fun t g ht=>by simp at ht;subst ht;simp only[go_sem]
      ·simp only[go_sem,t1,u1]
      ·first|rfl|simp[aB.enc]
      ·simp;omega
      ·intro v' en' cnt' r hown hen hcnt _ _ _;have k2:en' ⟨0,2,0⟩=some (.box [.cl [],.cl [],.cl [],.cl [],.i 0] false):=by rw[hen 0 2 0 (.inr ⟨by decide,by simp⟩)];simp only[go_sem,e2]
       have k3:en' ⟨0,3,0⟩=some (.box [v,vT,vO,vI,.i w.used] false):=by rw[hen 0 3 0 (.inr ⟨by decide,by simp⟩)];simp only[go_sem,e3]
       have k6:en' ⟨0,6,g6⟩=some (.box [.i o.form,.i o.n,u,x] false):=by rw[hen 0 6 g6 (.inr ⟨by decide,by simp⟩)];simp only[go_sem,e6]
       obtain⟨s1,s2⟩:=hown.shape;simp only[go_sem,h6,k6,h39,s1,s2]
       refine⟨_,_,_,v',rfl,?_⟩
       simp only[go_sem,h2,k2,h3,k3,h22,h23,h24,h6,h37,h38,aR h'' hfo]
       refine⟨mV.keep ?_,?_,mT.keep ?_,mO.keep ?_,mI.keep ?_,hv.keep ?_⟩
       ·intro t g ht;simp at ht;subst ht;rw[jE (by simp),hen 0 34 g (.inr ⟨by decide,by simp⟩)];simp only[go_sem]
       ·rw[gM h'',bRl,hf]
        refine cR.sub (D:=[55,55]) (cR.keep (en:=en') hown ?_) (by simp)
        intro t g ht;simp at ht;subst ht;simp only[go_sem]
       ·intro t g ht;simp at ht;subst ht;rw[jE (by simp),hen 0 11 g (.inr ⟨by decide,by simp⟩)];simp only[go_sem]
       ·intro t g ht;simp at ht;subst ht;rw[jE (by simp),hen 0 14 g (.inr ⟨by decide,by simp⟩)];simp only[go_sem]
       ·intro t g ht;simp at ht;subst ht;rw[jE (by simp),hen 0 17 g (.inr ⟨by decide,by simp⟩)];simp only[go_sem]
       ·intro t g ht;simp at ht;subst ht;rw[jE (by simp),hen 0 62 g (.inr ⟨by decide,by simp⟩)];simp only[go_sem]
    ·have:j=o.frames.length:=by simp at hq';omega
     subst this;rw[bR1]at mX;have kend: ∀(fr:Nat->Val) (en:En) (cnt:Nat->Nat->Nat),fr 2= .ptr ⟨0,2,0⟩ 0->en ⟨0,2,0⟩=some (.box [.cl [],.cl [],.cl [],.cl [],.i 0] false)->fr 3= .ptr ⟨0,3,0⟩ 0->en ⟨0,3,0⟩=some (.box [v,vT,vO,vI,.i w.used] false)->fr 22= .fz (w.objs.map aN.enc)->fr 23= .i w.objs.length->fr 24= .i k->
       cR en vT 1 (w.tasks.map (.int .i64)) [11]->cR en vO 2 (w.outs.map bL.enc) [14]->cR en vI 1 (w.ins.map (.int .i64)) [17]->
       ∀v' en' cnt',cR en' v' 4 ((w.objs.take k).map aN.enc++[aN.enc o]) [62,62]->(∀n t g,n≠0 \/(t≠62/\ t∉[62])->en' ⟨n,t,g⟩=en ⟨n,t,g⟩)->(∀n t,t≠62->cnt' n t=cnt n t)->
       gD L [fA 63 0 3,sT 1 63 62] ⟨jD fr 62 v',en',cnt'⟩ fun st'=>gD L [bN 64 BinOp.add (Opd.t 24) (cI 1),Abs.mT 24 64] st' fun st'=> ∃fr en cnt v,st'=⟨fr,en,cnt⟩/\ fr 2= .ptr ⟨0,2,0⟩ 0/\ en ⟨0,2,0⟩=some (.box [.cl [],.cl [],.cl [],.cl [],.i 0] false)/\ fr 3= .ptr ⟨0,3,0⟩ 0/\ en ⟨0,3,0⟩=some (.box [v,vT,vO,vI,.i w.used] false)/\ fr 22= .fz (w.objs.map aN.enc)/\ fr 23= .i w.objs.length/\ fr 24= .i (k+1:Nat)/\
        cR en vT 1 (w.tasks.map (.int .i64)) [11]/\ cR en vO 2 (w.outs.map bL.enc) [14]/\ cR en vI 1 (w.ins.map (.int .i64)) [17]/\ cR en v 4 ((w.objs.take (k+1)).map aN.enc) [62]:=by
      intro fr en cnt h2 e2 h3 e3 h22 h23 h24 mT mO mI v' en' cnt' hown hen hcnt;have k2:en' ⟨0,2,0⟩=some (.box [.cl [],.cl [],.cl [],.cl [],.i 0] false):=by rw[hen 0 2 0 (.inr ⟨by decide,by simp⟩)];simp only[go_sem,e2]
      have k3:en' ⟨0,3,0⟩=some (.box [v,vT,vO,vI,.i w.used] false):=by rw[hen 0 3 0 (.inr ⟨by decide,by simp⟩)];simp only[go_sem,e3]
      obtain⟨s1,s2⟩:=hown.shape;simp only[go_sem,h3,k3,h24,s1,s2]
      refine⟨_,_,_,v',rfl,?_⟩
      simp only[go_sem,h2,k2,h3,h22,h23,aR h' hw.objs]
      refine⟨mT.keep ?_,mO.keep ?_,mI.keep ?_,?_⟩
      ·intro t g ht;simp at ht;subst ht;rw[jE (by simp),hen 0 11 g (.inr ⟨by decide,by simp⟩)]
      ·intro t g ht;simp at ht;subst ht;rw[jE (by simp),hen 0 14 g (.inr ⟨by decide,by simp⟩)]
      ·intro t g ht;simp at ht;subst ht;rw[jE (by simp),hen 0 17 g (.inr ⟨by decide,by simp⟩)]
      ·rw[gM h',bRl,ho]
       refine cR.sub (D:=[62,62]) (cR.keep (en:=en') hown ?_) (by simp)
       intro t g ht;simp at ht;subst ht;simp only[go_sem]
     rcases mV with⟨rfl,n1⟩|⟨t,g,f,rfl,eV,m1⟩<;>rcases mX with⟨rfl,n2⟩|⟨t',g',f',rfl,eX,m2⟩<;>(try(simp only[bR3]at m1;subst m1))<;>(try(simp only[bR3]at m2;subst m2))
     ·simp only[go_sem,h2,e2,h3,e3,h24,h6,e6,bQk,if_true,kF]
      refine jZ (D:=[62]) (xs:=(w.objs.take k).map aN.enc) (ys:=[aN.enc o]) (rs:=[]) ?_ ?_ rfl ?_ ?_
      ·simp only[go_sem];exact hv.keep fun t g ht=>by simp at ht;subst ht;simp only[go_sem]
      ·simp only[go_sem,aN.enc,n1,n2]
      ·simp;omega
      ·exact kend _ _ _ (by simp only[go_sem,h2]) (by simp only[go_sem,e2]) (by simp only[go_sem,h3]) (by simp only[go_sem,e3]) (by simp only[go_sem,h22]) (by simp only[go_sem,h23]) (by simp only[go_sem,h24]) (mT.keep fun t g ht=>by simp at ht;subst ht;simp only[go_sem]) (mO.keep fun t g ht=>by simp at ht;subst ht;simp only[go_sem]) (mI.keep fun t g ht=>by simp at ht;subst ht;simp only[go_sem])
     ·simp only[go_sem,h2,e2,h3,e3,h24,h6,e6,eX,bQl,bQk,if_true,qJ,kF]
      refine jZ (D:=[62]) (xs:=(w.objs.take k).map aN.enc) (ys:=[aN.enc o]) (rs:=[]) ?_ ?_ rfl ?_ ?_
      ·simp only[go_sem];exact hv.keep fun t g ht=>by simp at ht;subst ht;simp only[go_sem]
      ·simp only[go_sem,aN.enc,n1]
      ·simp;omega
      ·exact kend _ _ _ (by simp only[go_sem,h2]) (by simp only[go_sem,e2]) (by simp only[go_sem,h3]) (by simp only[go_sem,e3]) (by simp only[go_sem,h22]) (by simp only[go_sem,h23]) (by simp only[go_sem,h24]) (mT.keep fun t g ht=>by simp at ht;subst ht;simp only[go_sem]) (mO.keep fun t g ht=>by simp at ht;subst ht;simp only[go_sem]) (mI.keep fun t g ht=>by simp at ht;subst ht;simp only[go_sem])
     ·simp only[go_sem,h2,e2,h3,e3,h24,h6,e6,eV,bQl,bQk,if_true,qJ,kF]
      refine jZ (D:=[62]) (xs:=(w.objs.take k).map aN.enc) (ys:=[aN.enc o]) (rs:=[]) ?_ ?_ rfl ?_ ?_
      ·simp only[go_sem];exact hv.keep fun t g ht=>by simp at ht;subst ht;simp only[go_sem]
      ·simp only[go_sem,aN.enc,n2]
      ·simp;omega
      ·exact kend _ _ _ (by simp only[go_sem,h2]) (by simp only[go_sem,e2]) (by simp only[go_sem,h3]) (by simp only[go_sem,e3]) (by simp only[go_sem,h22]) (by simp only[go_sem,h23]) (by simp only[go_sem,h24]) (mT.keep fun t g ht=>by simp at ht;subst ht;simp only[go_sem]) (mO.keep fun t g ht=>by simp at ht;subst ht;simp only[go_sem]) (mI.keep fun t g ht=>by simp at ht;subst ht;simp only[go_sem])
     ·simp only[go_sem,h2,e2,h3,e3,h24,h6,e6,eV,eX,bQl,bQk,if_true,qJ,kF]
      refine jZ (D:=[62]) (xs:=(w.objs.take k).map aN.enc) (ys:=[aN.enc o]) (rs:=[]) ?_ ?_ rfl ?_ ?_
      ·simp only[go_sem];exact hv.keep fun t g ht=>by simp at ht;subst ht;simp only[go_sem]
      ·simp only[go_sem,aN.enc]
      ·simp;omega
      ·exact kend _ _ _ (by simp only[go_sem,h2]) (by simp only[go_sem,e2]) (by simp only[go_sem,h3]) (by simp only[go_sem,e3]) (by simp only[go_sem,h22]) (by simp only[go_sem,h23]) (by simp only[go_sem,h24]) (mT.keep fun t g ht=>by simp at ht;subst ht;simp only[go_sem]) (mO.keep fun t g ht=>by simp at ht;subst ht;simp only[go_sem]) (mI.keep fun t g ht=>by simp at ht;subst ht;simp only[go_sem])
  ·have:k=w.objs.length:=by simp at hq;omega
   subst this;rw[bR1]at hv;simp only[go_sem,h2,e2,h3,e3];obtain⟨r1,ks1,s1,s1',_⟩:=(hv.keep (en':=en.set ⟨0,2,0⟩ (some (.box [v,vT,vO,vI,.i w.used] false))) fun t g ht=>by simp at ht;subst ht;simp only[go_sem]).snap 6
   obtain⟨r2,ks2,s2,s2',_⟩:=(mT.keep (en':=en.set ⟨0,2,0⟩ (some (.box [v,vT,vO,vI,.i w.used] false))) fun t g ht=>by simp at ht;subst ht;simp only[go_sem]).snap 6
   obtain⟨r3,ks3,s3,s3',_⟩:=(mO.keep (en':=en.set ⟨0,2,0⟩ (some (.box [v,vT,vO,vI,.i w.used] false))) fun t g ht=>by simp at ht;subst ht;simp only[go_sem]).snap 6
   obtain⟨r4,ks4,s4,s4',_⟩:=(mI.keep (en':=en.set ⟨0,2,0⟩ (some (.box [v,vT,vO,vI,.i w.used] false))) fun t g ht=>by simp at ht;subst ht;simp only[go_sem]).snap 6
   simp only[go_sem,s1,s2,s3,s4,s1',s2',s3',s4']
noncomputable def c86 :{c//L 86=some c}:=cA func86
def aFm (g3:Nat)(en en':En):Prop:= ∀n t g,(n≠0 \/t∉[1,2,3,5,10,24] \/(t=3/\ g<g3))->en' ⟨n,t,g⟩=en ⟨n,t,g⟩
variable {en:En}{g3:Nat}
theorem aFm.refl :aFm g3 en en:=fun _ _ _ _=>rfl
variable {e:Option Ent}{en':En}{g t:Nat}
theorem aFm.set (h:aFm g3 en en')(ht:t∈[1,2,3,5,10,24])(hg:t=3->g3<=g):aFm g3 en (en'.set ⟨0,t,g⟩ e):=by
 intro n u g' k;rw[jE,h n u g' k];intro he
 injection he with h1 h2 h3
 subst h1 h2 h3;rcases k with k|k|k
 ·exact k rfl
 ·exact k ht
 ·have:=hg k.1;omega
theorem aFm.step {en2:En}(h:aFm g3 en en')(k: ∀n t g,n≠0 \/(t≠24/\ t∉[24])->en2 ⟨n,t,g⟩=en' ⟨n,t,g⟩):aFm g3 en en2:=fun n t g q=>by
 rw[k n t g,h n t g q];rcases q with q|q|q
 ·exact .inl q
 ·exact .inr ⟨fun e=>q (by simp[e]),fun e=>q (by simp at e;simp[e])⟩
 ·exact .inr ⟨by omega,by simp;omega⟩
variable {l:cG}
theorem aY9 (hl:l.few)(hp:l.picks.length<=16777216)(hm:l.marks.length<=16777216)(hs: ∀w∈l.marks,bU w=true){en0:En}{cnt0:Nat->Nat->Nat}(n1:cnt0 0 1=0)(n2:cnt0 0 2=0)(n3:cnt0 0 3=g3){R:Ex->St->Prop}
  (hR: ∀fr en cnt vP v,fr 2= .ptr ⟨0,2,0⟩ 0->en ⟨0,2,0⟩=some (.box [.i l.every,vP,v] false)->cR en vP 1 (l.picks.map (.int .i64)) [10]->cR en v 5 (l.marks.map aA.enc) [24]->aFm g3 en0 en->R .ret ⟨fr,en,cnt⟩):
  Wp L c86.1.body ⟨fun i=>[.agg [.i l.every,.is l.picks,.fz (l.marks.map aA.enc)]].getD i (.tup []),en0,cnt0⟩ R:=by
 have c1:=qH (l.picks.map (.int .i64)) (rW _) (by simp;omega)
 simp only[go_sem,kK,c86,n1,n2]
 refine aIi (fun st=>st.fr 2= .ptr ⟨0,2,0⟩ 0/\ st.en ⟨0,2,0⟩=some (.box [.i 0,.cl [],.cl []] false)/\ st.fr 1= .ptr ⟨0,1,0⟩ 0/\ st.en ⟨0,1,0⟩=some (.box [.i l.every,.is l.picks,.fz (l.marks.map aA.enc)] false)/\ st.fr 3= .ptr ⟨0,3,g3⟩ 0/\
  ∃vP,st.en ⟨0,3,g3⟩=some (.box [.i l.every,vP,.cl []] false)/\ cR st.en vP 1 (l.picks.map (.int .i64)) [10]/\ aFm g3 en0 st.en) ?_ ?_
 ·refine aG ?_
  rcases iY 1 (l.picks.map (Val.int .i64))with⟨t1,t2⟩|⟨t1,t2⟩<;>rw[t2]at c1
  all_goals simp only[go_sem,kA,kF,n3,c1.ret,bQl,bQk,if_true,kB]
  all_goals refine⟨_,rfl,?_,?_⟩
  all_goals first
   |exact .inl ⟨rfl,by assumption⟩
   |exact aIj (by simp only[go_sem];try rfl) (by simp only[bQl])
   |(repeat' refine aFm.set ?_ (by simp) (by simp)
     exact aFm.refl)
 ·rintro fr en cnt ⟨h2,e2,h1,e1,h3,vP,e3,mP,hO⟩
  dsimp only at h2 e2 h1 e1 h3 e3 mP hO;simp only[go_sem,h1,e1]
  refine bQ l.marks.length (fun k st=> ∃fr en cnt v,st=⟨fr,en,cnt⟩/\ fr 2= .ptr ⟨0,2,0⟩ 0/\ en ⟨0,2,0⟩=some (.box [.i 0,.cl [],.cl []] false)/\ fr 3= .ptr ⟨0,3,g3⟩ 0/\ en ⟨0,3,g3⟩=some (.box [.i l.every,vP,v] false)/\ fr 13= .fz (l.marks.map aA.enc)/\ fr 14= .i l.marks.length/\ fr 15= .i k/\
   cR en vP 1 (l.picks.map (.int .i64)) [10]/\ cR en v 5 ((l.marks.take k).map aA.enc) [24]/\ aFm g3 en0 en) 0 (bQt _) ⟨_,_,_,.cl [],rfl,by simp only[go_sem,h2],by simp only[go_sem,e2],by simp only[go_sem,h3],by simp only[go_sem,e3],by simp only[go_sem],by simp only[go_sem],by simp only[go_sem],mP,cR.nil _ _,hO⟩ ?_
  rintro k st hk ⟨fr,en,cnt,v,rfl,h2,e2,h3,e3,h13,h14,h15,mP,hv,hO⟩
  simp only[go_sem,kK,h14,h15]
  refine aH (fun hq=>?_) (fun hq=>?_)
  ·have h':k<l.marks.length:=D_o hq;have hso:=hs _ (bQr h');have hfo:=hl.2.2 _ (bQr h');simp only[go_sem,h',h13,h15,sZ h'];generalize ho:l.marks[k]=o;rw[ho]at hso hfo
   refine aG ?_
   simp only[go_sem,h3,e3,kA,kF,(aLs _ hfo hso).ret]
   refine aGc (D:=[24]) (xs:=(l.marks.take k).map aA.enc) (ys:=[aA.enc o]) (rs:=[]) ?_ ?_ rfl rfl ?_ ?_
   ·simp only[go_sem];exact hv.keep fun t g ht=>by simp at ht;subst ht;simp only[go_sem]
   ·simp only[go_sem,aA.enc]
   ·simp;omega
   ·intro v' en' cnt' r hown hen hcnt _ _ _;have k2:en' ⟨0,2,0⟩=some (.box [.i 0,.cl [],.cl []] false):=by rw[hen 0 2 0 (.inr ⟨by decide,by simp⟩)];simp only[go_sem,e2]
    have k3:en' ⟨0,3,g3⟩=some (.box [.i l.every,vP,v] false):=by rw[hen 0 3 g3 (.inr ⟨by decide,by simp⟩)];simp only[go_sem,e3]
    obtain⟨s1,s2⟩:=hown.shape;simp only[go_sem,h3,k3,h15,s1,s2]
    refine⟨_,_,_,v',rfl,?_⟩
    simp only[go_sem,h2,k2,h3,h13,h14,aR h' hl.2.1]
    refine⟨mP.keep ?_,?_,((((hO.set (by simp) (by simp)).set (by simp) (by simp)).step hen).set (by simp) (by simp))⟩
    ·intro t g ht;simp at ht;subst ht;rw[jE (by simp),hen 0 10 g (.inr ⟨by decide,by simp⟩)];simp only[go_sem]
    ·rw[gM h',bRl,ho]
     refine cR.sub (D:=[24,24]) (cR.keep (en:=en') hown ?_) (by simp)
     intro t g ht;simp at ht;subst ht;simp only[go_sem]
  ·have:k=l.marks.length:=by simp at hq;omega
   subst this;rw[bR1]at hv;simp only[go_sem,h2,e2,h3,e3];exact hR _ _ _ vP v (by simp only[go_sem,h2]) (by simp only[go_sem]) (mP.keep fun t g ht=>by simp at ht;subst ht;simp only[go_sem]) (hv.keep fun t g ht=>by simp at ht;subst ht;simp only[go_sem]) (hO.set (by simp) (by simp))
variable {cnt:Nat->Nat->Nat}
theorem aVf (hl:l.few)(hp:l.picks.length<=16777216)(hm:l.marks.length<=16777216)(hs: ∀w∈l.marks,bU w=true)(n1:cnt 0 1=0)(n2:cnt 0 2=0)(n3:cnt 0 3=g3):
  WIn L (.fn 86 [] []) [.agg [.i l.every,.is l.picks,.fz (l.marks.map aA.enc)]] en cnt fun r en' cnt'=> ∃vP v,r= .agg [.i l.every,vP,v]/\ cR en' vP 1 (l.picks.map (.int .i64)) [10]/\ cR en' v 5 (l.marks.map aA.enc) [24]/\ aFm g3 en en':=by
 refine fR c86.2 rfl rfl ?_
 refine aY9 hl hp hm hs n1 n2 n3 fun fr en' cnt' vP v f2 e2 mP hv hO=>?_
 simp only[go_sem,c86,f2,e2];exact⟨vP,v,rfl,mP,hv,hO⟩
theorem aCw (p:aF)(l:cG)(a b:Int):PC L 53 [(ply p l),.i a,.i b] (.fn 109 [] [.fp [.i a] 0,.fp [.i b] 0,.fp [(ply p l)] 0]):=by
 refine pcA func53 ?_
 simp only[go_sem,kK,kF]
theorem bId :cX .eql .iface .nili .nili=some (.bool true):=(rfl)
theorem bIe {v:Val}:cX .eql .iface (.ifc t v) .nili=some (.bool false):=(rfl)
theorem aZa {k:Key}{a b:Option Ent}:(en.set k a).set k b=en.set k b:=by
 funext j
 by_cases h:j=k<;>simp[En.set,h]
variable {K:St->Prop}{f x:Val}{fr:Nat->Val}
theorem nP {e:Ex}(he:e.rcvd=some .nili)(hK:K ⟨fr,en,cnt⟩):
  ∃st4,(∃n0,∀n,n0<=n->iC L (exec L n) (.fn 42 [] []) [x,f] e ⟨fr,en,cnt⟩=some st4)/\ K st4:=by
 have hL:=at_ func42
 conv at hL=>rhs;reduce
 refine tD hL rfl he rfl rfl ?_
 simp only[go_sem,kK,bRo,bRk,bId,kF];exact hK
theorem cS {k:Key}{e:Ex}{n:Int}(he:e.rcvd=some (sK n))
  (hf:WIn L f [] (en.set ⟨0,5,cnt 0 5⟩ (some (.box [.i n] false))) (aC cnt 0 5 (cnt 0 5+1)) fun _ en' cnt'=>en' k=some (.box [x] false)/\ en' ⟨0,5,cnt 0 5⟩=some (.box [.i n] false)/\ K ⟨fr,en'.set k (some (.box [.i n] false)),cnt'⟩):
  ∃st4,(∃n0,∀n,n0<=n->iC L (exec L n) (.fn 42 [] []) [.ptr k 0,f] e ⟨fr,en,cnt⟩=some st4)/\ K st4:=by
 have hL:=at_ func42
 conv at hL=>rhs;reduce
 refine tD hL rfl he rfl rfl ?_
 simp only[go_sem,kK,sK,bRo,bRk,bIe,kF,if_true];rw[aZa]
 refine WIn.mono hf ?_
 rintro v e2 c2 ⟨k1,k2,hk⟩
 simp only[go_sem,k1,k2];exact hk
theorem aIb (w:aA):PC L 69 [.agg w.cs] (.i w.outs.length):=by
 refine pcA func69 ?_
 simp only[go_sem,kK,kF,bQl]
theorem aIc (w:aA):PC L 71 [.agg w.cs] (.i w.used):=by
 refine pcA func71 ?_
 simp only[go_sem,kK,kF]
theorem aMn (w:aA):PC L 73 [.agg w.cs] (.i w.objs.length):=by
 refine pcA func73 ?_
 simp only[go_sem,kK,kF,bQl]
def sD (c:fG):Val:=
 if c.kind=1 then .ifc 184 (.agg [.i c.n,.i c.v.kind,.i c.v.n])
 else if c.kind=2 then .ifc 186 (.agg [.i c.n])
 else if c.kind=3 then .ifc 187 (.agg [.i c.n])
 else .ifc 188 (.agg [.i c.n])
variable {t1 t2 t3 t4:Nat}
theorem aZb {v1 v2 v3 v4:Val}:sG [.ifc t1 v1,.ifc t2 v2,.ifc t3 v3,.ifc t4 v4] (IntKind.i64.wrap (1-1)).toNat=some (.ifc t1 v1):=(rfl)
theorem bE9 :(0<=IntKind.i64.wrap (1-1))=True:=eq_true (by decide)
theorem aNz {v1 v2 v3 v4:Val}:sG [.ifc t1 v1,.ifc t2 v2,.ifc t3 v3,.ifc t4 v4] (IntKind.i64.wrap (2-1)).toNat=some (.ifc t2 v2):=(rfl)
theorem aWt :(0<=IntKind.i64.wrap (2-1))=True:=eq_true (by decide)
theorem aN0 {v1 v2 v3 v4:Val}:sG [.ifc t1 v1,.ifc t2 v2,.ifc t3 v3,.ifc t4 v4] (IntKind.i64.wrap (3-1)).toNat=some (.ifc t3 v3):=(rfl)
theorem aWu :(0<=IntKind.i64.wrap (3-1))=True:=eq_true (by decide)
theorem aN1 {v1 v2 v3 v4:Val}:sG [.ifc t1 v1,.ifc t2 v2,.ifc t3 v3,.ifc t4 v4] (IntKind.i64.wrap (4-1)).toNat=some (.ifc t4 v4):=(rfl)
theorem aWv :(0<=IntKind.i64.wrap (4-1))=True:=eq_true (by decide)
theorem aP7 (c:fG)(h:mW c=true):PC L 75 [c.enc] (sD c):=by
 obtain⟨kd,n,⟨vk,vn⟩⟩:=c;simp only[mW,bQj,bRr,bT8,iO,aD.mk.injEq]at h;obtain⟨⟨h1,h4⟩,hv⟩:=h
 refine pcA func75 ?_
 have hk:kd=1 \/kd=2 \/kd=3 \/kd=4:=by omega
 rcases hk with rfl|rfl|rfl|rfl
 ·simp only[go_sem,kK,fG.enc,kF]
  refine bR ?_
  simp only[go_sem,kK,(bZ _).ret,lY,iE,aZb,bE9,kF,if_true,sD]
 ·have hv':vk=0/\ vn=0:=by simpa using hv
  obtain⟨rfl,rfl⟩:=hv';simp only[go_sem,kK,fG.enc,kF]
  refine bR ?_
  simp only[go_sem,kK,(bZ _).ret,lY,iE,aNz,aWt,kF,if_true,sD]
  refine bR ?_
  simp only[go_sem,(bZ _).ret,kF,if_true]
 ·have hv':vk=0/\ vn=0:=by simpa using hv
  obtain⟨rfl,rfl⟩:=hv';simp only[go_sem,kK,fG.enc,kF]
  refine bR ?_
  simp only[go_sem,kK,(bZ _).ret,lY,iE,aN0,aWu,kF,if_true,sD]
  refine bR ?_
  simp only[go_sem,(bZ _).ret,kF,if_true]
 ·have hv':vk=0/\ vn=0:=by simpa using hv
  obtain⟨rfl,rfl⟩:=hv';simp only[go_sem,kK,fG.enc,kF]
  refine bR ?_
  simp only[go_sem,kK,(bZ _).ret,lY,iE,aN1,aWv,kF,if_true,sD]
  refine bR ?_
  simp only[go_sem,(bZ _).ret,kF,if_true]
theorem aP8 (c:fG)(h:mW c=false):PX L 75 [c.enc] (sK 2):=by
 obtain⟨kd,n,⟨vk,vn⟩⟩:=c;simp only[mW,iO]at h
 refine pxA func75 ?_
 by_cases h1:1<=kd
 ·by_cases h4:kd<=4
  ·have hk:kd=1 \/kd=2 \/kd=3 \/kd=4:=by omega
   have hv: ¬kd=1->(vk=0/\ vn=0)=False:=fun hne=>by
    simp[h1,h4,hne]at h
    simpa using h
   rcases hk with rfl|rfl|rfl|rfl
   ·simp at h
   ·have hv':(decide (vk=0)&&decide (vn=0))=false:=by
     have:=hv (by decide)
     rw[<-Bool.decide_and];simp[this]
    simp only[go_sem,kK,fG.enc]
    refine bR ?_
    simp only[go_sem,kK,(bZ _).ret,lY,iE,aNz,aWt,kF,if_true]
    refine cO 4 rfl ?_
    simp only[go_sem,bQs,bQq,hv',(dM _).ret]
   ·have hv':(decide (vk=0)&&decide (vn=0))=false:=by
     have:=hv (by decide)
     rw[<-Bool.decide_and];simp[this]
    simp only[go_sem,kK,fG.enc]
    refine bR ?_
    simp only[go_sem,kK,(bZ _).ret,lY,iE,aN0,aWu,kF,if_true]
    refine cO 4 rfl ?_
    simp only[go_sem,bQs,bQq,hv',(dM _).ret]
   ·have hv':(decide (vk=0)&&decide (vn=0))=false:=by
     have:=hv (by decide)
     rw[<-Bool.decide_and];simp[this]
    simp only[go_sem,kK,fG.enc]
    refine bR ?_
    simp only[go_sem,kK,(bZ _).ret,lY,iE,aN1,aWv,kF,if_true]
    refine cO 4 rfl ?_
    simp only[go_sem,bQs,bQq,hv',(dM _).ret]
  ·simp only[go_sem,kK,fG.enc]
   refine cO 8 rfl ?_
   simp only[go_sem,kK,bQs,bQq,D_t h1,D_f h4,(dM _).ret]
 ·simp only[go_sem,kK,fG.enc]
  refine cO 8 rfl ?_
  simp only[go_sem,kK,bQs,bQq,D_f h1,(dM _).ret]
theorem aVg (n:Int)(w:aA):PC L 368 [.agg [.i n],.agg w.cs] (.bool (decide (n<=(w.outs.length:Int)))):=by
 refine pcA func368 ?_
 simp only[go_sem,kK,kF,bQl]
theorem aVh (n:Int)(w:aA):PC L 370 [.agg [.i n],.agg w.cs] (.bool (decide (n<=(w.objs.length:Int)))):=by
 refine pcA func370 ?_
 simp only[go_sem,kK,kF,bQl]
theorem aP9 (n:Int)(w:aA)(hi: ∀a∈w.tasks,inR a 0 ((w.objs.length:Int)-1)=true):PC L 369 [.agg [.i n],.agg w.cs] (.bool (inR n 0 ((w.tasks.length:Int)-1)&&!decide ((w.obj (aZ w n)).n=0))):=by
 refine pcA func369 ?_
 by_cases h0:0<=n
 ·obtain⟨m,rfl⟩:=bRn h0
  by_cases h1:(m:Int)<w.tasks.length
  ·have h1':m<w.tasks.length:=by omega
   have ha:=hi _ (bQr h1');have hr:inR (m:Int) 0 ((w.tasks.length:Int)-1)=true:=by simp[inR];omega
   have ht:aZ w m=w.tasks[m]:=by simp[aZ,h1']
   simp only[inR,bT8]at ha;obtain⟨j,hj⟩:=bRn ha.1;have hj':j<w.objs.length:=by omega
   rw[hr,ht,hj];simp only[go_sem,kK,D_t h0,h1',hj,hj',kF,bQl];rw[rF hj']
  ·have hr:inR (m:Int) 0 ((w.tasks.length:Int)-1)=false:=by simp[inR];omega
   rw[hr];simp only[go_sem,kK,D_t h0,D_f (show¬m<w.tasks.length by omega),kF,bQl,bQ7]
 ·have hr:inR n 0 ((w.tasks.length:Int)-1)=false:=by simp[inR];omega
  rw[hr];simp only[go_sem,kK,D_f h0,kF,bQ7]
theorem aVi (n:Int)(v:aD)(w:aA)(hc: ∀o∈w.objs,o.form=3->0<o.vals.length):PC L 367 [.agg [.i n,.i v.kind,.i v.n],.agg w.cs] (.bool (inR n 0 ((w.objs.length:Int)-1)&&decide ((w.obj n).form=3)&&decide (aE (w.obj n).vals 0=v))):=by
 refine pcA func367 ?_
 by_cases h0:0<=n
 ·obtain⟨m,rfl⟩:=bRn h0
  by_cases h1:(m:Int)<w.objs.length
  ·have h1':m<w.objs.length:=by omega
   have hr:inR (m:Int) 0 ((w.objs.length:Int)-1)=true:=by simp[inR];omega
   have hcm:=hc _ (bQr h1');rw[hr,rF h1']
   by_cases h3:w.objs[m].form=3
   ·have hl:=hcm h3;rcases hvv:w.objs[m].vals with _|⟨x,xs⟩
    ·rw[hvv]at hl;simp at hl
    have hia: ∀en:En,mA 2 en (.fz (.agg [.i x.kind,.i x.n]::List.map aD.enc xs)) (.i 0)=some {v:= .fp [.i x.kind,.i x.n] 0}:=fun en=>by
     simp[mA]
     first|exact⟨rfl,rfl⟩|rfl
    simp only[go_sem,kK,D_t h0,h1',h3,hvv,hia,kF,bQl];simp[aE,<-aD.eq_iff]
   ·simp only[go_sem,kK,D_t h0,h1',D_f h3,kF,bQl,bQ7,bRp]
  ·have hr:inR (m:Int) 0 ((w.objs.length:Int)-1)=false:=by simp[inR];omega
   rw[hr];simp only[go_sem,kK,D_t h0,D_f (show¬m<w.objs.length by omega),kF,bQl,bQ7]
 ·have hr:inR n 0 ((w.objs.length:Int)-1)=false:=by simp[inR];omega
  rw[hr];simp only[go_sem,kK,D_f h0,kF,bQ7]
structure qT (l:cG):Prop where
 e1:1<=aQ l
 e2:aQ l<=20
 ev:l.every=(aQ l:Int)
 pk:l.picks.length<=200
 mn:l.marks.length=l.picks.length/aQ l+1
theorem qT.of (h:mH p l=true):qT l:=let ⟨_,⟨a,b,c⟩,d,e,_⟩:=aB8 h;⟨a,b,c,d,e⟩
variable {n:Nat}
theorem qT.lt (h:qT l)(hn:n<=l.picks.length):n/aQ l<l.marks.length:=by
 rw[h.mn];have:=Nat.div_le_div_right (c:=aQ l) hn;omega
theorem qT.div (h:qT l)(n:Nat):((n:Int)).tdiv (aQ l:Int)=((n/aQ l:Nat):Int):=by
 rw[bT7 (by omega)];rfl
theorem qT.few (h:qT l):Few l.picks.length:=by have:=h.pk;unfold Few;omega
theorem qT.wdiv (h:qT l)(hn:n<=l.picks.length):IntKind.i64.wrap (((n/aQ l:Nat):Int))=((n/aQ l:Nat):Int):=by
 have h1:=Nat.div_le_self n (aQ l);have:=h.pk;generalize n/aQ l=q at h1⊢;exact aV (by omega)
theorem qT.mul (h:qT l)(hn:n<=l.picks.length):IntKind.i64.wrap (((n/aQ l:Nat):Int)*(aQ l:Int))=((n/aQ l*aQ l:Nat):Int):=by
 have h1:=bT3 n (aQ l);have:=h.pk;rw[<-Int.natCast_mul];generalize n/aQ l*aQ l=q at h1⊢;exact aV (by omega)
theorem qT.ne (h:qT l):((aQ l:Int)=0)=False:=eq_false (by have:=h.e1;omega)
theorem rJ {k:Nat}(h:k<l.marks.length):sJ l k=l.marks[k]:=by simp[sJ,h]
theorem aVj (hl:qT l)(hn:n<=l.picks.length)(hm:n%aQ l=0):PC L 49 [.fp [.i l.every,.is l.picks,.fz (l.marks.map aA.enc),.fz (p.nodes.map aK.enc),.fz (p.funs.map (.int .i64)),.i p.main,.fz (p.cons.map cV.enc)] 0,.i (n:Int)] (.agg (sJ l (n/aQ l)).cs):=by
 have hlt:=hl.lt hn;have hia:=fun en=>sZ (l:=l) (en:=en) hlt
 have hnn:n/aQ l*aQ l=n:=Nat.div_mul_cancel (bTy hm);have hmul:=hl.mul hn;rw[hnn]at hmul;have ht:=aCw p l n n;rw[rJ hlt];simp only[ply,hl.ev]at ht⊢
 refine pcA func49 ?_
 simp only[go_sem,kK,hl.ne,hl.div,hl.wdiv hn,hmul,kF]
 refine aG ?_
 simp only[go_sem,hl.ne,hl.div,hl.wdiv hn,hia,kA,kF];simp only[go_sem,ht.ret]
 refine uJ (by simp only[go_sem];rfl) ?_
 rintro fr0 k hf hk
 rw[aUk]at hk;subst hk
 refine fR aUo.2 rfl rfl ?_
 simp only[go_sem,kK,aUo,D_t (bQk n),kF]
 done
def bCq (w x:aA)(e:gS):Val:= .agg [.fz (w.objs.map aN.enc),.is w.tasks,.fz (w.outs.map bL.enc),.is w.ins,.i w.used,.fz (x.objs.map aN.enc),.is x.tasks,.fz (x.outs.map bL.enc),.is x.ins,.i x.used,.i e.task,.i e.act,.i e.n,.i e.v.kind,.i e.v.n]
def aN2 (p:aF)(l:cG)(t:Nat):Val:=bCq (atX p l t).1 (eN p l t).1 (eN p l t).2.1
def T3 :List Nat:=[5,7,8]
def aVk (c0:Nat->Nat)(en en':En):Prop:= ∀n t g,(n≠0 \/t∉T3 \/g<c0 t)->en' ⟨n,t,g⟩=en ⟨n,t,g⟩
variable {c0:Nat->Nat}
theorem aVk.trans {x y z:En}(h:aVk c0 x y)(h':aVk c0 y z):aVk c0 x z:=fun n t g k=>(h' n t g k).trans (h n t g k)
def bCr (c0:Nat->Nat)(I:En->(Nat->Nat->Nat)->Prop):Prop:= ∀en cnt en' cnt',I en cnt->aVk c0 en en'->(∀n t,n≠0 \/t∉T3->cnt' n t=cnt n t)->(∀t∈T3,cnt 0 t<=cnt' 0 t)->I en' cnt'
theorem wC (ht:t∈T3)(hg:c0 t<=g):aVk c0 en (en.set ⟨0,t,g⟩ e):=by
 intro n u g' h
 refine jE fun he=>?_
 injection he with h1 h2 h3
 rcases h with h|h|h
 ·exact h h1
 ·exact h (h2▸ht)
 ·subst h2;omega
theorem aFn (h:(eN p l t).2.2=0):(atX p l t).2=0/\ (cQ p (atX p l t).1 (jA l t)).2.2=0/\ eN p l t=cQ p (atX p l t).1 (jA l t):=by
 unfold eN at h⊢
 by_cases h1:(atX p l t).2=0
 ·rw[if_pos h1]at h⊢
  by_cases h2:(cQ p (atX p l t).1 (jA l t)).2.2=0
  ·rw[if_pos h2];exact⟨h1,h2,rfl⟩
  ·rw[if_neg h2]at h;exact absurd h h2
 ·rw[if_neg h1]at h;exact absurd h h1
theorem aZc (h1:(atX p l t).2=0)(h: ¬(eN p l t).2.2=0): ¬(cQ p (atX p l t).1 (jA l t)).2.2=0/\ (eN p l t).2.2=(cQ p (atX p l t).1 (jA l t)).2.2:=by
 unfold eN at h⊢;rw[if_pos h1]at h⊢
 by_cases h2:(cQ p (atX p l t).1 (jA l t)).2.2=0
 ·rw[if_pos h2]at h;exact absurd h2 h
 ·rw[if_neg h2];exact⟨h2,rfl⟩
theorem bCs (h1: ¬(atX p l t).2=0):(eN p l t).2.2=(atX p l t).2:=by unfold eN;rw[if_neg h1]
theorem aWw (hl:qT l)(h:(eN p l t).2.2=0):(atX p l (t+1)).2=0/\ ((t+1)%aQ l=0 \/(atX p l (t+1)).1=(eN p l t).1):=by
 obtain⟨h1,h2,h3⟩:=aFn h
 by_cases hm:(t+1)%aQ l=0
 ·rw[qR hl.e1 hm];exact⟨rfl,.inl hm⟩
 ·rw[aFj hl.e1 hm,if_pos h1,if_pos h2,h3];exact⟨rfl,.inr rfl⟩
theorem aFo (h:t<l.picks.length):jA l t=l.picks[t]:=by simp[jA,h]
theorem aBf (h:mH p l=true)(hn:n<=l.picks.length)(he:(atX p l n).2=0):bM p (atX p l n).1=true:=by
 have h1:=(aB8 h).1;have:=bIb (tI h1) h hn he;simp[bM,h1,this]
theorem sE (hsp:aS p=true)(h:bM p w=true):w.few:=by
 simp only[bM,bQj]at h;exact aB4 (rZ hsp h.2)
variable {b u:Nat}
theorem bO7 {a:Nat}(h:n≠0 \/u∉T3):aC (aC cnt 0 7 a) 0 8 b n u=cnt n u:=by
 simp only[aC];rw[if_neg,if_neg]
 ·rintro⟨rfl,rfl⟩;rcases h with h|h
  ·exact h rfl
  ·exact h (by decide)
 ·rintro⟨rfl,rfl⟩;rcases h with h|h
  ·exact h rfl
  ·exact h (by decide)
theorem aIq :cnt 0 u<=aC (aC cnt 0 7 (cnt 0 7+1)) 0 8 (cnt 0 8+1) 0 u:=by
 simp only[aC];split
 ·rename_i h;obtain⟨_,rfl⟩:=h;omega
 split
 ·rename_i h;obtain⟨_,rfl⟩:=h;omega
 ·exact bQk _
theorem bCt (hpf:p.few)(hsp:aS p=true)(hok:mH p l=true){a b s:Nat}(has:a<=s)(hsb:s<=b)(hb:b<=l.picks.length)
  (hat:(atX p l a).2=0->PC L 49 [(ply p l),.i (a:Int)] (.agg (atX p l a).1.cs)) (hax: ¬(atX p l a).2=0->PX L 49 [(ply p l),.i (a:Int)] (sK (atX p l a).2))
  {k:Key} {c0:Nat->Nat} {I:Nat->En->(Nat->Nat->Nat)->Prop} {R:Ex->St->Prop} (hst: ∀t,bCr c0 (I t))
  (hr: ∀t,a<=t->t<s->(eN p l t).2.2=0/\ ∀en cnt,I t en cnt->(∀u∈T3,c0 u<=cnt 0 u)->WIn L (.yld k) [.i (t:Int),aN2 p l t] en cnt fun v en' cnt'=>v= .bool true/\ I (t+1) en' cnt'/\ (∀u g,u∈T3->g<cnt 0 u->c0 u<=g->en' ⟨0,u,g⟩=en ⟨0,u,g⟩)/\ ∀u∈T3,cnt 0 u<=cnt' 0 u)
  (hfin: ∀en cnt,I s en cnt->(∀u∈T3,c0 u<=cnt 0 u)->(s=b/\ ∀e fr,e= .normal \/e= .ret->R e ⟨fr,en,cnt⟩) \/
   (s<b/\ (eN p l s).2.2=0/\ WIn L (.yld k) [.i (s:Int),aN2 p l s] en cnt fun v en' cnt'=>v= .bool false/\ ∀fr,R .ret ⟨fr,en',cnt'⟩) \/
   (s<b/\ ¬(eN p l s).2.2=0/\ ∀fr,R (.panic (sK (eN p l s).2.2)) ⟨fr,en,cnt⟩))
  {en:En} {cnt:Nat->Nat->Nat} (h0:I a en cnt) (hc0: ∀u∈T3,c0 u<=cnt 0 u):
  Wp L aUo.1.body ⟨fun i=>[.yld k,.fp [.i (a:Int)] 0,.fp [.i (b:Int)] 0,.fp [(ply p l)] 0].getD i (.tup []),en,cnt⟩ R:=by
 have hl:=qT.of hok;simp only[go_sem,kK,aUo]
 by_cases hab:b<=a
 ·have:s=b:=by omega
  subst this;have:a=s:=by omega
  subst this;rcases hfin _ _ h0 hc0 with⟨_,h⟩|⟨h,_⟩|⟨h,_⟩
  ·simp only[go_sem,D_t hab];exact h _ _ (.inr rfl)
  ·omega
  ·omega
 simp only[go_sem,D_f hab]
 by_cases ha0:(atX p l a).2=0
 case neg=>
  have hs:s=a:=by
   rcases bRs a s with h|h
   ·exact absurd (aFn (hr a (bQk _) h).1).1 ha0
   ·omega
  subst hs;rcases hfin _ _ h0 hc0 with⟨h,_⟩|⟨_,h,_⟩|⟨_,_,h⟩
  ·omega
  ·exact absurd (aFn h).1 ha0
  ·rw[bCs ha0]at h
   refine cO 2 rfl ?_
   simp only[go_sem,bQs,bQq,(hax ha0).ret];exact h _
 refine bR ?_
 simp only[go_sem,(hat ha0).ret,kF];obtain⟨g5,hg5⟩: ∃g,g=cnt 0 5:=⟨_,rfl⟩
 rw[<-hg5];have hc5:c0 5<=g5:=by rw[hg5];exact hc0 5 (by decide)
 refine bQ s (fun t st=> ∃fr en cnt w,st=⟨fr,en,cnt⟩/\ fr 0= .yld k/\ fr 1= .fp [.i (a:Int)] 0/\ fr 2= .fp [.i (b:Int)] 0/\ fr 3= .fp [(ply p l)] 0/\ fr 5= .ptr ⟨0,5,g5⟩ 0/\ fr 6= .i (t:Int)/\ en ⟨0,5,g5⟩=some (.box w.cs false)/\ (t%aQ l=0 \/w=(atX p l t).1)/\ (atX p l t).2=0/\ I t en cnt/\ g5<cnt 0 5/\ a<=t/\ ∀u∈T3,c0 u<=cnt 0 u) a has ?_ ?_
 ·refine⟨_,_,_,(atX p l a).1,rfl,by simp only[go_sem],by simp only[go_sem],by simp only[go_sem],by simp only[go_sem],by simp only[go_sem],by simp only[go_sem],by simp only[go_sem],.inr rfl,ha0,?_,?_,bQk _,?_⟩
  ·refine hst a _ _ _ _ h0 ((wC (by decide) (by omega)).trans (wC (by decide) (by omega))) (fun n t h=>?_) (fun u hu=>?_)
   ·simp only[aC];split
    ·rename_i h';obtain⟨rfl,rfl⟩:=h';rcases h with h|h
     ·exact absurd rfl h
     ·exact absurd (by decide) h
    ·rfl
   ·simp only[aC];split
    ·rename_i h';obtain⟨_,rfl⟩:=h';omega
    ·exact bQk _
  ·simp only[aC];simp
  ·intro u hu;have:=hc0 u hu;simp only[aC];split
   ·rename_i h';obtain⟨_,rfl⟩:=h';omega
   ·exact this
 rintro t st hts ⟨fr,en,cnt,w,rfl,f0,f1,f2,f3,f5,f6,e5,hw,h0t,hI,hg,hta,hc⟩
 simp only[go_sem,kK,f6,f2]
 by_cases htb:t<b
 case neg=>
  have:s=b:=by omega
  subst this;have:t=s:=by omega
  subst this;simp only[go_sem,D_f htb];rcases hfin _ _ hI hc with⟨_,h⟩|⟨h,_⟩|⟨h,_⟩
  ·exact h _ _ (.inl rfl)
  ·omega
  ·omega
 have htp:t<l.picks.length:=by omega
 have hmk:=aGs (p:=p) (l:=l) t hl.e1 (by have:=hl.pk;omega) hl.ev
 have hgv:=aBf hok (Nat.le_of_lt htp) h0t;obtain⟨y,hy⟩: ∃y,y=(atX p l t).1:=⟨_,rfl⟩
 rw[<-hy]at hw hgv
 by_cases hm:t%aQ l=0
 case' pos=>
  have hlt:=hl.lt (Nat.le_of_lt htp);have hia:=fun en=>sZ (l:=l) (en:=en) hlt
  have hwm:l.marks[t/aQ l]=y:=by rw[hy,qR hl.e1 hm,rJ hlt]
  simp only[go_sem,kK,D_t htb,f3,f6,hmk.ret,D_t hm];simp only[go_sem,f5,hl.ev,hl.ne,hl.div,hl.wdiv (Nat.le_of_lt htp),hia,hwm,e5,kF];have e6:(en.set ⟨0,5,g5⟩ (some (.box y.cs false))) ⟨0,5,g5⟩=some (.box y.cs false):=by simp only[go_sem]
  have hI2:=hst t _ cnt _ cnt hI (wC (e:=some (.box y.cs false)) (t:=5) (g:=g5) (by decide) (by omega)) (fun _ _ _=>rfl) (fun _ _=>bQk _)
  generalize En.set en _ _=en1 at e6 hI2⊢
 case' neg=>
  simp only[go_sem,kK,D_t htb,f3,f6,hmk.ret,D_f hm];have e6:=e5;rw[hw.resolve_left hm]at e6;have hI2:=hI;generalize en=en1 at e6 hI2⊢
 all_goals
  clear e5 hI hw
  by_cases hk:(eN p l t).2.2=0
  case neg=>
   obtain⟨hb1,hb2⟩:=aZc h0t hk;rw[<-hy]at hb1 hb2;have hT:=vB p l y (jA l t) hpf (sE hsp hgv) hsp hgv hb1;rw[<-hb2,aFo htp]at hT;have:t=s:=by
    rcases bRs t s with h|h
    ·exact absurd (hr t hta h).1 hk
    ·omega
   subst this
   refine kR 10 rfl rfl ?_
   simp only[go_sem,bQs,bQq,bR0,bRz,rD,f3,f5,f6,e6,htp,hT.ret,kA,kF]
   refine⟨rfl,?_⟩
   rcases hfin _ _ hI2 hc with⟨h,_⟩|⟨_,h,_⟩|⟨_,_,h⟩
   ·omega
   ·exact absurd h hk
   ·exact h _
  obtain⟨_,ht0,hta'⟩:=aFn hk;rw[<-hy]at ht0 hta';have hT:=vA p l y (jA l t) hpf (sE hsp hgv) hsp hgv ht0;rw[<-hta',aFo htp]at hT;obtain⟨x,hx⟩: ∃x,x=(eN p l t).1:=⟨_,rfl⟩
  obtain⟨e,he⟩: ∃e,e=(eN p l t).2.1:=⟨_,rfl⟩
  rw[<-hx,<-he]at hT
  refine jG ?_
  simp only[go_sem,f0,f3,f5,f6,e6,htp,hT.ret,evV,kA,kF];have hc7:=hc 7 (by decide)
  have hc8:=hc 8 (by decide)
  generalize hE:En.set (En.set (En.set (En.set en1 _ _) _ _) _ _) _ _=E;have ho:aVk c0 en1 E:=by rw[<-hE];exact(((wC (by decide) hc7).trans (wC (by decide) hc8)).trans (wC (by decide) hc7)).trans (wC (by decide) hc8)
  have E5:E ⟨0,5,g5⟩=some (.box y.cs false):=by rw[<-hE];simp only[go_sem,e6]
  have E7:E ⟨0,7,cnt 0 7⟩=some (.box [.fz (x.objs.map aN.enc),.is x.tasks,.fz (x.outs.map bL.enc),.is x.ins,.i x.used] false):=by rw[<-hE];simp only[go_sem]
  have hI3:=hst t _ _ E (aC (aC cnt 0 7 (cnt 0 7+1)) 0 8 (cnt 0 8+1)) hI2 ho (fun n u h=>bO7 h) (fun u _=>aIq)
  have hc3: ∀u∈T3,c0 u<=aC (aC cnt 0 7 (cnt 0 7+1)) 0 8 (cnt 0 8+1) 0 u:=fun u hu=>bQv (hc u hu) aIq
  have hd:aN2 p l t=bCq y x e:=by rw[aN2,hy,hx,he]
  rcases bRs t s with hlt|hge
  ·have hrt:=(hr t hta hlt).2 _ _ hI3 hc3;rw[hd]at hrt
   refine WIn.mono hrt ?_
   rintro v en' cnt' ⟨rfl,hI4,hin,hcc⟩
   have q5:=(hin 5 g5 (by decide) (bRa hg aIq) hc5).trans E5
   have q7:=(hin 7 (cnt 0 7) (by decide) (by simp[aC]) hc7).trans E7
   obtain⟨hn0,hn1⟩:=aWw hl hk;have hx1:(t+1)%aQ l=0 \/x=(atX p l (t+1)).1:=hn1.imp_right fun h=>by rw[hx,h]
   simp only[go_sem,kK,f5,f6,q5,q7,bQ0]
   refine⟨hlt,_,_,_,x,rfl,?_⟩
   simp only[go_sem,f0,f1,f2,f3,f5,aR htp hl.few,hl.ev];exact⟨hx1,hn0,hst _ _ _ _ _ hI4 (wC (by decide) hc5) (fun _ _ _=>rfl) (fun _ _=>bQk _),bRa hg (bQv aIq (hcc 5 (by decide))),by omega,fun u hu=>bQv (hc3 u hu) (hcc u hu)⟩
  ·have:t=s:=by omega
   subst this;rcases hfin _ _ hI3 hc3 with⟨h,_⟩|⟨_,_,hrt⟩|⟨_,h,_⟩
   ·omega
   ·rw[hd]at hrt
    refine WIn.mono hrt ?_
    rintro v en' cnt' ⟨rfl,hR⟩
    simp only[go_sem,kK,bQ5];exact hR _
   ·exact absurd hk h
variable {m:Nat}
theorem aTa {e:Nat}(he:1<=e)(h: ¬(m+1)%e=0):(m+1)/e=m/e:=by
 rw[Nat.succ_div,if_neg (fun h'=>h (Nat.mod_eq_zero_of_dvd h')),bR5]
theorem aN3 {e:Nat}(h:n%e=0):n/e*e=n:=Nat.div_mul_cancel (bTy h)
theorem aVl {p:aF}{l:cG}(hl:qT l): ∀n,(atX p l n).2=0-> ∀t,n/aQ l*aQ l<=t->t<n->(eN p l t).2.2=0
 |0,_,t,_,h=>by omega
 |m+1,h0,t,h1,h2=>by
  by_cases hm:(m+1)%aQ l=0
  ·rw[aN3 hm]at h1;omega
  ·rw[aFj hl.e1 hm]at h0
   by_cases ha:(atX p l m).2=0
   ·rw[if_pos ha]at h0
    by_cases ht:(cQ p (atX p l m).1 (jA l m)).2.2=0
    ·rcases bRs t m with h|h
     ·exact aVl hl m ha t (by rw[<-aTa hl.e1 hm];exact h1) h
     ·obtain rfl:t=m:=by omega
      unfold eN;rw[if_pos ha,if_pos ht];exact ht
    ·rw[if_neg ht]at h0;exact absurd h0 ht
   ·rw[if_neg ha]at h0;exact absurd h0 ha
theorem aWx {p:aF}{l:cG}(hl:qT l): ∀n,¬(atX p l n).2=0-> ∃s,n/aQ l*aQ l<=s/\ s<n/\ (∀t,n/aQ l*aQ l<=t->t<s->(eN p l t).2.2=0)/\ ¬(eN p l s).2.2=0/\ (eN p l s).2.2=(atX p l n).2
 |0,h=>by rw[qR hl.e1 (Nat.zero_mod _)]at h;exact absurd rfl h
 |m+1,h0=>by
  by_cases hm:(m+1)%aQ l=0
  ·rw[qR hl.e1 hm]at h0;exact absurd rfl h0
  ·have hd:=aTa hl.e1 hm;have hle:=bT3 m (aQ l);rw[hd];have hs:=aFj (p:=p) hl.e1 hm;rw[hs]at h0⊢
   by_cases ha:(atX p l m).2=0
   ·rw[if_pos ha]at h0⊢
    by_cases ht:(cQ p (atX p l m).1 (jA l m)).2.2=0
    ·rw[if_pos ht]at h0;exact absurd rfl h0
    ·rw[if_neg ht]at h0⊢;have hk:(eN p l m).2.2=(cQ p (atX p l m).1 (jA l m)).2.2:=by unfold eN;rw[if_pos ha,if_neg ht]
     exact⟨m,hle,by omega,aVl hl m ha,by rw[hk];exact ht,hk⟩
   ·rw[if_neg ha]at h0⊢;obtain⟨s,h1,h2,h3,h4,h5⟩:=aWx hl m ha;exact⟨s,h1,by omega,h3,h4,h5⟩
def AtI (p:aF)(l:cG)(fr0:Nat->Val)(t:Nat)(en:En)(_:Nat->Nat->Nat):Prop:=
 (∃fr1,en ⟨1,0,0⟩=some (.loop fr1 [40,41] (aY.ops [o 8 (.alloc [.cl [],.cl [],.cl [],.cl [],.i 0,.cl [],.cl [],.cl [],.cl [],.i 0,.i 0,.i 0,.i 0,.i 0,.i 0]),sT 15 8 41]) (aY.block 1 (.ops [fA 42 5 8,lT 43 5 42,sT 5 6 43])) .ready)/\ fr1 6=fr0 6)/\ en ⟨0,4,0⟩=some (.box [.cl [],.cl [],.cl [],.cl [],.i 0] false)/\ ∃w,en ⟨0,6,0⟩=some (.box [.fz (w.objs.map aN.enc),.is w.tasks,.fz (w.outs.map bL.enc),.is w.ins,.i w.used] false)/\ w=(atX p l t).1
variable {fr0:Nat->Val}
theorem bCu (t:Nat):bCr (fun _=>0) (AtI p l fr0 t):=by
 rintro en cnt en' cnt' ⟨⟨fr1,h1,hf⟩,h2,w,h3,h4⟩ ho _ _
 exact⟨⟨fr1,(ho 1 0 0 (.inl (by decide))).trans h1,hf⟩,(ho 0 4 0 (.inr (.inl (by decide)))).trans h2,w,(ho 0 6 0 (.inr (.inl (by decide)))).trans h3,h4⟩
theorem bCv (hf:fr0 6= .ptr ⟨0,6,0⟩ 0)(hn:(atX p l (t+1)).1=(eN p l t).1)(hI:AtI p l fr0 t en cnt):
  WIn L (.yld ⟨1,0,0⟩) [.i (t:Int),aN2 p l t] en cnt fun v en' cnt'=>v= .bool true/\ AtI p l fr0 (t+1) en' cnt'/\ (∀u g,u∈T3->g<cnt 0 u->0<=g->en' ⟨0,u,g⟩=en ⟨0,u,g⟩)/\ ∀u∈T3,cnt 0 u<=cnt' 0 u:=by
 obtain⟨⟨fr1,h1,hf1⟩,h2,w,h3,h4⟩:=hI;rw[hf]at hf1
 refine aIg (fr:=fr1) (ps:=[40,41]) (a:=(aY.ops [o 8 (.alloc [.cl [],.cl [],.cl [],.cl [],.i 0,.cl [],.cl [],.cl [],.cl [],.i 0,.i 0,.i 0,.i 0,.i 0,.i 0]),sT 15 8 41])) (b:=(aY.block 1 (.ops [fA 42 5 8,lT 43 5 42,sT 5 6 43]))) h1 rfl ?_
 simp only[go_sem,aN2,bCq,hf1,h1,h3]
 refine⟨⟨⟨_,by simp only[go_sem];rfl,?_⟩,by simp only[go_sem,h2],_,by simp only[go_sem],hn.symm⟩,fun u g hu hg _=>?_,fun u hu=>?_⟩
 ·simp only[go_sem,hf,hf1]
 ·simp only[T3,bRm,List.not_mem_nil,or_false]at hu;rcases hu with rfl|rfl|rfl
  ·simp only[go_sem]
  ·simp only[go_sem]
  ·simp only[go_sem,show¬g=cnt 0 8 by omega]
 ·simp only[aC];split
  ·rename_i h;obtain⟨_,rfl⟩:=h;omega
  ·exact bQk _
theorem aWy (hpf:p.few)(hsp:aS p=true)(hok:mH p l=true)(hn:n<=l.picks.length):
  ((atX p l n).2=0->PC L 49 [.fp [.i l.every,.is l.picks,.fz (l.marks.map aA.enc),.fz (p.nodes.map aK.enc),.fz (p.funs.map (.int .i64)),.i p.main,.fz (p.cons.map cV.enc)] 0,.i (n:Int)] (.agg (atX p l n).1.cs))/\ (¬(atX p l n).2=0->PX L 49 [.fp [.i l.every,.is l.picks,.fz (l.marks.map aA.enc),.fz (p.nodes.map aK.enc),.fz (p.funs.map (.int .i64)),.i p.main,.fz (p.cons.map cV.enc)] 0,.i (n:Int)] (sK (atX p l n).2)):=by
 have hl:=qT.of hok;obtain⟨a,ha⟩: ∃a,a=n/aQ l*aQ l:=⟨_,rfl⟩
 have han:a<=n:=by rw[ha];exact bT3 ..
 have hma:a%aQ l=0:=by rw[ha];exact Nat.mul_mod_left ..
 have hlt:=hl.lt hn;have hia:=fun en=>sZ (l:=l) (en:=en) hlt
 have hmul:=hl.mul hn;rw[<-ha]at hmul;have ht:=aCw p l a n;have hda:a/aQ l=n/aQ l:=by rw[ha];exact Nat.mul_div_cancel _ (by have:=hl.e1;omega)
 have hma0:=qR (p:=p) hl.e1 hma;have hat:=aVj (p:=p) hl (bQv han hn) hma;rw[hda]at hma0 hat;rw[rJ hlt]at hma0 hat;have hmw:l.marks[n/aQ l]=(atX p l a).1:=by rw[hma0]
 have hnx: ∀t,a<=t->t<n->(eN p l t).2.2=0->(atX p l (t+1)).1=(eN p l t).1:=fun t h1 h2 h0=>by
  rcases(aWw hl h0).2 with h|h
  ·exfalso
   have h3:(t+1)/aQ l*aQ l=t+1:=aN3 h;have h4:(t+1)/aQ l<=n/aQ l:=Nat.div_le_div_right h2;have h5:=bRv (aQ l) h4;rw[h3,<-ha]at h5;omega
  ·exact h
 rw[hmw]at hat hia;have hT:=fun fr0 (hf:fr0 6= .ptr ⟨0,6,0⟩ 0) R s (h1:a<=s) (h2:s<=n) (h3: ∀t,a<=t->t<s->(eN p l t).2.2=0)=>bCt (R:=R) (k:=⟨1,0,0⟩) (c0:=fun _=>0) (I:=AtI p l fr0) hpf hsp hok h1 h2 hn (fun _=>hat) (fun h=>absurd (by rw[hma0]) h) bCu
  (fun t q1 q2=>⟨h3 t q1 q2,fun en cnt hI _=>bCv hf (hnx t q1 (bRa q2 h2) (h3 t q1 q2)) hI⟩)
 simp only[ply,hl.ev]at ht hat hT⊢
 refine⟨fun h0=>?_,fun h0=>?_⟩
 ·refine pcA func49 ?_
  simp only[go_sem,kK,hl.ne,hl.div,hl.wdiv hn,hmul,kF]
  refine aG ?_
  simp only[go_sem,hl.ne,hl.div,hl.wdiv hn,hia,kA,kF];simp only[go_sem,ht.ret]
  refine uJ (by simp only[go_sem];rfl) ?_
  rintro fr0 k hf hk
  obtain rfl:k=⟨1,0,0⟩:=hk
  refine fR aUo.2 rfl rfl ?_
  refine hT fr0 (by rw[hf];simp only[go_sem]) _ n han (bQk n) (fun t h1 h2=>aVl hl n h0 t (by rw[<-ha];exact h1) h2) (fun en cnt hI _=> .inl ⟨rfl,fun e fr he=>?_⟩) ?_ (fun _ _=>bQt _)
  ·obtain⟨⟨fr1,i1,_⟩,i4,w,i6,rfl⟩:=hI
   refine⟨by rcases he with rfl|rfl<;>rfl,?_⟩
   simp only[go_sem,aUo,i1,i4,i6]
  ·refine⟨⟨_,by simp only[go_sem],rfl⟩,by simp only[go_sem],_,by simp only[go_sem],rfl⟩
 ·obtain⟨s,h1,h2,h3,h4,h5⟩:=aWx hl n h0;rw[<-ha]at h1 h3
  refine pxA func49 ?_
  simp only[go_sem,kK,hl.ne,hl.div,hl.wdiv hn,hmul,kF]
  refine aG ?_
  simp only[go_sem,hl.ne,hl.div,hl.wdiv hn,hia,kA,kF];simp only[go_sem,ht.ret]
  refine aGb (by simp only[go_sem];rfl) ?_
  rintro fr0 k hf hk
  obtain rfl:k=⟨1,0,0⟩:=hk
  refine jL aUo.2 rfl rfl ?_
  refine hT fr0 (by rw[hf];simp only[go_sem]) _ s h1 (Nat.le_of_lt h2) h3 (fun en cnt hI _=> .inr (.inr ⟨h2,h4,fun fr=>?_⟩)) ?_ (fun _ _=>bQt _)
  ·rw[h5]
   done
  ·refine⟨⟨_,by simp only[go_sem],rfl⟩,by simp only[go_sem],_,by simp only[go_sem],rfl⟩
theorem aBg (p:aF)(l:cG)(a:Int):PC L 76 [(ply p l),.i a] (.fn 115 [] [.fp [(ply p l)] 0,.fp [.i a] 0]):=by
 refine pcA func76 ?_
 simp only[go_sem,kK,kF]
def aVm (c4:Nat)(I:En->(Nat->Nat->Nat)->Prop):Prop:= ∀en cnt en' cnt',I en cnt->(∀n t g,(n≠0 \/t≠4 \/g<c4)->en' ⟨n,t,g⟩=en ⟨n,t,g⟩)->(∀n t,n≠0 \/t≠4->cnt' n t=cnt n t)->cnt 0 4<=cnt' 0 4->I en' cnt'
theorem bFa {c4:Nat}(hg:c4<=g): ∀n t g',(n≠0 \/t≠4 \/g'<c4)->(en.set ⟨0,4,g⟩ e) ⟨n,t,g'⟩=en ⟨n,t,g'⟩:=by
 intro n u g' h
 refine jE fun he=>?_
 injection he with h1 h2 h3
 rcases h with h|h|h
 ·exact h h1
 ·exact h h2
 ·omega
theorem bFb (hl:qT l)(hm: ¬(n+1)%aQ l=0)(h:(atX p l n).2=0):
  ((cQ p (atX p l n).1 (jA l n)).2.2=0->(atX p l (n+1)).2=0/\ (atX p l (n+1)).1=(cQ p (atX p l n).1 (jA l n)).1)/\ (¬(cQ p (atX p l n).1 (jA l n)).2.2=0->(atX p l (n+1)).2=(cQ p (atX p l n).1 (jA l n)).2.2):=by
 rw[aFj hl.e1 hm,if_pos h]
 refine⟨fun h'=>?_,fun h'=>?_⟩
 ·rw[if_pos h'];exact⟨rfl,rfl⟩
 ·rw[if_neg h']
theorem qT.few1 (h:qT l):Few (l.picks.length+1):=by have:=h.pk;unfold Few;omega
theorem aN4 (hpf:p.few)(hsp:aS p=true)(hok:mH p l=true){a s:Nat}(has:a<=s)(ha:a<=l.picks.length)(hsb:s<=l.picks.length+1)
  {k:Key} {c4:Nat} {I:Nat->En->(Nat->Nat->Nat)->Prop} {R:Ex->St->Prop} (hst: ∀t,aVm c4 (I t))
  (hr: ∀t,a<=t->t<s->(atX p l t).2=0/\ ∀en cnt,I t en cnt->c4<=cnt 0 4->WIn L (.yld k) [.i (t:Int),.agg (atX p l t).1.cs] en cnt fun v en' cnt'=>v= .bool true/\ I (t+1) en' cnt'/\ (∀g,g<cnt 0 4->c4<=g->en' ⟨0,4,g⟩=en ⟨0,4,g⟩)/\ cnt 0 4<=cnt' 0 4)
  (hfin: ∀en cnt,I s en cnt->c4<=cnt 0 4->(s=l.picks.length+1/\ ∀fr,R .normal ⟨fr,en,cnt⟩) \/
   (s<=l.picks.length/\ (atX p l s).2=0/\ WIn L (.yld k) [.i (s:Int),.agg (atX p l s).1.cs] en cnt fun v en' cnt'=>v= .bool false/\ ∀fr,R .ret ⟨fr,en',cnt'⟩) \/
   (s<=l.picks.length/\ ¬(atX p l s).2=0/\ ∀fr,R (.panic (sK (atX p l s).2)) ⟨fr,en,cnt⟩))
  {en:En} {cnt:Nat->Nat->Nat} (h0:I a en cnt) (hc0:c4<=cnt 0 4):
  Wp L aH4.1.body ⟨fun i=>[.yld k,.fp [(ply p l)] 0,.fp [.i (a:Int)] 0].getD i (.tup []),en,cnt⟩ R:=by
 have hl:=qT.of hok;obtain⟨hat,hax⟩:=aWy hpf hsp hok ha;simp only[go_sem,kK,aH4]
 by_cases ha0:(atX p l a).2=0
 case neg=>
  have hs:s=a:=by
   rcases bRs a s with h|h
   ·exact absurd (hr a (bQk _) h).1 ha0
   ·omega
  subst hs;rcases hfin _ _ h0 hc0 with⟨h,_⟩|⟨_,h,_⟩|⟨_,_,h⟩
  ·omega
  ·exact absurd h ha0
  ·refine cO 2 rfl ?_
   simp only[go_sem,bQs,bQq,(hax ha0).ret];exact h _
 refine bR ?_
 simp only[go_sem,(hat ha0).ret,kF];obtain⟨g4,hg4⟩: ∃g,g=cnt 0 4:=⟨_,rfl⟩
 rw[<-hg4];have hc5:c4<=g4:=by rw[hg4];exact hc0
 refine bQ s (fun t st=> ∃fr en cnt w,st=⟨fr,en,cnt⟩/\ fr 0= .yld k/\ fr 1= .fp [(ply p l)] 0/\ fr 2= .fp [.i (a:Int)] 0/\ fr 4= .ptr ⟨0,4,g4⟩ 0/\ fr 5= .i (t:Int)/\ en ⟨0,4,g4⟩=some (.box w.cs false)/\ ((t=a/\ w=(atX p l a).1) \/(a<t/\ w=(atX p l (t-1)).1/\ (atX p l (t-1)).2=0))/\ I t en cnt/\ g4<cnt 0 4/\ a<=t) a has ?_ ?_
 ·refine⟨_,_,_,(atX p l a).1,rfl,by simp only[go_sem],by simp only[go_sem],by simp only[go_sem],by simp only[go_sem],by simp only[go_sem],by simp only[go_sem],.inl ⟨rfl,rfl⟩,?_,?_,bQk _⟩
  ·refine hst a _ _ _ _ h0 (fun n t g h=>by rw[bFa hc5 n t g h,bFa hc5 n t g h]) (fun n t h=>?_) ?_
   ·simp only[aC];split
    ·rename_i h';obtain⟨rfl,rfl⟩:=h';simp at h
    ·rfl
   ·simp only[aC];simp;omega
  ·simp only[aC];simp
 rintro t st hts ⟨fr,en,cnt,w,rfl,f0,f1,f2,f4,f5,e4,hw,hI,hg,hta⟩
 simp only[go_sem,kK,f5,f1]
 by_cases htb:t<=l.picks.length
 case neg=>
  have:s=l.picks.length+1:=by omega
  have:t=s:=by omega
  subst this;simp only[go_sem,D_f htb];rcases hfin _ _ hI (by omega)with⟨_,h⟩|⟨h,_⟩|⟨h,_⟩
  ·exact h _
  ·omega
  ·omega
 have hmk:=aGs (p:=p) (l:=l) t hl.e1 (by have:=hl.pk;omega) hl.ev
 simp only[go_sem,kK,D_t htb,f1,f5,hmk.ret];obtain⟨y,hy⟩: ∃y,y=(atX p l t).1:=⟨_,rfl⟩
 by_cases hm:t%aQ l=0
 case' pos=>
  have hlt:=hl.lt htb;have hia:=fun en=>sZ (l:=l) (en:=en) hlt
  have hwm:l.marks[t/aQ l]=y:=by rw[hy,qR hl.e1 hm,rJ hlt]
  have hat1:(atX p l t).2=0:=by rw[qR hl.e1 hm]
  simp only[go_sem,D_t hm,f1,f4,f5,hl.ev,hl.ne,hl.div,hl.wdiv htb,hia,hwm,e4,kF];have e6:(en.set ⟨0,4,g4⟩ (some (.box y.cs false))) ⟨0,4,g4⟩=some (.box y.cs false):=by simp only[go_sem]
  have hI2:=hst t _ cnt _ cnt hI (bFa (e:=some (.box y.cs false)) (g:=g4) hc5) (fun _ _ _=>rfl) (bQk _)
  generalize En.set en _ _=en1 at e6 hI2⊢
 case' neg=>
  simp only[go_sem,kK,D_f hm,f2,f5];rcases hw with⟨hta1,hw1⟩|⟨hgt,hw1,hw2⟩
 case' neg.inl=>
  subst hta1;rw[hw1,<-hy]at e4;simp only[go_sem,D_f (bS1 t)];have hat1:=ha0;have e6:=e4;have hI2:=hI;generalize en=en1 at e6 hI2⊢
 case' neg.inr=>
  obtain⟨m,rfl⟩: ∃m,t=m+1:=⟨t-1,by omega⟩
  have hmp:m<l.picks.length:=by omega
  have hwr:IntKind.i64.wrap (((m+1:Nat):Int)-1)=(m:Int):=by
   have:=hl.pk;rw[show((m+1:Nat):Int)-1=(m:Int)by omega]
   exact aV (by omega)
  rw[Nat.add_sub_cancel]at hw1 hw2;subst hw1;have hgv:=aBf hok (Nat.le_of_lt hmp) hw2;obtain⟨hs1,hs2⟩:=bFb (p:=p) hl hm hw2;simp only[go_sem,D_t hgt]
  by_cases ht:(cQ p (atX p l m).1 (jA l m)).2.2=0
  case neg=>
   have hT:=vB p l (atX p l m).1 (jA l m) hpf (sE hsp hgv) hsp hgv ht;rw[<-hs2 ht,aFo hmp]at hT;rw[<-hs2 ht]at ht;have:m+1=s:=by
    rcases bRs (m+1) s with h|h
    ·exact absurd (hr (m+1) hta h).1 ht
    ·omega
   subst this
   refine kR 11 rfl rfl ?_
   simp only[go_sem,bQs,bQq,bR0,bRz,rD,f1,f4,f5,e4,hwr,hmp,hT.ret]
   refine⟨rfl,?_⟩
   rcases hfin _ _ hI (by omega)with⟨h,_⟩|⟨_,h,_⟩|⟨_,_,h⟩
   ·omega
   ·exact absurd h ht
   ·exact h _
  obtain⟨hat1,hs3⟩:=hs1 ht;have hT:=vA p l (atX p l m).1 (jA l m) hpf (sE hsp hgv) hsp hgv ht;rw[<-hs3,<-hy,aFo hmp]at hT
  refine bA9 ?_
  simp only[go_sem,f1,f4,f5,e4,hwr,hmp,hT.ret,evV,kF];have e6:(en.set ⟨0,4,g4⟩ (some (.box y.cs false))) ⟨0,4,g4⟩=some (.box y.cs false):=by simp only[go_sem]
  have hI2:=hst (m+1) _ cnt _ cnt hI (bFa (e:=some (.box y.cs false)) (g:=g4) hc5) (fun _ _ _=>rfl) (bQk _)
  generalize En.set en _ _=en1 at e6 hI2⊢;generalize m+1=t at*
 all_goals
  simp only[go_sem,f0,f4,f5,e6];rcases bRs t s with hlt|hge
  ·have hrt:=(hr t hta hlt).2 _ _ hI2 (by omega)
   rw[<-hy]at hrt
   refine WIn.mono hrt ?_
   rintro v en' cnt' ⟨rfl,hI4,hin,hcc⟩
   have q4:=(hin g4 hg hc5).trans e6;simp only[go_sem,kK,f5,bQ0]
   refine⟨hlt,_,_,_,y,rfl,?_⟩
   simp only[go_sem,f0,f1,f2,f4,q4,aR (Nat.lt_succ_of_le htb) hl.few1,hl.ev];exact⟨.inr ⟨by omega,hy,hat1⟩,hI4,by omega,by omega⟩
  ·have:t=s:=by omega
   subst this;rcases hfin _ _ hI2 (by omega)with⟨h,_⟩|⟨_,_,hrt⟩|⟨_,h,_⟩
   ·omega
   ·rw[<-hy]at hrt
    refine WIn.mono hrt ?_
    rintro v en' cnt' ⟨rfl,hR⟩
    simp only[go_sem,kK,bQ5];exact hR _
   ·exact absurd hat1 h
theorem rM (p:aF)(l:cG):aGr p l=mH p l:=by
 rw[bSw];simp only[aGr,mH,bM,inR,aQ,bQj,bRw,Bool.or_eq_false_iff,Bool.not_eq_false',bT8,bT9,bQp];constructor
 ·rintro⟨⟨⟨⟨h1,h2⟩,h3⟩,h4⟩,h5⟩
  have hd:(l.marks.length:Int)=((l.picks.length/l.every.toNat+1:Nat):Int):=by
   rw[h4,bT7 (by omega)]
   have:l.every=(l.every.toNat:Int):=by omega
   rw[this];rfl
  have hl:l.marks.length=l.picks.length/l.every.toNat+1:=by exact_mod_cast hd
  have hne:l.marks≠[]:=by intro h;rw[h]at hl;simp at hl
  obtain⟨w,hw⟩:=List.exists_mem_of_ne_nil _ hne;exact⟨⟨⟨⟨(h5 w hw).1,by omega⟩,by omega⟩,D_t hl⟩,fun w hw=>(h5 w hw).2⟩
 ·rintro⟨⟨⟨⟨h1,h2⟩,h3⟩,h4⟩,h5⟩
  refine⟨⟨⟨⟨by omega,by omega⟩,by omega⟩,?_⟩,fun w hw=>⟨h1,h5 w hw⟩⟩
  rw[D_o h4,bT7 (by omega)]
  have:l.every=(l.every.toNat:Int):=by omega
  rw[this];rfl
theorem aGt {p:aF}{l:cG}{count:aA->Int}{n:Int}: ∀(k t:Nat),
  (∃s,t+1<=s/\ s<=t+k/\ (∀u,t+1<=u->u<s->(atX p l u).2=0/\ ¬n<count (atX p l u).1)/\
   ((atX p l s).2=0/\ n<count (atX p l s).1/\ lE p l count n t k=(((s-1:Nat):Int),0) \/ ¬(atX p l s).2=0/\ lE p l count n t k=(0,(atX p l s).2))) \/
  ((∀u,t+1<=u->u<=t+k->(atX p l u).2=0/\ ¬n<count (atX p l u).1)/\ lE p l count n t k=(0,5))
 |0,t=> .inr ⟨fun u h1 h2=>by omega,rfl⟩
 |k+1,t=>by
  rw[lE]
  by_cases h1:(atX p l (t+1)).2=0
  ·rw[if_pos h1]
   by_cases h2:n<count (atX p l (t+1)).1
   ·rw[if_pos h2];exact .inl ⟨t+1,bQk _,by omega,fun u q1 q2=>by omega,.inl ⟨h1,h2,rfl⟩⟩
   ·rw[if_neg h2];rcases aGt k (t+1)with⟨s,q1,q2,q3,q4⟩|⟨q1,q2⟩
    ·refine .inl ⟨s,by omega,by omega,fun u r1 r2=>?_,q4⟩
     rcases bRs (t+1) u with h|h
     ·exact q3 u h r2
     ·obtain rfl:u=t+1:=by omega
      exact⟨h1,h2⟩
    ·refine .inr ⟨fun u r1 r2=>?_,q2⟩
     rcases bRs (t+1) u with h|h
     ·exact q1 u h (by omega)
     ·obtain rfl:u=t+1:=by omega
      exact⟨h1,h2⟩
  ·rw[if_neg h1];exact .inl ⟨t+1,bQk _,by omega,fun u q1 q2=>by omega,.inr ⟨h1,rfl⟩⟩
def bFc (n:Int)(fc:Nat)(en:En)(_:Nat->Nat->Nat):Prop:=
 (∃fr1,en ⟨1,0,0⟩=some (.loop fr1 [26,27] (aY.seq (.ops [mT 7 26]) (.ops [o 8 (.alloc [.cl [],.cl [],.cl [],.cl [],.i 0]),sT 5 8 27])) (aY.block 1 (.seq (.draw [mT 28 7,bN 29 .gtr (.t 28) (cI 0),mT 30 29,g1 31 30 true 5,gT 32 30 true 5 8,og 33 30 true (.call (.t 31) [(.t 32)]),g1 34 30 true 4,gB 35 30 true .gtr (.t 33) (.t 34),pA 36 30 35] [(5,6)]) (.cond (.t 36) (.seq (.ops [mT 37 7,bN 38 .sub (.t 37) (cI 1),sT 1 6 38]) .ret) .skip))) .ready)/\ fr1 4= .ptr ⟨0,4,0⟩ 0/\ fr1 5= .ptr ⟨0,5,0⟩ 0/\ fr1 6= .ptr ⟨0,6,0⟩ 0)/\ en ⟨0,4,0⟩=some (.box [.i n] false)/\ en ⟨0,5,0⟩=some (.box [.fn fc [] []] false)/\ en ⟨0,6,0⟩=some (.box [.i 0] false)
variable {fc:Nat}
theorem aZd {n:Int}(_:Nat):aVm 1 (bFc n fc):=by
 rintro en cnt en' cnt' ⟨⟨fr1,h1,hf⟩,h2,h3,h4⟩ ho _ _
 exact⟨⟨fr1,(ho 1 0 0 (.inl (by decide))).trans h1,hf⟩,(ho 0 4 0 (.inr (.inr (by decide)))).trans h2,(ho 0 5 0 (.inr (.inl (by decide)))).trans h3,(ho 0 6 0 (.inr (.inl (by decide)))).trans h4⟩
variable {count:aA->Int}
theorem aN5 {n:Int}(hc: ∀w:aA,PC L fc [.agg w.cs] (.i (count w)))(ht:t<=1000)(w:aA)(hI:bFc n fc en cnt):
  WIn L (.yld ⟨1,0,0⟩) [.i (t:Int),.agg w.cs] en cnt fun v en' cnt'=>(v= .bool (!(decide (0<t)&&decide (n<count w))))/\ (v= .bool true->bFc n fc en' cnt')/\
   (v= .bool false->(∃fr1,en' ⟨1,0,0⟩=some (.loop fr1 [26,27] (aY.seq (.ops [mT 7 26]) (.ops [o 8 (.alloc [.cl [],.cl [],.cl [],.cl [],.i 0]),sT 5 8 27])) (aY.block 1 (.seq (.draw [mT 28 7,bN 29 .gtr (.t 28) (cI 0),mT 30 29,g1 31 30 true 5,gT 32 30 true 5 8,og 33 30 true (.call (.t 31) [(.t 32)]),g1 34 30 true 4,gB 35 30 true .gtr (.t 33) (.t 34),pA 36 30 35] [(5,6)]) (.cond (.t 36) (.seq (.ops [mT 37 7,bN 38 .sub (.t 37) (cI 1),sT 1 6 38]) .ret) .skip))) (.done .ret)))/\ en' ⟨0,6,0⟩=some (.box [.i (((t-1:Nat)):Int)] false))/\ (∀g,g<cnt 0 4->1<=g->en' ⟨0,4,g⟩=en ⟨0,4,g⟩)/\ cnt 0 4<=cnt' 0 4:=by
 obtain⟨⟨fr1,h1,q4,q5,q6⟩,h2,h3,h4⟩:=hI
 refine aIg (fr:=fr1) (ps:=[26,27]) (a:=(aY.seq (.ops [mT 7 26]) (.ops [o 8 (.alloc [.cl [],.cl [],.cl [],.cl [],.i 0]),sT 5 8 27]))) (b:=(aY.block 1 (.seq (.draw [mT 28 7,bN 29 .gtr (.t 28) (cI 0),mT 30 29,g1 31 30 true 5,gT 32 30 true 5 8,og 33 30 true (.call (.t 31) [(.t 32)]),g1 34 30 true 4,gB 35 30 true .gtr (.t 33) (.t 34),pA 36 30 35] [(5,6)]) (.cond (.t 36) (.seq (.ops [mT 37 7,bN 38 .sub (.t 37) (cI 1),sT 1 6 38]) .ret) .skip)))) h1 rfl ?_
 simp only[go_sem,kK,h1]
 refine aG ?_
 have hwr:0<t->IntKind.i64.wrap ((t:Int)-1)=((t-1:Nat):Int):=fun h=>by rw[show(t:Int)-1=((t-1:Nat):Int)by omega];exact aV (by omega)
 by_cases h0:0<t
 ·have h0':decide ((0:Int)<(t:Int))=true:=D_t (by omega)
  by_cases hw:n<count w
  ·simp only[go_sem,kK,h0',D_t h0,D_t hw,q4,q5,q6,h2,h3,h4,(hc w).ret,bQ9,hwr h0,kA,kF];exact⟨rfl,fun h=>absurd (Val.bool.inj h) (by decide),fun _=>⟨_,rfl⟩,fun _ _ _=>trivial,bQk _⟩
  ·simp only[go_sem,kK,h0',D_t h0,D_f hw,q4,q5,h2,h3,h4,(hc w).ret,bQ9,kA,kF];exact⟨fun _=>⟨⟨_,by simp only[go_sem];rfl,by simp only[go_sem,q4],by simp only[go_sem,q5],by simp only[go_sem,q6]⟩,by simp only[go_sem,h2],by simp only[go_sem,h3],by simp only[go_sem,h4]⟩,fun h=>by simp at h,fun _ _ _=>trivial,bQk _⟩
 ·simp only[go_sem,kK,show decide ((0:Int)<(t:Int))=false from D_f (by omega),D_f h0,h4,bQ7,kA,kF]
  exact⟨fun _=>⟨⟨_,by simp only[go_sem];rfl,by simp only[go_sem,q4],by simp only[go_sem,q5],by simp only[go_sem,q6]⟩,by simp only[go_sem,h2],by simp only[go_sem,h3],by simp only[go_sem,h4]⟩,fun h=>by simp at h,fun _ _ _=>trivial,bQk _⟩
theorem bCw (h:0<l.marks.length):mA 5 en (.fz (l.marks.map aA.enc)) (.i 0)=some {v:= .fp [.fz (l.marks[0].objs.map aN.enc),.is l.marks[0].tasks,.fz (l.marks[0].outs.map bL.enc),.is l.marks[0].ins,.i l.marks[0].used] 0}:=sZ h
theorem aDn (hpf:p.few)(hsp:aS p=true)(hok:mH p l=true){n:Int}(hc: ∀w:aA,PC L fc [.agg w.cs] (.i (count w))):
  (0<=n/\ (moreX p l count n).2=0->PC L 68 [(ply p l),.i n,.fn fc [] []] (.i (moreX p l count n).1))/\
  (n<0->PX L 68 [(ply p l),.i n,.fn fc [] []] (sK 2))/\
  (0<=n/\ ¬(moreX p l count n).2=0->PX L 68 [(ply p l),.i n,.fn fc [] []] (sK (moreX p l count n).2)):=by
 have hl:=qT.of hok;have h0m:=hl.lt (bQt l.picks.length);rw[Nat.zero_div]at h0m;have hia:=fun en=>bCw (l:=l) (en:=en) h0m
 have hm0:l.marks[0]=(atX p l 0).1:=by rw[qR hl.e1 (Nat.zero_mod _),Nat.zero_div,rJ h0m]
 have ha0:(atX p l 0).2=0:=by rw[qR hl.e1 (Nat.zero_mod _)]
 have hcm:=hc l.marks[0];have hmx:moreX p l count n=if n<count l.marks[0]then(0,5)else lE p l count n 0 l.picks.length:=by rw[moreX,rJ h0m]
 have hw:=aBg p l 0;have hpk:=hl.pk;have hT:=fun R (s:Nat) (h1:s<=l.picks.length+1) (h2: ∀u,0+1<=u->u<s->(atX p l u).2=0/\ ¬n<count (atX p l u).1)=>aN4 (R:=R) (a:=0) (k:=⟨1,0,0⟩) (c4:=1) (I:=fun _=>bFc n fc) hpf hsp hok (bQt s) (bQt _) h1 aZd
  (fun t q1 q2=>⟨by
   rcases Nat.eq_zero_or_pos t with rfl|h
   ·exact ha0
   ·exact(h2 t h q2).1,fun en cnt hI _=>(aN5 hc (by omega) _ hI).mono fun v en' cnt' ⟨r1,r2,_,r4,r5⟩=>by
   have hv:v= .bool true:=by
    rw[r1];rcases Nat.eq_zero_or_pos t with rfl|h
    ·rfl
    ·simp[(h2 t h q2).2]
   exact⟨hv,r2 hv,r4,r5⟩⟩)
 refine⟨fun⟨h1,h2⟩=>?_,fun h1=>?_,fun⟨h1,h2⟩=>?_⟩
 ·by_cases hcl:count l.marks[0]<=n
  case neg=>rw[hmx,if_pos (by omega)]at h2;cases h2
  rw[hmx,if_neg (by omega)]at h2⊢
  rcases aGt (p:=p) (l:=l) (count:=count) (n:=n) l.picks.length 0 with⟨s,q1,q2,q3,⟨q4,q5,q6⟩|⟨q4,q5⟩⟩|⟨_,q5⟩
  ·rw[q6]
   refine pcA func68 ?_
   simp only[go_sem,kK,kF]
   refine bR ?_
   simp only[go_sem,D_t h1,(bZ _).ret,kF]
   refine jG ?_
   simp only[go_sem,hia,hcm.ret,D_t hcl,(bZ _).ret,kA,kF];simp only[go_sem,hw.ret]
   refine uJ (by simp only[go_sem];rfl) ?_
   rintro fr0 k hf hk
   obtain rfl:k=⟨1,0,0⟩:=hk
   refine fR aH4.2 rfl rfl ?_
   refine hT _ s (by omega) q3 (fun en cnt hI _=> .inr (.inl ⟨by omega,q4,(aN5 hc (by omega) _ hI).mono fun v en' cnt' ⟨r1,_,r3,_,_⟩=>?_⟩)) (by refine⟨⟨fr0,by simp only[go_sem],by rw[hf];simp only[go_sem],by rw[hf];simp only[go_sem],by rw[hf];simp only[go_sem]⟩,?_,?_,?_⟩<;>simp only[go_sem]) (by decide)
   have hv:v= .bool false:=by rw[r1];simp[q5];omega
   obtain⟨⟨fr1,i1⟩,i6⟩:=r3 hv
   refine⟨hv,fun fr=>⟨rfl,?_⟩⟩
   simp only[go_sem,aH4,i1,i6]
  ·rw[q5]at h2;exact absurd h2 q4
  ·rw[q5]at h2;cases h2
 ·refine pxA func68 ?_
  simp only[go_sem,kK]
  refine cO 2 rfl ?_
  simp only[go_sem,bQs,bQq,D_f (show¬0<=n by omega),(dM _).ret]
 ·refine pxA func68 ?_
  simp only[go_sem,kK]
  refine bR ?_
  simp only[go_sem,D_t h1,(bZ _).ret,kF]
  by_cases hcl:count l.marks[0]<=n
  case neg=>
   rw[hmx,if_pos (by omega)]
   refine kR 11 rfl rfl ?_
   simp only[go_sem,bQs,bQq,bR0,bRz,rD,hia,hcm.ret,D_f hcl,(dM _).ret,kA,kF];rfl
  refine jG ?_
  simp only[go_sem,hia,hcm.ret,D_t hcl,(bZ _).ret,kA,kF];simp only[go_sem,hw.ret];rw[hmx,if_neg (by omega)]at h2⊢
  rcases aGt (p:=p) (l:=l) (count:=count) (n:=n) l.picks.length 0 with⟨s,q1,q2,q3,⟨q4,q5,q6⟩|⟨q4,q5⟩⟩|⟨q3,q5⟩
  ·rw[q6]at h2;exact absurd rfl h2
  ·rw[q5]
   refine aGb (by simp only[go_sem];rfl) ?_
   rintro fr0 k hf hk
   obtain rfl:k=⟨1,0,0⟩:=hk
   refine jL aH4.2 rfl rfl ?_
   refine hT _ s (by omega) q3 (fun en cnt hI _=> .inr (.inr ⟨by omega,q4,fun fr=>?_⟩)) (by refine⟨⟨fr0,by simp only[go_sem],by rw[hf];simp only[go_sem],by rw[hf];simp only[go_sem],by rw[hf];simp only[go_sem]⟩,?_,?_,?_⟩<;>simp only[go_sem]) (by decide)
   rfl
  ·rw[q5]
   refine uJ (by simp only[go_sem];rfl) ?_
   rintro fr0 k hf hk
   obtain rfl:k=⟨1,0,0⟩:=hk
   refine fR aH4.2 rfl rfl ?_
   refine hT _ (l.picks.length+1) (bQk _) (fun u r1 r2=>q3 u r1 (by omega)) (fun en cnt hI _=> .inl ⟨rfl,fun fr=>?_⟩) (by refine⟨⟨fr0,by simp only[go_sem],by rw[hf];simp only[go_sem],by rw[hf];simp only[go_sem],by rw[hf];simp only[go_sem]⟩,?_,?_,?_⟩<;>simp only[go_sem]) (by decide)
   obtain⟨⟨fr1,i1,_⟩,i4,i5,i6⟩:=hI
   refine⟨rfl,?_⟩
   simp only[go_sem,aH4,i1]
   refine cO 2 rfl ?_
   simp only[go_sem,bQs,bQq];exact⟨rfl,rfl⟩
theorem aN6 {p:aF}{l:cG}{count:aA->Int}{n:Int}: ∀(k t:Nat),¬(lE p l count n t k).2=0->(lE p l count n t k).1=0
 |0,_,_=>rfl
 |k+1,t,h=>by
  rw[lE]at h⊢
  split at h<;>rename_i h1
  ·rw[if_pos h1]
   split at h<;>rename_i h2
   ·exact absurd rfl h
   ·rw[if_neg h2];exact aN6 k (t+1) h
  ·rw[if_neg h1]
theorem aDo {n:Int}(h: ¬(moreX p l count n).2=0):(moreX p l count n).1=0:=by
 unfold moreX at h⊢
 split at h<;>rename_i h1
 ·rw[if_pos h1]
 ·rw[if_neg h1];exact aN6 _ _ h
def firstX (p:aF)(l:cG)(count:aA->Int)(n:Int):Int×Int:=if mH p l=true/\ 0<=n then moreX p l count n else(0,2)
theorem aLt (hpf:p.few)(hlf:l.few)(hsp:aS p=true)(n:Int):PC L 23 [.agg p.cs,.agg l.cs,.i n] (.tup [.i (firstX p l (fun w=>(w.outs.length:Int)) n).1,.i (firstX p l (fun w=>(w.outs.length:Int)) n).2]):=by
 unfold firstX
 refine pcA func23 ?_
 simp only[go_sem,kK,kF]
 refine aDl ?_
 simp only[go_sem,kK]
 by_cases hok:mH p l=true
 case neg=>
  rw[if_neg (fun h=>hok h.1)]
  refine cO 2 rfl ?_
  simp only[go_sem,bQs,bQq,(xY p l hpf hlf hsp (by rw[rM];simpa using hok)).ret]
  refine⟨rfl,cS (x:= .i 0) rfl ?_⟩
  refine gR func67 ?_
  simp only[go_sem]
 have hP:=xX p l hpf hlf hsp (by rw[rM];exact hok)
 obtain⟨f1,f2,f3⟩:=aDn (n:=n) hpf hsp hok aIb
 by_cases hn:0<=n
 case neg=>
  rw[if_neg (fun h=>hn h.2)]
  refine cO 4 rfl ?_
  simp only[go_sem,bQs,bQq,hP.ret,(f2 (by omega)).ret,kF]
  refine⟨rfl,cS (x:= .i 0) rfl ?_⟩
  refine gR func67 ?_
  simp only[go_sem]
 rw[if_pos ⟨hok,hn⟩]
 by_cases hm:(moreX p l (fun w=>(w.outs.length:Int)) n).2=0
 ·refine bR ?_
  simp only[go_sem,hP.ret,(f1 ⟨hn,hm⟩).ret,hm,kF]
  refine⟨rfl,nP rfl ?_⟩
  simp only[go_sem]
 ·rw[aDo hm]
  refine cO 4 rfl ?_
  simp only[go_sem,bQs,bQq,hP.ret,(f3 ⟨hn,hm⟩).ret,kF]
  refine⟨rfl,cS (x:= .i 0) rfl ?_⟩
  refine gR func67 ?_
  simp only[go_sem]
theorem aLu (hpf:p.few)(hlf:l.few)(hsp:aS p=true)(n:Int):PC L 24 [.agg p.cs,.agg l.cs,.i n] (.tup [.i (firstX p l (fun w=>w.used) n).1,.i (firstX p l (fun w=>w.used) n).2]):=by
 unfold firstX
 refine pcA func24 ?_
 simp only[go_sem,kK,kF]
 refine aDl ?_
 simp only[go_sem,kK]
 by_cases hok:mH p l=true
 case neg=>
  rw[if_neg (fun h=>hok h.1)]
  refine cO 2 rfl ?_
  simp only[go_sem,bQs,bQq,(xY p l hpf hlf hsp (by rw[rM];simpa using hok)).ret]
  refine⟨rfl,cS (x:= .i 0) rfl ?_⟩
  refine gR func70 ?_
  simp only[go_sem]
 have hP:=xX p l hpf hlf hsp (by rw[rM];exact hok)
 obtain⟨f1,f2,f3⟩:=aDn (n:=n) hpf hsp hok aIc
 by_cases hn:0<=n
 case neg=>
  rw[if_neg (fun h=>hn h.2)]
  refine cO 4 rfl ?_
  simp only[go_sem,bQs,bQq,hP.ret,(f2 (by omega)).ret,kF]
  refine⟨rfl,cS (x:= .i 0) rfl ?_⟩
  refine gR func70 ?_
  simp only[go_sem]
 rw[if_pos ⟨hok,hn⟩]
 by_cases hm:(moreX p l (fun w=>w.used) n).2=0
 ·refine bR ?_
  simp only[go_sem,hP.ret,(f1 ⟨hn,hm⟩).ret,hm,kF]
  refine⟨rfl,nP rfl ?_⟩
  simp only[go_sem]
 ·rw[aDo hm]
  refine cO 4 rfl ?_
  simp only[go_sem,bQs,bQq,hP.ret,(f3 ⟨hn,hm⟩).ret,kF]
  refine⟨rfl,cS (x:= .i 0) rfl ?_⟩
  refine gR func70 ?_
  simp only[go_sem]
theorem aQa (hpf:p.few)(hlf:l.few)(hsp:aS p=true)(n:Int):PC L 25 [.agg p.cs,.agg l.cs,.i n] (.tup [.i (firstX p l (fun w=>(w.objs.length:Int)) n).1,.i (firstX p l (fun w=>(w.objs.length:Int)) n).2]):=by
 unfold firstX
 refine pcA func25 ?_
 simp only[go_sem,kK,kF]
 refine aDl ?_
 simp only[go_sem,kK]
 by_cases hok:mH p l=true
 case neg=>
  rw[if_neg (fun h=>hok h.1)]
  refine cO 2 rfl ?_
  simp only[go_sem,bQs,bQq,(xY p l hpf hlf hsp (by rw[rM];simpa using hok)).ret]
  refine⟨rfl,cS (x:= .i 0) rfl ?_⟩
  refine gR func72 ?_
  simp only[go_sem]
 have hP:=xX p l hpf hlf hsp (by rw[rM];exact hok)
 obtain⟨f1,f2,f3⟩:=aDn (n:=n) hpf hsp hok aMn
 by_cases hn:0<=n
 case neg=>
  rw[if_neg (fun h=>hn h.2)]
  refine cO 4 rfl ?_
  simp only[go_sem,bQs,bQq,hP.ret,(f2 (by omega)).ret,kF]
  refine⟨rfl,cS (x:= .i 0) rfl ?_⟩
  refine gR func72 ?_
  simp only[go_sem]
 rw[if_pos ⟨hok,hn⟩]
 by_cases hm:(moreX p l (fun w=>(w.objs.length:Int)) n).2=0
 ·refine bR ?_
  simp only[go_sem,hP.ret,(f1 ⟨hn,hm⟩).ret,hm,kF]
  refine⟨rfl,nP rfl ?_⟩
  simp only[go_sem]
 ·rw[aDo hm]
  refine cO 4 rfl ?_
  simp only[go_sem,bQs,bQq,hP.ret,(f3 ⟨hn,hm⟩).ret,kF]
  refine⟨rfl,cS (x:= .i 0) rfl ?_⟩
  refine gR func72 ?_
  simp only[go_sem]
def bGj (p:aF)(l:cG)(t:Nat):Prop:=(t+1)%aQ l=0/\ ¬(eN p l t).1=sJ l ((t+1)/aQ l)
instance (p :aF)(l:cG)(t:Nat):Decidable (bGj p l t):=by unfold bGj;exact inferInstance
def atR (p:aF)(l:cG)(n:Int):aA×Int×Int:=
 if mH p l=true/\ 0<=n/\ n<=(l.picks.length:Int)then(if(atX p l n.toNat).2=0 then((atX p l n.toNat).1,n%(aQ l:Int),0)else(aHx,0,(atX p l n.toNat).2))else(aHx,0,2)
theorem aTb (c:fG):oV (sD c)=false/\ (sD c).flat=true/\ (sD c).one=true/\ (sD c).cells=[sD c]/\ (sD c).wk=sD c/\ (sD c).wk1=sD c:=by
 unfold sD;split
 ·exact⟨rfl,rfl,rfl,rfl,rfl,rfl⟩
 split
 ·exact⟨rfl,rfl,rfl,rfl,rfl,rfl⟩
 split
 ·exact⟨rfl,rfl,rfl,rfl,rfl,rfl⟩
 ·exact⟨rfl,rfl,rfl,rfl,rfl,rfl⟩
theorem aZe (c:fG)(hc:mW c=true): ∃(f:Nat) (u:Val),wS [(184,367),(186,368),(187,369),(188,370)] (sD c)= .fn f [u] []/\ (∀en,snapD 8 en u=some (u,[]))/\ u.wk1=u/\ ∀w,bM p w=true->PC L f [u,.agg w.cs] (.bool (lF w c)):=by
 have hT: ∀w,bM p w=true->(∀a∈w.tasks,inR a 0 ((w.objs.length:Int)-1)=true)/\ ∀o∈w.objs,o.form=3->0<o.vals.length:=fun w hw=>by
  simp only[bM,bQj]at hw;obtain⟨_,_,_,_,h5,h6,_⟩:=cD.1 hw.2;simp only[gJ,bQj]at h5
  refine⟨fun a ha=>(pN _ _ h5.2 a ha).1,fun o ho h3=>?_⟩
  have:=h6 o ho;simp only[dI,h3,show¬(3:Int)=6 by decide,show¬(3:Int)=5 by decide,show¬(3:Int)=1 by decide,show¬(3:Int)=2 by decide,if_false,if_true]at this
  split at this
  ·cases this
  ·simp only[bQj,bT8]at this;omega
 obtain⟨kd,n,v⟩:=c;simp only[mW,bQj,bT8]at hc;obtain⟨⟨h1,h4⟩,_⟩:=hc;have:kd=1 \/kd=2 \/kd=3 \/kd=4:=by omega
 rcases this with rfl|rfl|rfl|rfl
 ·exact⟨367,_,rfl,fun _=>rfl,rfl,fun w hw=>aVi n v w (hT w hw).2⟩
 ·exact⟨368,_,rfl,fun _=>rfl,rfl,fun w hw=>aVg n w⟩
 ·exact⟨369,_,rfl,fun _=>rfl,rfl,fun w hw=>aP9 n w (hT w hw).1⟩
 ·exact⟨370,_,rfl,fun _=>rfl,rfl,fun w hw=>aVh n w⟩
theorem aN7 {p:aF}{l:cG}{c:fG}: ∀(k t:Nat),
  (∃s,t<=s/\ s<t+k/\ (∀u,t<=u->u<s->(atX p l u).2=0/\ lF (atX p l u).1 c=false)/\
   ((atX p l s).2=0/\ lF (atX p l s).1 c=true/\ mJ p l c t k=((s:Int),0) \/ ¬(atX p l s).2=0/\ mJ p l c t k=(0,(atX p l s).2))) \/
  ((∀u,t<=u->u<t+k->(atX p l u).2=0/\ lF (atX p l u).1 c=false)/\ mJ p l c t k=(0,5))
 |0,t=> .inr ⟨fun u h1 h2=>by omega,rfl⟩
 |k+1,t=>by
  rw[mJ]
  by_cases h1:(atX p l t).2=0
  ·rw[if_pos h1]
   by_cases h2:lF (atX p l t).1 c=true
   ·rw[if_pos h2];exact .inl ⟨t,bQk _,by omega,fun u q1 q2=>by omega,.inl ⟨h1,h2,rfl⟩⟩
   ·rw[if_neg h2];have h3:lF (atX p l t).1 c=false:=by simpa using h2
    rcases aN7 k (t+1)with⟨s,q1,q2,q3,q4⟩|⟨q1,q2⟩
    ·refine .inl ⟨s,by omega,by omega,fun u r1 r2=>?_,q4⟩
     rcases bRs t u with h|h
     ·exact q3 u h r2
     ·obtain rfl:u=t:=by omega
      exact⟨h1,h3⟩
    ·refine .inr ⟨fun u r1 r2=>?_,q2⟩
     rcases bRs t u with h|h
     ·exact q1 u h (by omega)
     ·obtain rfl:u=t:=by omega
      exact⟨h1,h3⟩
  ·rw[if_neg h1];exact .inl ⟨t,bQk _,by omega,fun u q1 q2=>by omega,.inr ⟨h1,rfl⟩⟩
def bFd (c:fG)(en:En)(_:Nat->Nat->Nat):Prop:=
 (∃fr1,en ⟨1,0,0⟩=some (.loop fr1 [33,34] (aY.seq (.ops [mT 12 33]) (.ops [o 13 (.alloc [.cl [],.cl [],.cl [],.cl [],.i 0]),sT 5 13 34])) (aY.block 1 (.seq (.ops [l1 35 11,lT 36 5 13,o 37 (.call (.m [(184,367),(186,368),(187,369),(188,370)] 35) [(.t 36)])]) (.cond (.t 37) (.seq (.ops [mT 38 12,sT 1 8 38,on (.store 1 (.t 9) (cI 0))]) .ret) .skip))) .ready)/\ fr1 8= .ptr ⟨0,8,0⟩ 0/\ fr1 9= .ptr ⟨0,9,0⟩ 0/\ fr1 11= .ptr ⟨0,11,0⟩ 0/\ fr1 14= .fn 74 [] [.ptr ⟨0,8,0⟩ 0])/\ en ⟨0,8,0⟩=some (.box [.i 0] false)/\ en ⟨0,9,0⟩=some (.box [.i 0] false)/\ en ⟨0,11,0⟩=some (.box [sD c] false)
variable {c:fG}
theorem aZf (_:Nat):aVm 1 (bFd c):=by
 rintro en cnt en' cnt' ⟨⟨fr1,h1,hf⟩,h2,h3,h4⟩ ho _ _
 exact⟨⟨fr1,(ho 1 0 0 (.inl (by decide))).trans h1,hf⟩,(ho 0 8 0 (.inr (.inl (by decide)))).trans h2,(ho 0 9 0 (.inr (.inl (by decide)))).trans h3,(ho 0 11 0 (.inr (.inl (by decide)))).trans h4⟩
theorem aN8 (hc:mW c=true)(hw:bM p w=true)(hI:bFd c en cnt):
  WIn L (.yld ⟨1,0,0⟩) [.i (t:Int),.agg w.cs] en cnt fun v en' cnt'=>(v= .bool (!lF w c))/\ (v= .bool true->bFd c en' cnt')/\
   (v= .bool false->(∃fr1,en' ⟨1,0,0⟩=some (.loop fr1 [33,34] (aY.seq (.ops [mT 12 33]) (.ops [o 13 (.alloc [.cl [],.cl [],.cl [],.cl [],.i 0]),sT 5 13 34])) (aY.block 1 (.seq (.ops [l1 35 11,lT 36 5 13,o 37 (.call (.m [(184,367),(186,368),(187,369),(188,370)] 35) [(.t 36)])]) (.cond (.t 37) (.seq (.ops [mT 38 12,sT 1 8 38,on (.store 1 (.t 9) (cI 0))]) .ret) .skip))) (.done .ret))/\ fr1 8= .ptr ⟨0,8,0⟩ 0/\ fr1 9= .ptr ⟨0,9,0⟩ 0/\ fr1 14= .fn 74 [] [.ptr ⟨0,8,0⟩ 0])/\ en' ⟨0,8,0⟩=some (.box [.i (t:Int)] false)/\ en' ⟨0,9,0⟩=some (.box [.i 0] false))/\ (∀g,g<cnt 0 4->1<=g->en' ⟨0,4,g⟩=en ⟨0,4,g⟩)/\ cnt 0 4<=cnt' 0 4:=by
 obtain⟨⟨fr1,h1,q8,q9,q11,q14⟩,h2,h3,h4⟩:=hI;obtain⟨f,u,hm,hu,hu1,hpc⟩:=aZe (p:=p) c hc;have hcall:=hpc w hw
 refine aIg (fr:=fr1) (ps:=[33,34]) (a:=(aY.seq (.ops [mT 12 33]) (.ops [o 13 (.alloc [.cl [],.cl [],.cl [],.cl [],.i 0]),sT 5 13 34]))) (b:=(aY.block 1 (.seq (.ops [l1 35 11,lT 36 5 13,o 37 (.call (.m [(184,367),(186,368),(187,369),(188,370)] 35) [(.t 36)])]) (.cond (.t 37) (.seq (.ops [mT 38 12,sT 1 8 38,on (.store 1 (.t 9) (cI 0))]) .ret) .skip)))) h1 rfl ?_
 simp only[go_sem,kK,h1,q11,h4,hm,hu,hu1,hcall.ret,kF]
 by_cases hh:lF w c=true
 ·simp only[go_sem,kK,hh,q8,q9,h2,h3];exact⟨rfl,fun h=>absurd (Val.bool.inj h) (by decide),fun _=>⟨_,rfl,by simp only[go_sem,q8],by simp only[go_sem,q9],by simp only[go_sem,q14]⟩,fun _ _ _=>trivial,bQk _⟩
 ·simp only[go_sem,hh,h2,h3];exact⟨fun _=>⟨⟨_,by simp only[go_sem];rfl,by simp only[go_sem,q8],by simp only[go_sem,q9],by simp only[go_sem,q11],by simp only[go_sem,q14]⟩,by simp only[go_sem,h2],by simp only[go_sem,h3],by simp only[go_sem,h4]⟩,fun h=>absurd (Val.bool.inj h) (by decide),fun _ _ _=>trivial,bQk _⟩
def aTc (p:aF)(l:cG)(a:Int)(c:fG):Int×Int:=
 if mH p l=true/\ (0<=a/\ a<=(l.picks.length:Int))/\ mW c=true then bCn p l a.toNat c else(0,2)
noncomputable def c74 :{c//L 74=some c}:=cA func74
theorem aQb (hpf:p.few)(hlf:l.few)(hsp:aS p=true)(a:Int)(c:fG):PC L 27 [.agg p.cs,.agg l.cs,.i a,c.enc] (.tup [.i (aTc p l a c).1,.i (aTc p l a c).2]):=by
 have hcE:c.enc= .agg [.i c.kind,.i c.n,.i c.v.kind,.i c.v.n]:=rfl;rw[hcE];unfold aTc
 refine pcA func27 ?_
 simp only[go_sem,kK,kF]
 refine aDl ?_
 simp only[go_sem,kK]
 by_cases hok:mH p l=true
 case neg=>
  rw[if_neg (fun h=>hok h.1)]
  refine cO 2 rfl ?_
  simp only[go_sem,bQs,bQq,(xY p l hpf hlf hsp (by rw[rM];simpa using hok)).ret]
  refine⟨rfl,cS (x:= .i 0) rfl ?_⟩
  refine fR c74.2 rfl rfl ?_
  simp only[go_sem,c74]
 have hl:=qT.of hok;have hP:=xX p l hpf hlf hsp (by rw[rM];exact hok)
 refine bR ?_
 simp only[go_sem,hP.ret,kF]
 by_cases hn:0<=a/\ a<=(l.picks.length:Int)
 case neg=>
  rw[if_neg (fun h=>hn h.2.1)]
  refine cO 9 rfl ?_
  have hc: ¬0<=a \/(0<=a/\ ¬a<=(l.picks.length:Int)):=by omega
  rcases hc with h1|⟨h1,h2⟩
  case' inr=>simp only[go_sem,kK,bQs,bQq,D_t h1,D_f h2,bQl,(dM _).ret]
  case' inl=>simp only[go_sem,kK,bQs,bQq,D_f h1,(dM _).ret]
  all_goals
   refine⟨rfl,cS (x:= .i 0) rfl ?_⟩
   refine fR c74.2 rfl rfl ?_
   simp only[go_sem,c74]
 refine bR ?_
 simp only[go_sem,kK,D_t hn.1,D_t hn.2,bQl,(bZ _).ret,kF]
 by_cases hc:mW c=true
 case neg=>
  rw[if_neg (fun h=>hc h.2.2)]
  refine cO 1 rfl ?_
  have hx:=aP8 c (by simpa using hc)
  rw[hcE]at hx;simp only[go_sem,bQs,bQq,hx.ret]
  refine⟨rfl,cS (x:= .i 0) rfl ?_⟩
  refine fR c74.2 rfl rfl ?_
  simp only[go_sem,c74]
 rw[if_pos ⟨hok,hn,hc⟩];have hx:=aP7 c hc;rw[hcE]at hx;obtain⟨a,rfl⟩:=bRn hn.1;rw[bRh];have hal:a<=l.picks.length:=by omega
 have hpk:=hl.pk;have hw:=aBg p l a;obtain⟨w1,w2,w3,w4,_,_⟩:=aTb c
 refine bR ?_
 simp only[go_sem,hx.ret,w2,w3,w4,aRi w1,kF];simp only[go_sem,hw.ret];have hT:=fun R (s:Nat) (h0:a<=s) (h1:s<=l.picks.length+1) (h2: ∀u,a<=u->u<s->(atX p l u).2=0/\ lF (atX p l u).1 c=false)=>aN4 (R:=R) (a:=a) (k:=⟨1,0,0⟩) (c4:=1) (I:=fun _=>bFd c) hpf hsp hok h0 hal h1 aZf
  (fun t q1 q2=>⟨(h2 t q1 q2).1,fun en cnt hI _=>(aN8 (t:=t) hc (aBf hok (by omega) (h2 t q1 q2).1) hI).mono fun v en' cnt' ⟨r1,r2,_,r4,r5⟩=>by
   have hv:v= .bool true:=by rw[r1,(h2 t q1 q2).2];rfl
   exact⟨hv,r2 hv,r4,r5⟩⟩)
 have hfx:bCn p l a c=mJ p l c a (l.picks.length+1-a):=rfl;rw[hfx];rcases aN7 (p:=p) (l:=l) (c:=c) (l.picks.length+1-a) a with⟨s,q1,q2,q3,⟨q4,q5,q6⟩|⟨q4,q5⟩⟩|⟨q3,q5⟩
 ·rw[q6]
  refine uJ (by simp only[go_sem];rfl) ?_
  rintro fr0 k hf hk
  obtain rfl:k=⟨1,0,0⟩:=hk
  refine fR aH4.2 rfl rfl ?_
  refine hT _ s q1 (by omega) q3 (fun en cnt hI _=> .inr (.inl ⟨by omega,q4,(aN8 hc (aBf hok (by omega) q4) hI).mono fun v en' cnt' ⟨r1,_,r3,_,_⟩=>?_⟩)) (by refine⟨⟨fr0,by simp only[go_sem],by rw[hf];simp only[go_sem],by rw[hf];simp only[go_sem],by rw[hf];simp only[go_sem],by rw[hf];simp only[go_sem]⟩,?_,?_,?_⟩<;>simp only[go_sem]) (by decide)
  have hv:v= .bool false:=by rw[r1,q5];rfl
  obtain⟨⟨fr1,i1,i8,i9,i14⟩,i2,i3⟩:=r3 hv
  refine⟨hv,fun fr=>⟨rfl,?_⟩⟩
  simp only[go_sem,aH4,i1]
  refine⟨rfl,nP rfl ?_⟩
  simp only[go_sem,i2,i3]
 ·rw[q5]
  refine aGb (by simp only[go_sem];rfl) ?_
  rintro fr0 k hf hk
  obtain rfl:k=⟨1,0,0⟩:=hk
  refine jL aH4.2 rfl rfl ?_
  refine hT _ s q1 (by omega) q3 (fun en cnt hI _=> .inr (.inr ⟨by omega,q4,fun fr=>?_⟩)) (by refine⟨⟨fr0,by simp only[go_sem],by rw[hf];simp only[go_sem],by rw[hf];simp only[go_sem],by rw[hf];simp only[go_sem],by rw[hf];simp only[go_sem]⟩,?_,?_,?_⟩<;>simp only[go_sem]) (by decide)
  obtain⟨⟨fr1,i1,_⟩,i2,i3,_⟩:=hI;simp only[go_sem]
  refine⟨rfl,cS (x:= .i 0) rfl ?_⟩
  refine fR c74.2 rfl rfl ?_
  simp only[go_sem,c74,i2,i3]
 ·rw[q5]
  refine uJ (by simp only[go_sem];rfl) ?_
  rintro fr0 k hf hk
  obtain rfl:k=⟨1,0,0⟩:=hk
  refine fR aH4.2 rfl rfl ?_
  refine hT _ (l.picks.length+1) (by omega) (bQk _) (fun u r1 r2=>q3 u r1 (by omega)) (fun en cnt hI _=> .inl ⟨rfl,fun fr=>?_⟩) (by refine⟨⟨fr0,by simp only[go_sem],by rw[hf];simp only[go_sem],by rw[hf];simp only[go_sem],by rw[hf];simp only[go_sem],by rw[hf];simp only[go_sem]⟩,?_,?_,?_⟩<;>simp only[go_sem]) (by decide)
  obtain⟨⟨fr1,i1,i8,i9,_,i14⟩,i2,i3,_⟩:=hI
  refine⟨rfl,?_⟩
  simp only[go_sem,aH4,i1,i2,i3]
  refine⟨rfl,nP rfl ?_⟩
  simp only[go_sem]
def bCx (act:Int):Prop:=act=17 \/act=18 \/act=22 \/act=23 \/act=20
instance {act :Int}:Decidable (bCx act):=by unfold bCx;infer_instance
variable {k:Int}{v:aD}
theorem bCy (h:bY w v k=true):v.kind=5:=by simp only[bY,bQj,bT8]at h;exact h.1
theorem aLv {pick:Int}(h:(cQ p w pick).2.2=0):(aT p w 0).2.2=true/\ inR (lD p (aT p w 0).1 pick) 0 (((aT p w 0).1.tasks.length:Int)-1)=true/\
  (cQ p w pick).2.1=(bB p (aT p w 0).1 (lD p (aT p w 0).1 pick)).e/\ ¬(bB p (aT p w 0).1 (lD p (aT p w 0).1 pick)).what=2:=by
 have h0:(eL p w pick).2.2.2=0:=by
  unfold cQ at h;simp only at h
  split at h
  ·cases h
  split at h
  ·assumption
  ·exact h
 have h1:(cQ p w pick).2.1=(eL p w pick).2.1:=by
  unfold cQ;simp only;rw[if_neg (by rw[h0];decide),if_pos h0]
 rw[h1];unfold eL at h0⊢
 simp only at h0⊢
 split at h0
 ·cases h0
 rename_i hs;rw[if_neg hs]
 split at h0
 ·cases h0
 rename_i hr;rw[if_neg hr]
 split at h0
 ·cases h0
 rename_i hq;rw[if_neg hq];have hlen:0<(dL p (aT p w 0).1).length:=bTm.2 hr;have hm:lD p (aT p w 0).1 pick∈dL p (aT p w 0).1:=by
  unfold lD;have:(pick%((dL p (aT p w 0).1).length:Int)).toNat<(dL p (aT p w 0).1).length:=by
   have:=Int.emod_nonneg pick (b:=((dL p (aT p w 0).1).length:Int)) (by omega)
   have:=Int.emod_lt_of_pos pick (b:=((dL p (aT p w 0).1).length:Int)) (by omega)
   omega
  rw[bQn,bRq this];exact bQr _
 refine⟨by simpa using hs,?_,rfl,?_⟩
 ·simp only[dL,fY,bRe,bR6,bRi]at hm;obtain⟨i,⟨hi,_⟩,he⟩:=hm;rw[<-he];simp[inR];omega
 ·simp only[dL,fY,bRe,bR6,bRi]at hm;obtain⟨i,⟨_,hi⟩,he⟩:=hm;rw[<-he]
  simpa using hi
variable {a:Int}
theorem aBh (ha:inR a 0 ((w.tasks.length:Int)-1)=true):aZ w a∈w.tasks:=by
 simp only[inR,bT8]at ha;unfold aZ;rw[bQn,bRq (by omega)]
 exact bQr _
def bO8 (p:aF)(w:aA)(e:gS):Int:=
 if bCx e.act then bIc (aT p w 0).1 e.task else if e.act=16 \/e.act=21 \/e.act=19 then((aT p w 0).1.objs.length:Int)else-1
theorem aQc {o:aN}(hv:v∈oB o)(h5:v.kind=5):v.n∈aC9 o:=by
 have hr:aHk v=true:=D_t h5;unfold oB at hv;unfold aC9;rcases bRb.1 hv with hv|hv
 ·exact bSu _ (aA5 hv hr)
 ·obtain⟨f,hf,hv⟩:=bRx.1 hv
  refine bSe _ (bRx.2 ⟨f,hf,?_⟩)
  unfold xI;rcases bRb.1 hv with hv|hv
  ·exact bSu _ (aA5 hv hr)
  ·exact bSe _ (aA5 hv hr)
def aTd (p:aF)(l:cG)(object:Int)(t:Nat):Prop:=((eN p l t).2.1.act=16 \/(eN p l t).2.1.act=18)/\ bO8 p (atX p l t).1 (eN p l t).2.1=object
instance {p :aF}{l:cG}{object:Int}{t:Nat}:Decidable (aTd p l object t):=by unfold aTd;infer_instance
theorem aDp (h:bM p w=true){a:Nat}(ha:a<w.tasks.length):bM p (bB p w a).w=true/\ ((bB p w a).what=0->(bB p w a).e=fV/\ (bB p w a).w.tasks=w.tasks)/\
  ((bB p w a).what=1->(bB p w a).e.task=(a:Int)/\ (¬(bB p w a).e.act=0 \/ ¬(bB p w a).e.n=0))/\ ((bB p w a).what=0 \/(bB p w a).what=1 \/(bB p w a).what=2):=by
 simp only[bM,bQj]at h⊢;have hi:inR (a:Int) 0 ((w.tasks.length:Int)-1)=true:=by simp[inR];omega
 have hti:=pN _ _ (by have:=(cD.1 h.2).2.2.2.2.1;simp only[gJ,bQj]at this;exact this.2) (aZ w a) (aBh hi)
 have h0:0<=aZ w a:=by have:=hti.1;simp only[inR,bT8]at this;exact this.1
 obtain⟨c1,c2,c3,_⟩:=tM (p:=p) h0 hi;exact⟨⟨h.1,(lC (tI h.1) (aFk h.2) hi).ok⟩,fun hw=>⟨(c1 hw).1,(c1 hw).2.1⟩,c2,c3⟩
structure aN9 (w w':aA):Prop where
 le:w.objs.length<=w'.objs.length
 same: ∀i:Nat,i<w.objs.length->w'.obj i=w.obj i \/((w.obj i).form=6/\ (w'.obj i).form=6)
def InV (w:aA)(v:aD):Prop:=v.kind=5->inR v.n 0 ((w.objs.length:Int)-1)=true
variable {w':aA}
section
variable (h:aN9 w w')(hin:vZ w)
include h
theorem aZg (hv:InV w v)(h5:v.kind=5):w'.obj v.n=w.obj v.n \/((w.obj v.n).form=6/\ (w'.obj v.n).form=6):=by
 have:=hv h5;simp only[inR,bT8]at this;obtain⟨i,hi⟩:=bRn this.1;rw[hi];exact h.same i (by omega)
theorem aLw (hv:InV w v)(hk: ¬k=6):bY w' v k=bY w v k/\ (bY w v k=true->w'.obj v.n=w.obj v.n):=by
 unfold bY
 by_cases h5:v.kind=5
 ·rcases aZg h hv h5 with e|⟨e1,e2⟩
  ·rw[e];exact⟨rfl,fun _=>rfl⟩
  ·have n1: ¬(w.obj v.n).form=k:=by rw[e1];exact fun h=>hk h.symm
   have n2: ¬(w'.obj v.n).form=k:=by rw[e2];exact fun h=>hk h.symm
   simp[n1,n2]
 ·simp[h5]
theorem aTe {f:aD}(hf:InV w f):eF p w' f v=eF p w f v:=by
 unfold eF;obtain⟨e1,e2⟩:=aLw h hf (k:=2) (by decide)
 rw[e1]
 by_cases hc:bY w f 2=true
 ·rw[e2 hc]
 ·rw[if_neg hc,if_neg hc]
end
theorem bFe (hin:vZ w)(hv:InV w v)(ho:bY w v k=true): ∀u∈(w.obj v.n).vals,InV w u:=by
 intro u hu h5;have h5':=bCy ho;have:=hv h5';simp only[inR,bT8]at this;obtain⟨i,hi⟩:=bRn this.1;have hil:i<w.objs.length:=by omega
 rw[hi,rF hil]at hu;exact hin _ (bQr hil) _ (aQc (bSu _ hu) h5)
mutual
theorem aHy {w w':aA}(h:aN9 w w')(hin:vZ w): ∀(q:Pat) {v:aD},InV w v->fJ w' q v=fJ w q v
 | .mk f n t ps,v,hv=>by
  unfold fJ;split
  ·rfl
  split
  ·rfl
  split
  ·rfl
  split
  ·rfl
  split
  ·rfl
  obtain⟨e1,e2⟩:=aLw h hv (k:=1) (by decide)
  by_cases hc:bY w v 1=true
  ·rw[e1,e2 hc];split
   ·exact aFp h hin ps (bFe hin hv hc)
   ·rfl
  ·rw[if_neg (fun x=>hc (by rw[<-e1];exact x.1)),if_neg (fun x=>hc x.1)]
theorem aFp {w w':aA}(h:aN9 w w')(hin:vZ w): ∀(ps:List Pat) {vs:List aD},(∀v∈vs,InV w v)->eM w' ps vs=eM w ps vs
 |[],vs,_=>by unfold eM;rfl
 |q::ps,[],_=>by unfold eM;rfl
 |q::ps,v::vs,hv=>by
  unfold eM;rw[aHy h hin q (hv v (by simp)),aFp h hin ps (fun u hu=>hv u (by simp[hu]))]
end
def plR :OpR->Bool
 | .go none _ _ _=>true
 |_=>false
theorem aIr {R:OpR}:(R.did w a).what=0↔plR R=true:=by
 cases R with
 |go ev w' l b=>cases ev<;>simp[OpR.did,plR]
 |wait=>simp[OpR.did,plR,lX]
 |fail s=>simp[OpR.did,plR,bE]
variable {env:List aD}{left:List aB}{node:Int}
theorem aTf {env':List aD}(w':aA)(he:env'.length=env.length):plR (iT w' left node env')=plR (iT w left node env):=by
 unfold iT pL;simp only[he,bQ2,bQu,bQz];split
 ·rfl
 ·split<;>rfl
theorem aFq (w':aA):plR (iT w' left node env)=plR (iT w left node env):=aTf w' rfl
theorem aLx {w w':aA}(h:aN9 w w')(hin:vZ w){left:List aB}{kids:List Int}{env:List aD}{u:aD}(hu:InV w u): ∀(l:List Pat) (i:Nat),plR (dS w' left kids env u i l)=plR (dS w left kids env u i l)
 |[],i=>rfl
 |q::qs,i=>by
  simp only[dS];rw[aHy h hin q hu];cases fJ w q u with
  |some l=>exact aFq w'
  |none=>exact aLx h hin hu qs (i+1)
theorem aWz (h:w.objs.length<=w'.objs.length){o o':aN}{k k':aA->aD->OpR}(hk:plR (k' (dU w' o') (dK w'.objs.length))=true->plR (k (dU w o) (dK w.objs.length))=true):plR (iB w' o' k')=true->plR (iB w o k)=true:=by
 unfold iB
 by_cases h1:120<=w'.objs.length
 ·rw[if_pos h1];exact fun h=>by cases h
 ·rw[if_neg h1,if_neg (by omega)];exact hk
variable {x':OpR}
theorem bCz {c:Prop}[Decidable c]{x y y':OpR}(hx:c->plR x'=true->plR x=true)(hy: ¬c->plR y'=true->plR y=true):plR (if c then x' else y')=true->plR (if c then x else y)=true:=by
 by_cases h:c
 ·rw[if_pos h,if_pos h];exact hx h
 ·rw[if_neg h,if_neg h];exact hy h
theorem bC0 {x:OpR}(h:plR x'=false):plR x'=true->plR x=true:=fun h'=>by rw[h]at h';cases h'
theorem aW0 {o:aN}{k:aA->aD->OpR}(h:plR (k (dU w o) (dK w.objs.length))=false):plR (iB w o k)=false:=by
 unfold iB;split
 ·rfl
 ·exact h
theorem aZh (h:aN9 w w')(hin:vZ w){f:aB}{n:aK}(hv: ∀v∈f.vals,InV w v):plR (opR p w' a left f n)=true->plR (opR p w a left f n)=true:=by
 have hv0:InV w (aE f.vals 0):=by
  unfold aE;rw[bQn];cases hg:f.vals[0]? with
  |none=>intro h;cases h
  |some x=>exact hv x (List.mem_of_getElem? hg)
 unfold opR
 repeat' (with_reducible refine bCz (fun _=>?_) (fun _=>?_))
 all_goals first
  |exact fun _=>rfl
  |exact fun hp=>(aFq w').symm.trans hp
  |exact fun hp=>(aFq w').trans hp
  |exact aWz h.le (fun _=>rfl)
  |exact fun hp=>(aLx h hin hv0 _ _).symm.trans hp
  |exact bC0 rfl
  |exact bC0 (aW0 rfl)
  |(refine bC0 ?_;(repeat' split)<;>(first|rfl|exact aW0 rfl))
  |skip
 ·rw[aTe h hv0];obtain⟨e1,e2⟩:=aLw h hv0 (k:=5) (by decide)
  cases eF p w (aE f.vals 0) (aE f.vals 1)with
  |some b=>exact fun hp=>(aFq w').symm.trans hp
  |none=>
   simp only
   by_cases hc:bY w (aE f.vals 0) 5=true
   ·rw[e1,if_pos hc,if_pos hc,e2 hc];exact bCz (fun _ h=>h) (fun _ _=>rfl)
   ·rw[e1,if_neg hc,if_neg hc];exact id
 ·cases fP p left left.length with
  |zero=>exact id
  |succ k=>exact aWz h.le (fun hp=>(aTf _ (by simp)).symm.trans hp)
theorem aZi (ha:inR a 0 ((w.tasks.length:Int)-1)=true)(h:(bB p w a).what=0): ∃w' l b,(bB p w a).w=cW w' (aZ w' a) ⟨6,0,b,l⟩/\ w'.tasks=w.tasks/\ w.objs<+:w'.objs:=by
 have key: ∀{R:OpR},Go.Abs.Calm w a R->(R.did w a).what=0-> ∃w' l b,(R.did w a).w=cW w' (aZ w' a) ⟨6,0,b,l⟩/\ w'.tasks=w.tasks/\ w.objs<+:w'.objs:=by
  intro R hR hw;cases R with
  |go ev w' l b=>
   cases ev with
   |none=>exact⟨w',l,b,rfl,hR.1,hR.2.1⟩
   |some e=>exact absurd (show(1:Int)=0 from hw) (by decide)
  |wait=>exact absurd (show(2:Int)=0 from hw) (by decide)
  |fail s=>exact absurd (show(1:Int)=0 from hw) (by decide)
 revert h
 unfold bB
 simp only
 split
 ·exact fun h=>absurd (show(2:Int)=0 from h) (by decide)
 split
 ·split
  ·exact fun h=>absurd (show(1:Int)=0 from h) (by decide)
  ·exact fun _=>⟨w,_,_,rfl,rfl,bR7 _⟩
 split
 ·rw[qM];exact key xV
 ·unfold qL;rw[xO ha];exact key aLm
theorem aVn (hg:bM p w=true){a:Nat}(ha:a<w.tasks.length)(hb:b<w.tasks.length)(hab: ¬a=b)(h0: ¬(bB p w a).what=0)(hbp:(bB p w b).what=0): ¬(bB p (bB p w b).w a).what=0:=by
 have hgw:dG p w=true:=by simp only[bM,bQj]at hg;exact hg.2
 have hia:inR (a:Int) 0 ((w.tasks.length:Int)-1)=true:=by simp only[inR,bT8];omega
 have hib:inR (b:Int) 0 ((w.tasks.length:Int)-1)=true:=by simp only[inR,bT8];omega
 have htk:=(cD.1 hgw).2.2.2.2.1;simp only[gJ,bQj]at htk;obtain⟨hd1,hd2,_⟩:=nL w _ _ htk.2;have hti:=hd1 _ (aBh hia);have htj:=hd1 _ (aBh hib);simp only[inR,bT8]at hti htj;obtain⟨i,hi⟩:=bRn hti.1.1;obtain⟨j,hj⟩:=bRn htj.1.1;have hij: ¬i=j:=by
  intro e;have h1:(w.tasks.map Int.toNat)[a]?=some i:=by
   have:aZ w a=w.tasks[a]:=by simp[aZ,ha]
   rw[List.getElem?_map,bRq ha,<-this,hi];rfl
  have h2:(w.tasks.map Int.toNat)[b]?=some j:=by
   have:aZ w b=w.tasks[b]:=by simp[aZ,hb]
   rw[List.getElem?_map,bRq hb,<-this,hj];rfl
  exact hab ((List.getElem?_inj (by simpa using ha) hd2).1 (by rw[h1,h2,e]))
 obtain⟨w1,l,bk,e1,e2,e3⟩:=aZi hib hbp;have ht1:aZ w1 b=(j:Int):=by rw[aLo e2,hj]
 rw[ht1]at e1;obtain⟨w',hw'⟩: ∃w',w'=(bB p w b).w:=⟨_,rfl⟩
 rw[<-hw']at e1⊢;have hle:w.objs.length<=w'.objs.length:=by rw[e1];simp only[cW,bSb];exact e3.length_le
 have hot: ∀k:Nat,k<w.objs.length-> ¬k=j->w'.obj k=w.obj k:=fun k hk hkj=>by
  rw[e1,aP5 (by simpa using hkj)]
  exact aLn e3 hk
 have hA:aN9 w w':=⟨hle,fun k hk=>by
  rcases Decidable.em (k=j)with rfl|hkj
  ·refine .inr ⟨by have:=htj.2;rw[hj]at this;exact D_o this,?_⟩
   have hk1:k<w1.objs.length:=bRa hk e3.length_le;rw[e1];simp[aA.obj,cW,hk1]
  ·exact .inl (hot k hk hkj)⟩
 have hin:vZ w:=fun o ho x hx=>aSc hg o ho x ((aKj _ _).2 hx)
 have htk':w'.tasks=w.tasks:=by rw[e1];exact e2
 have hta:aZ w' a=aZ w a:=aLo htk';have hil:i<w.objs.length:=by omega
 have hob:w'.obj (aZ w a)=w.obj (aZ w a):=by rw[hi];exact hot i hil hij
 intro hp;apply h0
 revert hp
 unfold bB;simp only[hta,hob];split
 ·exact fun h=>absurd (show(2:Int)=0 from h) (by decide)
 split
 ·split
  ·exact id
  ·exact fun _=>rfl
 split
 ·rw[qM,qM,aIr,aIr,aFq w'];exact id
 ·unfold qL;rw[xO hia,xO (by rw[htk'];exact hia),aIr,aIr]
  refine aZh hA hin fun v hv h5=>?_
  have hfl:0<(w.obj (aZ w a)).frames.length:=by
   cases hfr:(w.obj (aZ w a)).frames with
   |nil=>rw[hfr]at hv;cases hv
   |cons=>simp
  rw[bQn,bRq (by omega)]at hv
  have hom:w.obj (aZ w a)∈w.objs:=by rw[hi,rF hil];exact bQr _
  exact hin _ hom _ (aQc (bSe _ (bRx.2 ⟨_,bQr _,bSe _ hv⟩)) h5)
def sL (p:aF)(w:aA)(n:Nat):Prop:= ∀a:Nat,a<n->a<w.tasks.length-> ¬(bB p w a).what=0
theorem aLy {p:aF}{b:Nat}: ∀(k:Nat) {w:aA},bM p w=true->b<w.tasks.length->sL p w b->(cU p b k w).2.2=true->
  bM p (cU p b k w).1=true/\ (cU p b k w).1.tasks=w.tasks/\ sL p (cU p b k w).1 (b+1)
 |0,w,hg,hb,hc,h=>by
  rw[cU]at h⊢
  by_cases h0:(bB p w b).what=0
  ·rw[if_pos h0]at h;cases h
  ·rw[if_neg h0]
   refine⟨hg,rfl,fun a h1 h2=>?_⟩
   rcases bRs a b with h|h
   ·exact hc a h h2
   ·obtain rfl:a=b:=by omega
    exact h0
 |k+1,w,hg,hb,hc,h=>by
  rw[cU]at h⊢
  by_cases h0:(bB p w b).what=0
  ·rw[if_pos h0]at h⊢;obtain⟨g1,g2,_⟩:=aDp hg hb;have ht:=(g2 h0).2;obtain⟨i1,i2,i3⟩:=aLy k g1 (by rw[ht];exact hb) (fun a h1 h2=>by
    rw[ht]at h2;exact aVn hg h2 hb (by omega) (hc a h1 h2) h0) h
   exact⟨i1,i2.trans ht,i3⟩
  ·rw[if_neg h0]
   refine⟨hg,rfl,fun a h1 h2=>?_⟩
   rcases bRs a b with h|h
   ·exact hc a h h2
   ·obtain rfl:a=b:=by omega
    exact h0
theorem aFr {p:aF}: ∀(n b:Nat) {w:aA} {s:Nat},bM p w=true->w.tasks.length<=b+n->sL p w b->(eD p n b w s).2.2=true->bM p (eD p n b w s).1=true/\ sL p (eD p n b w s).1 (eD p n b w s).1.tasks.length
 |0,b,w,s,hg,hl,hc,_=>⟨hg,fun a h1 h2=>hc a (by have:a<w.tasks.length:=h1;omega) h2⟩
 |n+1,b,w,s,hg,hl,hc,h=>by
  rw[eD]at h⊢
  by_cases hb:b<w.tasks.length
  ·rw[if_pos hb]at h⊢
   by_cases hi:(cU p b (5000-s) w).2.2=true
   ·rw[if_pos hi]at h⊢;obtain⟨i1,i2,i3⟩:=aLy _ hg hb hc hi;exact aFr n (b+1) i1 (by rw[i2];omega) i3 h
   ·rw[if_neg hi]at h;cases h
  ·rw[if_neg hb];exact⟨hg,fun a h1 h2=>hc a (by have:a<w.tasks.length:=h1;omega) h2⟩
theorem wD (hg:bM p w=true){s:Nat}(h:(aT p w s).2.2=true):bM p (aT p w s).1=true/\ sL p (aT p w s).1 (aT p w s).1.tasks.length:=by
 refine aFr 121 0 hg ?_ (fun a h1=>absurd h1 (Nat.not_lt_zero a)) h
 simp only[bM,bQj]at hg;have hw:=cD.1 hg.2;have:=xT hw.2.2.2.2.1;omega
theorem aFs {p:aF}{w:aA}(hc:sL p w w.tasks.length): ∀(n b s:Nat),eD p n b w s=(w,s,true)
 |0,_,_=>rfl
 |n+1,b,s=>by
  rw[eD]
  by_cases hb:b<w.tasks.length
  ·have hi:cU p b (5000-s) w=(w,0,true):=by
    cases h:5000-s with
    |zero=>rw[cU,if_neg (hc b hb hb)]
    |succ k=>rw[cU,if_neg (hc b hb hb)]
   rw[if_pos hb,hi,if_pos rfl];exact aFs hc n (b+1) _
  ·rw[if_neg hb]
theorem aZj (hg:bM p w=true){pick:Int}(h:(cQ p w pick).2.2=0):(cQ p w pick).2.1.task=lD p (aT p w 0).1 pick/\ (bB p (aT p w 0).1 (lD p (aT p w 0).1 pick)).what=1/\ bM p (bB p (aT p w 0).1 (lD p (aT p w 0).1 pick)).w=true:=by
 obtain⟨e1,e2,e3,e4⟩:=aLv h;obtain⟨c1,c2⟩:=wD hg e1;rw[e3];generalize hP:lD p (aT p w 0).1 pick=P at*;simp only[inR,bT8]at e2;obtain⟨a,rfl⟩:=bRn e2.1;have ha:a<(aT p w 0).1.tasks.length:=by omega
 obtain⟨g1,_,g3,g4⟩:=aDp c1 ha;have h1:=(g4.resolve_left (c2 a ha ha)).resolve_right e4;exact⟨(g3 h1).1,h1,g1⟩
variable {xs:List Val}
theorem aTg :(Val.cl xs).cells=[Val.cl xs]:=(rfl)
theorem bC1 :(Val.cl xs).one=true:=(rfl)
def aQd (p:aF)(w:aA)(every:Int):cG×Int:=if bM p w=true/\ 1<=every/\ every<=20 then aGq p w every else(zT,2)
theorem aMo (hpf:p.few)(hwf:w.few)(hsp:aS p=true)(every:Int):PC L 41 [.agg p.cs,.agg w.cs,.i every] (.tup [cG.enc (aQd p w every).1,.i (aQd p w every).2]):=by
 unfold aQd;have hC:=aCm p w hpf hwf hsp
 refine pcA func41 ?_
 simp only[go_sem,kK,kF]
 refine aDl ?_
 simp only[go_sem,kK]
 by_cases hg:bM p w=true/\ 1<=every/\ every<=20
 case neg=>
  rw[if_neg hg]
  refine cO 12 rfl ?_
  have hc:bM p w=false \/(bM p w=true/\ ¬1<=every) \/(bM p w=true/\ 1<=every/\ ¬every<=20):=by
   cases h:bM p w
   ·exact .inl rfl
   ·rw[h]at hg;refine .inr ?_;simp only[true_and]at hg⊢;omega
  rcases hc with h1|⟨h1,h2⟩|⟨h1,h2,h3⟩
  all_goals rw[h1]at hC
  case' inr.inr=>simp only[go_sem,kK,bQs,bQq,hC.ret,D_t h2,D_f h3,(dM _).ret,kF]
  case' inr.inl=>simp only[go_sem,kK,bQs,bQq,hC.ret,D_f h2,(dM _).ret,kF]
  case' inl=>simp only[go_sem,kK,bQs,bQq,hC.ret,(dM _).ret,kF]
  all_goals
   refine⟨rfl,cS (x:= .i 0) rfl ?_⟩
   refine gR func98 ?_
   simp only[go_sem];rfl
 rw[if_pos hg];obtain⟨h1,h2,h3⟩:=hg;rw[h1]at hC
 refine bR ?_
 simp only[go_sem,kK,hC.ret,D_t h2,D_t h3,(bZ _).ret,kF];have hS:=aLp p w hpf hwf hsp;unfold aGq
 by_cases hs:(aT p w 0).2.2=true
 ·have hM:wB p w=((aT p w 0).1,(aT p w 0).2.1,0):=by unfold wB;rw[if_pos h1,if_pos hs]
  rw[hM]at hS;rw[if_pos hs];simp only[go_sem,hS.ret]
  refine bR ?_
  simp only[go_sem,(bZ _).ret,aTg,bC1,kF]
  refine⟨rfl,nP rfl ?_⟩
  simp only[go_sem];rfl
 ·have hM:(wB p w).2.2=8:=by unfold wB;rw[if_pos h1,if_neg hs]
  rw[if_neg hs];simp only[go_sem,hS.ret,hM]
  refine cO 3 rfl ?_
  simp only[go_sem,bQs,bQq,(dM _).ret]
  refine⟨rfl,cS (x:= .i 8) rfl ?_⟩
  refine gR func98 ?_
  simp only[go_sem];rfl
theorem qT.mks (h:qT l):l.marks.length<=201:=by
 have h1:=h.mn;have:=h.pk;have h2:=Nat.div_le_self l.picks.length (aQ l);generalize l.picks.length/aQ l=q at h1 h2;omega
def bC2 (p:aF)(l:cG)(pick:Int):cG×gS×Int:=if mH p l=true then bCo p l pick else(zT,fV,2)
noncomputable def c88 :{c//L 88=some c}:=cA func88
theorem aTh (hpf:p.few)(hlf:l.few)(hsp:aS p=true)(pick:Int):PC L 34 [.agg p.cs,.agg l.cs,.i pick] (.tup [cG.enc (bC2 p l pick).1,evV (bC2 p l pick).2.1,.i (bC2 p l pick).2.2]):=by
 unfold bC2
 refine pcA func34 ?_
 simp only[go_sem,kK,kF]
 refine aDl ?_
 simp only[go_sem,kK]
 by_cases hok:mH p l=true
 case neg=>
  rw[if_neg hok]
  refine cO 2 rfl ?_
  simp only[go_sem,bQs,bQq,(xY p l hpf hlf hsp (by rw[rM];simpa using hok)).ret]
  refine⟨rfl,cS (x:= .i 0) rfl ?_⟩
  refine fR c88.2 rfl rfl ?_
  simp only[go_sem,c88];rfl
 have hl:=qT.of hok;have hP:=xX p l hpf hlf hsp (by rw[rM];exact hok)
 rw[if_pos hok]
 refine bR ?_
 simp only[go_sem,hP.ret,bQl,kF];unfold bCo
 by_cases hn:200<=l.picks.length
 case pos=>
  rw[if_pos hn]
  refine cO 2 rfl ?_
  simp only[go_sem,bQs,bQq,show decide ((l.picks.length:Int)<200)=false from D_f (by omega),(dM _).ret]
  refine⟨rfl,cS (x:= .i 0) rfl ?_⟩
  refine fR c88.2 rfl rfl ?_
  simp only[go_sem,c88];rfl
 rw[if_neg hn]
 refine bR ?_
 simp only[go_sem,show decide ((l.picks.length:Int)<200)=true from D_t (by omega),(bZ _).ret,kF]
 obtain⟨o1,o2⟩:=aWy hpf hsp hok (bQk l.picks.length)
 by_cases h0:(atX p l l.picks.length).2=0
 case neg=>
  rw[if_neg h0]
  refine cO 3 rfl ?_
  simp only[go_sem,bQs,bQq,(o2 h0).ret]
  refine⟨rfl,cS (x:= .i 0) rfl ?_⟩
  refine fR c88.2 rfl rfl ?_
  simp only[go_sem,c88];rfl
 rw[if_pos h0];have hg:=aBf hok (bQk _) h0
 by_cases h2:(cQ p (atX p l l.picks.length).1 pick).2.2=0
 case neg=>
  have hX:=vB p l (atX p l l.picks.length).1 pick hpf (sE hsp hg) hsp hg h2;rw[if_neg h2]
  refine cO 5 rfl ?_
  simp only[go_sem,bQs,bQq,(o1 h0).ret,hX.ret,kF]
  refine⟨rfl,cS (x:= .i 0) rfl ?_⟩
  refine fR c88.2 rfl rfl ?_
  simp only[go_sem,c88];rfl
 rw[if_pos h2];have hT:=vA p l (atX p l l.picks.length).1 pick hpf (sE hsp hg) hsp hg h2;generalize hr:cQ p (atX p l l.picks.length).1 pick=r at*
 refine bR ?_
 simp only[go_sem,(o1 h0).ret,hT.ret,evV,kF];have hmf: ∀w∈l.marks,bU w=true:=fun w hw=>rZ hsp ((aB8 hok).2.2.2.2 w hw)
 refine WIn.mono (aVf hlf (by omega) (by have:=hl.mks;omega) hmf (g3:=1) rfl rfl rfl) ?_
 rintro x en' cnt' ⟨vP,v,rfl,mP,hv,hO⟩
 have k6:en' ⟨0,6,0⟩=some (.box [.i 0,.cl [],.cl []] false):=by rw[hO 0 6 0 (.inr (.inl (by decide)))];simp only[go_sem]
 have k7:en' ⟨0,7,0⟩=some (.box [.i r.2.1.task,.i r.2.1.act,.i r.2.1.n,.i r.2.1.v.kind,.i r.2.1.v.n] false):=by rw[hO 0 7 0 (.inr (.inl (by decide)))];simp only[go_sem]
 have k8:en' ⟨0,8,0⟩=some (.box [.i 0] false):=by rw[hO 0 8 0 (.inr (.inl (by decide)))];simp only[go_sem]
 have k11:en' ⟨0,11,0⟩=some (.box [.fz (r.1.objs.map aN.enc),.is r.1.tasks,.fz (r.1.outs.map bL.enc),.is r.1.ins,.i r.1.used] false):=by rw[hO 0 11 0 (.inr (.inl (by decide)))];simp only[go_sem]
 clear hO;simp only[go_sem,k6]
 refine jZ (D:=[10]) (xs:=l.picks.map (.int .i64)) (ys:=[.i pick]) (rs:=[]) ?_ ?_ rfl ?_ ?_
 ·simp only[go_sem];exact mP.keep fun t g ht=>by simp at ht;subst ht;simp only[go_sem]
 ·simp only[go_sem]
 ·simp;omega
 intro vQ en2 cnt2 mQ hen hcnt;have j6:en2 ⟨0,6,0⟩=some (.box [.i l.every,vP,v] false):=by rw[hen 0 6 0 (.inr ⟨by decide,by simp⟩)];simp only[go_sem]
 have j7:=(hen 0 7 0 (.inr ⟨by decide,by simp⟩)).trans (by simp only[go_sem,k7]:_=some (.box [.i r.2.1.task,.i r.2.1.act,.i r.2.1.n,.i r.2.1.v.kind,.i r.2.1.v.n] false))
 have j8:=(hen 0 8 0 (.inr ⟨by decide,by simp⟩)).trans (by simp only[go_sem,k8]:_=some (.box [.i 0] false))
 have j11:=(hen 0 11 0 (.inr ⟨by decide,by simp⟩)).trans (by simp only[go_sem,k11]:_=some (.box [.fz (r.1.objs.map aN.enc),.is r.1.tasks,.fz (r.1.outs.map bL.enc),.is r.1.ins,.i r.1.used] false))
 have hv2:cR en2 v 5 (l.marks.map aA.enc) [24]:=hv.keep fun t g ht=>by simp at ht;subst ht;rw[hen 0 24 g (.inr ⟨by decide,by simp⟩)];simp only[go_sem]
 have hmk:=aGs (p:=p) (l:=l) (l.picks.length+1) hl.e1 (by omega) hl.ev
 have hw1:IntKind.i64.wrap ((l.picks.length:Int)+1)=((l.picks.length+1:Nat):Int):=by rw[aV (by omega)];rfl
 simp only[go_sem,kK,j6,mQ.shape.1,mQ.shape.2,hw1,hmk.ret,kF]
 by_cases hd:(l.picks.length+1)%aQ l=0
 case' neg=>
  obtain⟨M,hM⟩: ∃M,M=l.marks:=⟨_,rfl⟩
  rw[if_neg hd,<-hM];rw[<-hM]at hv2;obtain⟨vM,hvM⟩: ∃vM,vM=v:=⟨_,rfl⟩
  obtain⟨D,hD,hDm⟩: ∃D,D=[24]/\ ∀t∈D,t=24 \/t=47:=⟨_,rfl,by simp⟩
  simp only[go_sem,D_f hd];obtain⟨en3,he3⟩: ∃e,e=en2.set ⟨0,6,0⟩ (some (.box [.i l.every,vQ,v] false)):=⟨_,rfl⟩
  have i6:en3 ⟨0,6,0⟩=some (.box [.i l.every,vQ,vM] false):=by rw[he3,hvM];simp only[go_sem]
  have i7:en3 ⟨0,7,0⟩=some (.box [.i r.2.1.task,.i r.2.1.act,.i r.2.1.n,.i r.2.1.v.kind,.i r.2.1.v.n] false):=by rw[he3];simp only[go_sem,j7]
  have i8:en3 ⟨0,8,0⟩=some (.box [.i 0] false):=by rw[he3];simp only[go_sem,j8]
  have iQ:cR en3 vQ 1 ((l.picks++[pick]).map (.int .i64)) [37,10]:=by
   rw[bRl,he3];exact mQ.keep fun t g ht=>by simp at ht;rcases ht with rfl|rfl<;>simp only[go_sem]
  have iM:cR en3 vM 5 (M.map aA.enc) D:=by
   rw[hD,hvM,he3];exact hv2.keep fun t g ht=>by simp at ht;subst ht;simp only[go_sem]
  rw[<-he3]
 case' pos=>
  obtain⟨M,hM⟩: ∃M,M=l.marks++[r.1]:=⟨_,rfl⟩
  rw[if_pos hd,<-hM];simp only[go_sem,D_t hd,j11]
  refine jZ (D:=[24]) (xs:=l.marks.map aA.enc) (ys:=[aA.enc r.1]) (rs:=[]) ?_ ?_ rfl ?_ ?_
  ·simp only[go_sem];exact hv2.keep fun t g ht=>by simp at ht;subst ht;simp only[go_sem]
  ·simp only[go_sem,aA.enc]
  ·have:=hl.mks;simp;omega
  intro vM en4 cnt4 mM hen4 hcnt4;have m6:en4 ⟨0,6,0⟩=some (.box [.i l.every,vQ,v] false):=by rw[hen4 0 6 0 (.inr ⟨by decide,by simp⟩)];simp only[go_sem]
  simp only[go_sem,m6,mM.shape.1,mM.shape.2];obtain⟨D,hD,hDm⟩: ∃D,D=[47,24]/\ ∀t∈D,t=24 \/t=47:=⟨_,rfl,by simp⟩
  obtain⟨en3,he3⟩: ∃e,e=en4.set ⟨0,6,0⟩ (some (.box [.i l.every,vQ,vM] false)):=⟨_,rfl⟩
  have i6:en3 ⟨0,6,0⟩=some (.box [.i l.every,vQ,vM] false):=by rw[he3];simp only[go_sem]
  have i7:en3 ⟨0,7,0⟩=some (.box [.i r.2.1.task,.i r.2.1.act,.i r.2.1.n,.i r.2.1.v.kind,.i r.2.1.v.n] false):=by rw[he3,jE (by simp),hen4 0 7 0 (.inr ⟨by decide,by simp⟩)];simp only[go_sem,j7]
  have i8:en3 ⟨0,8,0⟩=some (.box [.i 0] false):=by rw[he3,jE (by simp),hen4 0 8 0 (.inr ⟨by decide,by simp⟩)];simp only[go_sem,j8]
  have iQ:cR en3 vQ 1 ((l.picks++[pick]).map (.int .i64)) [37,10]:=by
   rw[bRl,he3];exact mQ.keep fun t g ht=>by simp at ht;rcases ht with rfl|rfl<;>(rw[jE (by simp),hen4 0 _ g (.inr ⟨by decide,by simp⟩)];simp only[go_sem])
  have iM:cR en3 vM 5 (M.map aA.enc) D:=by
   rw[hD,hM,bRl,he3];exact mM.keep fun t g ht=>by simp at ht;rcases ht with rfl|rfl<;>simp only[go_sem]
  rw[<-he3]
 all_goals
  obtain⟨u1,u2⟩:=iQ.shape;obtain⟨u3,u4⟩:=iM.shape
  refine aG ?_
  simp only[go_sem,i6,i7,i8,kA,kF]
  refine⟨rfl,nP rfl ?_⟩
  simp only[go_sem];obtain⟨E,hE⟩: ∃E,E=((en3.set ⟨0,6,0⟩ (some (.box [.i l.every,vQ,vM] false))).set ⟨0,7,0⟩ (some (.box [.i r.2.1.task,.i r.2.1.act,.i r.2.1.n,.i r.2.1.v.kind,.i r.2.1.v.n] false))).set ⟨0,8,0⟩ (some (.box [.i 0] false)):=⟨_,rfl⟩
  rw[<-hE];obtain⟨a1,b1,s1,s1',_⟩:=(iQ.keep (en':=E) fun t g ht=>by rw[hE];simp at ht;rcases ht with rfl|rfl<;>simp only[go_sem]).snap 5
  obtain⟨a2,b2,s2,s2',_⟩:=(iM.keep (en':=E) fun t g ht=>by rw[hE];rcases hDm t ht with rfl|rfl<;>simp only[go_sem]).snap 5
  simp only[go_sem,s1,s2,s1',s2'];rfl
theorem aGu (n lo hi:Int):PC L 87 [.i n,.i lo,.i hi] (.bool (inR n lo hi)):=by
 refine pcA func87 ?_
 simp only[go_sem,qW]
 refine bC (fun h=>?_) (fun h=>?_)<;>simp only[go_sem,h]<;>simp at h<;>simp[h,inR]
 omega
theorem aTi (c:fG):PC L 26 [c.enc] (.bool (mW c)):=by
 have hv:decide (c.v=iO)=(decide (c.v.kind=0)&&decide (c.v.n=0)):=aD.eq_iff.symm
 refine pcA func26 ?_
 unfold mW
 by_cases h1:1<=c.kind
 ·by_cases h4:c.kind<=4
  ·by_cases h:c.kind=1
   ·simp only[go_sem,kK,fG.enc,D_t h1,D_t h4,D_t h,kA,kF,bQ9]
   ·simp only[go_sem,kK,fG.enc,D_t h1,D_t h4,D_f h,hv,kF,bQ9,bRf]
  ·simp only[go_sem,kK,fG.enc,D_t h1,D_f h4,kF,bQ9,bQ7]
 ·simp only[go_sem,kK,fG.enc,D_f h1,kF,bQ7]
theorem aVo (hpf:p.few)(hlf:l.few)(hc:p.cons.length<=1000):PC L 33 [.agg p.cs,.agg [.i l.every,.is l.picks,.fz (l.marks.map aA.enc)]] (.bool (mH p l)):=by
 have hF:=aCl p hpf hc;have hlog:mH p l=(eS p&&inR l.every 1 20&&decide (l.picks.length<=200)&&decide (l.marks.length=l.picks.length/aQ l+1)&&l.marks.all (dG p)):=rfl
 refine pcA func33 ?_
 cases hf:eS p with
 |false=>rw[hf]at hF hlog;rw[hlog];simp only[go_sem,kK,hF.ret,bQ5,bQ7,kF]
 |true=>
 cases he:inR l.every 1 20 with
 |false=>rw[hf]at hF hlog;rw[he]at hlog;rw[hlog];simp only[go_sem,kK,hF.ret,(aGu _ _ _).ret,he,bQ5,bQ0,bQ7,bRp,kF]
 |true=>
 rw[hf]at hF hlog;rw[he]at hlog;rw[hlog]
 by_cases hk:l.picks.length<=200
 case neg=>simp only[go_sem,kK,hF.ret,(aGu _ _ _).ret,he,bQl,D_f hk,show decide ((200:Int)<(l.picks.length:Int))=true from D_t (by omega),bQ0,bQ7,bRp,kF]
 have hev:l.every=(aQ l:Int):=by simp only[inR,bT8]at he;unfold aQ;omega
 have h1:1<=aQ l:=by simp only[inR,bT8]at he;unfold aQ;omega
 have hdv:((l.picks.length:Int)).tdiv (aQ l:Int)=((l.picks.length/aQ l:Nat):Int):=by rw[bT7 (by omega)];rfl
 have hle:=Nat.div_le_self l.picks.length (aQ l);have hw1:IntKind.i64.wrap (((l.picks.length/aQ l:Nat):Int))=((l.picks.length/aQ l:Nat):Int):=by generalize l.picks.length/aQ l=q at hle⊢;exact aV (by omega)
 have hw2:IntKind.i64.wrap (((l.picks.length/aQ l:Nat):Int)+1)=((l.picks.length/aQ l+1:Nat):Int):=by generalize l.picks.length/aQ l=q at hle⊢;rw[aV (by omega)];rfl
 have hne: ¬(aQ l:Int)=0:=by omega
 have hk':decide ((200:Int)<(l.picks.length:Int))=false:=D_f (by omega)
 rw[hev]at he;simp only[go_sem,kK,hF.ret,(aGu _ _ _).ret,hev,he,bQl,D_t hk,hk',hne,hdv,hw1,hw2,bQ0,bQ9,bRy,kF]
 by_cases hm:l.marks.length=l.picks.length/aQ l+1
 case neg=>simp only[go_sem,kK,D_f hm,bQ5,bQ7]
 simp only[go_sem,D_t hm,bQ0,bQ9]
 refine bQ l.marks.length (fun k st=> ∃fr en cnt,st=⟨fr,en,cnt⟩/\ fr 2= .ptr ⟨0,2,0⟩ 0/\ fr 3= .ptr ⟨0,3,0⟩ 0/\ fr 5= .i (k:Int)/\ en ⟨0,2,0⟩=some (.box [.fz (p.nodes.map aK.enc),.fz (p.funs.map (.int .i64)),.i p.main,.fz (p.cons.map cV.enc)] false)/\ en ⟨0,3,0⟩=some (.box [.i (aQ l:Int),.is l.picks,.fz (l.marks.map aA.enc)] false)/\ (l.marks.drop k).all (dG p)=l.marks.all (dG p)) 0 (bQt _) (by refine⟨_,_,_,rfl,?_,?_,?_,?_,?_,rfl⟩<;>simp only[go_sem]) ?_
 rintro k st hk ⟨fr,en,cnt,rfl,f2,f3,f5,e2,e3,hI⟩
 simp only[go_sem,kK,f3,f5,e3,bQl]
 refine aH (fun hq=>?_) (fun hq=>?_)
 ·have h':k<l.marks.length:=D_o hq;have hW:=aEn p l.marks[k] hpf (hlf.2.2 _ (bQr h'));have hst:=fT h' (dG p);rw[<-hI,hst];simp only[go_sem,kK,f2,f3,f5,e2,e3,sZ h',hW.ret,kF];cases hb:dG p l.marks[k]with
  |false=>simp only[go_sem,kK,bQ5,bQ7]
  |true=>
   simp only[go_sem,bQ0,bQ9,f5,h',aR h' hlf.2.1];exact⟨_,_,_,rfl,by simp only[go_sem,f2],by simp only[go_sem,f3],by simp only[go_sem],e2,e3⟩
 ·have:k=l.marks.length:=by simp at hq;omega
  subst this;rw[<-hI,bSh];simp only[go_sem]
def oW (l:cG):Bool:=!(decide (25<l.picks.length)&&decide (l.picks.length<=200))&&decide (l.picks.length<=205)&&decide (l.marks.length<=30)&&l.marks.all bU
theorem aQe (hlf:l.few):PC L 32 [.agg [.i l.every,.is l.picks,.fz (l.marks.map aA.enc)]] (.bool (oW l)):=by
 have hS:oW l=(!(decide (25<l.picks.length)&&decide (l.picks.length<=200))&&decide (l.picks.length<=205)&&decide (l.marks.length<=30)&&l.marks.all bU):=rfl;have c1:decide ((25:Int)<(l.picks.length:Int))=decide (25<l.picks.length):=by rw[bSw,bT8,bT8];omega
 have c2:decide ((l.picks.length:Int)<=200)=decide (l.picks.length<=200):=by rw[bSw,bT8,bT8];omega
 have c3:decide ((205:Int)<(l.picks.length:Int))=!decide (l.picks.length<=205):=by rw[bSw,bRw,bT8,bT9];omega
 have c4:decide ((30:Int)<(l.marks.length:Int))=!decide (l.marks.length<=30):=by rw[bSw,bRw,bT8,bT9];omega
 rw[hS]
 refine pcA func32 ?_
 generalize decide (25<l.picks.length)=b1 at c1⊢;generalize decide (l.picks.length<=200)=b2 at c2⊢;generalize decide (l.picks.length<=205)=b3 at c3⊢;generalize decide (l.marks.length<=30)=b4 at c4⊢;cases b1<;>cases b2<;>cases b3<;>cases b4
 all_goals simp only[go_sem,kK,bQl,c1,c2,c3,c4,bQ5,bQ0,bQ9,bQ7,bRp,bRy,kF]
 all_goals
  refine bQ l.marks.length (fun k st=> ∃fr en cnt,st=⟨fr,en,cnt⟩/\ fr 1= .ptr ⟨0,1,0⟩ 0/\ fr 3= .i (k:Int)/\ en ⟨0,1,0⟩=some (.box [.i l.every,.is l.picks,.fz (l.marks.map aA.enc)] false)/\ (l.marks.drop k).all bU=l.marks.all bU) 0 (bQt _) (by refine⟨_,_,_,rfl,?_,?_,?_,rfl⟩<;>simp only[go_sem]) ?_
  rintro k st hk ⟨fr,en,cnt,rfl,f1,f3,e1,hI⟩
  simp only[go_sem,kK,f1,f3,e1,bQl]
  refine aH (fun hq=>?_) (fun hq=>?_)
  ·have h':k<l.marks.length:=D_o hq;have hW:=vR l.marks[k] (hlf.2.2 _ (bQr h'));have hst:=fT h' bU;rw[<-hI,hst];simp only[go_sem,kK,f1,f3,e1,sZ h',hW.ret,kF];cases hb:bU l.marks[k]with
   |false=>simp only[go_sem,kK,bQ5,bQ7]
   |true=>
    simp only[go_sem,bQ0,bQ9,f3,h',aR h' hlf.2.1];exact⟨_,_,_,rfl,by simp only[go_sem,f1],by simp only[go_sem],e1⟩
  ·have:k=l.marks.length:=by simp at hq;omega
   subst this;rw[<-hI,bSh];simp only[go_sem]
theorem cG.eq_iff {a b:cG}:a=b↔a.every=b.every/\ a.picks=b.picks/\ a.marks=b.marks:=by
 cases a;cases b;simp
instance : DecidableEq cG:=fun _ _=>decidable_of_iff _ cG.eq_iff.symm
theorem aTj (hw:bM p w=true):(∀a∈w.tasks,inR a 0 ((w.objs.length:Int)-1)=true)/\ ∀o∈w.objs,o.form=3->0<o.vals.length:=by
 simp only[bM,bQj]at hw;obtain⟨_,_,_,_,h5,h6,_⟩:=cD.1 hw.2;simp only[gJ,bQj]at h5
 refine⟨fun a ha=>(pN _ _ h5.2 a ha).1,fun o ho h3=>?_⟩
 have:=h6 o ho;simp only[dI,h3,show¬(3:Int)=6 by decide,show¬(3:Int)=5 by decide,show¬(3:Int)=1 by decide,show¬(3:Int)=2 by decide,if_false,if_true]at this
 split at this
 ·cases this
 ·simp only[bQj,bT8]at this;omega
theorem aLz (h:aS p=true):p.cons.length<=1000:=by
 simp only[aS,bQj,bT8]at h;omega
set_option maxRecDepth 100000
set_option maxHeartbeats 4000000
theorem bK5 {a b:gS}:a=b↔a.task=b.task/\ a.act=b.act/\ a.n=b.n/\ a.v.kind=b.v.kind/\ a.v.n=b.v.n:=by
 obtain⟨_,_,_,⟨_,_⟩⟩:=a;obtain⟨_,_,_,⟨_,_⟩⟩:=b;simp
instance : DecidableEq gS:=fun _ _=>decidable_of_iff _ bK5.symm
def wAt (p:aF)(w:aA)(ks:List Int):Nat->aA
 |0=>w
 |i+1=>(cQ p (wAt p w ks i) (ks.getD i 0)).1
def tAt (p:aF)(w:aA)(ks:List Int)(i:Nat):aA×gS×Int:=cQ p (wAt p w ks i) (ks.getD i 0)
def xZ (p:aF)(w:aA)(ks:List Int)(m:Nat):List gS:=(List.range m).map fun i=>(tAt p w ks i).2.1
def lG (p:aF)(w:aA)(ks:List Int)(every:Int)(m:Nat):cG:=⟨every,ks.take m,(List.range (m/every.toNat+1)).map fun j=>wAt p w ks (j*every.toNat)⟩
structure kI (p:aF) (w:aA) (ks:List Int) (every:Int) (m:Nat):Prop where
 g:bM p w=true
 e1:1<=every
 e2:every<=20
 le:m<=ks.length
 m200:m<=200
 ok: ∀i,i<m->(tAt p w ks i).2.2=0
theorem aVp :(cQ p w k).2.2=0 \/(cQ p w k).2.2=6 \/(cQ p w k).2.2=8:=by
 have h:(eL p w k).2.2.2=0 \/(eL p w k).2.2.2=5 \/(eL p w k).2.2.2=8:=by
  unfold eL
  simp only
  split
  ·exact .inr (.inr rfl)
  split
  ·exact .inr (.inl rfl)
  split
  ·exact .inr (.inr rfl)
  ·exact .inl rfl
 unfold cQ
 simp only
 rcases h with h|h|h<;>simp[h]
theorem pO {p:aF}{w:aA}{ks:List Int}(hg:bM p w=true): ∀i,bM p (wAt p w ks i)=true
 |0=>hg
 |i+1=>by
  have ih:=pO (ks:=ks) hg i;simp only[bM,bQj]at ih⊢;exact⟨ih.1,aS8 (tI ih.1) ih.2 _⟩
variable {ks:List Int}
theorem aTk :xZ p w ks (m+1)=xZ p w ks m++[(tAt p w ks m).2.1]:=by
 unfold xZ;rw[bTp,bRl];rfl
theorem aIs :(xZ p w ks m).length=m:=by simp[xZ]
variable {i:Nat}
theorem aW1 (h:i<m):(xZ p w ks m)[i]?=some (tAt p w ks i).2.1:=by simp[xZ,h]
variable {every:Int}
section
variable (h:kI p w ks every m)
include h
theorem kI.le' (hn:n<=m):kI p w ks every n:=⟨h.g,h.e1,h.e2,bQv hn h.le,bQv hn h.m200,fun i hi=>h.ok i (by omega)⟩
theorem kI.E :1<=every.toNat/\ every.toNat<=20/\ every=(every.toNat:Int):=by have:=h.e1;have:=h.e2;omega
theorem kI.len :(lG p w ks every m).picks.length=m:=by
 show(ks.take m).length=m;rw[bR2,Nat.min_eq_left h.le]
theorem kI.log :mH p (lG p w ks every m)=true:=by
 have hg:=h.g;simp only[bM,bQj]at hg;have h1:=h.e1;have h2:=h.e2;have h3:=h.m200;simp only[mH,bQj,bT8,h.len,inR,bQp]
 refine⟨⟨⟨⟨hg.1,h1,h2⟩,h3⟩,?_⟩,fun x hx=>?_⟩
 ·simp[lG,aQ]
 ·obtain⟨j,_,rfl⟩:=bRe.1 hx;have:=pO (ks:=ks) h.g (j*every.toNat);simp only[bM,bQj]at this;exact this.2
theorem kI.mark {j:Nat}(hj:j<=m/every.toNat):sJ (lG p w ks every m) j=wAt p w ks (j*every.toNat):=by
 have:j<m/every.toNat+1:=by omega
 simp[sJ,lG,this]
theorem kI.pick (hi:i<m):jA (lG p w ks every m) i=ks.getD i 0:=by
 unfold jA lG;rw[bQn,bQn,List.getElem?_take_of_lt hi]
theorem kI.run : ∀(k i:Nat),i+k<=m->aCd p (lG p w ks every m) i k (wAt p w ks i)=(wAt p w ks (i+k),0)
 |0,i,_=>rfl
 |k+1,i,hk=>by
  rw[aCd,h.pick (by omega)]
  have e:=h.ok i (by omega)
  unfold tAt at e;rw[if_pos e];have:=kI.run k (i+1) (by omega)
  rw[show i+1+k=i+(k+1)by omega]at this
  exact this
theorem kI.at_ (hn:n<=m):atX p (lG p w ks every m) n=(wAt p w ks n,0):=by
 have he:aQ (lG p w ks every m)=every.toNat:=rfl;unfold atX;have hd:n/every.toNat*every.toNat<=n:=bT3 ..;rw[he,h.mark (Nat.div_le_div_right hn),h.run _ _ (by omega),show n/every.toNat*every.toNat+(n-n/every.toNat*every.toNat)=n by omega]
theorem kI.add (hm:m<ks.length)(h2:m<200):bCo p (lG p w ks every m) (ks.getD m 0)=if(tAt p w ks m).2.2=0 then(lG p w ks every (m+1),(tAt p w ks m).2.1,0)else(zT,fV,(tAt p w ks m).2.2):=by
 have ht:ks.take (m+1)=ks.take m++[ks.getD m 0]:=by
  rw[List.take_succ_eq_append_getElem hm,bQn,bRq hm];rfl
 unfold bCo;rw[h.len,if_neg (by omega),h.at_ (bQk m),if_pos rfl]
 simp only
 have e:cQ p (wAt p w ks m) (ks.getD m 0)=tAt p w ks m:=rfl;rw[e]
 by_cases h0:(tAt p w ks m).2.2=0
 ·rw[if_pos h0,if_pos h0];have he:aQ (lG p w ks every m)=every.toNat:=rfl;rw[he];have hE:=h.E.1;have:(lG p w ks every (m+1)).marks=if(m+1)%every.toNat=0 then(lG p w ks every m).marks++[(tAt p w ks m).1]else(lG p w ks every m).marks:=by
   unfold lG
   simp only
   rw[Nat.succ_div]
   by_cases hd:(m+1)%every.toNat=0
   ·rw[if_pos hd,if_pos (bTy hd),bTp,bRl,List.map_singleton];have hx:(m/every.toNat+1)*every.toNat=m+1:=by
     have h3:(m+1)/every.toNat=m/every.toNat+1:=by rw[Nat.succ_div,if_pos (bTy hd)]
     rw[<-h3];exact Nat.div_mul_cancel (bTy hd)
    rw[hx];rfl
   ·rw[if_neg hd,if_neg (fun x=>hd (Nat.mod_eq_zero_of_dvd x)),bR5]
  rw[<-this]
  refine Prod.ext ?_ rfl
  simp only[lG,cG.mk.injEq,true_and,and_true];exact ht.symm
 ·rw[if_neg h0,if_neg h0]
theorem kI.next (hm:m<ks.length)(h2:m<200)(h0:(tAt p w ks m).2.2=0):kI p w ks every (m+1):=
 ⟨h.g,h.e1,h.e2,hm,h2,fun i hi=>by
  rcases bRs i m with hx|hx
  ·exact h.ok i hx
  ·obtain rfl:i=m:=by omega
   exact h0⟩
end
theorem kI.zero (hg:bM p w=true)(e1:1<=every)(e2:every<=20):kI p w ks every 0:=⟨hg,e1,e2,bQt _,bQt _,fun i hi=>absurd hi (Nat.not_lt_zero i)⟩
theorem aZk (hs:(aT p w 0).2.2=true):aGq p w every=(lG p (aT p w 0).1 ks every 0,0):=by
 unfold aGq;rw[if_pos hs];simp[lG,wAt]
set_option maxRecDepth 100000
set_option maxHeartbeats 4000000
def aL0 (p:aF)(w:aA)(ks:List Int)(every:Int):Bool:=aS p&&bU w&&bM p w&&decide (ks.length<=15)&&decide (1<=every)&&decide (every<=20)
theorem aQf (hpf:p.few)(hwf:w.few)(ks:List Int)(every:Int):PC L 8 [.agg p.cs,.agg w.cs,.is ks,.i every] (.bool (aL0 p w ks every)):=by
 have h1:=aGg p hpf;have h2:=vR w hwf;have c1:decide ((ks.length:Int)<=15)=decide (ks.length<=15):=by rw[bSw,bT8,bT8];omega
 unfold aL0 bM
 refine pcA func8 ?_
 cases hsp:aS p with
 |false=>rw[hsp]at h1;simp only[go_sem,kK,h1.ret,bQ7,kF]
 |true=>
 rw[hsp]at h1;cases hsw:bU w with
 |false=>rw[hsw]at h2;simp only[go_sem,kK,h1.ret,h2.ret,bQ7,bRp,kF]
 |true=>
 rw[hsw]at h2;have h3:=aCl p hpf (aLz hsp);have h4:=aEn p w hpf hwf;cases hf:eS p with
 |false=>rw[hf]at h3;simp only[go_sem,kK,h1.ret,h2.ret,h3.ret,bQ7,bRy,bRp,kF]
 |true=>
 rw[hf]at h3;cases hw:dG p w with
 |false=>rw[hw]at h4;simp only[go_sem,kK,h1.ret,h2.ret,h3.ret,h4.ret,bQ7,bRy,bRp,kF]
 |true=>
 rw[hw]at h4;rcases Decidable.em (ks.length<=15)with h5|h5<;>rcases Decidable.em (1<=every)with h6|h6<;>rcases Decidable.em (every<=20)with h7|h7
 all_goals simp only[go_sem,kK,h1.ret,h2.ret,h3.ret,h4.ret,bQl,c1,h5,h6,h7,decide_false,bRy,bRp,decide_true,kF]
theorem bFf (hg:bM p w=true)(e1:1<=every)(e2:every<=20)(hk:ks.length<=200): ∃m,kI p w ks every m/\ (m=ks.length \/ ¬(tAt p w ks m).2.2=0):=by
 have: ∀n,n<=ks.length->(∃m,kI p w ks every m/\ ¬(tAt p w ks m).2.2=0) \/kI p w ks every n:=by
  intro n
  induction n with
  |zero=>intro _;exact .inr (.zero hg e1 e2)
  |succ n ih=>
   intro hn;rcases ih (by omega)with h|h
   ·exact .inl h
   ·by_cases h0:(tAt p w ks n).2.2=0
    ·exact .inr (h.next (by omega) (by omega) h0)
    ·exact .inl ⟨n,h,h0⟩
 rcases this _ (bQk _)with⟨m,h1,h2⟩|h
 ·exact⟨m,h1,.inr h2⟩
 ·exact⟨_,h,.inl rfl⟩
section
variable (h:kI p w ks every m)(hsp:aS p=true)
include h hsp
theorem kI.few :(lG p w ks every m).few:=by
 have hE:=h.E;have h2:=h.m200
 refine⟨?_,?_,fun x hx=>?_⟩
 ·rw[h.len];unfold Few;omega
 ·have:=Nat.div_le_self m every.toNat;simp only[lG,bQl,List.length_range];unfold Few;omega
 ·obtain⟨j,_,rfl⟩:=bRe.1 hx;exact sE hsp (pO h.g _)
theorem kI.small (hm:m<=25):oW (lG p w ks every m)=true:=by
 have:=Nat.div_le_self m every.toNat;simp only[oW,h.len,bQj,bQp,bT8,bRw]
 refine⟨⟨⟨?_,by omega⟩,?_⟩,fun x hx=>?_⟩
 ·rw[D_f (by omega)];rfl
 ·simp only[lG,bQl,List.length_range];omega
 ·obtain⟨j,_,rfl⟩:=bRe.1 hx;have:=pO (ks:=ks) h.g (j*every.toNat);simp only[bM,bQj]at this;exact rZ hsp this.2
end
theorem aQg {l:List Int}{k:Nat}(h:k<l.length):mA 1 en (.is l) (.i (k:Int))=some {v:= .fp [.i (l.getD k 0)] 0}:=by
 simp[mA,h];exact⟨rfl,rfl⟩
theorem aTl (hpf:p.few)(hwf:w.few)(hsp:aS p=true)(hks:ks.length<=25)(hg:bM p w=true)(e1:1<=every)(e2:every<=20):
  ((aT p w 0).2.2=false/\ PC L 10 [.agg p.cs,.agg w.cs,.is ks,.i every] (.tup [.agg zT.cs,.fz [],.bool false,.bool true])) \/
  ((aT p w 0).2.2=true/\ ∃m,kI p (aT p w 0).1 ks every m/\ (m=ks.length \/ ¬(tAt p (aT p w 0).1 ks m).2.2=0)/\
   PC L 10 [.agg p.cs,.agg w.cs,.is ks,.i every] (.tup [.agg (lG p (aT p w 0).1 ks every m).cs,.fz ((xZ p (aT p w 0).1 ks m).map evV),.bool true,.bool true])):=by
 have hB:=aMo hpf hwf hsp every;rw[show aQd p w every=aGq p w every from if_pos ⟨hg,e1,e2⟩]at hB
 by_cases hs:(aT p w 0).2.2=true
 case neg=>
  refine .inl ⟨by simpa using hs,?_⟩
  rw[show aGq p w every=(zT,8)from if_neg hs]at hB
  simp only[cG.enc,zT,cG.cs,bQ1]at hB⊢
  refine pcA func10 ?_
  simp only[go_sem,kK,hB.ret,bQ5,decide_true,kF]<;>rfl
 have hg0:=(wD hg hs).1;obtain⟨m,hm,hend⟩:=bFf (ks:=ks) hg0 e1 e2 (by omega)
 refine .inr ⟨hs,m,hm,hend,?_⟩
 rw[aZk (ks:=ks) hs]at hB;simp only[cG.enc]at hB;clear hs;generalize (aT p w 0).1=w0 at*;have hml:=hm.le
 refine pcA func10 ?_
 simp only[go_sem,kK,hB.ret,bQl,bQ0,decide_true,kF]
 refine bQ m (fun k st=> ∃fr en cnt,st=⟨fr,en,cnt⟩/\ fr 4= .ptr ⟨0,4,0⟩ 0/\ fr 8= .ptr ⟨0,8,0⟩ 0/\ fr 12= .ptr ⟨0,12,0⟩ 0/\ fr 32= .is ks/\ fr 33= .i (ks.length:Int)/\ fr 34= .i (k:Int)/\ en ⟨0,4,0⟩=some (.box p.cs false)/\ en ⟨0,8,0⟩=some (.box [.i 0,.cl [],.cl []] false)/\ en ⟨0,12,0⟩=some (.box (lG p w0 ks every k).cs false)/\ cR en (fr 14) 5 ((xZ p w0 ks k).map evV) [64]) 0 (bQt _) (by refine⟨_,_,_,rfl,?_,?_,?_,?_,?_,?_,?_,?_,?_,by simp only[go_sem];exact cR.nil _ _⟩<;>simp only[go_sem]) ?_
 rintro k st hk ⟨fr,en,cnt,rfl,f4,f8,f12,f32,f33,f34,e4,e8,e12,hM⟩
 have hk':=hm.le' hk;have hlf:=hk'.few hsp;have hlg:=aVo hpf hlf (aLz hsp);rw[hk'.log]at hlg;have hcase:(k=m/\ ¬k<ks.length) \/(k=m/\ k<ks.length/\ ¬(tAt p w0 ks k).2.2=0) \/(k<m/\ k<ks.length/\ (tAt p w0 ks k).2.2=0):=by
  rcases bRs k m with h|h
  ·exact .inr (.inr ⟨h,by omega,hm.ok k h⟩)
  ·obtain rfl:k=m:=by omega
   rcases hend with h|h
   ·exact .inl ⟨rfl,by omega⟩
   ·by_cases h':k<ks.length
    ·exact .inr (.inl ⟨rfl,h',h⟩)
    ·exact .inl ⟨rfl,h'⟩
 simp only[go_sem,kK,f33,f34];have hA:=aTh hpf hlf hsp (ks.getD k 0);rw[show bC2 p (lG p w0 ks every k) (ks.getD k 0)=bCo p (lG p w0 ks every k) (ks.getD k 0)from if_pos hk'.log]at hA
 have hk2:=hm.m200;rcases hcase with⟨rfl,a⟩|⟨rfl,a,b⟩|⟨a,a',b⟩
 case' inl=>simp only[go_sem,D_f a,f8,e8]
 case' inr.inl=>
  rw[hk'.add a (by omega),if_neg b]at hA
  simp only[cG.enc,evV,zT,fV,iO,Val.is,bQ1]at hA;have hcd:decide ((tAt p w0 ks k).2.2=6)=true \/(decide ((tAt p w0 ks k).2.2=6)=false/\ decide ((tAt p w0 ks k).2.2=8)=true):=by
   rcases aVp (p:=p) (w:=wAt p w0 ks k) (k:=ks.getD k 0)with h|h|h
   ·exact absurd h b
   ·exact .inl (D_t h)
   ·refine .inr ⟨D_f ?_,D_t h⟩
    intro h';have:(6:Int)=8:=h'.symm.trans h;exact absurd this (by decide)
  simp only[go_sem,kK,D_t a,f4,f12,f32,f34,e4,e12,aQg a,hA.ret,kF];rcases hcd with hcd|⟨hcd,hcd'⟩
  case' inl=>simp only[go_sem,kK,hcd,f8,f34,e8,kF]
  case' inr=>simp only[go_sem,kK,hcd,hcd',f8,f34,e8,kF]
 case inr.inr=>
  rw[hk'.add a' (by omega),if_pos b]at hA
  simp only[cG.enc,evV]at hA;have hS:=aQe ((hk'.next a' (by omega) b).few hsp)
  rw[(hk'.next a' (by omega) b).small hsp (by omega)]at hS
  simp only[go_sem,kK,D_t a',f4,f12,f32,f34,e4,e12,aQg a',hA.ret,hS.ret,bQ0,decide_true,kF];have hlen:((xZ p w0 ks k).map evV).length=k:=by rw[bQl,aIs]
  refine jZ (D:=[64]) (xs:=(xZ p w0 ks k).map evV) (ys:=[evV (tAt p w0 ks k).2.1]) (rs:=[]) ?_ ?_ rfl ?_ ?_
  ·simp only[go_sem];exact hM.keep fun t g ht=>by simp at ht;subst ht;simp only[go_sem]
  ·simp only[go_sem,evV]
  ·rw[hlen];simp;omega
  intro v' en' cnt' hown hen hcnt;have k4:=(hen 0 4 0 (.inr ⟨by decide,by simp⟩)).trans (by simp only[go_sem,e4]:_=some (.box p.cs false))
  have k8:=(hen 0 8 0 (.inr ⟨by decide,by simp⟩)).trans (by simp only[go_sem,e8]:_=some (.box [.i 0,.cl [],.cl []] false))
  have k12:=(hen 0 12 0 (.inr ⟨by decide,by simp⟩)).trans (by simp only[go_sem]:_=some (.box (lG p w0 ks every (k+1)).cs false))
  simp only[go_sem,f34,aR a' (by unfold Few;omega)]
  refine⟨a,_,_,_,rfl,by simp only[go_sem,f4],by simp only[go_sem,f8],by simp only[go_sem,f12],by simp only[go_sem,f32],by simp only[go_sem,f33],by simp only[go_sem],by simp only[go_sem,k4],by simp only[go_sem,k8],by simp only[go_sem,k12],?_⟩
  simp only[go_sem];rw[aTk,bRl];exact hown.sub (by simp)
 all_goals
  refine aG ?_
  simp only[go_sem,f4,f12,e4,e12,kA,kF];simp only[go_sem,hlg.ret,f12,e12,hk'.len,bQ9,bRy,bRp,kA,kF];simp only[go_sem,hM.len,bQl,aIs,f8,e8,bRy,bRp,Bool.true_or,decide_true,kA,kF];obtain⟨r,kk,t3,t1⟩:=aK1 hM 6;rw[t1 _ (fun g=>by simp only[go_sem])]
  simp only[go_sem,t3]
theorem aTm (hsp:aS p=true)(hg:bM p w=true)(hs:(aT p w 0).2.2=true)(h:kI p (aT p w 0).1 ks every n):
  PC L 13 [.agg p.cs,.agg w.cs,.is (ks.take n)] (.tup [.agg (wAt p (aT p w 0).1 ks n).cs,.fz ((xZ p (aT p w 0).1 ks n).map evV),.i 0]):=by
 have hg':=hg;simp only[bM,bQj]at hg';have hp:=tI hg'.1;have hS:=aGo hp hsp (aFk hg'.2) 0 (by omega)
 rw[show((0:Nat):Int)=0 from rfl]at hS
 have hn:=h.m200;have hlen:(ks.take n).length=n:=by rw[bR2,Nat.min_eq_left h.le]
 refine pcA func13 ?_
 simp only[go_sem,kK,hS.ret,hs,bQ0,kF];generalize (aT p w 0).1=w0 at*
 refine bQ n (fun k st=> ∃fr en cnt,st=⟨fr,en,cnt⟩/\ fr 2= .is (ks.take n)/\ fr 3= .ptr ⟨0,3,0⟩ 0/\ fr 4= .ptr ⟨0,4,0⟩ 0/\ fr 6= .ptr ⟨0,6,0⟩ 0/\ fr 12= .i (k:Int)/\ en ⟨0,3,0⟩=some (.box p.cs false)/\ en ⟨0,4,0⟩=some (.box (wAt p w0 ks k).cs false)/\ en ⟨0,6,0⟩=some (.box [.cl [],.cl [],.cl [],.cl [],.i 0] false)/\ cR en (fr 11) 5 ((xZ p w0 ks k).map evV) [57]) 0 (bQt _) (by refine⟨_,_,_,rfl,?_,?_,?_,?_,?_,?_,by simp only[go_sem];rfl,?_,by simp only[go_sem];exact cR.nil _ _⟩<;>simp only[go_sem]) ?_
 rintro k st hk ⟨fr,en,cnt,rfl,f2,f3,f4,f6,f12,e3,e4,e6,hM⟩
 simp only[go_sem,kK,f2,f12,bQl,hlen]
 by_cases hkl:k<n
 case neg=>
  obtain rfl:k=n:=by omega
  simp only[go_sem,D_f (bS1 k),f4,f6,e4,e6];obtain⟨r,kk,t3,t1⟩:=aK1 hM 6;rw[t1 _ (fun g=>by simp only[go_sem])]
  simp only[go_sem,t3]
 have hgk:=pO (ks:=ks) h.g k;have hgk':=hgk;simp only[bM,bQj]at hgk';have hT:=bEq hp hsp (aFk hgk'.2) (ks.getD k 0);have hok:=h.ok k hkl;unfold tAt at hok;rcases aBe hgk (ks.getD k 0)with⟨_,a1,a2,a3,a4⟩|hx
 case inr=>
  rcases hx with⟨_,h⟩|⟨_,h⟩<;>(rw[h]at hok;exact absurd hok (by decide))
 rw[a2]at a1;simp only[<-a3,<-a4]at hT;simp only[go_sem,D_t hkl]
 refine aG ?_
 have hkk:k<(ks.take n).length:=by omega
 have hgd:(ks.take n).getD k 0=ks.getD k 0:=by rw[bQn,bQn,List.getElem?_take_of_lt hkl]
 simp only[go_sem,kK,f2,f3,f4,f12,e3,e4,aQg hkk,hgd,hT.ret,a1,bQ0,bQ9,bRy,bRp,decide_true,kA,kF];have hlen2:((xZ p w0 ks k).map evV).length=k:=by rw[bQl,aIs]
 refine jZ (D:=[57]) (xs:=(xZ p w0 ks k).map evV) (ys:=[evV (tAt p w0 ks k).2.1]) (rs:=[]) ?_ ?_ rfl ?_ ?_
 ·simp only[go_sem];exact hM.keep fun t g ht=>by simp at ht;subst ht;simp only[go_sem]
 ·simp only[go_sem,evV,tAt]
 ·rw[hlen2];simp;omega
 intro v' en' cnt' hown hen hcnt;have k3:=(hen 0 3 0 (.inr ⟨by decide,by simp⟩)).trans (by simp only[go_sem,e3]:_=some (.box p.cs false))
 have k6:=(hen 0 6 0 (.inr ⟨by decide,by simp⟩)).trans (by simp only[go_sem,e6]:_=some (.box [.cl [],.cl [],.cl [],.cl [],.i 0] false))
 have k4:=(hen 0 4 0 (.inr ⟨by decide,by simp⟩)).trans (by simp only[go_sem];rfl:_=some (.box (wAt p w0 ks (k+1)).cs false))
 simp only[go_sem,f12,aR hkl (by unfold Few;omega)]
 refine⟨hkl,_,_,_,rfl,by simp only[go_sem,f2],by simp only[go_sem,f3],by simp only[go_sem,f4],by simp only[go_sem,f6],by simp only[go_sem],by simp only[go_sem,k3],by simp only[go_sem,k4],by simp only[go_sem,k6],?_⟩
 simp only[go_sem];rw[aTk,bRl];exact hown.sub (by simp)
theorem aTn (h:aL0 p w ks every=true):aS p=true/\ bM p w=true/\ ks.length<=15/\ 1<=every/\ every<=20:=by
 simp only[aL0,bQj,bT8]at h;exact⟨h.1.1.1.1.1,h.1.1.1.2,h.1.1.2,h.1.2,h.2⟩
section
variable (h:kI p w ks every m)
include h
end
end Go.Proofs.YtmafmhjndjmalaaGreat
namespace Go.Abs
inductive aBi (w w':aA) (u:aD) (act:Int) (ev:aD):Prop
 |same (h:w'.objs=w.objs) (h16: ¬act=16) (h18: ¬act=18)
 |more (o:aN) (h:w'.objs=w.objs++[o]) (ho: ¬o.form=3) (h16: ¬act=16) (h18: ¬act=18)
 |cell (v:aD) (h:w'.objs=w.objs++[⟨3,0,[v],[]⟩]) (ha:act=16) (he:ev=nE v)
 |chan (o:aN) (hu:bY w u 4=true) (h:w'.objs=w.objs.set u.n.toNat o) (ho:o.form=4) (h16: ¬act=16) (h18: ¬act=18)
 |put (v:aD) (hu:bY w u 3=true) (h:w'.objs=w.objs.set u.n.toNat ⟨3,0,[v],[]⟩) (ha:act=18) (he:ev=nE v)
structure bC3 (w w':aA) (e:gS):Prop where
 outs:(e.act=24/\ w'.outs=w.outs++[⟨e.n,e.v.n⟩]) \/(¬e.act=24/\ w'.outs=w.outs)
 used:(e.act=25/\ w'.used=w.used+1) \/(¬e.act=25/\ w'.used=w.used)
 tasks:w.tasks<+:w'.tasks
def Eff (w:aA)(u:aD):OpR->Prop
 | .go none w' _ _=>aBi w w' u 0 iO
 | .go (some e) w' _ back=>aBi w w' u e.act e.v/\ bC3 w w' e/\ back.length=1
 |_=>True
variable {w' w:aA}{l:List aB}{env:List aD}{node a:Int}{u:aD}
section
variable {left:List aB}
theorem tN (h:w'.objs=w.objs):aBi w w' u 0 iO:= .same h (of_decide_eq_false rfl) (of_decide_eq_false rfl)
theorem aZl {v:aD}:Eff w u (iJ w left v):=tN rfl
theorem bC4 (h:aBi w w' u 0 iO):Eff w u (pL w' left l):=by
 unfold pL;split
 ·trivial
 ·exact h
theorem aOa (h:aBi w w' u 0 iO):Eff w u (iT w' left node env):=by
 unfold iT;split
 ·trivial
 ·exact bC4 h
theorem aL1 :Eff w u (iT w left node env):=aOa (tN rfl)
theorem yA {o:aN}{k:aA->aD->OpR}(h:Eff w u (k (dU w o) (dK w.objs.length))):Eff w u (iB w o k):=by
 unfold iB;split
 ·trivial
 ·exact h
theorem bGk {o:aN}(h: ¬o.form=3):aBi w (dU w o) u 0 iO:= .more o rfl h (of_decide_eq_false rfl) (of_decide_eq_false rfl)
theorem aHz {kids:List Int}{env:List aD}{x:aD}: ∀(l:List Pat) (i:Nat),Eff w u (dS w left kids env x i l)
 |[],i=>trivial
 |q::qs,i=>by
  simp only[dS];split
  ·exact aL1
  ·exact aHz qs (i+1)
theorem aW2 {c:Prop}[Decidable c]{x y:OpR}(hx:c->Eff w u x)(hy: ¬c->Eff w u y):Eff w u (if c then x else y):=by
 by_cases h:c
 ·rw[if_pos h];exact hx h
 ·rw[if_neg h];exact hy h
theorem tO {e:gS}(h1: ¬e.act=24)(h2: ¬e.act=25)(h3:w'.outs=w.outs)(h4:w'.used=w.used)(h5:w.tasks<+:w'.tasks):bC3 w w' e:=⟨.inr ⟨h1,h3⟩,.inr ⟨h2,h4⟩,h5⟩
theorem bFg {p:aF}{f:aB}{n:aK}:Eff w (aE f.vals 0) (opR p w a left f n):=by
 unfold opR
 repeat' (with_reducible refine aW2 (fun _=>?_) (fun _=>?_))
 all_goals try(split<;>(repeat' (with_reducible refine aW2 (fun _=>?_) (fun _=>?_))))
 all_goals first
  |exact aZl
  |exact aL1
  |exact aHz _ _
  |exact yA (bGk (of_decide_eq_false rfl))
  |exact yA (aOa (bGk (of_decide_eq_false rfl)))
  |exact tN rfl
  |exact yA ⟨.cell _ rfl rfl rfl,tO (of_decide_eq_false rfl) (of_decide_eq_false rfl) rfl rfl (bR7 _),rfl⟩
  |exact yA ⟨.more _ rfl (of_decide_eq_false rfl) (of_decide_eq_false rfl) (of_decide_eq_false rfl),tO (of_decide_eq_false rfl) (of_decide_eq_false rfl) rfl rfl (bR7 _),rfl⟩
  |exact yA ⟨.more _ rfl (of_decide_eq_false rfl) (of_decide_eq_false rfl) (of_decide_eq_false rfl),tO (of_decide_eq_false rfl) (of_decide_eq_false rfl) rfl rfl (List.prefix_append _ _),rfl⟩
  |exact⟨.same rfl (of_decide_eq_false rfl) (of_decide_eq_false rfl),tO (of_decide_eq_false rfl) (of_decide_eq_false rfl) rfl rfl (bR7 _),rfl⟩
  |exact⟨.put _ (by assumption) rfl rfl rfl,tO (of_decide_eq_false rfl) (of_decide_eq_false rfl) rfl rfl (bR7 _),rfl⟩
  |exact⟨.chan _ (by assumption) rfl rfl (of_decide_eq_false rfl) (of_decide_eq_false rfl),tO (of_decide_eq_false rfl) (of_decide_eq_false rfl) rfl rfl (bR7 _),rfl⟩
  |exact⟨.same rfl (of_decide_eq_false rfl) (of_decide_eq_false rfl),⟨.inr ⟨(of_decide_eq_false rfl),rfl⟩,.inl ⟨rfl,rfl⟩,bR7 _⟩,rfl⟩
  |trivial
  |skip
 rename_i h1 h2
 refine⟨.same rfl (of_decide_eq_false rfl) (of_decide_eq_false rfl),⟨.inl ⟨rfl,?_⟩,.inr ⟨(of_decide_eq_false rfl),rfl⟩,bR7 _⟩,rfl⟩
 have hk:(aE f.vals 0).kind=1:=Decidable.not_not.1 h1;simp only[nE,hk];rfl
end
def Hit (w:aA)(a:Int)(d:Did)(i:Nat):Prop:=(d.e.act=16/\ i=w.objs.length) \/(d.e.act=18/\ (i:Int)=(aE ((w.obj (aZ w a)).frames.getD ((w.obj (aZ w a)).frames.length-1) dV).vals 0).n)
structure aVq (w:aA) (a:Int) (d:Did):Prop where
 len:w.objs.length<=d.w.objs.length
 cell: ∀i:Nat,i<d.w.objs.length->(d.w.obj i).form=3-> ¬Hit w a d i->i<w.objs.length/\ d.w.obj i=w.obj i
 hit: ∀i:Nat,Hit w a d i->i<d.w.objs.length/\ ∃v,d.w.obj i=⟨3,0,[v],[]⟩/\ d.e.v=nE v
 outs:(d.e.act=24/\ d.w.outs=w.outs++[⟨d.e.n,d.e.v.n⟩]) \/(¬d.e.act=24/\ d.w.outs=w.outs)
 used:(d.e.act=25/\ d.w.used=w.used+1) \/(¬d.e.act=25/\ d.w.used=w.used)
 task: ∀i:Nat,i<w.objs.length->(w.obj i).form=6-> ¬(i:Int)=aZ w a->d.w.obj i=w.obj i
 own:d.what=1-> ¬d.w.obj (aZ w a)=w.obj (aZ w a)
 act0: ¬d.what=1->d.e.act=0
variable {act:Int}{ev:aD}
theorem bFh (h:aBi w w' u act ev)(hu:u.kind=5->inR u.n 0 ((w.objs.length:Int)-1)=true):
  w.objs.length<=w'.objs.length/\
  (∀i:Nat,i<w'.objs.length->(w'.obj i).form=3-> ¬((act=16/\ i=w.objs.length) \/(act=18/\ (i:Int)=u.n))->i<w.objs.length/\ w'.obj i=w.obj i)/\
  (∀i:Nat,((act=16/\ i=w.objs.length) \/(act=18/\ (i:Int)=u.n))->i<w'.objs.length/\ ∃v,w'.obj i=⟨3,0,[v],[]⟩/\ ev=nE v)/\
  (∀i:Nat,i<w.objs.length->(w.obj i).form=6->w'.obj i=w.obj i):=by
 have ob: ∀(x:aA) (i:Nat),x.obj (i:Int)=x.objs.getD i default:=fun x i=>by simp[aA.obj]
 have io: ∀k,bY w u k=true->u.kind=5/\ (w.obj u.n).form=k:=fun k h=>by
  simp only[bY,bQj,bT8]at h;exact h
 cases h with
 |same h h16 h18=>
  simp only[ob,h];exact⟨bQk _,fun i hi _ _=>⟨hi,by trivial⟩,fun i hi=>hi.elim (fun x=>absurd x.1 h16) (fun x=>absurd x.1 h18),fun i _ _=>by trivial⟩
 |more o h ho h16 h18=>
  simp only[ob,h,bQ2,bS0]
  refine⟨Nat.le_succ _,fun i hi hf _=>?_,fun i hi=>hi.elim (fun x=>absurd x.1 h16) (fun x=>absurd x.1 h18),fun i hi _=>?_⟩
  ·rcases bRs i w.objs.length with hl|hl
   ·exact⟨hl,by simp[bQn,bSq hl]⟩
   ·obtain rfl:i=w.objs.length:=by omega
    simp[bQn]at hf;exact absurd hf ho
  ·simp[bQn,bSq hi]
 |cell v h ha he=>
  subst ha;simp only[ob,h,bQ2,bS0]
  refine⟨Nat.le_succ _,fun i hi hf hn=>?_,fun i hi=>?_,fun i hi _=>?_⟩
  ·have hl:i<w.objs.length:=by
    rcases bRs i w.objs.length with hl|hl
    ·exact hl
    ·exact absurd (.inl ⟨by trivial,by omega⟩) hn
   exact⟨hl,by simp[bQn,bSq hl]⟩
  ·rcases hi with⟨_,rfl⟩|⟨hi,_⟩
   ·exact⟨by omega,v,by simp[bQn],he⟩
   ·exact absurd hi (of_decide_eq_false rfl)
  ·simp[bQn,bSq hi]
 |chan o hu' h ho h16 h18=>
  obtain⟨k5,hf4⟩:=io 4 hu';have hr:=hu k5;simp only[inR,bT8]at hr;obtain⟨n,hn⟩:=bRn hr.1;rw[hn]at h hf4 hr;have hnl:n<w.objs.length:=by omega
  rw[ob]at hf4;simp only[ob,h,bSb,bRh]
  refine⟨bQk _,fun i hi hf _=>⟨hi,?_⟩,fun i hi=>hi.elim (fun x=>absurd x.1 h16) (fun x=>absurd x.1 h18),fun i hi hf=>?_⟩
  ·rcases Decidable.em (n=i)with rfl|hni
   ·simp[bQn,hnl,ho]at hf
   ·simp[bQn,bTx hni]
  ·rcases Decidable.em (n=i)with rfl|hni
   ·rw[hf4]at hf;exact absurd hf (of_decide_eq_false rfl)
   ·simp[bQn,bTx hni]
 |put v hu' h ha he=>
  subst ha;obtain⟨k5,hf3⟩:=io 3 hu';have hr:=hu k5;simp only[inR,bT8]at hr;obtain⟨n,hn⟩:=bRn hr.1;rw[hn]at h hf3 hr;have hnl:n<w.objs.length:=by omega
  rw[ob]at hf3;simp only[ob,h,bSb,bRh,hn]
  refine⟨bQk _,fun i hi hf hx=>⟨hi,?_⟩,fun i hi=>?_,fun i hi hf=>?_⟩
  ·rcases Decidable.em (n=i)with rfl|hni
   ·exact absurd (.inr ⟨by trivial,by trivial⟩) hx
   ·simp[bQn,bTx hni]
  ·rcases hi with⟨hi,_⟩|⟨_,hi⟩
   ·exact absurd hi (of_decide_eq_false rfl)
   ·obtain rfl:i=n:=by omega
    exact⟨hnl,v,by simp[bQn,hnl],he⟩
  ·rcases Decidable.em (n=i)with rfl|hni
   ·rw[hf3]at hf;exact absurd hf (of_decide_eq_false rfl)
   ·simp[bQn,bTx hni]
variable {t:Nat}
theorem aL2 {b:List aD}{s:Int}(h:aBi w w' u act ev)(hu:u.kind=5->inR u.n 0 ((w.objs.length:Int)-1)=true)(ht:t<w.objs.length)(hf:(w.obj t).form=6):
  w.objs.length<=(cW w' t ⟨6,s,b,l⟩).objs.length/\
  (∀i:Nat,i<(cW w' t ⟨6,s,b,l⟩).objs.length->((cW w' t ⟨6,s,b,l⟩).obj i).form=3-> ¬((act=16/\ i=w.objs.length) \/(act=18/\ (i:Int)=u.n))->i<w.objs.length/\ (cW w' t ⟨6,s,b,l⟩).obj i=w.obj i)/\
  (∀i:Nat,((act=16/\ i=w.objs.length) \/(act=18/\ (i:Int)=u.n))->i<(cW w' t ⟨6,s,b,l⟩).objs.length/\ ∃v,(cW w' t ⟨6,s,b,l⟩).obj i=⟨3,0,[v],[]⟩/\ ev=nE v)/\
  (∀i:Nat,i<w.objs.length->(w.obj i).form=6-> ¬i=t->(cW w' t ⟨6,s,b,l⟩).obj i=w.obj i)/\ (cW w' t ⟨6,s,b,l⟩).obj t=⟨6,s,b,l⟩:=by
 obtain⟨a1,a2,a3,a4⟩:=bFh h hu;have hl:(cW w' t ⟨6,s,b,l⟩).objs.length=w'.objs.length:=by simp[cW]
 have hot:(cW w' t ⟨6,s,b,l⟩).obj t=⟨6,s,b,l⟩:=by simp[aA.obj,cW,bRa ht a1]
 have hne: ∀i:Nat,¬i=t->(cW w' t ⟨6,s,b,l⟩).obj i=w'.obj i:=fun i hi=>aP5 (by simpa using hi)
 rw[hl]
 refine⟨a1,fun i hi h3 hx=>?_,fun i hx=>?_,fun i hi h6 hit=>(hne i hit).trans (a4 i hi h6),hot⟩
 ·have: ¬i=t:=fun e=>by rw[e,hot]at h3;exact absurd h3 (of_decide_eq_false rfl)
  rw[hne i this]at h3⊢;exact a2 i hi h3 hx
 ·obtain⟨b1,v,b2,b3⟩:=a3 i hx;have: ¬i=t:=fun e=>by
   rw[e,a4 t ht hf]at b2;rw[b2]at hf;exact absurd hf (of_decide_eq_false rfl)
  exact⟨b1,v,by rw[hne i this];exact b2,b3⟩
theorem bC5 {R:OpR}(hT:aZ w a=(t:Int))(ht:t<w.objs.length)(hf:(w.obj t).form=6)(ha:inR a 0 ((w.tasks.length:Int)-1)=true)
  (hn:(w.obj t).n=0) (hv: ¬(w.obj t).vals.length=1) (u:aD) (hue:u=aE ((w.obj t).frames.getD ((w.obj t).frames.length-1) dV).vals 0) (hu:u.kind=5->inR u.n 0 ((w.objs.length:Int)-1)=true)
  (h:Eff w u R) (hc:Calm w a R):aVq w a (R.did w a):=by
 have hit: ∀{d:Did} {i:Nat},Hit w a d i->((d.e.act=16/\ i=w.objs.length) \/(d.e.act=18/\ (i:Int)=u.n)):=fun h=>by
  unfold Hit at h;rw[hT,<-hue]at h;exact h
 have hit': ∀{d:Did} {i:Nat},((d.e.act=16/\ i=w.objs.length) \/(d.e.act=18/\ (i:Int)=u.n))->Hit w a d i:=fun h=>by
  unfold Hit;rw[hT,<-hue];exact h
 have ta: ∀{w':aA},w.tasks<+:w'.tasks->aZ w' a=(t:Int):=fun{w'} hp=>by
  rw[<-hT];obtain⟨l,hl⟩:=hp;simp only[inR,bT8]at ha;unfold aZ;rw[<-hl,bQn,bQn,bSq (by omega)]
 cases R with
 |wait=>exact⟨bQk _,fun i hi _ _=>⟨hi,rfl⟩,fun i hi=>by rcases hit hi with h|h<;>exact absurd h.1 (of_decide_eq_false rfl),.inr ⟨by show¬(0:Int)=24;decide,rfl⟩,.inr ⟨by show¬(0:Int)=25;decide,rfl⟩,fun _ _ _ _=>rfl,fun h=>absurd (show(2:Int)=1 from h) (of_decide_eq_false rfl),fun _=>rfl⟩
 |fail s=>
  have he:(OpR.did w a (.fail s))=⟨cW w t ⟨6,s,[],[]⟩,1,⟨a,0,s,iO⟩⟩:=by simp only[OpR.did,bE,hT]
  rw[he];obtain⟨b1,b2,b3,b4,b5⟩:=aL2 (s:=s) (b:=[]) (l:=[]) (u:=u) (tN (w:=w) (w':=w) rfl) hu ht hf
  refine⟨b1,fun i hi h3 _=>b2 i hi h3 (by rintro(h|h)<;>exact absurd h.1 (of_decide_eq_false rfl)),fun i hi=>by rcases hit hi with h|h<;>exact absurd (show(0:Int)=_ from h.1) (of_decide_eq_false rfl),.inr ⟨by show¬(0:Int)=24;decide,rfl⟩,.inr ⟨by show¬(0:Int)=25;decide,rfl⟩,fun i hi h6 hx=>b4 i hi h6 (fun e=>hx (by rw[hT,e])),fun _=>?_,fun h=>absurd rfl h⟩
  rw[hT,b5];intro e;rw[<-e]at hn;exact hc hn
 |go ev w' left back=>
  cases ev with
  |none=>
   have he:(OpR.did w a (.go none w' left back))=⟨cW w' t ⟨6,0,back,left⟩,0,fV⟩:=by simp only[OpR.did,ta (by rw[hc.1];exact bR7 _)]
   rw[he];obtain⟨b1,b2,b3,b4,b5⟩:=aL2 (s:=0) (b:=back) (l:=left) h hu ht hf
   refine⟨b1,fun i hi h3 _=>b2 i hi h3 (by rintro(h|h)<;>exact absurd h.1 (of_decide_eq_false rfl)),fun i hi=>by rcases hit hi with h|h<;>exact absurd (show(0:Int)=_ from h.1) (of_decide_eq_false rfl),.inr ⟨by show¬(0:Int)=24;decide,hc.2.2.1⟩,.inr ⟨by show¬(0:Int)=25;decide,hc.2.2.2.2⟩,fun i hi h6 hx=>b4 i hi h6 (fun e=>hx (by rw[hT,e])),fun h=>absurd (show(0:Int)=1 from h) (of_decide_eq_false rfl),fun _=>rfl⟩
  |some e=>
   obtain⟨h1,h2,h3⟩:=h;have he:(OpR.did w a (.go (some e) w' left back))=⟨cW w' t ⟨6,0,back,left⟩,1,e⟩:=by simp only[OpR.did,ta h2.tasks]
   rw[he];obtain⟨b1,b2,b3,b4,b5⟩:=aL2 (s:=0) (b:=back) (l:=left) h1 hu ht hf
   refine⟨b1,fun i hi hx hn=>b2 i hi hx (fun h=>hn (hit' h)),fun i hi=>b3 i (hit hi),h2.outs,h2.used,fun i hi h6 hx=>b4 i hi h6 (fun e=>hx (by rw[hT,e])),fun _=>?_,fun h=>absurd rfl h⟩
   rw[hT,b5];intro e;rw[<-e]at hv;exact hv h3
end Go.Abs
namespace Go.Proofs.YtmafmhjndjmalaaGreat
open Go.Abs Go.Proofs Tryz
variable {a:Nat}{p:aF}{w:aA}
theorem aW3 (hg:bM p w=true)(ha:a<w.tasks.length):aVq w a (bB p w a):=by
 have hgw:dG p w=true:=by simp only[bM,bQj]at hg;exact hg.2
 have hia:inR (a:Int) 0 ((w.tasks.length:Int)-1)=true:=by simp only[inR,bT8];omega
 have htk:=(cD.1 hgw).2.2.2.2.1;simp only[gJ,bQj]at htk;obtain⟨hd1,_⟩:=nL w _ _ htk.2;have hti:=hd1 _ (aBh hia);simp only[inR,bT8]at hti;obtain⟨t,hT⟩:=bRn hti.1.1;rw[hT]at hti;have ht:t<w.objs.length:=by omega
 have hf:(w.obj (t:Int)).form=6:=D_o hti.2;have hin:vZ w:=fun o ho x hx=>aSc hg o ho x ((aKj _ _).2 hx)
 have hu: ∀v∈((w.obj (t:Int)).frames.getD ((w.obj (t:Int)).frames.length-1) dV).vals,v.kind=5->inR v.n 0 ((w.objs.length:Int)-1)=true:=fun v hv h5=>by
  have hfl:0<(w.obj (t:Int)).frames.length:=by
   cases hfr:(w.obj (t:Int)).frames with
   |nil=>rw[hfr]at hv;cases hv
   |cons=>simp
  rw[bQn,bRq (by omega)]at hv
  have hom:w.obj (t:Int)∈w.objs:=by rw[rF ht];exact bQr _
  exact hin _ hom _ (aQc (bSe _ (bRx.2 ⟨_,bQr _,bSe _ hv⟩)) h5)
 have hu0:(aE ((w.obj (t:Int)).frames.getD ((w.obj (t:Int)).frames.length-1) dV).vals 0).kind=5->inR (aE ((w.obj (t:Int)).frames.getD ((w.obj (t:Int)).frames.length-1) dV).vals 0).n 0 ((w.objs.length:Int)-1)=true:=by
  generalize ((w.obj (t:Int)).frames.getD ((w.obj (t:Int)).frames.length-1) dV).vals=vs at hu⊢;cases vs with
  |nil=>intro h;exact absurd (show(0:Int)=5 from h) (of_decide_eq_false rfl)
  |cons v vs=>exact hu v (by simp)
 have hcalm:=tM (p:=p) (w:=w) (a:=(a:Int)) (by omega) hia
 revert hcalm
 unfold bB;simp only[hT];intro hcalm;split
 ·exact⟨bQk _,fun i hi _ _=>⟨hi,rfl⟩,fun i hi=>by rcases hi with h|h<;>exact absurd (show(0:Int)=_ from h.1) (of_decide_eq_false rfl),.inr ⟨by show¬(0:Int)=24;decide,rfl⟩,.inr ⟨by show¬(0:Int)=25;decide,rfl⟩,fun _ _ _ _=>rfl,fun h=>absurd (show(2:Int)=1 from h) (of_decide_eq_false rfl),fun _=>rfl⟩
 rename_i hn;have hn:(w.obj (t:Int)).n=0:=Decidable.not_not.1 hn;have z16: ∀i:Nat,¬(((0:Int)=16/\ i=w.objs.length) \/((0:Int)=18/\ (i:Int)=(aE ((w.obj (t:Int)).frames.getD ((w.obj (t:Int)).frames.length-1) dV).vals 0).n)):=fun i h=>by rcases h with h|h<;>exact absurd h.1 (of_decide_eq_false rfl)
 split
 ·rename_i h1;split
  ·obtain⟨b1,b2,b3,b4,b5⟩:=aL2 (s:=1) (b:=[aE (w.obj (t:Int)).vals 0]) (l:=[]) (tN (w:=w) (w':=w) rfl) hu0 ht hf
   refine⟨b1,fun i hi h3 _=>b2 i hi h3 (z16 i),fun i hi=>by rcases hi with h|h<;>exact absurd (show(0:Int)=_ from h.1) (of_decide_eq_false rfl),.inr ⟨by show¬(0:Int)=24;decide,rfl⟩,.inr ⟨by show¬(0:Int)=25;decide,rfl⟩,fun i hi h6 hx=>b4 i hi h6 (fun e=>hx (by rw[hT,e])),fun _=>?_,fun h=>absurd rfl h⟩
   rw[hT];simp only;rw[b5];intro e;rw[<-e]at hn;exact absurd hn (of_decide_eq_false rfl)
  ·obtain⟨b1,b2,b3,b4,b5⟩:=aL2 (s:=0) (b:=[]) (l:=aA2 (w.obj (t:Int)).frames (aE (w.obj (t:Int)).vals 0)) (tN (w:=w) (w':=w) rfl) hu0 ht hf;exact⟨b1,fun i hi h3 _=>b2 i hi h3 (z16 i),fun i hi=>by rcases hi with h|h<;>exact absurd (show(0:Int)=_ from h.1) (of_decide_eq_false rfl),.inr ⟨by show¬(0:Int)=24;decide,rfl⟩,.inr ⟨by show¬(0:Int)=25;decide,rfl⟩,fun i hi h6 hx=>b4 i hi h6 (fun e=>hx (by rw[hT,e])),fun h=>absurd (show(0:Int)=1 from h) (of_decide_eq_false rfl),fun _=>rfl⟩
 rename_i hv;split
 ·rw[qM];exact bC5 hT ht hf hia hn hv _ rfl hu0 aL1 xV
 ·unfold qL;rw[xO hia];exact bC5 hT ht hf hia hn hv _ rfl hu0 bFg aLm
structure aCx (w w':aA):Prop where
 len:w.objs.length<=w'.objs.length
 outs:w'.outs=w.outs
 used:w'.used=w.used
 old: ∀i:Nat,i<w.objs.length->(w.obj i).form=3->w'.obj i=w.obj i
 new: ∀i:Nat,i<w'.objs.length->(w'.obj i).form=3->i<w.objs.length/\ w'.obj i=w.obj i
theorem aCx.refl (w:aA):aCx w w:=⟨bQk _,rfl,rfl,fun _ _ _=>rfl,fun _ h _=>⟨h,rfl⟩⟩
theorem aCx.trans {a b c:aA}(h:aCx a b)(k:aCx b c):aCx a c:=
 ⟨bQv h.len k.len,k.outs.trans h.outs,k.used.trans h.used,fun i hi hf=>by
  have e:=h.old i hi hf;rw[k.old i (bRa hi h.len) (by rw[e];exact hf),e],fun i hi hf=>by
  obtain⟨h1,e1⟩:=k.new i hi hf;obtain⟨h2,e2⟩:=h.new i h1 (by rw[<-e1];exact hf)
  exact⟨h2,e1.trans e2⟩⟩
theorem bFi (hg:bM p w=true)(ha:a<w.tasks.length): ∃t:Nat,aZ w a=(t:Int)/\ t<w.objs.length/\ (w.obj t).form=6:=by
 have hgw:dG p w=true:=by simp only[bM,bQj]at hg;exact hg.2
 have hia:inR (a:Int) 0 ((w.tasks.length:Int)-1)=true:=by simp only[inR,bT8];omega
 have htk:=(cD.1 hgw).2.2.2.2.1;simp only[gJ,bQj]at htk;obtain⟨hd1,_⟩:=nL w _ _ htk.2;have hti:=hd1 _ (aBh hia);simp only[inR,bT8]at hti;obtain⟨t,hT⟩:=bRn hti.1.1;rw[hT]at hti;exact⟨t,hT,by omega,D_o hti.2⟩
theorem aZm (hg:bM p w=true)(ha:a<w.tasks.length)(h0:(bB p w a).what=0):aCx w (bB p w a).w:=by
 have hs:=aW3 hg ha;have hia:inR (a:Int) 0 ((w.tasks.length:Int)-1)=true:=by simp only[inR,bT8];omega
 obtain⟨t,hT,ht,hf⟩:=bFi hg ha;obtain⟨c,_⟩:=tM (p:=p) (w:=w) (a:=(a:Int)) (by omega) hia
 obtain⟨_,_,c2,c3,c4,_,c6⟩:=c h0
 refine⟨c2,c4,c6,fun i hi h3=>c3 i hi fun e=>?_,fun i hi h3=>hs.cell i hi h3 fun h=>?_⟩
 ·obtain rfl:i=t:=by omega
  rw[hf]at h3;exact absurd h3 (by decide)
 ·have:=hs.act0 (by rw[h0];decide)
  rcases h with h|h<;>(rw[this]at h;exact absurd h.1 (by decide))
theorem aOb {p:aF}{b:Nat}: ∀(k:Nat) {w:aA},bM p w=true->b<w.tasks.length->aCx w (cU p b k w).1/\ bM p (cU p b k w).1=true
 |0,w,hg,hb=>by rw[cU];split<;>exact⟨.refl w,hg⟩
 |k+1,w,hg,hb=>by
  rw[cU];split
  ·rename_i h0;obtain⟨g1,g2,_⟩:=aDp hg hb;have:=aOb k g1 (by rw[(g2 h0).2];exact hb)
   exact⟨(aZm hg hb h0).trans this.1,this.2⟩
  ·exact⟨.refl w,hg⟩
theorem aL3 {p:aF}: ∀(n b:Nat) {w:aA} {s:Nat},bM p w=true->aCx w (eD p n b w s).1
 |0,_,w,_,_=> .refl w
 |n+1,b,w,s,hg=>by
  rw[eD];split
  ·rename_i hb;obtain⟨i1,i2⟩:=aOb (5000-s) hg hb;split
   ·exact i1.trans (aL3 n (b+1) i2)
   ·exact i1
  ·exact .refl w
structure bC6 (p:aF) (w:aA) (k:Int) (a:Nat):Prop where
 lt:a<w.tasks.length
 pick:lD p w k=(a:Int)
 what:(bB p w a).what=1
 ev:(cQ p w k).2.1=(bB p w a).e
 task:(bB p w a).e.task=(a:Int)
 step:aVq w a (bB p w a)
 mid:bM p (bB p w a).w=true
 fine:(aT p (bB p w a).w 1).2.2=true
 world:(cQ p w k).1=(aT p (bB p w a).w 1).1
 rest:aCx (bB p w a).w (cQ p w k).1
 calm:sL p (cQ p w k).1 (cQ p w k).1.tasks.length
theorem aW4 {k:Int}(hg:bM p w=true)(hc:sL p w w.tasks.length)(h0:(cQ p w k).2.2=0): ∃a,bC6 p w k a:=by
 have hs:aT p w 0=(w,0,true):=aFs hc 121 0 0;obtain⟨_,e2,e3,_⟩:=aLv h0;obtain⟨t1,t2,t3⟩:=aZj hg h0;rw[hs]at e2 e3 t1 t2 t3
 simp only at e2 e3 t1 t2 t3
 have hw:(aT p (bB p w (lD p w k)).w 1).2.2=true/\ (cQ p w k).1=(aT p (bB p w (lD p w k)).w 1).1:=by
  have hd:(eL p w k).2.2.2=0/\ (cQ p w k).1=(eL p w k).1:=by
   unfold cQ at h0⊢
   simp only at h0⊢
   split at h0
   ·cases h0
   rename_i h5
   split at h0
   ·rename_i h6;exact⟨h6,by rw[if_neg h5,if_pos h6]⟩
   ·rename_i h6;exact absurd h0 h6
  rw[hd.2];have h1:=hd.1;unfold eL at h1⊢;rw[hs]at h1⊢
  simp only at h1⊢
  rw[if_neg (by decide)]at h1⊢
  split at h1
  ·cases h1
  rename_i hr;rw[if_neg hr]
  split at h1
  ·cases h1
  rename_i hq;rw[if_neg hq]
  refine⟨?_,rfl⟩
  cases hb:(aT p (bB p w (lD p w k)).w 1).2.2 with
  |true=>rfl
  |false=>exact absurd (.inl hb) hq
 simp only[inR,bT8]at e2;obtain⟨a,ha⟩:=bRn e2.1;rw[ha]at e2 e3 t1 t2 t3 hw;have hal:a<w.tasks.length:=by omega
 refine⟨a,hal,ha,t2,e3,by rw[<-e3];exact t1,aW3 hg hal,t3,hw.1,hw.2,?_,?_⟩
 ·rw[hw.2];exact aL3 121 0 t3
 ·rw[hw.2];exact(wD t3 hw.1).2
variable {i m:Nat}{ks:List Int}{every:Int}
section
variable (h:kI p w ks every m)(hc:sL p w w.tasks.length)
include h hc
theorem kI.calm : ∀i,i<=m->sL p (wAt p w ks i) (wAt p w ks i).tasks.length
 |0,_=>hc
 |i+1,hi=>by
  obtain⟨a,ha⟩:=aW4 (pO (ks:=ks) h.g i) (kI.calm i (by omega)) (h.ok i (by omega))
  exact ha.calm
theorem kI.turn (hi:i<m): ∃a,bC6 p (wAt p w ks i) (ks.getD i 0) a:=aW4 (pO (ks:=ks) h.g i) (h.calm hc i (by omega)) (h.ok i hi)
end
section
variable (h:kI p w ks every m)
include h
theorem kI.more (count:aA->Int)(n:Int): ∀(k t:Nat),t+k=m->
  (∃u,t<=u/\ u<m/\ lE p (lG p w ks every m) count n t k=((u:Int),0)/\ n<count (wAt p w ks (u+1))/\ ∀i,t<=i->i<u->count (wAt p w ks (i+1))<=n) \/
  (lE p (lG p w ks every m) count n t k=(0,5)/\ ∀i,t<=i->i<m->count (wAt p w ks (i+1))<=n)
 |0,t,hk=> .inr ⟨rfl,fun i h1 h2=>by omega⟩
 |k+1,t,hk=>by
  rw[lE,h.at_ (by omega),if_pos rfl]
  by_cases hn:n<count (wAt p w ks (t+1))
  ·rw[if_pos hn];exact .inl ⟨t,bQk _,by omega,rfl,hn,fun i h1 h2=>by omega⟩
  ·rw[if_neg hn];rcases kI.more count n k (t+1) (by omega)with⟨u,h1,h2,h3,h4,h5⟩|⟨h1,h2⟩
   ·refine .inl ⟨u,by omega,h2,h3,h4,fun i hi hu=>?_⟩
    rcases bRs t i with hx|hx
    ·exact h5 i hx hu
    ·obtain rfl:i=t:=by omega
     exact bSy.1 hn
   ·refine .inr ⟨h1,fun i hi hu=>?_⟩
    rcases bRs t i with hx|hx
    ·exact h2 i hx hu
    ·obtain rfl:i=t:=by omega
     exact bSy.1 hn
theorem kI.moreX (count:aA->Int)(hm: ∀i,i<m->count (wAt p w ks i)<=count (wAt p w ks (i+1)))(n:Int):
  (∃u,u<m/\ moreX p (lG p w ks every m) count n=((u:Int),0)/\ count (wAt p w ks u)<=n/\ n<count (wAt p w ks (u+1))/\ count w<=n/\ n<count (wAt p w ks m)) \/
  (moreX p (lG p w ks every m) count n=(0,5)/\ ¬(count w<=n/\ n<count (wAt p w ks m))):=by
 have mono: ∀b,b<=m-> ∀a,a<=b->count (wAt p w ks a)<=count (wAt p w ks b):=by
  intro b
  induction b with
  |zero=>intro _ a ha;obtain rfl:a=0:=by omega
         exact bS9 _
  |succ b ih=>
   intro hb a ha;rcases bRs a (b+1)with hx|hx
   ·exact Int.le_trans (ih (by omega) a (by omega)) (hm b (by omega))
   ·obtain rfl:a=b+1:=by omega
    exact bS9 _
 have h0:sJ (lG p w ks every m) 0=w:=by
  have:=h.mark (j:=0) (bQt _);rw[Nat.zero_mul]at this;exact this
 unfold Go.Proofs.YtmafmhjndjmalaaGreat.moreX;rw[h0,h.len]
 by_cases hn:n<count w
 ·rw[if_pos hn];exact .inr ⟨rfl,fun x=>by omega⟩
 ·rw[if_neg hn];rcases h.more count n m 0 (by omega)with⟨u,_,h2,h3,h4,h5⟩|⟨h1,h2⟩
  ·refine .inl ⟨u,h2,h3,?_,h4,by omega,Int.lt_of_lt_of_le h4 (mono m (bQk m) (u+1) (by omega))⟩
   cases u with
   |zero=>exact bSy.1 hn
   |succ u=>exact h5 u (by omega) (by omega)
  ·refine .inr ⟨h1,fun x=>?_⟩
   have hx:count (wAt p w ks m)<=n:=by
    cases hmm:m with
    |zero=>exact bSy.1 hn
    |succ u=>exact h2 u (by omega) (by omega)
   omega
theorem kI.find (c:fG): ∀(k t:Nat),t+k=m+1->
  (∃u,t<=u/\ u<=m/\ mJ p (lG p w ks every m) c t k=((u:Int),0)/\ lF (wAt p w ks u) c=true/\ ∀i,t<=i->i<u->lF (wAt p w ks i) c=false) \/
  (mJ p (lG p w ks every m) c t k=(0,5)/\ ∀i,t<=i->i<=m->lF (wAt p w ks i) c=false)
 |0,t,hk=> .inr ⟨rfl,fun i h1 h2=>by omega⟩
 |k+1,t,hk=>by
  rw[mJ,h.at_ (by omega),if_pos rfl]
  by_cases hn:lF (wAt p w ks t) c=true
  ·rw[if_pos hn];exact .inl ⟨t,bQk _,by omega,rfl,hn,fun i h1 h2=>by omega⟩
  ·rw[if_neg hn];have hn:lF (wAt p w ks t) c=false:=by simpa using hn
   rcases kI.find c k (t+1) (by omega)with⟨u,h1,h2,h3,h4,h5⟩|⟨h1,h2⟩
   ·refine .inl ⟨u,by omega,h2,h3,h4,fun i hi hu=>?_⟩
    rcases bRs t i with hx|hx
    ·exact h5 i hx hu
    ·obtain rfl:i=t:=by omega
     exact hn
   ·refine .inr ⟨h1,fun i hi hu=>?_⟩
    rcases bRs t i with hx|hx
    ·exact h2 i hx hu
    ·obtain rfl:i=t:=by omega
     exact hn
variable (hc :sL p w w.tasks.length)
include hc
theorem kI.outs (hi:i<m):((tAt p w ks i).2.1.act=24/\ (wAt p w ks (i+1)).outs=(wAt p w ks i).outs++[⟨(tAt p w ks i).2.1.n,(tAt p w ks i).2.1.v.n⟩]) \/(wAt p w ks (i+1)).outs=(wAt p w ks i).outs:=by
 obtain⟨a,ha⟩:=h.turn hc hi;have e:(tAt p w ks i).2.1=(bB p (wAt p w ks i) a).e:=ha.ev;have e2:(wAt p w ks (i+1)).outs=(bB p (wAt p w ks i) a).w.outs:=ha.rest.outs;rw[e,e2];rcases ha.step.outs with hx|hx
 ·exact .inl hx
 ·exact .inr hx.2
theorem kI.used (hi:i<m):((tAt p w ks i).2.1.act=25/\ (wAt p w ks (i+1)).used=(wAt p w ks i).used+1) \/(wAt p w ks (i+1)).used=(wAt p w ks i).used:=by
 obtain⟨a,ha⟩:=h.turn hc hi;have e:(tAt p w ks i).2.1=(bB p (wAt p w ks i) a).e:=ha.ev;have e2:(wAt p w ks (i+1)).used=(bB p (wAt p w ks i) a).w.used:=ha.rest.used;rw[e,e2];rcases ha.step.used with hx|hx
 ·exact .inl hx
 ·exact .inr hx.2
theorem kI.objs (hi:i<m):(wAt p w ks i).objs.length<=(wAt p w ks (i+1)).objs.length:=by
 obtain⟨a,ha⟩:=h.turn hc hi;exact bQv ha.step.len ha.rest.len
theorem kI.outs_pre : ∀(k i:Nat),i+k<=m->(wAt p w ks i).outs<+:(wAt p w ks (i+k)).outs
 |0,i,_=>bR7 _
 |k+1,i,hk=>by
  refine List.IsPrefix.trans ?_ (show(wAt p w ks (i+1)).outs<+:(wAt p w ks (i+(k+1))).outs by
   have:=kI.outs_pre k (i+1) (by omega);rw[show i+1+k=i+(k+1)by omega]at this;exact this)
  rcases h.outs hc (i:=i) (by omega)with⟨_,e⟩|e
  ·rw[e];exact List.prefix_append _ _
  ·rw[e];exact bR7 _
end
section
variable (h:kI p w ks every m)(hc:sL p w w.tasks.length)
include h hc
end
set_option maxRecDepth 100000
set_option maxHeartbeats 4000000
theorem aTo (hw:bM p w=true): ∀o∈w.objs,o.form=3->o.n=0/\ o.vals.length=1/\ o.frames=[]:=by
 simp only[bM,bQj]at hw;obtain⟨_,_,_,_,h5,h6,_⟩:=cD.1 hw.2;intro o ho h3;have:=h6 o ho;simp only[dI,h3,show¬(3:Int)=6 by decide,show¬(3:Int)=5 by decide,show¬(3:Int)=1 by decide,show¬(3:Int)=2 by decide,if_false,if_true]at this
 split at this
 ·cases this
 ·rename_i hf;have hf:(o.frames.length:Int)=0:=Decidable.not_not.1 hf;simp only[bQj,bT8]at this;exact⟨this.1.1,by omega,List.eq_nil_of_length_eq_zero (by omega)⟩
theorem bFj {o:aN}(h:o.form=3->o.n=0/\ o.vals.length=1/\ o.frames=[])(v:aD):decide (o=⟨3,0,[v],[]⟩)=(decide (o.form=3)&&decide (aE o.vals 0=v)):=by
 obtain⟨f,n,vs,fr⟩:=o;rw[bSw];simp only[bT8,bQj,aN.mk.injEq];constructor
 ·rintro⟨rfl,_,rfl,_⟩;exact⟨rfl,rfl⟩
 ·rintro⟨rfl,h2⟩
  obtain⟨rfl,h3,rfl⟩:=h rfl
  simp only at h3
  match vs,h3 with
  |[x],_=>exact⟨rfl,rfl,by rw[<-h2];rfl,rfl⟩
theorem aQh (hsp:aS p=true)(hg:bM p w=true)(c:fG)(hwh:mW c=true):PC L 28 [.agg w.cs,c.enc] (.bool (lF w c)):=by
 have hf:=sE hsp hg;have hi:=(aTj hg).1;have hc:=aTo hg
 refine pcA func28 ?_
 unfold lF
 by_cases h1:c.kind=1
 ·rw[if_pos h1]
  by_cases hn:0<=c.n
  case neg=>
   rw[show inR c.n 0 ((w.objs.length:Int)-1)=false by simp only[inR,bT9];omega]
   simp only[go_sem,kK,fG.enc,D_t h1,kF]
   refine aG ?_
   simp only[go_sem,D_f hn,bRy,kA,kF]
  by_cases hl:c.n<(w.objs.length:Int)
  case neg=>
   rw[show inR c.n 0 ((w.objs.length:Int)-1)=false by simp only[inR,bT9];omega]
   simp only[go_sem,kK,fG.enc,D_t h1,kF]
   refine aG ?_
   simp only[go_sem,D_t hn,D_f hl,bQl,bRy,kA,kF]
  rw[show inR c.n 0 ((w.objs.length:Int)-1)=true by simp only[inR,bT8];omega]
  obtain⟨m,hm⟩:=bRn hn;have hml:m<w.objs.length:=by omega
  have hS:=aKc w.objs[m] ⟨3,0,[c.v],[]⟩ (hf.obj _ (bQr hml));rw[bFj (hc _ (bQr hml))]at hS;simp only[bRj,bQ1,aD.enc]at hS;rw[hm,rF hml];rw[hm]at hn hl;simp only[go_sem,kK,fG.enc,D_t h1,kF]
  refine aG ?_
  simp only[go_sem,hm,D_t hn,bQl,hml,aTg,bC1,hS.ret,bRy,bRp,decide_true,kA,kF]
 rw[if_neg h1]
 by_cases h2:c.kind=2
 ·rw[if_pos h2];simp only[go_sem,kK,fG.enc,D_f h1,D_t h2,bQl,kF]
 rw[if_neg h2]
 by_cases h3:c.kind=3
 ·rw[if_pos h3]
  by_cases hn:0<=c.n
  case neg=>
   rw[show inR c.n 0 ((w.tasks.length:Int)-1)=false by simp only[inR,bT9];omega]
   simp only[go_sem,kK,fG.enc,h3,D_f hn,bQ7,kF]
  by_cases hl:c.n<(w.tasks.length:Int)
  case neg=>
   rw[show inR c.n 0 ((w.tasks.length:Int)-1)=false by simp only[inR,bT9];omega]
   simp only[go_sem,kK,fG.enc,h3,D_t hn,D_f hl,bQl,bQ7,kF]
  rw[show inR c.n 0 ((w.tasks.length:Int)-1)=true by simp only[inR,bT8];omega]
  obtain⟨m,hm⟩:=bRn hn;have hml:m<w.tasks.length:=by omega
  have ha:=hi _ (bQr hml);have ht:aZ w m=w.tasks[m]:=by simp[aZ,hml]
  simp only[inR,bT8]at ha;obtain⟨j,hj⟩:=bRn ha.1;have hj':j<w.objs.length:=by omega
  rw[hm,ht,hj,rF hj'];rw[hm]at hn hl;simp only[go_sem,kK,fG.enc,h3,hm,D_t hn,bQl,hml,hj,hj',bQ9,decide_true,kF]
 ·rw[if_neg h3];have h4:c.kind=4:=by
   simp only[mW,bQj,bT8]at hwh;omega
  simp only[go_sem,kK,fG.enc,D_f h1,D_f h2,D_t h4,bQl,kF]
def wsL (p:aF)(w:aA)(ks:List Int)(n:Nat):List Val:=(List.range n).map fun i=>aA.enc (wAt p w ks i)
variable {n:Nat}
theorem aDq (h:i<n):(wsL p w ks n)[i]?=some (.agg (wAt p w ks i).cs):=by simp[wsL,h,aA.enc]
theorem aVr :(wsL p w ks n).length=n:=by simp[wsL]
theorem bFk :wsL p w ks (n+1)=wsL p w ks n++[.agg (wAt p w ks n).cs]:=by
 unfold wsL;rw[bTp,bRl];rfl
theorem aGv {L:bG}{b t:Bool}{l l':List aL}{st st':St}{K:St->Prop}(M:St->Prop)(h:nB (.bool b) t (gD L l st M) (gD L l' st' M) .mk)(k: ∀fr en cnt,M ⟨fr,en,cnt⟩->K ⟨fr,en,cnt⟩):nB (.bool b) t (gD L l st K) (gD L l' st' K) .mk:=by
 cases b<;>cases t<;>exact bBj M h k
variable {en:En}{k:Nat}
theorem bFl {l:List bL}{o:bL}(h:l[k]?=some o):mA 2 en (.fz (l.map bL.enc)) (.i (k:Int))=some {v:= .fp [.i o.port,.i o.n] 0}:=by
 simp[mA,h,bL.enc];exact⟨rfl,rfl⟩
theorem bC7 {l:List gS}{e:gS}(h:l[k]?=some e):mA 5 en (.fz (l.map evV)) (.i (k:Int))=some {v:= .fp [.i e.task,.i e.act,.i e.n,.i e.v.kind,.i e.v.n] 0}:=by
 simp[mA,h,evV];exact⟨rfl,rfl⟩
theorem bC8 {a b:Int}:cX .neq (.agg [.num,.num]) (.agg [.i a,.i b]) (.agg [.i a,.i b])=some (.bool false):=by simp[cX,pE,jJ,yB]
section
variable (h:kI p w ks every m)
include h
theorem kI.firstX (count:aA->Int)(hm: ∀i,i<m->count (wAt p w ks i)<=count (wAt p w ks (i+1))){n:Int}(hn:0<=n):
  (∃u,u<m/\ firstX p (lG p w ks every m) count n=((u:Int),0)/\ count (wAt p w ks u)<=n/\ n<count (wAt p w ks (u+1))/\ count w<=n/\ n<count (wAt p w ks m)) \/
  (firstX p (lG p w ks every m) count n=(0,5)/\ ¬(count w<=n/\ n<count (wAt p w ks m))):=by
 have:=h.moreX count hm n;unfold Go.Proofs.YtmafmhjndjmalaaGreat.firstX;rw[if_pos ⟨h.log,hn⟩];exact this
end
set_option maxHeartbeats 8000000 in
theorem aL4 (hk:PC L 9 [] (.bool true))(hpf:p.few)(hwf:w.few)(ks:List Int)(every n:Int)(c:fG):PC L 5 [.agg p.cs,.agg w.cs,.is ks,.i every,.i n,.agg [.i c.kind,.i c.n,.i c.v.kind,.i c.v.n]] (.bool true):=by
 have hG:=aQf hpf hwf ks every
 refine pcA func5 ?_
 cases hgv:aL0 p w ks every with
 |false=>
  rw[hgv]at hG;simp only[go_sem,kK,hG.ret,hk.ret,bQ5,kF]
 |true=>
 rw[hgv]at hG;obtain⟨hsp,hg,hks,e1,e2⟩:=aTn hgv;rcases aTl hpf hwf hsp (ks:=ks) (by omega) hg e1 e2 with⟨hs,hM⟩|⟨hs,m,hm,hend,hM⟩
 ·simp only[zT,cG.cs]at hM;simp only[go_sem,kK,hG.ret,hM.ret,hk.ret,bQ0,bQ5,kF]
 have hc:=(wD hg hs).2;have hPl:=fun{n:Nat} (h:kI p (aT p w 0).1 ks every n)=>aTm hsp hg hs h
 simp only[Val.is,bSc]at hPl;have hlf:=hm.few hsp;have hml:=hm.le;have hm2:=hm.m200;have hlen:(xZ p (aT p w 0).1 ks m).length=m:=aIs
 by_cases hn:0<=n
 case neg=>simp only[go_sem,kK,hG.ret,hM.ret,hk.ret,D_t (Int.not_le.1 hn),bQ0,kF]
 obtain⟨k,rfl⟩:=bRn hn;have hw1:IntKind.i64.wrap ((m:Int)+1)=((m+1:Nat):Int):=by rw[aV (by omega)];rfl
 simp only[go_sem,kK,hG.ret,hM.ret,D_f (bSy.2 hn),bQl,hlen,hw1,bQ0,kF];have hS:=aLt hpf hlf hsp k;have hR:=aLu hpf hlf hsp k;have hB:=aQa hpf hlf hsp k;have hF:=aQb hpf hlf hsp 0 c;have hWh:=aTi c;have hH:=fun(hw:mW c=true) i=>aQh hsp (pO (ks:=ks) hm.g i) c hw
 have s1:=hm.firstX (fun w=>(w.outs.length:Int)) (fun i hi=>by rcases hm.outs hc hi with⟨_,e⟩|e<;>simp[e];omega) hn
 have s2:=hm.firstX (fun w=>w.used) (fun i hi=>by rcases hm.used hc hi with⟨_,e⟩|e<;>simp[e];omega) hn
 have s3:=hm.firstX (fun w=>(w.objs.length:Int)) (fun i hi=>by have:=hm.objs hc hi;simp;exact this) hn
 have o1:=fun i (hi:i<m)=>hm.outs hc hi
 have o2:=fun i (hi:i<m)=>hm.used hc hi
 have o3:=fun(k i:Nat) (h:i+k<=m)=>hm.outs_pre hc k i h
 have hfd:=hm.find c (m+1) 0 (by omega)
 rw[show aTc p (lG p (aT p w 0).1 ks every m) 0 c=if mW c=true then mJ p (lG p (aT p w 0).1 ks every m) c 0 (m+1)else(0,2)by
  unfold aTc bCn;simp only[hm.log,hm.len,true_and]
  by_cases hw:mW c=true
  ·rw[if_pos ⟨⟨by omega,by omega⟩,hw⟩,if_pos hw];rfl
  ·rw[if_neg (fun h=>hw h.2),if_neg hw]]at hF
 simp only[fG.enc]at hF hWh hH;generalize hl:lG p (aT p w 0).1 ks every m=l at*;generalize hw0:(aT p w 0).1=w0 at*
 refine bQ (m+1) (fun j st=> ∃fr en cnt,st=⟨fr,en,cnt⟩/\ fr 2= .is ks/\ fr 3= .i every/\ fr 4= .i (k:Int)/\ fr 6= .ptr ⟨0,6,0⟩ 0/\ fr 7= .ptr ⟨0,7,0⟩ 0/\ fr 11= .ptr ⟨0,11,0⟩ 0/\ fr 13= .ptr ⟨0,13,0⟩ 0/\ fr 14= .fz ((xZ p w0 ks m).map evV)/\ fr 68= .i ((m+1:Nat):Int)/\ fr 69= .i (j:Int)/\
   en ⟨0,6,0⟩=some (.box p.cs false)/\ en ⟨0,7,0⟩=some (.box w.cs false)/\ en ⟨0,11,0⟩=some (.box [.i c.kind,.i c.n,.i c.v.kind,.i c.v.n] false)/\ en ⟨0,13,0⟩=some (.box l.cs false)/\ cR en (fr 17) 5 (wsL p w0 ks j) [87]) 0 (bQt _) (by refine⟨_,_,_,rfl,?_,?_,?_,?_,?_,?_,?_,?_,?_,?_,?_,?_,?_,?_,by simp only[go_sem];exact cR.nil _ _⟩<;>simp only[go_sem]) ?_
 rintro j st hj ⟨fr,en,cnt,rfl,f2,f3,f4,f6,f7,f11,f13,f14,f68,f69,e6,e7,e11,e13,hMi⟩
 by_cases hjm:j<=m
 case pos=>
  have hP:=hPl (hm.le' hjm);simp only[go_sem,kK,f68,f69,D_t (show j<m+1 by omega)]
  refine aG ?_
  simp only[go_sem,kK,f2,f6,f7,e6,e7,bQl,show j<=ks.length by omega,hP.ret,bQ0,bQ9,bRy,bRp,decide_true,kA,kF]
  refine jZ (D:=[87]) (xs:=wsL p w0 ks j) (ys:=[.agg (wAt p w0 ks j).cs]) (rs:=[]) ?_ ?_ rfl ?_ ?_
  ·simp only[go_sem];exact hMi.keep fun t g ht=>by simp at ht;subst ht;simp only[go_sem]
  ·simp only[go_sem]
  ·rw[aVr];simp;omega
  intro v' en' cnt' hown hen hcnt;rw[<-bFk]at hown;have k6:=(hen 0 6 0 (.inr ⟨by decide,by simp⟩)).trans (by simp only[go_sem,e6]:_=some (.box p.cs false))
  have k7:=(hen 0 7 0 (.inr ⟨by decide,by simp⟩)).trans (by simp only[go_sem,e7]:_=some (.box w.cs false))
  have k11:=(hen 0 11 0 (.inr ⟨by decide,by simp⟩)).trans (by simp only[go_sem,e11]:_=some (.box [.i c.kind,.i c.n,.i c.v.kind,.i c.v.n] false))
  have k13:=(hen 0 13 0 (.inr ⟨by decide,by simp⟩)).trans (by simp only[go_sem,e13]:_=some (.box l.cs false))
  have hw2:IntKind.i64.wrap ((j:Int)+1)=((j+1:Nat):Int):=by rw[aV (by omega)];rfl
  simp only[go_sem,f69,hw2]
  refine⟨by omega,_,_,_,rfl,by simp only[go_sem,f2],by simp only[go_sem,f3],by simp only[go_sem,f4],by simp only[go_sem,f6],by simp only[go_sem,f7],by simp only[go_sem,f11],by simp only[go_sem,f13],by simp only[go_sem,f14],by simp only[go_sem,f68],by simp only[go_sem],by simp only[go_sem,k6],by simp only[go_sem,k7],by simp only[go_sem,k11],by simp only[go_sem,k13],?_⟩
  simp only[go_sem];exact hown.sub (by simp)
 obtain rfl:j=m+1:=by omega
 obtain⟨g,fz,f17,e17⟩: ∃g fz,fr 17= .bl ⟨0,87,g⟩ 0 (m+1)/\ en ⟨0,87,g⟩=some (.blk 5 (wsL p w0 ks (m+1)) fz):=by
  rcases hMi with⟨_,h⟩|⟨t,g,fz,h1,h2,h3⟩
  ·have:=congrArg List.length h;rw[aVr]at this;cases this
  ·simp at h3;subst h3
   exact⟨g,fz,by rw[h1,aVr],h2⟩
 clear hMi;have wm:=aDq (p:=p) (w:=w0) (ks:=ks) (show m<m+1 by omega)
 have wz:(wsL p w0 ks (m+1))[0]?=some (.agg w0.cs):=aDq (p:=p) (w:=w0) (ks:=ks) (show 0<m+1 by omega)
 have im:(0:Int)<=(m:Int)/\ m<m+1:=by omega
 have iz:(0:Int)<((m+1:Nat):Int):=by omega
 simp only[go_sem,kK,f4,f6,f13,f14,f68,f69,e6,e13,D_f (bS1 (m+1)),f17,e17,im,iz,bRh,bS9,true_and,bQl,hlen,wm,wz,hS.ret,kF]
 refine aGv (fun st=>(st.fr 4= .i (k:Int)/\ st.fr 6= .ptr ⟨0,6,0⟩ 0/\ st.fr 11= .ptr ⟨0,11,0⟩ 0/\ st.fr 13= .ptr ⟨0,13,0⟩ 0/\ st.fr 14= .fz ((xZ p w0 ks m).map evV)/\ (∃g2,st.fr 22= .ptr ⟨0,22,g2⟩ 0/\ st.en ⟨0,22,g2⟩=some (.box (wAt p w0 ks m).cs false))/\ st.en ⟨0,6,0⟩=some (.box p.cs false)/\ st.en ⟨0,11,0⟩=some (.box [.i c.kind,.i c.n,.i c.v.kind,.i c.v.n] false)/\ st.en ⟨0,13,0⟩=some (.box l.cs false)/\ ∃g fz,st.fr 17= .bl ⟨0,87,g⟩ 0 (m+1)/\ st.en ⟨0,87,g⟩=some (.blk 5 (wsL p w0 ks (m+1)) fz))/\ st.fr 23= .i (firstX p l (fun w=>(w.outs.length:Int)) k).1/\ st.fr 24= .i (firstX p l (fun w=>(w.outs.length:Int)) k).2/\ st.fr 25= .bool (decide (w0.outs.length<=k)&&decide (k<(wAt p w0 ks m).outs.length))) ?_ ?_
 ·cases hb:decide (w0.outs.length<=k)
  all_goals
   simp only[go_sem,kK,f4,f6,f11,f13,f14,e6,e11,e13,f17,bQl,bQ9,bQ7];exact⟨⟨_,rfl,by simp only[go_sem]⟩,g,fz,rfl,e17⟩
 clear f2 f3 f4 f6 f7 f11 f13 f14 f68 f69 e6 e7 e11 e13 f17 e17;clear fr en cnt g fz
 rintro fr en cnt ⟨⟨f4,f6,f11,f13,f14,⟨g2,f22,e22⟩,e6,e11,e13,g,fz,f17,e17⟩,f23,f24,f25⟩
 dsimp only at f4 f6 f11 f13 f14 f17 f22 f23 f24 f25 e6 e11 e13 e17 e22;rcases s1 with⟨u,hu,hue,a1,a2,a3,a4⟩|⟨hue,hno⟩
 case' inl=>
  rw[hue]at f23 f24;have hob:(tAt p w0 ks u).2.1.act=24/\ (wAt p w0 ks u).outs.length=k/\ (wAt p w0 ks m).outs[k]?=some ⟨(tAt p w0 ks u).2.1.n,(tAt p w0 ks u).2.1.v.n⟩:=by
   rcases o1 u hu with⟨b1,b2⟩|b2
   ·rw[b2]at a2;simp only[bQ2,bS0]at a2;have hk:(wAt p w0 ks u).outs.length=k:=by omega
    refine⟨b1,hk,?_⟩
    obtain⟨r,hr⟩:=o3 (m-(u+1)) (u+1) (by omega)
    rw[show u+1+(m-(u+1))=m by omega]at hr
    rw[<-hr,b2,<-hk,bSq (by simp)]
    simp
   ·rw[b2]at a2;omega
  obtain⟨b1,b2,b3⟩:=hob;have wu:=aDq (p:=p) (w:=w0) (ks:=ks) (show u<m+1 by omega)
  have iu:(0:Int)<=(u:Int)/\ u<m+1:=by omega
  have hev:=fun en=>bC7 (en:=en) (aW1 (p:=p) (w:=w0) (ks:=ks) hu)
  have hou:=fun en=>bFl (en:=en) b3
  rw[show(decide (w0.outs.length<=k)&&decide (k<(wAt p w0 ks m).outs.length))=true by simp only[bQj,bT8];omega]at f25
  simp only[go_sem,kK,f4,f14,f17,e17,f22,e22,f23,f24,f25,bQl,hlen,iu,bRh,wu,hev,hou,b1,b2,bC8,show¬(u:Int)<0 by omega,show¬m<=u by omega,decide_false,bQ0,decide_true,kF]
 case' inr=>
  rw[hue]at f23 f24;rw[show(decide (w0.outs.length<=k)&&decide (k<(wAt p w0 ks m).outs.length))=false by simp only[bTj,bT9];omega]at f25
  simp only[go_sem,kK,f24,f25,bQ0,bQ5,decide_true,kF]
 all_goals
  simp only[go_sem,kK,f4,f6,f13,f17,e6,e13,e17,iz,bS9,true_and,wz,hR.ret,kF]
  refine aGv (fun st=>(st.fr 4= .i (k:Int)/\ st.fr 6= .ptr ⟨0,6,0⟩ 0/\ st.fr 11= .ptr ⟨0,11,0⟩ 0/\ st.fr 13= .ptr ⟨0,13,0⟩ 0/\ st.fr 14= .fz ((xZ p w0 ks m).map evV)/\ (∃g2,st.fr 22= .ptr ⟨0,22,g2⟩ 0/\ st.en ⟨0,22,g2⟩=some (.box (wAt p w0 ks m).cs false))/\ st.en ⟨0,6,0⟩=some (.box p.cs false)/\ st.en ⟨0,11,0⟩=some (.box [.i c.kind,.i c.n,.i c.v.kind,.i c.v.n] false)/\ st.en ⟨0,13,0⟩=some (.box l.cs false)/\ ∃g fz,st.fr 17= .bl ⟨0,87,g⟩ 0 (m+1)/\ st.en ⟨0,87,g⟩=some (.blk 5 (wsL p w0 ks (m+1)) fz))/\ st.fr 26= .i (firstX p l (fun w=>w.used) k).1/\ st.fr 27= .i (firstX p l (fun w=>w.used) k).2/\ st.fr 28= .bool (decide (w0.used<=(k:Int))&&decide ((k:Int)<(wAt p w0 ks m).used))) ?_ ?_
  ·cases hb:decide (w0.used<=(k:Int))
   all_goals
    simp only[go_sem,kK,f4,f6,f11,f13,f14,f17,f22,e6,e11,e13,e22,bQ9,bQ7];exact⟨⟨_,rfl,e22⟩,g,fz,rfl,e17⟩
  clear f4 f6 f11 f13 f14 e6 e11 e13 f17 e17 f22 e22 f23 f24 f25;clear fr en cnt g fz g2
  rintro fr en cnt ⟨⟨f4,f6,f11,f13,f14,⟨g2,f22,e22⟩,e6,e11,e13,g,fz,f17,e17⟩,f23,f24,f25⟩
  dsimp only at f4 f6 f11 f13 f14 f17 f22 f23 f24 f25 e6 e11 e13 e17 e22;rcases s2 with⟨u,hu,hue,a1,a2,a3,a4⟩|⟨hue,hno⟩
  case' inl=>
   rw[hue]at f23 f24;have hob:(tAt p w0 ks u).2.1.act=25/\ (wAt p w0 ks u).used=k:=by
    rcases o2 u hu with⟨b1,b2⟩|b2
    ·rw[b2]at a2;exact⟨b1,by omega⟩
    ·rw[b2]at a2;omega
   obtain⟨b1,b2⟩:=hob;have wu:=aDq (p:=p) (w:=w0) (ks:=ks) (show u<m+1 by omega)
   have iu:(0:Int)<=(u:Int)/\ u<m+1:=by omega
   have hev:=fun en=>bC7 (en:=en) (aW1 (p:=p) (w:=w0) (ks:=ks) hu)
   rw[show(decide (w0.used<=(k:Int))&&decide ((k:Int)<(wAt p w0 ks m).used))=true by simp only[bQj,bT8];omega]at f25
   simp only[go_sem,kK,f4,f14,f17,e17,f23,f24,f25,bQl,hlen,iu,bRh,wu,hev,b1,b2,show¬(u:Int)<0 by omega,show¬m<=u by omega,decide_false,bQ0,decide_true,kF]
  case' inr=>
   rw[hue]at f23 f24;rw[show(decide (w0.used<=(k:Int))&&decide ((k:Int)<(wAt p w0 ks m).used))=false by simp only[bTj,bT9];omega]at f25
   simp only[go_sem,kK,f24,f25,bQ0,bQ5,decide_true,kF]
  all_goals
   simp only[go_sem,kK,f4,f6,f13,f17,e6,e13,e17,iz,bS9,true_and,bQl,wz,hB.ret,kF]
   refine aGv (fun st=>(st.fr 4= .i (k:Int)/\ st.fr 6= .ptr ⟨0,6,0⟩ 0/\ st.fr 11= .ptr ⟨0,11,0⟩ 0/\ st.fr 13= .ptr ⟨0,13,0⟩ 0/\ st.fr 14= .fz ((xZ p w0 ks m).map evV)/\ (∃g2,st.fr 22= .ptr ⟨0,22,g2⟩ 0/\ st.en ⟨0,22,g2⟩=some (.box (wAt p w0 ks m).cs false))/\ st.en ⟨0,6,0⟩=some (.box p.cs false)/\ st.en ⟨0,11,0⟩=some (.box [.i c.kind,.i c.n,.i c.v.kind,.i c.v.n] false)/\ st.en ⟨0,13,0⟩=some (.box l.cs false)/\ ∃g fz,st.fr 17= .bl ⟨0,87,g⟩ 0 (m+1)/\ st.en ⟨0,87,g⟩=some (.blk 5 (wsL p w0 ks (m+1)) fz))/\ st.fr 29= .i (firstX p l (fun w=>(w.objs.length:Int)) k).1/\ st.fr 30= .i (firstX p l (fun w=>(w.objs.length:Int)) k).2/\ st.fr 31= .bool (decide (w0.objs.length<=k)&&decide (k<(wAt p w0 ks m).objs.length))) ?_ ?_
   ·cases hb:decide (w0.objs.length<=k)
    all_goals
     simp only[go_sem,kK,f4,f6,f11,f13,f14,f17,f22,e6,e11,e13,e22,bQl,bQ9,bQ7];exact⟨⟨_,rfl,e22⟩,g,fz,rfl,e17⟩
   clear f4 f6 f11 f13 f14 e6 e11 e13 f17 e17 f22 e22 f23 f24 f25;clear fr en cnt g fz g2
   rintro fr en cnt ⟨⟨f4,f6,f11,f13,f14,⟨g2,f22,e22⟩,e6,e11,e13,g,fz,f17,e17⟩,f23,f24,f25⟩
   dsimp only at f4 f6 f11 f13 f14 f17 f22 f23 f24 f25 e6 e11 e13 e17 e22;rcases s3 with⟨u,hu,hue,a1,a2,a3,a4⟩|⟨hue,hno⟩
   case' inl=>
    rw[hue]at f23 f24;have wu:=aDq (p:=p) (w:=w0) (ks:=ks) (show u<m+1 by omega)
    have wv:=aDq (p:=p) (w:=w0) (ks:=ks) (show u+1<m+1 by omega)
    have iu:(0:Int)<=(u:Int)/\ u<m+1:=by omega
    have iv:(0:Int)<=((u+1:Nat):Int)/\ u+1<m+1:=by omega
    have hw3:IntKind.i64.wrap ((u:Int)+1)=((u+1:Nat):Int):=by rw[aV (by omega)];rfl
    rw[show(decide (w0.objs.length<=k)&&decide (k<(wAt p w0 ks m).objs.length))=true by simp only[bQj,bT8];omega]at f25
    simp only[go_sem,kK,f4,f14,f17,e17,f23,f24,f25,bQl,hlen,iu,iv,hw3,bRh,wu,wv,show¬k<(wAt p w0 ks u).objs.length by omega,show¬(wAt p w0 ks (u+1)).objs.length<=k by omega,show¬(u:Int)<0 by omega,show¬m<=u by omega,decide_false,bQ0,decide_true,kF]
   case' inr=>
    rw[hue]at f23 f24;rw[show(decide (w0.objs.length<=k)&&decide (k<(wAt p w0 ks m).objs.length))=false by simp only[bTj,bT9];omega]at f25
    simp only[go_sem,kK,f24,f25,bQ0,bQ5,decide_true,kF]
   all_goals
    simp only[go_sem,f11,e11,kF]
    by_cases hwo:mW c=true
    case neg=>
     rw[show mW c=false by simpa using hwo]at hWh
     simp only[go_sem,kK,hWh.ret,hk.ret,bQ5,kF]
    rw[hwo]at hWh;rw[if_pos hwo]at hF;have hH':=hH hwo;obtain⟨s,hs0,hs1,hs2,hs3⟩: ∃s,s<=m+1/\ (∀i,i<s->lF (wAt p w0 ks i) c=false)/\ (s=m+1 \/lF (wAt p w0 ks s) c=true)/\ mJ p l c 0 (m+1)=(if s=m+1 then((0:Int),(5:Int))else((s:Int),0)):=by
     rcases hfd with⟨u,_,h2,h3,h4,h5⟩|⟨h1,h2⟩
     ·exact⟨u,by omega,fun i hi=>h5 i (bQt _) hi,.inr h4,by rw[h3,if_neg (by omega)]⟩
     ·exact⟨m+1,bQk _,fun i hi=>h2 i (bQt _) (by omega),.inl rfl,by rw[h1,if_pos rfl]⟩
    rw[hs3]at hF;simp only[go_sem,kK,hWh.ret,f6,f11,f13,f17,e6,e11,e13,hF.ret,bQ0,kF]
    refine bQ s (fun i st=> ∃fr en cnt,st=⟨fr,en,cnt⟩/\ fr 11= .ptr ⟨0,11,0⟩ 0/\ fr 314= .bl ⟨0,87,g⟩ 0 (m+1)/\ fr 315= .i ((m+1:Nat):Int)/\ fr 316= .i (i:Int)/\ fr 32= .i (if s=m+1 then((0:Int),(5:Int))else((s:Int),0)).1/\ fr 33= .i (if s=m+1 then((0:Int),(5:Int))else((s:Int),0)).2/\ en ⟨0,11,0⟩=some (.box [.i c.kind,.i c.n,.i c.v.kind,.i c.v.n] false)/\ en ⟨0,87,g⟩=some (.blk 5 (wsL p w0 ks (m+1)) fz)) 0 (bQt _) ⟨_,_,_,rfl,by simp only[go_sem,f11],by simp only[go_sem],by simp only[go_sem],by simp only[go_sem],by simp only[go_sem],by simp only[go_sem],by simp only[go_sem,e11],by simp only[go_sem,e17]⟩ ?_
    rintro i st hi ⟨fr,en,cnt,rfl,f11,f314,f315,f316,f32,f33,e11,e87⟩
    simp only[go_sem,kK,f315,f316]
    by_cases hil:i<m+1
    case neg=>
     have:s=m+1:=by omega
     rw[if_pos this]at f32 f33;simp only[go_sem,kK,D_f hil,f33,hk.ret,decide_true,kF]
    have wi:=aDq (p:=p) (w:=w0) (ks:=ks) hil;have ii:(0:Int)<=(i:Int)/\ i<m+1:=by omega
    have hHi:=hH' i;cases hh:lF (wAt p w0 ks i) c with
    |true=>
     have:s=i:=by
      rcases bRs i s with h|h
      ·rw[hs1 i h]at hh;cases hh
      ·omega
     subst this;rw[if_neg (by omega)]at f32 f33
     rw[hh]at hHi;simp only[go_sem,kK,f11,f314,f316,f32,f33,e11,e87,ii,bRh,wi,hHi.ret,hk.ret,decide_true,kF]
     done
    |false=>
     have his:i<s:=by
      rcases bRs i s with h|h
      ·exact h
      ·obtain rfl:s=i:=by omega
       rcases hs2 with h'|h'
       ·omega
       ·rw[h']at hh;cases hh
     have hw4:IntKind.i64.wrap ((i:Int)+1)=((i+1:Nat):Int):=by rw[aV (by omega)];rfl
     rw[hh]at hHi;simp only[go_sem,kK,f11,f314,f316,e11,e87,ii,bRh,wi,hHi.ret,hw4,decide_true,kF];exact⟨his,_,_,_,rfl,by simp only[go_sem,f11],by simp only[go_sem,f314],by simp only[go_sem,f315],by simp only[go_sem],by simp only[go_sem,f32],by simp only[go_sem,f33],by simp only[go_sem,e11],by simp only[go_sem,e87]⟩
end Go.Proofs.YtmafmhjndjmalaaGreat
