/- Contracts of functions of the program and of the document: part 5. -/
import Derived.Test.YtmnchlhngpdffaaGreatM3
import Derived.Test.YtmnchlhngpdffaaGreatM1
set_option linter.all false
open Bool renaming and_eq_true -> bPp, and_false -> bQ7, and_true -> bRl, eq_iff_iff -> bRd, false_and -> bQq, not_eq_true' -> bQ2, not_false -> bP8, not_true -> bP3, true_and -> bQn
open Int renaming eq_ofNat_of_zero_le -> bQv, tdiv_eq_ediv_of_nonneg -> bTd, tmod_eq_emod_of_nonneg -> bTc, toNat_natCast -> bQo
open List renaming all_eq_true -> bPv, append_nil -> bQr, drop_eq_getElem_cons -> bQu, drop_length -> bRf, getD_eq_getElem?_getD -> bPu, getElem?_eq_getElem -> bQz, getElem_mem -> bPz, length_append -> bP9, length_cons -> bPy, length_filter_le -> bS7, length_map -> bPr, length_nil -> bP7, length_pos_iff -> bSj, length_set -> bRp, length_take -> bQx, map_append -> bQs, map_congr_left -> bRw, map_cons -> bQj, map_nil -> bP1, map_take -> bRe, mem_append -> bQe, mem_append_left -> bR1, mem_append_right -> bRv, mem_cons -> bQm, mem_filter -> bRa, mem_flatMap -> bQ3, mem_map -> bQk, mem_of_mem_take -> bR0, mem_range -> bQl, mem_singleton -> bQ1, nil_append -> bQt, not_mem_nil -> bSu, prefix_refl -> bSo, replicate_succ -> bQ5, replicate_zero -> bQ4, take_length -> bQ6, take_succ_cons -> bP0, take_zero -> bPw
open Nat renaming add_zero -> bQ9, div_mul_le_self -> bS8, le_of_lt -> bRn, le_refl -> bPq, le_trans -> bP2, lt_irrefl -> bSf, lt_of_lt_of_le -> bQf, lt_or_ge -> bRo, mul_le_mul_right -> bQw, zero_le -> bPx
namespace Go.Proofs.YtmnchlhngpdffaaGreat
open Go.Abs Go.Proofs Tryz
set_option maxRecDepth 100000
set_option maxHeartbeats 4000000
theorem zH (p:aF)(l:bP)(hp:p.few)(hl:l.few)(hsp:aR p=true)(h:aEu p l=true):PC L 55 [.agg p.cs,.agg l.cs] ((ply p l)):=by
 have hC:=yA p l hp hl hsp;rw[if_pos h]at hC;have hL:=at_ func55
 conv at hL=>rhs;reduce
 refine aI hL rfl rfl ?_
 simp only[go_sem,kK]
 refine cA ?_
 simp only[go_sem,hC.ret,(fC _).ret]
theorem zI (p:aF)(l:bP)(hp:p.few)(hl:l.few)(hsp:aR p=true)(h:aEu p l=false):PX L 55 [.agg p.cs,.agg l.cs] (aAp 2):=by
 have hC:=yA p l hp hl hsp;rw[h,if_neg (by decide)]at hC
 have hL:=at_ func55
 conv at hL=>rhs;reduce
 refine aIg hL rfl rfl ?_
 simp only[go_sem,kK]
 refine dK 4 rfl ?_
 simp only[go_sem,bP0,bPw,hC.ret,(cY _).ret]
variable {p:aF}{w:aA}
theorem aI4 (hg:bY p w=true)(pick:Int):((dL p w pick).2.2=0/\ (aA3 p w pick).2.2.2=0/\ aA3 p w pick=fQ p w pick/\ (dL p w pick).1=(fQ p w pick).1/\ (dL p w pick).2.1=(fQ p w pick).2.1) \/
  ((aA3 p w pick).2.2.2=5/\ (dL p w pick).2.2=6) \/((aA3 p w pick).2.2.2=8/\ (dL p w pick).2.2=8):=by
 unfold aA3 dL;rw[if_pos hg]
 simp only
 rcases aZy p w pick with h|h|h
 ·refine .inl ⟨?_,?_,?_,?_,?_⟩<;>simp[h]
 ·exact .inr (.inl ⟨by simp[h],by simp[h]⟩)
 ·exact .inr (.inr ⟨by simp[h],by simp[h]⟩)
theorem wD (p:aF)(l:bP)(w:aA)(pick:Int)(hp:p.few)(hw:w.few)(hsp:aR p=true)(hg:bY p w=true)(h:(dL p w pick).2.2=0):
  PC L 105 [(ply p l),.agg w.cs,.i pick] (.tup [.agg (dL p w pick).1.cs,evV (dL p w pick).2.1]):=by
 have hT:=aGr p w pick hp hw hsp;obtain⟨_,h0,e1,e2,e3⟩:(dL p w pick).2.2=0/\ (aA3 p w pick).2.2.2=0/\ aA3 p w pick=fQ p w pick/\ (dL p w pick).1=(fQ p w pick).1/\ (dL p w pick).2.1=(fQ p w pick).2.1:=by
  rcases aI4 hg pick with h'|⟨_,h'⟩|⟨_,h'⟩
  ·exact h'
  ·rw[h]at h';cases h'
  ·rw[h]at h';cases h'
 rw[h0,e1]at hT;rw[e2,e3];have hL:=at_ func105
 conv at hL=>rhs;reduce
 refine aI hL rfl rfl ?_
 simp only[go_sem,kK]
 refine aH ?_
 simp only[go_sem,hT.ret,evV,kA,kF]
 refine cA ?_
 simp only[go_sem,(fC _).ret]
 refine cA ?_
 simp only[go_sem,(fC _).ret]
 refine aH ?_
 simp only[go_sem,kA,kF]
theorem wE (p:aF)(l:bP)(w:aA)(pick:Int)(hp:p.few)(hw:w.few)(hsp:aR p=true)(hg:bY p w=true)(h: ¬(dL p w pick).2.2=0):
  PX L 105 [(ply p l),.agg w.cs,.i pick] (aAp (dL p w pick).2.2):=by
 have hT:=aGr p w pick hp hw hsp;rcases aI4 hg pick with h'|⟨h1,h2⟩|⟨h1,h2⟩
 ·exact absurd h'.1 h
 ·rw[h1]at hT;rw[h2];have hL:=at_ func105
  conv at hL=>rhs;reduce
  refine aIg hL rfl rfl ?_
  simp only[go_sem,kK]
  refine aH ?_
  simp only[go_sem,hT.ret,evV,kA,kF]
  refine dK 2 rfl ?_
  simp only[go_sem,bP0,bPw,(cY _).ret]
 ·rw[h1]at hT;rw[h2];have hL:=at_ func105
  conv at hL=>rhs;reduce
  refine aIg hL rfl rfl ?_
  simp only[go_sem,kK]
  refine aH ?_
  simp only[go_sem,hT.ret,evV,kA,kF]
  refine cA ?_
  simp only[go_sem,(fC _).ret]
  refine dK 3 rfl ?_
  simp only[go_sem,bP0,bPw,(cY _).ret]
theorem rG (w:aA)(hw:w.few)(hs:bW w=true):PC L 62 [.agg w.cs] (.agg w.cs):=by
 obtain⟨b1,b2,b3,b4⟩:=aLs hs;have c1:=qV (w.tasks.map (.int .i64)) (pZ _) (by simp;omega)
 have c2:=aF5 (w.outs.map bJ.enc) (aIu _) (by simp;omega)
 have c3:=qV (w.ins.map (.int .i64)) (pZ _) (by simp;omega)
 have hL:=at_ func62
 conv at hL=>rhs;reduce
 refine aI hL rfl rfl ?_
 simp only[go_sem,kK]
 refine aF3 (fun st=>st.fr 2= .ptr ⟨0,2,0⟩ 0/\ st.en ⟨0,2,0⟩=some (.box [.cl [],.cl [],.cl [],.cl [],.i 0] false)/\ st.fr 1= .ptr ⟨0,1,0⟩ 0/\ st.en ⟨0,1,0⟩=some (.box [.fz (w.objs.map aQ.enc),.fz (w.tasks.map (.int .i64)),.fz (w.outs.map bJ.enc),.fz (w.ins.map (.int .i64)),.i w.used] false)/\ st.fr 3= .ptr ⟨0,3,0⟩ 0/\
  ∃vT vO vI,st.en ⟨0,3,0⟩=some (.box [.cl [],vT,vO,vI,.i w.used] false)/\ cP st.en vT 1 (w.tasks.map (.int .i64)) [11]/\ cP st.en vO 2 (w.outs.map bJ.enc) [14]/\ cP st.en vI 1 (w.ins.map (.int .i64)) [17]) ?_ ?_
 ·refine aH ?_
  rcases jK 1 (w.tasks.map (Val.int .i64))with⟨t1,t2⟩|⟨t1,t2⟩<;>rw[t2]at c1<;>
  rcases jK 2 (w.outs.map bJ.enc)with⟨o1,o2⟩|⟨o1,o2⟩<;>rw[o2]at c2<;>
  rcases jK 1 (w.ins.map (Val.int .i64))with⟨i1,i2⟩|⟨i1,i2⟩<;>rw[i2]at c3
  all_goals simp only[go_sem,kA,kF,c1.ret,c2.ret,c3.ret,bPr,bPq,if_true,kB]
  all_goals refine⟨_,_,_,rfl,?_,?_,?_⟩
  all_goals first
   |exact .inl ⟨rfl,by assumption⟩
   |exact wY (by simp only[go_sem];try rfl) (by simp only[bPr])
 ·rintro fr en cnt ⟨h2,e2,h1,e1,h3,vT,vO,vI,e3,mT,mO,mI⟩
  dsimp only at h2 e2 h1 e1 h3 e3 mT mO mI;simp only[go_sem,h1,e1]
  refine bQ w.objs.length (fun k st=> ∃fr en cnt v,st=⟨fr,en,cnt⟩/\ fr 2= .ptr ⟨0,2,0⟩ 0/\ en ⟨0,2,0⟩=some (.box [.cl [],.cl [],.cl [],.cl [],.i 0] false)/\ fr 3= .ptr ⟨0,3,0⟩ 0/\ en ⟨0,3,0⟩=some (.box [v,vT,vO,vI,.i w.used] false)/\ fr 22= .fz (w.objs.map aQ.enc)/\ fr 23= .i w.objs.length/\ fr 24= .i k/\
   cP en vT 1 (w.tasks.map (.int .i64)) [11]/\ cP en vO 2 (w.outs.map bJ.enc) [14]/\ cP en vI 1 (w.ins.map (.int .i64)) [17]/\ cP en v 4 ((w.objs.take k).map aQ.enc) [62]) 0 (bPx _) ⟨_,_,_,.cl [],rfl,by simp only[go_sem,h2],by simp only[go_sem,e2],by simp only[go_sem,h3],by simp only[go_sem,e3],by simp only[go_sem],by simp only[go_sem],by simp only[go_sem],mT,mO,mI,cP.nil _ _⟩ ?_
  rintro k st hk ⟨fr,en,cnt,v,rfl,h2,e2,h3,e3,h22,h23,h24,mT,mO,mI,hv⟩
  simp only[go_sem,kK,h23,h24]
  refine aG (fun hq=>?_) (fun hq=>?_)
  ·have h':k<w.objs.length:=D_o hq;have hso:=aLo hs _ (bPz h');obtain⟨d1,d2,d3⟩:=aOj hso;simp only[go_sem,h',h22,h24];generalize ho:w.objs[k]=o;rw[ho]at hso d1 d2 d3;have hvl:=qX (o.vals.map aD.enc) (wX _) (by simp;omega)
   have hfo:Few o.frames.length:=by unfold Few;omega
   generalize hg5:cnt 0 5=g5;generalize hg6:cnt 0 6=g6
   refine aF3 (fun st=>st.fr 2= .ptr ⟨0,2,0⟩ 0/\ st.en ⟨0,2,0⟩=some (.box [.cl [],.cl [],.cl [],.cl [],.i 0] false)/\ st.fr 3= .ptr ⟨0,3,0⟩ 0/\ st.en ⟨0,3,0⟩=some (.box [v,vT,vO,vI,.i w.used] false)/\ st.fr 22= .fz (w.objs.map aQ.enc)/\ st.fr 23= .i w.objs.length/\ st.fr 24= .i k/\ st.fr 5= .ptr ⟨0,5,g5⟩ 0/\ st.en ⟨0,5,g5⟩=some (.box [.i o.form,.i o.n,.fz (o.vals.map aD.enc),.fz (o.frames.map aB.enc)] false)/\ st.fr 6= .ptr ⟨0,6,g6⟩ 0/\ ∃u,st.en ⟨0,6,g6⟩=some (.box [.i o.form,.i o.n,u,.cl []] false)/\
    cP st.en u 2 (o.vals.map aD.enc) [34]/\ cP st.en vT 1 (w.tasks.map (.int .i64)) [11]/\ cP st.en vO 2 (w.outs.map bJ.enc) [14]/\ cP st.en vI 1 (w.ins.map (.int .i64)) [17]/\ cP st.en v 4 ((w.objs.take k).map aQ.enc) [62]) ?_ ?_
   ·refine aH ?_
    rcases jK 2 (o.vals.map aD.enc)with⟨t1,t2⟩|⟨t1,t2⟩<;>rw[t2]at hvl
    all_goals simp only[go_sem,hg6,h2,e2,h3,e3,h22,h23,h24,kA,kF,hvl.ret,bPr,bPq,if_true,kB]
    all_goals refine⟨_,rfl,?_,?_,?_,?_,?_⟩
    all_goals first
     |(simp only[go_sem,qW,h2,e2,h3,e3,h22,h23,h24];done)
     |(refine mT.keep fun t g ht=>?_;simp at ht;subst ht;simp only[go_sem];done)
     |(refine mO.keep fun t g ht=>?_;simp at ht;subst ht;simp only[go_sem];done)
     |(refine mI.keep fun t g ht=>?_;simp at ht;subst ht;simp only[go_sem];done)
     |(refine hv.keep fun t g ht=>?_;simp at ht;subst ht;simp only[go_sem];done)
     |exact .inl ⟨rfl,by assumption⟩
     |exact wY (by simp only[go_sem];try rfl) (by simp only[bPr])
     |skip
   ·rintro fr en cnt ⟨h2,e2,h3,e3,h22,h23,h24,h5,e5,h6,u,e6,mV,mT,mO,mI,hv⟩
    dsimp only at h2 e2 h3 e3 h22 h23 h24 h5 e5 h6 e6 mV mT mO mI hv;simp only[go_sem,h5,e5]
    refine bQ o.frames.length (fun j st=> ∃fr en cnt x,st=⟨fr,en,cnt⟩/\ fr 2= .ptr ⟨0,2,0⟩ 0/\ en ⟨0,2,0⟩=some (.box [.cl [],.cl [],.cl [],.cl [],.i 0] false)/\ fr 3= .ptr ⟨0,3,0⟩ 0/\ en ⟨0,3,0⟩=some (.box [v,vT,vO,vI,.i w.used] false)/\ fr 22= .fz (w.objs.map aQ.enc)/\ fr 23= .i w.objs.length/\ fr 24= .i k/\ fr 6= .ptr ⟨0,6,g6⟩ 0/\ en ⟨0,6,g6⟩=some (.box [.i o.form,.i o.n,u,x] false)/\ fr 37= .fz (o.frames.map aB.enc)/\ fr 38= .i o.frames.length/\ fr 39= .i j/\
     cP en u 2 (o.vals.map aD.enc) [34]/\ cP en x 3 ((o.frames.take j).map aB.enc) [55]/\ cP en vT 1 (w.tasks.map (.int .i64)) [11]/\ cP en vO 2 (w.outs.map bJ.enc) [14]/\ cP en vI 1 (w.ins.map (.int .i64)) [17]/\ cP en v 4 ((w.objs.take k).map aQ.enc) [62]) 0 (bPx _) ⟨_,_,_,.cl [],rfl,by simp only[go_sem,h2],by simp only[go_sem,e2],by simp only[go_sem,h3],by simp only[go_sem,e3],by simp only[go_sem,h22],by simp only[go_sem,h23],by simp only[go_sem,h24],by simp only[go_sem,h6],by simp only[go_sem,e6],by simp only[go_sem],by simp only[go_sem],by simp only[go_sem],?_,cP.nil _ _,?_,?_,?_,?_⟩ ?_
    ·exact mV.keep fun t g ht=>by simp at ht;subst ht;simp only[go_sem]
    ·exact mT.keep fun t g ht=>by simp at ht;subst ht;simp only[go_sem]
    ·exact mO.keep fun t g ht=>by simp at ht;subst ht;simp only[go_sem]
    ·exact mI.keep fun t g ht=>by simp at ht;subst ht;simp only[go_sem]
    ·exact hv.keep fun t g ht=>by simp at ht;subst ht;simp only[go_sem]
    rintro j st hj ⟨fr,en,cnt,x,rfl,h2,e2,h3,e3,h22,h23,h24,h6,e6,h37,h38,h39,mV,mX,mT,mO,mI,hv⟩
    simp only[go_sem,kK,h38,h39]
    refine aG (fun hq'=>?_) (fun hq'=>?_)
    ·have h'':j<o.frames.length:=D_o hq';have hb:=d3 _ (bPz h'');simp only[go_sem,h'',h37,h39];generalize hf:o.frames[j]=f;rw[hf]at hb;have ce:=qX (f.env.map aD.enc) (wX _) (by simp;omega)
     have cv:=qX (f.vals.map aD.enc) (wX _) (by simp;omega)
     refine aH ?_
     rcases jK 2 (f.env.map aD.enc)with⟨t1,t2⟩|⟨t1,t2⟩<;>rw[t2]at ce<;>
     rcases jK 2 (f.vals.map aD.enc)with⟨u1,u2⟩|⟨u1,u2⟩<;>rw[u2]at cv
     all_goals simp only[go_sem,h6,e6,kA,kF,ce.ret,cv.ret,bPr,bPq,if_true,qY,kB]
     all_goals
      have hap:=mX.shape
      refine aHk (D:=[55]) (xs:=(o.frames.take j).map aB.enc) (ys:=[aB.enc f]) (rs:=[]) ?_ ?_ ?_ rfl ?_ ?_
      ·simp only[go_sem];exact mX.keep fun t g ht=>by simp at ht;subst ht;simp only[go_sem]
      ·simp only[go_sem,t1,u1]
      ·first|rfl|simp[aB.enc]
      ·simp;omega
      ·intro v' en' cnt' r hown hen hcnt _ _ _;have k2:en' ⟨0,2,0⟩=some (.box [.cl [],.cl [],.cl [],.cl [],.i 0] false):=by rw[hen 0 2 0 (.inr ⟨by decide,by simp⟩)];simp only[go_sem,e2]
       have k3:en' ⟨0,3,0⟩=some (.box [v,vT,vO,vI,.i w.used] false):=by rw[hen 0 3 0 (.inr ⟨by decide,by simp⟩)];simp only[go_sem,e3]
       have k6:en' ⟨0,6,g6⟩=some (.box [.i o.form,.i o.n,u,x] false):=by rw[hen 0 6 g6 (.inr ⟨by decide,by simp⟩)];simp only[go_sem,e6]
       obtain⟨s1,s2⟩:=hown.shape;simp only[go_sem,h6,k6,h39,s1,s2]
       refine⟨_,_,_,v',rfl,?_⟩
       simp only[go_sem,h2,k2,h3,k3,h22,h23,h24,h6,h37,h38,aT h'' hfo]
       refine⟨mV.keep ?_,?_,mT.keep ?_,mO.keep ?_,mI.keep ?_,hv.keep ?_⟩
       ·intro t g ht;simp at ht;subst ht;rw[iZ (by simp),hen 0 34 g (.inr ⟨by decide,by simp⟩)];simp only[go_sem]
       ·rw[gZ h'',bQs,hf]
        refine cP.sub (D:=[55,55]) (cP.keep (en:=en') hown ?_) (by simp)
        intro t g ht;simp at ht;subst ht;simp only[go_sem]
       ·intro t g ht;simp at ht;subst ht;rw[iZ (by simp),hen 0 11 g (.inr ⟨by decide,by simp⟩)];simp only[go_sem]
       ·intro t g ht;simp at ht;subst ht;rw[iZ (by simp),hen 0 14 g (.inr ⟨by decide,by simp⟩)];simp only[go_sem]
       ·intro t g ht;simp at ht;subst ht;rw[iZ (by simp),hen 0 17 g (.inr ⟨by decide,by simp⟩)];simp only[go_sem]
       ·intro t g ht;simp at ht;subst ht;rw[iZ (by simp),hen 0 62 g (.inr ⟨by decide,by simp⟩)];simp only[go_sem]
    ·have:j=o.frames.length:=by simp at hq';omega
     subst this;rw[bQ6]at mX;have kend: ∀(fr:Nat->Val) (en:En) (cnt:Nat->Nat->Nat),fr 2= .ptr ⟨0,2,0⟩ 0->en ⟨0,2,0⟩=some (.box [.cl [],.cl [],.cl [],.cl [],.i 0] false)->fr 3= .ptr ⟨0,3,0⟩ 0->en ⟨0,3,0⟩=some (.box [v,vT,vO,vI,.i w.used] false)->fr 22= .fz (w.objs.map aQ.enc)->fr 23= .i w.objs.length->fr 24= .i k->
       cP en vT 1 (w.tasks.map (.int .i64)) [11]->cP en vO 2 (w.outs.map bJ.enc) [14]->cP en vI 1 (w.ins.map (.int .i64)) [17]->
       ∀v' en' cnt',cP en' v' 4 ((w.objs.take k).map aQ.enc++[aQ.enc o]) [62,62]->(∀n t g,n≠0 \/(t≠62/\ t∉[62])->en' ⟨n,t,g⟩=en ⟨n,t,g⟩)->(∀n t,t≠62->cnt' n t=cnt n t)->
       jE L [fA 63 0 3,sT 1 63 62] ⟨jN fr 62 v',en',cnt'⟩ fun st'=>jE L [bN 64 BinOp.add (Opd.t 24) (cI 1),Abs.mT 24 64] st' fun st'=> ∃fr en cnt v,st'=⟨fr,en,cnt⟩/\ fr 2= .ptr ⟨0,2,0⟩ 0/\ en ⟨0,2,0⟩=some (.box [.cl [],.cl [],.cl [],.cl [],.i 0] false)/\ fr 3= .ptr ⟨0,3,0⟩ 0/\ en ⟨0,3,0⟩=some (.box [v,vT,vO,vI,.i w.used] false)/\ fr 22= .fz (w.objs.map aQ.enc)/\ fr 23= .i w.objs.length/\ fr 24= .i (k+1:Nat)/\
        cP en vT 1 (w.tasks.map (.int .i64)) [11]/\ cP en vO 2 (w.outs.map bJ.enc) [14]/\ cP en vI 1 (w.ins.map (.int .i64)) [17]/\ cP en v 4 ((w.objs.take (k+1)).map aQ.enc) [62]:=by
      intro fr en cnt h2 e2 h3 e3 h22 h23 h24 mT mO mI v' en' cnt' hown hen hcnt;have k2:en' ⟨0,2,0⟩=some (.box [.cl [],.cl [],.cl [],.cl [],.i 0] false):=by rw[hen 0 2 0 (.inr ⟨by decide,by simp⟩)];simp only[go_sem,e2]
      have k3:en' ⟨0,3,0⟩=some (.box [v,vT,vO,vI,.i w.used] false):=by rw[hen 0 3 0 (.inr ⟨by decide,by simp⟩)];simp only[go_sem,e3]
      obtain⟨s1,s2⟩:=hown.shape;simp only[go_sem,h3,k3,h24,s1,s2]
      refine⟨_,_,_,v',rfl,?_⟩
      simp only[go_sem,h2,k2,h3,h22,h23,aT h' hw.objs]
      refine⟨mT.keep ?_,mO.keep ?_,mI.keep ?_,?_⟩
      ·intro t g ht;simp at ht;subst ht;rw[iZ (by simp),hen 0 11 g (.inr ⟨by decide,by simp⟩)]
      ·intro t g ht;simp at ht;subst ht;rw[iZ (by simp),hen 0 14 g (.inr ⟨by decide,by simp⟩)]
      ·intro t g ht;simp at ht;subst ht;rw[iZ (by simp),hen 0 17 g (.inr ⟨by decide,by simp⟩)]
      ·rw[gZ h',bQs,ho]
       refine cP.sub (D:=[62,62]) (cP.keep (en:=en') hown ?_) (by simp)
       intro t g ht;simp at ht;subst ht;simp only[go_sem]
     rcases mV with⟨rfl,n1⟩|⟨t,g,f,rfl,eV,m1⟩<;>rcases mX with⟨rfl,n2⟩|⟨t',g',f',rfl,eX,m2⟩<;>(try(simp only[bQ1]at m1;subst m1))<;>(try(simp only[bQ1]at m2;subst m2))
     ·simp only[go_sem,h2,e2,h3,e3,h24,h6,e6,bPq,if_true,kF]
      refine kQ (D:=[62]) (xs:=(w.objs.take k).map aQ.enc) (ys:=[aQ.enc o]) (rs:=[]) ?_ ?_ rfl ?_ ?_
      ·simp only[go_sem];exact hv.keep fun t g ht=>by simp at ht;subst ht;simp only[go_sem]
      ·simp only[go_sem,aQ.enc,n1,n2]
      ·simp;omega
      ·exact kend _ _ _ (by simp only[go_sem,h2]) (by simp only[go_sem,e2]) (by simp only[go_sem,h3]) (by simp only[go_sem,e3]) (by simp only[go_sem,h22]) (by simp only[go_sem,h23]) (by simp only[go_sem,h24]) (mT.keep fun t g ht=>by simp at ht;subst ht;simp only[go_sem]) (mO.keep fun t g ht=>by simp at ht;subst ht;simp only[go_sem]) (mI.keep fun t g ht=>by simp at ht;subst ht;simp only[go_sem])
     ·simp only[go_sem,h2,e2,h3,e3,h24,h6,e6,eX,bPr,bPq,if_true,qY,kF]
      refine kQ (D:=[62]) (xs:=(w.objs.take k).map aQ.enc) (ys:=[aQ.enc o]) (rs:=[]) ?_ ?_ rfl ?_ ?_
      ·simp only[go_sem];exact hv.keep fun t g ht=>by simp at ht;subst ht;simp only[go_sem]
      ·simp only[go_sem,aQ.enc,n1]
      ·simp;omega
      ·exact kend _ _ _ (by simp only[go_sem,h2]) (by simp only[go_sem,e2]) (by simp only[go_sem,h3]) (by simp only[go_sem,e3]) (by simp only[go_sem,h22]) (by simp only[go_sem,h23]) (by simp only[go_sem,h24]) (mT.keep fun t g ht=>by simp at ht;subst ht;simp only[go_sem]) (mO.keep fun t g ht=>by simp at ht;subst ht;simp only[go_sem]) (mI.keep fun t g ht=>by simp at ht;subst ht;simp only[go_sem])
     ·simp only[go_sem,h2,e2,h3,e3,h24,h6,e6,eV,bPr,bPq,if_true,qY,kF]
      refine kQ (D:=[62]) (xs:=(w.objs.take k).map aQ.enc) (ys:=[aQ.enc o]) (rs:=[]) ?_ ?_ rfl ?_ ?_
      ·simp only[go_sem];exact hv.keep fun t g ht=>by simp at ht;subst ht;simp only[go_sem]
      ·simp only[go_sem,aQ.enc,n2]
      ·simp;omega
      ·exact kend _ _ _ (by simp only[go_sem,h2]) (by simp only[go_sem,e2]) (by simp only[go_sem,h3]) (by simp only[go_sem,e3]) (by simp only[go_sem,h22]) (by simp only[go_sem,h23]) (by simp only[go_sem,h24]) (mT.keep fun t g ht=>by simp at ht;subst ht;simp only[go_sem]) (mO.keep fun t g ht=>by simp at ht;subst ht;simp only[go_sem]) (mI.keep fun t g ht=>by simp at ht;subst ht;simp only[go_sem])
     ·simp only[go_sem,h2,e2,h3,e3,h24,h6,e6,eV,eX,bPr,bPq,if_true,qY,kF]
      refine kQ (D:=[62]) (xs:=(w.objs.take k).map aQ.enc) (ys:=[aQ.enc o]) (rs:=[]) ?_ ?_ rfl ?_ ?_
      ·simp only[go_sem];exact hv.keep fun t g ht=>by simp at ht;subst ht;simp only[go_sem]
      ·simp only[go_sem,aQ.enc]
      ·simp;omega
      ·exact kend _ _ _ (by simp only[go_sem,h2]) (by simp only[go_sem,e2]) (by simp only[go_sem,h3]) (by simp only[go_sem,e3]) (by simp only[go_sem,h22]) (by simp only[go_sem,h23]) (by simp only[go_sem,h24]) (mT.keep fun t g ht=>by simp at ht;subst ht;simp only[go_sem]) (mO.keep fun t g ht=>by simp at ht;subst ht;simp only[go_sem]) (mI.keep fun t g ht=>by simp at ht;subst ht;simp only[go_sem])
  ·have:k=w.objs.length:=by simp at hq;omega
   subst this;rw[bQ6]at hv;simp only[go_sem,h2,e2,h3,e3];obtain⟨r1,ks1,s1,s1',_⟩:=(hv.keep (en':=en.set ⟨0,2,0⟩ (some (.box [v,vT,vO,vI,.i w.used] false))) fun t g ht=>by simp at ht;subst ht;simp only[go_sem]).snap 6
   obtain⟨r2,ks2,s2,s2',_⟩:=(mT.keep (en':=en.set ⟨0,2,0⟩ (some (.box [v,vT,vO,vI,.i w.used] false))) fun t g ht=>by simp at ht;subst ht;simp only[go_sem]).snap 6
   obtain⟨r3,ks3,s3,s3',_⟩:=(mO.keep (en':=en.set ⟨0,2,0⟩ (some (.box [v,vT,vO,vI,.i w.used] false))) fun t g ht=>by simp at ht;subst ht;simp only[go_sem]).snap 6
   obtain⟨r4,ks4,s4,s4',_⟩:=(mI.keep (en':=en.set ⟨0,2,0⟩ (some (.box [v,vT,vO,vI,.i w.used] false))) fun t g ht=>by simp at ht;subst ht;simp only[go_sem]).snap 6
   simp only[go_sem,s1,s2,s3,s4,s1',s2',s3',s4']
theorem aA.eq_iff {a b:aA}:decide (a=b)=(decide (a.objs=b.objs)&&decide (a.tasks=b.tasks)&&decide (a.outs=b.outs)&&decide (a.ins=b.ins)&&decide (a.used=b.used)):=by
 cases a;cases b;simp[Bool.and_assoc]
def aGu (g3:Nat)(en en':En):Prop:= ∀n t g,(n≠0 \/t∉[1,2,3,5,10,24] \/(t=3/\ g<g3))->en' ⟨n,t,g⟩=en ⟨n,t,g⟩
variable {en:En}{g3:Nat}
theorem aGu.refl :aGu g3 en en:=fun _ _ _ _=>rfl
variable {e:Option Ent}{en':En}{g t:Nat}
theorem aGu.set (h:aGu g3 en en')(ht:t∈[1,2,3,5,10,24])(hg:t=3->g3<=g):aGu g3 en (en'.set ⟨0,t,g⟩ e):=by
 intro n u g' k;rw[iZ,h n u g' k];intro he
 injection he with h1 h2 h3
 subst h1 h2 h3;rcases k with k|k|k
 ·exact k rfl
 ·exact k ht
 ·have:=hg k.1;omega
theorem aGu.step {en2:En}(h:aGu g3 en en')(k: ∀n t g,n≠0 \/(t≠24/\ t∉[24])->en2 ⟨n,t,g⟩=en' ⟨n,t,g⟩):aGu g3 en en2:=fun n t g q=>by
 rw[k n t g,h n t g q];rcases q with q|q|q
 ·exact .inl q
 ·exact .inr ⟨fun e=>q (by simp[e]),fun e=>q (by simp at e;simp[e])⟩
 ·exact .inr ⟨by omega,by simp;omega⟩
variable {l:bP}
theorem aO7 (hl:l.few)(hp:l.picks.length<=16777216)(hm:l.marks.length<=16777216)(hs: ∀w∈l.marks,bW w=true){en0:En}{cnt0:Nat->Nat->Nat}(n1:cnt0 0 1=0)(n2:cnt0 0 2=0)(n3:cnt0 0 3=g3){R:Ex->St->Prop}
  (hR: ∀fr en cnt vP v,fr 2= .ptr ⟨0,2,0⟩ 0->en ⟨0,2,0⟩=some (.box [.i l.every,vP,v] false)->cP en vP 1 (l.picks.map (.int .i64)) [10]->cP en v 5 (l.marks.map aA.enc) [24]->aGu g3 en0 en->R .ret ⟨fr,en,cnt⟩):
  Wp L aS1.body ⟨fun i=>[.agg [.i l.every,.is l.picks,.fz (l.marks.map aA.enc)]].getD i (.tup []),en0,cnt0⟩ R:=by
 have c1:=qV (l.picks.map (.int .i64)) (pZ _) (by simp;omega)
 simp only[go_sem,kK,aS1,n1,n2]
 refine aF3 (fun st=>st.fr 2= .ptr ⟨0,2,0⟩ 0/\ st.en ⟨0,2,0⟩=some (.box [.i 0,.cl [],.cl []] false)/\ st.fr 1= .ptr ⟨0,1,0⟩ 0/\ st.en ⟨0,1,0⟩=some (.box [.i l.every,.is l.picks,.fz (l.marks.map aA.enc)] false)/\ st.fr 3= .ptr ⟨0,3,g3⟩ 0/\
  ∃vP,st.en ⟨0,3,g3⟩=some (.box [.i l.every,vP,.cl []] false)/\ cP st.en vP 1 (l.picks.map (.int .i64)) [10]/\ aGu g3 en0 st.en) ?_ ?_
 ·refine aH ?_
  rcases jK 1 (l.picks.map (Val.int .i64))with⟨t1,t2⟩|⟨t1,t2⟩<;>rw[t2]at c1
  all_goals simp only[go_sem,kA,kF,n3,c1.ret,bPr,bPq,if_true,kB]
  all_goals refine⟨_,rfl,?_,?_⟩
  all_goals first
   |exact .inl ⟨rfl,by assumption⟩
   |exact wY (by simp only[go_sem];try rfl) (by simp only[bPr])
   |(repeat' refine aGu.set ?_ (by simp) (by simp)
     exact aGu.refl)
 ·rintro fr en cnt ⟨h2,e2,h1,e1,h3,vP,e3,mP,hO⟩
  dsimp only at h2 e2 h1 e1 h3 e3 mP hO;simp only[go_sem,h1,e1]
  refine bQ l.marks.length (fun k st=> ∃fr en cnt v,st=⟨fr,en,cnt⟩/\ fr 2= .ptr ⟨0,2,0⟩ 0/\ en ⟨0,2,0⟩=some (.box [.i 0,.cl [],.cl []] false)/\ fr 3= .ptr ⟨0,3,g3⟩ 0/\ en ⟨0,3,g3⟩=some (.box [.i l.every,vP,v] false)/\ fr 13= .fz (l.marks.map aA.enc)/\ fr 14= .i l.marks.length/\ fr 15= .i k/\
   cP en vP 1 (l.picks.map (.int .i64)) [10]/\ cP en v 5 ((l.marks.take k).map aA.enc) [24]/\ aGu g3 en0 en) 0 (bPx _) ⟨_,_,_,.cl [],rfl,by simp only[go_sem,h2],by simp only[go_sem,e2],by simp only[go_sem,h3],by simp only[go_sem,e3],by simp only[go_sem],by simp only[go_sem],by simp only[go_sem],mP,cP.nil _ _,hO⟩ ?_
  rintro k st hk ⟨fr,en,cnt,v,rfl,h2,e2,h3,e3,h13,h14,h15,mP,hv,hO⟩
  simp only[go_sem,kK,h14,h15]
  refine aG (fun hq=>?_) (fun hq=>?_)
  ·have h':k<l.marks.length:=D_o hq;have hso:=hs _ (bPz h');have hfo:=hl.2.2 _ (bPz h');simp only[go_sem,h',h13,h15,sB h'];generalize ho:l.marks[k]=o;rw[ho]at hso hfo
   refine aH ?_
   simp only[go_sem,h3,e3,kA,kF,(rG _ hfo hso).ret]
   refine aHk (D:=[24]) (xs:=(l.marks.take k).map aA.enc) (ys:=[aA.enc o]) (rs:=[]) ?_ ?_ rfl rfl ?_ ?_
   ·simp only[go_sem];exact hv.keep fun t g ht=>by simp at ht;subst ht;simp only[go_sem]
   ·simp only[go_sem,aA.enc]
   ·simp;omega
   ·intro v' en' cnt' r hown hen hcnt _ _ _;have k2:en' ⟨0,2,0⟩=some (.box [.i 0,.cl [],.cl []] false):=by rw[hen 0 2 0 (.inr ⟨by decide,by simp⟩)];simp only[go_sem,e2]
    have k3:en' ⟨0,3,g3⟩=some (.box [.i l.every,vP,v] false):=by rw[hen 0 3 g3 (.inr ⟨by decide,by simp⟩)];simp only[go_sem,e3]
    obtain⟨s1,s2⟩:=hown.shape;simp only[go_sem,h3,k3,h15,s1,s2]
    refine⟨_,_,_,v',rfl,?_⟩
    simp only[go_sem,h2,k2,h3,h13,h14,aT h' hl.2.1]
    refine⟨mP.keep ?_,?_,((((hO.set (by simp) (by simp)).set (by simp) (by simp)).step hen).set (by simp) (by simp))⟩
    ·intro t g ht;simp at ht;subst ht;rw[iZ (by simp),hen 0 10 g (.inr ⟨by decide,by simp⟩)];simp only[go_sem]
    ·rw[gZ h',bQs,ho]
     refine cP.sub (D:=[24,24]) (cP.keep (en:=en') hown ?_) (by simp)
     intro t g ht;simp at ht;subst ht;simp only[go_sem]
  ·have:k=l.marks.length:=by simp at hq;omega
   subst this;rw[bQ6]at hv;simp only[go_sem,h2,e2,h3,e3];exact hR _ _ _ vP v (by simp only[go_sem,h2]) (by simp only[go_sem]) (mP.keep fun t g ht=>by simp at ht;subst ht;simp only[go_sem]) (hv.keep fun t g ht=>by simp at ht;subst ht;simp only[go_sem]) (hO.set (by simp) (by simp))
theorem aMt (l:bP)(hl:l.few)(hp:l.picks.length<=16777216)(hm:l.marks.length<=16777216)(hs: ∀w∈l.marks,bW w=true):PC L 106 [.agg [.i l.every,.is l.picks,.fz (l.marks.map aA.enc)]] (.agg [.i l.every,.is l.picks,.fz (l.marks.map aA.enc)]):=by
 refine aI bF4 rfl rfl ?_
 refine aO7 (g3:=0) hl hp hm hs rfl rfl rfl fun fr en cnt vP v f2 e2 mP hv _=>?_
 obtain⟨r1,ks1,s1,s1',_⟩:=hv.snap 6;obtain⟨r2,ks2,s2,s2',_⟩:=mP.snap 6;simp only[go_sem,aS1,f2,e2,s1,s2,s1',s2']
variable {cnt:Nat->Nat->Nat}
theorem aWj (hl:l.few)(hp:l.picks.length<=16777216)(hm:l.marks.length<=16777216)(hs: ∀w∈l.marks,bW w=true)(n1:cnt 0 1=0)(n2:cnt 0 2=0)(n3:cnt 0 3=g3):
  WIn L (.fn 106 [] []) [.agg [.i l.every,.is l.picks,.fz (l.marks.map aA.enc)]] en cnt fun r en' cnt'=> ∃vP v,r= .agg [.i l.every,vP,v]/\ cP en' vP 1 (l.picks.map (.int .i64)) [10]/\ cP en' v 5 (l.marks.map aA.enc) [24]/\ aGu g3 en en':=by
 refine bD bF4 rfl rfl ?_
 refine aO7 hl hp hm hs n1 n2 n3 fun fr en' cnt' vP v f2 e2 mP hv hO=>?_
 simp only[go_sem,aS1,f2,e2];exact⟨vP,v,rfl,mP,hv,hO⟩
theorem yB (p:aF)(l:bP)(a b:Int):PC L 65 [(ply p l),.i a,.i b] (.fn 118 [] [.fp [.i a] 0,.fp [.i b] 0,.fp [(ply p l)] 0]):=by
 have hL:=at_ func65
 conv at hL=>rhs;reduce
 refine aI hL rfl rfl ?_
 simp only[go_sem,kK,kF]
theorem bId :dA .eql .iface .nili .nili=some (.bool true):=(rfl)
theorem bIe {v:Val}:dA .eql .iface (.ifc t v) .nili=some (.bool false):=(rfl)
theorem aZz {k:Key}{a b:Option Ent}:(en.set k a).set k b=en.set k b:=by
 funext j
 by_cases h:j=k<;>simp[En.set,h]
variable {K:St->Prop}{f x:Val}{fr:Nat->Val}
theorem oA {e:Ex}(he:e.rcvd=some .nili)(hK:K ⟨fr,en,cnt⟩):
  ∃st4,(∃n0,∀n,n0<=n->iK L (exec L n) (.fn 53 [] []) [x,f] e ⟨fr,en,cnt⟩=some st4)/\ K st4:=by
 have hL:=at_ func53
 conv at hL=>rhs;reduce
 refine tX hL rfl he rfl rfl ?_
 simp only[go_sem,kK,bQt,bQr,bId,kF];exact hK
theorem cZ {k:Key}{e:Ex}{n:Int}(he:e.rcvd=some (aAp n))
  (hf:WIn L f [] (en.set ⟨0,5,cnt 0 5⟩ (some (.box [.i n] false))) (aC cnt 0 5 (cnt 0 5+1)) fun _ en' cnt'=>en' k=some (.box [x] false)/\ en' ⟨0,5,cnt 0 5⟩=some (.box [.i n] false)/\ K ⟨fr,en'.set k (some (.box [.i n] false)),cnt'⟩):
  ∃st4,(∃n0,∀n,n0<=n->iK L (exec L n) (.fn 53 [] []) [.ptr k 0,f] e ⟨fr,en,cnt⟩=some st4)/\ K st4:=by
 have hL:=at_ func53
 conv at hL=>rhs;reduce
 refine tX hL rfl he rfl rfl ?_
 simp only[go_sem,kK,aAp,bQt,bQr,bIe,kF,if_true];rw[aZz]
 refine WIn.mono hf ?_
 rintro v e2 c2 ⟨k1,k2,hk⟩
 simp only[go_sem,k1,k2];exact hk
set_option maxRecDepth 100000
set_option maxHeartbeats 4000000
set_option maxRecDepth 100000
set_option maxHeartbeats 4000000
structure nQ (l:bP):Prop where
 e1:1<=aL l
 e2:aL l<=20
 ev:l.every=(aL l:Int)
 pk:l.picks.length<=200
 mn:l.marks.length=l.picks.length/aL l+1
theorem nQ.of (h:gY p l=true):nQ l:=let ⟨_,⟨a,b,c⟩,d,e,_⟩:=nF h;⟨a,b,c,d,e⟩
variable {n:Nat}
theorem nQ.lt (h:nQ l)(hn:n<=l.picks.length):n/aL l<l.marks.length:=by
 rw[h.mn];have:=Nat.div_le_div_right (c:=aL l) hn;omega
theorem nQ.div (h:nQ l)(n:Nat):((n:Int)).tdiv (aL l:Int)=((n/aL l:Nat):Int):=by
 rw[bTd (by omega)];rfl
theorem nQ.few (h:nQ l):Few l.picks.length:=by have:=h.pk;unfold Few;omega
theorem nQ.wdiv (h:nQ l)(hn:n<=l.picks.length):IntKind.i64.wrap (((n/aL l:Nat):Int))=((n/aL l:Nat):Int):=by
 have h1:=Nat.div_le_self n (aL l);have:=h.pk;generalize n/aL l=q at h1⊢;exact aW (by omega)
theorem nQ.mul (h:nQ l)(hn:n<=l.picks.length):IntKind.i64.wrap (((n/aL l:Nat):Int)*(aL l:Int))=((n/aL l*aL l:Nat):Int):=by
 have h1:=bS8 n (aL l);have:=h.pk;rw[<-Int.natCast_mul];generalize n/aL l*aL l=q at h1⊢;exact aW (by omega)
theorem nQ.ne (h:nQ l):((aL l:Int)=0)=False:=eq_false (by have:=h.e1;omega)
theorem aAq {k:Nat}(h:k<l.marks.length):aCh l k=l.marks[k]:=by simp[aCh,h]
theorem aWk (hl:nQ l)(hn:n<=l.picks.length)(hm:n%aL l=0):PC L 63 [.fp [.i l.every,.is l.picks,.fz (l.marks.map aA.enc),.fz (p.nodes.map aM.enc),.fz (p.funs.map (.int .i64)),.i p.main,.fz (p.cons.map cS.enc)] 0,.i (n:Int)] (.agg (aCh l (n/aL l)).cs):=by
 have hlt:=hl.lt hn;have hia:=fun en=>sB (l:=l) (en:=en) hlt
 have hnn:n/aL l*aL l=n:=Nat.div_mul_cancel (Nat.dvd_of_mod_eq_zero hm);have hmul:=hl.mul hn;rw[hnn]at hmul;have ht:=yB p l n n;rw[aAq hlt];simp only[ply,hl.ev]at ht⊢;have hL:=at_ func63
 conv at hL=>rhs;reduce
 refine aI hL rfl rfl ?_
 simp only[go_sem,kK,hl.ne,hl.div,hl.wdiv hn,hmul,kF]
 refine aH ?_
 simp only[go_sem,hl.ne,hl.div,hl.wdiv hn,hia,kA,kF];simp only[go_sem,ht.ret]
 refine aFm (by simp only[go_sem];rfl) ?_
 rintro fr0 k hf hk
 rw[aVr]at hk;subst hk
 refine bD aS2 rfl rfl ?_
 simp only[go_sem,kK,aOd,D_t (bPq n),kF]
 done
def aO8 (w x:aA)(e:iD):Val:= .agg [.fz (w.objs.map aQ.enc),.is w.tasks,.fz (w.outs.map bJ.enc),.is w.ins,.i w.used,.fz (x.objs.map aQ.enc),.is x.tasks,.fz (x.outs.map bJ.enc),.is x.ins,.i x.used,.i e.task,.i e.act,.i e.n,.i e.v.kind,.i e.v.n]
def aCl (p:aF)(l:bP)(t:Nat):Val:=aO8 (atX p l t).1 (bR p l t).1 (bR p l t).2.1
def T3 :List Nat:=[5,7,8]
def aWl (c0:Nat->Nat)(en en':En):Prop:= ∀n t g,(n≠0 \/t∉T3 \/g<c0 t)->en' ⟨n,t,g⟩=en ⟨n,t,g⟩
variable {c0:Nat->Nat}
theorem aWl.trans {x y z:En}(h:aWl c0 x y)(h':aWl c0 y z):aWl c0 x z:=fun n t g k=>(h' n t g k).trans (h n t g k)
def aWm (c0:Nat->Nat)(I:En->(Nat->Nat->Nat)->Prop):Prop:= ∀en cnt en' cnt',I en cnt->aWl c0 en en'->(∀n t,n≠0 \/t∉T3->cnt' n t=cnt n t)->(∀t∈T3,cnt 0 t<=cnt' 0 t)->I en' cnt'
theorem xF (ht:t∈T3)(hg:c0 t<=g):aWl c0 en (en.set ⟨0,t,g⟩ e):=by
 intro n u g' h
 refine iZ fun he=>?_
 injection he with h1 h2 h3
 rcases h with h|h|h
 ·exact h h1
 ·exact h (h2▸ht)
 ·subst h2;omega
theorem wF (h:(bR p l t).2.2=0):(atX p l t).2=0/\ (dL p (atX p l t).1 (gP l t)).2.2=0/\ bR p l t=dL p (atX p l t).1 (gP l t):=by
 unfold bR at h⊢
 by_cases h1:(atX p l t).2=0
 ·rw[if_pos h1]at h⊢
  by_cases h2:(dL p (atX p l t).1 (gP l t)).2.2=0
  ·rw[if_pos h2];exact⟨h1,h2,rfl⟩
  ·rw[if_neg h2]at h;exact absurd h h2
 ·rw[if_neg h1]at h;exact absurd h h1
theorem aHz (h1:(atX p l t).2=0)(h: ¬(bR p l t).2.2=0): ¬(dL p (atX p l t).1 (gP l t)).2.2=0/\ (bR p l t).2.2=(dL p (atX p l t).1 (gP l t)).2.2:=by
 unfold bR at h⊢;rw[if_pos h1]at h⊢
 by_cases h2:(dL p (atX p l t).1 (gP l t)).2.2=0
 ·rw[if_pos h2]at h;exact absurd h2 h
 ·rw[if_neg h2];exact⟨h2,rfl⟩
theorem aUh (h1: ¬(atX p l t).2=0):(bR p l t).2.2=(atX p l t).2:=by unfold bR;rw[if_neg h1]
theorem aJr (hl:nQ l)(h:(bR p l t).2.2=0):(atX p l (t+1)).2=0/\ ((t+1)%aL l=0 \/(atX p l (t+1)).1=(bR p l t).1):=by
 obtain⟨h1,h2,h3⟩:=wF h
 by_cases hm:(t+1)%aL l=0
 ·rw[zG hl.e1 hm];exact⟨rfl,.inl hm⟩
 ·rw[aMq hl.e1 hm,if_pos h1,if_pos h2,h3];exact⟨rfl,.inr rfl⟩
theorem rH (h:t<l.picks.length):gP l t=l.picks[t]:=by simp[gP,h]
theorem pB (h:gY p l=true)(hn:n<=l.picks.length)(he:(atX p l n).2=0):bY p (atX p l n).1=true:=by
 have h1:=(nF h).1;have:=aQ6 (lV h1) h hn he;simp[bY,h1,this]
theorem jT (hsp:aR p=true)(h:bY p w=true):w.few:=by
 simp only[bY,bPp]at h;exact rX (lW hsp h.2)
variable {a b u:Nat}
theorem bOe (h:n≠0 \/u∉T3):aC (aC cnt 0 7 a) 0 8 b n u=cnt n u:=by
 simp only[aC];rw[if_neg,if_neg]
 ·rintro⟨rfl,rfl⟩;rcases h with h|h
  ·exact h rfl
  ·exact h (by decide)
 ·rintro⟨rfl,rfl⟩;rcases h with h|h
  ·exact h rfl
  ·exact h (by decide)
theorem aJs :cnt 0 u<=aC (aC cnt 0 7 (cnt 0 7+1)) 0 8 (cnt 0 8+1) 0 u:=by
 simp only[aC];split
 ·rename_i h;obtain⟨_,rfl⟩:=h;omega
 split
 ·rename_i h;obtain⟨_,rfl⟩:=h;omega
 ·exact bPq _
theorem aUi (hpf:p.few)(hsp:aR p=true)(hok:gY p l=true){a b s:Nat}(has:a<=s)(hsb:s<=b)(hb:b<=l.picks.length)
  (hat:(atX p l a).2=0->PC L 63 [(ply p l),.i (a:Int)] (.agg (atX p l a).1.cs)) (hax: ¬(atX p l a).2=0->PX L 63 [(ply p l),.i (a:Int)] (aAp (atX p l a).2))
  {k:Key} {c0:Nat->Nat} {I:Nat->En->(Nat->Nat->Nat)->Prop} {R:Ex->St->Prop} (hst: ∀t,aWm c0 (I t))
  (hr: ∀t,a<=t->t<s->(bR p l t).2.2=0/\ ∀en cnt,I t en cnt->(∀u∈T3,c0 u<=cnt 0 u)->WIn L (.yld k) [.i (t:Int),aCl p l t] en cnt fun v en' cnt'=>v= .bool true/\ I (t+1) en' cnt'/\ (∀u g,u∈T3->g<cnt 0 u->c0 u<=g->en' ⟨0,u,g⟩=en ⟨0,u,g⟩)/\ ∀u∈T3,cnt 0 u<=cnt' 0 u)
  (hfin: ∀en cnt,I s en cnt->(∀u∈T3,c0 u<=cnt 0 u)->(s=b/\ ∀e fr,e= .normal \/e= .ret->R e ⟨fr,en,cnt⟩) \/
   (s<b/\ (bR p l s).2.2=0/\ WIn L (.yld k) [.i (s:Int),aCl p l s] en cnt fun v en' cnt'=>v= .bool false/\ ∀fr,R .ret ⟨fr,en',cnt'⟩) \/
   (s<b/\ ¬(bR p l s).2.2=0/\ ∀fr,R (.panic (aAp (bR p l s).2.2)) ⟨fr,en,cnt⟩))
  {en:En} {cnt:Nat->Nat->Nat} (h0:I a en cnt) (hc0: ∀u∈T3,c0 u<=cnt 0 u):
  Wp L aOd.body ⟨fun i=>[.yld k,.fp [.i (a:Int)] 0,.fp [.i (b:Int)] 0,.fp [(ply p l)] 0].getD i (.tup []),en,cnt⟩ R:=by
 have hl:=nQ.of hok;simp only[go_sem,kK,aOd]
 by_cases hab:b<=a
 ·have:s=b:=by omega
  subst this;have:a=s:=by omega
  subst this;rcases hfin _ _ h0 hc0 with⟨_,h⟩|⟨h,_⟩|⟨h,_⟩
  ·simp only[go_sem,D_t hab];exact h _ _ (.inr rfl)
  ·omega
  ·omega
 simp only[go_sem,D_f hab]
 by_cases ha0:(atX p l a).2=0
 case neg=>
  have hs:s=a:=by
   rcases bRo a s with h|h
   ·exact absurd (wF (hr a (bPq _) h).1).1 ha0
   ·omega
  subst hs;rcases hfin _ _ h0 hc0 with⟨h,_⟩|⟨_,h,_⟩|⟨_,_,h⟩
  ·omega
  ·exact absurd (wF h).1 ha0
  ·rw[aUh ha0]at h
   refine dK 2 rfl ?_
   simp only[go_sem,bP0,bPw,(hax ha0).ret];exact h _
 refine cA ?_
 simp only[go_sem,(hat ha0).ret,kF];obtain⟨g5,hg5⟩: ∃g,g=cnt 0 5:=⟨_,rfl⟩
 rw[<-hg5];have hc5:c0 5<=g5:=by rw[hg5];exact hc0 5 (by decide)
 refine bQ s (fun t st=> ∃fr en cnt w,st=⟨fr,en,cnt⟩/\ fr 0= .yld k/\ fr 1= .fp [.i (a:Int)] 0/\ fr 2= .fp [.i (b:Int)] 0/\ fr 3= .fp [(ply p l)] 0/\ fr 5= .ptr ⟨0,5,g5⟩ 0/\ fr 6= .i (t:Int)/\ en ⟨0,5,g5⟩=some (.box w.cs false)/\ (t%aL l=0 \/w=(atX p l t).1)/\ (atX p l t).2=0/\ I t en cnt/\ g5<cnt 0 5/\ a<=t/\ ∀u∈T3,c0 u<=cnt 0 u) a has ?_ ?_
 ·refine⟨_,_,_,(atX p l a).1,rfl,by simp only[go_sem],by simp only[go_sem],by simp only[go_sem],by simp only[go_sem],by simp only[go_sem],by simp only[go_sem],by simp only[go_sem],.inr rfl,ha0,?_,?_,bPq _,?_⟩
  ·refine hst a _ _ _ _ h0 ((xF (by decide) (by omega)).trans (xF (by decide) (by omega))) (fun n t h=>?_) (fun u hu=>?_)
   ·simp only[aC];split
    ·rename_i h';obtain⟨rfl,rfl⟩:=h';rcases h with h|h
     ·exact absurd rfl h
     ·exact absurd (by decide) h
    ·rfl
   ·simp only[aC];split
    ·rename_i h';obtain⟨_,rfl⟩:=h';omega
    ·exact bPq _
  ·simp only[aC];simp
  ·intro u hu;have:=hc0 u hu;simp only[aC];split
   ·rename_i h';obtain⟨_,rfl⟩:=h';omega
   ·exact this
 rintro t st hts ⟨fr,en,cnt,w,rfl,f0,f1,f2,f3,f5,f6,e5,hw,h0t,hI,hg,hta,hc⟩
 simp only[go_sem,kK,f6,f2]
 by_cases htb:t<b
 case neg=>
  have:s=b:=by omega
  subst this;have:t=s:=by omega
  subst this;simp only[go_sem,D_f htb];rcases hfin _ _ hI hc with⟨_,h⟩|⟨h,_⟩|⟨h,_⟩
  ·exact h _ _ (.inl rfl)
  ·omega
  ·omega
 have htp:t<l.picks.length:=by omega
 have hmk:=aO5 (p:=p) (l:=l) t hl.e1 (by have:=hl.pk;omega) hl.ev
 have hgv:=pB hok (bRn htp) h0t;obtain⟨y,hy⟩: ∃y,y=(atX p l t).1:=⟨_,rfl⟩
 rw[<-hy]at hw hgv
 by_cases hm:t%aL l=0
 case' pos=>
  have hlt:=hl.lt (bRn htp);have hia:=fun en=>sB (l:=l) (en:=en) hlt
  have hwm:l.marks[t/aL l]=y:=by rw[hy,zG hl.e1 hm,aAq hlt]
  simp only[go_sem,kK,D_t htb,f3,f6,hmk.ret,D_t hm];simp only[go_sem,f5,hl.ev,hl.ne,hl.div,hl.wdiv (bRn htp),hia,hwm,e5,kF];have e6:(en.set ⟨0,5,g5⟩ (some (.box y.cs false))) ⟨0,5,g5⟩=some (.box y.cs false):=by simp only[go_sem]
  have hI2:=hst t _ cnt _ cnt hI (xF (e:=some (.box y.cs false)) (t:=5) (g:=g5) (by decide) (by omega)) (fun _ _ _=>rfl) (fun _ _=>bPq _)
  generalize En.set en _ _=en1 at e6 hI2⊢
 case' neg=>
  simp only[go_sem,kK,D_t htb,f3,f6,hmk.ret,D_f hm];have e6:=e5;rw[hw.resolve_left hm]at e6;have hI2:=hI;generalize en=en1 at e6 hI2⊢
 all_goals
  clear e5 hI hw
  by_cases hk:(bR p l t).2.2=0
  case neg=>
   obtain⟨hb1,hb2⟩:=aHz h0t hk;rw[<-hy]at hb1 hb2;have hT:=wE p l y (gP l t) hpf (jT hsp hgv) hsp hgv hb1;rw[<-hb2,rH htp]at hT;have:t=s:=by
    rcases bRo t s with h|h
    ·exact absurd (hr t hta h).1 hk
    ·omega
   subst this
   refine mF 10 rfl rfl ?_
   simp only[go_sem,bP0,bPw,bQ5,bQ4,sI,f3,f5,f6,e6,htp,hT.ret,kA,kF]
   refine⟨rfl,?_⟩
   rcases hfin _ _ hI2 hc with⟨h,_⟩|⟨_,h,_⟩|⟨_,_,h⟩
   ·omega
   ·exact absurd h hk
   ·exact h _
  obtain⟨_,ht0,hta'⟩:=wF hk;rw[<-hy]at ht0 hta';have hT:=wD p l y (gP l t) hpf (jT hsp hgv) hsp hgv ht0;rw[<-hta',rH htp]at hT;obtain⟨x,hx⟩: ∃x,x=(bR p l t).1:=⟨_,rfl⟩
  obtain⟨e,he⟩: ∃e,e=(bR p l t).2.1:=⟨_,rfl⟩
  rw[<-hx,<-he]at hT
  refine jQ ?_
  simp only[go_sem,f0,f3,f5,f6,e6,htp,hT.ret,evV,kA,kF];have hc7:=hc 7 (by decide)
  have hc8:=hc 8 (by decide)
  generalize hE:En.set (En.set (En.set (En.set en1 _ _) _ _) _ _) _ _=E;have ho:aWl c0 en1 E:=by rw[<-hE];exact(((xF (by decide) hc7).trans (xF (by decide) hc8)).trans (xF (by decide) hc7)).trans (xF (by decide) hc8)
  have E5:E ⟨0,5,g5⟩=some (.box y.cs false):=by rw[<-hE];simp only[go_sem,e6]
  have E7:E ⟨0,7,cnt 0 7⟩=some (.box [.fz (x.objs.map aQ.enc),.is x.tasks,.fz (x.outs.map bJ.enc),.is x.ins,.i x.used] false):=by rw[<-hE];simp only[go_sem]
  have hI3:=hst t _ _ E (aC (aC cnt 0 7 (cnt 0 7+1)) 0 8 (cnt 0 8+1)) hI2 ho (fun n u h=>bOe h) (fun u _=>aJs)
  have hc3: ∀u∈T3,c0 u<=aC (aC cnt 0 7 (cnt 0 7+1)) 0 8 (cnt 0 8+1) 0 u:=fun u hu=>bP2 (hc u hu) aJs
  have hd:aCl p l t=aO8 y x e:=by rw[aCl,hy,hx,he]
  rcases bRo t s with hlt|hge
  ·have hrt:=(hr t hta hlt).2 _ _ hI3 hc3;rw[hd]at hrt
   refine WIn.mono hrt ?_
   rintro v en' cnt' ⟨rfl,hI4,hin,hcc⟩
   have q5:=(hin 5 g5 (by decide) (bQf hg aJs) hc5).trans E5
   have q7:=(hin 7 (cnt 0 7) (by decide) (by simp[aC]) hc7).trans E7
   obtain⟨hn0,hn1⟩:=aJr hl hk;have hx1:(t+1)%aL l=0 \/x=(atX p l (t+1)).1:=hn1.imp_right fun h=>by rw[hx,h]
   simp only[go_sem,kK,f5,f6,q5,q7,bP3]
   refine⟨hlt,_,_,_,x,rfl,?_⟩
   simp only[go_sem,f0,f1,f2,f3,f5,aT htp hl.few,hl.ev];exact⟨hx1,hn0,hst _ _ _ _ _ hI4 (xF (by decide) hc5) (fun _ _ _=>rfl) (fun _ _=>bPq _),bQf hg (bP2 aJs (hcc 5 (by decide))),by omega,fun u hu=>bP2 (hc3 u hu) (hcc u hu)⟩
  ·have:t=s:=by omega
   subst this;rcases hfin _ _ hI3 hc3 with⟨h,_⟩|⟨_,_,hrt⟩|⟨_,h,_⟩
   ·omega
   ·rw[hd]at hrt
    refine WIn.mono hrt ?_
    rintro v en' cnt' ⟨rfl,hR⟩
    simp only[go_sem,kK,bP8];exact hR _
   ·exact absurd hk h
theorem aUj {e m:Nat}(he:1<=e)(h: ¬(m+1)%e=0):(m+1)/e=m/e:=by
 rw[Nat.succ_div,if_neg (fun h'=>h (Nat.mod_eq_zero_of_dvd h')),bQ9]
theorem aH0 {e:Nat}(h:n%e=0):n/e*e=n:=Nat.div_mul_cancel (Nat.dvd_of_mod_eq_zero h)
theorem aRa {p:aF}{l:bP}(hl:nQ l): ∀n,(atX p l n).2=0-> ∀t,n/aL l*aL l<=t->t<n->(bR p l t).2.2=0
 |0,_,t,_,h=>by omega
 |m+1,h0,t,h1,h2=>by
  by_cases hm:(m+1)%aL l=0
  ·rw[aH0 hm]at h1;omega
  ·rw[aMq hl.e1 hm]at h0
   by_cases ha:(atX p l m).2=0
   ·rw[if_pos ha]at h0
    by_cases ht:(dL p (atX p l m).1 (gP l m)).2.2=0
    ·rcases bRo t m with h|h
     ·exact aRa hl m ha t (by rw[<-aUj hl.e1 hm];exact h1) h
     ·obtain rfl:t=m:=by omega
      unfold bR;rw[if_pos ha,if_pos ht];exact ht
    ·rw[if_neg ht]at h0;exact absurd h0 ht
   ·rw[if_neg ha]at h0;exact absurd h0 ha
theorem aRb {p:aF}{l:bP}(hl:nQ l): ∀n,¬(atX p l n).2=0-> ∃s,n/aL l*aL l<=s/\ s<n/\ (∀t,n/aL l*aL l<=t->t<s->(bR p l t).2.2=0)/\ ¬(bR p l s).2.2=0/\ (bR p l s).2.2=(atX p l n).2
 |0,h=>by rw[zG hl.e1 (Nat.zero_mod _)]at h;exact absurd rfl h
 |m+1,h0=>by
  by_cases hm:(m+1)%aL l=0
  ·rw[zG hl.e1 hm]at h0;exact absurd rfl h0
  ·have hd:=aUj hl.e1 hm;have hle:=bS8 m (aL l);rw[hd];have hs:=aMq (p:=p) hl.e1 hm;rw[hs]at h0⊢
   by_cases ha:(atX p l m).2=0
   ·rw[if_pos ha]at h0⊢
    by_cases ht:(dL p (atX p l m).1 (gP l m)).2.2=0
    ·rw[if_pos ht]at h0;exact absurd rfl h0
    ·rw[if_neg ht]at h0⊢;have hk:(bR p l m).2.2=(dL p (atX p l m).1 (gP l m)).2.2:=by unfold bR;rw[if_pos ha,if_neg ht]
     exact⟨m,hle,by omega,aRa hl m ha,by rw[hk];exact ht,hk⟩
   ·rw[if_neg ha]at h0⊢;obtain⟨s,h1,h2,h3,h4,h5⟩:=aRb hl m ha;exact⟨s,h1,by omega,h3,h4,h5⟩
def AtI (p:aF)(l:bP)(fr0:Nat->Val)(t:Nat)(en:En)(_:Nat->Nat->Nat):Prop:=
 (∃fr1,en ⟨1,0,0⟩=some (.loop fr1 [40,41] (aZ.ops [o 8 (.alloc [.cl [],.cl [],.cl [],.cl [],.i 0,.cl [],.cl [],.cl [],.cl [],.i 0,.i 0,.i 0,.i 0,.i 0,.i 0]),sT 15 8 41]) (aZ.block 1 (.ops [fA 42 5 8,lT 43 5 42,sT 5 6 43])) .ready)/\ fr1 6=fr0 6)/\ en ⟨0,4,0⟩=some (.box [.cl [],.cl [],.cl [],.cl [],.i 0] false)/\ ∃w,en ⟨0,6,0⟩=some (.box [.fz (w.objs.map aQ.enc),.is w.tasks,.fz (w.outs.map bJ.enc),.is w.ins,.i w.used] false)/\ w=(atX p l t).1
variable {fr0:Nat->Val}
theorem bC3 (t:Nat):aWm (fun _=>0) (AtI p l fr0 t):=by
 rintro en cnt en' cnt' ⟨⟨fr1,h1,hf⟩,h2,w,h3,h4⟩ ho _ _
 exact⟨⟨fr1,(ho 1 0 0 (.inl (by decide))).trans h1,hf⟩,(ho 0 4 0 (.inr (.inl (by decide)))).trans h2,w,(ho 0 6 0 (.inr (.inl (by decide)))).trans h3,h4⟩
theorem bC4 (hf:fr0 6= .ptr ⟨0,6,0⟩ 0)(hn:(atX p l (t+1)).1=(bR p l t).1)(hI:AtI p l fr0 t en cnt):
  WIn L (.yld ⟨1,0,0⟩) [.i (t:Int),aCl p l t] en cnt fun v en' cnt'=>v= .bool true/\ AtI p l fr0 (t+1) en' cnt'/\ (∀u g,u∈T3->g<cnt 0 u->0<=g->en' ⟨0,u,g⟩=en ⟨0,u,g⟩)/\ ∀u∈T3,cnt 0 u<=cnt' 0 u:=by
 obtain⟨⟨fr1,h1,hf1⟩,h2,w,h3,h4⟩:=hI;rw[hf]at hf1
 refine aP2 (fr:=fr1) (ps:=[40,41]) (a:=(aZ.ops [o 8 (.alloc [.cl [],.cl [],.cl [],.cl [],.i 0,.cl [],.cl [],.cl [],.cl [],.i 0,.i 0,.i 0,.i 0,.i 0,.i 0]),sT 15 8 41])) (b:=(aZ.block 1 (.ops [fA 42 5 8,lT 43 5 42,sT 5 6 43]))) h1 rfl ?_
 simp only[go_sem,aCl,aO8,hf1,h1,h3]
 refine⟨⟨⟨_,by simp only[go_sem];rfl,?_⟩,by simp only[go_sem,h2],_,by simp only[go_sem],hn.symm⟩,fun u g hu hg _=>?_,fun u hu=>?_⟩
 ·simp only[go_sem,hf,hf1]
 ·simp only[T3,bQm,bSu,or_false]at hu;rcases hu with rfl|rfl|rfl
  ·simp only[go_sem]
  ·simp only[go_sem]
  ·simp only[go_sem,show¬g=cnt 0 8 by omega]
 ·simp only[aC];split
  ·rename_i h;obtain⟨_,rfl⟩:=h;omega
  ·exact bPq _
theorem aJt (hpf:p.few)(hsp:aR p=true)(hok:gY p l=true)(hn:n<=l.picks.length):
  ((atX p l n).2=0->PC L 63 [.fp [.i l.every,.is l.picks,.fz (l.marks.map aA.enc),.fz (p.nodes.map aM.enc),.fz (p.funs.map (.int .i64)),.i p.main,.fz (p.cons.map cS.enc)] 0,.i (n:Int)] (.agg (atX p l n).1.cs))/\ (¬(atX p l n).2=0->PX L 63 [.fp [.i l.every,.is l.picks,.fz (l.marks.map aA.enc),.fz (p.nodes.map aM.enc),.fz (p.funs.map (.int .i64)),.i p.main,.fz (p.cons.map cS.enc)] 0,.i (n:Int)] (aAp (atX p l n).2)):=by
 have hl:=nQ.of hok;obtain⟨a,ha⟩: ∃a,a=n/aL l*aL l:=⟨_,rfl⟩
 have han:a<=n:=by rw[ha];exact bS8 ..
 have hma:a%aL l=0:=by rw[ha];exact Nat.mul_mod_left ..
 have hlt:=hl.lt hn;have hia:=fun en=>sB (l:=l) (en:=en) hlt
 have hmul:=hl.mul hn;rw[<-ha]at hmul;have ht:=yB p l a n;have hda:a/aL l=n/aL l:=by rw[ha];exact Nat.mul_div_cancel _ (by have:=hl.e1;omega)
 have hma0:=zG (p:=p) hl.e1 hma;have hat:=aWk (p:=p) hl (bP2 han hn) hma;rw[hda]at hma0 hat;rw[aAq hlt]at hma0 hat;have hmw:l.marks[n/aL l]=(atX p l a).1:=by rw[hma0]
 have hnx: ∀t,a<=t->t<n->(bR p l t).2.2=0->(atX p l (t+1)).1=(bR p l t).1:=fun t h1 h2 h0=>by
  rcases(aJr hl h0).2 with h|h
  ·exfalso
   have h3:(t+1)/aL l*aL l=t+1:=aH0 h;have h4:(t+1)/aL l<=n/aL l:=Nat.div_le_div_right h2;have h5:=bQw (aL l) h4;rw[h3,<-ha]at h5;omega
  ·exact h
 rw[hmw]at hat hia;have hT:=fun fr0 (hf:fr0 6= .ptr ⟨0,6,0⟩ 0) R s (h1:a<=s) (h2:s<=n) (h3: ∀t,a<=t->t<s->(bR p l t).2.2=0)=>aUi (R:=R) (k:=⟨1,0,0⟩) (c0:=fun _=>0) (I:=AtI p l fr0) hpf hsp hok h1 h2 hn (fun _=>hat) (fun h=>absurd (by rw[hma0]) h) bC3
  (fun t q1 q2=>⟨h3 t q1 q2,fun en cnt hI _=>bC4 hf (hnx t q1 (bQf q2 h2) (h3 t q1 q2)) hI⟩)
 simp only[ply,hl.ev]at ht hat hT⊢
 refine⟨fun h0=>?_,fun h0=>?_⟩
 ·have hL:=at_ func63
  conv at hL=>rhs;reduce
  refine aI hL rfl rfl ?_
  simp only[go_sem,kK,hl.ne,hl.div,hl.wdiv hn,hmul,kF]
  refine aH ?_
  simp only[go_sem,hl.ne,hl.div,hl.wdiv hn,hia,kA,kF];simp only[go_sem,ht.ret]
  refine aFm (by simp only[go_sem];rfl) ?_
  rintro fr0 k hf hk
  obtain rfl:k=⟨1,0,0⟩:=hk
  refine bD aS2 rfl rfl ?_
  refine hT fr0 (by rw[hf];simp only[go_sem]) _ n han (bPq n) (fun t h1 h2=>aRa hl n h0 t (by rw[<-ha];exact h1) h2) (fun en cnt hI _=> .inl ⟨rfl,fun e fr he=>?_⟩) ?_ (fun _ _=>bPx _)
  ·obtain⟨⟨fr1,i1,_⟩,i4,w,i6,rfl⟩:=hI
   refine⟨by rcases he with rfl|rfl<;>rfl,?_⟩
   simp only[go_sem,aOd,i1,i4,i6]
  ·refine⟨⟨_,by simp only[go_sem],rfl⟩,by simp only[go_sem],_,by simp only[go_sem],rfl⟩
 ·obtain⟨s,h1,h2,h3,h4,h5⟩:=aRb hl n h0;rw[<-ha]at h1 h3;have hL:=at_ func63
  conv at hL=>rhs;reduce
  refine aIg hL rfl rfl ?_
  simp only[go_sem,kK,hl.ne,hl.div,hl.wdiv hn,hmul,kF]
  refine aH ?_
  simp only[go_sem,hl.ne,hl.div,hl.wdiv hn,hia,kA,kF];simp only[go_sem,ht.ret]
  refine aOa (by simp only[go_sem];rfl) ?_
  rintro fr0 k hf hk
  obtain rfl:k=⟨1,0,0⟩:=hk
  refine cC aS2 rfl rfl ?_
  refine hT fr0 (by rw[hf];simp only[go_sem]) _ s h1 (bRn h2) h3 (fun en cnt hI _=> .inr (.inr ⟨h2,h4,fun fr=>?_⟩)) ?_ (fun _ _=>bPx _)
  ·rw[h5]
   done
  ·refine⟨⟨_,by simp only[go_sem],rfl⟩,by simp only[go_sem],_,by simp only[go_sem],rfl⟩
set_option maxRecDepth 100000
set_option maxHeartbeats 4000000
theorem pH (p:aF)(l:bP):aEu p l=gY p l:=by
 rw[bRd];simp only[aEu,gY,bY,inR,aL,bPp,bQ2,Bool.or_eq_false_iff,Bool.not_eq_false',bTe,bTf,bPv];constructor
 ·rintro⟨⟨⟨⟨h1,h2⟩,h3⟩,h4⟩,h5⟩
  have hd:(l.marks.length:Int)=((l.picks.length/l.every.toNat+1:Nat):Int):=by
   rw[h4,bTd (by omega)]
   have:l.every=(l.every.toNat:Int):=by omega
   rw[this];rfl
  have hl:l.marks.length=l.picks.length/l.every.toNat+1:=by exact_mod_cast hd
  have hne:l.marks≠[]:=by intro h;rw[h]at hl;simp at hl
  obtain⟨w,hw⟩:=List.exists_mem_of_ne_nil _ hne;exact⟨⟨⟨⟨(h5 w hw).1,by omega⟩,by omega⟩,D_t hl⟩,fun w hw=>(h5 w hw).2⟩
 ·rintro⟨⟨⟨⟨h1,h2⟩,h3⟩,h4⟩,h5⟩
  refine⟨⟨⟨⟨by omega,by omega⟩,by omega⟩,?_⟩,fun w hw=>⟨h1,h5 w hw⟩⟩
  rw[D_o h4,bTd (by omega)]
  have:l.every=(l.every.toNat:Int):=by omega
  rw[this];rfl
def bGi (p:aF)(l:bP)(t:Nat):Prop:=(t+1)%aL l=0/\ ¬(bR p l t).1=aCh l ((t+1)/aL l)
instance (p :aF)(l:bP)(t:Nat):Decidable (bGi p l t):=by unfold bGi;exact inferInstance
def atR (p:aF)(l:bP)(n:Int):aA×Int×Int:=
 if gY p l=true/\ 0<=n/\ n<=(l.picks.length:Int)then(if(atX p l n.toNat).2=0 then((atX p l n.toNat).1,n%(aL l:Int),0)else(kD,0,(atX p l n.toNat).2))else(kD,0,2)
def bC8 (act:Int):Prop:=act=17 \/act=18 \/act=22 \/act=23 \/act=20
instance {act :Int}:Decidable (bC8 act):=by unfold bC8;infer_instance
variable {k:Int}{v:aD}
theorem bC9 (h:cK w v k=true):v.kind=5:=by simp only[cK,bPp,bTe]at h;exact h.1
variable {pick:Int}
theorem aMv {a:Int}(ha:inR a 0 ((w.tasks.length:Int)-1)=true):bG w a∈w.tasks:=by
 simp only[inR,bTe]at ha;unfold bG;rw[bPu,bQz (by omega)]
 exact bPz _
def bOf (p:aF)(w:aA)(e:iD):Int:=
 if bC8 e.act then bIb (bI p w 0).1 e.task else if e.act=16 \/e.act=21 \/e.act=19 then((bI p w 0).1.objs.length:Int)else-1
theorem aXr {o:aQ}(hv:v∈oJ o)(h5:v.kind=5):v.n∈vD o:=by
 have hr:aIr v=true:=D_t h5;unfold oJ at hv;unfold vD;rcases bQe.1 hv with hv|hv
 ·exact bR1 _ (aB8 hv hr)
 ·obtain⟨f,hf,hv⟩:=bQ3.1 hv
  refine bRv _ (bQ3.2 ⟨f,hf,?_⟩)
  unfold yT;rcases bQe.1 hv with hv|hv
  ·exact bR1 _ (aB8 hv hr)
  ·exact bRv _ (aB8 hv hr)
def aUk (p:aF)(l:bP)(object:Int)(t:Nat):Prop:=((bR p l t).2.1.act=16 \/(bR p l t).2.1.act=18)/\ bOf p (atX p l t).1 (bR p l t).2.1=object
instance {p :aF}{l:bP}{object:Int}{t:Nat}:Decidable (aUk p l object t):=by unfold aUk;infer_instance
variable {s:Nat}
theorem wG (h:bY p w=true)(ha:a<w.tasks.length):bY p (aV p w a).w=true/\ ((aV p w a).what=0->(aV p w a).e=eB/\ (aV p w a).w.tasks=w.tasks)/\
  ((aV p w a).what=1->(aV p w a).e.task=(a:Int)/\ (¬(aV p w a).e.act=0 \/ ¬(aV p w a).e.n=0))/\ ((aV p w a).what=0 \/(aV p w a).what=1 \/(aV p w a).what=2):=by
 simp only[bY,bPp]at h⊢;have hi:inR (a:Int) 0 ((w.tasks.length:Int)-1)=true:=by simp[inR];omega
 have hti:=xB _ _ (by have:=(cR.1 h.2).2.2.2.2.1;simp only[jI,bPp]at this;exact this.2) (bG w a) (aMv hi)
 have h0:0<=bG w a:=by have:=hti.1;simp only[inR,bTe]at this;exact this.1
 obtain⟨c1,c2,c3,_⟩:=zF (p:=p) h0 hi;exact⟨⟨h.1,(kM (lV h.1) (tS h.2) hi).ok⟩,fun hw=>⟨(c1 hw).1,(c1 hw).2.1⟩,c2,c3⟩
structure aO9 (w w':aA):Prop where
 le:w.objs.length<=w'.objs.length
 same: ∀i:Nat,i<w.objs.length->w'.obj i=w.obj i \/((w.obj i).form=6/\ (w'.obj i).form=6)
def InV (w:aA)(v:aD):Prop:=v.kind=5->inR v.n 0 ((w.objs.length:Int)-1)=true
variable {w':aA}
section
variable (h:aO9 w w')(hin:aAj w)
include h
theorem aZ0 (hv:InV w v)(h5:v.kind=5):w'.obj v.n=w.obj v.n \/((w.obj v.n).form=6/\ (w'.obj v.n).form=6):=by
 have:=hv h5;simp only[inR,bTe]at this;obtain⟨i,hi⟩:=bQv this.1;rw[hi];exact h.same i (by omega)
theorem aMw (hv:InV w v)(hk: ¬k=6):cK w' v k=cK w v k/\ (cK w v k=true->w'.obj v.n=w.obj v.n):=by
 unfold cK
 by_cases h5:v.kind=5
 ·rcases aZ0 h hv h5 with e|⟨e1,e2⟩
  ·rw[e];exact⟨rfl,fun _=>rfl⟩
  ·have n1: ¬(w.obj v.n).form=k:=by rw[e1];exact fun h=>hk h.symm
   have n2: ¬(w'.obj v.n).form=k:=by rw[e2];exact fun h=>hk h.symm
   simp[n1,n2]
 ·simp[h5]
theorem aUl {f:aD}(hf:InV w f):eP p w' f v=eP p w f v:=by
 unfold eP;obtain⟨e1,e2⟩:=aMw h hf (k:=2) (by decide)
 rw[e1]
 by_cases hc:cK w f 2=true
 ·rw[e2 hc]
 ·rw[if_neg hc,if_neg hc]
end
theorem bFd (hin:aAj w)(hv:InV w v)(ho:cK w v k=true): ∀u∈(w.obj v.n).vals,InV w u:=by
 intro u hu h5;have h5':=bC9 ho;have:=hv h5';simp only[inR,bTe]at this;obtain⟨i,hi⟩:=bQv this.1;have hil:i<w.objs.length:=by omega
 rw[hi,aOk hil]at hu;exact hin _ (bPz hil) _ (aXr (bR1 _ hu) h5)
mutual
theorem aI5 {w w':aA}(h:aO9 w w')(hin:aAj w): ∀(q:Pat) {v:aD},InV w v->fP w' q v=fP w q v
 | .mk f n t ps,v,hv=>by
  unfold fP;split
  ·rfl
  split
  ·rfl
  split
  ·rfl
  split
  ·rfl
  split
  ·rfl
  obtain⟨e1,e2⟩:=aMw h hv (k:=1) (by decide)
  by_cases hc:cK w v 1=true
  ·rw[e1,e2 hc];split
   ·exact aGw h hin ps (bFd hin hv hc)
   ·rfl
  ·rw[if_neg (fun x=>hc (by rw[<-e1];exact x.1)),if_neg (fun x=>hc x.1)]
theorem aGw {w w':aA}(h:aO9 w w')(hin:aAj w): ∀(ps:List Pat) {vs:List aD},(∀v∈vs,InV w v)->fB w' ps vs=fB w ps vs
 |[],vs,_=>by unfold fB;rfl
 |q::ps,[],_=>by unfold fB;rfl
 |q::ps,v::vs,hv=>by
  unfold fB;rw[aI5 h hin q (hv v (by simp)),aGw h hin ps (fun u hu=>hv u (by simp[hu]))]
end
def plR :OpR->Bool
 | .go none _ _ _=>true
 |_=>false
theorem aJu {a:Int}{R:OpR}:(R.did w a).what=0↔plR R=true:=by
 cases R with
 |go ev w' l b=>cases ev<;>simp[OpR.did,plR]
 |wait=>simp[OpR.did,plR,mL]
 |fail s=>simp[OpR.did,plR,bE]
variable {env:List aD}{left:List aB}{node:Int}
theorem aUm {env':List aD}(w':aA)(he:env'.length=env.length):plR (kC w' left node env')=plR (kC w left node env):=by
 unfold kC rO;simp only[he,bP9,bPy,bP7];split
 ·rfl
 ·split<;>rfl
theorem aGx (w':aA):plR (kC w' left node env)=plR (kC w left node env):=aUm w' rfl
theorem aMx {w w':aA}(h:aO9 w w')(hin:aAj w){left:List aB}{kids:List Int}{env:List aD}{u:aD}(hu:InV w u): ∀(l:List Pat) (i:Nat),plR (eL w' left kids env u i l)=plR (eL w left kids env u i l)
 |[],i=>rfl
 |q::qs,i=>by
  simp only[eL];rw[aI5 h hin q hu];cases fP w q u with
  |some l=>exact aGx w'
  |none=>exact aMx h hin hu qs (i+1)
theorem aXs (h:w.objs.length<=w'.objs.length){o o':aQ}{k k':aA->aD->OpR}(hk:plR (k' (eC w' o') (dN w'.objs.length))=true->plR (k (eC w o) (dN w.objs.length))=true):plR (iU w' o' k')=true->plR (iU w o k)=true:=by
 unfold iU
 by_cases h1:120<=w'.objs.length
 ·rw[if_pos h1];exact fun h=>by cases h
 ·rw[if_neg h1,if_neg (by omega)];exact hk
variable {x':OpR}
theorem bDb {c:Prop}[Decidable c]{x y y':OpR}(hx:c->plR x'=true->plR x=true)(hy: ¬c->plR y'=true->plR y=true):plR (if c then x' else y')=true->plR (if c then x else y)=true:=by
 by_cases h:c
 ·rw[if_pos h,if_pos h];exact hx h
 ·rw[if_neg h,if_neg h];exact hy h
theorem bDc {x:OpR}(h:plR x'=false):plR x'=true->plR x=true:=fun h'=>by rw[h]at h';cases h'
theorem aXt {o:aQ}{k:aA->aD->OpR}(h:plR (k (eC w o) (dN w.objs.length))=false):plR (iU w o k)=false:=by
 unfold iU;split
 ·rfl
 ·exact h
theorem aZ1 (h:aO9 w w')(hin:aAj w){a:Int}{f:aB}{n:aM}(hv: ∀v∈f.vals,InV w v):plR (opR p w' a left f n)=true->plR (opR p w a left f n)=true:=by
 have hv0:InV w (aE f.vals 0):=by
  unfold aE;rw[bPu];cases hg:f.vals[0]? with
  |none=>intro h;cases h
  |some x=>exact hv x (List.mem_of_getElem? hg)
 unfold opR
 repeat' (with_reducible refine bDb (fun _=>?_) (fun _=>?_))
 all_goals first
  |exact fun _=>rfl
  |exact fun hp=>(aGx w').symm.trans hp
  |exact fun hp=>(aGx w').trans hp
  |exact aXs h.le (fun _=>rfl)
  |exact fun hp=>(aMx h hin hv0 _ _).symm.trans hp
  |exact bDc rfl
  |exact bDc (aXt rfl)
  |(refine bDc ?_;(repeat' split)<;>(first|rfl|exact aXt rfl))
  |skip
 ·rw[aUl h hv0];obtain⟨e1,e2⟩:=aMw h hv0 (k:=5) (by decide)
  cases eP p w (aE f.vals 0) (aE f.vals 1)with
  |some b=>exact fun hp=>(aGx w').symm.trans hp
  |none=>
   simp only
   by_cases hc:cK w (aE f.vals 0) 5=true
   ·rw[e1,if_pos hc,if_pos hc,e2 hc];exact bDb (fun _ h=>h) (fun _ _=>rfl)
   ·rw[e1,if_neg hc,if_neg hc];exact id
 ·cases fX p left left.length with
  |zero=>exact id
  |succ k=>exact aXs h.le (fun hp=>(aUm _ (by simp)).symm.trans hp)
theorem aZ2 {a:Int}(ha:inR a 0 ((w.tasks.length:Int)-1)=true)(h:(aV p w a).what=0): ∃w' l b,(aV p w a).w=dW w' (bG w' a) ⟨6,0,b,l⟩/\ w'.tasks=w.tasks/\ w.objs<+:w'.objs:=by
 have key: ∀{R:OpR},Go.Abs.Calm w a R->(R.did w a).what=0-> ∃w' l b,(R.did w a).w=dW w' (bG w' a) ⟨6,0,b,l⟩/\ w'.tasks=w.tasks/\ w.objs<+:w'.objs:=by
  intro R hR hw;cases R with
  |go ev w' l b=>
   cases ev with
   |none=>exact⟨w',l,b,rfl,hR.1,hR.2.1⟩
   |some e=>exact absurd (show(1:Int)=0 from hw) (by decide)
  |wait=>exact absurd (show(2:Int)=0 from hw) (by decide)
  |fail s=>exact absurd (show(1:Int)=0 from hw) (by decide)
 revert h
 unfold aV
 simp only
 split
 ·exact fun h=>absurd (show(2:Int)=0 from h) (by decide)
 split
 ·split
  ·exact fun h=>absurd (show(1:Int)=0 from h) (by decide)
  ·exact fun _=>⟨w,_,_,rfl,rfl,bSo _⟩
 split
 ·rw[sA];exact key aDh
 ·unfold rN;rw[aB5 ha];exact key aUe
theorem aWo (hg:bY p w=true)(ha:a<w.tasks.length)(hb:b<w.tasks.length)(hab: ¬a=b)(h0: ¬(aV p w a).what=0)(hbp:(aV p w b).what=0): ¬(aV p (aV p w b).w a).what=0:=by
 have hgw:cX p w=true:=by simp only[bY,bPp]at hg;exact hg.2
 have hia:inR (a:Int) 0 ((w.tasks.length:Int)-1)=true:=by simp only[inR,bTe];omega
 have hib:inR (b:Int) 0 ((w.tasks.length:Int)-1)=true:=by simp only[inR,bTe];omega
 have htk:=(cR.1 hgw).2.2.2.2.1;simp only[jI,bPp]at htk;obtain⟨hd1,hd2,_⟩:=vL w _ _ htk.2;have hti:=hd1 _ (aMv hia);have htj:=hd1 _ (aMv hib);simp only[inR,bTe]at hti htj;obtain⟨i,hi⟩:=bQv hti.1.1;obtain⟨j,hj⟩:=bQv htj.1.1;have hij: ¬i=j:=by
  intro e;have h1:(w.tasks.map Int.toNat)[a]?=some i:=by
   have:bG w a=w.tasks[a]:=by simp[bG,ha]
   rw[List.getElem?_map,bQz ha,<-this,hi];rfl
  have h2:(w.tasks.map Int.toNat)[b]?=some j:=by
   have:bG w b=w.tasks[b]:=by simp[bG,hb]
   rw[List.getElem?_map,bQz hb,<-this,hj];rfl
  exact hab ((List.getElem?_inj (by simpa using ha) hd2).1 (by rw[h1,h2,e]))
 obtain⟨w1,l,bk,e1,e2,e3⟩:=aZ2 hib hbp;have ht1:bG w1 b=(j:Int):=by rw[aMp e2,hj]
 rw[ht1]at e1;obtain⟨w',hw'⟩: ∃w',w'=(aV p w b).w:=⟨_,rfl⟩
 rw[<-hw']at e1⊢;have hle:w.objs.length<=w'.objs.length:=by rw[e1];simp only[dW,bRp];exact e3.length_le
 have hot: ∀k:Nat,k<w.objs.length-> ¬k=j->w'.obj k=w.obj k:=fun k hk hkj=>by
  rw[e1,aXp (by simpa using hkj)]
  exact aMo e3 hk
 have hA:aO9 w w':=⟨hle,fun k hk=>by
  rcases Decidable.em (k=j)with rfl|hkj
  ·refine .inr ⟨by have:=htj.2;rw[hj]at this;exact D_o this,?_⟩
   have hk1:k<w1.objs.length:=bQf hk e3.length_le;rw[e1];simp[aA.obj,dW,hk1]
  ·exact .inl (hot k hk hkj)⟩
 have hin:aAj w:=fun o ho x hx=>bBz hg o ho x ((aTi _ _).2 hx)
 have htk':w'.tasks=w.tasks:=by rw[e1];exact e2
 have hta:bG w' a=bG w a:=aMp htk';have hil:i<w.objs.length:=by omega
 have hob:w'.obj (bG w a)=w.obj (bG w a):=by rw[hi];exact hot i hil hij
 intro hp;apply h0
 revert hp
 unfold aV;simp only[hta,hob];split
 ·exact fun h=>absurd (show(2:Int)=0 from h) (by decide)
 split
 ·split
  ·exact id
  ·exact fun _=>rfl
 split
 ·rw[sA,sA,aJu,aJu,aGx w'];exact id
 ·unfold rN;rw[aB5 hia,aB5 (by rw[htk'];exact hia),aJu,aJu]
  refine aZ1 hA hin fun v hv h5=>?_
  have hfl:0<(w.obj (bG w a)).frames.length:=by
   cases hfr:(w.obj (bG w a)).frames with
   |nil=>rw[hfr]at hv;cases hv
   |cons=>simp
  rw[bPu,bQz (by omega)]at hv
  have hom:w.obj (bG w a)∈w.objs:=by rw[hi,aOk hil];exact bPz _
  exact hin _ hom _ (aXr (bRv _ (bQ3.2 ⟨_,bPz _,bRv _ hv⟩)) h5)
def aMy (p:aF)(w:aA)(n:Nat):Prop:= ∀a:Nat,a<n->a<w.tasks.length-> ¬(aV p w a).what=0
theorem aMz {p:aF}{b:Nat}: ∀(k:Nat) {w:aA},bY p w=true->b<w.tasks.length->aMy p w b->(dG p b k w).2.2=true->
  bY p (dG p b k w).1=true/\ (dG p b k w).1.tasks=w.tasks/\ aMy p (dG p b k w).1 (b+1)
 |0,w,hg,hb,hc,h=>by
  rw[dG]at h⊢
  by_cases h0:(aV p w b).what=0
  ·rw[if_pos h0]at h;cases h
  ·rw[if_neg h0]
   refine⟨hg,rfl,fun a h1 h2=>?_⟩
   rcases bRo a b with h|h
   ·exact hc a h h2
   ·obtain rfl:a=b:=by omega
    exact h0
 |k+1,w,hg,hb,hc,h=>by
  rw[dG]at h⊢
  by_cases h0:(aV p w b).what=0
  ·rw[if_pos h0]at h⊢;obtain⟨g1,g2,_⟩:=wG hg hb;have ht:=(g2 h0).2;obtain⟨i1,i2,i3⟩:=aMz k g1 (by rw[ht];exact hb) (fun a h1 h2=>by
    rw[ht]at h2;exact aWo hg h2 hb (by omega) (hc a h1 h2) h0) h
   exact⟨i1,i2.trans ht,i3⟩
  ·rw[if_neg h0]
   refine⟨hg,rfl,fun a h1 h2=>?_⟩
   rcases bRo a b with h|h
   ·exact hc a h h2
   ·obtain rfl:a=b:=by omega
    exact h0
theorem aGy {p:aF}: ∀(n b:Nat) {w:aA} {s:Nat},bY p w=true->w.tasks.length<=b+n->aMy p w b->(eW p n b w s).2.2=true->bY p (eW p n b w s).1=true/\ aMy p (eW p n b w s).1 (eW p n b w s).1.tasks.length
 |0,b,w,s,hg,hl,hc,_=>⟨hg,fun a h1 h2=>hc a (by have:a<w.tasks.length:=h1;omega) h2⟩
 |n+1,b,w,s,hg,hl,hc,h=>by
  rw[eW]at h⊢
  by_cases hb:b<w.tasks.length
  ·rw[if_pos hb]at h⊢
   by_cases hi:(dG p b (5000-s) w).2.2=true
   ·rw[if_pos hi]at h⊢;obtain⟨i1,i2,i3⟩:=aMz _ hg hb hc hi;exact aGy n (b+1) i1 (by rw[i2];omega) i3 h
   ·rw[if_neg hi]at h;cases h
  ·rw[if_neg hb];exact⟨hg,fun a h1 h2=>hc a (by have:a<w.tasks.length:=h1;omega) h2⟩
theorem aI6 (hg:bY p w=true)(h:(bI p w s).2.2=true):bY p (bI p w s).1=true/\ aMy p (bI p w s).1 (bI p w s).1.tasks.length:=by
 refine aGy 121 0 hg ?_ (fun a h1=>absurd h1 (Nat.not_lt_zero a)) h
 simp only[bY,bPp]at hg;have hw:=cR.1 hg.2;have:=rE hw.2.2.2.2.1;omega
variable {xs:List Val}
theorem aUn :(Val.cl xs).cells=[Val.cl xs]:=(rfl)
theorem bDd :(Val.cl xs).one=true:=(rfl)
def tG (p:aF)(w:aA)(every:Int):bP×Int:=if bY p w=true/\ 1<=every/\ every<=20 then aCj p w every else(kW,2)
theorem aNl (hpf:p.few)(hwf:w.few)(hsp:aR p=true)(every:Int):PC L 37 [.agg p.cs,.agg w.cs,.i every] (.tup [bP.enc (tG p w every).1,.i (tG p w every).2]):=by
 unfold tG;have hC:=aDw p w hpf hwf hsp;have hL:=at_ func37
 conv at hL=>rhs;reduce
 refine aI hL rfl rfl ?_
 simp only[go_sem,kK,kF]
 refine aEs ?_
 simp only[go_sem,kK]
 by_cases hg:bY p w=true/\ 1<=every/\ every<=20
 case neg=>
  rw[if_neg hg]
  refine dK 12 rfl ?_
  have hc:bY p w=false \/(bY p w=true/\ ¬1<=every) \/(bY p w=true/\ 1<=every/\ ¬every<=20):=by
   cases h:bY p w
   ·exact .inl rfl
   ·rw[h]at hg;refine .inr ?_;simp only[true_and]at hg⊢;omega
  rcases hc with h1|⟨h1,h2⟩|⟨h1,h2,h3⟩
  all_goals rw[h1]at hC
  case' inr.inr=>simp only[go_sem,kK,bP0,bPw,hC.ret,D_t h2,D_f h3,(cY _).ret,kF]
  case' inr.inl=>simp only[go_sem,kK,bP0,bPw,hC.ret,D_f h2,(cY _).ret,kF]
  case' inl=>simp only[go_sem,kK,bP0,bPw,hC.ret,(cY _).ret,kF]
  all_goals
   refine⟨rfl,cZ (x:= .i 0) rfl ?_⟩
   have hL:=at_ func94
   conv at hL=>rhs;reduce
   refine bD hL rfl rfl ?_
   simp only[go_sem];rfl
 rw[if_pos hg];obtain⟨h1,h2,h3⟩:=hg;rw[h1]at hC
 refine cA ?_
 simp only[go_sem,kK,hC.ret,D_t h2,D_t h3,(fC _).ret,kF];have hS:=aMr p w hpf hwf hsp;unfold aCj
 by_cases hs:(bI p w 0).2.2=true
 ·have hM:xE p w=((bI p w 0).1,(bI p w 0).2.1,0):=by unfold xE;rw[if_pos h1,if_pos hs]
  rw[hM]at hS;rw[if_pos hs];simp only[go_sem,hS.ret]
  refine cA ?_
  simp only[go_sem,(fC _).ret,aUn,bDd,kF]
  refine⟨rfl,oA rfl ?_⟩
  simp only[go_sem];rfl
 ·have hM:(xE p w).2.2=8:=by unfold xE;rw[if_pos h1,if_neg hs]
  rw[if_neg hs];simp only[go_sem,hS.ret,hM]
  refine dK 3 rfl ?_
  simp only[go_sem,bP0,bPw,(cY _).ret]
  refine⟨rfl,cZ (x:= .i 8) rfl ?_⟩
  have hL:=at_ func94
  conv at hL=>rhs;reduce
  refine bD hL rfl rfl ?_
  simp only[go_sem];rfl
theorem nQ.mks (h:nQ l):l.marks.length<=201:=by
 have h1:=h.mn;have:=h.pk;have h2:=Nat.div_le_self l.picks.length (aL l);generalize l.picks.length/aL l=q at h1 h2;omega
def aWp (p:aF)(l:bP)(n:Int):bP×Int:=if gY p l=true/\ 0<=n/\ n<=(l.picks.length:Int)then(aJi l n.toNat,0)else(kW,2)
theorem aUo (hpf:p.few)(hlf:l.few)(hsp:aR p=true)(n:Int):PC L 44 [.agg p.cs,.agg [.i l.every,.is l.picks,.fz (l.marks.map aA.enc)],.i n] (.tup [bP.enc (aWp p l n).1,.i (aWp p l n).2]):=by
 unfold aWp;have hL:=at_ func44
 conv at hL=>rhs;reduce
 refine aI hL rfl rfl ?_
 simp only[go_sem,kK,kF]
 refine aEs ?_
 simp only[go_sem,kK]
 by_cases hok:gY p l=true
 case neg=>
  rw[if_neg (fun h=>hok h.1)]
  refine dK 2 rfl ?_
  simp only[go_sem,bP0,bPw,(zI p l hpf hlf hsp (by rw[pH];simpa using hok)).ret]
  refine⟨rfl,cZ (x:= .i 0) rfl ?_⟩
  have hL:=at_ func108
  conv at hL=>rhs;reduce
  refine bD hL rfl rfl ?_
  simp only[go_sem];rfl
 have hl:=nQ.of hok;have hP:=zH p l hpf hlf hsp (by rw[pH];exact hok)
 refine cA ?_
 simp only[go_sem,hP.ret,kF]
 by_cases hn:0<=n/\ n<=(l.picks.length:Int)
 case neg=>
  rw[if_neg (fun h=>hn h.2)]
  refine dK 9 rfl ?_
  have hc: ¬0<=n \/(0<=n/\ ¬n<=(l.picks.length:Int)):=by omega
  rcases hc with h1|⟨h1,h2⟩
  case' inr=>simp only[go_sem,kK,bP0,bPw,D_t h1,D_f h2,bPr,(cY _).ret]
  case' inl=>simp only[go_sem,kK,bP0,bPw,D_f h1,(cY _).ret]
  all_goals
   refine⟨rfl,cZ (x:= .i 0) rfl ?_⟩
   have hL:=at_ func108
   conv at hL=>rhs;reduce
   refine bD hL rfl rfl ?_
   simp only[go_sem];rfl
 rw[if_pos ⟨hok,hn⟩]
 refine cA ?_
 simp only[go_sem,kK,D_t hn.1,D_t hn.2,bPr,(fC _).ret,kF];obtain⟨m,rfl⟩:=bQv hn.1;rw[bQo];have hm:m<=l.picks.length:=by omega
 have hlt:=hl.lt hm;have hcp:PC L 106 [bP.enc (aJi l m)] (bP.enc (aJi l m)):=by
  have hmk: ∀w∈(aJi l m).marks,w∈l.marks:=fun w hw=>bR0 hw
  have hpk:=hl.pk
  refine aMt (aJi l m) ⟨?_,?_,fun w hw=>hlf.2.2 w (hmk w hw)⟩ ?_ ?_ fun w hw=>?_
  ·show(l.picks.take m).length<=_;rw[bQx];omega
  ·show(l.marks.take (m/aL l+1)).length<=_;rw[bQx];have:=hl.mks;exact bP2 (Nat.min_le_right _ _) (by omega)
  ·show(l.picks.take m).length<=_;rw[bQx];omega
  ·show(l.marks.take (m/aL l+1)).length<=_;rw[bQx];have:=hl.mks;exact bP2 (Nat.min_le_right _ _) (by omega)
  ·have hok':=(nF hok);exact lW hsp (hok'.2.2.2.2 w (hmk w hw))
 simp only[bP.enc,aJi,Val.is,bRe]at hcp⊢;have hle:m/aL l+1<=l.marks.length:=hlt;simp only[hl.ev]at hcp;have hw1:IntKind.i64.wrap (((m/aL l:Nat):Int)+1)=((m/aL l+1:Nat):Int):=by have:=hl.mks;generalize m/aL l=q at hlt⊢;rw[aW (by omega)];rfl
 simp only[go_sem,hl.ev,hl.ne,hl.div,hl.wdiv hm,bPr,hm,hle,hw1,hcp.ret,kF]
 refine⟨rfl,oA rfl ?_⟩
 simp only[go_sem]
def aZ3 (p:aF)(l:bP)(pick:Int):bP×iD×Int:=if gY p l=true then aMs p l pick else(kW,eB,2)
noncomputable def aUp :{c//L 104=some c}:=by
 have hL:=at_ func104
 conv at hL=>rhs;reduce
 exact⟨_,hL⟩
theorem aUq (hpf:p.few)(hlf:l.few)(hsp:aR p=true)(pick:Int):PC L 43 [.agg p.cs,.agg l.cs,.i pick] (.tup [bP.enc (aZ3 p l pick).1,evV (aZ3 p l pick).2.1,.i (aZ3 p l pick).2.2]):=by
 unfold aZ3;have hL:=at_ func43
 conv at hL=>rhs;reduce
 refine aI hL rfl rfl ?_
 simp only[go_sem,kK,kF]
 refine aEs ?_
 simp only[go_sem,kK]
 by_cases hok:gY p l=true
 case neg=>
  rw[if_neg hok]
  refine dK 2 rfl ?_
  simp only[go_sem,bP0,bPw,(zI p l hpf hlf hsp (by rw[pH];simpa using hok)).ret]
  refine⟨rfl,cZ (x:= .i 0) rfl ?_⟩
  refine bD aUp.2 rfl rfl ?_
  simp only[go_sem,aUp];rfl
 have hl:=nQ.of hok;have hP:=zH p l hpf hlf hsp (by rw[pH];exact hok)
 rw[if_pos hok]
 refine cA ?_
 simp only[go_sem,hP.ret,bPr,kF];unfold aMs
 by_cases hn:200<=l.picks.length
 case pos=>
  rw[if_pos hn]
  refine dK 2 rfl ?_
  simp only[go_sem,bP0,bPw,show decide ((l.picks.length:Int)<200)=false from D_f (by omega),(cY _).ret]
  refine⟨rfl,cZ (x:= .i 0) rfl ?_⟩
  refine bD aUp.2 rfl rfl ?_
  simp only[go_sem,aUp];rfl
 rw[if_neg hn]
 refine cA ?_
 simp only[go_sem,show decide ((l.picks.length:Int)<200)=true from D_t (by omega),(fC _).ret,kF]
 obtain⟨o1,o2⟩:=aJt hpf hsp hok (bPq l.picks.length)
 by_cases h0:(atX p l l.picks.length).2=0
 case neg=>
  rw[if_neg h0]
  refine dK 3 rfl ?_
  simp only[go_sem,bP0,bPw,(o2 h0).ret]
  refine⟨rfl,cZ (x:= .i 0) rfl ?_⟩
  refine bD aUp.2 rfl rfl ?_
  simp only[go_sem,aUp];rfl
 rw[if_pos h0];have hg:=pB hok (bPq _) h0
 by_cases h2:(dL p (atX p l l.picks.length).1 pick).2.2=0
 case neg=>
  have hX:=wE p l (atX p l l.picks.length).1 pick hpf (jT hsp hg) hsp hg h2;rw[if_neg h2]
  refine dK 5 rfl ?_
  simp only[go_sem,bP0,bPw,(o1 h0).ret,hX.ret,kF]
  refine⟨rfl,cZ (x:= .i 0) rfl ?_⟩
  refine bD aUp.2 rfl rfl ?_
  simp only[go_sem,aUp];rfl
 rw[if_pos h2];have hT:=wD p l (atX p l l.picks.length).1 pick hpf (jT hsp hg) hsp hg h2;generalize hr:dL p (atX p l l.picks.length).1 pick=r at*
 refine cA ?_
 simp only[go_sem,(o1 h0).ret,hT.ret,evV,kF];have hmf: ∀w∈l.marks,bW w=true:=fun w hw=>lW hsp ((nF hok).2.2.2.2 w hw)
 refine WIn.mono (aWj hlf (by omega) (by have:=hl.mks;omega) hmf (g3:=1) rfl rfl rfl) ?_
 rintro x en' cnt' ⟨vP,v,rfl,mP,hv,hO⟩
 have k6:en' ⟨0,6,0⟩=some (.box [.i 0,.cl [],.cl []] false):=by rw[hO 0 6 0 (.inr (.inl (by decide)))];simp only[go_sem]
 have k7:en' ⟨0,7,0⟩=some (.box [.i r.2.1.task,.i r.2.1.act,.i r.2.1.n,.i r.2.1.v.kind,.i r.2.1.v.n] false):=by rw[hO 0 7 0 (.inr (.inl (by decide)))];simp only[go_sem]
 have k8:en' ⟨0,8,0⟩=some (.box [.i 0] false):=by rw[hO 0 8 0 (.inr (.inl (by decide)))];simp only[go_sem]
 have k11:en' ⟨0,11,0⟩=some (.box [.fz (r.1.objs.map aQ.enc),.is r.1.tasks,.fz (r.1.outs.map bJ.enc),.is r.1.ins,.i r.1.used] false):=by rw[hO 0 11 0 (.inr (.inl (by decide)))];simp only[go_sem]
 clear hO;simp only[go_sem,k6]
 refine kQ (D:=[10]) (xs:=l.picks.map (.int .i64)) (ys:=[.i pick]) (rs:=[]) ?_ ?_ rfl ?_ ?_
 ·simp only[go_sem];exact mP.keep fun t g ht=>by simp at ht;subst ht;simp only[go_sem]
 ·simp only[go_sem]
 ·simp;omega
 intro vQ en2 cnt2 mQ hen hcnt;have j6:en2 ⟨0,6,0⟩=some (.box [.i l.every,vP,v] false):=by rw[hen 0 6 0 (.inr ⟨by decide,by simp⟩)];simp only[go_sem]
 have j7:=(hen 0 7 0 (.inr ⟨by decide,by simp⟩)).trans (by simp only[go_sem,k7]:_=some (.box [.i r.2.1.task,.i r.2.1.act,.i r.2.1.n,.i r.2.1.v.kind,.i r.2.1.v.n] false))
 have j8:=(hen 0 8 0 (.inr ⟨by decide,by simp⟩)).trans (by simp only[go_sem,k8]:_=some (.box [.i 0] false))
 have j11:=(hen 0 11 0 (.inr ⟨by decide,by simp⟩)).trans (by simp only[go_sem,k11]:_=some (.box [.fz (r.1.objs.map aQ.enc),.is r.1.tasks,.fz (r.1.outs.map bJ.enc),.is r.1.ins,.i r.1.used] false))
 have hv2:cP en2 v 5 (l.marks.map aA.enc) [24]:=hv.keep fun t g ht=>by simp at ht;subst ht;rw[hen 0 24 g (.inr ⟨by decide,by simp⟩)];simp only[go_sem]
 have hmk:=aO5 (p:=p) (l:=l) (l.picks.length+1) hl.e1 (by omega) hl.ev
 have hw1:IntKind.i64.wrap ((l.picks.length:Int)+1)=((l.picks.length+1:Nat):Int):=by rw[aW (by omega)];rfl
 simp only[go_sem,kK,j6,mQ.shape.1,mQ.shape.2,hw1,hmk.ret,kF]
 by_cases hd:(l.picks.length+1)%aL l=0
 case' neg=>
  obtain⟨M,hM⟩: ∃M,M=l.marks:=⟨_,rfl⟩
  rw[if_neg hd,<-hM];rw[<-hM]at hv2;obtain⟨vM,hvM⟩: ∃vM,vM=v:=⟨_,rfl⟩
  obtain⟨D,hD,hDm⟩: ∃D,D=[24]/\ ∀t∈D,t=24 \/t=47:=⟨_,rfl,by simp⟩
  simp only[go_sem,D_f hd];obtain⟨en3,he3⟩: ∃e,e=en2.set ⟨0,6,0⟩ (some (.box [.i l.every,vQ,v] false)):=⟨_,rfl⟩
  have i6:en3 ⟨0,6,0⟩=some (.box [.i l.every,vQ,vM] false):=by rw[he3,hvM];simp only[go_sem]
  have i7:en3 ⟨0,7,0⟩=some (.box [.i r.2.1.task,.i r.2.1.act,.i r.2.1.n,.i r.2.1.v.kind,.i r.2.1.v.n] false):=by rw[he3];simp only[go_sem,j7]
  have i8:en3 ⟨0,8,0⟩=some (.box [.i 0] false):=by rw[he3];simp only[go_sem,j8]
  have iQ:cP en3 vQ 1 ((l.picks++[pick]).map (.int .i64)) [37,10]:=by
   rw[bQs,he3];exact mQ.keep fun t g ht=>by simp at ht;rcases ht with rfl|rfl<;>simp only[go_sem]
  have iM:cP en3 vM 5 (M.map aA.enc) D:=by
   rw[hD,hvM,he3];exact hv2.keep fun t g ht=>by simp at ht;subst ht;simp only[go_sem]
  rw[<-he3]
 case' pos=>
  obtain⟨M,hM⟩: ∃M,M=l.marks++[r.1]:=⟨_,rfl⟩
  rw[if_pos hd,<-hM];simp only[go_sem,D_t hd,j11]
  refine kQ (D:=[24]) (xs:=l.marks.map aA.enc) (ys:=[aA.enc r.1]) (rs:=[]) ?_ ?_ rfl ?_ ?_
  ·simp only[go_sem];exact hv2.keep fun t g ht=>by simp at ht;subst ht;simp only[go_sem]
  ·simp only[go_sem,aA.enc]
  ·have:=hl.mks;simp;omega
  intro vM en4 cnt4 mM hen4 hcnt4;have m6:en4 ⟨0,6,0⟩=some (.box [.i l.every,vQ,v] false):=by rw[hen4 0 6 0 (.inr ⟨by decide,by simp⟩)];simp only[go_sem]
  simp only[go_sem,m6,mM.shape.1,mM.shape.2];obtain⟨D,hD,hDm⟩: ∃D,D=[47,24]/\ ∀t∈D,t=24 \/t=47:=⟨_,rfl,by simp⟩
  obtain⟨en3,he3⟩: ∃e,e=en4.set ⟨0,6,0⟩ (some (.box [.i l.every,vQ,vM] false)):=⟨_,rfl⟩
  have i6:en3 ⟨0,6,0⟩=some (.box [.i l.every,vQ,vM] false):=by rw[he3];simp only[go_sem]
  have i7:en3 ⟨0,7,0⟩=some (.box [.i r.2.1.task,.i r.2.1.act,.i r.2.1.n,.i r.2.1.v.kind,.i r.2.1.v.n] false):=by rw[he3,iZ (by simp),hen4 0 7 0 (.inr ⟨by decide,by simp⟩)];simp only[go_sem,j7]
  have i8:en3 ⟨0,8,0⟩=some (.box [.i 0] false):=by rw[he3,iZ (by simp),hen4 0 8 0 (.inr ⟨by decide,by simp⟩)];simp only[go_sem,j8]
  have iQ:cP en3 vQ 1 ((l.picks++[pick]).map (.int .i64)) [37,10]:=by
   rw[bQs,he3];exact mQ.keep fun t g ht=>by simp at ht;rcases ht with rfl|rfl<;>(rw[iZ (by simp),hen4 0 _ g (.inr ⟨by decide,by simp⟩)];simp only[go_sem])
  have iM:cP en3 vM 5 (M.map aA.enc) D:=by
   rw[hD,hM,bQs,he3];exact mM.keep fun t g ht=>by simp at ht;rcases ht with rfl|rfl<;>simp only[go_sem]
  rw[<-he3]
 all_goals
  obtain⟨u1,u2⟩:=iQ.shape;obtain⟨u3,u4⟩:=iM.shape
  refine aH ?_
  simp only[go_sem,i6,i7,i8,kA,kF]
  refine⟨rfl,oA rfl ?_⟩
  simp only[go_sem];obtain⟨E,hE⟩: ∃E,E=((en3.set ⟨0,6,0⟩ (some (.box [.i l.every,vQ,vM] false))).set ⟨0,7,0⟩ (some (.box [.i r.2.1.task,.i r.2.1.act,.i r.2.1.n,.i r.2.1.v.kind,.i r.2.1.v.n] false))).set ⟨0,8,0⟩ (some (.box [.i 0] false)):=⟨_,rfl⟩
  rw[<-hE];obtain⟨a1,b1,s1,s1',_⟩:=(iQ.keep (en':=E) fun t g ht=>by rw[hE];simp at ht;rcases ht with rfl|rfl<;>simp only[go_sem]).snap 5
  obtain⟨a2,b2,s2,s2',_⟩:=(iM.keep (en':=E) fun t g ht=>by rw[hE];rcases hDm t ht with rfl|rfl<;>simp only[go_sem]).snap 5
  simp only[go_sem,s1,s2,s1',s2'];rfl
theorem zJ (n lo hi:Int):PC L 57 [.i n,.i lo,.i hi] (.bool (inR n lo hi)):=by
 have hL:=at_ func57
 conv at hL=>rhs;reduce
 refine aI hL rfl rfl ?_
 simp only[go_sem,qW]
 refine bB (fun h=>?_) (fun h=>?_)<;>simp only[go_sem,h]<;>simp at h<;>simp[h,inR]
 omega
theorem aAt (l:bP)(n:Int):PC L 17 [.agg [.i l.every,.is l.picks,.fz (l.marks.map aA.enc)],.i n] (.bool (inR n 0 l.picks.length)):=by
 have hL:=at_ func17
 conv at hL=>rhs;reduce
 refine aI hL rfl rfl ?_
 simp only[go_sem,kK,(zJ _ _ _).ret,bPr,kF]
theorem xH (hp:dU p)(hsp:aR p=true)(hw:cX p w=true)(pick:Int):
  PC L 70 [.agg p.cs,.agg w.cs,.i pick] (.tup [.agg (dL p w pick).1.cs,evV (dL p w pick).2.1,.i (dL p w pick).2.2]):=by
 have hT:=bEu hp hsp (tS hw) pick;have hL:=at_ func70
 conv at hL=>rhs;reduce
 refine aI hL rfl rfl ?_
 simp only[go_sem,kK,hT.ret,evV,kF];unfold dL
 simp only
 by_cases h5:(fQ p w pick).2.2.2=5
 ·rw[if_pos h5];simp only[go_sem,kK,D_t h5,eB,jL]
 rw[if_neg h5]
 by_cases h0:(fQ p w pick).2.2.2=0
 ·rw[if_pos h0];simp only[go_sem,kK,h0]
  refine aH ?_
  simp only[go_sem,kA,kF]
 ·rw[if_neg h0];simp only[go_sem,kK,D_f h5,D_f h0,eB,jL,bP8]
theorem aM1 (hpf:p.few)(hlf:l.few)(hc:p.cons.length<=1000):PC L 12 [.agg p.cs,.agg [.i l.every,.is l.picks,.fz (l.marks.map aA.enc)]] (.bool (gY p l)):=by
 have hF:=aDv p hpf hc;have hlog:gY p l=(dV p&&inR l.every 1 20&&decide (l.picks.length<=200)&&decide (l.marks.length=l.picks.length/aL l+1)&&l.marks.all (cX p)):=rfl;have hL:=at_ func12
 conv at hL=>rhs;reduce
 refine aI hL rfl rfl ?_
 cases hf:dV p with
 |false=>rw[hf]at hF hlog;rw[hlog];simp only[go_sem,kK,hF.ret,bP8,bQq,kF]
 |true=>
 cases he:inR l.every 1 20 with
 |false=>rw[hf]at hF hlog;rw[he]at hlog;rw[hlog];simp only[go_sem,kK,hF.ret,(zJ _ _ _).ret,he,bP8,bP3,bQq,bQ7,kF]
 |true=>
 rw[hf]at hF hlog;rw[he]at hlog;rw[hlog]
 by_cases hk:l.picks.length<=200
 case neg=>simp only[go_sem,kK,hF.ret,(zJ _ _ _).ret,he,bPr,D_f hk,show decide ((200:Int)<(l.picks.length:Int))=true from D_t (by omega),bP3,bQq,bQ7,kF]
 have hev:l.every=(aL l:Int):=by simp only[inR,bTe]at he;unfold aL;omega
 have h1:1<=aL l:=by simp only[inR,bTe]at he;unfold aL;omega
 have hdv:((l.picks.length:Int)).tdiv (aL l:Int)=((l.picks.length/aL l:Nat):Int):=by rw[bTd (by omega)];rfl
 have hle:=Nat.div_le_self l.picks.length (aL l);have hw1:IntKind.i64.wrap (((l.picks.length/aL l:Nat):Int))=((l.picks.length/aL l:Nat):Int):=by generalize l.picks.length/aL l=q at hle⊢;exact aW (by omega)
 have hw2:IntKind.i64.wrap (((l.picks.length/aL l:Nat):Int)+1)=((l.picks.length/aL l+1:Nat):Int):=by generalize l.picks.length/aL l=q at hle⊢;rw[aW (by omega)];rfl
 have hne: ¬(aL l:Int)=0:=by omega
 have hk':decide ((200:Int)<(l.picks.length:Int))=false:=D_f (by omega)
 rw[hev]at he;simp only[go_sem,kK,hF.ret,(zJ _ _ _).ret,hev,he,bPr,D_t hk,hk',hne,hdv,hw1,hw2,bP3,bQn,bRl,kF]
 by_cases hm:l.marks.length=l.picks.length/aL l+1
 case neg=>simp only[go_sem,kK,D_f hm,bP8,bQq]
 simp only[go_sem,D_t hm,bP3,bQn]
 refine bQ l.marks.length (fun k st=> ∃fr en cnt,st=⟨fr,en,cnt⟩/\ fr 2= .ptr ⟨0,2,0⟩ 0/\ fr 3= .ptr ⟨0,3,0⟩ 0/\ fr 5= .i (k:Int)/\ en ⟨0,2,0⟩=some (.box [.fz (p.nodes.map aM.enc),.fz (p.funs.map (.int .i64)),.i p.main,.fz (p.cons.map cS.enc)] false)/\ en ⟨0,3,0⟩=some (.box [.i (aL l:Int),.is l.picks,.fz (l.marks.map aA.enc)] false)/\ (l.marks.drop k).all (cX p)=l.marks.all (cX p)) 0 (bPx _) ⟨_,_,_,rfl,by simp only[go_sem],by simp only[go_sem],by simp only[go_sem],by simp only[go_sem],by simp only[go_sem],rfl⟩ ?_
 rintro k st hk ⟨fr,en,cnt,rfl,f2,f3,f5,e2,e3,hI⟩
 simp only[go_sem,kK,f3,f5,e3,bPr]
 refine aG (fun hq=>?_) (fun hq=>?_)
 ·have h':k<l.marks.length:=D_o hq;have hW:=aFt p l.marks[k] hpf (hlf.2.2 _ (bPz h'));have hst:=gD h' (cX p);rw[<-hI,hst];simp only[go_sem,kK,f2,f3,f5,e2,e3,sB h',hW.ret,kF];cases hb:cX p l.marks[k]with
  |false=>simp only[go_sem,kK,bP8,bQq]
  |true=>
   simp only[go_sem,bP3,bQn,f5,h',aT h' hlf.2.1];exact⟨_,_,_,rfl,by simp only[go_sem,f2],by simp only[go_sem,f3],by simp only[go_sem],e2,e3⟩
 ·have:k=l.marks.length:=by simp at hq;omega
  subst this;rw[<-hI,bRf];simp only[go_sem]
def oQ (l:bP):Bool:=!(decide (25<l.picks.length)&&decide (l.picks.length<=200))&&decide (l.picks.length<=205)&&decide (l.marks.length<=30)&&l.marks.all bW
theorem aRc (hlf:l.few):PC L 49 [.agg [.i l.every,.is l.picks,.fz (l.marks.map aA.enc)]] (.bool (oQ l)):=by
 have hS:oQ l=(!(decide (25<l.picks.length)&&decide (l.picks.length<=200))&&decide (l.picks.length<=205)&&decide (l.marks.length<=30)&&l.marks.all bW):=rfl;have c1:decide ((25:Int)<(l.picks.length:Int))=decide (25<l.picks.length):=by rw[bRd,bTe,bTe];omega
 have c2:decide ((l.picks.length:Int)<=200)=decide (l.picks.length<=200):=by rw[bRd,bTe,bTe];omega
 have c3:decide ((205:Int)<(l.picks.length:Int))=!decide (l.picks.length<=205):=by rw[bRd,bQ2,bTe,bTf];omega
 have c4:decide ((30:Int)<(l.marks.length:Int))=!decide (l.marks.length<=30):=by rw[bRd,bQ2,bTe,bTf];omega
 rw[hS];have hL:=at_ func49
 conv at hL=>rhs;reduce
 refine aI hL rfl rfl ?_
 generalize decide (25<l.picks.length)=b1 at c1⊢;generalize decide (l.picks.length<=200)=b2 at c2⊢;generalize decide (l.picks.length<=205)=b3 at c3⊢;generalize decide (l.marks.length<=30)=b4 at c4⊢;cases b1<;>cases b2<;>cases b3<;>cases b4
 all_goals simp only[go_sem,kK,bPr,c1,c2,c3,c4,bP8,bP3,bQn,bQq,bQ7,bRl,kF]
 all_goals
  refine bQ l.marks.length (fun k st=> ∃fr en cnt,st=⟨fr,en,cnt⟩/\ fr 1= .ptr ⟨0,1,0⟩ 0/\ fr 3= .i (k:Int)/\ en ⟨0,1,0⟩=some (.box [.i l.every,.is l.picks,.fz (l.marks.map aA.enc)] false)/\ (l.marks.drop k).all bW=l.marks.all bW) 0 (bPx _) ⟨_,_,_,rfl,by simp only[go_sem],by simp only[go_sem],by simp only[go_sem],rfl⟩ ?_
  rintro k st hk ⟨fr,en,cnt,rfl,f1,f3,e1,hI⟩
  simp only[go_sem,kK,f1,f3,e1,bPr]
  refine aG (fun hq=>?_) (fun hq=>?_)
  ·have h':k<l.marks.length:=D_o hq;have hW:=wT l.marks[k] (hlf.2.2 _ (bPz h'));have hst:=gD h' bW;rw[<-hI,hst];simp only[go_sem,kK,f1,f3,e1,sB h',hW.ret,kF];cases hb:bW l.marks[k]with
   |false=>simp only[go_sem,kK,bP8,bQq]
   |true=>
    simp only[go_sem,bP3,bQn,f3,h',aT h' hlf.2.1];exact⟨_,_,_,rfl,by simp only[go_sem,f1],by simp only[go_sem],e1⟩
  ·have:k=l.marks.length:=by simp at hq;omega
   subst this;rw[<-hI,bRf];simp only[go_sem]
theorem bP.eq_iff {a b:bP}:a=b↔a.every=b.every/\ a.picks=b.picks/\ a.marks=b.marks:=by
 cases a;cases b;simp
instance : DecidableEq bP:=fun _ _=>decidable_of_iff _ bP.eq_iff.symm
theorem xI {b:bP}(hlf:l.few):PC L 41 [.agg [.i l.every,.is l.picks,.fz (l.marks.map aA.enc)],.agg [.i b.every,.is b.picks,.fz (b.marks.map aA.enc)]] (.bool (decide (l=b))):=by
 have hI1:=sY l.picks b.picks hlf.1;have hL:=at_ func41
 conv at hL=>rhs;reduce
 refine aI hL rfl rfl ?_
 by_cases h1:l.every=b.every
 case neg=>
  rw[D_f (fun h:l=b=>h1 (by rw[h]))]
  simp only[go_sem,kK,D_f h1,bP8,kF]
 by_cases h2:l.picks=b.picks
 case neg=>
  rw[D_f (fun h:l=b=>h2 (by rw[h]))]
  simp only[go_sem,kK,D_t h1,hI1.ret,D_f h2,bP8,bP3,kF]
 by_cases h3:l.marks.length=b.marks.length
 case neg=>
  rw[D_f (fun h:l=b=>h3 (by rw[h]))]
  simp only[go_sem,kK,D_t h1,hI1.ret,D_t h2,bPr,D_f h3,bP8,bP3,kF]
 simp only[go_sem,kK,D_t h1,hI1.ret,D_t h2,bPr,D_t h3,bP3,kF];have hd:decide (l=b)=decide (l.marks=b.marks):=by rw[bRd,bTe,bTe,bP.eq_iff];exact⟨fun h=>h.2.2,fun h=>⟨h1,h2,h⟩⟩
 rw[hd]
 refine bQ l.marks.length (fun k st=> ∃fr en cnt,st=⟨fr,en,cnt⟩/\ fr 2= .ptr ⟨0,2,0⟩ 0/\ fr 3= .ptr ⟨0,3,0⟩ 0/\ fr 5= .i (k:Int)/\ en ⟨0,2,0⟩=some (.box [.i l.every,.is l.picks,.fz (l.marks.map aA.enc)] false)/\ en ⟨0,3,0⟩=some (.box [.i b.every,.is b.picks,.fz (b.marks.map aA.enc)] false)/\ decide (l.marks.drop k=b.marks.drop k)=decide (l.marks=b.marks)) 0 (bPx _) ⟨_,_,_,rfl,by simp only[go_sem],by simp only[go_sem],by simp only[go_sem],by simp only[go_sem],by simp only[go_sem],rfl⟩ ?_
 rintro k st hk ⟨fr,en,cnt,rfl,f2,f3,f5,e2,e3,hI⟩
 simp only[go_sem,kK,f2,f5,e2,bPr]
 refine aG (fun hq=>?_) (fun hq=>?_)
 ·have h':k<l.marks.length:=D_o hq;have h'':k<b.marks.length:=by omega
  have hW:=wV l.marks[k] b.marks[k] (hlf.2.2 _ (bPz h'));have hst:decide (l.marks.drop k=b.marks.drop k)=(decide (l.marks[k]=b.marks[k])&&decide (l.marks.drop (k+1)=b.marks.drop (k+1))):=by
   rw[bQu h',bQu h'',bRd];simp only[bTe,bPp,List.cons.injEq]
  rw[<-hI,hst];simp only[go_sem,kK,f2,f3,f5,e2,e3,sB h',sB h'',hW.ret,kF];cases hb:decide (l.marks[k]=b.marks[k])with
  |false=>simp only[go_sem,kK,bP8,bQq]
  |true=>
   simp only[go_sem,bP3,bQn,f5,h',aT h' hlf.2.1];exact⟨_,_,_,rfl,by simp only[go_sem,f2],by simp only[go_sem,f3],by simp only[go_sem],e2,e3⟩
 ·have:k=l.marks.length:=by simp at hq;omega
  subst this;rw[<-hI,bRf,show b.marks.drop l.marks.length=[]from List.drop_of_length_le (by omega)]
  simp only[go_sem]
theorem aG0 (hpf:p.few)(hlf:l.few):PC L 9 [.agg p.cs,.agg [.i l.every,.is l.picks,.fz (l.marks.map aA.enc)]] (.bool (aR p&&oQ l)):=by
 have h1:=aHo p hpf;have h2:=aRc hlf;have hL:=at_ func9
 conv at hL=>rhs;reduce
 refine aI hL rfl rfl ?_
 cases hb:aR p with
 |false=>rw[hb]at h1;simp only[go_sem,kK,h1.ret,bQq,kF]
 |true=>rw[hb]at h1;simp only[go_sem,kK,h1.ret,h2.ret,bQn,kF]
theorem aRd (hl:l.few):PC L 45 [.agg [.i l.every,.is l.picks,.fz (l.marks.map aA.enc)]] (.bool (decide (l=kW))):=by
 have h:=xI (b:=kW) hl;have hL:=at_ func45
 conv at hL=>rhs;reduce
 refine aI hL rfl rfl ?_
 simp only[kW,Val.is,bP1]at h;simp only[go_sem,kK,h.ret,kF];rfl
theorem aPb {p:aF}{l:bP}: ∀(k i:Nat) (w:aA),¬(aCi p l i k w).2=0->(aCi p l i k w).1=kD
 |0,_,_,h=>absurd rfl h
 |k+1,i,w,h=>by
  rw[aCi]at h⊢
  split at h<;>rename_i h1
  ·rw[if_pos h1];exact aPb k (i+1) _ h
  ·rw[if_neg h1]
theorem aRe (h: ¬(atX p l n).2=0):(atX p l n).1=kD:=aPb _ _ _ h
theorem aZ4 (h:(atX p l t).2=0):(bR p l t).2.2=(dL p (atX p l t).1 (gP l t)).2.2:=by
 unfold bR;rw[if_pos h];split<;>rfl
theorem aDi (hpf:p.few)(hsp:aR p=true)(hok:gY p l=true)(hn:n<=l.picks.length):PC L 19 [.agg p.cs,.agg [.i l.every,.is l.picks,.fz (l.marks.map aA.enc)],.i (n:Int)] (.tup [.agg (atX p l n).1.cs,.i (atX p l n).2]):=by
 have hl:=nQ.of hok;have hfm:=lV (nF hok).1;obtain⟨a,ha⟩: ∃a,a=n/aL l*aL l:=⟨_,rfl⟩
 have han:a<=n:=by rw[ha];exact bS8 ..
 have hma:a%aL l=0:=by rw[ha];exact Nat.mul_mod_left ..
 have hlt:=hl.lt hn;have hia:=fun en=>sB (l:=l) (en:=en) hlt
 have hmul:=hl.mul hn;rw[<-ha]at hmul;have hda:a/aL l=n/aL l:=by rw[ha];exact Nat.mul_div_cancel _ (by have:=hl.e1;omega)
 have hma0:=zG (p:=p) hl.e1 hma;rw[hda,aAq hlt]at hma0;have hmw:l.marks[n/aL l]=(atX p l a).1:=by rw[hma0]
 have hnx: ∀t,a<=t->t<n->(bR p l t).2.2=0->(atX p l (t+1)).1=(bR p l t).1:=fun t h1 h2 h0=>by
  rcases(aJr hl h0).2 with h|h
  ·exfalso
   have h3:(t+1)/aL l*aL l=t+1:=aH0 h;have h4:(t+1)/aL l<=n/aL l:=Nat.div_le_div_right h2;have h5:=bQw (aL l) h4;rw[h3,<-ha]at h5;omega
  ·exact h
 obtain⟨s,hs1,hs2,hs3,hs4⟩: ∃s,a<=s/\ s<=n/\ (∀t,a<=t->t<s->(bR p l t).2.2=0)/\ ((s=n/\ (atX p l n).2=0) \/(s<n/\ ¬(bR p l s).2.2=0/\ (bR p l s).2.2=(atX p l n).2)):=by
  by_cases h0:(atX p l n).2=0
  ·exact⟨n,han,bPq _,fun t h1 h2=>aRa hl n h0 t (by rw[<-ha];exact h1) h2,.inl ⟨rfl,h0⟩⟩
  ·obtain⟨s,h1,h2,h3,h4,h5⟩:=aRb hl n h0;rw[<-ha]at h1 h3;exact⟨s,h1,by omega,h3,.inr ⟨h2,h4,h5⟩⟩
 have hpk:=hl.pk;simp only[hl.ev];have hL:=at_ func19
 conv at hL=>rhs;reduce
 refine aI hL rfl rfl ?_
 simp only[go_sem,kK,hl.ne,hl.div,hl.wdiv hn,hmul,hia,kF]
 refine bQ s (fun i st=> ∃fr en cnt w,st=⟨fr,en,cnt⟩/\ fr 2= .i (n:Int)/\ fr 3= .ptr ⟨0,3,0⟩ 0/\ fr 4= .ptr ⟨0,4,0⟩ 0/\ fr 6= .ptr ⟨0,6,0⟩ 0/\ fr 9= .ptr ⟨0,9,0⟩ 0/\ fr 10= .i (i:Int)/\ en ⟨0,3,0⟩=some (.box [.fz (p.nodes.map aM.enc),.fz (p.funs.map (.int .i64)),.i p.main,.fz (p.cons.map cS.enc)] false)/\ en ⟨0,4,0⟩=some (.box [.i (aL l:Int),.is l.picks,.fz (l.marks.map aA.enc)] false)/\ en ⟨0,6,0⟩=some (.box [.cl [],.cl [],.cl [],.cl [],.i 0] false)/\
  en ⟨0,9,0⟩=some (.box [.fz (w.objs.map aQ.enc),.is w.tasks,.fz (w.outs.map bJ.enc),.is w.ins,.i w.used] false)/\ w=(atX p l i).1/\ (atX p l i).2=0/\ a<=i) a hs1 ⟨_,_,_,l.marks[n/aL l],rfl,by simp only[go_sem],by simp only[go_sem],by simp only[go_sem],by simp only[go_sem],by simp only[go_sem],by simp only[go_sem],by simp only[go_sem],by simp only[go_sem],by simp only[go_sem],by simp only[go_sem],hmw,by rw[hma0],bPq _⟩ ?_
 rintro i st hi ⟨fr,en,cnt,w,rfl,f2,f3,f4,f6,f9,f10,e3,e4,e6,e9,hw,hw0,hai⟩
 simp only[go_sem,kK,f2,f10]
 by_cases hin:i<n
 case neg=>
  have:i=n:=by omega
  subst this;have:s=i:=by omega
  subst this;rw[<-hw,hw0];simp only[go_sem,D_f hin,f6,f9,e6,e9]
 have hT:=xH hfm hsp (aQ6 hfm hok (bRn (bQf hin hn)) hw0) (gP l i);have hil:i<l.picks.length:=by omega
 rw[<-hw,rH hil]at hT;simp only[go_sem,D_t hin]
 refine aH ?_
 simp only[go_sem,kK,f3,f4,f9,f10,e3,e4,e9,hil,hT.ret,evV,kA,kF];have hae:=aZ4 hw0;rw[<-hw,rH hil]at hae
 by_cases hr:(dL p w l.picks[i]).2.2=0
 ·have his:i<s:=by
   rcases hs4 with⟨h,_⟩|⟨_,h,_⟩
   ·omega
   ·rcases bRo i s with h'|h'
    ·exact h'
    ·obtain rfl:s=i:=by omega
     exact absurd (hae.trans hr) h
  have hax:bR p l i=dL p w l.picks[i]:=by rw[(wF (hae.trans hr)).2.2,<-hw,rH hil]
  have hn1:=hnx i hai hin (hae.trans hr);rw[hax]at hn1;simp only[go_sem,D_t hr,f9,f10,e9,bP3,aT hil hl.few];exact⟨his,_,_,_,(dL p w l.picks[i]).1,rfl,by simp only[go_sem,f2],by simp only[go_sem,f3],by simp only[go_sem,f4],by simp only[go_sem,f6],by simp only[go_sem,f9],by simp only[go_sem],by simp only[go_sem,e3],by simp only[go_sem,e4],by simp only[go_sem,e6],by simp only[go_sem],hn1.symm,(aJr hl (hae.trans hr)).1,by omega⟩
 ·rcases hs4 with⟨h,_⟩|⟨h1,h2,h3⟩
  ·exact absurd (hae.symm.trans (hs3 i hai (by omega))) hr
  ·have his:i=s:=by
    rcases bRo i s with h'|h'
    ·exact absurd (hae.symm.trans (hs3 i hai h')) hr
    ·omega
   subst his;rw[aRe (n:=n) (by rw[<-h3];exact h2),<-h3,hae]
   simp only[go_sem,kK,D_f hr,f6,e6,bP8];rfl
theorem aRg (hfm:dU p)(hsp:aR p=true)(hw:cX p w=true)(every:Int):
  PC L 40 [.agg p.cs,.agg w.cs,.i every] (.tup [bP.enc (aCj p w every).1,.i (aCj p w every).2]):=by
 have hS:=aHx hfm hsp (tS hw) 0 (by omega)
 rw[show((0:Nat):Int)=0 from rfl]at hS
 unfold aCj;have hL:=at_ func40
 conv at hL=>rhs;reduce
 refine aI hL rfl rfl ?_
 cases hs:(bI p w 0).2.2 with
 |false=>
  rw[hs]at hS;simp only[go_sem,kK,hS.ret,bP8,kF];rfl
 |true=>
  rw[hs]at hS;simp only[go_sem,kK,hS.ret,bP3,aUn,bDd,if_true,kF];rfl
theorem aWq (hl:nQ l)(hn:n<=l.picks.length):PC L 47 [.agg [.i l.every,.is l.picks,.fz (l.marks.map aA.enc)],.i (n:Int)] (bP.enc (aJi l n)):=by
 have hlt:=hl.lt hn;have hle:n/aL l+1<=l.marks.length:=hlt;have hw1:IntKind.i64.wrap (((n/aL l:Nat):Int)+1)=((n/aL l+1:Nat):Int):=by have:=hl.mks;generalize n/aL l=q at hlt⊢;rw[aW (by omega)];rfl
 simp only[bP.enc,aJi,Val.is,bRe];have hL:=at_ func47
 conv at hL=>rhs;reduce
 refine aI hL rfl rfl ?_
 simp only[go_sem,kK,hl.ev,hl.ne,hl.div,hl.wdiv hn,bPr,hn,hle,hw1,kF]
theorem bGj {c:aZ}{st:St}{Q:Ex->St->Prop}(M:St->Prop)(h:M st)(k: ∀fr en cnt,M ⟨fr,en,cnt⟩->Wp L c ⟨fr,en,cnt⟩ Q):Wp L c st Q:=by cases st;exact k _ _ _ h
theorem aWr (hpf:p.few)(hsp:aR p=true)(hok:gY p l=true)(pick:Int):PC L 46 [.agg p.cs,.agg [.i l.every,.is l.picks,.fz (l.marks.map aA.enc)],.i pick] (.tup [bP.enc (aMs p l pick).1,evV (aMs p l pick).2.1,.i (aMs p l pick).2.2]):=by
 have hl:=nQ.of hok;have hpk:=hl.pk;have hmks:=hl.mks;have hfm:=lV (nF hok).1;have h0m:=hl.lt (bPx l.picks.length);have hA:=aDi hpf hsp hok (bPq l.picks.length);unfold aMs;have hL:=at_ func46
 conv at hL=>rhs;reduce
 refine aI hL rfl rfl ?_
 simp only[hl.ev]at hA⊢
 by_cases hn:200<=l.picks.length
 case pos=>
  rw[if_pos hn];simp only[go_sem,kK,bPr,show decide ((200:Int)<=(l.picks.length:Int))=true from D_t (by omega),kF]
  rfl
 rw[if_neg hn];simp only[go_sem,kK,bPr,show decide ((200:Int)<=(l.picks.length:Int))=false from D_f (by omega),kF]
 refine aF3 (fun st=> ∃fr en cnt vP vM,st=⟨fr,en,cnt⟩/\ fr 2= .i pick/\ fr 3= .ptr ⟨0,3,0⟩ 0/\ fr 4= .ptr ⟨0,4,0⟩ 0/\ fr 6= .ptr ⟨0,6,0⟩ 0/\ fr 7= .ptr ⟨0,7,0⟩ 0/\ fr 9= .ptr ⟨0,9,0⟩ 0/\ en ⟨0,3,0⟩=some (.box [.fz (p.nodes.map aM.enc),.fz (p.funs.map (.int .i64)),.i p.main,.fz (p.cons.map cS.enc)] false)/\ en ⟨0,4,0⟩=some (.box [.i (aL l:Int),.is l.picks,.fz (l.marks.map aA.enc)] false)/\ en ⟨0,6,0⟩=some (.box [.i 0,.cl [],.cl []] false)/\ en ⟨0,7,0⟩=some (.box [.i 0,.i 0,.i 0,.i 0,.i 0] false)/\ en ⟨0,9,0⟩=some (.box [.i (aL l:Int),vP,vM] false)/\ cP en vP 1 ((l.picks++[pick]).map (.int .i64)) [28]/\ cP en vM 5 (l.marks.map aA.enc) [31]) ?_ ?_
 ·have hmh:cU 5 (l.marks.map aA.enc)=true:=by cases l.marks<;>rfl
  have hme:(l.marks.map aA.enc).isEmpty=false:=by
   cases hm:l.marks with
   |nil=>rw[hm]at h0m;exact absurd h0m (Nat.not_lt_zero _)
   |cons=>rfl
  have hml:(l.marks.map aA.enc).length<=16777216:=by rw[bPr];omega
  refine aH ?_
  have hp1:cU 1 [Val.int .i64 pick]=true:=rfl;have hml':l.marks.length<=16777216:=by omega
  cases hpi:l.picks with
  |nil=>
   simp only[go_sem,bM,dY,nB,gX hme hmh hml,gX (size:=1) (ys:=[Val.int .i64 pick]) rfl rfl (by simp),bP1,bPr,rT,lS,aSo,aK1,kA,kF]
   refine⟨_,_,_,_,_,rfl,by simp only[go_sem],by simp only[go_sem],by simp only[go_sem],by simp only[go_sem],by simp only[go_sem],by simp only[go_sem],by simp only[go_sem],by simp only[go_sem],by simp only[go_sem],by simp only[go_sem],by simp only[go_sem];rfl,?_,?_⟩
   ·exact wY (by simp only[go_sem];try rfl) (by simp)
   ·exact wY (by simp only[go_sem];try rfl) (by simp)
  |cons x xs=>
   have hpe:(l.picks.map (Val.int .i64)).isEmpty=false:=by rw[hpi];rfl
   have hpl:(l.picks.map (Val.int .i64)).length<=16777216:=by rw[bPr];omega
   rw[<-hpi];simp only[go_sem,bM,dY,gX hpe (pZ _) hpl,gX hme hmh hml,tE hp1,kL (d:=28) (g:=0) (k:=⟨0,25,0⟩) (size:=1) (n:=l.picks.length) (xs:=l.picks.map (.int .i64)) (ys:=[.i pick]) (by simp) (by simp;omega) rfl,bPr,rT,lS,aSo,aK1,kA,kF]
   refine⟨_,_,_,_,_,rfl,by simp only[go_sem],by simp only[go_sem],by simp only[go_sem],by simp only[go_sem],by simp only[go_sem],by simp only[go_sem],by simp only[go_sem],by simp only[go_sem],by simp only[go_sem],by simp only[go_sem],by simp only[go_sem];rfl,?_,?_⟩
   ·exact wY (by simp only[go_sem,bQs,bQj,bP1];try rfl) (by simp)
   ·exact wY (by simp only[go_sem];try rfl) (by simp)
 ·rintro fr0 en0 cnt0 ⟨fr,en,cnt,vP,vM,hst,f2,f3,f4,f6,f7,f9,e3,e4,e6,e7,e9,mP,mM⟩
  cases hst
  simp only
  simp only[go_sem,kK,f3,f4,e3,e4,bPr,hA.ret,kF]
  by_cases h0:(atX p l l.picks.length).2=0
  case neg=>
   rw[if_neg h0];simp only[go_sem,kK,D_f h0,bP8,f6,f7,e6,e7];rfl
  rw[if_pos h0];have hT:=xH hfm hsp (aQ6 hfm hok (bPq _) h0) pick;simp only[go_sem,kK,D_t h0,bP3,f2,f3,e3,hT.ret,evV,kF];generalize hr:dL p (atX p l l.picks.length).1 pick=r at*
  by_cases h2:r.2.2=0
  case neg=>
   rw[if_neg h2];simp only[go_sem,kK,D_f h2,bP8,f6,f7,e6,e7];rfl
  rw[if_pos h2];have hln:sD vP=some (l.picks.length+1):=by rw[mP.len];simp
  have hrem:(((l.picks.length+1:Nat):Int)).tmod (aL l:Int)=(((l.picks.length+1)%aL l:Nat):Int):=(Int.ofNat_tmod _ _).symm;simp only[go_sem,kK,D_t h2,bP3,f4,f9,e4,e9,hln,hl.ne,hrem,kF];obtain⟨M,hM⟩: ∃M,M=if(l.picks.length+1)%aL l=0 then l.marks++[r.1]else l.marks:=⟨_,rfl⟩
  rw[<-hM]
  by_cases hd:(l.picks.length+1)%aL l=0
  case' pos=>
    rw[if_pos hd]at hM;have hd':decide ((((l.picks.length+1)%aL l:Nat):Int)=0)=true:=D_t (by omega)
    simp only[go_sem,hd',f9,e9]
    refine kQ (D:=[31]) (xs:=l.marks.map aA.enc) (ys:=[aA.enc r.1]) (rs:=[]) ?_ ?_ rfl ?_ ?_
    ·simp only[go_sem];exact mM.keep fun t g ht=>by simp at ht;subst ht;simp only[go_sem]
    ·simp only[go_sem,aA.enc]
    ·simp;omega
    intro vN en4 cnt4 mN hen4 hcnt4;have m9:en4 ⟨0,9,0⟩=some (.box [.i (aL l:Int),vP,vM] false):=by rw[hen4 0 9 0 (.inr ⟨by decide,by simp⟩)];simp only[go_sem,e9]
    simp only[go_sem,m9,f9,mN.shape.1,mN.shape.2]
    refine bGj (fun st=> ∃fr en cnt vN g,st=⟨fr,en,cnt⟩/\ fr 6= .ptr ⟨0,6,0⟩ 0/\ fr 7= .ptr ⟨0,7,0⟩ 0/\ fr 9= .ptr ⟨0,9,0⟩ 0/\ fr 13= .ptr ⟨0,13,g⟩ 0/\ en ⟨0,6,0⟩=some (.box [.i 0,.cl [],.cl []] false)/\ en ⟨0,7,0⟩=some (.box [.i 0,.i 0,.i 0,.i 0,.i 0] false)/\ en ⟨0,9,0⟩=some (.box [.i (aL l:Int),vP,vN] false)/\ en ⟨0,13,g⟩=some (.box [.i r.2.1.task,.i r.2.1.act,.i r.2.1.n,.i r.2.1.v.kind,.i r.2.1.v.n] false)/\ cP en vP 1 ((l.picks++[pick]).map (.int .i64)) [28]/\ cP en vN 5 (M.map aA.enc) [71,31]) ⟨_,_,_,vN,cnt0 0 13,rfl,by simp only[go_sem,f6],by simp only[go_sem,f7],by simp only[go_sem,f9],by simp only[go_sem],?_,?_,by simp only[go_sem],?_,?_,?_⟩ ?_
    ·rw[iZ (by simp),hen4 0 6 0 (.inr ⟨by decide,by simp⟩)];simp only[go_sem,e6]
    ·rw[iZ (by simp),hen4 0 7 0 (.inr ⟨by decide,by simp⟩)];simp only[go_sem,e7]
    ·rw[iZ (by simp),hen4 0 13 _ (.inr ⟨by decide,by simp⟩)];simp only[go_sem]
    ·exact mP.keep fun t g ht=>by simp at ht;subst ht;rw[iZ (by simp),hen4 0 28 g (.inr ⟨by decide,by simp⟩)];simp only[go_sem]
    ·rw[hM,bQs];exact mN.keep fun t g ht=>by simp at ht;rcases ht with rfl|rfl<;>simp only[go_sem]
  case' neg=>
    rw[if_neg hd]at hM;have hd':decide ((((l.picks.length+1)%aL l:Nat):Int)=0)=false:=D_f (by omega)
    simp only[go_sem,hd']
    refine bGj (fun st=> ∃fr en cnt vN g,st=⟨fr,en,cnt⟩/\ fr 6= .ptr ⟨0,6,0⟩ 0/\ fr 7= .ptr ⟨0,7,0⟩ 0/\ fr 9= .ptr ⟨0,9,0⟩ 0/\ fr 13= .ptr ⟨0,13,g⟩ 0/\ en ⟨0,6,0⟩=some (.box [.i 0,.cl [],.cl []] false)/\ en ⟨0,7,0⟩=some (.box [.i 0,.i 0,.i 0,.i 0,.i 0] false)/\ en ⟨0,9,0⟩=some (.box [.i (aL l:Int),vP,vN] false)/\ en ⟨0,13,g⟩=some (.box [.i r.2.1.task,.i r.2.1.act,.i r.2.1.n,.i r.2.1.v.kind,.i r.2.1.v.n] false)/\ cP en vP 1 ((l.picks++[pick]).map (.int .i64)) [28]/\ cP en vN 5 (M.map aA.enc) [71,31]) ⟨_,_,_,vM,cnt0 0 13,rfl,by simp only[go_sem,f6],by simp only[go_sem,f7],by simp only[go_sem,f9],by simp only[go_sem],by simp only[go_sem,e6],by simp only[go_sem,e7],by simp only[go_sem,e9],by simp only[go_sem],?_,?_⟩ ?_
    ·exact mP.keep fun t g ht=>by simp at ht;subst ht;simp only[go_sem]
    ·rw[hM];exact(mM.keep fun t g ht=>by simp at ht;subst ht;simp only[go_sem]).sub (by simp)
  all_goals
   rintro fr1 en1 cnt1 ⟨fr,en,cnt,vN,g,hst,f6,f7,f9,f13,e6,e7,e9,e13,mP,mN⟩
   cases hst
   refine aH ?_
   simp only[go_sem,f6,f7,f9,f13,e6,e7,e9,e13,kA,kF];obtain⟨E,hE⟩: ∃E,E=(en1.set ⟨0,6,0⟩ (some (.box [.i (aL l:Int),vP,vN] false))).set ⟨0,7,0⟩ (some (.box [.i r.2.1.task,.i r.2.1.act,.i r.2.1.n,.i r.2.1.v.kind,.i r.2.1.v.n] false)):=⟨_,rfl⟩
   rw[<-hE];obtain⟨a1,b1,s1,s1',_⟩:=(mP.keep (en':=E) fun t g ht=>by rw[hE];simp at ht;subst ht;simp only[go_sem]).snap 5
   obtain⟨a2,b2,s2,s2',_⟩:=(mN.keep (en':=E) fun t g ht=>by rw[hE];simp at ht;rcases ht with rfl|rfl<;>simp only[go_sem]).snap 5
   simp only[go_sem,s1,s2,s1',s2'];rfl
theorem aEv (h:aR p=true):p.cons.length<=1000:=by
 simp only[aR,bPp,bTe]at h;omega
theorem bGk {a b:iD}:a=b↔a.task=b.task/\ a.act=b.act/\ a.n=b.n/\ a.v.kind=b.v.kind/\ a.v.n=b.v.n:=by
 obtain⟨_,_,_,⟨_,_⟩⟩:=a;obtain⟨_,_,_,⟨_,_⟩⟩:=b;simp
instance : DecidableEq iD:=fun _ _=>decidable_of_iff _ bGk.symm
theorem aXu {a b:iD}:dA .neq (.agg [.num,.num,.num,.num,.num]) (.agg [.i a.task,.i a.act,.i a.n,.i a.v.kind,.i a.v.n]) (.agg [.i b.task,.i b.act,.i b.n,.i b.v.kind,.i b.v.n])=
  some (.bool (!decide (a=b))):=by
 have e0:decide (a=b)=(decide (a.task=b.task)&&(decide (a.act=b.act)&&(decide (a.n=b.n)&&(decide (a.v.kind=b.v.kind)&&decide (a.v.n=b.v.n))))):=by
  rw[bRd];simp only[bTe,bPp];exact bGk
 rw[e0];simp only[dA,oS,bPy,bP7,and_self,if_true,jG,xJ];have e: ∀x y:Int,(x==y)=decide (x=y):=fun x y=>by by_cases h:x=y<;>simp[h]
 simp only[e]
 by_cases h1:a.task=b.task<;>by_cases h2:a.act=b.act<;>by_cases h3:a.n=b.n<;>by_cases h4:a.v.kind=b.v.kind<;>by_cases h5:a.v.n=b.v.n<;>simp[h1,h2,h3,h4,h5]
end Go.Proofs.YtmnchlhngpdffaaGreat

