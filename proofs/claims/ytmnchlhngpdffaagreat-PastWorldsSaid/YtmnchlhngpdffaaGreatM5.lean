/- Contracts of functions of the program and of the document: part 5. -/
import Derived.Test.YtmnchlhngpdffaaGreatM3
import Derived.Test.YtmnchlhngpdffaaGreatM1
set_option linter.all false
open Bool renaming and_eq_true -> bPp, and_false -> bQ7, and_true -> bRl, eq_iff_iff -> bRd, false_and -> bQq, not_eq_true' -> bQ2, not_false -> bP8, not_true -> bP3, true_and -> bQn
open Int renaming eq_ofNat_of_zero_le -> bQv, tdiv_eq_ediv_of_nonneg -> bTd, tmod_eq_emod_of_nonneg -> bTc, toNat_natCast -> bQo
open List renaming all_eq_true -> bPv, append_nil -> bQr, drop_eq_getElem_cons -> bQu, drop_length -> bRf, getD_eq_getElem?_getD -> bPu, getElem?_eq_getElem -> bQz, getElem_mem -> bPz, length_append -> bP9, length_cons -> bPy, length_filter_le -> bS7, length_map -> bPr, length_nil -> bP7, length_pos_iff -> bSj, length_set -> bRp, length_take -> bQx, map_append -> bQs, map_congr_left -> bRw, map_cons -> bQj, map_nil -> bP1, map_take -> bRe, mem_append -> bQe, mem_append_left -> bR1, mem_append_right -> bRv, mem_cons -> bQm, mem_filter -> bRa, mem_flatMap -> bQ3, mem_map -> bQk, mem_of_mem_take -> bR0, mem_range -> bQl, mem_singleton -> bQ1, nil_append -> bQt, not_mem_nil -> bSu, prefix_refl -> bSo, replicate_succ -> bQ5, replicate_zero -> bQ4, take_length -> bQ6, take_succ_cons -> bP0, take_zero -> bPw
open Nat renaming add_zero -> bQ9, div_mul_le_self -> bS8, le_of_lt -> bRn, le_refl -> bPq, le_trans -> bP2, lt_irrefl -> bSf, lt_of_lt_of_le -> bQf, lt_or_ge -> bRo, mul_le_mul_right -> bQw, zero_le -> bPx
namespace Go.Proofs.YtmnchlhngpdffaaGreat
open Go.Abs Go.Proofs Tryz
set_option maxRecDepth 100000
set_option maxHeartbeats 4000000
theorem zH (p:aF)(l:bP)(hp:p.few)(hl:l.few)(hsp:aR p=true)(h:aEu p l=true):PC L 55 [.agg p.cs,.agg l.cs] ((ply p l)):=by
 have hC:=yA p l hp hl hsp;rw[if_pos h]at hC;have hL:=at_ func55
 conv at hL=>rhs;reduce
 refine aI hL rfl rfl ?_
 simp only[go_sem,kK]
 refine cA ?_
 simp only[go_sem,hC.ret,(fC _).ret]
theorem zI (p:aF)(l:bP)(hp:p.few)(hl:l.few)(hsp:aR p=true)(h:aEu p l=false):PX L 55 [.agg p.cs,.agg l.cs] (aAp 2):=by
 have hC:=yA p l hp hl hsp;rw[h,if_neg (by decide)]at hC
 have hL:=at_ func55
 conv at hL=>rhs;reduce
 refine aIg hL rfl rfl ?_
 simp only[go_sem,kK]
 refine dK 4 rfl ?_
 simp only[go_sem,bP0,bPw,hC.ret,(cY _).ret]
variable {p:aF}{w:aA}
theorem aI4 (hg:bY p w=true)(pick:Int):((dL p w pick).2.2=0/\ (aA3 p w pick).2.2.2=0/\ aA3 p w pick=fQ p w pick/\ (dL p w pick).1=(fQ p w pick).1/\ (dL p w pick).2.1=(fQ p w pick).2.1) \/
  ((aA3 p w pick).2.2.2=5/\ (dL p w pick).2.2=6) \/((aA3 p w pick).2.2.2=8/\ (dL p w pick).2.2=8):=by
 unfold aA3 dL;rw[if_pos hg]
 simp only
 rcases aZy p w pick with h|h|h
 ·refine .inl ⟨?_,?_,?_,?_,?_⟩<;>simp[h]
 ·exact .inr (.inl ⟨by simp[h],by simp[h]⟩)
 ·exact .inr (.inr ⟨by simp[h],by simp[h]⟩)
theorem wD (p:aF)(l:bP)(w:aA)(pick:Int)(hp:p.few)(hw:w.few)(hsp:aR p=true)(hg:bY p w=true)(h:(dL p w pick).2.2=0):
  PC L 105 [(ply p l),.agg w.cs,.i pick] (.tup [.agg (dL p w pick).1.cs,evV (dL p w pick).2.1]):=by
 have hT:=aGr p w pick hp hw hsp;obtain⟨_,h0,e1,e2,e3⟩:(dL p w pick).2.2=0/\ (aA3 p w pick).2.2.2=0/\ aA3 p w pick=fQ p w pick/\ (dL p w pick).1=(fQ p w pick).1/\ (dL p w pick).2.1=(fQ p w pick).2.1:=by
  rcases aI4 hg pick with h'|⟨_,h'⟩|⟨_,h'⟩
  ·exact h'
  ·rw[h]at h';cases h'
  ·rw[h]at h';cases h'
 rw[h0,e1]at hT;rw[e2,e3];have hL:=at_ func105
 conv at hL=>rhs;reduce
 refine aI hL rfl rfl ?_
 simp only[go_sem,kK]
 refine aH ?_
 simp only[go_sem,hT.ret,evV,kA,kF]
 refine cA ?_
 simp only[go_sem,(fC _).ret]
 refine cA ?_
 simp only[go_sem,(fC _).ret]
 refine aH ?_
 simp only[go_sem,kA,kF]
theorem wE (p:aF)(l:bP)(w:aA)(pick:Int)(hp:p.few)(hw:w.few)(hsp:aR p=true)(hg:bY p w=true)(h: ¬(dL p w pick).2.2=0):
  PX L 105 [(ply p l),.agg w.cs,.i pick] (aAp (dL p w pick).2.2):=by
 have hT:=aGr p w pick hp hw hsp;rcases aI4 hg pick with h'|⟨h1,h2⟩|⟨h1,h2⟩
 ·exact absurd h'.1 h
 ·rw[h1]at hT;rw[h2];have hL:=at_ func105
  conv at hL=>rhs;reduce
  refine aIg hL rfl rfl ?_
  simp only[go_sem,kK]
  refine aH ?_
  simp only[go_sem,hT.ret,evV,kA,kF]
  refine dK 2 rfl ?_
  simp only[go_sem,bP0,bPw,(cY _).ret]
 ·rw[h1]at hT;rw[h2];have hL:=at_ func105
  conv at hL=>rhs;reduce
  refine aIg hL rfl rfl ?_
  simp only[go_sem,kK]
  refine aH ?_
  simp only[go_sem,hT.ret,evV,kA,kF]
  refine cA ?_
  simp only[go_sem,(fC _).ret]
  refine dK 3 rfl ?_
  simp only[go_sem,bP0,bPw,(cY _).ret]
theorem rG (w:aA)(hw:w.few)(hs:bW w=true):PC L 62 [.agg w.cs] (.agg w.cs):=by
 obtain⟨b1,b2,b3,b4⟩:=aLs hs;have c1:=qV (w.tasks.map (.int .i64)) (pZ _) (by simp;omega)
 have c2:=aF5 (w.outs.map bJ.enc) (aIu _) (by simp;omega)
 have c3:=qV (w.ins.map (.int .i64)) (pZ _) (by simp;omega)
 have hL:=at_ func62
 conv at hL=>rhs;reduce
 refine aI hL rfl rfl ?_
 simp only[go_sem,kK]
 refine aF3 (fun st=>st.fr 2= .ptr ⟨0,2,0⟩ 0/\ st.en ⟨0,2,0⟩=some (.box [.cl [],.cl [],.cl [],.cl [],.i 0] false)/\ st.fr 1= .ptr ⟨0,1,0⟩ 0/\ st.en ⟨0,1,0⟩=some (.box [.fz (w.objs.map aQ.enc),.fz (w.tasks.map (.int .i64)),.fz (w.outs.map bJ.enc),.fz (w.ins.map (.int .i64)),.i w.used] false)/\ st.fr 3= .ptr ⟨0,3,0⟩ 0/\
  ∃vT vO vI,st.en ⟨0,3,0⟩=some (.box [.cl [],vT,vO,vI,.i w.used] false)/\ cP st.en vT 1 (w.tasks.map (.int .i64)) [11]/\ cP st.en vO 2 (w.outs.map bJ.enc) [14]/\ cP st.en vI 1 (w.ins.map (.int .i64)) [17]) ?_ ?_
 ·refine aH ?_
  rcases jK 1 (w.tasks.map (Val.int .i64))with⟨t1,t2⟩|⟨t1,t2⟩<;>rw[t2]at c1<;>
  rcases jK 2 (w.outs.map bJ.enc)with⟨o1,o2⟩|⟨o1,o2⟩<;>rw[o2]at c2<;>
  rcases jK 1 (w.ins.map (Val.int .i64))with⟨i1,i2⟩|⟨i1,i2⟩<;>rw[i2]at c3
  all_goals simp only[go_sem,kA,kF,c1.ret,c2.ret,c3.ret,bPr,bPq,if_true,kB]
  all_goals refine⟨_,_,_,rfl,?_,?_,?_⟩
  all_goals first
   |exact .inl ⟨rfl,by assumption⟩
   |exact wY (by simp only[go_sem];try rfl) (by simp only[bPr])
 ·rintro fr en cnt ⟨h2,e2,h1,e1,h3,vT,vO,vI,e3,mT,mO,mI⟩
  dsimp only at h2 e2 h1 e1 h3 e3 mT mO mI;simp only[go_sem,h1,e1]
  refine bQ w.objs.length (fun k st=> ∃fr en cnt v,st=⟨fr,en,cnt⟩/\ fr 2= .ptr ⟨0,2,0⟩ 0/\ en ⟨0,2,0⟩=some (.box [.cl [],.cl [],.cl [],.cl [],.i 0] false)/\ fr 3= .ptr ⟨0,3,0⟩ 0/\ en ⟨0,3,0⟩=some (.box [v,vT,vO,vI,.i w.used] false)/\ fr 22= .fz (w.objs.map aQ.enc)/\ fr 23= .i w.objs.length/\ fr 24= .i k/\
   cP en vT 1 (w.tasks.map (.int .i64)) [11]/\ cP en vO 2 (w.outs.map bJ.enc) [14]/\ cP en vI 1 (w.ins.map (.int .i64)) [17]/\ cP en v 4 ((w.objs.take k).map aQ.enc) [62]) 0 (bPx _) ⟨_,_,_,.cl [],rfl,by simp only[go_sem,h2],by simp only[go_sem,e2],by simp only[go_sem,h3],by simp only[go_sem,e3],by simp only[go_sem],by simp only[go_sem],by simp only[go_sem],mT,mO,mI,cP.nil _ _⟩ ?_
  rintro k st hk ⟨fr,en,cnt,v,rfl,h2,e2,h3,e3,h22,h23,h24,mT,mO,mI,hv⟩
  simp only[go_sem,kK,h23,h24]
  refine aG (fun hq=>?_) (fun hq=>?_)
  ·have h':k<w.objs.length:=D_o hq;have hso:=aLo hs _ (bPz h');obtain⟨d1,d2,d3⟩:=aOj hso;simp only[go_sem,h',h22,h24];generalize ho:w.objs[k]=o;rw[ho]at hso d1 d2 d3;have hvl:=qX (o.vals.map aD.enc) (wX _) (by simp;omega)
   have hfo:Few o.frames.length:=by unfold Few;omega
   generalize hg5:cnt 0 5=g5;generalize hg6:cnt 0 6=g6
   refine aF3 (fun st=>st.fr 2= .ptr ⟨0,2,0⟩ 0/\ st.en ⟨0,2,0⟩=some (.box [.cl [],.cl [],.cl [],.cl [],.i 0] false)/\ st.fr 3= .ptr ⟨0,3,0⟩ 0/\ st.en ⟨0,3,0⟩=some (.box [v,vT,vO,vI,.i w.used] false)/\ st.fr 22= .fz (w.objs.map aQ.enc)/\ st.fr 23= .i w.objs.length/\ st.fr 24= .i k/\ st.fr 5= .ptr ⟨0,5,g5⟩ 0/\ st.en ⟨0,5,g5⟩=some (.box [.i o.form,.i o.n,.fz (o.vals.map aD.enc),.fz (o.frames.map aB.enc)] false)/\ st.fr 6= .ptr ⟨0,6,g6⟩ 0/\ ∃u,st.en ⟨0,6,g6⟩=some (.box [.i o.form,.i o.n,u,.cl []] false)/\
    cP st.en u 2 (o.vals.map aD.enc) [34]/\ cP st.en vT 1 (w.tasks.map (.int .i64)) [11]/\ cP st.en vO 2 (w.outs.map bJ.enc) [14]/\ cP st.en vI 1 (w.ins.map (.int .i64)) [17]/\ cP st.en v 4 ((w.objs.take k).map aQ.enc) [62]) ?_ ?_
   ·refine aH ?_
    rcases jK 2 (o.vals.map aD.enc)with⟨t1,t2⟩|⟨t1,t2⟩<;>rw[t2]at hvl
    all_goals simp only[go_sem,hg6,h2,e2,h3,e3,h22,h23,h24,kA,kF,hvl.ret,bPr,bPq,if_true,kB]
    all_goals refine⟨_,rfl,?_,?_,?_,?_,?_⟩
    all_goals first
     |(simp only[go_sem,qW,h2,e2,h3,e3,h22,h23,h24];done)
     |(refine mT.keep fun t g ht=>?_;simp at ht;subst ht;simp only[go_sem];done)
     |(refine mO.keep fun t g ht=>?_;simp at ht;subst ht;simp only[go_sem];done)
     |(refine mI.keep fun t g ht=>?_;simp at ht;subst ht;simp only[go_sem];done)
     |(refine hv.keep fun t g ht=>?_;simp at ht;subst ht;simp only[go_sem];done)
     |exact .inl ⟨rfl,by assumption⟩
     |exact wY (by simp only[go_sem];try rfl) (by simp only[bPr])
     |skip
   ·rintro fr en cnt ⟨h2,e2,h3,e3,h22,h23,h24,h5,e5,h6,u,e6,mV,mT,mO,mI,hv⟩
    dsimp only at h2 e2 h3 e3 h22 h23 h24 h5 e5 h6 e6 mV mT mO mI hv;simp only[go_sem,h5,e5]
    refine bQ o.frames.length (fun j st=> ∃fr en cnt x,st=⟨fr,en,cnt⟩/\ fr 2= .ptr ⟨0,2,0⟩ 0/\ en ⟨0,2,0⟩=some (.box [.cl [],.cl [],.cl [],.cl [],.i 0] false)/\ fr 3= .ptr ⟨0,3,0⟩ 0/\ en ⟨0,3,0⟩=some (.box [v,vT,vO,vI,.i w.used] false)/\ fr 22= .fz (w.objs.map aQ.enc)/\ fr 23= .i w.objs.length/\ fr 24= .i k/\ fr 6= .ptr ⟨0,6,g6⟩ 0/\ en ⟨0,6,g6⟩=some (.box [.i o.form,.i o.n,u,x] false)/\ fr 37= .fz (o.frames.map aB.enc)/\ fr 38= .i o.frames.length/\ fr 39= .i j/\
     cP en u 2 (o.vals.map aD.enc) [34]/\ cP en x 3 ((o.frames.take j).map aB.enc) [55]/\ cP en vT 1 (w.tasks.map (.int .i64)) [11]/\ cP en vO 2 (w.outs.map bJ.enc) [14]/\ cP en vI 1 (w.ins.map (.int .i64)) [17]/\ cP en v 4 ((w.objs.take k).map aQ.enc) [62]) 0 (bPx _) ⟨_,_,_,.cl [],rfl,by simp only[go_sem,h2],by simp only[go_sem,e2],by simp only[go_sem,h3],by simp only[go_sem,e3],by simp only[go_sem,h22],by simp only[go_sem,h23],by simp only[go_sem,h24],by simp only[go_sem,h6],by simp only[go_sem,e6],by simp only[go_sem],by simp only[go_sem],by simp only[go_sem],?_,cP.nil _ _,?_,?_,?_,?_⟩ ?_
    ·exact mV.keep fun t g ht=>by simp at ht;subst ht;simp only[go_sem]
    ·exact mT.keep fun t g ht=>by simp at ht;subst ht;simp only[go_sem]
    ·exact mO.keep fun t g ht=>by simp at ht;subst ht;simp only[go_sem]
    ·exact mI.keep fun t g ht=>by simp at ht;subst ht;simp only[go_sem]
    ·exact hv.keep fun t g ht=>by simp at ht;subst ht;simp only[go_sem]
    rintro j st hj ⟨fr,en,cnt,x,rfl,h2,e2,h3,e3,h22,h23,h24,h6,e6,h37,h38,h39,mV,mX,mT,mO,mI,hv⟩
    simp only[go_sem,kK,h38,h39]
    refine aG (fun hq'=>?_) (fun hq'=>?_)
    ·have h'':j<o.frames.length:=D_o hq';have hb:=d3 _ (bPz h'');simp only[go_sem,h'',h37,h39];generalize hf:o.frames[j]=f;rw[hf]at hb;have ce:=qX (f.env.map aD.enc) (wX _) (by simp;omega)
     have cv:=qX (f.vals.map aD.enc) (wX _) (by simp;omega)
     refine aH ?_
     rcases jK 2 (f.env.map aD.enc)with⟨t1,t2⟩|⟨t1,t2⟩<;>rw[t2]at ce<;>
     rcases jK 2 (f.vals.map aD.enc)with⟨u1,u2⟩|⟨u1,u2⟩<;>rw[u2]at cv
     all_goals simp only[go_sem,h6,e6,kA,kF,ce.ret,cv.ret,bPr,bPq,if_true,qY,kB]
     all_goals
      have hap:=mX.shape
      refine aHk (D:=[55]) (xs:=(o.frames.take j).map aB.enc) (ys:=[aB.enc f]) (rs:=[]) ?_ ?_ ?_ rfl ?_ ?_
      ·simp only[go_sem];exact mX.keep fun t g ht=>by simp at ht;subst ht;simp only[go_sem]
      ·simp only[go_sem,t1,u1]
      ·first|rfl|simp[aB.enc]
      ·simp;omega
      ·intro v' en' cnt' r hown hen hcnt _ _ _;have k2:en' ⟨0,2,0⟩=some (.box [.cl [],.cl [],.cl [],.cl [],.i 0] false):=by rw[hen 0 2 0 (.inr ⟨by decide,by simp⟩)];simp only[go_sem,e2]
       have k3:en' ⟨0,3,0⟩=some (.box [v,vT,vO,vI,.i w.used] false):=by rw[hen 0 3 0 (.inr ⟨by decide,by simp⟩)];simp only[go_sem,e3]
       have k6:en' ⟨0,6,g6⟩=some (.box [.i o.form,.i o.n,u,x] false):=by rw[hen 0 6 g6 (.inr ⟨by decide,by simp⟩)];simp only[go_sem,e6]
       obtain⟨s1,s2⟩:=hown.shape;simp only[go_sem,h6,k6,h39,s1,s2]
       refine⟨_,_,_,v',rfl,?_⟩
       simp only[go_sem,h2,k2,h3,k3,h22,h23,h24,h6,h37,h38,aT h'' hfo]
       refine⟨mV.keep ?_,?_,mT.keep ?_,mO.keep ?_,mI.keep ?_,hv.keep ?_⟩
       ·intro t g ht;simp at ht;subst ht;rw[iZ (by simp),hen 0 34 g (.inr ⟨by decide,by simp⟩)];simp only[go_sem]
       ·rw[gZ h'',bQs,hf]
        refine cP.sub (D:=[55,55]) (cP.keep (en:=en') hown ?_) (by simp)
        intro t g ht;simp at ht;subst ht;simp only[go_sem]
       ·intro t g ht;simp at ht;subst ht;rw[iZ (by simp),hen 0 11 g (.inr ⟨by decide,by simp⟩)];simp only[go_sem]
       ·intro t g ht;simp at ht;subst ht;rw[iZ (by simp),hen 0 14 g (.inr ⟨by decide,by simp⟩)];simp only[go_sem]
       ·intro t g ht;simp at ht;subst ht;rw[iZ (by simp),hen 0 17 g (.inr ⟨by decide,by simp⟩)];simp only[go_sem]
       ·intro t g ht;simp at ht;subst ht;rw[iZ (by simp),hen 0 62 g (.inr ⟨by decide,by simp⟩)];simp only[go_sem]
    ·have:j=o.frames.length:=by simp at hq';omega
     subst this;rw[bQ6]at mX;have kend: ∀(fr:Nat->Val) (en:En) (cnt:Nat->Nat->Nat),fr 2= .ptr ⟨0,2,0⟩ 0->en ⟨0,2,0⟩=some (.box [.cl [],.cl [],.cl [],.cl [],.i 0] false)->fr 3= .ptr ⟨0,3,0⟩ 0->en ⟨0,3,0⟩=some (.box [v,vT,vO,vI,.i w.used] false)->fr 22= .fz (w.objs.map aQ.enc)->fr 23= .i w.objs.length->fr 24= .i k->
       cP en vT 1 (w.tasks.map (.int .i64)) [11]->cP en vO 2 (w.outs.map bJ.enc) [14]->cP en vI 1 (w.ins.map (.int .i64)) [17]->
       ∀v' en' cnt',cP en' v' 4 ((w.objs.take k).map aQ.enc++[aQ.enc o]) [62,62]->(∀n t g,n≠0 \/(t≠62/\ t∉[62])->en' ⟨n,t,g⟩=en ⟨n,t,g⟩)->(∀n t,t≠62->cnt' n t=cnt n t)->
       jE L [fA 63 0 3,sT 1 63 62] ⟨jN fr 62 v',en',cnt'⟩ fun st'=>jE L [bN 64 BinOp.add (Opd.t 24) (cI 1),Abs.mT 24 64] st' fun st'=> ∃fr en cnt v,st'=⟨fr,en,cnt⟩/\ fr 2= .ptr ⟨0,2,0⟩ 0/\ en ⟨0,2,0⟩=some (.box [.cl [],.cl [],.cl [],.cl [],.i 0] false)/\ fr 3= .ptr ⟨0,3,0⟩ 0/\ en ⟨0,3,0⟩=some (.box [v,vT,vO,vI,.i w.used] false)/\ fr 22= .fz (w.objs.map aQ.enc)/\ fr 23= .i w.objs.length/\ fr 24= .i (k+1:Nat)/\
        cP en vT 1 (w.tasks.map (.int .i64)) [11]/\ cP en vO 2 (w.outs.map bJ.enc) [14]/\ cP en vI 1 (w.ins.map (.int .i64)) [17]/\ cP en v 4 ((w.objs.take (k+1)).map aQ.enc) [62]:=by
      intro fr en cnt h2 e2 h3 e3 h22 h23 h24 mT mO mI v' en' cnt' hown hen hcnt;have k2:en' ⟨0,2,0⟩=some (.box [.cl [],.cl [],.cl [],.cl [],.i 0] false):=by rw[hen 0 2 0 (.inr ⟨by decide,by simp⟩)];simp only[go_sem,e2]
      have k3:en' ⟨0,3,0⟩=some (.box [v,vT,vO,vI,.i w.used] false):=by rw[hen 0 3 0 (.inr ⟨by decide,by simp⟩)];simp only[go_sem,e3]
      obtain⟨s1,s2⟩:=hown.shape;simp only[go_sem,h3,k3,h24,s1,s2]
      refine⟨_,_,_,v',rfl,?_⟩
      simp only[go_sem,h2,k2,h3,h22,h23,aT h' hw.objs]
      refine⟨mT.keep ?_,mO.keep ?_,mI.keep ?_,?_⟩
      ·intro t g ht;simp at ht;subst ht;rw[iZ (by simp),hen 0 11 g (.inr ⟨by decide,by simp⟩)]
      ·intro t g ht;simp at ht;subst ht;rw[iZ (by simp),hen 0 14 g (.inr ⟨by decide,by simp⟩)]
      ·intro t g ht;simp at ht;subst ht;rw[iZ (by simp),hen 0 17 g (.inr ⟨by decide,by simp⟩)]
      ·rw[gZ h',bQs,ho]
       refine cP.sub (D:=[62,62]) (cP.keep (en:=en') hown ?_) (by simp)
       intro t g ht;simp at ht;subst ht;simp only[go_sem]
     rcases mV with⟨rfl,n1⟩|⟨t,g,f,rfl,eV,m1⟩<;>rcases mX with⟨rfl,n2⟩|⟨t',g',f',rfl,eX,m2⟩<;>(try(simp only[bQ1]at m1;subst m1))<;>(try(simp only[bQ1]at m2;subst m2))
     ·simp only[go_sem,h2,e2,h3,e3,h24,h6,e6,bPq,if_true,kF]
      refine kQ (D:=[62]) (xs:=(w.objs.take k).map aQ.enc) (ys:=[aQ.enc o]) (rs:=[]) ?_ ?_ rfl ?_ ?_
      ·simp only[go_sem];exact hv.keep fun t g ht=>by simp at ht;subst ht;simp only[go_sem]
      ·simp only[go_sem,aQ.enc,n1,n2]
      ·simp;omega
      ·exact kend _ _ _ (by simp only[go_sem,h2]) (by simp only[go_sem,e2]) (by simp only[go_sem,h3]) (by simp only[go_sem,e3]) (by simp only[go_sem,h22]) (by simp only[go_sem,h23]) (by simp only[go_sem,h24]) (mT.keep fun t g ht=>by simp at ht;subst ht;simp only[go_sem]) (mO.keep fun t g ht=>by simp at ht;subst ht;simp only[go_sem]) (mI.keep fun t g ht=>by simp at ht;subst ht;simp only[go_sem])
     ·simp only[go_sem,h2,e2,h3,e3,h24,h6,e6,eX,bPr,bPq,if_true,qY,kF]
      refine kQ (D:=[62]) (xs:=(w.objs.take k).map aQ.enc) (ys:=[aQ.enc o]) (rs:=[]) ?_ ?_ rfl ?_ ?_
      ·simp only[go_sem];exact hv.keep fun t g ht=>by simp at ht;subst ht;simp only[go_sem]
      ·simp only[go_sem,aQ.enc,n1]
      ·simp;omega
      ·exact kend _ _ _ (by simp only[go_sem,h2]) (by simp only[go_sem,e2]) (by simp only[go_sem,h3]) (by simp only[go_sem,e3]) (by simp only[go_sem,h22]) (by simp only[go_sem,h23]) (by simp only[go_sem,h24]) (mT.keep fun t g ht=>by simp at ht;subst ht;simp only[go_sem]) (mO.keep fun t g ht=>by simp at ht;subst ht;simp only[go_sem]) (mI.keep fun t g ht=>by simp at ht;subst ht;simp only[go_sem])
     ·simp only[go_sem,h2,e2,h3,e3,h24,h6,e6,eV,bPr,bPq,if_true,qY,kF]
      refine kQ (D:=[62]) (xs:=(w.objs.take k).map aQ.enc) (ys:=[aQ.enc o]) (rs:=[]) ?_ ?_ rfl ?_ ?_
      ·simp only[go_sem];exact hv.keep fun t g ht=>by simp at ht;subst ht;simp only[go_sem]
      ·simp only[go_sem,aQ.enc,n2]
      ·simp;omega
      ·exact kend _ _ _ (by simp only[go_sem,h2]) (by simp only[go_sem,e2]) (by simp only[go_sem,h3]) (by simp only[go_sem,e3]) (by simp only[go_sem,h22]) (by simp only[go_sem,h23]) (by simp only[go_sem,h24]) (mT.keep fun t g ht=>by simp at ht;subst ht;simp only[go_sem]) (mO.keep fun t g ht=>by simp at ht;subst ht;simp only[go_sem]) (mI.keep fun t g ht=>by simp at ht;subst ht;simp only[go_sem])
     ·simp only[go_sem,h2,e2,h3,e3,h24,h6,e6,eV,eX,bPr,bPq,if_true,qY,kF]
      refine kQ (D:=[62]) (xs:=(w.objs.take k).map aQ.enc) (ys:=[aQ.enc o]) (rs:=[]) ?_ ?_ rfl ?_ ?_
      ·simp only[go_sem];exact hv.keep fun t g ht=>by simp at ht;subst ht;simp only[go_sem]
      ·simp only[go_sem,aQ.enc]
      ·simp;omega
      ·exact kend _ _ _ (by simp only[go_sem,h2]) (by simp only[go_sem,e2]) (by simp only[go_sem,h3]) (by simp only[go_sem,e3]) (by simp only[go_sem,h22]) (by simp only[go_sem,h23]) (by simp only[go_sem,h24]) (mT.keep fun t g ht=>by simp at ht;subst ht;simp only[go_sem]) (mO.keep fun t g ht=>by simp at ht;subst ht;simp only[go_sem]) (mI.keep fun t g ht=>by simp at ht;subst ht;simp only[go_sem])
  ·have:k=w.objs.length:=by simp at hq;omega
   subst this;rw[bQ6]at hv;simp only[go_sem,h2,e2,h3,e3];obtain⟨r1,ks1,s1,s1',_⟩:=(hv.keep (en':=en.set ⟨0,2,0⟩ (some (.box [v,vT,vO,vI,.i w.used] false))) fun t g ht=>by simp at ht;subst ht;simp only[go_sem]).snap 6
   obtain⟨r2,ks2,s2,s2',_⟩:=(mT.keep (en':=en.set ⟨0,2,0⟩ (some (.box [v,vT,vO,vI,.i w.used] false))) fun t g ht=>by simp at ht;subst ht;simp only[go_sem]).snap 6
   obtain⟨r3,ks3,s3,s3',_⟩:=(mO.keep (en':=en.set ⟨0,2,0⟩ (some (.box [v,vT,vO,vI,.i w.used] false))) fun t g ht=>by simp at ht;subst ht;simp only[go_sem]).snap 6
   obtain⟨r4,ks4,s4,s4',_⟩:=(mI.keep (en':=en.set ⟨0,2,0⟩ (some (.box [v,vT,vO,vI,.i w.used] false))) fun t g ht=>by simp at ht;subst ht;simp only[go_sem]).snap 6
   simp only[go_sem,s1,s2,s3,s4,s1',s2',s3',s4']
theorem aA.eq_iff {a b:aA}:decide (a=b)=(decide (a.objs=b.objs)&&decide (a.tasks=b.tasks)&&decide (a.outs=b.outs)&&decide (a.ins=b.ins)&&decide (a.used=b.used)):=by
 cases a;cases b;simp[Bool.and_assoc]
def aGu (g3:Nat)(en en':En):Prop:= ∀n t g,(n≠0 \/t∉[1,2,3,5,10,24] \/(t=3/\ g<g3))->en' ⟨n,t,g⟩=en ⟨n,t,g⟩
variable {en:En}{g3:Nat}
theorem aGu.refl :aGu g3 en en:=fun _ _ _ _=>rfl
variable {e:Option Ent}{en':En}{g t:Nat}
theorem aGu.set (h:aGu g3 en en')(ht:t∈[1,2,3,5,10,24])(hg:t=3->g3<=g):aGu g3 en (en'.set ⟨0,t,g⟩ e):=by
 intro n u g' k;rw[iZ,h n u g' k];intro he
 injection he with h1 h2 h3
 subst h1 h2 h3;rcases k with k|k|k
 ·exact k rfl
 ·exact k ht
 ·have:=hg k.1;omega
theorem aGu.step {en2:En}(h:aGu g3 en en')(k: ∀n t g,n≠0 \/(t≠24/\ t∉[24])->en2 ⟨n,t,g⟩=en' ⟨n,t,g⟩):aGu g3 en en2:=fun n t g q=>by
 rw[k n t g,h n t g q];rcases q with q|q|q
 ·exact .inl q
 ·exact .inr ⟨fun e=>q (by simp[e]),fun e=>q (by simp at e;simp[e])⟩
 ·exact .inr ⟨by omega,by simp;omega⟩
variable {l:bP}
variable {cnt:Nat->Nat->Nat}
theorem yB (p:aF)(l:bP)(a b:Int):PC L 65 [(ply p l),.i a,.i b] (.fn 118 [] [.fp [.i a] 0,.fp [.i b] 0,.fp [(ply p l)] 0]):=by
 have hL:=at_ func65
 conv at hL=>rhs;reduce
 refine aI hL rfl rfl ?_
 simp only[go_sem,kK,kF]
theorem bId :dA .eql .iface .nili .nili=some (.bool true):=(rfl)
theorem bIe {v:Val}:dA .eql .iface (.ifc t v) .nili=some (.bool false):=(rfl)
theorem aZz {k:Key}{a b:Option Ent}:(en.set k a).set k b=en.set k b:=by
 funext j
 by_cases h:j=k<;>simp[En.set,h]
variable {K:St->Prop}{f x:Val}{fr:Nat->Val}
theorem oA {e:Ex}(he:e.rcvd=some .nili)(hK:K ⟨fr,en,cnt⟩):
  ∃st4,(∃n0,∀n,n0<=n->iK L (exec L n) (.fn 53 [] []) [x,f] e ⟨fr,en,cnt⟩=some st4)/\ K st4:=by
 have hL:=at_ func53
 conv at hL=>rhs;reduce
 refine tX hL rfl he rfl rfl ?_
 simp only[go_sem,kK,bQt,bQr,bId,kF];exact hK
theorem cZ {k:Key}{e:Ex}{n:Int}(he:e.rcvd=some (aAp n))
  (hf:WIn L f [] (en.set ⟨0,5,cnt 0 5⟩ (some (.box [.i n] false))) (aC cnt 0 5 (cnt 0 5+1)) fun _ en' cnt'=>en' k=some (.box [x] false)/\ en' ⟨0,5,cnt 0 5⟩=some (.box [.i n] false)/\ K ⟨fr,en'.set k (some (.box [.i n] false)),cnt'⟩):
  ∃st4,(∃n0,∀n,n0<=n->iK L (exec L n) (.fn 53 [] []) [.ptr k 0,f] e ⟨fr,en,cnt⟩=some st4)/\ K st4:=by
 have hL:=at_ func53
 conv at hL=>rhs;reduce
 refine tX hL rfl he rfl rfl ?_
 simp only[go_sem,kK,aAp,bQt,bQr,bIe,kF,if_true];rw[aZz]
 refine WIn.mono hf ?_
 rintro v e2 c2 ⟨k1,k2,hk⟩
 simp only[go_sem,k1,k2];exact hk
set_option maxRecDepth 100000
set_option maxHeartbeats 4000000
set_option maxRecDepth 100000
set_option maxHeartbeats 4000000
structure nQ (l:bP):Prop where
 e1:1<=aL l
 e2:aL l<=20
 ev:l.every=(aL l:Int)
 pk:l.picks.length<=200
 mn:l.marks.length=l.picks.length/aL l+1
theorem nQ.of (h:gY p l=true):nQ l:=let ⟨_,⟨a,b,c⟩,d,e,_⟩:=nF h;⟨a,b,c,d,e⟩
variable {n:Nat}
theorem nQ.lt (h:nQ l)(hn:n<=l.picks.length):n/aL l<l.marks.length:=by
 rw[h.mn];have:=Nat.div_le_div_right (c:=aL l) hn;omega
theorem nQ.div (h:nQ l)(n:Nat):((n:Int)).tdiv (aL l:Int)=((n/aL l:Nat):Int):=by
 rw[bTd (by omega)];rfl
theorem nQ.few (h:nQ l):Few l.picks.length:=by have:=h.pk;unfold Few;omega
theorem nQ.wdiv (h:nQ l)(hn:n<=l.picks.length):IntKind.i64.wrap (((n/aL l:Nat):Int))=((n/aL l:Nat):Int):=by
 have h1:=Nat.div_le_self n (aL l);have:=h.pk;generalize n/aL l=q at h1⊢;exact aW (by omega)
theorem nQ.mul (h:nQ l)(hn:n<=l.picks.length):IntKind.i64.wrap (((n/aL l:Nat):Int)*(aL l:Int))=((n/aL l*aL l:Nat):Int):=by
 have h1:=bS8 n (aL l);have:=h.pk;rw[<-Int.natCast_mul];generalize n/aL l*aL l=q at h1⊢;exact aW (by omega)
theorem nQ.ne (h:nQ l):((aL l:Int)=0)=False:=eq_false (by have:=h.e1;omega)
theorem aAq {k:Nat}(h:k<l.marks.length):aCh l k=l.marks[k]:=by simp[aCh,h]
theorem aWk (hl:nQ l)(hn:n<=l.picks.length)(hm:n%aL l=0):PC L 63 [.fp [.i l.every,.is l.picks,.fz (l.marks.map aA.enc),.fz (p.nodes.map aM.enc),.fz (p.funs.map (.int .i64)),.i p.main,.fz (p.cons.map cS.enc)] 0,.i (n:Int)] (.agg (aCh l (n/aL l)).cs):=by
 have hlt:=hl.lt hn;have hia:=fun en=>sB (l:=l) (en:=en) hlt
 have hnn:n/aL l*aL l=n:=Nat.div_mul_cancel (Nat.dvd_of_mod_eq_zero hm);have hmul:=hl.mul hn;rw[hnn]at hmul;have ht:=yB p l n n;rw[aAq hlt];simp only[ply,hl.ev]at ht⊢;have hL:=at_ func63
 conv at hL=>rhs;reduce
 refine aI hL rfl rfl ?_
 simp only[go_sem,kK,hl.ne,hl.div,hl.wdiv hn,hmul,kF]
 refine aH ?_
 simp only[go_sem,hl.ne,hl.div,hl.wdiv hn,hia,kA,kF];simp only[go_sem,ht.ret]
 refine aFm (by simp only[go_sem];rfl) ?_
 rintro fr0 k hf hk
 rw[aVr]at hk;subst hk
 refine bD aS2 rfl rfl ?_
 simp only[go_sem,kK,aOd,D_t (bPq n),kF]
 done
def aO8 (w x:aA)(e:iD):Val:= .agg [.fz (w.objs.map aQ.enc),.is w.tasks,.fz (w.outs.map bJ.enc),.is w.ins,.i w.used,.fz (x.objs.map aQ.enc),.is x.tasks,.fz (x.outs.map bJ.enc),.is x.ins,.i x.used,.i e.task,.i e.act,.i e.n,.i e.v.kind,.i e.v.n]
def aCl (p:aF)(l:bP)(t:Nat):Val:=aO8 (atX p l t).1 (bR p l t).1 (bR p l t).2.1
def T3 :List Nat:=[5,7,8]
def aWl (c0:Nat->Nat)(en en':En):Prop:= ∀n t g,(n≠0 \/t∉T3 \/g<c0 t)->en' ⟨n,t,g⟩=en ⟨n,t,g⟩
variable {c0:Nat->Nat}
theorem aWl.trans {x y z:En}(h:aWl c0 x y)(h':aWl c0 y z):aWl c0 x z:=fun n t g k=>(h' n t g k).trans (h n t g k)
def aWm (c0:Nat->Nat)(I:En->(Nat->Nat->Nat)->Prop):Prop:= ∀en cnt en' cnt',I en cnt->aWl c0 en en'->(∀n t,n≠0 \/t∉T3->cnt' n t=cnt n t)->(∀t∈T3,cnt 0 t<=cnt' 0 t)->I en' cnt'
theorem xF (ht:t∈T3)(hg:c0 t<=g):aWl c0 en (en.set ⟨0,t,g⟩ e):=by
 intro n u g' h
 refine iZ fun he=>?_
 injection he with h1 h2 h3
 rcases h with h|h|h
 ·exact h h1
 ·exact h (h2▸ht)
 ·subst h2;omega
theorem wF (h:(bR p l t).2.2=0):(atX p l t).2=0/\ (dL p (atX p l t).1 (gP l t)).2.2=0/\ bR p l t=dL p (atX p l t).1 (gP l t):=by
 unfold bR at h⊢
 by_cases h1:(atX p l t).2=0
 ·rw[if_pos h1]at h⊢
  by_cases h2:(dL p (atX p l t).1 (gP l t)).2.2=0
  ·rw[if_pos h2];exact⟨h1,h2,rfl⟩
  ·rw[if_neg h2]at h;exact absurd h h2
 ·rw[if_neg h1]at h;exact absurd h h1
theorem aHz (h1:(atX p l t).2=0)(h: ¬(bR p l t).2.2=0): ¬(dL p (atX p l t).1 (gP l t)).2.2=0/\ (bR p l t).2.2=(dL p (atX p l t).1 (gP l t)).2.2:=by
 unfold bR at h⊢;rw[if_pos h1]at h⊢
 by_cases h2:(dL p (atX p l t).1 (gP l t)).2.2=0
 ·rw[if_pos h2]at h;exact absurd h2 h
 ·rw[if_neg h2];exact⟨h2,rfl⟩
theorem aUh (h1: ¬(atX p l t).2=0):(bR p l t).2.2=(atX p l t).2:=by unfold bR;rw[if_neg h1]
theorem aJr (hl:nQ l)(h:(bR p l t).2.2=0):(atX p l (t+1)).2=0/\ ((t+1)%aL l=0 \/(atX p l (t+1)).1=(bR p l t).1):=by
 obtain⟨h1,h2,h3⟩:=wF h
 by_cases hm:(t+1)%aL l=0
 ·rw[zG hl.e1 hm];exact⟨rfl,.inl hm⟩
 ·rw[aMq hl.e1 hm,if_pos h1,if_pos h2,h3];exact⟨rfl,.inr rfl⟩
theorem rH (h:t<l.picks.length):gP l t=l.picks[t]:=by simp[gP,h]
theorem pB (h:gY p l=true)(hn:n<=l.picks.length)(he:(atX p l n).2=0):bY p (atX p l n).1=true:=by
 have h1:=(nF h).1;have:=aQ6 (lV h1) h hn he;simp[bY,h1,this]
theorem jT (hsp:aR p=true)(h:bY p w=true):w.few:=by
 simp only[bY,bPp]at h;exact rX (lW hsp h.2)
variable {a b u:Nat}
theorem bOe (h:n≠0 \/u∉T3):aC (aC cnt 0 7 a) 0 8 b n u=cnt n u:=by
 simp only[aC];rw[if_neg,if_neg]
 ·rintro⟨rfl,rfl⟩;rcases h with h|h
  ·exact h rfl
  ·exact h (by decide)
 ·rintro⟨rfl,rfl⟩;rcases h with h|h
  ·exact h rfl
  ·exact h (by decide)
theorem aJs :cnt 0 u<=aC (aC cnt 0 7 (cnt 0 7+1)) 0 8 (cnt 0 8+1) 0 u:=by
 simp only[aC];split
 ·rename_i h;obtain⟨_,rfl⟩:=h;omega
 split
 ·rename_i h;obtain⟨_,rfl⟩:=h;omega
 ·exact bPq _
theorem aUi (hpf:p.few)(hsp:aR p=true)(hok:gY p l=true){a b s:Nat}(has:a<=s)(hsb:s<=b)(hb:b<=l.picks.length)
  (hat:(atX p l a).2=0->PC L 63 [(ply p l),.i (a:Int)] (.agg (atX p l a).1.cs)) (hax: ¬(atX p l a).2=0->PX L 63 [(ply p l),.i (a:Int)] (aAp (atX p l a).2))
  {k:Key} {c0:Nat->Nat} {I:Nat->En->(Nat->Nat->Nat)->Prop} {R:Ex->St->Prop} (hst: ∀t,aWm c0 (I t))
  (hr: ∀t,a<=t->t<s->(bR p l t).2.2=0/\ ∀en cnt,I t en cnt->(∀u∈T3,c0 u<=cnt 0 u)->WIn L (.yld k) [.i (t:Int),aCl p l t] en cnt fun v en' cnt'=>v= .bool true/\ I (t+1) en' cnt'/\ (∀u g,u∈T3->g<cnt 0 u->c0 u<=g->en' ⟨0,u,g⟩=en ⟨0,u,g⟩)/\ ∀u∈T3,cnt 0 u<=cnt' 0 u)
  (hfin: ∀en cnt,I s en cnt->(∀u∈T3,c0 u<=cnt 0 u)->(s=b/\ ∀e fr,e= .normal \/e= .ret->R e ⟨fr,en,cnt⟩) \/
   (s<b/\ (bR p l s).2.2=0/\ WIn L (.yld k) [.i (s:Int),aCl p l s] en cnt fun v en' cnt'=>v= .bool false/\ ∀fr,R .ret ⟨fr,en',cnt'⟩) \/
   (s<b/\ ¬(bR p l s).2.2=0/\ ∀fr,R (.panic (aAp (bR p l s).2.2)) ⟨fr,en,cnt⟩))
  {en:En} {cnt:Nat->Nat->Nat} (h0:I a en cnt) (hc0: ∀u∈T3,c0 u<=cnt 0 u):
  Wp L aOd.body ⟨fun i=>[.yld k,.fp [.i (a:Int)] 0,.fp [.i (b:Int)] 0,.fp [(ply p l)] 0].getD i (.tup []),en,cnt⟩ R:=by
 have hl:=nQ.of hok;simp only[go_sem,kK,aOd]
 by_cases hab:b<=a
 ·have:s=b:=by omega
  subst this;have:a=s:=by omega
  subst this;rcases hfin _ _ h0 hc0 with⟨_,h⟩|⟨h,_⟩|⟨h,_⟩
  ·simp only[go_sem,D_t hab];exact h _ _ (.inr rfl)
  ·omega
  ·omega
 simp only[go_sem,D_f hab]
 by_cases ha0:(atX p l a).2=0
 case neg=>
  have hs:s=a:=by
   rcases bRo a s with h|h
   ·exact absurd (wF (hr a (bPq _) h).1).1 ha0
   ·omega
  subst hs;rcases hfin _ _ h0 hc0 with⟨h,_⟩|⟨_,h,_⟩|⟨_,_,h⟩
  ·omega
  ·exact absurd (wF h).1 ha0
  ·rw[aUh ha0]at h
   refine dK 2 rfl ?_
   simp only[go_sem,bP0,bPw,(hax ha0).ret];exact h _
 refine cA ?_
 simp only[go_sem,(hat ha0).ret,kF];obtain⟨g5,hg5⟩: ∃g,g=cnt 0 5:=⟨_,rfl⟩
 rw[<-hg5];have hc5:c0 5<=g5:=by rw[hg5];exact hc0 5 (by decide)
 refine bQ s (fun t st=> ∃fr en cnt w,st=⟨fr,en,cnt⟩/\ fr 0= .yld k/\ fr 1= .fp [.i (a:Int)] 0/\ fr 2= .fp [.i (b:Int)] 0/\ fr 3= .fp [(ply p l)] 0/\ fr 5= .ptr ⟨0,5,g5⟩ 0/\ fr 6= .i (t:Int)/\ en ⟨0,5,g5⟩=some (.box w.cs false)/\ (t%aL l=0 \/w=(atX p l t).1)/\ (atX p l t).2=0/\ I t en cnt/\ g5<cnt 0 5/\ a<=t/\ ∀u∈T3,c0 u<=cnt 0 u) a has ?_ ?_
 ·refine⟨_,_,_,(atX p l a).1,rfl,by simp only[go_sem],by simp only[go_sem],by simp only[go_sem],by simp only[go_sem],by simp only[go_sem],by simp only[go_sem],by simp only[go_sem],.inr rfl,ha0,?_,?_,bPq _,?_⟩
  ·refine hst a _ _ _ _ h0 ((xF (by decide) (by omega)).trans (xF (by decide) (by omega))) (fun n t h=>?_) (fun u hu=>?_)
   ·simp only[aC];split
    ·rename_i h';obtain⟨rfl,rfl⟩:=h';rcases h with h|h
     ·exact absurd rfl h
     ·exact absurd (by decide) h
    ·rfl
   ·simp only[aC];split
    ·rename_i h';obtain⟨_,rfl⟩:=h';omega
    ·exact bPq _
  ·simp only[aC];simp
  ·intro u hu;have:=hc0 u hu;simp only[aC];split
   ·rename_i h';obtain⟨_,rfl⟩:=h';omega
   ·exact this
 rintro t st hts ⟨fr,en,cnt,w,rfl,f0,f1,f2,f3,f5,f6,e5,hw,h0t,hI,hg,hta,hc⟩
 simp only[go_sem,kK,f6,f2]
 by_cases htb:t<b
 case neg=>
  have:s=b:=by omega
  subst this;have:t=s:=by omega
  subst this;simp only[go_sem,D_f htb];rcases hfin _ _ hI hc with⟨_,h⟩|⟨h,_⟩|⟨h,_⟩
  ·exact h _ _ (.inl rfl)
  ·omega
  ·omega
 have htp:t<l.picks.length:=by omega
 have hmk:=aO5 (p:=p) (l:=l) t hl.e1 (by have:=hl.pk;omega) hl.ev
 have hgv:=pB hok (bRn htp) h0t;obtain⟨y,hy⟩: ∃y,y=(atX p l t).1:=⟨_,rfl⟩
 rw[<-hy]at hw hgv
 by_cases hm:t%aL l=0
 case' pos=>
  have hlt:=hl.lt (bRn htp);have hia:=fun en=>sB (l:=l) (en:=en) hlt
  have hwm:l.marks[t/aL l]=y:=by rw[hy,zG hl.e1 hm,aAq hlt]
  simp only[go_sem,kK,D_t htb,f3,f6,hmk.ret,D_t hm];simp only[go_sem,f5,hl.ev,hl.ne,hl.div,hl.wdiv (bRn htp),hia,hwm,e5,kF];have e6:(en.set ⟨0,5,g5⟩ (some (.box y.cs false))) ⟨0,5,g5⟩=some (.box y.cs false):=by simp only[go_sem]
  have hI2:=hst t _ cnt _ cnt hI (xF (e:=some (.box y.cs false)) (t:=5) (g:=g5) (by decide) (by omega)) (fun _ _ _=>rfl) (fun _ _=>bPq _)
  generalize En.set en _ _=en1 at e6 hI2⊢
 case' neg=>
  simp only[go_sem,kK,D_t htb,f3,f6,hmk.ret,D_f hm];have e6:=e5;rw[hw.resolve_left hm]at e6;have hI2:=hI;generalize en=en1 at e6 hI2⊢
 all_goals
  clear e5 hI hw
  by_cases hk:(bR p l t).2.2=0
  case neg=>
   obtain⟨hb1,hb2⟩:=aHz h0t hk;rw[<-hy]at hb1 hb2;have hT:=wE p l y (gP l t) hpf (jT hsp hgv) hsp hgv hb1;rw[<-hb2,rH htp]at hT;have:t=s:=by
    rcases bRo t s with h|h
    ·exact absurd (hr t hta h).1 hk
    ·omega
   subst this
   refine mF 10 rfl rfl ?_
   simp only[go_sem,bP0,bPw,bQ5,bQ4,sI,f3,f5,f6,e6,htp,hT.ret,kA,kF]
   refine⟨rfl,?_⟩
   rcases hfin _ _ hI2 hc with⟨h,_⟩|⟨_,h,_⟩|⟨_,_,h⟩
   ·omega
   ·exact absurd h hk
   ·exact h _
  obtain⟨_,ht0,hta'⟩:=wF hk;rw[<-hy]at ht0 hta';have hT:=wD p l y (gP l t) hpf (jT hsp hgv) hsp hgv ht0;rw[<-hta',rH htp]at hT;obtain⟨x,hx⟩: ∃x,x=(bR p l t).1:=⟨_,rfl⟩
  obtain⟨e,he⟩: ∃e,e=(bR p l t).2.1:=⟨_,rfl⟩
  rw[<-hx,<-he]at hT
  refine jQ ?_
  simp only[go_sem,f0,f3,f5,f6,e6,htp,hT.ret,evV,kA,kF];have hc7:=hc 7 (by decide)
  have hc8:=hc 8 (by decide)
  generalize hE:En.set (En.set (En.set (En.set en1 _ _) _ _) _ _) _ _=E;have ho:aWl c0 en1 E:=by rw[<-hE];exact(((xF (by decide) hc7).trans (xF (by decide) hc8)).trans (xF (by decide) hc7)).trans (xF (by decide) hc8)
  have E5:E ⟨0,5,g5⟩=some (.box y.cs false):=by rw[<-hE];simp only[go_sem,e6]
  have E7:E ⟨0,7,cnt 0 7⟩=some (.box [.fz (x.objs.map aQ.enc),.is x.tasks,.fz (x.outs.map bJ.enc),.is x.ins,.i x.used] false):=by rw[<-hE];simp only[go_sem]
  have hI3:=hst t _ _ E (aC (aC cnt 0 7 (cnt 0 7+1)) 0 8 (cnt 0 8+1)) hI2 ho (fun n u h=>bOe h) (fun u _=>aJs)
  have hc3: ∀u∈T3,c0 u<=aC (aC cnt 0 7 (cnt 0 7+1)) 0 8 (cnt 0 8+1) 0 u:=fun u hu=>bP2 (hc u hu) aJs
  have hd:aCl p l t=aO8 y x e:=by rw[aCl,hy,hx,he]
  rcases bRo t s with hlt|hge
  ·have hrt:=(hr t hta hlt).2 _ _ hI3 hc3;rw[hd]at hrt
   refine WIn.mono hrt ?_
   rintro v en' cnt' ⟨rfl,hI4,hin,hcc⟩
   have q5:=(hin 5 g5 (by decide) (bQf hg aJs) hc5).trans E5
   have q7:=(hin 7 (cnt 0 7) (by decide) (by simp[aC]) hc7).trans E7
   obtain⟨hn0,hn1⟩:=aJr hl hk;have hx1:(t+1)%aL l=0 \/x=(atX p l (t+1)).1:=hn1.imp_right fun h=>by rw[hx,h]
   simp only[go_sem,kK,f5,f6,q5,q7,bP3]
   refine⟨hlt,_,_,_,x,rfl,?_⟩
   simp only[go_sem,f0,f1,f2,f3,f5,aT htp hl.few,hl.ev];exact⟨hx1,hn0,hst _ _ _ _ _ hI4 (xF (by decide) hc5) (fun _ _ _=>rfl) (fun _ _=>bPq _),bQf hg (bP2 aJs (hcc 5 (by decide))),by omega,fun u hu=>bP2 (hc3 u hu) (hcc u hu)⟩
  ·have:t=s:=by omega
   subst this;rcases hfin _ _ hI3 hc3 with⟨h,_⟩|⟨_,_,hrt⟩|⟨_,h,_⟩
   ·omega
   ·rw[hd]at hrt
    refine WIn.mono hrt ?_
    rintro v en' cnt' ⟨rfl,hR⟩
    simp only[go_sem,kK,bP8];exact hR _
   ·exact absurd hk h
theorem aUj {e m:Nat}(he:1<=e)(h: ¬(m+1)%e=0):(m+1)/e=m/e:=by
 rw[Nat.succ_div,if_neg (fun h'=>h (Nat.mod_eq_zero_of_dvd h')),bQ9]
theorem aH0 {e:Nat}(h:n%e=0):n/e*e=n:=Nat.div_mul_cancel (Nat.dvd_of_mod_eq_zero h)
theorem aRa {p:aF}{l:bP}(hl:nQ l): ∀n,(atX p l n).2=0-> ∀t,n/aL l*aL l<=t->t<n->(bR p l t).2.2=0
 |0,_,t,_,h=>by omega
 |m+1,h0,t,h1,h2=>by
  by_cases hm:(m+1)%aL l=0
  ·rw[aH0 hm]at h1;omega
  ·rw[aMq hl.e1 hm]at h0
   by_cases ha:(atX p l m).2=0
   ·rw[if_pos ha]at h0
    by_cases ht:(dL p (atX p l m).1 (gP l m)).2.2=0
    ·rcases bRo t m with h|h
     ·exact aRa hl m ha t (by rw[<-aUj hl.e1 hm];exact h1) h
     ·obtain rfl:t=m:=by omega
      unfold bR;rw[if_pos ha,if_pos ht];exact ht
    ·rw[if_neg ht]at h0;exact absurd h0 ht
   ·rw[if_neg ha]at h0;exact absurd h0 ha
theorem aRb {p:aF}{l:bP}(hl:nQ l): ∀n,¬(atX p l n).2=0-> ∃s,n/aL l*aL l<=s/\ s<n/\ (∀t,n/aL l*aL l<=t->t<s->(bR p l t).2.2=0)/\ ¬(bR p l s).2.2=0/\ (bR p l s).2.2=(atX p l n).2
 |0,h=>by rw[zG hl.e1 (Nat.zero_mod _)]at h;exact absurd rfl h
 |m+1,h0=>by
  by_cases hm:(m+1)%aL l=0
  ·rw[zG hl.e1 hm]at h0;exact absurd rfl h0
  ·have hd:=aUj hl.e1 hm;have hle:=bS8 m (aL l);rw[hd];have hs:=aMq (p:=p) hl.e1 hm;rw[hs]at h0⊢
   by_cases ha:(atX p l m).2=0
   ·rw[if_pos ha]at h0⊢
    by_cases ht:(dL p (atX p l m).1 (gP l m)).2.2=0
    ·rw[if_pos ht]at h0;exact absurd rfl h0
    ·rw[if_neg ht]at h0⊢;have hk:(bR p l m).2.2=(dL p (atX p l m).1 (gP l m)).2.2:=by unfold bR;rw[if_pos ha,if_neg ht]
     exact⟨m,hle,by omega,aRa hl m ha,by rw[hk];exact ht,hk⟩
   ·rw[if_neg ha]at h0⊢;obtain⟨s,h1,h2,h3,h4,h5⟩:=aRb hl m ha;exact⟨s,h1,by omega,h3,h4,h5⟩
def AtI (p:aF)(l:bP)(fr0:Nat->Val)(t:Nat)(en:En)(_:Nat->Nat->Nat):Prop:=
 (∃fr1,en ⟨1,0,0⟩=some (.loop fr1 [40,41] (aZ.ops [o 8 (.alloc [.cl [],.cl [],.cl [],.cl [],.i 0,.cl [],.cl [],.cl [],.cl [],.i 0,.i 0,.i 0,.i 0,.i 0,.i 0]),sT 15 8 41]) (aZ.block 1 (.ops [fA 42 5 8,lT 43 5 42,sT 5 6 43])) .ready)/\ fr1 6=fr0 6)/\ en ⟨0,4,0⟩=some (.box [.cl [],.cl [],.cl [],.cl [],.i 0] false)/\ ∃w,en ⟨0,6,0⟩=some (.box [.fz (w.objs.map aQ.enc),.is w.tasks,.fz (w.outs.map bJ.enc),.is w.ins,.i w.used] false)/\ w=(atX p l t).1
variable {fr0:Nat->Val}
theorem bC3 (t:Nat):aWm (fun _=>0) (AtI p l fr0 t):=by
 rintro en cnt en' cnt' ⟨⟨fr1,h1,hf⟩,h2,w,h3,h4⟩ ho _ _
 exact⟨⟨fr1,(ho 1 0 0 (.inl (by decide))).trans h1,hf⟩,(ho 0 4 0 (.inr (.inl (by decide)))).trans h2,w,(ho 0 6 0 (.inr (.inl (by decide)))).trans h3,h4⟩
theorem bC4 (hf:fr0 6= .ptr ⟨0,6,0⟩ 0)(hn:(atX p l (t+1)).1=(bR p l t).1)(hI:AtI p l fr0 t en cnt):
  WIn L (.yld ⟨1,0,0⟩) [.i (t:Int),aCl p l t] en cnt fun v en' cnt'=>v= .bool true/\ AtI p l fr0 (t+1) en' cnt'/\ (∀u g,u∈T3->g<cnt 0 u->0<=g->en' ⟨0,u,g⟩=en ⟨0,u,g⟩)/\ ∀u∈T3,cnt 0 u<=cnt' 0 u:=by
 obtain⟨⟨fr1,h1,hf1⟩,h2,w,h3,h4⟩:=hI;rw[hf]at hf1
 refine aP2 (fr:=fr1) (ps:=[40,41]) (a:=(aZ.ops [o 8 (.alloc [.cl [],.cl [],.cl [],.cl [],.i 0,.cl [],.cl [],.cl [],.cl [],.i 0,.i 0,.i 0,.i 0,.i 0,.i 0]),sT 15 8 41])) (b:=(aZ.block 1 (.ops [fA 42 5 8,lT 43 5 42,sT 5 6 43]))) h1 rfl ?_
 simp only[go_sem,aCl,aO8,hf1,h1,h3]
 refine⟨⟨⟨_,by simp only[go_sem];rfl,?_⟩,by simp only[go_sem,h2],_,by simp only[go_sem],hn.symm⟩,fun u g hu hg _=>?_,fun u hu=>?_⟩
 ·simp only[go_sem,hf,hf1]
 ·simp only[T3,bQm,bSu,or_false]at hu;rcases hu with rfl|rfl|rfl
  ·simp only[go_sem]
  ·simp only[go_sem]
  ·simp only[go_sem,show¬g=cnt 0 8 by omega]
 ·simp only[aC];split
  ·rename_i h;obtain⟨_,rfl⟩:=h;omega
  ·exact bPq _
theorem aJt (hpf:p.few)(hsp:aR p=true)(hok:gY p l=true)(hn:n<=l.picks.length):
  ((atX p l n).2=0->PC L 63 [.fp [.i l.every,.is l.picks,.fz (l.marks.map aA.enc),.fz (p.nodes.map aM.enc),.fz (p.funs.map (.int .i64)),.i p.main,.fz (p.cons.map cS.enc)] 0,.i (n:Int)] (.agg (atX p l n).1.cs))/\ (¬(atX p l n).2=0->PX L 63 [.fp [.i l.every,.is l.picks,.fz (l.marks.map aA.enc),.fz (p.nodes.map aM.enc),.fz (p.funs.map (.int .i64)),.i p.main,.fz (p.cons.map cS.enc)] 0,.i (n:Int)] (aAp (atX p l n).2)):=by
 have hl:=nQ.of hok;obtain⟨a,ha⟩: ∃a,a=n/aL l*aL l:=⟨_,rfl⟩
 have han:a<=n:=by rw[ha];exact bS8 ..
 have hma:a%aL l=0:=by rw[ha];exact Nat.mul_mod_left ..
 have hlt:=hl.lt hn;have hia:=fun en=>sB (l:=l) (en:=en) hlt
 have hmul:=hl.mul hn;rw[<-ha]at hmul;have ht:=yB p l a n;have hda:a/aL l=n/aL l:=by rw[ha];exact Nat.mul_div_cancel _ (by have:=hl.e1;omega)
 have hma0:=zG (p:=p) hl.e1 hma;have hat:=aWk (p:=p) hl (bP2 han hn) hma;rw[hda]at hma0 hat;rw[aAq hlt]at hma0 hat;have hmw:l.marks[n/aL l]=(atX p l a).1:=by rw[hma0]
 have hnx: ∀t,a<=t->t<n->(bR p l t).2.2=0->(atX p l (t+1)).1=(bR p l t).1:=fun t h1 h2 h0=>by
  rcases(aJr hl h0).2 with h|h
  ·exfalso
   have h3:(t+1)/aL l*aL l=t+1:=aH0 h;have h4:(t+1)/aL l<=n/aL l:=Nat.div_le_div_right h2;have h5:=bQw (aL l) h4;rw[h3,<-ha]at h5;omega
  ·exact h
 rw[hmw]at hat hia;have hT:=fun fr0 (hf:fr0 6= .ptr ⟨0,6,0⟩ 0) R s (h1:a<=s) (h2:s<=n) (h3: ∀t,a<=t->t<s->(bR p l t).2.2=0)=>aUi (R:=R) (k:=⟨1,0,0⟩) (c0:=fun _=>0) (I:=AtI p l fr0) hpf hsp hok h1 h2 hn (fun _=>hat) (fun h=>absurd (by rw[hma0]) h) bC3
  (fun t q1 q2=>⟨h3 t q1 q2,fun en cnt hI _=>bC4 hf (hnx t q1 (bQf q2 h2) (h3 t q1 q2)) hI⟩)
 simp only[ply,hl.ev]at ht hat hT⊢
 refine⟨fun h0=>?_,fun h0=>?_⟩
 ·have hL:=at_ func63
  conv at hL=>rhs;reduce
  refine aI hL rfl rfl ?_
  simp only[go_sem,kK,hl.ne,hl.div,hl.wdiv hn,hmul,kF]
  refine aH ?_
  simp only[go_sem,hl.ne,hl.div,hl.wdiv hn,hia,kA,kF];simp only[go_sem,ht.ret]
  refine aFm (by simp only[go_sem];rfl) ?_
  rintro fr0 k hf hk
  obtain rfl:k=⟨1,0,0⟩:=hk
  refine bD aS2 rfl rfl ?_
  refine hT fr0 (by rw[hf];simp only[go_sem]) _ n han (bPq n) (fun t h1 h2=>aRa hl n h0 t (by rw[<-ha];exact h1) h2) (fun en cnt hI _=> .inl ⟨rfl,fun e fr he=>?_⟩) ?_ (fun _ _=>bPx _)
  ·obtain⟨⟨fr1,i1,_⟩,i4,w,i6,rfl⟩:=hI
   refine⟨by rcases he with rfl|rfl<;>rfl,?_⟩
   simp only[go_sem,aOd,i1,i4,i6]
  ·refine⟨⟨_,by simp only[go_sem],rfl⟩,by simp only[go_sem],_,by simp only[go_sem],rfl⟩
 ·obtain⟨s,h1,h2,h3,h4,h5⟩:=aRb hl n h0;rw[<-ha]at h1 h3;have hL:=at_ func63
  conv at hL=>rhs;reduce
  refine aIg hL rfl rfl ?_
  simp only[go_sem,kK,hl.ne,hl.div,hl.wdiv hn,hmul,kF]
  refine aH ?_
  simp only[go_sem,hl.ne,hl.div,hl.wdiv hn,hia,kA,kF];simp only[go_sem,ht.ret]
  refine aOa (by simp only[go_sem];rfl) ?_
  rintro fr0 k hf hk
  obtain rfl:k=⟨1,0,0⟩:=hk
  refine cC aS2 rfl rfl ?_
  refine hT fr0 (by rw[hf];simp only[go_sem]) _ s h1 (bRn h2) h3 (fun en cnt hI _=> .inr (.inr ⟨h2,h4,fun fr=>?_⟩)) ?_ (fun _ _=>bPx _)
  ·rw[h5]
   done
  ·refine⟨⟨_,by simp only[go_sem],rfl⟩,by simp only[go_sem],_,by simp only[go_sem],rfl⟩
theorem bC5 (hpf:p.few)(hsp:aR p=true)(hok:gY p l=true)(ht:t<l.picks.length):
  ((bR p l t).2.2=0->PC L 67 [(ply p l),.i (t:Int)] (aCl p l t))/\ (¬(bR p l t).2.2=0->PX L 67 [(ply p l),.i (t:Int)] (aAp (bR p l t).2.2)):=by
 have hl:=nQ.of hok;obtain⟨ha1,ha2⟩:=aJt hpf hsp hok (bRn ht)
 refine⟨fun h0=>?_,fun h0=>?_⟩
 ·obtain⟨h1,h2,h3⟩:=wF h0;have hgv:=pB hok (bRn ht) h1;have hT:=wD p l (atX p l t).1 (gP l t) hpf (jT hsp hgv) hsp hgv h2;rw[<-h3,rH ht]at hT;have hL:=at_ func67
  conv at hL=>rhs;reduce
  refine aI hL rfl rfl ?_
  simp only[go_sem,kK]
  refine cA ?_
  simp only[go_sem,(ha1 h1).ret,kF]
  refine jQ ?_
  simp only[go_sem,ht,hT.ret,evV,kA,kF];simp only[go_sem,aCl,aO8]
 ·have hL:=at_ func67
  conv at hL=>rhs;reduce
  refine aIg hL rfl rfl ?_
  simp only[go_sem,kK]
  by_cases h1:(atX p l t).2=0
  ·obtain⟨h2,h3⟩:=aHz h1 h0;have hgv:=pB hok (bRn ht) h1;have hT:=wE p l (atX p l t).1 (gP l t) hpf (jT hsp hgv) hsp hgv h2;rw[<-h3,rH ht]at hT
   refine cA ?_
   simp only[go_sem,(ha1 h1).ret,kF]
   refine mF 10 rfl rfl ?_
   simp only[go_sem,bP0,bPw,bQ5,bQ4,sI,ht,hT.ret,kA,kF];rfl
  ·rw[aUh h1]
   refine dK 2 rfl ?_
   simp only[go_sem,bP0,bPw,(ha2 h1).ret]
set_option maxRecDepth 100000
set_option maxHeartbeats 4000000
theorem pH (p:aF)(l:bP):aEu p l=gY p l:=by
 rw[bRd];simp only[aEu,gY,bY,inR,aL,bPp,bQ2,Bool.or_eq_false_iff,Bool.not_eq_false',bTe,bTf,bPv];constructor
 ·rintro⟨⟨⟨⟨h1,h2⟩,h3⟩,h4⟩,h5⟩
  have hd:(l.marks.length:Int)=((l.picks.length/l.every.toNat+1:Nat):Int):=by
   rw[h4,bTd (by omega)]
   have:l.every=(l.every.toNat:Int):=by omega
   rw[this];rfl
  have hl:l.marks.length=l.picks.length/l.every.toNat+1:=by exact_mod_cast hd
  have hne:l.marks≠[]:=by intro h;rw[h]at hl;simp at hl
  obtain⟨w,hw⟩:=List.exists_mem_of_ne_nil _ hne;exact⟨⟨⟨⟨(h5 w hw).1,by omega⟩,by omega⟩,D_t hl⟩,fun w hw=>(h5 w hw).2⟩
 ·rintro⟨⟨⟨⟨h1,h2⟩,h3⟩,h4⟩,h5⟩
  refine⟨⟨⟨⟨by omega,by omega⟩,by omega⟩,?_⟩,fun w hw=>⟨h1,h5 w hw⟩⟩
  rw[D_o h4,bTd (by omega)]
  have:l.every=(l.every.toNat:Int):=by omega
  rw[this];rfl
def bGi (p:aF)(l:bP)(t:Nat):Prop:=(t+1)%aL l=0/\ ¬(bR p l t).1=aCh l ((t+1)/aL l)
instance (p :aF)(l:bP)(t:Nat):Decidable (bGi p l t):=by unfold bGi;exact inferInstance
def atR (p:aF)(l:bP)(n:Int):aA×Int×Int:=
 if gY p l=true/\ 0<=n/\ n<=(l.picks.length:Int)then(if(atX p l n.toNat).2=0 then((atX p l n.toNat).1,n%(aL l:Int),0)else(kD,0,(atX p l n.toNat).2))else(kD,0,2)
theorem aCm (hsp:aR p=true)(h:bY p w=true):bW w=true:=by
 simp only[bY,bPp]at h;exact lW hsp h.2
noncomputable def c60 :{c//L 60=some c}:=by
 have hL:=at_ func60
 conv at hL=>rhs;reduce
 exact⟨_,hL⟩
theorem aWn (hpf:p.few)(hlf:l.few)(hsp:aR p=true)(n:Int):PC L 14 [.agg p.cs,.agg l.cs,.i n] (.tup [.agg (atR p l n).1.cs,.i (atR p l n).2.1,.i (atR p l n).2.2]):=by
 unfold atR;have hL:=at_ func14
 conv at hL=>rhs;reduce
 refine aI hL rfl rfl ?_
 simp only[go_sem,kK,kF]
 refine aEs ?_
 simp only[go_sem,kK]
 by_cases hok:gY p l=true
 case neg=>
  rw[if_neg (fun h=>hok h.1)]
  refine dK 2 rfl ?_
  simp only[go_sem,bP0,bPw,(zI p l hpf hlf hsp (by rw[pH];simpa using hok)).ret]
  refine⟨rfl,cZ (x:= .i 0) rfl ?_⟩
  refine bD c60.2 rfl rfl ?_
  simp only[go_sem,c60];rfl
 have hl:=nQ.of hok;have hP:=zH p l hpf hlf hsp (by rw[pH];exact hok)
 refine cA ?_
 simp only[go_sem,hP.ret,kF]
 by_cases hn:0<=n
 case neg=>
  rw[if_neg (fun h=>hn h.2.1)]
  refine dK 9 rfl ?_
  simp only[go_sem,kK,bP0,bPw,D_f hn,(cY _).ret]
  refine⟨rfl,cZ (x:= .i 0) rfl ?_⟩
  refine bD c60.2 rfl rfl ?_
  simp only[go_sem,c60];rfl
 by_cases hn2:n<=(l.picks.length:Int)
 case neg=>
  rw[if_neg (fun h=>hn2 h.2.2)]
  refine dK 9 rfl ?_
  simp only[go_sem,kK,bP0,bPw,D_t hn,D_f hn2,bPr,(cY _).ret]
  refine⟨rfl,cZ (x:= .i 0) rfl ?_⟩
  refine bD c60.2 rfl rfl ?_
  simp only[go_sem,c60];rfl
 rw[if_pos ⟨hok,hn,hn2⟩]
 refine cA ?_
 simp only[go_sem,kK,D_t hn,D_t hn2,bPr,(fC _).ret,kF];obtain⟨m,rfl⟩:=bQv hn;rw[bQo];have hm:m<=l.picks.length:=by omega
 obtain⟨ha1,ha2⟩:=aJt hpf hsp hok hm
 by_cases h0:(atX p l m).2=0
 ·rw[if_pos h0];have hgv:=pB hok hm h0;have hc:=rG (atX p l m).1 (jT hsp hgv) (aCm hsp hgv);have hA:=ha1 h0;simp only[hl.ev]at hA
  refine jQ ?_
  simp only[go_sem,hA.ret,hc.ret,hl.ev,hl.ne,bTc hn,kA,kF]
  refine⟨rfl,oA rfl ?_⟩
  simp only[go_sem]
 ·rw[if_neg h0];have hA:=ha2 h0;simp only[hl.ev]at hA
  refine bBp 2 [mT 24 9,mT 25 2,aBa,aBa,mT 28 2,fA 29 0 4,l1 30 29,bN 31 .rem (.t 28) (.t 30),aBa,aBa,aBa] rfl rfl ?_ ?_
  ·simp only[go_sem,bP0,bPw,hA.ret,hl.ev]
  ·simp only[go_sem,bP0,bPw,hA.ret,aBa,hl.ev,hl.ne,bTc hn,kA,kF]
   refine⟨rfl,rfl,cZ (x:= .i 0) rfl ?_⟩
   refine bD c60.2 rfl rfl ?_
   simp only[go_sem,c60];rfl
def evL (p:aF)(l:bP)(a k:Nat):List Val:=(List.range k).map fun i=>evV (bR p l (a+i)).2.1
theorem aCn {p:aF}{l:bP}: ∀(k t:Nat),
  (∃s,t<=s/\ s<t+k/\ (∀u,t<=u->u<s->(bR p l u).2.2=0)/\ ¬(bR p l s).2.2=0/\ jX p l t k=([],(bR p l s).2.2)) \/
  ((∀u,t<=u->u<t+k->(bR p l u).2.2=0)/\ (jX p l t k).2=0/\ (jX p l t k).1.map evV=evL p l t k)
 |0,t=> .inr ⟨fun u h1 h2=>by omega,rfl,rfl⟩
 |k+1,t=>by
  rw[jX]
  by_cases h1:(bR p l t).2.2=0
  ·rw[if_pos h1];rcases aCn k (t+1)with⟨s,q1,q2,q3,q4,q5⟩|⟨q1,q2,q3⟩
   ·refine .inl ⟨s,by omega,by omega,fun u r1 r2=>?_,q4,by rw[q5,if_neg q4]⟩
    rcases bRo t u with h|h
    ·exact q3 u h r2
    ·obtain rfl:u=t:=by omega
     exact h1
   ·rw[if_pos q2]
    refine .inr ⟨fun u r1 r2=>?_,rfl,?_⟩
    ·rcases bRo t u with h|h
     ·exact q1 u h (by omega)
     ·obtain rfl:u=t:=by omega
      exact h1
    ·rw[bQj,q3,evL,evL,List.range_succ_eq_map,bQj,List.map_map]
     refine congrArg _ (bRw fun i _=>?_)
     simp only[Function.comp,Nat.succ_eq_add_one,show t+1+i=t+(i+1)by omega]
  ·rw[if_neg h1];exact .inl ⟨t,bPq _,by omega,fun u q1 q2=>by omega,h1,rfl⟩
def c8 (u:Nat):Nat:=if u=8 then 1 else 0
def EvI (p:aF)(l:bP)(a t:Nat)(en:En)(_:Nat->Nat->Nat):Prop:=
 (∃fr1,en ⟨1,0,0⟩=some (.loop fr1 [36,37] (aZ.ops [o 12 (.alloc [.cl [],.cl [],.cl [],.cl [],.i 0,.cl [],.cl [],.cl [],.cl [],.i 0,.i 0,.i 0,.i 0,.i 0,.i 0]),sT 15 12 37]) (aZ.block 1 (.ops [l1 38 8,fA 39 10 12,lT 40 5 39,o 41 (.bslice 1 5 [.i 0,.i 0,.i 0,.i 0,.i 0] [(0,(.t 40))]),o 42 (.append 5 (.t 38) (.t 41)),sT 1 8 42])) .ready)/\ fr1 8= .ptr ⟨0,8,0⟩ 0/\ fr1 9= .ptr ⟨0,9,0⟩ 0/\ fr1 13= .fn 64 [] [.ptr ⟨0,8,0⟩ 0])/\ (∃v,en ⟨0,8,0⟩=some (.box [v] false)/\ cP en v 5 (evL p l a (t-a)) [42])/\ en ⟨0,9,0⟩=some (.box [.i 0] false)
theorem bC6 (t:Nat):aWm c8 (EvI p l a t):=by
 rintro en cnt en' cnt' ⟨⟨fr1,h1,hf⟩,⟨v,h2,h3⟩,h4⟩ ho _ _
 exact⟨⟨fr1,(ho 1 0 0 (.inl (by decide))).trans h1,hf⟩,⟨v,(ho 0 8 0 (.inr (.inr (by decide)))).trans h2,h3.keep fun t g ht=>ho 0 t g (.inr (.inl (by simp at ht;subst ht;decide)))⟩,(ho 0 9 0 (.inr (.inl (by decide)))).trans h4⟩
theorem bC7 (hat:a<=t)(ht:t<=1000)(hI:EvI p l a t en cnt)(hc: ∀u∈T3,c8 u<=cnt 0 u):
  WIn L (.yld ⟨1,0,0⟩) [.i (t:Int),aCl p l t] en cnt fun v en' cnt'=>v= .bool true/\ EvI p l a (t+1) en' cnt'/\ (∀u g,u∈T3->g<cnt 0 u->c8 u<=g->en' ⟨0,u,g⟩=en ⟨0,u,g⟩)/\ ∀u∈T3,cnt 0 u<=cnt' 0 u:=by
 obtain⟨⟨fr1,h1,q8,q9,q13⟩,⟨v,h2,hm⟩,h4⟩:=hI;have hlen:(evL p l a (t-a)).length=t-a:=by simp[evL]
 refine aP2 (fr:=fr1) (ps:=[36,37]) (a:=(aZ.ops [o 12 (.alloc [.cl [],.cl [],.cl [],.cl [],.i 0,.cl [],.cl [],.cl [],.cl [],.i 0,.i 0,.i 0,.i 0,.i 0,.i 0]),sT 15 12 37])) (b:=(aZ.block 1 (.ops [l1 38 8,fA 39 10 12,lT 40 5 39,o 41 (.bslice 1 5 [.i 0,.i 0,.i 0,.i 0,.i 0] [(0,(.t 40))]),o 42 (.append 5 (.t 38) (.t 41)),sT 1 8 42]))) h1 rfl ?_
 simp only[go_sem,aCl,aO8,h1,q8,h2]
 refine kQ (D:=[42]) (xs:=evL p l a (t-a)) (ys:=[evV (bR p l t).2.1]) (rs:=[]) ?_ ?_ ?_ ?_ ?_
 ·simp only[go_sem];exact hm.keep fun t g ht=>by simp at ht;subst ht;simp only[go_sem]
 ·simp only[go_sem];rfl
 ·rfl
 ·rw[hlen];simp;omega
 ·intro v' en' cnt' hown hen hcnt;obtain⟨s1,s2⟩:=hown.shape;have k1:en' ⟨1,0,0⟩=some (.loop fr1 [36,37] (aZ.ops [o 12 (.alloc [.cl [],.cl [],.cl [],.cl [],.i 0,.cl [],.cl [],.cl [],.cl [],.i 0,.i 0,.i 0,.i 0,.i 0,.i 0]),sT 15 12 37]) (aZ.block 1 (.ops [l1 38 8,fA 39 10 12,lT 40 5 39,o 41 (.bslice 1 5 [.i 0,.i 0,.i 0,.i 0,.i 0] [(0,(.t 40))]),o 42 (.append 5 (.t 38) (.t 41)),sT 1 8 42])) .busy):=by rw[hen 1 0 0 (.inl (by decide))];simp only[go_sem]
  have k2:en' ⟨0,8,0⟩=some (.box [v] false):=by rw[hen 0 8 0 (.inr ⟨by decide,by simp⟩)];simp only[go_sem,h2]
  have k3:en' ⟨0,9,0⟩=some (.box [.i 0] false):=by rw[hen 0 9 0 (.inr ⟨by decide,by simp⟩)];simp only[go_sem,h4]
  simp only[go_sem,q8,s1,s2,k1,k2]
  refine⟨⟨⟨_,by simp only[go_sem];rfl,by simp only[go_sem,q8],by simp only[go_sem,q9],by simp only[go_sem,q13]⟩,⟨v',by simp only[go_sem],?_⟩,by simp only[go_sem,k3]⟩,fun u g hu hg h8=>?_,fun u hu=>?_⟩
  ·refine cP.sub (D:=[42,42]) (cP.keep (en:=en') ?_ ?_) (by simp)
   ·rw[show t+1-a=(t-a)+1 by omega]
    unfold evL at hown⊢;rw[List.range_succ,bQs];simp only[bQj,bP1,show a+(t-a)=t by omega]
    exact hown
   ·intro t g ht;simp at ht;subst ht;simp only[go_sem]
  ·simp only[T3,bQm,bSu,or_false]at hu;rcases hu with rfl|rfl|rfl
   ·simp only[go_sem];rw[hen 0 5 g (.inr ⟨by decide,by simp⟩)];simp only[go_sem]
   ·simp only[go_sem];rw[hen 0 7 g (.inr ⟨by decide,by simp⟩)];simp only[go_sem]
   ·simp only[go_sem,show¬g=0 by simp[c8]at h8;omega];rw[hen 0 8 g (.inr ⟨by decide,by simp⟩)];simp only[go_sem]
  ·rw[hcnt 0 u (by simp only[T3,bQm,bSu,or_false]at hu;rcases hu with rfl|rfl|rfl<;>decide)]
   simp only[aC];split
   ·rename_i h;obtain⟨_,rfl⟩:=h;omega
   ·exact bPq _
def xG (p:aF)(l:bP)(a b:Int):List iD×Int:=
 if gY p l=true/\ 0<=a/\ a<=b/\ b<=(l.picks.length:Int)then jX p l a.toNat (b.toNat-a.toNat)else([],2)
theorem aMu (hpf:p.few)(hlf:l.few)(hsp:aR p=true)(a b:Int):PC L 15 [.agg p.cs,.agg l.cs,.i a,.i b] (.tup [.fz ((xG p l a b).1.map evV),.i (xG p l a b).2]):=by
 unfold xG;have hL:=at_ func15
 conv at hL=>rhs;reduce
 refine aI hL rfl rfl ?_
 simp only[go_sem,kK,kF]
 refine aEs ?_
 simp only[go_sem,kK]
 by_cases hok:gY p l=true
 case neg=>
  rw[if_neg (fun h=>hok h.1)]
  refine dK 2 rfl ?_
  simp only[go_sem,bP0,bPw,(zI p l hpf hlf hsp (by rw[pH];simpa using hok)).ret]
  refine⟨rfl,cZ (x:= .i 0) rfl ?_⟩
  have hL:=at_ func64
  conv at hL=>rhs;reduce
  refine bD hL rfl rfl ?_
  simp only[go_sem,show(Val.cl []).one=true from rfl,show(Val.cl []).cells=[Val.cl []]from rfl]
 have hl:=nQ.of hok;have hP:=zH p l hpf hlf hsp (by rw[pH];exact hok)
 refine cA ?_
 simp only[go_sem,hP.ret,kF]
 by_cases hn:0<=a/\ a<=b/\ b<=(l.picks.length:Int)
 case neg=>
  rw[if_neg (fun h=>hn h.2)]
  refine dK 14 rfl ?_
  have hc: ¬0<=a \/(0<=a/\ ¬a<=b) \/(0<=a/\ a<=b/\ ¬b<=(l.picks.length:Int)):=by omega
  rcases hc with h1|⟨h1,h2⟩|⟨h1,h2,h3⟩
  case' inr.inr=>simp only[go_sem,kK,bP0,bPw,D_t h1,D_t h2,D_f h3,bPr,(cY _).ret]
  case' inr.inl=>simp only[go_sem,kK,bP0,bPw,D_t h1,D_f h2,(cY _).ret]
  case' inl=>simp only[go_sem,kK,bP0,bPw,D_f h1,(cY _).ret]
  all_goals
   refine⟨rfl,cZ (x:= .i 0) rfl ?_⟩
   have hL:=at_ func64
   conv at hL=>rhs;reduce
   refine bD hL rfl rfl ?_
   simp only[go_sem,show(Val.cl []).one=true from rfl,show(Val.cl []).cells=[Val.cl []]from rfl]
 rw[if_pos ⟨hok,hn⟩];obtain⟨h1,h2,h3⟩:=hn
 refine cA ?_
 simp only[go_sem,kK,D_t h1,D_t h2,D_t h3,bPr,(fC _).ret,kF];obtain⟨a,rfl⟩:=bQv h1;obtain⟨b,rfl⟩:=bQv (Int.le_trans h1 h2);simp only[bQo];have hab:a<=b:=by omega
 have hbl:b<=l.picks.length:=by omega
 have hpk:=hl.pk;have hw:=yB p l a b;have hB:=aJt hpf hsp hok (bP2 hab hbl);have hT:=fun R (s:Nat) (h0:a<=s) (h1:s<=b) (h2: ∀u,a<=u->u<s->(bR p l u).2.2=0)=>aUi (R:=R) (k:=⟨1,0,0⟩) (c0:=c8) (I:=EvI p l a) hpf hsp hok h0 h1 hbl hB.1 hB.2 bC6
  (fun t q1 q2=>⟨h2 t q1 q2,fun en cnt hI hc=>bC7 q1 (by omega) hI hc⟩)
 simp only[go_sem,hw.ret];rcases aCn (p:=p) (l:=l) (b-a) a with⟨s,q1,q2,q3,q4,q5⟩|⟨q3,q4,q5⟩
 ·rw[q5]
  refine aOa (by simp only[go_sem];rfl) ?_
  rintro fr0 k hf hk
  obtain rfl:k=⟨1,0,0⟩:=hk
  refine cC aS2 rfl rfl ?_
  refine hT _ s q1 (by omega) q3 (fun en cnt hI _=> .inr (.inr ⟨by omega,q4,fun fr=>?_⟩)) ?_ ?_
  ·obtain⟨⟨fr1,i1,_⟩,⟨v,i2,_⟩,i3⟩:=hI;simp only[go_sem]
   refine⟨rfl,cZ (x:= .i 0) rfl ?_⟩
   have hL:=at_ func64
   conv at hL=>rhs;reduce
   refine bD hL rfl rfl ?_
   simp only[go_sem,i2,i3,show(Val.cl []).one=true from rfl,show(Val.cl []).cells=[Val.cl []]from rfl]
  ·refine⟨⟨fr0,by simp only[go_sem],by rw[hf];simp only[go_sem],by rw[hf];simp only[go_sem],by rw[hf];simp only[go_sem]⟩,⟨.cl [],by simp only[go_sem],?_⟩,by simp only[go_sem]⟩
   rw[Nat.sub_self];exact cP.nil _ _
  ·intro u hu;simp only[T3,bQm,bSu,or_false]at hu;rcases hu with rfl|rfl|rfl<;>decide
 ·rw[q4,q5]
  refine aFm (by simp only[go_sem];rfl) ?_
  rintro fr0 k hf hk
  obtain rfl:k=⟨1,0,0⟩:=hk
  refine bD aS2 rfl rfl ?_
  refine hT _ b hab (bPq _) (fun u r1 r2=>q3 u r1 (by omega)) (fun en cnt hI _=> .inl ⟨rfl,fun e fr he=>?_⟩) ?_ ?_
  ·obtain⟨⟨fr1,i1,r8,r9,r13⟩,⟨v,i2,hm⟩,i3⟩:=hI
   refine⟨by rcases he with rfl|rfl<;>rfl,?_⟩
   obtain⟨s1,s2⟩:=hm.shape;simp only[go_sem,aOd,i1,i2,i3,s1,s2]
   refine⟨rfl,oA rfl ?_⟩
   simp only[go_sem];obtain⟨r,ks,t1,_,t3,_⟩:=(hm.keep (en':=((en.set ⟨1,0,0⟩ none).set ⟨0,8,0⟩ (some (.box [v] false))).set ⟨0,9,0⟩ (some (.box [.i 0] false))) fun t g ht=>by simp at ht;subst ht;simp only[go_sem]).snap 6
   simp only[go_sem,t1,t3]
  ·refine⟨⟨fr0,by simp only[go_sem],by rw[hf];simp only[go_sem],by rw[hf];simp only[go_sem],by rw[hf];simp only[go_sem]⟩,⟨.cl [],by simp only[go_sem],?_⟩,by simp only[go_sem]⟩
   rw[Nat.sub_self];exact cP.nil _ _
  ·intro u hu;simp only[T3,bQm,bSu,or_false]at hu;rcases hu with rfl|rfl|rfl<;>decide
def bC8 (act:Int):Prop:=act=17 \/act=18 \/act=22 \/act=23 \/act=20
instance {act :Int}:Decidable (bC8 act):=by unfold bC8;infer_instance
variable {k:Int}{v:aD}
theorem bC9 (h:cK w v k=true):v.kind=5:=by simp only[cK,bPp,bTe]at h;exact h.1
variable {pick:Int}
theorem aAr (h:(dL p w pick).2.2=0):(bI p w 0).2.2=true/\ inR (fS p (bI p w 0).1 pick) 0 (((bI p w 0).1.tasks.length:Int)-1)=true/\
  (dL p w pick).2.1=(aV p (bI p w 0).1 (fS p (bI p w 0).1 pick)).e/\ ¬(aV p (bI p w 0).1 (fS p (bI p w 0).1 pick)).what=2:=by
 have h0:(fQ p w pick).2.2.2=0:=by
  unfold dL at h;simp only at h
  split at h
  ·cases h
  split at h
  ·assumption
  ·exact h
 have h1:(dL p w pick).2.1=(fQ p w pick).2.1:=by
  unfold dL;simp only;rw[if_neg (by rw[h0];decide),if_pos h0]
 rw[h1];unfold fQ at h0⊢
 simp only at h0⊢
 split at h0
 ·cases h0
 rename_i hs;rw[if_neg hs]
 split at h0
 ·cases h0
 rename_i hr;rw[if_neg hr]
 split at h0
 ·cases h0
 rename_i hq;rw[if_neg hq];have hlen:0<(cH p (bI p w 0).1).length:=bSj.2 hr;have hm:fS p (bI p w 0).1 pick∈cH p (bI p w 0).1:=by
  unfold fS;have:(pick%((cH p (bI p w 0).1).length:Int)).toNat<(cH p (bI p w 0).1).length:=by
   have:=Int.emod_nonneg pick (b:=((cH p (bI p w 0).1).length:Int)) (by omega)
   have:=Int.emod_lt_of_pos pick (b:=((cH p (bI p w 0).1).length:Int)) (by omega)
   omega
  rw[bPu,bQz this];exact bPz _
 refine⟨by simpa using hs,?_,rfl,?_⟩
 ·simp only[cH,fY,bQk,bRa,bQl]at hm;obtain⟨i,⟨hi,_⟩,he⟩:=hm;rw[<-he];simp[inR];omega
 ·simp only[cH,fY,bQk,bRa,bQl]at hm;obtain⟨i,⟨_,hi⟩,he⟩:=hm;rw[<-he]
  simpa using hi
theorem aMv {a:Int}(ha:inR a 0 ((w.tasks.length:Int)-1)=true):bG w a∈w.tasks:=by
 simp only[inR,bTe]at ha;unfold bG;rw[bPu,bQz (by omega)]
 exact bPz _
def bOf (p:aF)(w:aA)(e:iD):Int:=
 if bC8 e.act then bIb (bI p w 0).1 e.task else if e.act=16 \/e.act=21 \/e.act=19 then((bI p w 0).1.objs.length:Int)else-1
theorem aXr {o:aQ}(hv:v∈oJ o)(h5:v.kind=5):v.n∈vD o:=by
 have hr:aIr v=true:=D_t h5;unfold oJ at hv;unfold vD;rcases bQe.1 hv with hv|hv
 ·exact bR1 _ (aB8 hv hr)
 ·obtain⟨f,hf,hv⟩:=bQ3.1 hv
  refine bRv _ (bQ3.2 ⟨f,hf,?_⟩)
  unfold yT;rcases bQe.1 hv with hv|hv
  ·exact bR1 _ (aB8 hv hr)
  ·exact bRv _ (aB8 hv hr)
def aUk (p:aF)(l:bP)(object:Int)(t:Nat):Prop:=((bR p l t).2.1.act=16 \/(bR p l t).2.1.act=18)/\ bOf p (atX p l t).1 (bR p l t).2.1=object
instance {p :aF}{l:bP}{object:Int}{t:Nat}:Decidable (aUk p l object t):=by unfold aUk;infer_instance
theorem pC {p:aF}: ∀(n a:Nat) (w:aA),cV p n a w 0=(w,0)
 |0,_,_=>rfl
 |n+1,a,w=>by
  rw[cV];split
  ·exact pC n (a+1) w
  ·rfl
variable {s:Nat}
theorem aD4 (ha:a<w.tasks.length)(h: ¬(aV p w a).what=0):cV p (n+1) a w s=cV p n (a+1) w s:=by
 rw[cV,if_pos ha];cases s with
 |zero=>rfl
 |succ s=>rw[nZ,if_neg h]
theorem aD5 (ha:a<w.tasks.length)(h:(aV p w a).what=0)(ht:(aV p w a).w.tasks=w.tasks):cV p (n+1) a w (s+1)=cV p (n+1) a (aV p w a).w s:=by
 rw[cV,cV,if_pos ha,if_pos (by rw[ht];exact ha),nZ,if_pos h]
theorem aGv (ha: ¬a<w.tasks.length):cV p n a w s=(w,s):=by
 cases n with
 |zero=>rfl
 |succ n=>rw[cV,if_neg ha]
theorem wG (h:bY p w=true)(ha:a<w.tasks.length):bY p (aV p w a).w=true/\ ((aV p w a).what=0->(aV p w a).e=eB/\ (aV p w a).w.tasks=w.tasks)/\
  ((aV p w a).what=1->(aV p w a).e.task=(a:Int)/\ (¬(aV p w a).e.act=0 \/ ¬(aV p w a).e.n=0))/\ ((aV p w a).what=0 \/(aV p w a).what=1 \/(aV p w a).what=2):=by
 simp only[bY,bPp]at h⊢;have hi:inR (a:Int) 0 ((w.tasks.length:Int)-1)=true:=by simp[inR];omega
 have hti:=xB _ _ (by have:=(cR.1 h.2).2.2.2.2.1;simp only[jI,bPp]at this;exact this.2) (bG w a) (aMv hi)
 have h0:0<=bG w a:=by have:=hti.1;simp only[inR,bTe]at this;exact this.1
 obtain⟨c1,c2,c3,_⟩:=zF (p:=p) h0 hi;exact⟨⟨h.1,(kM (lV h.1) (tS h.2) hi).ok⟩,fun hw=>⟨(c1 hw).1,(c1 hw).2.1⟩,c2,c3⟩
theorem bDa {a b c d f:Int}:dA .neq (.agg [.num,.num,.num,.num,.num]) (.agg [.i a,.i b,.i c,.i d,.i f]) (.agg [.i 0,.i 0,.i 0,.i 0,.i 0])=
  some (.bool (!(decide (a=0)&&decide (b=0)&&decide (c=0)&&decide (d=0)&&decide (f=0)))):=by
 simp only[dA,oS,bPy,bP7,and_self,if_true,jG,xJ];have e: ∀x:Int,(x==0)=decide (x=0):=fun x=>by by_cases h:x=0<;>simp[h]
 simp only[e]
 by_cases h1:a=0<;>by_cases h2:b=0<;>by_cases h3:c=0<;>by_cases h4:d=0<;>by_cases h5:f=0<;>simp[h1,h2,h3,h4,h5]
theorem aD6 (hpf:p.few)(hsp:aR p=true)(hw:bY p w=true)(hs:s<=9223372036854775807):
  PC L 68 [(ply p l),.agg w.cs,.i (s:Int)] (.tup [.agg (eR p w s).1.cs,.i ((eR p w s).2:Int)]):=by
 refine aI bN7 rfl rfl ?_
 simp only[go_sem,kK,bKj,kF]
 refine Go.Abs.wp_loop (fun(x:Nat×aA×Nat) (st:St)=> ∃fr en cnt,st=⟨fr,en,cnt⟩/\ fr 0=(ply p l)/\ fr 4= .ptr ⟨0,4,0⟩ 0/\ fr 6= .ptr ⟨0,6,0⟩ 0/\ fr 8= .i (x.1:Int)/\ fr 2= .i (x.2.2:Int)/\ en ⟨0,4,0⟩=some (.box [.fz (x.2.1.objs.map aQ.enc),.is x.2.1.tasks,.fz (x.2.1.outs.map bJ.enc),.is x.2.1.ins,.i x.2.1.used] false)/\
   bY p x.2.1=true/\ x.1<=x.2.1.tasks.length/\ x.2.1.tasks.length<=120/\ x.2.2<=s/\ cV p (121-x.1) x.1 x.2.1 x.2.2=eR p w s/\ en ⟨0,6,0⟩=some (.box [.cl [],.cl [],.cl [],.cl [],.i 0] false)) (fun x=>(121-x.1)*(s+1)+x.2.2) (0,w,s) ?_ ?_
 ·refine⟨_,_,_,rfl,by simp only[go_sem],by simp only[go_sem],by simp only[go_sem],by simp only[go_sem],by simp only[go_sem],by simp only[go_sem],hw,bPx _,?_,bPq _,rfl,by simp only[go_sem]⟩
  simp only[bY,bPp]at hw;have:=(cR.1 hw.2);exact bP2 (rE this.2.2.2.2.1) this.1
 rintro⟨a,y,r⟩ st ⟨fr,en,cnt,rfl,f0,f4,f6,f8,f2,e4,hg,ha,hl,hr,hI,e6⟩
 simp only at f8 f2 e4 hg ha hl hr hI
 simp only[go_sem,kK,f4,f8,e4]
 by_cases hat:a<y.tasks.length
 case neg=>
  rw[aGv hat]at hI;rw[<-hI];simp only[go_sem,D_f hat,f4,f6,f2,e4,e6]
  skip
 simp only[go_sem,D_t hat];obtain⟨g1,g2,g3,g4⟩:=wG hg hat;have hi:inR (a:Int) 0 ((y.tasks.length:Int)-1)=true:=by simp[inR];omega
 have hS:=aGt p y (a:Int) hpf (jT hsp hg) hsp;obtain⟨q,hq⟩: ∃q,q=aGs p y (a:Int):=⟨_,rfl⟩
 rw[<-hq]at hS
 refine aH ?_
 simp only[go_sem,kK,f0,f4,f8,e4,evV,hS.ret,kA,kF];have hsm:aGs p y (a:Int)=if(aV p y a).what=2 then(rF,eB,5)else((aV p y a).w,(aV p y a).e,0):=by unfold aGs;rw[if_pos ⟨hg,hi⟩]
 rw[hsm]at hq
 by_cases h0:(aV p y a).what=0
 case neg=>
  by_cases h2:(aV p y a).what=2
  case' pos=>
   rw[if_pos h2]at hq;rw[hq];simp only[go_sem,kK,f8,kF]
  case' neg=>
   rw[if_neg h2]at hq;rw[hq];simp only[go_sem,kK]
  case' neg=>
   obtain⟨c1,c2⟩:=g3 (g4.resolve_left h0|>.resolve_right h2)
   have hne:(decide ((aV p y (a:Int)).e.task=0)&&decide ((aV p y (a:Int)).e.act=0)&&decide ((aV p y (a:Int)).e.n=0)&&decide ((aV p y (a:Int)).e.v.kind=0)&&decide ((aV p y (a:Int)).e.v.n=0))=false:=by
    rcases c2 with h|h<;>simp[h]
   simp only[go_sem,kK,bDa,hne,f8,bP8,kF]
  all_goals
   refine⟨(a+1,y,r),⟨_,_,_,rfl,by simp only[go_sem,f0],by simp only[go_sem,f4],by simp only[go_sem,f6],?_,by simp only[go_sem,f2],by simp only[go_sem,e4],hg,show a+1<=_ from hat,hl,hr,?_,by simp only[go_sem,e6]⟩,?_⟩
   ·simp only[go_sem];rw[aW (by omega)];simp
   ·rw[<-hI,show 121-a=(121-(a+1))+1 by omega,aD4 hat h0]
   ·show(121-(a+1))*(s+1)+r<(121-a)*(s+1)+r;exact Nat.add_lt_add_right (Nat.mul_lt_mul_of_pos_right (by omega) (Nat.succ_pos s)) r
 have h2: ¬(aV p y (a:Int)).what=2:=by omega
 rw[if_neg h2]at hq;obtain⟨c1,c2⟩:=g2 h0;rw[hq];simp only[go_sem,kK,f2,c1,eB,jL,bDa,decide_true,bRl,bP3,kF];cases r with
 |zero=>
  have hz:decide (((0:Nat):Int)=0)=true:=rfl;rw[pC]at hI;rw[<-hI];simp only[go_sem,f4,f6,f2,e4,e6,kF]
 |succ r=>
  have hz:decide (((r+1:Nat):Int)=0)=false:=D_f (by omega)
  simp only[go_sem,hz,f4,f2,e4];have hw1:IntKind.i64.wrap (((r+1:Nat):Int)-1)=(r:Int):=by rw[aW (by omega)];omega
  simp only[go_sem,hw1]
  refine⟨(a,(aV p y (a:Int)).w,r),⟨_,_,_,rfl,by simp only[go_sem,f0],by simp only[go_sem,f4],by simp only[go_sem,f6],by simp only[go_sem,f8],by simp only[go_sem],by simp only[go_sem],g1,?_,?_,(show r<=s by omega),?_,by simp only[go_sem,e6]⟩,?_⟩
  ·show a<=(aV p y (a:Int)).w.tasks.length;rw[c2];omega
  ·show(aV p y (a:Int)).w.tasks.length<=120;rw[c2];exact hl
  ·rw[<-hI,show 121-a=(120-a)+1 by omega,aD5 hat h0 c2]
  ·show(121-a)*(s+1)+r<(121-a)*(s+1)+(r+1);omega
structure aO9 (w w':aA):Prop where
 le:w.objs.length<=w'.objs.length
 same: ∀i:Nat,i<w.objs.length->w'.obj i=w.obj i \/((w.obj i).form=6/\ (w'.obj i).form=6)
def InV (w:aA)(v:aD):Prop:=v.kind=5->inR v.n 0 ((w.objs.length:Int)-1)=true
variable {w':aA}
section
variable (h:aO9 w w')(hin:aAj w)
include h
theorem aZ0 (hv:InV w v)(h5:v.kind=5):w'.obj v.n=w.obj v.n \/((w.obj v.n).form=6/\ (w'.obj v.n).form=6):=by
 have:=hv h5;simp only[inR,bTe]at this;obtain⟨i,hi⟩:=bQv this.1;rw[hi];exact h.same i (by omega)
theorem aMw (hv:InV w v)(hk: ¬k=6):cK w' v k=cK w v k/\ (cK w v k=true->w'.obj v.n=w.obj v.n):=by
 unfold cK
 by_cases h5:v.kind=5
 ·rcases aZ0 h hv h5 with e|⟨e1,e2⟩
  ·rw[e];exact⟨rfl,fun _=>rfl⟩
  ·have n1: ¬(w.obj v.n).form=k:=by rw[e1];exact fun h=>hk h.symm
   have n2: ¬(w'.obj v.n).form=k:=by rw[e2];exact fun h=>hk h.symm
   simp[n1,n2]
 ·simp[h5]
theorem aUl {f:aD}(hf:InV w f):eP p w' f v=eP p w f v:=by
 unfold eP;obtain⟨e1,e2⟩:=aMw h hf (k:=2) (by decide)
 rw[e1]
 by_cases hc:cK w f 2=true
 ·rw[e2 hc]
 ·rw[if_neg hc,if_neg hc]
end
theorem bFd (hin:aAj w)(hv:InV w v)(ho:cK w v k=true): ∀u∈(w.obj v.n).vals,InV w u:=by
 intro u hu h5;have h5':=bC9 ho;have:=hv h5';simp only[inR,bTe]at this;obtain⟨i,hi⟩:=bQv this.1;have hil:i<w.objs.length:=by omega
 rw[hi,aOk hil]at hu;exact hin _ (bPz hil) _ (aXr (bR1 _ hu) h5)
mutual
theorem aI5 {w w':aA}(h:aO9 w w')(hin:aAj w): ∀(q:Pat) {v:aD},InV w v->fP w' q v=fP w q v
 | .mk f n t ps,v,hv=>by
  unfold fP;split
  ·rfl
  split
  ·rfl
  split
  ·rfl
  split
  ·rfl
  split
  ·rfl
  obtain⟨e1,e2⟩:=aMw h hv (k:=1) (by decide)
  by_cases hc:cK w v 1=true
  ·rw[e1,e2 hc];split
   ·exact aGw h hin ps (bFd hin hv hc)
   ·rfl
  ·rw[if_neg (fun x=>hc (by rw[<-e1];exact x.1)),if_neg (fun x=>hc x.1)]
theorem aGw {w w':aA}(h:aO9 w w')(hin:aAj w): ∀(ps:List Pat) {vs:List aD},(∀v∈vs,InV w v)->fB w' ps vs=fB w ps vs
 |[],vs,_=>by unfold fB;rfl
 |q::ps,[],_=>by unfold fB;rfl
 |q::ps,v::vs,hv=>by
  unfold fB;rw[aI5 h hin q (hv v (by simp)),aGw h hin ps (fun u hu=>hv u (by simp[hu]))]
end
def plR :OpR->Bool
 | .go none _ _ _=>true
 |_=>false
theorem aJu {a:Int}{R:OpR}:(R.did w a).what=0↔plR R=true:=by
 cases R with
 |go ev w' l b=>cases ev<;>simp[OpR.did,plR]
 |wait=>simp[OpR.did,plR,mL]
 |fail s=>simp[OpR.did,plR,bE]
variable {env:List aD}{left:List aB}{node:Int}
theorem aUm {env':List aD}(w':aA)(he:env'.length=env.length):plR (kC w' left node env')=plR (kC w left node env):=by
 unfold kC rO;simp only[he,bP9,bPy,bP7];split
 ·rfl
 ·split<;>rfl
theorem aGx (w':aA):plR (kC w' left node env)=plR (kC w left node env):=aUm w' rfl
theorem aMx {w w':aA}(h:aO9 w w')(hin:aAj w){left:List aB}{kids:List Int}{env:List aD}{u:aD}(hu:InV w u): ∀(l:List Pat) (i:Nat),plR (eL w' left kids env u i l)=plR (eL w left kids env u i l)
 |[],i=>rfl
 |q::qs,i=>by
  simp only[eL];rw[aI5 h hin q hu];cases fP w q u with
  |some l=>exact aGx w'
  |none=>exact aMx h hin hu qs (i+1)
theorem aXs (h:w.objs.length<=w'.objs.length){o o':aQ}{k k':aA->aD->OpR}(hk:plR (k' (eC w' o') (dN w'.objs.length))=true->plR (k (eC w o) (dN w.objs.length))=true):plR (iU w' o' k')=true->plR (iU w o k)=true:=by
 unfold iU
 by_cases h1:120<=w'.objs.length
 ·rw[if_pos h1];exact fun h=>by cases h
 ·rw[if_neg h1,if_neg (by omega)];exact hk
variable {x':OpR}
theorem bDb {c:Prop}[Decidable c]{x y y':OpR}(hx:c->plR x'=true->plR x=true)(hy: ¬c->plR y'=true->plR y=true):plR (if c then x' else y')=true->plR (if c then x else y)=true:=by
 by_cases h:c
 ·rw[if_pos h,if_pos h];exact hx h
 ·rw[if_neg h,if_neg h];exact hy h
theorem bDc {x:OpR}(h:plR x'=false):plR x'=true->plR x=true:=fun h'=>by rw[h]at h';cases h'
theorem aXt {o:aQ}{k:aA->aD->OpR}(h:plR (k (eC w o) (dN w.objs.length))=false):plR (iU w o k)=false:=by
 unfold iU;split
 ·rfl
 ·exact h
theorem aZ1 (h:aO9 w w')(hin:aAj w){a:Int}{f:aB}{n:aM}(hv: ∀v∈f.vals,InV w v):plR (opR p w' a left f n)=true->plR (opR p w a left f n)=true:=by
 have hv0:InV w (aE f.vals 0):=by
  unfold aE;rw[bPu];cases hg:f.vals[0]? with
  |none=>intro h;cases h
  |some x=>exact hv x (List.mem_of_getElem? hg)
 unfold opR
 repeat' (with_reducible refine bDb (fun _=>?_) (fun _=>?_))
 all_goals first
  |exact fun _=>rfl
  |exact fun hp=>(aGx w').symm.trans hp
  |exact fun hp=>(aGx w').trans hp
  |exact aXs h.le (fun _=>rfl)
  |exact fun hp=>(aMx h hin hv0 _ _).symm.trans hp
  |exact bDc rfl
  |exact bDc (aXt rfl)
  |(refine bDc ?_;(repeat' split)<;>(first|rfl|exact aXt rfl))
  |skip
 ·rw[aUl h hv0];obtain⟨e1,e2⟩:=aMw h hv0 (k:=5) (by decide)
  cases eP p w (aE f.vals 0) (aE f.vals 1)with
  |some b=>exact fun hp=>(aGx w').symm.trans hp
  |none=>
   simp only
   by_cases hc:cK w (aE f.vals 0) 5=true
   ·rw[e1,if_pos hc,if_pos hc,e2 hc];exact bDb (fun _ h=>h) (fun _ _=>rfl)
   ·rw[e1,if_neg hc,if_neg hc];exact id
 ·cases fX p left left.length with
  |zero=>exact id
  |succ k=>exact aXs h.le (fun hp=>(aUm _ (by simp)).symm.trans hp)
theorem aZ2 {a:Int}(ha:inR a 0 ((w.tasks.length:Int)-1)=true)(h:(aV p w a).what=0): ∃w' l b,(aV p w a).w=dW w' (bG w' a) ⟨6,0,b,l⟩/\ w'.tasks=w.tasks/\ w.objs<+:w'.objs:=by
 have key: ∀{R:OpR},Go.Abs.Calm w a R->(R.did w a).what=0-> ∃w' l b,(R.did w a).w=dW w' (bG w' a) ⟨6,0,b,l⟩/\ w'.tasks=w.tasks/\ w.objs<+:w'.objs:=by
  intro R hR hw;cases R with
  |go ev w' l b=>
   cases ev with
   |none=>exact⟨w',l,b,rfl,hR.1,hR.2.1⟩
   |some e=>exact absurd (show(1:Int)=0 from hw) (by decide)
  |wait=>exact absurd (show(2:Int)=0 from hw) (by decide)
  |fail s=>exact absurd (show(1:Int)=0 from hw) (by decide)
 revert h
 unfold aV
 simp only
 split
 ·exact fun h=>absurd (show(2:Int)=0 from h) (by decide)
 split
 ·split
  ·exact fun h=>absurd (show(1:Int)=0 from h) (by decide)
  ·exact fun _=>⟨w,_,_,rfl,rfl,bSo _⟩
 split
 ·rw[sA];exact key aDh
 ·unfold rN;rw[aB5 ha];exact key aUe
theorem aWo (hg:bY p w=true)(ha:a<w.tasks.length)(hb:b<w.tasks.length)(hab: ¬a=b)(h0: ¬(aV p w a).what=0)(hbp:(aV p w b).what=0): ¬(aV p (aV p w b).w a).what=0:=by
 have hgw:cX p w=true:=by simp only[bY,bPp]at hg;exact hg.2
 have hia:inR (a:Int) 0 ((w.tasks.length:Int)-1)=true:=by simp only[inR,bTe];omega
 have hib:inR (b:Int) 0 ((w.tasks.length:Int)-1)=true:=by simp only[inR,bTe];omega
 have htk:=(cR.1 hgw).2.2.2.2.1;simp only[jI,bPp]at htk;obtain⟨hd1,hd2,_⟩:=vL w _ _ htk.2;have hti:=hd1 _ (aMv hia);have htj:=hd1 _ (aMv hib);simp only[inR,bTe]at hti htj;obtain⟨i,hi⟩:=bQv hti.1.1;obtain⟨j,hj⟩:=bQv htj.1.1;have hij: ¬i=j:=by
  intro e;have h1:(w.tasks.map Int.toNat)[a]?=some i:=by
   have:bG w a=w.tasks[a]:=by simp[bG,ha]
   rw[List.getElem?_map,bQz ha,<-this,hi];rfl
  have h2:(w.tasks.map Int.toNat)[b]?=some j:=by
   have:bG w b=w.tasks[b]:=by simp[bG,hb]
   rw[List.getElem?_map,bQz hb,<-this,hj];rfl
  exact hab ((List.getElem?_inj (by simpa using ha) hd2).1 (by rw[h1,h2,e]))
 obtain⟨w1,l,bk,e1,e2,e3⟩:=aZ2 hib hbp;have ht1:bG w1 b=(j:Int):=by rw[aMp e2,hj]
 rw[ht1]at e1;obtain⟨w',hw'⟩: ∃w',w'=(aV p w b).w:=⟨_,rfl⟩
 rw[<-hw']at e1⊢;have hle:w.objs.length<=w'.objs.length:=by rw[e1];simp only[dW,bRp];exact e3.length_le
 have hot: ∀k:Nat,k<w.objs.length-> ¬k=j->w'.obj k=w.obj k:=fun k hk hkj=>by
  rw[e1,aXp (by simpa using hkj)]
  exact aMo e3 hk
 have hA:aO9 w w':=⟨hle,fun k hk=>by
  rcases Decidable.em (k=j)with rfl|hkj
  ·refine .inr ⟨by have:=htj.2;rw[hj]at this;exact D_o this,?_⟩
   have hk1:k<w1.objs.length:=bQf hk e3.length_le;rw[e1];simp[aA.obj,dW,hk1]
  ·exact .inl (hot k hk hkj)⟩
 have hin:aAj w:=fun o ho x hx=>bBz hg o ho x ((aTi _ _).2 hx)
 have htk':w'.tasks=w.tasks:=by rw[e1];exact e2
 have hta:bG w' a=bG w a:=aMp htk';have hil:i<w.objs.length:=by omega
 have hob:w'.obj (bG w a)=w.obj (bG w a):=by rw[hi];exact hot i hil hij
 intro hp;apply h0
 revert hp
 unfold aV;simp only[hta,hob];split
 ·exact fun h=>absurd (show(2:Int)=0 from h) (by decide)
 split
 ·split
  ·exact id
  ·exact fun _=>rfl
 split
 ·rw[sA,sA,aJu,aJu,aGx w'];exact id
 ·unfold rN;rw[aB5 hia,aB5 (by rw[htk'];exact hia),aJu,aJu]
  refine aZ1 hA hin fun v hv h5=>?_
  have hfl:0<(w.obj (bG w a)).frames.length:=by
   cases hfr:(w.obj (bG w a)).frames with
   |nil=>rw[hfr]at hv;cases hv
   |cons=>simp
  rw[bPu,bQz (by omega)]at hv
  have hom:w.obj (bG w a)∈w.objs:=by rw[hi,aOk hil];exact bPz _
  exact hin _ hom _ (aXr (bRv _ (bQ3.2 ⟨_,bPz _,bRv _ hv⟩)) h5)
def aMy (p:aF)(w:aA)(n:Nat):Prop:= ∀a:Nat,a<n->a<w.tasks.length-> ¬(aV p w a).what=0
theorem aMz {p:aF}{b:Nat}: ∀(k:Nat) {w:aA},bY p w=true->b<w.tasks.length->aMy p w b->(dG p b k w).2.2=true->
  bY p (dG p b k w).1=true/\ (dG p b k w).1.tasks=w.tasks/\ aMy p (dG p b k w).1 (b+1)
 |0,w,hg,hb,hc,h=>by
  rw[dG]at h⊢
  by_cases h0:(aV p w b).what=0
  ·rw[if_pos h0]at h;cases h
  ·rw[if_neg h0]
   refine⟨hg,rfl,fun a h1 h2=>?_⟩
   rcases bRo a b with h|h
   ·exact hc a h h2
   ·obtain rfl:a=b:=by omega
    exact h0
 |k+1,w,hg,hb,hc,h=>by
  rw[dG]at h⊢
  by_cases h0:(aV p w b).what=0
  ·rw[if_pos h0]at h⊢;obtain⟨g1,g2,_⟩:=wG hg hb;have ht:=(g2 h0).2;obtain⟨i1,i2,i3⟩:=aMz k g1 (by rw[ht];exact hb) (fun a h1 h2=>by
    rw[ht]at h2;exact aWo hg h2 hb (by omega) (hc a h1 h2) h0) h
   exact⟨i1,i2.trans ht,i3⟩
  ·rw[if_neg h0]
   refine⟨hg,rfl,fun a h1 h2=>?_⟩
   rcases bRo a b with h|h
   ·exact hc a h h2
   ·obtain rfl:a=b:=by omega
    exact h0
theorem aGy {p:aF}: ∀(n b:Nat) {w:aA} {s:Nat},bY p w=true->w.tasks.length<=b+n->aMy p w b->(eW p n b w s).2.2=true->bY p (eW p n b w s).1=true/\ aMy p (eW p n b w s).1 (eW p n b w s).1.tasks.length
 |0,b,w,s,hg,hl,hc,_=>⟨hg,fun a h1 h2=>hc a (by have:a<w.tasks.length:=h1;omega) h2⟩
 |n+1,b,w,s,hg,hl,hc,h=>by
  rw[eW]at h⊢
  by_cases hb:b<w.tasks.length
  ·rw[if_pos hb]at h⊢
   by_cases hi:(dG p b (5000-s) w).2.2=true
   ·rw[if_pos hi]at h⊢;obtain⟨i1,i2,i3⟩:=aMz _ hg hb hc hi;exact aGy n (b+1) i1 (by rw[i2];omega) i3 h
   ·rw[if_neg hi]at h;cases h
  ·rw[if_neg hb];exact⟨hg,fun a h1 h2=>hc a (by have:a<w.tasks.length:=h1;omega) h2⟩
theorem aI6 (hg:bY p w=true)(h:(bI p w s).2.2=true):bY p (bI p w s).1=true/\ aMy p (bI p w s).1 (bI p w s).1.tasks.length:=by
 refine aGy 121 0 hg ?_ (fun a h1=>absurd h1 (Nat.not_lt_zero a)) h
 simp only[bY,bPp]at hg;have hw:=cR.1 hg.2;have:=rE hw.2.2.2.2.1;omega
theorem aPa {p:aF}{a:Int}: ∀(k s:Nat) (w:aA),(dG p a k w).2.2=true->0<(nZ p a s w).2->(nZ p a s w).1=(dG p a k w).1
 |k,0,w,_,h=>absurd h (by rw[nZ];exact bSf 0)
 |0,s+1,w,h1,_=>by
  rw[dG]at h1⊢;rw[nZ]
  by_cases h:(aV p w a).what=0
  ·rw[if_pos h]at h1;cases h1
  ·rw[if_neg h,if_neg h]
 |k+1,s+1,w,h1,h2=>by
  rw[dG]at h1⊢;rw[nZ]at h2⊢
  by_cases h:(aV p w a).what=0
  ·rw[if_pos h]at h1 h2⊢;rw[if_pos h];exact aPa k s _ h1 h2
  ·rw[if_neg h,if_neg h]
theorem tT {p:aF}: ∀(n a:Nat) (w:aA) (s s0:Nat),(eW p n a w s0).2.2=true->0<(cV p n a w s).2->(cV p n a w s).1=(eW p n a w s0).1
 |0,_,_,_,_,_,_=>rfl
 |n+1,a,w,s,s0,h1,h2=>by
  rw[eW]at h1⊢;rw[cV]at h2⊢
  by_cases ha:a<w.tasks.length
  ·rw[if_pos ha]at h1 h2⊢;rw[if_pos ha]
   by_cases hi:(dG p a (5000-s0) w).2.2=true
   ·rw[if_pos hi]at h1⊢;have hs:0<(nZ p a s w).2:=by
     rcases Nat.eq_zero_or_pos (nZ p a s w).2 with h|h
     ·rw[h,pC]at h2;exact absurd h2 (bSf 0)
     ·exact h
    rw[aPa _ _ _ hi hs]at h2⊢;exact tT n (a+1) _ _ _ h1 h2
   ·rw[if_neg hi]at h1;cases h1
  ·rw[if_neg ha,if_neg ha]
theorem aGz {p:aF}{a:Nat}: ∀(s:Nat) {w:aA},bY p w=true->a<w.tasks.length->bY p (nZ p a s w).1=true/\ (nZ p a s w).1.tasks=w.tasks/\ (nZ p a s w).2<=s
 |0,w,h,_=>⟨h,rfl,bPq _⟩
 |s+1,w,h,ha=>by
  rw[nZ]
  by_cases h0:(aV p w a).what=0
  ·rw[if_pos h0];obtain⟨g1,g2,_⟩:=wG h ha;have ht:=(g2 h0).2;obtain⟨i1,i2,i3⟩:=aGz s g1 (by rw[ht];exact ha)
   exact⟨i1,i2.trans ht,Nat.le_succ_of_le i3⟩
  ·rw[if_neg h0];exact⟨h,rfl,bPq _⟩
theorem jU {p:aF}: ∀(n a s:Nat) {w:aA},bY p w=true->bY p (cV p n a w s).1=true/\ (cV p n a w s).2<=s
 |0,_,_,_,h=>⟨h,bPq _⟩
 |n+1,a,s,w,h=>by
  rw[cV]
  by_cases ha:a<w.tasks.length
  ·rw[if_pos ha];obtain⟨i1,_,i3⟩:=aGz s h ha;obtain⟨j1,j2⟩:=jU n (a+1) (nZ p a s w).2 i1;exact⟨j1,bP2 j2 i3⟩
  ·rw[if_neg ha];exact⟨h,bPq _⟩
theorem aH1 (hg:bY p w=true)(h:(dL p w pick).2.2=0):(dL p w pick).2.1.task=fS p (bI p w 0).1 pick/\ (aV p (bI p w 0).1 (fS p (bI p w 0).1 pick)).what=1/\ bY p (aV p (bI p w 0).1 (fS p (bI p w 0).1 pick)).w=true:=by
 obtain⟨e1,e2,e3,e4⟩:=aAr h;obtain⟨c1,c2⟩:=aI6 hg e1;rw[e3];generalize hP:fS p (bI p w 0).1 pick=P at*;simp only[inR,bTe]at e2;obtain⟨a,rfl⟩:=bQv e2.1;have ha:a<(bI p w 0).1.tasks.length:=by omega
 obtain⟨g1,_,g3,g4⟩:=wG c1 ha;have h1:=(g4.resolve_left (c2 a ha ha)).resolve_right e4;exact⟨(g3 h1).1,h1,g1⟩
def aAs (p:aF)(l:bP)(n s:Int):aA×Int:=
 if gY p l=true/\ 0<=n/\ n<(l.picks.length:Int)/\ 0<=s then pG p l n.toNat s.toNat else(kD,2)
noncomputable def c66 :{c//L 66=some c}:=by
 have hL:=at_ func66
 conv at hL=>rhs;reduce
 exact⟨_,hL⟩
theorem aM0 (hpf:p.few)(hlf:l.few)(hsp:aR p=true)(n s:Int)(hs:s<=9223372036854775807):PC L 16 [.agg p.cs,.agg l.cs,.i n,.i s] (.tup [.agg (aAs p l n s).1.cs,.i (aAs p l n s).2]):=by
 unfold aAs;have hL:=at_ func16
 conv at hL=>rhs;reduce
 refine aI hL rfl rfl ?_
 simp only[go_sem,kK,kF]
 refine aEs ?_
 simp only[go_sem,kK]
 by_cases hok:gY p l=true
 case neg=>
  rw[if_neg (fun h=>hok h.1)]
  refine dK 2 rfl ?_
  simp only[go_sem,bP0,bPw,(zI p l hpf hlf hsp (by rw[pH];simpa using hok)).ret]
  refine⟨rfl,cZ (x:= .i 0) rfl ?_⟩
  refine bD c66.2 rfl rfl ?_
  simp only[go_sem,c66];rfl
 have hl:=nQ.of hok;have hP:=zH p l hpf hlf hsp (by rw[pH];exact hok)
 refine cA ?_
 simp only[go_sem,hP.ret,kF]
 by_cases hn:0<=n/\ n<(l.picks.length:Int)/\ 0<=s
 case neg=>
  rw[if_neg (fun h=>hn h.2)]
  refine dK 13 rfl ?_
  have hc: ¬0<=n \/(0<=n/\ ¬n<(l.picks.length:Int)) \/(0<=n/\ n<(l.picks.length:Int)/\ ¬0<=s):=by omega
  rcases hc with h1|⟨h1,h2⟩|⟨h1,h2,h3⟩
  case' inr.inr=>simp only[go_sem,kK,bP0,bPw,D_t h1,D_t h2,D_f h3,bPr,(cY _).ret]
  case' inr.inl=>simp only[go_sem,kK,bP0,bPw,D_t h1,D_f h2,bPr,(cY _).ret]
  case' inl=>simp only[go_sem,kK,bP0,bPw,D_f h1,(cY _).ret]
  all_goals
   refine⟨rfl,cZ (x:= .i 0) rfl ?_⟩
   refine bD c66.2 rfl rfl ?_
   simp only[go_sem,c66];rfl
 rw[if_pos ⟨hok,hn⟩]
 refine cA ?_
 simp only[go_sem,kK,D_t hn.1,D_t hn.2.1,D_t hn.2.2,bPr,(fC _).ret,kF];obtain⟨m,rfl⟩:=bQv hn.1;obtain⟨k,rfl⟩:=bQv hn.2.2;rw[bQo,bQo];have hm:m<l.picks.length:=by omega
 obtain⟨o1,o2⟩:=bC5 hpf hsp hok hm
 by_cases h0:(bR p l m).2.2=0
 case neg=>
  have hi:pG p l m k=(kD,(bR p l m).2.2):=by
   unfold pG bR
   by_cases h1:(atX p l m).2=0
   ·have h2:=(aHz h1 h0).1;rw[if_pos h1,if_pos h1,if_neg h2,if_neg h2]
   ·rw[if_neg h1,if_neg h1]
  rw[hi]
  refine dK 2 rfl ?_
  simp only[go_sem,bP0,bPw,(o2 h0).ret]
  refine⟨rfl,cZ (x:= .i 0) rfl ?_⟩
  refine bD c66.2 rfl rfl ?_
  simp only[go_sem,c66];rfl
 obtain⟨h1,h2,h3⟩:=wF h0;have hg:=pB hok (bRn hm) h1;have hx:=o1 h0;simp only[aCl,aO8]at hx;have hp1:=aD6 (l:=l) hpf hsp hg (s:=k) (by omega)
 obtain⟨e1,e2,e3,e4⟩:=aAr h2;rw[<-h3]at e3;have hgq:=jU 121 0 k hg;have hall:=tT 121 0 (atX p l m).1 k 0 e1;unfold pG;rw[if_pos h1,if_pos h2]
 simp only
 have hqd:cV p 121 0 (atX p l m).1 k=eR p (atX p l m).1 k:=rfl;rw[hqd]at hgq hall;generalize hq:eR p (atX p l m).1 k=q at*
 refine cA ?_
 simp only[go_sem,hx.ret,kF];simp only[go_sem,kK,hp1.ret]
 by_cases hz:q.2=0
 ·have hz':decide ((q.2:Int)=0)=true:=D_t (by omega)
  have hc:=rG q.1 (jT hsp hgq.1) (aCm hsp hgq.1);rw[if_pos hz];simp only[go_sem,kK,hz',hc.ret,kF]
  refine⟨rfl,oA rfl ?_⟩
  simp only[go_sem]
 have hz':decide ((q.2:Int)=0)=false:=D_f (by omega)
 rw[if_neg hz];obtain⟨t1,t2,t3⟩:=aH1 hg h2;have hqs:q.1=(bI p (atX p l m).1 0).1:=hall (by omega)
 rw[<-hqs]at t1 t2 t3 e2;rw[<-h3]at t1;have hS:=aGt p q.1 (fS p q.1 (gP l m)) hpf (jT hsp hgq.1) hsp;have hM:aGs p q.1 (fS p q.1 (gP l m))=((aV p q.1 (fS p q.1 (gP l m))).w,(aV p q.1 (fS p q.1 (gP l m))).e,0):=by unfold aGs;rw[if_pos ⟨hgq.1,e2⟩,if_neg (by rw[t2];decide)]
 rw[hM]at hS;have hp2:=aD6 (l:=l) hpf hsp t3 (s:=q.2-1) (by omega)
 have hgr:=jU 121 0 (q.2-1) t3;have hrd:cV p 121 0 (aV p q.1 (fS p q.1 (gP l m))).w (q.2-1)=eR p (aV p q.1 (fS p q.1 (gP l m))).w (q.2-1):=rfl;rw[hrd]at hgr;have hw1:IntKind.i64.wrap ((q.2:Int)-1)=((q.2-1:Nat):Int):=by rw[show(q.2:Int)-1=((q.2-1:Nat):Int)by omega];exact aW (by omega)
 simp only[go_sem,hz',t1,evV,hS.ret,kF]
 refine cA ?_
 simp only[go_sem,(fC _).ret,kF];simp only[go_sem,hw1,hp2.ret];generalize hr:eR p (aV p q.1 (fS p q.1 (gP l m))).w (q.2-1)=r at*
 by_cases hy:r.2=0
 ·have hy':decide ((r.2:Int)=0)=true:=D_t (by omega)
  have hc:=rG r.1 (jT hsp hgr.1) (aCm hsp hgr.1);rw[if_pos hy]
  refine cA ?_
  simp only[go_sem,hy',(fC _).ret,hc.ret,kF]
  refine⟨rfl,oA rfl ?_⟩
  simp only[go_sem]
 ·have hy':decide ((r.2:Int)=0)=false:=D_f (by omega)
  rw[if_neg hy]
  refine dK 2 rfl ?_
  simp only[go_sem,bP0,bPw,hy',(cY _).ret]
  refine⟨rfl,cZ (x:= .i 0) rfl ?_⟩
  refine bD c66.2 rfl rfl ?_
  simp only[go_sem,c66];rfl
variable {xs:List Val}
theorem zJ (n lo hi:Int):PC L 57 [.i n,.i lo,.i hi] (.bool (inR n lo hi)):=by
 have hL:=at_ func57
 conv at hL=>rhs;reduce
 refine aI hL rfl rfl ?_
 simp only[go_sem,qW]
 refine bB (fun h=>?_) (fun h=>?_)<;>simp only[go_sem,h]<;>simp at h<;>simp[h,inR]
 omega
theorem aAt (l:bP)(n:Int):PC L 17 [.agg [.i l.every,.is l.picks,.fz (l.marks.map aA.enc)],.i n] (.bool (inR n 0 l.picks.length)):=by
 have hL:=at_ func17
 conv at hL=>rhs;reduce
 refine aI hL rfl rfl ?_
 simp only[go_sem,kK,(zJ _ _ _).ret,bPr,kF]
theorem aUr (l:bP)(hl:l.few)(n:Int):PC L 23 [.agg [.i l.every,.is l.picks,.fz (l.marks.map aA.enc)],.i n] (.bool (inR n 0 ((l.picks.length:Int)-1))):=by
 have hw:IntKind.i64.wrap ((l.picks.length:Int)-1)=(l.picks.length:Int)-1:=by have:=hl.1;unfold Few at this;exact aW (by omega)
 have hL:=at_ func23
 conv at hL=>rhs;reduce
 refine aI hL rfl rfl ?_
 simp only[go_sem,kK,(zJ _ _ _).ret,bPr,hw,kF]
theorem xH (hp:dU p)(hsp:aR p=true)(hw:cX p w=true)(pick:Int):
  PC L 70 [.agg p.cs,.agg w.cs,.i pick] (.tup [.agg (dL p w pick).1.cs,evV (dL p w pick).2.1,.i (dL p w pick).2.2]):=by
 have hT:=bEu hp hsp (tS hw) pick;have hL:=at_ func70
 conv at hL=>rhs;reduce
 refine aI hL rfl rfl ?_
 simp only[go_sem,kK,hT.ret,evV,kF];unfold dL
 simp only
 by_cases h5:(fQ p w pick).2.2.2=5
 ·rw[if_pos h5];simp only[go_sem,kK,D_t h5,eB,jL]
 rw[if_neg h5]
 by_cases h0:(fQ p w pick).2.2.2=0
 ·rw[if_pos h0];simp only[go_sem,kK,h0]
  refine aH ?_
  simp only[go_sem,kA,kF]
 ·rw[if_neg h0];simp only[go_sem,kK,D_f h5,D_f h0,eB,jL,bP8]
theorem aM1 (hpf:p.few)(hlf:l.few)(hc:p.cons.length<=1000):PC L 12 [.agg p.cs,.agg [.i l.every,.is l.picks,.fz (l.marks.map aA.enc)]] (.bool (gY p l)):=by
 have hF:=aDv p hpf hc;have hlog:gY p l=(dV p&&inR l.every 1 20&&decide (l.picks.length<=200)&&decide (l.marks.length=l.picks.length/aL l+1)&&l.marks.all (cX p)):=rfl;have hL:=at_ func12
 conv at hL=>rhs;reduce
 refine aI hL rfl rfl ?_
 cases hf:dV p with
 |false=>rw[hf]at hF hlog;rw[hlog];simp only[go_sem,kK,hF.ret,bP8,bQq,kF]
 |true=>
 cases he:inR l.every 1 20 with
 |false=>rw[hf]at hF hlog;rw[he]at hlog;rw[hlog];simp only[go_sem,kK,hF.ret,(zJ _ _ _).ret,he,bP8,bP3,bQq,bQ7,kF]
 |true=>
 rw[hf]at hF hlog;rw[he]at hlog;rw[hlog]
 by_cases hk:l.picks.length<=200
 case neg=>simp only[go_sem,kK,hF.ret,(zJ _ _ _).ret,he,bPr,D_f hk,show decide ((200:Int)<(l.picks.length:Int))=true from D_t (by omega),bP3,bQq,bQ7,kF]
 have hev:l.every=(aL l:Int):=by simp only[inR,bTe]at he;unfold aL;omega
 have h1:1<=aL l:=by simp only[inR,bTe]at he;unfold aL;omega
 have hdv:((l.picks.length:Int)).tdiv (aL l:Int)=((l.picks.length/aL l:Nat):Int):=by rw[bTd (by omega)];rfl
 have hle:=Nat.div_le_self l.picks.length (aL l);have hw1:IntKind.i64.wrap (((l.picks.length/aL l:Nat):Int))=((l.picks.length/aL l:Nat):Int):=by generalize l.picks.length/aL l=q at hle⊢;exact aW (by omega)
 have hw2:IntKind.i64.wrap (((l.picks.length/aL l:Nat):Int)+1)=((l.picks.length/aL l+1:Nat):Int):=by generalize l.picks.length/aL l=q at hle⊢;rw[aW (by omega)];rfl
 have hne: ¬(aL l:Int)=0:=by omega
 have hk':decide ((200:Int)<(l.picks.length:Int))=false:=D_f (by omega)
 rw[hev]at he;simp only[go_sem,kK,hF.ret,(zJ _ _ _).ret,hev,he,bPr,D_t hk,hk',hne,hdv,hw1,hw2,bP3,bQn,bRl,kF]
 by_cases hm:l.marks.length=l.picks.length/aL l+1
 case neg=>simp only[go_sem,kK,D_f hm,bP8,bQq]
 simp only[go_sem,D_t hm,bP3,bQn]
 refine bQ l.marks.length (fun k st=> ∃fr en cnt,st=⟨fr,en,cnt⟩/\ fr 2= .ptr ⟨0,2,0⟩ 0/\ fr 3= .ptr ⟨0,3,0⟩ 0/\ fr 5= .i (k:Int)/\ en ⟨0,2,0⟩=some (.box [.fz (p.nodes.map aM.enc),.fz (p.funs.map (.int .i64)),.i p.main,.fz (p.cons.map cS.enc)] false)/\ en ⟨0,3,0⟩=some (.box [.i (aL l:Int),.is l.picks,.fz (l.marks.map aA.enc)] false)/\ (l.marks.drop k).all (cX p)=l.marks.all (cX p)) 0 (bPx _) ⟨_,_,_,rfl,by simp only[go_sem],by simp only[go_sem],by simp only[go_sem],by simp only[go_sem],by simp only[go_sem],rfl⟩ ?_
 rintro k st hk ⟨fr,en,cnt,rfl,f2,f3,f5,e2,e3,hI⟩
 simp only[go_sem,kK,f3,f5,e3,bPr]
 refine aG (fun hq=>?_) (fun hq=>?_)
 ·have h':k<l.marks.length:=D_o hq;have hW:=aFt p l.marks[k] hpf (hlf.2.2 _ (bPz h'));have hst:=gD h' (cX p);rw[<-hI,hst];simp only[go_sem,kK,f2,f3,f5,e2,e3,sB h',hW.ret,kF];cases hb:cX p l.marks[k]with
  |false=>simp only[go_sem,kK,bP8,bQq]
  |true=>
   simp only[go_sem,bP3,bQn,f5,h',aT h' hlf.2.1];exact⟨_,_,_,rfl,by simp only[go_sem,f2],by simp only[go_sem,f3],by simp only[go_sem],e2,e3⟩
 ·have:k=l.marks.length:=by simp at hq;omega
  subst this;rw[<-hI,bRf];simp only[go_sem]
def oQ (l:bP):Bool:=!(decide (25<l.picks.length)&&decide (l.picks.length<=200))&&decide (l.picks.length<=205)&&decide (l.marks.length<=30)&&l.marks.all bW
theorem aRc (hlf:l.few):PC L 49 [.agg [.i l.every,.is l.picks,.fz (l.marks.map aA.enc)]] (.bool (oQ l)):=by
 have hS:oQ l=(!(decide (25<l.picks.length)&&decide (l.picks.length<=200))&&decide (l.picks.length<=205)&&decide (l.marks.length<=30)&&l.marks.all bW):=rfl;have c1:decide ((25:Int)<(l.picks.length:Int))=decide (25<l.picks.length):=by rw[bRd,bTe,bTe];omega
 have c2:decide ((l.picks.length:Int)<=200)=decide (l.picks.length<=200):=by rw[bRd,bTe,bTe];omega
 have c3:decide ((205:Int)<(l.picks.length:Int))=!decide (l.picks.length<=205):=by rw[bRd,bQ2,bTe,bTf];omega
 have c4:decide ((30:Int)<(l.marks.length:Int))=!decide (l.marks.length<=30):=by rw[bRd,bQ2,bTe,bTf];omega
 rw[hS];have hL:=at_ func49
 conv at hL=>rhs;reduce
 refine aI hL rfl rfl ?_
 generalize decide (25<l.picks.length)=b1 at c1⊢;generalize decide (l.picks.length<=200)=b2 at c2⊢;generalize decide (l.picks.length<=205)=b3 at c3⊢;generalize decide (l.marks.length<=30)=b4 at c4⊢;cases b1<;>cases b2<;>cases b3<;>cases b4
 all_goals simp only[go_sem,kK,bPr,c1,c2,c3,c4,bP8,bP3,bQn,bQq,bQ7,bRl,kF]
 all_goals
  refine bQ l.marks.length (fun k st=> ∃fr en cnt,st=⟨fr,en,cnt⟩/\ fr 1= .ptr ⟨0,1,0⟩ 0/\ fr 3= .i (k:Int)/\ en ⟨0,1,0⟩=some (.box [.i l.every,.is l.picks,.fz (l.marks.map aA.enc)] false)/\ (l.marks.drop k).all bW=l.marks.all bW) 0 (bPx _) ⟨_,_,_,rfl,by simp only[go_sem],by simp only[go_sem],by simp only[go_sem],rfl⟩ ?_
  rintro k st hk ⟨fr,en,cnt,rfl,f1,f3,e1,hI⟩
  simp only[go_sem,kK,f1,f3,e1,bPr]
  refine aG (fun hq=>?_) (fun hq=>?_)
  ·have h':k<l.marks.length:=D_o hq;have hW:=wT l.marks[k] (hlf.2.2 _ (bPz h'));have hst:=gD h' bW;rw[<-hI,hst];simp only[go_sem,kK,f1,f3,e1,sB h',hW.ret,kF];cases hb:bW l.marks[k]with
   |false=>simp only[go_sem,kK,bP8,bQq]
   |true=>
    simp only[go_sem,bP3,bQn,f3,h',aT h' hlf.2.1];exact⟨_,_,_,rfl,by simp only[go_sem,f1],by simp only[go_sem],e1⟩
  ·have:k=l.marks.length:=by simp at hq;omega
   subst this;rw[<-hI,bRf];simp only[go_sem]
theorem bP.eq_iff {a b:bP}:a=b↔a.every=b.every/\ a.picks=b.picks/\ a.marks=b.marks:=by
 cases a;cases b;simp
instance : DecidableEq bP:=fun _ _=>decidable_of_iff _ bP.eq_iff.symm
theorem aG0 (hpf:p.few)(hlf:l.few):PC L 9 [.agg p.cs,.agg [.i l.every,.is l.picks,.fz (l.marks.map aA.enc)]] (.bool (aR p&&oQ l)):=by
 have h1:=aHo p hpf;have h2:=aRc hlf;have hL:=at_ func9
 conv at hL=>rhs;reduce
 refine aI hL rfl rfl ?_
 cases hb:aR p with
 |false=>rw[hb]at h1;simp only[go_sem,kK,h1.ret,bQq,kF]
 |true=>rw[hb]at h1;simp only[go_sem,kK,h1.ret,h2.ret,bQn,kF]
def bKo (w:aA):Bool:=decide (w=kD)
theorem aUs (hw:w.few):PC L 18 [.agg w.cs] (.bool (bKo w)):=by
 have h:=wV w kD hw;have hL:=at_ func18
 conv at hL=>rhs;reduce
 refine aI hL rfl rfl ?_
 simp only[kD,aA.cs,Val.is,bP1]at h;simp only[go_sem,kK,h.ret,kF];rfl
theorem aPb {p:aF}{l:bP}: ∀(k i:Nat) (w:aA),¬(aCi p l i k w).2=0->(aCi p l i k w).1=kD
 |0,_,_,h=>absurd rfl h
 |k+1,i,w,h=>by
  rw[aCi]at h⊢
  split at h<;>rename_i h1
  ·rw[if_pos h1];exact aPb k (i+1) _ h
  ·rw[if_neg h1]
theorem aRe (h: ¬(atX p l n).2=0):(atX p l n).1=kD:=aPb _ _ _ h
theorem aZ4 (h:(atX p l t).2=0):(bR p l t).2.2=(dL p (atX p l t).1 (gP l t)).2.2:=by
 unfold bR;rw[if_pos h];split<;>rfl
theorem aDi (hpf:p.few)(hsp:aR p=true)(hok:gY p l=true)(hn:n<=l.picks.length):PC L 19 [.agg p.cs,.agg [.i l.every,.is l.picks,.fz (l.marks.map aA.enc)],.i (n:Int)] (.tup [.agg (atX p l n).1.cs,.i (atX p l n).2]):=by
 have hl:=nQ.of hok;have hfm:=lV (nF hok).1;obtain⟨a,ha⟩: ∃a,a=n/aL l*aL l:=⟨_,rfl⟩
 have han:a<=n:=by rw[ha];exact bS8 ..
 have hma:a%aL l=0:=by rw[ha];exact Nat.mul_mod_left ..
 have hlt:=hl.lt hn;have hia:=fun en=>sB (l:=l) (en:=en) hlt
 have hmul:=hl.mul hn;rw[<-ha]at hmul;have hda:a/aL l=n/aL l:=by rw[ha];exact Nat.mul_div_cancel _ (by have:=hl.e1;omega)
 have hma0:=zG (p:=p) hl.e1 hma;rw[hda,aAq hlt]at hma0;have hmw:l.marks[n/aL l]=(atX p l a).1:=by rw[hma0]
 have hnx: ∀t,a<=t->t<n->(bR p l t).2.2=0->(atX p l (t+1)).1=(bR p l t).1:=fun t h1 h2 h0=>by
  rcases(aJr hl h0).2 with h|h
  ·exfalso
   have h3:(t+1)/aL l*aL l=t+1:=aH0 h;have h4:(t+1)/aL l<=n/aL l:=Nat.div_le_div_right h2;have h5:=bQw (aL l) h4;rw[h3,<-ha]at h5;omega
  ·exact h
 obtain⟨s,hs1,hs2,hs3,hs4⟩: ∃s,a<=s/\ s<=n/\ (∀t,a<=t->t<s->(bR p l t).2.2=0)/\ ((s=n/\ (atX p l n).2=0) \/(s<n/\ ¬(bR p l s).2.2=0/\ (bR p l s).2.2=(atX p l n).2)):=by
  by_cases h0:(atX p l n).2=0
  ·exact⟨n,han,bPq _,fun t h1 h2=>aRa hl n h0 t (by rw[<-ha];exact h1) h2,.inl ⟨rfl,h0⟩⟩
  ·obtain⟨s,h1,h2,h3,h4,h5⟩:=aRb hl n h0;rw[<-ha]at h1 h3;exact⟨s,h1,by omega,h3,.inr ⟨h2,h4,h5⟩⟩
 have hpk:=hl.pk;simp only[hl.ev];have hL:=at_ func19
 conv at hL=>rhs;reduce
 refine aI hL rfl rfl ?_
 simp only[go_sem,kK,hl.ne,hl.div,hl.wdiv hn,hmul,hia,kF]
 refine bQ s (fun i st=> ∃fr en cnt w,st=⟨fr,en,cnt⟩/\ fr 2= .i (n:Int)/\ fr 3= .ptr ⟨0,3,0⟩ 0/\ fr 4= .ptr ⟨0,4,0⟩ 0/\ fr 6= .ptr ⟨0,6,0⟩ 0/\ fr 9= .ptr ⟨0,9,0⟩ 0/\ fr 10= .i (i:Int)/\ en ⟨0,3,0⟩=some (.box [.fz (p.nodes.map aM.enc),.fz (p.funs.map (.int .i64)),.i p.main,.fz (p.cons.map cS.enc)] false)/\ en ⟨0,4,0⟩=some (.box [.i (aL l:Int),.is l.picks,.fz (l.marks.map aA.enc)] false)/\ en ⟨0,6,0⟩=some (.box [.cl [],.cl [],.cl [],.cl [],.i 0] false)/\
  en ⟨0,9,0⟩=some (.box [.fz (w.objs.map aQ.enc),.is w.tasks,.fz (w.outs.map bJ.enc),.is w.ins,.i w.used] false)/\ w=(atX p l i).1/\ (atX p l i).2=0/\ a<=i) a hs1 ⟨_,_,_,l.marks[n/aL l],rfl,by simp only[go_sem],by simp only[go_sem],by simp only[go_sem],by simp only[go_sem],by simp only[go_sem],by simp only[go_sem],by simp only[go_sem],by simp only[go_sem],by simp only[go_sem],by simp only[go_sem],hmw,by rw[hma0],bPq _⟩ ?_
 rintro i st hi ⟨fr,en,cnt,w,rfl,f2,f3,f4,f6,f9,f10,e3,e4,e6,e9,hw,hw0,hai⟩
 simp only[go_sem,kK,f2,f10]
 by_cases hin:i<n
 case neg=>
  have:i=n:=by omega
  subst this;have:s=i:=by omega
  subst this;rw[<-hw,hw0];simp only[go_sem,D_f hin,f6,f9,e6,e9]
 have hT:=xH hfm hsp (aQ6 hfm hok (bRn (bQf hin hn)) hw0) (gP l i);have hil:i<l.picks.length:=by omega
 rw[<-hw,rH hil]at hT;simp only[go_sem,D_t hin]
 refine aH ?_
 simp only[go_sem,kK,f3,f4,f9,f10,e3,e4,e9,hil,hT.ret,evV,kA,kF];have hae:=aZ4 hw0;rw[<-hw,rH hil]at hae
 by_cases hr:(dL p w l.picks[i]).2.2=0
 ·have his:i<s:=by
   rcases hs4 with⟨h,_⟩|⟨_,h,_⟩
   ·omega
   ·rcases bRo i s with h'|h'
    ·exact h'
    ·obtain rfl:s=i:=by omega
     exact absurd (hae.trans hr) h
  have hax:bR p l i=dL p w l.picks[i]:=by rw[(wF (hae.trans hr)).2.2,<-hw,rH hil]
  have hn1:=hnx i hai hin (hae.trans hr);rw[hax]at hn1;simp only[go_sem,D_t hr,f9,f10,e9,bP3,aT hil hl.few];exact⟨his,_,_,_,(dL p w l.picks[i]).1,rfl,by simp only[go_sem,f2],by simp only[go_sem,f3],by simp only[go_sem,f4],by simp only[go_sem,f6],by simp only[go_sem,f9],by simp only[go_sem],by simp only[go_sem,e3],by simp only[go_sem,e4],by simp only[go_sem,e6],by simp only[go_sem],hn1.symm,(aJr hl (hae.trans hr)).1,by omega⟩
 ·rcases hs4 with⟨h,_⟩|⟨h1,h2,h3⟩
  ·exact absurd (hae.symm.trans (hs3 i hai (by omega))) hr
  ·have his:i=s:=by
    rcases bRo i s with h'|h'
    ·exact absurd (hae.symm.trans (hs3 i hai h')) hr
    ·omega
   subst his;rw[aRe (n:=n) (by rw[<-h3];exact h2),<-h3,hae]
   simp only[go_sem,kK,D_f hr,f6,e6,bP8];rfl
theorem aRf (hpf:p.few)(hsp:aR p=true)(hok:gY p l=true)(ht:t<l.picks.length):PC L 59 [.agg p.cs,.agg [.i l.every,.is l.picks,.fz (l.marks.map aA.enc)],.i (t:Int)] (.tup [.agg (bR p l t).1.cs,evV (bR p l t).2.1,.i (bR p l t).2.2]):=by
 have hA:=aDi hpf hsp hok (bRn ht);have hfm:=lV (nF hok).1;have hL:=at_ func59
 conv at hL=>rhs;reduce
 refine aI hL rfl rfl ?_
 simp only[go_sem,kK,hA.ret,kF];unfold bR
 by_cases h0:(atX p l t).2=0
 case neg=>
  rw[if_neg h0];simp only[go_sem,kK,D_f h0,bP8,evV,eB,jL]
 rw[if_pos h0];have hT:=xH hfm hsp (aQ6 hfm hok (bRn ht) h0) (gP l t);rw[rH ht]at hT⊢;simp only[go_sem,D_t h0,bP3]
 refine aH ?_
 simp only[go_sem,kK,ht,hT.ret,evV,kA,kF]
 by_cases hr:(dL p (atX p l t).1 l.picks[t]).2.2=0
 ·rw[if_pos hr];simp only[go_sem,hr]
  refine aH ?_
  simp only[go_sem,kA,kF]
 ·rw[if_neg hr];simp only[go_sem,kK,D_f hr,bP8]
  refine aH ?_
  simp only[go_sem,kA,kF];rfl
theorem aNm (hpf:p.few)(hsp:aR p=true)(hok:gY p l=true)(hab:a<=b)(hb:b<=l.picks.length):
  PC L 21 [.agg p.cs,.agg l.cs,.i (a:Int),.i (b:Int)] (.tup [.fz ((jX p l a (b-a)).1.map evV),.i (jX p l a (b-a)).2]):=by
 have hl:=nQ.of hok;have hpk:=hl.pk;have hL:=at_ func21
 conv at hL=>rhs;reduce
 refine aI hL rfl rfl ?_
 simp only[go_sem,kK,kF];obtain⟨s,hs0,hs1,hs2,hs3⟩: ∃s,a<=s/\ s<=b/\ (∀u,a<=u->u<s->(bR p l u).2.2=0)/\ ((s=b/\ (jX p l a (b-a)).2=0/\ (jX p l a (b-a)).1.map evV=evL p l a (b-a)) \/(s<b/\ ¬(bR p l s).2.2=0/\ jX p l a (b-a)=([],(bR p l s).2.2))):=by
  rcases aCn (p:=p) (l:=l) (b-a) a with⟨s,q1,q2,q3,q4,q5⟩|⟨q3,q4,q5⟩
  ·exact⟨s,q1,by omega,q3,.inr ⟨by omega,q4,q5⟩⟩
  ·exact⟨b,hab,bPq _,fun u h1 h2=>q3 u h1 (by omega),.inl ⟨rfl,q4,q5⟩⟩
 refine bQ s (fun t st=> ∃fr en cnt,st=⟨fr,en,cnt⟩/\ fr 3= .i (b:Int)/\ fr 4= .ptr ⟨0,4,0⟩ 0/\ fr 5= .ptr ⟨0,5,0⟩ 0/\ fr 11= .i (t:Int)/\ en ⟨0,4,0⟩=some (.box p.cs false)/\ en ⟨0,5,0⟩=some (.box l.cs false)/\ cP en (fr 10) 5 (evL p l a (t-a)) [35]/\ a<=t) a hs0 ⟨_,_,_,rfl,by simp only[go_sem],by simp only[go_sem],by simp only[go_sem],by simp only[go_sem],by simp only[go_sem],by simp only[go_sem],by rw[Nat.sub_self];simp only[go_sem];exact cP.nil _ _,bPq _⟩ ?_
 rintro t st ht ⟨fr,en,cnt,rfl,f3,f4,f5,f11,e4,e5,hm,hat⟩
 simp only[go_sem,kK,f3,f11]
 by_cases htb:t<b
 case neg=>
  rcases hs3 with⟨h,h2,h3⟩|⟨h,_⟩
  ·have:t=b:=by omega
   subst this;rw[h2,h3];simp only[go_sem,D_f htb];obtain⟨r,ks,t1,_,t3,_⟩:=hm.snap 6;simp only[go_sem,t1,t3]
  ·omega
 have htl:t<l.picks.length:=by omega
 have hA:=aRf hpf hsp hok htl;simp only[go_sem,kK,D_t htb,f4,f5,f11,e4,e5,hA.ret,evV,kF]
 by_cases h0:(bR p l t).2.2=0
 case neg=>
  have:s=t:=by
   rcases bRo t s with h'|h'
   ·exact absurd (hs2 t hat h') h0
   ·omega
  subst this;rcases hs3 with⟨h,_⟩|⟨_,_,h⟩
  ·omega
  ·rw[h];simp only[go_sem,kK,D_f h0,bP8]
   skip
 have hts:t<s:=by
  rcases bRo t s with h'|h'
  ·exact h'
  ·have:s=t:=by omega
   subst this;rcases hs3 with⟨h',_⟩|⟨_,h',_⟩
   ·omega
   ·exact absurd h0 h'
 have hlen:(evL p l a (t-a)).length=t-a:=by simp[evL]
 simp only[go_sem,D_t h0,bP3]
 refine kQ (D:=[35]) (xs:=evL p l a (t-a)) (ys:=[evV (bR p l t).2.1]) (rs:=[]) ?_ ?_ rfl ?_ ?_
 ·simp only[go_sem];exact hm.keep fun t g ht=>by simp at ht;subst ht;simp only[go_sem]
 ·simp only[go_sem,evV]
 ·rw[hlen];simp;omega
 intro v' en' cnt' hown hen hcnt;have k4:=(hen 0 4 0 (.inr ⟨by decide,by simp⟩)).trans (by simp only[go_sem,e4]:_=some (.box p.cs false))
 have k5:=(hen 0 5 0 (.inr ⟨by decide,by simp⟩)).trans (by simp only[go_sem,e5]:_=some (.box l.cs false))
 simp only[go_sem,f11,aT htl hl.few]
 refine⟨hts,_,_,_,rfl,by simp only[go_sem,f3],by simp only[go_sem,f4],by simp only[go_sem,f5],by simp only[go_sem],by simp only[go_sem,k4],by simp only[go_sem,k5],?_,by omega⟩
 simp only[go_sem];rw[show t+1-a=(t-a)+1 by omega]
 unfold evL at hown⊢;rw[List.range_succ,bQs];simp only[bQj,bP1,show a+(t-a)=t by omega]
 exact hown.sub (by simp)
theorem aA4 (hp:dU p)(hpf:p.few)(hsp:aR p=true)(hw:bY p w=true)(hs:s<=9223372036854775807):
  PC L 74 [.agg p.cs,.agg w.cs,.i (s:Int)] (.tup [.agg (eR p w s).1.cs,.i ((eR p w s).2:Int)]):=by
 have htl:w.tasks.length<=120:=by
  have hg:=hw;simp only[bY,bPp]at hg;have:=cR.1 hg.2;exact bP2 (rE this.2.2.2.2.1) this.1
 have hL:=at_ func74
 conv at hL=>rhs;reduce
 refine aI hL rfl rfl ?_
 simp only[go_sem,kK,kF]
 refine bQ w.tasks.length (fun a st=> ∃fr en cnt y r,st=⟨fr,en,cnt⟩/\ fr 3= .ptr ⟨0,3,0⟩ 0/\ fr 4= .ptr ⟨0,4,0⟩ 0/\ fr 6= .ptr ⟨0,6,0⟩ 0/\ fr 8= .i (a:Int)/\ fr 2= .i ((r:Nat):Int)/\ en ⟨0,3,0⟩=some (.box p.cs false)/\ en ⟨0,4,0⟩=some (.box y.cs false)/\ en ⟨0,6,0⟩=some (.box [.cl [],.cl [],.cl [],.cl [],.i 0] false)/\
  bY p y=true/\ y.tasks=w.tasks/\ r<=s/\ cV p (121-a) a y r=eR p w s) 0 (bPx _) ⟨_,_,_,w,s,rfl,by simp only[go_sem],by simp only[go_sem],by simp only[go_sem],by simp only[go_sem],by simp only[go_sem],by simp only[go_sem],by simp only[go_sem],by simp only[go_sem],hw,rfl,bPq _,rfl⟩ ?_
 rintro a st hk ⟨fr,en,cnt,y,r,rfl,f3,f4,f6,f8,f2,e3,e4,e6,hg,hty,hr,hI⟩
 simp only[go_sem,kK,f4,f8,e4,bPr];rw[hty]
 by_cases hat:a<w.tasks.length
 case neg=>
  rw[aGv (by rw[hty];exact hat)]at hI
  rw[<-hI];simp only[go_sem,D_f hat,f4,f6,f2,e4,e6]
 have hS: ∀{x:aA},bY p x=true->x.tasks=w.tasks->PC L 76 [.agg p.cs,.agg x.cs,.i (a:Int)] (.agg [.fz ((aV p x a).w.objs.map aQ.enc),.fz ((aV p x a).w.tasks.map (.int .i64)),.fz ((aV p x a).w.outs.map bJ.enc),.fz ((aV p x a).w.ins.map (.int .i64)),.i (aV p x a).w.used,.i (aV p x a).what,.i (aV p x a).e.task,.i (aV p x a).e.act,.i (aV p x a).e.n,.i (aV p x a).e.v.kind,.i (aV p x a).e.v.n]):=fun{x} hx ht=>by
  have hx':=hx;simp only[bY,bPp]at hx';exact aDe hp hsp (tS hx'.2) (by rw[ht];simp only[inR,bTe];omega)
 simp only[go_sem,D_t hat,f3,f4,f8,e3,e4,(hS hg hty).ret,kF]
 refine Go.Abs.wp_loop (fun(x:aA×Nat) (st:St)=> ∃fr en cnt y d g,st=⟨fr,en,cnt⟩/\ y=x.1/\ d=aV p x.1 (a:Int)/\ fr 3= .ptr ⟨0,3,0⟩ 0/\ fr 4= .ptr ⟨0,4,0⟩ 0/\ fr 6= .ptr ⟨0,6,0⟩ 0/\ fr 8= .i (a:Int)/\ fr 2= .i ((x.2:Nat):Int)/\ fr 9= .ptr ⟨0,9,g⟩ 0/\ en ⟨0,3,0⟩=some (.box p.cs false)/\ en ⟨0,4,0⟩=some (.box y.cs false)/\ en ⟨0,6,0⟩=some (.box [.cl [],.cl [],.cl [],.cl [],.i 0] false)/\
  en ⟨0,9,g⟩=some (.box [.fz (d.w.objs.map aQ.enc),.is d.w.tasks,.fz (d.w.outs.map bJ.enc),.is d.w.ins,.i d.w.used,.i d.what,.i d.e.task,.i d.e.act,.i d.e.n,.i d.e.v.kind,.i d.e.v.n] false)/\ bY p x.1=true/\ x.1.tasks=w.tasks/\ x.2<=s/\ cV p (121-a) a x.1 x.2=eR p w s) (fun x=>x.2) (y,r) ⟨_,_,_,_,_,cnt 0 9,rfl,rfl,rfl,by simp only[go_sem,f3],by simp only[go_sem,f4],by simp only[go_sem,f6],by simp only[go_sem,f8],by simp only[go_sem,f2],by simp only[go_sem],by simp only[go_sem,e3],by simp only[go_sem,e4],by simp only[go_sem,e6],by simp only[go_sem],hg,hty,hr,hI⟩ ?_
 clear f3 f4 f6 f8 f2 e3 e4 e6 hg hty hr hI
 rintro⟨y0,r⟩ st ⟨fr,en,cnt,y,d,g,rfl,hy,hd,f3,f4,f6,f8,f2,f9,e3,e4,e6,e9,hg,hty,hr,hI⟩
 simp only at hy hd f2 e4 e9 hg hty hr hI
 subst hy;have hb:a<y.tasks.length:=by rw[hty];exact hat
 simp only[go_sem,kK,f9,e9];have hw1:IntKind.i64.wrap ((a:Int)+1)=((a+1:Nat):Int):=by rw[aW (by omega)];rfl
 have hgo:(¬(aV p y (a:Int)).what=0 \/r=0)->cV p (121-(a+1)) (a+1) y r=eR p w s:=fun h=>by
  rw[<-hI];rcases h with h|rfl
  ·rw[show 121-a=(121-(a+1))+1 by omega,aD4 hb h]
  ·rw[pC,pC]
 rw[<-hd]at hgo
 by_cases h0:d.what=0
 case neg=>
  simp only[go_sem,kK,D_f h0,f4,f6,f8,f2,e4,e6,hw1,kF];exact⟨hat,_,_,_,y,r,rfl,by simp only[go_sem,f3],by simp only[go_sem,f4],by simp only[go_sem,f6],by simp only[go_sem],by simp only[go_sem,f2],by simp only[go_sem,e3],by simp only[go_sem,e4],by simp only[go_sem,e6],hg,hty,hr,hgo (.inl h0)⟩
 cases r with
 |zero=>
  simp only[go_sem,kK,D_t h0,f4,f6,f8,f2,e4,e6,hw1,kF];exact⟨hat,_,_,_,y,0,rfl,by simp only[go_sem,f3],by simp only[go_sem,f4],by simp only[go_sem,f6],by simp only[go_sem],by simp only[go_sem,f2],by simp only[go_sem,e3],by simp only[go_sem,e4],by simp only[go_sem,e6],hg,hty,hr,hgo (.inr rfl)⟩
 |succ r=>
  have hw2:IntKind.i64.wrap (((r+1:Nat):Int)-1)=(r:Int):=by rw[aW (by omega)];omega
  obtain⟨g1,g2,_⟩:=wG hg hb;rw[<-hd]at g1 g2;have ht:=(g2 h0).2.trans hty;simp only[go_sem,kK,D_t h0,f3,f4,f8,f2,f9,e3,e4,e9,hw2,show decide ((0:Int)<((r+1:Nat):Int))=true from D_t (by omega),(hS g1 ht).ret,kF]
  refine⟨(d.w,r),⟨_,_,_,_,_,cnt 0 9,rfl,rfl,rfl,by simp only[go_sem,f3],by simp only[go_sem,f4],by simp only[go_sem,f6],by simp only[go_sem,f8],by simp only[go_sem],by simp only[go_sem],by simp only[go_sem,e3],by simp only[go_sem],by simp only[go_sem,e6],by simp only[go_sem],g1,ht,(show r<=s by omega),?_⟩,Nat.lt_succ_self r⟩
  rw[<-hI,show 121-a=(120-a)+1 by omega,aD5 hb (by rw[<-hd];exact h0) (by rw[<-hd];exact(g2 h0).2),<-hd]
theorem aNn (hpf:p.few)(hsp:aR p=true)(hok:gY p l=true)(ht:t<l.picks.length)(hs:s<=9223372036854775807):
  PC L 24 [.agg p.cs,.agg l.cs,.i (t:Int),.i (s:Int)] (.tup [.agg (pG p l t s).1.cs,.i (pG p l t s).2]):=by
 have hA:=aDi hpf hsp hok (bRn ht);have hfm:=lV (nF hok).1;unfold pG;have hL:=at_ func24
 conv at hL=>rhs;reduce
 refine aI hL rfl rfl ?_
 simp only[go_sem,kK,hA.ret,kF]
 by_cases h1:(atX p l t).2=0
 case neg=>
  rw[if_neg h1];simp only[go_sem,kK,D_f h1,bP8];rfl
 rw[if_pos h1];have hg:=pB hok (bRn ht) h1;have hgw:=hg;simp only[bY,bPp]at hgw;have hT:=xH hfm hsp hgw.2 (gP l t);have hPk:gP l t=l.picks[t]:=rH ht;rw[hPk]at hT⊢;simp only[go_sem,D_t h1,bP3]
 refine aH ?_
 simp only[go_sem,kK,ht,hT.ret,evV,kA,kF]
 by_cases h2:(dL p (atX p l t).1 l.picks[t]).2.2=0
 case neg=>
  rw[if_neg h2];simp only[go_sem,kK,D_f h2,bP8];rfl
 rw[if_pos h2];have hp1:=aA4 hfm hpf hsp hg (s:=s) hs;obtain⟨e1,e2,e3,e4⟩:=aAr h2;have hgq:=jU 121 0 s hg;have hall:=tT 121 0 (atX p l t).1 s 0 e1;have hqd:cV p 121 0 (atX p l t).1 s=eR p (atX p l t).1 s:=rfl;rw[hqd]at hgq hall;generalize hq:eR p (atX p l t).1 s=q at*;simp only[go_sem,kK,D_t h2,bP3,hp1.ret,kF]
 by_cases hz:q.2=0
 case pos=>
  have hz':decide ((q.2:Int)=0)=true:=D_t (by omega)
  rw[if_pos hz];simp only[go_sem,kK,hz']
 have hz':decide ((q.2:Int)=0)=false:=D_f (by omega)
 rw[if_neg hz];have hqs:q.1=(bI p (atX p l t).1 0).1:=hall (by omega)
 obtain⟨t1,t2,t3⟩:=aH1 hg h2;rw[<-hqs]at t1 t2 t3 e2;have hgq':=hgq.1;simp only[bY,bPp]at hgq';have hR:=aUa hfm hsp (tS hgq'.2);simp only[go_sem,hz',hR.ret,kF];have hrl:0<(cH p q.1).length:=by
  refine bSj.2 fun h=>?_
  unfold dL at h2;simp only at h2;have hq1:(fQ p (atX p l t).1 l.picks[t]).2.2.2=5:=by
   unfold fQ;simp only;rw[if_neg (by rw[e1];decide),<-hqs,if_pos h]
  rw[if_pos hq1]at h2;exact absurd h2 (show¬(6:Int)=0 by decide)
 have hrs:(cH p q.1).length<=120:=by
  have hw:=cR.1 hgq'.2;have h1:=rE hw.2.2.2.2.1;have h2:(cH p q.1).length<=q.1.tasks.length:=by
   unfold cH fY;rw[bPr];exact bP2 (bS7 _ _) (by rw[List.length_range];exact bPq _)
  omega
 have hMo:=aO1 l.picks[t] (cH p q.1).length hrl (by omega)
 have hix:inR (l.picks[t]%((cH p q.1).length:Int)) 0 (((cH p q.1).length:Int)-1)=true:=by
  have:=Int.emod_nonneg l.picks[t] (b:=((cH p q.1).length:Int)) (by omega)
  have:=Int.emod_lt_of_pos l.picks[t] (b:=((cH p q.1).length:Int)) (by omega)
  simp only[inR,bTe];omega
 have hia: ∀en:En,oU 1 en (.is (cH p q.1)) (.i (l.picks[t]%((cH p q.1).length:Int)))=some {v:= .fp [.i (fS p q.1 l.picks[t])] 0}:=fun en=>vB hix
 have hSt:=aDe hfm hsp (tS hgq'.2) e2;have hp2:=aA4 hfm hpf hsp t3 (s:=q.2-1) (by omega)
 have hgr:=jU 121 0 (q.2-1) t3;have hrd:cV p 121 0 (aV p q.1 (fS p q.1 l.picks[t])).w (q.2-1)=eR p (aV p q.1 (fS p q.1 l.picks[t])).w (q.2-1):=rfl;rw[hrd]at hgr;have hw1:IntKind.i64.wrap ((q.2:Int)-1)=((q.2-1:Nat):Int):=by rw[show(q.2:Int)-1=((q.2-1:Nat):Int)by omega];exact aW (by omega)
 refine aH ?_
 simp only[go_sem,ht,bPr,hMo.ret,hia,hSt.ret,aHw,aDf,kA,kF];simp only[go_sem,kK,hw1,hp2.ret];generalize hr:eR p (aV p q.1 (fS p q.1 l.picks[t])).w (q.2-1)=r at*
 by_cases hy:r.2=0
 ·have hy':decide ((0:Int)<(r.2:Int))=false:=D_f (by omega)
  rw[if_pos hy];simp only[go_sem,hy']
 ·have hy':decide ((0:Int)<(r.2:Int))=true:=D_t (by omega)
  rw[if_neg hy];simp only[go_sem,kK,hy'];rfl
theorem aEv (h:aR p=true):p.cons.length<=1000:=by
 simp only[aR,bPp,bTe]at h;omega
theorem bGk {a b:iD}:a=b↔a.task=b.task/\ a.act=b.act/\ a.n=b.n/\ a.v.kind=b.v.kind/\ a.v.n=b.v.n:=by
 obtain⟨_,_,_,⟨_,_⟩⟩:=a;obtain⟨_,_,_,⟨_,_⟩⟩:=b;simp
instance : DecidableEq iD:=fun _ _=>decidable_of_iff _ bGk.symm
theorem aXu {a b:iD}:dA .neq (.agg [.num,.num,.num,.num,.num]) (.agg [.i a.task,.i a.act,.i a.n,.i a.v.kind,.i a.v.n]) (.agg [.i b.task,.i b.act,.i b.n,.i b.v.kind,.i b.v.n])=
  some (.bool (!decide (a=b))):=by
 have e0:decide (a=b)=(decide (a.task=b.task)&&(decide (a.act=b.act)&&(decide (a.n=b.n)&&(decide (a.v.kind=b.v.kind)&&decide (a.v.n=b.v.n))))):=by
  rw[bRd];simp only[bTe,bPp];exact bGk
 rw[e0];simp only[dA,oS,bPy,bP7,and_self,if_true,jG,xJ];have e: ∀x y:Int,(x==y)=decide (x=y):=fun x y=>by by_cases h:x=y<;>simp[h]
 simp only[e]
 by_cases h1:a.task=b.task<;>by_cases h2:a.act=b.act<;>by_cases h3:a.n=b.n<;>by_cases h4:a.v.kind=b.v.kind<;>by_cases h5:a.v.n=b.v.n<;>simp[h1,h2,h3,h4,h5]
theorem bGl {l:List iD}{k:Nat}(h:k<l.length):oU 5 en (.fz (l.map evV)) (.i (k:Int))=some {v:= .fp [.i l[k].task,.i l[k].act,.i l[k].n,.i l[k].v.kind,.i l[k].v.n] 0}:=by
 simp[oU,h,evV];exact⟨rfl,rfl⟩
theorem aNo {a b:List iD}(ha:a.length<=1000):PC L 22 [.fz (a.map evV),.fz (b.map evV)] (.bool (decide (a=b))):=by
 refine aI bN6 rfl rfl ?_
 by_cases hl:a.length=b.length
 case neg=>
  rw[D_f (fun h:a=b=>hl (by rw[h]))]
  simp only[go_sem,kK,bHr,bPr,D_f hl,bP8,kF]
 simp only[go_sem,kK,bHr,bPr,D_t hl,bP3,kF]
 refine bQ a.length (fun k st=> ∃fr en cnt,st=⟨fr,en,cnt⟩/\ fr 0= .fz (a.map evV)/\ fr 1= .fz (b.map evV)/\ fr 5= .i (k:Int)/\ decide (a.drop k=b.drop k)=decide (a=b)) 0 (bPx _) ⟨_,_,_,rfl,by simp only[go_sem],by simp only[go_sem],by simp only[go_sem],rfl⟩ ?_
 rintro k st hk ⟨fr,en,cnt,rfl,f0,f1,f5,hI⟩
 simp only[go_sem,kK,f0,f5,bPr]
 refine aG (fun hq=>?_) (fun hq=>?_)
 ·have h':k<a.length:=D_o hq;have h'':k<b.length:=by omega
  have hst:decide (a.drop k=b.drop k)=(decide (a[k]=b[k])&&decide (a.drop (k+1)=b.drop (k+1))):=by
   rw[bQu h',bQu h'',bRd];simp only[bTe,bPp,List.cons.injEq]
  rw[<-hI,hst];simp only[go_sem,kK,f0,f1,f5,bGl h',bGl h'',aXu];cases hb:decide (a[k]=b[k])with
  |false=>simp only[go_sem,kK,bP8,bQq]
  |true=>
   simp only[go_sem,bP3,bQn,f5,h',aT h' (by unfold Few;omega)]
   exact⟨_,_,_,rfl,by simp only[go_sem,f0],by simp only[go_sem,f1],by simp only[go_sem]⟩
 ·have:k=a.length:=by simp at hq;omega
  subst this;rw[<-hI,bRf,show b.drop a.length=[]from List.drop_of_length_le (by omega)]
  simp only[go_sem]
theorem aCo :kD.few:=⟨bPx _,bPx _,bPx _,bPx _,fun o ho=>by cases ho⟩
theorem bIf (hsp:aR p=true)(hok:gY p l=true)(hn:n<=l.picks.length):(atX p l n).1.few:=by
 by_cases h:(atX p l n).2=0
 ·exact jT hsp (pB hok hn h)
 ·rw[aRe h];exact aCo
theorem aM2 {p:aF}{l:bP}: ∀(k t:Nat),(jX p l t k).1.length<=k
 |0,_=>bPq _
 |k+1,t=>by
  rw[jX];split
  ·split
   ·exact Nat.succ_le_succ (aM2 k (t+1))
   ·exact bPx _
  ·exact bPx _
theorem aWs (hsp:aR p=true)(hok:gY p l=true)(ht:t<l.picks.length)(s:Nat):(pG p l t s).1.few:=by
 unfold pG;split
 ·rename_i h1;have hg:=pB hok (bRn ht) h1;split
  ·rename_i h2;have hgq:=(jU 121 0 s hg).1;have hqd:cV p 121 0 (atX p l t).1 s=eR p (atX p l t).1 s:=rfl;have hall:=tT 121 0 (atX p l t).1 s 0 (aAr h2).1;rw[hqd]at hgq hall
   simp only
   split
   ·exact jT hsp hgq
   ·rename_i hz;have t3:=(aH1 hg h2).2.2;have hqs:(eR p (atX p l t).1 s).1=(bI p (atX p l t).1 0).1:=hall (by omega)
    rw[<-hqs]at t3;split
    ·exact jT hsp (jU 121 0 _ t3).1
    ·exact aCo
  ·exact aCo
 ·exact aCo
theorem bFe :PC L 18 [.agg kD.cs] (.bool true):=aUs aCo
theorem aG1 (hk:PC L 10 [] (.bool true))(hpf:p.few)(hlf:l.few)(n to:Int)(hto:to<=9223372036854775807):PC L 4 [.agg p.cs,.agg l.cs,.i n,.i to] (.bool true):=by
 have hS:=aG0 hpf hlf;have hLz:=at_ func4
 conv at hLz=>rhs;reduce
 refine aI hLz rfl rfl ?_
 cases hsm:(aR p&&oQ l)with
 |false=>
  rw[hsm]at hS;simp only[go_sem,kK,hS.ret,hk.ret,bP8,kF]
 |true=>
 rw[hsm]at hS;rw[bPp]at hsm;have hsp:=hsm.1;have hA:=aWn hpf hlf hsp n;have hE:=aMu hpf hlf hsp n to;have hI:=aM0 hpf hlf hsp n to hto;have hL:=aM1 hpf hlf (aEv hsp);have hTn:=aAt l n;have hZ:=bFe;simp only[kD,aA.cs,Val.is,bP1]at hZ;have hbad:(¬gY p l=true \/ ¬inR n 0 l.picks.length=true)->atR p l n=(kD,0,2)/\ xG p l n to=([],2)/\ aAs p l n to=(kD,2):=fun h=>by
  have hx: ¬(gY p l=true/\ 0<=n/\ n<=(l.picks.length:Int)):=fun h'=>h.elim (fun h=>h h'.1) (fun h=>h (by simp only[inR,bTe];exact h'.2))
  exact⟨if_neg hx,if_neg fun h'=>hx ⟨h'.1,h'.2.1,by omega⟩,if_neg fun h'=>hx ⟨h'.1,h'.2.1,by omega⟩⟩
 by_cases hok:gY p l=true
 case neg=>
  rw[show gY p l=false by simpa using hok]at hL
  obtain⟨b1,b2,b3⟩:=hbad (.inl hok);rw[b1]at hA;rw[b2]at hE;rw[b3]at hI;simp only[kD,aA.cs,Val.is,bP1]at hA hE hI;simp only[go_sem,kK,hS.ret,hA.ret,hE.ret,hI.ret,hL.ret,hZ.ret,hk.ret,bP3,bP8,decide_true,kF]
 rw[hok]at hL
 by_cases hn:inR n 0 l.picks.length=true
 case neg=>
  rw[show inR n 0 l.picks.length=false by simpa using hn]at hTn
  obtain⟨b1,b2,b3⟩:=hbad (.inr hn);rw[b1]at hA;rw[b2]at hE;rw[b3]at hI;simp only[kD,aA.cs,Val.is,bP1]at hA hE hI;simp only[go_sem,kK,hS.ret,hA.ret,hE.ret,hI.ret,hL.ret,hTn.ret,hZ.ret,hk.ret,bP3,bP8,decide_true,kF]
 rw[hn]at hTn;have hn':0<=n/\ n<=(l.picks.length:Int):=by simp only[inR,bTe]at hn;exact hn
 obtain⟨m,rfl⟩:=bQv hn'.1;have hm:m<=l.picks.length:=by omega
 have hl:=nQ.of hok;have hR:=aDi hpf hsp hok hm;have hfew:=bIf hsp hok hm;have hae:atR p l m=((atX p l m).1,if(atX p l m).2=0 then(m:Int)%(aL l:Int)else 0,(atX p l m).2):=by
  have:atR p l m=if(atX p l m).2=0 then((atX p l m).1,(m:Int)%(aL l:Int),0)else(kD,0,(atX p l m).2):=if_pos ⟨hok,hn'⟩
  rw[this]
  by_cases h:(atX p l m).2=0
  ·rw[if_pos h,if_pos h,h]
  ·rw[if_neg h,if_neg h,aRe h]
 rw[hae]at hA;have hSm:=wV (atX p l m).1 (atX p l m).1 hfew;have hTm:(m:Int).tmod l.every=(m:Int)%(aL l:Int):=by rw[hl.ev];exact bTc hn'.1
 have hne: ¬l.every=0:=by have:=hl.e1;have:=hl.ev;omega
 simp only[decide_true]at hSm;simp only[go_sem,kK,hS.ret,hA.ret,hE.ret,hI.ret,hL.ret,hTn.ret,hR.ret,hSm.ret,bP3,decide_true,kF];have hTt:=aAt l to;have hTu:=aUr l hlf (m:Int)
 by_cases h0:(atX p l m).2=0
 case' pos=>
  rw[if_pos h0];simp only[go_sem,kK,D_t h0,hTm,hne,bP3,decide_true,kF]
 case' neg=>
  rw[if_neg h0];simp only[go_sem,kK,D_f h0,bP3,bP8,decide_true,kF]
 all_goals
  have hcs:((m:Int)<=to/\ to<=(l.picks.length:Int)) \/to<(m:Int) \/((m:Int)<=to/\ (l.picks.length:Int)<to):=by omega
  rcases hcs with ht|ht|ht
  case' inl=>
   obtain⟨b,hb⟩:=bQv (Int.le_trans hn'.1 ht.1);have hEv:=aNm hpf hsp hok (a:=m) (b:=b) (by omega) (by omega)
   have hSE:=aNo (a:=(jX p l m (b-m)).1) (b:=(jX p l m (b-m)).1) (by have:=aM2 (p:=p) (l:=l) (b-m) m;have:=hl.pk;omega)
   simp only[decide_true]at hSE;rw[<-hb]at hEv;rw[show inR to 0 l.picks.length=true by simp only[inR,bTe];omega]at hTt
   rw[show xG p l m to=jX p l m (b-m)by unfold xG;rw[if_pos ⟨hok,hn'.1,ht⟩,hb];rfl]
   simp only[go_sem,kK,D_f (show¬to<(m:Int)by omega),hTt.ret,hEv.ret,hSE.ret,bP3,decide_true,kF]
  case' inr.inl=>
   rw[show xG p l m to=([],2)from if_neg (fun h=>by omega)]
   simp only[go_sem,kK,D_t ht,bP1,bP7,bP3,decide_true,kF]
  case' inr.inr=>
   rw[show inR to 0 l.picks.length=false by simp only[inR,bTf];omega]at hTt
   rw[show xG p l m to=([],2)from if_neg (fun h=>by omega)]
   simp only[go_sem,kK,D_f (show¬to<(m:Int)by omega),hTt.ret,bP1,bP7,bP3,bP8,decide_true,kF]
 all_goals
  have hcu:(m<l.picks.length/\ 0<=to) \/ ¬m<l.picks.length \/(m<l.picks.length/\ to<0):=by omega
  rcases hcu with hu|hu|hu
  ·obtain⟨b,rfl⟩:=bQv hu.2;have hIn:=aNn hpf hsp hok hu.1 (s:=b) (by omega)
   have hIe:aAs p l m b=pG p l m b:=if_pos ⟨hok,hn'.1,by omega,hu.2⟩
   have hIf:=aWs hsp hok hu.1 b;rw[hIe];have hS2:=wV (pG p l m b).1 (pG p l m b).1 hIf;simp only[decide_true]at hS2;rw[show inR (m:Int) 0 ((l.picks.length:Int)-1)=true by simp only[inR,bTe];omega]at hTu
   simp only[go_sem,kK,hTu.ret,D_f (show¬(b:Int)<0 by omega),hIn.ret,hS2.ret,hk.ret,bP3,decide_true,kF]
  ·rw[show aAs p l m to=(kD,2)from if_neg (fun h=>hu (by omega))]
   rw[show inR (m:Int) 0 ((l.picks.length:Int)-1)=false by simp only[inR,bTf];omega]at hTu
   simp only[go_sem,kK,hTu.ret,kD,aA.cs,Val.is,bP1,hZ.ret,hk.ret,bP8,decide_true,kF]
  ·rw[show aAs p l m to=(kD,2)from if_neg (fun h=>by omega)]
   rw[show inR (m:Int) 0 ((l.picks.length:Int)-1)=true by simp only[inR,bTe];omega]at hTu
   simp only[go_sem,kK,hTu.ret,D_t hu.2,kD,aA.cs,Val.is,bP1,hZ.ret,hk.ret,bP3,decide_true,kF]
end Go.Proofs.YtmnchlhngpdffaaGreat

