/- Contracts of functions of the program and of the document: part 5. -/
import Derived.Test.YthpmfghgoabnhaaGreatM4
import Derived.Test.YthpmfghgoabnhaaGreatM1
import Derived.Carry
set_option linter.all false
open Bool renaming and_eq_true → bVc, false_eq_true → bVd, not_eq_true → bWi, or_true → bVi, true_or → bVj
open Int renaming natCast_nonneg → bX1, toNat_natCast → bV3
open List renaming all_cons → bVf, all_eq_true → bVo, filter_append → bXv, getD_eq_getElem?_getD → bVm, getElem?_cons_succ → bVh, getElem?_cons_zero → bVg, getElem_mem → bVp, length_append → bV7, length_cons → bVu, length_drop → bXf, length_map → bVk, length_nil → bWa, length_pos_iff → bX6, length_set → bXt, length_singleton → bXw, length_take → bXc, map_append → bVx, map_cons → bV9, map_nil → bVv, map_set → bW0, map_take → bXh, mem_cons → bWe, mem_of_mem_take → bXp, range_succ → bWr, take_of_length_le → bVw
open Nat renaming add_assoc → bW2, add_mul → bWm, add_zero → bWu, le_refl → bVe, le_trans → bWd, lt_of_lt_of_le → bWg, zero_add → bWb, zero_le → bVn
open Option renaming isSome_none → bXg, isSome_some → bXd
namespace Go.Proofs.YthpmfghgoabnhaaGreat
open Go.Abs Go.Proofs
variable {p :aQ}{w0 w:aC}{S:Nat->Prop}{a:Int}{left:List aB}
theorem cC {f:aB}(hf:FOk p S w f):inR f.node 0 ((p.nodes.length:Int)-1)=true:=by
 have:=hf.ok;simp only[bD,bVc]at this;exact this.1.1
theorem aPg {k:Nat}:qA p left (k+1)=if(p.node (left.getD k default).node).op=26 then k+1 else qA p left k:=rfl
set_option maxHeartbeats 1600000 in
theorem aPh (h:bQ p w0 S w)(ha:inR a 0 ((w.tasks.length:Int)-1)=true)(hl:LOk p S w left){kid:Int}{env:List aG}(he:env.length<=30):
  PC L 163 [.agg [.fz (p.nodes.map aJ.enc),.fz (p.funs.map (.int .i64)),.int .i64 p.main,.fz (p.cons.map bC.enc)],.agg [.fz (w.objs.map aI.enc),.fz (w.tasks.map (.int .i64)),.fz (w.outs.map aO.enc),.fz (w.ins.map (.int .i64)),.int .i64 w.used],.int .i64 a,.fz (left.map aB.enc),.int .i64 kid,.fz (env.map aG.enc)] (.agg [.fz ((eF p w a left kid env).w.objs.map aI.enc),.fz ((eF p w a left kid env).w.tasks.map (.int .i64)),.fz ((eF p w a left kid env).w.outs.map aO.enc),.fz ((eF p w a left kid env).w.ins.map (.int .i64)),.int .i64 (eF p w a left kid env).w.used,.int .i64 (eF p w a left kid env).what,.int .i64 (eF p w a left kid env).e.task,.int .i64 (eF p w a left kid env).e.act,.int .i64 (eF p w a left kid env).e.n,.int .i64 (eF p w a left kid env).e.v.kind,.int .i64 (eF p w a left kid env).e.v.n]):=by
 have hfit:=dI h ha;have hF3:=eH w a 3 hfit;have hF4:=eH w a 4 hfit;have hlen:=hl.len;have hwl:IntKind.i64.wrap ((left.length:Int)-1)=(left.length:Int)-1:=bM (by omega)
 refine aL bIg rfl rfl ?_
 simp only[go_sem,qC,qG,qW,aQ3,hwl]
 refine Go.Abs.wp_loop (fun(k:Nat) st=> ∃fr en cnt,st=⟨fr,en,cnt⟩/\ fr 2= .int .i64 a/\ fr 3= .fz (left.map aB.enc)/\ fr 4= .int .i64 kid/\ fr 5= .fz (env.map aG.enc)/\ fr 6= .ptr ⟨0,6,0⟩ 0/\ en ⟨0,6,0⟩=some (.box [.fz (p.nodes.map aJ.enc),.fz (p.funs.map (.int .i64)),.int .i64 p.main,.fz (p.cons.map bC.enc)] false)/\ fr 7= .ptr ⟨0,7,0⟩ 0/\ en ⟨0,7,0⟩=some (.box [.fz (w.objs.map aI.enc),.fz (w.tasks.map (.int .i64)),.fz (w.outs.map aO.enc),.fz (w.ins.map (.int .i64)),.int .i64 w.used] false)/\ fr 12= .ptr ⟨0,12,0⟩ 0/\ en ⟨0,12,0⟩=some (.box [.cl [],.cl [],.cl [],.cl [],.int .i64 0,.int .i64 0,.int .i64 0,.int .i64 0,.int .i64 0,.int .i64 0,.int .i64 0] false)/\ fr 13= .int .i64 ((k:Int)-1)/\ (cnt 0 7=1/\ cnt 0 12=1/\ cnt 0 14=0)/\ k<=left.length/\ qA p left k=qA p left left.length) (fun k=>k) left.length ⟨_,_,_,rfl,by simp only[go_sem,qW],by simp only[go_sem,qW],by simp only[go_sem,qW],by simp only[go_sem,qW],by simp only[go_sem,qW],by simp only[go_sem,qW],by simp only[go_sem,qW],by simp only[go_sem,qW],by simp only[go_sem,qW],by simp only[go_sem,qW],by simp only[go_sem,qW],by simp[aP],bVe _,rfl⟩ ?_
 rintro k st ⟨fr,en,cnt,rfl,k2,k3,k4,k5,k6,e6,k7,e7,k12,e12,k13,kc,hk,hR⟩
 cases k with
 |zero=>
  have k13':fr 13= .int .i64 (-1):=by simpa using k13
  have e:eF p w a left kid env=bG w a 3:=by unfold eF;rw[<-hR];rfl
  rw[e];simp only[go_sem,qC,qG,qW,k2,k3,k4,k5,k6,e6,k7,e7,k12,e12,k13',hF3.ret]
 |succ k=>
  have k13':fr 13= .int .i64 (k:Int):=by rw[k13];congr 1;omega
  have h':k<left.length:=by omega
  have d0:decide ((0:Int)<=(k:Int))=true:=decide_eq_true (by omega)
  have hfk:=hl.ok _ (bVp h');have hgd:left.getD k default=left[k]:=by simp[bVm,h']
  have hwk:IntKind.i64.wrap ((k:Int)-1)=(k:Int)-1:=bM (by omega)
  rw[aPg,hgd]at hR
  by_cases h26:(p.node left[k].node).op=26
  ·rw[if_pos h26]at hR;have d26:decide ((p.node left[k].node).op=26)=true:=decide_eq_true h26;have dneg:decide ((k:Int)<0)=false:=decide_eq_false (by omega)
   by_cases h120:120<=w.objs.length
   ·have d120:decide ((120:Int)<=(w.objs.length:Int))=true:=decide_eq_true (by omega)
    have e:eF p w a left kid env=bG w a 4:=by unfold eF;rw[<-hR];simp only;rw[if_pos h120]
    rw[e];simp only[go_sem,qC,qG,qW,k2,k3,k4,k5,k6,e6,k7,e7,k12,e12,k13',h',d0,bK (cC hfk),d26,dneg,d120,hF4.ret]
   ·have d120:decide ((120:Int)<=(w.objs.length:Int))=false:=decide_eq_false (by omega)
    have hat:=hfit.at_;have hrng:=hfit.rng;simp only[inR,bYb]at hat hrng;have hK:Fit (gZ w ⟨5,0,[],left.drop k⟩) a:=aTq hfit (by omega)
    have hN:=xW (gZ w ⟨5,0,[],left.drop k⟩) a (left.take (k+1)) kid (env++[nA w.objs.length]) hK (by simp only[bXc];omega)
    have hM:=aA9 env (nA w.objs.length) (by omega)
    have hF:=eH w a (fB (gZ w ⟨5,0,[],left.drop k⟩) a (left.take (k+1)) kid (env++[nA w.objs.length])).e.n hfit;have e:eF p w a left kid env=if(fB (gZ w ⟨5,0,[],left.drop k⟩) a (left.take (k+1)) kid (env++[nA w.objs.length])).what=1 then bG w a (fB (gZ w ⟨5,0,[],left.drop k⟩) a (left.take (k+1)) kid (env++[nA w.objs.length])).e.n else fB (gZ w ⟨5,0,[],left.drop k⟩) a (left.take (k+1)) kid (env++[nA w.objs.length]):=by
     unfold eF;rw[<-hR];simp only;rw[if_neg h120]
    rw[e];generalize hD:fB (gZ w ⟨5,0,[],left.drop k⟩) a (left.take (k+1)) kid (env++[nA w.objs.length])=D at hN hF⊢;rw[show((gZ w ⟨5,0,[],left.drop k⟩).objs.map aI.enc)=w.objs.map aI.enc++[aI.enc ⟨5,0,[],left.drop k⟩]from by simp[gZ]]at hN
    simp only[gZ,bVv,aI.enc]at hN;have hde:(left.drop k).isEmpty=false:=aF6 (by simp only[bXf];omega)
    have hdl:(left.drop k).length<=16777216:=by simp only[bXf];omega
    have hkl:k<=left.length:=by omega
    have hkl1:k+1<=left.length:=by omega
    have hol:w.objs.length+1<=16777216:=by omega
    have hwr:IntKind.i64.wrap (((w.objs.length+1:Nat):Int)-1)=(w.objs.length:Int):=by rw[bM (by omega)];omega
    have hwk1:IntKind.i64.wrap ((k:Int)+1)=((k+1:Nat):Int):=by rw[bM (by omega)];omega
    obtain⟨c7,c12,c14⟩:=kc;simp only[go_sem,qC,qG,qW,k2,k3,k4,k5,k6,e6,k7,e7,k12,e12,k13',h',d0,bK (cC hfk),d26,dneg,d120,c14]
    refine(aBb w (by omega) (by omega) hfit.len (wZ _ _ w)).mono ?_
    rintro x en1 cnt1 ⟨⟨g5,g8,vU,vI,rfl,e5,l5,m5,e8,l8,m8,mU,mI⟩,old,up⟩
    have q7:=old 7 0 (by simp[aP];omega)
    have q12:=old 12 0 (by simp[aP];omega)
    have q14:=old 14 0 (by simp[aP])
    try simp only[go_sem,qW,e7,e12]at q7 q12 q14
    have eU:=True.intro;have eI:=True.intro;have t2:((w.tasks.map (Val.int .i64)).take w.tasks.length)=w.tasks.map (.int .i64):=bVw (by simp)
    have t3:((w.outs.map aO.enc).take w.outs.length)=w.outs.map aO.enc:=bVw (by simp)
    have t4:((w.ins.map (Val.int .i64)).take w.ins.length)=w.ins.map (.int .i64):=bVw (by simp)
    obtain⟨g15,hg15⟩: ∃g,g=cnt1 0 15:=⟨_,rfl⟩
    simp only[go_sem,qC,qG,qW,k2,k3,k4,k5,k7,k12,k13',q7,q12,q14]
    refine aN ?_
    simp only[go_sem,qC,qG,qW,k2,k3,k4,k5,k7,k12,k13',q7,q12,q14,e5,aEw,nJ,hkl,<-List.map_drop,cW,gQ,gV,uP,lP,fG,hde,hdl,hol,bCr,bVk,bVe,bVw,dA,bO,bVf,bVg,bVh,bVj,bVi,bVd,if_false];have n14: ∀{g:Nat},g<cnt1 0 14->True:=fun _=>trivial
    by_cases hw:D.what=1
    ·have dw:decide (D.what=1)=true:=decide_eq_true hw;rw[if_pos hw];rcases mU with⟨rfl,hu⟩|⟨gU,rfl,eU,lU,hu⟩<;>rcases mI with⟨rfl,hi⟩|⟨gI,rfl,eI,lI,hi⟩
     all_goals
      try rw[hu]at hN
      try rw[hi]at hN
      have nI:=True.intro
      try(have nI: ¬0=gI:=by(rintro rfl;rw[q14]at eI;cases eI))
      refine aN ?_
      simp only[go_sem,qC,qG,qW,k2,k3,k4,k5,k7,k12,k13',q7,q12,q14,nI,e5,e8,eU,eI,t2,t3,t4,qQ,hkl1,hwk1,<-bXh,bVk,bV7,bXw,bVe,bVw,dA,bO,cX,bP,hwr,(aCd _).ret,hM.ret,hN.ret,<-hg15,bVf,bVg,bVh,bVj,bVi,bVd,if_false];simp only[go_sem,qC,qG,qW,k2,k3,k4,k5,k7,k12,k13',q7,q12,q14,nI,dw,hF.ret]
    ·have dw:decide (D.what=1)=false:=decide_eq_false hw;rw[if_neg hw];rcases mU with⟨rfl,hu⟩|⟨gU,rfl,eU,lU,hu⟩<;>rcases mI with⟨rfl,hi⟩|⟨gI,rfl,eI,lI,hi⟩
     all_goals
      try rw[hu]at hN
      try rw[hi]at hN
      have nI:=True.intro
      try(have nI: ¬0=gI:=by(rintro rfl;rw[q14]at eI;cases eI))
      refine aN ?_
      simp only[go_sem,qC,qG,qW,k2,k3,k4,k5,k7,k12,k13',q7,q12,q14,nI,e5,e8,eU,eI,t2,t3,t4,qQ,hkl1,hwk1,<-bXh,bVk,bV7,bXw,bVe,bVw,dA,bO,cX,bP,hwr,(aCd _).ret,hM.ret,hN.ret,<-hg15,bVf,bVg,bVh,bVj,bVi,bVd,if_false];simp only[go_sem,qC,qG,qW,k2,k3,k4,k5,k7,k12,k13',q7,q12,q14,nI,dw]
  ·rw[if_neg h26]at hR;have d26:decide ((p.node left[k].node).op=26)=false:=decide_eq_false h26;simp only[go_sem,qC,qG,qW,k2,k3,k4,k5,k6,e6,k7,e7,k12,e12,k13',h',d0,bK (cC hfk),d26,hwk]
   refine⟨k,⟨_,_,_,rfl,?_⟩,Nat.lt_succ_self _⟩
   simp only[go_sem,qC,qG,qW,k2,k3,k4,k5,k6,e6,k7,e7,k12,e12];exact⟨kc,by omega,hR⟩
structure bEu (p:aQ) (w:aC) (a:Int) (left:List aB) (f:aG) (fr:Nat->Val) (en:En) (cnt:Nat->Nat->Nat) (o:aI) (oa ob:Val):Prop where
 form:o.form=6
 n:o.n=0
 pa:yP oa (.fz (o.vals.map aG.enc))
 pb:yP ob (.fz (o.frames.map aB.enc))
 is:dR p w a left f=yO w a left o
 k2:fr 2= .int .i64 a
 k3:fr 3= .fz (left.map aB.enc)
 k6:fr 6= .ptr ⟨0,6,0⟩ 0
 e6:en ⟨0,6,0⟩=some (.box [.fz (w.objs.map aI.enc),.fz (w.tasks.map (.int .i64)),.fz (w.outs.map aO.enc),.fz (w.ins.map (.int .i64)),.int .i64 w.used] false)
 k10:fr 10= .ptr ⟨0,10,0⟩ 0
 e10:en ⟨0,10,0⟩=some (.box [.cl [],.cl [],.cl [],.cl [],.int .i64 0,.int .i64 0,.int .i64 0,.int .i64 0,.int .i64 0,.int .i64 0,.int .i64 0] false)
 k11:fr 11= .ptr ⟨0,11,0⟩ 0
 e11:en ⟨0,11,0⟩=some (.box [.int .i64 6,.int .i64 0,oa,ob] false)
 c6:cnt 0 6=1
 c10:cnt 0 10=1
def bBr (p:aQ)(w:aC)(a:Int)(left:List aB)(f:aG)(st:St):Prop:= ∃o oa ob,bEu p w a left f st.fr st.en st.cnt o oa ob
set_option maxHeartbeats 1600000 in
theorem aPi (hp:cF p)(h:bQ p w0 S w)(ha:inR a 0 ((w.tasks.length:Int)-1)=true){f:aG}(hf:VOk p S w f):
  PC L 165 [.agg [.fz (p.nodes.map aJ.enc),.fz (p.funs.map (.int .i64)),.int .i64 p.main,.fz (p.cons.map bC.enc)],.agg [.fz (w.objs.map aI.enc),.fz (w.tasks.map (.int .i64)),.fz (w.outs.map aO.enc),.fz (w.ins.map (.int .i64)),.int .i64 w.used],.int .i64 a,.fz (left.map aB.enc),.agg [.int .i64 f.kind,.int .i64 f.n]] (.agg [.fz ((dR p w a left f).w.objs.map aI.enc),.fz ((dR p w a left f).w.tasks.map (.int .i64)),.fz ((dR p w a left f).w.outs.map aO.enc),.fz ((dR p w a left f).w.ins.map (.int .i64)),.int .i64 (dR p w a left f).w.used,.int .i64 (dR p w a left f).what,.int .i64 (dR p w a left f).e.task,.int .i64 (dR p w a left f).e.act,.int .i64 (dR p w a left f).e.n,.int .i64 (dR p w a left f).e.v.kind,.int .i64 (dR p w a left f).e.v.n]):=by
 have hfit:=dI h ha;have hO:=nB w f 5 (uQ hf);have hF4:=eH w a 4 hfit;have hF2:=eH w a 2 hfit;have hB:=aNc hp h hf (oD (p:=p) (S:=S) (w:=w))
 refine aL bIh rfl rfl ?_
 simp only[go_sem,zF,Go.Abs.start,qC,qG,aQ4]
 refine xN (bBr p w a left f) ?_ ?_
 ·by_cases h5:kA w f 5=true
  ·rw[rF,if_pos h5,h5]at hO;simp only[go_sem,qC,qG,qW,hO.ret]
   refine aN ?_
   simp only[go_sem,qC,qG,qW,iM.ret,cX,bP,bVf,bVg,bVh,bVj,bVi,bVd,if_false];exact⟨⟨6,0,[eD],(w.obj f.n).frames⟩,.cl [.agg [.int .i64 eD.kind,.int .i64 eD.n]],.fz ((w.obj f.n).frames.map aB.enc),⟨rfl,rfl,aBc _,pK _,by unfold dR;rw[if_pos h5],by simp only[go_sem,qW],by simp only[go_sem,qW],by simp only[go_sem,qW],by simp only[go_sem,qW],by simp only[go_sem,qW],by simp only[go_sem,qW],by simp only[go_sem,qW],by simp only[go_sem,qW],by simp[aP],by simp[aP]⟩⟩
  ·rw[bWi]at h5;rw[h5]at hO;cases hb:oA p w f eD with
   |none=>
    have e:dR p w a left f=bG w a 2:=by unfold dR;rw[if_neg (by rw[h5];decide),hb]
    rw[hb]at hB;rw[e];simp only[go_sem,qC,qG,qW,hO.ret]
    refine aN ?_
    simp only[go_sem,qC,qG,qW,iM.ret,hB.ret,bXg,bVf,bVg,bVh,bVj,bVi,bVd,if_false];simp only[go_sem,qC,qG,qW,hF2.ret]
   |some b=>
    have hv:sM p w f eD=b:=by rw[sM,hb];rfl
    rw[hb,hv]at hB;obtain⟨b1,b2,b3⟩:=zQ hp h hf oD hb
    by_cases h30:30<b.env.length
    ·have d30:decide ((30:Int)<(b.env.length:Int))=true:=decide_eq_true (by omega)
     have e:dR p w a left f=bG w a 4:=by unfold dR;rw[if_neg (by rw[h5];decide),hb];simp only;rw[if_pos h30]
     rw[e];simp only[go_sem,qC,qG,qW,hO.ret]
     refine aN ?_
     simp only[go_sem,qC,qG,qW,iM.ret,hB.ret,bXd,bVf,bVg,bVh,bVj,bVi,bVd,if_false];simp only[go_sem,qC,qG,qW,d30,hF4.ret]
    ·have d30:decide ((30:Int)<(b.env.length:Int))=false:=decide_eq_false (by omega)
     have e:dR p w a left f=yO w a left ⟨6,0,[],[b]⟩:=by unfold dR;rw[if_neg (by rw[h5];decide),hb];simp only;rw[if_neg h30]
     simp only[go_sem,qC,qG,qW,hO.ret]
     refine aN ?_
     simp only[go_sem,qC,qG,qW,iM.ret,hB.ret,bXd,bVf,bVg,bVh,bVj,bVi,bVd,if_false];simp only[go_sem,qC,qG,qW,d30,cX,bP];exact⟨⟨6,0,[],[b]⟩,.cl [],.cl [.agg [.int .i64 b.node,.fz (b.env.map aG.enc),.fz (b.vals.map aG.enc)]],⟨rfl,rfl,aBc _,aBc _,e,by simp only[go_sem,qW],by simp only[go_sem,qW],by simp only[go_sem,qW],by simp only[go_sem,qW],by simp only[go_sem,qW],by simp only[go_sem,qW],by simp only[go_sem,qW],by simp only[go_sem,qW],by simp[aP],by simp[aP]⟩⟩
 ·rintro fr en cnt ⟨o,oa,ob,hs⟩
  obtain⟨of_,on,pa,pb,is,k2,k3,k6,e6,k10,e10,k11,e11,c6,c10⟩:=hs;dsimp only at k2 k3 k6 e6 k10 e10 k11 e11 c6 c10;have hF:=aNd w a left o (pK _) pa pb hfit (en:=en) (cnt:=cnt);rw[of_,on]at hF;rw[is];simp only[go_sem,qC,qG,qW,k2,k3,k6,e6,k11,e11]
  refine hF.mono ?_
  rintro x en1 cnt1 (⟨h120,rfl,old,up⟩|⟨h120,hO1⟩)
  ·have q10:=old 10 0 (by omega)
   rw[e10]at q10;obtain⟨g16,hg16⟩: ∃g,g=cnt1 0 16:=⟨_,rfl⟩
   have e:yO w a left o=dC (bG w a 4) a 19 0 eD:=by
    unfold yO gP;simp only[if_pos h120];rw[if_pos (show(bG w a 4).what=1 from rfl)]
   rw[e];have hE:=kB (bG w a 4) a 19 0 eD;have dw:decide ((bG w a 4).what=1)=true:=rfl;simp only[go_sem,qC,qG,qW,k2,k10,q10,<-hg16,dw]
   refine aN ?_
   simp only[go_sem,qC,qG,qW,k2,k10,q10,iM.ret,hE.ret,bVf,bVg,bVh,bVj,bVi,bVd,if_false]
  ·have q10:=hO1.old 10 0 (by omega)
   rw[e10]at q10;obtain⟨g16,hg16⟩: ∃g,g=cnt1 0 16:=⟨_,rfl⟩
   obtain⟨g71,hg71⟩: ∃g,g=cnt1 0 71:=⟨_,rfl⟩
   have e:yO w a left o=dC ⟨yA (bW (gZ w o) a left (nA w.objs.length)).w,0,lA⟩ a 19 0 eD:=by
    unfold yO gP;simp only[if_neg (show¬120<=w.objs.length by omega)];rw[if_neg (by simp[bW])];rfl
   rw[e];have hE:=kB ⟨yA (bW (gZ w o) a left (nA w.objs.length)).w,0,lA⟩ a 19 0 eD;have hle:(bW (gZ w o) a left (nA w.objs.length)).w.objs.length=w.objs.length+1:=by simp only[bW,oC,kL]
   have hlt:(bW (gZ w o) a left (nA w.objs.length)).w.tasks.length=w.tasks.length:=rfl;have hfl:=hfit.len;generalize hW:(bW (gZ w o) a left (nA w.objs.length)).w=W at hO1 hE hle hlt⊢;obtain⟨⟨g5,g8,vU,vI,rfl,e5,l5,m5,e8,l8,m8,mU,mI⟩,old,up⟩:=hO1;have hwr:IntKind.i64.wrap ((W.objs.length:Int)-1)=(W.objs.length:Int)-1:=bM (by omega)
   have hl16:W.tasks.length+1<=16777216:=by omega
   have t1:((W.objs.map aI.enc).take W.objs.length)=W.objs.map aI.enc:=bVw (by simp)
   have t3:((W.outs.map aO.enc).take W.outs.length)=W.outs.map aO.enc:=bVw (by simp)
   have t4:((W.ins.map (Val.int .i64)).take W.ins.length)=W.ins.map (.int .i64):=bVw (by simp)
   simp only[yA,lA,mN,bVx,bV9,bVv]at hE;have eU:=True.intro;have eI:=True.intro;rcases mU with⟨rfl,hu⟩|⟨gU,rfl,eU,lU,hu⟩<;>rcases mI with⟨rfl,hi⟩|⟨gI,rfl,eI,lI,hi⟩
   all_goals
    try rw[hu]at hE
    try rw[hi]at hE
    simp only[go_sem,qC,qG,qW,k2,k10,q10,<-hg16,<-hg71,e5,e8,cX,bP,dA,bO,hwr,cW,gQ,uP,lP,bKq,hl16,bVk,bVe]
    refine aN ?_
    simp only[go_sem,qC,qG,qW,k2,k10,q10,e5,e8,eU,eI,t1,t3,t4,bVk,bV7,bXw,bVw,bVe,cX,bP,dA,bO,iM.ret,hE.ret,bVf,bVg,bVh,bVj,bVi,bVd,if_false];rfl
end Go.Proofs.YthpmfghgoabnhaaGreat
namespace Go.Proofs.YthpmfghgoabnhaaGreat
open Go.Abs Go.Proofs
variable {p :aQ}{w0 w:aC}{S:Nat->Prop}{a:Int}{left:List aB}
theorem aY6 {n:aJ}(h:eC p n=true):1<=n.op/\ n.op<=28:=by
 have:=bS h;unfold fR at this
 repeat' split at this
 all_goals omega
theorem aPj {q:Pat}{cons:List bC}(h:lL cons q=true):rH q<=1000:=by
 simp only[lL,bVc,bYb]at h;have:=aNe q 12 (by omega) h.1
 omega
theorem bBs {l:List aG}{en:En}{i:Int}(h:inR i 0 ((l.length:Int)-1)=true):rJ 2 en (.fz (l.map aG.enc)) (.int .i64 i)=some {v:= .fp [.int .i64 (aW l i.toNat).kind,.int .i64 (aW l i.toNat).n] 0}:=yE (f:=aG.enc) (size:=2) mN h fun _=>rfl
theorem aTs {n:aJ}{en:En}{i:Int}(h:inR i 0 ((n.kids.length:Int)-1)=true):rJ 1 en (.fz (n.kids.map (.int .i64))) (.int .i64 i)=some {v:= .fp [.int .i64 (uN n i)] 0}:=sF h
theorem bBt {n:aJ}{en:En}(h:0<n.kids.length):rJ 1 en (.fz (n.kids.map (.int .i64))) (.int .i64 0)=some {v:= .fp [.int .i64 (uN n 0)] 0}:=sF (i:=0) (by simp only[inR,bYb];omega)
theorem aTt {n:aJ}{en:En}(h:1<n.kids.length):rJ 1 en (.fz (n.kids.map (.int .i64))) (.int .i64 1)=some {v:= .fp [.int .i64 (uN n 1)] 0}:=sF (i:=1) (by simp only[inR,bYb];omega)
theorem aY7 (hp:cF p)(hsp:aT p=true)(h:bQ p w0 S w)(ha:inR a 0 ((w.tasks.length:Int)-1)=true)(hl:LOk p S w left){f:aB}(hf:FOk p S w f){n:aJ}(hn:p.node f.node=n)(hfull:(f.vals.length:Int)=n.asks)(hop:n.op=1):
  PC L 132 [.agg [.fz (p.nodes.map aJ.enc),.fz (p.funs.map (.int .i64)),.int .i64 p.main,.fz (p.cons.map bC.enc)],.agg [.fz (w.objs.map aI.enc),.fz (w.tasks.map (.int .i64)),.fz (w.outs.map aO.enc),.fz (w.ins.map (.int .i64)),.int .i64 w.used],.int .i64 a,.fz (left.map aB.enc),.agg [.int .i64 f.node,.fz (f.env.map aG.enc),.fz (f.vals.map aG.enc)]] (.agg [.fz ((aD p w a left f n).w.objs.map aI.enc),.fz ((aD p w a left f n).w.tasks.map (.int .i64)),.fz ((aD p w a left f n).w.outs.map aO.enc),.fz ((aD p w a left f n).w.ins.map (.int .i64)),.int .i64 (aD p w a left f n).w.used,.int .i64 (aD p w a left f n).what,.int .i64 (aD p w a left f n).e.task,.int .i64 (aD p w a left f n).e.act,.int .i64 (aD p w a left f n).e.n,.int .i64 (aD p w a left f n).e.v.kind,.int .i64 (aD p w a left f n).e.v.n]):=by
 have hfit:=dI h ha;have hni:=cC hf;have hok:=hp.nodes _ (bV hni);rw[hn]at hok;have hkd:=bS hok;have hlen:=hl.len;have hfo:=hf.ok;simp only[bD,aR,bVc,bYb]at hfo;have e:aD p w a left f n=bW w a left (tG n.n):=by unfold aD;simp[hop]
 rw[e];have hB:=gW w a left (tG n.n) hfit
 refine aL gE rfl rfl ?_
 simp only[go_sem,qC,qG,qW,fO]
 refine aN ?_
 simp only[go_sem,qC,qG,qW,hop,hn,bK hni,(wY _).ret,hB.ret,bVf,bVg,bVh,bVj,bVi,bVd,if_false]
 refine aN ?_
 simp only[go_sem,qC,qG,qW,hop,hn,bK hni,(wY _).ret,hB.ret,bVf,bVg,bVh,bVj,bVi,bVd,if_false]
theorem aY8 (hp:cF p)(hsp:aT p=true)(h:bQ p w0 S w)(ha:inR a 0 ((w.tasks.length:Int)-1)=true)(hl:LOk p S w left){f:aB}(hf:FOk p S w f){n:aJ}(hn:p.node f.node=n)(hfull:(f.vals.length:Int)=n.asks)(hop:n.op=2):
  PC L 132 [.agg [.fz (p.nodes.map aJ.enc),.fz (p.funs.map (.int .i64)),.int .i64 p.main,.fz (p.cons.map bC.enc)],.agg [.fz (w.objs.map aI.enc),.fz (w.tasks.map (.int .i64)),.fz (w.outs.map aO.enc),.fz (w.ins.map (.int .i64)),.int .i64 w.used],.int .i64 a,.fz (left.map aB.enc),.agg [.int .i64 f.node,.fz (f.env.map aG.enc),.fz (f.vals.map aG.enc)]] (.agg [.fz ((aD p w a left f n).w.objs.map aI.enc),.fz ((aD p w a left f n).w.tasks.map (.int .i64)),.fz ((aD p w a left f n).w.outs.map aO.enc),.fz ((aD p w a left f n).w.ins.map (.int .i64)),.int .i64 (aD p w a left f n).w.used,.int .i64 (aD p w a left f n).what,.int .i64 (aD p w a left f n).e.task,.int .i64 (aD p w a left f n).e.act,.int .i64 (aD p w a left f n).e.n,.int .i64 (aD p w a left f n).e.v.kind,.int .i64 (aD p w a left f n).e.v.n]):=by
 have hfit:=dI h ha;have hni:=cC hf;have hok:=hp.nodes _ (bV hni);rw[hn]at hok;have hkd:=bS hok;have hlen:=hl.len;have hfo:=hf.ok;simp only[bD,aR,bVc,bYb]at hfo;have e:aD p w a left f n=bW w a left (rD (decide (n.n=1))):=by unfold aD;simp[hop]
 rw[e];have hB:=gW w a left (rD (decide (n.n=1))) hfit
 refine aL gE rfl rfl ?_
 simp only[go_sem,qC,qG,qW,fO]
 refine aN ?_
 simp only[go_sem,qC,qG,qW,hop,hn,bK hni,(aA8 _).ret,hB.ret,bVf,bVg,bVh,bVj,bVi,bVd,if_false]
 refine aN ?_
 simp only[go_sem,qC,qG,qW,hop,hn,bK hni,(aA8 _).ret,hB.ret,bVf,bVg,bVh,bVj,bVi,bVd,if_false]
theorem aY9 (hp:cF p)(hsp:aT p=true)(h:bQ p w0 S w)(ha:inR a 0 ((w.tasks.length:Int)-1)=true)(hl:LOk p S w left){f:aB}(hf:FOk p S w f){n:aJ}(hn:p.node f.node=n)(hfull:(f.vals.length:Int)=n.asks)(hop:n.op=3):
  PC L 132 [.agg [.fz (p.nodes.map aJ.enc),.fz (p.funs.map (.int .i64)),.int .i64 p.main,.fz (p.cons.map bC.enc)],.agg [.fz (w.objs.map aI.enc),.fz (w.tasks.map (.int .i64)),.fz (w.outs.map aO.enc),.fz (w.ins.map (.int .i64)),.int .i64 w.used],.int .i64 a,.fz (left.map aB.enc),.agg [.int .i64 f.node,.fz (f.env.map aG.enc),.fz (f.vals.map aG.enc)]] (.agg [.fz ((aD p w a left f n).w.objs.map aI.enc),.fz ((aD p w a left f n).w.tasks.map (.int .i64)),.fz ((aD p w a left f n).w.outs.map aO.enc),.fz ((aD p w a left f n).w.ins.map (.int .i64)),.int .i64 (aD p w a left f n).w.used,.int .i64 (aD p w a left f n).what,.int .i64 (aD p w a left f n).e.task,.int .i64 (aD p w a left f n).e.act,.int .i64 (aD p w a left f n).e.n,.int .i64 (aD p w a left f n).e.v.kind,.int .i64 (aD p w a left f n).e.v.n]):=by
 have hfit:=dI h ha;have hni:=cC hf;have hok:=hp.nodes _ (bV hni);rw[hn]at hok;have hkd:=bS hok;have hlen:=hl.len;have hfo:=hf.ok;simp only[bD,aR,bVc,bYb]at hfo;have e:aD p w a left f n=bW w a left eD:=by unfold aD;simp[hop]
 rw[e];have hB:=gW w a left eD hfit
 refine aL gE rfl rfl ?_
 simp only[go_sem,qC,qG,qW,fO]
 refine aN ?_
 simp only[go_sem,qC,qG,qW,hop,hn,bK hni,iM.ret,hB.ret,bVf,bVg,bVh,bVj,bVi,bVd,if_false]
 refine aN ?_
 simp only[go_sem,qC,qG,qW,hop,hn,bK hni,iM.ret,hB.ret,bVf,bVg,bVh,bVj,bVi,bVd,if_false]
theorem aZa (hp:cF p)(hsp:aT p=true)(h:bQ p w0 S w)(ha:inR a 0 ((w.tasks.length:Int)-1)=true)(hl:LOk p S w left){f:aB}(hf:FOk p S w f){n:aJ}(hn:p.node f.node=n)(hfull:(f.vals.length:Int)=n.asks)(hop:n.op=4):
  PC L 132 [.agg [.fz (p.nodes.map aJ.enc),.fz (p.funs.map (.int .i64)),.int .i64 p.main,.fz (p.cons.map bC.enc)],.agg [.fz (w.objs.map aI.enc),.fz (w.tasks.map (.int .i64)),.fz (w.outs.map aO.enc),.fz (w.ins.map (.int .i64)),.int .i64 w.used],.int .i64 a,.fz (left.map aB.enc),.agg [.int .i64 f.node,.fz (f.env.map aG.enc),.fz (f.vals.map aG.enc)]] (.agg [.fz ((aD p w a left f n).w.objs.map aI.enc),.fz ((aD p w a left f n).w.tasks.map (.int .i64)),.fz ((aD p w a left f n).w.outs.map aO.enc),.fz ((aD p w a left f n).w.ins.map (.int .i64)),.int .i64 (aD p w a left f n).w.used,.int .i64 (aD p w a left f n).what,.int .i64 (aD p w a left f n).e.task,.int .i64 (aD p w a left f n).e.act,.int .i64 (aD p w a left f n).e.n,.int .i64 (aD p w a left f n).e.v.kind,.int .i64 (aD p w a left f n).e.v.n]):=by
 have hfit:=dI h ha;have hni:=cC hf;have hok:=hp.nodes _ (bV hni);rw[hn]at hok;have hkd:=bS hok;have hlen:=hl.len;have hfo:=hf.ok;simp only[bD,aR,bVc,bYb]at hfo;have e:aD p w a left f n=if n.n<0 then bW w a left ⟨4,-1-n.n⟩else if(f.env.length:Int)<=n.n then bG w a 2 else bW w a left (aW f.env n.n.toNat):=by unfold aD;simp[hop]
 rw[e];have hF:=eH w a 2 hfit;have hnum:nE p n=true:=by simp only[eC,bVc]at hok;exact hok.1.1.1
 simp only[nE,hop]at hnum;simp[inR]at hnum;have hwn:IntKind.i64.wrap (-1-n.n)= -1-n.n:=bM (by have:=hp.main;simp only[inR,bYb]at this;have hsl:=hsp;simp only[aT,bVc,bYb]at hsl;omega)
 by_cases hneg:n.n<0
 ·have d0:decide (n.n<0)=true:=decide_eq_true hneg;rw[if_pos hneg];have hB:=gW w a left ⟨4,-1-n.n⟩ hfit
  refine aL gE rfl rfl ?_
  simp only[go_sem,qC,qG,qW,fO]
  refine aN ?_
  simp only[go_sem,qC,qG,qW,hop,hn,bK hni,d0,hwn,hB.ret,bVf,bVg,bVh,bVj,bVi,bVd,if_false]
 ·have d0:decide (n.n<0)=false:=decide_eq_false hneg;rw[if_neg hneg]
  by_cases hge:(f.env.length:Int)<=n.n
  ·have d1:decide ((f.env.length:Int)<=n.n)=true:=decide_eq_true hge;rw[if_pos hge]
   refine aL gE rfl rfl ?_
   simp only[go_sem,qC,qG,qW,fO]
   refine aN ?_
   simp only[go_sem,qC,qG,qW,hop,hn,bK hni,d0,d1,hF.ret,bVf,bVg,bVh,bVj,bVi,bVd,if_false]
  ·have d1:decide ((f.env.length:Int)<=n.n)=false:=decide_eq_false hge;rw[if_neg hge];have hB:=gW w a left (aW f.env n.n.toNat) hfit;have hi:=yE (f:=aG.enc) (size:=2) (k:= .i64) (l:=f.env) (i:=n.n) mN (by simp only[inR,bYb];omega) (fun _=>rfl) (en:=fun _=>none)
   refine aL gE rfl rfl ?_
   simp only[go_sem,qC,qG,qW,fO]
   refine aN ?_
   simp only[go_sem,qC,qG,qW,hop,hn,bK hni,d0,d1,bBs (show inR n.n 0 ((f.env.length:Int)-1)=true by simp only[inR,bYb];omega),hB.ret,bVf,bVg,bVh,bVj,bVi,bVd,if_false]
theorem aZb (hp:cF p)(hsp:aT p=true)(h:bQ p w0 S w)(ha:inR a 0 ((w.tasks.length:Int)-1)=true)(hl:LOk p S w left){f:aB}(hf:FOk p S w f){n:aJ}(hn:p.node f.node=n)(hfull:(f.vals.length:Int)=n.asks)(hop:n.op=5):
  PC L 132 [.agg [.fz (p.nodes.map aJ.enc),.fz (p.funs.map (.int .i64)),.int .i64 p.main,.fz (p.cons.map bC.enc)],.agg [.fz (w.objs.map aI.enc),.fz (w.tasks.map (.int .i64)),.fz (w.outs.map aO.enc),.fz (w.ins.map (.int .i64)),.int .i64 w.used],.int .i64 a,.fz (left.map aB.enc),.agg [.int .i64 f.node,.fz (f.env.map aG.enc),.fz (f.vals.map aG.enc)]] (.agg [.fz ((aD p w a left f n).w.objs.map aI.enc),.fz ((aD p w a left f n).w.tasks.map (.int .i64)),.fz ((aD p w a left f n).w.outs.map aO.enc),.fz ((aD p w a left f n).w.ins.map (.int .i64)),.int .i64 (aD p w a left f n).w.used,.int .i64 (aD p w a left f n).what,.int .i64 (aD p w a left f n).e.task,.int .i64 (aD p w a left f n).e.act,.int .i64 (aD p w a left f n).e.n,.int .i64 (aD p w a left f n).e.v.kind,.int .i64 (aD p w a left f n).e.v.n]):=by
 have hfit:=dI h ha;have hni:=cC hf;have hok:=hp.nodes _ (bV hni);rw[hn]at hok;have hkd:=bS hok;have hlen:=hl.len;have hfo:=hf.ok;simp only[bD,aR,bVc,bYb]at hfo;have e:aD p w a left f n=gP w a left ⟨2,f.node,f.env,[]⟩:=by unfold aD;simp[hop]
 rw[e];have hM:=aDv w a left ⟨2,f.node,f.env,[]⟩ hfit;simp only[bVv]at hM
 refine aL gE rfl rfl ?_
 simp only[go_sem,qC,qG,qW,fO]
 refine aN ?_
 simp only[go_sem,qC,qG,qW,hop,hn,bK hni,hM.ret,bVf,bVg,bVh,bVj,bVi,bVd,if_false]
theorem aZc (hp:cF p)(hsp:aT p=true)(h:bQ p w0 S w)(ha:inR a 0 ((w.tasks.length:Int)-1)=true)(hl:LOk p S w left){f:aB}(hf:FOk p S w f){n:aJ}(hn:p.node f.node=n)(hfull:(f.vals.length:Int)=n.asks)(hop:n.op=6):
  PC L 132 [.agg [.fz (p.nodes.map aJ.enc),.fz (p.funs.map (.int .i64)),.int .i64 p.main,.fz (p.cons.map bC.enc)],.agg [.fz (w.objs.map aI.enc),.fz (w.tasks.map (.int .i64)),.fz (w.outs.map aO.enc),.fz (w.ins.map (.int .i64)),.int .i64 w.used],.int .i64 a,.fz (left.map aB.enc),.agg [.int .i64 f.node,.fz (f.env.map aG.enc),.fz (f.vals.map aG.enc)]] (.agg [.fz ((aD p w a left f n).w.objs.map aI.enc),.fz ((aD p w a left f n).w.tasks.map (.int .i64)),.fz ((aD p w a left f n).w.outs.map aO.enc),.fz ((aD p w a left f n).w.ins.map (.int .i64)),.int .i64 (aD p w a left f n).w.used,.int .i64 (aD p w a left f n).what,.int .i64 (aD p w a left f n).e.task,.int .i64 (aD p w a left f n).e.act,.int .i64 (aD p w a left f n).e.n,.int .i64 (aD p w a left f n).e.v.kind,.int .i64 (aD p w a left f n).e.v.n]):=by
 have hfit:=dI h ha;have hni:=cC hf;have hok:=hp.nodes _ (bV hni);rw[hn]at hok;have hkd:=bS hok;have hlen:=hl.len;have hfo:=hf.ok;simp only[bD,aR,bVc,bYb]at hfo;have e:aD p w a left f n=eE p w a left (aW f.vals 0) (aW f.vals 1):=by unfold aD;simp[hop]
 rw[e];have hq:n.asks=2:=by simp[aJ.asks,hop]
 have h0:0<f.vals.length:=by omega
 have h1:1<f.vals.length:=by omega
 have v0:=hf.vals (cK h0);have v1:=hf.vals (cK h1);have hA:=aPd hp h ha hl v0 v1
 refine aL gE rfl rfl ?_
 simp only[go_sem,qC,qG,qW,fO]
 refine aN ?_
 simp only[go_sem,qC,qG,qW,hop,hn,bK hni,bU h0,pB h1,hA.ret,bVf,bVg,bVh,bVj,bVi,bVd,if_false]
theorem aZd (hp:cF p)(hsp:aT p=true)(h:bQ p w0 S w)(ha:inR a 0 ((w.tasks.length:Int)-1)=true)(hl:LOk p S w left){f:aB}(hf:FOk p S w f){n:aJ}(hn:p.node f.node=n)(hfull:(f.vals.length:Int)=n.asks)(hop:n.op=7):
  PC L 132 [.agg [.fz (p.nodes.map aJ.enc),.fz (p.funs.map (.int .i64)),.int .i64 p.main,.fz (p.cons.map bC.enc)],.agg [.fz (w.objs.map aI.enc),.fz (w.tasks.map (.int .i64)),.fz (w.outs.map aO.enc),.fz (w.ins.map (.int .i64)),.int .i64 w.used],.int .i64 a,.fz (left.map aB.enc),.agg [.int .i64 f.node,.fz (f.env.map aG.enc),.fz (f.vals.map aG.enc)]] (.agg [.fz ((aD p w a left f n).w.objs.map aI.enc),.fz ((aD p w a left f n).w.tasks.map (.int .i64)),.fz ((aD p w a left f n).w.outs.map aO.enc),.fz ((aD p w a left f n).w.ins.map (.int .i64)),.int .i64 (aD p w a left f n).w.used,.int .i64 (aD p w a left f n).what,.int .i64 (aD p w a left f n).e.task,.int .i64 (aD p w a left f n).e.act,.int .i64 (aD p w a left f n).e.n,.int .i64 (aD p w a left f n).e.v.kind,.int .i64 (aD p w a left f n).e.v.n]):=by
 have hfit:=dI h ha;have hni:=cC hf;have hok:=hp.nodes _ (bV hni);rw[hn]at hok;have hkd:=bS hok;have hlen:=hl.len;have hfo:=hf.ok;simp only[bD,aR,bVc,bYb]at hfo;have e:aD p w a left f n=fB w a left (uN n 1) (f.env++[aW f.vals 0]):=by unfold aD;simp[hop]
 rw[e];have hq:n.asks=1:=by simp[aJ.asks,hop]
 have h0:0<f.vals.length:=by omega
 have hkc:(n.kids.length:Int)=2:=by rw[hkd];simp[fR,hop]
 have hk1:1<n.kids.length:=by omega
 have hM:=aA9 f.env (aW f.vals 0) (by omega)
 have hN:=xW w a left (uN n 1) (f.env++[aW f.vals 0]) hfit (by omega)
 refine aL gE rfl rfl ?_
 simp only[go_sem,qC,qG,qW,fO]
 refine aN ?_
 simp only[go_sem,qC,qG,qW,hop,hn,bK hni,bU h0,aTt hk1,hM.ret,hN.ret,bVf,bVg,bVh,bVj,bVi,bVd,if_false]
 refine aN ?_
 simp only[go_sem,qC,qG,qW,hop,hn,bK hni,bU h0,aTt hk1,hM.ret,hN.ret,bVf,bVg,bVh,bVj,bVi,bVd,if_false]
theorem aZe (hp:cF p)(hsp:aT p=true)(h:bQ p w0 S w)(ha:inR a 0 ((w.tasks.length:Int)-1)=true)(hl:LOk p S w left){f:aB}(hf:FOk p S w f){n:aJ}(hn:p.node f.node=n)(hfull:(f.vals.length:Int)=n.asks)(hop:n.op=8):
  PC L 132 [.agg [.fz (p.nodes.map aJ.enc),.fz (p.funs.map (.int .i64)),.int .i64 p.main,.fz (p.cons.map bC.enc)],.agg [.fz (w.objs.map aI.enc),.fz (w.tasks.map (.int .i64)),.fz (w.outs.map aO.enc),.fz (w.ins.map (.int .i64)),.int .i64 w.used],.int .i64 a,.fz (left.map aB.enc),.agg [.int .i64 f.node,.fz (f.env.map aG.enc),.fz (f.vals.map aG.enc)]] (.agg [.fz ((aD p w a left f n).w.objs.map aI.enc),.fz ((aD p w a left f n).w.tasks.map (.int .i64)),.fz ((aD p w a left f n).w.outs.map aO.enc),.fz ((aD p w a left f n).w.ins.map (.int .i64)),.int .i64 (aD p w a left f n).w.used,.int .i64 (aD p w a left f n).what,.int .i64 (aD p w a left f n).e.task,.int .i64 (aD p w a left f n).e.act,.int .i64 (aD p w a left f n).e.n,.int .i64 (aD p w a left f n).e.v.kind,.int .i64 (aD p w a left f n).e.v.n]):=by
 have hfit:=dI h ha;have hni:=cC hf;have hok:=hp.nodes _ (bV hni);rw[hn]at hok;have hkd:=bS hok;have hlen:=hl.len;have hfo:=hf.ok;simp only[bD,aR,bVc,bYb]at hfo;have e:aD p w a left f n=if¬(aW f.vals 0).kind=2 then bG w a 2 else fB w a left (uN n (2-(aW f.vals 0).n)) f.env:=by unfold aD;simp[hop]
 rw[e];have hF:=eH w a 2 hfit;have hq:n.asks=1:=by simp[aJ.asks,hop]
 have h0:0<f.vals.length:=by omega
 have v0:=hf.vals (cK h0);have hkc:(n.kids.length:Int)=3:=by rw[hkd];simp[fR,hop]
 by_cases hk2:(aW f.vals 0).kind=2
 ·have d1:decide ((aW f.vals 0).kind=2)=true:=decide_eq_true hk2;rw[if_neg (fun h=>h hk2)]
  have hvo:=v0.ok;simp only[cJ,hk2]at hvo;simp[inR]at hvo;have hw2:IntKind.i64.wrap (2-(aW f.vals 0).n)=2-(aW f.vals 0).n:=bM (by omega)
  have hN:=xW w a left (uN n (2-(aW f.vals 0).n)) f.env hfit (by omega)
  refine aL gE rfl rfl ?_
  simp only[go_sem,qC,qG,qW,fO]
  refine aN ?_
  simp only[go_sem,qC,qG,qW,hop,hn,bK hni,bU h0,d1,hw2,aTs (show inR (2-(aW f.vals 0).n) 0 ((n.kids.length:Int)-1)=true by simp only[inR,bYb];omega),hN.ret,bVf,bVg,bVh,bVj,bVi,bVd,if_false]
 ·have d1:decide ((aW f.vals 0).kind=2)=false:=decide_eq_false hk2;rw[if_pos hk2]
  refine aL gE rfl rfl ?_
  simp only[go_sem,qC,qG,qW,fO]
  refine aN ?_
  simp only[go_sem,qC,qG,qW,hop,hn,bK hni,bU h0,d1,hF.ret,bVf,bVg,bVh,bVj,bVi,bVd,if_false]
theorem aZf (hp:cF p)(hsp:aT p=true)(h:bQ p w0 S w)(ha:inR a 0 ((w.tasks.length:Int)-1)=true)(hl:LOk p S w left){f:aB}(hf:FOk p S w f){n:aJ}(hn:p.node f.node=n)(hfull:(f.vals.length:Int)=n.asks)(hop:n.op=9):
  PC L 132 [.agg [.fz (p.nodes.map aJ.enc),.fz (p.funs.map (.int .i64)),.int .i64 p.main,.fz (p.cons.map bC.enc)],.agg [.fz (w.objs.map aI.enc),.fz (w.tasks.map (.int .i64)),.fz (w.outs.map aO.enc),.fz (w.ins.map (.int .i64)),.int .i64 w.used],.int .i64 a,.fz (left.map aB.enc),.agg [.int .i64 f.node,.fz (f.env.map aG.enc),.fz (f.vals.map aG.enc)]] (.agg [.fz ((aD p w a left f n).w.objs.map aI.enc),.fz ((aD p w a left f n).w.tasks.map (.int .i64)),.fz ((aD p w a left f n).w.outs.map aO.enc),.fz ((aD p w a left f n).w.ins.map (.int .i64)),.int .i64 (aD p w a left f n).w.used,.int .i64 (aD p w a left f n).what,.int .i64 (aD p w a left f n).e.task,.int .i64 (aD p w a left f n).e.act,.int .i64 (aD p w a left f n).e.n,.int .i64 (aD p w a left f n).e.v.kind,.int .i64 (aD p w a left f n).e.v.n]):=by
 have hfit:=dI h ha;have hni:=cC hf;have hok:=hp.nodes _ (bV hni);rw[hn]at hok;have hkd:=bS hok;have hlen:=hl.len;have hfo:=hf.ok;simp only[bD,aR,bVc,bYb]at hfo;have e:aD p w a left f n=cD w a left 9 (aW f.vals 0) (aW f.vals 1):=by unfold aD;simp[hop]
 rw[e];have hq:n.asks=2:=by simp[aJ.asks,hop]
 have h0:0<f.vals.length:=by omega
 have h1:1<f.vals.length:=by omega
 have v0:=hf.vals (cK h0);have v1:=hf.vals (cK h1);have hA:=rG (left:=left) (op:=9) h ha v0 v1 (by omega)
 refine aL gE rfl rfl ?_
 simp only[go_sem,qC,qG,qW,fO]
 refine aN ?_
 simp only[go_sem,qC,qG,qW,hop,hn,bK hni,bU h0,pB h1,hA.ret,bVf,bVg,bVh,bVj,bVi,bVd,if_false]
theorem aVo (hp:cF p)(hsp:aT p=true)(h:bQ p w0 S w)(ha:inR a 0 ((w.tasks.length:Int)-1)=true)(hl:LOk p S w left){f:aB}(hf:FOk p S w f){n:aJ}(hn:p.node f.node=n)(hfull:(f.vals.length:Int)=n.asks)(hop:n.op=10):
  PC L 132 [.agg [.fz (p.nodes.map aJ.enc),.fz (p.funs.map (.int .i64)),.int .i64 p.main,.fz (p.cons.map bC.enc)],.agg [.fz (w.objs.map aI.enc),.fz (w.tasks.map (.int .i64)),.fz (w.outs.map aO.enc),.fz (w.ins.map (.int .i64)),.int .i64 w.used],.int .i64 a,.fz (left.map aB.enc),.agg [.int .i64 f.node,.fz (f.env.map aG.enc),.fz (f.vals.map aG.enc)]] (.agg [.fz ((aD p w a left f n).w.objs.map aI.enc),.fz ((aD p w a left f n).w.tasks.map (.int .i64)),.fz ((aD p w a left f n).w.outs.map aO.enc),.fz ((aD p w a left f n).w.ins.map (.int .i64)),.int .i64 (aD p w a left f n).w.used,.int .i64 (aD p w a left f n).what,.int .i64 (aD p w a left f n).e.task,.int .i64 (aD p w a left f n).e.act,.int .i64 (aD p w a left f n).e.n,.int .i64 (aD p w a left f n).e.v.kind,.int .i64 (aD p w a left f n).e.v.n]):=by
 have hfit:=dI h ha;have hni:=cC hf;have hok:=hp.nodes _ (bV hni);rw[hn]at hok;have hkd:=bS hok;have hlen:=hl.len;have hfo:=hf.ok;simp only[bD,aR,bVc,bYb]at hfo;have e:aD p w a left f n=cD w a left 10 (aW f.vals 0) (aW f.vals 1):=by unfold aD;simp[hop]
 rw[e];have hq:n.asks=2:=by simp[aJ.asks,hop]
 have h0:0<f.vals.length:=by omega
 have h1:1<f.vals.length:=by omega
 have v0:=hf.vals (cK h0);have v1:=hf.vals (cK h1);have hA:=rG (left:=left) (op:=10) h ha v0 v1 (by omega)
 refine aL gE rfl rfl ?_
 simp only[go_sem,qC,qG,qW,fO]
 refine aN ?_
 simp only[go_sem,qC,qG,qW,hop,hn,bK hni,bU h0,pB h1,hA.ret,bVf,bVg,bVh,bVj,bVi,bVd,if_false]
theorem aVp (hp:cF p)(hsp:aT p=true)(h:bQ p w0 S w)(ha:inR a 0 ((w.tasks.length:Int)-1)=true)(hl:LOk p S w left){f:aB}(hf:FOk p S w f){n:aJ}(hn:p.node f.node=n)(hfull:(f.vals.length:Int)=n.asks)(hop:n.op=11):
  PC L 132 [.agg [.fz (p.nodes.map aJ.enc),.fz (p.funs.map (.int .i64)),.int .i64 p.main,.fz (p.cons.map bC.enc)],.agg [.fz (w.objs.map aI.enc),.fz (w.tasks.map (.int .i64)),.fz (w.outs.map aO.enc),.fz (w.ins.map (.int .i64)),.int .i64 w.used],.int .i64 a,.fz (left.map aB.enc),.agg [.int .i64 f.node,.fz (f.env.map aG.enc),.fz (f.vals.map aG.enc)]] (.agg [.fz ((aD p w a left f n).w.objs.map aI.enc),.fz ((aD p w a left f n).w.tasks.map (.int .i64)),.fz ((aD p w a left f n).w.outs.map aO.enc),.fz ((aD p w a left f n).w.ins.map (.int .i64)),.int .i64 (aD p w a left f n).w.used,.int .i64 (aD p w a left f n).what,.int .i64 (aD p w a left f n).e.task,.int .i64 (aD p w a left f n).e.act,.int .i64 (aD p w a left f n).e.n,.int .i64 (aD p w a left f n).e.v.kind,.int .i64 (aD p w a left f n).e.v.n]):=by
 have hfit:=dI h ha;have hni:=cC hf;have hok:=hp.nodes _ (bV hni);rw[hn]at hok;have hkd:=bS hok;have hlen:=hl.len;have hfo:=hf.ok;simp only[bD,aR,bVc,bYb]at hfo;have e:aD p w a left f n=cD w a left 11 (aW f.vals 0) (aW f.vals 1):=by unfold aD;simp[hop]
 rw[e];have hq:n.asks=2:=by simp[aJ.asks,hop]
 have h0:0<f.vals.length:=by omega
 have h1:1<f.vals.length:=by omega
 have v0:=hf.vals (cK h0);have v1:=hf.vals (cK h1);have hA:=rG (left:=left) (op:=11) h ha v0 v1 (by omega)
 refine aL gE rfl rfl ?_
 simp only[go_sem,qC,qG,qW,fO]
 refine aN ?_
 simp only[go_sem,qC,qG,qW,hop,hn,bK hni,bU h0,pB h1,hA.ret,bVf,bVg,bVh,bVj,bVi,bVd,if_false]
theorem aVq (hp:cF p)(hsp:aT p=true)(h:bQ p w0 S w)(ha:inR a 0 ((w.tasks.length:Int)-1)=true)(hl:LOk p S w left){f:aB}(hf:FOk p S w f){n:aJ}(hn:p.node f.node=n)(hfull:(f.vals.length:Int)=n.asks)(hop:n.op=12):
  PC L 132 [.agg [.fz (p.nodes.map aJ.enc),.fz (p.funs.map (.int .i64)),.int .i64 p.main,.fz (p.cons.map bC.enc)],.agg [.fz (w.objs.map aI.enc),.fz (w.tasks.map (.int .i64)),.fz (w.outs.map aO.enc),.fz (w.ins.map (.int .i64)),.int .i64 w.used],.int .i64 a,.fz (left.map aB.enc),.agg [.int .i64 f.node,.fz (f.env.map aG.enc),.fz (f.vals.map aG.enc)]] (.agg [.fz ((aD p w a left f n).w.objs.map aI.enc),.fz ((aD p w a left f n).w.tasks.map (.int .i64)),.fz ((aD p w a left f n).w.outs.map aO.enc),.fz ((aD p w a left f n).w.ins.map (.int .i64)),.int .i64 (aD p w a left f n).w.used,.int .i64 (aD p w a left f n).what,.int .i64 (aD p w a left f n).e.task,.int .i64 (aD p w a left f n).e.act,.int .i64 (aD p w a left f n).e.n,.int .i64 (aD p w a left f n).e.v.kind,.int .i64 (aD p w a left f n).e.v.n]):=by
 have hfit:=dI h ha;have hni:=cC hf;have hok:=hp.nodes _ (bV hni);rw[hn]at hok;have hkd:=bS hok;have hlen:=hl.len;have hfo:=hf.ok;simp only[bD,aR,bVc,bYb]at hfo;have e:aD p w a left f n=cD w a left 12 (aW f.vals 0) (aW f.vals 1):=by unfold aD;simp[hop]
 rw[e];have hq:n.asks=2:=by simp[aJ.asks,hop]
 have h0:0<f.vals.length:=by omega
 have h1:1<f.vals.length:=by omega
 have v0:=hf.vals (cK h0);have v1:=hf.vals (cK h1);have hA:=rG (left:=left) (op:=12) h ha v0 v1 (by omega)
 refine aL gE rfl rfl ?_
 simp only[go_sem,qC,qG,qW,fO]
 refine aN ?_
 simp only[go_sem,qC,qG,qW,hop,hn,bK hni,bU h0,pB h1,hA.ret,bVf,bVg,bVh,bVj,bVi,bVd,if_false]
theorem aVr (hp:cF p)(hsp:aT p=true)(h:bQ p w0 S w)(ha:inR a 0 ((w.tasks.length:Int)-1)=true)(hl:LOk p S w left){f:aB}(hf:FOk p S w f){n:aJ}(hn:p.node f.node=n)(hfull:(f.vals.length:Int)=n.asks)(hop:n.op=13):
  PC L 132 [.agg [.fz (p.nodes.map aJ.enc),.fz (p.funs.map (.int .i64)),.int .i64 p.main,.fz (p.cons.map bC.enc)],.agg [.fz (w.objs.map aI.enc),.fz (w.tasks.map (.int .i64)),.fz (w.outs.map aO.enc),.fz (w.ins.map (.int .i64)),.int .i64 w.used],.int .i64 a,.fz (left.map aB.enc),.agg [.int .i64 f.node,.fz (f.env.map aG.enc),.fz (f.vals.map aG.enc)]] (.agg [.fz ((aD p w a left f n).w.objs.map aI.enc),.fz ((aD p w a left f n).w.tasks.map (.int .i64)),.fz ((aD p w a left f n).w.outs.map aO.enc),.fz ((aD p w a left f n).w.ins.map (.int .i64)),.int .i64 (aD p w a left f n).w.used,.int .i64 (aD p w a left f n).what,.int .i64 (aD p w a left f n).e.task,.int .i64 (aD p w a left f n).e.act,.int .i64 (aD p w a left f n).e.n,.int .i64 (aD p w a left f n).e.v.kind,.int .i64 (aD p w a left f n).e.v.n]):=by
 have hfit:=dI h ha;have hni:=cC hf;have hok:=hp.nodes _ (bV hni);rw[hn]at hok;have hkd:=bS hok;have hlen:=hl.len;have hfo:=hf.ok;simp only[bD,aR,bVc,bYb]at hfo;have e:aD p w a left f n=cD w a left 13 (aW f.vals 0) (aW f.vals 1):=by unfold aD;simp[hop]
 rw[e];have hq:n.asks=2:=by simp[aJ.asks,hop]
 have h0:0<f.vals.length:=by omega
 have h1:1<f.vals.length:=by omega
 have v0:=hf.vals (cK h0);have v1:=hf.vals (cK h1);have hA:=rG (left:=left) (op:=13) h ha v0 v1 (by omega)
 refine aL gE rfl rfl ?_
 simp only[go_sem,qC,qG,qW,fO]
 refine aN ?_
 simp only[go_sem,qC,qG,qW,hop,hn,bK hni,bU h0,pB h1,hA.ret,bVf,bVg,bVh,bVj,bVi,bVd,if_false]
theorem aVs (hp:cF p)(hsp:aT p=true)(h:bQ p w0 S w)(ha:inR a 0 ((w.tasks.length:Int)-1)=true)(hl:LOk p S w left){f:aB}(hf:FOk p S w f){n:aJ}(hn:p.node f.node=n)(hfull:(f.vals.length:Int)=n.asks)(hop:n.op=14):
  PC L 132 [.agg [.fz (p.nodes.map aJ.enc),.fz (p.funs.map (.int .i64)),.int .i64 p.main,.fz (p.cons.map bC.enc)],.agg [.fz (w.objs.map aI.enc),.fz (w.tasks.map (.int .i64)),.fz (w.outs.map aO.enc),.fz (w.ins.map (.int .i64)),.int .i64 w.used],.int .i64 a,.fz (left.map aB.enc),.agg [.int .i64 f.node,.fz (f.env.map aG.enc),.fz (f.vals.map aG.enc)]] (.agg [.fz ((aD p w a left f n).w.objs.map aI.enc),.fz ((aD p w a left f n).w.tasks.map (.int .i64)),.fz ((aD p w a left f n).w.outs.map aO.enc),.fz ((aD p w a left f n).w.ins.map (.int .i64)),.int .i64 (aD p w a left f n).w.used,.int .i64 (aD p w a left f n).what,.int .i64 (aD p w a left f n).e.task,.int .i64 (aD p w a left f n).e.act,.int .i64 (aD p w a left f n).e.n,.int .i64 (aD p w a left f n).e.v.kind,.int .i64 (aD p w a left f n).e.v.n]):=by
 have hfit:=dI h ha;have hni:=cC hf;have hok:=hp.nodes _ (bV hni);rw[hn]at hok;have hkd:=bS hok;have hlen:=hl.len;have hfo:=hf.ok;simp only[bD,aR,bVc,bYb]at hfo;have e:aD p w a left f n=gP w a left ⟨1,n.n,f.vals,[]⟩:=by unfold aD;simp[hop]
 rw[e];have hM:=aDv w a left ⟨1,n.n,f.vals,[]⟩ hfit;simp only[bVv]at hM
 refine aL gE rfl rfl ?_
 simp only[go_sem,qC,qG,qW,fO]
 refine aN ?_
 simp only[go_sem,qC,qG,qW,hop,hn,bK hni,hM.ret,bVf,bVg,bVh,bVj,bVi,bVd,if_false]
theorem aVt (hp:cF p)(hsp:aT p=true)(h:bQ p w0 S w)(ha:inR a 0 ((w.tasks.length:Int)-1)=true)(hl:LOk p S w left){f:aB}(hf:FOk p S w f){n:aJ}(hn:p.node f.node=n)(hfull:(f.vals.length:Int)=n.asks)(hop:n.op=15):
  PC L 132 [.agg [.fz (p.nodes.map aJ.enc),.fz (p.funs.map (.int .i64)),.int .i64 p.main,.fz (p.cons.map bC.enc)],.agg [.fz (w.objs.map aI.enc),.fz (w.tasks.map (.int .i64)),.fz (w.outs.map aO.enc),.fz (w.ins.map (.int .i64)),.int .i64 w.used],.int .i64 a,.fz (left.map aB.enc),.agg [.int .i64 f.node,.fz (f.env.map aG.enc),.fz (f.vals.map aG.enc)]] (.agg [.fz ((aD p w a left f n).w.objs.map aI.enc),.fz ((aD p w a left f n).w.tasks.map (.int .i64)),.fz ((aD p w a left f n).w.outs.map aO.enc),.fz ((aD p w a left f n).w.ins.map (.int .i64)),.int .i64 (aD p w a left f n).w.used,.int .i64 (aD p w a left f n).what,.int .i64 (aD p w a left f n).e.task,.int .i64 (aD p w a left f n).e.act,.int .i64 (aD p w a left f n).e.n,.int .i64 (aD p w a left f n).e.v.kind,.int .i64 (aD p w a left f n).e.v.n]):=by
 have hfit:=dI h ha;have hni:=cC hf;have hok:=hp.nodes _ (bV hni);rw[hn]at hok;have hkd:=bS hok;have hlen:=hl.len;have hfo:=hf.ok;simp only[bD,aR,bVc,bYb]at hfo;have e:aD p w a left f n=iL w a left n f.env (aW f.vals 0):=by unfold aD;simp[hop]
 rw[e];have hq:n.asks=1:=by simp[aJ.asks,hop]
 have h0:0<f.vals.length:=by omega
 have v0:=hf.vals (cK h0);have hkc:(n.kids.length:Int)=1+n.pats.length:=by rw[hkd];simp[fR,hop]
 have hsn:fE n=true:=by rw[<-hn];simp only[aT,bVc,bVo]at hsp;exact hsp.2 _ (bV hni)
 simp only[fE,bVc,bYb]at hsn;have hpf: ∀q∈n.pats,rH q<=1000:=fun q hq=>by simp only[eC,bVc,bVo]at hok;exact aPj (hok.1.2 q hq)
 have hA:=aPf h ha hl n f.env v0 (by omega) (by omega) hpf (by omega)
 rw[hop]at hA
 refine aL gE rfl rfl ?_
 simp only[go_sem,qC,qG,qW,fO]
 refine aN ?_
 simp only[go_sem,qC,qG,qW,hop,hn,bK hni,bU h0,hA.ret,bVf,bVg,bVh,bVj,bVi,bVd,if_false]
theorem aVu (hp:cF p)(hsp:aT p=true)(h:bQ p w0 S w)(ha:inR a 0 ((w.tasks.length:Int)-1)=true)(hl:LOk p S w left){f:aB}(hf:FOk p S w f){n:aJ}(hn:p.node f.node=n)(hfull:(f.vals.length:Int)=n.asks)(hop:n.op=26):
  PC L 132 [.agg [.fz (p.nodes.map aJ.enc),.fz (p.funs.map (.int .i64)),.int .i64 p.main,.fz (p.cons.map bC.enc)],.agg [.fz (w.objs.map aI.enc),.fz (w.tasks.map (.int .i64)),.fz (w.outs.map aO.enc),.fz (w.ins.map (.int .i64)),.int .i64 w.used],.int .i64 a,.fz (left.map aB.enc),.agg [.int .i64 f.node,.fz (f.env.map aG.enc),.fz (f.vals.map aG.enc)]] (.agg [.fz ((aD p w a left f n).w.objs.map aI.enc),.fz ((aD p w a left f n).w.tasks.map (.int .i64)),.fz ((aD p w a left f n).w.outs.map aO.enc),.fz ((aD p w a left f n).w.ins.map (.int .i64)),.int .i64 (aD p w a left f n).w.used,.int .i64 (aD p w a left f n).what,.int .i64 (aD p w a left f n).e.task,.int .i64 (aD p w a left f n).e.act,.int .i64 (aD p w a left f n).e.n,.int .i64 (aD p w a left f n).e.v.kind,.int .i64 (aD p w a left f n).e.v.n]):=by
 have hfit:=dI h ha;have hni:=cC hf;have hok:=hp.nodes _ (bV hni);rw[hn]at hok;have hkd:=bS hok;have hlen:=hl.len;have hfo:=hf.ok;simp only[bD,aR,bVc,bYb]at hfo;have e:aD p w a left f n=bW w a left (aW f.vals 0):=by unfold aD;simp[hop]
 rw[e];have hq:n.asks=1:=by simp[aJ.asks,hop]
 have h0:0<f.vals.length:=by omega
 have hB:=gW w a left (aW f.vals 0) hfit
 refine aL gE rfl rfl ?_
 simp only[go_sem,qC,qG,qW,fO]
 refine aN ?_
 simp only[go_sem,qC,qG,qW,hop,hn,bK hni,bU h0,hB.ret,bVf,bVg,bVh,bVj,bVi,bVd,if_false]
theorem aVv (hp:cF p)(hsp:aT p=true)(h:bQ p w0 S w)(ha:inR a 0 ((w.tasks.length:Int)-1)=true)(hl:LOk p S w left){f:aB}(hf:FOk p S w f){n:aJ}(hn:p.node f.node=n)(hfull:(f.vals.length:Int)=n.asks)(hop:n.op=27):
  PC L 132 [.agg [.fz (p.nodes.map aJ.enc),.fz (p.funs.map (.int .i64)),.int .i64 p.main,.fz (p.cons.map bC.enc)],.agg [.fz (w.objs.map aI.enc),.fz (w.tasks.map (.int .i64)),.fz (w.outs.map aO.enc),.fz (w.ins.map (.int .i64)),.int .i64 w.used],.int .i64 a,.fz (left.map aB.enc),.agg [.int .i64 f.node,.fz (f.env.map aG.enc),.fz (f.vals.map aG.enc)]] (.agg [.fz ((aD p w a left f n).w.objs.map aI.enc),.fz ((aD p w a left f n).w.tasks.map (.int .i64)),.fz ((aD p w a left f n).w.outs.map aO.enc),.fz ((aD p w a left f n).w.ins.map (.int .i64)),.int .i64 (aD p w a left f n).w.used,.int .i64 (aD p w a left f n).what,.int .i64 (aD p w a left f n).e.task,.int .i64 (aD p w a left f n).e.act,.int .i64 (aD p w a left f n).e.n,.int .i64 (aD p w a left f n).e.v.kind,.int .i64 (aD p w a left f n).e.v.n]):=by
 have hfit:=dI h ha;have hni:=cC hf;have hok:=hp.nodes _ (bV hni);rw[hn]at hok;have hkd:=bS hok;have hlen:=hl.len;have hfo:=hf.ok;simp only[bD,aR,bVc,bYb]at hfo;have e:aD p w a left f n=eF p w a left (uN n 0) f.env:=by unfold aD;simp[hop]
 rw[e];have hkc:(n.kids.length:Int)=1:=by rw[hkd];simp[fR,hop]
 have hk0:0<n.kids.length:=by omega
 have hA:=aPh h ha hl (kid:=uN n 0) (env:=f.env) (by omega)
 refine aL gE rfl rfl ?_
 simp only[go_sem,qC,qG,qW,fO]
 refine aN ?_
 simp only[go_sem,qC,qG,qW,hop,hn,bK hni,bBt hk0,hA.ret,bVf,bVg,bVh,bVj,bVi,bVd,if_false]
theorem aVw (hp:cF p)(hsp:aT p=true)(h:bQ p w0 S w)(ha:inR a 0 ((w.tasks.length:Int)-1)=true)(hl:LOk p S w left){f:aB}(hf:FOk p S w f){n:aJ}(hn:p.node f.node=n)(hfull:(f.vals.length:Int)=n.asks)(hop:n.op=16):
  PC L 132 [.agg [.fz (p.nodes.map aJ.enc),.fz (p.funs.map (.int .i64)),.int .i64 p.main,.fz (p.cons.map bC.enc)],.agg [.fz (w.objs.map aI.enc),.fz (w.tasks.map (.int .i64)),.fz (w.outs.map aO.enc),.fz (w.ins.map (.int .i64)),.int .i64 w.used],.int .i64 a,.fz (left.map aB.enc),.agg [.int .i64 f.node,.fz (f.env.map aG.enc),.fz (f.vals.map aG.enc)]] (.agg [.fz ((aD p w a left f n).w.objs.map aI.enc),.fz ((aD p w a left f n).w.tasks.map (.int .i64)),.fz ((aD p w a left f n).w.outs.map aO.enc),.fz ((aD p w a left f n).w.ins.map (.int .i64)),.int .i64 (aD p w a left f n).w.used,.int .i64 (aD p w a left f n).what,.int .i64 (aD p w a left f n).e.task,.int .i64 (aD p w a left f n).e.act,.int .i64 (aD p w a left f n).e.n,.int .i64 (aD p w a left f n).e.v.kind,.int .i64 (aD p w a left f n).e.v.n]):=by
 have hfit:=dI h ha;have hni:=cC hf;have hok:=hp.nodes _ (bV hni);rw[hn]at hok;have hkd:=bS hok;have hlen:=hl.len;have hfo:=hf.ok;simp only[bD,aR,bVc,bYb]at hfo;have e:aD p w a left f n=eG w a left 16 f.vals:=by unfold aD;simp[hop]
 rw[e];have hq:n.asks=1:=by simp[aJ.asks,hop]
 have h0:0<f.vals.length:=by omega
 have hA:=aCg (left:=left) (op:=16) h ha (fun v hv=>hf.vals hv) h0 (by omega)
 refine aL gE rfl rfl ?_
 simp only[go_sem,qC,qG,qW,fO]
 refine aN ?_
 simp only[go_sem,qC,qG,qW,hop,hn,bK hni,hA.ret,bVf,bVg,bVh,bVj,bVi,bVd,if_false]
theorem aVx (hp:cF p)(hsp:aT p=true)(h:bQ p w0 S w)(ha:inR a 0 ((w.tasks.length:Int)-1)=true)(hl:LOk p S w left){f:aB}(hf:FOk p S w f){n:aJ}(hn:p.node f.node=n)(hfull:(f.vals.length:Int)=n.asks)(hop:n.op=17):
  PC L 132 [.agg [.fz (p.nodes.map aJ.enc),.fz (p.funs.map (.int .i64)),.int .i64 p.main,.fz (p.cons.map bC.enc)],.agg [.fz (w.objs.map aI.enc),.fz (w.tasks.map (.int .i64)),.fz (w.outs.map aO.enc),.fz (w.ins.map (.int .i64)),.int .i64 w.used],.int .i64 a,.fz (left.map aB.enc),.agg [.int .i64 f.node,.fz (f.env.map aG.enc),.fz (f.vals.map aG.enc)]] (.agg [.fz ((aD p w a left f n).w.objs.map aI.enc),.fz ((aD p w a left f n).w.tasks.map (.int .i64)),.fz ((aD p w a left f n).w.outs.map aO.enc),.fz ((aD p w a left f n).w.ins.map (.int .i64)),.int .i64 (aD p w a left f n).w.used,.int .i64 (aD p w a left f n).what,.int .i64 (aD p w a left f n).e.task,.int .i64 (aD p w a left f n).e.act,.int .i64 (aD p w a left f n).e.n,.int .i64 (aD p w a left f n).e.v.kind,.int .i64 (aD p w a left f n).e.v.n]):=by
 have hfit:=dI h ha;have hni:=cC hf;have hok:=hp.nodes _ (bV hni);rw[hn]at hok;have hkd:=bS hok;have hlen:=hl.len;have hfo:=hf.ok;simp only[bD,aR,bVc,bYb]at hfo;have e:aD p w a left f n=eG w a left 17 f.vals:=by unfold aD;simp[hop]
 rw[e];have hq:n.asks=1:=by simp[aJ.asks,hop]
 have h0:0<f.vals.length:=by omega
 have hA:=aCg (left:=left) (op:=17) h ha (fun v hv=>hf.vals hv) h0 (by omega)
 refine aL gE rfl rfl ?_
 simp only[go_sem,qC,qG,qW,fO]
 refine aN ?_
 simp only[go_sem,qC,qG,qW,hop,hn,bK hni,hA.ret,bVf,bVg,bVh,bVj,bVi,bVd,if_false]
theorem aVy (hp:cF p)(hsp:aT p=true)(h:bQ p w0 S w)(ha:inR a 0 ((w.tasks.length:Int)-1)=true)(hl:LOk p S w left){f:aB}(hf:FOk p S w f){n:aJ}(hn:p.node f.node=n)(hfull:(f.vals.length:Int)=n.asks)(hop:n.op=18):
  PC L 132 [.agg [.fz (p.nodes.map aJ.enc),.fz (p.funs.map (.int .i64)),.int .i64 p.main,.fz (p.cons.map bC.enc)],.agg [.fz (w.objs.map aI.enc),.fz (w.tasks.map (.int .i64)),.fz (w.outs.map aO.enc),.fz (w.ins.map (.int .i64)),.int .i64 w.used],.int .i64 a,.fz (left.map aB.enc),.agg [.int .i64 f.node,.fz (f.env.map aG.enc),.fz (f.vals.map aG.enc)]] (.agg [.fz ((aD p w a left f n).w.objs.map aI.enc),.fz ((aD p w a left f n).w.tasks.map (.int .i64)),.fz ((aD p w a left f n).w.outs.map aO.enc),.fz ((aD p w a left f n).w.ins.map (.int .i64)),.int .i64 (aD p w a left f n).w.used,.int .i64 (aD p w a left f n).what,.int .i64 (aD p w a left f n).e.task,.int .i64 (aD p w a left f n).e.act,.int .i64 (aD p w a left f n).e.n,.int .i64 (aD p w a left f n).e.v.kind,.int .i64 (aD p w a left f n).e.v.n]):=by
 have hfit:=dI h ha;have hni:=cC hf;have hok:=hp.nodes _ (bV hni);rw[hn]at hok;have hkd:=bS hok;have hlen:=hl.len;have hfo:=hf.ok;simp only[bD,aR,bVc,bYb]at hfo;have e:aD p w a left f n=eG w a left 18 f.vals:=by unfold aD;simp[hop]
 rw[e];have hq:n.asks=2:=by simp[aJ.asks,hop]
 have h0:0<f.vals.length:=by omega
 have hA:=aCg (left:=left) (op:=18) h ha (fun v hv=>hf.vals hv) h0 (by omega)
 refine aL gE rfl rfl ?_
 simp only[go_sem,qC,qG,qW,fO]
 refine aN ?_
 simp only[go_sem,qC,qG,qW,hop,hn,bK hni,hA.ret,bVf,bVg,bVh,bVj,bVi,bVd,if_false]
theorem aVz (hp:cF p)(hsp:aT p=true)(h:bQ p w0 S w)(ha:inR a 0 ((w.tasks.length:Int)-1)=true)(hl:LOk p S w left){f:aB}(hf:FOk p S w f){n:aJ}(hn:p.node f.node=n)(hfull:(f.vals.length:Int)=n.asks)(hop:n.op=19):
  PC L 132 [.agg [.fz (p.nodes.map aJ.enc),.fz (p.funs.map (.int .i64)),.int .i64 p.main,.fz (p.cons.map bC.enc)],.agg [.fz (w.objs.map aI.enc),.fz (w.tasks.map (.int .i64)),.fz (w.outs.map aO.enc),.fz (w.ins.map (.int .i64)),.int .i64 w.used],.int .i64 a,.fz (left.map aB.enc),.agg [.int .i64 f.node,.fz (f.env.map aG.enc),.fz (f.vals.map aG.enc)]] (.agg [.fz ((aD p w a left f n).w.objs.map aI.enc),.fz ((aD p w a left f n).w.tasks.map (.int .i64)),.fz ((aD p w a left f n).w.outs.map aO.enc),.fz ((aD p w a left f n).w.ins.map (.int .i64)),.int .i64 (aD p w a left f n).w.used,.int .i64 (aD p w a left f n).what,.int .i64 (aD p w a left f n).e.task,.int .i64 (aD p w a left f n).e.act,.int .i64 (aD p w a left f n).e.n,.int .i64 (aD p w a left f n).e.v.kind,.int .i64 (aD p w a left f n).e.v.n]):=by
 have hfit:=dI h ha;have hni:=cC hf;have hok:=hp.nodes _ (bV hni);rw[hn]at hok;have hkd:=bS hok;have hlen:=hl.len;have hfo:=hf.ok;simp only[bD,aR,bVc,bYb]at hfo;have e:aD p w a left f n=dR p w a left (aW f.vals 0):=by unfold aD;simp[hop]
 rw[e];have hq:n.asks=1:=by simp[aJ.asks,hop]
 have h0:0<f.vals.length:=by omega
 have v0:=hf.vals (cK h0);have hA:=aPi (left:=left) hp h ha v0
 refine aL gE rfl rfl ?_
 simp only[go_sem,qC,qG,qW,fO]
 refine aN ?_
 simp only[go_sem,qC,qG,qW,hop,hn,bK hni,bU h0,hA.ret,bVf,bVg,bVh,bVj,bVi,bVd,if_false]
theorem aV0 (hp:cF p)(hsp:aT p=true)(h:bQ p w0 S w)(ha:inR a 0 ((w.tasks.length:Int)-1)=true)(hl:LOk p S w left){f:aB}(hf:FOk p S w f){n:aJ}(hn:p.node f.node=n)(hfull:(f.vals.length:Int)=n.asks)(hop:n.op=20):
  PC L 132 [.agg [.fz (p.nodes.map aJ.enc),.fz (p.funs.map (.int .i64)),.int .i64 p.main,.fz (p.cons.map bC.enc)],.agg [.fz (w.objs.map aI.enc),.fz (w.tasks.map (.int .i64)),.fz (w.outs.map aO.enc),.fz (w.ins.map (.int .i64)),.int .i64 w.used],.int .i64 a,.fz (left.map aB.enc),.agg [.int .i64 f.node,.fz (f.env.map aG.enc),.fz (f.vals.map aG.enc)]] (.agg [.fz ((aD p w a left f n).w.objs.map aI.enc),.fz ((aD p w a left f n).w.tasks.map (.int .i64)),.fz ((aD p w a left f n).w.outs.map aO.enc),.fz ((aD p w a left f n).w.ins.map (.int .i64)),.int .i64 (aD p w a left f n).w.used,.int .i64 (aD p w a left f n).what,.int .i64 (aD p w a left f n).e.task,.int .i64 (aD p w a left f n).e.act,.int .i64 (aD p w a left f n).e.n,.int .i64 (aD p w a left f n).e.v.kind,.int .i64 (aD p w a left f n).e.v.n]):=by
 have hfit:=dI h ha;have hni:=cC hf;have hok:=hp.nodes _ (bV hni);rw[hn]at hok;have hkd:=bS hok;have hlen:=hl.len;have hfo:=hf.ok;simp only[bD,aR,bVc,bYb]at hfo;have e:aD p w a left f n=eL w a left (aW f.vals 0):=by unfold aD;simp[hop]
 rw[e];have hq:n.asks=1:=by simp[aJ.asks,hop]
 have h0:0<f.vals.length:=by omega
 have v0:=hf.vals (cK h0);have hA:=aVn (left:=left) h ha v0
 refine aL gE rfl rfl ?_
 simp only[go_sem,qC,qG,qW,fO]
 refine aN ?_
 simp only[go_sem,qC,qG,qW,hop,hn,bK hni,bU h0,hA.ret,bVf,bVg,bVh,bVj,bVi,bVd,if_false]
theorem aV1 (hp:cF p)(hsp:aT p=true)(h:bQ p w0 S w)(ha:inR a 0 ((w.tasks.length:Int)-1)=true)(hl:LOk p S w left){f:aB}(hf:FOk p S w f){n:aJ}(hn:p.node f.node=n)(hfull:(f.vals.length:Int)=n.asks)(hop:n.op=21):
  PC L 132 [.agg [.fz (p.nodes.map aJ.enc),.fz (p.funs.map (.int .i64)),.int .i64 p.main,.fz (p.cons.map bC.enc)],.agg [.fz (w.objs.map aI.enc),.fz (w.tasks.map (.int .i64)),.fz (w.outs.map aO.enc),.fz (w.ins.map (.int .i64)),.int .i64 w.used],.int .i64 a,.fz (left.map aB.enc),.agg [.int .i64 f.node,.fz (f.env.map aG.enc),.fz (f.vals.map aG.enc)]] (.agg [.fz ((aD p w a left f n).w.objs.map aI.enc),.fz ((aD p w a left f n).w.tasks.map (.int .i64)),.fz ((aD p w a left f n).w.outs.map aO.enc),.fz ((aD p w a left f n).w.ins.map (.int .i64)),.int .i64 (aD p w a left f n).w.used,.int .i64 (aD p w a left f n).what,.int .i64 (aD p w a left f n).e.task,.int .i64 (aD p w a left f n).e.act,.int .i64 (aD p w a left f n).e.n,.int .i64 (aD p w a left f n).e.v.kind,.int .i64 (aD p w a left f n).e.v.n]):=by
 have hfit:=dI h ha;have hni:=cC hf;have hok:=hp.nodes _ (bV hni);rw[hn]at hok;have hkd:=bS hok;have hlen:=hl.len;have hfo:=hf.ok;simp only[bD,aR,bVc,bYb]at hfo;have e:aD p w a left f n=dC (gP w a left ⟨4,0,[],[]⟩) a 21 0 eD:=by unfold aD;simp[hop]
 rw[e];have hM:=aDv w a left ⟨4,0,[],[]⟩ hfit;have hE:=kB (gP w a left ⟨4,0,[],[]⟩) a 21 0 eD;simp only[bVv]at hM
 refine aL gE rfl rfl ?_
 simp only[go_sem,qC,qG,qW,fO]
 refine aN ?_
 simp only[go_sem,qC,qG,qW,hop,hn,bK hni,cX,bP,hM.ret,iM.ret,hE.ret,bVf,bVg,bVh,bVj,bVi,bVd,if_false]
 refine aN ?_
 simp only[go_sem,qC,qG,qW,hop,hn,bK hni,cX,bP,hM.ret,iM.ret,hE.ret,bVf,bVg,bVh,bVj,bVi,bVd,if_false]
theorem aV2 (hp:cF p)(hsp:aT p=true)(h:bQ p w0 S w)(ha:inR a 0 ((w.tasks.length:Int)-1)=true)(hl:LOk p S w left){f:aB}(hf:FOk p S w f){n:aJ}(hn:p.node f.node=n)(hfull:(f.vals.length:Int)=n.asks)(hop:n.op=22):
  PC L 132 [.agg [.fz (p.nodes.map aJ.enc),.fz (p.funs.map (.int .i64)),.int .i64 p.main,.fz (p.cons.map bC.enc)],.agg [.fz (w.objs.map aI.enc),.fz (w.tasks.map (.int .i64)),.fz (w.outs.map aO.enc),.fz (w.ins.map (.int .i64)),.int .i64 w.used],.int .i64 a,.fz (left.map aB.enc),.agg [.int .i64 f.node,.fz (f.env.map aG.enc),.fz (f.vals.map aG.enc)]] (.agg [.fz ((aD p w a left f n).w.objs.map aI.enc),.fz ((aD p w a left f n).w.tasks.map (.int .i64)),.fz ((aD p w a left f n).w.outs.map aO.enc),.fz ((aD p w a left f n).w.ins.map (.int .i64)),.int .i64 (aD p w a left f n).w.used,.int .i64 (aD p w a left f n).what,.int .i64 (aD p w a left f n).e.task,.int .i64 (aD p w a left f n).e.act,.int .i64 (aD p w a left f n).e.n,.int .i64 (aD p w a left f n).e.v.kind,.int .i64 (aD p w a left f n).e.v.n]):=by
 have hfit:=dI h ha;have hni:=cC hf;have hok:=hp.nodes _ (bV hni);rw[hn]at hok;have hkd:=bS hok;have hlen:=hl.len;have hfo:=hf.ok;simp only[bD,aR,bVc,bYb]at hfo;have e:aD p w a left f n=bZ w a left 22 f.vals:=by unfold aD;simp[hop]
 rw[e];have hq:n.asks=2:=by simp[aJ.asks,hop]
 have h0:0<f.vals.length:=by omega
 have hA:=aBh (left:=left) (op:=22) h ha (fun v hv=>hf.vals hv) h0 (by omega)
 refine aL gE rfl rfl ?_
 simp only[go_sem,qC,qG,qW,fO]
 refine aN ?_
 simp only[go_sem,qC,qG,qW,hop,hn,bK hni,hA.ret,bVf,bVg,bVh,bVj,bVi,bVd,if_false]
theorem aV3 (hp:cF p)(hsp:aT p=true)(h:bQ p w0 S w)(ha:inR a 0 ((w.tasks.length:Int)-1)=true)(hl:LOk p S w left){f:aB}(hf:FOk p S w f){n:aJ}(hn:p.node f.node=n)(hfull:(f.vals.length:Int)=n.asks)(hop:n.op=23):
  PC L 132 [.agg [.fz (p.nodes.map aJ.enc),.fz (p.funs.map (.int .i64)),.int .i64 p.main,.fz (p.cons.map bC.enc)],.agg [.fz (w.objs.map aI.enc),.fz (w.tasks.map (.int .i64)),.fz (w.outs.map aO.enc),.fz (w.ins.map (.int .i64)),.int .i64 w.used],.int .i64 a,.fz (left.map aB.enc),.agg [.int .i64 f.node,.fz (f.env.map aG.enc),.fz (f.vals.map aG.enc)]] (.agg [.fz ((aD p w a left f n).w.objs.map aI.enc),.fz ((aD p w a left f n).w.tasks.map (.int .i64)),.fz ((aD p w a left f n).w.outs.map aO.enc),.fz ((aD p w a left f n).w.ins.map (.int .i64)),.int .i64 (aD p w a left f n).w.used,.int .i64 (aD p w a left f n).what,.int .i64 (aD p w a left f n).e.task,.int .i64 (aD p w a left f n).e.act,.int .i64 (aD p w a left f n).e.n,.int .i64 (aD p w a left f n).e.v.kind,.int .i64 (aD p w a left f n).e.v.n]):=by
 have hfit:=dI h ha;have hni:=cC hf;have hok:=hp.nodes _ (bV hni);rw[hn]at hok;have hkd:=bS hok;have hlen:=hl.len;have hfo:=hf.ok;simp only[bD,aR,bVc,bYb]at hfo;have e:aD p w a left f n=bZ w a left 23 f.vals:=by unfold aD;simp[hop]
 rw[e];have hq:n.asks=1:=by simp[aJ.asks,hop]
 have h0:0<f.vals.length:=by omega
 have hA:=aBh (left:=left) (op:=23) h ha (fun v hv=>hf.vals hv) h0 (by omega)
 refine aL gE rfl rfl ?_
 simp only[go_sem,qC,qG,qW,fO]
 refine aN ?_
 simp only[go_sem,qC,qG,qW,hop,hn,bK hni,hA.ret,bVf,bVg,bVh,bVj,bVi,bVd,if_false]
theorem aV4 (hp:cF p)(hsp:aT p=true)(h:bQ p w0 S w)(ha:inR a 0 ((w.tasks.length:Int)-1)=true)(hl:LOk p S w left){f:aB}(hf:FOk p S w f){n:aJ}(hn:p.node f.node=n)(hfull:(f.vals.length:Int)=n.asks)(hop:n.op=24):
  PC L 132 [.agg [.fz (p.nodes.map aJ.enc),.fz (p.funs.map (.int .i64)),.int .i64 p.main,.fz (p.cons.map bC.enc)],.agg [.fz (w.objs.map aI.enc),.fz (w.tasks.map (.int .i64)),.fz (w.outs.map aO.enc),.fz (w.ins.map (.int .i64)),.int .i64 w.used],.int .i64 a,.fz (left.map aB.enc),.agg [.int .i64 f.node,.fz (f.env.map aG.enc),.fz (f.vals.map aG.enc)]] (.agg [.fz ((aD p w a left f n).w.objs.map aI.enc),.fz ((aD p w a left f n).w.tasks.map (.int .i64)),.fz ((aD p w a left f n).w.outs.map aO.enc),.fz ((aD p w a left f n).w.ins.map (.int .i64)),.int .i64 (aD p w a left f n).w.used,.int .i64 (aD p w a left f n).what,.int .i64 (aD p w a left f n).e.task,.int .i64 (aD p w a left f n).e.act,.int .i64 (aD p w a left f n).e.n,.int .i64 (aD p w a left f n).e.v.kind,.int .i64 (aD p w a left f n).e.v.n]):=by
 have hfit:=dI h ha;have hni:=cC hf;have hok:=hp.nodes _ (bV hni);rw[hn]at hok;have hkd:=bS hok;have hlen:=hl.len;have hfo:=hf.ok;simp only[bD,aR,bVc,bYb]at hfo;have e:aD p w a left f n=cR w a left 24 n.n f.vals:=by unfold aD;simp[hop]
 rw[e];have hq:n.asks=1:=by simp[aJ.asks,hop]
 have h0:0<f.vals.length:=by omega
 have hA:=aGd (left:=left) h ha n (fun v hv=>hf.vals hv) (.inr ⟨hop,h0⟩)
 rw[hop]at hA
 refine aL gE rfl rfl ?_
 simp only[go_sem,qC,qG,qW,fO]
 refine aN ?_
 simp only[go_sem,qC,qG,qW,hop,hn,bK hni,hA.ret,bVf,bVg,bVh,bVj,bVi,bVd,if_false]
theorem aV5 (hp:cF p)(hsp:aT p=true)(h:bQ p w0 S w)(ha:inR a 0 ((w.tasks.length:Int)-1)=true)(hl:LOk p S w left){f:aB}(hf:FOk p S w f){n:aJ}(hn:p.node f.node=n)(hfull:(f.vals.length:Int)=n.asks)(hop:n.op=25):
  PC L 132 [.agg [.fz (p.nodes.map aJ.enc),.fz (p.funs.map (.int .i64)),.int .i64 p.main,.fz (p.cons.map bC.enc)],.agg [.fz (w.objs.map aI.enc),.fz (w.tasks.map (.int .i64)),.fz (w.outs.map aO.enc),.fz (w.ins.map (.int .i64)),.int .i64 w.used],.int .i64 a,.fz (left.map aB.enc),.agg [.int .i64 f.node,.fz (f.env.map aG.enc),.fz (f.vals.map aG.enc)]] (.agg [.fz ((aD p w a left f n).w.objs.map aI.enc),.fz ((aD p w a left f n).w.tasks.map (.int .i64)),.fz ((aD p w a left f n).w.outs.map aO.enc),.fz ((aD p w a left f n).w.ins.map (.int .i64)),.int .i64 (aD p w a left f n).w.used,.int .i64 (aD p w a left f n).what,.int .i64 (aD p w a left f n).e.task,.int .i64 (aD p w a left f n).e.act,.int .i64 (aD p w a left f n).e.n,.int .i64 (aD p w a left f n).e.v.kind,.int .i64 (aD p w a left f n).e.v.n]):=by
 have hfit:=dI h ha;have hni:=cC hf;have hok:=hp.nodes _ (bV hni);rw[hn]at hok;have hkd:=bS hok;have hlen:=hl.len;have hfo:=hf.ok;simp only[bD,aR,bVc,bYb]at hfo;have e:aD p w a left f n=cR w a left 25 n.n f.vals:=by unfold aD;simp[hop]
 rw[e];have hA:=aGd (left:=left) h ha n (fun v hv=>hf.vals hv) (.inl hop)
 rw[hop]at hA
 refine aL gE rfl rfl ?_
 simp only[go_sem,qC,qG,qW,fO]
 refine aN ?_
 simp only[go_sem,qC,qG,qW,hop,hn,bK hni,hA.ret,bVf,bVg,bVh,bVj,bVi,bVd,if_false]
theorem aV6 (hp:cF p)(hsp:aT p=true)(h:bQ p w0 S w)(ha:inR a 0 ((w.tasks.length:Int)-1)=true)(hl:LOk p S w left){f:aB}(hf:FOk p S w f){n:aJ}(hn:p.node f.node=n)(hfull:(f.vals.length:Int)=n.asks)(hop:n.op=28):
  PC L 132 [.agg [.fz (p.nodes.map aJ.enc),.fz (p.funs.map (.int .i64)),.int .i64 p.main,.fz (p.cons.map bC.enc)],.agg [.fz (w.objs.map aI.enc),.fz (w.tasks.map (.int .i64)),.fz (w.outs.map aO.enc),.fz (w.ins.map (.int .i64)),.int .i64 w.used],.int .i64 a,.fz (left.map aB.enc),.agg [.int .i64 f.node,.fz (f.env.map aG.enc),.fz (f.vals.map aG.enc)]] (.agg [.fz ((aD p w a left f n).w.objs.map aI.enc),.fz ((aD p w a left f n).w.tasks.map (.int .i64)),.fz ((aD p w a left f n).w.outs.map aO.enc),.fz ((aD p w a left f n).w.ins.map (.int .i64)),.int .i64 (aD p w a left f n).w.used,.int .i64 (aD p w a left f n).what,.int .i64 (aD p w a left f n).e.task,.int .i64 (aD p w a left f n).e.act,.int .i64 (aD p w a left f n).e.n,.int .i64 (aD p w a left f n).e.v.kind,.int .i64 (aD p w a left f n).e.v.n]):=by
 have hfit:=dI h ha;have hni:=cC hf;have hok:=hp.nodes _ (bV hni);rw[hn]at hok;have hkd:=bS hok;have hlen:=hl.len;have hfo:=hf.ok;simp only[bD,aR,bVc,bYb]at hfo;have e:aD p w a left f n=dC (bW w a left eD) a 28 0 eD:=by unfold aD;simp[hop]
 rw[e];have hB:=gW w a left eD hfit;have hE:=kB (bW w a left eD) a 28 0 eD
 refine aL gE rfl rfl ?_
 simp only[go_sem,qC,qG,qW,fO]
 refine aN ?_
 simp only[go_sem,qC,qG,qW,hop,hn,bK hni,iM.ret,hB.ret,hE.ret,bVf,bVg,bVh,bVj,bVi,bVd,if_false]
 refine aN ?_
 simp only[go_sem,qC,qG,qW,hop,hn,bK hni,iM.ret,hB.ret,hE.ret,bVf,bVg,bVh,bVj,bVi,bVd,if_false]
theorem bBu (hp:cF p)(hsp:aT p=true)(h:bQ p w0 S w)(ha:inR a 0 ((w.tasks.length:Int)-1)=true)(hl:LOk p S w left){f:aB}(hf:FOk p S w f)(hfull:(f.vals.length:Int)=(p.node f.node).asks):
  PC L 132 [.agg [.fz (p.nodes.map aJ.enc),.fz (p.funs.map (.int .i64)),.int .i64 p.main,.fz (p.cons.map bC.enc)],.agg [.fz (w.objs.map aI.enc),.fz (w.tasks.map (.int .i64)),.fz (w.outs.map aO.enc),.fz (w.ins.map (.int .i64)),.int .i64 w.used],.int .i64 a,.fz (left.map aB.enc),.agg [.int .i64 f.node,.fz (f.env.map aG.enc),.fz (f.vals.map aG.enc)]] (.agg [.fz ((rE p w a left f).w.objs.map aI.enc),.fz ((rE p w a left f).w.tasks.map (.int .i64)),.fz ((rE p w a left f).w.outs.map aO.enc),.fz ((rE p w a left f).w.ins.map (.int .i64)),.int .i64 (rE p w a left f).w.used,.int .i64 (rE p w a left f).what,.int .i64 (rE p w a left f).e.task,.int .i64 (rE p w a left f).e.act,.int .i64 (rE p w a left f).e.n,.int .i64 (rE p w a left f).e.v.kind,.int .i64 (rE p w a left f).e.v.n]):=by
 obtain⟨o1,o2⟩:=aY6 (hp.nodes _ (bV (cC hf)));have ho:(p.node f.node).op=1 \/(p.node f.node).op=2 \/(p.node f.node).op=3 \/(p.node f.node).op=4 \/(p.node f.node).op=5 \/(p.node f.node).op=6 \/(p.node f.node).op=7 \/(p.node f.node).op=8 \/(p.node f.node).op=9 \/(p.node f.node).op=10 \/(p.node f.node).op=11 \/(p.node f.node).op=12 \/(p.node f.node).op=13 \/(p.node f.node).op=14 \/(p.node f.node).op=15 \/(p.node f.node).op=16 \/(p.node f.node).op=17 \/(p.node f.node).op=18 \/(p.node f.node).op=19 \/(p.node f.node).op=20 \/(p.node f.node).op=21 \/(p.node f.node).op=22 \/(p.node f.node).op=23 \/(p.node f.node).op=24 \/(p.node f.node).op=25 \/(p.node f.node).op=26 \/(p.node f.node).op=27 \/(p.node f.node).op=28:=by omega
 unfold rE;rcases ho with ho|ho|ho|ho|ho|ho|ho|ho|ho|ho|ho|ho|ho|ho|ho|ho|ho|ho|ho|ho|ho|ho|ho|ho|ho|ho|ho|ho
 ·exact aY7 hp hsp h ha hl hf rfl hfull ho
 ·exact aY8 hp hsp h ha hl hf rfl hfull ho
 ·exact aY9 hp hsp h ha hl hf rfl hfull ho
 ·exact aZa hp hsp h ha hl hf rfl hfull ho
 ·exact aZb hp hsp h ha hl hf rfl hfull ho
 ·exact aZc hp hsp h ha hl hf rfl hfull ho
 ·exact aZd hp hsp h ha hl hf rfl hfull ho
 ·exact aZe hp hsp h ha hl hf rfl hfull ho
 ·exact aZf hp hsp h ha hl hf rfl hfull ho
 ·exact aVo hp hsp h ha hl hf rfl hfull ho
 ·exact aVp hp hsp h ha hl hf rfl hfull ho
 ·exact aVq hp hsp h ha hl hf rfl hfull ho
 ·exact aVr hp hsp h ha hl hf rfl hfull ho
 ·exact aVs hp hsp h ha hl hf rfl hfull ho
 ·exact aVt hp hsp h ha hl hf rfl hfull ho
 ·exact aVw hp hsp h ha hl hf rfl hfull ho
 ·exact aVx hp hsp h ha hl hf rfl hfull ho
 ·exact aVy hp hsp h ha hl hf rfl hfull ho
 ·exact aVz hp hsp h ha hl hf rfl hfull ho
 ·exact aV0 hp hsp h ha hl hf rfl hfull ho
 ·exact aV1 hp hsp h ha hl hf rfl hfull ho
 ·exact aV2 hp hsp h ha hl hf rfl hfull ho
 ·exact aV3 hp hsp h ha hl hf rfl hfull ho
 ·exact aV4 hp hsp h ha hl hf rfl hfull ho
 ·exact aV5 hp hsp h ha hl hf rfl hfull ho
 ·exact aVu hp hsp h ha hl hf rfl hfull ho
 ·exact aVv hp hsp h ha hl hf rfl hfull ho
 ·exact aV6 hp hsp h ha hl hf rfl hfull ho
end Go.Proofs.YthpmfghgoabnhaaGreat
namespace Go.Proofs.YthpmfghgoabnhaaGreat
open Go.Abs Go.Proofs
variable {p :aQ}{w0 w:aC}{S:Nat->Prop}{a:Int}
theorem rI {w:aC}{a:Int}{en:En}(ha:inR a 0 ((w.tasks.length:Int)-1)=true):rJ 1 en (.fz (w.tasks.map (.int .i64))) (.int .i64 a)=some {v:= .fp [.int .i64 (iT w a)] 0}:=sF ha
set_option maxHeartbeats 1600000 in
theorem aDw (hp:cF p)(hsp:aT p=true)(h:bQ p w0 S w)(ha:inR a 0 ((w.tasks.length:Int)-1)=true):
  PC L 93 [.agg [.fz (p.nodes.map aJ.enc),.fz (p.funs.map (.int .i64)),.int .i64 p.main,.fz (p.cons.map bC.enc)],.agg [.fz (w.objs.map aI.enc),.fz (w.tasks.map (.int .i64)),.fz (w.outs.map aO.enc),.fz (w.ins.map (.int .i64)),.int .i64 w.used],.int .i64 a] (.agg [.fz ((dV p w a).w.objs.map aI.enc),.fz ((dV p w a).w.tasks.map (.int .i64)),.fz ((dV p w a).w.outs.map aO.enc),.fz ((dV p w a).w.ins.map (.int .i64)),.int .i64 (dV p w a).w.used,.int .i64 (dV p w a).what,.int .i64 (dV p w a).e.task,.int .i64 (dV p w a).e.act,.int .i64 (dV p w a).e.n,.int .i64 (dV p w a).e.v.kind,.int .i64 (dV p w a).e.v.n]):=by
 have hfit:=dI h ha;obtain⟨t1,t2,t3⟩:=h.task ha;have hO:=h.obj t1 t3;have hset:=fun o=>aTn w a o hfit
 have honto:=fun left node env hl=>xW w a left node env hfit hl
 unfold dV
 simp only
 have hio:=fun en=>tV (w:=w) (k:= .i64) (en:=en) t1
 generalize ho:w.obj (iT w a)=o at hO t2 hio⊢;have hk:=hO.ok;rw[dG,if_pos t2,hH]at hk
 by_cases n0:o.n=0
 ·have d0:decide (o.n=0)=true:=decide_eq_true n0;rw[if_neg (fun h=>h n0)]
  rw[if_pos n0]at hk;simp only[bJ,bVc,bYb,bVo,aR]at hk;obtain⟨⟨⟨⟨k1,k2⟩,k3,k4⟩,k5⟩,k6⟩:=hk;have hF: ∀f∈o.frames,FOk p S w f:=fun f hf=>hO.frames hf
  have hwt:IntKind.i64.wrap ((o.frames.length:Int)-1)=(o.frames.length:Int)-1:=bM (by omega)
  by_cases hv1:o.vals.length=1
  ·have dv:decide (o.vals.length=1)=true:=decide_eq_true hv1;have dv':decide ((o.vals.length:Int)=1)=true:=decide_eq_true (by omega)
   rw[if_pos hv1]
   by_cases hf0:o.frames.length=0
   ·rw[if_pos hf0];have hS:=hset ⟨6,1,[aW o.vals 0],[]⟩;simp only[bV9,bVv,aGc]at hS;have df:decide ((o.frames.length:Int)-1<0)=true:=decide_eq_true (by omega)
    refine aL aXr rfl rfl ?_
    simp only[go_sem,qC,qG,qW,aLh]
    refine aN ?_
    simp only[go_sem,qC,qG,qW,rI ha,hio,bVf,bVg,bVh,bVj,bVi,bVd,if_false];simp only[go_sem,qC,qG,qW,d0,dv',hwt,bU (l:=o.vals) (by omega),df]
    refine aN ?_
    simp only[go_sem,qC,qG,qW,rI ha,cX,bP,hS.ret,(aH7 _).ret,bVf,bVg,bVh,bVj,bVi,bVd,if_false]
   ·rw[if_neg hf0];obtain⟨m,hm⟩: ∃m,o.frames.length=m+1:=⟨o.frames.length-1,by omega⟩
    have hmn:m<o.frames.length:=by omega
    have df:decide ((m:Int)<0)=false:=decide_eq_false (by omega)
    have hwt:IntKind.i64.wrap ((o.frames.length:Int)-1)=(m:Int):=by rw[hwt];omega
    have hgd:o.frames.getD (o.frames.length-1) nZ=o.frames[m]:=by
     rw[show o.frames.length-1=m by omega];simp[bVm,hmn]
    have hgz:(o.frames.map aB.enc)[m]?=some (aB.enc o.frames[m]):=by simp[hmn]
    have hlF:aM0 o.frames (aW o.vals 0)=o.frames.set m ⟨o.frames[m].node,o.frames[m].env,o.frames[m].vals++[aW o.vals 0]⟩:=by
     unfold aM0;rw[hgd,show o.frames.length-1=m by omega]
    rw[hlF];have hS:=hset ⟨6,0,[],o.frames.set m ⟨o.frames[m].node,o.frames[m].env,o.frames[m].vals++[aW o.vals 0]⟩⟩;simp only[bW0,bVv,aB.enc]at hS;have hfm:=(hF _ (bVp hmn)).ok;have hal:=aTo hsp (cC (hF _ (bVp hmn)));simp only[bD,aR,bVc,bYb]at hfm;have hM:=aA9 o.frames[m].vals (aW o.vals 0) (by omega)
    have hfe:o.frames.isEmpty=false:=aF6 (by omega)
    have hf16:o.frames.length<=16777216:=by omega
    have hmi:((m:Int)<(o.frames.length:Int)):=by omega
    refine aL aXr rfl rfl ?_
    simp only[go_sem,qC,qG,qW,aLh]
    refine aN ?_
    simp only[go_sem,qC,qG,qW,rI ha,hio,bVf,bVg,bVh,bVj,bVi,bVd,if_false];simp only[go_sem,qC,qG,qW,d0,dv',hwt,bU (l:=o.vals) (by omega),df,cW,gQ,gV,fG,hfe,hf16,nJ,hgz,hmi,rI ha,hM.ret,fH,bX1,bV3,bVk,bXt,bVe,bVw,dA,bO,hS.ret,lA,mN]
  ·have dv':decide ((o.vals.length:Int)=1)=false:=decide_eq_false (by omega)
   rw[if_neg hv1];have hz:o.vals.length=0:=by omega
   obtain⟨m,hm⟩: ∃m,o.frames.length=m+1:=⟨o.frames.length-1,by omega⟩
   have hmn:m<o.frames.length:=by omega
   have hwt:IntKind.i64.wrap ((o.frames.length:Int)-1)=(m:Int):=by rw[hwt];omega
   have hgd:o.frames.getD (o.frames.length-1) nZ=o.frames[m]:=by
    rw[show o.frames.length-1=m by omega];simp[bVm,hmn]
   rw[hgd];have hfo:=hF _ (bVp hmn);have hni:=cC hfo;have hok:=hp.nodes _ (bV hni);have hak:=aH6 hok
   by_cases hop:(o.frames[m].vals.length:Int)<(p.node o.frames[m].node).asks
   ·have dop:decide ((o.frames[m].vals.length:Int)<(p.node o.frames[m].node).asks)=true:=decide_eq_true hop;rw[if_pos hop];have hN:=honto o.frames (uN (p.node o.frames[m].node) o.frames[m].vals.length) o.frames[m].env (by omega)
    refine aL aXr rfl rfl ?_
    simp only[go_sem,qC,qG,qW,aLh]
    refine aN ?_
    simp only[go_sem,qC,qG,qW,rI ha,hio,bVf,bVg,bVh,bVj,bVi,bVd,if_false];simp only[go_sem,qC,qG,qW,d0,dv',hwt,hmn,bK hni,(rR _).ret,dop,aTs (show inR (o.frames[m].vals.length:Int) 0 (((p.node o.frames[m].node).kids.length:Int)-1)=true by simp only[inR,bYb];omega),hN.ret]
   ·have dop:decide ((o.frames[m].vals.length:Int)<(p.node o.frames[m].node).asks)=false:=decide_eq_false hop;rw[if_neg hop];have hfull:(o.frames[m].vals.length:Int)=(p.node o.frames[m].node).asks:=by
     have:=hfo.ok;simp only[bD,aR,bVc,bYb]at this;omega
    have hl:LOk p S w (o.frames.take (o.frames.length-1)):=⟨by simp only[bXc];omega,fun f hf=>hF f (bXp hf),fun f hf=>k6 f (by rw[hz,bWu];exact hf)⟩
    have hD:=bBu hp hsp h ha hl hfo hfull;rw[show o.frames.length-1=m by omega]at hD⊢
    have hml:m<=o.frames.length:=by omega
    refine aL aXr rfl rfl ?_
    simp only[go_sem,qC,qG,qW,aLh]
    refine aN ?_
    simp only[go_sem,qC,qG,qW,rI ha,hio,bVf,bVg,bVh,bVj,bVi,bVd,if_false];simp only[go_sem,qC,qG,qW,d0,dv',hwt,hmn,bK hni,(rR _).ret,dop]
    refine aN ?_
    cases h0:(o.frames.take m).isEmpty with
    |true=>
     have h0':o.frames.take m=[]:=by simpa using h0
     rw[h0']at hD⊢;simp only[bVv]at hD;simp only[go_sem,qC,qG,qW,qQ,hml,<-bXh,h0',bVv,bVk,cW,gQ,lD,hD.ret,bVf,bVg,bVh,bVj,bVi,bVd,if_false]
    |false=>
     have h16:(o.frames.take m).length<=16777216:=by simp only[bXc];omega
     generalize hgm:o.frames.take m=dl at*;simp only[go_sem,qC,qG,qW,qQ,hml,<-bXh,hgm,bVk,cW,gQ,gV,fG,h0,h16,nJ,bVe,bVw,dA,bO,hD.ret,bVf,bVg,bVh,bVj,bVi,bVd,if_false]
 ·have d0:decide (o.n=0)=false:=decide_eq_false n0;rw[if_pos n0]
  refine aL aXr rfl rfl ?_
  simp only[go_sem,qC,qG,qW,aLh]
  refine aN ?_
  simp only[go_sem,qC,qG,qW,rI ha,hio,bVf,bVg,bVh,bVj,bVi,bVd,if_false];simp only[go_sem,qC,qG,qW,d0,oB,lA,mN]
end Go.Proofs.YthpmfghgoabnhaaGreat
namespace Go.Proofs.YthpmfghgoabnhaaGreat
open Go.Abs Go.Proofs
variable {p :aQ}{w0 w:aC}{S:Nat->Prop}{a:Int}
theorem aV7 (x:Int)(n:Nat)(hn:0<n)(hf:n<=1000000):PC L 94 [.int .i64 x,.int .i64 n] (.int .i64 (x%(n:Int))):=by
 refine aL bTd rfl rfl ?_
 have h0: ¬((n:Int)=0):=by omega
 have h1:=Int.emod_nonneg x (show(n:Int)≠0 by omega)
 have h2:=Int.emod_lt_of_pos x (show 0<(n:Int)by omega)
 have e:=Int.tmod_eq_emod (a:=x) (b:=n)
 by_cases hc:0<=x \/(n:Int)∣x
 ·rw[if_pos hc]at e;have d:decide (x.tmod n<0)=false:=decide_eq_false (by omega)
  simp only[go_sem,qC,qG,qW,aXn,h0,d];rw[e];simp
 ·rw[if_neg hc]at e;have d:decide (x.tmod n<0)=true:=decide_eq_true (by omega)
  have hw:IntKind.i64.wrap (x.tmod n+n)=x%n:=by rw[bM (by omega)];omega
  simp only[go_sem,qC,qG,qW,aXn,h0,d,hw]
def bCs (agg:Bool)(off m:Nat):Val->Option Res
 | .agg cs=>if off+m<=cs.length then(fW agg ((cs.drop off).take m)).map fun v=>{v}else none
 |_=>none
section
variable {en :En}{d g:Nat}{get:Opd->Val}
theorem aZg {agg:Bool}{off m:Nat}{x:Opd}:cP d g en get (.fld agg off m x)=bCs agg off m (get x):=(rfl)
theorem aTu {agg:Bool}{off m:Nat}{cs:List Val}:bCs agg off m (.agg cs)=if off+m<=cs.length then(fW agg ((cs.drop off).take m)).map fun v=>{v}else none:=(rfl)
end
theorem aZh (hp:cF p)(hsp:aT p=true)(h:bQ p w0 S w):PC L 92 [.agg [.fz (p.nodes.map aJ.enc),.fz (p.funs.map (.int .i64)),.int .i64 p.main,.fz (p.cons.map bC.enc)],.agg [.fz (w.objs.map aI.enc),.fz (w.tasks.map (.int .i64)),.fz (w.outs.map aO.enc),.fz (w.ins.map (.int .i64)),.int .i64 w.used]] (.fz ((lZ p w).map (.int .i64))):=by
 refine aL bTc rfl rfl ?_
 have hw:=aH8 (aNa hsp h.ok);have ht:w.tasks.length<=130:=by
  obtain⟨a1,a2,a3,a4,a5,a6,a7⟩:=eN.1 h.ok;have:=aBd a5;omega
 simp only[go_sem,qC,qG,qW,bA9]
 refine bF w.tasks.length (fun k st=> ∃fr en cnt v,st=⟨fr,en,cnt⟩/\ fr 2= .ptr ⟨0,2,0⟩ 0/\ en ⟨0,2,0⟩=some (.box [.fz (p.nodes.map aJ.enc),.fz (p.funs.map (.int .i64)),.int .i64 p.main,.fz (p.cons.map bC.enc)] false)/\ fr 3= .ptr ⟨0,3,0⟩ 0/\ en ⟨0,3,0⟩=some (.box [.fz (w.objs.map aI.enc),.fz (w.tasks.map (.int .i64)),.fz (w.outs.map aO.enc),.fz (w.ins.map (.int .i64)),.int .i64 w.used] false)/\ fr 5=v/\ fr 6= .int .i64 k/\ cE en v 1 ((oZ p w k).map (.int .i64)) [23]) 0 (bVn _) ⟨_,_,_,.cl [],rfl,by simp only[go_sem,qW],by simp only[go_sem,qW],by simp only[go_sem,qW],by simp only[go_sem,qW],by simp only[go_sem,qW],by simp only[go_sem,qW],cE.nil _ _⟩ ?_
 rintro k st hk ⟨fr,en,cnt,v,rfl,k2,e2,k3,e3,k5,k6,hv⟩
 simp only[go_sem,qC,qG,qW,k2,e2,k3,e3,k5,k6]
 refine aA (fun hq=>?_) (fun hq=>?_)
 ·have h':k<w.tasks.length:=of_decide_eq_true hq;have ha:inR (k:Int) 0 ((w.tasks.length:Int)-1)=true:=by simp only[inR,bYb];omega
  have hS:=aDw hp hsp h ha;have hst:oZ p w (k+1)=if(dV p w k).what=2 then oZ p w k else oZ p w k++[(k:Int)]:=by
   simp only[oZ,bWr,bXv,bVx,List.filter_cons,List.filter_nil]
   by_cases hq:(dV p w (k:Int)).what=2<;>simp[hq]
  have hln:(oZ p w k).length<=k:=by
   simp only[oZ,bVk];exact bWd (List.length_filter_le _ _) (by simp)
  by_cases h2:(dV p w k).what=2
  ·have d2:decide ((dV p w k).what=2)=true:=decide_eq_true h2;rw[if_pos h2]at hst;simp only[go_sem,qC,qG,qW,k2,e2,k3,e3,k5,k6,h',hS.ret,aZg,aTu,d2]
   refine⟨_,_,_,v,rfl,?_⟩
   simp only[go_sem,qC,qG,qW,k2,e2,k3,e3,k5,k6,aK h' hw.tasks,hst];exact hv
  ·have d2:decide ((dV p w k).what=2)=false:=decide_eq_false h2;rw[if_neg h2]at hst;simp only[go_sem,qC,qG,qW,k2,e2,k3,e3,k5,k6,h',hS.ret,aZg,aTu,d2]
   refine pF (D:=[23]) (xs:=(oZ p w k).map (.int .i64)) (ys:=[.int .i64 (k:Int)]) (rs:=[]) ?_ ?_ ?_ ?_ ?_
   ·simp only[go_sem,qW,k5];exact hv
   ·simp only[go_sem,qW]
   ·rfl
   ·simp only[bVk,bVu,bWa];omega
   ·intro v' en' cnt' hown hen hcnt;have q2:en' ⟨0,2,0⟩=some (.box [.fz (p.nodes.map aJ.enc),.fz (p.funs.map (.int .i64)),.int .i64 p.main,.fz (p.cons.map bC.enc)] false):=by rw[hen 0 2 0 (.inr ⟨by decide,by simp⟩)];simp only[go_sem,qW,e2]
    have q3:en' ⟨0,3,0⟩=some (.box [.fz (w.objs.map aI.enc),.fz (w.tasks.map (.int .i64)),.fz (w.outs.map aO.enc),.fz (w.ins.map (.int .i64)),.int .i64 w.used] false):=by rw[hen 0 3 0 (.inr ⟨by decide,by simp⟩)];simp only[go_sem,qW,e3]
    simp only[go_sem,qC,qG,qW,k2,q2,k3,q3,k6]
    refine⟨_,_,_,v',rfl,?_⟩
    simp only[go_sem,qC,qG,qW,k2,q2,k3,q3,k6,aK h' hw.tasks,hst,bVx];exact hown.sub (by simp)
 ·have:k=w.tasks.length:=by simp at hq;omega
  subst this;obtain⟨r1,ks,s1,_,s2,s3,_⟩:=hv.snap 7;simp only[go_sem,qC,qG,qW,k2,e2,k3,e3,k5,k6,s1];exact s3
theorem aIc (h:bQ p w0 S w):w.tasks.length<=120:=by
 obtain⟨a1,a2,a3,a4,a5,a6,a7⟩:=eN.1 h.ok;have:=aBd a5;omega
theorem aId (hp:cF p)(hsp:aT p=true)(h:bQ p w0 S w)(s:Nat)(hs:s<=5001):
  PC L 91 [.agg [.fz (p.nodes.map aJ.enc),.fz (p.funs.map (.int .i64)),.int .i64 p.main,.fz (p.cons.map bC.enc)],.agg [.fz (w.objs.map aI.enc),.fz (w.tasks.map (.int .i64)),.fz (w.outs.map aO.enc),.fz (w.ins.map (.int .i64)),.int .i64 w.used],.int .i64 (s:Int)] (.tup [.agg [.fz ((iN p w s).1.objs.map aI.enc),.fz ((iN p w s).1.tasks.map (.int .i64)),.fz ((iN p w s).1.outs.map aO.enc),.fz ((iN p w s).1.ins.map (.int .i64)),.int .i64 (iN p w s).1.used],.int .i64 ((iN p w s).2.1:Nat),.bool (iN p w s).2.2]):=by
 refine aL bTb rfl rfl ?_
 simp only[go_sem,qC,qG,qW,bA8]
 refine bF 121 (fun k st=> ∃fr en cnt x t,st=⟨fr,en,cnt⟩/\ fr 2= .int .i64 ((t:Nat):Int)/\ fr 3= .ptr ⟨0,3,0⟩ 0/\ en ⟨0,3,0⟩=some (.box [.fz (p.nodes.map aJ.enc),.fz (p.funs.map (.int .i64)),.int .i64 p.main,.fz (p.cons.map bC.enc)] false)/\ fr 4= .ptr ⟨0,4,0⟩ 0/\ en ⟨0,4,0⟩=some (.box [.fz (x.objs.map aI.enc),.fz (x.tasks.map (.int .i64)),.fz (x.outs.map aO.enc),.fz (x.ins.map (.int .i64)),.int .i64 x.used] false)/\ fr 6= .ptr ⟨0,6,0⟩ 0/\ en ⟨0,6,0⟩=some (.box [.cl [],.cl [],.cl [],.cl [],.int .i64 0] false)/\ fr 9= .int .i64 k/\
  bQ p w0 S x/\ t<=5001/\ jA p (121-k) k x t=iN p w s) 0 (bVn _) ⟨_,_,_,w,s,rfl,by simp only[go_sem,qW],by simp only[go_sem,qW],by simp only[go_sem,qW],by simp only[go_sem,qW],by simp only[go_sem,qW],by simp only[go_sem,qW],by simp only[go_sem,qW],by simp only[go_sem,qW],h,hs,rfl⟩ ?_
 rintro k st hk ⟨fr,en,cnt,x,t,rfl,k2,k3,e3,k4,e4,k6,e6,k9,hx,ht,hD⟩
 have hx120:=aIc hx;simp only[go_sem,qC,qG,qW,k2,k3,e3,k4,e4,k6,e6,k9]
 refine aA (fun hq=>?_) (fun hq=>?_)
 ·have h':k<x.tasks.length:=of_decide_eq_true hq;have ha:inR (k:Int) 0 ((x.tasks.length:Int)-1)=true:=by simp only[inR,bYb];omega
  have hS:=aDw hp hsp hx ha;obtain⟨g10,hg10⟩: ∃g,g=cnt 0 10:=⟨_,rfl⟩
  simp only[go_sem,qC,qG,qW,k2,k3,e3,k4,e4,k6,e6,k9,h',hS.ret,<-hg10];rw[show 121-k=(120-k)+1 by omega,jA,if_pos h']at hD
  refine Go.Abs.wp_loop (fun(j:Nat) st=> ∃fr en cnt y,st=⟨fr,en,cnt⟩/\ fr 2= .int .i64 ((t+j:Nat):Int)/\ fr 3= .ptr ⟨0,3,0⟩ 0/\ en ⟨0,3,0⟩=some (.box [.fz (p.nodes.map aJ.enc),.fz (p.funs.map (.int .i64)),.int .i64 p.main,.fz (p.cons.map bC.enc)] false)/\ fr 4= .ptr ⟨0,4,0⟩ 0/\ en ⟨0,4,0⟩=some (.box [.fz (y.objs.map aI.enc),.fz (y.tasks.map (.int .i64)),.fz (y.outs.map aO.enc),.fz (y.ins.map (.int .i64)),.int .i64 y.used] false)/\ fr 6= .ptr ⟨0,6,0⟩ 0/\ en ⟨0,6,0⟩=some (.box [.cl [],.cl [],.cl [],.cl [],.int .i64 0] false)/\ fr 9= .int .i64 k/\ fr 10= .ptr ⟨0,10,g10⟩ 0/\ en ⟨0,10,g10⟩=some (.box [.fz ((dV p y k).w.objs.map aI.enc),.fz ((dV p y k).w.tasks.map (.int .i64)),.fz ((dV p y k).w.outs.map aO.enc),.fz ((dV p y k).w.ins.map (.int .i64)),.int .i64 (dV p y k).w.used,.int .i64 (dV p y k).what,.int .i64 (dV p y k).e.task,.int .i64 (dV p y k).e.act,.int .i64 (dV p y k).e.n,.int .i64 (dV p y k).e.v.kind,.int .i64 (dV p y k).e.v.n] false)/\
   bQ p w0 S y/\ t+j<=5001/\ k<y.tasks.length/\ fS p k (5000-t) x=((fS p k (5000-(t+j)) y).1,(fS p k (5000-(t+j)) y).2.1+j,(fS p k (5000-(t+j)) y).2.2)) (fun j=>5001-(t+j)) 0
   ⟨_,_,_,x,rfl,by simp only[go_sem,k2],by simp only[go_sem,k3],by simp only[go_sem,e3],by simp only[go_sem,k4],by simp only[go_sem,e4],by simp only[go_sem,k6],by simp only[go_sem,e6],by simp only[go_sem,k9],by simp only[go_sem,qW],by simp only[go_sem,qW],hx,ht,h',rfl⟩ ?_
  clear k2 k3 e3 k4 e4 k6 e6 k9
  rintro j st ⟨fr,en,cnt,y,rfl,k2,k3,e3,k4,e4,k6,e6,k9,k10,e10,hy,htj,hky,hI⟩
  have hay:inR (k:Int) 0 ((y.tasks.length:Int)-1)=true:=by simp only[inR,bYb];omega
  by_cases h0:(dV p y k).what=0
  ·have d0:decide ((dV p y k).what=0)=true:=decide_eq_true h0;have hw1:IntKind.i64.wrap (((t+j:Nat):Int)+1)=((t+j+1:Nat):Int):=by rw[bM (by omega)];omega
   by_cases h5:5000<t+j+1
   ·have d5:decide ((5000:Int)<((t+j+1:Nat):Int))=true:=decide_eq_true (by omega)
    have hI0:fS p k (5000-t) x=(y,1+j,false):=by rw[hI,show 5000-(t+j)=0 by omega,fS,if_pos h0]
    rw[hI0]at hD;simp only[bVd,if_false]at hD;rw[<-hD,show t+(1+j)=t+j+1 by omega]
    simp only[go_sem,qC,qG,qW,k2,k3,e3,k4,e4,k6,e6,k9,k10,e10,d0,hw1,d5]
   ·have d5:decide ((5000:Int)<((t+j+1:Nat):Int))=false:=decide_eq_false (by omega)
    have hy':=tH hp hy hay;have hky':k<(dV p y k).w.tasks.length:=bWg hky (aGa hp hy hay);have hS2:=aDw hp hsp hy' (a:=k) (by simp only[inR,bYb];omega)
    simp only[go_sem,qC,qG,qW,k2,k3,e3,k4,e4,k6,e6,k9,k10,e10,d0,hw1,d5,hS2.ret]
    refine⟨j+1,⟨_,_,_,(dV p y k).w,rfl,?_⟩,by omega⟩
    simp only[go_sem,qC,qG,qW,k2,k3,e3,k4,e4,k6,e6,k9,k10,e10]
    refine⟨by rw[bW2],hy',by omega,hky',?_⟩
    rw[hI,show 5000-(t+j)=(5000-(t+(j+1)))+1 by omega,fS,if_pos h0]
    simp only[bW2,Nat.add_comm 1 j]
  ·have d0:decide ((dV p y k).what=0)=false:=decide_eq_false h0;have hin: ∀m,fS p k m y=(y,0,true):=fun m=>by cases m<;>(rw[fS,if_neg h0])
   rw[hI,hin]at hD;simp only[if_true,bWb]at hD;simp only[go_sem,qC,qG,qW,k2,k3,e3,k4,e4,k6,e6,k9,k10,e10,d0]
   refine⟨by omega,_,_,_,y,t+j,rfl,?_⟩
   simp only[go_sem,qC,qG,qW,k2,k3,e3,k4,e4,k6,e6,k9,aK (show k<121 by omega) (show Few 121 by unfold Few;omega)]
   exact⟨hy,htj,by rw[show 121-(k+1)=120-k by omega];exact hD⟩
 ·have hn: ¬k<x.tasks.length:=of_decide_eq_false hq;have hD':iN p w s=(x,t,true):=by
   rw[<-hD];cases hm:121-k with
   |zero=>rfl
   |succ m=>rw[jA,if_neg hn]
  rw[hD'];simp only[go_sem,qC,qG,qW,k2,k3,e3,k4,e4,k6,e6,k9]
theorem aGe {p:aQ}: ∀(n:Nat) {a:Nat} {w:aC} {s:Nat},(jA p n a w s).2.2=true->(jA p n a w s).2.1<=max s 5000
 |0,_,_,s,_=>by simp only[jA];omega
 |n+1,a,w,s,h=>by
  obtain⟨h1,h2⟩:=xC (p:=p) (a:=a) (5000-s) w;unfold jA at h⊢;split
  ·rename_i ha;rw[if_pos ha]at h;split
   ·rename_i hb;rw[if_pos hb]at h;have:=aGe n h;have:=h2 hb;omega
   ·rename_i hb;rw[if_neg hb]at h;cases h
  ·simp only;omega
theorem bBv (hp:cF p)(hsp:aT p=true)(h:bQ p w0 S w)(pick:Int):
  PC L 47 [.agg [.fz (p.nodes.map aJ.enc),.fz (p.funs.map (.int .i64)),.int .i64 p.main,.fz (p.cons.map bC.enc)],.agg [.fz (w.objs.map aI.enc),.fz (w.tasks.map (.int .i64)),.fz (w.outs.map aO.enc),.fz (w.ins.map (.int .i64)),.int .i64 w.used],.int .i64 pick] (.tup [.agg [.fz ((nL p w pick).1.objs.map aI.enc),.fz ((nL p w pick).1.tasks.map (.int .i64)),.fz ((nL p w pick).1.outs.map aO.enc),.fz ((nL p w pick).1.ins.map (.int .i64)),.int .i64 (nL p w pick).1.used],.agg [.int .i64 (nL p w pick).2.1.task,.int .i64 (nL p w pick).2.1.act,.int .i64 (nL p w pick).2.1.n,.int .i64 (nL p w pick).2.1.v.kind,.int .i64 (nL p w pick).2.1.v.n],.int .i64 ((nL p w pick).2.2.1:Nat),.int .i64 (nL p w pick).2.2.2]):=by
 have hS:=aId hp hsp h 0 (by omega)
 have h1:=xB hp (s:=0) h;have hc:=aGe (p:=p) 121 (a:=0) (w:=w) (s:=0);rw[show((0:Nat):Int)=0 from rfl]at hS
 have hR:=aZh hp hsp h1;unfold nL
 simp only
 refine aL bSm rfl rfl ?_
 have hq1:iN p w 0=jA p 121 0 w 0:=rfl;rw[<-hq1]at hc;generalize hq:iN p w 0=q at hS h1 hR hc⊢;obtain⟨x,s1,ok⟩:=q;dsimp only at hS h1 hR hc⊢;cases ok with
 |false=>
  rw[if_pos rfl];simp only[go_sem,qC,qG,qW,aUo,hS.ret,lA,mN]
 |true=>
  rw[if_neg (by decide)]
  have hx120:=aIc h1
  by_cases hl:lZ p x=[]
  ·rw[if_pos hl];rw[hl,bVv]at hR;simp only[go_sem,qC,qG,qW,aUo,hS.ret,hR.ret,bWa,lA,mN]
  ·rw[if_neg hl];have hll:(lZ p x).length<=120:=by
    simp only[lZ,oZ,bVk];exact bWd (List.length_filter_le _ _) (by simpa using hx120)
   have hl0:0<(lZ p x).length:=bX6.2 hl;have dl:decide (((lZ p x).length:Int)=0)=false:=decide_eq_false (by omega)
   have hMo:=aV7 pick (lZ p x).length hl0 (by omega)
   have hpi:=aTp hl pick;have hem:=Int.emod_nonneg pick (show((lZ p x).length:Int)≠0 by omega)
   have hin:inR (pick%((lZ p x).length:Int)) 0 (((lZ p x).length:Int)-1)=true:=by
    simp only[inR,bYb];omega
   have ha:=aNb (lB (d:=0) hpi);have hSt:=aDw hp hsp h1 ha;have h2:=tH hp h1 ha;generalize hd:dV p x ((lZ p x).getD (pick%((lZ p x).length:Int)).toNat 0)=d at hSt h2⊢;have hc':=hc rfl;have hw1:IntKind.i64.wrap ((s1:Int)+1)=((s1+1:Nat):Int):=by rw[bM (by omega)];omega
   have hS2:=aId hp hsp h2 (s1+1) (by omega)
   have hc2:=yQ (p:=p) 121 (a:=0) (w:=d.w) (s:=s1+1) (by omega)
   have hq2:iN p d.w (s1+1)=jA p 121 0 d.w (s1+1):=rfl;rw[<-hq2]at hc2;generalize hqq:iN p d.w (s1+1)=q at hS2 hc2⊢;obtain⟨y,s2,ok2⟩:=q;dsimp only at hS2 hc2⊢;simp only[go_sem,qC,qG,qW,aUo,hS.ret,hR.ret,dl]
   refine aN ?_
   simp only[go_sem,qC,qG,qW,bVk,hMo.ret,sF hin,hSt.ret,bVf,bVg,bVh,bVj,bVi,bVd,if_false];cases ok2 with
   |false=>
    rw[if_pos (.inl rfl)];simp only[go_sem,qC,qG,qW,hw1,hS2.ret,lA,mN]
   |true=>
    by_cases h5:5000<s2
    ·have d5:decide ((5000:Int)<(s2:Int))=true:=decide_eq_true (by omega)
     rw[if_pos (.inr h5)];simp only[go_sem,qC,qG,qW,hw1,hS2.ret,d5,lA,mN]
    ·have d5:decide ((5000:Int)<(s2:Int))=false:=decide_eq_false (by omega)
     rw[if_neg (by rintro(h|h);cases h;exact h5 h)]
     simp only[go_sem,qC,qG,qW,hw1,hS2.ret,d5]
     refine aN ?_
     simp only[go_sem,qC,qG,qW,bVf,bVg,bVh,bVj,bVi,bVd,if_false]
end Go.Proofs.YthpmfghgoabnhaaGreat
namespace Go.Proofs.YthpmfghgoabnhaaGreat
open Go.Abs Go.Proofs
theorem aDx {a b:Int}{en:En}{k:IntKind}:rJ 1 en (.cl [.int .i64 a,.int .i64 b]) (.int k 1)=some {v:= .fp [.int .i64 b] 0}:=(rfl)
theorem aV8 (l k c:Nat)(hl:l<=1000)(hc:c<=1000)(hk:inR (k:Int) 1 200=true)(h:k<=c):PC L 44 [.int .i64 (l:Int),.int .i64 (k:Int),.int .i64 (c:Int)] (.tup [.int .i64 0,.int .i64 7]):=by
 have hP:=xU (k:Int);rw[hk]at hP;have d1:decide ((l:Int)<0)=false:=decide_eq_false (by omega)
 have d2:decide ((1000000000:Int)<(l:Int))=false:=decide_eq_false (by omega)
 have d3:decide ((c:Int)<0)=false:=decide_eq_false (by omega)
 have d4:decide ((1000000000:Int)<(c:Int))=false:=decide_eq_false (by omega)
 have d5:decide (k<=c)=true:=decide_eq_true h;have w1:IntKind.i64.wrap 1=1:=bM (by omega)
 have w2:IntKind.i64.wrap 2=2:=bM (by omega)
 refine aL bBa rfl rfl ?_
 simp only[go_sem,qC,qG,qW,aN9]
 refine iD ?_
 simp only[go_sem,qC,qG,qW,d1,d2,w1]
 refine iD ?_
 simp only[go_sem,qC,qG,qW,aDx,d3,d4,w2]
 refine iD ?_
 simp only[go_sem,qC,qG,qW,hP.ret,d5]
theorem aV9 (l k c:Nat)(hl:l<=1000)(hc:c<=1000)(hk:inR (k:Int) 1 200=true)(h:c<k): ∃n:Nat,l<=n*(k-c)/\ n<=2000/\ PC L 44 [.int .i64 (l:Int),.int .i64 (k:Int),.int .i64 (c:Int)] (.tup [.int .i64 (n:Int),.int .i64 0]):=by
 have hP:=xU (k:Int);rw[hk]at hP;have hk2:=hk;simp only[inR,bYb]at hk2;have d1:decide ((l:Int)<0)=false:=decide_eq_false (by omega)
 have d2:decide ((1000000000:Int)<(l:Int))=false:=decide_eq_false (by omega)
 have d3:decide ((c:Int)<0)=false:=decide_eq_false (by omega)
 have d4:decide ((1000000000:Int)<(c:Int))=false:=decide_eq_false (by omega)
 have d5:decide (k<=c)=false:=decide_eq_false (by omega)
 have w1:IntKind.i64.wrap 1=1:=bM (by omega)
 have w2:IntKind.i64.wrap 2=2:=bM (by omega)
 obtain⟨m,hm⟩: ∃m,m=k-c:=⟨_,rfl⟩
 have hm0:0<m:=by omega
 have w3:IntKind.i64.wrap ((k:Int)-(c:Int))=(m:Int):=by rw[bM (by omega)];omega
 have hm1: ¬((m:Int)=0):=by omega
 obtain⟨q,hq0⟩: ∃q,q=l/m:=⟨_,rfl⟩
 have hq:(l:Int).tdiv (m:Int)=(q:Int):=by rw[hq0];rfl
 have hql:q<=l:=by rw[hq0];exact Nat.div_le_self _ _
 have w4:IntKind.i64.wrap (q:Int)=(q:Int):=bM (by omega)
 have hmul:q*m<=l:=by rw[hq0];exact Nat.div_mul_le_self _ _
 have hup:l<(q+1)*m:=by
  have h1:=Nat.div_add_mod l m;have h2:=Nat.mod_lt l hm0;rw[hq0,bWm,Nat.mul_comm (l/m) m];omega
 clear hq0;have w5:IntKind.i64.wrap ((q:Int)*(m:Int))=((q*m:Nat):Int):=by
  rw[<-Int.natCast_mul,bM (by omega)]
 have w6:IntKind.i64.wrap ((q:Int)+1)=((q+1:Nat):Int):=by rw[bM (by omega)];rfl
 rw[<-hm]
 by_cases h1:q*m<l
 ·refine⟨q+1,by omega,by omega,?_⟩
  have d6:decide (q*m<l)=true:=decide_eq_true h1
  refine aL bBa rfl rfl ?_
  simp only[go_sem,qC,qG,qW,aN9]
  refine iD ?_
  simp only[go_sem,qC,qG,qW,d1,d2,w1]
  refine iD ?_
  simp only[go_sem,qC,qG,qW,aDx,d3,d4,w2]
  refine iD ?_
  simp only[go_sem,qC,qG,qW,hP.ret,d5,w3,hm1,hq,w4,w5,w6,d6]
 ·have d6:decide (q*m<l)=false:=decide_eq_false h1
  by_cases h0:q=0
  ·refine⟨q+1,by omega,by omega,?_⟩
   have d7:decide ((q:Int)=0)=true:=decide_eq_true (by omega)
   refine aL bBa rfl rfl ?_
   simp only[go_sem,qC,qG,qW,aN9]
   refine iD ?_
   simp only[go_sem,qC,qG,qW,d1,d2,w1]
   refine iD ?_
   simp only[go_sem,qC,qG,qW,aDx,d3,d4,w2]
   refine iD ?_
   simp only[go_sem,qC,qG,qW,hP.ret,d5,w3,hm1,hq,w4,w5,w6,d6,d7]
  ·refine⟨q,by omega,by omega,?_⟩
   have d7:decide ((q:Int)=0)=false:=decide_eq_false (by omega)
   refine aL bBa rfl rfl ?_
   simp only[go_sem,qC,qG,qW,aN9]
   refine iD ?_
   simp only[go_sem,qC,qG,qW,d1,d2,w1]
   refine iD ?_
   simp only[go_sem,qC,qG,qW,aDx,d3,d4,w2]
   refine iD ?_
   simp only[go_sem,qC,qG,qW,hP.ret,d5,w3,hm1,hq,w4,w5,w6,d6,d7]
theorem aPk (p:aQ)(w:aC)(pick:Int):(nL p w pick).2.2.2=0 \/(nL p w pick).2.2.2=5 \/(nL p w pick).2.2.2=8:=by
 unfold nL
 simp only
 split
 ·exact .inr (.inr rfl)
 ·split
  ·exact .inr (.inl rfl)
  ·split
   ·exact .inr (.inr rfl)
   ·exact .inl rfl
def sA (m:List Int)(n:Nat):Nat:=((List.range n).map fun i=>if bR m i=2 then 0 else 1).sum
theorem aBi (m:List Int)(n:Nat):sA m (n+1)=sA m n+if bR m n=2 then 0 else 1:=by
 simp only[sA,bWr,bVx,bV9,bVv,List.sum_append,List.sum_cons,List.sum_nil,bWu]
theorem aPl (m:List Int)(n:Nat):sA m n<=n:=by
 induction n with
 |zero=>exact bVe _
 |succ n ih=>rw[aBi];split<;>omega
theorem aPm {p:aQ}{s:aX}{w:aC}(hp:p.few)(hf:s.few)(hsp:aT p=true)(hs:bI s=true)(h:bY p s=true)(hF:bQ p s.world (fun _=>True) w):
  (cQ s w).few/\ bI (cQ s w)=true/\ bY p (cQ s w)=true/\ dL (cQ s w).marks<=dL s.marks+jE s w w.objs.length/\ jE s w w.objs.length<=120/\
  PC L 36 [.agg [.fz (p.nodes.map aJ.enc),.fz (p.funs.map (.int .i64)),.int .i64 p.main,.fz (p.cons.map bC.enc)],.agg [.fz (s.world.objs.map aI.enc),.fz (s.world.tasks.map (.int .i64)),.fz (s.world.outs.map aO.enc),.fz (s.world.ins.map (.int .i64)),.int .i64 s.world.used,.fz (s.ages.map (.int .i64)),.fz (s.marks.map (.int .i64)),.int .i64 s.cycle],.agg [.fz (w.objs.map aI.enc),.fz (w.tasks.map (.int .i64)),.fz (w.outs.map aO.enc),.fz (w.ins.map (.int .i64)),.int .i64 w.used]] (.tup [.agg [.fz ((cQ s w).world.objs.map aI.enc),.fz ((cQ s w).world.tasks.map (.int .i64)),.fz ((cQ s w).world.outs.map aO.enc),.fz ((cQ s w).world.ins.map (.int .i64)),.int .i64 (cQ s w).world.used,.fz ((cQ s w).ages.map (.int .i64)),.fz ((cQ s w).marks.map (.int .i64)),.int .i64 (cQ s w).cycle],.int .i64 (jE s w w.objs.length:Nat),.int .i64 0]):=by
 obtain⟨hgv,hm,_,_,_,_⟩:=iF.1 h;have hgw:gG p w=true:=by
  simp only[gG,bVc]at hgv⊢;exact⟨hgv.1,hF.ok⟩
 have hsw:=aNa hsp hF.ok;have hwf:=aH8 hsw;have hfo:=aJ9 hF;have hT:=aFu p s w hp hf hwf hsp hs hsw;rw[if_pos ⟨h,hgw⟩,if_pos hfo]at hT;have hok:=aJz h hgw hfo;have hl:=aH3 hok;have hc:=aHx s w w.objs.length;have hle:=hF.le;have hml:=hm.len;have hwl:(cQ s w).world.objs.length=w.objs.length:=rfl;exact⟨aO8 hwf,aJ0 hsw,hok,aKa (by omega),by omega,hT⟩
end Go.Proofs.YthpmfghgoabnhaaGreat
namespace Go.Proofs.YthpmfghgoabnhaaGreat
open Go.Abs Go.Proofs
theorem aWa {m:List Int}(h:dX m<m.length):1<=dL m:=by
 have:=sL (seen:=[]) h ((nG m).2.2 h);omega
theorem aDo (hk:PC L 17 [] (.bool true))(p:aQ)(s:aX)(picks:List Int)(most:Int)(hp:p.few)(hs:s.few)(hpk:Few picks.length):PC L 8 [.agg [.fz (p.nodes.map aJ.enc),.fz (p.funs.map (.int .i64)),.int .i64 p.main,.fz (p.cons.map bC.enc)],.agg [.fz (s.world.objs.map aI.enc),.fz (s.world.tasks.map (.int .i64)),.fz (s.world.outs.map aO.enc),.fz (s.world.ins.map (.int .i64)),.int .i64 s.world.used,.fz (s.ages.map (.int .i64)),.fz (s.marks.map (.int .i64)),.int .i64 s.cycle],.fz (picks.map (.int .i64)),.int .i64 most] (.bool true):=by
 have hG:=aJy p s most hp hs
 refine aL L_8 rfl rfl ?_
 by_cases hg:(aT p&&bI s&&bY p s&&inR most 1 200)=true
 ·rw[hg]at hG;obtain⟨hsp,hss,hst,hc,hsw,k,rfl,hk1,hk2,hk3⟩:=aMz hg
  by_cases h20:20<picks.length
  ·have d20:decide (20<(picks.length:Int))=true:=decide_eq_true (by omega)
   simp only[go_sem,qC,qG,qW,C_8,hG.ret,hk.ret,d20]
  have d20:decide (20<(picks.length:Int))=false:=decide_eq_false (by omega)
  obtain⟨hml,hmo⟩:=aH3 hst;obtain⟨hgv,_,_,_,_,_⟩:=iF.1 hst;have hpg:=hgv;simp only[gG,bVc]at hpg;have hfm:=aVf hpg.1;simp only[go_sem,qC,qG,qW,C_8,hG.ret,d20]
  refine bF s.marks.length (fun j st=> ∃fr en cnt,st=⟨fr,en,cnt⟩/\ fr 2= .fz (picks.map (.int .i64))/\ fr 3= .int .i64 k/\ fr 4= .ptr ⟨0,4,0⟩ 0/\ en ⟨0,4,0⟩=some (.box [.fz (p.nodes.map aJ.enc),.fz (p.funs.map (.int .i64)),.int .i64 p.main,.fz (p.cons.map bC.enc)] false)/\ fr 5= .ptr ⟨0,5,0⟩ 0/\ en ⟨0,5,0⟩=some (.box [.fz (s.world.objs.map aI.enc),.fz (s.world.tasks.map (.int .i64)),.fz (s.world.outs.map aO.enc),.fz (s.world.ins.map (.int .i64)),.int .i64 s.world.used,.fz (s.ages.map (.int .i64)),.fz (s.marks.map (.int .i64)),.int .i64 s.cycle] false)/\ fr 9= .int .i64 (sA s.marks j:Nat)/\ fr 10= .int .i64 0/\ fr 40= .fz (s.marks.map (.int .i64))/\ fr 41= .int .i64 (s.marks.length:Nat)/\ fr 42= .int .i64 j) 0 (bVn _)
   ⟨_,_,_,rfl,by simp only[go_sem,qW],by simp only[go_sem,qW],by simp only[go_sem,qW],by simp only[go_sem,qW],by simp only[go_sem,qW],by simp only[go_sem,qW],by simp only[go_sem,qW];rfl,by simp only[go_sem,qW],by simp only[go_sem,qW],by simp only[go_sem,qW],by simp only[go_sem,qW]⟩ ?_
  rintro j st hj ⟨fr,en,cnt,rfl,h2,h3,h4,e4,h5,e5,h9,h10,h40,h41,h42⟩
  simp only[go_sem,qC,qG,qW,h2,h3,h4,e4,h5,e5,h9,h10,h40,h41,h42]
  refine aA (fun hq=>?_) (fun hq=>?_)
  ·have h':j<s.marks.length:=by simpa using hq
   have hb:=aPl s.marks j;have hsu:=aBi s.marks j;rw[qF h']at hsu
   by_cases hm2:s.marks[j]=2
   ·rw[if_pos hm2]at hsu;have d2:decide (s.marks[j]=2)=true:=decide_eq_true hm2;simp only[go_sem,qC,qG,qW,h2,h3,h4,e4,h5,e5,h9,h10,h40,h41,h42,h',d2]
    refine⟨_,_,_,rfl,?_⟩
    simp only[go_sem,qC,qG,qW,h2,h3,h4,e4,h5,e5,h9,h10,h40,h41,h42,hsu,aK h' (show Few s.marks.length by unfold Few;omega)]
   ·rw[if_neg hm2]at hsu;have d2:decide (s.marks[j]=2)=false:=decide_eq_false hm2;simp only[go_sem,qC,qG,qW,h2,h3,h4,e4,h5,e5,h9,h10,h40,h41,h42,h',d2]
    refine⟨_,_,_,rfl,?_⟩
    simp only[go_sem,qC,qG,qW,h2,h3,h4,e4,h5,e5,h9,h10,h40,h41,h42,hsu,aK h' (show Few s.marks.length by unfold Few;omega),aK (Nat.lt_succ_self (sA s.marks j)) (show Few (sA s.marks j+1)by unfold Few;omega)]
  ·have:j=s.marks.length:=by simp at hq;omega
   subst this;have hlb:sA s.marks s.marks.length=dL s.marks:=rfl;have hlm:=aYw s.marks;rw[hlb]at h9;generalize hl0:dL s.marks=l at h9 hlm;simp only[go_sem,qC,qG,qW,h2,h3,h4,e4,h5,e5,h9,h10,h40,h41,h42]
   refine bF picks.length (fun i st=> ∃fr en cnt x c,st=⟨fr,en,cnt⟩/\ fr 2= .fz (picks.map (.int .i64))/\ fr 3= .int .i64 k/\ fr 4= .ptr ⟨0,4,0⟩ 0/\ en ⟨0,4,0⟩=some (.box [.fz (p.nodes.map aJ.enc),.fz (p.funs.map (.int .i64)),.int .i64 p.main,.fz (p.cons.map bC.enc)] false)/\ fr 5= .ptr ⟨0,5,0⟩ 0/\ en ⟨0,5,0⟩=some (.box [.fz (x.world.objs.map aI.enc),.fz (x.world.tasks.map (.int .i64)),.fz (x.world.outs.map aO.enc),.fz (x.world.ins.map (.int .i64)),.int .i64 x.world.used,.fz (x.ages.map (.int .i64)),.fz (x.marks.map (.int .i64)),.int .i64 x.cycle] false)/\ fr 9= .int .i64 l/\ fr 10= .int .i64 (c:Nat)/\ fr 51= .fz (picks.map (.int .i64))/\ fr 52= .int .i64 (picks.length:Nat)/\ fr 53= .int .i64 i/\
    x.few/\ bI x=true/\ bY p x=true/\ c<=120/\ dL x.marks+i*k<=l+i*c) 0 (bVn _)
    ⟨_,_,_,s,0,rfl,by simp only[go_sem,h2],by simp only[go_sem,h3],by simp only[go_sem,h4],by simp only[go_sem,e4],by simp only[go_sem,h5],by simp only[go_sem,e5],by simp only[go_sem,h9],by simp only[go_sem,h10],by simp only[go_sem,qW],by simp only[go_sem,qW],by simp only[go_sem,qW],hs,hss,hst,by omega,by omega⟩ ?_
   clear h2 h3 h4 e4 h5 e5 h9 h10 h40 h41 h42
   rintro i st hi ⟨fr,en,cnt,x,c,rfl,h2,h3,h4,e4,h5,e5,h9,h10,h51,h52,h53,hxf,hxs,hxo,hc1,hb⟩
   simp only[go_sem,qC,qG,qW,h2,h3,h4,e4,h5,e5,h9,h10,h51,h52,h53]
   refine aA (fun hq=>?_) (fun hq=>?_)
   ·have h':i<picks.length:=by simpa using hq
    obtain⟨hgx,_,_,_,_,_⟩:=iF.1 hxo;have hF0:=aY2 hgx;have hT:=bBv hfm hsp hF0 picks[i];have hF:=aVl hfm hF0 picks[i];have hA:=aPm hp hxf hsp hxs hxo hF;have hne:=aPk p x.world picks[i];generalize hd:nL p x.world picks[i]=d at hT hF hA hne;obtain⟨y,⟨v1,v2,v3,v4⟩,n,er⟩:=d;dsimp only at hT hF hA hne;obtain⟨g15,hg15⟩: ∃g,g=cnt 0 15:=⟨_,rfl⟩
    obtain⟨g16,hg16⟩: ∃g,g=cnt 0 16:=⟨_,rfl⟩
    obtain⟨g19,hg19⟩: ∃g,g=cnt 0 19:=⟨_,rfl⟩
    obtain⟨g22,hg22⟩: ∃g,g=cnt 0 22:=⟨_,rfl⟩
    by_cases h8:er=8
    ·subst h8;simp only[go_sem,qC,qG,qW,h',h2,h3,h4,e4,h5,e5,h9,h10,h51,h52,h53,<-hg15,<-hg16,<-hg19,<-hg22,hT.ret,hk.ret]
    have dm: ∀m:Nat,decide ((m:Int)<0)=false:=fun m=>decide_eq_false (by omega)
    have hmid: ∃(x':aX) (c' m:Nat),x'.few/\ bI x'=true/\ bY p x'=true/\ c'<=120/\ c<=c'/\ dL x'.marks+i*k<=l+i*c+c'/\ ((er=0/\ PC L 36 [.agg [.fz (p.nodes.map aJ.enc),.fz (p.funs.map (.int .i64)),.int .i64 p.main,.fz (p.cons.map bC.enc)],.agg [.fz (x.world.objs.map aI.enc),.fz (x.world.tasks.map (.int .i64)),.fz (x.world.outs.map aO.enc),.fz (x.world.ins.map (.int .i64)),.int .i64 x.world.used,.fz (x.ages.map (.int .i64)),.fz (x.marks.map (.int .i64)),.int .i64 x.cycle],.agg [.fz (y.objs.map aI.enc),.fz (y.tasks.map (.int .i64)),.fz (y.outs.map aO.enc),.fz (y.ins.map (.int .i64)),.int .i64 y.used]] (.tup [.agg [.fz (x'.world.objs.map aI.enc),.fz (x'.world.tasks.map (.int .i64)),.fz (x'.world.outs.map aO.enc),.fz (x'.world.ins.map (.int .i64)),.int .i64 x'.world.used,.fz (x'.ages.map (.int .i64)),.fz (x'.marks.map (.int .i64)),.int .i64 x'.cycle],.int .i64 m,.int .i64 0])/\ max (c:Int) (m:Int)=c') \/(er=5/\ x'=x/\ c'=c)):=by
     rcases hne with h0|h0|h0
     ·obtain⟨a1,a2,a3,a4,a5,a6⟩:=hA;exact⟨_,max c (jE x y y.objs.length),jE x y y.objs.length,a1,a2,a3,by omega,by omega,by omega,.inl ⟨h0,a6,by omega⟩⟩
     ·exact⟨x,c,0,hxf,hxs,hxo,hc1,by omega,by omega,.inr ⟨h0,rfl,rfl⟩⟩
     ·exact absurd h0 h8
    obtain⟨x',c',m,b1,b2,b3,b4,b5,b6,hcase⟩:=hmid;have hFx:=aTg hp b1 hc b2 b3;have hS:=aYv hp b1 hsp b2 b3 hk3;have hfy:=aO7 (k:=k) b1 b2 b3;have hsy:=aMx (most:=k) b3 b2;have hty:=aMw (most:=k) b3;have hFy:=aTg hp hfy hc hsy hty;cases hE:uJ x' k with
    |true=>
     rw[hE]at hS;rcases hcase with⟨rfl,hR,hmx⟩|⟨rfl,rfl,rfl⟩
     ·simp only[go_sem,qC,qG,qW,h',h2,h3,h4,e4,h5,e5,h9,h10,h51,h52,h53,<-hg15,<-hg16,<-hg19,<-hg22,hT.ret,hk.ret,hS.ret,hFx.ret,hFy.ret,hR.ret,hmx,dm]
     ·simp only[go_sem,qC,qG,qW,h',h2,h3,h4,e4,h5,e5,h9,h10,h51,h52,h53,<-hg15,<-hg16,<-hg19,<-hg22,hT.ret,hk.ret,hS.ret,hFx.ret,hFy.ret]
    |false=>
     rw[hE]at hS;obtain⟨hSe,hfg⟩:=aGy hE;have hrb:=aH2 (w:=x'.world) k hfg;have hpos:dL (dM x' k).marks+k<=dL x'.marks:=by rw[hSe];exact hrb
     have hone:1<=dL (dM x' k).marks:=by rw[hSe];exact aWa hfg
     have hcc:c<=c':=b5;have hic:i*c<=i*c':=Nat.mul_le_mul_left _ hcc;have hsk:(i+1)*k=i*k+k:=by rw[bWm,Nat.one_mul]
     have hsc:(i+1)*c'=i*c'+c':=by rw[bWm,Nat.one_mul]
     have hnext:dL (dM x' k).marks+(i+1)*k<=l+(i+1)*c':=by omega
     have hwi:IntKind.i64.wrap ((i:Int)+1)=((i+1:Nat):Int):=aK h' hpk
     by_cases hge:k<=c'
     ·have hW:=aV8 l k c' (by omega) (by omega) hk3 hge
      have dge:decide (k<=c')=true:=decide_eq_true (by omega)
      rcases hcase with⟨rfl,hR,hmx⟩|⟨rfl,rfl,rfl⟩
      ·simp only[go_sem,qC,qG,qW,h',h2,h3,h4,e4,h5,e5,h9,h10,h51,h52,h53,<-hg15,<-hg16,<-hg19,<-hg22,hT.ret,hS.ret,hFx.ret,hFy.ret,hR.ret,hmx,dm,hW.ret,dge]
       refine⟨_,_,_,dM x' k,c',rfl,?_⟩
       simp only[go_sem,qC,qG,qW,h',h2,h3,h4,e4,h5,e5,h9,h10,h51,h52,h53,<-hg15,<-hg16,<-hg19,<-hg22,hT.ret,hwi];exact⟨hfy,hsy,hty,b4,hnext⟩
      ·simp only[go_sem,qC,qG,qW,h',h2,h3,h4,e4,h5,e5,h9,h10,h51,h52,h53,<-hg15,<-hg16,<-hg19,<-hg22,hT.ret,hS.ret,hFx.ret,hFy.ret,hW.ret,dge]
       refine⟨_,_,_,dM x' k,c',rfl,?_⟩
       simp only[go_sem,qC,qG,qW,h',h2,h3,h4,e4,h5,e5,h9,h10,h51,h52,h53,<-hg15,<-hg16,<-hg19,<-hg22,hT.ret,hwi];exact⟨hfy,hsy,hty,b4,hnext⟩
     ·obtain⟨n,hn1,hn2,hW⟩:=aV9 l k c' (by omega) (by omega) hk3 (by omega)
      have dge:decide (k<=c')=false:=decide_eq_false (by omega)
      have hlt:i+1<n:=by
       have h1:(i+1)*(k-c')<l:=by
        have h2:(i+1)*c'<=(i+1)*k:=Nat.mul_le_mul_left _ (by omega)
        rw[Nat.mul_sub];omega
       exact Nat.lt_of_mul_lt_mul_right (bWg h1 hn1)
      have dn:decide (n<=i+1)=false:=decide_eq_false (by omega)
      rcases hcase with⟨rfl,hR,hmx⟩|⟨rfl,rfl,rfl⟩
      ·simp only[go_sem,qC,qG,qW,h',h2,h3,h4,e4,h5,e5,h9,h10,h51,h52,h53,<-hg15,<-hg16,<-hg19,<-hg22,hT.ret,hS.ret,hFx.ret,hFy.ret,hR.ret,hmx,dm,hW.ret,dge,dn,hwi]
       refine⟨_,_,_,dM x' k,c',rfl,?_⟩
       simp only[go_sem,qC,qG,qW,h',h2,h3,h4,e4,h5,e5,h9,h10,h51,h52,h53,<-hg15,<-hg16,<-hg19,<-hg22,hT.ret,hwi];exact⟨hfy,hsy,hty,b4,hnext⟩
      ·simp only[go_sem,qC,qG,qW,h',h2,h3,h4,e4,h5,e5,h9,h10,h51,h52,h53,<-hg15,<-hg16,<-hg19,<-hg22,hT.ret,hS.ret,hFx.ret,hFy.ret,hW.ret,dge,dn,hwi]
       refine⟨_,_,_,dM x' k,c',rfl,?_⟩
       simp only[go_sem,qC,qG,qW,h',h2,h3,h4,e4,h5,e5,h9,h10,h51,h52,h53,<-hg15,<-hg16,<-hg19,<-hg22,hT.ret,hwi];exact⟨hfy,hsy,hty,b4,hnext⟩
   ·simp only[go_sem,qC,qG,qW,h2,h3,h4,e4,h5,e5,h9,h10,h51,h52,h53,hk.ret]
 ·rw[bWi]at hg;rw[hg]at hG;simp only[go_sem,qC,qG,qW,C_8,hG.ret,hk.ret]
end Go.Proofs.YthpmfghgoabnhaaGreat
namespace Go.Proofs.YthpmfghgoabnhaaGreat
open Go.Abs Go.Proofs
open Go.ChangeShapes Go.WideShapes Go.ChangeAt Go.RowKit
set_option maxRecDepth 100000
theorem aNf (hk:PC L 17 [] (.bool true))(os:Os)(started:os.Started)(H:Type)(enc:TypeId×Value->H):
  ReturnsInHanded {} Tryz.checked os 8 .any (Rows.reapEndsSpec.pre6 enc Tryz.prog Tryz.f8 Rows.reapEndsRow.domain false) (Rows.reapEndsSpec.post enc Tryz.prog Tryz.f8 false true false false):=by
 refine returnsInHanded_of_change (C:=Tryz.checked) own started (by kernel_rfl) Tryz.func8
  (ChangeSpec.witness6 (enc:=enc) (C:=Tryz.checked) false ⟨#[],#[.agg #[.slice none 0 0,.slice none 0 0,.int .i64 0,.slice none 0 0],.agg #[.slice none 0 0,.slice none 0 0,.slice none 0 0,.slice none 0 0,.int .i64 0,.slice none 0 0,.slice none 0 0,.int .i64 0],.slice none 0 0,.int .i64 0],[]⟩ 8 (by kernel_rfl) (by kernel_rfl) (by kernel_rfl) (by kernel_rfl)) ?_
 intro W base args ds gs before hval0 hW hcnd _;have hval: ∀(j:Nat) t v,Tryz.f8.params[j]?=some t->args[j]?=some v->Value.okWide Tryz.prog W .any base t v:=hval0
 have hW':=hW;obtain⟨p,q,hA0,hV,rfl,hfz,hnd⟩:=hW;have hA:DataW.TrodAll enc Tryz.prog W 0 (fun _=>true) true Tryz.f8.params.toList args.toList ds p:=hA0
 rw[Tryz.params8]at hA hval;obtain⟨v0,v1,v2,v3,d0,d1,d2,d3,p0,p1,p2,p3,rfl,rfl,rfl,h0,h1,h2,h3⟩:=trodAll_four hA;obtain⟨rfl,rfl⟩:=trodVars_none hV;have a0:=hval 0 26 v0 rfl rfl;have a1:=hval 1 48 v1 rfl rfl;have a2:=hval 2 23 v2 rfl rfl;simp only[Value.okWide,Tryz.underlying26,Tryz.underlying48]at a0 a1;obtain⟨n0,x0,f0,r0⟩:=aL3 (of_decide_eq_true (by kernel_rfl)) (by decide) (a0.imp fun _ h=>h.1) h0
 obtain⟨n1,x1,f1,r1⟩:=aL3 (of_decide_eq_true (by kernel_rfl)) (by decide) (a1.imp fun _ h=>h.1) h1
 obtain⟨l,fl,r2⟩:=aUu (aXw a2) h2;obtain⟨c,rfl,rfl,rfl,wc⟩:=open_int Tryz.underlying3 (hval 3 3 v3 rfl rfl) h3;obtain⟨pr,rfl,fpr⟩:=aOe (n:=n0+3) f0;obtain⟨s,rfl,fs⟩:=aL1 (n:=n1) f1;clear hA0 hval0;obtain⟨n,hn⟩:=aDo hk pr s l c fpr fs fl
 refine(aN1 bKn bTe (hn n (bVe _)) (S:=aCy W) (w:=W) (vals:= #[v0,v1,v2,.int .i64 c]) (fun _ _ h=>h) rfl (fun i hi=>?_)).mono fun e W' ⟨he,hb⟩=>?_
 ·match i,hi with
  |0,_=>exact r0
  |1,_=>exact r1
  |2,_=>exact r2
  |3,_=>exact .int _ _
 ·subst he;exact⟨_,rfl,aW4 (bt:=4) hW' rfl (by kernel_rfl) Tryz.underlying4 rfl aJc (fun t ht=>by
   rw[Tryz.params8]at ht;simp only[bWe,List.not_mem_nil,or_false]at ht;rcases ht with rfl|rfl|rfl|rfl<;>exact⟨by kernel_rfl,of_decide_eq_true (by kernel_rfl)⟩) hb⟩
end Go.Proofs.YthpmfghgoabnhaaGreat
