import Derived.Test.YtmafmhjndjmalaaGreatM2d
import Derived.Test.YtmafmhjndjmalaaGreatM1d
set_option linter.all false
open Bool renaming and_eq_true -> bQj, false_and -> bQ7, false_eq_true -> bQm, not_false -> bQ5, not_true -> bQ0, or_true -> bSj, true_and -> bQ9
open Int renaming eq_ofNat_of_zero_le -> bRn, toNat_natCast -> bRh
open List renaming all_cons -> bSs, all_eq_true -> bQp, append_nil -> bRk, getD_eq_getElem?_getD -> bQn, getElem?_append_left -> bSq, getElem?_eq_getElem -> bRq, getElem?_set_ne -> bTx, getElem_mem -> bQr, length_cons -> bQu, length_map -> bQl, length_nil -> bQz, length_pos_iff -> bTm, length_set -> bSb, length_take -> bR2, map_append -> bRl, map_nil -> bQ1, mem_map -> bRe, mem_of_mem_take -> bS8, nil_append -> bRo, prefix_refl -> bR7, range_succ -> bTp, take_length -> bR1, take_of_length_le -> bQ3, take_succ_cons -> bQs, take_zero -> bQq
open Nat renaming add_assoc -> bSp, add_zero -> bR5, div_mul_le_self -> bT3, dvd_of_mod_eq_zero -> bTy, le_refl -> bQk, le_trans -> bQv, lt_of_lt_of_le -> bRa, zero_add -> bRg, zero_le -> bQt
namespace Go.Proofs.YtmafmhjndjmalaaGreat
open Go.Abs Go.Proofs Tryz
set_option maxRecDepth 100000
set_option maxHeartbeats 4000000
variable {t i:Nat}{v:Val}{k:Key}{a:Int}{p:aF}{w:aA}
section
variable {kt kr:Key}{en:En}{cnt:Nat->Nat->Nat}{w0:aA}{S:Nat->Prop}{left:List aB}{f:aB}{n:aK}{back:List aD}{bv:Val}
theorem lY :(Val.ifc t v).one=true:=(rfl)
theorem iE :(Val.ifc t v).cells=[.ifc t v]:=(rfl)
theorem bE5 :(Val.ptr k i).one=true:=(rfl)
theorem aY3 :(Val.ptr k i).cells=[.ptr k i]:=(rfl)
theorem aVb :cX .neq .iface .nili .nili=some (.bool false):=(rfl)
theorem bIa :cX .neq .iface (.ifc t v) .nili=some (.bool true):=(rfl)
theorem bCi (n0:(w.obj (aZ w a)).n=0)(hf:0<(w.obj (aZ w a)).frames.length)(hv:(w.obj (aZ w a)).vals.length<=1)(he: ∀f∈(w.obj (aZ w a)).frames,f.env.length<=30)(ha:inR a 0 ((w.tasks.length:Int)-1)=true):
  bB p w a=(aHv p w a (w.obj (aZ w a))).did w a:=by
 unfold bB aHv
 simp only
 generalize w.obj (aZ w a)=o at n0 hf hv he;rw[if_neg (fun h=>h n0)]
 by_cases h1:o.vals.length=1
 ·rw[if_pos h1,if_neg (by omega),if_neg (by omega)]
  rfl
 ·have hz:o.vals.length=0:=by omega
  rw[if_neg h1,if_pos hz];have hm:o.frames.getD (o.frames.length-1) dV∈o.frames:=by
   rw[bQn,bRq (by omega)]
   exact bQr _
  have:=he _ hm;split
  ·rw[qM];unfold iT;rw[if_neg (by omega)]
  ·exact xO ha
theorem aLl (hp:eG p)(hsp:aS p=true)(hF:cK p w0 S w)(ha:inR a 0 ((w.tasks.length:Int)-1)=true)(n0:(w.obj (aZ w a)).n=0)(hf0:0<(w.obj (aZ w a)).frames.length){K P:Val}(h:TB kt kr en cnt p w a sC K P):
  aWq kt kr en cnt p w a (w.obj (aZ w a)) (aHv p w a (w.obj (aZ w a))):=by
 obtain⟨t1,t2,t3⟩:=hF.task ha;have hO:=hF.obj t1 t3;generalize w.obj (aZ w a)=o at*;have hk:=hO.ok;rw[dI,if_pos t2,jQ,if_pos n0]at hk;simp only[bS,bQj,bT8,bQp,bA]at hk;obtain⟨⟨⟨⟨k1,k2⟩,k3,k4⟩,k5⟩,k6⟩:=hk;have hfo: ∀f∈o.frames,FOk p S w f:=fun f hf=>hO.frames hf
 have hm:o.frames.getD (o.frames.length-1) dV∈o.frames:=by
  rw[bQn,bRq (by omega)]
  exact bQr _
 have hfm:=hfo _ hm;have hni:=fK hfm;have hok:=hp.nodes _ (iK hni);have hak:=aGk hok;have hfk:=hfm.ok;have hal:=aPx hsp hni;simp only[dF,bA,bQj,bT8]at hfk;unfold aHv
 by_cases hv1:o.vals.length=0
 ·rw[if_pos hv1]
  by_cases hop:((o.frames.getD (o.frames.length-1) dV).vals.length:Int)<(p.node (o.frames.getD (o.frames.length-1) dV).node).asks
  ·rw[if_pos hop];exact bCh h hv1 hf0 (by omega) rfl hni rfl hop (by omega)
  ·rw[if_neg hop];have hl:LOk p S w (o.frames.take (o.frames.length-1)):=⟨by simp only[bR2];omega,fun f hf=>hfo f (bS8 hf),fun f hf=>k6 f (by rw[hv1,bR5];exact hf)⟩
   exact bE4 h hv1 hf0 (by omega) rfl ⟨hp,hsp,hF,ha,hl,hfm,rfl,by omega⟩
 ·rw[if_neg hv1];exact aU9 h (by omega) hf0 (by omega) (by omega)
theorem aDl {L:bG}{ts:List Nat}{l:List aL}{f:Opd}{args:List Opd}{b:aY}{st:St}{Q:Ex->St->Prop}(h:gD L l st fun st2=>Wp L b st2 fun e st3=>ts.any (fun t=>(st3.fr t).isUndef)=false/\
   ∃st4,(∃n0,∀n,n0<=n->iC L (exec L n) (St.get st2.fr f) (args.map (St.get st2.fr)) e st3=some st4)/\ Q .ret st4):Wp L (.dfr ts l f args b) st Q:=h
theorem aIa (s:Int):PC L 170 [.agg [.i s]] (.agg [.i 0,.i 0,.i s,.i 0,.i 0]):=by
 refine pcA func170 ?_
 simp only[go_sem,kK]
noncomputable def bE6 :{c//L 169=some c}:=cA func169
theorem aFf (hp:eG p)(hsp:aS p=true)(hF:cK p w0 S w)(ha:inR a 0 ((w.tasks.length:Int)-1)=true)(h:RS kr en cnt p w):
  WIn L (.fn 118 [] []) [.ptr kr 0,.i a] en cnt fun r en' cnt'=>r=wP (bB p w a).what (bB p w a).e/\ RS kr en' cnt' p (bB p w a).w/\ dR kr kr en cnt en' cnt':=by
 have s2:=h.okr.set;have n2:=h.okr.new;have hr:=h.r;have m2:=h.okr.eqF;have o2:=h.okr.eqF';obtain⟨t1,t2,t3⟩:=hF.task ha;have hO:=hF.obj t1 t3;have hio:=fun en=>yT (w:=w) (k:= .i64) (en:=en) t1
 have hia:=fun en=>sB (en:=en) ha
 have hL120:w.objs.length<=120:=(cD.1 hF.ok).1
 by_cases n0:(w.obj (aZ w a)).n=0
 ·have d0:decide ((w.obj (aZ w a)).n=0)=true:=D_t n0;have hk:=hO.ok;rw[dI,if_pos t2,jQ,if_pos n0]at hk;simp only[bS,bQj,bT8,bQp,bA]at hk;obtain⟨⟨⟨⟨k1,k2⟩,k3,k4⟩,k5⟩,k6⟩:=hk
  by_cases hf0:(w.obj (aZ w a)).frames.length=0
  ·have hv1:(w.obj (aZ w a)).vals.length=1:=by omega
   have df:decide (((w.obj (aZ w a)).frames.length:Int)=0)=true:=D_t (by omega)
   have e:bB p w a=⟨cW w (aZ w a) ⟨6,1,(w.obj (aZ w a)).vals,[]⟩,1,⟨a,0,1,nE (aE (w.obj (aZ w a)).vals 0)⟩⟩:=by
    unfold bB;simp only;rw[if_neg (fun h=>h n0),if_pos hv1,if_pos hf0]
    generalize (w.obj (aZ w a)).vals=l at hv1
    match l,hv1 with
    |[x],_=>rfl
   rw[e]
   refine gR func118 ?_
   simp only[go_sem,kK,yS (v:= .ptr kr 0) rfl rfl]
   refine aG ?_
   simp only[go_sem,kK,hr,s2,m2,hia,hio,d0,df,bQl,kA,kF]
   refine WIn.mono (zG (h.to (by simp only[s2]) (by(repeat refine upS ?_ (by omega));exact aM _)) (o:=⟨6,1,(w.obj (aZ w a)).vals,[]⟩) (.inl rfl) (.inr rfl) ha t1 (by omega)) ?_
   rintro v e1 c1 ⟨rfl,r1,q1⟩
   obtain⟨p3,_⟩:=q1.loc (d:=3) (g:=cnt 0 3) (by simp[aC]) h.okr.ne.symm h.okr.ne.symm
   obtain⟨p4,_⟩:=q1.loc (d:=4) (g:=cnt 0 4) (by simp[aC]) h.okr.ne.symm h.okr.ne.symm
   obtain⟨p5,_⟩:=q1.loc (d:=5) (g:=cnt 0 5) (by simp[aC]) h.okr.ne.symm h.okr.ne.symm
   simp only[go_sem]at p3 p4 p5
   try simp only[go_sem,kK]
   refine aG ?_
   simp only[go_sem,p3,p4,p5,aP (l:=(w.obj (aZ w a)).vals) (by omega),(xP _).ret,lY,iE,kA,kF]
   have u1: ∀t,cnt 0 t<=aC (aC (aC (aC cnt 0 2 (cnt 0 2+1)) 0 3 (cnt 0 3+1)) 0 4 (cnt 0 4+1)) 0 5 (cnt 0 5+1) 0 t:=(by(repeat refine upS ?_ (by omega));exact aM _)
   refine⟨rfl,⟨r1.okr,by rw[s2];exact r1.r⟩,⟨fun k hk a b=>by rw[hk.set,q1.old k (hk.up u1) a b];simp only[hk.set],fun t=>bQv (u1 t) (q1.up t)⟩⟩
  ·have df:decide (((w.obj (aZ w a)).frames.length:Int)=0)=false:=D_f (by omega)
   have e:=bCi (p:=p) n0 (by omega) (by omega) (fun f hf=>by have:=(hO.frames hf).ok;simp only[dF,bA,bQj,bT8]at this;omega) ha
   have hfin:=lC hp hF ha;have hfs:=lC hp (aNq hF) ha;rw[e]at hfin hfs⊢;have hgo: ∀{ev:Option gS} {w':aA} {left':List aB} {back':List aD} {en1:En} {cnt1:Nat->Nat->Nat} {kt:Key},aHv p w a (w.obj (aZ w a))= .go ev w' left' back'->TB kt kr en1 cnt1 p w a sC (.cl []) (.cl [])->
     WIn L (.fn 171 [] []) [.ptr kt 0,.agg [.i (w.obj (aZ w a)).form,.i (w.obj (aZ w a)).n,.fz ((w.obj (aZ w a)).vals.map aD.enc),.fz ((w.obj (aZ w a)).frames.map aB.enc)]] en1 cnt1 fun r en' cnt'=>r=aNv ev/\ (∃f' n' bv',TS kt kr en' cnt' p w' a left' f' n' back' bv')/\ dR kt kr en1 cnt1 en' cnt':=fun hR hB=>by
    have:=aLl hp hsp hF ha n0 (by omega) hB
    rw[hR]at this;exact this
   have hwait: ∀{en1:En} {cnt1:Nat->Nat->Nat} {kt:Key},aHv p w a (w.obj (aZ w a))= .wait->TB kt kr en1 cnt1 p w a sC (.cl []) (.cl [])->
     WIn L (.fn 171 [] []) [.ptr kt 0,.agg [.i (w.obj (aZ w a)).form,.i (w.obj (aZ w a)).n,.fz ((w.obj (aZ w a)).vals.map aD.enc),.fz ((w.obj (aZ w a)).frames.map aB.enc)]] en1 cnt1 fun r en' cnt'=>r=aWf/\ (∃left' f' n' back' bv',TS kt kr en' cnt' p w a left' f' n' back' bv')/\ dR kt kr en1 cnt1 en' cnt':=fun hR hB=>by
    have:=aLl hp hsp hF ha n0 (by omega) hB
    rw[hR]at this;exact this
   have hfail: ∀{s:Int} {en1:En} {cnt1:Nat->Nat->Nat} {kt:Key},aHv p w a (w.obj (aZ w a))= .fail s->TB kt kr en1 cnt1 p w a sC (.cl []) (.cl [])->
     vC L 171 [.ptr kt 0,.agg [.i (w.obj (aZ w a)).form,.i (w.obj (aZ w a)).n,.fz ((w.obj (aZ w a)).vals.map aD.enc),.fz ((w.obj (aZ w a)).frames.map aB.enc)]] en1 cnt1 (oY kt kr en1 cnt1 p s):=fun hR hB=>by
    have:=aLl hp hsp hF ha n0 (by omega) hB
    rw[hR]at this;exact this
   refine gR func118 ?_
   simp only[go_sem,kK,yS (v:= .ptr kr 0) rfl rfl]
   refine aG ?_
   simp only[go_sem,kK,hr,s2,m2,hia,hio,d0,df,bQl,kA,kF]
   refine aDl ?_
   simp only[go_sem,kK,bE5,aY3];generalize hR:aHv p w a (w.obj (aZ w a))=R at hfin hfs⊢;cases R with
   |go ev w' left' back'=>
    refine bR ?_
    simp only[go_sem]
    refine WIn.mono (hgo hR ⟨⟨rfl,by simp[aC]⟩,h.okr.up (by(repeat refine upS ?_ (by omega));exact aM _),h.okr.ne,.inr rfl,.inr rfl,by simp only[cC];rfl,by simp only[s2];exact hr⟩) ?_
    rintro v e1 c1 ⟨rfl,⟨f',n',bv',t1⟩,q1⟩
    obtain⟨p2,_⟩:=q1.loc (d:=2) (g:=cnt 0 2) (by simp[aC]) (by simp) h.okr.ne.symm
    obtain⟨p3,_⟩:=q1.loc (d:=3) (g:=cnt 0 3) (by simp[aC]) (by simp) h.okr.ne.symm
    obtain⟨p4,o4⟩:=q1.loc (d:=4) (g:=cnt 0 4) (by simp[aC]) (by simp) h.okr.ne.symm
    simp only[go_sem]at p2 p3 p4;have u1: ∀t,cnt 0 t<=c1 0 t:=fun t=>bQv (((by(repeat refine upS ?_ (by omega));exact aM _): ∀t,cnt 0 t<=(aC (aC (aC (aC (aC (aC cnt 0 2 (cnt 0 2+1)) 0 3 (cnt 0 3+1)) 0 4 (cnt 0 4+1)) 0 5 (cnt 0 5+1)) 0 6 (cnt 0 6+1)) 0 55 (cnt 0 55+1)) 0 t) t) (q1.up t)
    have hold: ∀k,Old k cnt->k≠kr->e1 k=en k:=fun k hk hkr=>by
     rw[q1.old k (hk.up (by(repeat refine upS ?_ (by omega));exact aM _)) hk.ne hkr];simp only[hk.set]
    have hfw:cK p w0 S (cW w' (aZ w' a) ⟨6,0,back',left'⟩):=by cases ev<;>exact hfin
    have hts:w.tasks.length<=w'.tasks.length:=by
     have:cK p w (fun _=>True) (cW w' (aZ w' a) ⟨6,0,back',left'⟩):=by cases ev<;>exact hfs
     exact this.pre.length_le
    have ha':inR a 0 ((w'.tasks.length:Int)-1)=true:=bGf ha hts;have hta:=(hfw.task (a:=a) ha').1;have hta':inR (aZ w' a) 0 ((w'.objs.length:Int)-1)=true:=by simpa only[cW,bSb,aZ]using hta
    have h120:w'.objs.length<=1000000:=by have:=(cD.1 hfw.ok).1;simp only[cW,bSb]at this;omega
    have ht1:=t1.t;have hr1:=t1.r;have x24: ∀(en:En) (e:Option Ent),En.set en ⟨0,4,cnt 0 4⟩ e ⟨0,55,cnt 0 55⟩=en ⟨0,55,cnt 0 55⟩:=fun _ _=>aI (by simp)
    cases ev with
    |none=>
     simp only[go_sem,kK,p2,p3,p4,aNv,aPn,aKt.ret,lY,iE,ht1,x24,t1.ob.one,t1.ob.cells]
     refine WIn.mono (zG (t1.rs.to (by simp only[s2]) (fun _=>bQk _)) (o:=⟨6,0,back',left'⟩) t1.ob (.inl rfl) ha' hta' h120) ?_
     rintro v e2 c2 ⟨rfl,r2,q2⟩
     obtain⟨r4,_⟩:=q2.loc (d:=4) (g:=cnt 0 4) o4.2 h.okr.ne.symm h.okr.ne.symm;rw[cC]at r4;simp only[go_sem,r4,lY,iE]
     refine⟨rfl,tD bE6.2 rfl rfl rfl rfl ?_⟩
     simp only[go_sem,kK,bRo,bRk,aVb];exact⟨rfl,⟨r2.okr,by rw[s2];exact r2.r⟩,⟨fun k hk a b=>by rw[hk.set,q2.old k (hk.up u1) a b,hk.set];exact hold k hk a,fun t=>bQv (u1 t) (q2.up t)⟩⟩
    |some ev=>
     simp only[go_sem,kK,p2,p3,p4,aNv,aHr,(aNm _).ret,lY,iE,ht1,x24,t1.ob.one,t1.ob.cells]
     refine WIn.mono (zG (t1.rs.to (by simp only[s2]) (fun _=>bQk _)) (o:=⟨6,0,back',left'⟩) t1.ob (.inl rfl) ha' hta' h120) ?_
     rintro v e2 c2 ⟨rfl,r2,q2⟩
     obtain⟨r4,_⟩:=q2.loc (d:=4) (g:=cnt 0 4) o4.2 h.okr.ne.symm h.okr.ne.symm;rw[cC]at r4;simp only[go_sem,r4,lY,iE]
     refine⟨rfl,tD bE6.2 rfl rfl rfl rfl ?_⟩
     simp only[go_sem,kK,bRo,bRk,aVb];exact⟨rfl,⟨r2.okr,by rw[s2];exact r2.r⟩,⟨fun k hk a b=>by rw[hk.set,q2.old k (hk.up u1) a b,hk.set];exact hold k hk a,fun t=>bQv (u1 t) (q2.up t)⟩⟩
   |wait=>
    refine bR ?_
    simp only[go_sem]
    refine WIn.mono (hwait hR ⟨⟨rfl,by simp[aC]⟩,h.okr.up (by(repeat refine upS ?_ (by omega));exact aM _),h.okr.ne,.inr rfl,.inr rfl,by simp only[cC];rfl,by simp only[s2];exact hr⟩) ?_
    rintro v e1 c1 ⟨rfl,⟨left',f',n',back',bv',t1⟩,q1⟩
    obtain⟨p4,o4⟩:=q1.loc (d:=4) (g:=cnt 0 4) (by simp[aC]) (by simp) h.okr.ne.symm
    simp only[go_sem]at p4;have u1: ∀t,cnt 0 t<=c1 0 t:=fun t=>bQv (((by(repeat refine upS ?_ (by omega));exact aM _): ∀t,cnt 0 t<=(aC (aC (aC (aC (aC (aC cnt 0 2 (cnt 0 2+1)) 0 3 (cnt 0 3+1)) 0 4 (cnt 0 4+1)) 0 5 (cnt 0 5+1)) 0 6 (cnt 0 6+1)) 0 55 (cnt 0 55+1)) 0 t) t) (q1.up t)
    have hold: ∀k,Old k cnt->k≠kr->e1 k=en k:=fun k hk hkr=>by
     rw[q1.old k (hk.up (by(repeat refine upS ?_ (by omega));exact aM _)) hk.ne hkr];simp only[hk.set]
    simp only[go_sem,kK,p4,aWf,aNl.ret,lY,iE]
    refine⟨rfl,tD bE6.2 rfl rfl rfl rfl ?_⟩
    simp only[go_sem,kK,bRo,bRk,aVb];exact⟨rfl,⟨t1.okr,by simp only[s2];exact t1.r⟩,⟨fun k hk a b=>by simp only[hk.set];exact hold k hk a,u1⟩⟩
   |fail s=>
    refine cO 2 rfl ?_
    simp only[go_sem,bQs,bQq]
    refine vC.mono (hfail hR ⟨⟨rfl,by simp[aC]⟩,h.okr.up (by(repeat refine upS ?_ (by omega));exact aM _),h.okr.ne,.inr rfl,.inr rfl,by simp only[cC];rfl,by simp only[s2];exact hr⟩) ?_
    rintro v e1 c1 ⟨rfl,q1,O,T,U,I,u,rb⟩
    obtain⟨p2,_⟩:=q1.loc (d:=2) (g:=cnt 0 2) (by simp[aC]) (by simp) h.okr.ne.symm
    obtain⟨p3,_⟩:=q1.loc (d:=3) (g:=cnt 0 3) (by simp[aC]) (by simp) h.okr.ne.symm
    obtain⟨p4,o4⟩:=q1.loc (d:=4) (g:=cnt 0 4) (by simp[aC]) (by simp) h.okr.ne.symm
    obtain⟨p6,_⟩:=q1.loc (d:=6) (g:=cnt 0 6) (by simp[aC]) (by simp) h.okr.ne.symm
    simp only[go_sem]at p2 p3 p4 p6;have u1: ∀t,cnt 0 t<=c1 0 t:=fun t=>bQv (((by(repeat refine upS ?_ (by omega));exact aM _): ∀t,cnt 0 t<=(aC (aC (aC (aC (aC (aC cnt 0 2 (cnt 0 2+1)) 0 3 (cnt 0 3+1)) 0 4 (cnt 0 4+1)) 0 5 (cnt 0 5+1)) 0 6 (cnt 0 6+1)) 0 55 (cnt 0 55+1)) 0 t) t) (q1.up t)
    have hold: ∀k,Old k cnt->k≠kr->e1 k=en k:=fun k hk hkr=>by
     rw[q1.old k (hk.up (by(repeat refine upS ?_ (by omega));exact aM _)) hk.ne hkr];simp only[hk.set]
    have o2':Old ⟨0,2,cnt 0 2⟩ c1:=⟨rfl,bRa (by simp[aC]) (q1.up 2)⟩
    have o3':Old ⟨0,3,cnt 0 3⟩ c1:=⟨rfl,bRa (by simp[aC]) (q1.up 3)⟩
    have okr1:=h.okr.up u1;have s2b:=okr1.set;have n2b:=okr1.new
    refine⟨rfl,tD bE6.2 rfl rfl rfl rfl ?_⟩
    simp only[go_sem,kK,aEx,bRo,bRk,bIa,p2,p3,p6,rb,s2b,n2b,n2]
    refine WIn.mono (zG ⟨okr1.up (fun t=>(upS (aM c1) (a:=5) (x:=c1 0 5+1) (by omega)) t),cC⟩ (o:=⟨6,s,[],[]⟩) (.inr rfl) (.inr rfl) ha t1 (by omega)) ?_
    rintro v e2 c2 ⟨rfl,r2,q2⟩
    have u2: ∀t,c1 0 t<=c2 0 t:=fun t=>bQv ((upS (aM c1) (a:=5) (x:=c1 0 5+1) (by omega)) t) (q2.up t)
    obtain⟨r2',_⟩:=q2.loc (d:=2) (g:=cnt 0 2) (by simp only[aC];exact o2'.2) h.okr.ne.symm h.okr.ne.symm
    obtain⟨r4',_⟩:=q2.loc (d:=4) (g:=cnt 0 4) (by simp only[aC];exact o4.2) h.okr.ne.symm h.okr.ne.symm
    obtain⟨r5',_⟩:=q2.loc (d:=5) (g:=c1 0 5) (by simp[aC]) okr1.ne.symm okr1.ne.symm
    obtain⟨r3',_⟩:=q2.loc (d:=3) (g:=cnt 0 3) (by simp only[aC];exact o3'.2) h.okr.ne.symm h.okr.ne.symm
    simp only[go_sem,n2,n2b,p2,p3,p4]at r2' r3' r4' r5';have s2c:=r2.okr.set;have u3: ∀t,cnt 0 t<=c2 0 t:=fun t=>bQv (u1 t) (u2 t)
    simp only[go_sem,r3',r4',r5',(aIa _).ret,lY,iE]
    refine⟨rfl,⟨r2.okr.up (upS (aM c2) (by omega)),by simp only[s2,s2c];exact r2.r⟩,⟨fun k hk a b=>?_,fun t=>upS (cnt:=cnt) u3 (u3 7|>fun h=>by omega) t⟩⟩
    rw[hk.set];simp only[(hk.up u3).set];rw[q2.old k (hk.up (fun t=>bQv (u1 t) (upS (aM c1) (by omega) t))) a b,aI a]
    simp only[(hk.up u1).set];exact hold k hk a
 ·have d0:decide ((w.obj (aZ w a)).n=0)=false:=D_f n0;have e:bB p w a=lX w:=by unfold bB;simp only;rw[if_pos n0]
  rw[e]
  refine gR func118 ?_
  simp only[go_sem,kK,yS (v:= .ptr kr 0) rfl rfl]
  refine aG ?_
  simp only[go_sem,kK,hr,s2,m2,hia,hio,d0,lY,iE,kA,kF];exact⟨rfl,⟨h.okr.up (by(repeat refine upS ?_ (by omega));exact aM _),by simp only[s2];exact hr⟩,⟨fun k hk _ _=>by simp only[hk.set],(by(repeat refine upS ?_ (by omega));exact aM _)⟩⟩
theorem aP4 (i:Int):PC L 173 [.i i] (.i i):=by
 refine pcA func173 ?_
 simp only[go_sem,kK]
theorem aS5 {α:Type}{f:α->Val}{l:List α}{k:Nat}(h:k<l.length):(l.map f).set k (f l[k])=l.map f:=by
 apply List.ext_getElem
 ·simp
 ·intro i h1 h2;rw[List.getElem_set];split
  ·rename_i e;subst e;simp
  ·rfl
theorem sY (l:List aD)(hl:l.length<=16777216):PC L 209 [.fz (l.map aD.enc),.fp [.fn 173 [] []] 0] (.fz (l.map aD.enc)):=by
 have hf:Few l.length:=by unfold Few;omega
 have hc:=qI (l.map aD.enc) (vW l) (by simpa using hl)
 refine pcA func209 ?_
 by_cases h0:l=[]
 ·subst h0;have hc0:=qI [] rfl (by simp)
  simp only[go_sem,kK,bQ1,hc0.ret,show sI 2 []= .cl []from rfl]
  refine bQ (0) (fun k st=> ∃fr en cnt,st=⟨fr,en,cnt⟩/\ (fr 0= .cl [])/\ (fr 8= .cl [])/\ (fr 9= .i 0)/\ (fr 10= .i k)) 0 (bQt _) (by refine⟨_,_,_,rfl,?_,?_,?_,?_⟩<;>first|(simp only[go_sem];(try rfl);done)|rfl|(simp;done)) ?_
  rintro k st hk ⟨fr,en,cnt,rfl,h0,h8,h9,h10⟩
  simp only[go_sem,kK,h9,h10];have:k=0:=by omega
  subst this;simp only[go_sem,h0]
 ·have h0':l.map aD.enc≠[]:=by simpa using h0
  rw[pK h0']at hc;simp only[go_sem,kK,hc.ret]
  refine bQ (l.length) (fun k st=> ∃fr en cnt,st=⟨fr,en,cnt⟩/\ (fr 0= .bl ⟨0,7,0⟩ 0 l.length)/\ (en ⟨0,7,0⟩=some (.blk 2 (l.map aD.enc) false))/\ (fr 1= .fp [.fn 173 [] []] 0)/\ (fr 8= .bl ⟨0,7,0⟩ 0 l.length)/\ (fr 9= .i l.length)/\ (fr 10= .i k)) 0 (bQt _) (by refine⟨_,_,_,rfl,?_,?_,?_,?_,?_,?_⟩<;>first|(simp only[go_sem,qW,h0,h8,h9,h10];(try rfl);done)|rfl|(simp;done)) ?_
  rintro k st hk ⟨fr,en,cnt,rfl,h0,e7,h1,h8,h9,h10⟩
  simp only[go_sem,kK,h9,h10]
  refine aH (fun hq=>?_) (fun hq=>?_)
  ·have h':k<l.length:=D_o hq;have hx:(l.map aD.enc)[k]?=some (aD.enc l[k]):=by simp[h']
   have hc1:(0:Int)<=(k:Int):=by omega
   have hc2:(k:Int)<(l.length:Int):=by omega
   have hss:=aS5 (f:=aD.enc) h';simp only[go_sem,kK,e7,h8,h10,h',hx,hc1,hc2,true_and,and_true,eq_self,if_true,bRg,bRh]
   refine aH (fun hg=>?_) (fun hg=>?_)
   ·simp only[go_sem,h0,e7,h1,h10,hx,hc1,hc2,and_true,eq_self,if_true,bRg,bRh,(aP4 _).ret,eP];simp only[aD.enc]at hss
    try simp only[go_sem,hss]
    refine⟨_,_,_,rfl,?_⟩
    simp only[go_sem,h0,h1,h8,h9,aR h' hf]
   ·simp only[go_sem,h10]
    refine⟨_,_,_,rfl,?_⟩
    simp only[go_sem,h0,e7,h1,h8,h9,aR h' hf]
  ·simp only[go_sem,h0,e7,bQk,if_true];rw[bQ3 (by simp)]
theorem aY4 (o:aN)(hs:hZ o=true):PC L 172 [.agg [.i o.form,.i o.n,.fz (o.vals.map aD.enc),.fz (o.frames.map aB.enc)],.fn 173 [] []] (.agg [.i o.form,.i o.n,.fz (o.vals.map aD.enc),.fz (o.frames.map aB.enc)]):=by
 obtain⟨b1,b2,b3⟩:=aNg hs;have hf:Few o.frames.length:=by unfold Few;omega
 have hc:=uZ (o.frames.map aB.enc) (jB _) (by rw[bQl];omega)
 refine pcA func172 ?_
 simp only[go_sem,kK,yS (v:= .fn 173 [] []) rfl rfl]
 refine aG ?_
 by_cases h0:o.frames=[]
 ·have hc0:=uZ [] rfl (by simp)
  simp only[go_sem,h0,bQ1,(sY o.vals (by omega)).ret,hc0.ret,show sI 3 []= .cl []from rfl,pZ,lA,kA,kF]
  refine bQ (0) (fun k st=> ∃fr en cnt,st=⟨fr,en,cnt⟩/\ (fr 2= .ptr ⟨0,2,0⟩ 0)/\ (en ⟨0,2,0⟩=some (.box [.i o.form,.i o.n,.fz (o.vals.map aD.enc),.cl []] false))/\ (fr 4= .ptr ⟨0,4,0⟩ 0)/\ (en ⟨0,4,0⟩=some (.box [.i 0,.i 0,.cl [],.cl []] false))/\ (fr 20= .i 0)/\ (fr 21= .i k)) 0 (bQt _) (by refine⟨_,_,_,rfl,?_,?_,?_,?_,?_,?_⟩<;>first|(simp only[go_sem];(try rfl);done)|rfl|(simp;done)) ?_
  rintro k st hk ⟨fr,en,cnt,rfl,h2,e2,h4,e4,h20,h21⟩
  simp only[go_sem,kK,h20,h21];have:k=0:=by omega
  subst this;simp only[go_sem,h2,e2,h4,e4]
 ·have h0':o.frames.map aB.enc≠[]:=by simpa using h0
  rw[pK h0']at hc;simp only[go_sem,(sY o.vals (by omega)).ret,hc.ret,uP,nM,bQl,kA,kF]
  refine bQ (o.frames.length) (fun k st=> ∃fr en cnt,st=⟨fr,en,cnt⟩/\ (fr 2= .ptr ⟨0,2,0⟩ 0)/\ (en ⟨0,2,0⟩=some (.box [.i o.form,.i o.n,.fz (o.vals.map aD.enc),.bl ⟨0,15,0⟩ 0 o.frames.length] false))/\ (fr 4= .ptr ⟨0,4,0⟩ 0)/\ (en ⟨0,4,0⟩=some (.box [.i 0,.i 0,.cl [],.cl []] false))/\ (en ⟨0,15,0⟩=some (.blk 3 (o.frames.map aB.enc) false))/\ (en ⟨0,3,0⟩=some (.box [.fn 173 [] []] true))/\ (fr 5= .fn 209 [] [.ptr ⟨0,3,0⟩ 0])/\ (fr 19= .bl ⟨0,15,0⟩ 0 o.frames.length)/\ (fr 20= .i o.frames.length)/\ (fr 21= .i k)) 0 (bQt _) (by refine⟨_,_,_,rfl,?_,?_,?_,?_,?_,?_,?_,?_,?_,?_⟩<;>first|(simp only[go_sem,qW,h2,e2,h4,e4,h20,h21];(try rfl);done)|rfl|(simp;done)) ?_
  rintro k st hk ⟨fr,en,cnt,rfl,h2,e2,h4,e4,e15,e3,h5,h19,h20,h21⟩
  simp only[go_sem,kK,h20,h21]
  refine aH (fun hq=>?_) (fun hq=>?_)
  ·have h':k<o.frames.length:=D_o hq;have hb:=b3 _ (bQr h');have hx:(o.frames.map aB.enc)[k]?=some (aB.enc o.frames[k]):=by simp[h']
   have hc1:(0:Int)<=(k:Int):=by omega
   have hc2:(k:Int)<(o.frames.length:Int):=by omega
   have hss:=aS5 (f:=aB.enc) h';simp only[aB.enc]at hss;simp only[go_sem,e15,h19,h21,h',hx,hc1,hc2,true_and,and_true,eq_self,if_true,bRg,bRh]
   refine aG ?_
   simp only[go_sem,h2,e2,e15,e3,h5,h21,hx,hc1,hc2,true_and,and_true,eq_self,if_true,bRg,bRh,(sY _ (show o.frames[k].env.length<=16777216 by omega)).ret,(sY _ (show o.frames[k].vals.length<=16777216 by omega)).ret,eP,hss,kA,kF]
   refine⟨_,_,_,rfl,?_⟩
   simp only[go_sem,h2,e2,h4,e4,h5,h19,h20,aR h' hf]
  ·simp only[go_sem,h2,e2,h4,e4,e15,bQk,if_true];rw[bQ3 (by simp)]
def aA9 (what:Int):Int:=if what=2 then 2 else if what=0 then 0 else 1
theorem aIo (what:Int)(e:gS):PC L 119 [wP what e] (.i (aA9 what)):=by
 unfold wP aA9
 by_cases h2:what=2
 ·rw[if_pos h2,if_pos h2];exact aNl
 ·rw[if_neg h2,if_neg h2]
  by_cases h0:what=0
  ·rw[if_pos h0,if_pos h0];exact aKt
  ·rw[if_neg h0,if_neg h0];exact aNm _
theorem aCs (what:Int):decide (aA9 what=2)=decide (what=2):=by
 unfold aA9;split
 ·rename_i h;simp[h]
 ·rename_i h;split<;>simp[h]
theorem aBa (what:Int):decide (aA9 what=0)=decide (what=0):=by
 unfold aA9;split
 ·rename_i h;simp[h]
 ·rename_i h;split<;>rename_i h'<;>simp[h']
theorem aFg (what:Int)(e:gS)(en:En)(n:Nat):snapD (n+4) en (wP what e)=some (wP what e,[]):=by
 unfold wP;split
 ·rfl
 ·split<;>rfl
theorem aIp (what:Int)(e:gS):(wP what e).wk1=wP what e:=by
 unfold wP;split
 ·rfl
 ·split<;>rfl
theorem bE7 (hp:eG p)(hsp:aS p=true)(hF:cK p w0 S w)(ha:inR a 0 ((w.tasks.length:Int)-1)=true):PC L 271 [.fp [.fz (p.nodes.map aK.enc),.fz (p.funs.map (.int .i64)),.i p.main,.fz (p.cons.map cV.enc),.fz (w.objs.map aN.enc),.fz (w.tasks.map (.int .i64)),.fz (w.outs.map bL.enc),.fz (w.ins.map (.int .i64)),.i w.used] 0,.i a] (.i (aA9 (bB p w a).what)):=by
 refine pcA func271 ?_
 simp only[go_sem,kK]
 refine WIn.mono (aFf hp hsp hF ha ⟨⟨rfl,by simp[aC]⟩,by simp only[cC]⟩) ?_
 rintro v e1 c1 ⟨rfl,_,_⟩
 try simp only[go_sem,aFg,aIp,(aIo _ _).ret]
theorem bCj (hp:eG p)(hsp:aS p=true)(hF:cK p w0 S w):PC L 211 [.fp [.fz (p.nodes.map aK.enc),.fz (p.funs.map (.int .i64)),.i p.main,.fz (p.cons.map cV.enc),.fz (w.objs.map aN.enc),.fz (w.tasks.map (.int .i64)),.fz (w.outs.map bL.enc),.fz (w.ins.map (.int .i64)),.i w.used] 0] (sI 1 ((dL p w).map (.int .i64))):=by
 have h120:=xU hF;have hw:Few w.tasks.length:=by unfold Few;omega
 refine pcA func211 ?_
 simp only[go_sem,kK]
 refine bQ w.tasks.length (fun k st=> ∃fr en cnt v,st=⟨fr,en,cnt⟩/\ fr 0= .fp [.fz (p.nodes.map aK.enc),.fz (p.funs.map (.int .i64)),.i p.main,.fz (p.cons.map cV.enc),.fz (w.objs.map aN.enc),.fz (w.tasks.map (.int .i64)),.fz (w.outs.map bL.enc),.fz (w.ins.map (.int .i64)),.i w.used] 0/\ fr 3=v/\ fr 10= .i w.tasks.length/\ fr 11= .i k/\ bK2 en v 1 ((fY p w k).map (.int .i64)) 21/\ (fY p w k=[]->v= .cl [])) 0 (bQt _) (by refine⟨_,_,_,.cl [],rfl,?_,?_,?_,?_,.inl ⟨rfl,rfl⟩,fun _=>rfl⟩<;>simp only[go_sem]) ?_
 rintro k st hk ⟨fr,en,cnt,v,rfl,k0,k3,k10,k11,hv,hv0⟩
 simp only[go_sem,kK,k10,k11]
 refine aH (fun hq=>?_) (fun hq=>?_)
 ·have h':k<w.tasks.length:=D_o hq;have ha:inR (k:Int) 0 ((w.tasks.length:Int)-1)=true:=by simp only[inR,bT8];omega
  have hN:=bE7 hp hsp hF ha;have hln:(fY p w k).length<=k:=by
   simp only[fY,bQl];exact bQv (List.length_filter_le _ _) (by simp)
  have hst:fY p w (k+1)=if(bB p w k).what=2 then fY p w k else fY p w k++[(k:Int)]:=by
   simp only[fY,bTp,List.filter_append,bRl,List.filter_cons,List.filter_nil]
   by_cases hq:(bB p w (k:Int)).what=2<;>simp[hq]
  by_cases h2:(bB p w k).what=2
  ·have d2:decide (aA9 (bB p w k).what=2)=true:=by rw[aCs];exact D_t h2
   rw[if_pos h2]at hst;simp only[go_sem,kK,h',k0,k11,hN.ret,d2]
   refine⟨_,_,_,v,rfl,?_⟩
   simp only[go_sem,k0,k3,k10,aR h' hw,hst];exact⟨hv,hv0⟩
  ·have d2:decide (aA9 (bB p w k).what=2)=false:=by rw[aCs];exact D_f h2
   rw[if_neg h2]at hst;have hl1:(fY p w k).length+1<=16777216:=by omega
   rcases hv with⟨rfl,he⟩|⟨g,rfl,he⟩
   ·have he':fY p w k=[]:=by simpa using he
    rw[he']at hst;simp only[go_sem,kK,h',k0,k3,k11,hN.ret,d2,bP,eB,iW,List.isEmpty_cons,bBy]
    refine⟨_,_,_,.bl ⟨0,21,cnt 0 21⟩ 0 1,rfl,?_⟩
    simp only[go_sem,k0,k10,aR h' hw,hst];exact⟨.inr ⟨_,rfl,cC⟩,fun h=>by simp at h⟩
   ·simp only[go_sem,kK,h',k0,k3,k11,hN.ret,d2,bP,eB,uQ,bBy,he,lB,hl1,bQl,bQu,bQz]
    refine⟨_,_,_,.bl ⟨0,21,cnt 0 21⟩ 0 ((fY p w k).length+1),rfl,?_⟩
    simp only[go_sem,k0,k10,aR h' hw,hst,bRl];exact⟨.inr ⟨_,by simp,cC⟩,fun h=>by simp at h⟩
 ·have:k=w.tasks.length:=by simp at hq;omega
  subst this;rcases hv with⟨rfl,he⟩|⟨g,rfl,he⟩
  ·have he':dL p w=[]:=by simpa[dL]using he
   simp only[go_sem,k3,he'];rfl
  ·have hne:(dL p w).map (Val.int .i64)≠[]:=fun h0=>by
    have:=hv0 (by simpa[dL]using h0)
    cases this
   rw[pK hne];simp only[go_sem,k3,he];rfl
end
end Go.Proofs.YtmafmhjndjmalaaGreat
namespace Go.Abs
def Calm (w:aA)(a:Int):OpR->Prop
 | .go none w' _ _=>w'.tasks=w.tasks/\ w.objs<+:w'.objs/\ w'.outs=w.outs/\ w'.ins=w.ins/\ w'.used=w.used
 | .go (some e) _ _ _=>e.task=a/\ ¬e.act=0
 | .wait=>True
 | .fail s=> ¬s=0
variable {v:aD}{env:List aD}{node n a:Int}{w' w:aA}{p:aF}
section
variable {left:List aB}
theorem aVc :Calm w a (iJ w left v):=⟨rfl,bR7 _,rfl,rfl,rfl⟩
theorem aY5 {l:List aB}:Calm w a (pL w left l):=by
 unfold pL;split
 ·show¬(4:Int)=0;decide
 ·exact⟨rfl,bR7 _,rfl,rfl,rfl⟩
theorem xV :Calm w a (iT w left node env):=by
 unfold iT;split
 ·show¬(4:Int)=0;decide
 ·exact aY5
theorem aNx {op:Int}{e:aD}(h: ¬op=0):Calm w a (kD w' a left op n v e):=⟨rfl,h⟩
theorem aY6 {o:aN}:Calm w a (iJ (dU w o) left v):=⟨rfl,List.prefix_append _ _,rfl,rfl,rfl⟩
theorem aVd {o:aN}:Calm w a (iT (dU w o) left node env):=by
 unfold iT pL;split
 ·show¬(4:Int)=0;decide
 ·split
  ·show¬(4:Int)=0;decide
  ·exact⟨rfl,List.prefix_append _ _,rfl,rfl,rfl⟩
theorem aDm {o:aN}{k:aA->aD->OpR}(h:Calm w a (k (dU w o) (dK w.objs.length))):Calm w a (iB w o k):=by
 unfold iB;split
 ·show¬(4:Int)=0;decide
 ·exact h
theorem aNy {s:Int}(h: ¬s=0):Calm w a (.fail s):=h
theorem aFh {kids:List Int}{env:List aD}{u:aD}: ∀(l:List Pat) (i:Nat),Calm w a (dS w left kids env u i l)
 |[],i=>by show¬(3:Int)=0;decide
 |q::qs,i=>by
  simp only[dS];split
  ·exact xV
  ·exact aFh qs (i+1)
theorem aS6 {c:Prop}[Decidable c]{x y:OpR}(hx:c->Calm w a x)(hy: ¬c->Calm w a y):Calm w a (if c then x else y):=by
 by_cases h:c
 ·rw[if_pos h];exact hx h
 ·rw[if_neg h];exact hy h
theorem aLm {f:aB}{n:aK}:Calm w a (opR p w a left f n):=by
 unfold opR
 repeat' (with_reducible refine aS6 (fun _=>?_) (fun _=>?_))
 all_goals try(split<;>(repeat' (with_reducible refine aS6 (fun _=>?_) (fun _=>?_))))
 all_goals first
  |exact aVc
  |exact xV
  |exact aNx (by decide)
  |exact aNy (by decide)
  |exact aFh _ _
  |exact aDm aY6
  |exact aDm aVd
  |exact aDm (aNx (by decide))
  |exact⟨rfl,bR7 _,rfl,rfl,rfl⟩
  |exact aNy (by assumption)
  |trivial
end
def bGi (w:aA)(a:Int)(d:Did):Prop:=
 (d.what=0->d.e=fV/\ d.w.tasks=w.tasks/\ w.objs.length<=d.w.objs.length/\ (∀i:Nat,i<w.objs.length-> ¬(i:Int)=aZ w a->d.w.obj i=w.obj i)/\ d.w.outs=w.outs/\ d.w.ins=w.ins/\ d.w.used=w.used)/\
 (d.what=1->d.e.task=a/\ (¬d.e.act=0 \/ ¬d.e.n=0))/\ (d.what=0 \/d.what=1 \/d.what=2)/\ (d.what=2->d.w=w/\ d.e=fV)
variable {i:Nat}
theorem aP5 {o:aN}(h: ¬i=n.toNat):(cW w n o).obj i=w.obj i:=by
 simp only[aA.obj,cW,bRh,bQn];rw[bTx (by omega)]
theorem aLn (h:w.objs<+:w'.objs)(hi:i<w.objs.length):w'.obj i=w.obj i:=by
 obtain⟨t,ht⟩:=h;simp only[aA.obj,bRh,bQn,<-ht,bSq hi]
theorem aLo (h:w'.tasks=w.tasks):aZ w' a=aZ w a:=by unfold aZ;rw[h]
theorem aFi (h0:0<=aZ w a){R:OpR}(h:Calm w a R):bGi w a (R.did w a):=by
 cases R with
 |go ev w' l b=>
  cases ev with
  |none=>
   obtain⟨h1,h2,h3,h4,h5⟩:=h;have ht:=aLo (a:=a) h1
   refine⟨fun _=>⟨rfl,h1,?_,fun i hi hne=>?_,h3,h4,h5⟩,fun h=>by simp[OpR.did]at h,.inl rfl,fun h=>by simp[OpR.did]at h⟩
   ·simp only[OpR.did,cW,bSb];exact h2.length_le
   ·simp only[OpR.did];rw[ht,aP5 (by omega)]
    exact aLn h2 hi
  |some e=>
   obtain⟨h1,h2⟩:=h;exact⟨fun h=>by simp[OpR.did]at h,fun _=>⟨h1,.inl h2⟩,.inr (.inl rfl),fun h=>by simp[OpR.did]at h⟩
 |wait=>exact⟨fun h=>by simp[OpR.did,lX]at h,fun h=>by simp[OpR.did,lX]at h,.inr (.inr rfl),fun _=>⟨rfl,rfl⟩⟩
 |fail s=>exact⟨fun h=>by simp[OpR.did,bE]at h,fun _=>⟨rfl,.inr h⟩,.inr (.inl rfl),fun h=>by simp[OpR.did,bE]at h⟩
theorem tM (h0:0<=aZ w a)(ha:inR a 0 ((w.tasks.length:Int)-1)=true):bGi w a (bB p w a):=by
 unfold bB
 simp only
 split
 ·exact aFi h0 (R:= .wait) trivial
 split
 ·split
  ·exact⟨fun h=>by simp at h,fun _=>⟨rfl,.inr (by simp)⟩,.inr (.inl rfl),fun h=>by simp at h⟩
  ·exact aFi h0 (R:= .go none w (aA2 (w.obj (aZ w a)).frames (aE (w.obj (aZ w a)).vals 0)) []) ⟨rfl,bR7 _,rfl,rfl,rfl⟩
 split
 ·rw[qM];exact aFi h0 xV
 ·unfold qL;rw[xO ha];exact aFi h0 aLm
end Go.Abs
namespace Go.Proofs.YtmafmhjndjmalaaGreat
open Go.Abs Go.Proofs Tryz
set_option maxRecDepth 100000
set_option maxHeartbeats 4000000
variable {xs:List Val}{p:aF}{w w0:aA}{en:En}{kt kr:Key}{cnt:Nat->Nat->Nat}{S:Nat->Prop}{a:Int}{left:List aB}{f:aB}{back:List aD}{bv:Val}
section
variable {n:aK}
def kH (r:aA×Nat×Bool):Val:= .tup [.i (if r.2.2=true then((r.2.1:Nat):Int)else 0),.bool r.2.2]
theorem zH (hp:eG p)(hsp:aS p=true)(hF:cK p w0 S w)(h:RS kr en cnt p w)(s:Nat)(hs:s<=5001):
  WIn L (.fn 156 [] []) [.ptr kr 0,.i (s:Int)] en cnt fun r en' cnt'=>r=kH (aT p w s)/\ RS kr en' cnt' p (aT p w s).1/\ dR kr kr en cnt en' cnt':=by
 have hr:=h.r;have h120:=xU hF;have hfw:Few w.tasks.length:=by unfold Few;omega
 refine gR func156 ?_
 simp only[go_sem,kK,hr,bQl]
 refine bQ w.tasks.length (fun k st=> ∃fr en' cnt' x t,st=⟨fr,en',cnt'⟩/\ fr 0= .ptr kr 0/\ fr 1= .i ((t:Nat):Int)/\ fr 13= .i w.tasks.length/\ fr 14= .i k/\ RS kr en' cnt' p x/\ dR kr kr en cnt en' cnt'/\
  cK p w0 S x/\ x.tasks.length=w.tasks.length/\ t<=5001/\ eD p (121-k) k x t=aT p w s) 0 (bQt _) (by refine⟨_,_,_,w,s,rfl,?_,?_,?_,?_,h,dR.refl _ _ _ _,hF,rfl,hs,rfl⟩<;>simp only[go_sem]) ?_
 rintro k st hk ⟨fr,en1,cnt1,x,t,rfl,k0,k1,k13,k14,hx,hkp,hFx,hxt,ht,hD⟩
 simp only[go_sem,kK,k13,k14]
 refine aH (fun hq=>?_) (fun hq=>?_)
 ·have h':k<w.tasks.length:=D_o hq;have ha:inR (k:Int) 0 ((x.tasks.length:Int)-1)=true:=by simp only[inR,bT8];omega
  rw[show 121-k=(120-k)+1 by omega,eD,if_pos (by omega)]at hD
  simp only[go_sem,h',k14]
  refine Go.Abs.wp_loop (fun(j:Nat) st=> ∃fr en' cnt' y,st=⟨fr,en',cnt'⟩/\ fr 0= .ptr kr 0/\ fr 1= .i ((t+j:Nat):Int)/\ fr 6= .i k/\ fr 13= .i w.tasks.length/\ fr 14= .i k/\ RS kr en' cnt' p y/\ dR kr kr en cnt en' cnt'/\
   cK p w0 S y/\ y.tasks.length=w.tasks.length/\ t+j<=5001/\ cU p k (5000-t) x=((cU p k (5000-(t+j)) y).1,(cU p k (5000-(t+j)) y).2.1+j,(cU p k (5000-(t+j)) y).2.2)) (fun j=>5001-(t+j)) 0
   ⟨_,_,_,x,rfl,by simp only[go_sem,k0],by simp only[go_sem,k1],by simp only[go_sem],by simp only[go_sem,k13],by simp only[go_sem,k14],hx,hkp,hFx,hxt,ht,rfl⟩ ?_
  clear k0 k1 k13 k14 hx hkp
  rintro j st ⟨fr,en1,cnt1,y,rfl,k0,k1,k6,k13,k14,hy,hkp,hFy,hyt,htj,hI⟩
  have hay:inR (k:Int) 0 ((y.tasks.length:Int)-1)=true:=by simp only[inR,bT8];omega
  have s2:=hy.okr.set;have n2:=hy.okr.new;have m2:=hy.okr.eqF;have o2:=hy.okr.eqF';have hyr:=hy.r;simp only[go_sem,kK,k0,k6,hyr]
  refine WIn.mono (aFf hp hsp hFy hay ⟨⟨rfl,by simp[aC]⟩,by simp only[cC]⟩) ?_
  rintro v e1 c1 ⟨rfl,r1,q1⟩
  have u1: ∀t,cnt1 0 t<=c1 0 t:=fun t=>bQv (((by(repeat refine upS ?_ (by omega));exact aM _): ∀t,cnt1 0 t<=aC cnt1 0 7 (cnt1 0 7+1) 0 t) t) (q1.up t)
  have hold: ∀k,Old k cnt1->e1 k=en1 k:=fun k hk=>by
   rw[q1.old k (hk.up (by(repeat refine upS ?_ (by omega));exact aM _)) hk.ne hk.ne];simp only[hk.set]
  have hy1:RS kr e1 c1 p y:=hy.to (hold kr hy.okr) u1;have hk1:dR kr kr en cnt e1 c1:=hkp.trans ⟨fun k hk _ _=>hold k hk,u1⟩
  have hy1r:=hy1.r;have hr1:=r1.r;have n2b:=hy1.okr.new
  by_cases h0:(bB p y k).what=0
  ·have d0:decide (aA9 (bB p y k).what=0)=true:=by rw[aBa];exact D_t h0
   have hw1:IntKind.i64.wrap (((t+j:Nat):Int)+1)=((t+j+1:Nat):Int):=by rw[aV (by omega)];omega
   have hcal:=(tM (p:=p) (by have:=(hFy.task hay).1;simp only[inR,bT8]at this;omega) hay).1 h0
   by_cases h5:5000<t+j+1
   ·have d5:decide ((5000:Int)<((t+j+1:Nat):Int))=true:=D_t (by omega)
    have hI0:cU p k (5000-t) x=(y,1+j,false):=by rw[hI,show 5000-(t+j)=0 by omega,cU,if_pos h0]
    rw[hI0]at hD;simp only[bQm,if_false]at hD;simp only[go_sem,kK,aFg,aIp,(aIo _ _).ret,k1,d0,hw1,d5];rw[<-hD];exact⟨rfl,hy1,hk1⟩
   ·have d5:decide ((5000:Int)<((t+j+1:Nat):Int))=false:=D_f (by omega)
    have hy':=lC hp hFy hay;simp only[go_sem,kK,aFg,aIp,(aIo _ _).ret,k0,k1,d0,hw1,d5,hy1r,hr1]
    refine⟨j+1,⟨_,_,_,(bB p y k).w,rfl,?_⟩,by omega⟩
    simp only[go_sem,k0,k6,k13,k14]
    refine⟨by rw[bSp],⟨hy1.okr,cC⟩,⟨fun k hk a b=>by rw[aI a];exact hk1.old k hk a b,hk1.up⟩,hy',by rw[hcal.2.1];exact hyt,by omega,?_⟩
    rw[hI,show 5000-(t+j)=(5000-(t+(j+1)))+1 by omega,cU,if_pos h0]
    simp only[bSp,Nat.add_comm 1 j]
  ·have d0:decide (aA9 (bB p y k).what=0)=false:=by rw[aBa];exact D_f h0
   have hin: ∀m,cU p k m y=(y,0,true):=fun m=>by cases m<;>(rw[cU,if_neg h0])
   rw[hI,hin]at hD;simp only[if_true,bRg]at hD;simp only[go_sem,kK,aFg,aIp,(aIo _ _).ret,k1,k14,d0]
   refine⟨_,_,_,y,t+j,rfl,?_⟩
   simp only[go_sem,k0,k1,k13,aR h' hfw];exact⟨hy1,hk1,hFy,hyt,htj,by rw[show 121-(k+1)=120-k by omega];exact hD⟩
 ·have:k=w.tasks.length:=by simp at hq;omega
  subst this;have hD':aT p w s=(x,t,true):=by
   rw[<-hD];cases hm:121-w.tasks.length with
   |zero=>rfl
   |succ m=>rw[eD,if_neg (by omega)]
  rw[hD'];simp only[go_sem,k1];exact⟨rfl,hx,hkp⟩
theorem aCt (e:gS):PC L 372 [.agg [.i e.task,.i e.act,.i e.n,.i e.v.kind,.i e.v.n]] (.agg [.i e.task,.i e.act,.i e.n,.i e.v.kind,.i e.v.n]):=by
 refine pcA func372 ?_
 simp only[go_sem,kK]
theorem aBb :PC L 373 [.agg []] (.agg [.i 0,.i 0,.i 0,.i 0,.i 0]):=by
 refine pcA func373 ?_
 simp only[go_sem,kK]
theorem aBc :PC L 371 [.agg []] (.agg [.i 0,.i 0,.i 0,.i 0,.i 0]):=by
 refine pcA func371 ?_
 simp only[go_sem,kK]
def evV (e:gS):Val:= .agg [.i e.task,.i e.act,.i e.n,.i e.v.kind,.i e.v.n]
theorem aCu (l:List Int):(l.map (Val.int .i64)).all Val.flat1=true:=by
 rw[bQp];intro x hx;obtain⟨i,_,rfl⟩:=bRe.1 hx;rfl
theorem bCk :(Val.cl xs).flat=false:=(rfl)
theorem bCl :oV (.cl xs)=false:=(rfl)
theorem bCm (hp:eG p)(hsp:aS p=true)(hF:cK p w0 S w)(h:RS kr en cnt p w)(pick:Int):
  WIn L (.fn 177 [] []) [.ptr kr 0,.i pick] en cnt fun r en' cnt'=>r= .tup [evV (eL p w pick).2.1,.i ((eL p w pick).2.2.1:Nat),.i (eL p w pick).2.2.2]/\ ((eL p w pick).2.2.2=0->RS kr en' cnt' p (eL p w pick).1)/\ dR kr kr en cnt en' cnt':=by
 have s2:=h.okr.set;have n2:=h.okr.new;have hr:=h.r;have m2:=h.okr.eqF;have o2:=h.okr.eqF';have h1:=sA hp (s:=0) hF;have hc:=aDk (p:=p) 121 (a:=0) (w:=w) (s:=0);have hR:=bCj hp hsp h1
 refine gR func177 ?_
 simp only[go_sem,kK]
 refine WIn.mono (zH hp hsp hF (h.to (by simp only[s2]) (by(repeat refine upS ?_ (by omega));exact aM _)) 0 (by omega)) ?_
 rintro v e1 c1 ⟨rfl,r1,q1⟩
 obtain⟨p4,o4⟩:=q1.loc (d:=4) (g:=cnt 0 4) (by simp[aC]) h.okr.ne.symm h.okr.ne.symm
 simp only[go_sem]at p4;have u1: ∀t,cnt 0 t<=c1 0 t:=fun t=>bQv (((by(repeat refine upS ?_ (by omega));exact aM _): ∀t,cnt 0 t<=aC cnt 0 4 (cnt 0 4+1) 0 t) t) (q1.up t)
 have k1:dR kr kr en cnt e1 c1:=⟨fun k hk a b=>by rw[q1.old k (hk.up (by(repeat refine upS ?_ (by omega));exact aM _)) a b];simp only[hk.set],u1⟩
 unfold eL
 simp only
 have hq1:aT p w 0=eD p 121 0 w 0:=rfl;rw[<-hq1]at hc;generalize hq:aT p w 0=q at r1 h1 hR hc⊢;obtain⟨x,sn,ok⟩:=q;dsimp only at r1 h1 hR hc⊢;cases ok with
 |false=>
  rw[if_pos rfl];simp only[go_sem,kK,kH,p4,kF];exact⟨rfl,fun h=>h.elim,⟨fun k hk a b=>by rw[hk.set];exact k1.old k hk a b,u1⟩⟩
 |true=>
  rw[if_neg (by decide)]
  have hx120:=xU h1;have hr1:=r1.r;have hc0:true=true->sn<=5000:=fun h=>by have:=hc h;omega
  by_cases hl:dL p x=[]
  ·rw[if_pos hl];have hz:sI 1 (([]:List Int).map (.int .i64))= .cl []:=rfl;rw[hl,hz]at hR;simp only[go_sem,kK,kH,p4,hr1,hR.ret,bCk,bCl,bQz,n2,if_true,kF];exact⟨rfl,fun h=>by simp at h,⟨fun k hk a b=>by rw[hk.set,aI a];exact k1.old k hk a b,u1⟩⟩
  ·rw[if_neg hl];have hne:(dL p x).map (Val.int .i64)≠[]:=by simpa using hl
   rw[pK hne]at hR;have hll:(dL p x).length<=120:=by
    simp only[dL,fY,bQl];exact bQv (List.length_filter_le _ _) (by simpa using hx120)
   have hl0:0<(dL p x).length:=bTm.2 hl;have dl:decide (((dL p x).length:Int)=0)=false:=D_f (by omega)
   have hpi:=aPy hl pick;have hem:=Int.emod_nonneg pick (show((dL p x).length:Int)≠0 by omega)
   obtain⟨i,hi⟩:=bRn hem;have hil:i<(dL p x).length:=by rw[hi]at hpi;simpa using hpi
   have ha:=aK9 (mG (d:=0) hpi);rw[hi,bRh]at ha⊢;generalize hn:(dL p x).length=n at*;have hz: ¬((n:Int)=0):=by omega
   have e:=Int.tmod_eq_emod (a:=pick) (b:=n);have hget:((dL p x).map (Val.int .i64))[i]?=some (.i ((dL p x).getD i 0)):=by simp[bQn,hn,hil]
   have hc1:(0:Int)<=(i:Int):=by omega
   have hc2:(i:Int)<(n:Int):=by omega
   by_cases hc:0<=pick \/(n:Int)∣pick
   ·have e:pick.tmod n=(i:Int):=by rw[e,if_pos hc,hi];simp
    have di:decide ((i:Int)<0)=false:=D_f (by omega)
    simp only[go_sem,kK,kH,hr1,hR.ret,bQl,hn,aCu,hz,e,di,hget,hc1,hc2,bRh,bRg,kF]
    refine WIn.mono (aFf hp hsp h1 ha (r1.to (by simp only[r1.okr.set]) (upS (aM c1) (by omega)))) ?_
    rintro v e2 c2 ⟨rfl,r2,q2⟩
    obtain⟨r4,o4'⟩:=q2.loc (d:=4) (g:=cnt 0 4) (by simp only[aC];exact o4.2) h.okr.ne.symm h.okr.ne.symm
    simp only[go_sem,p4]at r4;have hsn:=hc0 rfl;have hw1:IntKind.i64.wrap ((sn:Int)+1)=((sn+1:Nat):Int):=by rw[aV (by omega)];omega
    have hd:=lC hp h1 ha;have hcal:=tM (p:=p) (by have:=(h1.task ha).1;simp only[inR,bT8]at this;omega) ha
    generalize bB p x ((dL p x).getD i 0)=d at hd hcal r2⊢;simp only[go_sem,hw1]
    refine WIn.mono (zH hp hsp hd r2 (sn+1) (by omega)) ?_
    rintro v e3 c3 ⟨rfl,r3,q3⟩
    obtain⟨r4',_⟩:=q3.loc (d:=4) (g:=cnt 0 4) o4'.2 h.okr.ne.symm h.okr.ne.symm;rw[r4]at r4';have u3: ∀t,cnt 0 t<=c3 0 t:=fun t=>bQv (u1 t) (bQv (upS (aM c1) (a:=21) (x:=c1 0 21+1) (by omega) t) (bQv (q2.up t) (q3.up t)))
    have hold: ∀k,Old k cnt->k≠kr->e3 k=en k:=fun k hk hkr=>by
     have hk1:=hk.up u1;rw[q3.old k (hk1.up fun t=>bQv (upS (aM c1) (a:=21) (x:=c1 0 21+1) (by omega) t) (q2.up t)) hkr hkr,q2.old k (hk1.up (upS (aM c1) (by omega))) hkr hkr,hk1.set]
     exact k1.old k hk hkr hkr
    generalize aT p d.w (sn+1)=q at r3⊢;obtain⟨y,s3,ok2⟩:=q;dsimp only at r3⊢;cases ok2 with
    |false=>
     rw[if_pos (.inl rfl)];simp only[go_sem,kK,kH,r4',kF];exact⟨rfl,fun h=>h.elim,⟨fun k hk a b=>by rw[hk.set];exact hold k hk a,u3⟩⟩
    |true=>
     by_cases h5:5000<s3
     ·have d5:decide ((5000:Int)<(s3:Int))=true:=D_t (by omega)
      rw[if_pos (.inr h5)];simp only[go_sem,kK,kH,r4',d5,if_true,kF];exact⟨rfl,fun h=>h.elim,⟨fun k hk a b=>by rw[hk.set];exact hold k hk a,u3⟩⟩
     ·have d5:decide ((5000:Int)<(s3:Int))=false:=D_f (by omega)
      rw[if_neg (by rintro(h|h);cases h;exact h5 h)]
      by_cases hw2:d.what=2
      ·have hE:wP d.what d.e= .ifc 254 (.agg []):=by unfold wP;rw[if_pos hw2]
       rw[(hcal.2.2.2 hw2).2]at hE⊢;simp only[go_sem,kK,kH,r4',d5,hE,aBc.ret,if_true,kF];exact⟨rfl,fun _=>⟨r3.okr,by rw[s2];exact r3.r⟩,⟨fun k hk a b=>by rw[hk.set];exact hold k hk a,u3⟩⟩
      ·by_cases hw0:d.what=0
       ·have hE:wP d.what d.e= .ifc 265 (.agg []):=by unfold wP;rw[if_neg hw2,if_pos hw0]
        rw[(hcal.1 hw0).1]at hE⊢;simp only[go_sem,kK,kH,r4',d5,hE,aBb.ret,if_true,kF];exact⟨rfl,fun _=>⟨r3.okr,by rw[s2];exact r3.r⟩,⟨fun k hk a b=>by rw[hk.set];exact hold k hk a,u3⟩⟩
       ·have hE:wP d.what d.e= .ifc 257 (.agg [.i d.e.task,.i d.e.act,.i d.e.n,.i d.e.v.kind,.i d.e.v.n]):=by unfold wP;rw[if_neg hw2,if_neg hw0]
        simp only[go_sem,kK,kH,r4',d5,hE,(aCt _).ret,if_true,kF];exact⟨rfl,fun _=>⟨r3.okr,by rw[s2];exact r3.r⟩,⟨fun k hk a b=>by rw[hk.set];exact hold k hk a,u3⟩⟩
   ·rw[if_neg hc,hi]at e;have di:decide (pick.tmod n<0)=true:=D_t (by rw[e];simp only[Int.natAbs_natCast];omega)
    have hw:IntKind.i64.wrap (pick.tmod n+n)=(i:Int):=by rw[e];simp only[Int.natAbs_natCast];rw[aV (by omega)];omega
    simp only[go_sem,kK,kH,hr1,hR.ret,bQl,hn,aCu,hz,di,hw,hget,hc1,hc2,bRh,bRg,kF]
    refine WIn.mono (aFf hp hsp h1 ha (r1.to (by simp only[r1.okr.set]) (upS (aM c1) (by omega)))) ?_
    rintro v e2 c2 ⟨rfl,r2,q2⟩
    obtain⟨r4,o4'⟩:=q2.loc (d:=4) (g:=cnt 0 4) (by simp only[aC];exact o4.2) h.okr.ne.symm h.okr.ne.symm
    simp only[go_sem,p4]at r4;have hsn:=hc0 rfl;have hw1:IntKind.i64.wrap ((sn:Int)+1)=((sn+1:Nat):Int):=by rw[aV (by omega)];omega
    have hd:=lC hp h1 ha;have hcal:=tM (p:=p) (by have:=(h1.task ha).1;simp only[inR,bT8]at this;omega) ha
    generalize bB p x ((dL p x).getD i 0)=d at hd hcal r2⊢;simp only[go_sem,hw1]
    refine WIn.mono (zH hp hsp hd r2 (sn+1) (by omega)) ?_
    rintro v e3 c3 ⟨rfl,r3,q3⟩
    obtain⟨r4',_⟩:=q3.loc (d:=4) (g:=cnt 0 4) o4'.2 h.okr.ne.symm h.okr.ne.symm;rw[r4]at r4';have u3: ∀t,cnt 0 t<=c3 0 t:=fun t=>bQv (u1 t) (bQv (upS (aM c1) (a:=21) (x:=c1 0 21+1) (by omega) t) (bQv (q2.up t) (q3.up t)))
    have hold: ∀k,Old k cnt->k≠kr->e3 k=en k:=fun k hk hkr=>by
     have hk1:=hk.up u1;rw[q3.old k (hk1.up fun t=>bQv (upS (aM c1) (a:=21) (x:=c1 0 21+1) (by omega) t) (q2.up t)) hkr hkr,q2.old k (hk1.up (upS (aM c1) (by omega))) hkr hkr,hk1.set]
     exact k1.old k hk hkr hkr
    generalize aT p d.w (sn+1)=q at r3⊢;obtain⟨y,s3,ok2⟩:=q;dsimp only at r3⊢;cases ok2 with
    |false=>
     rw[if_pos (.inl rfl)];simp only[go_sem,kK,kH,r4',kF];exact⟨rfl,fun h=>h.elim,⟨fun k hk a b=>by rw[hk.set];exact hold k hk a,u3⟩⟩
    |true=>
     by_cases h5:5000<s3
     ·have d5:decide ((5000:Int)<(s3:Int))=true:=D_t (by omega)
      rw[if_pos (.inr h5)];simp only[go_sem,kK,kH,r4',d5,if_true,kF];exact⟨rfl,fun h=>h.elim,⟨fun k hk a b=>by rw[hk.set];exact hold k hk a,u3⟩⟩
     ·have d5:decide ((5000:Int)<(s3:Int))=false:=D_f (by omega)
      rw[if_neg (by rintro(h|h);cases h;exact h5 h)]
      by_cases hw2:d.what=2
      ·have hE:wP d.what d.e= .ifc 254 (.agg []):=by unfold wP;rw[if_pos hw2]
       rw[(hcal.2.2.2 hw2).2]at hE⊢;simp only[go_sem,kK,kH,r4',d5,hE,aBc.ret,if_true,kF];exact⟨rfl,fun _=>⟨r3.okr,by rw[s2];exact r3.r⟩,⟨fun k hk a b=>by rw[hk.set];exact hold k hk a,u3⟩⟩
      ·by_cases hw0:d.what=0
       ·have hE:wP d.what d.e= .ifc 265 (.agg []):=by unfold wP;rw[if_neg hw2,if_pos hw0]
        rw[(hcal.1 hw0).1]at hE⊢;simp only[go_sem,kK,kH,r4',d5,hE,aBb.ret,if_true,kF];exact⟨rfl,fun _=>⟨r3.okr,by rw[s2];exact r3.r⟩,⟨fun k hk a b=>by rw[hk.set];exact hold k hk a,u3⟩⟩
       ·have hE:wP d.what d.e= .ifc 257 (.agg [.i d.e.task,.i d.e.act,.i d.e.n,.i d.e.v.kind,.i d.e.v.n]):=by unfold wP;rw[if_neg hw2,if_neg hw0]
        simp only[go_sem,kK,kH,r4',d5,hE,(aCt _).ret,if_true,kF];exact⟨rfl,fun _=>⟨r3.okr,by rw[s2];exact r3.r⟩,⟨fun k hk a b=>by rw[hk.set];exact hold k hk a,u3⟩⟩
theorem xW (p:aF)(w:aA)(hw:w.few)(hs:bU w=true):PC L 120 [.fp [.fz (p.nodes.map aK.enc),.fz (p.funs.map (.int .i64)),.i p.main,.fz (p.cons.map cV.enc),.fz (w.objs.map aN.enc),.fz (w.tasks.map (.int .i64)),.fz (w.outs.map bL.enc),.fz (w.ins.map (.int .i64)),.i w.used] 0] (.agg w.cs):=by
 obtain⟨b1,b2,b3,b4⟩:=aKo hs;have c1:=qH (w.tasks.map (.int .i64)) (rW _) (by simp;omega)
 have c2:=aEv (w.outs.map bL.enc) (aHn _) (by simp;omega)
 have c3:=qH (w.ins.map (.int .i64)) (rW _) (by simp;omega)
 refine pcA func120 ?_
 simp only[go_sem,kK]
 refine aIi (fun st=>st.fr 2= .ptr ⟨0,2,0⟩ 0/\ st.en ⟨0,2,0⟩=some (.box [.cl [],.cl [],.cl [],.cl [],.i 0] false)/\ st.fr 0= .fp [.fz (p.nodes.map aK.enc),.fz (p.funs.map (.int .i64)),.i p.main,.fz (p.cons.map cV.enc),.fz (w.objs.map aN.enc),.fz (w.tasks.map (.int .i64)),.fz (w.outs.map bL.enc),.fz (w.ins.map (.int .i64)),.i w.used] 0/\ st.fr 3= .ptr ⟨0,3,0⟩ 0/\
  ∃vT vO vI,st.en ⟨0,3,0⟩=some (.box [.cl [],vT,vO,vI,.i w.used] false)/\ cR st.en vT 1 (w.tasks.map (.int .i64)) [11]/\ cR st.en vO 2 (w.outs.map bL.enc) [17]/\ cR st.en vI 1 (w.ins.map (.int .i64)) [23]) ?_ ?_
 ·refine aG ?_
  rcases iY 1 (w.tasks.map (Val.int .i64))with⟨t1,t2⟩|⟨t1,t2⟩<;>rw[t2]at c1<;>
  rcases iY 2 (w.outs.map bL.enc)with⟨o1,o2⟩|⟨o1,o2⟩<;>rw[o2]at c2<;>
  rcases iY 1 (w.ins.map (Val.int .i64))with⟨i1,i2⟩|⟨i1,i2⟩<;>rw[i2]at c3
  all_goals simp only[go_sem,kA,kF,c1.ret,c2.ret,c3.ret,bQl,bQk,if_true,kB]
  all_goals refine⟨_,_,_,rfl,?_,?_,?_⟩
  all_goals first
   |exact .inl ⟨rfl,by assumption⟩
   |exact aIj (by simp only[go_sem];try rfl) (by simp only[bQl])
 ·rintro fr en cnt ⟨h2,e2,h1,h3,vT,vO,vI,e3,mT,mO,mI⟩
  dsimp only at h2 e2 h1 h3 e3 mT mO mI;simp only[go_sem,h1]
  refine bQ w.objs.length (fun k st=> ∃fr en cnt v,st=⟨fr,en,cnt⟩/\ fr 2= .ptr ⟨0,2,0⟩ 0/\ en ⟨0,2,0⟩=some (.box [.cl [],.cl [],.cl [],.cl [],.i 0] false)/\ fr 3= .ptr ⟨0,3,0⟩ 0/\ en ⟨0,3,0⟩=some (.box [v,vT,vO,vI,.i w.used] false)/\ fr 34= .fz (w.objs.map aN.enc)/\ fr 35= .i w.objs.length/\ fr 36= .i k/\
   cR en vT 1 (w.tasks.map (.int .i64)) [11]/\ cR en vO 2 (w.outs.map bL.enc) [17]/\ cR en vI 1 (w.ins.map (.int .i64)) [23]/\ cR en v 4 ((w.objs.take k).map aN.enc) [45]) 0 (bQt _) ⟨_,_,_,.cl [],rfl,by simp only[go_sem,h2],by simp only[go_sem,e2],by simp only[go_sem,h3],by simp only[go_sem,e3],by simp only[go_sem],by simp only[go_sem],by simp only[go_sem],mT,mO,mI,cR.nil _ _⟩ ?_
  rintro k st hk ⟨fr,en,cnt,v,rfl,h2,e2,h3,e3,h19,h20,h21,mT,mO,mI,hv⟩
  simp only[go_sem,kK,h20,h21]
  refine aH (fun hq=>?_) (fun hq=>?_)
  ·have h':k<w.objs.length:=D_o hq;have hso:=aKk hs _ (bQr h');simp only[go_sem,h',h19,h21]
   refine aG ?_
   simp only[go_sem,h3,e3,kA,kF,bEb,(aY4 _ hso).ret]
   refine aGc (D:=[45]) (xs:=(w.objs.take k).map aN.enc) (ys:=[aN.enc w.objs[k]]) (rs:=[]) ?_ ?_ ?_ rfl ?_ ?_
   ·simp only[go_sem];exact hv.keep fun t g ht=>by simp at ht;subst ht;simp only[go_sem]
   ·simp only[go_sem]
   ·rfl
   ·simp;omega
   ·intro v' en' cnt' r hown hen hcnt _ _ _;have k2:en' ⟨0,2,0⟩=some (.box [.cl [],.cl [],.cl [],.cl [],.i 0] false):=by rw[hen 0 2 0 (.inr ⟨by decide,by simp⟩)];simp only[go_sem,e2]
    have k3:en' ⟨0,3,0⟩=some (.box [v,vT,vO,vI,.i w.used] false):=by rw[hen 0 3 0 (.inr ⟨by decide,by simp⟩)];simp only[go_sem,e3]
    obtain⟨s1,s2⟩:=hown.shape;simp only[go_sem,h3,k3,h21,s1,s2]
    refine⟨_,_,_,v',rfl,?_⟩
    simp only[go_sem,h2,k2,h3,h19,h20,aR h' hw.objs]
    refine⟨mT.keep ?_,mO.keep ?_,mI.keep ?_,?_⟩
    ·intro t g ht;simp at ht;subst ht;rw[jE (by simp),hen 0 11 g (.inr ⟨by decide,by simp⟩)];simp only[go_sem]
    ·intro t g ht;simp at ht;subst ht;rw[jE (by simp),hen 0 17 g (.inr ⟨by decide,by simp⟩)];simp only[go_sem]
    ·intro t g ht;simp at ht;subst ht;rw[jE (by simp),hen 0 23 g (.inr ⟨by decide,by simp⟩)];simp only[go_sem]
    ·rw[gM h',bRl]
     refine cR.sub (D:=[45,45]) (cR.keep (en:=en') hown ?_) (by simp)
     intro t g ht;simp at ht;subst ht;simp only[go_sem]
  ·have:k=w.objs.length:=by simp at hq;omega
   subst this;rw[bR1]at hv;simp only[go_sem,h2,e2,h3,e3];obtain⟨r1,ks1,s1,s1',_⟩:=(hv.keep (en':=en.set ⟨0,2,0⟩ (some (.box [v,vT,vO,vI,.i w.used] false))) fun t g ht=>by simp at ht;subst ht;simp only[go_sem]).snap 6
   obtain⟨r2,ks2,s2,s2',_⟩:=(mT.keep (en':=en.set ⟨0,2,0⟩ (some (.box [v,vT,vO,vI,.i w.used] false))) fun t g ht=>by simp at ht;subst ht;simp only[go_sem]).snap 6
   obtain⟨r3,ks3,s3,s3',_⟩:=(mO.keep (en':=en.set ⟨0,2,0⟩ (some (.box [v,vT,vO,vI,.i w.used] false))) fun t g ht=>by simp at ht;subst ht;simp only[go_sem]).snap 6
   obtain⟨r4,ks4,s4,s4',_⟩:=(mI.keep (en':=en.set ⟨0,2,0⟩ (some (.box [v,vT,vO,vI,.i w.used] false))) fun t g ht=>by simp at ht;subst ht;simp only[go_sem]).snap 6
   simp only[go_sem,s1,s2,s3,s4,s1',s2',s3',s4']
structure bO5 (en:En) (cnt:Nat->Nat->Nat) (en':En) (cnt':Nat->Nat->Nat):Prop where
 old: ∀k,Old k cnt->en' k=en k
 up: ∀t,cnt 0 t<=cnt' 0 t
theorem aHw (p:aF)(w:aA)(hp:p.few)(hw:w.few)(hs:aS p=true):WIn L (.fn 116 [] []) [.agg p.cs,.agg w.cs] en cnt fun v en' cnt'=>
  (bM p w=true->v= .tup [.ptr ⟨0,13,cnt 0 13⟩ 0,.bool true]/\ RS ⟨0,13,cnt 0 13⟩ en' cnt' p w)/\ (bM p w=false-> ∃x,v= .tup [x,.bool false])/\ bO5 en cnt en' cnt':=by
 have hb:=wM p hp hs
 refine gR func116 ?_
 cases hf:eS p with
 |false=>
  rw[hf]at hb;simp only[go_sem,kK,hb.ret]
  refine⟨fun h=>by simp[bM,hf]at h,fun _=>⟨_,rfl⟩,fun k hk=>by simp only[hk.set],(by(repeat refine upS ?_ (by omega));exact aM _)⟩
 |true=>
  rw[hf]at hb;simp only[go_sem,kK,hb.ret,(rU p w hp hw).ret];rw[aKn p w hf]
  refine⟨fun h=>?_,fun h=>?_,fun k hk=>by simp only[hk.set],(by(repeat refine upS ?_ (by omega));exact aM _)⟩
  ·have:dG p w=true:=by simpa[bM,hf]using h
   rw[this];exact⟨rfl,⟨rfl,by simp[aC]⟩,cC⟩
  ·have:dG p w=false:=by simpa[bM,hf]using h
   rw[this];exact⟨_,rfl⟩
end
structure cG where
 every:Int
 picks:List Int
 marks:List aA
def aA.enc (w:aA):Val:= .agg w.cs
abbrev cG.cs (l:cG):List Val:=[.i l.every,.is l.picks,.fz (l.marks.map aA.enc)]
abbrev ply (p:aF)(l:cG):Val:= .fp [.i l.every,.is l.picks,.fz (l.marks.map aA.enc),.fz (p.nodes.map aK.enc),.fz (p.funs.map (.int .i64)),.i p.main,.fz (p.cons.map cV.enc)] 0
def cG.enc (l:cG):Val:= .agg [.i l.every,.is l.picks,.fz (l.marks.map aA.enc)]
def aHx :aA:=⟨[],[],[],[],0⟩
def zT :cG:=⟨0,[],[]⟩
def jA (l:cG)(t:Nat):Int:=l.picks.getD t 0
def sJ (l:cG)(i:Nat):aA:=l.marks.getD i aHx
def aQ (l:cG):Nat:=l.every.toNat
def mH (p:aF)(l:cG):Bool:=
 eS p&&inR l.every 1 20&&decide (l.picks.length<=200)&&decide (l.marks.length=l.picks.length/aQ l+1)&&l.marks.all (dG p)
def cQ (p:aF)(w:aA)(pick:Int):aA×gS×Int:=
 let r:=eL p w pick
 if r.2.2.2=5 then(w,fV,6)else if r.2.2.2=0 then(r.1,r.2.1,0)else(w,fV,r.2.2.2)
def aCd (p:aF)(l:cG):Nat->Nat->aA->aA×Int
 |_,0,w=>(w,0)
 |i,k+1,w=>if(cQ p w (jA l i)).2.2=0 then aCd p l (i+1) k (cQ p w (jA l i)).1 else(aHx,(cQ p w (jA l i)).2.2)
def atX (p:aF)(l:cG)(n:Nat):aA×Int:=aCd p l (n/aQ l*aQ l) (n-n/aQ l*aQ l) (sJ l (n/aQ l))
def eN (p:aF)(l:cG)(t:Nat):aA×gS×Int:=
 if(atX p l t).2=0 then(if(cQ p (atX p l t).1 (jA l t)).2.2=0 then cQ p (atX p l t).1 (jA l t)else(aHx,(cQ p (atX p l t).1 (jA l t)).2.1,(cQ p (atX p l t).1 (jA l t)).2.2))else((atX p l t).1,fV,(atX p l t).2)
theorem aS7 {p:aF}{l:cG}: ∀(a b i:Nat) (w:aA),aCd p l i (a+b) w=if(aCd p l i a w).2=0 then aCd p l (i+a) b (aCd p l i a w).1 else(aHx,(aCd p l i a w).2)
 |0,b,i,w=>by simp[aCd]
 |a+1,b,i,w=>by
  rw[show a+1+b=(a+b)+1 by omega,aCd,aCd]
  split
  ·rw[aS7 a b (i+1),show i+1+a=i+(a+1)by omega]
  ·rfl
variable {l:cG}{n:Nat}
theorem aFj {n:Nat}(he:0<aQ l)(hm: ¬(n+1)%aQ l=0):atX p l (n+1)=if(atX p l n).2=0 then(if(cQ p (atX p l n).1 (jA l n)).2.2=0 then((cQ p (atX p l n).1 (jA l n)).1,0)else(aHx,(cQ p (atX p l n).1 (jA l n)).2.2))else(aHx,(atX p l n).2):=by
 have hd:(n+1)/aQ l=n/aQ l:=by
  rw[Nat.succ_div];rw[if_neg (fun h=>hm (Nat.mod_eq_zero_of_dvd h)),bR5]
 have hle:n/aQ l*aQ l<=n:=bT3 ..;unfold atX;rw[hd,show n+1-n/aQ l*aQ l=(n-n/aQ l*aQ l)+1 by omega,aS7,show n/aQ l*aQ l+(n-n/aQ l*aQ l)=n by omega]
 split
 ·simp only[aCd]
 ·rfl
theorem qR {n:Nat}(he:0<aQ l)(hm:n%aQ l=0):atX p l n=(sJ l (n/aQ l),0):=by
 have:n/aQ l*aQ l=n:=Nat.div_mul_cancel (bTy hm);unfold atX;rw[this,Nat.sub_self];rfl
theorem aS8 (hp:eG p)(h:dG p w=true)(pick:Int):dG p (cQ p w pick).1=true:=by
 have hF:cK p w (fun _=>True) w:=⟨h,bQk _,fun _ _=>rfl,bR7 _,fun _ _ _ _ _ _=>trivial,fun _ _=>trivial,fun _ _=>trivial⟩
 have:=(aNr hp hF pick).ok;unfold cQ
 simp only
 split
 ·exact h
 split
 ·exact this
 ·exact h
theorem aFk (h:dG p w=true):cK p w (fun _=>True) w:=⟨h,bQk _,fun _ _=>rfl,bR7 _,fun _ _ _ _ _ _=>trivial,fun _ _=>trivial,fun _ _=>trivial⟩
theorem aWr {p:aF}(hp:eG p){l:cG}: ∀(k i:Nat) {w:aA},dG p w=true->(aCd p l i k w).2=0->dG p (aCd p l i k w).1=true
 |0,_,_,h,_=>h
 |k+1,i,w,h,he=>by
  rw[aCd]at he⊢;split
  ·rename_i ht;rw[if_pos ht]at he;exact aWr hp k (i+1) (aS8 hp h _) he
  ·rename_i ht;rw[if_neg ht]at he;exact absurd he ht
theorem aB8 (h:mH p l=true):eS p=true/\ (1<=aQ l/\ aQ l<=20/\ l.every=(aQ l:Int))/\ l.picks.length<=200/\ l.marks.length=l.picks.length/aQ l+1/\ ∀w∈l.marks,dG p w=true:=by
 simp only[mH,bQj,bT8,bQp,inR]at h;obtain⟨⟨⟨⟨h1,h2⟩,h3⟩,h4⟩,h5⟩:=h
 refine⟨h1,⟨?_,?_,?_⟩,h3,h4,h5⟩<;>unfold aQ<;>omega
theorem bE8 (h:mH p l=true){n:Nat}(hn:n<=l.picks.length):dG p (sJ l (n/aQ l))=true:=by
 obtain⟨_,⟨h1,_⟩,_,h4,h5⟩:=aB8 h;have:n/aQ l<l.marks.length:=by
  rw[h4];have:=Nat.div_le_div_right (c:=aQ l) hn;omega
 refine h5 _ ?_
 unfold sJ;rw[bQn,bRq this];exact bQr _
theorem bIb (hp:eG p)(h:mH p l=true){n:Nat}(hn:n<=l.picks.length)(he:(atX p l n).2=0):dG p (atX p l n).1=true:=
 aWr hp _ _ (bE8 h hn) he
section
variable {n:aK}
def aBd :aA:=⟨[],[],[],[],0⟩
def zU (p:aF)(w:aA)(pick:Int):aA×gS×Nat×Int:=
 if bM p w=true then(if(eL p w pick).2.2.2=0 then eL p w pick else(aBd,fV,0,(eL p w pick).2.2.2))else(aBd,fV,0,2)
theorem aY7 (p:aF)(w:aA)(pick:Int):(eL p w pick).2.2.2=0 \/(eL p w pick).2.2.2=5 \/(eL p w pick).2.2.2=8:=by
 unfold eL;simp only;split
 ·exact .inr (.inr rfl)
 split
 ·exact .inr (.inl rfl)
 split
 ·exact .inr (.inr rfl)
 ·exact .inl rfl
theorem aWs {cs:List Val}:(Val.agg (.fz xs::cs)).flat=false:=(rfl)
theorem aFl (p:aF)(w:aA)(pick:Int)(hp:p.few)(hw:w.few)(hsp:aS p=true):
  PC L 137 [.agg p.cs,.agg w.cs,.i pick] (.tup [.agg (zU p w pick).1.cs,evV (zU p w pick).2.1,.i ((zU p w pick).2.2.1:Nat),.i (zU p w pick).2.2.2]):=by
 refine pcA func137 ?_
 simp only[go_sem,kK]
 refine WIn.mono (aHw p w hp hw hsp) ?_
 rintro v e1 c1 ⟨h1,h2,h3⟩
 have p6:=h3.old ⟨0,6,0⟩ ⟨rfl,by simp[aC]⟩
 have p7:=h3.old ⟨0,7,0⟩ ⟨rfl,by simp[aC]⟩
 have c6:=h3.up 6;have c7:=h3.up 7;simp only[go_sem]at p6 p7;unfold zU;cases hg:bM p w with
 |false=>
  obtain⟨x,rfl⟩:=h2 hg;rw[if_neg (by decide)]
  simp only[go_sem,kK,p6,p7,aBd,aA.cs,Val.is,fV,iO,evV,bQ1]
 |true=>
  obtain⟨rfl,r1⟩:=h1 hg;rw[if_pos rfl];have hF:cK p w (fun _=>True) w:=by
   simp only[bM,bQj]at hg;exact aFk hg.2
  have hpf:eG p:=by
   simp only[bM,bQj]at hg;exact tI hg.1
  simp only[go_sem,kK]
  refine WIn.mono (bCm hpf hsp hF r1 pick) ?_
  rintro v e2 c2 ⟨rfl,r2,q2⟩
  have k13: ∀d g,¬d=13->(⟨0,d,g⟩:Key)≠⟨0,13,0⟩:=fun d g h he=>h (by injection he)
  obtain⟨p6',o6⟩:=q2.loc (d:=6) (g:=0) c6 (k13 _ _ (by decide)) (k13 _ _ (by decide))
  obtain⟨p7',o7⟩:=q2.loc (d:=7) (g:=0) c7 (k13 _ _ (by decide)) (k13 _ _ (by decide))
  rw[p6]at p6';rw[p7]at p7';have o6':=o6.eqF';have o7':=o7.eqF';have o6n:=o6.set;have o7n:=o7.set
  by_cases h0:(eL p w pick).2.2.2=0
  ·have d0:decide ((eL p w pick).2.2.2=0)=true:=D_t h0;have r2':RS ⟨0,13,0⟩ e2 c2 p (eL p w pick).1:=r2 h0;have hkr:=r2'.r;have s2:=r2'.okr.set;have hFt:=aNr hpf hF pick;have hcp:=xW p (eL p w pick).1 (aB4 (rZ hsp hFt.ok)) (rZ hsp hFt.ok);rw[if_pos h0];simp only[go_sem,kK,evV,d0]
   refine aG ?_
   simp only[go_sem,p6',p7',o6n,o7n,s2,hkr,hcp.ret,aWs,kA,kF];rw[h0]
  ·have d0:decide ((eL p w pick).2.2.2=0)=false:=D_f h0;rw[if_neg h0];simp only[go_sem,kK,evV,d0,p6',p7',o6n,o7n,aBd,aA.cs,Val.is,fV,iO,bQ1]
def wB (p:aF)(w:aA):aA×Nat×Int:=
 if bM p w=true then(if(aT p w 0).2.2=true then((aT p w 0).1,(aT p w 0).2.1,0)else(aBd,0,8))else(aBd,0,2)
theorem aLp (p:aF)(w:aA)(hp:p.few)(hw:w.few)(hsp:aS p=true):
  PC L 100 [.agg p.cs,.agg w.cs] (.tup [.agg (wB p w).1.cs,.i ((wB p w).2.1:Nat),.i (wB p w).2.2]):=by
 refine pcA func100 ?_
 simp only[go_sem,kK]
 refine WIn.mono (aHw p w hp hw hsp) ?_
 rintro v e1 c1 ⟨h1,h2,h3⟩
 have p4:=h3.old ⟨0,4,0⟩ ⟨rfl,by simp[aC]⟩
 have c4:=h3.up 4;simp only[go_sem]at p4;unfold wB;cases hg:bM p w with
 |false=>
  obtain⟨x,rfl⟩:=h2 hg;rw[if_neg (by decide)]
  simp only[go_sem,kK,p4,aBd,aA.cs,Val.is,bQ1]
 |true=>
  obtain⟨rfl,r1⟩:=h1 hg;rw[if_pos rfl];have hF:cK p w (fun _=>True) w:=by
   simp only[bM,bQj]at hg;exact aFk hg.2
  have hpf:eG p:=by
   simp only[bM,bQj]at hg;exact tI hg.1
  simp only[go_sem,kK]
  refine WIn.mono (zH hpf hsp hF r1 0 (by omega)) ?_
  rintro v e2 c2 ⟨rfl,r2,q2⟩
  have k13: ∀d g,¬d=13->(⟨0,d,g⟩:Key)≠⟨0,13,0⟩:=fun d g h he=>h (by injection he)
  obtain⟨p4',o4⟩:=q2.loc (d:=4) (g:=0) c4 (k13 _ _ (by decide)) (k13 _ _ (by decide))
  rw[p4]at p4';have hFt:=sA hpf (s:=0) hF;have r2':RS ⟨0,13,0⟩ e2 c2 p (aT p w 0).1:=r2;have hcp:=xW p (aT p w 0).1 (aB4 (rZ hsp hFt.ok)) (rZ hsp hFt.ok);generalize aT p w 0=q at r2' hcp⊢;obtain⟨x,sn,ok⟩:=q;dsimp only at r2' hcp⊢;have hkr:=r2'.r;cases ok with
  |true=>
   rw[if_pos rfl];simp only[go_sem,kK,kH,p4',hkr,hcp.ret,aWs,if_true,kF]
  |false=>
   rw[if_neg (by decide)]
   simp only[go_sem,kK,kH,p4',aBd,aA.cs,Val.is,bQ1,kF]
end
def lD (p:aF)(w:aA)(pick:Int):Int:=(dL p w).getD (pick%(dL p w).length).toNat 0
def bIc (w:aA)(a:Int):Int:=(aE ((w.obj (aZ w a)).frames.getD ((w.obj (aZ w a)).frames.length-1) dV).vals 0).n
def lE (p:aF)(l:cG)(count:aA->Int)(n:Int):Nat->Nat->Int×Int
 |_,0=>(0,5)
 |t,k+1=>if(atX p l (t+1)).2=0 then(if n<count (atX p l (t+1)).1 then((t:Int),0)else lE p l count n (t+1) k)else(0,(atX p l (t+1)).2)
def moreX (p:aF)(l:cG)(count:aA->Int)(n:Int):Int×Int:=
 if n<count (sJ l 0)then(0,5)else lE p l count n 0 l.picks.length
structure fG where
 kind:Int
 n:Int
 v:aD
def fG.enc (c:fG):Val:= .agg [.i c.kind,.i c.n,.i c.v.kind,.i c.v.n]
def mW (c:fG):Bool:=decide (1<=c.kind)&&decide (c.kind<=4)&&(decide (c.kind=1)||decide (c.v=iO))
def lF (w:aA)(c:fG):Bool:=
 if c.kind=1 then inR c.n 0 ((w.objs.length:Int)-1)&&decide ((w.obj c.n).form=3)&&decide (aE (w.obj c.n).vals 0=c.v)
 else if c.kind=2 then decide (c.n<=(w.outs.length:Int))
 else if c.kind=3 then inR c.n 0 ((w.tasks.length:Int)-1)&&!decide ((w.obj (aZ w c.n)).n=0)
 else decide (c.n<=(w.objs.length:Int))
def mJ (p:aF)(l:cG)(c:fG):Nat->Nat->Int×Int
 |_,0=>(0,5)
 |n,k+1=>if(atX p l n).2=0 then(if lF (atX p l n).1 c=true then((n:Int),0)else mJ p l c (n+1) k)else(0,(atX p l n).2)
def bCn (p:aF)(l:cG)(from':Nat)(c:fG):Int×Int:=mJ p l c from' (l.picks.length+1-from')
def aGq (p:aF)(w:aA)(every:Int):cG×Int:=if(aT p w 0).2.2=true then(⟨every,[],[(aT p w 0).1]⟩,0)else(zT,8)
def bCo (p:aF)(l:cG)(pick:Int):cG×gS×Int:=
 if 200<=l.picks.length then(zT,fV,3)
 else if(atX p l l.picks.length).2=0 then
  (let r:=cQ p (atX p l l.picks.length).1 pick
  if r.2.2=0 then(⟨l.every,l.picks++[pick],if(l.picks.length+1)%aQ l=0 then l.marks++[r.1]else l.marks⟩,r.2.1,0)else(zT,fV,r.2.2))
 else(zT,fV,(atX p l l.picks.length).2)
def sK (e:Int):Val:= .ifc 170 (.agg [.i e])
theorem bZ (e:Int):PC L 47 [.bool true,.i e] (.tup []):=by
 refine pcA func47 ?_
 simp only[go_sem,kK]
theorem dM (e:Int):PX L 47 [.bool false,.i e] (sK e):=by
 refine pxA func47 ?_
 simp only[go_sem,kK]
 refine cO 3 rfl ?_
 simp only[go_sem,bQs,bQq];exact⟨rfl,rfl⟩
def cG.few (l:cG):Prop:=Few l.picks.length/\ Few l.marks.length/\ ∀w∈l.marks,w.few
theorem sZ {k:Nat}(h:k<l.marks.length):mA 5 en (.fz (l.marks.map aA.enc)) (.i (k:Int))=some {v:= .fp [.fz (l.marks[k].objs.map aN.enc),.is l.marks[k].tasks,.fz (l.marks[k].outs.map bL.enc),.is l.marks[k].ins,.i l.marks[k].used] 0}:=by
 simp[mA,h,aA.enc];exact⟨rfl,rfl⟩
def aGr (p:aF)(l:cG):Bool:=!(decide (l.every<1)||decide ((20:Int)<l.every)||decide ((200:Int)<l.picks.length)||!decide ((l.marks.length:Int)=(l.picks.length:Int).tdiv l.every+1))&&l.marks.all (bM p)
theorem aCv (p:aF)(l:cG)(hp:p.few)(hl:l.few)(hsp:aS p=true):PC L 101 [.agg p.cs,.agg l.cs] (.i (if aGr p l=true then 0 else 2)):=by
 have hnb: ∀{b:Bool},aGr p l=b->(if aGr p l=true then(0:Int)else 2)=if b=true then 0 else 2:=fun h=>by rw[h]
 refine pcA func101 ?_
 by_cases h1:l.every<1
 ·have d1:decide (l.every<1)=true:=D_t h1;rw[hnb (b:=false) (by simp[aGr,h1])]
  simp only[go_sem,kK,d1,kF]
 have d1:decide (l.every<1)=false:=D_f h1
 by_cases h2:20<l.every
 ·have d2:decide ((20:Int)<l.every)=true:=D_t h2;rw[hnb (b:=false) (by simp[aGr,h2])]
  simp only[go_sem,kK,d1,d2,kF]
 have d2:decide ((20:Int)<l.every)=false:=D_f h2
 by_cases h3:(200:Int)<l.picks.length
 ·have d3:decide ((200:Int)<(l.picks.length:Int))=true:=D_t h3;rw[hnb (b:=false) (by simp only[aGr,d3,bSj,Bool.true_or,bQ0,bQ7])]
  simp only[go_sem,kK,bQl,d1,d2,d3,kF]
 have d3:decide ((200:Int)<(l.picks.length:Int))=false:=D_f h3;have hz: ¬(l.every=0):=by omega
 have hdv:=Int.tdiv_nonneg (show(0:Int)<=(l.picks.length:Int)by omega) (show 0<=l.every by omega)
 have hdl:((l.picks.length:Int)).tdiv l.every<=200:=by
  have:=Int.tdiv_le_self (a:=(l.picks.length:Int)) l.every (by omega)
  omega
 have hw1:IntKind.i64.wrap (((l.picks.length:Int)).tdiv l.every)=((l.picks.length:Int)).tdiv l.every:=aV (by omega)
 have hw2:IntKind.i64.wrap (((l.picks.length:Int)).tdiv l.every+1)=((l.picks.length:Int)).tdiv l.every+1:=aV (by omega)
 by_cases h4:(l.marks.length:Int)=((l.picks.length:Int)).tdiv l.every+1
 case neg=>
  have d4:decide ((l.marks.length:Int)=((l.picks.length:Int)).tdiv l.every+1)=false:=D_f h4;rw[hnb (b:=false) (by simp only[aGr,d4,bQ5,bSj,bQ0,bQ7])]
  simp only[go_sem,kK,bQl,d1,d2,d3,hz,hw1,hw2,d4,kF]
 have d4:decide ((l.marks.length:Int)=((l.picks.length:Int)).tdiv l.every+1)=true:=D_t h4;have hm:Few l.marks.length:=hl.2.1;have hall:aGr p l=l.marks.all (bM p):=by simp only[aGr,d1,d2,d3,d4,bQ0,Bool.or_self,bQ5,bQ9]
 rw[hall];simp only[go_sem,kK,bQl,d1,d2,d3,hz,hw1,hw2,d4,kF]
 refine bQ (l.marks.length) (fun k st=> ∃fr en cnt,st=⟨fr,en,cnt⟩/\ (fr 2= .ptr ⟨0,2,0⟩ 0)/\ (en ⟨0,2,0⟩=some (.box p.cs false))/\ (fr 3= .ptr ⟨0,3,0⟩ 0)/\ (en ⟨0,3,0⟩=some (.box l.cs false))/\ (fr 35= .fz (l.marks.map aA.enc))/\ (fr 36= .i l.marks.length)/\ (fr 37= .i k)/\ ((l.marks.take k).all (bM p)=true)) 0 (bQt _) (by refine⟨_,_,_,rfl,?_,?_,?_,?_,?_,?_,?_,?_⟩<;>first|(simp only[go_sem];(try rfl);done)|rfl|(simp;done)) ?_
 rintro k st hk ⟨fr,en,cnt,rfl,h2,e2,h3,e3,h35,h36,h37,hA⟩
 simp only[go_sem,kK,h36,h37]
 refine aH (fun hq=>?_) (fun hq=>?_)
 ·have h':k<l.marks.length:=D_o hq;have hia:=fun en=>sZ (l:=l) (en:=en) h'
  have hC:=aCm p l.marks[k] hp (hl.2.2 _ (bQr h')) hsp;cases hg:bM p l.marks[k]with
  |false=>
   rw[hg]at hC;have hna:l.marks.all (bM p)=false:=by
    rw[List.all_eq_false];exact⟨_,bQr h',by rw[hg];decide⟩
   rw[hna];simp only[go_sem,kK,h2,e2,h35,h37,h',hia,hC.ret,kF]
  |true=>
   rw[hg]at hC;simp only[go_sem,kK,h2,e2,h35,h37,h',hia,hC.ret,if_true,kF]
   refine⟨_,_,_,rfl,?_⟩
   simp only[go_sem,h2,e2,h3,e3,h35,h36,aR h' hm];rw[gM h',List.all_append,hA,bQ9,bSs,List.all_nil,hg];rfl
 ·have:k=l.marks.length:=by simp at hq;omega
  subst this;rw[bR1]at hA;rw[hA];simp only[go_sem,if_true]
theorem aGs (n:Nat)(he:1<=aQ l)(hn:n<=1000000)(hev:l.every=(aQ l:Int)):PC L 90 [(ply p l),.i (n:Int)] (.bool (decide (n%aQ l=0))):=by
 have h0: ¬((aQ l:Int)=0):=by omega
 have e:((n:Int)).tmod (aQ l:Int)=((n%aQ l:Nat):Int):=by
  rw[Int.tmod_eq_emod_of_nonneg (by omega)];omega
 have d:decide (((n%aQ l:Nat):Int)=0)=decide (n%aQ l=0):=decide_eq_decide.2 (by omega)
 refine pcA func90 ?_
 simp only[go_sem,kK,hev,h0,e,d]
end Go.Proofs.YtmafmhjndjmalaaGreat
