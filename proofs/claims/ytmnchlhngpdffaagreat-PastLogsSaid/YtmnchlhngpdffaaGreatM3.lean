/- Contracts of functions of the program and of the document: part 3. -/
import Derived.Test.YtmnchlhngpdffaaGreatM2
import Derived.Test.YtmnchlhngpdffaaGreatM1
set_option linter.all false
open Bool renaming and_eq_true -> bPp, false_and -> bQq, false_eq_true -> bPs, not_false -> bP8, not_true -> bP3, or_true -> bRq, true_and -> bQn
open Int renaming eq_ofNat_of_zero_le -> bQv, natCast_nonneg -> bSa, tmod_eq_emod_of_nonneg -> bTc, toNat_natCast -> bQo
open List renaming all_cons -> bR3, all_eq_true -> bPv, append_nil -> bQr, drop_length -> bRf, getD_eq_getElem?_getD -> bPu, getElem?_append_left -> bSx, getElem?_eq_getElem -> bQz, getElem_mem -> bPz, length_append -> bP9, length_cons -> bPy, length_filter_le -> bS7, length_map -> bPr, length_nil -> bP7, length_pos_iff -> bSj, length_set -> bRp, length_take -> bQx, map_append -> bQs, map_nil -> bP1, map_set -> bR4, map_take -> bRe, mem_map -> bQk, mem_of_mem_take -> bR0, nil_append -> bQt, prefix_refl -> bSo, replicate_succ -> bQ5, replicate_zero -> bQ4, take_length -> bQ6, take_of_length_le -> bQa, take_succ_cons -> bP0, take_zero -> bPw
open Nat renaming add_assoc -> bRi, add_zero -> bQ9, div_mul_le_self -> bS8, le_refl -> bPq, le_trans -> bP2, lt_of_lt_of_le -> bQf, zero_add -> bQh, zero_le -> bPx
namespace Go.Proofs.YtmnchlhngpdffaaGreat
open Go.Abs Go.Proofs Tryz
set_option maxRecDepth 100000
set_option maxHeartbeats 4000000
variable {en:En}{k t i:Nat}{l:List aB}{K P v:Val}{f0:aB}{nd:aM}{a:Int}{p:aF}{w:aA}
section
variable {kt kr:Key}{cnt:Nat->Nat->Nat}{w0:aA}{S:Nat->Prop}{left:List aB}{f:aB}{n:aM}{back:List aD}{bv:Val}
theorem aHy (h:k<l.length):oU 3 en (.fz (l.map aB.enc)) (.i (k:Int))=some {v:= .fp [.i (l.getD k fF).node,.fz ((l.getD k fF).env.map aD.enc),.fz ((l.getD k fF).vals.map aD.enc)] 0}:=by
 have e:l.getD k fF=l[k]:=by simp[bPu,h]
 rw[e];simp[oU,h,aB.enc];exact⟨rfl,rfl⟩
theorem bCw (v:aD)(h:0<l.length):aDx l v=l.take (l.length-1)++[⟨(l.getD (l.length-1) fF).node,(l.getD (l.length-1) fF).env,(l.getD (l.length-1) fF).vals++[v]⟩]:=by
 unfold aDx;generalize (⟨(l.getD (l.length-1) fF).node,(l.getD (l.length-1) fF).env,(l.getD (l.length-1) fF).vals++[v]⟩:aB)=x;rw[List.set_eq_take_append_cons_drop,if_pos (by omega),Nat.sub_add_cancel (by omega),bRf]
def aI3 (p:aF)(w:aA)(a:Int)(o:aQ):OpR:=
 if o.vals.length=0 then
  (if(((o.frames.getD (o.frames.length-1) fF).vals.length:Nat):Int)<(p.node (o.frames.getD (o.frames.length-1) fF).node).asks then
   rO w o.frames [⟨oY (p.node (o.frames.getD (o.frames.length-1) fF).node) (o.frames.getD (o.frames.length-1) fF).vals.length,(o.frames.getD (o.frames.length-1) fF).env,[]⟩]
  else opR p w a (o.frames.take (o.frames.length-1)) (o.frames.getD (o.frames.length-1) fF) (p.node (o.frames.getD (o.frames.length-1) fF).node))
 else .go none w (aDx o.frames (aE o.vals 0)) []
def aXo (kt kr:Key)(en:En)(cnt:Nat->Nat->Nat)(p:aF)(w:aA)(a:Int)(o:aQ):OpR->Prop
 | .go ev w' left' back=>WIn L (.fn 172 [] []) [.ptr kt 0,.agg [.i o.form,.i o.n,.fz (o.vals.map aD.enc),.fz (o.frames.map aB.enc)]] en cnt fun r en' cnt'=>r=aO0 ev/\ (∃f' n' bv',TS kt kr en' cnt' p w' a left' f' n' back bv')/\ dT kt kr en cnt en' cnt'
 | .wait=>WIn L (.fn 172 [] []) [.ptr kt 0,.agg [.i o.form,.i o.n,.fz (o.vals.map aD.enc),.fz (o.frames.map aB.enc)]] en cnt fun r en' cnt'=>r=aXc/\ (∃left' f' n' back' bv',TS kt kr en' cnt' p w a left' f' n' back' bv')/\ dT kt kr en cnt en' cnt'
 | .fail s=>xQ L 172 [.ptr kt 0,.agg [.i o.form,.i o.n,.fz (o.vals.map aD.enc),.fz (o.frames.map aB.enc)]] en cnt (pP kt kr en cnt p s)
def sU :aM:=⟨0,0,[],[]⟩
theorem aWd (h:TB kt kr en cnt p w a sU K P){o:aQ}(hv:o.vals.length=1)(hf0:0<o.frames.length)(hf:o.frames.length<=40)(hfv:(o.frames.getD (o.frames.length-1) fF).vals.length<=1000):
  aXo kt kr en cnt p w a o (.go none w (aDx o.frames (aE o.vals 0)) []):=by
 have H:=h.pre;have ht:=h.t;have hr:=h.r;have hw1:IntKind.i64.wrap ((o.frames.length:Int)-1)=((o.frames.length-1:Nat):Int):=by rw[aW (by omega)];omega
 have dv:decide ((0:Int)<(o.vals.length:Int))=true:=D_t (by omega)
 have hLz:=at_ func172
 conv at hLz=>rhs;reduce
 refine bD hLz rfl rfl ?_
 have hia:=fun en=>aHy (l:=o.frames) (en:=en) (k:=o.frames.length-1) (by omega)
 have hsh:=fun en=>xX (size:=3) (xs:=o.frames.map aB.enc) (en:=en) (k:=o.frames.length-1) (by rw[bPr];omega)
 have hv0:0<o.vals.length:=by omega
 simp only[go_sem,kK,bPr,hw1,dv,hia];rw[bCw _ hf0];generalize o.frames.getD (o.frames.length-1) fF=f0 at hia hfv⊢;have u1: ∀t,cnt 0 t<=aC (aC cnt 0 3 (cnt 0 3+1)) 0 6 (cnt 0 6+1) 0 t:=(by(repeat refine upS ?_ (by omega));exact aO _)
 have b1:TB kt kr (((en.set ⟨0,3,cnt 0 3⟩ (some (.box [.i o.form,.i o.n,.fz (o.vals.map aD.enc),.fz (o.frames.map aB.enc)] false))).set ⟨0,6,cnt 0 6⟩ (some (.box [.i 0,.cl [],.cl []] false))).set ⟨0,6,cnt 0 6⟩ (some (.box [.i f0.node,.fz (f0.env.map aD.enc),.fz (f0.vals.map aD.enc)] false))) (aC (aC cnt 0 3 (cnt 0 3+1)) 0 6 (cnt 0 6+1)) p w a sU K P:=
  ⟨h.okt.up u1,h.okr.up u1,h.ne,h.hK,h.hP,by simp only[H];exact ht,by simp only[H];exact hr⟩
 refine cA ?_
 simp only[go_sem,hsh]
 refine(uG b1 (l:=o.frames.take (o.frames.length-1)) (.inl (by rw[bRe])) (by rw[bQx];omega)).mono ?_
 rintro v e1 c1 ⟨rfl,⟨bv1,t1⟩,k1⟩
 obtain⟨p3,q3⟩:=k1.loc (d:=3) (g:=cnt 0 3) (by simp[aC]) h.okt.ne.symm h.okr.ne.symm
 obtain⟨p6,q6⟩:=k1.loc (d:=6) (g:=cnt 0 6) (by simp[aC]) h.okt.ne.symm h.okr.ne.symm
 simp only[go_sem]at p3 p6
 try simp only[go_sem,kK]
 refine jQ ?_
 have ht1:=t1.t;have hl:f0.vals.length+1<=16777216:=by omega
 simp only[go_sem,kB,p3,p6,(aB6 _).ret,aS hv0,bM,dY,vS,tP,aC5,hl,bPr,sP,kA,kF];have hA:f0.vals.map aD.enc++[.agg [.i (aE o.vals 0).kind,.i (aE o.vals 0).n]]=(f0.vals++[aE o.vals 0]).map aD.enc:=by simp[aD.enc]
 have hL:f0.vals.length+1=(f0.vals++[aE o.vals 0]).length:=by simp
 generalize hvv:f0.vals++[aE o.vals 0]=vv at hA hL⊢;simp only[hA,hL];have hT:List.take vv.length (vv.map aD.enc)=vv.map aD.enc:=by rw[bQa (by simp)]
 simp only[go_sem,bPr,bQh,bPq,hT];obtain⟨⟨bv2,t2⟩,k2⟩:=t1.stay (cnt':=aC c1 0 41 (c1 0 41+1)) (en':=(e1.set ⟨0,41,c1 0 41⟩ (some (.blk 2 (vv.map aD.enc) (!(f0.vals.map aD.enc).isEmpty)))).set ⟨0,41,c1 0 41⟩ (some (.blk 2 (vv.map aD.enc) true))) (fun k hk=>by simp only[hk.set]) (by(repeat refine upS ?_ (by omega));exact aO _)
 refine(aGb t2 (l:=[⟨f0.node,f0.env,vv⟩]) (.inr rfl) (by simp only[bQx,bPy,bP7];omega)).mono ?_
 rintro v e3 c3 ⟨_,⟨bv3,t3⟩,k3⟩
 have k0:dT kt kr en cnt e1 c1:=⟨fun x hx y1 y2=>by rw[k1.old x (hx.up u1) y1 y2];simp only[hx.set],fun t=>bP2 (u1 t) (k1.up t)⟩
 exact⟨rfl,⟨_,_,bv3,t3⟩,(k0.trans k2).trans k3⟩
theorem bCx (h:TB kt kr en cnt p w a sU K P){o:aQ}(hv:o.vals.length=0)(hf0:0<o.frames.length)(hf:o.frames.length<=40)(hff:o.frames.getD (o.frames.length-1) fF=f0)(hni:inR f0.node 0 ((p.nodes.length:Int)-1)=true)
   (hnd:p.node f0.node=nd) (hk:(f0.vals.length:Int)<nd.asks) (hkl:f0.vals.length<nd.kids.length):
  aXo kt kr en cnt p w a o (rO w o.frames [⟨oY nd f0.vals.length,f0.env,[]⟩]):=by
 have H:=h.pre;have hn:=h.ne;have ht:=h.t;have hr:=h.r;have hw1:IntKind.i64.wrap ((o.frames.length:Int)-1)=((o.frames.length-1:Nat):Int):=by rw[aW (by omega)];omega
 have dv:decide ((0:Int)<(o.vals.length:Int))=false:=D_f (by omega)
 have hia:=fun en=>aHy (l:=o.frames) (en:=en) (k:=o.frames.length-1) (by omega)
 rw[hff]at hia;have hin:=fun en=>bK (k:= .i64) (p:=p) (en:=en) hni
 rw[hnd]at hin;have dk:decide ((f0.vals.length:Int)<nd.asks)=true:=D_t hk;have hA:=tO nd;have u1: ∀t,cnt 0 t<=aC (aC cnt 0 3 (cnt 0 3+1)) 0 7 (cnt 0 7+1) 0 t:=(by(repeat refine upS ?_ (by omega));exact aO _)
 have b1:TB kt kr ((((en.set ⟨0,3,cnt 0 3⟩ (some (.box [.i o.form,.i o.n,.fz (o.vals.map aD.enc),.fz (o.frames.map aB.enc)] false))).set ⟨0,7,cnt 0 7⟩ (some (.box [.i 0,.cl [],.cl []] false))).set ⟨0,7,cnt 0 7⟩ (some (.box [.i f0.node,.fz (f0.env.map aD.enc),.fz (f0.vals.map aD.enc)] false))).set kt (some (.box [.ptr kr 0,.i a,.cl [],.i 0,.cl [],.cl [],.i nd.op,.i nd.n,.is nd.kids,.fz (nd.pats.map Pat.enc),.cl []] false))) (aC (aC cnt 0 3 (cnt 0 3+1)) 0 7 (cnt 0 7+1)) p w a nd (.is nd.kids) (.fz (nd.pats.map Pat.enc)):=
  ⟨h.okt.up u1,h.okr.up u1,h.ne,.inl rfl,.inl rfl,cG,by rw[aK hn];simp only[H];exact hr⟩
 unfold rO
 by_cases hc:40<(o.frames++[(⟨oY nd f0.vals.length,f0.env,[]⟩:aB)]).length
 ·rw[if_pos hc];simp only[bP9,bPy,bP7]at hc;have hL:=at_ func172
  conv at hL=>rhs;reduce
  refine cC hL rfl rfl ?_
  simp only[go_sem,kK,H,bPr,hw1,dv,hia,ht,hr,hin,hA.ret,dk]
  refine cA ?_
  simp only[go_sem,H]
  refine(uG b1 (l:=o.frames) (.inl rfl) (by omega)).mono ?_
  rintro v e1 c1 ⟨rfl,⟨bv1,t1⟩,k1⟩
  obtain⟨p7,q7⟩:=k1.loc (d:=7) (g:=cnt 0 7) (by simp[aC]) h.okt.ne.symm h.okr.ne.symm
  rw[aK h.okt.ne.symm,cG]at p7
  try simp only[go_sem,kK]
  have k0:dT kt kr en cnt e1 c1:=⟨fun x hx y1 y2=>by rw[k1.old x (hx.up u1) y1 y2,aK y1];simp only[hx.set],fun t=>bP2 (u1 t) (k1.up t)⟩
  refine dK 4 rfl ?_
  simp only[go_sem,bP0,bPw,p7];exact(zB t1 (i:=f0.vals.length) (env:=f0.env) hkl (.inl rfl) (by omega)).mono fun _ _ _=>pP.then k0
 ·rw[if_neg hc];simp only[bP9,bPy,bP7]at hc;have hL:=at_ func172
  conv at hL=>rhs;reduce
  refine bD hL rfl rfl ?_
  simp only[go_sem,kK,H,bPr,hw1,dv,hia,ht,hr,hin,hA.ret,dk]
  refine cA ?_
  simp only[go_sem,H]
  refine(uG b1 (l:=o.frames) (.inl rfl) (by omega)).mono ?_
  rintro v e1 c1 ⟨rfl,⟨bv1,t1⟩,k1⟩
  obtain⟨p7,q7⟩:=k1.loc (d:=7) (g:=cnt 0 7) (by simp[aC]) h.okt.ne.symm h.okr.ne.symm
  rw[aK h.okt.ne.symm,cG]at p7
  try simp only[go_sem,kK]
  have k0:dT kt kr en cnt e1 c1:=⟨fun x hx y1 y2=>by rw[k1.old x (hx.up u1) y1 y2,aK y1];simp only[hx.set],fun t=>bP2 (u1 t) (k1.up t)⟩
  refine cA ?_
  simp only[go_sem,p7]
  refine(zA t1 (i:=f0.vals.length) (env:=f0.env) hkl (.inl rfl) (by omega)).mono ?_
  rintro v e2 c2 ⟨rfl,⟨bv2,t2⟩,k2⟩
  exact⟨rfl,⟨_,_,bv2,t2⟩,k0.trans k2⟩
def bGe (agg:Bool)(len size:Nat)(x i:Val):Option Res:=match x,i with
 | .agg cs,.int _ j=>if 0<=j/\ j<len/\ j.toNat*size+size<=cs.length then(iX agg ((cs.drop (j.toNat*size)).take size)).map fun v=>{v}else none
 |_,_=>none
theorem aWe {d g:Nat}{get:Opd->Val}{agg:Bool}{len size:Nat}{x i:Opd}:dE d g en get (.ixa agg len size x i)=bGe agg len size (get x) (get i):=(rfl)
theorem bE7 {op:Int}(h1:1<=op)(h2:op<=28):bGe false 29 1 (.agg bH9) (.i op)=some {v:= .fn (oZ.getD (op.toNat-1) 0) [] []}:=by
 have ho:op=1 \/op=2 \/op=3 \/op=4 \/op=5 \/op=6 \/op=7 \/op=8 \/op=9 \/op=10 \/op=11 \/op=12 \/op=13 \/op=14 \/op=15 \/op=16 \/op=17 \/op=18 \/op=19 \/op=20 \/op=21 \/op=22 \/op=23 \/op=24 \/op=25 \/op=26 \/op=27 \/op=28:=by omega
 rcases ho with rfl|rfl|rfl|rfl|rfl|rfl|rfl|rfl|rfl|rfl|rfl|rfl|rfl|rfl|rfl|rfl|rfl|rfl|rfl|rfl|rfl|rfl|rfl|rfl|rfl|rfl|rfl|rfl<;>rfl
theorem bE8 (h:TB kt kr en cnt p w a sU K P){o:aQ}(hv:o.vals.length=0)(hf0:0<o.frames.length)(hf:o.frames.length<=40)(hff:o.frames.getD (o.frames.length-1) fF=f0)
   (P0:Pre p w0 S w a (o.frames.take (o.frames.length-1)) f0 nd):
  aXo kt kr en cnt p w a o (opR p w a (o.frames.take (o.frames.length-1)) f0 nd):=by
 have H:=h.pre;have hn:=h.ne;have ht:=h.t;have hr:=h.r;have hni:=fR P0.hf;have hnd:=P0.hn;have hw1:IntKind.i64.wrap ((o.frames.length:Int)-1)=((o.frames.length-1:Nat):Int):=by rw[aW (by omega)];omega
 have dv:decide ((0:Int)<(o.vals.length:Int))=false:=D_f (by omega)
 have hia:=fun en=>aHy (l:=o.frames) (en:=en) (k:=o.frames.length-1) (by omega)
 have hsh:=fun en=>xX (size:=3) (xs:=o.frames.map aB.enc) (en:=en) (k:=o.frames.length-1) (by rw[bPr];omega)
 rw[hff]at hia;have hin:=fun en=>bK (k:= .i64) (p:=p) (en:=en) hni
 rw[hnd]at hin;have dk:decide ((f0.vals.length:Int)<nd.asks)=false:=D_f (by have:=P0.full;omega)
 have hA:=tO nd;have hO:=aNk;obtain⟨c1,c2⟩:=aMg P0.node;have hix:=bE7 c1 c2;have u1: ∀t,cnt 0 t<=aC (aC cnt 0 3 (cnt 0 3+1)) 0 7 (cnt 0 7+1) 0 t:=(by(repeat refine upS ?_ (by omega));exact aO _)
 have b1:TB kt kr ((((en.set ⟨0,3,cnt 0 3⟩ (some (.box [.i o.form,.i o.n,.fz (o.vals.map aD.enc),.fz (o.frames.map aB.enc)] false))).set ⟨0,7,cnt 0 7⟩ (some (.box [.i 0,.cl [],.cl []] false))).set ⟨0,7,cnt 0 7⟩ (some (.box [.i f0.node,.fz (f0.env.map aD.enc),.fz (f0.vals.map aD.enc)] false))).set kt (some (.box [.ptr kr 0,.i a,.cl [],.i 0,.cl [],.cl [],.i nd.op,.i nd.n,.is nd.kids,.fz (nd.pats.map Pat.enc),.cl []] false))) (aC (aC cnt 0 3 (cnt 0 3+1)) 0 7 (cnt 0 7+1)) p w a nd (.is nd.kids) (.fz (nd.pats.map Pat.enc)):=
  ⟨h.okt.up u1,h.okr.up u1,h.ne,.inl rfl,.inl rfl,cG,by rw[aK hn];simp only[H];exact hr⟩
 have does:=fun(e2:En) (c2:Nat->Nat->Nat) (bv:Val) (h2:TS kt kr e2 c2 p w a (o.frames.take (o.frames.length-1)) f0 nd [] bv)=>bCv P0 h2
 generalize opR p w a (o.frames.take (o.frames.length-1)) f0 nd=R at does⊢;generalize oZ.getD (nd.op.toNat-1) 0=fn at does hix;cases R with
 |go ev w' left' back'=>
  have hL:=at_ func172
  conv at hL=>rhs;reduce
  refine bD hL rfl rfl ?_
  simp only[go_sem,kK,H,bPr,hw1,dv,hia,ht,hr,hin,hA.ret,dk]
  refine cA ?_
  simp only[go_sem,H,hsh]
  refine(uG b1 (l:=o.frames.take (o.frames.length-1)) (.inl (by rw[bRe])) (by rw[bQx];omega)).mono ?_
  rintro v e1 c1 ⟨rfl,⟨bv1,t1⟩,k1⟩
  obtain⟨p7,q7⟩:=k1.loc (d:=7) (g:=cnt 0 7) (by simp[aC]) h.okt.ne.symm h.okr.ne.symm
  rw[aK h.okt.ne.symm,cG]at p7
  try simp only[go_sem,kK]
  have k0:dT kt kr en cnt e1 c1:=⟨fun x hx y1 y2=>by rw[k1.old x (hx.up u1) y1 y2,aK y1];simp only[hx.set],fun t=>bP2 (u1 t) (k1.up t)⟩
  have ht1:=t1.t;simp only[go_sem,p7,ht1];have t2:TS kt kr (e1.set kt (some (.box [.ptr kr 0,.i a,.fz ((o.frames.take (o.frames.length-1)).map aB.enc),.i f0.node,.fz (f0.env.map aD.enc),.fz (f0.vals.map aD.enc),.i nd.op,.i nd.n,.is nd.kids,.fz (nd.pats.map Pat.enc),bv1] false))) c1 p w a (o.frames.take (o.frames.length-1)) f0 nd [] bv1:=⟨t1.okt,t1.okr,t1.ne,t1.ob,cG,by rw[aK hn];exact t1.r⟩
  have k2:dT kt kr en cnt (e1.set kt (some (.box [.ptr kr 0,.i a,.fz ((o.frames.take (o.frames.length-1)).map aB.enc),.i f0.node,.fz (f0.env.map aD.enc),.fz (f0.vals.map aD.enc),.i nd.op,.i nd.n,.is nd.kids,.fz (nd.pats.map Pat.enc),bv1] false))) c1:=⟨fun x hx y1 y2=>by rw[aK y1];exact k0.old x hx y1 y2,k0.up⟩
  have t2t:=t2.t
  refine jQ ?_
  simp only[go_sem,hO.ret,t2t,hix,aWe,kA,kF]
  refine(does _ _ _ t2).mono ?_
  rintro v e3 c3 ⟨rfl,⟨bv3,t3⟩,k3⟩
  simp only[go_sem];exact⟨⟨_,_,bv3,t3⟩,k2.trans k3⟩
 |wait=>
  have hL:=at_ func172
  conv at hL=>rhs;reduce
  refine bD hL rfl rfl ?_
  simp only[go_sem,kK,H,bPr,hw1,dv,hia,ht,hr,hin,hA.ret,dk]
  refine cA ?_
  simp only[go_sem,H,hsh]
  refine(uG b1 (l:=o.frames.take (o.frames.length-1)) (.inl (by rw[bRe])) (by rw[bQx];omega)).mono ?_
  rintro v e1 c1 ⟨rfl,⟨bv1,t1⟩,k1⟩
  obtain⟨p7,q7⟩:=k1.loc (d:=7) (g:=cnt 0 7) (by simp[aC]) h.okt.ne.symm h.okr.ne.symm
  rw[aK h.okt.ne.symm,cG]at p7
  try simp only[go_sem,kK]
  have k0:dT kt kr en cnt e1 c1:=⟨fun x hx y1 y2=>by rw[k1.old x (hx.up u1) y1 y2,aK y1];simp only[hx.set],fun t=>bP2 (u1 t) (k1.up t)⟩
  have ht1:=t1.t;simp only[go_sem,p7,ht1];have t2:TS kt kr (e1.set kt (some (.box [.ptr kr 0,.i a,.fz ((o.frames.take (o.frames.length-1)).map aB.enc),.i f0.node,.fz (f0.env.map aD.enc),.fz (f0.vals.map aD.enc),.i nd.op,.i nd.n,.is nd.kids,.fz (nd.pats.map Pat.enc),bv1] false))) c1 p w a (o.frames.take (o.frames.length-1)) f0 nd [] bv1:=⟨t1.okt,t1.okr,t1.ne,t1.ob,cG,by rw[aK hn];exact t1.r⟩
  have k2:dT kt kr en cnt (e1.set kt (some (.box [.ptr kr 0,.i a,.fz ((o.frames.take (o.frames.length-1)).map aB.enc),.i f0.node,.fz (f0.env.map aD.enc),.fz (f0.vals.map aD.enc),.i nd.op,.i nd.n,.is nd.kids,.fz (nd.pats.map Pat.enc),bv1] false))) c1:=⟨fun x hx y1 y2=>by rw[aK y1];exact k0.old x hx y1 y2,k0.up⟩
  have t2t:=t2.t
  refine jQ ?_
  simp only[go_sem,hO.ret,t2t,hix,aWe,kA,kF]
  refine(does _ _ _ t2).mono ?_
  rintro v e3 c3 ⟨rfl,⟨bv3,t3⟩,k3⟩
  simp only[go_sem];exact⟨⟨_,_,_,_,bv3,t3⟩,k2.trans k3⟩
 |fail s=>
  have hL:=at_ func172
  conv at hL=>rhs;reduce
  refine cC hL rfl rfl ?_
  simp only[go_sem,kK,H,bPr,hw1,dv,hia,ht,hr,hin,hA.ret,dk]
  refine cA ?_
  simp only[go_sem,H,hsh]
  refine(uG b1 (l:=o.frames.take (o.frames.length-1)) (.inl (by rw[bRe])) (by rw[bQx];omega)).mono ?_
  rintro v e1 c1 ⟨rfl,⟨bv1,t1⟩,k1⟩
  obtain⟨p7,q7⟩:=k1.loc (d:=7) (g:=cnt 0 7) (by simp[aC]) h.okt.ne.symm h.okr.ne.symm
  rw[aK h.okt.ne.symm,cG]at p7
  try simp only[go_sem,kK]
  have k0:dT kt kr en cnt e1 c1:=⟨fun x hx y1 y2=>by rw[k1.old x (hx.up u1) y1 y2,aK y1];simp only[hx.set],fun t=>bP2 (u1 t) (k1.up t)⟩
  have ht1:=t1.t;simp only[go_sem,p7,ht1];have t2:TS kt kr (e1.set kt (some (.box [.ptr kr 0,.i a,.fz ((o.frames.take (o.frames.length-1)).map aB.enc),.i f0.node,.fz (f0.env.map aD.enc),.fz (f0.vals.map aD.enc),.i nd.op,.i nd.n,.is nd.kids,.fz (nd.pats.map Pat.enc),bv1] false))) c1 p w a (o.frames.take (o.frames.length-1)) f0 nd [] bv1:=⟨t1.okt,t1.okr,t1.ne,t1.ob,cG,by rw[aK hn];exact t1.r⟩
  have k2:dT kt kr en cnt (e1.set kt (some (.box [.ptr kr 0,.i a,.fz ((o.frames.take (o.frames.length-1)).map aB.enc),.i f0.node,.fz (f0.env.map aD.enc),.fz (f0.vals.map aD.enc),.i nd.op,.i nd.n,.is nd.kids,.fz (nd.pats.map Pat.enc),bv1] false))) c1:=⟨fun x hx y1 y2=>by rw[aK y1];exact k0.old x hx y1 y2,k0.up⟩
  have t2t:=t2.t
  refine mF 8 rfl rfl ?_
  simp only[go_sem,bP0,bPw,bQ5,bQ4,sI,hO.ret,t2t,hix,aWe,kA,kF];exact⟨rfl,(does _ _ _ t2).mono fun _ _ _=>pP.then k2⟩
structure RS (kr:Key) (en:En) (cnt:Nat->Nat->Nat) (p:aF) (w:aA):Prop where
 okr:Old kr cnt
 r:en kr=some (.box [.fz (p.nodes.map aM.enc),.is p.funs,.i p.main,.fz (p.cons.map cS.enc),.fz (w.objs.map aQ.enc),.is w.tasks,.fz (w.outs.map bJ.enc),.is w.ins,.i w.used] false)
theorem TS.rs (h:TS kt kr en cnt p w a left f n back bv):RS kr en cnt p w:=⟨h.okr,h.r⟩
theorem RS.to {en':En}{cnt':Nat->Nat->Nat}(h:RS kr en cnt p w)(hr:en' kr=en kr)(hu: ∀t,cnt 0 t<=cnt' 0 t):RS kr en' cnt' p w:=⟨h.okr.up hu,by rw[hr];exact h.r⟩
theorem bKm (h:RS kr en cnt p w){w':aA}{O:Val}{K1:List Key}{E:En}{c:Nat->Nat->Nat}(hT:w'.tasks=w.tasks)(hU:w'.outs=w.outs)(hI:w'.ins=w.ins)(hus:w'.used=w.used)
  (hr:E kr=some (.box [.fz (p.nodes.map aM.enc),.is p.funs,.i p.main,.fz (p.cons.map cS.enc),O,.is w.tasks,.fz (w.outs.map bJ.enc),.is w.ins,.i w.used] false))
  (hO:cQ E O=some (.fz (w'.objs.map aQ.enc),K1)) (hK: ∀k∈K1,∃d,k=⟨0,d,cnt 0 d⟩) (hk: ∀k,Old k cnt->k≠kr->E k=en k) (hu: ∀t,cnt 0 t<=c 0 t):
  match oP (.ptr kr 0) [[]] E with
  |some en'=>RS kr en' c p w'/\ dT kr kr en cnt en' c
  |none=>False:=by
 have hkn:kr∉K1++([]++([]++[])):=fun hm=>by
  simp only[bQr]at hm;obtain⟨d,e⟩:=hK kr hm;exact h.okr.ne e
 rw[aTr hr hO rfl rfl rfl hkn];simp only[bQr]
 refine⟨⟨h.okr.up hu,?_⟩,fun k ho k1 _=>?_,hu⟩
 ·rw[cG,hT,hU,hI,hus]
 ·rw[aK k1,wZ ho hK];exact hk k ho k1
theorem aAn (h:RS kr en cnt p w){o:aQ}{V FV:Val}(hV:iO V (o.vals.map aD.enc))(hF:iO FV (o.frames.map aB.enc))(ha:inR a 0 ((w.tasks.length:Int)-1)=true)(hr1:inR (bG w a) 0 ((w.objs.length:Int)-1)=true)(hs:w.objs.length<=1000000):
  WIn L (.fn 168 [] []) [.ptr kr 0,.i a,.agg [.i o.form,.i o.n,V,FV]] en cnt fun r en' cnt'=>r= .tup []/\ RS kr en' cnt' p (dW w (bG w a) o)/\ dT kr kr en cnt en' cnt':=by
 have s2:=h.okr.set;have n2:=h.okr.new;have hr:=h.r;have m2:=h.okr.eqF;have o2:=h.okr.eqF';have hia: ∀en,oU 1 en (.fz (w.tasks.map (.int .i64))) (.i a)=some {v:= .fp [.i (bG w a)] 0}:=fun en=>vB ha
 simp only[inR,bTe]at hr1;obtain⟨j,hj⟩:=bQv hr1.1;have hjl:j<w.objs.length:=by omega
 have hl:(w.objs.map aQ.enc).length<=16777216:=by rw[bPr];omega
 have hC:=aAi (w.objs.map aQ.enc) (aAh _) hl;have hne:w.objs.map aQ.enc≠[]:=by intro he;have h0:=congrArg List.length he;simp at h0;rw[h0]at hjl;simp at hjl
 rw[pY hne]at hC;have hget:(w.objs.map aQ.enc)[j]?=some (aQ.enc w.objs[j]):=by simp[hjl]
 have hS:(w.objs.map aQ.enc).set j (.agg [.i o.form,.i o.n,.fz (o.vals.map aD.enc),.fz (o.frames.map aB.enc)])=(dW w (bG w a) o).objs.map aQ.enc:=by simp[dW,bR4,aQ.enc,hj]
 have hSl:w.objs.length=((dW w (bG w a) o).objs.map aQ.enc).length:=by simp[dW]
 have hL:=at_ func168
 conv at hL=>rhs;reduce
 refine rZ hL rfl rfl ?_
 simp only[go_sem,kK,s2];rcases hV with rfl|rfl<;>rcases hF with rfl|rfl<;>
 (simp only[go_sem,hr,s2,n2,kB,hC.ret,hget,hia,hj,hjl,bPr,fD,bSa,bQo,kF]
  rw[hj]at hS hSl;rw[hS];exact bKm h (w':=dW w (j:Int) o) rfl rfl rfl rfl (by rw[aK h.okr.ne,cG]) (tQ cG hSl) (fun k hk=>⟨12,by simpa using hk⟩) (fun k ho k1=>by simp only[ho.set,aK k1]) (by(repeat refine upS ?_ (by omega));exact aO _))
structure SB (kr:Key) (en:En) (w:aA) (a:Int) (g2 g3 g4 g6:Nat) (e:Val):Prop where
 b2:en ⟨0,2,g2⟩=some (.box [.ptr kr 0] false)
 b3:en ⟨0,3,g3⟩=some (.box [.i a] false)
 b4:en ⟨0,4,g4⟩=some (.box [e] false)
 b6:en ⟨0,6,g6⟩=some (.box [.fz (w.objs.map aQ.enc),.is w.tasks,.fz (w.outs.map bJ.enc),.is w.ins,.i w.used] false)
theorem xD :(Val.ifc t v).one=true:=(rfl)
theorem qB :(Val.ifc t v).cells=[.ifc t v]:=(rfl)
theorem bE9 {k:Key}:(Val.ptr k i).one=true:=(rfl)
theorem aZu {k:Key}:(Val.ptr k i).cells=[.ptr k i]:=(rfl)
theorem aWf :dA .neq .iface .nili .nili=some (.bool false):=(rfl)
theorem bIa :dA .neq .iface (.ifc t v) .nili=some (.bool true):=(rfl)
theorem bCy (n0:(w.obj (bG w a)).n=0)(hf:0<(w.obj (bG w a)).frames.length)(hv:(w.obj (bG w a)).vals.length<=1)(he: ∀f∈(w.obj (bG w a)).frames,f.env.length<=30)(ha:inR a 0 ((w.tasks.length:Int)-1)=true):
  aV p w a=(aI3 p w a (w.obj (bG w a))).did w a:=by
 unfold aV aI3
 simp only
 generalize w.obj (bG w a)=o at n0 hf hv he;rw[if_neg (fun h=>h n0)]
 by_cases h1:o.vals.length=1
 ·rw[if_pos h1,if_neg (by omega),if_neg (by omega)]
  rfl
 ·have hz:o.vals.length=0:=by omega
  rw[if_neg h1,if_pos hz];have hm:o.frames.getD (o.frames.length-1) fF∈o.frames:=by
   rw[bPu,bQz (by omega)]
   exact bPz _
  have:=he _ hm;split
  ·rw[sA];unfold kC;rw[if_neg (by omega)]
  ·exact aB5 ha
theorem aMn (hp:dU p)(hsp:aR p=true)(hF:cM p w0 S w)(ha:inR a 0 ((w.tasks.length:Int)-1)=true)(n0:(w.obj (bG w a)).n=0)(hf0:0<(w.obj (bG w a)).frames.length)(h:TB kt kr en cnt p w a sU K P):
  aXo kt kr en cnt p w a (w.obj (bG w a)) (aI3 p w a (w.obj (bG w a))):=by
 obtain⟨t1,t2,t3⟩:=hF.task ha;have hO:=hF.obj t1 t3;generalize w.obj (bG w a)=o at*;have hk:=hO.ok;rw[dQ,if_pos t2,kG,if_pos n0]at hk;simp only[bU,bPp,bTe,bPv,bA]at hk;obtain⟨⟨⟨⟨k1,k2⟩,k3,k4⟩,k5⟩,k6⟩:=hk;have hfo: ∀f∈o.frames,FOk p S w f:=fun f hf=>hO.frames hf
 have hm:o.frames.getD (o.frames.length-1) fF∈o.frames:=by
  rw[bPu,bQz (by omega)]
  exact bPz _
 have hfm:=hfo _ hm;have hni:=fR hfm;have hok:=hp.nodes _ (iV hni);have hak:=aHt hok;have hfk:=hfm.ok;have hal:=aQy hsp hni;simp only[dI,bA,bPp,bTe]at hfk;unfold aI3
 by_cases hv1:o.vals.length=0
 ·rw[if_pos hv1]
  by_cases hop:((o.frames.getD (o.frames.length-1) fF).vals.length:Int)<(p.node (o.frames.getD (o.frames.length-1) fF).node).asks
  ·rw[if_pos hop];exact bCx h hv1 hf0 (by omega) rfl hni rfl hop (by omega)
  ·rw[if_neg hop];have hl:LOk p S w (o.frames.take (o.frames.length-1)):=⟨by simp only[bQx];omega,fun f hf=>hfo f (bR0 hf),fun f hf=>k6 f (by rw[hv1,bQ9];exact hf)⟩
   exact bE8 h hv1 hf0 (by omega) rfl ⟨hp,hsp,hF,ha,hl,hfm,rfl,by omega⟩
 ·rw[if_neg hv1];exact aWd h (by omega) hf0 (by omega) (by omega)
theorem aEs {L:bH}{ts:List Nat}{l:List aN}{f:Opd}{args:List Opd}{b:aZ}{st:St}{Q:Ex->St->Prop}(h:jE L l st fun st2=>Wp L b st2 fun e st3=>ts.any (fun t=>(st3.fr t).isUndef)=false/\
   ∃st4,(∃n0,∀n,n0<=n->iK L (exec L n) (St.get st2.fr f) (args.map (St.get st2.fr)) e st3=some st4)/\ Q .ret st4):Wp L (.dfr ts l f args b) st Q:=h
theorem aJh (s:Int):PC L 171 [.agg [.i s]] (.agg [.i 0,.i 0,.i s,.i 0,.i 0]):=by
 have hL:=at_ func171
 conv at hL=>rhs;reduce
 refine aI hL rfl rfl ?_
 simp only[go_sem,kK]
noncomputable def bFa :{c//L 170=some c}:=by
 have hL:=at_ func170
 conv at hL=>rhs;reduce
 exact⟨_,hL⟩
theorem aCd (hp:dU p)(hsp:aR p=true)(hF:cM p w0 S w)(ha:inR a 0 ((w.tasks.length:Int)-1)=true)(h:RS kr en cnt p w):
  WIn L (.fn 121 [] []) [.ptr kr 0,.i a] en cnt fun r en' cnt'=>r=tF (aV p w a).what (aV p w a).e/\ RS kr en' cnt' p (aV p w a).w/\ dT kr kr en cnt en' cnt':=by
 have s2:=h.okr.set;have n2:=h.okr.new;have hr:=h.r;have m2:=h.okr.eqF;have o2:=h.okr.eqF';obtain⟨t1,t2,t3⟩:=hF.task ha;have hO:=hF.obj t1 t3;have hio:=fun en=>zZ (w:=w) (k:= .i64) (en:=en) t1
 have hia:=fun en=>sS (en:=en) ha
 have hL120:w.objs.length<=120:=(cR.1 hF.ok).1
 by_cases n0:(w.obj (bG w a)).n=0
 ·have d0:decide ((w.obj (bG w a)).n=0)=true:=D_t n0;have hk:=hO.ok;rw[dQ,if_pos t2,kG,if_pos n0]at hk;simp only[bU,bPp,bTe,bPv,bA]at hk;obtain⟨⟨⟨⟨k1,k2⟩,k3,k4⟩,k5⟩,k6⟩:=hk
  by_cases hf0:(w.obj (bG w a)).frames.length=0
  ·have hv1:(w.obj (bG w a)).vals.length=1:=by omega
   have df:decide (((w.obj (bG w a)).frames.length:Int)=0)=true:=D_t (by omega)
   have e:aV p w a=⟨dW w (bG w a) ⟨6,1,(w.obj (bG w a)).vals,[]⟩,1,⟨a,0,1,rL (aE (w.obj (bG w a)).vals 0)⟩⟩:=by
    unfold aV;simp only;rw[if_neg (fun h=>h n0),if_pos hv1,if_pos hf0]
    generalize (w.obj (bG w a)).vals=l at hv1
    match l,hv1 with
    |[x],_=>rfl
   rw[e];have hL:=at_ func121
   conv at hL=>rhs;reduce
   refine bD hL rfl rfl ?_
   simp only[go_sem,kK,mE (v:= .ptr kr 0) rfl rfl]
   refine aH ?_
   simp only[go_sem,kK,hr,s2,m2,hia,hio,d0,df,bPr,kA,kF]
   refine WIn.mono (aAn (h.to (by simp only[s2]) (by(repeat refine upS ?_ (by omega));exact aO _)) (o:=⟨6,1,(w.obj (bG w a)).vals,[]⟩) (.inl rfl) (.inr rfl) ha t1 (by omega)) ?_
   rintro v e1 c1 ⟨rfl,r1,q1⟩
   obtain⟨p3,_⟩:=q1.loc (d:=3) (g:=cnt 0 3) (by simp[aC]) h.okr.ne.symm h.okr.ne.symm
   obtain⟨p4,_⟩:=q1.loc (d:=4) (g:=cnt 0 4) (by simp[aC]) h.okr.ne.symm h.okr.ne.symm
   obtain⟨p5,_⟩:=q1.loc (d:=5) (g:=cnt 0 5) (by simp[aC]) h.okr.ne.symm h.okr.ne.symm
   simp only[go_sem]at p3 p4 p5
   try simp only[go_sem,kK]
   refine aH ?_
   simp only[go_sem,p3,p4,p5,aS (l:=(w.obj (bG w a)).vals) (by omega),(yZ _).ret,xD,qB,kA,kF]
   have u1: ∀t,cnt 0 t<=aC (aC (aC (aC cnt 0 2 (cnt 0 2+1)) 0 3 (cnt 0 3+1)) 0 4 (cnt 0 4+1)) 0 5 (cnt 0 5+1) 0 t:=(by(repeat refine upS ?_ (by omega));exact aO _)
   refine⟨rfl,⟨r1.okr,by rw[s2];exact r1.r⟩,⟨fun k hk a b=>by rw[hk.set,q1.old k (hk.up u1) a b];simp only[hk.set],fun t=>bP2 (u1 t) (q1.up t)⟩⟩
  ·have df:decide (((w.obj (bG w a)).frames.length:Int)=0)=false:=D_f (by omega)
   have e:=bCy (p:=p) n0 (by omega) (by omega) (fun f hf=>by have:=(hO.frames hf).ok;simp only[dI,bA,bPp,bTe]at this;omega) ha
   have hfin:=kM hp hF ha;have hfs:=kM hp (aOv hF) ha;rw[e]at hfin hfs⊢;have hgo: ∀{ev:Option iD} {w':aA} {left':List aB} {back':List aD} {en1:En} {cnt1:Nat->Nat->Nat} {kt:Key},aI3 p w a (w.obj (bG w a))= .go ev w' left' back'->TB kt kr en1 cnt1 p w a sU (.cl []) (.cl [])->
     WIn L (.fn 172 [] []) [.ptr kt 0,.agg [.i (w.obj (bG w a)).form,.i (w.obj (bG w a)).n,.fz ((w.obj (bG w a)).vals.map aD.enc),.fz ((w.obj (bG w a)).frames.map aB.enc)]] en1 cnt1 fun r en' cnt'=>r=aO0 ev/\ (∃f' n' bv',TS kt kr en' cnt' p w' a left' f' n' back' bv')/\ dT kt kr en1 cnt1 en' cnt':=fun hR hB=>by
    have:=aMn hp hsp hF ha n0 (by omega) hB
    rw[hR]at this;exact this
   have hwait: ∀{en1:En} {cnt1:Nat->Nat->Nat} {kt:Key},aI3 p w a (w.obj (bG w a))= .wait->TB kt kr en1 cnt1 p w a sU (.cl []) (.cl [])->
     WIn L (.fn 172 [] []) [.ptr kt 0,.agg [.i (w.obj (bG w a)).form,.i (w.obj (bG w a)).n,.fz ((w.obj (bG w a)).vals.map aD.enc),.fz ((w.obj (bG w a)).frames.map aB.enc)]] en1 cnt1 fun r en' cnt'=>r=aXc/\ (∃left' f' n' back' bv',TS kt kr en' cnt' p w a left' f' n' back' bv')/\ dT kt kr en1 cnt1 en' cnt':=fun hR hB=>by
    have:=aMn hp hsp hF ha n0 (by omega) hB
    rw[hR]at this;exact this
   have hfail: ∀{s:Int} {en1:En} {cnt1:Nat->Nat->Nat} {kt:Key},aI3 p w a (w.obj (bG w a))= .fail s->TB kt kr en1 cnt1 p w a sU (.cl []) (.cl [])->
     xQ L 172 [.ptr kt 0,.agg [.i (w.obj (bG w a)).form,.i (w.obj (bG w a)).n,.fz ((w.obj (bG w a)).vals.map aD.enc),.fz ((w.obj (bG w a)).frames.map aB.enc)]] en1 cnt1 (pP kt kr en1 cnt1 p s):=fun hR hB=>by
    have:=aMn hp hsp hF ha n0 (by omega) hB
    rw[hR]at this;exact this
   have hL:=at_ func121
   conv at hL=>rhs;reduce
   refine bD hL rfl rfl ?_
   simp only[go_sem,kK,mE (v:= .ptr kr 0) rfl rfl]
   refine aH ?_
   simp only[go_sem,kK,hr,s2,m2,hia,hio,d0,df,bPr,kA,kF]
   refine aEs ?_
   simp only[go_sem,kK,bE9,aZu];generalize hR:aI3 p w a (w.obj (bG w a))=R at hfin hfs⊢;cases R with
   |go ev w' left' back'=>
    refine cA ?_
    simp only[go_sem]
    refine WIn.mono (hgo hR ⟨⟨rfl,by simp[aC]⟩,h.okr.up (by(repeat refine upS ?_ (by omega));exact aO _),h.okr.ne,.inr rfl,.inr rfl,by simp only[cG];rfl,by simp only[s2];exact hr⟩) ?_
    rintro v e1 c1 ⟨rfl,⟨f',n',bv',t1⟩,q1⟩
    obtain⟨p2,_⟩:=q1.loc (d:=2) (g:=cnt 0 2) (by simp[aC]) (by simp) h.okr.ne.symm
    obtain⟨p3,_⟩:=q1.loc (d:=3) (g:=cnt 0 3) (by simp[aC]) (by simp) h.okr.ne.symm
    obtain⟨p4,o4⟩:=q1.loc (d:=4) (g:=cnt 0 4) (by simp[aC]) (by simp) h.okr.ne.symm
    simp only[go_sem]at p2 p3 p4;have u1: ∀t,cnt 0 t<=c1 0 t:=fun t=>bP2 (((by(repeat refine upS ?_ (by omega));exact aO _): ∀t,cnt 0 t<=(aC (aC (aC (aC (aC (aC cnt 0 2 (cnt 0 2+1)) 0 3 (cnt 0 3+1)) 0 4 (cnt 0 4+1)) 0 5 (cnt 0 5+1)) 0 6 (cnt 0 6+1)) 0 55 (cnt 0 55+1)) 0 t) t) (q1.up t)
    have hold: ∀k,Old k cnt->k≠kr->e1 k=en k:=fun k hk hkr=>by
     rw[q1.old k (hk.up (by(repeat refine upS ?_ (by omega));exact aO _)) hk.ne hkr];simp only[hk.set]
    have hfw:cM p w0 S (dW w' (bG w' a) ⟨6,0,back',left'⟩):=by cases ev<;>exact hfin
    have hts:w.tasks.length<=w'.tasks.length:=by
     have:cM p w (fun _=>True) (dW w' (bG w' a) ⟨6,0,back',left'⟩):=by cases ev<;>exact hfs
     exact this.pre.length_le
    have ha':inR a 0 ((w'.tasks.length:Int)-1)=true:=bGc ha hts;have hta:=(hfw.task (a:=a) ha').1;have hta':inR (bG w' a) 0 ((w'.objs.length:Int)-1)=true:=by simpa only[dW,bRp,bG]using hta
    have h120:w'.objs.length<=1000000:=by have:=(cR.1 hfw.ok).1;simp only[dW,bRp]at this;omega
    have ht1:=t1.t;have hr1:=t1.r;have x24: ∀(en:En) (e:Option Ent),En.set en ⟨0,4,cnt 0 4⟩ e ⟨0,55,cnt 0 55⟩=en ⟨0,55,cnt 0 55⟩:=fun _ _=>aK (by simp)
    cases ev with
    |none=>
     simp only[go_sem,kK,p2,p3,p4,aO0,aQo,aLx.ret,xD,qB,ht1,x24,t1.ob.one,t1.ob.cells]
     refine WIn.mono (aAn (t1.rs.to (by simp only[s2]) (fun _=>bPq _)) (o:=⟨6,0,back',left'⟩) t1.ob (.inl rfl) ha' hta' h120) ?_
     rintro v e2 c2 ⟨rfl,r2,q2⟩
     obtain⟨r4,_⟩:=q2.loc (d:=4) (g:=cnt 0 4) o4.2 h.okr.ne.symm h.okr.ne.symm;rw[cG]at r4;simp only[go_sem,r4,xD,qB]
     refine⟨rfl,tX bFa.2 rfl rfl rfl rfl ?_⟩
     simp only[go_sem,kK,bQt,bQr,aWf];exact⟨rfl,⟨r2.okr,by rw[s2];exact r2.r⟩,⟨fun k hk a b=>by rw[hk.set,q2.old k (hk.up u1) a b,hk.set];exact hold k hk a,fun t=>bP2 (u1 t) (q2.up t)⟩⟩
    |some ev=>
     simp only[go_sem,kK,p2,p3,p4,aO0,aIz,(aOq _).ret,xD,qB,ht1,x24,t1.ob.one,t1.ob.cells]
     refine WIn.mono (aAn (t1.rs.to (by simp only[s2]) (fun _=>bPq _)) (o:=⟨6,0,back',left'⟩) t1.ob (.inl rfl) ha' hta' h120) ?_
     rintro v e2 c2 ⟨rfl,r2,q2⟩
     obtain⟨r4,_⟩:=q2.loc (d:=4) (g:=cnt 0 4) o4.2 h.okr.ne.symm h.okr.ne.symm;rw[cG]at r4;simp only[go_sem,r4,xD,qB]
     refine⟨rfl,tX bFa.2 rfl rfl rfl rfl ?_⟩
     simp only[go_sem,kK,bQt,bQr,aWf];exact⟨rfl,⟨r2.okr,by rw[s2];exact r2.r⟩,⟨fun k hk a b=>by rw[hk.set,q2.old k (hk.up u1) a b,hk.set];exact hold k hk a,fun t=>bP2 (u1 t) (q2.up t)⟩⟩
   |wait=>
    refine cA ?_
    simp only[go_sem]
    refine WIn.mono (hwait hR ⟨⟨rfl,by simp[aC]⟩,h.okr.up (by(repeat refine upS ?_ (by omega));exact aO _),h.okr.ne,.inr rfl,.inr rfl,by simp only[cG];rfl,by simp only[s2];exact hr⟩) ?_
    rintro v e1 c1 ⟨rfl,⟨left',f',n',back',bv',t1⟩,q1⟩
    obtain⟨p4,o4⟩:=q1.loc (d:=4) (g:=cnt 0 4) (by simp[aC]) (by simp) h.okr.ne.symm
    simp only[go_sem]at p4;have u1: ∀t,cnt 0 t<=c1 0 t:=fun t=>bP2 (((by(repeat refine upS ?_ (by omega));exact aO _): ∀t,cnt 0 t<=(aC (aC (aC (aC (aC (aC cnt 0 2 (cnt 0 2+1)) 0 3 (cnt 0 3+1)) 0 4 (cnt 0 4+1)) 0 5 (cnt 0 5+1)) 0 6 (cnt 0 6+1)) 0 55 (cnt 0 55+1)) 0 t) t) (q1.up t)
    have hold: ∀k,Old k cnt->k≠kr->e1 k=en k:=fun k hk hkr=>by
     rw[q1.old k (hk.up (by(repeat refine upS ?_ (by omega));exact aO _)) hk.ne hkr];simp only[hk.set]
    simp only[go_sem,kK,p4,aXc,aOp.ret,xD,qB]
    refine⟨rfl,tX bFa.2 rfl rfl rfl rfl ?_⟩
    simp only[go_sem,kK,bQt,bQr,aWf];exact⟨rfl,⟨t1.okr,by simp only[s2];exact t1.r⟩,⟨fun k hk a b=>by simp only[hk.set];exact hold k hk a,u1⟩⟩
   |fail s=>
    refine dK 2 rfl ?_
    simp only[go_sem,bP0,bPw]
    refine xQ.mono (hfail hR ⟨⟨rfl,by simp[aC]⟩,h.okr.up (by(repeat refine upS ?_ (by omega));exact aO _),h.okr.ne,.inr rfl,.inr rfl,by simp only[cG];rfl,by simp only[s2];exact hr⟩) ?_
    rintro v e1 c1 ⟨rfl,q1,O,T,U,I,u,rb⟩
    obtain⟨p2,_⟩:=q1.loc (d:=2) (g:=cnt 0 2) (by simp[aC]) (by simp) h.okr.ne.symm
    obtain⟨p3,_⟩:=q1.loc (d:=3) (g:=cnt 0 3) (by simp[aC]) (by simp) h.okr.ne.symm
    obtain⟨p4,o4⟩:=q1.loc (d:=4) (g:=cnt 0 4) (by simp[aC]) (by simp) h.okr.ne.symm
    obtain⟨p6,_⟩:=q1.loc (d:=6) (g:=cnt 0 6) (by simp[aC]) (by simp) h.okr.ne.symm
    simp only[go_sem]at p2 p3 p4 p6;have u1: ∀t,cnt 0 t<=c1 0 t:=fun t=>bP2 (((by(repeat refine upS ?_ (by omega));exact aO _): ∀t,cnt 0 t<=(aC (aC (aC (aC (aC (aC cnt 0 2 (cnt 0 2+1)) 0 3 (cnt 0 3+1)) 0 4 (cnt 0 4+1)) 0 5 (cnt 0 5+1)) 0 6 (cnt 0 6+1)) 0 55 (cnt 0 55+1)) 0 t) t) (q1.up t)
    have hold: ∀k,Old k cnt->k≠kr->e1 k=en k:=fun k hk hkr=>by
     rw[q1.old k (hk.up (by(repeat refine upS ?_ (by omega));exact aO _)) hk.ne hkr];simp only[hk.set]
    have o2':Old ⟨0,2,cnt 0 2⟩ c1:=⟨rfl,bQf (by simp[aC]) (q1.up 2)⟩
    have o3':Old ⟨0,3,cnt 0 3⟩ c1:=⟨rfl,bQf (by simp[aC]) (q1.up 3)⟩
    have okr1:=h.okr.up u1;have s2b:=okr1.set;have n2b:=okr1.new
    refine⟨rfl,tX bFa.2 rfl rfl rfl rfl ?_⟩
    simp only[go_sem,kK,aF7,bQt,bQr,bIa,p2,p3,p6,rb,s2b,n2b,n2]
    refine WIn.mono (aAn ⟨okr1.up (fun t=>(upS (aO c1) (a:=5) (x:=c1 0 5+1) (by omega)) t),cG⟩ (o:=⟨6,s,[],[]⟩) (.inr rfl) (.inr rfl) ha t1 (by omega)) ?_
    rintro v e2 c2 ⟨rfl,r2,q2⟩
    have u2: ∀t,c1 0 t<=c2 0 t:=fun t=>bP2 ((upS (aO c1) (a:=5) (x:=c1 0 5+1) (by omega)) t) (q2.up t)
    obtain⟨r2',_⟩:=q2.loc (d:=2) (g:=cnt 0 2) (by simp only[aC];exact o2'.2) h.okr.ne.symm h.okr.ne.symm
    obtain⟨r4',_⟩:=q2.loc (d:=4) (g:=cnt 0 4) (by simp only[aC];exact o4.2) h.okr.ne.symm h.okr.ne.symm
    obtain⟨r5',_⟩:=q2.loc (d:=5) (g:=c1 0 5) (by simp[aC]) okr1.ne.symm okr1.ne.symm
    obtain⟨r3',_⟩:=q2.loc (d:=3) (g:=cnt 0 3) (by simp only[aC];exact o3'.2) h.okr.ne.symm h.okr.ne.symm
    simp only[go_sem,n2,n2b,p2,p3,p4]at r2' r3' r4' r5';have s2c:=r2.okr.set;have u3: ∀t,cnt 0 t<=c2 0 t:=fun t=>bP2 (u1 t) (u2 t)
    simp only[go_sem,r3',r4',r5',(aJh _).ret,xD,qB]
    refine⟨rfl,⟨r2.okr.up (upS (aO c2) (by omega)),by simp only[s2,s2c];exact r2.r⟩,⟨fun k hk a b=>?_,fun t=>upS (cnt:=cnt) u3 (u3 7|>fun h=>by omega) t⟩⟩
    rw[hk.set];simp only[(hk.up u3).set];rw[q2.old k (hk.up (fun t=>bP2 (u1 t) (upS (aO c1) (by omega) t))) a b,aK a]
    simp only[(hk.up u1).set];exact hold k hk a
 ·have d0:decide ((w.obj (bG w a)).n=0)=false:=D_f n0;have e:aV p w a=mL w:=by unfold aV;simp only;rw[if_pos n0]
  rw[e];have hL:=at_ func121
  conv at hL=>rhs;reduce
  refine bD hL rfl rfl ?_
  simp only[go_sem,kK,mE (v:= .ptr kr 0) rfl rfl]
  refine aH ?_
  simp only[go_sem,kK,hr,s2,m2,hia,hio,d0,xD,qB,kA,kF];exact⟨rfl,⟨h.okr.up (by(repeat refine upS ?_ (by omega));exact aO _),by simp only[s2];exact hr⟩,⟨fun k hk _ _=>by simp only[hk.set],(by(repeat refine upS ?_ (by omega));exact aO _)⟩⟩
theorem aQ5 (i:Int):PC L 174 [.i i] (.i i):=by
 have hL:=at_ func174
 conv at hL=>rhs;reduce
 refine aI hL rfl rfl ?_
 simp only[go_sem,kK]
theorem aUc {α:Type}{f:α->Val}{l:List α}(h:k<l.length):(l.map f).set k (f l[k])=l.map f:=by
 apply List.ext_getElem
 ·simp
 ·intro i h1 h2;rw[List.getElem_set];split
  ·rename_i e;subst e;simp
  ·rfl
theorem tR (l:List aD)(hl:l.length<=16777216):PC L 225 [.fz (l.map aD.enc),.fp [.fn 174 [] []] 0] (.fz (l.map aD.enc)):=by
 have hf:Few l.length:=by unfold Few;omega
 have hc:=qX (l.map aD.enc) (wX l) (by simpa using hl)
 have hL:=at_ func225
 conv at hL=>rhs;reduce
 refine aI hL rfl rfl ?_
 by_cases h0:l=[]
 ·subst h0;have hc0:=qX [] rfl (by simp)
  simp only[go_sem,kK,bP1,hc0.ret,show tD 2 []= .cl []from rfl]
  refine bQ (0) (fun k st=> ∃fr en cnt,st=⟨fr,en,cnt⟩/\ (fr 0= .cl [])/\ (fr 8= .cl [])/\ (fr 9= .i 0)/\ (fr 10= .i k)) 0 (bPx _) ⟨_,_,_,rfl,(by first|(simp only[go_sem];(try rfl);done)|rfl|(simp;done)),(by first|(simp only[go_sem];(try rfl);done)|rfl|(simp;done)),(by first|(simp only[go_sem];(try rfl);done)|rfl|(simp;done)),(by first|(simp only[go_sem];(try rfl);done)|rfl|(simp;done))⟩ ?_
  rintro k st hk ⟨fr,en,cnt,rfl,h0,h8,h9,h10⟩
  simp only[go_sem,kK,h9,h10];have:k=0:=by omega
  subst this;simp only[go_sem,h0]
 ·have h0':l.map aD.enc≠[]:=by simpa using h0
  rw[pY h0']at hc;simp only[go_sem,kK,hc.ret]
  refine bQ (l.length) (fun k st=> ∃fr en cnt,st=⟨fr,en,cnt⟩/\ (fr 0= .bl ⟨0,7,0⟩ 0 l.length)/\ (en ⟨0,7,0⟩=some (.blk 2 (l.map aD.enc) false))/\ (fr 1= .fp [.fn 174 [] []] 0)/\ (fr 8= .bl ⟨0,7,0⟩ 0 l.length)/\ (fr 9= .i l.length)/\ (fr 10= .i k)) 0 (bPx _) ⟨_,_,_,rfl,(by first|(simp only[go_sem,qW,h0,h8,h9,h10];(try rfl);done)|rfl|(simp;done)),(by first|(simp only[go_sem,qW,h0,h8,h9,h10];(try rfl);done)|rfl|(simp;done)),(by first|(simp only[go_sem,qW,h0,h8,h9,h10];(try rfl);done)|rfl|(simp;done)),(by first|(simp only[go_sem,qW,h0,h8,h9,h10];(try rfl);done)|rfl|(simp;done)),(by first|(simp only[go_sem,qW,h0,h8,h9,h10];(try rfl);done)|rfl|(simp;done)),(by first|(simp only[go_sem,qW,h0,h8,h9,h10];(try rfl);done)|rfl|(simp;done))⟩ ?_
  rintro k st hk ⟨fr,en,cnt,rfl,h0,e7,h1,h8,h9,h10⟩
  simp only[go_sem,kK,h9,h10]
  refine aG (fun hq=>?_) (fun hq=>?_)
  ·have h':k<l.length:=D_o hq;have hx:(l.map aD.enc)[k]?=some (aD.enc l[k]):=by simp[h']
   have hc1:(0:Int)<=(k:Int):=by omega
   have hc2:(k:Int)<(l.length:Int):=by omega
   have hss:=aUc (f:=aD.enc) h';simp only[go_sem,kK,e7,h8,h10,h',hx,hc1,hc2,true_and,and_true,eq_self,if_true,bQh,bQo]
   refine aG (fun hg=>?_) (fun hg=>?_)
   ·simp only[go_sem,h0,e7,h1,h10,hx,hc1,hc2,and_true,eq_self,if_true,bQh,bQo,(aQ5 _).ret,fD];simp only[aD.enc]at hss
    try simp only[go_sem,hss]
    refine⟨_,_,_,rfl,?_⟩
    simp only[go_sem,h0,h1,h8,h9,aT h' hf]
   ·simp only[go_sem,h10]
    refine⟨_,_,_,rfl,?_⟩
    simp only[go_sem,h0,e7,h1,h8,h9,aT h' hf]
  ·simp only[go_sem,h0,e7,bPq,if_true];rw[bQa (by simp)]
theorem aZv (o:aQ)(hs:iJ o=true):PC L 173 [.agg [.i o.form,.i o.n,.fz (o.vals.map aD.enc),.fz (o.frames.map aB.enc)],.fn 174 [] []] (.agg [.i o.form,.i o.n,.fz (o.vals.map aD.enc),.fz (o.frames.map aB.enc)]):=by
 obtain⟨b1,b2,b3⟩:=aOj hs;have hf:Few o.frames.length:=by unfold Few;omega
 have hc:=wB (o.frames.map aB.enc) (jM _) (by rw[bPr];omega)
 have hL:=at_ func173
 conv at hL=>rhs;reduce
 refine aI hL rfl rfl ?_
 simp only[go_sem,kK,mE (v:= .fn 174 [] []) rfl rfl]
 refine aH ?_
 by_cases h0:o.frames=[]
 ·have hc0:=wB [] rfl (by simp)
  simp only[go_sem,h0,bP1,(tR o.vals (by omega)).ret,hc0.ret,show tD 3 []= .cl []from rfl,qO,lR,kA,kF]
  refine bQ (0) (fun k st=> ∃fr en cnt,st=⟨fr,en,cnt⟩/\ (fr 2= .ptr ⟨0,2,0⟩ 0)/\ (en ⟨0,2,0⟩=some (.box [.i o.form,.i o.n,.fz (o.vals.map aD.enc),.cl []] false))/\ (fr 4= .ptr ⟨0,4,0⟩ 0)/\ (en ⟨0,4,0⟩=some (.box [.i 0,.i 0,.cl [],.cl []] false))/\ (fr 20= .i 0)/\ (fr 21= .i k)) 0 (bPx _) ⟨_,_,_,rfl,(by first|(simp only[go_sem];(try rfl);done)|rfl|(simp;done)),(by first|(simp only[go_sem];(try rfl);done)|rfl|(simp;done)),(by first|(simp only[go_sem];(try rfl);done)|rfl|(simp;done)),(by first|(simp only[go_sem];(try rfl);done)|rfl|(simp;done)),(by first|(simp only[go_sem];(try rfl);done)|rfl|(simp;done)),(by first|(simp only[go_sem];(try rfl);done)|rfl|(simp;done))⟩ ?_
  rintro k st hk ⟨fr,en,cnt,rfl,h2,e2,h4,e4,h20,h21⟩
  simp only[go_sem,kK,h20,h21];have:k=0:=by omega
  subst this;simp only[go_sem,h2,e2,h4,e4]
 ·have h0':o.frames.map aB.enc≠[]:=by simpa using h0
  rw[pY h0']at hc;simp only[go_sem,(tR o.vals (by omega)).ret,hc.ret,rT,lS,bPr,kA,kF]
  refine bQ (o.frames.length) (fun k st=> ∃fr en cnt,st=⟨fr,en,cnt⟩/\ (fr 2= .ptr ⟨0,2,0⟩ 0)/\ (en ⟨0,2,0⟩=some (.box [.i o.form,.i o.n,.fz (o.vals.map aD.enc),.bl ⟨0,15,0⟩ 0 o.frames.length] false))/\ (fr 4= .ptr ⟨0,4,0⟩ 0)/\ (en ⟨0,4,0⟩=some (.box [.i 0,.i 0,.cl [],.cl []] false))/\ (en ⟨0,15,0⟩=some (.blk 3 (o.frames.map aB.enc) false))/\ (en ⟨0,3,0⟩=some (.box [.fn 174 [] []] true))/\ (fr 5= .fn 225 [] [.ptr ⟨0,3,0⟩ 0])/\ (fr 19= .bl ⟨0,15,0⟩ 0 o.frames.length)/\ (fr 20= .i o.frames.length)/\ (fr 21= .i k)) 0 (bPx _) ⟨_,_,_,rfl,(by first|(simp only[go_sem,qW,h2,e2,h4,e4,h20,h21];(try rfl);done)|rfl|(simp;done)),(by first|(simp only[go_sem,qW,h2,e2,h4,e4,h20,h21];(try rfl);done)|rfl|(simp;done)),(by first|(simp only[go_sem,qW,h2,e2,h4,e4,h20,h21];(try rfl);done)|rfl|(simp;done)),(by first|(simp only[go_sem,qW,h2,e2,h4,e4,h20,h21];(try rfl);done)|rfl|(simp;done)),(by first|(simp only[go_sem,qW,h2,e2,h4,e4,h20,h21];(try rfl);done)|rfl|(simp;done)),(by first|(simp only[go_sem,qW,h2,e2,h4,e4,h20,h21];(try rfl);done)|rfl|(simp;done)),(by first|(simp only[go_sem,qW,h2,e2,h4,e4,h20,h21];(try rfl);done)|rfl|(simp;done)),(by first|(simp only[go_sem,qW,h2,e2,h4,e4,h20,h21];(try rfl);done)|rfl|(simp;done)),(by first|(simp only[go_sem,qW,h2,e2,h4,e4,h20,h21];(try rfl);done)|rfl|(simp;done)),(by first|(simp only[go_sem,qW,h2,e2,h4,e4,h20,h21];(try rfl);done)|rfl|(simp;done))⟩ ?_
  rintro k st hk ⟨fr,en,cnt,rfl,h2,e2,h4,e4,e15,e3,h5,h19,h20,h21⟩
  simp only[go_sem,kK,h20,h21]
  refine aG (fun hq=>?_) (fun hq=>?_)
  ·have h':k<o.frames.length:=D_o hq;have hb:=b3 _ (bPz h');have hx:(o.frames.map aB.enc)[k]?=some (aB.enc o.frames[k]):=by simp[h']
   have hc1:(0:Int)<=(k:Int):=by omega
   have hc2:(k:Int)<(o.frames.length:Int):=by omega
   have hss:=aUc (f:=aB.enc) h';simp only[aB.enc]at hss;simp only[go_sem,e15,h19,h21,h',hx,hc1,hc2,true_and,and_true,eq_self,if_true,bQh,bQo]
   refine aH ?_
   simp only[go_sem,h2,e2,e15,e3,h5,h21,hx,hc1,hc2,true_and,and_true,eq_self,if_true,bQh,bQo,(tR _ (show o.frames[k].env.length<=16777216 by omega)).ret,(tR _ (show o.frames[k].vals.length<=16777216 by omega)).ret,fD,hss,kA,kF]
   refine⟨_,_,_,rfl,?_⟩
   simp only[go_sem,h2,e2,h4,e4,h5,h19,h20,aT h' hf]
  ·simp only[go_sem,h2,e2,h4,e4,e15,bPq,if_true];rw[bQa (by simp)]
def zD (what:Int):Int:=if what=2 then 2 else if what=0 then 0 else 1
theorem aGo (what:Int)(e:iD):PC L 122 [tF what e] (.i (zD what)):=by
 unfold tF zD
 by_cases h2:what=2
 ·rw[if_pos h2,if_pos h2];exact aOp
 ·rw[if_neg h2,if_neg h2]
  by_cases h0:what=0
  ·rw[if_pos h0,if_pos h0];exact aLx
  ·rw[if_neg h0,if_neg h0];exact aOq _
theorem xY (what:Int):decide (zD what=2)=decide (what=2):=by
 unfold zD;split
 ·rename_i h;simp[h]
 ·rename_i h;split<;>simp[h]
theorem aCe (what:Int):decide (zD what=0)=decide (what=0):=by
 unfold zD;split
 ·rename_i h;simp[h]
 ·rename_i h;split<;>rename_i h'<;>simp[h']
theorem zE (what:Int)(e:iD)(en:En)(n:Nat):snapD (n+4) en (tF what e)=some (tF what e,[]):=by
 unfold tF;split
 ·rfl
 ·split<;>rfl
theorem aDg (what:Int)(e:iD):(tF what e).wk1=tF what e:=by
 unfold tF;split
 ·rfl
 ·split<;>rfl
theorem bFb (hp:dU p)(hsp:aR p=true)(hF:cM p w0 S w)(ha:inR a 0 ((w.tasks.length:Int)-1)=true):PC L 290 [.fp [.fz (p.nodes.map aM.enc),.fz (p.funs.map (.int .i64)),.i p.main,.fz (p.cons.map cS.enc),.fz (w.objs.map aQ.enc),.fz (w.tasks.map (.int .i64)),.fz (w.outs.map bJ.enc),.fz (w.ins.map (.int .i64)),.i w.used] 0,.i a] (.i (zD (aV p w a).what)):=by
 have hL:=at_ func290
 conv at hL=>rhs;reduce
 refine aI hL rfl rfl ?_
 simp only[go_sem,kK]
 refine WIn.mono (aCd hp hsp hF ha ⟨⟨rfl,by simp[aC]⟩,by simp only[cG]⟩) ?_
 rintro v e1 c1 ⟨rfl,_,_⟩
 try simp only[go_sem,zE,aDg,(aGo _ _).ret]
theorem bCz (hp:dU p)(hsp:aR p=true)(hF:cM p w0 S w):PC L 230 [.fp [.fz (p.nodes.map aM.enc),.fz (p.funs.map (.int .i64)),.i p.main,.fz (p.cons.map cS.enc),.fz (w.objs.map aQ.enc),.fz (w.tasks.map (.int .i64)),.fz (w.outs.map bJ.enc),.fz (w.ins.map (.int .i64)),.i w.used] 0] (tD 1 ((cH p w).map (.int .i64))):=by
 have h120:=uE hF;have hw:Few w.tasks.length:=by unfold Few;omega
 have hL:=at_ func230
 conv at hL=>rhs;reduce
 refine aI hL rfl rfl ?_
 simp only[go_sem,kK]
 refine bQ w.tasks.length (fun k st=> ∃fr en cnt v,st=⟨fr,en,cnt⟩/\ fr 0= .fp [.fz (p.nodes.map aM.enc),.fz (p.funs.map (.int .i64)),.i p.main,.fz (p.cons.map cS.enc),.fz (w.objs.map aQ.enc),.fz (w.tasks.map (.int .i64)),.fz (w.outs.map bJ.enc),.fz (w.ins.map (.int .i64)),.i w.used] 0/\ fr 3=v/\ fr 10= .i w.tasks.length/\ fr 11= .i k/\ aIv en v 1 ((fY p w k).map (.int .i64)) 21/\ (fY p w k=[]->v= .cl [])) 0 (bPx _) ⟨_,_,_,.cl [],rfl,by simp only[go_sem],by simp only[go_sem],by simp only[go_sem],by simp only[go_sem],.inl ⟨rfl,rfl⟩,fun _=>rfl⟩ ?_
 rintro k st hk ⟨fr,en,cnt,v,rfl,k0,k3,k10,k11,hv,hv0⟩
 simp only[go_sem,kK,k10,k11]
 refine aG (fun hq=>?_) (fun hq=>?_)
 ·have h':k<w.tasks.length:=D_o hq;have ha:inR (k:Int) 0 ((w.tasks.length:Int)-1)=true:=by simp only[inR,bTe];omega
  have hN:=bFb hp hsp hF ha;have hln:(fY p w k).length<=k:=by
   simp only[fY,bPr];exact bP2 (bS7 _ _) (by simp)
  have hst:fY p w (k+1)=if(aV p w k).what=2 then fY p w k else fY p w k++[(k:Int)]:=by
   simp only[fY,List.range_succ,List.filter_append,bQs,List.filter_cons,List.filter_nil]
   by_cases hq:(aV p w (k:Int)).what=2<;>simp[hq]
  by_cases h2:(aV p w k).what=2
  ·have d2:decide (zD (aV p w k).what=2)=true:=by rw[xY];exact D_t h2
   rw[if_pos h2]at hst;simp only[go_sem,kK,h',k0,k11,hN.ret,d2]
   refine⟨_,_,_,v,rfl,?_⟩
   simp only[go_sem,k0,k3,k10,aT h' hw,hst];exact⟨hv,hv0⟩
  ·have d2:decide (zD (aV p w k).what=2)=false:=by rw[xY];exact D_f h2
   rw[if_neg h2]at hst;have hl1:(fY p w k).length+1<=16777216:=by omega
   rcases hv with⟨rfl,he⟩|⟨g,rfl,he⟩
   ·have he':fY p w k=[]:=by simpa using he
    rw[he']at hst;simp only[go_sem,kK,h',k0,k3,k11,hN.ret,d2,bM,dY,gX,List.isEmpty_cons,bCe]
    refine⟨_,_,_,.bl ⟨0,21,cnt 0 21⟩ 0 1,rfl,?_⟩
    simp only[go_sem,k0,k10,aT h' hw,hst];exact⟨.inr ⟨_,rfl,cG⟩,fun h=>by simp at h⟩
   ·simp only[go_sem,kK,h',k0,k3,k11,hN.ret,d2,bM,dY,tE,bCe,he,kL,hl1,bPr,bPy,bP7]
    refine⟨_,_,_,.bl ⟨0,21,cnt 0 21⟩ 0 ((fY p w k).length+1),rfl,?_⟩
    simp only[go_sem,k0,k10,aT h' hw,hst,bQs];exact⟨.inr ⟨_,by simp,cG⟩,fun h=>by simp at h⟩
 ·have:k=w.tasks.length:=by simp at hq;omega
  subst this;rcases hv with⟨rfl,he⟩|⟨g,rfl,he⟩
  ·have he':cH p w=[]:=by simpa[cH]using he
   simp only[go_sem,k3,he'];rfl
  ·have hne:(cH p w).map (Val.int .i64)≠[]:=fun h0=>by
    have:=hv0 (by simpa[cH]using h0)
    cases this
   rw[pY hne];simp only[go_sem,k3,he];rfl
end
end Go.Proofs.YtmnchlhngpdffaaGreat
namespace Go.Abs
def Calm (w:aA)(a:Int):OpR->Prop
 | .go none w' _ _=>w'.tasks=w.tasks/\ w.objs<+:w'.objs/\ w'.outs=w.outs/\ w'.ins=w.ins/\ w'.used=w.used
 | .go (some e) _ _ _=>e.task=a/\ ¬e.act=0
 | .wait=>True
 | .fail s=> ¬s=0
variable {v:aD}{env:List aD}{node n a:Int}{w' w:aA}{p:aF}
section
variable {left:List aB}
theorem aWg :Calm w a (jB w left v):=⟨rfl,bSo _,rfl,rfl,rfl⟩
theorem aZw {l:List aB}:Calm w a (rO w left l):=by
 unfold rO;split
 ·show¬(4:Int)=0;decide
 ·exact⟨rfl,bSo _,rfl,rfl,rfl⟩
theorem aDh :Calm w a (kC w left node env):=by
 unfold kC;split
 ·show¬(4:Int)=0;decide
 ·exact aZw
theorem aO3 {op:Int}{e:aD}(h: ¬op=0):Calm w a (kS w' a left op n v e):=⟨rfl,h⟩
theorem aZx {o:aQ}:Calm w a (jB (eC w o) left v):=⟨rfl,List.prefix_append _ _,rfl,rfl,rfl⟩
theorem aWh {o:aQ}:Calm w a (kC (eC w o) left node env):=by
 unfold kC rO;split
 ·show¬(4:Int)=0;decide
 ·split
  ·show¬(4:Int)=0;decide
  ·exact⟨rfl,List.prefix_append _ _,rfl,rfl,rfl⟩
theorem aEt {o:aQ}{k:aA->aD->OpR}(h:Calm w a (k (eC w o) (dN w.objs.length))):Calm w a (iU w o k):=by
 unfold iU;split
 ·show¬(4:Int)=0;decide
 ·exact h
theorem aO4 {s:Int}(h: ¬s=0):Calm w a (.fail s):=h
theorem aGp {kids:List Int}{env:List aD}{u:aD}: ∀(l:List Pat) (i:Nat),Calm w a (eL w left kids env u i l)
 |[],i=>by show¬(3:Int)=0;decide
 |q::qs,i=>by
  simp only[eL];split
  ·exact aDh
  ·exact aGp qs (i+1)
theorem aUd {c:Prop}[Decidable c]{x y:OpR}(hx:c->Calm w a x)(hy: ¬c->Calm w a y):Calm w a (if c then x else y):=by
 by_cases h:c
 ·rw[if_pos h];exact hx h
 ·rw[if_neg h];exact hy h
theorem aUe {f:aB}{n:aM}:Calm w a (opR p w a left f n):=by
 unfold opR
 repeat' (with_reducible refine aUd (fun _=>?_) (fun _=>?_))
 all_goals try(split<;>(repeat' (with_reducible refine aUd (fun _=>?_) (fun _=>?_))))
 all_goals first
  |exact aWg
  |exact aDh
  |exact aO3 (by decide)
  |exact aO4 (by decide)
  |exact aGp _ _
  |exact aEt aZx
  |exact aEt aWh
  |exact aEt (aO3 (by decide))
  |exact⟨rfl,bSo _,rfl,rfl,rfl⟩
  |exact aO4 (by assumption)
  |trivial
end
def bGf (w:aA)(a:Int)(d:Did):Prop:=
 (d.what=0->d.e=eB/\ d.w.tasks=w.tasks/\ w.objs.length<=d.w.objs.length/\ (∀i:Nat,i<w.objs.length-> ¬(i:Int)=bG w a->d.w.obj i=w.obj i)/\ d.w.outs=w.outs/\ d.w.ins=w.ins/\ d.w.used=w.used)/\
 (d.what=1->d.e.task=a/\ (¬d.e.act=0 \/ ¬d.e.n=0))/\ (d.what=0 \/d.what=1 \/d.what=2)/\ (d.what=2->d.w=w/\ d.e=eB)
variable {i:Nat}
theorem aXp {o:aQ}(h: ¬i=n.toNat):(dW w n o).obj i=w.obj i:=by
 simp only[aA.obj,dW,bQo,bPu];rw[List.getElem?_set_ne (by omega)]
theorem aMo (h:w.objs<+:w'.objs)(hi:i<w.objs.length):w'.obj i=w.obj i:=by
 obtain⟨t,ht⟩:=h;simp only[aA.obj,bQo,bPu,<-ht,bSx hi]
theorem aMp (h:w'.tasks=w.tasks):bG w' a=bG w a:=by unfold bG;rw[h]
theorem aGq (h0:0<=bG w a){R:OpR}(h:Calm w a R):bGf w a (R.did w a):=by
 cases R with
 |go ev w' l b=>
  cases ev with
  |none=>
   obtain⟨h1,h2,h3,h4,h5⟩:=h;have ht:=aMp (a:=a) h1
   refine⟨fun _=>⟨rfl,h1,?_,fun i hi hne=>?_,h3,h4,h5⟩,fun h=>by simp[OpR.did]at h,.inl rfl,fun h=>by simp[OpR.did]at h⟩
   ·simp only[OpR.did,dW,bRp];exact h2.length_le
   ·simp only[OpR.did];rw[ht,aXp (by omega)]
    exact aMo h2 hi
  |some e=>
   obtain⟨h1,h2⟩:=h;exact⟨fun h=>by simp[OpR.did]at h,fun _=>⟨h1,.inl h2⟩,.inr (.inl rfl),fun h=>by simp[OpR.did]at h⟩
 |wait=>exact⟨fun h=>by simp[OpR.did,mL]at h,fun h=>by simp[OpR.did,mL]at h,.inr (.inr rfl),fun _=>⟨rfl,rfl⟩⟩
 |fail s=>exact⟨fun h=>by simp[OpR.did,bE]at h,fun _=>⟨rfl,.inr h⟩,.inr (.inl rfl),fun h=>by simp[OpR.did,bE]at h⟩
theorem zF (h0:0<=bG w a)(ha:inR a 0 ((w.tasks.length:Int)-1)=true):bGf w a (aV p w a):=by
 unfold aV
 simp only
 split
 ·exact aGq h0 (R:= .wait) trivial
 split
 ·split
  ·exact⟨fun h=>by simp at h,fun _=>⟨rfl,.inr (by simp)⟩,.inr (.inl rfl),fun h=>by simp at h⟩
  ·exact aGq h0 (R:= .go none w (aDx (w.obj (bG w a)).frames (aE (w.obj (bG w a)).vals 0)) []) ⟨rfl,bSo _,rfl,rfl,rfl⟩
 split
 ·rw[sA];exact aGq h0 aDh
 ·unfold rN;rw[aB5 ha];exact aGq h0 aUe
end Go.Abs
namespace Go.Proofs.YtmnchlhngpdffaaGreat
open Go.Abs Go.Proofs Tryz
set_option maxRecDepth 100000
set_option maxHeartbeats 4000000
variable {xs:List Val}{p:aF}{w w0:aA}{en:En}{kt kr:Key}{cnt:Nat->Nat->Nat}{S:Nat->Prop}{a:Int}{left:List aB}{f:aB}{back:List aD}{bv:Val}
section
variable {n:aM}
def kV (r:aA×Nat×Bool):Val:= .tup [.i (if r.2.2=true then((r.2.1:Nat):Int)else 0),.bool r.2.2]
theorem aAo (hp:dU p)(hsp:aR p=true)(hF:cM p w0 S w)(h:RS kr en cnt p w)(s:Nat)(hs:s<=5001):
  WIn L (.fn 134 [] []) [.ptr kr 0,.i (s:Int)] en cnt fun r en' cnt'=>r=kV (bI p w s)/\ RS kr en' cnt' p (bI p w s).1/\ dT kr kr en cnt en' cnt':=by
 have hr:=h.r;have h120:=uE hF;have hfw:Few w.tasks.length:=by unfold Few;omega
 have hL:=at_ func134
 conv at hL=>rhs;reduce
 refine bD hL rfl rfl ?_
 simp only[go_sem,kK,hr,bPr]
 refine bQ w.tasks.length (fun k st=> ∃fr en' cnt' x t,st=⟨fr,en',cnt'⟩/\ fr 0= .ptr kr 0/\ fr 1= .i ((t:Nat):Int)/\ fr 13= .i w.tasks.length/\ fr 14= .i k/\ RS kr en' cnt' p x/\ dT kr kr en cnt en' cnt'/\
  cM p w0 S x/\ x.tasks.length=w.tasks.length/\ t<=5001/\ eW p (121-k) k x t=bI p w s) 0 (bPx _) ⟨_,_,_,w,s,rfl,by simp only[go_sem],by simp only[go_sem],by simp only[go_sem],by simp only[go_sem],h,dT.refl _ _ _ _,hF,rfl,hs,rfl⟩ ?_
 rintro k st hk ⟨fr,en1,cnt1,x,t,rfl,k0,k1,k13,k14,hx,hkp,hFx,hxt,ht,hD⟩
 simp only[go_sem,kK,k13,k14]
 refine aG (fun hq=>?_) (fun hq=>?_)
 ·have h':k<w.tasks.length:=D_o hq;have ha:inR (k:Int) 0 ((x.tasks.length:Int)-1)=true:=by simp only[inR,bTe];omega
  rw[show 121-k=(120-k)+1 by omega,eW,if_pos (by omega)]at hD
  simp only[go_sem,h',k14]
  refine Go.Abs.wp_loop (fun(j:Nat) st=> ∃fr en' cnt' y,st=⟨fr,en',cnt'⟩/\ fr 0= .ptr kr 0/\ fr 1= .i ((t+j:Nat):Int)/\ fr 6= .i k/\ fr 13= .i w.tasks.length/\ fr 14= .i k/\ RS kr en' cnt' p y/\ dT kr kr en cnt en' cnt'/\
   cM p w0 S y/\ y.tasks.length=w.tasks.length/\ t+j<=5001/\ dG p k (5000-t) x=((dG p k (5000-(t+j)) y).1,(dG p k (5000-(t+j)) y).2.1+j,(dG p k (5000-(t+j)) y).2.2)) (fun j=>5001-(t+j)) 0
   ⟨_,_,_,x,rfl,by simp only[go_sem,k0],by simp only[go_sem,k1],by simp only[go_sem],by simp only[go_sem,k13],by simp only[go_sem,k14],hx,hkp,hFx,hxt,ht,rfl⟩ ?_
  clear k0 k1 k13 k14 hx hkp
  rintro j st ⟨fr,en1,cnt1,y,rfl,k0,k1,k6,k13,k14,hy,hkp,hFy,hyt,htj,hI⟩
  have hay:inR (k:Int) 0 ((y.tasks.length:Int)-1)=true:=by simp only[inR,bTe];omega
  have s2:=hy.okr.set;have n2:=hy.okr.new;have m2:=hy.okr.eqF;have o2:=hy.okr.eqF';have hyr:=hy.r;simp only[go_sem,kK,k0,k6,hyr]
  refine WIn.mono (aCd hp hsp hFy hay ⟨⟨rfl,by simp[aC]⟩,by simp only[cG]⟩) ?_
  rintro v e1 c1 ⟨rfl,r1,q1⟩
  have u1: ∀t,cnt1 0 t<=c1 0 t:=fun t=>bP2 (((by(repeat refine upS ?_ (by omega));exact aO _): ∀t,cnt1 0 t<=aC cnt1 0 7 (cnt1 0 7+1) 0 t) t) (q1.up t)
  have hold: ∀k,Old k cnt1->e1 k=en1 k:=fun k hk=>by
   rw[q1.old k (hk.up (by(repeat refine upS ?_ (by omega));exact aO _)) hk.ne hk.ne];simp only[hk.set]
  have hy1:RS kr e1 c1 p y:=hy.to (hold kr hy.okr) u1;have hk1:dT kr kr en cnt e1 c1:=hkp.trans ⟨fun k hk _ _=>hold k hk,u1⟩
  have hy1r:=hy1.r;have hr1:=r1.r;have n2b:=hy1.okr.new
  by_cases h0:(aV p y k).what=0
  ·have d0:decide (zD (aV p y k).what=0)=true:=by rw[aCe];exact D_t h0
   have hw1:IntKind.i64.wrap (((t+j:Nat):Int)+1)=((t+j+1:Nat):Int):=by rw[aW (by omega)];omega
   have hcal:=(zF (p:=p) (by have:=(hFy.task hay).1;simp only[inR,bTe]at this;omega) hay).1 h0
   by_cases h5:5000<t+j+1
   ·have d5:decide ((5000:Int)<((t+j+1:Nat):Int))=true:=D_t (by omega)
    have hI0:dG p k (5000-t) x=(y,1+j,false):=by rw[hI,show 5000-(t+j)=0 by omega,dG,if_pos h0]
    rw[hI0]at hD;simp only[bPs,if_false]at hD;simp only[go_sem,kK,zE,aDg,(aGo _ _).ret,k1,d0,hw1,d5];rw[<-hD];exact⟨rfl,hy1,hk1⟩
   ·have d5:decide ((5000:Int)<((t+j+1:Nat):Int))=false:=D_f (by omega)
    have hy':=kM hp hFy hay;simp only[go_sem,kK,zE,aDg,(aGo _ _).ret,k0,k1,d0,hw1,d5,hy1r,hr1]
    refine⟨j+1,⟨_,_,_,(aV p y k).w,rfl,?_⟩,by omega⟩
    simp only[go_sem,k0,k6,k13,k14]
    refine⟨by rw[bRi],⟨hy1.okr,cG⟩,⟨fun k hk a b=>by rw[aK a];exact hk1.old k hk a b,hk1.up⟩,hy',by rw[hcal.2.1];exact hyt,by omega,?_⟩
    rw[hI,show 5000-(t+j)=(5000-(t+(j+1)))+1 by omega,dG,if_pos h0]
    simp only[bRi,Nat.add_comm 1 j]
  ·have d0:decide (zD (aV p y k).what=0)=false:=by rw[aCe];exact D_f h0
   have hin: ∀m,dG p k m y=(y,0,true):=fun m=>by cases m<;>(rw[dG,if_neg h0])
   rw[hI,hin]at hD;simp only[if_true,bQh]at hD;simp only[go_sem,kK,zE,aDg,(aGo _ _).ret,k1,k14,d0]
   refine⟨_,_,_,y,t+j,rfl,?_⟩
   simp only[go_sem,k0,k1,k13,aT h' hfw];exact⟨hy1,hk1,hFy,hyt,htj,by rw[show 121-(k+1)=120-k by omega];exact hD⟩
 ·have:k=w.tasks.length:=by simp at hq;omega
  subst this;have hD':bI p w s=(x,t,true):=by
   rw[<-hD];cases hm:121-w.tasks.length with
   |zero=>rfl
   |succ m=>rw[eW,if_neg (by omega)]
  rw[hD'];simp only[go_sem,k1];exact⟨rfl,hx,hkp⟩
theorem xZ (e:iD):PC L 391 [.agg [.i e.task,.i e.act,.i e.n,.i e.v.kind,.i e.v.n]] (.agg [.i e.task,.i e.act,.i e.n,.i e.v.kind,.i e.v.n]):=by
 have hL:=at_ func391
 conv at hL=>rhs;reduce
 refine aI hL rfl rfl ?_
 simp only[go_sem,kK]
theorem wC :PC L 392 [.agg []] (.agg [.i 0,.i 0,.i 0,.i 0,.i 0]):=by
 have hL:=at_ func392
 conv at hL=>rhs;reduce
 refine aI hL rfl rfl ?_
 simp only[go_sem,kK]
theorem aCf :PC L 390 [.agg []] (.agg [.i 0,.i 0,.i 0,.i 0,.i 0]):=by
 have hL:=at_ func390
 conv at hL=>rhs;reduce
 refine aI hL rfl rfl ?_
 simp only[go_sem,kK]
def evV (e:iD):Val:= .agg [.i e.task,.i e.act,.i e.n,.i e.v.kind,.i e.v.n]
theorem aD3 (l:List Int):(l.map (Val.int .i64)).all Val.flat1=true:=by
 rw[bPv];intro x hx;obtain⟨i,_,rfl⟩:=bQk.1 hx;rfl
theorem bC0 :(Val.cl xs).flat=false:=(rfl)
theorem bC1 :qN (.cl xs)=false:=(rfl)
theorem bC2 (hp:dU p)(hsp:aR p=true)(hF:cM p w0 S w)(h:RS kr en cnt p w)(pick:Int):
  WIn L (.fn 194 [] []) [.ptr kr 0,.i pick] en cnt fun r en' cnt'=>r= .tup [evV (fQ p w pick).2.1,.i ((fQ p w pick).2.2.1:Nat),.i (fQ p w pick).2.2.2]/\ ((fQ p w pick).2.2.2=0->RS kr en' cnt' p (fQ p w pick).1)/\ dT kr kr en cnt en' cnt':=by
 have s2:=h.okr.set;have n2:=h.okr.new;have hr:=h.r;have m2:=h.okr.eqF;have o2:=h.okr.eqF';have h1:=sR hp (s:=0) hF;have hc:=aEr (p:=p) 121 (a:=0) (w:=w) (s:=0);have hR:=bCz hp hsp h1;have hL:=at_ func194
 conv at hL=>rhs;reduce
 refine bD hL rfl rfl ?_
 simp only[go_sem,kK]
 refine WIn.mono (aAo hp hsp hF (h.to (by simp only[s2]) (by(repeat refine upS ?_ (by omega));exact aO _)) 0 (by omega)) ?_
 rintro v e1 c1 ⟨rfl,r1,q1⟩
 obtain⟨p4,o4⟩:=q1.loc (d:=4) (g:=cnt 0 4) (by simp[aC]) h.okr.ne.symm h.okr.ne.symm
 simp only[go_sem]at p4;have u1: ∀t,cnt 0 t<=c1 0 t:=fun t=>bP2 (((by(repeat refine upS ?_ (by omega));exact aO _): ∀t,cnt 0 t<=aC cnt 0 4 (cnt 0 4+1) 0 t) t) (q1.up t)
 have k1:dT kr kr en cnt e1 c1:=⟨fun k hk a b=>by rw[q1.old k (hk.up (by(repeat refine upS ?_ (by omega));exact aO _)) a b];simp only[hk.set],u1⟩
 unfold fQ
 simp only
 have hq1:bI p w 0=eW p 121 0 w 0:=rfl;rw[<-hq1]at hc;generalize hq:bI p w 0=q at r1 h1 hR hc⊢;obtain⟨x,sn,ok⟩:=q;dsimp only at r1 h1 hR hc⊢;cases ok with
 |false=>
  rw[if_pos rfl];simp only[go_sem,kK,kV,p4,kF];exact⟨rfl,fun h=>h.elim,⟨fun k hk a b=>by rw[hk.set];exact k1.old k hk a b,u1⟩⟩
 |true=>
  rw[if_neg (by decide)]
  have hx120:=uE h1;have hr1:=r1.r;have hc0:true=true->sn<=5000:=fun h=>by have:=hc h;omega
  by_cases hl:cH p x=[]
  ·rw[if_pos hl];have hz:tD 1 (([]:List Int).map (.int .i64))= .cl []:=rfl;rw[hl,hz]at hR;simp only[go_sem,kK,kV,p4,hr1,hR.ret,bC0,bC1,bP7,n2,if_true,kF];exact⟨rfl,fun h=>by simp at h,⟨fun k hk a b=>by rw[hk.set,aK a];exact k1.old k hk a b,u1⟩⟩
  ·rw[if_neg hl];have hne:(cH p x).map (Val.int .i64)≠[]:=by simpa using hl
   rw[pY hne]at hR;have hll:(cH p x).length<=120:=by
    simp only[cH,fY,bPr];exact bP2 (bS7 _ _) (by simpa using hx120)
   have hl0:0<(cH p x).length:=bSj.2 hl;have dl:decide (((cH p x).length:Int)=0)=false:=D_f (by omega)
   have hpi:=aQz hl pick;have hem:=Int.emod_nonneg pick (show((cH p x).length:Int)≠0 by omega)
   obtain⟨i,hi⟩:=bQv hem;have hil:i<(cH p x).length:=by rw[hi]at hpi;simpa using hpi
   have ha:=aMc (nD (d:=0) hpi);rw[hi,bQo]at ha⊢;generalize hn:(cH p x).length=n at*;have hz: ¬((n:Int)=0):=by omega
   have e:=Int.tmod_eq_emod (a:=pick) (b:=n);have hget:((cH p x).map (Val.int .i64))[i]?=some (.i ((cH p x).getD i 0)):=by simp[bPu,hn,hil]
   have hc1:(0:Int)<=(i:Int):=by omega
   have hc2:(i:Int)<(n:Int):=by omega
   by_cases hc:0<=pick \/(n:Int)∣pick
   ·have e:pick.tmod n=(i:Int):=by rw[e,if_pos hc,hi];simp
    have di:decide ((i:Int)<0)=false:=D_f (by omega)
    simp only[go_sem,kK,kV,hr1,hR.ret,bPr,hn,aD3,hz,e,di,hget,hc1,hc2,bQo,bQh,kF]
    refine WIn.mono (aCd hp hsp h1 ha (r1.to (by simp only[r1.okr.set]) (upS (aO c1) (by omega)))) ?_
    rintro v e2 c2 ⟨rfl,r2,q2⟩
    obtain⟨r4,o4'⟩:=q2.loc (d:=4) (g:=cnt 0 4) (by simp only[aC];exact o4.2) h.okr.ne.symm h.okr.ne.symm
    simp only[go_sem,p4]at r4;have hsn:=hc0 rfl;have hw1:IntKind.i64.wrap ((sn:Int)+1)=((sn+1:Nat):Int):=by rw[aW (by omega)];omega
    have hd:=kM hp h1 ha;have hcal:=zF (p:=p) (by have:=(h1.task ha).1;simp only[inR,bTe]at this;omega) ha
    generalize aV p x ((cH p x).getD i 0)=d at hd hcal r2⊢;simp only[go_sem,hw1]
    refine WIn.mono (aAo hp hsp hd r2 (sn+1) (by omega)) ?_
    rintro v e3 c3 ⟨rfl,r3,q3⟩
    obtain⟨r4',_⟩:=q3.loc (d:=4) (g:=cnt 0 4) o4'.2 h.okr.ne.symm h.okr.ne.symm;rw[r4]at r4';have u3: ∀t,cnt 0 t<=c3 0 t:=fun t=>bP2 (u1 t) (bP2 (upS (aO c1) (a:=21) (x:=c1 0 21+1) (by omega) t) (bP2 (q2.up t) (q3.up t)))
    have hold: ∀k,Old k cnt->k≠kr->e3 k=en k:=fun k hk hkr=>by
     have hk1:=hk.up u1;rw[q3.old k (hk1.up fun t=>bP2 (upS (aO c1) (a:=21) (x:=c1 0 21+1) (by omega) t) (q2.up t)) hkr hkr,q2.old k (hk1.up (upS (aO c1) (by omega))) hkr hkr,hk1.set]
     exact k1.old k hk hkr hkr
    generalize bI p d.w (sn+1)=q at r3⊢;obtain⟨y,s3,ok2⟩:=q;dsimp only at r3⊢;cases ok2 with
    |false=>
     rw[if_pos (.inl rfl)];simp only[go_sem,kK,kV,r4',kF];exact⟨rfl,fun h=>h.elim,⟨fun k hk a b=>by rw[hk.set];exact hold k hk a,u3⟩⟩
    |true=>
     by_cases h5:5000<s3
     ·have d5:decide ((5000:Int)<(s3:Int))=true:=D_t (by omega)
      rw[if_pos (.inr h5)];simp only[go_sem,kK,kV,r4',d5,if_true,kF];exact⟨rfl,fun h=>h.elim,⟨fun k hk a b=>by rw[hk.set];exact hold k hk a,u3⟩⟩
     ·have d5:decide ((5000:Int)<(s3:Int))=false:=D_f (by omega)
      rw[if_neg (by rintro(h|h);cases h;exact h5 h)]
      by_cases hw2:d.what=2
      ·have hE:tF d.what d.e= .ifc 244 (.agg []):=by unfold tF;rw[if_pos hw2]
       rw[(hcal.2.2.2 hw2).2]at hE⊢;simp only[go_sem,kK,kV,r4',d5,hE,aCf.ret,if_true,kF];exact⟨rfl,fun _=>⟨r3.okr,by rw[s2];exact r3.r⟩,⟨fun k hk a b=>by rw[hk.set];exact hold k hk a,u3⟩⟩
      ·by_cases hw0:d.what=0
       ·have hE:tF d.what d.e= .ifc 255 (.agg []):=by unfold tF;rw[if_neg hw2,if_pos hw0]
        rw[(hcal.1 hw0).1]at hE⊢;simp only[go_sem,kK,kV,r4',d5,hE,wC.ret,if_true,kF];exact⟨rfl,fun _=>⟨r3.okr,by rw[s2];exact r3.r⟩,⟨fun k hk a b=>by rw[hk.set];exact hold k hk a,u3⟩⟩
       ·have hE:tF d.what d.e= .ifc 247 (.agg [.i d.e.task,.i d.e.act,.i d.e.n,.i d.e.v.kind,.i d.e.v.n]):=by unfold tF;rw[if_neg hw2,if_neg hw0]
        simp only[go_sem,kK,kV,r4',d5,hE,(xZ _).ret,if_true,kF];exact⟨rfl,fun _=>⟨r3.okr,by rw[s2];exact r3.r⟩,⟨fun k hk a b=>by rw[hk.set];exact hold k hk a,u3⟩⟩
   ·rw[if_neg hc,hi]at e;have di:decide (pick.tmod n<0)=true:=D_t (by rw[e];simp only[Int.natAbs_natCast];omega)
    have hw:IntKind.i64.wrap (pick.tmod n+n)=(i:Int):=by rw[e];simp only[Int.natAbs_natCast];rw[aW (by omega)];omega
    simp only[go_sem,kK,kV,hr1,hR.ret,bPr,hn,aD3,hz,di,hw,hget,hc1,hc2,bQo,bQh,kF]
    refine WIn.mono (aCd hp hsp h1 ha (r1.to (by simp only[r1.okr.set]) (upS (aO c1) (by omega)))) ?_
    rintro v e2 c2 ⟨rfl,r2,q2⟩
    obtain⟨r4,o4'⟩:=q2.loc (d:=4) (g:=cnt 0 4) (by simp only[aC];exact o4.2) h.okr.ne.symm h.okr.ne.symm
    simp only[go_sem,p4]at r4;have hsn:=hc0 rfl;have hw1:IntKind.i64.wrap ((sn:Int)+1)=((sn+1:Nat):Int):=by rw[aW (by omega)];omega
    have hd:=kM hp h1 ha;have hcal:=zF (p:=p) (by have:=(h1.task ha).1;simp only[inR,bTe]at this;omega) ha
    generalize aV p x ((cH p x).getD i 0)=d at hd hcal r2⊢;simp only[go_sem,hw1]
    refine WIn.mono (aAo hp hsp hd r2 (sn+1) (by omega)) ?_
    rintro v e3 c3 ⟨rfl,r3,q3⟩
    obtain⟨r4',_⟩:=q3.loc (d:=4) (g:=cnt 0 4) o4'.2 h.okr.ne.symm h.okr.ne.symm;rw[r4]at r4';have u3: ∀t,cnt 0 t<=c3 0 t:=fun t=>bP2 (u1 t) (bP2 (upS (aO c1) (a:=21) (x:=c1 0 21+1) (by omega) t) (bP2 (q2.up t) (q3.up t)))
    have hold: ∀k,Old k cnt->k≠kr->e3 k=en k:=fun k hk hkr=>by
     have hk1:=hk.up u1;rw[q3.old k (hk1.up fun t=>bP2 (upS (aO c1) (a:=21) (x:=c1 0 21+1) (by omega) t) (q2.up t)) hkr hkr,q2.old k (hk1.up (upS (aO c1) (by omega))) hkr hkr,hk1.set]
     exact k1.old k hk hkr hkr
    generalize bI p d.w (sn+1)=q at r3⊢;obtain⟨y,s3,ok2⟩:=q;dsimp only at r3⊢;cases ok2 with
    |false=>
     rw[if_pos (.inl rfl)];simp only[go_sem,kK,kV,r4',kF];exact⟨rfl,fun h=>h.elim,⟨fun k hk a b=>by rw[hk.set];exact hold k hk a,u3⟩⟩
    |true=>
     by_cases h5:5000<s3
     ·have d5:decide ((5000:Int)<(s3:Int))=true:=D_t (by omega)
      rw[if_pos (.inr h5)];simp only[go_sem,kK,kV,r4',d5,if_true,kF];exact⟨rfl,fun h=>h.elim,⟨fun k hk a b=>by rw[hk.set];exact hold k hk a,u3⟩⟩
     ·have d5:decide ((5000:Int)<(s3:Int))=false:=D_f (by omega)
      rw[if_neg (by rintro(h|h);cases h;exact h5 h)]
      by_cases hw2:d.what=2
      ·have hE:tF d.what d.e= .ifc 244 (.agg []):=by unfold tF;rw[if_pos hw2]
       rw[(hcal.2.2.2 hw2).2]at hE⊢;simp only[go_sem,kK,kV,r4',d5,hE,aCf.ret,if_true,kF];exact⟨rfl,fun _=>⟨r3.okr,by rw[s2];exact r3.r⟩,⟨fun k hk a b=>by rw[hk.set];exact hold k hk a,u3⟩⟩
      ·by_cases hw0:d.what=0
       ·have hE:tF d.what d.e= .ifc 255 (.agg []):=by unfold tF;rw[if_neg hw2,if_pos hw0]
        rw[(hcal.1 hw0).1]at hE⊢;simp only[go_sem,kK,kV,r4',d5,hE,wC.ret,if_true,kF];exact⟨rfl,fun _=>⟨r3.okr,by rw[s2];exact r3.r⟩,⟨fun k hk a b=>by rw[hk.set];exact hold k hk a,u3⟩⟩
       ·have hE:tF d.what d.e= .ifc 247 (.agg [.i d.e.task,.i d.e.act,.i d.e.n,.i d.e.v.kind,.i d.e.v.n]):=by unfold tF;rw[if_neg hw2,if_neg hw0]
        simp only[go_sem,kK,kV,r4',d5,hE,(xZ _).ret,if_true,kF];exact⟨rfl,fun _=>⟨r3.okr,by rw[s2];exact r3.r⟩,⟨fun k hk a b=>by rw[hk.set];exact hold k hk a,u3⟩⟩
theorem rY (p:aF)(w:aA)(hw:w.few)(hs:bW w=true):PC L 123 [.fp [.fz (p.nodes.map aM.enc),.fz (p.funs.map (.int .i64)),.i p.main,.fz (p.cons.map cS.enc),.fz (w.objs.map aQ.enc),.fz (w.tasks.map (.int .i64)),.fz (w.outs.map bJ.enc),.fz (w.ins.map (.int .i64)),.i w.used] 0] (.agg w.cs):=by
 obtain⟨b1,b2,b3,b4⟩:=aLs hs;have c1:=qV (w.tasks.map (.int .i64)) (pZ _) (by simp;omega)
 have c2:=aF5 (w.outs.map bJ.enc) (aIu _) (by simp;omega)
 have c3:=qV (w.ins.map (.int .i64)) (pZ _) (by simp;omega)
 have hL:=at_ func123
 conv at hL=>rhs;reduce
 refine aI hL rfl rfl ?_
 simp only[go_sem,kK]
 refine aF3 (fun st=>st.fr 2= .ptr ⟨0,2,0⟩ 0/\ st.en ⟨0,2,0⟩=some (.box [.cl [],.cl [],.cl [],.cl [],.i 0] false)/\ st.fr 0= .fp [.fz (p.nodes.map aM.enc),.fz (p.funs.map (.int .i64)),.i p.main,.fz (p.cons.map cS.enc),.fz (w.objs.map aQ.enc),.fz (w.tasks.map (.int .i64)),.fz (w.outs.map bJ.enc),.fz (w.ins.map (.int .i64)),.i w.used] 0/\ st.fr 3= .ptr ⟨0,3,0⟩ 0/\
  ∃vT vO vI,st.en ⟨0,3,0⟩=some (.box [.cl [],vT,vO,vI,.i w.used] false)/\ cP st.en vT 1 (w.tasks.map (.int .i64)) [11]/\ cP st.en vO 2 (w.outs.map bJ.enc) [17]/\ cP st.en vI 1 (w.ins.map (.int .i64)) [23]) ?_ ?_
 ·refine aH ?_
  rcases jK 1 (w.tasks.map (Val.int .i64))with⟨t1,t2⟩|⟨t1,t2⟩<;>rw[t2]at c1<;>
  rcases jK 2 (w.outs.map bJ.enc)with⟨o1,o2⟩|⟨o1,o2⟩<;>rw[o2]at c2<;>
  rcases jK 1 (w.ins.map (Val.int .i64))with⟨i1,i2⟩|⟨i1,i2⟩<;>rw[i2]at c3
  all_goals simp only[go_sem,kA,kF,c1.ret,c2.ret,c3.ret,bPr,bPq,if_true,kB]
  all_goals refine⟨_,_,_,rfl,?_,?_,?_⟩
  all_goals first
   |exact .inl ⟨rfl,by assumption⟩
   |exact wY (by simp only[go_sem];try rfl) (by simp only[bPr])
 ·rintro fr en cnt ⟨h2,e2,h1,h3,vT,vO,vI,e3,mT,mO,mI⟩
  dsimp only at h2 e2 h1 h3 e3 mT mO mI;simp only[go_sem,h1]
  refine bQ w.objs.length (fun k st=> ∃fr en cnt v,st=⟨fr,en,cnt⟩/\ fr 2= .ptr ⟨0,2,0⟩ 0/\ en ⟨0,2,0⟩=some (.box [.cl [],.cl [],.cl [],.cl [],.i 0] false)/\ fr 3= .ptr ⟨0,3,0⟩ 0/\ en ⟨0,3,0⟩=some (.box [v,vT,vO,vI,.i w.used] false)/\ fr 34= .fz (w.objs.map aQ.enc)/\ fr 35= .i w.objs.length/\ fr 36= .i k/\
   cP en vT 1 (w.tasks.map (.int .i64)) [11]/\ cP en vO 2 (w.outs.map bJ.enc) [17]/\ cP en vI 1 (w.ins.map (.int .i64)) [23]/\ cP en v 4 ((w.objs.take k).map aQ.enc) [45]) 0 (bPx _) ⟨_,_,_,.cl [],rfl,by simp only[go_sem,h2],by simp only[go_sem,e2],by simp only[go_sem,h3],by simp only[go_sem,e3],by simp only[go_sem],by simp only[go_sem],by simp only[go_sem],mT,mO,mI,cP.nil _ _⟩ ?_
  rintro k st hk ⟨fr,en,cnt,v,rfl,h2,e2,h3,e3,h19,h20,h21,mT,mO,mI,hv⟩
  simp only[go_sem,kK,h20,h21]
  refine aG (fun hq=>?_) (fun hq=>?_)
  ·have h':k<w.objs.length:=D_o hq;have hso:=aLo hs _ (bPz h');simp only[go_sem,h',h19,h21]
   refine aH ?_
   simp only[go_sem,h3,e3,kA,kF,bEf,(aZv _ hso).ret]
   refine aHk (D:=[45]) (xs:=(w.objs.take k).map aQ.enc) (ys:=[aQ.enc w.objs[k]]) (rs:=[]) ?_ ?_ ?_ rfl ?_ ?_
   ·simp only[go_sem];exact hv.keep fun t g ht=>by simp at ht;subst ht;simp only[go_sem]
   ·simp only[go_sem]
   ·rfl
   ·simp;omega
   ·intro v' en' cnt' r hown hen hcnt _ _ _;have k2:en' ⟨0,2,0⟩=some (.box [.cl [],.cl [],.cl [],.cl [],.i 0] false):=by rw[hen 0 2 0 (.inr ⟨by decide,by simp⟩)];simp only[go_sem,e2]
    have k3:en' ⟨0,3,0⟩=some (.box [v,vT,vO,vI,.i w.used] false):=by rw[hen 0 3 0 (.inr ⟨by decide,by simp⟩)];simp only[go_sem,e3]
    obtain⟨s1,s2⟩:=hown.shape;simp only[go_sem,h3,k3,h21,s1,s2]
    refine⟨_,_,_,v',rfl,?_⟩
    simp only[go_sem,h2,k2,h3,h19,h20,aT h' hw.objs]
    refine⟨mT.keep ?_,mO.keep ?_,mI.keep ?_,?_⟩
    ·intro t g ht;simp at ht;subst ht;rw[iZ (by simp),hen 0 11 g (.inr ⟨by decide,by simp⟩)];simp only[go_sem]
    ·intro t g ht;simp at ht;subst ht;rw[iZ (by simp),hen 0 17 g (.inr ⟨by decide,by simp⟩)];simp only[go_sem]
    ·intro t g ht;simp at ht;subst ht;rw[iZ (by simp),hen 0 23 g (.inr ⟨by decide,by simp⟩)];simp only[go_sem]
    ·rw[gZ h',bQs]
     refine cP.sub (D:=[45,45]) (cP.keep (en:=en') hown ?_) (by simp)
     intro t g ht;simp at ht;subst ht;simp only[go_sem]
  ·have:k=w.objs.length:=by simp at hq;omega
   subst this;rw[bQ6]at hv;simp only[go_sem,h2,e2,h3,e3];obtain⟨r1,ks1,s1,s1',_⟩:=(hv.keep (en':=en.set ⟨0,2,0⟩ (some (.box [v,vT,vO,vI,.i w.used] false))) fun t g ht=>by simp at ht;subst ht;simp only[go_sem]).snap 6
   obtain⟨r2,ks2,s2,s2',_⟩:=(mT.keep (en':=en.set ⟨0,2,0⟩ (some (.box [v,vT,vO,vI,.i w.used] false))) fun t g ht=>by simp at ht;subst ht;simp only[go_sem]).snap 6
   obtain⟨r3,ks3,s3,s3',_⟩:=(mO.keep (en':=en.set ⟨0,2,0⟩ (some (.box [v,vT,vO,vI,.i w.used] false))) fun t g ht=>by simp at ht;subst ht;simp only[go_sem]).snap 6
   obtain⟨r4,ks4,s4,s4',_⟩:=(mI.keep (en':=en.set ⟨0,2,0⟩ (some (.box [v,vT,vO,vI,.i w.used] false))) fun t g ht=>by simp at ht;subst ht;simp only[go_sem]).snap 6
   simp only[go_sem,s1,s2,s3,s4,s1',s2',s3',s4']
structure bOd (en:En) (cnt:Nat->Nat->Nat) (en':En) (cnt':Nat->Nat->Nat):Prop where
 old: ∀k,Old k cnt->en' k=en k
 up: ∀t,cnt 0 t<=cnt' 0 t
theorem aCg (p:aF)(w:aA)(hp:p.few)(hw:w.few)(hs:aR p=true):WIn L (.fn 119 [] []) [.agg p.cs,.agg w.cs] en cnt fun v en' cnt'=>
  (bY p w=true->v= .tup [.ptr ⟨0,13,cnt 0 13⟩ 0,.bool true]/\ RS ⟨0,13,cnt 0 13⟩ en' cnt' p w)/\ (bY p w=false-> ∃x,v= .tup [x,.bool false])/\ bOd en cnt en' cnt':=by
 have hb:=xT p hp hs;have hL:=at_ func119
 conv at hL=>rhs;reduce
 refine bD hL rfl rfl ?_
 cases hf:dV p with
 |false=>
  rw[hf]at hb;simp only[go_sem,kK,hb.ret]
  refine⟨fun h=>by simp[bY,hf]at h,fun _=>⟨_,rfl⟩,fun k hk=>by simp only[hk.set],(by(repeat refine upS ?_ (by omega));exact aO _)⟩
 |true=>
  rw[hf]at hb;simp only[go_sem,kK,hb.ret,(sN p w hp hw).ret];rw[aLr p w hf]
  refine⟨fun h=>?_,fun h=>?_,fun k hk=>by simp only[hk.set],(by(repeat refine upS ?_ (by omega));exact aO _)⟩
  ·have:cX p w=true:=by simpa[bY,hf]using h
   rw[this];exact⟨rfl,⟨rfl,by simp[aC]⟩,cG⟩
  ·have:cX p w=false:=by simpa[bY,hf]using h
   rw[this];exact⟨_,rfl⟩
end
structure bP where
 every:Int
 picks:List Int
 marks:List aA
def aA.enc (w:aA):Val:= .agg w.cs
abbrev bP.cs (l:bP):List Val:=[.i l.every,.is l.picks,.fz (l.marks.map aA.enc)]
abbrev ply (p:aF)(l:bP):Val:= .fp [.i l.every,.is l.picks,.fz (l.marks.map aA.enc),.fz (p.nodes.map aM.enc),.fz (p.funs.map (.int .i64)),.i p.main,.fz (p.cons.map cS.enc)] 0
def bP.enc (l:bP):Val:= .agg [.i l.every,.is l.picks,.fz (l.marks.map aA.enc)]
def kD :aA:=⟨[],[],[],[],0⟩
def kW :bP:=⟨0,[],[]⟩
def gP (l:bP)(t:Nat):Int:=l.picks.getD t 0
def aCh (l:bP)(i:Nat):aA:=l.marks.getD i kD
def aL (l:bP):Nat:=l.every.toNat
def gY (p:aF)(l:bP):Bool:=
 dV p&&inR l.every 1 20&&decide (l.picks.length<=200)&&decide (l.marks.length=l.picks.length/aL l+1)&&l.marks.all (cX p)
def dL (p:aF)(w:aA)(pick:Int):aA×iD×Int:=
 let r:=fQ p w pick
 if r.2.2.2=5 then(w,eB,6)else if r.2.2.2=0 then(r.1,r.2.1,0)else(w,eB,r.2.2.2)
def aCi (p:aF)(l:bP):Nat->Nat->aA->aA×Int
 |_,0,w=>(w,0)
 |i,k+1,w=>if(dL p w (gP l i)).2.2=0 then aCi p l (i+1) k (dL p w (gP l i)).1 else(kD,(dL p w (gP l i)).2.2)
def atX (p:aF)(l:bP)(n:Nat):aA×Int:=aCi p l (n/aL l*aL l) (n-n/aL l*aL l) (aCh l (n/aL l))
def bR (p:aF)(l:bP)(t:Nat):aA×iD×Int:=
 if(atX p l t).2=0 then(if(dL p (atX p l t).1 (gP l t)).2.2=0 then dL p (atX p l t).1 (gP l t)else(kD,(dL p (atX p l t).1 (gP l t)).2.1,(dL p (atX p l t).1 (gP l t)).2.2))else((atX p l t).1,eB,(atX p l t).2)
theorem aUf {p:aF}{l:bP}: ∀(a b i:Nat) (w:aA),aCi p l i (a+b) w=if(aCi p l i a w).2=0 then aCi p l (i+a) b (aCi p l i a w).1 else(kD,(aCi p l i a w).2)
 |0,b,i,w=>by simp[aCi]
 |a+1,b,i,w=>by
  rw[show a+1+b=(a+b)+1 by omega,aCi,aCi]
  split
  ·rw[aUf a b (i+1),show i+1+a=i+(a+1)by omega]
  ·rfl
variable {l:bP}{n:Nat}
theorem aMq {n:Nat}(he:0<aL l)(hm: ¬(n+1)%aL l=0):atX p l (n+1)=if(atX p l n).2=0 then(if(dL p (atX p l n).1 (gP l n)).2.2=0 then((dL p (atX p l n).1 (gP l n)).1,0)else(kD,(dL p (atX p l n).1 (gP l n)).2.2))else(kD,(atX p l n).2):=by
 have hd:(n+1)/aL l=n/aL l:=by
  rw[Nat.succ_div];rw[if_neg (fun h=>hm (Nat.mod_eq_zero_of_dvd h)),bQ9]
 have hle:n/aL l*aL l<=n:=bS8 ..;unfold atX;rw[hd,show n+1-n/aL l*aL l=(n-n/aL l*aL l)+1 by omega,aUf,show n/aL l*aL l+(n-n/aL l*aL l)=n by omega]
 split
 ·simp only[aCi]
 ·rfl
theorem zG {n:Nat}(he:0<aL l)(hm:n%aL l=0):atX p l n=(aCh l (n/aL l),0):=by
 have:n/aL l*aL l=n:=Nat.div_mul_cancel (Nat.dvd_of_mod_eq_zero hm);unfold atX;rw[this,Nat.sub_self];rfl
theorem aUg (hp:dU p)(h:cX p w=true)(pick:Int):cX p (dL p w pick).1=true:=by
 have hF:cM p w (fun _=>True) w:=⟨h,bPq _,fun _ _=>rfl,bSo _,fun _ _ _ _ _ _=>trivial,fun _ _=>trivial,fun _ _=>trivial⟩
 have:=(aOw hp hF pick).ok;unfold dL
 simp only
 split
 ·exact h
 split
 ·exact this
 ·exact h
theorem tS (h:cX p w=true):cM p w (fun _=>True) w:=⟨h,bPq _,fun _ _=>rfl,bSo _,fun _ _ _ _ _ _=>trivial,fun _ _=>trivial,fun _ _=>trivial⟩
theorem aXq {p:aF}(hp:dU p){l:bP}: ∀(k i:Nat) {w:aA},cX p w=true->(aCi p l i k w).2=0->cX p (aCi p l i k w).1=true
 |0,_,_,h,_=>h
 |k+1,i,w,h,he=>by
  rw[aCi]at he⊢;split
  ·rename_i ht;rw[if_pos ht]at he;exact aXq hp k (i+1) (aUg hp h _) he
  ·rename_i ht;rw[if_neg ht]at he;exact absurd he ht
theorem nF (h:gY p l=true):dV p=true/\ (1<=aL l/\ aL l<=20/\ l.every=(aL l:Int))/\ l.picks.length<=200/\ l.marks.length=l.picks.length/aL l+1/\ ∀w∈l.marks,cX p w=true:=by
 simp only[gY,bPp,bTe,bPv,inR]at h;obtain⟨⟨⟨⟨h1,h2⟩,h3⟩,h4⟩,h5⟩:=h
 refine⟨h1,⟨?_,?_,?_⟩,h3,h4,h5⟩<;>unfold aL<;>omega
theorem bFc (h:gY p l=true){n:Nat}(hn:n<=l.picks.length):cX p (aCh l (n/aL l))=true:=by
 obtain⟨_,⟨h1,_⟩,_,h4,h5⟩:=nF h;have:n/aL l<l.marks.length:=by
  rw[h4];have:=Nat.div_le_div_right (c:=aL l) hn;omega
 refine h5 _ ?_
 unfold aCh;rw[bPu,bQz this];exact bPz _
theorem aQ6 (hp:dU p)(h:gY p l=true){n:Nat}(hn:n<=l.picks.length)(he:(atX p l n).2=0):cX p (atX p l n).1=true:=
 aXq hp _ _ (bFc h hn) he
section
variable {n:aM}
def rF :aA:=⟨[],[],[],[],0⟩
def aA3 (p:aF)(w:aA)(pick:Int):aA×iD×Nat×Int:=
 if bY p w=true then(if(fQ p w pick).2.2.2=0 then fQ p w pick else(rF,eB,0,(fQ p w pick).2.2.2))else(rF,eB,0,2)
theorem aZy (p:aF)(w:aA)(pick:Int):(fQ p w pick).2.2.2=0 \/(fQ p w pick).2.2.2=5 \/(fQ p w pick).2.2.2=8:=by
 unfold fQ;simp only;split
 ·exact .inr (.inr rfl)
 split
 ·exact .inr (.inl rfl)
 split
 ·exact .inr (.inr rfl)
 ·exact .inl rfl
theorem aQ7 {cs:List Val}:(Val.agg (.fz xs::cs)).flat=false:=(rfl)
theorem aGr (p:aF)(w:aA)(pick:Int)(hp:p.few)(hw:w.few)(hsp:aR p=true):
  PC L 145 [.agg p.cs,.agg w.cs,.i pick] (.tup [.agg (aA3 p w pick).1.cs,evV (aA3 p w pick).2.1,.i ((aA3 p w pick).2.2.1:Nat),.i (aA3 p w pick).2.2.2]):=by
 have hL:=at_ func145
 conv at hL=>rhs;reduce
 refine aI hL rfl rfl ?_
 simp only[go_sem,kK]
 refine WIn.mono (aCg p w hp hw hsp) ?_
 rintro v e1 c1 ⟨h1,h2,h3⟩
 have p6:=h3.old ⟨0,6,0⟩ ⟨rfl,by simp[aC]⟩
 have p7:=h3.old ⟨0,7,0⟩ ⟨rfl,by simp[aC]⟩
 have c6:=h3.up 6;have c7:=h3.up 7;simp only[go_sem]at p6 p7;unfold aA3;cases hg:bY p w with
 |false=>
  obtain⟨x,rfl⟩:=h2 hg;rw[if_neg (by decide)]
  simp only[go_sem,kK,p6,p7,rF,aA.cs,Val.is,eB,jL,evV,bP1]
 |true=>
  obtain⟨rfl,r1⟩:=h1 hg;rw[if_pos rfl];have hF:cM p w (fun _=>True) w:=by
   simp only[bY,bPp]at hg;exact tS hg.2
  have hpf:dU p:=by
   simp only[bY,bPp]at hg;exact lV hg.1
  simp only[go_sem,kK]
  refine WIn.mono (bC2 hpf hsp hF r1 pick) ?_
  rintro v e2 c2 ⟨rfl,r2,q2⟩
  have k13: ∀d g,¬d=13->(⟨0,d,g⟩:Key)≠⟨0,13,0⟩:=fun d g h he=>h (by injection he)
  obtain⟨p6',o6⟩:=q2.loc (d:=6) (g:=0) c6 (k13 _ _ (by decide)) (k13 _ _ (by decide))
  obtain⟨p7',o7⟩:=q2.loc (d:=7) (g:=0) c7 (k13 _ _ (by decide)) (k13 _ _ (by decide))
  rw[p6]at p6';rw[p7]at p7';have o6':=o6.eqF';have o7':=o7.eqF';have o6n:=o6.set;have o7n:=o7.set
  by_cases h0:(fQ p w pick).2.2.2=0
  ·have d0:decide ((fQ p w pick).2.2.2=0)=true:=D_t h0;have r2':RS ⟨0,13,0⟩ e2 c2 p (fQ p w pick).1:=r2 h0;have hkr:=r2'.r;have s2:=r2'.okr.set;have hFt:=aOw hpf hF pick;have hcp:=rY p (fQ p w pick).1 (rX (lW hsp hFt.ok)) (lW hsp hFt.ok);rw[if_pos h0];simp only[go_sem,kK,evV,d0]
   refine aH ?_
   simp only[go_sem,p6',p7',o6n,o7n,s2,hkr,hcp.ret,aQ7,kA,kF];rw[h0]
  ·have d0:decide ((fQ p w pick).2.2.2=0)=false:=D_f h0;rw[if_neg h0];simp only[go_sem,kK,evV,d0,p6',p7',o6n,o7n,rF,aA.cs,Val.is,eB,jL,bP1]
def xE (p:aF)(w:aA):aA×Nat×Int:=
 if bY p w=true then(if(bI p w 0).2.2=true then((bI p w 0).1,(bI p w 0).2.1,0)else(rF,0,8))else(rF,0,2)
theorem aMr (p:aF)(w:aA)(hp:p.few)(hw:w.few)(hsp:aR p=true):
  PC L 96 [.agg p.cs,.agg w.cs] (.tup [.agg (xE p w).1.cs,.i ((xE p w).2.1:Nat),.i (xE p w).2.2]):=by
 have hL:=at_ func96
 conv at hL=>rhs;reduce
 refine aI hL rfl rfl ?_
 simp only[go_sem,kK]
 refine WIn.mono (aCg p w hp hw hsp) ?_
 rintro v e1 c1 ⟨h1,h2,h3⟩
 have p4:=h3.old ⟨0,4,0⟩ ⟨rfl,by simp[aC]⟩
 have c4:=h3.up 4;simp only[go_sem]at p4;unfold xE;cases hg:bY p w with
 |false=>
  obtain⟨x,rfl⟩:=h2 hg;rw[if_neg (by decide)]
  simp only[go_sem,kK,p4,rF,aA.cs,Val.is,bP1]
 |true=>
  obtain⟨rfl,r1⟩:=h1 hg;rw[if_pos rfl];have hF:cM p w (fun _=>True) w:=by
   simp only[bY,bPp]at hg;exact tS hg.2
  have hpf:dU p:=by
   simp only[bY,bPp]at hg;exact lV hg.1
  simp only[go_sem,kK]
  refine WIn.mono (aAo hpf hsp hF r1 0 (by omega)) ?_
  rintro v e2 c2 ⟨rfl,r2,q2⟩
  have k13: ∀d g,¬d=13->(⟨0,d,g⟩:Key)≠⟨0,13,0⟩:=fun d g h he=>h (by injection he)
  obtain⟨p4',o4⟩:=q2.loc (d:=4) (g:=0) c4 (k13 _ _ (by decide)) (k13 _ _ (by decide))
  rw[p4]at p4';have hFt:=sR hpf (s:=0) hF;have r2':RS ⟨0,13,0⟩ e2 c2 p (bI p w 0).1:=r2;have hcp:=rY p (bI p w 0).1 (rX (lW hsp hFt.ok)) (lW hsp hFt.ok);generalize bI p w 0=q at r2' hcp⊢;obtain⟨x,sn,ok⟩:=q;dsimp only at r2' hcp⊢;have hkr:=r2'.r;cases ok with
  |true=>
   rw[if_pos rfl];simp only[go_sem,kK,kV,p4',hkr,hcp.ret,aQ7,if_true,kF]
  |false=>
   rw[if_neg (by decide)]
   simp only[go_sem,kK,kV,p4',rF,aA.cs,Val.is,bP1,kF]
end
def bIb (w:aA)(a:Int):Int:=(aE ((w.obj (bG w a)).frames.getD ((w.obj (bG w a)).frames.length-1) fF).vals 0).n
structure bGg where
 kind:Int
 n:Int
 v:aD
def bGg.enc (c:bGg):Val:= .agg [.i c.kind,.i c.n,.i c.v.kind,.i c.v.n]
def aCj (p:aF)(w:aA)(every:Int):bP×Int:=if(bI p w 0).2.2=true then(⟨every,[],[(bI p w 0).1]⟩,0)else(kW,8)
def aMs (p:aF)(l:bP)(pick:Int):bP×iD×Int:=
 if 200<=l.picks.length then(kW,eB,3)
 else if(atX p l l.picks.length).2=0 then
  (let r:=dL p (atX p l l.picks.length).1 pick
  if r.2.2=0 then(⟨l.every,l.picks++[pick],if(l.picks.length+1)%aL l=0 then l.marks++[r.1]else l.marks⟩,r.2.1,0)else(kW,eB,r.2.2))
 else(kW,eB,(atX p l l.picks.length).2)
def aJi (l:bP)(n:Nat):bP:=⟨l.every,l.picks.take n,l.marks.take (n/aL l+1)⟩
def aAp (e:Int):Val:= .ifc 167 (.agg [.i e])
theorem fC (e:Int):PC L 61 [.bool true,.i e] (.tup []):=by
 have hL:=at_ func61
 conv at hL=>rhs;reduce
 refine aI hL rfl rfl ?_
 simp only[go_sem,kK]
theorem cY (e:Int):PX L 61 [.bool false,.i e] (aAp e):=by
 have hL:=at_ func61
 conv at hL=>rhs;reduce
 refine aIg hL rfl rfl ?_
 simp only[go_sem,kK]
 refine dK 3 rfl ?_
 simp only[go_sem,bP0,bPw];exact⟨rfl,rfl⟩
def bP.few (l:bP):Prop:=Few l.picks.length/\ Few l.marks.length/\ ∀w∈l.marks,w.few
theorem sB {k:Nat}(h:k<l.marks.length):oU 5 en (.fz (l.marks.map aA.enc)) (.i (k:Int))=some {v:= .fp [.fz (l.marks[k].objs.map aQ.enc),.is l.marks[k].tasks,.fz (l.marks[k].outs.map bJ.enc),.is l.marks[k].ins,.i l.marks[k].used] 0}:=by
 simp[oU,h,aA.enc];exact⟨rfl,rfl⟩
def aEu (p:aF)(l:bP):Bool:=!(decide (l.every<1)||decide ((20:Int)<l.every)||decide ((200:Int)<l.picks.length)||!decide ((l.marks.length:Int)=(l.picks.length:Int).tdiv l.every+1))&&l.marks.all (bY p)
theorem yA (p:aF)(l:bP)(hp:p.few)(hl:l.few)(hsp:aR p=true):PC L 42 [.agg p.cs,.agg l.cs] (.i (if aEu p l=true then 0 else 2)):=by
 have hnb: ∀{b:Bool},aEu p l=b->(if aEu p l=true then(0:Int)else 2)=if b=true then 0 else 2:=fun h=>by rw[h]
 have hL:=at_ func42
 conv at hL=>rhs;reduce
 refine aI hL rfl rfl ?_
 by_cases h1:l.every<1
 ·have d1:decide (l.every<1)=true:=D_t h1;rw[hnb (b:=false) (by simp[aEu,h1])]
  simp only[go_sem,kK,d1,kF]
 have d1:decide (l.every<1)=false:=D_f h1
 by_cases h2:20<l.every
 ·have d2:decide ((20:Int)<l.every)=true:=D_t h2;rw[hnb (b:=false) (by simp[aEu,h2])]
  simp only[go_sem,kK,d1,d2,kF]
 have d2:decide ((20:Int)<l.every)=false:=D_f h2
 by_cases h3:(200:Int)<l.picks.length
 ·have d3:decide ((200:Int)<(l.picks.length:Int))=true:=D_t h3;rw[hnb (b:=false) (by simp only[aEu,d3,bRq,Bool.true_or,bP3,bQq])]
  simp only[go_sem,kK,bPr,d1,d2,d3,kF]
 have d3:decide ((200:Int)<(l.picks.length:Int))=false:=D_f h3;have hz: ¬(l.every=0):=by omega
 have hdv:=Int.tdiv_nonneg (show(0:Int)<=(l.picks.length:Int)by omega) (show 0<=l.every by omega)
 have hdl:((l.picks.length:Int)).tdiv l.every<=200:=by
  have:=Int.tdiv_le_self (a:=(l.picks.length:Int)) l.every (by omega)
  omega
 have hw1:IntKind.i64.wrap (((l.picks.length:Int)).tdiv l.every)=((l.picks.length:Int)).tdiv l.every:=aW (by omega)
 have hw2:IntKind.i64.wrap (((l.picks.length:Int)).tdiv l.every+1)=((l.picks.length:Int)).tdiv l.every+1:=aW (by omega)
 by_cases h4:(l.marks.length:Int)=((l.picks.length:Int)).tdiv l.every+1
 case neg=>
  have d4:decide ((l.marks.length:Int)=((l.picks.length:Int)).tdiv l.every+1)=false:=D_f h4;rw[hnb (b:=false) (by simp only[aEu,d4,bP8,bRq,bP3,bQq])]
  simp only[go_sem,kK,bPr,d1,d2,d3,hz,hw1,hw2,d4,kF]
 have d4:decide ((l.marks.length:Int)=((l.picks.length:Int)).tdiv l.every+1)=true:=D_t h4;have hm:Few l.marks.length:=hl.2.1;have hall:aEu p l=l.marks.all (bY p):=by simp only[aEu,d1,d2,d3,d4,bP3,Bool.or_self,bP8,bQn]
 rw[hall];simp only[go_sem,kK,bPr,d1,d2,d3,hz,hw1,hw2,d4,kF]
 refine bQ (l.marks.length) (fun k st=> ∃fr en cnt,st=⟨fr,en,cnt⟩/\ (fr 2= .ptr ⟨0,2,0⟩ 0)/\ (en ⟨0,2,0⟩=some (.box p.cs false))/\ (fr 3= .ptr ⟨0,3,0⟩ 0)/\ (en ⟨0,3,0⟩=some (.box l.cs false))/\ (fr 35= .fz (l.marks.map aA.enc))/\ (fr 36= .i l.marks.length)/\ (fr 37= .i k)/\ ((l.marks.take k).all (bY p)=true)) 0 (bPx _) ⟨_,_,_,rfl,(by first|(simp only[go_sem];(try rfl);done)|rfl|(simp;done)),(by first|(simp only[go_sem];(try rfl);done)|rfl|(simp;done)),(by first|(simp only[go_sem];(try rfl);done)|rfl|(simp;done)),(by first|(simp only[go_sem];(try rfl);done)|rfl|(simp;done)),(by first|(simp only[go_sem];(try rfl);done)|rfl|(simp;done)),(by first|(simp only[go_sem];(try rfl);done)|rfl|(simp;done)),(by first|(simp only[go_sem];(try rfl);done)|rfl|(simp;done)),(by first|(simp only[go_sem];(try rfl);done)|rfl|(simp;done))⟩ ?_
 rintro k st hk ⟨fr,en,cnt,rfl,h2,e2,h3,e3,h35,h36,h37,hA⟩
 simp only[go_sem,kK,h36,h37]
 refine aG (fun hq=>?_) (fun hq=>?_)
 ·have h':k<l.marks.length:=D_o hq;have hia:=fun en=>sB (l:=l) (en:=en) h'
  have hC:=aDw p l.marks[k] hp (hl.2.2 _ (bPz h')) hsp;cases hg:bY p l.marks[k]with
  |false=>
   rw[hg]at hC;have hna:l.marks.all (bY p)=false:=by
    rw[List.all_eq_false];exact⟨_,bPz h',by rw[hg];decide⟩
   rw[hna];simp only[go_sem,kK,h2,e2,h35,h37,h',hia,hC.ret,kF]
  |true=>
   rw[hg]at hC;simp only[go_sem,kK,h2,e2,h35,h37,h',hia,hC.ret,if_true,kF]
   refine⟨_,_,_,rfl,?_⟩
   simp only[go_sem,h2,e2,h3,e3,h35,h36,aT h' hm];rw[gZ h',List.all_append,hA,bQn,bR3,List.all_nil,hg];rfl
 ·have:k=l.marks.length:=by simp at hq;omega
  subst this;rw[bQ6]at hA;rw[hA];simp only[go_sem,if_true]
theorem aO5 (n:Nat)(he:1<=aL l)(hn:n<=1000000)(hev:l.every=(aL l:Int)):PC L 107 [(ply p l),.i (n:Int)] (.bool (decide (n%aL l=0))):=by
 have h0: ¬((aL l:Int)=0):=by omega
 have e:((n:Int)).tmod (aL l:Int)=((n%aL l:Nat):Int):=by
  rw[bTc (by omega)];omega
 have d:decide (((n%aL l:Nat):Int)=0)=decide (n%aL l=0):=decide_eq_decide.2 (by omega)
 have hL:=at_ func107
 conv at hL=>rhs;reduce
 refine aI hL rfl rfl ?_
 simp only[go_sem,kK,hev,h0,e,d]
end Go.Proofs.YtmnchlhngpdffaaGreat

