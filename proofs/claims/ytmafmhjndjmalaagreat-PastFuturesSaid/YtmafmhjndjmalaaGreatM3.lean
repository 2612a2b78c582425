/- Contracts of functions of the program and of the document: part 3. -/
import Derived.Test.YtmafmhjndjmalaaGreatM2
import Derived.Test.YtmafmhjndjmalaaGreatM1
set_option linter.all false
open Bool renaming and_eq_true -> bSw, false_and -> bTk, false_eq_true -> bS0, not_false -> bTf, not_true -> bS6, or_true -> bUz, true_and -> bTo
open Int renaming eq_ofNat_of_zero_le -> bTs, natCast_nonneg -> bVm, toNat_natCast -> bTt
open List renaming all_cons -> bVd, all_eq_true -> bS5, append_nil -> bT1, drop_length -> bUo, getD_eq_getElem?_getD -> bSz, getElem?_append_left -> bUy, getElem?_eq_getElem -> bTy, getElem?_set_ne -> bWc, getElem_mem -> bS7, length_append -> bTg, length_cons -> bS8, length_map -> bSy, length_nil -> bTd, length_pos_iff -> bV1, length_set -> bUs, length_take -> bT3, map_append -> bT0, map_nil -> bTe, map_set -> bVe, map_take -> bUd, mem_map -> bTu, mem_of_mem_take -> bVf, nil_append -> bT4, prefix_refl -> bUp, range_succ -> bV4, replicate_succ -> bUi, replicate_zero -> bUh, take_length -> bUf, take_of_length_le -> bTh, take_succ_cons -> bS3, take_zero -> bS2
open Nat renaming add_assoc -> bU5, add_zero -> bUk, div_le_div_right -> bWe, div_mul_le_self -> bWd, dvd_of_mod_eq_zero -> bV5, le_refl -> bSx, le_trans -> bS9, lt_of_lt_of_le -> bTm, zero_add -> bTw, zero_le -> bS4
namespace Go.Proofs.YtmafmhjndjmalaaGreat
open Go.Abs Go.Proofs Tryz
set_option maxRecDepth 100000
set_option maxHeartbeats 4000000
variable {en:En}{k t i:Nat}{l:List aB}{K P v:Val}{f0:aB}{nd:aL}{a:Int}{p:aD}{w:aA}
section
variable {kt kr:Key}{cnt:Nat->Nat->Nat}{w0:aA}{S:Nat->Prop}{left:List aB}{f:aB}{n:aL}{back:List aE}{bv:Val}
theorem aD1 (h:k<l.length):mH 3 en (.fz (l.map aB.enc)) (.i (k:Int))=some {v:= .fp [.i (l.getD k dJ).node,.fz ((l.getD k dJ).env.map aE.enc),.fz ((l.getD k dJ).vals.map aE.enc)] 0}:=by
 have e:l.getD k dJ=l[k]:=by simp[bSz,h]
 rw[e];simp[mH,h,aB.enc];exact⟨rfl,rfl⟩
theorem bEd (v:aE)(h:0<l.length):aCu l v=l.take (l.length-1)++[⟨(l.getD (l.length-1) dJ).node,(l.getD (l.length-1) dJ).env,(l.getD (l.length-1) dJ).vals++[v]⟩]:=by
 unfold aCu;generalize (⟨(l.getD (l.length-1) dJ).node,(l.getD (l.length-1) dJ).env,(l.getD (l.length-1) dJ).vals++[v]⟩:aB)=x;rw[List.set_eq_take_append_cons_drop,if_pos (by omega),Nat.sub_add_cancel (by omega),bUo]
def aJ4 (p:aD)(w:aA)(a:Int)(o:aP):OpR:=
 if o.vals.length=0 then
  (if(((o.frames.getD (o.frames.length-1) dJ).vals.length:Nat):Int)<(p.node (o.frames.getD (o.frames.length-1) dJ).node).asks then
   oY w o.frames [⟨pK (p.node (o.frames.getD (o.frames.length-1) dJ).node) (o.frames.getD (o.frames.length-1) dJ).vals.length,(o.frames.getD (o.frames.length-1) dJ).env,[]⟩]
  else opR p w a (o.frames.take (o.frames.length-1)) (o.frames.getD (o.frames.length-1) dJ) (p.node (o.frames.getD (o.frames.length-1) dJ).node))
 else .go none w (aCu o.frames (aF o.vals 0)) []
def aYy (kt kr:Key)(en:En)(cnt:Nat->Nat->Nat)(p:aD)(w:aA)(a:Int)(o:aP):OpR->Prop
 | .go ev w' left' back=>WIn L (.fn 171 [] []) [.ptr kt 0,.agg [.i o.form,.i o.n,.fz (o.vals.map aE.enc),.fz (o.frames.map aB.enc)]] en cnt fun r en' cnt'=>r=aQk ev/\ (∃f' n' bv',TS kt kr en' cnt' p w' a left' f' n' back bv')/\ eC kt kr en cnt en' cnt'
 | .wait=>WIn L (.fn 171 [] []) [.ptr kt 0,.agg [.i o.form,.i o.n,.fz (o.vals.map aE.enc),.fz (o.frames.map aB.enc)]] en cnt fun r en' cnt'=>r=aYm/\ (∃left' f' n' back' bv',TS kt kr en' cnt' p w a left' f' n' back' bv')/\ eC kt kr en cnt en' cnt'
 | .fail s=>xI L 171 [.ptr kt 0,.agg [.i o.form,.i o.n,.fz (o.vals.map aE.enc),.fz (o.frames.map aB.enc)]] en cnt (pY kt kr en cnt p s)
def tQ :aL:=⟨0,0,[],[]⟩
theorem aXr (h:TB kt kr en cnt p w a tQ K P){o:aP}(hv:o.vals.length=1)(hf0:0<o.frames.length)(hf:o.frames.length<=40)(hfv:(o.frames.getD (o.frames.length-1) dJ).vals.length<=1000):
  aYy kt kr en cnt p w a o (.go none w (aCu o.frames (aF o.vals 0)) []):=by
 have H:=h.pre;have ht:=h.t;have hr:=h.r;have hw1:IntKind.i64.wrap ((o.frames.length:Int)-1)=((o.frames.length-1:Nat):Int):=by rw[aV (by omega)];omega
 have dv:decide ((0:Int)<(o.vals.length:Int))=true:=D_t (by omega)
 have hLz:=at_ func171
 conv at hLz=>rhs;reduce
 refine dP hLz rfl rfl ?_
 have hia:=fun en=>aD1 (l:=o.frames) (en:=en) (k:=o.frames.length-1) (by omega)
 have hsh:=fun en=>yR (size:=3) (xs:=o.frames.map aB.enc) (en:=en) (k:=o.frames.length-1) (by rw[bSy];omega)
 have hv0:0<o.vals.length:=by omega
 simp only[go_sem,kK,bSy,hw1,dv,hia];rw[bEd _ hf0];generalize o.frames.getD (o.frames.length-1) dJ=f0 at hia hfv⊢;have u1: ∀t,cnt 0 t<=aC (aC cnt 0 3 (cnt 0 3+1)) 0 6 (cnt 0 6+1) 0 t:=(by(repeat refine upS ?_ (by omega));exact aO _)
 have b1:TB kt kr (((en.set ⟨0,3,cnt 0 3⟩ (some (.box [.i o.form,.i o.n,.fz (o.vals.map aE.enc),.fz (o.frames.map aB.enc)] false))).set ⟨0,6,cnt 0 6⟩ (some (.box [.i 0,.cl [],.cl []] false))).set ⟨0,6,cnt 0 6⟩ (some (.box [.i f0.node,.fz (f0.env.map aE.enc),.fz (f0.vals.map aE.enc)] false))) (aC (aC cnt 0 3 (cnt 0 3+1)) 0 6 (cnt 0 6+1)) p w a tQ K P:=
  ⟨h.okt.up u1,h.okr.up u1,h.ne,h.hK,h.hP,by simp only[H];exact ht,by simp only[H];exact hr⟩
 refine bS ?_
 simp only[go_sem,hsh]
 refine(vE b1 (l:=o.frames.take (o.frames.length-1)) (.inl (by rw[bUd])) (by rw[bT3];omega)).mono ?_
 rintro v e1 c1 ⟨rfl,⟨bv1,t1⟩,k1⟩
 obtain⟨p3,q3⟩:=k1.loc (d:=3) (g:=cnt 0 3) (by simp[aC]) h.okt.ne.symm h.okr.ne.symm
 obtain⟨p6,q6⟩:=k1.loc (d:=6) (g:=cnt 0 6) (by simp[aC]) h.okt.ne.symm h.okr.ne.symm
 simp only[go_sem]at p3 p6
 try simp only[go_sem,kK]
 refine jY ?_
 have ht1:=t1.t;have hl:f0.vals.length+1<=16777216:=by omega
 simp only[go_sem,kB,p3,p6,(aCv _).ret,aT hv0,bW,eP,wQ,uO,aDs,hl,bSy,tN,kA,kF];have hA:f0.vals.map aE.enc++[.agg [.i (aF o.vals 0).kind,.i (aF o.vals 0).n]]=(f0.vals++[aF o.vals 0]).map aE.enc:=by simp[aE.enc]
 have hL:f0.vals.length+1=(f0.vals++[aF o.vals 0]).length:=by simp
 generalize hvv:f0.vals++[aF o.vals 0]=vv at hA hL⊢;simp only[hA,hL];have hT:List.take vv.length (vv.map aE.enc)=vv.map aE.enc:=by rw[bTh (by simp)]
 simp only[go_sem,bSy,bTw,bSx,hT];obtain⟨⟨bv2,t2⟩,k2⟩:=t1.stay (cnt':=aC c1 0 41 (c1 0 41+1)) (en':=(e1.set ⟨0,41,c1 0 41⟩ (some (.blk 2 (vv.map aE.enc) (!(f0.vals.map aE.enc).isEmpty)))).set ⟨0,41,c1 0 41⟩ (some (.blk 2 (vv.map aE.enc) true))) (fun k hk=>by simp only[hk.set]) (by(repeat refine upS ?_ (by omega));exact aO _)
 refine(aGw t2 (l:=[⟨f0.node,f0.env,vv⟩]) (.inr rfl) (by simp only[bT3,bS8,bTd];omega)).mono ?_
 rintro v e3 c3 ⟨_,⟨bv3,t3⟩,k3⟩
 have k0:eC kt kr en cnt e1 c1:=⟨fun x hx y1 y2=>by rw[k1.old x (hx.up u1) y1 y2];simp only[hx.set],fun t=>bS9 (u1 t) (k1.up t)⟩
 exact⟨rfl,⟨_,_,bv3,t3⟩,(k0.trans k2).trans k3⟩
theorem bEe (h:TB kt kr en cnt p w a tQ K P){o:aP}(hv:o.vals.length=0)(hf0:0<o.frames.length)(hf:o.frames.length<=40)(hff:o.frames.getD (o.frames.length-1) dJ=f0)(hni:inR f0.node 0 ((p.nodes.length:Int)-1)=true)
   (hnd:p.node f0.node=nd) (hk:(f0.vals.length:Int)<nd.asks) (hkl:f0.vals.length<nd.kids.length):
  aYy kt kr en cnt p w a o (oY w o.frames [⟨pK nd f0.vals.length,f0.env,[]⟩]):=by
 have H:=h.pre;have hn:=h.ne;have ht:=h.t;have hr:=h.r;have hw1:IntKind.i64.wrap ((o.frames.length:Int)-1)=((o.frames.length-1:Nat):Int):=by rw[aV (by omega)];omega
 have dv:decide ((0:Int)<(o.vals.length:Int))=false:=D_f (by omega)
 have hia:=fun en=>aD1 (l:=o.frames) (en:=en) (k:=o.frames.length-1) (by omega)
 rw[hff]at hia;have hin:=fun en=>bM (k:= .i64) (p:=p) (en:=en) hni
 rw[hnd]at hin;have dk:decide ((f0.vals.length:Int)<nd.asks)=true:=D_t hk;have hA:=uN nd;have u1: ∀t,cnt 0 t<=aC (aC cnt 0 3 (cnt 0 3+1)) 0 7 (cnt 0 7+1) 0 t:=(by(repeat refine upS ?_ (by omega));exact aO _)
 have b1:TB kt kr ((((en.set ⟨0,3,cnt 0 3⟩ (some (.box [.i o.form,.i o.n,.fz (o.vals.map aE.enc),.fz (o.frames.map aB.enc)] false))).set ⟨0,7,cnt 0 7⟩ (some (.box [.i 0,.cl [],.cl []] false))).set ⟨0,7,cnt 0 7⟩ (some (.box [.i f0.node,.fz (f0.env.map aE.enc),.fz (f0.vals.map aE.enc)] false))).set kt (some (.box [.ptr kr 0,.i a,.cl [],.i 0,.cl [],.cl [],.i nd.op,.i nd.n,.is nd.kids,.fz (nd.pats.map Pat.enc),.cl []] false))) (aC (aC cnt 0 3 (cnt 0 3+1)) 0 7 (cnt 0 7+1)) p w a nd (.is nd.kids) (.fz (nd.pats.map Pat.enc)):=
  ⟨h.okt.up u1,h.okr.up u1,h.ne,.inl rfl,.inl rfl,cM,by rw[aK hn];simp only[H];exact hr⟩
 unfold oY
 by_cases hc:40<(o.frames++[(⟨pK nd f0.vals.length,f0.env,[]⟩:aB)]).length
 ·rw[if_pos hc];simp only[bTg,bS8,bTd]at hc
  refine lK func171 ?_
  simp only[go_sem,kK,H,bSy,hw1,dv,hia,ht,hr,hin,hA.ret,dk]
  refine bS ?_
  simp only[go_sem,H]
  refine(vE b1 (l:=o.frames) (.inl rfl) (by omega)).mono ?_
  rintro v e1 c1 ⟨rfl,⟨bv1,t1⟩,k1⟩
  obtain⟨p7,q7⟩:=k1.loc (d:=7) (g:=cnt 0 7) (by simp[aC]) h.okt.ne.symm h.okr.ne.symm
  rw[aK h.okt.ne.symm,cM]at p7
  try simp only[go_sem,kK]
  have k0:eC kt kr en cnt e1 c1:=⟨fun x hx y1 y2=>by rw[k1.old x (hx.up u1) y1 y2,aK y1];simp only[hx.set],fun t=>bS9 (u1 t) (k1.up t)⟩
  refine cR 4 rfl ?_
  simp only[go_sem,bS3,bS2,p7];exact(zT t1 (i:=f0.vals.length) (env:=f0.env) hkl (.inl rfl) (by omega)).mono fun _ _ _=>pY.then k0
 ·rw[if_neg hc];simp only[bTg,bS8,bTd]at hc
  refine jB func171 ?_
  simp only[go_sem,kK,H,bSy,hw1,dv,hia,ht,hr,hin,hA.ret,dk]
  refine bS ?_
  simp only[go_sem,H]
  refine(vE b1 (l:=o.frames) (.inl rfl) (by omega)).mono ?_
  rintro v e1 c1 ⟨rfl,⟨bv1,t1⟩,k1⟩
  obtain⟨p7,q7⟩:=k1.loc (d:=7) (g:=cnt 0 7) (by simp[aC]) h.okt.ne.symm h.okr.ne.symm
  rw[aK h.okt.ne.symm,cM]at p7
  try simp only[go_sem,kK]
  have k0:eC kt kr en cnt e1 c1:=⟨fun x hx y1 y2=>by rw[k1.old x (hx.up u1) y1 y2,aK y1];simp only[hx.set],fun t=>bS9 (u1 t) (k1.up t)⟩
  refine bS ?_
  simp only[go_sem,p7]
  refine(zS t1 (i:=f0.vals.length) (env:=f0.env) hkl (.inl rfl) (by omega)).mono ?_
  rintro v e2 c2 ⟨rfl,⟨bv2,t2⟩,k2⟩
  exact⟨rfl,⟨_,_,bv2,t2⟩,k0.trans k2⟩
def bIf (agg:Bool)(len size:Nat)(x i:Val):Option Res:=match x,i with
 | .agg cs,.int _ j=>if 0<=j/\ j<len/\ j.toNat*size+size<=cs.length then(jH agg ((cs.drop (j.toNat*size)).take size)).map fun v=>{v}else none
 |_,_=>none
theorem aXs {d g:Nat}{get:Opd->Val}{agg:Bool}{len size:Nat}{x i:Opd}:dG d g en get (.ixa agg len size x i)=bIf agg len size (get x) (get i):=(rfl)
theorem bG6 {op:Int}(h1:1<=op)(h2:op<=28):bIf false 29 1 (.agg bKb) (.i op)=some {v:= .fn (pL.getD (op.toNat-1) 0) [] []}:=by
 have ho:op=1 \/op=2 \/op=3 \/op=4 \/op=5 \/op=6 \/op=7 \/op=8 \/op=9 \/op=10 \/op=11 \/op=12 \/op=13 \/op=14 \/op=15 \/op=16 \/op=17 \/op=18 \/op=19 \/op=20 \/op=21 \/op=22 \/op=23 \/op=24 \/op=25 \/op=26 \/op=27 \/op=28:=by omega
 rcases ho with rfl|rfl|rfl|rfl|rfl|rfl|rfl|rfl|rfl|rfl|rfl|rfl|rfl|rfl|rfl|rfl|rfl|rfl|rfl|rfl|rfl|rfl|rfl|rfl|rfl|rfl|rfl|rfl<;>rfl
theorem bG7 (h:TB kt kr en cnt p w a tQ K P){o:aP}(hv:o.vals.length=0)(hf0:0<o.frames.length)(hf:o.frames.length<=40)(hff:o.frames.getD (o.frames.length-1) dJ=f0)
   (P0:Pre p w0 S w a (o.frames.take (o.frames.length-1)) f0 nd):
  aYy kt kr en cnt p w a o (opR p w a (o.frames.take (o.frames.length-1)) f0 nd):=by
 have H:=h.pre;have hn:=h.ne;have ht:=h.t;have hr:=h.r;have hni:=fX P0.hf;have hnd:=P0.hn;have hw1:IntKind.i64.wrap ((o.frames.length:Int)-1)=((o.frames.length-1:Nat):Int):=by rw[aV (by omega)];omega
 have dv:decide ((0:Int)<(o.vals.length:Int))=false:=D_f (by omega)
 have hia:=fun en=>aD1 (l:=o.frames) (en:=en) (k:=o.frames.length-1) (by omega)
 have hsh:=fun en=>yR (size:=3) (xs:=o.frames.map aB.enc) (en:=en) (k:=o.frames.length-1) (by rw[bSy];omega)
 rw[hff]at hia;have hin:=fun en=>bM (k:= .i64) (p:=p) (en:=en) hni
 rw[hnd]at hin;have dk:decide ((f0.vals.length:Int)<nd.asks)=false:=D_f (by have:=P0.full;omega)
 have hA:=uN nd;have hO:=aO7;obtain⟨c1,c2⟩:=aNr P0.node;have hix:=bG6 c1 c2;have u1: ∀t,cnt 0 t<=aC (aC cnt 0 3 (cnt 0 3+1)) 0 7 (cnt 0 7+1) 0 t:=(by(repeat refine upS ?_ (by omega));exact aO _)
 have b1:TB kt kr ((((en.set ⟨0,3,cnt 0 3⟩ (some (.box [.i o.form,.i o.n,.fz (o.vals.map aE.enc),.fz (o.frames.map aB.enc)] false))).set ⟨0,7,cnt 0 7⟩ (some (.box [.i 0,.cl [],.cl []] false))).set ⟨0,7,cnt 0 7⟩ (some (.box [.i f0.node,.fz (f0.env.map aE.enc),.fz (f0.vals.map aE.enc)] false))).set kt (some (.box [.ptr kr 0,.i a,.cl [],.i 0,.cl [],.cl [],.i nd.op,.i nd.n,.is nd.kids,.fz (nd.pats.map Pat.enc),.cl []] false))) (aC (aC cnt 0 3 (cnt 0 3+1)) 0 7 (cnt 0 7+1)) p w a nd (.is nd.kids) (.fz (nd.pats.map Pat.enc)):=
  ⟨h.okt.up u1,h.okr.up u1,h.ne,.inl rfl,.inl rfl,cM,by rw[aK hn];simp only[H];exact hr⟩
 have does:=fun(e2:En) (c2:Nat->Nat->Nat) (bv:Val) (h2:TS kt kr e2 c2 p w a (o.frames.take (o.frames.length-1)) f0 nd [] bv)=>bEc P0 h2
 generalize opR p w a (o.frames.take (o.frames.length-1)) f0 nd=R at does⊢;generalize pL.getD (nd.op.toNat-1) 0=fn at does hix;cases R with
 |go ev w' left' back'=>
  refine jB func171 ?_
  simp only[go_sem,kK,H,bSy,hw1,dv,hia,ht,hr,hin,hA.ret,dk]
  refine bS ?_
  simp only[go_sem,H,hsh]
  refine(vE b1 (l:=o.frames.take (o.frames.length-1)) (.inl (by rw[bUd])) (by rw[bT3];omega)).mono ?_
  rintro v e1 c1 ⟨rfl,⟨bv1,t1⟩,k1⟩
  obtain⟨p7,q7⟩:=k1.loc (d:=7) (g:=cnt 0 7) (by simp[aC]) h.okt.ne.symm h.okr.ne.symm
  rw[aK h.okt.ne.symm,cM]at p7
  try simp only[go_sem,kK]
  have k0:eC kt kr en cnt e1 c1:=⟨fun x hx y1 y2=>by rw[k1.old x (hx.up u1) y1 y2,aK y1];simp only[hx.set],fun t=>bS9 (u1 t) (k1.up t)⟩
  have ht1:=t1.t;simp only[go_sem,p7,ht1];have t2:TS kt kr (e1.set kt (some (.box [.ptr kr 0,.i a,.fz ((o.frames.take (o.frames.length-1)).map aB.enc),.i f0.node,.fz (f0.env.map aE.enc),.fz (f0.vals.map aE.enc),.i nd.op,.i nd.n,.is nd.kids,.fz (nd.pats.map Pat.enc),bv1] false))) c1 p w a (o.frames.take (o.frames.length-1)) f0 nd [] bv1:=⟨t1.okt,t1.okr,t1.ne,t1.ob,cM,by rw[aK hn];exact t1.r⟩
  have k2:eC kt kr en cnt (e1.set kt (some (.box [.ptr kr 0,.i a,.fz ((o.frames.take (o.frames.length-1)).map aB.enc),.i f0.node,.fz (f0.env.map aE.enc),.fz (f0.vals.map aE.enc),.i nd.op,.i nd.n,.is nd.kids,.fz (nd.pats.map Pat.enc),bv1] false))) c1:=⟨fun x hx y1 y2=>by rw[aK y1];exact k0.old x hx y1 y2,k0.up⟩
  have t2t:=t2.t
  refine jY ?_
  simp only[go_sem,hO.ret,t2t,hix,aXs,kA,kF]
  refine(does _ _ _ t2).mono ?_
  rintro v e3 c3 ⟨rfl,⟨bv3,t3⟩,k3⟩
  simp only[go_sem];exact⟨⟨_,_,bv3,t3⟩,k2.trans k3⟩
 |wait=>
  refine jB func171 ?_
  simp only[go_sem,kK,H,bSy,hw1,dv,hia,ht,hr,hin,hA.ret,dk]
  refine bS ?_
  simp only[go_sem,H,hsh]
  refine(vE b1 (l:=o.frames.take (o.frames.length-1)) (.inl (by rw[bUd])) (by rw[bT3];omega)).mono ?_
  rintro v e1 c1 ⟨rfl,⟨bv1,t1⟩,k1⟩
  obtain⟨p7,q7⟩:=k1.loc (d:=7) (g:=cnt 0 7) (by simp[aC]) h.okt.ne.symm h.okr.ne.symm
  rw[aK h.okt.ne.symm,cM]at p7
  try simp only[go_sem,kK]
  have k0:eC kt kr en cnt e1 c1:=⟨fun x hx y1 y2=>by rw[k1.old x (hx.up u1) y1 y2,aK y1];simp only[hx.set],fun t=>bS9 (u1 t) (k1.up t)⟩
  have ht1:=t1.t;simp only[go_sem,p7,ht1];have t2:TS kt kr (e1.set kt (some (.box [.ptr kr 0,.i a,.fz ((o.frames.take (o.frames.length-1)).map aB.enc),.i f0.node,.fz (f0.env.map aE.enc),.fz (f0.vals.map aE.enc),.i nd.op,.i nd.n,.is nd.kids,.fz (nd.pats.map Pat.enc),bv1] false))) c1 p w a (o.frames.take (o.frames.length-1)) f0 nd [] bv1:=⟨t1.okt,t1.okr,t1.ne,t1.ob,cM,by rw[aK hn];exact t1.r⟩
  have k2:eC kt kr en cnt (e1.set kt (some (.box [.ptr kr 0,.i a,.fz ((o.frames.take (o.frames.length-1)).map aB.enc),.i f0.node,.fz (f0.env.map aE.enc),.fz (f0.vals.map aE.enc),.i nd.op,.i nd.n,.is nd.kids,.fz (nd.pats.map Pat.enc),bv1] false))) c1:=⟨fun x hx y1 y2=>by rw[aK y1];exact k0.old x hx y1 y2,k0.up⟩
  have t2t:=t2.t
  refine jY ?_
  simp only[go_sem,hO.ret,t2t,hix,aXs,kA,kF]
  refine(does _ _ _ t2).mono ?_
  rintro v e3 c3 ⟨rfl,⟨bv3,t3⟩,k3⟩
  simp only[go_sem];exact⟨⟨_,_,_,_,bv3,t3⟩,k2.trans k3⟩
 |fail s=>
  refine lK func171 ?_
  simp only[go_sem,kK,H,bSy,hw1,dv,hia,ht,hr,hin,hA.ret,dk]
  refine bS ?_
  simp only[go_sem,H,hsh]
  refine(vE b1 (l:=o.frames.take (o.frames.length-1)) (.inl (by rw[bUd])) (by rw[bT3];omega)).mono ?_
  rintro v e1 c1 ⟨rfl,⟨bv1,t1⟩,k1⟩
  obtain⟨p7,q7⟩:=k1.loc (d:=7) (g:=cnt 0 7) (by simp[aC]) h.okt.ne.symm h.okr.ne.symm
  rw[aK h.okt.ne.symm,cM]at p7
  try simp only[go_sem,kK]
  have k0:eC kt kr en cnt e1 c1:=⟨fun x hx y1 y2=>by rw[k1.old x (hx.up u1) y1 y2,aK y1];simp only[hx.set],fun t=>bS9 (u1 t) (k1.up t)⟩
  have ht1:=t1.t;simp only[go_sem,p7,ht1];have t2:TS kt kr (e1.set kt (some (.box [.ptr kr 0,.i a,.fz ((o.frames.take (o.frames.length-1)).map aB.enc),.i f0.node,.fz (f0.env.map aE.enc),.fz (f0.vals.map aE.enc),.i nd.op,.i nd.n,.is nd.kids,.fz (nd.pats.map Pat.enc),bv1] false))) c1 p w a (o.frames.take (o.frames.length-1)) f0 nd [] bv1:=⟨t1.okt,t1.okr,t1.ne,t1.ob,cM,by rw[aK hn];exact t1.r⟩
  have k2:eC kt kr en cnt (e1.set kt (some (.box [.ptr kr 0,.i a,.fz ((o.frames.take (o.frames.length-1)).map aB.enc),.i f0.node,.fz (f0.env.map aE.enc),.fz (f0.vals.map aE.enc),.i nd.op,.i nd.n,.is nd.kids,.fz (nd.pats.map Pat.enc),bv1] false))) c1:=⟨fun x hx y1 y2=>by rw[aK y1];exact k0.old x hx y1 y2,k0.up⟩
  have t2t:=t2.t
  refine mN 8 rfl rfl ?_
  simp only[go_sem,bS3,bS2,bUi,bUh,tE,hO.ret,t2t,hix,aXs,kA,kF];exact⟨rfl,(does _ _ _ t2).mono fun _ _ _=>pY.then k2⟩
structure RS (kr:Key) (en:En) (cnt:Nat->Nat->Nat) (p:aD) (w:aA):Prop where
 okr:Old kr cnt
 r:en kr=some (.box [.fz (p.nodes.map aL.enc),.is p.funs,.i p.main,.fz (p.cons.map dC.enc),.fz (w.objs.map aP.enc),.is w.tasks,.fz (w.outs.map bO.enc),.is w.ins,.i w.used] false)
theorem TS.rs (h:TS kt kr en cnt p w a left f n back bv):RS kr en cnt p w:=⟨h.okr,h.r⟩
theorem RS.to {en':En}{cnt':Nat->Nat->Nat}(h:RS kr en cnt p w)(hr:en' kr=en kr)(hu: ∀t,cnt 0 t<=cnt' 0 t):RS kr en' cnt' p w:=⟨h.okr.up hu,by rw[hr];exact h.r⟩
theorem bM7 (h:RS kr en cnt p w){w':aA}{O:Val}{K1:List Key}{E:En}{c:Nat->Nat->Nat}(hT:w'.tasks=w.tasks)(hU:w'.outs=w.outs)(hI:w'.ins=w.ins)(hus:w'.used=w.used)
  (hr:E kr=some (.box [.fz (p.nodes.map aL.enc),.is p.funs,.i p.main,.fz (p.cons.map dC.enc),O,.is w.tasks,.fz (w.outs.map bO.enc),.is w.ins,.i w.used] false))
  (hO:cU E O=some (.fz (w'.objs.map aP.enc),K1)) (hK: ∀k∈K1,∃d,k=⟨0,d,cnt 0 d⟩) (hk: ∀k,Old k cnt->k≠kr->E k=en k) (hu: ∀t,cnt 0 t<=c 0 t):
  match pB (.ptr kr 0) [[]] E with
  |some en'=>RS kr en' c p w'/\ eC kr kr en cnt en' c
  |none=>False:=by
 have hkn:kr∉K1++([]++([]++[])):=fun hm=>by
  simp only[bT1]at hm;obtain⟨d,e⟩:=hK kr hm;exact h.okr.ne e
 rw[aU8 hr hO rfl rfl rfl hkn];simp only[bT1]
 refine⟨⟨h.okr.up hu,?_⟩,fun k ho k1 _=>?_,hu⟩
 ·rw[cM,hT,hU,hI,hus]
 ·rw[aK k1,xX ho hK];exact hk k ho k1
theorem aA8 (h:RS kr en cnt p w){o:aP}{V FV:Val}(hV:iY V (o.vals.map aE.enc))(hF:iY FV (o.frames.map aB.enc))(ha:inR a 0 ((w.tasks.length:Int)-1)=true)(hr1:inR (aX w a) 0 ((w.objs.length:Int)-1)=true)(hs:w.objs.length<=1000000):
  WIn L (.fn 167 [] []) [.ptr kr 0,.i a,.agg [.i o.form,.i o.n,V,FV]] en cnt fun r en' cnt'=>r= .tup []/\ RS kr en' cnt' p (dD w (aX w a) o)/\ eC kr kr en cnt en' cnt':=by
 have s2:=h.okr.set;have n2:=h.okr.new;have hr:=h.r;have m2:=h.okr.eqF;have o2:=h.okr.eqF';have hia: ∀en,mH 1 en (.fz (w.tasks.map (.int .i64))) (.i a)=some {v:= .fp [.i (aX w a)] 0}:=fun en=>yK ha
 simp only[inR,bWo]at hr1;obtain⟨j,hj⟩:=bTs hr1.1;have hjl:j<w.objs.length:=by omega
 have hl:(w.objs.map aP.enc).length<=16777216:=by rw[bSy];omega
 have hC:=aA4 (w.objs.map aP.enc) (aA3 _) hl;have hne:w.objs.map aP.enc≠[]:=by intro he;have h0:=congrArg List.length he;simp at h0;rw[h0]at hjl;simp at hjl
 rw[qK hne]at hC;have hget:(w.objs.map aP.enc)[j]?=some (aP.enc w.objs[j]):=by simp[hjl]
 have hS:(w.objs.map aP.enc).set j (.agg [.i o.form,.i o.n,.fz (o.vals.map aE.enc),.fz (o.frames.map aB.enc)])=(dD w (aX w a) o).objs.map aP.enc:=by simp[dD,bVe,aP.enc,hj]
 have hSl:w.objs.length=((dD w (aX w a) o).objs.map aP.enc).length:=by simp[dD]
 have hL:=at_ func167
 conv at hL=>rhs;reduce
 refine sU hL rfl rfl ?_
 simp only[go_sem,kK,s2];rcases hV with rfl|rfl<;>rcases hF with rfl|rfl<;>
 (simp only[go_sem,hr,s2,n2,kB,hC.ret,hget,hia,hj,hjl,bSy,fG,bVm,bTt,kF]
  rw[hj]at hS hSl;rw[hS];exact bM7 h (w':=dD w (j:Int) o) rfl rfl rfl rfl (by rw[aK h.okr.ne,cM]) (uP cM hSl) (fun k hk=>⟨12,by simpa using hk⟩) (fun k ho k1=>by simp only[ho.set,aK k1]) (by(repeat refine upS ?_ (by omega));exact aO _))
structure SB (kr:Key) (en:En) (w:aA) (a:Int) (g2 g3 g4 g6:Nat) (e:Val):Prop where
 b2:en ⟨0,2,g2⟩=some (.box [.ptr kr 0] false)
 b3:en ⟨0,3,g3⟩=some (.box [.i a] false)
 b4:en ⟨0,4,g4⟩=some (.box [e] false)
 b6:en ⟨0,6,g6⟩=some (.box [.fz (w.objs.map aP.enc),.is w.tasks,.fz (w.outs.map bO.enc),.is w.ins,.i w.used] false)
theorem yB :(Val.ifc t v).one=true:=(rfl)
theorem qO :(Val.ifc t v).cells=[.ifc t v]:=(rfl)
theorem bG8 {k:Key}:(Val.ptr k i).one=true:=(rfl)
theorem bA8 {k:Key}:(Val.ptr k i).cells=[.ptr k i]:=(rfl)
theorem aXt :cW .neq .iface .nili .nili=some (.bool false):=(rfl)
theorem bKc :cW .neq .iface (.ifc t v) .nili=some (.bool true):=(rfl)
theorem bEf (n0:(w.obj (aX w a)).n=0)(hf:0<(w.obj (aX w a)).frames.length)(hv:(w.obj (aX w a)).vals.length<=1)(he: ∀f∈(w.obj (aX w a)).frames,f.env.length<=30)(ha:inR a 0 ((w.tasks.length:Int)-1)=true):
  aM p w a=(aJ4 p w a (w.obj (aX w a))).did w a:=by
 unfold aM aJ4
 simp only
 generalize w.obj (aX w a)=o at n0 hf hv he;rw[if_neg (fun h=>h n0)]
 by_cases h1:o.vals.length=1
 ·rw[if_pos h1,if_neg (by omega),if_neg (by omega)]
  rfl
 ·have hz:o.vals.length=0:=by omega
  rw[if_neg h1,if_pos hz];have hm:o.frames.getD (o.frames.length-1) dJ∈o.frames:=by
   rw[bSz,bTy (by omega)]
   exact bS7 _
  have:=he _ hm;split
  ·rw[pR];unfold iX;rw[if_neg (by omega)]
  ·exact wO ha
theorem aNz (hp:eQ p)(hsp:aU p=true)(hF:cP p w0 S w)(ha:inR a 0 ((w.tasks.length:Int)-1)=true)(n0:(w.obj (aX w a)).n=0)(hf0:0<(w.obj (aX w a)).frames.length)(h:TB kt kr en cnt p w a tQ K P):
  aYy kt kr en cnt p w a (w.obj (aX w a)) (aJ4 p w a (w.obj (aX w a))):=by
 obtain⟨t1,t2,t3⟩:=hF.task ha;have hO:=hF.obj t1 t3;generalize w.obj (aX w a)=o at*;have hk:=hO.ok;rw[dX,if_pos t2,kI,if_pos n0]at hk;simp only[bY,bSw,bWo,bS5,bC]at hk;obtain⟨⟨⟨⟨k1,k2⟩,k3,k4⟩,k5⟩,k6⟩:=hk;have hfo: ∀f∈o.frames,FOk p S w f:=fun f hf=>hO.frames hf
 have hm:o.frames.getD (o.frames.length-1) dJ∈o.frames:=by
  rw[bSz,bTy (by omega)]
  exact bS7 _
 have hfm:=hfo _ hm;have hni:=fX hfm;have hok:=hp.nodes _ (jE hni);have hak:=aIp hok;have hfk:=hfm.ok;have hal:=aSi hsp hni;simp only[dN,bC,bSw,bWo]at hfk;unfold aJ4
 by_cases hv1:o.vals.length=0
 ·rw[if_pos hv1]
  by_cases hop:((o.frames.getD (o.frames.length-1) dJ).vals.length:Int)<(p.node (o.frames.getD (o.frames.length-1) dJ).node).asks
  ·rw[if_pos hop];exact bEe h hv1 hf0 (by omega) rfl hni rfl hop (by omega)
  ·rw[if_neg hop];have hl:LOk p S w (o.frames.take (o.frames.length-1)):=⟨by simp only[bT3];omega,fun f hf=>hfo f (bVf hf),fun f hf=>k6 f (by rw[hv1,bUk];exact hf)⟩
   exact bG7 h hv1 hf0 (by omega) rfl ⟨hp,hsp,hF,ha,hl,hfm,rfl,by omega⟩
 ·rw[if_neg hv1];exact aXr h (by omega) hf0 (by omega) (by omega)
theorem wZ {L:bH}{ts:List Nat}{l:List aN}{f:Opd}{args:List Opd}{b:bB}{st:St}{Q:Ex->St->Prop}(h:jF L l st fun st2=>Wp L b st2 fun e st3=>ts.any (fun t=>(st3.fr t).isUndef)=false/\
   ∃st4,(∃n0,∀n,n0<=n->iS L (exec L n) (St.get st2.fr f) (args.map (St.get st2.fr)) e st3=some st4)/\ Q .ret st4):Wp L (.dfr ts l f args b) st Q:=h
theorem aKr (s:Int):PC L 170 [.agg [.i s]] (.agg [.i 0,.i 0,.i s,.i 0,.i 0]):=by
 refine pcA func170 ?_
 simp only[go_sem,kK]
noncomputable def bG9 :{c//L 169=some c}:=cA func169
theorem aC2 (hp:eQ p)(hsp:aU p=true)(hF:cP p w0 S w)(ha:inR a 0 ((w.tasks.length:Int)-1)=true)(h:RS kr en cnt p w):
  WIn L (.fn 118 [] []) [.ptr kr 0,.i a] en cnt fun r en' cnt'=>r=uB (aM p w a).what (aM p w a).e/\ RS kr en' cnt' p (aM p w a).w/\ eC kr kr en cnt en' cnt':=by
 have s2:=h.okr.set;have n2:=h.okr.new;have hr:=h.r;have m2:=h.okr.eqF;have o2:=h.okr.eqF';obtain⟨t1,t2,t3⟩:=hF.task ha;have hO:=hF.obj t1 t3;have hio:=fun en=>aAt (w:=w) (k:= .i64) (en:=en) t1
 have hia:=fun en=>tP (en:=en) ha
 have hL120:w.objs.length<=120:=(cH.1 hF.ok).1
 by_cases n0:(w.obj (aX w a)).n=0
 ·have d0:decide ((w.obj (aX w a)).n=0)=true:=D_t n0;have hk:=hO.ok;rw[dX,if_pos t2,kI,if_pos n0]at hk;simp only[bY,bSw,bWo,bS5,bC]at hk;obtain⟨⟨⟨⟨k1,k2⟩,k3,k4⟩,k5⟩,k6⟩:=hk
  by_cases hf0:(w.obj (aX w a)).frames.length=0
  ·have hv1:(w.obj (aX w a)).vals.length=1:=by omega
   have df:decide (((w.obj (aX w a)).frames.length:Int)=0)=true:=D_t (by omega)
   have e:aM p w a=⟨dD w (aX w a) ⟨6,1,(w.obj (aX w a)).vals,[]⟩,1,⟨a,0,1,nG (aF (w.obj (aX w a)).vals 0)⟩⟩:=by
    unfold aM;simp only;rw[if_neg (fun h=>h n0),if_pos hv1,if_pos hf0]
    generalize (w.obj (aX w a)).vals=l at hv1
    match l,hv1 with
    |[x],_=>rfl
   rw[e]
   refine jB func118 ?_
   simp only[go_sem,kK,aAs (v:= .ptr kr 0) rfl rfl]
   refine aH ?_
   simp only[go_sem,kK,hr,s2,m2,hia,hio,d0,df,bSy,kA,kF]
   refine WIn.mono (aA8 (h.to (by simp only[s2]) (by(repeat refine upS ?_ (by omega));exact aO _)) (o:=⟨6,1,(w.obj (aX w a)).vals,[]⟩) (.inl rfl) (.inr rfl) ha t1 (by omega)) ?_
   rintro v e1 c1 ⟨rfl,r1,q1⟩
   obtain⟨p3,_⟩:=q1.loc (d:=3) (g:=cnt 0 3) (by simp[aC]) h.okr.ne.symm h.okr.ne.symm
   obtain⟨p4,_⟩:=q1.loc (d:=4) (g:=cnt 0 4) (by simp[aC]) h.okr.ne.symm h.okr.ne.symm
   obtain⟨p5,_⟩:=q1.loc (d:=5) (g:=cnt 0 5) (by simp[aC]) h.okr.ne.symm h.okr.ne.symm
   simp only[go_sem]at p3 p4 p5
   try simp only[go_sem,kK]
   refine aH ?_
   simp only[go_sem,p3,p4,p5,aT (l:=(w.obj (aX w a)).vals) (by omega),(zR _).ret,yB,qO,kA,kF]
   have u1: ∀t,cnt 0 t<=aC (aC (aC (aC cnt 0 2 (cnt 0 2+1)) 0 3 (cnt 0 3+1)) 0 4 (cnt 0 4+1)) 0 5 (cnt 0 5+1) 0 t:=(by(repeat refine upS ?_ (by omega));exact aO _)
   refine⟨rfl,⟨r1.okr,by rw[s2];exact r1.r⟩,⟨fun k hk a b=>by rw[hk.set,q1.old k (hk.up u1) a b];simp only[hk.set],fun t=>bS9 (u1 t) (q1.up t)⟩⟩
  ·have df:decide (((w.obj (aX w a)).frames.length:Int)=0)=false:=D_f (by omega)
   have e:=bEf (p:=p) n0 (by omega) (by omega) (fun f hf=>by have:=(hO.frames hf).ok;simp only[dN,bC,bSw,bWo]at this;omega) ha
   have hfin:=kO hp hF ha;have hfs:=kO hp (aQe hF) ha;rw[e]at hfin hfs⊢;have hgo: ∀{ev:Option fB} {w':aA} {left':List aB} {back':List aE} {en1:En} {cnt1:Nat->Nat->Nat} {kt:Key},aJ4 p w a (w.obj (aX w a))= .go ev w' left' back'->TB kt kr en1 cnt1 p w a tQ (.cl []) (.cl [])->
     WIn L (.fn 171 [] []) [.ptr kt 0,.agg [.i (w.obj (aX w a)).form,.i (w.obj (aX w a)).n,.fz ((w.obj (aX w a)).vals.map aE.enc),.fz ((w.obj (aX w a)).frames.map aB.enc)]] en1 cnt1 fun r en' cnt'=>r=aQk ev/\ (∃f' n' bv',TS kt kr en' cnt' p w' a left' f' n' back' bv')/\ eC kt kr en1 cnt1 en' cnt':=fun hR hB=>by
    have:=aNz hp hsp hF ha n0 (by omega) hB
    rw[hR]at this;exact this
   have hwait: ∀{en1:En} {cnt1:Nat->Nat->Nat} {kt:Key},aJ4 p w a (w.obj (aX w a))= .wait->TB kt kr en1 cnt1 p w a tQ (.cl []) (.cl [])->
     WIn L (.fn 171 [] []) [.ptr kt 0,.agg [.i (w.obj (aX w a)).form,.i (w.obj (aX w a)).n,.fz ((w.obj (aX w a)).vals.map aE.enc),.fz ((w.obj (aX w a)).frames.map aB.enc)]] en1 cnt1 fun r en' cnt'=>r=aYm/\ (∃left' f' n' back' bv',TS kt kr en' cnt' p w a left' f' n' back' bv')/\ eC kt kr en1 cnt1 en' cnt':=fun hR hB=>by
    have:=aNz hp hsp hF ha n0 (by omega) hB
    rw[hR]at this;exact this
   have hfail: ∀{s:Int} {en1:En} {cnt1:Nat->Nat->Nat} {kt:Key},aJ4 p w a (w.obj (aX w a))= .fail s->TB kt kr en1 cnt1 p w a tQ (.cl []) (.cl [])->
     xI L 171 [.ptr kt 0,.agg [.i (w.obj (aX w a)).form,.i (w.obj (aX w a)).n,.fz ((w.obj (aX w a)).vals.map aE.enc),.fz ((w.obj (aX w a)).frames.map aB.enc)]] en1 cnt1 (pY kt kr en1 cnt1 p s):=fun hR hB=>by
    have:=aNz hp hsp hF ha n0 (by omega) hB
    rw[hR]at this;exact this
   refine jB func118 ?_
   simp only[go_sem,kK,aAs (v:= .ptr kr 0) rfl rfl]
   refine aH ?_
   simp only[go_sem,kK,hr,s2,m2,hia,hio,d0,df,bSy,kA,kF]
   refine wZ ?_
   simp only[go_sem,kK,bG8,bA8];generalize hR:aJ4 p w a (w.obj (aX w a))=R at hfin hfs⊢;cases R with
   |go ev w' left' back'=>
    refine bS ?_
    simp only[go_sem]
    refine WIn.mono (hgo hR ⟨⟨rfl,by simp[aC]⟩,h.okr.up (by(repeat refine upS ?_ (by omega));exact aO _),h.okr.ne,.inr rfl,.inr rfl,by simp only[cM];rfl,by simp only[s2];exact hr⟩) ?_
    rintro v e1 c1 ⟨rfl,⟨f',n',bv',t1⟩,q1⟩
    obtain⟨p2,_⟩:=q1.loc (d:=2) (g:=cnt 0 2) (by simp[aC]) (by simp) h.okr.ne.symm
    obtain⟨p3,_⟩:=q1.loc (d:=3) (g:=cnt 0 3) (by simp[aC]) (by simp) h.okr.ne.symm
    obtain⟨p4,o4⟩:=q1.loc (d:=4) (g:=cnt 0 4) (by simp[aC]) (by simp) h.okr.ne.symm
    simp only[go_sem]at p2 p3 p4;have u1: ∀t,cnt 0 t<=c1 0 t:=fun t=>bS9 (((by(repeat refine upS ?_ (by omega));exact aO _): ∀t,cnt 0 t<=(aC (aC (aC (aC (aC (aC cnt 0 2 (cnt 0 2+1)) 0 3 (cnt 0 3+1)) 0 4 (cnt 0 4+1)) 0 5 (cnt 0 5+1)) 0 6 (cnt 0 6+1)) 0 55 (cnt 0 55+1)) 0 t) t) (q1.up t)
    have hold: ∀k,Old k cnt->k≠kr->e1 k=en k:=fun k hk hkr=>by
     rw[q1.old k (hk.up (by(repeat refine upS ?_ (by omega));exact aO _)) hk.ne hkr];simp only[hk.set]
    have hfw:cP p w0 S (dD w' (aX w' a) ⟨6,0,back',left'⟩):=by cases ev<;>exact hfin
    have hts:w.tasks.length<=w'.tasks.length:=by
     have:cP p w (fun _=>True) (dD w' (aX w' a) ⟨6,0,back',left'⟩):=by cases ev<;>exact hfs
     exact this.pre.length_le
    have ha':inR a 0 ((w'.tasks.length:Int)-1)=true:=bId ha hts;have hta:=(hfw.task (a:=a) ha').1;have hta':inR (aX w' a) 0 ((w'.objs.length:Int)-1)=true:=by simpa only[dD,bUs,aX]using hta
    have h120:w'.objs.length<=1000000:=by have:=(cH.1 hfw.ok).1;simp only[dD,bUs]at this;omega
    have ht1:=t1.t;have hr1:=t1.r;have x24: ∀(en:En) (e:Option Ent),En.set en ⟨0,4,cnt 0 4⟩ e ⟨0,55,cnt 0 55⟩=en ⟨0,55,cnt 0 55⟩:=fun _ _=>aK (by simp)
    cases ev with
    |none=>
     simp only[go_sem,kK,p2,p3,p4,aQk,aR9,aM7.ret,yB,qO,ht1,x24,t1.ob.one,t1.ob.cells]
     refine WIn.mono (aA8 (t1.rs.to (by simp only[s2]) (fun _=>bSx _)) (o:=⟨6,0,back',left'⟩) t1.ob (.inl rfl) ha' hta' h120) ?_
     rintro v e2 c2 ⟨rfl,r2,q2⟩
     obtain⟨r4,_⟩:=q2.loc (d:=4) (g:=cnt 0 4) o4.2 h.okr.ne.symm h.okr.ne.symm;rw[cM]at r4;simp only[go_sem,r4,yB,qO]
     refine⟨rfl,uW bG9.2 rfl rfl rfl rfl ?_⟩
     simp only[go_sem,kK,bT4,bT1,aXt];exact⟨rfl,⟨r2.okr,by rw[s2];exact r2.r⟩,⟨fun k hk a b=>by rw[hk.set,q2.old k (hk.up u1) a b,hk.set];exact hold k hk a,fun t=>bS9 (u1 t) (q2.up t)⟩⟩
    |some ev=>
     simp only[go_sem,kK,p2,p3,p4,aQk,aJy,(aP9 _).ret,yB,qO,ht1,x24,t1.ob.one,t1.ob.cells]
     refine WIn.mono (aA8 (t1.rs.to (by simp only[s2]) (fun _=>bSx _)) (o:=⟨6,0,back',left'⟩) t1.ob (.inl rfl) ha' hta' h120) ?_
     rintro v e2 c2 ⟨rfl,r2,q2⟩
     obtain⟨r4,_⟩:=q2.loc (d:=4) (g:=cnt 0 4) o4.2 h.okr.ne.symm h.okr.ne.symm;rw[cM]at r4;simp only[go_sem,r4,yB,qO]
     refine⟨rfl,uW bG9.2 rfl rfl rfl rfl ?_⟩
     simp only[go_sem,kK,bT4,bT1,aXt];exact⟨rfl,⟨r2.okr,by rw[s2];exact r2.r⟩,⟨fun k hk a b=>by rw[hk.set,q2.old k (hk.up u1) a b,hk.set];exact hold k hk a,fun t=>bS9 (u1 t) (q2.up t)⟩⟩
   |wait=>
    refine bS ?_
    simp only[go_sem]
    refine WIn.mono (hwait hR ⟨⟨rfl,by simp[aC]⟩,h.okr.up (by(repeat refine upS ?_ (by omega));exact aO _),h.okr.ne,.inr rfl,.inr rfl,by simp only[cM];rfl,by simp only[s2];exact hr⟩) ?_
    rintro v e1 c1 ⟨rfl,⟨left',f',n',back',bv',t1⟩,q1⟩
    obtain⟨p4,o4⟩:=q1.loc (d:=4) (g:=cnt 0 4) (by simp[aC]) (by simp) h.okr.ne.symm
    simp only[go_sem]at p4;have u1: ∀t,cnt 0 t<=c1 0 t:=fun t=>bS9 (((by(repeat refine upS ?_ (by omega));exact aO _): ∀t,cnt 0 t<=(aC (aC (aC (aC (aC (aC cnt 0 2 (cnt 0 2+1)) 0 3 (cnt 0 3+1)) 0 4 (cnt 0 4+1)) 0 5 (cnt 0 5+1)) 0 6 (cnt 0 6+1)) 0 55 (cnt 0 55+1)) 0 t) t) (q1.up t)
    have hold: ∀k,Old k cnt->k≠kr->e1 k=en k:=fun k hk hkr=>by
     rw[q1.old k (hk.up (by(repeat refine upS ?_ (by omega));exact aO _)) hk.ne hkr];simp only[hk.set]
    simp only[go_sem,kK,p4,aYm,aP8.ret,yB,qO]
    refine⟨rfl,uW bG9.2 rfl rfl rfl rfl ?_⟩
    simp only[go_sem,kK,bT4,bT1,aXt];exact⟨rfl,⟨t1.okr,by simp only[s2];exact t1.r⟩,⟨fun k hk a b=>by simp only[hk.set];exact hold k hk a,u1⟩⟩
   |fail s=>
    refine cR 2 rfl ?_
    simp only[go_sem,bS3,bS2]
    refine xI.mono (hfail hR ⟨⟨rfl,by simp[aC]⟩,h.okr.up (by(repeat refine upS ?_ (by omega));exact aO _),h.okr.ne,.inr rfl,.inr rfl,by simp only[cM];rfl,by simp only[s2];exact hr⟩) ?_
    rintro v e1 c1 ⟨rfl,q1,O,T,U,I,u,rb⟩
    obtain⟨p2,_⟩:=q1.loc (d:=2) (g:=cnt 0 2) (by simp[aC]) (by simp) h.okr.ne.symm
    obtain⟨p3,_⟩:=q1.loc (d:=3) (g:=cnt 0 3) (by simp[aC]) (by simp) h.okr.ne.symm
    obtain⟨p4,o4⟩:=q1.loc (d:=4) (g:=cnt 0 4) (by simp[aC]) (by simp) h.okr.ne.symm
    obtain⟨p6,_⟩:=q1.loc (d:=6) (g:=cnt 0 6) (by simp[aC]) (by simp) h.okr.ne.symm
    simp only[go_sem]at p2 p3 p4 p6;have u1: ∀t,cnt 0 t<=c1 0 t:=fun t=>bS9 (((by(repeat refine upS ?_ (by omega));exact aO _): ∀t,cnt 0 t<=(aC (aC (aC (aC (aC (aC cnt 0 2 (cnt 0 2+1)) 0 3 (cnt 0 3+1)) 0 4 (cnt 0 4+1)) 0 5 (cnt 0 5+1)) 0 6 (cnt 0 6+1)) 0 55 (cnt 0 55+1)) 0 t) t) (q1.up t)
    have hold: ∀k,Old k cnt->k≠kr->e1 k=en k:=fun k hk hkr=>by
     rw[q1.old k (hk.up (by(repeat refine upS ?_ (by omega));exact aO _)) hk.ne hkr];simp only[hk.set]
    have o2':Old ⟨0,2,cnt 0 2⟩ c1:=⟨rfl,bTm (by simp[aC]) (q1.up 2)⟩
    have o3':Old ⟨0,3,cnt 0 3⟩ c1:=⟨rfl,bTm (by simp[aC]) (q1.up 3)⟩
    have okr1:=h.okr.up u1;have s2b:=okr1.set;have n2b:=okr1.new
    refine⟨rfl,uW bG9.2 rfl rfl rfl rfl ?_⟩
    simp only[go_sem,kK,aGs,bT4,bT1,bKc,p2,p3,p6,rb,s2b,n2b,n2]
    refine WIn.mono (aA8 ⟨okr1.up (fun t=>(upS (aO c1) (a:=5) (x:=c1 0 5+1) (by omega)) t),cM⟩ (o:=⟨6,s,[],[]⟩) (.inr rfl) (.inr rfl) ha t1 (by omega)) ?_
    rintro v e2 c2 ⟨rfl,r2,q2⟩
    have u2: ∀t,c1 0 t<=c2 0 t:=fun t=>bS9 ((upS (aO c1) (a:=5) (x:=c1 0 5+1) (by omega)) t) (q2.up t)
    obtain⟨r2',_⟩:=q2.loc (d:=2) (g:=cnt 0 2) (by simp only[aC];exact o2'.2) h.okr.ne.symm h.okr.ne.symm
    obtain⟨r4',_⟩:=q2.loc (d:=4) (g:=cnt 0 4) (by simp only[aC];exact o4.2) h.okr.ne.symm h.okr.ne.symm
    obtain⟨r5',_⟩:=q2.loc (d:=5) (g:=c1 0 5) (by simp[aC]) okr1.ne.symm okr1.ne.symm
    obtain⟨r3',_⟩:=q2.loc (d:=3) (g:=cnt 0 3) (by simp only[aC];exact o3'.2) h.okr.ne.symm h.okr.ne.symm
    simp only[go_sem,n2,n2b,p2,p3,p4]at r2' r3' r4' r5';have s2c:=r2.okr.set;have u3: ∀t,cnt 0 t<=c2 0 t:=fun t=>bS9 (u1 t) (u2 t)
    simp only[go_sem,r3',r4',r5',(aKr _).ret,yB,qO]
    refine⟨rfl,⟨r2.okr.up (upS (aO c2) (by omega)),by simp only[s2,s2c];exact r2.r⟩,⟨fun k hk a b=>?_,fun t=>upS (cnt:=cnt) u3 (u3 7|>fun h=>by omega) t⟩⟩
    rw[hk.set];simp only[(hk.up u3).set];rw[q2.old k (hk.up (fun t=>bS9 (u1 t) (upS (aO c1) (by omega) t))) a b,aK a]
    simp only[(hk.up u1).set];exact hold k hk a
 ·have d0:decide ((w.obj (aX w a)).n=0)=false:=D_f n0;have e:aM p w a=mZ w:=by unfold aM;simp only;rw[if_pos n0]
  rw[e]
  refine jB func118 ?_
  simp only[go_sem,kK,aAs (v:= .ptr kr 0) rfl rfl]
  refine aH ?_
  simp only[go_sem,kK,hr,s2,m2,hia,hio,d0,yB,qO,kA,kF];exact⟨rfl,⟨h.okr.up (by(repeat refine upS ?_ (by omega));exact aO _),by simp only[s2];exact hr⟩,⟨fun k hk _ _=>by simp only[hk.set],(by(repeat refine upS ?_ (by omega));exact aO _)⟩⟩
theorem aSp (i:Int):PC L 173 [.i i] (.i i):=by
 refine pcA func173 ?_
 simp only[go_sem,kK]
theorem aVs {α:Type}{f:α->Val}{l:List α}(h:k<l.length):(l.map f).set k (f l[k])=l.map f:=by
 apply List.ext_getElem
 ·simp
 ·intro i h1 h2;rw[List.getElem_set];split
  ·rename_i e;subst e;simp
  ·rfl
theorem uQ (l:List aE)(hl:l.length<=16777216):PC L 209 [.fz (l.map aE.enc),.fp [.fn 173 [] []] 0] (.fz (l.map aE.enc)):=by
 have hf:Few l.length:=by unfold Few;omega
 have hc:=rP (l.map aE.enc) (xW l) (by simpa using hl)
 refine pcA func209 ?_
 by_cases h0:l=[]
 ·subst h0;have hc0:=rP [] rfl (by simp)
  simp only[go_sem,kK,bTe,hc0.ret,show uA 2 []= .cl []from rfl]
  refine bK (0) (fun k st=> ∃fr en cnt,st=⟨fr,en,cnt⟩/\ (fr 0= .cl [])/\ (fr 8= .cl [])/\ (fr 9= .i 0)/\ (fr 10= .i k)) 0 (bS4 _) (by refine⟨_,_,_,rfl,?_,?_,?_,?_⟩<;>first|(simp only[go_sem];(try rfl);done)|rfl|(simp;done)) ?_
  rintro k st hk ⟨fr,en,cnt,rfl,h0,h8,h9,h10⟩
  simp only[go_sem,kK,h9,h10];have:k=0:=by omega
  subst this;simp only[go_sem,h0]
 ·have h0':l.map aE.enc≠[]:=by simpa using h0
  rw[qK h0']at hc;simp only[go_sem,kK,hc.ret]
  refine bK (l.length) (fun k st=> ∃fr en cnt,st=⟨fr,en,cnt⟩/\ (fr 0= .bl ⟨0,7,0⟩ 0 l.length)/\ (en ⟨0,7,0⟩=some (.blk 2 (l.map aE.enc) false))/\ (fr 1= .fp [.fn 173 [] []] 0)/\ (fr 8= .bl ⟨0,7,0⟩ 0 l.length)/\ (fr 9= .i l.length)/\ (fr 10= .i k)) 0 (bS4 _) (by refine⟨_,_,_,rfl,?_,?_,?_,?_,?_,?_⟩<;>first|(simp only[go_sem,qW,h0,h8,h9,h10];(try rfl);done)|rfl|(simp;done)) ?_
  rintro k st hk ⟨fr,en,cnt,rfl,h0,e7,h1,h8,h9,h10⟩
  simp only[go_sem,kK,h9,h10]
  refine aG (fun hq=>?_) (fun hq=>?_)
  ·have h':k<l.length:=D_o hq;have hx:(l.map aE.enc)[k]?=some (aE.enc l[k]):=by simp[h']
   have hc1:(0:Int)<=(k:Int):=by omega
   have hc2:(k:Int)<(l.length:Int):=by omega
   have hss:=aVs (f:=aE.enc) h';simp only[go_sem,kK,e7,h8,h10,h',hx,hc1,hc2,true_and,and_true,eq_self,if_true,bTw,bTt]
   refine aG (fun hg=>?_) (fun hg=>?_)
   ·simp only[go_sem,h0,e7,h1,h10,hx,hc1,hc2,and_true,eq_self,if_true,bTw,bTt,(aSp _).ret,fG];simp only[aE.enc]at hss
    try simp only[go_sem,hss]
    refine⟨_,_,_,rfl,?_⟩
    simp only[go_sem,h0,h1,h8,h9,aR h' hf]
   ·simp only[go_sem,h10]
    refine⟨_,_,_,rfl,?_⟩
    simp only[go_sem,h0,e7,h1,h8,h9,aR h' hf]
  ·simp only[go_sem,h0,e7,bSx,if_true];rw[bTh (by simp)]
theorem bA9 (o:aP)(hs:iB o=true):PC L 172 [.agg [.i o.form,.i o.n,.fz (o.vals.map aE.enc),.fz (o.frames.map aB.enc)],.fn 173 [] []] (.agg [.i o.form,.i o.n,.fz (o.vals.map aE.enc),.fz (o.frames.map aB.enc)]):=by
 obtain⟨b1,b2,b3⟩:=aP4 hs;have hf:Few o.frames.length:=by unfold Few;omega
 have hc:=wY (o.frames.map aB.enc) (jV _) (by rw[bSy];omega)
 refine pcA func172 ?_
 simp only[go_sem,kK,aAs (v:= .fn 173 [] []) rfl rfl]
 refine aH ?_
 by_cases h0:o.frames=[]
 ·have hc0:=wY [] rfl (by simp)
  simp only[go_sem,h0,bTe,(uQ o.vals (by omega)).ret,hc0.ret,show uA 3 []= .cl []from rfl,rH,lZ,kA,kF]
  refine bK (0) (fun k st=> ∃fr en cnt,st=⟨fr,en,cnt⟩/\ (fr 2= .ptr ⟨0,2,0⟩ 0)/\ (en ⟨0,2,0⟩=some (.box [.i o.form,.i o.n,.fz (o.vals.map aE.enc),.cl []] false))/\ (fr 4= .ptr ⟨0,4,0⟩ 0)/\ (en ⟨0,4,0⟩=some (.box [.i 0,.i 0,.cl [],.cl []] false))/\ (fr 20= .i 0)/\ (fr 21= .i k)) 0 (bS4 _) (by refine⟨_,_,_,rfl,?_,?_,?_,?_,?_,?_⟩<;>first|(simp only[go_sem];(try rfl);done)|rfl|(simp;done)) ?_
  rintro k st hk ⟨fr,en,cnt,rfl,h2,e2,h4,e4,h20,h21⟩
  simp only[go_sem,kK,h20,h21];have:k=0:=by omega
  subst this;simp only[go_sem,h2,e2,h4,e4]
 ·have h0':o.frames.map aB.enc≠[]:=by simpa using h0
  rw[qK h0']at hc;simp only[go_sem,(uQ o.vals (by omega)).ret,hc.ret,wM,oD,bSy,kA,kF]
  refine bK (o.frames.length) (fun k st=> ∃fr en cnt,st=⟨fr,en,cnt⟩/\ (fr 2= .ptr ⟨0,2,0⟩ 0)/\ (en ⟨0,2,0⟩=some (.box [.i o.form,.i o.n,.fz (o.vals.map aE.enc),.bl ⟨0,15,0⟩ 0 o.frames.length] false))/\ (fr 4= .ptr ⟨0,4,0⟩ 0)/\ (en ⟨0,4,0⟩=some (.box [.i 0,.i 0,.cl [],.cl []] false))/\ (en ⟨0,15,0⟩=some (.blk 3 (o.frames.map aB.enc) false))/\ (en ⟨0,3,0⟩=some (.box [.fn 173 [] []] true))/\ (fr 5= .fn 209 [] [.ptr ⟨0,3,0⟩ 0])/\ (fr 19= .bl ⟨0,15,0⟩ 0 o.frames.length)/\ (fr 20= .i o.frames.length)/\ (fr 21= .i k)) 0 (bS4 _) (by refine⟨_,_,_,rfl,?_,?_,?_,?_,?_,?_,?_,?_,?_,?_⟩<;>first|(simp only[go_sem,qW,h2,e2,h4,e4,h20,h21];(try rfl);done)|rfl|(simp;done)) ?_
  rintro k st hk ⟨fr,en,cnt,rfl,h2,e2,h4,e4,e15,e3,h5,h19,h20,h21⟩
  simp only[go_sem,kK,h20,h21]
  refine aG (fun hq=>?_) (fun hq=>?_)
  ·have h':k<o.frames.length:=D_o hq;have hb:=b3 _ (bS7 h');have hx:(o.frames.map aB.enc)[k]?=some (aB.enc o.frames[k]):=by simp[h']
   have hc1:(0:Int)<=(k:Int):=by omega
   have hc2:(k:Int)<(o.frames.length:Int):=by omega
   have hss:=aVs (f:=aB.enc) h';simp only[aB.enc]at hss;simp only[go_sem,e15,h19,h21,h',hx,hc1,hc2,true_and,and_true,eq_self,if_true,bTw,bTt]
   refine aH ?_
   simp only[go_sem,h2,e2,e15,e3,h5,h21,hx,hc1,hc2,true_and,and_true,eq_self,if_true,bTw,bTt,(uQ _ (show o.frames[k].env.length<=16777216 by omega)).ret,(uQ _ (show o.frames[k].vals.length<=16777216 by omega)).ret,fG,hss,kA,kF]
   refine⟨_,_,_,rfl,?_⟩
   simp only[go_sem,h2,e2,h4,e4,h5,h19,h20,aR h' hf]
  ·simp only[go_sem,h2,e2,h4,e4,e15,bSx,if_true];rw[bTh (by simp)]
def zV (what:Int):Int:=if what=2 then 2 else if what=0 then 0 else 1
theorem aHd (what:Int)(e:fB):PC L 119 [uB what e] (.i (zV what)):=by
 unfold uB zV
 by_cases h2:what=2
 ·rw[if_pos h2,if_pos h2];exact aP8
 ·rw[if_neg h2,if_neg h2]
  by_cases h0:what=0
  ·rw[if_pos h0,if_pos h0];exact aM7
  ·rw[if_neg h0,if_neg h0];exact aP9 _
theorem yS (what:Int):decide (zV what=2)=decide (what=2):=by
 unfold zV;split
 ·rename_i h;simp[h]
 ·rename_i h;split<;>simp[h]
theorem aC3 (what:Int):decide (zV what=0)=decide (what=0):=by
 unfold zV;split
 ·rename_i h;simp[h]
 ·rename_i h;split<;>rename_i h'<;>simp[h']
theorem zW (what:Int)(e:fB)(en:En)(n:Nat):snapD (n+4) en (uB what e)=some (uB what e,[]):=by
 unfold uB;split
 ·rfl
 ·split<;>rfl
theorem aD2 (what:Int)(e:fB):(uB what e).wk1=uB what e:=by
 unfold uB;split
 ·rfl
 ·split<;>rfl
theorem bHa (hp:eQ p)(hsp:aU p=true)(hF:cP p w0 S w)(ha:inR a 0 ((w.tasks.length:Int)-1)=true):PC L 271 [.fp [.fz (p.nodes.map aL.enc),.fz (p.funs.map (.int .i64)),.i p.main,.fz (p.cons.map dC.enc),.fz (w.objs.map aP.enc),.fz (w.tasks.map (.int .i64)),.fz (w.outs.map bO.enc),.fz (w.ins.map (.int .i64)),.i w.used] 0,.i a] (.i (zV (aM p w a).what)):=by
 refine pcA func271 ?_
 simp only[go_sem,kK]
 refine WIn.mono (aC2 hp hsp hF ha ⟨⟨rfl,by simp[aC]⟩,by simp only[cM]⟩) ?_
 rintro v e1 c1 ⟨rfl,_,_⟩
 try simp only[go_sem,zW,aD2,(aHd _ _).ret]
theorem bEg (hp:eQ p)(hsp:aU p=true)(hF:cP p w0 S w):PC L 211 [.fp [.fz (p.nodes.map aL.enc),.fz (p.funs.map (.int .i64)),.i p.main,.fz (p.cons.map dC.enc),.fz (w.objs.map aP.enc),.fz (w.tasks.map (.int .i64)),.fz (w.outs.map bO.enc),.fz (w.ins.map (.int .i64)),.i w.used] 0] (uA 1 ((dS p w).map (.int .i64))):=by
 have h120:=sQ hF;have hw:Few w.tasks.length:=by unfold Few;omega
 refine pcA func211 ?_
 simp only[go_sem,kK]
 refine bK w.tasks.length (fun k st=> ∃fr en cnt v,st=⟨fr,en,cnt⟩/\ fr 0= .fp [.fz (p.nodes.map aL.enc),.fz (p.funs.map (.int .i64)),.i p.main,.fz (p.cons.map dC.enc),.fz (w.objs.map aP.enc),.fz (w.tasks.map (.int .i64)),.fz (w.outs.map bO.enc),.fz (w.ins.map (.int .i64)),.i w.used] 0/\ fr 3=v/\ fr 10= .i w.tasks.length/\ fr 11= .i k/\ aJu en v 1 ((gW p w k).map (.int .i64)) 21/\ (gW p w k=[]->v= .cl [])) 0 (bS4 _) (by refine⟨_,_,_,.cl [],rfl,?_,?_,?_,?_,.inl ⟨rfl,rfl⟩,fun _=>rfl⟩<;>simp only[go_sem]) ?_
 rintro k st hk ⟨fr,en,cnt,v,rfl,k0,k3,k10,k11,hv,hv0⟩
 simp only[go_sem,kK,k10,k11]
 refine aG (fun hq=>?_) (fun hq=>?_)
 ·have h':k<w.tasks.length:=D_o hq;have ha:inR (k:Int) 0 ((w.tasks.length:Int)-1)=true:=by simp only[inR,bWo];omega
  have hN:=bHa hp hsp hF ha;have hln:(gW p w k).length<=k:=by
   simp only[gW,bSy];exact bS9 (List.length_filter_le _ _) (by simp)
  have hst:gW p w (k+1)=if(aM p w k).what=2 then gW p w k else gW p w k++[(k:Int)]:=by
   simp only[gW,bV4,List.filter_append,bT0,List.filter_cons,List.filter_nil]
   by_cases hq:(aM p w (k:Int)).what=2<;>simp[hq]
  by_cases h2:(aM p w k).what=2
  ·have d2:decide (zV (aM p w k).what=2)=true:=by rw[yS];exact D_t h2
   rw[if_pos h2]at hst;simp only[go_sem,kK,h',k0,k11,hN.ret,d2]
   refine⟨_,_,_,v,rfl,?_⟩
   simp only[go_sem,k0,k3,k10,aR h' hw,hst];exact⟨hv,hv0⟩
  ·have d2:decide (zV (aM p w k).what=2)=false:=by rw[yS];exact D_f h2
   rw[if_neg h2]at hst;have hl1:(gW p w k).length+1<=16777216:=by omega
   rcases hv with⟨rfl,he⟩|⟨g,rfl,he⟩
   ·have he':gW p w k=[]:=by simpa using he
    rw[he']at hst;simp only[go_sem,kK,h',k0,k3,k11,hN.ret,d2,bW,eP,jR,List.isEmpty_cons,bDu]
    refine⟨_,_,_,.bl ⟨0,21,cnt 0 21⟩ 0 1,rfl,?_⟩
    simp only[go_sem,k0,k10,aR h' hw,hst];exact⟨.inr ⟨_,rfl,cM⟩,fun h=>by simp at h⟩
   ·simp only[go_sem,kK,h',k0,k3,k11,hN.ret,d2,bW,eP,wN,bDu,he,mA,hl1,bSy,bS8,bTd]
    refine⟨_,_,_,.bl ⟨0,21,cnt 0 21⟩ 0 ((gW p w k).length+1),rfl,?_⟩
    simp only[go_sem,k0,k10,aR h' hw,hst,bT0];exact⟨.inr ⟨_,by simp,cM⟩,fun h=>by simp at h⟩
 ·have:k=w.tasks.length:=by simp at hq;omega
  subst this;rcases hv with⟨rfl,he⟩|⟨g,rfl,he⟩
  ·have he':dS p w=[]:=by simpa[dS]using he
   simp only[go_sem,k3,he'];rfl
  ·have hne:(dS p w).map (Val.int .i64)≠[]:=fun h0=>by
    have:=hv0 (by simpa[dS]using h0)
    cases this
   rw[qK hne];simp only[go_sem,k3,he];rfl
end
end Go.Proofs.YtmafmhjndjmalaaGreat
namespace Go.Abs
def Calm (w:aA)(a:Int):OpR->Prop
 | .go none w' _ _=>w'.tasks=w.tasks/\ w.objs<+:w'.objs/\ w'.outs=w.outs/\ w'.ins=w.ins/\ w'.used=w.used
 | .go (some e) _ _ _=>e.task=a/\ ¬e.act=0
 | .wait=>True
 | .fail s=> ¬s=0
variable {v:aE}{env:List aE}{node n a:Int}{w' w:aA}{p:aD}
section
variable {left:List aB}
theorem aXu :Calm w a (jD w left v):=⟨rfl,bUp _,rfl,rfl,rfl⟩
theorem bBa {l:List aB}:Calm w a (oY w left l):=by
 unfold oY;split
 ·show¬(4:Int)=0;decide
 ·exact⟨rfl,bUp _,rfl,rfl,rfl⟩
theorem zX :Calm w a (iX w left node env):=by
 unfold iX;split
 ·show¬(4:Int)=0;decide
 ·exact bBa
theorem aQm {op:Int}{e:aE}(h: ¬op=0):Calm w a (kY w' a left op n v e):=⟨rfl,h⟩
theorem bBb {o:aP}:Calm w a (jD (eF w o) left v):=⟨rfl,List.prefix_append _ _,rfl,rfl,rfl⟩
theorem aXv {o:aP}:Calm w a (iX (eF w o) left node env):=by
 unfold iX oY;split
 ·show¬(4:Int)=0;decide
 ·split
  ·show¬(4:Int)=0;decide
  ·exact⟨rfl,List.prefix_append _ _,rfl,rfl,rfl⟩
theorem aFh {o:aP}{k:aA->aE->OpR}(h:Calm w a (k (eF w o) (dQ w.objs.length))):Calm w a (iE w o k):=by
 unfold iE;split
 ·show¬(4:Int)=0;decide
 ·exact h
theorem aQn {s:Int}(h: ¬s=0):Calm w a (.fail s):=h
theorem aHe {kids:List Int}{env:List aE}{u:aE}: ∀(l:List Pat) (i:Nat),Calm w a (dY w left kids env u i l)
 |[],i=>by show¬(3:Int)=0;decide
 |q::qs,i=>by
  simp only[dY];split
  ·exact zX
  ·exact aHe qs (i+1)
theorem aVt {c:Prop}[Decidable c]{x y:OpR}(hx:c->Calm w a x)(hy: ¬c->Calm w a y):Calm w a (if c then x else y):=by
 by_cases h:c
 ·rw[if_pos h];exact hx h
 ·rw[if_neg h];exact hy h
theorem aHf {f:aB}{n:aL}:Calm w a (opR p w a left f n):=by
 unfold opR
 repeat' (with_reducible refine aVt (fun _=>?_) (fun _=>?_))
 all_goals try(split<;>(repeat' (with_reducible refine aVt (fun _=>?_) (fun _=>?_))))
 all_goals first
  |exact aXu
  |exact zX
  |exact aQm (by decide)
  |exact aQn (by decide)
  |exact aHe _ _
  |exact aFh bBb
  |exact aFh aXv
  |exact aFh (aQm (by decide))
  |exact⟨rfl,bUp _,rfl,rfl,rfl⟩
  |exact aQn (by assumption)
  |trivial
end
def bIg (w:aA)(a:Int)(d:Did):Prop:=
 (d.what=0->d.e=eM/\ d.w.tasks=w.tasks/\ w.objs.length<=d.w.objs.length/\ (∀i:Nat,i<w.objs.length-> ¬(i:Int)=aX w a->d.w.obj i=w.obj i)/\ d.w.outs=w.outs/\ d.w.ins=w.ins/\ d.w.used=w.used)/\
 (d.what=1->d.e.task=a/\ (¬d.e.act=0 \/ ¬d.e.n=0))/\ (d.what=0 \/d.what=1 \/d.what=2)/\ (d.what=2->d.w=w/\ d.e=eM)
variable {i:Nat}
theorem aSq {o:aP}(h: ¬i=n.toNat):(dD w n o).obj i=w.obj i:=by
 simp only[aA.obj,dD,bTt,bSz];rw[bWc (by omega)]
theorem aN0 (h:w.objs<+:w'.objs)(hi:i<w.objs.length):w'.obj i=w.obj i:=by
 obtain⟨t,ht⟩:=h;simp only[aA.obj,bTt,bSz,<-ht,bUy hi]
theorem aN1 (h:w'.tasks=w.tasks):aX w' a=aX w a:=by unfold aX;rw[h]
theorem aHg (h0:0<=aX w a){R:OpR}(h:Calm w a R):bIg w a (R.did w a):=by
 cases R with
 |go ev w' l b=>
  cases ev with
  |none=>
   obtain⟨h1,h2,h3,h4,h5⟩:=h;have ht:=aN1 (a:=a) h1
   refine⟨fun _=>⟨rfl,h1,?_,fun i hi hne=>?_,h3,h4,h5⟩,fun h=>by simp[OpR.did]at h,.inl rfl,fun h=>by simp[OpR.did]at h⟩
   ·simp only[OpR.did,dD,bUs];exact h2.length_le
   ·simp only[OpR.did];rw[ht,aSq (by omega)]
    exact aN0 h2 hi
  |some e=>
   obtain⟨h1,h2⟩:=h;exact⟨fun h=>by simp[OpR.did]at h,fun _=>⟨h1,.inl h2⟩,.inr (.inl rfl),fun h=>by simp[OpR.did]at h⟩
 |wait=>exact⟨fun h=>by simp[OpR.did,mZ]at h,fun h=>by simp[OpR.did,mZ]at h,.inr (.inr rfl),fun _=>⟨rfl,rfl⟩⟩
 |fail s=>exact⟨fun h=>by simp[OpR.did,bG]at h,fun _=>⟨rfl,.inr h⟩,.inr (.inl rfl),fun h=>by simp[OpR.did,bG]at h⟩
theorem sR (h0:0<=aX w a)(ha:inR a 0 ((w.tasks.length:Int)-1)=true):bIg w a (aM p w a):=by
 unfold aM
 simp only
 split
 ·exact aHg h0 (R:= .wait) trivial
 split
 ·split
  ·exact⟨fun h=>by simp at h,fun _=>⟨rfl,.inr (by simp)⟩,.inr (.inl rfl),fun h=>by simp at h⟩
  ·exact aHg h0 (R:= .go none w (aCu (w.obj (aX w a)).frames (aF (w.obj (aX w a)).vals 0)) []) ⟨rfl,bUp _,rfl,rfl,rfl⟩
 split
 ·rw[pR];exact aHg h0 zX
 ·unfold qL;rw[wO ha];exact aHg h0 aHf
end Go.Abs
namespace Go.Proofs.YtmafmhjndjmalaaGreat
open Go.Abs Go.Proofs Tryz
set_option maxRecDepth 100000
set_option maxHeartbeats 4000000
variable {xs:List Val}{p:aD}{w w0:aA}{en:En}{kt kr:Key}{cnt:Nat->Nat->Nat}{S:Nat->Prop}{a:Int}{left:List aB}{f:aB}{back:List aE}{bv:Val}
section
variable {n:aL}
def lC (r:aA×Nat×Bool):Val:= .tup [.i (if r.2.2=true then((r.2.1:Nat):Int)else 0),.bool r.2.2]
theorem aA9 (hp:eQ p)(hsp:aU p=true)(hF:cP p w0 S w)(h:RS kr en cnt p w)(s:Nat)(hs:s<=5001):
  WIn L (.fn 156 [] []) [.ptr kr 0,.i (s:Int)] en cnt fun r en' cnt'=>r=lC (aJ p w s)/\ RS kr en' cnt' p (aJ p w s).1/\ eC kr kr en cnt en' cnt':=by
 have hr:=h.r;have h120:=sQ hF;have hfw:Few w.tasks.length:=by unfold Few;omega
 refine jB func156 ?_
 simp only[go_sem,kK,hr,bSy]
 refine bK w.tasks.length (fun k st=> ∃fr en' cnt' x t,st=⟨fr,en',cnt'⟩/\ fr 0= .ptr kr 0/\ fr 1= .i ((t:Nat):Int)/\ fr 13= .i w.tasks.length/\ fr 14= .i k/\ RS kr en' cnt' p x/\ eC kr kr en cnt en' cnt'/\
  cP p w0 S x/\ x.tasks.length=w.tasks.length/\ t<=5001/\ eE p (121-k) k x t=aJ p w s) 0 (bS4 _) (by refine⟨_,_,_,w,s,rfl,?_,?_,?_,?_,h,eC.refl _ _ _ _,hF,rfl,hs,rfl⟩<;>simp only[go_sem]) ?_
 rintro k st hk ⟨fr,en1,cnt1,x,t,rfl,k0,k1,k13,k14,hx,hkp,hFx,hxt,ht,hD⟩
 simp only[go_sem,kK,k13,k14]
 refine aG (fun hq=>?_) (fun hq=>?_)
 ·have h':k<w.tasks.length:=D_o hq;have ha:inR (k:Int) 0 ((x.tasks.length:Int)-1)=true:=by simp only[inR,bWo];omega
  rw[show 121-k=(120-k)+1 by omega,eE,if_pos (by omega)]at hD
  simp only[go_sem,h',k14]
  refine Go.Abs.wp_loop (fun(j:Nat) st=> ∃fr en' cnt' y,st=⟨fr,en',cnt'⟩/\ fr 0= .ptr kr 0/\ fr 1= .i ((t+j:Nat):Int)/\ fr 6= .i k/\ fr 13= .i w.tasks.length/\ fr 14= .i k/\ RS kr en' cnt' p y/\ eC kr kr en cnt en' cnt'/\
   cP p w0 S y/\ y.tasks.length=w.tasks.length/\ t+j<=5001/\ cS p k (5000-t) x=((cS p k (5000-(t+j)) y).1,(cS p k (5000-(t+j)) y).2.1+j,(cS p k (5000-(t+j)) y).2.2)) (fun j=>5001-(t+j)) 0
   ⟨_,_,_,x,rfl,by simp only[go_sem,k0],by simp only[go_sem,k1],by simp only[go_sem],by simp only[go_sem,k13],by simp only[go_sem,k14],hx,hkp,hFx,hxt,ht,rfl⟩ ?_
  clear k0 k1 k13 k14 hx hkp
  rintro j st ⟨fr,en1,cnt1,y,rfl,k0,k1,k6,k13,k14,hy,hkp,hFy,hyt,htj,hI⟩
  have hay:inR (k:Int) 0 ((y.tasks.length:Int)-1)=true:=by simp only[inR,bWo];omega
  have s2:=hy.okr.set;have n2:=hy.okr.new;have m2:=hy.okr.eqF;have o2:=hy.okr.eqF';have hyr:=hy.r;simp only[go_sem,kK,k0,k6,hyr]
  refine WIn.mono (aC2 hp hsp hFy hay ⟨⟨rfl,by simp[aC]⟩,by simp only[cM]⟩) ?_
  rintro v e1 c1 ⟨rfl,r1,q1⟩
  have u1: ∀t,cnt1 0 t<=c1 0 t:=fun t=>bS9 (((by(repeat refine upS ?_ (by omega));exact aO _): ∀t,cnt1 0 t<=aC cnt1 0 7 (cnt1 0 7+1) 0 t) t) (q1.up t)
  have hold: ∀k,Old k cnt1->e1 k=en1 k:=fun k hk=>by
   rw[q1.old k (hk.up (by(repeat refine upS ?_ (by omega));exact aO _)) hk.ne hk.ne];simp only[hk.set]
  have hy1:RS kr e1 c1 p y:=hy.to (hold kr hy.okr) u1;have hk1:eC kr kr en cnt e1 c1:=hkp.trans ⟨fun k hk _ _=>hold k hk,u1⟩
  have hy1r:=hy1.r;have hr1:=r1.r;have n2b:=hy1.okr.new
  by_cases h0:(aM p y k).what=0
  ·have d0:decide (zV (aM p y k).what=0)=true:=by rw[aC3];exact D_t h0
   have hw1:IntKind.i64.wrap (((t+j:Nat):Int)+1)=((t+j+1:Nat):Int):=by rw[aV (by omega)];omega
   have hcal:=(sR (p:=p) (by have:=(hFy.task hay).1;simp only[inR,bWo]at this;omega) hay).1 h0
   by_cases h5:5000<t+j+1
   ·have d5:decide ((5000:Int)<((t+j+1:Nat):Int))=true:=D_t (by omega)
    have hI0:cS p k (5000-t) x=(y,1+j,false):=by rw[hI,show 5000-(t+j)=0 by omega,cS,if_pos h0]
    rw[hI0]at hD;simp only[bS0,if_false]at hD;simp only[go_sem,kK,zW,aD2,(aHd _ _).ret,k1,d0,hw1,d5];rw[<-hD];exact⟨rfl,hy1,hk1⟩
   ·have d5:decide ((5000:Int)<((t+j+1:Nat):Int))=false:=D_f (by omega)
    have hy':=kO hp hFy hay;simp only[go_sem,kK,zW,aD2,(aHd _ _).ret,k0,k1,d0,hw1,d5,hy1r,hr1]
    refine⟨j+1,⟨_,_,_,(aM p y k).w,rfl,?_⟩,by omega⟩
    simp only[go_sem,k0,k6,k13,k14]
    refine⟨by rw[bU5],⟨hy1.okr,cM⟩,⟨fun k hk a b=>by rw[aK a];exact hk1.old k hk a b,hk1.up⟩,hy',by rw[hcal.2.1];exact hyt,by omega,?_⟩
    rw[hI,show 5000-(t+j)=(5000-(t+(j+1)))+1 by omega,cS,if_pos h0]
    simp only[bU5,Nat.add_comm 1 j]
  ·have d0:decide (zV (aM p y k).what=0)=false:=by rw[aC3];exact D_f h0
   have hin: ∀m,cS p k m y=(y,0,true):=fun m=>by cases m<;>(rw[cS,if_neg h0])
   rw[hI,hin]at hD;simp only[if_true,bTw]at hD;simp only[go_sem,kK,zW,aD2,(aHd _ _).ret,k1,k14,d0]
   refine⟨_,_,_,y,t+j,rfl,?_⟩
   simp only[go_sem,k0,k1,k13,aR h' hfw];exact⟨hy1,hk1,hFy,hyt,htj,by rw[show 121-(k+1)=120-k by omega];exact hD⟩
 ·have:k=w.tasks.length:=by simp at hq;omega
  subst this;have hD':aJ p w s=(x,t,true):=by
   rw[<-hD];cases hm:121-w.tasks.length with
   |zero=>rfl
   |succ m=>rw[eE,if_neg (by omega)]
  rw[hD'];simp only[go_sem,k1];exact⟨rfl,hx,hkp⟩
theorem yT (e:fB):PC L 372 [.agg [.i e.task,.i e.act,.i e.n,.i e.v.kind,.i e.v.n]] (.agg [.i e.task,.i e.act,.i e.n,.i e.v.kind,.i e.v.n]):=by
 refine pcA func372 ?_
 simp only[go_sem,kK]
theorem xA :PC L 373 [.agg []] (.agg [.i 0,.i 0,.i 0,.i 0,.i 0]):=by
 refine pcA func373 ?_
 simp only[go_sem,kK]
theorem aC4 :PC L 371 [.agg []] (.agg [.i 0,.i 0,.i 0,.i 0,.i 0]):=by
 refine pcA func371 ?_
 simp only[go_sem,kK]
def evV (e:fB):Val:= .agg [.i e.task,.i e.act,.i e.n,.i e.v.kind,.i e.v.n]
theorem aEn (l:List Int):(l.map (Val.int .i64)).all Val.flat1=true:=by
 rw[bS5];intro x hx;obtain⟨i,_,rfl⟩:=bTu.1 hx;rfl
theorem bEh :(Val.cl xs).flat=false:=(rfl)
theorem bEi :rF (.cl xs)=false:=(rfl)
theorem bEj (hp:eQ p)(hsp:aU p=true)(hF:cP p w0 S w)(h:RS kr en cnt p w)(pick:Int):
  WIn L (.fn 177 [] []) [.ptr kr 0,.i pick] en cnt fun r en' cnt'=>r= .tup [evV (fE p w pick).2.1,.i ((fE p w pick).2.2.1:Nat),.i (fE p w pick).2.2.2]/\ ((fE p w pick).2.2.2=0->RS kr en' cnt' p (fE p w pick).1)/\ eC kr kr en cnt en' cnt':=by
 have s2:=h.okr.set;have n2:=h.okr.new;have hr:=h.r;have m2:=h.okr.eqF;have o2:=h.okr.eqF';have h1:=oG hp (s:=0) hF;have hc:=aFg (p:=p) 121 (a:=0) (w:=w) (s:=0);have hR:=bEg hp hsp h1
 refine jB func177 ?_
 simp only[go_sem,kK]
 refine WIn.mono (aA9 hp hsp hF (h.to (by simp only[s2]) (by(repeat refine upS ?_ (by omega));exact aO _)) 0 (by omega)) ?_
 rintro v e1 c1 ⟨rfl,r1,q1⟩
 obtain⟨p4,o4⟩:=q1.loc (d:=4) (g:=cnt 0 4) (by simp[aC]) h.okr.ne.symm h.okr.ne.symm
 simp only[go_sem]at p4;have u1: ∀t,cnt 0 t<=c1 0 t:=fun t=>bS9 (((by(repeat refine upS ?_ (by omega));exact aO _): ∀t,cnt 0 t<=aC cnt 0 4 (cnt 0 4+1) 0 t) t) (q1.up t)
 have k1:eC kr kr en cnt e1 c1:=⟨fun k hk a b=>by rw[q1.old k (hk.up (by(repeat refine upS ?_ (by omega));exact aO _)) a b];simp only[hk.set],u1⟩
 unfold fE
 simp only
 have hq1:aJ p w 0=eE p 121 0 w 0:=rfl;rw[<-hq1]at hc;generalize hq:aJ p w 0=q at r1 h1 hR hc⊢;obtain⟨x,sn,ok⟩:=q;dsimp only at r1 h1 hR hc⊢;cases ok with
 |false=>
  rw[if_pos rfl];simp only[go_sem,kK,lC,p4,kF];exact⟨rfl,fun h=>h.elim,⟨fun k hk a b=>by rw[hk.set];exact k1.old k hk a b,u1⟩⟩
 |true=>
  rw[if_neg (by decide)]
  have hx120:=sQ h1;have hr1:=r1.r;have hc0:true=true->sn<=5000:=fun h=>by have:=hc h;omega
  by_cases hl:dS p x=[]
  ·rw[if_pos hl];have hz:uA 1 (([]:List Int).map (.int .i64))= .cl []:=rfl;rw[hl,hz]at hR;simp only[go_sem,kK,lC,p4,hr1,hR.ret,bEh,bEi,bTd,n2,if_true,kF];exact⟨rfl,fun h=>by simp at h,⟨fun k hk a b=>by rw[hk.set,aK a];exact k1.old k hk a b,u1⟩⟩
  ·rw[if_neg hl];have hne:(dS p x).map (Val.int .i64)≠[]:=by simpa using hl
   rw[qK hne]at hR;have hll:(dS p x).length<=120:=by
    simp only[dS,gW,bSy];exact bS9 (List.length_filter_le _ _) (by simpa using hx120)
   have hl0:0<(dS p x).length:=bV1.2 hl;have dl:decide (((dS p x).length:Int)=0)=false:=D_f (by omega)
   have hpi:=aSj hl pick;have hem:=Int.emod_nonneg pick (show((dS p x).length:Int)≠0 by omega)
   obtain⟨i,hi⟩:=bTs hem;have hil:i<(dS p x).length:=by rw[hi]at hpi;simpa using hpi
   have ha:=aNn (nJ (d:=0) hpi);rw[hi,bTt]at ha⊢;generalize hn:(dS p x).length=n at*;have hz: ¬((n:Int)=0):=by omega
   have e:=Int.tmod_eq_emod (a:=pick) (b:=n);have hget:((dS p x).map (Val.int .i64))[i]?=some (.i ((dS p x).getD i 0)):=by simp[bSz,hn,hil]
   have hc1:(0:Int)<=(i:Int):=by omega
   have hc2:(i:Int)<(n:Int):=by omega
   by_cases hc:0<=pick \/(n:Int)∣pick
   ·have e:pick.tmod n=(i:Int):=by rw[e,if_pos hc,hi];simp
    have di:decide ((i:Int)<0)=false:=D_f (by omega)
    simp only[go_sem,kK,lC,hr1,hR.ret,bSy,hn,aEn,hz,e,di,hget,hc1,hc2,bTt,bTw,kF]
    refine WIn.mono (aC2 hp hsp h1 ha (r1.to (by simp only[r1.okr.set]) (upS (aO c1) (by omega)))) ?_
    rintro v e2 c2 ⟨rfl,r2,q2⟩
    obtain⟨r4,o4'⟩:=q2.loc (d:=4) (g:=cnt 0 4) (by simp only[aC];exact o4.2) h.okr.ne.symm h.okr.ne.symm
    simp only[go_sem,p4]at r4;have hsn:=hc0 rfl;have hw1:IntKind.i64.wrap ((sn:Int)+1)=((sn+1:Nat):Int):=by rw[aV (by omega)];omega
    have hd:=kO hp h1 ha;have hcal:=sR (p:=p) (by have:=(h1.task ha).1;simp only[inR,bWo]at this;omega) ha
    generalize aM p x ((dS p x).getD i 0)=d at hd hcal r2⊢;simp only[go_sem,hw1]
    refine WIn.mono (aA9 hp hsp hd r2 (sn+1) (by omega)) ?_
    rintro v e3 c3 ⟨rfl,r3,q3⟩
    obtain⟨r4',_⟩:=q3.loc (d:=4) (g:=cnt 0 4) o4'.2 h.okr.ne.symm h.okr.ne.symm;rw[r4]at r4';have u3: ∀t,cnt 0 t<=c3 0 t:=fun t=>bS9 (u1 t) (bS9 (upS (aO c1) (a:=21) (x:=c1 0 21+1) (by omega) t) (bS9 (q2.up t) (q3.up t)))
    have hold: ∀k,Old k cnt->k≠kr->e3 k=en k:=fun k hk hkr=>by
     have hk1:=hk.up u1;rw[q3.old k (hk1.up fun t=>bS9 (upS (aO c1) (a:=21) (x:=c1 0 21+1) (by omega) t) (q2.up t)) hkr hkr,q2.old k (hk1.up (upS (aO c1) (by omega))) hkr hkr,hk1.set]
     exact k1.old k hk hkr hkr
    generalize aJ p d.w (sn+1)=q at r3⊢;obtain⟨y,s3,ok2⟩:=q;dsimp only at r3⊢;cases ok2 with
    |false=>
     rw[if_pos (.inl rfl)];simp only[go_sem,kK,lC,r4',kF];exact⟨rfl,fun h=>h.elim,⟨fun k hk a b=>by rw[hk.set];exact hold k hk a,u3⟩⟩
    |true=>
     by_cases h5:5000<s3
     ·have d5:decide ((5000:Int)<(s3:Int))=true:=D_t (by omega)
      rw[if_pos (.inr h5)];simp only[go_sem,kK,lC,r4',d5,if_true,kF];exact⟨rfl,fun h=>h.elim,⟨fun k hk a b=>by rw[hk.set];exact hold k hk a,u3⟩⟩
     ·have d5:decide ((5000:Int)<(s3:Int))=false:=D_f (by omega)
      rw[if_neg (by rintro(h|h);cases h;exact h5 h)]
      by_cases hw2:d.what=2
      ·have hE:uB d.what d.e= .ifc 254 (.agg []):=by unfold uB;rw[if_pos hw2]
       rw[(hcal.2.2.2 hw2).2]at hE⊢;simp only[go_sem,kK,lC,r4',d5,hE,aC4.ret,if_true,kF];exact⟨rfl,fun _=>⟨r3.okr,by rw[s2];exact r3.r⟩,⟨fun k hk a b=>by rw[hk.set];exact hold k hk a,u3⟩⟩
      ·by_cases hw0:d.what=0
       ·have hE:uB d.what d.e= .ifc 265 (.agg []):=by unfold uB;rw[if_neg hw2,if_pos hw0]
        rw[(hcal.1 hw0).1]at hE⊢;simp only[go_sem,kK,lC,r4',d5,hE,xA.ret,if_true,kF];exact⟨rfl,fun _=>⟨r3.okr,by rw[s2];exact r3.r⟩,⟨fun k hk a b=>by rw[hk.set];exact hold k hk a,u3⟩⟩
       ·have hE:uB d.what d.e= .ifc 257 (.agg [.i d.e.task,.i d.e.act,.i d.e.n,.i d.e.v.kind,.i d.e.v.n]):=by unfold uB;rw[if_neg hw2,if_neg hw0]
        simp only[go_sem,kK,lC,r4',d5,hE,(yT _).ret,if_true,kF];exact⟨rfl,fun _=>⟨r3.okr,by rw[s2];exact r3.r⟩,⟨fun k hk a b=>by rw[hk.set];exact hold k hk a,u3⟩⟩
   ·rw[if_neg hc,hi]at e;have di:decide (pick.tmod n<0)=true:=D_t (by rw[e];simp only[Int.natAbs_natCast];omega)
    have hw:IntKind.i64.wrap (pick.tmod n+n)=(i:Int):=by rw[e];simp only[Int.natAbs_natCast];rw[aV (by omega)];omega
    simp only[go_sem,kK,lC,hr1,hR.ret,bSy,hn,aEn,hz,di,hw,hget,hc1,hc2,bTt,bTw,kF]
    refine WIn.mono (aC2 hp hsp h1 ha (r1.to (by simp only[r1.okr.set]) (upS (aO c1) (by omega)))) ?_
    rintro v e2 c2 ⟨rfl,r2,q2⟩
    obtain⟨r4,o4'⟩:=q2.loc (d:=4) (g:=cnt 0 4) (by simp only[aC];exact o4.2) h.okr.ne.symm h.okr.ne.symm
    simp only[go_sem,p4]at r4;have hsn:=hc0 rfl;have hw1:IntKind.i64.wrap ((sn:Int)+1)=((sn+1:Nat):Int):=by rw[aV (by omega)];omega
    have hd:=kO hp h1 ha;have hcal:=sR (p:=p) (by have:=(h1.task ha).1;simp only[inR,bWo]at this;omega) ha
    generalize aM p x ((dS p x).getD i 0)=d at hd hcal r2⊢;simp only[go_sem,hw1]
    refine WIn.mono (aA9 hp hsp hd r2 (sn+1) (by omega)) ?_
    rintro v e3 c3 ⟨rfl,r3,q3⟩
    obtain⟨r4',_⟩:=q3.loc (d:=4) (g:=cnt 0 4) o4'.2 h.okr.ne.symm h.okr.ne.symm;rw[r4]at r4';have u3: ∀t,cnt 0 t<=c3 0 t:=fun t=>bS9 (u1 t) (bS9 (upS (aO c1) (a:=21) (x:=c1 0 21+1) (by omega) t) (bS9 (q2.up t) (q3.up t)))
    have hold: ∀k,Old k cnt->k≠kr->e3 k=en k:=fun k hk hkr=>by
     have hk1:=hk.up u1;rw[q3.old k (hk1.up fun t=>bS9 (upS (aO c1) (a:=21) (x:=c1 0 21+1) (by omega) t) (q2.up t)) hkr hkr,q2.old k (hk1.up (upS (aO c1) (by omega))) hkr hkr,hk1.set]
     exact k1.old k hk hkr hkr
    generalize aJ p d.w (sn+1)=q at r3⊢;obtain⟨y,s3,ok2⟩:=q;dsimp only at r3⊢;cases ok2 with
    |false=>
     rw[if_pos (.inl rfl)];simp only[go_sem,kK,lC,r4',kF];exact⟨rfl,fun h=>h.elim,⟨fun k hk a b=>by rw[hk.set];exact hold k hk a,u3⟩⟩
    |true=>
     by_cases h5:5000<s3
     ·have d5:decide ((5000:Int)<(s3:Int))=true:=D_t (by omega)
      rw[if_pos (.inr h5)];simp only[go_sem,kK,lC,r4',d5,if_true,kF];exact⟨rfl,fun h=>h.elim,⟨fun k hk a b=>by rw[hk.set];exact hold k hk a,u3⟩⟩
     ·have d5:decide ((5000:Int)<(s3:Int))=false:=D_f (by omega)
      rw[if_neg (by rintro(h|h);cases h;exact h5 h)]
      by_cases hw2:d.what=2
      ·have hE:uB d.what d.e= .ifc 254 (.agg []):=by unfold uB;rw[if_pos hw2]
       rw[(hcal.2.2.2 hw2).2]at hE⊢;simp only[go_sem,kK,lC,r4',d5,hE,aC4.ret,if_true,kF];exact⟨rfl,fun _=>⟨r3.okr,by rw[s2];exact r3.r⟩,⟨fun k hk a b=>by rw[hk.set];exact hold k hk a,u3⟩⟩
      ·by_cases hw0:d.what=0
       ·have hE:uB d.what d.e= .ifc 265 (.agg []):=by unfold uB;rw[if_neg hw2,if_pos hw0]
        rw[(hcal.1 hw0).1]at hE⊢;simp only[go_sem,kK,lC,r4',d5,hE,xA.ret,if_true,kF];exact⟨rfl,fun _=>⟨r3.okr,by rw[s2];exact r3.r⟩,⟨fun k hk a b=>by rw[hk.set];exact hold k hk a,u3⟩⟩
       ·have hE:uB d.what d.e= .ifc 257 (.agg [.i d.e.task,.i d.e.act,.i d.e.n,.i d.e.v.kind,.i d.e.v.n]):=by unfold uB;rw[if_neg hw2,if_neg hw0]
        simp only[go_sem,kK,lC,r4',d5,hE,(yT _).ret,if_true,kF];exact⟨rfl,fun _=>⟨r3.okr,by rw[s2];exact r3.r⟩,⟨fun k hk a b=>by rw[hk.set];exact hold k hk a,u3⟩⟩
theorem sS (p:aD)(w:aA)(hw:w.few)(hs:bZ w=true):PC L 120 [.fp [.fz (p.nodes.map aL.enc),.fz (p.funs.map (.int .i64)),.i p.main,.fz (p.cons.map dC.enc),.fz (w.objs.map aP.enc),.fz (w.tasks.map (.int .i64)),.fz (w.outs.map bO.enc),.fz (w.ins.map (.int .i64)),.i w.used] 0] (.agg w.cs):=by
 obtain⟨b1,b2,b3,b4⟩:=aM2 hs;have c1:=rO (w.tasks.map (.int .i64)) (tM _) (by simp;omega)
 have c2:=aGp (w.outs.map bO.enc) (aJt _) (by simp;omega)
 have c3:=rO (w.ins.map (.int .i64)) (tM _) (by simp;omega)
 refine pcA func120 ?_
 simp only[go_sem,kK]
 refine aK0 (fun st=>st.fr 2= .ptr ⟨0,2,0⟩ 0/\ st.en ⟨0,2,0⟩=some (.box [.cl [],.cl [],.cl [],.cl [],.i 0] false)/\ st.fr 0= .fp [.fz (p.nodes.map aL.enc),.fz (p.funs.map (.int .i64)),.i p.main,.fz (p.cons.map dC.enc),.fz (w.objs.map aP.enc),.fz (w.tasks.map (.int .i64)),.fz (w.outs.map bO.enc),.fz (w.ins.map (.int .i64)),.i w.used] 0/\ st.fr 3= .ptr ⟨0,3,0⟩ 0/\
  ∃vT vO vI,st.en ⟨0,3,0⟩=some (.box [.cl [],vT,vO,vI,.i w.used] false)/\ cX st.en vT 1 (w.tasks.map (.int .i64)) [11]/\ cX st.en vO 2 (w.outs.map bO.enc) [17]/\ cX st.en vI 1 (w.ins.map (.int .i64)) [23]) ?_ ?_
 ·refine aH ?_
  rcases jU 1 (w.tasks.map (Val.int .i64))with⟨t1,t2⟩|⟨t1,t2⟩<;>rw[t2]at c1<;>
  rcases jU 2 (w.outs.map bO.enc)with⟨o1,o2⟩|⟨o1,o2⟩<;>rw[o2]at c2<;>
  rcases jU 1 (w.ins.map (Val.int .i64))with⟨i1,i2⟩|⟨i1,i2⟩<;>rw[i2]at c3
  all_goals simp only[go_sem,kA,kF,c1.ret,c2.ret,c3.ret,bSy,bSx,if_true,kB]
  all_goals refine⟨_,_,_,rfl,?_,?_,?_⟩
  all_goals first
   |exact .inl ⟨rfl,by assumption⟩
   |exact aK1 (by simp only[go_sem];try rfl) (by simp only[bSy])
 ·rintro fr en cnt ⟨h2,e2,h1,h3,vT,vO,vI,e3,mT,mO,mI⟩
  dsimp only at h2 e2 h1 h3 e3 mT mO mI;simp only[go_sem,h1]
  refine bK w.objs.length (fun k st=> ∃fr en cnt v,st=⟨fr,en,cnt⟩/\ fr 2= .ptr ⟨0,2,0⟩ 0/\ en ⟨0,2,0⟩=some (.box [.cl [],.cl [],.cl [],.cl [],.i 0] false)/\ fr 3= .ptr ⟨0,3,0⟩ 0/\ en ⟨0,3,0⟩=some (.box [v,vT,vO,vI,.i w.used] false)/\ fr 34= .fz (w.objs.map aP.enc)/\ fr 35= .i w.objs.length/\ fr 36= .i k/\
   cX en vT 1 (w.tasks.map (.int .i64)) [11]/\ cX en vO 2 (w.outs.map bO.enc) [17]/\ cX en vI 1 (w.ins.map (.int .i64)) [23]/\ cX en v 4 ((w.objs.take k).map aP.enc) [45]) 0 (bS4 _) ⟨_,_,_,.cl [],rfl,by simp only[go_sem,h2],by simp only[go_sem,e2],by simp only[go_sem,h3],by simp only[go_sem,e3],by simp only[go_sem],by simp only[go_sem],by simp only[go_sem],mT,mO,mI,cX.nil _ _⟩ ?_
  rintro k st hk ⟨fr,en,cnt,v,rfl,h2,e2,h3,e3,h19,h20,h21,mT,mO,mI,hv⟩
  simp only[go_sem,kK,h20,h21]
  refine aG (fun hq=>?_) (fun hq=>?_)
  ·have h':k<w.objs.length:=D_o hq;have hso:=aE9 hs _ (bS7 h');simp only[go_sem,h',h19,h21]
   refine aH ?_
   simp only[go_sem,h3,e3,kA,kF,bGe,(bA9 _ hso).ret]
   refine aIf (D:=[45]) (xs:=(w.objs.take k).map aP.enc) (ys:=[aP.enc w.objs[k]]) (rs:=[]) ?_ ?_ ?_ rfl ?_ ?_
   ·simp only[go_sem];exact hv.keep fun t g ht=>by simp at ht;subst ht;simp only[go_sem]
   ·simp only[go_sem]
   ·rfl
   ·simp;omega
   ·intro v' en' cnt' r hown hen hcnt _ _ _;have k2:en' ⟨0,2,0⟩=some (.box [.cl [],.cl [],.cl [],.cl [],.i 0] false):=by rw[hen 0 2 0 (.inr ⟨by decide,by simp⟩)];simp only[go_sem,e2]
    have k3:en' ⟨0,3,0⟩=some (.box [v,vT,vO,vI,.i w.used] false):=by rw[hen 0 3 0 (.inr ⟨by decide,by simp⟩)];simp only[go_sem,e3]
    obtain⟨s1,s2⟩:=hown.shape;simp only[go_sem,h3,k3,h21,s1,s2]
    refine⟨_,_,_,v',rfl,?_⟩
    simp only[go_sem,h2,k2,h3,h19,h20,aR h' hw.objs]
    refine⟨mT.keep ?_,mO.keep ?_,mI.keep ?_,?_⟩
    ·intro t g ht;simp at ht;subst ht;rw[kG (by simp),hen 0 11 g (.inr ⟨by decide,by simp⟩)];simp only[go_sem]
    ·intro t g ht;simp at ht;subst ht;rw[kG (by simp),hen 0 17 g (.inr ⟨by decide,by simp⟩)];simp only[go_sem]
    ·intro t g ht;simp at ht;subst ht;rw[kG (by simp),hen 0 23 g (.inr ⟨by decide,by simp⟩)];simp only[go_sem]
    ·rw[iG h',bT0]
     refine cX.sub (D:=[45,45]) (cX.keep (en:=en') hown ?_) (by simp)
     intro t g ht;simp at ht;subst ht;simp only[go_sem]
  ·have:k=w.objs.length:=by simp at hq;omega
   subst this;rw[bUf]at hv;simp only[go_sem,h2,e2,h3,e3];obtain⟨r1,ks1,s1,s1',_⟩:=(hv.keep (en':=en.set ⟨0,2,0⟩ (some (.box [v,vT,vO,vI,.i w.used] false))) fun t g ht=>by simp at ht;subst ht;simp only[go_sem]).snap 6
   obtain⟨r2,ks2,s2,s2',_⟩:=(mT.keep (en':=en.set ⟨0,2,0⟩ (some (.box [v,vT,vO,vI,.i w.used] false))) fun t g ht=>by simp at ht;subst ht;simp only[go_sem]).snap 6
   obtain⟨r3,ks3,s3,s3',_⟩:=(mO.keep (en':=en.set ⟨0,2,0⟩ (some (.box [v,vT,vO,vI,.i w.used] false))) fun t g ht=>by simp at ht;subst ht;simp only[go_sem]).snap 6
   obtain⟨r4,ks4,s4,s4',_⟩:=(mI.keep (en':=en.set ⟨0,2,0⟩ (some (.box [v,vT,vO,vI,.i w.used] false))) fun t g ht=>by simp at ht;subst ht;simp only[go_sem]).snap 6
   simp only[go_sem,s1,s2,s3,s4,s1',s2',s3',s4']
structure bRe (en:En) (cnt:Nat->Nat->Nat) (en':En) (cnt':Nat->Nat->Nat):Prop where
 old: ∀k,Old k cnt->en' k=en k
 up: ∀t,cnt 0 t<=cnt' 0 t
theorem aC5 (p:aD)(w:aA)(hp:p.few)(hw:w.few)(hs:aU p=true):WIn L (.fn 116 [] []) [.agg p.cs,.agg w.cs] en cnt fun v en' cnt'=>
  (bJ p w=true->v= .tup [.ptr ⟨0,13,cnt 0 13⟩ 0,.bool true]/\ RS ⟨0,13,cnt 0 13⟩ en' cnt' p w)/\ (bJ p w=false-> ∃x,v= .tup [x,.bool false])/\ bRe en cnt en' cnt':=by
 have hb:=yN p hp hs
 refine jB func116 ?_
 cases hf:fJ p with
 |false=>
  rw[hf]at hb;simp only[go_sem,kK,hb.ret]
  refine⟨fun h=>by simp[bJ,hf]at h,fun _=>⟨_,rfl⟩,fun k hk=>by simp only[hk.set],(by(repeat refine upS ?_ (by omega));exact aO _)⟩
 |true=>
  rw[hf]at hb;simp only[go_sem,kK,hb.ret,(tK p w hp hw).ret];rw[aM1 p w hf]
  refine⟨fun h=>?_,fun h=>?_,fun k hk=>by simp only[hk.set],(by(repeat refine upS ?_ (by omega));exact aO _)⟩
  ·have:cJ p w=true:=by simpa[bJ,hf]using h
   rw[this];exact⟨rfl,⟨rfl,by simp[aC]⟩,cM⟩
  ·have:cJ p w=false:=by simpa[bJ,hf]using h
   rw[this];exact⟨_,rfl⟩
end
structure bL where
 every:Int
 picks:List Int
 marks:List aA
def aA.enc (w:aA):Val:= .agg w.cs
abbrev bL.cs (l:bL):List Val:=[.i l.every,.is l.picks,.fz (l.marks.map aA.enc)]
abbrev ply (p:aD)(l:bL):Val:= .fp [.i l.every,.is l.picks,.fz (l.marks.map aA.enc),.fz (p.nodes.map aL.enc),.fz (p.funs.map (.int .i64)),.i p.main,.fz (p.cons.map dC.enc)] 0
def bL.enc (l:bL):Val:= .agg [.i l.every,.is l.picks,.fz (l.marks.map aA.enc)]
def tR :aA:=⟨[],[],[],[],0⟩
def tS :bL:=⟨0,[],[]⟩
def iP (l:bL)(t:Nat):Int:=l.picks.getD t 0
def pE (l:bL)(i:Nat):aA:=l.marks.getD i tR
def aQ (l:bL):Nat:=l.every.toNat
def iR (p:aD)(l:bL):Bool:=
 fJ p&&inR l.every 1 20&&decide (l.picks.length<=200)&&decide (l.marks.length=l.picks.length/aQ l+1)&&l.marks.all (cJ p)
def cV (p:aD)(w:aA)(pick:Int):aA×fB×Int:=
 let r:=fE p w pick
 if r.2.2.2=5 then(w,eM,6)else if r.2.2.2=0 then(r.1,r.2.1,0)else(w,eM,r.2.2.2)
def aBv (p:aD)(l:bL):Nat->Nat->aA->aA×Int
 |_,0,w=>(w,0)
 |i,k+1,w=>if(cV p w (iP l i)).2.2=0 then aBv p l (i+1) k (cV p w (iP l i)).1 else(tR,(cV p w (iP l i)).2.2)
def atX (p:aD)(l:bL)(n:Nat):aA×Int:=aBv p l (n/aQ l*aQ l) (n-n/aQ l*aQ l) (pE l (n/aQ l))
def aW (p:aD)(l:bL)(t:Nat):aA×fB×Int:=
 if(atX p l t).2=0 then(if(cV p (atX p l t).1 (iP l t)).2.2=0 then cV p (atX p l t).1 (iP l t)else(tR,(cV p (atX p l t).1 (iP l t)).2.1,(cV p (atX p l t).1 (iP l t)).2.2))else((atX p l t).1,eM,(atX p l t).2)
theorem aVu {p:aD}{l:bL}: ∀(a b i:Nat) (w:aA),aBv p l i (a+b) w=if(aBv p l i a w).2=0 then aBv p l (i+a) b (aBv p l i a w).1 else(tR,(aBv p l i a w).2)
 |0,b,i,w=>by simp[aBv]
 |a+1,b,i,w=>by
  rw[show a+1+b=(a+b)+1 by omega,aBv,aBv]
  split
  ·rw[aVu a b (i+1),show i+1+a=i+(a+1)by omega]
  ·rfl
variable {l:bL}{n:Nat}
theorem aN2 {n:Nat}(he:0<aQ l)(hm: ¬(n+1)%aQ l=0):atX p l (n+1)=if(atX p l n).2=0 then(if(cV p (atX p l n).1 (iP l n)).2.2=0 then((cV p (atX p l n).1 (iP l n)).1,0)else(tR,(cV p (atX p l n).1 (iP l n)).2.2))else(tR,(atX p l n).2):=by
 have hd:(n+1)/aQ l=n/aQ l:=by
  rw[Nat.succ_div];rw[if_neg (fun h=>hm (Nat.mod_eq_zero_of_dvd h)),bUk]
 have hle:n/aQ l*aQ l<=n:=bWd ..;unfold atX;rw[hd,show n+1-n/aQ l*aQ l=(n-n/aQ l*aQ l)+1 by omega,aVu,show n/aQ l*aQ l+(n-n/aQ l*aQ l)=n by omega]
 split
 ·simp only[aBv]
 ·rfl
theorem xB {n:Nat}(he:0<aQ l)(hm:n%aQ l=0):atX p l n=(pE l (n/aQ l),0):=by
 have:n/aQ l*aQ l=n:=Nat.div_mul_cancel (bV5 hm);unfold atX;rw[this,Nat.sub_self];rfl
theorem aN3 (hp:eQ p)(h:cJ p w=true)(pick:Int):cJ p (cV p w pick).1=true:=by
 have hF:cP p w (fun _=>True) w:=⟨h,bSx _,fun _ _=>rfl,bUp _,fun _ _ _ _ _ _=>trivial,fun _ _=>trivial,fun _ _=>trivial⟩
 have:=(aQf hp hF pick).ok;unfold cV
 simp only
 split
 ·exact h
 split
 ·exact this
 ·exact h
theorem sX (h:cJ p w=true):cP p w (fun _=>True) w:=⟨h,bSx _,fun _ _=>rfl,bUp _,fun _ _ _ _ _ _=>trivial,fun _ _=>trivial,fun _ _=>trivial⟩
theorem aYz {p:aD}(hp:eQ p){l:bL}: ∀(k i:Nat) {w:aA},cJ p w=true->(aBv p l i k w).2=0->cJ p (aBv p l i k w).1=true
 |0,_,_,h,_=>h
 |k+1,i,w,h,he=>by
  rw[aBv]at he⊢;split
  ·rename_i ht;rw[if_pos ht]at he;exact aYz hp k (i+1) (aN3 hp h _) he
  ·rename_i ht;rw[if_neg ht]at he;exact absurd he ht
theorem qP (h:iR p l=true):fJ p=true/\ (1<=aQ l/\ aQ l<=20/\ l.every=(aQ l:Int))/\ l.picks.length<=200/\ l.marks.length=l.picks.length/aQ l+1/\ ∀w∈l.marks,cJ p w=true:=by
 simp only[iR,bSw,bWo,bS5,inR]at h;obtain⟨⟨⟨⟨h1,h2⟩,h3⟩,h4⟩,h5⟩:=h
 refine⟨h1,⟨?_,?_,?_⟩,h3,h4,h5⟩<;>unfold aQ<;>omega
theorem bHb (h:iR p l=true){n:Nat}(hn:n<=l.picks.length):cJ p (pE l (n/aQ l))=true:=by
 obtain⟨_,⟨h1,_⟩,_,h4,h5⟩:=qP h;have:n/aQ l<l.marks.length:=by
  rw[h4];have:=bWe (c:=aQ l) hn;omega
 refine h5 _ ?_
 unfold pE;rw[bSz,bTy this];exact bS7 _
theorem bEk (hp:eQ p)(h:iR p l=true){n:Nat}(hn:n<=l.picks.length)(he:(atX p l n).2=0):cJ p (atX p l n).1=true:=
 aYz hp _ _ (bHb h hn) he
section
variable {n:aL}
def rX :aA:=⟨[],[],[],[],0⟩
def aBt (p:aD)(w:aA)(pick:Int):aA×fB×Nat×Int:=
 if bJ p w=true then(if(fE p w pick).2.2.2=0 then fE p w pick else(rX,eM,0,(fE p w pick).2.2.2))else(rX,eM,0,2)
theorem bBc (p:aD)(w:aA)(pick:Int):(fE p w pick).2.2.2=0 \/(fE p w pick).2.2.2=5 \/(fE p w pick).2.2.2=8:=by
 unfold fE;simp only;split
 ·exact .inr (.inr rfl)
 split
 ·exact .inr (.inl rfl)
 split
 ·exact .inr (.inr rfl)
 ·exact .inl rfl
theorem aSr {cs:List Val}:(Val.agg (.fz xs::cs)).flat=false:=(rfl)
theorem aHh (p:aD)(w:aA)(pick:Int)(hp:p.few)(hw:w.few)(hsp:aU p=true):
  PC L 137 [.agg p.cs,.agg w.cs,.i pick] (.tup [.agg (aBt p w pick).1.cs,evV (aBt p w pick).2.1,.i ((aBt p w pick).2.2.1:Nat),.i (aBt p w pick).2.2.2]):=by
 refine pcA func137 ?_
 simp only[go_sem,kK]
 refine WIn.mono (aC5 p w hp hw hsp) ?_
 rintro v e1 c1 ⟨h1,h2,h3⟩
 have p6:=h3.old ⟨0,6,0⟩ ⟨rfl,by simp[aC]⟩
 have p7:=h3.old ⟨0,7,0⟩ ⟨rfl,by simp[aC]⟩
 have c6:=h3.up 6;have c7:=h3.up 7;simp only[go_sem]at p6 p7;unfold aBt;cases hg:bJ p w with
 |false=>
  obtain⟨x,rfl⟩:=h2 hg;rw[if_neg (by decide)]
  simp only[go_sem,kK,p6,p7,rX,aA.cs,Val.is,eM,iV,evV,bTe]
 |true=>
  obtain⟨rfl,r1⟩:=h1 hg;rw[if_pos rfl];have hF:cP p w (fun _=>True) w:=by
   simp only[bJ,bSw]at hg;exact sX hg.2
  have hpf:eQ p:=by
   simp only[bJ,bSw]at hg;exact kN hg.1
  simp only[go_sem,kK]
  refine WIn.mono (bEj hpf hsp hF r1 pick) ?_
  rintro v e2 c2 ⟨rfl,r2,q2⟩
  have k13: ∀d g,¬d=13->(⟨0,d,g⟩:Key)≠⟨0,13,0⟩:=fun d g h he=>h (by injection he)
  obtain⟨p6',o6⟩:=q2.loc (d:=6) (g:=0) c6 (k13 _ _ (by decide)) (k13 _ _ (by decide))
  obtain⟨p7',o7⟩:=q2.loc (d:=7) (g:=0) c7 (k13 _ _ (by decide)) (k13 _ _ (by decide))
  rw[p6]at p6';rw[p7]at p7';have o6':=o6.eqF';have o7':=o7.eqF';have o6n:=o6.set;have o7n:=o7.set
  by_cases h0:(fE p w pick).2.2.2=0
  ·have d0:decide ((fE p w pick).2.2.2=0)=true:=D_t h0;have r2':RS ⟨0,13,0⟩ e2 c2 p (fE p w pick).1:=r2 h0;have hkr:=r2'.r;have s2:=r2'.okr.set;have hFt:=aQf hpf hF pick;have hcp:=sS p (fE p w pick).1 (vC (lB hsp hFt.ok)) (lB hsp hFt.ok);rw[if_pos h0];simp only[go_sem,kK,evV,d0]
   refine aH ?_
   simp only[go_sem,p6',p7',o6n,o7n,s2,hkr,hcp.ret,aSr,kA,kF];rw[h0]
  ·have d0:decide ((fE p w pick).2.2.2=0)=false:=D_f h0;rw[if_neg h0];simp only[go_sem,kK,evV,d0,p6',p7',o6n,o7n,rX,aA.cs,Val.is,eM,iV,bTe]
def nA (p:aD)(w:aA):aA×Nat×Int:=
 if bJ p w=true then(if(aJ p w 0).2.2=true then((aJ p w 0).1,(aJ p w 0).2.1,0)else(rX,0,8))else(rX,0,2)
theorem xC (p:aD)(w:aA)(hp:p.few)(hw:w.few)(hsp:aU p=true):
  PC L 100 [.agg p.cs,.agg w.cs] (.tup [.agg (nA p w).1.cs,.i ((nA p w).2.1:Nat),.i (nA p w).2.2]):=by
 refine pcA func100 ?_
 simp only[go_sem,kK]
 refine WIn.mono (aC5 p w hp hw hsp) ?_
 rintro v e1 c1 ⟨h1,h2,h3⟩
 have p4:=h3.old ⟨0,4,0⟩ ⟨rfl,by simp[aC]⟩
 have c4:=h3.up 4;simp only[go_sem]at p4;unfold nA;cases hg:bJ p w with
 |false=>
  obtain⟨x,rfl⟩:=h2 hg;rw[if_neg (by decide)]
  simp only[go_sem,kK,p4,rX,aA.cs,Val.is,bTe]
 |true=>
  obtain⟨rfl,r1⟩:=h1 hg;rw[if_pos rfl];have hF:cP p w (fun _=>True) w:=by
   simp only[bJ,bSw]at hg;exact sX hg.2
  have hpf:eQ p:=by
   simp only[bJ,bSw]at hg;exact kN hg.1
  simp only[go_sem,kK]
  refine WIn.mono (aA9 hpf hsp hF r1 0 (by omega)) ?_
  rintro v e2 c2 ⟨rfl,r2,q2⟩
  have k13: ∀d g,¬d=13->(⟨0,d,g⟩:Key)≠⟨0,13,0⟩:=fun d g h he=>h (by injection he)
  obtain⟨p4',o4⟩:=q2.loc (d:=4) (g:=0) c4 (k13 _ _ (by decide)) (k13 _ _ (by decide))
  rw[p4]at p4';have hFt:=oG hpf (s:=0) hF;have r2':RS ⟨0,13,0⟩ e2 c2 p (aJ p w 0).1:=r2;have hcp:=sS p (aJ p w 0).1 (vC (lB hsp hFt.ok)) (lB hsp hFt.ok);generalize aJ p w 0=q at r2' hcp⊢;obtain⟨x,sn,ok⟩:=q;dsimp only at r2' hcp⊢;have hkr:=r2'.r;cases ok with
  |true=>
   rw[if_pos rfl];simp only[go_sem,kK,lC,p4',hkr,hcp.ret,aSr,if_true,kF]
  |false=>
   rw[if_neg (by decide)]
   simp only[go_sem,kK,lC,p4',rX,aA.cs,Val.is,bTe,kF]
end
def rY (p:aD)(l:bL):Nat->Nat->List fB×Int
 |_,0=>([],0)
 |t,k+1=>if(aW p l t).2.2=0 then(if(rY p l (t+1) k).2=0 then((aW p l t).2.1::(rY p l (t+1) k).1,0)else([],(rY p l (t+1) k).2))else([],(aW p l t).2.2)
def aFi (p:aD)(l:bL):Nat->Nat->Int
 |_,0=> -1
 |t,k+1=>if(aW p l t).2.2=0 then(if(t+1)%aQ l=0/\ ¬(aW p l t).1=pE l ((t+1)/aQ l)then(t:Int)+1 else aFi p l (t+1) k)else(t:Int)+1
def aBa (p:aD)(l:bL):Int:=
 if(aJ p (pE l 0) 0).2.2=true/\ (aJ p (pE l 0) 0).2.1=0 then aFi p l 0 l.picks.length else 0
def aC6 (w:aA)(a:Int):Int:=(aF ((w.obj (aX w a)).frames.getD ((w.obj (aX w a)).frames.length-1) dJ).vals 0).n
structure bIh where
 kind:Int
 n:Int
 v:aE
def bIh.enc (c:bIh):Val:= .agg [.i c.kind,.i c.n,.i c.v.kind,.i c.v.n]
def aIt (p:aD)(w:aA)(every:Int):bL×Int:=if(aJ p w 0).2.2=true then(⟨every,[],[(aJ p w 0).1]⟩,0)else(tS,8)
def bBd (p:aD)(l:bL)(pick:Int):bL×fB×Int:=
 if 200<=l.picks.length then(tS,eM,3)
 else if(atX p l l.picks.length).2=0 then
  (let r:=cV p (atX p l l.picks.length).1 pick
  if r.2.2=0 then(⟨l.every,l.picks++[pick],if(l.picks.length+1)%aQ l=0 then l.marks++[r.1]else l.marks⟩,r.2.1,0)else(tS,eM,r.2.2))
 else(tS,eM,(atX p l l.picks.length).2)
def aVv (l:bL)(n:Nat):bL:=⟨l.every,l.picks.take n,l.marks.take (n/aQ l+1)⟩
def aBb (e:Int):Val:= .ifc 170 (.agg [.i e])
theorem dI (e:Int):PC L 47 [.bool true,.i e] (.tup []):=by
 refine pcA func47 ?_
 simp only[go_sem,kK]
theorem bR (e:Int):PX L 47 [.bool false,.i e] (aBb e):=by
 refine pxA func47 ?_
 simp only[go_sem,kK]
 refine cR 3 rfl ?_
 simp only[go_sem,bS3,bS2];exact⟨rfl,rfl⟩
def bL.few (l:bL):Prop:=Few l.picks.length/\ Few l.marks.length/\ ∀w∈l.marks,w.few
theorem rZ {k:Nat}(h:k<l.marks.length):mH 5 en (.fz (l.marks.map aA.enc)) (.i (k:Int))=some {v:= .fp [.fz (l.marks[k].objs.map aP.enc),.is l.marks[k].tasks,.fz (l.marks[k].outs.map bO.enc),.is l.marks[k].ins,.i l.marks[k].used] 0}:=by
 simp[mH,h,aA.enc];exact⟨rfl,rfl⟩
def aIu (p:aD)(l:bL):Bool:=!(decide (l.every<1)||decide ((20:Int)<l.every)||decide ((200:Int)<l.picks.length)||!decide ((l.marks.length:Int)=(l.picks.length:Int).tdiv l.every+1))&&l.marks.all (bJ p)
theorem aEo (p:aD)(l:bL)(hp:p.few)(hl:l.few)(hsp:aU p=true):PC L 101 [.agg p.cs,.agg l.cs] (.i (if aIu p l=true then 0 else 2)):=by
 have hnb: ∀{b:Bool},aIu p l=b->(if aIu p l=true then(0:Int)else 2)=if b=true then 0 else 2:=fun h=>by rw[h]
 refine pcA func101 ?_
 by_cases h1:l.every<1
 ·have d1:decide (l.every<1)=true:=D_t h1;rw[hnb (b:=false) (by simp[aIu,h1])]
  simp only[go_sem,kK,d1,kF]
 have d1:decide (l.every<1)=false:=D_f h1
 by_cases h2:20<l.every
 ·have d2:decide ((20:Int)<l.every)=true:=D_t h2;rw[hnb (b:=false) (by simp[aIu,h2])]
  simp only[go_sem,kK,d1,d2,kF]
 have d2:decide ((20:Int)<l.every)=false:=D_f h2
 by_cases h3:(200:Int)<l.picks.length
 ·have d3:decide ((200:Int)<(l.picks.length:Int))=true:=D_t h3;rw[hnb (b:=false) (by simp only[aIu,d3,bUz,Bool.true_or,bS6,bTk])]
  simp only[go_sem,kK,bSy,d1,d2,d3,kF]
 have d3:decide ((200:Int)<(l.picks.length:Int))=false:=D_f h3;have hz: ¬(l.every=0):=by omega
 have hdv:=Int.tdiv_nonneg (show(0:Int)<=(l.picks.length:Int)by omega) (show 0<=l.every by omega)
 have hdl:((l.picks.length:Int)).tdiv l.every<=200:=by
  have:=Int.tdiv_le_self (a:=(l.picks.length:Int)) l.every (by omega)
  omega
 have hw1:IntKind.i64.wrap (((l.picks.length:Int)).tdiv l.every)=((l.picks.length:Int)).tdiv l.every:=aV (by omega)
 have hw2:IntKind.i64.wrap (((l.picks.length:Int)).tdiv l.every+1)=((l.picks.length:Int)).tdiv l.every+1:=aV (by omega)
 by_cases h4:(l.marks.length:Int)=((l.picks.length:Int)).tdiv l.every+1
 case neg=>
  have d4:decide ((l.marks.length:Int)=((l.picks.length:Int)).tdiv l.every+1)=false:=D_f h4;rw[hnb (b:=false) (by simp only[aIu,d4,bTf,bUz,bS6,bTk])]
  simp only[go_sem,kK,bSy,d1,d2,d3,hz,hw1,hw2,d4,kF]
 have d4:decide ((l.marks.length:Int)=((l.picks.length:Int)).tdiv l.every+1)=true:=D_t h4;have hm:Few l.marks.length:=hl.2.1;have hall:aIu p l=l.marks.all (bJ p):=by simp only[aIu,d1,d2,d3,d4,bS6,Bool.or_self,bTf,bTo]
 rw[hall];simp only[go_sem,kK,bSy,d1,d2,d3,hz,hw1,hw2,d4,kF]
 refine bK (l.marks.length) (fun k st=> ∃fr en cnt,st=⟨fr,en,cnt⟩/\ (fr 2= .ptr ⟨0,2,0⟩ 0)/\ (en ⟨0,2,0⟩=some (.box p.cs false))/\ (fr 3= .ptr ⟨0,3,0⟩ 0)/\ (en ⟨0,3,0⟩=some (.box l.cs false))/\ (fr 35= .fz (l.marks.map aA.enc))/\ (fr 36= .i l.marks.length)/\ (fr 37= .i k)/\ ((l.marks.take k).all (bJ p)=true)) 0 (bS4 _) (by refine⟨_,_,_,rfl,?_,?_,?_,?_,?_,?_,?_,?_⟩<;>first|(simp only[go_sem];(try rfl);done)|rfl|(simp;done)) ?_
 rintro k st hk ⟨fr,en,cnt,rfl,h2,e2,h3,e3,h35,h36,h37,hA⟩
 simp only[go_sem,kK,h36,h37]
 refine aG (fun hq=>?_) (fun hq=>?_)
 ·have h':k<l.marks.length:=D_o hq;have hia:=fun en=>rZ (l:=l) (en:=en) h'
  have hC:=aEg p l.marks[k] hp (hl.2.2 _ (bS7 h')) hsp;cases hg:bJ p l.marks[k]with
  |false=>
   rw[hg]at hC;have hna:l.marks.all (bJ p)=false:=by
    rw[List.all_eq_false];exact⟨_,bS7 h',by rw[hg];decide⟩
   rw[hna];simp only[go_sem,kK,h2,e2,h35,h37,h',hia,hC.ret,kF]
  |true=>
   rw[hg]at hC;simp only[go_sem,kK,h2,e2,h35,h37,h',hia,hC.ret,if_true,kF]
   refine⟨_,_,_,rfl,?_⟩
   simp only[go_sem,h2,e2,h3,e3,h35,h36,aR h' hm];rw[iG h',List.all_append,hA,bTo,bVd,List.all_nil,hg];rfl
 ·have:k=l.marks.length:=by simp at hq;omega
  subst this;rw[bUf]at hA;rw[hA];simp only[go_sem,if_true]
theorem aIv (n:Nat)(he:1<=aQ l)(hn:n<=1000000)(hev:l.every=(aQ l:Int)):PC L 90 [(ply p l),.i (n:Int)] (.bool (decide (n%aQ l=0))):=by
 have h0: ¬((aQ l:Int)=0):=by omega
 have e:((n:Int)).tmod (aQ l:Int)=((n%aQ l:Nat):Int):=by
  rw[Int.tmod_eq_emod_of_nonneg (by omega)];omega
 have d:decide (((n%aQ l:Nat):Int)=0)=decide (n%aQ l=0):=decide_eq_decide.2 (by omega)
 refine pcA func90 ?_
 simp only[go_sem,kK,hev,h0,e,d]
end Go.Proofs.YtmafmhjndjmalaaGreat

