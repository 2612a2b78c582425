/- Contracts of functions of the program and of the document: part 5. -/
import Derived.Test.YtmnchlhngpdffaaGreatM4
import Derived.Test.YtmnchlhngpdffaaGreatM2
set_option linter.all false
open Bool renaming and_eq_true → bN8, false_and → bOx, false_eq_true → bOa, not_false → bOs, not_true → bOn, or_true → bP3, true_and → bO3
open Int renaming eq_ofNat_of_zero_le → bQd, natCast_nonneg → bQo, toNat_natCast → bPc
open List renaming all_cons → bQg, all_eq_true → bOe, append_nil → bPa, drop_length → bP1, flatMap_cons → bQm, flatMap_nil → bP7, getD_eq_getElem?_getD → bOd, getElem?_append_left → bRd, getElem?_eq_getElem → bPh, getElem_mem → bOg, length_append → bOr, length_cons → bOh, length_map → bOc, length_nil → bOo, length_pos_iff → bRe, length_set → bP9, length_take → bPl, map_append → bPn, map_cons → bO4, map_nil → bOq, map_set → bQi, map_take → bP0, mem_map → bO5, mem_of_mem_take → bQr, nil_append → bPb, prefix_refl → bRa, replicate_succ → bPk, replicate_zero → bPj, take_length → bPt, take_of_length_le → bOt, take_succ_cons → bOp, take_zero → bOm
open Nat renaming add_assoc → bPw, add_zero → bPo, div_mul_le_self → bRo, le_refl → bN9, le_trans → bOk, lt_of_lt_of_le → bOy, zero_add → bO1, zero_le → bOf
namespace Go.Proofs.YtmnchlhngpdffaaGreat
open Go.Abs Go.Proofs
variable {a:Int}{en:En}{w w0:aB}{p:aI}{kt kr:Key}{cnt:Nat->Nat->Nat}{S:Nat->Prop}{left:List aA}{f:aA}{n:aL}{back:List aE}{bv:Val}
section
def nO :List Nat:=[266,266,266,267,268,269,270,271,272,272,272,273,274,275,276,277,278,279,280,281,282,283,284,285,286,287,288,289]
def bFe :List Val:= .nilf::nO.map fun f=> .fn f [] []
theorem aK5 :PC L 224 [] (.agg bFe):=by
 exact⟨12,fun n hn=>zE hn (show kQ L 12 224 []=some (.agg bFe)by kernel_rfl)⟩
theorem aZv (P0:Pre p w0 S w a left f n)(h:TS kt kr en cnt p w a left f n [] bv):pS (nO.getD (n.op.toNat-1) 0) kt kr en cnt p w a left f n (opR p w a left f n):=by
 obtain⟨o1,o2⟩:=aJ8 P0.node;have ho:n.op=1 \/n.op=2 \/n.op=3 \/n.op=4 \/n.op=5 \/n.op=6 \/n.op=7 \/n.op=8 \/n.op=9 \/n.op=10 \/n.op=11 \/n.op=12 \/n.op=13 \/n.op=14 \/n.op=15 \/n.op=16 \/n.op=17 \/n.op=18 \/n.op=19 \/n.op=20 \/n.op=21 \/n.op=22 \/n.op=23 \/n.op=24 \/n.op=25 \/n.op=26 \/n.op=27 \/n.op=28:=by omega
 rcases ho with ho|ho|ho|ho|ho|ho|ho|ho|ho|ho|ho|ho|ho|ho|ho|ho|ho|ho|ho|ho|ho|ho|ho|ho|ho|ho|ho|ho
 ·rw[show nO.getD (n.op.toNat-1) 0=266 from by rw[ho];rfl];exact bE6 h ho
 ·rw[show nO.getD (n.op.toNat-1) 0=266 from by rw[ho];rfl];exact bE8 h ho
 ·rw[show nO.getD (n.op.toNat-1) 0=266 from by rw[ho];rfl];exact bE9 h ho
 ·rw[show nO.getD (n.op.toNat-1) 0=267 from by rw[ho];rfl];exact bFa P0 h ho
 ·rw[show nO.getD (n.op.toNat-1) 0=268 from by rw[ho];rfl];exact bFb P0 h ho
 ·rw[show nO.getD (n.op.toNat-1) 0=269 from by rw[ho];rfl];exact bFd P0 h ho
 ·rw[show nO.getD (n.op.toNat-1) 0=270 from by rw[ho];rfl];exact bE7 P0 h ho
 ·rw[show nO.getD (n.op.toNat-1) 0=271 from by rw[ho];rfl];exact bFc P0 h ho
 ·rw[show nO.getD (n.op.toNat-1) 0=272 from by rw[ho];rfl];exact aKc P0 h (by omega)
 ·rw[show nO.getD (n.op.toNat-1) 0=272 from by rw[ho];rfl];exact aKc P0 h (by omega)
 ·rw[show nO.getD (n.op.toNat-1) 0=272 from by rw[ho];rfl];exact aKc P0 h (by omega)
 ·rw[show nO.getD (n.op.toNat-1) 0=273 from by rw[ho];rfl];exact bBu P0 h ho
 ·rw[show nO.getD (n.op.toNat-1) 0=274 from by rw[ho];rfl];exact bBz P0 h ho
 ·rw[show nO.getD (n.op.toNat-1) 0=275 from by rw[ho];rfl];exact bBt P0 h ho
 ·rw[show nO.getD (n.op.toNat-1) 0=276 from by rw[ho];rfl];exact bBv P0 h ho
 ·rw[show nO.getD (n.op.toNat-1) 0=277 from by rw[ho];rfl];exact bB0 P0 h ho
 ·rw[show nO.getD (n.op.toNat-1) 0=278 from by rw[ho];rfl];exact bB2 P0 h ho
 ·rw[show nO.getD (n.op.toNat-1) 0=279 from by rw[ho];rfl];exact bB3 P0 h ho
 ·rw[show nO.getD (n.op.toNat-1) 0=280 from by rw[ho];rfl];exact bBy P0 h ho
 ·rw[show nO.getD (n.op.toNat-1) 0=281 from by rw[ho];rfl];exact bB4 P0 h ho
 ·rw[show nO.getD (n.op.toNat-1) 0=282 from by rw[ho];rfl];exact bB1 P0 h ho
 ·rw[show nO.getD (n.op.toNat-1) 0=283 from by rw[ho];rfl];exact bB9 P0 h ho
 ·rw[show nO.getD (n.op.toNat-1) 0=284 from by rw[ho];rfl];exact bB5 P0 h ho
 ·rw[show nO.getD (n.op.toNat-1) 0=285 from by rw[ho];rfl];exact bB6 P0 h ho
 ·rw[show nO.getD (n.op.toNat-1) 0=286 from by rw[ho];rfl];exact bB8 P0 h ho
 ·rw[show nO.getD (n.op.toNat-1) 0=287 from by rw[ho];rfl];exact bBr P0 h ho
 ·rw[show nO.getD (n.op.toNat-1) 0=288 from by rw[ho];rfl];exact bBw P0 h ho
 ·rw[show nO.getD (n.op.toNat-1) 0=289 from by rw[ho];rfl];exact bBs h ho
end
set_option maxRecDepth 100000
set_option maxHeartbeats 4000000
variable {V K P v:Val}{l:List aA}{k t i:Nat}{f0:aA}{nd:aL}
section
theorem aUl {i o m:Int}{F E B:Val}{xs es vs ks ps bs:List Val}{KK:List Key}(h:en kt=some (.box [.ptr kr 0,.i a,F,.i i,E,V,.i o,.i m,K,P,B] false))(hF:cH en F=some (.fz xs,KK))(hE:gV E es)(hV:gV V vs)(hK:gV K ks)(hP:gV P ps)(hB:gV B bs)(hk:kt∉KK):
  nF (.ptr kt 0) [[]] en=some ((W.applyAll en (KK.map .frz)).set kt (some (.box [.ptr kr 0,.i a,.fz xs,.i i,.fz es,.fz vs,.i o,.i m,.fz ks,.fz ps,.fz bs] false))):=by
 have:=aD6 (rs:=[(.ptr kr 0,[]),(.i a,[]),(.fz xs,KK),(.i i,[]),(.fz es,[]),(.fz vs,[]),(.i o,[]),(.i m,[]),(.fz ks,[]),(.fz ps,[]),(.fz bs,[])]) h (by simp only[aA4,aDh,aQv,aD5,hF,qD hE,qD hV,qD hK,qD hP,qD hB]) (by simpa using hk)
 simp only[bQm,bP7,bPa,bPb,bO4,bOq]at this;exact aJr this
structure TB (kt kr:Key) (en:En) (cnt:Nat->Nat->Nat) (p:aI) (w:aB) (a:Int) (n:aL) (K P:Val):Prop where
 okt:Old kt cnt
 okr:Old kr cnt
 ne:kr≠kt
 hK:gV K (n.kids.map (.int .i64))
 hP:gV P (n.pats.map Pat.enc)
 t:en kt=some (.box [.ptr kr 0,.i a,.cl [],.i 0,.cl [],.cl [],.i n.op,.i n.n,K,P,.cl []] false)
 r:en kr=some (.box [.fz (p.nodes.map aL.enc),.is p.funs,.i p.main,.fz (p.cons.map cD.enc),.fz (w.objs.map aR.enc),.is w.tasks,.fz (w.outs.map bJ.enc),.is w.ins,.i w.used] false)
theorem TB.pre (h:TB kt kr en cnt p w a n K P):type_of%(bBk h.okt h.okr h.ne):=bBk h.okt h.okr h.ne
theorem sN (h:TB kt kr en cnt p w a n K P){lv:Val}(hl:gV lv (l.map aA.enc))(hc:l.length<=40):
  WIn L (.fn 220 [] []) [.ptr kt 0,lv] en cnt fun v en' cnt'=>v= .tup []/\ (∃bv',TS kt kr en' cnt' p w a l ⟨0,[],[]⟩ n [] bv')/\ dI kt kr en cnt en' cnt':=by
 have hw:IntKind.i64.wrap ((0:Int)+(l.length:Int))=((l.length:Nat):Int):=by rw[aY (by omega)];omega
 have hw':IntKind.i64.wrap (l.length:Int)=((l.length:Nat):Int):=aY (by omega)
 have d:decide (((l.length:Nat):Int)<=40)=true:=decide_eq_true (by omega)
 have hlen:rP lv=some l.length:=by rw[hl.len,bOc]
 have hel:=hl.elems;have s1:=h.okt.set;have s2:=h.okr.set;have n1:=h.okt.new;have hl16:l.length<=16777216:=by omega
 have hC:=aBv [];have ht:=h.t;have hr:=h.r;have hL:=at_ Tryz.func220
 conv at hL=>rhs;reduce
 refine qI hL rfl rfl ?_
 simp only[go_sem,kK]
 refine cU ?_
 simp only[go_sem,ht,hlen,bOo,Int.natCast_zero,Int.zero_add,hw',d,(gD _).ret,hC.ret,bS,dU,hel,tT,iQ,aCm,bO1,bOc,hl16]
 by_cases hl0:l=[]
 ·subst hl0;simp only[go_sem,bOq,aJq,pE,kO,ht];rw[aUl (KK:=[]) (es:=[]) (vs:=[]) (bs:=[]) cB rfl (.inr rfl) (.inr rfl) h.hK h.hP (.inr rfl) (by simp)]
  simp only[bOq,fF];exact⟨⟨_,h.okt,h.okr,h.ne,.inl rfl,cB,by rw[aK h.ne,aK h.ne];exact hr⟩,fun k hk a b=>by rw[aK a,aK a],fun _=>bN9 _⟩
 ·have hne:l.map aA.enc≠[]:=by simpa using hl0
  have nk:kt≠⟨0,21,cnt 0 21⟩:=h.okt.ne;have nr:kr≠⟨0,21,cnt 0 21⟩:=h.okr.ne;simp only[go_sem,aA8 hne,tQ,mK,s1,ht,bOc];rw[aUl (KK:=[⟨0,21,cnt 0 21⟩]) (xs:=l.map aA.enc) (es:=[]) (vs:=[]) (bs:=[]) cB (sA (by rw[n1];exact cB) (by simp)) (.inr rfl) (.inr rfl) h.hK h.hP (.inr rfl) (by simpa using nk)]
  simp only[bO4,bOq,jS,fF];have hu:=upS (aN cnt) (a:=21) (x:=cnt 0 21+1) (by omega)
  refine⟨⟨_,h.okt.up hu,h.okr.up hu,h.ne,.inl rfl,cB,?_⟩,fun k hk a b=>?_,hu⟩
  ·rw[aK h.ne,oI nr,aK h.ne,s2];exact hr
  ·rw[aK a,oI hk.ne,aK a,hk.set]
theorem aFk (h:k<l.length):oP 3 en (.fz (l.map aA.enc)) (.i (k:Int))=some {v:= .fp [.i (l.getD k eK).node,.fz ((l.getD k eK).env.map aE.enc),.fz ((l.getD k eK).vals.map aE.enc)] 0}:=by
 have e:l.getD k eK=l[k]:=by simp[bOd,h]
 rw[e];simp[oP,h,aA.enc];exact⟨rfl,rfl⟩
theorem aZw (v:aE)(h:0<l.length):aBu l v=l.take (l.length-1)++[⟨(l.getD (l.length-1) eK).node,(l.getD (l.length-1) eK).env,(l.getD (l.length-1) eK).vals++[v]⟩]:=by
 unfold aBu;generalize (⟨(l.getD (l.length-1) eK).node,(l.getD (l.length-1) eK).env,(l.getD (l.length-1) eK).vals++[v]⟩:aA)=x;rw[List.set_eq_take_append_cons_drop,if_pos (by omega),Nat.sub_add_cancel (by omega),bP1]
def aGr (p:aI)(w:aB)(a:Int)(o:aR):OpR:=
 if o.vals.length=0 then
  (if(((o.frames.getD (o.frames.length-1) eK).vals.length:Nat):Int)<(p.node (o.frames.getD (o.frames.length-1) eK).node).asks then
   qZ w o.frames [⟨nN (p.node (o.frames.getD (o.frames.length-1) eK).node) (o.frames.getD (o.frames.length-1) eK).vals.length,(o.frames.getD (o.frames.length-1) eK).env,[]⟩]
  else opR p w a (o.frames.take (o.frames.length-1)) (o.frames.getD (o.frames.length-1) eK) (p.node (o.frames.getD (o.frames.length-1) eK).node))
 else .go none w (aBu o.frames (aF o.vals 0)) []
def aUm (kt kr:Key)(en:En)(cnt:Nat->Nat->Nat)(p:aI)(w:aB)(a:Int)(o:aR):OpR->Prop
 | .go ev w' left' back=>WIn L (.fn 172 [] []) [.ptr kt 0,.agg [.i o.form,.i o.n,.fz (o.vals.map aE.enc),.fz (o.frames.map aA.enc)]] en cnt fun r en' cnt'=>r=aMd ev/\ (∃f' n' bv',TS kt kr en' cnt' p w' a left' f' n' back bv')/\ dI kt kr en cnt en' cnt'
 | .wait=>WIn L (.fn 172 [] []) [.ptr kt 0,.agg [.i o.form,.i o.n,.fz (o.vals.map aE.enc),.fz (o.frames.map aA.enc)]] en cnt fun r en' cnt'=>r=aUa/\ (∃left' f' n' back' bv',TS kt kr en' cnt' p w a left' f' n' back' bv')/\ dI kt kr en cnt en' cnt'
 | .fail s=>vC L 172 [.ptr kt 0,.agg [.i o.form,.i o.n,.fz (o.vals.map aE.enc),.fz (o.frames.map aA.enc)]] en cnt (oB kt kr en cnt p s)
def rE :aL:=⟨0,0,[],[]⟩
theorem aTf (h:TB kt kr en cnt p w a rE K P){o:aR}(hv:o.vals.length=1)(hf0:0<o.frames.length)(hf:o.frames.length<=40)(hfv:(o.frames.getD (o.frames.length-1) eK).vals.length<=1000):
  aUm kt kr en cnt p w a o (.go none w (aBu o.frames (aF o.vals 0)) []):=by
 have H:=h.pre;have ht:=h.t;have hr:=h.r;have hw1:IntKind.i64.wrap ((o.frames.length:Int)-1)=((o.frames.length-1:Nat):Int):=by rw[aY (by omega)];omega
 have dv:decide ((0:Int)<(o.vals.length:Int))=true:=decide_eq_true (by omega)
 have hLz:=at_ Tryz.func172
 conv at hLz=>rhs;reduce
 refine bO hLz rfl rfl ?_
 have hia:=fun en=>aFk (l:=o.frames) (en:=en) (k:=o.frames.length-1) (by omega)
 have hsh:=fun en=>vM (size:=3) (xs:=o.frames.map aA.enc) (en:=en) (k:=o.frames.length-1) (by rw[bOc];omega)
 have hv0:0<o.vals.length:=by omega
 simp only[go_sem,kK,bOc,hw1,dv,hia];rw[aZw _ hf0];generalize o.frames.getD (o.frames.length-1) eK=f0 at hia hfv⊢;have u1: ∀t,cnt 0 t<=aC (aC cnt 0 3 (cnt 0 3+1)) 0 6 (cnt 0 6+1) 0 t:=(by(repeat refine upS ?_ (by omega));exact aN _)
 have b1:TB kt kr (((en.set ⟨0,3,cnt 0 3⟩ (some (.box [.i o.form,.i o.n,.fz (o.vals.map aE.enc),.fz (o.frames.map aA.enc)] false))).set ⟨0,6,cnt 0 6⟩ (some (.box [.i 0,.cl [],.cl []] false))).set ⟨0,6,cnt 0 6⟩ (some (.box [.i f0.node,.fz (f0.env.map aE.enc),.fz (f0.vals.map aE.enc)] false))) (aC (aC cnt 0 3 (cnt 0 3+1)) 0 6 (cnt 0 6+1)) p w a rE K P:=
  ⟨h.okt.up u1,h.okr.up u1,h.ne,h.hK,h.hP,by simp only[H];exact ht,by simp only[H];exact hr⟩
 refine cU ?_
 simp only[go_sem,hsh]
 refine(sN b1 (l:=o.frames.take (o.frames.length-1)) (.inl (by rw[bP0])) (by rw[bPl];omega)).mono ?_
 rintro v e1 c1 ⟨rfl,⟨bv1,t1⟩,k1⟩
 obtain⟨p3,q3⟩:=k1.loc (d:=3) (g:=cnt 0 3) (by simp[aC]) h.okt.ne.symm h.okr.ne.symm
 obtain⟨p6,q6⟩:=k1.loc (d:=6) (g:=cnt 0 6) (by simp[aC]) h.okt.ne.symm h.okr.ne.symm
 simp only[go_sem]at p3 p6
 try simp only[go_sem,kK]
 refine kL ?_
 have ht1:=t1.t;have hl:f0.vals.length+1<=16777216:=by omega
 simp only[go_sem,kB,p3,p6,(aAc _).ret,aS hv0,bS,dU,tT,rZ,aA7,hl,bOc,rA,kA,kF];have hA:f0.vals.map aE.enc++[.agg [.i (aF o.vals 0).kind,.i (aF o.vals 0).n]]=(f0.vals++[aF o.vals 0]).map aE.enc:=by simp[aE.enc]
 have hL:f0.vals.length+1=(f0.vals++[aF o.vals 0]).length:=by simp
 generalize hvv:f0.vals++[aF o.vals 0]=vv at hA hL⊢;simp only[hA,hL];have hT:List.take vv.length (vv.map aE.enc)=vv.map aE.enc:=by rw[bOt (by simp)]
 simp only[go_sem,bOc,bO1,bN9,hT];obtain⟨⟨bv2,t2⟩,k2⟩:=t1.stay (cnt':=aC c1 0 41 (c1 0 41+1)) (en':=(e1.set ⟨0,41,c1 0 41⟩ (some (.blk 2 (vv.map aE.enc) (!(f0.vals.map aE.enc).isEmpty)))).set ⟨0,41,c1 0 41⟩ (some (.blk 2 (vv.map aE.enc) true))) (fun k hk=>by simp only[hk.set]) (by(repeat refine upS ?_ (by omega));exact aN _)
 refine(aD7 t2 (l:=[⟨f0.node,f0.env,vv⟩]) (.inr rfl) (by simp only[bPl,bOh,bOo];omega)).mono ?_
 rintro v e3 c3 ⟨_,⟨bv3,t3⟩,k3⟩
 have k0:dI kt kr en cnt e1 c1:=⟨fun x hx y1 y2=>by rw[k1.old x (hx.up u1) y1 y2];simp only[hx.set],fun t=>bOk (u1 t) (k1.up t)⟩
 exact⟨rfl,⟨_,_,bv3,t3⟩,(k0.trans k2).trans k3⟩
theorem aZx (h:TB kt kr en cnt p w a rE K P){o:aR}(hv:o.vals.length=0)(hf0:0<o.frames.length)(hf:o.frames.length<=40)(hff:o.frames.getD (o.frames.length-1) eK=f0)(hni:inR f0.node 0 ((p.nodes.length:Int)-1)=true)
   (hnd:p.node f0.node=nd) (hk:(f0.vals.length:Int)<nd.asks) (hkl:f0.vals.length<nd.kids.length):
  aUm kt kr en cnt p w a o (qZ w o.frames [⟨nN nd f0.vals.length,f0.env,[]⟩]):=by
 have H:=h.pre;have hn:=h.ne;have ht:=h.t;have hr:=h.r;have hw1:IntKind.i64.wrap ((o.frames.length:Int)-1)=((o.frames.length-1:Nat):Int):=by rw[aY (by omega)];omega
 have dv:decide ((0:Int)<(o.vals.length:Int))=false:=decide_eq_false (by omega)
 have hia:=fun en=>aFk (l:=o.frames) (en:=en) (k:=o.frames.length-1) (by omega)
 rw[hff]at hia;have hin:=fun en=>bI (k:= .i64) (p:=p) (en:=en) hni
 rw[hnd]at hin;have dk:decide ((f0.vals.length:Int)<nd.asks)=true:=decide_eq_true hk;have hA:=rY nd;have u1: ∀t,cnt 0 t<=aC (aC cnt 0 3 (cnt 0 3+1)) 0 7 (cnt 0 7+1) 0 t:=(by(repeat refine upS ?_ (by omega));exact aN _)
 have b1:TB kt kr ((((en.set ⟨0,3,cnt 0 3⟩ (some (.box [.i o.form,.i o.n,.fz (o.vals.map aE.enc),.fz (o.frames.map aA.enc)] false))).set ⟨0,7,cnt 0 7⟩ (some (.box [.i 0,.cl [],.cl []] false))).set ⟨0,7,cnt 0 7⟩ (some (.box [.i f0.node,.fz (f0.env.map aE.enc),.fz (f0.vals.map aE.enc)] false))).set kt (some (.box [.ptr kr 0,.i a,.cl [],.i 0,.cl [],.cl [],.i nd.op,.i nd.n,.is nd.kids,.fz (nd.pats.map Pat.enc),.cl []] false))) (aC (aC cnt 0 3 (cnt 0 3+1)) 0 7 (cnt 0 7+1)) p w a nd (.is nd.kids) (.fz (nd.pats.map Pat.enc)):=
  ⟨h.okt.up u1,h.okr.up u1,h.ne,.inl rfl,.inl rfl,cB,by rw[aK hn];simp only[H];exact hr⟩
 unfold qZ
 by_cases hc:40<(o.frames++[(⟨nN nd f0.vals.length,f0.env,[]⟩:aA)]).length
 ·rw[if_pos hc];simp only[bOr,bOh,bOo]at hc;have hL:=at_ Tryz.func172
  conv at hL=>rhs;reduce
  refine bW hL rfl rfl ?_
  simp only[go_sem,kK,H,bOc,hw1,dv,hia,ht,hr,hin,hA.ret,dk]
  refine cU ?_
  simp only[go_sem,H]
  refine(sN b1 (l:=o.frames) (.inl rfl) (by omega)).mono ?_
  rintro v e1 c1 ⟨rfl,⟨bv1,t1⟩,k1⟩
  obtain⟨p7,q7⟩:=k1.loc (d:=7) (g:=cnt 0 7) (by simp[aC]) h.okt.ne.symm h.okr.ne.symm
  rw[aK h.okt.ne.symm,cB]at p7
  try simp only[go_sem,kK]
  have k0:dI kt kr en cnt e1 c1:=⟨fun x hx y1 y2=>by rw[k1.old x (hx.up u1) y1 y2,aK y1];simp only[hx.set],fun t=>bOk (u1 t) (k1.up t)⟩
  refine eX 4 rfl ?_
  simp only[go_sem,bOp,bOm,p7];exact(wQ t1 (i:=f0.vals.length) (env:=f0.env) hkl (.inl rfl) (by omega)).mono fun _ _ _=>oB.then k0
 ·rw[if_neg hc];simp only[bOr,bOh,bOo]at hc;have hL:=at_ Tryz.func172
  conv at hL=>rhs;reduce
  refine bO hL rfl rfl ?_
  simp only[go_sem,kK,H,bOc,hw1,dv,hia,ht,hr,hin,hA.ret,dk]
  refine cU ?_
  simp only[go_sem,H]
  refine(sN b1 (l:=o.frames) (.inl rfl) (by omega)).mono ?_
  rintro v e1 c1 ⟨rfl,⟨bv1,t1⟩,k1⟩
  obtain⟨p7,q7⟩:=k1.loc (d:=7) (g:=cnt 0 7) (by simp[aC]) h.okt.ne.symm h.okr.ne.symm
  rw[aK h.okt.ne.symm,cB]at p7
  try simp only[go_sem,kK]
  have k0:dI kt kr en cnt e1 c1:=⟨fun x hx y1 y2=>by rw[k1.old x (hx.up u1) y1 y2,aK y1];simp only[hx.set],fun t=>bOk (u1 t) (k1.up t)⟩
  refine cU ?_
  simp only[go_sem,p7]
  refine(wP t1 (i:=f0.vals.length) (env:=f0.env) hkl (.inl rfl) (by omega)).mono ?_
  rintro v e2 c2 ⟨rfl,⟨bv2,t2⟩,k2⟩
  exact⟨rfl,⟨_,_,bv2,t2⟩,k0.trans k2⟩
def bDg (agg:Bool)(len size:Nat)(x i:Val):Option Res:=match x,i with
 | .agg cs,.int _ j=>if 0<=j/\ j<len/\ j.toNat*size+size<=cs.length then(iB agg ((cs.drop (j.toNat*size)).take size)).map fun v=>{v}else none
 |_,_=>none
theorem aTg {d g:Nat}{get:Opd->Val}{agg:Bool}{len size:Nat}{x i:Opd}:cO d g en get (.ixa agg len size x i)=bDg agg len size (get x) (get i):=(rfl)
theorem bCa {op:Int}(h1:1<=op)(h2:op<=28):bDg false 29 1 (.agg bFe) (.i op)=some {v:= .fn (nO.getD (op.toNat-1) 0) [] []}:=by
 have ho:op=1 \/op=2 \/op=3 \/op=4 \/op=5 \/op=6 \/op=7 \/op=8 \/op=9 \/op=10 \/op=11 \/op=12 \/op=13 \/op=14 \/op=15 \/op=16 \/op=17 \/op=18 \/op=19 \/op=20 \/op=21 \/op=22 \/op=23 \/op=24 \/op=25 \/op=26 \/op=27 \/op=28:=by omega
 rcases ho with rfl|rfl|rfl|rfl|rfl|rfl|rfl|rfl|rfl|rfl|rfl|rfl|rfl|rfl|rfl|rfl|rfl|rfl|rfl|rfl|rfl|rfl|rfl|rfl|rfl|rfl|rfl|rfl<;>rfl
theorem bCb (h:TB kt kr en cnt p w a rE K P){o:aR}(hv:o.vals.length=0)(hf0:0<o.frames.length)(hf:o.frames.length<=40)(hff:o.frames.getD (o.frames.length-1) eK=f0)
   (P0:Pre p w0 S w a (o.frames.take (o.frames.length-1)) f0 nd):
  aUm kt kr en cnt p w a o (opR p w a (o.frames.take (o.frames.length-1)) f0 nd):=by
 have H:=h.pre;have hn:=h.ne;have ht:=h.t;have hr:=h.r;have hni:=fC P0.hf;have hnd:=P0.hn;have hw1:IntKind.i64.wrap ((o.frames.length:Int)-1)=((o.frames.length-1:Nat):Int):=by rw[aY (by omega)];omega
 have dv:decide ((0:Int)<(o.vals.length:Int))=false:=decide_eq_false (by omega)
 have hia:=fun en=>aFk (l:=o.frames) (en:=en) (k:=o.frames.length-1) (by omega)
 have hsh:=fun en=>vM (size:=3) (xs:=o.frames.map aA.enc) (en:=en) (k:=o.frames.length-1) (by rw[bOc];omega)
 rw[hff]at hia;have hin:=fun en=>bI (k:= .i64) (p:=p) (en:=en) hni
 rw[hnd]at hin;have dk:decide ((f0.vals.length:Int)<nd.asks)=false:=decide_eq_false (by have:=P0.full;omega)
 have hA:=rY nd;have hO:=aK5;obtain⟨c1,c2⟩:=aJ8 P0.node;have hix:=bCa c1 c2;have u1: ∀t,cnt 0 t<=aC (aC cnt 0 3 (cnt 0 3+1)) 0 7 (cnt 0 7+1) 0 t:=(by(repeat refine upS ?_ (by omega));exact aN _)
 have b1:TB kt kr ((((en.set ⟨0,3,cnt 0 3⟩ (some (.box [.i o.form,.i o.n,.fz (o.vals.map aE.enc),.fz (o.frames.map aA.enc)] false))).set ⟨0,7,cnt 0 7⟩ (some (.box [.i 0,.cl [],.cl []] false))).set ⟨0,7,cnt 0 7⟩ (some (.box [.i f0.node,.fz (f0.env.map aE.enc),.fz (f0.vals.map aE.enc)] false))).set kt (some (.box [.ptr kr 0,.i a,.cl [],.i 0,.cl [],.cl [],.i nd.op,.i nd.n,.is nd.kids,.fz (nd.pats.map Pat.enc),.cl []] false))) (aC (aC cnt 0 3 (cnt 0 3+1)) 0 7 (cnt 0 7+1)) p w a nd (.is nd.kids) (.fz (nd.pats.map Pat.enc)):=
  ⟨h.okt.up u1,h.okr.up u1,h.ne,.inl rfl,.inl rfl,cB,by rw[aK hn];simp only[H];exact hr⟩
 have does:=fun(e2:En) (c2:Nat->Nat->Nat) (bv:Val) (h2:TS kt kr e2 c2 p w a (o.frames.take (o.frames.length-1)) f0 nd [] bv)=>aZv P0 h2
 generalize opR p w a (o.frames.take (o.frames.length-1)) f0 nd=R at does⊢;generalize nO.getD (nd.op.toNat-1) 0=fn at does hix;cases R with
 |go ev w' left' back'=>
  have hL:=at_ Tryz.func172
  conv at hL=>rhs;reduce
  refine bO hL rfl rfl ?_
  simp only[go_sem,kK,H,bOc,hw1,dv,hia,ht,hr,hin,hA.ret,dk]
  refine cU ?_
  simp only[go_sem,H,hsh]
  refine(sN b1 (l:=o.frames.take (o.frames.length-1)) (.inl (by rw[bP0])) (by rw[bPl];omega)).mono ?_
  rintro v e1 c1 ⟨rfl,⟨bv1,t1⟩,k1⟩
  obtain⟨p7,q7⟩:=k1.loc (d:=7) (g:=cnt 0 7) (by simp[aC]) h.okt.ne.symm h.okr.ne.symm
  rw[aK h.okt.ne.symm,cB]at p7
  try simp only[go_sem,kK]
  have k0:dI kt kr en cnt e1 c1:=⟨fun x hx y1 y2=>by rw[k1.old x (hx.up u1) y1 y2,aK y1];simp only[hx.set],fun t=>bOk (u1 t) (k1.up t)⟩
  have ht1:=t1.t;simp only[go_sem,p7,ht1];have t2:TS kt kr (e1.set kt (some (.box [.ptr kr 0,.i a,.fz ((o.frames.take (o.frames.length-1)).map aA.enc),.i f0.node,.fz (f0.env.map aE.enc),.fz (f0.vals.map aE.enc),.i nd.op,.i nd.n,.is nd.kids,.fz (nd.pats.map Pat.enc),bv1] false))) c1 p w a (o.frames.take (o.frames.length-1)) f0 nd [] bv1:=⟨t1.okt,t1.okr,t1.ne,t1.ob,cB,by rw[aK hn];exact t1.r⟩
  have k2:dI kt kr en cnt (e1.set kt (some (.box [.ptr kr 0,.i a,.fz ((o.frames.take (o.frames.length-1)).map aA.enc),.i f0.node,.fz (f0.env.map aE.enc),.fz (f0.vals.map aE.enc),.i nd.op,.i nd.n,.is nd.kids,.fz (nd.pats.map Pat.enc),bv1] false))) c1:=⟨fun x hx y1 y2=>by rw[aK y1];exact k0.old x hx y1 y2,k0.up⟩
  have t2t:=t2.t
  refine kL ?_
  simp only[go_sem,hO.ret,t2t,hix,aTg,kA,kF]
  refine(does _ _ _ t2).mono ?_
  rintro v e3 c3 ⟨rfl,⟨bv3,t3⟩,k3⟩
  simp only[go_sem];exact⟨⟨_,_,bv3,t3⟩,k2.trans k3⟩
 |wait=>
  have hL:=at_ Tryz.func172
  conv at hL=>rhs;reduce
  refine bO hL rfl rfl ?_
  simp only[go_sem,kK,H,bOc,hw1,dv,hia,ht,hr,hin,hA.ret,dk]
  refine cU ?_
  simp only[go_sem,H,hsh]
  refine(sN b1 (l:=o.frames.take (o.frames.length-1)) (.inl (by rw[bP0])) (by rw[bPl];omega)).mono ?_
  rintro v e1 c1 ⟨rfl,⟨bv1,t1⟩,k1⟩
  obtain⟨p7,q7⟩:=k1.loc (d:=7) (g:=cnt 0 7) (by simp[aC]) h.okt.ne.symm h.okr.ne.symm
  rw[aK h.okt.ne.symm,cB]at p7
  try simp only[go_sem,kK]
  have k0:dI kt kr en cnt e1 c1:=⟨fun x hx y1 y2=>by rw[k1.old x (hx.up u1) y1 y2,aK y1];simp only[hx.set],fun t=>bOk (u1 t) (k1.up t)⟩
  have ht1:=t1.t;simp only[go_sem,p7,ht1];have t2:TS kt kr (e1.set kt (some (.box [.ptr kr 0,.i a,.fz ((o.frames.take (o.frames.length-1)).map aA.enc),.i f0.node,.fz (f0.env.map aE.enc),.fz (f0.vals.map aE.enc),.i nd.op,.i nd.n,.is nd.kids,.fz (nd.pats.map Pat.enc),bv1] false))) c1 p w a (o.frames.take (o.frames.length-1)) f0 nd [] bv1:=⟨t1.okt,t1.okr,t1.ne,t1.ob,cB,by rw[aK hn];exact t1.r⟩
  have k2:dI kt kr en cnt (e1.set kt (some (.box [.ptr kr 0,.i a,.fz ((o.frames.take (o.frames.length-1)).map aA.enc),.i f0.node,.fz (f0.env.map aE.enc),.fz (f0.vals.map aE.enc),.i nd.op,.i nd.n,.is nd.kids,.fz (nd.pats.map Pat.enc),bv1] false))) c1:=⟨fun x hx y1 y2=>by rw[aK y1];exact k0.old x hx y1 y2,k0.up⟩
  have t2t:=t2.t
  refine kL ?_
  simp only[go_sem,hO.ret,t2t,hix,aTg,kA,kF]
  refine(does _ _ _ t2).mono ?_
  rintro v e3 c3 ⟨rfl,⟨bv3,t3⟩,k3⟩
  simp only[go_sem];exact⟨⟨_,_,_,_,bv3,t3⟩,k2.trans k3⟩
 |fail s=>
  have hL:=at_ Tryz.func172
  conv at hL=>rhs;reduce
  refine bW hL rfl rfl ?_
  simp only[go_sem,kK,H,bOc,hw1,dv,hia,ht,hr,hin,hA.ret,dk]
  refine cU ?_
  simp only[go_sem,H,hsh]
  refine(sN b1 (l:=o.frames.take (o.frames.length-1)) (.inl (by rw[bP0])) (by rw[bPl];omega)).mono ?_
  rintro v e1 c1 ⟨rfl,⟨bv1,t1⟩,k1⟩
  obtain⟨p7,q7⟩:=k1.loc (d:=7) (g:=cnt 0 7) (by simp[aC]) h.okt.ne.symm h.okr.ne.symm
  rw[aK h.okt.ne.symm,cB]at p7
  try simp only[go_sem,kK]
  have k0:dI kt kr en cnt e1 c1:=⟨fun x hx y1 y2=>by rw[k1.old x (hx.up u1) y1 y2,aK y1];simp only[hx.set],fun t=>bOk (u1 t) (k1.up t)⟩
  have ht1:=t1.t;simp only[go_sem,p7,ht1];have t2:TS kt kr (e1.set kt (some (.box [.ptr kr 0,.i a,.fz ((o.frames.take (o.frames.length-1)).map aA.enc),.i f0.node,.fz (f0.env.map aE.enc),.fz (f0.vals.map aE.enc),.i nd.op,.i nd.n,.is nd.kids,.fz (nd.pats.map Pat.enc),bv1] false))) c1 p w a (o.frames.take (o.frames.length-1)) f0 nd [] bv1:=⟨t1.okt,t1.okr,t1.ne,t1.ob,cB,by rw[aK hn];exact t1.r⟩
  have k2:dI kt kr en cnt (e1.set kt (some (.box [.ptr kr 0,.i a,.fz ((o.frames.take (o.frames.length-1)).map aA.enc),.i f0.node,.fz (f0.env.map aE.enc),.fz (f0.vals.map aE.enc),.i nd.op,.i nd.n,.is nd.kids,.fz (nd.pats.map Pat.enc),bv1] false))) c1:=⟨fun x hx y1 y2=>by rw[aK y1];exact k0.old x hx y1 y2,k0.up⟩
  have t2t:=t2.t
  refine lY 8 rfl rfl ?_
  simp only[go_sem,bOp,bOm,bPk,bPj,rJ,hO.ret,t2t,hix,aTg,kA,kF];exact⟨rfl,(does _ _ _ t2).mono fun _ _ _=>oB.then k2⟩
structure RS (kr:Key) (en:En) (cnt:Nat->Nat->Nat) (p:aI) (w:aB):Prop where
 okr:Old kr cnt
 r:en kr=some (.box [.fz (p.nodes.map aL.enc),.is p.funs,.i p.main,.fz (p.cons.map cD.enc),.fz (w.objs.map aR.enc),.is w.tasks,.fz (w.outs.map bJ.enc),.is w.ins,.i w.used] false)
theorem TS.rs (h:TS kt kr en cnt p w a left f n back bv):RS kr en cnt p w:=⟨h.okr,h.r⟩
theorem RS.to {en':En}{cnt':Nat->Nat->Nat}(h:RS kr en cnt p w)(hr:en' kr=en kr)(hu: ∀t,cnt 0 t<=cnt' 0 t):RS kr en' cnt' p w:=⟨h.okr.up hu,by rw[hr];exact h.r⟩
theorem bH7 (h:RS kr en cnt p w){w':aB}{O:Val}{K1:List Key}{E:En}{c:Nat->Nat->Nat}(hT:w'.tasks=w.tasks)(hU:w'.outs=w.outs)(hI:w'.ins=w.ins)(hus:w'.used=w.used)
  (hr:E kr=some (.box [.fz (p.nodes.map aL.enc),.is p.funs,.i p.main,.fz (p.cons.map cD.enc),O,.is w.tasks,.fz (w.outs.map bJ.enc),.is w.ins,.i w.used] false))
  (hO:cH E O=some (.fz (w'.objs.map aR.enc),K1)) (hK: ∀k∈K1,∃d,k=⟨0,d,cnt 0 d⟩) (hk: ∀k,Old k cnt->k≠kr->E k=en k) (hu: ∀t,cnt 0 t<=c 0 t):
  match nF (.ptr kr 0) [[]] E with
  |some en'=>RS kr en' c p w'/\ dI kr kr en cnt en' c
  |none=>False:=by
 have hkn:kr∉K1++([]++([]++[])):=fun hm=>by
  simp only[bPa]at hm;obtain⟨d,e⟩:=hK kr hm;exact h.okr.ne e
 rw[aQw hr hO rfl rfl rfl hkn];simp only[bPa]
 refine⟨⟨h.okr.up hu,?_⟩,fun k ho k1 _=>?_,hu⟩
 ·rw[cB,hT,hU,hI,hus]
 ·rw[aK k1,uR ho hK];exact hk k ho k1
theorem yA (h:RS kr en cnt p w){o:aR}{FV:Val}(hV:gV V (o.vals.map aE.enc))(hF:gV FV (o.frames.map aA.enc))(ha:inR a 0 ((w.tasks.length:Int)-1)=true)(hr1:inR (bQ w a) 0 ((w.objs.length:Int)-1)=true)(hs:w.objs.length<=1000000):
  WIn L (.fn 168 [] []) [.ptr kr 0,.i a,.agg [.i o.form,.i o.n,V,FV]] en cnt fun r en' cnt'=>r= .tup []/\ RS kr en' cnt' p (dR w (bQ w a) o)/\ dI kr kr en cnt en' cnt':=by
 have s2:=h.okr.set;have n2:=h.okr.new;have hr:=h.r;have m2:=h.okr.eqF;have o2:=h.okr.eqF';have hia: ∀en,oP 1 en (.fz (w.tasks.map (.int .i64))) (.i a)=some {v:= .fp [.i (bQ w a)] 0}:=fun en=>vD ha
 simp only[inR,bRt]at hr1;obtain⟨j,hj⟩:=bQd hr1.1;have hjl:j<w.objs.length:=by omega
 have hl:(w.objs.map aR.enc).length<=16777216:=by rw[bOc];omega
 have hC:=xW (w.objs.map aR.enc) (xU _) hl;have hne:w.objs.map aR.enc≠[]:=by intro he;have h0:=congrArg List.length he;simp at h0;rw[h0]at hjl;simp at hjl
 rw[oK hne]at hC;have hget:(w.objs.map aR.enc)[j]?=some (aR.enc w.objs[j]):=by simp[hjl]
 have hS:(w.objs.map aR.enc).set j (.agg [.i o.form,.i o.n,.fz (o.vals.map aE.enc),.fz (o.frames.map aA.enc)])=(dR w (bQ w a) o).objs.map aR.enc:=by simp[dR,bQi,aR.enc,hj]
 have hSl:w.objs.length=((dR w (bQ w a) o).objs.map aR.enc).length:=by simp[dR]
 have hL:=at_ Tryz.func168
 conv at hL=>rhs;reduce
 refine qI hL rfl rfl ?_
 simp only[go_sem,kK,s2];rcases hV with rfl|rfl<;>rcases hF with rfl|rfl<;>
 (simp only[go_sem,hr,s2,n2,kB,hC.ret,hget,hia,hj,hjl,bOc,eH,bQo,bPc,kF]
  rw[hj]at hS hSl;rw[hS];exact bH7 h (w':=dR w (j:Int) o) rfl rfl rfl rfl (by rw[aK h.okr.ne,cB]) (sA cB hSl) (fun k hk=>⟨12,by simpa using hk⟩) (fun k ho k1=>by simp only[ho.set,aK k1]) (by(repeat refine upS ?_ (by omega));exact aN _))
structure SB (kr:Key) (en:En) (w:aB) (a:Int) (g2 g3 g4 g6:Nat) (e:Val):Prop where
 b2:en ⟨0,2,g2⟩=some (.box [.ptr kr 0] false)
 b3:en ⟨0,3,g3⟩=some (.box [.i a] false)
 b4:en ⟨0,4,g4⟩=some (.box [e] false)
 b6:en ⟨0,6,g6⟩=some (.box [.fz (w.objs.map aR.enc),.is w.tasks,.fz (w.outs.map bJ.enc),.is w.ins,.i w.used] false)
theorem uU :(Val.ifc t v).one=true:=(rfl)
theorem oN :(Val.ifc t v).cells=[.ifc t v]:=(rfl)
theorem bCc {k:Key}:(Val.ptr k i).one=true:=(rfl)
theorem aWt {k:Key}:(Val.ptr k i).cells=[.ptr k i]:=(rfl)
theorem aTh :cZ .neq .iface .nili .nili=some (.bool false):=(rfl)
theorem bFf :cZ .neq .iface (.ifc t v) .nili=some (.bool true):=(rfl)
theorem aZy (n0:(w.obj (bQ w a)).n=0)(hf:0<(w.obj (bQ w a)).frames.length)(hv:(w.obj (bQ w a)).vals.length<=1)(he: ∀f∈(w.obj (bQ w a)).frames,f.env.length<=30)(ha:inR a 0 ((w.tasks.length:Int)-1)=true):
  cK p w a=(aGr p w a (w.obj (bQ w a))).did w a:=by
 unfold cK aGr
 simp only
 generalize w.obj (bQ w a)=o at n0 hf hv he;rw[if_neg (fun h=>h n0)]
 by_cases h1:o.vals.length=1
 ·rw[if_pos h1,if_neg (by omega),if_neg (by omega)]
  rfl
 ·have hz:o.vals.length=0:=by omega
  rw[if_neg h1,if_pos hz];have hm:o.frames.getD (o.frames.length-1) eK∈o.frames:=by
   rw[bOd,bPh (by omega)]
   exact bOg _
  have:=he _ hm;split
  ·rw[xV];unfold lJ;rw[if_neg (by omega)]
  ·exact aQt ha
theorem aKg (hp:dV p)(hsp:aV p=true)(hF:cF p w0 S w)(ha:inR a 0 ((w.tasks.length:Int)-1)=true)(n0:(w.obj (bQ w a)).n=0)(hf0:0<(w.obj (bQ w a)).frames.length)(h:TB kt kr en cnt p w a rE K P):
  aUm kt kr en cnt p w a (w.obj (bQ w a)) (aGr p w a (w.obj (bQ w a))):=by
 obtain⟨t1,t2,t3⟩:=hF.task ha;have hO:=hF.obj t1 t3;generalize w.obj (bQ w a)=o at*;have hk:=hO.ok;rw[dK,if_pos t2,jU,if_pos n0]at hk;simp only[bV,bN8,bRt,bOe,bE]at hk;obtain⟨⟨⟨⟨k1,k2⟩,k3,k4⟩,k5⟩,k6⟩:=hk;have hfo: ∀f∈o.frames,FOk p S w f:=fun f hf=>hO.frames hf
 have hm:o.frames.getD (o.frames.length-1) eK∈o.frames:=by
  rw[bOd,bPh (by omega)]
  exact bOg _
 have hfm:=hfo _ hm;have hni:=fC hfm;have hok:=hp.nodes _ (hZ hni);have hak:=aFg hok;have hfk:=hfm.ok;have hal:=aN7 hsp hni;simp only[dA,bE,bN8,bRt]at hfk;unfold aGr
 by_cases hv1:o.vals.length=0
 ·rw[if_pos hv1]
  by_cases hop:((o.frames.getD (o.frames.length-1) eK).vals.length:Int)<(p.node (o.frames.getD (o.frames.length-1) eK).node).asks
  ·rw[if_pos hop];exact aZx h hv1 hf0 (by omega) rfl hni rfl hop (by omega)
  ·rw[if_neg hop];have hl:LOk p S w (o.frames.take (o.frames.length-1)):=⟨by simp only[bPl];omega,fun f hf=>hfo f (bQr hf),fun f hf=>k6 f (by rw[hv1,bPo];exact hf)⟩
   exact bCb h hv1 hf0 (by omega) rfl ⟨hp,hsp,hF,ha,hl,hfm,rfl,by omega⟩
 ·rw[if_neg hv1];exact aTf h (by omega) hf0 (by omega) (by omega)
theorem aTi {L:bG}{ts:List Nat}{l:List aM}{f:Opd}{args:List Opd}{b:bA}{st:St}{Q:Ex->St->Prop}(h:iM L l st fun st2=>Wp L b st2 fun e st3=>ts.any (fun t=>(st3.fr t).isUndef)=false/\
   ∃st4,(∃n0,∀n,n0<=n->gK L (exec L n) (St.get st2.fr f) (args.map (St.get st2.fr)) e st3=some st4)/\ Q .ret st4):Wp L (.dfr ts l f args b) st Q:=h
theorem aG7 (s:Int):PC L 171 [.agg [.i s]] (.agg [.i 0,.i 0,.i s,.i 0,.i 0]):=by
 have hL:=at_ Tryz.func171
 conv at hL=>rhs;reduce
 refine aH hL rfl rfl ?_
 simp only[go_sem,kK]
noncomputable def bCd :{c//L 170=some c}:=by
 have hL:=at_ Tryz.func170
 conv at hL=>rhs;reduce
 exact⟨_,hL⟩
theorem aEl (hp:dV p)(hsp:aV p=true)(hF:cF p w0 S w)(ha:inR a 0 ((w.tasks.length:Int)-1)=true)(h:RS kr en cnt p w):
  WIn L (.fn 121 [] []) [.ptr kr 0,.i a] en cnt fun r en' cnt'=>r=vK (cK p w a).what (cK p w a).e/\ RS kr en' cnt' p (cK p w a).w/\ dI kr kr en cnt en' cnt':=by
 have s2:=h.okr.set;have n2:=h.okr.new;have hr:=h.r;have m2:=h.okr.eqF;have o2:=h.okr.eqF';obtain⟨t1,t2,t3⟩:=hF.task ha;have hO:=hF.obj t1 t3;have hio:=fun en=>xL (w:=w) (k:= .i64) (en:=en) t1
 have hia:=fun en=>rD (en:=en) ha
 have hL120:w.objs.length<=120:=(dL.1 hF.ok).1
 by_cases n0:(w.obj (bQ w a)).n=0
 ·have d0:decide ((w.obj (bQ w a)).n=0)=true:=decide_eq_true n0;have hk:=hO.ok;rw[dK,if_pos t2,jU,if_pos n0]at hk;simp only[bV,bN8,bRt,bOe,bE]at hk;obtain⟨⟨⟨⟨k1,k2⟩,k3,k4⟩,k5⟩,k6⟩:=hk
  by_cases hf0:(w.obj (bQ w a)).frames.length=0
  ·have hv1:(w.obj (bQ w a)).vals.length=1:=by omega
   have df:decide (((w.obj (bQ w a)).frames.length:Int)=0)=true:=decide_eq_true (by omega)
   have e:cK p w a=⟨dR w (bQ w a) ⟨6,1,(w.obj (bQ w a)).vals,[]⟩,1,⟨a,0,1,pW (aF (w.obj (bQ w a)).vals 0)⟩⟩:=by
    unfold cK;simp only;rw[if_neg (fun h=>h n0),if_pos hv1,if_pos hf0]
    generalize (w.obj (bQ w a)).vals=l at hv1
    match l,hv1 with
    |[x],_=>rfl
   rw[e];have hL:=at_ Tryz.func121
   conv at hL=>rhs;reduce
   refine bO hL rfl rfl ?_
   simp only[go_sem,kK,kZ (v:= .ptr kr 0) rfl rfl]
   refine aJ ?_
   simp only[go_sem,kK,hr,s2,m2,hia,hio,d0,df,bOc,kA,kF]
   refine WIn.mono (yA (h.to (by simp only[s2]) (by(repeat refine upS ?_ (by omega));exact aN _)) (o:=⟨6,1,(w.obj (bQ w a)).vals,[]⟩) (.inl rfl) (.inr rfl) ha t1 (by omega)) ?_
   rintro v e1 c1 ⟨rfl,r1,q1⟩
   obtain⟨p3,_⟩:=q1.loc (d:=3) (g:=cnt 0 3) (by simp[aC]) h.okr.ne.symm h.okr.ne.symm
   obtain⟨p4,_⟩:=q1.loc (d:=4) (g:=cnt 0 4) (by simp[aC]) h.okr.ne.symm h.okr.ne.symm
   obtain⟨p5,_⟩:=q1.loc (d:=5) (g:=cnt 0 5) (by simp[aC]) h.okr.ne.symm h.okr.ne.symm
   simp only[go_sem]at p3 p4 p5
   try simp only[go_sem,kK]
   refine aJ ?_
   simp only[go_sem,p3,p4,p5,aS (l:=(w.obj (bQ w a)).vals) (by omega),(wO _).ret,uU,oN,kA,kF]
   have u1: ∀t,cnt 0 t<=aC (aC (aC (aC cnt 0 2 (cnt 0 2+1)) 0 3 (cnt 0 3+1)) 0 4 (cnt 0 4+1)) 0 5 (cnt 0 5+1) 0 t:=(by(repeat refine upS ?_ (by omega));exact aN _)
   refine⟨rfl,⟨r1.okr,by rw[s2];exact r1.r⟩,⟨fun k hk a b=>by rw[hk.set,q1.old k (hk.up u1) a b];simp only[hk.set],fun t=>bOk (u1 t) (q1.up t)⟩⟩
  ·have df:decide (((w.obj (bQ w a)).frames.length:Int)=0)=false:=decide_eq_false (by omega)
   have e:=aZy (p:=p) n0 (by omega) (by omega) (fun f hf=>by have:=(hO.frames hf).ok;simp only[dA,bE,bN8,bRt]at this;omega) ha
   have hfin:=lP hp hF ha;have hfs:=lP hp (aL8 hF) ha;rw[e]at hfin hfs⊢;have hgo: ∀{ev:Option lQ} {w':aB} {left':List aA} {back':List aE} {en1:En} {cnt1:Nat->Nat->Nat} {kt:Key},aGr p w a (w.obj (bQ w a))= .go ev w' left' back'->TB kt kr en1 cnt1 p w a rE (.cl []) (.cl [])->
     WIn L (.fn 172 [] []) [.ptr kt 0,.agg [.i (w.obj (bQ w a)).form,.i (w.obj (bQ w a)).n,.fz ((w.obj (bQ w a)).vals.map aE.enc),.fz ((w.obj (bQ w a)).frames.map aA.enc)]] en1 cnt1 fun r en' cnt'=>r=aMd ev/\ (∃f' n' bv',TS kt kr en' cnt' p w' a left' f' n' back' bv')/\ dI kt kr en1 cnt1 en' cnt':=fun hR hB=>by
    have:=aKg hp hsp hF ha n0 (by omega) hB
    rw[hR]at this;exact this
   have hwait: ∀{en1:En} {cnt1:Nat->Nat->Nat} {kt:Key},aGr p w a (w.obj (bQ w a))= .wait->TB kt kr en1 cnt1 p w a rE (.cl []) (.cl [])->
     WIn L (.fn 172 [] []) [.ptr kt 0,.agg [.i (w.obj (bQ w a)).form,.i (w.obj (bQ w a)).n,.fz ((w.obj (bQ w a)).vals.map aE.enc),.fz ((w.obj (bQ w a)).frames.map aA.enc)]] en1 cnt1 fun r en' cnt'=>r=aUa/\ (∃left' f' n' back' bv',TS kt kr en' cnt' p w a left' f' n' back' bv')/\ dI kt kr en1 cnt1 en' cnt':=fun hR hB=>by
    have:=aKg hp hsp hF ha n0 (by omega) hB
    rw[hR]at this;exact this
   have hfail: ∀{s:Int} {en1:En} {cnt1:Nat->Nat->Nat} {kt:Key},aGr p w a (w.obj (bQ w a))= .fail s->TB kt kr en1 cnt1 p w a rE (.cl []) (.cl [])->
     vC L 172 [.ptr kt 0,.agg [.i (w.obj (bQ w a)).form,.i (w.obj (bQ w a)).n,.fz ((w.obj (bQ w a)).vals.map aE.enc),.fz ((w.obj (bQ w a)).frames.map aA.enc)]] en1 cnt1 (oB kt kr en1 cnt1 p s):=fun hR hB=>by
    have:=aKg hp hsp hF ha n0 (by omega) hB
    rw[hR]at this;exact this
   have hL:=at_ Tryz.func121
   conv at hL=>rhs;reduce
   refine bO hL rfl rfl ?_
   simp only[go_sem,kK,kZ (v:= .ptr kr 0) rfl rfl]
   refine aJ ?_
   simp only[go_sem,kK,hr,s2,m2,hia,hio,d0,df,bOc,kA,kF]
   refine aTi ?_
   simp only[go_sem,kK,bCc,aWt];generalize hR:aGr p w a (w.obj (bQ w a))=R at hfin hfs⊢;cases R with
   |go ev w' left' back'=>
    refine cU ?_
    simp only[go_sem]
    refine WIn.mono (hgo hR ⟨⟨rfl,by simp[aC]⟩,h.okr.up (by(repeat refine upS ?_ (by omega));exact aN _),h.okr.ne,.inr rfl,.inr rfl,by simp only[cB];rfl,by simp only[s2];exact hr⟩) ?_
    rintro v e1 c1 ⟨rfl,⟨f',n',bv',t1⟩,q1⟩
    obtain⟨p2,_⟩:=q1.loc (d:=2) (g:=cnt 0 2) (by simp[aC]) (by simp) h.okr.ne.symm
    obtain⟨p3,_⟩:=q1.loc (d:=3) (g:=cnt 0 3) (by simp[aC]) (by simp) h.okr.ne.symm
    obtain⟨p4,o4⟩:=q1.loc (d:=4) (g:=cnt 0 4) (by simp[aC]) (by simp) h.okr.ne.symm
    simp only[go_sem]at p2 p3 p4;have u1: ∀t,cnt 0 t<=c1 0 t:=fun t=>bOk (((by(repeat refine upS ?_ (by omega));exact aN _): ∀t,cnt 0 t<=(aC (aC (aC (aC (aC (aC cnt 0 2 (cnt 0 2+1)) 0 3 (cnt 0 3+1)) 0 4 (cnt 0 4+1)) 0 5 (cnt 0 5+1)) 0 6 (cnt 0 6+1)) 0 55 (cnt 0 55+1)) 0 t) t) (q1.up t)
    have hold: ∀k,Old k cnt->k≠kr->e1 k=en k:=fun k hk hkr=>by
     rw[q1.old k (hk.up (by(repeat refine upS ?_ (by omega));exact aN _)) hk.ne hkr];simp only[hk.set]
    have hfw:cF p w0 S (dR w' (bQ w' a) ⟨6,0,back',left'⟩):=by cases ev<;>exact hfin
    have hts:w.tasks.length<=w'.tasks.length:=by
     have:cF p w (fun _=>True) (dR w' (bQ w' a) ⟨6,0,back',left'⟩):=by cases ev<;>exact hfs
     exact this.pre.length_le
    have ha':inR a 0 ((w'.tasks.length:Int)-1)=true:=bDe ha hts;have hta:=(hfw.task (a:=a) ha').1;have hta':inR (bQ w' a) 0 ((w'.objs.length:Int)-1)=true:=by simpa only[dR,bP9,bQ]using hta
    have h120:w'.objs.length<=1000000:=by have:=(dL.1 hfw.ok).1;simp only[dR,bP9]at this;omega
    have ht1:=t1.t;have hr1:=t1.r;have x24: ∀(en:En) (e:Option Ent),En.set en ⟨0,4,cnt 0 4⟩ e ⟨0,55,cnt 0 55⟩=en ⟨0,55,cnt 0 55⟩:=fun _ _=>aK (by simp)
    cases ev with
    |none=>
     simp only[go_sem,kK,p2,p3,p4,aMd,aNx,aJp.ret,uU,oN,ht1,x24,t1.ob.one,t1.ob.cells]
     refine WIn.mono (yA (t1.rs.to (by simp only[s2]) (fun _=>bN9 _)) (o:=⟨6,0,back',left'⟩) t1.ob (.inl rfl) ha' hta' h120) ?_
     rintro v e2 c2 ⟨rfl,r2,q2⟩
     obtain⟨r4,_⟩:=q2.loc (d:=4) (g:=cnt 0 4) o4.2 h.okr.ne.symm h.okr.ne.symm;rw[cB]at r4;simp only[go_sem,r4,uU,oN]
     refine⟨rfl,sH bCd.2 rfl rfl rfl rfl ?_⟩
     simp only[go_sem,kK,bPb,bPa,aTh];exact⟨rfl,⟨r2.okr,by rw[s2];exact r2.r⟩,⟨fun k hk a b=>by rw[hk.set,q2.old k (hk.up u1) a b,hk.set];exact hold k hk a,fun t=>bOk (u1 t) (q2.up t)⟩⟩
    |some ev=>
     simp only[go_sem,kK,p2,p3,p4,aMd,aGn,(aL3 _).ret,uU,oN,ht1,x24,t1.ob.one,t1.ob.cells]
     refine WIn.mono (yA (t1.rs.to (by simp only[s2]) (fun _=>bN9 _)) (o:=⟨6,0,back',left'⟩) t1.ob (.inl rfl) ha' hta' h120) ?_
     rintro v e2 c2 ⟨rfl,r2,q2⟩
     obtain⟨r4,_⟩:=q2.loc (d:=4) (g:=cnt 0 4) o4.2 h.okr.ne.symm h.okr.ne.symm;rw[cB]at r4;simp only[go_sem,r4,uU,oN]
     refine⟨rfl,sH bCd.2 rfl rfl rfl rfl ?_⟩
     simp only[go_sem,kK,bPb,bPa,aTh];exact⟨rfl,⟨r2.okr,by rw[s2];exact r2.r⟩,⟨fun k hk a b=>by rw[hk.set,q2.old k (hk.up u1) a b,hk.set];exact hold k hk a,fun t=>bOk (u1 t) (q2.up t)⟩⟩
   |wait=>
    refine cU ?_
    simp only[go_sem]
    refine WIn.mono (hwait hR ⟨⟨rfl,by simp[aC]⟩,h.okr.up (by(repeat refine upS ?_ (by omega));exact aN _),h.okr.ne,.inr rfl,.inr rfl,by simp only[cB];rfl,by simp only[s2];exact hr⟩) ?_
    rintro v e1 c1 ⟨rfl,⟨left',f',n',back',bv',t1⟩,q1⟩
    obtain⟨p4,o4⟩:=q1.loc (d:=4) (g:=cnt 0 4) (by simp[aC]) (by simp) h.okr.ne.symm
    simp only[go_sem]at p4;have u1: ∀t,cnt 0 t<=c1 0 t:=fun t=>bOk (((by(repeat refine upS ?_ (by omega));exact aN _): ∀t,cnt 0 t<=(aC (aC (aC (aC (aC (aC cnt 0 2 (cnt 0 2+1)) 0 3 (cnt 0 3+1)) 0 4 (cnt 0 4+1)) 0 5 (cnt 0 5+1)) 0 6 (cnt 0 6+1)) 0 55 (cnt 0 55+1)) 0 t) t) (q1.up t)
    have hold: ∀k,Old k cnt->k≠kr->e1 k=en k:=fun k hk hkr=>by
     rw[q1.old k (hk.up (by(repeat refine upS ?_ (by omega));exact aN _)) hk.ne hkr];simp only[hk.set]
    simp only[go_sem,kK,p4,aUa,aL2.ret,uU,oN]
    refine⟨rfl,sH bCd.2 rfl rfl rfl rfl ?_⟩
    simp only[go_sem,kK,bPb,bPa,aTh];exact⟨rfl,⟨t1.okr,by simp only[s2];exact t1.r⟩,⟨fun k hk a b=>by simp only[hk.set];exact hold k hk a,u1⟩⟩
   |fail s=>
    refine eX 2 rfl ?_
    simp only[go_sem,bOp,bOm]
    refine vC.mono (hfail hR ⟨⟨rfl,by simp[aC]⟩,h.okr.up (by(repeat refine upS ?_ (by omega));exact aN _),h.okr.ne,.inr rfl,.inr rfl,by simp only[cB];rfl,by simp only[s2];exact hr⟩) ?_
    rintro v e1 c1 ⟨rfl,q1,O,T,U,I,u,rb⟩
    obtain⟨p2,_⟩:=q1.loc (d:=2) (g:=cnt 0 2) (by simp[aC]) (by simp) h.okr.ne.symm
    obtain⟨p3,_⟩:=q1.loc (d:=3) (g:=cnt 0 3) (by simp[aC]) (by simp) h.okr.ne.symm
    obtain⟨p4,o4⟩:=q1.loc (d:=4) (g:=cnt 0 4) (by simp[aC]) (by simp) h.okr.ne.symm
    obtain⟨p6,_⟩:=q1.loc (d:=6) (g:=cnt 0 6) (by simp[aC]) (by simp) h.okr.ne.symm
    simp only[go_sem]at p2 p3 p4 p6;have u1: ∀t,cnt 0 t<=c1 0 t:=fun t=>bOk (((by(repeat refine upS ?_ (by omega));exact aN _): ∀t,cnt 0 t<=(aC (aC (aC (aC (aC (aC cnt 0 2 (cnt 0 2+1)) 0 3 (cnt 0 3+1)) 0 4 (cnt 0 4+1)) 0 5 (cnt 0 5+1)) 0 6 (cnt 0 6+1)) 0 55 (cnt 0 55+1)) 0 t) t) (q1.up t)
    have hold: ∀k,Old k cnt->k≠kr->e1 k=en k:=fun k hk hkr=>by
     rw[q1.old k (hk.up (by(repeat refine upS ?_ (by omega));exact aN _)) hk.ne hkr];simp only[hk.set]
    have o2':Old ⟨0,2,cnt 0 2⟩ c1:=⟨rfl,bOy (by simp[aC]) (q1.up 2)⟩
    have o3':Old ⟨0,3,cnt 0 3⟩ c1:=⟨rfl,bOy (by simp[aC]) (q1.up 3)⟩
    have okr1:=h.okr.up u1;have s2b:=okr1.set;have n2b:=okr1.new
    refine⟨rfl,sH bCd.2 rfl rfl rfl rfl ?_⟩
    simp only[go_sem,kK,aD3,bPb,bPa,bFf,p2,p3,p6,rb,s2b,n2b,n2]
    refine WIn.mono (yA ⟨okr1.up (fun t=>(upS (aN c1) (a:=5) (x:=c1 0 5+1) (by omega)) t),cB⟩ (o:=⟨6,s,[],[]⟩) (.inr rfl) (.inr rfl) ha t1 (by omega)) ?_
    rintro v e2 c2 ⟨rfl,r2,q2⟩
    have u2: ∀t,c1 0 t<=c2 0 t:=fun t=>bOk ((upS (aN c1) (a:=5) (x:=c1 0 5+1) (by omega)) t) (q2.up t)
    obtain⟨r2',_⟩:=q2.loc (d:=2) (g:=cnt 0 2) (by simp only[aC];exact o2'.2) h.okr.ne.symm h.okr.ne.symm
    obtain⟨r4',_⟩:=q2.loc (d:=4) (g:=cnt 0 4) (by simp only[aC];exact o4.2) h.okr.ne.symm h.okr.ne.symm
    obtain⟨r5',_⟩:=q2.loc (d:=5) (g:=c1 0 5) (by simp[aC]) okr1.ne.symm okr1.ne.symm
    obtain⟨r3',_⟩:=q2.loc (d:=3) (g:=cnt 0 3) (by simp only[aC];exact o3'.2) h.okr.ne.symm h.okr.ne.symm
    simp only[go_sem,n2,n2b,p2,p3,p4]at r2' r3' r4' r5';have s2c:=r2.okr.set;have u3: ∀t,cnt 0 t<=c2 0 t:=fun t=>bOk (u1 t) (u2 t)
    simp only[go_sem,r3',r4',r5',(aG7 _).ret,uU,oN]
    refine⟨rfl,⟨r2.okr.up (upS (aN c2) (by omega)),by simp only[s2,s2c];exact r2.r⟩,⟨fun k hk a b=>?_,fun t=>upS (cnt:=cnt) u3 (u3 7|>fun h=>by omega) t⟩⟩
    rw[hk.set];simp only[(hk.up u3).set];rw[q2.old k (hk.up (fun t=>bOk (u1 t) (upS (aN c1) (by omega) t))) a b,aK a]
    simp only[(hk.up u1).set];exact hold k hk a
 ·have d0:decide ((w.obj (bQ w a)).n=0)=false:=decide_eq_false n0;have e:cK p w a=lS w:=by unfold cK;simp only;rw[if_pos n0]
  rw[e];have hL:=at_ Tryz.func121
  conv at hL=>rhs;reduce
  refine bO hL rfl rfl ?_
  simp only[go_sem,kK,kZ (v:= .ptr kr 0) rfl rfl]
  refine aJ ?_
  simp only[go_sem,kK,hr,s2,m2,hia,hio,d0,uU,oN,kA,kF];exact⟨rfl,⟨h.okr.up (by(repeat refine upS ?_ (by omega));exact aN _),by simp only[s2];exact hr⟩,⟨fun k hk _ _=>by simp only[hk.set],(by(repeat refine upS ?_ (by omega));exact aN _)⟩⟩
theorem aOe (i:Int):PC L 174 [.i i] (.i i):=by
 have hL:=at_ Tryz.func174
 conv at hL=>rhs;reduce
 refine aH hL rfl rfl ?_
 simp only[go_sem,kK]
theorem aRg {α:Type}{f:α->Val}{l:List α}(h:k<l.length):(l.map f).set k (f l[k])=l.map f:=by
 apply List.ext_getElem
 ·simp
 ·intro i h1 h2;rw[List.getElem_set];split
  ·rename_i e;subst e;simp
  ·rfl
theorem sB (l:List aE)(hl:l.length<=16777216):PC L 225 [.fz (l.map aE.enc),.fp [.fn 174 [] []] 0] (.fz (l.map aE.enc)):=by
 have hf:Few l.length:=by unfold Few;omega
 have hc:=aD0 (l.map aE.enc) (aQp l) (by simpa using hl)
 have hL:=at_ Tryz.func225
 conv at hL=>rhs;reduce
 refine aH hL rfl rfl ?_
 by_cases h0:l=[]
 ·subst h0;have hc0:=aD0 [] rfl (by simp)
  simp only[go_sem,kK,bOq,hc0.ret,show rO 2 []= .cl []from rfl]
  refine bH (0) (fun k st=> ∃fr en cnt,st=⟨fr,en,cnt⟩/\ (fr 0= .cl [])/\ (fr 8= .cl [])/\ (fr 9= .i 0)/\ (fr 10= .i k)) 0 (bOf _) ⟨_,_,_,rfl,(by first|(simp only[go_sem];(try rfl);done)|rfl|(simp;done)),(by first|(simp only[go_sem];(try rfl);done)|rfl|(simp;done)),(by first|(simp only[go_sem];(try rfl);done)|rfl|(simp;done)),(by first|(simp only[go_sem];(try rfl);done)|rfl|(simp;done))⟩ ?_
  rintro k st hk ⟨fr,en,cnt,rfl,h0,h8,h9,h10⟩
  simp only[go_sem,kK,h9,h10];have:k=0:=by omega
  subst this;simp only[go_sem,h0]
 ·have h0':l.map aE.enc≠[]:=by simpa using h0
  rw[oK h0']at hc;simp only[go_sem,kK,hc.ret]
  refine bH (l.length) (fun k st=> ∃fr en cnt,st=⟨fr,en,cnt⟩/\ (fr 0= .bl ⟨0,7,0⟩ 0 l.length)/\ (en ⟨0,7,0⟩=some (.blk 2 (l.map aE.enc) false))/\ (fr 1= .fp [.fn 174 [] []] 0)/\ (fr 8= .bl ⟨0,7,0⟩ 0 l.length)/\ (fr 9= .i l.length)/\ (fr 10= .i k)) 0 (bOf _) ⟨_,_,_,rfl,(by first|(simp only[go_sem,qW,h0,h8,h9,h10];(try rfl);done)|rfl|(simp;done)),(by first|(simp only[go_sem,qW,h0,h8,h9,h10];(try rfl);done)|rfl|(simp;done)),(by first|(simp only[go_sem,qW,h0,h8,h9,h10];(try rfl);done)|rfl|(simp;done)),(by first|(simp only[go_sem,qW,h0,h8,h9,h10];(try rfl);done)|rfl|(simp;done)),(by first|(simp only[go_sem,qW,h0,h8,h9,h10];(try rfl);done)|rfl|(simp;done)),(by first|(simp only[go_sem,qW,h0,h8,h9,h10];(try rfl);done)|rfl|(simp;done))⟩ ?_
  rintro k st hk ⟨fr,en,cnt,rfl,h0,e7,h1,h8,h9,h10⟩
  simp only[go_sem,kK,h9,h10]
  refine aD (fun hq=>?_) (fun hq=>?_)
  ·have h':k<l.length:=of_decide_eq_true hq;have hx:(l.map aE.enc)[k]?=some (aE.enc l[k]):=by simp[h']
   have hc1:(0:Int)<=(k:Int):=by omega
   have hc2:(k:Int)<(l.length:Int):=by omega
   have hss:=aRg (f:=aE.enc) h';simp only[go_sem,kK,e7,h8,h10,h',hx,hc1,hc2,true_and,and_true,eq_self,if_true,bO1,bPc]
   refine aD (fun hg=>?_) (fun hg=>?_)
   ·simp only[go_sem,h0,e7,h1,h10,hx,hc1,hc2,and_true,eq_self,if_true,bO1,bPc,(aOe _).ret,eH];simp only[aE.enc]at hss
    try simp only[go_sem,hss]
    refine⟨_,_,_,rfl,?_⟩
    simp only[go_sem,h0,h1,h8,h9,aQ h' hf]
   ·simp only[go_sem,h10]
    refine⟨_,_,_,rfl,?_⟩
    simp only[go_sem,h0,e7,h1,h8,h9,aQ h' hf]
  ·simp only[go_sem,h0,e7,bN9,if_true];rw[bOt (by simp)]
theorem aWu (o:aR)(hs:gJ o=true):PC L 173 [.agg [.i o.form,.i o.n,.fz (o.vals.map aE.enc),.fz (o.frames.map aA.enc)],.fn 174 [] []] (.agg [.i o.form,.i o.n,.fz (o.vals.map aE.enc),.fz (o.frames.map aA.enc)]):=by
 obtain⟨b1,b2,b3⟩:=aVy hs;have hf:Few o.frames.length:=by unfold Few;omega
 have hc:=uB (o.frames.map aA.enc) (iQ _) (by rw[bOc];omega)
 have hL:=at_ Tryz.func173
 conv at hL=>rhs;reduce
 refine aH hL rfl rfl ?_
 simp only[go_sem,kK,kZ (v:= .fn 174 [] []) rfl rfl]
 refine aJ ?_
 by_cases h0:o.frames=[]
 ·have hc0:=uB [] rfl (by simp)
  simp only[go_sem,h0,bOq,(sB o.vals (by omega)).ret,hc0.ret,show rO 3 []= .cl []from rfl,pE,kO,kA,kF]
  refine bH (0) (fun k st=> ∃fr en cnt,st=⟨fr,en,cnt⟩/\ (fr 2= .ptr ⟨0,2,0⟩ 0)/\ (en ⟨0,2,0⟩=some (.box [.i o.form,.i o.n,.fz (o.vals.map aE.enc),.cl []] false))/\ (fr 4= .ptr ⟨0,4,0⟩ 0)/\ (en ⟨0,4,0⟩=some (.box [.i 0,.i 0,.cl [],.cl []] false))/\ (fr 20= .i 0)/\ (fr 21= .i k)) 0 (bOf _) ⟨_,_,_,rfl,(by first|(simp only[go_sem];(try rfl);done)|rfl|(simp;done)),(by first|(simp only[go_sem];(try rfl);done)|rfl|(simp;done)),(by first|(simp only[go_sem];(try rfl);done)|rfl|(simp;done)),(by first|(simp only[go_sem];(try rfl);done)|rfl|(simp;done)),(by first|(simp only[go_sem];(try rfl);done)|rfl|(simp;done)),(by first|(simp only[go_sem];(try rfl);done)|rfl|(simp;done))⟩ ?_
  rintro k st hk ⟨fr,en,cnt,rfl,h2,e2,h4,e4,h20,h21⟩
  simp only[go_sem,kK,h20,h21];have:k=0:=by omega
  subst this;simp only[go_sem,h2,e2,h4,e4]
 ·have h0':o.frames.map aA.enc≠[]:=by simpa using h0
  rw[oK h0']at hc;simp only[go_sem,(sB o.vals (by omega)).ret,hc.ret,tQ,mK,bOc,kA,kF]
  refine bH (o.frames.length) (fun k st=> ∃fr en cnt,st=⟨fr,en,cnt⟩/\ (fr 2= .ptr ⟨0,2,0⟩ 0)/\ (en ⟨0,2,0⟩=some (.box [.i o.form,.i o.n,.fz (o.vals.map aE.enc),.bl ⟨0,15,0⟩ 0 o.frames.length] false))/\ (fr 4= .ptr ⟨0,4,0⟩ 0)/\ (en ⟨0,4,0⟩=some (.box [.i 0,.i 0,.cl [],.cl []] false))/\ (en ⟨0,15,0⟩=some (.blk 3 (o.frames.map aA.enc) false))/\ (en ⟨0,3,0⟩=some (.box [.fn 174 [] []] true))/\ (fr 5= .fn 225 [] [.ptr ⟨0,3,0⟩ 0])/\ (fr 19= .bl ⟨0,15,0⟩ 0 o.frames.length)/\ (fr 20= .i o.frames.length)/\ (fr 21= .i k)) 0 (bOf _) ⟨_,_,_,rfl,(by first|(simp only[go_sem,qW,h2,e2,h4,e4,h20,h21];(try rfl);done)|rfl|(simp;done)),(by first|(simp only[go_sem,qW,h2,e2,h4,e4,h20,h21];(try rfl);done)|rfl|(simp;done)),(by first|(simp only[go_sem,qW,h2,e2,h4,e4,h20,h21];(try rfl);done)|rfl|(simp;done)),(by first|(simp only[go_sem,qW,h2,e2,h4,e4,h20,h21];(try rfl);done)|rfl|(simp;done)),(by first|(simp only[go_sem,qW,h2,e2,h4,e4,h20,h21];(try rfl);done)|rfl|(simp;done)),(by first|(simp only[go_sem,qW,h2,e2,h4,e4,h20,h21];(try rfl);done)|rfl|(simp;done)),(by first|(simp only[go_sem,qW,h2,e2,h4,e4,h20,h21];(try rfl);done)|rfl|(simp;done)),(by first|(simp only[go_sem,qW,h2,e2,h4,e4,h20,h21];(try rfl);done)|rfl|(simp;done)),(by first|(simp only[go_sem,qW,h2,e2,h4,e4,h20,h21];(try rfl);done)|rfl|(simp;done)),(by first|(simp only[go_sem,qW,h2,e2,h4,e4,h20,h21];(try rfl);done)|rfl|(simp;done))⟩ ?_
  rintro k st hk ⟨fr,en,cnt,rfl,h2,e2,h4,e4,e15,e3,h5,h19,h20,h21⟩
  simp only[go_sem,kK,h20,h21]
  refine aD (fun hq=>?_) (fun hq=>?_)
  ·have h':k<o.frames.length:=of_decide_eq_true hq;have hb:=b3 _ (bOg h');have hx:(o.frames.map aA.enc)[k]?=some (aA.enc o.frames[k]):=by simp[h']
   have hc1:(0:Int)<=(k:Int):=by omega
   have hc2:(k:Int)<(o.frames.length:Int):=by omega
   have hss:=aRg (f:=aA.enc) h';simp only[aA.enc]at hss;simp only[go_sem,e15,h19,h21,h',hx,hc1,hc2,true_and,and_true,eq_self,if_true,bO1,bPc]
   refine aJ ?_
   simp only[go_sem,h2,e2,e15,e3,h5,h21,hx,hc1,hc2,true_and,and_true,eq_self,if_true,bO1,bPc,(sB _ (show o.frames[k].env.length<=16777216 by omega)).ret,(sB _ (show o.frames[k].vals.length<=16777216 by omega)).ret,eH,hss,kA,kF]
   refine⟨_,_,_,rfl,?_⟩
   simp only[go_sem,h2,e2,h4,e4,h5,h19,h20,aQ h' hf]
  ·simp only[go_sem,h2,e2,h4,e4,e15,bN9,if_true];rw[bOt (by simp)]
def aAk (what:Int):Int:=if what=2 then 2 else if what=0 then 0 else 1
theorem aHk (what:Int)(e:lQ):PC L 122 [vK what e] (.i (aAk what)):=by
 unfold vK aAk
 by_cases h2:what=2
 ·rw[if_pos h2,if_pos h2];exact aL2
 ·rw[if_neg h2,if_neg h2]
  by_cases h0:what=0
  ·rw[if_pos h0,if_pos h0];exact aJp
  ·rw[if_neg h0,if_neg h0];exact aL3 _
theorem aB0 (what:Int):decide (aAk what=2)=decide (what=2):=by
 unfold aAk;split
 ·rename_i h;simp[h]
 ·rename_i h;split<;>simp[h]
theorem aAl (what:Int):decide (aAk what=0)=decide (what=0):=by
 unfold aAk;split
 ·rename_i h;simp[h]
 ·rename_i h;split<;>rename_i h'<;>simp[h']
theorem aEm (what:Int)(e:lQ)(en:En)(n:Nat):snapD (n+4) en (vK what e)=some (vK what e,[]):=by
 unfold vK;split
 ·rfl
 ·split<;>rfl
theorem aHl (what:Int)(e:lQ):(vK what e).wk1=vK what e:=by
 unfold vK;split
 ·rfl
 ·split<;>rfl
theorem bCe (hp:dV p)(hsp:aV p=true)(hF:cF p w0 S w)(ha:inR a 0 ((w.tasks.length:Int)-1)=true):PC L 290 [.fp [.fz (p.nodes.map aL.enc),.fz (p.funs.map (.int .i64)),.i p.main,.fz (p.cons.map cD.enc),.fz (w.objs.map aR.enc),.fz (w.tasks.map (.int .i64)),.fz (w.outs.map bJ.enc),.fz (w.ins.map (.int .i64)),.i w.used] 0,.i a] (.i (aAk (cK p w a).what)):=by
 have hL:=at_ Tryz.func290
 conv at hL=>rhs;reduce
 refine aH hL rfl rfl ?_
 simp only[go_sem,kK]
 refine WIn.mono (aEl hp hsp hF ha ⟨⟨rfl,by simp[aC]⟩,by simp only[cB]⟩) ?_
 rintro v e1 c1 ⟨rfl,_,_⟩
 try simp only[go_sem,aEm,aHl,(aHk _ _).ret]
theorem aZz (hp:dV p)(hsp:aV p=true)(hF:cF p w0 S w):PC L 230 [.fp [.fz (p.nodes.map aL.enc),.fz (p.funs.map (.int .i64)),.i p.main,.fz (p.cons.map cD.enc),.fz (w.objs.map aR.enc),.fz (w.tasks.map (.int .i64)),.fz (w.outs.map bJ.enc),.fz (w.ins.map (.int .i64)),.i w.used] 0] (rO 1 ((eG p w).map (.int .i64))):=by
 have h120:=wT hF;have hw:Few w.tasks.length:=by unfold Few;omega
 have hL:=at_ Tryz.func230
 conv at hL=>rhs;reduce
 refine aH hL rfl rfl ?_
 simp only[go_sem,kK]
 refine bH w.tasks.length (fun k st=> ∃fr en cnt v,st=⟨fr,en,cnt⟩/\ fr 0= .fp [.fz (p.nodes.map aL.enc),.fz (p.funs.map (.int .i64)),.i p.main,.fz (p.cons.map cD.enc),.fz (w.objs.map aR.enc),.fz (w.tasks.map (.int .i64)),.fz (w.outs.map bJ.enc),.fz (w.ins.map (.int .i64)),.i w.used] 0/\ fr 3=v/\ fr 10= .i w.tasks.length/\ fr 11= .i k/\ aGj en v 1 ((gE p w k).map (.int .i64)) 21/\ (gE p w k=[]->v= .cl [])) 0 (bOf _) ⟨_,_,_,.cl [],rfl,by simp only[go_sem],by simp only[go_sem],by simp only[go_sem],by simp only[go_sem],.inl ⟨rfl,rfl⟩,fun _=>rfl⟩ ?_
 rintro k st hk ⟨fr,en,cnt,v,rfl,k0,k3,k10,k11,hv,hv0⟩
 simp only[go_sem,kK,k10,k11]
 refine aD (fun hq=>?_) (fun hq=>?_)
 ·have h':k<w.tasks.length:=of_decide_eq_true hq;have ha:inR (k:Int) 0 ((w.tasks.length:Int)-1)=true:=by simp only[inR,bRt];omega
  have hN:=bCe hp hsp hF ha;have hln:(gE p w k).length<=k:=by
   simp only[gE,bOc];exact bOk (List.length_filter_le _ _) (by simp)
  have hst:gE p w (k+1)=if(cK p w k).what=2 then gE p w k else gE p w k++[(k:Int)]:=by
   simp only[gE,List.range_succ,List.filter_append,bPn,List.filter_cons,List.filter_nil]
   by_cases hq:(cK p w (k:Int)).what=2<;>simp[hq]
  by_cases h2:(cK p w k).what=2
  ·have d2:decide (aAk (cK p w k).what=2)=true:=by rw[aB0];exact decide_eq_true h2
   rw[if_pos h2]at hst;simp only[go_sem,kK,h',k0,k11,hN.ret,d2]
   refine⟨_,_,_,v,rfl,?_⟩
   simp only[go_sem,k0,k3,k10,aQ h' hw,hst];exact⟨hv,hv0⟩
  ·have d2:decide (aAk (cK p w k).what=2)=false:=by rw[aB0];exact decide_eq_false h2
   rw[if_neg h2]at hst;have hl1:(gE p w k).length+1<=16777216:=by omega
   rcases hv with⟨rfl,he⟩|⟨g,rfl,he⟩
   ·have he':gE p w k=[]:=by simpa using he
    rw[he']at hst;simp only[go_sem,kK,h',k0,k3,k11,hN.ret,d2,bS,dU,iN,List.isEmpty_cons,aZd]
    refine⟨_,_,_,.bl ⟨0,21,cnt 0 21⟩ 0 1,rfl,?_⟩
    simp only[go_sem,k0,k10,aQ h' hw,hst];exact⟨.inr ⟨_,rfl,cB⟩,fun h=>by simp at h⟩
   ·simp only[go_sem,kK,h',k0,k3,k11,hN.ret,d2,bS,dU,tR,aZd,he,kP,hl1,bOc,bOh,bOo]
    refine⟨_,_,_,.bl ⟨0,21,cnt 0 21⟩ 0 ((gE p w k).length+1),rfl,?_⟩
    simp only[go_sem,k0,k10,aQ h' hw,hst,bPn];exact⟨.inr ⟨_,by simp,cB⟩,fun h=>by simp at h⟩
 ·have:k=w.tasks.length:=by simp at hq;omega
  subst this;rcases hv with⟨rfl,he⟩|⟨g,rfl,he⟩
  ·have he':eG p w=[]:=by simpa[eG]using he
   simp only[go_sem,k3,he'];rfl
  ·have hne:(eG p w).map (Val.int .i64)≠[]:=fun h0=>by
    have:=hv0 (by simpa[eG]using h0)
    cases this
   rw[oK hne];simp only[go_sem,k3,he];rfl
end
end Go.Proofs.YtmnchlhngpdffaaGreat
namespace Go.Abs
def aCp (w:aB)(a:Int):OpR->Prop
 | .go none w' _ _=>w'.tasks=w.tasks/\ w.objs<+:w'.objs/\ w'.outs=w.outs/\ w'.ins=w.ins/\ w'.used=w.used
 | .go (some e) _ _ _=>e.task=a/\ ¬e.act=0
 | .wait=>True
 | .fail s=> ¬s=0
variable {v:aE}{env:List aE}{node n a:Int}{w' w:aB}{p:aI}
section
variable {left:List aA}
theorem aTj :aCp w a (iF w left v):=⟨rfl,bRa _,rfl,rfl,rfl⟩
theorem aWv {l:List aA}:aCp w a (qZ w left l):=by
 unfold qZ;split
 ·show¬(4:Int)=0;decide
 ·exact⟨rfl,bRa _,rfl,rfl,rfl⟩
theorem aFl :aCp w a (lJ w left node env):=by
 unfold lJ;split
 ·show¬(4:Int)=0;decide
 ·exact aWv
theorem aMf {op:Int}{e:aE}(h: ¬op=0):aCp w a (jN w' a left op n v e):=⟨rfl,h⟩
theorem aWw {o:aR}:aCp w a (iF (dW w o) left v):=⟨rfl,List.prefix_append _ _,rfl,rfl,rfl⟩
theorem aTk {o:aR}:aCp w a (lJ (dW w o) left node env):=by
 unfold lJ qZ;split
 ·show¬(4:Int)=0;decide
 ·split
  ·show¬(4:Int)=0;decide
  ·exact⟨rfl,List.prefix_append _ _,rfl,rfl,rfl⟩
theorem aCq {o:aR}{k:aB->aE->OpR}(h:aCp w a (k (dW w o) (dE w.objs.length))):aCp w a (jC w o k):=by
 unfold jC;split
 ·show¬(4:Int)=0;decide
 ·exact h
theorem aMg {s:Int}(h: ¬s=0):aCp w a (.fail s):=h
theorem aEn {kids:List Int}{env:List aE}{u:aE}: ∀(l:List Pat) (i:Nat),aCp w a (fB w left kids env u i l)
 |[],i=>by show¬(3:Int)=0;decide
 |q::qs,i=>by
  simp only[fB];split
  ·exact aFl
  ·exact aEn qs (i+1)
theorem aRh {c:Prop}[Decidable c]{x y:OpR}(hx:c->aCp w a x)(hy: ¬c->aCp w a y):aCp w a (if c then x else y):=by
 by_cases h:c
 ·rw[if_pos h];exact hx h
 ·rw[if_neg h];exact hy h
theorem aZ0 {f:aA}{n:aL}:aCp w a (opR p w a left f n):=by
 unfold opR
 repeat' (with_reducible refine aRh (fun _=>?_) (fun _=>?_))
 all_goals try(split<;>(repeat' (with_reducible refine aRh (fun _=>?_) (fun _=>?_))))
 all_goals first
  |exact aTj
  |exact aFl
  |exact aMf (by decide)
  |exact aMg (by decide)
  |exact aEn _ _
  |exact aCq aWw
  |exact aCq aTk
  |exact aCq (aMf (by decide))
  |exact⟨rfl,bRa _,rfl,rfl,rfl⟩
  |exact aMg (by assumption)
  |trivial
end
def bDh (w:aB)(a:Int)(d:Did):Prop:=
 (d.what=0->d.e=gR/\ d.w.tasks=w.tasks/\ w.objs.length<=d.w.objs.length/\ (∀i:Nat,i<w.objs.length-> ¬(i:Int)=bQ w a->d.w.obj i=w.obj i)/\ d.w.outs=w.outs/\ d.w.ins=w.ins/\ d.w.used=w.used)/\
 (d.what=1->d.e.task=a/\ (¬d.e.act=0 \/ ¬d.e.n=0))/\ (d.what=0 \/d.what=1 \/d.what=2)/\ (d.what=2->d.w=w/\ d.e=gR)
variable {i:Nat}
theorem bCf {o:aR}(h: ¬i=n.toNat):(dR w n o).obj i=w.obj i:=by
 simp only[aB.obj,dR,bPc,bOd];rw[List.getElem?_set_ne (by omega)]
theorem aTl (h:w.objs<+:w'.objs)(hi:i<w.objs.length):w'.obj i=w.obj i:=by
 obtain⟨t,ht⟩:=h;simp only[aB.obj,bPc,bOd,<-ht,bRd hi]
theorem aZ1 (h:w'.tasks=w.tasks):bQ w' a=bQ w a:=by unfold bQ;rw[h]
theorem aEo (h0:0<=bQ w a){R:OpR}(h:aCp w a R):bDh w a (R.did w a):=by
 cases R with
 |go ev w' l b=>
  cases ev with
  |none=>
   obtain⟨h1,h2,h3,h4,h5⟩:=h;have ht:=aZ1 (a:=a) h1
   refine⟨fun _=>⟨rfl,h1,?_,fun i hi hne=>?_,h3,h4,h5⟩,fun h=>by simp[OpR.did]at h,.inl rfl,fun h=>by simp[OpR.did]at h⟩
   ·simp only[OpR.did,dR,bP9];exact h2.length_le
   ·simp only[OpR.did];rw[ht,bCf (by omega)]
    exact aTl h2 hi
  |some e=>
   obtain⟨h1,h2⟩:=h;exact⟨fun h=>by simp[OpR.did]at h,fun _=>⟨h1,.inl h2⟩,.inr (.inl rfl),fun h=>by simp[OpR.did]at h⟩
 |wait=>exact⟨fun h=>by simp[OpR.did,lS]at h,fun h=>by simp[OpR.did,lS]at h,.inr (.inr rfl),fun _=>⟨rfl,rfl⟩⟩
 |fail s=>exact⟨fun h=>by simp[OpR.did,bD]at h,fun _=>⟨rfl,.inr h⟩,.inr (.inl rfl),fun h=>by simp[OpR.did,bD]at h⟩
theorem aFm (h0:0<=bQ w a)(ha:inR a 0 ((w.tasks.length:Int)-1)=true):bDh w a (cK p w a):=by
 unfold cK
 simp only
 split
 ·exact aEo h0 (R:= .wait) trivial
 split
 ·split
  ·exact⟨fun h=>by simp at h,fun _=>⟨rfl,.inr (by simp)⟩,.inr (.inl rfl),fun h=>by simp at h⟩
  ·exact aEo h0 (R:= .go none w (aBu (w.obj (bQ w a)).frames (aF (w.obj (bQ w a)).vals 0)) []) ⟨rfl,bRa _,rfl,rfl,rfl⟩
 split
 ·rw[xV];exact aEo h0 aFl
 ·unfold rS;rw[aQt ha];exact aEo h0 aZ0
end Go.Abs
namespace Go.Proofs.YtmnchlhngpdffaaGreat
open Go.Abs Go.Proofs
set_option maxRecDepth 100000
set_option maxHeartbeats 4000000
variable {xs:List Val}{p:aI}{w w0:aB}{en:En}{kt kr:Key}{cnt:Nat->Nat->Nat}{S:Nat->Prop}{a:Int}{left:List aA}{f:aA}{back:List aE}{bv:Val}
section
variable {n:aL}
def jQ (r:aB×Nat×Bool):Val:= .tup [.i (if r.2.2=true then((r.2.1:Nat):Int)else 0),.bool r.2.2]
theorem yB (hp:dV p)(hsp:aV p=true)(hF:cF p w0 S w)(h:RS kr en cnt p w)(s:Nat)(hs:s<=5001):
  WIn L (.fn 134 [] []) [.ptr kr 0,.i (s:Int)] en cnt fun r en' cnt'=>r=jQ (cJ p w s)/\ RS kr en' cnt' p (cJ p w s).1/\ dI kr kr en cnt en' cnt':=by
 have hr:=h.r;have h120:=wT hF;have hfw:Few w.tasks.length:=by unfold Few;omega
 have hL:=at_ Tryz.func134
 conv at hL=>rhs;reduce
 refine bO hL rfl rfl ?_
 simp only[go_sem,kK,hr,bOc]
 refine bH w.tasks.length (fun k st=> ∃fr en' cnt' x t,st=⟨fr,en',cnt'⟩/\ fr 0= .ptr kr 0/\ fr 1= .i ((t:Nat):Int)/\ fr 13= .i w.tasks.length/\ fr 14= .i k/\ RS kr en' cnt' p x/\ dI kr kr en cnt en' cnt'/\
  cF p w0 S x/\ x.tasks.length=w.tasks.length/\ t<=5001/\ iE p (121-k) k x t=cJ p w s) 0 (bOf _) ⟨_,_,_,w,s,rfl,by simp only[go_sem],by simp only[go_sem],by simp only[go_sem],by simp only[go_sem],h,dI.refl _ _ _ _,hF,rfl,hs,rfl⟩ ?_
 rintro k st hk ⟨fr,en1,cnt1,x,t,rfl,k0,k1,k13,k14,hx,hkp,hFx,hxt,ht,hD⟩
 simp only[go_sem,kK,k13,k14]
 refine aD (fun hq=>?_) (fun hq=>?_)
 ·have h':k<w.tasks.length:=of_decide_eq_true hq;have ha:inR (k:Int) 0 ((x.tasks.length:Int)-1)=true:=by simp only[inR,bRt];omega
  rw[show 121-k=(120-k)+1 by omega,iE,if_pos (by omega)]at hD
  simp only[go_sem,h',k14]
  refine Go.Abs.wp_loop (fun(j:Nat) st=> ∃fr en' cnt' y,st=⟨fr,en',cnt'⟩/\ fr 0= .ptr kr 0/\ fr 1= .i ((t+j:Nat):Int)/\ fr 6= .i k/\ fr 13= .i w.tasks.length/\ fr 14= .i k/\ RS kr en' cnt' p y/\ dI kr kr en cnt en' cnt'/\
   cF p w0 S y/\ y.tasks.length=w.tasks.length/\ t+j<=5001/\ eF p k (5000-t) x=((eF p k (5000-(t+j)) y).1,(eF p k (5000-(t+j)) y).2.1+j,(eF p k (5000-(t+j)) y).2.2)) (fun j=>5001-(t+j)) 0
   ⟨_,_,_,x,rfl,by simp only[go_sem,k0],by simp only[go_sem,k1],by simp only[go_sem],by simp only[go_sem,k13],by simp only[go_sem,k14],hx,hkp,hFx,hxt,ht,rfl⟩ ?_
  clear k0 k1 k13 k14 hx hkp
  rintro j st ⟨fr,en1,cnt1,y,rfl,k0,k1,k6,k13,k14,hy,hkp,hFy,hyt,htj,hI⟩
  have hay:inR (k:Int) 0 ((y.tasks.length:Int)-1)=true:=by simp only[inR,bRt];omega
  have s2:=hy.okr.set;have n2:=hy.okr.new;have m2:=hy.okr.eqF;have o2:=hy.okr.eqF';have hyr:=hy.r;simp only[go_sem,kK,k0,k6,hyr]
  refine WIn.mono (aEl hp hsp hFy hay ⟨⟨rfl,by simp[aC]⟩,by simp only[cB]⟩) ?_
  rintro v e1 c1 ⟨rfl,r1,q1⟩
  have u1: ∀t,cnt1 0 t<=c1 0 t:=fun t=>bOk (((by(repeat refine upS ?_ (by omega));exact aN _): ∀t,cnt1 0 t<=aC cnt1 0 7 (cnt1 0 7+1) 0 t) t) (q1.up t)
  have hold: ∀k,Old k cnt1->e1 k=en1 k:=fun k hk=>by
   rw[q1.old k (hk.up (by(repeat refine upS ?_ (by omega));exact aN _)) hk.ne hk.ne];simp only[hk.set]
  have hy1:RS kr e1 c1 p y:=hy.to (hold kr hy.okr) u1;have hk1:dI kr kr en cnt e1 c1:=hkp.trans ⟨fun k hk _ _=>hold k hk,u1⟩
  have hy1r:=hy1.r;have hr1:=r1.r;have n2b:=hy1.okr.new
  by_cases h0:(cK p y k).what=0
  ·have d0:decide (aAk (cK p y k).what=0)=true:=by rw[aAl];exact decide_eq_true h0
   have hw1:IntKind.i64.wrap (((t+j:Nat):Int)+1)=((t+j+1:Nat):Int):=by rw[aY (by omega)];omega
   have hcal:=(aFm (p:=p) (by have:=(hFy.task hay).1;simp only[inR,bRt]at this;omega) hay).1 h0
   by_cases h5:5000<t+j+1
   ·have d5:decide ((5000:Int)<((t+j+1:Nat):Int))=true:=decide_eq_true (by omega)
    have hI0:eF p k (5000-t) x=(y,1+j,false):=by rw[hI,show 5000-(t+j)=0 by omega,eF,if_pos h0]
    rw[hI0]at hD;simp only[bOa,if_false]at hD;simp only[go_sem,kK,aEm,aHl,(aHk _ _).ret,k1,d0,hw1,d5];rw[<-hD];exact⟨rfl,hy1,hk1⟩
   ·have d5:decide ((5000:Int)<((t+j+1:Nat):Int))=false:=decide_eq_false (by omega)
    have hy':=lP hp hFy hay;simp only[go_sem,kK,aEm,aHl,(aHk _ _).ret,k0,k1,d0,hw1,d5,hy1r,hr1]
    refine⟨j+1,⟨_,_,_,(cK p y k).w,rfl,?_⟩,by omega⟩
    simp only[go_sem,k0,k6,k13,k14]
    refine⟨by rw[bPw],⟨hy1.okr,cB⟩,⟨fun k hk a b=>by rw[aK a];exact hk1.old k hk a b,hk1.up⟩,hy',by rw[hcal.2.1];exact hyt,by omega,?_⟩
    rw[hI,show 5000-(t+j)=(5000-(t+(j+1)))+1 by omega,eF,if_pos h0]
    simp only[bPw,Nat.add_comm 1 j]
  ·have d0:decide (aAk (cK p y k).what=0)=false:=by rw[aAl];exact decide_eq_false h0
   have hin: ∀m,eF p k m y=(y,0,true):=fun m=>by cases m<;>(rw[eF,if_neg h0])
   rw[hI,hin]at hD;simp only[if_true,bO1]at hD;simp only[go_sem,kK,aEm,aHl,(aHk _ _).ret,k1,k14,d0]
   refine⟨_,_,_,y,t+j,rfl,?_⟩
   simp only[go_sem,k0,k1,k13,aQ h' hfw];exact⟨hy1,hk1,hFy,hyt,htj,by rw[show 121-(k+1)=120-k by omega];exact hD⟩
 ·have:k=w.tasks.length:=by simp at hq;omega
  subst this;have hD':cJ p w s=(x,t,true):=by
   rw[<-hD];cases hm:121-w.tasks.length with
   |zero=>rfl
   |succ m=>rw[iE,if_neg (by omega)]
  rw[hD'];simp only[go_sem,k1];exact⟨rfl,hx,hkp⟩
theorem aB1 (e:lQ):PC L 391 [.agg [.i e.task,.i e.act,.i e.n,.i e.v.kind,.i e.v.n]] (.agg [.i e.task,.i e.act,.i e.n,.i e.v.kind,.i e.v.n]):=by
 have hL:=at_ Tryz.func391
 conv at hL=>rhs;reduce
 refine aH hL rfl rfl ?_
 simp only[go_sem,kK]
theorem aAm :PC L 392 [.agg []] (.agg [.i 0,.i 0,.i 0,.i 0,.i 0]):=by
 have hL:=at_ Tryz.func392
 conv at hL=>rhs;reduce
 refine aH hL rfl rfl ?_
 simp only[go_sem,kK]
theorem aAn :PC L 390 [.agg []] (.agg [.i 0,.i 0,.i 0,.i 0,.i 0]):=by
 have hL:=at_ Tryz.func390
 conv at hL=>rhs;reduce
 refine aH hL rfl rfl ?_
 simp only[go_sem,kK]
def evV (e:lQ):Val:= .agg [.i e.task,.i e.act,.i e.n,.i e.v.kind,.i e.v.n]
theorem aB2 (l:List Int):(l.map (Val.int .i64)).all Val.flat1=true:=by
 rw[bOe];intro x hx;obtain⟨i,_,rfl⟩:=bO5.1 hx;rfl
theorem aZ2 :(Val.cl xs).flat=false:=(rfl)
theorem aZ3 :pC (.cl xs)=false:=(rfl)
theorem aZ4 (hp:dV p)(hsp:aV p=true)(hF:cF p w0 S w)(h:RS kr en cnt p w)(pick:Int):
  WIn L (.fn 194 [] []) [.ptr kr 0,.i pick] en cnt fun r en' cnt'=>r= .tup [evV (fW p w pick).2.1,.i ((fW p w pick).2.2.1:Nat),.i (fW p w pick).2.2.2]/\ ((fW p w pick).2.2.2=0->RS kr en' cnt' p (fW p w pick).1)/\ dI kr kr en cnt en' cnt':=by
 have s2:=h.okr.set;have n2:=h.okr.new;have hr:=h.r;have m2:=h.okr.eqF;have o2:=h.okr.eqF';have h1:=rC hp (s:=0) hF;have hc:=aCo (p:=p) 121 (a:=0) (w:=w) (s:=0);have hR:=aZz hp hsp h1;have hL:=at_ Tryz.func194
 conv at hL=>rhs;reduce
 refine bO hL rfl rfl ?_
 simp only[go_sem,kK]
 refine WIn.mono (yB hp hsp hF (h.to (by simp only[s2]) (by(repeat refine upS ?_ (by omega));exact aN _)) 0 (by omega)) ?_
 rintro v e1 c1 ⟨rfl,r1,q1⟩
 obtain⟨p4,o4⟩:=q1.loc (d:=4) (g:=cnt 0 4) (by simp[aC]) h.okr.ne.symm h.okr.ne.symm
 simp only[go_sem]at p4;have u1: ∀t,cnt 0 t<=c1 0 t:=fun t=>bOk (((by(repeat refine upS ?_ (by omega));exact aN _): ∀t,cnt 0 t<=aC cnt 0 4 (cnt 0 4+1) 0 t) t) (q1.up t)
 have k1:dI kr kr en cnt e1 c1:=⟨fun k hk a b=>by rw[q1.old k (hk.up (by(repeat refine upS ?_ (by omega));exact aN _)) a b];simp only[hk.set],u1⟩
 unfold fW
 simp only
 have hq1:cJ p w 0=iE p 121 0 w 0:=rfl;rw[<-hq1]at hc;generalize hq:cJ p w 0=q at r1 h1 hR hc⊢;obtain⟨x,sn,ok⟩:=q;dsimp only at r1 h1 hR hc⊢;cases ok with
 |false=>
  rw[if_pos rfl];simp only[go_sem,kK,jQ,p4,kF];exact⟨rfl,fun h=>h.elim,⟨fun k hk a b=>by rw[hk.set];exact k1.old k hk a b,u1⟩⟩
 |true=>
  rw[if_neg (by decide)]
  have hx120:=wT h1;have hr1:=r1.r;have hc0:true=true->sn<=5000:=fun h=>by have:=hc h;omega
  by_cases hl:eG p x=[]
  ·rw[if_pos hl];have hz:rO 1 (([]:List Int).map (.int .i64))= .cl []:=rfl;rw[hl,hz]at hR;simp only[go_sem,kK,jQ,p4,hr1,hR.ret,aZ2,aZ3,bOo,n2,if_true,kF];exact⟨rfl,fun h=>by simp at h,⟨fun k hk a b=>by rw[hk.set,aK a];exact k1.old k hk a b,u1⟩⟩
  ·rw[if_neg hl];have hne:(eG p x).map (Val.int .i64)≠[]:=by simpa using hl
   rw[oK hne]at hR;have hll:(eG p x).length<=120:=by
    simp only[eG,gE,bOc];exact bOk (List.length_filter_le _ _) (by simpa using hx120)
   have hl0:0<(eG p x).length:=bRe.2 hl;have dl:decide (((eG p x).length:Int)=0)=false:=decide_eq_false (by omega)
   have hpi:=aN8 hl pick;have hem:=Int.emod_nonneg pick (show((eG p x).length:Int)≠0 by omega)
   obtain⟨i,hi⟩:=bQd hem;have hil:i<(eG p x).length:=by rw[hi]at hpi;simpa using hpi
   have ha:=aJ4 (lL (d:=0) hpi);rw[hi,bPc]at ha⊢;generalize hn:(eG p x).length=n at*;have hz: ¬((n:Int)=0):=by omega
   have e:=Int.tmod_eq_emod (a:=pick) (b:=n);have hget:((eG p x).map (Val.int .i64))[i]?=some (.i ((eG p x).getD i 0)):=by simp[bOd,hn,hil]
   have hc1:(0:Int)<=(i:Int):=by omega
   have hc2:(i:Int)<(n:Int):=by omega
   by_cases hc:0<=pick \/(n:Int)∣pick
   ·have e:pick.tmod n=(i:Int):=by rw[e,if_pos hc,hi];simp
    have di:decide ((i:Int)<0)=false:=decide_eq_false (by omega)
    simp only[go_sem,kK,jQ,hr1,hR.ret,bOc,hn,aB2,hz,e,di,hget,hc1,hc2,bPc,bO1,kF]
    refine WIn.mono (aEl hp hsp h1 ha (r1.to (by simp only[r1.okr.set]) (upS (aN c1) (by omega)))) ?_
    rintro v e2 c2 ⟨rfl,r2,q2⟩
    obtain⟨r4,o4'⟩:=q2.loc (d:=4) (g:=cnt 0 4) (by simp only[aC];exact o4.2) h.okr.ne.symm h.okr.ne.symm
    simp only[go_sem,p4]at r4;have hsn:=hc0 rfl;have hw1:IntKind.i64.wrap ((sn:Int)+1)=((sn+1:Nat):Int):=by rw[aY (by omega)];omega
    have hd:=lP hp h1 ha;have hcal:=aFm (p:=p) (by have:=(h1.task ha).1;simp only[inR,bRt]at this;omega) ha
    generalize cK p x ((eG p x).getD i 0)=d at hd hcal r2⊢;simp only[go_sem,hw1]
    refine WIn.mono (yB hp hsp hd r2 (sn+1) (by omega)) ?_
    rintro v e3 c3 ⟨rfl,r3,q3⟩
    obtain⟨r4',_⟩:=q3.loc (d:=4) (g:=cnt 0 4) o4'.2 h.okr.ne.symm h.okr.ne.symm;rw[r4]at r4';have u3: ∀t,cnt 0 t<=c3 0 t:=fun t=>bOk (u1 t) (bOk (upS (aN c1) (a:=21) (x:=c1 0 21+1) (by omega) t) (bOk (q2.up t) (q3.up t)))
    have hold: ∀k,Old k cnt->k≠kr->e3 k=en k:=fun k hk hkr=>by
     have hk1:=hk.up u1;rw[q3.old k (hk1.up fun t=>bOk (upS (aN c1) (a:=21) (x:=c1 0 21+1) (by omega) t) (q2.up t)) hkr hkr,q2.old k (hk1.up (upS (aN c1) (by omega))) hkr hkr,hk1.set]
     exact k1.old k hk hkr hkr
    generalize cJ p d.w (sn+1)=q at r3⊢;obtain⟨y,s3,ok2⟩:=q;dsimp only at r3⊢;cases ok2 with
    |false=>
     rw[if_pos (.inl rfl)];simp only[go_sem,kK,jQ,r4',kF];exact⟨rfl,fun h=>h.elim,⟨fun k hk a b=>by rw[hk.set];exact hold k hk a,u3⟩⟩
    |true=>
     by_cases h5:5000<s3
     ·have d5:decide ((5000:Int)<(s3:Int))=true:=decide_eq_true (by omega)
      rw[if_pos (.inr h5)];simp only[go_sem,kK,jQ,r4',d5,if_true,kF];exact⟨rfl,fun h=>h.elim,⟨fun k hk a b=>by rw[hk.set];exact hold k hk a,u3⟩⟩
     ·have d5:decide ((5000:Int)<(s3:Int))=false:=decide_eq_false (by omega)
      rw[if_neg (by rintro(h|h);cases h;exact h5 h)]
      by_cases hw2:d.what=2
      ·have hE:vK d.what d.e= .ifc 244 (.agg []):=by unfold vK;rw[if_pos hw2]
       rw[(hcal.2.2.2 hw2).2]at hE⊢;simp only[go_sem,kK,jQ,r4',d5,hE,aAn.ret,if_true,kF];exact⟨rfl,fun _=>⟨r3.okr,by rw[s2];exact r3.r⟩,⟨fun k hk a b=>by rw[hk.set];exact hold k hk a,u3⟩⟩
      ·by_cases hw0:d.what=0
       ·have hE:vK d.what d.e= .ifc 255 (.agg []):=by unfold vK;rw[if_neg hw2,if_pos hw0]
        rw[(hcal.1 hw0).1]at hE⊢;simp only[go_sem,kK,jQ,r4',d5,hE,aAm.ret,if_true,kF];exact⟨rfl,fun _=>⟨r3.okr,by rw[s2];exact r3.r⟩,⟨fun k hk a b=>by rw[hk.set];exact hold k hk a,u3⟩⟩
       ·have hE:vK d.what d.e= .ifc 247 (.agg [.i d.e.task,.i d.e.act,.i d.e.n,.i d.e.v.kind,.i d.e.v.n]):=by unfold vK;rw[if_neg hw2,if_neg hw0]
        simp only[go_sem,kK,jQ,r4',d5,hE,(aB1 _).ret,if_true,kF];exact⟨rfl,fun _=>⟨r3.okr,by rw[s2];exact r3.r⟩,⟨fun k hk a b=>by rw[hk.set];exact hold k hk a,u3⟩⟩
   ·rw[if_neg hc,hi]at e;have di:decide (pick.tmod n<0)=true:=decide_eq_true (by rw[e];simp only[Int.natAbs_natCast];omega)
    have hw:IntKind.i64.wrap (pick.tmod n+n)=(i:Int):=by rw[e];simp only[Int.natAbs_natCast];rw[aY (by omega)];omega
    simp only[go_sem,kK,jQ,hr1,hR.ret,bOc,hn,aB2,hz,di,hw,hget,hc1,hc2,bPc,bO1,kF]
    refine WIn.mono (aEl hp hsp h1 ha (r1.to (by simp only[r1.okr.set]) (upS (aN c1) (by omega)))) ?_
    rintro v e2 c2 ⟨rfl,r2,q2⟩
    obtain⟨r4,o4'⟩:=q2.loc (d:=4) (g:=cnt 0 4) (by simp only[aC];exact o4.2) h.okr.ne.symm h.okr.ne.symm
    simp only[go_sem,p4]at r4;have hsn:=hc0 rfl;have hw1:IntKind.i64.wrap ((sn:Int)+1)=((sn+1:Nat):Int):=by rw[aY (by omega)];omega
    have hd:=lP hp h1 ha;have hcal:=aFm (p:=p) (by have:=(h1.task ha).1;simp only[inR,bRt]at this;omega) ha
    generalize cK p x ((eG p x).getD i 0)=d at hd hcal r2⊢;simp only[go_sem,hw1]
    refine WIn.mono (yB hp hsp hd r2 (sn+1) (by omega)) ?_
    rintro v e3 c3 ⟨rfl,r3,q3⟩
    obtain⟨r4',_⟩:=q3.loc (d:=4) (g:=cnt 0 4) o4'.2 h.okr.ne.symm h.okr.ne.symm;rw[r4]at r4';have u3: ∀t,cnt 0 t<=c3 0 t:=fun t=>bOk (u1 t) (bOk (upS (aN c1) (a:=21) (x:=c1 0 21+1) (by omega) t) (bOk (q2.up t) (q3.up t)))
    have hold: ∀k,Old k cnt->k≠kr->e3 k=en k:=fun k hk hkr=>by
     have hk1:=hk.up u1;rw[q3.old k (hk1.up fun t=>bOk (upS (aN c1) (a:=21) (x:=c1 0 21+1) (by omega) t) (q2.up t)) hkr hkr,q2.old k (hk1.up (upS (aN c1) (by omega))) hkr hkr,hk1.set]
     exact k1.old k hk hkr hkr
    generalize cJ p d.w (sn+1)=q at r3⊢;obtain⟨y,s3,ok2⟩:=q;dsimp only at r3⊢;cases ok2 with
    |false=>
     rw[if_pos (.inl rfl)];simp only[go_sem,kK,jQ,r4',kF];exact⟨rfl,fun h=>h.elim,⟨fun k hk a b=>by rw[hk.set];exact hold k hk a,u3⟩⟩
    |true=>
     by_cases h5:5000<s3
     ·have d5:decide ((5000:Int)<(s3:Int))=true:=decide_eq_true (by omega)
      rw[if_pos (.inr h5)];simp only[go_sem,kK,jQ,r4',d5,if_true,kF];exact⟨rfl,fun h=>h.elim,⟨fun k hk a b=>by rw[hk.set];exact hold k hk a,u3⟩⟩
     ·have d5:decide ((5000:Int)<(s3:Int))=false:=decide_eq_false (by omega)
      rw[if_neg (by rintro(h|h);cases h;exact h5 h)]
      by_cases hw2:d.what=2
      ·have hE:vK d.what d.e= .ifc 244 (.agg []):=by unfold vK;rw[if_pos hw2]
       rw[(hcal.2.2.2 hw2).2]at hE⊢;simp only[go_sem,kK,jQ,r4',d5,hE,aAn.ret,if_true,kF];exact⟨rfl,fun _=>⟨r3.okr,by rw[s2];exact r3.r⟩,⟨fun k hk a b=>by rw[hk.set];exact hold k hk a,u3⟩⟩
      ·by_cases hw0:d.what=0
       ·have hE:vK d.what d.e= .ifc 255 (.agg []):=by unfold vK;rw[if_neg hw2,if_pos hw0]
        rw[(hcal.1 hw0).1]at hE⊢;simp only[go_sem,kK,jQ,r4',d5,hE,aAm.ret,if_true,kF];exact⟨rfl,fun _=>⟨r3.okr,by rw[s2];exact r3.r⟩,⟨fun k hk a b=>by rw[hk.set];exact hold k hk a,u3⟩⟩
       ·have hE:vK d.what d.e= .ifc 247 (.agg [.i d.e.task,.i d.e.act,.i d.e.n,.i d.e.v.kind,.i d.e.v.n]):=by unfold vK;rw[if_neg hw2,if_neg hw0]
        simp only[go_sem,kK,jQ,r4',d5,hE,(aB1 _).ret,if_true,kF];exact⟨rfl,fun _=>⟨r3.okr,by rw[s2];exact r3.r⟩,⟨fun k hk a b=>by rw[hk.set];exact hold k hk a,u3⟩⟩
theorem wU (p:aI)(w:aB)(hw:w.few)(hs:cR w=true):PC L 123 [.fp [.fz (p.nodes.map aL.enc),.fz (p.funs.map (.int .i64)),.i p.main,.fz (p.cons.map cD.enc),.fz (w.objs.map aR.enc),.fz (w.tasks.map (.int .i64)),.fz (w.outs.map bJ.enc),.fz (w.ins.map (.int .i64)),.i w.used] 0] (.agg w.cs):=by
 obtain⟨b1,b2,b3,b4⟩:=aS6 hs;have c1:=aDz (w.tasks.map (.int .i64)) (aGi _) (by simp;omega)
 have c2:=aNt (w.outs.map bJ.enc) (aQq _) (by simp;omega)
 have c3:=aDz (w.ins.map (.int .i64)) (aGi _) (by simp;omega)
 have hL:=at_ Tryz.func123
 conv at hL=>rhs;reduce
 refine aH hL rfl rfl ?_
 simp only[go_sem,kK]
 refine bBc (fun st=>st.fr 2= .ptr ⟨0,2,0⟩ 0/\ st.en ⟨0,2,0⟩=some (.box [.cl [],.cl [],.cl [],.cl [],.i 0] false)/\ st.fr 0= .fp [.fz (p.nodes.map aL.enc),.fz (p.funs.map (.int .i64)),.i p.main,.fz (p.cons.map cD.enc),.fz (w.objs.map aR.enc),.fz (w.tasks.map (.int .i64)),.fz (w.outs.map bJ.enc),.fz (w.ins.map (.int .i64)),.i w.used] 0/\ st.fr 3= .ptr ⟨0,3,0⟩ 0/\
  ∃vT vO vI,st.en ⟨0,3,0⟩=some (.box [.cl [],vT,vO,vI,.i w.used] false)/\ iZ st.en vT 1 (w.tasks.map (.int .i64)) [11]/\ iZ st.en vO 2 (w.outs.map bJ.enc) [17]/\ iZ st.en vI 1 (w.ins.map (.int .i64)) [23]) ?_ ?_
 ·refine aJ ?_
  rcases aAb 1 (w.tasks.map (Val.int .i64))with⟨t1,t2⟩|⟨t1,t2⟩<;>rw[t2]at c1<;>
  rcases aAb 2 (w.outs.map bJ.enc)with⟨o1,o2⟩|⟨o1,o2⟩<;>rw[o2]at c2<;>
  rcases aAb 1 (w.ins.map (Val.int .i64))with⟨i1,i2⟩|⟨i1,i2⟩<;>rw[i2]at c3
  all_goals simp only[go_sem,kA,kF,c1.ret,c2.ret,c3.ret,bOc,bN9,if_true,kB]
  all_goals refine⟨_,_,_,rfl,?_,?_,?_⟩
  all_goals first
   |exact .inl ⟨rfl,by assumption⟩
   |exact bBh (by simp only[go_sem];try rfl) (by simp only[bOc])
 ·rintro fr en cnt ⟨h2,e2,h1,h3,vT,vO,vI,e3,mT,mO,mI⟩
  dsimp only at h2 e2 h1 h3 e3 mT mO mI;simp only[go_sem,h1]
  refine bH w.objs.length (fun k st=> ∃fr en cnt v,st=⟨fr,en,cnt⟩/\ fr 2= .ptr ⟨0,2,0⟩ 0/\ en ⟨0,2,0⟩=some (.box [.cl [],.cl [],.cl [],.cl [],.i 0] false)/\ fr 3= .ptr ⟨0,3,0⟩ 0/\ en ⟨0,3,0⟩=some (.box [v,vT,vO,vI,.i w.used] false)/\ fr 34= .fz (w.objs.map aR.enc)/\ fr 35= .i w.objs.length/\ fr 36= .i k/\
   iZ en vT 1 (w.tasks.map (.int .i64)) [11]/\ iZ en vO 2 (w.outs.map bJ.enc) [17]/\ iZ en vI 1 (w.ins.map (.int .i64)) [23]/\ iZ en v 4 ((w.objs.take k).map aR.enc) [45]) 0 (bOf _) ⟨_,_,_,.cl [],rfl,by simp only[go_sem,h2],by simp only[go_sem,e2],by simp only[go_sem,h3],by simp only[go_sem,e3],by simp only[go_sem],by simp only[go_sem],by simp only[go_sem],mT,mO,mI,iZ.nil _ _⟩ ?_
  rintro k st hk ⟨fr,en,cnt,v,rfl,h2,e2,h3,e3,h19,h20,h21,mT,mO,mI,hv⟩
  simp only[go_sem,kK,h20,h21]
  refine aD (fun hq=>?_) (fun hq=>?_)
  ·have h':k<w.objs.length:=of_decide_eq_true hq;have hso:=aS2 hs _ (bOg h');simp only[go_sem,h',h19,h21]
   refine aJ ?_
   simp only[go_sem,h3,e3,kA,kF,bBg,(aWu _ hso).ret]
   refine aVm (D:=[45]) (xs:=(w.objs.take k).map aR.enc) (ys:=[aR.enc w.objs[k]]) (rs:=[]) ?_ ?_ ?_ rfl ?_ ?_
   ·simp only[go_sem];exact hv.keep fun t g ht=>by simp at ht;subst ht;simp only[go_sem]
   ·simp only[go_sem]
   ·rfl
   ·simp;omega
   ·intro v' en' cnt' r hown hen hcnt _ _ _;have k2:en' ⟨0,2,0⟩=some (.box [.cl [],.cl [],.cl [],.cl [],.i 0] false):=by rw[hen 0 2 0 (.inr ⟨by decide,by simp⟩)];simp only[go_sem,e2]
    have k3:en' ⟨0,3,0⟩=some (.box [v,vT,vO,vI,.i w.used] false):=by rw[hen 0 3 0 (.inr ⟨by decide,by simp⟩)];simp only[go_sem,e3]
    obtain⟨s1,s2⟩:=hown.shape;simp only[go_sem,h3,k3,h21,s1,s2]
    refine⟨_,_,_,v',rfl,?_⟩
    simp only[go_sem,h2,k2,h3,h19,h20,aQ h' hw.objs]
    refine⟨mT.keep ?_,mO.keep ?_,mI.keep ?_,?_⟩
    ·intro t g ht;simp at ht;subst ht;rw[pU (by simp),hen 0 11 g (.inr ⟨by decide,by simp⟩)];simp only[go_sem]
    ·intro t g ht;simp at ht;subst ht;rw[pU (by simp),hen 0 17 g (.inr ⟨by decide,by simp⟩)];simp only[go_sem]
    ·intro t g ht;simp at ht;subst ht;rw[pU (by simp),hen 0 23 g (.inr ⟨by decide,by simp⟩)];simp only[go_sem]
    ·rw[iP h',bPn]
     refine iZ.sub (D:=[45,45]) (iZ.keep (en:=en') hown ?_) (by simp)
     intro t g ht;simp at ht;subst ht;simp only[go_sem]
  ·have:k=w.objs.length:=by simp at hq;omega
   subst this;rw[bPt]at hv;simp only[go_sem,h2,e2,h3,e3];obtain⟨r1,ks1,s1,s1',_⟩:=(hv.keep (en':=en.set ⟨0,2,0⟩ (some (.box [v,vT,vO,vI,.i w.used] false))) fun t g ht=>by simp at ht;subst ht;simp only[go_sem]).snap 6
   obtain⟨r2,ks2,s2,s2',_⟩:=(mT.keep (en':=en.set ⟨0,2,0⟩ (some (.box [v,vT,vO,vI,.i w.used] false))) fun t g ht=>by simp at ht;subst ht;simp only[go_sem]).snap 6
   obtain⟨r3,ks3,s3,s3',_⟩:=(mO.keep (en':=en.set ⟨0,2,0⟩ (some (.box [v,vT,vO,vI,.i w.used] false))) fun t g ht=>by simp at ht;subst ht;simp only[go_sem]).snap 6
   obtain⟨r4,ks4,s4,s4',_⟩:=(mI.keep (en':=en.set ⟨0,2,0⟩ (some (.box [v,vT,vO,vI,.i w.used] false))) fun t g ht=>by simp at ht;subst ht;simp only[go_sem]).snap 6
   simp only[go_sem,s1,s2,s3,s4,s1',s2',s3',s4']
structure bMj (en:En) (cnt:Nat->Nat->Nat) (en':En) (cnt':Nat->Nat->Nat):Prop where
 old: ∀k,Old k cnt->en' k=en k
 up: ∀t,cnt 0 t<=cnt' 0 t
theorem aGs (p:aI)(w:aB)(hp:p.few)(hw:w.few)(hs:aV p=true):WIn L (.fn 119 [] []) [.agg p.cs,.agg w.cs] en cnt fun v en' cnt'=>
  (iJ p w=true->v= .tup [.ptr ⟨0,13,cnt 0 13⟩ 0,.bool true]/\ RS ⟨0,13,cnt 0 13⟩ en' cnt' p w)/\ (iJ p w=false-> ∃x,v= .tup [x,.bool false])/\ bMj en cnt en' cnt':=by
 have hb:=vG p hp hs;have hL:=at_ Tryz.func119
 conv at hL=>rhs;reduce
 refine bO hL rfl rfl ?_
 cases hf:eY p with
 |false=>
  rw[hf]at hb;simp only[go_sem,kK,hb.ret]
  refine⟨fun h=>by simp[iJ,hf]at h,fun _=>⟨_,rfl⟩,fun k hk=>by simp only[hk.set],(by(repeat refine upS ?_ (by omega));exact aN _)⟩
 |true=>
  rw[hf]at hb;simp only[go_sem,kK,hb.ret,(qX p w hp hw).ret];rw[aJk p w hf]
  refine⟨fun h=>?_,fun h=>?_,fun k hk=>by simp only[hk.set],(by(repeat refine upS ?_ (by omega));exact aN _)⟩
  ·have:dO p w=true:=by simpa[iJ,hf]using h
   rw[this];exact⟨rfl,⟨rfl,by simp[aC]⟩,cB⟩
  ·have:dO p w=false:=by simpa[iJ,hf]using h
   rw[this];exact⟨_,rfl⟩
end
structure dB where
 every:Int
 picks:List Int
 marks:List aB
def aB.enc (w:aB):Val:= .agg w.cs
abbrev dB.cs (l:dB):List Val:=[.i l.every,.is l.picks,.fz (l.marks.map aB.enc)]
abbrev ply (p:aI)(l:dB):Val:= .fp [.i l.every,.is l.picks,.fz (l.marks.map aB.enc),.fz (p.nodes.map aL.enc),.fz (p.funs.map (.int .i64)),.i p.main,.fz (p.cons.map cD.enc)] 0
def dB.enc (l:dB):Val:= .agg [.i l.every,.is l.picks,.fz (l.marks.map aB.enc)]
def aB3 :aB:=⟨[],[],[],[],0⟩
def kS (l:dB)(t:Nat):Int:=l.picks.getD t 0
def pR (l:dB)(i:Nat):aB:=l.marks.getD i aB3
def aP (l:dB):Nat:=l.every.toNat
def mN (p:aI)(l:dB):Bool:=
 eY p&&inR l.every 1 20&&decide (l.picks.length<=200)&&decide (l.marks.length=l.picks.length/aP l+1)&&l.marks.all (dO p)
def eS (p:aI)(w:aB)(pick:Int):aB×lQ×Int:=
 let r:=fW p w pick
 if r.2.2.2=5 then(w,gR,6)else if r.2.2.2=0 then(r.1,r.2.1,0)else(w,gR,r.2.2.2)
def aAo (p:aI)(l:dB):Nat->Nat->aB->aB×Int
 |_,0,w=>(w,0)
 |i,k+1,w=>if(eS p w (kS l i)).2.2=0 then aAo p l (i+1) k (eS p w (kS l i)).1 else(aB3,(eS p w (kS l i)).2.2)
def atX (p:aI)(l:dB)(n:Nat):aB×Int:=aAo p l (n/aP l*aP l) (n-n/aP l*aP l) (pR l (n/aP l))
def bP (p:aI)(l:dB)(t:Nat):aB×lQ×Int:=
 if(atX p l t).2=0 then(if(eS p (atX p l t).1 (kS l t)).2.2=0 then eS p (atX p l t).1 (kS l t)else(aB3,(eS p (atX p l t).1 (kS l t)).2.1,(eS p (atX p l t).1 (kS l t)).2.2))else((atX p l t).1,gR,(atX p l t).2)
theorem aRi {p:aI}{l:dB}: ∀(a b i:Nat) (w:aB),aAo p l i (a+b) w=if(aAo p l i a w).2=0 then aAo p l (i+a) b (aAo p l i a w).1 else(aB3,(aAo p l i a w).2)
 |0,b,i,w=>by simp[aAo]
 |a+1,b,i,w=>by
  rw[show a+1+b=(a+b)+1 by omega,aAo,aAo]
  split
  ·rw[aRi a b (i+1),show i+1+a=i+(a+1)by omega]
  ·rfl
variable {l:dB}{n:Nat}
theorem aKh {n:Nat}(he:0<aP l)(hm: ¬(n+1)%aP l=0):atX p l (n+1)=if(atX p l n).2=0 then(if(eS p (atX p l n).1 (kS l n)).2.2=0 then((eS p (atX p l n).1 (kS l n)).1,0)else(aB3,(eS p (atX p l n).1 (kS l n)).2.2))else(aB3,(atX p l n).2):=by
 have hd:(n+1)/aP l=n/aP l:=by
  rw[Nat.succ_div];rw[if_neg (fun h=>hm (Nat.mod_eq_zero_of_dvd h)),bPo]
 have hle:n/aP l*aP l<=n:=bRo ..;unfold atX;rw[hd,show n+1-n/aP l*aP l=(n-n/aP l*aP l)+1 by omega,aRi,show n/aP l*aP l+(n-n/aP l*aP l)=n by omega]
 split
 ·simp only[aAo]
 ·rfl
theorem rF {n:Nat}(he:0<aP l)(hm:n%aP l=0):atX p l n=(pR l (n/aP l),0):=by
 have:n/aP l*aP l=n:=Nat.div_mul_cancel (Nat.dvd_of_mod_eq_zero hm);unfold atX;rw[this,Nat.sub_self];rfl
theorem aRj (hp:dV p)(h:dO p w=true)(pick:Int):dO p (eS p w pick).1=true:=by
 have hF:cF p w (fun _=>True) w:=⟨h,bN9 _,fun _ _=>rfl,bRa _,fun _ _ _ _ _ _=>trivial,fun _ _=>trivial,fun _ _=>trivial⟩
 have:=(aL9 hp hF pick).ok;unfold eS
 simp only
 split
 ·exact h
 split
 ·exact this
 ·exact h
theorem aHm (h:dO p w=true):cF p w (fun _=>True) w:=⟨h,bN9 _,fun _ _=>rfl,bRa _,fun _ _ _ _ _ _=>trivial,fun _ _=>trivial,fun _ _=>trivial⟩
theorem aUn {p:aI}(hp:dV p){l:dB}: ∀(k i:Nat) {w:aB},dO p w=true->(aAo p l i k w).2=0->dO p (aAo p l i k w).1=true
 |0,_,_,h,_=>h
 |k+1,i,w,h,he=>by
  rw[aAo]at he⊢;split
  ·rename_i ht;rw[if_pos ht]at he;exact aUn hp k (i+1) (aRj hp h _) he
  ·rename_i ht;rw[if_neg ht]at he;exact absurd he ht
theorem qH (h:mN p l=true):eY p=true/\ (1<=aP l/\ aP l<=20/\ l.every=(aP l:Int))/\ l.picks.length<=200/\ l.marks.length=l.picks.length/aP l+1/\ ∀w∈l.marks,dO p w=true:=by
 simp only[mN,bN8,bRt,bOe,inR]at h;obtain⟨⟨⟨⟨h1,h2⟩,h3⟩,h4⟩,h5⟩:=h
 refine⟨h1,⟨?_,?_,?_⟩,h3,h4,h5⟩<;>unfold aP<;>omega
theorem bCg (h:mN p l=true){n:Nat}(hn:n<=l.picks.length):dO p (pR l (n/aP l))=true:=by
 obtain⟨_,⟨h1,_⟩,_,h4,h5⟩:=qH h;have:n/aP l<l.marks.length:=by
  rw[h4];have:=Nat.div_le_div_right (c:=aP l) hn;omega
 refine h5 _ ?_
 unfold pR;rw[bOd,bPh this];exact bOg _
theorem aOf (hp:dV p)(h:mN p l=true){n:Nat}(hn:n<=l.picks.length)(he:(atX p l n).2=0):dO p (atX p l n).1=true:=
 aUn hp _ _ (bCg h hn) he
section
variable {n:aL}
def aAp :aB:=⟨[],[],[],[],0⟩
def yO (p:aI)(w:aB)(pick:Int):aB×lQ×Nat×Int:=
 if iJ p w=true then(if(fW p w pick).2.2.2=0 then fW p w pick else(aAp,gR,0,(fW p w pick).2.2.2))else(aAp,gR,0,2)
theorem aWx (p:aI)(w:aB)(pick:Int):(fW p w pick).2.2.2=0 \/(fW p w pick).2.2.2=5 \/(fW p w pick).2.2.2=8:=by
 unfold fW;simp only;split
 ·exact .inr (.inr rfl)
 split
 ·exact .inr (.inl rfl)
 split
 ·exact .inr (.inr rfl)
 ·exact .inl rfl
theorem aUo {cs:List Val}:(Val.agg (.fz xs::cs)).flat=false:=(rfl)
theorem aEp (p:aI)(w:aB)(pick:Int)(hp:p.few)(hw:w.few)(hsp:aV p=true):
  PC L 145 [.agg p.cs,.agg w.cs,.i pick] (.tup [.agg (yO p w pick).1.cs,evV (yO p w pick).2.1,.i ((yO p w pick).2.2.1:Nat),.i (yO p w pick).2.2.2]):=by
 have hL:=at_ Tryz.func145
 conv at hL=>rhs;reduce
 refine aH hL rfl rfl ?_
 simp only[go_sem,kK]
 refine WIn.mono (aGs p w hp hw hsp) ?_
 rintro v e1 c1 ⟨h1,h2,h3⟩
 have p6:=h3.old ⟨0,6,0⟩ ⟨rfl,by simp[aC]⟩
 have p7:=h3.old ⟨0,7,0⟩ ⟨rfl,by simp[aC]⟩
 have c6:=h3.up 6;have c7:=h3.up 7;simp only[go_sem]at p6 p7;unfold yO;cases hg:iJ p w with
 |false=>
  obtain⟨x,rfl⟩:=h2 hg;rw[if_neg (by decide)]
  simp only[go_sem,kK,p6,p7,aAp,aB.cs,Val.is,gR,kR,evV,bOq]
 |true=>
  obtain⟨rfl,r1⟩:=h1 hg;rw[if_pos rfl];have hF:cF p w (fun _=>True) w:=by
   simp only[iJ,bN8]at hg;exact aHm hg.2
  have hpf:dV p:=by
   simp only[iJ,bN8]at hg;exact oL hg.1
  simp only[go_sem,kK]
  refine WIn.mono (aZ4 hpf hsp hF r1 pick) ?_
  rintro v e2 c2 ⟨rfl,r2,q2⟩
  have k13: ∀d g,¬d=13->(⟨0,d,g⟩:Key)≠⟨0,13,0⟩:=fun d g h he=>h (by injection he)
  obtain⟨p6',o6⟩:=q2.loc (d:=6) (g:=0) c6 (k13 _ _ (by decide)) (k13 _ _ (by decide))
  obtain⟨p7',o7⟩:=q2.loc (d:=7) (g:=0) c7 (k13 _ _ (by decide)) (k13 _ _ (by decide))
  rw[p6]at p6';rw[p7]at p7';have o6':=o6.eqF';have o7':=o7.eqF';have o6n:=o6.set;have o7n:=o7.set
  by_cases h0:(fW p w pick).2.2.2=0
  ·have d0:decide ((fW p w pick).2.2.2=0)=true:=decide_eq_true h0;have r2':RS ⟨0,13,0⟩ e2 c2 p (fW p w pick).1:=r2 h0;have hkr:=r2'.r;have s2:=r2'.okr.set;have hFt:=aL9 hpf hF pick;have hcp:=wU p (fW p w pick).1 (wS (tX hsp hFt.ok)) (tX hsp hFt.ok);rw[if_pos h0];simp only[go_sem,kK,evV,d0]
   refine aJ ?_
   simp only[go_sem,p6',p7',o6n,o7n,s2,hkr,hcp.ret,aUo,kA,kF];rw[h0]
  ·have d0:decide ((fW p w pick).2.2.2=0)=false:=decide_eq_false h0;rw[if_neg h0];simp only[go_sem,kK,evV,d0,p6',p7',o6n,o7n,aAp,aB.cs,Val.is,gR,kR,bOq]
def sC (p:aI)(w:aB):aB×Nat×Int:=
 if iJ p w=true then(if(cJ p w 0).2.2=true then((cJ p w 0).1,(cJ p w 0).2.1,0)else(aAp,0,8))else(aAp,0,2)
theorem aKi (p:aI)(w:aB)(hp:p.few)(hw:w.few)(hsp:aV p=true):
  PC L 96 [.agg p.cs,.agg w.cs] (.tup [.agg (sC p w).1.cs,.i ((sC p w).2.1:Nat),.i (sC p w).2.2]):=by
 have hL:=at_ Tryz.func96
 conv at hL=>rhs;reduce
 refine aH hL rfl rfl ?_
 simp only[go_sem,kK]
 refine WIn.mono (aGs p w hp hw hsp) ?_
 rintro v e1 c1 ⟨h1,h2,h3⟩
 have p4:=h3.old ⟨0,4,0⟩ ⟨rfl,by simp[aC]⟩
 have c4:=h3.up 4;simp only[go_sem]at p4;unfold sC;cases hg:iJ p w with
 |false=>
  obtain⟨x,rfl⟩:=h2 hg;rw[if_neg (by decide)]
  simp only[go_sem,kK,p4,aAp,aB.cs,Val.is,bOq]
 |true=>
  obtain⟨rfl,r1⟩:=h1 hg;rw[if_pos rfl];have hF:cF p w (fun _=>True) w:=by
   simp only[iJ,bN8]at hg;exact aHm hg.2
  have hpf:dV p:=by
   simp only[iJ,bN8]at hg;exact oL hg.1
  simp only[go_sem,kK]
  refine WIn.mono (yB hpf hsp hF r1 0 (by omega)) ?_
  rintro v e2 c2 ⟨rfl,r2,q2⟩
  have k13: ∀d g,¬d=13->(⟨0,d,g⟩:Key)≠⟨0,13,0⟩:=fun d g h he=>h (by injection he)
  obtain⟨p4',o4⟩:=q2.loc (d:=4) (g:=0) c4 (k13 _ _ (by decide)) (k13 _ _ (by decide))
  rw[p4]at p4';have hFt:=rC hpf (s:=0) hF;have r2':RS ⟨0,13,0⟩ e2 c2 p (cJ p w 0).1:=r2;have hcp:=wU p (cJ p w 0).1 (wS (tX hsp hFt.ok)) (tX hsp hFt.ok);generalize cJ p w 0=q at r2' hcp⊢;obtain⟨x,sn,ok⟩:=q;dsimp only at r2' hcp⊢;have hkr:=r2'.r;cases ok with
  |true=>
   rw[if_pos rfl];simp only[go_sem,kK,jQ,p4',hkr,hcp.ret,aUo,if_true,kF]
  |false=>
   rw[if_neg (by decide)]
   simp only[go_sem,kK,jQ,p4',aAp,aB.cs,Val.is,bOq,kF]
end
def aAq (p:aI)(l:dB):Nat->Nat->Int
 |_,0=> -1
 |t,k+1=>if(bP p l t).2.2=0 then(if(t+1)%aP l=0/\ ¬(bP p l t).1=pR l ((t+1)/aP l)then(t:Int)+1 else aAq p l (t+1) k)else(t:Int)+1
def vN (p:aI)(l:dB):Int:=
 if(cJ p (pR l 0) 0).2.2=true/\ (cJ p (pR l 0) 0).2.1=0 then aAq p l 0 l.picks.length else 0
def bFg (w:aB)(a:Int):Int:=(aF ((w.obj (bQ w a)).frames.getD ((w.obj (bQ w a)).frames.length-1) eK).vals 0).n
structure bDi where
 kind:Int
 n:Int
 v:aE
def bDi.enc (c:bDi):Val:= .agg [.i c.kind,.i c.n,.i c.v.kind,.i c.v.n]
def aAr (e:Int):Val:= .ifc 167 (.agg [.i e])
theorem sD (e:Int):PC L 61 [.bool true,.i e] (.tup []):=by
 have hL:=at_ Tryz.func61
 conv at hL=>rhs;reduce
 refine aH hL rfl rfl ?_
 simp only[go_sem,kK]
theorem yC (e:Int):PX L 61 [.bool false,.i e] (aAr e):=by
 have hL:=at_ Tryz.func61
 conv at hL=>rhs;reduce
 refine aIp hL rfl rfl ?_
 simp only[go_sem,kK]
 refine eX 3 rfl ?_
 simp only[go_sem,bOp,bOm];exact⟨rfl,rfl⟩
def dB.few (l:dB):Prop:=Few l.picks.length/\ Few l.marks.length/\ ∀w∈l.marks,w.few
theorem qL {k:Nat}(h:k<l.marks.length):oP 5 en (.fz (l.marks.map aB.enc)) (.i (k:Int))=some {v:= .fp [.fz (l.marks[k].objs.map aR.enc),.is l.marks[k].tasks,.fz (l.marks[k].outs.map bJ.enc),.is l.marks[k].ins,.i l.marks[k].used] 0}:=by
 simp[oP,h,aB.enc];exact⟨rfl,rfl⟩
def aFn (p:aI)(l:dB):Bool:=!(decide (l.every<1)||decide ((20:Int)<l.every)||decide ((200:Int)<l.picks.length)||!decide ((l.marks.length:Int)=(l.picks.length:Int).tdiv l.every+1))&&l.marks.all (iJ p)
theorem aB4 (p:aI)(l:dB)(hp:p.few)(hl:l.few)(hsp:aV p=true):PC L 42 [.agg p.cs,.agg l.cs] (.i (if aFn p l=true then 0 else 2)):=by
 have hnb: ∀{b:Bool},aFn p l=b->(if aFn p l=true then(0:Int)else 2)=if b=true then 0 else 2:=fun h=>by rw[h]
 have hL:=at_ Tryz.func42
 conv at hL=>rhs;reduce
 refine aH hL rfl rfl ?_
 by_cases h1:l.every<1
 ·have d1:decide (l.every<1)=true:=decide_eq_true h1;rw[hnb (b:=false) (by simp[aFn,h1])]
  simp only[go_sem,kK,d1,kF]
 have d1:decide (l.every<1)=false:=decide_eq_false h1
 by_cases h2:20<l.every
 ·have d2:decide ((20:Int)<l.every)=true:=decide_eq_true h2;rw[hnb (b:=false) (by simp[aFn,h2])]
  simp only[go_sem,kK,d1,d2,kF]
 have d2:decide ((20:Int)<l.every)=false:=decide_eq_false h2
 by_cases h3:(200:Int)<l.picks.length
 ·have d3:decide ((200:Int)<(l.picks.length:Int))=true:=decide_eq_true h3;rw[hnb (b:=false) (by simp only[aFn,d3,bP3,Bool.true_or,bOn,bOx])]
  simp only[go_sem,kK,bOc,d1,d2,d3,kF]
 have d3:decide ((200:Int)<(l.picks.length:Int))=false:=decide_eq_false h3;have hz: ¬(l.every=0):=by omega
 have hdv:=Int.tdiv_nonneg (show(0:Int)<=(l.picks.length:Int)by omega) (show 0<=l.every by omega)
 have hdl:((l.picks.length:Int)).tdiv l.every<=200:=by
  have:=Int.tdiv_le_self (a:=(l.picks.length:Int)) l.every (by omega)
  omega
 have hw1:IntKind.i64.wrap (((l.picks.length:Int)).tdiv l.every)=((l.picks.length:Int)).tdiv l.every:=aY (by omega)
 have hw2:IntKind.i64.wrap (((l.picks.length:Int)).tdiv l.every+1)=((l.picks.length:Int)).tdiv l.every+1:=aY (by omega)
 by_cases h4:(l.marks.length:Int)=((l.picks.length:Int)).tdiv l.every+1
 case neg=>
  have d4:decide ((l.marks.length:Int)=((l.picks.length:Int)).tdiv l.every+1)=false:=decide_eq_false h4;rw[hnb (b:=false) (by simp only[aFn,d4,bOs,bP3,bOn,bOx])]
  simp only[go_sem,kK,bOc,d1,d2,d3,hz,hw1,hw2,d4,kF]
 have d4:decide ((l.marks.length:Int)=((l.picks.length:Int)).tdiv l.every+1)=true:=decide_eq_true h4;have hm:Few l.marks.length:=hl.2.1;have hall:aFn p l=l.marks.all (iJ p):=by simp only[aFn,d1,d2,d3,d4,bOn,Bool.or_self,bOs,bO3]
 rw[hall];simp only[go_sem,kK,bOc,d1,d2,d3,hz,hw1,hw2,d4,kF]
 refine bH (l.marks.length) (fun k st=> ∃fr en cnt,st=⟨fr,en,cnt⟩/\ (fr 2= .ptr ⟨0,2,0⟩ 0)/\ (en ⟨0,2,0⟩=some (.box p.cs false))/\ (fr 3= .ptr ⟨0,3,0⟩ 0)/\ (en ⟨0,3,0⟩=some (.box l.cs false))/\ (fr 35= .fz (l.marks.map aB.enc))/\ (fr 36= .i l.marks.length)/\ (fr 37= .i k)/\ ((l.marks.take k).all (iJ p)=true)) 0 (bOf _) ⟨_,_,_,rfl,(by first|(simp only[go_sem];(try rfl);done)|rfl|(simp;done)),(by first|(simp only[go_sem];(try rfl);done)|rfl|(simp;done)),(by first|(simp only[go_sem];(try rfl);done)|rfl|(simp;done)),(by first|(simp only[go_sem];(try rfl);done)|rfl|(simp;done)),(by first|(simp only[go_sem];(try rfl);done)|rfl|(simp;done)),(by first|(simp only[go_sem];(try rfl);done)|rfl|(simp;done)),(by first|(simp only[go_sem];(try rfl);done)|rfl|(simp;done)),(by first|(simp only[go_sem];(try rfl);done)|rfl|(simp;done))⟩ ?_
 rintro k st hk ⟨fr,en,cnt,rfl,h2,e2,h3,e3,h35,h36,h37,hA⟩
 simp only[go_sem,kK,h36,h37]
 refine aD (fun hq=>?_) (fun hq=>?_)
 ·have h':k<l.marks.length:=of_decide_eq_true hq;have hia:=fun en=>qL (l:=l) (en:=en) h'
  have hC:=aK1 p l.marks[k] hp (hl.2.2 _ (bOg h')) hsp;cases hg:iJ p l.marks[k]with
  |false=>
   rw[hg]at hC;have hna:l.marks.all (iJ p)=false:=by
    rw[List.all_eq_false];exact⟨_,bOg h',by rw[hg];decide⟩
   rw[hna];simp only[go_sem,kK,h2,e2,h35,h37,h',hia,hC.ret,kF]
  |true=>
   rw[hg]at hC;simp only[go_sem,kK,h2,e2,h35,h37,h',hia,hC.ret,if_true,kF]
   refine⟨_,_,_,rfl,?_⟩
   simp only[go_sem,h2,e2,h3,e3,h35,h36,aQ h' hm];rw[iP h',List.all_append,hA,bO3,bQg,List.all_nil,hg];rfl
 ·have:k=l.marks.length:=by simp at hq;omega
  subst this;rw[bPt]at hA;rw[hA];simp only[go_sem,if_true]
theorem aMh (n:Nat)(he:1<=aP l)(hn:n<=1000000)(hev:l.every=(aP l:Int)):PC L 107 [(ply p l),.i (n:Int)] (.bool (decide (n%aP l=0))):=by
 have h0: ¬((aP l:Int)=0):=by omega
 have e:((n:Int)).tmod (aP l:Int)=((n%aP l:Nat):Int):=by
  rw[Int.tmod_eq_emod_of_nonneg (by omega)];omega
 have d:decide (((n%aP l:Nat):Int)=0)=decide (n%aP l=0):=decide_eq_decide.2 (by omega)
 have hL:=at_ Tryz.func107
 conv at hL=>rhs;reduce
 refine aH hL rfl rfl ?_
 simp only[go_sem,kK,hev,h0,e,d]
end Go.Proofs.YtmnchlhngpdffaaGreat
