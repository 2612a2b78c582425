/- Contracts of functions of the program and of the document: part 5. -/
import Derived.Test.YtmnchlhngpdffaaGreatM4
import Derived.Test.YtmnchlhngpdffaaGreatM2
set_option linter.all false
open Bool renaming and_eq_true → bOx, false_and → bPm, false_eq_true → bO0, not_false → bPh, not_true → bPd, or_true → bQv, true_and → bPr
open Int renaming eq_ofNat_of_zero_le → bP2, natCast_nonneg → bRg, toNat_natCast → bPz
open List renaming all_cons → bQ7, all_eq_true → bO4, append_nil → bPx, drop_length → bQt, flatMap_cons → bRe, flatMap_nil → bQy, getD_eq_getElem?_getD → bO2, getElem?_append_left → bR3, getElem?_eq_getElem → bP7, getElem_mem → bO6, length_append → bPg, length_cons → bO7, length_map → bOz, length_nil → bPe, length_pos_iff → bRv, length_set → bQ1, length_take → bQe, map_append → bQg, map_cons → bPw, map_nil → bPf, map_set → bQ8, map_take → bQs, mem_map → bPt, mem_of_mem_take → bRj, nil_append → bP1, prefix_refl → bR0, replicate_succ → bP9, replicate_zero → bP8, take_length → bQp, take_of_length_le → bPi, take_succ_cons → bO5, take_zero → bO3
open Nat renaming add_assoc → bQo, add_zero → bQh, div_mul_le_self → bSd, le_refl → bOy, le_trans → bPb, lt_of_lt_of_le → bPo, zero_add → bPs, zero_le → bO8
namespace Go.Proofs.YtmnchlhngpdffaaGreat
open Go.Abs Go.Proofs
variable {a:Int}{en:En}{p:aF}{w w0:aA}{kt kr:Key}{cnt:Nat->Nat->Nat}{S:Nat->Prop}{left:List aB}{f:aB}{n:aJ}{back:List aD}{bv:Val}
section
def oK :List Nat:=[266,266,266,267,268,269,270,271,272,272,272,273,274,275,276,277,278,279,280,281,282,283,284,285,286,287,288,289]
def bHd :List Val:= .nilf::oK.map fun f=> .fn f [] []
theorem aMi :PC L 224 [] (.agg bHd):=by
 exact⟨12,fun n hn=>aAe hn (show lC L 12 224 []=some (.agg bHd)by kernel_rfl)⟩
theorem bB3 (P0:Pre p w0 S w a left f n)(h:TS kt kr en cnt p w a left f n [] bv):qQ (oK.getD (n.op.toNat-1) 0) kt kr en cnt p w a left f n (opR p w a left f n):=by
 obtain⟨o1,o2⟩:=aLe P0.node;have ho:n.op=1 \/n.op=2 \/n.op=3 \/n.op=4 \/n.op=5 \/n.op=6 \/n.op=7 \/n.op=8 \/n.op=9 \/n.op=10 \/n.op=11 \/n.op=12 \/n.op=13 \/n.op=14 \/n.op=15 \/n.op=16 \/n.op=17 \/n.op=18 \/n.op=19 \/n.op=20 \/n.op=21 \/n.op=22 \/n.op=23 \/n.op=24 \/n.op=25 \/n.op=26 \/n.op=27 \/n.op=28:=by omega
 rcases ho with ho|ho|ho|ho|ho|ho|ho|ho|ho|ho|ho|ho|ho|ho|ho|ho|ho|ho|ho|ho|ho|ho|ho|ho|ho|ho|ho|ho
 ·rw[show oK.getD (n.op.toNat-1) 0=266 from by rw[ho];rfl];exact bG5 h ho
 ·rw[show oK.getD (n.op.toNat-1) 0=266 from by rw[ho];rfl];exact bG7 h ho
 ·rw[show oK.getD (n.op.toNat-1) 0=266 from by rw[ho];rfl];exact bG8 h ho
 ·rw[show oK.getD (n.op.toNat-1) 0=267 from by rw[ho];rfl];exact bG9 P0 h ho
 ·rw[show oK.getD (n.op.toNat-1) 0=268 from by rw[ho];rfl];exact bHa P0 h ho
 ·rw[show oK.getD (n.op.toNat-1) 0=269 from by rw[ho];rfl];exact bHc P0 h ho
 ·rw[show oK.getD (n.op.toNat-1) 0=270 from by rw[ho];rfl];exact bG6 P0 h ho
 ·rw[show oK.getD (n.op.toNat-1) 0=271 from by rw[ho];rfl];exact bHb P0 h ho
 ·rw[show oK.getD (n.op.toNat-1) 0=272 from by rw[ho];rfl];exact aLi P0 h (by omega)
 ·rw[show oK.getD (n.op.toNat-1) 0=272 from by rw[ho];rfl];exact aLi P0 h (by omega)
 ·rw[show oK.getD (n.op.toNat-1) 0=272 from by rw[ho];rfl];exact aLi P0 h (by omega)
 ·rw[show oK.getD (n.op.toNat-1) 0=273 from by rw[ho];rfl];exact bD1 P0 h ho
 ·rw[show oK.getD (n.op.toNat-1) 0=274 from by rw[ho];rfl];exact bD6 P0 h ho
 ·rw[show oK.getD (n.op.toNat-1) 0=275 from by rw[ho];rfl];exact bD0 P0 h ho
 ·rw[show oK.getD (n.op.toNat-1) 0=276 from by rw[ho];rfl];exact bD2 P0 h ho
 ·rw[show oK.getD (n.op.toNat-1) 0=277 from by rw[ho];rfl];exact bD7 P0 h ho
 ·rw[show oK.getD (n.op.toNat-1) 0=278 from by rw[ho];rfl];exact bD9 P0 h ho
 ·rw[show oK.getD (n.op.toNat-1) 0=279 from by rw[ho];rfl];exact bEa P0 h ho
 ·rw[show oK.getD (n.op.toNat-1) 0=280 from by rw[ho];rfl];exact bD5 P0 h ho
 ·rw[show oK.getD (n.op.toNat-1) 0=281 from by rw[ho];rfl];exact bEb P0 h ho
 ·rw[show oK.getD (n.op.toNat-1) 0=282 from by rw[ho];rfl];exact bD8 P0 h ho
 ·rw[show oK.getD (n.op.toNat-1) 0=283 from by rw[ho];rfl];exact bEg P0 h ho
 ·rw[show oK.getD (n.op.toNat-1) 0=284 from by rw[ho];rfl];exact bEc P0 h ho
 ·rw[show oK.getD (n.op.toNat-1) 0=285 from by rw[ho];rfl];exact bEd P0 h ho
 ·rw[show oK.getD (n.op.toNat-1) 0=286 from by rw[ho];rfl];exact bEf P0 h ho
 ·rw[show oK.getD (n.op.toNat-1) 0=287 from by rw[ho];rfl];exact bDy P0 h ho
 ·rw[show oK.getD (n.op.toNat-1) 0=288 from by rw[ho];rfl];exact bD3 P0 h ho
 ·rw[show oK.getD (n.op.toNat-1) 0=289 from by rw[ho];rfl];exact bDz h ho
end
set_option maxRecDepth 100000
set_option maxHeartbeats 4000000
variable {K P V v:Val}{l:List aB}{k t i:Nat}{f0:aB}{nd:aJ}
section
theorem aWn {i o m:Int}{F E B:Val}{xs es vs ks ps bs:List Val}{KK:List Key}(h:en kt=some (.box [.ptr kr 0,.i a,F,.i i,E,V,.i o,.i m,K,P,B] false))(hF:cS en F=some (.fz xs,KK))(hE:iG E es)(hV:iG V vs)(hK:iG K ks)(hP:iG P ps)(hB:iG B bs)(hk:kt∉KK):
  oA (.ptr kt 0) [[]] en=some ((W.applyAll en (KK.map .frz)).set kt (some (.box [.ptr kr 0,.i a,.fz xs,.i i,.fz es,.fz vs,.i o,.i m,.fz ks,.fz ps,.fz bs] false))):=by
 have:=aE6 (rs:=[(.ptr kr 0,[]),(.i a,[]),(.fz xs,KK),(.i i,[]),(.fz es,[]),(.fz vs,[]),(.i o,[]),(.i m,[]),(.fz ks,[]),(.fz ps,[]),(.fz bs,[])]) h (by simp only[aBy,aEk,aSp,aE5,hF,rB hE,rB hV,rB hK,rB hP,rB hB]) (by simpa using hk)
 simp only[bRe,bQy,bPx,bP1,bPw,bPf]at this;exact aKx this
structure TB (kt kr:Key) (en:En) (cnt:Nat->Nat->Nat) (p:aF) (w:aA) (a:Int) (n:aJ) (K P:Val):Prop where
 okt:Old kt cnt
 okr:Old kr cnt
 ne:kr≠kt
 hK:iG K (n.kids.map (.int .i64))
 hP:iG P (n.pats.map Pat.enc)
 t:en kt=some (.box [.ptr kr 0,.i a,.cl [],.i 0,.cl [],.cl [],.i n.op,.i n.n,K,P,.cl []] false)
 r:en kr=some (.box [.fz (p.nodes.map aJ.enc),.is p.funs,.i p.main,.fz (p.cons.map cO.enc),.fz (w.objs.map aR.enc),.is w.tasks,.fz (w.outs.map bR.enc),.is w.ins,.i w.used] false)
theorem TB.pre (h:TB kt kr en cnt p w a n K P):type_of%(bDr h.okt h.okr h.ne):=bDr h.okt h.okr h.ne
theorem tG (h:TB kt kr en cnt p w a n K P){lv:Val}(hl:iG lv (l.map aB.enc))(hc:l.length<=40):
  WIn L (.fn 220 [] []) [.ptr kt 0,lv] en cnt fun v en' cnt'=>v= .tup []/\ (∃bv',TS kt kr en' cnt' p w a l ⟨0,[],[]⟩ n [] bv')/\ dU kt kr en cnt en' cnt':=by
 have hw:IntKind.i64.wrap ((0:Int)+(l.length:Int))=((l.length:Nat):Int):=by rw[aW (by omega)];omega
 have hw':IntKind.i64.wrap (l.length:Int)=((l.length:Nat):Int):=aW (by omega)
 have d:decide (((l.length:Nat):Int)<=40)=true:=decide_eq_true (by omega)
 have hlen:sI lv=some l.length:=by rw[hl.len,bOz]
 have hel:=hl.elems;have s1:=h.okt.set;have s2:=h.okr.set;have n1:=h.okt.new;have hl16:l.length<=16777216:=by omega
 have hC:=aCr [];have ht:=h.t;have hr:=h.r;have hL:=at_ Tryz.func220
 conv at hL=>rhs;reduce
 refine rH hL rfl rfl ?_
 simp only[go_sem,kK]
 refine bL ?_
 simp only[go_sem,ht,hlen,bPe,Int.natCast_zero,Int.zero_add,hw',d,(gY _).ret,hC.ret,bT,eG,hel,uP,jA,aDk,bPs,bOz,hl16]
 by_cases hl0:l=[]
 ·subst hl0;simp only[go_sem,bPf,aKw,qA,kZ,ht];rw[aWn (KK:=[]) (es:=[]) (vs:=[]) (bs:=[]) cH rfl (.inr rfl) (.inr rfl) h.hK h.hP (.inr rfl) (by simp)]
  simp only[bPf,fL];exact⟨⟨_,h.okt,h.okr,h.ne,.inl rfl,cH,by rw[aK h.ne,aK h.ne];exact hr⟩,fun k hk a b=>by rw[aK a,aK a],fun _=>bOy _⟩
 ·have hne:l.map aB.enc≠[]:=by simpa using hl0
  have nk:kt≠⟨0,21,cnt 0 21⟩:=h.okt.ne;have nr:kr≠⟨0,21,cnt 0 21⟩:=h.okr.ne;simp only[go_sem,aB2 hne,uM,nC,s1,ht,bOz];rw[aWn (KK:=[⟨0,21,cnt 0 21⟩]) (xs:=l.map aB.enc) (es:=[]) (vs:=[]) (bs:=[]) cH (sS (by rw[n1];exact cH) (by simp)) (.inr rfl) (.inr rfl) h.hK h.hP (.inr rfl) (by simpa using nk)]
  simp only[bPw,bPf,kH,fL];have hu:=upS (aN cnt) (a:=21) (x:=cnt 0 21+1) (by omega)
  refine⟨⟨_,h.okt.up hu,h.okr.up hu,h.ne,.inl rfl,cH,?_⟩,fun k hk a b=>?_,hu⟩
  ·rw[aK h.ne,pI nr,aK h.ne,s2];exact hr
  ·rw[aK a,pI hk.ne,aK a,hk.set]
theorem xQ (h:k<l.length):nO 3 en (.fz (l.map aB.enc)) (.i (k:Int))=some {v:= .fp [.i (l.getD k dQ).node,.fz ((l.getD k dQ).env.map aD.enc),.fz ((l.getD k dQ).vals.map aD.enc)] 0}:=by
 have e:l.getD k dQ=l[k]:=by simp[bO2,h]
 rw[e];simp[nO,h,aB.enc];exact⟨rfl,rfl⟩
theorem bB4 (v:aD)(h:0<l.length):aCq l v=l.take (l.length-1)++[⟨(l.getD (l.length-1) dQ).node,(l.getD (l.length-1) dQ).env,(l.getD (l.length-1) dQ).vals++[v]⟩]:=by
 unfold aCq;generalize (⟨(l.getD (l.length-1) dQ).node,(l.getD (l.length-1) dQ).env,(l.getD (l.length-1) dQ).vals++[v]⟩:aB)=x;rw[List.set_eq_take_append_cons_drop,if_pos (by omega),Nat.sub_add_cancel (by omega),bQt]
def aHw (p:aF)(w:aA)(a:Int)(o:aR):OpR:=
 if o.vals.length=0 then
  (if(((o.frames.getD (o.frames.length-1) dQ).vals.length:Nat):Int)<(p.node (o.frames.getD (o.frames.length-1) dQ).node).asks then
   qJ w o.frames [⟨oJ (p.node (o.frames.getD (o.frames.length-1) dQ).node) (o.frames.getD (o.frames.length-1) dQ).vals.length,(o.frames.getD (o.frames.length-1) dQ).env,[]⟩]
  else opR p w a (o.frames.take (o.frames.length-1)) (o.frames.getD (o.frames.length-1) dQ) (p.node (o.frames.getD (o.frames.length-1) dQ).node))
 else .go none w (aCq o.frames (aE o.vals 0)) []
def aWo (kt kr:Key)(en:En)(cnt:Nat->Nat->Nat)(p:aF)(w:aA)(a:Int)(o:aR):OpR->Prop
 | .go ev w' left' back=>WIn L (.fn 172 [] []) [.ptr kt 0,.agg [.i o.form,.i o.n,.fz (o.vals.map aD.enc),.fz (o.frames.map aB.enc)]] en cnt fun r en' cnt'=>r=aNu ev/\ (∃f' n' bv',TS kt kr en' cnt' p w' a left' f' n' back bv')/\ dU kt kr en cnt en' cnt'
 | .wait=>WIn L (.fn 172 [] []) [.ptr kt 0,.agg [.i o.form,.i o.n,.fz (o.vals.map aD.enc),.fz (o.frames.map aB.enc)]] en cnt fun r en' cnt'=>r=aWc/\ (∃left' f' n' back' bv',TS kt kr en' cnt' p w a left' f' n' back' bv')/\ dU kt kr en cnt en' cnt'
 | .fail s=>wF L 172 [.ptr kt 0,.agg [.i o.form,.i o.n,.fz (o.vals.map aD.enc),.fz (o.frames.map aB.enc)]] en cnt (oZ kt kr en cnt p s)
def rX :aJ:=⟨0,0,[],[]⟩
theorem aVe (h:TB kt kr en cnt p w a rX K P){o:aR}(hv:o.vals.length=1)(hf0:0<o.frames.length)(hf:o.frames.length<=40)(hfv:(o.frames.getD (o.frames.length-1) dQ).vals.length<=1000):
  aWo kt kr en cnt p w a o (.go none w (aCq o.frames (aE o.vals 0)) []):=by
 have H:=h.pre;have ht:=h.t;have hr:=h.r;have hw1:IntKind.i64.wrap ((o.frames.length:Int)-1)=((o.frames.length-1:Nat):Int):=by rw[aW (by omega)];omega
 have dv:decide ((0:Int)<(o.vals.length:Int))=true:=decide_eq_true (by omega)
 have hLz:=at_ Tryz.func172
 conv at hLz=>rhs;reduce
 refine bD hLz rfl rfl ?_
 have hia:=fun en=>xQ (l:=o.frames) (en:=en) (k:=o.frames.length-1) (by omega)
 have hsh:=fun en=>wO (size:=3) (xs:=o.frames.map aB.enc) (en:=en) (k:=o.frames.length-1) (by rw[bOz];omega)
 have hv0:0<o.vals.length:=by omega
 simp only[go_sem,kK,bOz,hw1,dv,hia];rw[bB4 _ hf0];generalize o.frames.getD (o.frames.length-1) dQ=f0 at hia hfv⊢;have u1: ∀t,cnt 0 t<=aC (aC cnt 0 3 (cnt 0 3+1)) 0 6 (cnt 0 6+1) 0 t:=(by(repeat refine upS ?_ (by omega));exact aN _)
 have b1:TB kt kr (((en.set ⟨0,3,cnt 0 3⟩ (some (.box [.i o.form,.i o.n,.fz (o.vals.map aD.enc),.fz (o.frames.map aB.enc)] false))).set ⟨0,6,cnt 0 6⟩ (some (.box [.i 0,.cl [],.cl []] false))).set ⟨0,6,cnt 0 6⟩ (some (.box [.i f0.node,.fz (f0.env.map aD.enc),.fz (f0.vals.map aD.enc)] false))) (aC (aC cnt 0 3 (cnt 0 3+1)) 0 6 (cnt 0 6+1)) p w a rX K P:=
  ⟨h.okt.up u1,h.okr.up u1,h.ne,h.hK,h.hP,by simp only[H];exact ht,by simp only[H];exact hr⟩
 refine bL ?_
 simp only[go_sem,hsh]
 refine(tG b1 (l:=o.frames.take (o.frames.length-1)) (.inl (by rw[bQs])) (by rw[bQe];omega)).mono ?_
 rintro v e1 c1 ⟨rfl,⟨bv1,t1⟩,k1⟩
 obtain⟨p3,q3⟩:=k1.loc (d:=3) (g:=cnt 0 3) (by simp[aC]) h.okt.ne.symm h.okr.ne.symm
 obtain⟨p6,q6⟩:=k1.loc (d:=6) (g:=cnt 0 6) (by simp[aC]) h.okt.ne.symm h.okr.ne.symm
 simp only[go_sem]at p3 p6
 try simp only[go_sem,kK]
 refine iU ?_
 have ht1:=t1.t;have hl:f0.vals.length+1<=16777216:=by omega
 simp only[go_sem,kB,p3,p6,(aA4 _).ret,aQ hv0,bT,eG,uP,sR,aB1,hl,bOz,rT,kA,kF];have hA:f0.vals.map aD.enc++[.agg [.i (aE o.vals 0).kind,.i (aE o.vals 0).n]]=(f0.vals++[aE o.vals 0]).map aD.enc:=by simp[aD.enc]
 have hL:f0.vals.length+1=(f0.vals++[aE o.vals 0]).length:=by simp
 generalize hvv:f0.vals++[aE o.vals 0]=vv at hA hL⊢;simp only[hA,hL];have hT:List.take vv.length (vv.map aD.enc)=vv.map aD.enc:=by rw[bPi (by simp)]
 simp only[go_sem,bOz,bPs,bOy,hT];obtain⟨⟨bv2,t2⟩,k2⟩:=t1.stay (cnt':=aC c1 0 41 (c1 0 41+1)) (en':=(e1.set ⟨0,41,c1 0 41⟩ (some (.blk 2 (vv.map aD.enc) (!(f0.vals.map aD.enc).isEmpty)))).set ⟨0,41,c1 0 41⟩ (some (.blk 2 (vv.map aD.enc) true))) (fun k hk=>by simp only[hk.set]) (by(repeat refine upS ?_ (by omega));exact aN _)
 refine(aE7 t2 (l:=[⟨f0.node,f0.env,vv⟩]) (.inr rfl) (by simp only[bQe,bO7,bPe];omega)).mono ?_
 rintro v e3 c3 ⟨_,⟨bv3,t3⟩,k3⟩
 have k0:dU kt kr en cnt e1 c1:=⟨fun x hx y1 y2=>by rw[k1.old x (hx.up u1) y1 y2];simp only[hx.set],fun t=>bPb (u1 t) (k1.up t)⟩
 exact⟨rfl,⟨_,_,bv3,t3⟩,(k0.trans k2).trans k3⟩
theorem bB5 (h:TB kt kr en cnt p w a rX K P){o:aR}(hv:o.vals.length=0)(hf0:0<o.frames.length)(hf:o.frames.length<=40)(hff:o.frames.getD (o.frames.length-1) dQ=f0)(hni:inR f0.node 0 ((p.nodes.length:Int)-1)=true)
   (hnd:p.node f0.node=nd) (hk:(f0.vals.length:Int)<nd.asks) (hkl:f0.vals.length<nd.kids.length):
  aWo kt kr en cnt p w a o (qJ w o.frames [⟨oJ nd f0.vals.length,f0.env,[]⟩]):=by
 have H:=h.pre;have hn:=h.ne;have ht:=h.t;have hr:=h.r;have hw1:IntKind.i64.wrap ((o.frames.length:Int)-1)=((o.frames.length-1:Nat):Int):=by rw[aW (by omega)];omega
 have dv:decide ((0:Int)<(o.vals.length:Int))=false:=decide_eq_false (by omega)
 have hia:=fun en=>xQ (l:=o.frames) (en:=en) (k:=o.frames.length-1) (by omega)
 rw[hff]at hia;have hin:=fun en=>bK (k:= .i64) (p:=p) (en:=en) hni
 rw[hnd]at hin;have dk:decide ((f0.vals.length:Int)<nd.asks)=true:=decide_eq_true hk;have hA:=sQ nd;have u1: ∀t,cnt 0 t<=aC (aC cnt 0 3 (cnt 0 3+1)) 0 7 (cnt 0 7+1) 0 t:=(by(repeat refine upS ?_ (by omega));exact aN _)
 have b1:TB kt kr ((((en.set ⟨0,3,cnt 0 3⟩ (some (.box [.i o.form,.i o.n,.fz (o.vals.map aD.enc),.fz (o.frames.map aB.enc)] false))).set ⟨0,7,cnt 0 7⟩ (some (.box [.i 0,.cl [],.cl []] false))).set ⟨0,7,cnt 0 7⟩ (some (.box [.i f0.node,.fz (f0.env.map aD.enc),.fz (f0.vals.map aD.enc)] false))).set kt (some (.box [.ptr kr 0,.i a,.cl [],.i 0,.cl [],.cl [],.i nd.op,.i nd.n,.is nd.kids,.fz (nd.pats.map Pat.enc),.cl []] false))) (aC (aC cnt 0 3 (cnt 0 3+1)) 0 7 (cnt 0 7+1)) p w a nd (.is nd.kids) (.fz (nd.pats.map Pat.enc)):=
  ⟨h.okt.up u1,h.okr.up u1,h.ne,.inl rfl,.inl rfl,cH,by rw[aK hn];simp only[H];exact hr⟩
 unfold qJ
 by_cases hc:40<(o.frames++[(⟨oJ nd f0.vals.length,f0.env,[]⟩:aB)]).length
 ·rw[if_pos hc];simp only[bPg,bO7,bPe]at hc;have hL:=at_ Tryz.func172
  conv at hL=>rhs;reduce
  refine cA hL rfl rfl ?_
  simp only[go_sem,kK,H,bOz,hw1,dv,hia,ht,hr,hin,hA.ret,dk]
  refine bL ?_
  simp only[go_sem,H]
  refine(tG b1 (l:=o.frames) (.inl rfl) (by omega)).mono ?_
  rintro v e1 c1 ⟨rfl,⟨bv1,t1⟩,k1⟩
  obtain⟨p7,q7⟩:=k1.loc (d:=7) (g:=cnt 0 7) (by simp[aC]) h.okt.ne.symm h.okr.ne.symm
  rw[aK h.okt.ne.symm,cH]at p7
  try simp only[go_sem,kK]
  have k0:dU kt kr en cnt e1 c1:=⟨fun x hx y1 y2=>by rw[k1.old x (hx.up u1) y1 y2,aK y1];simp only[hx.set],fun t=>bPb (u1 t) (k1.up t)⟩
  refine cK 4 rfl ?_
  simp only[go_sem,bO5,bO3,p7];exact(xN t1 (i:=f0.vals.length) (env:=f0.env) hkl (.inl rfl) (by omega)).mono fun _ _ _=>oZ.then k0
 ·rw[if_neg hc];simp only[bPg,bO7,bPe]at hc;have hL:=at_ Tryz.func172
  conv at hL=>rhs;reduce
  refine bD hL rfl rfl ?_
  simp only[go_sem,kK,H,bOz,hw1,dv,hia,ht,hr,hin,hA.ret,dk]
  refine bL ?_
  simp only[go_sem,H]
  refine(tG b1 (l:=o.frames) (.inl rfl) (by omega)).mono ?_
  rintro v e1 c1 ⟨rfl,⟨bv1,t1⟩,k1⟩
  obtain⟨p7,q7⟩:=k1.loc (d:=7) (g:=cnt 0 7) (by simp[aC]) h.okt.ne.symm h.okr.ne.symm
  rw[aK h.okt.ne.symm,cH]at p7
  try simp only[go_sem,kK]
  have k0:dU kt kr en cnt e1 c1:=⟨fun x hx y1 y2=>by rw[k1.old x (hx.up u1) y1 y2,aK y1];simp only[hx.set],fun t=>bPb (u1 t) (k1.up t)⟩
  refine bL ?_
  simp only[go_sem,p7]
  refine(xM t1 (i:=f0.vals.length) (env:=f0.env) hkl (.inl rfl) (by omega)).mono ?_
  rintro v e2 c2 ⟨rfl,⟨bv2,t2⟩,k2⟩
  exact⟨rfl,⟨_,_,bv2,t2⟩,k0.trans k2⟩
def bFo (agg:Bool)(len size:Nat)(x i:Val):Option Res:=match x,i with
 | .agg cs,.int _ j=>if 0<=j/\ j<len/\ j.toNat*size+size<=cs.length then(iM agg ((cs.drop (j.toNat*size)).take size)).map fun v=>{v}else none
 |_,_=>none
theorem aVf {d g:Nat}{get:Opd->Val}{agg:Bool}{len size:Nat}{x i:Opd}:dE d g en get (.ixa agg len size x i)=bFo agg len size (get x) (get i):=(rfl)
theorem bEh {op:Int}(h1:1<=op)(h2:op<=28):bFo false 29 1 (.agg bHd) (.i op)=some {v:= .fn (oK.getD (op.toNat-1) 0) [] []}:=by
 have ho:op=1 \/op=2 \/op=3 \/op=4 \/op=5 \/op=6 \/op=7 \/op=8 \/op=9 \/op=10 \/op=11 \/op=12 \/op=13 \/op=14 \/op=15 \/op=16 \/op=17 \/op=18 \/op=19 \/op=20 \/op=21 \/op=22 \/op=23 \/op=24 \/op=25 \/op=26 \/op=27 \/op=28:=by omega
 rcases ho with rfl|rfl|rfl|rfl|rfl|rfl|rfl|rfl|rfl|rfl|rfl|rfl|rfl|rfl|rfl|rfl|rfl|rfl|rfl|rfl|rfl|rfl|rfl|rfl|rfl|rfl|rfl|rfl<;>rfl
theorem bEi (h:TB kt kr en cnt p w a rX K P){o:aR}(hv:o.vals.length=0)(hf0:0<o.frames.length)(hf:o.frames.length<=40)(hff:o.frames.getD (o.frames.length-1) dQ=f0)
   (P0:Pre p w0 S w a (o.frames.take (o.frames.length-1)) f0 nd):
  aWo kt kr en cnt p w a o (opR p w a (o.frames.take (o.frames.length-1)) f0 nd):=by
 have H:=h.pre;have hn:=h.ne;have ht:=h.t;have hr:=h.r;have hni:=fI P0.hf;have hnd:=P0.hn;have hw1:IntKind.i64.wrap ((o.frames.length:Int)-1)=((o.frames.length-1:Nat):Int):=by rw[aW (by omega)];omega
 have dv:decide ((0:Int)<(o.vals.length:Int))=false:=decide_eq_false (by omega)
 have hia:=fun en=>xQ (l:=o.frames) (en:=en) (k:=o.frames.length-1) (by omega)
 have hsh:=fun en=>wO (size:=3) (xs:=o.frames.map aB.enc) (en:=en) (k:=o.frames.length-1) (by rw[bOz];omega)
 rw[hff]at hia;have hin:=fun en=>bK (k:= .i64) (p:=p) (en:=en) hni
 rw[hnd]at hin;have dk:decide ((f0.vals.length:Int)<nd.asks)=false:=decide_eq_false (by have:=P0.full;omega)
 have hA:=sQ nd;have hO:=aMi;obtain⟨c1,c2⟩:=aLe P0.node;have hix:=bEh c1 c2;have u1: ∀t,cnt 0 t<=aC (aC cnt 0 3 (cnt 0 3+1)) 0 7 (cnt 0 7+1) 0 t:=(by(repeat refine upS ?_ (by omega));exact aN _)
 have b1:TB kt kr ((((en.set ⟨0,3,cnt 0 3⟩ (some (.box [.i o.form,.i o.n,.fz (o.vals.map aD.enc),.fz (o.frames.map aB.enc)] false))).set ⟨0,7,cnt 0 7⟩ (some (.box [.i 0,.cl [],.cl []] false))).set ⟨0,7,cnt 0 7⟩ (some (.box [.i f0.node,.fz (f0.env.map aD.enc),.fz (f0.vals.map aD.enc)] false))).set kt (some (.box [.ptr kr 0,.i a,.cl [],.i 0,.cl [],.cl [],.i nd.op,.i nd.n,.is nd.kids,.fz (nd.pats.map Pat.enc),.cl []] false))) (aC (aC cnt 0 3 (cnt 0 3+1)) 0 7 (cnt 0 7+1)) p w a nd (.is nd.kids) (.fz (nd.pats.map Pat.enc)):=
  ⟨h.okt.up u1,h.okr.up u1,h.ne,.inl rfl,.inl rfl,cH,by rw[aK hn];simp only[H];exact hr⟩
 have does:=fun(e2:En) (c2:Nat->Nat->Nat) (bv:Val) (h2:TS kt kr e2 c2 p w a (o.frames.take (o.frames.length-1)) f0 nd [] bv)=>bB3 P0 h2
 generalize opR p w a (o.frames.take (o.frames.length-1)) f0 nd=R at does⊢;generalize oK.getD (nd.op.toNat-1) 0=fn at does hix;cases R with
 |go ev w' left' back'=>
  have hL:=at_ Tryz.func172
  conv at hL=>rhs;reduce
  refine bD hL rfl rfl ?_
  simp only[go_sem,kK,H,bOz,hw1,dv,hia,ht,hr,hin,hA.ret,dk]
  refine bL ?_
  simp only[go_sem,H,hsh]
  refine(tG b1 (l:=o.frames.take (o.frames.length-1)) (.inl (by rw[bQs])) (by rw[bQe];omega)).mono ?_
  rintro v e1 c1 ⟨rfl,⟨bv1,t1⟩,k1⟩
  obtain⟨p7,q7⟩:=k1.loc (d:=7) (g:=cnt 0 7) (by simp[aC]) h.okt.ne.symm h.okr.ne.symm
  rw[aK h.okt.ne.symm,cH]at p7
  try simp only[go_sem,kK]
  have k0:dU kt kr en cnt e1 c1:=⟨fun x hx y1 y2=>by rw[k1.old x (hx.up u1) y1 y2,aK y1];simp only[hx.set],fun t=>bPb (u1 t) (k1.up t)⟩
  have ht1:=t1.t;simp only[go_sem,p7,ht1];have t2:TS kt kr (e1.set kt (some (.box [.ptr kr 0,.i a,.fz ((o.frames.take (o.frames.length-1)).map aB.enc),.i f0.node,.fz (f0.env.map aD.enc),.fz (f0.vals.map aD.enc),.i nd.op,.i nd.n,.is nd.kids,.fz (nd.pats.map Pat.enc),bv1] false))) c1 p w a (o.frames.take (o.frames.length-1)) f0 nd [] bv1:=⟨t1.okt,t1.okr,t1.ne,t1.ob,cH,by rw[aK hn];exact t1.r⟩
  have k2:dU kt kr en cnt (e1.set kt (some (.box [.ptr kr 0,.i a,.fz ((o.frames.take (o.frames.length-1)).map aB.enc),.i f0.node,.fz (f0.env.map aD.enc),.fz (f0.vals.map aD.enc),.i nd.op,.i nd.n,.is nd.kids,.fz (nd.pats.map Pat.enc),bv1] false))) c1:=⟨fun x hx y1 y2=>by rw[aK y1];exact k0.old x hx y1 y2,k0.up⟩
  have t2t:=t2.t
  refine iU ?_
  simp only[go_sem,hO.ret,t2t,hix,aVf,kA,kF]
  refine(does _ _ _ t2).mono ?_
  rintro v e3 c3 ⟨rfl,⟨bv3,t3⟩,k3⟩
  simp only[go_sem];exact⟨⟨_,_,bv3,t3⟩,k2.trans k3⟩
 |wait=>
  have hL:=at_ Tryz.func172
  conv at hL=>rhs;reduce
  refine bD hL rfl rfl ?_
  simp only[go_sem,kK,H,bOz,hw1,dv,hia,ht,hr,hin,hA.ret,dk]
  refine bL ?_
  simp only[go_sem,H,hsh]
  refine(tG b1 (l:=o.frames.take (o.frames.length-1)) (.inl (by rw[bQs])) (by rw[bQe];omega)).mono ?_
  rintro v e1 c1 ⟨rfl,⟨bv1,t1⟩,k1⟩
  obtain⟨p7,q7⟩:=k1.loc (d:=7) (g:=cnt 0 7) (by simp[aC]) h.okt.ne.symm h.okr.ne.symm
  rw[aK h.okt.ne.symm,cH]at p7
  try simp only[go_sem,kK]
  have k0:dU kt kr en cnt e1 c1:=⟨fun x hx y1 y2=>by rw[k1.old x (hx.up u1) y1 y2,aK y1];simp only[hx.set],fun t=>bPb (u1 t) (k1.up t)⟩
  have ht1:=t1.t;simp only[go_sem,p7,ht1];have t2:TS kt kr (e1.set kt (some (.box [.ptr kr 0,.i a,.fz ((o.frames.take (o.frames.length-1)).map aB.enc),.i f0.node,.fz (f0.env.map aD.enc),.fz (f0.vals.map aD.enc),.i nd.op,.i nd.n,.is nd.kids,.fz (nd.pats.map Pat.enc),bv1] false))) c1 p w a (o.frames.take (o.frames.length-1)) f0 nd [] bv1:=⟨t1.okt,t1.okr,t1.ne,t1.ob,cH,by rw[aK hn];exact t1.r⟩
  have k2:dU kt kr en cnt (e1.set kt (some (.box [.ptr kr 0,.i a,.fz ((o.frames.take (o.frames.length-1)).map aB.enc),.i f0.node,.fz (f0.env.map aD.enc),.fz (f0.vals.map aD.enc),.i nd.op,.i nd.n,.is nd.kids,.fz (nd.pats.map Pat.enc),bv1] false))) c1:=⟨fun x hx y1 y2=>by rw[aK y1];exact k0.old x hx y1 y2,k0.up⟩
  have t2t:=t2.t
  refine iU ?_
  simp only[go_sem,hO.ret,t2t,hix,aVf,kA,kF]
  refine(does _ _ _ t2).mono ?_
  rintro v e3 c3 ⟨rfl,⟨bv3,t3⟩,k3⟩
  simp only[go_sem];exact⟨⟨_,_,_,_,bv3,t3⟩,k2.trans k3⟩
 |fail s=>
  have hL:=at_ Tryz.func172
  conv at hL=>rhs;reduce
  refine cA hL rfl rfl ?_
  simp only[go_sem,kK,H,bOz,hw1,dv,hia,ht,hr,hin,hA.ret,dk]
  refine bL ?_
  simp only[go_sem,H,hsh]
  refine(tG b1 (l:=o.frames.take (o.frames.length-1)) (.inl (by rw[bQs])) (by rw[bQe];omega)).mono ?_
  rintro v e1 c1 ⟨rfl,⟨bv1,t1⟩,k1⟩
  obtain⟨p7,q7⟩:=k1.loc (d:=7) (g:=cnt 0 7) (by simp[aC]) h.okt.ne.symm h.okr.ne.symm
  rw[aK h.okt.ne.symm,cH]at p7
  try simp only[go_sem,kK]
  have k0:dU kt kr en cnt e1 c1:=⟨fun x hx y1 y2=>by rw[k1.old x (hx.up u1) y1 y2,aK y1];simp only[hx.set],fun t=>bPb (u1 t) (k1.up t)⟩
  have ht1:=t1.t;simp only[go_sem,p7,ht1];have t2:TS kt kr (e1.set kt (some (.box [.ptr kr 0,.i a,.fz ((o.frames.take (o.frames.length-1)).map aB.enc),.i f0.node,.fz (f0.env.map aD.enc),.fz (f0.vals.map aD.enc),.i nd.op,.i nd.n,.is nd.kids,.fz (nd.pats.map Pat.enc),bv1] false))) c1 p w a (o.frames.take (o.frames.length-1)) f0 nd [] bv1:=⟨t1.okt,t1.okr,t1.ne,t1.ob,cH,by rw[aK hn];exact t1.r⟩
  have k2:dU kt kr en cnt (e1.set kt (some (.box [.ptr kr 0,.i a,.fz ((o.frames.take (o.frames.length-1)).map aB.enc),.i f0.node,.fz (f0.env.map aD.enc),.fz (f0.vals.map aD.enc),.i nd.op,.i nd.n,.is nd.kids,.fz (nd.pats.map Pat.enc),bv1] false))) c1:=⟨fun x hx y1 y2=>by rw[aK y1];exact k0.old x hx y1 y2,k0.up⟩
  have t2t:=t2.t
  refine jW 8 rfl rfl ?_
  simp only[go_sem,bO5,bO3,bP9,bP8,qP,hO.ret,t2t,hix,aVf,kA,kF];exact⟨rfl,(does _ _ _ t2).mono fun _ _ _=>oZ.then k2⟩
structure RS (kr:Key) (en:En) (cnt:Nat->Nat->Nat) (p:aF) (w:aA):Prop where
 okr:Old kr cnt
 r:en kr=some (.box [.fz (p.nodes.map aJ.enc),.is p.funs,.i p.main,.fz (p.cons.map cO.enc),.fz (w.objs.map aR.enc),.is w.tasks,.fz (w.outs.map bR.enc),.is w.ins,.i w.used] false)
theorem TS.rs (h:TS kt kr en cnt p w a left f n back bv):RS kr en cnt p w:=⟨h.okr,h.r⟩
theorem RS.to {en':En}{cnt':Nat->Nat->Nat}(h:RS kr en cnt p w)(hr:en' kr=en kr)(hu: ∀t,cnt 0 t<=cnt' 0 t):RS kr en' cnt' p w:=⟨h.okr.up hu,by rw[hr];exact h.r⟩
theorem bJn (h:RS kr en cnt p w){w':aA}{O:Val}{K1:List Key}{E:En}{c:Nat->Nat->Nat}(hT:w'.tasks=w.tasks)(hU:w'.outs=w.outs)(hI:w'.ins=w.ins)(hus:w'.used=w.used)
  (hr:E kr=some (.box [.fz (p.nodes.map aJ.enc),.is p.funs,.i p.main,.fz (p.cons.map cO.enc),O,.is w.tasks,.fz (w.outs.map bR.enc),.is w.ins,.i w.used] false))
  (hO:cS E O=some (.fz (w'.objs.map aR.enc),K1)) (hK: ∀k∈K1,∃d,k=⟨0,d,cnt 0 d⟩) (hk: ∀k,Old k cnt->k≠kr->E k=en k) (hu: ∀t,cnt 0 t<=c 0 t):
  match oA (.ptr kr 0) [[]] E with
  |some en'=>RS kr en' c p w'/\ dU kr kr en cnt en' c
  |none=>False:=by
 have hkn:kr∉K1++([]++([]++[])):=fun hm=>by
  simp only[bPx]at hm;obtain⟨d,e⟩:=hK kr hm;exact h.okr.ne e
 rw[aSq hr hO rfl rfl rfl hkn];simp only[bPx]
 refine⟨⟨h.okr.up hu,?_⟩,fun k ho k1 _=>?_,hu⟩
 ·rw[cH,hT,hU,hI,hus]
 ·rw[aK k1,vV ho hK];exact hk k ho k1
theorem yY (h:RS kr en cnt p w){o:aR}{FV:Val}(hV:iG V (o.vals.map aD.enc))(hF:iG FV (o.frames.map aB.enc))(ha:inR a 0 ((w.tasks.length:Int)-1)=true)(hr1:inR (bA w a) 0 ((w.objs.length:Int)-1)=true)(hs:w.objs.length<=1000000):
  WIn L (.fn 168 [] []) [.ptr kr 0,.i a,.agg [.i o.form,.i o.n,V,FV]] en cnt fun r en' cnt'=>r= .tup []/\ RS kr en' cnt' p (eC w (bA w a) o)/\ dU kr kr en cnt en' cnt':=by
 have s2:=h.okr.set;have n2:=h.okr.new;have hr:=h.r;have m2:=h.okr.eqF;have o2:=h.okr.eqF';have hia: ∀en,nO 1 en (.fz (w.tasks.map (.int .i64))) (.i a)=some {v:= .fp [.i (bA w a)] 0}:=fun en=>wG ha
 simp only[inR,bSi]at hr1;obtain⟨j,hj⟩:=bP2 hr1.1;have hjl:j<w.objs.length:=by omega
 have hl:(w.objs.map aR.enc).length<=16777216:=by rw[bOz];omega
 have hC:=yU (w.objs.map aR.enc) (yT _) hl;have hne:w.objs.map aR.enc≠[]:=by intro he;have h0:=congrArg List.length he;simp at h0;rw[h0]at hjl;simp at hjl
 rw[pK hne]at hC;have hget:(w.objs.map aR.enc)[j]?=some (aR.enc w.objs[j]):=by simp[hjl]
 have hS:(w.objs.map aR.enc).set j (.agg [.i o.form,.i o.n,.fz (o.vals.map aD.enc),.fz (o.frames.map aB.enc)])=(eC w (bA w a) o).objs.map aR.enc:=by simp[eC,bQ8,aR.enc,hj]
 have hSl:w.objs.length=((eC w (bA w a) o).objs.map aR.enc).length:=by simp[eC]
 have hL:=at_ Tryz.func168
 conv at hL=>rhs;reduce
 refine rH hL rfl rfl ?_
 simp only[go_sem,kK,s2];rcases hV with rfl|rfl<;>rcases hF with rfl|rfl<;>
 (simp only[go_sem,hr,s2,n2,kB,hC.ret,hget,hia,hj,hjl,bOz,eV,bRg,bPz,kF]
  rw[hj]at hS hSl;rw[hS];exact bJn h (w':=eC w (j:Int) o) rfl rfl rfl rfl (by rw[aK h.okr.ne,cH]) (sS cH hSl) (fun k hk=>⟨12,by simpa using hk⟩) (fun k ho k1=>by simp only[ho.set,aK k1]) (by(repeat refine upS ?_ (by omega));exact aN _))
structure SB (kr:Key) (en:En) (w:aA) (a:Int) (g2 g3 g4 g6:Nat) (e:Val):Prop where
 b2:en ⟨0,2,g2⟩=some (.box [.ptr kr 0] false)
 b3:en ⟨0,3,g3⟩=some (.box [.i a] false)
 b4:en ⟨0,4,g4⟩=some (.box [e] false)
 b6:en ⟨0,6,g6⟩=some (.box [.fz (w.objs.map aR.enc),.is w.tasks,.fz (w.outs.map bR.enc),.is w.ins,.i w.used] false)
theorem lW :(Val.ifc t v).one=true:=(rfl)
theorem iD :(Val.ifc t v).cells=[.ifc t v]:=(rfl)
theorem bEj {k:Key}:(Val.ptr k i).one=true:=(rfl)
theorem aYv {k:Key}:(Val.ptr k i).cells=[.ptr k i]:=(rfl)
theorem aVg :dN .neq .iface .nili .nili=some (.bool false):=(rfl)
theorem bHe :dN .neq .iface (.ifc t v) .nili=some (.bool true):=(rfl)
theorem bB6 (n0:(w.obj (bA w a)).n=0)(hf:0<(w.obj (bA w a)).frames.length)(hv:(w.obj (bA w a)).vals.length<=1)(he: ∀f∈(w.obj (bA w a)).frames,f.env.length<=30)(ha:inR a 0 ((w.tasks.length:Int)-1)=true):
  cJ p w a=(aHw p w a (w.obj (bA w a))).did w a:=by
 unfold cJ aHw
 simp only
 generalize w.obj (bA w a)=o at n0 hf hv he;rw[if_neg (fun h=>h n0)]
 by_cases h1:o.vals.length=1
 ·rw[if_pos h1,if_neg (by omega),if_neg (by omega)]
  rfl
 ·have hz:o.vals.length=0:=by omega
  rw[if_neg h1,if_pos hz];have hm:o.frames.getD (o.frames.length-1) dQ∈o.frames:=by
   rw[bO2,bP7 (by omega)]
   exact bO6 _
  have:=he _ hm;split
  ·rw[vS];unfold kO;rw[if_neg (by omega)]
  ·exact aKu ha
theorem aLm (hp:eH p)(hsp:aS p=true)(hF:cP p w0 S w)(ha:inR a 0 ((w.tasks.length:Int)-1)=true)(n0:(w.obj (bA w a)).n=0)(hf0:0<(w.obj (bA w a)).frames.length)(h:TB kt kr en cnt p w a rX K P):
  aWo kt kr en cnt p w a (w.obj (bA w a)) (aHw p w a (w.obj (bA w a))):=by
 obtain⟨t1,t2,t3⟩:=hF.task ha;have hO:=hF.obj t1 t3;generalize w.obj (bA w a)=o at*;have hk:=hO.ok;rw[dK,if_pos t2,jN,if_pos n0]at hk;simp only[bV,bOx,bSi,bO4,bE]at hk;obtain⟨⟨⟨⟨k1,k2⟩,k3,k4⟩,k5⟩,k6⟩:=hk;have hfo: ∀f∈o.frames,FOk p S w f:=fun f hf=>hO.frames hf
 have hm:o.frames.getD (o.frames.length-1) dQ∈o.frames:=by
  rw[bO2,bP7 (by omega)]
  exact bO6 _
 have hfm:=hfo _ hm;have hni:=fI hfm;have hok:=hp.nodes _ (iK hni);have hak:=aGp hok;have hfk:=hfm.ok;have hal:=aPv hsp hni;simp only[dH,bE,bOx,bSi]at hfk;unfold aHw
 by_cases hv1:o.vals.length=0
 ·rw[if_pos hv1]
  by_cases hop:((o.frames.getD (o.frames.length-1) dQ).vals.length:Int)<(p.node (o.frames.getD (o.frames.length-1) dQ).node).asks
  ·rw[if_pos hop];exact bB5 h hv1 hf0 (by omega) rfl hni rfl hop (by omega)
  ·rw[if_neg hop];have hl:LOk p S w (o.frames.take (o.frames.length-1)):=⟨by simp only[bQe];omega,fun f hf=>hfo f (bRj hf),fun f hf=>k6 f (by rw[hv1,bQh];exact hf)⟩
   exact bEi h hv1 hf0 (by omega) rfl ⟨hp,hsp,hF,ha,hl,hfm,rfl,by omega⟩
 ·rw[if_neg hv1];exact aVe h (by omega) hf0 (by omega) (by omega)
theorem aDn {L:bJ}{ts:List Nat}{l:List aM}{f:Opd}{args:List Opd}{b:bB}{st:St}{Q:Ex->St->Prop}(h:iW L l st fun st2=>Wp L b st2 fun e st3=>ts.any (fun t=>(st3.fr t).isUndef)=false/\
   ∃st4,(∃n0,∀n,n0<=n->iB L (exec L n) (St.get st2.fr f) (args.map (St.get st2.fr)) e st3=some st4)/\ Q .ret st4):Wp L (.dfr ts l f args b) st Q:=h
theorem aIf (s:Int):PC L 171 [.agg [.i s]] (.agg [.i 0,.i 0,.i s,.i 0,.i 0]):=by
 have hL:=at_ Tryz.func171
 conv at hL=>rhs;reduce
 refine aG hL rfl rfl ?_
 simp only[go_sem,kK]
noncomputable def bEk :{c//L 170=some c}:=by
 have hL:=at_ Tryz.func170
 conv at hL=>rhs;reduce
 exact⟨_,hL⟩
theorem aFm (hp:eH p)(hsp:aS p=true)(hF:cP p w0 S w)(ha:inR a 0 ((w.tasks.length:Int)-1)=true)(h:RS kr en cnt p w):
  WIn L (.fn 121 [] []) [.ptr kr 0,.i a] en cnt fun r en' cnt'=>r=wM (cJ p w a).what (cJ p w a).e/\ RS kr en' cnt' p (cJ p w a).w/\ dU kr kr en cnt en' cnt':=by
 have s2:=h.okr.set;have n2:=h.okr.new;have hr:=h.r;have m2:=h.okr.eqF;have o2:=h.okr.eqF';obtain⟨t1,t2,t3⟩:=hF.task ha;have hO:=hF.obj t1 t3;have hio:=fun en=>yJ (w:=w) (k:= .i64) (en:=en) t1
 have hia:=fun en=>rW (en:=en) ha
 have hL120:w.objs.length<=120:=(cV.1 hF.ok).1
 by_cases n0:(w.obj (bA w a)).n=0
 ·have d0:decide ((w.obj (bA w a)).n=0)=true:=decide_eq_true n0;have hk:=hO.ok;rw[dK,if_pos t2,jN,if_pos n0]at hk;simp only[bV,bOx,bSi,bO4,bE]at hk;obtain⟨⟨⟨⟨k1,k2⟩,k3,k4⟩,k5⟩,k6⟩:=hk
  by_cases hf0:(w.obj (bA w a)).frames.length=0
  ·have hv1:(w.obj (bA w a)).vals.length=1:=by omega
   have df:decide (((w.obj (bA w a)).frames.length:Int)=0)=true:=decide_eq_true (by omega)
   have e:cJ p w a=⟨eC w (bA w a) ⟨6,1,(w.obj (bA w a)).vals,[]⟩,1,⟨a,0,1,qU (aE (w.obj (bA w a)).vals 0)⟩⟩:=by
    unfold cJ;simp only;rw[if_neg (fun h=>h n0),if_pos hv1,if_pos hf0]
    generalize (w.obj (bA w a)).vals=l at hv1
    match l,hv1 with
    |[x],_=>rfl
   rw[e];have hL:=at_ Tryz.func121
   conv at hL=>rhs;reduce
   refine bD hL rfl rfl ?_
   simp only[go_sem,kK,lM (v:= .ptr kr 0) rfl rfl]
   refine aI ?_
   simp only[go_sem,kK,hr,s2,m2,hia,hio,d0,df,bOz,kA,kF]
   refine WIn.mono (yY (h.to (by simp only[s2]) (by(repeat refine upS ?_ (by omega));exact aN _)) (o:=⟨6,1,(w.obj (bA w a)).vals,[]⟩) (.inl rfl) (.inr rfl) ha t1 (by omega)) ?_
   rintro v e1 c1 ⟨rfl,r1,q1⟩
   obtain⟨p3,_⟩:=q1.loc (d:=3) (g:=cnt 0 3) (by simp[aC]) h.okr.ne.symm h.okr.ne.symm
   obtain⟨p4,_⟩:=q1.loc (d:=4) (g:=cnt 0 4) (by simp[aC]) h.okr.ne.symm h.okr.ne.symm
   obtain⟨p5,_⟩:=q1.loc (d:=5) (g:=cnt 0 5) (by simp[aC]) h.okr.ne.symm h.okr.ne.symm
   simp only[go_sem]at p3 p4 p5
   try simp only[go_sem,kK]
   refine aI ?_
   simp only[go_sem,p3,p4,p5,aQ (l:=(w.obj (bA w a)).vals) (by omega),(xL _).ret,lW,iD,kA,kF]
   have u1: ∀t,cnt 0 t<=aC (aC (aC (aC cnt 0 2 (cnt 0 2+1)) 0 3 (cnt 0 3+1)) 0 4 (cnt 0 4+1)) 0 5 (cnt 0 5+1) 0 t:=(by(repeat refine upS ?_ (by omega));exact aN _)
   refine⟨rfl,⟨r1.okr,by rw[s2];exact r1.r⟩,⟨fun k hk a b=>by rw[hk.set,q1.old k (hk.up u1) a b];simp only[hk.set],fun t=>bPb (u1 t) (q1.up t)⟩⟩
  ·have df:decide (((w.obj (bA w a)).frames.length:Int)=0)=false:=decide_eq_false (by omega)
   have e:=bB6 (p:=p) n0 (by omega) (by omega) (fun f hf=>by have:=(hO.frames hf).ok;simp only[dH,bE,bOx,bSi]at this;omega) ha
   have hfin:=mH hp hF ha;have hfs:=mH hp (aNp hF) ha;rw[e]at hfin hfs⊢;have hgo: ∀{ev:Option lV} {w':aA} {left':List aB} {back':List aD} {en1:En} {cnt1:Nat->Nat->Nat} {kt:Key},aHw p w a (w.obj (bA w a))= .go ev w' left' back'->TB kt kr en1 cnt1 p w a rX (.cl []) (.cl [])->
     WIn L (.fn 172 [] []) [.ptr kt 0,.agg [.i (w.obj (bA w a)).form,.i (w.obj (bA w a)).n,.fz ((w.obj (bA w a)).vals.map aD.enc),.fz ((w.obj (bA w a)).frames.map aB.enc)]] en1 cnt1 fun r en' cnt'=>r=aNu ev/\ (∃f' n' bv',TS kt kr en' cnt' p w' a left' f' n' back' bv')/\ dU kt kr en1 cnt1 en' cnt':=fun hR hB=>by
    have:=aLm hp hsp hF ha n0 (by omega) hB
    rw[hR]at this;exact this
   have hwait: ∀{en1:En} {cnt1:Nat->Nat->Nat} {kt:Key},aHw p w a (w.obj (bA w a))= .wait->TB kt kr en1 cnt1 p w a rX (.cl []) (.cl [])->
     WIn L (.fn 172 [] []) [.ptr kt 0,.agg [.i (w.obj (bA w a)).form,.i (w.obj (bA w a)).n,.fz ((w.obj (bA w a)).vals.map aD.enc),.fz ((w.obj (bA w a)).frames.map aB.enc)]] en1 cnt1 fun r en' cnt'=>r=aWc/\ (∃left' f' n' back' bv',TS kt kr en' cnt' p w a left' f' n' back' bv')/\ dU kt kr en1 cnt1 en' cnt':=fun hR hB=>by
    have:=aLm hp hsp hF ha n0 (by omega) hB
    rw[hR]at this;exact this
   have hfail: ∀{s:Int} {en1:En} {cnt1:Nat->Nat->Nat} {kt:Key},aHw p w a (w.obj (bA w a))= .fail s->TB kt kr en1 cnt1 p w a rX (.cl []) (.cl [])->
     wF L 172 [.ptr kt 0,.agg [.i (w.obj (bA w a)).form,.i (w.obj (bA w a)).n,.fz ((w.obj (bA w a)).vals.map aD.enc),.fz ((w.obj (bA w a)).frames.map aB.enc)]] en1 cnt1 (oZ kt kr en1 cnt1 p s):=fun hR hB=>by
    have:=aLm hp hsp hF ha n0 (by omega) hB
    rw[hR]at this;exact this
   have hL:=at_ Tryz.func121
   conv at hL=>rhs;reduce
   refine bD hL rfl rfl ?_
   simp only[go_sem,kK,lM (v:= .ptr kr 0) rfl rfl]
   refine aI ?_
   simp only[go_sem,kK,hr,s2,m2,hia,hio,d0,df,bOz,kA,kF]
   refine aDn ?_
   simp only[go_sem,kK,bEj,aYv];generalize hR:aHw p w a (w.obj (bA w a))=R at hfin hfs⊢;cases R with
   |go ev w' left' back'=>
    refine bL ?_
    simp only[go_sem]
    refine WIn.mono (hgo hR ⟨⟨rfl,by simp[aC]⟩,h.okr.up (by(repeat refine upS ?_ (by omega));exact aN _),h.okr.ne,.inr rfl,.inr rfl,by simp only[cH];rfl,by simp only[s2];exact hr⟩) ?_
    rintro v e1 c1 ⟨rfl,⟨f',n',bv',t1⟩,q1⟩
    obtain⟨p2,_⟩:=q1.loc (d:=2) (g:=cnt 0 2) (by simp[aC]) (by simp) h.okr.ne.symm
    obtain⟨p3,_⟩:=q1.loc (d:=3) (g:=cnt 0 3) (by simp[aC]) (by simp) h.okr.ne.symm
    obtain⟨p4,o4⟩:=q1.loc (d:=4) (g:=cnt 0 4) (by simp[aC]) (by simp) h.okr.ne.symm
    simp only[go_sem]at p2 p3 p4;have u1: ∀t,cnt 0 t<=c1 0 t:=fun t=>bPb (((by(repeat refine upS ?_ (by omega));exact aN _): ∀t,cnt 0 t<=(aC (aC (aC (aC (aC (aC cnt 0 2 (cnt 0 2+1)) 0 3 (cnt 0 3+1)) 0 4 (cnt 0 4+1)) 0 5 (cnt 0 5+1)) 0 6 (cnt 0 6+1)) 0 55 (cnt 0 55+1)) 0 t) t) (q1.up t)
    have hold: ∀k,Old k cnt->k≠kr->e1 k=en k:=fun k hk hkr=>by
     rw[q1.old k (hk.up (by(repeat refine upS ?_ (by omega));exact aN _)) hk.ne hkr];simp only[hk.set]
    have hfw:cP p w0 S (eC w' (bA w' a) ⟨6,0,back',left'⟩):=by cases ev<;>exact hfin
    have hts:w.tasks.length<=w'.tasks.length:=by
     have:cP p w (fun _=>True) (eC w' (bA w' a) ⟨6,0,back',left'⟩):=by cases ev<;>exact hfs
     exact this.pre.length_le
    have ha':inR a 0 ((w'.tasks.length:Int)-1)=true:=bFm ha hts;have hta:=(hfw.task (a:=a) ha').1;have hta':inR (bA w' a) 0 ((w'.objs.length:Int)-1)=true:=by simpa only[eC,bQ1,bA]using hta
    have h120:w'.objs.length<=1000000:=by have:=(cV.1 hfw.ok).1;simp only[eC,bQ1]at this;omega
    have ht1:=t1.t;have hr1:=t1.r;have x24: ∀(en:En) (e:Option Ent),En.set en ⟨0,4,cnt 0 4⟩ e ⟨0,55,cnt 0 55⟩=en ⟨0,55,cnt 0 55⟩:=fun _ _=>aK (by simp)
    cases ev with
    |none=>
     simp only[go_sem,kK,p2,p3,p4,aNu,aPm,aKv.ret,lW,iD,ht1,x24,t1.ob.one,t1.ob.cells]
     refine WIn.mono (yY (t1.rs.to (by simp only[s2]) (fun _=>bOy _)) (o:=⟨6,0,back',left'⟩) t1.ob (.inl rfl) ha' hta' h120) ?_
     rintro v e2 c2 ⟨rfl,r2,q2⟩
     obtain⟨r4,_⟩:=q2.loc (d:=4) (g:=cnt 0 4) o4.2 h.okr.ne.symm h.okr.ne.symm;rw[cH]at r4;simp only[go_sem,r4,lW,iD]
     refine⟨rfl,sZ bEk.2 rfl rfl rfl rfl ?_⟩
     simp only[go_sem,kK,bP1,bPx,aVg];exact⟨rfl,⟨r2.okr,by rw[s2];exact r2.r⟩,⟨fun k hk a b=>by rw[hk.set,q2.old k (hk.up u1) a b,hk.set];exact hold k hk a,fun t=>bPb (u1 t) (q2.up t)⟩⟩
    |some ev=>
     simp only[go_sem,kK,p2,p3,p4,aNu,aHs,(aNk _).ret,lW,iD,ht1,x24,t1.ob.one,t1.ob.cells]
     refine WIn.mono (yY (t1.rs.to (by simp only[s2]) (fun _=>bOy _)) (o:=⟨6,0,back',left'⟩) t1.ob (.inl rfl) ha' hta' h120) ?_
     rintro v e2 c2 ⟨rfl,r2,q2⟩
     obtain⟨r4,_⟩:=q2.loc (d:=4) (g:=cnt 0 4) o4.2 h.okr.ne.symm h.okr.ne.symm;rw[cH]at r4;simp only[go_sem,r4,lW,iD]
     refine⟨rfl,sZ bEk.2 rfl rfl rfl rfl ?_⟩
     simp only[go_sem,kK,bP1,bPx,aVg];exact⟨rfl,⟨r2.okr,by rw[s2];exact r2.r⟩,⟨fun k hk a b=>by rw[hk.set,q2.old k (hk.up u1) a b,hk.set];exact hold k hk a,fun t=>bPb (u1 t) (q2.up t)⟩⟩
   |wait=>
    refine bL ?_
    simp only[go_sem]
    refine WIn.mono (hwait hR ⟨⟨rfl,by simp[aC]⟩,h.okr.up (by(repeat refine upS ?_ (by omega));exact aN _),h.okr.ne,.inr rfl,.inr rfl,by simp only[cH];rfl,by simp only[s2];exact hr⟩) ?_
    rintro v e1 c1 ⟨rfl,⟨left',f',n',back',bv',t1⟩,q1⟩
    obtain⟨p4,o4⟩:=q1.loc (d:=4) (g:=cnt 0 4) (by simp[aC]) (by simp) h.okr.ne.symm
    simp only[go_sem]at p4;have u1: ∀t,cnt 0 t<=c1 0 t:=fun t=>bPb (((by(repeat refine upS ?_ (by omega));exact aN _): ∀t,cnt 0 t<=(aC (aC (aC (aC (aC (aC cnt 0 2 (cnt 0 2+1)) 0 3 (cnt 0 3+1)) 0 4 (cnt 0 4+1)) 0 5 (cnt 0 5+1)) 0 6 (cnt 0 6+1)) 0 55 (cnt 0 55+1)) 0 t) t) (q1.up t)
    have hold: ∀k,Old k cnt->k≠kr->e1 k=en k:=fun k hk hkr=>by
     rw[q1.old k (hk.up (by(repeat refine upS ?_ (by omega));exact aN _)) hk.ne hkr];simp only[hk.set]
    simp only[go_sem,kK,p4,aWc,aNj.ret,lW,iD]
    refine⟨rfl,sZ bEk.2 rfl rfl rfl rfl ?_⟩
    simp only[go_sem,kK,bP1,bPx,aVg];exact⟨rfl,⟨t1.okr,by simp only[s2];exact t1.r⟩,⟨fun k hk a b=>by simp only[hk.set];exact hold k hk a,u1⟩⟩
   |fail s=>
    refine cK 2 rfl ?_
    simp only[go_sem,bO5,bO3]
    refine wF.mono (hfail hR ⟨⟨rfl,by simp[aC]⟩,h.okr.up (by(repeat refine upS ?_ (by omega));exact aN _),h.okr.ne,.inr rfl,.inr rfl,by simp only[cH];rfl,by simp only[s2];exact hr⟩) ?_
    rintro v e1 c1 ⟨rfl,q1,O,T,U,I,u,rb⟩
    obtain⟨p2,_⟩:=q1.loc (d:=2) (g:=cnt 0 2) (by simp[aC]) (by simp) h.okr.ne.symm
    obtain⟨p3,_⟩:=q1.loc (d:=3) (g:=cnt 0 3) (by simp[aC]) (by simp) h.okr.ne.symm
    obtain⟨p4,o4⟩:=q1.loc (d:=4) (g:=cnt 0 4) (by simp[aC]) (by simp) h.okr.ne.symm
    obtain⟨p6,_⟩:=q1.loc (d:=6) (g:=cnt 0 6) (by simp[aC]) (by simp) h.okr.ne.symm
    simp only[go_sem]at p2 p3 p4 p6;have u1: ∀t,cnt 0 t<=c1 0 t:=fun t=>bPb (((by(repeat refine upS ?_ (by omega));exact aN _): ∀t,cnt 0 t<=(aC (aC (aC (aC (aC (aC cnt 0 2 (cnt 0 2+1)) 0 3 (cnt 0 3+1)) 0 4 (cnt 0 4+1)) 0 5 (cnt 0 5+1)) 0 6 (cnt 0 6+1)) 0 55 (cnt 0 55+1)) 0 t) t) (q1.up t)
    have hold: ∀k,Old k cnt->k≠kr->e1 k=en k:=fun k hk hkr=>by
     rw[q1.old k (hk.up (by(repeat refine upS ?_ (by omega));exact aN _)) hk.ne hkr];simp only[hk.set]
    have o2':Old ⟨0,2,cnt 0 2⟩ c1:=⟨rfl,bPo (by simp[aC]) (q1.up 2)⟩
    have o3':Old ⟨0,3,cnt 0 3⟩ c1:=⟨rfl,bPo (by simp[aC]) (q1.up 3)⟩
    have okr1:=h.okr.up u1;have s2b:=okr1.set;have n2b:=okr1.new
    refine⟨rfl,sZ bEk.2 rfl rfl rfl rfl ?_⟩
    simp only[go_sem,kK,aE3,bP1,bPx,bHe,p2,p3,p6,rb,s2b,n2b,n2]
    refine WIn.mono (yY ⟨okr1.up (fun t=>(upS (aN c1) (a:=5) (x:=c1 0 5+1) (by omega)) t),cH⟩ (o:=⟨6,s,[],[]⟩) (.inr rfl) (.inr rfl) ha t1 (by omega)) ?_
    rintro v e2 c2 ⟨rfl,r2,q2⟩
    have u2: ∀t,c1 0 t<=c2 0 t:=fun t=>bPb ((upS (aN c1) (a:=5) (x:=c1 0 5+1) (by omega)) t) (q2.up t)
    obtain⟨r2',_⟩:=q2.loc (d:=2) (g:=cnt 0 2) (by simp only[aC];exact o2'.2) h.okr.ne.symm h.okr.ne.symm
    obtain⟨r4',_⟩:=q2.loc (d:=4) (g:=cnt 0 4) (by simp only[aC];exact o4.2) h.okr.ne.symm h.okr.ne.symm
    obtain⟨r5',_⟩:=q2.loc (d:=5) (g:=c1 0 5) (by simp[aC]) okr1.ne.symm okr1.ne.symm
    obtain⟨r3',_⟩:=q2.loc (d:=3) (g:=cnt 0 3) (by simp only[aC];exact o3'.2) h.okr.ne.symm h.okr.ne.symm
    simp only[go_sem,n2,n2b,p2,p3,p4]at r2' r3' r4' r5';have s2c:=r2.okr.set;have u3: ∀t,cnt 0 t<=c2 0 t:=fun t=>bPb (u1 t) (u2 t)
    simp only[go_sem,r3',r4',r5',(aIf _).ret,lW,iD]
    refine⟨rfl,⟨r2.okr.up (upS (aN c2) (by omega)),by simp only[s2,s2c];exact r2.r⟩,⟨fun k hk a b=>?_,fun t=>upS (cnt:=cnt) u3 (u3 7|>fun h=>by omega) t⟩⟩
    rw[hk.set];simp only[(hk.up u3).set];rw[q2.old k (hk.up (fun t=>bPb (u1 t) (upS (aN c1) (by omega) t))) a b,aK a]
    simp only[(hk.up u1).set];exact hold k hk a
 ·have d0:decide ((w.obj (bA w a)).n=0)=false:=decide_eq_false n0;have e:cJ p w a=mL w:=by unfold cJ;simp only;rw[if_pos n0]
  rw[e];have hL:=at_ Tryz.func121
  conv at hL=>rhs;reduce
  refine bD hL rfl rfl ?_
  simp only[go_sem,kK,lM (v:= .ptr kr 0) rfl rfl]
  refine aI ?_
  simp only[go_sem,kK,hr,s2,m2,hia,hio,d0,lW,iD,kA,kF];exact⟨rfl,⟨h.okr.up (by(repeat refine upS ?_ (by omega));exact aN _),by simp only[s2];exact hr⟩,⟨fun k hk _ _=>by simp only[hk.set],(by(repeat refine upS ?_ (by omega));exact aN _)⟩⟩
theorem aP2 (i:Int):PC L 174 [.i i] (.i i):=by
 have hL:=at_ Tryz.func174
 conv at hL=>rhs;reduce
 refine aG hL rfl rfl ?_
 simp only[go_sem,kK]
theorem aTa {α:Type}{f:α->Val}{l:List α}(h:k<l.length):(l.map f).set k (f l[k])=l.map f:=by
 apply List.ext_getElem
 ·simp
 ·intro i h1 h2;rw[List.getElem_set];split
  ·rename_i e;subst e;simp
  ·rfl
theorem sU (l:List aD)(hl:l.length<=16777216):PC L 225 [.fz (l.map aD.enc),.fp [.fn 174 [] []] 0] (.fz (l.map aD.enc)):=by
 have hf:Few l.length:=by unfold Few;omega
 have hc:=aE1 (l.map aD.enc) (aSk l) (by simpa using hl)
 have hL:=at_ Tryz.func225
 conv at hL=>rhs;reduce
 refine aG hL rfl rfl ?_
 by_cases h0:l=[]
 ·subst h0;have hc0:=aE1 [] rfl (by simp)
  simp only[go_sem,kK,bPf,hc0.ret,show sH 2 []= .cl []from rfl]
  refine bQ (0) (fun k st=> ∃fr en cnt,st=⟨fr,en,cnt⟩/\ (fr 0= .cl [])/\ (fr 8= .cl [])/\ (fr 9= .i 0)/\ (fr 10= .i k)) 0 (bO8 _) ⟨_,_,_,rfl,(by first|(simp only[go_sem];(try rfl);done)|rfl|(simp;done)),(by first|(simp only[go_sem];(try rfl);done)|rfl|(simp;done)),(by first|(simp only[go_sem];(try rfl);done)|rfl|(simp;done)),(by first|(simp only[go_sem];(try rfl);done)|rfl|(simp;done))⟩ ?_
  rintro k st hk ⟨fr,en,cnt,rfl,h0,h8,h9,h10⟩
  simp only[go_sem,kK,h9,h10];have:k=0:=by omega
  subst this;simp only[go_sem,h0]
 ·have h0':l.map aD.enc≠[]:=by simpa using h0
  rw[pK h0']at hc;simp only[go_sem,kK,hc.ret]
  refine bQ (l.length) (fun k st=> ∃fr en cnt,st=⟨fr,en,cnt⟩/\ (fr 0= .bl ⟨0,7,0⟩ 0 l.length)/\ (en ⟨0,7,0⟩=some (.blk 2 (l.map aD.enc) false))/\ (fr 1= .fp [.fn 174 [] []] 0)/\ (fr 8= .bl ⟨0,7,0⟩ 0 l.length)/\ (fr 9= .i l.length)/\ (fr 10= .i k)) 0 (bO8 _) ⟨_,_,_,rfl,(by first|(simp only[go_sem,qW,h0,h8,h9,h10];(try rfl);done)|rfl|(simp;done)),(by first|(simp only[go_sem,qW,h0,h8,h9,h10];(try rfl);done)|rfl|(simp;done)),(by first|(simp only[go_sem,qW,h0,h8,h9,h10];(try rfl);done)|rfl|(simp;done)),(by first|(simp only[go_sem,qW,h0,h8,h9,h10];(try rfl);done)|rfl|(simp;done)),(by first|(simp only[go_sem,qW,h0,h8,h9,h10];(try rfl);done)|rfl|(simp;done)),(by first|(simp only[go_sem,qW,h0,h8,h9,h10];(try rfl);done)|rfl|(simp;done))⟩ ?_
  rintro k st hk ⟨fr,en,cnt,rfl,h0,e7,h1,h8,h9,h10⟩
  simp only[go_sem,kK,h9,h10]
  refine aH (fun hq=>?_) (fun hq=>?_)
  ·have h':k<l.length:=of_decide_eq_true hq;have hx:(l.map aD.enc)[k]?=some (aD.enc l[k]):=by simp[h']
   have hc1:(0:Int)<=(k:Int):=by omega
   have hc2:(k:Int)<(l.length:Int):=by omega
   have hss:=aTa (f:=aD.enc) h';simp only[go_sem,kK,e7,h8,h10,h',hx,hc1,hc2,true_and,and_true,eq_self,if_true,bPs,bPz]
   refine aH (fun hg=>?_) (fun hg=>?_)
   ·simp only[go_sem,h0,e7,h1,h10,hx,hc1,hc2,and_true,eq_self,if_true,bPs,bPz,(aP2 _).ret,eV];simp only[aD.enc]at hss
    try simp only[go_sem,hss]
    refine⟨_,_,_,rfl,?_⟩
    simp only[go_sem,h0,h1,h8,h9,aT h' hf]
   ·simp only[go_sem,h10]
    refine⟨_,_,_,rfl,?_⟩
    simp only[go_sem,h0,e7,h1,h8,h9,aT h' hf]
  ·simp only[go_sem,h0,e7,bOy,if_true];rw[bPi (by simp)]
theorem aYw (o:aR)(hs:fT o=true):PC L 173 [.agg [.i o.form,.i o.n,.fz (o.vals.map aD.enc),.fz (o.frames.map aB.enc)],.fn 174 [] []] (.agg [.i o.form,.i o.n,.fz (o.vals.map aD.enc),.fz (o.frames.map aB.enc)]):=by
 obtain⟨b1,b2,b3⟩:=aXz hs;have hf:Few o.frames.length:=by unfold Few;omega
 have hc:=uW (o.frames.map aB.enc) (jA _) (by rw[bOz];omega)
 have hL:=at_ Tryz.func173
 conv at hL=>rhs;reduce
 refine aG hL rfl rfl ?_
 simp only[go_sem,kK,lM (v:= .fn 174 [] []) rfl rfl]
 refine aI ?_
 by_cases h0:o.frames=[]
 ·have hc0:=uW [] rfl (by simp)
  simp only[go_sem,h0,bPf,(sU o.vals (by omega)).ret,hc0.ret,show sH 3 []= .cl []from rfl,qA,kZ,kA,kF]
  refine bQ (0) (fun k st=> ∃fr en cnt,st=⟨fr,en,cnt⟩/\ (fr 2= .ptr ⟨0,2,0⟩ 0)/\ (en ⟨0,2,0⟩=some (.box [.i o.form,.i o.n,.fz (o.vals.map aD.enc),.cl []] false))/\ (fr 4= .ptr ⟨0,4,0⟩ 0)/\ (en ⟨0,4,0⟩=some (.box [.i 0,.i 0,.cl [],.cl []] false))/\ (fr 20= .i 0)/\ (fr 21= .i k)) 0 (bO8 _) ⟨_,_,_,rfl,(by first|(simp only[go_sem];(try rfl);done)|rfl|(simp;done)),(by first|(simp only[go_sem];(try rfl);done)|rfl|(simp;done)),(by first|(simp only[go_sem];(try rfl);done)|rfl|(simp;done)),(by first|(simp only[go_sem];(try rfl);done)|rfl|(simp;done)),(by first|(simp only[go_sem];(try rfl);done)|rfl|(simp;done)),(by first|(simp only[go_sem];(try rfl);done)|rfl|(simp;done))⟩ ?_
  rintro k st hk ⟨fr,en,cnt,rfl,h2,e2,h4,e4,h20,h21⟩
  simp only[go_sem,kK,h20,h21];have:k=0:=by omega
  subst this;simp only[go_sem,h2,e2,h4,e4]
 ·have h0':o.frames.map aB.enc≠[]:=by simpa using h0
  rw[pK h0']at hc;simp only[go_sem,(sU o.vals (by omega)).ret,hc.ret,uM,nC,bOz,kA,kF]
  refine bQ (o.frames.length) (fun k st=> ∃fr en cnt,st=⟨fr,en,cnt⟩/\ (fr 2= .ptr ⟨0,2,0⟩ 0)/\ (en ⟨0,2,0⟩=some (.box [.i o.form,.i o.n,.fz (o.vals.map aD.enc),.bl ⟨0,15,0⟩ 0 o.frames.length] false))/\ (fr 4= .ptr ⟨0,4,0⟩ 0)/\ (en ⟨0,4,0⟩=some (.box [.i 0,.i 0,.cl [],.cl []] false))/\ (en ⟨0,15,0⟩=some (.blk 3 (o.frames.map aB.enc) false))/\ (en ⟨0,3,0⟩=some (.box [.fn 174 [] []] true))/\ (fr 5= .fn 225 [] [.ptr ⟨0,3,0⟩ 0])/\ (fr 19= .bl ⟨0,15,0⟩ 0 o.frames.length)/\ (fr 20= .i o.frames.length)/\ (fr 21= .i k)) 0 (bO8 _) ⟨_,_,_,rfl,(by first|(simp only[go_sem,qW,h2,e2,h4,e4,h20,h21];(try rfl);done)|rfl|(simp;done)),(by first|(simp only[go_sem,qW,h2,e2,h4,e4,h20,h21];(try rfl);done)|rfl|(simp;done)),(by first|(simp only[go_sem,qW,h2,e2,h4,e4,h20,h21];(try rfl);done)|rfl|(simp;done)),(by first|(simp only[go_sem,qW,h2,e2,h4,e4,h20,h21];(try rfl);done)|rfl|(simp;done)),(by first|(simp only[go_sem,qW,h2,e2,h4,e4,h20,h21];(try rfl);done)|rfl|(simp;done)),(by first|(simp only[go_sem,qW,h2,e2,h4,e4,h20,h21];(try rfl);done)|rfl|(simp;done)),(by first|(simp only[go_sem,qW,h2,e2,h4,e4,h20,h21];(try rfl);done)|rfl|(simp;done)),(by first|(simp only[go_sem,qW,h2,e2,h4,e4,h20,h21];(try rfl);done)|rfl|(simp;done)),(by first|(simp only[go_sem,qW,h2,e2,h4,e4,h20,h21];(try rfl);done)|rfl|(simp;done)),(by first|(simp only[go_sem,qW,h2,e2,h4,e4,h20,h21];(try rfl);done)|rfl|(simp;done))⟩ ?_
  rintro k st hk ⟨fr,en,cnt,rfl,h2,e2,h4,e4,e15,e3,h5,h19,h20,h21⟩
  simp only[go_sem,kK,h20,h21]
  refine aH (fun hq=>?_) (fun hq=>?_)
  ·have h':k<o.frames.length:=of_decide_eq_true hq;have hb:=b3 _ (bO6 h');have hx:(o.frames.map aB.enc)[k]?=some (aB.enc o.frames[k]):=by simp[h']
   have hc1:(0:Int)<=(k:Int):=by omega
   have hc2:(k:Int)<(o.frames.length:Int):=by omega
   have hss:=aTa (f:=aB.enc) h';simp only[aB.enc]at hss;simp only[go_sem,e15,h19,h21,h',hx,hc1,hc2,true_and,and_true,eq_self,if_true,bPs,bPz]
   refine aI ?_
   simp only[go_sem,h2,e2,e15,e3,h5,h21,hx,hc1,hc2,true_and,and_true,eq_self,if_true,bPs,bPz,(sU _ (show o.frames[k].env.length<=16777216 by omega)).ret,(sU _ (show o.frames[k].vals.length<=16777216 by omega)).ret,eV,hss,kA,kF]
   refine⟨_,_,_,rfl,?_⟩
   simp only[go_sem,h2,e2,h4,e4,h5,h19,h20,aT h' hf]
  ·simp only[go_sem,h2,e2,h4,e4,e15,bOy,if_true];rw[bPi (by simp)]
def aBc (what:Int):Int:=if what=2 then 2 else if what=0 then 0 else 1
theorem aIs (what:Int)(e:lV):PC L 122 [wM what e] (.i (aBc what)):=by
 unfold wM aBc
 by_cases h2:what=2
 ·rw[if_pos h2,if_pos h2];exact aNj
 ·rw[if_neg h2,if_neg h2]
  by_cases h0:what=0
  ·rw[if_pos h0,if_pos h0];exact aKv
  ·rw[if_neg h0,if_neg h0];exact aNk _
theorem aCw (what:Int):decide (aBc what=2)=decide (what=2):=by
 unfold aBc;split
 ·rename_i h;simp[h]
 ·rename_i h;split<;>simp[h]
theorem aBd (what:Int):decide (aBc what=0)=decide (what=0):=by
 unfold aBc;split
 ·rename_i h;simp[h]
 ·rename_i h;split<;>rename_i h'<;>simp[h']
theorem aFn (what:Int)(e:lV)(en:En)(n:Nat):snapD (n+4) en (wM what e)=some (wM what e,[]):=by
 unfold wM;split
 ·rfl
 ·split<;>rfl
theorem aIt (what:Int)(e:lV):(wM what e).wk1=wM what e:=by
 unfold wM;split
 ·rfl
 ·split<;>rfl
theorem bEl (hp:eH p)(hsp:aS p=true)(hF:cP p w0 S w)(ha:inR a 0 ((w.tasks.length:Int)-1)=true):PC L 290 [.fp [.fz (p.nodes.map aJ.enc),.fz (p.funs.map (.int .i64)),.i p.main,.fz (p.cons.map cO.enc),.fz (w.objs.map aR.enc),.fz (w.tasks.map (.int .i64)),.fz (w.outs.map bR.enc),.fz (w.ins.map (.int .i64)),.i w.used] 0,.i a] (.i (aBc (cJ p w a).what)):=by
 have hL:=at_ Tryz.func290
 conv at hL=>rhs;reduce
 refine aG hL rfl rfl ?_
 simp only[go_sem,kK]
 refine WIn.mono (aFm hp hsp hF ha ⟨⟨rfl,by simp[aC]⟩,by simp only[cH]⟩) ?_
 rintro v e1 c1 ⟨rfl,_,_⟩
 try simp only[go_sem,aFn,aIt,(aIs _ _).ret]
theorem bB7 (hp:eH p)(hsp:aS p=true)(hF:cP p w0 S w):PC L 230 [.fp [.fz (p.nodes.map aJ.enc),.fz (p.funs.map (.int .i64)),.i p.main,.fz (p.cons.map cO.enc),.fz (w.objs.map aR.enc),.fz (w.tasks.map (.int .i64)),.fz (w.outs.map bR.enc),.fz (w.ins.map (.int .i64)),.i w.used] 0] (sH 1 ((dL p w).map (.int .i64))):=by
 have h120:=xP hF;have hw:Few w.tasks.length:=by unfold Few;omega
 have hL:=at_ Tryz.func230
 conv at hL=>rhs;reduce
 refine aG hL rfl rfl ?_
 simp only[go_sem,kK]
 refine bQ w.tasks.length (fun k st=> ∃fr en cnt v,st=⟨fr,en,cnt⟩/\ fr 0= .fp [.fz (p.nodes.map aJ.enc),.fz (p.funs.map (.int .i64)),.i p.main,.fz (p.cons.map cO.enc),.fz (w.objs.map aR.enc),.fz (w.tasks.map (.int .i64)),.fz (w.outs.map bR.enc),.fz (w.ins.map (.int .i64)),.i w.used] 0/\ fr 3=v/\ fr 10= .i w.tasks.length/\ fr 11= .i k/\ aHo en v 1 ((gD p w k).map (.int .i64)) 21/\ (gD p w k=[]->v= .cl [])) 0 (bO8 _) ⟨_,_,_,.cl [],rfl,by simp only[go_sem],by simp only[go_sem],by simp only[go_sem],by simp only[go_sem],.inl ⟨rfl,rfl⟩,fun _=>rfl⟩ ?_
 rintro k st hk ⟨fr,en,cnt,v,rfl,k0,k3,k10,k11,hv,hv0⟩
 simp only[go_sem,kK,k10,k11]
 refine aH (fun hq=>?_) (fun hq=>?_)
 ·have h':k<w.tasks.length:=of_decide_eq_true hq;have ha:inR (k:Int) 0 ((w.tasks.length:Int)-1)=true:=by simp only[inR,bSi];omega
  have hN:=bEl hp hsp hF ha;have hln:(gD p w k).length<=k:=by
   simp only[gD,bOz];exact bPb (List.length_filter_le _ _) (by simp)
  have hst:gD p w (k+1)=if(cJ p w k).what=2 then gD p w k else gD p w k++[(k:Int)]:=by
   simp only[gD,List.range_succ,List.filter_append,bQg,List.filter_cons,List.filter_nil]
   by_cases hq:(cJ p w (k:Int)).what=2<;>simp[hq]
  by_cases h2:(cJ p w k).what=2
  ·have d2:decide (aBc (cJ p w k).what=2)=true:=by rw[aCw];exact decide_eq_true h2
   rw[if_pos h2]at hst;simp only[go_sem,kK,h',k0,k11,hN.ret,d2]
   refine⟨_,_,_,v,rfl,?_⟩
   simp only[go_sem,k0,k3,k10,aT h' hw,hst];exact⟨hv,hv0⟩
  ·have d2:decide (aBc (cJ p w k).what=2)=false:=by rw[aCw];exact decide_eq_false h2
   rw[if_neg h2]at hst;have hl1:(gD p w k).length+1<=16777216:=by omega
   rcases hv with⟨rfl,he⟩|⟨g,rfl,he⟩
   ·have he':gD p w k=[]:=by simpa using he
    rw[he']at hst;simp only[go_sem,kK,h',k0,k3,k11,hN.ret,d2,bT,eG,iX,List.isEmpty_cons,bBl]
    refine⟨_,_,_,.bl ⟨0,21,cnt 0 21⟩ 0 1,rfl,?_⟩
    simp only[go_sem,k0,k10,aT h' hw,hst];exact⟨.inr ⟨_,rfl,cH⟩,fun h=>by simp at h⟩
   ·simp only[go_sem,kK,h',k0,k3,k11,hN.ret,d2,bT,eG,uN,bBl,he,lA,hl1,bOz,bO7,bPe]
    refine⟨_,_,_,.bl ⟨0,21,cnt 0 21⟩ 0 ((gD p w k).length+1),rfl,?_⟩
    simp only[go_sem,k0,k10,aT h' hw,hst,bQg];exact⟨.inr ⟨_,by simp,cH⟩,fun h=>by simp at h⟩
 ·have:k=w.tasks.length:=by simp at hq;omega
  subst this;rcases hv with⟨rfl,he⟩|⟨g,rfl,he⟩
  ·have he':dL p w=[]:=by simpa[dL]using he
   simp only[go_sem,k3,he'];rfl
  ·have hne:(dL p w).map (Val.int .i64)≠[]:=fun h0=>by
    have:=hv0 (by simpa[dL]using h0)
    cases this
   rw[pK hne];simp only[go_sem,k3,he];rfl
end
end Go.Proofs.YtmnchlhngpdffaaGreat
namespace Go.Abs
def aDo (w:aA)(a:Int):OpR->Prop
 | .go none w' _ _=>w'.tasks=w.tasks/\ w.objs<+:w'.objs/\ w'.outs=w.outs/\ w'.ins=w.ins/\ w'.used=w.used
 | .go (some e) _ _ _=>e.task=a/\ ¬e.act=0
 | .wait=>True
 | .fail s=> ¬s=0
variable {v:aD}{env:List aD}{node n a:Int}{w' w:aA}{p:aF}
section
variable {left:List aB}
theorem aVh :aDo w a (iQ w left v):=⟨rfl,bR0 _,rfl,rfl,rfl⟩
theorem aYx {l:List aB}:aDo w a (qJ w left l):=by
 unfold qJ;split
 ·show¬(4:Int)=0;decide
 ·exact⟨rfl,bR0 _,rfl,rfl,rfl⟩
theorem aGt :aDo w a (kO w left node env):=by
 unfold kO;split
 ·show¬(4:Int)=0;decide
 ·exact aYx
theorem aNw {op:Int}{e:aD}(h: ¬op=0):aDo w a (jY w' a left op n v e):=⟨rfl,h⟩
theorem aYy {o:aR}:aDo w a (iQ (eF w o) left v):=⟨rfl,List.prefix_append _ _,rfl,rfl,rfl⟩
theorem aVi {o:aR}:aDo w a (kO (eF w o) left node env):=by
 unfold kO qJ;split
 ·show¬(4:Int)=0;decide
 ·split
  ·show¬(4:Int)=0;decide
  ·exact⟨rfl,List.prefix_append _ _,rfl,rfl,rfl⟩
theorem aDp {o:aR}{k:aA->aD->OpR}(h:aDo w a (k (eF w o) (dO w.objs.length))):aDo w a (iZ w o k):=by
 unfold iZ;split
 ·show¬(4:Int)=0;decide
 ·exact h
theorem aNx {s:Int}(h: ¬s=0):aDo w a (.fail s):=h
theorem aFo {kids:List Int}{env:List aD}{u:aD}: ∀(l:List Pat) (i:Nat),aDo w a (eP w left kids env u i l)
 |[],i=>by show¬(3:Int)=0;decide
 |q::qs,i=>by
  simp only[eP];split
  ·exact aGt
  ·exact aFo qs (i+1)
theorem aTb {c:Prop}[Decidable c]{x y:OpR}(hx:c->aDo w a x)(hy: ¬c->aDo w a y):aDo w a (if c then x else y):=by
 by_cases h:c
 ·rw[if_pos h];exact hx h
 ·rw[if_neg h];exact hy h
theorem aTc {f:aB}{n:aJ}:aDo w a (opR p w a left f n):=by
 unfold opR
 repeat' (with_reducible refine aTb (fun _=>?_) (fun _=>?_))
 all_goals try(split<;>(repeat' (with_reducible refine aTb (fun _=>?_) (fun _=>?_))))
 all_goals first
  |exact aVh
  |exact aGt
  |exact aNw (by decide)
  |exact aNx (by decide)
  |exact aFo _ _
  |exact aDp aYy
  |exact aDp aVi
  |exact aDp (aNw (by decide))
  |exact⟨rfl,bR0 _,rfl,rfl,rfl⟩
  |exact aNx (by assumption)
  |trivial
end
def bFp (w:aA)(a:Int)(d:Did):Prop:=
 (d.what=0->d.e=iE/\ d.w.tasks=w.tasks/\ w.objs.length<=d.w.objs.length/\ (∀i:Nat,i<w.objs.length-> ¬(i:Int)=bA w a->d.w.obj i=w.obj i)/\ d.w.outs=w.outs/\ d.w.ins=w.ins/\ d.w.used=w.used)/\
 (d.what=1->d.e.task=a/\ (¬d.e.act=0 \/ ¬d.e.n=0))/\ (d.what=0 \/d.what=1 \/d.what=2)/\ (d.what=2->d.w=w/\ d.e=iE)
variable {i:Nat}
theorem bEm {o:aR}(h: ¬i=n.toNat):(eC w n o).obj i=w.obj i:=by
 simp only[aA.obj,eC,bPz,bO2];rw[List.getElem?_set_ne (by omega)]
theorem aVj (h:w.objs<+:w'.objs)(hi:i<w.objs.length):w'.obj i=w.obj i:=by
 obtain⟨t,ht⟩:=h;simp only[aA.obj,bPz,bO2,<-ht,bR3 hi]
theorem bB8 (h:w'.tasks=w.tasks):bA w' a=bA w a:=by unfold bA;rw[h]
theorem aFp (h0:0<=bA w a){R:OpR}(h:aDo w a R):bFp w a (R.did w a):=by
 cases R with
 |go ev w' l b=>
  cases ev with
  |none=>
   obtain⟨h1,h2,h3,h4,h5⟩:=h;have ht:=bB8 (a:=a) h1
   refine⟨fun _=>⟨rfl,h1,?_,fun i hi hne=>?_,h3,h4,h5⟩,fun h=>by simp[OpR.did]at h,.inl rfl,fun h=>by simp[OpR.did]at h⟩
   ·simp only[OpR.did,eC,bQ1];exact h2.length_le
   ·simp only[OpR.did];rw[ht,bEm (by omega)]
    exact aVj h2 hi
  |some e=>
   obtain⟨h1,h2⟩:=h;exact⟨fun h=>by simp[OpR.did]at h,fun _=>⟨h1,.inl h2⟩,.inr (.inl rfl),fun h=>by simp[OpR.did]at h⟩
 |wait=>exact⟨fun h=>by simp[OpR.did,mL]at h,fun h=>by simp[OpR.did,mL]at h,.inr (.inr rfl),fun _=>⟨rfl,rfl⟩⟩
 |fail s=>exact⟨fun h=>by simp[OpR.did,bI]at h,fun _=>⟨rfl,.inr h⟩,.inr (.inl rfl),fun h=>by simp[OpR.did,bI]at h⟩
theorem aGu (h0:0<=bA w a)(ha:inR a 0 ((w.tasks.length:Int)-1)=true):bFp w a (cJ p w a):=by
 unfold cJ
 simp only
 split
 ·exact aFp h0 (R:= .wait) trivial
 split
 ·split
  ·exact⟨fun h=>by simp at h,fun _=>⟨rfl,.inr (by simp)⟩,.inr (.inl rfl),fun h=>by simp at h⟩
  ·exact aFp h0 (R:= .go none w (aCq (w.obj (bA w a)).frames (aE (w.obj (bA w a)).vals 0)) []) ⟨rfl,bR0 _,rfl,rfl,rfl⟩
 split
 ·rw[vS];exact aFp h0 aGt
 ·unfold rS;rw[aKu ha];exact aFp h0 aTc
end Go.Abs
namespace Go.Proofs.YtmnchlhngpdffaaGreat
open Go.Abs Go.Proofs
set_option maxRecDepth 100000
set_option maxHeartbeats 4000000
variable {xs:List Val}{p:aF}{w w0:aA}{en:En}{kt kr:Key}{cnt:Nat->Nat->Nat}{S:Nat->Prop}{a:Int}{left:List aB}{f:aB}{back:List aD}{bv:Val}
section
variable {n:aJ}
def kD (r:aA×Nat×Bool):Val:= .tup [.i (if r.2.2=true then((r.2.1:Nat):Int)else 0),.bool r.2.2]
theorem yZ (hp:eH p)(hsp:aS p=true)(hF:cP p w0 S w)(h:RS kr en cnt p w)(s:Nat)(hs:s<=5001):
  WIn L (.fn 134 [] []) [.ptr kr 0,.i (s:Int)] en cnt fun r en' cnt'=>r=kD (bU p w s)/\ RS kr en' cnt' p (bU p w s).1/\ dU kr kr en cnt en' cnt':=by
 have hr:=h.r;have h120:=xP hF;have hfw:Few w.tasks.length:=by unfold Few;omega
 have hL:=at_ Tryz.func134
 conv at hL=>rhs;reduce
 refine bD hL rfl rfl ?_
 simp only[go_sem,kK,hr,bOz]
 refine bQ w.tasks.length (fun k st=> ∃fr en' cnt' x t,st=⟨fr,en',cnt'⟩/\ fr 0= .ptr kr 0/\ fr 1= .i ((t:Nat):Int)/\ fr 13= .i w.tasks.length/\ fr 14= .i k/\ RS kr en' cnt' p x/\ dU kr kr en cnt en' cnt'/\
  cP p w0 S x/\ x.tasks.length=w.tasks.length/\ t<=5001/\ iP p (121-k) k x t=bU p w s) 0 (bO8 _) ⟨_,_,_,w,s,rfl,by simp only[go_sem],by simp only[go_sem],by simp only[go_sem],by simp only[go_sem],h,dU.refl _ _ _ _,hF,rfl,hs,rfl⟩ ?_
 rintro k st hk ⟨fr,en1,cnt1,x,t,rfl,k0,k1,k13,k14,hx,hkp,hFx,hxt,ht,hD⟩
 simp only[go_sem,kK,k13,k14]
 refine aH (fun hq=>?_) (fun hq=>?_)
 ·have h':k<w.tasks.length:=of_decide_eq_true hq;have ha:inR (k:Int) 0 ((x.tasks.length:Int)-1)=true:=by simp only[inR,bSi];omega
  rw[show 121-k=(120-k)+1 by omega,iP,if_pos (by omega)]at hD
  simp only[go_sem,h',k14]
  refine Go.Abs.wp_loop (fun(j:Nat) st=> ∃fr en' cnt' y,st=⟨fr,en',cnt'⟩/\ fr 0= .ptr kr 0/\ fr 1= .i ((t+j:Nat):Int)/\ fr 6= .i k/\ fr 13= .i w.tasks.length/\ fr 14= .i k/\ RS kr en' cnt' p y/\ dU kr kr en cnt en' cnt'/\
   cP p w0 S y/\ y.tasks.length=w.tasks.length/\ t+j<=5001/\ eS p k (5000-t) x=((eS p k (5000-(t+j)) y).1,(eS p k (5000-(t+j)) y).2.1+j,(eS p k (5000-(t+j)) y).2.2)) (fun j=>5001-(t+j)) 0
   ⟨_,_,_,x,rfl,by simp only[go_sem,k0],by simp only[go_sem,k1],by simp only[go_sem],by simp only[go_sem,k13],by simp only[go_sem,k14],hx,hkp,hFx,hxt,ht,rfl⟩ ?_
  clear k0 k1 k13 k14 hx hkp
  rintro j st ⟨fr,en1,cnt1,y,rfl,k0,k1,k6,k13,k14,hy,hkp,hFy,hyt,htj,hI⟩
  have hay:inR (k:Int) 0 ((y.tasks.length:Int)-1)=true:=by simp only[inR,bSi];omega
  have s2:=hy.okr.set;have n2:=hy.okr.new;have m2:=hy.okr.eqF;have o2:=hy.okr.eqF';have hyr:=hy.r;simp only[go_sem,kK,k0,k6,hyr]
  refine WIn.mono (aFm hp hsp hFy hay ⟨⟨rfl,by simp[aC]⟩,by simp only[cH]⟩) ?_
  rintro v e1 c1 ⟨rfl,r1,q1⟩
  have u1: ∀t,cnt1 0 t<=c1 0 t:=fun t=>bPb (((by(repeat refine upS ?_ (by omega));exact aN _): ∀t,cnt1 0 t<=aC cnt1 0 7 (cnt1 0 7+1) 0 t) t) (q1.up t)
  have hold: ∀k,Old k cnt1->e1 k=en1 k:=fun k hk=>by
   rw[q1.old k (hk.up (by(repeat refine upS ?_ (by omega));exact aN _)) hk.ne hk.ne];simp only[hk.set]
  have hy1:RS kr e1 c1 p y:=hy.to (hold kr hy.okr) u1;have hk1:dU kr kr en cnt e1 c1:=hkp.trans ⟨fun k hk _ _=>hold k hk,u1⟩
  have hy1r:=hy1.r;have hr1:=r1.r;have n2b:=hy1.okr.new
  by_cases h0:(cJ p y k).what=0
  ·have d0:decide (aBc (cJ p y k).what=0)=true:=by rw[aBd];exact decide_eq_true h0
   have hw1:IntKind.i64.wrap (((t+j:Nat):Int)+1)=((t+j+1:Nat):Int):=by rw[aW (by omega)];omega
   have hcal:=(aGu (p:=p) (by have:=(hFy.task hay).1;simp only[inR,bSi]at this;omega) hay).1 h0
   by_cases h5:5000<t+j+1
   ·have d5:decide ((5000:Int)<((t+j+1:Nat):Int))=true:=decide_eq_true (by omega)
    have hI0:eS p k (5000-t) x=(y,1+j,false):=by rw[hI,show 5000-(t+j)=0 by omega,eS,if_pos h0]
    rw[hI0]at hD;simp only[bO0,if_false]at hD;simp only[go_sem,kK,aFn,aIt,(aIs _ _).ret,k1,d0,hw1,d5];rw[<-hD];exact⟨rfl,hy1,hk1⟩
   ·have d5:decide ((5000:Int)<((t+j+1:Nat):Int))=false:=decide_eq_false (by omega)
    have hy':=mH hp hFy hay;simp only[go_sem,kK,aFn,aIt,(aIs _ _).ret,k0,k1,d0,hw1,d5,hy1r,hr1]
    refine⟨j+1,⟨_,_,_,(cJ p y k).w,rfl,?_⟩,by omega⟩
    simp only[go_sem,k0,k6,k13,k14]
    refine⟨by rw[bQo],⟨hy1.okr,cH⟩,⟨fun k hk a b=>by rw[aK a];exact hk1.old k hk a b,hk1.up⟩,hy',by rw[hcal.2.1];exact hyt,by omega,?_⟩
    rw[hI,show 5000-(t+j)=(5000-(t+(j+1)))+1 by omega,eS,if_pos h0]
    simp only[bQo,Nat.add_comm 1 j]
  ·have d0:decide (aBc (cJ p y k).what=0)=false:=by rw[aBd];exact decide_eq_false h0
   have hin: ∀m,eS p k m y=(y,0,true):=fun m=>by cases m<;>(rw[eS,if_neg h0])
   rw[hI,hin]at hD;simp only[if_true,bPs]at hD;simp only[go_sem,kK,aFn,aIt,(aIs _ _).ret,k1,k14,d0]
   refine⟨_,_,_,y,t+j,rfl,?_⟩
   simp only[go_sem,k0,k1,k13,aT h' hfw];exact⟨hy1,hk1,hFy,hyt,htj,by rw[show 121-(k+1)=120-k by omega];exact hD⟩
 ·have:k=w.tasks.length:=by simp at hq;omega
  subst this;have hD':bU p w s=(x,t,true):=by
   rw[<-hD];cases hm:121-w.tasks.length with
   |zero=>rfl
   |succ m=>rw[iP,if_neg (by omega)]
  rw[hD'];simp only[go_sem,k1];exact⟨rfl,hx,hkp⟩
theorem aCx (e:lV):PC L 391 [.agg [.i e.task,.i e.act,.i e.n,.i e.v.kind,.i e.v.n]] (.agg [.i e.task,.i e.act,.i e.n,.i e.v.kind,.i e.v.n]):=by
 have hL:=at_ Tryz.func391
 conv at hL=>rhs;reduce
 refine aG hL rfl rfl ?_
 simp only[go_sem,kK]
theorem aBe :PC L 392 [.agg []] (.agg [.i 0,.i 0,.i 0,.i 0,.i 0]):=by
 have hL:=at_ Tryz.func392
 conv at hL=>rhs;reduce
 refine aG hL rfl rfl ?_
 simp only[go_sem,kK]
theorem aBf :PC L 390 [.agg []] (.agg [.i 0,.i 0,.i 0,.i 0,.i 0]):=by
 have hL:=at_ Tryz.func390
 conv at hL=>rhs;reduce
 refine aG hL rfl rfl ?_
 simp only[go_sem,kK]
def evV (e:lV):Val:= .agg [.i e.task,.i e.act,.i e.n,.i e.v.kind,.i e.v.n]
theorem aCy (l:List Int):(l.map (Val.int .i64)).all Val.flat1=true:=by
 rw[bO4];intro x hx;obtain⟨i,_,rfl⟩:=bPt.1 hx;rfl
theorem bB9 :(Val.cl xs).flat=false:=(rfl)
theorem bCa :oX (.cl xs)=false:=(rfl)
theorem bCb (hp:eH p)(hsp:aS p=true)(hF:cP p w0 S w)(h:RS kr en cnt p w)(pick:Int):
  WIn L (.fn 194 [] []) [.ptr kr 0,.i pick] en cnt fun r en' cnt'=>r= .tup [evV (fW p w pick).2.1,.i ((fW p w pick).2.2.1:Nat),.i (fW p w pick).2.2.2]/\ ((fW p w pick).2.2.2=0->RS kr en' cnt' p (fW p w pick).1)/\ dU kr kr en cnt en' cnt':=by
 have s2:=h.okr.set;have n2:=h.okr.new;have hr:=h.r;have m2:=h.okr.eqF;have o2:=h.okr.eqF';have h1:=lF hp (s:=0) hF;have hc:=aDm (p:=p) 121 (a:=0) (w:=w) (s:=0);have hR:=bB7 hp hsp h1;have hL:=at_ Tryz.func194
 conv at hL=>rhs;reduce
 refine bD hL rfl rfl ?_
 simp only[go_sem,kK]
 refine WIn.mono (yZ hp hsp hF (h.to (by simp only[s2]) (by(repeat refine upS ?_ (by omega));exact aN _)) 0 (by omega)) ?_
 rintro v e1 c1 ⟨rfl,r1,q1⟩
 obtain⟨p4,o4⟩:=q1.loc (d:=4) (g:=cnt 0 4) (by simp[aC]) h.okr.ne.symm h.okr.ne.symm
 simp only[go_sem]at p4;have u1: ∀t,cnt 0 t<=c1 0 t:=fun t=>bPb (((by(repeat refine upS ?_ (by omega));exact aN _): ∀t,cnt 0 t<=aC cnt 0 4 (cnt 0 4+1) 0 t) t) (q1.up t)
 have k1:dU kr kr en cnt e1 c1:=⟨fun k hk a b=>by rw[q1.old k (hk.up (by(repeat refine upS ?_ (by omega));exact aN _)) a b];simp only[hk.set],u1⟩
 unfold fW
 simp only
 have hq1:bU p w 0=iP p 121 0 w 0:=rfl;rw[<-hq1]at hc;generalize hq:bU p w 0=q at r1 h1 hR hc⊢;obtain⟨x,sn,ok⟩:=q;dsimp only at r1 h1 hR hc⊢;cases ok with
 |false=>
  rw[if_pos rfl];simp only[go_sem,kK,kD,p4,kF];exact⟨rfl,fun h=>h.elim,⟨fun k hk a b=>by rw[hk.set];exact k1.old k hk a b,u1⟩⟩
 |true=>
  rw[if_neg (by decide)]
  have hx120:=xP h1;have hr1:=r1.r;have hc0:true=true->sn<=5000:=fun h=>by have:=hc h;omega
  by_cases hl:dL p x=[]
  ·rw[if_pos hl];have hz:sH 1 (([]:List Int).map (.int .i64))= .cl []:=rfl;rw[hl,hz]at hR;simp only[go_sem,kK,kD,p4,hr1,hR.ret,bB9,bCa,bPe,n2,if_true,kF];exact⟨rfl,fun h=>by simp at h,⟨fun k hk a b=>by rw[hk.set,aK a];exact k1.old k hk a b,u1⟩⟩
  ·rw[if_neg hl];have hne:(dL p x).map (Val.int .i64)≠[]:=by simpa using hl
   rw[pK hne]at hR;have hll:(dL p x).length<=120:=by
    simp only[dL,gD,bOz];exact bPb (List.length_filter_le _ _) (by simpa using hx120)
   have hl0:0<(dL p x).length:=bRv.2 hl;have dl:decide (((dL p x).length:Int)=0)=false:=decide_eq_false (by omega)
   have hpi:=aPw hl pick;have hem:=Int.emod_nonneg pick (show((dL p x).length:Int)≠0 by omega)
   obtain⟨i,hi⟩:=bP2 hem;have hil:i<(dL p x).length:=by rw[hi]at hpi;simpa using hpi
   have ha:=aLa (mF (d:=0) hpi);rw[hi,bPz]at ha⊢;generalize hn:(dL p x).length=n at*;have hz: ¬((n:Int)=0):=by omega
   have e:=Int.tmod_eq_emod (a:=pick) (b:=n);have hget:((dL p x).map (Val.int .i64))[i]?=some (.i ((dL p x).getD i 0)):=by simp[bO2,hn,hil]
   have hc1:(0:Int)<=(i:Int):=by omega
   have hc2:(i:Int)<(n:Int):=by omega
   by_cases hc:0<=pick \/(n:Int)∣pick
   ·have e:pick.tmod n=(i:Int):=by rw[e,if_pos hc,hi];simp
    have di:decide ((i:Int)<0)=false:=decide_eq_false (by omega)
    simp only[go_sem,kK,kD,hr1,hR.ret,bOz,hn,aCy,hz,e,di,hget,hc1,hc2,bPz,bPs,kF]
    refine WIn.mono (aFm hp hsp h1 ha (r1.to (by simp only[r1.okr.set]) (upS (aN c1) (by omega)))) ?_
    rintro v e2 c2 ⟨rfl,r2,q2⟩
    obtain⟨r4,o4'⟩:=q2.loc (d:=4) (g:=cnt 0 4) (by simp only[aC];exact o4.2) h.okr.ne.symm h.okr.ne.symm
    simp only[go_sem,p4]at r4;have hsn:=hc0 rfl;have hw1:IntKind.i64.wrap ((sn:Int)+1)=((sn+1:Nat):Int):=by rw[aW (by omega)];omega
    have hd:=mH hp h1 ha;have hcal:=aGu (p:=p) (by have:=(h1.task ha).1;simp only[inR,bSi]at this;omega) ha
    generalize cJ p x ((dL p x).getD i 0)=d at hd hcal r2⊢;simp only[go_sem,hw1]
    refine WIn.mono (yZ hp hsp hd r2 (sn+1) (by omega)) ?_
    rintro v e3 c3 ⟨rfl,r3,q3⟩
    obtain⟨r4',_⟩:=q3.loc (d:=4) (g:=cnt 0 4) o4'.2 h.okr.ne.symm h.okr.ne.symm;rw[r4]at r4';have u3: ∀t,cnt 0 t<=c3 0 t:=fun t=>bPb (u1 t) (bPb (upS (aN c1) (a:=21) (x:=c1 0 21+1) (by omega) t) (bPb (q2.up t) (q3.up t)))
    have hold: ∀k,Old k cnt->k≠kr->e3 k=en k:=fun k hk hkr=>by
     have hk1:=hk.up u1;rw[q3.old k (hk1.up fun t=>bPb (upS (aN c1) (a:=21) (x:=c1 0 21+1) (by omega) t) (q2.up t)) hkr hkr,q2.old k (hk1.up (upS (aN c1) (by omega))) hkr hkr,hk1.set]
     exact k1.old k hk hkr hkr
    generalize bU p d.w (sn+1)=q at r3⊢;obtain⟨y,s3,ok2⟩:=q;dsimp only at r3⊢;cases ok2 with
    |false=>
     rw[if_pos (.inl rfl)];simp only[go_sem,kK,kD,r4',kF];exact⟨rfl,fun h=>h.elim,⟨fun k hk a b=>by rw[hk.set];exact hold k hk a,u3⟩⟩
    |true=>
     by_cases h5:5000<s3
     ·have d5:decide ((5000:Int)<(s3:Int))=true:=decide_eq_true (by omega)
      rw[if_pos (.inr h5)];simp only[go_sem,kK,kD,r4',d5,if_true,kF];exact⟨rfl,fun h=>h.elim,⟨fun k hk a b=>by rw[hk.set];exact hold k hk a,u3⟩⟩
     ·have d5:decide ((5000:Int)<(s3:Int))=false:=decide_eq_false (by omega)
      rw[if_neg (by rintro(h|h);cases h;exact h5 h)]
      by_cases hw2:d.what=2
      ·have hE:wM d.what d.e= .ifc 244 (.agg []):=by unfold wM;rw[if_pos hw2]
       rw[(hcal.2.2.2 hw2).2]at hE⊢;simp only[go_sem,kK,kD,r4',d5,hE,aBf.ret,if_true,kF];exact⟨rfl,fun _=>⟨r3.okr,by rw[s2];exact r3.r⟩,⟨fun k hk a b=>by rw[hk.set];exact hold k hk a,u3⟩⟩
      ·by_cases hw0:d.what=0
       ·have hE:wM d.what d.e= .ifc 255 (.agg []):=by unfold wM;rw[if_neg hw2,if_pos hw0]
        rw[(hcal.1 hw0).1]at hE⊢;simp only[go_sem,kK,kD,r4',d5,hE,aBe.ret,if_true,kF];exact⟨rfl,fun _=>⟨r3.okr,by rw[s2];exact r3.r⟩,⟨fun k hk a b=>by rw[hk.set];exact hold k hk a,u3⟩⟩
       ·have hE:wM d.what d.e= .ifc 247 (.agg [.i d.e.task,.i d.e.act,.i d.e.n,.i d.e.v.kind,.i d.e.v.n]):=by unfold wM;rw[if_neg hw2,if_neg hw0]
        simp only[go_sem,kK,kD,r4',d5,hE,(aCx _).ret,if_true,kF];exact⟨rfl,fun _=>⟨r3.okr,by rw[s2];exact r3.r⟩,⟨fun k hk a b=>by rw[hk.set];exact hold k hk a,u3⟩⟩
   ·rw[if_neg hc,hi]at e;have di:decide (pick.tmod n<0)=true:=decide_eq_true (by rw[e];simp only[Int.natAbs_natCast];omega)
    have hw:IntKind.i64.wrap (pick.tmod n+n)=(i:Int):=by rw[e];simp only[Int.natAbs_natCast];rw[aW (by omega)];omega
    simp only[go_sem,kK,kD,hr1,hR.ret,bOz,hn,aCy,hz,di,hw,hget,hc1,hc2,bPz,bPs,kF]
    refine WIn.mono (aFm hp hsp h1 ha (r1.to (by simp only[r1.okr.set]) (upS (aN c1) (by omega)))) ?_
    rintro v e2 c2 ⟨rfl,r2,q2⟩
    obtain⟨r4,o4'⟩:=q2.loc (d:=4) (g:=cnt 0 4) (by simp only[aC];exact o4.2) h.okr.ne.symm h.okr.ne.symm
    simp only[go_sem,p4]at r4;have hsn:=hc0 rfl;have hw1:IntKind.i64.wrap ((sn:Int)+1)=((sn+1:Nat):Int):=by rw[aW (by omega)];omega
    have hd:=mH hp h1 ha;have hcal:=aGu (p:=p) (by have:=(h1.task ha).1;simp only[inR,bSi]at this;omega) ha
    generalize cJ p x ((dL p x).getD i 0)=d at hd hcal r2⊢;simp only[go_sem,hw1]
    refine WIn.mono (yZ hp hsp hd r2 (sn+1) (by omega)) ?_
    rintro v e3 c3 ⟨rfl,r3,q3⟩
    obtain⟨r4',_⟩:=q3.loc (d:=4) (g:=cnt 0 4) o4'.2 h.okr.ne.symm h.okr.ne.symm;rw[r4]at r4';have u3: ∀t,cnt 0 t<=c3 0 t:=fun t=>bPb (u1 t) (bPb (upS (aN c1) (a:=21) (x:=c1 0 21+1) (by omega) t) (bPb (q2.up t) (q3.up t)))
    have hold: ∀k,Old k cnt->k≠kr->e3 k=en k:=fun k hk hkr=>by
     have hk1:=hk.up u1;rw[q3.old k (hk1.up fun t=>bPb (upS (aN c1) (a:=21) (x:=c1 0 21+1) (by omega) t) (q2.up t)) hkr hkr,q2.old k (hk1.up (upS (aN c1) (by omega))) hkr hkr,hk1.set]
     exact k1.old k hk hkr hkr
    generalize bU p d.w (sn+1)=q at r3⊢;obtain⟨y,s3,ok2⟩:=q;dsimp only at r3⊢;cases ok2 with
    |false=>
     rw[if_pos (.inl rfl)];simp only[go_sem,kK,kD,r4',kF];exact⟨rfl,fun h=>h.elim,⟨fun k hk a b=>by rw[hk.set];exact hold k hk a,u3⟩⟩
    |true=>
     by_cases h5:5000<s3
     ·have d5:decide ((5000:Int)<(s3:Int))=true:=decide_eq_true (by omega)
      rw[if_pos (.inr h5)];simp only[go_sem,kK,kD,r4',d5,if_true,kF];exact⟨rfl,fun h=>h.elim,⟨fun k hk a b=>by rw[hk.set];exact hold k hk a,u3⟩⟩
     ·have d5:decide ((5000:Int)<(s3:Int))=false:=decide_eq_false (by omega)
      rw[if_neg (by rintro(h|h);cases h;exact h5 h)]
      by_cases hw2:d.what=2
      ·have hE:wM d.what d.e= .ifc 244 (.agg []):=by unfold wM;rw[if_pos hw2]
       rw[(hcal.2.2.2 hw2).2]at hE⊢;simp only[go_sem,kK,kD,r4',d5,hE,aBf.ret,if_true,kF];exact⟨rfl,fun _=>⟨r3.okr,by rw[s2];exact r3.r⟩,⟨fun k hk a b=>by rw[hk.set];exact hold k hk a,u3⟩⟩
      ·by_cases hw0:d.what=0
       ·have hE:wM d.what d.e= .ifc 255 (.agg []):=by unfold wM;rw[if_neg hw2,if_pos hw0]
        rw[(hcal.1 hw0).1]at hE⊢;simp only[go_sem,kK,kD,r4',d5,hE,aBe.ret,if_true,kF];exact⟨rfl,fun _=>⟨r3.okr,by rw[s2];exact r3.r⟩,⟨fun k hk a b=>by rw[hk.set];exact hold k hk a,u3⟩⟩
       ·have hE:wM d.what d.e= .ifc 247 (.agg [.i d.e.task,.i d.e.act,.i d.e.n,.i d.e.v.kind,.i d.e.v.n]):=by unfold wM;rw[if_neg hw2,if_neg hw0]
        simp only[go_sem,kK,kD,r4',d5,hE,(aCx _).ret,if_true,kF];exact⟨rfl,fun _=>⟨r3.okr,by rw[s2];exact r3.r⟩,⟨fun k hk a b=>by rw[hk.set];exact hold k hk a,u3⟩⟩
theorem xR (p:aF)(w:aA)(hw:w.few)(hs:dB w=true):PC L 123 [.fp [.fz (p.nodes.map aJ.enc),.fz (p.funs.map (.int .i64)),.i p.main,.fz (p.cons.map cO.enc),.fz (w.objs.map aR.enc),.fz (w.tasks.map (.int .i64)),.fz (w.outs.map bR.enc),.fz (w.ins.map (.int .i64)),.i w.used] 0] (.agg w.cs):=by
 obtain⟨b1,b2,b3,b4⟩:=aU5 hs;have c1:=aE0 (w.tasks.map (.int .i64)) (aHn _) (by simp;omega)
 have c2:=aPi (w.outs.map bR.enc) (aSl _) (by simp;omega)
 have c3:=aE0 (w.ins.map (.int .i64)) (aHn _) (by simp;omega)
 have hL:=at_ Tryz.func123
 conv at hL=>rhs;reduce
 refine aG hL rfl rfl ?_
 simp only[go_sem,kK]
 refine bDj (fun st=>st.fr 2= .ptr ⟨0,2,0⟩ 0/\ st.en ⟨0,2,0⟩=some (.box [.cl [],.cl [],.cl [],.cl [],.i 0] false)/\ st.fr 0= .fp [.fz (p.nodes.map aJ.enc),.fz (p.funs.map (.int .i64)),.i p.main,.fz (p.cons.map cO.enc),.fz (w.objs.map aR.enc),.fz (w.tasks.map (.int .i64)),.fz (w.outs.map bR.enc),.fz (w.ins.map (.int .i64)),.i w.used] 0/\ st.fr 3= .ptr ⟨0,3,0⟩ 0/\
  ∃vT vO vI,st.en ⟨0,3,0⟩=some (.box [.cl [],vT,vO,vI,.i w.used] false)/\ jK st.en vT 1 (w.tasks.map (.int .i64)) [11]/\ jK st.en vO 2 (w.outs.map bR.enc) [17]/\ jK st.en vI 1 (w.ins.map (.int .i64)) [23]) ?_ ?_
 ·refine aI ?_
  rcases aA3 1 (w.tasks.map (Val.int .i64))with⟨t1,t2⟩|⟨t1,t2⟩<;>rw[t2]at c1<;>
  rcases aA3 2 (w.outs.map bR.enc)with⟨o1,o2⟩|⟨o1,o2⟩<;>rw[o2]at c2<;>
  rcases aA3 1 (w.ins.map (Val.int .i64))with⟨i1,i2⟩|⟨i1,i2⟩<;>rw[i2]at c3
  all_goals simp only[go_sem,kA,kF,c1.ret,c2.ret,c3.ret,bOz,bOy,if_true,kB]
  all_goals refine⟨_,_,_,rfl,?_,?_,?_⟩
  all_goals first
   |exact .inl ⟨rfl,by assumption⟩
   |exact bDo (by simp only[go_sem];try rfl) (by simp only[bOz])
 ·rintro fr en cnt ⟨h2,e2,h1,h3,vT,vO,vI,e3,mT,mO,mI⟩
  dsimp only at h2 e2 h1 h3 e3 mT mO mI;simp only[go_sem,h1]
  refine bQ w.objs.length (fun k st=> ∃fr en cnt v,st=⟨fr,en,cnt⟩/\ fr 2= .ptr ⟨0,2,0⟩ 0/\ en ⟨0,2,0⟩=some (.box [.cl [],.cl [],.cl [],.cl [],.i 0] false)/\ fr 3= .ptr ⟨0,3,0⟩ 0/\ en ⟨0,3,0⟩=some (.box [v,vT,vO,vI,.i w.used] false)/\ fr 34= .fz (w.objs.map aR.enc)/\ fr 35= .i w.objs.length/\ fr 36= .i k/\
   jK en vT 1 (w.tasks.map (.int .i64)) [11]/\ jK en vO 2 (w.outs.map bR.enc) [17]/\ jK en vI 1 (w.ins.map (.int .i64)) [23]/\ jK en v 4 ((w.objs.take k).map aR.enc) [45]) 0 (bO8 _) ⟨_,_,_,.cl [],rfl,by simp only[go_sem,h2],by simp only[go_sem,e2],by simp only[go_sem,h3],by simp only[go_sem,e3],by simp only[go_sem],by simp only[go_sem],by simp only[go_sem],mT,mO,mI,jK.nil _ _⟩ ?_
  rintro k st hk ⟨fr,en,cnt,v,rfl,h2,e2,h3,e3,h19,h20,h21,mT,mO,mI,hv⟩
  simp only[go_sem,kK,h20,h21]
  refine aH (fun hq=>?_) (fun hq=>?_)
  ·have h':k<w.objs.length:=of_decide_eq_true hq;have hso:=aDf hs _ (bO6 h');simp only[go_sem,h',h19,h21]
   refine aI ?_
   simp only[go_sem,h3,e3,kA,kF,bDn,(aYw _ hso).ret]
   refine aXo (D:=[45]) (xs:=(w.objs.take k).map aR.enc) (ys:=[aR.enc w.objs[k]]) (rs:=[]) ?_ ?_ ?_ rfl ?_ ?_
   ·simp only[go_sem];exact hv.keep fun t g ht=>by simp at ht;subst ht;simp only[go_sem]
   ·simp only[go_sem]
   ·rfl
   ·simp;omega
   ·intro v' en' cnt' r hown hen hcnt _ _ _;have k2:en' ⟨0,2,0⟩=some (.box [.cl [],.cl [],.cl [],.cl [],.i 0] false):=by rw[hen 0 2 0 (.inr ⟨by decide,by simp⟩)];simp only[go_sem,e2]
    have k3:en' ⟨0,3,0⟩=some (.box [v,vT,vO,vI,.i w.used] false):=by rw[hen 0 3 0 (.inr ⟨by decide,by simp⟩)];simp only[go_sem,e3]
    obtain⟨s1,s2⟩:=hown.shape;simp only[go_sem,h3,k3,h21,s1,s2]
    refine⟨_,_,_,v',rfl,?_⟩
    simp only[go_sem,h2,k2,h3,h19,h20,aT h' hw.objs]
    refine⟨mT.keep ?_,mO.keep ?_,mI.keep ?_,?_⟩
    ·intro t g ht;simp at ht;subst ht;rw[pZ (by simp),hen 0 11 g (.inr ⟨by decide,by simp⟩)];simp only[go_sem]
    ·intro t g ht;simp at ht;subst ht;rw[pZ (by simp),hen 0 17 g (.inr ⟨by decide,by simp⟩)];simp only[go_sem]
    ·intro t g ht;simp at ht;subst ht;rw[pZ (by simp),hen 0 23 g (.inr ⟨by decide,by simp⟩)];simp only[go_sem]
    ·rw[kW h',bQg]
     refine jK.sub (D:=[45,45]) (jK.keep (en:=en') hown ?_) (by simp)
     intro t g ht;simp at ht;subst ht;simp only[go_sem]
  ·have:k=w.objs.length:=by simp at hq;omega
   subst this;rw[bQp]at hv;simp only[go_sem,h2,e2,h3,e3];obtain⟨r1,ks1,s1,s1',_⟩:=(hv.keep (en':=en.set ⟨0,2,0⟩ (some (.box [v,vT,vO,vI,.i w.used] false))) fun t g ht=>by simp at ht;subst ht;simp only[go_sem]).snap 6
   obtain⟨r2,ks2,s2,s2',_⟩:=(mT.keep (en':=en.set ⟨0,2,0⟩ (some (.box [v,vT,vO,vI,.i w.used] false))) fun t g ht=>by simp at ht;subst ht;simp only[go_sem]).snap 6
   obtain⟨r3,ks3,s3,s3',_⟩:=(mO.keep (en':=en.set ⟨0,2,0⟩ (some (.box [v,vT,vO,vI,.i w.used] false))) fun t g ht=>by simp at ht;subst ht;simp only[go_sem]).snap 6
   obtain⟨r4,ks4,s4,s4',_⟩:=(mI.keep (en':=en.set ⟨0,2,0⟩ (some (.box [v,vT,vO,vI,.i w.used] false))) fun t g ht=>by simp at ht;subst ht;simp only[go_sem]).snap 6
   simp only[go_sem,s1,s2,s3,s4,s1',s2',s3',s4']
structure bNg (en:En) (cnt:Nat->Nat->Nat) (en':En) (cnt':Nat->Nat->Nat):Prop where
 old: ∀k,Old k cnt->en' k=en k
 up: ∀t,cnt 0 t<=cnt' 0 t
theorem aHx (p:aF)(w:aA)(hp:p.few)(hw:w.few)(hs:aS p=true):WIn L (.fn 119 [] []) [.agg p.cs,.agg w.cs] en cnt fun v en' cnt'=>
  (gG p w=true->v= .tup [.ptr ⟨0,13,cnt 0 13⟩ 0,.bool true]/\ RS ⟨0,13,cnt 0 13⟩ en' cnt' p w)/\ (gG p w=false-> ∃x,v= .tup [x,.bool false])/\ bNg en cnt en' cnt':=by
 have hb:=wJ p hp hs;have hL:=at_ Tryz.func119
 conv at hL=>rhs;reduce
 refine bD hL rfl rfl ?_
 cases hf:fG p with
 |false=>
  rw[hf]at hb;simp only[go_sem,kK,hb.ret]
  refine⟨fun h=>by simp[gG,hf]at h,fun _=>⟨_,rfl⟩,fun k hk=>by simp only[hk.set],(by(repeat refine upS ?_ (by omega));exact aN _)⟩
 |true=>
  rw[hf]at hb;simp only[go_sem,kK,hb.ret,(rQ p w hp hw).ret];rw[aKp p w hf]
  refine⟨fun h=>?_,fun h=>?_,fun k hk=>by simp only[hk.set],(by(repeat refine upS ?_ (by omega));exact aN _)⟩
  ·have:cX p w=true:=by simpa[gG,hf]using h
   rw[this];exact⟨rfl,⟨rfl,by simp[aC]⟩,cH⟩
  ·have:cX p w=false:=by simpa[gG,hf]using h
   rw[this];exact⟨_,rfl⟩
end
structure cC where
 every:Int
 picks:List Int
 marks:List aA
def aA.enc (w:aA):Val:= .agg w.cs
abbrev cC.cs (l:cC):List Val:=[.i l.every,.is l.picks,.fz (l.marks.map aA.enc)]
abbrev ply (p:aF)(l:cC):Val:= .fp [.i l.every,.is l.picks,.fz (l.marks.map aA.enc),.fz (p.nodes.map aJ.enc),.fz (p.funs.map (.int .i64)),.i p.main,.fz (p.cons.map cO.enc)] 0
def cC.enc (l:cC):Val:= .agg [.i l.every,.is l.picks,.fz (l.marks.map aA.enc)]
def aCz :aA:=⟨[],[],[],[],0⟩
def iL (l:cC)(t:Nat):Int:=l.picks.getD t 0
def zA (l:cC)(i:Nat):aA:=l.marks.getD i aCz
def aP (l:cC):Nat:=l.every.toNat
def fY (p:aF)(l:cC):Bool:=
 fG p&&inR l.every 1 20&&decide (l.picks.length<=200)&&decide (l.marks.length=l.picks.length/aP l+1)&&l.marks.all (cX p)
def dR (p:aF)(w:aA)(pick:Int):aA×lV×Int:=
 let r:=fW p w pick
 if r.2.2.2=5 then(w,iE,6)else if r.2.2.2=0 then(r.1,r.2.1,0)else(w,iE,r.2.2.2)
def zB (p:aF)(l:cC):Nat->Nat->aA->aA×Int
 |_,0,w=>(w,0)
 |i,k+1,w=>if(dR p w (iL l i)).2.2=0 then zB p l (i+1) k (dR p w (iL l i)).1 else(aCz,(dR p w (iL l i)).2.2)
def atX (p:aF)(l:cC)(n:Nat):aA×Int:=zB p l (n/aP l*aP l) (n-n/aP l*aP l) (zA l (n/aP l))
def aZ (p:aF)(l:cC)(t:Nat):aA×lV×Int:=
 if(atX p l t).2=0 then(if(dR p (atX p l t).1 (iL l t)).2.2=0 then dR p (atX p l t).1 (iL l t)else(aCz,(dR p (atX p l t).1 (iL l t)).2.1,(dR p (atX p l t).1 (iL l t)).2.2))else((atX p l t).1,iE,(atX p l t).2)
theorem aTd {p:aF}{l:cC}: ∀(a b i:Nat) (w:aA),zB p l i (a+b) w=if(zB p l i a w).2=0 then zB p l (i+a) b (zB p l i a w).1 else(aCz,(zB p l i a w).2)
 |0,b,i,w=>by simp[zB]
 |a+1,b,i,w=>by
  rw[show a+1+b=(a+b)+1 by omega,zB,zB]
  split
  ·rw[aTd a b (i+1),show i+1+a=i+(a+1)by omega]
  ·rfl
variable {l:cC}{n:Nat}
theorem aFq {n:Nat}(he:0<aP l)(hm: ¬(n+1)%aP l=0):atX p l (n+1)=if(atX p l n).2=0 then(if(dR p (atX p l n).1 (iL l n)).2.2=0 then((dR p (atX p l n).1 (iL l n)).1,0)else(aCz,(dR p (atX p l n).1 (iL l n)).2.2))else(aCz,(atX p l n).2):=by
 have hd:(n+1)/aP l=n/aP l:=by
  rw[Nat.succ_div];rw[if_neg (fun h=>hm (Nat.mod_eq_zero_of_dvd h)),bQh]
 have hle:n/aP l*aP l<=n:=bSd ..;unfold atX;rw[hd,show n+1-n/aP l*aP l=(n-n/aP l*aP l)+1 by omega,aTd,show n/aP l*aP l+(n-n/aP l*aP l)=n by omega]
 split
 ·simp only[zB]
 ·rfl
theorem oL {n:Nat}(he:0<aP l)(hm:n%aP l=0):atX p l n=(zA l (n/aP l),0):=by
 have:n/aP l*aP l=n:=Nat.div_mul_cancel (Nat.dvd_of_mod_eq_zero hm);unfold atX;rw[this,Nat.sub_self];rfl
theorem bCc (hp:eH p)(h:cX p w=true)(pick:Int):cX p (dR p w pick).1=true:=by
 have hF:cP p w (fun _=>True) w:=⟨h,bOy _,fun _ _=>rfl,bR0 _,fun _ _ _ _ _ _=>trivial,fun _ _=>trivial,fun _ _=>trivial⟩
 have:=(aNq hp hF pick).ok;unfold dR
 simp only
 split
 ·exact h
 split
 ·exact this
 ·exact h
theorem zC (h:cX p w=true):cP p w (fun _=>True) w:=⟨h,bOy _,fun _ _=>rfl,bR0 _,fun _ _ _ _ _ _=>trivial,fun _ _=>trivial,fun _ _=>trivial⟩
theorem aWp {p:aF}(hp:eH p){l:cC}: ∀(k i:Nat) {w:aA},cX p w=true->(zB p l i k w).2=0->cX p (zB p l i k w).1=true
 |0,_,_,h,_=>h
 |k+1,i,w,h,he=>by
  rw[zB]at he⊢;split
  ·rename_i ht;rw[if_pos ht]at he;exact aWp hp k (i+1) (bCc hp h _) he
  ·rename_i ht;rw[if_neg ht]at he;exact absurd he ht
theorem pN (h:fY p l=true):fG p=true/\ (1<=aP l/\ aP l<=20/\ l.every=(aP l:Int))/\ l.picks.length<=200/\ l.marks.length=l.picks.length/aP l+1/\ ∀w∈l.marks,cX p w=true:=by
 simp only[fY,bOx,bSi,bO4,inR]at h;obtain⟨⟨⟨⟨h1,h2⟩,h3⟩,h4⟩,h5⟩:=h
 refine⟨h1,⟨?_,?_,?_⟩,h3,h4,h5⟩<;>unfold aP<;>omega
theorem bEn (h:fY p l=true){n:Nat}(hn:n<=l.picks.length):cX p (zA l (n/aP l))=true:=by
 obtain⟨_,⟨h1,_⟩,_,h4,h5⟩:=pN h;have:n/aP l<l.marks.length:=by
  rw[h4];have:=Nat.div_le_div_right (c:=aP l) hn;omega
 refine h5 _ ?_
 unfold zA;rw[bO2,bP7 this];exact bO6 _
theorem aVk (hp:eH p)(h:fY p l=true){n:Nat}(hn:n<=l.picks.length)(he:(atX p l n).2=0):cX p (atX p l n).1=true:=
 aWp hp _ _ (bEn h hn) he
section
variable {n:aJ}
def aBg :aA:=⟨[],[],[],[],0⟩
def zO (p:aF)(w:aA)(pick:Int):aA×lV×Nat×Int:=
 if gG p w=true then(if(fW p w pick).2.2.2=0 then fW p w pick else(aBg,iE,0,(fW p w pick).2.2.2))else(aBg,iE,0,2)
theorem aYz (p:aF)(w:aA)(pick:Int):(fW p w pick).2.2.2=0 \/(fW p w pick).2.2.2=5 \/(fW p w pick).2.2.2=8:=by
 unfold fW;simp only;split
 ·exact .inr (.inr rfl)
 split
 ·exact .inr (.inl rfl)
 split
 ·exact .inr (.inr rfl)
 ·exact .inl rfl
theorem aWq {cs:List Val}:(Val.agg (.fz xs::cs)).flat=false:=(rfl)
theorem aFr (p:aF)(w:aA)(pick:Int)(hp:p.few)(hw:w.few)(hsp:aS p=true):
  PC L 145 [.agg p.cs,.agg w.cs,.i pick] (.tup [.agg (zO p w pick).1.cs,evV (zO p w pick).2.1,.i ((zO p w pick).2.2.1:Nat),.i (zO p w pick).2.2.2]):=by
 have hL:=at_ Tryz.func145
 conv at hL=>rhs;reduce
 refine aG hL rfl rfl ?_
 simp only[go_sem,kK]
 refine WIn.mono (aHx p w hp hw hsp) ?_
 rintro v e1 c1 ⟨h1,h2,h3⟩
 have p6:=h3.old ⟨0,6,0⟩ ⟨rfl,by simp[aC]⟩
 have p7:=h3.old ⟨0,7,0⟩ ⟨rfl,by simp[aC]⟩
 have c6:=h3.up 6;have c7:=h3.up 7;simp only[go_sem]at p6 p7;unfold zO;cases hg:gG p w with
 |false=>
  obtain⟨x,rfl⟩:=h2 hg;rw[if_neg (by decide)]
  simp only[go_sem,kK,p6,p7,aBg,aA.cs,Val.is,iE,jL,evV,bPf]
 |true=>
  obtain⟨rfl,r1⟩:=h1 hg;rw[if_pos rfl];have hF:cP p w (fun _=>True) w:=by
   simp only[gG,bOx]at hg;exact zC hg.2
  have hpf:eH p:=by
   simp only[gG,bOx]at hg;exact pL hg.1
  simp only[go_sem,kK]
  refine WIn.mono (bCb hpf hsp hF r1 pick) ?_
  rintro v e2 c2 ⟨rfl,r2,q2⟩
  have k13: ∀d g,¬d=13->(⟨0,d,g⟩:Key)≠⟨0,13,0⟩:=fun d g h he=>h (by injection he)
  obtain⟨p6',o6⟩:=q2.loc (d:=6) (g:=0) c6 (k13 _ _ (by decide)) (k13 _ _ (by decide))
  obtain⟨p7',o7⟩:=q2.loc (d:=7) (g:=0) c7 (k13 _ _ (by decide)) (k13 _ _ (by decide))
  rw[p6]at p6';rw[p7]at p7';have o6':=o6.eqF';have o7':=o7.eqF';have o6n:=o6.set;have o7n:=o7.set
  by_cases h0:(fW p w pick).2.2.2=0
  ·have d0:decide ((fW p w pick).2.2.2=0)=true:=decide_eq_true h0;have r2':RS ⟨0,13,0⟩ e2 c2 p (fW p w pick).1:=r2 h0;have hkr:=r2'.r;have s2:=r2'.okr.set;have hFt:=aNq hpf hF pick;have hcp:=xR p (fW p w pick).1 (aB7 (rV hsp hFt.ok)) (rV hsp hFt.ok);rw[if_pos h0];simp only[go_sem,kK,evV,d0]
   refine aI ?_
   simp only[go_sem,p6',p7',o6n,o7n,s2,hkr,hcp.ret,aWq,kA,kF];rw[h0]
  ·have d0:decide ((fW p w pick).2.2.2=0)=false:=decide_eq_false h0;rw[if_neg h0];simp only[go_sem,kK,evV,d0,p6',p7',o6n,o7n,aBg,aA.cs,Val.is,iE,jL,bPf]
def aCb (p:aF)(w:aA):aA×Nat×Int:=
 if gG p w=true then(if(bU p w 0).2.2=true then((bU p w 0).1,(bU p w 0).2.1,0)else(aBg,0,8))else(aBg,0,2)
theorem aLn (p:aF)(w:aA)(hp:p.few)(hw:w.few)(hsp:aS p=true):
  PC L 96 [.agg p.cs,.agg w.cs] (.tup [.agg (aCb p w).1.cs,.i ((aCb p w).2.1:Nat),.i (aCb p w).2.2]):=by
 have hL:=at_ Tryz.func96
 conv at hL=>rhs;reduce
 refine aG hL rfl rfl ?_
 simp only[go_sem,kK]
 refine WIn.mono (aHx p w hp hw hsp) ?_
 rintro v e1 c1 ⟨h1,h2,h3⟩
 have p4:=h3.old ⟨0,4,0⟩ ⟨rfl,by simp[aC]⟩
 have c4:=h3.up 4;simp only[go_sem]at p4;unfold aCb;cases hg:gG p w with
 |false=>
  obtain⟨x,rfl⟩:=h2 hg;rw[if_neg (by decide)]
  simp only[go_sem,kK,p4,aBg,aA.cs,Val.is,bPf]
 |true=>
  obtain⟨rfl,r1⟩:=h1 hg;rw[if_pos rfl];have hF:cP p w (fun _=>True) w:=by
   simp only[gG,bOx]at hg;exact zC hg.2
  have hpf:eH p:=by
   simp only[gG,bOx]at hg;exact pL hg.1
  simp only[go_sem,kK]
  refine WIn.mono (yZ hpf hsp hF r1 0 (by omega)) ?_
  rintro v e2 c2 ⟨rfl,r2,q2⟩
  have k13: ∀d g,¬d=13->(⟨0,d,g⟩:Key)≠⟨0,13,0⟩:=fun d g h he=>h (by injection he)
  obtain⟨p4',o4⟩:=q2.loc (d:=4) (g:=0) c4 (k13 _ _ (by decide)) (k13 _ _ (by decide))
  rw[p4]at p4';have hFt:=lF hpf (s:=0) hF;have r2':RS ⟨0,13,0⟩ e2 c2 p (bU p w 0).1:=r2;have hcp:=xR p (bU p w 0).1 (aB7 (rV hsp hFt.ok)) (rV hsp hFt.ok);generalize bU p w 0=q at r2' hcp⊢;obtain⟨x,sn,ok⟩:=q;dsimp only at r2' hcp⊢;have hkr:=r2'.r;cases ok with
  |true=>
   rw[if_pos rfl];simp only[go_sem,kK,kD,p4',hkr,hcp.ret,aWq,if_true,kF]
  |false=>
   rw[if_neg (by decide)]
   simp only[go_sem,kK,kD,p4',aBg,aA.cs,Val.is,bPf,kF]
end
def aBh (p:aF)(w:aA)(pick:Int):Int:=(dL p w).getD (pick%(dL p w).length).toNat 0
def aGv (w:aA)(a:Int):Int:=(aE ((w.obj (bA w a)).frames.getD ((w.obj (bA w a)).frames.length-1) dQ).vals 0).n
def cQ (p:aF)(l:cC)(t:Nat):Int×lV×Int:=
 if(aZ p l t).2.2=0 then
  (let w:=(bU p (atX p l t).1 0).1
  let e:=(aZ p l t).2.1
  if e.act=17 \/e.act=18 \/e.act=22 \/e.act=23 \/e.act=20 then(aGv w e.task,e,0)
  else if e.act=16 \/e.act=21 \/e.act=19 then((w.objs.length:Int),e,0)
  else(0,e,5))
 else(0,(aZ p l t).2.1,(aZ p l t).2.2)
def dW (p:aF)(l:cC)(object:Int):Nat->Int×Int
 |0=>(0,5)
 |t+1=>
  if¬(cQ p l t).2.2=0/\ ¬(cQ p l t).2.2=5 then(0,(cQ p l t).2.2)
  else if(cQ p l t).2.2=0/\ (cQ p l t).1=object/\ ((cQ p l t).2.1.act=16 \/(cQ p l t).2.1.act=18)then((t:Int),0)
  else dW p l object t
def aCc (p:aF)(l:cC)(n:Nat)(object:Int):Int×Int:=
 if(atX p l n).2=0 then
  (if((atX p l n).1.objs.length:Int)<=object \/ ¬((atX p l n).1.obj object).form=3 then(0,7)else dW p l object n)
 else(0,(atX p l n).2)
def lB (p:aF)(l:cC)(count:aA->Int)(n:Int):Nat->Nat->Int×Int
 |_,0=>(0,5)
 |t,k+1=>if(atX p l (t+1)).2=0 then(if n<count (atX p l (t+1)).1 then((t:Int),0)else lB p l count n (t+1) k)else(0,(atX p l (t+1)).2)
def rY (p:aF)(l:cC)(count:aA->Int)(n:Int):Int×Int:=
 if n<count (zA l 0)then(0,5)else lB p l count n 0 l.picks.length
structure fO where
 kind:Int
 n:Int
 v:aD
def fO.enc (c:fO):Val:= .agg [.i c.kind,.i c.n,.i c.v.kind,.i c.v.n]
def rE (c:fO):Bool:=decide (1<=c.kind)&&decide (c.kind<=4)&&(decide (c.kind=1)||decide (c.v=jL))
def oD (w:aA)(c:fO):Bool:=
 if c.kind=1 then inR c.n 0 ((w.objs.length:Int)-1)&&decide ((w.obj c.n).form=3)&&decide (aE (w.obj c.n).vals 0=c.v)
 else if c.kind=2 then decide (c.n<=(w.outs.length:Int))
 else if c.kind=3 then inR c.n 0 ((w.tasks.length:Int)-1)&&!decide ((w.obj (bA w c.n)).n=0)
 else decide (c.n<=(w.objs.length:Int))
def uX (p:aF)(l:cC)(c:fO):Nat->Nat->Int×Int
 |_,0=>(0,5)
 |n,k+1=>if(atX p l n).2=0 then(if oD (atX p l n).1 c=true then((n:Int),0)else uX p l c (n+1) k)else(0,(atX p l n).2)
def aHy (p:aF)(l:cC)(from':Nat)(c:fO):Int×Int:=uX p l c from' (l.picks.length+1-from')
def rF (e:Int):Val:= .ifc 167 (.agg [.i e])
theorem bW (e:Int):PC L 61 [.bool true,.i e] (.tup []):=by
 have hL:=at_ Tryz.func61
 conv at hL=>rhs;reduce
 refine aG hL rfl rfl ?_
 simp only[go_sem,kK]
theorem cT (e:Int):PX L 61 [.bool false,.i e] (rF e):=by
 have hL:=at_ Tryz.func61
 conv at hL=>rhs;reduce
 refine aAi hL rfl rfl ?_
 simp only[go_sem,kK]
 refine cK 3 rfl ?_
 simp only[go_sem,bO5,bO3];exact⟨rfl,rfl⟩
def cC.few (l:cC):Prop:=Few l.picks.length/\ Few l.marks.length/\ ∀w∈l.marks,w.few
theorem sV {k:Nat}(h:k<l.marks.length):nO 5 en (.fz (l.marks.map aA.enc)) (.i (k:Int))=some {v:= .fp [.fz (l.marks[k].objs.map aR.enc),.is l.marks[k].tasks,.fz (l.marks[k].outs.map bR.enc),.is l.marks[k].ins,.i l.marks[k].used] 0}:=by
 simp[nO,h,aA.enc];exact⟨rfl,rfl⟩
def aGw (p:aF)(l:cC):Bool:=!(decide (l.every<1)||decide ((20:Int)<l.every)||decide ((200:Int)<l.picks.length)||!decide ((l.marks.length:Int)=(l.picks.length:Int).tdiv l.every+1))&&l.marks.all (gG p)
theorem aC0 (p:aF)(l:cC)(hp:p.few)(hl:l.few)(hsp:aS p=true):PC L 42 [.agg p.cs,.agg l.cs] (.i (if aGw p l=true then 0 else 2)):=by
 have hnb: ∀{b:Bool},aGw p l=b->(if aGw p l=true then(0:Int)else 2)=if b=true then 0 else 2:=fun h=>by rw[h]
 have hL:=at_ Tryz.func42
 conv at hL=>rhs;reduce
 refine aG hL rfl rfl ?_
 by_cases h1:l.every<1
 ·have d1:decide (l.every<1)=true:=decide_eq_true h1;rw[hnb (b:=false) (by simp[aGw,h1])]
  simp only[go_sem,kK,d1,kF]
 have d1:decide (l.every<1)=false:=decide_eq_false h1
 by_cases h2:20<l.every
 ·have d2:decide ((20:Int)<l.every)=true:=decide_eq_true h2;rw[hnb (b:=false) (by simp[aGw,h2])]
  simp only[go_sem,kK,d1,d2,kF]
 have d2:decide ((20:Int)<l.every)=false:=decide_eq_false h2
 by_cases h3:(200:Int)<l.picks.length
 ·have d3:decide ((200:Int)<(l.picks.length:Int))=true:=decide_eq_true h3;rw[hnb (b:=false) (by simp only[aGw,d3,bQv,Bool.true_or,bPd,bPm])]
  simp only[go_sem,kK,bOz,d1,d2,d3,kF]
 have d3:decide ((200:Int)<(l.picks.length:Int))=false:=decide_eq_false h3;have hz: ¬(l.every=0):=by omega
 have hdv:=Int.tdiv_nonneg (show(0:Int)<=(l.picks.length:Int)by omega) (show 0<=l.every by omega)
 have hdl:((l.picks.length:Int)).tdiv l.every<=200:=by
  have:=Int.tdiv_le_self (a:=(l.picks.length:Int)) l.every (by omega)
  omega
 have hw1:IntKind.i64.wrap (((l.picks.length:Int)).tdiv l.every)=((l.picks.length:Int)).tdiv l.every:=aW (by omega)
 have hw2:IntKind.i64.wrap (((l.picks.length:Int)).tdiv l.every+1)=((l.picks.length:Int)).tdiv l.every+1:=aW (by omega)
 by_cases h4:(l.marks.length:Int)=((l.picks.length:Int)).tdiv l.every+1
 case neg=>
  have d4:decide ((l.marks.length:Int)=((l.picks.length:Int)).tdiv l.every+1)=false:=decide_eq_false h4;rw[hnb (b:=false) (by simp only[aGw,d4,bPh,bQv,bPd,bPm])]
  simp only[go_sem,kK,bOz,d1,d2,d3,hz,hw1,hw2,d4,kF]
 have d4:decide ((l.marks.length:Int)=((l.picks.length:Int)).tdiv l.every+1)=true:=decide_eq_true h4;have hm:Few l.marks.length:=hl.2.1;have hall:aGw p l=l.marks.all (gG p):=by simp only[aGw,d1,d2,d3,d4,bPd,Bool.or_self,bPh,bPr]
 rw[hall];simp only[go_sem,kK,bOz,d1,d2,d3,hz,hw1,hw2,d4,kF]
 refine bQ (l.marks.length) (fun k st=> ∃fr en cnt,st=⟨fr,en,cnt⟩/\ (fr 2= .ptr ⟨0,2,0⟩ 0)/\ (en ⟨0,2,0⟩=some (.box p.cs false))/\ (fr 3= .ptr ⟨0,3,0⟩ 0)/\ (en ⟨0,3,0⟩=some (.box l.cs false))/\ (fr 35= .fz (l.marks.map aA.enc))/\ (fr 36= .i l.marks.length)/\ (fr 37= .i k)/\ ((l.marks.take k).all (gG p)=true)) 0 (bO8 _) ⟨_,_,_,rfl,(by first|(simp only[go_sem];(try rfl);done)|rfl|(simp;done)),(by first|(simp only[go_sem];(try rfl);done)|rfl|(simp;done)),(by first|(simp only[go_sem];(try rfl);done)|rfl|(simp;done)),(by first|(simp only[go_sem];(try rfl);done)|rfl|(simp;done)),(by first|(simp only[go_sem];(try rfl);done)|rfl|(simp;done)),(by first|(simp only[go_sem];(try rfl);done)|rfl|(simp;done)),(by first|(simp only[go_sem];(try rfl);done)|rfl|(simp;done)),(by first|(simp only[go_sem];(try rfl);done)|rfl|(simp;done))⟩ ?_
 rintro k st hk ⟨fr,en,cnt,rfl,h2,e2,h3,e3,h35,h36,h37,hA⟩
 simp only[go_sem,kK,h36,h37]
 refine aH (fun hq=>?_) (fun hq=>?_)
 ·have h':k<l.marks.length:=of_decide_eq_true hq;have hia:=fun en=>sV (l:=l) (en:=en) h'
  have hC:=aMe p l.marks[k] hp (hl.2.2 _ (bO6 h')) hsp;cases hg:gG p l.marks[k]with
  |false=>
   rw[hg]at hC;have hna:l.marks.all (gG p)=false:=by
    rw[List.all_eq_false];exact⟨_,bO6 h',by rw[hg];decide⟩
   rw[hna];simp only[go_sem,kK,h2,e2,h35,h37,h',hia,hC.ret,kF]
  |true=>
   rw[hg]at hC;simp only[go_sem,kK,h2,e2,h35,h37,h',hia,hC.ret,if_true,kF]
   refine⟨_,_,_,rfl,?_⟩
   simp only[go_sem,h2,e2,h3,e3,h35,h36,aT h' hm];rw[kW h',List.all_append,hA,bPr,bQ7,List.all_nil,hg];rfl
 ·have:k=l.marks.length:=by simp at hq;omega
  subst this;rw[bQp]at hA;rw[hA];simp only[go_sem,if_true]
theorem aNy (n:Nat)(he:1<=aP l)(hn:n<=1000000)(hev:l.every=(aP l:Int)):PC L 107 [(ply p l),.i (n:Int)] (.bool (decide (n%aP l=0))):=by
 have h0: ¬((aP l:Int)=0):=by omega
 have e:((n:Int)).tmod (aP l:Int)=((n%aP l:Nat):Int):=by
  rw[Int.tmod_eq_emod_of_nonneg (by omega)];omega
 have d:decide (((n%aP l:Nat):Int)=0)=decide (n%aP l=0):=decide_eq_decide.2 (by omega)
 have hL:=at_ Tryz.func107
 conv at hL=>rhs;reduce
 refine aG hL rfl rfl ?_
 simp only[go_sem,kK,hev,h0,e,d]
end Go.Proofs.YtmnchlhngpdffaaGreat
