/- Contracts of functions of the program and of the document: part 4. -/
import Derived.Test.YtmnchlhngpdffaaGreatM3
import Derived.Test.YtmnchlhngpdffaaGreatM2
set_option linter.all false
open Bool renaming and_eq_true → bOx, false_eq_true → bO0, not_eq_true → bP6, or_true → bQv
open Int renaming natCast_nonneg → bRg, toNat_natCast → bPz
open List renaming all_eq_true → bO4, append_nil → bPx, drop_eq_getElem_cons → bPy, drop_length → bQt, drop_zero → bQ6, getD_eq_getElem?_getD → bO2, getElem?_eq_getElem → bP7, getElem_mem → bO6, length_append → bPg, length_cons → bO7, length_map → bOz, length_nil → bPe, length_pos_iff → bRv, length_set → bQ1, length_take → bQe, map_append → bQg, map_cons → bPw, map_drop → bRs, map_nil → bPf, map_set → bQ8, map_take → bQs, mem_of_mem_take → bRj, nil_append → bP1, replicate_succ → bP9, replicate_zero → bP8, set_cons_succ → bQx, set_cons_zero → bQw, take_of_length_le → bPi, take_succ_cons → bO5, take_zero → bO3
open Nat renaming add_assoc → bQo, add_zero → bQh, le_refl → bOy, le_trans → bPb, lt_of_lt_of_le → bPo, zero_add → bPs, zero_le → bO8
open Option renaming getD_some → bPp, isSome_none → bQ3, isSome_some → bQu
open Option.some renaming injEq → bOw
namespace Go.Proofs.YtmnchlhngpdffaaGreat
open Go.Abs Go.Proofs
set_option maxRecDepth 100000
set_option maxHeartbeats 4000000
variable {n:aJ}
variable {p :aF}{w0 w:aA}{S:Nat->Prop}{a:Int}{left:List aB}{f:aB}
theorem aLe (h:eL p n=true):1<=n.op/\ n.op<=28:=by
 have:=nV h;unfold fC at this
 repeat' split at this
 all_goals omega
theorem aLf {q:Pat}{cons:List cO}(h:mQ cons q=true):pD q<=1000:=by
 simp only[mQ,bOx,bSi]at h;have:=aS5 q 12 (by omega) h.1
 omega
variable {en:En}{i:Int}
theorem aWk {l:List aD}(h:inR i 0 ((l.length:Int)-1)=true):nO 2 en (.fz (l.map aD.enc)) (.i i)=some {v:= .fp [.i (aE l i.toNat).kind,.i (aE l i.toNat).n] 0}:=aCm (f:=aD.enc) (size:=2) jL h fun _=>rfl
theorem aWl (h:inR i 0 ((n.kids.length:Int)-1)=true):nO 1 en (.fz (n.kids.map (.int .i64))) (.i i)=some {v:= .fp [.i (oJ n i)] 0}:=wG h
theorem aP0 (h:0<n.kids.length):nO 1 en (.fz (n.kids.map (.int .i64))) (.i 0)=some {v:= .fp [.i (oJ n 0)] 0}:=wG (i:=0) (by simp only[inR,bSi];omega)
theorem bDw (h:1<n.kids.length):nO 1 en (.fz (n.kids.map (.int .i64))) (.i 1)=some {v:= .fp [.i (oJ n 1)] 0}:=wG (i:=1) (by simp only[inR,bSi];omega)
structure D0 (p:aF) (w0:aA) (S:Nat->Prop) (w:aA) (a:Int) (left:List aB) (f:aB) (n:aJ) (k:Int):Prop where
 hp:eH p
 hsp:aS p=true
 h:cP p w0 S w
 ha:inR a 0 ((w.tasks.length:Int)-1)=true
 hl:LOk p S w left
 hf:FOk p S w f
 hn:p.node f.node=n
 hfull:(f.vals.length:Int)=n.asks
 hop:n.op=k
theorem D0.all {k:Int}(d:D0 p w0 S w a left f n k):eH p/\ aS p=true/\ cP p w0 S w/\ inR a 0 ((w.tasks.length:Int)-1)=true/\ LOk p S w left/\ FOk p S w f/\ p.node f.node=n/\ (f.vals.length:Int)=n.asks/\ n.op=k/\ Fit w a/\ inR f.node 0 ((p.nodes.length:Int)-1)=true/\ eL p n=true/\ (n.kids.length:Int)=fC n.op n.pats.length (oY p n)/\ left.length<=40/\ (f.env.length:Int)<=30:=by
 obtain⟨hp,hsp,h,ha,hl,hf,hn,hfull,hop⟩:=d;have hni:=fI hf;have hok:=hp.nodes _ (iK hni);rw[hn]at hok;have hfo:=hf.ok;simp only[dH,bE,bOx,bSi]at hfo;exact⟨hp,hsp,h,ha,hl,hf,hn,hfull,hop,uT h ha,hni,hok,nV hok,hl.len,hfo.1.2.1⟩
abbrev PD (p:aF)(w:aA)(a:Int)(left:List aB)(f:aB)(r:Did):Prop:=PC L 131 [.agg p.cs,.agg w.cs,.i a,.fz (left.map aB.enc),.agg [.i f.node,.fz (f.env.map aD.enc),.fz (f.vals.map aD.enc)]] (.agg [.fz (r.w.objs.map aR.enc),.fz (r.w.tasks.map (.int .i64)),.fz (r.w.outs.map bR.enc),.fz (r.w.ins.map (.int .i64)),.i r.w.used,.i r.what,.i r.e.task,.i r.e.act,.i r.e.n,.i r.e.v.kind,.i r.e.v.n])
noncomputable def fX :{c//L 131=some c}:=by
 have hL:=at_ Tryz.func131
 conv at hL=>rhs;reduce
 exact⟨_,hL⟩
theorem bBs (d:D0 p w0 S w a left f n 1):PD p w a left f (bS p w a left f n):=by
 obtain⟨hp,hsp,h,ha,hl,hf,hn,hfull,hop,hfit,hni,hok,hkd,hlen,hfo⟩:=d.all;have e:bS p w a left f n=bY w a left (mK n.n):=by unfold bS;simp[hop]
 rw[e];have hB:=jI w a left (mK n.n) hfit
 refine aG fX.2 rfl rfl ?_
 simp only[go_sem,kK,fX]
 refine aI ?_
 simp only[go_sem,kK,hop,hn,bK hni,kA,bO0,if_false]
 refine aI ?_
 simp only[go_sem,(aDh _).ret,hB.ret,kA,bO0,if_false]
theorem bBt (d:D0 p w0 S w a left f n 2):PD p w a left f (bS p w a left f n):=by
 obtain⟨hp,hsp,h,ha,hl,hf,hn,hfull,hop,hfit,hni,hok,hkd,hlen,hfo⟩:=d.all;have e:bS p w a left f n=bY w a left (mR (decide (n.n=1))):=by unfold bS;simp[hop]
 rw[e];have hB:=jI w a left (mR (decide (n.n=1))) hfit
 refine aG fX.2 rfl rfl ?_
 simp only[go_sem,kK,fX]
 refine aI ?_
 simp only[go_sem,kK,hop,hn,bK hni,kA,bO0,if_false]
 refine aI ?_
 simp only[go_sem,(aIo _).ret,hB.ret,kA,bO0,if_false]
theorem bBu (d:D0 p w0 S w a left f n 3):PD p w a left f (bS p w a left f n):=by
 obtain⟨hp,hsp,h,ha,hl,hf,hn,hfull,hop,hfit,hni,hok,hkd,hlen,hfo⟩:=d.all;have e:bS p w a left f n=bY w a left bO:=by unfold bS;simp[hop]
 rw[e];have hB:=jI w a left bO hfit
 refine aG fX.2 rfl rfl ?_
 simp only[go_sem,kK,fX]
 refine aI ?_
 simp only[go_sem,kK,hop,hn,bK hni,kA,bO0,if_false]
 refine aI ?_
 simp only[go_sem,mS.ret,hB.ret,kA,bO0,if_false]
theorem bBv (d:D0 p w0 S w a left f n 4):PD p w a left f (bS p w a left f n):=by
 obtain⟨hp,hsp,h,ha,hl,hf,hn,hfull,hop,hfit,hni,hok,hkd,hlen,hfo⟩:=d.all;have e:bS p w a left f n=if n.n<0 then bY w a left ⟨4,-1-n.n⟩else if(f.env.length:Int)<=n.n then bI w a 2 else bY w a left (aE f.env n.n.toNat):=by unfold bS;simp[hop]
 rw[e];have hF:=fV w a 2 hfit;have hnum:nW p n=true:=by simp only[eL,bOx]at hok;exact hok.1.1.1
 simp only[nW,hop]at hnum;simp[inR]at hnum;have hwn:IntKind.i64.wrap (-1-n.n)= -1-n.n:=aW (by have:=hp.main;simp only[inR,bSi]at this;have hsl:=hsp;simp only[aS,bOx,bSi]at hsl;omega)
 by_cases hneg:n.n<0
 ·have d0:decide (n.n<0)=true:=decide_eq_true hneg;rw[if_pos hneg];have hB:=jI w a left ⟨4,-1-n.n⟩ hfit
  refine aG fX.2 rfl rfl ?_
  simp only[go_sem,kK,fX]
  refine aI ?_
  simp only[go_sem,kK,hop,hn,bK hni,d0,hwn,hB.ret,kA,bO0,if_false]
 ·have d0:decide (n.n<0)=false:=decide_eq_false hneg;rw[if_neg hneg]
  by_cases hge:(f.env.length:Int)<=n.n
  ·have d1:decide ((f.env.length:Int)<=n.n)=true:=decide_eq_true hge;rw[if_pos hge]
   refine aG fX.2 rfl rfl ?_
   simp only[go_sem,kK,fX]
   refine aI ?_
   simp only[go_sem,kK,hop,hn,bK hni,d0,d1,hF.ret,kA,bO0,if_false]
  ·have d1:decide ((f.env.length:Int)<=n.n)=false:=decide_eq_false hge;rw[if_neg hge];have hB:=jI w a left (aE f.env n.n.toNat) hfit;have hi:=aCm (f:=aD.enc) (size:=2) (k:= .i64) (l:=f.env) (i:=n.n) jL (by simp only[inR,bSi];omega) (fun _=>rfl) (en:=fun _=>none)
   refine aG fX.2 rfl rfl ?_
   simp only[go_sem,kK,fX]
   refine aI ?_
   simp only[go_sem,kK,hop,hn,bK hni,d0,d1,aWk (show inR n.n 0 ((f.env.length:Int)-1)=true by simp only[inR,bSi];omega),hB.ret,kA,bO0,if_false]
theorem bBw (d:D0 p w0 S w a left f n 5):PD p w a left f (bS p w a left f n):=by
 obtain⟨hp,hsp,h,ha,hl,hf,hn,hfull,hop,hfit,hni,hok,hkd,hlen,hfo⟩:=d.all;have e:bS p w a left f n=iF w a left ⟨2,f.node,f.env,[]⟩:=by unfold bS;simp[hop]
 rw[e];have hM:=aIq w a left ⟨2,f.node,f.env,[]⟩ hfit;simp only[bPf]at hM
 refine aG fX.2 rfl rfl ?_
 simp only[go_sem,kK,fX]
 refine aI ?_
 simp only[go_sem,kK,hop,hn,bK hni,hM.ret,kA,bO0,if_false]
theorem bBx (d:D0 p w0 S w a left f n 6):PD p w a left f (bS p w a left f n):=by
 obtain⟨hp,hsp,h,ha,hl,hf,hn,hfull,hop,hfit,hni,hok,hkd,hlen,hfo⟩:=d.all;have e:bS p w a left f n=eX p w a left (aE f.vals 0) (aE f.vals 1):=by unfold bS;simp[hop]
 rw[e];have hq:n.asks=2:=by simp[aJ.asks,hop]
 have h0:0<f.vals.length:=by omega
 have h1:1<f.vals.length:=by omega
 have v0:=hf.vals (dI h0);have v1:=hf.vals (dI h1);have hA:=aVa hp h ha hl v0 v1
 refine aG fX.2 rfl rfl ?_
 simp only[go_sem,kK,fX]
 refine aI ?_
 simp only[go_sem,kK,hop,hn,bK hni,aQ h0,gE h1,hA.ret,kA,bO0,if_false]
theorem bBy (d:D0 p w0 S w a left f n 7):PD p w a left f (bS p w a left f n):=by
 obtain⟨hp,hsp,h,ha,hl,hf,hn,hfull,hop,hfit,hni,hok,hkd,hlen,hfo⟩:=d.all;have e:bS p w a left f n=gL w a left (oJ n 1) (f.env++[aE f.vals 0]):=by unfold bS;simp[hop]
 rw[e];have hq:n.asks=1:=by simp[aJ.asks,hop]
 have h0:0<f.vals.length:=by omega
 have hkc:(n.kids.length:Int)=2:=by rw[hkd];simp[fC,hop]
 have hk1:1<n.kids.length:=by omega
 have hM:=aE2 f.env (aE f.vals 0) (by omega)
 have hN:=aB4 w a left (oJ n 1) (f.env++[aE f.vals 0]) hfit (by omega)
 refine aG fX.2 rfl rfl ?_
 simp only[go_sem,kK,fX]
 refine aI ?_
 simp only[go_sem,kK,hop,hn,bK hni,kA,bO0,if_false]
 refine aI ?_
 simp only[go_sem,aQ h0,bDw hk1,hM.ret,hN.ret,kA,bO0,if_false]
theorem bBz (d:D0 p w0 S w a left f n 8):PD p w a left f (bS p w a left f n):=by
 obtain⟨hp,hsp,h,ha,hl,hf,hn,hfull,hop,hfit,hni,hok,hkd,hlen,hfo⟩:=d.all;have e:bS p w a left f n=if¬(aE f.vals 0).kind=2 then bI w a 2 else gL w a left (oJ n (2-(aE f.vals 0).n)) f.env:=by unfold bS;simp[hop]
 rw[e];have hF:=fV w a 2 hfit;have hq:n.asks=1:=by simp[aJ.asks,hop]
 have h0:0<f.vals.length:=by omega
 have v0:=hf.vals (dI h0);have hkc:(n.kids.length:Int)=3:=by rw[hkd];simp[fC,hop]
 by_cases hk2:(aE f.vals 0).kind=2
 ·have d1:decide ((aE f.vals 0).kind=2)=true:=decide_eq_true hk2;rw[if_neg (fun h=>h hk2)]
  have hvo:=v0.ok;simp only[dJ,hk2]at hvo;simp[inR]at hvo;have hw2:IntKind.i64.wrap (2-(aE f.vals 0).n)=2-(aE f.vals 0).n:=aW (by omega)
  have hN:=aB4 w a left (oJ n (2-(aE f.vals 0).n)) f.env hfit (by omega)
  refine aG fX.2 rfl rfl ?_
  simp only[go_sem,kK,fX]
  refine aI ?_
  simp only[go_sem,kK,hop,hn,bK hni,aQ h0,d1,hw2,aWl (show inR (2-(aE f.vals 0).n) 0 ((n.kids.length:Int)-1)=true by simp only[inR,bSi];omega),hN.ret,kA,bO0,if_false]
 ·have d1:decide ((aE f.vals 0).kind=2)=false:=decide_eq_false hk2;rw[if_pos hk2]
  refine aG fX.2 rfl rfl ?_
  simp only[go_sem,kK,fX]
  refine aI ?_
  simp only[go_sem,kK,hop,hn,bK hni,aQ h0,d1,hF.ret,kA,bO0,if_false]
theorem bB0 (d:D0 p w0 S w a left f n 9):PD p w a left f (bS p w a left f n):=by
 obtain⟨hp,hsp,h,ha,hl,hf,hn,hfull,hop,hfit,hni,hok,hkd,hlen,hfo⟩:=d.all;have e:bS p w a left f n=cM w a left 9 (aE f.vals 0) (aE f.vals 1):=by unfold bS;simp[hop]
 rw[e];have hq:n.asks=2:=by simp[aJ.asks,hop]
 have h0:0<f.vals.length:=by omega
 have h1:1<f.vals.length:=by omega
 have v0:=hf.vals (dI h0);have v1:=hf.vals (dI h1);have hA:=uV (left:=left) (op:=9) h ha v0 v1 (by omega)
 refine aG fX.2 rfl rfl ?_
 simp only[go_sem,kK,fX]
 refine aI ?_
 simp only[go_sem,kK,hop,hn,bK hni,aQ h0,gE h1,hA.ret,kA,bO0,if_false]
theorem aYb (d:D0 p w0 S w a left f n 10):PD p w a left f (bS p w a left f n):=by
 obtain⟨hp,hsp,h,ha,hl,hf,hn,hfull,hop,hfit,hni,hok,hkd,hlen,hfo⟩:=d.all;have e:bS p w a left f n=cM w a left 10 (aE f.vals 0) (aE f.vals 1):=by unfold bS;simp[hop]
 rw[e];have hq:n.asks=2:=by simp[aJ.asks,hop]
 have h0:0<f.vals.length:=by omega
 have h1:1<f.vals.length:=by omega
 have v0:=hf.vals (dI h0);have v1:=hf.vals (dI h1);have hA:=uV (left:=left) (op:=10) h ha v0 v1 (by omega)
 refine aG fX.2 rfl rfl ?_
 simp only[go_sem,kK,fX]
 refine aI ?_
 simp only[go_sem,kK,hop,hn,bK hni,aQ h0,gE h1,hA.ret,kA,bO0,if_false]
theorem aYc (d:D0 p w0 S w a left f n 11):PD p w a left f (bS p w a left f n):=by
 obtain⟨hp,hsp,h,ha,hl,hf,hn,hfull,hop,hfit,hni,hok,hkd,hlen,hfo⟩:=d.all;have e:bS p w a left f n=cM w a left 11 (aE f.vals 0) (aE f.vals 1):=by unfold bS;simp[hop]
 rw[e];have hq:n.asks=2:=by simp[aJ.asks,hop]
 have h0:0<f.vals.length:=by omega
 have h1:1<f.vals.length:=by omega
 have v0:=hf.vals (dI h0);have v1:=hf.vals (dI h1);have hA:=uV (left:=left) (op:=11) h ha v0 v1 (by omega)
 refine aG fX.2 rfl rfl ?_
 simp only[go_sem,kK,fX]
 refine aI ?_
 simp only[go_sem,kK,hop,hn,bK hni,aQ h0,gE h1,hA.ret,kA,bO0,if_false]
theorem aYd (d:D0 p w0 S w a left f n 12):PD p w a left f (bS p w a left f n):=by
 obtain⟨hp,hsp,h,ha,hl,hf,hn,hfull,hop,hfit,hni,hok,hkd,hlen,hfo⟩:=d.all;have e:bS p w a left f n=cM w a left 12 (aE f.vals 0) (aE f.vals 1):=by unfold bS;simp[hop]
 rw[e];have hq:n.asks=2:=by simp[aJ.asks,hop]
 have h0:0<f.vals.length:=by omega
 have h1:1<f.vals.length:=by omega
 have v0:=hf.vals (dI h0);have v1:=hf.vals (dI h1);have hA:=uV (left:=left) (op:=12) h ha v0 v1 (by omega)
 refine aG fX.2 rfl rfl ?_
 simp only[go_sem,kK,fX]
 refine aI ?_
 simp only[go_sem,kK,hop,hn,bK hni,aQ h0,gE h1,hA.ret,kA,bO0,if_false]
theorem aYe (d:D0 p w0 S w a left f n 13):PD p w a left f (bS p w a left f n):=by
 obtain⟨hp,hsp,h,ha,hl,hf,hn,hfull,hop,hfit,hni,hok,hkd,hlen,hfo⟩:=d.all;have e:bS p w a left f n=cM w a left 13 (aE f.vals 0) (aE f.vals 1):=by unfold bS;simp[hop]
 rw[e];have hq:n.asks=2:=by simp[aJ.asks,hop]
 have h0:0<f.vals.length:=by omega
 have h1:1<f.vals.length:=by omega
 have v0:=hf.vals (dI h0);have v1:=hf.vals (dI h1);have hA:=uV (left:=left) (op:=13) h ha v0 v1 (by omega)
 refine aG fX.2 rfl rfl ?_
 simp only[go_sem,kK,fX]
 refine aI ?_
 simp only[go_sem,kK,hop,hn,bK hni,aQ h0,gE h1,hA.ret,kA,bO0,if_false]
theorem aYf (d:D0 p w0 S w a left f n 14):PD p w a left f (bS p w a left f n):=by
 obtain⟨hp,hsp,h,ha,hl,hf,hn,hfull,hop,hfit,hni,hok,hkd,hlen,hfo⟩:=d.all;have e:bS p w a left f n=iF w a left ⟨1,n.n,f.vals,[]⟩:=by unfold bS;simp[hop]
 rw[e];have hM:=aIq w a left ⟨1,n.n,f.vals,[]⟩ hfit;simp only[bPf]at hM
 refine aG fX.2 rfl rfl ?_
 simp only[go_sem,kK,fX]
 refine aI ?_
 simp only[go_sem,kK,hop,hn,bK hni,hM.ret,kA,bO0,if_false]
theorem aYg (d:D0 p w0 S w a left f n 15):PD p w a left f (bS p w a left f n):=by
 obtain⟨hp,hsp,h,ha,hl,hf,hn,hfull,hop,hfit,hni,hok,hkd,hlen,hfo⟩:=d.all;have e:bS p w a left f n=jX w a left n f.env (aE f.vals 0):=by unfold bS;simp[hop]
 rw[e];have hq:n.asks=1:=by simp[aJ.asks,hop]
 have h0:0<f.vals.length:=by omega
 have v0:=hf.vals (dI h0);have hkc:(n.kids.length:Int)=1+n.pats.length:=by rw[hkd];simp[fC,hop]
 have hsn:fU n=true:=by rw[<-hn];simp only[aS,bOx,bO4]at hsp;exact hsp.2 _ (iK hni)
 simp only[fU,bOx,bSi]at hsn;have hpf: ∀q∈n.pats,pD q<=1000:=fun q hq=>by simp only[eL,bOx,bO4]at hok;exact aLf (hok.1.2 q hq)
 have hA:=aVb h ha hl n f.env v0 (by omega) (by omega) hpf (by omega)
 rw[hop]at hA
 refine aG fX.2 rfl rfl ?_
 simp only[go_sem,kK,fX]
 refine aI ?_
 simp only[go_sem,kK,hop,hn,bK hni,aQ h0,hA.ret,kA,bO0,if_false]
theorem aYh (d:D0 p w0 S w a left f n 26):PD p w a left f (bS p w a left f n):=by
 obtain⟨hp,hsp,h,ha,hl,hf,hn,hfull,hop,hfit,hni,hok,hkd,hlen,hfo⟩:=d.all;have e:bS p w a left f n=bY w a left (aE f.vals 0):=by unfold bS;simp[hop]
 rw[e];have hq:n.asks=1:=by simp[aJ.asks,hop]
 have h0:0<f.vals.length:=by omega
 have hB:=jI w a left (aE f.vals 0) hfit
 refine aG fX.2 rfl rfl ?_
 simp only[go_sem,kK,fX]
 refine aI ?_
 simp only[go_sem,kK,hop,hn,bK hni,aQ h0,hB.ret,kA,bO0,if_false]
theorem aYi (d:D0 p w0 S w a left f n 27):PD p w a left f (bS p w a left f n):=by
 obtain⟨hp,hsp,h,ha,hl,hf,hn,hfull,hop,hfit,hni,hok,hkd,hlen,hfo⟩:=d.all;have e:bS p w a left f n=eY p w a left (oJ n 0) f.env:=by unfold bS;simp[hop]
 rw[e];have hkc:(n.kids.length:Int)=1:=by rw[hkd];simp[fC,hop]
 have hk0:0<n.kids.length:=by omega
 have hA:=aVc h ha hl (kid:=oJ n 0) (env:=f.env) (by omega)
 refine aG fX.2 rfl rfl ?_
 simp only[go_sem,kK,fX]
 refine aI ?_
 simp only[go_sem,kK,hop,hn,bK hni,aP0 hk0,hA.ret,kA,bO0,if_false]
theorem aYj (d:D0 p w0 S w a left f n 16):PD p w a left f (bS p w a left f n):=by
 obtain⟨hp,hsp,h,ha,hl,hf,hn,hfull,hop,hfit,hni,hok,hkd,hlen,hfo⟩:=d.all;have e:bS p w a left f n=eN w a left 16 f.vals:=by unfold bS;simp[hop]
 rw[e];have hq:n.asks=1:=by simp[aJ.asks,hop]
 have h0:0<f.vals.length:=by omega
 have hA:=aGr (left:=left) (op:=16) h ha (fun v hv=>hf.vals hv) h0 (by omega)
 refine aG fX.2 rfl rfl ?_
 simp only[go_sem,kK,fX]
 refine aI ?_
 simp only[go_sem,kK,hop,hn,bK hni,hA.ret,kA,bO0,if_false]
theorem aYk (d:D0 p w0 S w a left f n 17):PD p w a left f (bS p w a left f n):=by
 obtain⟨hp,hsp,h,ha,hl,hf,hn,hfull,hop,hfit,hni,hok,hkd,hlen,hfo⟩:=d.all;have e:bS p w a left f n=eN w a left 17 f.vals:=by unfold bS;simp[hop]
 rw[e];have hq:n.asks=1:=by simp[aJ.asks,hop]
 have h0:0<f.vals.length:=by omega
 have hA:=aGr (left:=left) (op:=17) h ha (fun v hv=>hf.vals hv) h0 (by omega)
 refine aG fX.2 rfl rfl ?_
 simp only[go_sem,kK,fX]
 refine aI ?_
 simp only[go_sem,kK,hop,hn,bK hni,hA.ret,kA,bO0,if_false]
theorem aYl (d:D0 p w0 S w a left f n 18):PD p w a left f (bS p w a left f n):=by
 obtain⟨hp,hsp,h,ha,hl,hf,hn,hfull,hop,hfit,hni,hok,hkd,hlen,hfo⟩:=d.all;have e:bS p w a left f n=eN w a left 18 f.vals:=by unfold bS;simp[hop]
 rw[e];have hq:n.asks=2:=by simp[aJ.asks,hop]
 have h0:0<f.vals.length:=by omega
 have hA:=aGr (left:=left) (op:=18) h ha (fun v hv=>hf.vals hv) h0 (by omega)
 refine aG fX.2 rfl rfl ?_
 simp only[go_sem,kK,fX]
 refine aI ?_
 simp only[go_sem,kK,hop,hn,bK hni,hA.ret,kA,bO0,if_false]
theorem aYm (d:D0 p w0 S w a left f n 19):PD p w a left f (bS p w a left f n):=by
 obtain⟨hp,hsp,h,ha,hl,hf,hn,hfull,hop,hfit,hni,hok,hkd,hlen,hfo⟩:=d.all;have e:bS p w a left f n=eJ p w a left (aE f.vals 0):=by unfold bS;simp[hop]
 rw[e];have hq:n.asks=1:=by simp[aJ.asks,hop]
 have h0:0<f.vals.length:=by omega
 have v0:=hf.vals (dI h0);have hA:=aVd (left:=left) hp h ha v0
 refine aG fX.2 rfl rfl ?_
 simp only[go_sem,kK,fX]
 refine aI ?_
 simp only[go_sem,kK,hop,hn,bK hni,aQ h0,hA.ret,kA,bO0,if_false]
theorem aYn (d:D0 p w0 S w a left f n 20):PD p w a left f (bS p w a left f n):=by
 obtain⟨hp,hsp,h,ha,hl,hf,hn,hfull,hop,hfit,hni,hok,hkd,hlen,hfo⟩:=d.all;have e:bS p w a left f n=gC w a left (aE f.vals 0):=by unfold bS;simp[hop]
 rw[e];have hq:n.asks=1:=by simp[aJ.asks,hop]
 have h0:0<f.vals.length:=by omega
 have v0:=hf.vals (dI h0);have hA:=aYa (left:=left) h ha v0
 refine aG fX.2 rfl rfl ?_
 simp only[go_sem,kK,fX]
 refine aI ?_
 simp only[go_sem,kK,hop,hn,bK hni,aQ h0,hA.ret,kA,bO0,if_false]
theorem aYo (d:D0 p w0 S w a left f n 21):PD p w a left f (bS p w a left f n):=by
 obtain⟨hp,hsp,h,ha,hl,hf,hn,hfull,hop,hfit,hni,hok,hkd,hlen,hfo⟩:=d.all;have e:bS p w a left f n=dF (iF w a left ⟨4,0,[],[]⟩) a 21 0 bO:=by unfold bS;simp[hop]
 rw[e];have hM:=aIq w a left ⟨4,0,[],[]⟩ hfit;have hE:=mE (iF w a left ⟨4,0,[],[]⟩) a 21 0 bO;simp only[bPf]at hM
 refine aG fX.2 rfl rfl ?_
 simp only[go_sem,kK,fX]
 refine aI ?_
 simp only[go_sem,kK,hop,hn,bK hni,kA,bO0,if_false]
 refine aI ?_
 simp only[go_sem,hM.ret,mS.ret,hE.ret,kA,bO0,if_false]
theorem aYp (d:D0 p w0 S w a left f n 22):PD p w a left f (bS p w a left f n):=by
 obtain⟨hp,hsp,h,ha,hl,hf,hn,hfull,hop,hfit,hni,hok,hkd,hlen,hfo⟩:=d.all;have e:bS p w a left f n=cE w a left 22 f.vals:=by unfold bS;simp[hop]
 rw[e];have hq:n.asks=2:=by simp[aJ.asks,hop]
 have h0:0<f.vals.length:=by omega
 have hA:=aFk (left:=left) (op:=22) h ha (fun v hv=>hf.vals hv) h0 (by omega)
 refine aG fX.2 rfl rfl ?_
 simp only[go_sem,kK,fX]
 refine aI ?_
 simp only[go_sem,kK,hop,hn,bK hni,hA.ret,kA,bO0,if_false]
theorem aYq (d:D0 p w0 S w a left f n 23):PD p w a left f (bS p w a left f n):=by
 obtain⟨hp,hsp,h,ha,hl,hf,hn,hfull,hop,hfit,hni,hok,hkd,hlen,hfo⟩:=d.all;have e:bS p w a left f n=cE w a left 23 f.vals:=by unfold bS;simp[hop]
 rw[e];have hq:n.asks=1:=by simp[aJ.asks,hop]
 have h0:0<f.vals.length:=by omega
 have hA:=aFk (left:=left) (op:=23) h ha (fun v hv=>hf.vals hv) h0 (by omega)
 refine aG fX.2 rfl rfl ?_
 simp only[go_sem,kK,fX]
 refine aI ?_
 simp only[go_sem,kK,hop,hn,bK hni,hA.ret,kA,bO0,if_false]
theorem aYr (d:D0 p w0 S w a left f n 24):PD p w a left f (bS p w a left f n):=by
 obtain⟨hp,hsp,h,ha,hl,hf,hn,hfull,hop,hfit,hni,hok,hkd,hlen,hfo⟩:=d.all;have e:bS p w a left f n=dG w a left 24 n.n f.vals:=by unfold bS;simp[hop]
 rw[e];have hq:n.asks=1:=by simp[aJ.asks,hop]
 have h0:0<f.vals.length:=by omega
 have hA:=aLd (left:=left) h ha n (fun v hv=>hf.vals hv) (.inr ⟨hop,h0⟩)
 rw[hop]at hA
 refine aG fX.2 rfl rfl ?_
 simp only[go_sem,kK,fX]
 refine aI ?_
 simp only[go_sem,kK,hop,hn,bK hni,hA.ret,kA,bO0,if_false]
theorem aYs (d:D0 p w0 S w a left f n 25):PD p w a left f (bS p w a left f n):=by
 obtain⟨hp,hsp,h,ha,hl,hf,hn,hfull,hop,hfit,hni,hok,hkd,hlen,hfo⟩:=d.all;have e:bS p w a left f n=dG w a left 25 n.n f.vals:=by unfold bS;simp[hop]
 rw[e];have hA:=aLd (left:=left) h ha n (fun v hv=>hf.vals hv) (.inl hop)
 rw[hop]at hA
 refine aG fX.2 rfl rfl ?_
 simp only[go_sem,kK,fX]
 refine aI ?_
 simp only[go_sem,kK,hop,hn,bK hni,hA.ret,kA,bO0,if_false]
theorem aYt (d:D0 p w0 S w a left f n 28):PD p w a left f (bS p w a left f n):=by
 obtain⟨hp,hsp,h,ha,hl,hf,hn,hfull,hop,hfit,hni,hok,hkd,hlen,hfo⟩:=d.all;have e:bS p w a left f n=dF (bY w a left bO) a 28 0 bO:=by unfold bS;simp[hop]
 rw[e];have hB:=jI w a left bO hfit;have hE:=mE (bY w a left bO) a 28 0 bO
 refine aG fX.2 rfl rfl ?_
 simp only[go_sem,kK,fX]
 refine aI ?_
 simp only[go_sem,kK,hop,hn,bK hni,kA,bO0,if_false]
 refine aI ?_
 simp only[go_sem,mS.ret,hB.ret,hE.ret,kA,bO0,if_false]
theorem bDx (hp:eH p)(hsp:aS p=true)(h:cP p w0 S w)(ha:inR a 0 ((w.tasks.length:Int)-1)=true)(hl:LOk p S w left)(hf:FOk p S w f)(hfull:(f.vals.length:Int)=(p.node f.node).asks):
  PC L 131 [.agg p.cs,.agg w.cs,.i a,.fz (left.map aB.enc),.agg [.i f.node,.fz (f.env.map aD.enc),.fz (f.vals.map aD.enc)]] (.agg [.fz ((rS p w a left f).w.objs.map aR.enc),.fz ((rS p w a left f).w.tasks.map (.int .i64)),.fz ((rS p w a left f).w.outs.map bR.enc),.fz ((rS p w a left f).w.ins.map (.int .i64)),.i (rS p w a left f).w.used,.i (rS p w a left f).what,.i (rS p w a left f).e.task,.i (rS p w a left f).e.act,.i (rS p w a left f).e.n,.i (rS p w a left f).e.v.kind,.i (rS p w a left f).e.v.n]):=by
 obtain⟨o1,o2⟩:=aLe (hp.nodes _ (iK (fI hf)));have ho:(p.node f.node).op=1 \/(p.node f.node).op=2 \/(p.node f.node).op=3 \/(p.node f.node).op=4 \/(p.node f.node).op=5 \/(p.node f.node).op=6 \/(p.node f.node).op=7 \/(p.node f.node).op=8 \/(p.node f.node).op=9 \/(p.node f.node).op=10 \/(p.node f.node).op=11 \/(p.node f.node).op=12 \/(p.node f.node).op=13 \/(p.node f.node).op=14 \/(p.node f.node).op=15 \/(p.node f.node).op=16 \/(p.node f.node).op=17 \/(p.node f.node).op=18 \/(p.node f.node).op=19 \/(p.node f.node).op=20 \/(p.node f.node).op=21 \/(p.node f.node).op=22 \/(p.node f.node).op=23 \/(p.node f.node).op=24 \/(p.node f.node).op=25 \/(p.node f.node).op=26 \/(p.node f.node).op=27 \/(p.node f.node).op=28:=by omega
 unfold rS;rcases ho with ho|ho|ho|ho|ho|ho|ho|ho|ho|ho|ho|ho|ho|ho|ho|ho|ho|ho|ho|ho|ho|ho|ho|ho|ho|ho|ho|ho
 ·exact bBs ⟨hp,hsp,h,ha,hl,hf,rfl,hfull,ho⟩
 ·exact bBt ⟨hp,hsp,h,ha,hl,hf,rfl,hfull,ho⟩
 ·exact bBu ⟨hp,hsp,h,ha,hl,hf,rfl,hfull,ho⟩
 ·exact bBv ⟨hp,hsp,h,ha,hl,hf,rfl,hfull,ho⟩
 ·exact bBw ⟨hp,hsp,h,ha,hl,hf,rfl,hfull,ho⟩
 ·exact bBx ⟨hp,hsp,h,ha,hl,hf,rfl,hfull,ho⟩
 ·exact bBy ⟨hp,hsp,h,ha,hl,hf,rfl,hfull,ho⟩
 ·exact bBz ⟨hp,hsp,h,ha,hl,hf,rfl,hfull,ho⟩
 ·exact bB0 ⟨hp,hsp,h,ha,hl,hf,rfl,hfull,ho⟩
 ·exact aYb ⟨hp,hsp,h,ha,hl,hf,rfl,hfull,ho⟩
 ·exact aYc ⟨hp,hsp,h,ha,hl,hf,rfl,hfull,ho⟩
 ·exact aYd ⟨hp,hsp,h,ha,hl,hf,rfl,hfull,ho⟩
 ·exact aYe ⟨hp,hsp,h,ha,hl,hf,rfl,hfull,ho⟩
 ·exact aYf ⟨hp,hsp,h,ha,hl,hf,rfl,hfull,ho⟩
 ·exact aYg ⟨hp,hsp,h,ha,hl,hf,rfl,hfull,ho⟩
 ·exact aYj ⟨hp,hsp,h,ha,hl,hf,rfl,hfull,ho⟩
 ·exact aYk ⟨hp,hsp,h,ha,hl,hf,rfl,hfull,ho⟩
 ·exact aYl ⟨hp,hsp,h,ha,hl,hf,rfl,hfull,ho⟩
 ·exact aYm ⟨hp,hsp,h,ha,hl,hf,rfl,hfull,ho⟩
 ·exact aYn ⟨hp,hsp,h,ha,hl,hf,rfl,hfull,ho⟩
 ·exact aYo ⟨hp,hsp,h,ha,hl,hf,rfl,hfull,ho⟩
 ·exact aYp ⟨hp,hsp,h,ha,hl,hf,rfl,hfull,ho⟩
 ·exact aYq ⟨hp,hsp,h,ha,hl,hf,rfl,hfull,ho⟩
 ·exact aYr ⟨hp,hsp,h,ha,hl,hf,rfl,hfull,ho⟩
 ·exact aYs ⟨hp,hsp,h,ha,hl,hf,rfl,hfull,ho⟩
 ·exact aYh ⟨hp,hsp,h,ha,hl,hf,rfl,hfull,ho⟩
 ·exact aYi ⟨hp,hsp,h,ha,hl,hf,rfl,hfull,ho⟩
 ·exact aYt ⟨hp,hsp,h,ha,hl,hf,rfl,hfull,ho⟩
end Go.Proofs.YtmnchlhngpdffaaGreat
namespace Go.Proofs.YtmnchlhngpdffaaGreat
open Go.Abs Go.Proofs
set_option maxRecDepth 100000
set_option maxHeartbeats 4000000
variable {b f:aB}{u v:aD}{k g size:Nat}{en:En}{xs:List Val}{a:Int}{w w0:aA}{S:Nat->Prop}{kt kr:Key}{cnt:Nat->Nat->Nat}{p:aF}{left:List aB}{n:aJ}{back:List aD}{bv:Val}
section
theorem aLg (h:TS kt kr en cnt p w a left f n back bv)(hp:eH p)(hF:cP p w0 S w)(hu:VOk p S w u)(hb:fH p w u v=some b)(hc:b.env.length<=30):
  WIn L (.fn 328 [] []) [.ptr kt 0,.agg [.i u.kind,.i u.n],.agg [.i v.kind,.i v.n]] en cnt fun r en' cnt'=>(∃ev,iG ev (b.env.map aD.enc)/\ b.vals=[]/\ r= .tup [.agg [.i b.node,ev,.cl []],.bool true])/\ (∃bv',TS kt kr en' cnt' p w a left f n back bv')/\ dU kt kr en cnt en' cnt':=by
 have H:=h.pre;have ht:=h.t;have hr:=h.r;have hL:=at_ Tryz.func328
 conv at hL=>rhs;reduce
 refine bD hL rfl rfl ?_
 unfold fH at hb
 by_cases h4:u.kind=4
 ·rw[if_pos h4]at hb;simp only[bOw]at hb;subst hb;have d4:decide (u.kind=4)=true:=decide_eq_true h4;have hfn:inR u.n 0 ((p.funs.length:Int)-1)=true:=by
   have:=hu.ok;simp only[dJ,h4]at this
   simpa using this
  simp only[go_sem,kK,d4]
  refine aI ?_
  simp only[go_sem,ht,hr,H,kB,wG hfn,kA,kF];exact⟨⟨_,.inr rfl,rfl⟩,h.stay (fun k hk=>by simp only[hk.set]) (by(repeat refine upS ?_ (by omega));exact aN _)⟩
 ·rw[if_neg h4]at hb;have d4:decide (u.kind=4)=false:=decide_eq_false h4
  split at hb
  case isFalse=>cases hb
  rename_i h2;simp only[bOw]at hb;subst hb;obtain⟨a1,a2,a3,a4⟩:=eZ hF hu h2;have hk:=a2.ok;simp only[dK,a3]at hk
  simp at hk
  obtain⟨_,⟨b1,b2⟩,b3⟩:=hk;have hkk:=nV (hp.nodes _ (iK b1));rw[b2]at hkk;simp[fC]at hkk;have hk0:inR 0 0 (((p.node (w.obj u.n).n).kids.length:Int)-1)=true:=by simp only[inR,bSi];omega
  simp only[bPg,bO7,bPe]at hc;have hW:PC L 330 [.fz ((w.obj u.n).vals.map aD.enc),.fz [.agg [.i v.kind,.i v.n]]] (.fz (((w.obj u.n).vals++[v]).map aD.enc)):=aE8 (w.obj u.n).vals [v] (by simpa using hc)
  simp only[go_sem,kK,d4];obtain⟨⟨bv1,h1⟩,k1⟩:=h.stay (cnt':=aC (aC (aC cnt 0 4 (cnt 0 4+1)) 0 5 (cnt 0 5+1)) 0 6 (cnt 0 6+1)) (en':=((en.set ⟨0,4,cnt 0 4⟩ (some (.box [.i u.kind,.i u.n] false))).set ⟨0,5,cnt 0 5⟩ (some (.box [.i v.kind,.i v.n] false))).set ⟨0,6,cnt 0 6⟩ (some (.box [.i 0,.cl [],.cl []] false))) (fun k hk=>by simp only[hk.set]) (by(repeat refine upS ?_ (by omega));exact aN _)
  refine(rD h1 (fN hu) 2).mono ?_
  rintro r e1 c1 ⟨⟨x,rfl,hx⟩,⟨bv2,h2'⟩,k2⟩
  rcases hx with⟨_,hx⟩|⟨rfl,_⟩
  ·rw[h2]at hx;cases hx
  obtain⟨p5,q5⟩:=k2.loc (d:=5) (g:=cnt 0 5) (by simp only[go_sem];omega) h.okt.ne.symm h.okr.ne.symm
  obtain⟨p6,q6⟩:=k2.loc (d:=6) (g:=cnt 0 6) (by simp only[go_sem];omega) h.okt.ne.symm h.okr.ne.symm
  simp only[go_sem]at p5 p6;have ht2:=h2'.t;have hr2:=h2'.r;have z1:=h2'.okt.set;have z2:=h2'.okr.set;simp only[go_sem,kK,h2]
  refine iU ?_
  simp only[go_sem,ht2,hr2,z1,z2,p5,p6,q5.set,q6.set,bK b1,aP0 (n:=p.node (w.obj u.n).n) (by omega),hW.ret,kA,kF]
  exact⟨⟨_,.inl rfl,rfl⟩,h.fin h2' (k1.trans k2) (fun k hk hj=>by simp only[hk.set,hj.set]) (by(repeat refine upS ?_ (by omega));exact aN _)⟩
theorem aHv (h:TS kt kr en cnt p w a left f n back bv)(hu:VOk p S w u)(hb:fH p w u v=none):
  WIn L (.fn 328 [] []) [.ptr kt 0,.agg [.i u.kind,.i u.n],.agg [.i v.kind,.i v.n]] en cnt fun r en' cnt'=>(∃x,r= .tup [.agg [.i 0,.cl [],.cl []],.bool x]/\ x=false)/\ (∃bv',TS kt kr en' cnt' p w a left f n back bv')/\ dU kt kr en cnt en' cnt':=by
 have H:=h.pre;have hL:=at_ Tryz.func328
 conv at hL=>rhs;reduce
 refine bD hL rfl rfl ?_
 unfold fH at hb
 by_cases h4:u.kind=4
 ·rw[if_pos h4]at hb;cases hb
 rw[if_neg h4]at hb;have d4:decide (u.kind=4)=false:=decide_eq_false h4
 split at hb
 case isTrue=>cases hb
 rename_i h2;rw[bP6]at h2;simp only[go_sem,kK,d4];obtain⟨⟨bv1,h1⟩,k1⟩:=h.stay (cnt':=aC (aC (aC cnt 0 4 (cnt 0 4+1)) 0 5 (cnt 0 5+1)) 0 6 (cnt 0 6+1)) (en':=((en.set ⟨0,4,cnt 0 4⟩ (some (.box [.i u.kind,.i u.n] false))).set ⟨0,5,cnt 0 5⟩ (some (.box [.i v.kind,.i v.n] false))).set ⟨0,6,cnt 0 6⟩ (some (.box [.i 0,.cl [],.cl []] false))) (fun k hk=>by simp only[hk.set]) (by(repeat refine upS ?_ (by omega));exact aN _)
 refine(rD h1 (fN hu) 2).mono ?_
 rintro r e1 c1 ⟨⟨x,rfl,hx⟩,⟨bv2,h2'⟩,k2⟩
 rcases hx with⟨rfl,_⟩|⟨_,hx⟩
 case inr=>rw[h2]at hx;cases hx
 obtain⟨p6,q6⟩:=k2.loc (d:=6) (g:=cnt 0 6) (by simp only[go_sem];omega) h.okt.ne.symm h.okr.ne.symm
 simp only[go_sem]at p6;simp only[go_sem,kK,h2,p6,q6.set];exact⟨⟨false,rfl,rfl⟩,h.fin h2' (k1.trans k2) (fun k hk hj=>by simp only[hk.set,hj.set]) (by(repeat refine upS ?_ (by omega));exact aN _)⟩
theorem aLh (h:TS kt kr en cnt p w a left f n back bv)(hp:eH p)(hF:cP p w0 S w)(hu:VOk p S w u)(hb:fH p w u v=some b)(hc:30<b.env.length):
  wF L 328 [.ptr kt 0,.agg [.i u.kind,.i u.n],.agg [.i v.kind,.i v.n]] en cnt (oZ kt kr en cnt p 4):=by
 have H:=h.pre;have hL:=at_ Tryz.func328
 conv at hL=>rhs;reduce
 refine cA hL rfl rfl ?_
 unfold fH at hb
 by_cases h4:u.kind=4
 ·rw[if_pos h4]at hb;simp only[bOw]at hb;subst hb
  simp at hc
 rw[if_neg h4]at hb;have d4:decide (u.kind=4)=false:=decide_eq_false h4
 split at hb
 case isFalse=>cases hb
 rename_i h2;simp only[bOw]at hb;subst hb;obtain⟨a1,a2,a3,a4⟩:=eZ hF hu h2;have hk:=a2.ok;simp only[dK,a3]at hk
 simp at hk
 obtain⟨_,⟨b1,b2⟩,b3⟩:=hk;have hlen:=aDj a2.ok;have hkk:=nV (hp.nodes _ (iK b1));rw[b2]at hkk;simp[fC]at hkk;simp only[bPg,bO7,bPe]at hc;have hW:PX L 330 [.fz ((w.obj u.n).vals.map aD.enc),.fz [.agg [.i v.kind,.i v.n]]] (aE3 4):=aIp (w.obj u.n).vals [v] (by simpa using hc) (by simp only[bO7,bPe];omega)
 simp only[go_sem,kK,d4];obtain⟨⟨bv1,h1⟩,k1⟩:=h.stay (cnt':=aC (aC (aC cnt 0 4 (cnt 0 4+1)) 0 5 (cnt 0 5+1)) 0 6 (cnt 0 6+1)) (en':=((en.set ⟨0,4,cnt 0 4⟩ (some (.box [.i u.kind,.i u.n] false))).set ⟨0,5,cnt 0 5⟩ (some (.box [.i v.kind,.i v.n] false))).set ⟨0,6,cnt 0 6⟩ (some (.box [.i 0,.cl [],.cl []] false))) (fun k hk=>by simp only[hk.set]) (by(repeat refine upS ?_ (by omega));exact aN _)
 refine(rD h1 (fN hu) 2).mono ?_
 rintro r e1 c1 ⟨⟨x,rfl,hx⟩,⟨bv2,h2'⟩,k2⟩
 rcases hx with⟨_,hx⟩|⟨rfl,_⟩
 ·rw[h2]at hx;cases hx
 obtain⟨p5,q5⟩:=k2.loc (d:=5) (g:=cnt 0 5) (by simp only[go_sem];omega) h.okt.ne.symm h.okr.ne.symm
 simp only[go_sem]at p5;have ht2:=h2'.t;have hr2:=h2'.r;have z1:=h2'.okt.set;have z2:=h2'.okr.set;simp only[go_sem,kK,h2]
 refine jW 19 rfl rfl ?_
 simp only[go_sem,bO5,bO3,ht2,hr2,z1,z2,p5,q5.set,bK b1,aP0 (n:=p.node (w.obj u.n).n) (by omega),hW.ret,bP9,bP8,qP,kA,kF]
 exact⟨rfl,h.fell h2' (k1.trans k2) (fun k hk hj=>by simp only[hj.set]) (by(repeat refine upS ?_ (by omega));exact aN _)⟩
def aNu :Option lV->Val
 |none=>aPm
 |some e=>aHs e
def qQ (fn:Nat)(kt kr:Key)(en:En)(cnt:Nat->Nat->Nat)(p:aF)(w:aA)(a:Int)(left:List aB)(f:aB)(n:aJ):OpR->Prop
 | .go ev w' left' back=>WIn L (.fn fn [] []) [.ptr kt 0] en cnt fun r en' cnt'=>r=aNu ev/\ (∃bv',TS kt kr en' cnt' p w' a left' f n back bv')/\ dU kt kr en cnt en' cnt'
 | .wait=>WIn L (.fn fn [] []) [.ptr kt 0] en cnt fun r en' cnt'=>r=aWc/\ (∃bv',TS kt kr en' cnt' p w a left f n [] bv')/\ dU kt kr en cnt en' cnt'
 | .fail s=>wF L fn [.ptr kt 0] en cnt (oZ kt kr en cnt p s)
structure Pre (p:aF) (w0:aA) (S:Nat->Prop) (w:aA) (a:Int) (left:List aB) (f:aB) (n:aJ):Prop where
 hp:eH p
 hsp:aS p=true
 hF:cP p w0 S w
 ha:inR a 0 ((w.tasks.length:Int)-1)=true
 hl:LOk p S w left
 hf:FOk p S w f
 hn:p.node f.node=n
 full:(f.vals.length:Int)=n.asks
theorem Pre.env30 (h:Pre p w0 S w a left f n):f.env.length<=30:=by
 have:=h.hf.ok;simp only[dH,bE,bOx,bSi]at this;omega
theorem Pre.objs (h:Pre p w0 S w a left f n):w.objs.length<=120:=(cV.1 h.hF.ok).1
theorem Pre.left40 (h:Pre p w0 S w a left f n):left.length<=40:=by have:=h.hl.len;omega
theorem Pre.kids (h:Pre p w0 S w a left f n):(n.kids.length:Int)=fC n.op n.pats.length (oY p n):=by
 have hok:=h.hp.nodes _ (iK (fI h.hf));rw[h.hn]at hok;exact nV hok
theorem Pre.node (h:Pre p w0 S w a left f n):eL p n=true:=by
 have hok:=h.hp.nodes _ (iK (fI h.hf));rw[h.hn]at hok;exact hok
theorem Pre.val (h:Pre p w0 S w a left f n){i:Nat}(hi:i<f.vals.length):VOk p S w (aE f.vals i):=by
 refine h.hf.vals ?_
 simp only[aE,bO2,bP7 hi,bPp];exact bO6 hi
theorem bG5 (h:TS kt kr en cnt p w a left f n [] bv)(hop:n.op=1):qQ 266 kt kr en cnt p w a left f n (opR p w a left f n):=by
 have e:opR p w a left f n=iQ w left (mK n.n):=by unfold opR;rw[hop];rfl
 rw[e];have H:=h.pre;have ht:=h.t;have hL:=at_ Tryz.func266
 conv at hL=>rhs;reduce
 refine bD hL rfl rfl ?_
 simp only[go_sem,kK,ht,hop,(tD _).ret]
 refine(iO h (mK n.n)).mono ?_
 rintro r e1 c1 ⟨rfl,t1,k1⟩
 exact⟨rfl,t1,k1⟩
theorem bG6 (P0:Pre p w0 S w a left f n)(h:TS kt kr en cnt p w a left f n [] bv)(hop:n.op=7):qQ 270 kt kr en cnt p w a left f n (opR p w a left f n):=by
 have e:opR p w a left f n=kO w left (oJ n 1) (f.env++[aE f.vals 0]):=by unfold opR;rw[hop];rfl
 rw[e];have hfull:=P0.full;simp[aJ.asks,hop]at hfull;have hk:=P0.kids;simp[fC,hop]at hk;have hv0:0<f.vals.length:=by omega
 have h30:=P0.env30;have h40:=P0.left40;have H:=h.pre;have ht:=h.t;unfold kO
 by_cases hc:30<(f.env++[aE f.vals 0]).length
 ·rw[if_pos hc];simp only[bPg,bO7,bPe]at hc;have hW:PX L 330 [.fz (f.env.map aD.enc),.fz [.agg [.i (aE f.vals 0).kind,.i (aE f.vals 0).n]]] (aE3 4):=aIp f.env [aE f.vals 0] (by simpa using hc) (by simp only[bO7,bPe];omega)
  have hL:=at_ Tryz.func270
  conv at hL=>rhs;reduce
  refine cA hL rfl rfl ?_
  simp only[go_sem,kK]
  refine jW 14 rfl rfl ?_
  simp only[go_sem,bO5,bO3,ht,aQ hv0,hW.ret,bP9,bP8,qP,kA,kF];exact⟨rfl,h.fell0 (fun _ _=>rfl) (aN _)⟩
 ·rw[if_neg hc];simp only[bPg,bO7,bPe]at hc;have hW:PC L 330 [.fz (f.env.map aD.enc),.fz [.agg [.i (aE f.vals 0).kind,.i (aE f.vals 0).n]]] (.fz ((f.env++[aE f.vals 0]).map aD.enc)):=aE8 f.env [aE f.vals 0] (by simp only[bO7,bPe];omega)
  unfold qJ
  by_cases hc2:40<(left++[(⟨oJ n 1,f.env++[aE f.vals 0],[]⟩:aB)]).length
  ·rw[if_pos hc2];simp only[bPg,bO7,bPe]at hc2;have hL:=at_ Tryz.func270
   conv at hL=>rhs;reduce
   refine cA hL rfl rfl ?_
   simp only[go_sem,kK]
   refine jW 15 rfl rfl ?_
   simp only[go_sem,bO5,bO3,ht,aQ hv0,hW.ret,bP9,bP8,qP,kA,kF];exact⟨rfl,xN h (i:=1) (env:=f.env++[aE f.vals 0]) (by omega) (.inl rfl) (by omega)⟩
  ·rw[if_neg hc2];simp only[bPg,bO7,bPe]at hc2;have hL:=at_ Tryz.func270
   conv at hL=>rhs;reduce
   refine bD hL rfl rfl ?_
   simp only[go_sem,kK]
   refine iU ?_
   simp only[go_sem,ht,aQ hv0,hW.ret,kA,kF];exact xM h (i:=1) (env:=f.env++[aE f.vals 0]) (by omega) (.inl rfl) (by omega)
theorem bG7 (h:TS kt kr en cnt p w a left f n [] bv)(hop:n.op=2):qQ 266 kt kr en cnt p w a left f n (opR p w a left f n):=by
 have e:opR p w a left f n=iQ w left (mR (decide (n.n=1))):=by unfold opR;rw[hop];rfl
 rw[e];have H:=h.pre;have ht:=h.t;have hL:=at_ Tryz.func266
 conv at hL=>rhs;reduce
 refine bD hL rfl rfl ?_
 simp only[go_sem,kK,ht,hop,(aE4 _).ret];exact iO h _
theorem bG8 (h:TS kt kr en cnt p w a left f n [] bv)(hop:n.op=3):qQ 266 kt kr en cnt p w a left f n (opR p w a left f n):=by
 have e:opR p w a left f n=iQ w left bO:=by unfold opR;rw[hop];rfl
 rw[e];have H:=h.pre;have ht:=h.t;have hL:=at_ Tryz.func266
 conv at hL=>rhs;reduce
 refine bD hL rfl rfl ?_
 simp only[go_sem,kK,ht,hop,kC.ret];exact iO h _
theorem bG9 (P0:Pre p w0 S w a left f n)(h:TS kt kr en cnt p w a left f n [] bv)(hop:n.op=4):qQ 267 kt kr en cnt p w a left f n (opR p w a left f n):=by
 have e:opR p w a left f n=(if n.n<0 then iQ w left ⟨4,-1-n.n⟩else if(f.env.length:Int)<=n.n then .fail 2 else iQ w left (aE f.env n.n.toNat)):=by unfold opR;rw[hop];rfl
 rw[e];have H:=h.pre;have ht:=h.t
 by_cases h0:n.n<0
 ·rw[if_pos h0];have d0:decide (n.n<0)=true:=decide_eq_true h0;have hw:IntKind.i64.wrap (-1-n.n)= -1-n.n:=by
   have hok:=P0.node;have hnum:nW p n=true:=by simp only[eL,bOx]at hok;exact hok.1.1.1
   simp only[nW,hop]at hnum;simp[inR]at hnum;exact aW (by have hsl:=P0.hsp;simp only[aS,bOx,bSi]at hsl;omega)
  have hL:=at_ Tryz.func267
  conv at hL=>rhs;reduce
  refine bD hL rfl rfl ?_
  simp only[go_sem,kK,ht,d0,hw];exact iO h ⟨4,-1-n.n⟩
 ·rw[if_neg h0];have d0:decide (n.n<0)=false:=decide_eq_false h0
  by_cases h1:(f.env.length:Int)<=n.n
  ·rw[if_pos h1];have d1:decide (n.n<(f.env.length:Int))=false:=decide_eq_false (by omega)
   have hL:=at_ Tryz.func267
   conv at hL=>rhs;reduce
   refine cA hL rfl rfl ?_
   simp only[go_sem,kK,ht,d0]
   refine jW 12 rfl rfl ?_
   simp only[go_sem,bO5,bO3,ht,bOz,d1,(jZ _).ret,bP9,bP8,qP];exact⟨rfl,h.fell0 (fun _ _=>rfl) (aN _)⟩
  ·rw[if_neg h1];have d1:decide (n.n<(f.env.length:Int))=true:=decide_eq_true (by omega)
   have hi:inR n.n 0 ((f.env.length:Int)-1)=true:=by simp only[inR,bSi];omega
   have hL:=at_ Tryz.func267
   conv at hL=>rhs;reduce
   refine bD hL rfl rfl ?_
   simp only[go_sem,kK,ht,d0]
   refine iU ?_
   simp only[go_sem,ht,bOz,d1,(gY _).ret,aWk hi,kF];exact iO h _
theorem bDy (P0:Pre p w0 S w a left f n)(h:TS kt kr en cnt p w a left f n [] bv)(hop:n.op=26):qQ 287 kt kr en cnt p w a left f n (opR p w a left f n):=by
 have e:opR p w a left f n=iQ w left (aE f.vals 0):=by unfold opR;rw[hop];rfl
 rw[e];have hfull:=P0.full;simp[aJ.asks,hop]at hfull;have H:=h.pre;have ht:=h.t;have hL:=at_ Tryz.func287
 conv at hL=>rhs;reduce
 refine bD hL rfl rfl ?_
 simp only[go_sem,kK,ht,aQ (l:=f.vals) (by omega)]
 exact iO h _
theorem bDz (h:TS kt kr en cnt p w a left f n [] bv)(hop:n.op=28):qQ 289 kt kr en cnt p w a left f n (opR p w a left f n):=by
 have e:opR p w a left f n=jY w a left 28 0 bO bO:=by unfold opR;rw[hop];rfl
 rw[e];have H:=h.pre;have hL:=at_ Tryz.func289
 conv at hL=>rhs;reduce
 refine bD hL rfl rfl ?_
 simp only[go_sem,kK,kC.ret]
 refine(qK h bO bO).mono ?_
 rintro r e1 c1 ⟨rfl,t1,k1⟩
 refine⟨?_,t1,k1⟩
 rw[hop];rfl
theorem bHa (P0:Pre p w0 S w a left f n)(h:TS kt kr en cnt p w a left f n [] bv)(hop:n.op=5):qQ 268 kt kr en cnt p w a left f n (opR p w a left f n):=by
 have e:opR p w a left f n=iZ w ⟨2,f.node,f.env,[]⟩ fun w' v=>iQ w' left v:=by unfold opR;rw[hop];rfl
 rw[e];have h120:=P0.objs;have H:=h.pre;have ht:=h.t;unfold iZ
 by_cases hc:120<=w.objs.length
 ·rw[if_pos hc];have hL:=at_ Tryz.func268
  conv at hL=>rhs;reduce
  refine cA hL rfl rfl ?_
  simp only[go_sem,kK]
  refine jW 13 rfl rfl ?_
  simp only[go_sem,bO5,bO3,bP9,bP8,qP,ht];exact⟨rfl,pB h (o:=⟨2,f.node,f.env,[]⟩) hc (by omega)⟩
 ·rw[if_neg hc];have hL:=at_ Tryz.func268
  conv at hL=>rhs;reduce
  refine bD hL rfl rfl ?_
  simp only[go_sem,kK]
  refine iU ?_
  simp only[go_sem,ht]
  refine(rC h (o:=⟨2,f.node,f.env,[]⟩) (.inl rfl) (.inr rfl) (by omega)).mono ?_
  rintro v e1 c1 ⟨rfl,⟨bv1,t1⟩,k1⟩
  refine(iO t1 (dO w.objs.length)).mono ?_
  rintro v e2 c2 ⟨rfl,t2,k2⟩
  exact⟨rfl,t2,k1.trans k2⟩
theorem bD0 (P0:Pre p w0 S w a left f n)(h:TS kt kr en cnt p w a left f n [] bv)(hop:n.op=14):qQ 275 kt kr en cnt p w a left f n (opR p w a left f n):=by
 have e:opR p w a left f n=iZ w ⟨1,n.n,f.vals,[]⟩ fun w' v=>iQ w' left v:=by unfold opR;rw[hop];rfl
 rw[e];have h120:=P0.objs;have H:=h.pre;have ht:=h.t;unfold iZ
 by_cases hc:120<=w.objs.length
 ·rw[if_pos hc];have hL:=at_ Tryz.func275
  conv at hL=>rhs;reduce
  refine cA hL rfl rfl ?_
  simp only[go_sem,kK]
  refine jW 13 rfl rfl ?_
  simp only[go_sem,bO5,bO3,bP9,bP8,qP,ht];exact⟨rfl,pB h (o:=⟨1,n.n,f.vals,[]⟩) hc (by omega)⟩
 ·rw[if_neg hc];have hL:=at_ Tryz.func275
  conv at hL=>rhs;reduce
  refine bD hL rfl rfl ?_
  simp only[go_sem,kK]
  refine iU ?_
  simp only[go_sem,ht]
  refine(rC h (o:=⟨1,n.n,f.vals,[]⟩) (.inl rfl) (.inr rfl) (by omega)).mono ?_
  rintro v e1 c1 ⟨rfl,⟨bv1,t1⟩,k1⟩
  refine(iO t1 (dO w.objs.length)).mono ?_
  rintro v e2 c2 ⟨rfl,t2,k2⟩
  exact⟨rfl,t2,k1.trans k2⟩
theorem bHb (P0:Pre p w0 S w a left f n)(h:TS kt kr en cnt p w a left f n [] bv)(hop:n.op=8):qQ 271 kt kr en cnt p w a left f n (opR p w a left f n):=by
 have e:opR p w a left f n=(if¬(aE f.vals 0).kind=2 then .fail 2 else kO w left (oJ n (2-(aE f.vals 0).n)) f.env):=by unfold opR;rw[hop];rfl
 rw[e];have hfull:=P0.full;simp[aJ.asks,hop]at hfull;have hk:=P0.kids;simp[fC,hop]at hk;have hv0:0<f.vals.length:=by omega
 have h30:=P0.env30;have h40:=P0.left40;have H:=h.pre;have ht:=h.t
 by_cases h2:(aE f.vals 0).kind=2
 ·rw[if_neg (fun h=>h h2)]
  have d2:decide ((aE f.vals 0).kind=2)=true:=decide_eq_true h2;have hvk:=(P0.val hv0).ok;simp only[dJ,h2]at hvk;simp[inR]at hvk;obtain⟨j,hj⟩: ∃j:Nat,2-(aE f.vals 0).n=(j:Int):=⟨(2-(aE f.vals 0).n).toNat,by omega⟩
  have hw:IntKind.i64.wrap (2-(aE f.vals 0).n)=(j:Int):=by rw[hj];exact aW (by omega)
  have hkn:oJ n (2-(aE f.vals 0).n)=n.kids.getD j 0:=by rw[hj];rfl
  unfold kO;rw[if_neg (by omega),hkn]
  unfold qJ
  by_cases hc2:40<(left++[(⟨n.kids.getD j 0,f.env,[]⟩:aB)]).length
  ·rw[if_pos hc2];simp only[bPg,bO7,bPe]at hc2;have hL:=at_ Tryz.func271
   conv at hL=>rhs;reduce
   refine cA hL rfl rfl ?_
   simp only[go_sem,kK]
   refine bL ?_
   simp only[go_sem,ht,aQ hv0,d2,(gY _).ret]
   refine jW 15 rfl rfl ?_
   simp only[go_sem,bO5,bO3,bP9,bP8,qP,ht,aQ hv0,hw];exact⟨rfl,xN h (i:=j) (env:=f.env) (by omega) (.inl rfl) (by omega)⟩
  ·rw[if_neg hc2];simp only[bPg,bO7,bPe]at hc2;have hL:=at_ Tryz.func271
   conv at hL=>rhs;reduce
   refine bD hL rfl rfl ?_
   simp only[go_sem,kK]
   refine bL ?_
   simp only[go_sem,ht,aQ hv0,d2,(gY _).ret]
   refine iU ?_
   simp only[go_sem,ht,aQ hv0,hw];exact xM h (i:=j) (env:=f.env) (by omega) (.inl rfl) (by omega)
 ·rw[if_pos h2];have d2:decide ((aE f.vals 0).kind=2)=false:=decide_eq_false h2;have hL:=at_ Tryz.func271
  conv at hL=>rhs;reduce
  refine cA hL rfl rfl ?_
  simp only[go_sem,kK]
  refine cK 9 rfl ?_
  simp only[go_sem,bO5,bO3,ht,aQ hv0,d2,(jZ _).ret];exact h.fell0 (fun _ _=>rfl) (aN _)
theorem bD1 (P0:Pre p w0 S w a left f n)(h:TS kt kr en cnt p w a left f n [] bv)(hop:n.op=12):qQ 273 kt kr en cnt p w a left f n (opR p w a left f n):=by
 have e:opR p w a left f n=(if¬(aE f.vals 0).kind=1 \/ ¬(aE f.vals 1).kind=1 then .fail 2 else iQ w left (mR (decide ((aE f.vals 0).n<(aE f.vals 1).n)))):=by unfold opR;rw[hop];rfl
 rw[e];have hfull:=P0.full;simp[aJ.asks,hop]at hfull;have H:=h.pre
 by_cases h12: ¬(aE f.vals 0).kind=1 \/ ¬(aE f.vals 1).kind=1
 ·rw[if_pos h12];have hL:=at_ Tryz.func273
  conv at hL=>rhs;reduce
  refine cA hL rfl rfl ?_
  simp only[go_sem,kK]
  refine cK 1 rfl ?_
  simp only[go_sem,bO5,bO3];exact aSt h (by omega) h12
 ·rw[if_neg h12];have k1:(aE f.vals 0).kind=1:=Decidable.byContradiction fun hh=>h12 (.inl hh)
  have k2:(aE f.vals 1).kind=1:=Decidable.byContradiction fun hh=>h12 (.inr hh)
  have hL:=at_ Tryz.func273
  conv at hL=>rhs;reduce
  refine bD hL rfl rfl ?_
  simp only[go_sem,kK]
  refine bL ?_
  simp only[go_sem]
  refine(aSs h (by omega) k1 k2).mono ?_
  rintro v e1 c1 ⟨rfl,rfl,rfl⟩
  simp only[go_sem,(aE4 _).ret];exact iO h _
theorem aLi (P0:Pre p w0 S w a left f n)(h:TS kt kr en cnt p w a left f n [] bv)(hop:n.op=9 \/n.op=10 \/n.op=11):qQ 272 kt kr en cnt p w a left f n (opR p w a left f n):=by
 have e:opR p w a left f n=(if¬(aE f.vals 0).kind=1 \/ ¬(aE f.vals 1).kind=1 then .fail 2
  else if inR (qV n.op (aE f.vals 0).n (aE f.vals 1).n) (-1000000000) 1000000000=true then iQ w left (mK (qV n.op (aE f.vals 0).n (aE f.vals 1).n))else .fail 4):=by
  unfold opR;rcases hop with h|h|h<;>rw[h]<;>rfl
 rw[e];have hfull:f.vals.length=2:=by
  have:=P0.full;rcases hop with h|h|h<;>simp[aJ.asks,h]at this<;>omega
 have H:=h.pre;have ht:=h.t
 by_cases h12: ¬(aE f.vals 0).kind=1 \/ ¬(aE f.vals 1).kind=1
 ·rw[if_pos h12];have hL:=at_ Tryz.func272
  conv at hL=>rhs;reduce
  refine cA hL rfl rfl ?_
  simp only[go_sem,kK]
  refine cK 1 rfl ?_
  simp only[go_sem,bO5,bO3];exact aSt h (by omega) h12
 ·rw[if_neg h12];have k1:(aE f.vals 0).kind=1:=Decidable.byContradiction fun hh=>h12 (.inl hh)
  have k2:(aE f.vals 1).kind=1:=Decidable.byContradiction fun hh=>h12 (.inr hh)
  have v1:=(P0.val (show 0<f.vals.length by omega)).ok
  have v2:=(P0.val (show 1<f.vals.length by omega)).ok
  simp only[dJ,k1,k2]at v1 v2;simp[inR]at v1 v2;have hI:=aSs h (by omega) k1 k2
  generalize (aE f.vals 0).n=x at v1 hI⊢;generalize (aE f.vals 1).n=y at v2 hI⊢;have w1:IntKind.i64.wrap (x+y)=x+y:=aW (by omega)
  have w2:IntKind.i64.wrap (x-y)=x-y:=aW (by omega)
  have hm: -1000000000000000000<=x*y/\ x*y<=1000000000000000000:=by
   have:=Int.natAbs_mul x y;have a1:x.natAbs<=1000000000:=by omega
   have a2:y.natAbs<=1000000000:=by omega
   have:=Nat.mul_le_mul a1 a2;omega
  have w3:IntKind.i64.wrap (x*y)=x*y:=aW (by omega)
  by_cases hr2:inR (qV n.op x y) (-1000000000) 1000000000=true
  ·rw[if_pos hr2];have hL:=at_ Tryz.func272
   conv at hL=>rhs;reduce
   refine bD hL rfl rfl ?_
   simp only[go_sem,kK]
   refine bL ?_
   simp only[go_sem]
   refine hI.mono ?_
   rintro v e1 c1 ⟨rfl,rfl,rfl⟩
   rcases hop with ho|ho|ho
   ·rw[ho,show qV 9 x y=x+y from rfl]at hr2⊢
    simp only[go_sem,kK,ht,ho,w1]
    refine bL ?_
    simp only[go_sem,(fM _).ret,hr2,(gY _).ret,(tD _).ret];exact iO h (mK (x+y))
   ·rw[ho,show qV 10 x y=x-y from rfl]at hr2⊢
    simp only[go_sem,kK,ht,ho,w1,w2]
    refine bL ?_
    simp only[go_sem,(fM _).ret,hr2,(gY _).ret,(tD _).ret];exact iO h (mK (x-y))
   ·rw[ho,show qV 11 x y=x*y from rfl]at hr2⊢
    simp only[go_sem,kK,ht,ho,w1,w3]
    refine bL ?_
    simp only[go_sem,(fM _).ret,hr2,(gY _).ret,(tD _).ret];exact iO h (mK (x*y))
  ·rw[if_neg hr2];rw[bP6]at hr2;have hL:=at_ Tryz.func272
   conv at hL=>rhs;reduce
   refine cA hL rfl rfl ?_
   simp only[go_sem,kK]
   refine bL ?_
   simp only[go_sem]
   refine hI.mono ?_
   rintro v e1 c1 ⟨rfl,rfl,rfl⟩
   rcases hop with ho|ho|ho
   ·rw[ho,show qV 9 x y=x+y from rfl]at hr2
    simp only[go_sem,kK,ht,ho,w1]
    refine cK 2 rfl ?_
    simp only[go_sem,bO5,bO3,(fM _).ret,hr2,(jZ _).ret];exact h.fell0 (fun _ _=>rfl) (aN _)
   ·rw[ho,show qV 10 x y=x-y from rfl]at hr2
    simp only[go_sem,kK,ht,ho,w1,w2]
    refine cK 2 rfl ?_
    simp only[go_sem,bO5,bO3,(fM _).ret,hr2,(jZ _).ret];exact h.fell0 (fun _ _=>rfl) (aN _)
   ·rw[ho,show qV 11 x y=x*y from rfl]at hr2
    simp only[go_sem,kK,ht,ho,w1,w3]
    refine cK 2 rfl ?_
    simp only[go_sem,bO5,bO3,(fM _).ret,hr2,(jZ _).ret];exact h.fell0 (fun _ _=>rfl) (aN _)
theorem aCu {kids:List Int}{env:List aD}{l:List Pat}(hk:k<l.length):eP w left kids env u k (l.drop k)=(match gR w l[k] u with|some r=>kO w left (kids.getD (1+k) 0) (env++r)|none=>eP w left kids env u (k+1) (l.drop (k+1))):=by
 rw[bPy hk,eP];cases gR w l[k] u<;>rfl
theorem aCv {kids:List Int}{env:List aD}{u:aD}: ∀(l:List Pat) (i:Nat),eP w left kids env u i l≠ .wait
 |[],i=>by simp[eP]
 |q::l,i=>by
  rw[eP];split
  ·unfold kO qJ;split
   ·simp
   ·split<;>simp
  ·exact aCv l _
theorem bD2 (P0:Pre p w0 S w a left f n)(h:TS kt kr en cnt p w a left f n [] bv)(hop:n.op=15):qQ 276 kt kr en cnt p w a left f n (opR p w a left f n):=by
 have e:opR p w a left f n=eP w left n.kids f.env (aE f.vals 0) 0 n.pats:=by unfold opR;rw[hop];rfl
 rw[e];have hfull:=P0.full;simp[aJ.asks,hop]at hfull;have hv0:0<f.vals.length:=by omega
 have hu:=P0.val hv0;have hkd:=P0.kids;simp[fC,hop]at hkd;have hok:=P0.node;have hpf: ∀q∈n.pats,rM p.cons q=true/\ pD q<=1000:=fun q hq=>by
  simp only[eL,bOx,bO4]at hok;have:=hok.1.2 q hq;exact⟨by simp only[mQ,bOx]at this;exact this.2,aLf this⟩
 have hfew:n.kids.length<=1000:=by
  have hsp:=P0.hsp;have hsn:fU n=true:=by rw[<-P0.hn];simp only[aS,bOx,bO4]at hsp;exact hsp.2 _ (iK (fI P0.hf))
  simp only[fU,bOx,bSi]at hsn;omega
 have h30:=P0.env30;have h40:=P0.left40;have H:=h.pre;have ht:=h.t;cases hR0:eP w left n.kids f.env (aE f.vals 0) 0 n.pats with
 |wait=>exact absurd hR0 (aCv _ _)
 |fail s=>
  have hL:=at_ Tryz.func276
  conv at hL=>rhs;reduce
  refine cA hL rfl rfl ?_
  simp only[go_sem,kK,ht]
  refine bQ n.pats.length (fun k st=> ∃fr en2 cnt2,st=⟨fr,en2,cnt2⟩/\ fr 0= .ptr kt 0/\ fr 10= .fz (n.pats.map Pat.enc)/\ fr 11= .i n.pats.length/\ fr 12= .i k/\ (∃bv2,TS kt kr en2 cnt2 p w a left f n [] bv2)/\ dU kt kr en cnt en2 cnt2/\ eP w left n.kids f.env (aE f.vals 0) k (n.pats.drop k)=eP w left n.kids f.env (aE f.vals 0) 0 n.pats) 0 (bO8 _) ⟨_,_,_,rfl,by simp only[go_sem],by simp only[go_sem],by simp only[go_sem],by simp only[go_sem],⟨bv,h⟩,dU.refl _ _ _ _,by rw[bQ6]⟩ ?_
  rintro k st hk ⟨fr,en2,cnt2,rfl,k0,k10,k11,k12,⟨bv2,t2⟩,K2,hR⟩
  simp only[go_sem,kK,k11,k12]
  refine aH (fun hq2=>?_) (fun hq2=>?_)
  ·have h':k<n.pats.length:=of_decide_eq_true hq2;have ht2:=t2.t;have y1:=t2.okt.set;have y2:=t2.okr.set;rw[aCu h']at hR;simp only[go_sem,kK,k0,k10,k12,h',ht2,y1,aQ hv0];have hpk:=hpf _ (bO6 h');have u3: ∀t,cnt2 0 t<=aC (aC cnt2 0 4 (cnt2 0 4+1)) 0 5 (cnt2 0 5+1) 0 t:=(by(repeat refine upS ?_ (by omega));exact aN _)
   obtain⟨⟨bv3,t3⟩,k3⟩:=t2.stay (cnt':=aC (aC cnt2 0 4 (cnt2 0 4+1)) 0 5 (cnt2 0 5+1)) (en':=((en2.set ⟨0,4,cnt2 0 4⟩ (some (.box [.i 0,.i 0,.str ⟨#[]⟩,.cl []] false))).set ⟨0,4,cnt2 0 4⟩ (some (.box [.i n.pats[k].form,.i n.pats[k].n,.str n.pats[k].text,.fz (n.pats[k].parts.map Pat.enc)] false))).set ⟨0,5,cnt2 0 5⟩ (some (.box [.cl []] false))) (fun k hk=>by simp only[hk.set]) u3
   refine(aS6 P0.hF p.cons n.pats[k] hpk.1 hpk.2 (aE f.vals 0) hu (kl:=⟨0,5,cnt2 0 5⟩) (ko:=none) (xs:=[]) t3 ⟨⟨rfl,by simp[aC]⟩,.inl ⟨rfl,rfl,cH⟩⟩ (by have:=hpk.2;simp only[bPe];omega)).mono ?_
   rintro r e5 c5 ⟨rfl,F5⟩
   obtain⟨bv5,t5⟩:=F5.ts;have K5:dU kt kr en cnt e5 c5:=K2.trans ⟨fun x hx y1 y2=>by rw[F5.old x (hx.up u3) y1 y2 hx.ne (by simp),hx.set,hx.set,hx.set],fun t=>bPb (u3 t) (F5.up t)⟩
   cases hx:gR w n.pats[k] (aE f.vals 0)with
   |none=>
    rw[hx]at hR;simp only[go_sem,bQ3,k12,aT h' (show Few n.pats.length by unfold Few;omega)]
    refine⟨_,_,_,rfl,?_⟩
    simp only[go_sem,k0,k10,k11];exact⟨⟨bv5,t5⟩,K5,hR⟩
   |some l=>
    rw[hx]at hR
    simp only at hR
    rw[hR0]at hR;obtain⟨ko5,⟨_,hv5⟩,hk5⟩:=F5.acc l hx;rw[bP1]at hv5;have ht5:=t5.t;simp only[go_sem,kK,bQu];have hwk:IntKind.i64.wrap ((k:Int)+1)=((k+1:Nat):Int):=by rw[aW (by omega)];omega
    unfold kO at hR
    by_cases hc:30<(f.env++l).length
    ·rw[if_pos hc,OpR.fail.injEq]at hR;subst hR;have hll:=aB8 _ hx;have hW:=aIp f.env l (by simpa using hc) (by have:=hpk.2;omega)
     rcases hv5 with⟨_,z2,z3⟩|⟨t,g,b,_,z2,z3,z4⟩
     ·subst z2;simp at hc;omega
     ·refine jW 9 rfl rfl ?_
      simp only[go_sem,bO5,bO3,bP9,bP8,qP,k0,ht5,z4,z3,hW.ret,hwk,bOz,bQ6,bPi,bOy,bPs,kF];exact⟨rfl,oZ.then K5 (t5.fell0 (fun _ _=>rfl) (aN _))⟩
    ·rw[if_neg hc]at hR;simp only[bPg]at hc;unfold qJ at hR;have hW:=aE8 f.env l (by omega)
     by_cases hc2:40<(left++[(⟨n.kids.getD (1+k) 0,f.env++l,[]⟩:aB)]).length
     ·rw[if_pos hc2,OpR.fail.injEq]at hR;subst hR;simp only[bPg,bO7,bPe]at hc2;have hG:=xN t5 (i:=k+1) (env:=f.env++l) (by omega) (.inl rfl) (by omega)
      rcases hv5 with⟨_,z2,z3⟩|⟨t,g,b,z1,z2,z3,z4⟩
      ·subst z2;rw[bPx]at hW hG;simp only[bPf]at hW
       refine jW 10 rfl rfl ?_
       simp only[go_sem,bO5,bO3,bP9,bP8,qP,k0,ht5,z3,hW.ret,hwk,kF];exact⟨rfl,hG.mono fun _ _ _=>oZ.then K5⟩
      ·have hr5:=t5.r;have bt:(⟨0,t,g⟩:Key)≠kt:=by rintro rfl;rw[ht5]at z3;cases z3
       have br:(⟨0,t,g⟩:Key)≠kr:=by rintro rfl;rw[hr5]at z3;cases z3
       have t6:TS kt kr (e5.set ⟨0,t,g⟩ (some (.blk 2 (l.map aD.enc) true))) c5 p w a left f n [] bv5:=t5.to (aK bt.symm) (aK br.symm) (aN _);have K6:dU kt kr en cnt (e5.set ⟨0,t,g⟩ (some (.blk 2 (l.map aD.enc) true))) c5:=⟨fun x hxo y1 y2=>by
        have hne:x≠⟨0,t,g⟩:=by
         rintro rfl
         rcases hk5 with hk5|hk5
         ·rw[z1]at hk5;cases hk5
         ·exact hk5 _ z1 (hxo.up fun t=>bPb (K2.up t) (u3 t))
        rw[aK hne];exact K5.old x hxo y1 y2,K5.up⟩
       have hG:=xN t6 (i:=k+1) (env:=f.env++l) (by omega) (.inl rfl) (by omega)
       refine jW 10 rfl rfl ?_
       simp only[go_sem,bO5,bO3,bP9,bP8,qP,k0,ht5,z4,z3,hW.ret,hwk,bOz,bQ6,bPi,bOy,bPs,kF];exact⟨rfl,hG.mono fun _ _ _=>oZ.then K6⟩
     ·rw[if_neg hc2]at hR;cases hR
  ·have:k=n.pats.length:=by simp at hq2;omega
   subst this;rw[bQt,eP]at hR;rw[hR0,OpR.fail.injEq]at hR;subst hR;simp only[go_sem]
   refine cK 2 rfl ?_
   simp only[go_sem,bO5,bO3];exact⟨rfl,rfl,K2,t2.rb⟩
 |go ev w' left' back'=>
  have hL:=at_ Tryz.func276
  conv at hL=>rhs;reduce
  refine bD hL rfl rfl ?_
  simp only[go_sem,kK,ht]
  refine bQ n.pats.length (fun k st=> ∃fr en2 cnt2,st=⟨fr,en2,cnt2⟩/\ fr 0= .ptr kt 0/\ fr 10= .fz (n.pats.map Pat.enc)/\ fr 11= .i n.pats.length/\ fr 12= .i k/\ (∃bv2,TS kt kr en2 cnt2 p w a left f n [] bv2)/\ dU kt kr en cnt en2 cnt2/\ eP w left n.kids f.env (aE f.vals 0) k (n.pats.drop k)=eP w left n.kids f.env (aE f.vals 0) 0 n.pats) 0 (bO8 _) ⟨_,_,_,rfl,by simp only[go_sem],by simp only[go_sem],by simp only[go_sem],by simp only[go_sem],⟨bv,h⟩,dU.refl _ _ _ _,by rw[bQ6]⟩ ?_
  rintro k st hk ⟨fr,en2,cnt2,rfl,k0,k10,k11,k12,⟨bv2,t2⟩,K2,hR⟩
  simp only[go_sem,kK,k11,k12]
  refine aH (fun hq2=>?_) (fun hq2=>?_)
  ·have h':k<n.pats.length:=of_decide_eq_true hq2;have ht2:=t2.t;have y1:=t2.okt.set;have y2:=t2.okr.set;rw[aCu h']at hR;simp only[go_sem,kK,k0,k10,k12,h',ht2,y1,aQ hv0];have hpk:=hpf _ (bO6 h');have u3: ∀t,cnt2 0 t<=aC (aC cnt2 0 4 (cnt2 0 4+1)) 0 5 (cnt2 0 5+1) 0 t:=(by(repeat refine upS ?_ (by omega));exact aN _)
   obtain⟨⟨bv3,t3⟩,k3⟩:=t2.stay (cnt':=aC (aC cnt2 0 4 (cnt2 0 4+1)) 0 5 (cnt2 0 5+1)) (en':=((en2.set ⟨0,4,cnt2 0 4⟩ (some (.box [.i 0,.i 0,.str ⟨#[]⟩,.cl []] false))).set ⟨0,4,cnt2 0 4⟩ (some (.box [.i n.pats[k].form,.i n.pats[k].n,.str n.pats[k].text,.fz (n.pats[k].parts.map Pat.enc)] false))).set ⟨0,5,cnt2 0 5⟩ (some (.box [.cl []] false))) (fun k hk=>by simp only[hk.set]) u3
   refine(aS6 P0.hF p.cons n.pats[k] hpk.1 hpk.2 (aE f.vals 0) hu (kl:=⟨0,5,cnt2 0 5⟩) (ko:=none) (xs:=[]) t3 ⟨⟨rfl,by simp[aC]⟩,.inl ⟨rfl,rfl,cH⟩⟩ (by have:=hpk.2;simp only[bPe];omega)).mono ?_
   rintro r e5 c5 ⟨rfl,F5⟩
   obtain⟨bv5,t5⟩:=F5.ts;have K5:dU kt kr en cnt e5 c5:=K2.trans ⟨fun x hx y1 y2=>by rw[F5.old x (hx.up u3) y1 y2 hx.ne (by simp),hx.set,hx.set,hx.set],fun t=>bPb (u3 t) (F5.up t)⟩
   cases hx:gR w n.pats[k] (aE f.vals 0)with
   |none=>
    rw[hx]at hR;simp only[go_sem,bQ3,k12,aT h' (show Few n.pats.length by unfold Few;omega)]
    refine⟨_,_,_,rfl,?_⟩
    simp only[go_sem,k0,k10,k11];exact⟨⟨bv5,t5⟩,K5,hR⟩
   |some l=>
    rw[hx]at hR
    simp only at hR
    rw[hR0]at hR;obtain⟨ko5,⟨_,hv5⟩,hk5⟩:=F5.acc l hx;rw[bP1]at hv5;have ht5:=t5.t;simp only[go_sem,kK,bQu];have hwk:IntKind.i64.wrap ((k:Int)+1)=((k+1:Nat):Int):=by rw[aW (by omega)];omega
    unfold kO at hR
    by_cases hc:30<(f.env++l).length
    ·rw[if_pos hc]at hR;cases hR
    ·rw[if_neg hc]at hR;simp only[bPg]at hc;unfold qJ at hR;have hW:=aE8 f.env l (by omega)
     by_cases hc2:40<(left++[(⟨n.kids.getD (1+k) 0,f.env++l,[]⟩:aB)]).length
     ·rw[if_pos hc2]at hR;cases hR
     ·rw[if_neg hc2,OpR.go.injEq]at hR;obtain⟨rfl,rfl,rfl,rfl⟩:=hR;simp only[bPg,bO7,bPe]at hc2;have hG:=xM t5 (i:=k+1) (env:=f.env++l) (by omega) (.inl rfl) (by omega)
      rcases hv5 with⟨_,z2,z3⟩|⟨t,g,b,z1,z2,z3,z4⟩
      ·subst z2;rw[bPx]at hW hG;simp only[bPf]at hW
       refine iU ?_
       simp only[go_sem,k0,ht5,z3,hW.ret,hwk,kF]
       refine hG.mono ?_
       rintro v e7 c7 ⟨rfl,t7,k7⟩
       try simp only[go_sem,kK]
       exact⟨rfl,by rw[Nat.add_comm 1 k];exact t7,K5.trans k7⟩
      ·have hr5:=t5.r;have bt:(⟨0,t,g⟩:Key)≠kt:=by rintro rfl;rw[ht5]at z3;cases z3
       have br:(⟨0,t,g⟩:Key)≠kr:=by rintro rfl;rw[hr5]at z3;cases z3
       have t6:TS kt kr (e5.set ⟨0,t,g⟩ (some (.blk 2 (l.map aD.enc) true))) c5 p w a left f n [] bv5:=t5.to (aK bt.symm) (aK br.symm) (aN _);have K6:dU kt kr en cnt (e5.set ⟨0,t,g⟩ (some (.blk 2 (l.map aD.enc) true))) c5:=⟨fun x hxo y1 y2=>by
        have hne:x≠⟨0,t,g⟩:=by
         rintro rfl
         rcases hk5 with hk5|hk5
         ·rw[z1]at hk5;cases hk5
         ·exact hk5 _ z1 (hxo.up fun t=>bPb (K2.up t) (u3 t))
        rw[aK hne];exact K5.old x hxo y1 y2,K5.up⟩
       have hG:=xM t6 (i:=k+1) (env:=f.env++l) (by omega) (.inl rfl) (by omega)
       refine iU ?_
       simp only[go_sem,k0,ht5,z4,z3,hW.ret,hwk,bOz,bQ6,bPi,bOy,bPs,kF]
       refine hG.mono ?_
       rintro v e7 c7 ⟨rfl,t7,k7⟩
       try simp only[go_sem,kK]
       exact⟨rfl,by rw[Nat.add_comm 1 k];exact t7,K6.trans k7⟩
  ·have:k=n.pats.length:=by simp at hq2;omega
   subst this;rw[bQt,eP]at hR;rw[hR0]at hR;cases hR
theorem uW (xs:List Val)(h1:cY 3 xs=true)(hl:xs.length<=16777216):PC L 226 [.fz xs] (sH 3 xs):=by
 cases xs with
 |nil=>
  have hL:=at_ Tryz.func226
  conv at hL=>rhs;reduce
  refine aJv hL rfl rfl (.inl rfl) (pY ?_) (pY ?_)
  ·simp only[go_sem,kK,wL];rfl
  ·simp only[go_sem,kK,wL]
   refine rR (b:=false) (by simp only[go_sem]) (by simp only[go_sem]) ?_
   simp only[go_sem];rfl
 |cons x xs=>
  have hL:=at_ Tryz.func226
  conv at hL=>rhs;reduce
  refine aG hL rfl rfl ?_
  simp only[go_sem,kK,aEz]
  refine qH (by simp only[go_sem]) (by simp only[go_sem]) h1 hl ?_
  simp only[go_sem];rfl
theorem aDl (h:TS kt kr en cnt p w a left f n back bv){o:aR}{V:Val}{t:Nat}{b:Bool}(hb:en ⟨0,t,g⟩=some (.blk 3 (o.frames.map aB.enc) b))(hg:g<cnt 0 t)(hV:iG V (o.vals.map aD.enc))(hc:w.objs.length<120):
  WIn L (.fn 327 [] []) [.ptr kt 0,.agg [.i o.form,.i o.n,V,.bl ⟨0,t,g⟩ 0 o.frames.length]] en cnt fun r en' cnt'=>r= .agg [.i (dO w.objs.length).kind,.i (dO w.objs.length).n]/\ (∃bv',TS kt kr en' cnt' p (eF w o) a left f n back bv')/\
   (∀k,Old k cnt->k≠kt->k≠kr->k≠⟨0,t,g⟩->en' k=en k)/\ ∀t,cnt 0 t<=cnt' 0 t:=by
 have s1:=h.okt.set;have s2:=h.okr.set;have n1:=h.okt.new;have n2:=h.okr.new;have hn:=h.ne;have ht:=h.t;have hr:=h.r;have m1:=h.okt.eqF;have m2:=h.okr.eqF;have o1:=h.okt.eqF';have o2:=h.okr.eqF';have x1: ∀(en:En) (e:Option Ent),En.set en kt e kr=en kr:=fun _ _=>aK hn;have x2: ∀(en:En) (e:Option Ent),En.set en kr e kt=en kt:=fun _ _=>aK hn.symm
 have d:decide ((w.objs.length:Int)<120)=true:=decide_eq_true (by omega)
 have hl:w.objs.length+1<=16777216:=by omega
 have hw:IntKind.i64.wrap (((w.objs.length+1:Nat):Int)-1)=(w.objs.length:Int):=by rw[aW (by omega)];omega
 have hA:w.objs.map aR.enc++[.agg [.i o.form,.i o.n,.fz (o.vals.map aD.enc),.fz (o.frames.map aB.enc)]]=(eF w o).objs.map aR.enc:=by simp[eF,aR.enc]
 have hAl:w.objs.length+1=((eF w o).objs.map aR.enc).length:=by simp[eF]
 have hT:List.take o.frames.length (o.frames.map aB.enc)=o.frames.map aB.enc:=by rw[bPi (by simp)]
 have hob:Old ⟨0,t,g⟩ cnt:=⟨rfl,hg⟩;have b1:=hob.set;have b0:=hob.new;have bF:=hob.eqF;have bF':=hob.eqF';have q1:(⟨0,t,g⟩:Key)≠kr:=by rintro rfl;rw[hr]at hb;cases hb
 have q2:(⟨0,t,g⟩:Key)≠kt:=by rintro rfl;rw[ht]at hb;cases hb
 have b2: ∀(en:En) (e:Option Ent),En.set en kr e ⟨0,t,g⟩=en ⟨0,t,g⟩:=fun _ _=>aK q1
 have b4: ∀(en:En) (e:Option Ent),En.set en ⟨0,t,g⟩ e kr=en kr:=fun _ _=>aK q1.symm
 have b5: ∀(en:En) (e:Option Ent),En.set en ⟨0,t,g⟩ e kt=en kt:=fun _ _=>aK q2.symm
 have hL:=at_ Tryz.func327
 conv at hL=>rhs;reduce
 refine rH hL rfl rfl ?_
 simp only[go_sem,kK]
 refine bL ?_
 simp only[go_sem,ht,hr,s1,s2,bOz,d,(gY _).ret]
 refine aI ?_
 rcases hV with rfl|rfl<;>
 (simp only[go_sem,ht,hr,s1,s2,n2,m1,x2,kB,b0,b1,b4,b5,hb,bOz,(aHq _).ret,bT,eG,uP,yT,aWd,hl,rT,hw,hA,bOy,W.apply,Ent.freeze,hT,kA,kF]
  have hu: ∀t,cnt 0 t<=aC (aC (aC cnt 0 3 (cnt 0 3+1)) 0 4 (cnt 0 4+1)) 0 31 (cnt 0 31+1) 0 t:=(by(repeat refine upS ?_ (by omega));exact aN _)
  rw[aU7 (K1:=[⟨0,31,cnt 0 31⟩]) (K2:=[]) (K3:=[]) (K4:=[]) (os:=(eF w o).objs.map aR.enc) (by simp only[s1,b5,x2];exact ht) (by simp only[s2,cH];rfl) (sS (by simp only[go_sem,n2];rfl) hAl) rfl rfl rfl (by simp[o2])]
  refine⟨rfl,⟨bv,h.okt.up hu,h.okr.up hu,hn,h.ob,?_,cH⟩,fun k hk k1 k2 k3=>?_,hu⟩
  ·rw[x2,vV h.okt (aB3 31)];simp only[s1,b5,x2];exact ht
  ·rw[aK k2,vV hk (aB3 31),hk.set,aK k2,hk.set,aK k3,hk.set,hk.set])
theorem wO (hk:k<=xs.length):jV false size en (.fz xs) none (some (.i (k:Int))) none=some {v:= .fz (xs.take k)}:=by
 simp[jV,tA hk,uA]
theorem aP1 (h1:cY size xs=true)(hk:k<=xs.length):jV false size en (.fz xs) (some (.i (k:Int))) none none=some {v:= .fz (xs.drop k)}:=by
 simp[jV,tA hk,uA,h1]
theorem aLj : ∀{j k:Nat},fZ p left j=k+1->k<j/\ (p.node (left.getD k default).node).op=26
 |0,k,h=>by cases h
 |j+1,k,h=>by
  rw[pE]at h
  split at h
  ·rename_i h2
   obtain rfl:j=k:=by omega
   exact⟨by omega,h2⟩
  ·have:=aLj h;exact⟨by omega,this.2⟩
noncomputable def aMh :{c//L 288=some c}:=by
 have hL:=at_ Tryz.func288
 conv at hL=>rhs;reduce
 exact⟨_,hL⟩
theorem bD3 (P0:Pre p w0 S w a left f n)(h:TS kt kr en cnt p w a left f n [] bv)(hop:n.op=27):qQ 288 kt kr en cnt p w a left f n (opR p w a left f n):=by
 have e:opR p w a left f n=(match fZ p left left.length with
  |0=> .fail 3
  |k+1=>iZ w ⟨5,0,[],left.drop k⟩ fun w' v=>kO w' (left.take (k+1)) (oJ n 0) (f.env++[v])):=by unfold opR;rw[hop];rfl
 rw[e];have hk:=P0.kids;simp[fC,hop]at hk;have h30:=P0.env30;have h40:=P0.left40;have h120:=P0.objs;have H:=h.pre;have ht:=h.t;have hr:=h.r;have hwl:IntKind.i64.wrap ((left.length:Int)-1)=(left.length:Int)-1:=aW (by omega)
 cases hR:fZ p left left.length with
 |zero=>
  simp only
  refine cA aMh.2 rfl rfl ?_
  simp only[go_sem,kK,aMh,ht,bOz,hwl]
  refine Go.Abs.wp_loop (fun(k:Nat) st=> ∃fr,st=⟨fr,en,cnt⟩/\ fr 0= .ptr kt 0/\ fr 3= .i ((k:Int)-1)/\ k<=left.length/\ fZ p left k=fZ p left left.length) (fun k=>k) left.length ⟨_,rfl,by simp only[go_sem],by simp only[go_sem],bOy _,rfl⟩ ?_
  rintro k st ⟨fr,rfl,k0,k3,hkl,hRk⟩
  rw[hR]at hRk;cases k with
  |zero=>
   have k3':fr 3= .i (-1):=by simpa using k3
   simp only[go_sem,kK,k3']
   refine cK 2 rfl ?_
   simp only[go_sem,bO5,bO3,k3',(jZ _).ret];exact h.fell0 (fun _ _=>rfl) (aN _)
  |succ k=>
   have k3':fr 3= .i (k:Int):=by rw[k3];congr 1;omega
   have h':k<left.length:=by omega
   have d0:decide ((0:Int)<=(k:Int))=true:=decide_eq_true (by omega)
   have hfk:=P0.hl.ok _ (bO6 h');have hgd:left.getD k default=left[k]:=by simp[bO2,h']
   have hwk:IntKind.i64.wrap ((k:Int)-1)=(k:Int)-1:=aW (by omega)
   rw[pE,hgd]at hRk
   split at hRk
   ·cases hRk
   rename_i h26;have d26:decide ((p.node left[k].node).op=26)=false:=decide_eq_false h26;simp only[go_sem,kK,k0,k3',ht,hr,h',d0,bK (fI hfk),d26,hwk];exact⟨k,⟨_,rfl,by simp only[go_sem,k0],by simp only[go_sem],by omega,by rw[hR];exact hRk⟩,by omega⟩
 |succ k=>
  simp only
  obtain⟨hk1,hk2⟩:=aLj hR;have hne:(left.drop k).map aB.enc≠[]:=by
   intro he;have h0:=congrArg List.length he
   simp at h0
   omega
  have hC:=uW ((left.drop k).map aB.enc) (jA _) (by simp;omega)
  rw[pK hne,bRs]at hC;have hsl:=fun en=>aP1 (size:=3) (xs:=left.map aB.enc) (en:=en) (k:=k) (jA _) (by rw[bOz];omega)
  have hsh:=fun en=>wO (size:=3) (xs:=left.map aB.enc) (en:=en) (k:=k+1) (by rw[bOz];omega)
  have hl5:(List.drop k (left.map aB.enc)).length=(left.drop k).length:=by simp
  have hwk1:IntKind.i64.wrap ((k:Int)+1)=((k+1:Nat):Int):=by rw[aW (by omega)];omega
  obtain⟨⟨bv1,h1⟩,kk1⟩:=h.stay (cnt':=aC cnt 0 47 (cnt 0 47+1)) (en':=en.set ⟨0,47,cnt 0 47⟩ (some (.blk 3 (List.drop k (left.map aB.enc)) false))) (fun k hk=>by simp only[hk.set]) (by(repeat refine upS ?_ (by omega));exact aN _)
  unfold iZ
  by_cases h20:120<=w.objs.length
  ·rw[if_pos h20]
   refine cA aMh.2 rfl rfl ?_
   simp only[go_sem,kK,aMh,ht,bOz,hwl]
   refine Go.Abs.wp_loop (fun(k:Nat) st=> ∃fr,st=⟨fr,en,cnt⟩/\ fr 0= .ptr kt 0/\ fr 3= .i ((k:Int)-1)/\ k<=left.length/\ fZ p left k=fZ p left left.length) (fun k=>k) left.length ⟨_,rfl,by simp only[go_sem],by simp only[go_sem],bOy _,rfl⟩ ?_
   rintro j st ⟨fr,rfl,k0,k3,hjl,hRj⟩
   cases j with
   |zero=>rw[hR]at hRj;cases hRj
   |succ j=>
    have k3':fr 3= .i (j:Int):=by rw[k3];congr 1;omega
    have h':j<left.length:=by omega
    have d0:decide ((0:Int)<=(j:Int))=true:=decide_eq_true (by omega)
    have hfk:=P0.hl.ok _ (bO6 h');have hgd:left.getD j default=left[j]:=by simp[bO2,h']
    have hwk:IntKind.i64.wrap ((j:Int)-1)=(j:Int)-1:=aW (by omega)
    rw[pE,hgd]at hRj
    by_cases h26:(p.node left[j].node).op=26
    ·rw[if_pos h26,hR]at hRj
     obtain rfl:j=k:=by omega
     have d26:decide ((p.node left[j].node).op=26)=true:=decide_eq_true h26;simp only[go_sem,kK,k0,k3',ht,hr,h',d0,bK (fI hfk),d26]
     refine bL ?_
     simp only[go_sem,k3',d0,(gY _).ret]
     refine cK 9 rfl ?_
     simp only[go_sem,bO5,bO3,kB,k0,k3',ht,hsl,hC.ret,hl5,bPp];exact(pB h1 (o:=⟨5,0,[],left.drop j⟩) (by omega) (by omega)).mono fun _ _ _=>oZ.then kk1
    ·rw[if_neg h26]at hRj;have d26:decide ((p.node left[j].node).op=26)=false:=decide_eq_false h26;simp only[go_sem,kK,k0,k3',ht,hr,h',d0,bK (fI hfk),d26,hwk];exact⟨j,⟨_,rfl,by simp only[go_sem,k0],by simp only[go_sem],by omega,hRj⟩,by omega⟩
  ·rw[if_neg h20];unfold kO;show qQ _ _ _ _ _ _ _ _ _ _ _ (if 30<(f.env++[dO w.objs.length]).length then OpR.fail 4 else qJ (eF w ⟨5,0,[],left.drop k⟩) (left.take (k+1)) [⟨oJ n 0,f.env++[dO w.objs.length],[]⟩])
   by_cases hc:30<(f.env++[dO w.objs.length]).length
   ·rw[if_pos hc];simp only[bPg,bO7,bPe]at hc;have hW:PX L 330 [.fz (f.env.map aD.enc),.fz [.agg [.i (dO w.objs.length).kind,.i (dO w.objs.length).n]]] (aE3 4):=aIp f.env [dO w.objs.length] (by simpa using hc) (by simp only[bO7,bPe];omega)
    refine cA aMh.2 rfl rfl ?_
    simp only[go_sem,kK,aMh,ht,bOz,hwl]
    refine Go.Abs.wp_loop (fun(k:Nat) st=> ∃fr,st=⟨fr,en,cnt⟩/\ fr 0= .ptr kt 0/\ fr 3= .i ((k:Int)-1)/\ k<=left.length/\ fZ p left k=fZ p left left.length) (fun k=>k) left.length ⟨_,rfl,by simp only[go_sem],by simp only[go_sem],bOy _,rfl⟩ ?_
    rintro j st ⟨fr,rfl,k0,k3,hjl,hRj⟩
    cases j with
    |zero=>rw[hR]at hRj;cases hRj
    |succ j=>
     have k3':fr 3= .i (j:Int):=by rw[k3];congr 1;omega
     have h':j<left.length:=by omega
     have d0:decide ((0:Int)<=(j:Int))=true:=decide_eq_true (by omega)
     have hfk:=P0.hl.ok _ (bO6 h');have hgd:left.getD j default=left[j]:=by simp[bO2,h']
     have hwk:IntKind.i64.wrap ((j:Int)-1)=(j:Int)-1:=aW (by omega)
     rw[pE,hgd]at hRj
     by_cases h26:(p.node left[j].node).op=26
     ·rw[if_pos h26,hR]at hRj
      obtain rfl:j=k:=by omega
      have d26:decide ((p.node left[j].node).op=26)=true:=decide_eq_true h26;simp only[go_sem,kK,k0,k3',ht,hr,h',d0,bK (fI hfk),d26]
      refine bL ?_
      simp only[go_sem,k3',d0,(gY _).ret]
      refine bL ?_
      simp only[go_sem,kB,k0,k3',ht,hsl,hC.ret,hl5,bPp]
      refine(aDl h1 (o:=⟨5,0,[],left.drop j⟩) (t:=47) (g:=cnt 0 47) (b:=false) (by rw[cH,bRs]) (by simp[aC]) (.inr rfl) (by omega)).mono ?_
      rintro v e2 c2 ⟨rfl,⟨bv2,t2⟩,old2,up2⟩
      have ht2:=t2.t;have hr2:=t2.r;have y1:=t2.okt.set;have y2:=t2.okr.set;have y3:=t2.okt.eqF;have y4:=t2.okt.eqF';have y7:=t2.okt.new;simp only[go_sem,k0];simp only[go_sem,k3',ht2,y1,hwk1,hsh];have t3:TS kt kr (((e2.set ⟨0,4,c2 0 4⟩ (some (.box [.i 0,.i 0] false))).set ⟨0,4,c2 0 4⟩ (some (.box [.i (dO w.objs.length).kind,.i (dO w.objs.length).n] false))).set kt (some (.box [.ptr kr 0,.i a,.fz ((left.map aB.enc).take (j+1)),.i f.node,.fz (f.env.map aD.enc),.fz (f.vals.map aD.enc),.i n.op,.i n.n,.is n.kids,.fz (n.pats.map Pat.enc),bv2] false))) (aC c2 0 4 (c2 0 4+1)) p (eF w ⟨5,0,[],left.drop j⟩) a (left.take (j+1)) f n [] bv2:=
       ⟨t2.okt.up (by(repeat refine upS ?_ (by omega));exact aN _),t2.okr.up (by(repeat refine upS ?_ (by omega));exact aN _),t2.ne,t2.ob,by rw[cH,bQs],by rw[aK t2.ne,y2,y2];exact hr2⟩
      have hu3: ∀t,cnt 0 t<=c2 0 t:=fun t=>bPb (((by(repeat refine upS ?_ (by omega));exact aN _): ∀t,cnt 0 t<=aC cnt 0 47 (cnt 0 47+1) 0 t) t) (up2 t)
      have k3:dU kt kr en cnt (((e2.set ⟨0,4,c2 0 4⟩ (some (.box [.i 0,.i 0] false))).set ⟨0,4,c2 0 4⟩ (some (.box [.i (dO w.objs.length).kind,.i (dO w.objs.length).n] false))).set kt (some (.box [.ptr kr 0,.i a,.fz ((left.map aB.enc).take (j+1)),.i f.node,.fz (f.env.map aD.enc),.fz (f.vals.map aD.enc),.i n.op,.i n.n,.is n.kids,.fz (n.pats.map Pat.enc),bv2] false))) (aC c2 0 4 (c2 0 4+1)):=
       ⟨fun k hk q1 q2=>by rw[aK q1,(hk.up hu3).set,(hk.up hu3).set,old2 k (hk.up (by(repeat refine upS ?_ (by omega));exact aN _)) q1 q2 hk.ne,hk.set],fun t=>bPb (hu3 t) (((by(repeat refine upS ?_ (by omega));exact aN _): ∀t,c2 0 t<=aC c2 0 4 (c2 0 4+1) 0 t) t)⟩
      refine jW 8 rfl rfl ?_
      simp only[go_sem,bO5,bO3,bP9,bP8,qP,k0,y7,hW.ret,kA,kF];exact⟨rfl,oZ.then k3 (t3.fell0 (fun _ _=>rfl) (aN _))⟩
     ·rw[if_neg h26]at hRj;have d26:decide ((p.node left[j].node).op=26)=false:=decide_eq_false h26;simp only[go_sem,kK,k0,k3',ht,hr,h',d0,bK (fI hfk),d26,hwk];exact⟨j,⟨_,rfl,by simp only[go_sem,k0],by simp only[go_sem],by omega,hRj⟩,by omega⟩
   ·rw[if_neg hc];simp only[bPg,bO7,bPe]at hc;have hW:PC L 330 [.fz (f.env.map aD.enc),.fz [.agg [.i (dO w.objs.length).kind,.i (dO w.objs.length).n]]] (.fz ((f.env++[dO w.objs.length]).map aD.enc)):=aE8 f.env [dO w.objs.length] (by simp only[bO7,bPe];omega)
    unfold qJ
    by_cases hc2:40<(left.take (k+1)++[(⟨oJ n 0,f.env++[dO w.objs.length],[]⟩:aB)]).length
    ·rw[if_pos hc2];simp only[bPg,bO7,bPe,bQe]at hc2
     refine cA aMh.2 rfl rfl ?_
     simp only[go_sem,kK,aMh,ht,bOz,hwl]
     refine Go.Abs.wp_loop (fun(k:Nat) st=> ∃fr,st=⟨fr,en,cnt⟩/\ fr 0= .ptr kt 0/\ fr 3= .i ((k:Int)-1)/\ k<=left.length/\ fZ p left k=fZ p left left.length) (fun k=>k) left.length ⟨_,rfl,by simp only[go_sem],by simp only[go_sem],bOy _,rfl⟩ ?_
     rintro j st ⟨fr,rfl,k0,k3,hjl,hRj⟩
     cases j with
     |zero=>rw[hR]at hRj;cases hRj
     |succ j=>
      have k3':fr 3= .i (j:Int):=by rw[k3];congr 1;omega
      have h':j<left.length:=by omega
      have d0:decide ((0:Int)<=(j:Int))=true:=decide_eq_true (by omega)
      have hfk:=P0.hl.ok _ (bO6 h');have hgd:left.getD j default=left[j]:=by simp[bO2,h']
      have hwk:IntKind.i64.wrap ((j:Int)-1)=(j:Int)-1:=aW (by omega)
      rw[pE,hgd]at hRj
      by_cases h26:(p.node left[j].node).op=26
      ·rw[if_pos h26,hR]at hRj
       obtain rfl:j=k:=by omega
       have d26:decide ((p.node left[j].node).op=26)=true:=decide_eq_true h26;simp only[go_sem,kK,k0,k3',ht,hr,h',d0,bK (fI hfk),d26]
       refine bL ?_
       simp only[go_sem,k3',d0,(gY _).ret]
       refine bL ?_
       simp only[go_sem,kB,k0,k3',ht,hsl,hC.ret,hl5,bPp]
       refine(aDl h1 (o:=⟨5,0,[],left.drop j⟩) (t:=47) (g:=cnt 0 47) (b:=false) (by rw[cH,bRs]) (by simp[aC]) (.inr rfl) (by omega)).mono ?_
       rintro v e2 c2 ⟨rfl,⟨bv2,t2⟩,old2,up2⟩
       have ht2:=t2.t;have hr2:=t2.r;have y1:=t2.okt.set;have y2:=t2.okr.set;have y3:=t2.okt.eqF;have y4:=t2.okt.eqF';have y7:=t2.okt.new;simp only[go_sem,k0];simp only[go_sem,k3',ht2,y1,hwk1,hsh];have t3:TS kt kr (((e2.set ⟨0,4,c2 0 4⟩ (some (.box [.i 0,.i 0] false))).set ⟨0,4,c2 0 4⟩ (some (.box [.i (dO w.objs.length).kind,.i (dO w.objs.length).n] false))).set kt (some (.box [.ptr kr 0,.i a,.fz ((left.map aB.enc).take (j+1)),.i f.node,.fz (f.env.map aD.enc),.fz (f.vals.map aD.enc),.i n.op,.i n.n,.is n.kids,.fz (n.pats.map Pat.enc),bv2] false))) (aC c2 0 4 (c2 0 4+1)) p (eF w ⟨5,0,[],left.drop j⟩) a (left.take (j+1)) f n [] bv2:=
        ⟨t2.okt.up (by(repeat refine upS ?_ (by omega));exact aN _),t2.okr.up (by(repeat refine upS ?_ (by omega));exact aN _),t2.ne,t2.ob,by rw[cH,bQs],by rw[aK t2.ne,y2,y2];exact hr2⟩
       have hu3: ∀t,cnt 0 t<=c2 0 t:=fun t=>bPb (((by(repeat refine upS ?_ (by omega));exact aN _): ∀t,cnt 0 t<=aC cnt 0 47 (cnt 0 47+1) 0 t) t) (up2 t)
       have k3:dU kt kr en cnt (((e2.set ⟨0,4,c2 0 4⟩ (some (.box [.i 0,.i 0] false))).set ⟨0,4,c2 0 4⟩ (some (.box [.i (dO w.objs.length).kind,.i (dO w.objs.length).n] false))).set kt (some (.box [.ptr kr 0,.i a,.fz ((left.map aB.enc).take (j+1)),.i f.node,.fz (f.env.map aD.enc),.fz (f.vals.map aD.enc),.i n.op,.i n.n,.is n.kids,.fz (n.pats.map Pat.enc),bv2] false))) (aC c2 0 4 (c2 0 4+1)):=
        ⟨fun k hk q1 q2=>by rw[aK q1,(hk.up hu3).set,(hk.up hu3).set,old2 k (hk.up (by(repeat refine upS ?_ (by omega));exact aN _)) q1 q2 hk.ne,hk.set],fun t=>bPb (hu3 t) (((by(repeat refine upS ?_ (by omega));exact aN _): ∀t,c2 0 t<=aC c2 0 4 (c2 0 4+1) 0 t) t)⟩
       refine jW 9 rfl rfl ?_
       simp only[go_sem,bO5,bO3,bP9,bP8,qP,k0,y7,hW.ret,kA,kF];exact⟨rfl,(xN t3 (i:=0) (env:=f.env++[dO w.objs.length]) (by omega) (.inl rfl) (by rw[bQe];omega)).mono fun _ _ _=>oZ.then k3⟩
      ·rw[if_neg h26]at hRj;have d26:decide ((p.node left[j].node).op=26)=false:=decide_eq_false h26;simp only[go_sem,kK,k0,k3',ht,hr,h',d0,bK (fI hfk),d26,hwk];exact⟨j,⟨_,rfl,by simp only[go_sem,k0],by simp only[go_sem],by omega,hRj⟩,by omega⟩
    ·rw[if_neg hc2];simp only[bPg,bO7,bPe,bQe]at hc2
     refine bD aMh.2 rfl rfl ?_
     simp only[go_sem,kK,aMh,ht,bOz,hwl]
     refine Go.Abs.wp_loop (fun(k:Nat) st=> ∃fr,st=⟨fr,en,cnt⟩/\ fr 0= .ptr kt 0/\ fr 3= .i ((k:Int)-1)/\ k<=left.length/\ fZ p left k=fZ p left left.length) (fun k=>k) left.length ⟨_,rfl,by simp only[go_sem],by simp only[go_sem],bOy _,rfl⟩ ?_
     rintro j st ⟨fr,rfl,k0,k3,hjl,hRj⟩
     cases j with
     |zero=>rw[hR]at hRj;cases hRj
     |succ j=>
      have k3':fr 3= .i (j:Int):=by rw[k3];congr 1;omega
      have h':j<left.length:=by omega
      have d0:decide ((0:Int)<=(j:Int))=true:=decide_eq_true (by omega)
      have hfk:=P0.hl.ok _ (bO6 h');have hgd:left.getD j default=left[j]:=by simp[bO2,h']
      have hwk:IntKind.i64.wrap ((j:Int)-1)=(j:Int)-1:=aW (by omega)
      rw[pE,hgd]at hRj
      by_cases h26:(p.node left[j].node).op=26
      ·rw[if_pos h26,hR]at hRj
       obtain rfl:j=k:=by omega
       have d26:decide ((p.node left[j].node).op=26)=true:=decide_eq_true h26;simp only[go_sem,kK,k0,k3',ht,hr,h',d0,bK (fI hfk),d26]
       refine bL ?_
       simp only[go_sem,k3',d0,(gY _).ret]
       refine bL ?_
       simp only[go_sem,kB,k0,k3',ht,hsl,hC.ret,hl5,bPp]
       refine(aDl h1 (o:=⟨5,0,[],left.drop j⟩) (t:=47) (g:=cnt 0 47) (b:=false) (by rw[cH,bRs]) (by simp[aC]) (.inr rfl) (by omega)).mono ?_
       rintro v e2 c2 ⟨rfl,⟨bv2,t2⟩,old2,up2⟩
       have ht2:=t2.t;have hr2:=t2.r;have y1:=t2.okt.set;have y2:=t2.okr.set;have y3:=t2.okt.eqF;have y4:=t2.okt.eqF';have y7:=t2.okt.new;simp only[go_sem,k0];simp only[go_sem,k3',ht2,y1,hwk1,hsh];have t3:TS kt kr (((e2.set ⟨0,4,c2 0 4⟩ (some (.box [.i 0,.i 0] false))).set ⟨0,4,c2 0 4⟩ (some (.box [.i (dO w.objs.length).kind,.i (dO w.objs.length).n] false))).set kt (some (.box [.ptr kr 0,.i a,.fz ((left.map aB.enc).take (j+1)),.i f.node,.fz (f.env.map aD.enc),.fz (f.vals.map aD.enc),.i n.op,.i n.n,.is n.kids,.fz (n.pats.map Pat.enc),bv2] false))) (aC c2 0 4 (c2 0 4+1)) p (eF w ⟨5,0,[],left.drop j⟩) a (left.take (j+1)) f n [] bv2:=
        ⟨t2.okt.up (by(repeat refine upS ?_ (by omega));exact aN _),t2.okr.up (by(repeat refine upS ?_ (by omega));exact aN _),t2.ne,t2.ob,by rw[cH,bQs],by rw[aK t2.ne,y2,y2];exact hr2⟩
       have hu3: ∀t,cnt 0 t<=c2 0 t:=fun t=>bPb (((by(repeat refine upS ?_ (by omega));exact aN _): ∀t,cnt 0 t<=aC cnt 0 47 (cnt 0 47+1) 0 t) t) (up2 t)
       have k3:dU kt kr en cnt (((e2.set ⟨0,4,c2 0 4⟩ (some (.box [.i 0,.i 0] false))).set ⟨0,4,c2 0 4⟩ (some (.box [.i (dO w.objs.length).kind,.i (dO w.objs.length).n] false))).set kt (some (.box [.ptr kr 0,.i a,.fz ((left.map aB.enc).take (j+1)),.i f.node,.fz (f.env.map aD.enc),.fz (f.vals.map aD.enc),.i n.op,.i n.n,.is n.kids,.fz (n.pats.map Pat.enc),bv2] false))) (aC c2 0 4 (c2 0 4+1)):=
        ⟨fun k hk q1 q2=>by rw[aK q1,(hk.up hu3).set,(hk.up hu3).set,old2 k (hk.up (by(repeat refine upS ?_ (by omega));exact aN _)) q1 q2 hk.ne,hk.set],fun t=>bPb (hu3 t) (((by(repeat refine upS ?_ (by omega));exact aN _): ∀t,c2 0 t<=aC c2 0 4 (c2 0 4+1) 0 t) t)⟩
       refine iU ?_
       simp only[go_sem,k0,y7,hW.ret,kA,kF]
       refine(xM t3 (i:=0) (env:=f.env++[dO w.objs.length]) (by omega) (.inl rfl) (by rw[bQe];omega)).mono ?_
       rintro v e5 c5 ⟨rfl,t5,k5⟩
       exact⟨rfl,t5,k3.trans k5⟩
      ·rw[if_neg h26]at hRj;have d26:decide ((p.node left[j].node).op=26)=false:=decide_eq_false h26;simp only[go_sem,kK,k0,k3',ht,hr,h',d0,bK (fI hfk),d26,hwk];exact⟨j,⟨_,rfl,by simp only[go_sem,k0],by simp only[go_sem],by omega,hRj⟩,by omega⟩
theorem aLk (hb:fH p w u v=some b):b.vals=[]:=by
 unfold fH at hb
 split at hb
 ·simp only[bOw]at hb;subst hb;rfl
 ·split at hb
  ·simp only[bOw]at hb;subst hb;rfl
  ·cases hb
theorem kN {an:List (List Nat)}{A:Nat}{k:Key}{rs:List Res}(j:Nat){v:Val}{m:En×(Nat->Nat->Nat)}{u:Key->Bool}(hj:rs[j]?=some {v:=v,mem:=some m,unch:=u})(hu:u k=true)(h:oS an A k (rs.set j qP)=true):oS an A k rs=true:=by
 unfold oS at h⊢;rw[bQ1]at h
 refine bO4.2 fun i hi=>?_
 have:=bO4.1 h i hi
 by_cases hij:j=i
 ·subst hij;rw[hj];simp only[aN9,hu,bQv]
 ·rw[List.getElem?_set_ne hij]at this;exact this
noncomputable def aId :{c//L 269=some c}:=by
 have hL:=at_ Tryz.func269
 conv at hL=>rhs;reduce
 exact⟨_,hL⟩
theorem bHc (P0:Pre p w0 S w a left f n)(h:TS kt kr en cnt p w a left f n [] bv)(hop:n.op=6):qQ 269 kt kr en cnt p w a left f n (opR p w a left f n):=by
 have e:opR p w a left f n=(match fH p w (aE f.vals 0) (aE f.vals 1)with
  |some b=>kO w left b.node b.env
  |none=>if dA w (aE f.vals 0) 5=true then(if 40<(left++(w.obj (aE f.vals 0).n).frames).length then .fail 4 else .go none w (left++(w.obj (aE f.vals 0).n).frames) [aE f.vals 1])else .fail 2):=by unfold opR;rw[hop];rfl
 rw[e];have hfull:=P0.full;simp[aJ.asks,hop]at hfull;have hv0:0<f.vals.length:=by omega
 have hv1:1<f.vals.length:=by omega
 have hu:=P0.val hv0;have h40:=P0.left40;have H:=h.pre;have ht:=h.t;obtain⟨⟨bv1,h1⟩,k1⟩:=h.stay (cnt':=aC cnt 0 3 (cnt 0 3+1)) (en':=en.set ⟨0,3,cnt 0 3⟩ (some (.box [.i 0,.cl [],.cl []] false))) (fun k hk=>by simp only[hk.set]) (by(repeat refine upS ?_ (by omega));exact aN _)
 cases hb:fH p w (aE f.vals 0) (aE f.vals 1)with
 |some b=>
  simp only
  have hbv:=aLk hb;unfold kO
  by_cases hc:30<b.env.length
  ·rw[if_pos hc]
   refine cA aId.2 rfl rfl ?_
   simp only[go_sem,kK,aId]
   refine aRt rfl 15 rfl rfl ?_
   simp only[go_sem,bO5,bO3,bP9,bP8,qP,bQx,bQw,ht,H,aQ hv0,gE hv1,kA,kF];exact⟨rfl,(aLh h1 P0.hp P0.hF hu hb hc).mono fun _ _ _=>oZ.then k1⟩
  ·rw[if_neg hc];have hC:=aLg h1 P0.hp P0.hF hu hb (by omega)
   unfold qJ
   by_cases hc2:40<(left++[(⟨b.node,b.env,[]⟩:aB)]).length
   ·rw[if_pos hc2];simp only[bPg,bO7,bPe]at hc2
    refine cA aId.2 rfl rfl ?_
    simp only[go_sem,kK,aId]
    refine oG rfl ?_
    simp only[go_sem,bQx,bQw,ht,H,aQ hv0,gE hv1,kA]
    refine hC.mono ?_
    rintro v e1 c1 ⟨⟨ev,hev,_,rfl⟩,⟨bv2,t2⟩,k2⟩
    obtain⟨p3,q3⟩:=k2.loc (d:=3) (g:=cnt 0 3) (by simp only[go_sem];omega) h.okt.ne.symm h.okr.ne.symm
    simp only[go_sem]at p3;simp only[go_sem,kK,p3,kA,kF]
    refine⟨rfl,kN 15 rfl (by simp only[p3,cH];rfl) rfl,?_⟩
    obtain⟨⟨bv3,t3⟩,k3⟩:=h.fin t2 (k1.trans k2) (cnt2:=c1) (en2:=e1.set ⟨0,3,cnt 0 3⟩ (some (.box [.i b.node,ev,.cl []] false))) (fun k hk _=>by simp only[hk.set]) (aN _)
    refine cK 3 rfl ?_
    rcases hev with rfl|rfl<;>
    (simp only[go_sem,bO5,bO3,bP9,bP8]
     exact(aKy t3 (l:=[⟨b.node,b.env,[]⟩]) (.inr rfl) (by simp only[bO7,bPe];omega) (by simp only[bO7,bPe];omega)).mono fun _ _ _=>oZ.then k3)
   ·rw[if_neg hc2];simp only[bPg,bO7,bPe]at hc2
    refine bD aId.2 rfl rfl ?_
    simp only[go_sem,kK,aId]
    refine oG rfl ?_
    simp only[go_sem,bQx,bQw,ht,H,aQ hv0,gE hv1,kA]
    refine hC.mono ?_
    rintro v e1 c1 ⟨⟨ev,hev,_,rfl⟩,⟨bv2,t2⟩,k2⟩
    obtain⟨p3,q3⟩:=k2.loc (d:=3) (g:=cnt 0 3) (by simp only[go_sem];omega) h.okt.ne.symm h.okr.ne.symm
    simp only[go_sem]at p3;simp only[go_sem,kK,p3,kA,kF]
    refine⟨rfl,kN 15 rfl (by simp only[p3,cH];rfl) rfl,?_⟩
    obtain⟨⟨bv3,t3⟩,k3⟩:=h.fin t2 (k1.trans k2) (cnt2:=c1) (en2:=e1.set ⟨0,3,cnt 0 3⟩ (some (.box [.i b.node,ev,.cl []] false))) (fun k hk _=>by simp only[hk.set]) (aN _)
    refine bL ?_
    rcases hev with rfl|rfl<;>
    (simp only[go_sem]
     refine(aE7 t3 (l:=[⟨b.node,b.env,[]⟩]) (.inr rfl) (by simp only[bO7,bPe];omega)).mono ?_
     rintro v e4 c4 ⟨_,t4,k4⟩
     exact⟨rfl,t4,k3.trans k4⟩)
 |none=>
  simp only
  have hC:=aHv h1 hu hb
  by_cases hI:dA w (aE f.vals 0) 5=true
  ·rw[if_pos hI];have hW:=fun e1 c1 bv2 (t2:TS kt kr e1 c1 p w a left f n [] bv2)=>uQ t2 (fN hu) 5 hI
   obtain⟨a1,a2,a3,a4⟩:=eZ P0.hF hu hI;have hfl:=(aFf P0.hsp (aB5 a2.ok).2).1;generalize w.obj (aE f.vals 0).n=o at a2 a3 hW hfl⊢
   by_cases hc2:40<(left++o.frames).length
   ·rw[if_pos hc2];simp only[bPg]at hc2
    refine cA aId.2 rfl rfl ?_
    simp only[go_sem,kK,aId]
    refine oG rfl ?_
    simp only[go_sem,bQx,bQw,ht,H,aQ hv0,gE hv1,kA]
    refine hC.mono ?_
    rintro v e1 c1 ⟨⟨xx,rfl,rfl⟩,⟨bv2,t2⟩,k2⟩
    obtain⟨p3,q3⟩:=k2.loc (d:=3) (g:=cnt 0 3) (by simp only[go_sem];omega) h.okt.ne.symm h.okr.ne.symm
    simp only[go_sem]at p3;simp only[go_sem,kK,p3,kA,kF]
    refine⟨rfl,kN 15 rfl (by simp only[p3,cH];rfl) rfl,?_⟩
    obtain⟨⟨bv3,t3⟩,k3⟩:=h.fin t2 (k1.trans k2) (cnt2:=c1) (en2:=e1.set ⟨0,3,cnt 0 3⟩ (some (.box [.i 0,.cl [],.cl []] false))) (fun k hk _=>by simp only[hk.set]) (aN _)
    have ht2:=t2.t
    refine bL ?_
    simp only[go_sem,H,ht2,aQ hv0]
    refine(hW _ _ _ t3).mono ?_
    rintro v e4 c4 ⟨rfl,⟨bv4,t4⟩,k4⟩
    simp only[go_sem]
    refine cK 3 rfl ?_
    simp only[go_sem,bO5,bO3];obtain⟨⟨bv5,t5⟩,k5⟩:=t3.fin t4 k4 (cnt2:=aC c4 0 5 (c4 0 5+1)) (en2:=(e4.set ⟨0,5,c4 0 5⟩ (some (.box [.i 0,.i 0,.cl [],.cl []] false))).set ⟨0,5,c4 0 5⟩ (some (.box [.i o.form,.i o.n,.fz (o.vals.map aD.enc),.fz (o.frames.map aB.enc)] false))) (fun k hk hj=>by simp only[hj.set]) (by(repeat refine upS ?_ (by omega));exact aN _)
    exact(aKy t5 (l:=o.frames) (.inl rfl) (by omega) (by omega)).mono fun _ _ _=>oZ.then (k3.trans k5)
   ·rw[if_neg hc2];simp only[bPg]at hc2
    refine bD aId.2 rfl rfl ?_
    simp only[go_sem,kK,aId]
    refine oG rfl ?_
    simp only[go_sem,bQx,bQw,ht,H,aQ hv0,gE hv1,kA]
    refine hC.mono ?_
    rintro v e1 c1 ⟨⟨xx,rfl,rfl⟩,⟨bv2,t2⟩,k2⟩
    obtain⟨p3,q3⟩:=k2.loc (d:=3) (g:=cnt 0 3) (by simp only[go_sem];omega) h.okt.ne.symm h.okr.ne.symm
    simp only[go_sem]at p3;simp only[go_sem,kK,p3,kA,kF]
    refine⟨rfl,kN 15 rfl (by simp only[p3,cH];rfl) rfl,?_⟩
    obtain⟨⟨bv3,t3⟩,k3⟩:=h.fin t2 (k1.trans k2) (cnt2:=c1) (en2:=e1.set ⟨0,3,cnt 0 3⟩ (some (.box [.i 0,.cl [],.cl []] false))) (fun k hk _=>by simp only[hk.set]) (aN _)
    have ht2:=t2.t
    refine bL ?_
    simp only[go_sem,H,ht2,aQ hv0]
    refine(hW _ _ _ t3).mono ?_
    rintro v e4 c4 ⟨rfl,⟨bv4,t4⟩,k4⟩
    simp only[go_sem];obtain⟨⟨bv5,t5⟩,k5⟩:=t3.fin t4 k4 (cnt2:=aC c4 0 5 (c4 0 5+1)) (en2:=(e4.set ⟨0,5,c4 0 5⟩ (some (.box [.i 0,.i 0,.cl [],.cl []] false))).set ⟨0,5,c4 0 5⟩ (some (.box [.i o.form,.i o.n,.fz (o.vals.map aD.enc),.fz (o.frames.map aB.enc)] false))) (fun k hk hj=>by simp only[hj.set]) (by(repeat refine upS ?_ (by omega));exact aN _)
    refine bL ?_
    simp only[go_sem]
    refine(aE7 t5 (l:=o.frames) (.inl rfl) (by omega)).mono ?_
    rintro v e6 c6 ⟨_,⟨bv6,t6⟩,k6⟩
    have ht6:=t6.t;simp only[go_sem,ht6,gE hv1]
    refine(iO t6 (aE f.vals 1)).mono ?_
    rintro r e7 c7 ⟨rfl,t7,k7⟩
    exact⟨rfl,t7,((k3.trans k5).trans k6).trans k7⟩
  ·rw[if_neg hI];rw[bP6]at hI
   refine cA aId.2 rfl rfl ?_
   simp only[go_sem,kK,aId]
   refine oG rfl ?_
   simp only[go_sem,bQx,bQw,ht,H,aQ hv0,gE hv1,kA]
   refine hC.mono ?_
   rintro v e1 c1 ⟨⟨xx,rfl,rfl⟩,⟨bv2,t2⟩,k2⟩
   obtain⟨p3,q3⟩:=k2.loc (d:=3) (g:=cnt 0 3) (by simp only[go_sem];omega) h.okt.ne.symm h.okr.ne.symm
   simp only[go_sem]at p3;simp only[go_sem,kK,p3,kA,kF]
   refine⟨rfl,kN 15 rfl (by simp only[p3,cH];rfl) rfl,?_⟩
   obtain⟨⟨bv3,t3⟩,k3⟩:=h.fin t2 (k1.trans k2) (cnt2:=c1) (en2:=e1.set ⟨0,3,cnt 0 3⟩ (some (.box [.i 0,.cl [],.cl []] false))) (fun k hk _=>by simp only[hk.set]) (aN _)
   have ht2:=t2.t
   refine cK 8 rfl ?_
   simp only[go_sem,bO5,bO3,H,ht2,aQ hv0];exact(uR t3 (fN hu) 5 hI).mono fun _ _ _=>oZ.then k3
end
theorem rW (ha:inR a 0 ((w.tasks.length:Int)-1)=true):nO 1 en (.fz (w.tasks.map (.int .i64))) (.i a)=some {v:= .fp [.i (bA w a)] 0}:=wG ha
noncomputable def c76 :{c//L 76=some c}:=by
 have hL:=at_ Tryz.func76
 conv at hL=>rhs;reduce
 exact⟨_,hL⟩
set_option maxHeartbeats 1600000 in
theorem aIr (hp:eH p)(hsp:aS p=true)(h:cP p w0 S w)(ha:inR a 0 ((w.tasks.length:Int)-1)=true):
  PC L 76 [.agg p.cs,.agg w.cs,.i a] (.agg [.fz ((cJ p w a).w.objs.map aR.enc),.fz ((cJ p w a).w.tasks.map (.int .i64)),.fz ((cJ p w a).w.outs.map bR.enc),.fz ((cJ p w a).w.ins.map (.int .i64)),.i (cJ p w a).w.used,.i (cJ p w a).what,.i (cJ p w a).e.task,.i (cJ p w a).e.act,.i (cJ p w a).e.n,.i (cJ p w a).e.v.kind,.i (cJ p w a).e.v.n]):=by
 have hfit:=uT h ha;obtain⟨t1,t2,t3⟩:=h.task ha;have hO:=h.obj t1 t3;have hset:=fun o=>aWf w a o hfit
 have honto:=fun left node env hl=>aB4 w a left node env hfit hl
 unfold cJ
 simp only
 have hio:=fun en=>yJ (w:=w) (k:= .i64) (en:=en) t1
 generalize ho:w.obj (bA w a)=o at hO t2 hio⊢;have hk:=hO.ok;rw[dK,if_pos t2,jN]at hk
 by_cases n0:o.n=0
 ·have d0:decide (o.n=0)=true:=decide_eq_true n0;rw[if_neg (fun h=>h n0)]
  rw[if_pos n0]at hk;simp only[bV,bOx,bSi,bO4,bE]at hk;obtain⟨⟨⟨⟨k1,k2⟩,k3,k4⟩,k5⟩,k6⟩:=hk;have hF: ∀f∈o.frames,FOk p S w f:=fun f hf=>hO.frames hf
  have hwt:IntKind.i64.wrap ((o.frames.length:Int)-1)=(o.frames.length:Int)-1:=aW (by omega)
  by_cases hv1:o.vals.length=1
  ·have dv:decide (o.vals.length=1)=true:=decide_eq_true hv1;have dv':decide ((o.vals.length:Int)=1)=true:=decide_eq_true (by omega)
   rw[if_pos hv1]
   by_cases hf0:o.frames.length=0
   ·rw[if_pos hf0];have hS:=hset ⟨6,1,[aE o.vals 0],[]⟩;simp only[bPw,bPf,aLc]at hS;have df:decide ((o.frames.length:Int)-1<0)=true:=decide_eq_true (by omega)
    refine aG c76.2 rfl rfl ?_
    simp only[go_sem,kK,c76]
    refine aI ?_
    simp only[go_sem,kK,rW ha,hio,kA,bO0,if_false];simp only[go_sem,kK,d0,dv',hwt,aQ (l:=o.vals) (by omega),df]
    refine aI ?_
    simp only[go_sem,rW ha,qA,kZ,hS.ret,(aNh _).ret,kA,bO0,if_false]
   ·rw[if_neg hf0];obtain⟨m,hm⟩: ∃m,o.frames.length=m+1:=⟨o.frames.length-1,by omega⟩
    have hmn:m<o.frames.length:=by omega
    have df:decide ((m:Int)<0)=false:=decide_eq_false (by omega)
    have hwt:IntKind.i64.wrap ((o.frames.length:Int)-1)=(m:Int):=by rw[hwt];omega
    have hgd:o.frames.getD (o.frames.length-1) dQ=o.frames[m]:=by
     rw[show o.frames.length-1=m by omega];simp[bO2,hmn]
    have hgz:(o.frames.map aB.enc)[m]?=some (aB.enc o.frames[m]):=by simp[hmn]
    have hlF:aCq o.frames (aE o.vals 0)=o.frames.set m ⟨o.frames[m].node,o.frames[m].env,o.frames[m].vals++[aE o.vals 0]⟩:=by
     unfold aCq;rw[hgd,show o.frames.length-1=m by omega]
    rw[hlF];have hS:=hset ⟨6,0,[],o.frames.set m ⟨o.frames[m].node,o.frames[m].env,o.frames[m].vals++[aE o.vals 0]⟩⟩;simp only[bQ8,bPf,aB.enc]at hS;have hfm:=(hF _ (bO6 hmn)).ok;have hal:=aPv hsp (fI (hF _ (bO6 hmn)));simp only[dH,bE,bOx,bSi]at hfm;have hM:=aE2 o.frames[m].vals (aE o.vals 0) (by omega)
    have hfe:o.frames.isEmpty=false:=aKq (by omega)
    have hf16:o.frames.length<=16777216:=by omega
    have hmi:((m:Int)<(o.frames.length:Int)):=by omega
    refine aG c76.2 rfl rfl ?_
    simp only[go_sem,kK,c76]
    refine aI ?_
    simp only[go_sem,kK,rW ha,hio,kA,bO0,if_false];simp only[go_sem,kK,d0,dv',hwt,aQ (l:=o.vals) (by omega),df,bT,eG,iX,iI,hfe,hf16,jA,hgz,hmi,rW ha,hM.ret,eV,bRg,bPz,bOz,bQ1,bOy,bPi,uM,nC,hS.ret,iE,jL]
  ·have dv':decide ((o.vals.length:Int)=1)=false:=decide_eq_false (by omega)
   rw[if_neg hv1];have hz:o.vals.length=0:=by omega
   obtain⟨m,hm⟩: ∃m,o.frames.length=m+1:=⟨o.frames.length-1,by omega⟩
   have hmn:m<o.frames.length:=by omega
   have hwt:IntKind.i64.wrap ((o.frames.length:Int)-1)=(m:Int):=by rw[hwt];omega
   have hgd:o.frames.getD (o.frames.length-1) dQ=o.frames[m]:=by
    rw[show o.frames.length-1=m by omega];simp[bO2,hmn]
   rw[hgd];have hfo:=hF _ (bO6 hmn);have hni:=fI hfo;have hok:=hp.nodes _ (iK hni);have hak:=aGp hok
   by_cases hop:(o.frames[m].vals.length:Int)<(p.node o.frames[m].node).asks
   ·have dop:decide ((o.frames[m].vals.length:Int)<(p.node o.frames[m].node).asks)=true:=decide_eq_true hop;rw[if_pos hop];have hN:=honto o.frames (oJ (p.node o.frames[m].node) o.frames[m].vals.length) o.frames[m].env (by omega)
    refine aG c76.2 rfl rfl ?_
    simp only[go_sem,kK,c76]
    refine aI ?_
    simp only[go_sem,kK,rW ha,hio,kA,bO0,if_false];simp only[go_sem,kK,d0,dv',hwt,hmn,bK hni,(vP _).ret,dop,aWl (show inR (o.frames[m].vals.length:Int) 0 (((p.node o.frames[m].node).kids.length:Int)-1)=true by simp only[inR,bSi];omega),hN.ret]
   ·have dop:decide ((o.frames[m].vals.length:Int)<(p.node o.frames[m].node).asks)=false:=decide_eq_false hop;rw[if_neg hop];have hfull:(o.frames[m].vals.length:Int)=(p.node o.frames[m].node).asks:=by
     have:=hfo.ok;simp only[dH,bE,bOx,bSi]at this;omega
    have hl:LOk p S w (o.frames.take (o.frames.length-1)):=⟨by simp only[bQe];omega,fun f hf=>hF f (bRj hf),fun f hf=>k6 f (by rw[hz,bQh];exact hf)⟩
    have hD:=bDx hp hsp h ha hl hfo hfull;rw[show o.frames.length-1=m by omega]at hD⊢
    have hml:m<=o.frames.length:=by omega
    refine aG c76.2 rfl rfl ?_
    simp only[go_sem,kK,c76]
    refine aI ?_
    simp only[go_sem,kK,rW ha,hio,kA,bO0,if_false];simp only[go_sem,kK,d0,dv',hwt,hmn,bK hni,(vP _).ret,dop]
    refine aI ?_
    cases h0:(o.frames.take m).isEmpty with
    |true=>
     have h0':o.frames.take m=[]:=by simpa using h0
     rw[h0']at hD⊢;simp only[bPf]at hD;simp only[go_sem,uB,hml,<-bQs,h0',bPf,bOz,bT,eG,nD,hD.ret,kA,bO0,if_false]
    |false=>
     have h16:(o.frames.take m).length<=16777216:=by simp only[bQe];omega
     generalize hgm:o.frames.take m=dl at*;simp only[go_sem,uB,hml,<-bQs,hgm,bOz,bT,eG,iX,iI,h0,h16,jA,bOy,bPi,hD.ret,kA,bO0,if_false]
 ·have d0:decide (o.n=0)=false:=decide_eq_false n0;rw[if_pos n0]
  refine aG c76.2 rfl rfl ?_
  simp only[go_sem,kK,c76]
  refine aI ?_
  simp only[go_sem,kK,rW ha,hio,kA,bO0,if_false];simp only[go_sem,kK,d0,mL,iE,jL]
theorem aYu (x:Int)(n:Nat)(hn:0<n)(hf:n<=1000000):PC L 77 [.i x,.i n] (.i (x%(n:Int))):=by
 have hL:=at_ Tryz.func77
 conv at hL=>rhs;reduce
 refine aG hL rfl rfl ?_
 have h0: ¬((n:Int)=0):=by omega
 have h1:=Int.emod_nonneg x (show(n:Int)≠0 by omega)
 have h2:=Int.emod_lt_of_pos x (show 0<(n:Int)by omega)
 have e:=Int.tmod_eq_emod (a:=x) (b:=n)
 by_cases hc:0<=x \/(n:Int)∣x
 ·rw[if_pos hc]at e;have d:decide (x.tmod n<0)=false:=decide_eq_false (by omega)
  simp only[go_sem,kK,h0,d];rw[e];simp
 ·rw[if_neg hc]at e;have d:decide (x.tmod n<0)=true:=decide_eq_true (by omega)
  have hw:IntKind.i64.wrap (x.tmod n+n)=x%n:=by rw[aW (by omega)];omega
  simp only[go_sem,kK,h0,d,hw]
def bFn (agg:Bool)(off m:Nat):Val->Option Res
 | .agg cs=>if off+m<=cs.length then(iM agg ((cs.drop off).take m)).map fun v=>{v}else none
 |_=>none
variable {agg:Bool}{m off:Nat}
section
variable {d:Nat}{get:Opd->Val}
theorem aLl {x:Opd}:dE d g en get (.fld agg off m x)=bFn agg off m (get x):=(rfl)
theorem aFl {cs:List Val}:bFn agg off m (.agg cs)=if off+m<=cs.length then(iM agg ((cs.drop off).take m)).map fun v=>{v}else none:=(rfl)
end
theorem bB1 (hp:eH p)(hsp:aS p=true)(h:cP p w0 S w):PC L 75 [.agg p.cs,.agg w.cs] (.is (dL p w)):=by
 have hL:=at_ Tryz.func75
 conv at hL=>rhs;reduce
 refine aG hL rfl rfl ?_
 have hw:=aB7 (rV hsp h.ok);have ht:w.tasks.length<=130:=by
  obtain⟨a1,a2,a3,a4,a5,a6,a7⟩:=cV.1 h.ok;have:=aA8 a5;omega
 simp only[go_sem,kK]
 refine bQ w.tasks.length (fun k st=> ∃fr en cnt v,st=⟨fr,en,cnt⟩/\ fr 2= .ptr ⟨0,2,0⟩ 0/\ en ⟨0,2,0⟩=some (.box [.fz (p.nodes.map aJ.enc),.fz (p.funs.map (.int .i64)),.i p.main,.fz (p.cons.map cO.enc)] false)/\ fr 3= .ptr ⟨0,3,0⟩ 0/\ en ⟨0,3,0⟩=some (.box [.fz (w.objs.map aR.enc),.fz (w.tasks.map (.int .i64)),.fz (w.outs.map bR.enc),.fz (w.ins.map (.int .i64)),.i w.used] false)/\ fr 5=v/\ fr 6= .i k/\ jK en v 1 ((gD p w k).map (.int .i64)) [23]) 0 (bO8 _) ⟨_,_,_,.cl [],rfl,by simp only[go_sem],by simp only[go_sem],by simp only[go_sem],by simp only[go_sem],by simp only[go_sem],by simp only[go_sem],jK.nil _ _⟩ ?_
 rintro k st hk ⟨fr,en,cnt,v,rfl,k2,e2,k3,e3,k5,k6,hv⟩
 simp only[go_sem,kK,k3,e3,k6]
 refine aH (fun hq=>?_) (fun hq=>?_)
 ·have h':k<w.tasks.length:=of_decide_eq_true hq;have ha:inR (k:Int) 0 ((w.tasks.length:Int)-1)=true:=by simp only[inR,bSi];omega
  have hS:=aIr hp hsp h ha;have hst:gD p w (k+1)=if(cJ p w k).what=2 then gD p w k else gD p w k++[(k:Int)]:=by
   simp only[gD,List.range_succ,List.filter_append,bQg,List.filter_cons,List.filter_nil]
   by_cases hq:(cJ p w (k:Int)).what=2<;>simp[hq]
  have hln:(gD p w k).length<=k:=by
   simp only[gD,bOz];exact bPb (List.length_filter_le _ _) (by simp)
  by_cases h2:(cJ p w k).what=2
  ·have d2:decide ((cJ p w k).what=2)=true:=decide_eq_true h2;rw[if_pos h2]at hst;simp only[go_sem,kK,k2,e2,k3,e3,k6,h',hS.ret,aLl,aFl,d2]
   refine⟨_,_,_,v,rfl,?_⟩
   simp only[go_sem,k2,e2,k3,e3,k5,aT h' hw.tasks,hst];exact hv
  ·have d2:decide ((cJ p w k).what=2)=false:=decide_eq_false h2;rw[if_neg h2]at hst;simp only[go_sem,kK,k2,e2,k3,e3,k5,k6,h',hS.ret,aLl,aFl,d2]
   refine aAm (D:=[23]) (xs:=(gD p w k).map (.int .i64)) (ys:=[.i (k:Int)]) (rs:=[]) ?_ ?_ ?_ ?_ ?_
   ·simp only[go_sem];exact hv
   ·simp only[go_sem]
   ·rfl
   ·simp only[bOz,bO7,bPe];omega
   ·intro v' en' cnt' hown hen hcnt;have q2:en' ⟨0,2,0⟩=some (.box [.fz (p.nodes.map aJ.enc),.fz (p.funs.map (.int .i64)),.i p.main,.fz (p.cons.map cO.enc)] false):=by rw[hen 0 2 0 (.inr ⟨by decide,by simp⟩)];simp only[go_sem,e2]
    have q3:en' ⟨0,3,0⟩=some (.box [.fz (w.objs.map aR.enc),.fz (w.tasks.map (.int .i64)),.fz (w.outs.map bR.enc),.fz (w.ins.map (.int .i64)),.i w.used] false):=by rw[hen 0 3 0 (.inr ⟨by decide,by simp⟩)];simp only[go_sem,e3]
    simp only[go_sem,k6]
    refine⟨_,_,_,v',rfl,?_⟩
    simp only[go_sem,k2,q2,k3,q3,aT h' hw.tasks,hst,bQg];exact hown.sub (by simp)
 ·have:k=w.tasks.length:=by simp at hq;omega
  subst this;obtain⟨r1,ks,s1,_,s2,s3,_⟩:=hv.snap 7;simp only[go_sem,k5,s1];exact s3
theorem xP (h:cP p w0 S w):w.tasks.length<=120:=by
 obtain⟨a1,a2,a3,a4,a5,a6,a7⟩:=cV.1 h.ok;have:=aA8 a5;omega
theorem aGs (hp:eH p)(hsp:aS p=true)(h:cP p w0 S w)(s:Nat)(hs:s<=5001):
  PC L 58 [.agg p.cs,.agg w.cs,.i (s:Int)] (.tup [.agg (bU p w s).1.cs,.i ((bU p w s).2.1:Nat),.bool (bU p w s).2.2]):=by
 have hL:=at_ Tryz.func58
 conv at hL=>rhs;reduce
 refine aG hL rfl rfl ?_
 simp only[go_sem,kK]
 refine bQ 121 (fun k st=> ∃fr en cnt x t,st=⟨fr,en,cnt⟩/\ fr 2= .i ((t:Nat):Int)/\ fr 3= .ptr ⟨0,3,0⟩ 0/\ en ⟨0,3,0⟩=some (.box [.fz (p.nodes.map aJ.enc),.fz (p.funs.map (.int .i64)),.i p.main,.fz (p.cons.map cO.enc)] false)/\ fr 4= .ptr ⟨0,4,0⟩ 0/\ en ⟨0,4,0⟩=some (.box [.fz (x.objs.map aR.enc),.fz (x.tasks.map (.int .i64)),.fz (x.outs.map bR.enc),.fz (x.ins.map (.int .i64)),.i x.used] false)/\ fr 6= .ptr ⟨0,6,0⟩ 0/\ en ⟨0,6,0⟩=some (.box [.cl [],.cl [],.cl [],.cl [],.i 0] false)/\ fr 9= .i k/\
  cP p w0 S x/\ t<=5001/\ iP p (121-k) k x t=bU p w s) 0 (bO8 _) ⟨_,_,_,w,s,rfl,by simp only[go_sem],by simp only[go_sem],by simp only[go_sem],by simp only[go_sem],by simp only[go_sem],by simp only[go_sem],by simp only[go_sem],by simp only[go_sem],h,hs,rfl⟩ ?_
 rintro k st hk ⟨fr,en,cnt,x,t,rfl,k2,k3,e3,k4,e4,k6,e6,k9,hx,ht,hD⟩
 have hx120:=xP hx;simp only[go_sem,kK,k4,e4,k9]
 refine aH (fun hq=>?_) (fun hq=>?_)
 ·have h':k<x.tasks.length:=of_decide_eq_true hq;have ha:inR (k:Int) 0 ((x.tasks.length:Int)-1)=true:=by simp only[inR,bSi];omega
  have hS:=aIr hp hsp hx ha;obtain⟨g10,hg10⟩: ∃g,g=cnt 0 10:=⟨_,rfl⟩
  simp only[go_sem,k3,e3,k4,e4,k9,h',hS.ret,<-hg10];rw[show 121-k=(120-k)+1 by omega,iP,if_pos h']at hD
  refine Go.Abs.wp_loop (fun(j:Nat) st=> ∃fr en cnt y,st=⟨fr,en,cnt⟩/\ fr 2= .i ((t+j:Nat):Int)/\ fr 3= .ptr ⟨0,3,0⟩ 0/\ en ⟨0,3,0⟩=some (.box [.fz (p.nodes.map aJ.enc),.fz (p.funs.map (.int .i64)),.i p.main,.fz (p.cons.map cO.enc)] false)/\ fr 4= .ptr ⟨0,4,0⟩ 0/\ en ⟨0,4,0⟩=some (.box [.fz (y.objs.map aR.enc),.fz (y.tasks.map (.int .i64)),.fz (y.outs.map bR.enc),.fz (y.ins.map (.int .i64)),.i y.used] false)/\ fr 6= .ptr ⟨0,6,0⟩ 0/\ en ⟨0,6,0⟩=some (.box [.cl [],.cl [],.cl [],.cl [],.i 0] false)/\ fr 9= .i k/\ fr 10= .ptr ⟨0,10,g10⟩ 0/\ en ⟨0,10,g10⟩=some (.box [.fz ((cJ p y k).w.objs.map aR.enc),.fz ((cJ p y k).w.tasks.map (.int .i64)),.fz ((cJ p y k).w.outs.map bR.enc),.fz ((cJ p y k).w.ins.map (.int .i64)),.i (cJ p y k).w.used,.i (cJ p y k).what,.i (cJ p y k).e.task,.i (cJ p y k).e.act,.i (cJ p y k).e.n,.i (cJ p y k).e.v.kind,.i (cJ p y k).e.v.n] false)/\
   cP p w0 S y/\ t+j<=5001/\ k<y.tasks.length/\ eS p k (5000-t) x=((eS p k (5000-(t+j)) y).1,(eS p k (5000-(t+j)) y).2.1+j,(eS p k (5000-(t+j)) y).2.2)) (fun j=>5001-(t+j)) 0
   ⟨_,_,_,x,rfl,by simp only[go_sem,k2],by simp only[go_sem,k3],by simp only[go_sem,e3],by simp only[go_sem,k4],by simp only[go_sem,e4],by simp only[go_sem,k6],by simp only[go_sem,e6],by simp only[go_sem,k9],by simp only[go_sem],by simp only[go_sem],hx,ht,h',rfl⟩ ?_
  clear k2 k3 e3 k4 e4 k6 e6 k9
  rintro j st ⟨fr,en,cnt,y,rfl,k2,k3,e3,k4,e4,k6,e6,k9,k10,e10,hy,htj,hky,hI⟩
  have hay:inR (k:Int) 0 ((y.tasks.length:Int)-1)=true:=by simp only[inR,bSi];omega
  by_cases h0:(cJ p y k).what=0
  ·have d0:decide ((cJ p y k).what=0)=true:=decide_eq_true h0;have hw1:IntKind.i64.wrap (((t+j:Nat):Int)+1)=((t+j+1:Nat):Int):=by rw[aW (by omega)];omega
   by_cases h5:5000<t+j+1
   ·have d5:decide ((5000:Int)<((t+j+1:Nat):Int))=true:=decide_eq_true (by omega)
    have hI0:eS p k (5000-t) x=(y,1+j,false):=by rw[hI,show 5000-(t+j)=0 by omega,eS,if_pos h0]
    rw[hI0]at hD;simp only[bO0,if_false]at hD;rw[<-hD,show t+(1+j)=t+j+1 by omega]
    simp only[go_sem,kK,k2,k4,e4,k6,e6,k10,e10,d0,hw1,d5]
   ·have d5:decide ((5000:Int)<((t+j+1:Nat):Int))=false:=decide_eq_false (by omega)
    have hy':=mH hp hy hay;have hky':k<(cJ p y k).w.tasks.length:=bPo hky (aK8 hp hy hay);have hS2:=aIr hp hsp hy' (a:=k) (by simp only[inR,bSi];omega)
    simp only[go_sem,kK,k2,k3,e3,k4,e4,k9,k10,e10,d0,hw1,d5,hS2.ret]
    refine⟨j+1,⟨_,_,_,(cJ p y k).w,rfl,?_⟩,by omega⟩
    simp only[go_sem,k3,e3,k4,k6,e6,k9,k10]
    refine⟨by rw[bQo],hy',by omega,hky',?_⟩
    rw[hI,show 5000-(t+j)=(5000-(t+(j+1)))+1 by omega,eS,if_pos h0]
    simp only[bQo,Nat.add_comm 1 j]
  ·have d0:decide ((cJ p y k).what=0)=false:=decide_eq_false h0;have hin: ∀m,eS p k m y=(y,0,true):=fun m=>by cases m<;>(rw[eS,if_neg h0])
   rw[hI,hin]at hD;simp only[if_true,bPs]at hD;simp only[go_sem,kK,k2,k4,e4,k6,e6,k9,k10,e10,d0]
   refine⟨by omega,_,_,_,y,t+j,rfl,?_⟩
   simp only[go_sem,k2,k3,e3,k4,e4,k6,e6,aT (show k<121 by omega) (show Few 121 by unfold Few;omega)]
   exact⟨hy,htj,by rw[show 121-(k+1)=120-k by omega];exact hD⟩
 ·have hn: ¬k<x.tasks.length:=of_decide_eq_false hq;have hD':bU p w s=(x,t,true):=by
   rw[<-hD];cases hm:121-k with
   |zero=>rfl
   |succ m=>rw[iP,if_neg hn]
  rw[hD'];simp only[go_sem,k2,k4,e4,k6,e6]
theorem aDm {p:aF}: ∀(n:Nat) {a:Nat} {w:aA} {s:Nat},(iP p n a w s).2.2=true->(iP p n a w s).2.1<=max s 5000
 |0,_,_,s,_=>by simp only[iP];omega
 |n+1,a,w,s,h=>by
  obtain⟨h1,h2⟩:=aA9 (p:=p) (a:=a) (5000-s) w;unfold iP at h⊢;split
  ·rename_i ha;rw[if_pos ha]at h;split
   ·rename_i hb;rw[if_pos hb]at h;have:=aDm n h;have:=h2 hb;omega
   ·rename_i hb;rw[if_neg hb]at h;cases h
  ·simp only;omega
theorem bD4 (hp:eH p)(hsp:aS p=true)(h:cP p w0 S w)(pick:Int):
  PC L 124 [.agg p.cs,.agg w.cs,.i pick] (.tup [.agg (fW p w pick).1.cs,.agg [.i (fW p w pick).2.1.task,.i (fW p w pick).2.1.act,.i (fW p w pick).2.1.n,.i (fW p w pick).2.1.v.kind,.i (fW p w pick).2.1.v.n],.i ((fW p w pick).2.2.1:Nat),.i (fW p w pick).2.2.2]):=by
 have hS:=aGs hp hsp h 0 (by omega)
 have h1:=lF hp (s:=0) h;have hc:=aDm (p:=p) 121 (a:=0) (w:=w) (s:=0);rw[show((0:Nat):Int)=0 from rfl]at hS
 have hR:=bB1 hp hsp h1;unfold fW
 simp only
 have hL:=at_ Tryz.func124
 conv at hL=>rhs;reduce
 refine aG hL rfl rfl ?_
 have hq1:bU p w 0=iP p 121 0 w 0:=rfl;rw[<-hq1]at hc;generalize hq:bU p w 0=q at hS h1 hR hc⊢;obtain⟨x,s1,ok⟩:=q;dsimp only at hS h1 hR hc⊢;cases ok with
 |false=>
  rw[if_pos rfl];simp only[go_sem,kK,hS.ret,iE,jL]
 |true=>
  rw[if_neg (by decide)]
  have hx120:=xP h1
  by_cases hl:dL p x=[]
  ·rw[if_pos hl];rw[hl]at hR;simp only[Val.is,bPf]at hR;simp only[go_sem,kK,hS.ret,hR.ret,bPe,iE,jL]
  ·rw[if_neg hl];have hll:(dL p x).length<=120:=by
    simp only[dL,gD,bOz];exact bPb (List.length_filter_le _ _) (by simpa using hx120)
   have hl0:0<(dL p x).length:=bRv.2 hl;have dl:decide (((dL p x).length:Int)=0)=false:=decide_eq_false (by omega)
   have hMo:=aYu pick (dL p x).length hl0 (by omega)
   have hpi:=aPw hl pick;have hem:=Int.emod_nonneg pick (show((dL p x).length:Int)≠0 by omega)
   have hin:inR (pick%((dL p x).length:Int)) 0 (((dL p x).length:Int)-1)=true:=by
    simp only[inR,bSi];omega
   have ha:=aLa (mF (d:=0) hpi);have hSt:=aIr hp hsp h1 ha;have h2:=mH hp h1 ha;generalize hd:cJ p x ((dL p x).getD (pick%((dL p x).length:Int)).toNat 0)=d at hSt h2⊢;have hc':=hc rfl;have hw1:IntKind.i64.wrap ((s1:Int)+1)=((s1+1:Nat):Int):=by rw[aW (by omega)];omega
   have hS2:=aGs hp hsp h2 (s1+1) (by omega)
   have hc2:=aCt (p:=p) 121 (a:=0) (w:=d.w) (s:=s1+1) (by omega)
   have hq2:bU p d.w (s1+1)=iP p 121 0 d.w (s1+1):=rfl;rw[<-hq2]at hc2;generalize hqq:bU p d.w (s1+1)=q at hS2 hc2⊢;obtain⟨y,s2,ok2⟩:=q;dsimp only at hS2 hc2⊢;simp only[go_sem,kK,hS.ret,hR.ret,dl]
   refine aI ?_
   simp only[go_sem,bOz,hMo.ret,wG hin,hSt.ret,kA,bO0,if_false];cases ok2 with
   |false=>
    rw[if_pos (.inl rfl)];simp only[go_sem,kK,hw1,hS2.ret,iE,jL]
   |true=>
    by_cases h5:5000<s2
    ·have d5:decide ((5000:Int)<(s2:Int))=true:=decide_eq_true (by omega)
     rw[if_pos (.inr h5)];simp only[go_sem,kK,hw1,hS2.ret,d5,iE,jL]
    ·have d5:decide ((5000:Int)<(s2:Int))=false:=decide_eq_false (by omega)
     rw[if_neg (by rintro(h|h);cases h;exact h5 h)]
     simp only[go_sem,kK,hw1,hS2.ret,d5]
     refine aI ?_
     simp only[go_sem,kA,bO0,if_false]
section
theorem aNv {e4:En}{c4:Nat->Nat->Nat}{w1:aA}{bv4:Val}(t4:TS kt kr e4 c4 p w1 a left f n [] bv4){x:Nat}(hx:((w1.objs.length:Int)-1)=(x:Int))(hop:n.op=19){A1 A2:Option Ent}{b:Bool}:
  WIn L (.fn 333 [] []) [.ptr kt 0,.agg [.i (dO (x:Int)).kind,.i (dO (x:Int)).n],.agg [.i bO.kind,.i bO.n]]
   ((((e4.set ⟨0,6,c4 0 6⟩ A1).set ⟨0,6,c4 0 6⟩ A2).set ⟨0,58,c4 0 58⟩ (some (.blk 1 (w1.tasks.map (.int .i64)++[.i (dO (x:Int)).n]) b))).set kr
    (some (.box [.fz (p.nodes.map aJ.enc),.is p.funs,.i p.main,.fz (p.cons.map cO.enc),.fz (w1.objs.map aR.enc),.bl ⟨0,58,c4 0 58⟩ 0 (w1.tasks.length+1),.fz (w1.outs.map bR.enc),.is w1.ins,.i w1.used] false)))
   (aC (aC c4 0 6 (c4 0 6+1)) 0 58 (c4 0 58+1)) fun v en' cnt'=>match oA (.ptr kt 0) [[0]] en' with
    |some en'=>v=aNu (some ⟨a,19,0,qU bO⟩)/\ (∃bv',TS kt kr en' cnt' p (qI w1) a left f n [dO (x:Int)] bv')/\ dU kt kr e4 c4 en' cnt'
    |none=>False:=by
 have ht:=t4.t;have hr:=t4.r;have s1:=t4.okt.set;have s2:=t4.okr.set;have n1:=t4.okt.new;have n2:=t4.okr.new;have hn:=t4.ne;have x1: ∀(en:En) (e:Option Ent),En.set en kt e kr=en kr:=fun _ _=>aK hn
 have x2: ∀(en:En) (e:Option Ent),En.set en kr e kt=en kt:=fun _ _=>aK hn.symm
 have hu: ∀t,c4 0 t<=aC (aC c4 0 6 (c4 0 6+1)) 0 58 (c4 0 58+1) 0 t:=(by(repeat refine upS ?_ (by omega));exact aN _)
 refine(aNl (f:=f) (n:=n) (by simp only[s1,x2];exact ht) (t4.okt.up hu) (dO (x:Int)) bO).mono ?_
 rintro v e1 c1 ⟨rfl,tb,old,up⟩
 have h0:TS kt kr (e4.set kt (some (.box [.ptr kr 0,.i a,.fz (left.map aB.enc),.i f.node,.fz (f.env.map aD.enc),.fz (f.vals.map aD.enc),.i n.op,.i n.n,.is n.kids,.fz (n.pats.map Pat.enc),.cl [.agg [.i (dO (x:Int)).kind,.i (dO (x:Int)).n]]] false))) c4 p w1 a left f n [dO (x:Int)] (.cl [.agg [.i (dO (x:Int)).kind,.i (dO (x:Int)).n]]):=⟨t4.okt,t4.okr,t4.ne,.inr rfl,cH,by rw[aK t4.ne];exact hr⟩
 have o58:=old ⟨0,58,c4 0 58⟩ ⟨rfl,by simp only[go_sem];omega⟩ t4.okt.ne.symm
 simp only[go_sem,n2]at o58;have okr:=old kr (t4.okr.up hu) t4.ne;simp only[go_sem]at okr;have hA:w1.tasks.map (Val.int .i64)++[.i (dO (x:Int)).n]=(qI w1).tasks.map (.int .i64):=by simp[qI,dO,hx]
 rw[hA]at o58;have hF:=bBk h0 (w':=qI w1) (E:=e1) (c:=c1) (by rw[tb,cH]) okr rfl (sS o58 (by simp[qI])) rfl rfl (by simp) (fun k hk k1 k2=>by rw[old k (hk.up hu) k1,aK k1,aK k2,hk.set,hk.set,hk.set]) (fun t=>bPb (hu t) (up t))
 split at hF
 case h_2=>exact hF.elim
 rename_i E2 hE2;rw[hE2]
 refine⟨?_,hF.1,fun k hk k1 k2=>(hF.2.old k hk k1 k2).trans (aK k1),hF.2.up⟩
 rw[hop];rfl
noncomputable def aIe :{c//L 280=some c}:=by
 have hL:=at_ Tryz.func280
 conv at hL=>rhs;reduce
 exact⟨_,hL⟩
theorem bD5 (P0:Pre p w0 S w a left f n)(h:TS kt kr en cnt p w a left f n [] bv)(hop:n.op=19):qQ 280 kt kr en cnt p w a left f n (opR p w a left f n):=by
 have e:opR p w a left f n=(match fH p w (aE f.vals 0) bO with
  |some b=>if 30<b.env.length then .fail 4 else iZ w ⟨6,0,[],[b]⟩ fun w' v=>jY (qI w') a left 19 0 v bO
  |none=>if dA w (aE f.vals 0) 5=true then iZ w ⟨6,0,[bO],(w.obj (aE f.vals 0).n).frames⟩ fun w' v=>jY (qI w') a left 19 0 v bO else .fail 2):=by unfold opR;rw[hop];rfl
 rw[e];have hfull:=P0.full;simp[aJ.asks,hop]at hfull;have hv0:0<f.vals.length:=by omega
 have hu:=P0.val hv0;have h120:=P0.objs;have htl:w.tasks.length+1<=16777216:=by
  have:=aA8 (cV.1 P0.hF.ok).2.2.2.2.1;omega
 have haT: ∀o,(eF w o).tasks=w.tasks:=fun _=>rfl
 have hd1: ∀x:Int,cY 1 [.i x]=true:=fun _=>rfl
 have H:=h.pre;have ht:=h.t;obtain⟨⟨bv1,h1⟩,k1⟩:=h.stay (cnt':=aC (aC cnt 0 3 (cnt 0 3+1)) 0 4 (cnt 0 4+1)) (en':=((en.set ⟨0,3,cnt 0 3⟩ (some (.box [.i 0,.i 0,.cl [],.cl []] false))).set ⟨0,3,cnt 0 3⟩ (some (.box [.i 6,.i 0,.cl [],.cl []] false))).set ⟨0,4,cnt 0 4⟩ (some (.box [.i 0,.cl [],.cl []] false))) (fun k hk=>by simp only[hk.set]) (by(repeat refine upS ?_ (by omega));exact aN _)
 cases hb:fH p w (aE f.vals 0) bO with
 |some b=>
  obtain⟨bn,be,bvs⟩:=b;have hbv:=aLk hb
  simp only at hbv
  subst hbv
  simp only
  by_cases hc:30<be.length
  ·rw[if_pos hc]
   refine cA aIe.2 rfl rfl ?_
   simp only[go_sem,kK,aIe]
   refine aRt rfl 9 rfl rfl ?_
   simp only[go_sem,bO5,bO3,bP9,bP8,qP,bQx,bQw,ht,H,aQ hv0,kC.ret,kA,kF];exact⟨rfl,(aLh h1 P0.hp P0.hF hu hb hc).mono fun _ _ _=>oZ.then k1⟩
  ·rw[if_neg hc];have hC:=aLg h1 P0.hp P0.hF hu hb (by show be.length<=30;omega)
   unfold iZ
   by_cases h20:120<=w.objs.length
   ·rw[if_pos h20]
    refine cA aIe.2 rfl rfl ?_
    simp only[go_sem,kK,aIe]
    refine oG rfl ?_
    simp only[go_sem,bQx,bQw,ht,H,aQ hv0,kC.ret,kA,kF]
    refine hC.mono ?_
    rintro v e1 c1 ⟨⟨ev,hev,_,rfl⟩,⟨bv2,t2⟩,k2⟩
    obtain⟨p3,q3⟩:=k2.loc (d:=3) (g:=cnt 0 3) (by simp[aC]) h.okt.ne.symm h.okr.ne.symm
    obtain⟨p4,q4⟩:=k2.loc (d:=4) (g:=cnt 0 4) (by simp[aC]) h.okt.ne.symm h.okr.ne.symm
    simp only[go_sem]at p3 p4;simp only[go_sem,kK,p4,kA,kF]
    refine⟨rfl,kN 9 rfl (by simp only[p4,cH];rfl) rfl,?_⟩
    obtain⟨⟨bv3,t3⟩,k3⟩:=h.fin t2 (k1.trans k2) (cnt2:=c1) (en2:=(e1.set ⟨0,4,cnt 0 4⟩ (some (.box [.i bn,ev,.cl []] false))).set ⟨0,3,cnt 0 3⟩ (some (.box [.i 6,.i 0,.cl [],.cl [.agg [.i bn,.fz (be.map aD.enc),.fz []]]] false))) (fun k hk _=>by simp only[hk.set]) (aN _)
    rcases hev with rfl|rfl<;>
    (simp only[go_sem,kB,p3]
     refine cK 2 rfl ?_
     simp only[go_sem,bO5,bO3];exact(pB t3 (o:=⟨6,0,[],[⟨bn,be,[]⟩]⟩) (by omega) (by omega)).mono fun _ _ _=>oZ.then k3)
   ·rw[if_neg h20]
    refine rH aIe.2 rfl rfl ?_
    simp only[go_sem,kK,aIe]
    refine oG rfl ?_
    simp only[go_sem,bQx,bQw,ht,H,aQ hv0,kC.ret,kA,kF]
    refine hC.mono ?_
    rintro v e1 c1 ⟨⟨ev,hev,_,rfl⟩,⟨bv2,t2⟩,k2⟩
    obtain⟨p3,q3⟩:=k2.loc (d:=3) (g:=cnt 0 3) (by simp[aC]) h.okt.ne.symm h.okr.ne.symm
    obtain⟨p4,q4⟩:=k2.loc (d:=4) (g:=cnt 0 4) (by simp[aC]) h.okt.ne.symm h.okr.ne.symm
    simp only[go_sem]at p3 p4;simp only[go_sem,kK,p4,kA,kF]
    refine⟨rfl,kN 9 rfl (by simp only[p4,cH];rfl) rfl,?_⟩
    obtain⟨⟨bv3,t3⟩,k3⟩:=h.fin t2 (k1.trans k2) (cnt2:=c1) (en2:=(e1.set ⟨0,4,cnt 0 4⟩ (some (.box [.i bn,ev,.cl []] false))).set ⟨0,3,cnt 0 3⟩ (some (.box [.i 6,.i 0,.cl [],.cl [.agg [.i bn,.fz (be.map aD.enc),.fz []]]] false))) (fun k hk _=>by simp only[hk.set]) (aN _)
    rcases hev with rfl|rfl<;>
    (simp only[go_sem,kB,p3]
     refine bL ?_
     simp only[go_sem]
     refine(rC t3 (o:=⟨6,0,[],[⟨bn,be,[]⟩]⟩) (.inr rfl) (.inr rfl) (by omega)).mono ?_
     rintro v e4 c4 ⟨rfl,⟨bv4,t4⟩,k4⟩
     have ht4:=t4.t;have hr4:=t4.r;have y1:=t4.okt.set;have y2:=t4.okr.set;have y3:=t4.okt.eqF;have y4:=t4.okt.eqF';have y5:=t4.okr.eqF;have y6:=t4.okr.eqF';have y7:=t4.okt.new;have y8:=t4.okr.new;simp only[go_sem]
     refine aI ?_
     simp only[go_sem,ht4,hr4,kB,y1,y2,y3,bOz,(aHr _).ret,bT,eG,uP,aB0,hd1,haT,htl,rT,kA,kF]
     refine aI ?_
     simp only[go_sem,y8,kC.ret,kA,kF]
     refine(aNv t4 (x:=w.objs.length) (by simp[eF]) hop).mono fun v en' cnt' hh=>?_
     split at hh
     case h_2=>exact hh.elim
     rename_i E2 hE2;rw[hE2];exact⟨hh.1,hh.2.1,(k3.trans k4).trans hh.2.2⟩)
 |none=>
  simp only
  have hC:=aHv h1 hu hb
  by_cases hI:dA w (aE f.vals 0) 5=true
  ·rw[if_pos hI];have hW:=fun e1 c1 bv2 (t2:TS kt kr e1 c1 p w a left f n [] bv2)=>uQ t2 (fN hu) 5 hI
   generalize w.obj (aE f.vals 0).n=o at hW⊢;unfold iZ
   by_cases h20:120<=w.objs.length
   ·rw[if_pos h20]
    refine cA aIe.2 rfl rfl ?_
    simp only[go_sem,kK,aIe]
    refine oG rfl ?_
    simp only[go_sem,bQx,bQw,ht,H,aQ hv0,kC.ret,kA,kF]
    refine hC.mono ?_
    rintro v e1 c1 ⟨⟨xx,rfl,rfl⟩,⟨bv2,t2⟩,k2⟩
    obtain⟨p3,q3⟩:=k2.loc (d:=3) (g:=cnt 0 3) (by simp[aC]) h.okt.ne.symm h.okr.ne.symm
    obtain⟨p4,q4⟩:=k2.loc (d:=4) (g:=cnt 0 4) (by simp[aC]) h.okt.ne.symm h.okr.ne.symm
    simp only[go_sem]at p3 p4;simp only[go_sem,kK,p4,kA,kF]
    refine⟨rfl,kN 9 rfl (by simp only[p4,cH];rfl) rfl,?_⟩
    obtain⟨⟨bv3,t3⟩,k3⟩:=h.fin t2 (k1.trans k2) (cnt2:=c1) (en2:=e1.set ⟨0,4,cnt 0 4⟩ (some (.box [.i 0,.cl [],.cl []] false))) (fun k hk _=>by simp only[hk.set]) (aN _)
    have ht2:=t2.t
    refine bL ?_
    simp only[go_sem,H,ht2,aQ hv0]
    refine(hW _ _ _ t3).mono ?_
    rintro v e4 c4 ⟨rfl,⟨bv4,t4⟩,k4⟩
    obtain⟨r3,u3⟩:=k4.loc (d:=3) (g:=cnt 0 3) q3.2 h.okt.ne.symm h.okr.ne.symm;simp only[go_sem,p3]at r3;simp only[go_sem,kB,aLl,aFl,r3,kC.ret];obtain⟨⟨bv6,t6⟩,k6⟩:=h.fin t4 (k3.trans k4) (cnt2:=c4) (en2:=(e4.set ⟨0,3,cnt 0 3⟩ (some (.box [.i 6,.i 0,.cl [],.fz (o.frames.map aB.enc)] false))).set ⟨0,3,cnt 0 3⟩ (some (.box [.i 6,.i 0,.cl [.agg [.i bO.kind,.i bO.n]],.fz (o.frames.map aB.enc)] false))) (fun k hk _=>by simp only[hk.set]) (aN _)
    refine cK 2 rfl ?_
    simp only[go_sem,bO5,bO3];exact(pB t6 (o:=⟨6,0,[bO],o.frames⟩) (by omega) (by omega)).mono fun _ _ _=>oZ.then k6
   ·rw[if_neg h20]
    refine rH aIe.2 rfl rfl ?_
    simp only[go_sem,kK,aIe]
    refine oG rfl ?_
    simp only[go_sem,bQx,bQw,ht,H,aQ hv0,kC.ret,kA,kF]
    refine hC.mono ?_
    rintro v e1 c1 ⟨⟨xx,rfl,rfl⟩,⟨bv2,t2⟩,k2⟩
    obtain⟨p3,q3⟩:=k2.loc (d:=3) (g:=cnt 0 3) (by simp[aC]) h.okt.ne.symm h.okr.ne.symm
    obtain⟨p4,q4⟩:=k2.loc (d:=4) (g:=cnt 0 4) (by simp[aC]) h.okt.ne.symm h.okr.ne.symm
    simp only[go_sem]at p3 p4;simp only[go_sem,kK,p4,kA,kF]
    refine⟨rfl,kN 9 rfl (by simp only[p4,cH];rfl) rfl,?_⟩
    obtain⟨⟨bv3,t3⟩,k3⟩:=h.fin t2 (k1.trans k2) (cnt2:=c1) (en2:=e1.set ⟨0,4,cnt 0 4⟩ (some (.box [.i 0,.cl [],.cl []] false))) (fun k hk _=>by simp only[hk.set]) (aN _)
    have ht2:=t2.t
    refine bL ?_
    simp only[go_sem,H,ht2,aQ hv0]
    refine(hW _ _ _ t3).mono ?_
    rintro v e4 c4 ⟨rfl,⟨bv4,t4⟩,k4⟩
    obtain⟨r3,u3⟩:=k4.loc (d:=3) (g:=cnt 0 3) q3.2 h.okt.ne.symm h.okr.ne.symm;simp only[go_sem,p3]at r3;simp only[go_sem,kB,aLl,aFl,r3,kC.ret];obtain⟨⟨bv6,t6⟩,k6⟩:=h.fin t4 (k3.trans k4) (cnt2:=c4) (en2:=(e4.set ⟨0,3,cnt 0 3⟩ (some (.box [.i 6,.i 0,.cl [],.fz (o.frames.map aB.enc)] false))).set ⟨0,3,cnt 0 3⟩ (some (.box [.i 6,.i 0,.cl [.agg [.i bO.kind,.i bO.n]],.fz (o.frames.map aB.enc)] false))) (fun k hk _=>by simp only[hk.set]) (aN _)
    refine bL ?_
    simp only[go_sem]
    refine(rC t6 (o:=⟨6,0,[bO],o.frames⟩) (.inr rfl) (.inl rfl) (by omega)).mono ?_
    rintro v e7 c7 ⟨rfl,⟨bv7,t7⟩,k7⟩
    have ht7:=t7.t;have hr7:=t7.r;have y1:=t7.okt.set;have y2:=t7.okr.set;have y3:=t7.okt.eqF;have y4:=t7.okt.eqF';have y5:=t7.okr.eqF;have y6:=t7.okr.eqF';have y7:=t7.okt.new;have y8:=t7.okr.new;simp only[go_sem]
    refine aI ?_
    simp only[go_sem,ht7,hr7,kB,y1,y2,y3,bOz,(aHr _).ret,bT,eG,uP,aB0,hd1,haT,htl,rT,kA,kF]
    refine aI ?_
    simp only[go_sem,y8,kC.ret,kA,kF]
    refine(aNv t7 (x:=w.objs.length) (by simp[eF]) hop).mono fun v en' cnt' hh=>?_
    split at hh
    case h_2=>exact hh.elim
    rename_i E2 hE2;rw[hE2];exact⟨hh.1,hh.2.1,(k6.trans k7).trans hh.2.2⟩
  ·rw[if_neg hI];rw[bP6]at hI
   refine cA aIe.2 rfl rfl ?_
   simp only[go_sem,kK,aIe]
   refine oG rfl ?_
   simp only[go_sem,bQx,bQw,ht,H,aQ hv0,kC.ret,kA,kF]
   refine hC.mono ?_
   rintro v e1 c1 ⟨⟨xx,rfl,rfl⟩,⟨bv2,t2⟩,k2⟩
   obtain⟨p3,q3⟩:=k2.loc (d:=3) (g:=cnt 0 3) (by simp[aC]) h.okt.ne.symm h.okr.ne.symm
   obtain⟨p4,q4⟩:=k2.loc (d:=4) (g:=cnt 0 4) (by simp[aC]) h.okt.ne.symm h.okr.ne.symm
   simp only[go_sem]at p3 p4;simp only[go_sem,kK,p4,kA,kF]
   refine⟨rfl,kN 9 rfl (by simp only[p4,cH];rfl) rfl,?_⟩
   obtain⟨⟨bv3,t3⟩,k3⟩:=h.fin t2 (k1.trans k2) (cnt2:=c1) (en2:=e1.set ⟨0,4,cnt 0 4⟩ (some (.box [.i 0,.cl [],.cl []] false))) (fun k hk _=>by simp only[hk.set]) (aN _)
   have ht2:=t2.t
   refine cK 8 rfl ?_
   simp only[go_sem,bO5,bO3,H,ht2,aQ hv0];exact(uR t3 (fN hu) 5 hI).mono fun _ _ _=>oZ.then k3
end
def aWm :jB:={np:=1,res:=[.tmp 2],keep:=false,body:=
 (.seq (.ops [mC 2 .nili])
 (.seq (.draw [mT 5 0,
 nK 6 5,
 fA 7 3 6,
 fA 8 2 7,
 l1 9 8,
 o 10 (.ia 2 (.t 9) (cI 0)),
 lT 11 2 10,
 mT 12 0,
 nK 13 12,
 fA 14 3 13,
 fA 15 2 14,
 l1 16 15,
 o 17 (.ia 2 (.t 16) (cI 1)),
 lT 18 2 17,
 o 3 (.alloc [(.int .i64 0),(.int .i64 0)]),
 o 4 (.alloc [(.int .i64 0),(.int .i64 0)]),
 sT 2 3 11,
 sT 2 4 18]
 [(4,14),(5,14),(6,14),(11,14),(12,14),(13,14),(4,15),(5,15),(6,15),(11,15),(12,15),(13,15),(14,15),(11,16),(12,16),(13,16)])
 (.seq (.opsP [fA 19 0 3,
 l1 20 19,
 fA 21 0 4,
 l1 22 21,
 bN 23 .eql (.t 20) (.t 22),
 mT 24 23,
 gF 25 24 true 0 3,
 g1 26 24 true 25,
 gB 27 24 true .leq (.t 26) (cI 3),
 pA 28 24 27,
 cL 29 264 [(.t 28),(cI 2)]])
 (.seq (.ops [mT 30 0,
 lT 31 2 3,
 lT 32 2 4,
 o 33 (.bin .eql (.agg [.num,.num]) (.t 31) (.t 32)),
 cL 34 325 [(.t 33)],
 o 35 (.icall (.f 323) [(.t 30),(.t 34)]),
 mT 2 35])
 .ret))))}
theorem bB2 :L 274=some aWm:=by kernel_rfl
section
theorem bD6 (P0:Pre p w0 S w a left f n)(h:TS kt kr en cnt p w a left f n [] bv)(hop:n.op=13):qQ 274 kt kr en cnt p w a left f n (opR p w a left f n):=by
 have e:opR p w a left f n=(if¬(aE f.vals 0).kind=(aE f.vals 1).kind \/3<(aE f.vals 0).kind then .fail 2 else iQ w left (mR (decide (aE f.vals 0=aE f.vals 1)))):=by unfold opR;rw[hop];rfl
 rw[e];have hfull:=P0.full;simp[aJ.asks,hop]at hfull;have hv0:0<f.vals.length:=by omega
 have hv1:1<f.vals.length:=by omega
 have H:=h.pre;have ht:=h.t
 by_cases hk:(aE f.vals 0).kind=(aE f.vals 1).kind
 ·have dk:decide ((aE f.vals 0).kind=(aE f.vals 1).kind)=true:=decide_eq_true hk
  by_cases h3:3<(aE f.vals 0).kind
  ·rw[if_pos (.inr h3)];have d3:decide ((aE f.vals 0).kind<=3)=false:=decide_eq_false (by omega)
   refine cA bB2 rfl rfl ?_
   simp only[go_sem,kK,aWm]
   refine aI ?_
   simp only[go_sem,ht,H,aQ hv0,gE hv1,kA,kF]
   refine cK 10 rfl ?_
   simp only[go_sem,kK,bO5,bO3,dk,d3,(jZ _).ret];exact h.fell0 (fun k hk=>by simp only[hk.set]) (by(repeat refine upS ?_ (by omega));exact aN _)
  ·rw[if_neg (by rintro(h|h);exact h hk;exact h3 h)]
   have d3:decide ((aE f.vals 0).kind<=3)=true:=decide_eq_true (by omega)
   have hb:(decide ((aE f.vals 0).kind=(aE f.vals 1).kind)&&decide ((aE f.vals 0).n=(aE f.vals 1).n))=decide (aE f.vals 0=aE f.vals 1):=by
    cases aE f.vals 0;cases aE f.vals 1;simp
   refine bD bB2 rfl rfl ?_
   simp only[go_sem,kK,aWm]
   refine aI ?_
   simp only[go_sem,ht,H,aQ hv0,gE hv1,kA,kF]
   refine bL ?_
   simp only[go_sem,kK,dk,d3,(gY _).ret];rw[dk]at hb
   try simp only[go_sem]at hb
   simp only[go_sem,hb,(aE4 _).ret];obtain⟨⟨bv1,h1⟩,k1⟩:=h.stay (cnt':=aC (aC cnt 0 3 (cnt 0 3+1)) 0 4 (cnt 0 4+1)) (en':=(((en.set ⟨0,3,cnt 0 3⟩ (some (.box [.i 0,.i 0] false))).set ⟨0,4,cnt 0 4⟩ (some (.box [.i 0,.i 0] false))).set ⟨0,3,cnt 0 3⟩ (some (.box [.i (aE f.vals 0).kind,.i (aE f.vals 0).n] false))).set ⟨0,4,cnt 0 4⟩ (some (.box [.i (aE f.vals 1).kind,.i (aE f.vals 1).n] false))) (fun k hk=>by simp only[hk.set]) (by(repeat refine upS ?_ (by omega));exact aN _)
   refine(iO h1 _).mono ?_
   rintro v e2 c2 ⟨rfl,t2,k2⟩
   exact⟨rfl,t2,k1.trans k2⟩
 ·rw[if_pos (.inl hk)];have dk:decide ((aE f.vals 0).kind=(aE f.vals 1).kind)=false:=decide_eq_false hk
  refine cA bB2 rfl rfl ?_
  simp only[go_sem,kK,aWm]
  refine aI ?_
  simp only[go_sem,ht,H,aQ hv0,gE hv1,kA,kF]
  refine cK 10 rfl ?_
  simp only[go_sem,kK,bO5,bO3,dk,(jZ _).ret];exact h.fell0 (fun k hk=>by simp only[hk.set]) (by(repeat refine upS ?_ (by omega));exact aN _)
theorem bD7 (P0:Pre p w0 S w a left f n)(h:TS kt kr en cnt p w a left f n [] bv)(hop:n.op=16):qQ 277 kt kr en cnt p w a left f n (opR p w a left f n):=by
 have e:opR p w a left f n=iZ w ⟨3,0,[aE f.vals 0],[]⟩ fun w' v=>jY w' a left 16 0 v (aE f.vals 0):=by unfold opR;rw[hop];rfl
 rw[e];have hfull:=P0.full;simp[aJ.asks,hop]at hfull;have hv0:0<f.vals.length:=by omega
 have h120:=P0.objs;have H:=h.pre;have ht:=h.t;unfold iZ;obtain⟨⟨bv1,h1⟩,k1⟩:=h.stay (cnt':=aC cnt 0 3 (cnt 0 3+1)) (en':=(en.set ⟨0,3,cnt 0 3⟩ (some (.box [.i 0,.i 0] false))).set ⟨0,3,cnt 0 3⟩ (some (.box [.i (aE f.vals 0).kind,.i (aE f.vals 0).n] false))) (fun k hk=>by simp only[hk.set]) (by(repeat refine upS ?_ (by omega));exact aN _)
 by_cases hc:120<=w.objs.length
 ·rw[if_pos hc];have hL:=at_ Tryz.func277
  conv at hL=>rhs;reduce
  refine cA hL rfl rfl ?_
  simp only[go_sem,kK,ht,aQ hv0]
  refine cK 4 rfl ?_
  simp only[go_sem,bO5,bO3,bP9,bP8,kB];exact(pB h1 (o:=⟨3,0,[aE f.vals 0],[]⟩) hc (by omega)).mono fun _ _ _=>oZ.then k1
 ·rw[if_neg hc];have hL:=at_ Tryz.func277
  conv at hL=>rhs;reduce
  refine bD hL rfl rfl ?_
  simp only[go_sem,kK,ht,aQ hv0]
  refine bL ?_
  simp only[go_sem,kB]
  refine(rC h1 (o:=⟨3,0,[aE f.vals 0],[]⟩) (.inr rfl) (.inr rfl) (by omega)).mono ?_
  rintro v e1 c1 ⟨rfl,⟨bv2,t2⟩,k2⟩
  obtain⟨p3,q3⟩:=k2.loc (d:=3) (g:=cnt 0 3) (by simp only[go_sem];omega) h.okt.ne.symm h.okr.ne.symm
  simp only[go_sem]at p3;simp only[go_sem,p3,q3.set];obtain⟨⟨bv3,t3⟩,k3⟩:=h.fin t2 (k1.trans k2) (cnt2:=aC c1 0 4 (c1 0 4+1)) (en2:=(e1.set ⟨0,4,c1 0 4⟩ (some (.box [.i 0,.i 0] false))).set ⟨0,4,c1 0 4⟩ (some (.box [.i (dO w.objs.length).kind,.i (dO w.objs.length).n] false))) (fun k hk hj=>by simp only[hj.set]) (by(repeat refine upS ?_ (by omega));exact aN _)
  refine(qK t3 (dO w.objs.length) (aE f.vals 0)).mono ?_
  rintro v e2 c2 ⟨rfl,t4,k4⟩
  refine⟨?_,t4,k3.trans k4⟩
  rw[hop];rfl
theorem bD8 (P0:Pre p w0 S w a left f n)(h:TS kt kr en cnt p w a left f n [] bv)(hop:n.op=21):qQ 282 kt kr en cnt p w a left f n (opR p w a left f n):=by
 have e:opR p w a left f n=iZ w ⟨4,0,[],[]⟩ fun w' v=>jY w' a left 21 0 v bO:=by unfold opR;rw[hop];rfl
 rw[e];have h120:=P0.objs;have H:=h.pre;unfold iZ
 by_cases hc:120<=w.objs.length
 ·rw[if_pos hc];have hL:=at_ Tryz.func282
  conv at hL=>rhs;reduce
  refine cA hL rfl rfl ?_
  simp only[go_sem,kK]
  refine cK 2 rfl ?_
  simp only[go_sem,bO5,bO3];exact pB h (o:=⟨4,0,[],[]⟩) hc (by omega)
 ·rw[if_neg hc];have hL:=at_ Tryz.func282
  conv at hL=>rhs;reduce
  refine bD hL rfl rfl ?_
  simp only[go_sem,kK]
  refine bL ?_
  simp only[go_sem]
  refine(rC h (o:=⟨4,0,[],[]⟩) (.inr rfl) (.inr rfl) (by omega)).mono ?_
  rintro v e1 c1 ⟨rfl,⟨bv2,t2⟩,k2⟩
  try simp only[go_sem]
  refine aI ?_
  simp only[go_sem,kC.ret,kA,kF];obtain⟨⟨bv3,t3⟩,k3⟩:=h.fin t2 k2 (cnt2:=aC c1 0 3 (c1 0 3+1)) (en2:=(e1.set ⟨0,3,c1 0 3⟩ (some (.box [.i 0,.i 0] false))).set ⟨0,3,c1 0 3⟩ (some (.box [.i (dO w.objs.length).kind,.i (dO w.objs.length).n] false))) (fun k hk hj=>by simp only[hj.set]) (by(repeat refine upS ?_ (by omega));exact aN _)
  refine(qK t3 (dO w.objs.length) bO).mono ?_
  rintro v e2 c2 ⟨rfl,t4,k4⟩
  refine⟨?_,t4,k3.trans k4⟩
  rw[hop];rfl
theorem bNf {o:aR}{P:aF}(h:OOk P S w o)(h3:o.form=3):o.vals.length=1:=by
 have hk:=h.ok;simp only[dK,h3]at hk
 simp at hk
 omega
theorem bD9 (P0:Pre p w0 S w a left f n)(h:TS kt kr en cnt p w a left f n [] bv)(hop:n.op=17):qQ 278 kt kr en cnt p w a left f n (opR p w a left f n):=by
 have e:opR p w a left f n=(if dA w (aE f.vals 0) 3=true then jY w a left 17 0 (aE (w.obj (aE f.vals 0).n).vals 0) (aE (w.obj (aE f.vals 0).n).vals 0)else .fail 2):=by unfold opR;rw[hop];rfl
 rw[e];have hfull:=P0.full;simp[aJ.asks,hop]at hfull;have hv0:0<f.vals.length:=by omega
 have hu:=P0.val hv0;have H:=h.pre;have ht:=h.t
 by_cases hI:dA w (aE f.vals 0) 3=true
 ·rw[if_pos hI];obtain⟨a1,a2,a3,a4⟩:=eZ P0.hF hu hI;have hl1:=bNf a2 a3;have hL:=at_ Tryz.func278
  conv at hL=>rhs;reduce
  refine bD hL rfl rfl ?_
  simp only[go_sem,kK]
  refine bL ?_
  simp only[go_sem,ht,aQ hv0]
  refine(uQ h (fN hu) 3 hI).mono ?_
  rintro v e1 c1 ⟨rfl,⟨bv2,t2⟩,k2⟩
  try simp only[go_sem,aLl,aFl,aQ (l:=(w.obj (aE f.vals 0).n).vals) (by omega)]
  obtain⟨⟨bv3,t3⟩,k3⟩:=h.fin t2 k2 (cnt2:=aC c1 0 3 (c1 0 3+1)) (en2:=(e1.set ⟨0,3,c1 0 3⟩ (some (.box [.i 0,.i 0] false))).set ⟨0,3,c1 0 3⟩ (some (.box [.i (aE (w.obj (aE f.vals 0).n).vals 0).kind,.i (aE (w.obj (aE f.vals 0).n).vals 0).n] false))) (fun k hk hj=>by simp only[hj.set]) (by(repeat refine upS ?_ (by omega));exact aN _)
  refine(qK t3 _ _).mono ?_
  rintro v e2 c2 ⟨rfl,t4,k4⟩
  refine⟨?_,t4,k3.trans k4⟩
  rw[hop];rfl
 ·rw[if_neg hI];rw[bP6]at hI;have hL:=at_ Tryz.func278
  conv at hL=>rhs;reduce
  refine cA hL rfl rfl ?_
  simp only[go_sem,kK]
  refine cK 8 rfl ?_
  simp only[go_sem,bO5,bO3,ht,aQ hv0];exact uR h (fN hu) 3 hI
theorem bEa (P0:Pre p w0 S w a left f n)(h:TS kt kr en cnt p w a left f n [] bv)(hop:n.op=18):qQ 279 kt kr en cnt p w a left f n (opR p w a left f n):=by
 have e:opR p w a left f n=(if dA w (aE f.vals 0) 3=true then jY (eC w (aE f.vals 0).n ⟨3,0,[aE f.vals 1],[]⟩) a left 18 0 bO (aE f.vals 1)else .fail 2):=by unfold opR;rw[hop];rfl
 rw[e];have hfull:=P0.full;simp[aJ.asks,hop]at hfull;have hv0:0<f.vals.length:=by omega
 have hv1:1<f.vals.length:=by omega
 have hu:=P0.val hv0;have h120:=P0.objs;have H:=h.pre;have ht:=h.t
 by_cases hI:dA w (aE f.vals 0) 3=true
 ·rw[if_pos hI];obtain⟨a1,a2,a3,a4⟩:=eZ P0.hF hu hI;simp only[inR,bSi]at a1;obtain⟨j,hj⟩: ∃j:Nat,(aE f.vals 0).n=(j:Int):=⟨(aE f.vals 0).n.toNat,by omega⟩
  have hL:=at_ Tryz.func279
  conv at hL=>rhs;reduce
  refine bD hL rfl rfl ?_
  simp only[go_sem,kK]
  refine bL ?_
  simp only[go_sem,ht,aQ hv0]
  refine(uQ h (fN hu) 3 hI).mono ?_
  rintro v e1 c1 ⟨rfl,⟨bv2,t2⟩,k2⟩
  have ht2:=t2.t
  try simp only[go_sem,kK,H,kB]
  refine aI ?_
  simp only[go_sem,kB,ht2,aQ hv0,gE hv1,hj,kA,kF]
  refine(aKz t2 (o:=⟨3,0,[aE f.vals 1],[]⟩) (.inr rfl) (.inr rfl) (j:=j) (by omega) (by omega)).mono ?_
  rintro v e3 c3 ⟨rfl,⟨bv3,t3⟩,k3⟩
  have ht3:=t3.t
  try simp only[go_sem,kK,H,kB,kA,kF]
  refine aI ?_
  simp only[go_sem,ht3,gE hv1,kC.ret,kA,kF]
  refine(qK t3 bO (aE f.vals 1)).mono ?_
  rintro v e4 c4 ⟨rfl,t4,k4⟩
  refine⟨?_,t4,(k2.trans k3).trans k4⟩
  rw[hop];rfl
 ·rw[if_neg hI];rw[bP6]at hI;have hL:=at_ Tryz.func279
  conv at hL=>rhs;reduce
  refine cA hL rfl rfl ?_
  simp only[go_sem,kK]
  refine cK 8 rfl ?_
  simp only[go_sem,bO5,bO3,ht,aQ hv0];exact uR h (fN hu) 3 hI
noncomputable def aS9 :{c//L 281=some c}:=by
 have hL:=at_ Tryz.func281
 conv at hL=>rhs;reduce
 exact⟨_,hL⟩
theorem bEb (P0:Pre p w0 S w a left f n)(h:TS kt kr en cnt p w a left f n [] bv)(hop:n.op=20):qQ 281 kt kr en cnt p w a left f n (opR p w a left f n):=by
 have e:opR p w a left f n=(if dA w (aE f.vals 0) 6=true then
   (if(w.obj (aE f.vals 0).n).n=0 then .wait
   else if¬(w.obj (aE f.vals 0).n).n=1 then .fail (w.obj (aE f.vals 0).n).n
   else jY w a left 20 0 (aE (w.obj (aE f.vals 0).n).vals 0) (aE (w.obj (aE f.vals 0).n).vals 0))
  else .fail 2):=by unfold opR;rw[hop];rfl
 rw[e];have hfull:=P0.full;simp[aJ.asks,hop]at hfull;have hv0:0<f.vals.length:=by omega
 have hu:=P0.val hv0;have H:=h.pre;have ht:=h.t
 by_cases hI:dA w (aE f.vals 0) 6=true
 ·rw[if_pos hI];obtain⟨a1,a2,a3,a4⟩:=eZ P0.hF hu hI;have hW:=uQ h (fN hu) 6 hI;generalize w.obj (aE f.vals 0).n=o at a2 a3 hW⊢
  by_cases h0:o.n=0
  ·rw[if_pos h0];have d0:decide (o.n=0)=true:=decide_eq_true h0
   refine bD aS9.2 rfl rfl ?_
   simp only[go_sem,kK,aS9]
   refine bL ?_
   simp only[go_sem,ht,aQ hv0]
   refine hW.mono ?_
   rintro v e1 c1 ⟨rfl,⟨bv2,t2⟩,k2⟩
   simp only[go_sem,kK,d0];exact⟨rfl,h.fin t2 k2 (fun k hk hj=>by simp only[hj.set]) (by(repeat refine upS ?_ (by omega));exact aN _)⟩
  ·rw[if_neg h0];have d0:decide (o.n=0)=false:=decide_eq_false h0
   by_cases h1:o.n=1
   ·rw[if_neg (fun h=>h h1)]
    have d1:decide (o.n=1)=true:=decide_eq_true h1;have hl1:0<o.vals.length:=by
     have hk:=a2.ok;rw[dK,if_pos a3,jN,if_neg h0,if_pos h1]at hk;simp only[bOx,bSi]at hk;omega
    refine bD aS9.2 rfl rfl ?_
    simp only[go_sem,kK,aS9]
    refine bL ?_
    simp only[go_sem,ht,aQ hv0]
    refine hW.mono ?_
    rintro v e1 c1 ⟨rfl,⟨bv2,t2⟩,k2⟩
    simp only[go_sem,kK,d0,d1,aQ hl1];obtain⟨⟨bv3,t3⟩,k3⟩:=h.fin t2 k2 (cnt2:=aC c1 0 3 (c1 0 3+1)) (en2:=(e1.set ⟨0,3,c1 0 3⟩ (some (.box [.i 0,.i 0,.cl [],.cl []] false))).set ⟨0,3,c1 0 3⟩ (some (.box [.i o.form,.i o.n,.fz (o.vals.map aD.enc),.fz (o.frames.map aB.enc)] false))) (fun k hk hj=>by simp only[hj.set]) (by(repeat refine upS ?_ (by omega));exact aN _)
    refine(qK t3 _ _).mono ?_
    rintro v e2 c2 ⟨rfl,t4,k4⟩
    refine⟨?_,t4,k3.trans k4⟩
    rw[hop];rfl
   ·rw[if_pos h1];have d1:decide (o.n=1)=false:=decide_eq_false h1
    refine cA aS9.2 rfl rfl ?_
    simp only[go_sem,kK,aS9]
    refine bL ?_
    simp only[go_sem,ht,aQ hv0]
    refine hW.mono ?_
    rintro v e1 c1 ⟨rfl,⟨bv2,t2⟩,k2⟩
    simp only[go_sem,kK,d0,d1]
    refine cK 4 rfl ?_
    simp only[go_sem,bO5,bO3];exact⟨rfl,h.fell t2 k2 (fun k hk hj=>by simp only[hj.set]) (by(repeat refine upS ?_ (by omega));exact aN _)⟩
 ·rw[if_neg hI];rw[bP6]at hI
  refine cA aS9.2 rfl rfl ?_
  simp only[go_sem,kK,aS9]
  refine cK 8 rfl ?_
  simp only[go_sem,bO5,bO3,ht,aQ hv0];exact uR h (fN hu) 6 hI
theorem bEc (P0:Pre p w0 S w a left f n)(h:TS kt kr en cnt p w a left f n [] bv)(hop:n.op=23):qQ 284 kt kr en cnt p w a left f n (opR p w a left f n):=by
 have e:opR p w a left f n=(if dA w (aE f.vals 0) 4=true then
   (if(w.obj (aE f.vals 0).n).vals.length=0 then .wait
   else jY (eC w (aE f.vals 0).n ⟨4,0,(w.obj (aE f.vals 0).n).vals.drop 1,[]⟩) a left 23 0 (aE (w.obj (aE f.vals 0).n).vals 0) (aE (w.obj (aE f.vals 0).n).vals 0))
  else .fail 2):=by unfold opR;rw[hop];rfl
 rw[e];have hfull:=P0.full;simp[aJ.asks,hop]at hfull;have hv0:0<f.vals.length:=by omega
 have hu:=P0.val hv0;have h120:=P0.objs;have H:=h.pre;have ht:=h.t
 by_cases hI:dA w (aE f.vals 0) 4=true
 ·rw[if_pos hI];obtain⟨a1,a2,a3,a4⟩:=eZ P0.hF hu hI;have hW:=uQ h (fN hu) 4 hI;simp only[inR,bSi]at a1;obtain⟨j,hj⟩: ∃j:Nat,(aE f.vals 0).n=(j:Int):=⟨(aE f.vals 0).n.toNat,by omega⟩
  generalize w.obj (aE f.vals 0).n=o at a2 a3 hW⊢;have hk:=a2.ok;simp only[dK,a3]at hk
  simp at hk
  obtain⟨q1,q2,q3⟩:=hk
  by_cases h0:o.vals.length=0
  ·rw[if_pos h0];have d0:decide ((o.vals.length:Int)=0)=true:=decide_eq_true (by omega)
   have d0':decide (o.vals.length=0)=true:=decide_eq_true h0;have hL:=at_ Tryz.func284
   conv at hL=>rhs;reduce
   refine bD hL rfl rfl ?_
   simp only[go_sem,kK]
   refine bL ?_
   simp only[go_sem,ht,aQ hv0]
   refine hW.mono ?_
   rintro v e1 c1 ⟨rfl,⟨bv2,t2⟩,k2⟩
   simp only[go_sem,kK,bOz,d0];exact⟨rfl,h.fin t2 k2 (fun k hk hj=>by simp only[hj.set]) (by(repeat refine upS ?_ (by omega));exact aN _)⟩
  ·rw[if_neg h0];have d0:decide ((o.vals.length:Int)=0)=false:=decide_eq_false (by omega)
   have d0':decide (o.vals.length=0)=false:=decide_eq_false h0;have hL:=at_ Tryz.func284
   conv at hL=>rhs;reduce
   refine bD hL rfl rfl ?_
   simp only[go_sem,kK]
   refine bL ?_
   simp only[go_sem,ht,aQ hv0]
   refine hW.mono ?_
   rintro v e1 c1 ⟨rfl,⟨bv2,t2⟩,k2⟩
   have ht2:=t2.t;have z1:=t2.okt.set;simp only[go_sem,kK,z1,ht2,bOz,d0,aQ (l:=o.vals) (by omega),aCa (xs:=o.vals.map aD.enc) (by rw[bOz];omega) (sR _),<-bRs,aQ hv0,hj]
   obtain⟨⟨bv3,t3⟩,k3⟩:=h.fin t2 k2 (cnt2:=aC (aC c1 0 3 (c1 0 3+1)) 0 4 (c1 0 4+1)) (en2:=((((e1.set ⟨0,3,c1 0 3⟩ (some (.box [.i 0,.i 0,.cl [],.cl []] false))).set ⟨0,3,c1 0 3⟩ (some (.box [.i o.form,.i o.n,.fz (o.vals.map aD.enc),.fz (o.frames.map aB.enc)] false))).set ⟨0,4,c1 0 4⟩ (some (.box [.i 0,.i 0] false))).set ⟨0,4,c1 0 4⟩ (some (.box [.i (aE o.vals 0).kind,.i (aE o.vals 0).n] false))).set ⟨0,3,c1 0 3⟩ (some (.box [.i o.form,.i o.n,.fz ((o.vals.drop 1).map aD.enc),.fz (o.frames.map aB.enc)] false))) (fun k hk hj=>by simp only[hj.set]) (by(repeat refine upS ?_ (by omega));exact aN _)
   refine(aKz t3 (o:=⟨o.form,o.n,o.vals.drop 1,o.frames⟩) (.inl rfl) (.inl rfl) (j:=j) (by omega) (by omega)).mono ?_
   rintro v e3 c3 ⟨rfl,⟨bv4,t4⟩,k4⟩
   obtain⟨p4,q4⟩:=k4.loc (d:=4) (g:=c1 0 4) (by simp only[go_sem];omega) t2.okt.ne.symm t2.okr.ne.symm
   simp only[go_sem]at p4;simp only[go_sem,p4]
   refine(qK t4 (aE o.vals 0) (aE o.vals 0)).mono ?_
   rintro v e5 c5 ⟨rfl,t5,k5⟩
   have eo:(⟨o.form,o.n,o.vals.drop 1,o.frames⟩:aR)=⟨4,0,o.vals.drop 1,[]⟩:=by rw[a3,q1,q2]
   rw[eo]at t5
   refine⟨?_,t5,(k3.trans k4).trans k5⟩
   rw[hop];rfl
 ·rw[if_neg hI];rw[bP6]at hI;have hL:=at_ Tryz.func284
  conv at hL=>rhs;reduce
  refine cA hL rfl rfl ?_
  simp only[go_sem,kK]
  refine cK 8 rfl ?_
  simp only[go_sem,bO5,bO3,ht,aQ hv0];exact uR h (fN hu) 4 hI
theorem bEd (P0:Pre p w0 S w a left f n)(h:TS kt kr en cnt p w a left f n [] bv)(hop:n.op=24):qQ 285 kt kr en cnt p w a left f n (opR p w a left f n):=by
 have e:opR p w a left f n=(if¬(aE f.vals 0).kind=1 then .fail 2
  else if 100<=w.outs.length then .fail 4
  else jY ⟨w.objs,w.tasks,w.outs++[⟨n.n,(aE f.vals 0).n⟩],w.ins,w.used⟩ a left 24 n.n bO (aE f.vals 0)):=by unfold opR;rw[hop];rfl
 rw[e];have hfull:=P0.full;simp[aJ.asks,hop]at hfull;have hv0:0<f.vals.length:=by omega
 have h100:w.outs.length<=100:=(cV.1 P0.hF.ok).2.1;have H:=h.pre;have ht:=h.t;have hr:=h.r
 by_cases h1:(aE f.vals 0).kind=1
 ·rw[if_neg (fun h=>h h1)]
  have d1:decide ((aE f.vals 0).kind=1)=true:=decide_eq_true h1
  by_cases hc:100<=w.outs.length
  ·rw[if_pos hc];have d2:decide ((w.outs.length:Int)<100)=false:=decide_eq_false (by omega)
   have hL:=at_ Tryz.func285
   conv at hL=>rhs;reduce
   refine cA hL rfl rfl ?_
   simp only[go_sem,kK,ht,aQ hv0]
   refine bL ?_
   simp only[go_sem,d1,(gY _).ret]
   refine cK 10 rfl ?_
   simp only[go_sem,bO5,bO3,H,ht,hr,bOz,d2,(jZ _).ret];exact h.fell0 (fun k hk=>by simp only[hk.set]) (by(repeat refine upS ?_ (by omega));exact aN _)
  ·rw[if_neg hc];have d2:decide ((w.outs.length:Int)<100)=true:=decide_eq_true (by omega)
   have hl:w.outs.length+1<=16777216:=by omega
   have hd1:cY 2 [.agg [.i n.n,.i (aE f.vals 0).n]]=true:=rfl;have hL:=at_ Tryz.func285
   conv at hL=>rhs;reduce
   refine rH hL rfl rfl ?_
   simp only[go_sem,kK,ht,aQ hv0]
   refine bL ?_
   simp only[go_sem,d1,(gY _).ret]
   refine bL ?_
   simp only[go_sem,H,ht,hr,bOz,d2,(gY _).ret]
   refine aI ?_
   simp only[go_sem,ht,hr,H,kB,bOz,(aSo _).ret,bT,eG,uP,aPk,hd1,hl,rT,kA,kF]
   refine aI ?_
   simp only[go_sem,H,kC.ret,kA,kF];have hu: ∀t,cnt 0 t<=aC (aC cnt 0 3 (cnt 0 3+1)) 0 48 (cnt 0 48+1) 0 t:=(by(repeat refine upS ?_ (by omega));exact aN _)
   refine(aNl (f:=f) (n:=n) (by simp only[H];exact ht) (h.okt.up hu) bO (aE f.vals 0)).mono ?_
   rintro v e1 c1 ⟨rfl,tb,old,up⟩
   have h0:TS kt kr (en.set kt (some (.box [.ptr kr 0,.i a,.fz (left.map aB.enc),.i f.node,.fz (f.env.map aD.enc),.fz (f.vals.map aD.enc),.i n.op,.i n.n,.is n.kids,.fz (n.pats.map Pat.enc),.cl [.agg [.i bO.kind,.i bO.n]]] false))) cnt p w a left f n [bO] (.cl [.agg [.i bO.kind,.i bO.n]]):=⟨h.okt,h.okr,h.ne,.inr rfl,cH,by rw[aK h.ne];exact hr⟩
   have o48:=old ⟨0,48,cnt 0 48⟩ ⟨rfl,by simp only[go_sem];omega⟩ h.okt.ne.symm
   simp only[go_sem,H]at o48;have okr:=old kr (h.okr.up hu) h.ne;simp only[go_sem]at okr;have hA:w.outs.map bR.enc++[.agg [.i n.n,.i (aE f.vals 0).n]]=(w.outs++[(⟨n.n,(aE f.vals 0).n⟩:bR)]).map bR.enc:=by simp[bR.enc]
   rw[hA]at o48;have hF:=bBk h0 (w':=⟨w.objs,w.tasks,w.outs++[⟨n.n,(aE f.vals 0).n⟩],w.ins,w.used⟩) (E:=e1) (c:=c1) (by rw[tb,cH]) okr rfl rfl (sS o48 (by simp)) rfl (by simp) (fun k hk k1 k2=>by rw[old k (hk.up hu) k1,aK k1,aK k2,hk.set,hk.set,hk.set]) (fun t=>bPb (hu t) (up t))
   split at hF
   case h_2=>exact hF.elim
   rename_i E2 hE2;rw[hE2]
   refine⟨?_,hF.1,fun k hk k1 k2=>(hF.2.old k hk k1 k2).trans (aK k1),hF.2.up⟩
   rw[hop];rfl
 ·rw[if_pos h1];have d1:decide ((aE f.vals 0).kind=1)=false:=decide_eq_false h1;have hL:=at_ Tryz.func285
  conv at hL=>rhs;reduce
  refine cA hL rfl rfl ?_
  simp only[go_sem,kK,ht,aQ hv0]
  refine cK 3 rfl ?_
  simp only[go_sem,bO5,bO3,d1,(jZ _).ret];exact h.fell0 (fun k hk=>by simp only[hk.set]) (by(repeat refine upS ?_ (by omega));exact aN _)
theorem bEe {x:Int}{xs:List Int}:nO 1 en (.fz (.i x::xs.map (.int .i64))) (.i 0)=some {v:= .fp [.i x] 0}:=(rfl)
theorem bEf (P0:Pre p w0 S w a left f n)(h:TS kt kr en cnt p w a left f n [] bv)(hop:n.op=25):qQ 286 kt kr en cnt p w a left f n (opR p w a left f n):=by
 have e:opR p w a left f n=(match w.ins with
  |[]=> .wait
  |x::xs=>if 1000000000<=w.used then .fail 4 else jY ⟨w.objs,w.tasks,w.outs,xs,w.used+1⟩ a left 25 0 (mK x) (mK x)):=by unfold opR;rw[hop];rfl
 rw[e];have h50:w.used<=1000000000/\ 0<=w.used:=by
  have:=(cV.1 P0.hF.ok).2.2.2.1;simp only[inR,bSi]at this;omega
 have H:=h.pre;have hn:=h.ne;have ht:=h.t;have hr:=h.r;cases hi:w.ins with
 |nil=>
  rw[hi]at hr;simp only[Val.is,bPf]at hr;have hL:=at_ Tryz.func286
  conv at hL=>rhs;reduce
  refine bD hL rfl rfl ?_
  simp only[go_sem,kK,ht,hr,bPe];exact⟨rfl,⟨bv,h⟩,dU.refl _ _ _ _⟩
 |cons x xs=>
  rw[hi]at hr;simp only[Val.is,bPw]at hr;have hlx:xs.length<=50:=by
   have:=(cV.1 P0.hF.ok).2.2.1;rw[hi]at this;simp only[nA,bOx,bSi,bO7]at this;omega
  have d0:decide ((xs.length+1:Nat)=0)=false:=decide_eq_false (by omega)
  have d0':decide (((xs.length+1:Nat):Int)=0)=false:=decide_eq_false (by omega)
  simp only
  by_cases hu:1000000000<=w.used
  ·rw[if_pos hu];have d1:decide (w.used<1000000000)=false:=decide_eq_false (by omega)
   have hL:=at_ Tryz.func286
   conv at hL=>rhs;reduce
   refine cA hL rfl rfl ?_
   simp only[go_sem,kK,ht,hr,bO7,bOz,d0']
   refine cK 9 rfl ?_
   simp only[go_sem,bO5,bO3,ht,hr,d1,(jZ _).ret];exact h.fell0 (fun _ _=>rfl) (aN _)
  ·rw[if_neg hu];have d1:decide (w.used<1000000000)=true:=decide_eq_true (by omega)
   have hw:IntKind.i64.wrap (w.used+1)=w.used+1:=aW (by omega)
   have hL:=at_ Tryz.func286
   conv at hL=>rhs;reduce
   refine bD hL rfl rfl ?_
   simp only[go_sem,kK,ht,hr,bO7,bOz,d0']
   refine bL ?_
   simp only[go_sem,ht,hr,d1,(gY _).ret];simp only[go_sem,H,ht,hr,bEe,(tD _).ret,aCa (size:=1) (xs:= .i x::xs.map (.int .i64)) (by simp) rfl,hw]
   refine WIn.mono (qK (w:=⟨w.objs,w.tasks,w.outs,xs,w.used+1⟩) (left:=left) (back:=[]) (bv:=bv) ⟨h.okt.up (by(repeat refine upS ?_ (by omega));exact aN _),h.okr.up (by(repeat refine upS ?_ (by omega));exact aN _),hn,h.ob,by simp only[H];exact ht,cH⟩ (mK x) (mK x)) ?_
   rintro v e2 c2 ⟨rfl,t4,k4⟩
   refine⟨?_,t4,(show dU kt kr en cnt _ _ from⟨fun k hk a b=>by simp only[hk.set,aK b],(by(repeat refine upS ?_ (by omega));exact aN _)⟩).trans k4⟩
   rw[hop];rfl
theorem bEg (P0:Pre p w0 S w a left f n)(h:TS kt kr en cnt p w a left f n [] bv)(hop:n.op=22):qQ 283 kt kr en cnt p w a left f n (opR p w a left f n):=by
 have e:opR p w a left f n=(if dA w (aE f.vals 0) 4=true then
   (if 4<=(w.obj (aE f.vals 0).n).vals.length then .wait
   else jY (eC w (aE f.vals 0).n ⟨4,0,(w.obj (aE f.vals 0).n).vals++[aE f.vals 1],[]⟩) a left 22 0 bO (aE f.vals 1))
  else .fail 2):=by unfold opR;rw[hop];rfl
 rw[e];have hfull:=P0.full;simp[aJ.asks,hop]at hfull;have hv0:0<f.vals.length:=by omega
 have hv1:1<f.vals.length:=by omega
 have hu:=P0.val hv0;have h120:=P0.objs;have H:=h.pre;have ht:=h.t
 by_cases hI:dA w (aE f.vals 0) 4=true
 ·rw[if_pos hI];obtain⟨a1,a2,a3,a4⟩:=eZ P0.hF hu hI;have hW:=uQ h (fN hu) 4 hI;simp only[inR,bSi]at a1;obtain⟨j,hj⟩: ∃j:Nat,(aE f.vals 0).n=(j:Int):=⟨(aE f.vals 0).n.toNat,by omega⟩
  generalize w.obj (aE f.vals 0).n=o at a2 a3 hW⊢;have hk:=a2.ok;simp only[dK,a3]at hk
  simp at hk
  obtain⟨q1,q2,q3⟩:=hk;have hq4:o.vals.length<=4:=by
   simp only[bE,bOx,bSi]at q3;omega
  by_cases h0:4<=o.vals.length
  ·rw[if_pos h0];have d0:decide ((o.vals.length:Int)=4)=true:=decide_eq_true (by omega)
   have d0':decide (o.vals.length=4)=true:=decide_eq_true (by omega)
   have hL:=at_ Tryz.func283
   conv at hL=>rhs;reduce
   refine bD hL rfl rfl ?_
   simp only[go_sem,kK]
   refine bL ?_
   simp only[go_sem,ht,aQ hv0]
   refine hW.mono ?_
   rintro v e1 c1 ⟨rfl,⟨bv2,t2⟩,k2⟩
   simp only[go_sem,kK,bOz,d0];exact⟨rfl,h.fin t2 k2 (fun k hk hj=>by simp only[hj.set]) (by(repeat refine upS ?_ (by omega));exact aN _)⟩
  ·rw[if_neg h0];have d0:decide ((o.vals.length:Int)=4)=false:=decide_eq_false (by omega)
   have d0':decide (o.vals.length=4)=false:=decide_eq_false (by omega)
   have hL:=at_ Tryz.func283
   conv at hL=>rhs;reduce
   refine bD hL rfl rfl ?_
   simp only[go_sem,kK]
   refine bL ?_
   simp only[go_sem,ht,aQ hv0]
   refine hW.mono ?_
   rintro v e1 c1 ⟨rfl,⟨bv2,t2⟩,k2⟩
   have ht2:=t2.t;have z1:=t2.okt.set;have z2:=t2.okr.set;have z3:=t2.okt.eqF;have z4:=t2.okt.eqF';have hl:o.vals.length+1<=16777216:=by omega
   simp only[go_sem,kK,bOz,d0]
   refine aI ?_
   simp only[go_sem,kB,z1,ht2,(aA4 _).ret,gE hv1,bT,eG,uP,sR,aB1,hl,bOz,rT,aQ hv0,hj,kA,kF];have hA:o.vals.map aD.enc++[.agg [.i (aE f.vals 1).kind,.i (aE f.vals 1).n]]=(o.vals++[aE f.vals 1]).map aD.enc:=by simp[aD.enc]
   rw[hA,show o.vals.length+1=(o.vals++[aE f.vals 1]).length by simp]
   refine WIn.mono (aU8 (o:=⟨o.form,o.n,o.vals++[aE f.vals 1],o.frames⟩) (t:=30) (g:=c1 0 30) (t2.to (by simp only[z1]) (by simp only[z2]) (by(repeat refine upS ?_ (by omega));exact aN _)) (b:=!(o.vals.map aD.enc).isEmpty) (by simp only[go_sem]) (by simp only[go_sem];omega) (.inl rfl) (j:=j) (by omega) (by omega)) ?_
   rintro v e3 c3 ⟨rfl,⟨bv3,t3⟩,old3,up3⟩
   have ht3:=t3.t
   try simp only[go_sem,kK,H,kB]
   refine aI ?_
   simp only[go_sem,ht3,gE hv1,kC.ret,kA,kF]
   refine(qK t3 bO (aE f.vals 1)).mono ?_
   rintro v e4 c4 ⟨rfl,t4,k4⟩
   have eo:(⟨o.form,o.n,o.vals++[aE f.vals 1],o.frames⟩:aR)=⟨4,0,o.vals++[aE f.vals 1],[]⟩:=by rw[a3,q1,q2]
   rw[eo]at t4;have hu1: ∀t,c1 0 t<=aC (aC c1 0 3 (c1 0 3+1)) 0 30 (c1 0 30+1) 0 t:=(by(repeat refine upS ?_ (by omega));exact aN _)
   refine⟨?_,t4,(show dU kt kr en cnt e3 c3 from⟨fun k hk x y=>?_,fun t=>bPb (k2.up t) (bPb (hu1 t) (up3 t))⟩).trans k4⟩
   ·rw[hop];rfl
   ·have hk1:=hk.up k2.up;rw[old3 k (hk1.up hu1) x y hk1.ne,hk1.set,hk1.set,hk1.set,hk1.set];exact k2.old k hk x y
 ·rw[if_neg hI];rw[bP6]at hI;have hL:=at_ Tryz.func283
  conv at hL=>rhs;reduce
  refine cA hL rfl rfl ?_
  simp only[go_sem,kK]
  refine cK 8 rfl ?_
  simp only[go_sem,bO5,bO3,ht,aQ hv0];exact uR h (fN hu) 4 hI
end
end Go.Proofs.YtmnchlhngpdffaaGreat
