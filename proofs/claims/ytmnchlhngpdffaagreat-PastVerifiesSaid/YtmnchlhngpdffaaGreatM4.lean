/- Contracts of functions of the program and of the document: part 4. -/
import Derived.Test.YtmnchlhngpdffaaGreatM3
import Derived.Test.YtmnchlhngpdffaaGreatM2
set_option linter.all false
open Bool renaming and_eq_true → bN8, false_eq_true → bOa, not_eq_true → bPf, or_true → bP3
open Int renaming natCast_nonneg → bQo, toNat_natCast → bPc
open List renaming all_eq_true → bOe, append_nil → bPa, drop_eq_getElem_cons → bO9, drop_length → bP1, drop_zero → bQf, getD_eq_getElem?_getD → bOd, getElem?_eq_getElem → bPh, getElem_mem → bOg, length_append → bOr, length_cons → bOh, length_map → bOc, length_nil → bOo, length_pos_iff → bRe, length_set → bP9, length_take → bPl, map_append → bPn, map_cons → bO4, map_drop → bQ1, map_nil → bOq, map_set → bQi, map_take → bP0, mem_of_mem_take → bQr, nil_append → bPb, replicate_succ → bPk, replicate_zero → bPj, set_cons_succ → bP5, set_cons_zero → bP4, take_of_length_le → bOt, take_succ_cons → bOp, take_zero → bOm
open Nat renaming add_assoc → bPw, add_zero → bPo, le_refl → bN9, le_trans → bOk, lt_of_lt_of_le → bOy, zero_add → bO1, zero_le → bOf
open Option renaming getD_some → bOz, isSome_none → bQb, isSome_some → bP2
open Option.some renaming injEq → bN7
namespace Go.Proofs.YtmnchlhngpdffaaGreat
open Go.Abs Go.Proofs
set_option maxRecDepth 100000
set_option maxHeartbeats 4000000
variable {n:aL}
variable {p :aI}{w0 w:aB}{S:Nat->Prop}{a:Int}{left:List aA}{f:aA}
theorem aJ8 (h:dZ p n=true):1<=n.op/\ n.op<=28:=by
 have:=nA h;unfold eQ at this
 repeat' split at this
 all_goals omega
theorem aJ9 {q:Pat}{cons:List cD}(h:lZ cons q=true):oE q<=1000:=by
 simp only[lZ,bN8,bRt]at h;have:=aRb q 12 (by omega) h.1
 omega
variable {en:En}{i:Int}
theorem aUi {l:List aE}(h:inR i 0 ((l.length:Int)-1)=true):oP 2 en (.fz (l.map aE.enc)) (.i i)=some {v:= .fp [.i (aF l i.toNat).kind,.i (aF l i.toNat).n] 0}:=aBp (f:=aE.enc) (size:=2) kR h fun _=>rfl
theorem aUj (h:inR i 0 ((n.kids.length:Int)-1)=true):oP 1 en (.fz (n.kids.map (.int .i64))) (.i i)=some {v:= .fp [.i (nN n i)] 0}:=vD h
theorem aOc (h:0<n.kids.length):oP 1 en (.fz (n.kids.map (.int .i64))) (.i 0)=some {v:= .fp [.i (nN n 0)] 0}:=vD (i:=0) (by simp only[inR,bRt];omega)
theorem bBp (h:1<n.kids.length):oP 1 en (.fz (n.kids.map (.int .i64))) (.i 1)=some {v:= .fp [.i (nN n 1)] 0}:=vD (i:=1) (by simp only[inR,bRt];omega)
structure D0 (p:aI) (w0:aB) (S:Nat->Prop) (w:aB) (a:Int) (left:List aA) (f:aA) (n:aL) (k:Int):Prop where
 hp:dV p
 hsp:aV p=true
 h:cF p w0 S w
 ha:inR a 0 ((w.tasks.length:Int)-1)=true
 hl:LOk p S w left
 hf:FOk p S w f
 hn:p.node f.node=n
 hfull:(f.vals.length:Int)=n.asks
 hop:n.op=k
theorem D0.all {k:Int}(d:D0 p w0 S w a left f n k):dV p/\ aV p=true/\ cF p w0 S w/\ inR a 0 ((w.tasks.length:Int)-1)=true/\ LOk p S w left/\ FOk p S w f/\ p.node f.node=n/\ (f.vals.length:Int)=n.asks/\ n.op=k/\ Fit w a/\ inR f.node 0 ((p.nodes.length:Int)-1)=true/\ dZ p n=true/\ (n.kids.length:Int)=eQ n.op n.pats.length (oA p n)/\ left.length<=40/\ (f.env.length:Int)<=30:=by
 obtain⟨hp,hsp,h,ha,hl,hf,hn,hfull,hop⟩:=d;have hni:=fC hf;have hok:=hp.nodes _ (hZ hni);rw[hn]at hok;have hfo:=hf.ok;simp only[dA,bE,bN8,bRt]at hfo;exact⟨hp,hsp,h,ha,hl,hf,hn,hfull,hop,tY h ha,hni,hok,nA hok,hl.len,hfo.1.2.1⟩
abbrev PD (p:aI)(w:aB)(a:Int)(left:List aA)(f:aA)(r:Did):Prop:=PC L 131 [.agg p.cs,.agg w.cs,.i a,.fz (left.map aA.enc),.agg [.i f.node,.fz (f.env.map aE.enc),.fz (f.vals.map aE.enc)]] (.agg [.fz (r.w.objs.map aR.enc),.fz (r.w.tasks.map (.int .i64)),.fz (r.w.outs.map bJ.enc),.fz (r.w.ins.map (.int .i64)),.i r.w.used,.i r.what,.i r.e.task,.i r.e.act,.i r.e.n,.i r.e.v.kind,.i r.e.v.n])
noncomputable def fM :{c//L 131=some c}:=by
 have hL:=at_ Tryz.func131
 conv at hL=>rhs;reduce
 exact⟨_,hL⟩
theorem aZk (d:D0 p w0 S w a left f n 1):PD p w a left f (bR p w a left f n):=by
 obtain⟨hp,hsp,h,ha,hl,hf,hn,hfull,hop,hfit,hni,hok,hkd,hlen,hfo⟩:=d.all;have e:bR p w a left f n=bT w a left (lR n.n):=by unfold bR;simp[hop]
 rw[e];have hB:=iX w a left (lR n.n) hfit
 refine aH fM.2 rfl rfl ?_
 simp only[go_sem,kK,fM]
 refine aJ ?_
 simp only[go_sem,kK,hop,hn,bI hni,kA,bOa,if_false]
 refine aJ ?_
 simp only[go_sem,(aCj _).ret,hB.ret,kA,bOa,if_false]
theorem aZl (d:D0 p w0 S w a left f n 2):PD p w a left f (bR p w a left f n):=by
 obtain⟨hp,hsp,h,ha,hl,hf,hn,hfull,hop,hfit,hni,hok,hkd,hlen,hfo⟩:=d.all;have e:bR p w a left f n=bT w a left (mA (decide (n.n=1))):=by unfold bR;simp[hop]
 rw[e];have hB:=iX w a left (mA (decide (n.n=1))) hfit
 refine aH fM.2 rfl rfl ?_
 simp only[go_sem,kK,fM]
 refine aJ ?_
 simp only[go_sem,kK,hop,hn,bI hni,kA,bOa,if_false]
 refine aJ ?_
 simp only[go_sem,(aHg _).ret,hB.ret,kA,bOa,if_false]
theorem aZm (d:D0 p w0 S w a left f n 3):PD p w a left f (bR p w a left f n):=by
 obtain⟨hp,hsp,h,ha,hl,hf,hn,hfull,hop,hfit,hni,hok,hkd,hlen,hfo⟩:=d.all;have e:bR p w a left f n=bT w a left bL:=by unfold bR;simp[hop]
 rw[e];have hB:=iX w a left bL hfit
 refine aH fM.2 rfl rfl ?_
 simp only[go_sem,kK,fM]
 refine aJ ?_
 simp only[go_sem,kK,hop,hn,bI hni,kA,bOa,if_false]
 refine aJ ?_
 simp only[go_sem,mB.ret,hB.ret,kA,bOa,if_false]
theorem aZn (d:D0 p w0 S w a left f n 4):PD p w a left f (bR p w a left f n):=by
 obtain⟨hp,hsp,h,ha,hl,hf,hn,hfull,hop,hfit,hni,hok,hkd,hlen,hfo⟩:=d.all;have e:bR p w a left f n=if n.n<0 then bT w a left ⟨4,-1-n.n⟩else if(f.env.length:Int)<=n.n then bD w a 2 else bT w a left (aF f.env n.n.toNat):=by unfold bR;simp[hop]
 rw[e];have hF:=fL w a 2 hfit;have hnum:nB p n=true:=by simp only[dZ,bN8]at hok;exact hok.1.1.1
 simp only[nB,hop]at hnum;simp[inR]at hnum;have hwn:IntKind.i64.wrap (-1-n.n)= -1-n.n:=aY (by have:=hp.main;simp only[inR,bRt]at this;have hsl:=hsp;simp only[aV,bN8,bRt]at hsl;omega)
 by_cases hneg:n.n<0
 ·have d0:decide (n.n<0)=true:=decide_eq_true hneg;rw[if_pos hneg];have hB:=iX w a left ⟨4,-1-n.n⟩ hfit
  refine aH fM.2 rfl rfl ?_
  simp only[go_sem,kK,fM]
  refine aJ ?_
  simp only[go_sem,kK,hop,hn,bI hni,d0,hwn,hB.ret,kA,bOa,if_false]
 ·have d0:decide (n.n<0)=false:=decide_eq_false hneg;rw[if_neg hneg]
  by_cases hge:(f.env.length:Int)<=n.n
  ·have d1:decide ((f.env.length:Int)<=n.n)=true:=decide_eq_true hge;rw[if_pos hge]
   refine aH fM.2 rfl rfl ?_
   simp only[go_sem,kK,fM]
   refine aJ ?_
   simp only[go_sem,kK,hop,hn,bI hni,d0,d1,hF.ret,kA,bOa,if_false]
  ·have d1:decide ((f.env.length:Int)<=n.n)=false:=decide_eq_false hge;rw[if_neg hge];have hB:=iX w a left (aF f.env n.n.toNat) hfit;have hi:=aBp (f:=aE.enc) (size:=2) (k:= .i64) (l:=f.env) (i:=n.n) kR (by simp only[inR,bRt];omega) (fun _=>rfl) (en:=fun _=>none)
   refine aH fM.2 rfl rfl ?_
   simp only[go_sem,kK,fM]
   refine aJ ?_
   simp only[go_sem,kK,hop,hn,bI hni,d0,d1,aUi (show inR n.n 0 ((f.env.length:Int)-1)=true by simp only[inR,bRt];omega),hB.ret,kA,bOa,if_false]
theorem aZo (d:D0 p w0 S w a left f n 5):PD p w a left f (bR p w a left f n):=by
 obtain⟨hp,hsp,h,ha,hl,hf,hn,hfull,hop,hfit,hni,hok,hkd,hlen,hfo⟩:=d.all;have e:bR p w a left f n=gS w a left ⟨2,f.node,f.env,[]⟩:=by unfold bR;simp[hop]
 rw[e];have hM:=aHi w a left ⟨2,f.node,f.env,[]⟩ hfit;simp only[bOq]at hM
 refine aH fM.2 rfl rfl ?_
 simp only[go_sem,kK,fM]
 refine aJ ?_
 simp only[go_sem,kK,hop,hn,bI hni,hM.ret,kA,bOa,if_false]
theorem aZp (d:D0 p w0 S w a left f n 6):PD p w a left f (bR p w a left f n):=by
 obtain⟨hp,hsp,h,ha,hl,hf,hn,hfull,hop,hfit,hni,hok,hkd,hlen,hfo⟩:=d.all;have e:bR p w a left f n=eL p w a left (aF f.vals 0) (aF f.vals 1):=by unfold bR;simp[hop]
 rw[e];have hq:n.asks=2:=by simp[aL.asks,hop]
 have h0:0<f.vals.length:=by omega
 have h1:1<f.vals.length:=by omega
 have v0:=hf.vals (cY h0);have v1:=hf.vals (cY h1);have hA:=aTb hp h ha hl v0 v1
 refine aH fM.2 rfl rfl ?_
 simp only[go_sem,kK,fM]
 refine aJ ?_
 simp only[go_sem,kK,hop,hn,bI hni,aS h0,fP h1,hA.ret,kA,bOa,if_false]
theorem aZq (d:D0 p w0 S w a left f n 7):PD p w a left f (bR p w a left f n):=by
 obtain⟨hp,hsp,h,ha,hl,hf,hn,hfull,hop,hfit,hni,hok,hkd,hlen,hfo⟩:=d.all;have e:bR p w a left f n=fT w a left (nN n 1) (f.env++[aF f.vals 0]):=by unfold bR;simp[hop]
 rw[e];have hq:n.asks=1:=by simp[aL.asks,hop]
 have h0:0<f.vals.length:=by omega
 have hkc:(n.kids.length:Int)=2:=by rw[hkd];simp[eQ,hop]
 have hk1:1<n.kids.length:=by omega
 have hM:=aD2 f.env (aF f.vals 0) (by omega)
 have hN:=aBa w a left (nN n 1) (f.env++[aF f.vals 0]) hfit (by omega)
 refine aH fM.2 rfl rfl ?_
 simp only[go_sem,kK,fM]
 refine aJ ?_
 simp only[go_sem,kK,hop,hn,bI hni,kA,bOa,if_false]
 refine aJ ?_
 simp only[go_sem,aS h0,bBp hk1,hM.ret,hN.ret,kA,bOa,if_false]
theorem aZr (d:D0 p w0 S w a left f n 8):PD p w a left f (bR p w a left f n):=by
 obtain⟨hp,hsp,h,ha,hl,hf,hn,hfull,hop,hfit,hni,hok,hkd,hlen,hfo⟩:=d.all;have e:bR p w a left f n=if¬(aF f.vals 0).kind=2 then bD w a 2 else fT w a left (nN n (2-(aF f.vals 0).n)) f.env:=by unfold bR;simp[hop]
 rw[e];have hF:=fL w a 2 hfit;have hq:n.asks=1:=by simp[aL.asks,hop]
 have h0:0<f.vals.length:=by omega
 have v0:=hf.vals (cY h0);have hkc:(n.kids.length:Int)=3:=by rw[hkd];simp[eQ,hop]
 by_cases hk2:(aF f.vals 0).kind=2
 ·have d1:decide ((aF f.vals 0).kind=2)=true:=decide_eq_true hk2;rw[if_neg (fun h=>h hk2)]
  have hvo:=v0.ok;simp only[dD,hk2]at hvo;simp[inR]at hvo;have hw2:IntKind.i64.wrap (2-(aF f.vals 0).n)=2-(aF f.vals 0).n:=aY (by omega)
  have hN:=aBa w a left (nN n (2-(aF f.vals 0).n)) f.env hfit (by omega)
  refine aH fM.2 rfl rfl ?_
  simp only[go_sem,kK,fM]
  refine aJ ?_
  simp only[go_sem,kK,hop,hn,bI hni,aS h0,d1,hw2,aUj (show inR (2-(aF f.vals 0).n) 0 ((n.kids.length:Int)-1)=true by simp only[inR,bRt];omega),hN.ret,kA,bOa,if_false]
 ·have d1:decide ((aF f.vals 0).kind=2)=false:=decide_eq_false hk2;rw[if_pos hk2]
  refine aH fM.2 rfl rfl ?_
  simp only[go_sem,kK,fM]
  refine aJ ?_
  simp only[go_sem,kK,hop,hn,bI hni,aS h0,d1,hF.ret,kA,bOa,if_false]
theorem aZs (d:D0 p w0 S w a left f n 9):PD p w a left f (bR p w a left f n):=by
 obtain⟨hp,hsp,h,ha,hl,hf,hn,hfull,hop,hfit,hni,hok,hkd,hlen,hfo⟩:=d.all;have e:bR p w a left f n=cC w a left 9 (aF f.vals 0) (aF f.vals 1):=by unfold bR;simp[hop]
 rw[e];have hq:n.asks=2:=by simp[aL.asks,hop]
 have h0:0<f.vals.length:=by omega
 have h1:1<f.vals.length:=by omega
 have v0:=hf.vals (cY h0);have v1:=hf.vals (cY h1);have hA:=uA (left:=left) (op:=9) h ha v0 v1 (by omega)
 refine aH fM.2 rfl rfl ?_
 simp only[go_sem,kK,fM]
 refine aJ ?_
 simp only[go_sem,kK,hop,hn,bI hni,aS h0,fP h1,hA.ret,kA,bOa,if_false]
theorem aV9 (d:D0 p w0 S w a left f n 10):PD p w a left f (bR p w a left f n):=by
 obtain⟨hp,hsp,h,ha,hl,hf,hn,hfull,hop,hfit,hni,hok,hkd,hlen,hfo⟩:=d.all;have e:bR p w a left f n=cC w a left 10 (aF f.vals 0) (aF f.vals 1):=by unfold bR;simp[hop]
 rw[e];have hq:n.asks=2:=by simp[aL.asks,hop]
 have h0:0<f.vals.length:=by omega
 have h1:1<f.vals.length:=by omega
 have v0:=hf.vals (cY h0);have v1:=hf.vals (cY h1);have hA:=uA (left:=left) (op:=10) h ha v0 v1 (by omega)
 refine aH fM.2 rfl rfl ?_
 simp only[go_sem,kK,fM]
 refine aJ ?_
 simp only[go_sem,kK,hop,hn,bI hni,aS h0,fP h1,hA.ret,kA,bOa,if_false]
theorem aWa (d:D0 p w0 S w a left f n 11):PD p w a left f (bR p w a left f n):=by
 obtain⟨hp,hsp,h,ha,hl,hf,hn,hfull,hop,hfit,hni,hok,hkd,hlen,hfo⟩:=d.all;have e:bR p w a left f n=cC w a left 11 (aF f.vals 0) (aF f.vals 1):=by unfold bR;simp[hop]
 rw[e];have hq:n.asks=2:=by simp[aL.asks,hop]
 have h0:0<f.vals.length:=by omega
 have h1:1<f.vals.length:=by omega
 have v0:=hf.vals (cY h0);have v1:=hf.vals (cY h1);have hA:=uA (left:=left) (op:=11) h ha v0 v1 (by omega)
 refine aH fM.2 rfl rfl ?_
 simp only[go_sem,kK,fM]
 refine aJ ?_
 simp only[go_sem,kK,hop,hn,bI hni,aS h0,fP h1,hA.ret,kA,bOa,if_false]
theorem aWb (d:D0 p w0 S w a left f n 12):PD p w a left f (bR p w a left f n):=by
 obtain⟨hp,hsp,h,ha,hl,hf,hn,hfull,hop,hfit,hni,hok,hkd,hlen,hfo⟩:=d.all;have e:bR p w a left f n=cC w a left 12 (aF f.vals 0) (aF f.vals 1):=by unfold bR;simp[hop]
 rw[e];have hq:n.asks=2:=by simp[aL.asks,hop]
 have h0:0<f.vals.length:=by omega
 have h1:1<f.vals.length:=by omega
 have v0:=hf.vals (cY h0);have v1:=hf.vals (cY h1);have hA:=uA (left:=left) (op:=12) h ha v0 v1 (by omega)
 refine aH fM.2 rfl rfl ?_
 simp only[go_sem,kK,fM]
 refine aJ ?_
 simp only[go_sem,kK,hop,hn,bI hni,aS h0,fP h1,hA.ret,kA,bOa,if_false]
theorem aWc (d:D0 p w0 S w a left f n 13):PD p w a left f (bR p w a left f n):=by
 obtain⟨hp,hsp,h,ha,hl,hf,hn,hfull,hop,hfit,hni,hok,hkd,hlen,hfo⟩:=d.all;have e:bR p w a left f n=cC w a left 13 (aF f.vals 0) (aF f.vals 1):=by unfold bR;simp[hop]
 rw[e];have hq:n.asks=2:=by simp[aL.asks,hop]
 have h0:0<f.vals.length:=by omega
 have h1:1<f.vals.length:=by omega
 have v0:=hf.vals (cY h0);have v1:=hf.vals (cY h1);have hA:=uA (left:=left) (op:=13) h ha v0 v1 (by omega)
 refine aH fM.2 rfl rfl ?_
 simp only[go_sem,kK,fM]
 refine aJ ?_
 simp only[go_sem,kK,hop,hn,bI hni,aS h0,fP h1,hA.ret,kA,bOa,if_false]
theorem aWd (d:D0 p w0 S w a left f n 14):PD p w a left f (bR p w a left f n):=by
 obtain⟨hp,hsp,h,ha,hl,hf,hn,hfull,hop,hfit,hni,hok,hkd,hlen,hfo⟩:=d.all;have e:bR p w a left f n=gS w a left ⟨1,n.n,f.vals,[]⟩:=by unfold bR;simp[hop]
 rw[e];have hM:=aHi w a left ⟨1,n.n,f.vals,[]⟩ hfit;simp only[bOq]at hM
 refine aH fM.2 rfl rfl ?_
 simp only[go_sem,kK,fM]
 refine aJ ?_
 simp only[go_sem,kK,hop,hn,bI hni,hM.ret,kA,bOa,if_false]
theorem aWe (d:D0 p w0 S w a left f n 15):PD p w a left f (bR p w a left f n):=by
 obtain⟨hp,hsp,h,ha,hl,hf,hn,hfull,hop,hfit,hni,hok,hkd,hlen,hfo⟩:=d.all;have e:bR p w a left f n=jM w a left n f.env (aF f.vals 0):=by unfold bR;simp[hop]
 rw[e];have hq:n.asks=1:=by simp[aL.asks,hop]
 have h0:0<f.vals.length:=by omega
 have v0:=hf.vals (cY h0);have hkc:(n.kids.length:Int)=1+n.pats.length:=by rw[hkd];simp[eQ,hop]
 have hsn:fK n=true:=by rw[<-hn];simp only[aV,bN8,bOe]at hsp;exact hsp.2 _ (hZ hni)
 simp only[fK,bN8,bRt]at hsn;have hpf: ∀q∈n.pats,oE q<=1000:=fun q hq=>by simp only[dZ,bN8,bOe]at hok;exact aJ9 (hok.1.2 q hq)
 have hA:=aTc h ha hl n f.env v0 (by omega) (by omega) hpf (by omega)
 rw[hop]at hA
 refine aH fM.2 rfl rfl ?_
 simp only[go_sem,kK,fM]
 refine aJ ?_
 simp only[go_sem,kK,hop,hn,bI hni,aS h0,hA.ret,kA,bOa,if_false]
theorem aWf (d:D0 p w0 S w a left f n 26):PD p w a left f (bR p w a left f n):=by
 obtain⟨hp,hsp,h,ha,hl,hf,hn,hfull,hop,hfit,hni,hok,hkd,hlen,hfo⟩:=d.all;have e:bR p w a left f n=bT w a left (aF f.vals 0):=by unfold bR;simp[hop]
 rw[e];have hq:n.asks=1:=by simp[aL.asks,hop]
 have h0:0<f.vals.length:=by omega
 have hB:=iX w a left (aF f.vals 0) hfit
 refine aH fM.2 rfl rfl ?_
 simp only[go_sem,kK,fM]
 refine aJ ?_
 simp only[go_sem,kK,hop,hn,bI hni,aS h0,hB.ret,kA,bOa,if_false]
theorem aWg (d:D0 p w0 S w a left f n 27):PD p w a left f (bR p w a left f n):=by
 obtain⟨hp,hsp,h,ha,hl,hf,hn,hfull,hop,hfit,hni,hok,hkd,hlen,hfo⟩:=d.all;have e:bR p w a left f n=eM p w a left (nN n 0) f.env:=by unfold bR;simp[hop]
 rw[e];have hkc:(n.kids.length:Int)=1:=by rw[hkd];simp[eQ,hop]
 have hk0:0<n.kids.length:=by omega
 have hA:=aTd h ha hl (kid:=nN n 0) (env:=f.env) (by omega)
 refine aH fM.2 rfl rfl ?_
 simp only[go_sem,kK,fM]
 refine aJ ?_
 simp only[go_sem,kK,hop,hn,bI hni,aOc hk0,hA.ret,kA,bOa,if_false]
theorem aWh (d:D0 p w0 S w a left f n 16):PD p w a left f (bR p w a left f n):=by
 obtain⟨hp,hsp,h,ha,hl,hf,hn,hfull,hop,hfit,hni,hok,hkd,hlen,hfo⟩:=d.all;have e:bR p w a left f n=eC w a left 16 f.vals:=by unfold bR;simp[hop]
 rw[e];have hq:n.asks=1:=by simp[aL.asks,hop]
 have h0:0<f.vals.length:=by omega
 have hA:=aFi (left:=left) (op:=16) h ha (fun v hv=>hf.vals hv) h0 (by omega)
 refine aH fM.2 rfl rfl ?_
 simp only[go_sem,kK,fM]
 refine aJ ?_
 simp only[go_sem,kK,hop,hn,bI hni,hA.ret,kA,bOa,if_false]
theorem aWi (d:D0 p w0 S w a left f n 17):PD p w a left f (bR p w a left f n):=by
 obtain⟨hp,hsp,h,ha,hl,hf,hn,hfull,hop,hfit,hni,hok,hkd,hlen,hfo⟩:=d.all;have e:bR p w a left f n=eC w a left 17 f.vals:=by unfold bR;simp[hop]
 rw[e];have hq:n.asks=1:=by simp[aL.asks,hop]
 have h0:0<f.vals.length:=by omega
 have hA:=aFi (left:=left) (op:=17) h ha (fun v hv=>hf.vals hv) h0 (by omega)
 refine aH fM.2 rfl rfl ?_
 simp only[go_sem,kK,fM]
 refine aJ ?_
 simp only[go_sem,kK,hop,hn,bI hni,hA.ret,kA,bOa,if_false]
theorem aWj (d:D0 p w0 S w a left f n 18):PD p w a left f (bR p w a left f n):=by
 obtain⟨hp,hsp,h,ha,hl,hf,hn,hfull,hop,hfit,hni,hok,hkd,hlen,hfo⟩:=d.all;have e:bR p w a left f n=eC w a left 18 f.vals:=by unfold bR;simp[hop]
 rw[e];have hq:n.asks=2:=by simp[aL.asks,hop]
 have h0:0<f.vals.length:=by omega
 have hA:=aFi (left:=left) (op:=18) h ha (fun v hv=>hf.vals hv) h0 (by omega)
 refine aH fM.2 rfl rfl ?_
 simp only[go_sem,kK,fM]
 refine aJ ?_
 simp only[go_sem,kK,hop,hn,bI hni,hA.ret,kA,bOa,if_false]
theorem aWk (d:D0 p w0 S w a left f n 19):PD p w a left f (bR p w a left f n):=by
 obtain⟨hp,hsp,h,ha,hl,hf,hn,hfull,hop,hfit,hni,hok,hkd,hlen,hfo⟩:=d.all;have e:bR p w a left f n=dX p w a left (aF f.vals 0):=by unfold bR;simp[hop]
 rw[e];have hq:n.asks=1:=by simp[aL.asks,hop]
 have h0:0<f.vals.length:=by omega
 have v0:=hf.vals (cY h0);have hA:=aTe (left:=left) hp h ha v0
 refine aH fM.2 rfl rfl ?_
 simp only[go_sem,kK,fM]
 refine aJ ?_
 simp only[go_sem,kK,hop,hn,bI hni,aS h0,hA.ret,kA,bOa,if_false]
theorem aWl (d:D0 p w0 S w a left f n 20):PD p w a left f (bR p w a left f n):=by
 obtain⟨hp,hsp,h,ha,hl,hf,hn,hfull,hop,hfit,hni,hok,hkd,hlen,hfo⟩:=d.all;have e:bR p w a left f n=fO w a left (aF f.vals 0):=by unfold bR;simp[hop]
 rw[e];have hq:n.asks=1:=by simp[aL.asks,hop]
 have h0:0<f.vals.length:=by omega
 have v0:=hf.vals (cY h0);have hA:=aV8 (left:=left) h ha v0
 refine aH fM.2 rfl rfl ?_
 simp only[go_sem,kK,fM]
 refine aJ ?_
 simp only[go_sem,kK,hop,hn,bI hni,aS h0,hA.ret,kA,bOa,if_false]
theorem aWm (d:D0 p w0 S w a left f n 21):PD p w a left f (bR p w a left f n):=by
 obtain⟨hp,hsp,h,ha,hl,hf,hn,hfull,hop,hfit,hni,hok,hkd,hlen,hfo⟩:=d.all;have e:bR p w a left f n=cW (gS w a left ⟨4,0,[],[]⟩) a 21 0 bL:=by unfold bR;simp[hop]
 rw[e];have hM:=aHi w a left ⟨4,0,[],[]⟩ hfit;have hE:=lK (gS w a left ⟨4,0,[],[]⟩) a 21 0 bL;simp only[bOq]at hM
 refine aH fM.2 rfl rfl ?_
 simp only[go_sem,kK,fM]
 refine aJ ?_
 simp only[go_sem,kK,hop,hn,bI hni,kA,bOa,if_false]
 refine aJ ?_
 simp only[go_sem,hM.ret,mB.ret,hE.ret,kA,bOa,if_false]
theorem aWn (d:D0 p w0 S w a left f n 22):PD p w a left f (bR p w a left f n):=by
 obtain⟨hp,hsp,h,ha,hl,hf,hn,hfull,hop,hfit,hni,hok,hkd,hlen,hfo⟩:=d.all;have e:bR p w a left f n=bY w a left 22 f.vals:=by unfold bR;simp[hop]
 rw[e];have hq:n.asks=2:=by simp[aL.asks,hop]
 have h0:0<f.vals.length:=by omega
 have hA:=aEj (left:=left) (op:=22) h ha (fun v hv=>hf.vals hv) h0 (by omega)
 refine aH fM.2 rfl rfl ?_
 simp only[go_sem,kK,fM]
 refine aJ ?_
 simp only[go_sem,kK,hop,hn,bI hni,hA.ret,kA,bOa,if_false]
theorem aWo (d:D0 p w0 S w a left f n 23):PD p w a left f (bR p w a left f n):=by
 obtain⟨hp,hsp,h,ha,hl,hf,hn,hfull,hop,hfit,hni,hok,hkd,hlen,hfo⟩:=d.all;have e:bR p w a left f n=bY w a left 23 f.vals:=by unfold bR;simp[hop]
 rw[e];have hq:n.asks=1:=by simp[aL.asks,hop]
 have h0:0<f.vals.length:=by omega
 have hA:=aEj (left:=left) (op:=23) h ha (fun v hv=>hf.vals hv) h0 (by omega)
 refine aH fM.2 rfl rfl ?_
 simp only[go_sem,kK,fM]
 refine aJ ?_
 simp only[go_sem,kK,hop,hn,bI hni,hA.ret,kA,bOa,if_false]
theorem aWp (d:D0 p w0 S w a left f n 24):PD p w a left f (bR p w a left f n):=by
 obtain⟨hp,hsp,h,ha,hl,hf,hn,hfull,hop,hfit,hni,hok,hkd,hlen,hfo⟩:=d.all;have e:bR p w a left f n=cX w a left 24 n.n f.vals:=by unfold bR;simp[hop]
 rw[e];have hq:n.asks=1:=by simp[aL.asks,hop]
 have h0:0<f.vals.length:=by omega
 have hA:=aJ7 (left:=left) h ha n (fun v hv=>hf.vals hv) (.inr ⟨hop,h0⟩)
 rw[hop]at hA
 refine aH fM.2 rfl rfl ?_
 simp only[go_sem,kK,fM]
 refine aJ ?_
 simp only[go_sem,kK,hop,hn,bI hni,hA.ret,kA,bOa,if_false]
theorem aWq (d:D0 p w0 S w a left f n 25):PD p w a left f (bR p w a left f n):=by
 obtain⟨hp,hsp,h,ha,hl,hf,hn,hfull,hop,hfit,hni,hok,hkd,hlen,hfo⟩:=d.all;have e:bR p w a left f n=cX w a left 25 n.n f.vals:=by unfold bR;simp[hop]
 rw[e];have hA:=aJ7 (left:=left) h ha n (fun v hv=>hf.vals hv) (.inl hop)
 rw[hop]at hA
 refine aH fM.2 rfl rfl ?_
 simp only[go_sem,kK,fM]
 refine aJ ?_
 simp only[go_sem,kK,hop,hn,bI hni,hA.ret,kA,bOa,if_false]
theorem aWr (d:D0 p w0 S w a left f n 28):PD p w a left f (bR p w a left f n):=by
 obtain⟨hp,hsp,h,ha,hl,hf,hn,hfull,hop,hfit,hni,hok,hkd,hlen,hfo⟩:=d.all;have e:bR p w a left f n=cW (bT w a left bL) a 28 0 bL:=by unfold bR;simp[hop]
 rw[e];have hB:=iX w a left bL hfit;have hE:=lK (bT w a left bL) a 28 0 bL
 refine aH fM.2 rfl rfl ?_
 simp only[go_sem,kK,fM]
 refine aJ ?_
 simp only[go_sem,kK,hop,hn,bI hni,kA,bOa,if_false]
 refine aJ ?_
 simp only[go_sem,mB.ret,hB.ret,hE.ret,kA,bOa,if_false]
theorem bBq (hp:dV p)(hsp:aV p=true)(h:cF p w0 S w)(ha:inR a 0 ((w.tasks.length:Int)-1)=true)(hl:LOk p S w left)(hf:FOk p S w f)(hfull:(f.vals.length:Int)=(p.node f.node).asks):
  PC L 131 [.agg p.cs,.agg w.cs,.i a,.fz (left.map aA.enc),.agg [.i f.node,.fz (f.env.map aE.enc),.fz (f.vals.map aE.enc)]] (.agg [.fz ((rS p w a left f).w.objs.map aR.enc),.fz ((rS p w a left f).w.tasks.map (.int .i64)),.fz ((rS p w a left f).w.outs.map bJ.enc),.fz ((rS p w a left f).w.ins.map (.int .i64)),.i (rS p w a left f).w.used,.i (rS p w a left f).what,.i (rS p w a left f).e.task,.i (rS p w a left f).e.act,.i (rS p w a left f).e.n,.i (rS p w a left f).e.v.kind,.i (rS p w a left f).e.v.n]):=by
 obtain⟨o1,o2⟩:=aJ8 (hp.nodes _ (hZ (fC hf)));have ho:(p.node f.node).op=1 \/(p.node f.node).op=2 \/(p.node f.node).op=3 \/(p.node f.node).op=4 \/(p.node f.node).op=5 \/(p.node f.node).op=6 \/(p.node f.node).op=7 \/(p.node f.node).op=8 \/(p.node f.node).op=9 \/(p.node f.node).op=10 \/(p.node f.node).op=11 \/(p.node f.node).op=12 \/(p.node f.node).op=13 \/(p.node f.node).op=14 \/(p.node f.node).op=15 \/(p.node f.node).op=16 \/(p.node f.node).op=17 \/(p.node f.node).op=18 \/(p.node f.node).op=19 \/(p.node f.node).op=20 \/(p.node f.node).op=21 \/(p.node f.node).op=22 \/(p.node f.node).op=23 \/(p.node f.node).op=24 \/(p.node f.node).op=25 \/(p.node f.node).op=26 \/(p.node f.node).op=27 \/(p.node f.node).op=28:=by omega
 unfold rS;rcases ho with ho|ho|ho|ho|ho|ho|ho|ho|ho|ho|ho|ho|ho|ho|ho|ho|ho|ho|ho|ho|ho|ho|ho|ho|ho|ho|ho|ho
 ·exact aZk ⟨hp,hsp,h,ha,hl,hf,rfl,hfull,ho⟩
 ·exact aZl ⟨hp,hsp,h,ha,hl,hf,rfl,hfull,ho⟩
 ·exact aZm ⟨hp,hsp,h,ha,hl,hf,rfl,hfull,ho⟩
 ·exact aZn ⟨hp,hsp,h,ha,hl,hf,rfl,hfull,ho⟩
 ·exact aZo ⟨hp,hsp,h,ha,hl,hf,rfl,hfull,ho⟩
 ·exact aZp ⟨hp,hsp,h,ha,hl,hf,rfl,hfull,ho⟩
 ·exact aZq ⟨hp,hsp,h,ha,hl,hf,rfl,hfull,ho⟩
 ·exact aZr ⟨hp,hsp,h,ha,hl,hf,rfl,hfull,ho⟩
 ·exact aZs ⟨hp,hsp,h,ha,hl,hf,rfl,hfull,ho⟩
 ·exact aV9 ⟨hp,hsp,h,ha,hl,hf,rfl,hfull,ho⟩
 ·exact aWa ⟨hp,hsp,h,ha,hl,hf,rfl,hfull,ho⟩
 ·exact aWb ⟨hp,hsp,h,ha,hl,hf,rfl,hfull,ho⟩
 ·exact aWc ⟨hp,hsp,h,ha,hl,hf,rfl,hfull,ho⟩
 ·exact aWd ⟨hp,hsp,h,ha,hl,hf,rfl,hfull,ho⟩
 ·exact aWe ⟨hp,hsp,h,ha,hl,hf,rfl,hfull,ho⟩
 ·exact aWh ⟨hp,hsp,h,ha,hl,hf,rfl,hfull,ho⟩
 ·exact aWi ⟨hp,hsp,h,ha,hl,hf,rfl,hfull,ho⟩
 ·exact aWj ⟨hp,hsp,h,ha,hl,hf,rfl,hfull,ho⟩
 ·exact aWk ⟨hp,hsp,h,ha,hl,hf,rfl,hfull,ho⟩
 ·exact aWl ⟨hp,hsp,h,ha,hl,hf,rfl,hfull,ho⟩
 ·exact aWm ⟨hp,hsp,h,ha,hl,hf,rfl,hfull,ho⟩
 ·exact aWn ⟨hp,hsp,h,ha,hl,hf,rfl,hfull,ho⟩
 ·exact aWo ⟨hp,hsp,h,ha,hl,hf,rfl,hfull,ho⟩
 ·exact aWp ⟨hp,hsp,h,ha,hl,hf,rfl,hfull,ho⟩
 ·exact aWq ⟨hp,hsp,h,ha,hl,hf,rfl,hfull,ho⟩
 ·exact aWf ⟨hp,hsp,h,ha,hl,hf,rfl,hfull,ho⟩
 ·exact aWg ⟨hp,hsp,h,ha,hl,hf,rfl,hfull,ho⟩
 ·exact aWr ⟨hp,hsp,h,ha,hl,hf,rfl,hfull,ho⟩
end Go.Proofs.YtmnchlhngpdffaaGreat
namespace Go.Proofs.YtmnchlhngpdffaaGreat
open Go.Abs Go.Proofs
set_option maxRecDepth 100000
set_option maxHeartbeats 4000000
variable {u v:aE}{b f:aA}{k g size:Nat}{xs:List Val}{en:En}{w w0:aB}{a:Int}{S:Nat->Prop}{kt kr:Key}{cnt:Nat->Nat->Nat}{p:aI}{left:List aA}{n:aL}{back:List aE}{bv:Val}
section
theorem aKa (h:TS kt kr en cnt p w a left f n back bv)(hp:dV p)(hF:cF p w0 S w)(hu:VOk p S w u)(hb:eZ p w u v=some b)(hc:b.env.length<=30):
  WIn L (.fn 328 [] []) [.ptr kt 0,.agg [.i u.kind,.i u.n],.agg [.i v.kind,.i v.n]] en cnt fun r en' cnt'=>(∃ev,gV ev (b.env.map aE.enc)/\ b.vals=[]/\ r= .tup [.agg [.i b.node,ev,.cl []],.bool true])/\ (∃bv',TS kt kr en' cnt' p w a left f n back bv')/\ dI kt kr en cnt en' cnt':=by
 have H:=h.pre;have ht:=h.t;have hr:=h.r;have hL:=at_ Tryz.func328
 conv at hL=>rhs;reduce
 refine bO hL rfl rfl ?_
 unfold eZ at hb
 by_cases h4:u.kind=4
 ·rw[if_pos h4]at hb;simp only[bN7]at hb;subst hb;have d4:decide (u.kind=4)=true:=decide_eq_true h4;have hfn:inR u.n 0 ((p.funs.length:Int)-1)=true:=by
   have:=hu.ok;simp only[dD,h4]at this
   simpa using this
  simp only[go_sem,kK,d4]
  refine aJ ?_
  simp only[go_sem,ht,hr,H,kB,vD hfn,kA,kF];exact⟨⟨_,.inr rfl,rfl⟩,h.stay (fun k hk=>by simp only[hk.set]) (by(repeat refine upS ?_ (by omega));exact aN _)⟩
 ·rw[if_neg h4]at hb;have d4:decide (u.kind=4)=false:=decide_eq_false h4
  split at hb
  case isFalse=>cases hb
  rename_i h2;simp only[bN7]at hb;subst hb;obtain⟨a1,a2,a3,a4⟩:=eN hF hu h2;have hk:=a2.ok;simp only[dK,a3]at hk
  simp at hk
  obtain⟨_,⟨b1,b2⟩,b3⟩:=hk;have hkk:=nA (hp.nodes _ (hZ b1));rw[b2]at hkk;simp[eQ]at hkk;have hk0:inR 0 0 (((p.node (w.obj u.n).n).kids.length:Int)-1)=true:=by simp only[inR,bRt];omega
  simp only[bOr,bOh,bOo]at hc;have hW:PC L 330 [.fz ((w.obj u.n).vals.map aE.enc),.fz [.agg [.i v.kind,.i v.n]]] (.fz (((w.obj u.n).vals++[v]).map aE.enc)):=aD8 (w.obj u.n).vals [v] (by simpa using hc)
  simp only[go_sem,kK,d4];obtain⟨⟨bv1,h1⟩,k1⟩:=h.stay (cnt':=aC (aC (aC cnt 0 4 (cnt 0 4+1)) 0 5 (cnt 0 5+1)) 0 6 (cnt 0 6+1)) (en':=((en.set ⟨0,4,cnt 0 4⟩ (some (.box [.i u.kind,.i u.n] false))).set ⟨0,5,cnt 0 5⟩ (some (.box [.i v.kind,.i v.n] false))).set ⟨0,6,cnt 0 6⟩ (some (.box [.i 0,.cl [],.cl []] false))) (fun k hk=>by simp only[hk.set]) (by(repeat refine upS ?_ (by omega));exact aN _)
  refine(qF h1 (fH hu) 2).mono ?_
  rintro r e1 c1 ⟨⟨x,rfl,hx⟩,⟨bv2,h2'⟩,k2⟩
  rcases hx with⟨_,hx⟩|⟨rfl,_⟩
  ·rw[h2]at hx;cases hx
  obtain⟨p5,q5⟩:=k2.loc (d:=5) (g:=cnt 0 5) (by simp only[go_sem];omega) h.okt.ne.symm h.okr.ne.symm
  obtain⟨p6,q6⟩:=k2.loc (d:=6) (g:=cnt 0 6) (by simp only[go_sem];omega) h.okt.ne.symm h.okr.ne.symm
  simp only[go_sem]at p5 p6;have ht2:=h2'.t;have hr2:=h2'.r;have z1:=h2'.okt.set;have z2:=h2'.okr.set;simp only[go_sem,kK,h2]
  refine kL ?_
  simp only[go_sem,ht2,hr2,z1,z2,p5,p6,q5.set,q6.set,bI b1,aOc (n:=p.node (w.obj u.n).n) (by omega),hW.ret,kA,kF]
  exact⟨⟨_,.inl rfl,rfl⟩,h.fin h2' (k1.trans k2) (fun k hk hj=>by simp only[hk.set,hj.set]) (by(repeat refine upS ?_ (by omega));exact aN _)⟩
theorem aGq (h:TS kt kr en cnt p w a left f n back bv)(hu:VOk p S w u)(hb:eZ p w u v=none):
  WIn L (.fn 328 [] []) [.ptr kt 0,.agg [.i u.kind,.i u.n],.agg [.i v.kind,.i v.n]] en cnt fun r en' cnt'=>(∃x,r= .tup [.agg [.i 0,.cl [],.cl []],.bool x]/\ x=false)/\ (∃bv',TS kt kr en' cnt' p w a left f n back bv')/\ dI kt kr en cnt en' cnt':=by
 have H:=h.pre;have hL:=at_ Tryz.func328
 conv at hL=>rhs;reduce
 refine bO hL rfl rfl ?_
 unfold eZ at hb
 by_cases h4:u.kind=4
 ·rw[if_pos h4]at hb;cases hb
 rw[if_neg h4]at hb;have d4:decide (u.kind=4)=false:=decide_eq_false h4
 split at hb
 case isTrue=>cases hb
 rename_i h2;rw[bPf]at h2;simp only[go_sem,kK,d4];obtain⟨⟨bv1,h1⟩,k1⟩:=h.stay (cnt':=aC (aC (aC cnt 0 4 (cnt 0 4+1)) 0 5 (cnt 0 5+1)) 0 6 (cnt 0 6+1)) (en':=((en.set ⟨0,4,cnt 0 4⟩ (some (.box [.i u.kind,.i u.n] false))).set ⟨0,5,cnt 0 5⟩ (some (.box [.i v.kind,.i v.n] false))).set ⟨0,6,cnt 0 6⟩ (some (.box [.i 0,.cl [],.cl []] false))) (fun k hk=>by simp only[hk.set]) (by(repeat refine upS ?_ (by omega));exact aN _)
 refine(qF h1 (fH hu) 2).mono ?_
 rintro r e1 c1 ⟨⟨x,rfl,hx⟩,⟨bv2,h2'⟩,k2⟩
 rcases hx with⟨rfl,_⟩|⟨_,hx⟩
 case inr=>rw[h2]at hx;cases hx
 obtain⟨p6,q6⟩:=k2.loc (d:=6) (g:=cnt 0 6) (by simp only[go_sem];omega) h.okt.ne.symm h.okr.ne.symm
 simp only[go_sem]at p6;simp only[go_sem,kK,h2,p6,q6.set];exact⟨⟨false,rfl,rfl⟩,h.fin h2' (k1.trans k2) (fun k hk hj=>by simp only[hk.set,hj.set]) (by(repeat refine upS ?_ (by omega));exact aN _)⟩
theorem aKb (h:TS kt kr en cnt p w a left f n back bv)(hp:dV p)(hF:cF p w0 S w)(hu:VOk p S w u)(hb:eZ p w u v=some b)(hc:30<b.env.length):
  vC L 328 [.ptr kt 0,.agg [.i u.kind,.i u.n],.agg [.i v.kind,.i v.n]] en cnt (oB kt kr en cnt p 4):=by
 have H:=h.pre;have hL:=at_ Tryz.func328
 conv at hL=>rhs;reduce
 refine bW hL rfl rfl ?_
 unfold eZ at hb
 by_cases h4:u.kind=4
 ·rw[if_pos h4]at hb;simp only[bN7]at hb;subst hb
  simp at hc
 rw[if_neg h4]at hb;have d4:decide (u.kind=4)=false:=decide_eq_false h4
 split at hb
 case isFalse=>cases hb
 rename_i h2;simp only[bN7]at hb;subst hb;obtain⟨a1,a2,a3,a4⟩:=eN hF hu h2;have hk:=a2.ok;simp only[dK,a3]at hk
 simp at hk
 obtain⟨_,⟨b1,b2⟩,b3⟩:=hk;have hlen:=aCl a2.ok;have hkk:=nA (hp.nodes _ (hZ b1));rw[b2]at hkk;simp[eQ]at hkk;simp only[bOr,bOh,bOo]at hc;have hW:PX L 330 [.fz ((w.obj u.n).vals.map aE.enc),.fz [.agg [.i v.kind,.i v.n]]] (aD3 4):=aHh (w.obj u.n).vals [v] (by simpa using hc) (by simp only[bOh,bOo];omega)
 simp only[go_sem,kK,d4];obtain⟨⟨bv1,h1⟩,k1⟩:=h.stay (cnt':=aC (aC (aC cnt 0 4 (cnt 0 4+1)) 0 5 (cnt 0 5+1)) 0 6 (cnt 0 6+1)) (en':=((en.set ⟨0,4,cnt 0 4⟩ (some (.box [.i u.kind,.i u.n] false))).set ⟨0,5,cnt 0 5⟩ (some (.box [.i v.kind,.i v.n] false))).set ⟨0,6,cnt 0 6⟩ (some (.box [.i 0,.cl [],.cl []] false))) (fun k hk=>by simp only[hk.set]) (by(repeat refine upS ?_ (by omega));exact aN _)
 refine(qF h1 (fH hu) 2).mono ?_
 rintro r e1 c1 ⟨⟨x,rfl,hx⟩,⟨bv2,h2'⟩,k2⟩
 rcases hx with⟨_,hx⟩|⟨rfl,_⟩
 ·rw[h2]at hx;cases hx
 obtain⟨p5,q5⟩:=k2.loc (d:=5) (g:=cnt 0 5) (by simp only[go_sem];omega) h.okt.ne.symm h.okr.ne.symm
 simp only[go_sem]at p5;have ht2:=h2'.t;have hr2:=h2'.r;have z1:=h2'.okt.set;have z2:=h2'.okr.set;simp only[go_sem,kK,h2]
 refine lY 19 rfl rfl ?_
 simp only[go_sem,bOp,bOm,ht2,hr2,z1,z2,p5,q5.set,bI b1,aOc (n:=p.node (w.obj u.n).n) (by omega),hW.ret,bPk,bPj,rJ,kA,kF]
 exact⟨rfl,h.fell h2' (k1.trans k2) (fun k hk hj=>by simp only[hj.set]) (by(repeat refine upS ?_ (by omega));exact aN _)⟩
def aMd :Option lQ->Val
 |none=>aNx
 |some e=>aGn e
def pS (fn:Nat)(kt kr:Key)(en:En)(cnt:Nat->Nat->Nat)(p:aI)(w:aB)(a:Int)(left:List aA)(f:aA)(n:aL):OpR->Prop
 | .go ev w' left' back=>WIn L (.fn fn [] []) [.ptr kt 0] en cnt fun r en' cnt'=>r=aMd ev/\ (∃bv',TS kt kr en' cnt' p w' a left' f n back bv')/\ dI kt kr en cnt en' cnt'
 | .wait=>WIn L (.fn fn [] []) [.ptr kt 0] en cnt fun r en' cnt'=>r=aUa/\ (∃bv',TS kt kr en' cnt' p w a left f n [] bv')/\ dI kt kr en cnt en' cnt'
 | .fail s=>vC L fn [.ptr kt 0] en cnt (oB kt kr en cnt p s)
structure Pre (p:aI) (w0:aB) (S:Nat->Prop) (w:aB) (a:Int) (left:List aA) (f:aA) (n:aL):Prop where
 hp:dV p
 hsp:aV p=true
 hF:cF p w0 S w
 ha:inR a 0 ((w.tasks.length:Int)-1)=true
 hl:LOk p S w left
 hf:FOk p S w f
 hn:p.node f.node=n
 full:(f.vals.length:Int)=n.asks
theorem Pre.env30 (h:Pre p w0 S w a left f n):f.env.length<=30:=by
 have:=h.hf.ok;simp only[dA,bE,bN8,bRt]at this;omega
theorem Pre.objs (h:Pre p w0 S w a left f n):w.objs.length<=120:=(dL.1 h.hF.ok).1
theorem Pre.left40 (h:Pre p w0 S w a left f n):left.length<=40:=by have:=h.hl.len;omega
theorem Pre.kids (h:Pre p w0 S w a left f n):(n.kids.length:Int)=eQ n.op n.pats.length (oA p n):=by
 have hok:=h.hp.nodes _ (hZ (fC h.hf));rw[h.hn]at hok;exact nA hok
theorem Pre.node (h:Pre p w0 S w a left f n):dZ p n=true:=by
 have hok:=h.hp.nodes _ (hZ (fC h.hf));rw[h.hn]at hok;exact hok
theorem Pre.val (h:Pre p w0 S w a left f n){i:Nat}(hi:i<f.vals.length):VOk p S w (aF f.vals i):=by
 refine h.hf.vals ?_
 simp only[aF,bOd,bPh hi,bOz];exact bOg hi
theorem bE6 (h:TS kt kr en cnt p w a left f n [] bv)(hop:n.op=1):pS 266 kt kr en cnt p w a left f n (opR p w a left f n):=by
 have e:opR p w a left f n=iF w left (lR n.n):=by unfold opR;rw[hop];rfl
 rw[e];have H:=h.pre;have ht:=h.t;have hL:=at_ Tryz.func266
 conv at hL=>rhs;reduce
 refine bO hL rfl rfl ?_
 simp only[go_sem,kK,ht,hop,(sK _).ret]
 refine(iD h (lR n.n)).mono ?_
 rintro r e1 c1 ⟨rfl,t1,k1⟩
 exact⟨rfl,t1,k1⟩
theorem bE7 (P0:Pre p w0 S w a left f n)(h:TS kt kr en cnt p w a left f n [] bv)(hop:n.op=7):pS 270 kt kr en cnt p w a left f n (opR p w a left f n):=by
 have e:opR p w a left f n=lJ w left (nN n 1) (f.env++[aF f.vals 0]):=by unfold opR;rw[hop];rfl
 rw[e];have hfull:=P0.full;simp[aL.asks,hop]at hfull;have hk:=P0.kids;simp[eQ,hop]at hk;have hv0:0<f.vals.length:=by omega
 have h30:=P0.env30;have h40:=P0.left40;have H:=h.pre;have ht:=h.t;unfold lJ
 by_cases hc:30<(f.env++[aF f.vals 0]).length
 ·rw[if_pos hc];simp only[bOr,bOh,bOo]at hc;have hW:PX L 330 [.fz (f.env.map aE.enc),.fz [.agg [.i (aF f.vals 0).kind,.i (aF f.vals 0).n]]] (aD3 4):=aHh f.env [aF f.vals 0] (by simpa using hc) (by simp only[bOh,bOo];omega)
  have hL:=at_ Tryz.func270
  conv at hL=>rhs;reduce
  refine bW hL rfl rfl ?_
  simp only[go_sem,kK]
  refine lY 14 rfl rfl ?_
  simp only[go_sem,bOp,bOm,ht,aS hv0,hW.ret,bPk,bPj,rJ,kA,kF];exact⟨rfl,h.fell0 (fun _ _=>rfl) (aN _)⟩
 ·rw[if_neg hc];simp only[bOr,bOh,bOo]at hc;have hW:PC L 330 [.fz (f.env.map aE.enc),.fz [.agg [.i (aF f.vals 0).kind,.i (aF f.vals 0).n]]] (.fz ((f.env++[aF f.vals 0]).map aE.enc)):=aD8 f.env [aF f.vals 0] (by simp only[bOh,bOo];omega)
  unfold qZ
  by_cases hc2:40<(left++[(⟨nN n 1,f.env++[aF f.vals 0],[]⟩:aA)]).length
  ·rw[if_pos hc2];simp only[bOr,bOh,bOo]at hc2;have hL:=at_ Tryz.func270
   conv at hL=>rhs;reduce
   refine bW hL rfl rfl ?_
   simp only[go_sem,kK]
   refine lY 15 rfl rfl ?_
   simp only[go_sem,bOp,bOm,ht,aS hv0,hW.ret,bPk,bPj,rJ,kA,kF];exact⟨rfl,wQ h (i:=1) (env:=f.env++[aF f.vals 0]) (by omega) (.inl rfl) (by omega)⟩
  ·rw[if_neg hc2];simp only[bOr,bOh,bOo]at hc2;have hL:=at_ Tryz.func270
   conv at hL=>rhs;reduce
   refine bO hL rfl rfl ?_
   simp only[go_sem,kK]
   refine kL ?_
   simp only[go_sem,ht,aS hv0,hW.ret,kA,kF];exact wP h (i:=1) (env:=f.env++[aF f.vals 0]) (by omega) (.inl rfl) (by omega)
theorem bE8 (h:TS kt kr en cnt p w a left f n [] bv)(hop:n.op=2):pS 266 kt kr en cnt p w a left f n (opR p w a left f n):=by
 have e:opR p w a left f n=iF w left (mA (decide (n.n=1))):=by unfold opR;rw[hop];rfl
 rw[e];have H:=h.pre;have ht:=h.t;have hL:=at_ Tryz.func266
 conv at hL=>rhs;reduce
 refine bO hL rfl rfl ?_
 simp only[go_sem,kK,ht,hop,(aD4 _).ret];exact iD h _
theorem bE9 (h:TS kt kr en cnt p w a left f n [] bv)(hop:n.op=3):pS 266 kt kr en cnt p w a left f n (opR p w a left f n):=by
 have e:opR p w a left f n=iF w left bL:=by unfold opR;rw[hop];rfl
 rw[e];have H:=h.pre;have ht:=h.t;have hL:=at_ Tryz.func266
 conv at hL=>rhs;reduce
 refine bO hL rfl rfl ?_
 simp only[go_sem,kK,ht,hop,jP.ret];exact iD h _
theorem bFa (P0:Pre p w0 S w a left f n)(h:TS kt kr en cnt p w a left f n [] bv)(hop:n.op=4):pS 267 kt kr en cnt p w a left f n (opR p w a left f n):=by
 have e:opR p w a left f n=(if n.n<0 then iF w left ⟨4,-1-n.n⟩else if(f.env.length:Int)<=n.n then .fail 2 else iF w left (aF f.env n.n.toNat)):=by unfold opR;rw[hop];rfl
 rw[e];have H:=h.pre;have ht:=h.t
 by_cases h0:n.n<0
 ·rw[if_pos h0];have d0:decide (n.n<0)=true:=decide_eq_true h0;have hw:IntKind.i64.wrap (-1-n.n)= -1-n.n:=by
   have hok:=P0.node;have hnum:nB p n=true:=by simp only[dZ,bN8]at hok;exact hok.1.1.1
   simp only[nB,hop]at hnum;simp[inR]at hnum;exact aY (by have hsl:=P0.hsp;simp only[aV,bN8,bRt]at hsl;omega)
  have hL:=at_ Tryz.func267
  conv at hL=>rhs;reduce
  refine bO hL rfl rfl ?_
  simp only[go_sem,kK,ht,d0,hw];exact iD h ⟨4,-1-n.n⟩
 ·rw[if_neg h0];have d0:decide (n.n<0)=false:=decide_eq_false h0
  by_cases h1:(f.env.length:Int)<=n.n
  ·rw[if_pos h1];have d1:decide (n.n<(f.env.length:Int))=false:=decide_eq_false (by omega)
   have hL:=at_ Tryz.func267
   conv at hL=>rhs;reduce
   refine bW hL rfl rfl ?_
   simp only[go_sem,kK,ht,d0]
   refine lY 12 rfl rfl ?_
   simp only[go_sem,bOp,bOm,ht,bOc,d1,(jO _).ret,bPk,bPj,rJ];exact⟨rfl,h.fell0 (fun _ _=>rfl) (aN _)⟩
  ·rw[if_neg h1];have d1:decide (n.n<(f.env.length:Int))=true:=decide_eq_true (by omega)
   have hi:inR n.n 0 ((f.env.length:Int)-1)=true:=by simp only[inR,bRt];omega
   have hL:=at_ Tryz.func267
   conv at hL=>rhs;reduce
   refine bO hL rfl rfl ?_
   simp only[go_sem,kK,ht,d0]
   refine kL ?_
   simp only[go_sem,ht,bOc,d1,(gD _).ret,aUi hi,kF];exact iD h _
theorem bBr (P0:Pre p w0 S w a left f n)(h:TS kt kr en cnt p w a left f n [] bv)(hop:n.op=26):pS 287 kt kr en cnt p w a left f n (opR p w a left f n):=by
 have e:opR p w a left f n=iF w left (aF f.vals 0):=by unfold opR;rw[hop];rfl
 rw[e];have hfull:=P0.full;simp[aL.asks,hop]at hfull;have H:=h.pre;have ht:=h.t;have hL:=at_ Tryz.func287
 conv at hL=>rhs;reduce
 refine bO hL rfl rfl ?_
 simp only[go_sem,kK,ht,aS (l:=f.vals) (by omega)]
 exact iD h _
theorem bBs (h:TS kt kr en cnt p w a left f n [] bv)(hop:n.op=28):pS 289 kt kr en cnt p w a left f n (opR p w a left f n):=by
 have e:opR p w a left f n=jN w a left 28 0 bL bL:=by unfold opR;rw[hop];rfl
 rw[e];have H:=h.pre;have hL:=at_ Tryz.func289
 conv at hL=>rhs;reduce
 refine bO hL rfl rfl ?_
 simp only[go_sem,kK,jP.ret]
 refine(pL h bL bL).mono ?_
 rintro r e1 c1 ⟨rfl,t1,k1⟩
 refine⟨?_,t1,k1⟩
 rw[hop];rfl
theorem bFb (P0:Pre p w0 S w a left f n)(h:TS kt kr en cnt p w a left f n [] bv)(hop:n.op=5):pS 268 kt kr en cnt p w a left f n (opR p w a left f n):=by
 have e:opR p w a left f n=jC w ⟨2,f.node,f.env,[]⟩ fun w' v=>iF w' left v:=by unfold opR;rw[hop];rfl
 rw[e];have h120:=P0.objs;have H:=h.pre;have ht:=h.t;unfold jC
 by_cases hc:120<=w.objs.length
 ·rw[if_pos hc];have hL:=at_ Tryz.func268
  conv at hL=>rhs;reduce
  refine bW hL rfl rfl ?_
  simp only[go_sem,kK]
  refine lY 13 rfl rfl ?_
  simp only[go_sem,bOp,bOm,bPk,bPj,rJ,ht];exact⟨rfl,oC h (o:=⟨2,f.node,f.env,[]⟩) hc (by omega)⟩
 ·rw[if_neg hc];have hL:=at_ Tryz.func268
  conv at hL=>rhs;reduce
  refine bO hL rfl rfl ?_
  simp only[go_sem,kK]
  refine kL ?_
  simp only[go_sem,ht]
  refine(qE h (o:=⟨2,f.node,f.env,[]⟩) (.inl rfl) (.inr rfl) (by omega)).mono ?_
  rintro v e1 c1 ⟨rfl,⟨bv1,t1⟩,k1⟩
  refine(iD t1 (dE w.objs.length)).mono ?_
  rintro v e2 c2 ⟨rfl,t2,k2⟩
  exact⟨rfl,t2,k1.trans k2⟩
theorem bBt (P0:Pre p w0 S w a left f n)(h:TS kt kr en cnt p w a left f n [] bv)(hop:n.op=14):pS 275 kt kr en cnt p w a left f n (opR p w a left f n):=by
 have e:opR p w a left f n=jC w ⟨1,n.n,f.vals,[]⟩ fun w' v=>iF w' left v:=by unfold opR;rw[hop];rfl
 rw[e];have h120:=P0.objs;have H:=h.pre;have ht:=h.t;unfold jC
 by_cases hc:120<=w.objs.length
 ·rw[if_pos hc];have hL:=at_ Tryz.func275
  conv at hL=>rhs;reduce
  refine bW hL rfl rfl ?_
  simp only[go_sem,kK]
  refine lY 13 rfl rfl ?_
  simp only[go_sem,bOp,bOm,bPk,bPj,rJ,ht];exact⟨rfl,oC h (o:=⟨1,n.n,f.vals,[]⟩) hc (by omega)⟩
 ·rw[if_neg hc];have hL:=at_ Tryz.func275
  conv at hL=>rhs;reduce
  refine bO hL rfl rfl ?_
  simp only[go_sem,kK]
  refine kL ?_
  simp only[go_sem,ht]
  refine(qE h (o:=⟨1,n.n,f.vals,[]⟩) (.inl rfl) (.inr rfl) (by omega)).mono ?_
  rintro v e1 c1 ⟨rfl,⟨bv1,t1⟩,k1⟩
  refine(iD t1 (dE w.objs.length)).mono ?_
  rintro v e2 c2 ⟨rfl,t2,k2⟩
  exact⟨rfl,t2,k1.trans k2⟩
theorem bFc (P0:Pre p w0 S w a left f n)(h:TS kt kr en cnt p w a left f n [] bv)(hop:n.op=8):pS 271 kt kr en cnt p w a left f n (opR p w a left f n):=by
 have e:opR p w a left f n=(if¬(aF f.vals 0).kind=2 then .fail 2 else lJ w left (nN n (2-(aF f.vals 0).n)) f.env):=by unfold opR;rw[hop];rfl
 rw[e];have hfull:=P0.full;simp[aL.asks,hop]at hfull;have hk:=P0.kids;simp[eQ,hop]at hk;have hv0:0<f.vals.length:=by omega
 have h30:=P0.env30;have h40:=P0.left40;have H:=h.pre;have ht:=h.t
 by_cases h2:(aF f.vals 0).kind=2
 ·rw[if_neg (fun h=>h h2)]
  have d2:decide ((aF f.vals 0).kind=2)=true:=decide_eq_true h2;have hvk:=(P0.val hv0).ok;simp only[dD,h2]at hvk;simp[inR]at hvk;obtain⟨j,hj⟩: ∃j:Nat,2-(aF f.vals 0).n=(j:Int):=⟨(2-(aF f.vals 0).n).toNat,by omega⟩
  have hw:IntKind.i64.wrap (2-(aF f.vals 0).n)=(j:Int):=by rw[hj];exact aY (by omega)
  have hkn:nN n (2-(aF f.vals 0).n)=n.kids.getD j 0:=by rw[hj];rfl
  unfold lJ;rw[if_neg (by omega),hkn]
  unfold qZ
  by_cases hc2:40<(left++[(⟨n.kids.getD j 0,f.env,[]⟩:aA)]).length
  ·rw[if_pos hc2];simp only[bOr,bOh,bOo]at hc2;have hL:=at_ Tryz.func271
   conv at hL=>rhs;reduce
   refine bW hL rfl rfl ?_
   simp only[go_sem,kK]
   refine cU ?_
   simp only[go_sem,ht,aS hv0,d2,(gD _).ret]
   refine lY 15 rfl rfl ?_
   simp only[go_sem,bOp,bOm,bPk,bPj,rJ,ht,aS hv0,hw];exact⟨rfl,wQ h (i:=j) (env:=f.env) (by omega) (.inl rfl) (by omega)⟩
  ·rw[if_neg hc2];simp only[bOr,bOh,bOo]at hc2;have hL:=at_ Tryz.func271
   conv at hL=>rhs;reduce
   refine bO hL rfl rfl ?_
   simp only[go_sem,kK]
   refine cU ?_
   simp only[go_sem,ht,aS hv0,d2,(gD _).ret]
   refine kL ?_
   simp only[go_sem,ht,aS hv0,hw];exact wP h (i:=j) (env:=f.env) (by omega) (.inl rfl) (by omega)
 ·rw[if_pos h2];have d2:decide ((aF f.vals 0).kind=2)=false:=decide_eq_false h2;have hL:=at_ Tryz.func271
  conv at hL=>rhs;reduce
  refine bW hL rfl rfl ?_
  simp only[go_sem,kK]
  refine eX 9 rfl ?_
  simp only[go_sem,bOp,bOm,ht,aS hv0,d2,(jO _).ret];exact h.fell0 (fun _ _=>rfl) (aN _)
theorem bBu (P0:Pre p w0 S w a left f n)(h:TS kt kr en cnt p w a left f n [] bv)(hop:n.op=12):pS 273 kt kr en cnt p w a left f n (opR p w a left f n):=by
 have e:opR p w a left f n=(if¬(aF f.vals 0).kind=1 \/ ¬(aF f.vals 1).kind=1 then .fail 2 else iF w left (mA (decide ((aF f.vals 0).n<(aF f.vals 1).n)))):=by unfold opR;rw[hop];rfl
 rw[e];have hfull:=P0.full;simp[aL.asks,hop]at hfull;have H:=h.pre
 by_cases h12: ¬(aF f.vals 0).kind=1 \/ ¬(aF f.vals 1).kind=1
 ·rw[if_pos h12];have hL:=at_ Tryz.func273
  conv at hL=>rhs;reduce
  refine bW hL rfl rfl ?_
  simp only[go_sem,kK]
  refine eX 1 rfl ?_
  simp only[go_sem,bOp,bOm];exact aQz h (by omega) h12
 ·rw[if_neg h12];have k1:(aF f.vals 0).kind=1:=Decidable.byContradiction fun hh=>h12 (.inl hh)
  have k2:(aF f.vals 1).kind=1:=Decidable.byContradiction fun hh=>h12 (.inr hh)
  have hL:=at_ Tryz.func273
  conv at hL=>rhs;reduce
  refine bO hL rfl rfl ?_
  simp only[go_sem,kK]
  refine cU ?_
  simp only[go_sem]
  refine(aQy h (by omega) k1 k2).mono ?_
  rintro v e1 c1 ⟨rfl,rfl,rfl⟩
  simp only[go_sem,(aD4 _).ret];exact iD h _
theorem aKc (P0:Pre p w0 S w a left f n)(h:TS kt kr en cnt p w a left f n [] bv)(hop:n.op=9 \/n.op=10 \/n.op=11):pS 272 kt kr en cnt p w a left f n (opR p w a left f n):=by
 have e:opR p w a left f n=(if¬(aF f.vals 0).kind=1 \/ ¬(aF f.vals 1).kind=1 then .fail 2
  else if inR (pX n.op (aF f.vals 0).n (aF f.vals 1).n) (-1000000000) 1000000000=true then iF w left (lR (pX n.op (aF f.vals 0).n (aF f.vals 1).n))else .fail 4):=by
  unfold opR;rcases hop with h|h|h<;>rw[h]<;>rfl
 rw[e];have hfull:f.vals.length=2:=by
  have:=P0.full;rcases hop with h|h|h<;>simp[aL.asks,h]at this<;>omega
 have H:=h.pre;have ht:=h.t
 by_cases h12: ¬(aF f.vals 0).kind=1 \/ ¬(aF f.vals 1).kind=1
 ·rw[if_pos h12];have hL:=at_ Tryz.func272
  conv at hL=>rhs;reduce
  refine bW hL rfl rfl ?_
  simp only[go_sem,kK]
  refine eX 1 rfl ?_
  simp only[go_sem,bOp,bOm];exact aQz h (by omega) h12
 ·rw[if_neg h12];have k1:(aF f.vals 0).kind=1:=Decidable.byContradiction fun hh=>h12 (.inl hh)
  have k2:(aF f.vals 1).kind=1:=Decidable.byContradiction fun hh=>h12 (.inr hh)
  have v1:=(P0.val (show 0<f.vals.length by omega)).ok
  have v2:=(P0.val (show 1<f.vals.length by omega)).ok
  simp only[dD,k1,k2]at v1 v2;simp[inR]at v1 v2;have hI:=aQy h (by omega) k1 k2
  generalize (aF f.vals 0).n=x at v1 hI⊢;generalize (aF f.vals 1).n=y at v2 hI⊢;have w1:IntKind.i64.wrap (x+y)=x+y:=aY (by omega)
  have w2:IntKind.i64.wrap (x-y)=x-y:=aY (by omega)
  have hm: -1000000000000000000<=x*y/\ x*y<=1000000000000000000:=by
   have:=Int.natAbs_mul x y;have a1:x.natAbs<=1000000000:=by omega
   have a2:y.natAbs<=1000000000:=by omega
   have:=Nat.mul_le_mul a1 a2;omega
  have w3:IntKind.i64.wrap (x*y)=x*y:=aY (by omega)
  by_cases hr2:inR (pX n.op x y) (-1000000000) 1000000000=true
  ·rw[if_pos hr2];have hL:=at_ Tryz.func272
   conv at hL=>rhs;reduce
   refine bO hL rfl rfl ?_
   simp only[go_sem,kK]
   refine cU ?_
   simp only[go_sem]
   refine hI.mono ?_
   rintro v e1 c1 ⟨rfl,rfl,rfl⟩
   rcases hop with ho|ho|ho
   ·rw[ho,show pX 9 x y=x+y from rfl]at hr2⊢
    simp only[go_sem,kK,ht,ho,w1]
    refine cU ?_
    simp only[go_sem,(fG _).ret,hr2,(gD _).ret,(sK _).ret];exact iD h (lR (x+y))
   ·rw[ho,show pX 10 x y=x-y from rfl]at hr2⊢
    simp only[go_sem,kK,ht,ho,w1,w2]
    refine cU ?_
    simp only[go_sem,(fG _).ret,hr2,(gD _).ret,(sK _).ret];exact iD h (lR (x-y))
   ·rw[ho,show pX 11 x y=x*y from rfl]at hr2⊢
    simp only[go_sem,kK,ht,ho,w1,w3]
    refine cU ?_
    simp only[go_sem,(fG _).ret,hr2,(gD _).ret,(sK _).ret];exact iD h (lR (x*y))
  ·rw[if_neg hr2];rw[bPf]at hr2;have hL:=at_ Tryz.func272
   conv at hL=>rhs;reduce
   refine bW hL rfl rfl ?_
   simp only[go_sem,kK]
   refine cU ?_
   simp only[go_sem]
   refine hI.mono ?_
   rintro v e1 c1 ⟨rfl,rfl,rfl⟩
   rcases hop with ho|ho|ho
   ·rw[ho,show pX 9 x y=x+y from rfl]at hr2
    simp only[go_sem,kK,ht,ho,w1]
    refine eX 2 rfl ?_
    simp only[go_sem,bOp,bOm,(fG _).ret,hr2,(jO _).ret];exact h.fell0 (fun _ _=>rfl) (aN _)
   ·rw[ho,show pX 10 x y=x-y from rfl]at hr2
    simp only[go_sem,kK,ht,ho,w1,w2]
    refine eX 2 rfl ?_
    simp only[go_sem,bOp,bOm,(fG _).ret,hr2,(jO _).ret];exact h.fell0 (fun _ _=>rfl) (aN _)
   ·rw[ho,show pX 11 x y=x*y from rfl]at hr2
    simp only[go_sem,kK,ht,ho,w1,w3]
    refine eX 2 rfl ?_
    simp only[go_sem,bOp,bOm,(fG _).ret,hr2,(jO _).ret];exact h.fell0 (fun _ _=>rfl) (aN _)
theorem aBy {kids:List Int}{env:List aE}{l:List Pat}(hk:k<l.length):fB w left kids env u k (l.drop k)=(match fX w l[k] u with|some r=>lJ w left (kids.getD (1+k) 0) (env++r)|none=>fB w left kids env u (k+1) (l.drop (k+1))):=by
 rw[bO9 hk,fB];cases fX w l[k] u<;>rfl
theorem aBz {kids:List Int}{env:List aE}{u:aE}: ∀(l:List Pat) (i:Nat),fB w left kids env u i l≠ .wait
 |[],i=>by simp[fB]
 |q::l,i=>by
  rw[fB];split
  ·unfold lJ qZ;split
   ·simp
   ·split<;>simp
  ·exact aBz l _
theorem bBv (P0:Pre p w0 S w a left f n)(h:TS kt kr en cnt p w a left f n [] bv)(hop:n.op=15):pS 276 kt kr en cnt p w a left f n (opR p w a left f n):=by
 have e:opR p w a left f n=fB w left n.kids f.env (aF f.vals 0) 0 n.pats:=by unfold opR;rw[hop];rfl
 rw[e];have hfull:=P0.full;simp[aL.asks,hop]at hfull;have hv0:0<f.vals.length:=by omega
 have hu:=P0.val hv0;have hkd:=P0.kids;simp[eQ,hop]at hkd;have hok:=P0.node;have hpf: ∀q∈n.pats,qR p.cons q=true/\ oE q<=1000:=fun q hq=>by
  simp only[dZ,bN8,bOe]at hok;have:=hok.1.2 q hq;exact⟨by simp only[lZ,bN8]at this;exact this.2,aJ9 this⟩
 have hfew:n.kids.length<=1000:=by
  have hsp:=P0.hsp;have hsn:fK n=true:=by rw[<-P0.hn];simp only[aV,bN8,bOe]at hsp;exact hsp.2 _ (hZ (fC P0.hf))
  simp only[fK,bN8,bRt]at hsn;omega
 have h30:=P0.env30;have h40:=P0.left40;have H:=h.pre;have ht:=h.t;cases hR0:fB w left n.kids f.env (aF f.vals 0) 0 n.pats with
 |wait=>exact absurd hR0 (aBz _ _)
 |fail s=>
  have hL:=at_ Tryz.func276
  conv at hL=>rhs;reduce
  refine bW hL rfl rfl ?_
  simp only[go_sem,kK,ht]
  refine bH n.pats.length (fun k st=> ∃fr en2 cnt2,st=⟨fr,en2,cnt2⟩/\ fr 0= .ptr kt 0/\ fr 10= .fz (n.pats.map Pat.enc)/\ fr 11= .i n.pats.length/\ fr 12= .i k/\ (∃bv2,TS kt kr en2 cnt2 p w a left f n [] bv2)/\ dI kt kr en cnt en2 cnt2/\ fB w left n.kids f.env (aF f.vals 0) k (n.pats.drop k)=fB w left n.kids f.env (aF f.vals 0) 0 n.pats) 0 (bOf _) ⟨_,_,_,rfl,by simp only[go_sem],by simp only[go_sem],by simp only[go_sem],by simp only[go_sem],⟨bv,h⟩,dI.refl _ _ _ _,by rw[bQf]⟩ ?_
  rintro k st hk ⟨fr,en2,cnt2,rfl,k0,k10,k11,k12,⟨bv2,t2⟩,K2,hR⟩
  simp only[go_sem,kK,k11,k12]
  refine aD (fun hq2=>?_) (fun hq2=>?_)
  ·have h':k<n.pats.length:=of_decide_eq_true hq2;have ht2:=t2.t;have y1:=t2.okt.set;have y2:=t2.okr.set;rw[aBy h']at hR;simp only[go_sem,kK,k0,k10,k12,h',ht2,y1,aS hv0];have hpk:=hpf _ (bOg h');have u3: ∀t,cnt2 0 t<=aC (aC cnt2 0 4 (cnt2 0 4+1)) 0 5 (cnt2 0 5+1) 0 t:=(by(repeat refine upS ?_ (by omega));exact aN _)
   obtain⟨⟨bv3,t3⟩,k3⟩:=t2.stay (cnt':=aC (aC cnt2 0 4 (cnt2 0 4+1)) 0 5 (cnt2 0 5+1)) (en':=((en2.set ⟨0,4,cnt2 0 4⟩ (some (.box [.i 0,.i 0,.str ⟨#[]⟩,.cl []] false))).set ⟨0,4,cnt2 0 4⟩ (some (.box [.i n.pats[k].form,.i n.pats[k].n,.str n.pats[k].text,.fz (n.pats[k].parts.map Pat.enc)] false))).set ⟨0,5,cnt2 0 5⟩ (some (.box [.cl []] false))) (fun k hk=>by simp only[hk.set]) u3
   refine(aRc P0.hF p.cons n.pats[k] hpk.1 hpk.2 (aF f.vals 0) hu (kl:=⟨0,5,cnt2 0 5⟩) (ko:=none) (xs:=[]) t3 ⟨⟨rfl,by simp[aC]⟩,.inl ⟨rfl,rfl,cB⟩⟩ (by have:=hpk.2;simp only[bOo];omega)).mono ?_
   rintro r e5 c5 ⟨rfl,F5⟩
   obtain⟨bv5,t5⟩:=F5.ts;have K5:dI kt kr en cnt e5 c5:=K2.trans ⟨fun x hx y1 y2=>by rw[F5.old x (hx.up u3) y1 y2 hx.ne (by simp),hx.set,hx.set,hx.set],fun t=>bOk (u3 t) (F5.up t)⟩
   cases hx:fX w n.pats[k] (aF f.vals 0)with
   |none=>
    rw[hx]at hR;simp only[go_sem,bQb,k12,aQ h' (show Few n.pats.length by unfold Few;omega)]
    refine⟨_,_,_,rfl,?_⟩
    simp only[go_sem,k0,k10,k11];exact⟨⟨bv5,t5⟩,K5,hR⟩
   |some l=>
    rw[hx]at hR
    simp only at hR
    rw[hR0]at hR;obtain⟨ko5,⟨_,hv5⟩,hk5⟩:=F5.acc l hx;rw[bPb]at hv5;have ht5:=t5.t;simp only[go_sem,kK,bP2];have hwk:IntKind.i64.wrap ((k:Int)+1)=((k+1:Nat):Int):=by rw[aY (by omega)];omega
    unfold lJ at hR
    by_cases hc:30<(f.env++l).length
    ·rw[if_pos hc,OpR.fail.injEq]at hR;subst hR;have hll:=aBd _ hx;have hW:=aHh f.env l (by simpa using hc) (by have:=hpk.2;omega)
     rcases hv5 with⟨_,z2,z3⟩|⟨t,g,b,_,z2,z3,z4⟩
     ·subst z2;simp at hc;omega
     ·refine lY 9 rfl rfl ?_
      simp only[go_sem,bOp,bOm,bPk,bPj,rJ,k0,ht5,z4,z3,hW.ret,hwk,bOc,bQf,bOt,bN9,bO1,kF];exact⟨rfl,oB.then K5 (t5.fell0 (fun _ _=>rfl) (aN _))⟩
    ·rw[if_neg hc]at hR;simp only[bOr]at hc;unfold qZ at hR;have hW:=aD8 f.env l (by omega)
     by_cases hc2:40<(left++[(⟨n.kids.getD (1+k) 0,f.env++l,[]⟩:aA)]).length
     ·rw[if_pos hc2,OpR.fail.injEq]at hR;subst hR;simp only[bOr,bOh,bOo]at hc2;have hG:=wQ t5 (i:=k+1) (env:=f.env++l) (by omega) (.inl rfl) (by omega)
      rcases hv5 with⟨_,z2,z3⟩|⟨t,g,b,z1,z2,z3,z4⟩
      ·subst z2;rw[bPa]at hW hG;simp only[bOq]at hW
       refine lY 10 rfl rfl ?_
       simp only[go_sem,bOp,bOm,bPk,bPj,rJ,k0,ht5,z3,hW.ret,hwk,kF];exact⟨rfl,hG.mono fun _ _ _=>oB.then K5⟩
      ·have hr5:=t5.r;have bt:(⟨0,t,g⟩:Key)≠kt:=by rintro rfl;rw[ht5]at z3;cases z3
       have br:(⟨0,t,g⟩:Key)≠kr:=by rintro rfl;rw[hr5]at z3;cases z3
       have t6:TS kt kr (e5.set ⟨0,t,g⟩ (some (.blk 2 (l.map aE.enc) true))) c5 p w a left f n [] bv5:=t5.to (aK bt.symm) (aK br.symm) (aN _);have K6:dI kt kr en cnt (e5.set ⟨0,t,g⟩ (some (.blk 2 (l.map aE.enc) true))) c5:=⟨fun x hxo y1 y2=>by
        have hne:x≠⟨0,t,g⟩:=by
         rintro rfl
         rcases hk5 with hk5|hk5
         ·rw[z1]at hk5;cases hk5
         ·exact hk5 _ z1 (hxo.up fun t=>bOk (K2.up t) (u3 t))
        rw[aK hne];exact K5.old x hxo y1 y2,K5.up⟩
       have hG:=wQ t6 (i:=k+1) (env:=f.env++l) (by omega) (.inl rfl) (by omega)
       refine lY 10 rfl rfl ?_
       simp only[go_sem,bOp,bOm,bPk,bPj,rJ,k0,ht5,z4,z3,hW.ret,hwk,bOc,bQf,bOt,bN9,bO1,kF];exact⟨rfl,hG.mono fun _ _ _=>oB.then K6⟩
     ·rw[if_neg hc2]at hR;cases hR
  ·have:k=n.pats.length:=by simp at hq2;omega
   subst this;rw[bP1,fB]at hR;rw[hR0,OpR.fail.injEq]at hR;subst hR;simp only[go_sem]
   refine eX 2 rfl ?_
   simp only[go_sem,bOp,bOm];exact⟨rfl,rfl,K2,t2.rb⟩
 |go ev w' left' back'=>
  have hL:=at_ Tryz.func276
  conv at hL=>rhs;reduce
  refine bO hL rfl rfl ?_
  simp only[go_sem,kK,ht]
  refine bH n.pats.length (fun k st=> ∃fr en2 cnt2,st=⟨fr,en2,cnt2⟩/\ fr 0= .ptr kt 0/\ fr 10= .fz (n.pats.map Pat.enc)/\ fr 11= .i n.pats.length/\ fr 12= .i k/\ (∃bv2,TS kt kr en2 cnt2 p w a left f n [] bv2)/\ dI kt kr en cnt en2 cnt2/\ fB w left n.kids f.env (aF f.vals 0) k (n.pats.drop k)=fB w left n.kids f.env (aF f.vals 0) 0 n.pats) 0 (bOf _) ⟨_,_,_,rfl,by simp only[go_sem],by simp only[go_sem],by simp only[go_sem],by simp only[go_sem],⟨bv,h⟩,dI.refl _ _ _ _,by rw[bQf]⟩ ?_
  rintro k st hk ⟨fr,en2,cnt2,rfl,k0,k10,k11,k12,⟨bv2,t2⟩,K2,hR⟩
  simp only[go_sem,kK,k11,k12]
  refine aD (fun hq2=>?_) (fun hq2=>?_)
  ·have h':k<n.pats.length:=of_decide_eq_true hq2;have ht2:=t2.t;have y1:=t2.okt.set;have y2:=t2.okr.set;rw[aBy h']at hR;simp only[go_sem,kK,k0,k10,k12,h',ht2,y1,aS hv0];have hpk:=hpf _ (bOg h');have u3: ∀t,cnt2 0 t<=aC (aC cnt2 0 4 (cnt2 0 4+1)) 0 5 (cnt2 0 5+1) 0 t:=(by(repeat refine upS ?_ (by omega));exact aN _)
   obtain⟨⟨bv3,t3⟩,k3⟩:=t2.stay (cnt':=aC (aC cnt2 0 4 (cnt2 0 4+1)) 0 5 (cnt2 0 5+1)) (en':=((en2.set ⟨0,4,cnt2 0 4⟩ (some (.box [.i 0,.i 0,.str ⟨#[]⟩,.cl []] false))).set ⟨0,4,cnt2 0 4⟩ (some (.box [.i n.pats[k].form,.i n.pats[k].n,.str n.pats[k].text,.fz (n.pats[k].parts.map Pat.enc)] false))).set ⟨0,5,cnt2 0 5⟩ (some (.box [.cl []] false))) (fun k hk=>by simp only[hk.set]) u3
   refine(aRc P0.hF p.cons n.pats[k] hpk.1 hpk.2 (aF f.vals 0) hu (kl:=⟨0,5,cnt2 0 5⟩) (ko:=none) (xs:=[]) t3 ⟨⟨rfl,by simp[aC]⟩,.inl ⟨rfl,rfl,cB⟩⟩ (by have:=hpk.2;simp only[bOo];omega)).mono ?_
   rintro r e5 c5 ⟨rfl,F5⟩
   obtain⟨bv5,t5⟩:=F5.ts;have K5:dI kt kr en cnt e5 c5:=K2.trans ⟨fun x hx y1 y2=>by rw[F5.old x (hx.up u3) y1 y2 hx.ne (by simp),hx.set,hx.set,hx.set],fun t=>bOk (u3 t) (F5.up t)⟩
   cases hx:fX w n.pats[k] (aF f.vals 0)with
   |none=>
    rw[hx]at hR;simp only[go_sem,bQb,k12,aQ h' (show Few n.pats.length by unfold Few;omega)]
    refine⟨_,_,_,rfl,?_⟩
    simp only[go_sem,k0,k10,k11];exact⟨⟨bv5,t5⟩,K5,hR⟩
   |some l=>
    rw[hx]at hR
    simp only at hR
    rw[hR0]at hR;obtain⟨ko5,⟨_,hv5⟩,hk5⟩:=F5.acc l hx;rw[bPb]at hv5;have ht5:=t5.t;simp only[go_sem,kK,bP2];have hwk:IntKind.i64.wrap ((k:Int)+1)=((k+1:Nat):Int):=by rw[aY (by omega)];omega
    unfold lJ at hR
    by_cases hc:30<(f.env++l).length
    ·rw[if_pos hc]at hR;cases hR
    ·rw[if_neg hc]at hR;simp only[bOr]at hc;unfold qZ at hR;have hW:=aD8 f.env l (by omega)
     by_cases hc2:40<(left++[(⟨n.kids.getD (1+k) 0,f.env++l,[]⟩:aA)]).length
     ·rw[if_pos hc2]at hR;cases hR
     ·rw[if_neg hc2,OpR.go.injEq]at hR;obtain⟨rfl,rfl,rfl,rfl⟩:=hR;simp only[bOr,bOh,bOo]at hc2;have hG:=wP t5 (i:=k+1) (env:=f.env++l) (by omega) (.inl rfl) (by omega)
      rcases hv5 with⟨_,z2,z3⟩|⟨t,g,b,z1,z2,z3,z4⟩
      ·subst z2;rw[bPa]at hW hG;simp only[bOq]at hW
       refine kL ?_
       simp only[go_sem,k0,ht5,z3,hW.ret,hwk,kF]
       refine hG.mono ?_
       rintro v e7 c7 ⟨rfl,t7,k7⟩
       try simp only[go_sem,kK]
       exact⟨rfl,by rw[Nat.add_comm 1 k];exact t7,K5.trans k7⟩
      ·have hr5:=t5.r;have bt:(⟨0,t,g⟩:Key)≠kt:=by rintro rfl;rw[ht5]at z3;cases z3
       have br:(⟨0,t,g⟩:Key)≠kr:=by rintro rfl;rw[hr5]at z3;cases z3
       have t6:TS kt kr (e5.set ⟨0,t,g⟩ (some (.blk 2 (l.map aE.enc) true))) c5 p w a left f n [] bv5:=t5.to (aK bt.symm) (aK br.symm) (aN _);have K6:dI kt kr en cnt (e5.set ⟨0,t,g⟩ (some (.blk 2 (l.map aE.enc) true))) c5:=⟨fun x hxo y1 y2=>by
        have hne:x≠⟨0,t,g⟩:=by
         rintro rfl
         rcases hk5 with hk5|hk5
         ·rw[z1]at hk5;cases hk5
         ·exact hk5 _ z1 (hxo.up fun t=>bOk (K2.up t) (u3 t))
        rw[aK hne];exact K5.old x hxo y1 y2,K5.up⟩
       have hG:=wP t6 (i:=k+1) (env:=f.env++l) (by omega) (.inl rfl) (by omega)
       refine kL ?_
       simp only[go_sem,k0,ht5,z4,z3,hW.ret,hwk,bOc,bQf,bOt,bN9,bO1,kF]
       refine hG.mono ?_
       rintro v e7 c7 ⟨rfl,t7,k7⟩
       try simp only[go_sem,kK]
       exact⟨rfl,by rw[Nat.add_comm 1 k];exact t7,K6.trans k7⟩
  ·have:k=n.pats.length:=by simp at hq2;omega
   subst this;rw[bP1,fB]at hR;rw[hR0]at hR;cases hR
theorem uB (xs:List Val)(h1:cP 3 xs=true)(hl:xs.length<=16777216):PC L 226 [.fz xs] (rO 3 xs):=by
 cases xs with
 |nil=>
  have hL:=at_ Tryz.func226
  conv at hL=>rhs;reduce
  refine aIo hL rfl rfl (.inl rfl) (oZ ?_) (oZ ?_)
  ·simp only[go_sem,kK,vJ];rfl
  ·simp only[go_sem,kK,vJ]
   refine qY (b:=false) (by simp only[go_sem]) (by simp only[go_sem]) ?_
   simp only[go_sem];rfl
 |cons x xs=>
  have hL:=at_ Tryz.func226
  conv at hL=>rhs;reduce
  refine aH hL rfl rfl ?_
  simp only[go_sem,kK,aDy]
  refine pJ (by simp only[go_sem]) (by simp only[go_sem]) h1 hl ?_
  simp only[go_sem];rfl
theorem aCn (h:TS kt kr en cnt p w a left f n back bv){o:aR}{V:Val}{t:Nat}{b:Bool}(hb:en ⟨0,t,g⟩=some (.blk 3 (o.frames.map aA.enc) b))(hg:g<cnt 0 t)(hV:gV V (o.vals.map aE.enc))(hc:w.objs.length<120):
  WIn L (.fn 327 [] []) [.ptr kt 0,.agg [.i o.form,.i o.n,V,.bl ⟨0,t,g⟩ 0 o.frames.length]] en cnt fun r en' cnt'=>r= .agg [.i (dE w.objs.length).kind,.i (dE w.objs.length).n]/\ (∃bv',TS kt kr en' cnt' p (dW w o) a left f n back bv')/\
   (∀k,Old k cnt->k≠kt->k≠kr->k≠⟨0,t,g⟩->en' k=en k)/\ ∀t,cnt 0 t<=cnt' 0 t:=by
 have s1:=h.okt.set;have s2:=h.okr.set;have n1:=h.okt.new;have n2:=h.okr.new;have hn:=h.ne;have ht:=h.t;have hr:=h.r;have m1:=h.okt.eqF;have m2:=h.okr.eqF;have o1:=h.okt.eqF';have o2:=h.okr.eqF';have x1: ∀(en:En) (e:Option Ent),En.set en kt e kr=en kr:=fun _ _=>aK hn;have x2: ∀(en:En) (e:Option Ent),En.set en kr e kt=en kt:=fun _ _=>aK hn.symm
 have d:decide ((w.objs.length:Int)<120)=true:=decide_eq_true (by omega)
 have hl:w.objs.length+1<=16777216:=by omega
 have hw:IntKind.i64.wrap (((w.objs.length+1:Nat):Int)-1)=(w.objs.length:Int):=by rw[aY (by omega)];omega
 have hA:w.objs.map aR.enc++[.agg [.i o.form,.i o.n,.fz (o.vals.map aE.enc),.fz (o.frames.map aA.enc)]]=(dW w o).objs.map aR.enc:=by simp[dW,aR.enc]
 have hAl:w.objs.length+1=((dW w o).objs.map aR.enc).length:=by simp[dW]
 have hT:List.take o.frames.length (o.frames.map aA.enc)=o.frames.map aA.enc:=by rw[bOt (by simp)]
 have hob:Old ⟨0,t,g⟩ cnt:=⟨rfl,hg⟩;have b1:=hob.set;have b0:=hob.new;have bF:=hob.eqF;have bF':=hob.eqF';have q1:(⟨0,t,g⟩:Key)≠kr:=by rintro rfl;rw[hr]at hb;cases hb
 have q2:(⟨0,t,g⟩:Key)≠kt:=by rintro rfl;rw[ht]at hb;cases hb
 have b2: ∀(en:En) (e:Option Ent),En.set en kr e ⟨0,t,g⟩=en ⟨0,t,g⟩:=fun _ _=>aK q1
 have b4: ∀(en:En) (e:Option Ent),En.set en ⟨0,t,g⟩ e kr=en kr:=fun _ _=>aK q1.symm
 have b5: ∀(en:En) (e:Option Ent),En.set en ⟨0,t,g⟩ e kt=en kt:=fun _ _=>aK q2.symm
 have hL:=at_ Tryz.func327
 conv at hL=>rhs;reduce
 refine qI hL rfl rfl ?_
 simp only[go_sem,kK]
 refine cU ?_
 simp only[go_sem,ht,hr,s1,s2,bOc,d,(gD _).ret]
 refine aJ ?_
 rcases hV with rfl|rfl<;>
 (simp only[go_sem,ht,hr,s1,s2,n2,m1,x2,kB,b0,b1,b4,b5,hb,bOc,(aGl _).ret,bS,dU,tT,xU,aUb,hl,rA,hw,hA,bN9,W.apply,Ent.freeze,hT,kA,kF]
  have hu: ∀t,cnt 0 t<=aC (aC (aC cnt 0 3 (cnt 0 3+1)) 0 4 (cnt 0 4+1)) 0 31 (cnt 0 31+1) 0 t:=(by(repeat refine upS ?_ (by omega));exact aN _)
  rw[aS8 (K1:=[⟨0,31,cnt 0 31⟩]) (K2:=[]) (K3:=[]) (K4:=[]) (os:=(dW w o).objs.map aR.enc) (by simp only[s1,b5,x2];exact ht) (by simp only[s2,cB];rfl) (sA (by simp only[go_sem,n2];rfl) hAl) rfl rfl rfl (by simp[o2])]
  refine⟨rfl,⟨bv,h.okt.up hu,h.okr.up hu,hn,h.ob,?_,cB⟩,fun k hk k1 k2 k3=>?_,hu⟩
  ·rw[x2,uR h.okt (aA9 31)];simp only[s1,b5,x2];exact ht
  ·rw[aK k2,uR hk (aA9 31),hk.set,aK k2,hk.set,aK k3,hk.set,hk.set])
theorem vM (hk:k<=xs.length):jK false size en (.fz xs) none (some (.i (k:Int))) none=some {v:= .fz (xs.take k)}:=by
 simp[jK,sI hk,tG]
theorem aOd (h1:cP size xs=true)(hk:k<=xs.length):jK false size en (.fz xs) (some (.i (k:Int))) none none=some {v:= .fz (xs.drop k)}:=by
 simp[jK,sI hk,tG,h1]
theorem aKd : ∀{j k:Nat},fN p left j=k+1->k<j/\ (p.node (left.getD k default).node).op=26
 |0,k,h=>by cases h
 |j+1,k,h=>by
  rw[oF]at h
  split at h
  ·rename_i h2
   obtain rfl:j=k:=by omega
   exact⟨by omega,h2⟩
  ·have:=aKd h;exact⟨by omega,this.2⟩
noncomputable def aK4 :{c//L 288=some c}:=by
 have hL:=at_ Tryz.func288
 conv at hL=>rhs;reduce
 exact⟨_,hL⟩
theorem bBw (P0:Pre p w0 S w a left f n)(h:TS kt kr en cnt p w a left f n [] bv)(hop:n.op=27):pS 288 kt kr en cnt p w a left f n (opR p w a left f n):=by
 have e:opR p w a left f n=(match fN p left left.length with
  |0=> .fail 3
  |k+1=>jC w ⟨5,0,[],left.drop k⟩ fun w' v=>lJ w' (left.take (k+1)) (nN n 0) (f.env++[v])):=by unfold opR;rw[hop];rfl
 rw[e];have hk:=P0.kids;simp[eQ,hop]at hk;have h30:=P0.env30;have h40:=P0.left40;have h120:=P0.objs;have H:=h.pre;have ht:=h.t;have hr:=h.r;have hwl:IntKind.i64.wrap ((left.length:Int)-1)=(left.length:Int)-1:=aY (by omega)
 cases hR:fN p left left.length with
 |zero=>
  simp only
  refine bW aK4.2 rfl rfl ?_
  simp only[go_sem,kK,aK4,ht,bOc,hwl]
  refine Go.Abs.wp_loop (fun(k:Nat) st=> ∃fr,st=⟨fr,en,cnt⟩/\ fr 0= .ptr kt 0/\ fr 3= .i ((k:Int)-1)/\ k<=left.length/\ fN p left k=fN p left left.length) (fun k=>k) left.length ⟨_,rfl,by simp only[go_sem],by simp only[go_sem],bN9 _,rfl⟩ ?_
  rintro k st ⟨fr,rfl,k0,k3,hkl,hRk⟩
  rw[hR]at hRk;cases k with
  |zero=>
   have k3':fr 3= .i (-1):=by simpa using k3
   simp only[go_sem,kK,k3']
   refine eX 2 rfl ?_
   simp only[go_sem,bOp,bOm,k3',(jO _).ret];exact h.fell0 (fun _ _=>rfl) (aN _)
  |succ k=>
   have k3':fr 3= .i (k:Int):=by rw[k3];congr 1;omega
   have h':k<left.length:=by omega
   have d0:decide ((0:Int)<=(k:Int))=true:=decide_eq_true (by omega)
   have hfk:=P0.hl.ok _ (bOg h');have hgd:left.getD k default=left[k]:=by simp[bOd,h']
   have hwk:IntKind.i64.wrap ((k:Int)-1)=(k:Int)-1:=aY (by omega)
   rw[oF,hgd]at hRk
   split at hRk
   ·cases hRk
   rename_i h26;have d26:decide ((p.node left[k].node).op=26)=false:=decide_eq_false h26;simp only[go_sem,kK,k0,k3',ht,hr,h',d0,bI (fC hfk),d26,hwk];exact⟨k,⟨_,rfl,by simp only[go_sem,k0],by simp only[go_sem],by omega,by rw[hR];exact hRk⟩,by omega⟩
 |succ k=>
  simp only
  obtain⟨hk1,hk2⟩:=aKd hR;have hne:(left.drop k).map aA.enc≠[]:=by
   intro he;have h0:=congrArg List.length he
   simp at h0
   omega
  have hC:=uB ((left.drop k).map aA.enc) (iQ _) (by simp;omega)
  rw[oK hne,bQ1]at hC;have hsl:=fun en=>aOd (size:=3) (xs:=left.map aA.enc) (en:=en) (k:=k) (iQ _) (by rw[bOc];omega)
  have hsh:=fun en=>vM (size:=3) (xs:=left.map aA.enc) (en:=en) (k:=k+1) (by rw[bOc];omega)
  have hl5:(List.drop k (left.map aA.enc)).length=(left.drop k).length:=by simp
  have hwk1:IntKind.i64.wrap ((k:Int)+1)=((k+1:Nat):Int):=by rw[aY (by omega)];omega
  obtain⟨⟨bv1,h1⟩,kk1⟩:=h.stay (cnt':=aC cnt 0 47 (cnt 0 47+1)) (en':=en.set ⟨0,47,cnt 0 47⟩ (some (.blk 3 (List.drop k (left.map aA.enc)) false))) (fun k hk=>by simp only[hk.set]) (by(repeat refine upS ?_ (by omega));exact aN _)
  unfold jC
  by_cases h20:120<=w.objs.length
  ·rw[if_pos h20]
   refine bW aK4.2 rfl rfl ?_
   simp only[go_sem,kK,aK4,ht,bOc,hwl]
   refine Go.Abs.wp_loop (fun(k:Nat) st=> ∃fr,st=⟨fr,en,cnt⟩/\ fr 0= .ptr kt 0/\ fr 3= .i ((k:Int)-1)/\ k<=left.length/\ fN p left k=fN p left left.length) (fun k=>k) left.length ⟨_,rfl,by simp only[go_sem],by simp only[go_sem],bN9 _,rfl⟩ ?_
   rintro j st ⟨fr,rfl,k0,k3,hjl,hRj⟩
   cases j with
   |zero=>rw[hR]at hRj;cases hRj
   |succ j=>
    have k3':fr 3= .i (j:Int):=by rw[k3];congr 1;omega
    have h':j<left.length:=by omega
    have d0:decide ((0:Int)<=(j:Int))=true:=decide_eq_true (by omega)
    have hfk:=P0.hl.ok _ (bOg h');have hgd:left.getD j default=left[j]:=by simp[bOd,h']
    have hwk:IntKind.i64.wrap ((j:Int)-1)=(j:Int)-1:=aY (by omega)
    rw[oF,hgd]at hRj
    by_cases h26:(p.node left[j].node).op=26
    ·rw[if_pos h26,hR]at hRj
     obtain rfl:j=k:=by omega
     have d26:decide ((p.node left[j].node).op=26)=true:=decide_eq_true h26;simp only[go_sem,kK,k0,k3',ht,hr,h',d0,bI (fC hfk),d26]
     refine cU ?_
     simp only[go_sem,k3',d0,(gD _).ret]
     refine eX 9 rfl ?_
     simp only[go_sem,bOp,bOm,kB,k0,k3',ht,hsl,hC.ret,hl5,bOz];exact(oC h1 (o:=⟨5,0,[],left.drop j⟩) (by omega) (by omega)).mono fun _ _ _=>oB.then kk1
    ·rw[if_neg h26]at hRj;have d26:decide ((p.node left[j].node).op=26)=false:=decide_eq_false h26;simp only[go_sem,kK,k0,k3',ht,hr,h',d0,bI (fC hfk),d26,hwk];exact⟨j,⟨_,rfl,by simp only[go_sem,k0],by simp only[go_sem],by omega,hRj⟩,by omega⟩
  ·rw[if_neg h20];unfold lJ;show pS _ _ _ _ _ _ _ _ _ _ _ (if 30<(f.env++[dE w.objs.length]).length then OpR.fail 4 else qZ (dW w ⟨5,0,[],left.drop k⟩) (left.take (k+1)) [⟨nN n 0,f.env++[dE w.objs.length],[]⟩])
   by_cases hc:30<(f.env++[dE w.objs.length]).length
   ·rw[if_pos hc];simp only[bOr,bOh,bOo]at hc;have hW:PX L 330 [.fz (f.env.map aE.enc),.fz [.agg [.i (dE w.objs.length).kind,.i (dE w.objs.length).n]]] (aD3 4):=aHh f.env [dE w.objs.length] (by simpa using hc) (by simp only[bOh,bOo];omega)
    refine bW aK4.2 rfl rfl ?_
    simp only[go_sem,kK,aK4,ht,bOc,hwl]
    refine Go.Abs.wp_loop (fun(k:Nat) st=> ∃fr,st=⟨fr,en,cnt⟩/\ fr 0= .ptr kt 0/\ fr 3= .i ((k:Int)-1)/\ k<=left.length/\ fN p left k=fN p left left.length) (fun k=>k) left.length ⟨_,rfl,by simp only[go_sem],by simp only[go_sem],bN9 _,rfl⟩ ?_
    rintro j st ⟨fr,rfl,k0,k3,hjl,hRj⟩
    cases j with
    |zero=>rw[hR]at hRj;cases hRj
    |succ j=>
     have k3':fr 3= .i (j:Int):=by rw[k3];congr 1;omega
     have h':j<left.length:=by omega
     have d0:decide ((0:Int)<=(j:Int))=true:=decide_eq_true (by omega)
     have hfk:=P0.hl.ok _ (bOg h');have hgd:left.getD j default=left[j]:=by simp[bOd,h']
     have hwk:IntKind.i64.wrap ((j:Int)-1)=(j:Int)-1:=aY (by omega)
     rw[oF,hgd]at hRj
     by_cases h26:(p.node left[j].node).op=26
     ·rw[if_pos h26,hR]at hRj
      obtain rfl:j=k:=by omega
      have d26:decide ((p.node left[j].node).op=26)=true:=decide_eq_true h26;simp only[go_sem,kK,k0,k3',ht,hr,h',d0,bI (fC hfk),d26]
      refine cU ?_
      simp only[go_sem,k3',d0,(gD _).ret]
      refine cU ?_
      simp only[go_sem,kB,k0,k3',ht,hsl,hC.ret,hl5,bOz]
      refine(aCn h1 (o:=⟨5,0,[],left.drop j⟩) (t:=47) (g:=cnt 0 47) (b:=false) (by rw[cB,bQ1]) (by simp[aC]) (.inr rfl) (by omega)).mono ?_
      rintro v e2 c2 ⟨rfl,⟨bv2,t2⟩,old2,up2⟩
      have ht2:=t2.t;have hr2:=t2.r;have y1:=t2.okt.set;have y2:=t2.okr.set;have y3:=t2.okt.eqF;have y4:=t2.okt.eqF';have y7:=t2.okt.new;simp only[go_sem,k0];simp only[go_sem,k3',ht2,y1,hwk1,hsh];have t3:TS kt kr (((e2.set ⟨0,4,c2 0 4⟩ (some (.box [.i 0,.i 0] false))).set ⟨0,4,c2 0 4⟩ (some (.box [.i (dE w.objs.length).kind,.i (dE w.objs.length).n] false))).set kt (some (.box [.ptr kr 0,.i a,.fz ((left.map aA.enc).take (j+1)),.i f.node,.fz (f.env.map aE.enc),.fz (f.vals.map aE.enc),.i n.op,.i n.n,.is n.kids,.fz (n.pats.map Pat.enc),bv2] false))) (aC c2 0 4 (c2 0 4+1)) p (dW w ⟨5,0,[],left.drop j⟩) a (left.take (j+1)) f n [] bv2:=
       ⟨t2.okt.up (by(repeat refine upS ?_ (by omega));exact aN _),t2.okr.up (by(repeat refine upS ?_ (by omega));exact aN _),t2.ne,t2.ob,by rw[cB,bP0],by rw[aK t2.ne,y2,y2];exact hr2⟩
      have hu3: ∀t,cnt 0 t<=c2 0 t:=fun t=>bOk (((by(repeat refine upS ?_ (by omega));exact aN _): ∀t,cnt 0 t<=aC cnt 0 47 (cnt 0 47+1) 0 t) t) (up2 t)
      have k3:dI kt kr en cnt (((e2.set ⟨0,4,c2 0 4⟩ (some (.box [.i 0,.i 0] false))).set ⟨0,4,c2 0 4⟩ (some (.box [.i (dE w.objs.length).kind,.i (dE w.objs.length).n] false))).set kt (some (.box [.ptr kr 0,.i a,.fz ((left.map aA.enc).take (j+1)),.i f.node,.fz (f.env.map aE.enc),.fz (f.vals.map aE.enc),.i n.op,.i n.n,.is n.kids,.fz (n.pats.map Pat.enc),bv2] false))) (aC c2 0 4 (c2 0 4+1)):=
       ⟨fun k hk q1 q2=>by rw[aK q1,(hk.up hu3).set,(hk.up hu3).set,old2 k (hk.up (by(repeat refine upS ?_ (by omega));exact aN _)) q1 q2 hk.ne,hk.set],fun t=>bOk (hu3 t) (((by(repeat refine upS ?_ (by omega));exact aN _): ∀t,c2 0 t<=aC c2 0 4 (c2 0 4+1) 0 t) t)⟩
      refine lY 8 rfl rfl ?_
      simp only[go_sem,bOp,bOm,bPk,bPj,rJ,k0,y7,hW.ret,kA,kF];exact⟨rfl,oB.then k3 (t3.fell0 (fun _ _=>rfl) (aN _))⟩
     ·rw[if_neg h26]at hRj;have d26:decide ((p.node left[j].node).op=26)=false:=decide_eq_false h26;simp only[go_sem,kK,k0,k3',ht,hr,h',d0,bI (fC hfk),d26,hwk];exact⟨j,⟨_,rfl,by simp only[go_sem,k0],by simp only[go_sem],by omega,hRj⟩,by omega⟩
   ·rw[if_neg hc];simp only[bOr,bOh,bOo]at hc;have hW:PC L 330 [.fz (f.env.map aE.enc),.fz [.agg [.i (dE w.objs.length).kind,.i (dE w.objs.length).n]]] (.fz ((f.env++[dE w.objs.length]).map aE.enc)):=aD8 f.env [dE w.objs.length] (by simp only[bOh,bOo];omega)
    unfold qZ
    by_cases hc2:40<(left.take (k+1)++[(⟨nN n 0,f.env++[dE w.objs.length],[]⟩:aA)]).length
    ·rw[if_pos hc2];simp only[bOr,bOh,bOo,bPl]at hc2
     refine bW aK4.2 rfl rfl ?_
     simp only[go_sem,kK,aK4,ht,bOc,hwl]
     refine Go.Abs.wp_loop (fun(k:Nat) st=> ∃fr,st=⟨fr,en,cnt⟩/\ fr 0= .ptr kt 0/\ fr 3= .i ((k:Int)-1)/\ k<=left.length/\ fN p left k=fN p left left.length) (fun k=>k) left.length ⟨_,rfl,by simp only[go_sem],by simp only[go_sem],bN9 _,rfl⟩ ?_
     rintro j st ⟨fr,rfl,k0,k3,hjl,hRj⟩
     cases j with
     |zero=>rw[hR]at hRj;cases hRj
     |succ j=>
      have k3':fr 3= .i (j:Int):=by rw[k3];congr 1;omega
      have h':j<left.length:=by omega
      have d0:decide ((0:Int)<=(j:Int))=true:=decide_eq_true (by omega)
      have hfk:=P0.hl.ok _ (bOg h');have hgd:left.getD j default=left[j]:=by simp[bOd,h']
      have hwk:IntKind.i64.wrap ((j:Int)-1)=(j:Int)-1:=aY (by omega)
      rw[oF,hgd]at hRj
      by_cases h26:(p.node left[j].node).op=26
      ·rw[if_pos h26,hR]at hRj
       obtain rfl:j=k:=by omega
       have d26:decide ((p.node left[j].node).op=26)=true:=decide_eq_true h26;simp only[go_sem,kK,k0,k3',ht,hr,h',d0,bI (fC hfk),d26]
       refine cU ?_
       simp only[go_sem,k3',d0,(gD _).ret]
       refine cU ?_
       simp only[go_sem,kB,k0,k3',ht,hsl,hC.ret,hl5,bOz]
       refine(aCn h1 (o:=⟨5,0,[],left.drop j⟩) (t:=47) (g:=cnt 0 47) (b:=false) (by rw[cB,bQ1]) (by simp[aC]) (.inr rfl) (by omega)).mono ?_
       rintro v e2 c2 ⟨rfl,⟨bv2,t2⟩,old2,up2⟩
       have ht2:=t2.t;have hr2:=t2.r;have y1:=t2.okt.set;have y2:=t2.okr.set;have y3:=t2.okt.eqF;have y4:=t2.okt.eqF';have y7:=t2.okt.new;simp only[go_sem,k0];simp only[go_sem,k3',ht2,y1,hwk1,hsh];have t3:TS kt kr (((e2.set ⟨0,4,c2 0 4⟩ (some (.box [.i 0,.i 0] false))).set ⟨0,4,c2 0 4⟩ (some (.box [.i (dE w.objs.length).kind,.i (dE w.objs.length).n] false))).set kt (some (.box [.ptr kr 0,.i a,.fz ((left.map aA.enc).take (j+1)),.i f.node,.fz (f.env.map aE.enc),.fz (f.vals.map aE.enc),.i n.op,.i n.n,.is n.kids,.fz (n.pats.map Pat.enc),bv2] false))) (aC c2 0 4 (c2 0 4+1)) p (dW w ⟨5,0,[],left.drop j⟩) a (left.take (j+1)) f n [] bv2:=
        ⟨t2.okt.up (by(repeat refine upS ?_ (by omega));exact aN _),t2.okr.up (by(repeat refine upS ?_ (by omega));exact aN _),t2.ne,t2.ob,by rw[cB,bP0],by rw[aK t2.ne,y2,y2];exact hr2⟩
       have hu3: ∀t,cnt 0 t<=c2 0 t:=fun t=>bOk (((by(repeat refine upS ?_ (by omega));exact aN _): ∀t,cnt 0 t<=aC cnt 0 47 (cnt 0 47+1) 0 t) t) (up2 t)
       have k3:dI kt kr en cnt (((e2.set ⟨0,4,c2 0 4⟩ (some (.box [.i 0,.i 0] false))).set ⟨0,4,c2 0 4⟩ (some (.box [.i (dE w.objs.length).kind,.i (dE w.objs.length).n] false))).set kt (some (.box [.ptr kr 0,.i a,.fz ((left.map aA.enc).take (j+1)),.i f.node,.fz (f.env.map aE.enc),.fz (f.vals.map aE.enc),.i n.op,.i n.n,.is n.kids,.fz (n.pats.map Pat.enc),bv2] false))) (aC c2 0 4 (c2 0 4+1)):=
        ⟨fun k hk q1 q2=>by rw[aK q1,(hk.up hu3).set,(hk.up hu3).set,old2 k (hk.up (by(repeat refine upS ?_ (by omega));exact aN _)) q1 q2 hk.ne,hk.set],fun t=>bOk (hu3 t) (((by(repeat refine upS ?_ (by omega));exact aN _): ∀t,c2 0 t<=aC c2 0 4 (c2 0 4+1) 0 t) t)⟩
       refine lY 9 rfl rfl ?_
       simp only[go_sem,bOp,bOm,bPk,bPj,rJ,k0,y7,hW.ret,kA,kF];exact⟨rfl,(wQ t3 (i:=0) (env:=f.env++[dE w.objs.length]) (by omega) (.inl rfl) (by rw[bPl];omega)).mono fun _ _ _=>oB.then k3⟩
      ·rw[if_neg h26]at hRj;have d26:decide ((p.node left[j].node).op=26)=false:=decide_eq_false h26;simp only[go_sem,kK,k0,k3',ht,hr,h',d0,bI (fC hfk),d26,hwk];exact⟨j,⟨_,rfl,by simp only[go_sem,k0],by simp only[go_sem],by omega,hRj⟩,by omega⟩
    ·rw[if_neg hc2];simp only[bOr,bOh,bOo,bPl]at hc2
     refine bO aK4.2 rfl rfl ?_
     simp only[go_sem,kK,aK4,ht,bOc,hwl]
     refine Go.Abs.wp_loop (fun(k:Nat) st=> ∃fr,st=⟨fr,en,cnt⟩/\ fr 0= .ptr kt 0/\ fr 3= .i ((k:Int)-1)/\ k<=left.length/\ fN p left k=fN p left left.length) (fun k=>k) left.length ⟨_,rfl,by simp only[go_sem],by simp only[go_sem],bN9 _,rfl⟩ ?_
     rintro j st ⟨fr,rfl,k0,k3,hjl,hRj⟩
     cases j with
     |zero=>rw[hR]at hRj;cases hRj
     |succ j=>
      have k3':fr 3= .i (j:Int):=by rw[k3];congr 1;omega
      have h':j<left.length:=by omega
      have d0:decide ((0:Int)<=(j:Int))=true:=decide_eq_true (by omega)
      have hfk:=P0.hl.ok _ (bOg h');have hgd:left.getD j default=left[j]:=by simp[bOd,h']
      have hwk:IntKind.i64.wrap ((j:Int)-1)=(j:Int)-1:=aY (by omega)
      rw[oF,hgd]at hRj
      by_cases h26:(p.node left[j].node).op=26
      ·rw[if_pos h26,hR]at hRj
       obtain rfl:j=k:=by omega
       have d26:decide ((p.node left[j].node).op=26)=true:=decide_eq_true h26;simp only[go_sem,kK,k0,k3',ht,hr,h',d0,bI (fC hfk),d26]
       refine cU ?_
       simp only[go_sem,k3',d0,(gD _).ret]
       refine cU ?_
       simp only[go_sem,kB,k0,k3',ht,hsl,hC.ret,hl5,bOz]
       refine(aCn h1 (o:=⟨5,0,[],left.drop j⟩) (t:=47) (g:=cnt 0 47) (b:=false) (by rw[cB,bQ1]) (by simp[aC]) (.inr rfl) (by omega)).mono ?_
       rintro v e2 c2 ⟨rfl,⟨bv2,t2⟩,old2,up2⟩
       have ht2:=t2.t;have hr2:=t2.r;have y1:=t2.okt.set;have y2:=t2.okr.set;have y3:=t2.okt.eqF;have y4:=t2.okt.eqF';have y7:=t2.okt.new;simp only[go_sem,k0];simp only[go_sem,k3',ht2,y1,hwk1,hsh];have t3:TS kt kr (((e2.set ⟨0,4,c2 0 4⟩ (some (.box [.i 0,.i 0] false))).set ⟨0,4,c2 0 4⟩ (some (.box [.i (dE w.objs.length).kind,.i (dE w.objs.length).n] false))).set kt (some (.box [.ptr kr 0,.i a,.fz ((left.map aA.enc).take (j+1)),.i f.node,.fz (f.env.map aE.enc),.fz (f.vals.map aE.enc),.i n.op,.i n.n,.is n.kids,.fz (n.pats.map Pat.enc),bv2] false))) (aC c2 0 4 (c2 0 4+1)) p (dW w ⟨5,0,[],left.drop j⟩) a (left.take (j+1)) f n [] bv2:=
        ⟨t2.okt.up (by(repeat refine upS ?_ (by omega));exact aN _),t2.okr.up (by(repeat refine upS ?_ (by omega));exact aN _),t2.ne,t2.ob,by rw[cB,bP0],by rw[aK t2.ne,y2,y2];exact hr2⟩
       have hu3: ∀t,cnt 0 t<=c2 0 t:=fun t=>bOk (((by(repeat refine upS ?_ (by omega));exact aN _): ∀t,cnt 0 t<=aC cnt 0 47 (cnt 0 47+1) 0 t) t) (up2 t)
       have k3:dI kt kr en cnt (((e2.set ⟨0,4,c2 0 4⟩ (some (.box [.i 0,.i 0] false))).set ⟨0,4,c2 0 4⟩ (some (.box [.i (dE w.objs.length).kind,.i (dE w.objs.length).n] false))).set kt (some (.box [.ptr kr 0,.i a,.fz ((left.map aA.enc).take (j+1)),.i f.node,.fz (f.env.map aE.enc),.fz (f.vals.map aE.enc),.i n.op,.i n.n,.is n.kids,.fz (n.pats.map Pat.enc),bv2] false))) (aC c2 0 4 (c2 0 4+1)):=
        ⟨fun k hk q1 q2=>by rw[aK q1,(hk.up hu3).set,(hk.up hu3).set,old2 k (hk.up (by(repeat refine upS ?_ (by omega));exact aN _)) q1 q2 hk.ne,hk.set],fun t=>bOk (hu3 t) (((by(repeat refine upS ?_ (by omega));exact aN _): ∀t,c2 0 t<=aC c2 0 4 (c2 0 4+1) 0 t) t)⟩
       refine kL ?_
       simp only[go_sem,k0,y7,hW.ret,kA,kF]
       refine(wP t3 (i:=0) (env:=f.env++[dE w.objs.length]) (by omega) (.inl rfl) (by rw[bPl];omega)).mono ?_
       rintro v e5 c5 ⟨rfl,t5,k5⟩
       exact⟨rfl,t5,k3.trans k5⟩
      ·rw[if_neg h26]at hRj;have d26:decide ((p.node left[j].node).op=26)=false:=decide_eq_false h26;simp only[go_sem,kK,k0,k3',ht,hr,h',d0,bI (fC hfk),d26,hwk];exact⟨j,⟨_,rfl,by simp only[go_sem,k0],by simp only[go_sem],by omega,hRj⟩,by omega⟩
theorem aKe (hb:eZ p w u v=some b):b.vals=[]:=by
 unfold eZ at hb
 split at hb
 ·simp only[bN7]at hb;subst hb;rfl
 ·split at hb
  ·simp only[bN7]at hb;subst hb;rfl
  ·cases hb
theorem jX {an:List (List Nat)}{A:Nat}{k:Key}{rs:List Res}(j:Nat){v:Val}{m:En×(Nat->Nat->Nat)}{u:Key->Bool}(hj:rs[j]?=some {v:=v,mem:=some m,unch:=u})(hu:u k=true)(h:nS an A k (rs.set j rJ)=true):nS an A k rs=true:=by
 unfold nS at h⊢;rw[bP9]at h
 refine bOe.2 fun i hi=>?_
 have:=bOe.1 h i hi
 by_cases hij:j=i
 ·subst hij;rw[hj];simp only[aMj,hu,bP3]
 ·rw[List.getElem?_set_ne hij]at this;exact this
noncomputable def aG5 :{c//L 269=some c}:=by
 have hL:=at_ Tryz.func269
 conv at hL=>rhs;reduce
 exact⟨_,hL⟩
theorem bFd (P0:Pre p w0 S w a left f n)(h:TS kt kr en cnt p w a left f n [] bv)(hop:n.op=6):pS 269 kt kr en cnt p w a left f n (opR p w a left f n):=by
 have e:opR p w a left f n=(match eZ p w (aF f.vals 0) (aF f.vals 1)with
  |some b=>lJ w left b.node b.env
  |none=>if cV w (aF f.vals 0) 5=true then(if 40<(left++(w.obj (aF f.vals 0).n).frames).length then .fail 4 else .go none w (left++(w.obj (aF f.vals 0).n).frames) [aF f.vals 1])else .fail 2):=by unfold opR;rw[hop];rfl
 rw[e];have hfull:=P0.full;simp[aL.asks,hop]at hfull;have hv0:0<f.vals.length:=by omega
 have hv1:1<f.vals.length:=by omega
 have hu:=P0.val hv0;have h40:=P0.left40;have H:=h.pre;have ht:=h.t;obtain⟨⟨bv1,h1⟩,k1⟩:=h.stay (cnt':=aC cnt 0 3 (cnt 0 3+1)) (en':=en.set ⟨0,3,cnt 0 3⟩ (some (.box [.i 0,.cl [],.cl []] false))) (fun k hk=>by simp only[hk.set]) (by(repeat refine upS ?_ (by omega));exact aN _)
 cases hb:eZ p w (aF f.vals 0) (aF f.vals 1)with
 |some b=>
  simp only
  have hbv:=aKe hb;unfold lJ
  by_cases hc:30<b.env.length
  ·rw[if_pos hc]
   refine bW aG5.2 rfl rfl ?_
   simp only[go_sem,kK,aG5]
   refine aPz rfl 15 rfl rfl ?_
   simp only[go_sem,bOp,bOm,bPk,bPj,rJ,bP5,bP4,ht,H,aS hv0,fP hv1,kA,kF];exact⟨rfl,(aKb h1 P0.hp P0.hF hu hb hc).mono fun _ _ _=>oB.then k1⟩
  ·rw[if_neg hc];have hC:=aKa h1 P0.hp P0.hF hu hb (by omega)
   unfold qZ
   by_cases hc2:40<(left++[(⟨b.node,b.env,[]⟩:aA)]).length
   ·rw[if_pos hc2];simp only[bOr,bOh,bOo]at hc2
    refine bW aG5.2 rfl rfl ?_
    simp only[go_sem,kK,aG5]
    refine nJ rfl ?_
    simp only[go_sem,bP5,bP4,ht,H,aS hv0,fP hv1,kA]
    refine hC.mono ?_
    rintro v e1 c1 ⟨⟨ev,hev,_,rfl⟩,⟨bv2,t2⟩,k2⟩
    obtain⟨p3,q3⟩:=k2.loc (d:=3) (g:=cnt 0 3) (by simp only[go_sem];omega) h.okt.ne.symm h.okr.ne.symm
    simp only[go_sem]at p3;simp only[go_sem,kK,p3,kA,kF]
    refine⟨rfl,jX 15 rfl (by simp only[p3,cB];rfl) rfl,?_⟩
    obtain⟨⟨bv3,t3⟩,k3⟩:=h.fin t2 (k1.trans k2) (cnt2:=c1) (en2:=e1.set ⟨0,3,cnt 0 3⟩ (some (.box [.i b.node,ev,.cl []] false))) (fun k hk _=>by simp only[hk.set]) (aN _)
    refine eX 3 rfl ?_
    rcases hev with rfl|rfl<;>
    (simp only[go_sem,bOp,bOm,bPk,bPj]
     exact(aJs t3 (l:=[⟨b.node,b.env,[]⟩]) (.inr rfl) (by simp only[bOh,bOo];omega) (by simp only[bOh,bOo];omega)).mono fun _ _ _=>oB.then k3)
   ·rw[if_neg hc2];simp only[bOr,bOh,bOo]at hc2
    refine bO aG5.2 rfl rfl ?_
    simp only[go_sem,kK,aG5]
    refine nJ rfl ?_
    simp only[go_sem,bP5,bP4,ht,H,aS hv0,fP hv1,kA]
    refine hC.mono ?_
    rintro v e1 c1 ⟨⟨ev,hev,_,rfl⟩,⟨bv2,t2⟩,k2⟩
    obtain⟨p3,q3⟩:=k2.loc (d:=3) (g:=cnt 0 3) (by simp only[go_sem];omega) h.okt.ne.symm h.okr.ne.symm
    simp only[go_sem]at p3;simp only[go_sem,kK,p3,kA,kF]
    refine⟨rfl,jX 15 rfl (by simp only[p3,cB];rfl) rfl,?_⟩
    obtain⟨⟨bv3,t3⟩,k3⟩:=h.fin t2 (k1.trans k2) (cnt2:=c1) (en2:=e1.set ⟨0,3,cnt 0 3⟩ (some (.box [.i b.node,ev,.cl []] false))) (fun k hk _=>by simp only[hk.set]) (aN _)
    refine cU ?_
    rcases hev with rfl|rfl<;>
    (simp only[go_sem]
     refine(aD7 t3 (l:=[⟨b.node,b.env,[]⟩]) (.inr rfl) (by simp only[bOh,bOo];omega)).mono ?_
     rintro v e4 c4 ⟨_,t4,k4⟩
     exact⟨rfl,t4,k3.trans k4⟩)
 |none=>
  simp only
  have hC:=aGq h1 hu hb
  by_cases hI:cV w (aF f.vals 0) 5=true
  ·rw[if_pos hI];have hW:=fun e1 c1 bv2 (t2:TS kt kr e1 c1 p w a left f n [] bv2)=>tU t2 (fH hu) 5 hI
   obtain⟨a1,a2,a3,a4⟩:=eN P0.hF hu hI;have hfl:=(aEe P0.hsp (aBb a2.ok).2).1;generalize w.obj (aF f.vals 0).n=o at a2 a3 hW hfl⊢
   by_cases hc2:40<(left++o.frames).length
   ·rw[if_pos hc2];simp only[bOr]at hc2
    refine bW aG5.2 rfl rfl ?_
    simp only[go_sem,kK,aG5]
    refine nJ rfl ?_
    simp only[go_sem,bP5,bP4,ht,H,aS hv0,fP hv1,kA]
    refine hC.mono ?_
    rintro v e1 c1 ⟨⟨xx,rfl,rfl⟩,⟨bv2,t2⟩,k2⟩
    obtain⟨p3,q3⟩:=k2.loc (d:=3) (g:=cnt 0 3) (by simp only[go_sem];omega) h.okt.ne.symm h.okr.ne.symm
    simp only[go_sem]at p3;simp only[go_sem,kK,p3,kA,kF]
    refine⟨rfl,jX 15 rfl (by simp only[p3,cB];rfl) rfl,?_⟩
    obtain⟨⟨bv3,t3⟩,k3⟩:=h.fin t2 (k1.trans k2) (cnt2:=c1) (en2:=e1.set ⟨0,3,cnt 0 3⟩ (some (.box [.i 0,.cl [],.cl []] false))) (fun k hk _=>by simp only[hk.set]) (aN _)
    have ht2:=t2.t
    refine cU ?_
    simp only[go_sem,H,ht2,aS hv0]
    refine(hW _ _ _ t3).mono ?_
    rintro v e4 c4 ⟨rfl,⟨bv4,t4⟩,k4⟩
    simp only[go_sem]
    refine eX 3 rfl ?_
    simp only[go_sem,bOp,bOm];obtain⟨⟨bv5,t5⟩,k5⟩:=t3.fin t4 k4 (cnt2:=aC c4 0 5 (c4 0 5+1)) (en2:=(e4.set ⟨0,5,c4 0 5⟩ (some (.box [.i 0,.i 0,.cl [],.cl []] false))).set ⟨0,5,c4 0 5⟩ (some (.box [.i o.form,.i o.n,.fz (o.vals.map aE.enc),.fz (o.frames.map aA.enc)] false))) (fun k hk hj=>by simp only[hj.set]) (by(repeat refine upS ?_ (by omega));exact aN _)
    exact(aJs t5 (l:=o.frames) (.inl rfl) (by omega) (by omega)).mono fun _ _ _=>oB.then (k3.trans k5)
   ·rw[if_neg hc2];simp only[bOr]at hc2
    refine bO aG5.2 rfl rfl ?_
    simp only[go_sem,kK,aG5]
    refine nJ rfl ?_
    simp only[go_sem,bP5,bP4,ht,H,aS hv0,fP hv1,kA]
    refine hC.mono ?_
    rintro v e1 c1 ⟨⟨xx,rfl,rfl⟩,⟨bv2,t2⟩,k2⟩
    obtain⟨p3,q3⟩:=k2.loc (d:=3) (g:=cnt 0 3) (by simp only[go_sem];omega) h.okt.ne.symm h.okr.ne.symm
    simp only[go_sem]at p3;simp only[go_sem,kK,p3,kA,kF]
    refine⟨rfl,jX 15 rfl (by simp only[p3,cB];rfl) rfl,?_⟩
    obtain⟨⟨bv3,t3⟩,k3⟩:=h.fin t2 (k1.trans k2) (cnt2:=c1) (en2:=e1.set ⟨0,3,cnt 0 3⟩ (some (.box [.i 0,.cl [],.cl []] false))) (fun k hk _=>by simp only[hk.set]) (aN _)
    have ht2:=t2.t
    refine cU ?_
    simp only[go_sem,H,ht2,aS hv0]
    refine(hW _ _ _ t3).mono ?_
    rintro v e4 c4 ⟨rfl,⟨bv4,t4⟩,k4⟩
    simp only[go_sem];obtain⟨⟨bv5,t5⟩,k5⟩:=t3.fin t4 k4 (cnt2:=aC c4 0 5 (c4 0 5+1)) (en2:=(e4.set ⟨0,5,c4 0 5⟩ (some (.box [.i 0,.i 0,.cl [],.cl []] false))).set ⟨0,5,c4 0 5⟩ (some (.box [.i o.form,.i o.n,.fz (o.vals.map aE.enc),.fz (o.frames.map aA.enc)] false))) (fun k hk hj=>by simp only[hj.set]) (by(repeat refine upS ?_ (by omega));exact aN _)
    refine cU ?_
    simp only[go_sem]
    refine(aD7 t5 (l:=o.frames) (.inl rfl) (by omega)).mono ?_
    rintro v e6 c6 ⟨_,⟨bv6,t6⟩,k6⟩
    have ht6:=t6.t;simp only[go_sem,ht6,fP hv1]
    refine(iD t6 (aF f.vals 1)).mono ?_
    rintro r e7 c7 ⟨rfl,t7,k7⟩
    exact⟨rfl,t7,((k3.trans k5).trans k6).trans k7⟩
  ·rw[if_neg hI];rw[bPf]at hI
   refine bW aG5.2 rfl rfl ?_
   simp only[go_sem,kK,aG5]
   refine nJ rfl ?_
   simp only[go_sem,bP5,bP4,ht,H,aS hv0,fP hv1,kA]
   refine hC.mono ?_
   rintro v e1 c1 ⟨⟨xx,rfl,rfl⟩,⟨bv2,t2⟩,k2⟩
   obtain⟨p3,q3⟩:=k2.loc (d:=3) (g:=cnt 0 3) (by simp only[go_sem];omega) h.okt.ne.symm h.okr.ne.symm
   simp only[go_sem]at p3;simp only[go_sem,kK,p3,kA,kF]
   refine⟨rfl,jX 15 rfl (by simp only[p3,cB];rfl) rfl,?_⟩
   obtain⟨⟨bv3,t3⟩,k3⟩:=h.fin t2 (k1.trans k2) (cnt2:=c1) (en2:=e1.set ⟨0,3,cnt 0 3⟩ (some (.box [.i 0,.cl [],.cl []] false))) (fun k hk _=>by simp only[hk.set]) (aN _)
   have ht2:=t2.t
   refine eX 8 rfl ?_
   simp only[go_sem,bOp,bOm,H,ht2,aS hv0];exact(tV t3 (fH hu) 5 hI).mono fun _ _ _=>oB.then k3
end
theorem rD (ha:inR a 0 ((w.tasks.length:Int)-1)=true):oP 1 en (.fz (w.tasks.map (.int .i64))) (.i a)=some {v:= .fp [.i (bQ w a)] 0}:=vD ha
noncomputable def c76 :{c//L 76=some c}:=by
 have hL:=at_ Tryz.func76
 conv at hL=>rhs;reduce
 exact⟨_,hL⟩
set_option maxHeartbeats 1600000 in
theorem aHj (hp:dV p)(hsp:aV p=true)(h:cF p w0 S w)(ha:inR a 0 ((w.tasks.length:Int)-1)=true):
  PC L 76 [.agg p.cs,.agg w.cs,.i a] (.agg [.fz ((cK p w a).w.objs.map aR.enc),.fz ((cK p w a).w.tasks.map (.int .i64)),.fz ((cK p w a).w.outs.map bJ.enc),.fz ((cK p w a).w.ins.map (.int .i64)),.i (cK p w a).w.used,.i (cK p w a).what,.i (cK p w a).e.task,.i (cK p w a).e.act,.i (cK p w a).e.n,.i (cK p w a).e.v.kind,.i (cK p w a).e.v.n]):=by
 have hfit:=tY h ha;obtain⟨t1,t2,t3⟩:=h.task ha;have hO:=h.obj t1 t3;have hset:=fun o=>aUd w a o hfit
 have honto:=fun left node env hl=>aBa w a left node env hfit hl
 unfold cK
 simp only
 have hio:=fun en=>xL (w:=w) (k:= .i64) (en:=en) t1
 generalize ho:w.obj (bQ w a)=o at hO t2 hio⊢;have hk:=hO.ok;rw[dK,if_pos t2,jU]at hk
 by_cases n0:o.n=0
 ·have d0:decide (o.n=0)=true:=decide_eq_true n0;rw[if_neg (fun h=>h n0)]
  rw[if_pos n0]at hk;simp only[bV,bN8,bRt,bOe,bE]at hk;obtain⟨⟨⟨⟨k1,k2⟩,k3,k4⟩,k5⟩,k6⟩:=hk;have hF: ∀f∈o.frames,FOk p S w f:=fun f hf=>hO.frames hf
  have hwt:IntKind.i64.wrap ((o.frames.length:Int)-1)=(o.frames.length:Int)-1:=aY (by omega)
  by_cases hv1:o.vals.length=1
  ·have dv:decide (o.vals.length=1)=true:=decide_eq_true hv1;have dv':decide ((o.vals.length:Int)=1)=true:=decide_eq_true (by omega)
   rw[if_pos hv1]
   by_cases hf0:o.frames.length=0
   ·rw[if_pos hf0];have hS:=hset ⟨6,1,[aF o.vals 0],[]⟩;simp only[bO4,bOq,aJ6]at hS;have df:decide ((o.frames.length:Int)-1<0)=true:=decide_eq_true (by omega)
    refine aH c76.2 rfl rfl ?_
    simp only[go_sem,kK,c76]
    refine aJ ?_
    simp only[go_sem,kK,rD ha,hio,kA,bOa,if_false];simp only[go_sem,kK,d0,dv',hwt,aS (l:=o.vals) (by omega),df]
    refine aJ ?_
    simp only[go_sem,rD ha,pE,kO,hS.ret,(aL0 _).ret,kA,bOa,if_false]
   ·rw[if_neg hf0];obtain⟨m,hm⟩: ∃m,o.frames.length=m+1:=⟨o.frames.length-1,by omega⟩
    have hmn:m<o.frames.length:=by omega
    have df:decide ((m:Int)<0)=false:=decide_eq_false (by omega)
    have hwt:IntKind.i64.wrap ((o.frames.length:Int)-1)=(m:Int):=by rw[hwt];omega
    have hgd:o.frames.getD (o.frames.length-1) eK=o.frames[m]:=by
     rw[show o.frames.length-1=m by omega];simp[bOd,hmn]
    have hgz:(o.frames.map aA.enc)[m]?=some (aA.enc o.frames[m]):=by simp[hmn]
    have hlF:aBu o.frames (aF o.vals 0)=o.frames.set m ⟨o.frames[m].node,o.frames[m].env,o.frames[m].vals++[aF o.vals 0]⟩:=by
     unfold aBu;rw[hgd,show o.frames.length-1=m by omega]
    rw[hlF];have hS:=hset ⟨6,0,[],o.frames.set m ⟨o.frames[m].node,o.frames[m].env,o.frames[m].vals++[aF o.vals 0]⟩⟩;simp only[bQi,bOq,aA.enc]at hS;have hfm:=(hF _ (bOg hmn)).ok;have hal:=aN7 hsp (fC (hF _ (bOg hmn)));simp only[dA,bE,bN8,bRt]at hfm;have hM:=aD2 o.frames[m].vals (aF o.vals 0) (by omega)
    have hfe:o.frames.isEmpty=false:=aJl (by omega)
    have hf16:o.frames.length<=16777216:=by omega
    have hmi:((m:Int)<(o.frames.length:Int)):=by omega
    refine aH c76.2 rfl rfl ?_
    simp only[go_sem,kK,c76]
    refine aJ ?_
    simp only[go_sem,kK,rD ha,hio,kA,bOa,if_false];simp only[go_sem,kK,d0,dv',hwt,aS (l:=o.vals) (by omega),df,bS,dU,iN,gX,hfe,hf16,iQ,hgz,hmi,rD ha,hM.ret,eH,bQo,bPc,bOc,bP9,bN9,bOt,tQ,mK,hS.ret,gR,kR]
  ·have dv':decide ((o.vals.length:Int)=1)=false:=decide_eq_false (by omega)
   rw[if_neg hv1];have hz:o.vals.length=0:=by omega
   obtain⟨m,hm⟩: ∃m,o.frames.length=m+1:=⟨o.frames.length-1,by omega⟩
   have hmn:m<o.frames.length:=by omega
   have hwt:IntKind.i64.wrap ((o.frames.length:Int)-1)=(m:Int):=by rw[hwt];omega
   have hgd:o.frames.getD (o.frames.length-1) eK=o.frames[m]:=by
    rw[show o.frames.length-1=m by omega];simp[bOd,hmn]
   rw[hgd];have hfo:=hF _ (bOg hmn);have hni:=fC hfo;have hok:=hp.nodes _ (hZ hni);have hak:=aFg hok
   by_cases hop:(o.frames[m].vals.length:Int)<(p.node o.frames[m].node).asks
   ·have dop:decide ((o.frames[m].vals.length:Int)<(p.node o.frames[m].node).asks)=true:=decide_eq_true hop;rw[if_pos hop];have hN:=honto o.frames (nN (p.node o.frames[m].node) o.frames[m].vals.length) o.frames[m].env (by omega)
    refine aH c76.2 rfl rfl ?_
    simp only[go_sem,kK,c76]
    refine aJ ?_
    simp only[go_sem,kK,rD ha,hio,kA,bOa,if_false];simp only[go_sem,kK,d0,dv',hwt,hmn,bI hni,(uO _).ret,dop,aUj (show inR (o.frames[m].vals.length:Int) 0 (((p.node o.frames[m].node).kids.length:Int)-1)=true by simp only[inR,bRt];omega),hN.ret]
   ·have dop:decide ((o.frames[m].vals.length:Int)<(p.node o.frames[m].node).asks)=false:=decide_eq_false hop;rw[if_neg hop];have hfull:(o.frames[m].vals.length:Int)=(p.node o.frames[m].node).asks:=by
     have:=hfo.ok;simp only[dA,bE,bN8,bRt]at this;omega
    have hl:LOk p S w (o.frames.take (o.frames.length-1)):=⟨by simp only[bPl];omega,fun f hf=>hF f (bQr hf),fun f hf=>k6 f (by rw[hz,bPo];exact hf)⟩
    have hD:=bBq hp hsp h ha hl hfo hfull;rw[show o.frames.length-1=m by omega]at hD⊢
    have hml:m<=o.frames.length:=by omega
    refine aH c76.2 rfl rfl ?_
    simp only[go_sem,kK,c76]
    refine aJ ?_
    simp only[go_sem,kK,rD ha,hio,kA,bOa,if_false];simp only[go_sem,kK,d0,dv',hwt,hmn,bI hni,(uO _).ret,dop]
    refine aJ ?_
    cases h0:(o.frames.take m).isEmpty with
    |true=>
     have h0':o.frames.take m=[]:=by simpa using h0
     rw[h0']at hD⊢;simp only[bOq]at hD;simp only[go_sem,tH,hml,<-bP0,h0',bOq,bOc,bS,dU,mL,hD.ret,kA,bOa,if_false]
    |false=>
     have h16:(o.frames.take m).length<=16777216:=by simp only[bPl];omega
     generalize hgm:o.frames.take m=dl at*;simp only[go_sem,tH,hml,<-bP0,hgm,bOc,bS,dU,iN,gX,h0,h16,iQ,bN9,bOt,hD.ret,kA,bOa,if_false]
 ·have d0:decide (o.n=0)=false:=decide_eq_false n0;rw[if_pos n0]
  refine aH c76.2 rfl rfl ?_
  simp only[go_sem,kK,c76]
  refine aJ ?_
  simp only[go_sem,kK,rD ha,hio,kA,bOa,if_false];simp only[go_sem,kK,d0,lS,gR,kR]
theorem aWs (x:Int)(n:Nat)(hn:0<n)(hf:n<=1000000):PC L 77 [.i x,.i n] (.i (x%(n:Int))):=by
 have hL:=at_ Tryz.func77
 conv at hL=>rhs;reduce
 refine aH hL rfl rfl ?_
 have h0: ¬((n:Int)=0):=by omega
 have h1:=Int.emod_nonneg x (show(n:Int)≠0 by omega)
 have h2:=Int.emod_lt_of_pos x (show 0<(n:Int)by omega)
 have e:=Int.tmod_eq_emod (a:=x) (b:=n)
 by_cases hc:0<=x \/(n:Int)∣x
 ·rw[if_pos hc]at e;have d:decide (x.tmod n<0)=false:=decide_eq_false (by omega)
  simp only[go_sem,kK,h0,d];rw[e];simp
 ·rw[if_neg hc]at e;have d:decide (x.tmod n<0)=true:=decide_eq_true (by omega)
  have hw:IntKind.i64.wrap (x.tmod n+n)=x%n:=by rw[aY (by omega)];omega
  simp only[go_sem,kK,h0,d,hw]
def bDf (agg:Bool)(off m:Nat):Val->Option Res
 | .agg cs=>if off+m<=cs.length then(iB agg ((cs.drop off).take m)).map fun v=>{v}else none
 |_=>none
variable {off m:Nat}{agg:Bool}
section
variable {d:Nat}{get:Opd->Val}
theorem aKf {x:Opd}:cO d g en get (.fld agg off m x)=bDf agg off m (get x):=(rfl)
theorem aEk {cs:List Val}:bDf agg off m (.agg cs)=if off+m<=cs.length then(iB agg ((cs.drop off).take m)).map fun v=>{v}else none:=(rfl)
end
theorem aZt (hp:dV p)(hsp:aV p=true)(h:cF p w0 S w):PC L 75 [.agg p.cs,.agg w.cs] (.is (eG p w)):=by
 have hL:=at_ Tryz.func75
 conv at hL=>rhs;reduce
 refine aH hL rfl rfl ?_
 have hw:=wS (tX hsp h.ok);have ht:w.tasks.length<=130:=by
  obtain⟨a1,a2,a3,a4,a5,a6,a7⟩:=dL.1 h.ok;have:=aAg a5;omega
 simp only[go_sem,kK]
 refine bH w.tasks.length (fun k st=> ∃fr en cnt v,st=⟨fr,en,cnt⟩/\ fr 2= .ptr ⟨0,2,0⟩ 0/\ en ⟨0,2,0⟩=some (.box [.fz (p.nodes.map aL.enc),.fz (p.funs.map (.int .i64)),.i p.main,.fz (p.cons.map cD.enc)] false)/\ fr 3= .ptr ⟨0,3,0⟩ 0/\ en ⟨0,3,0⟩=some (.box [.fz (w.objs.map aR.enc),.fz (w.tasks.map (.int .i64)),.fz (w.outs.map bJ.enc),.fz (w.ins.map (.int .i64)),.i w.used] false)/\ fr 5=v/\ fr 6= .i k/\ iZ en v 1 ((gE p w k).map (.int .i64)) [23]) 0 (bOf _) ⟨_,_,_,.cl [],rfl,by simp only[go_sem],by simp only[go_sem],by simp only[go_sem],by simp only[go_sem],by simp only[go_sem],by simp only[go_sem],iZ.nil _ _⟩ ?_
 rintro k st hk ⟨fr,en,cnt,v,rfl,k2,e2,k3,e3,k5,k6,hv⟩
 simp only[go_sem,kK,k3,e3,k6]
 refine aD (fun hq=>?_) (fun hq=>?_)
 ·have h':k<w.tasks.length:=of_decide_eq_true hq;have ha:inR (k:Int) 0 ((w.tasks.length:Int)-1)=true:=by simp only[inR,bRt];omega
  have hS:=aHj hp hsp h ha;have hst:gE p w (k+1)=if(cK p w k).what=2 then gE p w k else gE p w k++[(k:Int)]:=by
   simp only[gE,List.range_succ,List.filter_append,bPn,List.filter_cons,List.filter_nil]
   by_cases hq:(cK p w (k:Int)).what=2<;>simp[hq]
  have hln:(gE p w k).length<=k:=by
   simp only[gE,bOc];exact bOk (List.length_filter_le _ _) (by simp)
  by_cases h2:(cK p w k).what=2
  ·have d2:decide ((cK p w k).what=2)=true:=decide_eq_true h2;rw[if_pos h2]at hst;simp only[go_sem,kK,k2,e2,k3,e3,k6,h',hS.ret,aKf,aEk,d2]
   refine⟨_,_,_,v,rfl,?_⟩
   simp only[go_sem,k2,e2,k3,e3,k5,aQ h' hw.tasks,hst];exact hv
  ·have d2:decide ((cK p w k).what=2)=false:=decide_eq_false h2;rw[if_neg h2]at hst;simp only[go_sem,kK,k2,e2,k3,e3,k5,k6,h',hS.ret,aKf,aEk,d2]
   refine zL (D:=[23]) (xs:=(gE p w k).map (.int .i64)) (ys:=[.i (k:Int)]) (rs:=[]) ?_ ?_ ?_ ?_ ?_
   ·simp only[go_sem];exact hv
   ·simp only[go_sem]
   ·rfl
   ·simp only[bOc,bOh,bOo];omega
   ·intro v' en' cnt' hown hen hcnt;have q2:en' ⟨0,2,0⟩=some (.box [.fz (p.nodes.map aL.enc),.fz (p.funs.map (.int .i64)),.i p.main,.fz (p.cons.map cD.enc)] false):=by rw[hen 0 2 0 (.inr ⟨by decide,by simp⟩)];simp only[go_sem,e2]
    have q3:en' ⟨0,3,0⟩=some (.box [.fz (w.objs.map aR.enc),.fz (w.tasks.map (.int .i64)),.fz (w.outs.map bJ.enc),.fz (w.ins.map (.int .i64)),.i w.used] false):=by rw[hen 0 3 0 (.inr ⟨by decide,by simp⟩)];simp only[go_sem,e3]
    simp only[go_sem,k6]
    refine⟨_,_,_,v',rfl,?_⟩
    simp only[go_sem,k2,q2,k3,q3,aQ h' hw.tasks,hst,bPn];exact hown.sub (by simp)
 ·have:k=w.tasks.length:=by simp at hq;omega
  subst this;obtain⟨r1,ks,s1,_,s2,s3,_⟩:=hv.snap 7;simp only[go_sem,k5,s1];exact s3
theorem wT (h:cF p w0 S w):w.tasks.length<=120:=by
 obtain⟨a1,a2,a3,a4,a5,a6,a7⟩:=dL.1 h.ok;have:=aAg a5;omega
theorem aFj (hp:dV p)(hsp:aV p=true)(h:cF p w0 S w)(s:Nat)(hs:s<=5001):
  PC L 58 [.agg p.cs,.agg w.cs,.i (s:Int)] (.tup [.agg (cJ p w s).1.cs,.i ((cJ p w s).2.1:Nat),.bool (cJ p w s).2.2]):=by
 have hL:=at_ Tryz.func58
 conv at hL=>rhs;reduce
 refine aH hL rfl rfl ?_
 simp only[go_sem,kK]
 refine bH 121 (fun k st=> ∃fr en cnt x t,st=⟨fr,en,cnt⟩/\ fr 2= .i ((t:Nat):Int)/\ fr 3= .ptr ⟨0,3,0⟩ 0/\ en ⟨0,3,0⟩=some (.box [.fz (p.nodes.map aL.enc),.fz (p.funs.map (.int .i64)),.i p.main,.fz (p.cons.map cD.enc)] false)/\ fr 4= .ptr ⟨0,4,0⟩ 0/\ en ⟨0,4,0⟩=some (.box [.fz (x.objs.map aR.enc),.fz (x.tasks.map (.int .i64)),.fz (x.outs.map bJ.enc),.fz (x.ins.map (.int .i64)),.i x.used] false)/\ fr 6= .ptr ⟨0,6,0⟩ 0/\ en ⟨0,6,0⟩=some (.box [.cl [],.cl [],.cl [],.cl [],.i 0] false)/\ fr 9= .i k/\
  cF p w0 S x/\ t<=5001/\ iE p (121-k) k x t=cJ p w s) 0 (bOf _) ⟨_,_,_,w,s,rfl,by simp only[go_sem],by simp only[go_sem],by simp only[go_sem],by simp only[go_sem],by simp only[go_sem],by simp only[go_sem],by simp only[go_sem],by simp only[go_sem],h,hs,rfl⟩ ?_
 rintro k st hk ⟨fr,en,cnt,x,t,rfl,k2,k3,e3,k4,e4,k6,e6,k9,hx,ht,hD⟩
 have hx120:=wT hx;simp only[go_sem,kK,k4,e4,k9]
 refine aD (fun hq=>?_) (fun hq=>?_)
 ·have h':k<x.tasks.length:=of_decide_eq_true hq;have ha:inR (k:Int) 0 ((x.tasks.length:Int)-1)=true:=by simp only[inR,bRt];omega
  have hS:=aHj hp hsp hx ha;obtain⟨g10,hg10⟩: ∃g,g=cnt 0 10:=⟨_,rfl⟩
  simp only[go_sem,k3,e3,k4,e4,k9,h',hS.ret,<-hg10];rw[show 121-k=(120-k)+1 by omega,iE,if_pos h']at hD
  refine Go.Abs.wp_loop (fun(j:Nat) st=> ∃fr en cnt y,st=⟨fr,en,cnt⟩/\ fr 2= .i ((t+j:Nat):Int)/\ fr 3= .ptr ⟨0,3,0⟩ 0/\ en ⟨0,3,0⟩=some (.box [.fz (p.nodes.map aL.enc),.fz (p.funs.map (.int .i64)),.i p.main,.fz (p.cons.map cD.enc)] false)/\ fr 4= .ptr ⟨0,4,0⟩ 0/\ en ⟨0,4,0⟩=some (.box [.fz (y.objs.map aR.enc),.fz (y.tasks.map (.int .i64)),.fz (y.outs.map bJ.enc),.fz (y.ins.map (.int .i64)),.i y.used] false)/\ fr 6= .ptr ⟨0,6,0⟩ 0/\ en ⟨0,6,0⟩=some (.box [.cl [],.cl [],.cl [],.cl [],.i 0] false)/\ fr 9= .i k/\ fr 10= .ptr ⟨0,10,g10⟩ 0/\ en ⟨0,10,g10⟩=some (.box [.fz ((cK p y k).w.objs.map aR.enc),.fz ((cK p y k).w.tasks.map (.int .i64)),.fz ((cK p y k).w.outs.map bJ.enc),.fz ((cK p y k).w.ins.map (.int .i64)),.i (cK p y k).w.used,.i (cK p y k).what,.i (cK p y k).e.task,.i (cK p y k).e.act,.i (cK p y k).e.n,.i (cK p y k).e.v.kind,.i (cK p y k).e.v.n] false)/\
   cF p w0 S y/\ t+j<=5001/\ k<y.tasks.length/\ eF p k (5000-t) x=((eF p k (5000-(t+j)) y).1,(eF p k (5000-(t+j)) y).2.1+j,(eF p k (5000-(t+j)) y).2.2)) (fun j=>5001-(t+j)) 0
   ⟨_,_,_,x,rfl,by simp only[go_sem,k2],by simp only[go_sem,k3],by simp only[go_sem,e3],by simp only[go_sem,k4],by simp only[go_sem,e4],by simp only[go_sem,k6],by simp only[go_sem,e6],by simp only[go_sem,k9],by simp only[go_sem],by simp only[go_sem],hx,ht,h',rfl⟩ ?_
  clear k2 k3 e3 k4 e4 k6 e6 k9
  rintro j st ⟨fr,en,cnt,y,rfl,k2,k3,e3,k4,e4,k6,e6,k9,k10,e10,hy,htj,hky,hI⟩
  have hay:inR (k:Int) 0 ((y.tasks.length:Int)-1)=true:=by simp only[inR,bRt];omega
  by_cases h0:(cK p y k).what=0
  ·have d0:decide ((cK p y k).what=0)=true:=decide_eq_true h0;have hw1:IntKind.i64.wrap (((t+j:Nat):Int)+1)=((t+j+1:Nat):Int):=by rw[aY (by omega)];omega
   by_cases h5:5000<t+j+1
   ·have d5:decide ((5000:Int)<((t+j+1:Nat):Int))=true:=decide_eq_true (by omega)
    have hI0:eF p k (5000-t) x=(y,1+j,false):=by rw[hI,show 5000-(t+j)=0 by omega,eF,if_pos h0]
    rw[hI0]at hD;simp only[bOa,if_false]at hD;rw[<-hD,show t+(1+j)=t+j+1 by omega]
    simp only[go_sem,kK,k2,k4,e4,k6,e6,k10,e10,d0,hw1,d5]
   ·have d5:decide ((5000:Int)<((t+j+1:Nat):Int))=false:=decide_eq_false (by omega)
    have hy':=lP hp hy hay;have hky':k<(cK p y k).w.tasks.length:=bOy hky (aJ2 hp hy hay);have hS2:=aHj hp hsp hy' (a:=k) (by simp only[inR,bRt];omega)
    simp only[go_sem,kK,k2,k3,e3,k4,e4,k9,k10,e10,d0,hw1,d5,hS2.ret]
    refine⟨j+1,⟨_,_,_,(cK p y k).w,rfl,?_⟩,by omega⟩
    simp only[go_sem,k3,e3,k4,k6,e6,k9,k10]
    refine⟨by rw[bPw],hy',by omega,hky',?_⟩
    rw[hI,show 5000-(t+j)=(5000-(t+(j+1)))+1 by omega,eF,if_pos h0]
    simp only[bPw,Nat.add_comm 1 j]
  ·have d0:decide ((cK p y k).what=0)=false:=decide_eq_false h0;have hin: ∀m,eF p k m y=(y,0,true):=fun m=>by cases m<;>(rw[eF,if_neg h0])
   rw[hI,hin]at hD;simp only[if_true,bO1]at hD;simp only[go_sem,kK,k2,k4,e4,k6,e6,k9,k10,e10,d0]
   refine⟨by omega,_,_,_,y,t+j,rfl,?_⟩
   simp only[go_sem,k2,k3,e3,k4,e4,k6,e6,aQ (show k<121 by omega) (show Few 121 by unfold Few;omega)]
   exact⟨hy,htj,by rw[show 121-(k+1)=120-k by omega];exact hD⟩
 ·have hn: ¬k<x.tasks.length:=of_decide_eq_false hq;have hD':cJ p w s=(x,t,true):=by
   rw[<-hD];cases hm:121-k with
   |zero=>rfl
   |succ m=>rw[iE,if_neg hn]
  rw[hD'];simp only[go_sem,k2,k4,e4,k6,e6]
theorem aCo {p:aI}: ∀(n:Nat) {a:Nat} {w:aB} {s:Nat},(iE p n a w s).2.2=true->(iE p n a w s).2.1<=max s 5000
 |0,_,_,s,_=>by simp only[iE];omega
 |n+1,a,w,s,h=>by
  obtain⟨h1,h2⟩:=aAh (p:=p) (a:=a) (5000-s) w;unfold iE at h⊢;split
  ·rename_i ha;rw[if_pos ha]at h;split
   ·rename_i hb;rw[if_pos hb]at h;have:=aCo n h;have:=h2 hb;omega
   ·rename_i hb;rw[if_neg hb]at h;cases h
  ·simp only;omega
theorem bBx (hp:dV p)(hsp:aV p=true)(h:cF p w0 S w)(pick:Int):
  PC L 124 [.agg p.cs,.agg w.cs,.i pick] (.tup [.agg (fW p w pick).1.cs,.agg [.i (fW p w pick).2.1.task,.i (fW p w pick).2.1.act,.i (fW p w pick).2.1.n,.i (fW p w pick).2.1.v.kind,.i (fW p w pick).2.1.v.n],.i ((fW p w pick).2.2.1:Nat),.i (fW p w pick).2.2.2]):=by
 have hS:=aFj hp hsp h 0 (by omega)
 have h1:=rC hp (s:=0) h;have hc:=aCo (p:=p) 121 (a:=0) (w:=w) (s:=0);rw[show((0:Nat):Int)=0 from rfl]at hS
 have hR:=aZt hp hsp h1;unfold fW
 simp only
 have hL:=at_ Tryz.func124
 conv at hL=>rhs;reduce
 refine aH hL rfl rfl ?_
 have hq1:cJ p w 0=iE p 121 0 w 0:=rfl;rw[<-hq1]at hc;generalize hq:cJ p w 0=q at hS h1 hR hc⊢;obtain⟨x,s1,ok⟩:=q;dsimp only at hS h1 hR hc⊢;cases ok with
 |false=>
  rw[if_pos rfl];simp only[go_sem,kK,hS.ret,gR,kR]
 |true=>
  rw[if_neg (by decide)]
  have hx120:=wT h1
  by_cases hl:eG p x=[]
  ·rw[if_pos hl];rw[hl]at hR;simp only[Val.is,bOq]at hR;simp only[go_sem,kK,hS.ret,hR.ret,bOo,gR,kR]
  ·rw[if_neg hl];have hll:(eG p x).length<=120:=by
    simp only[eG,gE,bOc];exact bOk (List.length_filter_le _ _) (by simpa using hx120)
   have hl0:0<(eG p x).length:=bRe.2 hl;have dl:decide (((eG p x).length:Int)=0)=false:=decide_eq_false (by omega)
   have hMo:=aWs pick (eG p x).length hl0 (by omega)
   have hpi:=aN8 hl pick;have hem:=Int.emod_nonneg pick (show((eG p x).length:Int)≠0 by omega)
   have hin:inR (pick%((eG p x).length:Int)) 0 (((eG p x).length:Int)-1)=true:=by
    simp only[inR,bRt];omega
   have ha:=aJ4 (lL (d:=0) hpi);have hSt:=aHj hp hsp h1 ha;have h2:=lP hp h1 ha;generalize hd:cK p x ((eG p x).getD (pick%((eG p x).length:Int)).toNat 0)=d at hSt h2⊢;have hc':=hc rfl;have hw1:IntKind.i64.wrap ((s1:Int)+1)=((s1+1:Nat):Int):=by rw[aY (by omega)];omega
   have hS2:=aFj hp hsp h2 (s1+1) (by omega)
   have hc2:=aBx (p:=p) 121 (a:=0) (w:=d.w) (s:=s1+1) (by omega)
   have hq2:cJ p d.w (s1+1)=iE p 121 0 d.w (s1+1):=rfl;rw[<-hq2]at hc2;generalize hqq:cJ p d.w (s1+1)=q at hS2 hc2⊢;obtain⟨y,s2,ok2⟩:=q;dsimp only at hS2 hc2⊢;simp only[go_sem,kK,hS.ret,hR.ret,dl]
   refine aJ ?_
   simp only[go_sem,bOc,hMo.ret,vD hin,hSt.ret,kA,bOa,if_false];cases ok2 with
   |false=>
    rw[if_pos (.inl rfl)];simp only[go_sem,kK,hw1,hS2.ret,gR,kR]
   |true=>
    by_cases h5:5000<s2
    ·have d5:decide ((5000:Int)<(s2:Int))=true:=decide_eq_true (by omega)
     rw[if_pos (.inr h5)];simp only[go_sem,kK,hw1,hS2.ret,d5,gR,kR]
    ·have d5:decide ((5000:Int)<(s2:Int))=false:=decide_eq_false (by omega)
     rw[if_neg (by rintro(h|h);cases h;exact h5 h)]
     simp only[go_sem,kK,hw1,hS2.ret,d5]
     refine aJ ?_
     simp only[go_sem,kA,bOa,if_false]
section
theorem aMe {e4:En}{c4:Nat->Nat->Nat}{w1:aB}{bv4:Val}(t4:TS kt kr e4 c4 p w1 a left f n [] bv4){x:Nat}(hx:((w1.objs.length:Int)-1)=(x:Int))(hop:n.op=19){A1 A2:Option Ent}{b:Bool}:
  WIn L (.fn 333 [] []) [.ptr kt 0,.agg [.i (dE (x:Int)).kind,.i (dE (x:Int)).n],.agg [.i bL.kind,.i bL.n]]
   ((((e4.set ⟨0,6,c4 0 6⟩ A1).set ⟨0,6,c4 0 6⟩ A2).set ⟨0,58,c4 0 58⟩ (some (.blk 1 (w1.tasks.map (.int .i64)++[.i (dE (x:Int)).n]) b))).set kr
    (some (.box [.fz (p.nodes.map aL.enc),.is p.funs,.i p.main,.fz (p.cons.map cD.enc),.fz (w1.objs.map aR.enc),.bl ⟨0,58,c4 0 58⟩ 0 (w1.tasks.length+1),.fz (w1.outs.map bJ.enc),.is w1.ins,.i w1.used] false)))
   (aC (aC c4 0 6 (c4 0 6+1)) 0 58 (c4 0 58+1)) fun v en' cnt'=>match nF (.ptr kt 0) [[0]] en' with
    |some en'=>v=aMd (some ⟨a,19,0,pW bL⟩)/\ (∃bv',TS kt kr en' cnt' p (pK w1) a left f n [dE (x:Int)] bv')/\ dI kt kr e4 c4 en' cnt'
    |none=>False:=by
 have ht:=t4.t;have hr:=t4.r;have s1:=t4.okt.set;have s2:=t4.okr.set;have n1:=t4.okt.new;have n2:=t4.okr.new;have hn:=t4.ne;have x1: ∀(en:En) (e:Option Ent),En.set en kt e kr=en kr:=fun _ _=>aK hn
 have x2: ∀(en:En) (e:Option Ent),En.set en kr e kt=en kt:=fun _ _=>aK hn.symm
 have hu: ∀t,c4 0 t<=aC (aC c4 0 6 (c4 0 6+1)) 0 58 (c4 0 58+1) 0 t:=(by(repeat refine upS ?_ (by omega));exact aN _)
 refine(aL4 (f:=f) (n:=n) (by simp only[s1,x2];exact ht) (t4.okt.up hu) (dE (x:Int)) bL).mono ?_
 rintro v e1 c1 ⟨rfl,tb,old,up⟩
 have h0:TS kt kr (e4.set kt (some (.box [.ptr kr 0,.i a,.fz (left.map aA.enc),.i f.node,.fz (f.env.map aE.enc),.fz (f.vals.map aE.enc),.i n.op,.i n.n,.is n.kids,.fz (n.pats.map Pat.enc),.cl [.agg [.i (dE (x:Int)).kind,.i (dE (x:Int)).n]]] false))) c4 p w1 a left f n [dE (x:Int)] (.cl [.agg [.i (dE (x:Int)).kind,.i (dE (x:Int)).n]]):=⟨t4.okt,t4.okr,t4.ne,.inr rfl,cB,by rw[aK t4.ne];exact hr⟩
 have o58:=old ⟨0,58,c4 0 58⟩ ⟨rfl,by simp only[go_sem];omega⟩ t4.okt.ne.symm
 simp only[go_sem,n2]at o58;have okr:=old kr (t4.okr.up hu) t4.ne;simp only[go_sem]at okr;have hA:w1.tasks.map (Val.int .i64)++[.i (dE (x:Int)).n]=(pK w1).tasks.map (.int .i64):=by simp[pK,dE,hx]
 rw[hA]at o58;have hF:=aZc h0 (w':=pK w1) (E:=e1) (c:=c1) (by rw[tb,cB]) okr rfl (sA o58 (by simp[pK])) rfl rfl (by simp) (fun k hk k1 k2=>by rw[old k (hk.up hu) k1,aK k1,aK k2,hk.set,hk.set,hk.set]) (fun t=>bOk (hu t) (up t))
 split at hF
 case h_2=>exact hF.elim
 rename_i E2 hE2;rw[hE2]
 refine⟨?_,hF.1,fun k hk k1 k2=>(hF.2.old k hk k1 k2).trans (aK k1),hF.2.up⟩
 rw[hop];rfl
noncomputable def aG6 :{c//L 280=some c}:=by
 have hL:=at_ Tryz.func280
 conv at hL=>rhs;reduce
 exact⟨_,hL⟩
theorem bBy (P0:Pre p w0 S w a left f n)(h:TS kt kr en cnt p w a left f n [] bv)(hop:n.op=19):pS 280 kt kr en cnt p w a left f n (opR p w a left f n):=by
 have e:opR p w a left f n=(match eZ p w (aF f.vals 0) bL with
  |some b=>if 30<b.env.length then .fail 4 else jC w ⟨6,0,[],[b]⟩ fun w' v=>jN (pK w') a left 19 0 v bL
  |none=>if cV w (aF f.vals 0) 5=true then jC w ⟨6,0,[bL],(w.obj (aF f.vals 0).n).frames⟩ fun w' v=>jN (pK w') a left 19 0 v bL else .fail 2):=by unfold opR;rw[hop];rfl
 rw[e];have hfull:=P0.full;simp[aL.asks,hop]at hfull;have hv0:0<f.vals.length:=by omega
 have hu:=P0.val hv0;have h120:=P0.objs;have htl:w.tasks.length+1<=16777216:=by
  have:=aAg (dL.1 P0.hF.ok).2.2.2.2.1;omega
 have haT: ∀o,(dW w o).tasks=w.tasks:=fun _=>rfl
 have hd1: ∀x:Int,cP 1 [.i x]=true:=fun _=>rfl
 have H:=h.pre;have ht:=h.t;obtain⟨⟨bv1,h1⟩,k1⟩:=h.stay (cnt':=aC (aC cnt 0 3 (cnt 0 3+1)) 0 4 (cnt 0 4+1)) (en':=((en.set ⟨0,3,cnt 0 3⟩ (some (.box [.i 0,.i 0,.cl [],.cl []] false))).set ⟨0,3,cnt 0 3⟩ (some (.box [.i 6,.i 0,.cl [],.cl []] false))).set ⟨0,4,cnt 0 4⟩ (some (.box [.i 0,.cl [],.cl []] false))) (fun k hk=>by simp only[hk.set]) (by(repeat refine upS ?_ (by omega));exact aN _)
 cases hb:eZ p w (aF f.vals 0) bL with
 |some b=>
  obtain⟨bn,be,bvs⟩:=b;have hbv:=aKe hb
  simp only at hbv
  subst hbv
  simp only
  by_cases hc:30<be.length
  ·rw[if_pos hc]
   refine bW aG6.2 rfl rfl ?_
   simp only[go_sem,kK,aG6]
   refine aPz rfl 9 rfl rfl ?_
   simp only[go_sem,bOp,bOm,bPk,bPj,rJ,bP5,bP4,ht,H,aS hv0,jP.ret,kA,kF];exact⟨rfl,(aKb h1 P0.hp P0.hF hu hb hc).mono fun _ _ _=>oB.then k1⟩
  ·rw[if_neg hc];have hC:=aKa h1 P0.hp P0.hF hu hb (by show be.length<=30;omega)
   unfold jC
   by_cases h20:120<=w.objs.length
   ·rw[if_pos h20]
    refine bW aG6.2 rfl rfl ?_
    simp only[go_sem,kK,aG6]
    refine nJ rfl ?_
    simp only[go_sem,bP5,bP4,ht,H,aS hv0,jP.ret,kA,kF]
    refine hC.mono ?_
    rintro v e1 c1 ⟨⟨ev,hev,_,rfl⟩,⟨bv2,t2⟩,k2⟩
    obtain⟨p3,q3⟩:=k2.loc (d:=3) (g:=cnt 0 3) (by simp[aC]) h.okt.ne.symm h.okr.ne.symm
    obtain⟨p4,q4⟩:=k2.loc (d:=4) (g:=cnt 0 4) (by simp[aC]) h.okt.ne.symm h.okr.ne.symm
    simp only[go_sem]at p3 p4;simp only[go_sem,kK,p4,kA,kF]
    refine⟨rfl,jX 9 rfl (by simp only[p4,cB];rfl) rfl,?_⟩
    obtain⟨⟨bv3,t3⟩,k3⟩:=h.fin t2 (k1.trans k2) (cnt2:=c1) (en2:=(e1.set ⟨0,4,cnt 0 4⟩ (some (.box [.i bn,ev,.cl []] false))).set ⟨0,3,cnt 0 3⟩ (some (.box [.i 6,.i 0,.cl [],.cl [.agg [.i bn,.fz (be.map aE.enc),.fz []]]] false))) (fun k hk _=>by simp only[hk.set]) (aN _)
    rcases hev with rfl|rfl<;>
    (simp only[go_sem,kB,p3]
     refine eX 2 rfl ?_
     simp only[go_sem,bOp,bOm];exact(oC t3 (o:=⟨6,0,[],[⟨bn,be,[]⟩]⟩) (by omega) (by omega)).mono fun _ _ _=>oB.then k3)
   ·rw[if_neg h20]
    refine qI aG6.2 rfl rfl ?_
    simp only[go_sem,kK,aG6]
    refine nJ rfl ?_
    simp only[go_sem,bP5,bP4,ht,H,aS hv0,jP.ret,kA,kF]
    refine hC.mono ?_
    rintro v e1 c1 ⟨⟨ev,hev,_,rfl⟩,⟨bv2,t2⟩,k2⟩
    obtain⟨p3,q3⟩:=k2.loc (d:=3) (g:=cnt 0 3) (by simp[aC]) h.okt.ne.symm h.okr.ne.symm
    obtain⟨p4,q4⟩:=k2.loc (d:=4) (g:=cnt 0 4) (by simp[aC]) h.okt.ne.symm h.okr.ne.symm
    simp only[go_sem]at p3 p4;simp only[go_sem,kK,p4,kA,kF]
    refine⟨rfl,jX 9 rfl (by simp only[p4,cB];rfl) rfl,?_⟩
    obtain⟨⟨bv3,t3⟩,k3⟩:=h.fin t2 (k1.trans k2) (cnt2:=c1) (en2:=(e1.set ⟨0,4,cnt 0 4⟩ (some (.box [.i bn,ev,.cl []] false))).set ⟨0,3,cnt 0 3⟩ (some (.box [.i 6,.i 0,.cl [],.cl [.agg [.i bn,.fz (be.map aE.enc),.fz []]]] false))) (fun k hk _=>by simp only[hk.set]) (aN _)
    rcases hev with rfl|rfl<;>
    (simp only[go_sem,kB,p3]
     refine cU ?_
     simp only[go_sem]
     refine(qE t3 (o:=⟨6,0,[],[⟨bn,be,[]⟩]⟩) (.inr rfl) (.inr rfl) (by omega)).mono ?_
     rintro v e4 c4 ⟨rfl,⟨bv4,t4⟩,k4⟩
     have ht4:=t4.t;have hr4:=t4.r;have y1:=t4.okt.set;have y2:=t4.okr.set;have y3:=t4.okt.eqF;have y4:=t4.okt.eqF';have y5:=t4.okr.eqF;have y6:=t4.okr.eqF';have y7:=t4.okt.new;have y8:=t4.okr.new;simp only[go_sem]
     refine aJ ?_
     simp only[go_sem,ht4,hr4,kB,y1,y2,y3,bOc,(aGm _).ret,bS,dU,tT,aA6,hd1,haT,htl,rA,kA,kF]
     refine aJ ?_
     simp only[go_sem,y8,jP.ret,kA,kF]
     refine(aMe t4 (x:=w.objs.length) (by simp[dW]) hop).mono fun v en' cnt' hh=>?_
     split at hh
     case h_2=>exact hh.elim
     rename_i E2 hE2;rw[hE2];exact⟨hh.1,hh.2.1,(k3.trans k4).trans hh.2.2⟩)
 |none=>
  simp only
  have hC:=aGq h1 hu hb
  by_cases hI:cV w (aF f.vals 0) 5=true
  ·rw[if_pos hI];have hW:=fun e1 c1 bv2 (t2:TS kt kr e1 c1 p w a left f n [] bv2)=>tU t2 (fH hu) 5 hI
   generalize w.obj (aF f.vals 0).n=o at hW⊢;unfold jC
   by_cases h20:120<=w.objs.length
   ·rw[if_pos h20]
    refine bW aG6.2 rfl rfl ?_
    simp only[go_sem,kK,aG6]
    refine nJ rfl ?_
    simp only[go_sem,bP5,bP4,ht,H,aS hv0,jP.ret,kA,kF]
    refine hC.mono ?_
    rintro v e1 c1 ⟨⟨xx,rfl,rfl⟩,⟨bv2,t2⟩,k2⟩
    obtain⟨p3,q3⟩:=k2.loc (d:=3) (g:=cnt 0 3) (by simp[aC]) h.okt.ne.symm h.okr.ne.symm
    obtain⟨p4,q4⟩:=k2.loc (d:=4) (g:=cnt 0 4) (by simp[aC]) h.okt.ne.symm h.okr.ne.symm
    simp only[go_sem]at p3 p4;simp only[go_sem,kK,p4,kA,kF]
    refine⟨rfl,jX 9 rfl (by simp only[p4,cB];rfl) rfl,?_⟩
    obtain⟨⟨bv3,t3⟩,k3⟩:=h.fin t2 (k1.trans k2) (cnt2:=c1) (en2:=e1.set ⟨0,4,cnt 0 4⟩ (some (.box [.i 0,.cl [],.cl []] false))) (fun k hk _=>by simp only[hk.set]) (aN _)
    have ht2:=t2.t
    refine cU ?_
    simp only[go_sem,H,ht2,aS hv0]
    refine(hW _ _ _ t3).mono ?_
    rintro v e4 c4 ⟨rfl,⟨bv4,t4⟩,k4⟩
    obtain⟨r3,u3⟩:=k4.loc (d:=3) (g:=cnt 0 3) q3.2 h.okt.ne.symm h.okr.ne.symm;simp only[go_sem,p3]at r3;simp only[go_sem,kB,aKf,aEk,r3,jP.ret];obtain⟨⟨bv6,t6⟩,k6⟩:=h.fin t4 (k3.trans k4) (cnt2:=c4) (en2:=(e4.set ⟨0,3,cnt 0 3⟩ (some (.box [.i 6,.i 0,.cl [],.fz (o.frames.map aA.enc)] false))).set ⟨0,3,cnt 0 3⟩ (some (.box [.i 6,.i 0,.cl [.agg [.i bL.kind,.i bL.n]],.fz (o.frames.map aA.enc)] false))) (fun k hk _=>by simp only[hk.set]) (aN _)
    refine eX 2 rfl ?_
    simp only[go_sem,bOp,bOm];exact(oC t6 (o:=⟨6,0,[bL],o.frames⟩) (by omega) (by omega)).mono fun _ _ _=>oB.then k6
   ·rw[if_neg h20]
    refine qI aG6.2 rfl rfl ?_
    simp only[go_sem,kK,aG6]
    refine nJ rfl ?_
    simp only[go_sem,bP5,bP4,ht,H,aS hv0,jP.ret,kA,kF]
    refine hC.mono ?_
    rintro v e1 c1 ⟨⟨xx,rfl,rfl⟩,⟨bv2,t2⟩,k2⟩
    obtain⟨p3,q3⟩:=k2.loc (d:=3) (g:=cnt 0 3) (by simp[aC]) h.okt.ne.symm h.okr.ne.symm
    obtain⟨p4,q4⟩:=k2.loc (d:=4) (g:=cnt 0 4) (by simp[aC]) h.okt.ne.symm h.okr.ne.symm
    simp only[go_sem]at p3 p4;simp only[go_sem,kK,p4,kA,kF]
    refine⟨rfl,jX 9 rfl (by simp only[p4,cB];rfl) rfl,?_⟩
    obtain⟨⟨bv3,t3⟩,k3⟩:=h.fin t2 (k1.trans k2) (cnt2:=c1) (en2:=e1.set ⟨0,4,cnt 0 4⟩ (some (.box [.i 0,.cl [],.cl []] false))) (fun k hk _=>by simp only[hk.set]) (aN _)
    have ht2:=t2.t
    refine cU ?_
    simp only[go_sem,H,ht2,aS hv0]
    refine(hW _ _ _ t3).mono ?_
    rintro v e4 c4 ⟨rfl,⟨bv4,t4⟩,k4⟩
    obtain⟨r3,u3⟩:=k4.loc (d:=3) (g:=cnt 0 3) q3.2 h.okt.ne.symm h.okr.ne.symm;simp only[go_sem,p3]at r3;simp only[go_sem,kB,aKf,aEk,r3,jP.ret];obtain⟨⟨bv6,t6⟩,k6⟩:=h.fin t4 (k3.trans k4) (cnt2:=c4) (en2:=(e4.set ⟨0,3,cnt 0 3⟩ (some (.box [.i 6,.i 0,.cl [],.fz (o.frames.map aA.enc)] false))).set ⟨0,3,cnt 0 3⟩ (some (.box [.i 6,.i 0,.cl [.agg [.i bL.kind,.i bL.n]],.fz (o.frames.map aA.enc)] false))) (fun k hk _=>by simp only[hk.set]) (aN _)
    refine cU ?_
    simp only[go_sem]
    refine(qE t6 (o:=⟨6,0,[bL],o.frames⟩) (.inr rfl) (.inl rfl) (by omega)).mono ?_
    rintro v e7 c7 ⟨rfl,⟨bv7,t7⟩,k7⟩
    have ht7:=t7.t;have hr7:=t7.r;have y1:=t7.okt.set;have y2:=t7.okr.set;have y3:=t7.okt.eqF;have y4:=t7.okt.eqF';have y5:=t7.okr.eqF;have y6:=t7.okr.eqF';have y7:=t7.okt.new;have y8:=t7.okr.new;simp only[go_sem]
    refine aJ ?_
    simp only[go_sem,ht7,hr7,kB,y1,y2,y3,bOc,(aGm _).ret,bS,dU,tT,aA6,hd1,haT,htl,rA,kA,kF]
    refine aJ ?_
    simp only[go_sem,y8,jP.ret,kA,kF]
    refine(aMe t7 (x:=w.objs.length) (by simp[dW]) hop).mono fun v en' cnt' hh=>?_
    split at hh
    case h_2=>exact hh.elim
    rename_i E2 hE2;rw[hE2];exact⟨hh.1,hh.2.1,(k6.trans k7).trans hh.2.2⟩
  ·rw[if_neg hI];rw[bPf]at hI
   refine bW aG6.2 rfl rfl ?_
   simp only[go_sem,kK,aG6]
   refine nJ rfl ?_
   simp only[go_sem,bP5,bP4,ht,H,aS hv0,jP.ret,kA,kF]
   refine hC.mono ?_
   rintro v e1 c1 ⟨⟨xx,rfl,rfl⟩,⟨bv2,t2⟩,k2⟩
   obtain⟨p3,q3⟩:=k2.loc (d:=3) (g:=cnt 0 3) (by simp[aC]) h.okt.ne.symm h.okr.ne.symm
   obtain⟨p4,q4⟩:=k2.loc (d:=4) (g:=cnt 0 4) (by simp[aC]) h.okt.ne.symm h.okr.ne.symm
   simp only[go_sem]at p3 p4;simp only[go_sem,kK,p4,kA,kF]
   refine⟨rfl,jX 9 rfl (by simp only[p4,cB];rfl) rfl,?_⟩
   obtain⟨⟨bv3,t3⟩,k3⟩:=h.fin t2 (k1.trans k2) (cnt2:=c1) (en2:=e1.set ⟨0,4,cnt 0 4⟩ (some (.box [.i 0,.cl [],.cl []] false))) (fun k hk _=>by simp only[hk.set]) (aN _)
   have ht2:=t2.t
   refine eX 8 rfl ?_
   simp only[go_sem,bOp,bOm,H,ht2,aS hv0];exact(tV t3 (fH hu) 5 hI).mono fun _ _ _=>oB.then k3
end
def aUk :iR:={np:=1,res:=[.tmp 2],keep:=false,body:=
 (.seq (.ops [mC 2 .nili])
 (.seq (.draw [mT 5 0,
 nK 6 5,
 fA 7 3 6,
 fA 8 2 7,
 l1 9 8,
 o 10 (.ia 2 (.t 9) (cI 0)),
 lT 11 2 10,
 mT 12 0,
 nK 13 12,
 fA 14 3 13,
 fA 15 2 14,
 l1 16 15,
 o 17 (.ia 2 (.t 16) (cI 1)),
 lT 18 2 17,
 o 3 (.alloc [(.int .i64 0),(.int .i64 0)]),
 o 4 (.alloc [(.int .i64 0),(.int .i64 0)]),
 sT 2 3 11,
 sT 2 4 18]
 [(4,14),(5,14),(6,14),(11,14),(12,14),(13,14),(4,15),(5,15),(6,15),(11,15),(12,15),(13,15),(14,15),(11,16),(12,16),(13,16)])
 (.seq (.opsP [fA 19 0 3,
 l1 20 19,
 fA 21 0 4,
 l1 22 21,
 bN 23 .eql (.t 20) (.t 22),
 mT 24 23,
 gF 25 24 true 0 3,
 g1 26 24 true 25,
 gB 27 24 true .leq (.t 26) (cI 3),
 pA 28 24 27,
 cL 29 264 [(.t 28),(cI 2)]])
 (.seq (.ops [mT 30 0,
 lT 31 2 3,
 lT 32 2 4,
 o 33 (.bin .eql (.agg [.num,.num]) (.t 31) (.t 32)),
 cL 34 325 [(.t 33)],
 o 35 (.icall (.f 323) [(.t 30),(.t 34)]),
 mT 2 35])
 .ret))))}
theorem aZu :L 274=some aUk:=by kernel_rfl
section
theorem bBz (P0:Pre p w0 S w a left f n)(h:TS kt kr en cnt p w a left f n [] bv)(hop:n.op=13):pS 274 kt kr en cnt p w a left f n (opR p w a left f n):=by
 have e:opR p w a left f n=(if¬(aF f.vals 0).kind=(aF f.vals 1).kind \/3<(aF f.vals 0).kind then .fail 2 else iF w left (mA (decide (aF f.vals 0=aF f.vals 1)))):=by unfold opR;rw[hop];rfl
 rw[e];have hfull:=P0.full;simp[aL.asks,hop]at hfull;have hv0:0<f.vals.length:=by omega
 have hv1:1<f.vals.length:=by omega
 have H:=h.pre;have ht:=h.t
 by_cases hk:(aF f.vals 0).kind=(aF f.vals 1).kind
 ·have dk:decide ((aF f.vals 0).kind=(aF f.vals 1).kind)=true:=decide_eq_true hk
  by_cases h3:3<(aF f.vals 0).kind
  ·rw[if_pos (.inr h3)];have d3:decide ((aF f.vals 0).kind<=3)=false:=decide_eq_false (by omega)
   refine bW aZu rfl rfl ?_
   simp only[go_sem,kK,aUk]
   refine aJ ?_
   simp only[go_sem,ht,H,aS hv0,fP hv1,kA,kF]
   refine eX 10 rfl ?_
   simp only[go_sem,kK,bOp,bOm,dk,d3,(jO _).ret];exact h.fell0 (fun k hk=>by simp only[hk.set]) (by(repeat refine upS ?_ (by omega));exact aN _)
  ·rw[if_neg (by rintro(h|h);exact h hk;exact h3 h)]
   have d3:decide ((aF f.vals 0).kind<=3)=true:=decide_eq_true (by omega)
   have hb:(decide ((aF f.vals 0).kind=(aF f.vals 1).kind)&&decide ((aF f.vals 0).n=(aF f.vals 1).n))=decide (aF f.vals 0=aF f.vals 1):=by
    cases aF f.vals 0;cases aF f.vals 1;simp
   refine bO aZu rfl rfl ?_
   simp only[go_sem,kK,aUk]
   refine aJ ?_
   simp only[go_sem,ht,H,aS hv0,fP hv1,kA,kF]
   refine cU ?_
   simp only[go_sem,kK,dk,d3,(gD _).ret];rw[dk]at hb
   try simp only[go_sem]at hb
   simp only[go_sem,hb,(aD4 _).ret];obtain⟨⟨bv1,h1⟩,k1⟩:=h.stay (cnt':=aC (aC cnt 0 3 (cnt 0 3+1)) 0 4 (cnt 0 4+1)) (en':=(((en.set ⟨0,3,cnt 0 3⟩ (some (.box [.i 0,.i 0] false))).set ⟨0,4,cnt 0 4⟩ (some (.box [.i 0,.i 0] false))).set ⟨0,3,cnt 0 3⟩ (some (.box [.i (aF f.vals 0).kind,.i (aF f.vals 0).n] false))).set ⟨0,4,cnt 0 4⟩ (some (.box [.i (aF f.vals 1).kind,.i (aF f.vals 1).n] false))) (fun k hk=>by simp only[hk.set]) (by(repeat refine upS ?_ (by omega));exact aN _)
   refine(iD h1 _).mono ?_
   rintro v e2 c2 ⟨rfl,t2,k2⟩
   exact⟨rfl,t2,k1.trans k2⟩
 ·rw[if_pos (.inl hk)];have dk:decide ((aF f.vals 0).kind=(aF f.vals 1).kind)=false:=decide_eq_false hk
  refine bW aZu rfl rfl ?_
  simp only[go_sem,kK,aUk]
  refine aJ ?_
  simp only[go_sem,ht,H,aS hv0,fP hv1,kA,kF]
  refine eX 10 rfl ?_
  simp only[go_sem,kK,bOp,bOm,dk,(jO _).ret];exact h.fell0 (fun k hk=>by simp only[hk.set]) (by(repeat refine upS ?_ (by omega));exact aN _)
theorem bB0 (P0:Pre p w0 S w a left f n)(h:TS kt kr en cnt p w a left f n [] bv)(hop:n.op=16):pS 277 kt kr en cnt p w a left f n (opR p w a left f n):=by
 have e:opR p w a left f n=jC w ⟨3,0,[aF f.vals 0],[]⟩ fun w' v=>jN w' a left 16 0 v (aF f.vals 0):=by unfold opR;rw[hop];rfl
 rw[e];have hfull:=P0.full;simp[aL.asks,hop]at hfull;have hv0:0<f.vals.length:=by omega
 have h120:=P0.objs;have H:=h.pre;have ht:=h.t;unfold jC;obtain⟨⟨bv1,h1⟩,k1⟩:=h.stay (cnt':=aC cnt 0 3 (cnt 0 3+1)) (en':=(en.set ⟨0,3,cnt 0 3⟩ (some (.box [.i 0,.i 0] false))).set ⟨0,3,cnt 0 3⟩ (some (.box [.i (aF f.vals 0).kind,.i (aF f.vals 0).n] false))) (fun k hk=>by simp only[hk.set]) (by(repeat refine upS ?_ (by omega));exact aN _)
 by_cases hc:120<=w.objs.length
 ·rw[if_pos hc];have hL:=at_ Tryz.func277
  conv at hL=>rhs;reduce
  refine bW hL rfl rfl ?_
  simp only[go_sem,kK,ht,aS hv0]
  refine eX 4 rfl ?_
  simp only[go_sem,bOp,bOm,bPk,bPj,kB];exact(oC h1 (o:=⟨3,0,[aF f.vals 0],[]⟩) hc (by omega)).mono fun _ _ _=>oB.then k1
 ·rw[if_neg hc];have hL:=at_ Tryz.func277
  conv at hL=>rhs;reduce
  refine bO hL rfl rfl ?_
  simp only[go_sem,kK,ht,aS hv0]
  refine cU ?_
  simp only[go_sem,kB]
  refine(qE h1 (o:=⟨3,0,[aF f.vals 0],[]⟩) (.inr rfl) (.inr rfl) (by omega)).mono ?_
  rintro v e1 c1 ⟨rfl,⟨bv2,t2⟩,k2⟩
  obtain⟨p3,q3⟩:=k2.loc (d:=3) (g:=cnt 0 3) (by simp only[go_sem];omega) h.okt.ne.symm h.okr.ne.symm
  simp only[go_sem]at p3;simp only[go_sem,p3,q3.set];obtain⟨⟨bv3,t3⟩,k3⟩:=h.fin t2 (k1.trans k2) (cnt2:=aC c1 0 4 (c1 0 4+1)) (en2:=(e1.set ⟨0,4,c1 0 4⟩ (some (.box [.i 0,.i 0] false))).set ⟨0,4,c1 0 4⟩ (some (.box [.i (dE w.objs.length).kind,.i (dE w.objs.length).n] false))) (fun k hk hj=>by simp only[hj.set]) (by(repeat refine upS ?_ (by omega));exact aN _)
  refine(pL t3 (dE w.objs.length) (aF f.vals 0)).mono ?_
  rintro v e2 c2 ⟨rfl,t4,k4⟩
  refine⟨?_,t4,k3.trans k4⟩
  rw[hop];rfl
theorem bB1 (P0:Pre p w0 S w a left f n)(h:TS kt kr en cnt p w a left f n [] bv)(hop:n.op=21):pS 282 kt kr en cnt p w a left f n (opR p w a left f n):=by
 have e:opR p w a left f n=jC w ⟨4,0,[],[]⟩ fun w' v=>jN w' a left 21 0 v bL:=by unfold opR;rw[hop];rfl
 rw[e];have h120:=P0.objs;have H:=h.pre;unfold jC
 by_cases hc:120<=w.objs.length
 ·rw[if_pos hc];have hL:=at_ Tryz.func282
  conv at hL=>rhs;reduce
  refine bW hL rfl rfl ?_
  simp only[go_sem,kK]
  refine eX 2 rfl ?_
  simp only[go_sem,bOp,bOm];exact oC h (o:=⟨4,0,[],[]⟩) hc (by omega)
 ·rw[if_neg hc];have hL:=at_ Tryz.func282
  conv at hL=>rhs;reduce
  refine bO hL rfl rfl ?_
  simp only[go_sem,kK]
  refine cU ?_
  simp only[go_sem]
  refine(qE h (o:=⟨4,0,[],[]⟩) (.inr rfl) (.inr rfl) (by omega)).mono ?_
  rintro v e1 c1 ⟨rfl,⟨bv2,t2⟩,k2⟩
  try simp only[go_sem]
  refine aJ ?_
  simp only[go_sem,jP.ret,kA,kF];obtain⟨⟨bv3,t3⟩,k3⟩:=h.fin t2 k2 (cnt2:=aC c1 0 3 (c1 0 3+1)) (en2:=(e1.set ⟨0,3,c1 0 3⟩ (some (.box [.i 0,.i 0] false))).set ⟨0,3,c1 0 3⟩ (some (.box [.i (dE w.objs.length).kind,.i (dE w.objs.length).n] false))) (fun k hk hj=>by simp only[hj.set]) (by(repeat refine upS ?_ (by omega));exact aN _)
  refine(pL t3 (dE w.objs.length) bL).mono ?_
  rintro v e2 c2 ⟨rfl,t4,k4⟩
  refine⟨?_,t4,k3.trans k4⟩
  rw[hop];rfl
theorem bMi {o:aR}{P:aI}(h:OOk P S w o)(h3:o.form=3):o.vals.length=1:=by
 have hk:=h.ok;simp only[dK,h3]at hk
 simp at hk
 omega
theorem bB2 (P0:Pre p w0 S w a left f n)(h:TS kt kr en cnt p w a left f n [] bv)(hop:n.op=17):pS 278 kt kr en cnt p w a left f n (opR p w a left f n):=by
 have e:opR p w a left f n=(if cV w (aF f.vals 0) 3=true then jN w a left 17 0 (aF (w.obj (aF f.vals 0).n).vals 0) (aF (w.obj (aF f.vals 0).n).vals 0)else .fail 2):=by unfold opR;rw[hop];rfl
 rw[e];have hfull:=P0.full;simp[aL.asks,hop]at hfull;have hv0:0<f.vals.length:=by omega
 have hu:=P0.val hv0;have H:=h.pre;have ht:=h.t
 by_cases hI:cV w (aF f.vals 0) 3=true
 ·rw[if_pos hI];obtain⟨a1,a2,a3,a4⟩:=eN P0.hF hu hI;have hl1:=bMi a2 a3;have hL:=at_ Tryz.func278
  conv at hL=>rhs;reduce
  refine bO hL rfl rfl ?_
  simp only[go_sem,kK]
  refine cU ?_
  simp only[go_sem,ht,aS hv0]
  refine(tU h (fH hu) 3 hI).mono ?_
  rintro v e1 c1 ⟨rfl,⟨bv2,t2⟩,k2⟩
  try simp only[go_sem,aKf,aEk,aS (l:=(w.obj (aF f.vals 0).n).vals) (by omega)]
  obtain⟨⟨bv3,t3⟩,k3⟩:=h.fin t2 k2 (cnt2:=aC c1 0 3 (c1 0 3+1)) (en2:=(e1.set ⟨0,3,c1 0 3⟩ (some (.box [.i 0,.i 0] false))).set ⟨0,3,c1 0 3⟩ (some (.box [.i (aF (w.obj (aF f.vals 0).n).vals 0).kind,.i (aF (w.obj (aF f.vals 0).n).vals 0).n] false))) (fun k hk hj=>by simp only[hj.set]) (by(repeat refine upS ?_ (by omega));exact aN _)
  refine(pL t3 _ _).mono ?_
  rintro v e2 c2 ⟨rfl,t4,k4⟩
  refine⟨?_,t4,k3.trans k4⟩
  rw[hop];rfl
 ·rw[if_neg hI];rw[bPf]at hI;have hL:=at_ Tryz.func278
  conv at hL=>rhs;reduce
  refine bW hL rfl rfl ?_
  simp only[go_sem,kK]
  refine eX 8 rfl ?_
  simp only[go_sem,bOp,bOm,ht,aS hv0];exact tV h (fH hu) 3 hI
theorem bB3 (P0:Pre p w0 S w a left f n)(h:TS kt kr en cnt p w a left f n [] bv)(hop:n.op=18):pS 279 kt kr en cnt p w a left f n (opR p w a left f n):=by
 have e:opR p w a left f n=(if cV w (aF f.vals 0) 3=true then jN (dR w (aF f.vals 0).n ⟨3,0,[aF f.vals 1],[]⟩) a left 18 0 bL (aF f.vals 1)else .fail 2):=by unfold opR;rw[hop];rfl
 rw[e];have hfull:=P0.full;simp[aL.asks,hop]at hfull;have hv0:0<f.vals.length:=by omega
 have hv1:1<f.vals.length:=by omega
 have hu:=P0.val hv0;have h120:=P0.objs;have H:=h.pre;have ht:=h.t
 by_cases hI:cV w (aF f.vals 0) 3=true
 ·rw[if_pos hI];obtain⟨a1,a2,a3,a4⟩:=eN P0.hF hu hI;simp only[inR,bRt]at a1;obtain⟨j,hj⟩: ∃j:Nat,(aF f.vals 0).n=(j:Int):=⟨(aF f.vals 0).n.toNat,by omega⟩
  have hL:=at_ Tryz.func279
  conv at hL=>rhs;reduce
  refine bO hL rfl rfl ?_
  simp only[go_sem,kK]
  refine cU ?_
  simp only[go_sem,ht,aS hv0]
  refine(tU h (fH hu) 3 hI).mono ?_
  rintro v e1 c1 ⟨rfl,⟨bv2,t2⟩,k2⟩
  have ht2:=t2.t
  try simp only[go_sem,kK,H,kB]
  refine aJ ?_
  simp only[go_sem,kB,ht2,aS hv0,fP hv1,hj,kA,kF]
  refine(aJt t2 (o:=⟨3,0,[aF f.vals 1],[]⟩) (.inr rfl) (.inr rfl) (j:=j) (by omega) (by omega)).mono ?_
  rintro v e3 c3 ⟨rfl,⟨bv3,t3⟩,k3⟩
  have ht3:=t3.t
  try simp only[go_sem,kK,H,kB,kA,kF]
  refine aJ ?_
  simp only[go_sem,ht3,fP hv1,jP.ret,kA,kF]
  refine(pL t3 bL (aF f.vals 1)).mono ?_
  rintro v e4 c4 ⟨rfl,t4,k4⟩
  refine⟨?_,t4,(k2.trans k3).trans k4⟩
  rw[hop];rfl
 ·rw[if_neg hI];rw[bPf]at hI;have hL:=at_ Tryz.func279
  conv at hL=>rhs;reduce
  refine bW hL rfl rfl ?_
  simp only[go_sem,kK]
  refine eX 8 rfl ?_
  simp only[go_sem,bOp,bOm,ht,aS hv0];exact tV h (fH hu) 3 hI
noncomputable def aRf :{c//L 281=some c}:=by
 have hL:=at_ Tryz.func281
 conv at hL=>rhs;reduce
 exact⟨_,hL⟩
theorem bB4 (P0:Pre p w0 S w a left f n)(h:TS kt kr en cnt p w a left f n [] bv)(hop:n.op=20):pS 281 kt kr en cnt p w a left f n (opR p w a left f n):=by
 have e:opR p w a left f n=(if cV w (aF f.vals 0) 6=true then
   (if(w.obj (aF f.vals 0).n).n=0 then .wait
   else if¬(w.obj (aF f.vals 0).n).n=1 then .fail (w.obj (aF f.vals 0).n).n
   else jN w a left 20 0 (aF (w.obj (aF f.vals 0).n).vals 0) (aF (w.obj (aF f.vals 0).n).vals 0))
  else .fail 2):=by unfold opR;rw[hop];rfl
 rw[e];have hfull:=P0.full;simp[aL.asks,hop]at hfull;have hv0:0<f.vals.length:=by omega
 have hu:=P0.val hv0;have H:=h.pre;have ht:=h.t
 by_cases hI:cV w (aF f.vals 0) 6=true
 ·rw[if_pos hI];obtain⟨a1,a2,a3,a4⟩:=eN P0.hF hu hI;have hW:=tU h (fH hu) 6 hI;generalize w.obj (aF f.vals 0).n=o at a2 a3 hW⊢
  by_cases h0:o.n=0
  ·rw[if_pos h0];have d0:decide (o.n=0)=true:=decide_eq_true h0
   refine bO aRf.2 rfl rfl ?_
   simp only[go_sem,kK,aRf]
   refine cU ?_
   simp only[go_sem,ht,aS hv0]
   refine hW.mono ?_
   rintro v e1 c1 ⟨rfl,⟨bv2,t2⟩,k2⟩
   simp only[go_sem,kK,d0];exact⟨rfl,h.fin t2 k2 (fun k hk hj=>by simp only[hj.set]) (by(repeat refine upS ?_ (by omega));exact aN _)⟩
  ·rw[if_neg h0];have d0:decide (o.n=0)=false:=decide_eq_false h0
   by_cases h1:o.n=1
   ·rw[if_neg (fun h=>h h1)]
    have d1:decide (o.n=1)=true:=decide_eq_true h1;have hl1:0<o.vals.length:=by
     have hk:=a2.ok;rw[dK,if_pos a3,jU,if_neg h0,if_pos h1]at hk;simp only[bN8,bRt]at hk;omega
    refine bO aRf.2 rfl rfl ?_
    simp only[go_sem,kK,aRf]
    refine cU ?_
    simp only[go_sem,ht,aS hv0]
    refine hW.mono ?_
    rintro v e1 c1 ⟨rfl,⟨bv2,t2⟩,k2⟩
    simp only[go_sem,kK,d0,d1,aS hl1];obtain⟨⟨bv3,t3⟩,k3⟩:=h.fin t2 k2 (cnt2:=aC c1 0 3 (c1 0 3+1)) (en2:=(e1.set ⟨0,3,c1 0 3⟩ (some (.box [.i 0,.i 0,.cl [],.cl []] false))).set ⟨0,3,c1 0 3⟩ (some (.box [.i o.form,.i o.n,.fz (o.vals.map aE.enc),.fz (o.frames.map aA.enc)] false))) (fun k hk hj=>by simp only[hj.set]) (by(repeat refine upS ?_ (by omega));exact aN _)
    refine(pL t3 _ _).mono ?_
    rintro v e2 c2 ⟨rfl,t4,k4⟩
    refine⟨?_,t4,k3.trans k4⟩
    rw[hop];rfl
   ·rw[if_pos h1];have d1:decide (o.n=1)=false:=decide_eq_false h1
    refine bW aRf.2 rfl rfl ?_
    simp only[go_sem,kK,aRf]
    refine cU ?_
    simp only[go_sem,ht,aS hv0]
    refine hW.mono ?_
    rintro v e1 c1 ⟨rfl,⟨bv2,t2⟩,k2⟩
    simp only[go_sem,kK,d0,d1]
    refine eX 4 rfl ?_
    simp only[go_sem,bOp,bOm];exact⟨rfl,h.fell t2 k2 (fun k hk hj=>by simp only[hj.set]) (by(repeat refine upS ?_ (by omega));exact aN _)⟩
 ·rw[if_neg hI];rw[bPf]at hI
  refine bW aRf.2 rfl rfl ?_
  simp only[go_sem,kK,aRf]
  refine eX 8 rfl ?_
  simp only[go_sem,bOp,bOm,ht,aS hv0];exact tV h (fH hu) 6 hI
theorem bB5 (P0:Pre p w0 S w a left f n)(h:TS kt kr en cnt p w a left f n [] bv)(hop:n.op=23):pS 284 kt kr en cnt p w a left f n (opR p w a left f n):=by
 have e:opR p w a left f n=(if cV w (aF f.vals 0) 4=true then
   (if(w.obj (aF f.vals 0).n).vals.length=0 then .wait
   else jN (dR w (aF f.vals 0).n ⟨4,0,(w.obj (aF f.vals 0).n).vals.drop 1,[]⟩) a left 23 0 (aF (w.obj (aF f.vals 0).n).vals 0) (aF (w.obj (aF f.vals 0).n).vals 0))
  else .fail 2):=by unfold opR;rw[hop];rfl
 rw[e];have hfull:=P0.full;simp[aL.asks,hop]at hfull;have hv0:0<f.vals.length:=by omega
 have hu:=P0.val hv0;have h120:=P0.objs;have H:=h.pre;have ht:=h.t
 by_cases hI:cV w (aF f.vals 0) 4=true
 ·rw[if_pos hI];obtain⟨a1,a2,a3,a4⟩:=eN P0.hF hu hI;have hW:=tU h (fH hu) 4 hI;simp only[inR,bRt]at a1;obtain⟨j,hj⟩: ∃j:Nat,(aF f.vals 0).n=(j:Int):=⟨(aF f.vals 0).n.toNat,by omega⟩
  generalize w.obj (aF f.vals 0).n=o at a2 a3 hW⊢;have hk:=a2.ok;simp only[dK,a3]at hk
  simp at hk
  obtain⟨q1,q2,q3⟩:=hk
  by_cases h0:o.vals.length=0
  ·rw[if_pos h0];have d0:decide ((o.vals.length:Int)=0)=true:=decide_eq_true (by omega)
   have d0':decide (o.vals.length=0)=true:=decide_eq_true h0;have hL:=at_ Tryz.func284
   conv at hL=>rhs;reduce
   refine bO hL rfl rfl ?_
   simp only[go_sem,kK]
   refine cU ?_
   simp only[go_sem,ht,aS hv0]
   refine hW.mono ?_
   rintro v e1 c1 ⟨rfl,⟨bv2,t2⟩,k2⟩
   simp only[go_sem,kK,bOc,d0];exact⟨rfl,h.fin t2 k2 (fun k hk hj=>by simp only[hj.set]) (by(repeat refine upS ?_ (by omega));exact aN _)⟩
  ·rw[if_neg h0];have d0:decide ((o.vals.length:Int)=0)=false:=decide_eq_false (by omega)
   have d0':decide (o.vals.length=0)=false:=decide_eq_false h0;have hL:=at_ Tryz.func284
   conv at hL=>rhs;reduce
   refine bO hL rfl rfl ?_
   simp only[go_sem,kK]
   refine cU ?_
   simp only[go_sem,ht,aS hv0]
   refine hW.mono ?_
   rintro v e1 c1 ⟨rfl,⟨bv2,t2⟩,k2⟩
   have ht2:=t2.t;have z1:=t2.okt.set;simp only[go_sem,kK,z1,ht2,bOc,d0,aS (l:=o.vals) (by omega),aBf (xs:=o.vals.map aE.enc) (by rw[bOc];omega) (rZ _),<-bQ1,aS hv0,hj]
   obtain⟨⟨bv3,t3⟩,k3⟩:=h.fin t2 k2 (cnt2:=aC (aC c1 0 3 (c1 0 3+1)) 0 4 (c1 0 4+1)) (en2:=((((e1.set ⟨0,3,c1 0 3⟩ (some (.box [.i 0,.i 0,.cl [],.cl []] false))).set ⟨0,3,c1 0 3⟩ (some (.box [.i o.form,.i o.n,.fz (o.vals.map aE.enc),.fz (o.frames.map aA.enc)] false))).set ⟨0,4,c1 0 4⟩ (some (.box [.i 0,.i 0] false))).set ⟨0,4,c1 0 4⟩ (some (.box [.i (aF o.vals 0).kind,.i (aF o.vals 0).n] false))).set ⟨0,3,c1 0 3⟩ (some (.box [.i o.form,.i o.n,.fz ((o.vals.drop 1).map aE.enc),.fz (o.frames.map aA.enc)] false))) (fun k hk hj=>by simp only[hj.set]) (by(repeat refine upS ?_ (by omega));exact aN _)
   refine(aJt t3 (o:=⟨o.form,o.n,o.vals.drop 1,o.frames⟩) (.inl rfl) (.inl rfl) (j:=j) (by omega) (by omega)).mono ?_
   rintro v e3 c3 ⟨rfl,⟨bv4,t4⟩,k4⟩
   obtain⟨p4,q4⟩:=k4.loc (d:=4) (g:=c1 0 4) (by simp only[go_sem];omega) t2.okt.ne.symm t2.okr.ne.symm
   simp only[go_sem]at p4;simp only[go_sem,p4]
   refine(pL t4 (aF o.vals 0) (aF o.vals 0)).mono ?_
   rintro v e5 c5 ⟨rfl,t5,k5⟩
   have eo:(⟨o.form,o.n,o.vals.drop 1,o.frames⟩:aR)=⟨4,0,o.vals.drop 1,[]⟩:=by rw[a3,q1,q2]
   rw[eo]at t5
   refine⟨?_,t5,(k3.trans k4).trans k5⟩
   rw[hop];rfl
 ·rw[if_neg hI];rw[bPf]at hI;have hL:=at_ Tryz.func284
  conv at hL=>rhs;reduce
  refine bW hL rfl rfl ?_
  simp only[go_sem,kK]
  refine eX 8 rfl ?_
  simp only[go_sem,bOp,bOm,ht,aS hv0];exact tV h (fH hu) 4 hI
theorem bB6 (P0:Pre p w0 S w a left f n)(h:TS kt kr en cnt p w a left f n [] bv)(hop:n.op=24):pS 285 kt kr en cnt p w a left f n (opR p w a left f n):=by
 have e:opR p w a left f n=(if¬(aF f.vals 0).kind=1 then .fail 2
  else if 100<=w.outs.length then .fail 4
  else jN ⟨w.objs,w.tasks,w.outs++[⟨n.n,(aF f.vals 0).n⟩],w.ins,w.used⟩ a left 24 n.n bL (aF f.vals 0)):=by unfold opR;rw[hop];rfl
 rw[e];have hfull:=P0.full;simp[aL.asks,hop]at hfull;have hv0:0<f.vals.length:=by omega
 have h100:w.outs.length<=100:=(dL.1 P0.hF.ok).2.1;have H:=h.pre;have ht:=h.t;have hr:=h.r
 by_cases h1:(aF f.vals 0).kind=1
 ·rw[if_neg (fun h=>h h1)]
  have d1:decide ((aF f.vals 0).kind=1)=true:=decide_eq_true h1
  by_cases hc:100<=w.outs.length
  ·rw[if_pos hc];have d2:decide ((w.outs.length:Int)<100)=false:=decide_eq_false (by omega)
   have hL:=at_ Tryz.func285
   conv at hL=>rhs;reduce
   refine bW hL rfl rfl ?_
   simp only[go_sem,kK,ht,aS hv0]
   refine cU ?_
   simp only[go_sem,d1,(gD _).ret]
   refine eX 10 rfl ?_
   simp only[go_sem,bOp,bOm,H,ht,hr,bOc,d2,(jO _).ret];exact h.fell0 (fun k hk=>by simp only[hk.set]) (by(repeat refine upS ?_ (by omega));exact aN _)
  ·rw[if_neg hc];have d2:decide ((w.outs.length:Int)<100)=true:=decide_eq_true (by omega)
   have hl:w.outs.length+1<=16777216:=by omega
   have hd1:cP 2 [.agg [.i n.n,.i (aF f.vals 0).n]]=true:=rfl;have hL:=at_ Tryz.func285
   conv at hL=>rhs;reduce
   refine qI hL rfl rfl ?_
   simp only[go_sem,kK,ht,aS hv0]
   refine cU ?_
   simp only[go_sem,d1,(gD _).ret]
   refine cU ?_
   simp only[go_sem,H,ht,hr,bOc,d2,(gD _).ret]
   refine aJ ?_
   simp only[go_sem,ht,hr,H,kB,bOc,(aQu _).ret,bS,dU,tT,aNv,hd1,hl,rA,kA,kF]
   refine aJ ?_
   simp only[go_sem,H,jP.ret,kA,kF];have hu: ∀t,cnt 0 t<=aC (aC cnt 0 3 (cnt 0 3+1)) 0 48 (cnt 0 48+1) 0 t:=(by(repeat refine upS ?_ (by omega));exact aN _)
   refine(aL4 (f:=f) (n:=n) (by simp only[H];exact ht) (h.okt.up hu) bL (aF f.vals 0)).mono ?_
   rintro v e1 c1 ⟨rfl,tb,old,up⟩
   have h0:TS kt kr (en.set kt (some (.box [.ptr kr 0,.i a,.fz (left.map aA.enc),.i f.node,.fz (f.env.map aE.enc),.fz (f.vals.map aE.enc),.i n.op,.i n.n,.is n.kids,.fz (n.pats.map Pat.enc),.cl [.agg [.i bL.kind,.i bL.n]]] false))) cnt p w a left f n [bL] (.cl [.agg [.i bL.kind,.i bL.n]]):=⟨h.okt,h.okr,h.ne,.inr rfl,cB,by rw[aK h.ne];exact hr⟩
   have o48:=old ⟨0,48,cnt 0 48⟩ ⟨rfl,by simp only[go_sem];omega⟩ h.okt.ne.symm
   simp only[go_sem,H]at o48;have okr:=old kr (h.okr.up hu) h.ne;simp only[go_sem]at okr;have hA:w.outs.map bJ.enc++[.agg [.i n.n,.i (aF f.vals 0).n]]=(w.outs++[(⟨n.n,(aF f.vals 0).n⟩:bJ)]).map bJ.enc:=by simp[bJ.enc]
   rw[hA]at o48;have hF:=aZc h0 (w':=⟨w.objs,w.tasks,w.outs++[⟨n.n,(aF f.vals 0).n⟩],w.ins,w.used⟩) (E:=e1) (c:=c1) (by rw[tb,cB]) okr rfl rfl (sA o48 (by simp)) rfl (by simp) (fun k hk k1 k2=>by rw[old k (hk.up hu) k1,aK k1,aK k2,hk.set,hk.set,hk.set]) (fun t=>bOk (hu t) (up t))
   split at hF
   case h_2=>exact hF.elim
   rename_i E2 hE2;rw[hE2]
   refine⟨?_,hF.1,fun k hk k1 k2=>(hF.2.old k hk k1 k2).trans (aK k1),hF.2.up⟩
   rw[hop];rfl
 ·rw[if_pos h1];have d1:decide ((aF f.vals 0).kind=1)=false:=decide_eq_false h1;have hL:=at_ Tryz.func285
  conv at hL=>rhs;reduce
  refine bW hL rfl rfl ?_
  simp only[go_sem,kK,ht,aS hv0]
  refine eX 3 rfl ?_
  simp only[go_sem,bOp,bOm,d1,(jO _).ret];exact h.fell0 (fun k hk=>by simp only[hk.set]) (by(repeat refine upS ?_ (by omega));exact aN _)
theorem bB7 {x:Int}{xs:List Int}:oP 1 en (.fz (.i x::xs.map (.int .i64))) (.i 0)=some {v:= .fp [.i x] 0}:=(rfl)
theorem bB8 (P0:Pre p w0 S w a left f n)(h:TS kt kr en cnt p w a left f n [] bv)(hop:n.op=25):pS 286 kt kr en cnt p w a left f n (opR p w a left f n):=by
 have e:opR p w a left f n=(match w.ins with
  |[]=> .wait
  |x::xs=>if 1000000000<=w.used then .fail 4 else jN ⟨w.objs,w.tasks,w.outs,xs,w.used+1⟩ a left 25 0 (lR x) (lR x)):=by unfold opR;rw[hop];rfl
 rw[e];have h50:w.used<=1000000000/\ 0<=w.used:=by
  have:=(dL.1 P0.hF.ok).2.2.2.1;simp only[inR,bRt]at this;omega
 have H:=h.pre;have hn:=h.ne;have ht:=h.t;have hr:=h.r;cases hi:w.ins with
 |nil=>
  rw[hi]at hr;simp only[Val.is,bOq]at hr;have hL:=at_ Tryz.func286
  conv at hL=>rhs;reduce
  refine bO hL rfl rfl ?_
  simp only[go_sem,kK,ht,hr,bOo];exact⟨rfl,⟨bv,h⟩,dI.refl _ _ _ _⟩
 |cons x xs=>
  rw[hi]at hr;simp only[Val.is,bO4]at hr;have hlx:xs.length<=50:=by
   have:=(dL.1 P0.hF.ok).2.2.1;rw[hi]at this;simp only[mH,bN8,bRt,bOh]at this;omega
  have d0:decide ((xs.length+1:Nat)=0)=false:=decide_eq_false (by omega)
  have d0':decide (((xs.length+1:Nat):Int)=0)=false:=decide_eq_false (by omega)
  simp only
  by_cases hu:1000000000<=w.used
  ·rw[if_pos hu];have d1:decide (w.used<1000000000)=false:=decide_eq_false (by omega)
   have hL:=at_ Tryz.func286
   conv at hL=>rhs;reduce
   refine bW hL rfl rfl ?_
   simp only[go_sem,kK,ht,hr,bOh,bOc,d0']
   refine eX 9 rfl ?_
   simp only[go_sem,bOp,bOm,ht,hr,d1,(jO _).ret];exact h.fell0 (fun _ _=>rfl) (aN _)
  ·rw[if_neg hu];have d1:decide (w.used<1000000000)=true:=decide_eq_true (by omega)
   have hw:IntKind.i64.wrap (w.used+1)=w.used+1:=aY (by omega)
   have hL:=at_ Tryz.func286
   conv at hL=>rhs;reduce
   refine bO hL rfl rfl ?_
   simp only[go_sem,kK,ht,hr,bOh,bOc,d0']
   refine cU ?_
   simp only[go_sem,ht,hr,d1,(gD _).ret];simp only[go_sem,H,ht,hr,bB7,(sK _).ret,aBf (size:=1) (xs:= .i x::xs.map (.int .i64)) (by simp) rfl,hw]
   refine WIn.mono (pL (w:=⟨w.objs,w.tasks,w.outs,xs,w.used+1⟩) (left:=left) (back:=[]) (bv:=bv) ⟨h.okt.up (by(repeat refine upS ?_ (by omega));exact aN _),h.okr.up (by(repeat refine upS ?_ (by omega));exact aN _),hn,h.ob,by simp only[H];exact ht,cB⟩ (lR x) (lR x)) ?_
   rintro v e2 c2 ⟨rfl,t4,k4⟩
   refine⟨?_,t4,(show dI kt kr en cnt _ _ from⟨fun k hk a b=>by simp only[hk.set,aK b],(by(repeat refine upS ?_ (by omega));exact aN _)⟩).trans k4⟩
   rw[hop];rfl
theorem bB9 (P0:Pre p w0 S w a left f n)(h:TS kt kr en cnt p w a left f n [] bv)(hop:n.op=22):pS 283 kt kr en cnt p w a left f n (opR p w a left f n):=by
 have e:opR p w a left f n=(if cV w (aF f.vals 0) 4=true then
   (if 4<=(w.obj (aF f.vals 0).n).vals.length then .wait
   else jN (dR w (aF f.vals 0).n ⟨4,0,(w.obj (aF f.vals 0).n).vals++[aF f.vals 1],[]⟩) a left 22 0 bL (aF f.vals 1))
  else .fail 2):=by unfold opR;rw[hop];rfl
 rw[e];have hfull:=P0.full;simp[aL.asks,hop]at hfull;have hv0:0<f.vals.length:=by omega
 have hv1:1<f.vals.length:=by omega
 have hu:=P0.val hv0;have h120:=P0.objs;have H:=h.pre;have ht:=h.t
 by_cases hI:cV w (aF f.vals 0) 4=true
 ·rw[if_pos hI];obtain⟨a1,a2,a3,a4⟩:=eN P0.hF hu hI;have hW:=tU h (fH hu) 4 hI;simp only[inR,bRt]at a1;obtain⟨j,hj⟩: ∃j:Nat,(aF f.vals 0).n=(j:Int):=⟨(aF f.vals 0).n.toNat,by omega⟩
  generalize w.obj (aF f.vals 0).n=o at a2 a3 hW⊢;have hk:=a2.ok;simp only[dK,a3]at hk
  simp at hk
  obtain⟨q1,q2,q3⟩:=hk;have hq4:o.vals.length<=4:=by
   simp only[bE,bN8,bRt]at q3;omega
  by_cases h0:4<=o.vals.length
  ·rw[if_pos h0];have d0:decide ((o.vals.length:Int)=4)=true:=decide_eq_true (by omega)
   have d0':decide (o.vals.length=4)=true:=decide_eq_true (by omega)
   have hL:=at_ Tryz.func283
   conv at hL=>rhs;reduce
   refine bO hL rfl rfl ?_
   simp only[go_sem,kK]
   refine cU ?_
   simp only[go_sem,ht,aS hv0]
   refine hW.mono ?_
   rintro v e1 c1 ⟨rfl,⟨bv2,t2⟩,k2⟩
   simp only[go_sem,kK,bOc,d0];exact⟨rfl,h.fin t2 k2 (fun k hk hj=>by simp only[hj.set]) (by(repeat refine upS ?_ (by omega));exact aN _)⟩
  ·rw[if_neg h0];have d0:decide ((o.vals.length:Int)=4)=false:=decide_eq_false (by omega)
   have d0':decide (o.vals.length=4)=false:=decide_eq_false (by omega)
   have hL:=at_ Tryz.func283
   conv at hL=>rhs;reduce
   refine bO hL rfl rfl ?_
   simp only[go_sem,kK]
   refine cU ?_
   simp only[go_sem,ht,aS hv0]
   refine hW.mono ?_
   rintro v e1 c1 ⟨rfl,⟨bv2,t2⟩,k2⟩
   have ht2:=t2.t;have z1:=t2.okt.set;have z2:=t2.okr.set;have z3:=t2.okt.eqF;have z4:=t2.okt.eqF';have hl:o.vals.length+1<=16777216:=by omega
   simp only[go_sem,kK,bOc,d0]
   refine aJ ?_
   simp only[go_sem,kB,z1,ht2,(aAc _).ret,fP hv1,bS,dU,tT,rZ,aA7,hl,bOc,rA,aS hv0,hj,kA,kF];have hA:o.vals.map aE.enc++[.agg [.i (aF f.vals 1).kind,.i (aF f.vals 1).n]]=(o.vals++[aF f.vals 1]).map aE.enc:=by simp[aE.enc]
   rw[hA,show o.vals.length+1=(o.vals++[aF f.vals 1]).length by simp]
   refine WIn.mono (aS9 (o:=⟨o.form,o.n,o.vals++[aF f.vals 1],o.frames⟩) (t:=30) (g:=c1 0 30) (t2.to (by simp only[z1]) (by simp only[z2]) (by(repeat refine upS ?_ (by omega));exact aN _)) (b:=!(o.vals.map aE.enc).isEmpty) (by simp only[go_sem]) (by simp only[go_sem];omega) (.inl rfl) (j:=j) (by omega) (by omega)) ?_
   rintro v e3 c3 ⟨rfl,⟨bv3,t3⟩,old3,up3⟩
   have ht3:=t3.t
   try simp only[go_sem,kK,H,kB]
   refine aJ ?_
   simp only[go_sem,ht3,fP hv1,jP.ret,kA,kF]
   refine(pL t3 bL (aF f.vals 1)).mono ?_
   rintro v e4 c4 ⟨rfl,t4,k4⟩
   have eo:(⟨o.form,o.n,o.vals++[aF f.vals 1],o.frames⟩:aR)=⟨4,0,o.vals++[aF f.vals 1],[]⟩:=by rw[a3,q1,q2]
   rw[eo]at t4;have hu1: ∀t,c1 0 t<=aC (aC c1 0 3 (c1 0 3+1)) 0 30 (c1 0 30+1) 0 t:=(by(repeat refine upS ?_ (by omega));exact aN _)
   refine⟨?_,t4,(show dI kt kr en cnt e3 c3 from⟨fun k hk x y=>?_,fun t=>bOk (k2.up t) (bOk (hu1 t) (up3 t))⟩).trans k4⟩
   ·rw[hop];rfl
   ·have hk1:=hk.up k2.up;rw[old3 k (hk1.up hu1) x y hk1.ne,hk1.set,hk1.set,hk1.set,hk1.set];exact k2.old k hk x y
 ·rw[if_neg hI];rw[bPf]at hI;have hL:=at_ Tryz.func283
  conv at hL=>rhs;reduce
  refine bW hL rfl rfl ?_
  simp only[go_sem,kK]
  refine eX 8 rfl ?_
  simp only[go_sem,bOp,bOm,ht,aS hv0];exact tV h (fH hu) 4 hI
end
end Go.Proofs.YtmnchlhngpdffaaGreat
