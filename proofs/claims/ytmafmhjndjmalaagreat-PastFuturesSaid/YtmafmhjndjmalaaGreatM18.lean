/- The law of other futures. -/
import Derived.Test.YtmafmhjndjmalaaGreatM5
set_option linter.all false
open Bool renaming not_false -> bTf, not_true -> bS6
open Int renaming eq_ofNat_of_zero_le -> bTs, not_lt -> bUe, toNat_natCast -> bTt
open List renaming getD_eq_getElem?_getD -> bSz, getElem?_append_left -> bUy, getElem?_take_of_lt -> bWn, length_append -> bTg, length_map -> bSy, length_take -> bT3, map_append -> bT0, map_congr_left -> bU6, map_nil -> bTe, map_take -> bUd, mem_range -> bTx, take_of_length_le -> bTh
open Nat renaming div_mul_le_self -> bWd, le_refl -> bSx, lt_or_ge -> bT5, mul_le_mul_right -> bT8
namespace Go.Proofs.YtmafmhjndjmalaaGreat
open Go.Abs Go.Proofs Tryz
set_option maxRecDepth 100000
set_option maxHeartbeats 4000000
variable {i:Nat}{ks:List Int}{p:aD}{w:aA}
theorem bHi {ls:List Int}(h:i<ks.length):tAt p w (ks++ls) i=tAt p w ks i:=by
 unfold tAt;rw[aSx i (by omega),bSz,bSz,bUy h]
variable {n:Nat}
theorem bFb (h:i<n):tAt p w (ks.take n) i=tAt p w ks i:=by
 unfold tAt;rw[aOl n i (by omega),bSz,bSz,bWn h]
theorem aQw (l:List Int):dA 1 (l.map (.int .i64))=true:=by cases l<;>rfl
theorem gJ.swap {every:Int}{m:Nat}(h:gJ p w ks every m)(ls:List Int)(hn:n<=m):gJ p w (ks.take n++ls) every n/\ cZ p w (ks.take n++ls) every n=cZ p w ks every n:=by
 have hl:(ks.take n).length=n:=by rw[bT3];have:=h.le;omega
 have hw: ∀i,i<=n->wAt p w (ks.take n++ls) i=wAt p w ks i:=fun i hi=>by rw[aSx i (by omega),aOl n i hi]
 refine⟨⟨h.g,h.e1,h.e2,by simp[hl],by have:=h.m200;omega,fun i hi=>?_⟩,?_⟩
 ·rw[bHi (by omega),bFb hi];exact h.ok i (by omega)
 ·simp only[cZ,bL.mk.injEq,true_and]
  refine⟨by rw[List.take_append_of_le_length (by omega),List.take_take,Nat.min_self],bU6 fun j hj=>hw _ ?_⟩
  have:j<n/every.toNat+1:=bTx.1 hj;have:=bWd n every.toNat;have:=bT8 every.toNat (show j<=n/every.toNat by omega)
  omega
set_option maxHeartbeats 4000000 in
theorem aFl (hk:PC L 9 [] (.bool true))(hpf:p.few)(hwf:w.few)(ks:List Int)(every n:Int)(ls:List Int):PC L 7 [.agg p.cs,.agg w.cs,.is ks,.i every,.i n,.is ls] (.bool true):=by
 have hG:=uS hpf hwf ks every
 refine pcA func7 ?_
 cases hgv:aDb p w ks every with
 |false=>
  rw[hgv]at hG;simp only[go_sem,kK,hG.ret,hk.ret,bTf,kF]
 |true=>
 rw[hgv]at hG;obtain⟨hsp,hg,hks,e1,e2⟩:=yE hgv
 by_cases hls:ls.length<=10
 case neg=>simp only[go_sem,kK,hG.ret,hk.ret,bSy,D_t (show(10:Int)<(ls.length:Int)by omega),bS6,kF]
 rcases tW hpf hwf hsp (ks:=ks) (by omega) hg e1 e2 with⟨hs,hM⟩|⟨hs,m,hm,hend,hM⟩
 ·simp only[tS,bL.cs]at hM;simp only[go_sem,kK,hG.ret,hM.ret,hk.ret,bSy,D_f (show¬(10:Int)<(ls.length:Int)by omega),bS6,bTf,kF]
 have hml:=hm.le;have hlen:(oT p (aJ p w 0).1 ks m).length=m:=yD;have hlf:=hm.few hsp;have hU:=aV5 hpf hlf hsp n
 by_cases hn:0<=n/\ n<=(m:Int)
 case neg=>
  have hc:n<0 \/(0<=n/\ (m:Int)<n):=by omega
  rcases hc with h1|⟨h1,h2⟩
  case' inl=>simp only[go_sem,kK,hG.ret,hM.ret,hk.ret,D_t h1,bSy,D_f (show¬(10:Int)<(ls.length:Int)by omega),bS6,kF]
  case' inr=>simp only[go_sem,kK,hG.ret,hM.ret,hk.ret,D_f (bUe.2 h1),bSy,hlen,D_t h2,D_f (show¬(10:Int)<(ls.length:Int)by omega),bS6,kF]
 obtain⟨b,rfl⟩:=bTs hn.1;have hb:b<=m:=by omega
 obtain⟨hx,hxl⟩:=hm.swap ls hb;rw[show bEz p (cZ p (aJ p w 0).1 ks every m) b=(cZ p (aJ p w 0).1 (ks.take b++ls) every b,0)by
  unfold bEz;rw[if_pos ⟨hm.log,hn.1,by rw[hm.len];omega⟩,bTt,hm.cut hb,hxl]]at hU
 have hxk:(ks.take b++ls).length<=25:=by rw[bTg,bT3];omega
 rcases tW hpf hwf hsp (ks:=ks.take b++ls) hxk hg e1 e2 with⟨hs',_⟩|⟨_,m',hm',hend',hM'⟩
 ·rw[hs]at hs';cases hs'
 have hbl:(ks.take b).length=b:=by rw[bT3];omega
 have hbm:b<=m':=by
  rcases bT5 m' b with h|h
  ·rcases hend' with h'|h'
   ·rw[bTg,hbl]at h';omega
   ·exact absurd (hx.ok m' h) h'
  ·exact h
 have hS0:=aBg (hx.few hsp);have hL0:=aOj hpf (hx.few hsp) (aFk hsp);rw[hx.small hsp (by omega)]at hS0
 rw[hx.log]at hL0;have hml':=hm'.le;have hm2:=hm'.m200;rw[bTg,hbl]at hxk hml';have hxg: ∀k,b<=k->(ks.take b++ls).getD k 0=ls.getD (k-b) 0:=fun k hk=>by
  rw[bSz,bSz,List.getElem?_append_right (by omega),hbl]
 have hSa:=aV6 (l:=cZ p (aJ p w 0).1 (ks.take b++ls) every m') (b:=cZ p (aJ p w 0).1 (ks.take b++ls) every m') (hm'.few hsp);simp only[decide_true]at hSa;have hxx:(ks.take b++ls).length=b+ls.length:=by rw[bTg,hbl]
 rw[hxx]at hend';generalize (aJ p w 0).1=w0 at*;have hxm:(ks.take b++ls).map (Val.int .i64)=(ks.map (.int .i64)).take b++ls.map (.int .i64):=by rw[bT0,bUd]
 generalize hks':ks.take b++ls=xs at*;simp only[bL.enc]at hU;simp only[go_sem,kK,hG.ret,hM.ret,D_f (bUe.2 hn.1),bSy,hlen,D_f (show¬m<b by omega),D_f (show¬(10:Int)<(ls.length:Int)by omega),hU.ret,hS0.ret,hL0.ret,bS6,decide_true,kF]
 refine bK m' (fun k st=> ∃fr en cnt,st=⟨fr,en,cnt⟩/\ fr 2= .is ks/\ fr 3= .i every/\ fr 4= .i (b:Int)/\ fr 5= .is ls/\ fr 6= .ptr ⟨0,6,0⟩ 0/\ fr 7= .ptr ⟨0,7,0⟩ 0/\ fr 17= .ptr ⟨0,17,0⟩ 0/\ fr 90= .is ls/\ fr 91= .i (ls.length:Int)/\ fr 92= .i ((k-b:Nat):Int)/\
   en ⟨0,6,0⟩=some (.box p.cs false)/\ en ⟨0,7,0⟩=some (.box w.cs false)/\ en ⟨0,17,0⟩=some (.box (cZ p w0 xs every k).cs false)/\ b<=k) b hbm (by refine⟨_,_,_,rfl,?_,?_,?_,?_,?_,?_,?_,?_,?_,by simp only[go_sem,Nat.sub_self],?_,?_,?_,bSx b⟩<;>simp only[go_sem]) ?_
 rintro k st hkm ⟨fr,en,cnt,rfl,f2,f3,f4,f5,f6,f7,f17,f90,f91,f92,e6,e7,e17,hbk⟩
 have hk':=hm'.le' hkm;have hlk:=hk'.few hsp;have hcase:(k=m'/\ ¬k-b<ls.length) \/(k=m'/\ k-b<ls.length/\ ¬(tAt p w0 xs k).2.2=0) \/(k<m'/\ k-b<ls.length/\ (tAt p w0 xs k).2.2=0):=by
  rcases bT5 k m' with h|h
  ·exact .inr (.inr ⟨h,by omega,hm'.ok k h⟩)
  ·obtain rfl:k=m':=by omega
   rcases hend' with h|h
   ·exact .inl ⟨rfl,by omega⟩
   ·by_cases h':k-b<ls.length
    ·exact .inr (.inl ⟨rfl,h',h⟩)
    ·exact .inl ⟨rfl,h'⟩
 simp only[go_sem,kK,f91,f92];have hA:=aKc hpf hlk hsp (xs.getD k 0);rw[show bBj p (cZ p w0 xs every k) (xs.getD k 0)=bBd p (cZ p w0 xs every k) (xs.getD k 0)from if_pos hk'.log]at hA
 rcases hcase with⟨rfl,a⟩|⟨rfl,a,c⟩|⟨a,a',c⟩
 case' pos.inr.inl=>simp only[go_sem,D_f a,f2,f4]
 case' pos.inr.inr.inl=>
  rw[hk'.add (by omega) (by omega),if_neg c,hxg k hbk]at hA
  simp only[bL.enc,evV,tS,eM,iV,Val.is,bTe]at hA;have hcd:decide ((tAt p w0 xs k).2.2=6)=true \/(decide ((tAt p w0 xs k).2.2=6)=false/\ decide ((tAt p w0 xs k).2.2=8)=true):=by
   rcases aOk (p:=p) (w:=wAt p w0 xs k) (k:=xs.getD k 0)with h|h|h
   ·exact absurd h c
   ·exact .inl (D_t h)
   ·refine .inr ⟨D_f ?_,D_t h⟩
    intro h';have:(6:Int)=8:=h'.symm.trans h;exact absurd this (by decide)
  simp only[go_sem,kK,D_t a,f6,f17,f90,f92,e6,e17,aHt a,hA.ret,kF];rcases hcd with hcd|⟨hcd,hcd'⟩
  case' inr.inl.inl=>simp only[go_sem,kK,hcd,f2,f4,f92,kF]
  case' inr.inl.inr=>simp only[go_sem,kK,hcd,hcd',f2,f4,f92,kF]
 case pos.inr.inr.inr=>
  rw[hk'.add (by omega) (by omega),if_pos c,hxg k hbk]at hA
  simp only[bL.enc,evV]at hA;have hS:=aBg ((hk'.next (by omega) (by omega) c).few hsp)
  rw[(hk'.next (by omega) (by omega) c).small hsp (by omega)]at hS
  have hw1:IntKind.i64.wrap (((k-b:Nat):Int)+1)=((k+1-b:Nat):Int):=by rw[aV (by omega)];omega
  simp only[go_sem,kK,D_t a',f6,f17,f90,f92,e6,e17,aHt a',hA.ret,hS.ret,hw1,bS6,decide_true,kF];exact⟨a,_,_,_,rfl,by simp only[go_sem,f2],by simp only[go_sem,f3],by simp only[go_sem,f4],by simp only[go_sem,f5],by simp only[go_sem,f6],by simp only[go_sem,f7],by simp only[go_sem,f17],by simp only[go_sem,f90],by simp only[go_sem,f91],by simp only[go_sem],by simp only[go_sem,e6],by simp only[go_sem,e7],by simp only[go_sem],by omega⟩
 all_goals
  simp only[go_sem,bSy,show b<=ks.length by omega]
  refine jO (D:=[]) (xs:=[]) (ys:=(ks.map (.int .i64)).take b) (rs:=[]) (.inl ⟨by simp only[go_sem],rfl⟩) (by simp only[go_sem]) (by rw[<-bUd];exact aQw _) (by simp;omega) ?_
  intro v1 en1 cnt1 m1 hen1 _;simp only[go_sem,f5]
  refine jO (D:=[122]) (xs:=(ks.map (.int .i64)).take b) (ys:=ls.map (.int .i64)) (rs:=[]) (by simp only[go_sem];exact m1) (by simp only[go_sem]) (aQw _) (by simp;omega) ?_
  intro v2 en2 cnt2 m2 hen2 _;rw[<-hxm]at m2;obtain⟨r,kk,t1,t3,hkk⟩: ∃r kk,snapD 8 en2 v2=some (r,kk)/\ r.wk1= .fz (xs.map (.int .i64))/\ (⟨0,17,0⟩:Key)∉kk:=by
   rcases m2 with⟨rfl,h⟩|⟨t,g,f,rfl,h2,ht⟩
   ·rw[h];exact⟨.cl [],[],rfl,rfl,by simp⟩
   ·refine⟨.fz (xs.map (.int .i64)),[⟨0,t,g⟩],by simp[snapD,h2,aE0];exact bTh (by simp),rfl,?_⟩
    simp at ht⊢;omega
  have k6:en2 ⟨0,6,0⟩=some (.box p.cs false):=by rw[hen2 0 6 0 (.inr ⟨by decide,by simp⟩),hen1 0 6 0 (.inr ⟨by decide,by simp⟩)];simp only[go_sem,e6]
  have k7:en2 ⟨0,7,0⟩=some (.box w.cs false):=by rw[hen2 0 7 0 (.inr ⟨by decide,by simp⟩),hen1 0 7 0 (.inr ⟨by decide,by simp⟩)];simp only[go_sem,e7]
  have k17:en2 ⟨0,17,0⟩=some (.box (cZ p w0 xs every k).cs false):=by rw[hen2 0 17 0 (.inr ⟨by decide,by simp⟩),hen1 0 17 0 (.inr ⟨by decide,by simp⟩)];simp only[go_sem,e17]
  have hz:W.applyAll en2 (kk.map .frz) ⟨0,17,0⟩=some (.box (cZ p w0 xs every k).cs false):=(Go.Abs.frz_other hkk).trans k17;have hfl:(Val.tup [.agg (cZ p w0 xs every k).cs,.fz ((oT p w0 xs k).map evV),.bool true,.bool true]).flat=false:=rfl;simp only[go_sem,kK,f3,f6,f7,f17,k6,k7,t1,t3,hM'.ret,hfl,hz,hSa.ret,hk.ret,kF]
  done
end Go.Proofs.YtmafmhjndjmalaaGreat

