/- Contracts of functions of the program and of the document: part 6. -/
import Derived.Test.YthpmfghgoabnhaaGreatM5
import Derived.Test.YthpmfghgoabnhaaGreatM1
set_option linter.all false
open Bool renaming and_eq_true → bXb, not_eq_true → bYf
open List renaming length_map → bXj, map_take → bZd, mem_cons → bYe
open Nat renaming le_refl → bXd, zero_le → bXl
namespace Go.Proofs.YthpmfghgoabnhaaGreat
open Go.Abs Go.Proofs
theorem aQ8 (l:List Bool)(g:List Int)(hl:Few l.length)(hg:Few g.length)(h: ∀i:Nat,(hi:i<l.length)->l[i]=false->pE g i=true):PC L 51 [.fz (l.map .bool),.fz (g.map (.int .i64))] (.bool true):=by
 refine aL bUq rfl rfl ?_
 simp only[go_sem,qC,qG,qW,bCj]
 refine bD (l.length) (fun k st=> ∃fr en cnt,st=⟨fr,en,cnt⟩/\ (fr 1= .fz (g.map (.int .i64)))/\ (fr 7= .fz (l.map .bool))/\ (fr 8= .int .i64 l.length)/\ (fr 9= .int .i64 k)) 0 (bXl _) ⟨_,_,_,rfl,(by first|(simp only[go_sem,qW];(try rfl);done)|rfl|simp),(by first|(simp only[go_sem,qW];(try rfl);done)|rfl|simp),(by first|(simp only[go_sem,qW];(try rfl);done)|rfl|simp),(by first|(simp only[go_sem,qW];(try rfl);done)|rfl|simp)⟩ ?_
 rintro k st hk ⟨fr,en,cnt,rfl,h1,h7,h8,h9⟩
 simp only[go_sem,qC,qG,qW,h1,h7,h8,h9]
 refine aA (fun hq=>?_) (fun hq=>?_)
 ·have h':k<l.length:=of_decide_eq_true hq;have hC:=aN9 g k hg;cases hb:l[k]with
  |false=>
   rw[h k h' hb]at hC;simp only[go_sem,qC,qG,qW,hq,h',h1,h7,h8,h9,hb,hC.ret]
   refine⟨_,_,_,rfl,?_⟩
   simp only[go_sem,qW,h1,h7,h8,h9,aJ h' hl]
  |true=>
   simp only[go_sem,qC,qG,qW,hq,h',h1,h7,h8,h9,hb]
   refine⟨_,_,_,rfl,?_⟩
   simp only[go_sem,qW,h1,h7,h8,h9,aJ h' hl]
 ·simp only[go_sem,qC,qG,qW,hq,h1,h7,h8,h9]
theorem bBd {g:List Int}{x:Int}(h:x∈g):pE g x=true:=aBu.2 h
def kQ (w:aB):aX:=⟨w,dJ w.objs.length,gH lt2 w (dJ w.objs.length) 0,0⟩
theorem aX6 {p:aP}{w:aB}(hw:w.few)(hsw:aY w=true)(hg:eV p w=true):(kQ w).few/\ bO (kQ w)=true/\ cE p (kQ w)=true:=by
 have hin:=eJ hg;obtain⟨b1,_,_,_⟩:=iY hsw;have hwo:=hw.objs;have hz:(dJ w.objs.length).length=w.objs.length:=by simp[dJ]
 have hzn: ∀i:Nat,i<w.objs.length->qB (dJ w.objs.length) i=0:=fun i hi=>by
  rw[xD (by rw[hz];exact hi)];simp[dJ]
 have hzr: ∀i:Nat,i<w.objs.length->inR (qB (dJ w.objs.length) i) 0 2=true:=fun i hi=>by rw[hzn i hi];rfl
 obtain⟨m1,m2⟩:=aEh (c:=0) hin hzr;have hml:=m1.len
 refine⟨⟨hw,by rw[show(kQ w).ages=dJ w.objs.length from rfl,hz];exact hwo,by rw[show(kQ w).marks=gH lt2 w (dJ w.objs.length) 0 from rfl,hml];exact hwo⟩,?_,eB.2 ⟨hg,m1,hz,rfl,hzr,m2⟩⟩
 simp only[bO,bXb,cAg];exact⟨⟨hsw,by rw[show(kQ w).ages=dJ w.objs.length from rfl,hz];omega⟩,by rw[show(kQ w).marks=gH lt2 w (dJ w.objs.length) 0 from rfl,hml];omega⟩
theorem aOx {p:aP}{w0:aB}{s:aX}{k:Nat}(h:aHj p w0 s)(hin:kW w0)(hw:w0.few)(hE:gJ s k=true):PC L 51 [.fz ((sX w0).map .bool),.fz ((pF s k).map (.int .i64))] (.bool true):=by
 have hlen:(sX w0).length=w0.objs.length:=by simp[sX]
 have hgf:Few (pF s k).length:=aQk h.few
 refine aQ8 _ _ (by rw[hlen];exact hw.objs) hgf fun i hi hb=>?_
 have hb':aLa w0 i=false:=by simpa[sX]using hb
 refine bBd (aXh h hE i (by omega) fun hr=>?_)
 rw[aGz.2 hr]at hb';cases hb'
theorem aDj (hk:PC L 17 [] (.bool true))(p:aP)(w:aB)(picks:List Int)(most:Int)(t:Nat)(hp:p.few)(hw:w.few)(hpk:Few picks.length)(ht:t<=255):PC L 13 [.agg [.fz (p.nodes.map aK.enc),.fz (p.funs.map (.int .i64)),.int .i64 p.main,.fz (p.cons.map bE.enc)],.agg [.fz (w.objs.map aI.enc),.fz (w.tasks.map (.int .i64)),.fz (w.outs.map aN.enc),.fz (w.ins.map (.int .i64)),.int .i64 w.used],.fz (picks.map (.int .i64)),.int .i64 most,.int .u8 t] (.bool true):=by
 have hG:=aKs p w hp hw
 refine aL bUb rfl rfl ?_
 by_cases hg:(aT p&&aY w)=true
 ·rw[hg]at hG;simp only[bXb]at hg;obtain⟨hsp,hsw⟩:=hg;have hc:p.cons.length<=1000:=by
   have:=hsp;simp only[aT,bXb,cAg]at this;omega
  have hWo:=aBf p w hp hw hc
  by_cases hgv:eV p w=true
  ·rw[hgv]at hWo
   by_cases h12:12<picks.length
   ·have d12:decide (12<(picks.length:Int))=true:=decide_eq_true (by omega)
    simp only[go_sem,qC,qG,qW,aMy,hG.ret,hWo.ret,hk.ret,d12]
   have d12:decide (12<(picks.length:Int))=false:=decide_eq_false (by omega)
   have hMo:=bDj most
   by_cases hm:inR most 1 200=true
   ·rw[hm]at hMo;obtain⟨k,rfl,hk1⟩: ∃k:Nat,most=k/\ 1<=k:=by
     have h2:=hm;simp only[inR,cAg]at h2;exact⟨most.toNat,by omega,by omega⟩
    have hpg:=hgv;simp only[eV,bXb]at hpg;have hfm:=aW9 hpg.1;obtain⟨s1,s2,s3⟩:=aX6 hw hsw hgv;have hB:PC L 30 [.agg [.fz (p.nodes.map aK.enc),.fz (p.funs.map (.int .i64)),.int .i64 p.main,.fz (p.cons.map bE.enc)],.agg [.fz (w.objs.map aI.enc),.fz (w.tasks.map (.int .i64)),.fz (w.outs.map aN.enc),.fz (w.ins.map (.int .i64)),.int .i64 w.used]] (.tup [.agg [.fz ((kQ w).world.objs.map aI.enc),.fz ((kQ w).world.tasks.map (.int .i64)),.fz ((kQ w).world.outs.map aN.enc),.fz ((kQ w).world.ins.map (.int .i64)),.int .i64 (kQ w).world.used,.fz ((kQ w).ages.map (.int .i64)),.fz ((kQ w).marks.map (.int .i64)),.int .i64 (kQ w).cycle],.int .i64 0]):=by
     have:=aH8 p w hp hw hsp hsw;rw[if_pos hgv]at this;exact this
    have hF:=aB0 hp s1 hc s2 s3;have hR0:=aQt s1 s2 s3 (d:=3) (by omega)
    rw[show(kQ w).world=w from rfl,show(kQ w).cycle=0 from rfl]at hR0
    simp only[go_sem,qC,qG,qW,aMy,hG.ret,hWo.ret,d12,hMo.ret,hB.ret,hF.ret];generalize kQ w=s0 at hR0;clear hB hF hG hWo hMo s1 s2 s3
    refine bD 1000 (fun j st=> ∃fr en cnt x e,st=⟨fr,en,cnt⟩/\ fr 2= .fz (picks.map (.int .i64))/\ fr 3= .int .i64 k/\ fr 4= .int .u8 t/\ fr 5= .ptr ⟨0,5,0⟩ 0/\ en ⟨0,5,0⟩=some (.box [.fz (p.nodes.map aK.enc),.fz (p.funs.map (.int .i64)),.int .i64 p.main,.fz (p.cons.map bE.enc)] false)/\ fr 11= .ptr ⟨0,11,0⟩ 0/\ en ⟨0,11,0⟩=some (.box [.fz (x.world.objs.map aI.enc),.fz (x.world.tasks.map (.int .i64)),.fz (x.world.outs.map aN.enc),.fz (x.world.ins.map (.int .i64)),.int .i64 x.world.used,.fz (x.ages.map (.int .i64)),.fz (x.marks.map (.int .i64)),.int .i64 x.cycle] false)/\ fr 70= .int .i64 j/\
     e<=2/\ bDl p w 0 3 e j x) 0 (bXl _)
     ⟨_,_,_,s0,0,rfl,by simp only[go_sem,qW],by simp only[go_sem,qW],by simp only[go_sem,qW],by simp only[go_sem,qW],by simp only[go_sem,qW],by simp only[go_sem,qW],by simp only[go_sem,qW],by simp only[go_sem,qW],by omega,hR0⟩ ?_
    rintro j st hj ⟨fr,en,cnt,x,e,rfl,h2,h3,h4,h5,e5,h11,e11,h70,he2,hR⟩
    have h':j<1000:=by have:=hR.time;omega
    have hq:decide ((j:Int)<1000)=true:=decide_eq_true (by omega)
    have hR':=aW8 hR hgv hk1 rfl rfl;have hS:=aG6 hp hR.few hsp hR.small hR.ok hm;have hF:=aB0 hp hR'.few hc hR'.small hR'.ok;obtain⟨g13,hg13⟩: ∃g,g=cnt 0 13:=⟨_,rfl⟩
    cases hE:gJ x k with
    |false=>
     rw[hE]at hS hR';rw[if_neg (by decide)]at hR'
     simp only[go_sem,qC,qG,qW,hq,h2,h3,h4,h5,e5,h11,e11,h70,<-hg13,hS.ret,hF.ret]
     refine⟨h',_,_,_,bI x k,e,rfl,?_⟩
     simp only[go_sem,qC,qG,qW,hq,h2,h3,h4,h5,e5,h11,e11,h70,aJ h' (show Few 1000 by unfold Few;omega)]
     exact⟨he2,hR'⟩
    |true=>
     rw[hE]at hS hR';rw[if_pos rfl]at hR';have hcy:=hR'.cyc
     by_cases he:e=2
     ·have hc3:(bI x k).cycle=3:=by rw[hcy];omega
      have dc:decide ((bI x k).cycle=3)=true:=decide_eq_true hc3;have hFu:=aQx hR'.few hR'.small hR'.ok hE hc3;obtain⟨hgy,_,_,_,_,_⟩:=eB.1 hR'.ok;have hsy:aY (bI x k).world=true:=by
       have:=hR'.small;simp only[bO,bXb]at this;exact this.1.1
      have hRe:=aG0 (bI x k).world hR'.few.1 hsy (eJ hgy);have hw0f:=hR'.few.1;have hin0:=eJ hgy;obtain⟨r,hr⟩: ∃r:Nat,r=t%(picks.length+1):=⟨_,rfl⟩
      have hrl:r<=picks.length:=by have:=Nat.mod_lt t (show 0<picks.length+1 by omega);omega
      have hrm:(t:Int).tmod ((picks.length+1:Nat):Int)=(r:Int):=by rw[hr];rfl
      have hwt:IntKind.i64.wrap (t:Int)=(t:Int):=bY (by omega)
      have hwl:IntKind.i64.wrap ((picks.length:Int)+1)=((picks.length+1:Nat):Int):=by rw[bY (by omega)];rfl
      have hl0: ¬(((picks.length+1:Nat):Int)=0):=by omega
      have hpt:Few (picks.take r).length:=aBb hpk r;simp only[go_sem,qC,qG,qW,hq,h2,h3,h4,h5,e5,h11,e11,h70,<-hg13,hS.ret,hF.ret,dc,hRe.ret,hwt,hwl,hl0,hrm,pQ,hrl,bXj,<-bZd];generalize picks.take r=l2 at hpt;generalize hwy:(bI x k).world=w0 at hFu hw0f hin0
      refine bD l2.length (fun i st=> ∃fr en cnt x,st=⟨fr,en,cnt⟩/\ fr 3= .int .i64 k/\ fr 5= .ptr ⟨0,5,0⟩ 0/\ en ⟨0,5,0⟩=some (.box [.fz (p.nodes.map aK.enc),.fz (p.funs.map (.int .i64)),.int .i64 p.main,.fz (p.cons.map bE.enc)] false)/\ fr 11= .ptr ⟨0,11,0⟩ 0/\ en ⟨0,11,0⟩=some (.box [.fz (x.world.objs.map aI.enc),.fz (x.world.tasks.map (.int .i64)),.fz (x.world.outs.map aN.enc),.fz (x.world.ins.map (.int .i64)),.int .i64 x.world.used,.fz (x.ages.map (.int .i64)),.fz (x.marks.map (.int .i64)),.int .i64 x.cycle] false)/\ fr 17= .fz ((sX w0).map .bool)/\ fr 110= .fz (l2.map (.int .i64))/\ fr 111= .int .i64 (l2.length:Nat)/\ fr 112= .int .i64 i/\
       aHj p w0 x) 0 (bXl _)
       ⟨_,_,_,bI x k,rfl,by simp only[go_sem,h3],by simp only[go_sem,h5],by simp only[go_sem,e5],by simp only[go_sem,h11],by simp only[go_sem,e11,hwy],by simp only[go_sem,hwy],by simp only[go_sem,qW],by simp only[go_sem,qW],by simp only[go_sem,qW],hFu⟩ ?_
      clear h2 h3 h4 h5 e5 h11 e11 h70 hg13 hR hR' hFu hS hF hE hcy dc hc3 hRe hwy hgy hsy
      rintro i st hi ⟨fr,en,cnt,x,rfl,h3,h5,e5,h11,e11,h17,h110,h111,h112,hFu⟩
      obtain⟨hxf,hxs,hxo,hxc,hxF,hxm⟩:=hFu;have hFu:aHj p w0 x:=⟨hxf,hxs,hxo,hxc,hxF,hxm⟩;simp only[go_sem,qC,qG,qW,h17,h3,h5,e5,h11,e11,h110,h111,h112]
      refine aA (fun hq=>?_) (fun hq=>?_)
      ·have h':i<l2.length:=by simpa using hq
       obtain⟨hgx,_,_,_,_,_⟩:=eB.1 hxo;have hF0:=bAw hgx;have hT:=bDs hfm hsp hF0 l2[i];have hF:=aJp hfm hF0 l2[i];have hF2:=aJp hfm hxF l2[i];have hA:=aQ7 hp hxf hsp hxs hxo hF;have hne:=aQ6 p x.world l2[i];generalize hd:nW p x.world l2[i]=d at hT hF hF2 hA hne;obtain⟨y,⟨v1,v2,v3,v4⟩,n,er⟩:=d;dsimp only at hT hF hF2 hA hne;obtain⟨g20,hg20⟩: ∃g,g=cnt 0 20:=⟨_,rfl⟩
       obtain⟨g21,hg21⟩: ∃g,g=cnt 0 21:=⟨_,rfl⟩
       obtain⟨g24,hg24⟩: ∃g,g=cnt 0 24:=⟨_,rfl⟩
       obtain⟨g27,hg27⟩: ∃g,g=cnt 0 27:=⟨_,rfl⟩
       by_cases h8:er=8
       ·subst h8;simp only[go_sem,qC,qG,qW,h',h17,h3,h5,e5,h11,e11,h110,h111,h112,<-hg20,<-hg21,<-hg24,<-hg27,hT.ret,hk.ret]
       have hmid: ∃(x':aX) (m:Nat),aHj p w0 x'/\ ((er=0/\ PC L 36 [.agg [.fz (p.nodes.map aK.enc),.fz (p.funs.map (.int .i64)),.int .i64 p.main,.fz (p.cons.map bE.enc)],.agg [.fz (x.world.objs.map aI.enc),.fz (x.world.tasks.map (.int .i64)),.fz (x.world.outs.map aN.enc),.fz (x.world.ins.map (.int .i64)),.int .i64 x.world.used,.fz (x.ages.map (.int .i64)),.fz (x.marks.map (.int .i64)),.int .i64 x.cycle],.agg [.fz (y.objs.map aI.enc),.fz (y.tasks.map (.int .i64)),.fz (y.outs.map aN.enc),.fz (y.ins.map (.int .i64)),.int .i64 y.used]] (.tup [.agg [.fz (x'.world.objs.map aI.enc),.fz (x'.world.tasks.map (.int .i64)),.fz (x'.world.outs.map aN.enc),.fz (x'.world.ins.map (.int .i64)),.int .i64 x'.world.used,.fz (x'.ages.map (.int .i64)),.fz (x'.marks.map (.int .i64)),.int .i64 x'.cycle],.int .i64 m,.int .i64 0])) \/(er=5/\ x'=x)):=by
        rcases hne with h0|h0|h0
        ·obtain⟨a1,a2,a3,a4,a5,a6⟩:=hA;exact⟨_,_,aXg hFu hF2 hF (aDg (aCd hsp hF.ok)) (aCd hsp hF.ok),.inl ⟨h0,a6⟩⟩
        ·exact⟨x,0,hFu,.inr ⟨h0,rfl⟩⟩
        ·exact absurd h0 h8
       obtain⟨x',m,hFx,hcase⟩:=hmid;have b1:=hFx.few;have b2:=hFx.small;have b3:=hFx.ok;have hX:=aB0 hp b1 hc b2 b3;have hS:=aG6 hp b1 hsp b2 b3 hm;have hfy:=vC (k:=k) b1 b2 b3;have hsy:=sJ (most:=k) b3 b2;have hty:=sI (most:=k) b3;have hY:=aB0 hp hfy hc hsy hty;have hwi:IntKind.i64.wrap ((i:Int)+1)=((i+1:Nat):Int):=aJ h' hpt;cases hE:gJ x' k with
       |true=>
        rw[hE]at hS;have hAl:=aOx hFx hin0 hw0f hE;rcases hcase with⟨rfl,hR⟩|⟨rfl,rfl⟩
        ·simp only[go_sem,qC,qG,qW,h',h17,h3,h5,e5,h11,e11,h110,h111,h112,<-hg20,<-hg21,<-hg24,<-hg27,hT.ret,hk.ret,hS.ret,hX.ret,hY.ret,hR.ret,hAl.ret]
        ·simp only[go_sem,qC,qG,qW,h',h17,h3,h5,e5,h11,e11,h110,h111,h112,<-hg20,<-hg21,<-hg24,<-hg27,hT.ret,hk.ret,hS.ret,hX.ret,hY.ret,hAl.ret]
       |false=>
        rw[hE]at hS;have hN:=(aHk hFx hE).1;rcases hcase with⟨rfl,hR⟩|⟨rfl,rfl⟩
        ·simp only[go_sem,qC,qG,qW,h',h17,h3,h5,e5,h11,e11,h110,h111,h112,<-hg20,<-hg21,<-hg24,<-hg27,hT.ret,hS.ret,hX.ret,hY.ret,hR.ret]
         refine⟨_,_,_,bI x' k,rfl,?_⟩
         simp only[go_sem,qC,qG,qW,h',h17,h3,h5,e5,h11,e11,h110,h111,h112,<-hg20,<-hg21,<-hg24,<-hg27,hT.ret,hwi];exact hN
        ·simp only[go_sem,qC,qG,qW,h',h17,h3,h5,e5,h11,e11,h110,h111,h112,<-hg20,<-hg21,<-hg24,<-hg27,hT.ret,hS.ret,hX.ret,hY.ret]
         refine⟨_,_,_,bI x' k,rfl,?_⟩
         simp only[go_sem,qC,qG,qW,h',h17,h3,h5,e5,h11,e11,h110,h111,h112,<-hg20,<-hg21,<-hg24,<-hg27,hT.ret,hwi];exact hN
      ·simp only[go_sem,qC,qG,qW,h17,h3,h5,e5,h11,e11,h110,h111,h112]
       refine bD 200 (fun j st=> ∃fr en cnt x,st=⟨fr,en,cnt⟩/\ fr 3= .int .i64 k/\ fr 5= .ptr ⟨0,5,0⟩ 0/\ en ⟨0,5,0⟩=some (.box [.fz (p.nodes.map aK.enc),.fz (p.funs.map (.int .i64)),.int .i64 p.main,.fz (p.cons.map bE.enc)] false)/\ fr 11= .ptr ⟨0,11,0⟩ 0/\ en ⟨0,11,0⟩=some (.box [.fz (x.world.objs.map aI.enc),.fz (x.world.tasks.map (.int .i64)),.fz (x.world.outs.map aN.enc),.fz (x.world.ins.map (.int .i64)),.int .i64 x.world.used,.fz (x.ages.map (.int .i64)),.fz (x.marks.map (.int .i64)),.int .i64 x.cycle] false)/\ fr 17= .fz ((sX w0).map .bool)/\ fr 174= .int .i64 j/\ aHj p w0 x/\ eW x.marks+j<=120) 0 (bXl _)
        ⟨_,_,_,x,rfl,by simp only[go_sem,h3],by simp only[go_sem,h5],by simp only[go_sem,e5],by simp only[go_sem,h11],by simp only[go_sem,e11],by simp only[go_sem,h17],by simp only[go_sem,qW],hFu,by have:=aG7 x.marks;have:=(tT hxo).1;omega⟩ ?_
       clear h3 h5 e5 h11 e11 h17 h110 h111 h112 hxf hxs hxo hxc hxF hxm hFu
       rintro j st hj ⟨fr,en,cnt,x,rfl,h3,h5,e5,h11,e11,h17,h174,hFx,hb⟩
       have h':j<200:=by omega
       have hq:decide ((j:Int)<200)=true:=decide_eq_true (by omega)
       have b1:=hFx.few;have b2:=hFx.small;have b3:=hFx.ok;have hS:=aG6 hp b1 hsp b2 b3 hm;have hfy:=vC (k:=k) b1 b2 b3;have hsy:=sJ (most:=k) b3 b2;have hty:=sI (most:=k) b3;have hY:=aB0 hp hfy hc hsy hty;obtain⟨g31,hg31⟩: ∃g,g=cnt 0 31:=⟨_,rfl⟩
       cases hE:gJ x k with
       |true=>
        rw[hE]at hS;have hAl:=aOx hFx hin0 hw0f hE;simp only[go_sem,qC,qG,qW,hq,h17,h3,h5,e5,h11,e11,h174,<-hg31,hk.ret,hS.ret,hY.ret,hAl.ret]
       |false=>
        rw[hE]at hS;obtain⟨hN,hN2⟩:=aHk hFx hE;simp only[go_sem,qC,qG,qW,hq,h17,h3,h5,e5,h11,e11,h174,<-hg31,hS.ret,hY.ret]
        refine⟨h',_,_,_,bI x k,rfl,?_⟩
        simp only[go_sem,qC,qG,qW,h17,h3,h5,e5,h11,e11,h174,aJ h' (show Few 200 by unfold Few;omega)]
        exact⟨hN,by omega⟩
     ·have dc:decide ((bI x k).cycle=3)=false:=decide_eq_false (by rw[hcy];omega)
      simp only[go_sem,qC,qG,qW,hq,h2,h3,h4,h5,e5,h11,e11,h70,<-hg13,hS.ret,hF.ret,dc]
      refine⟨h',_,_,_,bI x k,e+1,rfl,?_⟩
      simp only[go_sem,qC,qG,qW,hq,h2,h3,h4,h5,e5,h11,e11,h70,aJ h' (show Few 1000 by unfold Few;omega)]
      exact⟨by omega,hR'⟩
   ·rw[bYf]at hm;rw[hm]at hMo;simp only[go_sem,qC,qG,qW,aMy,hG.ret,hWo.ret,hk.ret,d12,hMo.ret]
  ·rw[bYf]at hgv;rw[hgv]at hWo;simp only[go_sem,qC,qG,qW,aMy,hG.ret,hWo.ret,hk.ret]
 ·rw[bYf]at hg;rw[hg]at hG;simp only[go_sem,qC,qG,qW,aMy,hG.ret,hk.ret]
end Go.Proofs.YthpmfghgoabnhaaGreat
namespace Go.Proofs.YthpmfghgoabnhaaGreat
open Go.Abs Go.Proofs
open Go.ChangeShapes Go.WideShapes Go.ChangeAt Go.RowKit
set_option maxRecDepth 100000
theorem aLw {H:Type}{enc:TypeId×Value->H}{P:Program}{w:World}{base:Nat}{spare:Nat->Bool}{held:Bool}{t0 t1 t2 t3 t4:TypeId}{args:Array Value}{ds:List (DataW H)}{ps:List MemPlace}(h:DataW.TrodAll enc P w base spare held [t0,t1,t2,t3,t4] args.toList ds ps):
  ∃v0 v1 v2 v3 v4 d0 d1 d2 d3 d4 p0 p1 p2 p3 p4,args= #[v0,v1,v2,v3,v4]/\ ds=[d0,d1,d2,d3,d4]/\ ps=p0++(p1++(p2++(p3++p4)))/\ DataW.Trod enc P w base spare held t0 v0 d0 p0/\ DataW.Trod enc P w base spare held t1 v1 d1 p1/\ DataW.Trod enc P w base spare held t2 v2 d2 p2/\ DataW.Trod enc P w base spare held t3 v3 d3 p3/\ DataW.Trod enc P w base spare held t4 v4 d4 p4:=by
 obtain⟨v0,l0,d0,e0,p0,q0,ha,rfl,rfl,h0,r0⟩:=trodAll_cons h;obtain⟨v1,l1,d1,e1,p1,q1,rfl,rfl,rfl,h1,r1⟩:=trodAll_cons r0;obtain⟨v2,l2,d2,e2,p2,q2,rfl,rfl,rfl,h2,r2⟩:=trodAll_cons r1;obtain⟨v3,l3,d3,e3,p3,q3,rfl,rfl,rfl,h3,r3⟩:=trodAll_cons r2;obtain⟨v4,l4,d4,e4,p4,q4,rfl,rfl,rfl,h4,r4⟩:=trodAll_cons r3;obtain⟨rfl,rfl,rfl⟩:=trodAll_nil r4;exact⟨v0,v1,v2,v3,v4,d0,d1,d2,d3,d4,p0,p1,p2,p3,p4,by cases args;simp_all,rfl,by simp,h0,h1,h2,h3,h4⟩
theorem aLx (hk:PC L 17 [] (.bool true))(os:Os)(started:os.Started)(H:Type)(enc:TypeId×Value->H):
  ReturnsInHanded {} Tryz.checked os 13 .any (Rows.reapFreshSpec.pre6 enc Tryz.prog Tryz.f13 Rows.reapFreshRow.domain false) (Rows.reapFreshSpec.post enc Tryz.prog Tryz.f13 false true false false):=by
 refine returnsInHanded_of_change (C:=Tryz.checked) own started (by kernel_rfl) Tryz.func13
  (ChangeSpec.witness6 (enc:=enc) (C:=Tryz.checked) false ⟨#[],#[.agg #[.slice none 0 0,.slice none 0 0,.int .i64 0,.slice none 0 0],.agg #[.slice none 0 0,.slice none 0 0,.slice none 0 0,.slice none 0 0,.int .i64 0],.slice none 0 0,.int .i64 0,.int .u8 0],[]⟩ 8 (by kernel_rfl) (by kernel_rfl) (by kernel_rfl) (by kernel_rfl)) ?_
 intro W base args ds gs before hval0 hW hcnd _;have hval: ∀(j:Nat) t v,Tryz.f13.params[j]?=some t->args[j]?=some v->Value.okWide Tryz.prog W .any base t v:=hval0
 have hW':=hW;obtain⟨p,q,hA0,hV,rfl,hfz,hnd⟩:=hW;have hA:DataW.TrodAll enc Tryz.prog W 0 (fun _=>true) true Tryz.f13.params.toList args.toList ds p:=hA0
 rw[Tryz.params13]at hA hval;obtain⟨v0,v1,v2,v3,v4,d0,d1,d2,d3,d4,p0,p1,p2,p3,p4,rfl,rfl,rfl,h0,h1,h2,h3,h4⟩:=aLw hA;obtain⟨rfl,rfl⟩:=trodVars_none hV;have a0:=hval 0 26 v0 rfl rfl;have a1:=hval 1 30 v1 rfl rfl;have a2:=hval 2 23 v2 rfl rfl;simp only[Value.okWide,Tryz.underlying26,Tryz.underlying30]at a0 a1;obtain⟨n0,x0,f0,r0⟩:=aNj (of_decide_eq_true (by kernel_rfl)) (by decide) (a0.imp fun _ h=>h.1) h0
 obtain⟨n1,x1,f1,r1⟩:=aNj (of_decide_eq_true (by kernel_rfl)) (by decide) (a1.imp fun _ h=>h.1) h1
 obtain⟨l,fl,r2⟩:=aWk (aZt a2) h2;obtain⟨c,rfl,rfl,rfl,wc⟩:=open_int Tryz.underlying3 (hval 3 3 v3 rfl rfl) h3;obtain⟨u,rfl,rfl,rfl,wu⟩:=open_int Tryz.underlying5 (hval 4 5 v4 rfl rfl) h4;obtain⟨pr,rfl,fpr⟩:=aPt (n:=n0+3) f0;obtain⟨w,rfl,fw⟩:=aNh (n:=n1+1) f1;obtain⟨k,rfl,hk5⟩: ∃k:Nat,u=k/\ k<=255:=by
  simp only[Lit.wf,bXb]at wu;have h1:(0:Int)<=u:=of_decide_eq_true wu.1;have h2:u<=255:=of_decide_eq_true wu.2;exact⟨u.toNat,by omega,by omega⟩
 clear hA0 hval0;obtain⟨n,hn⟩:=aDj hk pr w l c k fpr fw fl hk5
 refine(aPi bMl bVh (hn n (bXd _)) (S:=aD1 W) (w:=W) (vals:= #[v0,v1,v2,.int .i64 c,.int .u8 k]) (fun _ _ h=>h) rfl (fun i hi=>?_)).mono fun e W' ⟨he,hb⟩=>?_
 ·match i,hi with
  |0,_=>exact r0
  |1,_=>exact r1
  |2,_=>exact r2
  |3,_=>exact .int _ _
  |4,_=>exact .int _ _
 ·subst he;exact⟨_,rfl,aY0 (bt:=4) hW' rfl (by kernel_rfl) Tryz.underlying4 rfl aKt (fun t ht=>by
   rw[Tryz.params13]at ht;simp only[bYe,List.not_mem_nil,or_false]at ht;rcases ht with rfl|rfl|rfl|rfl|rfl<;>exact⟨by kernel_rfl,of_decide_eq_true (by kernel_rfl)⟩) hb⟩
end Go.Proofs.YthpmfghgoabnhaaGreat
