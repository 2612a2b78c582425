/- Contracts of functions of the program and of the document: part 12. -/
import Derived.Test.YtmafmhjndjmalaaGreatM5s
set_option linter.all false
open Bool renaming and_eq_true -> bSw, and_false -> bT6, and_true -> bUc, not_false -> bTf, not_true -> bS6, true_and -> bTo
open Int renaming eq_ofNat_of_zero_le -> bTs, not_lt -> bUe, toNat_natCast -> bTt
open List renaming getD_eq_getElem?_getD -> bSz, getElem?_append_left -> bUy, getElem?_eq_getElem -> bTy, getElem?_map -> bVy, getElem?_set_ne -> bWc, getElem_mem -> bS7, length_append -> bTg, length_map -> bSy, length_set -> bUs, length_singleton -> bVn, map_cons -> bTv, map_nil -> bTe, map_take -> bUd, mem_append_right -> bUn, mem_flatMap -> bUa, prefix_refl -> bUp
open Nat renaming le_refl -> bSx, le_trans -> bS9, lt_of_lt_of_le -> bTm, lt_or_ge -> bT5, zero_le -> bS4
namespace Go.Abs
inductive aDc (w w':aA) (u:aE) (act:Int) (ev:aE):Prop
 |same (h:w'.objs=w.objs) (h16: ¬act=16) (h18: ¬act=18)
 |more (o:aP) (h:w'.objs=w.objs++[o]) (ho: ¬o.form=3) (h16: ¬act=16) (h18: ¬act=18)
 |cell (v:aE) (h:w'.objs=w.objs++[⟨3,0,[v],[]⟩]) (ha:act=16) (he:ev=nG v)
 |chan (o:aP) (hu:cG w u 4=true) (h:w'.objs=w.objs.set u.n.toNat o) (ho:o.form=4) (h16: ¬act=16) (h18: ¬act=18)
 |put (v:aE) (hu:cG w u 3=true) (h:w'.objs=w.objs.set u.n.toNat ⟨3,0,[v],[]⟩) (ha:act=18) (he:ev=nG v)
structure bE2 (w w':aA) (e:fB):Prop where
 outs:(e.act=24/\ w'.outs=w.outs++[⟨e.n,e.v.n⟩]) \/(¬e.act=24/\ w'.outs=w.outs)
 used:(e.act=25/\ w'.used=w.used+1) \/(¬e.act=25/\ w'.used=w.used)
 tasks:w.tasks<+:w'.tasks
def Eff (w:aA)(u:aE):OpR->Prop
 | .go none w' _ _=>aDc w w' u 0 iV
 | .go (some e) w' _ back=>aDc w w' u e.act e.v/\ bE2 w w' e/\ back.length=1
 |_=>True
variable {w' w:aA}{l:List aB}{env:List aE}{node a:Int}{u:aE}
section
variable {left:List aB}
theorem vF (h:w'.objs=w.objs):aDc w w' u 0 iV:= .same h (of_decide_eq_false rfl) (of_decide_eq_false rfl)
theorem bBl {v:aE}:Eff w u (jD w left v):=vF rfl
theorem bE3 (h:aDc w w' u 0 iV):Eff w u (oY w' left l):=by
 unfold oY;split
 ·trivial
 ·exact h
theorem aQu (h:aDc w w' u 0 iV):Eff w u (iX w' left node env):=by
 unfold iX;split
 ·trivial
 ·exact bE3 h
theorem aOm :Eff w u (iX w left node env):=aQu (vF rfl)
theorem aAa {o:aP}{k:aA->aE->OpR}(h:Eff w u (k (eF w o) (dQ w.objs.length))):Eff w u (iE w o k):=by
 unfold iE;split
 ·trivial
 ·exact h
theorem bIl {o:aP}(h: ¬o.form=3):aDc w (eF w o) u 0 iV:= .more o rfl h (of_decide_eq_false rfl) (of_decide_eq_false rfl)
theorem aKe {kids:List Int}{env:List aE}{x:aE}: ∀(l:List Pat) (i:Nat),Eff w u (dY w left kids env x i l)
 |[],i=>trivial
 |q::qs,i=>by
  simp only[dY];split
  ·exact aOm
  ·exact aKe qs (i+1)
theorem aY8 {c:Prop}[Decidable c]{x y:OpR}(hx:c->Eff w u x)(hy: ¬c->Eff w u y):Eff w u (if c then x else y):=by
 by_cases h:c
 ·rw[if_pos h];exact hx h
 ·rw[if_neg h];exact hy h
theorem vG {e:fB}(h1: ¬e.act=24)(h2: ¬e.act=25)(h3:w'.outs=w.outs)(h4:w'.used=w.used)(h5:w.tasks<+:w'.tasks):bE2 w w' e:=⟨.inr ⟨h1,h3⟩,.inr ⟨h2,h4⟩,h5⟩
theorem bHg {p:aD}{f:aB}{n:aL}:Eff w (aF f.vals 0) (opR p w a left f n):=by
 unfold opR
 repeat' (with_reducible refine aY8 (fun _=>?_) (fun _=>?_))
 all_goals try(split<;>(repeat' (with_reducible refine aY8 (fun _=>?_) (fun _=>?_))))
 all_goals first
  |exact bBl
  |exact aOm
  |exact aKe _ _
  |exact aAa (bIl (of_decide_eq_false rfl))
  |exact aAa (aQu (bIl (of_decide_eq_false rfl)))
  |exact vF rfl
  |exact aAa ⟨.cell _ rfl rfl rfl,vG (of_decide_eq_false rfl) (of_decide_eq_false rfl) rfl rfl (bUp _),rfl⟩
  |exact aAa ⟨.more _ rfl (of_decide_eq_false rfl) (of_decide_eq_false rfl) (of_decide_eq_false rfl),vG (of_decide_eq_false rfl) (of_decide_eq_false rfl) rfl rfl (bUp _),rfl⟩
  |exact aAa ⟨.more _ rfl (of_decide_eq_false rfl) (of_decide_eq_false rfl) (of_decide_eq_false rfl),vG (of_decide_eq_false rfl) (of_decide_eq_false rfl) rfl rfl (List.prefix_append _ _),rfl⟩
  |exact⟨.same rfl (of_decide_eq_false rfl) (of_decide_eq_false rfl),vG (of_decide_eq_false rfl) (of_decide_eq_false rfl) rfl rfl (bUp _),rfl⟩
  |exact⟨.put _ (by assumption) rfl rfl rfl,vG (of_decide_eq_false rfl) (of_decide_eq_false rfl) rfl rfl (bUp _),rfl⟩
  |exact⟨.chan _ (by assumption) rfl rfl (of_decide_eq_false rfl) (of_decide_eq_false rfl),vG (of_decide_eq_false rfl) (of_decide_eq_false rfl) rfl rfl (bUp _),rfl⟩
  |exact⟨.same rfl (of_decide_eq_false rfl) (of_decide_eq_false rfl),⟨.inr ⟨(of_decide_eq_false rfl),rfl⟩,.inl ⟨rfl,rfl⟩,bUp _⟩,rfl⟩
  |trivial
  |skip
 rename_i h1 h2
 refine⟨.same rfl (of_decide_eq_false rfl) (of_decide_eq_false rfl),⟨.inl ⟨rfl,?_⟩,.inr ⟨(of_decide_eq_false rfl),rfl⟩,bUp _⟩,rfl⟩
 have hk:(aF f.vals 0).kind=1:=Decidable.not_not.1 h1;simp only[nG,hk];rfl
end
def Hit (w:aA)(a:Int)(d:Did)(i:Nat):Prop:=(d.e.act=16/\ i=w.objs.length) \/(d.e.act=18/\ (i:Int)=(aF ((w.obj (aX w a)).frames.getD ((w.obj (aX w a)).frames.length-1) dJ).vals 0).n)
structure aX1 (w:aA) (a:Int) (d:Did):Prop where
 len:w.objs.length<=d.w.objs.length
 cell: ∀i:Nat,i<d.w.objs.length->(d.w.obj i).form=3-> ¬Hit w a d i->i<w.objs.length/\ d.w.obj i=w.obj i
 hit: ∀i:Nat,Hit w a d i->i<d.w.objs.length/\ ∃v,d.w.obj i=⟨3,0,[v],[]⟩/\ d.e.v=nG v
 outs:(d.e.act=24/\ d.w.outs=w.outs++[⟨d.e.n,d.e.v.n⟩]) \/(¬d.e.act=24/\ d.w.outs=w.outs)
 used:(d.e.act=25/\ d.w.used=w.used+1) \/(¬d.e.act=25/\ d.w.used=w.used)
 task: ∀i:Nat,i<w.objs.length->(w.obj i).form=6-> ¬(i:Int)=aX w a->d.w.obj i=w.obj i
 own:d.what=1-> ¬d.w.obj (aX w a)=w.obj (aX w a)
 act0: ¬d.what=1->d.e.act=0
variable {act:Int}{ev:aE}
theorem bHh (h:aDc w w' u act ev)(hu:u.kind=5->inR u.n 0 ((w.objs.length:Int)-1)=true):
  w.objs.length<=w'.objs.length/\
  (∀i:Nat,i<w'.objs.length->(w'.obj i).form=3-> ¬((act=16/\ i=w.objs.length) \/(act=18/\ (i:Int)=u.n))->i<w.objs.length/\ w'.obj i=w.obj i)/\
  (∀i:Nat,((act=16/\ i=w.objs.length) \/(act=18/\ (i:Int)=u.n))->i<w'.objs.length/\ ∃v,w'.obj i=⟨3,0,[v],[]⟩/\ ev=nG v)/\
  (∀i:Nat,i<w.objs.length->(w.obj i).form=6->w'.obj i=w.obj i):=by
 have ob: ∀(x:aA) (i:Nat),x.obj (i:Int)=x.objs.getD i default:=fun x i=>by simp[aA.obj]
 have io: ∀k,cG w u k=true->u.kind=5/\ (w.obj u.n).form=k:=fun k h=>by
  simp only[cG,bSw,bWo]at h;exact h
 cases h with
 |same h h16 h18=>
  simp only[ob,h];exact⟨bSx _,fun i hi _ _=>⟨hi,by trivial⟩,fun i hi=>hi.elim (fun x=>absurd x.1 h16) (fun x=>absurd x.1 h18),fun i _ _=>by trivial⟩
 |more o h ho h16 h18=>
  simp only[ob,h,bTg,bVn]
  refine⟨Nat.le_succ _,fun i hi hf _=>?_,fun i hi=>hi.elim (fun x=>absurd x.1 h16) (fun x=>absurd x.1 h18),fun i hi _=>?_⟩
  ·rcases bT5 i w.objs.length with hl|hl
   ·exact⟨hl,by simp[bSz,bUy hl]⟩
   ·obtain rfl:i=w.objs.length:=by omega
    simp[bSz]at hf;exact absurd hf ho
  ·simp[bSz,bUy hi]
 |cell v h ha he=>
  subst ha;simp only[ob,h,bTg,bVn]
  refine⟨Nat.le_succ _,fun i hi hf hn=>?_,fun i hi=>?_,fun i hi _=>?_⟩
  ·have hl:i<w.objs.length:=by
    rcases bT5 i w.objs.length with hl|hl
    ·exact hl
    ·exact absurd (.inl ⟨by trivial,by omega⟩) hn
   exact⟨hl,by simp[bSz,bUy hl]⟩
  ·rcases hi with⟨_,rfl⟩|⟨hi,_⟩
   ·exact⟨by omega,v,by simp[bSz],he⟩
   ·exact absurd hi (of_decide_eq_false rfl)
  ·simp[bSz,bUy hi]
 |chan o hu' h ho h16 h18=>
  obtain⟨k5,hf4⟩:=io 4 hu';have hr:=hu k5;simp only[inR,bWo]at hr;obtain⟨n,hn⟩:=bTs hr.1;rw[hn]at h hf4 hr;have hnl:n<w.objs.length:=by omega
  rw[ob]at hf4;simp only[ob,h,bUs,bTt]
  refine⟨bSx _,fun i hi hf _=>⟨hi,?_⟩,fun i hi=>hi.elim (fun x=>absurd x.1 h16) (fun x=>absurd x.1 h18),fun i hi hf=>?_⟩
  ·rcases Decidable.em (n=i)with rfl|hni
   ·simp[bSz,hnl,ho]at hf
   ·simp[bSz,bWc hni]
  ·rcases Decidable.em (n=i)with rfl|hni
   ·rw[hf4]at hf;exact absurd hf (of_decide_eq_false rfl)
   ·simp[bSz,bWc hni]
 |put v hu' h ha he=>
  subst ha;obtain⟨k5,hf3⟩:=io 3 hu';have hr:=hu k5;simp only[inR,bWo]at hr;obtain⟨n,hn⟩:=bTs hr.1;rw[hn]at h hf3 hr;have hnl:n<w.objs.length:=by omega
  rw[ob]at hf3;simp only[ob,h,bUs,bTt,hn]
  refine⟨bSx _,fun i hi hf hx=>⟨hi,?_⟩,fun i hi=>?_,fun i hi hf=>?_⟩
  ·rcases Decidable.em (n=i)with rfl|hni
   ·exact absurd (.inr ⟨by trivial,by trivial⟩) hx
   ·simp[bSz,bWc hni]
  ·rcases hi with⟨hi,_⟩|⟨_,hi⟩
   ·exact absurd hi (of_decide_eq_false rfl)
   ·obtain rfl:i=n:=by omega
    exact⟨hnl,v,by simp[bSz,hnl],he⟩
  ·rcases Decidable.em (n=i)with rfl|hni
   ·rw[hf3]at hf;exact absurd hf (of_decide_eq_false rfl)
   ·simp[bSz,bWc hni]
variable {t:Nat}
theorem aOn {b:List aE}{s:Int}(h:aDc w w' u act ev)(hu:u.kind=5->inR u.n 0 ((w.objs.length:Int)-1)=true)(ht:t<w.objs.length)(hf:(w.obj t).form=6):
  w.objs.length<=(dD w' t ⟨6,s,b,l⟩).objs.length/\
  (∀i:Nat,i<(dD w' t ⟨6,s,b,l⟩).objs.length->((dD w' t ⟨6,s,b,l⟩).obj i).form=3-> ¬((act=16/\ i=w.objs.length) \/(act=18/\ (i:Int)=u.n))->i<w.objs.length/\ (dD w' t ⟨6,s,b,l⟩).obj i=w.obj i)/\
  (∀i:Nat,((act=16/\ i=w.objs.length) \/(act=18/\ (i:Int)=u.n))->i<(dD w' t ⟨6,s,b,l⟩).objs.length/\ ∃v,(dD w' t ⟨6,s,b,l⟩).obj i=⟨3,0,[v],[]⟩/\ ev=nG v)/\
  (∀i:Nat,i<w.objs.length->(w.obj i).form=6-> ¬i=t->(dD w' t ⟨6,s,b,l⟩).obj i=w.obj i)/\ (dD w' t ⟨6,s,b,l⟩).obj t=⟨6,s,b,l⟩:=by
 obtain⟨a1,a2,a3,a4⟩:=bHh h hu;have hl:(dD w' t ⟨6,s,b,l⟩).objs.length=w'.objs.length:=by simp[dD]
 have hot:(dD w' t ⟨6,s,b,l⟩).obj t=⟨6,s,b,l⟩:=by simp[aA.obj,dD,bTm ht a1]
 have hne: ∀i:Nat,¬i=t->(dD w' t ⟨6,s,b,l⟩).obj i=w'.obj i:=fun i hi=>aSq (by simpa using hi)
 rw[hl]
 refine⟨a1,fun i hi h3 hx=>?_,fun i hx=>?_,fun i hi h6 hit=>(hne i hit).trans (a4 i hi h6),hot⟩
 ·have: ¬i=t:=fun e=>by rw[e,hot]at h3;exact absurd h3 (of_decide_eq_false rfl)
  rw[hne i this]at h3⊢;exact a2 i hi h3 hx
 ·obtain⟨b1,v,b2,b3⟩:=a3 i hx;have: ¬i=t:=fun e=>by
   rw[e,a4 t ht hf]at b2;rw[b2]at hf;exact absurd hf (of_decide_eq_false rfl)
  exact⟨b1,v,by rw[hne i this];exact b2,b3⟩
theorem bE4 {R:OpR}(hT:aX w a=(t:Int))(ht:t<w.objs.length)(hf:(w.obj t).form=6)(ha:inR a 0 ((w.tasks.length:Int)-1)=true)
  (hn:(w.obj t).n=0) (hv: ¬(w.obj t).vals.length=1) (u:aE) (hue:u=aF ((w.obj t).frames.getD ((w.obj t).frames.length-1) dJ).vals 0) (hu:u.kind=5->inR u.n 0 ((w.objs.length:Int)-1)=true)
  (h:Eff w u R) (hc:Calm w a R):aX1 w a (R.did w a):=by
 have hit: ∀{d:Did} {i:Nat},Hit w a d i->((d.e.act=16/\ i=w.objs.length) \/(d.e.act=18/\ (i:Int)=u.n)):=fun h=>by
  unfold Hit at h;rw[hT,<-hue]at h;exact h
 have hit': ∀{d:Did} {i:Nat},((d.e.act=16/\ i=w.objs.length) \/(d.e.act=18/\ (i:Int)=u.n))->Hit w a d i:=fun h=>by
  unfold Hit;rw[hT,<-hue];exact h
 have ta: ∀{w':aA},w.tasks<+:w'.tasks->aX w' a=(t:Int):=fun{w'} hp=>by
  rw[<-hT];obtain⟨l,hl⟩:=hp;simp only[inR,bWo]at ha;unfold aX;rw[<-hl,bSz,bSz,bUy (by omega)]
 cases R with
 |wait=>exact⟨bSx _,fun i hi _ _=>⟨hi,rfl⟩,fun i hi=>by rcases hit hi with h|h<;>exact absurd h.1 (of_decide_eq_false rfl),.inr ⟨by show¬(0:Int)=24;decide,rfl⟩,.inr ⟨by show¬(0:Int)=25;decide,rfl⟩,fun _ _ _ _=>rfl,fun h=>absurd (show(2:Int)=1 from h) (of_decide_eq_false rfl),fun _=>rfl⟩
 |fail s=>
  have he:(OpR.did w a (.fail s))=⟨dD w t ⟨6,s,[],[]⟩,1,⟨a,0,s,iV⟩⟩:=by simp only[OpR.did,bG,hT]
  rw[he];obtain⟨b1,b2,b3,b4,b5⟩:=aOn (s:=s) (b:=[]) (l:=[]) (u:=u) (vF (w:=w) (w':=w) rfl) hu ht hf
  refine⟨b1,fun i hi h3 _=>b2 i hi h3 (by rintro(h|h)<;>exact absurd h.1 (of_decide_eq_false rfl)),fun i hi=>by rcases hit hi with h|h<;>exact absurd (show(0:Int)=_ from h.1) (of_decide_eq_false rfl),.inr ⟨by show¬(0:Int)=24;decide,rfl⟩,.inr ⟨by show¬(0:Int)=25;decide,rfl⟩,fun i hi h6 hx=>b4 i hi h6 (fun e=>hx (by rw[hT,e])),fun _=>?_,fun h=>absurd rfl h⟩
  rw[hT,b5];intro e;rw[<-e]at hn;exact hc hn
 |go ev w' left back=>
  cases ev with
  |none=>
   have he:(OpR.did w a (.go none w' left back))=⟨dD w' t ⟨6,0,back,left⟩,0,eM⟩:=by simp only[OpR.did,ta (by rw[hc.1];exact bUp _)]
   rw[he];obtain⟨b1,b2,b3,b4,b5⟩:=aOn (s:=0) (b:=back) (l:=left) h hu ht hf
   refine⟨b1,fun i hi h3 _=>b2 i hi h3 (by rintro(h|h)<;>exact absurd h.1 (of_decide_eq_false rfl)),fun i hi=>by rcases hit hi with h|h<;>exact absurd (show(0:Int)=_ from h.1) (of_decide_eq_false rfl),.inr ⟨by show¬(0:Int)=24;decide,hc.2.2.1⟩,.inr ⟨by show¬(0:Int)=25;decide,hc.2.2.2.2⟩,fun i hi h6 hx=>b4 i hi h6 (fun e=>hx (by rw[hT,e])),fun h=>absurd (show(0:Int)=1 from h) (of_decide_eq_false rfl),fun _=>rfl⟩
  |some e=>
   obtain⟨h1,h2,h3⟩:=h;have he:(OpR.did w a (.go (some e) w' left back))=⟨dD w' t ⟨6,0,back,left⟩,1,e⟩:=by simp only[OpR.did,ta h2.tasks]
   rw[he];obtain⟨b1,b2,b3,b4,b5⟩:=aOn (s:=0) (b:=back) (l:=left) h1 hu ht hf
   refine⟨b1,fun i hi hx hn=>b2 i hi hx (fun h=>hn (hit' h)),fun i hi=>b3 i (hit hi),h2.outs,h2.used,fun i hi h6 hx=>b4 i hi h6 (fun e=>hx (by rw[hT,e])),fun _=>?_,fun h=>absurd rfl h⟩
   rw[hT,b5];intro e;rw[<-e]at hv;exact hv h3
end Go.Abs
namespace Go.Proofs.YtmafmhjndjmalaaGreat
open Go.Abs Go.Proofs
variable {a:Nat}{p:aD}{w:aA}
theorem aLa (hg:bJ p w=true)(ha:a<w.tasks.length):aX1 w a (aM p w a):=by
 have hgw:cJ p w=true:=by simp only[bJ,bSw]at hg;exact hg.2
 have hia:inR (a:Int) 0 ((w.tasks.length:Int)-1)=true:=by simp only[inR,bWo];omega
 have htk:=(cH.1 hgw).2.2.2.2.1;simp only[gS,bSw]at htk;obtain⟨hd1,_⟩:=lY w _ _ htk.2;have hti:=hd1 _ (xH hia);simp only[inR,bWo]at hti;obtain⟨t,hT⟩:=bTs hti.1.1;rw[hT]at hti;have ht:t<w.objs.length:=by omega
 have hf:(w.obj (t:Int)).form=6:=D_o hti.2;have hin:xZ w:=fun o ho x hx=>aUz hg o ho x ((aMy _ _).2 hx)
 have hu: ∀v∈((w.obj (t:Int)).frames.getD ((w.obj (t:Int)).frames.length-1) dJ).vals,v.kind=5->inR v.n 0 ((w.objs.length:Int)-1)=true:=fun v hv h5=>by
  have hfl:0<(w.obj (t:Int)).frames.length:=by
   cases hfr:(w.obj (t:Int)).frames with
   |nil=>rw[hfr]at hv;cases hv
   |cons=>simp
  rw[bSz,bTy (by omega)]at hv
  have hom:w.obj (t:Int)∈w.objs:=by rw[qJ ht];exact bS7 _
  exact hin _ hom _ (aK7 (bUn _ (bUa.2 ⟨_,bS7 _,bUn _ hv⟩)) h5)
 have hu0:(aF ((w.obj (t:Int)).frames.getD ((w.obj (t:Int)).frames.length-1) dJ).vals 0).kind=5->inR (aF ((w.obj (t:Int)).frames.getD ((w.obj (t:Int)).frames.length-1) dJ).vals 0).n 0 ((w.objs.length:Int)-1)=true:=by
  generalize ((w.obj (t:Int)).frames.getD ((w.obj (t:Int)).frames.length-1) dJ).vals=vs at hu⊢;cases vs with
  |nil=>intro h;exact absurd (show(0:Int)=5 from h) (of_decide_eq_false rfl)
  |cons v vs=>exact hu v (by simp)
 have hcalm:=sR (p:=p) (w:=w) (a:=(a:Int)) (by omega) hia
 revert hcalm
 unfold aM;simp only[hT];intro hcalm;split
 ·exact⟨bSx _,fun i hi _ _=>⟨hi,rfl⟩,fun i hi=>by rcases hi with h|h<;>exact absurd (show(0:Int)=_ from h.1) (of_decide_eq_false rfl),.inr ⟨by show¬(0:Int)=24;decide,rfl⟩,.inr ⟨by show¬(0:Int)=25;decide,rfl⟩,fun _ _ _ _=>rfl,fun h=>absurd (show(2:Int)=1 from h) (of_decide_eq_false rfl),fun _=>rfl⟩
 rename_i hn;have hn:(w.obj (t:Int)).n=0:=Decidable.not_not.1 hn;have z16: ∀i:Nat,¬(((0:Int)=16/\ i=w.objs.length) \/((0:Int)=18/\ (i:Int)=(aF ((w.obj (t:Int)).frames.getD ((w.obj (t:Int)).frames.length-1) dJ).vals 0).n)):=fun i h=>by rcases h with h|h<;>exact absurd h.1 (of_decide_eq_false rfl)
 split
 ·rename_i h1;split
  ·obtain⟨b1,b2,b3,b4,b5⟩:=aOn (s:=1) (b:=[aF (w.obj (t:Int)).vals 0]) (l:=[]) (vF (w:=w) (w':=w) rfl) hu0 ht hf
   refine⟨b1,fun i hi h3 _=>b2 i hi h3 (z16 i),fun i hi=>by rcases hi with h|h<;>exact absurd (show(0:Int)=_ from h.1) (of_decide_eq_false rfl),.inr ⟨by show¬(0:Int)=24;decide,rfl⟩,.inr ⟨by show¬(0:Int)=25;decide,rfl⟩,fun i hi h6 hx=>b4 i hi h6 (fun e=>hx (by rw[hT,e])),fun _=>?_,fun h=>absurd rfl h⟩
   rw[hT];simp only;rw[b5];intro e;rw[<-e]at hn;exact absurd hn (of_decide_eq_false rfl)
  ·obtain⟨b1,b2,b3,b4,b5⟩:=aOn (s:=0) (b:=[]) (l:=aCu (w.obj (t:Int)).frames (aF (w.obj (t:Int)).vals 0)) (vF (w:=w) (w':=w) rfl) hu0 ht hf;exact⟨b1,fun i hi h3 _=>b2 i hi h3 (z16 i),fun i hi=>by rcases hi with h|h<;>exact absurd (show(0:Int)=_ from h.1) (of_decide_eq_false rfl),.inr ⟨by show¬(0:Int)=24;decide,rfl⟩,.inr ⟨by show¬(0:Int)=25;decide,rfl⟩,fun i hi h6 hx=>b4 i hi h6 (fun e=>hx (by rw[hT,e])),fun h=>absurd (show(0:Int)=1 from h) (of_decide_eq_false rfl),fun _=>rfl⟩
 rename_i hv;split
 ·rw[pR];exact bE4 hT ht hf hia hn hv _ rfl hu0 aOm zX
 ·unfold qL;rw[wO hia];exact bE4 hT ht hf hia hn hv _ rfl hu0 bHg aHf
structure aEr (w w':aA):Prop where
 len:w.objs.length<=w'.objs.length
 outs:w'.outs=w.outs
 used:w'.used=w.used
 old: ∀i:Nat,i<w.objs.length->(w.obj i).form=3->w'.obj i=w.obj i
 new: ∀i:Nat,i<w'.objs.length->(w'.obj i).form=3->i<w.objs.length/\ w'.obj i=w.obj i
theorem aEr.refl (w:aA):aEr w w:=⟨bSx _,rfl,rfl,fun _ _ _=>rfl,fun _ h _=>⟨h,rfl⟩⟩
theorem aEr.trans {a b c:aA}(h:aEr a b)(k:aEr b c):aEr a c:=
 ⟨bS9 h.len k.len,k.outs.trans h.outs,k.used.trans h.used,fun i hi hf=>by
  have e:=h.old i hi hf;rw[k.old i (bTm hi h.len) (by rw[e];exact hf),e],fun i hi hf=>by
  obtain⟨h1,e1⟩:=k.new i hi hf;obtain⟨h2,e2⟩:=h.new i h1 (by rw[<-e1];exact hf)
  exact⟨h2,e1.trans e2⟩⟩
theorem aS0 (hg:bJ p w=true)(ha:a<w.tasks.length): ∃t:Nat,aX w a=(t:Int)/\ t<w.objs.length/\ (w.obj t).form=6:=by
 have hgw:cJ p w=true:=by simp only[bJ,bSw]at hg;exact hg.2
 have hia:inR (a:Int) 0 ((w.tasks.length:Int)-1)=true:=by simp only[inR,bWo];omega
 have htk:=(cH.1 hgw).2.2.2.2.1;simp only[gS,bSw]at htk;obtain⟨hd1,_⟩:=lY w _ _ htk.2;have hti:=hd1 _ (xH hia);simp only[inR,bWo]at hti;obtain⟨t,hT⟩:=bTs hti.1.1;rw[hT]at hti;exact⟨t,hT,by omega,D_o hti.2⟩
theorem bBm (hg:bJ p w=true)(ha:a<w.tasks.length)(h0:(aM p w a).what=0):aEr w (aM p w a).w:=by
 have hs:=aLa hg ha;have hia:inR (a:Int) 0 ((w.tasks.length:Int)-1)=true:=by simp only[inR,bWo];omega
 obtain⟨t,hT,ht,hf⟩:=aS0 hg ha;obtain⟨c,_⟩:=sR (p:=p) (w:=w) (a:=(a:Int)) (by omega) hia
 obtain⟨_,_,c2,c3,c4,_,c6⟩:=c h0
 refine⟨c2,c4,c6,fun i hi h3=>c3 i hi fun e=>?_,fun i hi h3=>hs.cell i hi h3 fun h=>?_⟩
 ·obtain rfl:i=t:=by omega
  rw[hf]at h3;exact absurd h3 (by decide)
 ·have:=hs.act0 (by rw[h0];decide)
  rcases h with h|h<;>(rw[this]at h;exact absurd h.1 (by decide))
theorem aQv {p:aD}{b:Nat}: ∀(k:Nat) {w:aA},bJ p w=true->b<w.tasks.length->aEr w (cS p b k w).1/\ bJ p (cS p b k w).1=true
 |0,w,hg,hb=>by rw[cS];split<;>exact⟨.refl w,hg⟩
 |k+1,w,hg,hb=>by
  rw[cS];split
  ·rename_i h0;obtain⟨g1,g2,_⟩:=oI hg hb;have:=aQv k g1 (by rw[(g2 h0).2];exact hb)
   exact⟨(bBm hg hb h0).trans this.1,this.2⟩
  ·exact⟨.refl w,hg⟩
theorem aOo {p:aD}: ∀(n b:Nat) {w:aA} {s:Nat},bJ p w=true->aEr w (eE p n b w s).1
 |0,_,w,_,_=> .refl w
 |n+1,b,w,s,hg=>by
  rw[eE];split
  ·rename_i hb;obtain⟨i1,i2⟩:=aQv (5000-s) hg hb;split
   ·exact i1.trans (aOo n (b+1) i2)
   ·exact i1
  ·exact .refl w
structure aS1 (p:aD) (w:aA) (k:Int) (a:Nat):Prop where
 lt:a<w.tasks.length
 pick:fY p w k=(a:Int)
 what:(aM p w a).what=1
 ev:(cV p w k).2.1=(aM p w a).e
 task:(aM p w a).e.task=(a:Int)
 step:aX1 w a (aM p w a)
 mid:bJ p (aM p w a).w=true
 fine:(aJ p (aM p w a).w 1).2.2=true
 world:(cV p w k).1=(aJ p (aM p w a).w 1).1
 rest:aEr (aM p w a).w (cV p w k).1
 calm:pF p (cV p w k).1 (cV p w k).1.tasks.length
theorem aY9 {k:Int}(hg:bJ p w=true)(hc:pF p w w.tasks.length)(h0:(cV p w k).2.2=0): ∃a,aS1 p w k a:=by
 have hs:aJ p w 0=(w,0,true):=uR hc 121 0 0;obtain⟨_,e2,e3,_⟩:=xG h0;obtain⟨t1,t2,t3⟩:=aQt hg h0;rw[hs]at e2 e3 t1 t2 t3
 simp only at e2 e3 t1 t2 t3
 have hw:(aJ p (aM p w (fY p w k)).w 1).2.2=true/\ (cV p w k).1=(aJ p (aM p w (fY p w k)).w 1).1:=by
  have hd:(fE p w k).2.2.2=0/\ (cV p w k).1=(fE p w k).1:=by
   unfold cV at h0⊢
   simp only at h0⊢
   split at h0
   ·cases h0
   rename_i h5
   split at h0
   ·rename_i h6;exact⟨h6,by rw[if_neg h5,if_pos h6]⟩
   ·rename_i h6;exact absurd h0 h6
  rw[hd.2];have h1:=hd.1;unfold fE at h1⊢;rw[hs]at h1⊢
  simp only at h1⊢
  rw[if_neg (by decide)]at h1⊢
  split at h1
  ·cases h1
  rename_i hr;rw[if_neg hr]
  split at h1
  ·cases h1
  rename_i hq;rw[if_neg hq]
  refine⟨?_,rfl⟩
  cases hb:(aJ p (aM p w (fY p w k)).w 1).2.2 with
  |true=>rfl
  |false=>exact absurd (.inl hb) hq
 simp only[inR,bWo]at e2;obtain⟨a,ha⟩:=bTs e2.1;rw[ha]at e2 e3 t1 t2 t3 hw;have hal:a<w.tasks.length:=by omega
 refine⟨a,hal,ha,t2,e3,by rw[<-e3];exact t1,aLa hg hal,t3,hw.1,hw.2,?_,?_⟩
 ·rw[hw.2];exact aOo 121 0 t3
 ·rw[hw.2];exact(qT t3 hw.1).2
variable {i m:Nat}{ks:List Int}{every:Int}
section
variable (h:gJ p w ks every m)(hc:pF p w w.tasks.length)
include h hc
theorem gJ.calm : ∀i,i<=m->pF p (wAt p w ks i) (wAt p w ks i).tasks.length
 |0,_=>hc
 |i+1,hi=>by
  obtain⟨a,ha⟩:=aY9 (kP (ks:=ks) h.g i) (gJ.calm i (by omega)) (h.ok i (by omega))
  exact ha.calm
theorem gJ.turn (hi:i<m): ∃a,aS1 p (wAt p w ks i) (ks.getD i 0) a:=aY9 (kP (ks:=ks) h.g i) (h.calm hc i (by omega)) (h.ok i hi)
end
variable {t:Nat}
section
variable (h:gJ p w ks every m)
include h
theorem gJ.more (count:aA->Int)(n:Int): ∀(k t:Nat),t+k=m->
  (∃u,t<=u/\ u<m/\ aHl p (cZ p w ks every m) count n t k=((u:Int),0)/\ n<count (wAt p w ks (u+1))/\ ∀i,t<=i->i<u->count (wAt p w ks (i+1))<=n) \/
  (aHl p (cZ p w ks every m) count n t k=(0,5)/\ ∀i,t<=i->i<m->count (wAt p w ks (i+1))<=n)
 |0,t,hk=> .inr ⟨rfl,fun i h1 h2=>by omega⟩
 |k+1,t,hk=>by
  rw[aHl,h.at_ (by omega),if_pos rfl]
  by_cases hn:n<count (wAt p w ks (t+1))
  ·rw[if_pos hn];exact .inl ⟨t,bSx _,by omega,rfl,hn,fun i h1 h2=>by omega⟩
  ·rw[if_neg hn];rcases gJ.more count n k (t+1) (by omega)with⟨u,h1,h2,h3,h4,h5⟩|⟨h1,h2⟩
   ·refine .inl ⟨u,by omega,h2,h3,h4,fun i hi hu=>?_⟩
    rcases bT5 t i with hx|hx
    ·exact h5 i hx hu
    ·obtain rfl:i=t:=by omega
     exact bUe.1 hn
   ·refine .inr ⟨h1,fun i hi hu=>?_⟩
    rcases bT5 t i with hx|hx
    ·exact h2 i hx hu
    ·obtain rfl:i=t:=by omega
     exact bUe.1 hn
variable (hc :pF p w w.tasks.length)
include hc
theorem gJ.outs (hi:i<m):((tAt p w ks i).2.1.act=24/\ (wAt p w ks (i+1)).outs=(wAt p w ks i).outs++[⟨(tAt p w ks i).2.1.n,(tAt p w ks i).2.1.v.n⟩]) \/(wAt p w ks (i+1)).outs=(wAt p w ks i).outs:=by
 obtain⟨a,ha⟩:=h.turn hc hi;have e:(tAt p w ks i).2.1=(aM p (wAt p w ks i) a).e:=ha.ev;have e2:(wAt p w ks (i+1)).outs=(aM p (wAt p w ks i) a).w.outs:=ha.rest.outs;rw[e,e2];rcases ha.step.outs with hx|hx
 ·exact .inl hx
 ·exact .inr hx.2
theorem gJ.used (hi:i<m):((tAt p w ks i).2.1.act=25/\ (wAt p w ks (i+1)).used=(wAt p w ks i).used+1) \/(wAt p w ks (i+1)).used=(wAt p w ks i).used:=by
 obtain⟨a,ha⟩:=h.turn hc hi;have e:(tAt p w ks i).2.1=(aM p (wAt p w ks i) a).e:=ha.ev;have e2:(wAt p w ks (i+1)).used=(aM p (wAt p w ks i) a).w.used:=ha.rest.used;rw[e,e2];rcases ha.step.used with hx|hx
 ·exact .inl hx
 ·exact .inr hx.2
theorem gJ.objs (hi:i<m):(wAt p w ks i).objs.length<=(wAt p w ks (i+1)).objs.length:=by
 obtain⟨a,ha⟩:=h.turn hc hi;exact bS9 ha.step.len ha.rest.len
def aHv (p:aD)(l:bL)(t:Nat)(o:Int):Prop:=(eD p l t).2.2=0/\ (eD p l t).1=o/\ ((eD p l t).2.1.act=16 \/(eD p l t).2.1.act=18)
theorem gJ.touch (ht:t<m):((eD p (cZ p w ks every m) t).2.2=0 \/(eD p (cZ p w ks every m) t).2.2=5)/\ (eD p (cZ p w ks every m) t).2.1=(tAt p w ks t).2.1/\
  ∃a,aS1 p (wAt p w ks t) (ks.getD t 0) a/\ ∀o:Nat,aHv p (cZ p w ks every m) t o↔Hit (wAt p w ks t) a (aM p (wAt p w ks t) a) o:=by
 obtain⟨a,ha⟩:=h.turn hc ht;have e:(tAt p w ks t).2.1=(aM p (wAt p w ks t) a).e:=ha.ev;have hs:aJ p (wAt p w ks t) 0=(wAt p w ks t,0,true):=uR (h.calm hc t (by omega)) 121 0 0
 have hx:eD p (cZ p w ks every m) t=(if(tAt p w ks t).2.1.act=17 \/(tAt p w ks t).2.1.act=18 \/(tAt p w ks t).2.1.act=22 \/(tAt p w ks t).2.1.act=23 \/(tAt p w ks t).2.1.act=20 then(aC6 (wAt p w ks t) (tAt p w ks t).2.1.task,(tAt p w ks t).2.1,0)
  else if(tAt p w ks t).2.1.act=16 \/(tAt p w ks t).2.1.act=21 \/(tAt p w ks t).2.1.act=19 then(((wAt p w ks t).objs.length:Int),(tAt p w ks t).2.1,0)
  else(0,(tAt p w ks t).2.1,5)):=by
  unfold eD;rw[h.after ht,if_pos rfl,h.at_ (by omega)]
  simp only[hs]
 refine⟨?_,?_,a,ha,fun o=>?_⟩
 ·rw[hx];split
  ·exact .inl rfl
  split
  ·exact .inl rfl
  ·exact .inr rfl
 ·rw[hx];split
  ·rfl
  split<;>rfl
 ·unfold aHv Hit;rw[hx,e,ha.task];obtain⟨c,hcc⟩: ∃c,(aM p (wAt p w ks t) a).e.act=c:=⟨_,rfl⟩
  rw[hcc];constructor
  ·rintro⟨h1,h2,h3⟩
   rcases h3 with h3|h3
   ·have hc:c=16:=by
     revert h3;split
     ·exact fun h=>hcc.symm.trans h
     split<;>exact fun h=>hcc.symm.trans h
    subst hc
    simp at h2
    exact .inl ⟨rfl,by omega⟩
   ·have hc:c=18:=by
     revert h3;split
     ·exact fun h=>hcc.symm.trans h
     split<;>exact fun h=>hcc.symm.trans h
    subst hc;simp[aC6]at h2;exact .inr ⟨rfl,h2.symm⟩
  ·rintro(⟨rfl,h2⟩|⟨rfl,h2⟩)
   ·simp[hcc];omega
   ·simp[aC6,hcc]at h2⊢;exact h2.symm
theorem gJ.cell (ht:t<m){o:Nat}(hn: ¬aHv p (cZ p w ks every m) t o)(ho:o<(wAt p w ks (t+1)).objs.length)(hf:((wAt p w ks (t+1)).obj o).form=3):
  o<(wAt p w ks t).objs.length/\ (wAt p w ks t).obj o=(wAt p w ks (t+1)).obj o:=by
 obtain⟨_,_,a,ha,hh⟩:=h.touch hc ht;obtain⟨h1,e1⟩:=ha.rest.new o ho hf;obtain⟨h2,e2⟩:=ha.step.cell o h1 (by rw[<-e1];exact hf) (fun x=>hn ((hh o).2 x))
 exact⟨h2,(e1.trans e2).symm⟩
theorem gJ.hit (ht:t<m){o:Nat}(hn:aHv p (cZ p w ks every m) t o):
  o<(wAt p w ks (t+1)).objs.length/\ ∃v,(wAt p w ks (t+1)).obj o=⟨3,0,[v],[]⟩/\ (tAt p w ks t).2.1.v=nG v:=by
 obtain⟨_,_,a,ha,hh⟩:=h.touch hc ht;obtain⟨h1,v,e1,e2⟩:=ha.step.hit o ((hh o).1 hn);have e3:=ha.rest.old o h1 (by rw[e1])
 have e:(tAt p w ks t).2.1=(aM p (wAt p w ks t) a).e:=ha.ev;exact⟨bTm h1 ha.rest.len,v,e3.trans e1,by rw[e];exact e2⟩
end
theorem aKf {p:aD}{a:Int}: ∀(s:Nat) (w:aA),(0<(fQ p a s w).2/\ fQ p a (s+1) w=((fQ p a s w).1,(fQ p a s w).2+1)) \/
  ((fQ p a s w).2=0/\ (fQ p a (s+1) w=((fQ p a s w).1,1) \/((aM p (fQ p a s w).1 a).what=0/\ fQ p a (s+1) w=((aM p (fQ p a s w).1 a).w,0))))
 |0,w=>by
  refine .inr ⟨rfl,?_⟩
  have e:fQ p a (0+1) w=if(aM p w a).what=0 then fQ p a 0 (aM p w a).w else(w,0+1):=rfl
  rw[e]
  by_cases h0:(aM p w a).what=0
  ·rw[if_pos h0];exact .inr ⟨h0,rfl⟩
  ·rw[if_neg h0];exact .inl rfl
 |s+1,w=>by
  rw[fQ,fQ]
  by_cases h0:(aM p w a).what=0
  ·rw[if_pos h0,if_pos h0];exact aKf s _
  ·rw[if_neg h0,if_neg h0];exact .inl ⟨Nat.succ_pos s,rfl⟩
theorem aBh {p:aD}: ∀(n b s:Nat) {w:aA},bJ p w=true->(0<(bQ p n b w s).2/\ bQ p n b w (s+1)=((bQ p n b w s).1,(bQ p n b w s).2+1)) \/
  ((bQ p n b w s).2=0/\ (bQ p n b w (s+1)=((bQ p n b w s).1,1) \/ ∃a:Nat,a<(bQ p n b w s).1.tasks.length/\ (aM p (bQ p n b w s).1 a).what=0/\ bQ p n b w (s+1)=((aM p (bQ p n b w s).1 a).w,0)))
 |0,b,s,w,_=>by
  cases s with
  |zero=>exact .inr ⟨rfl,.inl rfl⟩
  |succ s=>exact .inl ⟨Nat.succ_pos s,rfl⟩
 |n+1,b,s,w,hg=>by
  rw[bQ,bQ]
  by_cases hb:b<w.tasks.length
  ·rw[if_pos hb,if_pos hb];obtain⟨g1,g2,_⟩:=aBf s hg hb;rcases aKf (p:=p) (a:=(b:Int)) s w with⟨h1,h2⟩|⟨h1,h2|⟨h2,h3⟩⟩
   ·rw[h2];exact aBh n (b+1) _ g1
   ·rw[h2];have:=aBh n (b+1) 0 g1;rw[h1];exact this
   ·rw[h3,h1,nM,nM];exact .inr ⟨rfl,.inr ⟨b,by rw[g2];exact hb,h2,rfl⟩⟩
  ·rw[if_neg hb,if_neg hb];cases s with
   |zero=>exact .inr ⟨rfl,.inl rfl⟩
   |succ s=>exact .inl ⟨Nat.succ_pos s,rfl⟩
theorem aEs {p:aD}{w:aA}(hc:pF p w w.tasks.length): ∀(n b s:Nat),bQ p n b w s=(w,s)
 |0,_,_=>rfl
 |n+1,b,s=>by
  rw[bQ]
  by_cases hb:b<w.tasks.length
  ·have hi:fQ p b s w=(w,s):=by
    cases s with
    |zero=>rfl
    |succ k=>rw[fQ,if_neg (hc b hb hb)]
   rw[if_pos hb,hi];exact aEs hc n (b+1) s
  ·rw[if_neg hb]
theorem bE5 (hg:bJ p w=true){b:Nat}(ha:a<w.tasks.length)(hb:b<w.tasks.length)(h1:(aM p w a).what=1)(he:(aM p w a).w=(aM p w b).w):a=b:=by
 apply Decidable.byContradiction;intro hab;have hgw:cJ p w=true:=by simp only[bJ,bSw]at hg;exact hg.2
 have htk:=(cH.1 hgw).2.2.2.2.1;simp only[gS,bSw]at htk;obtain⟨_,hd2,_⟩:=lY w _ _ htk.2;obtain⟨i,hi,hil,hif⟩:=aS0 hg ha;obtain⟨j,hj,_,_⟩:=aS0 hg hb;have hij: ¬i=j:=by
  intro e;have h1:(w.tasks.map Int.toNat)[a]?=some i:=by
   have:aX w a=w.tasks[a]:=by simp[aX,ha]
   rw[bVy,bTy ha,<-this,hi];rfl
  have h2:(w.tasks.map Int.toNat)[b]?=some j:=by
   have:aX w b=w.tasks[b]:=by simp[aX,hb]
   rw[bVy,bTy hb,<-this,hj];rfl
  exact hab ((List.getElem?_inj (by simpa using ha) hd2).1 (by rw[h1,h2,e]))
 have e1:=(aLa hg hb).task i hil hif (by rw[hj];omega)
 have e2:=(aLa hg ha).own h1;rw[hi,he]at e2;exact e2 e1
section
variable (h:gJ p w ks every m)(hc:pF p w w.tasks.length)
include h hc
theorem gJ.inside (ht:t<m):dW p (cZ p w ks every m) t 0=(wAt p w ks t,0)/\
  ∃a,aS1 p (wAt p w ks t) (ks.getD t 0) a/\ ∀n,dW p (cZ p w ks every m) t (n+1)=if(dK p (aM p (wAt p w ks t) a).w n).2=0 then((dK p (aM p (wAt p w ks t) a).w n).1,0)else(tR,5):=by
 obtain⟨a,ha⟩:=h.turn hc ht;have hs: ∀s,dK p (wAt p w ks t) s=(wAt p w ks t,s):=fun s=>aEs (h.calm hc t (by omega)) 121 0 s
 have e:=h.ok t ht;unfold tAt at e;have hI: ∀s,dW p (cZ p w ks every m) t s=if s=0 then(wAt p w ks t,0)else(if(dK p (aM p (wAt p w ks t) a).w (s-1)).2=0 then((dK p (aM p (wAt p w ks t) a).w (s-1)).1,0)else(tR,5)):=fun s=>by
  unfold dW;rw[h.at_ (by omega),if_pos rfl,h.pick ht,if_pos e]
  simp only[hs,ha.pick]
 refine⟨by rw[hI];rfl,a,ha,fun n=>?_⟩
 rw[hI,if_neg (Nat.succ_ne_zero n)];rfl
end
theorem aV8 (hg:bJ p w=true)(hs:(aJ p w 1).2.2=true)(n:Nat)(h0:(dK p w n).2=0):
  (¬(dK p w (n+1)).2=0/\ (dK p w n).1=(aJ p w 1).1) \/
  ((dK p w (n+1)).2=0/\ ∃a:Nat,a<(dK p w n).1.tasks.length/\ (aM p (dK p w n).1 a).what=0/\ (dK p w (n+1)).1=(aM p (dK p w n).1 a).w):=by
 have hn:=aBh 121 0 n hg;have e: ∀s,bQ p 121 0 w s=dK p w s:=fun s=>rfl
 simp only[e]at hn;rcases hn with⟨h1,_⟩|⟨_,h2|⟨a,h2,h3,h4⟩⟩
 ·omega
 ·refine .inl ⟨by rw[h2];exact of_decide_eq_false rfl,?_⟩
  have:=aBe 121 0 w (n+1) 1 hs;rw[e,h2]at this;exact this Nat.one_pos
 ·exact .inr ⟨by rw[h4],a,h2,h3,by rw[h4]⟩
set_option maxRecDepth 100000
set_option maxHeartbeats 4000000
variable {en:En}{k:Nat}
theorem bE6 {l:List fB}{e:fB}(h:l[k]?=some e):mH 5 en (.fz (l.map evV)) (.i (k:Int))=some {v:= .fp [.i e.task,.i e.act,.i e.n,.i e.v.kind,.i e.v.n] 0}:=by
 simp[mH,h,evV];exact⟨rfl,rfl⟩
section
variable (h:gJ p w ks every m)
include h
end
end Go.Proofs.YtmafmhjndjmalaaGreat

