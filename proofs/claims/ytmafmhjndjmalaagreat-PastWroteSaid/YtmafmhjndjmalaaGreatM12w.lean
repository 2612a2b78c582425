import Derived.Test.YtmafmhjndjmalaaGreatM5w
set_option linter.all false
open Bool renaming and_eq_true -> bSw, and_false -> bT6, and_true -> bUc, not_false -> bTf, not_true -> bS6, true_and -> bTo
open Int renaming eq_ofNat_of_zero_le -> bTs, not_lt -> bUe, toNat_natCast -> bTt
open List renaming getD_eq_getElem?_getD -> bSz, getElem?_append_left -> bUy, getElem?_eq_getElem -> bTy, getElem?_map -> bVy, getElem?_set_ne -> bWc, getElem_mem -> bS7, length_append -> bTg, length_map -> bSy, length_set -> bUs, length_singleton -> bVn, map_cons -> bTv, map_nil -> bTe, map_take -> bUd, mem_append_right -> bUn, mem_flatMap -> bUa, prefix_refl -> bUp
open Nat renaming le_refl -> bSx, le_trans -> bS9, lt_of_lt_of_le -> bTm, lt_or_ge -> bT5, zero_le -> bS4
namespace Go.Abs
inductive aDc (w w':aA) (u:aE) (act:Int) (ev:aE):Prop
 |same (h:w'.objs=w.objs) (h16: ¬act=16) (h18: ¬act=18)
 |more (o:aP) (h:w'.objs=w.objs++[o]) (ho: ¬o.form=3) (h16: ¬act=16) (h18: ¬act=18)
 |cell (v:aE) (h:w'.objs=w.objs++[⟨3,0,[v],[]⟩]) (ha:act=16) (he:ev=nG v)
 |chan (o:aP) (hu:cG w u 4=true) (h:w'.objs=w.objs.set u.n.toNat o) (ho:o.form=4) (h16: ¬act=16) (h18: ¬act=18)
 |put (v:aE) (hu:cG w u 3=true) (h:w'.objs=w.objs.set u.n.toNat ⟨3,0,[v],[]⟩) (ha:act=18) (he:ev=nG v)
structure bE2 (w w':aA) (e:fB):Prop where
 outs:(e.act=24/\ w'.outs=w.outs++[⟨e.n,e.v.n⟩]) \/(¬e.act=24/\ w'.outs=w.outs)
 used:(e.act=25/\ w'.used=w.used+1) \/(¬e.act=25/\ w'.used=w.used)
 tasks:w.tasks<+:w'.tasks
def Eff (w:aA)(u:aE):OpR->Prop
 | .go none w' _ _=>aDc w w' u 0 iV
 | .go (some e) w' _ back=>aDc w w' u e.act e.v/\ bE2 w w' e/\ back.length=1
 |_=>True
variable {w' w:aA}{l:List aB}{env:List aE}{node a:Int}{u:aE}
section
variable {left:List aB}
theorem vF (h:w'.objs=w.objs):aDc w w' u 0 iV:= .same h (of_decide_eq_false rfl) (of_decide_eq_false rfl)
theorem bBl {v:aE}:Eff w u (jD w left v):=vF rfl
theorem bE3 (h:aDc w w' u 0 iV):Eff w u (oY w' left l):=by
 unfold oY;split
 ·trivial
 ·exact h
theorem aQu (h:aDc w w' u 0 iV):Eff w u (iX w' left node env):=by
 unfold iX;split
 ·trivial
 ·exact bE3 h
theorem aOm :Eff w u (iX w left node env):=aQu (vF rfl)
theorem aAa {o:aP}{k:aA->aE->OpR}(h:Eff w u (k (eF w o) (dQ w.objs.length))):Eff w u (iE w o k):=by
 unfold iE;split
 ·trivial
 ·exact h
theorem bIl {o:aP}(h: ¬o.form=3):aDc w (eF w o) u 0 iV:= .more o rfl h (of_decide_eq_false rfl) (of_decide_eq_false rfl)
theorem aKe {kids:List Int}{env:List aE}{x:aE}: ∀(l:List Pat) (i:Nat),Eff w u (dY w left kids env x i l)
 |[],i=>trivial
 |q::qs,i=>by
  simp only[dY];split
  ·exact aOm
  ·exact aKe qs (i+1)
theorem aY8 {c:Prop}[Decidable c]{x y:OpR}(hx:c->Eff w u x)(hy: ¬c->Eff w u y):Eff w u (if c then x else y):=by
 by_cases h:c
 ·rw[if_pos h];exact hx h
 ·rw[if_neg h];exact hy h
theorem vG {e:fB}(h1: ¬e.act=24)(h2: ¬e.act=25)(h3:w'.outs=w.outs)(h4:w'.used=w.used)(h5:w.tasks<+:w'.tasks):bE2 w w' e:=⟨.inr ⟨h1,h3⟩,.inr ⟨h2,h4⟩,h5⟩
theorem bHg {p:aD}{f:aB}{n:aL}:Eff w (aF f.vals 0) (opR p w a left f n):=by
 unfold opR
 repeat' (with_reducible refine aY8 (fun _=>?_) (fun _=>?_))
 all_goals try(split<;>(repeat' (with_reducible refine aY8 (fun _=>?_) (fun _=>?_))))
 all_goals first
  |exact bBl
  |exact aOm
  |exact aKe _ _
  |exact aAa (bIl (of_decide_eq_false rfl))
  |exact aAa (aQu (bIl (of_decide_eq_false rfl)))
  |exact vF rfl
  |exact aAa ⟨.cell _ rfl rfl rfl,vG (of_decide_eq_false rfl) (of_decide_eq_false rfl) rfl rfl (bUp _),rfl⟩
  |exact aAa ⟨.more _ rfl (of_decide_eq_false rfl) (of_decide_eq_false rfl) (of_decide_eq_false rfl),vG (of_decide_eq_false rfl) (of_decide_eq_false rfl) rfl rfl (bUp _),rfl⟩
  |exact aAa ⟨.more _ rfl (of_decide_eq_false rfl) (of_decide_eq_false rfl) (of_decide_eq_false rfl),vG (of_decide_eq_false rfl) (of_decide_eq_false rfl) rfl rfl (List.prefix_append _ _),rfl⟩
  |exact⟨.same rfl (of_decide_eq_false rfl) (of_decide_eq_false rfl),vG (of_decide_eq_false rfl) (of_decide_eq_false rfl) rfl rfl (bUp _),rfl⟩
  |exact⟨.put _ (by assumption) rfl rfl rfl,vG (of_decide_eq_false rfl) (of_decide_eq_false rfl) rfl rfl (bUp _),rfl⟩
  |exact⟨.chan _ (by assumption) rfl rfl (of_decide_eq_false rfl) (of_decide_eq_false rfl),vG (of_decide_eq_false rfl) (of_decide_eq_false rfl) rfl rfl (bUp _),rfl⟩
  |exact⟨.same rfl (of_decide_eq_false rfl) (of_decide_eq_false rfl),⟨.inr ⟨(of_decide_eq_false rfl),rfl⟩,.inl ⟨rfl,rfl⟩,bUp _⟩,rfl⟩
  |trivial
  |skip
 rename_i h1 h2
 refine⟨.same rfl (of_decide_eq_false rfl) (of_decide_eq_false rfl),⟨.inl ⟨rfl,?_⟩,.inr ⟨(of_decide_eq_false rfl),rfl⟩,bUp _⟩,rfl⟩
 have hk:(aF f.vals 0).kind=1:=Decidable.not_not.1 h1;simp only[nG,hk];rfl
end
def Hit (w:aA)(a:Int)(d:Did)(i:Nat):Prop:=(d.e.act=16/\ i=w.objs.length) \/(d.e.act=18/\ (i:Int)=(aF ((w.obj (aX w a)).frames.getD ((w.obj (aX w a)).frames.length-1) dJ).vals 0).n)
structure aX1 (w:aA) (a:Int) (d:Did):Prop where
 len:w.objs.length<=d.w.objs.length
 cell: ∀i:Nat,i<d.w.objs.length->(d.w.obj i).form=3-> ¬Hit w a d i->i<w.objs.length/\ d.w.obj i=w.obj i
 hit: ∀i:Nat,Hit w a d i->i<d.w.objs.length/\ ∃v,d.w.obj i=⟨3,0,[v],[]⟩/\ d.e.v=nG v
 outs:(d.e.act=24/\ d.w.outs=w.outs++[⟨d.e.n,d.e.v.n⟩]) \/(¬d.e.act=24/\ d.w.outs=w.outs)
 used:(d.e.act=25/\ d.w.used=w.used+1) \/(¬d.e.act=25/\ d.w.used=w.used)
 task: ∀i:Nat,i<w.objs.length->(w.obj i).form=6-> ¬(i:Int)=aX w a->d.w.obj i=w.obj i
 own:d.what=1-> ¬d.w.obj (aX w a)=w.obj (aX w a)
 act0: ¬d.what=1->d.e.act=0
variable {act:Int}{ev:aE}
theorem bHh (h:aDc w w' u act ev)(hu:u.kind=5->inR u.n 0 ((w.objs.length:Int)-1)=true):
  w.objs.length<=w'.objs.length/\
  (∀i:Nat,i<w'.objs.length->(w'.obj i).form=3-> ¬((act=16/\ i=w.objs.length) \/(act=18/\ (i:Int)=u.n))->i<w.objs.length/\ w'.obj i=w.obj i)/\
  (∀i:Nat,((act=16/\ i=w.objs.length) \/(act=18/\ (i:Int)=u.n))->i<w'.objs.length/\ ∃v,w'.obj i=⟨3,0,[v],[]⟩/\ ev=nG v)/\
  (∀i:Nat,i<w.objs.length->(w.obj i).form=6->w'.obj i=w.obj i):=by
 have ob: ∀(x:aA) (i:Nat),x.obj (i:Int)=x.objs.getD i default:=fun x i=>by simp[aA.obj]
 have io: ∀k,cG w u k=true->u.kind=5/\ (w.obj u.n).form=k:=fun k h=>by
  simp only[cG,bSw,bWo]at h;exact h
 cases h with
 |same h h16 h18=>
  simp only[ob,h];exact⟨bSx _,fun i hi _ _=>⟨hi,by trivial⟩,fun i hi=>hi.elim (fun x=>absurd x.1 h16) (fun x=>absurd x.1 h18),fun i _ _=>by trivial⟩
 |more o h ho h16 h18=>
  simp only[ob,h,bTg,bVn]
  refine⟨Nat.le_succ _,fun i hi hf _=>?_,fun i hi=>hi.elim (fun x=>absurd x.1 h16) (fun x=>absurd x.1 h18),fun i hi _=>?_⟩
  ·rcases bT5 i w.objs.length with hl|hl
   ·exact⟨hl,by simp[bSz,bUy hl]⟩
   ·obtain rfl:i=w.objs.length:=by omega
    simp[bSz]at hf;exact absurd hf ho
  ·simp[bSz,bUy hi]
 |cell v h ha he=>
  subst ha;simp only[ob,h,bTg,bVn]
  refine⟨Nat.le_succ _,fun i hi hf hn=>?_,fun i hi=>?_,fun i hi _=>?_⟩
  ·have hl:i<w.objs.length:=by
    rcases bT5 i w.objs.length with hl|hl
    ·exact hl
    ·exact absurd (.inl ⟨by trivial,by omega⟩) hn
   exact⟨hl,by simp[bSz,bUy hl]⟩
  ·rcases hi with⟨_,rfl⟩|⟨hi,_⟩
   ·exact⟨by omega,v,by simp[bSz],he⟩
   ·exact absurd hi (of_decide_eq_false rfl)
  ·simp[bSz,bUy hi]
 |chan o hu' h ho h16 h18=>
  obtain⟨k5,hf4⟩:=io 4 hu';have hr:=hu k5;simp only[inR,bWo]at hr;obtain⟨n,hn⟩:=bTs hr.1;rw[hn]at h hf4 hr;have hnl:n<w.objs.length:=by omega
  rw[ob]at hf4;simp only[ob,h,bUs,bTt]
  refine⟨bSx _,fun i hi hf _=>⟨hi,?_⟩,fun i hi=>hi.elim (fun x=>absurd x.1 h16) (fun x=>absurd x.1 h18),fun i hi hf=>?_⟩
  ·rcases Decidable.em (n=i)with rfl|hni
   ·simp[bSz,hnl,ho]at hf
   ·simp[bSz,bWc hni]
  ·rcases Decidable.em (n=i)with rfl|hni
   ·rw[hf4]at hf;exact absurd hf (of_decide_eq_false rfl)
   ·simp[bSz,bWc hni]
 |put v hu' h ha he=>
  subst ha;obtain⟨k5,hf3⟩:=io 3 hu';have hr:=hu k5;simp only[inR,bWo]at hr;obtain⟨n,hn⟩:=bTs hr.1;rw[hn]at h hf3 hr;have hnl:n<w.objs.length:=by omega
  rw[ob]at hf3;simp only[ob,h,bUs,bTt,hn]
  refine⟨bSx _,fun i hi hf hx=>⟨hi,?_⟩,fun i hi=>?_,fun i hi hf=>?_⟩
  ·rcases Decidable.em (n=i)with rfl|hni
   ·exact absurd (.inr ⟨by trivial,by trivial⟩) hx
   ·simp[bSz,bWc hni]
  ·rcases hi with⟨hi,_⟩|⟨_,hi⟩
   ·exact absurd hi (of_decide_eq_false rfl)
   ·obtain rfl:i=n:=by omega
    exact⟨hnl,v,by simp[bSz,hnl],he⟩
  ·rcases Decidable.em (n=i)with rfl|hni
   ·rw[hf3]at hf;exact absurd hf (of_decide_eq_false rfl)
   ·simp[bSz,bWc hni]
variable {t:Nat}
theorem aOn {b:List aE}{s:Int}(h:aDc w w' u act ev)(hu:u.kind=5->inR u.n 0 ((w.objs.length:Int)-1)=true)(ht:t<w.objs.length)(hf:(w.obj t).form=6):
  w.objs.length<=(dD w' t ⟨6,s,b,l⟩).objs.length/\
  (∀i:Nat,i<(dD w' t ⟨6,s,b,l⟩).objs.length->((dD w' t ⟨6,s,b,l⟩).obj i).form=3-> ¬((act=16/\ i=w.objs.length) \/(act=18/\ (i:Int)=u.n))->i<w.objs.length/\ (dD w' t ⟨6,s,b,l⟩).obj i=w.obj i)/\
  (∀i:Nat,((act=16/\ i=w.objs.length) \/(act=18/\ (i:Int)=u.n))->i<(dD w' t ⟨6,s,b,l⟩).objs.length/\ ∃v,(dD w' t ⟨6,s,b,l⟩).obj i=⟨3,0,[v],[]⟩/\ ev=nG v)/\
  (∀i:Nat,i<w.objs.length->(w.obj i).form=6-> ¬i=t->(dD w' t ⟨6,s,b,l⟩).obj i=w.obj i)/\ (dD w' t ⟨6,s,b,l⟩).obj t=⟨6,s,b,l⟩:=by
 obtain⟨a1,a2,a3,a4⟩:=bHh h hu;have hl:(dD w' t ⟨6,s,b,l⟩).objs.length=w'.objs.length:=by simp[dD]
 have hot:(dD w' t ⟨6,s,b,l⟩).obj t=⟨6,s,b,l⟩:=by simp[aA.obj,dD,bTm ht a1]
 have hne: ∀i:Nat,¬i=t->(dD w' t ⟨6,s,b,l⟩).obj i=w'.obj i:=fun i hi=>aSq (by simpa using hi)
 rw[hl]
 refine⟨a1,fun i hi h3 hx=>?_,fun i hx=>?_,fun i hi h6 hit=>(hne i hit).trans (a4 i hi h6),hot⟩
 ·have: ¬i=t:=fun e=>by rw[e,hot]at h3;exact absurd h3 (of_decide_eq_false rfl)
  rw[hne i this]at h3⊢;exact a2 i hi h3 hx
 ·obtain⟨b1,v,b2,b3⟩:=a3 i hx;have: ¬i=t:=fun e=>by
   rw[e,a4 t ht hf]at b2;rw[b2]at hf;exact absurd hf (of_decide_eq_false rfl)
  exact⟨b1,v,by rw[hne i this];exact b2,b3⟩
theorem bE4 {R:OpR}(hT:aX w a=(t:Int))(ht:t<w.objs.length)(hf:(w.obj t).form=6)(ha:inR a 0 ((w.tasks.length:Int)-1)=true)
  (hn:(w.obj t).n=0) (hv: ¬(w.obj t).vals.length=1) (u:aE) (hue:u=aF ((w.obj t).frames.getD ((w.obj t).frames.length-1) dJ).vals 0) (hu:u.kind=5->inR u.n 0 ((w.objs.length:Int)-1)=true)
  (h:Eff w u R) (hc:Calm w a R):aX1 w a (R.did w a):=by
 have hit: ∀{d:Did} {i:Nat},Hit w a d i->((d.e.act=16/\ i=w.objs.length) \/(d.e.act=18/\ (i:Int)=u.n)):=fun h=>by
  unfold Hit at h;rw[hT,<-hue]at h;exact h
 have hit': ∀{d:Did} {i:Nat},((d.e.act=16/\ i=w.objs.length) \/(d.e.act=18/\ (i:Int)=u.n))->Hit w a d i:=fun h=>by
  unfold Hit;rw[hT,<-hue];exact h
 have ta: ∀{w':aA},w.tasks<+:w'.tasks->aX w' a=(t:Int):=fun{w'} hp=>by
  rw[<-hT];obtain⟨l,hl⟩:=hp;simp only[inR,bWo]at ha;unfold aX;rw[<-hl,bSz,bSz,bUy (by omega)]
 cases R with
 |wait=>exact⟨bSx _,fun i hi _ _=>⟨hi,rfl⟩,fun i hi=>by rcases hit hi with h|h<;>exact absurd h.1 (of_decide_eq_false rfl),.inr ⟨by show¬(0:Int)=24;decide,rfl⟩,.inr ⟨by show¬(0:Int)=25;decide,rfl⟩,fun _ _ _ _=>rfl,fun h=>absurd (show(2:Int)=1 from h) (of_decide_eq_false rfl),fun _=>rfl⟩
 |fail s=>
  have he:(OpR.did w a (.fail s))=⟨dD w t ⟨6,s,[],[]⟩,1,⟨a,0,s,iV⟩⟩:=by simp only[OpR.did,bG,hT]
  rw[he];obtain⟨b1,b2,b3,b4,b5⟩:=aOn (s:=s) (b:=[]) (l:=[]) (u:=u) (vF (w:=w) (w':=w) rfl) hu ht hf
  refine⟨b1,fun i hi h3 _=>b2 i hi h3 (by rintro(h|h)<;>exact absurd h.1 (of_decide_eq_false rfl)),fun i hi=>by rcases hit hi with h|h<;>exact absurd (show(0:Int)=_ from h.1) (of_decide_eq_false rfl),.inr ⟨by show¬(0:Int)=24;decide,rfl⟩,.inr ⟨by show¬(0:Int)=25;decide,rfl⟩,fun i hi h6 hx=>b4 i hi h6 (fun e=>hx (by rw[hT,e])),fun _=>?_,fun h=>absurd rfl h⟩
  rw[hT,b5];intro e;rw[<-e]at hn;exact hc hn
 |go ev w' left back=>
  cases ev with
  |none=>
   have he:(OpR.did w a (.go none w' left back))=⟨dD w' t ⟨6,0,back,left⟩,0,eM⟩:=by simp only[OpR.did,ta (by rw[hc.1];exact bUp _)]
   rw[he];obtain⟨b1,b2,b3,b4,b5⟩:=aOn (s:=0) (b:=back) (l:=left) h hu ht hf
   refine⟨b1,fun i hi h3 _=>b2 i hi h3 (by rintro(h|h)<;>exact absurd h.1 (of_decide_eq_false rfl)),fun i hi=>by rcases hit hi with h|h<;>exact absurd (show(0:Int)=_ from h.1) (of_decide_eq_false rfl),.inr ⟨by show¬(0:Int)=24;decide,hc.2.2.1⟩,.inr ⟨by show¬(0:Int)=25;decide,hc.2.2.2.2⟩,fun i hi h6 hx=>b4 i hi h6 (fun e=>hx (by rw[hT,e])),fun h=>absurd (show(0:Int)=1 from h) (of_decide_eq_false rfl),fun _=>rfl⟩
  |some e=>
   obtain⟨h1,h2,h3⟩:=h;have he:(OpR.did w a (.go (some e) w' left back))=⟨dD w' t ⟨6,0,back,left⟩,1,e⟩:=by simp only[OpR.did,ta h2.tasks]
   rw[he];obtain⟨b1,b2,b3,b4,b5⟩:=aOn (s:=0) (b:=back) (l:=left) h1 hu ht hf
   refine⟨b1,fun i hi hx hn=>b2 i hi hx (fun h=>hn (hit' h)),fun i hi=>b3 i (hit hi),h2.outs,h2.used,fun i hi h6 hx=>b4 i hi h6 (fun e=>hx (by rw[hT,e])),fun _=>?_,fun h=>absurd rfl h⟩
   rw[hT,b5];intro e;rw[<-e]at hv;exact hv h3
end Go.Abs
namespace Go.Proofs.YtmafmhjndjmalaaGreat
open Go.Abs Go.Proofs
variable {a:Nat}{p:aD}{w:aA}
theorem aLa (hg:bJ p w=true)(ha:a<w.tasks.length):aX1 w a (aM p w a):=by
 have hgw:cJ p w=true:=by simp only[bJ,bSw]at hg;exact hg.2
 have hia:inR (a:Int) 0 ((w.tasks.length:Int)-1)=true:=by simp only[inR,bWo];omega
 have htk:=(cH.1 hgw).2.2.2.2.1;simp only[gS,bSw]at htk;obtain⟨hd1,_⟩:=lY w _ _ htk.2;have hti:=hd1 _ (xH hia);simp only[inR,bWo]at hti;obtain⟨t,hT⟩:=bTs hti.1.1;rw[hT]at hti;have ht:t<w.objs.length:=by omega
 have hf:(w.obj (t:Int)).form=6:=D_o hti.2;have hin:xZ w:=fun o ho x hx=>aUz hg o ho x ((aMy _ _).2 hx)
 have hu: ∀v∈((w.obj (t:Int)).frames.getD ((w.obj (t:Int)).frames.length-1) dJ).vals,v.kind=5->inR v.n 0 ((w.objs.length:Int)-1)=true:=fun v hv h5=>by
  have hfl:0<(w.obj (t:Int)).frames.length:=by
   cases hfr:(w.obj (t:Int)).frames with
   |nil=>rw[hfr]at hv;cases hv
   |cons=>simp
  rw[bSz,bTy (by omega)]at hv
  have hom:w.obj (t:Int)∈w.objs:=by rw[qJ ht];exact bS7 _
  exact hin _ hom _ (aK7 (bUn _ (bUa.2 ⟨_,bS7 _,bUn _ hv⟩)) h5)
 have hu0:(aF ((w.obj (t:Int)).frames.getD ((w.obj (t:Int)).frames.length-1) dJ).vals 0).kind=5->inR (aF ((w.obj (t:Int)).frames.getD ((w.obj (t:Int)).frames.length-1) dJ).vals 0).n 0 ((w.objs.length:Int)-1)=true:=by
  generalize ((w.obj (t:Int)).frames.getD ((w.obj (t:Int)).frames.length-1) dJ).vals=vs at hu⊢;cases vs with
  |nil=>intro h;exact absurd (show(0:Int)=5 from h) (of_decide_eq_false rfl)
  |cons v vs=>exact hu v (by simp)
 have hcalm:=sR (p:=p) (w:=w) (a:=(a:Int)) (by omega) hia
 revert hcalm
 unfold aM;simp only[hT];intro hcalm;split
 ·exact⟨bSx _,fun i hi _ _=>⟨hi,rfl⟩,fun i hi=>by rcases hi with h|h<;>exact absurd (show(0:Int)=_ from h.1) (of_decide_eq_false rfl),.inr ⟨by show¬(0:Int)=24;decide,rfl⟩,.inr ⟨by show¬(0:Int)=25;decide,rfl⟩,fun _ _ _ _=>rfl,fun h=>absurd (show(2:Int)=1 from h) (of_decide_eq_false rfl),fun _=>rfl⟩
 rename_i hn;have hn:(w.obj (t:Int)).n=0:=Decidable.not_not.1 hn;have z16: ∀i:Nat,¬(((0:Int)=16/\ i=w.objs.length) \/((0:Int)=18/\ (i:Int)=(aF ((w.obj (t:Int)).frames.getD ((w.obj (t:Int)).frames.length-1) dJ).vals 0).n)):=fun i h=>by rcases h with h|h<;>exact absurd h.1 (of_decide_eq_false rfl)
 split
 ·rename_i h1;split
  ·obtain⟨b1,b2,b3,b4,b5⟩:=aOn (s:=1) (b:=[aF (w.obj (t:Int)).vals 0]) (l:=[]) (vF (w:=w) (w':=w) rfl) hu0 ht hf
   refine⟨b1,fun i hi h3 _=>b2 i hi h3 (z16 i),fun i hi=>by rcases hi with h|h<;>exact absurd (show(0:Int)=_ from h.1) (of_decide_eq_false rfl),.inr ⟨by show¬(0:Int)=24;decide,rfl⟩,.inr ⟨by show¬(0:Int)=25;decide,rfl⟩,fun i hi h6 hx=>b4 i hi h6 (fun e=>hx (by rw[hT,e])),fun _=>?_,fun h=>absurd rfl h⟩
   rw[hT];simp only;rw[b5];intro e;rw[<-e]at hn;exact absurd hn (of_decide_eq_false rfl)
  ·obtain⟨b1,b2,b3,b4,b5⟩:=aOn (s:=0) (b:=[]) (l:=aCu (w.obj (t:Int)).frames (aF (w.obj (t:Int)).vals 0)) (vF (w:=w) (w':=w) rfl) hu0 ht hf;exact⟨b1,fun i hi h3 _=>b2 i hi h3 (z16 i),fun i hi=>by rcases hi with h|h<;>exact absurd (show(0:Int)=_ from h.1) (of_decide_eq_false rfl),.inr ⟨by show¬(0:Int)=24;decide,rfl⟩,.inr ⟨by show¬(0:Int)=25;decide,rfl⟩,fun i hi h6 hx=>b4 i hi h6 (fun e=>hx (by rw[hT,e])),fun h=>absurd (show(0:Int)=1 from h) (of_decide_eq_false rfl),fun _=>rfl⟩
 rename_i hv;split
 ·rw[pR];exact bE4 hT ht hf hia hn hv _ rfl hu0 aOm zX
 ·unfold qL;rw[wO hia];exact bE4 hT ht hf hia hn hv _ rfl hu0 bHg aHf
structure aEr (w w':aA):Prop where
 len:w.objs.length<=w'.objs.length
 outs:w'.outs=w.outs
 used:w'.used=w.used
 old: ∀i:Nat,i<w.objs.length->(w.obj i).form=3->w'.obj i=w.obj i
 new: ∀i:Nat,i<w'.objs.length->(w'.obj i).form=3->i<w.objs.length/\ w'.obj i=w.obj i
theorem aEr.refl (w:aA):aEr w w:=⟨bSx _,rfl,rfl,fun _ _ _=>rfl,fun _ h _=>⟨h,rfl⟩⟩
theorem aEr.trans {a b c:aA}(h:aEr a b)(k:aEr b c):aEr a c:=
 ⟨bS9 h.len k.len,k.outs.trans h.outs,k.used.trans h.used,fun i hi hf=>by
  have e:=h.old i hi hf;rw[k.old i (bTm hi h.len) (by rw[e];exact hf),e],fun i hi hf=>by
  obtain⟨h1,e1⟩:=k.new i hi hf;obtain⟨h2,e2⟩:=h.new i h1 (by rw[<-e1];exact hf)
  exact⟨h2,e1.trans e2⟩⟩
theorem aS0 (hg:bJ p w=true)(ha:a<w.tasks.length): ∃t:Nat,aX w a=(t:Int)/\ t<w.objs.length/\ (w.obj t).form=6:=by
 have hgw:cJ p w=true:=by simp only[bJ,bSw]at hg;exact hg.2
 have hia:inR (a:Int) 0 ((w.tasks.length:Int)-1)=true:=by simp only[inR,bWo];omega
 have htk:=(cH.1 hgw).2.2.2.2.1;simp only[gS,bSw]at htk;obtain⟨hd1,_⟩:=lY w _ _ htk.2;have hti:=hd1 _ (xH hia);simp only[inR,bWo]at hti;obtain⟨t,hT⟩:=bTs hti.1.1;rw[hT]at hti;exact⟨t,hT,by omega,D_o hti.2⟩
theorem bBm (hg:bJ p w=true)(ha:a<w.tasks.length)(h0:(aM p w a).what=0):aEr w (aM p w a).w:=by
 have hs:=aLa hg ha;have hia:inR (a:Int) 0 ((w.tasks.length:Int)-1)=true:=by simp only[inR,bWo];omega
 obtain⟨t,hT,ht,hf⟩:=aS0 hg ha;obtain⟨c,_⟩:=sR (p:=p) (w:=w) (a:=(a:Int)) (by omega) hia
 obtain⟨_,_,c2,c3,c4,_,c6⟩:=c h0
 refine⟨c2,c4,c6,fun i hi h3=>c3 i hi fun e=>?_,fun i hi h3=>hs.cell i hi h3 fun h=>?_⟩
 ·obtain rfl:i=t:=by omega
  rw[hf]at h3;exact absurd h3 (by decide)
 ·have:=hs.act0 (by rw[h0];decide)
  rcases h with h|h<;>(rw[this]at h;exact absurd h.1 (by decide))
theorem aQv {p:aD}{b:Nat}: ∀(k:Nat) {w:aA},bJ p w=true->b<w.tasks.length->aEr w (cS p b k w).1/\ bJ p (cS p b k w).1=true
 |0,w,hg,hb=>by rw[cS];split<;>exact⟨.refl w,hg⟩
 |k+1,w,hg,hb=>by
  rw[cS];split
  ·rename_i h0;obtain⟨g1,g2,_⟩:=oI hg hb;have:=aQv k g1 (by rw[(g2 h0).2];exact hb)
   exact⟨(bBm hg hb h0).trans this.1,this.2⟩
  ·exact⟨.refl w,hg⟩
theorem aOo {p:aD}: ∀(n b:Nat) {w:aA} {s:Nat},bJ p w=true->aEr w (eE p n b w s).1
 |0,_,w,_,_=> .refl w
 |n+1,b,w,s,hg=>by
  rw[eE];split
  ·rename_i hb;obtain⟨i1,i2⟩:=aQv (5000-s) hg hb;split
   ·exact i1.trans (aOo n (b+1) i2)
   ·exact i1
  ·exact .refl w
structure aS1 (p:aD) (w:aA) (k:Int) (a:Nat):Prop where
 lt:a<w.tasks.length
 pick:fY p w k=(a:Int)
 what:(aM p w a).what=1
 ev:(cV p w k).2.1=(aM p w a).e
 task:(aM p w a).e.task=(a:Int)
 step:aX1 w a (aM p w a)
 mid:bJ p (aM p w a).w=true
 fine:(aJ p (aM p w a).w 1).2.2=true
 world:(cV p w k).1=(aJ p (aM p w a).w 1).1
 rest:aEr (aM p w a).w (cV p w k).1
 calm:pF p (cV p w k).1 (cV p w k).1.tasks.length
theorem aY9 {k:Int}(hg:bJ p w=true)(hc:pF p w w.tasks.length)(h0:(cV p w k).2.2=0): ∃a,aS1 p w k a:=by
 have hs:aJ p w 0=(w,0,true):=uR hc 121 0 0;obtain⟨_,e2,e3,_⟩:=xG h0;obtain⟨t1,t2,t3⟩:=aQt hg h0;rw[hs]at e2 e3 t1 t2 t3
 simp only at e2 e3 t1 t2 t3
 have hw:(aJ p (aM p w (fY p w k)).w 1).2.2=true/\ (cV p w k).1=(aJ p (aM p w (fY p w k)).w 1).1:=by
  have hd:(fE p w k).2.2.2=0/\ (cV p w k).1=(fE p w k).1:=by
   unfold cV at h0⊢
   simp only at h0⊢
   split at h0
   ·cases h0
   rename_i h5
   split at h0
   ·rename_i h6;exact⟨h6,by rw[if_neg h5,if_pos h6]⟩
   ·rename_i h6;exact absurd h0 h6
  rw[hd.2];have h1:=hd.1;unfold fE at h1⊢;rw[hs]at h1⊢
  simp only at h1⊢
  rw[if_neg (by decide)]at h1⊢
  split at h1
  ·cases h1
  rename_i hr;rw[if_neg hr]
  split at h1
  ·cases h1
  rename_i hq;rw[if_neg hq]
  refine⟨?_,rfl⟩
  cases hb:(aJ p (aM p w (fY p w k)).w 1).2.2 with
  |true=>rfl
  |false=>exact absurd (.inl hb) hq
 simp only[inR,bWo]at e2;obtain⟨a,ha⟩:=bTs e2.1;rw[ha]at e2 e3 t1 t2 t3 hw;have hal:a<w.tasks.length:=by omega
 refine⟨a,hal,ha,t2,e3,by rw[<-e3];exact t1,aLa hg hal,t3,hw.1,hw.2,?_,?_⟩
 ·rw[hw.2];exact aOo 121 0 t3
 ·rw[hw.2];exact(qT t3 hw.1).2
variable {i m:Nat}{ks:List Int}{every:Int}
section
variable (h:gJ p w ks every m)(hc:pF p w w.tasks.length)
include h hc
theorem gJ.calm : ∀i,i<=m->pF p (wAt p w ks i) (wAt p w ks i).tasks.length
 |0,_=>hc
 |i+1,hi=>by
  obtain⟨a,ha⟩:=aY9 (kP (ks:=ks) h.g i) (gJ.calm i (by omega)) (h.ok i (by omega))
  exact ha.calm
theorem gJ.turn (hi:i<m): ∃a,aS1 p (wAt p w ks i) (ks.getD i 0) a:=aY9 (kP (ks:=ks) h.g i) (h.calm hc i (by omega)) (h.ok i hi)
end
variable {t:Nat}
section
variable (h:gJ p w ks every m)
include h
theorem gJ.more (count:aA->Int)(n:Int): ∀(k t:Nat),t+k=m->
  (∃u,t<=u/\ u<m/\ aHl p (cZ p w ks every m) count n t k=((u:Int),0)/\ n<count (wAt p w ks (u+1))/\ ∀i,t<=i->i<u->count (wAt p w ks (i+1))<=n) \/
  (aHl p (cZ p w ks every m) count n t k=(0,5)/\ ∀i,t<=i->i<m->count (wAt p w ks (i+1))<=n)
 |0,t,hk=> .inr ⟨rfl,fun i h1 h2=>by omega⟩
 |k+1,t,hk=>by
  rw[aHl,h.at_ (by omega),if_pos rfl]
  by_cases hn:n<count (wAt p w ks (t+1))
  ·rw[if_pos hn];exact .inl ⟨t,bSx _,by omega,rfl,hn,fun i h1 h2=>by omega⟩
  ·rw[if_neg hn];rcases gJ.more count n k (t+1) (by omega)with⟨u,h1,h2,h3,h4,h5⟩|⟨h1,h2⟩
   ·refine .inl ⟨u,by omega,h2,h3,h4,fun i hi hu=>?_⟩
    rcases bT5 t i with hx|hx
    ·exact h5 i hx hu
    ·obtain rfl:i=t:=by omega
     exact bUe.1 hn
   ·refine .inr ⟨h1,fun i hi hu=>?_⟩
    rcases bT5 t i with hx|hx
    ·exact h2 i hx hu
    ·obtain rfl:i=t:=by omega
     exact bUe.1 hn
variable (hc :pF p w w.tasks.length)
include hc
theorem gJ.outs (hi:i<m):((tAt p w ks i).2.1.act=24/\ (wAt p w ks (i+1)).outs=(wAt p w ks i).outs++[⟨(tAt p w ks i).2.1.n,(tAt p w ks i).2.1.v.n⟩]) \/(wAt p w ks (i+1)).outs=(wAt p w ks i).outs:=by
 obtain⟨a,ha⟩:=h.turn hc hi;have e:(tAt p w ks i).2.1=(aM p (wAt p w ks i) a).e:=ha.ev;have e2:(wAt p w ks (i+1)).outs=(aM p (wAt p w ks i) a).w.outs:=ha.rest.outs;rw[e,e2];rcases ha.step.outs with hx|hx
 ·exact .inl hx
 ·exact .inr hx.2
theorem gJ.used (hi:i<m):((tAt p w ks i).2.1.act=25/\ (wAt p w ks (i+1)).used=(wAt p w ks i).used+1) \/(wAt p w ks (i+1)).used=(wAt p w ks i).used:=by
 obtain⟨a,ha⟩:=h.turn hc hi;have e:(tAt p w ks i).2.1=(aM p (wAt p w ks i) a).e:=ha.ev;have e2:(wAt p w ks (i+1)).used=(aM p (wAt p w ks i) a).w.used:=ha.rest.used;rw[e,e2];rcases ha.step.used with hx|hx
 ·exact .inl hx
 ·exact .inr hx.2
theorem gJ.objs (hi:i<m):(wAt p w ks i).objs.length<=(wAt p w ks (i+1)).objs.length:=by
 obtain⟨a,ha⟩:=h.turn hc hi;exact bS9 ha.step.len ha.rest.len
def aHv (p:aD)(l:bL)(t:Nat)(o:Int):Prop:=(eD p l t).2.2=0/\ (eD p l t).1=o/\ ((eD p l t).2.1.act=16 \/(eD p l t).2.1.act=18)
theorem gJ.touch (ht:t<m):((eD p (cZ p w ks every m) t).2.2=0 \/(eD p (cZ p w ks every m) t).2.2=5)/\ (eD p (cZ p w ks every m) t).2.1=(tAt p w ks t).2.1/\
  ∃a,aS1 p (wAt p w ks t) (ks.getD t 0) a/\ ∀o:Nat,aHv p (cZ p w ks every m) t o↔Hit (wAt p w ks t) a (aM p (wAt p w ks t) a) o:=by
 obtain⟨a,ha⟩:=h.turn hc ht;have e:(tAt p w ks t).2.1=(aM p (wAt p w ks t) a).e:=ha.ev;have hs:aJ p (wAt p w ks t) 0=(wAt p w ks t,0,true):=uR (h.calm hc t (by omega)) 121 0 0
 have hx:eD p (cZ p w ks every m) t=(if(tAt p w ks t).2.1.act=17 \/(tAt p w ks t).2.1.act=18 \/(tAt p w ks t).2.1.act=22 \/(tAt p w ks t).2.1.act=23 \/(tAt p w ks t).2.1.act=20 then(aC6 (wAt p w ks t) (tAt p w ks t).2.1.task,(tAt p w ks t).2.1,0)
  else if(tAt p w ks t).2.1.act=16 \/(tAt p w ks t).2.1.act=21 \/(tAt p w ks t).2.1.act=19 then(((wAt p w ks t).objs.length:Int),(tAt p w ks t).2.1,0)
  else(0,(tAt p w ks t).2.1,5)):=by
  unfold eD;rw[h.after ht,if_pos rfl,h.at_ (by omega)]
  simp only[hs]
 refine⟨?_,?_,a,ha,fun o=>?_⟩
 ·rw[hx];split
  ·exact .inl rfl
  split
  ·exact .inl rfl
  ·exact .inr rfl
 ·rw[hx];split
  ·rfl
  split<;>rfl
 ·unfold aHv Hit;rw[hx,e,ha.task];obtain⟨c,hcc⟩: ∃c,(aM p (wAt p w ks t) a).e.act=c:=⟨_,rfl⟩
  rw[hcc];constructor
  ·rintro⟨h1,h2,h3⟩
   rcases h3 with h3|h3
   ·have hc:c=16:=by
     revert h3;split
     ·exact fun h=>hcc.symm.trans h
     split<;>exact fun h=>hcc.symm.trans h
    subst hc
    simp at h2
    exact .inl ⟨rfl,by omega⟩
   ·have hc:c=18:=by
     revert h3;split
     ·exact fun h=>hcc.symm.trans h
     split<;>exact fun h=>hcc.symm.trans h
    subst hc;simp[aC6]at h2;exact .inr ⟨rfl,h2.symm⟩
  ·rintro(⟨rfl,h2⟩|⟨rfl,h2⟩)
   ·simp[hcc];omega
   ·simp[aC6,hcc]at h2⊢;exact h2.symm
theorem gJ.cell (ht:t<m){o:Nat}(hn: ¬aHv p (cZ p w ks every m) t o)(ho:o<(wAt p w ks (t+1)).objs.length)(hf:((wAt p w ks (t+1)).obj o).form=3):
  o<(wAt p w ks t).objs.length/\ (wAt p w ks t).obj o=(wAt p w ks (t+1)).obj o:=by
 obtain⟨_,_,a,ha,hh⟩:=h.touch hc ht;obtain⟨h1,e1⟩:=ha.rest.new o ho hf;obtain⟨h2,e2⟩:=ha.step.cell o h1 (by rw[<-e1];exact hf) (fun x=>hn ((hh o).2 x))
 exact⟨h2,(e1.trans e2).symm⟩
theorem gJ.hit (ht:t<m){o:Nat}(hn:aHv p (cZ p w ks every m) t o):
  o<(wAt p w ks (t+1)).objs.length/\ ∃v,(wAt p w ks (t+1)).obj o=⟨3,0,[v],[]⟩/\ (tAt p w ks t).2.1.v=nG v:=by
 obtain⟨_,_,a,ha,hh⟩:=h.touch hc ht;obtain⟨h1,v,e1,e2⟩:=ha.step.hit o ((hh o).1 hn);have e3:=ha.rest.old o h1 (by rw[e1])
 have e:(tAt p w ks t).2.1=(aM p (wAt p w ks t) a).e:=ha.ev;exact⟨bTm h1 ha.rest.len,v,e3.trans e1,by rw[e];exact e2⟩
theorem gJ.writer (o:Nat): ∀n,n<=m->(∃t,t<n/\ dU p (cZ p w ks every m) o n=((t:Int),0)/\ aHv p (cZ p w ks every m) t o/\ ∀i,t<i->i<n-> ¬aHv p (cZ p w ks every m) i o) \/
  (dU p (cZ p w ks every m) o n=(0,5)/\ ∀i,i<n-> ¬aHv p (cZ p w ks every m) i o)
 |0,_=> .inr ⟨rfl,fun i hi=>absurd hi (Nat.not_lt_zero i)⟩
 |t+1,hn=>by
  obtain⟨hx,_,_⟩:=h.touch hc (t:=t) (by omega)
  rw[dU,if_neg (by rintro⟨h1,h2⟩;rcases hx with hx|hx;exact h1 hx;exact h2 hx)]
  by_cases hh:aHv p (cZ p w ks every m) t o
  ·rw[if_pos (show _/\ _/\ _ from hh)]
   exact .inl ⟨t,Nat.lt_succ_self t,rfl,hh,fun i h1 h2=>by omega⟩
  ·rw[if_neg (show¬(_/\ _/\ _)from hh)]
   rcases gJ.writer o t (by omega)with⟨u,h1,h2,h3,h4⟩|⟨h1,h2⟩
   ·refine .inl ⟨u,by omega,h2,h3,fun i hi hu=>?_⟩
    rcases bT5 i t with hy|hy
    ·exact h4 i hi hy
    ·obtain rfl:i=t:=by omega
     exact hh
   ·refine .inr ⟨h1,fun i hi=>?_⟩
    rcases bT5 i t with hy|hy
    ·exact h2 i hy
    ·obtain rfl:i=t:=by omega
     exact hh
theorem gJ.kept (o:Nat): ∀(k i:Nat),i+k<=m->(∀j,i<=j->j<i+k-> ¬aHv p (cZ p w ks every m) j o)->o<(wAt p w ks (i+k)).objs.length->((wAt p w ks (i+k)).obj o).form=3->
  o<(wAt p w ks i).objs.length/\ (wAt p w ks i).obj o=(wAt p w ks (i+k)).obj o
 |0,i,_,_,h1,_=>⟨h1,rfl⟩
 |k+1,i,hk,hn,h1,h2=>by
  have e:i+(k+1)=i+1+k:=by omega
  rw[e]at h1 h2⊢;obtain⟨a1,a2⟩:=gJ.kept o k (i+1) (by omega) (fun j hj hj'=>hn j (by omega) (by omega)) h1 h2
  obtain⟨b1,b2⟩:=h.cell hc (t:=i) (by omega) (hn i (bSx i) (by omega)) a1 (by rw[a2];exact h2)
  exact⟨b1,b2.trans a2⟩
end
section
variable (h:gJ p w ks every m)(hc:pF p w w.tasks.length)
include h hc
end
set_option maxRecDepth 100000
set_option maxHeartbeats 4000000
variable {en:En}{k:Nat}
theorem bE6 {l:List fB}{e:fB}(h:l[k]?=some e):mH 5 en (.fz (l.map evV)) (.i (k:Int))=some {v:= .fp [.i e.task,.i e.act,.i e.n,.i e.v.kind,.i e.v.n] 0}:=by
 simp[mH,h,evV];exact⟨rfl,rfl⟩
theorem aV9 {a b:Int}:cW .neq (.agg [.num,.num]) (.agg [.i a,.i b]) (.agg [.i a,.i b])=some (.bool false):=by simp[cW,oU,jJ,vH]
section
variable (h:gJ p w ks every m)
include h
end
def C_4 :fR:={np:=6,res:=[.tmp 12],keep:=false,body:=
 (.seq (.ops [bX 6 4 0,
 bX 7 5 1,
 mC 12 (.bool false)])
 (.seq (.seq (.ops [lT 31 4 6,
 lT 32 5 7,
 mT 33 2,
 mT 34 3,
 cL 35 8 [(.t 31),(.t 32),(.t 33),(.t 34)],
 nT 36 35])
 (.cond (.t 36)
 (.seq (.ops [cL 37 9 [],
 mT 12 37])
 .ret)
 .skip))
 (.seq (.ops [lT 39 4 6,
 lT 40 5 7,
 mT 41 2,
 mT 42 3,
 cL 43 10 [(.t 39),(.t 40),(.t 41),(.t 42)],
 mT 38 43,
 o 44 (.ext 0 (.t 38)),
 o 45 (.ext 1 (.t 38)),
 o 46 (.ext 2 (.t 38)),
 o 47 (.ext 3 (.t 38)),
 o 13 (.alloc [(.int .i64 0),(.cl []),(.cl [])]),
 sT 3 13 44,
 mT 14 45,
 mT 15 46,
 mT 16 47])
 (.seq (.seq (.ops [mT 48 15,
 nT 49 48,
 mT 50 49,
 gM 51 50 false 16,
 og 52 50 false (.un .not (.t 51)),
 pO 53 50 52])
 (.cond (.t 53)
 (.seq (.ops [mT 54 16,
 mT 55 54,
 gL 56 55 true 9 [],
 pA 57 55 56,
 mT 12 57])
 .ret)
 .skip))
 (.seq (.seq (.ops [mT 58 4,
 bN 59 .lss (.t 58) (cI 0),
 mT 60 59,
 gM 61 60 false 4,
 gM 62 60 false 14,
 gN 63 60 false 62,
 gB 64 60 false .gtr (.t 61) (.t 63),
 pO 65 60 64,
 mT 66 65,
 gM 67 66 false 5,
 gB 68 66 false .lss (.t 67) (cI 0),
 pO 69 66 68])
 (.cond (.t 69)
 (.seq (.ops [cL 70 9 [],
 mT 12 70])
 .ret)
 .skip))
 (.seq (.ops [lT 72 4 6,
 lT 73 3 13,
 mT 74 4,
 cL 75 12 [(.t 72),(.t 73),(.t 74)],
 mT 71 75,
 o 76 (.ext 0 (.t 71)),
 o 77 (.ext 1 (.t 71)),
 o 78 (.ext 2 (.t 71)),
 o 17 (.alloc [(.cl []),(.cl []),(.cl []),(.cl []),(.int .i64 0)]),
 sT 5 17 76,
 mT 18 77,
 mT 19 78])
 (.seq (.ops [lT 80 4 6,
 lT 81 3 13,
 mT 82 4,
 mT 83 5,
 cL 84 17 [(.t 80),(.t 81),(.t 82),(.t 83)],
 mT 79 84,
 o 85 (.ext 0 (.t 79)),
 o 86 (.ext 1 (.t 79)),
 mT 20 85,
 mT 21 86])
 (.seq (.seq (.ops [lT 87 5 17,
 cL 88 18 [(.t 87)],
 nT 89 88,
 mT 90 89,
 gT 91 90 false 4 6,
 gT 92 90 false 5 17,
 gL 93 90 false 19 [(.t 91),(.t 92)],
 og 94 90 false (.un .not (.t 93)),
 pO 95 90 94])
 (.cond (.t 95)
 (.seq (.ops [mC 12 (.bool false)])
 .ret)
 .skip))
 (.seq (.seq (.ops [mT 96 5,
 fA 97 0 17,
 l1 98 97,
 lN 99 98,
 bN 100 .geq (.t 96) (.t 99),
 mT 101 100,
 gF 102 101 false 0 17,
 g1 103 101 false 102,
 gM 104 101 false 5,
 og 105 101 false (.ia 4 (.t 103) (.t 104)),
 gF 106 101 false 0 105,
 g1 107 101 false 106,
 gB 108 101 false .neq (.t 107) (cI 3),
 pO 109 101 108])
 (.cond (.t 109)
 (.seq (.ops [mT 110 21,
 bN 111 .eql (.t 110) (cI 7),
 mT 112 111,
 gL 113 112 true 9 [],
 pA 114 112 113,
 mT 12 114])
 .ret)
 .skip))
 (.seq (.ops [mT 115 20,
 bN 116 .add (.t 115) (cI 1),
 mT 22 116])
 (.seq (.seq (.ops [mT 117 21,
 bN 118 .eql (.t 117) (cI 5)])
 (.cond (.t 118)
 (.ops [mC 22 (.int .i64 0)])
 (.seq (.draw [mT 119 21,
 bN 120 .neq (.t 119) (cI 0),
 mT 121 120,
 gM 122 121 false 20,
 gB 123 121 false .lss (.t 122) (cI 0),
 pO 124 121 123,
 mT 125 124,
 gM 126 125 false 20,
 gM 127 125 false 4,
 gB 128 125 false .geq (.t 126) (.t 127),
 pO 129 125 128,
 mT 130 129,
 gM 131 130 false 14,
 gM 132 130 false 20,
 og 133 130 false (.ia 5 (.t 131) (.t 132)),
 gF 134 130 false 1 133,
 g1 135 130 false 134,
 gB 136 130 false .neq (.t 135) (cI 16),
 gM 137 130 false 136,
 gM 138 137 true 14,
 gM 139 137 true 20,
 og 140 137 true (.ia 5 (.t 138) (.t 139)),
 gF 141 137 true 1 140,
 g1 142 137 true 141,
 gB 143 137 true .neq (.t 142) (cI 18),
 og 144 130 false (.pick (.t 137) (.t 143) (cB false)),
 pO 145 130 144,
 mT 146 145,
 gM 147 146 false 14,
 gM 148 146 false 20,
 og 149 146 false (.ia 5 (.t 147) (.t 148)),
 gF 150 146 false 3 149,
 gT 151 146 false 2 150,
 gF 152 146 false 0 17,
 g1 153 146 false 152,
 gM 154 146 false 5,
 og 155 146 false (.ia 4 (.t 153) (.t 154)),
 gF 156 146 false 2 155,
 g1 157 146 false 156,
 og 158 146 false (.ia 2 (.t 157) (cI 0)),
 gT 159 146 false 2 158,
 gL 160 146 false 20 [(.t 159)],
 og 161 146 false (.bin .neq (.agg [.num,.num]) (.t 151) (.t 160)),
 pO 162 146 161]
 [(30,41),(32,41)])
 (.cond (.t 162)
 (.seq (.ops [mC 12 (.bool false)])
 .ret)
 .skip))))
 (.seq (.seq (.ops [mT 163 22,
 mT 23 163])
 (.block 0 (.loop (.seq (.seq (.ops [mT 164 23,
 mT 165 4,
 bN 166 .leq (.t 164) (.t 165)])
 (.cond (.t 166)
 .skip
 (.exit 0)))
 (.seq (.block 1 (.seq (.draw [lT 170 4 6,
 lT 171 5 7,
 mT 172 2,
 mT 173 23,
 o 174 (.slice false 1 (.t 172) none (some (.t 173)) none),
 cL 175 13 [(.t 170),(.t 171),(.t 174)],
 mT 169 175,
 o 176 (.ext 0 (.t 169)),
 o 177 (.ext 1 (.t 169)),
 o 178 (.ext 2 (.t 169)),
 o 24 (.alloc [(.cl []),(.cl []),(.cl []),(.cl []),(.int .i64 0)]),
 sT 5 24 176,
 mT 25 177,
 mT 26 178]
 [(0,10),(1,10),(4,10),(5,10)])
 (.seq (.seq (.draw [mT 179 26,
 bN 180 .neq (.t 179) (cI 0),
 mT 181 180,
 gM 182 181 false 5,
 gF 183 181 false 0 24,
 g1 184 181 false 183,
 gN 185 181 false 184,
 gB 186 181 false .geq (.t 182) (.t 185),
 pO 187 181 186,
 mT 188 187,
 gF 189 188 false 0 24,
 g1 190 188 false 189,
 gM 191 188 false 5,
 og 192 188 false (.ia 4 (.t 190) (.t 191)),
 gT 193 188 false 4 192,
 gF 194 188 false 0 17,
 g1 195 188 false 194,
 gM 196 188 false 5,
 og 197 188 false (.ia 4 (.t 195) (.t 196)),
 gT 198 188 false 4 197,
 gL 199 188 false 21 [(.t 193),(.t 198)],
 og 200 188 false (.un .not (.t 199)),
 pO 201 188 200]
 [])
 (.cond (.t 201)
 (.seq (.ops [mC 12 (.bool false)])
 .ret)
 .skip))
 (.seq (.seq (.ops [mT 202 23,
 mT 203 4,
 bN 204 .eql (.t 202) (.t 203)])
 (.cond (.t 204)
 (.exit 0)
 .skip))
 (.seq (.ops [lT 206 4 6,
 lT 207 3 13,
 mT 208 23,
 cL 209 22 [(.t 206),(.t 207),(.t 208)],
 mT 205 209,
 o 210 (.ext 0 (.t 205)),
 o 211 (.ext 1 (.t 205)),
 mT 27 210,
 mT 28 211])
 (.seq (.ops [mT 212 28,
 bN 213 .eql (.t 212) (cI 0),
 mT 214 213,
 gM 215 214 true 27,
 gM 216 214 true 5,
 gB 217 214 true .eql (.t 215) (.t 216),
 pA 218 214 217,
 mT 219 218,
 gM 220 219 true 14,
 gM 221 219 true 23,
 og 222 219 true (.ia 5 (.t 220) (.t 221)),
 gF 223 219 true 1 222,
 g1 224 219 true 223,
 gB 225 219 true .eql (.t 224) (cI 18),
 gM 226 219 true 225,
 gM 227 226 false 14,
 gM 228 226 false 23,
 og 229 226 false (.ia 5 (.t 227) (.t 228)),
 gF 230 226 false 1 229,
 g1 231 226 false 230,
 gB 232 226 false .eql (.t 231) (cI 16),
 og 233 219 true (.pick (.t 226) (cB true) (.t 232)),
 pA 234 219 233])
 (.cond (.t 234)
 (.seq (.ops [mC 12 (.bool false)])
 .ret)
 .skip)))))))
 (.ops [mT 167 23,
 bN 168 .add (.t 167) (cI 1),
 mT 23 168]))))))
 (.seq (.seq (.ops [mT 235 21,
 bN 236 .eql (.t 235) (cI 0)])
 (.cond (.t 236)
 (.seq (.ops [lT 238 4 6,
 lT 239 3 13,
 mT 240 20,
 cL 241 22 [(.t 238),(.t 239),(.t 240)],
 mT 237 241,
 o 242 (.ext 0 (.t 237)),
 o 243 (.ext 1 (.t 237)),
 mT 29 242,
 mT 30 243])
 (.seq (.ops [mT 244 30,
 bN 245 .eql (.t 244) (cI 0),
 mT 246 245,
 gM 247 246 true 29,
 gM 248 246 true 5,
 gB 249 246 true .eql (.t 247) (.t 248),
 pA 250 246 249,
 mT 251 250,
 gL 252 251 true 9 [],
 pA 253 251 252,
 mT 12 253])
 .ret))
 .skip))
 (.seq (.ops [cL 254 9 [],
 mT 12 254])
 .ret))))))))))))))}
theorem L_4 :L 4=some C_4:=by kernel_rfl
theorem aZa {l:List aP}{o:aP}(h:l[k]?=some o):mH 4 en (.fz (l.map aP.enc)) (.i (k:Int))=some {v:= .fp [.i o.form,.i o.n,.fz (o.vals.map aE.enc),.fz (o.frames.map aB.enc)] 0}:=by
 simp[mH,h,aP.enc];exact⟨rfl,rfl⟩
theorem bE7 {v:aE}:mH 2 en (.fz [.agg [.i v.kind,.i v.n]]) (.i 0)=some {v:= .fp [.i v.kind,.i v.n] 0}:=(rfl)
theorem bE8 {o:Nat}(h:o<w.objs.length):w.objs[o]?=some (w.obj o):=by rw[qJ h,bTy h]
set_option maxHeartbeats 8000000 in
theorem aI0 (hk:PC L 9 [] (.bool true))(hpf:p.few)(hwf:w.few)(ks:List Int)(every n object:Int):PC L 4 [.agg p.cs,.agg w.cs,.is ks,.i every,.i n,.i object] (.bool true):=by
 have hG:=uS hpf hwf ks every
 refine cD L_4 rfl rfl ?_
 cases hgv:aDb p w ks every with
 |false=>
  rw[hgv]at hG;simp only[go_sem,kK,C_4,hG.ret,hk.ret,bTf,kF]
 |true=>
 rw[hgv]at hG;obtain⟨hsp,hg,hks,e1,e2⟩:=yE hgv;rcases tW hpf hwf hsp (ks:=ks) (by omega) hg e1 e2 with⟨hs,hM⟩|⟨hs,m,hm,hend,hM⟩
 ·simp only[tS,bL.cs]at hM;simp only[go_sem,kK,C_4,hG.ret,hM.ret,hk.ret,bS6,bTf,kF]
 have hc:=(qT hg hs).2;have hPl:=fun{n:Nat} (h:gJ p (aJ p w 0).1 ks every n)=>aKd hsp hg hs h
 simp only[Val.is,bUd]at hPl;have hlf:=hm.few hsp;have hml:=hm.le;have hm2:=hm.m200;have hlen:(oT p (aJ p w 0).1 ks m).length=m:=yD
 by_cases hn:0<=n
 case neg=>simp only[go_sem,kK,C_4,hG.ret,hM.ret,hk.ret,D_t (Int.not_le.1 hn),bS6,kF]
 obtain⟨b,rfl⟩:=bTs hn
 by_cases hb:b<=m
 case neg=>simp only[go_sem,kK,C_4,hG.ret,hM.ret,hk.ret,D_f (bUe.2 hn),bSy,hlen,D_t (show m<b by omega),bS6,kF]
 by_cases ho:0<=object
 case neg=>simp only[go_sem,kK,C_4,hG.ret,hM.ret,hk.ret,D_f (bUe.2 hn),bSy,hlen,D_f (show¬m<b by omega),D_t (Int.not_le.1 ho),bS6,kF]
 obtain⟨o,rfl⟩:=bTs ho;have hA:=aBd hpf hlf hsp b;rw[hm.atR hb]at hA;have hW:=aOe hpf hlf hsp b o;rw[show aK8 p (cZ p (aJ p w 0).1 ks every m) b o=aHk p (cZ p (aJ p w 0).1 ks every m) b o from if_pos ⟨hm.log,hn,by rw[hm.len];omega,ho⟩]at hW
 have hgb:=kP (ks:=ks) hm.g b;have hSW:=nS (wAt p (aJ p w 0).1 ks b) (fC hsp hgb);rw[tV hsp hgb]at hSW;have hWd:=rI p (wAt p (aJ p w 0).1 ks b) hpf (fC hsp hgb);rw[show cJ p (wAt p (aJ p w 0).1 ks b)=true by simp only[bJ,bSw]at hgb;exact hgb.2]at hWd
 have hX:aHk p (cZ p (aJ p w 0).1 ks every m) b o=if((wAt p (aJ p w 0).1 ks b).objs.length:Int)<=o \/ ¬((wAt p (aJ p w 0).1 ks b).obj o).form=3 then(0,7)else dU p (cZ p (aJ p w 0).1 ks every m) o b:=by
  unfold aHk;rw[hm.at_ hb,if_pos rfl]
 by_cases hol:o<(wAt p (aJ p w 0).1 ks b).objs.length
 case neg=>
  rw[hX,if_pos (.inl (by omega))]at hW
  simp only[go_sem,kK,C_4,hG.ret,hM.ret,hk.ret,D_f (bUe.2 hn),bSy,hlen,D_f (show¬m<b by omega),D_f (bUe.2 ho),hA.ret,hW.ret,hSW.ret,hWd.ret,show(wAt p (aJ p w 0).1 ks b).objs.length<=o by omega,bS6,decide_true,kF]
 have hia:=fun en=>aZa (en:=en) (bE8 hol)
 by_cases hf3:((wAt p (aJ p w 0).1 ks b).obj o).form=3
 case neg=>
  rw[hX,if_pos (.inr hf3)]at hW;simp only[go_sem,kK,C_4,hG.ret,hM.ret,hk.ret,D_f (bUe.2 hn),bSy,hlen,D_f (show¬m<b by omega),D_f (bUe.2 ho),hA.ret,hW.ret,hSW.ret,hWd.ret,show¬(wAt p (aJ p w 0).1 ks b).objs.length<=o by omega,hia,D_f hf3,decide_false,bS6,bTf,decide_true,kF]
 rw[hX,if_neg (by rintro(h|h);omega;exact h hf3)]at hW
 have hkp:=hm.kept hc o;have hht:=fun t (ht:t<m)=>hm.hit hc ht (o:=o)
 have hto:=fun t (ht:t<m)=>hm.touch hc ht
 have hwr:=hm.writer hc o b hb;have hSO:=aCk ((wAt p (aJ p w 0).1 ks b).obj o) ((wAt p (aJ p w 0).1 ks b).obj o) ((fC hsp hgb).obj _ (by rw[qJ hol];exact bS7 _))
 simp only[decide_true]at hSO;have hTo:=fun(t:Nat) (ht:t<m)=>aKu hpf hlf hsp t
 have hTr: ∀t:Nat,t<m->aDa p (cZ p (aJ p w 0).1 ks every m) t=((eD p (cZ p (aJ p w 0).1 ks every m) t).1,(eD p (cZ p (aJ p w 0).1 ks every m) t).2.2):=fun t ht=>by
  unfold aDa;rw[if_pos ⟨hm.log,by omega,by rw[hm.len];omega⟩];rfl
 have hev:=fun(t:Nat) (ht:t<m) en=>bE6 (en:=en) (aY7 (p:=p) (w:=(aJ p w 0).1) (ks:=ks) ht)
 generalize hl:cZ p (aJ p w 0).1 ks every m=l at*;generalize hw0:(aJ p w 0).1=w0 at*;obtain⟨rT,rE,hrr,a,hab,hno,hcs⟩: ∃rT rE:Int,dU p l o b=(rT,rE)/\ ∃a:Nat,a<=b/\ (∀j,a<=j->j<b-> ¬aHv p l j o)/\ ((rE=5/\ a=0) \/(rE=0/\ ∃t:Nat,t<b/\ rT=(t:Int)/\ a=t+1/\ aHv p l t o)):=by
  rcases hwr with⟨t,h1,h2,h3,h4⟩|⟨h1,h2⟩
  ·exact⟨_,_,h2,t+1,h1,fun j hj hj'=>h4 j hj hj',.inr ⟨rfl,t,h1,rfl,rfl,h3⟩⟩
  ·exact⟨_,_,h1,0,bS4 _,fun j _ hj=>h2 j hj,.inl ⟨rfl,rfl⟩⟩
 rw[hrr]at hW;simp only[go_sem,kK,C_4,hG.ret,hM.ret,D_f (bUe.2 hn),bSy,hlen,D_f (show¬m<b by omega),D_f (bUe.2 ho),hA.ret,hW.ret,hSW.ret,hWd.ret,show¬(wAt p w0 ks b).objs.length<=o by omega,hia,D_t hf3,decide_false,bS6,kF]
 rcases hcs with⟨rfl,rfl⟩|⟨rfl,t,ht,rfl,rfl,hhit⟩
 case' inl=>
  simp only[go_sem,decide_true];obtain⟨T,hT⟩: ∃T:Int,T=rT:=⟨_,rfl⟩
  obtain⟨E,hE⟩: ∃E:Int,E=5:=⟨_,rfl⟩
  obtain⟨a,ha⟩: ∃a:Nat,a=0:=⟨_,rfl⟩
  have hfin:E=5 \/(E=0/\ ∃t:Nat,t<b/\ T=(t:Int)/\ aHv p l t o):= .inl hE
  rw[<-ha]at hno hab
 case' inr=>
  obtain⟨q1,v,q2,q3⟩:=hht t (by omega) hhit
  have q4:=hkp (b-(t+1)) (t+1) (by omega) (fun j hj hj'=>hno j hj (by omega)) (by rw[show t+1+(b-(t+1))=b by omega];exact hol) (by rw[show t+1+(b-(t+1))=b by omega];exact hf3)
  rw[show t+1+(b-(t+1))=b by omega,q2]at q4
  have hia':=hia;simp only[<-q4.2,bTv,bTe,aE.enc]at hia';have hMk:=aIm v;have hact:(tAt p w0 ks t).2.1.act=16 \/(tAt p w0 ks t).2.1.act=18:=by
   have:=hhit.2.2;rw[(hto t (by omega)).2.1]at this
   exact this
  have hw1:IntKind.i64.wrap ((t:Int)+1)=((t+1:Nat):Int):=by rw[aV (by omega)];rfl
  simp only[go_sem,kK,hw1]
  refine aH ?_
  obtain⟨T,hT⟩: ∃T:Int,T=(t:Int):=⟨_,rfl⟩
  obtain⟨E,hE⟩: ∃E:Int,E=0:=⟨_,rfl⟩
  obtain⟨a,ha⟩: ∃a:Nat,a=t+1:=⟨_,rfl⟩
  have hfin:E=5 \/(E=0/\ ∃t:Nat,t<b/\ T=(t:Int)/\ aHv p l t o):= .inr ⟨hE,t,ht,hT,hhit⟩
  rw[<-ha]at hno hab;rcases hact with h16|h18
  case' inl=>simp only[go_sem,kK,h16,hev t (by omega),show¬b<=t by omega,show¬(t:Int)<0 by omega,decide_false,hia',bE7,hMk.ret,q3,aV9,bS6,bUc,decide_true,kA,kF]
  case' inr=>simp only[go_sem,kK,h18,hev t (by omega),show¬b<=t by omega,show¬(t:Int)<0 by omega,decide_false,hia',bE7,hMk.ret,q3,aV9,bS6,bTf,bUc,decide_true,kA,kF]
 all_goals
  refine bK b (fun i st=> ∃fr en cnt,st=⟨fr,en,cnt⟩/\ a<=i/\ fr 2= .is ks/\ fr 4= .i (b:Int)/\ fr 5= .i (o:Int)/\ fr 6= .ptr ⟨0,6,0⟩ 0/\ fr 7= .ptr ⟨0,7,0⟩ 0/\ fr 13= .ptr ⟨0,13,0⟩ 0/\ fr 14= .fz ((oT p w0 ks m).map evV)/\ fr 17= .ptr ⟨0,17,0⟩ 0/\ fr 20= .i T/\ fr 21= .i E/\ fr 23= .i (i:Int)/\
   en ⟨0,6,0⟩=some (.box p.cs false)/\ en ⟨0,7,0⟩=some (.box w.cs false)/\ en ⟨0,13,0⟩=some (.box l.cs false)/\ en ⟨0,17,0⟩=some (.box (wAt p w0 ks b).cs false)) a hab ⟨_,_,_,rfl,bSx a,by simp only[go_sem],by simp only[go_sem],by simp only[go_sem],by simp only[go_sem],by simp only[go_sem],by simp only[go_sem],by simp only[go_sem],by simp only[go_sem],by simp only[go_sem,hT],by simp only[go_sem,hE],by simp only[go_sem,ha];(try rfl),by simp only[go_sem],by simp only[go_sem],by simp only[go_sem],by simp only[go_sem]⟩ ?_
  rintro i st hib ⟨fr,en,cnt,rfl,hai,f2,f4,f5,f6,f7,f13,f14,f17,f20,f21,f23,e6,e7,e13,e17⟩
  have hki:=hkp (b-i) i (by omega) (fun j hj hj'=>hno j (by omega) (by omega)) (by rw[show i+(b-i)=b by omega];exact hol) (by rw[show i+(b-i)=b by omega];exact hf3)
  rw[show i+(b-i)=b by omega]at hki
  have hii:=fun en=>aZa (en:=en) (bE8 hki.1)
  simp only[hki.2]at hii;have hP:=hPl (hm.le' (show i<=m by omega))
  simp only[go_sem,kK,f4,f23,show(i:Int)<=(b:Int)by omega,decide_true]
  refine aH ?_
  simp only[go_sem,kK,f2,f5,f6,f7,f23,e6,e7,bSy,show i<=ks.length by omega,hP.ret,bS6,bTo,bUc,bT6,decide_true,kA,kF]
  simp only[go_sem,kK,f4,f5,f17,f23,e17,show¬(wAt p w0 ks i).objs.length<=o by omega,decide_false,hii,hia,hSO.ret,bS6,kF]
  by_cases hib':i=b
  ·subst hib';simp only[go_sem,kK,decide_true,f21,f23,decide_true,kF];rcases hfin with hE'|⟨hE',t,ht',hT',hh'⟩
   ·simp only[go_sem,hE',hk.ret,kF]
    done
   ·have hTt:=hTo t (by omega)
    rw[hTr t (by omega),hh'.1,hh'.2.1]at hTt
    simp only[go_sem,kK,f5,f6,f13,f20,e6,e13,hE',hT',hTt.ret,hk.ret,decide_true,kF]
    done
  have hTt:=hTo i (by omega)
  have hne:=hno i hai (by omega)
  rw[hTr i (by omega)]at hTt
  have hae:=(hto i (by omega)).2.1
  have hw5:IntKind.i64.wrap ((i:Int)+1)=((i+1:Nat):Int):=by rw[aV (by omega)];rfl
  unfold aHv at hne;rw[hae]at hne;have hlt:i<b:=by omega
  simp only[go_sem,kK,D_f hib',f6,f13,f23,e6,e13,hTt.ret,kF];rcases Decidable.em ((eD p l i).2.2=0)with g0|g0
  case' inr=>simp only[go_sem,kK,D_f g0,f23,hw5]
  case' inl=>
   simp only[go_sem,kK,D_t g0,f5];rcases Decidable.em ((eD p l i).1=(o:Int))with g1|g1
   case' inr=>simp only[go_sem,kK,D_f g1,f23,hw5]
   case' inl=>
    have g2: ¬(tAt p w0 ks i).2.1.act=16:=fun h=>hne ⟨g0,g1,.inl h⟩
    have g3: ¬(tAt p w0 ks i).2.1.act=18:=fun h=>hne ⟨g0,g1,.inr h⟩
    simp only[go_sem,kK,D_t g1,D_f g2,D_f g3,hev i (by omega),f14,f23,hw5,kF]
  all_goals exact⟨hlt,_,_,_,rfl,by omega,by simp only[go_sem,f2],by simp only[go_sem,f4],by simp only[go_sem,f5],by simp only[go_sem,f6],by simp only[go_sem,f7],by simp only[go_sem,f13],by simp only[go_sem,f14],by simp only[go_sem,f17],by simp only[go_sem,f20],by simp only[go_sem,f21],by simp only[go_sem],by simp only[go_sem,e6],by simp only[go_sem,e7],by simp only[go_sem,e13],by simp only[go_sem,e17]⟩
end Go.Proofs.YtmafmhjndjmalaaGreat

