import Derived.Test.YtmafmhjndjmalaaGreatM1d
set_option linter.all false
open Bool renaming and_eq_true -> bQj, eq_iff_iff -> bSw, false_eq_true -> bQm, not_eq_true -> bRu, or_true -> bSj
open Int renaming eq_ofNat_of_zero_le -> bRn, le_refl -> bS9, natCast_nonneg -> bS7, toNat_natCast -> bRh
open List renaming all_cons -> bSs, all_eq_true -> bQp, append_nil -> bRk, cons_append -> bS2, countP_le_length -> bTu, drop_eq_getElem_cons -> bRt, drop_length -> bSh, drop_zero -> bSm, flatMap_cons -> bS5, flatMap_nil -> bSn, getD_eq_getElem?_getD -> bQn, getElem?_append_left -> bSq, getElem?_cons_zero -> bS6, getElem?_eq_getElem -> bRq, getElem?_set_ne -> bTx, getElem_mem -> bQr, length_append -> bQ2, length_cons -> bQu, length_drop -> bS3, length_map -> bQl, length_nil -> bQz, length_pos_iff -> bTm, length_set -> bSb, length_singleton -> bS0, length_take -> bR2, map_append -> bRl, map_cons -> bRj, map_drop -> bTh, map_nil -> bQ1, map_set -> bSz, map_take -> bSc, mem_append -> bRb, mem_cons -> bRm, mem_filter -> bR6, mem_flatMap -> bRx, mem_map -> bRe, mem_of_mem_take -> bS8, mem_range -> bRi, mem_singleton -> bR3, nil_append -> bRo, prefix_refl -> bR7, range_succ -> bTp, replicate_succ -> bR0, replicate_zero -> bRz, set_cons_succ -> bSl, set_cons_zero -> bSk, take_length -> bR1, take_of_length_le -> bQ3, take_succ_cons -> bQs, take_zero -> bQq
open Nat renaming add_assoc -> bSp, add_zero -> bR5, le_of_eq -> bR4, le_refl -> bQk, le_trans -> bQv, lt_irrefl -> bS1, lt_of_lt_of_le -> bRa, zero_add -> bRg, zero_le -> bQt
open Option renaming getD_none -> bTw, getD_some -> bRc, isSome_none -> bSr, isSome_some -> bSi
open Option.some renaming injEq -> bQi
namespace Go.Proofs.YtmafmhjndjmalaaGreat
open Go.Abs Go.Proofs Tryz
variable {p:aF}{w w0 w':aA}{a:Int}{S:Nat->Prop}{left:List aB}
structure LOk (p:aF) (S:Nat->Prop) (w:aA) (l:List aB):Prop where
 len:l.length<=40
 ok: ∀f∈l,FOk p S w f
 opn: ∀f∈l,fI p f=true
variable {l:List aB}
theorem LOk.le (h:LOk p S w l)(hl:w.objs.length<=w'.objs.length):LOk p S w' l:=⟨h.len,fun f hf=>(h.ok f hf).le hl,h.opn⟩
theorem LOk.frames (h:LOk p S w l):bS p w l=true:=by
 simp only[bS,bQj,bT8,bQp];exact⟨by have:=h.len;omega,fun f hf=>(h.ok f hf).ok⟩
theorem LOk.sub {l':List aB}(h:LOk p S w l)(hs: ∀f∈l',f∈l)(hl:l'.length<=40):LOk p S w l':=⟨hl,fun f hf=>h.ok f (hs f hf),fun f hf=>h.opn f (hs f hf)⟩
theorem aPq {n:Int}(h:inR n (-1000000000) 1000000000=true):VOk p S w (mS n):=⟨by simp[dJ,mS,h],fun h=>by cases h⟩
theorem aK2 {b:Bool}:VOk p S w (nD b):=⟨by cases b<;>rfl,fun h=>by cases b<;>cases h⟩
theorem qP :VOk p S w bJ:=⟨rfl,fun h=>by cases h⟩
theorem aPr (h:cK p w0 S w){o:aN}:VOk p S (dU w o) (dK w.objs.length):=by
 refine⟨?_,fun _=>h.new _ (by simp only[dK,bRh];exact h.le)⟩
 simp only[dJ,dK,inR,nG];simp
variable {v:aD}
theorem aSt (hl:LOk p S w l)(hv:VOk p S w v):OOk p S w ⟨6,0,[v],l⟩:=by
 refine⟨?_,fun u hu=>?_⟩
 ·rw[dI,if_pos rfl,jQ,if_pos rfl];simp only[bQj,bT8,bQp]
  refine⟨⟨⟨hl.frames,?_⟩,?_⟩,fun f hf=>?_⟩
  ·simp[bA,hv.ok]
  ·simp only[bQu,bQz];omega
  ·exact hl.opn f (bS8 hf)
 ·simp only[oB,bS2,bRo,bRm,bRx]at hu;rcases hu with rfl|⟨f,hf,hu⟩
  ·exact hv.ref
  ·exact(hl.ok f hf).ref u hu
variable {f:aB}
theorem aK3 (hl:LOk p S w l)(hlen:l.length<40)(hf:FOk p S w f):OOk p S w ⟨6,0,[],l++[f]⟩:=by
 refine⟨?_,fun u hu=>?_⟩
 ·rw[dI,if_pos rfl,jQ,if_pos rfl];simp only[bQj,bT8,bQp,bS]
  refine⟨⟨⟨⟨?_,fun g hg=>?_⟩,rfl⟩,?_⟩,fun g hg=>?_⟩
  ·simp only[bQ2,bQu,bQz];omega
  ·rcases bRb.1 hg with hg|hg
   ·exact(hl.ok g hg).ok
   ·simp only[bR3]at hg;subst hg;exact hf.ok
  ·simp only[bQ2,bQu,bQz];omega
  ·rw[List.take_append_of_le_length (by simp)]at hg
   exact hl.opn g (bS8 hg)
 ·simp only[oB,bRo,bRx]at hu;obtain⟨g,hg,hu⟩:=hu;rcases bRb.1 hg with hg|hg
  ·exact(hl.ok g hg).ref u hu
  ·simp only[bR3]at hg;subst hg;exact hf.ref u hu
variable {st:Int}
theorem bB0 (h:st=2 \/st=3 \/st=4):OOk p S w ⟨6,st,[],[]⟩:=by
 refine⟨?_,fun u hu=>by simp[oB]at hu⟩
 rcases h with rfl|rfl|rfl<;>rfl
theorem bB1 (hv:VOk p S w v):OOk p S w ⟨6,1,[v],[]⟩:=by
 refine⟨?_,fun u hu=>?_⟩
 ·simp[dI,jQ,bA,hv.ok]
 ·simp only[oB,bSn,bRk,bR3]at hu;subst hu;exact hv.ref
theorem bEg (n:aK):0<=n.asks:=by
 unfold aK.asks;split
 ·decide
 split
 ·exact bS7 _
 split<;>decide
variable {env:List aD}
theorem aWk {node:Int}(hn:inR node 0 ((p.nodes.length:Int)-1)=true)(he: ∀v∈env,VOk p S w v)(hl:env.length<=30):FOk p S w ⟨node,env,[]⟩:=by
 refine⟨?_,fun v hv=>?_⟩
 ·simp only[dF,bA,bQj,bT8,bQp,hn,true_and]
  refine⟨⟨by omega,fun v hv=>(he v hv).ok⟩,by simpa using bEg _,fun v hv=>by cases hv⟩
 ·simp only[bRk]at hv;exact(he v hv).ref
theorem dA (h:cK p w0 S w)(ha:inR a 0 ((w.tasks.length:Int)-1)=true)(hs:st=2 \/st=3 \/st=4):cK p w0 S (bE w a st).w:=by
 obtain⟨h1,h2,_⟩:=h.task ha;exact h.set h1 (bB0 hs) h2.symm
theorem eH (h:cK p w0 S w)(ha:inR a 0 ((w.tasks.length:Int)-1)=true)(hl:LOk p S w left)(hv:VOk p S w v):cK p w0 S (bT w a left v).w:=by
 obtain⟨h1,h2,_⟩:=h.task ha;exact h.set h1 (aSt hl hv) h2.symm
theorem tJ (h:cK p w0 S w)(ha:inR a 0 ((w.tasks.length:Int)-1)=true){node:Int}(hl:LOk p S w left)(hn:inR node 0 ((p.nodes.length:Int)-1)=true)(he: ∀v∈env,VOk p S w v):
  cK p w0 S (gK w a left node env).w:=by
 obtain⟨h1,h2,_⟩:=h.task ha;unfold gK;split
 ·exact dA h ha (by simp)
 ·exact h.set h1 (aK3 hl (by omega) (aWk hn he (by omega))) h2.symm
theorem aB3 (h:cK p w0 S w)(ha:inR a 0 ((w.tasks.length:Int)-1)=true){o:aN}(hl:LOk p S w left)(ho:OOk p S w o)(hf: ¬o.form=6):cK p w0 S (iF w a left o).w:=by
 unfold iF;split
 ·exact dA h ha (by simp)
 ·exact eH (h.add (by omega) ho hf) ha (hl.le (by rw[nG];omega)) (aPr h)
theorem qQ {d:Did}{act n:Int}:(dD d a act n v).w=d.w:=by unfold dD;split<;>rfl
theorem aNp (h:cK p w0 S w)(ha:inR a 0 ((w.tasks.length:Int)-1)=true){o:aN}(hl:LOk p S w left)(ho:OOk p S w o)(hf:o.form=6):cK p w0 S (zS w a left o).w:=by
 unfold zS;simp only[qQ];unfold iF;split
 ·rw[if_pos (show(bE w a 4).what=1 from rfl)];exact dA h ha (by simp)
 ·rename_i hc;rw[if_neg (by simp[bT])]
  have hb:=h.born (by omega) ho hf
  have ha':inR a 0 (((qK (dU w o)).tasks.length:Int)-1)=true:=by
   simp only[inR,bT8,qK,bQ2,bQu,bQz]at ha⊢;have e:(dU w o).tasks=w.tasks:=rfl;rw[e];omega
  have hT:aZ (qK (dU w o)) a=aZ (dU w o) a:=by
   simp only[inR,bT8]at ha;show(w.tasks++_).getD a.toNat 0=w.tasks.getD a.toNat 0;simp only[bQn];rw[bSq (by omega)]
  have:=eH hb ha' (left:=left) (v:=dK w.objs.length) (hl.le (by show _<=(dU w o).objs.length;rw[nG];omega)) ((aPr h (o:=o)).le (bQk _))
  have e:qK (bT (dU w o) a left (dK w.objs.length)).w=(bT (qK (dU w o)) a left (dK w.objs.length)).w:=by
   simp only[bT,hT];simp only[qK,cW,bSb]
  show cK p w0 S (qK (bT (dU w o) a left (dK w.objs.length)).w);rw[e];exact this
variable {ins:List Int}{outs:List bL}{used:Int}
theorem cK.io (h:cK p w0 S w)(h1:outs.length<=100)(h2: ∀o∈outs,vL o=true)(h3:nJ ins 50=true)(h4:inR used 0 1000000000=true):cK p w0 S ⟨w.objs,w.tasks,outs,ins,used⟩:=by
 obtain⟨a1,a2,a3,a4,a5,a6,a7⟩:=cD.1 h.ok
 refine⟨cD.2 ⟨a1,h1,h3,h4,?_,fun o ho=>aDf (bQk _) (a6 o ho),h2⟩,h.le,h.form,h.pre,h.shut,h.ts,h.new⟩
 simp only[gJ,bQj]at a5⊢;exact⟨a5.1,nO (w:=w) (w':=⟨w.objs,w.tasks,outs,ins,used⟩) (bQk _) (fun _ _=>rfl) _ _ a5.2⟩
variable {n:aK}
theorem oC (h:eE p n=true):(n.kids.length:Int)=fD n.op n.pats.length (oX p n):=by
 simp only[eE,bQj,bT8]at h;exact h.2
theorem aGk (h:eE p n=true):n.asks<=n.kids.length:=by
 have:=oC h;unfold aK.asks;unfold fD at this
 repeat' split at this
 all_goals (repeat' split)
 all_goals omega
variable {i:Int}
theorem aU4 (hp:eG p)(hi:inR i 0 ((p.nodes.length:Int)-1)=true){k:Int}(h0:0<=k)(hk:k<(p.node i).kids.length):inR (oN (p.node i) k) 0 ((p.nodes.length:Int)-1)=true:=
 hp.kids _ (iK hi) _ (mG (by omega))
theorem eZ (h:cK p w0 S w){f:aD}{k:Int}(hv:VOk p S w f)(hi:bY w f k=true):inR f.n 0 ((w.objs.length:Int)-1)=true/\ OOk p S w (w.obj f.n)/\ (w.obj f.n).form=k/\ f.kind=5:=by
 simp only[bY,bQj,bT8]at hi;obtain⟨h1,h2⟩:=h.ref hv hi.1;exact⟨h1,h2,hi.2,hi.1⟩
variable {b:aB}
theorem aDg (hp:eG p)(h:cK p w0 S w){f:aD}(hf:VOk p S w f)(hv:VOk p S w v)(hb:eF p w f v=some b):
  inR b.node 0 ((p.nodes.length:Int)-1)=true/\ (∀u∈b.env,VOk p S w u)/\ b.vals=[]:=by
 unfold eF at hb
 split at hb
 ·rename_i h4;simp only[bQi]at hb;subst hb;have h1:=hf.ok;simp only[dJ,h4]at h1;have h1:inR f.n 0 ((p.funs.length:Int)-1)=true:=by simpa using h1
  simp only[inR,bT8]at h1;exact⟨hp.funs _ (mG (by omega)),fun u hu=>by simp only[bR3]at hu;subst hu;exact hv,rfl⟩
 ·split at hb
  ·rename_i h2;simp only[bQi]at hb;subst hb;obtain⟨a1,a2,a3,_⟩:=eZ h hf h2;have hk:=a2.ok;simp only[dI,a3]at hk
   simp at hk
   obtain⟨_,⟨b1,b2⟩,_⟩:=hk
   refine⟨aU4 hp b1 (by decide) ?_,fun u hu=>?_,rfl⟩
   ·rw[oC (hp.nodes _ (iK b1)),b2];simp[fD]
   ·rcases bRb.1 hu with hu|hu
    ·exact a2.vals hu
    ·simp only[bR3]at hu;subst hu;exact hv
  ·cases hb
theorem aGl {o:aN}(h:OOk p S w o)(h5:o.form=5):LOk p S w o.frames:=by
 have hk:=h.ok;simp only[dI,h5]at hk;simp[bS]at hk;exact⟨by omega,fun f hf=>h.frames hf,hk.1.2⟩
theorem LOk.app {m:List aB}(h:LOk p S w l)(k:LOk p S w m)(hl:(l++m).length<=40):LOk p S w (l++m):=
 ⟨hl,fun f hf=>(bRb.1 hf).elim (h.ok f) (k.ok f),fun f hf=>(bRb.1 hf).elim (h.opn f) (k.opn f)⟩
theorem aPs (hp:eG p)(h:cK p w0 S w)(ha:inR a 0 ((w.tasks.length:Int)-1)=true)(hl:LOk p S w left){f:aD}(hf:VOk p S w f)(hv:VOk p S w v):cK p w0 S (eW p w a left f v).w:=by
 unfold eW;split
 ·rename_i h5;obtain⟨_,a2,a3,_⟩:=eZ h hf h5;split
  ·exact dA h ha (by simp)
  ·exact eH h ha (hl.app (aGl a2 a3) (by omega)) hv
 ·split
  ·exact dA h ha (by simp)
  ·rename_i b hb;obtain⟨b1,b2,_⟩:=aDg hp h hf hv hb;exact tJ h ha hl b1 b2
variable {op:Int}{u:aD}
theorem aPt (h:cK p w0 S w)(ha:inR a 0 ((w.tasks.length:Int)-1)=true)(hl:LOk p S w left):cK p w0 S (cE w a left op u v).w:=by
 unfold cE;split
 ·split
  ·exact dA h ha (by simp)
  ·exact eH h ha hl aK2
 split
 ·exact dA h ha (by simp)
 split
 ·exact eH h ha hl aK2
 split
 ·rename_i hr;exact eH h ha hl (aPq hr)
 ·exact dA h ha (by simp)
mutual
theorem aK4 (h:cK p w0 S w): ∀(q:Pat) {v:aD} {l:List aD},VOk p S w v->fJ w q v=some l-> ∀u∈l,VOk p S w u
 | .mk f n t ps,v,l,hv,hm=>by
  unfold fJ at hm
  split at hm
  ·cases hm;intro u hu;cases hu
  split at hm
  ·cases hm;intro u hu;simp only[bR3]at hu;subst hu;exact hv
  split at hm
  ·split at hm
   ·cases hm;intro u hu;cases hu
   ·cases hm
  split at hm
  ·split at hm
   ·cases hm;intro u hu;cases hu
   ·cases hm
  split at hm
  ·split at hm
   ·cases hm;intro u hu;cases hu
   ·cases hm
  split at hm
  ·rename_i hc;obtain⟨_,a2,_,_⟩:=eZ h hv hc.1;exact aHs h ps (fun u hu=>a2.vals hu) hm
  ·cases hm
theorem aHs (h:cK p w0 S w): ∀(ps:List Pat) {vs l:List aD},(∀v∈vs,VOk p S w v)->eM w ps vs=some l-> ∀u∈l,VOk p S w u
 |[],vs,l,hv,hm=>by
  simp only[eM,bQi]at hm;subst hm;intro u hu;cases hu
 |q::ps,[],l,hv,hm=>by
  simp only[eM,bQi]at hm;subst hm;intro u hu;cases hu
 |q::ps,v::vs,l,hv,hm=>by
  simp only[eM]at hm
  split at hm
  ·cases hm
  rename_i l1 h1
  split at hm
  ·cases hm
  rename_i l2 h2;simp only[bQi]at hm;subst hm;intro u hu;rcases bRb.1 hu with hu|hu
  ·exact aK4 h q (hv v (by simp)) h1 u hu
  ·exact aHs h ps (fun u hu=>hv u (by simp[hu])) h2 u hu
end
theorem aE7 (h:cK p w0 S w)(ha:inR a 0 ((w.tasks.length:Int)-1)=true)(hl:LOk p S w left){kids:List Int}(hk: ∀k∈kids,inR k 0 ((p.nodes.length:Int)-1)=true){env:List aD}(he: ∀v∈env,VOk p S w v){u:aD}(hu:VOk p S w u):
  ∀(l:List Pat) (i:Nat),1+i+l.length<=kids.length->cK p w0 S (jT w a left kids env u i l).w
 |[],i,_=>dA h ha (by simp)
 |q::qs,i,hi=>by
  unfold jT;simp only[bQu]at hi;split
  ·rename_i l hm
   refine tJ h ha hl (hk _ (mG (by omega))) fun v hv=>?_
   rcases bRb.1 hv with hv|hv
   ·exact he v hv
   ·exact aK4 h q hu hm v hv
  ·exact aE7 h ha hl hk he hu qs (i+1) (by omega)
theorem aSu {left:List aB}: ∀{m k:Nat},fP p left m=k+1->k<m/\ (p.node (left.getD k default).node).op=26
 |0,k,h=>by simp[fP]at h
 |m+1,k,h=>by
  unfold fP at h
  split at h
  ·rename_i hc;have:m=k:=by omega
   subst this;exact⟨by omega,hc⟩
  ·obtain⟨a,b⟩:=aSu h;exact⟨by omega,b⟩
theorem bB2 (h:LOk p S w l)(h0:0<l.length)(hr:(p.node (l.headD default).node).op=26):OOk p S w ⟨5,0,[],l⟩:=by
 refine⟨?_,fun u hu=>?_⟩
 ·rw[dI,if_neg (by simp),if_pos rfl]
  simp only[bQj,bT8,bQp];exact⟨⟨⟨⟨⟨by simp,by simp⟩,by omega⟩,h.frames⟩,h.opn⟩,hr⟩
 ·simp only[oB,bRo,bRx]at hu;obtain⟨f,hf,hu⟩:=hu;exact(h.ok f hf).ref u hu
theorem aYf {node:Int}:(gK w a left node env).what=1->(gK w a left node env).e.n=4:=by
 unfold gK;split
 ·intro _;rfl
 ·intro h;cases h
variable {kid:Int}
theorem aPu (h:cK p w0 S w)(ha:inR a 0 ((w.tasks.length:Int)-1)=true)(hl:LOk p S w left)(hk:inR kid 0 ((p.nodes.length:Int)-1)=true)(he: ∀v∈env,VOk p S w v):cK p w0 S (eY p w a left kid env).w:=by
 unfold eY;split
 ·exact dA h ha (by simp)
 ·rename_i k hr;obtain⟨hkl,hop⟩:=aSu hr;split
  ·exact dA h ha (by simp)
  ·rename_i hc
   simp only
   split
   ·rename_i hw;rw[aYf hw];exact dA h ha (by simp)
   ·have hld:=hl.len;have hd:LOk p S w (left.drop k):=hl.sub (fun f hf=>List.mem_of_mem_drop hf) (by simp only[bS3];omega)
    have hh:(p.node ((left.drop k).headD default).node).op=26:=by
     rw[bQn]at hop;rw[List.headD_eq_head?_getD,List.head?_drop];exact hop
    have hF:=h.add (o:=⟨5,0,[],left.drop k⟩) (by omega) (bB2 hd (by simp only[bS3];omega) hh) (by simp)
    have hle:w.objs.length<=(dU w ⟨5,0,[],left.drop k⟩).objs.length:=by rw[nG];omega
    refine tJ hF ha ((hl.sub (fun f hf=>bS8 hf) (by simp only[bR2];omega)).le hle) hk fun v hv=>?_
    rcases bRb.1 hv with hv|hv
    ·exact(he v hv).le hle
    ·simp only[bR3]at hv;subst hv;exact aPr h
theorem aPv (hp:eG p)(h:cK p w0 S w)(ha:inR a 0 ((w.tasks.length:Int)-1)=true)(hl:LOk p S w left){f:aD}(hf:VOk p S w f):cK p w0 S (eC p w a left f).w:=by
 unfold eC;split
 ·rename_i h5;obtain⟨_,a2,a3,_⟩:=eZ h hf h5;exact aNp h ha hl (aSt (aGl a2 a3) qP) rfl
 ·split
  ·exact dA h ha (by simp)
  ·rename_i b hb;obtain⟨b1,b2,b3⟩:=aDg hp h hf qP hb;split
   ·exact dA h ha (by simp)
   ·have e:b=⟨b.node,b.env,[]⟩:=by rw[<-b3]
    have h0:LOk p S w []:=⟨by simp,by simp,by simp⟩
    have:=aK3 h0 (by simp) (aWk b1 b2 (by omega))
    rw[<-e]at this;exact aNp h ha hl this rfl
theorem dH {l:List aD}{i:Nat}(h:i<l.length):aE l i∈l:=mG h
theorem aSv (hv:VOk p S w v):OOk p S w ⟨3,0,[v],[]⟩:=by
 refine⟨?_,fun u hu=>?_⟩
 ·simp[dI,bA,hv.ok]
 ·simp only[oB,bSn,bRk,bR3]at hu;subst hu;exact hv.ref
theorem aK5 {l:List aD}(hl:l.length<=4)(hv: ∀v∈l,VOk p S w v):OOk p S w ⟨4,0,l,[]⟩:=by
 refine⟨?_,fun u hu=>?_⟩
 ·simp only[dI,bA];simp;exact⟨by omega,fun v h=>(hv v h).ok⟩
 ·simp only[oB,bSn,bRk]at hu;exact(hv u hu).ref
theorem aSw (h:cK p w0 S w)(ha:inR a 0 ((w.tasks.length:Int)-1)=true)(hl:LOk p S w left){l:List aD}(hv: ∀v∈l,VOk p S w v)(h0:0<l.length)(h1: ¬op=16-> ¬op=17->1<l.length):cK p w0 S (eJ w a left op l).w:=by
 unfold eJ;have hv0:=hv _ (dH h0);split
 ·rw[qQ];exact aB3 h ha hl (aSv hv0) (by simp)
 rename_i n16;split
 ·rename_i h3;obtain⟨a1,a2,a3,_⟩:=eZ h hv0 h3;split
  ·rw[qQ];have hk:=a2.ok;simp only[dI,a3]at hk
   simp at hk
   exact eH h ha hl (a2.vals (dH (by omega)))
  ·rename_i n17;rw[qQ];have hF:=h.set a1 (aSv (hv _ (dH (h1 n16 n17)))) a3.symm;exact eH hF ha (hl.le (by rw[qO];exact bQk _)) qP
 ·exact dA h ha (by simp)
theorem aK6 (h:cK p w0 S w)(ha:inR a 0 ((w.tasks.length:Int)-1)=true)(hl:LOk p S w left){l:List aD}(hv: ∀v∈l,VOk p S w v)(h0:0<l.length)(h1:op=22->1<l.length):cK p w0 S (bV w a left op l).w:=by
 unfold bV;have hv0:=hv _ (dH h0);split
 ·rename_i h3;obtain⟨a1,a2,a3,_⟩:=eZ h hv0 h3;have hk:=a2.ok;simp only[dI,a3]at hk;simp[bA]at hk;split
  ·rename_i h22;split
   ·exact h
   ·rw[qQ];have hF:=h.set a1 (aK5 (l:=(w.obj (aE l 0).n).vals++[aE l 1]) (by simp only[bQ2,bQu,bQz];omega) fun v hv'=>by
     rcases bRb.1 hv' with hv'|hv'
     ·exact a2.vals hv'
     ·simp only[bR3]at hv';subst hv';exact hv _ (dH (h1 h22))) a3.symm
    exact eH hF ha (hl.le (by rw[qO];exact bQk _)) qP
  ·split
   ·exact h
   ·rename_i hne;rw[qQ];have hF:=h.set a1 (aK5 (l:=(w.obj (aE l 0).n).vals.drop 1) (by simp only[bS3];omega) fun v hv'=>a2.vals (List.mem_of_mem_drop hv')) a3.symm
    exact eH hF ha (hl.le (by rw[qO];exact bQk _)) ((a2.vals (dH (by omega))).le (by rw[qO];exact bQk _))
 ·exact dA h ha (by simp)
theorem aSx (h:cK p w0 S w)(ha:inR a 0 ((w.tasks.length:Int)-1)=true)(hl:LOk p S w left)(hv:VOk p S w v):cK p w0 S (fX w a left v).w:=by
 unfold fX;split
 ·rename_i h6;obtain⟨a1,a2,a3,_⟩:=eZ h hv h6;have hk:=a2.ok;rw[dI,if_pos a3,jQ]at hk;split
  ·exact h
  rename_i n0;rw[if_neg n0]at hk;split
  ·rename_i n1;rw[if_neg n1]at hk
   split at hk
   ·rename_i hst;exact dA h ha hst
   ·cases hk
  ·rename_i n1;rw[if_pos (Decidable.not_not.1 n1)]at hk;simp only[bQj,bT8]at hk;rw[qQ];exact eH h ha hl (a2.vals (dH (by omega)))
 ·exact dA h ha (by simp)
theorem aPw (h:cK p w0 S w)(ha:inR a 0 ((w.tasks.length:Int)-1)=true)(hl:LOk p S w left){port:Int}{l:List aD}(hv: ¬op=25->0<l.length/\ inR port 0 3=true)(hv': ∀v∈l,VOk p S w v):cK p w0 S (dE w a left op port l).w:=by
 obtain⟨a1,a2,a3,a4,a5,a6,a7⟩:=cD.1 h.ok;unfold dE;split
 ·split
  ·exact h
  ·rename_i x xs hi;split
   ·exact dA h ha (by simp)
   ·rename_i hu;rw[qQ];simp only[nJ,hi,bQu,bSs,bQj,bT8]at a3;simp only[inR,bT8]at a4;have hF:=h.io (outs:=w.outs) (ins:=xs) (used:=w.used+1) a2 a7 (by simp only[nJ,bQj,bT8];exact⟨by omega,a3.2.2⟩) (by simp only[inR,bT8];omega)
    exact eH hF ha (hl.le (bQk _)) (aPq a3.2.1)
 ·rename_i hop;obtain⟨h0,hport⟩:=hv hop;split
  ·exact dA h ha (by simp)
  ·rename_i hk;split
   ·exact dA h ha (by simp)
   ·rw[qQ];have h1:=(hv' _ (dH h0)).ok;rw[dJ,if_pos (Decidable.not_not.1 hk)]at h1;have hF:=h.io (outs:=w.outs++[⟨port,(aE l 0).n⟩]) (ins:=w.ins) (used:=w.used) (by simp only[bQ2,bQu,bQz];omega) (fun o ho=>by
     rcases bRb.1 ho with ho|ho
     ·exact a7 o ho
     ·simp only[bR3]at ho;subst ho;simp only[vL,hport,h1,Bool.and_self]) a3 a4
    exact eH hF ha (hl.le (bQk _)) qP
theorem aYg (hp:eG p)(h:cK p w0 S w)(ha:inR a 0 ((w.tasks.length:Int)-1)=true)(hl:LOk p S w left)(hf:FOk p S w f)(hfull:(f.vals.length:Int)=(p.node f.node).asks):cK p w0 S (qL p w a left f).w:=by
 have hni:inR f.node 0 ((p.nodes.length:Int)-1)=true:=by
  have:=hf.ok;simp only[dF,bQj]at this;exact this.1.1
 have hok:=hp.nodes _ (iK hni);have hkd:=oC hok;have hnum:oD p (p.node f.node)=true:=by simp only[eE,bQj]at hok;exact hok.1.1.1
 have hv: ∀v∈f.vals,VOk p S w v:=fun v hv=>hf.vals hv
 unfold qL;generalize hn:p.node f.node=n at*;have ik: ∀k:Int,0<=k->k<n.kids.length->inR (oN n k) 0 ((p.nodes.length:Int)-1)=true:=fun k h1 h2=>by
  rw[<-hn]at h2⊢;exact aU4 hp hni h1 h2
 unfold bO
 by_cases e:n.op=1
 ·rw[if_pos e];rw[oD,if_pos e]at hnum;exact eH h ha hl (aPq hnum)
 rw[if_neg e]
 by_cases e:n.op=2
 ·rw[if_pos e];exact eH h ha hl aK2
 rw[if_neg e]
 by_cases e:n.op=3
 ·rw[if_pos e];exact eH h ha hl qP
 rw[if_neg e]
 by_cases e:n.op=4
 ·rw[if_pos e];simp only[oD,e]at hnum;simp[inR]at hnum;split
  ·refine eH h ha hl ⟨?_,fun h=>by cases h⟩
   simp only[dJ,inR];simp;omega
  ·split
   ·exact dA h ha (by simp)
   ·exact eH h ha hl (hf.env (dH (by omega)))
 rw[if_neg e]
 by_cases e:n.op=5
 ·rw[if_pos e]
  refine aB3 h ha hl ⟨?_,fun u hu=>?_⟩ (by simp)
  ·have:=hf.ok;simp only[dF,bQj]at this;simp only[dI,hn,e,this.1.1,this.1.2];simp
  ·simp only[oB,bSn,bRk]at hu;exact(hf.env hu).ref
 rw[if_neg e]
 by_cases e:n.op=6
 ·rw[if_pos e];have:n.asks=2:=by simp[aK.asks,e]
  exact aPs hp h ha hl (hv _ (dH (by omega))) (hv _ (dH (by omega)))
 rw[if_neg e]
 by_cases e:n.op=7
 ·rw[if_pos e];have h1:n.asks=1:=by simp[aK.asks,e]
  refine tJ h ha hl (ik 1 (by decide) ?_) fun v hv'=>?_
  ·rw[hkd];simp[fD,e]
  ·rcases bRb.1 hv' with hv'|hv'
   ·exact hf.env hv'
   ·simp only[bR3]at hv';subst hv';exact hv _ (dH (by omega))
 rw[if_neg e]
 by_cases e:n.op=8
 ·rw[if_pos e];have h1:n.asks=1:=by simp[aK.asks,e]
  split
  ·exact dA h ha (by simp)
  ·rename_i hk;have h2:=(hv _ (dH (i:=0) (by omega))).ok
   simp only[dJ,Decidable.not_not.1 hk]at h2;simp[inR]at h2
   refine tJ h ha hl (ik _ (by omega) ?_) fun v hv'=>hf.env hv'
   have:(n.kids.length:Int)=3:=by rw[hkd];simp[fD,e]
   omega
 rw[if_neg e]
 by_cases e:n.op=9 \/n.op=10 \/n.op=11 \/n.op=12 \/n.op=13
 ·rw[if_pos e];exact aPt h ha hl
 rw[if_neg e]
 by_cases e:n.op=14
 ·rw[if_pos e];have h1:n.asks=n.kids.length:=by simp[aK.asks,e]
  simp only[oD,e]at hnum
  simp at hnum
  have h2:(n.kids.length:Int)=(p.cons.getD n.n.toNat default).args:=by rw[hkd];simp[fD,oX,e,hnum]
  have h3:inR (p.cons.getD n.n.toNat default).args 0 3=true:=hp.cons _ (mG (by simp only[inR,bT8]at hnum;omega))
  simp only[inR,bT8]at h3
  refine aB3 h ha hl ⟨?_,fun u hu=>?_⟩ (by simp)
  ·rw[dI,if_neg (by simp),if_neg (by simp),if_neg (by simp),if_pos rfl]
   simp only[bQj,bT8,bA,bQp];exact⟨⟨hnum,by omega⟩,by omega,fun v h'=>(hv v h').ok⟩
  ·simp only[oB,bSn,bRk]at hu;exact(hv u hu).ref
 rw[if_neg e]
 by_cases e:n.op=15
 ·rw[if_pos e];have h1:n.asks=1:=by simp[aK.asks,e]
  have h2:(n.kids.length:Int)=1+n.pats.length:=by rw[hkd];simp[fD,e]
  refine aE7 h ha hl (fun k hk=>?_) (fun v hv'=>hf.env hv') (hv _ (dH (by omega))) n.pats 0 (by omega)
  rw[<-hn]at hk;exact hp.kids _ (iK hni) k hk
 rw[if_neg e]
 by_cases e:n.op=26
 ·rw[if_pos e];have h1:n.asks=1:=by simp[aK.asks,e]
  exact eH h ha hl (hv _ (dH (by omega)))
 rw[if_neg e]
 by_cases e:n.op=27
 ·rw[if_pos e]
  refine aPu h ha hl (ik 0 (by decide) ?_) fun v hv'=>hf.env hv'
  rw[hkd];simp[fD,e]
 rw[if_neg e]
 by_cases e:n.op=16 \/n.op=17 \/n.op=18
 ·rw[if_pos e]
  refine aSw h ha hl hv ?_ ?_
  ·have:1<=n.asks:=by rcases e with e|e|e<;>simp[aK.asks,e]
   omega
  ·intro h1 h2;have e:n.op=18:=by omega
   have:n.asks=2:=by simp[aK.asks,e]
   omega
 rw[if_neg e]
 by_cases e:n.op=19
 ·rw[if_pos e];have h1:n.asks=1:=by simp[aK.asks,e]
  exact aPv hp h ha hl (hv _ (dH (by omega)))
 rw[if_neg e]
 by_cases e:n.op=20
 ·rw[if_pos e];have h1:n.asks=1:=by simp[aK.asks,e]
  exact aSx h ha hl (hv _ (dH (by omega)))
 rw[if_neg e]
 by_cases e:n.op=21
 ·rw[if_pos e];rw[qQ];exact aB3 h ha hl (aK5 (by simp) (by simp)) (by decide)
 rw[if_neg e]
 by_cases e:n.op=22 \/n.op=23
 ·rw[if_pos e]
  refine aK6 h ha hl hv ?_ ?_
  ·have:1<=n.asks:=by rcases e with e|e<;>simp[aK.asks,e]
   omega
  ·intro e;have:n.asks=2:=by simp[aK.asks,e]
   omega
 rw[if_neg e]
 by_cases e:n.op=24 \/n.op=25
 ·rw[if_pos e]
  refine aPw h ha hl (fun h25=>?_) hv
  have e:n.op=24:=by omega
  have h1:n.asks=1:=by simp[aK.asks,e]
  simp only[oD,e]at hnum
  simp at hnum
  exact⟨by omega,hnum⟩
 rw[if_neg e];rw[qQ];exact eH h ha hl qP
theorem aHt {o:aN}(h0:0<o.frames.length):o.frames=o.frames.take (o.frames.length-1)++[o.frames.getD (o.frames.length-1) dV]:=by
 have h:o.frames.length-1<o.frames.length:=by omega
 simp only[bQn,bRq h,bRc];rw[List.take_append_getElem h];rw[bQ3 (by omega)]
theorem lC (hp:eG p)(h:cK p w0 S w)(ha:inR a 0 ((w.tasks.length:Int)-1)=true):cK p w0 S (bB p w a).w:=by
 obtain⟨h1,h2,h3⟩:=h.task ha;have hO:=h.obj h1 h3;unfold bB
 simp only
 generalize ho:w.obj (aZ w a)=o at hO h2⊢;have hk:=hO.ok;rw[dI,if_pos h2,jQ]at hk;split
 ·exact h
 rename_i n0;rw[if_pos (Decidable.not_not.1 n0)]at hk;simp only[bS,bQj,bT8,bQp,bA]at hk;obtain⟨⟨⟨⟨k1,k2⟩,k3,k4⟩,k5⟩,k6⟩:=hk;have hF: ∀f∈o.frames,FOk p S w f:=fun f hf=>hO.frames hf
 split
 ·rename_i hv1;have hv:VOk p S w (aE o.vals 0):=hO.vals (dH (by omega))
  split
  ·exact h.set h1 (bB1 hv) (by rw[ho,h2])
  ·rename_i hf0;rw[bQ3 (by omega)]at k6
   refine h.set h1 ?_ (by rw[ho,h2])
   have hm:o.frames.getD (o.frames.length-1) dV∈o.frames:=mG (by omega)
   have hl:LOk p S w (o.frames.take (o.frames.length-1)):=⟨by simp only[bR2];omega,fun f hf=>hF f (bS8 hf),fun f hf=>k6 f (bS8 hf)⟩
   have e:aA2 o.frames (aE o.vals 0)=o.frames.take (o.frames.length-1)++[⟨(o.frames.getD (o.frames.length-1) dV).node,(o.frames.getD (o.frames.length-1) dV).env,(o.frames.getD (o.frames.length-1) dV).vals++[aE o.vals 0]⟩]:=by
    unfold aA2;generalize hx:(⟨(o.frames.getD (o.frames.length-1) dV).node,(o.frames.getD (o.frames.length-1) dV).env,(o.frames.getD (o.frames.length-1) dV).vals++[aE o.vals 0]⟩:aB)=x;have:=aHt (o:=o) (by omega)
    generalize o.frames.getD (o.frames.length-1) dV=y at this;have hlen:(o.frames.take (o.frames.length-1)).length=o.frames.length-1:=by simp only[bR2];omega
    conv=>lhs;rw[this]
    rw[List.set_append_right _ _ (by simp only[bQ2,bQu,bQz,hlen];omega)]
    simp only[bQ2,bQu,bQz,hlen];simp
   rw[e]
   refine aK3 hl (by simp only[bR2];omega) ⟨?_,fun v hv'=>?_⟩
   ·have a1:=(hF _ hm).ok;have a2:=k6 _ hm;simp only[fI,bT8]at a2;simp only[dF,bA,bQj,bT8,bQp]at a1⊢
    refine⟨a1.1,by simp only[bQ2,bQu,bQz];omega,fun v hv'=>?_⟩
    rcases bRb.1 hv' with hv'|hv'
    ·exact a1.2.2 v hv'
    ·simp only[bR3]at hv';subst hv';exact hv.ok
   ·simp only at hv'
    rw[<-List.append_assoc]at hv';rcases bRb.1 hv' with hv'|hv'
    ·exact(hF _ hm).ref v hv'
    ·simp only[bR3]at hv';subst hv';exact hv.ref
 ·rename_i hv1;have hz:o.vals.length=0:=by omega
  have hf0:0<o.frames.length:=by omega
  have hm:o.frames.getD (o.frames.length-1) dV∈o.frames:=mG (by omega)
  have hl:LOk p S w (o.frames.take (o.frames.length-1)):=⟨by simp only[bR2];omega,fun f hf=>hF f (bS8 hf),fun f hf=>k6 f (by rw[hz,bR5];exact hf)⟩
  have hfo:=hF _ hm;have hni:inR (o.frames.getD (o.frames.length-1) dV).node 0 ((p.nodes.length:Int)-1)=true:=by
   have:=hfo.ok;simp only[dF,bQj]at this;exact this.1.1
  split
  ·rename_i hop;have hL:LOk p S w o.frames:=by
    refine⟨by omega,hF,fun f hf=>?_⟩
    rw[aHt hf0]at hf;rcases bRb.1 hf with hf|hf
    ·exact hl.opn f hf
    ·simp only[bR3]at hf;subst hf;simpa[fI]using hop
   refine tJ h ha hL (aU4 hp hni (by omega) ?_) fun v hv=>hfo.env hv
   have:=aGk (hp.nodes _ (iK hni));omega
  ·rename_i hop
   refine aYg hp h ha hl hfo ?_
   have:=hfo.ok;simp only[dF,bA,bQj,bT8]at this;omega
theorem aPx (hs:aS p=true)(hi:inR i 0 ((p.nodes.length:Int)-1)=true):(p.node i).asks<=10:=by
 simp only[aS,bQj,bQp]at hs;have:=hs.2 _ (iK hi);simp only[fU,bQj,bT8]at this;unfold aK.asks;split
 ·omega
 split
 ·omega
 split<;>omega
theorem aE8 (hs:aS p=true)(h:bS p w l=true):l.length<=40/\ ∀f∈l,f.env.length<=30/\ f.vals.length<=10:=by
 simp only[bS,bQj,bT8,bQp]at h
 refine⟨by omega,fun f hf=>?_⟩
 have:=h.2 f hf;simp only[dF,bA,bQj,bT8]at this;obtain⟨⟨h1,h2,_⟩,h3,_⟩:=this;have:=aPx hs h1;omega
theorem aDh {o:aN}(h:dI p w o=true):o.vals.length<=30:=by
 have vs: ∀{l:List aD} {m:Int},bA p w l m=true->(l.length:Int)<=m:=fun h=>by
  simp only[bA,bQj,bT8]at h;exact h.1
 unfold dI at h
 split at h
 ·unfold jQ at h
  split at h
  ·simp only[bQj]at h;have:=vs h.1.1.2;omega
  split at h
  ·simp only[bQj]at h;have:=vs h.2;omega
  split at h
  ·simp only[bQj,bT8]at h;omega
  ·cases h
 split at h
 ·simp only[bQj,bT8]at h;omega
 split at h
 ·cases h
 split at h
 ·simp only[bQj]at h;have:=vs h.2;omega
 split at h
 ·simp only[bQj]at h;have:=vs h.2;omega
 split at h
 ·simp only[bQj]at h;have:=vs h.2;omega
 split at h
 ·simp only[bQj]at h;have:=vs h.2;omega
 ·cases h
theorem aYh {o:aN}(hs:aS p=true)(h:dI p w o=true):hZ o=true:=by
 have h1:=aDh h;obtain⟨h2,h3⟩:=aE8 hs (aB2 h).2;simp only[hZ,bQj,bT8,bQp]
 refine⟨⟨by omega,by omega⟩,fun f hf=>?_⟩
 have:=h3 f hf;omega
theorem xT (h:gJ w=true):w.tasks.length<=w.objs.length:=by
 simp only[gJ,bQj,bT8]at h;rw[h.1];exact bTu
theorem rZ (hs:aS p=true)(h:dG p w=true):bU w=true:=by
 obtain⟨a1,a2,a3,a4,a5,a6,a7⟩:=cD.1 h;have:=xT a5;simp only[nJ,bQj,bT8]at a3;simp only[bU,bQj,bT8,bQp];exact⟨⟨⟨⟨by omega,by omega⟩,by omega⟩,by omega⟩,fun o ho=>aYh hs (a6 o ho)⟩
theorem aB4 (h:bU w=true):w.few:=by
 simp only[bU,bQj,bT8,bQp]at h;obtain⟨⟨⟨⟨h1,h2⟩,h3⟩,h4⟩,h5⟩:=h
 refine⟨by unfold Few;omega,by unfold Few;omega,by unfold Few;omega,by unfold Few;omega,fun o ho=>?_⟩
 have:=h5 o ho;simp only[hZ,bQj,bT8,bQp]at this
 refine⟨by unfold Few;omega,by unfold Few;omega,fun f hf=>?_⟩
 have:=this.2 f hf;exact⟨by unfold Few;omega,by unfold Few;omega⟩
def cU (p:aF)(a:Int):Nat->aA->aA×Nat×Bool
 |0,w=>if(bB p w a).what=0 then(w,1,false)else(w,0,true)
 |k+1,w=>if(bB p w a).what=0 then((cU p a k (bB p w a).w).1,(cU p a k (bB p w a).w).2.1+1,(cU p a k (bB p w a).w).2.2)else(w,0,true)
def eD (p:aF):Nat->Nat->aA->Nat->aA×Nat×Bool
 |0,_,w,s=>(w,s,true)
 |n+1,a,w,s=>
  if a<w.tasks.length then
   (if(cU p a (5000-s) w).2.2=true then eD p n (a+1) (cU p a (5000-s) w).1 (s+(cU p a (5000-s) w).2.1)
   else((cU p a (5000-s) w).1,s+(cU p a (5000-s) w).2.1,false))
  else(w,s,true)
def aT (p:aF)(w:aA)(s:Nat):aA×Nat×Bool:=eD p 121 0 w s
def fY (p:aF)(w:aA)(k:Nat):List Int:=((List.range k).filter fun(a:Nat)=>!decide ((bB p w a).what=2)).map fun(a:Nat)=>(a:Int)
def dL (p:aF)(w:aA):List Int:=fY p w w.tasks.length
def eL (p:aF)(w:aA)(pick:Int):aA×gS×Nat×Int:=
 let r:=aT p w 0
 if r.2.2=false then(r.1,fV,0,8)
 else if dL p r.1=[]then(r.1,fV,0,5)
 else
  let d:=bB p r.1 ((dL p r.1).getD (pick%(dL p r.1).length).toNat 0);let q:=aT p d.w (r.2.1+1)
  if q.2.2=false \/5000<q.2.1 then(q.1,fV,0,8)else(q.1,d.e,q.2.1,0)
variable {m:Nat}{x:Int}
section
theorem aNq (h:cK p w0 S w):cK p w (fun _=>True) w:=⟨h.ok,bQk _,fun _ _=>rfl,bR7 _,fun _ _ _ _ _ _=>trivial,fun _ _=>trivial,fun _ _=>trivial⟩
theorem aK7 (hp:eG p)(h:cK p w0 S w)(ha:inR a 0 ((w.tasks.length:Int)-1)=true):w.tasks.length<=(bB p w a).w.tasks.length:=(lC hp (aNq h) ha).pre.length_le
theorem bGf {n:Nat}(h:inR a 0 ((m:Int)-1)=true)(hl:m<=n):inR a 0 ((n:Int)-1)=true:=by
 simp only[inR,bT8]at h⊢;omega
theorem aK8 (hp:eG p){a:Int}: ∀(k:Nat) {w:aA},cK p w0 S w->inR a 0 ((w.tasks.length:Int)-1)=true->cK p w0 S (cU p a k w).1
 |0,w,h,ha=>by unfold cU;split<;>exact h
 |k+1,w,h,ha=>by
  unfold cU;split
  ·exact aK8 hp k (lC hp h ha) (bGf ha (aK7 hp h ha))
  ·exact h
theorem aE9 (hp:eG p): ∀(n:Nat) {a:Nat} {w:aA} {s:Nat},cK p w0 S w->cK p w0 S (eD p n a w s).1
 |0,_,_,_,h=>h
 |n+1,a,w,s,h=>by
  unfold eD;split
  ·rename_i ha;have ha:inR (a:Int) 0 ((w.tasks.length:Int)-1)=true:=by simp only[inR,bT8];omega
   have hi:=aK8 hp (5000-s) h ha;split
   ·exact aE9 hp n hi
   ·exact hi
  ·exact h
theorem sA (hp:eG p){s:Nat}(h:cK p w0 S w):cK p w0 S (aT p w s).1:=aE9 hp 121 h
theorem aK9 (h:x∈dL p w):inR x 0 ((w.tasks.length:Int)-1)=true:=by
 obtain⟨i,hi,rfl⟩:=bRe.1 h;have:=bRi.1 (bR6.1 hi).1;simp only[inR,bT8];omega
theorem aPy {l:List Int}(h: ¬l=[])(pick:Int):(pick%l.length).toNat<l.length:=by
 have h0:0<l.length:=bTm.2 h;have h1:=Int.emod_nonneg pick (show(l.length:Int)≠0 by omega)
 have h2:=Int.emod_lt_of_pos pick (show 0<(l.length:Int)by omega)
 omega
theorem aNr (hp:eG p)(h:cK p w0 S w)(pick:Int):cK p w0 S (eL p w pick).1:=by
 have h1:=sA hp (s:=0) h;unfold eL
 simp only
 split
 ·exact h1
 split
 ·exact h1
 rename_i hl;have h2:=sA hp (s:=(aT p w 0).2.1+1) (lC hp h1 (aK9 (mG (d:=0) (aPy hl pick))))
 split<;>exact h2
end
theorem aA6 {p:aF}{a:Int}: ∀(k:Nat) (w:aA),(cU p a k w).2.1<=k+1/\ ((cU p a k w).2.2=true->(cU p a k w).2.1<=k)
 |0,w=>by unfold cU;split<;>simp
 |k+1,w=>by
  obtain⟨h1,h2⟩:=aA6 (p:=p) (a:=a) k (bB p w a).w;unfold cU;split
  ·exact⟨by simp only;omega,fun h=>by have:=h2 h;simp only;omega⟩
  ·simp
theorem aCp {p:aF}: ∀(n:Nat) {a:Nat} {w:aA} {s:Nat},s<=5001->(eD p n a w s).2.1<=5002
 |0,_,_,_,h=>by show _<=_;simp only[eD];omega
 |n+1,a,w,s,h=>by
  obtain⟨h1,h2⟩:=aA6 (p:=p) (a:=a) (5000-s) w;unfold eD;split
  ·split
   ·rename_i hb;have:=h2 hb;exact aCp n (by omega)
   ·simp only;omega
  ·simp only;omega
set_option maxRecDepth 100000
set_option maxHeartbeats 4000000
theorem uW (h:cK p w0 S w)(ha:inR a 0 ((w.tasks.length:Int)-1)=true):Fit w a:=by
 obtain⟨a1,a2,a3,a4,a5,a6,a7⟩:=cD.1 h.ok;have:=xT a5;simp only[nJ,bQj,bT8]at a3;exact⟨⟨by omega,by omega,by omega,by omega⟩,ha,(h.task ha).1⟩
theorem fQ (h:VOk p S w v)(h5:v.kind=5):inR v.n 0 ((w.objs.length:Int)-1)=true:=by
 have h1:=h.ok;simp only[dJ,h5]at h1
 simpa using h1
def wQ (p:aF)(w:aA)(f v:aD):aB:=(eF p w f v).getD dV
theorem aSy {f:aD}(hp:eG p)(h:cK p w0 S w)(hf:VOk p S w f)(hv:VOk p S w v):
  PC L 175 [.agg p.cs,.agg w.cs,.agg [.i f.kind,.i f.n],.agg [.i v.kind,.i v.n]] (.tup [.agg [.i (wQ p w f v).node,.fz ((wQ p w f v).env.map aD.enc),.fz ((wQ p w f v).vals.map aD.enc)],.bool (eF p w f v).isSome]):=by
 have hO:=pB w f 2 (fQ hf)
 refine pcA func175 ?_
 by_cases h4:f.kind=4
 ·have d1:decide (f.kind=4)=true:=D_t h4;have hi:inR f.n 0 ((p.funs.length:Int)-1)=true:=by
   have h1:=hf.ok;simp only[dJ,h4]at h1
   simpa using h1
  have e:eF p w f v=some ⟨bHw p f.n,[v],[]⟩:=by unfold eF;rw[if_pos h4]
  rw[wQ,e];simp only[go_sem,kK,d1]
  refine aG ?_
  simp only[go_sem,wJ hi,pZ,lA,kA,bQm,if_false];simp only[go_sem,bHw,bRc,bSi,bQ1,bRj]
 ·have d1:decide (f.kind=4)=false:=D_f h4
  by_cases h2:bY w f 2=true
  ·have e:eF p w f v=some ⟨oN (p.node (w.obj f.n).n) 0,(w.obj f.n).vals++[v],[]⟩:=by unfold eF;rw[if_neg h4,if_pos h2]
   obtain⟨a1,a2,a3,a4⟩:=eZ h hf h2;have hk:=a2.ok;simp only[dI,a3]at hk
   simp at hk
   obtain⟨_,⟨b1,b2⟩,b3⟩:=hk;have hlen:=aDh a2.ok;have hkk:=oC (hp.nodes _ (iK b1));rw[b2]at hkk;simp[fD]at hkk;have hk0:inR 0 0 (((p.node (w.obj f.n).n).kids.length:Int)-1)=true:=by simp only[inR,bT8];omega
   have hMo:=aEw (w.obj f.n).vals v (by omega)
   rw[uV,if_pos h2,h2]at hO;rw[wQ,e];simp only[go_sem,kK,d1,hO.ret]
   refine aG ?_
   simp only[go_sem,bH b1,wJ hk0,hMo.ret,kA,bQm,if_false];simp only[go_sem,oN,bRc,bSi,bQ1]
  ·have e:eF p w f v=none:=by unfold eF;rw[if_neg h4,if_neg h2]
   rw[bRu]at h2;rw[h2]at hO;rw[wQ,e];simp only[go_sem,kK,d1,hO.ret,bTw,bSr,dV,bQ1]
variable {cnt cnt':Nat->Nat->Nat}{en en':En}
theorem vY.later {en1:En}{cnt1:Nat->Nat->Nat}{tail:List Val}{x:Val}(h:vY en1 cnt1 w tail x en' cnt')(h1: ∀t g,g<cnt 0 t->en1 ⟨0,t,g⟩=en ⟨0,t,g⟩)(h2: ∀t,cnt 0 t<=cnt1 0 t){g8:Nat}(hg:cnt 0 8<=g8)(hg':g8<cnt1 0 8)(Z:Option Ent):
  vY en cnt w tail x (en'.set ⟨0,8,g8⟩ Z) cnt':=by
 obtain⟨⟨g5,g9,vU,vI,rfl,e5,l5,m5,e9,l9,m9,mU,mI⟩,old,up⟩:=h
 refine⟨⟨g5,g9,vU,vI,rfl,by simp only[go_sem,e5],bQv (h2 5) l5,m5,?_,bQv (h2 8) l9,m9,mU.keep (fun g _=>by simp only[go_sem]) (bQk _),mI.keep (fun g _=>by simp only[go_sem]) (bQk _)⟩,fun t g hg1=>?_,fun t=>bQv (h2 t) (up t)⟩
 ·rw[aV7 (by omega)];exact e9
 ·rw[jI hg hg1,old t g (bRa hg1 (h2 t)),h1 t g hg1]
theorem aWl {o:aN}(hf:Fit w a)(h:w.objs.length<120):Fit (dU w o) a:=by
 have hr:=hf.rng;have hl:=hf.len
 refine⟨?_,hf.at_,?_⟩
 ·rw[nG];exact⟨by omega,hl.2⟩
 ·rw[nG];show inR (aZ w a) 0 _=true;simp only[inR,bT8]at hr⊢;omega
theorem aSz (w:aA)(a:Int)(left:List aB)(o:aN){c oa ob:Val}(hc:aCo c (.fz (left.map aB.enc)))(ha:aCo oa (.fz (o.vals.map aD.enc)))(hb:aCo ob (.fz (o.frames.map aB.enc)))(hf:Fit w a):
  WIn L (.fn 126 [] []) [.agg w.cs,.i a,c,.agg [.i o.form,.i o.n,oa,ob]] en cnt fun x en' cnt'=>
   ((120<=w.objs.length/\ x= .agg [.fz ((bE w a 4).w.objs.map aN.enc),.fz ((bE w a 4).w.tasks.map (.int .i64)),.fz ((bE w a 4).w.outs.map bL.enc),.fz ((bE w a 4).w.ins.map (.int .i64)),.i (bE w a 4).w.used,.i (bE w a 4).what,.i (bE w a 4).e.task,.i (bE w a 4).e.act,.i (bE w a 4).e.n,.i (bE w a 4).e.v.kind,.i (bE w a 4).e.v.n]/\ (∀t g,g<cnt 0 t->en' ⟨0,t,g⟩=en ⟨0,t,g⟩)/\ ∀t,cnt 0 t<=cnt' 0 t) \/(w.objs.length<120/\ vY en cnt (bT (dU w o) a left (dK w.objs.length)).w [.i 0,.i 0,.i 0,.i 0,.i 0,.i 0] x en' cnt')):=by
 have hF:=fW w a 4 hf;have hat:=hf.at_;have hrng:=hf.rng;simp only[inR,bT8]at hat hrng;obtain⟨g4,hg4⟩: ∃g,g=cnt 0 4:=⟨_,rfl⟩
 obtain⟨g7,hg7⟩: ∃g,g=cnt 0 7:=⟨_,rfl⟩
 obtain⟨g8,hg8⟩: ∃g,g=cnt 0 8:=⟨_,rfl⟩
 have up0: ∀t,cnt 0 t<=aC (aC (aC cnt 0 4 (g4+1)) 0 7 (g7+1)) 0 8 (g8+1) 0 t:=oI (oI (oI (fun _=>bQk _) hg4) hg7) hg8
 have oldS:=fun{e1:En} {x4 x7 x8:Option Ent} {t g:Nat} (hg:g<cnt 0 t)=>show((e1.set ⟨0,4,g4⟩ x4).set ⟨0,7,g7⟩ x7).set ⟨0,8,g8⟩ x8 ⟨0,t,g⟩=e1 ⟨0,t,g⟩by
  rw[jI (bR4 hg8.symm) hg,jI (bR4 hg7.symm) hg,jI (bR4 hg4.symm) hg]
 refine gR func126 ?_
 by_cases h1:120<=w.objs.length
 ·have d1:decide ((120:Int)<=(w.objs.length:Int))=true:=D_t (by omega)
  simp only[go_sem,kK,<-hg4,<-hg7,<-hg8,d1,hF.ret]
  refine .inl ⟨h1,fun t g hg=>?_,up0⟩
  rw[jI (bR4 hg8.symm) hg,oldS hg]
 ·have d1:decide ((120:Int)<=(w.objs.length:Int))=false:=D_f (by omega)
  have h1:w.objs.length<120:=by omega
  simp only[go_sem,kK,<-hg4,<-hg7,<-hg8,d1]
  refine(aE4 w (by omega) (by omega) hf.len (aA4 _ _ w)).mono ?_
  rintro x en1 cnt1 ⟨⟨g5,gT,vU,vI,rfl,e5,l5,m5,eT,lT,mT,mU,mI⟩,old,up⟩
  have e4:=old 4 g4 (by simp[aC])
  have e7:=old 7 g7 (by simp[aC])
  have e8:=old 8 g8 (by simp[aC])
  have hTne: ¬gT=g8:=by have:=lT;simp[aC]at this;omega
  try simp only[go_sem]at e4 e7 e8
  obtain⟨g22,hg22⟩: ∃g,g=cnt1 0 22:=⟨_,rfl⟩
  have hw1:IntKind.i64.wrap (((w.objs.length+1:Nat):Int)-1)=(w.objs.length:Int):=by rw[aV (by omega)];omega
  have hl16:w.objs.length+1<=16777216:=by omega
  simp only[go_sem,e4,e7,e5,ha.snap,hb.snap,ha.wk,hb.wk,uP,nM,bP,eB,uQ,bGe,lB,bQl,hl16,bQk,<-hg22]
  refine aG ?_
  simp only[go_sem,hw1,(aKq _).ret,kA,bQm,if_false];have up2: ∀t,cnt 0 t<=aC cnt1 0 22 (g22+1) 0 t:=fun t=>bQv (up0 t) (bQv (up t) (oI (fun _=>bQk _) hg22 t))
  have hn5:cnt 0 5<=g5:=bQv (up0 5) l5;have hn22:cnt 0 22<=g22:=by rw[hg22];exact bQv (up0 22) (up 22)
  have lt8:g8<aC cnt1 0 22 (g22+1) 0 8:=bRa (show g8<aC (aC (aC cnt 0 4 (g4+1)) 0 7 (g7+1)) 0 8 (g8+1) 0 8 by simp[aC]) (bQv (up 8) (oI (fun _=>bQk _) hg22 8))
  refine(aSp (dU w o) a left (dK w.objs.length) hc (aWl hf h1) (vO:= .bl ⟨0,22,g22⟩ 0 (w.objs.length+1)) (vT:= .bl ⟨0,8,gT⟩ 0 w.tasks.length) (vU:=vU) (vI:=vI) (.inr ⟨g22,gT,by rw[nG],?_,by simp[aC],rfl,?_,?_,mU.keep (fun g _=>by simp only[go_sem]) (oI (fun _=>bQk _) hg22 11),mI.keep (fun g _=>by simp only[go_sem]) (oI (fun _=>bQk _) hg22 14)⟩)).mono ?_
  ·simp only[go_sem,dU,bRl]
  ·simp only[go_sem,eT];rfl
  ·exact bRa mT (oI (fun _=>bQk _) hg22 8)
  ·intro x en2 cnt2 hO;have e8':=hO.old 8 g8 lt8
   try simp only[go_sem,e8]at e8'
   have hO':=fun Z=>hO.later (en:=en) (cnt:=cnt) (g8:=g8) (fun t g hg=>by
    rw[jI (bR4 hg4.symm) hg,jI (ga:=g22) (a:=22) hn22 hg,jI (ga:=g5) (a:=5) hn5 hg];rw[jI (bR4 hg4.symm) hg,old t g (bRa hg (up0 t)),oldS hg]) up2 (bR4 hg8.symm) lt8 Z
   obtain⟨⟨g5',g9,vU',vI',rfl,_⟩,_,_⟩:=hO;simp only[go_sem,e8'];exact .inr ⟨h1,hO' _⟩
theorem aIm (w:aA)(a:Int)(left:List aB)(o:aN)(hf:Fit w a):PC L 126 [.agg w.cs,.i a,.fz (left.map aB.enc),.agg [.i o.form,.i o.n,.fz (o.vals.map aD.enc),.fz (o.frames.map aB.enc)]] (.agg [.fz ((iF w a left o).w.objs.map aN.enc),.fz ((iF w a left o).w.tasks.map (.int .i64)),.fz ((iF w a left o).w.outs.map bL.enc),.fz ((iF w a left o).w.ins.map (.int .i64)),.i (iF w a left o).w.used,.i (iF w a left o).what,.i (iF w a left o).e.task,.i (iF w a left o).e.act,.i (iF w a left o).e.n,.i (iF w a left o).e.v.kind,.i (iF w a left o).e.v.n]):=by
 have hL:=at_ func126
 conv at hL=>rhs;reduce
 refine aGj hL rfl rfl rfl ((aSz w a left o (rY _) (rY _) (rY _) hf).mono fun v en' cnt' h=>?_)
 rcases h with⟨h1,rfl,_,_⟩|⟨h1,h2⟩
 ·have e:iF w a left o=bE w a 4:=by unfold iF;rw[if_pos h1]
  rw[e];exact⟨_,_,by simp only[go_sem];rfl,by simp only[go_sem]⟩
 ·have e:iF w a left o=bT (dU w o) a left (dK w.objs.length):=by unfold iF;rw[if_neg (by omega)]
  rw[e];exact h2.snapD (d:=bT (dU w o) a left (dK w.objs.length))
noncomputable def aCc :{c//L 128=some c}:=cA func128
theorem aU5 (hp:eG p)(h:cK p w0 S w)(ha:inR a 0 ((w.tasks.length:Int)-1)=true)(hl:LOk p S w left){f:aD}(hf:VOk p S w f)(hv:VOk p S w v):
  PC L 127 [.agg p.cs,.agg w.cs,.i a,.fz (left.map aB.enc),.agg [.i f.kind,.i f.n],.agg [.i v.kind,.i v.n]] (.agg [.fz ((eW p w a left f v).w.objs.map aN.enc),.fz ((eW p w a left f v).w.tasks.map (.int .i64)),.fz ((eW p w a left f v).w.outs.map bL.enc),.fz ((eW p w a left f v).w.ins.map (.int .i64)),.i (eW p w a left f v).w.used,.i (eW p w a left f v).what,.i (eW p w a left f v).e.task,.i (eW p w a left f v).e.act,.i (eW p w a left f v).e.n,.i (eW p w a left f v).e.v.kind,.i (eW p w a left f v).e.v.n]):=by
 have hfit:=uW h ha;have hO:=pB w f 5 (fQ hf);have hF4:=fW w a 4 hfit;have hF2:=fW w a 2 hfit;have hlen:=hl.len
 by_cases h5:bY w f 5=true
 ·obtain⟨_,a2,a3,_⟩:=eZ h hf h5;have hk:=aGl a2 a3;have hkl:=hk.len;have hk0:0<(w.obj f.n).frames.length:=by
   have:=a2.ok;rw[dI,if_neg (by rw[a3];decide),if_pos a3]at this
   simp only[bQj,bT8]at this;omega
  rw[uV,if_pos h5,h5]at hO;have hB:=jM w a (left++(w.obj f.n).frames) v hfit;rw[bRl]at hB;have hl1:left.length<=16777216:=by omega
  have hl2:(w.obj f.n).frames.length<=16777216:=by omega
  have hl3:left.length+(w.obj f.n).frames.length<=16777216:=by omega
  have he2:(w.obj f.n).frames.isEmpty=false:=aKp hk0;have e:eW p w a left f v=if 40<left.length+(w.obj f.n).frames.length then bE w a 4 else bT w a (left++(w.obj f.n).frames) v:=by
   unfold eW;rw[if_pos h5,bQ2]
  rw[e]
  refine pcA func127 ?_
  by_cases h40:40<left.length+(w.obj f.n).frames.length
  ·rw[if_pos h40];have d1:decide ((40:Int)<((left.length+(w.obj f.n).frames.length:Nat):Int))=true:=D_t (by omega)
   cases h0:left.isEmpty with
   |true=>
    have:left=[]:=by simpa using h0
    subst this;simp only[bQz,bRg]at d1;simp only[go_sem,kK,hO.ret]
    refine aG ?_
    simp only[go_sem,kK,bP,eB,nN,iW,iI,he2,hl2,jB,bQl,kA,bQm,if_false];simp only[go_sem,kK,d1,hF4.ret]
   |false=>
    simp only[go_sem,kK,hO.ret]
    refine aG ?_
    simp only[go_sem,kK,bP,eB,iW,uQ,lB,iI,h0,hl1,hl3,jB,bQl,bQk,kA,bQm,if_false];simp only[go_sem,kK,d1,hF4.ret]
  ·rw[if_neg h40];have d1:decide ((40:Int)<((left.length+(w.obj f.n).frames.length:Nat):Int))=false:=D_f (by omega)
   cases h0:left.isEmpty with
   |true=>
    have:left=[]:=by simpa using h0
    subst this;simp only[bQz,bRg]at d1;simp only[bQ1,bRo]at hB⊢;simp only[go_sem,kK,hO.ret]
    refine aG ?_
    simp only[go_sem,kK,bP,eB,nN,iW,iI,he2,hl2,jB,bQl,kA,bQm,if_false];simp only[go_sem,d1,hB.ret,bQl,bQk,qJ]
   |false=>
    simp only[go_sem,kK,hO.ret]
    refine aG ?_
    simp only[go_sem,kK,bP,eB,iW,uQ,lB,iI,h0,hl1,hl3,jB,bQl,bQk,kA,bQm,if_false];simp only[go_sem,d1,hB.ret,bQl,bQ2,bQk,bQ3]
 ·have hB:=aSy hp h hf hv;rw[bRu]at h5;rw[h5]at hO
  refine pcA func127 ?_
  cases hb:eF p w f v with
  |none=>
   have e:eW p w a left f v=bE w a 2:=by unfold eW;rw[if_neg (by rw[h5];decide),hb]
   rw[e];rw[hb]at hB;simp only[go_sem,kK,hO.ret,hB.ret,bSr,hF2.ret]
  |some b=>
   have e:eW p w a left f v=gK w a left b.node b.env:=by unfold eW;rw[if_neg (by rw[h5];decide),hb]
   rw[e];have hv:wQ p w f v=b:=by rw[wQ,hb];rfl
   rw[hb,hv]at hB;have hN:=aB1 w a left b.node b.env hfit (by omega)
   simp only[go_sem,kK,hO.ret,hB.ret,bSi,hN.ret]
theorem uX (u v:aD):(decide (u.kind=v.kind)&&decide (u.n=v.n))=decide (u=v):=by
 cases u;cases v;simp only[aD.mk.injEq];rw[bSw];simp
theorem aWm (h:VOk p S w v)(h1:v.kind=1): -1000000000<=v.n/\ v.n<=1000000000:=by
 have:=h.ok;rw[dJ,if_pos h1]at this
 simpa[inR]using this
theorem bHy {y:Int}(hx: -1000000000<=x/\ x<=1000000000)(hy: -1000000000<=y/\ y<=1000000000): -1000000000000000000<=x*y/\ x*y<=1000000000000000000:=by
 have h1:x.natAbs<=1000000000:=by omega
 have h2:y.natAbs<=1000000000:=by omega
 have h3:(x*y).natAbs<=1000000000*1000000000:=by rw[Int.natAbs_mul];exact Nat.mul_le_mul h1 h2
 omega
theorem uY (h:cK p w0 S w)(ha:inR a 0 ((w.tasks.length:Int)-1)=true)(hu:VOk p S w u)(hv:VOk p S w v)(ho:op=9 \/op=10 \/op=11 \/op=12 \/op=13):
  PC L 128 [.agg w.cs,.i a,.fz (left.map aB.enc),.i op,.agg [.i u.kind,.i u.n],.agg [.i v.kind,.i v.n]] (.agg [.fz ((cE w a left op u v).w.objs.map aN.enc),.fz ((cE w a left op u v).w.tasks.map (.int .i64)),.fz ((cE w a left op u v).w.outs.map bL.enc),.fz ((cE w a left op u v).w.ins.map (.int .i64)),.i (cE w a left op u v).w.used,.i (cE w a left op u v).what,.i (cE w a left op u v).e.task,.i (cE w a left op u v).e.act,.i (cE w a left op u v).e.n,.i (cE w a left op u v).e.v.kind,.i (cE w a left op u v).e.v.n]):=by
 have hfit:=uW h ha;have hF2:=fW w a 2 hfit;have hF4:=fW w a 4 hfit;have hI:=nZ (qY op u.n v.n) (-1000000000) 1000000000
 by_cases h13:op=13
 ·subst h13
  by_cases h1:u.kind=v.kind
  ·have d1:decide (u.kind=v.kind)=true:=D_t h1
   by_cases h3:3<u.kind
   ·have d3:decide (3<u.kind)=true:=D_t h3;have e:cE w a left 13 u v=bE w a 2:=by unfold cE;rw[if_pos rfl,if_pos (.inr h3)]
    rw[e]
    refine cJ aCc.2 rfl rfl ?_
    simp only[go_sem,kK,aCc,d1,d3,hF2.ret]
   ·have d3:decide (3<u.kind)=false:=D_f h3;have e:cE w a left 13 u v=bT w a left (nD (decide (u=v))):=by
     unfold cE;rw[if_pos rfl,if_neg (by rintro(h|h);exact h h1;exact h3 h)]
    rw[e];have hB:=jM w a left (nD (decide (u=v))) hfit
    refine cJ aCc.2 rfl rfl ?_
    simp only[go_sem,kK,aCc,d1,d3]
    refine aG ?_
    simp only[go_sem,uX,(aIk _).ret,hB.ret,kA,bQm,if_false]
  ·have d1:decide (u.kind=v.kind)=false:=D_f h1;have e:cE w a left 13 u v=bE w a 2:=by unfold cE;rw[if_pos rfl,if_pos (.inl h1)]
   rw[e]
   refine cJ aCc.2 rfl rfl ?_
   simp only[go_sem,kK,aCc,d1,hF2.ret]
 ·have d13:decide (op=13)=false:=D_f h13
  by_cases h1:u.kind=1
  ·have d1:decide (u.kind=1)=true:=D_t h1
   by_cases h2:v.kind=1
   ·have d2:decide (v.kind=1)=true:=D_t h2;have bu:=aWm hu h1;have bv:=aWm hv h2;have bm:=bHy bu bv
    by_cases h12:op=12
    ·subst h12;have e:cE w a left 12 u v=bT w a left (nD (decide (u.n<v.n))):=by
      unfold cE;rw[if_neg (by decide),if_neg (by rintro(h|h);exact h h1;exact h h2),if_pos rfl]
     rw[e];have hB:=jM w a left (nD (decide (u.n<v.n))) hfit
     refine cJ aCc.2 rfl rfl ?_
     simp only[go_sem,kK,aCc,d1,d2]
     refine aG ?_
     simp only[go_sem,(aIk _).ret,hB.ret,kA,bQm,if_false]
    ·have d12:decide (op=12)=false:=D_f h12;have e:cE w a left op u v=if inR (qY op u.n v.n) (-1000000000) 1000000000=true then bT w a left (mS (qY op u.n v.n))else bE w a 4:=by
      unfold cE;rw[if_neg h13,if_neg (by rintro(h|h);exact h h1;exact h h2),if_neg h12]
     rw[e];have hB:=jM w a left (mS (qY op u.n v.n)) hfit;have ho':op=9 \/op=10 \/op=11:=by omega
     rcases ho' with rfl|rfl|rfl
     all_goals
      simp only[qY]at hI hB⊢
      simp at hI hB⊢
      split
      ·rename_i hin;rw[hin]at hI
       refine cJ aCc.2 rfl rfl ?_
       simp only[go_sem,kK,aCc,d1,d2,aV (show-9223372036854775808<=u.n+v.n/\ u.n+v.n<=9223372036854775807 by omega),aV (show-9223372036854775808<=u.n-v.n/\ u.n-v.n<=9223372036854775807 by omega),aV (show-9223372036854775808<=u.n*v.n/\ u.n*v.n<=9223372036854775807 by omega),hI.ret]
       refine aG ?_
       simp only[go_sem,(aDe _).ret,hB.ret,kA,bQm,if_false]
      ·rename_i hin;rw[bRu]at hin;rw[hin]at hI
       refine cJ aCc.2 rfl rfl ?_
       simp only[go_sem,kK,aCc,d1,d2,aV (show-9223372036854775808<=u.n+v.n/\ u.n+v.n<=9223372036854775807 by omega),aV (show-9223372036854775808<=u.n-v.n/\ u.n-v.n<=9223372036854775807 by omega),aV (show-9223372036854775808<=u.n*v.n/\ u.n*v.n<=9223372036854775807 by omega),hI.ret,hF4.ret]
   ·have d2:decide (v.kind=1)=false:=D_f h2;have e:cE w a left op u v=bE w a 2:=by unfold cE;rw[if_neg h13,if_pos (.inr h2)]
    rw[e]
    refine cJ aCc.2 rfl rfl ?_
    simp only[go_sem,kK,aCc,d13,d1,d2,hF2.ret]
  ·have d1:decide (u.kind=1)=false:=D_f h1;have e:cE w a left op u v=bE w a 2:=by unfold cE;rw[if_neg h13,if_pos (.inl h1)]
   rw[e]
   refine cJ aCc.2 rfl rfl ?_
   simp only[go_sem,kK,aCc,d13,d1,hF2.ret]
noncomputable def zW :{c//L 176=some c}:=cA func176
def nH (w:aA)(ps:List Pat)(vs:List aD)(k:Nat):Option (List aD):=eM w (ps.take k) (vs.take k)
theorem aA7 (w:aA): ∀(ps:List Pat) (vs:List aD) (q:Pat) (v:aD),ps.length=vs.length->eM w (ps++[q]) (vs++[v])=(match eM w ps vs with|none=>none|some l=>match fJ w q v with|none=>none|some r=>some (l++r))
 |[],[],q,v,_=>by
  simp only[bRo,eM];cases fJ w q v<;>simp
 |[],_::_,_,_,h=>by cases h
 |_::_,[],_,_,h=>by cases h
 |x::ps,y::vs,q,v,h=>by
  simp only[bS2,eM];rw[aA7 w ps vs q v (by simpa using h)]
  cases fJ w x y with
  |none=>rfl
  |some l=>
   cases eM w ps vs with
   |none=>rfl
   |some r=>
    cases fJ w q v with
    |none=>rfl
    |some s=>simp[List.append_assoc]
variable {ps:List Pat}{vs:List aD}
theorem aFa : ∀{k:Nat},ps.length=vs.length->nH w ps vs k=none->eM w ps vs=none:=by
 intro k hl h;have key: ∀m,k<=m->nH w ps vs m=none:=by
  intro m
  induction m with
  |zero=>intro hk;have:k=0:=(by omega);rw[this]at h;exact h
  |succ m ih=>
   intro hk
   by_cases hm:k=m+1
   ·rw[<-hm];exact h
   ·have h1:=ih (by omega)
    by_cases hlt:m<ps.length
    ·unfold nH at h1⊢;rw[gM hlt,gM (show m<vs.length by omega),aA7 _ _ _ _ _ (by simp;omega),h1]
    ·unfold nH at h1⊢;rw[bQ3 (by omega),bQ3 (by omega)]
     rw[bQ3 (by omega),bQ3 (by omega)]at h1
     exact h1
 have:=key (max k ps.length) (by omega)
 unfold nH at this;rw[bQ3 (by omega),bQ3 (by omega)]at this
 exact this
variable {k:Nat}
theorem aFb (h1:k<ps.length)(h2:k<vs.length):nH w ps vs (k+1)=(match nH w ps vs k with|none=>none|some l=>match fJ w ps[k] vs[k]with|none=>none|some r=>some (l++r)):=by
 unfold nH;rw[gM h1,gM h2,aA7 _ _ _ _ _ (by simp;omega)]
mutual
def pC :Pat->Nat
 | .mk _ _ _ ps=>1+gY ps
def gY :List Pat->Nat
 |[]=>0
 |q::ps=>pC q+gY ps
end
theorem tK (q:Pat):pC q=1+gY q.parts:=by cases q;rw[pC];rfl
theorem aA8 : ∀(l:List Pat),l.length<=gY l
 |[]=>by simp[gY]
 |q::l=>by
  have:=aA8 l;have:=tK q;simp only[bQu,gY];omega
theorem wA : ∀{l:List Pat} {q:Pat},q∈l->pC q<=gY l
 |x::l,q,h=>by
  rw[gY];rcases bRm.1 h with rfl|h
  ·omega
  ·have:=wA h;omega
theorem zE : ∀(l:List Pat) (k:Nat),gY (l.take k)<=gY l
 |[],k=>by simp[gY]
 |q::l,0=>by simp[gY]
 |q::l,k+1=>by
  have:=zE l k;simp only[bQs,gY];omega
mutual
theorem aB5 {w:aA}: ∀(q:Pat) {v:aD} {l:List aD},fJ w q v=some l->l.length<=pC q
 | .mk f n t ps,v,l,hm=>by
  unfold fJ at hm;rw[pC]
  split at hm
  ·cases hm;simp
  split at hm
  ·cases hm;simp
  split at hm
  ·split at hm
   ·cases hm;simp
   ·cases hm
  split at hm
  ·split at hm
   ·cases hm;simp
   ·cases hm
  split at hm
  ·split at hm
   ·cases hm;simp
   ·cases hm
  split at hm
  ·have:=zF ps hm;omega
  ·cases hm
theorem zF {w:aA}: ∀(ps:List Pat) {vs l:List aD},eM w ps vs=some l->l.length<=gY ps
 |[],vs,l,hm=>by
  simp only[eM,bQi]at hm;subst hm;simp
 |q::ps,[],l,hm=>by
  simp only[eM,bQi]at hm;subst hm;simp
 |q::ps,v::vs,l,hm=>by
  simp only[eM]at hm
  split at hm
  ·cases hm
  rename_i l1 h1
  split at hm
  ·cases hm
  rename_i l2 h2;simp only[bQi]at hm;subst hm;have:=aB5 q h1;have:=zF ps h2;simp only[bQ2,gY];omega
end
theorem aS0 : ∀(q:Pat) (n:Int),-1<=n->0<=qB q n->qB q n+pC q=n:=by
 intro q
 induction q using Pat.ind with
 |h p ih=>
  intro n hn h;rw[aJ6]at h⊢;rw[tK];have key: ∀(l:List Pat),(∀q∈l,q∈p.parts)-> ∀m:Int,-1<=m->0<=jR l m->jR l m+gY l=m:=by
   intro l
   induction l with
   |nil=>intro _ m _ _;simp[jR,gY]
   |cons q l ihl=>
    intro hl m hm h0;rw[jR]at h0⊢
    by_cases h1:0<=m
    ·rw[if_pos h1]at h0⊢;have hw:=aJ7 q m (by omega)
     have h2:0<=qB q m:=by
      by_cases h3:0<=qB q m
      ·exact h3
      ·rw[aC8 (by omega)]at h0;exact absurd h0 h3
     have e1:=ih q (hl q (by simp)) m (by omega) h2
     have e2:=ihl (fun x hx=>hl x (by simp[hx])) (qB q m) (by omega) h0
     rw[gY];omega
    ·rw[if_neg h1]at h0;omega
  by_cases h1:n<1
  ·rw[if_pos h1]at h;omega
  ·rw[if_neg h1]at h⊢;have:=key p.parts (fun _ h=>h) (n-1) (by omega) h
   omega
def aPz (w:aA)(q:Pat)(v:aD):Val:= .tup [.fz (((fJ w q v).getD []).map aD.enc),.bool (fJ w q v).isSome]
theorem aNs (w:aA)(q:Pat)(v:aD):fJ w q v=if q.form=1 then some []else if q.form=2 then some [v]else if q.form=3 then(if v=mS q.n then some []else none)else if q.form=4 then(if v=nD (decide (q.n=1))then some []else none)
  else if q.form=5 then(if v=bJ then some []else none)else if bY w v 1=true/\ (w.obj v.n).n=q.n/\ (w.obj v.n).vals.length=q.parts.length then eM w q.parts (w.obj v.n).vals else none:=by
 cases q;rw[fJ];rfl
theorem aB6 {α:Type}(c:Prop)[Decidable c]:((if c then some ([]:List α)else none).getD []=[])/\ (if c then some ([]:List α)else none).isSome=decide c:=by
 by_cases h:c<;>simp[h]
theorem bB3 (h:cK p w0 S w): ∀(q:Pat),pC q<=1000-> ∀(v:aD),VOk p S w v->PC L 176 [.agg w.cs,.agg [.i q.form,.i q.n,.str q.text,.fz (q.parts.map Pat.enc)],.agg [.i v.kind,.i v.n]] (aPz w q v):=by
 intro q
 induction q using Pat.ind with
 |h q ih=>
 intro hq v hv;have hO:=pB w v 1 (fQ hv);unfold aPz;rw[aNs]
 by_cases h1:q.form=1
 ·rw[if_pos h1]
  refine cJ zW.2 rfl rfl ?_
  simp only[go_sem,kK,zW,h1,bRc,bSi]
 rw[if_neg h1];have d1:decide (q.form=1)=false:=D_f h1
 by_cases h2:q.form=2
 ·rw[if_pos h2]
  refine cJ zW.2 rfl rfl ?_
  simp only[go_sem,kK,zW,h2,bRc,bSi]
 rw[if_neg h2];have d2:decide (q.form=2)=false:=D_f h2
 by_cases h3:q.form=3
 ·rw[if_pos h3]
  refine cJ zW.2 rfl rfl ?_
  simp only[go_sem,kK,zW,h3]
  refine aG ?_
  simp only[go_sem,(aDe _).ret,uX,aB6,kA,bQm,if_false]
 rw[if_neg h3];have d3:decide (q.form=3)=false:=D_f h3
 by_cases h4:q.form=4
 ·rw[if_pos h4]
  refine cJ zW.2 rfl rfl ?_
  simp only[go_sem,kK,zW,h4]
  refine aG ?_
  simp only[go_sem,(aIk _).ret,uX,aB6,kA,bQm,if_false]
 rw[if_neg h4];have d4:decide (q.form=4)=false:=D_f h4
 by_cases h5:q.form=5
 ·rw[if_pos h5]
  refine cJ zW.2 rfl rfl ?_
  simp only[go_sem,kK,zW,h5]
  refine aG ?_
  simp only[go_sem,nF.ret,uX,aB6,kA,bQm,if_false]
 rw[if_neg h5];have d5:decide (q.form=5)=false:=D_f h5
 by_cases hi:bY w v 1=true
 ·rw[uV,if_pos hi,hi]at hO
  by_cases hn:(w.obj v.n).n=q.n
  ·have dn:decide ((w.obj v.n).n=q.n)=true:=D_t hn
   by_cases hl:(w.obj v.n).vals.length=q.parts.length
   ·have dl:decide ((w.obj v.n).vals.length=q.parts.length)=true:=D_t hl;rw[if_pos ⟨hi,hn,hl⟩];obtain⟨_,a2,_,_⟩:=eZ h hv hi
    refine cJ zW.2 rfl rfl ?_
    simp only[go_sem,kK,zW,d1,d2,d3,d4,d5,hO.ret,dn,dl]
    refine bQ q.parts.length (fun k st=> ∃fr en cnt vO l,st=⟨fr,en,cnt⟩/\ fr 3= .ptr ⟨0,3,0⟩ 0/\ en ⟨0,3,0⟩=some (.box [.fz (w.objs.map aN.enc),.fz (w.tasks.map (.int .i64)),.fz (w.outs.map bL.enc),.fz (w.ins.map (.int .i64)),.i w.used] false)/\ fr 4= .ptr ⟨0,4,0⟩ 0/\ en ⟨0,4,0⟩=some (.box [.i q.form,.i q.n,.str q.text,.fz (q.parts.map Pat.enc)] false)/\ fr 8= .ptr ⟨0,8,0⟩ 0/\ en ⟨0,8,0⟩=some (.box [.i (w.obj v.n).form,.i (w.obj v.n).n,.fz ((w.obj v.n).vals.map aD.enc),.fz ((w.obj v.n).frames.map aB.enc)] false)/\ fr 10=vO/\ fr 11= .i k/\
     nH w q.parts (w.obj v.n).vals k=some l/\ cR en vO 2 (l.map aD.enc) [92]) 0 (bQt _) (by refine⟨_,_,_,.cl [],[],rfl,?_,?_,?_,?_,?_,?_,?_,?_,by simp[nH,eM],cR.nil _ _⟩<;>simp only[go_sem]) ?_
    rintro k st hk ⟨fr,en,cnt,vO,l,rfl,k3,e3,k4,e4,k8,e8,k10,k11,hm,hv'⟩
    simp only[go_sem,kK,k4,e4,k11]
    refine aH (fun hq2=>?_) (fun hq2=>?_)
    ·have h':k<q.parts.length:=D_o hq2;have h'':k<(w.obj v.n).vals.length:=by omega
     have hM:=ih q.parts[k] (bQr h') (by
      have:=wA (bQr h');rw[tK]at hq;omega) (w.obj v.n).vals[k] (a2.vals (bQr h''))
     have hst:=aFb (w:=w) h' h'';rw[hm]at hst;unfold aPz at hM;cases hx:fJ w q.parts[k] (w.obj v.n).vals[k]with
     |none=>
      rw[hx]at hM hst;have hnone:=aFa hl.symm hst;rw[hnone];simp only[go_sem,kK,k3,e3,k4,e4,k8,e8,k11,h',h'',hM.ret,bTw,bSr,bQ1]
     |some r=>
      rw[hx]at hM hst;have hr:=aB5 _ hx;have hr2:=wA (bQr h');have hl3:=zF _ hm;have hl4:=zE q.parts k;have hlp:=aA8 q.parts;rw[tK]at hq;simp only[go_sem,kK,k3,e3,k4,e4,k8,e8,k10,k11,h',h'',hM.ret,bRc,bSi]
      refine jZ (D:=[92]) (xs:=l.map aD.enc) (ys:=r.map aD.enc) (rs:=[]) ?_ ?_ ?_ ?_ ?_
      ·simp only[go_sem];exact hv'
      ·simp only[go_sem]
      ·exact sW r
      ·simp only[bQl];omega
      ·intro v' en' cnt' hown hen hcnt;have q3:en' ⟨0,3,0⟩=some (.box [.fz (w.objs.map aN.enc),.fz (w.tasks.map (.int .i64)),.fz (w.outs.map bL.enc),.fz (w.ins.map (.int .i64)),.i w.used] false):=by rw[hen 0 3 0 (.inr ⟨by decide,by simp⟩)];simp only[go_sem,e3]
       have q4:en' ⟨0,4,0⟩=some (.box [.i q.form,.i q.n,.str q.text,.fz (q.parts.map Pat.enc)] false):=by rw[hen 0 4 0 (.inr ⟨by decide,by simp⟩)];simp only[go_sem,e4]
       have q8:en' ⟨0,8,0⟩=some (.box [.i (w.obj v.n).form,.i (w.obj v.n).n,.fz ((w.obj v.n).vals.map aD.enc),.fz ((w.obj v.n).frames.map aB.enc)] false):=by rw[hen 0 8 0 (.inr ⟨by decide,by simp⟩)];simp only[go_sem,e8]
       simp only[go_sem,k11]
       refine⟨_,_,_,v',l++r,rfl,?_⟩
       simp only[go_sem,k3,q3,k4,q4,k8,q8,aR h' (show Few q.parts.length by unfold Few;omega)]
       refine⟨hst,?_⟩
       rw[bRl];exact hown.sub (by simp)
    ·have:k=q.parts.length:=by simp at hq2;omega
     subst this;have hfull:eM w q.parts (w.obj v.n).vals=some l:=by
      unfold nH at hm;rw[bR1,<-hl,bR1]at hm;exact hm
     obtain⟨r1,ks,s1,_,s2,_⟩:=hv'.snap 6;rw[hfull];simp only[go_sem,k10,s1,s2,bRc,bSi]
   ·have dl:decide ((w.obj v.n).vals.length=q.parts.length)=false:=D_f hl;rw[if_neg (fun h=>hl h.2.2)]
    refine cJ zW.2 rfl rfl ?_
    simp only[go_sem,kK,zW,d1,d2,d3,d4,d5,hO.ret,dn,dl,bTw,bSr]
  ·have dn:decide ((w.obj v.n).n=q.n)=false:=D_f hn;rw[if_neg (fun h=>hn h.2.1)]
   refine cJ zW.2 rfl rfl ?_
   simp only[go_sem,kK,zW,d1,d2,d3,d4,d5,hO.ret,dn,bTw,bSr]
 ·rw[uV,if_neg hi]at hO;rw[if_neg (fun h=>hi h.1)]
  rw[bRu]at hi;rw[hi]at hO
  refine cJ zW.2 rfl rfl ?_
  simp only[go_sem,kK,zW,d1,d2,d3,d4,d5,hO.ret,bTw,bSr]
theorem aDi {n:Nat}:cT n []=true:=(rfl)
theorem aP0 {kids:List Int}{l:List Pat}(hk:k<l.length):jT w a left kids env u k (l.drop k)=(match fJ w l[k] u with|some r=>gK w a left (kids.getD (1+k) 0) (env++r)|none=>jT w a left kids env u (k+1) (l.drop (k+1))):=by
 rw[bRt hk,jT];cases fJ w l[k] u<;>rfl
theorem aU6 (h:cK p w0 S w)(ha:inR a 0 ((w.tasks.length:Int)-1)=true)(hl:LOk p S w left)(n:aK)(env:List aD)(hu:VOk p S w u)(he:env.length<=30)(hkl:1+n.pats.length<=n.kids.length)(hpc: ∀q∈n.pats,pC q<=1000)(hfew:n.kids.length<=1000):
  PC L 129 [.agg w.cs,.i a,.fz (left.map aB.enc),.agg [.i n.op,.i n.n,.fz (n.kids.map (.int .i64)),.fz (n.pats.map Pat.enc)],.fz (env.map aD.enc),.agg [.i u.kind,.i u.n]] (.agg [.fz ((kC w a left n env u).w.objs.map aN.enc),.fz ((kC w a left n env u).w.tasks.map (.int .i64)),.fz ((kC w a left n env u).w.outs.map bL.enc),.fz ((kC w a left n env u).w.ins.map (.int .i64)),.i (kC w a left n env u).w.used,.i (kC w a left n env u).what,.i (kC w a left n env u).e.task,.i (kC w a left n env u).e.act,.i (kC w a left n env u).e.n,.i (kC w a left n env u).e.v.kind,.i (kC w a left n env u).e.v.n]):=by
 have hfit:=uW h ha;have hF:=fW w a 3 hfit;have hlen:=hl.len
 refine pcA func129 ?_
 simp only[go_sem,kK]
 refine bQ n.pats.length (fun k st=> ∃fr en cnt,st=⟨fr,en,cnt⟩/\ fr 1= .i a/\ fr 2= .fz (left.map aB.enc)/\ fr 4= .fz (env.map aD.enc)/\ fr 6= .ptr ⟨0,6,0⟩ 0/\ en ⟨0,6,0⟩=some (.box [.fz (w.objs.map aN.enc),.fz (w.tasks.map (.int .i64)),.fz (w.outs.map bL.enc),.fz (w.ins.map (.int .i64)),.i w.used] false)/\ fr 9= .ptr ⟨0,9,0⟩ 0/\ en ⟨0,9,0⟩=some (.box [.i n.op,.i n.n,.fz (n.kids.map (.int .i64)),.fz (n.pats.map Pat.enc)] false)/\ fr 11= .ptr ⟨0,11,0⟩ 0/\ en ⟨0,11,0⟩=some (.box [.i u.kind,.i u.n] false)/\ fr 12= .ptr ⟨0,12,0⟩ 0/\ en ⟨0,12,0⟩=some (.box [.cl [],.cl [],.cl [],.cl [],.i 0,.i 0,.i 0,.i 0,.i 0,.i 0,.i 0] false)/\ fr 13= .i k/\
  jT w a left n.kids env u k (n.pats.drop k)=kC w a left n env u) 0 (bQt _) (by refine⟨_,_,_,rfl,?_,?_,?_,?_,?_,?_,?_,?_,?_,?_,?_,?_,by rw[bSm];rfl⟩<;>simp only[go_sem]) ?_
 rintro k st hk ⟨fr,en,cnt,rfl,k1,k2,k4,k6,e6,k9,e9,k11,e11,k12,e12,k13,hD⟩
 simp only[go_sem,kK,k9,e9,k13]
 refine aH (fun hq2=>?_) (fun hq2=>?_)
 ·have h':k<n.pats.length:=D_o hq2;have hM:=bB3 h n.pats[k] (hpc _ (bQr h')) u hu;rw[aP0 h']at hD;unfold aPz at hM;have hw1:IntKind.i64.wrap (1+(k:Int))=((1+k:Nat):Int):=by rw[aV (by omega)];omega
  have hki:1+k<n.kids.length:=by omega
  have hkg:n.kids.getD (1+k) 0=n.kids[1+k]:=by simp[bQn,hki]
  cases hx:fJ w n.pats[k] u with
  |none=>
   rw[hx]at hM hD;simp only[go_sem,kK,k6,e6,k9,e9,k11,e11,k13,h',hM.ret,bTw,bSr]
   refine⟨_,_,_,rfl,?_⟩
   simp only[go_sem,k1,k2,k4,k6,e6,k9,e9,k11,e11,k12,e12,aR h' (show Few n.pats.length by unfold Few;omega)]
   exact hD
  |some r=>
   rw[hx]at hM hD;have hr:=aB5 _ hx;have hpk:=hpc _ (bQr h');have hN:=aB1 w a left n.kids[1+k] (env++r) hfit (by omega)
   rw[bRl]at hN;rw[<-hD];have hl1:env.length<=16777216:=by omega
   have hl2:r.length<=16777216:=by omega
   have hl3:env.length+r.length<=16777216:=by omega
   simp only[go_sem,kK,k6,e6,k9,e9,k11,e11,k13,h',hM.ret,bRc,bSi]
   refine aG ?_
   cases h0:env.isEmpty<;>cases h1:r.isEmpty
   all_goals
    try(have h0':env=[]:=(by simpa using h0);subst h0')
    try(have h1':r=[]:=(by simpa using h1);subst h1')
    try simp only[bQ1,bRo,bRk]at hN
    simp only[go_sem,k1,k2,k4,k6,e6,k9,e9,k12,e12,k13,hw1,hki,hkg,bP,eB,nN,iW,uQ,lB,iI,h0,h1,hl1,hl2,hl3,sW,aDi,bQl,bQ2,bQz,bR5,bRg,bRk,bQ1,bRo,bQk,bQ3,hN.ret,kA,bQm,if_false]
 ·have:k=n.pats.length:=by simp at hq2;omega
  subst this;rw[bSh,jT]at hD;rw[<-hD];simp only[go_sem,k1,k6,e6,k12,e12,hF.ret]
noncomputable def aGm :{c//L 313=some c}:=cA func313
variable {kl kt kr:Key}{ko:Option Key}{back:List aD}{bv:Val}
section
structure Acc (en:En) (cnt:Nat->Nat->Nat) (kl:Key) (ko:Option Key) (xs:List aD):Prop where
 ok:Old kl cnt
 v:(ko=none/\ xs=[]/\ en kl=some (.box [.cl []] false)) \/ ∃t g b,ko=some ⟨0,t,g⟩/\ g<cnt 0 t/\ en ⟨0,t,g⟩=some (.blk 2 (xs.map aD.enc) b)/\ en kl=some (.box [.bl ⟨0,t,g⟩ 0 xs.length] false)
theorem Acc.to {xs:List aD}(h:Acc en cnt kl ko xs)(hk: ∀x,Old x cnt->x=kl \/some x=ko->en' x=en x)(hu: ∀t,cnt 0 t<=cnt' 0 t):Acc en' cnt' kl ko xs:=by
 refine⟨h.ok.up hu,h.v.imp (fun⟨a,b,c⟩=>⟨a,b,by rw[hk kl h.ok (.inl rfl)];exact c⟩) fun⟨t,g,b,c1,c2,c3,c4⟩=>⟨t,g,b,c1,bRa c2 (hu t),?_,?_⟩⟩
 ·rw[hk ⟨0,t,g⟩ ⟨rfl,c2⟩ (.inr c1.symm)];exact c3
 ·rw[hk kl h.ok (.inl rfl)];exact c4
theorem Acc.ne (h:TS kt kr en cnt p w a left f n back bv){xs:List aD}(hA:Acc en cnt kl ko xs):(kt≠kl/\ kr≠kl)/\ some kt≠ko/\ some kr≠ko:=by
 have ht:=h.t;have hr:=h.r;rcases hA.v with⟨a,b,c⟩|⟨t,g,b,c1,c2,c3,c4⟩
 ·subst a
  refine⟨⟨?_,?_⟩,by simp,by simp⟩
  ·rintro rfl;rw[ht]at c;simp at c
  ·rintro rfl;rw[hr]at c;simp at c
 ·subst c1
  refine⟨⟨?_,?_⟩,fun e=>?_,fun e=>?_⟩
  ·rintro rfl;rw[ht]at c4;simp at c4
  ·rintro rfl;rw[hr]at c4;simp at c4
  ·rw[bQi]at e;rw[<-e,ht]at c3;cases c3
  ·rw[bQi]at e;rw[<-e,hr]at c3;cases c3
structure bHz (kt kr:Key) (en:En) (cnt:Nat->Nat->Nat) (p:aF) (w:aA) (a:Int) (left:List aB) (f:aB) (n:aK) (back:List aD) (kl:Key) (ko:Option Key) (xs:List aD) (o:Option (List aD)) (en':En) (cnt':Nat->Nat->Nat):Prop where
 ts: ∃bv',TS kt kr en' cnt' p w a left f n back bv'
 acc: ∀l,o=some l-> ∃ko',Acc en' cnt' kl ko' (xs++l)/\ (ko'=ko \/ ∀x,ko'=some x-> ¬Old x cnt)
 old: ∀x,Old x cnt->x≠kt->x≠kr->x≠kl->some x≠ko->en' x=en x
 up: ∀t,cnt 0 t<=cnt' 0 t
theorem aFc (h:TS kt kr en cnt p w a left f n back bv){xs:List aD}(hA:Acc en cnt kl ko xs){o:Option (List aD)}(ho:o=none \/o=some [])(hk: ∀x,Old x cnt->en' x=en x)(hu: ∀t,cnt 0 t<=cnt' 0 t):
  bHz kt kr en cnt p w a left f n back kl ko xs o en' cnt':=by
 refine⟨(h.stay hk hu).1,fun l hl=>?_,fun x hx _ _ _ _=>hk x hx,hu⟩
 rcases ho with rfl|rfl
 ·cases hl
 ·cases hl
  refine⟨ko,?_,.inl rfl⟩
  rw[bRk];exact hA.to (fun x hx _=>hk x hx) hu
theorem aLa : ∀(l:List Pat) {k:Nat} (h:k<l.length),gY (l.take k)+pC l[k]<=gY l
 |q::l,0,_=>by simp[gY]
 |q::l,k+1,h=>by
  have:=aLa l (k:=k) (by simpa using h)
  simp only[bQs,gY,List.getElem_cons_succ];omega
theorem aS1 (hF:cK p w0 S w)(cons:List cV): ∀(q:Pat),rR cons q=true->pC q<=1000-> ∀(v:aD),VOk p S w v-> ∀{en:En} {cnt:Nat->Nat->Nat} {bv:Val} {kl:Key} {ko:Option Key} {xs:List aD} (h:TS kt kr en cnt p w a left f n back bv) (hA:Acc en cnt kl ko xs),xs.length+pC q<=100000->
  WIn L (.fn 313 [] []) [.ptr kt 0,.agg [.i q.form,.i q.n,.str q.text,.fz (q.parts.map Pat.enc)],.agg [.i v.kind,.i v.n],.ptr kl 0] en cnt fun r en' cnt'=>r= .bool (fJ w q v).isSome/\ bHz kt kr en cnt p w a left f n back kl ko xs (fJ w q v) en' cnt':=by
 intro q
 induction q using Pat.ind with
 |h q ih=>
 intro hok hq v hv en cnt bv kl ko xs h hA hlen;have s1:=h.okt.set;have s2:=h.okr.set;have n1:=h.okt.new;have n2:=h.okr.new;have hn:=h.ne;have ht:=h.t;have hr:=h.r;have m1:=h.okt.eqF;have m2:=h.okr.eqF;have o1:=h.okt.eqF';have o2:=h.okr.eqF';have x1: ∀(en:En) (e:Option Ent),En.set en kt e kr=en kr:=fun _ _=>aI hn;have x2: ∀(en:En) (e:Option Ent),En.set en kr e kt=en kt:=fun _ _=>aI hn.symm
 obtain⟨⟨nl1,nl2⟩,no1,no2⟩:=hA.ne h;have l1:=hA.ok.set;have l2:=hA.ok.new;have l3:=hA.ok.eqF;have l4:=hA.ok.eqF';rw[aNs];rw[aJ5]at hok;simp only[bQj]at hok;have hhead:=hok.1
 by_cases h1:q.form=1
 ·rw[if_pos h1]
  refine fR aGm.2 rfl rfl ?_
  simp only[go_sem,kK,aGm,h1];exact⟨rfl,aFc h hA (.inr rfl) (fun k hk=>by simp only[hk.set]) (by(repeat refine upS ?_ (by omega));exact aM _)⟩
 rw[if_neg h1];have d1:decide (q.form=1)=false:=D_f h1
 by_cases h2:q.form=2
 ·rw[if_pos h2]
  refine fR aGm.2 rfl rfl ?_
  have hu: ∀t,cnt 0 t<=aC (aC (aC cnt 0 5 (cnt 0 5+1)) 0 6 (cnt 0 6+1)) 0 23 (cnt 0 23+1) 0 t:=(by(repeat refine upS ?_ (by omega));exact aM _)
  rcases hA.v with⟨v1,v2,v3⟩|⟨t,g,b,v1,v2,v3,v4⟩
  ·subst v1 v2;simp only[go_sem,kK,aGm,h2]
   refine aG ?_
   simp only[go_sem,kB,l1,v3,bP,eB,uS,aBy,aDi,rX,bQz,bRg,bRo,kA,kF]
   refine⟨rfl,⟨⟨bv,h.to (by simp only[aI nl1,s1]) (by simp only[aI nl2,s2]) hu⟩,fun l hl=>?_,fun x hx _ _ x1 _=>by simp only[aI x1,hx.set],hu⟩⟩
   simp only[bQi]at hl;subst hl
   refine⟨some ⟨0,23,cnt 0 23⟩,⟨hA.ok.up hu,.inr ⟨23,cnt 0 23,false,rfl,by simp[aC],?_,cC⟩⟩,.inr fun x hx ho=>?_⟩
   ·rw[l2,cC];rfl
   ·simp only[bQi]at hx;subst hx;exact bS1 _ ho.2
  ·subst v1;have hob:Old ⟨0,t,g⟩ cnt:=⟨rfl,v2⟩;have b1:=hob.set;have b0:=hob.new;have bF:=hob.eqF;have bF':=hob.eqF';have bl:(⟨0,t,g⟩:Key)≠kl:=by rintro rfl;rw[v3]at v4;cases v4
   have b2: ∀(en:En) (e:Option Ent),En.set en kl e ⟨0,t,g⟩=en ⟨0,t,g⟩:=fun _ _=>aI bl
   have b4: ∀(en:En) (e:Option Ent),En.set en ⟨0,t,g⟩ e kl=en kl:=fun _ _=>aI bl.symm
   have hlm:xs.length+1<=16777216:=by have:=tK q;omega
   simp only[go_sem,kK,aGm,h2]
   refine aG ?_
   simp only[go_sem,kB,l1,b1,b4,v3,v4,bP,eB,uQ,lB,aBy,hlm,bQl,bQu,bQz,kA,kF];have c1: ∀(en:En) (e:Option Ent),En.set en ⟨0,t,g⟩ e kt=en kt:=fun _ _=>aI fun e=>no1 (by rw[e])
   have c2: ∀(en:En) (e:Option Ent),En.set en ⟨0,t,g⟩ e kr=en kr:=fun _ _=>aI fun e=>no2 (by rw[e])
   refine⟨rfl,⟨⟨bv,h.to (by simp only[aI nl1,s1,c1]) (by simp only[aI nl2,s2,c2]) hu⟩,fun l hl=>?_,fun x hx _ _ x1 x2=>by
    have x3:x≠⟨0,t,g⟩:=fun e=>x2 (by rw[e])
    simp only[aI x1,hx.set,aI x3],hu⟩⟩
   simp only[bQi]at hl;subst hl
   refine⟨some ⟨0,23,cnt 0 23⟩,⟨hA.ok.up hu,.inr ⟨23,cnt 0 23,b,rfl,by simp[aC],?_,?_⟩⟩,.inr fun x hx ho=>?_⟩
   ·rw[l2,cC];simp[aD.enc]
   ·rw[cC];simp
   ·simp only[bQi]at hx;subst hx;exact bS1 _ ho.2
 rw[if_neg h2];have d2:decide (q.form=2)=false:=D_f h2
 by_cases h3:q.form=3
 ·rw[if_pos h3]
  refine fR aGm.2 rfl rfl ?_
  simp only[go_sem,kK,aGm,h3]
  refine aG ?_
  simp only[go_sem,(tH _).ret,uX,kA,kF]
  refine⟨by rw[(aB6 _).2],aFc h hA ?_ (fun k hk=>by simp only[hk.set]) (by(repeat refine upS ?_ (by omega));exact aM _)⟩
  split
  ·exact .inr rfl
  ·exact .inl rfl
 rw[if_neg h3];have d3:decide (q.form=3)=false:=D_f h3
 by_cases h4:q.form=4
 ·rw[if_pos h4]
  refine fR aGm.2 rfl rfl ?_
  simp only[go_sem,kK,aGm,h4]
  refine aG ?_
  simp only[go_sem,(aEy _).ret,uX,kA,kF]
  refine⟨by rw[(aB6 _).2],aFc h hA ?_ (fun k hk=>by simp only[hk.set]) (by(repeat refine upS ?_ (by omega));exact aM _)⟩
  split
  ·exact .inr rfl
  ·exact .inl rfl
 rw[if_neg h4];have d4:decide (q.form=4)=false:=D_f h4
 by_cases h5:q.form=5
 ·rw[if_pos h5]
  refine fR aGm.2 rfl rfl ?_
  simp only[go_sem,kK,aGm,h5]
  refine aG ?_
  simp only[go_sem,kG.ret,uX,kA,kF]
  refine⟨by rw[(aB6 _).2],aFc h hA ?_ (fun k hk=>by simp only[hk.set]) (by(repeat refine upS ?_ (by omega));exact aM _)⟩
  split
  ·exact .inr rfl
  ·exact .inl rfl
 rw[if_neg h5];have d5:decide (q.form=5)=false:=D_f h5;have h6:q.form=6:=by
  simp only[sS,xG,bQj]at hhead
  by_cases h6:q.form=6
  ·exact h6
  ·simp[h1,h2,h3,h4,h5,h6]at hhead
 obtain⟨⟨bv1,t1⟩,k1⟩:=h.stay (cnt':=aC (aC cnt 0 5 (cnt 0 5+1)) 0 6 (cnt 0 6+1)) (en':=(en.set ⟨0,5,cnt 0 5⟩ (some (.box [.i q.form,.i q.n,.str q.text,.fz (q.parts.map Pat.enc)] false))).set ⟨0,6,cnt 0 6⟩ (some (.box [.i v.kind,.i v.n] false))) (fun k hk=>by simp only[hk.set]) (by(repeat refine upS ?_ (by omega));exact aM _)
 have d6:decide (q.form=6)=true:=D_t h6
 refine fR aGm.2 rfl rfl ?_
 simp only[go_sem,kK,aGm,d2,d3,d4,d5,d6]
 refine(rI t1 (fQ hv) 1).mono ?_
 rintro r e1 c1 ⟨⟨x,rfl,hx⟩,⟨bv2,t2⟩,k2⟩
 obtain⟨p5,q5⟩:=k2.loc (d:=5) (g:=cnt 0 5) (by simp[aC]) h.okt.ne.symm h.okr.ne.symm
 obtain⟨p6,q6⟩:=k2.loc (d:=6) (g:=cnt 0 6) (by simp[aC]) h.okt.ne.symm h.okr.ne.symm
 simp only[go_sem]at p5 p6;have fall: ∀{en':En} {cnt':Nat->Nat->Nat},(∀x,Old x cnt->Old x c1->en' x=e1 x)->(∀t,c1 0 t<=cnt' 0 t)->bHz kt kr en cnt p w a left f n back kl ko xs none en' cnt':=by
  intro en' cnt' hk hu;obtain⟨t3,k3⟩:=h.fin t2 (k1.trans k2) hk hu;exact⟨t3,(fun l hl=>by cases hl),(fun x hx y1 y2 _ _=>k3.old x hx y1 y2),k3.up⟩
 rcases hx with⟨rfl,hI⟩|⟨rfl,hI⟩
 ·rw[if_neg (fun hh=>by rw[hI]at hh;cases hh.1)]
  simp only[go_sem,kK,hI];exact fall (fun x hx hy=>by simp only[hy.set]) (by(repeat refine upS ?_ (by omega));exact aM _)
 by_cases hn2:(w.obj v.n).n=q.n
 case neg=>
  have dn:decide ((w.obj v.n).n=q.n)=false:=D_f hn2;rw[if_neg (fun hh=>hn2 hh.2.1)]
  simp only[go_sem,kK,hI,dn,p5,q5.set];exact fall (fun x hx hy=>by simp only[hy.set]) (by(repeat refine upS ?_ (by omega));exact aM _)
 have dn:decide ((w.obj v.n).n=q.n)=true:=D_t hn2
 by_cases hl:(w.obj v.n).vals.length=q.parts.length
 case neg=>
  have dl:decide ((w.obj v.n).vals.length=q.parts.length)=false:=D_f hl;rw[if_neg (fun hh=>hl hh.2.2)]
  simp only[go_sem,kK,hI,dn,dl,p5,q5.set];exact fall (fun x hx hy=>by simp only[hy.set]) (by(repeat refine upS ?_ (by omega));exact aM _)
 have dl:decide ((w.obj v.n).vals.length=q.parts.length)=true:=D_t hl;rw[if_pos ⟨hI,hn2,hl⟩];obtain⟨_,a2,_,_⟩:=eZ hF hv hI;simp only[go_sem,kK,hI,dn,dl,p5,q5.set];have u1: ∀t,cnt 0 t<=c1 0 t:=fun t=>bQv (k1.up t) (k2.up t)
 have e0: ∀x,Old x cnt->x≠kt->x≠kr->e1 x=en x:=fun x hx y1 y2=>(k1.trans k2).old x hx y1 y2
 have hA1:Acc e1 c1 kl ko xs:=hA.to (fun x hx hy=>e0 x hx (fun e=>by rcases hy with hy|hy;exact nl1 (e▸hy);exact no1 (e▸hy)) (fun e=>by rcases hy with hy|hy;exact nl2 (e▸hy);exact no2 (e▸hy))) u1
 refine bQ q.parts.length (fun k st=> ∃fr en2 cnt2 ko2 l,st=⟨fr,en2,cnt2⟩/\ fr 0= .ptr kt 0/\ fr 3= .ptr kl 0/\ fr 9= .ptr ⟨0,9,c1 0 9⟩ 0/\ en2 ⟨0,9,c1 0 9⟩=some (.box [.i (w.obj v.n).form,.i (w.obj v.n).n,.fz ((w.obj v.n).vals.map aD.enc),.fz ((w.obj v.n).frames.map aB.enc)] false)/\ fr 72= .fz (q.parts.map Pat.enc)/\ fr 73= .i q.parts.length/\ fr 74= .i k/\
  nH w q.parts (w.obj v.n).vals k=some l/\ (∃bv2,TS kt kr en2 cnt2 p w a left f n back bv2)/\ Acc en2 cnt2 kl ko2 (xs++l)/\ (ko2=ko \/ ∀x,ko2=some x-> ¬Old x cnt)/\ (∀x,Old x cnt->x≠kt->x≠kr->x≠kl->some x≠ko->en2 x=en x)/\ (∀t,cnt 0 t<=cnt2 0 t)/\ c1 0 9<cnt2 0 9) 0 (bQt _)
  (by refine⟨_,_,_,ko,[],rfl,?_,?_,?_,?_,?_,?_,?_,by simp[nH,eM],(t2.stay (fun k hk=>by simp only[hk.set]) (by(repeat refine upS ?_ (by omega));exact aM _)).1,by rw[bRk];exact hA1.to (fun x hx _=>by simp only[hx.set]) (by(repeat refine upS ?_ (by omega));exact aM _),.inl rfl,fun x hx y1 y2 _ _=>by simp only[(hx.up u1).set];exact e0 x hx y1 y2,fun t=>bQv (u1 t) (((by(repeat refine upS ?_ (by omega));exact aM _): ∀t,c1 0 t<=aC c1 0 9 (c1 0 9+1) 0 t) t),by simp[aC]⟩<;>simp only[go_sem]) ?_
 rintro k st hk ⟨fr,en2,cnt2,ko2,l,rfl,k0,k3,k9,e9,k72,k73,k74,hm,⟨bv3,t3⟩,hA3,hko,hold,hup,h9⟩
 have q9:Old ⟨0,9,c1 0 9⟩ cnt2:=⟨rfl,h9⟩;have hlp:=aA8 q.parts;have hl3:=zF _ hm;have hl4:=zE q.parts k;rw[tK]at hq hlen;simp only[go_sem,kK,k73,k74]
 refine aH (fun hq2=>?_) (fun hq2=>?_)
 ·have h':k<q.parts.length:=D_o hq2;have h'':k<(w.obj v.n).vals.length:=by omega
  have hr2:=wA (bQr h');have hr3:=aLa q.parts h';have hst:=aFb (w:=w) h' h'';rw[hm]at hst;simp only[go_sem,k0,k3,k9,e9,k72,k74,h',h'',q9.set];obtain⟨⟨bv4,t4⟩,k4⟩:=t3.stay (cnt':=aC cnt2 0 12 (cnt2 0 12+1)) (en':=(en2.set ⟨0,12,cnt2 0 12⟩ (some (.box [.i 0,.i 0,.str ⟨#[]⟩,.cl []] false))).set ⟨0,12,cnt2 0 12⟩ (some (.box [.i q.parts[k].form,.i q.parts[k].n,.str q.parts[k].text,.fz (q.parts[k].parts.map Pat.enc)] false))) (fun k hk=>by simp only[hk.set]) (by(repeat refine upS ?_ (by omega));exact aM _)
  have n9:some (⟨0,9,c1 0 9⟩:Key)≠ko2:=by
   rintro rfl
   rcases hA3.v with⟨z,_⟩|⟨t,g,b,z1,_,z3,_⟩
   ·cases z
   ·simp only[bQi]at z1;rw[<-z1,e9]at z3;cases z3
  have u3: ∀t,cnt2 0 t<=aC cnt2 0 12 (cnt2 0 12+1) 0 t:=(by(repeat refine upS ?_ (by omega));exact aM _)
  have hA4:=hA3.to (cnt':=aC cnt2 0 12 (cnt2 0 12+1)) (en':=(en2.set ⟨0,12,cnt2 0 12⟩ (some (.box [.i 0,.i 0,.str ⟨#[]⟩,.cl []] false))).set ⟨0,12,cnt2 0 12⟩ (some (.box [.i q.parts[k].form,.i q.parts[k].n,.str q.parts[k].text,.fz (q.parts[k].parts.map Pat.enc)] false))) (fun x hx _=>by simp only[hx.set]) u3
  have hpo:rR cons q.parts[k]=true:=bQp.1 hok.2 _ (bQr h')
  refine(ih q.parts[k] (bQr h') hpo (by omega) (w.obj v.n).vals[k] (a2.vals (bQr h'')) t4 hA4 (by rw[bQ2];omega)).mono ?_
  rintro r e5 c5 ⟨rfl,F5⟩
  have up5: ∀t,cnt 0 t<=c5 0 t:=fun t=>bQv (hup t) (bQv (u3 t) (F5.up t))
  have old5: ∀x,Old x cnt->x≠kt->x≠kr->x≠kl->some x≠ko->e5 x=en x:=fun x hx y1 y2 y3 y4=>by
   have hx2:=hx.up hup;rw[F5.old x (hx2.up u3) y1 y2 y3 (fun e=>by
    rcases hko with hko|hko
    ·exact y4 (e.trans hko)
    ·exact hko x e.symm hx),hx2.set,hx2.set]
   exact hold x hx y1 y2 y3 y4
  have e59:e5 ⟨0,9,c1 0 9⟩=some (.box [.i (w.obj v.n).form,.i (w.obj v.n).n,.fz ((w.obj v.n).vals.map aD.enc),.fz ((w.obj v.n).frames.map aB.enc)] false):=by
   rw[F5.old _ (q9.up u3) t2.okt.ne.symm t2.okr.ne.symm hA1.ok.ne.symm n9,q9.set,q9.set];exact e9
  cases hx:fJ w q.parts[k] (w.obj v.n).vals[k]with
  |none=>
   rw[hx]at F5 hst;have hnone:=aFa hl.symm hst;rw[hnone];simp only[go_sem,kK,bSr];exact⟨F5.ts,(fun l hl=>by cases hl),old5,up5⟩
  |some r=>
   rw[hx]at F5 hst;obtain⟨ko5,hA5,hko5⟩:=F5.acc r rfl;simp only[go_sem,kK,bSi,k74,aR h' (show Few q.parts.length by unfold Few;omega)]
   refine⟨_,_,_,ko5,l++r,rfl,?_⟩
   simp only[go_sem,k0,k3,k9,k72,k73]
   refine⟨e59,hst,F5.ts,by rw[<-List.append_assoc];exact hA5,?_,old5,up5,bRa h9 (bQv (u3 9) (F5.up 9))⟩
   rcases hko5 with hko5|hko5
   ·rw[hko5];exact hko
   ·exact .inr fun x hx ho=>hko5 x hx ((ho.up hup).up u3)
 ·have:k=q.parts.length:=by simp at hq2;omega
  subst this;have hfull:eM w q.parts (w.obj v.n).vals=some l:=by
   unfold nH at hm;rw[bR1,<-hl,bR1]at hm;exact hm
  rw[hfull];simp only[go_sem,bSi];exact⟨⟨bv3,t3⟩,fun l' hl'=>by cases hl';exact⟨ko2,hA3,hko⟩,hold,hup⟩
end
theorem aLb (v:aD):v.enc= .agg [.i v.kind,.i v.n]:=rfl
theorem aP {l:List aD}(h:0<l.length):mA 2 en (.fz (l.map aD.enc)) (.i 0)=some {v:= .fp [.i (aE l 0).kind,.i (aE l 0).n] 0}:=
 aCh (f:=aD.enc) (size:=2) (i:=0) iO (by simp only[inR,bT8];omega) fun _=>rfl
theorem fZ {l:List aD}(h:1<l.length):mA 2 en (.fz (l.map aD.enc)) (.i 1)=some {v:= .fp [.i (aE l 1).kind,.i (aE l 1).n] 0}:=
 aCh (f:=aD.enc) (size:=2) (i:=1) iO (by simp only[inR,bT8];omega) fun _=>rfl
noncomputable def aS2 :{c//L 133=some c}:=cA func133
theorem aYi (h:cK p w0 S w)(ha:inR a 0 ((w.tasks.length:Int)-1)=true)(hv:VOk p S w v):
  PC L 133 [.agg w.cs,.i a,.fz (left.map aB.enc),.agg [.i v.kind,.i v.n]] (.agg [.fz ((fX w a left v).w.objs.map aN.enc),.fz ((fX w a left v).w.tasks.map (.int .i64)),.fz ((fX w a left v).w.outs.map bL.enc),.fz ((fX w a left v).w.ins.map (.int .i64)),.i (fX w a left v).w.used,.i (fX w a left v).what,.i (fX w a left v).e.task,.i (fX w a left v).e.act,.i (fX w a left v).e.n,.i (fX w a left v).e.v.kind,.i (fX w a left v).e.v.n]):=by
 have hfit:=uW h ha;have hF:=fW w a 2 hfit;have hO:=pB w v 6 (fQ hv)
 by_cases h6:bY w v 6=true
 ·obtain⟨_,a2,a3,_⟩:=eZ h hv h6;rw[uV,if_pos h6,h6]at hO;have hF3:=fW w a (w.obj v.n).n hfit
  by_cases h0:(w.obj v.n).n=0
  ·have d0:decide ((w.obj v.n).n=0)=true:=D_t h0;have e:fX w a left v=lX w:=by unfold fX;rw[if_pos h6,if_pos h0]
   rw[e]
   refine cJ aS2.2 rfl rfl ?_
   simp only[go_sem,kK,aS2,hO.ret,d0,lX,fV,iO]
  ·have d0:decide ((w.obj v.n).n=0)=false:=D_f h0
   by_cases h1:(w.obj v.n).n=1
   ·have d1:decide ((w.obj v.n).n=1)=true:=D_t h1;have e:fX w a left v=dD (bT w a left (aE (w.obj v.n).vals 0)) a 20 0 (aE (w.obj v.n).vals 0):=by unfold fX;rw[if_pos h6,if_neg h0,if_neg (by rw[h1];decide)]
    rw[e];have hk:=a2.ok;rw[dI,if_pos a3,jQ,if_neg h0,if_pos h1]at hk;simp only[bQj,bT8]at hk;have hB:=jM w a left (aE (w.obj v.n).vals 0) hfit;have hE:=mF (bT w a left (aE (w.obj v.n).vals 0)) a 20 0 (aE (w.obj v.n).vals 0)
    refine cJ aS2.2 rfl rfl ?_
    simp only[go_sem,kK,aS2,hO.ret,d0,d1]
    refine aG ?_
    simp only[go_sem,aP (l:=(w.obj v.n).vals) (by omega),hB.ret,hE.ret,kA,bQm,if_false]
   ·have d1:decide ((w.obj v.n).n=1)=false:=D_f h1;have e:fX w a left v=bE w a (w.obj v.n).n:=by unfold fX;rw[if_pos h6,if_neg h0,if_pos h1]
    rw[e]
    refine cJ aS2.2 rfl rfl ?_
    simp only[go_sem,kK,aS2,hO.ret,d0,d1,hF3.ret]
 ·have e:fX w a left v=bE w a 2:=by unfold fX;rw[if_neg h6]
  rw[e];rw[bRu]at h6;rw[h6]at hO
  refine cJ aS2.2 rfl rfl ?_
  simp only[go_sem,kK,aS2,hO.ret,hF.ret]
theorem aP1 {n:Int}{o:aN}(hf:Fit w a):Fit (cW w n o) a:=by
 refine⟨?_,hf.at_,?_⟩
 ·rw[qO];exact hf.len
 ·rw[qO];exact hf.rng
noncomputable def aS3 :{c//L 131=some c}:=cA func131
theorem aGn (h:cK p w0 S w)(ha:inR a 0 ((w.tasks.length:Int)-1)=true){l:List aD}(hv: ∀v∈l,VOk p S w v)(h0:0<l.length)(ho:op=16 \/op=17 \/op=18/\ 1<l.length):
  PC L 131 [.agg w.cs,.i a,.fz (left.map aB.enc),.i op,.fz (l.map aD.enc)] (.agg [.fz ((eJ w a left op l).w.objs.map aN.enc),.fz ((eJ w a left op l).w.tasks.map (.int .i64)),.fz ((eJ w a left op l).w.outs.map bL.enc),.fz ((eJ w a left op l).w.ins.map (.int .i64)),.i (eJ w a left op l).w.used,.i (eJ w a left op l).what,.i (eJ w a left op l).e.task,.i (eJ w a left op l).e.act,.i (eJ w a left op l).e.n,.i (eJ w a left op l).e.v.kind,.i (eJ w a left op l).e.v.n]):=by
 have hfit:=uW h ha;have hF:=fW w a 2 hfit;have hv0:=hv _ (dH h0);have hO:=pB w (aE l 0) 3 (fQ hv0)
 by_cases h16:op=16
 ·subst h16;have e:eJ w a left 16 l=dD (iF w a left ⟨3,0,[aE l 0],[]⟩) a 16 0 (aE l 0):=by unfold eJ;rw[if_pos rfl]
  rw[e];have hM:=aIm w a left ⟨3,0,[aE l 0],[]⟩ hfit;have hE:=mF (iF w a left ⟨3,0,[aE l 0],[]⟩) a 16 0 (aE l 0);simp only[bRj,bQ1,aLb]at hM
  refine cJ aS3.2 rfl rfl ?_
  simp only[go_sem,kK,aS3]
  refine aG ?_
  simp only[go_sem,aP h0,pZ,lA,hM.ret,hE.ret,kA,bQm,if_false]
 ·have d16:decide (op=16)=false:=D_f h16
  by_cases h3:bY w (aE l 0) 3=true
  ·obtain⟨a1,a2,a3,_⟩:=eZ h hv0 h3;rw[uV,if_pos h3,h3]at hO;have hk:=a2.ok;simp only[dI,a3]at hk
   simp at hk
   by_cases h17:op=17
   ·subst h17;have e:eJ w a left 17 l=dD (bT w a left (aE (w.obj (aE l 0).n).vals 0)) a 17 0 (aE (w.obj (aE l 0).n).vals 0):=by
     unfold eJ;rw[if_neg (by decide),if_pos h3,if_pos rfl]
    rw[e];have hB:=jM w a left (aE (w.obj (aE l 0).n).vals 0) hfit;have hE:=mF (bT w a left (aE (w.obj (aE l 0).n).vals 0)) a 17 0 (aE (w.obj (aE l 0).n).vals 0)
    refine cJ aS3.2 rfl rfl ?_
    simp only[go_sem,kK,aS3]
    refine aG ?_
    simp only[go_sem,kK,aP h0,hO.ret,kA,bQm,if_false]
    refine aG ?_
    simp only[go_sem,aP (l:=(w.obj (aE l 0).n).vals) (by omega),hB.ret,hE.ret,kA,bQm,if_false]
   ·have d17:decide (op=17)=false:=D_f h17;have h18:op=18:=by omega
    have hl1:1<l.length:=by omega
    subst h18;have e:eJ w a left 18 l=dD (bT (cW w (aE l 0).n ⟨3,0,[aE l 1],[]⟩) a left bJ) a 18 0 (aE l 1):=by
     unfold eJ;rw[if_neg (by decide),if_pos h3,if_neg (by decide)]
    rw[e];simp only[inR,bT8]at ha;have hS:=aK0 w (aE l 0).n ⟨3,0,[aE l 1],[]⟩ a1 (by omega) hfit.len
    have hB:=jM (cW w (aE l 0).n ⟨3,0,[aE l 1],[]⟩) a left bJ (aP1 hfit);have hE:=mF (bT (cW w (aE l 0).n ⟨3,0,[aE l 1],[]⟩) a left bJ) a 18 0 (aE l 1);simp only[bRj,bQ1,aLb]at hS
    refine cJ aS3.2 rfl rfl ?_
    simp only[go_sem,kK,aS3]
    refine aG ?_
    simp only[go_sem,kK,aP h0,hO.ret,kA,bQm,if_false]
    refine aG ?_
    simp only[go_sem,aP h0,fZ hl1,pZ,lA,hS.ret,kA,bQm,if_false]
    refine aG ?_
    simp only[go_sem,fZ hl1,nF.ret,hB.ret,hE.ret,kA,bQm,if_false]
  ·have e:eJ w a left op l=bE w a 2:=by unfold eJ;rw[if_neg h16,if_neg h3]
   rw[e];rw[bRu]at h3;rw[h3]at hO
   refine cJ aS3.2 rfl rfl ?_
   simp only[go_sem,kK,aS3,d16]
   refine aG ?_
   simp only[go_sem,kK,aP h0,hO.ret,kA,bQm,if_false];simp only[go_sem,hF.ret]
variable {size:Nat}{xs:List Val}
theorem aB7 {k:IntKind}(h:1<=xs.length)(hs:cT size xs=true):jY false size en (.fz xs) (some (.int k 1)) none none=some {v:= .fz (xs.drop 1)}:=aJw (i:=1) h hs
noncomputable def aMk :{c//L 135=some c}:=cA func135
theorem aFd (h:cK p w0 S w)(ha:inR a 0 ((w.tasks.length:Int)-1)=true){l:List aD}(hv: ∀v∈l,VOk p S w v)(h0:0<l.length)(ho:op=22/\ 1<l.length \/op=23):
  PC L 135 [.agg w.cs,.i a,.fz (left.map aB.enc),.i op,.fz (l.map aD.enc)] (.agg [.fz ((bV w a left op l).w.objs.map aN.enc),.fz ((bV w a left op l).w.tasks.map (.int .i64)),.fz ((bV w a left op l).w.outs.map bL.enc),.fz ((bV w a left op l).w.ins.map (.int .i64)),.i (bV w a left op l).w.used,.i (bV w a left op l).what,.i (bV w a left op l).e.task,.i (bV w a left op l).e.act,.i (bV w a left op l).e.n,.i (bV w a left op l).e.v.kind,.i (bV w a left op l).e.v.n]):=by
 have hfit:=uW h ha;have hF:=fW w a 2 hfit;have hv0:=hv _ (dH h0);have hO:=pB w (aE l 0) 4 (fQ hv0);have ht:0<w.tasks.length:=by simp only[inR,bT8]at ha;omega
 by_cases h3:bY w (aE l 0) 4=true
 ·obtain⟨a1,a2,a3,_⟩:=eZ h hv0 h3;rw[uV,if_pos h3,h3]at hO;have hk:=a2.ok;simp only[dI,a3]at hk;simp[bA]at hk
  by_cases h22:op=22
  ·subst h22;have hl1:1<l.length:=by omega
   by_cases h4:4<=(w.obj (aE l 0).n).vals.length
   ·have d4:decide ((4:Int)<=((w.obj (aE l 0).n).vals.length:Int))=true:=D_t (by omega)
    have e:bV w a left 22 l=lX w:=by unfold bV;rw[if_pos h3,if_pos rfl,if_pos h4]
    rw[e]
    refine cJ aMk.2 rfl rfl ?_
    simp only[go_sem,kK,aMk]
    refine aG ?_
    simp only[go_sem,kK,aP h0,hO.ret,kA,bQm,if_false];simp only[go_sem,kK,d4,lX,fV,iO]
   ·have d4:decide ((4:Int)<=((w.obj (aE l 0).n).vals.length:Int))=false:=D_f (by omega)
    have e:bV w a left 22 l=dD (bT (cW w (aE l 0).n ⟨4,0,(w.obj (aE l 0).n).vals++[aE l 1],[]⟩) a left bJ) a 22 0 (aE l 1):=by
     unfold bV;rw[if_pos h3,if_pos rfl,if_neg h4]
    rw[e];have hM:=aEw (w.obj (aE l 0).n).vals (aE l 1) (by omega)
    have hS:=aK0 w (aE l 0).n ⟨4,0,(w.obj (aE l 0).n).vals++[aE l 1],[]⟩ a1 ht hfit.len;have hB:=jM (cW w (aE l 0).n ⟨4,0,(w.obj (aE l 0).n).vals++[aE l 1],[]⟩) a left bJ (aP1 hfit);have hE:=mF (bT (cW w (aE l 0).n ⟨4,0,(w.obj (aE l 0).n).vals++[aE l 1],[]⟩) a left bJ) a 22 0 (aE l 1);simp only[bQ1]at hS
    refine cJ aMk.2 rfl rfl ?_
    simp only[go_sem,kK,aMk]
    refine aG ?_
    simp only[go_sem,kK,aP h0,hO.ret,kA,bQm,if_false];simp only[go_sem,d4]
    refine aG ?_
    simp only[go_sem,aP h0,fZ hl1,hM.ret,hS.ret,kA,bQm,if_false]
    refine aG ?_
    simp only[go_sem,fZ hl1,nF.ret,hB.ret,hE.ret,kA,bQm,if_false]
  ·have h23:op=23:=by omega
   subst h23
   by_cases hz:(w.obj (aE l 0).n).vals.length=0
   ·have dz:decide (((w.obj (aE l 0).n).vals.length:Int)=0)=true:=D_t (by omega)
    have e:bV w a left 23 l=lX w:=by unfold bV;rw[if_pos h3,if_neg (by decide),if_pos hz]
    rw[e]
    refine cJ aMk.2 rfl rfl ?_
    simp only[go_sem,kK,aMk]
    refine aG ?_
    simp only[go_sem,kK,aP h0,hO.ret,kA,bQm,if_false];simp only[go_sem,kK,dz,lX,fV,iO]
   ·have dz:decide (((w.obj (aE l 0).n).vals.length:Int)=0)=false:=D_f (by omega)
    have e:bV w a left 23 l=dD (bT (cW w (aE l 0).n ⟨4,0,(w.obj (aE l 0).n).vals.drop 1,[]⟩) a left (aE (w.obj (aE l 0).n).vals 0)) a 23 0 (aE (w.obj (aE l 0).n).vals 0):=by
     unfold bV;rw[if_pos h3,if_neg (by decide),if_neg hz]
    rw[e];have hS:=aK0 w (aE l 0).n ⟨4,0,(w.obj (aE l 0).n).vals.drop 1,[]⟩ a1 ht hfit.len;have hB:=jM (cW w (aE l 0).n ⟨4,0,(w.obj (aE l 0).n).vals.drop 1,[]⟩) a left (aE (w.obj (aE l 0).n).vals 0) (aP1 hfit);have hE:=mF (bT (cW w (aE l 0).n ⟨4,0,(w.obj (aE l 0).n).vals.drop 1,[]⟩) a left (aE (w.obj (aE l 0).n).vals 0)) a 23 0 (aE (w.obj (aE l 0).n).vals 0);simp only[bQ1]at hS;have hge:1<=(w.obj (aE l 0).n).vals.length:=by omega
    have hl16:((w.obj (aE l 0).n).vals.drop 1).length<=16777216:=by simp only[bS3];omega
    refine cJ aMk.2 rfl rfl ?_
    simp only[go_sem,kK,aMk]
    refine aG ?_
    simp only[go_sem,kK,aP h0,hO.ret,kA,bQm,if_false];simp only[go_sem,dz]
    refine aG ?_
    cases hd:((w.obj (aE l 0).n).vals.drop 1).isEmpty with
    |true=>
     have hd':(w.obj (aE l 0).n).vals.drop 1=[]:=by simpa using hd
     rw[hd']at hS hB hE⊢;simp only[bQ1]at hS;simp only[go_sem,aP h0,aB7,sW,hge,bP,eB,nN,<-bTh,hd',bQ1,pZ,lA,hS.ret,kA,bQm,if_false]
     refine aG ?_
     simp only[go_sem,aP (l:=(w.obj (aE l 0).n).vals) (by omega),hB.ret,hE.ret,kA,bQm,if_false]
    |false=>
     generalize hgd:(w.obj (aE l 0).n).vals.drop 1=dl at*;simp only[go_sem,aP h0,aB7,sW,hge,bP,eB,iW,<-bTh,hgd,iI,hd,hl16,bQl,bQk,bQ3,uP,nM,hS.ret,kA,bQm,if_false]
     refine aG ?_
     simp only[go_sem,aP (l:=(w.obj (aE l 0).n).vals) (by omega),hB.ret,hE.ret,kA,bQm,if_false]
 ·have e:bV w a left op l=bE w a 2:=by unfold bV;rw[if_neg h3]
  rw[e];rw[bRu]at h3;rw[h3]at hO
  refine cJ aMk.2 rfl rfl ?_
  simp only[go_sem,kK,aMk]
  refine aG ?_
  simp only[go_sem,kK,aP h0,hO.ret,kA,bQm,if_false];simp only[go_sem,hF.ret]
theorem aNt {n:Nat}{k:Key}{kk:IntKind}(hn:1<=n):jY false size en (.bl k 0 n) (some (.int kk 1)) none none=(match en k with
  |some (.blk sz _ _)=>if sz=size then some {v:= .bl k 1 (n-1),rs:=[.val k]}else none
  |_=>none):=by
 have hb:iR (some (.int kk 1)) 0 n=some 1:=tE (i:=1) hn;simp only[jY,uH,hb,bQm,if_false];cases en k with
 |none=>rfl
 |some e=>cases e<;>simp
theorem bB4 (hf:Fit w a)(h1:outs.length<=110)(h2:ins.length<=60):Fit ⟨w.objs,w.tasks,outs,ins,used⟩ a:=⟨⟨hf.len.1,hf.len.2.1,h1,h2⟩,hf.at_,hf.rng⟩
theorem aNu (x:Int)(l:List Int):(x::l).map (Val.int .i64)= .i x::l.map (.int .i64):=rfl
set_option maxHeartbeats 1600000 in
theorem aLc (h:cK p w0 S w)(ha:inR a 0 ((w.tasks.length:Int)-1)=true)(n:aK){l:List aD}(hv: ∀v∈l,VOk p S w v)(ho:n.op=25 \/n.op=24/\ 0<l.length):
  PC L 136 [.agg [.fz (w.objs.map aN.enc),.fz (w.tasks.map (.int .i64)),.fz (w.outs.map bL.enc),.fz (w.ins.map (.int .i64)),.i w.used],.i a,.fz (left.map aB.enc),.agg [.i n.op,.i n.n,.fz (n.kids.map (.int .i64)),.fz (n.pats.map Pat.enc)],.fz (l.map aD.enc)] (.agg [.fz ((dE w a left n.op n.n l).w.objs.map aN.enc),.fz ((dE w a left n.op n.n l).w.tasks.map (.int .i64)),.fz ((dE w a left n.op n.n l).w.outs.map bL.enc),.fz ((dE w a left n.op n.n l).w.ins.map (.int .i64)),.i (dE w a left n.op n.n l).w.used,.i (dE w a left n.op n.n l).what,.i (dE w a left n.op n.n l).e.task,.i (dE w a left n.op n.n l).e.act,.i (dE w a left n.op n.n l).e.n,.i (dE w a left n.op n.n l).e.v.kind,.i (dE w a left n.op n.n l).e.v.n]):=by
 have hfit:=uW h ha;have hF2:=fW w a 2 hfit;have hF4:=fW w a 4 hfit
 try simp only[aA.cs,Val.is]at hF2 hF4
 obtain⟨b1,b2,b3,b4,b5,b6,b7⟩:=cD.1 h.ok;simp only[nJ,bQj,bT8]at b3;simp only[inR,bT8]at b4;have hat:=hfit.at_;have hrng:=hfit.rng;simp only[inR,bT8]at hat hrng;have t1:((w.objs.map aN.enc).take w.objs.length)=w.objs.map aN.enc:=bQ3 (by simp)
 have t2:((w.tasks.map (Val.int .i64)).take w.tasks.length)=w.tasks.map (.int .i64):=bQ3 (by simp)
 have t3:((w.outs.map bL.enc).take w.outs.length)=w.outs.map bL.enc:=bQ3 (by simp)
 have t4:((w.ins.map (Val.int .i64)).take w.ins.length)=w.ins.map (.int .i64):=bQ3 (by simp)
 refine pcA func136 ?_
 simp only[go_sem,kK]
 refine(aE4 w (by omega) (by omega) hfit.len (aA4 _ _ w)).mono ?_
 rintro x en1 cnt1 ⟨⟨g5,g8,vU,vI,rfl,e5,l5,m5,e8,l8,m8,mU,mI⟩,old,up⟩
 have q5:=old 5 0 (by simp[aC])
 have q8:=old 8 0 (by simp[aC])
 have q10:=old 10 0 (by simp[aC])
 have n5: ¬g5=0:=by simp[aC]at l5;omega
 have n8: ¬g8=0:=by simp[aC]at l8;omega
 have n5': ¬0=g5:=by omega
 have n8': ¬0=g8:=by omega
 try simp only[go_sem]at q5 q8 q10
 obtain⟨g11,hg11⟩: ∃g,g=cnt1 0 11:=⟨_,rfl⟩
 have eU:=True.intro;have eI:=True.intro;have nU:=True.intro
 by_cases h25:n.op=25
 ·rw[h25];cases hins:w.ins with
  |nil=>
   have e:dE w a left 25 n.n l=lX w:=by unfold dE;rw[if_pos rfl,hins]
   rw[e];rcases mI with⟨rfl,hi⟩|⟨gI,rfl,eI,lI,hi⟩
   ·rcases mU with⟨rfl,hu⟩|⟨gU,rfl,eU,lU,hu⟩
    all_goals simp only[go_sem,kK,q5,q8,q10,n5,h25,e5,e8,eU,t1,t2,t3,bQl,bQk,lX,fV,iO,hu,hins,bQ1]
   ·rw[hins]at hi;cases hi
  |cons x xs=>
   have hx:inR x (-1000000000) 1000000000=true:=by rw[hins]at b3;simp only[bSs,bQj]at b3;exact b3.2.1
   have hlx:xs.length+1<=50:=by rw[hins]at b3;have:=b3.1;simp only[bQu]at this;omega
   have hlen:w.ins.length=xs.length+1:=by rw[hins];rfl
   rcases mI with⟨rfl,hi⟩|⟨gI,rfl,eI,lI,hi⟩
   ·rw[hins]at hi;cases hi
   rw[hins,aNu]at eI;have tx:(xs.map (Val.int .i64)).take xs.length=xs.map (.int .i64):=bQ3 (by simp)
   have dpos:(0:Int)<((xs.length+1:Nat):Int):=by omega
   have di:decide (((xs.length+1:Nat):Int)=0)=false:=D_f (by omega)
   by_cases hus:1000000000<=w.used
   ·have du:decide ((1000000000:Int)<=w.used)=true:=D_t hus;have e:dE w a left 25 n.n l=bE w a 4:=by unfold dE;rw[if_pos rfl,hins];simp only;rw[if_pos hus]
    rw[e];rw[hins,aNu]at hF4;rcases mU with⟨rfl,hu⟩|⟨gU,rfl,eU,lU,hu⟩
    ·rw[hu]at hF4;simp only[go_sem,kK,q5,q8,q10,n5,h25,e5,e8,eI,t1,t2,bQl,bQu,bQk,hlen,di,dpos,bS9,bS6,tx,(aDe _).ret,<-hg11,du,hF4.ret]
    ·have nU: ¬gU=g11:=by omega
     simp only[go_sem,kK,q5,q8,q10,n5,h25,e5,e8,eI,eU,nU,t1,t2,t3,bQl,bQu,bQk,hlen,di,dpos,bS9,bS6,tx,(aDe _).ret,<-hg11,du,hF4.ret]
   ·have du:decide ((1000000000:Int)<=w.used)=false:=D_f hus;have e:dE w a left 25 n.n l=dD (bT ⟨w.objs,w.tasks,w.outs,xs,w.used+1⟩ a left (mS x)) a 25 0 (mS x):=by unfold dE;rw[if_pos rfl,hins];simp only;rw[if_neg hus]
    rw[e];have hwu:IntKind.i64.wrap (w.used+1)=w.used+1:=aV (by omega)
    have hB:=jM ⟨w.objs,w.tasks,w.outs,xs,w.used+1⟩ a left (mS x) (bB4 hfit (by omega) (by omega))
    have hE:=mF (bT ⟨w.objs,w.tasks,w.outs,xs,w.used+1⟩ a left (mS x)) a 25 0 (mS x);dsimp only[aA.cs,Val.is]at hB;have hx1:1<=xs.length+1:=by omega
    have hx2:xs.length+1-1=xs.length:=by omega
    have hx3:1+xs.length<=xs.length+1:=by omega
    have hx4:xs.length<=16777216:=by omega
    cases hxe:xs.isEmpty
    all_goals
     try(have hxe':xs=[]:=(by simpa using hxe);subst hxe')
     try simp only[bQ1]at hB
     rcases mU with⟨rfl,hu⟩|⟨gU,rfl,eU,lU,hu⟩
     ·rw[hu]at hB;simp only[go_sem,kK,q5,q8,h25,eI,bQl,bQu,bQk,hlen,di,dpos,bS9,bS6,(aDe _).ret,<-hg11,du]
      refine aG ?_
      simp only[go_sem,kB,eI,hx1,hx2,hx3,hx4,hxe,tx,aNt,aKz,bP,eB,nN,iW,iI,aBx,bQl,bQu,bQz,bQk,hwu,bQ1,kA,bQm,if_false]
      refine aG ?_
      simp only[go_sem,q8,q10,n5,n8',h25,e5,e8,hB.ret,hE.ret,t1,t2,tx,bQl,bQk,bQ1,kA,bQm,if_false]
     ·have nU: ¬gU=g11:=by omega
      have nU': ¬g11=gU:=by omega
      simp only[go_sem,kK,q5,q8,h25,eI,bQl,bQu,bQk,hlen,di,dpos,bS9,bS6,(aDe _).ret,<-hg11,du]
      refine aG ?_
      simp only[go_sem,kB,eI,hx1,hx2,hx3,hx4,hxe,tx,aNt,aKz,bP,eB,nN,iW,iI,aBx,bQl,bQu,bQz,bQk,hwu,bQ1,kA,bQm,if_false]
      refine aG ?_
      simp only[go_sem,q8,q10,n5,n8',h25,e5,e8,eU,nU,nU',hB.ret,hE.ret,t1,t2,t3,tx,bQl,bQk,bQ1,kA,bQm,if_false]
 ·have h24:n.op=24:=by omega
  have h0:0<l.length:=by omega
  rw[h24]
  by_cases hk:(aE l 0).kind=1
  ·have dk:decide ((aE l 0).kind=1)=true:=D_t hk
   by_cases h100:100<=w.outs.length
   ·have d1:decide ((100:Int)<=(w.outs.length:Int))=true:=D_t (by omega)
    have e:dE w a left 24 n.n l=bE w a 4:=by unfold dE;rw[if_neg (by decide),if_neg (fun h=>h hk),if_pos h100]
    rw[e];rcases mU with⟨rfl,hu⟩|⟨gU,rfl,eU,lU,hu⟩
    ·have:w.outs=[]:=by simpa using hu
     rw[this]at h100;simp at h100
    ·rcases mI with⟨rfl,hi⟩|⟨gI,rfl,eI,lI,hi⟩
     ·rw[hi]at hF4;simp only[go_sem,kK,q5,q8,q10,n5,h24,aP h0,dk,d1,e5,e8,eU,t1,t2,t3,bQl,bQk,hF4.ret]
     ·simp only[go_sem,kK,q5,q8,q10,n5,h24,aP h0,dk,d1,e5,e8,eU,eI,t1,t2,t3,t4,bQl,bQk,hF4.ret]
   ·have e:dE w a left 24 n.n l=dD (bT ⟨w.objs,w.tasks,w.outs++[⟨n.n,(aE l 0).n⟩],w.ins,w.used⟩ a left bJ) a 24 n.n (aE l 0):=by
     unfold dE;rw[if_neg (by decide),if_neg (fun h=>h hk),if_neg h100]
    rw[e];have hB:=jM ⟨w.objs,w.tasks,w.outs++[⟨n.n,(aE l 0).n⟩],w.ins,w.used⟩ a left bJ (bB4 hfit (by simp only[bQ2,bQu,bQz];omega) (by omega))
    have hE:=mF (bT ⟨w.objs,w.tasks,w.outs++[⟨n.n,(aE l 0).n⟩],w.ins,w.used⟩ a left bJ) a 24 n.n (aE l 0);simp only[aA.cs,Val.is,bRl,bRj,bQ1,bL.enc]at hB;have hl1:w.outs.length+1<=16777216:=by omega
    rcases mU with⟨rfl,hu⟩|⟨gU,rfl,eU,lU,hu⟩
    ·have d1:decide ((100:Int)<=0)=false:=D_f (by omega)
     have hu':List.map (fun x:bL=>Val.agg [.i x.port,.i x.n]) w.outs=[]:=hu
     have hu2:w.outs=[]:=by simpa using hu
     rw[hu2]at hB hE⊢;simp only[bQ1,bRo]at hB hE⊢;rcases mI with⟨rfl,hi⟩|⟨gI,rfl,eI,lI,hi⟩
     all_goals
      try rw[hi]at hB
      simp only[go_sem,kK,q5,q8,h24,aP h0,dk,bQl,bQk]
      refine aG ?_
      simp only[go_sem,q8,h24,aP h0,kB,bQk,bP,eB,iW,List.isEmpty_cons,bGc,kA,bQm,if_false]
      refine aG ?_
      simp only[go_sem,q8,q10,n5,n8',h24,aP h0,e5,e8,eI,t1,t2,t4,bQl,bQk,nF.ret,hB.ret,hE.ret,kA,bQm,if_false]
    ·have d1:decide ((100:Int)<=(w.outs.length:Int))=false:=D_f (by omega)
     rcases mI with⟨rfl,hi⟩|⟨gI,rfl,eI,lI,hi⟩
     all_goals
      try rw[hi]at hB
      simp only[go_sem,kK,q5,q8,h24,aP h0,dk,d1,bQl,bQk]
      refine aG ?_
      simp only[go_sem,q8,h24,aP h0,kB,eU,bQl,bQk,hl1,bP,eB,uQ,lB,bS0,bGc,kA,bQm,if_false]
      refine aG ?_
      simp only[go_sem,q8,q10,n5,n8',h24,aP h0,e5,e8,eI,t1,t2,t4,bQl,bQk,bQ2,bS0,bQ3,nF.ret,hB.ret,hE.ret,kA,bQm,if_false]
  ·have dk:decide ((aE l 0).kind=1)=false:=D_f hk;have e:dE w a left 24 n.n l=bE w a 2:=by unfold dE;rw[if_neg (by decide),if_pos hk]
   rw[e];rcases mU with⟨rfl,hu⟩|⟨gU,rfl,eU,lU,hu⟩<;>rcases mI with⟨rfl,hi⟩|⟨gI,rfl,eI,lI,hi⟩
   all_goals
    try rw[hu]at hF2
    try rw[hi]at hF2
    simp only[go_sem,kK,q5,q8,q10,n5,h24,aP h0,dk,e5,e8,eU,eI,t1,t2,t3,t4,bQl,bQk,hF2.ret]
theorem fK (hf:FOk p S w f):inR f.node 0 ((p.nodes.length:Int)-1)=true:=by
 have:=hf.ok;simp only[dF,bQj]at this;exact this.1.1
theorem pD :fP p left (k+1)=if(p.node (left.getD k default).node).op=26 then k+1 else fP p left k:=rfl
set_option maxHeartbeats 1600000 in
theorem aU7 (h:cK p w0 S w)(ha:inR a 0 ((w.tasks.length:Int)-1)=true)(hl:LOk p S w left)(he:env.length<=30):
  PC L 130 [.agg p.cs,.agg w.cs,.i a,.fz (left.map aB.enc),.i kid,.fz (env.map aD.enc)] (.agg [.fz ((eY p w a left kid env).w.objs.map aN.enc),.fz ((eY p w a left kid env).w.tasks.map (.int .i64)),.fz ((eY p w a left kid env).w.outs.map bL.enc),.fz ((eY p w a left kid env).w.ins.map (.int .i64)),.i (eY p w a left kid env).w.used,.i (eY p w a left kid env).what,.i (eY p w a left kid env).e.task,.i (eY p w a left kid env).e.act,.i (eY p w a left kid env).e.n,.i (eY p w a left kid env).e.v.kind,.i (eY p w a left kid env).e.v.n]):=by
 have hfit:=uW h ha;have hF3:=fW w a 3 hfit;have hF4:=fW w a 4 hfit;have hlen:=hl.len;have hwl:IntKind.i64.wrap ((left.length:Int)-1)=(left.length:Int)-1:=aV (by omega)
 refine pcA func130 ?_
 simp only[go_sem,kK,hwl]
 refine Go.Abs.wp_loop (fun(k:Nat) st=> ∃fr en cnt,st=⟨fr,en,cnt⟩/\ fr 2= .i a/\ fr 3= .fz (left.map aB.enc)/\ fr 4= .i kid/\ fr 5= .fz (env.map aD.enc)/\ fr 6= .ptr ⟨0,6,0⟩ 0/\ en ⟨0,6,0⟩=some (.box [.fz (p.nodes.map aK.enc),.fz (p.funs.map (.int .i64)),.i p.main,.fz (p.cons.map cV.enc)] false)/\ fr 7= .ptr ⟨0,7,0⟩ 0/\ en ⟨0,7,0⟩=some (.box [.fz (w.objs.map aN.enc),.fz (w.tasks.map (.int .i64)),.fz (w.outs.map bL.enc),.fz (w.ins.map (.int .i64)),.i w.used] false)/\ fr 12= .ptr ⟨0,12,0⟩ 0/\ en ⟨0,12,0⟩=some (.box [.cl [],.cl [],.cl [],.cl [],.i 0,.i 0,.i 0,.i 0,.i 0,.i 0,.i 0] false)/\ fr 13= .i ((k:Int)-1)/\ (cnt 0 7=1/\ cnt 0 12=1/\ cnt 0 14=0)/\ k<=left.length/\ fP p left k=fP p left left.length) (fun k=>k) left.length (by refine⟨_,_,_,rfl,?_,?_,?_,?_,?_,?_,?_,?_,?_,?_,?_,by simp[aC],bQk _,rfl⟩<;>simp only[go_sem]) ?_
 rintro k st ⟨fr,en,cnt,rfl,k2,k3,k4,k5,k6,e6,k7,e7,k12,e12,k13,kc,hk,hR⟩
 cases k with
 |zero=>
  have k13':fr 13= .i (-1):=by simpa using k13
  have e:eY p w a left kid env=bE w a 3:=by unfold eY;rw[<-hR];rfl
  rw[e];simp only[go_sem,kK,k2,k7,e7,k12,e12,k13',hF3.ret]
 |succ k=>
  have k13':fr 13= .i (k:Int):=by rw[k13];congr 1;omega
  have h':k<left.length:=by omega
  have d0:decide ((0:Int)<=(k:Int))=true:=D_t (by omega)
  have hfk:=hl.ok _ (bQr h');have hgd:left.getD k default=left[k]:=by simp[bQn,h']
  have hwk:IntKind.i64.wrap ((k:Int)-1)=(k:Int)-1:=aV (by omega)
  rw[pD,hgd]at hR
  by_cases h26:(p.node left[k].node).op=26
  ·rw[if_pos h26]at hR;have d26:decide ((p.node left[k].node).op=26)=true:=D_t h26;have dneg:decide ((k:Int)<0)=false:=D_f (by omega)
   by_cases h120:120<=w.objs.length
   ·have d120:decide ((120:Int)<=(w.objs.length:Int))=true:=D_t (by omega)
    have e:eY p w a left kid env=bE w a 4:=by unfold eY;rw[<-hR];simp only;rw[if_pos h120]
    rw[e];simp only[go_sem,kK,k2,k3,k6,e6,k7,e7,k12,e12,k13',h',d0,bH (fK hfk),d26,dneg,d120,hF4.ret]
   ·have d120:decide ((120:Int)<=(w.objs.length:Int))=false:=D_f (by omega)
    have hat:=hfit.at_;have hrng:=hfit.rng;simp only[inR,bT8]at hat hrng;have hK:Fit (dU w ⟨5,0,[],left.drop k⟩) a:=aWl hfit (by omega)
    have hN:=aB1 (dU w ⟨5,0,[],left.drop k⟩) a (left.take (k+1)) kid (env++[dK w.objs.length]) hK (by simp only[bR2];omega)
    have hM:=aEw env (dK w.objs.length) (by omega)
    have hF:=fW w a (gK (dU w ⟨5,0,[],left.drop k⟩) a (left.take (k+1)) kid (env++[dK w.objs.length])).e.n hfit;have e:eY p w a left kid env=if(gK (dU w ⟨5,0,[],left.drop k⟩) a (left.take (k+1)) kid (env++[dK w.objs.length])).what=1 then bE w a (gK (dU w ⟨5,0,[],left.drop k⟩) a (left.take (k+1)) kid (env++[dK w.objs.length])).e.n else gK (dU w ⟨5,0,[],left.drop k⟩) a (left.take (k+1)) kid (env++[dK w.objs.length]):=by
     unfold eY;rw[<-hR];simp only;rw[if_neg h120]
    rw[e];generalize hD:gK (dU w ⟨5,0,[],left.drop k⟩) a (left.take (k+1)) kid (env++[dK w.objs.length])=D at hN hF⊢
    try simp only[aA.cs,Val.is]at hN
    rw[show((dU w ⟨5,0,[],left.drop k⟩).objs.map aN.enc)=w.objs.map aN.enc++[aN.enc ⟨5,0,[],left.drop k⟩]from by simp[dU]]at hN
    simp only[dU,bQ1,aN.enc]at hN;have hde:(left.drop k).isEmpty=false:=aKp (by simp only[bS3];omega)
    have hdl:(left.drop k).length<=16777216:=by simp only[bS3];omega
    have hkl:k<=left.length:=by omega
    have hkl1:k+1<=left.length:=by omega
    have hol:w.objs.length+1<=16777216:=by omega
    have hwr:IntKind.i64.wrap (((w.objs.length+1:Nat):Int)-1)=(w.objs.length:Int):=by rw[aV (by omega)];omega
    have hwk1:IntKind.i64.wrap ((k:Int)+1)=((k+1:Nat):Int):=by rw[aV (by omega)];omega
    obtain⟨c7,c12,c14⟩:=kc;simp only[go_sem,kK,k3,k6,e6,k7,e7,k12,e12,k13',h',d0,bH (fK hfk),d26,dneg,d120,c14]
    refine(aE4 w (by omega) (by omega) hfit.len (aA4 _ _ w)).mono ?_
    rintro x en1 cnt1 ⟨⟨g5,g8,vU,vI,rfl,e5,l5,m5,e8,l8,m8,mU,mI⟩,old,up⟩
    have q7:=old 7 0 (by simp[aC];omega)
    have q12:=old 12 0 (by simp[aC];omega)
    have q14:=old 14 0 (by simp[aC])
    try simp only[go_sem,e7,e12]at q7 q12 q14
    have eU:=True.intro;have eI:=True.intro;have t2:((w.tasks.map (Val.int .i64)).take w.tasks.length)=w.tasks.map (.int .i64):=bQ3 (by simp)
    have t3:((w.outs.map bL.enc).take w.outs.length)=w.outs.map bL.enc:=bQ3 (by simp)
    have t4:((w.ins.map (Val.int .i64)).take w.ins.length)=w.ins.map (.int .i64):=bQ3 (by simp)
    obtain⟨g15,hg15⟩: ∃g,g=cnt1 0 15:=⟨_,rfl⟩
    simp only[go_sem,q7]
    refine aG ?_
    simp only[go_sem,k3,k7,k13',e5,aJw,jB,hkl,<-bTh,bP,eB,iW,uQ,lB,iI,hde,hdl,hol,bGe,bQl,bQk,bQ3,uP,nM,kA,bQm,if_false];have n14: ∀{g:Nat},g<cnt1 0 14->True:=fun _=>trivial
    by_cases hw:D.what=1
    ·have dw:decide (D.what=1)=true:=D_t hw;rw[if_pos hw];rcases mU with⟨rfl,hu⟩|⟨gU,rfl,eU,lU,hu⟩<;>rcases mI with⟨rfl,hi⟩|⟨gI,rfl,eI,lI,hi⟩
     all_goals
      try rw[hu]at hN
      try rw[hi]at hN
      have nI:=True.intro
      try(have nI: ¬0=gI:=by(rintro rfl;rw[q14]at eI;cases eI))
      refine aG ?_
      simp only[go_sem,kK,k2,k3,k4,k5,k7,k13',e8,eU,eI,t2,t3,t4,uI,hkl1,hwk1,<-bSc,bQl,bQ2,bS0,bQk,bQ3,hwr,(aKq _).ret,hM.ret,hN.ret,<-hg15,kA,bQm,if_false];simp only[go_sem,kK,k2,k12,q12,q14,nI,dw,hF.ret]
    ·have dw:decide (D.what=1)=false:=D_f hw;rw[if_neg hw];rcases mU with⟨rfl,hu⟩|⟨gU,rfl,eU,lU,hu⟩<;>rcases mI with⟨rfl,hi⟩|⟨gI,rfl,eI,lI,hi⟩
     all_goals
      try rw[hu]at hN
      try rw[hi]at hN
      have nI:=True.intro
      try(have nI: ¬0=gI:=by(rintro rfl;rw[q14]at eI;cases eI))
      refine aG ?_
      simp only[go_sem,kK,k2,k3,k4,k5,k7,k13',e8,eU,eI,t2,t3,t4,uI,hkl1,hwk1,<-bSc,bQl,bQ2,bS0,bQk,bQ3,hwr,(aKq _).ret,hM.ret,hN.ret,<-hg15,kA,bQm,if_false];simp only[go_sem,k12,q12,dw]
  ·rw[if_neg h26]at hR;have d26:decide ((p.node left[k].node).op=26)=false:=D_f h26;simp only[go_sem,kK,k3,k6,e6,k13',h',d0,bH (fK hfk),d26,hwk]
   refine⟨k,⟨_,_,_,rfl,?_⟩,Nat.lt_succ_self _⟩
   simp only[go_sem,k2,k3,k4,k5,k6,e6,k7,e7,k12,e12];exact⟨kc,by omega,hR⟩
structure bH0 (p:aF) (w:aA) (a:Int) (left:List aB) (f:aD) (fr:Nat->Val) (en:En) (cnt:Nat->Nat->Nat) (o:aN) (oa ob:Val):Prop where
 form:o.form=6
 n:o.n=0
 pa:aCo oa (.fz (o.vals.map aD.enc))
 pb:aCo ob (.fz (o.frames.map aB.enc))
 is:eC p w a left f=zS w a left o
 k2:fr 2= .i a
 k3:fr 3= .fz (left.map aB.enc)
 k6:fr 6= .ptr ⟨0,6,0⟩ 0
 e6:en ⟨0,6,0⟩=some (.box [.fz (w.objs.map aN.enc),.fz (w.tasks.map (.int .i64)),.fz (w.outs.map bL.enc),.fz (w.ins.map (.int .i64)),.i w.used] false)
 k10:fr 10= .ptr ⟨0,10,0⟩ 0
 e10:en ⟨0,10,0⟩=some (.box [.cl [],.cl [],.cl [],.cl [],.i 0,.i 0,.i 0,.i 0,.i 0,.i 0,.i 0] false)
 k11:fr 11= .ptr ⟨0,11,0⟩ 0
 e11:en ⟨0,11,0⟩=some (.box [.i 6,.i 0,oa,ob] false)
 c6:cnt 0 6=1
 c10:cnt 0 10=1
def bEh (p:aF)(w:aA)(a:Int)(left:List aB)(f:aD)(st:St):Prop:= ∃o oa ob,bH0 p w a left f st.fr st.en st.cnt o oa ob
set_option maxHeartbeats 1600000 in
theorem aU8 (hp:eG p)(h:cK p w0 S w)(ha:inR a 0 ((w.tasks.length:Int)-1)=true){f:aD}(hf:VOk p S w f):
  PC L 132 [.agg p.cs,.agg w.cs,.i a,.fz (left.map aB.enc),.agg [.i f.kind,.i f.n]] (.agg [.fz ((eC p w a left f).w.objs.map aN.enc),.fz ((eC p w a left f).w.tasks.map (.int .i64)),.fz ((eC p w a left f).w.outs.map bL.enc),.fz ((eC p w a left f).w.ins.map (.int .i64)),.i (eC p w a left f).w.used,.i (eC p w a left f).what,.i (eC p w a left f).e.task,.i (eC p w a left f).e.act,.i (eC p w a left f).e.n,.i (eC p w a left f).e.v.kind,.i (eC p w a left f).e.v.n]):=by
 have hfit:=uW h ha;have hO:=pB w f 5 (fQ hf);have hF4:=fW w a 4 hfit;have hF2:=fW w a 2 hfit;have hB:=aSy hp h hf (qP (p:=p) (S:=S) (w:=w))
 refine pcA func132 ?_
 simp only[go_sem,aC5,Go.Abs.start]
 refine aBv (bEh p w a left f) ?_ ?_
 ·by_cases h5:bY w f 5=true
  ·rw[uV,if_pos h5,h5]at hO;simp only[go_sem,kK,hO.ret]
   refine aG ?_
   simp only[go_sem,nF.ret,pZ,lA,kA,bQm,if_false];exact⟨⟨6,0,[bJ],(w.obj f.n).frames⟩,.cl [.agg [.i bJ.kind,.i bJ.n]],.fz ((w.obj f.n).frames.map aB.enc),(by refine⟨rfl,rfl,aE5 _,rY _,by unfold eC;rw[if_pos h5],?_,?_,?_,?_,?_,?_,?_,?_,by simp[aC],by simp[aC]⟩<;>simp only[go_sem])⟩
  ·rw[bRu]at h5;rw[h5]at hO;cases hb:eF p w f bJ with
   |none=>
    have e:eC p w a left f=bE w a 2:=by unfold eC;rw[if_neg (by rw[h5];decide),hb]
    rw[hb]at hB;rw[e];simp only[go_sem,kK,hO.ret]
    refine aG ?_
    simp only[go_sem,kK,nF.ret,hB.ret,bSr,kA,bQm,if_false];simp only[go_sem,hF2.ret]
   |some b=>
    have hv:wQ p w f bJ=b:=by rw[wQ,hb];rfl
    rw[hb,hv]at hB;obtain⟨b1,b2,b3⟩:=aDg hp h hf qP hb
    by_cases h30:30<b.env.length
    ·have d30:decide ((30:Int)<(b.env.length:Int))=true:=D_t (by omega)
     have e:eC p w a left f=bE w a 4:=by unfold eC;rw[if_neg (by rw[h5];decide),hb];simp only;rw[if_pos h30]
     rw[e];simp only[go_sem,kK,hO.ret]
     refine aG ?_
     simp only[go_sem,kK,nF.ret,hB.ret,bSi,kA,bQm,if_false];simp only[go_sem,kK,d30,hF4.ret]
    ·have d30:decide ((30:Int)<(b.env.length:Int))=false:=D_f (by omega)
     have e:eC p w a left f=zS w a left ⟨6,0,[],[b]⟩:=by unfold eC;rw[if_neg (by rw[h5];decide),hb];simp only;rw[if_neg h30]
     simp only[go_sem,kK,hO.ret]
     refine aG ?_
     simp only[go_sem,kK,nF.ret,hB.ret,bSi,kA,bQm,if_false];simp only[go_sem,d30,pZ,lA];exact⟨⟨6,0,[],[b]⟩,.cl [],.cl [.agg [.i b.node,.fz (b.env.map aD.enc),.fz (b.vals.map aD.enc)]],(by refine⟨rfl,rfl,aE5 _,aE5 _,e,?_,?_,?_,?_,?_,?_,?_,?_,by simp[aC],by simp[aC]⟩<;>simp only[go_sem])⟩
 ·rintro fr en cnt ⟨o,oa,ob,hs⟩
  obtain⟨of_,on,pa,pb,is,k2,k3,k6,e6,k10,e10,k11,e11,c6,c10⟩:=hs;dsimp only at k2 k3 k6 e6 k10 e10 k11 e11 c6 c10;have hF:=aSz w a left o (rY _) pa pb hfit (en:=en) (cnt:=cnt);rw[of_,on]at hF;rw[is];simp only[go_sem,kK,k2,k3,k6,e6,k11,e11]
  refine hF.mono ?_
  rintro x en1 cnt1 (⟨h120,rfl,old,up⟩|⟨h120,hO1⟩)
  ·have q10:=old 10 0 (by omega)
   rw[e10]at q10;obtain⟨g16,hg16⟩: ∃g,g=cnt1 0 16:=⟨_,rfl⟩
   have e:zS w a left o=dD (bE w a 4) a 19 0 bJ:=by
    unfold zS iF;simp only[if_pos h120];rw[if_pos (show(bE w a 4).what=1 from rfl)]
   rw[e];have hE:=mF (bE w a 4) a 19 0 bJ;have dw:decide ((bE w a 4).what=1)=true:=rfl;simp only[go_sem,kK,<-hg16,dw]
   refine aG ?_
   simp only[go_sem,k2,k10,q10,nF.ret,hE.ret,kA,bQm,if_false]
  ·have q10:=hO1.old 10 0 (by omega)
   rw[e10]at q10;obtain⟨g16,hg16⟩: ∃g,g=cnt1 0 16:=⟨_,rfl⟩
   obtain⟨g71,hg71⟩: ∃g,g=cnt1 0 71:=⟨_,rfl⟩
   have e:zS w a left o=dD ⟨qK (bT (dU w o) a left (dK w.objs.length)).w,0,fV⟩ a 19 0 bJ:=by
    unfold zS iF;simp only[if_neg (show¬120<=w.objs.length by omega)];rw[if_neg (by simp[bT])];rfl
   rw[e];have hE:=mF ⟨qK (bT (dU w o) a left (dK w.objs.length)).w,0,fV⟩ a 19 0 bJ
   try simp only[]at hE
   have hle:(bT (dU w o) a left (dK w.objs.length)).w.objs.length=w.objs.length+1:=by simp only[bT,qO,nG]
   have hlt:(bT (dU w o) a left (dK w.objs.length)).w.tasks.length=w.tasks.length:=rfl;have hfl:=hfit.len;generalize hW:(bT (dU w o) a left (dK w.objs.length)).w=W at hO1 hE hle hlt⊢;obtain⟨⟨g5,g8,vU,vI,rfl,e5,l5,m5,e8,l8,m8,mU,mI⟩,old,up⟩:=hO1;have hwr:IntKind.i64.wrap ((W.objs.length:Int)-1)=(W.objs.length:Int)-1:=aV (by omega)
   have hl16:W.tasks.length+1<=16777216:=by omega
   have t1:((W.objs.map aN.enc).take W.objs.length)=W.objs.map aN.enc:=bQ3 (by simp)
   have t3:((W.outs.map bL.enc).take W.outs.length)=W.outs.map bL.enc:=bQ3 (by simp)
   have t4:((W.ins.map (Val.int .i64)).take W.ins.length)=W.ins.map (.int .i64):=bQ3 (by simp)
   simp only[qK,fV,iO,bRl,bRj,bQ1]at hE;have eU:=True.intro;have eI:=True.intro;rcases mU with⟨rfl,hu⟩|⟨gU,rfl,eU,lU,hu⟩<;>rcases mI with⟨rfl,hi⟩|⟨gI,rfl,eI,lI,hi⟩
   all_goals
    try rw[hu]at hE
    try rw[hi]at hE
    simp only[go_sem,kK,<-hg16,<-hg71,e8,kB,hwr,bP,eB,uQ,lB,bBy,hl16,bQl,bQk]
    refine aG ?_
    simp only[go_sem,k2,k10,q10,e5,eU,eI,t1,t3,t4,bQl,bQ2,bS0,bQ3,bQk,nF.ret,hE.ret,kA,bQm,if_false];rfl
theorem aLd (h:eE p n=true):1<=n.op/\ n.op<=28:=by
 have:=oC h;unfold fD at this
 repeat' split at this
 all_goals omega
theorem aLe {q:Pat}{cons:List cV}(h:nC cons q=true):pC q<=1000:=by
 simp only[nC,bQj,bT8]at h;have:=aS0 q 12 (by omega) h.1
 omega
theorem aWn {l:List aD}(h:inR i 0 ((l.length:Int)-1)=true):mA 2 en (.fz (l.map aD.enc)) (.i i)=some {v:= .fp [.i (aE l i.toNat).kind,.i (aE l i.toNat).n] 0}:=aCh (f:=aD.enc) (size:=2) iO h fun _=>rfl
theorem aWo (h:inR i 0 ((n.kids.length:Int)-1)=true):mA 1 en (.fz (n.kids.map (.int .i64))) (.i i)=some {v:= .fp [.i (oN n i)] 0}:=wJ h
theorem aP2 (h:0<n.kids.length):mA 1 en (.fz (n.kids.map (.int .i64))) (.i 0)=some {v:= .fp [.i (oN n 0)] 0}:=wJ (i:=0) (by simp only[inR,bT8];omega)
theorem bEi (h:1<n.kids.length):mA 1 en (.fz (n.kids.map (.int .i64))) (.i 1)=some {v:= .fp [.i (oN n 1)] 0}:=wJ (i:=1) (by simp only[inR,bT8];omega)
structure D0 (p:aF) (w0:aA) (S:Nat->Prop) (w:aA) (a:Int) (left:List aB) (f:aB) (n:aK) (k:Int):Prop where
 hp:eG p
 hsp:aS p=true
 h:cK p w0 S w
 ha:inR a 0 ((w.tasks.length:Int)-1)=true
 hl:LOk p S w left
 hf:FOk p S w f
 hn:p.node f.node=n
 hfull:(f.vals.length:Int)=n.asks
 hop:n.op=k
theorem D0.all {k:Int}(d:D0 p w0 S w a left f n k):eG p/\ aS p=true/\ cK p w0 S w/\ inR a 0 ((w.tasks.length:Int)-1)=true/\ LOk p S w left/\ FOk p S w f/\ p.node f.node=n/\ (f.vals.length:Int)=n.asks/\ n.op=k/\ Fit w a/\ inR f.node 0 ((p.nodes.length:Int)-1)=true/\ eE p n=true/\ (n.kids.length:Int)=fD n.op n.pats.length (oX p n)/\ left.length<=40/\ (f.env.length:Int)<=30:=by
 obtain⟨hp,hsp,h,ha,hl,hf,hn,hfull,hop⟩:=d;have hni:=fK hf;have hok:=hp.nodes _ (iK hni);rw[hn]at hok;have hfo:=hf.ok;simp only[dF,bA,bQj,bT8]at hfo;exact⟨hp,hsp,h,ha,hl,hf,hn,hfull,hop,uW h ha,hni,hok,oC hok,hl.len,hfo.1.2.1⟩
abbrev PD (p:aF)(w:aA)(a:Int)(left:List aB)(f:aB)(r:Did):Prop:=PC L 84 [.agg p.cs,.agg w.cs,.i a,.fz (left.map aB.enc),.agg [.i f.node,.fz (f.env.map aD.enc),.fz (f.vals.map aD.enc)]] (.agg [.fz (r.w.objs.map aN.enc),.fz (r.w.tasks.map (.int .i64)),.fz (r.w.outs.map bL.enc),.fz (r.w.ins.map (.int .i64)),.i r.w.used,.i r.what,.i r.e.task,.i r.e.act,.i r.e.n,.i r.e.v.kind,.i r.e.v.n])
noncomputable def c84 :{c//L 84=some c}:=cA func84
theorem bB5 (d:D0 p w0 S w a left f n 1):PD p w a left f (bO p w a left f n):=by
 obtain⟨hp,hsp,h,ha,hl,hf,hn,hfull,hop,hfit,hni,hok,hkd,hlen,hfo⟩:=d.all;have e:bO p w a left f n=bT w a left (mS n.n):=by unfold bO;simp[hop]
 rw[e];have hB:=jM w a left (mS n.n) hfit
 refine cJ c84.2 rfl rfl ?_
 simp only[go_sem,kK,c84]
 refine aG ?_
 simp only[go_sem,kK,hop,hn,bH hni,kA,bQm,if_false]
 refine aG ?_
 simp only[go_sem,(aDe _).ret,hB.ret,kA,bQm,if_false]
theorem bB6 (d:D0 p w0 S w a left f n 2):PD p w a left f (bO p w a left f n):=by
 obtain⟨hp,hsp,h,ha,hl,hf,hn,hfull,hop,hfit,hni,hok,hkd,hlen,hfo⟩:=d.all;have e:bO p w a left f n=bT w a left (nD (decide (n.n=1))):=by unfold bO;simp[hop]
 rw[e];have hB:=jM w a left (nD (decide (n.n=1))) hfit
 refine cJ c84.2 rfl rfl ?_
 simp only[go_sem,kK,c84]
 refine aG ?_
 simp only[go_sem,kK,hop,hn,bH hni,kA,bQm,if_false]
 refine aG ?_
 simp only[go_sem,(aIk _).ret,hB.ret,kA,bQm,if_false]
theorem bB7 (d:D0 p w0 S w a left f n 3):PD p w a left f (bO p w a left f n):=by
 obtain⟨hp,hsp,h,ha,hl,hf,hn,hfull,hop,hfit,hni,hok,hkd,hlen,hfo⟩:=d.all;have e:bO p w a left f n=bT w a left bJ:=by unfold bO;simp[hop]
 rw[e];have hB:=jM w a left bJ hfit
 refine cJ c84.2 rfl rfl ?_
 simp only[go_sem,kK,c84]
 refine aG ?_
 simp only[go_sem,kK,hop,hn,bH hni,kA,bQm,if_false]
 refine aG ?_
 simp only[go_sem,nF.ret,hB.ret,kA,bQm,if_false]
theorem bB8 (d:D0 p w0 S w a left f n 4):PD p w a left f (bO p w a left f n):=by
 obtain⟨hp,hsp,h,ha,hl,hf,hn,hfull,hop,hfit,hni,hok,hkd,hlen,hfo⟩:=d.all;have e:bO p w a left f n=if n.n<0 then bT w a left ⟨4,-1-n.n⟩else if(f.env.length:Int)<=n.n then bE w a 2 else bT w a left (aE f.env n.n.toNat):=by unfold bO;simp[hop]
 rw[e];have hF:=fW w a 2 hfit;have hnum:oD p n=true:=by simp only[eE,bQj]at hok;exact hok.1.1.1
 simp only[oD,hop]at hnum;simp[inR]at hnum;have hwn:IntKind.i64.wrap (-1-n.n)= -1-n.n:=aV (by have:=hp.main;simp only[inR,bT8]at this;have hsl:=hsp;simp only[aS,bQj,bT8]at hsl;omega)
 by_cases hneg:n.n<0
 ·have d0:decide (n.n<0)=true:=D_t hneg;rw[if_pos hneg];have hB:=jM w a left ⟨4,-1-n.n⟩ hfit
  refine cJ c84.2 rfl rfl ?_
  simp only[go_sem,kK,c84]
  refine aG ?_
  simp only[go_sem,kK,hop,hn,bH hni,d0,hwn,hB.ret,kA,bQm,if_false]
 ·have d0:decide (n.n<0)=false:=D_f hneg;rw[if_neg hneg]
  by_cases hge:(f.env.length:Int)<=n.n
  ·have d1:decide ((f.env.length:Int)<=n.n)=true:=D_t hge;rw[if_pos hge]
   refine cJ c84.2 rfl rfl ?_
   simp only[go_sem,kK,c84]
   refine aG ?_
   simp only[go_sem,kK,hop,hn,bH hni,d0,d1,hF.ret,kA,bQm,if_false]
  ·have d1:decide ((f.env.length:Int)<=n.n)=false:=D_f hge;rw[if_neg hge];have hB:=jM w a left (aE f.env n.n.toNat) hfit;have hi:=aCh (f:=aD.enc) (size:=2) (k:= .i64) (l:=f.env) (i:=n.n) iO (by simp only[inR,bT8];omega) (fun _=>rfl) (en:=fun _=>none)
   refine cJ c84.2 rfl rfl ?_
   simp only[go_sem,kK,c84]
   refine aG ?_
   simp only[go_sem,kK,hop,hn,bH hni,d0,d1,aWn (show inR n.n 0 ((f.env.length:Int)-1)=true by simp only[inR,bT8];omega),hB.ret,kA,bQm,if_false]
theorem bB9 (d:D0 p w0 S w a left f n 5):PD p w a left f (bO p w a left f n):=by
 obtain⟨hp,hsp,h,ha,hl,hf,hn,hfull,hop,hfit,hni,hok,hkd,hlen,hfo⟩:=d.all;have e:bO p w a left f n=iF w a left ⟨2,f.node,f.env,[]⟩:=by unfold bO;simp[hop]
 rw[e];have hM:=aIm w a left ⟨2,f.node,f.env,[]⟩ hfit;simp only[bQ1]at hM
 refine cJ c84.2 rfl rfl ?_
 simp only[go_sem,kK,c84]
 refine aG ?_
 simp only[go_sem,kK,hop,hn,bH hni,hM.ret,kA,bQm,if_false]
theorem bCa (d:D0 p w0 S w a left f n 6):PD p w a left f (bO p w a left f n):=by
 obtain⟨hp,hsp,h,ha,hl,hf,hn,hfull,hop,hfit,hni,hok,hkd,hlen,hfo⟩:=d.all;have e:bO p w a left f n=eW p w a left (aE f.vals 0) (aE f.vals 1):=by unfold bO;simp[hop]
 rw[e];have hq:n.asks=2:=by simp[aK.asks,hop]
 have h0:0<f.vals.length:=by omega
 have h1:1<f.vals.length:=by omega
 have v0:=hf.vals (dH h0);have v1:=hf.vals (dH h1);have hA:=aU5 hp h ha hl v0 v1
 refine cJ c84.2 rfl rfl ?_
 simp only[go_sem,kK,c84]
 refine aG ?_
 simp only[go_sem,kK,hop,hn,bH hni,aP h0,fZ h1,hA.ret,kA,bQm,if_false]
theorem bCb (d:D0 p w0 S w a left f n 7):PD p w a left f (bO p w a left f n):=by
 obtain⟨hp,hsp,h,ha,hl,hf,hn,hfull,hop,hfit,hni,hok,hkd,hlen,hfo⟩:=d.all;have e:bO p w a left f n=gK w a left (oN n 1) (f.env++[aE f.vals 0]):=by unfold bO;simp[hop]
 rw[e];have hq:n.asks=1:=by simp[aK.asks,hop]
 have h0:0<f.vals.length:=by omega
 have hkc:(n.kids.length:Int)=2:=by rw[hkd];simp[fD,hop]
 have hk1:1<n.kids.length:=by omega
 have hM:=aEw f.env (aE f.vals 0) (by omega)
 have hN:=aB1 w a left (oN n 1) (f.env++[aE f.vals 0]) hfit (by omega)
 refine cJ c84.2 rfl rfl ?_
 simp only[go_sem,kK,c84]
 refine aG ?_
 simp only[go_sem,kK,hop,hn,bH hni,kA,bQm,if_false]
 refine aG ?_
 simp only[go_sem,aP h0,bEi hk1,hM.ret,hN.ret,kA,bQm,if_false]
theorem bCc (d:D0 p w0 S w a left f n 8):PD p w a left f (bO p w a left f n):=by
 obtain⟨hp,hsp,h,ha,hl,hf,hn,hfull,hop,hfit,hni,hok,hkd,hlen,hfo⟩:=d.all;have e:bO p w a left f n=if¬(aE f.vals 0).kind=2 then bE w a 2 else gK w a left (oN n (2-(aE f.vals 0).n)) f.env:=by unfold bO;simp[hop]
 rw[e];have hF:=fW w a 2 hfit;have hq:n.asks=1:=by simp[aK.asks,hop]
 have h0:0<f.vals.length:=by omega
 have v0:=hf.vals (dH h0);have hkc:(n.kids.length:Int)=3:=by rw[hkd];simp[fD,hop]
 by_cases hk2:(aE f.vals 0).kind=2
 ·have d1:decide ((aE f.vals 0).kind=2)=true:=D_t hk2;rw[if_neg (fun h=>h hk2)]
  have hvo:=v0.ok;simp only[dJ,hk2]at hvo;simp[inR]at hvo;have hw2:IntKind.i64.wrap (2-(aE f.vals 0).n)=2-(aE f.vals 0).n:=aV (by omega)
  have hN:=aB1 w a left (oN n (2-(aE f.vals 0).n)) f.env hfit (by omega)
  refine cJ c84.2 rfl rfl ?_
  simp only[go_sem,kK,c84]
  refine aG ?_
  simp only[go_sem,kK,hop,hn,bH hni,aP h0,d1,hw2,aWo (show inR (2-(aE f.vals 0).n) 0 ((n.kids.length:Int)-1)=true by simp only[inR,bT8];omega),hN.ret,kA,bQm,if_false]
 ·have d1:decide ((aE f.vals 0).kind=2)=false:=D_f hk2;rw[if_pos hk2]
  refine cJ c84.2 rfl rfl ?_
  simp only[go_sem,kK,c84]
  refine aG ?_
  simp only[go_sem,kK,hop,hn,bH hni,aP h0,d1,hF.ret,kA,bQm,if_false]
theorem bCd (d:D0 p w0 S w a left f n 9):PD p w a left f (bO p w a left f n):=by
 obtain⟨hp,hsp,h,ha,hl,hf,hn,hfull,hop,hfit,hni,hok,hkd,hlen,hfo⟩:=d.all;have e:bO p w a left f n=cE w a left 9 (aE f.vals 0) (aE f.vals 1):=by unfold bO;simp[hop]
 rw[e];have hq:n.asks=2:=by simp[aK.asks,hop]
 have h0:0<f.vals.length:=by omega
 have h1:1<f.vals.length:=by omega
 have v0:=hf.vals (dH h0);have v1:=hf.vals (dH h1);have hA:=uY (left:=left) (op:=9) h ha v0 v1 (by omega)
 refine cJ c84.2 rfl rfl ?_
 simp only[go_sem,kK,c84]
 refine aG ?_
 simp only[go_sem,kK,hop,hn,bH hni,aP h0,fZ h1,hA.ret,kA,bQm,if_false]
theorem aYj (d:D0 p w0 S w a left f n 10):PD p w a left f (bO p w a left f n):=by
 obtain⟨hp,hsp,h,ha,hl,hf,hn,hfull,hop,hfit,hni,hok,hkd,hlen,hfo⟩:=d.all;have e:bO p w a left f n=cE w a left 10 (aE f.vals 0) (aE f.vals 1):=by unfold bO;simp[hop]
 rw[e];have hq:n.asks=2:=by simp[aK.asks,hop]
 have h0:0<f.vals.length:=by omega
 have h1:1<f.vals.length:=by omega
 have v0:=hf.vals (dH h0);have v1:=hf.vals (dH h1);have hA:=uY (left:=left) (op:=10) h ha v0 v1 (by omega)
 refine cJ c84.2 rfl rfl ?_
 simp only[go_sem,kK,c84]
 refine aG ?_
 simp only[go_sem,kK,hop,hn,bH hni,aP h0,fZ h1,hA.ret,kA,bQm,if_false]
theorem aYk (d:D0 p w0 S w a left f n 11):PD p w a left f (bO p w a left f n):=by
 obtain⟨hp,hsp,h,ha,hl,hf,hn,hfull,hop,hfit,hni,hok,hkd,hlen,hfo⟩:=d.all;have e:bO p w a left f n=cE w a left 11 (aE f.vals 0) (aE f.vals 1):=by unfold bO;simp[hop]
 rw[e];have hq:n.asks=2:=by simp[aK.asks,hop]
 have h0:0<f.vals.length:=by omega
 have h1:1<f.vals.length:=by omega
 have v0:=hf.vals (dH h0);have v1:=hf.vals (dH h1);have hA:=uY (left:=left) (op:=11) h ha v0 v1 (by omega)
 refine cJ c84.2 rfl rfl ?_
 simp only[go_sem,kK,c84]
 refine aG ?_
 simp only[go_sem,kK,hop,hn,bH hni,aP h0,fZ h1,hA.ret,kA,bQm,if_false]
theorem aYl (d:D0 p w0 S w a left f n 12):PD p w a left f (bO p w a left f n):=by
 obtain⟨hp,hsp,h,ha,hl,hf,hn,hfull,hop,hfit,hni,hok,hkd,hlen,hfo⟩:=d.all;have e:bO p w a left f n=cE w a left 12 (aE f.vals 0) (aE f.vals 1):=by unfold bO;simp[hop]
 rw[e];have hq:n.asks=2:=by simp[aK.asks,hop]
 have h0:0<f.vals.length:=by omega
 have h1:1<f.vals.length:=by omega
 have v0:=hf.vals (dH h0);have v1:=hf.vals (dH h1);have hA:=uY (left:=left) (op:=12) h ha v0 v1 (by omega)
 refine cJ c84.2 rfl rfl ?_
 simp only[go_sem,kK,c84]
 refine aG ?_
 simp only[go_sem,kK,hop,hn,bH hni,aP h0,fZ h1,hA.ret,kA,bQm,if_false]
theorem aYm (d:D0 p w0 S w a left f n 13):PD p w a left f (bO p w a left f n):=by
 obtain⟨hp,hsp,h,ha,hl,hf,hn,hfull,hop,hfit,hni,hok,hkd,hlen,hfo⟩:=d.all;have e:bO p w a left f n=cE w a left 13 (aE f.vals 0) (aE f.vals 1):=by unfold bO;simp[hop]
 rw[e];have hq:n.asks=2:=by simp[aK.asks,hop]
 have h0:0<f.vals.length:=by omega
 have h1:1<f.vals.length:=by omega
 have v0:=hf.vals (dH h0);have v1:=hf.vals (dH h1);have hA:=uY (left:=left) (op:=13) h ha v0 v1 (by omega)
 refine cJ c84.2 rfl rfl ?_
 simp only[go_sem,kK,c84]
 refine aG ?_
 simp only[go_sem,kK,hop,hn,bH hni,aP h0,fZ h1,hA.ret,kA,bQm,if_false]
theorem aYn (d:D0 p w0 S w a left f n 14):PD p w a left f (bO p w a left f n):=by
 obtain⟨hp,hsp,h,ha,hl,hf,hn,hfull,hop,hfit,hni,hok,hkd,hlen,hfo⟩:=d.all;have e:bO p w a left f n=iF w a left ⟨1,n.n,f.vals,[]⟩:=by unfold bO;simp[hop]
 rw[e];have hM:=aIm w a left ⟨1,n.n,f.vals,[]⟩ hfit;simp only[bQ1]at hM
 refine cJ c84.2 rfl rfl ?_
 simp only[go_sem,kK,c84]
 refine aG ?_
 simp only[go_sem,kK,hop,hn,bH hni,hM.ret,kA,bQm,if_false]
theorem aYo (d:D0 p w0 S w a left f n 15):PD p w a left f (bO p w a left f n):=by
 obtain⟨hp,hsp,h,ha,hl,hf,hn,hfull,hop,hfit,hni,hok,hkd,hlen,hfo⟩:=d.all;have e:bO p w a left f n=kC w a left n f.env (aE f.vals 0):=by unfold bO;simp[hop]
 rw[e];have hq:n.asks=1:=by simp[aK.asks,hop]
 have h0:0<f.vals.length:=by omega
 have v0:=hf.vals (dH h0);have hkc:(n.kids.length:Int)=1+n.pats.length:=by rw[hkd];simp[fD,hop]
 have hsn:fU n=true:=by rw[<-hn];simp only[aS,bQj,bQp]at hsp;exact hsp.2 _ (iK hni)
 simp only[fU,bQj,bT8]at hsn;have hpf: ∀q∈n.pats,pC q<=1000:=fun q hq=>by simp only[eE,bQj,bQp]at hok;exact aLe (hok.1.2 q hq)
 have hA:=aU6 h ha hl n f.env v0 (by omega) (by omega) hpf (by omega)
 rw[hop]at hA
 refine cJ c84.2 rfl rfl ?_
 simp only[go_sem,kK,c84]
 refine aG ?_
 simp only[go_sem,kK,hop,hn,bH hni,aP h0,hA.ret,kA,bQm,if_false]
theorem aYp (d:D0 p w0 S w a left f n 26):PD p w a left f (bO p w a left f n):=by
 obtain⟨hp,hsp,h,ha,hl,hf,hn,hfull,hop,hfit,hni,hok,hkd,hlen,hfo⟩:=d.all;have e:bO p w a left f n=bT w a left (aE f.vals 0):=by unfold bO;simp[hop]
 rw[e];have hq:n.asks=1:=by simp[aK.asks,hop]
 have h0:0<f.vals.length:=by omega
 have hB:=jM w a left (aE f.vals 0) hfit
 refine cJ c84.2 rfl rfl ?_
 simp only[go_sem,kK,c84]
 refine aG ?_
 simp only[go_sem,kK,hop,hn,bH hni,aP h0,hB.ret,kA,bQm,if_false]
theorem aYq (d:D0 p w0 S w a left f n 27):PD p w a left f (bO p w a left f n):=by
 obtain⟨hp,hsp,h,ha,hl,hf,hn,hfull,hop,hfit,hni,hok,hkd,hlen,hfo⟩:=d.all;have e:bO p w a left f n=eY p w a left (oN n 0) f.env:=by unfold bO;simp[hop]
 rw[e];have hkc:(n.kids.length:Int)=1:=by rw[hkd];simp[fD,hop]
 have hk0:0<n.kids.length:=by omega
 have hA:=aU7 h ha hl (kid:=oN n 0) (env:=f.env) (by omega)
 refine cJ c84.2 rfl rfl ?_
 simp only[go_sem,kK,c84]
 refine aG ?_
 simp only[go_sem,kK,hop,hn,bH hni,aP2 hk0,hA.ret,kA,bQm,if_false]
theorem aYr (d:D0 p w0 S w a left f n 16):PD p w a left f (bO p w a left f n):=by
 obtain⟨hp,hsp,h,ha,hl,hf,hn,hfull,hop,hfit,hni,hok,hkd,hlen,hfo⟩:=d.all;have e:bO p w a left f n=eJ w a left 16 f.vals:=by unfold bO;simp[hop]
 rw[e];have hq:n.asks=1:=by simp[aK.asks,hop]
 have h0:0<f.vals.length:=by omega
 have hA:=aGn (left:=left) (op:=16) h ha (fun v hv=>hf.vals hv) h0 (by omega)
 refine cJ c84.2 rfl rfl ?_
 simp only[go_sem,kK,c84]
 refine aG ?_
 simp only[go_sem,kK,hop,hn,bH hni,hA.ret,kA,bQm,if_false]
theorem aYs (d:D0 p w0 S w a left f n 17):PD p w a left f (bO p w a left f n):=by
 obtain⟨hp,hsp,h,ha,hl,hf,hn,hfull,hop,hfit,hni,hok,hkd,hlen,hfo⟩:=d.all;have e:bO p w a left f n=eJ w a left 17 f.vals:=by unfold bO;simp[hop]
 rw[e];have hq:n.asks=1:=by simp[aK.asks,hop]
 have h0:0<f.vals.length:=by omega
 have hA:=aGn (left:=left) (op:=17) h ha (fun v hv=>hf.vals hv) h0 (by omega)
 refine cJ c84.2 rfl rfl ?_
 simp only[go_sem,kK,c84]
 refine aG ?_
 simp only[go_sem,kK,hop,hn,bH hni,hA.ret,kA,bQm,if_false]
theorem aYt (d:D0 p w0 S w a left f n 18):PD p w a left f (bO p w a left f n):=by
 obtain⟨hp,hsp,h,ha,hl,hf,hn,hfull,hop,hfit,hni,hok,hkd,hlen,hfo⟩:=d.all;have e:bO p w a left f n=eJ w a left 18 f.vals:=by unfold bO;simp[hop]
 rw[e];have hq:n.asks=2:=by simp[aK.asks,hop]
 have h0:0<f.vals.length:=by omega
 have hA:=aGn (left:=left) (op:=18) h ha (fun v hv=>hf.vals hv) h0 (by omega)
 refine cJ c84.2 rfl rfl ?_
 simp only[go_sem,kK,c84]
 refine aG ?_
 simp only[go_sem,kK,hop,hn,bH hni,hA.ret,kA,bQm,if_false]
theorem aYu (d:D0 p w0 S w a left f n 19):PD p w a left f (bO p w a left f n):=by
 obtain⟨hp,hsp,h,ha,hl,hf,hn,hfull,hop,hfit,hni,hok,hkd,hlen,hfo⟩:=d.all;have e:bO p w a left f n=eC p w a left (aE f.vals 0):=by unfold bO;simp[hop]
 rw[e];have hq:n.asks=1:=by simp[aK.asks,hop]
 have h0:0<f.vals.length:=by omega
 have v0:=hf.vals (dH h0);have hA:=aU8 (left:=left) hp h ha v0
 refine cJ c84.2 rfl rfl ?_
 simp only[go_sem,kK,c84]
 refine aG ?_
 simp only[go_sem,kK,hop,hn,bH hni,aP h0,hA.ret,kA,bQm,if_false]
theorem aYv (d:D0 p w0 S w a left f n 20):PD p w a left f (bO p w a left f n):=by
 obtain⟨hp,hsp,h,ha,hl,hf,hn,hfull,hop,hfit,hni,hok,hkd,hlen,hfo⟩:=d.all;have e:bO p w a left f n=fX w a left (aE f.vals 0):=by unfold bO;simp[hop]
 rw[e];have hq:n.asks=1:=by simp[aK.asks,hop]
 have h0:0<f.vals.length:=by omega
 have v0:=hf.vals (dH h0);have hA:=aYi (left:=left) h ha v0
 refine cJ c84.2 rfl rfl ?_
 simp only[go_sem,kK,c84]
 refine aG ?_
 simp only[go_sem,kK,hop,hn,bH hni,aP h0,hA.ret,kA,bQm,if_false]
theorem aYw (d:D0 p w0 S w a left f n 21):PD p w a left f (bO p w a left f n):=by
 obtain⟨hp,hsp,h,ha,hl,hf,hn,hfull,hop,hfit,hni,hok,hkd,hlen,hfo⟩:=d.all;have e:bO p w a left f n=dD (iF w a left ⟨4,0,[],[]⟩) a 21 0 bJ:=by unfold bO;simp[hop]
 rw[e];have hM:=aIm w a left ⟨4,0,[],[]⟩ hfit;have hE:=mF (iF w a left ⟨4,0,[],[]⟩) a 21 0 bJ;simp only[bQ1]at hM
 refine cJ c84.2 rfl rfl ?_
 simp only[go_sem,kK,c84]
 refine aG ?_
 simp only[go_sem,kK,hop,hn,bH hni,kA,bQm,if_false]
 refine aG ?_
 simp only[go_sem,hM.ret,nF.ret,hE.ret,kA,bQm,if_false]
theorem aYx (d:D0 p w0 S w a left f n 22):PD p w a left f (bO p w a left f n):=by
 obtain⟨hp,hsp,h,ha,hl,hf,hn,hfull,hop,hfit,hni,hok,hkd,hlen,hfo⟩:=d.all;have e:bO p w a left f n=bV w a left 22 f.vals:=by unfold bO;simp[hop]
 rw[e];have hq:n.asks=2:=by simp[aK.asks,hop]
 have h0:0<f.vals.length:=by omega
 have hA:=aFd (left:=left) (op:=22) h ha (fun v hv=>hf.vals hv) h0 (by omega)
 refine cJ c84.2 rfl rfl ?_
 simp only[go_sem,kK,c84]
 refine aG ?_
 simp only[go_sem,kK,hop,hn,bH hni,hA.ret,kA,bQm,if_false]
theorem aYy (d:D0 p w0 S w a left f n 23):PD p w a left f (bO p w a left f n):=by
 obtain⟨hp,hsp,h,ha,hl,hf,hn,hfull,hop,hfit,hni,hok,hkd,hlen,hfo⟩:=d.all;have e:bO p w a left f n=bV w a left 23 f.vals:=by unfold bO;simp[hop]
 rw[e];have hq:n.asks=1:=by simp[aK.asks,hop]
 have h0:0<f.vals.length:=by omega
 have hA:=aFd (left:=left) (op:=23) h ha (fun v hv=>hf.vals hv) h0 (by omega)
 refine cJ c84.2 rfl rfl ?_
 simp only[go_sem,kK,c84]
 refine aG ?_
 simp only[go_sem,kK,hop,hn,bH hni,hA.ret,kA,bQm,if_false]
theorem aYz (d:D0 p w0 S w a left f n 24):PD p w a left f (bO p w a left f n):=by
 obtain⟨hp,hsp,h,ha,hl,hf,hn,hfull,hop,hfit,hni,hok,hkd,hlen,hfo⟩:=d.all;have e:bO p w a left f n=dE w a left 24 n.n f.vals:=by unfold bO;simp[hop]
 rw[e];have hq:n.asks=1:=by simp[aK.asks,hop]
 have h0:0<f.vals.length:=by omega
 have hA:=aLc (left:=left) h ha n (fun v hv=>hf.vals hv) (.inr ⟨hop,h0⟩)
 rw[hop]at hA
 refine cJ c84.2 rfl rfl ?_
 simp only[go_sem,kK,c84]
 refine aG ?_
 simp only[go_sem,kK,hop,hn,bH hni,hA.ret,kA,bQm,if_false]
theorem aY0 (d:D0 p w0 S w a left f n 25):PD p w a left f (bO p w a left f n):=by
 obtain⟨hp,hsp,h,ha,hl,hf,hn,hfull,hop,hfit,hni,hok,hkd,hlen,hfo⟩:=d.all;have e:bO p w a left f n=dE w a left 25 n.n f.vals:=by unfold bO;simp[hop]
 rw[e];have hA:=aLc (left:=left) h ha n (fun v hv=>hf.vals hv) (.inl hop)
 rw[hop]at hA
 refine cJ c84.2 rfl rfl ?_
 simp only[go_sem,kK,c84]
 refine aG ?_
 simp only[go_sem,kK,hop,hn,bH hni,hA.ret,kA,bQm,if_false]
theorem aY1 (d:D0 p w0 S w a left f n 28):PD p w a left f (bO p w a left f n):=by
 obtain⟨hp,hsp,h,ha,hl,hf,hn,hfull,hop,hfit,hni,hok,hkd,hlen,hfo⟩:=d.all;have e:bO p w a left f n=dD (bT w a left bJ) a 28 0 bJ:=by unfold bO;simp[hop]
 rw[e];have hB:=jM w a left bJ hfit;have hE:=mF (bT w a left bJ) a 28 0 bJ
 refine cJ c84.2 rfl rfl ?_
 simp only[go_sem,kK,c84]
 refine aG ?_
 simp only[go_sem,kK,hop,hn,bH hni,kA,bQm,if_false]
 refine aG ?_
 simp only[go_sem,nF.ret,hB.ret,hE.ret,kA,bQm,if_false]
theorem bEj (hp:eG p)(hsp:aS p=true)(h:cK p w0 S w)(ha:inR a 0 ((w.tasks.length:Int)-1)=true)(hl:LOk p S w left)(hf:FOk p S w f)(hfull:(f.vals.length:Int)=(p.node f.node).asks):
  PC L 84 [.agg p.cs,.agg w.cs,.i a,.fz (left.map aB.enc),.agg [.i f.node,.fz (f.env.map aD.enc),.fz (f.vals.map aD.enc)]] (.agg [.fz ((qL p w a left f).w.objs.map aN.enc),.fz ((qL p w a left f).w.tasks.map (.int .i64)),.fz ((qL p w a left f).w.outs.map bL.enc),.fz ((qL p w a left f).w.ins.map (.int .i64)),.i (qL p w a left f).w.used,.i (qL p w a left f).what,.i (qL p w a left f).e.task,.i (qL p w a left f).e.act,.i (qL p w a left f).e.n,.i (qL p w a left f).e.v.kind,.i (qL p w a left f).e.v.n]):=by
 obtain⟨o1,o2⟩:=aLd (hp.nodes _ (iK (fK hf)));have ho:(p.node f.node).op=1 \/(p.node f.node).op=2 \/(p.node f.node).op=3 \/(p.node f.node).op=4 \/(p.node f.node).op=5 \/(p.node f.node).op=6 \/(p.node f.node).op=7 \/(p.node f.node).op=8 \/(p.node f.node).op=9 \/(p.node f.node).op=10 \/(p.node f.node).op=11 \/(p.node f.node).op=12 \/(p.node f.node).op=13 \/(p.node f.node).op=14 \/(p.node f.node).op=15 \/(p.node f.node).op=16 \/(p.node f.node).op=17 \/(p.node f.node).op=18 \/(p.node f.node).op=19 \/(p.node f.node).op=20 \/(p.node f.node).op=21 \/(p.node f.node).op=22 \/(p.node f.node).op=23 \/(p.node f.node).op=24 \/(p.node f.node).op=25 \/(p.node f.node).op=26 \/(p.node f.node).op=27 \/(p.node f.node).op=28:=by omega
 unfold qL;rcases ho with ho|ho|ho|ho|ho|ho|ho|ho|ho|ho|ho|ho|ho|ho|ho|ho|ho|ho|ho|ho|ho|ho|ho|ho|ho|ho|ho|ho
 ·exact bB5 ⟨hp,hsp,h,ha,hl,hf,rfl,hfull,ho⟩
 ·exact bB6 ⟨hp,hsp,h,ha,hl,hf,rfl,hfull,ho⟩
 ·exact bB7 ⟨hp,hsp,h,ha,hl,hf,rfl,hfull,ho⟩
 ·exact bB8 ⟨hp,hsp,h,ha,hl,hf,rfl,hfull,ho⟩
 ·exact bB9 ⟨hp,hsp,h,ha,hl,hf,rfl,hfull,ho⟩
 ·exact bCa ⟨hp,hsp,h,ha,hl,hf,rfl,hfull,ho⟩
 ·exact bCb ⟨hp,hsp,h,ha,hl,hf,rfl,hfull,ho⟩
 ·exact bCc ⟨hp,hsp,h,ha,hl,hf,rfl,hfull,ho⟩
 ·exact bCd ⟨hp,hsp,h,ha,hl,hf,rfl,hfull,ho⟩
 ·exact aYj ⟨hp,hsp,h,ha,hl,hf,rfl,hfull,ho⟩
 ·exact aYk ⟨hp,hsp,h,ha,hl,hf,rfl,hfull,ho⟩
 ·exact aYl ⟨hp,hsp,h,ha,hl,hf,rfl,hfull,ho⟩
 ·exact aYm ⟨hp,hsp,h,ha,hl,hf,rfl,hfull,ho⟩
 ·exact aYn ⟨hp,hsp,h,ha,hl,hf,rfl,hfull,ho⟩
 ·exact aYo ⟨hp,hsp,h,ha,hl,hf,rfl,hfull,ho⟩
 ·exact aYr ⟨hp,hsp,h,ha,hl,hf,rfl,hfull,ho⟩
 ·exact aYs ⟨hp,hsp,h,ha,hl,hf,rfl,hfull,ho⟩
 ·exact aYt ⟨hp,hsp,h,ha,hl,hf,rfl,hfull,ho⟩
 ·exact aYu ⟨hp,hsp,h,ha,hl,hf,rfl,hfull,ho⟩
 ·exact aYv ⟨hp,hsp,h,ha,hl,hf,rfl,hfull,ho⟩
 ·exact aYw ⟨hp,hsp,h,ha,hl,hf,rfl,hfull,ho⟩
 ·exact aYx ⟨hp,hsp,h,ha,hl,hf,rfl,hfull,ho⟩
 ·exact aYy ⟨hp,hsp,h,ha,hl,hf,rfl,hfull,ho⟩
 ·exact aYz ⟨hp,hsp,h,ha,hl,hf,rfl,hfull,ho⟩
 ·exact aY0 ⟨hp,hsp,h,ha,hl,hf,rfl,hfull,ho⟩
 ·exact aYp ⟨hp,hsp,h,ha,hl,hf,rfl,hfull,ho⟩
 ·exact aYq ⟨hp,hsp,h,ha,hl,hf,rfl,hfull,ho⟩
 ·exact aY1 ⟨hp,hsp,h,ha,hl,hf,rfl,hfull,ho⟩
variable {V:Val}{g:Nat}
section
theorem aLf (h:TS kt kr en cnt p w a left f n back bv)(hp:eG p)(hF:cK p w0 S w)(hu:VOk p S w u)(hb:eF p w u v=some b)(hc:b.env.length<=30):
  WIn L (.fn 309 [] []) [.ptr kt 0,.agg [.i u.kind,.i u.n],.agg [.i v.kind,.i v.n]] en cnt fun r en' cnt'=>(∃ev,iZ ev (b.env.map aD.enc)/\ b.vals=[]/\ r= .tup [.agg [.i b.node,ev,.cl []],.bool true])/\ (∃bv',TS kt kr en' cnt' p w a left f n back bv')/\ dR kt kr en cnt en' cnt':=by
 have H:=h.pre;have ht:=h.t;have hr:=h.r
 refine gR func309 ?_
 unfold eF at hb
 by_cases h4:u.kind=4
 ·rw[if_pos h4]at hb;simp only[bQi]at hb;subst hb;have d4:decide (u.kind=4)=true:=D_t h4;have hfn:inR u.n 0 ((p.funs.length:Int)-1)=true:=by
   have:=hu.ok;simp only[dJ,h4]at this
   simpa using this
  simp only[go_sem,kK,d4]
  refine aG ?_
  simp only[go_sem,ht,hr,H,kB,wJ hfn,kA,kF];exact⟨⟨_,.inr rfl,rfl⟩,h.stay (fun k hk=>by simp only[hk.set]) (by(repeat refine upS ?_ (by omega));exact aM _)⟩
 ·rw[if_neg h4]at hb;have d4:decide (u.kind=4)=false:=D_f h4
  split at hb
  case isFalse=>cases hb
  rename_i h2;simp only[bQi]at hb;subst hb;obtain⟨a1,a2,a3,a4⟩:=eZ hF hu h2;have hk:=a2.ok;simp only[dI,a3]at hk
  simp at hk
  obtain⟨_,⟨b1,b2⟩,b3⟩:=hk;have hkk:=oC (hp.nodes _ (iK b1));rw[b2]at hkk;simp[fD]at hkk;have hk0:inR 0 0 (((p.node (w.obj u.n).n).kids.length:Int)-1)=true:=by simp only[inR,bT8];omega
  simp only[bQ2,bQu,bQz]at hc;have hW:PC L 311 [.fz ((w.obj u.n).vals.map aD.enc),.fz [.agg [.i v.kind,.i v.n]]] (.fz (((w.obj u.n).vals++[v]).map aD.enc)):=aE2 (w.obj u.n).vals [v] (by simpa using hc)
  simp only[go_sem,kK,d4];obtain⟨⟨bv1,h1⟩,k1⟩:=h.stay (cnt':=aC (aC (aC cnt 0 4 (cnt 0 4+1)) 0 5 (cnt 0 5+1)) 0 6 (cnt 0 6+1)) (en':=((en.set ⟨0,4,cnt 0 4⟩ (some (.box [.i u.kind,.i u.n] false))).set ⟨0,5,cnt 0 5⟩ (some (.box [.i v.kind,.i v.n] false))).set ⟨0,6,cnt 0 6⟩ (some (.box [.i 0,.cl [],.cl []] false))) (fun k hk=>by simp only[hk.set]) (by(repeat refine upS ?_ (by omega));exact aM _)
  refine(rI h1 (fQ hu) 2).mono ?_
  rintro r e1 c1 ⟨⟨x,rfl,hx⟩,⟨bv2,h2'⟩,k2⟩
  rcases hx with⟨_,hx⟩|⟨rfl,_⟩
  ·rw[h2]at hx;cases hx
  obtain⟨p5,q5⟩:=k2.loc (d:=5) (g:=cnt 0 5) (by simp only[go_sem];omega) h.okt.ne.symm h.okr.ne.symm
  obtain⟨p6,q6⟩:=k2.loc (d:=6) (g:=cnt 0 6) (by simp only[go_sem];omega) h.okt.ne.symm h.okr.ne.symm
  simp only[go_sem]at p5 p6;have ht2:=h2'.t;have hr2:=h2'.r;have z1:=h2'.okt.set;have z2:=h2'.okr.set;simp only[go_sem,kK,h2]
  refine jG ?_
  simp only[go_sem,ht2,hr2,z1,z2,p5,p6,q5.set,q6.set,bH b1,aP2 (n:=p.node (w.obj u.n).n) (by omega),hW.ret,kA,kF]
  exact⟨⟨_,.inl rfl,rfl⟩,h.fin h2' (k1.trans k2) (fun k hk hj=>by simp only[hk.set,hj.set]) (by(repeat refine upS ?_ (by omega));exact aM _)⟩
theorem aHu (h:TS kt kr en cnt p w a left f n back bv)(hu:VOk p S w u)(hb:eF p w u v=none):
  WIn L (.fn 309 [] []) [.ptr kt 0,.agg [.i u.kind,.i u.n],.agg [.i v.kind,.i v.n]] en cnt fun r en' cnt'=>(∃x,r= .tup [.agg [.i 0,.cl [],.cl []],.bool x]/\ x=false)/\ (∃bv',TS kt kr en' cnt' p w a left f n back bv')/\ dR kt kr en cnt en' cnt':=by
 have H:=h.pre
 refine gR func309 ?_
 unfold eF at hb
 by_cases h4:u.kind=4
 ·rw[if_pos h4]at hb;cases hb
 rw[if_neg h4]at hb;have d4:decide (u.kind=4)=false:=D_f h4
 split at hb
 case isTrue=>cases hb
 rename_i h2;rw[bRu]at h2;simp only[go_sem,kK,d4];obtain⟨⟨bv1,h1⟩,k1⟩:=h.stay (cnt':=aC (aC (aC cnt 0 4 (cnt 0 4+1)) 0 5 (cnt 0 5+1)) 0 6 (cnt 0 6+1)) (en':=((en.set ⟨0,4,cnt 0 4⟩ (some (.box [.i u.kind,.i u.n] false))).set ⟨0,5,cnt 0 5⟩ (some (.box [.i v.kind,.i v.n] false))).set ⟨0,6,cnt 0 6⟩ (some (.box [.i 0,.cl [],.cl []] false))) (fun k hk=>by simp only[hk.set]) (by(repeat refine upS ?_ (by omega));exact aM _)
 refine(rI h1 (fQ hu) 2).mono ?_
 rintro r e1 c1 ⟨⟨x,rfl,hx⟩,⟨bv2,h2'⟩,k2⟩
 rcases hx with⟨rfl,_⟩|⟨_,hx⟩
 case inr=>rw[h2]at hx;cases hx
 obtain⟨p6,q6⟩:=k2.loc (d:=6) (g:=cnt 0 6) (by simp only[go_sem];omega) h.okt.ne.symm h.okr.ne.symm
 simp only[go_sem]at p6;simp only[go_sem,kK,h2,p6,q6.set];exact⟨⟨false,rfl,rfl⟩,h.fin h2' (k1.trans k2) (fun k hk hj=>by simp only[hk.set,hj.set]) (by(repeat refine upS ?_ (by omega));exact aM _)⟩
theorem aLg (h:TS kt kr en cnt p w a left f n back bv)(hp:eG p)(hF:cK p w0 S w)(hu:VOk p S w u)(hb:eF p w u v=some b)(hc:30<b.env.length):
  vC L 309 [.ptr kt 0,.agg [.i u.kind,.i u.n],.agg [.i v.kind,.i v.n]] en cnt (oY kt kr en cnt p 4):=by
 have H:=h.pre
 refine jP func309 ?_
 unfold eF at hb
 by_cases h4:u.kind=4
 ·rw[if_pos h4]at hb;simp only[bQi]at hb;subst hb
  simp at hc
 rw[if_neg h4]at hb;have d4:decide (u.kind=4)=false:=D_f h4
 split at hb
 case isFalse=>cases hb
 rename_i h2;simp only[bQi]at hb;subst hb;obtain⟨a1,a2,a3,a4⟩:=eZ hF hu h2;have hk:=a2.ok;simp only[dI,a3]at hk
 simp at hk
 obtain⟨_,⟨b1,b2⟩,b3⟩:=hk;have hlen:=aDh a2.ok;have hkk:=oC (hp.nodes _ (iK b1));rw[b2]at hkk;simp[fD]at hkk;simp only[bQ2,bQu,bQz]at hc;have hW:PX L 311 [.fz ((w.obj u.n).vals.map aD.enc),.fz [.agg [.i v.kind,.i v.n]]] (aEx 4):=aIl (w.obj u.n).vals [v] (by simpa using hc) (by simp only[bQu,bQz];omega)
 simp only[go_sem,kK,d4];obtain⟨⟨bv1,h1⟩,k1⟩:=h.stay (cnt':=aC (aC (aC cnt 0 4 (cnt 0 4+1)) 0 5 (cnt 0 5+1)) 0 6 (cnt 0 6+1)) (en':=((en.set ⟨0,4,cnt 0 4⟩ (some (.box [.i u.kind,.i u.n] false))).set ⟨0,5,cnt 0 5⟩ (some (.box [.i v.kind,.i v.n] false))).set ⟨0,6,cnt 0 6⟩ (some (.box [.i 0,.cl [],.cl []] false))) (fun k hk=>by simp only[hk.set]) (by(repeat refine upS ?_ (by omega));exact aM _)
 refine(rI h1 (fQ hu) 2).mono ?_
 rintro r e1 c1 ⟨⟨x,rfl,hx⟩,⟨bv2,h2'⟩,k2⟩
 rcases hx with⟨_,hx⟩|⟨rfl,_⟩
 ·rw[h2]at hx;cases hx
 obtain⟨p5,q5⟩:=k2.loc (d:=5) (g:=cnt 0 5) (by simp only[go_sem];omega) h.okt.ne.symm h.okr.ne.symm
 simp only[go_sem]at p5;have ht2:=h2'.t;have hr2:=h2'.r;have z1:=h2'.okt.set;have z2:=h2'.okr.set;simp only[go_sem,kK,h2]
 refine kR 19 rfl rfl ?_
 simp only[go_sem,bQs,bQq,ht2,hr2,z1,z2,p5,q5.set,bH b1,aP2 (n:=p.node (w.obj u.n).n) (by omega),hW.ret,bR0,bRz,rD,kA,kF]
 exact⟨rfl,h.fell h2' (k1.trans k2) (fun k hk hj=>by simp only[hj.set]) (by(repeat refine upS ?_ (by omega));exact aM _)⟩
def aNv :Option gS->Val
 |none=>aPn
 |some e=>aHr e
def qU (fn:Nat)(kt kr:Key)(en:En)(cnt:Nat->Nat->Nat)(p:aF)(w:aA)(a:Int)(left:List aB)(f:aB)(n:aK):OpR->Prop
 | .go ev w' left' back=>WIn L (.fn fn [] []) [.ptr kt 0] en cnt fun r en' cnt'=>r=aNv ev/\ (∃bv',TS kt kr en' cnt' p w' a left' f n back bv')/\ dR kt kr en cnt en' cnt'
 | .wait=>WIn L (.fn fn [] []) [.ptr kt 0] en cnt fun r en' cnt'=>r=aWf/\ (∃bv',TS kt kr en' cnt' p w a left f n [] bv')/\ dR kt kr en cnt en' cnt'
 | .fail s=>vC L fn [.ptr kt 0] en cnt (oY kt kr en cnt p s)
structure Pre (p:aF) (w0:aA) (S:Nat->Prop) (w:aA) (a:Int) (left:List aB) (f:aB) (n:aK):Prop where
 hp:eG p
 hsp:aS p=true
 hF:cK p w0 S w
 ha:inR a 0 ((w.tasks.length:Int)-1)=true
 hl:LOk p S w left
 hf:FOk p S w f
 hn:p.node f.node=n
 full:(f.vals.length:Int)=n.asks
theorem Pre.env30 (h:Pre p w0 S w a left f n):f.env.length<=30:=by
 have:=h.hf.ok;simp only[dF,bA,bQj,bT8]at this;omega
theorem Pre.objs (h:Pre p w0 S w a left f n):w.objs.length<=120:=(cD.1 h.hF.ok).1
theorem Pre.left40 (h:Pre p w0 S w a left f n):left.length<=40:=by have:=h.hl.len;omega
theorem Pre.kids (h:Pre p w0 S w a left f n):(n.kids.length:Int)=fD n.op n.pats.length (oX p n):=by
 have hok:=h.hp.nodes _ (iK (fK h.hf));rw[h.hn]at hok;exact oC hok
theorem Pre.node (h:Pre p w0 S w a left f n):eE p n=true:=by
 have hok:=h.hp.nodes _ (iK (fK h.hf));rw[h.hn]at hok;exact hok
theorem Pre.val (h:Pre p w0 S w a left f n){i:Nat}(hi:i<f.vals.length):VOk p S w (aE f.vals i):=by
 refine h.hf.vals ?_
 simp only[aE,bQn,bRq hi,bRc];exact bQr hi
theorem bH1 (h:TS kt kr en cnt p w a left f n [] bv)(hop:n.op=1):qU 247 kt kr en cnt p w a left f n (opR p w a left f n):=by
 have e:opR p w a left f n=iJ w left (mS n.n):=by unfold opR;rw[hop];rfl
 rw[e];have H:=h.pre;have ht:=h.t
 refine gR func247 ?_
 simp only[go_sem,kK,ht,hop,(tH _).ret]
 refine(iP h (mS n.n)).mono ?_
 rintro r e1 c1 ⟨rfl,t1,k1⟩
 exact⟨rfl,t1,k1⟩
theorem bH2 (P0:Pre p w0 S w a left f n)(h:TS kt kr en cnt p w a left f n [] bv)(hop:n.op=7):qU 251 kt kr en cnt p w a left f n (opR p w a left f n):=by
 have e:opR p w a left f n=iT w left (oN n 1) (f.env++[aE f.vals 0]):=by unfold opR;rw[hop];rfl
 rw[e];have hfull:=P0.full;simp[aK.asks,hop]at hfull;have hk:=P0.kids;simp[fD,hop]at hk;have hv0:0<f.vals.length:=by omega
 have h30:=P0.env30;have h40:=P0.left40;have H:=h.pre;have ht:=h.t;unfold iT
 by_cases hc:30<(f.env++[aE f.vals 0]).length
 ·rw[if_pos hc];simp only[bQ2,bQu,bQz]at hc;have hW:PX L 311 [.fz (f.env.map aD.enc),.fz [.agg [.i (aE f.vals 0).kind,.i (aE f.vals 0).n]]] (aEx 4):=aIl f.env [aE f.vals 0] (by simpa using hc) (by simp only[bQu,bQz];omega)
  refine jP func251 ?_
  simp only[go_sem,kK]
  refine kR 14 rfl rfl ?_
  simp only[go_sem,bQs,bQq,ht,aP hv0,hW.ret,bR0,bRz,rD,kA,kF];exact⟨rfl,h.fell0 (fun _ _=>rfl) (aM _)⟩
 ·rw[if_neg hc];simp only[bQ2,bQu,bQz]at hc;have hW:PC L 311 [.fz (f.env.map aD.enc),.fz [.agg [.i (aE f.vals 0).kind,.i (aE f.vals 0).n]]] (.fz ((f.env++[aE f.vals 0]).map aD.enc)):=aE2 f.env [aE f.vals 0] (by simp only[bQu,bQz];omega)
  unfold pL
  by_cases hc2:40<(left++[(⟨oN n 1,f.env++[aE f.vals 0],[]⟩:aB)]).length
  ·rw[if_pos hc2];simp only[bQ2,bQu,bQz]at hc2
   refine jP func251 ?_
   simp only[go_sem,kK]
   refine kR 15 rfl rfl ?_
   simp only[go_sem,bQs,bQq,ht,aP hv0,hW.ret,bR0,bRz,rD,kA,kF];exact⟨rfl,xR h (i:=1) (env:=f.env++[aE f.vals 0]) (by omega) (.inl rfl) (by omega)⟩
  ·rw[if_neg hc2];simp only[bQ2,bQu,bQz]at hc2
   refine gR func251 ?_
   simp only[go_sem,kK]
   refine jG ?_
   simp only[go_sem,ht,aP hv0,hW.ret,kA,kF];exact xQ h (i:=1) (env:=f.env++[aE f.vals 0]) (by omega) (.inl rfl) (by omega)
theorem bH3 (h:TS kt kr en cnt p w a left f n [] bv)(hop:n.op=2):qU 247 kt kr en cnt p w a left f n (opR p w a left f n):=by
 have e:opR p w a left f n=iJ w left (nD (decide (n.n=1))):=by unfold opR;rw[hop];rfl
 rw[e];have H:=h.pre;have ht:=h.t
 refine gR func247 ?_
 simp only[go_sem,kK,ht,hop,(aEy _).ret];exact iP h _
theorem bH4 (h:TS kt kr en cnt p w a left f n [] bv)(hop:n.op=3):qU 247 kt kr en cnt p w a left f n (opR p w a left f n):=by
 have e:opR p w a left f n=iJ w left bJ:=by unfold opR;rw[hop];rfl
 rw[e];have H:=h.pre;have ht:=h.t
 refine gR func247 ?_
 simp only[go_sem,kK,ht,hop,kG.ret];exact iP h _
theorem bH5 (P0:Pre p w0 S w a left f n)(h:TS kt kr en cnt p w a left f n [] bv)(hop:n.op=4):qU 248 kt kr en cnt p w a left f n (opR p w a left f n):=by
 have e:opR p w a left f n=(if n.n<0 then iJ w left ⟨4,-1-n.n⟩else if(f.env.length:Int)<=n.n then .fail 2 else iJ w left (aE f.env n.n.toNat)):=by unfold opR;rw[hop];rfl
 rw[e];have H:=h.pre;have ht:=h.t
 by_cases h0:n.n<0
 ·rw[if_pos h0];have d0:decide (n.n<0)=true:=D_t h0;have hw:IntKind.i64.wrap (-1-n.n)= -1-n.n:=by
   have hok:=P0.node;have hnum:oD p n=true:=by simp only[eE,bQj]at hok;exact hok.1.1.1
   simp only[oD,hop]at hnum;simp[inR]at hnum;exact aV (by have hsl:=P0.hsp;simp only[aS,bQj,bT8]at hsl;omega)
  refine gR func248 ?_
  simp only[go_sem,kK,ht,d0,hw];exact iP h ⟨4,-1-n.n⟩
 ·rw[if_neg h0];have d0:decide (n.n<0)=false:=D_f h0
  by_cases h1:(f.env.length:Int)<=n.n
  ·rw[if_pos h1];have d1:decide (n.n<(f.env.length:Int))=false:=D_f (by omega)
   refine jP func248 ?_
   simp only[go_sem,kK,ht,d0]
   refine kR 12 rfl rfl ?_
   simp only[go_sem,bQs,bQq,ht,bQl,d1,(kE _).ret,bR0,bRz,rD];exact⟨rfl,h.fell0 (fun _ _=>rfl) (aM _)⟩
  ·rw[if_neg h1];have d1:decide (n.n<(f.env.length:Int))=true:=D_t (by omega)
   have hi:inR n.n 0 ((f.env.length:Int)-1)=true:=by simp only[inR,bT8];omega
   refine gR func248 ?_
   simp only[go_sem,kK,ht,d0]
   refine jG ?_
   simp only[go_sem,ht,bQl,d1,(gX _).ret,aWn hi,kF];exact iP h _
theorem bEk (P0:Pre p w0 S w a left f n)(h:TS kt kr en cnt p w a left f n [] bv)(hop:n.op=26):qU 268 kt kr en cnt p w a left f n (opR p w a left f n):=by
 have e:opR p w a left f n=iJ w left (aE f.vals 0):=by unfold opR;rw[hop];rfl
 rw[e];have hfull:=P0.full;simp[aK.asks,hop]at hfull;have H:=h.pre;have ht:=h.t
 refine gR func268 ?_
 simp only[go_sem,kK,ht,aP (l:=f.vals) (by omega)]
 exact iP h _
theorem bEl (h:TS kt kr en cnt p w a left f n [] bv)(hop:n.op=28):qU 270 kt kr en cnt p w a left f n (opR p w a left f n):=by
 have e:opR p w a left f n=kD w a left 28 0 bJ bJ:=by unfold opR;rw[hop];rfl
 rw[e];have H:=h.pre
 refine gR func270 ?_
 simp only[go_sem,kK,kG.ret]
 refine(qN h bJ bJ).mono ?_
 rintro r e1 c1 ⟨rfl,t1,k1⟩
 refine⟨?_,t1,k1⟩
 rw[hop];rfl
theorem bH6 (P0:Pre p w0 S w a left f n)(h:TS kt kr en cnt p w a left f n [] bv)(hop:n.op=5):qU 249 kt kr en cnt p w a left f n (opR p w a left f n):=by
 have e:opR p w a left f n=iB w ⟨2,f.node,f.env,[]⟩ fun w' v=>iJ w' left v:=by unfold opR;rw[hop];rfl
 rw[e];have h120:=P0.objs;have H:=h.pre;have ht:=h.t;unfold iB
 by_cases hc:120<=w.objs.length
 ·rw[if_pos hc]
  refine jP func249 ?_
  simp only[go_sem,kK]
  refine kR 13 rfl rfl ?_
  simp only[go_sem,bQs,bQq,bR0,bRz,rD,ht];exact⟨rfl,oZ h (o:=⟨2,f.node,f.env,[]⟩) hc (by omega)⟩
 ·rw[if_neg hc]
  refine gR func249 ?_
  simp only[go_sem,kK]
  refine jG ?_
  simp only[go_sem,ht]
  refine(rH h (o:=⟨2,f.node,f.env,[]⟩) (.inl rfl) (.inr rfl) (by omega)).mono ?_
  rintro v e1 c1 ⟨rfl,⟨bv1,t1⟩,k1⟩
  refine(iP t1 (dK w.objs.length)).mono ?_
  rintro v e2 c2 ⟨rfl,t2,k2⟩
  exact⟨rfl,t2,k1.trans k2⟩
theorem bEm (P0:Pre p w0 S w a left f n)(h:TS kt kr en cnt p w a left f n [] bv)(hop:n.op=14):qU 256 kt kr en cnt p w a left f n (opR p w a left f n):=by
 have e:opR p w a left f n=iB w ⟨1,n.n,f.vals,[]⟩ fun w' v=>iJ w' left v:=by unfold opR;rw[hop];rfl
 rw[e];have h120:=P0.objs;have H:=h.pre;have ht:=h.t;unfold iB
 by_cases hc:120<=w.objs.length
 ·rw[if_pos hc]
  refine jP func256 ?_
  simp only[go_sem,kK]
  refine kR 13 rfl rfl ?_
  simp only[go_sem,bQs,bQq,bR0,bRz,rD,ht];exact⟨rfl,oZ h (o:=⟨1,n.n,f.vals,[]⟩) hc (by omega)⟩
 ·rw[if_neg hc]
  refine gR func256 ?_
  simp only[go_sem,kK]
  refine jG ?_
  simp only[go_sem,ht]
  refine(rH h (o:=⟨1,n.n,f.vals,[]⟩) (.inl rfl) (.inr rfl) (by omega)).mono ?_
  rintro v e1 c1 ⟨rfl,⟨bv1,t1⟩,k1⟩
  refine(iP t1 (dK w.objs.length)).mono ?_
  rintro v e2 c2 ⟨rfl,t2,k2⟩
  exact⟨rfl,t2,k1.trans k2⟩
theorem bH7 (P0:Pre p w0 S w a left f n)(h:TS kt kr en cnt p w a left f n [] bv)(hop:n.op=8):qU 252 kt kr en cnt p w a left f n (opR p w a left f n):=by
 have e:opR p w a left f n=(if¬(aE f.vals 0).kind=2 then .fail 2 else iT w left (oN n (2-(aE f.vals 0).n)) f.env):=by unfold opR;rw[hop];rfl
 rw[e];have hfull:=P0.full;simp[aK.asks,hop]at hfull;have hk:=P0.kids;simp[fD,hop]at hk;have hv0:0<f.vals.length:=by omega
 have h30:=P0.env30;have h40:=P0.left40;have H:=h.pre;have ht:=h.t
 by_cases h2:(aE f.vals 0).kind=2
 ·rw[if_neg (fun h=>h h2)]
  have d2:decide ((aE f.vals 0).kind=2)=true:=D_t h2;have hvk:=(P0.val hv0).ok;simp only[dJ,h2]at hvk;simp[inR]at hvk;obtain⟨j,hj⟩: ∃j:Nat,2-(aE f.vals 0).n=(j:Int):=⟨(2-(aE f.vals 0).n).toNat,by omega⟩
  have hw:IntKind.i64.wrap (2-(aE f.vals 0).n)=(j:Int):=by rw[hj];exact aV (by omega)
  have hkn:oN n (2-(aE f.vals 0).n)=n.kids.getD j 0:=by rw[hj];rfl
  unfold iT;rw[if_neg (by omega),hkn]
  unfold pL
  by_cases hc2:40<(left++[(⟨n.kids.getD j 0,f.env,[]⟩:aB)]).length
  ·rw[if_pos hc2];simp only[bQ2,bQu,bQz]at hc2
   refine jP func252 ?_
   simp only[go_sem,kK]
   refine bR ?_
   simp only[go_sem,ht,aP hv0,d2,(gX _).ret]
   refine kR 15 rfl rfl ?_
   simp only[go_sem,bQs,bQq,bR0,bRz,rD,ht,aP hv0,hw];exact⟨rfl,xR h (i:=j) (env:=f.env) (by omega) (.inl rfl) (by omega)⟩
  ·rw[if_neg hc2];simp only[bQ2,bQu,bQz]at hc2
   refine gR func252 ?_
   simp only[go_sem,kK]
   refine bR ?_
   simp only[go_sem,ht,aP hv0,d2,(gX _).ret]
   refine jG ?_
   simp only[go_sem,ht,aP hv0,hw];exact xQ h (i:=j) (env:=f.env) (by omega) (.inl rfl) (by omega)
 ·rw[if_pos h2];have d2:decide ((aE f.vals 0).kind=2)=false:=D_f h2
  refine jP func252 ?_
  simp only[go_sem,kK]
  refine cO 9 rfl ?_
  simp only[go_sem,bQs,bQq,ht,aP hv0,d2,(kE _).ret];exact h.fell0 (fun _ _=>rfl) (aM _)
theorem bEn (P0:Pre p w0 S w a left f n)(h:TS kt kr en cnt p w a left f n [] bv)(hop:n.op=12):qU 254 kt kr en cnt p w a left f n (opR p w a left f n):=by
 have e:opR p w a left f n=(if¬(aE f.vals 0).kind=1 \/ ¬(aE f.vals 1).kind=1 then .fail 2 else iJ w left (nD (decide ((aE f.vals 0).n<(aE f.vals 1).n)))):=by unfold opR;rw[hop];rfl
 rw[e];have hfull:=P0.full;simp[aK.asks,hop]at hfull;have H:=h.pre
 by_cases h12: ¬(aE f.vals 0).kind=1 \/ ¬(aE f.vals 1).kind=1
 ·rw[if_pos h12]
  refine jP func254 ?_
  simp only[go_sem,kK]
  refine cO 1 rfl ?_
  simp only[go_sem,bQs,bQq];exact aSo h (by omega) h12
 ·rw[if_neg h12];have k1:(aE f.vals 0).kind=1:=Decidable.byContradiction fun hh=>h12 (.inl hh)
  have k2:(aE f.vals 1).kind=1:=Decidable.byContradiction fun hh=>h12 (.inr hh)
  refine gR func254 ?_
  simp only[go_sem,kK]
  refine bR ?_
  simp only[go_sem]
  refine(aSn h (by omega) k1 k2).mono ?_
  rintro v e1 c1 ⟨rfl,rfl,rfl⟩
  simp only[go_sem,(aEy _).ret];exact iP h _
theorem aLh (P0:Pre p w0 S w a left f n)(h:TS kt kr en cnt p w a left f n [] bv)(hop:n.op=9 \/n.op=10 \/n.op=11):qU 253 kt kr en cnt p w a left f n (opR p w a left f n):=by
 have e:opR p w a left f n=(if¬(aE f.vals 0).kind=1 \/ ¬(aE f.vals 1).kind=1 then .fail 2
  else if inR (qY n.op (aE f.vals 0).n (aE f.vals 1).n) (-1000000000) 1000000000=true then iJ w left (mS (qY n.op (aE f.vals 0).n (aE f.vals 1).n))else .fail 4):=by
  unfold opR;rcases hop with h|h|h<;>rw[h]<;>rfl
 rw[e];have hfull:f.vals.length=2:=by
  have:=P0.full;rcases hop with h|h|h<;>simp[aK.asks,h]at this<;>omega
 have H:=h.pre;have ht:=h.t
 by_cases h12: ¬(aE f.vals 0).kind=1 \/ ¬(aE f.vals 1).kind=1
 ·rw[if_pos h12]
  refine jP func253 ?_
  simp only[go_sem,kK]
  refine cO 1 rfl ?_
  simp only[go_sem,bQs,bQq];exact aSo h (by omega) h12
 ·rw[if_neg h12];have k1:(aE f.vals 0).kind=1:=Decidable.byContradiction fun hh=>h12 (.inl hh)
  have k2:(aE f.vals 1).kind=1:=Decidable.byContradiction fun hh=>h12 (.inr hh)
  have v1:=(P0.val (show 0<f.vals.length by omega)).ok
  have v2:=(P0.val (show 1<f.vals.length by omega)).ok
  simp only[dJ,k1,k2]at v1 v2;simp[inR]at v1 v2;have hI:=aSn h (by omega) k1 k2
  generalize (aE f.vals 0).n=x at v1 hI⊢;generalize (aE f.vals 1).n=y at v2 hI⊢;have w1:IntKind.i64.wrap (x+y)=x+y:=aV (by omega)
  have w2:IntKind.i64.wrap (x-y)=x-y:=aV (by omega)
  have hm: -1000000000000000000<=x*y/\ x*y<=1000000000000000000:=by
   have:=Int.natAbs_mul x y;have a1:x.natAbs<=1000000000:=by omega
   have a2:y.natAbs<=1000000000:=by omega
   have:=Nat.mul_le_mul a1 a2;omega
  have w3:IntKind.i64.wrap (x*y)=x*y:=aV (by omega)
  by_cases hr2:inR (qY n.op x y) (-1000000000) 1000000000=true
  ·rw[if_pos hr2]
   refine gR func253 ?_
   simp only[go_sem,kK]
   refine bR ?_
   simp only[go_sem]
   refine hI.mono ?_
   rintro v e1 c1 ⟨rfl,rfl,rfl⟩
   rcases hop with ho|ho|ho
   ·rw[ho,show qY 9 x y=x+y from rfl]at hr2⊢
    simp only[go_sem,kK,ht,ho,w1]
    refine bR ?_
    simp only[go_sem,(fO _).ret,hr2,(gX _).ret,(tH _).ret];exact iP h (mS (x+y))
   ·rw[ho,show qY 10 x y=x-y from rfl]at hr2⊢
    simp only[go_sem,kK,ht,ho,w1,w2]
    refine bR ?_
    simp only[go_sem,(fO _).ret,hr2,(gX _).ret,(tH _).ret];exact iP h (mS (x-y))
   ·rw[ho,show qY 11 x y=x*y from rfl]at hr2⊢
    simp only[go_sem,kK,ht,ho,w1,w3]
    refine bR ?_
    simp only[go_sem,(fO _).ret,hr2,(gX _).ret,(tH _).ret];exact iP h (mS (x*y))
  ·rw[if_neg hr2];rw[bRu]at hr2
   refine jP func253 ?_
   simp only[go_sem,kK]
   refine bR ?_
   simp only[go_sem]
   refine hI.mono ?_
   rintro v e1 c1 ⟨rfl,rfl,rfl⟩
   rcases hop with ho|ho|ho
   ·rw[ho,show qY 9 x y=x+y from rfl]at hr2
    simp only[go_sem,kK,ht,ho,w1]
    refine cO 2 rfl ?_
    simp only[go_sem,bQs,bQq,(fO _).ret,hr2,(kE _).ret];exact h.fell0 (fun _ _=>rfl) (aM _)
   ·rw[ho,show qY 10 x y=x-y from rfl]at hr2
    simp only[go_sem,kK,ht,ho,w1,w2]
    refine cO 2 rfl ?_
    simp only[go_sem,bQs,bQq,(fO _).ret,hr2,(kE _).ret];exact h.fell0 (fun _ _=>rfl) (aM _)
   ·rw[ho,show qY 11 x y=x*y from rfl]at hr2
    simp only[go_sem,kK,ht,ho,w1,w3]
    refine cO 2 rfl ?_
    simp only[go_sem,bQs,bQq,(fO _).ret,hr2,(kE _).ret];exact h.fell0 (fun _ _=>rfl) (aM _)
theorem aCq {kids:List Int}{l:List Pat}(hk:k<l.length):dS w left kids env u k (l.drop k)=(match fJ w l[k] u with|some r=>iT w left (kids.getD (1+k) 0) (env++r)|none=>dS w left kids env u (k+1) (l.drop (k+1))):=by
 rw[bRt hk,dS];cases fJ w l[k] u<;>rfl
theorem aCr {kids:List Int}{env:List aD}{u:aD}: ∀(l:List Pat) (i:Nat),dS w left kids env u i l≠ .wait
 |[],i=>by simp[dS]
 |q::l,i=>by
  rw[dS];split
  ·unfold iT pL;split
   ·simp
   ·split<;>simp
  ·exact aCr l _
theorem bEo (P0:Pre p w0 S w a left f n)(h:TS kt kr en cnt p w a left f n [] bv)(hop:n.op=15):qU 257 kt kr en cnt p w a left f n (opR p w a left f n):=by
 have e:opR p w a left f n=dS w left n.kids f.env (aE f.vals 0) 0 n.pats:=by unfold opR;rw[hop];rfl
 rw[e];have hfull:=P0.full;simp[aK.asks,hop]at hfull;have hv0:0<f.vals.length:=by omega
 have hu:=P0.val hv0;have hkd:=P0.kids;simp[fD,hop]at hkd;have hok:=P0.node;have hpf: ∀q∈n.pats,rR p.cons q=true/\ pC q<=1000:=fun q hq=>by
  simp only[eE,bQj,bQp]at hok;have:=hok.1.2 q hq;exact⟨by simp only[nC,bQj]at this;exact this.2,aLe this⟩
 have hfew:n.kids.length<=1000:=by
  have hsp:=P0.hsp;have hsn:fU n=true:=by rw[<-P0.hn];simp only[aS,bQj,bQp]at hsp;exact hsp.2 _ (iK (fK P0.hf))
  simp only[fU,bQj,bT8]at hsn;omega
 have h30:=P0.env30;have h40:=P0.left40;have H:=h.pre;have ht:=h.t;cases hR0:dS w left n.kids f.env (aE f.vals 0) 0 n.pats with
 |wait=>exact absurd hR0 (aCr _ _)
 |fail s=>
  refine jP func257 ?_
  simp only[go_sem,kK,ht]
  refine bQ n.pats.length (fun k st=> ∃fr en2 cnt2,st=⟨fr,en2,cnt2⟩/\ fr 0= .ptr kt 0/\ fr 10= .fz (n.pats.map Pat.enc)/\ fr 11= .i n.pats.length/\ fr 12= .i k/\ (∃bv2,TS kt kr en2 cnt2 p w a left f n [] bv2)/\ dR kt kr en cnt en2 cnt2/\ dS w left n.kids f.env (aE f.vals 0) k (n.pats.drop k)=dS w left n.kids f.env (aE f.vals 0) 0 n.pats) 0 (bQt _) (by refine⟨_,_,_,rfl,?_,?_,?_,?_,⟨bv,h⟩,dR.refl _ _ _ _,by rw[bSm]⟩<;>simp only[go_sem]) ?_
  rintro k st hk ⟨fr,en2,cnt2,rfl,k0,k10,k11,k12,⟨bv2,t2⟩,K2,hR⟩
  simp only[go_sem,kK,k11,k12]
  refine aH (fun hq2=>?_) (fun hq2=>?_)
  ·have h':k<n.pats.length:=D_o hq2;have ht2:=t2.t;have y1:=t2.okt.set;have y2:=t2.okr.set;rw[aCq h']at hR;simp only[go_sem,kK,k0,k10,k12,h',ht2,y1,aP hv0];have hpk:=hpf _ (bQr h');have u3: ∀t,cnt2 0 t<=aC (aC cnt2 0 4 (cnt2 0 4+1)) 0 5 (cnt2 0 5+1) 0 t:=(by(repeat refine upS ?_ (by omega));exact aM _)
   obtain⟨⟨bv3,t3⟩,k3⟩:=t2.stay (cnt':=aC (aC cnt2 0 4 (cnt2 0 4+1)) 0 5 (cnt2 0 5+1)) (en':=((en2.set ⟨0,4,cnt2 0 4⟩ (some (.box [.i 0,.i 0,.str ⟨#[]⟩,.cl []] false))).set ⟨0,4,cnt2 0 4⟩ (some (.box [.i n.pats[k].form,.i n.pats[k].n,.str n.pats[k].text,.fz (n.pats[k].parts.map Pat.enc)] false))).set ⟨0,5,cnt2 0 5⟩ (some (.box [.cl []] false))) (fun k hk=>by simp only[hk.set]) u3
   refine(aS1 P0.hF p.cons n.pats[k] hpk.1 hpk.2 (aE f.vals 0) hu (kl:=⟨0,5,cnt2 0 5⟩) (ko:=none) (xs:=[]) t3 ⟨⟨rfl,by simp[aC]⟩,.inl ⟨rfl,rfl,cC⟩⟩ (by have:=hpk.2;simp only[bQz];omega)).mono ?_
   rintro r e5 c5 ⟨rfl,F5⟩
   obtain⟨bv5,t5⟩:=F5.ts;have K5:dR kt kr en cnt e5 c5:=K2.trans ⟨fun x hx y1 y2=>by rw[F5.old x (hx.up u3) y1 y2 hx.ne (by simp),hx.set,hx.set,hx.set],fun t=>bQv (u3 t) (F5.up t)⟩
   cases hx:fJ w n.pats[k] (aE f.vals 0)with
   |none=>
    rw[hx]at hR;simp only[go_sem,bSr,k12,aR h' (show Few n.pats.length by unfold Few;omega)]
    refine⟨_,_,_,rfl,?_⟩
    simp only[go_sem,k0,k10,k11];exact⟨⟨bv5,t5⟩,K5,hR⟩
   |some l=>
    rw[hx]at hR
    simp only at hR
    rw[hR0]at hR;obtain⟨ko5,⟨_,hv5⟩,hk5⟩:=F5.acc l hx;rw[bRo]at hv5;have ht5:=t5.t;simp only[go_sem,kK,bSi];have hwk:IntKind.i64.wrap ((k:Int)+1)=((k+1:Nat):Int):=by rw[aV (by omega)];omega
    unfold iT at hR
    by_cases hc:30<(f.env++l).length
    ·rw[if_pos hc,OpR.fail.injEq]at hR;subst hR;have hll:=aB5 _ hx;have hW:=aIl f.env l (by simpa using hc) (by have:=hpk.2;omega)
     rcases hv5 with⟨_,z2,z3⟩|⟨t,g,b,_,z2,z3,z4⟩
     ·subst z2;simp at hc;omega
     ·refine kR 9 rfl rfl ?_
      simp only[go_sem,bQs,bQq,bR0,bRz,rD,k0,ht5,z4,z3,hW.ret,hwk,bQl,bSm,bQ3,bQk,bRg,kF];exact⟨rfl,oY.then K5 (t5.fell0 (fun _ _=>rfl) (aM _))⟩
    ·rw[if_neg hc]at hR;simp only[bQ2]at hc;unfold pL at hR;have hW:=aE2 f.env l (by omega)
     by_cases hc2:40<(left++[(⟨n.kids.getD (1+k) 0,f.env++l,[]⟩:aB)]).length
     ·rw[if_pos hc2,OpR.fail.injEq]at hR;subst hR;simp only[bQ2,bQu,bQz]at hc2;have hG:=xR t5 (i:=k+1) (env:=f.env++l) (by omega) (.inl rfl) (by omega)
      rcases hv5 with⟨_,z2,z3⟩|⟨t,g,b,z1,z2,z3,z4⟩
      ·subst z2;rw[bRk]at hW hG;simp only[bQ1]at hW
       refine kR 10 rfl rfl ?_
       simp only[go_sem,bQs,bQq,bR0,bRz,rD,k0,ht5,z3,hW.ret,hwk,kF];exact⟨rfl,hG.mono fun _ _ _=>oY.then K5⟩
      ·have hr5:=t5.r;have bt:(⟨0,t,g⟩:Key)≠kt:=by rintro rfl;rw[ht5]at z3;cases z3
       have br:(⟨0,t,g⟩:Key)≠kr:=by rintro rfl;rw[hr5]at z3;cases z3
       have t6:TS kt kr (e5.set ⟨0,t,g⟩ (some (.blk 2 (l.map aD.enc) true))) c5 p w a left f n [] bv5:=t5.to (aI bt.symm) (aI br.symm) (aM _);have K6:dR kt kr en cnt (e5.set ⟨0,t,g⟩ (some (.blk 2 (l.map aD.enc) true))) c5:=⟨fun x hxo y1 y2=>by
        have hne:x≠⟨0,t,g⟩:=by
         rintro rfl
         rcases hk5 with hk5|hk5
         ·rw[z1]at hk5;cases hk5
         ·exact hk5 _ z1 (hxo.up fun t=>bQv (K2.up t) (u3 t))
        rw[aI hne];exact K5.old x hxo y1 y2,K5.up⟩
       have hG:=xR t6 (i:=k+1) (env:=f.env++l) (by omega) (.inl rfl) (by omega)
       refine kR 10 rfl rfl ?_
       simp only[go_sem,bQs,bQq,bR0,bRz,rD,k0,ht5,z4,z3,hW.ret,hwk,bQl,bSm,bQ3,bQk,bRg,kF];exact⟨rfl,hG.mono fun _ _ _=>oY.then K6⟩
     ·rw[if_neg hc2]at hR;cases hR
  ·have:k=n.pats.length:=by simp at hq2;omega
   subst this;rw[bSh,dS]at hR;rw[hR0,OpR.fail.injEq]at hR;subst hR;simp only[go_sem]
   refine cO 2 rfl ?_
   simp only[go_sem,bQs,bQq];exact⟨rfl,rfl,K2,t2.rb⟩
 |go ev w' left' back'=>
  refine gR func257 ?_
  simp only[go_sem,kK,ht]
  refine bQ n.pats.length (fun k st=> ∃fr en2 cnt2,st=⟨fr,en2,cnt2⟩/\ fr 0= .ptr kt 0/\ fr 10= .fz (n.pats.map Pat.enc)/\ fr 11= .i n.pats.length/\ fr 12= .i k/\ (∃bv2,TS kt kr en2 cnt2 p w a left f n [] bv2)/\ dR kt kr en cnt en2 cnt2/\ dS w left n.kids f.env (aE f.vals 0) k (n.pats.drop k)=dS w left n.kids f.env (aE f.vals 0) 0 n.pats) 0 (bQt _) (by refine⟨_,_,_,rfl,?_,?_,?_,?_,⟨bv,h⟩,dR.refl _ _ _ _,by rw[bSm]⟩<;>simp only[go_sem]) ?_
  rintro k st hk ⟨fr,en2,cnt2,rfl,k0,k10,k11,k12,⟨bv2,t2⟩,K2,hR⟩
  simp only[go_sem,kK,k11,k12]
  refine aH (fun hq2=>?_) (fun hq2=>?_)
  ·have h':k<n.pats.length:=D_o hq2;have ht2:=t2.t;have y1:=t2.okt.set;have y2:=t2.okr.set;rw[aCq h']at hR;simp only[go_sem,kK,k0,k10,k12,h',ht2,y1,aP hv0];have hpk:=hpf _ (bQr h');have u3: ∀t,cnt2 0 t<=aC (aC cnt2 0 4 (cnt2 0 4+1)) 0 5 (cnt2 0 5+1) 0 t:=(by(repeat refine upS ?_ (by omega));exact aM _)
   obtain⟨⟨bv3,t3⟩,k3⟩:=t2.stay (cnt':=aC (aC cnt2 0 4 (cnt2 0 4+1)) 0 5 (cnt2 0 5+1)) (en':=((en2.set ⟨0,4,cnt2 0 4⟩ (some (.box [.i 0,.i 0,.str ⟨#[]⟩,.cl []] false))).set ⟨0,4,cnt2 0 4⟩ (some (.box [.i n.pats[k].form,.i n.pats[k].n,.str n.pats[k].text,.fz (n.pats[k].parts.map Pat.enc)] false))).set ⟨0,5,cnt2 0 5⟩ (some (.box [.cl []] false))) (fun k hk=>by simp only[hk.set]) u3
   refine(aS1 P0.hF p.cons n.pats[k] hpk.1 hpk.2 (aE f.vals 0) hu (kl:=⟨0,5,cnt2 0 5⟩) (ko:=none) (xs:=[]) t3 ⟨⟨rfl,by simp[aC]⟩,.inl ⟨rfl,rfl,cC⟩⟩ (by have:=hpk.2;simp only[bQz];omega)).mono ?_
   rintro r e5 c5 ⟨rfl,F5⟩
   obtain⟨bv5,t5⟩:=F5.ts;have K5:dR kt kr en cnt e5 c5:=K2.trans ⟨fun x hx y1 y2=>by rw[F5.old x (hx.up u3) y1 y2 hx.ne (by simp),hx.set,hx.set,hx.set],fun t=>bQv (u3 t) (F5.up t)⟩
   cases hx:fJ w n.pats[k] (aE f.vals 0)with
   |none=>
    rw[hx]at hR;simp only[go_sem,bSr,k12,aR h' (show Few n.pats.length by unfold Few;omega)]
    refine⟨_,_,_,rfl,?_⟩
    simp only[go_sem,k0,k10,k11];exact⟨⟨bv5,t5⟩,K5,hR⟩
   |some l=>
    rw[hx]at hR
    simp only at hR
    rw[hR0]at hR;obtain⟨ko5,⟨_,hv5⟩,hk5⟩:=F5.acc l hx;rw[bRo]at hv5;have ht5:=t5.t;simp only[go_sem,kK,bSi];have hwk:IntKind.i64.wrap ((k:Int)+1)=((k+1:Nat):Int):=by rw[aV (by omega)];omega
    unfold iT at hR
    by_cases hc:30<(f.env++l).length
    ·rw[if_pos hc]at hR;cases hR
    ·rw[if_neg hc]at hR;simp only[bQ2]at hc;unfold pL at hR;have hW:=aE2 f.env l (by omega)
     by_cases hc2:40<(left++[(⟨n.kids.getD (1+k) 0,f.env++l,[]⟩:aB)]).length
     ·rw[if_pos hc2]at hR;cases hR
     ·rw[if_neg hc2,OpR.go.injEq]at hR;obtain⟨rfl,rfl,rfl,rfl⟩:=hR;simp only[bQ2,bQu,bQz]at hc2;have hG:=xQ t5 (i:=k+1) (env:=f.env++l) (by omega) (.inl rfl) (by omega)
      rcases hv5 with⟨_,z2,z3⟩|⟨t,g,b,z1,z2,z3,z4⟩
      ·subst z2;rw[bRk]at hW hG;simp only[bQ1]at hW
       refine jG ?_
       simp only[go_sem,k0,ht5,z3,hW.ret,hwk,kF]
       refine hG.mono ?_
       rintro v e7 c7 ⟨rfl,t7,k7⟩
       try simp only[go_sem,kK]
       exact⟨rfl,by rw[Nat.add_comm 1 k];exact t7,K5.trans k7⟩
      ·have hr5:=t5.r;have bt:(⟨0,t,g⟩:Key)≠kt:=by rintro rfl;rw[ht5]at z3;cases z3
       have br:(⟨0,t,g⟩:Key)≠kr:=by rintro rfl;rw[hr5]at z3;cases z3
       have t6:TS kt kr (e5.set ⟨0,t,g⟩ (some (.blk 2 (l.map aD.enc) true))) c5 p w a left f n [] bv5:=t5.to (aI bt.symm) (aI br.symm) (aM _);have K6:dR kt kr en cnt (e5.set ⟨0,t,g⟩ (some (.blk 2 (l.map aD.enc) true))) c5:=⟨fun x hxo y1 y2=>by
        have hne:x≠⟨0,t,g⟩:=by
         rintro rfl
         rcases hk5 with hk5|hk5
         ·rw[z1]at hk5;cases hk5
         ·exact hk5 _ z1 (hxo.up fun t=>bQv (K2.up t) (u3 t))
        rw[aI hne];exact K5.old x hxo y1 y2,K5.up⟩
       have hG:=xQ t6 (i:=k+1) (env:=f.env++l) (by omega) (.inl rfl) (by omega)
       refine jG ?_
       simp only[go_sem,k0,ht5,z4,z3,hW.ret,hwk,bQl,bSm,bQ3,bQk,bRg,kF]
       refine hG.mono ?_
       rintro v e7 c7 ⟨rfl,t7,k7⟩
       try simp only[go_sem,kK]
       exact⟨rfl,by rw[Nat.add_comm 1 k];exact t7,K6.trans k7⟩
  ·have:k=n.pats.length:=by simp at hq2;omega
   subst this;rw[bSh,dS]at hR;rw[hR0]at hR;cases hR
theorem uZ (xs:List Val)(h1:cT 3 xs=true)(hl:xs.length<=16777216):PC L 210 [.fz xs] (sI 3 xs):=by
 cases xs with
 |nil=>
  have hL:=at_ func210
  conv at hL=>rhs;reduce
  refine aJr hL rfl rfl (.inl rfl) (pW ?_) (pW ?_)
  ·simp only[go_sem,kK,wO];rfl
  ·simp only[go_sem,kK,wO]
   refine rV (b:=false) (by simp only[go_sem]) (by simp only[go_sem]) ?_
   simp only[go_sem];rfl
 |cons x xs=>
  refine pcA func210 ?_
  simp only[go_sem,kK,aEu]
  refine qF (by simp only[go_sem]) (by simp only[go_sem]) h1 hl ?_
  simp only[go_sem];rfl
theorem aDj (h:TS kt kr en cnt p w a left f n back bv){o:aN}{t:Nat}{b:Bool}(hb:en ⟨0,t,g⟩=some (.blk 3 (o.frames.map aB.enc) b))(hg:g<cnt 0 t)(hV:iZ V (o.vals.map aD.enc))(hc:w.objs.length<120):
  WIn L (.fn 308 [] []) [.ptr kt 0,.agg [.i o.form,.i o.n,V,.bl ⟨0,t,g⟩ 0 o.frames.length]] en cnt fun r en' cnt'=>r= .agg [.i (dK w.objs.length).kind,.i (dK w.objs.length).n]/\ (∃bv',TS kt kr en' cnt' p (dU w o) a left f n back bv')/\
   (∀k,Old k cnt->k≠kt->k≠kr->k≠⟨0,t,g⟩->en' k=en k)/\ ∀t,cnt 0 t<=cnt' 0 t:=by
 have s1:=h.okt.set;have s2:=h.okr.set;have n1:=h.okt.new;have n2:=h.okr.new;have hn:=h.ne;have ht:=h.t;have hr:=h.r;have m1:=h.okt.eqF;have m2:=h.okr.eqF;have o1:=h.okt.eqF';have o2:=h.okr.eqF';have x1: ∀(en:En) (e:Option Ent),En.set en kt e kr=en kr:=fun _ _=>aI hn;have x2: ∀(en:En) (e:Option Ent),En.set en kr e kt=en kt:=fun _ _=>aI hn.symm
 have d:decide ((w.objs.length:Int)<120)=true:=D_t (by omega)
 have hl:w.objs.length+1<=16777216:=by omega
 have hw:IntKind.i64.wrap (((w.objs.length+1:Nat):Int)-1)=(w.objs.length:Int):=by rw[aV (by omega)];omega
 have hA:w.objs.map aN.enc++[.agg [.i o.form,.i o.n,.fz (o.vals.map aD.enc),.fz (o.frames.map aB.enc)]]=(dU w o).objs.map aN.enc:=by simp[dU,aN.enc]
 have hAl:w.objs.length+1=((dU w o).objs.map aN.enc).length:=by simp[dU]
 have hT:List.take o.frames.length (o.frames.map aB.enc)=o.frames.map aB.enc:=by rw[bQ3 (by simp)]
 have hob:Old ⟨0,t,g⟩ cnt:=⟨rfl,hg⟩;have b1:=hob.set;have b0:=hob.new;have bF:=hob.eqF;have bF':=hob.eqF';have q1:(⟨0,t,g⟩:Key)≠kr:=by rintro rfl;rw[hr]at hb;cases hb
 have q2:(⟨0,t,g⟩:Key)≠kt:=by rintro rfl;rw[ht]at hb;cases hb
 have b2: ∀(en:En) (e:Option Ent),En.set en kr e ⟨0,t,g⟩=en ⟨0,t,g⟩:=fun _ _=>aI q1
 have b4: ∀(en:En) (e:Option Ent),En.set en ⟨0,t,g⟩ e kr=en kr:=fun _ _=>aI q1.symm
 have b5: ∀(en:En) (e:Option Ent),En.set en ⟨0,t,g⟩ e kt=en kt:=fun _ _=>aI q2.symm
 have hL:=at_ func308
 conv at hL=>rhs;reduce
 refine rL hL rfl rfl ?_
 simp only[go_sem,kK]
 refine bR ?_
 simp only[go_sem,ht,hr,s1,s2,bQl,d,(gX _).ret]
 refine aG ?_
 rcases hV with rfl|rfl<;>
 (simp only[go_sem,ht,hr,s1,s2,n2,m1,x2,kB,b0,b1,b4,b5,hb,bQl,(aHp _).ret,bP,eB,uS,zB,aWg,hl,rX,hw,hA,bQk,W.apply,Ent.freeze,hT,kA,kF]
  have hu: ∀t,cnt 0 t<=aC (aC (aC cnt 0 3 (cnt 0 3+1)) 0 4 (cnt 0 4+1)) 0 31 (cnt 0 31+1) 0 t:=(by(repeat refine upS ?_ (by omega));exact aM _)
  rw[aU2 (K1:=[⟨0,31,cnt 0 31⟩]) (K2:=[]) (K3:=[]) (K4:=[]) (os:=(dU w o).objs.map aN.enc) (by simp only[s1,b5,x2];exact ht) (by simp only[s2,cC];rfl) (sX (by simp only[go_sem,n2];rfl) hAl) rfl rfl rfl (by simp[o2])]
  refine⟨rfl,⟨bv,h.okt.up hu,h.okr.up hu,hn,h.ob,?_,cC⟩,fun k hk k1 k2 k3=>?_,hu⟩
  ·rw[x2,vX h.okt (aB0 31)];simp only[s1,b5,x2];exact ht
  ·rw[aI k2,vX hk (aB0 31),hk.set,aI k2,hk.set,aI k3,hk.set,hk.set])
theorem wR (hk:k<=xs.length):jY false size en (.fz xs) none (some (.i (k:Int))) none=some {v:= .fz (xs.take k)}:=by
 simp[jY,tE hk,uH]
theorem aP3 (h1:cT size xs=true)(hk:k<=xs.length):jY false size en (.fz xs) (some (.i (k:Int))) none none=some {v:= .fz (xs.drop k)}:=by
 simp[jY,tE hk,uH,h1]
theorem aLi : ∀{j k:Nat},fP p left j=k+1->k<j/\ (p.node (left.getD k default).node).op=26
 |0,k,h=>by cases h
 |j+1,k,h=>by
  rw[pD]at h
  split at h
  ·rename_i h2
   obtain rfl:j=k:=by omega
   exact⟨by omega,h2⟩
  ·have:=aLi h;exact⟨by omega,this.2⟩
noncomputable def aMl :{c//L 269=some c}:=cA func269
theorem bEp (P0:Pre p w0 S w a left f n)(h:TS kt kr en cnt p w a left f n [] bv)(hop:n.op=27):qU 269 kt kr en cnt p w a left f n (opR p w a left f n):=by
 have e:opR p w a left f n=(match fP p left left.length with
  |0=> .fail 3
  |k+1=>iB w ⟨5,0,[],left.drop k⟩ fun w' v=>iT w' (left.take (k+1)) (oN n 0) (f.env++[v])):=by unfold opR;rw[hop];rfl
 rw[e];have hk:=P0.kids;simp[fD,hop]at hk;have h30:=P0.env30;have h40:=P0.left40;have h120:=P0.objs;have H:=h.pre;have ht:=h.t;have hr:=h.r;have hwl:IntKind.i64.wrap ((left.length:Int)-1)=(left.length:Int)-1:=aV (by omega)
 cases hR:fP p left left.length with
 |zero=>
  simp only
  refine jL aMl.2 rfl rfl ?_
  simp only[go_sem,kK,aMl,ht,bQl,hwl]
  refine Go.Abs.wp_loop (fun(k:Nat) st=> ∃fr,st=⟨fr,en,cnt⟩/\ fr 0= .ptr kt 0/\ fr 3= .i ((k:Int)-1)/\ k<=left.length/\ fP p left k=fP p left left.length) (fun k=>k) left.length ⟨_,rfl,by simp only[go_sem],by simp only[go_sem],bQk _,rfl⟩ ?_
  rintro k st ⟨fr,rfl,k0,k3,hkl,hRk⟩
  rw[hR]at hRk;cases k with
  |zero=>
   have k3':fr 3= .i (-1):=by simpa using k3
   simp only[go_sem,kK,k3']
   refine cO 2 rfl ?_
   simp only[go_sem,bQs,bQq,k3',(kE _).ret];exact h.fell0 (fun _ _=>rfl) (aM _)
  |succ k=>
   have k3':fr 3= .i (k:Int):=by rw[k3];congr 1;omega
   have h':k<left.length:=by omega
   have d0:decide ((0:Int)<=(k:Int))=true:=D_t (by omega)
   have hfk:=P0.hl.ok _ (bQr h');have hgd:left.getD k default=left[k]:=by simp[bQn,h']
   have hwk:IntKind.i64.wrap ((k:Int)-1)=(k:Int)-1:=aV (by omega)
   rw[pD,hgd]at hRk
   split at hRk
   ·cases hRk
   rename_i h26;have d26:decide ((p.node left[k].node).op=26)=false:=D_f h26;simp only[go_sem,kK,k0,k3',ht,hr,h',d0,bH (fK hfk),d26,hwk];exact⟨k,⟨_,rfl,by simp only[go_sem,k0],by simp only[go_sem],by omega,by rw[hR];exact hRk⟩,by omega⟩
 |succ k=>
  simp only
  obtain⟨hk1,hk2⟩:=aLi hR;have hne:(left.drop k).map aB.enc≠[]:=by
   intro he;have h0:=congrArg List.length he
   simp at h0
   omega
  have hC:=uZ ((left.drop k).map aB.enc) (jB _) (by simp;omega)
  rw[pK hne,bTh]at hC;have hsl:=fun en=>aP3 (size:=3) (xs:=left.map aB.enc) (en:=en) (k:=k) (jB _) (by rw[bQl];omega)
  have hsh:=fun en=>wR (size:=3) (xs:=left.map aB.enc) (en:=en) (k:=k+1) (by rw[bQl];omega)
  have hl5:(List.drop k (left.map aB.enc)).length=(left.drop k).length:=by simp
  have hwk1:IntKind.i64.wrap ((k:Int)+1)=((k+1:Nat):Int):=by rw[aV (by omega)];omega
  obtain⟨⟨bv1,h1⟩,kk1⟩:=h.stay (cnt':=aC cnt 0 47 (cnt 0 47+1)) (en':=en.set ⟨0,47,cnt 0 47⟩ (some (.blk 3 (List.drop k (left.map aB.enc)) false))) (fun k hk=>by simp only[hk.set]) (by(repeat refine upS ?_ (by omega));exact aM _)
  unfold iB
  by_cases h20:120<=w.objs.length
  ·rw[if_pos h20]
   refine jL aMl.2 rfl rfl ?_
   simp only[go_sem,kK,aMl,ht,bQl,hwl]
   refine Go.Abs.wp_loop (fun(k:Nat) st=> ∃fr,st=⟨fr,en,cnt⟩/\ fr 0= .ptr kt 0/\ fr 3= .i ((k:Int)-1)/\ k<=left.length/\ fP p left k=fP p left left.length) (fun k=>k) left.length ⟨_,rfl,by simp only[go_sem],by simp only[go_sem],bQk _,rfl⟩ ?_
   rintro j st ⟨fr,rfl,k0,k3,hjl,hRj⟩
   cases j with
   |zero=>rw[hR]at hRj;cases hRj
   |succ j=>
    have k3':fr 3= .i (j:Int):=by rw[k3];congr 1;omega
    have h':j<left.length:=by omega
    have d0:decide ((0:Int)<=(j:Int))=true:=D_t (by omega)
    have hfk:=P0.hl.ok _ (bQr h');have hgd:left.getD j default=left[j]:=by simp[bQn,h']
    have hwk:IntKind.i64.wrap ((j:Int)-1)=(j:Int)-1:=aV (by omega)
    rw[pD,hgd]at hRj
    by_cases h26:(p.node left[j].node).op=26
    ·rw[if_pos h26,hR]at hRj
     obtain rfl:j=k:=by omega
     have d26:decide ((p.node left[j].node).op=26)=true:=D_t h26;simp only[go_sem,kK,k0,k3',ht,hr,h',d0,bH (fK hfk),d26]
     refine bR ?_
     simp only[go_sem,k3',d0,(gX _).ret]
     refine cO 9 rfl ?_
     simp only[go_sem,bQs,bQq,kB,k0,k3',ht,hsl,hC.ret,hl5,bRc];exact(oZ h1 (o:=⟨5,0,[],left.drop j⟩) (by omega) (by omega)).mono fun _ _ _=>oY.then kk1
    ·rw[if_neg h26]at hRj;have d26:decide ((p.node left[j].node).op=26)=false:=D_f h26;simp only[go_sem,kK,k0,k3',ht,hr,h',d0,bH (fK hfk),d26,hwk];exact⟨j,⟨_,rfl,by simp only[go_sem,k0],by simp only[go_sem],by omega,hRj⟩,by omega⟩
  ·rw[if_neg h20];unfold iT;show qU _ _ _ _ _ _ _ _ _ _ _ (if 30<(f.env++[dK w.objs.length]).length then OpR.fail 4 else pL (dU w ⟨5,0,[],left.drop k⟩) (left.take (k+1)) [⟨oN n 0,f.env++[dK w.objs.length],[]⟩])
   by_cases hc:30<(f.env++[dK w.objs.length]).length
   ·rw[if_pos hc];simp only[bQ2,bQu,bQz]at hc;have hW:PX L 311 [.fz (f.env.map aD.enc),.fz [.agg [.i (dK w.objs.length).kind,.i (dK w.objs.length).n]]] (aEx 4):=aIl f.env [dK w.objs.length] (by simpa using hc) (by simp only[bQu,bQz];omega)
    refine jL aMl.2 rfl rfl ?_
    simp only[go_sem,kK,aMl,ht,bQl,hwl]
    refine Go.Abs.wp_loop (fun(k:Nat) st=> ∃fr,st=⟨fr,en,cnt⟩/\ fr 0= .ptr kt 0/\ fr 3= .i ((k:Int)-1)/\ k<=left.length/\ fP p left k=fP p left left.length) (fun k=>k) left.length ⟨_,rfl,by simp only[go_sem],by simp only[go_sem],bQk _,rfl⟩ ?_
    rintro j st ⟨fr,rfl,k0,k3,hjl,hRj⟩
    cases j with
    |zero=>rw[hR]at hRj;cases hRj
    |succ j=>
     have k3':fr 3= .i (j:Int):=by rw[k3];congr 1;omega
     have h':j<left.length:=by omega
     have d0:decide ((0:Int)<=(j:Int))=true:=D_t (by omega)
     have hfk:=P0.hl.ok _ (bQr h');have hgd:left.getD j default=left[j]:=by simp[bQn,h']
     have hwk:IntKind.i64.wrap ((j:Int)-1)=(j:Int)-1:=aV (by omega)
     rw[pD,hgd]at hRj
     by_cases h26:(p.node left[j].node).op=26
     ·rw[if_pos h26,hR]at hRj
      obtain rfl:j=k:=by omega
      have d26:decide ((p.node left[j].node).op=26)=true:=D_t h26;simp only[go_sem,kK,k0,k3',ht,hr,h',d0,bH (fK hfk),d26]
      refine bR ?_
      simp only[go_sem,k3',d0,(gX _).ret]
      refine bR ?_
      simp only[go_sem,kB,k0,k3',ht,hsl,hC.ret,hl5,bRc]
      refine(aDj h1 (o:=⟨5,0,[],left.drop j⟩) (t:=47) (g:=cnt 0 47) (b:=false) (by rw[cC,bTh]) (by simp[aC]) (.inr rfl) (by omega)).mono ?_
      rintro v e2 c2 ⟨rfl,⟨bv2,t2⟩,old2,up2⟩
      have ht2:=t2.t;have hr2:=t2.r;have y1:=t2.okt.set;have y2:=t2.okr.set;have y3:=t2.okt.eqF;have y4:=t2.okt.eqF';have y7:=t2.okt.new;simp only[go_sem,k0];simp only[go_sem,k3',ht2,y1,hwk1,hsh];have t3:TS kt kr (((e2.set ⟨0,4,c2 0 4⟩ (some (.box [.i 0,.i 0] false))).set ⟨0,4,c2 0 4⟩ (some (.box [.i (dK w.objs.length).kind,.i (dK w.objs.length).n] false))).set kt (some (.box [.ptr kr 0,.i a,.fz ((left.map aB.enc).take (j+1)),.i f.node,.fz (f.env.map aD.enc),.fz (f.vals.map aD.enc),.i n.op,.i n.n,.is n.kids,.fz (n.pats.map Pat.enc),bv2] false))) (aC c2 0 4 (c2 0 4+1)) p (dU w ⟨5,0,[],left.drop j⟩) a (left.take (j+1)) f n [] bv2:=
       ⟨t2.okt.up (by(repeat refine upS ?_ (by omega));exact aM _),t2.okr.up (by(repeat refine upS ?_ (by omega));exact aM _),t2.ne,t2.ob,by rw[cC,bSc],by rw[aI t2.ne,y2,y2];exact hr2⟩
      have hu3: ∀t,cnt 0 t<=c2 0 t:=fun t=>bQv (((by(repeat refine upS ?_ (by omega));exact aM _): ∀t,cnt 0 t<=aC cnt 0 47 (cnt 0 47+1) 0 t) t) (up2 t)
      have k3:dR kt kr en cnt (((e2.set ⟨0,4,c2 0 4⟩ (some (.box [.i 0,.i 0] false))).set ⟨0,4,c2 0 4⟩ (some (.box [.i (dK w.objs.length).kind,.i (dK w.objs.length).n] false))).set kt (some (.box [.ptr kr 0,.i a,.fz ((left.map aB.enc).take (j+1)),.i f.node,.fz (f.env.map aD.enc),.fz (f.vals.map aD.enc),.i n.op,.i n.n,.is n.kids,.fz (n.pats.map Pat.enc),bv2] false))) (aC c2 0 4 (c2 0 4+1)):=
       ⟨fun k hk q1 q2=>by rw[aI q1,(hk.up hu3).set,(hk.up hu3).set,old2 k (hk.up (by(repeat refine upS ?_ (by omega));exact aM _)) q1 q2 hk.ne,hk.set],fun t=>bQv (hu3 t) (((by(repeat refine upS ?_ (by omega));exact aM _): ∀t,c2 0 t<=aC c2 0 4 (c2 0 4+1) 0 t) t)⟩
      refine kR 8 rfl rfl ?_
      simp only[go_sem,bQs,bQq,bR0,bRz,rD,k0,y7,hW.ret,kA,kF];exact⟨rfl,oY.then k3 (t3.fell0 (fun _ _=>rfl) (aM _))⟩
     ·rw[if_neg h26]at hRj;have d26:decide ((p.node left[j].node).op=26)=false:=D_f h26;simp only[go_sem,kK,k0,k3',ht,hr,h',d0,bH (fK hfk),d26,hwk];exact⟨j,⟨_,rfl,by simp only[go_sem,k0],by simp only[go_sem],by omega,hRj⟩,by omega⟩
   ·rw[if_neg hc];simp only[bQ2,bQu,bQz]at hc;have hW:PC L 311 [.fz (f.env.map aD.enc),.fz [.agg [.i (dK w.objs.length).kind,.i (dK w.objs.length).n]]] (.fz ((f.env++[dK w.objs.length]).map aD.enc)):=aE2 f.env [dK w.objs.length] (by simp only[bQu,bQz];omega)
    unfold pL
    by_cases hc2:40<(left.take (k+1)++[(⟨oN n 0,f.env++[dK w.objs.length],[]⟩:aB)]).length
    ·rw[if_pos hc2];simp only[bQ2,bQu,bQz,bR2]at hc2
     refine jL aMl.2 rfl rfl ?_
     simp only[go_sem,kK,aMl,ht,bQl,hwl]
     refine Go.Abs.wp_loop (fun(k:Nat) st=> ∃fr,st=⟨fr,en,cnt⟩/\ fr 0= .ptr kt 0/\ fr 3= .i ((k:Int)-1)/\ k<=left.length/\ fP p left k=fP p left left.length) (fun k=>k) left.length ⟨_,rfl,by simp only[go_sem],by simp only[go_sem],bQk _,rfl⟩ ?_
     rintro j st ⟨fr,rfl,k0,k3,hjl,hRj⟩
     cases j with
     |zero=>rw[hR]at hRj;cases hRj
     |succ j=>
      have k3':fr 3= .i (j:Int):=by rw[k3];congr 1;omega
      have h':j<left.length:=by omega
      have d0:decide ((0:Int)<=(j:Int))=true:=D_t (by omega)
      have hfk:=P0.hl.ok _ (bQr h');have hgd:left.getD j default=left[j]:=by simp[bQn,h']
      have hwk:IntKind.i64.wrap ((j:Int)-1)=(j:Int)-1:=aV (by omega)
      rw[pD,hgd]at hRj
      by_cases h26:(p.node left[j].node).op=26
      ·rw[if_pos h26,hR]at hRj
       obtain rfl:j=k:=by omega
       have d26:decide ((p.node left[j].node).op=26)=true:=D_t h26;simp only[go_sem,kK,k0,k3',ht,hr,h',d0,bH (fK hfk),d26]
       refine bR ?_
       simp only[go_sem,k3',d0,(gX _).ret]
       refine bR ?_
       simp only[go_sem,kB,k0,k3',ht,hsl,hC.ret,hl5,bRc]
       refine(aDj h1 (o:=⟨5,0,[],left.drop j⟩) (t:=47) (g:=cnt 0 47) (b:=false) (by rw[cC,bTh]) (by simp[aC]) (.inr rfl) (by omega)).mono ?_
       rintro v e2 c2 ⟨rfl,⟨bv2,t2⟩,old2,up2⟩
       have ht2:=t2.t;have hr2:=t2.r;have y1:=t2.okt.set;have y2:=t2.okr.set;have y3:=t2.okt.eqF;have y4:=t2.okt.eqF';have y7:=t2.okt.new;simp only[go_sem,k0];simp only[go_sem,k3',ht2,y1,hwk1,hsh];have t3:TS kt kr (((e2.set ⟨0,4,c2 0 4⟩ (some (.box [.i 0,.i 0] false))).set ⟨0,4,c2 0 4⟩ (some (.box [.i (dK w.objs.length).kind,.i (dK w.objs.length).n] false))).set kt (some (.box [.ptr kr 0,.i a,.fz ((left.map aB.enc).take (j+1)),.i f.node,.fz (f.env.map aD.enc),.fz (f.vals.map aD.enc),.i n.op,.i n.n,.is n.kids,.fz (n.pats.map Pat.enc),bv2] false))) (aC c2 0 4 (c2 0 4+1)) p (dU w ⟨5,0,[],left.drop j⟩) a (left.take (j+1)) f n [] bv2:=
        ⟨t2.okt.up (by(repeat refine upS ?_ (by omega));exact aM _),t2.okr.up (by(repeat refine upS ?_ (by omega));exact aM _),t2.ne,t2.ob,by rw[cC,bSc],by rw[aI t2.ne,y2,y2];exact hr2⟩
       have hu3: ∀t,cnt 0 t<=c2 0 t:=fun t=>bQv (((by(repeat refine upS ?_ (by omega));exact aM _): ∀t,cnt 0 t<=aC cnt 0 47 (cnt 0 47+1) 0 t) t) (up2 t)
       have k3:dR kt kr en cnt (((e2.set ⟨0,4,c2 0 4⟩ (some (.box [.i 0,.i 0] false))).set ⟨0,4,c2 0 4⟩ (some (.box [.i (dK w.objs.length).kind,.i (dK w.objs.length).n] false))).set kt (some (.box [.ptr kr 0,.i a,.fz ((left.map aB.enc).take (j+1)),.i f.node,.fz (f.env.map aD.enc),.fz (f.vals.map aD.enc),.i n.op,.i n.n,.is n.kids,.fz (n.pats.map Pat.enc),bv2] false))) (aC c2 0 4 (c2 0 4+1)):=
        ⟨fun k hk q1 q2=>by rw[aI q1,(hk.up hu3).set,(hk.up hu3).set,old2 k (hk.up (by(repeat refine upS ?_ (by omega));exact aM _)) q1 q2 hk.ne,hk.set],fun t=>bQv (hu3 t) (((by(repeat refine upS ?_ (by omega));exact aM _): ∀t,c2 0 t<=aC c2 0 4 (c2 0 4+1) 0 t) t)⟩
       refine kR 9 rfl rfl ?_
       simp only[go_sem,bQs,bQq,bR0,bRz,rD,k0,y7,hW.ret,kA,kF];exact⟨rfl,(xR t3 (i:=0) (env:=f.env++[dK w.objs.length]) (by omega) (.inl rfl) (by rw[bR2];omega)).mono fun _ _ _=>oY.then k3⟩
      ·rw[if_neg h26]at hRj;have d26:decide ((p.node left[j].node).op=26)=false:=D_f h26;simp only[go_sem,kK,k0,k3',ht,hr,h',d0,bH (fK hfk),d26,hwk];exact⟨j,⟨_,rfl,by simp only[go_sem,k0],by simp only[go_sem],by omega,hRj⟩,by omega⟩
    ·rw[if_neg hc2];simp only[bQ2,bQu,bQz,bR2]at hc2
     refine fR aMl.2 rfl rfl ?_
     simp only[go_sem,kK,aMl,ht,bQl,hwl]
     refine Go.Abs.wp_loop (fun(k:Nat) st=> ∃fr,st=⟨fr,en,cnt⟩/\ fr 0= .ptr kt 0/\ fr 3= .i ((k:Int)-1)/\ k<=left.length/\ fP p left k=fP p left left.length) (fun k=>k) left.length ⟨_,rfl,by simp only[go_sem],by simp only[go_sem],bQk _,rfl⟩ ?_
     rintro j st ⟨fr,rfl,k0,k3,hjl,hRj⟩
     cases j with
     |zero=>rw[hR]at hRj;cases hRj
     |succ j=>
      have k3':fr 3= .i (j:Int):=by rw[k3];congr 1;omega
      have h':j<left.length:=by omega
      have d0:decide ((0:Int)<=(j:Int))=true:=D_t (by omega)
      have hfk:=P0.hl.ok _ (bQr h');have hgd:left.getD j default=left[j]:=by simp[bQn,h']
      have hwk:IntKind.i64.wrap ((j:Int)-1)=(j:Int)-1:=aV (by omega)
      rw[pD,hgd]at hRj
      by_cases h26:(p.node left[j].node).op=26
      ·rw[if_pos h26,hR]at hRj
       obtain rfl:j=k:=by omega
       have d26:decide ((p.node left[j].node).op=26)=true:=D_t h26;simp only[go_sem,kK,k0,k3',ht,hr,h',d0,bH (fK hfk),d26]
       refine bR ?_
       simp only[go_sem,k3',d0,(gX _).ret]
       refine bR ?_
       simp only[go_sem,kB,k0,k3',ht,hsl,hC.ret,hl5,bRc]
       refine(aDj h1 (o:=⟨5,0,[],left.drop j⟩) (t:=47) (g:=cnt 0 47) (b:=false) (by rw[cC,bTh]) (by simp[aC]) (.inr rfl) (by omega)).mono ?_
       rintro v e2 c2 ⟨rfl,⟨bv2,t2⟩,old2,up2⟩
       have ht2:=t2.t;have hr2:=t2.r;have y1:=t2.okt.set;have y2:=t2.okr.set;have y3:=t2.okt.eqF;have y4:=t2.okt.eqF';have y7:=t2.okt.new;simp only[go_sem,k0];simp only[go_sem,k3',ht2,y1,hwk1,hsh];have t3:TS kt kr (((e2.set ⟨0,4,c2 0 4⟩ (some (.box [.i 0,.i 0] false))).set ⟨0,4,c2 0 4⟩ (some (.box [.i (dK w.objs.length).kind,.i (dK w.objs.length).n] false))).set kt (some (.box [.ptr kr 0,.i a,.fz ((left.map aB.enc).take (j+1)),.i f.node,.fz (f.env.map aD.enc),.fz (f.vals.map aD.enc),.i n.op,.i n.n,.is n.kids,.fz (n.pats.map Pat.enc),bv2] false))) (aC c2 0 4 (c2 0 4+1)) p (dU w ⟨5,0,[],left.drop j⟩) a (left.take (j+1)) f n [] bv2:=
        ⟨t2.okt.up (by(repeat refine upS ?_ (by omega));exact aM _),t2.okr.up (by(repeat refine upS ?_ (by omega));exact aM _),t2.ne,t2.ob,by rw[cC,bSc],by rw[aI t2.ne,y2,y2];exact hr2⟩
       have hu3: ∀t,cnt 0 t<=c2 0 t:=fun t=>bQv (((by(repeat refine upS ?_ (by omega));exact aM _): ∀t,cnt 0 t<=aC cnt 0 47 (cnt 0 47+1) 0 t) t) (up2 t)
       have k3:dR kt kr en cnt (((e2.set ⟨0,4,c2 0 4⟩ (some (.box [.i 0,.i 0] false))).set ⟨0,4,c2 0 4⟩ (some (.box [.i (dK w.objs.length).kind,.i (dK w.objs.length).n] false))).set kt (some (.box [.ptr kr 0,.i a,.fz ((left.map aB.enc).take (j+1)),.i f.node,.fz (f.env.map aD.enc),.fz (f.vals.map aD.enc),.i n.op,.i n.n,.is n.kids,.fz (n.pats.map Pat.enc),bv2] false))) (aC c2 0 4 (c2 0 4+1)):=
        ⟨fun k hk q1 q2=>by rw[aI q1,(hk.up hu3).set,(hk.up hu3).set,old2 k (hk.up (by(repeat refine upS ?_ (by omega));exact aM _)) q1 q2 hk.ne,hk.set],fun t=>bQv (hu3 t) (((by(repeat refine upS ?_ (by omega));exact aM _): ∀t,c2 0 t<=aC c2 0 4 (c2 0 4+1) 0 t) t)⟩
       refine jG ?_
       simp only[go_sem,k0,y7,hW.ret,kA,kF]
       refine(xQ t3 (i:=0) (env:=f.env++[dK w.objs.length]) (by omega) (.inl rfl) (by rw[bR2];omega)).mono ?_
       rintro v e5 c5 ⟨rfl,t5,k5⟩
       exact⟨rfl,t5,k3.trans k5⟩
      ·rw[if_neg h26]at hRj;have d26:decide ((p.node left[j].node).op=26)=false:=D_f h26;simp only[go_sem,kK,k0,k3',ht,hr,h',d0,bH (fK hfk),d26,hwk];exact⟨j,⟨_,rfl,by simp only[go_sem,k0],by simp only[go_sem],by omega,hRj⟩,by omega⟩
theorem aLj (hb:eF p w u v=some b):b.vals=[]:=by
 unfold eF at hb
 split at hb
 ·simp only[bQi]at hb;subst hb;rfl
 ·split at hb
  ·simp only[bQi]at hb;subst hb;rfl
  ·cases hb
theorem kO {an:List (List Nat)}{A:Nat}{k:Key}{rs:List Res}(j:Nat){v:Val}{m:En×(Nat->Nat->Nat)}{u:Key->Bool}(hj:rs[j]?=some {v:=v,mem:=some m,unch:=u})(hu:u k=true)(h:oR an A k (rs.set j rD)=true):oR an A k rs=true:=by
 unfold oR at h⊢;rw[bSb]at h
 refine bQp.2 fun i hi=>?_
 have:=bQp.1 h i hi
 by_cases hij:j=i
 ·subst hij;rw[hj];simp only[aOc,hu,bSj]
 ·rw[bTx hij]at this;exact this
noncomputable def aH8 :{c//L 250=some c}:=cA func250
theorem bH8 (P0:Pre p w0 S w a left f n)(h:TS kt kr en cnt p w a left f n [] bv)(hop:n.op=6):qU 250 kt kr en cnt p w a left f n (opR p w a left f n):=by
 have e:opR p w a left f n=(match eF p w (aE f.vals 0) (aE f.vals 1)with
  |some b=>iT w left b.node b.env
  |none=>if bY w (aE f.vals 0) 5=true then(if 40<(left++(w.obj (aE f.vals 0).n).frames).length then .fail 4 else .go none w (left++(w.obj (aE f.vals 0).n).frames) [aE f.vals 1])else .fail 2):=by unfold opR;rw[hop];rfl
 rw[e];have hfull:=P0.full;simp[aK.asks,hop]at hfull;have hv0:0<f.vals.length:=by omega
 have hv1:1<f.vals.length:=by omega
 have hu:=P0.val hv0;have h40:=P0.left40;have H:=h.pre;have ht:=h.t;obtain⟨⟨bv1,h1⟩,k1⟩:=h.stay (cnt':=aC cnt 0 3 (cnt 0 3+1)) (en':=en.set ⟨0,3,cnt 0 3⟩ (some (.box [.i 0,.cl [],.cl []] false))) (fun k hk=>by simp only[hk.set]) (by(repeat refine upS ?_ (by omega));exact aM _)
 cases hb:eF p w (aE f.vals 0) (aE f.vals 1)with
 |some b=>
  simp only
  have hbv:=aLj hb;unfold iT
  by_cases hc:30<b.env.length
  ·rw[if_pos hc]
   refine jL aH8.2 rfl rfl ?_
   simp only[go_sem,kK,aH8]
   refine aRr rfl 15 rfl rfl ?_
   simp only[go_sem,bQs,bQq,bR0,bRz,rD,bSl,bSk,ht,H,aP hv0,fZ hv1,kA,kF];exact⟨rfl,(aLg h1 P0.hp P0.hF hu hb hc).mono fun _ _ _=>oY.then k1⟩
  ·rw[if_neg hc];have hC:=aLf h1 P0.hp P0.hF hu hb (by omega)
   unfold pL
   by_cases hc2:40<(left++[(⟨b.node,b.env,[]⟩:aB)]).length
   ·rw[if_pos hc2];simp only[bQ2,bQu,bQz]at hc2
    refine jL aH8.2 rfl rfl ?_
    simp only[go_sem,kK,aH8]
    refine oK rfl ?_
    simp only[go_sem,bSl,bSk,ht,H,aP hv0,fZ hv1,kA]
    refine hC.mono ?_
    rintro v e1 c1 ⟨⟨ev,hev,_,rfl⟩,⟨bv2,t2⟩,k2⟩
    obtain⟨p3,q3⟩:=k2.loc (d:=3) (g:=cnt 0 3) (by simp only[go_sem];omega) h.okt.ne.symm h.okr.ne.symm
    simp only[go_sem]at p3;simp only[go_sem,kK,p3,kA,kF]
    refine⟨rfl,kO 15 rfl (by simp only[p3,cC];rfl) rfl,?_⟩
    obtain⟨⟨bv3,t3⟩,k3⟩:=h.fin t2 (k1.trans k2) (cnt2:=c1) (en2:=e1.set ⟨0,3,cnt 0 3⟩ (some (.box [.i b.node,ev,.cl []] false))) (fun k hk _=>by simp only[hk.set]) (aM _)
    refine cO 3 rfl ?_
    rcases hev with rfl|rfl<;>
    (simp only[go_sem,bQs,bQq,bR0,bRz]
     exact(aKw t3 (l:=[⟨b.node,b.env,[]⟩]) (.inr rfl) (by simp only[bQu,bQz];omega) (by simp only[bQu,bQz];omega)).mono fun _ _ _=>oY.then k3)
   ·rw[if_neg hc2];simp only[bQ2,bQu,bQz]at hc2
    refine fR aH8.2 rfl rfl ?_
    simp only[go_sem,kK,aH8]
    refine oK rfl ?_
    simp only[go_sem,bSl,bSk,ht,H,aP hv0,fZ hv1,kA]
    refine hC.mono ?_
    rintro v e1 c1 ⟨⟨ev,hev,_,rfl⟩,⟨bv2,t2⟩,k2⟩
    obtain⟨p3,q3⟩:=k2.loc (d:=3) (g:=cnt 0 3) (by simp only[go_sem];omega) h.okt.ne.symm h.okr.ne.symm
    simp only[go_sem]at p3;simp only[go_sem,kK,p3,kA,kF]
    refine⟨rfl,kO 15 rfl (by simp only[p3,cC];rfl) rfl,?_⟩
    obtain⟨⟨bv3,t3⟩,k3⟩:=h.fin t2 (k1.trans k2) (cnt2:=c1) (en2:=e1.set ⟨0,3,cnt 0 3⟩ (some (.box [.i b.node,ev,.cl []] false))) (fun k hk _=>by simp only[hk.set]) (aM _)
    refine bR ?_
    rcases hev with rfl|rfl<;>
    (simp only[go_sem]
     refine(aE1 t3 (l:=[⟨b.node,b.env,[]⟩]) (.inr rfl) (by simp only[bQu,bQz];omega)).mono ?_
     rintro v e4 c4 ⟨_,t4,k4⟩
     exact⟨rfl,t4,k3.trans k4⟩)
 |none=>
  simp only
  have hC:=aHu h1 hu hb
  by_cases hI:bY w (aE f.vals 0) 5=true
  ·rw[if_pos hI];have hW:=fun e1 c1 bv2 (t2:TS kt kr e1 c1 p w a left f n [] bv2)=>uT t2 (fQ hu) 5 hI
   obtain⟨a1,a2,a3,a4⟩:=eZ P0.hF hu hI;have hfl:=(aE8 P0.hsp (aB2 a2.ok).2).1;generalize w.obj (aE f.vals 0).n=o at a2 a3 hW hfl⊢
   by_cases hc2:40<(left++o.frames).length
   ·rw[if_pos hc2];simp only[bQ2]at hc2
    refine jL aH8.2 rfl rfl ?_
    simp only[go_sem,kK,aH8]
    refine oK rfl ?_
    simp only[go_sem,bSl,bSk,ht,H,aP hv0,fZ hv1,kA]
    refine hC.mono ?_
    rintro v e1 c1 ⟨⟨xx,rfl,rfl⟩,⟨bv2,t2⟩,k2⟩
    obtain⟨p3,q3⟩:=k2.loc (d:=3) (g:=cnt 0 3) (by simp only[go_sem];omega) h.okt.ne.symm h.okr.ne.symm
    simp only[go_sem]at p3;simp only[go_sem,kK,p3,kA,kF]
    refine⟨rfl,kO 15 rfl (by simp only[p3,cC];rfl) rfl,?_⟩
    obtain⟨⟨bv3,t3⟩,k3⟩:=h.fin t2 (k1.trans k2) (cnt2:=c1) (en2:=e1.set ⟨0,3,cnt 0 3⟩ (some (.box [.i 0,.cl [],.cl []] false))) (fun k hk _=>by simp only[hk.set]) (aM _)
    have ht2:=t2.t
    refine bR ?_
    simp only[go_sem,H,ht2,aP hv0]
    refine(hW _ _ _ t3).mono ?_
    rintro v e4 c4 ⟨rfl,⟨bv4,t4⟩,k4⟩
    simp only[go_sem]
    refine cO 3 rfl ?_
    simp only[go_sem,bQs,bQq];obtain⟨⟨bv5,t5⟩,k5⟩:=t3.fin t4 k4 (cnt2:=aC c4 0 5 (c4 0 5+1)) (en2:=(e4.set ⟨0,5,c4 0 5⟩ (some (.box [.i 0,.i 0,.cl [],.cl []] false))).set ⟨0,5,c4 0 5⟩ (some (.box [.i o.form,.i o.n,.fz (o.vals.map aD.enc),.fz (o.frames.map aB.enc)] false))) (fun k hk hj=>by simp only[hj.set]) (by(repeat refine upS ?_ (by omega));exact aM _)
    exact(aKw t5 (l:=o.frames) (.inl rfl) (by omega) (by omega)).mono fun _ _ _=>oY.then (k3.trans k5)
   ·rw[if_neg hc2];simp only[bQ2]at hc2
    refine fR aH8.2 rfl rfl ?_
    simp only[go_sem,kK,aH8]
    refine oK rfl ?_
    simp only[go_sem,bSl,bSk,ht,H,aP hv0,fZ hv1,kA]
    refine hC.mono ?_
    rintro v e1 c1 ⟨⟨xx,rfl,rfl⟩,⟨bv2,t2⟩,k2⟩
    obtain⟨p3,q3⟩:=k2.loc (d:=3) (g:=cnt 0 3) (by simp only[go_sem];omega) h.okt.ne.symm h.okr.ne.symm
    simp only[go_sem]at p3;simp only[go_sem,kK,p3,kA,kF]
    refine⟨rfl,kO 15 rfl (by simp only[p3,cC];rfl) rfl,?_⟩
    obtain⟨⟨bv3,t3⟩,k3⟩:=h.fin t2 (k1.trans k2) (cnt2:=c1) (en2:=e1.set ⟨0,3,cnt 0 3⟩ (some (.box [.i 0,.cl [],.cl []] false))) (fun k hk _=>by simp only[hk.set]) (aM _)
    have ht2:=t2.t
    refine bR ?_
    simp only[go_sem,H,ht2,aP hv0]
    refine(hW _ _ _ t3).mono ?_
    rintro v e4 c4 ⟨rfl,⟨bv4,t4⟩,k4⟩
    simp only[go_sem];obtain⟨⟨bv5,t5⟩,k5⟩:=t3.fin t4 k4 (cnt2:=aC c4 0 5 (c4 0 5+1)) (en2:=(e4.set ⟨0,5,c4 0 5⟩ (some (.box [.i 0,.i 0,.cl [],.cl []] false))).set ⟨0,5,c4 0 5⟩ (some (.box [.i o.form,.i o.n,.fz (o.vals.map aD.enc),.fz (o.frames.map aB.enc)] false))) (fun k hk hj=>by simp only[hj.set]) (by(repeat refine upS ?_ (by omega));exact aM _)
    refine bR ?_
    simp only[go_sem]
    refine(aE1 t5 (l:=o.frames) (.inl rfl) (by omega)).mono ?_
    rintro v e6 c6 ⟨_,⟨bv6,t6⟩,k6⟩
    have ht6:=t6.t;simp only[go_sem,ht6,fZ hv1]
    refine(iP t6 (aE f.vals 1)).mono ?_
    rintro r e7 c7 ⟨rfl,t7,k7⟩
    exact⟨rfl,t7,((k3.trans k5).trans k6).trans k7⟩
  ·rw[if_neg hI];rw[bRu]at hI
   refine jL aH8.2 rfl rfl ?_
   simp only[go_sem,kK,aH8]
   refine oK rfl ?_
   simp only[go_sem,bSl,bSk,ht,H,aP hv0,fZ hv1,kA]
   refine hC.mono ?_
   rintro v e1 c1 ⟨⟨xx,rfl,rfl⟩,⟨bv2,t2⟩,k2⟩
   obtain⟨p3,q3⟩:=k2.loc (d:=3) (g:=cnt 0 3) (by simp only[go_sem];omega) h.okt.ne.symm h.okr.ne.symm
   simp only[go_sem]at p3;simp only[go_sem,kK,p3,kA,kF]
   refine⟨rfl,kO 15 rfl (by simp only[p3,cC];rfl) rfl,?_⟩
   obtain⟨⟨bv3,t3⟩,k3⟩:=h.fin t2 (k1.trans k2) (cnt2:=c1) (en2:=e1.set ⟨0,3,cnt 0 3⟩ (some (.box [.i 0,.cl [],.cl []] false))) (fun k hk _=>by simp only[hk.set]) (aM _)
   have ht2:=t2.t
   refine cO 8 rfl ?_
   simp only[go_sem,bQs,bQq,H,ht2,aP hv0];exact(uU t3 (fQ hu) 5 hI).mono fun _ _ _=>oY.then k3
end
theorem sB (ha:inR a 0 ((w.tasks.length:Int)-1)=true):mA 1 en (.fz (w.tasks.map (.int .i64))) (.i a)=some {v:= .fp [.i (aZ w a)] 0}:=wJ ha
noncomputable def c30 :{c//L 30=some c}:=cA func30
set_option maxHeartbeats 1600000 in
theorem aIn (hp:eG p)(hsp:aS p=true)(h:cK p w0 S w)(ha:inR a 0 ((w.tasks.length:Int)-1)=true):
  PC L 30 [.agg p.cs,.agg w.cs,.i a] (.agg [.fz ((bB p w a).w.objs.map aN.enc),.fz ((bB p w a).w.tasks.map (.int .i64)),.fz ((bB p w a).w.outs.map bL.enc),.fz ((bB p w a).w.ins.map (.int .i64)),.i (bB p w a).w.used,.i (bB p w a).what,.i (bB p w a).e.task,.i (bB p w a).e.act,.i (bB p w a).e.n,.i (bB p w a).e.v.kind,.i (bB p w a).e.v.n]):=by
 have hfit:=uW h ha;obtain⟨t1,t2,t3⟩:=h.task ha;have hO:=h.obj t1 t3;have hset:=fun o=>aWi w a o hfit
 have honto:=fun left node env hl=>aB1 w a left node env hfit hl
 unfold bB
 simp only
 have hio:=fun en=>yT (w:=w) (k:= .i64) (en:=en) t1
 generalize ho:w.obj (aZ w a)=o at hO t2 hio⊢;have hk:=hO.ok;rw[dI,if_pos t2,jQ]at hk
 by_cases n0:o.n=0
 ·have d0:decide (o.n=0)=true:=D_t n0;rw[if_neg (fun h=>h n0)]
  rw[if_pos n0]at hk;simp only[bS,bQj,bT8,bQp,bA]at hk;obtain⟨⟨⟨⟨k1,k2⟩,k3,k4⟩,k5⟩,k6⟩:=hk;have hF: ∀f∈o.frames,FOk p S w f:=fun f hf=>hO.frames hf
  have hwt:IntKind.i64.wrap ((o.frames.length:Int)-1)=(o.frames.length:Int)-1:=aV (by omega)
  by_cases hv1:o.vals.length=1
  ·have dv:decide (o.vals.length=1)=true:=D_t hv1;have dv':decide ((o.vals.length:Int)=1)=true:=D_t (by omega)
   rw[if_pos hv1]
   by_cases hf0:o.frames.length=0
   ·rw[if_pos hf0];have hS:=hset ⟨6,1,[aE o.vals 0],[]⟩;simp only[bRj,bQ1,aLb]at hS;have df:decide ((o.frames.length:Int)-1<0)=true:=D_t (by omega)
    refine cJ c30.2 rfl rfl ?_
    simp only[go_sem,kK,c30]
    refine aG ?_
    simp only[go_sem,kK,sB ha,hio,kA,bQm,if_false];simp only[go_sem,kK,d0,dv',hwt,aP (l:=o.vals) (by omega),df]
    refine aG ?_
    simp only[go_sem,sB ha,pZ,lA,hS.ret,(aNj _).ret,kA,bQm,if_false]
   ·rw[if_neg hf0];obtain⟨m,hm⟩: ∃m,o.frames.length=m+1:=⟨o.frames.length-1,by omega⟩
    have hmn:m<o.frames.length:=by omega
    have df:decide ((m:Int)<0)=false:=D_f (by omega)
    have hwt:IntKind.i64.wrap ((o.frames.length:Int)-1)=(m:Int):=by rw[hwt];omega
    have hgd:o.frames.getD (o.frames.length-1) dV=o.frames[m]:=by
     rw[show o.frames.length-1=m by omega];simp[bQn,hmn]
    have hgz:(o.frames.map aB.enc)[m]?=some (aB.enc o.frames[m]):=by simp[hmn]
    have hlF:aA2 o.frames (aE o.vals 0)=o.frames.set m ⟨o.frames[m].node,o.frames[m].env,o.frames[m].vals++[aE o.vals 0]⟩:=by
     unfold aA2;rw[hgd,show o.frames.length-1=m by omega]
    rw[hlF];have hS:=hset ⟨6,0,[],o.frames.set m ⟨o.frames[m].node,o.frames[m].env,o.frames[m].vals++[aE o.vals 0]⟩⟩;simp only[bSz,bQ1,aB.enc]at hS;have hfm:=(hF _ (bQr hmn)).ok;have hal:=aPx hsp (fK (hF _ (bQr hmn)));simp only[dF,bA,bQj,bT8]at hfm;have hM:=aEw o.frames[m].vals (aE o.vals 0) (by omega)
    have hfe:o.frames.isEmpty=false:=aKp (by omega)
    have hf16:o.frames.length<=16777216:=by omega
    have hmi:((m:Int)<(o.frames.length:Int)):=by omega
    refine cJ c30.2 rfl rfl ?_
    simp only[go_sem,kK,c30]
    refine aG ?_
    simp only[go_sem,kK,sB ha,hio,kA,bQm,if_false];simp only[go_sem,kK,d0,dv',hwt,aP (l:=o.vals) (by omega),df,bP,eB,iW,iI,hfe,hf16,jB,hgz,hmi,sB ha,hM.ret,eP,bS7,bRh,bQl,bSb,bQk,bQ3,uP,nM,hS.ret,fV,iO]
  ·have dv':decide ((o.vals.length:Int)=1)=false:=D_f (by omega)
   rw[if_neg hv1];have hz:o.vals.length=0:=by omega
   obtain⟨m,hm⟩: ∃m,o.frames.length=m+1:=⟨o.frames.length-1,by omega⟩
   have hmn:m<o.frames.length:=by omega
   have hwt:IntKind.i64.wrap ((o.frames.length:Int)-1)=(m:Int):=by rw[hwt];omega
   have hgd:o.frames.getD (o.frames.length-1) dV=o.frames[m]:=by
    rw[show o.frames.length-1=m by omega];simp[bQn,hmn]
   rw[hgd];have hfo:=hF _ (bQr hmn);have hni:=fK hfo;have hok:=hp.nodes _ (iK hni);have hak:=aGk hok
   by_cases hop:(o.frames[m].vals.length:Int)<(p.node o.frames[m].node).asks
   ·have dop:decide ((o.frames[m].vals.length:Int)<(p.node o.frames[m].node).asks)=true:=D_t hop;rw[if_pos hop];have hN:=honto o.frames (oN (p.node o.frames[m].node) o.frames[m].vals.length) o.frames[m].env (by omega)
    refine cJ c30.2 rfl rfl ?_
    simp only[go_sem,kK,c30]
    refine aG ?_
    simp only[go_sem,kK,sB ha,hio,kA,bQm,if_false];simp only[go_sem,kK,d0,dv',hwt,hmn,bH hni,(vN _).ret,dop,aWo (show inR (o.frames[m].vals.length:Int) 0 (((p.node o.frames[m].node).kids.length:Int)-1)=true by simp only[inR,bT8];omega),hN.ret]
   ·have dop:decide ((o.frames[m].vals.length:Int)<(p.node o.frames[m].node).asks)=false:=D_f hop;rw[if_neg hop];have hfull:(o.frames[m].vals.length:Int)=(p.node o.frames[m].node).asks:=by
     have:=hfo.ok;simp only[dF,bA,bQj,bT8]at this;omega
    have hl:LOk p S w (o.frames.take (o.frames.length-1)):=⟨by simp only[bR2];omega,fun f hf=>hF f (bS8 hf),fun f hf=>k6 f (by rw[hz,bR5];exact hf)⟩
    have hD:=bEj hp hsp h ha hl hfo hfull;rw[show o.frames.length-1=m by omega]at hD⊢
    have hml:m<=o.frames.length:=by omega
    refine cJ c30.2 rfl rfl ?_
    simp only[go_sem,kK,c30]
    refine aG ?_
    simp only[go_sem,kK,sB ha,hio,kA,bQm,if_false];simp only[go_sem,kK,d0,dv',hwt,hmn,bH hni,(vN _).ret,dop]
    refine aG ?_
    cases h0:(o.frames.take m).isEmpty with
    |true=>
     have h0':o.frames.take m=[]:=by simpa using h0
     rw[h0']at hD⊢;simp only[bQ1]at hD;simp only[go_sem,uI,hml,<-bSc,h0',bQ1,bQl,bP,eB,nN,hD.ret,kA,bQm,if_false]
    |false=>
     have h16:(o.frames.take m).length<=16777216:=by simp only[bR2];omega
     generalize hgm:o.frames.take m=dl at*;simp only[go_sem,uI,hml,<-bSc,hgm,bQl,bP,eB,iW,iI,h0,h16,jB,bQk,bQ3,hD.ret,kA,bQm,if_false]
 ·have d0:decide (o.n=0)=false:=D_f n0;rw[if_pos n0]
  refine cJ c30.2 rfl rfl ?_
  simp only[go_sem,kK,c30]
  refine aG ?_
  simp only[go_sem,kK,sB ha,hio,kA,bQm,if_false];simp only[go_sem,kK,d0,lX,fV,iO]
theorem aY2 (x:Int)(n:Nat)(hn:0<n)(hf:n<=1000000):PC L 108 [.i x,.i n] (.i (x%(n:Int))):=by
 refine pcA func108 ?_
 have h0: ¬((n:Int)=0):=by omega
 have h1:=Int.emod_nonneg x (show(n:Int)≠0 by omega)
 have h2:=Int.emod_lt_of_pos x (show 0<(n:Int)by omega)
 have e:=Int.tmod_eq_emod (a:=x) (b:=n)
 by_cases hc:0<=x \/(n:Int)∣x
 ·rw[if_pos hc]at e;have d:decide (x.tmod n<0)=false:=D_f (by omega)
  simp only[go_sem,kK,h0,d];rw[e];simp
 ·rw[if_neg hc]at e;have d:decide (x.tmod n<0)=true:=D_t (by omega)
  have hw:IntKind.i64.wrap (x.tmod n+n)=x%n:=by rw[aV (by omega)];omega
  simp only[go_sem,kK,h0,d,hw]
def bGg (agg:Bool)(off m:Nat):Val->Option Res
 | .agg cs=>if off+m<=cs.length then(iL agg ((cs.drop off).take m)).map fun v=>{v}else none
 |_=>none
variable {agg:Bool}{off d:Nat}{get:Opd->Val}
section
theorem aLk {x:Opd}:cZ d g en get (.fld agg off m x)=bGg agg off m (get x):=(rfl)
theorem aFe {cs:List Val}:bGg agg off m (.agg cs)=if off+m<=cs.length then(iL agg ((cs.drop off).take m)).map fun v=>{v}else none:=(rfl)
end
theorem bCe (hp:eG p)(hsp:aS p=true)(h:cK p w0 S w):PC L 107 [.agg p.cs,.agg w.cs] (.is (dL p w)):=by
 refine pcA func107 ?_
 have hw:=aB4 (rZ hsp h.ok);have ht:w.tasks.length<=130:=by
  obtain⟨a1,a2,a3,a4,a5,a6,a7⟩:=cD.1 h.ok;have:=xT a5;omega
 simp only[go_sem,kK]
 refine bQ w.tasks.length (fun k st=> ∃fr en cnt v,st=⟨fr,en,cnt⟩/\ fr 2= .ptr ⟨0,2,0⟩ 0/\ en ⟨0,2,0⟩=some (.box [.fz (p.nodes.map aK.enc),.fz (p.funs.map (.int .i64)),.i p.main,.fz (p.cons.map cV.enc)] false)/\ fr 3= .ptr ⟨0,3,0⟩ 0/\ en ⟨0,3,0⟩=some (.box [.fz (w.objs.map aN.enc),.fz (w.tasks.map (.int .i64)),.fz (w.outs.map bL.enc),.fz (w.ins.map (.int .i64)),.i w.used] false)/\ fr 5=v/\ fr 6= .i k/\ cR en v 1 ((fY p w k).map (.int .i64)) [23]) 0 (bQt _) (by refine⟨_,_,_,.cl [],rfl,?_,?_,?_,?_,?_,?_,cR.nil _ _⟩<;>simp only[go_sem]) ?_
 rintro k st hk ⟨fr,en,cnt,v,rfl,k2,e2,k3,e3,k5,k6,hv⟩
 simp only[go_sem,kK,k3,e3,k6]
 refine aH (fun hq=>?_) (fun hq=>?_)
 ·have h':k<w.tasks.length:=D_o hq;have ha:inR (k:Int) 0 ((w.tasks.length:Int)-1)=true:=by simp only[inR,bT8];omega
  have hS:=aIn hp hsp h ha;have hst:fY p w (k+1)=if(bB p w k).what=2 then fY p w k else fY p w k++[(k:Int)]:=by
   simp only[fY,bTp,List.filter_append,bRl,List.filter_cons,List.filter_nil]
   by_cases hq:(bB p w (k:Int)).what=2<;>simp[hq]
  have hln:(fY p w k).length<=k:=by
   simp only[fY,bQl];exact bQv (List.length_filter_le _ _) (by simp)
  by_cases h2:(bB p w k).what=2
  ·have d2:decide ((bB p w k).what=2)=true:=D_t h2;rw[if_pos h2]at hst;simp only[go_sem,kK,k2,e2,k3,e3,k6,h',hS.ret,aLk,aFe,d2]
   refine⟨_,_,_,v,rfl,?_⟩
   simp only[go_sem,k2,e2,k3,e3,k5,aR h' hw.tasks,hst];exact hv
  ·have d2:decide ((bB p w k).what=2)=false:=D_f h2;rw[if_neg h2]at hst;simp only[go_sem,kK,k2,e2,k3,e3,k5,k6,h',hS.ret,aLk,aFe,d2]
   refine jZ (D:=[23]) (xs:=(fY p w k).map (.int .i64)) (ys:=[.i (k:Int)]) (rs:=[]) ?_ ?_ ?_ ?_ ?_
   ·simp only[go_sem];exact hv
   ·simp only[go_sem]
   ·rfl
   ·simp only[bQl,bQu,bQz];omega
   ·intro v' en' cnt' hown hen hcnt;have q2:en' ⟨0,2,0⟩=some (.box [.fz (p.nodes.map aK.enc),.fz (p.funs.map (.int .i64)),.i p.main,.fz (p.cons.map cV.enc)] false):=by rw[hen 0 2 0 (.inr ⟨by decide,by simp⟩)];simp only[go_sem,e2]
    have q3:en' ⟨0,3,0⟩=some (.box [.fz (w.objs.map aN.enc),.fz (w.tasks.map (.int .i64)),.fz (w.outs.map bL.enc),.fz (w.ins.map (.int .i64)),.i w.used] false):=by rw[hen 0 3 0 (.inr ⟨by decide,by simp⟩)];simp only[go_sem,e3]
    simp only[go_sem,k6]
    refine⟨_,_,_,v',rfl,?_⟩
    simp only[go_sem,k2,q2,k3,q3,aR h' hw.tasks,hst,bRl];exact hown.sub (by simp)
 ·have:k=w.tasks.length:=by simp at hq;omega
  subst this;obtain⟨r1,ks,s1,_,s2,s3,_⟩:=hv.snap 7;simp only[go_sem,k5,s1];exact s3
theorem xU (h:cK p w0 S w):w.tasks.length<=120:=by
 obtain⟨a1,a2,a3,a4,a5,a6,a7⟩:=cD.1 h.ok;have:=xT a5;omega
theorem aGo (hp:eG p)(hsp:aS p=true)(h:cK p w0 S w)(s:Nat)(hs:s<=5001):
  PC L 50 [.agg p.cs,.agg w.cs,.i (s:Int)] (.tup [.agg (aT p w s).1.cs,.i ((aT p w s).2.1:Nat),.bool (aT p w s).2.2]):=by
 refine pcA func50 ?_
 simp only[go_sem,kK]
 refine bQ 121 (fun k st=> ∃fr en cnt x t,st=⟨fr,en,cnt⟩/\ fr 2= .i ((t:Nat):Int)/\ fr 3= .ptr ⟨0,3,0⟩ 0/\ en ⟨0,3,0⟩=some (.box [.fz (p.nodes.map aK.enc),.fz (p.funs.map (.int .i64)),.i p.main,.fz (p.cons.map cV.enc)] false)/\ fr 4= .ptr ⟨0,4,0⟩ 0/\ en ⟨0,4,0⟩=some (.box [.fz (x.objs.map aN.enc),.fz (x.tasks.map (.int .i64)),.fz (x.outs.map bL.enc),.fz (x.ins.map (.int .i64)),.i x.used] false)/\ fr 6= .ptr ⟨0,6,0⟩ 0/\ en ⟨0,6,0⟩=some (.box [.cl [],.cl [],.cl [],.cl [],.i 0] false)/\ fr 9= .i k/\
  cK p w0 S x/\ t<=5001/\ eD p (121-k) k x t=aT p w s) 0 (bQt _) (by refine⟨_,_,_,w,s,rfl,?_,?_,?_,?_,?_,?_,?_,?_,h,hs,rfl⟩<;>simp only[go_sem]) ?_
 rintro k st hk ⟨fr,en,cnt,x,t,rfl,k2,k3,e3,k4,e4,k6,e6,k9,hx,ht,hD⟩
 have hx120:=xU hx;simp only[go_sem,kK,k4,e4,k9]
 refine aH (fun hq=>?_) (fun hq=>?_)
 ·have h':k<x.tasks.length:=D_o hq;have ha:inR (k:Int) 0 ((x.tasks.length:Int)-1)=true:=by simp only[inR,bT8];omega
  have hS:=aIn hp hsp hx ha;obtain⟨g10,hg10⟩: ∃g,g=cnt 0 10:=⟨_,rfl⟩
  simp only[go_sem,k3,e3,k4,e4,k9,h',hS.ret,<-hg10];rw[show 121-k=(120-k)+1 by omega,eD,if_pos h']at hD
  refine Go.Abs.wp_loop (fun(j:Nat) st=> ∃fr en cnt y,st=⟨fr,en,cnt⟩/\ fr 2= .i ((t+j:Nat):Int)/\ fr 3= .ptr ⟨0,3,0⟩ 0/\ en ⟨0,3,0⟩=some (.box [.fz (p.nodes.map aK.enc),.fz (p.funs.map (.int .i64)),.i p.main,.fz (p.cons.map cV.enc)] false)/\ fr 4= .ptr ⟨0,4,0⟩ 0/\ en ⟨0,4,0⟩=some (.box [.fz (y.objs.map aN.enc),.fz (y.tasks.map (.int .i64)),.fz (y.outs.map bL.enc),.fz (y.ins.map (.int .i64)),.i y.used] false)/\ fr 6= .ptr ⟨0,6,0⟩ 0/\ en ⟨0,6,0⟩=some (.box [.cl [],.cl [],.cl [],.cl [],.i 0] false)/\ fr 9= .i k/\ fr 10= .ptr ⟨0,10,g10⟩ 0/\ en ⟨0,10,g10⟩=some (.box [.fz ((bB p y k).w.objs.map aN.enc),.fz ((bB p y k).w.tasks.map (.int .i64)),.fz ((bB p y k).w.outs.map bL.enc),.fz ((bB p y k).w.ins.map (.int .i64)),.i (bB p y k).w.used,.i (bB p y k).what,.i (bB p y k).e.task,.i (bB p y k).e.act,.i (bB p y k).e.n,.i (bB p y k).e.v.kind,.i (bB p y k).e.v.n] false)/\
   cK p w0 S y/\ t+j<=5001/\ k<y.tasks.length/\ cU p k (5000-t) x=((cU p k (5000-(t+j)) y).1,(cU p k (5000-(t+j)) y).2.1+j,(cU p k (5000-(t+j)) y).2.2)) (fun j=>5001-(t+j)) 0
   ⟨_,_,_,x,rfl,by simp only[go_sem,k2],by simp only[go_sem,k3],by simp only[go_sem,e3],by simp only[go_sem,k4],by simp only[go_sem,e4],by simp only[go_sem,k6],by simp only[go_sem,e6],by simp only[go_sem,k9],by simp only[go_sem],by simp only[go_sem],hx,ht,h',rfl⟩ ?_
  clear k2 k3 e3 k4 e4 k6 e6 k9
  rintro j st ⟨fr,en,cnt,y,rfl,k2,k3,e3,k4,e4,k6,e6,k9,k10,e10,hy,htj,hky,hI⟩
  have hay:inR (k:Int) 0 ((y.tasks.length:Int)-1)=true:=by simp only[inR,bT8];omega
  by_cases h0:(bB p y k).what=0
  ·have d0:decide ((bB p y k).what=0)=true:=D_t h0;have hw1:IntKind.i64.wrap (((t+j:Nat):Int)+1)=((t+j+1:Nat):Int):=by rw[aV (by omega)];omega
   by_cases h5:5000<t+j+1
   ·have d5:decide ((5000:Int)<((t+j+1:Nat):Int))=true:=D_t (by omega)
    have hI0:cU p k (5000-t) x=(y,1+j,false):=by rw[hI,show 5000-(t+j)=0 by omega,cU,if_pos h0]
    rw[hI0]at hD;simp only[bQm,if_false]at hD;rw[<-hD,show t+(1+j)=t+j+1 by omega]
    simp only[go_sem,kK,k2,k4,e4,k6,e6,k10,e10,d0,hw1,d5]
   ·have d5:decide ((5000:Int)<((t+j+1:Nat):Int))=false:=D_f (by omega)
    have hy':=lC hp hy hay;have hky':k<(bB p y k).w.tasks.length:=bRa hky (aK7 hp hy hay);have hS2:=aIn hp hsp hy' (a:=k) (by simp only[inR,bT8];omega)
    simp only[go_sem,kK,k2,k3,e3,k4,e4,k9,k10,e10,d0,hw1,d5,hS2.ret]
    refine⟨j+1,⟨_,_,_,(bB p y k).w,rfl,?_⟩,by omega⟩
    simp only[go_sem,k3,e3,k4,k6,e6,k9,k10]
    refine⟨by rw[bSp],hy',by omega,hky',?_⟩
    rw[hI,show 5000-(t+j)=(5000-(t+(j+1)))+1 by omega,cU,if_pos h0]
    simp only[bSp,Nat.add_comm 1 j]
  ·have d0:decide ((bB p y k).what=0)=false:=D_f h0;have hin: ∀m,cU p k m y=(y,0,true):=fun m=>by cases m<;>(rw[cU,if_neg h0])
   rw[hI,hin]at hD;simp only[if_true,bRg]at hD;simp only[go_sem,kK,k2,k4,e4,k6,e6,k9,k10,e10,d0]
   refine⟨by omega,_,_,_,y,t+j,rfl,?_⟩
   simp only[go_sem,k2,k3,e3,k4,e4,k6,e6,aR (show k<121 by omega) (show Few 121 by unfold Few;omega)]
   exact⟨hy,htj,by rw[show 121-(k+1)=120-k by omega];exact hD⟩
 ·have hn: ¬k<x.tasks.length:=of_decide_eq_false hq;have hD':aT p w s=(x,t,true):=by
   rw[<-hD];cases hm:121-k with
   |zero=>rfl
   |succ m=>rw[eD,if_neg hn]
  rw[hD'];simp only[go_sem,k2,k4,e4,k6,e6]
theorem aDk {p:aF}: ∀(n:Nat) {a:Nat} {w:aA} {s:Nat},(eD p n a w s).2.2=true->(eD p n a w s).2.1<=max s 5000
 |0,_,_,s,_=>by simp only[eD];omega
 |n+1,a,w,s,h=>by
  obtain⟨h1,h2⟩:=aA6 (p:=p) (a:=a) (5000-s) w;unfold eD at h⊢;split
  ·rename_i ha;rw[if_pos ha]at h;split
   ·rename_i hb;rw[if_pos hb]at h;have:=aDk n h;have:=h2 hb;omega
   ·rename_i hb;rw[if_neg hb]at h;cases h
  ·simp only;omega
theorem bEq (hp:eG p)(hsp:aS p=true)(h:cK p w0 S w)(pick:Int):
  PC L 51 [.agg p.cs,.agg w.cs,.i pick] (.tup [.agg (eL p w pick).1.cs,.agg [.i (eL p w pick).2.1.task,.i (eL p w pick).2.1.act,.i (eL p w pick).2.1.n,.i (eL p w pick).2.1.v.kind,.i (eL p w pick).2.1.v.n],.i ((eL p w pick).2.2.1:Nat),.i (eL p w pick).2.2.2]):=by
 have hS:=aGo hp hsp h 0 (by omega)
 have h1:=sA hp (s:=0) h;have hc:=aDk (p:=p) 121 (a:=0) (w:=w) (s:=0);rw[show((0:Nat):Int)=0 from rfl]at hS
 have hR:=bCe hp hsp h1;unfold eL
 simp only
 refine pcA func51 ?_
 have hq1:aT p w 0=eD p 121 0 w 0:=rfl;rw[<-hq1]at hc;generalize hq:aT p w 0=q at hS h1 hR hc⊢;obtain⟨x,s1,ok⟩:=q;dsimp only at hS h1 hR hc⊢;cases ok with
 |false=>
  rw[if_pos rfl];simp only[go_sem,kK,hS.ret,fV,iO]
 |true=>
  rw[if_neg (by decide)]
  have hx120:=xU h1
  by_cases hl:dL p x=[]
  ·rw[if_pos hl];rw[hl]at hR;simp only[Val.is,bQ1]at hR;simp only[go_sem,kK,hS.ret,hR.ret,bQz,fV,iO]
  ·rw[if_neg hl];have hll:(dL p x).length<=120:=by
    simp only[dL,fY,bQl];exact bQv (List.length_filter_le _ _) (by simpa using hx120)
   have hl0:0<(dL p x).length:=bTm.2 hl;have dl:decide (((dL p x).length:Int)=0)=false:=D_f (by omega)
   have hMo:=aY2 pick (dL p x).length hl0 (by omega)
   have hpi:=aPy hl pick;have hem:=Int.emod_nonneg pick (show((dL p x).length:Int)≠0 by omega)
   have hin:inR (pick%((dL p x).length:Int)) 0 (((dL p x).length:Int)-1)=true:=by
    simp only[inR,bT8];omega
   have ha:=aK9 (mG (d:=0) hpi);have hSt:=aIn hp hsp h1 ha;have h2:=lC hp h1 ha;generalize hd:bB p x ((dL p x).getD (pick%((dL p x).length:Int)).toNat 0)=d at hSt h2⊢;have hc':=hc rfl;have hw1:IntKind.i64.wrap ((s1:Int)+1)=((s1+1:Nat):Int):=by rw[aV (by omega)];omega
   have hS2:=aGo hp hsp h2 (s1+1) (by omega)
   have hc2:=aCp (p:=p) 121 (a:=0) (w:=d.w) (s:=s1+1) (by omega)
   have hq2:aT p d.w (s1+1)=eD p 121 0 d.w (s1+1):=rfl;rw[<-hq2]at hc2;generalize hqq:aT p d.w (s1+1)=q at hS2 hc2⊢;obtain⟨y,s2,ok2⟩:=q;dsimp only at hS2 hc2⊢;simp only[go_sem,kK,hS.ret,hR.ret,dl]
   refine aG ?_
   simp only[go_sem,bQl,hMo.ret,wJ hin,hSt.ret,kA,bQm,if_false];cases ok2 with
   |false=>
    rw[if_pos (.inl rfl)];simp only[go_sem,kK,hw1,hS2.ret,fV,iO]
   |true=>
    by_cases h5:5000<s2
    ·have d5:decide ((5000:Int)<(s2:Int))=true:=D_t (by omega)
     rw[if_pos (.inr h5)];simp only[go_sem,kK,hw1,hS2.ret,d5,fV,iO]
    ·have d5:decide ((5000:Int)<(s2:Int))=false:=D_f (by omega)
     rw[if_neg (by rintro(h|h);cases h;exact h5 h)]
     simp only[go_sem,kK,hw1,hS2.ret,d5]
     refine aG ?_
     simp only[go_sem,kA,bQm,if_false]
variable {K P:Val}{f0:aB}{nd:aK}
section
theorem aNw {e4:En}{c4:Nat->Nat->Nat}{w1:aA}{bv4:Val}(t4:TS kt kr e4 c4 p w1 a left f n [] bv4){x:Nat}(hx:((w1.objs.length:Int)-1)=(x:Int))(hop:n.op=19){A1 A2:Option Ent}{b:Bool}:
  WIn L (.fn 314 [] []) [.ptr kt 0,.agg [.i (dK (x:Int)).kind,.i (dK (x:Int)).n],.agg [.i bJ.kind,.i bJ.n]]
   ((((e4.set ⟨0,6,c4 0 6⟩ A1).set ⟨0,6,c4 0 6⟩ A2).set ⟨0,58,c4 0 58⟩ (some (.blk 1 (w1.tasks.map (.int .i64)++[.i (dK (x:Int)).n]) b))).set kr
    (some (.box [.fz (p.nodes.map aK.enc),.is p.funs,.i p.main,.fz (p.cons.map cV.enc),.fz (w1.objs.map aN.enc),.bl ⟨0,58,c4 0 58⟩ 0 (w1.tasks.length+1),.fz (w1.outs.map bL.enc),.is w1.ins,.i w1.used] false)))
   (aC (aC c4 0 6 (c4 0 6+1)) 0 58 (c4 0 58+1)) fun v en' cnt'=>match oH (.ptr kt 0) [[0]] en' with
    |some en'=>v=aNv (some ⟨a,19,0,nE bJ⟩)/\ (∃bv',TS kt kr en' cnt' p (qK w1) a left f n [dK (x:Int)] bv')/\ dR kt kr e4 c4 en' cnt'
    |none=>False:=by
 have ht:=t4.t;have hr:=t4.r;have s1:=t4.okt.set;have s2:=t4.okr.set;have n1:=t4.okt.new;have n2:=t4.okr.new;have hn:=t4.ne;have x1: ∀(en:En) (e:Option Ent),En.set en kt e kr=en kr:=fun _ _=>aI hn
 have x2: ∀(en:En) (e:Option Ent),En.set en kr e kt=en kt:=fun _ _=>aI hn.symm
 have hu: ∀t,c4 0 t<=aC (aC c4 0 6 (c4 0 6+1)) 0 58 (c4 0 58+1) 0 t:=(by(repeat refine upS ?_ (by omega));exact aM _)
 refine(aNn (f:=f) (n:=n) (by simp only[s1,x2];exact ht) (t4.okt.up hu) (dK (x:Int)) bJ).mono ?_
 rintro v e1 c1 ⟨rfl,tb,old,up⟩
 have h0:TS kt kr (e4.set kt (some (.box [.ptr kr 0,.i a,.fz (left.map aB.enc),.i f.node,.fz (f.env.map aD.enc),.fz (f.vals.map aD.enc),.i n.op,.i n.n,.is n.kids,.fz (n.pats.map Pat.enc),.cl [.agg [.i (dK (x:Int)).kind,.i (dK (x:Int)).n]]] false))) c4 p w1 a left f n [dK (x:Int)] (.cl [.agg [.i (dK (x:Int)).kind,.i (dK (x:Int)).n]]):=⟨t4.okt,t4.okr,t4.ne,.inr rfl,cC,by rw[aI t4.ne];exact hr⟩
 have o58:=old ⟨0,58,c4 0 58⟩ ⟨rfl,by simp only[go_sem];omega⟩ t4.okt.ne.symm
 simp only[go_sem,n2]at o58;have okr:=old kr (t4.okr.up hu) t4.ne;simp only[go_sem]at okr;have hA:w1.tasks.map (Val.int .i64)++[.i (dK (x:Int)).n]=(qK w1).tasks.map (.int .i64):=by simp[qK,dK,hx]
 rw[hA]at o58;have hF:=bBx h0 (w':=qK w1) (E:=e1) (c:=c1) (by rw[tb,cC]) okr rfl (sX o58 (by simp[qK])) rfl rfl (by simp) (fun k hk k1 k2=>by rw[old k (hk.up hu) k1,aI k1,aI k2,hk.set,hk.set,hk.set]) (fun t=>bQv (hu t) (up t))
 split at hF
 case h_2=>exact hF.elim
 rename_i E2 hE2;rw[hE2]
 refine⟨?_,hF.1,fun k hk k1 k2=>(hF.2.old k hk k1 k2).trans (aI k1),hF.2.up⟩
 rw[hop];rfl
noncomputable def aH9 :{c//L 261=some c}:=cA func261
theorem bEr (P0:Pre p w0 S w a left f n)(h:TS kt kr en cnt p w a left f n [] bv)(hop:n.op=19):qU 261 kt kr en cnt p w a left f n (opR p w a left f n):=by
 have e:opR p w a left f n=(match eF p w (aE f.vals 0) bJ with
  |some b=>if 30<b.env.length then .fail 4 else iB w ⟨6,0,[],[b]⟩ fun w' v=>kD (qK w') a left 19 0 v bJ
  |none=>if bY w (aE f.vals 0) 5=true then iB w ⟨6,0,[bJ],(w.obj (aE f.vals 0).n).frames⟩ fun w' v=>kD (qK w') a left 19 0 v bJ else .fail 2):=by unfold opR;rw[hop];rfl
 rw[e];have hfull:=P0.full;simp[aK.asks,hop]at hfull;have hv0:0<f.vals.length:=by omega
 have hu:=P0.val hv0;have h120:=P0.objs;have htl:w.tasks.length+1<=16777216:=by
  have:=xT (cD.1 P0.hF.ok).2.2.2.2.1;omega
 have haT: ∀o,(dU w o).tasks=w.tasks:=fun _=>rfl
 have hd1: ∀x:Int,cT 1 [.i x]=true:=fun _=>rfl
 have H:=h.pre;have ht:=h.t;obtain⟨⟨bv1,h1⟩,k1⟩:=h.stay (cnt':=aC (aC cnt 0 3 (cnt 0 3+1)) 0 4 (cnt 0 4+1)) (en':=((en.set ⟨0,3,cnt 0 3⟩ (some (.box [.i 0,.i 0,.cl [],.cl []] false))).set ⟨0,3,cnt 0 3⟩ (some (.box [.i 6,.i 0,.cl [],.cl []] false))).set ⟨0,4,cnt 0 4⟩ (some (.box [.i 0,.cl [],.cl []] false))) (fun k hk=>by simp only[hk.set]) (by(repeat refine upS ?_ (by omega));exact aM _)
 cases hb:eF p w (aE f.vals 0) bJ with
 |some b=>
  obtain⟨bn,be,bvs⟩:=b;have hbv:=aLj hb
  simp only at hbv
  subst hbv
  simp only
  by_cases hc:30<be.length
  ·rw[if_pos hc]
   refine jL aH9.2 rfl rfl ?_
   simp only[go_sem,kK,aH9]
   refine aRr rfl 9 rfl rfl ?_
   simp only[go_sem,bQs,bQq,bR0,bRz,rD,bSl,bSk,ht,H,aP hv0,kG.ret,kA,kF];exact⟨rfl,(aLg h1 P0.hp P0.hF hu hb hc).mono fun _ _ _=>oY.then k1⟩
  ·rw[if_neg hc];have hC:=aLf h1 P0.hp P0.hF hu hb (by show be.length<=30;omega)
   unfold iB
   by_cases h20:120<=w.objs.length
   ·rw[if_pos h20]
    refine jL aH9.2 rfl rfl ?_
    simp only[go_sem,kK,aH9]
    refine oK rfl ?_
    simp only[go_sem,bSl,bSk,ht,H,aP hv0,kG.ret,kA,kF]
    refine hC.mono ?_
    rintro v e1 c1 ⟨⟨ev,hev,_,rfl⟩,⟨bv2,t2⟩,k2⟩
    obtain⟨p3,q3⟩:=k2.loc (d:=3) (g:=cnt 0 3) (by simp[aC]) h.okt.ne.symm h.okr.ne.symm
    obtain⟨p4,q4⟩:=k2.loc (d:=4) (g:=cnt 0 4) (by simp[aC]) h.okt.ne.symm h.okr.ne.symm
    simp only[go_sem]at p3 p4;simp only[go_sem,kK,p4,kA,kF]
    refine⟨rfl,kO 9 rfl (by simp only[p4,cC];rfl) rfl,?_⟩
    obtain⟨⟨bv3,t3⟩,k3⟩:=h.fin t2 (k1.trans k2) (cnt2:=c1) (en2:=(e1.set ⟨0,4,cnt 0 4⟩ (some (.box [.i bn,ev,.cl []] false))).set ⟨0,3,cnt 0 3⟩ (some (.box [.i 6,.i 0,.cl [],.cl [.agg [.i bn,.fz (be.map aD.enc),.fz []]]] false))) (fun k hk _=>by simp only[hk.set]) (aM _)
    rcases hev with rfl|rfl<;>
    (simp only[go_sem,kB,p3]
     refine cO 2 rfl ?_
     simp only[go_sem,bQs,bQq];exact(oZ t3 (o:=⟨6,0,[],[⟨bn,be,[]⟩]⟩) (by omega) (by omega)).mono fun _ _ _=>oY.then k3)
   ·rw[if_neg h20]
    refine rL aH9.2 rfl rfl ?_
    simp only[go_sem,kK,aH9]
    refine oK rfl ?_
    simp only[go_sem,bSl,bSk,ht,H,aP hv0,kG.ret,kA,kF]
    refine hC.mono ?_
    rintro v e1 c1 ⟨⟨ev,hev,_,rfl⟩,⟨bv2,t2⟩,k2⟩
    obtain⟨p3,q3⟩:=k2.loc (d:=3) (g:=cnt 0 3) (by simp[aC]) h.okt.ne.symm h.okr.ne.symm
    obtain⟨p4,q4⟩:=k2.loc (d:=4) (g:=cnt 0 4) (by simp[aC]) h.okt.ne.symm h.okr.ne.symm
    simp only[go_sem]at p3 p4;simp only[go_sem,kK,p4,kA,kF]
    refine⟨rfl,kO 9 rfl (by simp only[p4,cC];rfl) rfl,?_⟩
    obtain⟨⟨bv3,t3⟩,k3⟩:=h.fin t2 (k1.trans k2) (cnt2:=c1) (en2:=(e1.set ⟨0,4,cnt 0 4⟩ (some (.box [.i bn,ev,.cl []] false))).set ⟨0,3,cnt 0 3⟩ (some (.box [.i 6,.i 0,.cl [],.cl [.agg [.i bn,.fz (be.map aD.enc),.fz []]]] false))) (fun k hk _=>by simp only[hk.set]) (aM _)
    rcases hev with rfl|rfl<;>
    (simp only[go_sem,kB,p3]
     refine bR ?_
     simp only[go_sem]
     refine(rH t3 (o:=⟨6,0,[],[⟨bn,be,[]⟩]⟩) (.inr rfl) (.inr rfl) (by omega)).mono ?_
     rintro v e4 c4 ⟨rfl,⟨bv4,t4⟩,k4⟩
     have ht4:=t4.t;have hr4:=t4.r;have y1:=t4.okt.set;have y2:=t4.okr.set;have y3:=t4.okt.eqF;have y4:=t4.okt.eqF';have y5:=t4.okr.eqF;have y6:=t4.okr.eqF';have y7:=t4.okt.new;have y8:=t4.okr.new;simp only[go_sem]
     refine aG ?_
     simp only[go_sem,ht4,hr4,kB,y1,y2,y3,bQl,(aHq _).ret,bP,eB,uS,aBx,hd1,haT,htl,rX,kA,kF]
     refine aG ?_
     simp only[go_sem,y8,kG.ret,kA,kF]
     refine(aNw t4 (x:=w.objs.length) (by simp[dU]) hop).mono fun v en' cnt' hh=>?_
     split at hh
     case h_2=>exact hh.elim
     rename_i E2 hE2;rw[hE2];exact⟨hh.1,hh.2.1,(k3.trans k4).trans hh.2.2⟩)
 |none=>
  simp only
  have hC:=aHu h1 hu hb
  by_cases hI:bY w (aE f.vals 0) 5=true
  ·rw[if_pos hI];have hW:=fun e1 c1 bv2 (t2:TS kt kr e1 c1 p w a left f n [] bv2)=>uT t2 (fQ hu) 5 hI
   generalize w.obj (aE f.vals 0).n=o at hW⊢;unfold iB
   by_cases h20:120<=w.objs.length
   ·rw[if_pos h20]
    refine jL aH9.2 rfl rfl ?_
    simp only[go_sem,kK,aH9]
    refine oK rfl ?_
    simp only[go_sem,bSl,bSk,ht,H,aP hv0,kG.ret,kA,kF]
    refine hC.mono ?_
    rintro v e1 c1 ⟨⟨xx,rfl,rfl⟩,⟨bv2,t2⟩,k2⟩
    obtain⟨p3,q3⟩:=k2.loc (d:=3) (g:=cnt 0 3) (by simp[aC]) h.okt.ne.symm h.okr.ne.symm
    obtain⟨p4,q4⟩:=k2.loc (d:=4) (g:=cnt 0 4) (by simp[aC]) h.okt.ne.symm h.okr.ne.symm
    simp only[go_sem]at p3 p4;simp only[go_sem,kK,p4,kA,kF]
    refine⟨rfl,kO 9 rfl (by simp only[p4,cC];rfl) rfl,?_⟩
    obtain⟨⟨bv3,t3⟩,k3⟩:=h.fin t2 (k1.trans k2) (cnt2:=c1) (en2:=e1.set ⟨0,4,cnt 0 4⟩ (some (.box [.i 0,.cl [],.cl []] false))) (fun k hk _=>by simp only[hk.set]) (aM _)
    have ht2:=t2.t
    refine bR ?_
    simp only[go_sem,H,ht2,aP hv0]
    refine(hW _ _ _ t3).mono ?_
    rintro v e4 c4 ⟨rfl,⟨bv4,t4⟩,k4⟩
    obtain⟨r3,u3⟩:=k4.loc (d:=3) (g:=cnt 0 3) q3.2 h.okt.ne.symm h.okr.ne.symm;simp only[go_sem,p3]at r3;simp only[go_sem,kB,aLk,aFe,r3,kG.ret];obtain⟨⟨bv6,t6⟩,k6⟩:=h.fin t4 (k3.trans k4) (cnt2:=c4) (en2:=(e4.set ⟨0,3,cnt 0 3⟩ (some (.box [.i 6,.i 0,.cl [],.fz (o.frames.map aB.enc)] false))).set ⟨0,3,cnt 0 3⟩ (some (.box [.i 6,.i 0,.cl [.agg [.i bJ.kind,.i bJ.n]],.fz (o.frames.map aB.enc)] false))) (fun k hk _=>by simp only[hk.set]) (aM _)
    refine cO 2 rfl ?_
    simp only[go_sem,bQs,bQq];exact(oZ t6 (o:=⟨6,0,[bJ],o.frames⟩) (by omega) (by omega)).mono fun _ _ _=>oY.then k6
   ·rw[if_neg h20]
    refine rL aH9.2 rfl rfl ?_
    simp only[go_sem,kK,aH9]
    refine oK rfl ?_
    simp only[go_sem,bSl,bSk,ht,H,aP hv0,kG.ret,kA,kF]
    refine hC.mono ?_
    rintro v e1 c1 ⟨⟨xx,rfl,rfl⟩,⟨bv2,t2⟩,k2⟩
    obtain⟨p3,q3⟩:=k2.loc (d:=3) (g:=cnt 0 3) (by simp[aC]) h.okt.ne.symm h.okr.ne.symm
    obtain⟨p4,q4⟩:=k2.loc (d:=4) (g:=cnt 0 4) (by simp[aC]) h.okt.ne.symm h.okr.ne.symm
    simp only[go_sem]at p3 p4;simp only[go_sem,kK,p4,kA,kF]
    refine⟨rfl,kO 9 rfl (by simp only[p4,cC];rfl) rfl,?_⟩
    obtain⟨⟨bv3,t3⟩,k3⟩:=h.fin t2 (k1.trans k2) (cnt2:=c1) (en2:=e1.set ⟨0,4,cnt 0 4⟩ (some (.box [.i 0,.cl [],.cl []] false))) (fun k hk _=>by simp only[hk.set]) (aM _)
    have ht2:=t2.t
    refine bR ?_
    simp only[go_sem,H,ht2,aP hv0]
    refine(hW _ _ _ t3).mono ?_
    rintro v e4 c4 ⟨rfl,⟨bv4,t4⟩,k4⟩
    obtain⟨r3,u3⟩:=k4.loc (d:=3) (g:=cnt 0 3) q3.2 h.okt.ne.symm h.okr.ne.symm;simp only[go_sem,p3]at r3;simp only[go_sem,kB,aLk,aFe,r3,kG.ret];obtain⟨⟨bv6,t6⟩,k6⟩:=h.fin t4 (k3.trans k4) (cnt2:=c4) (en2:=(e4.set ⟨0,3,cnt 0 3⟩ (some (.box [.i 6,.i 0,.cl [],.fz (o.frames.map aB.enc)] false))).set ⟨0,3,cnt 0 3⟩ (some (.box [.i 6,.i 0,.cl [.agg [.i bJ.kind,.i bJ.n]],.fz (o.frames.map aB.enc)] false))) (fun k hk _=>by simp only[hk.set]) (aM _)
    refine bR ?_
    simp only[go_sem]
    refine(rH t6 (o:=⟨6,0,[bJ],o.frames⟩) (.inr rfl) (.inl rfl) (by omega)).mono ?_
    rintro v e7 c7 ⟨rfl,⟨bv7,t7⟩,k7⟩
    have ht7:=t7.t;have hr7:=t7.r;have y1:=t7.okt.set;have y2:=t7.okr.set;have y3:=t7.okt.eqF;have y4:=t7.okt.eqF';have y5:=t7.okr.eqF;have y6:=t7.okr.eqF';have y7:=t7.okt.new;have y8:=t7.okr.new;simp only[go_sem]
    refine aG ?_
    simp only[go_sem,ht7,hr7,kB,y1,y2,y3,bQl,(aHq _).ret,bP,eB,uS,aBx,hd1,haT,htl,rX,kA,kF]
    refine aG ?_
    simp only[go_sem,y8,kG.ret,kA,kF]
    refine(aNw t7 (x:=w.objs.length) (by simp[dU]) hop).mono fun v en' cnt' hh=>?_
    split at hh
    case h_2=>exact hh.elim
    rename_i E2 hE2;rw[hE2];exact⟨hh.1,hh.2.1,(k6.trans k7).trans hh.2.2⟩
  ·rw[if_neg hI];rw[bRu]at hI
   refine jL aH9.2 rfl rfl ?_
   simp only[go_sem,kK,aH9]
   refine oK rfl ?_
   simp only[go_sem,bSl,bSk,ht,H,aP hv0,kG.ret,kA,kF]
   refine hC.mono ?_
   rintro v e1 c1 ⟨⟨xx,rfl,rfl⟩,⟨bv2,t2⟩,k2⟩
   obtain⟨p3,q3⟩:=k2.loc (d:=3) (g:=cnt 0 3) (by simp[aC]) h.okt.ne.symm h.okr.ne.symm
   obtain⟨p4,q4⟩:=k2.loc (d:=4) (g:=cnt 0 4) (by simp[aC]) h.okt.ne.symm h.okr.ne.symm
   simp only[go_sem]at p3 p4;simp only[go_sem,kK,p4,kA,kF]
   refine⟨rfl,kO 9 rfl (by simp only[p4,cC];rfl) rfl,?_⟩
   obtain⟨⟨bv3,t3⟩,k3⟩:=h.fin t2 (k1.trans k2) (cnt2:=c1) (en2:=e1.set ⟨0,4,cnt 0 4⟩ (some (.box [.i 0,.cl [],.cl []] false))) (fun k hk _=>by simp only[hk.set]) (aM _)
   have ht2:=t2.t
   refine cO 8 rfl ?_
   simp only[go_sem,bQs,bQq,H,ht2,aP hv0];exact(uU t3 (fQ hu) 5 hI).mono fun _ _ _=>oY.then k3
theorem bEs (P0:Pre p w0 S w a left f n)(h:TS kt kr en cnt p w a left f n [] bv)(hop:n.op=13):qU 255 kt kr en cnt p w a left f n (opR p w a left f n):=by
 have e:opR p w a left f n=(if¬(aE f.vals 0).kind=(aE f.vals 1).kind \/3<(aE f.vals 0).kind then .fail 2 else iJ w left (nD (decide (aE f.vals 0=aE f.vals 1)))):=by unfold opR;rw[hop];rfl
 rw[e];have hfull:=P0.full;simp[aK.asks,hop]at hfull;have hv0:0<f.vals.length:=by omega
 have hv1:1<f.vals.length:=by omega
 have H:=h.pre;have ht:=h.t
 by_cases hk:(aE f.vals 0).kind=(aE f.vals 1).kind
 ·have dk:decide ((aE f.vals 0).kind=(aE f.vals 1).kind)=true:=D_t hk
  by_cases h3:3<(aE f.vals 0).kind
  ·rw[if_pos (.inr h3)];have d3:decide ((aE f.vals 0).kind<=3)=false:=D_f (by omega)
   refine jP func255 ?_
   simp only[go_sem,kK]
   refine aG ?_
   simp only[go_sem,ht,H,aP hv0,fZ hv1,kA,kF]
   refine cO 10 rfl ?_
   simp only[go_sem,kK,bQs,bQq,dk,d3,(kE _).ret];exact h.fell0 (fun k hk=>by simp only[hk.set]) (by(repeat refine upS ?_ (by omega));exact aM _)
  ·rw[if_neg (by rintro(h|h);exact h hk;exact h3 h)]
   have d3:decide ((aE f.vals 0).kind<=3)=true:=D_t (by omega)
   have hb:(decide ((aE f.vals 0).kind=(aE f.vals 1).kind)&&decide ((aE f.vals 0).n=(aE f.vals 1).n))=decide (aE f.vals 0=aE f.vals 1):=by
    cases aE f.vals 0;cases aE f.vals 1;simp
   refine gR func255 ?_
   simp only[go_sem,kK]
   refine aG ?_
   simp only[go_sem,ht,H,aP hv0,fZ hv1,kA,kF]
   refine bR ?_
   simp only[go_sem,kK,dk,d3,(gX _).ret];rw[dk]at hb
   try simp only[go_sem]at hb
   simp only[go_sem,hb,(aEy _).ret];obtain⟨⟨bv1,h1⟩,k1⟩:=h.stay (cnt':=aC (aC cnt 0 3 (cnt 0 3+1)) 0 4 (cnt 0 4+1)) (en':=(((en.set ⟨0,3,cnt 0 3⟩ (some (.box [.i 0,.i 0] false))).set ⟨0,4,cnt 0 4⟩ (some (.box [.i 0,.i 0] false))).set ⟨0,3,cnt 0 3⟩ (some (.box [.i (aE f.vals 0).kind,.i (aE f.vals 0).n] false))).set ⟨0,4,cnt 0 4⟩ (some (.box [.i (aE f.vals 1).kind,.i (aE f.vals 1).n] false))) (fun k hk=>by simp only[hk.set]) (by(repeat refine upS ?_ (by omega));exact aM _)
   refine(iP h1 _).mono ?_
   rintro v e2 c2 ⟨rfl,t2,k2⟩
   exact⟨rfl,t2,k1.trans k2⟩
 ·rw[if_pos (.inl hk)];have dk:decide ((aE f.vals 0).kind=(aE f.vals 1).kind)=false:=D_f hk
  refine jP func255 ?_
  simp only[go_sem,kK]
  refine aG ?_
  simp only[go_sem,ht,H,aP hv0,fZ hv1,kA,kF]
  refine cO 10 rfl ?_
  simp only[go_sem,kK,bQs,bQq,dk,(kE _).ret];exact h.fell0 (fun k hk=>by simp only[hk.set]) (by(repeat refine upS ?_ (by omega));exact aM _)
theorem bEt (P0:Pre p w0 S w a left f n)(h:TS kt kr en cnt p w a left f n [] bv)(hop:n.op=16):qU 258 kt kr en cnt p w a left f n (opR p w a left f n):=by
 have e:opR p w a left f n=iB w ⟨3,0,[aE f.vals 0],[]⟩ fun w' v=>kD w' a left 16 0 v (aE f.vals 0):=by unfold opR;rw[hop];rfl
 rw[e];have hfull:=P0.full;simp[aK.asks,hop]at hfull;have hv0:0<f.vals.length:=by omega
 have h120:=P0.objs;have H:=h.pre;have ht:=h.t;unfold iB;obtain⟨⟨bv1,h1⟩,k1⟩:=h.stay (cnt':=aC cnt 0 3 (cnt 0 3+1)) (en':=(en.set ⟨0,3,cnt 0 3⟩ (some (.box [.i 0,.i 0] false))).set ⟨0,3,cnt 0 3⟩ (some (.box [.i (aE f.vals 0).kind,.i (aE f.vals 0).n] false))) (fun k hk=>by simp only[hk.set]) (by(repeat refine upS ?_ (by omega));exact aM _)
 by_cases hc:120<=w.objs.length
 ·rw[if_pos hc]
  refine jP func258 ?_
  simp only[go_sem,kK,ht,aP hv0]
  refine cO 4 rfl ?_
  simp only[go_sem,bQs,bQq,bR0,bRz,kB];exact(oZ h1 (o:=⟨3,0,[aE f.vals 0],[]⟩) hc (by omega)).mono fun _ _ _=>oY.then k1
 ·rw[if_neg hc]
  refine gR func258 ?_
  simp only[go_sem,kK,ht,aP hv0]
  refine bR ?_
  simp only[go_sem,kB]
  refine(rH h1 (o:=⟨3,0,[aE f.vals 0],[]⟩) (.inr rfl) (.inr rfl) (by omega)).mono ?_
  rintro v e1 c1 ⟨rfl,⟨bv2,t2⟩,k2⟩
  obtain⟨p3,q3⟩:=k2.loc (d:=3) (g:=cnt 0 3) (by simp only[go_sem];omega) h.okt.ne.symm h.okr.ne.symm
  simp only[go_sem]at p3;simp only[go_sem,p3,q3.set];obtain⟨⟨bv3,t3⟩,k3⟩:=h.fin t2 (k1.trans k2) (cnt2:=aC c1 0 4 (c1 0 4+1)) (en2:=(e1.set ⟨0,4,c1 0 4⟩ (some (.box [.i 0,.i 0] false))).set ⟨0,4,c1 0 4⟩ (some (.box [.i (dK w.objs.length).kind,.i (dK w.objs.length).n] false))) (fun k hk hj=>by simp only[hj.set]) (by(repeat refine upS ?_ (by omega));exact aM _)
  refine(qN t3 (dK w.objs.length) (aE f.vals 0)).mono ?_
  rintro v e2 c2 ⟨rfl,t4,k4⟩
  refine⟨?_,t4,k3.trans k4⟩
  rw[hop];rfl
theorem bEu (P0:Pre p w0 S w a left f n)(h:TS kt kr en cnt p w a left f n [] bv)(hop:n.op=21):qU 263 kt kr en cnt p w a left f n (opR p w a left f n):=by
 have e:opR p w a left f n=iB w ⟨4,0,[],[]⟩ fun w' v=>kD w' a left 21 0 v bJ:=by unfold opR;rw[hop];rfl
 rw[e];have h120:=P0.objs;have H:=h.pre;unfold iB
 by_cases hc:120<=w.objs.length
 ·rw[if_pos hc]
  refine jP func263 ?_
  simp only[go_sem,kK]
  refine cO 2 rfl ?_
  simp only[go_sem,bQs,bQq];exact oZ h (o:=⟨4,0,[],[]⟩) hc (by omega)
 ·rw[if_neg hc]
  refine gR func263 ?_
  simp only[go_sem,kK]
  refine bR ?_
  simp only[go_sem]
  refine(rH h (o:=⟨4,0,[],[]⟩) (.inr rfl) (.inr rfl) (by omega)).mono ?_
  rintro v e1 c1 ⟨rfl,⟨bv2,t2⟩,k2⟩
  try simp only[go_sem]
  refine aG ?_
  simp only[go_sem,kG.ret,kA,kF];obtain⟨⟨bv3,t3⟩,k3⟩:=h.fin t2 k2 (cnt2:=aC c1 0 3 (c1 0 3+1)) (en2:=(e1.set ⟨0,3,c1 0 3⟩ (some (.box [.i 0,.i 0] false))).set ⟨0,3,c1 0 3⟩ (some (.box [.i (dK w.objs.length).kind,.i (dK w.objs.length).n] false))) (fun k hk hj=>by simp only[hj.set]) (by(repeat refine upS ?_ (by omega));exact aM _)
  refine(qN t3 (dK w.objs.length) bJ).mono ?_
  rintro v e2 c2 ⟨rfl,t4,k4⟩
  refine⟨?_,t4,k3.trans k4⟩
  rw[hop];rfl
theorem bO4 {o:aN}{P:aF}(h:OOk P S w o)(h3:o.form=3):o.vals.length=1:=by
 have hk:=h.ok;simp only[dI,h3]at hk
 simp at hk
 omega
theorem bEv (P0:Pre p w0 S w a left f n)(h:TS kt kr en cnt p w a left f n [] bv)(hop:n.op=17):qU 259 kt kr en cnt p w a left f n (opR p w a left f n):=by
 have e:opR p w a left f n=(if bY w (aE f.vals 0) 3=true then kD w a left 17 0 (aE (w.obj (aE f.vals 0).n).vals 0) (aE (w.obj (aE f.vals 0).n).vals 0)else .fail 2):=by unfold opR;rw[hop];rfl
 rw[e];have hfull:=P0.full;simp[aK.asks,hop]at hfull;have hv0:0<f.vals.length:=by omega
 have hu:=P0.val hv0;have H:=h.pre;have ht:=h.t
 by_cases hI:bY w (aE f.vals 0) 3=true
 ·rw[if_pos hI];obtain⟨a1,a2,a3,a4⟩:=eZ P0.hF hu hI;have hl1:=bO4 a2 a3
  refine gR func259 ?_
  simp only[go_sem,kK]
  refine bR ?_
  simp only[go_sem,ht,aP hv0]
  refine(uT h (fQ hu) 3 hI).mono ?_
  rintro v e1 c1 ⟨rfl,⟨bv2,t2⟩,k2⟩
  try simp only[go_sem,aLk,aFe,aP (l:=(w.obj (aE f.vals 0).n).vals) (by omega)]
  obtain⟨⟨bv3,t3⟩,k3⟩:=h.fin t2 k2 (cnt2:=aC c1 0 3 (c1 0 3+1)) (en2:=(e1.set ⟨0,3,c1 0 3⟩ (some (.box [.i 0,.i 0] false))).set ⟨0,3,c1 0 3⟩ (some (.box [.i (aE (w.obj (aE f.vals 0).n).vals 0).kind,.i (aE (w.obj (aE f.vals 0).n).vals 0).n] false))) (fun k hk hj=>by simp only[hj.set]) (by(repeat refine upS ?_ (by omega));exact aM _)
  refine(qN t3 _ _).mono ?_
  rintro v e2 c2 ⟨rfl,t4,k4⟩
  refine⟨?_,t4,k3.trans k4⟩
  rw[hop];rfl
 ·rw[if_neg hI];rw[bRu]at hI
  refine jP func259 ?_
  simp only[go_sem,kK]
  refine cO 8 rfl ?_
  simp only[go_sem,bQs,bQq,ht,aP hv0];exact uU h (fQ hu) 3 hI
theorem bEw (P0:Pre p w0 S w a left f n)(h:TS kt kr en cnt p w a left f n [] bv)(hop:n.op=18):qU 260 kt kr en cnt p w a left f n (opR p w a left f n):=by
 have e:opR p w a left f n=(if bY w (aE f.vals 0) 3=true then kD (cW w (aE f.vals 0).n ⟨3,0,[aE f.vals 1],[]⟩) a left 18 0 bJ (aE f.vals 1)else .fail 2):=by unfold opR;rw[hop];rfl
 rw[e];have hfull:=P0.full;simp[aK.asks,hop]at hfull;have hv0:0<f.vals.length:=by omega
 have hv1:1<f.vals.length:=by omega
 have hu:=P0.val hv0;have h120:=P0.objs;have H:=h.pre;have ht:=h.t
 by_cases hI:bY w (aE f.vals 0) 3=true
 ·rw[if_pos hI];obtain⟨a1,a2,a3,a4⟩:=eZ P0.hF hu hI;simp only[inR,bT8]at a1;obtain⟨j,hj⟩: ∃j:Nat,(aE f.vals 0).n=(j:Int):=⟨(aE f.vals 0).n.toNat,by omega⟩
  refine gR func260 ?_
  simp only[go_sem,kK]
  refine bR ?_
  simp only[go_sem,ht,aP hv0]
  refine(uT h (fQ hu) 3 hI).mono ?_
  rintro v e1 c1 ⟨rfl,⟨bv2,t2⟩,k2⟩
  have ht2:=t2.t
  try simp only[go_sem,kK,H,kB]
  refine aG ?_
  simp only[go_sem,kB,ht2,aP hv0,fZ hv1,hj,kA,kF]
  refine(aKx t2 (o:=⟨3,0,[aE f.vals 1],[]⟩) (.inr rfl) (.inr rfl) (j:=j) (by omega) (by omega)).mono ?_
  rintro v e3 c3 ⟨rfl,⟨bv3,t3⟩,k3⟩
  have ht3:=t3.t
  try simp only[go_sem,kK,H,kB,kA,kF]
  refine aG ?_
  simp only[go_sem,ht3,fZ hv1,kG.ret,kA,kF]
  refine(qN t3 bJ (aE f.vals 1)).mono ?_
  rintro v e4 c4 ⟨rfl,t4,k4⟩
  refine⟨?_,t4,(k2.trans k3).trans k4⟩
  rw[hop];rfl
 ·rw[if_neg hI];rw[bRu]at hI
  refine jP func260 ?_
  simp only[go_sem,kK]
  refine cO 8 rfl ?_
  simp only[go_sem,bQs,bQq,ht,aP hv0];exact uU h (fQ hu) 3 hI
noncomputable def aS4 :{c//L 262=some c}:=cA func262
theorem bEx (P0:Pre p w0 S w a left f n)(h:TS kt kr en cnt p w a left f n [] bv)(hop:n.op=20):qU 262 kt kr en cnt p w a left f n (opR p w a left f n):=by
 have e:opR p w a left f n=(if bY w (aE f.vals 0) 6=true then
   (if(w.obj (aE f.vals 0).n).n=0 then .wait
   else if¬(w.obj (aE f.vals 0).n).n=1 then .fail (w.obj (aE f.vals 0).n).n
   else kD w a left 20 0 (aE (w.obj (aE f.vals 0).n).vals 0) (aE (w.obj (aE f.vals 0).n).vals 0))
  else .fail 2):=by unfold opR;rw[hop];rfl
 rw[e];have hfull:=P0.full;simp[aK.asks,hop]at hfull;have hv0:0<f.vals.length:=by omega
 have hu:=P0.val hv0;have H:=h.pre;have ht:=h.t
 by_cases hI:bY w (aE f.vals 0) 6=true
 ·rw[if_pos hI];obtain⟨a1,a2,a3,a4⟩:=eZ P0.hF hu hI;have hW:=uT h (fQ hu) 6 hI;generalize w.obj (aE f.vals 0).n=o at a2 a3 hW⊢
  by_cases h0:o.n=0
  ·rw[if_pos h0];have d0:decide (o.n=0)=true:=D_t h0
   refine fR aS4.2 rfl rfl ?_
   simp only[go_sem,kK,aS4]
   refine bR ?_
   simp only[go_sem,ht,aP hv0]
   refine hW.mono ?_
   rintro v e1 c1 ⟨rfl,⟨bv2,t2⟩,k2⟩
   simp only[go_sem,kK,d0];exact⟨rfl,h.fin t2 k2 (fun k hk hj=>by simp only[hj.set]) (by(repeat refine upS ?_ (by omega));exact aM _)⟩
  ·rw[if_neg h0];have d0:decide (o.n=0)=false:=D_f h0
   by_cases h1:o.n=1
   ·rw[if_neg (fun h=>h h1)]
    have d1:decide (o.n=1)=true:=D_t h1;have hl1:0<o.vals.length:=by
     have hk:=a2.ok;rw[dI,if_pos a3,jQ,if_neg h0,if_pos h1]at hk;simp only[bQj,bT8]at hk;omega
    refine fR aS4.2 rfl rfl ?_
    simp only[go_sem,kK,aS4]
    refine bR ?_
    simp only[go_sem,ht,aP hv0]
    refine hW.mono ?_
    rintro v e1 c1 ⟨rfl,⟨bv2,t2⟩,k2⟩
    simp only[go_sem,kK,d0,d1,aP hl1];obtain⟨⟨bv3,t3⟩,k3⟩:=h.fin t2 k2 (cnt2:=aC c1 0 3 (c1 0 3+1)) (en2:=(e1.set ⟨0,3,c1 0 3⟩ (some (.box [.i 0,.i 0,.cl [],.cl []] false))).set ⟨0,3,c1 0 3⟩ (some (.box [.i o.form,.i o.n,.fz (o.vals.map aD.enc),.fz (o.frames.map aB.enc)] false))) (fun k hk hj=>by simp only[hj.set]) (by(repeat refine upS ?_ (by omega));exact aM _)
    refine(qN t3 _ _).mono ?_
    rintro v e2 c2 ⟨rfl,t4,k4⟩
    refine⟨?_,t4,k3.trans k4⟩
    rw[hop];rfl
   ·rw[if_pos h1];have d1:decide (o.n=1)=false:=D_f h1
    refine jL aS4.2 rfl rfl ?_
    simp only[go_sem,kK,aS4]
    refine bR ?_
    simp only[go_sem,ht,aP hv0]
    refine hW.mono ?_
    rintro v e1 c1 ⟨rfl,⟨bv2,t2⟩,k2⟩
    simp only[go_sem,kK,d0,d1]
    refine cO 4 rfl ?_
    simp only[go_sem,bQs,bQq];exact⟨rfl,h.fell t2 k2 (fun k hk hj=>by simp only[hj.set]) (by(repeat refine upS ?_ (by omega));exact aM _)⟩
 ·rw[if_neg hI];rw[bRu]at hI
  refine jL aS4.2 rfl rfl ?_
  simp only[go_sem,kK,aS4]
  refine cO 8 rfl ?_
  simp only[go_sem,bQs,bQq,ht,aP hv0];exact uU h (fQ hu) 6 hI
theorem bEy (P0:Pre p w0 S w a left f n)(h:TS kt kr en cnt p w a left f n [] bv)(hop:n.op=23):qU 265 kt kr en cnt p w a left f n (opR p w a left f n):=by
 have e:opR p w a left f n=(if bY w (aE f.vals 0) 4=true then
   (if(w.obj (aE f.vals 0).n).vals.length=0 then .wait
   else kD (cW w (aE f.vals 0).n ⟨4,0,(w.obj (aE f.vals 0).n).vals.drop 1,[]⟩) a left 23 0 (aE (w.obj (aE f.vals 0).n).vals 0) (aE (w.obj (aE f.vals 0).n).vals 0))
  else .fail 2):=by unfold opR;rw[hop];rfl
 rw[e];have hfull:=P0.full;simp[aK.asks,hop]at hfull;have hv0:0<f.vals.length:=by omega
 have hu:=P0.val hv0;have h120:=P0.objs;have H:=h.pre;have ht:=h.t
 by_cases hI:bY w (aE f.vals 0) 4=true
 ·rw[if_pos hI];obtain⟨a1,a2,a3,a4⟩:=eZ P0.hF hu hI;have hW:=uT h (fQ hu) 4 hI;simp only[inR,bT8]at a1;obtain⟨j,hj⟩: ∃j:Nat,(aE f.vals 0).n=(j:Int):=⟨(aE f.vals 0).n.toNat,by omega⟩
  generalize w.obj (aE f.vals 0).n=o at a2 a3 hW⊢;have hk:=a2.ok;simp only[dI,a3]at hk
  simp at hk
  obtain⟨q1,q2,q3⟩:=hk
  by_cases h0:o.vals.length=0
  ·rw[if_pos h0];have d0:decide ((o.vals.length:Int)=0)=true:=D_t (by omega)
   have d0':decide (o.vals.length=0)=true:=D_t h0
   refine gR func265 ?_
   simp only[go_sem,kK]
   refine bR ?_
   simp only[go_sem,ht,aP hv0]
   refine hW.mono ?_
   rintro v e1 c1 ⟨rfl,⟨bv2,t2⟩,k2⟩
   simp only[go_sem,kK,bQl,d0];exact⟨rfl,h.fin t2 k2 (fun k hk hj=>by simp only[hj.set]) (by(repeat refine upS ?_ (by omega));exact aM _)⟩
  ·rw[if_neg h0];have d0:decide ((o.vals.length:Int)=0)=false:=D_f (by omega)
   have d0':decide (o.vals.length=0)=false:=D_f h0
   refine gR func265 ?_
   simp only[go_sem,kK]
   refine bR ?_
   simp only[go_sem,ht,aP hv0]
   refine hW.mono ?_
   rintro v e1 c1 ⟨rfl,⟨bv2,t2⟩,k2⟩
   have ht2:=t2.t;have z1:=t2.okt.set;simp only[go_sem,kK,z1,ht2,bQl,d0,aP (l:=o.vals) (by omega),aB7 (xs:=o.vals.map aD.enc) (by rw[bQl];omega) (sW _),<-bTh,aP hv0,hj]
   obtain⟨⟨bv3,t3⟩,k3⟩:=h.fin t2 k2 (cnt2:=aC (aC c1 0 3 (c1 0 3+1)) 0 4 (c1 0 4+1)) (en2:=((((e1.set ⟨0,3,c1 0 3⟩ (some (.box [.i 0,.i 0,.cl [],.cl []] false))).set ⟨0,3,c1 0 3⟩ (some (.box [.i o.form,.i o.n,.fz (o.vals.map aD.enc),.fz (o.frames.map aB.enc)] false))).set ⟨0,4,c1 0 4⟩ (some (.box [.i 0,.i 0] false))).set ⟨0,4,c1 0 4⟩ (some (.box [.i (aE o.vals 0).kind,.i (aE o.vals 0).n] false))).set ⟨0,3,c1 0 3⟩ (some (.box [.i o.form,.i o.n,.fz ((o.vals.drop 1).map aD.enc),.fz (o.frames.map aB.enc)] false))) (fun k hk hj=>by simp only[hj.set]) (by(repeat refine upS ?_ (by omega));exact aM _)
   refine(aKx t3 (o:=⟨o.form,o.n,o.vals.drop 1,o.frames⟩) (.inl rfl) (.inl rfl) (j:=j) (by omega) (by omega)).mono ?_
   rintro v e3 c3 ⟨rfl,⟨bv4,t4⟩,k4⟩
   obtain⟨p4,q4⟩:=k4.loc (d:=4) (g:=c1 0 4) (by simp only[go_sem];omega) t2.okt.ne.symm t2.okr.ne.symm
   simp only[go_sem]at p4;simp only[go_sem,p4]
   refine(qN t4 (aE o.vals 0) (aE o.vals 0)).mono ?_
   rintro v e5 c5 ⟨rfl,t5,k5⟩
   have eo:(⟨o.form,o.n,o.vals.drop 1,o.frames⟩:aN)=⟨4,0,o.vals.drop 1,[]⟩:=by rw[a3,q1,q2]
   rw[eo]at t5
   refine⟨?_,t5,(k3.trans k4).trans k5⟩
   rw[hop];rfl
 ·rw[if_neg hI];rw[bRu]at hI
  refine jP func265 ?_
  simp only[go_sem,kK]
  refine cO 8 rfl ?_
  simp only[go_sem,bQs,bQq,ht,aP hv0];exact uU h (fQ hu) 4 hI
theorem bEz (P0:Pre p w0 S w a left f n)(h:TS kt kr en cnt p w a left f n [] bv)(hop:n.op=24):qU 266 kt kr en cnt p w a left f n (opR p w a left f n):=by
 have e:opR p w a left f n=(if¬(aE f.vals 0).kind=1 then .fail 2
  else if 100<=w.outs.length then .fail 4
  else kD ⟨w.objs,w.tasks,w.outs++[⟨n.n,(aE f.vals 0).n⟩],w.ins,w.used⟩ a left 24 n.n bJ (aE f.vals 0)):=by unfold opR;rw[hop];rfl
 rw[e];have hfull:=P0.full;simp[aK.asks,hop]at hfull;have hv0:0<f.vals.length:=by omega
 have h100:w.outs.length<=100:=(cD.1 P0.hF.ok).2.1;have H:=h.pre;have ht:=h.t;have hr:=h.r
 by_cases h1:(aE f.vals 0).kind=1
 ·rw[if_neg (fun h=>h h1)]
  have d1:decide ((aE f.vals 0).kind=1)=true:=D_t h1
  by_cases hc:100<=w.outs.length
  ·rw[if_pos hc];have d2:decide ((w.outs.length:Int)<100)=false:=D_f (by omega)
   refine jP func266 ?_
   simp only[go_sem,kK,ht,aP hv0]
   refine bR ?_
   simp only[go_sem,d1,(gX _).ret]
   refine cO 10 rfl ?_
   simp only[go_sem,bQs,bQq,H,ht,hr,bQl,d2,(kE _).ret];exact h.fell0 (fun k hk=>by simp only[hk.set]) (by(repeat refine upS ?_ (by omega));exact aM _)
  ·rw[if_neg hc];have d2:decide ((w.outs.length:Int)<100)=true:=D_t (by omega)
   have hl:w.outs.length+1<=16777216:=by omega
   have hd1:cT 2 [.agg [.i n.n,.i (aE f.vals 0).n]]=true:=rfl;have hL:=at_ func266
   conv at hL=>rhs;reduce
   refine rL hL rfl rfl ?_
   simp only[go_sem,kK,ht,aP hv0]
   refine bR ?_
   simp only[go_sem,d1,(gX _).ret]
   refine bR ?_
   simp only[go_sem,H,ht,hr,bQl,d2,(gX _).ret]
   refine aG ?_
   simp only[go_sem,ht,hr,H,kB,bQl,(aSj _).ret,bP,eB,uS,aPl,hd1,hl,rX,kA,kF]
   refine aG ?_
   simp only[go_sem,H,kG.ret,kA,kF];have hu: ∀t,cnt 0 t<=aC (aC cnt 0 3 (cnt 0 3+1)) 0 48 (cnt 0 48+1) 0 t:=(by(repeat refine upS ?_ (by omega));exact aM _)
   refine(aNn (f:=f) (n:=n) (by simp only[H];exact ht) (h.okt.up hu) bJ (aE f.vals 0)).mono ?_
   rintro v e1 c1 ⟨rfl,tb,old,up⟩
   have h0:TS kt kr (en.set kt (some (.box [.ptr kr 0,.i a,.fz (left.map aB.enc),.i f.node,.fz (f.env.map aD.enc),.fz (f.vals.map aD.enc),.i n.op,.i n.n,.is n.kids,.fz (n.pats.map Pat.enc),.cl [.agg [.i bJ.kind,.i bJ.n]]] false))) cnt p w a left f n [bJ] (.cl [.agg [.i bJ.kind,.i bJ.n]]):=⟨h.okt,h.okr,h.ne,.inr rfl,cC,by rw[aI h.ne];exact hr⟩
   have o48:=old ⟨0,48,cnt 0 48⟩ ⟨rfl,by simp only[go_sem];omega⟩ h.okt.ne.symm
   simp only[go_sem,H]at o48;have okr:=old kr (h.okr.up hu) h.ne;simp only[go_sem]at okr;have hA:w.outs.map bL.enc++[.agg [.i n.n,.i (aE f.vals 0).n]]=(w.outs++[(⟨n.n,(aE f.vals 0).n⟩:bL)]).map bL.enc:=by simp[bL.enc]
   rw[hA]at o48;have hF:=bBx h0 (w':=⟨w.objs,w.tasks,w.outs++[⟨n.n,(aE f.vals 0).n⟩],w.ins,w.used⟩) (E:=e1) (c:=c1) (by rw[tb,cC]) okr rfl rfl (sX o48 (by simp)) rfl (by simp) (fun k hk k1 k2=>by rw[old k (hk.up hu) k1,aI k1,aI k2,hk.set,hk.set,hk.set]) (fun t=>bQv (hu t) (up t))
   split at hF
   case h_2=>exact hF.elim
   rename_i E2 hE2;rw[hE2]
   refine⟨?_,hF.1,fun k hk k1 k2=>(hF.2.old k hk k1 k2).trans (aI k1),hF.2.up⟩
   rw[hop];rfl
 ·rw[if_pos h1];have d1:decide ((aE f.vals 0).kind=1)=false:=D_f h1
  refine jP func266 ?_
  simp only[go_sem,kK,ht,aP hv0]
  refine cO 3 rfl ?_
  simp only[go_sem,bQs,bQq,d1,(kE _).ret];exact h.fell0 (fun k hk=>by simp only[hk.set]) (by(repeat refine upS ?_ (by omega));exact aM _)
theorem bE0 {xs:List Int}:mA 1 en (.fz (.i x::xs.map (.int .i64))) (.i 0)=some {v:= .fp [.i x] 0}:=(rfl)
theorem bE1 (P0:Pre p w0 S w a left f n)(h:TS kt kr en cnt p w a left f n [] bv)(hop:n.op=25):qU 267 kt kr en cnt p w a left f n (opR p w a left f n):=by
 have e:opR p w a left f n=(match w.ins with
  |[]=> .wait
  |x::xs=>if 1000000000<=w.used then .fail 4 else kD ⟨w.objs,w.tasks,w.outs,xs,w.used+1⟩ a left 25 0 (mS x) (mS x)):=by unfold opR;rw[hop];rfl
 rw[e];have h50:w.used<=1000000000/\ 0<=w.used:=by
  have:=(cD.1 P0.hF.ok).2.2.2.1;simp only[inR,bT8]at this;omega
 have H:=h.pre;have hn:=h.ne;have ht:=h.t;have hr:=h.r;cases hi:w.ins with
 |nil=>
  rw[hi]at hr;simp only[Val.is,bQ1]at hr
  refine gR func267 ?_
  simp only[go_sem,kK,ht,hr,bQz];exact⟨rfl,⟨bv,h⟩,dR.refl _ _ _ _⟩
 |cons x xs=>
  rw[hi]at hr;simp only[Val.is,bRj]at hr;have hlx:xs.length<=50:=by
   have:=(cD.1 P0.hF.ok).2.2.1;rw[hi]at this;simp only[nJ,bQj,bT8,bQu]at this;omega
  have d0:decide ((xs.length+1:Nat)=0)=false:=D_f (by omega)
  have d0':decide (((xs.length+1:Nat):Int)=0)=false:=D_f (by omega)
  simp only
  by_cases hu:1000000000<=w.used
  ·rw[if_pos hu];have d1:decide (w.used<1000000000)=false:=D_f (by omega)
   refine jP func267 ?_
   simp only[go_sem,kK,ht,hr,bQu,bQl,d0']
   refine cO 9 rfl ?_
   simp only[go_sem,bQs,bQq,ht,hr,d1,(kE _).ret];exact h.fell0 (fun _ _=>rfl) (aM _)
  ·rw[if_neg hu];have d1:decide (w.used<1000000000)=true:=D_t (by omega)
   have hw:IntKind.i64.wrap (w.used+1)=w.used+1:=aV (by omega)
   refine gR func267 ?_
   simp only[go_sem,kK,ht,hr,bQu,bQl,d0']
   refine bR ?_
   simp only[go_sem,ht,hr,d1,(gX _).ret];simp only[go_sem,H,ht,hr,bE0,(tH _).ret,aB7 (size:=1) (xs:= .i x::xs.map (.int .i64)) (by simp) rfl,hw]
   refine WIn.mono (qN (w:=⟨w.objs,w.tasks,w.outs,xs,w.used+1⟩) (left:=left) (back:=[]) (bv:=bv) ⟨h.okt.up (by(repeat refine upS ?_ (by omega));exact aM _),h.okr.up (by(repeat refine upS ?_ (by omega));exact aM _),hn,h.ob,by simp only[H];exact ht,cC⟩ (mS x) (mS x)) ?_
   rintro v e2 c2 ⟨rfl,t4,k4⟩
   refine⟨?_,t4,(show dR kt kr en cnt _ _ from⟨fun k hk a b=>by simp only[hk.set,aI b],(by(repeat refine upS ?_ (by omega));exact aM _)⟩).trans k4⟩
   rw[hop];rfl
theorem bE2 (P0:Pre p w0 S w a left f n)(h:TS kt kr en cnt p w a left f n [] bv)(hop:n.op=22):qU 264 kt kr en cnt p w a left f n (opR p w a left f n):=by
 have e:opR p w a left f n=(if bY w (aE f.vals 0) 4=true then
   (if 4<=(w.obj (aE f.vals 0).n).vals.length then .wait
   else kD (cW w (aE f.vals 0).n ⟨4,0,(w.obj (aE f.vals 0).n).vals++[aE f.vals 1],[]⟩) a left 22 0 bJ (aE f.vals 1))
  else .fail 2):=by unfold opR;rw[hop];rfl
 rw[e];have hfull:=P0.full;simp[aK.asks,hop]at hfull;have hv0:0<f.vals.length:=by omega
 have hv1:1<f.vals.length:=by omega
 have hu:=P0.val hv0;have h120:=P0.objs;have H:=h.pre;have ht:=h.t
 by_cases hI:bY w (aE f.vals 0) 4=true
 ·rw[if_pos hI];obtain⟨a1,a2,a3,a4⟩:=eZ P0.hF hu hI;have hW:=uT h (fQ hu) 4 hI;simp only[inR,bT8]at a1;obtain⟨j,hj⟩: ∃j:Nat,(aE f.vals 0).n=(j:Int):=⟨(aE f.vals 0).n.toNat,by omega⟩
  generalize w.obj (aE f.vals 0).n=o at a2 a3 hW⊢;have hk:=a2.ok;simp only[dI,a3]at hk
  simp at hk
  obtain⟨q1,q2,q3⟩:=hk;have hq4:o.vals.length<=4:=by
   simp only[bA,bQj,bT8]at q3;omega
  by_cases h0:4<=o.vals.length
  ·rw[if_pos h0];have d0:decide ((o.vals.length:Int)=4)=true:=D_t (by omega)
   have d0':decide (o.vals.length=4)=true:=D_t (by omega)
   refine gR func264 ?_
   simp only[go_sem,kK]
   refine bR ?_
   simp only[go_sem,ht,aP hv0]
   refine hW.mono ?_
   rintro v e1 c1 ⟨rfl,⟨bv2,t2⟩,k2⟩
   simp only[go_sem,kK,bQl,d0];exact⟨rfl,h.fin t2 k2 (fun k hk hj=>by simp only[hj.set]) (by(repeat refine upS ?_ (by omega));exact aM _)⟩
  ·rw[if_neg h0];have d0:decide ((o.vals.length:Int)=4)=false:=D_f (by omega)
   have d0':decide (o.vals.length=4)=false:=D_f (by omega)
   refine gR func264 ?_
   simp only[go_sem,kK]
   refine bR ?_
   simp only[go_sem,ht,aP hv0]
   refine hW.mono ?_
   rintro v e1 c1 ⟨rfl,⟨bv2,t2⟩,k2⟩
   have ht2:=t2.t;have z1:=t2.okt.set;have z2:=t2.okr.set;have z3:=t2.okt.eqF;have z4:=t2.okt.eqF';have hl:o.vals.length+1<=16777216:=by omega
   simp only[go_sem,kK,bQl,d0]
   refine aG ?_
   simp only[go_sem,kB,z1,ht2,(aA3 _).ret,fZ hv1,bP,eB,uS,sW,aBy,hl,bQl,rX,aP hv0,hj,kA,kF];have hA:o.vals.map aD.enc++[.agg [.i (aE f.vals 1).kind,.i (aE f.vals 1).n]]=(o.vals++[aE f.vals 1]).map aD.enc:=by simp[aD.enc]
   rw[hA,show o.vals.length+1=(o.vals++[aE f.vals 1]).length by simp]
   refine WIn.mono (aU3 (o:=⟨o.form,o.n,o.vals++[aE f.vals 1],o.frames⟩) (t:=30) (g:=c1 0 30) (t2.to (by simp only[z1]) (by simp only[z2]) (by(repeat refine upS ?_ (by omega));exact aM _)) (b:=!(o.vals.map aD.enc).isEmpty) (by simp only[go_sem]) (by simp only[go_sem];omega) (.inl rfl) (j:=j) (by omega) (by omega)) ?_
   rintro v e3 c3 ⟨rfl,⟨bv3,t3⟩,old3,up3⟩
   have ht3:=t3.t
   try simp only[go_sem,kK,H,kB]
   refine aG ?_
   simp only[go_sem,ht3,fZ hv1,kG.ret,kA,kF]
   refine(qN t3 bJ (aE f.vals 1)).mono ?_
   rintro v e4 c4 ⟨rfl,t4,k4⟩
   have eo:(⟨o.form,o.n,o.vals++[aE f.vals 1],o.frames⟩:aN)=⟨4,0,o.vals++[aE f.vals 1],[]⟩:=by rw[a3,q1,q2]
   rw[eo]at t4;have hu1: ∀t,c1 0 t<=aC (aC c1 0 3 (c1 0 3+1)) 0 30 (c1 0 30+1) 0 t:=(by(repeat refine upS ?_ (by omega));exact aM _)
   refine⟨?_,t4,(show dR kt kr en cnt e3 c3 from⟨fun k hk x y=>?_,fun t=>bQv (k2.up t) (bQv (hu1 t) (up3 t))⟩).trans k4⟩
   ·rw[hop];rfl
   ·have hk1:=hk.up k2.up;rw[old3 k (hk1.up hu1) x y hk1.ne,hk1.set,hk1.set,hk1.set,hk1.set];exact k2.old k hk x y
 ·rw[if_neg hI];rw[bRu]at hI
  refine jP func264 ?_
  simp only[go_sem,kK]
  refine cO 8 rfl ?_
  simp only[go_sem,bQs,bQq,ht,aP hv0];exact uU h (fQ hu) 4 hI
def oO :List Nat:=[247,247,247,248,249,250,251,252,253,253,253,254,255,256,257,258,259,260,261,262,263,264,265,266,267,268,269,270]
def bH9 :List Val:= .nilf::oO.map fun f=> .fn f [] []
theorem aMm :PC L 208 [] (.agg bH9):=by
 exact⟨12,fun n hn=>aAj hn (show lH L 12 208 []=some (.agg bH9)by kernel_rfl)⟩
theorem bCf (P0:Pre p w0 S w a left f n)(h:TS kt kr en cnt p w a left f n [] bv):qU (oO.getD (n.op.toNat-1) 0) kt kr en cnt p w a left f n (opR p w a left f n):=by
 obtain⟨o1,o2⟩:=aLd P0.node;have ho:n.op=1 \/n.op=2 \/n.op=3 \/n.op=4 \/n.op=5 \/n.op=6 \/n.op=7 \/n.op=8 \/n.op=9 \/n.op=10 \/n.op=11 \/n.op=12 \/n.op=13 \/n.op=14 \/n.op=15 \/n.op=16 \/n.op=17 \/n.op=18 \/n.op=19 \/n.op=20 \/n.op=21 \/n.op=22 \/n.op=23 \/n.op=24 \/n.op=25 \/n.op=26 \/n.op=27 \/n.op=28:=by omega
 rcases ho with ho|ho|ho|ho|ho|ho|ho|ho|ho|ho|ho|ho|ho|ho|ho|ho|ho|ho|ho|ho|ho|ho|ho|ho|ho|ho|ho|ho
 ·rw[show oO.getD (n.op.toNat-1) 0=247 from by rw[ho];rfl];exact bH1 h ho
 ·rw[show oO.getD (n.op.toNat-1) 0=247 from by rw[ho];rfl];exact bH3 h ho
 ·rw[show oO.getD (n.op.toNat-1) 0=247 from by rw[ho];rfl];exact bH4 h ho
 ·rw[show oO.getD (n.op.toNat-1) 0=248 from by rw[ho];rfl];exact bH5 P0 h ho
 ·rw[show oO.getD (n.op.toNat-1) 0=249 from by rw[ho];rfl];exact bH6 P0 h ho
 ·rw[show oO.getD (n.op.toNat-1) 0=250 from by rw[ho];rfl];exact bH8 P0 h ho
 ·rw[show oO.getD (n.op.toNat-1) 0=251 from by rw[ho];rfl];exact bH2 P0 h ho
 ·rw[show oO.getD (n.op.toNat-1) 0=252 from by rw[ho];rfl];exact bH7 P0 h ho
 ·rw[show oO.getD (n.op.toNat-1) 0=253 from by rw[ho];rfl];exact aLh P0 h (by omega)
 ·rw[show oO.getD (n.op.toNat-1) 0=253 from by rw[ho];rfl];exact aLh P0 h (by omega)
 ·rw[show oO.getD (n.op.toNat-1) 0=253 from by rw[ho];rfl];exact aLh P0 h (by omega)
 ·rw[show oO.getD (n.op.toNat-1) 0=254 from by rw[ho];rfl];exact bEn P0 h ho
 ·rw[show oO.getD (n.op.toNat-1) 0=255 from by rw[ho];rfl];exact bEs P0 h ho
 ·rw[show oO.getD (n.op.toNat-1) 0=256 from by rw[ho];rfl];exact bEm P0 h ho
 ·rw[show oO.getD (n.op.toNat-1) 0=257 from by rw[ho];rfl];exact bEo P0 h ho
 ·rw[show oO.getD (n.op.toNat-1) 0=258 from by rw[ho];rfl];exact bEt P0 h ho
 ·rw[show oO.getD (n.op.toNat-1) 0=259 from by rw[ho];rfl];exact bEv P0 h ho
 ·rw[show oO.getD (n.op.toNat-1) 0=260 from by rw[ho];rfl];exact bEw P0 h ho
 ·rw[show oO.getD (n.op.toNat-1) 0=261 from by rw[ho];rfl];exact bEr P0 h ho
 ·rw[show oO.getD (n.op.toNat-1) 0=262 from by rw[ho];rfl];exact bEx P0 h ho
 ·rw[show oO.getD (n.op.toNat-1) 0=263 from by rw[ho];rfl];exact bEu P0 h ho
 ·rw[show oO.getD (n.op.toNat-1) 0=264 from by rw[ho];rfl];exact bE2 P0 h ho
 ·rw[show oO.getD (n.op.toNat-1) 0=265 from by rw[ho];rfl];exact bEy P0 h ho
 ·rw[show oO.getD (n.op.toNat-1) 0=266 from by rw[ho];rfl];exact bEz P0 h ho
 ·rw[show oO.getD (n.op.toNat-1) 0=267 from by rw[ho];rfl];exact bE1 P0 h ho
 ·rw[show oO.getD (n.op.toNat-1) 0=268 from by rw[ho];rfl];exact bEk P0 h ho
 ·rw[show oO.getD (n.op.toNat-1) 0=269 from by rw[ho];rfl];exact bEp P0 h ho
 ·rw[show oO.getD (n.op.toNat-1) 0=270 from by rw[ho];rfl];exact bEl h ho
theorem aWp {o m:Int}{F E B:Val}{es vs ks ps bs:List Val}{KK:List Key}(h:en kt=some (.box [.ptr kr 0,.i a,F,.i i,E,V,.i o,.i m,K,P,B] false))(hF:cN en F=some (.fz xs,KK))(hE:iZ E es)(hV:iZ V vs)(hK:iZ K ks)(hP:iZ P ps)(hB:iZ B bs)(hk:kt∉KK):
  oH (.ptr kt 0) [[]] en=some ((W.applyAll en (KK.map .frz)).set kt (some (.box [.ptr kr 0,.i a,.fz xs,.i i,.fz es,.fz vs,.i o,.i m,.fz ks,.fz ps,.fz bs] false))):=by
 have:=aE0 (rs:=[(.ptr kr 0,[]),(.i a,[]),(.fz xs,KK),(.i i,[]),(.fz es,[]),(.fz vs,[]),(.i o,[]),(.i m,[]),(.fz ks,[]),(.fz ps,[]),(.fz bs,[])]) h (by simp only[aBu,aEf,aSk,aEz,hF,rG hE,rG hV,rG hK,rG hP,rG hB]) (by simpa using hk)
 simp only[bS5,bSn,bRk,bRo,bRj,bQ1]at this;exact aKv this
structure TB (kt kr:Key) (en:En) (cnt:Nat->Nat->Nat) (p:aF) (w:aA) (a:Int) (n:aK) (K P:Val):Prop where
 okt:Old kt cnt
 okr:Old kr cnt
 ne:kr≠kt
 hK:iZ K (n.kids.map (.int .i64))
 hP:iZ P (n.pats.map Pat.enc)
 t:en kt=some (.box [.ptr kr 0,.i a,.cl [],.i 0,.cl [],.cl [],.i n.op,.i n.n,K,P,.cl []] false)
 r:en kr=some (.box [.fz (p.nodes.map aK.enc),.is p.funs,.i p.main,.fz (p.cons.map cV.enc),.fz (w.objs.map aN.enc),.is w.tasks,.fz (w.outs.map bL.enc),.is w.ins,.i w.used] false)
theorem TB.pre (h:TB kt kr en cnt p w a n K P):type_of%(bEe h.okt h.okr h.ne):=bEe h.okt h.okr h.ne
theorem tL (h:TB kt kr en cnt p w a n K P){lv:Val}(hl:iZ lv (l.map aB.enc))(hc:l.length<=40):
  WIn L (.fn 204 [] []) [.ptr kt 0,lv] en cnt fun v en' cnt'=>v= .tup []/\ (∃bv',TS kt kr en' cnt' p w a l ⟨0,[],[]⟩ n [] bv')/\ dR kt kr en cnt en' cnt':=by
 have hw:IntKind.i64.wrap ((0:Int)+(l.length:Int))=((l.length:Nat):Int):=by rw[aV (by omega)];omega
 have hw':IntKind.i64.wrap (l.length:Int)=((l.length:Nat):Int):=aV (by omega)
 have d:decide (((l.length:Nat):Int)<=40)=true:=D_t (by omega)
 have hlen:tP lv=some l.length:=by rw[hl.len,bQl]
 have hel:=hl.elems;have s1:=h.okt.set;have s2:=h.okr.set;have n1:=h.okt.new;have hl16:l.length<=16777216:=by omega
 have hC:=aCn [];have ht:=h.t;have hr:=h.r;have hL:=at_ func204
 conv at hL=>rhs;reduce
 refine rL hL rfl rfl ?_
 simp only[go_sem,kK]
 refine bR ?_
 simp only[go_sem,ht,hlen,bQz,Int.natCast_zero,Int.zero_add,hw',d,(gX _).ret,hC.ret,bP,eB,hel,uS,jB,aDi,bRg,bQl,hl16]
 by_cases hl0:l=[]
 ·subst hl0;simp only[go_sem,bQ1,aKu,pZ,lA,ht];rw[aWp (KK:=[]) (es:=[]) (vs:=[]) (bs:=[]) cC rfl (.inr rfl) (.inr rfl) h.hK h.hP (.inr rfl) (by simp)]
  simp only[bQ1,fN];exact⟨⟨_,h.okt,h.okr,h.ne,.inl rfl,cC,by rw[aI h.ne,aI h.ne];exact hr⟩,fun k hk a b=>by rw[aI a,aI a],fun _=>bQk _⟩
 ·have hne:l.map aB.enc≠[]:=by simpa using hl0
  have nk:kt≠⟨0,21,cnt 0 21⟩:=h.okt.ne;have nr:kr≠⟨0,21,cnt 0 21⟩:=h.okr.ne;simp only[go_sem,aBz hne,uP,nM,s1,ht,bQl];rw[aWp (KK:=[⟨0,21,cnt 0 21⟩]) (xs:=l.map aB.enc) (es:=[]) (vs:=[]) (bs:=[]) cC (sX (by rw[n1];exact cC) (by simp)) (.inr rfl) (.inr rfl) h.hK h.hP (.inr rfl) (by simpa using nk)]
  simp only[bRj,bQ1,kL,fN];have hu:=upS (aM cnt) (a:=21) (x:=cnt 0 21+1) (by omega)
  refine⟨⟨_,h.okt.up hu,h.okr.up hu,h.ne,.inl rfl,cC,?_⟩,fun k hk a b=>?_,hu⟩
  ·rw[aI h.ne,pI nr,aI h.ne,s2];exact hr
  ·rw[aI a,pI hk.ne,aI a,hk.set]
theorem aGp (h:k<l.length):mA 3 en (.fz (l.map aB.enc)) (.i (k:Int))=some {v:= .fp [.i (l.getD k dV).node,.fz ((l.getD k dV).env.map aD.enc),.fz ((l.getD k dV).vals.map aD.enc)] 0}:=by
 have e:l.getD k dV=l[k]:=by simp[bQn,h]
 rw[e];simp[mA,h,aB.enc];exact⟨rfl,rfl⟩
theorem bCg (v:aD)(h:0<l.length):aA2 l v=l.take (l.length-1)++[⟨(l.getD (l.length-1) dV).node,(l.getD (l.length-1) dV).env,(l.getD (l.length-1) dV).vals++[v]⟩]:=by
 unfold aA2;generalize (⟨(l.getD (l.length-1) dV).node,(l.getD (l.length-1) dV).env,(l.getD (l.length-1) dV).vals++[v]⟩:aB)=x;rw[List.set_eq_take_append_cons_drop,if_pos (by omega),Nat.sub_add_cancel (by omega),bSh]
def aHv (p:aF)(w:aA)(a:Int)(o:aN):OpR:=
 if o.vals.length=0 then
  (if(((o.frames.getD (o.frames.length-1) dV).vals.length:Nat):Int)<(p.node (o.frames.getD (o.frames.length-1) dV).node).asks then
   pL w o.frames [⟨oN (p.node (o.frames.getD (o.frames.length-1) dV).node) (o.frames.getD (o.frames.length-1) dV).vals.length,(o.frames.getD (o.frames.length-1) dV).env,[]⟩]
  else opR p w a (o.frames.take (o.frames.length-1)) (o.frames.getD (o.frames.length-1) dV) (p.node (o.frames.getD (o.frames.length-1) dV).node))
 else .go none w (aA2 o.frames (aE o.vals 0)) []
def aWq (kt kr:Key)(en:En)(cnt:Nat->Nat->Nat)(p:aF)(w:aA)(a:Int)(o:aN):OpR->Prop
 | .go ev w' left' back=>WIn L (.fn 171 [] []) [.ptr kt 0,.agg [.i o.form,.i o.n,.fz (o.vals.map aD.enc),.fz (o.frames.map aB.enc)]] en cnt fun r en' cnt'=>r=aNv ev/\ (∃f' n' bv',TS kt kr en' cnt' p w' a left' f' n' back bv')/\ dR kt kr en cnt en' cnt'
 | .wait=>WIn L (.fn 171 [] []) [.ptr kt 0,.agg [.i o.form,.i o.n,.fz (o.vals.map aD.enc),.fz (o.frames.map aB.enc)]] en cnt fun r en' cnt'=>r=aWf/\ (∃left' f' n' back' bv',TS kt kr en' cnt' p w a left' f' n' back' bv')/\ dR kt kr en cnt en' cnt'
 | .fail s=>vC L 171 [.ptr kt 0,.agg [.i o.form,.i o.n,.fz (o.vals.map aD.enc),.fz (o.frames.map aB.enc)]] en cnt (oY kt kr en cnt p s)
def sC :aK:=⟨0,0,[],[]⟩
theorem aU9 (h:TB kt kr en cnt p w a sC K P){o:aN}(hv:o.vals.length=1)(hf0:0<o.frames.length)(hf:o.frames.length<=40)(hfv:(o.frames.getD (o.frames.length-1) dV).vals.length<=1000):
  aWq kt kr en cnt p w a o (.go none w (aA2 o.frames (aE o.vals 0)) []):=by
 have H:=h.pre;have ht:=h.t;have hr:=h.r;have hw1:IntKind.i64.wrap ((o.frames.length:Int)-1)=((o.frames.length-1:Nat):Int):=by rw[aV (by omega)];omega
 have dv:decide ((0:Int)<(o.vals.length:Int))=true:=D_t (by omega)
 have hLz:=at_ func171
 conv at hLz=>rhs;reduce
 refine fR hLz rfl rfl ?_
 have hia:=fun en=>aGp (l:=o.frames) (en:=en) (k:=o.frames.length-1) (by omega)
 have hsh:=fun en=>wR (size:=3) (xs:=o.frames.map aB.enc) (en:=en) (k:=o.frames.length-1) (by rw[bQl];omega)
 have hv0:0<o.vals.length:=by omega
 simp only[go_sem,kK,bQl,hw1,dv,hia];rw[bCg _ hf0];generalize o.frames.getD (o.frames.length-1) dV=f0 at hia hfv⊢;have u1: ∀t,cnt 0 t<=aC (aC cnt 0 3 (cnt 0 3+1)) 0 6 (cnt 0 6+1) 0 t:=(by(repeat refine upS ?_ (by omega));exact aM _)
 have b1:TB kt kr (((en.set ⟨0,3,cnt 0 3⟩ (some (.box [.i o.form,.i o.n,.fz (o.vals.map aD.enc),.fz (o.frames.map aB.enc)] false))).set ⟨0,6,cnt 0 6⟩ (some (.box [.i 0,.cl [],.cl []] false))).set ⟨0,6,cnt 0 6⟩ (some (.box [.i f0.node,.fz (f0.env.map aD.enc),.fz (f0.vals.map aD.enc)] false))) (aC (aC cnt 0 3 (cnt 0 3+1)) 0 6 (cnt 0 6+1)) p w a sC K P:=
  ⟨h.okt.up u1,h.okr.up u1,h.ne,h.hK,h.hP,by simp only[H];exact ht,by simp only[H];exact hr⟩
 refine bR ?_
 simp only[go_sem,hsh]
 refine(tL b1 (l:=o.frames.take (o.frames.length-1)) (.inl (by rw[bSc])) (by rw[bR2];omega)).mono ?_
 rintro v e1 c1 ⟨rfl,⟨bv1,t1⟩,k1⟩
 obtain⟨p3,q3⟩:=k1.loc (d:=3) (g:=cnt 0 3) (by simp[aC]) h.okt.ne.symm h.okr.ne.symm
 obtain⟨p6,q6⟩:=k1.loc (d:=6) (g:=cnt 0 6) (by simp[aC]) h.okt.ne.symm h.okr.ne.symm
 simp only[go_sem]at p3 p6
 try simp only[go_sem,kK]
 refine jG ?_
 have ht1:=t1.t;have hl:f0.vals.length+1<=16777216:=by omega
 simp only[go_sem,kB,p3,p6,(aA3 _).ret,aP hv0,bP,eB,uS,sW,aBy,hl,bQl,rX,kA,kF];have hA:f0.vals.map aD.enc++[.agg [.i (aE o.vals 0).kind,.i (aE o.vals 0).n]]=(f0.vals++[aE o.vals 0]).map aD.enc:=by simp[aD.enc]
 have hL:f0.vals.length+1=(f0.vals++[aE o.vals 0]).length:=by simp
 generalize hvv:f0.vals++[aE o.vals 0]=vv at hA hL⊢;simp only[hA,hL];have hT:List.take vv.length (vv.map aD.enc)=vv.map aD.enc:=by rw[bQ3 (by simp)]
 simp only[go_sem,bQl,bRg,bQk,hT];obtain⟨⟨bv2,t2⟩,k2⟩:=t1.stay (cnt':=aC c1 0 41 (c1 0 41+1)) (en':=(e1.set ⟨0,41,c1 0 41⟩ (some (.blk 2 (vv.map aD.enc) (!(f0.vals.map aD.enc).isEmpty)))).set ⟨0,41,c1 0 41⟩ (some (.blk 2 (vv.map aD.enc) true))) (fun k hk=>by simp only[hk.set]) (by(repeat refine upS ?_ (by omega));exact aM _)
 refine(aE1 t2 (l:=[⟨f0.node,f0.env,vv⟩]) (.inr rfl) (by simp only[bR2,bQu,bQz];omega)).mono ?_
 rintro v e3 c3 ⟨_,⟨bv3,t3⟩,k3⟩
 have k0:dR kt kr en cnt e1 c1:=⟨fun x hx y1 y2=>by rw[k1.old x (hx.up u1) y1 y2];simp only[hx.set],fun t=>bQv (u1 t) (k1.up t)⟩
 exact⟨rfl,⟨_,_,bv3,t3⟩,(k0.trans k2).trans k3⟩
theorem bCh (h:TB kt kr en cnt p w a sC K P){o:aN}(hv:o.vals.length=0)(hf0:0<o.frames.length)(hf:o.frames.length<=40)(hff:o.frames.getD (o.frames.length-1) dV=f0)(hni:inR f0.node 0 ((p.nodes.length:Int)-1)=true)
   (hnd:p.node f0.node=nd) (hk:(f0.vals.length:Int)<nd.asks) (hkl:f0.vals.length<nd.kids.length):
  aWq kt kr en cnt p w a o (pL w o.frames [⟨oN nd f0.vals.length,f0.env,[]⟩]):=by
 have H:=h.pre;have hn:=h.ne;have ht:=h.t;have hr:=h.r;have hw1:IntKind.i64.wrap ((o.frames.length:Int)-1)=((o.frames.length-1:Nat):Int):=by rw[aV (by omega)];omega
 have dv:decide ((0:Int)<(o.vals.length:Int))=false:=D_f (by omega)
 have hia:=fun en=>aGp (l:=o.frames) (en:=en) (k:=o.frames.length-1) (by omega)
 rw[hff]at hia;have hin:=fun en=>bH (k:= .i64) (p:=p) (en:=en) hni
 rw[hnd]at hin;have dk:decide ((f0.vals.length:Int)<nd.asks)=true:=D_t hk;have hA:=sV nd;have u1: ∀t,cnt 0 t<=aC (aC cnt 0 3 (cnt 0 3+1)) 0 7 (cnt 0 7+1) 0 t:=(by(repeat refine upS ?_ (by omega));exact aM _)
 have b1:TB kt kr ((((en.set ⟨0,3,cnt 0 3⟩ (some (.box [.i o.form,.i o.n,.fz (o.vals.map aD.enc),.fz (o.frames.map aB.enc)] false))).set ⟨0,7,cnt 0 7⟩ (some (.box [.i 0,.cl [],.cl []] false))).set ⟨0,7,cnt 0 7⟩ (some (.box [.i f0.node,.fz (f0.env.map aD.enc),.fz (f0.vals.map aD.enc)] false))).set kt (some (.box [.ptr kr 0,.i a,.cl [],.i 0,.cl [],.cl [],.i nd.op,.i nd.n,.is nd.kids,.fz (nd.pats.map Pat.enc),.cl []] false))) (aC (aC cnt 0 3 (cnt 0 3+1)) 0 7 (cnt 0 7+1)) p w a nd (.is nd.kids) (.fz (nd.pats.map Pat.enc)):=
  ⟨h.okt.up u1,h.okr.up u1,h.ne,.inl rfl,.inl rfl,cC,by rw[aI hn];simp only[H];exact hr⟩
 unfold pL
 by_cases hc:40<(o.frames++[(⟨oN nd f0.vals.length,f0.env,[]⟩:aB)]).length
 ·rw[if_pos hc];simp only[bQ2,bQu,bQz]at hc
  refine jP func171 ?_
  simp only[go_sem,kK,H,bQl,hw1,dv,hia,ht,hr,hin,hA.ret,dk]
  refine bR ?_
  simp only[go_sem,H]
  refine(tL b1 (l:=o.frames) (.inl rfl) (by omega)).mono ?_
  rintro v e1 c1 ⟨rfl,⟨bv1,t1⟩,k1⟩
  obtain⟨p7,q7⟩:=k1.loc (d:=7) (g:=cnt 0 7) (by simp[aC]) h.okt.ne.symm h.okr.ne.symm
  rw[aI h.okt.ne.symm,cC]at p7
  try simp only[go_sem,kK]
  have k0:dR kt kr en cnt e1 c1:=⟨fun x hx y1 y2=>by rw[k1.old x (hx.up u1) y1 y2,aI y1];simp only[hx.set],fun t=>bQv (u1 t) (k1.up t)⟩
  refine cO 4 rfl ?_
  simp only[go_sem,bQs,bQq,p7];exact(xR t1 (i:=f0.vals.length) (env:=f0.env) hkl (.inl rfl) (by omega)).mono fun _ _ _=>oY.then k0
 ·rw[if_neg hc];simp only[bQ2,bQu,bQz]at hc
  refine gR func171 ?_
  simp only[go_sem,kK,H,bQl,hw1,dv,hia,ht,hr,hin,hA.ret,dk]
  refine bR ?_
  simp only[go_sem,H]
  refine(tL b1 (l:=o.frames) (.inl rfl) (by omega)).mono ?_
  rintro v e1 c1 ⟨rfl,⟨bv1,t1⟩,k1⟩
  obtain⟨p7,q7⟩:=k1.loc (d:=7) (g:=cnt 0 7) (by simp[aC]) h.okt.ne.symm h.okr.ne.symm
  rw[aI h.okt.ne.symm,cC]at p7
  try simp only[go_sem,kK]
  have k0:dR kt kr en cnt e1 c1:=⟨fun x hx y1 y2=>by rw[k1.old x (hx.up u1) y1 y2,aI y1];simp only[hx.set],fun t=>bQv (u1 t) (k1.up t)⟩
  refine bR ?_
  simp only[go_sem,p7]
  refine(xQ t1 (i:=f0.vals.length) (env:=f0.env) hkl (.inl rfl) (by omega)).mono ?_
  rintro v e2 c2 ⟨rfl,⟨bv2,t2⟩,k2⟩
  exact⟨rfl,⟨_,_,bv2,t2⟩,k0.trans k2⟩
def bGh (agg:Bool)(len size:Nat)(x i:Val):Option Res:=match x,i with
 | .agg cs,.int _ j=>if 0<=j/\ j<len/\ j.toNat*size+size<=cs.length then(iL agg ((cs.drop (j.toNat*size)).take size)).map fun v=>{v}else none
 |_,_=>none
theorem aVa {len:Nat}{x i:Opd}:cZ d g en get (.ixa agg len size x i)=bGh agg len size (get x) (get i):=(rfl)
theorem bE3 (h1:1<=op)(h2:op<=28):bGh false 29 1 (.agg bH9) (.i op)=some {v:= .fn (oO.getD (op.toNat-1) 0) [] []}:=by
 have ho:op=1 \/op=2 \/op=3 \/op=4 \/op=5 \/op=6 \/op=7 \/op=8 \/op=9 \/op=10 \/op=11 \/op=12 \/op=13 \/op=14 \/op=15 \/op=16 \/op=17 \/op=18 \/op=19 \/op=20 \/op=21 \/op=22 \/op=23 \/op=24 \/op=25 \/op=26 \/op=27 \/op=28:=by omega
 rcases ho with rfl|rfl|rfl|rfl|rfl|rfl|rfl|rfl|rfl|rfl|rfl|rfl|rfl|rfl|rfl|rfl|rfl|rfl|rfl|rfl|rfl|rfl|rfl|rfl|rfl|rfl|rfl|rfl<;>rfl
theorem bE4 (h:TB kt kr en cnt p w a sC K P){o:aN}(hv:o.vals.length=0)(hf0:0<o.frames.length)(hf:o.frames.length<=40)(hff:o.frames.getD (o.frames.length-1) dV=f0)
   (P0:Pre p w0 S w a (o.frames.take (o.frames.length-1)) f0 nd):
  aWq kt kr en cnt p w a o (opR p w a (o.frames.take (o.frames.length-1)) f0 nd):=by
 have H:=h.pre;have hn:=h.ne;have ht:=h.t;have hr:=h.r;have hni:=fK P0.hf;have hnd:=P0.hn;have hw1:IntKind.i64.wrap ((o.frames.length:Int)-1)=((o.frames.length-1:Nat):Int):=by rw[aV (by omega)];omega
 have dv:decide ((0:Int)<(o.vals.length:Int))=false:=D_f (by omega)
 have hia:=fun en=>aGp (l:=o.frames) (en:=en) (k:=o.frames.length-1) (by omega)
 have hsh:=fun en=>wR (size:=3) (xs:=o.frames.map aB.enc) (en:=en) (k:=o.frames.length-1) (by rw[bQl];omega)
 rw[hff]at hia;have hin:=fun en=>bH (k:= .i64) (p:=p) (en:=en) hni
 rw[hnd]at hin;have dk:decide ((f0.vals.length:Int)<nd.asks)=false:=D_f (by have:=P0.full;omega)
 have hA:=sV nd;have hO:=aMm;obtain⟨c1,c2⟩:=aLd P0.node;have hix:=bE3 c1 c2;have u1: ∀t,cnt 0 t<=aC (aC cnt 0 3 (cnt 0 3+1)) 0 7 (cnt 0 7+1) 0 t:=(by(repeat refine upS ?_ (by omega));exact aM _)
 have b1:TB kt kr ((((en.set ⟨0,3,cnt 0 3⟩ (some (.box [.i o.form,.i o.n,.fz (o.vals.map aD.enc),.fz (o.frames.map aB.enc)] false))).set ⟨0,7,cnt 0 7⟩ (some (.box [.i 0,.cl [],.cl []] false))).set ⟨0,7,cnt 0 7⟩ (some (.box [.i f0.node,.fz (f0.env.map aD.enc),.fz (f0.vals.map aD.enc)] false))).set kt (some (.box [.ptr kr 0,.i a,.cl [],.i 0,.cl [],.cl [],.i nd.op,.i nd.n,.is nd.kids,.fz (nd.pats.map Pat.enc),.cl []] false))) (aC (aC cnt 0 3 (cnt 0 3+1)) 0 7 (cnt 0 7+1)) p w a nd (.is nd.kids) (.fz (nd.pats.map Pat.enc)):=
  ⟨h.okt.up u1,h.okr.up u1,h.ne,.inl rfl,.inl rfl,cC,by rw[aI hn];simp only[H];exact hr⟩
 have does:=fun(e2:En) (c2:Nat->Nat->Nat) (bv:Val) (h2:TS kt kr e2 c2 p w a (o.frames.take (o.frames.length-1)) f0 nd [] bv)=>bCf P0 h2
 generalize opR p w a (o.frames.take (o.frames.length-1)) f0 nd=R at does⊢;generalize oO.getD (nd.op.toNat-1) 0=fn at does hix;cases R with
 |go ev w' left' back'=>
  refine gR func171 ?_
  simp only[go_sem,kK,H,bQl,hw1,dv,hia,ht,hr,hin,hA.ret,dk]
  refine bR ?_
  simp only[go_sem,H,hsh]
  refine(tL b1 (l:=o.frames.take (o.frames.length-1)) (.inl (by rw[bSc])) (by rw[bR2];omega)).mono ?_
  rintro v e1 c1 ⟨rfl,⟨bv1,t1⟩,k1⟩
  obtain⟨p7,q7⟩:=k1.loc (d:=7) (g:=cnt 0 7) (by simp[aC]) h.okt.ne.symm h.okr.ne.symm
  rw[aI h.okt.ne.symm,cC]at p7
  try simp only[go_sem,kK]
  have k0:dR kt kr en cnt e1 c1:=⟨fun x hx y1 y2=>by rw[k1.old x (hx.up u1) y1 y2,aI y1];simp only[hx.set],fun t=>bQv (u1 t) (k1.up t)⟩
  have ht1:=t1.t;simp only[go_sem,p7,ht1];have t2:TS kt kr (e1.set kt (some (.box [.ptr kr 0,.i a,.fz ((o.frames.take (o.frames.length-1)).map aB.enc),.i f0.node,.fz (f0.env.map aD.enc),.fz (f0.vals.map aD.enc),.i nd.op,.i nd.n,.is nd.kids,.fz (nd.pats.map Pat.enc),bv1] false))) c1 p w a (o.frames.take (o.frames.length-1)) f0 nd [] bv1:=⟨t1.okt,t1.okr,t1.ne,t1.ob,cC,by rw[aI hn];exact t1.r⟩
  have k2:dR kt kr en cnt (e1.set kt (some (.box [.ptr kr 0,.i a,.fz ((o.frames.take (o.frames.length-1)).map aB.enc),.i f0.node,.fz (f0.env.map aD.enc),.fz (f0.vals.map aD.enc),.i nd.op,.i nd.n,.is nd.kids,.fz (nd.pats.map Pat.enc),bv1] false))) c1:=⟨fun x hx y1 y2=>by rw[aI y1];exact k0.old x hx y1 y2,k0.up⟩
  have t2t:=t2.t
  refine jG ?_
  simp only[go_sem,hO.ret,t2t,hix,aVa,kA,kF]
  refine(does _ _ _ t2).mono ?_
  rintro v e3 c3 ⟨rfl,⟨bv3,t3⟩,k3⟩
  simp only[go_sem];exact⟨⟨_,_,bv3,t3⟩,k2.trans k3⟩
 |wait=>
  refine gR func171 ?_
  simp only[go_sem,kK,H,bQl,hw1,dv,hia,ht,hr,hin,hA.ret,dk]
  refine bR ?_
  simp only[go_sem,H,hsh]
  refine(tL b1 (l:=o.frames.take (o.frames.length-1)) (.inl (by rw[bSc])) (by rw[bR2];omega)).mono ?_
  rintro v e1 c1 ⟨rfl,⟨bv1,t1⟩,k1⟩
  obtain⟨p7,q7⟩:=k1.loc (d:=7) (g:=cnt 0 7) (by simp[aC]) h.okt.ne.symm h.okr.ne.symm
  rw[aI h.okt.ne.symm,cC]at p7
  try simp only[go_sem,kK]
  have k0:dR kt kr en cnt e1 c1:=⟨fun x hx y1 y2=>by rw[k1.old x (hx.up u1) y1 y2,aI y1];simp only[hx.set],fun t=>bQv (u1 t) (k1.up t)⟩
  have ht1:=t1.t;simp only[go_sem,p7,ht1];have t2:TS kt kr (e1.set kt (some (.box [.ptr kr 0,.i a,.fz ((o.frames.take (o.frames.length-1)).map aB.enc),.i f0.node,.fz (f0.env.map aD.enc),.fz (f0.vals.map aD.enc),.i nd.op,.i nd.n,.is nd.kids,.fz (nd.pats.map Pat.enc),bv1] false))) c1 p w a (o.frames.take (o.frames.length-1)) f0 nd [] bv1:=⟨t1.okt,t1.okr,t1.ne,t1.ob,cC,by rw[aI hn];exact t1.r⟩
  have k2:dR kt kr en cnt (e1.set kt (some (.box [.ptr kr 0,.i a,.fz ((o.frames.take (o.frames.length-1)).map aB.enc),.i f0.node,.fz (f0.env.map aD.enc),.fz (f0.vals.map aD.enc),.i nd.op,.i nd.n,.is nd.kids,.fz (nd.pats.map Pat.enc),bv1] false))) c1:=⟨fun x hx y1 y2=>by rw[aI y1];exact k0.old x hx y1 y2,k0.up⟩
  have t2t:=t2.t
  refine jG ?_
  simp only[go_sem,hO.ret,t2t,hix,aVa,kA,kF]
  refine(does _ _ _ t2).mono ?_
  rintro v e3 c3 ⟨rfl,⟨bv3,t3⟩,k3⟩
  simp only[go_sem];exact⟨⟨_,_,_,_,bv3,t3⟩,k2.trans k3⟩
 |fail s=>
  refine jP func171 ?_
  simp only[go_sem,kK,H,bQl,hw1,dv,hia,ht,hr,hin,hA.ret,dk]
  refine bR ?_
  simp only[go_sem,H,hsh]
  refine(tL b1 (l:=o.frames.take (o.frames.length-1)) (.inl (by rw[bSc])) (by rw[bR2];omega)).mono ?_
  rintro v e1 c1 ⟨rfl,⟨bv1,t1⟩,k1⟩
  obtain⟨p7,q7⟩:=k1.loc (d:=7) (g:=cnt 0 7) (by simp[aC]) h.okt.ne.symm h.okr.ne.symm
  rw[aI h.okt.ne.symm,cC]at p7
  try simp only[go_sem,kK]
  have k0:dR kt kr en cnt e1 c1:=⟨fun x hx y1 y2=>by rw[k1.old x (hx.up u1) y1 y2,aI y1];simp only[hx.set],fun t=>bQv (u1 t) (k1.up t)⟩
  have ht1:=t1.t;simp only[go_sem,p7,ht1];have t2:TS kt kr (e1.set kt (some (.box [.ptr kr 0,.i a,.fz ((o.frames.take (o.frames.length-1)).map aB.enc),.i f0.node,.fz (f0.env.map aD.enc),.fz (f0.vals.map aD.enc),.i nd.op,.i nd.n,.is nd.kids,.fz (nd.pats.map Pat.enc),bv1] false))) c1 p w a (o.frames.take (o.frames.length-1)) f0 nd [] bv1:=⟨t1.okt,t1.okr,t1.ne,t1.ob,cC,by rw[aI hn];exact t1.r⟩
  have k2:dR kt kr en cnt (e1.set kt (some (.box [.ptr kr 0,.i a,.fz ((o.frames.take (o.frames.length-1)).map aB.enc),.i f0.node,.fz (f0.env.map aD.enc),.fz (f0.vals.map aD.enc),.i nd.op,.i nd.n,.is nd.kids,.fz (nd.pats.map Pat.enc),bv1] false))) c1:=⟨fun x hx y1 y2=>by rw[aI y1];exact k0.old x hx y1 y2,k0.up⟩
  have t2t:=t2.t
  refine kR 8 rfl rfl ?_
  simp only[go_sem,bQs,bQq,bR0,bRz,rD,hO.ret,t2t,hix,aVa,kA,kF];exact⟨rfl,(does _ _ _ t2).mono fun _ _ _=>oY.then k2⟩
structure RS (kr:Key) (en:En) (cnt:Nat->Nat->Nat) (p:aF) (w:aA):Prop where
 okr:Old kr cnt
 r:en kr=some (.box [.fz (p.nodes.map aK.enc),.is p.funs,.i p.main,.fz (p.cons.map cV.enc),.fz (w.objs.map aN.enc),.is w.tasks,.fz (w.outs.map bL.enc),.is w.ins,.i w.used] false)
theorem TS.rs (h:TS kt kr en cnt p w a left f n back bv):RS kr en cnt p w:=⟨h.okr,h.r⟩
theorem RS.to (h:RS kr en cnt p w)(hr:en' kr=en kr)(hu: ∀t,cnt 0 t<=cnt' 0 t):RS kr en' cnt' p w:=⟨h.okr.up hu,by rw[hr];exact h.r⟩
theorem bK3 (h:RS kr en cnt p w){O:Val}{K1:List Key}{E:En}{c:Nat->Nat->Nat}(hT:w'.tasks=w.tasks)(hU:w'.outs=w.outs)(hI:w'.ins=w.ins)(hus:w'.used=w.used)
  (hr:E kr=some (.box [.fz (p.nodes.map aK.enc),.is p.funs,.i p.main,.fz (p.cons.map cV.enc),O,.is w.tasks,.fz (w.outs.map bL.enc),.is w.ins,.i w.used] false))
  (hO:cN E O=some (.fz (w'.objs.map aN.enc),K1)) (hK: ∀k∈K1,∃d,k=⟨0,d,cnt 0 d⟩) (hk: ∀k,Old k cnt->k≠kr->E k=en k) (hu: ∀t,cnt 0 t<=c 0 t):
  match oH (.ptr kr 0) [[]] E with
  |some en'=>RS kr en' c p w'/\ dR kr kr en cnt en' c
  |none=>False:=by
 have hkn:kr∉K1++([]++([]++[])):=fun hm=>by
  simp only[bRk]at hm;obtain⟨d,e⟩:=hK kr hm;exact h.okr.ne e
 rw[aSl hr hO rfl rfl rfl hkn];simp only[bRk]
 refine⟨⟨h.okr.up hu,?_⟩,fun k ho k1 _=>?_,hu⟩
 ·rw[cC,hT,hU,hI,hus]
 ·rw[aI k1,vX ho hK];exact hk k ho k1
theorem zG (h:RS kr en cnt p w){o:aN}{FV:Val}(hV:iZ V (o.vals.map aD.enc))(hF:iZ FV (o.frames.map aB.enc))(ha:inR a 0 ((w.tasks.length:Int)-1)=true)(hr1:inR (aZ w a) 0 ((w.objs.length:Int)-1)=true)(hs:w.objs.length<=1000000):
  WIn L (.fn 167 [] []) [.ptr kr 0,.i a,.agg [.i o.form,.i o.n,V,FV]] en cnt fun r en' cnt'=>r= .tup []/\ RS kr en' cnt' p (cW w (aZ w a) o)/\ dR kr kr en cnt en' cnt':=by
 have s2:=h.okr.set;have n2:=h.okr.new;have hr:=h.r;have m2:=h.okr.eqF;have o2:=h.okr.eqF';have hia: ∀en,mA 1 en (.fz (w.tasks.map (.int .i64))) (.i a)=some {v:= .fp [.i (aZ w a)] 0}:=fun en=>wJ ha
 simp only[inR,bT8]at hr1;obtain⟨j,hj⟩:=bRn hr1.1;have hjl:j<w.objs.length:=by omega
 have hl:(w.objs.map aN.enc).length<=16777216:=by rw[bQl];omega
 have hC:=zC (w.objs.map aN.enc) (zB _) hl;have hne:w.objs.map aN.enc≠[]:=by intro he;have h0:=congrArg List.length he;simp at h0;rw[h0]at hjl;simp at hjl
 rw[pK hne]at hC;have hget:(w.objs.map aN.enc)[j]?=some (aN.enc w.objs[j]):=by simp[hjl]
 have hS:(w.objs.map aN.enc).set j (.agg [.i o.form,.i o.n,.fz (o.vals.map aD.enc),.fz (o.frames.map aB.enc)])=(cW w (aZ w a) o).objs.map aN.enc:=by simp[cW,bSz,aN.enc,hj]
 have hSl:w.objs.length=((cW w (aZ w a) o).objs.map aN.enc).length:=by simp[cW]
 have hL:=at_ func167
 conv at hL=>rhs;reduce
 refine rL hL rfl rfl ?_
 simp only[go_sem,kK,s2];rcases hV with rfl|rfl<;>rcases hF with rfl|rfl<;>
 (simp only[go_sem,hr,s2,n2,kB,hC.ret,hget,hia,hj,hjl,bQl,eP,bS7,bRh,kF]
  rw[hj]at hS hSl;rw[hS];exact bK3 h (w':=cW w (j:Int) o) rfl rfl rfl rfl (by rw[aI h.okr.ne,cC]) (sX cC hSl) (fun k hk=>⟨12,by simpa using hk⟩) (fun k ho k1=>by simp only[ho.set,aI k1]) (by(repeat refine upS ?_ (by omega));exact aM _))
end
end Go.Proofs.YtmafmhjndjmalaaGreat
