/- Contracts of functions of the program and of the document: part 5. -/
import Derived.Test.YthpmfghgoabnhaaGreatM4
set_option linter.all false
open Bool renaming and_eq_true → bXb, false_eq_true → bXc, not_eq_true → bYf, or_true → bXg, true_or → bXi
open Int renaming natCast_nonneg → bZ4, toNat_natCast → bXx
open List renaming all_cons → bXe, all_eq_true → bXo, append_nil → bYx, cons_append → bZg, drop_eq_getElem_cons → bX7, drop_length → bY7, filter_append → bZy, getD_eq_getElem?_getD → bXm, getElem?_cons_succ → bXh, getElem?_cons_zero → bXf, getElem_mem → bXn, length_append → bX8, length_cons → bXu, length_drop → bZi, length_map → bXj, length_nil → bYb, length_pos_iff → bZ9, length_set → bZu, length_singleton → bZz, length_take → bZc, map_append → bXw, map_cons → bYa, map_nil → bXv, map_set → bYu, map_take → bZd, mem_cons → bYe, mem_of_mem_take → bZt, nil_append → bYw, range_succ → bY1, take_length → bYc, take_of_length_le → bXs
open Nat renaming add_assoc → bY4, add_zero → bY2, le_refl → bXd, le_trans → bYd, lt_of_lt_of_le → bYg, zero_add → bX2, zero_le → bXl
open Option renaming getD_none → bZ7, getD_some → bX3, isSome_none → bZj, isSome_some → bZf
open Option.some renaming injEq → bXa
namespace Go.Proofs.YthpmfghgoabnhaaGreat
open Go.Abs Go.Proofs
variable {p :aP}{w0 w:aB}{S:Nat->Prop}{a:Int}{left:List aC}
def oP (w:aB)(ps:List Pat)(vs:List aG)(k:Nat):Option (List aG):=fW w (ps.take k) (vs.take k)
theorem xX (w:aB): ∀(ps:List Pat) (vs:List aG) (q:Pat) (v:aG),ps.length=vs.length->fW w (ps++[q]) (vs++[v])=(match fW w ps vs with|none=>none|some l=>match kA w q v with|none=>none|some r=>some (l++r))
 |[],[],q,v,_=>by
  simp only[bYw,fW];cases kA w q v<;>simp
 |[],_::_,_,_,h=>by cases h
 |_::_,[],_,_,h=>by cases h
 |x::ps,y::vs,q,v,h=>by
  simp only[bZg,fW];rw[xX w ps vs q v (by simpa using h)]
  cases kA w x y with
  |none=>rfl
  |some l=>
   cases fW w ps vs with
   |none=>rfl
   |some r=>
    cases kA w q v with
    |none=>rfl
    |some s=>simp[List.append_assoc]
theorem aLq {w:aB}{ps:List Pat}{vs:List aG}: ∀{k:Nat},ps.length=vs.length->oP w ps vs k=none->fW w ps vs=none:=by
 intro k hl h;have key: ∀m,k<=m->oP w ps vs m=none:=by
  intro m
  induction m with
  |zero=>intro hk;have:k=0:=(by omega);rw[this]at h;exact h
  |succ m ih=>
   intro hk
   by_cases hm:k=m+1
   ·rw[<-hm];exact h
   ·have h1:=ih (by omega)
    by_cases hlt:m<ps.length
    ·unfold oP at h1⊢;rw[dF hlt,dF (show m<vs.length by omega),xX _ _ _ _ _ (by simp;omega),h1]
    ·unfold oP at h1⊢;rw[bXs (by omega),bXs (by omega)]
     rw[bXs (by omega),bXs (by omega)]at h1
     exact h1
 have:=key (max k ps.length) (by omega)
 unfold oP at this;rw[bXs (by omega),bXs (by omega)]at this
 exact this
theorem aLr {w:aB}{ps:List Pat}{vs:List aG}{k:Nat}(h1:k<ps.length)(h2:k<vs.length):oP w ps vs (k+1)=(match oP w ps vs k with|none=>none|some l=>match kA w ps[k] vs[k]with|none=>none|some r=>some (l++r)):=by
 unfold oP;rw[dF h1,dF h2,xX _ _ _ _ _ (by simp;omega)]
mutual
def rP :Pat->Nat
 | .mk _ _ _ ps=>1+iC ps
def iC :List Pat->Nat
 |[]=>0
 |q::ps=>rP q+iC ps
end
theorem yS (q:Pat):rP q=1+iC q.parts:=by cases q;rw[rP];rfl
theorem aEm : ∀(l:List Pat),l.length<=iC l
 |[]=>by simp[iC]
 |q::l=>by
  have:=aEm l;have:=yS q;simp only[bXu,iC];omega
theorem xY : ∀{l:List Pat} {q:Pat},q∈l->rP q<=iC l
 |x::l,q,h=>by
  rw[iC];rcases bYe.1 h with rfl|h
  ·omega
  ·have:=xY h;omega
theorem aCg : ∀(l:List Pat) (k:Nat),iC (l.take k)<=iC l
 |[],k=>by simp[iC]
 |q::l,0=>by simp[iC]
 |q::l,k+1=>by
  have:=aCg l k;simp only[List.take_succ_cons,iC];omega
mutual
theorem aDh {w:aB}: ∀(q:Pat) {v:aG} {l:List aG},kA w q v=some l->l.length<=rP q
 | .mk f n t ps,v,l,hm=>by
  unfold kA at hm;rw[rP]
  split at hm
  ·cases hm;simp
  split at hm
  ·cases hm;simp
  split at hm
  ·split at hm
   ·cases hm;simp
   ·cases hm
  split at hm
  ·split at hm
   ·cases hm;simp
   ·cases hm
  split at hm
  ·split at hm
   ·cases hm;simp
   ·cases hm
  split at hm
  ·have:=aAr ps hm;omega
  ·cases hm
theorem aAr {w:aB}: ∀(ps:List Pat) {vs l:List aG},fW w ps vs=some l->l.length<=iC ps
 |[],vs,l,hm=>by
  simp only[fW,bXa]at hm;subst hm;simp
 |q::ps,[],l,hm=>by
  simp only[fW,bXa]at hm;subst hm;simp
 |q::ps,v::vs,l,hm=>by
  simp only[fW]at hm
  split at hm
  ·cases hm
  rename_i l1 h1
  split at hm
  ·cases hm
  rename_i l2 h2;simp only[bXa]at hm;subst hm;have:=aDh q h1;have:=aAr ps h2;simp only[bX8,iC];omega
end
theorem aOw : ∀(q:Pat) (n:Int),-1<=n->0<=oD q n->oD q n+rP q=n:=by
 intro q
 induction q using Pat.ind with
 |h p ih=>
  intro n hn h;rw[aGd]at h⊢;rw[yS];have key: ∀(l:List Pat),(∀q∈l,q∈p.parts)-> ∀m:Int,-1<=m->0<=iI l m->iI l m+iC l=m:=by
   intro l
   induction l with
   |nil=>intro _ m _ _;simp[iI,iC]
   |cons q l ihl=>
    intro hl m hm h0;rw[iI]at h0⊢
    by_cases h1:0<=m
    ·rw[if_pos h1]at h0⊢;have hw:=aGe q m (by omega)
     have h2:0<=oD q m:=by
      by_cases h3:0<=oD q m
      ·exact h3
      ·rw[aAc (by omega)]at h0;exact absurd h0 h3
     have e1:=ih q (hl q (by simp)) m (by omega) h2
     have e2:=ihl (fun x hx=>hl x (by simp[hx])) (oD q m) (by omega) h0
     rw[iC];omega
    ·rw[if_neg h1]at h0;omega
  by_cases h1:n<1
  ·rw[if_pos h1]at h;omega
  ·rw[if_neg h1]at h⊢;have:=key p.parts (fun _ h=>h) (n-1) (by omega) h
   omega
def aLs (w:aB)(q:Pat)(v:aG):Val:= .tup [.fz (((kA w q v).getD []).map aG.enc),.bool (kA w q v).isSome]
theorem aXk (w:aB)(q:Pat)(v:aG):kA w q v=if q.form=1 then some []else if q.form=2 then some [v]else if q.form=3 then(if v=tU q.n then some []else none)else if q.form=4 then(if v=rL (decide (q.n=1))then some []else none)
  else if q.form=5 then(if v=eK then some []else none)else if kJ w v 1=true/\ (w.obj v.n).n=q.n/\ (w.obj v.n).vals.length=q.parts.length then fW w q.parts (w.obj v.n).vals else none:=by
 cases q;rw[kA];rfl
theorem aLt {α:Type}(c:Prop)[Decidable c]:((if c then some ([]:List α)else none).getD []=[])/\ (if c then some ([]:List α)else none).isSome=decide c:=by
 by_cases h:c<;>simp[h]
theorem bAz (h:bP p w0 S w): ∀(q:Pat),rP q<=1000-> ∀(v:aG),VOk p S w v->PC L 189 [.agg [.fz (w.objs.map aI.enc),.fz (w.tasks.map (.int .i64)),.fz (w.outs.map aN.enc),.fz (w.ins.map (.int .i64)),.int .i64 w.used],.agg [.int .i64 q.form,.int .i64 q.n,.str q.text,.fz (q.parts.map Pat.enc)],.agg [.int .i64 v.kind,.int .i64 v.n]] (aLs w q v):=by
 intro q
 induction q using Pat.ind with
 |h q ih=>
 intro hq v hv;have hO:=nJ w v 1 (vG hv);unfold aLs;rw[aXk]
 by_cases h1:q.form=1
 ·rw[if_pos h1]
  refine aL aBa rfl rfl ?_
  simp only[go_sem,qC,qG,qW,vK,h1,bX3,bZf]
 rw[if_neg h1];have d1:decide (q.form=1)=false:=decide_eq_false h1
 by_cases h2:q.form=2
 ·rw[if_pos h2]
  refine aL aBa rfl rfl ?_
  simp only[go_sem,qC,qG,qW,vK,h2,bX3,bZf]
 rw[if_neg h2];have d2:decide (q.form=2)=false:=decide_eq_false h2
 by_cases h3:q.form=3
 ·rw[if_pos h3]
  refine aL aBa rfl rfl ?_
  simp only[go_sem,qC,qG,qW,vK,h3]
  refine aO ?_
  simp only[go_sem,qC,qG,qW,(xT _).ret,aCf,aLt,bXe,bXf,bXh,bXi,bXg,bXc,if_false]
 rw[if_neg h3];have d3:decide (q.form=3)=false:=decide_eq_false h3
 by_cases h4:q.form=4
 ·rw[if_pos h4]
  refine aL aBa rfl rfl ?_
  simp only[go_sem,qC,qG,qW,vK,h4]
  refine aO ?_
  simp only[go_sem,qC,qG,qW,(aB7 _).ret,aCf,aLt,bXe,bXf,bXh,bXi,bXg,bXc,if_false]
 rw[if_neg h4];have d4:decide (q.form=4)=false:=decide_eq_false h4
 by_cases h5:q.form=5
 ·rw[if_pos h5]
  refine aL aBa rfl rfl ?_
  simp only[go_sem,qC,qG,qW,vK,h5]
  refine aO ?_
  simp only[go_sem,qC,qG,qW,iS.ret,aCf,aLt,bXe,bXf,bXh,bXi,bXg,bXc,if_false]
 rw[if_neg h5];have d5:decide (q.form=5)=false:=decide_eq_false h5
 by_cases hi:kJ w v 1=true
 ·rw[rN,if_pos hi,hi]at hO
  by_cases hn:(w.obj v.n).n=q.n
  ·have dn:decide ((w.obj v.n).n=q.n)=true:=decide_eq_true hn
   by_cases hl:(w.obj v.n).vals.length=q.parts.length
   ·have dl:decide ((w.obj v.n).vals.length=q.parts.length)=true:=decide_eq_true hl;rw[if_pos ⟨hi,hn,hl⟩];obtain⟨_,a2,_,_⟩:=jN h hv hi
    refine aL aBa rfl rfl ?_
    simp only[go_sem,qC,qG,qW,vK,d1,d2,d3,d4,d5,hO.ret,dn,dl]
    refine bD q.parts.length (fun k st=> ∃fr en cnt vO l,st=⟨fr,en,cnt⟩/\ fr 3= .ptr ⟨0,3,0⟩ 0/\ en ⟨0,3,0⟩=some (.box [.fz (w.objs.map aI.enc),.fz (w.tasks.map (.int .i64)),.fz (w.outs.map aN.enc),.fz (w.ins.map (.int .i64)),.int .i64 w.used] false)/\ fr 4= .ptr ⟨0,4,0⟩ 0/\ en ⟨0,4,0⟩=some (.box [.int .i64 q.form,.int .i64 q.n,.str q.text,.fz (q.parts.map Pat.enc)] false)/\ fr 8= .ptr ⟨0,8,0⟩ 0/\ en ⟨0,8,0⟩=some (.box [.int .i64 (w.obj v.n).form,.int .i64 (w.obj v.n).n,.fz ((w.obj v.n).vals.map aG.enc),.fz ((w.obj v.n).frames.map aC.enc)] false)/\ fr 10=vO/\ fr 11= .int .i64 k/\
     oP w q.parts (w.obj v.n).vals k=some l/\ cG en vO 2 (l.map aG.enc) [92]) 0 (bXl _) ⟨_,_,_,.cl [],[],rfl,by simp only[go_sem,qW],by simp only[go_sem,qW],by simp only[go_sem,qW],by simp only[go_sem,qW],by simp only[go_sem,qW],by simp only[go_sem,qW],by simp only[go_sem,qW],by simp only[go_sem,qW],by simp[oP,fW],cG.nil _ _⟩ ?_
    rintro k st hk ⟨fr,en,cnt,vO,l,rfl,k3,e3,k4,e4,k8,e8,k10,k11,hm,hv'⟩
    simp only[go_sem,qC,qG,qW,k3,e3,k4,e4,k8,e8,k10,k11]
    refine aA (fun hq2=>?_) (fun hq2=>?_)
    ·have h':k<q.parts.length:=of_decide_eq_true hq2;have h'':k<(w.obj v.n).vals.length:=by omega
     have hM:=ih q.parts[k] (bXn h') (by
      have:=xY (bXn h');rw[yS]at hq;omega) (w.obj v.n).vals[k] (a2.vals (bXn h''))
     have hst:=aLr (w:=w) h' h'';rw[hm]at hst;unfold aLs at hM;cases hx:kA w q.parts[k] (w.obj v.n).vals[k]with
     |none=>
      rw[hx]at hM hst;have hnone:=aLq hl.symm hst;rw[hnone];simp only[go_sem,qC,qG,qW,k3,e3,k4,e4,k8,e8,k10,k11,h',h'',hM.ret,bZ7,bZj,bXv]
     |some r=>
      rw[hx]at hM hst;have hr:=aDh _ hx;have hr2:=xY (bXn h');have hl3:=aAr _ hm;have hl4:=aCg q.parts k;have hlp:=aEm q.parts;rw[yS]at hq;simp only[go_sem,qC,qG,qW,k3,e3,k4,e4,k8,e8,k10,k11,h',h'',hM.ret,bX3,bZf]
      refine pR (D:=[92]) (xs:=l.map aG.enc) (ys:=r.map aG.enc) (rs:=[]) ?_ ?_ ?_ ?_ ?_
      ·simp only[go_sem,qW,k10];exact hv'
      ·simp only[go_sem,qW]
      ·exact aB6 r
      ·simp only[bXj];omega
      ·intro v' en' cnt' hown hen hcnt;have q3:en' ⟨0,3,0⟩=some (.box [.fz (w.objs.map aI.enc),.fz (w.tasks.map (.int .i64)),.fz (w.outs.map aN.enc),.fz (w.ins.map (.int .i64)),.int .i64 w.used] false):=by rw[hen 0 3 0 (.inr ⟨by decide,by simp⟩)];simp only[go_sem,qW,e3]
       have q4:en' ⟨0,4,0⟩=some (.box [.int .i64 q.form,.int .i64 q.n,.str q.text,.fz (q.parts.map Pat.enc)] false):=by rw[hen 0 4 0 (.inr ⟨by decide,by simp⟩)];simp only[go_sem,qW,e4]
       have q8:en' ⟨0,8,0⟩=some (.box [.int .i64 (w.obj v.n).form,.int .i64 (w.obj v.n).n,.fz ((w.obj v.n).vals.map aG.enc),.fz ((w.obj v.n).frames.map aC.enc)] false):=by rw[hen 0 8 0 (.inr ⟨by decide,by simp⟩)];simp only[go_sem,qW,e8]
       simp only[go_sem,qC,qG,qW,k3,q3,k4,q4,k8,q8,k11]
       refine⟨_,_,_,v',l++r,rfl,?_⟩
       simp only[go_sem,qC,qG,qW,k3,q3,k4,q4,k8,q8,k11,aJ h' (show Few q.parts.length by unfold Few;omega)]
       refine⟨hst,?_⟩
       rw[bXw];exact hown.sub (by simp)
    ·have:k=q.parts.length:=by simp at hq2;omega
     subst this;have hfull:fW w q.parts (w.obj v.n).vals=some l:=by
      unfold oP at hm;rw[bYc,<-hl,bYc]at hm;exact hm
     obtain⟨r1,ks,s1,_,s2,_⟩:=hv'.snap 6;rw[hfull];simp only[go_sem,qC,qG,qW,k3,e3,k4,e4,k8,e8,k10,k11,s1,s2,bX3,bZf]
   ·have dl:decide ((w.obj v.n).vals.length=q.parts.length)=false:=decide_eq_false hl;rw[if_neg (fun h=>hl h.2.2)]
    refine aL aBa rfl rfl ?_
    simp only[go_sem,qC,qG,qW,vK,d1,d2,d3,d4,d5,hO.ret,dn,dl,bZ7,bZj]
  ·have dn:decide ((w.obj v.n).n=q.n)=false:=decide_eq_false hn;rw[if_neg (fun h=>hn h.2.1)]
   refine aL aBa rfl rfl ?_
   simp only[go_sem,qC,qG,qW,vK,d1,d2,d3,d4,d5,hO.ret,dn,bZ7,bZj]
 ·rw[rN,if_neg hi]at hO;rw[if_neg (fun h=>hi h.1)]
  rw[bYf]at hi;rw[hi]at hO
  refine aL aBa rfl rfl ?_
  simp only[go_sem,qC,qG,qW,vK,d1,d2,d3,d4,d5,hO.ret,bZ7,bZj]
theorem aQ0 {n:Nat}:cZ n []=true:=(rfl)
theorem aLu {kids:List Int}{env:List aG}{u:aG}{l:List Pat}{k:Nat}(hk:k<l.length):mF w a left kids env u k (l.drop k)=(match kA w l[k] u with|some r=>fH w a left (kids.getD (1+k) 0) (env++r)|none=>mF w a left kids env u (k+1) (l.drop (k+1))):=by
 rw[bX7 hk,mF];cases kA w l[k] u<;>rfl
theorem aQ1 (h:bP p w0 S w)(ha:inR a 0 ((w.tasks.length:Int)-1)=true)(hl:LOk p S w left)(n:aK)(env:List aG){u:aG}(hu:VOk p S w u)(he:env.length<=30)(hkl:1+n.pats.length<=n.kids.length)(hpc: ∀q∈n.pats,rP q<=1000)(hfew:n.kids.length<=1000):
  PC L 162 [.agg [.fz (w.objs.map aI.enc),.fz (w.tasks.map (.int .i64)),.fz (w.outs.map aN.enc),.fz (w.ins.map (.int .i64)),.int .i64 w.used],.int .i64 a,.fz (left.map aC.enc),.agg [.int .i64 n.op,.int .i64 n.n,.fz (n.kids.map (.int .i64)),.fz (n.pats.map Pat.enc)],.fz (env.map aG.enc),.agg [.int .i64 u.kind,.int .i64 u.n]] (.agg [.fz ((iR w a left n env u).w.objs.map aI.enc),.fz ((iR w a left n env u).w.tasks.map (.int .i64)),.fz ((iR w a left n env u).w.outs.map aN.enc),.fz ((iR w a left n env u).w.ins.map (.int .i64)),.int .i64 (iR w a left n env u).w.used,.int .i64 (iR w a left n env u).what,.int .i64 (iR w a left n env u).e.task,.int .i64 (iR w a left n env u).e.act,.int .i64 (iR w a left n env u).e.n,.int .i64 (iR w a left n env u).e.v.kind,.int .i64 (iR w a left n env u).e.v.n]):=by
 have hfit:=dQ h ha;have hF:=eQ w a 3 hfit;have hlen:=hl.len
 refine aL bKd rfl rfl ?_
 simp only[go_sem,qC,qG,qW,aSp]
 refine bD n.pats.length (fun k st=> ∃fr en cnt,st=⟨fr,en,cnt⟩/\ fr 1= .int .i64 a/\ fr 2= .fz (left.map aC.enc)/\ fr 4= .fz (env.map aG.enc)/\ fr 6= .ptr ⟨0,6,0⟩ 0/\ en ⟨0,6,0⟩=some (.box [.fz (w.objs.map aI.enc),.fz (w.tasks.map (.int .i64)),.fz (w.outs.map aN.enc),.fz (w.ins.map (.int .i64)),.int .i64 w.used] false)/\ fr 9= .ptr ⟨0,9,0⟩ 0/\ en ⟨0,9,0⟩=some (.box [.int .i64 n.op,.int .i64 n.n,.fz (n.kids.map (.int .i64)),.fz (n.pats.map Pat.enc)] false)/\ fr 11= .ptr ⟨0,11,0⟩ 0/\ en ⟨0,11,0⟩=some (.box [.int .i64 u.kind,.int .i64 u.n] false)/\ fr 12= .ptr ⟨0,12,0⟩ 0/\ en ⟨0,12,0⟩=some (.box [.cl [],.cl [],.cl [],.cl [],.int .i64 0,.int .i64 0,.int .i64 0,.int .i64 0,.int .i64 0,.int .i64 0,.int .i64 0] false)/\ fr 13= .int .i64 k/\
  mF w a left n.kids env u k (n.pats.drop k)=iR w a left n env u) 0 (bXl _) ⟨_,_,_,rfl,by simp only[go_sem,qW],by simp only[go_sem,qW],by simp only[go_sem,qW],by simp only[go_sem,qW],by simp only[go_sem,qW],by simp only[go_sem,qW],by simp only[go_sem,qW],by simp only[go_sem,qW],by simp only[go_sem,qW],by simp only[go_sem,qW],by simp only[go_sem,qW],by simp only[go_sem,qW],by rw[List.drop_zero];rfl⟩ ?_
 rintro k st hk ⟨fr,en,cnt,rfl,k1,k2,k4,k6,e6,k9,e9,k11,e11,k12,e12,k13,hD⟩
 simp only[go_sem,qC,qG,qW,k1,k2,k4,k6,e6,k9,e9,k11,e11,k12,e12,k13]
 refine aA (fun hq2=>?_) (fun hq2=>?_)
 ·have h':k<n.pats.length:=of_decide_eq_true hq2;have hM:=bAz h n.pats[k] (hpc _ (bXn h')) u hu;rw[aLu h']at hD;unfold aLs at hM;have hw1:IntKind.i64.wrap (1+(k:Int))=((1+k:Nat):Int):=by rw[bY (by omega)];omega
  have hki:1+k<n.kids.length:=by omega
  have hkg:n.kids.getD (1+k) 0=n.kids[1+k]:=by simp[bXm,hki]
  cases hx:kA w n.pats[k] u with
  |none=>
   rw[hx]at hM hD;simp only[go_sem,qC,qG,qW,k1,k2,k4,k6,e6,k9,e9,k11,e11,k12,e12,k13,h',hM.ret,bZ7,bZj]
   refine⟨_,_,_,rfl,?_⟩
   simp only[go_sem,qC,qG,qW,k1,k2,k4,k6,e6,k9,e9,k11,e11,k12,e12,aJ h' (show Few n.pats.length by unfold Few;omega)]
   exact hD
  |some r=>
   rw[hx]at hM hD;have hr:=aDh _ hx;have hpk:=hpc _ (bXn h');have hN:=yR w a left n.kids[1+k] (env++r) hfit (by omega)
   rw[bXw]at hN;rw[<-hD];have hl1:env.length<=16777216:=by omega
   have hl2:r.length<=16777216:=by omega
   have hl3:env.length+r.length<=16777216:=by omega
   simp only[go_sem,qC,qG,qW,k1,k2,k4,k6,e6,k9,e9,k11,e11,k12,e12,k13,h',hM.ret,bX3,bZf]
   refine aO ?_
   cases h0:env.isEmpty<;>cases h1:r.isEmpty
   all_goals
    try(have h0':env=[]:=(by simpa using h0);subst h0')
    try(have h1':r=[]:=(by simpa using h1);subst h1')
    try simp only[bXv,bYw,bYx]at hN
    simp only[go_sem,qC,qG,qW,k1,k2,k4,k6,e6,k9,e9,k11,e11,k12,e12,k13,h',hw1,hki,hkg,dB,hH,lV,hZ,vF,mG,fN,h0,h1,hl1,hl2,hl3,aB6,aQ0,bXj,bX8,bYb,bY2,bX2,bYx,bXv,bYw,bXd,bXs,hN.ret,bXe,bXf,bXh,bXi,bXg,bXc,if_false]
 ·have:k=n.pats.length:=by simp at hq2;omega
  subst this;rw[bY7,mF]at hD;rw[<-hD];simp only[go_sem,qC,qG,qW,k1,k2,k4,k6,e6,k9,e9,k11,e11,k12,e12,k13,hF.ret]
variable {p :aP}{w0 w:aB}{S:Nat->Prop}{a:Int}{left:List aC}
theorem aHr (v:aG):v.enc= .agg [.int .i64 v.kind,.int .i64 v.n]:=rfl
theorem bU {l:List aG}{en:En}(h:0<l.length):sP 2 en (.fz (l.map aG.enc)) (.int .i64 0)=some {v:= .fp [.int .i64 (aZ l 0).kind,.int .i64 (aZ l 0).n] 0}:=
 zA (f:=aG.enc) (size:=2) (i:=0) nB (by simp only[inR,cAg];omega) fun _=>rfl
theorem pL {l:List aG}{en:En}(h:1<l.length):sP 2 en (.fz (l.map aG.enc)) (.int .i64 1)=some {v:= .fp [.int .i64 (aZ l 1).kind,.int .i64 (aZ l 1).n] 0}:=
 zA (f:=aG.enc) (size:=2) (i:=1) nB (by simp only[inR,cAg];omega) fun _=>rfl
theorem aXl (h:bP p w0 S w)(ha:inR a 0 ((w.tasks.length:Int)-1)=true){v:aG}(hv:VOk p S w v):
  PC L 166 [.agg [.fz (w.objs.map aI.enc),.fz (w.tasks.map (.int .i64)),.fz (w.outs.map aN.enc),.fz (w.ins.map (.int .i64)),.int .i64 w.used],.int .i64 a,.fz (left.map aC.enc),.agg [.int .i64 v.kind,.int .i64 v.n]] (.agg [.fz ((eX w a left v).w.objs.map aI.enc),.fz ((eX w a left v).w.tasks.map (.int .i64)),.fz ((eX w a left v).w.outs.map aN.enc),.fz ((eX w a left v).w.ins.map (.int .i64)),.int .i64 (eX w a left v).w.used,.int .i64 (eX w a left v).what,.int .i64 (eX w a left v).e.task,.int .i64 (eX w a left v).e.act,.int .i64 (eX w a left v).e.n,.int .i64 (eX w a left v).e.v.kind,.int .i64 (eX w a left v).e.v.n]):=by
 have hfit:=dQ h ha;have hF:=eQ w a 2 hfit;have hO:=nJ w v 6 (vG hv)
 by_cases h6:kJ w v 6=true
 ·obtain⟨_,a2,a3,_⟩:=jN h hv h6;rw[rN,if_pos h6,h6]at hO;have hF3:=eQ w a (w.obj v.n).n hfit
  by_cases h0:(w.obj v.n).n=0
  ·have d0:decide ((w.obj v.n).n=0)=true:=decide_eq_true h0;have e:eX w a left v=oL w:=by unfold eX;rw[if_pos h6,if_pos h0]
   rw[e]
   refine aL aUu rfl rfl ?_
   simp only[go_sem,qC,qG,qW,aF8,hO.ret,d0,oL,lQ,nB]
  ·have d0:decide ((w.obj v.n).n=0)=false:=decide_eq_false h0
   by_cases h1:(w.obj v.n).n=1
   ·have d1:decide ((w.obj v.n).n=1)=true:=decide_eq_true h1;have e:eX w a left v=dK (bW w a left (aZ (w.obj v.n).vals 0)) a 20 0 (aZ (w.obj v.n).vals 0):=by unfold eX;rw[if_pos h6,if_neg h0,if_neg (by rw[h1];decide)]
    rw[e];have hk:=a2.ok;rw[dN,if_pos a3,iH,if_neg h0,if_pos h1]at hk;simp only[bXb,cAg]at hk;have hB:=iB w a left (aZ (w.obj v.n).vals 0) hfit;have hE:=kK (bW w a left (aZ (w.obj v.n).vals 0)) a 20 0 (aZ (w.obj v.n).vals 0)
    refine aL aUu rfl rfl ?_
    simp only[go_sem,qC,qG,qW,aF8,hO.ret,d0,d1]
    refine aO ?_
    simp only[go_sem,qC,qG,qW,bU (l:=(w.obj v.n).vals) (by omega),hB.ret,hE.ret,bXe,bXf,bXh,bXi,bXg,bXc,if_false]
   ·have d1:decide ((w.obj v.n).n=1)=false:=decide_eq_false h1;have e:eX w a left v=bJ w a (w.obj v.n).n:=by unfold eX;rw[if_pos h6,if_neg h0,if_pos h1]
    rw[e]
    refine aL aUu rfl rfl ?_
    simp only[go_sem,qC,qG,qW,aF8,hO.ret,d0,d1,hF3.ret]
 ·have e:eX w a left v=bJ w a 2:=by unfold eX;rw[if_neg h6]
  rw[e];rw[bYf]at h6;rw[h6]at hO
  refine aL aUu rfl rfl ?_
  simp only[go_sem,qC,qG,qW,aF8,hO.ret,hF.ret]
theorem aLv {n:Int}{o:aI}(hf:Fit w a):Fit (gK w n o) a:=by
 refine⟨?_,hf.at_,?_⟩
 ·rw[oM];exact hf.len
 ·rw[oM];exact hf.rng
theorem aDi (h:bP p w0 S w)(ha:inR a 0 ((w.tasks.length:Int)-1)=true){op:Int}{l:List aG}(hv: ∀v∈l,VOk p S w v)(h0:0<l.length)(ho:op=16 \/op=17 \/op=18/\ 1<l.length):
  PC L 164 [.agg [.fz (w.objs.map aI.enc),.fz (w.tasks.map (.int .i64)),.fz (w.outs.map aN.enc),.fz (w.ins.map (.int .i64)),.int .i64 w.used],.int .i64 a,.fz (left.map aC.enc),.int .i64 op,.fz (l.map aG.enc)] (.agg [.fz ((eP w a left op l).w.objs.map aI.enc),.fz ((eP w a left op l).w.tasks.map (.int .i64)),.fz ((eP w a left op l).w.outs.map aN.enc),.fz ((eP w a left op l).w.ins.map (.int .i64)),.int .i64 (eP w a left op l).w.used,.int .i64 (eP w a left op l).what,.int .i64 (eP w a left op l).e.task,.int .i64 (eP w a left op l).e.act,.int .i64 (eP w a left op l).e.n,.int .i64 (eP w a left op l).e.v.kind,.int .i64 (eP w a left op l).e.v.n]):=by
 have hfit:=dQ h ha;have hF:=eQ w a 2 hfit;have hv0:=hv _ (cQ h0);have hO:=nJ w (aZ l 0) 3 (vG hv0)
 by_cases h16:op=16
 ·subst h16;have e:eP w a left 16 l=dK (gZ w a left ⟨3,0,[aZ l 0],[]⟩) a 16 0 (aZ l 0):=by unfold eP;rw[if_pos rfl]
  rw[e];have hM:=aE0 w a left ⟨3,0,[aZ l 0],[]⟩ hfit;have hE:=kK (gZ w a left ⟨3,0,[aZ l 0],[]⟩) a 16 0 (aZ l 0);simp only[bYa,bXv,aHr]at hM
  refine aL aUt rfl rfl ?_
  simp only[go_sem,qC,qG,qW,aF7]
  refine aO ?_
  simp only[go_sem,qC,qG,qW,bU h0,dC,bR,hM.ret,hE.ret,bXe,bXf,bXh,bXi,bXg,bXc,if_false]
 ·have d16:decide (op=16)=false:=decide_eq_false h16
  by_cases h3:kJ w (aZ l 0) 3=true
  ·obtain⟨a1,a2,a3,_⟩:=jN h hv0 h3;rw[rN,if_pos h3,h3]at hO;have hk:=a2.ok;simp only[dN,a3]at hk
   simp at hk
   by_cases h17:op=17
   ·subst h17;have e:eP w a left 17 l=dK (bW w a left (aZ (w.obj (aZ l 0).n).vals 0)) a 17 0 (aZ (w.obj (aZ l 0).n).vals 0):=by
     unfold eP;rw[if_neg (by decide),if_pos h3,if_pos rfl]
    rw[e];have hB:=iB w a left (aZ (w.obj (aZ l 0).n).vals 0) hfit;have hE:=kK (bW w a left (aZ (w.obj (aZ l 0).n).vals 0)) a 17 0 (aZ (w.obj (aZ l 0).n).vals 0)
    refine aL aUt rfl rfl ?_
    simp only[go_sem,qC,qG,qW,aF7]
    refine aO ?_
    simp only[go_sem,qC,qG,qW,bU h0,hO.ret,bXe,bXf,bXh,bXi,bXg,bXc,if_false]
    refine aO ?_
    simp only[go_sem,qC,qG,qW,bU (l:=(w.obj (aZ l 0).n).vals) (by omega),hB.ret,hE.ret,bXe,bXf,bXh,bXi,bXg,bXc,if_false]
   ·have d17:decide (op=17)=false:=decide_eq_false h17;have h18:op=18:=by omega
    have hl1:1<l.length:=by omega
    subst h18;have e:eP w a left 18 l=dK (bW (gK w (aZ l 0).n ⟨3,0,[aZ l 1],[]⟩) a left eK) a 18 0 (aZ l 1):=by
     unfold eP;rw[if_neg (by decide),if_pos h3,if_neg (by decide)]
    rw[e];simp only[inR,cAg]at ha;have hS:=aHn w (aZ l 0).n ⟨3,0,[aZ l 1],[]⟩ a1 (by omega) hfit.len
    have hB:=iB (gK w (aZ l 0).n ⟨3,0,[aZ l 1],[]⟩) a left eK (aLv hfit);have hE:=kK (bW (gK w (aZ l 0).n ⟨3,0,[aZ l 1],[]⟩) a left eK) a 18 0 (aZ l 1);simp only[bYa,bXv,aHr]at hS
    refine aL aUt rfl rfl ?_
    simp only[go_sem,qC,qG,qW,aF7]
    refine aO ?_
    simp only[go_sem,qC,qG,qW,bU h0,hO.ret,bXe,bXf,bXh,bXi,bXg,bXc,if_false]
    refine aO ?_
    simp only[go_sem,qC,qG,qW,bU h0,pL hl1,dC,bR,hS.ret,bXe,bXf,bXh,bXi,bXg,bXc,if_false]
    refine aO ?_
    simp only[go_sem,qC,qG,qW,bU h0,pL hl1,iS.ret,hB.ret,hE.ret,bXe,bXf,bXh,bXi,bXg,bXc,if_false]
  ·have e:eP w a left op l=bJ w a 2:=by unfold eP;rw[if_neg h16,if_neg h3]
   rw[e];rw[bYf]at h3;rw[h3]at hO
   refine aL aUt rfl rfl ?_
   simp only[go_sem,qC,qG,qW,aF7,d16]
   refine aO ?_
   simp only[go_sem,qC,qG,qW,bU h0,hO.ret,bXe,bXf,bXh,bXi,bXg,bXc,if_false];simp only[go_sem,qC,qG,qW,hF.ret]
theorem aJq {en:En}{size:Nat}{xs:List Val}{k:IntKind}(h:1<=xs.length)(hs:cZ size xs=true):mB false size en (.fz xs) (some (.int k 1)) none none=some {v:= .fz (xs.drop 1)}:=aF0 (i:=1) h hs
theorem aCh (h:bP p w0 S w)(ha:inR a 0 ((w.tasks.length:Int)-1)=true){op:Int}{l:List aG}(hv: ∀v∈l,VOk p S w v)(h0:0<l.length)(ho:op=22/\ 1<l.length \/op=23):
  PC L 168 [.agg [.fz (w.objs.map aI.enc),.fz (w.tasks.map (.int .i64)),.fz (w.outs.map aN.enc),.fz (w.ins.map (.int .i64)),.int .i64 w.used],.int .i64 a,.fz (left.map aC.enc),.int .i64 op,.fz (l.map aG.enc)] (.agg [.fz ((cC w a left op l).w.objs.map aI.enc),.fz ((cC w a left op l).w.tasks.map (.int .i64)),.fz ((cC w a left op l).w.outs.map aN.enc),.fz ((cC w a left op l).w.ins.map (.int .i64)),.int .i64 (cC w a left op l).w.used,.int .i64 (cC w a left op l).what,.int .i64 (cC w a left op l).e.task,.int .i64 (cC w a left op l).e.act,.int .i64 (cC w a left op l).e.n,.int .i64 (cC w a left op l).e.v.kind,.int .i64 (cC w a left op l).e.v.n]):=by
 have hfit:=dQ h ha;have hF:=eQ w a 2 hfit;have hv0:=hv _ (cQ h0);have hO:=nJ w (aZ l 0) 4 (vG hv0);have ht:0<w.tasks.length:=by simp only[inR,cAg]at ha;omega
 by_cases h3:kJ w (aZ l 0) 4=true
 ·obtain⟨a1,a2,a3,_⟩:=jN h hv0 h3;rw[rN,if_pos h3,h3]at hO;have hk:=a2.ok;simp only[dN,a3]at hk;simp[aR]at hk
  by_cases h22:op=22
  ·subst h22;have hl1:1<l.length:=by omega
   by_cases h4:4<=(w.obj (aZ l 0).n).vals.length
   ·have d4:decide ((4:Int)<=((w.obj (aZ l 0).n).vals.length:Int))=true:=decide_eq_true (by omega)
    have e:cC w a left 22 l=oL w:=by unfold cC;rw[if_pos h3,if_pos rfl,if_pos h4]
    rw[e]
    refine aL aM6 rfl rfl ?_
    simp only[go_sem,qC,qG,qW,aD4]
    refine aO ?_
    simp only[go_sem,qC,qG,qW,bU h0,hO.ret,bXe,bXf,bXh,bXi,bXg,bXc,if_false];simp only[go_sem,qC,qG,qW,d4,oL,lQ,nB]
   ·have d4:decide ((4:Int)<=((w.obj (aZ l 0).n).vals.length:Int))=false:=decide_eq_false (by omega)
    have e:cC w a left 22 l=dK (bW (gK w (aZ l 0).n ⟨4,0,(w.obj (aZ l 0).n).vals++[aZ l 1],[]⟩) a left eK) a 22 0 (aZ l 1):=by
     unfold cC;rw[if_pos h3,if_pos rfl,if_neg h4]
    rw[e];have hM:=aB8 (w.obj (aZ l 0).n).vals (aZ l 1) (by omega)
    have hS:=aHn w (aZ l 0).n ⟨4,0,(w.obj (aZ l 0).n).vals++[aZ l 1],[]⟩ a1 ht hfit.len;have hB:=iB (gK w (aZ l 0).n ⟨4,0,(w.obj (aZ l 0).n).vals++[aZ l 1],[]⟩) a left eK (aLv hfit);have hE:=kK (bW (gK w (aZ l 0).n ⟨4,0,(w.obj (aZ l 0).n).vals++[aZ l 1],[]⟩) a left eK) a 22 0 (aZ l 1);simp only[bXv]at hS
    refine aL aM6 rfl rfl ?_
    simp only[go_sem,qC,qG,qW,aD4]
    refine aO ?_
    simp only[go_sem,qC,qG,qW,bU h0,hO.ret,bXe,bXf,bXh,bXi,bXg,bXc,if_false];simp only[go_sem,qC,qG,qW,d4]
    refine aO ?_
    simp only[go_sem,qC,qG,qW,bU h0,pL hl1,hM.ret,hS.ret,bXe,bXf,bXh,bXi,bXg,bXc,if_false]
    refine aO ?_
    simp only[go_sem,qC,qG,qW,bU h0,pL hl1,iS.ret,hB.ret,hE.ret,bXe,bXf,bXh,bXi,bXg,bXc,if_false]
  ·have h23:op=23:=by omega
   subst h23
   by_cases hz:(w.obj (aZ l 0).n).vals.length=0
   ·have dz:decide (((w.obj (aZ l 0).n).vals.length:Int)=0)=true:=decide_eq_true (by omega)
    have e:cC w a left 23 l=oL w:=by unfold cC;rw[if_pos h3,if_neg (by decide),if_pos hz]
    rw[e]
    refine aL aM6 rfl rfl ?_
    simp only[go_sem,qC,qG,qW,aD4]
    refine aO ?_
    simp only[go_sem,qC,qG,qW,bU h0,hO.ret,bXe,bXf,bXh,bXi,bXg,bXc,if_false];simp only[go_sem,qC,qG,qW,dz,oL,lQ,nB]
   ·have dz:decide (((w.obj (aZ l 0).n).vals.length:Int)=0)=false:=decide_eq_false (by omega)
    have e:cC w a left 23 l=dK (bW (gK w (aZ l 0).n ⟨4,0,(w.obj (aZ l 0).n).vals.drop 1,[]⟩) a left (aZ (w.obj (aZ l 0).n).vals 0)) a 23 0 (aZ (w.obj (aZ l 0).n).vals 0):=by
     unfold cC;rw[if_pos h3,if_neg (by decide),if_neg hz]
    rw[e];have hS:=aHn w (aZ l 0).n ⟨4,0,(w.obj (aZ l 0).n).vals.drop 1,[]⟩ a1 ht hfit.len;have hB:=iB (gK w (aZ l 0).n ⟨4,0,(w.obj (aZ l 0).n).vals.drop 1,[]⟩) a left (aZ (w.obj (aZ l 0).n).vals 0) (aLv hfit);have hE:=kK (bW (gK w (aZ l 0).n ⟨4,0,(w.obj (aZ l 0).n).vals.drop 1,[]⟩) a left (aZ (w.obj (aZ l 0).n).vals 0)) a 23 0 (aZ (w.obj (aZ l 0).n).vals 0);simp only[bXv]at hS;have hge:1<=(w.obj (aZ l 0).n).vals.length:=by omega
    have hl16:((w.obj (aZ l 0).n).vals.drop 1).length<=16777216:=by simp only[bZi];omega
    refine aL aM6 rfl rfl ?_
    simp only[go_sem,qC,qG,qW,aD4]
    refine aO ?_
    simp only[go_sem,qC,qG,qW,bU h0,hO.ret,bXe,bXf,bXh,bXi,bXg,bXc,if_false];simp only[go_sem,qC,qG,qW,dz]
    refine aO ?_
    cases hd:((w.obj (aZ l 0).n).vals.drop 1).isEmpty with
    |true=>
     have hd':(w.obj (aZ l 0).n).vals.drop 1=[]:=by simpa using hd
     rw[hd']at hS hB hE⊢;simp only[bXv]at hS;simp only[go_sem,qC,qG,qW,bU h0,aJq,aB6,hge,dB,hH,lV,<-List.map_drop,hd',bXv,dC,bR,hS.ret,bXe,bXf,bXh,bXi,bXg,bXc,if_false]
     refine aO ?_
     simp only[go_sem,qC,qG,qW,bU h0,bU (l:=(w.obj (aZ l 0).n).vals) (by omega),hB.ret,hE.ret,bXe,bXf,bXh,bXi,bXg,bXc,if_false]
    |false=>
     generalize hgd:(w.obj (aZ l 0).n).vals.drop 1=dl at*;simp only[go_sem,qC,qG,qW,bU h0,aJq,aB6,hge,dB,hH,hZ,<-List.map_drop,hgd,fN,hd,hl16,bXj,bXd,bXs,cW,bL,hS.ret,bXe,bXf,bXh,bXi,bXg,bXc,if_false]
     refine aO ?_
     simp only[go_sem,qC,qG,qW,bU h0,bU (l:=(w.obj (aZ l 0).n).vals) (by omega),hB.ret,hE.ret,bXe,bXf,bXh,bXi,bXg,bXc,if_false]
 ·have e:cC w a left op l=bJ w a 2:=by unfold cC;rw[if_neg h3]
  rw[e];rw[bYf]at h3;rw[h3]at hO
  refine aL aM6 rfl rfl ?_
  simp only[go_sem,qC,qG,qW,aD4]
  refine aO ?_
  simp only[go_sem,qC,qG,qW,bU h0,hO.ret,bXe,bXf,bXh,bXi,bXg,bXc,if_false];simp only[go_sem,qC,qG,qW,hF.ret]
variable {p :aP}{w0 w:aB}{S:Nat->Prop}{a:Int}{left:List aC}
theorem aJr {en:En}{size n:Nat}{k:Key}{kk:IntKind}(hn:1<=n):mB false size en (.bl k 0 n) (some (.int kk 1)) none none=(match en k with
  |some (.blk sz _ _)=>if sz=size then some {v:= .bl k 1 (n-1),rs:=[.val k]}else none
  |_=>none):=by
 have hb:fP (some (.int kk 1)) 0 n=some 1:=aCt (i:=1) hn;simp only[mB,wL,hb,bXc,if_false];cases en k with
 |none=>rfl
 |some e=>cases e<;>simp
theorem bA0 {outs:List aN}{ins:List Int}{used:Int}(hf:Fit w a)(h1:outs.length<=110)(h2:ins.length<=60):Fit ⟨w.objs,w.tasks,outs,ins,used⟩ a:=⟨⟨hf.len.1,hf.len.2.1,h1,h2⟩,hf.at_,hf.rng⟩
theorem aJs (x:Int)(l:List Int):(x::l).map (Val.int .i64)= .int .i64 x::l.map (.int .i64):=rfl
set_option maxHeartbeats 1600000 in
theorem aHs (h:bP p w0 S w)(ha:inR a 0 ((w.tasks.length:Int)-1)=true)(n:aK){l:List aG}(hv: ∀v∈l,VOk p S w v)(ho:n.op=25 \/n.op=24/\ 0<l.length):
  PC L 169 [.agg [.fz (w.objs.map aI.enc),.fz (w.tasks.map (.int .i64)),.fz (w.outs.map aN.enc),.fz (w.ins.map (.int .i64)),.int .i64 w.used],.int .i64 a,.fz (left.map aC.enc),.agg [.int .i64 n.op,.int .i64 n.n,.fz (n.kids.map (.int .i64)),.fz (n.pats.map Pat.enc)],.fz (l.map aG.enc)] (.agg [.fz ((cY w a left n.op n.n l).w.objs.map aI.enc),.fz ((cY w a left n.op n.n l).w.tasks.map (.int .i64)),.fz ((cY w a left n.op n.n l).w.outs.map aN.enc),.fz ((cY w a left n.op n.n l).w.ins.map (.int .i64)),.int .i64 (cY w a left n.op n.n l).w.used,.int .i64 (cY w a left n.op n.n l).what,.int .i64 (cY w a left n.op n.n l).e.task,.int .i64 (cY w a left n.op n.n l).e.act,.int .i64 (cY w a left n.op n.n l).e.n,.int .i64 (cY w a left n.op n.n l).e.v.kind,.int .i64 (cY w a left n.op n.n l).e.v.n]):=by
 have hfit:=dQ h ha;have hF2:=eQ w a 2 hfit;have hF4:=eQ w a 4 hfit;obtain⟨b1,b2,b3,b4,b5,b6,b7⟩:=eY.1 h.ok;simp only[mN,bXb,cAg]at b3;simp only[inR,cAg]at b4;have hat:=hfit.at_;have hrng:=hfit.rng;simp only[inR,cAg]at hat hrng;have t1:((w.objs.map aI.enc).take w.objs.length)=w.objs.map aI.enc:=bXs (by simp)
 have t2:((w.tasks.map (Val.int .i64)).take w.tasks.length)=w.tasks.map (.int .i64):=bXs (by simp)
 have t3:((w.outs.map aN.enc).take w.outs.length)=w.outs.map aN.enc:=bXs (by simp)
 have t4:((w.ins.map (Val.int .i64)).take w.ins.length)=w.ins.map (.int .i64):=bXs (by simp)
 refine aL bKh rfl rfl ?_
 simp only[go_sem,qC,qG,qW,aSs]
 refine(aCa w (by omega) (by omega) hfit.len (xU _ _ w)).mono ?_
 rintro x en1 cnt1 ⟨⟨g5,g8,vU,vI,rfl,e5,l5,m5,e8,l8,m8,mU,mI⟩,old,up⟩
 have q5:=old 5 0 (by simp[aQ])
 have q8:=old 8 0 (by simp[aQ])
 have q10:=old 10 0 (by simp[aQ])
 have n5: ¬g5=0:=by simp[aQ]at l5;omega
 have n8: ¬g8=0:=by simp[aQ]at l8;omega
 have n5': ¬0=g5:=by omega
 have n8': ¬0=g8:=by omega
 try simp only[go_sem,qW]at q5 q8 q10
 obtain⟨g11,hg11⟩: ∃g,g=cnt1 0 11:=⟨_,rfl⟩
 have eU:=True.intro;have eI:=True.intro;have nU:=True.intro
 by_cases h25:n.op=25
 ·rw[h25];cases hins:w.ins with
  |nil=>
   have e:cY w a left 25 n.n l=oL w:=by unfold cY;rw[if_pos rfl,hins]
   rw[e];rcases mI with⟨rfl,hi⟩|⟨gI,rfl,eI,lI,hi⟩
   ·rcases mU with⟨rfl,hu⟩|⟨gU,rfl,eU,lU,hu⟩
    all_goals simp only[go_sem,qC,qG,qW,q5,q8,q10,n5,n8,n5',n8',h25,dC,bR,cW,bL,e5,e8,eU,t1,t2,t3,bXj,bXd,oL,lQ,nB,hu,hins,bXv]
   ·rw[hins]at hi;cases hi
  |cons x xs=>
   have hx:inR x (-1000000000) 1000000000=true:=by rw[hins]at b3;simp only[bXe,bXb]at b3;exact b3.2.1
   have hlx:xs.length+1<=50:=by rw[hins]at b3;have:=b3.1;simp only[bXu]at this;omega
   have hlen:w.ins.length=xs.length+1:=by rw[hins];rfl
   rcases mI with⟨rfl,hi⟩|⟨gI,rfl,eI,lI,hi⟩
   ·rw[hins]at hi;cases hi
   rw[hins,aJs]at eI;have tx:(xs.map (Val.int .i64)).take xs.length=xs.map (.int .i64):=bXs (by simp)
   have dpos:(0:Int)<((xs.length+1:Nat):Int):=by omega
   have di:decide (((xs.length+1:Nat):Int)=0)=false:=decide_eq_false (by omega)
   by_cases hus:1000000000<=w.used
   ·have du:decide ((1000000000:Int)<=w.used)=true:=decide_eq_true hus;have e:cY w a left 25 n.n l=bJ w a 4:=by unfold cY;rw[if_pos rfl,hins];simp only;rw[if_pos hus]
    rw[e];rw[hins,aJs]at hF4;rcases mU with⟨rfl,hu⟩|⟨gU,rfl,eU,lU,hu⟩
    ·rw[hu]at hF4;simp only[go_sem,qC,qG,qW,q5,q8,q10,n5,n8,n5',n8',h25,dC,bR,cW,bL,e5,e8,eI,t1,t2,bXj,bXu,bXd,hlen,di,dpos,Int.le_refl,bXf,tx,(xT _).ret,<-hg11,du,hF4.ret]
    ·have nU: ¬gU=g11:=by omega
     simp only[go_sem,qC,qG,qW,q5,q8,q10,n5,n8,n5',n8',h25,dC,bR,cW,bL,e5,e8,eI,eU,nU,t1,t2,t3,bXj,bXu,bXd,hlen,di,dpos,Int.le_refl,bXf,tx,(xT _).ret,<-hg11,du,hF4.ret]
   ·have du:decide ((1000000000:Int)<=w.used)=false:=decide_eq_false hus;have e:cY w a left 25 n.n l=dK (bW ⟨w.objs,w.tasks,w.outs,xs,w.used+1⟩ a left (tU x)) a 25 0 (tU x):=by unfold cY;rw[if_pos rfl,hins];simp only;rw[if_neg hus]
    rw[e];have hwu:IntKind.i64.wrap (w.used+1)=w.used+1:=bY (by omega)
    have hB:=iB ⟨w.objs,w.tasks,w.outs,xs,w.used+1⟩ a left (tU x) (bA0 hfit (by omega) (by omega))
    have hE:=kK (bW ⟨w.objs,w.tasks,w.outs,xs,w.used+1⟩ a left (tU x)) a 25 0 (tU x);dsimp only at hB;have hx1:1<=xs.length+1:=by omega
    have hx2:xs.length+1-1=xs.length:=by omega
    have hx3:1+xs.length<=xs.length+1:=by omega
    have hx4:xs.length<=16777216:=by omega
    cases hxe:xs.isEmpty
    all_goals
     try(have hxe':xs=[]:=(by simpa using hxe);subst hxe')
     try simp only[bXv]at hB
     rcases mU with⟨rfl,hu⟩|⟨gU,rfl,eU,lU,hu⟩
     ·rw[hu]at hB;simp only[go_sem,qC,qG,qW,q5,q8,q10,n5,n8,n5',n8',h25,dC,bR,cW,bL,e5,e8,eI,t1,t2,bXj,bXu,bXd,hlen,di,dpos,Int.le_refl,bXf,tx,(xT _).ret,<-hg11,du]
      refine aO ?_
      simp only[go_sem,qC,qG,qW,q5,q8,q10,n5,n8,n5',n8',h25,dC,bR,cW,bL,e5,e8,eI,hx1,hx2,hx3,hx4,hxe,t1,t2,tx,aJr,aHm,dB,hH,lV,hZ,fN,aEz,bXj,bXu,bYb,bXd,hwu,bXv,bXe,bXf,bXh,bXi,bXg,bXc,if_false]
      refine aO ?_
      simp only[go_sem,qC,qG,qW,q5,q8,q10,n5,n8,n5',n8',h25,dC,bR,cW,bL,e5,e8,eI,hB.ret,hE.ret,t1,t2,tx,bXj,bXd,bXv,bXe,bXf,bXh,bXi,bXg,bXc,if_false]
     ·have nU: ¬gU=g11:=by omega
      have nU': ¬g11=gU:=by omega
      simp only[go_sem,qC,qG,qW,q5,q8,q10,n5,n8,n5',n8',h25,dC,bR,cW,bL,e5,e8,eI,eU,nU,nU',t1,t2,t3,bXj,bXu,bXd,hlen,di,dpos,Int.le_refl,bXf,tx,(xT _).ret,<-hg11,du]
      refine aO ?_
      simp only[go_sem,qC,qG,qW,q5,q8,q10,n5,n8,n5',n8',h25,dC,bR,cW,bL,e5,e8,eI,eU,nU,nU',hx1,hx2,hx3,hx4,hxe,t1,t2,t3,tx,aJr,aHm,dB,hH,lV,hZ,fN,aEz,bXj,bXu,bYb,bXd,hwu,bXv,bXe,bXf,bXh,bXi,bXg,bXc,if_false]
      refine aO ?_
      simp only[go_sem,qC,qG,qW,q5,q8,q10,n5,n8,n5',n8',h25,dC,bR,cW,bL,e5,e8,eI,eU,nU,nU',hB.ret,hE.ret,t1,t2,t3,tx,bXj,bXd,bXv,bXe,bXf,bXh,bXi,bXg,bXc,if_false]
 ·have h24:n.op=24:=by omega
  have h0:0<l.length:=by omega
  rw[h24]
  by_cases hk:(aZ l 0).kind=1
  ·have dk:decide ((aZ l 0).kind=1)=true:=decide_eq_true hk
   by_cases h100:100<=w.outs.length
   ·have d1:decide ((100:Int)<=(w.outs.length:Int))=true:=decide_eq_true (by omega)
    have e:cY w a left 24 n.n l=bJ w a 4:=by unfold cY;rw[if_neg (by decide),if_neg (fun h=>h hk),if_pos h100]
    rw[e];rcases mU with⟨rfl,hu⟩|⟨gU,rfl,eU,lU,hu⟩
    ·have:w.outs=[]:=by simpa using hu
     rw[this]at h100;simp at h100
    ·rcases mI with⟨rfl,hi⟩|⟨gI,rfl,eI,lI,hi⟩
     ·rw[hi]at hF4;simp only[go_sem,qC,qG,qW,q5,q8,q10,n5,n8,n5',n8',h24,bU h0,dk,d1,dC,bR,cW,bL,e5,e8,eU,t1,t2,t3,bXj,bXd,hF4.ret]
     ·simp only[go_sem,qC,qG,qW,q5,q8,q10,n5,n8,n5',n8',h24,bU h0,dk,d1,dC,bR,cW,bL,e5,e8,eU,eI,t1,t2,t3,t4,bXj,bXd,hF4.ret]
   ·have e:cY w a left 24 n.n l=dK (bW ⟨w.objs,w.tasks,w.outs++[⟨n.n,(aZ l 0).n⟩],w.ins,w.used⟩ a left eK) a 24 n.n (aZ l 0):=by
     unfold cY;rw[if_neg (by decide),if_neg (fun h=>h hk),if_neg h100]
    rw[e];have hB:=iB ⟨w.objs,w.tasks,w.outs++[⟨n.n,(aZ l 0).n⟩],w.ins,w.used⟩ a left eK (bA0 hfit (by simp only[bX8,bXu,bYb];omega) (by omega))
    have hE:=kK (bW ⟨w.objs,w.tasks,w.outs++[⟨n.n,(aZ l 0).n⟩],w.ins,w.used⟩ a left eK) a 24 n.n (aZ l 0);simp only[bXw,bYa,bXv,aN.enc]at hB;have hl1:w.outs.length+1<=16777216:=by omega
    rcases mU with⟨rfl,hu⟩|⟨gU,rfl,eU,lU,hu⟩
    ·have d1:decide ((100:Int)<=0)=false:=decide_eq_false (by omega)
     have hu':List.map (fun x:aN=>Val.agg [.int .i64 x.port,.int .i64 x.n]) w.outs=[]:=hu
     have hu2:w.outs=[]:=by simpa using hu
     rw[hu2]at hB hE⊢;simp only[bXv,bYw]at hB hE⊢;rcases mI with⟨rfl,hi⟩|⟨gI,rfl,eI,lI,hi⟩
     all_goals
      try rw[hi]at hB
      simp only[go_sem,qC,qG,qW,q5,q8,q10,n5,n8,n5',n8',h24,bU h0,dk,d1,dC,bR,cW,bL,e5,e8,eU,eI,t1,t2,t3,t4,bXj,bXd]
      refine aO ?_
      simp only[go_sem,qC,qG,qW,q5,q8,q10,n5,n8,n5',n8',h24,bU h0,dk,d1,dC,bR,cW,bL,e5,e8,eU,eI,t1,t2,t3,t4,bXj,bXd,dB,hH,hZ,List.isEmpty_cons,bEl,bXe,bXf,bXh,bXi,bXg,bXc,if_false]
      refine aO ?_
      simp only[go_sem,qC,qG,qW,q5,q8,q10,n5,n8,n5',n8',h24,bU h0,dk,d1,dC,bR,cW,bL,e5,e8,eU,eI,t1,t2,t3,t4,bXj,bXd,iS.ret,hB.ret,hE.ret,bXe,bXf,bXh,bXi,bXg,bXc,if_false]
    ·have d1:decide ((100:Int)<=(w.outs.length:Int))=false:=decide_eq_false (by omega)
     rcases mI with⟨rfl,hi⟩|⟨gI,rfl,eI,lI,hi⟩
     all_goals
      try rw[hi]at hB
      simp only[go_sem,qC,qG,qW,q5,q8,q10,n5,n8,n5',n8',h24,bU h0,dk,d1,dC,bR,cW,bL,e5,e8,eU,eI,t1,t2,t3,t4,bXj,bXd]
      refine aO ?_
      simp only[go_sem,qC,qG,qW,q5,q8,q10,n5,n8,n5',n8',h24,bU h0,dk,d1,dC,bR,cW,bL,e5,e8,eU,eI,t1,t2,t3,t4,bXj,bXd,hl1,dB,hH,vF,mG,bX8,bZz,bEl,bXe,bXf,bXh,bXi,bXg,bXc,if_false]
      refine aO ?_
      simp only[go_sem,qC,qG,qW,q5,q8,q10,n5,n8,n5',n8',h24,bU h0,dk,d1,dC,bR,cW,bL,e5,e8,eU,eI,t1,t2,t3,t4,bXj,bXd,bX8,bZz,bXs,iS.ret,hB.ret,hE.ret,bXe,bXf,bXh,bXi,bXg,bXc,if_false]
  ·have dk:decide ((aZ l 0).kind=1)=false:=decide_eq_false hk;have e:cY w a left 24 n.n l=bJ w a 2:=by unfold cY;rw[if_neg (by decide),if_pos hk]
   rw[e];rcases mU with⟨rfl,hu⟩|⟨gU,rfl,eU,lU,hu⟩<;>rcases mI with⟨rfl,hi⟩|⟨gI,rfl,eI,lI,hi⟩
   all_goals
    try rw[hu]at hF2
    try rw[hi]at hF2
    simp only[go_sem,qC,qG,qW,q5,q8,q10,n5,n8,n5',n8',h24,bU h0,dk,dC,bR,cW,bL,e5,e8,eU,eI,t1,t2,t3,t4,bXj,bXd,hF2.ret]
variable {p :aP}{w0 w:aB}{S:Nat->Prop}{a:Int}{left:List aC}
theorem cF {f:aC}(hf:FOk p S w f):inR f.node 0 ((p.nodes.length:Int)-1)=true:=by
 have:=hf.ok;simp only[bG,bXb]at this;exact this.1.1
theorem aQ2 {k:Nat}:qN p left (k+1)=if(p.node (left.getD k default).node).op=26 then k+1 else qN p left k:=rfl
set_option maxHeartbeats 1600000 in
theorem aQ3 (h:bP p w0 S w)(ha:inR a 0 ((w.tasks.length:Int)-1)=true)(hl:LOk p S w left){kid:Int}{env:List aG}(he:env.length<=30):
  PC L 163 [.agg [.fz (p.nodes.map aK.enc),.fz (p.funs.map (.int .i64)),.int .i64 p.main,.fz (p.cons.map bE.enc)],.agg [.fz (w.objs.map aI.enc),.fz (w.tasks.map (.int .i64)),.fz (w.outs.map aN.enc),.fz (w.ins.map (.int .i64)),.int .i64 w.used],.int .i64 a,.fz (left.map aC.enc),.int .i64 kid,.fz (env.map aG.enc)] (.agg [.fz ((eN p w a left kid env).w.objs.map aI.enc),.fz ((eN p w a left kid env).w.tasks.map (.int .i64)),.fz ((eN p w a left kid env).w.outs.map aN.enc),.fz ((eN p w a left kid env).w.ins.map (.int .i64)),.int .i64 (eN p w a left kid env).w.used,.int .i64 (eN p w a left kid env).what,.int .i64 (eN p w a left kid env).e.task,.int .i64 (eN p w a left kid env).e.act,.int .i64 (eN p w a left kid env).e.n,.int .i64 (eN p w a left kid env).e.v.kind,.int .i64 (eN p w a left kid env).e.v.n]):=by
 have hfit:=dQ h ha;have hF3:=eQ w a 3 hfit;have hF4:=eQ w a 4 hfit;have hlen:=hl.len;have hwl:IntKind.i64.wrap ((left.length:Int)-1)=(left.length:Int)-1:=bY (by omega)
 refine aL bKe rfl rfl ?_
 simp only[go_sem,qC,qG,qW,aSq,hwl]
 refine Go.Abs.wp_loop (fun(k:Nat) st=> ∃fr en cnt,st=⟨fr,en,cnt⟩/\ fr 2= .int .i64 a/\ fr 3= .fz (left.map aC.enc)/\ fr 4= .int .i64 kid/\ fr 5= .fz (env.map aG.enc)/\ fr 6= .ptr ⟨0,6,0⟩ 0/\ en ⟨0,6,0⟩=some (.box [.fz (p.nodes.map aK.enc),.fz (p.funs.map (.int .i64)),.int .i64 p.main,.fz (p.cons.map bE.enc)] false)/\ fr 7= .ptr ⟨0,7,0⟩ 0/\ en ⟨0,7,0⟩=some (.box [.fz (w.objs.map aI.enc),.fz (w.tasks.map (.int .i64)),.fz (w.outs.map aN.enc),.fz (w.ins.map (.int .i64)),.int .i64 w.used] false)/\ fr 12= .ptr ⟨0,12,0⟩ 0/\ en ⟨0,12,0⟩=some (.box [.cl [],.cl [],.cl [],.cl [],.int .i64 0,.int .i64 0,.int .i64 0,.int .i64 0,.int .i64 0,.int .i64 0,.int .i64 0] false)/\ fr 13= .int .i64 ((k:Int)-1)/\ (cnt 0 7=1/\ cnt 0 12=1/\ cnt 0 14=0)/\ k<=left.length/\ qN p left k=qN p left left.length) (fun k=>k) left.length ⟨_,_,_,rfl,by simp only[go_sem,qW],by simp only[go_sem,qW],by simp only[go_sem,qW],by simp only[go_sem,qW],by simp only[go_sem,qW],by simp only[go_sem,qW],by simp only[go_sem,qW],by simp only[go_sem,qW],by simp only[go_sem,qW],by simp only[go_sem,qW],by simp only[go_sem,qW],by simp[aQ],bXd _,rfl⟩ ?_
 rintro k st ⟨fr,en,cnt,rfl,k2,k3,k4,k5,k6,e6,k7,e7,k12,e12,k13,kc,hk,hR⟩
 cases k with
 |zero=>
  have k13':fr 13= .int .i64 (-1):=by simpa using k13
  have e:eN p w a left kid env=bJ w a 3:=by unfold eN;rw[<-hR];rfl
  rw[e];simp only[go_sem,qC,qG,qW,k2,k3,k4,k5,k6,e6,k7,e7,k12,e12,k13',hF3.ret]
 |succ k=>
  have k13':fr 13= .int .i64 (k:Int):=by rw[k13];congr 1;omega
  have h':k<left.length:=by omega
  have d0:decide ((0:Int)<=(k:Int))=true:=decide_eq_true (by omega)
  have hfk:=hl.ok _ (bXn h');have hgd:left.getD k default=left[k]:=by simp[bXm,h']
  have hwk:IntKind.i64.wrap ((k:Int)-1)=(k:Int)-1:=bY (by omega)
  rw[aQ2,hgd]at hR
  by_cases h26:(p.node left[k].node).op=26
  ·rw[if_pos h26]at hR;have d26:decide ((p.node left[k].node).op=26)=true:=decide_eq_true h26;have dneg:decide ((k:Int)<0)=false:=decide_eq_false (by omega)
   by_cases h120:120<=w.objs.length
   ·have d120:decide ((120:Int)<=(w.objs.length:Int))=true:=decide_eq_true (by omega)
    have e:eN p w a left kid env=bJ w a 4:=by unfold eN;rw[<-hR];simp only;rw[if_pos h120]
    rw[e];simp only[go_sem,qC,qG,qW,k2,k3,k4,k5,k6,e6,k7,e7,k12,e12,k13',h',d0,bM (cF hfk),d26,dneg,d120,hF4.ret]
   ·have d120:decide ((120:Int)<=(w.objs.length:Int))=false:=decide_eq_false (by omega)
    have hat:=hfit.at_;have hrng:=hfit.rng;simp only[inR,cAg]at hat hrng;have hK:Fit (iD w ⟨5,0,[],left.drop k⟩) a:=aVg hfit (by omega)
    have hN:=yR (iD w ⟨5,0,[],left.drop k⟩) a (left.take (k+1)) kid (env++[nH w.objs.length]) hK (by simp only[bZc];omega)
    have hM:=aB8 env (nH w.objs.length) (by omega)
    have hF:=eQ w a (fH (iD w ⟨5,0,[],left.drop k⟩) a (left.take (k+1)) kid (env++[nH w.objs.length])).e.n hfit;have e:eN p w a left kid env=if(fH (iD w ⟨5,0,[],left.drop k⟩) a (left.take (k+1)) kid (env++[nH w.objs.length])).what=1 then bJ w a (fH (iD w ⟨5,0,[],left.drop k⟩) a (left.take (k+1)) kid (env++[nH w.objs.length])).e.n else fH (iD w ⟨5,0,[],left.drop k⟩) a (left.take (k+1)) kid (env++[nH w.objs.length]):=by
     unfold eN;rw[<-hR];simp only;rw[if_neg h120]
    rw[e];generalize hD:fH (iD w ⟨5,0,[],left.drop k⟩) a (left.take (k+1)) kid (env++[nH w.objs.length])=D at hN hF⊢;rw[show((iD w ⟨5,0,[],left.drop k⟩).objs.map aI.enc)=w.objs.map aI.enc++[aI.enc ⟨5,0,[],left.drop k⟩]from by simp[iD]]at hN
    simp only[iD,bXv,aI.enc]at hN;have hde:(left.drop k).isEmpty=false:=aHl (by simp only[bZi];omega)
    have hdl:(left.drop k).length<=16777216:=by simp only[bZi];omega
    have hkl:k<=left.length:=by omega
    have hkl1:k+1<=left.length:=by omega
    have hol:w.objs.length+1<=16777216:=by omega
    have hwr:IntKind.i64.wrap (((w.objs.length+1:Nat):Int)-1)=(w.objs.length:Int):=by rw[bY (by omega)];omega
    have hwk1:IntKind.i64.wrap ((k:Int)+1)=((k+1:Nat):Int):=by rw[bY (by omega)];omega
    obtain⟨c7,c12,c14⟩:=kc;simp only[go_sem,qC,qG,qW,k2,k3,k4,k5,k6,e6,k7,e7,k12,e12,k13',h',d0,bM (cF hfk),d26,dneg,d120,c14]
    refine(aCa w (by omega) (by omega) hfit.len (xU _ _ w)).mono ?_
    rintro x en1 cnt1 ⟨⟨g5,g8,vU,vI,rfl,e5,l5,m5,e8,l8,m8,mU,mI⟩,old,up⟩
    have q7:=old 7 0 (by simp[aQ];omega)
    have q12:=old 12 0 (by simp[aQ];omega)
    have q14:=old 14 0 (by simp[aQ])
    try simp only[go_sem,qW,e7,e12]at q7 q12 q14
    have eU:=True.intro;have eI:=True.intro;have t2:((w.tasks.map (Val.int .i64)).take w.tasks.length)=w.tasks.map (.int .i64):=bXs (by simp)
    have t3:((w.outs.map aN.enc).take w.outs.length)=w.outs.map aN.enc:=bXs (by simp)
    have t4:((w.ins.map (Val.int .i64)).take w.ins.length)=w.ins.map (.int .i64):=bXs (by simp)
    obtain⟨g15,hg15⟩: ∃g,g=cnt1 0 15:=⟨_,rfl⟩
    simp only[go_sem,qC,qG,qW,k2,k3,k4,k5,k7,k12,k13',q7,q12,q14]
    refine aO ?_
    simp only[go_sem,qC,qG,qW,k2,k3,k4,k5,k7,k12,k13',q7,q12,q14,e5,aF0,nV,hkl,<-List.map_drop,dB,hH,hZ,vF,mG,fN,hde,hdl,hol,bEn,bXj,bXd,bXs,cW,bL,bXe,bXf,bXh,bXi,bXg,bXc,if_false];have n14: ∀{g:Nat},g<cnt1 0 14->True:=fun _=>trivial
    by_cases hw:D.what=1
    ·have dw:decide (D.what=1)=true:=decide_eq_true hw;rw[if_pos hw];rcases mU with⟨rfl,hu⟩|⟨gU,rfl,eU,lU,hu⟩<;>rcases mI with⟨rfl,hi⟩|⟨gI,rfl,eI,lI,hi⟩
     all_goals
      try rw[hu]at hN
      try rw[hi]at hN
      have nI:=True.intro
      try(have nI: ¬0=gI:=by(rintro rfl;rw[q14]at eI;cases eI))
      refine aO ?_
      simp only[go_sem,qC,qG,qW,k2,k3,k4,k5,k7,k12,k13',q7,q12,q14,nI,e5,e8,eU,eI,t2,t3,t4,pQ,hkl1,hwk1,<-bZd,bXj,bX8,bZz,bXd,bXs,cW,bL,dC,bR,hwr,(aDe _).ret,hM.ret,hN.ret,<-hg15,bXe,bXf,bXh,bXi,bXg,bXc,if_false];simp only[go_sem,qC,qG,qW,k2,k3,k4,k5,k7,k12,k13',q7,q12,q14,nI,dw,hF.ret]
    ·have dw:decide (D.what=1)=false:=decide_eq_false hw;rw[if_neg hw];rcases mU with⟨rfl,hu⟩|⟨gU,rfl,eU,lU,hu⟩<;>rcases mI with⟨rfl,hi⟩|⟨gI,rfl,eI,lI,hi⟩
     all_goals
      try rw[hu]at hN
      try rw[hi]at hN
      have nI:=True.intro
      try(have nI: ¬0=gI:=by(rintro rfl;rw[q14]at eI;cases eI))
      refine aO ?_
      simp only[go_sem,qC,qG,qW,k2,k3,k4,k5,k7,k12,k13',q7,q12,q14,nI,e5,e8,eU,eI,t2,t3,t4,pQ,hkl1,hwk1,<-bZd,bXj,bX8,bZz,bXd,bXs,cW,bL,dC,bR,hwr,(aDe _).ret,hM.ret,hN.ret,<-hg15,bXe,bXf,bXh,bXi,bXg,bXc,if_false];simp only[go_sem,qC,qG,qW,k2,k3,k4,k5,k7,k12,k13',q7,q12,q14,nI,dw]
  ·rw[if_neg h26]at hR;have d26:decide ((p.node left[k].node).op=26)=false:=decide_eq_false h26;simp only[go_sem,qC,qG,qW,k2,k3,k4,k5,k6,e6,k7,e7,k12,e12,k13',h',d0,bM (cF hfk),d26,hwk]
   refine⟨k,⟨_,_,_,rfl,?_⟩,Nat.lt_succ_self _⟩
   simp only[go_sem,qC,qG,qW,k2,k3,k4,k5,k6,e6,k7,e7,k12,e12];exact⟨kc,by omega,hR⟩
structure bGq (p:aP) (w:aB) (a:Int) (left:List aC) (f:aG) (fr:Nat->Val) (en:En) (cnt:Nat->Nat->Nat) (o:aI) (oa ob:Val):Prop where
 form:o.form=6
 n:o.n=0
 pa:zL oa (.fz (o.vals.map aG.enc))
 pb:zL ob (.fz (o.frames.map aC.enc))
 is:dY p w a left f=zK w a left o
 k2:fr 2= .int .i64 a
 k3:fr 3= .fz (left.map aC.enc)
 k6:fr 6= .ptr ⟨0,6,0⟩ 0
 e6:en ⟨0,6,0⟩=some (.box [.fz (w.objs.map aI.enc),.fz (w.tasks.map (.int .i64)),.fz (w.outs.map aN.enc),.fz (w.ins.map (.int .i64)),.int .i64 w.used] false)
 k10:fr 10= .ptr ⟨0,10,0⟩ 0
 e10:en ⟨0,10,0⟩=some (.box [.cl [],.cl [],.cl [],.cl [],.int .i64 0,.int .i64 0,.int .i64 0,.int .i64 0,.int .i64 0,.int .i64 0,.int .i64 0] false)
 k11:fr 11= .ptr ⟨0,11,0⟩ 0
 e11:en ⟨0,11,0⟩=some (.box [.int .i64 6,.int .i64 0,oa,ob] false)
 c6:cnt 0 6=1
 c10:cnt 0 10=1
def bDo (p:aP)(w:aB)(a:Int)(left:List aC)(f:aG)(st:St):Prop:= ∃o oa ob,bGq p w a left f st.fr st.en st.cnt o oa ob
set_option maxHeartbeats 1600000 in
theorem aQ4 (hp:cJ p)(h:bP p w0 S w)(ha:inR a 0 ((w.tasks.length:Int)-1)=true){f:aG}(hf:VOk p S w f):
  PC L 165 [.agg [.fz (p.nodes.map aK.enc),.fz (p.funs.map (.int .i64)),.int .i64 p.main,.fz (p.cons.map bE.enc)],.agg [.fz (w.objs.map aI.enc),.fz (w.tasks.map (.int .i64)),.fz (w.outs.map aN.enc),.fz (w.ins.map (.int .i64)),.int .i64 w.used],.int .i64 a,.fz (left.map aC.enc),.agg [.int .i64 f.kind,.int .i64 f.n]] (.agg [.fz ((dY p w a left f).w.objs.map aI.enc),.fz ((dY p w a left f).w.tasks.map (.int .i64)),.fz ((dY p w a left f).w.outs.map aN.enc),.fz ((dY p w a left f).w.ins.map (.int .i64)),.int .i64 (dY p w a left f).w.used,.int .i64 (dY p w a left f).what,.int .i64 (dY p w a left f).e.task,.int .i64 (dY p w a left f).e.act,.int .i64 (dY p w a left f).e.n,.int .i64 (dY p w a left f).e.v.kind,.int .i64 (dY p w a left f).e.v.n]):=by
 have hfit:=dQ h ha;have hO:=nJ w f 5 (vG hf);have hF4:=eQ w a 4 hfit;have hF2:=eQ w a 2 hfit;have hB:=aOu hp h hf (oN (p:=p) (S:=S) (w:=w))
 refine aL bKf rfl rfl ?_
 simp only[go_sem,aAb,Go.Abs.start,qC,qG,aSr]
 refine yG (bDo p w a left f) ?_ ?_
 ·by_cases h5:kJ w f 5=true
  ·rw[rN,if_pos h5,h5]at hO;simp only[go_sem,qC,qG,qW,hO.ret]
   refine aO ?_
   simp only[go_sem,qC,qG,qW,iS.ret,dC,bR,bXe,bXf,bXh,bXi,bXg,bXc,if_false];exact⟨⟨6,0,[eK],(w.obj f.n).frames⟩,.cl [.agg [.int .i64 eK.kind,.int .i64 eK.n]],.fz ((w.obj f.n).frames.map aC.enc),⟨rfl,rfl,aCb _,pV _,by unfold dY;rw[if_pos h5],by simp only[go_sem,qW],by simp only[go_sem,qW],by simp only[go_sem,qW],by simp only[go_sem,qW],by simp only[go_sem,qW],by simp only[go_sem,qW],by simp only[go_sem,qW],by simp only[go_sem,qW],by simp[aQ],by simp[aQ]⟩⟩
  ·rw[bYf]at h5;rw[h5]at hO;cases hb:oK p w f eK with
   |none=>
    have e:dY p w a left f=bJ w a 2:=by unfold dY;rw[if_neg (by rw[h5];decide),hb]
    rw[hb]at hB;rw[e];simp only[go_sem,qC,qG,qW,hO.ret]
    refine aO ?_
    simp only[go_sem,qC,qG,qW,iS.ret,hB.ret,bZj,bXe,bXf,bXh,bXi,bXg,bXc,if_false];simp only[go_sem,qC,qG,qW,hF2.ret]
   |some b=>
    have hv:sY p w f eK=b:=by rw[sY,hb];rfl
    rw[hb,hv]at hB;obtain⟨b1,b2,b3⟩:=aAq hp h hf oN hb
    by_cases h30:30<b.env.length
    ·have d30:decide ((30:Int)<(b.env.length:Int))=true:=decide_eq_true (by omega)
     have e:dY p w a left f=bJ w a 4:=by unfold dY;rw[if_neg (by rw[h5];decide),hb];simp only;rw[if_pos h30]
     rw[e];simp only[go_sem,qC,qG,qW,hO.ret]
     refine aO ?_
     simp only[go_sem,qC,qG,qW,iS.ret,hB.ret,bZf,bXe,bXf,bXh,bXi,bXg,bXc,if_false];simp only[go_sem,qC,qG,qW,d30,hF4.ret]
    ·have d30:decide ((30:Int)<(b.env.length:Int))=false:=decide_eq_false (by omega)
     have e:dY p w a left f=zK w a left ⟨6,0,[],[b]⟩:=by unfold dY;rw[if_neg (by rw[h5];decide),hb];simp only;rw[if_neg h30]
     simp only[go_sem,qC,qG,qW,hO.ret]
     refine aO ?_
     simp only[go_sem,qC,qG,qW,iS.ret,hB.ret,bZf,bXe,bXf,bXh,bXi,bXg,bXc,if_false];simp only[go_sem,qC,qG,qW,d30,dC,bR];exact⟨⟨6,0,[],[b]⟩,.cl [],.cl [.agg [.int .i64 b.node,.fz (b.env.map aG.enc),.fz (b.vals.map aG.enc)]],⟨rfl,rfl,aCb _,aCb _,e,by simp only[go_sem,qW],by simp only[go_sem,qW],by simp only[go_sem,qW],by simp only[go_sem,qW],by simp only[go_sem,qW],by simp only[go_sem,qW],by simp only[go_sem,qW],by simp only[go_sem,qW],by simp[aQ],by simp[aQ]⟩⟩
 ·rintro fr en cnt ⟨o,oa,ob,hs⟩
  obtain⟨of_,on,pa,pb,is,k2,k3,k6,e6,k10,e10,k11,e11,c6,c10⟩:=hs;dsimp only at k2 k3 k6 e6 k10 e10 k11 e11 c6 c10;have hF:=aOv w a left o (pV _) pa pb hfit (en:=en) (cnt:=cnt);rw[of_,on]at hF;rw[is];simp only[go_sem,qC,qG,qW,k2,k3,k6,e6,k11,e11]
  refine hF.mono ?_
  rintro x en1 cnt1 (⟨h120,rfl,old,up⟩|⟨h120,hO1⟩)
  ·have q10:=old 10 0 (by omega)
   rw[e10]at q10;obtain⟨g16,hg16⟩: ∃g,g=cnt1 0 16:=⟨_,rfl⟩
   have e:zK w a left o=dK (bJ w a 4) a 19 0 eK:=by
    unfold zK gZ;simp only[if_pos h120];rw[if_pos (show(bJ w a 4).what=1 from rfl)]
   rw[e];have hE:=kK (bJ w a 4) a 19 0 eK;have dw:decide ((bJ w a 4).what=1)=true:=rfl;simp only[go_sem,qC,qG,qW,k2,k10,q10,<-hg16,dw]
   refine aO ?_
   simp only[go_sem,qC,qG,qW,k2,k10,q10,iS.ret,hE.ret,bXe,bXf,bXh,bXi,bXg,bXc,if_false]
  ·have q10:=hO1.old 10 0 (by omega)
   rw[e10]at q10;obtain⟨g16,hg16⟩: ∃g,g=cnt1 0 16:=⟨_,rfl⟩
   obtain⟨g71,hg71⟩: ∃g,g=cnt1 0 71:=⟨_,rfl⟩
   have e:zK w a left o=dK ⟨yW (bW (iD w o) a left (nH w.objs.length)).w,0,lQ⟩ a 19 0 eK:=by
    unfold zK gZ;simp only[if_neg (show¬120<=w.objs.length by omega)];rw[if_neg (by simp[bW])];rfl
   rw[e];have hE:=kK ⟨yW (bW (iD w o) a left (nH w.objs.length)).w,0,lQ⟩ a 19 0 eK;have hle:(bW (iD w o) a left (nH w.objs.length)).w.objs.length=w.objs.length+1:=by simp only[bW,oM,kX]
   have hlt:(bW (iD w o) a left (nH w.objs.length)).w.tasks.length=w.tasks.length:=rfl;have hfl:=hfit.len;generalize hW:(bW (iD w o) a left (nH w.objs.length)).w=W at hO1 hE hle hlt⊢;obtain⟨⟨g5,g8,vU,vI,rfl,e5,l5,m5,e8,l8,m8,mU,mI⟩,old,up⟩:=hO1;have hwr:IntKind.i64.wrap ((W.objs.length:Int)-1)=(W.objs.length:Int)-1:=bY (by omega)
   have hl16:W.tasks.length+1<=16777216:=by omega
   have t1:((W.objs.map aI.enc).take W.objs.length)=W.objs.map aI.enc:=bXs (by simp)
   have t3:((W.outs.map aN.enc).take W.outs.length)=W.outs.map aN.enc:=bXs (by simp)
   have t4:((W.ins.map (Val.int .i64)).take W.ins.length)=W.ins.map (.int .i64):=bXs (by simp)
   simp only[yW,lQ,nB,bXw,bYa,bXv]at hE;have eU:=True.intro;have eI:=True.intro;rcases mU with⟨rfl,hu⟩|⟨gU,rfl,eU,lU,hu⟩<;>rcases mI with⟨rfl,hi⟩|⟨gI,rfl,eI,lI,hi⟩
   all_goals
    try rw[hu]at hE
    try rw[hi]at hE
    simp only[go_sem,qC,qG,qW,k2,k10,q10,<-hg16,<-hg71,e5,e8,dC,bR,cW,bL,hwr,dB,hH,vF,mG,bMo,hl16,bXj,bXd]
    refine aO ?_
    simp only[go_sem,qC,qG,qW,k2,k10,q10,e5,e8,eU,eI,t1,t3,t4,bXj,bX8,bZz,bXs,bXd,dC,bR,cW,bL,iS.ret,hE.ret,bXe,bXf,bXh,bXi,bXg,bXc,if_false];rfl
variable {p :aP}{w0 w:aB}{S:Nat->Prop}{a:Int}{left:List aC}
theorem bA1 {n:aK}(h:eG p n=true):1<=n.op/\ n.op<=28:=by
 have:=bS h;unfold fX at this
 repeat' split at this
 all_goals omega
theorem aQ5 {q:Pat}{cons:List bE}(h:mE cons q=true):rP q<=1000:=by
 simp only[mE,bXb,cAg]at h;have:=aOw q 12 (by omega) h.1
 omega
theorem bDp {l:List aG}{en:En}{i:Int}(h:inR i 0 ((l.length:Int)-1)=true):sP 2 en (.fz (l.map aG.enc)) (.int .i64 i)=some {v:= .fp [.int .i64 (aZ l i.toNat).kind,.int .i64 (aZ l i.toNat).n] 0}:=zA (f:=aG.enc) (size:=2) nB h fun _=>rfl
theorem aVi {n:aK}{en:En}{i:Int}(h:inR i 0 ((n.kids.length:Int)-1)=true):sP 1 en (.fz (n.kids.map (.int .i64))) (.int .i64 i)=some {v:= .fp [.int .i64 (vD n i)] 0}:=sQ h
theorem bDq {n:aK}{en:En}(h:0<n.kids.length):sP 1 en (.fz (n.kids.map (.int .i64))) (.int .i64 0)=some {v:= .fp [.int .i64 (vD n 0)] 0}:=sQ (i:=0) (by simp only[inR,cAg];omega)
theorem aVj {n:aK}{en:En}(h:1<n.kids.length):sP 1 en (.fz (n.kids.map (.int .i64))) (.int .i64 1)=some {v:= .fp [.int .i64 (vD n 1)] 0}:=sQ (i:=1) (by simp only[inR,cAg];omega)
theorem bA2 (hp:cJ p)(hsp:aT p=true)(h:bP p w0 S w)(ha:inR a 0 ((w.tasks.length:Int)-1)=true)(hl:LOk p S w left){f:aC}(hf:FOk p S w f){n:aK}(hn:p.node f.node=n)(hfull:(f.vals.length:Int)=n.asks)(hop:n.op=1):
  PC L 132 [.agg [.fz (p.nodes.map aK.enc),.fz (p.funs.map (.int .i64)),.int .i64 p.main,.fz (p.cons.map bE.enc)],.agg [.fz (w.objs.map aI.enc),.fz (w.tasks.map (.int .i64)),.fz (w.outs.map aN.enc),.fz (w.ins.map (.int .i64)),.int .i64 w.used],.int .i64 a,.fz (left.map aC.enc),.agg [.int .i64 f.node,.fz (f.env.map aG.enc),.fz (f.vals.map aG.enc)]] (.agg [.fz ((aD p w a left f n).w.objs.map aI.enc),.fz ((aD p w a left f n).w.tasks.map (.int .i64)),.fz ((aD p w a left f n).w.outs.map aN.enc),.fz ((aD p w a left f n).w.ins.map (.int .i64)),.int .i64 (aD p w a left f n).w.used,.int .i64 (aD p w a left f n).what,.int .i64 (aD p w a left f n).e.task,.int .i64 (aD p w a left f n).e.act,.int .i64 (aD p w a left f n).e.n,.int .i64 (aD p w a left f n).e.v.kind,.int .i64 (aD p w a left f n).e.v.n]):=by
 have hfit:=dQ h ha;have hni:=cF hf;have hok:=hp.nodes _ (bV hni);rw[hn]at hok;have hkd:=bS hok;have hlen:=hl.len;have hfo:=hf.ok;simp only[bG,aR,bXb,cAg]at hfo;have e:aD p w a left f n=bW w a left (tU n.n):=by unfold aD;simp[hop]
 rw[e];have hB:=iB w a left (tU n.n) hfit
 refine aL gV rfl rfl ?_
 simp only[go_sem,qC,qG,qW,fU]
 refine aO ?_
 simp only[go_sem,qC,qG,qW,hop,hn,bM hni,(xT _).ret,hB.ret,bXe,bXf,bXh,bXi,bXg,bXc,if_false]
 refine aO ?_
 simp only[go_sem,qC,qG,qW,hop,hn,bM hni,(xT _).ret,hB.ret,bXe,bXf,bXh,bXi,bXg,bXc,if_false]
theorem bA3 (hp:cJ p)(hsp:aT p=true)(h:bP p w0 S w)(ha:inR a 0 ((w.tasks.length:Int)-1)=true)(hl:LOk p S w left){f:aC}(hf:FOk p S w f){n:aK}(hn:p.node f.node=n)(hfull:(f.vals.length:Int)=n.asks)(hop:n.op=2):
  PC L 132 [.agg [.fz (p.nodes.map aK.enc),.fz (p.funs.map (.int .i64)),.int .i64 p.main,.fz (p.cons.map bE.enc)],.agg [.fz (w.objs.map aI.enc),.fz (w.tasks.map (.int .i64)),.fz (w.outs.map aN.enc),.fz (w.ins.map (.int .i64)),.int .i64 w.used],.int .i64 a,.fz (left.map aC.enc),.agg [.int .i64 f.node,.fz (f.env.map aG.enc),.fz (f.vals.map aG.enc)]] (.agg [.fz ((aD p w a left f n).w.objs.map aI.enc),.fz ((aD p w a left f n).w.tasks.map (.int .i64)),.fz ((aD p w a left f n).w.outs.map aN.enc),.fz ((aD p w a left f n).w.ins.map (.int .i64)),.int .i64 (aD p w a left f n).w.used,.int .i64 (aD p w a left f n).what,.int .i64 (aD p w a left f n).e.task,.int .i64 (aD p w a left f n).e.act,.int .i64 (aD p w a left f n).e.n,.int .i64 (aD p w a left f n).e.v.kind,.int .i64 (aD p w a left f n).e.v.n]):=by
 have hfit:=dQ h ha;have hni:=cF hf;have hok:=hp.nodes _ (bV hni);rw[hn]at hok;have hkd:=bS hok;have hlen:=hl.len;have hfo:=hf.ok;simp only[bG,aR,bXb,cAg]at hfo;have e:aD p w a left f n=bW w a left (rL (decide (n.n=1))):=by unfold aD;simp[hop]
 rw[e];have hB:=iB w a left (rL (decide (n.n=1))) hfit
 refine aL gV rfl rfl ?_
 simp only[go_sem,qC,qG,qW,fU]
 refine aO ?_
 simp only[go_sem,qC,qG,qW,hop,hn,bM hni,(aB7 _).ret,hB.ret,bXe,bXf,bXh,bXi,bXg,bXc,if_false]
 refine aO ?_
 simp only[go_sem,qC,qG,qW,hop,hn,bM hni,(aB7 _).ret,hB.ret,bXe,bXf,bXh,bXi,bXg,bXc,if_false]
theorem bA4 (hp:cJ p)(hsp:aT p=true)(h:bP p w0 S w)(ha:inR a 0 ((w.tasks.length:Int)-1)=true)(hl:LOk p S w left){f:aC}(hf:FOk p S w f){n:aK}(hn:p.node f.node=n)(hfull:(f.vals.length:Int)=n.asks)(hop:n.op=3):
  PC L 132 [.agg [.fz (p.nodes.map aK.enc),.fz (p.funs.map (.int .i64)),.int .i64 p.main,.fz (p.cons.map bE.enc)],.agg [.fz (w.objs.map aI.enc),.fz (w.tasks.map (.int .i64)),.fz (w.outs.map aN.enc),.fz (w.ins.map (.int .i64)),.int .i64 w.used],.int .i64 a,.fz (left.map aC.enc),.agg [.int .i64 f.node,.fz (f.env.map aG.enc),.fz (f.vals.map aG.enc)]] (.agg [.fz ((aD p w a left f n).w.objs.map aI.enc),.fz ((aD p w a left f n).w.tasks.map (.int .i64)),.fz ((aD p w a left f n).w.outs.map aN.enc),.fz ((aD p w a left f n).w.ins.map (.int .i64)),.int .i64 (aD p w a left f n).w.used,.int .i64 (aD p w a left f n).what,.int .i64 (aD p w a left f n).e.task,.int .i64 (aD p w a left f n).e.act,.int .i64 (aD p w a left f n).e.n,.int .i64 (aD p w a left f n).e.v.kind,.int .i64 (aD p w a left f n).e.v.n]):=by
 have hfit:=dQ h ha;have hni:=cF hf;have hok:=hp.nodes _ (bV hni);rw[hn]at hok;have hkd:=bS hok;have hlen:=hl.len;have hfo:=hf.ok;simp only[bG,aR,bXb,cAg]at hfo;have e:aD p w a left f n=bW w a left eK:=by unfold aD;simp[hop]
 rw[e];have hB:=iB w a left eK hfit
 refine aL gV rfl rfl ?_
 simp only[go_sem,qC,qG,qW,fU]
 refine aO ?_
 simp only[go_sem,qC,qG,qW,hop,hn,bM hni,iS.ret,hB.ret,bXe,bXf,bXh,bXi,bXg,bXc,if_false]
 refine aO ?_
 simp only[go_sem,qC,qG,qW,hop,hn,bM hni,iS.ret,hB.ret,bXe,bXf,bXh,bXi,bXg,bXc,if_false]
theorem bA5 (hp:cJ p)(hsp:aT p=true)(h:bP p w0 S w)(ha:inR a 0 ((w.tasks.length:Int)-1)=true)(hl:LOk p S w left){f:aC}(hf:FOk p S w f){n:aK}(hn:p.node f.node=n)(hfull:(f.vals.length:Int)=n.asks)(hop:n.op=4):
  PC L 132 [.agg [.fz (p.nodes.map aK.enc),.fz (p.funs.map (.int .i64)),.int .i64 p.main,.fz (p.cons.map bE.enc)],.agg [.fz (w.objs.map aI.enc),.fz (w.tasks.map (.int .i64)),.fz (w.outs.map aN.enc),.fz (w.ins.map (.int .i64)),.int .i64 w.used],.int .i64 a,.fz (left.map aC.enc),.agg [.int .i64 f.node,.fz (f.env.map aG.enc),.fz (f.vals.map aG.enc)]] (.agg [.fz ((aD p w a left f n).w.objs.map aI.enc),.fz ((aD p w a left f n).w.tasks.map (.int .i64)),.fz ((aD p w a left f n).w.outs.map aN.enc),.fz ((aD p w a left f n).w.ins.map (.int .i64)),.int .i64 (aD p w a left f n).w.used,.int .i64 (aD p w a left f n).what,.int .i64 (aD p w a left f n).e.task,.int .i64 (aD p w a left f n).e.act,.int .i64 (aD p w a left f n).e.n,.int .i64 (aD p w a left f n).e.v.kind,.int .i64 (aD p w a left f n).e.v.n]):=by
 have hfit:=dQ h ha;have hni:=cF hf;have hok:=hp.nodes _ (bV hni);rw[hn]at hok;have hkd:=bS hok;have hlen:=hl.len;have hfo:=hf.ok;simp only[bG,aR,bXb,cAg]at hfo;have e:aD p w a left f n=if n.n<0 then bW w a left ⟨4,-1-n.n⟩else if(f.env.length:Int)<=n.n then bJ w a 2 else bW w a left (aZ f.env n.n.toNat):=by unfold aD;simp[hop]
 rw[e];have hF:=eQ w a 2 hfit;have hnum:nN p n=true:=by simp only[eG,bXb]at hok;exact hok.1.1.1
 simp only[nN,hop]at hnum;simp[inR]at hnum;have hwn:IntKind.i64.wrap (-1-n.n)= -1-n.n:=bY (by have:=hp.main;simp only[inR,cAg]at this;have hsl:=hsp;simp only[aT,bXb,cAg]at hsl;omega)
 by_cases hneg:n.n<0
 ·have d0:decide (n.n<0)=true:=decide_eq_true hneg;rw[if_pos hneg];have hB:=iB w a left ⟨4,-1-n.n⟩ hfit
  refine aL gV rfl rfl ?_
  simp only[go_sem,qC,qG,qW,fU]
  refine aO ?_
  simp only[go_sem,qC,qG,qW,hop,hn,bM hni,d0,hwn,hB.ret,bXe,bXf,bXh,bXi,bXg,bXc,if_false]
 ·have d0:decide (n.n<0)=false:=decide_eq_false hneg;rw[if_neg hneg]
  by_cases hge:(f.env.length:Int)<=n.n
  ·have d1:decide ((f.env.length:Int)<=n.n)=true:=decide_eq_true hge;rw[if_pos hge]
   refine aL gV rfl rfl ?_
   simp only[go_sem,qC,qG,qW,fU]
   refine aO ?_
   simp only[go_sem,qC,qG,qW,hop,hn,bM hni,d0,d1,hF.ret,bXe,bXf,bXh,bXi,bXg,bXc,if_false]
  ·have d1:decide ((f.env.length:Int)<=n.n)=false:=decide_eq_false hge;rw[if_neg hge];have hB:=iB w a left (aZ f.env n.n.toNat) hfit;have hi:=zA (f:=aG.enc) (size:=2) (k:= .i64) (l:=f.env) (i:=n.n) nB (by simp only[inR,cAg];omega) (fun _=>rfl) (en:=fun _=>none)
   refine aL gV rfl rfl ?_
   simp only[go_sem,qC,qG,qW,fU]
   refine aO ?_
   simp only[go_sem,qC,qG,qW,hop,hn,bM hni,d0,d1,bDp (show inR n.n 0 ((f.env.length:Int)-1)=true by simp only[inR,cAg];omega),hB.ret,bXe,bXf,bXh,bXi,bXg,bXc,if_false]
theorem bA6 (hp:cJ p)(hsp:aT p=true)(h:bP p w0 S w)(ha:inR a 0 ((w.tasks.length:Int)-1)=true)(hl:LOk p S w left){f:aC}(hf:FOk p S w f){n:aK}(hn:p.node f.node=n)(hfull:(f.vals.length:Int)=n.asks)(hop:n.op=5):
  PC L 132 [.agg [.fz (p.nodes.map aK.enc),.fz (p.funs.map (.int .i64)),.int .i64 p.main,.fz (p.cons.map bE.enc)],.agg [.fz (w.objs.map aI.enc),.fz (w.tasks.map (.int .i64)),.fz (w.outs.map aN.enc),.fz (w.ins.map (.int .i64)),.int .i64 w.used],.int .i64 a,.fz (left.map aC.enc),.agg [.int .i64 f.node,.fz (f.env.map aG.enc),.fz (f.vals.map aG.enc)]] (.agg [.fz ((aD p w a left f n).w.objs.map aI.enc),.fz ((aD p w a left f n).w.tasks.map (.int .i64)),.fz ((aD p w a left f n).w.outs.map aN.enc),.fz ((aD p w a left f n).w.ins.map (.int .i64)),.int .i64 (aD p w a left f n).w.used,.int .i64 (aD p w a left f n).what,.int .i64 (aD p w a left f n).e.task,.int .i64 (aD p w a left f n).e.act,.int .i64 (aD p w a left f n).e.n,.int .i64 (aD p w a left f n).e.v.kind,.int .i64 (aD p w a left f n).e.v.n]):=by
 have hfit:=dQ h ha;have hni:=cF hf;have hok:=hp.nodes _ (bV hni);rw[hn]at hok;have hkd:=bS hok;have hlen:=hl.len;have hfo:=hf.ok;simp only[bG,aR,bXb,cAg]at hfo;have e:aD p w a left f n=gZ w a left ⟨2,f.node,f.env,[]⟩:=by unfold aD;simp[hop]
 rw[e];have hM:=aE0 w a left ⟨2,f.node,f.env,[]⟩ hfit;simp only[bXv]at hM
 refine aL gV rfl rfl ?_
 simp only[go_sem,qC,qG,qW,fU]
 refine aO ?_
 simp only[go_sem,qC,qG,qW,hop,hn,bM hni,hM.ret,bXe,bXf,bXh,bXi,bXg,bXc,if_false]
theorem bA7 (hp:cJ p)(hsp:aT p=true)(h:bP p w0 S w)(ha:inR a 0 ((w.tasks.length:Int)-1)=true)(hl:LOk p S w left){f:aC}(hf:FOk p S w f){n:aK}(hn:p.node f.node=n)(hfull:(f.vals.length:Int)=n.asks)(hop:n.op=6):
  PC L 132 [.agg [.fz (p.nodes.map aK.enc),.fz (p.funs.map (.int .i64)),.int .i64 p.main,.fz (p.cons.map bE.enc)],.agg [.fz (w.objs.map aI.enc),.fz (w.tasks.map (.int .i64)),.fz (w.outs.map aN.enc),.fz (w.ins.map (.int .i64)),.int .i64 w.used],.int .i64 a,.fz (left.map aC.enc),.agg [.int .i64 f.node,.fz (f.env.map aG.enc),.fz (f.vals.map aG.enc)]] (.agg [.fz ((aD p w a left f n).w.objs.map aI.enc),.fz ((aD p w a left f n).w.tasks.map (.int .i64)),.fz ((aD p w a left f n).w.outs.map aN.enc),.fz ((aD p w a left f n).w.ins.map (.int .i64)),.int .i64 (aD p w a left f n).w.used,.int .i64 (aD p w a left f n).what,.int .i64 (aD p w a left f n).e.task,.int .i64 (aD p w a left f n).e.act,.int .i64 (aD p w a left f n).e.n,.int .i64 (aD p w a left f n).e.v.kind,.int .i64 (aD p w a left f n).e.v.n]):=by
 have hfit:=dQ h ha;have hni:=cF hf;have hok:=hp.nodes _ (bV hni);rw[hn]at hok;have hkd:=bS hok;have hlen:=hl.len;have hfo:=hf.ok;simp only[bG,aR,bXb,cAg]at hfo;have e:aD p w a left f n=eL p w a left (aZ f.vals 0) (aZ f.vals 1):=by unfold aD;simp[hop]
 rw[e];have hq:n.asks=2:=by simp[aK.asks,hop]
 have h0:0<f.vals.length:=by omega
 have h1:1<f.vals.length:=by omega
 have v0:=hf.vals (cQ h0);have v1:=hf.vals (cQ h1);have hA:=aQz hp h ha hl v0 v1
 refine aL gV rfl rfl ?_
 simp only[go_sem,qC,qG,qW,fU]
 refine aO ?_
 simp only[go_sem,qC,qG,qW,hop,hn,bM hni,bU h0,pL h1,hA.ret,bXe,bXf,bXh,bXi,bXg,bXc,if_false]
theorem bA8 (hp:cJ p)(hsp:aT p=true)(h:bP p w0 S w)(ha:inR a 0 ((w.tasks.length:Int)-1)=true)(hl:LOk p S w left){f:aC}(hf:FOk p S w f){n:aK}(hn:p.node f.node=n)(hfull:(f.vals.length:Int)=n.asks)(hop:n.op=7):
  PC L 132 [.agg [.fz (p.nodes.map aK.enc),.fz (p.funs.map (.int .i64)),.int .i64 p.main,.fz (p.cons.map bE.enc)],.agg [.fz (w.objs.map aI.enc),.fz (w.tasks.map (.int .i64)),.fz (w.outs.map aN.enc),.fz (w.ins.map (.int .i64)),.int .i64 w.used],.int .i64 a,.fz (left.map aC.enc),.agg [.int .i64 f.node,.fz (f.env.map aG.enc),.fz (f.vals.map aG.enc)]] (.agg [.fz ((aD p w a left f n).w.objs.map aI.enc),.fz ((aD p w a left f n).w.tasks.map (.int .i64)),.fz ((aD p w a left f n).w.outs.map aN.enc),.fz ((aD p w a left f n).w.ins.map (.int .i64)),.int .i64 (aD p w a left f n).w.used,.int .i64 (aD p w a left f n).what,.int .i64 (aD p w a left f n).e.task,.int .i64 (aD p w a left f n).e.act,.int .i64 (aD p w a left f n).e.n,.int .i64 (aD p w a left f n).e.v.kind,.int .i64 (aD p w a left f n).e.v.n]):=by
 have hfit:=dQ h ha;have hni:=cF hf;have hok:=hp.nodes _ (bV hni);rw[hn]at hok;have hkd:=bS hok;have hlen:=hl.len;have hfo:=hf.ok;simp only[bG,aR,bXb,cAg]at hfo;have e:aD p w a left f n=fH w a left (vD n 1) (f.env++[aZ f.vals 0]):=by unfold aD;simp[hop]
 rw[e];have hq:n.asks=1:=by simp[aK.asks,hop]
 have h0:0<f.vals.length:=by omega
 have hkc:(n.kids.length:Int)=2:=by rw[hkd];simp[fX,hop]
 have hk1:1<n.kids.length:=by omega
 have hM:=aB8 f.env (aZ f.vals 0) (by omega)
 have hN:=yR w a left (vD n 1) (f.env++[aZ f.vals 0]) hfit (by omega)
 refine aL gV rfl rfl ?_
 simp only[go_sem,qC,qG,qW,fU]
 refine aO ?_
 simp only[go_sem,qC,qG,qW,hop,hn,bM hni,bU h0,aVj hk1,hM.ret,hN.ret,bXe,bXf,bXh,bXi,bXg,bXc,if_false]
 refine aO ?_
 simp only[go_sem,qC,qG,qW,hop,hn,bM hni,bU h0,aVj hk1,hM.ret,hN.ret,bXe,bXf,bXh,bXi,bXg,bXc,if_false]
theorem bA9 (hp:cJ p)(hsp:aT p=true)(h:bP p w0 S w)(ha:inR a 0 ((w.tasks.length:Int)-1)=true)(hl:LOk p S w left){f:aC}(hf:FOk p S w f){n:aK}(hn:p.node f.node=n)(hfull:(f.vals.length:Int)=n.asks)(hop:n.op=8):
  PC L 132 [.agg [.fz (p.nodes.map aK.enc),.fz (p.funs.map (.int .i64)),.int .i64 p.main,.fz (p.cons.map bE.enc)],.agg [.fz (w.objs.map aI.enc),.fz (w.tasks.map (.int .i64)),.fz (w.outs.map aN.enc),.fz (w.ins.map (.int .i64)),.int .i64 w.used],.int .i64 a,.fz (left.map aC.enc),.agg [.int .i64 f.node,.fz (f.env.map aG.enc),.fz (f.vals.map aG.enc)]] (.agg [.fz ((aD p w a left f n).w.objs.map aI.enc),.fz ((aD p w a left f n).w.tasks.map (.int .i64)),.fz ((aD p w a left f n).w.outs.map aN.enc),.fz ((aD p w a left f n).w.ins.map (.int .i64)),.int .i64 (aD p w a left f n).w.used,.int .i64 (aD p w a left f n).what,.int .i64 (aD p w a left f n).e.task,.int .i64 (aD p w a left f n).e.act,.int .i64 (aD p w a left f n).e.n,.int .i64 (aD p w a left f n).e.v.kind,.int .i64 (aD p w a left f n).e.v.n]):=by
 have hfit:=dQ h ha;have hni:=cF hf;have hok:=hp.nodes _ (bV hni);rw[hn]at hok;have hkd:=bS hok;have hlen:=hl.len;have hfo:=hf.ok;simp only[bG,aR,bXb,cAg]at hfo;have e:aD p w a left f n=if¬(aZ f.vals 0).kind=2 then bJ w a 2 else fH w a left (vD n (2-(aZ f.vals 0).n)) f.env:=by unfold aD;simp[hop]
 rw[e];have hF:=eQ w a 2 hfit;have hq:n.asks=1:=by simp[aK.asks,hop]
 have h0:0<f.vals.length:=by omega
 have v0:=hf.vals (cQ h0);have hkc:(n.kids.length:Int)=3:=by rw[hkd];simp[fX,hop]
 by_cases hk2:(aZ f.vals 0).kind=2
 ·have d1:decide ((aZ f.vals 0).kind=2)=true:=decide_eq_true hk2;rw[if_neg (fun h=>h hk2)]
  have hvo:=v0.ok;simp only[cO,hk2]at hvo;simp[inR]at hvo;have hw2:IntKind.i64.wrap (2-(aZ f.vals 0).n)=2-(aZ f.vals 0).n:=bY (by omega)
  have hN:=yR w a left (vD n (2-(aZ f.vals 0).n)) f.env hfit (by omega)
  refine aL gV rfl rfl ?_
  simp only[go_sem,qC,qG,qW,fU]
  refine aO ?_
  simp only[go_sem,qC,qG,qW,hop,hn,bM hni,bU h0,d1,hw2,aVi (show inR (2-(aZ f.vals 0).n) 0 ((n.kids.length:Int)-1)=true by simp only[inR,cAg];omega),hN.ret,bXe,bXf,bXh,bXi,bXg,bXc,if_false]
 ·have d1:decide ((aZ f.vals 0).kind=2)=false:=decide_eq_false hk2;rw[if_pos hk2]
  refine aL gV rfl rfl ?_
  simp only[go_sem,qC,qG,qW,fU]
  refine aO ?_
  simp only[go_sem,qC,qG,qW,hop,hn,bM hni,bU h0,d1,hF.ret,bXe,bXf,bXh,bXi,bXg,bXc,if_false]
theorem bBa (hp:cJ p)(hsp:aT p=true)(h:bP p w0 S w)(ha:inR a 0 ((w.tasks.length:Int)-1)=true)(hl:LOk p S w left){f:aC}(hf:FOk p S w f){n:aK}(hn:p.node f.node=n)(hfull:(f.vals.length:Int)=n.asks)(hop:n.op=9):
  PC L 132 [.agg [.fz (p.nodes.map aK.enc),.fz (p.funs.map (.int .i64)),.int .i64 p.main,.fz (p.cons.map bE.enc)],.agg [.fz (w.objs.map aI.enc),.fz (w.tasks.map (.int .i64)),.fz (w.outs.map aN.enc),.fz (w.ins.map (.int .i64)),.int .i64 w.used],.int .i64 a,.fz (left.map aC.enc),.agg [.int .i64 f.node,.fz (f.env.map aG.enc),.fz (f.vals.map aG.enc)]] (.agg [.fz ((aD p w a left f n).w.objs.map aI.enc),.fz ((aD p w a left f n).w.tasks.map (.int .i64)),.fz ((aD p w a left f n).w.outs.map aN.enc),.fz ((aD p w a left f n).w.ins.map (.int .i64)),.int .i64 (aD p w a left f n).w.used,.int .i64 (aD p w a left f n).what,.int .i64 (aD p w a left f n).e.task,.int .i64 (aD p w a left f n).e.act,.int .i64 (aD p w a left f n).e.n,.int .i64 (aD p w a left f n).e.v.kind,.int .i64 (aD p w a left f n).e.v.n]):=by
 have hfit:=dQ h ha;have hni:=cF hf;have hok:=hp.nodes _ (bV hni);rw[hn]at hok;have hkd:=bS hok;have hlen:=hl.len;have hfo:=hf.ok;simp only[bG,aR,bXb,cAg]at hfo;have e:aD p w a left f n=cH w a left 9 (aZ f.vals 0) (aZ f.vals 1):=by unfold aD;simp[hop]
 rw[e];have hq:n.asks=2:=by simp[aK.asks,hop]
 have h0:0<f.vals.length:=by omega
 have h1:1<f.vals.length:=by omega
 have v0:=hf.vals (cQ h0);have v1:=hf.vals (cQ h1);have hA:=rO (left:=left) (op:=9) h ha v0 v1 (by omega)
 refine aL gV rfl rfl ?_
 simp only[go_sem,qC,qG,qW,fU]
 refine aO ?_
 simp only[go_sem,qC,qG,qW,hop,hn,bM hni,bU h0,pL h1,hA.ret,bXe,bXf,bXh,bXi,bXg,bXc,if_false]
theorem aXm (hp:cJ p)(hsp:aT p=true)(h:bP p w0 S w)(ha:inR a 0 ((w.tasks.length:Int)-1)=true)(hl:LOk p S w left){f:aC}(hf:FOk p S w f){n:aK}(hn:p.node f.node=n)(hfull:(f.vals.length:Int)=n.asks)(hop:n.op=10):
  PC L 132 [.agg [.fz (p.nodes.map aK.enc),.fz (p.funs.map (.int .i64)),.int .i64 p.main,.fz (p.cons.map bE.enc)],.agg [.fz (w.objs.map aI.enc),.fz (w.tasks.map (.int .i64)),.fz (w.outs.map aN.enc),.fz (w.ins.map (.int .i64)),.int .i64 w.used],.int .i64 a,.fz (left.map aC.enc),.agg [.int .i64 f.node,.fz (f.env.map aG.enc),.fz (f.vals.map aG.enc)]] (.agg [.fz ((aD p w a left f n).w.objs.map aI.enc),.fz ((aD p w a left f n).w.tasks.map (.int .i64)),.fz ((aD p w a left f n).w.outs.map aN.enc),.fz ((aD p w a left f n).w.ins.map (.int .i64)),.int .i64 (aD p w a left f n).w.used,.int .i64 (aD p w a left f n).what,.int .i64 (aD p w a left f n).e.task,.int .i64 (aD p w a left f n).e.act,.int .i64 (aD p w a left f n).e.n,.int .i64 (aD p w a left f n).e.v.kind,.int .i64 (aD p w a left f n).e.v.n]):=by
 have hfit:=dQ h ha;have hni:=cF hf;have hok:=hp.nodes _ (bV hni);rw[hn]at hok;have hkd:=bS hok;have hlen:=hl.len;have hfo:=hf.ok;simp only[bG,aR,bXb,cAg]at hfo;have e:aD p w a left f n=cH w a left 10 (aZ f.vals 0) (aZ f.vals 1):=by unfold aD;simp[hop]
 rw[e];have hq:n.asks=2:=by simp[aK.asks,hop]
 have h0:0<f.vals.length:=by omega
 have h1:1<f.vals.length:=by omega
 have v0:=hf.vals (cQ h0);have v1:=hf.vals (cQ h1);have hA:=rO (left:=left) (op:=10) h ha v0 v1 (by omega)
 refine aL gV rfl rfl ?_
 simp only[go_sem,qC,qG,qW,fU]
 refine aO ?_
 simp only[go_sem,qC,qG,qW,hop,hn,bM hni,bU h0,pL h1,hA.ret,bXe,bXf,bXh,bXi,bXg,bXc,if_false]
theorem aXn (hp:cJ p)(hsp:aT p=true)(h:bP p w0 S w)(ha:inR a 0 ((w.tasks.length:Int)-1)=true)(hl:LOk p S w left){f:aC}(hf:FOk p S w f){n:aK}(hn:p.node f.node=n)(hfull:(f.vals.length:Int)=n.asks)(hop:n.op=11):
  PC L 132 [.agg [.fz (p.nodes.map aK.enc),.fz (p.funs.map (.int .i64)),.int .i64 p.main,.fz (p.cons.map bE.enc)],.agg [.fz (w.objs.map aI.enc),.fz (w.tasks.map (.int .i64)),.fz (w.outs.map aN.enc),.fz (w.ins.map (.int .i64)),.int .i64 w.used],.int .i64 a,.fz (left.map aC.enc),.agg [.int .i64 f.node,.fz (f.env.map aG.enc),.fz (f.vals.map aG.enc)]] (.agg [.fz ((aD p w a left f n).w.objs.map aI.enc),.fz ((aD p w a left f n).w.tasks.map (.int .i64)),.fz ((aD p w a left f n).w.outs.map aN.enc),.fz ((aD p w a left f n).w.ins.map (.int .i64)),.int .i64 (aD p w a left f n).w.used,.int .i64 (aD p w a left f n).what,.int .i64 (aD p w a left f n).e.task,.int .i64 (aD p w a left f n).e.act,.int .i64 (aD p w a left f n).e.n,.int .i64 (aD p w a left f n).e.v.kind,.int .i64 (aD p w a left f n).e.v.n]):=by
 have hfit:=dQ h ha;have hni:=cF hf;have hok:=hp.nodes _ (bV hni);rw[hn]at hok;have hkd:=bS hok;have hlen:=hl.len;have hfo:=hf.ok;simp only[bG,aR,bXb,cAg]at hfo;have e:aD p w a left f n=cH w a left 11 (aZ f.vals 0) (aZ f.vals 1):=by unfold aD;simp[hop]
 rw[e];have hq:n.asks=2:=by simp[aK.asks,hop]
 have h0:0<f.vals.length:=by omega
 have h1:1<f.vals.length:=by omega
 have v0:=hf.vals (cQ h0);have v1:=hf.vals (cQ h1);have hA:=rO (left:=left) (op:=11) h ha v0 v1 (by omega)
 refine aL gV rfl rfl ?_
 simp only[go_sem,qC,qG,qW,fU]
 refine aO ?_
 simp only[go_sem,qC,qG,qW,hop,hn,bM hni,bU h0,pL h1,hA.ret,bXe,bXf,bXh,bXi,bXg,bXc,if_false]
theorem aXo (hp:cJ p)(hsp:aT p=true)(h:bP p w0 S w)(ha:inR a 0 ((w.tasks.length:Int)-1)=true)(hl:LOk p S w left){f:aC}(hf:FOk p S w f){n:aK}(hn:p.node f.node=n)(hfull:(f.vals.length:Int)=n.asks)(hop:n.op=12):
  PC L 132 [.agg [.fz (p.nodes.map aK.enc),.fz (p.funs.map (.int .i64)),.int .i64 p.main,.fz (p.cons.map bE.enc)],.agg [.fz (w.objs.map aI.enc),.fz (w.tasks.map (.int .i64)),.fz (w.outs.map aN.enc),.fz (w.ins.map (.int .i64)),.int .i64 w.used],.int .i64 a,.fz (left.map aC.enc),.agg [.int .i64 f.node,.fz (f.env.map aG.enc),.fz (f.vals.map aG.enc)]] (.agg [.fz ((aD p w a left f n).w.objs.map aI.enc),.fz ((aD p w a left f n).w.tasks.map (.int .i64)),.fz ((aD p w a left f n).w.outs.map aN.enc),.fz ((aD p w a left f n).w.ins.map (.int .i64)),.int .i64 (aD p w a left f n).w.used,.int .i64 (aD p w a left f n).what,.int .i64 (aD p w a left f n).e.task,.int .i64 (aD p w a left f n).e.act,.int .i64 (aD p w a left f n).e.n,.int .i64 (aD p w a left f n).e.v.kind,.int .i64 (aD p w a left f n).e.v.n]):=by
 have hfit:=dQ h ha;have hni:=cF hf;have hok:=hp.nodes _ (bV hni);rw[hn]at hok;have hkd:=bS hok;have hlen:=hl.len;have hfo:=hf.ok;simp only[bG,aR,bXb,cAg]at hfo;have e:aD p w a left f n=cH w a left 12 (aZ f.vals 0) (aZ f.vals 1):=by unfold aD;simp[hop]
 rw[e];have hq:n.asks=2:=by simp[aK.asks,hop]
 have h0:0<f.vals.length:=by omega
 have h1:1<f.vals.length:=by omega
 have v0:=hf.vals (cQ h0);have v1:=hf.vals (cQ h1);have hA:=rO (left:=left) (op:=12) h ha v0 v1 (by omega)
 refine aL gV rfl rfl ?_
 simp only[go_sem,qC,qG,qW,fU]
 refine aO ?_
 simp only[go_sem,qC,qG,qW,hop,hn,bM hni,bU h0,pL h1,hA.ret,bXe,bXf,bXh,bXi,bXg,bXc,if_false]
theorem aXp (hp:cJ p)(hsp:aT p=true)(h:bP p w0 S w)(ha:inR a 0 ((w.tasks.length:Int)-1)=true)(hl:LOk p S w left){f:aC}(hf:FOk p S w f){n:aK}(hn:p.node f.node=n)(hfull:(f.vals.length:Int)=n.asks)(hop:n.op=13):
  PC L 132 [.agg [.fz (p.nodes.map aK.enc),.fz (p.funs.map (.int .i64)),.int .i64 p.main,.fz (p.cons.map bE.enc)],.agg [.fz (w.objs.map aI.enc),.fz (w.tasks.map (.int .i64)),.fz (w.outs.map aN.enc),.fz (w.ins.map (.int .i64)),.int .i64 w.used],.int .i64 a,.fz (left.map aC.enc),.agg [.int .i64 f.node,.fz (f.env.map aG.enc),.fz (f.vals.map aG.enc)]] (.agg [.fz ((aD p w a left f n).w.objs.map aI.enc),.fz ((aD p w a left f n).w.tasks.map (.int .i64)),.fz ((aD p w a left f n).w.outs.map aN.enc),.fz ((aD p w a left f n).w.ins.map (.int .i64)),.int .i64 (aD p w a left f n).w.used,.int .i64 (aD p w a left f n).what,.int .i64 (aD p w a left f n).e.task,.int .i64 (aD p w a left f n).e.act,.int .i64 (aD p w a left f n).e.n,.int .i64 (aD p w a left f n).e.v.kind,.int .i64 (aD p w a left f n).e.v.n]):=by
 have hfit:=dQ h ha;have hni:=cF hf;have hok:=hp.nodes _ (bV hni);rw[hn]at hok;have hkd:=bS hok;have hlen:=hl.len;have hfo:=hf.ok;simp only[bG,aR,bXb,cAg]at hfo;have e:aD p w a left f n=cH w a left 13 (aZ f.vals 0) (aZ f.vals 1):=by unfold aD;simp[hop]
 rw[e];have hq:n.asks=2:=by simp[aK.asks,hop]
 have h0:0<f.vals.length:=by omega
 have h1:1<f.vals.length:=by omega
 have v0:=hf.vals (cQ h0);have v1:=hf.vals (cQ h1);have hA:=rO (left:=left) (op:=13) h ha v0 v1 (by omega)
 refine aL gV rfl rfl ?_
 simp only[go_sem,qC,qG,qW,fU]
 refine aO ?_
 simp only[go_sem,qC,qG,qW,hop,hn,bM hni,bU h0,pL h1,hA.ret,bXe,bXf,bXh,bXi,bXg,bXc,if_false]
theorem aXq (hp:cJ p)(hsp:aT p=true)(h:bP p w0 S w)(ha:inR a 0 ((w.tasks.length:Int)-1)=true)(hl:LOk p S w left){f:aC}(hf:FOk p S w f){n:aK}(hn:p.node f.node=n)(hfull:(f.vals.length:Int)=n.asks)(hop:n.op=14):
  PC L 132 [.agg [.fz (p.nodes.map aK.enc),.fz (p.funs.map (.int .i64)),.int .i64 p.main,.fz (p.cons.map bE.enc)],.agg [.fz (w.objs.map aI.enc),.fz (w.tasks.map (.int .i64)),.fz (w.outs.map aN.enc),.fz (w.ins.map (.int .i64)),.int .i64 w.used],.int .i64 a,.fz (left.map aC.enc),.agg [.int .i64 f.node,.fz (f.env.map aG.enc),.fz (f.vals.map aG.enc)]] (.agg [.fz ((aD p w a left f n).w.objs.map aI.enc),.fz ((aD p w a left f n).w.tasks.map (.int .i64)),.fz ((aD p w a left f n).w.outs.map aN.enc),.fz ((aD p w a left f n).w.ins.map (.int .i64)),.int .i64 (aD p w a left f n).w.used,.int .i64 (aD p w a left f n).what,.int .i64 (aD p w a left f n).e.task,.int .i64 (aD p w a left f n).e.act,.int .i64 (aD p w a left f n).e.n,.int .i64 (aD p w a left f n).e.v.kind,.int .i64 (aD p w a left f n).e.v.n]):=by
 have hfit:=dQ h ha;have hni:=cF hf;have hok:=hp.nodes _ (bV hni);rw[hn]at hok;have hkd:=bS hok;have hlen:=hl.len;have hfo:=hf.ok;simp only[bG,aR,bXb,cAg]at hfo;have e:aD p w a left f n=gZ w a left ⟨1,n.n,f.vals,[]⟩:=by unfold aD;simp[hop]
 rw[e];have hM:=aE0 w a left ⟨1,n.n,f.vals,[]⟩ hfit;simp only[bXv]at hM
 refine aL gV rfl rfl ?_
 simp only[go_sem,qC,qG,qW,fU]
 refine aO ?_
 simp only[go_sem,qC,qG,qW,hop,hn,bM hni,hM.ret,bXe,bXf,bXh,bXi,bXg,bXc,if_false]
theorem aXr (hp:cJ p)(hsp:aT p=true)(h:bP p w0 S w)(ha:inR a 0 ((w.tasks.length:Int)-1)=true)(hl:LOk p S w left){f:aC}(hf:FOk p S w f){n:aK}(hn:p.node f.node=n)(hfull:(f.vals.length:Int)=n.asks)(hop:n.op=15):
  PC L 132 [.agg [.fz (p.nodes.map aK.enc),.fz (p.funs.map (.int .i64)),.int .i64 p.main,.fz (p.cons.map bE.enc)],.agg [.fz (w.objs.map aI.enc),.fz (w.tasks.map (.int .i64)),.fz (w.outs.map aN.enc),.fz (w.ins.map (.int .i64)),.int .i64 w.used],.int .i64 a,.fz (left.map aC.enc),.agg [.int .i64 f.node,.fz (f.env.map aG.enc),.fz (f.vals.map aG.enc)]] (.agg [.fz ((aD p w a left f n).w.objs.map aI.enc),.fz ((aD p w a left f n).w.tasks.map (.int .i64)),.fz ((aD p w a left f n).w.outs.map aN.enc),.fz ((aD p w a left f n).w.ins.map (.int .i64)),.int .i64 (aD p w a left f n).w.used,.int .i64 (aD p w a left f n).what,.int .i64 (aD p w a left f n).e.task,.int .i64 (aD p w a left f n).e.act,.int .i64 (aD p w a left f n).e.n,.int .i64 (aD p w a left f n).e.v.kind,.int .i64 (aD p w a left f n).e.v.n]):=by
 have hfit:=dQ h ha;have hni:=cF hf;have hok:=hp.nodes _ (bV hni);rw[hn]at hok;have hkd:=bS hok;have hlen:=hl.len;have hfo:=hf.ok;simp only[bG,aR,bXb,cAg]at hfo;have e:aD p w a left f n=iR w a left n f.env (aZ f.vals 0):=by unfold aD;simp[hop]
 rw[e];have hq:n.asks=1:=by simp[aK.asks,hop]
 have h0:0<f.vals.length:=by omega
 have v0:=hf.vals (cQ h0);have hkc:(n.kids.length:Int)=1+n.pats.length:=by rw[hkd];simp[fX,hop]
 have hsn:fK n=true:=by rw[<-hn];simp only[aT,bXb,bXo]at hsp;exact hsp.2 _ (bV hni)
 simp only[fK,bXb,cAg]at hsn;have hpf: ∀q∈n.pats,rP q<=1000:=fun q hq=>by simp only[eG,bXb,bXo]at hok;exact aQ5 (hok.1.2 q hq)
 have hA:=aQ1 h ha hl n f.env v0 (by omega) (by omega) hpf (by omega)
 rw[hop]at hA
 refine aL gV rfl rfl ?_
 simp only[go_sem,qC,qG,qW,fU]
 refine aO ?_
 simp only[go_sem,qC,qG,qW,hop,hn,bM hni,bU h0,hA.ret,bXe,bXf,bXh,bXi,bXg,bXc,if_false]
theorem aXs (hp:cJ p)(hsp:aT p=true)(h:bP p w0 S w)(ha:inR a 0 ((w.tasks.length:Int)-1)=true)(hl:LOk p S w left){f:aC}(hf:FOk p S w f){n:aK}(hn:p.node f.node=n)(hfull:(f.vals.length:Int)=n.asks)(hop:n.op=26):
  PC L 132 [.agg [.fz (p.nodes.map aK.enc),.fz (p.funs.map (.int .i64)),.int .i64 p.main,.fz (p.cons.map bE.enc)],.agg [.fz (w.objs.map aI.enc),.fz (w.tasks.map (.int .i64)),.fz (w.outs.map aN.enc),.fz (w.ins.map (.int .i64)),.int .i64 w.used],.int .i64 a,.fz (left.map aC.enc),.agg [.int .i64 f.node,.fz (f.env.map aG.enc),.fz (f.vals.map aG.enc)]] (.agg [.fz ((aD p w a left f n).w.objs.map aI.enc),.fz ((aD p w a left f n).w.tasks.map (.int .i64)),.fz ((aD p w a left f n).w.outs.map aN.enc),.fz ((aD p w a left f n).w.ins.map (.int .i64)),.int .i64 (aD p w a left f n).w.used,.int .i64 (aD p w a left f n).what,.int .i64 (aD p w a left f n).e.task,.int .i64 (aD p w a left f n).e.act,.int .i64 (aD p w a left f n).e.n,.int .i64 (aD p w a left f n).e.v.kind,.int .i64 (aD p w a left f n).e.v.n]):=by
 have hfit:=dQ h ha;have hni:=cF hf;have hok:=hp.nodes _ (bV hni);rw[hn]at hok;have hkd:=bS hok;have hlen:=hl.len;have hfo:=hf.ok;simp only[bG,aR,bXb,cAg]at hfo;have e:aD p w a left f n=bW w a left (aZ f.vals 0):=by unfold aD;simp[hop]
 rw[e];have hq:n.asks=1:=by simp[aK.asks,hop]
 have h0:0<f.vals.length:=by omega
 have hB:=iB w a left (aZ f.vals 0) hfit
 refine aL gV rfl rfl ?_
 simp only[go_sem,qC,qG,qW,fU]
 refine aO ?_
 simp only[go_sem,qC,qG,qW,hop,hn,bM hni,bU h0,hB.ret,bXe,bXf,bXh,bXi,bXg,bXc,if_false]
theorem aXt (hp:cJ p)(hsp:aT p=true)(h:bP p w0 S w)(ha:inR a 0 ((w.tasks.length:Int)-1)=true)(hl:LOk p S w left){f:aC}(hf:FOk p S w f){n:aK}(hn:p.node f.node=n)(hfull:(f.vals.length:Int)=n.asks)(hop:n.op=27):
  PC L 132 [.agg [.fz (p.nodes.map aK.enc),.fz (p.funs.map (.int .i64)),.int .i64 p.main,.fz (p.cons.map bE.enc)],.agg [.fz (w.objs.map aI.enc),.fz (w.tasks.map (.int .i64)),.fz (w.outs.map aN.enc),.fz (w.ins.map (.int .i64)),.int .i64 w.used],.int .i64 a,.fz (left.map aC.enc),.agg [.int .i64 f.node,.fz (f.env.map aG.enc),.fz (f.vals.map aG.enc)]] (.agg [.fz ((aD p w a left f n).w.objs.map aI.enc),.fz ((aD p w a left f n).w.tasks.map (.int .i64)),.fz ((aD p w a left f n).w.outs.map aN.enc),.fz ((aD p w a left f n).w.ins.map (.int .i64)),.int .i64 (aD p w a left f n).w.used,.int .i64 (aD p w a left f n).what,.int .i64 (aD p w a left f n).e.task,.int .i64 (aD p w a left f n).e.act,.int .i64 (aD p w a left f n).e.n,.int .i64 (aD p w a left f n).e.v.kind,.int .i64 (aD p w a left f n).e.v.n]):=by
 have hfit:=dQ h ha;have hni:=cF hf;have hok:=hp.nodes _ (bV hni);rw[hn]at hok;have hkd:=bS hok;have hlen:=hl.len;have hfo:=hf.ok;simp only[bG,aR,bXb,cAg]at hfo;have e:aD p w a left f n=eN p w a left (vD n 0) f.env:=by unfold aD;simp[hop]
 rw[e];have hkc:(n.kids.length:Int)=1:=by rw[hkd];simp[fX,hop]
 have hk0:0<n.kids.length:=by omega
 have hA:=aQ3 h ha hl (kid:=vD n 0) (env:=f.env) (by omega)
 refine aL gV rfl rfl ?_
 simp only[go_sem,qC,qG,qW,fU]
 refine aO ?_
 simp only[go_sem,qC,qG,qW,hop,hn,bM hni,bDq hk0,hA.ret,bXe,bXf,bXh,bXi,bXg,bXc,if_false]
theorem aXu (hp:cJ p)(hsp:aT p=true)(h:bP p w0 S w)(ha:inR a 0 ((w.tasks.length:Int)-1)=true)(hl:LOk p S w left){f:aC}(hf:FOk p S w f){n:aK}(hn:p.node f.node=n)(hfull:(f.vals.length:Int)=n.asks)(hop:n.op=16):
  PC L 132 [.agg [.fz (p.nodes.map aK.enc),.fz (p.funs.map (.int .i64)),.int .i64 p.main,.fz (p.cons.map bE.enc)],.agg [.fz (w.objs.map aI.enc),.fz (w.tasks.map (.int .i64)),.fz (w.outs.map aN.enc),.fz (w.ins.map (.int .i64)),.int .i64 w.used],.int .i64 a,.fz (left.map aC.enc),.agg [.int .i64 f.node,.fz (f.env.map aG.enc),.fz (f.vals.map aG.enc)]] (.agg [.fz ((aD p w a left f n).w.objs.map aI.enc),.fz ((aD p w a left f n).w.tasks.map (.int .i64)),.fz ((aD p w a left f n).w.outs.map aN.enc),.fz ((aD p w a left f n).w.ins.map (.int .i64)),.int .i64 (aD p w a left f n).w.used,.int .i64 (aD p w a left f n).what,.int .i64 (aD p w a left f n).e.task,.int .i64 (aD p w a left f n).e.act,.int .i64 (aD p w a left f n).e.n,.int .i64 (aD p w a left f n).e.v.kind,.int .i64 (aD p w a left f n).e.v.n]):=by
 have hfit:=dQ h ha;have hni:=cF hf;have hok:=hp.nodes _ (bV hni);rw[hn]at hok;have hkd:=bS hok;have hlen:=hl.len;have hfo:=hf.ok;simp only[bG,aR,bXb,cAg]at hfo;have e:aD p w a left f n=eP w a left 16 f.vals:=by unfold aD;simp[hop]
 rw[e];have hq:n.asks=1:=by simp[aK.asks,hop]
 have h0:0<f.vals.length:=by omega
 have hA:=aDi (left:=left) (op:=16) h ha (fun v hv=>hf.vals hv) h0 (by omega)
 refine aL gV rfl rfl ?_
 simp only[go_sem,qC,qG,qW,fU]
 refine aO ?_
 simp only[go_sem,qC,qG,qW,hop,hn,bM hni,hA.ret,bXe,bXf,bXh,bXi,bXg,bXc,if_false]
theorem aXv (hp:cJ p)(hsp:aT p=true)(h:bP p w0 S w)(ha:inR a 0 ((w.tasks.length:Int)-1)=true)(hl:LOk p S w left){f:aC}(hf:FOk p S w f){n:aK}(hn:p.node f.node=n)(hfull:(f.vals.length:Int)=n.asks)(hop:n.op=17):
  PC L 132 [.agg [.fz (p.nodes.map aK.enc),.fz (p.funs.map (.int .i64)),.int .i64 p.main,.fz (p.cons.map bE.enc)],.agg [.fz (w.objs.map aI.enc),.fz (w.tasks.map (.int .i64)),.fz (w.outs.map aN.enc),.fz (w.ins.map (.int .i64)),.int .i64 w.used],.int .i64 a,.fz (left.map aC.enc),.agg [.int .i64 f.node,.fz (f.env.map aG.enc),.fz (f.vals.map aG.enc)]] (.agg [.fz ((aD p w a left f n).w.objs.map aI.enc),.fz ((aD p w a left f n).w.tasks.map (.int .i64)),.fz ((aD p w a left f n).w.outs.map aN.enc),.fz ((aD p w a left f n).w.ins.map (.int .i64)),.int .i64 (aD p w a left f n).w.used,.int .i64 (aD p w a left f n).what,.int .i64 (aD p w a left f n).e.task,.int .i64 (aD p w a left f n).e.act,.int .i64 (aD p w a left f n).e.n,.int .i64 (aD p w a left f n).e.v.kind,.int .i64 (aD p w a left f n).e.v.n]):=by
 have hfit:=dQ h ha;have hni:=cF hf;have hok:=hp.nodes _ (bV hni);rw[hn]at hok;have hkd:=bS hok;have hlen:=hl.len;have hfo:=hf.ok;simp only[bG,aR,bXb,cAg]at hfo;have e:aD p w a left f n=eP w a left 17 f.vals:=by unfold aD;simp[hop]
 rw[e];have hq:n.asks=1:=by simp[aK.asks,hop]
 have h0:0<f.vals.length:=by omega
 have hA:=aDi (left:=left) (op:=17) h ha (fun v hv=>hf.vals hv) h0 (by omega)
 refine aL gV rfl rfl ?_
 simp only[go_sem,qC,qG,qW,fU]
 refine aO ?_
 simp only[go_sem,qC,qG,qW,hop,hn,bM hni,hA.ret,bXe,bXf,bXh,bXi,bXg,bXc,if_false]
theorem aXw (hp:cJ p)(hsp:aT p=true)(h:bP p w0 S w)(ha:inR a 0 ((w.tasks.length:Int)-1)=true)(hl:LOk p S w left){f:aC}(hf:FOk p S w f){n:aK}(hn:p.node f.node=n)(hfull:(f.vals.length:Int)=n.asks)(hop:n.op=18):
  PC L 132 [.agg [.fz (p.nodes.map aK.enc),.fz (p.funs.map (.int .i64)),.int .i64 p.main,.fz (p.cons.map bE.enc)],.agg [.fz (w.objs.map aI.enc),.fz (w.tasks.map (.int .i64)),.fz (w.outs.map aN.enc),.fz (w.ins.map (.int .i64)),.int .i64 w.used],.int .i64 a,.fz (left.map aC.enc),.agg [.int .i64 f.node,.fz (f.env.map aG.enc),.fz (f.vals.map aG.enc)]] (.agg [.fz ((aD p w a left f n).w.objs.map aI.enc),.fz ((aD p w a left f n).w.tasks.map (.int .i64)),.fz ((aD p w a left f n).w.outs.map aN.enc),.fz ((aD p w a left f n).w.ins.map (.int .i64)),.int .i64 (aD p w a left f n).w.used,.int .i64 (aD p w a left f n).what,.int .i64 (aD p w a left f n).e.task,.int .i64 (aD p w a left f n).e.act,.int .i64 (aD p w a left f n).e.n,.int .i64 (aD p w a left f n).e.v.kind,.int .i64 (aD p w a left f n).e.v.n]):=by
 have hfit:=dQ h ha;have hni:=cF hf;have hok:=hp.nodes _ (bV hni);rw[hn]at hok;have hkd:=bS hok;have hlen:=hl.len;have hfo:=hf.ok;simp only[bG,aR,bXb,cAg]at hfo;have e:aD p w a left f n=eP w a left 18 f.vals:=by unfold aD;simp[hop]
 rw[e];have hq:n.asks=2:=by simp[aK.asks,hop]
 have h0:0<f.vals.length:=by omega
 have hA:=aDi (left:=left) (op:=18) h ha (fun v hv=>hf.vals hv) h0 (by omega)
 refine aL gV rfl rfl ?_
 simp only[go_sem,qC,qG,qW,fU]
 refine aO ?_
 simp only[go_sem,qC,qG,qW,hop,hn,bM hni,hA.ret,bXe,bXf,bXh,bXi,bXg,bXc,if_false]
theorem aXx (hp:cJ p)(hsp:aT p=true)(h:bP p w0 S w)(ha:inR a 0 ((w.tasks.length:Int)-1)=true)(hl:LOk p S w left){f:aC}(hf:FOk p S w f){n:aK}(hn:p.node f.node=n)(hfull:(f.vals.length:Int)=n.asks)(hop:n.op=19):
  PC L 132 [.agg [.fz (p.nodes.map aK.enc),.fz (p.funs.map (.int .i64)),.int .i64 p.main,.fz (p.cons.map bE.enc)],.agg [.fz (w.objs.map aI.enc),.fz (w.tasks.map (.int .i64)),.fz (w.outs.map aN.enc),.fz (w.ins.map (.int .i64)),.int .i64 w.used],.int .i64 a,.fz (left.map aC.enc),.agg [.int .i64 f.node,.fz (f.env.map aG.enc),.fz (f.vals.map aG.enc)]] (.agg [.fz ((aD p w a left f n).w.objs.map aI.enc),.fz ((aD p w a left f n).w.tasks.map (.int .i64)),.fz ((aD p w a left f n).w.outs.map aN.enc),.fz ((aD p w a left f n).w.ins.map (.int .i64)),.int .i64 (aD p w a left f n).w.used,.int .i64 (aD p w a left f n).what,.int .i64 (aD p w a left f n).e.task,.int .i64 (aD p w a left f n).e.act,.int .i64 (aD p w a left f n).e.n,.int .i64 (aD p w a left f n).e.v.kind,.int .i64 (aD p w a left f n).e.v.n]):=by
 have hfit:=dQ h ha;have hni:=cF hf;have hok:=hp.nodes _ (bV hni);rw[hn]at hok;have hkd:=bS hok;have hlen:=hl.len;have hfo:=hf.ok;simp only[bG,aR,bXb,cAg]at hfo;have e:aD p w a left f n=dY p w a left (aZ f.vals 0):=by unfold aD;simp[hop]
 rw[e];have hq:n.asks=1:=by simp[aK.asks,hop]
 have h0:0<f.vals.length:=by omega
 have v0:=hf.vals (cQ h0);have hA:=aQ4 (left:=left) hp h ha v0
 refine aL gV rfl rfl ?_
 simp only[go_sem,qC,qG,qW,fU]
 refine aO ?_
 simp only[go_sem,qC,qG,qW,hop,hn,bM hni,bU h0,hA.ret,bXe,bXf,bXh,bXi,bXg,bXc,if_false]
theorem aXy (hp:cJ p)(hsp:aT p=true)(h:bP p w0 S w)(ha:inR a 0 ((w.tasks.length:Int)-1)=true)(hl:LOk p S w left){f:aC}(hf:FOk p S w f){n:aK}(hn:p.node f.node=n)(hfull:(f.vals.length:Int)=n.asks)(hop:n.op=20):
  PC L 132 [.agg [.fz (p.nodes.map aK.enc),.fz (p.funs.map (.int .i64)),.int .i64 p.main,.fz (p.cons.map bE.enc)],.agg [.fz (w.objs.map aI.enc),.fz (w.tasks.map (.int .i64)),.fz (w.outs.map aN.enc),.fz (w.ins.map (.int .i64)),.int .i64 w.used],.int .i64 a,.fz (left.map aC.enc),.agg [.int .i64 f.node,.fz (f.env.map aG.enc),.fz (f.vals.map aG.enc)]] (.agg [.fz ((aD p w a left f n).w.objs.map aI.enc),.fz ((aD p w a left f n).w.tasks.map (.int .i64)),.fz ((aD p w a left f n).w.outs.map aN.enc),.fz ((aD p w a left f n).w.ins.map (.int .i64)),.int .i64 (aD p w a left f n).w.used,.int .i64 (aD p w a left f n).what,.int .i64 (aD p w a left f n).e.task,.int .i64 (aD p w a left f n).e.act,.int .i64 (aD p w a left f n).e.n,.int .i64 (aD p w a left f n).e.v.kind,.int .i64 (aD p w a left f n).e.v.n]):=by
 have hfit:=dQ h ha;have hni:=cF hf;have hok:=hp.nodes _ (bV hni);rw[hn]at hok;have hkd:=bS hok;have hlen:=hl.len;have hfo:=hf.ok;simp only[bG,aR,bXb,cAg]at hfo;have e:aD p w a left f n=eX w a left (aZ f.vals 0):=by unfold aD;simp[hop]
 rw[e];have hq:n.asks=1:=by simp[aK.asks,hop]
 have h0:0<f.vals.length:=by omega
 have v0:=hf.vals (cQ h0);have hA:=aXl (left:=left) h ha v0
 refine aL gV rfl rfl ?_
 simp only[go_sem,qC,qG,qW,fU]
 refine aO ?_
 simp only[go_sem,qC,qG,qW,hop,hn,bM hni,bU h0,hA.ret,bXe,bXf,bXh,bXi,bXg,bXc,if_false]
theorem aXz (hp:cJ p)(hsp:aT p=true)(h:bP p w0 S w)(ha:inR a 0 ((w.tasks.length:Int)-1)=true)(hl:LOk p S w left){f:aC}(hf:FOk p S w f){n:aK}(hn:p.node f.node=n)(hfull:(f.vals.length:Int)=n.asks)(hop:n.op=21):
  PC L 132 [.agg [.fz (p.nodes.map aK.enc),.fz (p.funs.map (.int .i64)),.int .i64 p.main,.fz (p.cons.map bE.enc)],.agg [.fz (w.objs.map aI.enc),.fz (w.tasks.map (.int .i64)),.fz (w.outs.map aN.enc),.fz (w.ins.map (.int .i64)),.int .i64 w.used],.int .i64 a,.fz (left.map aC.enc),.agg [.int .i64 f.node,.fz (f.env.map aG.enc),.fz (f.vals.map aG.enc)]] (.agg [.fz ((aD p w a left f n).w.objs.map aI.enc),.fz ((aD p w a left f n).w.tasks.map (.int .i64)),.fz ((aD p w a left f n).w.outs.map aN.enc),.fz ((aD p w a left f n).w.ins.map (.int .i64)),.int .i64 (aD p w a left f n).w.used,.int .i64 (aD p w a left f n).what,.int .i64 (aD p w a left f n).e.task,.int .i64 (aD p w a left f n).e.act,.int .i64 (aD p w a left f n).e.n,.int .i64 (aD p w a left f n).e.v.kind,.int .i64 (aD p w a left f n).e.v.n]):=by
 have hfit:=dQ h ha;have hni:=cF hf;have hok:=hp.nodes _ (bV hni);rw[hn]at hok;have hkd:=bS hok;have hlen:=hl.len;have hfo:=hf.ok;simp only[bG,aR,bXb,cAg]at hfo;have e:aD p w a left f n=dK (gZ w a left ⟨4,0,[],[]⟩) a 21 0 eK:=by unfold aD;simp[hop]
 rw[e];have hM:=aE0 w a left ⟨4,0,[],[]⟩ hfit;have hE:=kK (gZ w a left ⟨4,0,[],[]⟩) a 21 0 eK;simp only[bXv]at hM
 refine aL gV rfl rfl ?_
 simp only[go_sem,qC,qG,qW,fU]
 refine aO ?_
 simp only[go_sem,qC,qG,qW,hop,hn,bM hni,dC,bR,hM.ret,iS.ret,hE.ret,bXe,bXf,bXh,bXi,bXg,bXc,if_false]
 refine aO ?_
 simp only[go_sem,qC,qG,qW,hop,hn,bM hni,dC,bR,hM.ret,iS.ret,hE.ret,bXe,bXf,bXh,bXi,bXg,bXc,if_false]
theorem aX0 (hp:cJ p)(hsp:aT p=true)(h:bP p w0 S w)(ha:inR a 0 ((w.tasks.length:Int)-1)=true)(hl:LOk p S w left){f:aC}(hf:FOk p S w f){n:aK}(hn:p.node f.node=n)(hfull:(f.vals.length:Int)=n.asks)(hop:n.op=22):
  PC L 132 [.agg [.fz (p.nodes.map aK.enc),.fz (p.funs.map (.int .i64)),.int .i64 p.main,.fz (p.cons.map bE.enc)],.agg [.fz (w.objs.map aI.enc),.fz (w.tasks.map (.int .i64)),.fz (w.outs.map aN.enc),.fz (w.ins.map (.int .i64)),.int .i64 w.used],.int .i64 a,.fz (left.map aC.enc),.agg [.int .i64 f.node,.fz (f.env.map aG.enc),.fz (f.vals.map aG.enc)]] (.agg [.fz ((aD p w a left f n).w.objs.map aI.enc),.fz ((aD p w a left f n).w.tasks.map (.int .i64)),.fz ((aD p w a left f n).w.outs.map aN.enc),.fz ((aD p w a left f n).w.ins.map (.int .i64)),.int .i64 (aD p w a left f n).w.used,.int .i64 (aD p w a left f n).what,.int .i64 (aD p w a left f n).e.task,.int .i64 (aD p w a left f n).e.act,.int .i64 (aD p w a left f n).e.n,.int .i64 (aD p w a left f n).e.v.kind,.int .i64 (aD p w a left f n).e.v.n]):=by
 have hfit:=dQ h ha;have hni:=cF hf;have hok:=hp.nodes _ (bV hni);rw[hn]at hok;have hkd:=bS hok;have hlen:=hl.len;have hfo:=hf.ok;simp only[bG,aR,bXb,cAg]at hfo;have e:aD p w a left f n=cC w a left 22 f.vals:=by unfold aD;simp[hop]
 rw[e];have hq:n.asks=2:=by simp[aK.asks,hop]
 have h0:0<f.vals.length:=by omega
 have hA:=aCh (left:=left) (op:=22) h ha (fun v hv=>hf.vals hv) h0 (by omega)
 refine aL gV rfl rfl ?_
 simp only[go_sem,qC,qG,qW,fU]
 refine aO ?_
 simp only[go_sem,qC,qG,qW,hop,hn,bM hni,hA.ret,bXe,bXf,bXh,bXi,bXg,bXc,if_false]
theorem aX1 (hp:cJ p)(hsp:aT p=true)(h:bP p w0 S w)(ha:inR a 0 ((w.tasks.length:Int)-1)=true)(hl:LOk p S w left){f:aC}(hf:FOk p S w f){n:aK}(hn:p.node f.node=n)(hfull:(f.vals.length:Int)=n.asks)(hop:n.op=23):
  PC L 132 [.agg [.fz (p.nodes.map aK.enc),.fz (p.funs.map (.int .i64)),.int .i64 p.main,.fz (p.cons.map bE.enc)],.agg [.fz (w.objs.map aI.enc),.fz (w.tasks.map (.int .i64)),.fz (w.outs.map aN.enc),.fz (w.ins.map (.int .i64)),.int .i64 w.used],.int .i64 a,.fz (left.map aC.enc),.agg [.int .i64 f.node,.fz (f.env.map aG.enc),.fz (f.vals.map aG.enc)]] (.agg [.fz ((aD p w a left f n).w.objs.map aI.enc),.fz ((aD p w a left f n).w.tasks.map (.int .i64)),.fz ((aD p w a left f n).w.outs.map aN.enc),.fz ((aD p w a left f n).w.ins.map (.int .i64)),.int .i64 (aD p w a left f n).w.used,.int .i64 (aD p w a left f n).what,.int .i64 (aD p w a left f n).e.task,.int .i64 (aD p w a left f n).e.act,.int .i64 (aD p w a left f n).e.n,.int .i64 (aD p w a left f n).e.v.kind,.int .i64 (aD p w a left f n).e.v.n]):=by
 have hfit:=dQ h ha;have hni:=cF hf;have hok:=hp.nodes _ (bV hni);rw[hn]at hok;have hkd:=bS hok;have hlen:=hl.len;have hfo:=hf.ok;simp only[bG,aR,bXb,cAg]at hfo;have e:aD p w a left f n=cC w a left 23 f.vals:=by unfold aD;simp[hop]
 rw[e];have hq:n.asks=1:=by simp[aK.asks,hop]
 have h0:0<f.vals.length:=by omega
 have hA:=aCh (left:=left) (op:=23) h ha (fun v hv=>hf.vals hv) h0 (by omega)
 refine aL gV rfl rfl ?_
 simp only[go_sem,qC,qG,qW,fU]
 refine aO ?_
 simp only[go_sem,qC,qG,qW,hop,hn,bM hni,hA.ret,bXe,bXf,bXh,bXi,bXg,bXc,if_false]
theorem aX2 (hp:cJ p)(hsp:aT p=true)(h:bP p w0 S w)(ha:inR a 0 ((w.tasks.length:Int)-1)=true)(hl:LOk p S w left){f:aC}(hf:FOk p S w f){n:aK}(hn:p.node f.node=n)(hfull:(f.vals.length:Int)=n.asks)(hop:n.op=24):
  PC L 132 [.agg [.fz (p.nodes.map aK.enc),.fz (p.funs.map (.int .i64)),.int .i64 p.main,.fz (p.cons.map bE.enc)],.agg [.fz (w.objs.map aI.enc),.fz (w.tasks.map (.int .i64)),.fz (w.outs.map aN.enc),.fz (w.ins.map (.int .i64)),.int .i64 w.used],.int .i64 a,.fz (left.map aC.enc),.agg [.int .i64 f.node,.fz (f.env.map aG.enc),.fz (f.vals.map aG.enc)]] (.agg [.fz ((aD p w a left f n).w.objs.map aI.enc),.fz ((aD p w a left f n).w.tasks.map (.int .i64)),.fz ((aD p w a left f n).w.outs.map aN.enc),.fz ((aD p w a left f n).w.ins.map (.int .i64)),.int .i64 (aD p w a left f n).w.used,.int .i64 (aD p w a left f n).what,.int .i64 (aD p w a left f n).e.task,.int .i64 (aD p w a left f n).e.act,.int .i64 (aD p w a left f n).e.n,.int .i64 (aD p w a left f n).e.v.kind,.int .i64 (aD p w a left f n).e.v.n]):=by
 have hfit:=dQ h ha;have hni:=cF hf;have hok:=hp.nodes _ (bV hni);rw[hn]at hok;have hkd:=bS hok;have hlen:=hl.len;have hfo:=hf.ok;simp only[bG,aR,bXb,cAg]at hfo;have e:aD p w a left f n=cY w a left 24 n.n f.vals:=by unfold aD;simp[hop]
 rw[e];have hq:n.asks=1:=by simp[aK.asks,hop]
 have h0:0<f.vals.length:=by omega
 have hA:=aHs (left:=left) h ha n (fun v hv=>hf.vals hv) (.inr ⟨hop,h0⟩)
 rw[hop]at hA
 refine aL gV rfl rfl ?_
 simp only[go_sem,qC,qG,qW,fU]
 refine aO ?_
 simp only[go_sem,qC,qG,qW,hop,hn,bM hni,hA.ret,bXe,bXf,bXh,bXi,bXg,bXc,if_false]
theorem aX3 (hp:cJ p)(hsp:aT p=true)(h:bP p w0 S w)(ha:inR a 0 ((w.tasks.length:Int)-1)=true)(hl:LOk p S w left){f:aC}(hf:FOk p S w f){n:aK}(hn:p.node f.node=n)(hfull:(f.vals.length:Int)=n.asks)(hop:n.op=25):
  PC L 132 [.agg [.fz (p.nodes.map aK.enc),.fz (p.funs.map (.int .i64)),.int .i64 p.main,.fz (p.cons.map bE.enc)],.agg [.fz (w.objs.map aI.enc),.fz (w.tasks.map (.int .i64)),.fz (w.outs.map aN.enc),.fz (w.ins.map (.int .i64)),.int .i64 w.used],.int .i64 a,.fz (left.map aC.enc),.agg [.int .i64 f.node,.fz (f.env.map aG.enc),.fz (f.vals.map aG.enc)]] (.agg [.fz ((aD p w a left f n).w.objs.map aI.enc),.fz ((aD p w a left f n).w.tasks.map (.int .i64)),.fz ((aD p w a left f n).w.outs.map aN.enc),.fz ((aD p w a left f n).w.ins.map (.int .i64)),.int .i64 (aD p w a left f n).w.used,.int .i64 (aD p w a left f n).what,.int .i64 (aD p w a left f n).e.task,.int .i64 (aD p w a left f n).e.act,.int .i64 (aD p w a left f n).e.n,.int .i64 (aD p w a left f n).e.v.kind,.int .i64 (aD p w a left f n).e.v.n]):=by
 have hfit:=dQ h ha;have hni:=cF hf;have hok:=hp.nodes _ (bV hni);rw[hn]at hok;have hkd:=bS hok;have hlen:=hl.len;have hfo:=hf.ok;simp only[bG,aR,bXb,cAg]at hfo;have e:aD p w a left f n=cY w a left 25 n.n f.vals:=by unfold aD;simp[hop]
 rw[e];have hA:=aHs (left:=left) h ha n (fun v hv=>hf.vals hv) (.inl hop)
 rw[hop]at hA
 refine aL gV rfl rfl ?_
 simp only[go_sem,qC,qG,qW,fU]
 refine aO ?_
 simp only[go_sem,qC,qG,qW,hop,hn,bM hni,hA.ret,bXe,bXf,bXh,bXi,bXg,bXc,if_false]
theorem aX4 (hp:cJ p)(hsp:aT p=true)(h:bP p w0 S w)(ha:inR a 0 ((w.tasks.length:Int)-1)=true)(hl:LOk p S w left){f:aC}(hf:FOk p S w f){n:aK}(hn:p.node f.node=n)(hfull:(f.vals.length:Int)=n.asks)(hop:n.op=28):
  PC L 132 [.agg [.fz (p.nodes.map aK.enc),.fz (p.funs.map (.int .i64)),.int .i64 p.main,.fz (p.cons.map bE.enc)],.agg [.fz (w.objs.map aI.enc),.fz (w.tasks.map (.int .i64)),.fz (w.outs.map aN.enc),.fz (w.ins.map (.int .i64)),.int .i64 w.used],.int .i64 a,.fz (left.map aC.enc),.agg [.int .i64 f.node,.fz (f.env.map aG.enc),.fz (f.vals.map aG.enc)]] (.agg [.fz ((aD p w a left f n).w.objs.map aI.enc),.fz ((aD p w a left f n).w.tasks.map (.int .i64)),.fz ((aD p w a left f n).w.outs.map aN.enc),.fz ((aD p w a left f n).w.ins.map (.int .i64)),.int .i64 (aD p w a left f n).w.used,.int .i64 (aD p w a left f n).what,.int .i64 (aD p w a left f n).e.task,.int .i64 (aD p w a left f n).e.act,.int .i64 (aD p w a left f n).e.n,.int .i64 (aD p w a left f n).e.v.kind,.int .i64 (aD p w a left f n).e.v.n]):=by
 have hfit:=dQ h ha;have hni:=cF hf;have hok:=hp.nodes _ (bV hni);rw[hn]at hok;have hkd:=bS hok;have hlen:=hl.len;have hfo:=hf.ok;simp only[bG,aR,bXb,cAg]at hfo;have e:aD p w a left f n=dK (bW w a left eK) a 28 0 eK:=by unfold aD;simp[hop]
 rw[e];have hB:=iB w a left eK hfit;have hE:=kK (bW w a left eK) a 28 0 eK
 refine aL gV rfl rfl ?_
 simp only[go_sem,qC,qG,qW,fU]
 refine aO ?_
 simp only[go_sem,qC,qG,qW,hop,hn,bM hni,iS.ret,hB.ret,hE.ret,bXe,bXf,bXh,bXi,bXg,bXc,if_false]
 refine aO ?_
 simp only[go_sem,qC,qG,qW,hop,hn,bM hni,iS.ret,hB.ret,hE.ret,bXe,bXf,bXh,bXi,bXg,bXc,if_false]
theorem bDr (hp:cJ p)(hsp:aT p=true)(h:bP p w0 S w)(ha:inR a 0 ((w.tasks.length:Int)-1)=true)(hl:LOk p S w left){f:aC}(hf:FOk p S w f)(hfull:(f.vals.length:Int)=(p.node f.node).asks):
  PC L 132 [.agg [.fz (p.nodes.map aK.enc),.fz (p.funs.map (.int .i64)),.int .i64 p.main,.fz (p.cons.map bE.enc)],.agg [.fz (w.objs.map aI.enc),.fz (w.tasks.map (.int .i64)),.fz (w.outs.map aN.enc),.fz (w.ins.map (.int .i64)),.int .i64 w.used],.int .i64 a,.fz (left.map aC.enc),.agg [.int .i64 f.node,.fz (f.env.map aG.enc),.fz (f.vals.map aG.enc)]] (.agg [.fz ((rM p w a left f).w.objs.map aI.enc),.fz ((rM p w a left f).w.tasks.map (.int .i64)),.fz ((rM p w a left f).w.outs.map aN.enc),.fz ((rM p w a left f).w.ins.map (.int .i64)),.int .i64 (rM p w a left f).w.used,.int .i64 (rM p w a left f).what,.int .i64 (rM p w a left f).e.task,.int .i64 (rM p w a left f).e.act,.int .i64 (rM p w a left f).e.n,.int .i64 (rM p w a left f).e.v.kind,.int .i64 (rM p w a left f).e.v.n]):=by
 obtain⟨o1,o2⟩:=bA1 (hp.nodes _ (bV (cF hf)));have ho:(p.node f.node).op=1 \/(p.node f.node).op=2 \/(p.node f.node).op=3 \/(p.node f.node).op=4 \/(p.node f.node).op=5 \/(p.node f.node).op=6 \/(p.node f.node).op=7 \/(p.node f.node).op=8 \/(p.node f.node).op=9 \/(p.node f.node).op=10 \/(p.node f.node).op=11 \/(p.node f.node).op=12 \/(p.node f.node).op=13 \/(p.node f.node).op=14 \/(p.node f.node).op=15 \/(p.node f.node).op=16 \/(p.node f.node).op=17 \/(p.node f.node).op=18 \/(p.node f.node).op=19 \/(p.node f.node).op=20 \/(p.node f.node).op=21 \/(p.node f.node).op=22 \/(p.node f.node).op=23 \/(p.node f.node).op=24 \/(p.node f.node).op=25 \/(p.node f.node).op=26 \/(p.node f.node).op=27 \/(p.node f.node).op=28:=by omega
 unfold rM;rcases ho with ho|ho|ho|ho|ho|ho|ho|ho|ho|ho|ho|ho|ho|ho|ho|ho|ho|ho|ho|ho|ho|ho|ho|ho|ho|ho|ho|ho
 ·exact bA2 hp hsp h ha hl hf rfl hfull ho
 ·exact bA3 hp hsp h ha hl hf rfl hfull ho
 ·exact bA4 hp hsp h ha hl hf rfl hfull ho
 ·exact bA5 hp hsp h ha hl hf rfl hfull ho
 ·exact bA6 hp hsp h ha hl hf rfl hfull ho
 ·exact bA7 hp hsp h ha hl hf rfl hfull ho
 ·exact bA8 hp hsp h ha hl hf rfl hfull ho
 ·exact bA9 hp hsp h ha hl hf rfl hfull ho
 ·exact bBa hp hsp h ha hl hf rfl hfull ho
 ·exact aXm hp hsp h ha hl hf rfl hfull ho
 ·exact aXn hp hsp h ha hl hf rfl hfull ho
 ·exact aXo hp hsp h ha hl hf rfl hfull ho
 ·exact aXp hp hsp h ha hl hf rfl hfull ho
 ·exact aXq hp hsp h ha hl hf rfl hfull ho
 ·exact aXr hp hsp h ha hl hf rfl hfull ho
 ·exact aXu hp hsp h ha hl hf rfl hfull ho
 ·exact aXv hp hsp h ha hl hf rfl hfull ho
 ·exact aXw hp hsp h ha hl hf rfl hfull ho
 ·exact aXx hp hsp h ha hl hf rfl hfull ho
 ·exact aXy hp hsp h ha hl hf rfl hfull ho
 ·exact aXz hp hsp h ha hl hf rfl hfull ho
 ·exact aX0 hp hsp h ha hl hf rfl hfull ho
 ·exact aX1 hp hsp h ha hl hf rfl hfull ho
 ·exact aX2 hp hsp h ha hl hf rfl hfull ho
 ·exact aX3 hp hsp h ha hl hf rfl hfull ho
 ·exact aXs hp hsp h ha hl hf rfl hfull ho
 ·exact aXt hp hsp h ha hl hf rfl hfull ho
 ·exact aX4 hp hsp h ha hl hf rfl hfull ho
variable {p :aP}{w0 w:aB}{S:Nat->Prop}{a:Int}
theorem rQ {w:aB}{a:Int}{en:En}(ha:inR a 0 ((w.tasks.length:Int)-1)=true):sP 1 en (.fz (w.tasks.map (.int .i64))) (.int .i64 a)=some {v:= .fp [.int .i64 (jA w a)] 0}:=sQ ha
set_option maxHeartbeats 1600000 in
theorem aE1 (hp:cJ p)(hsp:aT p=true)(h:bP p w0 S w)(ha:inR a 0 ((w.tasks.length:Int)-1)=true):
  PC L 93 [.agg [.fz (p.nodes.map aK.enc),.fz (p.funs.map (.int .i64)),.int .i64 p.main,.fz (p.cons.map bE.enc)],.agg [.fz (w.objs.map aI.enc),.fz (w.tasks.map (.int .i64)),.fz (w.outs.map aN.enc),.fz (w.ins.map (.int .i64)),.int .i64 w.used],.int .i64 a] (.agg [.fz ((eC p w a).w.objs.map aI.enc),.fz ((eC p w a).w.tasks.map (.int .i64)),.fz ((eC p w a).w.outs.map aN.enc),.fz ((eC p w a).w.ins.map (.int .i64)),.int .i64 (eC p w a).w.used,.int .i64 (eC p w a).what,.int .i64 (eC p w a).e.task,.int .i64 (eC p w a).e.act,.int .i64 (eC p w a).e.n,.int .i64 (eC p w a).e.v.kind,.int .i64 (eC p w a).e.v.n]):=by
 have hfit:=dQ h ha;obtain⟨t1,t2,t3⟩:=h.task ha;have hO:=h.obj t1 t3;have hset:=fun o=>aVd w a o hfit
 have honto:=fun left node env hl=>yR w a left node env hfit hl
 unfold eC
 simp only
 have hio:=fun en=>uK (w:=w) (k:= .i64) (en:=en) t1
 generalize ho:w.obj (jA w a)=o at hO t2 hio⊢;have hk:=hO.ok;rw[dN,if_pos t2,iH]at hk
 by_cases n0:o.n=0
 ·have d0:decide (o.n=0)=true:=decide_eq_true n0;rw[if_neg (fun h=>h n0)]
  rw[if_pos n0]at hk;simp only[bK,bXb,cAg,bXo,aR]at hk;obtain⟨⟨⟨⟨k1,k2⟩,k3,k4⟩,k5⟩,k6⟩:=hk;have hF: ∀f∈o.frames,FOk p S w f:=fun f hf=>hO.frames hf
  have hwt:IntKind.i64.wrap ((o.frames.length:Int)-1)=(o.frames.length:Int)-1:=bY (by omega)
  by_cases hv1:o.vals.length=1
  ·have dv:decide (o.vals.length=1)=true:=decide_eq_true hv1;have dv':decide ((o.vals.length:Int)=1)=true:=decide_eq_true (by omega)
   rw[if_pos hv1]
   by_cases hf0:o.frames.length=0
   ·rw[if_pos hf0];have hS:=hset ⟨6,1,[aZ o.vals 0],[]⟩;simp only[bYa,bXv,aHr]at hS;have df:decide ((o.frames.length:Int)-1<0)=true:=decide_eq_true (by omega)
    refine aL aZo rfl rfl ?_
    simp only[go_sem,qC,qG,qW,aMz]
    refine aO ?_
    simp only[go_sem,qC,qG,qW,rQ ha,hio,bXe,bXf,bXh,bXi,bXg,bXc,if_false];simp only[go_sem,qC,qG,qW,d0,dv',hwt,bU (l:=o.vals) (by omega),df]
    refine aO ?_
    simp only[go_sem,qC,qG,qW,rQ ha,dC,bR,hS.ret,(aJo _).ret,bXe,bXf,bXh,bXi,bXg,bXc,if_false]
   ·rw[if_neg hf0];obtain⟨m,hm⟩: ∃m,o.frames.length=m+1:=⟨o.frames.length-1,by omega⟩
    have hmn:m<o.frames.length:=by omega
    have df:decide ((m:Int)<0)=false:=decide_eq_false (by omega)
    have hwt:IntKind.i64.wrap ((o.frames.length:Int)-1)=(m:Int):=by rw[hwt];omega
    have hgd:o.frames.getD (o.frames.length-1) oJ=o.frames[m]:=by
     rw[show o.frames.length-1=m by omega];simp[bXm,hmn]
    have hgz:(o.frames.map aC.enc)[m]?=some (aC.enc o.frames[m]):=by simp[hmn]
    have hlF:aOh o.frames (aZ o.vals 0)=o.frames.set m ⟨o.frames[m].node,o.frames[m].env,o.frames[m].vals++[aZ o.vals 0]⟩:=by
     unfold aOh;rw[hgd,show o.frames.length-1=m by omega]
    rw[hlF];have hS:=hset ⟨6,0,[],o.frames.set m ⟨o.frames[m].node,o.frames[m].env,o.frames[m].vals++[aZ o.vals 0]⟩⟩;simp only[bYu,bXv,aC.enc]at hS;have hfm:=(hF _ (bXn hmn)).ok;have hal:=aVe hsp (cF (hF _ (bXn hmn)));simp only[bG,aR,bXb,cAg]at hfm;have hM:=aB8 o.frames[m].vals (aZ o.vals 0) (by omega)
    have hfe:o.frames.isEmpty=false:=aHl (by omega)
    have hf16:o.frames.length<=16777216:=by omega
    have hmi:((m:Int)<(o.frames.length:Int)):=by omega
    refine aL aZo rfl rfl ?_
    simp only[go_sem,qC,qG,qW,aMz]
    refine aO ?_
    simp only[go_sem,qC,qG,qW,rQ ha,hio,bXe,bXf,bXh,bXi,bXg,bXc,if_false];simp only[go_sem,qC,qG,qW,d0,dv',hwt,bU (l:=o.vals) (by omega),df,dB,hH,hZ,fN,hfe,hf16,nV,hgz,hmi,rQ ha,hM.ret,fO,bZ4,bXx,bXj,bZu,bXd,bXs,cW,bL,hS.ret,lQ,nB]
  ·have dv':decide ((o.vals.length:Int)=1)=false:=decide_eq_false (by omega)
   rw[if_neg hv1];have hz:o.vals.length=0:=by omega
   obtain⟨m,hm⟩: ∃m,o.frames.length=m+1:=⟨o.frames.length-1,by omega⟩
   have hmn:m<o.frames.length:=by omega
   have hwt:IntKind.i64.wrap ((o.frames.length:Int)-1)=(m:Int):=by rw[hwt];omega
   have hgd:o.frames.getD (o.frames.length-1) oJ=o.frames[m]:=by
    rw[show o.frames.length-1=m by omega];simp[bXm,hmn]
   rw[hgd];have hfo:=hF _ (bXn hmn);have hni:=cF hfo;have hok:=hp.nodes _ (bV hni);have hak:=aJn hok
   by_cases hop:(o.frames[m].vals.length:Int)<(p.node o.frames[m].node).asks
   ·have dop:decide ((o.frames[m].vals.length:Int)<(p.node o.frames[m].node).asks)=true:=decide_eq_true hop;rw[if_pos hop];have hN:=honto o.frames (vD (p.node o.frames[m].node) o.frames[m].vals.length) o.frames[m].env (by omega)
    refine aL aZo rfl rfl ?_
    simp only[go_sem,qC,qG,qW,aMz]
    refine aO ?_
    simp only[go_sem,qC,qG,qW,rQ ha,hio,bXe,bXf,bXh,bXi,bXg,bXc,if_false];simp only[go_sem,qC,qG,qW,d0,dv',hwt,hmn,bM hni,(rY _).ret,dop,aVi (show inR (o.frames[m].vals.length:Int) 0 (((p.node o.frames[m].node).kids.length:Int)-1)=true by simp only[inR,cAg];omega),hN.ret]
   ·have dop:decide ((o.frames[m].vals.length:Int)<(p.node o.frames[m].node).asks)=false:=decide_eq_false hop;rw[if_neg hop];have hfull:(o.frames[m].vals.length:Int)=(p.node o.frames[m].node).asks:=by
     have:=hfo.ok;simp only[bG,aR,bXb,cAg]at this;omega
    have hl:LOk p S w (o.frames.take (o.frames.length-1)):=⟨by simp only[bZc];omega,fun f hf=>hF f (bZt hf),fun f hf=>k6 f (by rw[hz,bY2];exact hf)⟩
    have hD:=bDr hp hsp h ha hl hfo hfull;rw[show o.frames.length-1=m by omega]at hD⊢
    have hml:m<=o.frames.length:=by omega
    refine aL aZo rfl rfl ?_
    simp only[go_sem,qC,qG,qW,aMz]
    refine aO ?_
    simp only[go_sem,qC,qG,qW,rQ ha,hio,bXe,bXf,bXh,bXi,bXg,bXc,if_false];simp only[go_sem,qC,qG,qW,d0,dv',hwt,hmn,bM hni,(rY _).ret,dop]
    refine aO ?_
    cases h0:(o.frames.take m).isEmpty with
    |true=>
     have h0':o.frames.take m=[]:=by simpa using h0
     rw[h0']at hD⊢;simp only[bXv]at hD;simp only[go_sem,qC,qG,qW,pQ,hml,<-bZd,h0',bXv,bXj,dB,hH,lV,hD.ret,bXe,bXf,bXh,bXi,bXg,bXc,if_false]
    |false=>
     have h16:(o.frames.take m).length<=16777216:=by simp only[bZc];omega
     generalize hgm:o.frames.take m=dl at*;simp only[go_sem,qC,qG,qW,pQ,hml,<-bZd,hgm,bXj,dB,hH,hZ,fN,h0,h16,nV,bXd,bXs,cW,bL,hD.ret,bXe,bXf,bXh,bXi,bXg,bXc,if_false]
 ·have d0:decide (o.n=0)=false:=decide_eq_false n0;rw[if_pos n0]
  refine aL aZo rfl rfl ?_
  simp only[go_sem,qC,qG,qW,aMz]
  refine aO ?_
  simp only[go_sem,qC,qG,qW,rQ ha,hio,bXe,bXf,bXh,bXi,bXg,bXc,if_false];simp only[go_sem,qC,qG,qW,d0,oL,lQ,nB]
variable {p :aP}{w0 w:aB}{S:Nat->Prop}{a:Int}
theorem aX5 (x:Int)(n:Nat)(hn:0<n)(hf:n<=1000000):PC L 94 [.int .i64 x,.int .i64 n] (.int .i64 (x%(n:Int))):=by
 refine aL bVf rfl rfl ?_
 have h0: ¬((n:Int)=0):=by omega
 have h1:=Int.emod_nonneg x (show(n:Int)≠0 by omega)
 have h2:=Int.emod_lt_of_pos x (show 0<(n:Int)by omega)
 have e:=Int.tmod_eq_emod (a:=x) (b:=n)
 by_cases hc:0<=x \/(n:Int)∣x
 ·rw[if_pos hc]at e;have d:decide (x.tmod n<0)=false:=decide_eq_false (by omega)
  simp only[go_sem,qC,qG,qW,aZk,h0,d];rw[e];simp
 ·rw[if_neg hc]at e;have d:decide (x.tmod n<0)=true:=decide_eq_true (by omega)
  have hw:IntKind.i64.wrap (x.tmod n+n)=x%n:=by rw[bY (by omega)];omega
  simp only[go_sem,qC,qG,qW,aZk,h0,d,hw]
def bEo (agg:Bool)(off m:Nat):Val->Option Res
 | .agg cs=>if off+m<=cs.length then(gD agg ((cs.drop off).take m)).map fun v=>{v}else none
 |_=>none
section
variable {en :En}{d g:Nat}{get:Opd->Val}
theorem bBb {agg:Bool}{off m:Nat}{x:Opd}:cT d g en get (.fld agg off m x)=bEo agg off m (get x):=(rfl)
theorem aVk {agg:Bool}{off m:Nat}{cs:List Val}:bEo agg off m (.agg cs)=if off+m<=cs.length then(gD agg ((cs.drop off).take m)).map fun v=>{v}else none:=(rfl)
end
theorem bBc (hp:cJ p)(hsp:aT p=true)(h:bP p w0 S w):PC L 92 [.agg [.fz (p.nodes.map aK.enc),.fz (p.funs.map (.int .i64)),.int .i64 p.main,.fz (p.cons.map bE.enc)],.agg [.fz (w.objs.map aI.enc),.fz (w.tasks.map (.int .i64)),.fz (w.outs.map aN.enc),.fz (w.ins.map (.int .i64)),.int .i64 w.used]] (.fz ((mS p w).map (.int .i64))):=by
 refine aL bVe rfl rfl ?_
 have hw:=aDg (aCd hsp h.ok);have ht:w.tasks.length<=130:=by
  obtain⟨a1,a2,a3,a4,a5,a6,a7⟩:=eY.1 h.ok;have:=aCc a5;omega
 simp only[go_sem,qC,qG,qW,bC7]
 refine bD w.tasks.length (fun k st=> ∃fr en cnt v,st=⟨fr,en,cnt⟩/\ fr 2= .ptr ⟨0,2,0⟩ 0/\ en ⟨0,2,0⟩=some (.box [.fz (p.nodes.map aK.enc),.fz (p.funs.map (.int .i64)),.int .i64 p.main,.fz (p.cons.map bE.enc)] false)/\ fr 3= .ptr ⟨0,3,0⟩ 0/\ en ⟨0,3,0⟩=some (.box [.fz (w.objs.map aI.enc),.fz (w.tasks.map (.int .i64)),.fz (w.outs.map aN.enc),.fz (w.ins.map (.int .i64)),.int .i64 w.used] false)/\ fr 5=v/\ fr 6= .int .i64 k/\ cG en v 1 ((pK p w k).map (.int .i64)) [23]) 0 (bXl _) ⟨_,_,_,.cl [],rfl,by simp only[go_sem,qW],by simp only[go_sem,qW],by simp only[go_sem,qW],by simp only[go_sem,qW],by simp only[go_sem,qW],by simp only[go_sem,qW],cG.nil _ _⟩ ?_
 rintro k st hk ⟨fr,en,cnt,v,rfl,k2,e2,k3,e3,k5,k6,hv⟩
 simp only[go_sem,qC,qG,qW,k2,e2,k3,e3,k5,k6]
 refine aA (fun hq=>?_) (fun hq=>?_)
 ·have h':k<w.tasks.length:=of_decide_eq_true hq;have ha:inR (k:Int) 0 ((w.tasks.length:Int)-1)=true:=by simp only[inR,cAg];omega
  have hS:=aE1 hp hsp h ha;have hst:pK p w (k+1)=if(eC p w k).what=2 then pK p w k else pK p w k++[(k:Int)]:=by
   simp only[pK,bY1,bZy,bXw,List.filter_cons,List.filter_nil]
   by_cases hq:(eC p w (k:Int)).what=2<;>simp[hq]
  have hln:(pK p w k).length<=k:=by
   simp only[pK,bXj];exact bYd (List.length_filter_le _ _) (by simp)
  by_cases h2:(eC p w k).what=2
  ·have d2:decide ((eC p w k).what=2)=true:=decide_eq_true h2;rw[if_pos h2]at hst;simp only[go_sem,qC,qG,qW,k2,e2,k3,e3,k5,k6,h',hS.ret,bBb,aVk,d2]
   refine⟨_,_,_,v,rfl,?_⟩
   simp only[go_sem,qC,qG,qW,k2,e2,k3,e3,k5,k6,aJ h' hw.tasks,hst];exact hv
  ·have d2:decide ((eC p w k).what=2)=false:=decide_eq_false h2;rw[if_neg h2]at hst;simp only[go_sem,qC,qG,qW,k2,e2,k3,e3,k5,k6,h',hS.ret,bBb,aVk,d2]
   refine pR (D:=[23]) (xs:=(pK p w k).map (.int .i64)) (ys:=[.int .i64 (k:Int)]) (rs:=[]) ?_ ?_ ?_ ?_ ?_
   ·simp only[go_sem,qW,k5];exact hv
   ·simp only[go_sem,qW]
   ·rfl
   ·simp only[bXj,bXu,bYb];omega
   ·intro v' en' cnt' hown hen hcnt;have q2:en' ⟨0,2,0⟩=some (.box [.fz (p.nodes.map aK.enc),.fz (p.funs.map (.int .i64)),.int .i64 p.main,.fz (p.cons.map bE.enc)] false):=by rw[hen 0 2 0 (.inr ⟨by decide,by simp⟩)];simp only[go_sem,qW,e2]
    have q3:en' ⟨0,3,0⟩=some (.box [.fz (w.objs.map aI.enc),.fz (w.tasks.map (.int .i64)),.fz (w.outs.map aN.enc),.fz (w.ins.map (.int .i64)),.int .i64 w.used] false):=by rw[hen 0 3 0 (.inr ⟨by decide,by simp⟩)];simp only[go_sem,qW,e3]
    simp only[go_sem,qC,qG,qW,k2,q2,k3,q3,k6]
    refine⟨_,_,_,v',rfl,?_⟩
    simp only[go_sem,qC,qG,qW,k2,q2,k3,q3,k6,aJ h' hw.tasks,hst,bXw];exact hown.sub (by simp)
 ·have:k=w.tasks.length:=by simp at hq;omega
  subst this;obtain⟨r1,ks,s1,_,s2,s3,_⟩:=hv.snap 7;simp only[go_sem,qC,qG,qW,k2,e2,k3,e3,k5,k6,s1];exact s3
theorem aJt (h:bP p w0 S w):w.tasks.length<=120:=by
 obtain⟨a1,a2,a3,a4,a5,a6,a7⟩:=eY.1 h.ok;have:=aCc a5;omega
theorem aJu (hp:cJ p)(hsp:aT p=true)(h:bP p w0 S w)(s:Nat)(hs:s<=5001):
  PC L 91 [.agg [.fz (p.nodes.map aK.enc),.fz (p.funs.map (.int .i64)),.int .i64 p.main,.fz (p.cons.map bE.enc)],.agg [.fz (w.objs.map aI.enc),.fz (w.tasks.map (.int .i64)),.fz (w.outs.map aN.enc),.fz (w.ins.map (.int .i64)),.int .i64 w.used],.int .i64 (s:Int)] (.tup [.agg [.fz ((iT p w s).1.objs.map aI.enc),.fz ((iT p w s).1.tasks.map (.int .i64)),.fz ((iT p w s).1.outs.map aN.enc),.fz ((iT p w s).1.ins.map (.int .i64)),.int .i64 (iT p w s).1.used],.int .i64 ((iT p w s).2.1:Nat),.bool (iT p w s).2.2]):=by
 refine aL bVd rfl rfl ?_
 simp only[go_sem,qC,qG,qW,bC6]
 refine bD 121 (fun k st=> ∃fr en cnt x t,st=⟨fr,en,cnt⟩/\ fr 2= .int .i64 ((t:Nat):Int)/\ fr 3= .ptr ⟨0,3,0⟩ 0/\ en ⟨0,3,0⟩=some (.box [.fz (p.nodes.map aK.enc),.fz (p.funs.map (.int .i64)),.int .i64 p.main,.fz (p.cons.map bE.enc)] false)/\ fr 4= .ptr ⟨0,4,0⟩ 0/\ en ⟨0,4,0⟩=some (.box [.fz (x.objs.map aI.enc),.fz (x.tasks.map (.int .i64)),.fz (x.outs.map aN.enc),.fz (x.ins.map (.int .i64)),.int .i64 x.used] false)/\ fr 6= .ptr ⟨0,6,0⟩ 0/\ en ⟨0,6,0⟩=some (.box [.cl [],.cl [],.cl [],.cl [],.int .i64 0] false)/\ fr 9= .int .i64 k/\
  bP p w0 S x/\ t<=5001/\ jH p (121-k) k x t=iT p w s) 0 (bXl _) ⟨_,_,_,w,s,rfl,by simp only[go_sem,qW],by simp only[go_sem,qW],by simp only[go_sem,qW],by simp only[go_sem,qW],by simp only[go_sem,qW],by simp only[go_sem,qW],by simp only[go_sem,qW],by simp only[go_sem,qW],h,hs,rfl⟩ ?_
 rintro k st hk ⟨fr,en,cnt,x,t,rfl,k2,k3,e3,k4,e4,k6,e6,k9,hx,ht,hD⟩
 have hx120:=aJt hx;simp only[go_sem,qC,qG,qW,k2,k3,e3,k4,e4,k6,e6,k9]
 refine aA (fun hq=>?_) (fun hq=>?_)
 ·have h':k<x.tasks.length:=of_decide_eq_true hq;have ha:inR (k:Int) 0 ((x.tasks.length:Int)-1)=true:=by simp only[inR,cAg];omega
  have hS:=aE1 hp hsp hx ha;obtain⟨g10,hg10⟩: ∃g,g=cnt 0 10:=⟨_,rfl⟩
  simp only[go_sem,qC,qG,qW,k2,k3,e3,k4,e4,k6,e6,k9,h',hS.ret,<-hg10];rw[show 121-k=(120-k)+1 by omega,jH,if_pos h']at hD
  refine Go.Abs.wp_loop (fun(j:Nat) st=> ∃fr en cnt y,st=⟨fr,en,cnt⟩/\ fr 2= .int .i64 ((t+j:Nat):Int)/\ fr 3= .ptr ⟨0,3,0⟩ 0/\ en ⟨0,3,0⟩=some (.box [.fz (p.nodes.map aK.enc),.fz (p.funs.map (.int .i64)),.int .i64 p.main,.fz (p.cons.map bE.enc)] false)/\ fr 4= .ptr ⟨0,4,0⟩ 0/\ en ⟨0,4,0⟩=some (.box [.fz (y.objs.map aI.enc),.fz (y.tasks.map (.int .i64)),.fz (y.outs.map aN.enc),.fz (y.ins.map (.int .i64)),.int .i64 y.used] false)/\ fr 6= .ptr ⟨0,6,0⟩ 0/\ en ⟨0,6,0⟩=some (.box [.cl [],.cl [],.cl [],.cl [],.int .i64 0] false)/\ fr 9= .int .i64 k/\ fr 10= .ptr ⟨0,10,g10⟩ 0/\ en ⟨0,10,g10⟩=some (.box [.fz ((eC p y k).w.objs.map aI.enc),.fz ((eC p y k).w.tasks.map (.int .i64)),.fz ((eC p y k).w.outs.map aN.enc),.fz ((eC p y k).w.ins.map (.int .i64)),.int .i64 (eC p y k).w.used,.int .i64 (eC p y k).what,.int .i64 (eC p y k).e.task,.int .i64 (eC p y k).e.act,.int .i64 (eC p y k).e.n,.int .i64 (eC p y k).e.v.kind,.int .i64 (eC p y k).e.v.n] false)/\
   bP p w0 S y/\ t+j<=5001/\ k<y.tasks.length/\ fY p k (5000-t) x=((fY p k (5000-(t+j)) y).1,(fY p k (5000-(t+j)) y).2.1+j,(fY p k (5000-(t+j)) y).2.2)) (fun j=>5001-(t+j)) 0
   ⟨_,_,_,x,rfl,by simp only[go_sem,k2],by simp only[go_sem,k3],by simp only[go_sem,e3],by simp only[go_sem,k4],by simp only[go_sem,e4],by simp only[go_sem,k6],by simp only[go_sem,e6],by simp only[go_sem,k9],by simp only[go_sem,qW],by simp only[go_sem,qW],hx,ht,h',rfl⟩ ?_
  clear k2 k3 e3 k4 e4 k6 e6 k9
  rintro j st ⟨fr,en,cnt,y,rfl,k2,k3,e3,k4,e4,k6,e6,k9,k10,e10,hy,htj,hky,hI⟩
  have hay:inR (k:Int) 0 ((y.tasks.length:Int)-1)=true:=by simp only[inR,cAg];omega
  by_cases h0:(eC p y k).what=0
  ·have d0:decide ((eC p y k).what=0)=true:=decide_eq_true h0;have hw1:IntKind.i64.wrap (((t+j:Nat):Int)+1)=((t+j+1:Nat):Int):=by rw[bY (by omega)];omega
   by_cases h5:5000<t+j+1
   ·have d5:decide ((5000:Int)<((t+j+1:Nat):Int))=true:=decide_eq_true (by omega)
    have hI0:fY p k (5000-t) x=(y,1+j,false):=by rw[hI,show 5000-(t+j)=0 by omega,fY,if_pos h0]
    rw[hI0]at hD;simp only[bXc,if_false]at hD;rw[<-hD,show t+(1+j)=t+j+1 by omega]
    simp only[go_sem,qC,qG,qW,k2,k3,e3,k4,e4,k6,e6,k9,k10,e10,d0,hw1,d5]
   ·have d5:decide ((5000:Int)<((t+j+1:Nat):Int))=false:=decide_eq_false (by omega)
    have hy':=tV hp hy hay;have hky':k<(eC p y k).w.tasks.length:=bYg hky (aHp hp hy hay);have hS2:=aE1 hp hsp hy' (a:=k) (by simp only[inR,cAg];omega)
    simp only[go_sem,qC,qG,qW,k2,k3,e3,k4,e4,k6,e6,k9,k10,e10,d0,hw1,d5,hS2.ret]
    refine⟨j+1,⟨_,_,_,(eC p y k).w,rfl,?_⟩,by omega⟩
    simp only[go_sem,qC,qG,qW,k2,k3,e3,k4,e4,k6,e6,k9,k10,e10]
    refine⟨by rw[bY4],hy',by omega,hky',?_⟩
    rw[hI,show 5000-(t+j)=(5000-(t+(j+1)))+1 by omega,fY,if_pos h0]
    simp only[bY4,Nat.add_comm 1 j]
  ·have d0:decide ((eC p y k).what=0)=false:=decide_eq_false h0;have hin: ∀m,fY p k m y=(y,0,true):=fun m=>by cases m<;>(rw[fY,if_neg h0])
   rw[hI,hin]at hD;simp only[if_true,bX2]at hD;simp only[go_sem,qC,qG,qW,k2,k3,e3,k4,e4,k6,e6,k9,k10,e10,d0]
   refine⟨by omega,_,_,_,y,t+j,rfl,?_⟩
   simp only[go_sem,qC,qG,qW,k2,k3,e3,k4,e4,k6,e6,k9,aJ (show k<121 by omega) (show Few 121 by unfold Few;omega)]
   exact⟨hy,htj,by rw[show 121-(k+1)=120-k by omega];exact hD⟩
 ·have hn: ¬k<x.tasks.length:=of_decide_eq_false hq;have hD':iT p w s=(x,t,true):=by
   rw[<-hD];cases hm:121-k with
   |zero=>rfl
   |succ m=>rw[jH,if_neg hn]
  rw[hD'];simp only[go_sem,qC,qG,qW,k2,k3,e3,k4,e4,k6,e6,k9]
theorem aHt {p:aP}: ∀(n:Nat) {a:Nat} {w:aB} {s:Nat},(jH p n a w s).2.2=true->(jH p n a w s).2.1<=max s 5000
 |0,_,_,s,_=>by simp only[jH];omega
 |n+1,a,w,s,h=>by
  obtain⟨h1,h2⟩:=xW (p:=p) (a:=a) (5000-s) w;unfold jH at h⊢;split
  ·rename_i ha;rw[if_pos ha]at h;split
   ·rename_i hb;rw[if_pos hb]at h;have:=aHt n h;have:=h2 hb;omega
   ·rename_i hb;rw[if_neg hb]at h;cases h
  ·simp only;omega
theorem bDs (hp:cJ p)(hsp:aT p=true)(h:bP p w0 S w)(pick:Int):
  PC L 47 [.agg [.fz (p.nodes.map aK.enc),.fz (p.funs.map (.int .i64)),.int .i64 p.main,.fz (p.cons.map bE.enc)],.agg [.fz (w.objs.map aI.enc),.fz (w.tasks.map (.int .i64)),.fz (w.outs.map aN.enc),.fz (w.ins.map (.int .i64)),.int .i64 w.used],.int .i64 pick] (.tup [.agg [.fz ((nW p w pick).1.objs.map aI.enc),.fz ((nW p w pick).1.tasks.map (.int .i64)),.fz ((nW p w pick).1.outs.map aN.enc),.fz ((nW p w pick).1.ins.map (.int .i64)),.int .i64 (nW p w pick).1.used],.agg [.int .i64 (nW p w pick).2.1.task,.int .i64 (nW p w pick).2.1.act,.int .i64 (nW p w pick).2.1.n,.int .i64 (nW p w pick).2.1.v.kind,.int .i64 (nW p w pick).2.1.v.n],.int .i64 ((nW p w pick).2.2.1:Nat),.int .i64 (nW p w pick).2.2.2]):=by
 have hS:=aJu hp hsp h 0 (by omega)
 have h1:=xV hp (s:=0) h;have hc:=aHt (p:=p) 121 (a:=0) (w:=w) (s:=0);rw[show((0:Nat):Int)=0 from rfl]at hS
 have hR:=bBc hp hsp h1;unfold nW
 simp only
 refine aL bUo rfl rfl ?_
 have hq1:iT p w 0=jH p 121 0 w 0:=rfl;rw[<-hq1]at hc;generalize hq:iT p w 0=q at hS h1 hR hc⊢;obtain⟨x,s1,ok⟩:=q;dsimp only at hS h1 hR hc⊢;cases ok with
 |false=>
  rw[if_pos rfl];simp only[go_sem,qC,qG,qW,aWe,hS.ret,lQ,nB]
 |true=>
  rw[if_neg (by decide)]
  have hx120:=aJt h1
  by_cases hl:mS p x=[]
  ·rw[if_pos hl];rw[hl,bXv]at hR;simp only[go_sem,qC,qG,qW,aWe,hS.ret,hR.ret,bYb,lQ,nB]
  ·rw[if_neg hl];have hll:(mS p x).length<=120:=by
    simp only[mS,pK,bXj];exact bYd (List.length_filter_le _ _) (by simpa using hx120)
   have hl0:0<(mS p x).length:=bZ9.2 hl;have dl:decide (((mS p x).length:Int)=0)=false:=decide_eq_false (by omega)
   have hMo:=aX5 pick (mS p x).length hl0 (by omega)
   have hpi:=aVf hl pick;have hem:=Int.emod_nonneg pick (show((mS p x).length:Int)≠0 by omega)
   have hin:inR (pick%((mS p x).length:Int)) 0 (((mS p x).length:Int)-1)=true:=by
    simp only[inR,cAg];omega
   have ha:=aOt (lR (d:=0) hpi);have hSt:=aE1 hp hsp h1 ha;have h2:=tV hp h1 ha;generalize hd:eC p x ((mS p x).getD (pick%((mS p x).length:Int)).toNat 0)=d at hSt h2⊢;have hc':=hc rfl;have hw1:IntKind.i64.wrap ((s1:Int)+1)=((s1+1:Nat):Int):=by rw[bY (by omega)];omega
   have hS2:=aJu hp hsp h2 (s1+1) (by omega)
   have hc2:=zM (p:=p) 121 (a:=0) (w:=d.w) (s:=s1+1) (by omega)
   have hq2:iT p d.w (s1+1)=jH p 121 0 d.w (s1+1):=rfl;rw[<-hq2]at hc2;generalize hqq:iT p d.w (s1+1)=q at hS2 hc2⊢;obtain⟨y,s2,ok2⟩:=q;dsimp only at hS2 hc2⊢;simp only[go_sem,qC,qG,qW,aWe,hS.ret,hR.ret,dl]
   refine aO ?_
   simp only[go_sem,qC,qG,qW,bXj,hMo.ret,sQ hin,hSt.ret,bXe,bXf,bXh,bXi,bXg,bXc,if_false];cases ok2 with
   |false=>
    rw[if_pos (.inl rfl)];simp only[go_sem,qC,qG,qW,hw1,hS2.ret,lQ,nB]
   |true=>
    by_cases h5:5000<s2
    ·have d5:decide ((5000:Int)<(s2:Int))=true:=decide_eq_true (by omega)
     rw[if_pos (.inr h5)];simp only[go_sem,qC,qG,qW,hw1,hS2.ret,d5,lQ,nB]
    ·have d5:decide ((5000:Int)<(s2:Int))=false:=decide_eq_false (by omega)
     rw[if_neg (by rintro(h|h);cases h;exact h5 h)]
     simp only[go_sem,qC,qG,qW,hw1,hS2.ret,d5]
     refine aO ?_
     simp only[go_sem,qC,qG,qW,bXe,bXf,bXh,bXi,bXg,bXc,if_false]
theorem aQ6 (p:aP)(w:aB)(pick:Int):(nW p w pick).2.2.2=0 \/(nW p w pick).2.2.2=5 \/(nW p w pick).2.2.2=8:=by
 unfold nW
 simp only
 split
 ·exact .inr (.inr rfl)
 ·split
  ·exact .inr (.inl rfl)
  ·split
   ·exact .inr (.inr rfl)
   ·exact .inl rfl
theorem aQ7 {p:aP}{s:aX}{w:aB}(hp:p.few)(hf:s.few)(hsp:aT p=true)(hs:bO s=true)(h:cE p s=true)(hF:bP p s.world (fun _=>True) w):
  (cK s w).few/\ bO (cK s w)=true/\ cE p (cK s w)=true/\ eW (cK s w).marks<=eW s.marks+kO s w w.objs.length/\ kO s w w.objs.length<=120/\
  PC L 36 [.agg [.fz (p.nodes.map aK.enc),.fz (p.funs.map (.int .i64)),.int .i64 p.main,.fz (p.cons.map bE.enc)],.agg [.fz (s.world.objs.map aI.enc),.fz (s.world.tasks.map (.int .i64)),.fz (s.world.outs.map aN.enc),.fz (s.world.ins.map (.int .i64)),.int .i64 s.world.used,.fz (s.ages.map (.int .i64)),.fz (s.marks.map (.int .i64)),.int .i64 s.cycle],.agg [.fz (w.objs.map aI.enc),.fz (w.tasks.map (.int .i64)),.fz (w.outs.map aN.enc),.fz (w.ins.map (.int .i64)),.int .i64 w.used]] (.tup [.agg [.fz ((cK s w).world.objs.map aI.enc),.fz ((cK s w).world.tasks.map (.int .i64)),.fz ((cK s w).world.outs.map aN.enc),.fz ((cK s w).world.ins.map (.int .i64)),.int .i64 (cK s w).world.used,.fz ((cK s w).ages.map (.int .i64)),.fz ((cK s w).marks.map (.int .i64)),.int .i64 (cK s w).cycle],.int .i64 (kO s w w.objs.length:Nat),.int .i64 0]):=by
 obtain⟨hgv,hm,_,_,_,_⟩:=eB.1 h;have hgw:eV p w=true:=by
  simp only[eV,bXb]at hgv⊢;exact⟨hgv.1,hF.ok⟩
 have hsw:=aCd hsp hF.ok;have hwf:=aDg hsw;have hfo:=aB5 hF;have hT:=aGx p s w hp hf hwf hsp hs hsw;rw[if_pos ⟨h,hgw⟩,if_pos hfo]at hT;have hok:=aB1 h hgw hfo;have hl:=tT hok;have hc:=aJc s w w.objs.length;have hle:=hF.le;have hml:=hm.len;have hwl:(cK s w).world.objs.length=w.objs.length:=rfl;exact⟨aG9 hwf,aB2 hsw,hok,aLn (by omega),by omega,hT⟩
end Go.Proofs.YthpmfghgoabnhaaGreat
