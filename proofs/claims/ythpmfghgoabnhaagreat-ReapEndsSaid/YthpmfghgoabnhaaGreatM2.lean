/- Contracts of functions of the program and of the document: part 2. -/
import Derived.Test.YthpmfghgoabnhaaGreatM1
set_option linter.all false
open Bool renaming and_eq_true → bVc, and_false → bWn, and_true → bW7, false_and → bV5, false_eq_true → bVd, false_or → bWz, not_eq_false' → bX2, not_eq_true → bWi, not_eq_true' → bWh, not_false → bVz, not_not → bXj, not_true → bVq, or_true → bVi, true_and → bVy, true_or → bVj
open Int renaming toNat_natCast → bV3, toNat_of_nonneg → bXr
open List renaming all_cons → bVf, all_eq_false → bX3, all_eq_true → bVo, any_eq_true → bXk, drop_eq_getElem_cons → bWc, drop_length → bW8, ext_getElem → bXq, foldl_cons → bW3, foldl_nil → bXo, getD_eq_getElem?_getD → bVm, getElem?_cons_succ → bVh, getElem?_cons_zero → bVg, getElem?_eq_getElem → bWo, getElem_map → bXs, getElem_mem → bVp, length_cons → bVu, length_map → bVk, length_nil → bWa, length_take → bXc, map_append → bVx, map_congr_left → bWy, map_cons → bV9, map_nil → bVv, map_set → bW0, map_take → bXh, mem_append → bV6, mem_cons → bWe, mem_filter → bW5, mem_flatMap → bWt, mem_map → bV4, mem_of_mem_take → bXp, mem_range → bW4, mem_singleton → bWk, nil_append → bWv, not_all_eq_any_not → bXi, range_succ → bWr, take_length → bWf, take_of_length_le → bVw
open Nat renaming le_refl → bVe, zero_add → bWb, zero_le → bVn
open Option renaming getD_some → bV0
namespace Go.Proofs.YthpmfghgoabnhaaGreat
open Go.Abs Go.Proofs
theorem aFl (l:List ByteArray)(hl:Few l.length):PC L 201 [.fz (l.map .str)] (.bool (jY [] l)):=by
 refine aL bI1 rfl rfl ?_
 simp only[go_sem,qC,qG,qW,aRl]
 refine bF l.length (fun k st=> ∃fr en cnt ks vs,st=⟨fr,en,cnt⟩/\ fr 0= .fz (l.map .str)/\ fr 3= .mp ⟨0,6,0⟩/\ fr 7= .fz (l.map .str)/\ fr 8= .int .i64 l.length/\ fr 9= .int .i64 k/\ en ⟨0,6,0⟩=some (.map (List.map Val.str ks) vs false)/\ (l.drop k).foldl sH ks=l.foldl sH []) 0 (bVn _) ⟨_,_,_,[],[],rfl,by simp only[go_sem,qW],by simp only[go_sem,qW],by simp only[go_sem,qW],by simp only[go_sem,qW],by simp only[go_sem,qW],by simp only[go_sem,qW],rfl⟩ ?_
 rintro k st hk ⟨fr,en,cnt,ks,vs,rfl,h0,h3,h7,h8,h9,e6,hI⟩
 simp only[go_sem,qC,qG,qW,h0,h3,h7,h8,h9]
 refine aA (fun hq=>?_) (fun hq=>?_)
 ·have h':k<l.length:=of_decide_eq_true hq;rw[bWc h',bW3,sH]at hI;rcases aC5 l[k] ks with⟨i,f1,f2,f3⟩|⟨f1,f2⟩
  ·rw[f2]at hI;simp only[go_sem,qC,qG,qW,h',h0,h3,h7,h8,h9,e6,f1,f3]
   refine⟨_,_,_,ks,vs.set i (.bool true),rfl,?_⟩
   simp only[go_sem,qC,qG,qW,h0,h3,h7,h8,h9,aK h' hl]
   simpa using hI
  ·rw[f2]at hI;simp only[go_sem,qC,qG,qW,h',h0,h3,h7,h8,h9,e6,f1]
   refine⟨_,_,_,ks++[l[k]],vs++[.bool true],rfl,?_⟩
   simp only[go_sem,qC,qG,qW,h0,h3,h7,h8,h9,aK h' hl]
   refine⟨by simp,?_⟩
   simpa using hI
 ·have:k=l.length:=by simp at hq;omega
  subst this;simp only[bW8,bXo]at hI;simp only[go_sem,qC,qG,qW,h0,h3,e6];have:=aAo l [];rw[<-this,<-hI];simp
theorem aAr {en:En}{v:Val}{size:Nat}{xs:List Val}{D:List Nat}(h:cE en v size xs D): ∃r ks,snapD 8 en v=some (r,ks)/\ r.wk= .fz xs/\ r.wk1= .fz xs:=by
 obtain⟨r,ks,h1,_,h2,h3,_⟩:=h.snap 7;exact⟨r,ks,h1,h3,h2⟩
theorem aFm (l:List bC)(hl:l.length<=1000):PC L 202 [.fz (l.map bC.enc),.fn 203 [] []] (.fz (l.map fun c=> .str c.name)):=by
 have hf:Few l.length:=by unfold Few;omega
 refine aL bI2 rfl rfl ?_
 simp only[go_sem,qC,qG,qW,aRm]
 refine bF l.length (fun k st=> ∃fr en cnt,st=⟨fr,en,cnt⟩/\ fr 1= .fn 203 [] []/\ fr 8= .fz (l.map bC.enc)/\ fr 9= .int .i64 l.length/\ fr 10= .int .i64 k/\ cE en (fr 5) 1 ((l.take k).map fun c=> .str c.name) [19]) 0 (bVn _) ⟨_,_,_,rfl,by simp only[go_sem,qW],by simp only[go_sem,qW],by simp only[go_sem,qW],by simp only[go_sem,qW],by simp only[go_sem,qW];exact cE.nil _ _⟩ ?_
 rintro k st hk ⟨fr,en,cnt,rfl,h1,h8,h9,h10,h5⟩
 simp only[go_sem,qC,qG,qW,h1,h8,h9,h10]
 refine aA (fun hq=>?_) (fun hq=>?_)
 ·have h':k<l.length:=of_decide_eq_true hq;simp only[go_sem,qC,qG,qW,h',h1,h8,h9,h10,(rL _).ret]
  refine pF (D:=[19]) (xs:=(l.take k).map fun c=>Val.str c.name) (ys:=[.str l[k].name]) (rs:=[]) ?_ ?_ ?_ ?_ ?_
  ·simp only[go_sem,qW];exact h5.keep fun t g ht=>by simp at ht;subst ht;simp only[go_sem,qW]
  ·simp only[go_sem,qW]
  ·rfl
  ·simp;omega
  ·intro v en' cnt' hown hen hcnt;simp only[go_sem,qC,qG,qW,h',h1,h8,h9,h10]
   refine⟨_,_,_,rfl,?_⟩
   simp only[go_sem,qC,qG,qW,h',h1,h8,h9,h10,aK h' hf];exact cE.sub (by rw[dE h',bVx];exact hown) (by simp)
 ·have:k=l.length:=by simp at hq;omega
  subst this;rw[bWf]at h5;simp only[go_sem,qC,qG,qW];obtain⟨r,ks,e1,e2,_⟩:=aAr h5;simp only[go_sem,qC,qG,qW,e1,e2]
theorem aL7 {u:List Int}{n:Nat}{x:Int}(hu:u.length=n)(h:inR x 0 ((n:Int)-1)=true):0<=x/\ x<(n:Int)/\ (u.map (Val.int .i64))[x.toNat]?=some (.int .i64 (u.getD x.toNat 0)):=by
 simp only[inR,bYb]at h;have hx:x.toNat<u.length:=by omega
 exact⟨by omega,by omega,by simp[bVm,hx]⟩
theorem uD (p:aQ)(hp:p.few)(hs:p.cons.length<=1000)(hm: ∀n∈p.nodes,n.pats.length<=1000):PC L 175 [.agg [.fz (p.nodes.map aJ.enc),.fz (p.funs.map (.int .i64)),.int .i64 p.main,.fz (p.cons.map bC.enc)]] (.bool (uB p)):=by
 have w1:=dD hp.nodes;have w2:=dD hp.funs;have ask1:cY L (fun x:bC=> .agg [.str x.name,.int .i64 x.args]) (.fn 200 [] []) rS p.cons:=by
  refine⟨fun n en hn=>?_,rfl,rfl,rfl,fun x hx en K hK=>?_⟩
  ·obtain⟨m,rfl⟩: ∃m,n=m+4:=⟨n-4,by omega⟩
   simp only[go_sem,qW]
  ·simp only[go_sem,qW,(aL5 x).ret];exact hK
 have ask2:cY L (fun x:aJ=> .agg [.int .i64 x.op,.int .i64 x.n,.fz (x.kids.map (.int .i64)),.fz (x.pats.map Pat.enc)]) (.fn 205 [.agg [.fz (p.nodes.map aJ.enc),.fz (p.funs.map (.int .i64)),.int .i64 p.main,.fz (p.cons.map bC.enc)]] []) (eC p) p.nodes:=by
  refine⟨fun n en hn=>?_,rfl,rfl,rfl,fun x hx en K hK=>?_⟩
  ·obtain⟨m,rfl⟩: ∃m,n=m+4:=⟨n-4,by omega⟩
   simp only[go_sem,qW]
  ·simp only[go_sem,qW,(wF p x hp (hp.node x hx) (hm x hx)).ret];exact hK
 have hd:=aFl (p.cons.map bC.name) (by simpa using hp.cons)
 rw[show(p.cons.map bC.name).map Val.str=p.cons.map fun c=>Val.str c.name by simp]at hd
 refine aL bIk rfl rfl ?_
 simp only[go_sem,qC,qG,qW,aQ6,w1,w2]
 repeat' ((first|with_reducible refine aA (fun h=>?_) (fun h=>?_)|with_reducible refine aE (fun h=>?_) (fun h=>?_))<;>(try simp only[bYb,bYc,bVq,bVz]at h)<;>try simp only[go_sem,qC,qG,qW, *,(jP _ _ _).ret,(rK _ _ _ hp.cons ask1).ret,(aFm _ hs).ret,hd.ret,(qT _ _ _ hp.nodes ask2).ret])
 all_goals (try simp only[bWh,bX2,Int.not_lt,Int.not_le]at*)
 all_goals try(simp[uB, *];done)
 all_goals try(simp[uB, *];intros;omega)
 have hn:p.nodes.length<=16777216:=by omega
 have hfo:uB p=wD ((qU 0 (p.nodes.length-1) (List.replicate p.nodes.length 0) p.funs).bind fun u=>iR p 0 u p.nodes):=by
  simp[uB, *];intros;omega
 rw[hfo];clear hfo;simp only[go_sem,qC,qG,qW,aN4 hn]
 refine bF p.funs.length (fun k st=> ∃fr en cnt u,st=⟨fr,en,cnt⟩/\ (fr 1= .ptr ⟨0,1,0⟩ 0/\ en ⟨0,1,0⟩=some (.box p.cells false)/\ fr 3= .int .i64 p.nodes.length/\ fr 4= .bl ⟨0,74,0⟩ 0 p.nodes.length/\ en ⟨0,74,0⟩=some (.blk 1 (u.map (Val.int .i64)) false)/\ u.length=p.nodes.length)/\ fr 77= .fz (p.funs.map (.int .i64))/\ fr 78= .int .i64 p.funs.length/\ fr 79= .int .i64 k/\ qU 0 (p.nodes.length-1) u (p.funs.drop k)=qU 0 (p.nodes.length-1) (List.replicate p.nodes.length 0) p.funs) 0 (bVn _) ⟨_,_,_,List.replicate p.nodes.length 0,rfl,⟨by simp only[go_sem,qW],by simp only[go_sem,qW],by simp only[go_sem,qW],by simp only[go_sem,qW],by simp only[go_sem,List.map_replicate],by simp⟩,by simp only[go_sem,qW],by simp only[go_sem,qW],by simp only[go_sem,qW],rfl⟩ ?_
 rintro k st hk ⟨fr,en,cnt,u,rfl,⟨h1,e1,h3,h4,eu,hu⟩,h77,h78,h79,hI⟩
 simp only[go_sem,qC,qG,qW,h77,h78,h79]
 refine aA (fun hq=>?_) (fun hq=>?_)
 ·have h':k<p.funs.length:=of_decide_eq_true hq;rw[bWc h',qU]at hI;simp only[go_sem,qC,qG,qW,h',h1,e1,h3,h4,eu,h77,h78,h79,(jP _ _ _).ret,w1]
  refine aA (fun hb=>?_) (fun hb=>?_)
  ·simp only[go_sem,qC,qG,qW]
   simp at hb
   rw[hb]at hI
   simp at hI
   rw[<-hI];rfl
  ·simp at hb
   obtain⟨a1,a2,a3⟩:=aL7 hu hb;rw[hb]at hI
   simp at hI
   simp only[go_sem,qC,qG,qW,h',h1,e1,h3,h4,eu,h77,h78,h79,a1,a2,a3]
   refine⟨_,_,_,u.set p.funs[k].toNat (IntKind.i64.wrap (u.getD p.funs[k].toNat 0+1)),rfl,?_⟩
   simp only[go_sem,qC,qG,qW,h',h1,e1,h3,h4,eu,h77,h78,h79,a1,a2,a3,<-bW0,aK h' hp.funs];exact⟨by simp[hu],by simpa using hI⟩
 ·have:k=p.funs.length:=by simp at hq;omega
  subst this;rw[bW8,qU]at hI;rw[<-hI];simp only[Option.bind_some];clear hq hI hk;generalize hM:iR p 0 u p.nodes=M;simp only[go_sem,qC,qG,qW,h1,e1,h3]
  refine bF p.nodes.length (fun k st=> ∃fr en cnt u,st=⟨fr,en,cnt⟩/\ (fr 1= .ptr ⟨0,1,0⟩ 0/\ en ⟨0,1,0⟩=some (.box p.cells false)/\ fr 3= .int .i64 p.nodes.length/\ fr 4= .bl ⟨0,74,0⟩ 0 p.nodes.length/\ en ⟨0,74,0⟩=some (.blk 1 (u.map (Val.int .i64)) false)/\ u.length=p.nodes.length)/\ fr 97= .fz (p.nodes.map aJ.enc)/\ fr 98= .int .i64 p.nodes.length/\ fr 99= .int .i64 k/\ iR p k u (p.nodes.drop k)=M) 0 (bVn _) ⟨_,_,_,u,rfl,⟨by simp only[go_sem,h1,e1,h3,h4,eu,hu],by simp only[go_sem,h1,e1,h3,h4,eu,hu],by simp only[go_sem,h1,e1,h3,h4,eu,hu],by simp only[go_sem,h1,e1,h3,h4,eu,hu],by simp only[go_sem,h1,e1,h3,h4,eu,hu],hu⟩,by simp only[go_sem,qW],by simp only[go_sem,qW],by simp only[go_sem,qW],hM⟩ ?_
  clear hM h1 e1 h3 h4 eu hu h77 h78 h79
  rintro k st hk ⟨fr,en,cnt,u,rfl,⟨h1,e1,h3,h4,eu,hu⟩,h97,h98,h99,hI⟩
  simp only[go_sem,qC,qG,qW,h97,h98,h99]
  refine aA (fun hq=>?_) (fun hq=>?_)
  ·have h':k<p.nodes.length:=of_decide_eq_true hq;have hx:=hp.node p.nodes[k] (bVp _);rw[bWc h',iR]at hI;generalize hmm:qU ((k:Int)+1) (p.nodes.length-1) u p.nodes[k].kids=m at hI;simp only[go_sem,qC,qG,qW,h',h1,e1,h3,h97,h98,h99]
   refine bF p.nodes[k].kids.length (fun j st=> ∃fr en cnt u,st=⟨fr,en,cnt⟩/\ (fr 1= .ptr ⟨0,1,0⟩ 0/\ en ⟨0,1,0⟩=some (.box p.cells false)/\ fr 3= .int .i64 p.nodes.length/\ fr 4= .bl ⟨0,74,0⟩ 0 p.nodes.length/\ en ⟨0,74,0⟩=some (.blk 1 (u.map (Val.int .i64)) false)/\ u.length=p.nodes.length)/\ fr 7= .int .i64 k/\ fr 97= .fz (p.nodes.map aJ.enc)/\ fr 98= .int .i64 p.nodes.length/\ fr 99= .int .i64 k/\ fr 105= .fz (p.nodes[k].kids.map (.int .i64))/\ fr 106= .int .i64 p.nodes[k].kids.length/\ fr 107= .int .i64 j/\ qU ((k:Int)+1) (p.nodes.length-1) u (p.nodes[k].kids.drop j)=m) 0 (bVn _) ⟨_,_,_,u,rfl,⟨by simp only[go_sem,h1,e1,h3,h4,eu,hu],by simp only[go_sem,h1,e1,h3,h4,eu,hu],by simp only[go_sem,h1,e1,h3,h4,eu,hu],by simp only[go_sem,h1,e1,h3,h4,eu,hu],by simp only[go_sem,h1,e1,h3,h4,eu,hu],hu⟩,by simp only[go_sem,qW],by simp only[go_sem,h97],by simp only[go_sem,h98],by simp only[go_sem,h99],by simp only[go_sem,qW],by simp only[go_sem,qW],by simp only[go_sem,qW],hmm⟩ ?_
   clear hmm h1 e1 h3 h4 eu hu h97 h98 h99
   rintro j st hj ⟨fr,en,cnt,u,rfl,⟨h1,e1,h3,h4,eu,hu⟩,h7,h97,h98,h99,h105,h106,h107,hJ⟩
   simp only[go_sem,qC,qG,qW,h105,h106,h107]
   refine aA (fun h2=>?_) (fun h2=>?_)
   ·have h2':j<p.nodes[k].kids.length:=of_decide_eq_true h2;rw[bWc h2',qU]at hJ;have w3:IntKind.i64.wrap ((k:Int)+1)=(k:Int)+1:=bM (by omega)
    simp only[go_sem,qC,qG,qW,h2',h3,h7,h105,h106,h107,(jP _ _ _).ret,w1,w3]
    refine aA (fun hc=>?_) (fun hc=>?_)
    ·simp only[go_sem,qC,qG,qW]
     simp at hc
     rw[hc]at hJ
     simp at hJ
     rw[<-hI,<-hJ];rfl
    ·simp at hc
     have hc0:inR p.nodes[k].kids[j] 0 ((p.nodes.length:Int)-1)=true:=by simp[inR]at hc⊢;omega
     obtain⟨a1,a2,a3⟩:=aL7 hu hc0;rw[hc]at hJ
     simp at hJ
     simp only[go_sem,qC,qG,qW,h2',h1,e1,h3,h4,eu,h7,h97,h98,h99,h105,h106,h107,a1,a2,a3]
     refine⟨_,_,_,u.set p.nodes[k].kids[j].toNat (IntKind.i64.wrap (u.getD p.nodes[k].kids[j].toNat 0+1)),rfl,?_⟩
     simp only[go_sem,qC,qG,qW,h2',h1,e1,h3,h4,eu,h7,h97,h98,h99,h105,h106,h107,a1,a2,a3,<-bW0,aK h2' hx.kids];exact⟨by simp[hu],by simpa using hJ⟩
   ·have:j=p.nodes[k].kids.length:=by simp at h2;omega
    subst this;rw[bW8,qU]at hJ;rw[<-hJ]at hI;simp only[Option.bind_some]at hI;simp only[go_sem,qC,qG,qW,h',h1,e1,h3,h4,eu,h97,h98,h99]
    refine⟨_,_,_,u,rfl,?_⟩
    simp only[go_sem,qC,qG,qW,h1,e1,h3,h4,eu,h97,h98,h99,hu,aK h' hp.nodes];exact hI
  ·have:k=p.nodes.length:=by simp at hq;omega
   subst this;rw[bW8,iR]at hI;rw[<-hI];have ask3:cY L (fun x:Int=> .int .i64 x) (.fn 207 [] []) (fun c=>decide (c=1)) u:=by
    refine⟨fun n en hn=>?_,rfl,rfl,rfl,fun x hx en K hK=>?_⟩
    ·obtain⟨m,rfl⟩: ∃m,n=m+4:=⟨n-4,by omega⟩
     simp only[go_sem,qW]
    ·simp only[go_sem,qW,(rM x).ret];exact hK
   have ht:List.take p.nodes.length (u.map (Val.int .i64))=u.map (Val.int .i64):=bVw (by simp[hu])
   simp only[go_sem,qC,qG,qW,h4,eu,hu,bVe,ht,(aAp u _ _ (by rw[hu];exact hp.nodes) ask3).ret]
   rfl
theorem yI (p:aQ)(hp:p.few)(hs:aT p=true):PC L 141 [.agg [.fz (p.nodes.map aJ.enc),.fz (p.funs.map (.int .i64)),.int .i64 p.main,.fz (p.cons.map bC.enc)]] (.int .i64 (if fU p then 0 else 2)):=by
 have hs':=hs;simp only[aT,bVc,bYb]at hs';obtain⟨⟨⟨⟨h1,h2⟩,h3⟩,h4⟩,h5⟩:=hs';have hm: ∀n∈p.nodes,n.pats.length<=1000:=by
  intro n hn;have:=bVo.1 h5 n hn;simp only[fE,bVc,bYb]at this;omega
 have h:=uD p hp (by omega) hm
 rw[aL6 p hs]at h
 refine aL bH0 rfl rfl ?_
 simp only[go_sem,qC,qG,qW,aQn,h.ret];cases hf:fU p<;>simp only[go_sem,qC,qG,qW,hf,bVq,bVz]
def kU (out:List Int)(v:aG):List Int:=if(lQ v&&!out.any (fun x=>decide (x=v.n)))=true then out++[v.n]else out
def fF (out:List Int)(l:List aG):List Int:=l.foldl kU out
def kV (o:aI):List Int:=o.frames.foldl (fun out f=>fF (fF out f.env) f.vals) (fF [] o.vals)
theorem aJh (out:List Int)(v:aG):(kU out v).length<=out.length+1:=by unfold kU;split<;>simp
theorem qE : ∀(l:List aG) (out:List Int),(fF out l).length<=out.length+l.length
 |[],out=>by simp[fF]
 |v::l,out=>by
  have h1:=qE l (kU out v);have h2:=aJh out v;simp only[fF,bW3,bVu]at h1⊢;omega
theorem aOk {l:List aG}{out:List Int}{k:Nat}(h:k<l.length):fF out (l.take (k+1))=kU (fF out (l.take k)) l[k]:=by
 rw[dE h];simp only[fF,List.foldl_append,bW3,bXo]
theorem aFn (out:List Int)(l:List aG){v:Val}{en:En}{cnt:Nat->Nat->Nat}{D:List Nat}(hD:35∈D)(hm:cE en v 1 (out.map (.int .i64)) D)(hb:out.length+l.length<=16777216):
  WIn L (.fn 114 [] []) [v,.fz (l.map aG.enc)] en cnt fun r en' cnt'=>
   cE en' r 1 ((fF out l).map (.int .i64)) D/\ (∀n t g,n≠0 \/(t∉D/\ t≠34)->en' ⟨n,t,g⟩=en ⟨n,t,g⟩):=by
 have hf:Few l.length:=by unfold Few;omega
 obtain⟨en0,hen0⟩: ∃e,e=en:=⟨_,rfl⟩
 refine mX bHk rfl rfl ?_
 simp only[go_sem,qC,qG,qW,aP8]
 refine bF l.length (fun k st=> ∃fr en cnt,st=⟨fr,en,cnt⟩/\ fr 1= .fz (l.map aG.enc)/\ fr 5= .int .i64 k/\ cE en (fr 0) 1 ((fF out (l.take k)).map (.int .i64)) D/\ (∀n t g,n≠0 \/(t∉D/\ t≠34)->en ⟨n,t,g⟩=en0 ⟨n,t,g⟩)) 0 (bVn _) ⟨_,_,_,rfl,by simp only[go_sem,qW],by simp only[go_sem,qW],by simp only[go_sem,qW];simpa[fF]using hm,fun n t g h=>by rw[hen0]⟩ ?_
 rintro k st hk ⟨fr,en,cnt,rfl,h1,h5,h0,hI⟩
 simp only[go_sem,qC,qG,qW,h1,h5]
 refine aA (fun h=>?_) (fun h=>?_)
 ·have h':k<l.length:=of_decide_eq_true h;have hlen:=qE (l.take k) out;rw[bXc]at hlen;have hs:=aOk (out:=out) h';obtain⟨r,ks,s1,s2,s3⟩:=aAr h0;simp only[go_sem,qC,qG,qW,h',h1,h5]
  refine aE (fun hg=>?_) (fun hg=>?_)
  ·have hx:lQ l[k]=true:=hg;have hd:=aGp (fF out (l.take k)) l[k].n (by unfold Few;omega)
   simp only[go_sem,qC,qG,qW,hg,h',h1,h5,s1,s3,hd.ret]
   refine aA (fun h2=>?_) (fun h2=>?_)
   ·have hs2:fF out (l.take (k+1))=fF out (l.take k)++[l[k].n]:=by rw[hs,kU,if_pos (by rw[hx];simpa using h2)]
    simp only[go_sem,qC,qG,qW,h',h1,h5]
    refine pF (D:=D) (xs:=(fF out (l.take k)).map (.int .i64)) (ys:=[.int .i64 l[k].n]) (rs:=[]) ?_ ?_ ?_ ?_ ?_
    ·simp only[go_sem,qW];exact h0
    ·simp only[go_sem,qW]
    ·rfl
    ·simp;omega
    ·intro v' en' cnt' hown hen hcnt;simp only[go_sem,qC,qG,qW,h',h1,h5]
     refine⟨_,_,_,rfl,?_⟩
     simp only[go_sem,qC,qG,qW,h',h1,h5,aK h' hf]
     refine⟨?_,fun n t g h=>?_⟩
     ·rw[hs2,bVx];exact cE.sub hown (by intro t ht;rcases bWe.1 ht with rfl|ht<;>assumption)
     ·rw[hen n t g (by rcases h with h|h;exact .inl h;exact .inr ⟨fun e=>h.1 (e▸hD),h.1⟩)]
      exact hI n t g h
   ·have hs2:fF out (l.take (k+1))=fF out (l.take k):=by rw[hs,kU,if_neg (by rw[hx];simpa using h2)]
    simp only[go_sem,qC,qG,qW,h',h1,h5]
    refine⟨_,_,_,rfl,?_⟩
    simp only[go_sem,qC,qG,qW,h',h1,h5,aK h' hf];exact⟨by rw[hs2];exact h0,hI⟩
  ·have hx:lQ l[k]=false:=hg;have hs2:fF out (l.take (k+1))=fF out (l.take k):=by rw[hs,kU,if_neg (by rw[hx];simp)]
   simp only[go_sem,qC,qG,qW,hg,h',h1,h5]
   refine⟨_,_,_,rfl,?_⟩
   simp only[go_sem,qC,qG,qW,h',h1,h5,aK h' hf];exact⟨by rw[hs2];exact h0,hI⟩
 ·have:k=l.length:=by simp at h;omega
  subst this;rw[bWf]at h0;simp only[go_sem,qC,qG,qW];exact⟨h0,fun n t g h=>by rw[<-hen0];exact hI n t g h⟩
theorem aB3 {α:Type}{g:Val->Val->Bool}{f:α->Val}: ∀(l:List α),(∀x∈l,g (f x) (f x)=true)->kM g (l.map f) (l.map f)=true
 |[],_=>rfl
 |x::l,h=>by simp only[bV9,kM,bVc];exact⟨h x (by simp),aB3 l fun y hy=>h y (by simp[hy])⟩
theorem aHs {n:Nat}{k:IntKind}{i:Int}:kG (n+1) (.int k i) (.int k i)=true:=by simp[kG]
theorem aUz {n:Nat}(v:aG):kG (n+2) (aG.enc v) (aG.enc v)=true:=by simp[kG,aG.enc,kM]
theorem aFo {n:Nat}(l:List aG):kG (n+3) (.fz (l.map aG.enc)) (.fz (l.map aG.enc))=true:=aB3 l fun v _=>aUz v
theorem aL8 {n:Nat}(f:aB):kG (n+4) (aB.enc f) (aB.enc f)=true:=by
 show kM (kG (n+3)) [_,_,_] [_,_,_]=true;simp only[kM,aFo,aHs,Bool.and_self]
theorem aJi {n:Nat}(l:List aB):kG (n+5) (.fz (l.map aB.enc)) (.fz (l.map aB.enc))=true:=aB3 l fun v _=>aL8 v
theorem aU0 (o:aI)(f:Bool):aDy (some (.box [.int .i64 o.form,.int .i64 o.n,.fz (o.vals.map aG.enc),.fz (o.frames.map aB.enc)] f)) (some (.box [.int .i64 o.form,.int .i64 o.n,.fz (o.vals.map aG.enc),.fz (o.frames.map aB.enc)] f))=true:=by
 simp only[aDy,kM,aFo,aHs,aJi,Bool.and_self,decide_true]
theorem bBe {v v':Val}{m:En×(Nat->Nat->Nat)}{u u':Key->Bool}{rs:List R}:sN {v,mem:=some m,unch:=u} {v:=v',rs:=rs,unch:=u'}=rs.all (fun r=>u r.key):=by simp[sN,Res.still]
def jQ (o:aI)(k:Nat):List Int:=(o.frames.take k).foldl (fun out f=>fF (fF out f.env) f.vals) (fF [] o.vals)
theorem aAs {o:aI}{k:Nat}(h:k<o.frames.length):jQ o (k+1)=fF (fF (jQ o k) o.frames[k].env) o.frames[k].vals:=by
 unfold jQ;rw[dE h];simp only[List.foldl_append,bW3,bXo]
theorem aAt (o:aI):jQ o o.frames.length=kV o:=by unfold jQ kV;rw[bWf]
theorem oR {o:aI}(hs:cZ o=true):o.vals.length<=40/\ o.frames.length<=50/\ ∀f∈o.frames,f.env.length<=40/\ f.vals.length<=40:=by
 simp only[cZ,bVc,bYb,bVo]at hs
 refine⟨by omega,by omega,fun f hf=>?_⟩
 have:=hs.2 f hf;omega
theorem xR {o:aI}(hs:cZ o=true):o.few:=by
 obtain⟨h1,h2,h3⟩:=oR hs
 refine⟨by unfold Few;omega,by unfold Few;omega,fun f hf=>?_⟩
 have:=h3 f hf;exact⟨by unfold Few;omega,by unfold Few;omega⟩
theorem wG {o:aI}(hs:cZ o=true): ∀(k:Nat),k<=o.frames.length->(jQ o k).length<=40+80*k
 |0,_=>by
  have h1:=qE o.vals [];have h2:=(oR hs).1;have e:jQ o 0=fF [] o.vals:=by simp[jQ]
  rw[e];simp only[bWa]at h1;omega
 |k+1,h=>by
  have h1:=wG hs k (by omega)
  rw[aAs (by omega)]
  have h2:=qE o.frames[k].vals (fF (jQ o k) o.frames[k].env);have h3:=qE o.frames[k].env (jQ o k);have h4:=(oR hs).2.2 _ (bVp (show k<o.frames.length by omega))
  omega
theorem aU1 {o:aI}(hs:cZ o=true):(kV o).length<=4040:=by
 rw[<-aAt];have:=wG hs o.frames.length (bVe _);have:=(oR hs).2.1;omega
theorem aL9 (o:aI)(hs:cZ o=true):PC L 68 [.agg [.int .i64 o.form,.int .i64 o.n,.fz (o.vals.map aG.enc),.fz (o.frames.map aB.enc)]] (.fz ((kV o).map (.int .i64))):=by
 obtain⟨b1,b2,b3⟩:=oR hs;have hf:Few o.frames.length:=by unfold Few;omega
 refine aL bSv rfl rfl ?_
 simp only[go_sem,qC,qG,qW,bAs]
 refine(aFn [] o.vals (D:=[35]) (by simp) (cE.nil _ _) (by simp;omega)).mono ?_
 rintro v en' cnt' ⟨hm,hfr⟩
 have e1:en' ⟨0,1,0⟩=some (.box [.int .i64 o.form,.int .i64 o.n,.fz (o.vals.map aG.enc),.fz (o.frames.map aB.enc)] false):=by rw[hfr _ _ _ (.inr ⟨by simp,by simp⟩)];simp only[go_sem,qW]
 refine bF o.frames.length (fun k st=> ∃fr en cnt,st=⟨fr,en,cnt⟩/\ fr 1= .ptr ⟨0,1,0⟩ 0/\ en ⟨0,1,0⟩=some (.box [.int .i64 o.form,.int .i64 o.n,.fz (o.vals.map aG.enc),.fz (o.frames.map aB.enc)] false)/\ fr 4= .int .i64 k/\ cE en (fr 3) 1 ((jQ o k).map (.int .i64)) [35]) 0 (bVn _) ⟨_,_,_,rfl,by simp only[go_sem,qW],by simp only[go_sem,e1],by simp only[go_sem,qW],by simp only[go_sem,qW];simpa[jQ]using hm⟩ ?_
 rintro k st hk ⟨fr,en,cnt,rfl,h1,e1,h4,h3⟩
 simp only[go_sem,qC,qG,qW,h1,e1,h4]
 refine aA (fun hq=>?_) (fun hq=>?_)
 ·have h':k<o.frames.length:=of_decide_eq_true hq;have h4':=b3 _ (bVp h');have hl:=wG hs k hk;have hl2:=qE o.frames[k].env (jQ o k);simp only[go_sem,qC,qG,qW,h',h1,e1,h4]
  refine aN ?_
  simp only[go_sem,qC,qG,qW,h',h1,e1,h4,bVf,bVg,bVh,bVj,bVi]
  refine(aFn (jQ o k) o.frames[k].env (D:=[35]) (by simp) h3 (by omega)).mono ?_
  rintro v1 en1 cnt1 ⟨hm1,hfr1⟩
  have e1':=(hfr1 0 1 0 (.inr ⟨by simp,by simp⟩)).trans e1
  simp only[go_sem,qC,qG,qW,h',h1,e1',h4,bVf,bVg,bVh,bVj,bVi]
  refine(aFn (fF (jQ o k) o.frames[k].env) o.frames[k].vals (D:=[35]) (by simp) hm1 (by omega)).mono ?_
  rintro v2 en2 cnt2 ⟨hm2,hfr2⟩
  have e1'':=(hfr2 0 1 0 (.inr ⟨by simp,by simp⟩)).trans e1'
  simp only[go_sem,qC,qG,qW,h',h1,e1,e1',h4,bVf,bVg,bVh,bVj,bVi,bBe,aU0,List.all_nil]
  refine⟨rfl,_,_,_,rfl,?_⟩
  simp only[go_sem,qC,qG,qW,h',h1,e1'',h4,aK h' hf];rw[aAs h'];exact hm2
 ·have:k=o.frames.length:=by simp at hq;omega
  subst this;rw[aAt]at h3;simp only[go_sem,qC,qG,qW];obtain⟨r,ks,s1,s2,s3⟩:=aAr h3;simp only[go_sem,qC,qG,qW,s1,s2]
theorem aJj (out:List Int)(v:aG)(x:Int):x∈kU out v↔x∈out \/(lQ v=true/\ x=v.n):=by
 unfold kU;split
 ·rename_i h;simp only[bVc]at h;simp[h.1]
 ·rename_i h;constructor
  ·exact .inl
  ·rintro(h2|⟨h2,rfl⟩)
   ·exact h2
   ·rw[h2,bVy]at h;simp only[bWh,Bool.not_eq_false]at h;obtain⟨y,hy,e⟩:=bXk.1 h;rw[<-of_decide_eq_true e];exact hy
theorem xS (x:Int): ∀(l:List aG) (out:List Int),x∈fF out l↔x∈out \/x∈dB l
 |[],out=>by simp[fF,dB]
 |v::l,out=>by
  have:=xS x l (kU out v);simp only[fF,bW3]at this⊢;rw[this,aJj]
  by_cases h:lQ v=true
  ·rw[xO h];simp[h,or_assoc]
  ·rw[xP (by simpa using h)];simp[h]
theorem aFp (x:Int): ∀(l:List aB) (out:List Int),x∈l.foldl (fun out f=>fF (fF out f.env) f.vals) out↔x∈out \/x∈l.flatMap dN
 |[],out=>by simp
 |f::l,out=>by
  simp only[bW3];rw[aFp x l,xS,xS];simp[dN,or_assoc]
theorem mJ (o:aI)(x:Int):x∈kV o↔x∈dS o:=by
 unfold kV dS;rw[aFp,xS];simp
theorem aJk {p:aQ}{w:aC}{l:List aG}{m:Int}(h:aR p w l m=true): ∀x∈dB l,inR x 0 (w.objs.length-1)=true:=by
 intro x hx;simp only[aR,bVc,bVo]at h;simp only[dB,bV4,bW5]at hx;obtain⟨v,⟨hv,hr⟩,rfl⟩:=hx;have h5:v.kind=5:=of_decide_eq_true hr;have:=h.2 v hv
 simpa[cJ,h5]using this
theorem aU2 {p:aQ}{w:aC}{l:List aB}(h:bJ p w l=true): ∀x∈l.flatMap dN,inR x 0 (w.objs.length-1)=true:=by
 intro x hx;simp only[bJ,bVc,bVo]at h;obtain⟨f,hf,hx⟩:=bWt.1 hx;have hk:=h.2 f hf;simp only[bD,bVc]at hk;rcases bV6.1 hx with hx|hx
 ·exact aJk hk.1.2 x hx
 ·exact aJk hk.2 x hx
theorem aX0 {α:Type}{l:List α}(h:(l.length:Int)=0):l=[]:=by
 cases l with
 |nil=>rfl
 |cons a l=>simp at h;omega
theorem bEg {p:aQ}{w:aC}{o:aI}(h:dG p w o=true): ∀x∈dS o,inR x 0 (w.objs.length-1)=true:=by
 have key:(∃m,aR p w o.vals m=true \/o.vals=[])/\ (bJ p w o.frames=true \/o.frames=[]):=by
  unfold dG at h
  split at h
  ·unfold hH at h
   split at h
   ·simp only[bVc]at h;exact⟨⟨1,.inl h.1.1.2⟩,.inl h.1.1.1⟩
   split at h
   ·simp only[bVc,bYb]at h;exact⟨⟨1,.inl h.2⟩,.inr (aX0 h.1.1)⟩
   split at h
   ·simp only[bVc,bYb]at h;exact⟨⟨1,.inr (aX0 h.2)⟩,.inr (aX0 h.1)⟩
   ·cases h
  split at h
  ·simp only[bVc,bYb]at h;exact⟨⟨1,.inr (aX0 h.1.1.1.1.2)⟩,.inl h.1.1.2⟩
  split at h
  ·cases h
  rename_i hf;have hf0:o.frames=[]:=aX0 (Classical.not_not.1 hf)
  split at h
  ·simp only[bVc]at h;exact⟨⟨_,.inl h.2⟩,.inr hf0⟩
  split at h
  ·simp only[bVc]at h;exact⟨⟨_,.inl h.2⟩,.inr hf0⟩
  split at h
  ·simp only[bVc]at h;exact⟨⟨_,.inl h.2⟩,.inr hf0⟩
  split at h
  ·simp only[bVc]at h;exact⟨⟨_,.inl h.2⟩,.inr hf0⟩
  ·cases h
 obtain⟨⟨m,hv⟩,hfr⟩:=key;intro x hx;rcases bV6.1 hx with hx|hx
 ·rcases hv with hv|hv
  ·exact aJk hv x hx
  ·rw[hv]at hx;simp[dB]at hx
 ·rcases hfr with hfr|hfr
  ·exact aU2 hfr x hx
  ·rw[hfr]at hx;simp at hx
theorem aX1 {p:aQ}{w:aC}(h:fY p w=true): ∀o∈w.objs,∀x∈dS o,inR x 0 (w.objs.length-1)=true:=by
 intro o ho;simp only[fY,bVc,bVo]at h;exact bEg (h.1.2 o ho)
def nX (s:aX)(i:Int):Int:=s.ages.getD i.toNat 0
def fL (s:aX)(i:Int):Int:=s.marks.getD i.toNat 0
theorem gC {s:aX}{k:Nat}(h:k<s.ages.length):nX s k=s.ages[k]:=by simp[nX,bVm,h]
theorem dQ {s:aX}{k:Nat}(h:k<s.marks.length):fL s k=s.marks[k]:=by simp[fL,bVm,h]
theorem dT {w:aC}{k:Nat}(h:k<w.objs.length):w.obj k=w.objs[k]:=by simp[aC.obj,bVm,h]
def kK (s:aX)(i:Nat):Bool:=inR (nX s i) 0 2&&inR (fL s i) 0 2
def fV (s:aX)(i:Nat):Bool:=decide (fL s i=0)&&(bH (s.world.obj i)||decide (nX s i=2)&&!decide (s.cycle=3))
def hZ (s:aX)(i:Nat)(r:Int):Bool:=decide (fL s i=2)&&decide (fL s r=0)
def kW (s:aX)(i:Nat):Bool:=!fV s i&&(kV (s.world.obj i)).all fun r=>!hZ s i r
def kX (s:aX):Bool:=(List.range s.world.objs.length).all fun i=>kK s i&&kW s i
def jR (s:aX):Bool:=decide (s.ages.length=s.world.objs.length)&&decide (s.marks.length=s.world.objs.length)&&inR s.cycle 0 3
def bY (p:aQ)(s:aX):Bool:=gG p s.world&&jR s&&kX s
theorem aAu {p:aQ}{w:aC}(h:gG p w=true): ∀o∈w.objs,∀x∈kV o,inR x 0 (w.objs.length-1)=true:=by
 intro o ho x hx;simp only[gG,bVc]at h;exact aX1 h.2 o ho x ((mJ o x).1 hx)
theorem kY {w:aC}(h:bB w=true): ∀o∈w.objs,cZ o=true:=by
 intro o ho;simp only[bB,bVc,bVo]at h;exact h.2 o ho
theorem aFq {L:cO}{l:List bE}{st:St}{Q:St->Prop}(M:St->Prop)(h:iV L l st M)(k: ∀fr en cnt,M ⟨fr,en,cnt⟩->Q ⟨fr,en,cnt⟩):iV L l st Q:=by
 have: ∀(l:List bE) {st:St} {M Q:St->Prop},iV L l st M->(∀s,M s->Q s)->iV L l st Q:=by
  intro l
  induction l with
  |nil=>intro st M Q h k;exact k _ h
  |cons o l ih=>intro st M Q h k;exact kQ h fun s r hs=>ih hs k
 exact this l h fun s hs=>k _ _ _ hs
theorem aAv (p:aQ)(s:aX)(hp:p.few)(hs:s.few)(hc:p.cons.length<=1000)(hsm:bB s.world=true):PC L 32 [.agg [.fz (p.nodes.map aJ.enc),.fz (p.funs.map (.int .i64)),.int .i64 p.main,.fz (p.cons.map bC.enc)],.agg [.fz (s.world.objs.map aI.enc),.fz (s.world.tasks.map (.int .i64)),.fz (s.world.outs.map aO.enc),.fz (s.world.ins.map (.int .i64)),.int .i64 s.world.used,.fz (s.ages.map (.int .i64)),.fz (s.marks.map (.int .i64)),.int .i64 s.cycle]] (.bool (bY p s)):=by
 refine aL bSf rfl rfl ?_
 simp only[go_sem,qC,qG,qW,bAf,(aJb p s.world hp hs.1 hc).ret]
 refine aE (fun g1=>?_) (fun g1=>?_)
 ·have k1:gG p s.world=true:=by simpa using g1
  simp only[go_sem,qC,qG,qW,g1]
  refine aE (fun g2=>?_) (fun g2=>?_)
  ·have k2:s.ages.length=s.world.objs.length:=by simp at g2;omega
   simp only[go_sem,qC,qG,qW,g1,g2]
   refine aE (fun g3=>?_) (fun g3=>?_)
   ·have k3:s.marks.length=s.world.objs.length:=by simp at g3;omega
    simp only[go_sem,qC,qG,qW,g1,g2,g3,(tZ _ _ _).ret]
    refine aA (fun g4=>?_) (fun g4=>?_)
    ·simp only[go_sem,qC,qG,qW];have k4:inR s.cycle 0 3=false:=by simpa using g4
     simp[bY,jR,k4]
    ·have k4:inR s.cycle 0 3=true:=by simpa using g4
     have kl:jR s=true:=by simp[jR,k2,k3,k4]
     have fin:kX s=false->Val.bool false=Val.bool (bY p s):=fun h=>by simp[bY,h]
     simp only[go_sem,qC,qG,qW]
     refine bF (s.world.objs.length) (fun k st=> ∃fr en cnt,st=⟨fr,en,cnt⟩/\ (fr 3= .ptr ⟨0,3,0⟩ 0)/\ (en ⟨0,3,0⟩=some (.box [.fz (s.world.objs.map aI.enc),.fz (s.world.tasks.map (.int .i64)),.fz (s.world.outs.map aO.enc),.fz (s.world.ins.map (.int .i64)),.int .i64 s.world.used,.fz (s.ages.map (.int .i64)),.fz (s.marks.map (.int .i64)),.int .i64 s.cycle] false))/\ (fr 5= .int .i64 s.world.objs.length)/\ (fr 6= .int .i64 k)/\ (∀i,i<k->(kK s i&&kW s i)=true)) 0 (bVn _) ⟨_,_,_,rfl,(by first|(simp only[go_sem,qW];(try rfl);done)|rfl|simp),(by first|(simp only[go_sem,qW];(try rfl);done)|rfl|simp),(by first|(simp only[go_sem,qW];(try rfl);done)|rfl|simp),(by first|(simp only[go_sem,qW];(try rfl);done)|rfl|simp),(by first|(simp only[go_sem,qW];(try rfl);done)|rfl|simp)⟩ ?_
     rintro k st hk ⟨fr,en,cnt,rfl,h3,e3,h5,h6,hI⟩
     simp only[go_sem,qC,qG,qW,h3,e3,h5,h6]
     refine aA (fun hq=>?_) (fun hq=>?_)
     ·have h':k<s.world.objs.length:=of_decide_eq_true hq;have ha:k<s.ages.length:=by omega
      have hm:k<s.marks.length:=by omega
      have bad:(kK s k&&kW s k)=false->kX s=false:=fun h=>by
       unfold kX;rw[bX3];exact⟨k,by simpa using h',by simpa using h⟩
      simp only[go_sem,qC,qG,qW,h',ha,hm,h3,e3,h5,h6,(tZ _ _ _).ret]
      refine aE (fun g5=>?_) (fun g5=>?_)
      ·simp only[go_sem,qC,qG,qW,g5,h',ha,hm,h3,e3,h5,h6,(tZ _ _ _).ret]
       refine aA (fun g6=>?_) (fun g6=>?_)
       ·simp only[go_sem,qC,qG,qW]
        refine fin (bad ?_)
        have:inR s.marks[k] 0 2=false:=by simpa using g6
        simp[kK,gC ha,dQ hm,this]
       ·have kr:kK s k=true:=by
         have h1:inR s.ages[k] 0 2=true:=by simpa using g5
         have h2:inR s.marks[k] 0 2=true:=by simpa using g6
         simp[kK,gC ha,dQ hm,h1,h2]
        refine aFq (fun st=>(st.fr 3= .ptr ⟨0,3,0⟩ 0)/\ (st.en ⟨0,3,0⟩=some (.box [.fz (s.world.objs.map aI.enc),.fz (s.world.tasks.map (.int .i64)),.fz (s.world.outs.map aO.enc),.fz (s.world.ins.map (.int .i64)),.int .i64 s.world.used,.fz (s.ages.map (.int .i64)),.fz (s.marks.map (.int .i64)),.int .i64 s.cycle] false))/\ (st.fr 5= .int .i64 s.world.objs.length)/\ (st.fr 6= .int .i64 k)/\ (st.fr 84= .bool (fV s k))) ?_ ?_
        ·simp only[go_sem,qC,qG,qW,h',ha,hm,h3,e3,h5,h6]
         refine aE (fun g7=>?_) (fun g7=>?_)
         ·have hm0:s.marks[k]=0:=by simpa using g7
          simp only[go_sem,qC,qG,qW,g7,h',ha,hm,h3,e3,h5,h6,(aLw s.world k h').ret]
          refine aE (fun g8=>?_) (fun g8=>?_)
          ·simp only[go_sem,qC,qG,qW,g7,g8,h',ha,hm,h3,e3,h5,h6]
           refine aE (fun g9=>?_) (fun g9=>?_)
           ·have ha2:s.ages[k]=2:=by simpa using g9
            simp only[go_sem,qC,qG,qW,g7,g8,g9,h',ha,hm,h3,e3,h5,h6,(aLx _).ret];simp[fV,gC ha,dQ hm,hm0,ha2,g8]
           ·simp only[go_sem,qC,qG,qW,g7,g8,g9,h',ha,hm,h3,e3,h5,h6]
            simp at g9
            simp[fV,gC ha,dQ hm,hm0,g8,g9]
          ·simp only[go_sem,qC,qG,qW,g7,g8,h',ha,hm,h3,e3,h5,h6];simp[fV,dQ hm,hm0,g8]
         ·simp only[go_sem,qC,qG,qW,g7,h',ha,hm,h3,e3,h5,h6]
          simp at g7
          simp[fV,dQ hm,g7]
        ·rintro fr en cnt ⟨(h3:fr 3= .ptr ⟨0,3,0⟩ 0),(e3:en ⟨0,3,0⟩=some (.box [.fz (s.world.objs.map aI.enc),.fz (s.world.tasks.map (.int .i64)),.fz (s.world.outs.map aO.enc),.fz (s.world.ins.map (.int .i64)),.int .i64 s.world.used,.fz (s.ages.map (.int .i64)),.fz (s.marks.map (.int .i64)),.int .i64 s.cycle] false)),(h5:fr 5= .int .i64 s.world.objs.length),(h6:fr 6= .int .i64 k),(h84:fr 84= .bool (fV s k))⟩
         simp only[go_sem,qC,qG,qW,h3,e3,h5,h6,h84]
         refine aA (fun hW=>?_) (fun hW=>?_)
         ·simp only[go_sem,qC,qG,qW];exact fin (bad (by simp[kW,hW]))
         have hin:=aAu k1 _ (bVp h');have hso:=kY hsm _ (bVp h');have hlen:=aU1 hso;have hfl:Few (kV s.world.objs[k]).length:=by unfold Few;omega
         simp only[go_sem,qC,qG,qW,h',h3,e3,h5,h6,h84,(aL9 _ hso).ret]
         refine bF ((kV s.world.objs[k]).length) (fun j st=> ∃fr en cnt,st=⟨fr,en,cnt⟩/\ (fr 3= .ptr ⟨0,3,0⟩ 0)/\ (en ⟨0,3,0⟩=some (.box [.fz (s.world.objs.map aI.enc),.fz (s.world.tasks.map (.int .i64)),.fz (s.world.outs.map aO.enc),.fz (s.world.ins.map (.int .i64)),.int .i64 s.world.used,.fz (s.ages.map (.int .i64)),.fz (s.marks.map (.int .i64)),.int .i64 s.cycle] false))/\ (fr 5= .int .i64 s.world.objs.length)/\ (fr 6= .int .i64 k)/\ (fr 7= .fz ((kV s.world.objs[k]).map (.int .i64)))/\ (fr 8= .int .i64 j)/\ (∀x∈(kV s.world.objs[k]).take j,hZ s k x=false)) 0 (bVn _) ⟨_,_,_,rfl,(by first|(simp only[go_sem,h3,e3,h5,h6,h84];(try rfl);done)|rfl|simp),(by first|(simp only[go_sem,h3,e3,h5,h6,h84];(try rfl);done)|rfl|simp),(by first|(simp only[go_sem,h3,e3,h5,h6,h84];(try rfl);done)|rfl|simp),(by first|(simp only[go_sem,h3,e3,h5,h6,h84];(try rfl);done)|rfl|simp),(by first|(simp only[go_sem,h3,e3,h5,h6,h84];(try rfl);done)|rfl|simp),(by first|(simp only[go_sem,h3,e3,h5,h6,h84];(try rfl);done)|rfl|simp),(by first|(simp only[go_sem,h3,e3,h5,h6,h84];(try rfl);done)|rfl|simp)⟩ ?_
         rintro j st hk ⟨fr,en,cnt,rfl,h3,e3,h5,h6,h7,h8,hJ⟩
         simp only[go_sem,qC,qG,qW,h3,e3,h5,h6,h7,h8]
         refine aA (fun hq2=>?_) (fun hq2=>?_)
         ·have h2':j<(kV s.world.objs[k]).length:=of_decide_eq_true hq2;have hx:=hin _ (bVp h2');rw[<-k3]at hx;simp only[go_sem,qC,qG,qW,h2',hm,h3,e3,h5,h6,h7,h8]
          refine aE (fun g7=>?_) (fun g7=>?_)
          ·have hm2:s.marks[k]=2:=by simpa using g7
           simp only[go_sem,qC,qG,qW,g7,h2',hm,h3,e3,h5,h6,h7,h8,sF hx]
           refine aA (fun g8=>?_) (fun g8=>?_)
           ·simp only[go_sem,qC,qG,qW]
            refine fin (bad ?_)
            have hb:hZ s k (kV s.world.objs[k])[j]=true:=by
             have e2:fL s k=2:=by rw[dQ hm,hm2]
             simp only[hZ,e2,decide_true,bVy];exact g8
            have:(kV (s.world.obj k)).all (fun r=>!hZ s k r)=false:=by
             rw[dT h',bX3];exact⟨_,bVp h2',by simp[hb]⟩
            simp[kW,this]
           ·have hb:hZ s k (kV s.world.objs[k])[j]=false:=by
             have e2:fL s k=2:=by rw[dQ hm,hm2]
             simp only[hZ,e2,decide_true,bVy];exact g8
            simp only[go_sem,qC,qG,qW,h2',h3,e3,h5,h6,h7,h8]
            refine⟨_,_,_,rfl,?_⟩
            simp only[go_sem,qW,h3,e3,h5,h6,h7,h8,aK h2' hfl];intro x hx;rw[dE h2',bV6]at hx;rcases hx with hx|hx
            ·exact hJ x hx
            ·simp only[bWk]at hx;rw[hx];exact hb
          ·have hb:hZ s k (kV s.world.objs[k])[j]=false:=by
            simp only[hZ,dQ hm]
            simp at g7
            simp[g7]
           simp only[go_sem,qC,qG,qW,g7,h2',h3,e3,h5,h6,h7,h8]
           refine⟨_,_,_,rfl,?_⟩
           simp only[go_sem,qW,h3,e3,h5,h6,h7,h8,aK h2' hfl];intro x hx;rw[dE h2',bV6]at hx;rcases hx with hx|hx
           ·exact hJ x hx
           ·simp only[bWk]at hx;rw[hx];exact hb
         ·have:j=(kV s.world.objs[k]).length:=by simp at hq2;omega
          subst this;rw[bWf]at hJ;simp only[go_sem,qC,qG,qW,h3,e3,h5,h6,h7,h8]
          refine⟨_,_,_,rfl,?_⟩
          simp only[go_sem,qW,h3,e3,h5,h6,h7,h8,aK h' hs.1.objs];intro i hi
          by_cases hik:i<k
          ·exact hI i hik
          ·have:i=k:=by omega
           subst this;have:(kV (s.world.obj i)).all (fun r=>!hZ s i r)=true:=by
            rw[dT h',bVo];intro x hx;simp[hJ x hx]
           simp[kW,kr,hW,this]
      ·simp only[go_sem,qC,qG,qW,g5,h',ha,hm,h3,e3,h5,h6]
       refine fin (bad ?_)
       have:inR s.ages[k] 0 2=false:=by simpa using g5
       simp[kK,gC ha,this]
     ·have:k=s.world.objs.length:=by simp at hq;omega
      subst this;simp only[go_sem,qC,qG,qW,h3,e3,h5,h6];have:kX s=true:=by
       unfold kX;rw[bVo];exact fun i hi=>hI i (by simpa using hi)
      simp[bY,kl,k1,this]
   ·simp only[go_sem,qC,qG,qW,g1,g2,g3];simp[bY,jR]
    simp at g3
    omega
  ·simp only[go_sem,qC,qG,qW,g1,g2];simp[bY,jR]
   simp at g2
   omega
 ·simp only[go_sem,qC,qG,qW,g1];have k1:gG p s.world=false:=by simpa using g1
  simp[bY,k1]
theorem zK (l:List Int)(h:Val)(p:Int->Bool)(hc:cY L (fun x:Int=> .int .i64 x) h p l)(x:Int)(hx:x∈l):
  PC L 245 [.int .i64 x,.fp [h] 0] (.bool (!p x)):=by
 refine aL bJ4 rfl rfl ?_
 simp only[go_sem,qC,qG,qS,qW,aSn]
 refine hc.call x hx _ _ ?_
 simp only[go_sem,qC,qG,qS,qW]
theorem uX (l:List Int)(h:Val)(p:Int->Bool)(hl:Few l.length)(hc:cY L (fun x:Int=> .int .i64 x) h p l):
  PC L 214 [.fz (l.map (.int .i64)),h] (.bool (l.all p)):=by
 have hd:cY L (fun x:Int=> .int .i64 x) (.fn 245 [] [.fp [h] 0]) (fun x=>!p x) l:=by
  refine⟨fun n en hn=>?_,rfl,rfl,rfl,fun x hx en K hK=>?_⟩
  ·obtain⟨m,rfl⟩: ∃m,n=m+4:=⟨n-4,by omega⟩
   simp only[go_sem,qW]
  ·simp only[go_sem,qW,(zK l h p hc x hx).ret];exact hK
 refine aL bJe rfl rfl ?_
 simp only[go_sem,qC,qG,qS,qW,aRx,iX hc.one hc.cells,hc.snap,hc.wk,(aL4 l _ _ hl hd).ret];rw[<-bXi,bXj]
theorem aX2 (l:List aG)(h:Val)(p:aG->Bool)(hl:Few l.length)(hc:cY L (fun x:aG=> .agg [.int .i64 x.kind,.int .i64 x.n]) h p l):
  PC L 282 [.fz (l.map aG.enc),h] (.int .i64 (idxOf p l 0)):=by
 refine aL bKf rfl rfl ?_
 simp only[go_sem,qC,qG,qS,qW,aSy]
 refine bF (l.length) (fun k st=> ∃fr en cnt,st=⟨fr,en,cnt⟩/\ (fr 0= .fz (l.map aG.enc))/\ (fr 1=h)/\ (fr 7= .int .i64 l.length)/\ (fr 8= .int .i64 k)/\ (idxOf p (l.drop k) k=idxOf p l 0)) 0 (bVn _) ⟨_,_,_,rfl,(by first|(simp only[go_sem,qW];(try rfl);done)|rfl|simp),(by first|(simp only[go_sem,qW];(try rfl);done)|rfl|simp),(by first|(simp only[go_sem,qW];(try rfl);done)|rfl|simp),(by first|(simp only[go_sem,qW];(try rfl);done)|rfl|simp),(by first|(simp only[go_sem,qW];(try rfl);done)|rfl|simp)⟩ ?_
 rintro k st hk ⟨fr,en,cnt,rfl,h0,h1,h7,h8,hI⟩
 simp only[go_sem,qC,qG,qS,qW,h0,h1,h7,h8]
 refine aA (fun hq=>?_) (fun hq=>?_)
 ·have h':k<l.length:=of_decide_eq_true hq;rw[bWc h',idxOf]at hI;simp only[go_sem,qC,qG,qS,qW,h',h0,h1,h7,h8]
  refine hc.call l[k] (bVp _) _ _ ?_
  simp only[go_sem,qC,qG,qS,qW,h0,h1,h7,h8]
  refine aA (fun hb=>?_) (fun hb=>?_)
  ·simp only[go_sem,qC,qG,qS,qW,h0,h1,h7,h8];rw[hb,if_pos rfl]at hI;rw[<-hI]
  ·simp only[go_sem,qC,qG,qS,qW,h',h0,h1,h7,h8];rw[hb]at hI
   simp at hI
   refine⟨_,_,_,rfl,?_⟩
   simp only[go_sem,qW,h0,h1,h7,h8,aK h' hl];exact hI
 ·have:k=l.length:=by simp at hq;omega
  subst this;simp only[go_sem,qC,qG,qS,qW,h0,h1,h7,h8];rw[<-hI];simp[idxOf]
theorem aU3 (l:List aG)(h:Val)(p:aG->Bool)(hl:Few l.length)(hc:cY L (fun x:aG=> .agg [.int .i64 x.kind,.int .i64 x.n]) h p l):
  PC L 240 [.fz (l.map aG.enc),h] (.bool (l.any p)):=by
 refine aL bJz rfl rfl ?_
 simp only[go_sem,qC,qG,qS,qW,aSi,hc.snap,hc.wk,(aX2 l h p hl hc).ret];rw[<-lK p l 0]
theorem qV (l:List aG)(h:Val)(p:aG->Bool)(hc:cY L (fun x:aG=> .agg [.int .i64 x.kind,.int .i64 x.n]) h p l)(x:aG)(hx:x∈l):
  PC L 241 [.agg [.int .i64 x.kind,.int .i64 x.n],.fp [h] 0] (.bool (!p x)):=by
 refine aL bJ0 rfl rfl ?_
 simp only[go_sem,qC,qG,qS,qW,aSj]
 refine hc.call x hx _ _ ?_
 simp only[go_sem,qC,qG,qS,qW]
theorem jD (l:List aG)(h:Val)(p:aG->Bool)(hl:Few l.length)(hc:cY L (fun x:aG=> .agg [.int .i64 x.kind,.int .i64 x.n]) h p l):
  PC L 210 [.fz (l.map aG.enc),h] (.bool (l.all p)):=by
 have hd:cY L (fun x:aG=> .agg [.int .i64 x.kind,.int .i64 x.n]) (.fn 241 [] [.fp [h] 0]) (fun x=>!p x) l:=by
  refine⟨fun n en hn=>?_,rfl,rfl,rfl,fun x hx en K hK=>?_⟩
  ·obtain⟨m,rfl⟩: ∃m,n=m+4:=⟨n-4,by omega⟩
   simp only[go_sem,qW]
  ·simp only[go_sem,qW,(qV l h p hc x hx).ret];exact hK
 refine aL bJa rfl rfl ?_
 simp only[go_sem,qC,qG,qS,qW,aRt,iX hc.one hc.cells,hc.snap,hc.wk,(aU3 l _ _ hl hd).ret];rw[<-bXi,bXj]
theorem aOl (l:List aB)(h:Val)(p:aB->Bool)(hl:Few l.length)(hc:cY L (fun x:aB=> .agg [.int .i64 x.node,.fz (x.env.map aG.enc),.fz (x.vals.map aG.enc)]) h p l):
  PC L 300 [.fz (l.map aB.enc),h] (.int .i64 (idxOf p l 0)):=by
 refine aL bKj rfl rfl ?_
 simp only[go_sem,qC,qG,qS,qW,aS2]
 refine bF (l.length) (fun k st=> ∃fr en cnt,st=⟨fr,en,cnt⟩/\ (fr 0= .fz (l.map aB.enc))/\ (fr 1=h)/\ (fr 7= .int .i64 l.length)/\ (fr 8= .int .i64 k)/\ (idxOf p (l.drop k) k=idxOf p l 0)) 0 (bVn _) ⟨_,_,_,rfl,(by first|(simp only[go_sem,qW];(try rfl);done)|rfl|simp),(by first|(simp only[go_sem,qW];(try rfl);done)|rfl|simp),(by first|(simp only[go_sem,qW];(try rfl);done)|rfl|simp),(by first|(simp only[go_sem,qW];(try rfl);done)|rfl|simp),(by first|(simp only[go_sem,qW];(try rfl);done)|rfl|simp)⟩ ?_
 rintro k st hk ⟨fr,en,cnt,rfl,h0,h1,h7,h8,hI⟩
 simp only[go_sem,qC,qG,qS,qW,h0,h1,h7,h8]
 refine aA (fun hq=>?_) (fun hq=>?_)
 ·have h':k<l.length:=of_decide_eq_true hq;rw[bWc h',idxOf]at hI;simp only[go_sem,qC,qG,qS,qW,h',h0,h1,h7,h8]
  refine hc.call l[k] (bVp _) _ _ ?_
  simp only[go_sem,qC,qG,qS,qW,h0,h1,h7,h8]
  refine aA (fun hb=>?_) (fun hb=>?_)
  ·simp only[go_sem,qC,qG,qS,qW,h0,h1,h7,h8];rw[hb,if_pos rfl]at hI;rw[<-hI]
  ·simp only[go_sem,qC,qG,qS,qW,h',h0,h1,h7,h8];rw[hb]at hI
   simp at hI
   refine⟨_,_,_,rfl,?_⟩
   simp only[go_sem,qW,h0,h1,h7,h8,aK h' hl];exact hI
 ·have:k=l.length:=by simp at hq;omega
  subst this;simp only[go_sem,qC,qG,qS,qW,h0,h1,h7,h8];rw[<-hI];simp[idxOf]
theorem aMa (l:List aB)(h:Val)(p:aB->Bool)(hl:Few l.length)(hc:cY L (fun x:aB=> .agg [.int .i64 x.node,.fz (x.env.map aG.enc),.fz (x.vals.map aG.enc)]) h p l):
  PC L 283 [.fz (l.map aB.enc),h] (.bool (l.any p)):=by
 refine aL bKg rfl rfl ?_
 simp only[go_sem,qC,qG,qS,qW,aSz,hc.snap,hc.wk,(aOl l h p hl hc).ret];rw[<-lK p l 0]
theorem pP (l:List aB)(h:Val)(p:aB->Bool)(hc:cY L (fun x:aB=> .agg [.int .i64 x.node,.fz (x.env.map aG.enc),.fz (x.vals.map aG.enc)]) h p l)(x:aB)(hx:x∈l):
  PC L 284 [.agg [.int .i64 x.node,.fz (x.env.map aG.enc),.fz (x.vals.map aG.enc)],.fp [h] 0] (.bool (!p x)):=by
 refine aL bKh rfl rfl ?_
 simp only[go_sem,qC,qG,qS,qW,aS0]
 refine hc.call x hx _ _ ?_
 simp only[go_sem,qC,qG,qS,qW]
theorem lS (l:List aB)(h:Val)(p:aB->Bool)(hl:Few l.length)(hc:cY L (fun x:aB=> .agg [.int .i64 x.node,.fz (x.env.map aG.enc),.fz (x.vals.map aG.enc)]) h p l):
  PC L 242 [.fz (l.map aB.enc),h] (.bool (l.all p)):=by
 have hd:cY L (fun x:aB=> .agg [.int .i64 x.node,.fz (x.env.map aG.enc),.fz (x.vals.map aG.enc)]) (.fn 284 [] [.fp [h] 0]) (fun x=>!p x) l:=by
  refine⟨fun n en hn=>?_,rfl,rfl,rfl,fun x hx en K hK=>?_⟩
  ·obtain⟨m,rfl⟩: ∃m,n=m+4:=⟨n-4,by omega⟩
   simp only[go_sem,qW]
  ·simp only[go_sem,qW,(pP l h p hc x hx).ret];exact hK
 refine aL bJ1 rfl rfl ?_
 simp only[go_sem,qC,qG,qS,qW,aSk,iX hc.one hc.cells,hc.snap,hc.wk,(aMa l _ _ hl hd).ret];rw[<-bXi,bXj]
theorem aX3 (l:List aI)(h:Val)(p:aI->Bool)(hl:Few l.length)(hc:cY L (fun x:aI=> .agg [.int .i64 x.form,.int .i64 x.n,.fz (x.vals.map aG.enc),.fz (x.frames.map aB.enc)]) h p l):
  PC L 239 [.fz (l.map aI.enc),h] (.int .i64 (idxOf p l 0)):=by
 refine aL bJy rfl rfl ?_
 simp only[go_sem,qC,qG,qS,qW,aSh]
 refine bF (l.length) (fun k st=> ∃fr en cnt,st=⟨fr,en,cnt⟩/\ (fr 0= .fz (l.map aI.enc))/\ (fr 1=h)/\ (fr 7= .int .i64 l.length)/\ (fr 8= .int .i64 k)/\ (idxOf p (l.drop k) k=idxOf p l 0)) 0 (bVn _) ⟨_,_,_,rfl,(by first|(simp only[go_sem,qW];(try rfl);done)|rfl|simp),(by first|(simp only[go_sem,qW];(try rfl);done)|rfl|simp),(by first|(simp only[go_sem,qW];(try rfl);done)|rfl|simp),(by first|(simp only[go_sem,qW];(try rfl);done)|rfl|simp),(by first|(simp only[go_sem,qW];(try rfl);done)|rfl|simp)⟩ ?_
 rintro k st hk ⟨fr,en,cnt,rfl,h0,h1,h7,h8,hI⟩
 simp only[go_sem,qC,qG,qS,qW,h0,h1,h7,h8]
 refine aA (fun hq=>?_) (fun hq=>?_)
 ·have h':k<l.length:=of_decide_eq_true hq;rw[bWc h',idxOf]at hI;simp only[go_sem,qC,qG,qS,qW,h',h0,h1,h7,h8]
  refine hc.call l[k] (bVp _) _ _ ?_
  simp only[go_sem,qC,qG,qS,qW,h0,h1,h7,h8]
  refine aA (fun hb=>?_) (fun hb=>?_)
  ·simp only[go_sem,qC,qG,qS,qW,h0,h1,h7,h8];rw[hb,if_pos rfl]at hI;rw[<-hI]
  ·simp only[go_sem,qC,qG,qS,qW,h',h0,h1,h7,h8];rw[hb]at hI
   simp at hI
   refine⟨_,_,_,rfl,?_⟩
   simp only[go_sem,qW,h0,h1,h7,h8,aK h' hl];exact hI
 ·have:k=l.length:=by simp at hq;omega
  subst this;simp only[go_sem,qC,qG,qS,qW,h0,h1,h7,h8];rw[<-hI];simp[idxOf]
theorem aU4 (l:List aI)(h:Val)(p:aI->Bool)(hl:Few l.length)(hc:cY L (fun x:aI=> .agg [.int .i64 x.form,.int .i64 x.n,.fz (x.vals.map aG.enc),.fz (x.frames.map aB.enc)]) h p l):
  PC L 208 [.fz (l.map aI.enc),h] (.bool (l.any p)):=by
 refine aL bI8 rfl rfl ?_
 simp only[go_sem,qC,qG,qS,qW,aRr,hc.snap,hc.wk,(aX3 l h p hl hc).ret];rw[<-lK p l 0]
theorem qX (l:List aI)(h:Val)(p:aI->Bool)(hc:cY L (fun x:aI=> .agg [.int .i64 x.form,.int .i64 x.n,.fz (x.vals.map aG.enc),.fz (x.frames.map aB.enc)]) h p l)(x:aI)(hx:x∈l):
  PC L 209 [.agg [.int .i64 x.form,.int .i64 x.n,.fz (x.vals.map aG.enc),.fz (x.frames.map aB.enc)],.fp [h] 0] (.bool (!p x)):=by
 refine aL bI9 rfl rfl ?_
 simp only[go_sem,qC,qG,qS,qW,aRs]
 refine hc.call x hx _ _ ?_
 simp only[go_sem,qC,qG,qS,qW]
theorem sY (l:List aI)(h:Val)(p:aI->Bool)(hl:Few l.length)(hc:cY L (fun x:aI=> .agg [.int .i64 x.form,.int .i64 x.n,.fz (x.vals.map aG.enc),.fz (x.frames.map aB.enc)]) h p l):
  PC L 176 [.fz (l.map aI.enc),h] (.bool (l.all p)):=by
 have hd:cY L (fun x:aI=> .agg [.int .i64 x.form,.int .i64 x.n,.fz (x.vals.map aG.enc),.fz (x.frames.map aB.enc)]) (.fn 209 [] [.fp [h] 0]) (fun x=>!p x) l:=by
  refine⟨fun n en hn=>?_,rfl,rfl,rfl,fun x hx en K hK=>?_⟩
  ·obtain⟨m,rfl⟩: ∃m,n=m+4:=⟨n-4,by omega⟩
   simp only[go_sem,qW]
  ·simp only[go_sem,qW,(qX l h p hc x hx).ret];exact hK
 refine aL bIl rfl rfl ?_
 simp only[go_sem,qC,qG,qS,qW,aQ7,iX hc.one hc.cells,hc.snap,hc.wk,(aU4 l _ _ hl hd).ret];rw[<-bXi,bXj]
theorem aX4 (l:List aO)(h:Val)(p:aO->Bool)(hl:Few l.length)(hc:cY L (fun x:aO=> .agg [.int .i64 x.port,.int .i64 x.n]) h p l):
  PC L 248 [.fz (l.map aO.enc),h] (.int .i64 (idxOf p l 0)):=by
 refine aL bJ7 rfl rfl ?_
 simp only[go_sem,qC,qG,qS,qW,aSq]
 refine bF (l.length) (fun k st=> ∃fr en cnt,st=⟨fr,en,cnt⟩/\ (fr 0= .fz (l.map aO.enc))/\ (fr 1=h)/\ (fr 7= .int .i64 l.length)/\ (fr 8= .int .i64 k)/\ (idxOf p (l.drop k) k=idxOf p l 0)) 0 (bVn _) ⟨_,_,_,rfl,(by first|(simp only[go_sem,qW];(try rfl);done)|rfl|simp),(by first|(simp only[go_sem,qW];(try rfl);done)|rfl|simp),(by first|(simp only[go_sem,qW];(try rfl);done)|rfl|simp),(by first|(simp only[go_sem,qW];(try rfl);done)|rfl|simp),(by first|(simp only[go_sem,qW];(try rfl);done)|rfl|simp)⟩ ?_
 rintro k st hk ⟨fr,en,cnt,rfl,h0,h1,h7,h8,hI⟩
 simp only[go_sem,qC,qG,qS,qW,h0,h1,h7,h8]
 refine aA (fun hq=>?_) (fun hq=>?_)
 ·have h':k<l.length:=of_decide_eq_true hq;rw[bWc h',idxOf]at hI;simp only[go_sem,qC,qG,qS,qW,h',h0,h1,h7,h8]
  refine hc.call l[k] (bVp _) _ _ ?_
  simp only[go_sem,qC,qG,qS,qW,h0,h1,h7,h8]
  refine aA (fun hb=>?_) (fun hb=>?_)
  ·simp only[go_sem,qC,qG,qS,qW,h0,h1,h7,h8];rw[hb,if_pos rfl]at hI;rw[<-hI]
  ·simp only[go_sem,qC,qG,qS,qW,h',h0,h1,h7,h8];rw[hb]at hI
   simp at hI
   refine⟨_,_,_,rfl,?_⟩
   simp only[go_sem,qW,h0,h1,h7,h8,aK h' hl];exact hI
 ·have:k=l.length:=by simp at hq;omega
  subst this;simp only[go_sem,qC,qG,qS,qW,h0,h1,h7,h8];rw[<-hI];simp[idxOf]
theorem aU5 (l:List aO)(h:Val)(p:aO->Bool)(hl:Few l.length)(hc:cY L (fun x:aO=> .agg [.int .i64 x.port,.int .i64 x.n]) h p l):
  PC L 218 [.fz (l.map aO.enc),h] (.bool (l.any p)):=by
 refine aL bJi rfl rfl ?_
 simp only[go_sem,qC,qG,qS,qW,aR1,hc.snap,hc.wk,(aX4 l h p hl hc).ret];rw[<-lK p l 0]
theorem qY (l:List aO)(h:Val)(p:aO->Bool)(hc:cY L (fun x:aO=> .agg [.int .i64 x.port,.int .i64 x.n]) h p l)(x:aO)(hx:x∈l):
  PC L 219 [.agg [.int .i64 x.port,.int .i64 x.n],.fp [h] 0] (.bool (!p x)):=by
 refine aL bJj rfl rfl ?_
 simp only[go_sem,qC,qG,qS,qW,aR2]
 refine hc.call x hx _ _ ?_
 simp only[go_sem,qC,qG,qS,qW]
theorem sZ (l:List aO)(h:Val)(p:aO->Bool)(hl:Few l.length)(hc:cY L (fun x:aO=> .agg [.int .i64 x.port,.int .i64 x.n]) h p l):
  PC L 179 [.fz (l.map aO.enc),h] (.bool (l.all p)):=by
 have hd:cY L (fun x:aO=> .agg [.int .i64 x.port,.int .i64 x.n]) (.fn 219 [] [.fp [h] 0]) (fun x=>!p x) l:=by
  refine⟨fun n en hn=>?_,rfl,rfl,rfl,fun x hx en K hK=>?_⟩
  ·obtain⟨m,rfl⟩: ∃m,n=m+4:=⟨n-4,by omega⟩
   simp only[go_sem,qW]
  ·simp only[go_sem,qW,(qY l h p hc x hx).ret];exact hK
 refine aL bIo rfl rfl ?_
 simp only[go_sem,qC,qG,qS,qW,aRa,iX hc.one hc.cells,hc.snap,hc.wk,(aU5 l _ _ hl hd).ret];rw[<-bXi,bXj]
theorem gH (n lo hi:Int):PC L 181 [.int .i64 n,.int .i64 lo,.int .i64 hi] (.bool (inR n lo hi)):=by
 refine aL bIq rfl rfl ?_
 simp only[go_sem,qW,aRc]
 refine aY (fun h=>?_) (fun h=>?_)<;>simp only[go_sem,qW,h]<;>simp at h<;>simp[h,inR]
 omega
theorem pQ (n:Int):PC L 182 [.int .i64 n] (.bool (inR n (-1000000000) 1000000000)):=by
 refine aL bIr rfl rfl ?_
 simp only[go_sem,qC,qG,qS,qW,aRd,(gH _ _ _).ret]
theorem aAw (n:aJ):PC L 223 [.agg [.int .i64 n.op,.int .i64 n.n,.fz (n.kids.map (.int .i64)),.fz (n.pats.map Pat.enc)]] (.int .i64 n.asks):=by
 refine aL bJk rfl rfl ?_
 simp only[go_sem,qC,qG,qS,qW,aR3]
 repeat' ((first|with_reducible refine aA (fun h=>?_) (fun h=>?_)|with_reducible refine aE (fun h=>?_) (fun h=>?_))<;>(try simp only[bYb,bYc,bVq,bVz]at h)<;>try simp only[go_sem,qC,qG,qS,qW,h])
 all_goals simp[aJ.asks, *]
theorem wH (p:aQ)(w:aC)(v:aG)(hp:p.few)(hw:w.few):PC L 211 [.fp [.fz (p.nodes.map aJ.enc),.fz (p.funs.map (.int .i64)),.int .i64 p.main,.fz (p.cons.map bC.enc),.fz (w.objs.map aI.enc),.fz (w.tasks.map (.int .i64)),.fz (w.outs.map aO.enc),.fz (w.ins.map (.int .i64)),.int .i64 w.used] 0,.agg [.int .i64 v.kind,.int .i64 v.n]] (.bool (cJ p w v)):=by
 refine aL bJb rfl rfl ?_
 simp only[go_sem,qC,qG,qS,qW,aRu]
 repeat' ((first|with_reducible refine aA (fun h=>?_) (fun h=>?_)|with_reducible refine aE (fun h=>?_) (fun h=>?_))<;>(try simp only[bYb,bYc,bVq,bVz]at h)<;>try simp only[go_sem,qC,qG,qS,qW,h,(gH _ _ _).ret,(pQ _).ret,dD hp.funs,dD hw.objs])
 all_goals simp[cJ, *]
theorem aB4 (p:aQ)(w:aC)(hp:p.few)(hw:w.few)(l:List aG):cY L (fun x:aG=> .agg [.int .i64 x.kind,.int .i64 x.n]) (.fn 211 [.fp [.fz (p.nodes.map aJ.enc),.fz (p.funs.map (.int .i64)),.int .i64 p.main,.fz (p.cons.map bC.enc),.fz (w.objs.map aI.enc),.fz (w.tasks.map (.int .i64)),.fz (w.outs.map aO.enc),.fz (w.ins.map (.int .i64)),.int .i64 w.used] 0] []) (cJ p w) l:=by
 refine⟨fun n en hn=>?_,rfl,rfl,rfl,fun x hx en K hK=>?_⟩
 ·obtain⟨m,rfl⟩: ∃m,n=m+4:=⟨n-4,by omega⟩
  simp only[go_sem,qW]
 ·simp only[go_sem,qW,(wH p w x hp hw).ret];exact hK
theorem aFr (l:List Int)(hl:Few l.length):PC L 183 [.fz (l.map (.int .i64))] (.bool (lV l 50)):=by
 have ask:cY L (fun x:Int=> .int .i64 x) (.fn 182 [] []) (fun n=>inR n (-1000000000) 1000000000) l:=by
  refine⟨fun n en hn=>?_,rfl,rfl,rfl,fun x hx en K hK=>?_⟩
  ·obtain⟨m,rfl⟩: ∃m,n=m+4:=⟨n-4,by omega⟩
   simp only[go_sem,qW]
  ·simp only[go_sem,qW,(pQ x).ret];exact hK
 refine aL bIs rfl rfl ?_
 simp only[go_sem,qC,qG,qS,qW,aRe]
 refine aE (fun h=>?_) (fun h=>?_)
 ·simp only[go_sem,qC,qG,qS,qW,h,(uX l _ _ hl ask).ret]
  simp at h;simp[lV,h]
 ·simp only[go_sem,qC,qG,qS,qW,h]
  simp at h;simp[lV];intros;omega
theorem tA (o:aO):PC L 180 [.agg [.int .i64 o.port,.int .i64 o.n]] (.bool (rQ o)):=by
 refine aL bIp rfl rfl ?_
 simp only[go_sem,qC,qG,qS,qW,aRb,(gH _ _ _).ret]
 refine aE (fun h=>?_) (fun h=>?_)<;>simp only[go_sem,qC,qG,qS,qW,h,(pQ _).ret]<;>simp[rQ,h]
theorem wI (p:aQ)(w:aC)(f:aB)(hp:p.few)(hw:w.few)(hf:f.few):PC L 243 [.fp [.fz (p.nodes.map aJ.enc),.fz (p.funs.map (.int .i64)),.int .i64 p.main,.fz (p.cons.map bC.enc),.fz (w.objs.map aI.enc),.fz (w.tasks.map (.int .i64)),.fz (w.outs.map aO.enc),.fz (w.ins.map (.int .i64)),.int .i64 w.used] 0,.agg [.int .i64 f.node,.fz (f.env.map aG.enc),.fz (f.vals.map aG.enc)]] (.bool (bD p w f)):=by
 refine aL bJ2 rfl rfl ?_
 simp only[go_sem,qC,qG,qS,qW,aSl];have e:=dD hp.nodes
 try(refine vV ?_ ?_;· decide)
 simp only[go_sem,qC,qG,qS,qW,e,(gH _ _ _).ret]
 refine aE (fun h=>?_) (fun h=>?_)
 ·simp only[go_sem,qC,qG,qS,qW,h]
  refine aE (fun h2=>?_) (fun h2=>?_)
  ·simp only[go_sem,qC,qG,qS,qW,h,h2,bK,(aAw _).ret]
   refine aE (fun h3=>?_) (fun h3=>?_)
   ·simp only[go_sem,qC,qG,qS,qW,h,h2,h3,(jD _ _ _ hf.1 (aB4 p w hp hw _)).ret]
    refine aE (fun h4=>?_) (fun h4=>?_)
    ·simp only[go_sem,qC,qG,qS,qW,h,h2,h3,h4,(jD _ _ _ hf.2 (aB4 p w hp hw _)).ret]
     simp at h2 h3 h4
     simp[bD,aR,h,h2,h3];intros;simp_all
    ·simp only[go_sem,qC,qG,qS,qW,h,h2,h3,h4]
     simp at h2 h3 h4
     obtain⟨x,hx,hx2⟩:=h4;simp[bD,aR,h,h2,h3];intro hh;rw[hh x hx]at hx2;cases hx2
   ·simp only[go_sem,qC,qG,qS,qW,h,h2,h3]
    simp at h2 h3
    simp[bD,aR,h,h2];intros;omega
  ·simp only[go_sem,qC,qG,qS,qW,h,h2]
   simp at h2
   simp[bD,aR,h];intros;omega
 ·simp only[go_sem,qC,qG,qS,qW,h]
  simp at h
  simp[bD,h]
theorem xZ (p:aQ)(w:aC)(f:aB)(hn:inR f.node 0 (p.nodes.length-1)=true):PC L 244 [.fp [.fz (p.nodes.map aJ.enc),.fz (p.funs.map (.int .i64)),.int .i64 p.main,.fz (p.cons.map bC.enc),.fz (w.objs.map aI.enc),.fz (w.tasks.map (.int .i64)),.fz (w.outs.map aO.enc),.fz (w.ins.map (.int .i64)),.int .i64 w.used] 0,.agg [.int .i64 f.node,.fz (f.env.map aG.enc),.fz (f.vals.map aG.enc)]] (.bool (cN p f)):=by
 refine aL bJ3 rfl rfl ?_
 simp only[go_sem,qC,qG,qS,qW,aSm]
 refine vV ?_ ?_
 ·decide
 simp only[go_sem,qC,qG,qS,qW,hn,bK,(aAw _).ret];simp[cN]
theorem oG (p:aQ)(w:aC)(l:List aB)(m:Nat)(hp:p.few)(hw:w.few)(hl:Few l.length)(hf: ∀f∈l,f.few)(hm:m<=1):
  PC L 212 [.fp [.fz (p.nodes.map aJ.enc),.fz (p.funs.map (.int .i64)),.int .i64 p.main,.fz (p.cons.map bC.enc),.fz (w.objs.map aI.enc),.fz (w.tasks.map (.int .i64)),.fz (w.outs.map aO.enc),.fz (w.ins.map (.int .i64)),.int .i64 w.used] 0,.fz (l.map aB.enc),.int .i64 m] (.bool (bJ p w l&&(l.take (l.length-m)).all (cN p))):=by
 have ask1:cY L (fun x:aB=> .agg [.int .i64 x.node,.fz (x.env.map aG.enc),.fz (x.vals.map aG.enc)]) (.fn 243 [.fp [.fz (p.nodes.map aJ.enc),.fz (p.funs.map (.int .i64)),.int .i64 p.main,.fz (p.cons.map bC.enc),.fz (w.objs.map aI.enc),.fz (w.tasks.map (.int .i64)),.fz (w.outs.map aO.enc),.fz (w.ins.map (.int .i64)),.int .i64 w.used] 0] []) (bD p w) l:=by
  refine⟨fun n en hn=>?_,rfl,rfl,rfl,fun x hx en K hK=>?_⟩
  ·obtain⟨m,rfl⟩: ∃m,n=m+4:=⟨n-4,by omega⟩
   simp only[go_sem,qW]
  ·simp only[go_sem,qW,(wI p w x hp hw (hf x hx)).ret];exact hK
 refine aL bJc rfl rfl ?_
 simp only[go_sem,qC,qG,qS,qW,aRv]
 refine aE (fun h=>?_) (fun h=>?_)
 ·simp only[go_sem,qC,qG,qS,qW,h,(lS _ _ _ hl ask1).ret]
  refine aE (fun h2=>?_) (fun h2=>?_)
  ·have hok:bJ p w l=true:=by simp at h h2;simp[bJ,h];exact h2
   have ask2:cY L (fun x:aB=> .agg [.int .i64 x.node,.fz (x.env.map aG.enc),.fz (x.vals.map aG.enc)]) (.fn 244 [.fp [.fz (p.nodes.map aJ.enc),.fz (p.funs.map (.int .i64)),.int .i64 p.main,.fz (p.cons.map bC.enc),.fz (w.objs.map aI.enc),.fz (w.tasks.map (.int .i64)),.fz (w.outs.map aO.enc),.fz (w.ins.map (.int .i64)),.int .i64 w.used] 0] []) (cN p) (l.take (l.length-m)):=by
    refine⟨fun n en hn=>?_,rfl,rfl,rfl,fun x hx en K hK=>?_⟩
    ·obtain⟨m,rfl⟩: ∃m,n=m+4:=⟨n-4,by omega⟩
     simp only[go_sem,qW]
    ·simp only[go_sem,qW,(xZ p w x (mH hok x (bXp hx))).ret];exact hK
   have k1:=aAl hok;have e1:IntKind.i64.wrap ((l.length:Int)-m)=(l.length:Int)-m:=bM (by omega)
   have e2:max (0:Int) ((l.length:Int)-m)=((l.length-m:Nat):Int):=by omega
   simp only[go_sem,qC,qG,qS,qW,h,h2,e1,e2,qQ,Nat.sub_le,<-bXh,(lS _ _ _ (aE6 hl _) ask2).ret];simp[hok]
  ·simp only[go_sem,qC,qG,qS,qW,h,h2];have:bJ p w l=false:=by
    rw[<-bWi];intro hh;simp only[bJ,bVc]at hh;rw[hh.2]at h2;simp at h2
   simp[this]
 ·simp only[go_sem,qC,qG,qS,qW,h];have:bJ p w l=false:=by simp at h;simp[bJ];intros;omega
  simp[this]
def aHt (p:aQ)(w:aC)(o:aI):Bool:=
 if o.n=0 then(if(1:Int)<o.vals.length \/((o.frames.length:Int)=0/\ (o.vals.length:Int)=0)then false else bJ p w o.frames&&(o.frames.take (o.frames.length-(1-o.vals.length))).all (cN p))
 else if o.n=1 then decide ((o.vals.length:Int)=1)&&decide ((o.frames.length:Int)=0)
 else if o.n=2 \/o.n=3 \/o.n=4 then decide ((o.vals.length:Int)=0)&&decide ((o.frames.length:Int)=0)else false
theorem pV (p:aQ)(w:aC)(o:aI)(hp:p.few)(hw:w.few)(ho:o.few):PC L 213 [.fp [.fz (p.nodes.map aJ.enc),.fz (p.funs.map (.int .i64)),.int .i64 p.main,.fz (p.cons.map bC.enc),.fz (w.objs.map aI.enc),.fz (w.tasks.map (.int .i64)),.fz (w.outs.map aO.enc),.fz (w.ins.map (.int .i64)),.int .i64 w.used] 0,.agg [.int .i64 o.form,.int .i64 o.n,.fz (o.vals.map aG.enc),.fz (o.frames.map aB.enc)]] (.bool (aHt p w o)):=by
 refine aL bJd rfl rfl ?_
 simp only[go_sem,qC,qG,qS,qW,aRw]
 refine aA (fun h0=>?_) (fun h0=>?_)<;>simp only[bYb,bYc]at h0
 ·simp only[go_sem,qC,qG,qS,qW]
  repeat' ((first|with_reducible refine aA (fun h=>?_) (fun h=>?_)|with_reducible refine aE (fun h=>?_) (fun h=>?_))<;>(try simp only[bYb,bYc,bVq,bVz]at h)<;>try simp only[go_sem,qC,qG,qS,qW, *])
  all_goals try(simp[aHt, *];done)
  all_goals
   have hv:o.vals.length<=1:=by omega
   have e:IntKind.i64.wrap (1-(o.vals.length:Int))=((1-o.vals.length:Nat):Int):=by rw[bM (by omega)];omega
   simp only[go_sem,qC,qG,qS,qW,e,(oG p w o.frames (1-o.vals.length) hp hw ho.2.1 ho.2.2 (by omega)).ret]
   rw[aHt,if_pos h0,if_neg (by omega)]
 ·simp only[go_sem,qC,qG,qS,qW]
  repeat' ((first|with_reducible refine aA (fun h=>?_) (fun h=>?_)|with_reducible refine aE (fun h=>?_) (fun h=>?_))<;>(try simp only[bYb,bYc,bVq,bVz]at h)<;>try simp only[go_sem,qC,qG,qS,qW,h])
  all_goals simp[aHt, *]
  all_goals (intros;simp_all)
def aFs (p:aQ)(w:aC)(o:aI):Bool:=
 if o.form=1 then decide ((o.frames.length:Int)=0)&&inR o.n 0 (p.cons.length-1)&&decide ((o.vals.length:Int)=(p.cons.getD o.n.toNat default).args)
 else if o.form=2 then decide ((o.frames.length:Int)=0)&&inR o.n 0 (p.nodes.length-1)&&decide ((p.node o.n).op=5)&&decide ((o.vals.length:Int)<=30)
 else if o.form=3 then decide ((o.frames.length:Int)=0)&&decide (o.n=0)&&decide ((o.vals.length:Int)=1)
 else if o.form=4 then decide ((o.frames.length:Int)=0)&&decide (o.n=0)&&decide ((o.vals.length:Int)<=4)
 else if o.form=5 then decide (o.n=0)&&decide ((o.vals.length:Int)=0)&&decide ((0:Int)<o.frames.length)&&(bJ p w o.frames&&o.frames.all (cN p))&&decide ((p.node (o.frames.headD default).node).op=26)
 else if o.form=6 then aHt p w o else false
def aMb (p:aQ)(w:aC)(o:aI):Bool:=o.vals.all (cJ p w)&&aFs p w o
theorem aX5 (p:aQ)(w:aC)(o:aI)(hc: ∀c∈p.cons,c.args<=3):aMb p w o=dG p w o:=by
 have hargs:inR o.n 0 (p.cons.length-1)=true->(p.cons.getD o.n.toNat default).args<=3:=by
  intro h;simp only[inR,bYb]at h;have:o.n.toNat<p.cons.length:=by omega
  rw[bVm,bWo this];exact hc _ (bVp _)
 have vok: ∀m:Int,(o.vals.length:Int)<=m->aR p w o.vals m=o.vals.all (cJ p w):=by intro m h;simp[aR,h]
 have vno: ∀m:Int,m<(o.vals.length:Int)->aR p w o.vals m=false:=by intro m h;simp[aR];intros;omega
 generalize hV:o.vals.all (cJ p w)=V at vok;have nilV:o.vals.length=0->V=true:=by intro h;rw[<-hV,List.length_eq_zero_iff.1 h];rfl
 simp only[aMb,dG,hV]
 by_cases h6:o.form=6
 ·simp only[h6,if_true,aFs,hH,aHt];simp only[show¬(6:Int)=1 by decide,show¬(6:Int)=2 by decide,show¬(6:Int)=3 by decide,show¬(6:Int)=4 by decide,show¬(6:Int)=5 by decide,if_false]
  by_cases h0:o.n=0
  ·simp only[h0,if_true]
   by_cases h1:(1:Int)<o.vals.length
   ·simp[h1,vno 1 h1]
   ·rw[vok 1 (by omega)]
    by_cases h2:(o.frames.length:Int)=0/\ (o.vals.length:Int)=0
    ·simp only[h2,or_true,if_true];simp[h2.1,h2.2]
    ·rw[if_neg (by omega)]
     have:(0:Int)<o.frames.length+o.vals.length:=by omega
     have e:o.frames.length-(1-o.vals.length)=o.frames.length+o.vals.length-1:=by omega
     simp only[this,decide_true,e];cases V<;>cases bJ p w o.frames<;>simp
  ·simp only[h0,if_false]
   by_cases h1:o.n=1
   ·simp only[h1,if_true]
    by_cases hl:(o.vals.length:Int)=1
    ·rw[vok 1 (by omega)];simp only[hl,decide_true,bVy,bW7];cases V<;>simp
    ·simp only[hl,decide_false,bWn,bV5]
   ·simp only[h1,if_false];split
    ·by_cases hl:(o.vals.length:Int)=0
     ·have:=nilV (by omega);simp only[this,hl,decide_true,bVy,bW7]
     ·simp only[hl,decide_false,bWn,bV5]
    ·simp
 ·simp only[h6,if_false,aFs]
  by_cases h5:o.form=5
  ·simp only[h5,if_true];simp only[show¬(5:Int)=1 by decide,show¬(5:Int)=2 by decide,show¬(5:Int)=3 by decide,show¬(5:Int)=4 by decide,if_false]
   by_cases hl:(o.vals.length:Int)=0
   ·have:=nilV (by omega)
    simp only[this,bVy,Bool.and_assoc]
   ·simp only[hl,decide_false,bWn,bV5]
  ·simp only[h5,if_false]
   by_cases hf:(o.frames.length:Int)=0
   ·simp only[hf,not_true,if_false,decide_true,bVy]
    by_cases h1:o.form=1
    ·simp only[h1,if_true];cases hin:inR o.n 0 (p.cons.length-1)with
     |false=>simp
     |true=>
      have ha:=hargs hin
      by_cases hl:(o.vals.length:Int)=(p.cons.getD o.n.toNat default).args
      ·rw[vok 3 (by omega)];simp only[hl,decide_true,bVy,bW7]
      ·simp only[hl,decide_false,bWn,bV5]
    ·simp only[h1,if_false]
     by_cases h2:o.form=2
     ·simp only[h2,if_true]
      by_cases hl:(o.vals.length:Int)<=30
      ·rw[vok 30 hl];simp only[hl,decide_true,bW7];ac_rfl
      ·rw[vno 30 (by omega)];simp only[hl,decide_false,bWn,bV5]
     ·simp only[h2,if_false]
      by_cases h3:o.form=3
      ·simp only[h3,if_true]
       by_cases hl:(o.vals.length:Int)=1
       ·rw[vok 1 (by omega)];simp only[hl,decide_true,bW7];ac_rfl
       ·simp only[hl,decide_false,bWn,bV5]
      ·simp only[h3,if_false]
       by_cases h4:o.form=4
       ·simp only[h4,if_true]
        by_cases hl:(o.vals.length:Int)<=4
        ·rw[vok 4 hl];simp only[hl,decide_true,bW7];ac_rfl
        ·rw[vno 4 (by omega)];simp only[hl,decide_false,bWn,bV5]
       ·simp only[h4,if_false,bWn]
   ·simp only[hf,not_false_eq_true,if_true,decide_false,bV5]
    repeat' split
    all_goals simp
theorem vC (p:aQ)(w:aC)(o:aI)(hp:p.few)(hw:w.few)(ho:o.few):PC L 177 [.fp [.fz (p.nodes.map aJ.enc),.fz (p.funs.map (.int .i64)),.int .i64 p.main,.fz (p.cons.map bC.enc),.fz (w.objs.map aI.enc),.fz (w.tasks.map (.int .i64)),.fz (w.outs.map aO.enc),.fz (w.ins.map (.int .i64)),.int .i64 w.used] 0,.agg [.int .i64 o.form,.int .i64 o.n,.fz (o.vals.map aG.enc),.fz (o.frames.map aB.enc)]] (.bool (aMb p w o)):=by
 refine aL bIm rfl rfl ?_
 simp only[go_sem,qC,qG,qS,qW,aQ8,(jD _ _ _ ho.1 (aB4 p w hp hw _)).ret]
 refine aA (fun hv=>?_) (fun hv=>?_)
 ·have hv':o.vals.all (cJ p w)=false:=by rw[<-bWh];exact hv
  simp only[go_sem,qC,qG,qS,qW];rw[aMb,hv'];rfl
 ·have hv':o.vals.all (cJ p w)=true:=by simpa using hv
  rw[aMb,hv',bVy];clear hv hv';simp only[go_sem,qC,qG,qS,qW];have hfr:=oG p w o.frames 0 hp hw ho.2.1 ho.2.2 (by omega)
  simp only[Nat.sub_zero,bWf,Int.natCast_zero]at hfr
  repeat' ((first|with_reducible refine aA (fun h=>?_) (fun h=>?_)|with_reducible refine aE (fun h=>?_) (fun h=>?_))<;>(try simp only[bYb,bYc,bVq,bVz]at h)<;>try simp only[go_sem,qC,qG,qS,qW, *,(gH _ _ _).ret,dD hp.nodes,dD hp.cons,bK,aBy,hfr.ret,(pV p w o hp hw ho).ret])
  all_goals try(simp[aFs, *];done)
  all_goals try(simp[aFs, *];intros;simp_all;done)
  ·rename_i g1 g2 g3 g4 g5 g6 g7 g8;have hpos:0<o.frames.length:=by omega
   have h2:=h;simp only[bVc]at h2;have hn:inR (o.frames.headD default).node 0 (p.nodes.length-1)=true:=mH h2.1 _ (by cases hh:o.frames with|nil=>simp[hh]at hpos|cons a l=>simp)
   simp only[go_sem,qC,qG,qS,qW,h,aHo hpos,hn,bK];simp only[aFs,if_neg g1,if_neg g2,if_neg g3,if_neg g4,g5,g6,g7,h];simp[*]
  ·rename_i g1 g2 g3 g4 g5;have ht:=pV p w o hp hw ho;rw[h]at ht;simp only[go_sem,qC,qG,qS,qW,ht.ret];simp only[aFs,if_neg g1,if_neg g2,if_neg g3,if_neg g4,if_neg g5,h,if_true];simp
theorem aDl (n:Nat):PC L 216 [.int .i64 n] (.fn 247 [] [.fp [.int .i64 n] 0]):=by
 refine aL bJg rfl rfl ?_
 simp only[go_sem,qC,qG,qW,aRz]
theorem aOm (n:Nat)(hn:n<=1000):PC L 215 [.fn 247 [] [.fp [.int .i64 n] 0]] (.fz ((List.range n).map fun(i:Nat)=> .int .i64 i)):=by
 have hf:Few n:=by unfold Few;omega
 refine aL bJf rfl rfl ?_
 simp only[go_sem,qC,qG,qW,aRy]
 refine mX bJ5 rfl rfl ?_
 simp only[go_sem,qC,qG,qW,aSo,iX (v:= .cl []) rfl rfl]
 refine aAi (f:=247) (x:=[]) (y:=[.fp [.int .i64 n] 0]) ?_ ?_
 ·simp only[go_sem,qW]
 intro fr0 key hfr0 hkey;have h2:fr0 2= .ptr ⟨0,2,0⟩ 0:=by rw[hfr0];simp only[go_sem,qW]
 have hk1:key=⟨1,0,0⟩:=by rw[hkey];rfl
 subst hk1;clear hkey hfr0
 refine mX bJ6 rfl rfl ?_
 simp only[go_sem,qC,qG,qW,aSp]
 refine bF n (fun k st=> ∃fr en cnt v,st=⟨fr,en,cnt⟩/\ fr 0= .yld ⟨1,0,0⟩/\ fr 4= .int .i64 n/\ fr 5= .int .i64 k/\ en ⟨1,0,0⟩=some (.loop fr0 [7] (.ops [o 5 (.mv (.t 7))]) (.block 1 (.ops [o 8 (.load false 1 (.t 2)),o 9 (.mv (.t 5)),o 10 (.bslice 1 1 [(.int .i64 0)] [(0,(.t 9))]),o 11 (.append 1 (.t 8) (.t 10)),on (.store 1 (.t 2) (.t 11))])) .ready)/\ en ⟨0,2,0⟩=some (.box [v] false)/\ cE en v 1 ((List.range k).map fun(i:Nat)=> .int .i64 i) [11]) 0 (bVn _) ⟨_,_,_,.cl [],rfl,by simp only[go_sem,qW],by simp only[go_sem,qW],by simp only[go_sem,qW],by simp only[go_sem,qW],by simp only[go_sem,qW],cE.nil _ _⟩ ?_
 rintro k st hk ⟨fr,en,cnt,v,rfl,h0,h4,h5,e1,e2,hm⟩
 simp only[go_sem,qC,qG,qW,h0,h4,h5]
 refine aA (fun hq=>?_) (fun hq=>?_)
 ·have h':k<n:=of_decide_eq_true hq;simp only[go_sem,qC,qG,qW,h',h0,h4,h5]
  refine aDq (fr:=fr0) (ps:=[7]) (a:=(.ops [o 5 (.mv (.t 7))])) (b:=(.block 1 (.ops [o 8 (.load false 1 (.t 2)),o 9 (.mv (.t 5)),o 10 (.bslice 1 1 [(.int .i64 0)] [(0,(.t 9))]),o 11 (.append 1 (.t 8) (.t 10)),on (.store 1 (.t 2) (.t 11))]))) e1 rfl ?_
  simp only[go_sem,qC,qG,qW,h2,e1,e2]
  refine pF (D:=[11]) (xs:=(List.range k).map fun(i:Nat)=>Val.int .i64 i) (ys:=[.int .i64 k]) (rs:=[]) ?_ ?_ ?_ ?_ ?_
  ·simp only[go_sem,qW];exact hm.keep fun t g ht=>by simp at ht;subst ht;simp only[go_sem,qW]
  ·simp only[go_sem,qW]
  ·rfl
  ·simp;omega
  ·intro v' en' cnt' hown hen hcnt;obtain⟨s1,s2⟩:=hown.shape;have k1:en' ⟨1,0,0⟩=some (.loop fr0 [7] (.ops [o 5 (.mv (.t 7))]) (.block 1 (.ops [o 8 (.load false 1 (.t 2)),o 9 (.mv (.t 5)),o 10 (.bslice 1 1 [(.int .i64 0)] [(0,(.t 9))]),o 11 (.append 1 (.t 8) (.t 10)),on (.store 1 (.t 2) (.t 11))])) .busy):=by rw[hen 1 0 0 (.inl (by decide))];simp only[go_sem,qW]
   have k2:en' ⟨0,2,0⟩=some (.box [v] false):=by rw[hen 0 2 0 (.inr ⟨by decide,by simp⟩)];simp only[go_sem,qW,e2]
   simp only[go_sem,qC,qG,qW,h',h2,s1,s2,k1,k2];simp only[go_sem,qC,qG,qW,h0,h4,h5]
   refine⟨_,_,_,v',rfl,?_⟩
   simp only[go_sem,qC,qG,qW,h0,h4,h5,k2,aK h' hf]
   refine cE.sub (D:=[11,11]) (cE.keep (en:=en') ?_ ?_) (by simp)
   ·rw[bVx];exact hown
   ·intro t g ht;simp at ht;subst ht;simp only[go_sem,qW]
 ·have:k=n:=by simp at hq;omega
  subst this;simp only[go_sem,qC,qG,qW,e1];obtain⟨r,ks,s1,s2,_⟩:=aAr (hm.keep (en':=en.set ⟨1,0,0⟩ none) fun t g ht=>by simp at ht;subst ht;simp only[go_sem,qW])
  simp only[go_sem,qC,qG,qW,e2,s1,s2]
theorem wJ (n:Int): ∀ks:List Int,(∃i,findKey .num (.int .i64 n) (ks.map (.int .i64))=some (some i)/\ (ks.any fun x=>decide (x=n))=true/\ (ks.map (Val.int .i64)).set i (.int .i64 n)=ks.map (.int .i64)/\ i<ks.length) \/
  (findKey .num (.int .i64 n) (ks.map (.int .i64))=some none/\ (ks.any fun x=>decide (x=n))=false)
 |[]=> .inr ⟨rfl,rfl⟩
 |x::ks=>by
  have he:mB .num (.int .i64 n) (.int .i64 x)=some (n==x):=by simp[mB]
  by_cases h:n=x
  ·subst h
   refine .inl ⟨0,?_,by simp,by simp,by simp⟩
   simp only[bV9,findKey,he,beq_self_eq_true]
  ·have hb:(n==x)=false:=by simpa using h
   have hx:decide (x=n)=false:=by simp;exact fun e=>h e.symm
   rcases wJ n ks with⟨i,h1,h2,h3,h4⟩|⟨h1,h2⟩
   ·refine .inl ⟨i+1,?_,?_,by simp[h3],by simp;exact h4⟩
    ·simp only[bV9,findKey,he,hb,h1]
    ·simp only[List.any_cons,hx,bWz];exact h2
   ·refine .inr ⟨?_,?_⟩
    ·simp only[bV9,findKey,he,hb,h1]
    ·simp only[List.any_cons,hx,bWz];exact h2
theorem aHu (n:Int)(ks:List Int):tU .num (.bool false) false (.int .i64 n) (ks.map (.int .i64)) (ks.map fun _=> .bool true)=some (.bool (ks.any fun x=>decide (x=n))):=by
 unfold tU;rcases wJ n ks with⟨i,h1,h2,_,h4⟩|⟨h1,h2⟩
 ·simp[h1,h2,bVm,h4]
 ·simp[h1,h2]
def xT (w:aC)(ks:List Int):Bool:=(List.range w.objs.length).all fun i=>(ks.any fun x=>decide (x=(i:Int)))||!bH (w.obj i)
def qZ (w:aC):Bool:=aZ w [] w.tasks&&xT w w.tasks
theorem tB (p:aQ)(w:aC)(ks:List Int)(i:Nat)(hi:i<w.objs.length):
  PC L 217 [.int .i64 i,.fp [.fm (ks.map (.int .i64)) (ks.map fun _=> .bool true)] 0,.fp [.fp [.fz (p.nodes.map aJ.enc),.fz (p.funs.map (.int .i64)),.int .i64 p.main,.fz (p.cons.map bC.enc),.fz (w.objs.map aI.enc),.fz (w.tasks.map (.int .i64)),.fz (w.outs.map aO.enc),.fz (w.ins.map (.int .i64)),.int .i64 w.used] 0] 0] (.bool ((ks.any fun x=>decide (x=(i:Int)))||!bH (w.obj i))):=by
 have hin:inR (i:Int) 0 (w.objs.length-1)=true:=by simp[inR];omega
 refine aL bJh rfl rfl ?_
 simp only[go_sem,qC,qG,qW,aR0,aHu]
 refine aE (fun h=>?_) (fun h=>?_)
 ·simp only[go_sem,qC,qG,qW,h,tV,hin];simp[bH]
 ·simp only[go_sem,qC,qG,qW,h,bVz];simp
theorem aOn {k:Key}:Val.one (.mp k)=true:=(rfl)
theorem aFt {k:Key}:Val.cells (.mp k)=[.mp k]:=(rfl)
theorem aX6 {n:Nat}{en:En}{k:Key}:snapD (n+1) en (.mp k)=(match en k with
   |some (.map ks vs _)=>some (.fm ks vs,[k])
   |_=>none):=(rfl)
theorem wK (p:aQ)(w:aC)(hw:w.few)(hn:w.objs.length<=1000):PC L 178 [.fp [.fz (p.nodes.map aJ.enc),.fz (p.funs.map (.int .i64)),.int .i64 p.main,.fz (p.cons.map bC.enc),.fz (w.objs.map aI.enc),.fz (w.tasks.map (.int .i64)),.fz (w.outs.map aO.enc),.fz (w.ins.map (.int .i64)),.int .i64 w.used] 0] (.bool (qZ w)):=by
 have e:=dD hw.objs
 refine aL bIn rfl rfl ?_
 simp only[go_sem,qC,qG,qW,aQ9,iX (v:= .fp [.fz (p.nodes.map aJ.enc),.fz (p.funs.map (.int .i64)),.int .i64 p.main,.fz (p.cons.map bC.enc),.fz (w.objs.map aI.enc),.fz (w.tasks.map (.int .i64)),.fz (w.outs.map aO.enc),.fz (w.ins.map (.int .i64)),.int .i64 w.used] 0) rfl rfl,aOn,aFt]
 refine bF w.tasks.length (fun k st=> ∃fr en cnt,st=⟨fr,en,cnt⟩/\ fr 1= .ptr ⟨0,1,0⟩ 0/\ en ⟨0,1,0⟩=some (.box [.fp [.fz (p.nodes.map aJ.enc),.fz (p.funs.map (.int .i64)),.int .i64 p.main,.fz (p.cons.map bC.enc),.fz (w.objs.map aI.enc),.fz (w.tasks.map (.int .i64)),.fz (w.outs.map aO.enc),.fz (w.ins.map (.int .i64)),.int .i64 w.used] 0] false)/\ fr 3= .ptr ⟨0,3,0⟩ 0/\ en ⟨0,3,0⟩=some (.box [.mp ⟨0,6,0⟩] false)/\
  en ⟨0,6,0⟩=some (.map ((w.tasks.take k).map (.int .i64)) ((w.tasks.take k).map fun _=> .bool true) false)/\ fr 11= .fz (w.tasks.map (.int .i64))/\ fr 12= .int .i64 w.tasks.length/\ fr 13= .int .i64 k/\ aZ w (w.tasks.take k) (w.tasks.drop k)=aZ w [] w.tasks) 0 (bVn _)
  ⟨_,_,_,rfl,by simp only[go_sem,qW],by simp only[go_sem,qW],by simp only[go_sem,qW],by simp only[go_sem,qW],by simp only[go_sem,qW],by simp only[go_sem,qW],by simp only[go_sem,qW],by simp only[go_sem,qW],rfl⟩ ?_
 rintro k st hk ⟨fr,en,cnt,rfl,h1,e1,h3,e3,e6,h11,h12,h13,hI⟩
 simp only[go_sem,qC,qG,qW,h11,h12,h13]
 refine aA (fun hq=>?_) (fun hq=>?_)
 ·have h':k<w.tasks.length:=of_decide_eq_true hq;rw[bWc h',aZ]at hI;simp only[go_sem,qC,qG,qW,h',h1,e1,h3,e3,h11,h12,h13,(gH _ _ _).ret,e]
  refine aE (fun hb=>?_) (fun hb=>?_)
  ·simp at hb
   simp only[go_sem,qC,qG,qW,hb,bVq,h1,e1,h3,e3,tV]
   refine aE (fun hc=>?_) (fun hc=>?_)
   ·have hc':bH (w.obj w.tasks[k])=true:=by simpa[bH]using hc
    simp only[go_sem,qC,qG,qW,hc,h1,e1,h3,e3,e6,aHu]
    refine aA (fun hd=>?_) (fun hd=>?_)
    ·simp only[go_sem,qC,qG,qW];rw[hb,hc',hd]at hI;rw[qZ,<-hI];rfl
    ·rw[hb,hc',hd]at hI;simp only[bVz,bVy]at hI;rcases wJ w.tasks[k] (w.tasks.take k)with⟨i,f1,f2,_⟩|⟨f1,_⟩
     ·rw[hd]at f2;cases f2
     ·simp only[go_sem,qC,qG,qW,h',h1,e1,h3,e3,e6,h11,h12,h13,f1]
      refine⟨_,_,_,rfl,?_⟩
      simp only[go_sem,qC,qG,qW,h',h1,e1,h3,e3,e6,h11,h12,h13,dE h',bVx,aK h' hw.tasks];exact hI
   ·have hc':bH (w.obj w.tasks[k])=false:=by simp at hc;simp[bH,hc]
    simp only[go_sem,qC,qG,qW,hc];rw[hb,hc']at hI;rw[qZ,<-hI];rfl
  ·simp at hb
   simp only[go_sem,qC,qG,qW,hb,bVz];rw[hb]at hI;rw[qZ,<-hI];rfl
 ·have:k=w.tasks.length:=by simp at hq;omega
  subst this;rw[bWf]at e6 hI;rw[bW8,aZ]at hI;have hp: ∀i:Nat,i<w.objs.length->PC L 217 [.int .i64 i,.fp [.fm (w.tasks.map (.int .i64)) (w.tasks.map fun _=> .bool true)] 0,.fp [.fp [.fz (p.nodes.map aJ.enc),.fz (p.funs.map (.int .i64)),.int .i64 p.main,.fz (p.cons.map bC.enc),.fz (w.objs.map aI.enc),.fz (w.tasks.map (.int .i64)),.fz (w.outs.map aO.enc),.fz (w.ins.map (.int .i64)),.int .i64 w.used] 0] 0] (.bool ((w.tasks.any fun x=>decide (x=(i:Int)))||!bH (w.obj i))):=fun i hi=>tB p w w.tasks i hi
  have ask:cY L (fun x:Int=> .int .i64 x) (.fn 217 [] [.fp [.fm (w.tasks.map (.int .i64)) (w.tasks.map fun _=> .bool true)] 0,.fp [.fp [.fz (p.nodes.map aJ.enc),.fz (p.funs.map (.int .i64)),.int .i64 p.main,.fz (p.cons.map bC.enc),.fz (w.objs.map aI.enc),.fz (w.tasks.map (.int .i64)),.fz (w.outs.map aO.enc),.fz (w.ins.map (.int .i64)),.int .i64 w.used] 0] 0]) (fun j=>(w.tasks.any fun x=>decide (x=j))||!bH (w.obj j)) ((List.range w.objs.length).map fun(i:Nat)=>(i:Int)):=by
   refine⟨fun n en hn=>?_,rfl,rfl,rfl,fun x hx en K hK=>?_⟩
   ·obtain⟨m,rfl⟩: ∃m,n=m+4:=⟨n-4,by omega⟩
    simp only[go_sem,qW]
   ·obtain⟨i,hi,rfl⟩:=bV4.1 hx;simp only[go_sem,qW,(hp i (by simpa using hi)).ret]
    exact hK
  have hall:=uX _ _ _ (by simpa using hw.objs) ask
  have he:List.map (Val.int .i64) ((List.range w.objs.length).map fun(i:Nat)=>(i:Int))=(List.range w.objs.length).map fun(i:Nat)=>Val.int .i64 i:=by simp
  rw[he]at hall;simp only[go_sem,qC,qG,qW,h1,e1,h3,e3,e6,(aDl _).ret,(aOm _ hn).ret,aX6,hall.ret];rw[qZ,<-hI,bVy,xT,List.all_map];rfl
theorem aAx : ∀(l N:List Nat),l.Nodup->(∀x∈l,x∈N)->l.length<=N.length
 |[],N,_,_=>bVn _
 |x::l,N,hn,hs=>by
  have hx:x∈N:=hs x (by simp)
  rw[List.nodup_cons]at hn;have:=aAx l (N.erase x) hn.2 fun y hy=>by
   rw[List.mem_erase_of_ne (by rintro rfl;exact hn.1 hy)]
   exact hs y (by simp[hy])
  rw[List.length_erase_of_mem hx]at this;have:=List.length_pos_of_mem hx;simp only[bVu];omega
def rA (w:aC):List Nat:=(List.range w.objs.length).filter fun(i:Nat)=>bH (w.obj (i:Int))
theorem uE (w:aC):(rA w).length=w.objs.countP bH:=by
 have h:w.objs=(List.range w.objs.length).map fun(i:Nat)=>w.obj (i:Int):=by
  refine bXq (by simp) fun i h1 h2=>?_
  simp[aC.obj,bVm,h1]
 conv=>rhs;rw[h,List.countP_map]
 rw[rA,List.countP_eq_length_filter];rfl
theorem wL (w:aC): ∀(l met:List Int),aZ w met l=true->(∀x∈l,inR x 0 (w.objs.length-1)=true/\ bH (w.obj x)=true)/\ (l.map Int.toNat).Nodup/\ ∀x∈l,x∉met
 |[],met,_=>by simp
 |x::l,met,h=>by
  simp only[aZ,bVc]at h;obtain⟨⟨⟨h1,h2⟩,h3⟩,h4⟩:=h;obtain⟨k1,k2,k3⟩:=wL w l (met++[x]) h4;have hxm:x∉met:=by
   intro hm;simp only[bWh,List.any_eq_false]at h3;exact absurd (h3 x hm) (by simp)
  refine⟨fun y hy=>?_,?_,fun y hy=>?_⟩
  ·rcases bWe.1 hy with rfl|hy
   ·exact⟨h1,h2⟩
   ·exact k1 y hy
  ·rw[bV9,List.nodup_cons]
   refine⟨fun hm=>?_,k2⟩
   obtain⟨y,hy,he⟩:=bV4.1 hm;have a:=(k1 y hy).1;simp only[inR,bYb]at a h1;have:y=x:=by omega
   subst this;exact k3 y hy (by simp)
  ·rcases bWe.1 hy with rfl|hy
   ·exact hxm
   ·exact fun hm=>k3 y hy (by simp[hm])
theorem zL (w:aC):qZ w=iJ w:=by
 unfold qZ iJ;cases hd:aZ w [] w.tasks with
 |false=>simp
 |true=>
  obtain⟨k1,k2,_⟩:=wL w _ _ hd;have hsub: ∀x∈w.tasks.map Int.toNat,x∈rA w:=by
   intro x hx;obtain⟨y,hy,rfl⟩:=bV4.1 hx;obtain⟨a,b⟩:=k1 y hy;have a':=a;simp only[inR,bYb]at a'
   refine bW5.2 ⟨bW4.2 (by omega),?_⟩
   rw[bXr a'.1];exact b
  have hle:=aAx _ _ k2 hsub;rw[uE,bVk]at hle;simp only[bVy,bW7];have hcov:xT w w.tasks=true↔ ∀x∈rA w,x∈w.tasks.map Int.toNat:=by
   simp only[xT,bVo,bW4,Bool.or_eq_true,bWh,rA,bW5,bXk,bYb];constructor
   ·rintro h x ⟨hx,ht⟩
    rcases h x hx with⟨y,hy,he⟩|hf
    ·exact bV4.2 ⟨y,hy,by omega⟩
    ·rw[ht]at hf;cases hf
   ·intro h x hx;cases ht:bH (w.obj (x:Int))with
    |false=>exact .inr rfl
    |true=>
     obtain⟨y,hy,he⟩:=bV4.1 (h x ⟨hx,ht⟩);have a:=(k1 y hy).1;simp only[inR,bYb]at a;exact .inl ⟨y,hy,by omega⟩
  rw[Bool.eq_iff_iff,hcov,bYb];constructor
  ·intro h;have hN:(rA w).Nodup:=List.Pairwise.filter _ List.nodup_range;have:=aAx _ _ hN h;rw[uE,bVk]at this;omega
  ·intro he x hx
   by_cases hm:x∈w.tasks.map Int.toNat
   ·exact hm
   ·exfalso
    have:=aAx (x::w.tasks.map Int.toNat) (rA w) (List.nodup_cons.2 ⟨hm,k2⟩) fun y hy=>by
     rcases bWe.1 hy with rfl|hy
     ·exact hx
     ·exact hsub y hy
    rw[uE,bVu,bVk]at this;omega
def sJ (p:aQ)(w:aC):Bool:=
 decide ((w.objs.length:Int)<=120)&&w.objs.all (aMb p w)&&qZ w&&decide ((w.outs.length:Int)<=100)&&w.outs.all rQ&&lV w.ins 50&&inR w.used 0 1000000000
theorem wM (p:aQ)(w:aC)(hp:p.few)(hw:w.few):PC L 142 [.fp [.fz (p.nodes.map aJ.enc),.fz (p.funs.map (.int .i64)),.int .i64 p.main,.fz (p.cons.map bC.enc),.fz (w.objs.map aI.enc),.fz (w.tasks.map (.int .i64)),.fz (w.outs.map aO.enc),.fz (w.ins.map (.int .i64)),.int .i64 w.used] 0] (.bool (sJ p w)):=by
 have ask:cY L (fun x:aI=> .agg [.int .i64 x.form,.int .i64 x.n,.fz (x.vals.map aG.enc),.fz (x.frames.map aB.enc)]) (.fn 177 [.fp [.fz (p.nodes.map aJ.enc),.fz (p.funs.map (.int .i64)),.int .i64 p.main,.fz (p.cons.map bC.enc),.fz (w.objs.map aI.enc),.fz (w.tasks.map (.int .i64)),.fz (w.outs.map aO.enc),.fz (w.ins.map (.int .i64)),.int .i64 w.used] 0] []) (aMb p w) w.objs:=by
  refine⟨fun n en hn=>?_,rfl,rfl,rfl,fun x hx en K hK=>?_⟩
  ·obtain⟨m,rfl⟩: ∃m,n=m+4:=⟨n-4,by omega⟩
   simp only[go_sem,qW]
  ·simp only[go_sem,qW,(vC p w x hp hw (hw.obj x hx)).ret];exact hK
 have ask2:cY L (fun x:aO=> .agg [.int .i64 x.port,.int .i64 x.n]) (.fn 180 [] []) rQ w.outs:=by
  refine⟨fun n en hn=>?_,rfl,rfl,rfl,fun x hx en K hK=>?_⟩
  ·obtain⟨m,rfl⟩: ∃m,n=m+4:=⟨n-4,by omega⟩
   simp only[go_sem,qW]
  ·simp only[go_sem,qW,(tA x).ret];exact hK
 refine aL bH1 rfl rfl ?_
 simp only[go_sem,qC,qG,qW,aQo]
 refine aE (fun h1=>?_) (fun h1=>?_)
 ·have hn:w.objs.length<=1000:=by simp at h1;omega
  have ht:=wK p w hw hn;simp only[go_sem,qC,qG,qW,h1,(sY _ _ _ hw.objs ask).ret]
  refine aE (fun h2=>?_) (fun h2=>?_)
  ·simp only[go_sem,qC,qG,qW,h2,ht.ret]
   refine aE (fun h3=>?_) (fun h3=>?_)
   ·simp only[go_sem,qC,qG,qW,h3]
    refine aE (fun h4=>?_) (fun h4=>?_)
    ·simp only[go_sem,qC,qG,qW,h4,(sZ _ _ _ hw.outs ask2).ret]
     refine aE (fun h5=>?_) (fun h5=>?_)
     ·simp only[go_sem,qC,qG,qW,h5,(aFr _ hw.ins).ret]
      refine aE (fun h6=>?_) (fun h6=>?_)
      ·simp only[go_sem,qC,qG,qW,h6,(gH _ _ _).ret];simp only[sJ,h1,h2,h3,h4,h5,h6,bVy]
      ·simp only[go_sem,qC,qG,qW,h6,bVq];simp only[sJ,h1,h2,h3,h4,h5,h6,bVq,bVy,bV5]
     ·simp only[go_sem,qC,qG,qW,h5,bVq];simp only[sJ,h1,h2,h3,h4,h5,bVq,bVy,bV5,bWn]
    ·simp only[go_sem,qC,qG,qW,h4,bVq];simp only[sJ,h1,h2,h3,h4,bVq,bVy,bV5,bWn]
   ·simp only[go_sem,qC,qG,qW,h3,bVq];simp only[sJ,h1,h2,h3,bVq,bVy,bV5,bWn]
  ·simp only[go_sem,qC,qG,qW,h2,bVq];simp only[sJ,h1,h2,bVq,bVy,bV5,bWn]
 ·simp only[go_sem,qC,qG,qW,h1,bVq];simp only[sJ,h1,bVq,bVy,bV5,bWn]
theorem aMc {p:aQ}(h:fU p=true): ∀c∈p.cons,c.args<=3:=by
 intro c hc;simp only[fU,tW,bVc]at h;have:=bVo.1 h.1.2.1.1 c hc;simp only[rS,inR,bVc,bYb]at this;omega
theorem aOo (p:aQ)(w:aC)(h:fU p=true):sJ p w=fY p w:=by
 have:w.objs.all (aMb p w)=w.objs.all (dG p w):=by
  congr 1;funext o;exact aX5 p w o (aMc h)
 simp only[sJ,fY,this,zL]
 ac_rfl
theorem yJ (p:aQ)(w:aC)(hp:p.few)(hw:w.few)(hs:aT p=true):PC L 61 [.agg [.fz (p.nodes.map aJ.enc),.fz (p.funs.map (.int .i64)),.int .i64 p.main,.fz (p.cons.map bC.enc)],.agg [.fz (w.objs.map aI.enc),.fz (w.tasks.map (.int .i64)),.fz (w.outs.map aO.enc),.fz (w.ins.map (.int .i64)),.int .i64 w.used]] (.int .i64 (if gG p w then 0 else 2)):=by
 have hrun: ∃r,PC L 106 [.agg [.fz (p.nodes.map aJ.enc),.fz (p.funs.map (.int .i64)),.int .i64 p.main,.fz (p.cons.map bC.enc)],.agg [.fz (w.objs.map aI.enc),.fz (w.tasks.map (.int .i64)),.fz (w.outs.map aO.enc),.fz (w.ins.map (.int .i64)),.int .i64 w.used]] (.tup [r,.bool (gG p w)])/\ oN r=false/\ (∀n en,6<=n->snapD n en r=some (r,[])):=by
  cases hf:fU p with
  |false=>
   refine⟨.nilp,?_,rfl,fun n en hn=>?_⟩
   ·refine aL bCe rfl rfl ?_
    have hb:=yI p hp hs;rw[hf]at hb;simp only[go_sem,qC,qG,qW,aLi,hb.ret];simp[gG,hf]
   ·obtain⟨m,rfl⟩: ∃m,n=m+1:=⟨n-1,by omega⟩
    rfl
  |true=>
   refine⟨.fp [.fz (p.nodes.map aJ.enc),.fz (p.funs.map (.int .i64)),.int .i64 p.main,.fz (p.cons.map bC.enc),.fz (w.objs.map aI.enc),.fz (w.tasks.map (.int .i64)),.fz (w.outs.map aO.enc),.fz (w.ins.map (.int .i64)),.int .i64 w.used] 0,?_,rfl,fun n en hn=>?_⟩
   ·refine aL bCe rfl rfl ?_
    have hb:=yI p hp hs;rw[hf]at hb;simp only[go_sem,qC,qG,qW,aLi,hb.ret,(wM p w hp hw).ret];rw[aOo p w hf];simp[gG,hf]
   ·obtain⟨m,rfl⟩: ∃m,n=m+1:=⟨n-1,by omega⟩
    rfl
 obtain⟨r,hr,hr1,hr2⟩:=hrun
 refine aL bSp rfl rfl ?_
 simp only[go_sem,qC,qG,qW,bAm,hr.ret];cases hg:gG p w<;>simp only[go_sem,qC,qG,qW,hg,bVq,bVz]
theorem wN (o:aI):PC L 64 [.agg [.int .i64 o.form,.int .i64 o.n,.fz (o.vals.map aG.enc),.fz (o.frames.map aB.enc)]] (.bool (bH o)):=by
 refine aL bSr rfl rfl ?_
 simp only[go_sem,qC,qG,qW,bAo];simp[bH]
theorem aAy (s:aX):PC L 116 [.fp [.fz (s.world.objs.map aI.enc),.fz (s.world.tasks.map (.int .i64)),.fz (s.world.outs.map aO.enc),.fz (s.world.ins.map (.int .i64)),.int .i64 s.world.used,.fz (s.ages.map (.int .i64)),.fz (s.marks.map (.int .i64)),.int .i64 s.cycle] 0] (.bool (decide (s.cycle=3))):=by
 refine aL bHl rfl rfl ?_
 simp only[go_sem,qC,qG,qW,aP9]
theorem wO (s:aX)(k:Nat)(hk:k<s.ages.length):PC L 117 [.fp [.fz (s.world.objs.map aI.enc),.fz (s.world.tasks.map (.int .i64)),.fz (s.world.outs.map aO.enc),.fz (s.world.ins.map (.int .i64)),.int .i64 s.world.used,.fz (s.ages.map (.int .i64)),.fz (s.marks.map (.int .i64)),.int .i64 s.cycle] 0,.int .i64 k] (.bool (decide (s.ages[k]=2))):=by
 refine aL bHm rfl rfl ?_
 simp only[go_sem,qC,qG,qW,aQa,hk]
def RI (s:aX)(k:Nat)(fr0:Nat->Val)(gk:Nat)(r:List Int)(en:En)(cnt:Nat->Nat->Nat):Prop:=
 en ⟨1,0,gk⟩=some (.loop fr0 [142] (cA.ops [o 7 (.mv (.t 142))]) (cA.block 5 (.seq (.ops [o 143 (.load false 1 (.t 1)),o 144 (.nilck (.t 143)),o 145 (.fa 0 (.t 144)),o 146 (.fa 6 (.t 145)),o 147 (.load false 1 (.t 146)),o 148 (.mv (.t 7)),o 149 (.ia 1 (.t 147) (.t 148)),o 150 (.load false 1 (.t 149)),o 151 (.bin .eql .num (.t 150) (.c (.int .i64 0)))]) (.cond (.t 151) (.seq (.ops [on (.store 1 (.t 2) (.c (.bool false)))]) .ret) .skip))) .ready)/\ en ⟨0,1,0⟩=some (.box [.fp [.fz (s.world.objs.map aI.enc),.fz (s.world.tasks.map (.int .i64)),.fz (s.world.outs.map aO.enc),.fz (s.world.ins.map (.int .i64)),.int .i64 s.world.used,.fz (s.ages.map (.int .i64)),.fz (s.marks.map (.int .i64)),.int .i64 s.cycle] 0] false)/\ en ⟨0,2,0⟩=some (.box [.bool false] false)/\ (∀x∈dS (s.world.obj k),hZ s k x=true->x∈r)/\ (∀x∈r,x∈dS (s.world.obj k))/\ 1<=cnt 0 2
def RG (s:aX)(k:Nat)(fr0:Nat->Val)(gk:Nat)(en:En)(cnt:Nat->Nat->Nat):Prop:=
 en ⟨1,0,gk⟩=some (.loop fr0 [142] (cA.ops [o 7 (.mv (.t 142))]) (cA.block 5 (.seq (.ops [o 143 (.load false 1 (.t 1)),o 144 (.nilck (.t 143)),o 145 (.fa 0 (.t 144)),o 146 (.fa 6 (.t 145)),o 147 (.load false 1 (.t 146)),o 148 (.mv (.t 7)),o 149 (.ia 1 (.t 147) (.t 148)),o 150 (.load false 1 (.t 149)),o 151 (.bin .eql .num (.t 150) (.c (.int .i64 0)))]) (.cond (.t 151) (.seq (.ops [on (.store 1 (.t 2) (.c (.bool false)))]) .ret) .skip))) (.done .ret))/\ en ⟨0,2,0⟩=some (.box [.bool false] false)/\ ∃x∈dS (s.world.obj k),hZ s k x=true
theorem aJl (s:aX)(k:Nat){fr0:Nat->Val}{gk:Nat}{c0:Nat->Nat}(hm2:fL s k=2)(q1:fr0 1= .ptr ⟨0,1,0⟩ 0)(q2:fr0 2= .ptr ⟨0,2,0⟩ 0)(q5:fr0 5= .int .i64 k)
  (hino: ∀x∈dS (s.world.obj k),inR x 0 ((s.marks.length:Int)-1)=true) (hc:1<=c0 2):zH ⟨1,0,gk⟩ c0 (RI s k fr0 gk) (RG s k fr0 gk):=by
 refine⟨?_,?_⟩
 ·rintro r en cnt en' cnt' ⟨i1,i2,i3,i4,i5,i6⟩ hout hcnt hge
  have hge2:=hge 2 (by decide)
  exact⟨(hout 1 0 gk (.inl (by omega))).trans i1,(hout 0 1 0 (.inr (.inl (by decide)))).trans i2,(hout 0 2 0 (.inr (.inr (by omega)))).trans i3,i4,i5,by omega⟩
 ·rintro x rest en cnt ⟨i1,i2,i3,i4,i5,i6⟩
  have hxr:=i5 x (by simp)
  have hxi:=hino x hxr
  refine aDq (fr:=fr0) (ps:=[142]) (a:=(cA.ops [o 7 (.mv (.t 142))])) (b:=(cA.block 5 (.seq (.ops [o 143 (.load false 1 (.t 1)),o 144 (.nilck (.t 143)),o 145 (.fa 0 (.t 144)),o 146 (.fa 6 (.t 145)),o 147 (.load false 1 (.t 146)),o 148 (.mv (.t 7)),o 149 (.ia 1 (.t 147) (.t 148)),o 150 (.load false 1 (.t 149)),o 151 (.bin .eql .num (.t 150) (.c (.int .i64 0)))]) (.cond (.t 151) (.seq (.ops [on (.store 1 (.t 2) (.c (.bool false)))]) .ret) .skip)))) i1 rfl ?_
  simp only[go_sem,qC,qG,qW,q1,q2,q5,i1,i2,i3,sF hxi]
  refine aA (fun hb=>?_) (fun hb=>?_)
  ·have hbad:hZ s k x=true:=by simp only[hZ,hm2,decide_true,bVy];exact hb
   simp only[go_sem,qC,qG,qW,q1,q2,q5,i1,i2,i3]
   refine⟨fun t g ht hg=>?_,fun _ _=>trivial,.inr ⟨rfl,?_,?_,x,hxr,hbad⟩⟩
   ·have n1:(⟨0,t,g⟩:Key)≠⟨1,0,gk⟩:=by intro he;injection he with h1 _ _;omega
    have n2:(⟨0,t,g⟩:Key)≠⟨0,2,0⟩:=by intro he;injection he with _ h2 h3;subst h2;omega
    rw[dZ n1,dZ n2,dZ n1]
   ·try simp only[go_sem,qW]
    try rfl
   ·simp only[go_sem,qW,i3]
  ·have hbad:hZ s k x=false:=by simp only[hZ,hm2,decide_true,bVy];exact hb
   simp only[go_sem,qC,qG,qW,q1,q2,q5,i1,i2,i3]
   refine⟨fun t g ht hg=>?_,fun _ _=>trivial,.inl ⟨?_,?_,?_,fun y hy hz=>?_,fun y hy=>i5 y (by simp[hy]),i6⟩⟩
   ·have n1:(⟨0,t,g⟩:Key)≠⟨1,0,gk⟩:=by intro he;injection he with h1 _ _;omega
    rw[dZ n1,dZ n1]
   ·try simp only[go_sem,qW]
    try rfl
   ·simp only[go_sem,qW,i2]
   ·simp only[go_sem,qW,i3]
   ·rcases bWe.1 (i4 y hy hz)with rfl|h
    ·rw[hbad]at hz;cases hz
    ·exact h
theorem aGs (s:aX)(hs:s.few)(hsm:bB s.world=true)(hin: ∀o∈s.world.objs,∀x∈kV o,inR x 0 (s.world.objs.length-1)=true):PC L 77 [.fp [.fz (s.world.objs.map aI.enc),.fz (s.world.tasks.map (.int .i64)),.fz (s.world.outs.map aO.enc),.fz (s.world.ins.map (.int .i64)),.int .i64 s.world.used,.fz (s.ages.map (.int .i64)),.fz (s.marks.map (.int .i64)),.int .i64 s.cycle] 0] (.bool (jR s&&kX s)):=by
 refine aL bS0 rfl rfl ?_
 simp only[go_sem,qC,qG,qW,bAx]
 refine aE (fun g1=>?_) (fun g1=>?_)
 ·have k2:s.ages.length=s.world.objs.length:=by simp at g1;omega
  simp only[go_sem,qC,qG,qW,g1]
  refine aE (fun g2=>?_) (fun g2=>?_)
  ·have k3:s.marks.length=s.world.objs.length:=by simp at g2;omega
   simp only[go_sem,qC,qG,qW,g1,g2]
   refine aE (fun g3=>?_) (fun g3=>?_)
   ·simp only[go_sem,qC,qG,qW,g1,g2,g3]
    refine aA (fun g4=>?_) (fun g4=>?_)
    ·simp only[go_sem,qC,qG,qW]
     simp at g3 g4
     simp[jR,inR];intros;omega
    ·have k4:jR s=true:=by
      simp at g3 g4
      simp[jR,inR,k2,k3];omega
     rw[k4,bVy];simp only[go_sem,qC,qG,qW]
     refine bF (s.world.objs.length) (fun k st=> ∃fr en cnt,st=⟨fr,en,cnt⟩/\ (fr 1= .ptr ⟨0,1,0⟩ 0)/\ (en ⟨0,1,0⟩=some (.box [.fp [.fz (s.world.objs.map aI.enc),.fz (s.world.tasks.map (.int .i64)),.fz (s.world.outs.map aO.enc),.fz (s.world.ins.map (.int .i64)),.int .i64 s.world.used,.fz (s.ages.map (.int .i64)),.fz (s.marks.map (.int .i64)),.int .i64 s.cycle] 0] false))/\ (fr 2= .ptr ⟨0,2,0⟩ 0)/\ (en ⟨0,2,0⟩=some (.box [.bool false] false))/\ (fr 49= .int .i64 s.world.objs.length)/\ (fr 50= .int .i64 k)/\ (1<=cnt 0 2)/\ (∀i,i<k->kK s i=true)) 0 (bVn _) ⟨_,_,_,rfl,(by first|(simp only[go_sem,qW];(try rfl);done)|rfl|simp),(by first|(simp only[go_sem,qW];(try rfl);done)|rfl|simp),(by first|(simp only[go_sem,qW];(try rfl);done)|rfl|simp),(by first|(simp only[go_sem,qW];(try rfl);done)|rfl|simp),(by first|(simp only[go_sem,qW];(try rfl);done)|rfl|simp),(by first|(simp only[go_sem,qW];(try rfl);done)|rfl|simp),(by first|(simp only[go_sem,qW];(try rfl);done)|rfl|simp),(by first|(simp only[go_sem,qW];(try rfl);done)|rfl|simp)⟩ ?_
     rintro k st hk ⟨fr,en,cnt,rfl,h1,e1,h2,e2,h49,h50,hc2,hI⟩
     simp only[go_sem,qC,qG,qW,h1,e1,h2,e2,h49,h50,hc2]
     refine aA (fun hq=>?_) (fun hq=>?_)
     ·have h':k<s.world.objs.length:=of_decide_eq_true hq;have ha:k<s.ages.length:=by omega
      have hm:k<s.marks.length:=by omega
      have bad:kK s k=false->Val.bool false=Val.bool (kX s):=fun h=>by
       have:kX s=false:=by
        unfold kX;rw[bX3];exact⟨k,by simpa using h',by simp[h]⟩
       rw[this]
      have eR:kK s k=(inR s.ages[k] 0 2&&inR s.marks[k] 0 2):=by simp only[kK,gC ha,dQ hm]
      simp only[go_sem,qC,qG,qW,h',ha,hm,h1,e1,h2,e2,h49,h50,hc2]
      refine aE (fun g5=>?_) (fun g5=>?_)
      ·simp only[go_sem,qC,qG,qW,g5,h',ha,hm,h1,e1,h2,e2,h49,h50,hc2]
       refine aE (fun g6=>?_) (fun g6=>?_)
       ·simp only[go_sem,qC,qG,qW,g5,g6,h',ha,hm,h1,e1,h2,e2,h49,h50,hc2]
        refine aE (fun g7=>?_) (fun g7=>?_)
        ·simp only[go_sem,qC,qG,qW,g5,g6,g7,h',ha,hm,h1,e1,h2,e2,h49,h50,hc2]
         refine aA (fun g8=>?_) (fun g8=>?_)
         ·simp only[go_sem,qC,qG,qW,h',ha,hm,h1,e1,h2,e2,h49,h50,hc2]
          refine bad ?_
          simp at g5 g6 g7 g8
          rw[eR];simp[inR];intros;omega
         ·simp only[go_sem,qC,qG,qW,h',ha,hm,h1,e1,h2,e2,h49,h50,hc2]
          refine⟨_,_,_,rfl,?_⟩
          simp only[go_sem,qW,h1,e1,h2,e2,h49,h50,hc2,aK h' hs.1.objs];intro i hi
          by_cases hik:i<k
          ·exact hI i hik
          ·have:i=k:=by omega
           subst this
           simp at g5 g6 g7 g8
           rw[eR];simp[inR];omega
        ·simp only[go_sem,qC,qG,qW,g5,g6,g7,h',ha,hm,h1,e1,h2,e2,h49,h50,hc2]
         refine bad ?_
         simp at g7
         rw[eR];simp[inR];intros;omega
       ·simp only[go_sem,qC,qG,qW,g5,g6,h',ha,hm,h1,e1,h2,e2,h49,h50,hc2]
        refine bad ?_
        simp at g6
        rw[eR];simp[inR];intros;omega
      ·simp only[go_sem,qC,qG,qW,g5,h',ha,hm,h1,e1,h2,e2,h49,h50,hc2]
       refine bad ?_
       simp at g5
       rw[eR];simp[inR];intros;omega
     ·have:k=s.world.objs.length:=by simp at hq;omega
      subst this;have eAll:kX s=(List.range s.world.objs.length).all (kW s):=by
       unfold kX;rw[Bool.eq_iff_iff,bVo,bVo];exact⟨fun h i hi=>(bVc _ _▸h i hi).2,fun h i hi=>by rw[hI i (by simpa using hi),h i hi];rfl⟩
      rw[eAll];simp only[go_sem,qC,qG,qW,h1,e1,h2,e2,h49,h50,hc2]
      refine bF (s.world.objs.length) (fun k st=> ∃fr en cnt,st=⟨fr,en,cnt⟩/\ (fr 1= .ptr ⟨0,1,0⟩ 0)/\ (en ⟨0,1,0⟩=some (.box [.fp [.fz (s.world.objs.map aI.enc),.fz (s.world.tasks.map (.int .i64)),.fz (s.world.outs.map aO.enc),.fz (s.world.ins.map (.int .i64)),.int .i64 s.world.used,.fz (s.ages.map (.int .i64)),.fz (s.marks.map (.int .i64)),.int .i64 s.cycle] 0] false))/\ (fr 2= .ptr ⟨0,2,0⟩ 0)/\ (en ⟨0,2,0⟩=some (.box [.bool false] false))/\ (fr 101= .fz (s.world.objs.map aI.enc))/\ (fr 102= .int .i64 s.world.objs.length)/\ (fr 103= .int .i64 k)/\ (1<=cnt 0 2)/\ (∀i,i<k->kW s i=true)) 0 (bVn _) ⟨_,_,_,rfl,(by first|(simp only[go_sem,h1,e1,h2,e2,h49,h50,hc2];(try rfl);done)|rfl|simp),(by first|(simp only[go_sem,h1,e1,h2,e2,h49,h50,hc2];(try rfl);done)|rfl|simp),(by first|(simp only[go_sem,h1,e1,h2,e2,h49,h50,hc2];(try rfl);done)|rfl|simp),(by first|(simp only[go_sem,h1,e1,h2,e2,h49,h50,hc2];(try rfl);done)|rfl|simp),(by first|(simp only[go_sem,h1,e1,h2,e2,h49,h50,hc2];(try rfl);done)|rfl|simp),(by first|(simp only[go_sem,h1,e1,h2,e2,h49,h50,hc2];(try rfl);done)|rfl|simp),(by first|(simp only[go_sem,h1,e1,h2,e2,h49,h50,hc2];(try rfl);done)|rfl|simp),(by first|(simp only[go_sem,h1,e1,h2,e2,h49,h50,hc2];(try rfl);done)|rfl|simp),(by first|(simp only[go_sem,h1,e1,h2,e2,h49,h50,hc2];(try rfl);done)|rfl|simp)⟩ ?_
      rintro k st hk ⟨fr,en,cnt,rfl,h1,e1,h2,e2,h101,h102,h103,hc2,hR⟩
      simp only[go_sem,qC,qG,qW,h1,e1,h2,e2,h101,h102,h103,hc2]
      refine aA (fun hq=>?_) (fun hq=>?_)
      ·have h':k<s.world.objs.length:=of_decide_eq_true hq;have ha:k<s.ages.length:=by omega
       have hm:k<s.marks.length:=by omega
       have bad:kW s k=false->Val.bool false=Val.bool ((List.range s.world.objs.length).all (kW s)):=fun h=>by
        have:(List.range s.world.objs.length).all (kW s)=false:=by
         rw[bX3];exact⟨k,by simpa using h',by simp[h]⟩
        rw[this]
       have hso:=kY hsm _ (bVp h');have next:kW s k=true-> ∀i,i<k+1->kW s i=true:=fun h i hi=>by
        by_cases hik:i<k
        ·exact hR i hik
        ·have:i=k:=by omega
         subst this;exact h
       obtain⟨g6,hg6⟩: ∃g,g=cnt 0 6:=⟨_,rfl⟩
       refine aFq (fun st=>(st.fr 1= .ptr ⟨0,1,0⟩ 0)/\ (st.en ⟨0,1,0⟩=some (.box [.fp [.fz (s.world.objs.map aI.enc),.fz (s.world.tasks.map (.int .i64)),.fz (s.world.outs.map aO.enc),.fz (s.world.ins.map (.int .i64)),.int .i64 s.world.used,.fz (s.ages.map (.int .i64)),.fz (s.marks.map (.int .i64)),.int .i64 s.cycle] 0] false))/\ (st.fr 2= .ptr ⟨0,2,0⟩ 0)/\ (st.en ⟨0,2,0⟩=some (.box [.bool false] false))/\ (st.fr 6= .ptr ⟨0,6,g6⟩ 0)/\ (st.en ⟨0,6,g6⟩=some (.box [.int .i64 s.world.objs[k].form,.int .i64 s.world.objs[k].n,.fz (s.world.objs[k].vals.map aG.enc),.fz (s.world.objs[k].frames.map aB.enc)] false))/\ (st.fr 5= .int .i64 k)/\ (st.fr 101= .fz (s.world.objs.map aI.enc))/\ (st.fr 102= .int .i64 s.world.objs.length)/\ (st.fr 103= .int .i64 k)/\ (1<=st.cnt 0 2)/\ (st.cnt 0 6=g6+1)) ?_ ?_
       ·simp only[go_sem,qC,qG,qW,h',h1,e1,h2,e2,h101,h102,h103,hc2,<-hg6]
       ·rintro fr en cnt ⟨(h1:fr 1= .ptr ⟨0,1,0⟩ 0),(e1:en ⟨0,1,0⟩=some (.box [.fp [.fz (s.world.objs.map aI.enc),.fz (s.world.tasks.map (.int .i64)),.fz (s.world.outs.map aO.enc),.fz (s.world.ins.map (.int .i64)),.int .i64 s.world.used,.fz (s.ages.map (.int .i64)),.fz (s.marks.map (.int .i64)),.int .i64 s.cycle] 0] false)),(h2:fr 2= .ptr ⟨0,2,0⟩ 0),(e2:en ⟨0,2,0⟩=some (.box [.bool false] false)),(h6:fr 6= .ptr ⟨0,6,g6⟩ 0),(e6:en ⟨0,6,g6⟩=some (.box [.int .i64 s.world.objs[k].form,.int .i64 s.world.objs[k].n,.fz (s.world.objs[k].vals.map aG.enc),.fz (s.world.objs[k].frames.map aB.enc)] false)),(h5:fr 5= .int .i64 k),(h101:fr 101= .fz (s.world.objs.map aI.enc)),(h102:fr 102= .int .i64 s.world.objs.length),(h103:fr 103= .int .i64 k),(hc2:1<=cnt 0 2),(hc6:cnt 0 6=g6+1)⟩
        refine aFq (fun st=>(st.fr 1= .ptr ⟨0,1,0⟩ 0)/\ (st.en ⟨0,1,0⟩=some (.box [.fp [.fz (s.world.objs.map aI.enc),.fz (s.world.tasks.map (.int .i64)),.fz (s.world.outs.map aO.enc),.fz (s.world.ins.map (.int .i64)),.int .i64 s.world.used,.fz (s.ages.map (.int .i64)),.fz (s.marks.map (.int .i64)),.int .i64 s.cycle] 0] false))/\ (st.fr 2= .ptr ⟨0,2,0⟩ 0)/\ (st.en ⟨0,2,0⟩=some (.box [.bool false] false))/\ (st.fr 6= .ptr ⟨0,6,g6⟩ 0)/\ (st.en ⟨0,6,g6⟩=some (.box [.int .i64 s.world.objs[k].form,.int .i64 s.world.objs[k].n,.fz (s.world.objs[k].vals.map aG.enc),.fz (s.world.objs[k].frames.map aB.enc)] false))/\ (st.fr 5= .int .i64 k)/\ (st.fr 101= .fz (s.world.objs.map aI.enc))/\ (st.fr 102= .int .i64 s.world.objs.length)/\ (st.fr 103= .int .i64 k)/\ (1<=st.cnt 0 2)/\ (st.cnt 0 6=g6+1)/\ (st.fr 130= .bool (fV s k))) ?_ ?_
        ·simp only[go_sem,qC,qG,qW,h',ha,hm,h1,e1,h2,e2,h6,e6,h5,h101,h102,h103,hc6]
         refine aE (fun g7=>?_) (fun g7=>?_)
         ·have hm0:s.marks[k]=0:=by simpa using g7
          simp only[go_sem,qC,qG,qW,g7,h',ha,hm,h1,e1,h2,e2,h6,e6,h5,h101,h102,h103,hc6,(wN _).ret]
          refine aE (fun g8=>?_) (fun g8=>?_)
          ·simp only[go_sem,qC,qG,qW,g7,g8,h',ha,hm,h1,e1,h2,e2,h6,e6,h5,h101,h102,h103,hc6,(wO _ _ ha).ret]
           refine aE (fun g9=>?_) (fun g9=>?_)
           ·have ha2:s.ages[k]=2:=by simpa using g9
            simp only[go_sem,qC,qG,qW,g7,g8,g9,h',ha,hm,h1,e1,h2,e2,h6,e6,h5,h101,h102,h103,hc6,(aAy _).ret];simp[fV,dT h',gC ha,dQ hm,hm0,ha2,g8,hc2]
           ·simp only[go_sem,qC,qG,qW,g7,g8,g9,h',ha,hm,h1,e1,h2,e2,h6,e6,h5,h101,h102,h103,hc6]
            simp at g9
            simp[fV,dT h',gC ha,dQ hm,hm0,g8,g9,hc2]
          ·simp only[go_sem,qC,qG,qW,g7,g8,h',ha,hm,h1,e1,h2,e2,h6,e6,h5,h101,h102,h103,hc6];simp[fV,dT h',dQ hm,hm0,g8,hc2]
         ·simp only[go_sem,qC,qG,qW,g7,h',ha,hm,h1,e1,h2,e2,h6,e6,h5,h101,h102,h103,hc6]
          simp at g7
          simp[fV,dQ hm,g7,hc2]
        ·rintro fr en cnt ⟨(h1:fr 1= .ptr ⟨0,1,0⟩ 0),(e1:en ⟨0,1,0⟩=some (.box [.fp [.fz (s.world.objs.map aI.enc),.fz (s.world.tasks.map (.int .i64)),.fz (s.world.outs.map aO.enc),.fz (s.world.ins.map (.int .i64)),.int .i64 s.world.used,.fz (s.ages.map (.int .i64)),.fz (s.marks.map (.int .i64)),.int .i64 s.cycle] 0] false)),(h2:fr 2= .ptr ⟨0,2,0⟩ 0),(e2:en ⟨0,2,0⟩=some (.box [.bool false] false)),(h6:fr 6= .ptr ⟨0,6,g6⟩ 0),(e6:en ⟨0,6,g6⟩=some (.box [.int .i64 s.world.objs[k].form,.int .i64 s.world.objs[k].n,.fz (s.world.objs[k].vals.map aG.enc),.fz (s.world.objs[k].frames.map aB.enc)] false)),(h5:fr 5= .int .i64 k),(h101:fr 101= .fz (s.world.objs.map aI.enc)),(h102:fr 102= .int .i64 s.world.objs.length),(h103:fr 103= .int .i64 k),(hc2:1<=cnt 0 2),(hc6:cnt 0 6=g6+1),(h130:fr 130= .bool (fV s k))⟩
         simp only[go_sem,qC,qG,qW,h1,e1,h2,e2,h6,e6,h5,h101,h102,h103,hc2,hc6,h130]
         refine aA (fun hW=>?_) (fun hW=>?_)
         ·simp only[go_sem,qC,qG,qW,h1,e1,h2,e2,h6,e6,h5,h101,h102,h103,hc2,hc6,h130];exact bad (by simp[kW,hW])
         simp only[go_sem,qC,qG,qW,h1,e1,h2,e2,h6,e6,h5,h101,h102,h103,hc2,hc6,h130,h',hm]
         refine aA (fun hM=>?_) (fun hM=>?_)
         ·simp only[go_sem,qC,qG,qW,h1,e1,h2,e2,h6,e6,h5,h101,h102,h103,hc2,hc6,h130]
          refine⟨_,_,_,rfl,?_⟩
          simp only[go_sem,qW,h1,e1,h2,e2,h6,e6,h5,h101,h102,h103,hc2,hc6,h130,aK h' hs.1.objs];have hM': ¬fL s k=2:=by rw[dQ hm];simpa using hM
          exact next (by simp[kW,hW,hZ,hM'])
         ·have hm2:fL s k=2:=by rw[dQ hm];simpa using hM
          simp only[go_sem,qC,qG,qW,h1,e1,h2,e2,h6,e6,h5,h101,h102,h103,hc2,hc6,h130,h',hm,(uA _).ret]
          refine aAi (f:=107) (x:=[]) (y:=[.fp [.int .i64 s.world.objs[k].form,.int .i64 s.world.objs[k].n,.fz (s.world.objs[k].vals.map aG.enc),.fz (s.world.objs[k].frames.map aB.enc)] 0]) (by simp only[go_sem,qW]) ?_
          intro fr0 key hfr0 hkey;have q1:fr0 1= .ptr ⟨0,1,0⟩ 0:=by rw[hfr0];simp only[go_sem,qW,h1,e1,h2,e2,h6,e6,h5,h101,h102,h103,hc2,hc6,h130]
          have q2:fr0 2= .ptr ⟨0,2,0⟩ 0:=by rw[hfr0];simp only[go_sem,qW,h1,e1,h2,e2,h6,e6,h5,h101,h102,h103,hc2,hc6,h130]
          have q5:fr0 5= .int .i64 k:=by rw[hfr0];simp only[go_sem,qW,h1,e1,h2,e2,h6,e6,h5,h101,h102,h103,hc2,hc6,h130]
          obtain⟨gk,rfl⟩: ∃gk,key=⟨1,0,gk⟩:=⟨_,hkey⟩
          have hino:=hin _ (bVp h');rw[<-k3]at hino;rw[<-dT h']at hino⊢;obtain⟨c0,hc0⟩: ∃c0,c0=aP cnt 1 0 (cnt 1 0+1) 0:=⟨_,rfl⟩
          have hcc:1<=c0 2:=by rw[hc0];simpa[aP]using hc2
          have hr:=aJl s k (gk:=gk) (c0:=c0) hm2 q1 q2 q5 (fun x hx=>hino x ((mJ _ _).2 hx)) hcc
          rw[hc0]at hr
          refine(aFi (s.world.obj k) (xR (by rw[dT h'];exact hso)) hr ⟨by simp only[go_sem,qW],by simp only[go_sem,e1],by simp only[go_sem,e2],fun x hx _=>hx,fun x hx=>hx,by simpa[aP]using hc2⟩).mono ?_
          rintro v en' cnt' (⟨i1,i2,i3,i4,i5,i6⟩|⟨i1,i3,x,hx,hb⟩)
          ·have hrow:kW s k=true:=by
            have:(kV (s.world.obj k)).all (fun r=>!hZ s k r)=true:=by
             rw[bVo];intro x hx;have:hZ s k x=false:=by
              rw[<-bWi];intro hb;exact absurd (i4 x ((mJ _ _).1 hx) hb) (by simp)
             rw[this];rfl
            rw[kW,hW,this];rfl
           simp only[go_sem,qC,qG,qW,i1,i2,i3,h1,e1,h2,e2,h6,e6,h5,h101,h102,h103,hc2,hc6,h130]
           refine⟨_,_,_,rfl,?_⟩
           simp only[go_sem,qC,qG,qW,i2,i3,h1,h2,h101,h102,h103,aK h' hs.1.objs];exact⟨i6,next hrow⟩
          ·have hrow:kW s k=false:=by
            have:(kV (s.world.obj k)).all (fun r=>!hZ s k r)=false:=by
             rw[bX3];exact⟨x,(mJ _ _).2 hx,by simp[hb]⟩
            rw[kW,hW,this];rfl
           simp only[go_sem,qC,qG,qW,i1,i3,h2];exact bad hrow
      ·have:k=s.world.objs.length:=by simp at hq;omega
       subst this;simp only[go_sem,qC,qG,qW,h1,e1,h2,e2,h101,h102,h103,hc2];rw[bVo.2 fun i hi=>hR i (by simpa using hi)]
   ·simp only[go_sem,qC,qG,qW,g1,g2,g3]
    simp at g3
    simp[jR,inR];intros;omega
  ·simp only[go_sem,qC,qG,qW,g1,g2]
   simp at g2
   simp[jR];intros;omega
 ·simp only[go_sem,qC,qG,qW,g1]
  simp at g1
  simp[jR];intros;omega
theorem yK (p:aQ)(s:aX)(hp:p.few)(hs:s.few)(hsp:aT p=true)(hsm:bB s.world=true):PC L 31 [.agg [.fz (p.nodes.map aJ.enc),.fz (p.funs.map (.int .i64)),.int .i64 p.main,.fz (p.cons.map bC.enc)],.agg [.fz (s.world.objs.map aI.enc),.fz (s.world.tasks.map (.int .i64)),.fz (s.world.outs.map aO.enc),.fz (s.world.ins.map (.int .i64)),.int .i64 s.world.used,.fz (s.ages.map (.int .i64)),.fz (s.marks.map (.int .i64)),.int .i64 s.cycle]] (.int .i64 (if bY p s then 0 else 2)):=by
 refine aL bSe rfl rfl ?_
 simp only[go_sem,qC,qG,qW,bAe,(yJ p s.world hp hs.1 hsp).ret]
 by_cases hg:gG p s.world=true
 ·simp only[hg,if_true];simp only[go_sem,qC,qG,qW,(aGs s hs hsm (aAu hg)).ret]
  refine aA (fun h=>?_) (fun h=>?_)
  ·simp only[go_sem,qC,qG,qW];have:(jR s&&kX s)=false:=by rw[bWh]at h;exact h
   rw[bY,hg,bVy,this];rfl
  ·simp only[go_sem,qC,qG,qW];have:(jR s&&kX s)=true:=by rw[bX2]at h;exact h
   rw[bY,hg,bVy,this];rfl
 ·simp only[hg];simp only[go_sem,qC,qG,qW];simp only[bWi]at hg;rw[bY,hg];rfl
theorem aS9 {L:cO}{c:cA}{st:St}{Q:Ex->St->Prop}(M:St->Prop)(h:Wp L c st fun e st'=>e= .normal/\ M st')(k: ∀fr en cnt,M ⟨fr,en,cnt⟩->Q .normal ⟨fr,en,cnt⟩):Wp L c st Q:=
 Go.Abs.wp_mono c h fun e s hs=>by obtain⟨rfl,hs⟩:=hs;exact k _ _ _ hs
def sK (ages:List Int)(r:Int):Int:=ages.getD r.toNat 0
def eV (young:Int->Bool)(w:aC)(ages:List Int)(c:Int)(i:Nat):Int:=
 if bH (w.obj i)=true then 1
 else if(!decide (c=3)&&decide (sK ages i=2))=true then(if(kV (w.obj i)).any (fun r=>young (sK ages r))=true then 1 else 2)
 else 0
theorem aAz {l:List Int}{k:Nat}(h:k<l.length):sK l k=l[k]:=by simp[sK,bVm,h]
def lt2 (a:Int):Bool:=decide (a<2)
def pR (young:Int->Bool)(w:aC)(ages:List Int)(c:Int):List Int:=(List.range w.objs.length).map (eV young w ages c)
theorem bBf {xs cs:List Val}:(Val.agg (.fz xs::cs)).flat=false:=(rfl)
theorem aU6 {en:En}{k:Key}:W.apply en (.frz k)=(match en k with
  |some e=>en.set k (some e.freeze)
  |none=>en):=(rfl)
theorem bBg {n:Nat}{cs:List Val}{f:Bool}:Ent.freeze (.blk n cs f)= .blk n cs true:=(rfl)
theorem bBh {cs:List Val}{f:Bool}:Ent.freeze (.box cs f)= .box cs true:=(rfl)
def wP (size:Nat):List Val->Val
 |[]=> .cl []
 |x::xs=> .own size (x::xs)
theorem aX7 :cT .neq .map .nilm .nilm=some (.bool false):=(rfl)
theorem aB5 {b:Bool}:cT .eql .slice (.es b) (.es true)=some (.bool b):=(rfl)
theorem aJm {x:Val}{xs:List Val}:cT .eql .slice (.fz (x::xs)) (.es true)=some (.bool false):=(rfl)
section
variable {L :cO}{fr:Nat->Val}{en:En}{cnt:Nat->Nat->Nat}{Q:St->Prop}{l:List bE}{d size:Nat}{x y:Opd}
theorem wQ {b:Bool}(hx:St.get fr x= .cl [])(hy:St.get fr y= .es b)(k:iV L l ⟨jU fr d (.cl []),en,cnt⟩ Q):iV L (⟨some d,.append size x y,none⟩::l) ⟨fr,en,cnt⟩ Q:=by
 rw[aK9 (by rfl)]
 simp only[bV0,cP,eval,hx,hy,jJ,cS,if_true,List.isEmpty_nil,aHc,iI];exact k
theorem uG {z:Val}{zs:List Val}(hx:St.get fr x= .cl [])(hy:St.get fr y= .fz (z::zs))(h1:cS size (z::zs)=true)(hl:(z::zs).length<=16777216)
  (k:iV L l ⟨jU fr d (.bl ⟨0,d,cnt 0 d⟩ 0 (z::zs).length),en.set ⟨0,d,cnt 0 d⟩ (some (.blk size (z::zs) false)),aP cnt 0 d (cnt 0 d+1)⟩ Q):iV L (⟨some d,.append size x y,none⟩::l) ⟨fr,en,cnt⟩ Q:=by
 rw[aK9 (by rfl)]
 have he:jJ en (.fz (z::zs))=some (z::zs,[]):=aXd;simp only[bV0,cP,eval,hx,hy,he,h1,if_true,List.isEmpty_cons,bVd,if_false];rw[if_pos ⟨by simpa using hl,rfl⟩]
 simp only[aBt,mF,iI,sW,bWa,bWb,bWv];exact k
end
theorem jS (xs:List Val)(h1:cS 1 xs=true)(hl:xs.length<=16777216):PC L 62 [.fz xs] (wP 1 xs):=by
 cases xs with
 |nil=>
  refine aN3 bHb rfl rfl (.inl rfl) (tT ?_) (tT ?_)
  ·simp only[go_sem,qC,qG,qW,aUp,aB5];rfl
  ·simp only[go_sem,qC,qG,qW,aUp,aB5]
   refine wQ (b:=false) (by simp only[go_sem,qW]) (by simp only[go_sem,qW]) ?_
   simp only[go_sem,qC,qG,qW];rfl
 |cons x xs=>
  refine aL bHb rfl rfl ?_
  simp only[go_sem,qC,qG,qW,aUp,aJm]
  refine uG (by simp only[go_sem,qW]) (by simp only[go_sem,qW]) h1 hl ?_
  simp only[go_sem,qC,qG,qW];rfl
theorem aA0 (xs:List Val)(h1:cS 2 xs=true)(hl:xs.length<=16777216):PC L 109 [.fz xs] (wP 2 xs):=by
 cases xs with
 |nil=>
  refine aN3 bCg rfl rfl (.inl rfl) (tT ?_) (tT ?_)
  ·simp only[go_sem,qC,qG,qW,aHj,aB5];rfl
  ·simp only[go_sem,qC,qG,qW,aHj,aB5]
   refine wQ (b:=false) (by simp only[go_sem,qW]) (by simp only[go_sem,qW]) ?_
   simp only[go_sem,qC,qG,qW];rfl
 |cons x xs=>
  refine aL bCg rfl rfl ?_
  simp only[go_sem,qC,qG,qW,aHj,aJm]
  refine uG (by simp only[go_sem,qW]) (by simp only[go_sem,qW]) h1 hl ?_
  simp only[go_sem,qC,qG,qW];rfl
theorem pY (xs:List Val)(h1:cS 2 xs=true)(hl:xs.length<=16777216):PC L 144 [.fz xs] (wP 2 xs):=by
 cases xs with
 |nil=>
  refine aN3 bCk rfl rfl (.inl rfl) (tT ?_) (tT ?_)
  ·simp only[go_sem,qC,qG,qW,aHl,aB5];rfl
  ·simp only[go_sem,qC,qG,qW,aHl,aB5]
   refine wQ (b:=false) (by simp only[go_sem,qW]) (by simp only[go_sem,qW]) ?_
   simp only[go_sem,qC,qG,qW];rfl
 |cons x xs=>
  refine aL bCk rfl rfl ?_
  simp only[go_sem,qC,qG,qW,aHl,aJm]
  refine uG (by simp only[go_sem,qW]) (by simp only[go_sem,qW]) h1 hl ?_
  simp only[go_sem,qC,qG,qW];rfl
theorem aHv {size:Nat}{xs:List Val}(h:xs≠[]):wP size xs= .own size xs:=by cases xs<;>first|rfl|exact absurd rfl h
theorem aC7 (l:List aG):cS 2 (l.map aG.enc)=true:=by cases l<;>rfl
theorem aC8 (l:List aO):cS 2 (l.map aO.enc)=true:=by cases l<;>rfl
theorem kZ (l:List Int):cS 1 (l.map (Val.int .i64))=true:=by cases l<;>rfl
theorem oS (l:List aG)(hl:l.length<=16777216):PC L 143 [.fz (l.map aG.enc),.fp [.nilm] 0] (.fz (l.map aG.enc)):=by
 have hf:Few l.length:=by unfold Few;omega
 have hc:=pY (l.map aG.enc) (aC7 l) (by simpa using hl)
 refine aL bCj rfl rfl ?_
 by_cases h0:l=[]
 ·subst h0;have hc0:=pY [] rfl (by simp)
  simp only[go_sem,qC,qG,qW,aE2,bVv,hc0.ret,show wP 2 []= .cl []from rfl]
  refine bF (0) (fun k st=> ∃fr en cnt,st=⟨fr,en,cnt⟩/\ (fr 0= .cl [])/\ (fr 8= .int .i64 0)/\ (fr 9= .int .i64 k)) 0 (bVn _) ⟨_,_,_,rfl,(by first|(simp only[go_sem,qW];(try rfl);done)|rfl|simp),(by first|(simp only[go_sem,qW];(try rfl);done)|rfl|simp),(by first|(simp only[go_sem,qW];(try rfl);done)|rfl|simp)⟩ ?_
  rintro k st hk ⟨fr,en,cnt,rfl,h0,h8,h9⟩
  simp only[go_sem,qC,qG,qW,h0,h8,h9];have:k=0:=by omega
  subst this;simp only[go_sem,qC,qG,qW,h0,h8,h9]
 ·have h0':l.map aG.enc≠[]:=by simpa using h0
  rw[aHv h0']at hc;simp only[go_sem,qC,qG,qW,aE2,hc.ret]
  refine bF (l.length) (fun k st=> ∃fr en cnt,st=⟨fr,en,cnt⟩/\ (fr 0= .bl ⟨0,6,0⟩ 0 l.length)/\ (en ⟨0,6,0⟩=some (.blk 2 (l.map aG.enc) false))/\ (fr 1= .fp [.nilm] 0)/\ (fr 8= .int .i64 l.length)/\ (fr 9= .int .i64 k)) 0 (bVn _) ⟨_,_,_,rfl,(by first|(simp only[go_sem,h0,h8,h9];(try rfl);done)|rfl|simp),(by first|(simp only[go_sem,h0,h8,h9];(try rfl);done)|rfl|simp),(by first|(simp only[go_sem,h0,h8,h9];(try rfl);done)|rfl|simp),(by first|(simp only[go_sem,h0,h8,h9];(try rfl);done)|rfl|simp),(by first|(simp only[go_sem,h0,h8,h9];(try rfl);done)|rfl|simp)⟩ ?_
  rintro k st hk ⟨fr,en,cnt,rfl,h0,e6,h1,h8,h9⟩
  simp only[go_sem,qC,qG,qW,h0,e6,h1,h8,h9]
  refine aA (fun hq=>?_) (fun hq=>?_)
  ·have h':k<l.length:=of_decide_eq_true hq;have hx:(l.map aG.enc)[k]?=some (aG.enc l[k]):=by simp[h']
   have hc1:(0:Int)<=(k:Int):=by omega
   have hc2:(k:Int)<(l.length:Int):=by omega
   simp only[go_sem,qC,qG,qW,h0,e6,h1,h8,h9,h',hx,hc1,hc2,true_and,and_true,eq_self,if_true,bWb,bV3]
   refine aE (fun hg=>?_) (fun hg=>?_)
   ·simp only[go_sem,qC,qG,qW,hg,h0,e6,h1,h8,h9,h',hx,hc1,hc2,true_and,and_true,eq_self,if_true,bWb,bV3]
    try simp only[go_sem,qC,qG,qW,aX7,h0,e6,h1,h8,h9]
    refine⟨_,_,_,rfl,?_⟩
    simp only[go_sem,qW,h0,e6,h1,h8,h9,aK h' hf]
   ·simp only[go_sem,qC,qG,qW,hg,h0,e6,h1,h8,h9]
    refine⟨_,_,_,rfl,?_⟩
    simp only[go_sem,qW,h0,e6,h1,h8,h9,aK h' hf]
  ·simp only[go_sem,qC,qG,qW,h0,e6,h1,h8,h9,bVe,if_true];rw[bVw (by simp)]
theorem aX8 {k k':Key}:fX (.frz k) (.val k')=true:=rfl
theorem aX9 {k k':Key}{o n:Nat}:fX (.frz k) (.cells k' o n)=true:=rfl
theorem aYa {k k':Key}:kH (.frz k) (.frz k')=true:=rfl
theorem aYb {k k':Key}{e:Option Ent}:kH (.frz k) (.ent k' e)=decide (k≠k'):=rfl
theorem aYc {k k':Key}{o:Nat}{vs:List Val}:kH (.frz k) (.cells k' o vs)=decide (k≠k'):=rfl
theorem aYd {k k':Key}:fX (.frz k) (.flag k')=decide (k≠k'):=rfl
theorem aU7 {k k':Key}{o:Nat}{vs:List Val}:kH (.cells k o vs) (.frz k')=decide (k≠k'):=rfl
theorem aYe {xs:List Val}:(Val.fz xs).flat=false:=(rfl)
attribute [go_sem] aX8 aX9 aYa aYb aYc aYd aU7 aYe bBf aU6 bBg bBh
theorem zM (o:aI)(hs:cZ o=true):PC L 110 [.agg [.int .i64 o.form,.int .i64 o.n,.fz (o.vals.map aG.enc),.fz (o.frames.map aB.enc)],.nilm] (.agg [.int .i64 o.form,.int .i64 o.n,.fz (o.vals.map aG.enc),.fz (o.frames.map aB.enc)]):=by
 obtain⟨b1,b2,b3⟩:=oR hs;have hf:Few o.frames.length:=by unfold Few;omega
 refine aL bCh rfl rfl ?_
 simp only[go_sem,qC,qG,qW,aLk,iX (v:= .nilm) rfl rfl]
 refine aN ?_
 simp only[go_sem,qC,qG,qW,bVf,bVg,bVh,bVj,bVi,bVd,if_false,(oS o.vals (by omega)).ret]
 refine bF o.frames.length (fun k st=> ∃fr en cnt v,st=⟨fr,en,cnt⟩/\ fr 4= .ptr ⟨0,4,0⟩ 0/\ en ⟨0,4,0⟩=some (.box [.int .i64 0,.int .i64 0,.cl [],.cl []] false)/\ en ⟨0,3,0⟩=some (.box [.nilm] true)/\ fr 5= .fn 143 [] [.ptr ⟨0,3,0⟩ 0]/\ fr 6= .ptr ⟨0,6,0⟩ 0/\ en ⟨0,6,0⟩=some (.box [.int .i64 o.form,.int .i64 o.n,.fz (o.vals.map aG.enc),v] false)/\ fr 20= .fz (o.frames.map aB.enc)/\ fr 21= .int .i64 o.frames.length/\ fr 22= .int .i64 k/\ cE en v 3 ((o.frames.take k).map aB.enc) [40]) 0 (bVn _) ⟨_,_,_,.cl [],rfl,by simp only[go_sem,qW],by simp only[go_sem,qW],by simp only[go_sem,qW],by simp only[go_sem,qW],by simp only[go_sem,qW],by simp only[go_sem,qW],by simp only[go_sem,qW],by simp only[go_sem,qW],by simp only[go_sem,qW],cE.nil _ _⟩ ?_
 rintro k st hk ⟨fr,en,cnt,v,rfl,h4,e4,e3,h5,h6,e6,h20,h21,h22,hv⟩
 simp only[go_sem,qC,qG,qW,h4,e4,e3,h5,h6,e6,h20,h21,h22]
 refine aA (fun hq=>?_) (fun hq=>?_)
 ·have h':k<o.frames.length:=of_decide_eq_true hq;have hb:=b3 _ (bVp h');simp only[go_sem,qC,qG,qW,h',h4,e4,e3,h5,h6,e6,h20,h21,h22]
  refine aN ?_
  simp only[go_sem,qC,qG,qW,h',h4,e4,e3,h5,h6,e6,h20,h21,h22,bVf,bVg,bVh,bVj,bVi,bVd,if_false,(oS _ (show o.frames[k].env.length<=16777216 by omega)).ret,(oS _ (show o.frames[k].vals.length<=16777216 by omega)).ret]
  refine nD (D:=[40]) (xs:=(o.frames.take k).map aB.enc) (ys:=[aB.enc o.frames[k]]) (rs:=[]) ?_ ?_ ?_ rfl ?_ ?_
  ·simp only[go_sem,qW];exact hv.keep fun t g ht=>by simp at ht;subst ht;simp only[go_sem,qW]
  ·simp only[go_sem,qW]
  ·rfl
  ·simp;omega
  ·intro v' en' cnt' r hown hen hcnt _ _ _;have k3:en' ⟨0,3,0⟩=some (.box [.nilm] true):=by rw[hen 0 3 0 (.inr ⟨by decide,by simp⟩)];simp only[go_sem,qW,e3]
   have k4:en' ⟨0,4,0⟩=some (.box [.int .i64 0,.int .i64 0,.cl [],.cl []] false):=by rw[hen 0 4 0 (.inr ⟨by decide,by simp⟩)];simp only[go_sem,qW,e4]
   have k6:en' ⟨0,6,0⟩=some (.box [.int .i64 o.form,.int .i64 o.n,.fz (o.vals.map aG.enc),v] false):=by rw[hen 0 6 0 (.inr ⟨by decide,by simp⟩)];simp only[go_sem,qW,e6]
   obtain⟨s1,s2⟩:=hown.shape;simp only[go_sem,qC,qG,qW,h4,k4,k3,h5,h6,k6,h20,h21,h22,s1,s2,bVf,bVg,bVh,bVj,bVi,bVd,if_false]
   refine⟨_,_,_,v',rfl,?_⟩
   simp only[go_sem,qC,qG,qW,h4,k4,k3,h5,h6,k6,h20,h21,h22,aK h' hf];rw[dE h',bVx]
   refine cE.sub (D:=[40,40]) (cE.keep (en:=en') hown ?_) (by simp)
   intro t g ht;simp at ht;subst ht;simp only[go_sem,qW]
 ·have:k=o.frames.length:=by simp at hq;omega
  subst this;rw[bWf]at hv;simp only[go_sem,qC,qG,qW,h4,e4,e3,h5,h6,e6,h20,h21,h22];obtain⟨r,ks,s1,s2,_⟩:=(hv.keep (en':=en.set ⟨0,4,0⟩ (some (.box [.int .i64 o.form,.int .i64 o.n,.fz (o.vals.map aG.enc),v] false))) fun t g ht=>by simp at ht;subst ht;simp only[go_sem,qW]).snap 6
  simp only[go_sem,qC,qG,qW,s1,s2]
theorem cX {xs:List Val}:(Val.cl xs).one=true:=(rfl)
theorem bP {xs:List Val}:(Val.cl xs).cells=[.cl xs]:=(rfl)
theorem dA {k:Key}{a b:Nat}:(Val.bl k a b).one=true:=(rfl)
theorem bO {k:Key}{a b:Nat}:(Val.bl k a b).cells=[.bl k a b]:=(rfl)
theorem aTa {a b:IntKind}{i j:Int}{xs:List Val}{cs:List Val}:(Val.agg (.int a i:: .int b j:: .fz xs::cs)).flat=false:=(rfl)
theorem aJn {en:En}{t g n size:Nat}{xs:List Val}{f:Bool}(h:en ⟨0,t,g⟩=some (.blk size xs f))(hx:n=xs.length):cE en (.bl ⟨0,t,g⟩ 0 n) size xs [t]:= .inr ⟨t,g,f,by rw[hx],h,by simp⟩
theorem iK (size:Nat)(xs:List Val):(xs=[]/\ wP size xs= .cl []) \/(xs≠[]/\ wP size xs= .own size xs):=by
 cases xs with
 |nil=>exact .inl ⟨rfl,rfl⟩
 |cons x xs=>exact .inr ⟨by simp,rfl⟩
theorem pZ {α:Type}{f:α->Val}{l:List α}:(l.map f).take l.length=l.map f:=bVw (by simp)
theorem oT {w:aC}(h:bB w=true):w.objs.length<=130/\ w.tasks.length<=130/\ w.outs.length<=110/\ w.ins.length<=60:=by
 simp only[bB,bVc,bYb]at h;omega
theorem rB (w:aC)(hw:w.few)(hs:bB w=true):PC L 75 [.agg [.fz (w.objs.map aI.enc),.fz (w.tasks.map (.int .i64)),.fz (w.outs.map aO.enc),.fz (w.ins.map (.int .i64)),.int .i64 w.used]] (.agg [.fz (w.objs.map aI.enc),.fz (w.tasks.map (.int .i64)),.fz (w.outs.map aO.enc),.fz (w.ins.map (.int .i64)),.int .i64 w.used]):=by
 obtain⟨b1,b2,b3,b4⟩:=oT hs;have c1:=jS (w.tasks.map (.int .i64)) (kZ _) (by simp;omega)
 have c2:=aA0 (w.outs.map aO.enc) (aC8 _) (by simp;omega)
 have c3:=jS (w.ins.map (.int .i64)) (kZ _) (by simp;omega)
 refine aL bSy rfl rfl ?_
 simp only[go_sem,qC,qG,qW,bAv]
 refine aS9 (fun st=>st.fr 2= .ptr ⟨0,2,0⟩ 0/\ st.en ⟨0,2,0⟩=some (.box [.cl [],.cl [],.cl [],.cl [],.int .i64 0] false)/\ st.fr 1= .ptr ⟨0,1,0⟩ 0/\ st.en ⟨0,1,0⟩=some (.box [.fz (w.objs.map aI.enc),.fz (w.tasks.map (.int .i64)),.fz (w.outs.map aO.enc),.fz (w.ins.map (.int .i64)),.int .i64 w.used] false)/\ st.fr 3= .ptr ⟨0,3,0⟩ 0/\
  ∃vT vO vI,st.en ⟨0,3,0⟩=some (.box [.cl [],vT,vO,vI,.int .i64 w.used] false)/\ cE st.en vT 1 (w.tasks.map (.int .i64)) [8]/\ cE st.en vO 2 (w.outs.map aO.enc) [11]/\ cE st.en vI 1 (w.ins.map (.int .i64)) [14]) ?_ ?_
 ·refine aN ?_
  rcases iK 1 (w.tasks.map (Val.int .i64))with⟨t1,t2⟩|⟨t1,t2⟩<;>rw[t2]at c1<;>
  rcases iK 2 (w.outs.map aO.enc)with⟨o1,o2⟩|⟨o1,o2⟩<;>rw[o2]at c2<;>
  rcases iK 1 (w.ins.map (Val.int .i64))with⟨i1,i2⟩|⟨i1,i2⟩<;>rw[i2]at c3
  all_goals simp only[go_sem,qC,qG,qW,bVf,bVg,bVh,bVj,bVi,bVd,if_false,bV0,c1.ret,c2.ret,c3.ret,bVk,bVe,if_true,pZ,cX,bP,dA,bO]
  all_goals refine⟨_,_,_,rfl,?_,?_,?_⟩
  all_goals first
   |exact .inl ⟨rfl,by assumption⟩
   |exact aJn (by simp only[go_sem,qW];try rfl) (by simp only[bVk])
 ·rintro fr en cnt ⟨h2,e2,h1,e1,h3,vT,vO,vI,e3,mT,mO,mI⟩
  dsimp only at h2 e2 h1 e1 h3 e3 mT mO mI;simp only[go_sem,qC,qG,qW,h2,e2,h1,e1,h3,e3]
  refine bF w.objs.length (fun k st=> ∃fr en cnt v,st=⟨fr,en,cnt⟩/\ fr 2= .ptr ⟨0,2,0⟩ 0/\ en ⟨0,2,0⟩=some (.box [.cl [],.cl [],.cl [],.cl [],.int .i64 0] false)/\ fr 3= .ptr ⟨0,3,0⟩ 0/\ en ⟨0,3,0⟩=some (.box [v,vT,vO,vI,.int .i64 w.used] false)/\ fr 19= .fz (w.objs.map aI.enc)/\ fr 20= .int .i64 w.objs.length/\ fr 21= .int .i64 k/\
   cE en vT 1 (w.tasks.map (.int .i64)) [8]/\ cE en vO 2 (w.outs.map aO.enc) [11]/\ cE en vI 1 (w.ins.map (.int .i64)) [14]/\ cE en v 4 ((w.objs.take k).map aI.enc) [30]) 0 (bVn _) ⟨_,_,_,.cl [],rfl,by simp only[go_sem,h2],by simp only[go_sem,e2],by simp only[go_sem,h3],by simp only[go_sem,e3],by simp only[go_sem,qW],by simp only[go_sem,qW],by simp only[go_sem,qW],mT,mO,mI,cE.nil _ _⟩ ?_
  rintro k st hk ⟨fr,en,cnt,v,rfl,h2,e2,h3,e3,h19,h20,h21,mT,mO,mI,hv⟩
  simp only[go_sem,qC,qG,qW,h2,e2,h3,e3,h19,h20,h21]
  refine aA (fun hq=>?_) (fun hq=>?_)
  ·have h':k<w.objs.length:=of_decide_eq_true hq;have hso:=kY hs _ (bVp h');simp only[go_sem,qC,qG,qW,h',h2,e2,h3,e3,h19,h20,h21]
   refine aN ?_
   simp only[go_sem,qC,qG,qW,h',h2,e2,h3,e3,h19,h20,h21,bVf,bVg,bVh,bVj,bVi,bVd,if_false,aTa,(zM _ hso).ret]
   refine nD (D:=[30]) (xs:=(w.objs.take k).map aI.enc) (ys:=[aI.enc w.objs[k]]) (rs:=[]) ?_ ?_ ?_ rfl ?_ ?_
   ·simp only[go_sem,qW];exact hv.keep fun t g ht=>by simp at ht;subst ht;simp only[go_sem,qW]
   ·simp only[go_sem,qW]
   ·rfl
   ·simp;omega
   ·intro v' en' cnt' r hown hen hcnt _ _ _;have k2:en' ⟨0,2,0⟩=some (.box [.cl [],.cl [],.cl [],.cl [],.int .i64 0] false):=by rw[hen 0 2 0 (.inr ⟨by decide,by simp⟩)];simp only[go_sem,qW,e2]
    have k3:en' ⟨0,3,0⟩=some (.box [v,vT,vO,vI,.int .i64 w.used] false):=by rw[hen 0 3 0 (.inr ⟨by decide,by simp⟩)];simp only[go_sem,qW,e3]
    obtain⟨s1,s2⟩:=hown.shape;simp only[go_sem,qC,qG,qW,h2,k2,h3,k3,h19,h20,h21,s1,s2,bVf,bVg,bVh,bVj,bVi,bVd,if_false]
    refine⟨_,_,_,v',rfl,?_⟩
    simp only[go_sem,qC,qG,qW,h2,k2,h3,k3,h19,h20,h21,aK h' hw.objs]
    refine⟨mT.keep ?_,mO.keep ?_,mI.keep ?_,?_⟩
    ·intro t g ht;simp at ht;subst ht;rw[dZ (by simp),hen 0 8 g (.inr ⟨by decide,by simp⟩)];simp only[go_sem,qW]
    ·intro t g ht;simp at ht;subst ht;rw[dZ (by simp),hen 0 11 g (.inr ⟨by decide,by simp⟩)];simp only[go_sem,qW]
    ·intro t g ht;simp at ht;subst ht;rw[dZ (by simp),hen 0 14 g (.inr ⟨by decide,by simp⟩)];simp only[go_sem,qW]
    ·rw[dE h',bVx]
     refine cE.sub (D:=[30,30]) (cE.keep (en:=en') hown ?_) (by simp)
     intro t g ht;simp at ht;subst ht;simp only[go_sem,qW]
  ·have:k=w.objs.length:=by simp at hq;omega
   subst this;rw[bWf]at hv;simp only[go_sem,qC,qG,qW,h2,e2,h3,e3,h19,h20,h21,mT.shape.1,mT.shape.2,mO.shape.1,mO.shape.2,mI.shape.1,mI.shape.2,hv.shape.1,hv.shape.2];obtain⟨r1,ks1,s1,s1',_⟩:=(hv.keep (en':=en.set ⟨0,2,0⟩ (some (.box [v,vT,vO,vI,.int .i64 w.used] false))) fun t g ht=>by simp at ht;subst ht;simp only[go_sem,qW]).snap 6
   obtain⟨r2,ks2,s2,s2',_⟩:=(mT.keep (en':=en.set ⟨0,2,0⟩ (some (.box [v,vT,vO,vI,.int .i64 w.used] false))) fun t g ht=>by simp at ht;subst ht;simp only[go_sem,qW]).snap 6
   obtain⟨r3,ks3,s3,s3',_⟩:=(mO.keep (en':=en.set ⟨0,2,0⟩ (some (.box [v,vT,vO,vI,.int .i64 w.used] false))) fun t g ht=>by simp at ht;subst ht;simp only[go_sem,qW]).snap 6
   obtain⟨r4,ks4,s4,s4',_⟩:=(mI.keep (en':=en.set ⟨0,2,0⟩ (some (.box [v,vT,vO,vI,.int .i64 w.used] false))) fun t g ht=>by simp at ht;subst ht;simp only[go_sem,qW]).snap 6
   simp only[go_sem,qC,qG,qW,s1,s2,s3,s4,s1',s2',s3',s4']
def cV (m:Nat->Int)(n k:Nat):List Int:=(List.range n).map fun i=>if i<k then m i else 0
theorem aJo (m:Nat->Int)(n:Nat):(cV m n 0).map (Val.int .i64)=List.replicate n (.int .i64 0):=by
 simp[cV,List.map_const']
theorem pJ (m:Nat->Int)(n k:Nat):(cV m n k).length=n:=by simp[cV]
theorem aMd {m:Nat->Int}{n k:Nat}(h:k<n):((cV m n k).map (Val.int .i64))[k]?=some (.int .i64 0):=by simp[cV,h]
theorem aC9 {m:Nat->Int}{n k:Nat}:((cV m n k).map (Val.int .i64)).set k (.int .i64 (m k))=(cV m n (k+1)).map (.int .i64):=by
 apply bXq
 ·simp[cV]
 ·intro i h1 h2;simp only[List.getElem_set,bXs,cV,List.getElem_range]
  by_cases h:k=i
  ·subst h;simp
  ·rw[if_neg h]
   by_cases hi:i<k
   ·rw[if_pos hi,if_pos (by omega)]
   ·rw[if_neg hi,if_neg (by omega)]
theorem aJp {m:Nat->Int}{n k:Nat}(h0:m k=0):cV m n (k+1)=cV m n k:=by
 unfold cV
 refine bWy fun i _=>?_
 by_cases h:i=k
 ·subst h;simp[h0]
 ·by_cases hi:i<k
  ·rw[if_pos hi,if_pos (by omega)]
  ·rw[if_neg hi,if_neg (by omega)]
theorem aJq (m:Nat->Int)(n:Nat):cV m n n=(List.range n).map m:=by
 unfold cV
 refine bWy fun i hi=>?_
 rw[if_pos (by simpa using hi)]
theorem bBi {en:En}{v:Val}{size:Nat}{xs:List Val}{D:List Nat}(h:cE en v size xs D)(hx:xs≠[])(n:Nat): ∃ks,snapD (n+1) en v=some (.fz xs,ks):=by
 rcases h with⟨_,h⟩|⟨t,g,f,rfl,h2,_⟩
 ·exact absurd h hx
 ·exact⟨[⟨0,t,g⟩],by simp[snapD,h2]⟩
def upto {α:Type}(f g:Nat->α)(n k:Nat):List α:=(List.range (max n k)).map fun i=>if i<k then f i else g i
section
variable {α :Type}{f g:Nat->α}{n k:Nat}
theorem aA1 :(upto f g n k).length=max n k:=by simp[upto]
theorem aHw :upto f g n 0=(List.range n).map g:=by simp[upto]
theorem aB6 (h:n<=k):upto f g n k=(List.range k).map f:=by
 unfold upto;rw[Nat.max_eq_right h]
 refine bWy fun i hi=>?_
 rw[if_pos (by simpa using hi)]
theorem aMe (h:n<=k):upto f g n (k+1)=upto f g n k++[f k]:=by
 rw[aB6 h,aB6 (by omega),bWr,bVx];rfl
theorem aYf (h:k<n):(upto f g n k)[k]?=some (g k):=by
 have:k<max n k:=by omega
 simp[upto,this]
theorem aYg (h:k<n):upto f g n (k+1)=(upto f g n k).set k (f k):=by
 have e:max n (k+1)=max n k:=by omega
 apply bXq
 ·simp[upto,e]
 ·intro i h1 h2;simp only[List.getElem_set,bXs,upto,List.getElem_range]
  by_cases hi:k=i
  ·subst hi;simp
  ·rw[if_neg hi]
   by_cases hi2:i<k
   ·rw[if_pos hi2,if_pos (by omega)]
   ·rw[if_neg hi2,if_neg (by omega)]
theorem tC (h:k<n)(he:f k=g k):upto f g n (k+1)=upto f g n k:=by
 have e:max n (k+1)=max n k:=by omega
 unfold upto;rw[e]
 refine bWy fun i _=>?_
 by_cases hi:i=k
 ·subst hi;simp[he]
 ·by_cases hi2:i<k
  ·rw[if_pos hi2,if_pos (by omega)]
  ·rw[if_neg hi2,if_neg (by omega)]
end
def rX (a b:aC):Bool:=(List.range a.objs.length).all fun i=>decide ((a.obj i).form=(b.obj i).form)
def fP (a b:aC):Bool:=decide (a.objs.length<=b.objs.length)&&decide (a.tasks.length<=b.tasks.length)&&decide (a.tasks=b.tasks.take a.tasks.length)&&rX a b
def rC (s:aX)(w:aC)(i:Nat):Bool:=decide (fL s i=2)&&!decide (s.world.obj i=w.obj i)
def aDm (s:aX)(i:Nat):Int:=if i<s.marks.length then nX s i else 0
def iS (s:aX)(w:aC)(i:Nat):Int:=if i<s.marks.length then(if rC s w i=true then 1 else fL s i)else 1
def aJr (s:aX)(w:aC)(i:Nat):Bool:=if i<s.marks.length then rC s w i else true
def yL (s:aX)(w:aC):List Int:=(List.range w.objs.length).map (aDm s)
def pS (s:aX)(w:aC):List Int:=(List.range w.objs.length).map (iS s w)
def jE (s:aX)(w:aC)(k:Nat):Nat:=(List.range k).countP (aJr s w)
theorem rY (s:aX)(w:aC)(k:Nat):jE s w (k+1)=jE s w k+(if aJr s w k=true then 1 else 0):=by
 simp[jE,bWr,List.countP_append,List.countP_cons]
theorem aHx (s:aX)(w:aC)(k:Nat):jE s w k<=k:=by
 have:=List.countP_le_length (p:=aJr s w) (l:=List.range k)
 simpa[jE]using this
def cQ (s:aX)(w:aC):aX:=⟨w,yL s w,pS s w,s.cycle⟩
theorem aJs (a b:List Int)(ha:Few a.length):PC L 149 [.fz (a.map (.int .i64)),.fz (b.map (.int .i64))] (.bool (decide (a=b))):=by
 refine aL bH6 rfl rfl ?_
 simp only[go_sem,qC,qG,qW,aQt]
 refine aA (fun h=>?_) (fun h=>?_)
 ·simp only[go_sem,qC,qG,qW]
  simp at h
  have: ¬a=b:=by rintro rfl;exact h rfl
  simp[this]
 ·have hl:a.length=b.length:=by simp at h;exact h
  simp only[go_sem,qC,qG,qW]
  refine bF (a.length) (fun k st=> ∃fr en cnt,st=⟨fr,en,cnt⟩/\ (fr 0= .fz (a.map (.int .i64)))/\ (fr 1= .fz (b.map (.int .i64)))/\ (fr 12= .int .i64 a.length)/\ (fr 13= .int .i64 k)/\ (a.take k=b.take k)) 0 (bVn _) ⟨_,_,_,rfl,(by first|(simp only[go_sem,qW];(try rfl);done)|rfl|simp),(by first|(simp only[go_sem,qW];(try rfl);done)|rfl|simp),(by first|(simp only[go_sem,qW];(try rfl);done)|rfl|simp),(by first|(simp only[go_sem,qW];(try rfl);done)|rfl|simp),(by first|(simp only[go_sem,qW];(try rfl);done)|rfl|simp)⟩ ?_
  rintro k st hk ⟨fr,en,cnt,rfl,h0,h1,h12,h13,hI⟩
  simp only[go_sem,qC,qG,qW,h0,h1,h12,h13]
  refine aA (fun hq=>?_) (fun hq=>?_)
  ·have h':k<a.length:=of_decide_eq_true hq;have h'':k<b.length:=by omega
   simp only[go_sem,qC,qG,qW,h',h'',h0,h1,h12,h13]
   refine aA (fun hb=>?_) (fun hb=>?_)
   ·simp only[go_sem,qC,qG,qW]
    simp at hb
    simp[aXv h' h'' hb]
   ·simp only[go_sem,qC,qG,qW,h',h0,h1,h12,h13]
    simp at hb
    refine⟨_,_,_,rfl,?_⟩
    simp only[go_sem,qW,h0,h1,h12,h13,aK h' ha];exact aI9 h' h'' hI hb
  ·have:k=a.length:=by simp at hq;omega
   subst this;simp only[go_sem,qC,qG,qW];simp[aJa hl hI]
theorem aJt (a b:List aG)(ha:Few a.length):PC L 186 [.fz (a.map aG.enc),.fz (b.map aG.enc)] (.bool (decide (a=b))):=by
 refine aL bIv rfl rfl ?_
 simp only[go_sem,qC,qG,qW,aRh]
 refine aA (fun h=>?_) (fun h=>?_)
 ·simp only[go_sem,qC,qG,qW]
  simp at h
  have: ¬a=b:=by rintro rfl;exact h rfl
  simp[this]
 ·have hl:a.length=b.length:=by simp at h;exact h
  simp only[go_sem,qC,qG,qW]
  refine bF (a.length) (fun k st=> ∃fr en cnt,st=⟨fr,en,cnt⟩/\ (fr 0= .fz (a.map aG.enc))/\ (fr 1= .fz (b.map aG.enc))/\ (fr 12= .int .i64 a.length)/\ (fr 13= .int .i64 k)/\ (a.take k=b.take k)) 0 (bVn _) ⟨_,_,_,rfl,(by first|(simp only[go_sem,qW];(try rfl);done)|rfl|simp),(by first|(simp only[go_sem,qW];(try rfl);done)|rfl|simp),(by first|(simp only[go_sem,qW];(try rfl);done)|rfl|simp),(by first|(simp only[go_sem,qW];(try rfl);done)|rfl|simp),(by first|(simp only[go_sem,qW];(try rfl);done)|rfl|simp)⟩ ?_
  rintro k st hk ⟨fr,en,cnt,rfl,h0,h1,h12,h13,hI⟩
  simp only[go_sem,qC,qG,qW,h0,h1,h12,h13]
  refine aA (fun hq=>?_) (fun hq=>?_)
  ·have h':k<a.length:=of_decide_eq_true hq;have h'':k<b.length:=by omega
   simp only[go_sem,qC,qG,qW,h',h'',h0,h1,h12,h13,aG.eq_iff]
   refine aA (fun hb=>?_) (fun hb=>?_)
   ·simp only[go_sem,qC,qG,qW]
    simp at hb
    simp[aXv h' h'' hb]
   ·simp only[go_sem,qC,qG,qW,h',h0,h1,h12,h13]
    simp at hb
    refine⟨_,_,_,rfl,?_⟩
    simp only[go_sem,qW,h0,h1,h12,h13,aK h' ha];exact aI9 h' h'' hI hb
  ·have:k=a.length:=by simp at hq;omega
   subst this;simp only[go_sem,qC,qG,qW];simp[aJa hl hI]
theorem aMf (a b:List Int)(ha:Few a.length):PC L 118 [.fz (a.map (.int .i64)),.fz (b.map (.int .i64))] (.bool (decide (a=b))):=by
 refine aL bHn rfl rfl ?_
 simp only[go_sem,qC,qG,qW,aQb,(aJs a b ha).ret]
theorem wR (a b:List aG)(ha:Few a.length):PC L 150 [.fz (a.map aG.enc),.fz (b.map aG.enc)] (.bool (decide (a=b))):=by
 refine aL bH7 rfl rfl ?_
 simp only[go_sem,qC,qG,qW,aQu,(aJt a b ha).ret]
theorem aB.eq_iff {a b:aB}:decide (a=b)=(decide (a.node=b.node)&&decide (a.env=b.env)&&decide (a.vals=b.vals)):=by
 cases a;cases b;simp[Bool.and_assoc]
theorem aGt (a b:aB)(ha:a.few):PC L 152 [.agg [.int .i64 a.node,.fz (a.env.map aG.enc),.fz (a.vals.map aG.enc)],.agg [.int .i64 b.node,.fz (b.env.map aG.enc),.fz (b.vals.map aG.enc)]] (.bool (decide (a=b))):=by
 rw[aB.eq_iff]
 refine aL bH9 rfl rfl ?_
 simp only[go_sem,qC,qG,qW,aQw]
 refine aE (fun g1=>?_) (fun g1=>?_)
 ·simp only[go_sem,qC,qG,qW,g1,(wR _ _ ha.1).ret]
  refine aE (fun g2=>?_) (fun g2=>?_)
  ·simp only[go_sem,qC,qG,qW,g1,g2,(wR _ _ ha.2).ret,bVy]
  ·simp only[go_sem,qC,qG,qW,g1,g2,bVq,bVy,bV5]
 ·simp only[go_sem,qC,qG,qW,g1,bVq,bV5]
theorem aJu (a b:List aB)(ha:Few a.length)(hf: ∀x∈a,x.few):PC L 151 [.fz (a.map aB.enc),.fz (b.map aB.enc),.fn 152 [] []] (.bool (decide (a=b))):=by
 refine aL bH8 rfl rfl ?_
 simp only[go_sem,qC,qG,qW,aQv]
 refine aA (fun h=>?_) (fun h=>?_)
 ·simp only[go_sem,qC,qG,qW]
  simp at h
  have: ¬a=b:=by rintro rfl;exact h rfl
  simp[this]
 ·have hl:a.length=b.length:=by simp at h;exact h
  simp only[go_sem,qC,qG,qW]
  refine bF (a.length) (fun k st=> ∃fr en cnt,st=⟨fr,en,cnt⟩/\ (fr 0= .fz (a.map aB.enc))/\ (fr 1= .fz (b.map aB.enc))/\ (fr 2= .fn 152 [] [])/\ (fr 15= .fz (a.map aB.enc))/\ (fr 16= .int .i64 a.length)/\ (fr 17= .int .i64 k)/\ (a.take k=b.take k)) 0 (bVn _) ⟨_,_,_,rfl,(by first|(simp only[go_sem,qW];(try rfl);done)|rfl|simp),(by first|(simp only[go_sem,qW];(try rfl);done)|rfl|simp),(by first|(simp only[go_sem,qW];(try rfl);done)|rfl|simp),(by first|(simp only[go_sem,qW];(try rfl);done)|rfl|simp),(by first|(simp only[go_sem,qW];(try rfl);done)|rfl|simp),(by first|(simp only[go_sem,qW];(try rfl);done)|rfl|simp),(by first|(simp only[go_sem,qW];(try rfl);done)|rfl|simp)⟩ ?_
  rintro k st hk ⟨fr,en,cnt,rfl,h0,h1,h2,h15,h16,h17,hI⟩
  simp only[go_sem,qC,qG,qW,h0,h1,h2,h15,h16,h17]
  refine aA (fun hq=>?_) (fun hq=>?_)
  ·have h':k<a.length:=of_decide_eq_true hq;have h'':k<b.length:=by omega
   simp only[go_sem,qC,qG,qW,h',h'',h0,h1,h2,h15,h16,h17,(aGt _ b[k] (hf _ (bVp h'))).ret]
   refine aA (fun hb=>?_) (fun hb=>?_)
   ·simp only[go_sem,qC,qG,qW]
    simp at hb
    simp[aXv h' h'' hb]
   ·simp only[go_sem,qC,qG,qW,h',h0,h1,h2,h15,h16,h17]
    simp at hb
    refine⟨_,_,_,rfl,?_⟩
    simp only[go_sem,qW,h0,h1,h2,h15,h16,h17,aK h' ha];exact aI9 h' h'' hI hb
  ·have:k=a.length:=by simp at hq;omega
   subst this;simp only[go_sem,qC,qG,qW];simp[aJa hl hI]
theorem aI.eq_iff {a b:aI}:decide (a=b)=(decide (a.form=b.form)&&decide (a.n=b.n)&&decide (a.vals=b.vals)&&decide (a.frames=b.frames)):=by
 cases a;cases b;simp[Bool.and_assoc]
theorem aOp (a b:aI)(ha:a.few):PC L 119 [.agg [.int .i64 a.form,.int .i64 a.n,.fz (a.vals.map aG.enc),.fz (a.frames.map aB.enc)],.agg [.int .i64 b.form,.int .i64 b.n,.fz (b.vals.map aG.enc),.fz (b.frames.map aB.enc)]] (.bool (decide (a=b))):=by
 rw[aI.eq_iff]
 refine aL bHo rfl rfl ?_
 simp only[go_sem,qC,qG,qW,aQc]
 refine aE (fun g1=>?_) (fun g1=>?_)
 ·simp only[go_sem,qC,qG,qW,g1]
  refine aE (fun g2=>?_) (fun g2=>?_)
  ·simp only[go_sem,qC,qG,qW,g1,g2,(wR _ _ ha.1).ret]
   refine aE (fun g3=>?_) (fun g3=>?_)
   ·simp only[go_sem,qC,qG,qW,g1,g2,g3,(aJu _ _ ha.2.1 ha.2.2).ret,bVy]
   ·simp only[go_sem,qC,qG,qW,g1,g2,g3,bVq,bVy,bV5]
  ·simp only[go_sem,qC,qG,qW,g1,g2,bVq,bVy,bV5]
 ·simp only[go_sem,qC,qG,qW,g1,bVq,bV5]
theorem aMg {a b:aC}{k:Nat}(ha:k<a.objs.length)(hb:k<b.objs.length):((a.obj k).form=(b.obj k).form)=(a.objs[k].form=b.objs[k].form):=by rw[dT ha,dT hb]
theorem uY (a b:aC)(ha:a.few):PC L 80 [.agg [.fz (a.objs.map aI.enc),.fz (a.tasks.map (.int .i64)),.fz (a.outs.map aO.enc),.fz (a.ins.map (.int .i64)),.int .i64 a.used],.agg [.fz (b.objs.map aI.enc),.fz (b.tasks.map (.int .i64)),.fz (b.outs.map aO.enc),.fz (b.ins.map (.int .i64)),.int .i64 b.used]] (.bool (fP a b)):=by
 refine aL bS2 rfl rfl ?_
 simp only[go_sem,qC,qG,qW,bAz];have hle: ∀{x y:Nat},decide (x<y)=false↔y<=x:=by intro x y;simp
 have hnle: ∀{x y:Nat},decide (x<y)=true↔ ¬y<=x:=by intro x y;simp
 refine aE (fun g1=>?_) (fun g1=>?_)
 ·have k1:=hle.1 g1;simp only[go_sem,qC,qG,qW,g1]
  refine aE (fun g2=>?_) (fun g2=>?_)
  ·have k2:=hle.1 g2;have eT:(b.tasks.map (Val.int .i64)).take a.tasks.length=(b.tasks.take a.tasks.length).map (.int .i64):=by rw[bXh]
   simp only[go_sem,qC,qG,qW,g1,g2,k2,bVk,eT,(aMf _ _ ha.tasks).ret]
   refine aA (fun g3=>?_) (fun g3=>?_)
   ·simp only[go_sem,qC,qG,qW];have: ¬a.tasks=b.tasks.take a.tasks.length:=by simpa using g3
    simp[fP,this]
   ·have k3:a.tasks=b.tasks.take a.tasks.length:=by simpa using g3
    have e4:fP a b=rX a b:=by simp only[fP,decide_eq_true k1,decide_eq_true k2,decide_eq_true k3,bVy]
    rw[e4];simp only[go_sem,qC,qG,qW]
    refine bF (a.objs.length) (fun k st=> ∃fr en cnt,st=⟨fr,en,cnt⟩/\ (fr 3= .ptr ⟨0,3,0⟩ 0)/\ (en ⟨0,3,0⟩=some (.box b.cells false))/\ (fr 36= .fz (a.objs.map aI.enc))/\ (fr 37= .int .i64 a.objs.length)/\ (fr 38= .int .i64 k)/\ (∀i,i<k->(a.obj i).form=(b.obj i).form)) 0 (bVn _) ⟨_,_,_,rfl,(by first|(simp only[go_sem,qW];(try rfl);done)|rfl|simp),(by first|(simp only[go_sem,qW];(try rfl);done)|rfl|simp),(by first|(simp only[go_sem,qW];(try rfl);done)|rfl|simp),(by first|(simp only[go_sem,qW];(try rfl);done)|rfl|simp),(by first|(simp only[go_sem,qW];(try rfl);done)|rfl|simp),(by first|(simp only[go_sem,qW];(try rfl);done)|rfl|simp)⟩ ?_
    rintro k st hk ⟨fr,en,cnt,rfl,h3,e3,h36,h37,h38,hI⟩
    simp only[go_sem,qC,qG,qW,h3,e3,h36,h37,h38]
    refine aA (fun hq=>?_) (fun hq=>?_)
    ·have h':k<a.objs.length:=of_decide_eq_true hq;have h'':k<b.objs.length:=by omega
     simp only[go_sem,qC,qG,qW,h',h'',h3,e3,h36,h37,h38]
     refine aA (fun hb=>?_) (fun hb=>?_)
     ·simp only[go_sem,qC,qG,qW];have:rX a b=false:=by
       unfold rX;rw[bX3]
       refine⟨k,by simpa using h',?_⟩
       rw[decide_eq_true_iff,aMg h' h'']
       simpa using hb
      rw[this]
     ·simp only[go_sem,qC,qG,qW,h',h3,e3,h36,h37,h38]
      refine⟨_,_,_,rfl,?_⟩
      simp only[go_sem,qW,h3,e3,h36,h37,h38,aK h' ha.objs];intro i hi
      by_cases hik:i<k
      ·exact hI i hik
      ·have:i=k:=by omega
       subst this;rw[aMg h' h'']
       simpa using hb
    ·have:k=a.objs.length:=by simp at hq;omega
     subst this;simp only[go_sem,qC,qG,qW];have:rX a b=true:=by
      unfold rX;rw[bVo];intro i hi;exact decide_eq_true (hI i (by simpa using hi))
     rw[this]
  ·have k2:=hnle.1 (by simpa using g2)
   simp only[go_sem,qC,qG,qW,g1,g2,bVz];simp only[fP,decide_eq_false k2,bV5,bWn]
 ·have k1:=hnle.1 (by simpa using g1)
  simp only[go_sem,qC,qG,qW,g1,bVz];simp only[fP,decide_eq_false k1,bV5]
end Go.Proofs.YthpmfghgoabnhaaGreat
