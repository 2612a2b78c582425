/- Contracts of functions of the program and of the document: part 2. -/
import Derived.Test.YthpmfghgoabnhaaGreatM1
set_option linter.all false
open Bool renaming and_eq_true → bXb, and_false → bYp, and_true → bY6, eq_iff_iff → bZr, false_and → bX6, false_eq_true → bXc, false_or → bYy, not_eq_false' → bZ5, not_eq_true → bYf, not_eq_true' → bYh, not_false → bXz, not_not → bZl, not_true → bXp, or_eq_true → bZv, or_true → bXg, true_and → bX0, true_or → bXi
open Int renaming toNat_natCast → bXx, toNat_of_nonneg → bZo
open List renaming all_cons → bXe, all_eq_false → bZ6, all_eq_true → bXo, any_cons → bZs, any_eq_true → bZm, drop_eq_getElem_cons → bX7, drop_length → bY7, ext_getElem → bZe, foldl_cons → bY5, foldl_nil → bZq, getD_eq_getElem?_getD → bXm, getElem?_cons_succ → bXh, getElem?_cons_zero → bXf, getElem?_eq_getElem → bYs, getElem_map → bZb, getElem_mem → bXn, getElem_range → bZx, length_cons → bXu, length_map → bXj, length_nil → bYb, length_take → bZc, map_append → bXw, map_congr_left → bYm, map_cons → bYa, map_nil → bXv, map_set → bYu, map_take → bZd, mem_append → bX1, mem_cons → bYe, mem_filter → bY0, mem_flatMap → bYk, mem_map → bXy, mem_of_mem_take → bZt, mem_range → bYz, mem_singleton → bYi, nil_append → bYw, not_all_eq_any_not → bZk, range_succ → bY1, take_length → bYc, take_of_length_le → bXs
open Nat renaming le_refl → bXd, zero_add → bX2, zero_le → bXl
open Option renaming getD_some → bX3
namespace Go.Proofs.YthpmfghgoabnhaaGreat
open Go.Abs Go.Proofs
theorem aGo (l:List ByteArray)(hl:Few l.length):PC L 201 [.fz (l.map .str)] (.bool (kF [] l)):=by
 refine aL bKz rfl rfl ?_
 simp only[go_sem,qC,qG,qW,aS8]
 refine bD l.length (fun k st=> ∃fr en cnt ks vs,st=⟨fr,en,cnt⟩/\ fr 0= .fz (l.map .str)/\ fr 3= .mp ⟨0,6,0⟩/\ fr 7= .fz (l.map .str)/\ fr 8= .int .i64 l.length/\ fr 9= .int .i64 k/\ en ⟨0,6,0⟩=some (.map (List.map Val.str ks) vs false)/\ (l.drop k).foldl sS ks=l.foldl sS []) 0 (bXl _) ⟨_,_,_,[],[],rfl,by simp only[go_sem,qW],by simp only[go_sem,qW],by simp only[go_sem,qW],by simp only[go_sem,qW],by simp only[go_sem,qW],by simp only[go_sem,qW],rfl⟩ ?_
 rintro k st hk ⟨fr,en,cnt,ks,vs,rfl,h0,h3,h7,h8,h9,e6,hI⟩
 simp only[go_sem,qC,qG,qW,h0,h3,h7,h8,h9]
 refine aA (fun hq=>?_) (fun hq=>?_)
 ·have h':k<l.length:=of_decide_eq_true hq;rw[bX7 h',bY5,sS]at hI;rcases aD8 l[k] ks with⟨i,f1,f2,f3⟩|⟨f1,f2⟩
  ·rw[f2]at hI;simp only[go_sem,qC,qG,qW,h',h0,h3,h7,h8,h9,e6,f1,f3]
   refine⟨_,_,_,ks,vs.set i (.bool true),rfl,?_⟩
   simp only[go_sem,qC,qG,qW,h0,h3,h7,h8,h9,aJ h' hl]
   simpa using hI
  ·rw[f2]at hI;simp only[go_sem,qC,qG,qW,h',h0,h3,h7,h8,h9,e6,f1]
   refine⟨_,_,_,ks++[l[k]],vs++[.bool true],rfl,?_⟩
   simp only[go_sem,qC,qG,qW,h0,h3,h7,h8,h9,aJ h' hl]
   refine⟨by simp,?_⟩
   simpa using hI
 ·have:k=l.length:=by simp at hq;omega
  subst this;simp only[bY7,bZq]at hI;simp only[go_sem,qC,qG,qW,h0,h3,e6];have:=aBe l [];rw[<-this,<-hI];simp
theorem aBj {en:En}{v:Val}{size:Nat}{xs:List Val}{D:List Nat}(h:cG en v size xs D): ∃r ks,snapD 8 en v=some (r,ks)/\ r.wk= .fz xs/\ r.wk1= .fz xs:=by
 obtain⟨r,ks,h1,_,h2,h3,_⟩:=h.snap 7;exact⟨r,ks,h1,h3,h2⟩
theorem aGp (l:List bE)(hl:l.length<=1000):PC L 202 [.fz (l.map bE.enc),.fn 203 [] []] (.fz (l.map fun c=> .str c.name)):=by
 have hf:Few l.length:=by unfold Few;omega
 refine aL bK0 rfl rfl ?_
 simp only[go_sem,qC,qG,qW,aS9]
 refine bD l.length (fun k st=> ∃fr en cnt,st=⟨fr,en,cnt⟩/\ fr 1= .fn 203 [] []/\ fr 8= .fz (l.map bE.enc)/\ fr 9= .int .i64 l.length/\ fr 10= .int .i64 k/\ cG en (fr 5) 1 ((l.take k).map fun c=> .str c.name) [19]) 0 (bXl _) ⟨_,_,_,rfl,by simp only[go_sem,qW],by simp only[go_sem,qW],by simp only[go_sem,qW],by simp only[go_sem,qW],by simp only[go_sem,qW];exact cG.nil _ _⟩ ?_
 rintro k st hk ⟨fr,en,cnt,rfl,h1,h8,h9,h10,h5⟩
 simp only[go_sem,qC,qG,qW,h1,h8,h9,h10]
 refine aA (fun hq=>?_) (fun hq=>?_)
 ·have h':k<l.length:=of_decide_eq_true hq;simp only[go_sem,qC,qG,qW,h',h1,h8,h9,h10,(rS _).ret]
  refine pR (D:=[19]) (xs:=(l.take k).map fun c=>Val.str c.name) (ys:=[.str l[k].name]) (rs:=[]) ?_ ?_ ?_ ?_ ?_
  ·simp only[go_sem,qW];exact h5.keep fun t g ht=>by simp at ht;subst ht;simp only[go_sem,qW]
  ·simp only[go_sem,qW]
  ·rfl
  ·simp;omega
  ·intro v en' cnt' hown hen hcnt;simp only[go_sem,qC,qG,qW,h',h1,h8,h9,h10]
   refine⟨_,_,_,rfl,?_⟩
   simp only[go_sem,qC,qG,qW,h',h1,h8,h9,h10,aJ h' hf];exact cG.sub (by rw[dF h',bXw];exact hown) (by simp)
 ·have:k=l.length:=by simp at hq;omega
  subst this;rw[bYc]at h5;simp only[go_sem,qC,qG,qW];obtain⟨r,ks,e1,e2,_⟩:=aBj h5;simp only[go_sem,qC,qG,qW,e1,e2]
theorem aNn {u:List Int}{n:Nat}{x:Int}(hu:u.length=n)(h:inR x 0 ((n:Int)-1)=true):0<=x/\ x<(n:Int)/\ (u.map (Val.int .i64))[x.toNat]?=some (.int .i64 (u.getD x.toNat 0)):=by
 simp only[inR,cAg]at h;have hx:x.toNat<u.length:=by omega
 exact⟨by omega,by omega,by simp[bXm,hx]⟩
theorem uS (p:aP)(hp:p.few)(hs:p.cons.length<=1000)(hm: ∀n∈p.nodes,n.pats.length<=1000):PC L 175 [.agg [.fz (p.nodes.map aK.enc),.fz (p.funs.map (.int .i64)),.int .i64 p.main,.fz (p.cons.map bE.enc)]] (.bool (uQ p)):=by
 have w1:=dL hp.nodes;have w2:=dL hp.funs;have ask1:dD L (fun x:bE=> .agg [.str x.name,.int .i64 x.args]) (.fn 200 [] []) sA p.cons:=by
  refine⟨fun n en hn=>?_,rfl,rfl,rfl,fun x hx en K hK=>?_⟩
  ·obtain⟨m,rfl⟩: ∃m,n=m+4:=⟨n-4,by omega⟩
   simp only[go_sem,qW]
  ·simp only[go_sem,qW,(aNl x).ret];exact hK
 have ask2:dD L (fun x:aK=> .agg [.int .i64 x.op,.int .i64 x.n,.fz (x.kids.map (.int .i64)),.fz (x.pats.map Pat.enc)]) (.fn 205 [.agg [.fz (p.nodes.map aK.enc),.fz (p.funs.map (.int .i64)),.int .i64 p.main,.fz (p.cons.map bE.enc)]] []) (eG p) p.nodes:=by
  refine⟨fun n en hn=>?_,rfl,rfl,rfl,fun x hx en K hK=>?_⟩
  ·obtain⟨m,rfl⟩: ∃m,n=m+4:=⟨n-4,by omega⟩
   simp only[go_sem,qW]
  ·simp only[go_sem,qW,(wU p x hp (hp.node x hx) (hm x hx)).ret];exact hK
 have hd:=aGo (p.cons.map bE.name) (by simpa using hp.cons)
 rw[show(p.cons.map bE.name).map Val.str=p.cons.map fun c=>Val.str c.name by simp]at hd
 refine aL bKi rfl rfl ?_
 simp only[go_sem,qC,qG,qW,aSt,w1,w2]
 repeat' ((first|with_reducible refine aA (fun h=>?_) (fun h=>?_)|with_reducible refine aE (fun h=>?_) (fun h=>?_))<;>(try simp only[cAg,cAh,bXp,bXz]at h)<;>try simp only[go_sem,qC,qG,qW, *,(jV _ _ _).ret,(rR _ _ _ hp.cons ask1).ret,(aGp _ hs).ret,hd.ret,(rD _ _ _ hp.nodes ask2).ret])
 all_goals (try simp only[bYh,bZ5,Int.not_lt,Int.not_le]at*)
 all_goals try(simp[uQ, *];done)
 all_goals try(simp[uQ, *];intros;omega)
 have hn:p.nodes.length<=16777216:=by omega
 have hfo:uQ p=wS ((rE 0 (p.nodes.length-1) (List.replicate p.nodes.length 0) p.funs).bind fun u=>iX p 0 u p.nodes):=by
  simp[uQ, *];intros;omega
 rw[hfo];clear hfo;simp only[go_sem,qC,qG,qW,aCw hn]
 refine bD p.funs.length (fun k st=> ∃fr en cnt u,st=⟨fr,en,cnt⟩/\ (fr 1= .ptr ⟨0,1,0⟩ 0/\ en ⟨0,1,0⟩=some (.box p.cells false)/\ fr 3= .int .i64 p.nodes.length/\ fr 4= .bl ⟨0,74,0⟩ 0 p.nodes.length/\ en ⟨0,74,0⟩=some (.blk 1 (u.map (Val.int .i64)) false)/\ u.length=p.nodes.length)/\ fr 77= .fz (p.funs.map (.int .i64))/\ fr 78= .int .i64 p.funs.length/\ fr 79= .int .i64 k/\ rE 0 (p.nodes.length-1) u (p.funs.drop k)=rE 0 (p.nodes.length-1) (List.replicate p.nodes.length 0) p.funs) 0 (bXl _) ⟨_,_,_,List.replicate p.nodes.length 0,rfl,⟨by simp only[go_sem,qW],by simp only[go_sem,qW],by simp only[go_sem,qW],by simp only[go_sem,qW],by simp only[go_sem,List.map_replicate],by simp⟩,by simp only[go_sem,qW],by simp only[go_sem,qW],by simp only[go_sem,qW],rfl⟩ ?_
 rintro k st hk ⟨fr,en,cnt,u,rfl,⟨h1,e1,h3,h4,eu,hu⟩,h77,h78,h79,hI⟩
 simp only[go_sem,qC,qG,qW,h77,h78,h79]
 refine aA (fun hq=>?_) (fun hq=>?_)
 ·have h':k<p.funs.length:=of_decide_eq_true hq;rw[bX7 h',rE]at hI;simp only[go_sem,qC,qG,qW,h',h1,e1,h3,h4,eu,h77,h78,h79,(jV _ _ _).ret,w1]
  refine aA (fun hb=>?_) (fun hb=>?_)
  ·simp only[go_sem,qC,qG,qW]
   simp at hb
   rw[hb]at hI
   simp at hI
   rw[<-hI];rfl
  ·simp at hb
   obtain⟨a1,a2,a3⟩:=aNn hu hb;rw[hb]at hI
   simp at hI
   simp only[go_sem,qC,qG,qW,h',h1,e1,h3,h4,eu,h77,h78,h79,a1,a2,a3]
   refine⟨_,_,_,u.set p.funs[k].toNat (IntKind.i64.wrap (u.getD p.funs[k].toNat 0+1)),rfl,?_⟩
   simp only[go_sem,qC,qG,qW,h',h1,e1,h3,h4,eu,h77,h78,h79,a1,a2,a3,<-bYu,aJ h' hp.funs];exact⟨by simp[hu],by simpa using hI⟩
 ·have:k=p.funs.length:=by simp at hq;omega
  subst this;rw[bY7,rE]at hI;rw[<-hI];simp only[Option.bind_some];clear hq hI hk;generalize hM:iX p 0 u p.nodes=M;simp only[go_sem,qC,qG,qW,h1,e1,h3]
  refine bD p.nodes.length (fun k st=> ∃fr en cnt u,st=⟨fr,en,cnt⟩/\ (fr 1= .ptr ⟨0,1,0⟩ 0/\ en ⟨0,1,0⟩=some (.box p.cells false)/\ fr 3= .int .i64 p.nodes.length/\ fr 4= .bl ⟨0,74,0⟩ 0 p.nodes.length/\ en ⟨0,74,0⟩=some (.blk 1 (u.map (Val.int .i64)) false)/\ u.length=p.nodes.length)/\ fr 97= .fz (p.nodes.map aK.enc)/\ fr 98= .int .i64 p.nodes.length/\ fr 99= .int .i64 k/\ iX p k u (p.nodes.drop k)=M) 0 (bXl _) ⟨_,_,_,u,rfl,⟨by simp only[go_sem,h1,e1,h3,h4,eu,hu],by simp only[go_sem,h1,e1,h3,h4,eu,hu],by simp only[go_sem,h1,e1,h3,h4,eu,hu],by simp only[go_sem,h1,e1,h3,h4,eu,hu],by simp only[go_sem,h1,e1,h3,h4,eu,hu],hu⟩,by simp only[go_sem,qW],by simp only[go_sem,qW],by simp only[go_sem,qW],hM⟩ ?_
  clear hM h1 e1 h3 h4 eu hu h77 h78 h79
  rintro k st hk ⟨fr,en,cnt,u,rfl,⟨h1,e1,h3,h4,eu,hu⟩,h97,h98,h99,hI⟩
  simp only[go_sem,qC,qG,qW,h97,h98,h99]
  refine aA (fun hq=>?_) (fun hq=>?_)
  ·have h':k<p.nodes.length:=of_decide_eq_true hq;have hx:=hp.node p.nodes[k] (bXn _);rw[bX7 h',iX]at hI;generalize hmm:rE ((k:Int)+1) (p.nodes.length-1) u p.nodes[k].kids=m at hI;simp only[go_sem,qC,qG,qW,h',h1,e1,h3,h97,h98,h99]
   refine bD p.nodes[k].kids.length (fun j st=> ∃fr en cnt u,st=⟨fr,en,cnt⟩/\ (fr 1= .ptr ⟨0,1,0⟩ 0/\ en ⟨0,1,0⟩=some (.box p.cells false)/\ fr 3= .int .i64 p.nodes.length/\ fr 4= .bl ⟨0,74,0⟩ 0 p.nodes.length/\ en ⟨0,74,0⟩=some (.blk 1 (u.map (Val.int .i64)) false)/\ u.length=p.nodes.length)/\ fr 7= .int .i64 k/\ fr 97= .fz (p.nodes.map aK.enc)/\ fr 98= .int .i64 p.nodes.length/\ fr 99= .int .i64 k/\ fr 105= .fz (p.nodes[k].kids.map (.int .i64))/\ fr 106= .int .i64 p.nodes[k].kids.length/\ fr 107= .int .i64 j/\ rE ((k:Int)+1) (p.nodes.length-1) u (p.nodes[k].kids.drop j)=m) 0 (bXl _) ⟨_,_,_,u,rfl,⟨by simp only[go_sem,h1,e1,h3,h4,eu,hu],by simp only[go_sem,h1,e1,h3,h4,eu,hu],by simp only[go_sem,h1,e1,h3,h4,eu,hu],by simp only[go_sem,h1,e1,h3,h4,eu,hu],by simp only[go_sem,h1,e1,h3,h4,eu,hu],hu⟩,by simp only[go_sem,qW],by simp only[go_sem,h97],by simp only[go_sem,h98],by simp only[go_sem,h99],by simp only[go_sem,qW],by simp only[go_sem,qW],by simp only[go_sem,qW],hmm⟩ ?_
   clear hmm h1 e1 h3 h4 eu hu h97 h98 h99
   rintro j st hj ⟨fr,en,cnt,u,rfl,⟨h1,e1,h3,h4,eu,hu⟩,h7,h97,h98,h99,h105,h106,h107,hJ⟩
   simp only[go_sem,qC,qG,qW,h105,h106,h107]
   refine aA (fun h2=>?_) (fun h2=>?_)
   ·have h2':j<p.nodes[k].kids.length:=of_decide_eq_true h2;rw[bX7 h2',rE]at hJ;have w3:IntKind.i64.wrap ((k:Int)+1)=(k:Int)+1:=bY (by omega)
    simp only[go_sem,qC,qG,qW,h2',h3,h7,h105,h106,h107,(jV _ _ _).ret,w1,w3]
    refine aA (fun hc=>?_) (fun hc=>?_)
    ·simp only[go_sem,qC,qG,qW]
     simp at hc
     rw[hc]at hJ
     simp at hJ
     rw[<-hI,<-hJ];rfl
    ·simp at hc
     have hc0:inR p.nodes[k].kids[j] 0 ((p.nodes.length:Int)-1)=true:=by simp[inR]at hc⊢;omega
     obtain⟨a1,a2,a3⟩:=aNn hu hc0;rw[hc]at hJ
     simp at hJ
     simp only[go_sem,qC,qG,qW,h2',h1,e1,h3,h4,eu,h7,h97,h98,h99,h105,h106,h107,a1,a2,a3]
     refine⟨_,_,_,u.set p.nodes[k].kids[j].toNat (IntKind.i64.wrap (u.getD p.nodes[k].kids[j].toNat 0+1)),rfl,?_⟩
     simp only[go_sem,qC,qG,qW,h2',h1,e1,h3,h4,eu,h7,h97,h98,h99,h105,h106,h107,a1,a2,a3,<-bYu,aJ h2' hx.kids];exact⟨by simp[hu],by simpa using hJ⟩
   ·have:j=p.nodes[k].kids.length:=by simp at h2;omega
    subst this;rw[bY7,rE]at hJ;rw[<-hJ]at hI;simp only[Option.bind_some]at hI;simp only[go_sem,qC,qG,qW,h',h1,e1,h3,h4,eu,h97,h98,h99]
    refine⟨_,_,_,u,rfl,?_⟩
    simp only[go_sem,qC,qG,qW,h1,e1,h3,h4,eu,h97,h98,h99,hu,aJ h' hp.nodes];exact hI
  ·have:k=p.nodes.length:=by simp at hq;omega
   subst this;rw[bY7,iX]at hI;rw[<-hI];have ask3:dD L (fun x:Int=> .int .i64 x) (.fn 207 [] []) (fun c=>decide (c=1)) u:=by
    refine⟨fun n en hn=>?_,rfl,rfl,rfl,fun x hx en K hK=>?_⟩
    ·obtain⟨m,rfl⟩: ∃m,n=m+4:=⟨n-4,by omega⟩
     simp only[go_sem,qW]
    ·simp only[go_sem,qW,(rT x).ret];exact hK
   have ht:List.take p.nodes.length (u.map (Val.int .i64))=u.map (Val.int .i64):=bXs (by simp[hu])
   simp only[go_sem,qC,qG,qW,h4,eu,hu,bXd,ht,(aBh u _ _ (by rw[hu];exact hp.nodes) ask3).ret]
   rfl
theorem zE (p:aP)(hp:p.few)(hs:aT p=true):PC L 141 [.agg [.fz (p.nodes.map aK.enc),.fz (p.funs.map (.int .i64)),.int .i64 p.main,.fz (p.cons.map bE.enc)]] (.int .i64 (if fZ p then 0 else 2)):=by
 have hs':=hs;simp only[aT,bXb,cAg]at hs';obtain⟨⟨⟨⟨h1,h2⟩,h3⟩,h4⟩,h5⟩:=hs';have hm: ∀n∈p.nodes,n.pats.length<=1000:=by
  intro n hn;have:=bXo.1 h5 n hn;simp only[fK,bXb,cAg]at this;omega
 have h:=uS p hp (by omega) hm
 rw[aNm p hs]at h
 refine aL bJy rfl rfl ?_
 simp only[go_sem,qC,qG,qW,aSa,h.ret];cases hf:fZ p<;>simp only[go_sem,qC,qG,qW,hf,bXp,bXz]
def lG (out:List Int)(v:aG):List Int:=if(jK v&&!out.any (fun x=>decide (x=v.n)))=true then out++[v.n]else out
def fM (out:List Int)(l:List aG):List Int:=l.foldl lG out
def iE (o:aI):List Int:=o.frames.foldl (fun out f=>fM (fM out f.env) f.vals) (fM [] o.vals)
theorem aKy (out:List Int)(v:aG):(lG out v).length<=out.length+1:=by unfold lG;split<;>simp
theorem qQ : ∀(l:List aG) (out:List Int),(fM out l).length<=out.length+l.length
 |[],out=>by simp[fM]
 |v::l,out=>by
  have h1:=qQ l (lG out v);have h2:=aKy out v;simp only[fM,bY5,bXu]at h1⊢;omega
theorem aPz {l:List aG}{out:List Int}{k:Nat}(h:k<l.length):fM out (l.take (k+1))=lG (fM out (l.take k)) l[k]:=by
 rw[dF h];simp only[fM,List.foldl_append,bY5,bZq]
theorem aGq (out:List Int)(l:List aG){v:Val}{en:En}{cnt:Nat->Nat->Nat}{D:List Nat}(hD:35∈D)(hm:cG en v 1 (out.map (.int .i64)) D)(hb:out.length+l.length<=16777216):
  WIn L (.fn 114 [] []) [v,.fz (l.map aG.enc)] en cnt fun r en' cnt'=>
   cG en' r 1 ((fM out l).map (.int .i64)) D/\ (∀n t g,n≠0 \/(t∉D/\ t≠34)->en' ⟨n,t,g⟩=en ⟨n,t,g⟩):=by
 have hf:Few l.length:=by unfold Few;omega
 obtain⟨en0,hen0⟩: ∃e,e=en:=⟨_,rfl⟩
 refine mK bJh rfl rfl ?_
 simp only[go_sem,qC,qG,qW,aRu]
 refine bD l.length (fun k st=> ∃fr en cnt,st=⟨fr,en,cnt⟩/\ fr 1= .fz (l.map aG.enc)/\ fr 5= .int .i64 k/\ cG en (fr 0) 1 ((fM out (l.take k)).map (.int .i64)) D/\ (∀n t g,n≠0 \/(t∉D/\ t≠34)->en ⟨n,t,g⟩=en0 ⟨n,t,g⟩)) 0 (bXl _) ⟨_,_,_,rfl,by simp only[go_sem,qW],by simp only[go_sem,qW],by simp only[go_sem,qW];simpa[fM]using hm,fun n t g h=>by rw[hen0]⟩ ?_
 rintro k st hk ⟨fr,en,cnt,rfl,h1,h5,h0,hI⟩
 simp only[go_sem,qC,qG,qW,h1,h5]
 refine aA (fun h=>?_) (fun h=>?_)
 ·have h':k<l.length:=of_decide_eq_true h;have hlen:=qQ (l.take k) out;rw[bZc]at hlen;have hs:=aPz (out:=out) h';obtain⟨r,ks,s1,s2,s3⟩:=aBj h0;simp only[go_sem,qC,qG,qW,h',h1,h5]
  refine aE (fun hg=>?_) (fun hg=>?_)
  ·have hx:jK l[k]=true:=hg;have hd:=aH4 (fM out (l.take k)) l[k].n (by unfold Few;omega)
   simp only[go_sem,qC,qG,qW,hg,h',h1,h5,s1,s3,hd.ret]
   refine aA (fun h2=>?_) (fun h2=>?_)
   ·have hs2:fM out (l.take (k+1))=fM out (l.take k)++[l[k].n]:=by rw[hs,lG,if_pos (by rw[hx];simpa using h2)]
    simp only[go_sem,qC,qG,qW,h',h1,h5]
    refine pR (D:=D) (xs:=(fM out (l.take k)).map (.int .i64)) (ys:=[.int .i64 l[k].n]) (rs:=[]) ?_ ?_ ?_ ?_ ?_
    ·simp only[go_sem,qW];exact h0
    ·simp only[go_sem,qW]
    ·rfl
    ·simp;omega
    ·intro v' en' cnt' hown hen hcnt;simp only[go_sem,qC,qG,qW,h',h1,h5]
     refine⟨_,_,_,rfl,?_⟩
     simp only[go_sem,qC,qG,qW,h',h1,h5,aJ h' hf]
     refine⟨?_,fun n t g h=>?_⟩
     ·rw[hs2,bXw];exact cG.sub hown (by intro t ht;rcases bYe.1 ht with rfl|ht<;>assumption)
     ·rw[hen n t g (by rcases h with h|h;exact .inl h;exact .inr ⟨fun e=>h.1 (e▸hD),h.1⟩)]
      exact hI n t g h
   ·have hs2:fM out (l.take (k+1))=fM out (l.take k):=by rw[hs,lG,if_neg (by rw[hx];simpa using h2)]
    simp only[go_sem,qC,qG,qW,h',h1,h5]
    refine⟨_,_,_,rfl,?_⟩
    simp only[go_sem,qC,qG,qW,h',h1,h5,aJ h' hf];exact⟨by rw[hs2];exact h0,hI⟩
  ·have hx:jK l[k]=false:=hg;have hs2:fM out (l.take (k+1))=fM out (l.take k):=by rw[hs,lG,if_neg (by rw[hx];simp)]
   simp only[go_sem,qC,qG,qW,hg,h',h1,h5]
   refine⟨_,_,_,rfl,?_⟩
   simp only[go_sem,qC,qG,qW,h',h1,h5,aJ h' hf];exact⟨by rw[hs2];exact h0,hI⟩
 ·have:k=l.length:=by simp at h;omega
  subst this;rw[bYc]at h0;simp only[go_sem,qC,qG,qW];exact⟨h0,fun n t g h=>by rw[<-hen0];exact hI n t g h⟩
theorem aC3 {α:Type}{g:Val->Val->Bool}{f:α->Val}: ∀(l:List α),(∀x∈l,g (f x) (f x)=true)->kY g (l.map f) (l.map f)=true
 |[],_=>rfl
 |x::l,h=>by simp only[bYa,kY,bXb];exact⟨h x (by simp),aC3 l fun y hy=>h y (by simp[hy])⟩
theorem aI7 {n:Nat}{k:IntKind}{i:Int}:kR (n+1) (.int k i) (.int k i)=true:=by simp[kR]
theorem aWp {n:Nat}(v:aG):kR (n+2) (aG.enc v) (aG.enc v)=true:=by simp[kR,aG.enc,kY]
theorem aGr {n:Nat}(l:List aG):kR (n+3) (.fz (l.map aG.enc)) (.fz (l.map aG.enc))=true:=aC3 l fun v _=>aWp v
theorem aNo {n:Nat}(f:aC):kR (n+4) (aC.enc f) (aC.enc f)=true:=by
 show kY (kR (n+3)) [_,_,_] [_,_,_]=true;simp only[kY,aGr,aI7,Bool.and_self]
theorem aKz {n:Nat}(l:List aC):kR (n+5) (.fz (l.map aC.enc)) (.fz (l.map aC.enc))=true:=aC3 l fun v _=>aNo v
theorem aWq (o:aI)(f:Bool):aE2 (some (.box [.int .i64 o.form,.int .i64 o.n,.fz (o.vals.map aG.enc),.fz (o.frames.map aC.enc)] f)) (some (.box [.int .i64 o.form,.int .i64 o.n,.fz (o.vals.map aG.enc),.fz (o.frames.map aC.enc)] f))=true:=by
 simp only[aE2,kY,aGr,aI7,aKz,Bool.and_self,decide_true]
theorem bDc {v v':Val}{m:En×(Nat->Nat->Nat)}{u u':Key->Bool}{rs:List R}:sZ {v,mem:=some m,unch:=u} {v:=v',rs:=rs,unch:=u'}=rs.all (fun r=>u r.key):=by simp[sZ,Res.still]
def jW (o:aI)(k:Nat):List Int:=(o.frames.take k).foldl (fun out f=>fM (fM out f.env) f.vals) (fM [] o.vals)
theorem aBk {o:aI}{k:Nat}(h:k<o.frames.length):jW o (k+1)=fM (fM (jW o k) o.frames[k].env) o.frames[k].vals:=by
 unfold jW;rw[dF h];simp only[List.foldl_append,bY5,bZq]
theorem aBl (o:aI):jW o o.frames.length=iE o:=by unfold jW iE;rw[bYc]
theorem pB {o:aI}(hs:dE o=true):o.vals.length<=40/\ o.frames.length<=50/\ ∀f∈o.frames,f.env.length<=40/\ f.vals.length<=40:=by
 simp only[dE,bXb,cAg,bXo]at hs
 refine⟨by omega,by omega,fun f hf=>?_⟩
 have:=hs.2 f hf;omega
theorem yK {o:aI}(hs:dE o=true):o.few:=by
 obtain⟨h1,h2,h3⟩:=pB hs
 refine⟨by unfold Few;omega,by unfold Few;omega,fun f hf=>?_⟩
 have:=h3 f hf;exact⟨by unfold Few;omega,by unfold Few;omega⟩
theorem wV {o:aI}(hs:dE o=true): ∀(k:Nat),k<=o.frames.length->(jW o k).length<=40+80*k
 |0,_=>by
  have h1:=qQ o.vals [];have h2:=(pB hs).1;have e:jW o 0=fM [] o.vals:=by simp[jW]
  rw[e];simp only[bYb]at h1;omega
 |k+1,h=>by
  have h1:=wV hs k (by omega)
  rw[aBk (by omega)]
  have h2:=qQ o.frames[k].vals (fM (jW o k) o.frames[k].env);have h3:=qQ o.frames[k].env (jW o k);have h4:=(pB hs).2.2 _ (bXn (show k<o.frames.length by omega))
  omega
theorem aI8 {o:aI}(hs:dE o=true):(iE o).length<=4040:=by
 rw[<-aBl];have:=wV hs o.frames.length (bXd _);have:=(pB hs).2.1;omega
theorem aEb (o:aI)(hs:dE o=true):PC L 68 [.agg [.int .i64 o.form,.int .i64 o.n,.fz (o.vals.map aG.enc),.fz (o.frames.map aC.enc)]] (.fz ((iE o).map (.int .i64))):=by
 obtain⟨b1,b2,b3⟩:=pB hs;have hf:Few o.frames.length:=by unfold Few;omega
 refine aL bUy rfl rfl ?_
 simp only[go_sem,qC,qG,qW,bCr]
 refine(aGq [] o.vals (D:=[35]) (by simp) (cG.nil _ _) (by simp;omega)).mono ?_
 rintro v en' cnt' ⟨hm,hfr⟩
 have e1:en' ⟨0,1,0⟩=some (.box [.int .i64 o.form,.int .i64 o.n,.fz (o.vals.map aG.enc),.fz (o.frames.map aC.enc)] false):=by rw[hfr _ _ _ (.inr ⟨by simp,by simp⟩)];simp only[go_sem,qW]
 refine bD o.frames.length (fun k st=> ∃fr en cnt,st=⟨fr,en,cnt⟩/\ fr 1= .ptr ⟨0,1,0⟩ 0/\ en ⟨0,1,0⟩=some (.box [.int .i64 o.form,.int .i64 o.n,.fz (o.vals.map aG.enc),.fz (o.frames.map aC.enc)] false)/\ fr 4= .int .i64 k/\ cG en (fr 3) 1 ((jW o k).map (.int .i64)) [35]) 0 (bXl _) ⟨_,_,_,rfl,by simp only[go_sem,qW],by simp only[go_sem,e1],by simp only[go_sem,qW],by simp only[go_sem,qW];simpa[jW]using hm⟩ ?_
 rintro k st hk ⟨fr,en,cnt,rfl,h1,e1,h4,h3⟩
 simp only[go_sem,qC,qG,qW,h1,e1,h4]
 refine aA (fun hq=>?_) (fun hq=>?_)
 ·have h':k<o.frames.length:=of_decide_eq_true hq;have h4':=b3 _ (bXn h');have hl:=wV hs k hk;have hl2:=qQ o.frames[k].env (jW o k);simp only[go_sem,qC,qG,qW,h',h1,e1,h4]
  refine aO ?_
  simp only[go_sem,qC,qG,qW,h',h1,e1,h4,bXe,bXf,bXh,bXi,bXg]
  refine(aGq (jW o k) o.frames[k].env (D:=[35]) (by simp) h3 (by omega)).mono ?_
  rintro v1 en1 cnt1 ⟨hm1,hfr1⟩
  have e1':=(hfr1 0 1 0 (.inr ⟨by simp,by simp⟩)).trans e1
  simp only[go_sem,qC,qG,qW,h',h1,e1',h4,bXe,bXf,bXh,bXi,bXg]
  refine(aGq (fM (jW o k) o.frames[k].env) o.frames[k].vals (D:=[35]) (by simp) hm1 (by omega)).mono ?_
  rintro v2 en2 cnt2 ⟨hm2,hfr2⟩
  have e1'':=(hfr2 0 1 0 (.inr ⟨by simp,by simp⟩)).trans e1'
  simp only[go_sem,qC,qG,qW,h',h1,e1,e1',h4,bXe,bXf,bXh,bXi,bXg,bDc,aWq,List.all_nil]
  refine⟨rfl,_,_,_,rfl,?_⟩
  simp only[go_sem,qC,qG,qW,h',h1,e1'',h4,aJ h' hf];rw[aBk h'];exact hm2
 ·have:k=o.frames.length:=by simp at hq;omega
  subst this;rw[aBl]at h3;simp only[go_sem,qC,qG,qW];obtain⟨r,ks,s1,s2,s3⟩:=aBj h3;simp only[go_sem,qC,qG,qW,s1,s2]
theorem aK0 (out:List Int)(v:aG)(x:Int):x∈lG out v↔x∈out \/(jK v=true/\ x=v.n):=by
 unfold lG;split
 ·rename_i h;simp only[bXb]at h;simp[h.1]
 ·rename_i h;constructor
  ·exact .inl
  ·rintro(h2|⟨h2,rfl⟩)
   ·exact h2
   ·rw[h2,bX0]at h;simp only[bYh,Bool.not_eq_false]at h;obtain⟨y,hy,e⟩:=bZm.1 h;rw[<-of_decide_eq_true e];exact hy
theorem yL (x:Int): ∀(l:List aG) (out:List Int),x∈fM out l↔x∈out \/x∈cP l
 |[],out=>by simp[fM,cP]
 |v::l,out=>by
  have:=yL x l (lG out v);simp only[fM,bY5]at this⊢;rw[this,aK0]
  by_cases h:jK v=true
  ·rw[yH h];simp[h,or_assoc]
  ·rw[yI (by simpa using h)];simp[h]
theorem aGs (x:Int): ∀(l:List aC) (out:List Int),x∈l.foldl (fun out f=>fM (fM out f.env) f.vals) out↔x∈out \/x∈l.flatMap cX
 |[],out=>by simp
 |f::l,out=>by
  simp only[bY5];rw[aGs x l,yL,yL];simp[cX,or_assoc]
theorem kG (o:aI)(x:Int):x∈iE o↔x∈dG o:=by
 unfold iE dG;rw[aGs,yL];simp
theorem aK1 {p:aP}{w:aB}{l:List aG}{m:Int}(h:aR p w l m=true): ∀x∈cP l,inR x 0 (w.objs.length-1)=true:=by
 intro x hx;simp only[aR,bXb,bXo]at h;simp only[cP,bXy,bY0]at hx;obtain⟨v,⟨hv,hr⟩,rfl⟩:=hx;have h5:v.kind=5:=of_decide_eq_true hr;have:=h.2 v hv
 simpa[cO,h5]using this
theorem aWr {p:aP}{w:aB}{l:List aC}(h:bK p w l=true): ∀x∈l.flatMap cX,inR x 0 (w.objs.length-1)=true:=by
 intro x hx;simp only[bK,bXb,bXo]at h;obtain⟨f,hf,hx⟩:=bYk.1 hx;have hk:=h.2 f hf;simp only[bG,bXb]at hk;rcases bX1.1 hx with hx|hx
 ·exact aK1 hk.1.2 x hx
 ·exact aK1 hk.2 x hx
theorem aZx {α:Type}{l:List α}(h:(l.length:Int)=0):l=[]:=by
 cases l with
 |nil=>rfl
 |cons a l=>simp at h;omega
theorem bGc {p:aP}{w:aB}{o:aI}(h:dN p w o=true): ∀x∈dG o,inR x 0 (w.objs.length-1)=true:=by
 have key:(∃m,aR p w o.vals m=true \/o.vals=[])/\ (bK p w o.frames=true \/o.frames=[]):=by
  unfold dN at h
  split at h
  ·unfold iH at h
   split at h
   ·simp only[bXb]at h;exact⟨⟨1,.inl h.1.1.2⟩,.inl h.1.1.1⟩
   split at h
   ·simp only[bXb,cAg]at h;exact⟨⟨1,.inl h.2⟩,.inr (aZx h.1.1)⟩
   split at h
   ·simp only[bXb,cAg]at h;exact⟨⟨1,.inr (aZx h.2)⟩,.inr (aZx h.1)⟩
   ·cases h
  split at h
  ·simp only[bXb,cAg]at h;exact⟨⟨1,.inr (aZx h.1.1.1.1.2)⟩,.inl h.1.1.2⟩
  split at h
  ·cases h
  rename_i hf;have hf0:o.frames=[]:=aZx (Classical.not_not.1 hf)
  split at h
  ·simp only[bXb]at h;exact⟨⟨_,.inl h.2⟩,.inr hf0⟩
  split at h
  ·simp only[bXb]at h;exact⟨⟨_,.inl h.2⟩,.inr hf0⟩
  split at h
  ·simp only[bXb]at h;exact⟨⟨_,.inl h.2⟩,.inr hf0⟩
  split at h
  ·simp only[bXb]at h;exact⟨⟨_,.inl h.2⟩,.inr hf0⟩
  ·cases h
 obtain⟨⟨m,hv⟩,hfr⟩:=key;intro x hx;rcases bX1.1 hx with hx|hx
 ·rcases hv with hv|hv
  ·exact aK1 hv x hx
  ·rw[hv]at hx;simp[cP]at hx
 ·rcases hfr with hfr|hfr
  ·exact aWr hfr x hx
  ·rw[hfr]at hx;simp at hx
theorem aZy {p:aP}{w:aB}(h:gG p w=true): ∀o∈w.objs,∀x∈dG o,inR x 0 (w.objs.length-1)=true:=by
 intro o ho;simp only[gG,bXb,bXo]at h;exact bGc (h.1.2 o ho)
def oG (s:aX)(i:Int):Int:=s.ages.getD i.toNat 0
def fR (s:aX)(i:Int):Int:=s.marks.getD i.toNat 0
theorem gQ {s:aX}{k:Nat}(h:k<s.ages.length):oG s k=s.ages[k]:=by simp[oG,bXm,h]
theorem dV {s:aX}{k:Nat}(h:k<s.marks.length):fR s k=s.marks[k]:=by simp[fR,bXm,h]
theorem dH {w:aB}{k:Nat}(h:k<w.objs.length):w.obj k=w.objs[k]:=by simp[aB.obj,bXm,h]
def kV (s:aX)(i:Nat):Bool:=inR (oG s i) 0 2&&inR (fR s i) 0 2
def gC (s:aX)(i:Nat):Bool:=decide (fR s i=0)&&(bF (s.world.obj i)||decide (oG s i=2)&&!decide (s.cycle=3))
def iJ (s:aX)(i:Nat)(r:Int):Bool:=decide (fR s i=2)&&decide (fR s r=0)
def lH (s:aX)(i:Nat):Bool:=!gC s i&&(iE (s.world.obj i)).all fun r=>!iJ s i r
def lJ (s:aX):Bool:=(List.range s.world.objs.length).all fun i=>kV s i&&lH s i
def jX (s:aX):Bool:=decide (s.ages.length=s.world.objs.length)&&decide (s.marks.length=s.world.objs.length)&&inR s.cycle 0 3
def cE (p:aP)(s:aX):Bool:=eV p s.world&&jX s&&lJ s
theorem aBm {p:aP}{w:aB}(h:eV p w=true): ∀o∈w.objs,∀x∈iE o,inR x 0 (w.objs.length-1)=true:=by
 intro o ho x hx;simp only[eV,bXb]at h;exact aZy h.2 o ho x ((kG o x).1 hx)
theorem jY {w:aB}(h:aY w=true): ∀o∈w.objs,dE o=true:=by
 intro o ho;simp only[aY,bXb,bXo]at h;exact h.2 o ho
theorem aGt {L:cV}{l:List bH}{st:St}{Q:St->Prop}(M:St->Prop)(h:jC L l st M)(k: ∀fr en cnt,M ⟨fr,en,cnt⟩->Q ⟨fr,en,cnt⟩):jC L l st Q:=by
 have: ∀(l:List bH) {st:St} {M Q:St->Prop},jC L l st M->(∀s,M s->Q s)->jC L l st Q:=by
  intro l
  induction l with
  |nil=>intro st M Q h k;exact k _ h
  |cons o l ih=>intro st M Q h k;exact lD h fun s r hs=>ih hs k
 exact this l h fun s hs=>k _ _ _ hs
theorem aK2 (p:aP)(s:aX)(hp:p.few)(hs:s.few)(hc:p.cons.length<=1000)(hsm:aY s.world=true):PC L 32 [.agg [.fz (p.nodes.map aK.enc),.fz (p.funs.map (.int .i64)),.int .i64 p.main,.fz (p.cons.map bE.enc)],.agg [.fz (s.world.objs.map aI.enc),.fz (s.world.tasks.map (.int .i64)),.fz (s.world.outs.map aN.enc),.fz (s.world.ins.map (.int .i64)),.int .i64 s.world.used,.fz (s.ages.map (.int .i64)),.fz (s.marks.map (.int .i64)),.int .i64 s.cycle]] (.bool (cE p s)):=by
 refine aL bUi rfl rfl ?_
 simp only[go_sem,qC,qG,qW,bCe,(aBf p s.world hp hs.1 hc).ret]
 refine aE (fun g1=>?_) (fun g1=>?_)
 ·have k1:eV p s.world=true:=by simpa using g1
  simp only[go_sem,qC,qG,qW,g1]
  refine aE (fun g2=>?_) (fun g2=>?_)
  ·have k2:s.ages.length=s.world.objs.length:=by simp at g2;omega
   simp only[go_sem,qC,qG,qW,g1,g2]
   refine aE (fun g3=>?_) (fun g3=>?_)
   ·have k3:s.marks.length=s.world.objs.length:=by simp at g3;omega
    simp only[go_sem,qC,qG,qW,g1,g2,g3,(uO _ _ _).ret]
    refine aA (fun g4=>?_) (fun g4=>?_)
    ·simp only[go_sem,qC,qG,qW];have k4:inR s.cycle 0 3=false:=by simpa using g4
     simp[cE,jX,k4]
    ·have k4:inR s.cycle 0 3=true:=by simpa using g4
     have kl:jX s=true:=by simp[jX,k2,k3,k4]
     have fin:lJ s=false->Val.bool false=Val.bool (cE p s):=fun h=>by simp[cE,h]
     simp only[go_sem,qC,qG,qW]
     refine bD (s.world.objs.length) (fun k st=> ∃fr en cnt,st=⟨fr,en,cnt⟩/\ (fr 3= .ptr ⟨0,3,0⟩ 0)/\ (en ⟨0,3,0⟩=some (.box [.fz (s.world.objs.map aI.enc),.fz (s.world.tasks.map (.int .i64)),.fz (s.world.outs.map aN.enc),.fz (s.world.ins.map (.int .i64)),.int .i64 s.world.used,.fz (s.ages.map (.int .i64)),.fz (s.marks.map (.int .i64)),.int .i64 s.cycle] false))/\ (fr 5= .int .i64 s.world.objs.length)/\ (fr 6= .int .i64 k)/\ (∀i,i<k->(kV s i&&lH s i)=true)) 0 (bXl _) ⟨_,_,_,rfl,(by first|(simp only[go_sem,qW];(try rfl);done)|rfl|simp),(by first|(simp only[go_sem,qW];(try rfl);done)|rfl|simp),(by first|(simp only[go_sem,qW];(try rfl);done)|rfl|simp),(by first|(simp only[go_sem,qW];(try rfl);done)|rfl|simp),(by first|(simp only[go_sem,qW];(try rfl);done)|rfl|simp)⟩ ?_
     rintro k st hk ⟨fr,en,cnt,rfl,h3,e3,h5,h6,hI⟩
     simp only[go_sem,qC,qG,qW,h3,e3,h5,h6]
     refine aA (fun hq=>?_) (fun hq=>?_)
     ·have h':k<s.world.objs.length:=of_decide_eq_true hq;have ha:k<s.ages.length:=by omega
      have hm:k<s.marks.length:=by omega
      have bad:(kV s k&&lH s k)=false->lJ s=false:=fun h=>by
       unfold lJ;rw[bZ6];exact⟨k,by simpa using h',by simpa using h⟩
      simp only[go_sem,qC,qG,qW,h',ha,hm,h3,e3,h5,h6,(uO _ _ _).ret]
      refine aE (fun g5=>?_) (fun g5=>?_)
      ·simp only[go_sem,qC,qG,qW,g5,h',ha,hm,h3,e3,h5,h6,(uO _ _ _).ret]
       refine aA (fun g6=>?_) (fun g6=>?_)
       ·simp only[go_sem,qC,qG,qW]
        refine fin (bad ?_)
        have:inR s.marks[k] 0 2=false:=by simpa using g6
        simp[kV,gQ ha,dV hm,this]
       ·have kr:kV s k=true:=by
         have h1:inR s.ages[k] 0 2=true:=by simpa using g5
         have h2:inR s.marks[k] 0 2=true:=by simpa using g6
         simp[kV,gQ ha,dV hm,h1,h2]
        refine aGt (fun st=>(st.fr 3= .ptr ⟨0,3,0⟩ 0)/\ (st.en ⟨0,3,0⟩=some (.box [.fz (s.world.objs.map aI.enc),.fz (s.world.tasks.map (.int .i64)),.fz (s.world.outs.map aN.enc),.fz (s.world.ins.map (.int .i64)),.int .i64 s.world.used,.fz (s.ages.map (.int .i64)),.fz (s.marks.map (.int .i64)),.int .i64 s.cycle] false))/\ (st.fr 5= .int .i64 s.world.objs.length)/\ (st.fr 6= .int .i64 k)/\ (st.fr 84= .bool (gC s k))) ?_ ?_
        ·simp only[go_sem,qC,qG,qW,h',ha,hm,h3,e3,h5,h6]
         refine aE (fun g7=>?_) (fun g7=>?_)
         ·have hm0:s.marks[k]=0:=by simpa using g7
          simp only[go_sem,qC,qG,qW,g7,h',ha,hm,h3,e3,h5,h6,(aD9 s.world k h').ret]
          refine aE (fun g8=>?_) (fun g8=>?_)
          ·simp only[go_sem,qC,qG,qW,g7,g8,h',ha,hm,h3,e3,h5,h6]
           refine aE (fun g9=>?_) (fun g9=>?_)
           ·have ha2:s.ages[k]=2:=by simpa using g9
            simp only[go_sem,qC,qG,qW,g7,g8,g9,h',ha,hm,h3,e3,h5,h6,(aNe _).ret];simp[gC,gQ ha,dV hm,hm0,ha2,g8]
           ·simp only[go_sem,qC,qG,qW,g7,g8,g9,h',ha,hm,h3,e3,h5,h6]
            simp at g9
            simp[gC,gQ ha,dV hm,hm0,g8,g9]
          ·simp only[go_sem,qC,qG,qW,g7,g8,h',ha,hm,h3,e3,h5,h6];simp[gC,dV hm,hm0,g8]
         ·simp only[go_sem,qC,qG,qW,g7,h',ha,hm,h3,e3,h5,h6]
          simp at g7
          simp[gC,dV hm,g7]
        ·rintro fr en cnt ⟨(h3:fr 3= .ptr ⟨0,3,0⟩ 0),(e3:en ⟨0,3,0⟩=some (.box [.fz (s.world.objs.map aI.enc),.fz (s.world.tasks.map (.int .i64)),.fz (s.world.outs.map aN.enc),.fz (s.world.ins.map (.int .i64)),.int .i64 s.world.used,.fz (s.ages.map (.int .i64)),.fz (s.marks.map (.int .i64)),.int .i64 s.cycle] false)),(h5:fr 5= .int .i64 s.world.objs.length),(h6:fr 6= .int .i64 k),(h84:fr 84= .bool (gC s k))⟩
         simp only[go_sem,qC,qG,qW,h3,e3,h5,h6,h84]
         refine aA (fun hW=>?_) (fun hW=>?_)
         ·simp only[go_sem,qC,qG,qW];exact fin (bad (by simp[lH,hW]))
         have hin:=aBm k1 _ (bXn h');have hso:=jY hsm _ (bXn h');have hlen:=aI8 hso;have hfl:Few (iE s.world.objs[k]).length:=by unfold Few;omega
         simp only[go_sem,qC,qG,qW,h',h3,e3,h5,h6,h84,(aEb _ hso).ret]
         refine bD ((iE s.world.objs[k]).length) (fun j st=> ∃fr en cnt,st=⟨fr,en,cnt⟩/\ (fr 3= .ptr ⟨0,3,0⟩ 0)/\ (en ⟨0,3,0⟩=some (.box [.fz (s.world.objs.map aI.enc),.fz (s.world.tasks.map (.int .i64)),.fz (s.world.outs.map aN.enc),.fz (s.world.ins.map (.int .i64)),.int .i64 s.world.used,.fz (s.ages.map (.int .i64)),.fz (s.marks.map (.int .i64)),.int .i64 s.cycle] false))/\ (fr 5= .int .i64 s.world.objs.length)/\ (fr 6= .int .i64 k)/\ (fr 7= .fz ((iE s.world.objs[k]).map (.int .i64)))/\ (fr 8= .int .i64 j)/\ (∀x∈(iE s.world.objs[k]).take j,iJ s k x=false)) 0 (bXl _) ⟨_,_,_,rfl,(by first|(simp only[go_sem,h3,e3,h5,h6,h84];(try rfl);done)|rfl|simp),(by first|(simp only[go_sem,h3,e3,h5,h6,h84];(try rfl);done)|rfl|simp),(by first|(simp only[go_sem,h3,e3,h5,h6,h84];(try rfl);done)|rfl|simp),(by first|(simp only[go_sem,h3,e3,h5,h6,h84];(try rfl);done)|rfl|simp),(by first|(simp only[go_sem,h3,e3,h5,h6,h84];(try rfl);done)|rfl|simp),(by first|(simp only[go_sem,h3,e3,h5,h6,h84];(try rfl);done)|rfl|simp),(by first|(simp only[go_sem,h3,e3,h5,h6,h84];(try rfl);done)|rfl|simp)⟩ ?_
         rintro j st hk ⟨fr,en,cnt,rfl,h3,e3,h5,h6,h7,h8,hJ⟩
         simp only[go_sem,qC,qG,qW,h3,e3,h5,h6,h7,h8]
         refine aA (fun hq2=>?_) (fun hq2=>?_)
         ·have h2':j<(iE s.world.objs[k]).length:=of_decide_eq_true hq2;have hx:=hin _ (bXn h2');rw[<-k3]at hx;simp only[go_sem,qC,qG,qW,h2',hm,h3,e3,h5,h6,h7,h8]
          refine aE (fun g7=>?_) (fun g7=>?_)
          ·have hm2:s.marks[k]=2:=by simpa using g7
           simp only[go_sem,qC,qG,qW,g7,h2',hm,h3,e3,h5,h6,h7,h8,sQ hx]
           refine aA (fun g8=>?_) (fun g8=>?_)
           ·simp only[go_sem,qC,qG,qW]
            refine fin (bad ?_)
            have hb:iJ s k (iE s.world.objs[k])[j]=true:=by
             have e2:fR s k=2:=by rw[dV hm,hm2]
             simp only[iJ,e2,decide_true,bX0];exact g8
            have:(iE (s.world.obj k)).all (fun r=>!iJ s k r)=false:=by
             rw[dH h',bZ6];exact⟨_,bXn h2',by simp[hb]⟩
            simp[lH,this]
           ·have hb:iJ s k (iE s.world.objs[k])[j]=false:=by
             have e2:fR s k=2:=by rw[dV hm,hm2]
             simp only[iJ,e2,decide_true,bX0];exact g8
            simp only[go_sem,qC,qG,qW,h2',h3,e3,h5,h6,h7,h8]
            refine⟨_,_,_,rfl,?_⟩
            simp only[go_sem,qW,h3,e3,h5,h6,h7,h8,aJ h2' hfl];intro x hx;rw[dF h2',bX1]at hx;rcases hx with hx|hx
            ·exact hJ x hx
            ·simp only[bYi]at hx;rw[hx];exact hb
          ·have hb:iJ s k (iE s.world.objs[k])[j]=false:=by
            simp only[iJ,dV hm]
            simp at g7
            simp[g7]
           simp only[go_sem,qC,qG,qW,g7,h2',h3,e3,h5,h6,h7,h8]
           refine⟨_,_,_,rfl,?_⟩
           simp only[go_sem,qW,h3,e3,h5,h6,h7,h8,aJ h2' hfl];intro x hx;rw[dF h2',bX1]at hx;rcases hx with hx|hx
           ·exact hJ x hx
           ·simp only[bYi]at hx;rw[hx];exact hb
         ·have:j=(iE s.world.objs[k]).length:=by simp at hq2;omega
          subst this;rw[bYc]at hJ;simp only[go_sem,qC,qG,qW,h3,e3,h5,h6,h7,h8]
          refine⟨_,_,_,rfl,?_⟩
          simp only[go_sem,qW,h3,e3,h5,h6,h7,h8,aJ h' hs.1.objs];intro i hi
          by_cases hik:i<k
          ·exact hI i hik
          ·have:i=k:=by omega
           subst this;have:(iE (s.world.obj i)).all (fun r=>!iJ s i r)=true:=by
            rw[dH h',bXo];intro x hx;simp[hJ x hx]
           simp[lH,kr,hW,this]
      ·simp only[go_sem,qC,qG,qW,g5,h',ha,hm,h3,e3,h5,h6]
       refine fin (bad ?_)
       have:inR s.ages[k] 0 2=false:=by simpa using g5
       simp[kV,gQ ha,this]
     ·have:k=s.world.objs.length:=by simp at hq;omega
      subst this;simp only[go_sem,qC,qG,qW,h3,e3,h5,h6];have:lJ s=true:=by
       unfold lJ;rw[bXo];exact fun i hi=>hI i (by simpa using hi)
      simp[cE,kl,k1,this]
   ·simp only[go_sem,qC,qG,qW,g1,g2,g3];simp[cE,jX]
    simp at g3
    omega
  ·simp only[go_sem,qC,qG,qW,g1,g2];simp[cE,jX]
   simp at g2
   omega
 ·simp only[go_sem,qC,qG,qW,g1];have k1:eV p s.world=false:=by simpa using g1
  simp[cE,k1]
theorem aAg (l:List Int)(h:Val)(p:Int->Bool)(hc:dD L (fun x:Int=> .int .i64 x) h p l)(x:Int)(hx:x∈l):
  PC L 245 [.int .i64 x,.fp [h] 0] (.bool (!p x)):=by
 refine aL bL2 rfl rfl ?_
 simp only[go_sem,qC,qG,qS,qW,aUa]
 refine hc.call x hx _ _ ?_
 simp only[go_sem,qC,qG,qS,qW]
theorem vQ (l:List Int)(h:Val)(p:Int->Bool)(hl:Few l.length)(hc:dD L (fun x:Int=> .int .i64 x) h p l):
  PC L 214 [.fz (l.map (.int .i64)),h] (.bool (l.all p)):=by
 have hd:dD L (fun x:Int=> .int .i64 x) (.fn 245 [] [.fp [h] 0]) (fun x=>!p x) l:=by
  refine⟨fun n en hn=>?_,rfl,rfl,rfl,fun x hx en K hK=>?_⟩
  ·obtain⟨m,rfl⟩: ∃m,n=m+4:=⟨n-4,by omega⟩
   simp only[go_sem,qW]
  ·simp only[go_sem,qW,(aAg l h p hc x hx).ret];exact hK
 refine aL bLc rfl rfl ?_
 simp only[go_sem,qC,qG,qS,qW,aTk,iO hc.one hc.cells,hc.snap,hc.wk,(aNk l _ _ hl hd).ret];rw[<-bZk,bZl]
theorem aZz (l:List aG)(h:Val)(p:aG->Bool)(hl:Few l.length)(hc:dD L (fun x:aG=> .agg [.int .i64 x.kind,.int .i64 x.n]) h p l):
  PC L 282 [.fz (l.map aG.enc),h] (.int .i64 (idxOf p l 0)):=by
 refine aL bMd rfl rfl ?_
 simp only[go_sem,qC,qG,qS,qW,aUl]
 refine bD (l.length) (fun k st=> ∃fr en cnt,st=⟨fr,en,cnt⟩/\ (fr 0= .fz (l.map aG.enc))/\ (fr 1=h)/\ (fr 7= .int .i64 l.length)/\ (fr 8= .int .i64 k)/\ (idxOf p (l.drop k) k=idxOf p l 0)) 0 (bXl _) ⟨_,_,_,rfl,(by first|(simp only[go_sem,qW];(try rfl);done)|rfl|simp),(by first|(simp only[go_sem,qW];(try rfl);done)|rfl|simp),(by first|(simp only[go_sem,qW];(try rfl);done)|rfl|simp),(by first|(simp only[go_sem,qW];(try rfl);done)|rfl|simp),(by first|(simp only[go_sem,qW];(try rfl);done)|rfl|simp)⟩ ?_
 rintro k st hk ⟨fr,en,cnt,rfl,h0,h1,h7,h8,hI⟩
 simp only[go_sem,qC,qG,qS,qW,h0,h1,h7,h8]
 refine aA (fun hq=>?_) (fun hq=>?_)
 ·have h':k<l.length:=of_decide_eq_true hq;rw[bX7 h',idxOf]at hI;simp only[go_sem,qC,qG,qS,qW,h',h0,h1,h7,h8]
  refine hc.call l[k] (bXn _) _ _ ?_
  simp only[go_sem,qC,qG,qS,qW,h0,h1,h7,h8]
  refine aA (fun hb=>?_) (fun hb=>?_)
  ·simp only[go_sem,qC,qG,qS,qW,h0,h1,h7,h8];rw[hb,if_pos rfl]at hI;rw[<-hI]
  ·simp only[go_sem,qC,qG,qS,qW,h',h0,h1,h7,h8];rw[hb]at hI
   simp at hI
   refine⟨_,_,_,rfl,?_⟩
   simp only[go_sem,qW,h0,h1,h7,h8,aJ h' hl];exact hI
 ·have:k=l.length:=by simp at hq;omega
  subst this;simp only[go_sem,qC,qG,qS,qW,h0,h1,h7,h8];rw[<-hI];simp[idxOf]
theorem aWs (l:List aG)(h:Val)(p:aG->Bool)(hl:Few l.length)(hc:dD L (fun x:aG=> .agg [.int .i64 x.kind,.int .i64 x.n]) h p l):
  PC L 240 [.fz (l.map aG.enc),h] (.bool (l.any p)):=by
 refine aL bLx rfl rfl ?_
 simp only[go_sem,qC,qG,qS,qW,aT5,hc.snap,hc.wk,(aZz l h p hl hc).ret];rw[<-mD p l 0]
theorem rF (l:List aG)(h:Val)(p:aG->Bool)(hc:dD L (fun x:aG=> .agg [.int .i64 x.kind,.int .i64 x.n]) h p l)(x:aG)(hx:x∈l):
  PC L 241 [.agg [.int .i64 x.kind,.int .i64 x.n],.fp [h] 0] (.bool (!p x)):=by
 refine aL bLy rfl rfl ?_
 simp only[go_sem,qC,qG,qS,qW,aT6]
 refine hc.call x hx _ _ ?_
 simp only[go_sem,qC,qG,qS,qW]
theorem jL (l:List aG)(h:Val)(p:aG->Bool)(hl:Few l.length)(hc:dD L (fun x:aG=> .agg [.int .i64 x.kind,.int .i64 x.n]) h p l):
  PC L 210 [.fz (l.map aG.enc),h] (.bool (l.all p)):=by
 have hd:dD L (fun x:aG=> .agg [.int .i64 x.kind,.int .i64 x.n]) (.fn 241 [] [.fp [h] 0]) (fun x=>!p x) l:=by
  refine⟨fun n en hn=>?_,rfl,rfl,rfl,fun x hx en K hK=>?_⟩
  ·obtain⟨m,rfl⟩: ∃m,n=m+4:=⟨n-4,by omega⟩
   simp only[go_sem,qW]
  ·simp only[go_sem,qW,(rF l h p hc x hx).ret];exact hK
 refine aL bK8 rfl rfl ?_
 simp only[go_sem,qC,qG,qS,qW,aTg,iO hc.one hc.cells,hc.snap,hc.wk,(aWs l _ _ hl hd).ret];rw[<-bZk,bZl]
theorem aP0 (l:List aC)(h:Val)(p:aC->Bool)(hl:Few l.length)(hc:dD L (fun x:aC=> .agg [.int .i64 x.node,.fz (x.env.map aG.enc),.fz (x.vals.map aG.enc)]) h p l):
  PC L 300 [.fz (l.map aC.enc),h] (.int .i64 (idxOf p l 0)):=by
 refine aL bMh rfl rfl ?_
 simp only[go_sem,qC,qG,qS,qW,aUp]
 refine bD (l.length) (fun k st=> ∃fr en cnt,st=⟨fr,en,cnt⟩/\ (fr 0= .fz (l.map aC.enc))/\ (fr 1=h)/\ (fr 7= .int .i64 l.length)/\ (fr 8= .int .i64 k)/\ (idxOf p (l.drop k) k=idxOf p l 0)) 0 (bXl _) ⟨_,_,_,rfl,(by first|(simp only[go_sem,qW];(try rfl);done)|rfl|simp),(by first|(simp only[go_sem,qW];(try rfl);done)|rfl|simp),(by first|(simp only[go_sem,qW];(try rfl);done)|rfl|simp),(by first|(simp only[go_sem,qW];(try rfl);done)|rfl|simp),(by first|(simp only[go_sem,qW];(try rfl);done)|rfl|simp)⟩ ?_
 rintro k st hk ⟨fr,en,cnt,rfl,h0,h1,h7,h8,hI⟩
 simp only[go_sem,qC,qG,qS,qW,h0,h1,h7,h8]
 refine aA (fun hq=>?_) (fun hq=>?_)
 ·have h':k<l.length:=of_decide_eq_true hq;rw[bX7 h',idxOf]at hI;simp only[go_sem,qC,qG,qS,qW,h',h0,h1,h7,h8]
  refine hc.call l[k] (bXn _) _ _ ?_
  simp only[go_sem,qC,qG,qS,qW,h0,h1,h7,h8]
  refine aA (fun hb=>?_) (fun hb=>?_)
  ·simp only[go_sem,qC,qG,qS,qW,h0,h1,h7,h8];rw[hb,if_pos rfl]at hI;rw[<-hI]
  ·simp only[go_sem,qC,qG,qS,qW,h',h0,h1,h7,h8];rw[hb]at hI
   simp at hI
   refine⟨_,_,_,rfl,?_⟩
   simp only[go_sem,qW,h0,h1,h7,h8,aJ h' hl];exact hI
 ·have:k=l.length:=by simp at hq;omega
  subst this;simp only[go_sem,qC,qG,qS,qW,h0,h1,h7,h8];rw[<-hI];simp[idxOf]
theorem aNp (l:List aC)(h:Val)(p:aC->Bool)(hl:Few l.length)(hc:dD L (fun x:aC=> .agg [.int .i64 x.node,.fz (x.env.map aG.enc),.fz (x.vals.map aG.enc)]) h p l):
  PC L 283 [.fz (l.map aC.enc),h] (.bool (l.any p)):=by
 refine aL bMe rfl rfl ?_
 simp only[go_sem,qC,qG,qS,qW,aUm,hc.snap,hc.wk,(aP0 l h p hl hc).ret];rw[<-mD p l 0]
theorem pZ (l:List aC)(h:Val)(p:aC->Bool)(hc:dD L (fun x:aC=> .agg [.int .i64 x.node,.fz (x.env.map aG.enc),.fz (x.vals.map aG.enc)]) h p l)(x:aC)(hx:x∈l):
  PC L 284 [.agg [.int .i64 x.node,.fz (x.env.map aG.enc),.fz (x.vals.map aG.enc)],.fp [h] 0] (.bool (!p x)):=by
 refine aL bMf rfl rfl ?_
 simp only[go_sem,qC,qG,qS,qW,aUn]
 refine hc.call x hx _ _ ?_
 simp only[go_sem,qC,qG,qS,qW]
theorem mJ (l:List aC)(h:Val)(p:aC->Bool)(hl:Few l.length)(hc:dD L (fun x:aC=> .agg [.int .i64 x.node,.fz (x.env.map aG.enc),.fz (x.vals.map aG.enc)]) h p l):
  PC L 242 [.fz (l.map aC.enc),h] (.bool (l.all p)):=by
 have hd:dD L (fun x:aC=> .agg [.int .i64 x.node,.fz (x.env.map aG.enc),.fz (x.vals.map aG.enc)]) (.fn 284 [] [.fp [h] 0]) (fun x=>!p x) l:=by
  refine⟨fun n en hn=>?_,rfl,rfl,rfl,fun x hx en K hK=>?_⟩
  ·obtain⟨m,rfl⟩: ∃m,n=m+4:=⟨n-4,by omega⟩
   simp only[go_sem,qW]
  ·simp only[go_sem,qW,(pZ l h p hc x hx).ret];exact hK
 refine aL bLz rfl rfl ?_
 simp only[go_sem,qC,qG,qS,qW,aT7,iO hc.one hc.cells,hc.snap,hc.wk,(aNp l _ _ hl hd).ret];rw[<-bZk,bZl]
theorem aZ0 (l:List aI)(h:Val)(p:aI->Bool)(hl:Few l.length)(hc:dD L (fun x:aI=> .agg [.int .i64 x.form,.int .i64 x.n,.fz (x.vals.map aG.enc),.fz (x.frames.map aC.enc)]) h p l):
  PC L 239 [.fz (l.map aI.enc),h] (.int .i64 (idxOf p l 0)):=by
 refine aL bLw rfl rfl ?_
 simp only[go_sem,qC,qG,qS,qW,aT4]
 refine bD (l.length) (fun k st=> ∃fr en cnt,st=⟨fr,en,cnt⟩/\ (fr 0= .fz (l.map aI.enc))/\ (fr 1=h)/\ (fr 7= .int .i64 l.length)/\ (fr 8= .int .i64 k)/\ (idxOf p (l.drop k) k=idxOf p l 0)) 0 (bXl _) ⟨_,_,_,rfl,(by first|(simp only[go_sem,qW];(try rfl);done)|rfl|simp),(by first|(simp only[go_sem,qW];(try rfl);done)|rfl|simp),(by first|(simp only[go_sem,qW];(try rfl);done)|rfl|simp),(by first|(simp only[go_sem,qW];(try rfl);done)|rfl|simp),(by first|(simp only[go_sem,qW];(try rfl);done)|rfl|simp)⟩ ?_
 rintro k st hk ⟨fr,en,cnt,rfl,h0,h1,h7,h8,hI⟩
 simp only[go_sem,qC,qG,qS,qW,h0,h1,h7,h8]
 refine aA (fun hq=>?_) (fun hq=>?_)
 ·have h':k<l.length:=of_decide_eq_true hq;rw[bX7 h',idxOf]at hI;simp only[go_sem,qC,qG,qS,qW,h',h0,h1,h7,h8]
  refine hc.call l[k] (bXn _) _ _ ?_
  simp only[go_sem,qC,qG,qS,qW,h0,h1,h7,h8]
  refine aA (fun hb=>?_) (fun hb=>?_)
  ·simp only[go_sem,qC,qG,qS,qW,h0,h1,h7,h8];rw[hb,if_pos rfl]at hI;rw[<-hI]
  ·simp only[go_sem,qC,qG,qS,qW,h',h0,h1,h7,h8];rw[hb]at hI
   simp at hI
   refine⟨_,_,_,rfl,?_⟩
   simp only[go_sem,qW,h0,h1,h7,h8,aJ h' hl];exact hI
 ·have:k=l.length:=by simp at hq;omega
  subst this;simp only[go_sem,qC,qG,qS,qW,h0,h1,h7,h8];rw[<-hI];simp[idxOf]
theorem aWt (l:List aI)(h:Val)(p:aI->Bool)(hl:Few l.length)(hc:dD L (fun x:aI=> .agg [.int .i64 x.form,.int .i64 x.n,.fz (x.vals.map aG.enc),.fz (x.frames.map aC.enc)]) h p l):
  PC L 208 [.fz (l.map aI.enc),h] (.bool (l.any p)):=by
 refine aL bK6 rfl rfl ?_
 simp only[go_sem,qC,qG,qS,qW,aTe,hc.snap,hc.wk,(aZ0 l h p hl hc).ret];rw[<-mD p l 0]
theorem rG (l:List aI)(h:Val)(p:aI->Bool)(hc:dD L (fun x:aI=> .agg [.int .i64 x.form,.int .i64 x.n,.fz (x.vals.map aG.enc),.fz (x.frames.map aC.enc)]) h p l)(x:aI)(hx:x∈l):
  PC L 209 [.agg [.int .i64 x.form,.int .i64 x.n,.fz (x.vals.map aG.enc),.fz (x.frames.map aC.enc)],.fp [h] 0] (.bool (!p x)):=by
 refine aL bK7 rfl rfl ?_
 simp only[go_sem,qC,qG,qS,qW,aTf]
 refine hc.call x hx _ _ ?_
 simp only[go_sem,qC,qG,qS,qW]
theorem tK (l:List aI)(h:Val)(p:aI->Bool)(hl:Few l.length)(hc:dD L (fun x:aI=> .agg [.int .i64 x.form,.int .i64 x.n,.fz (x.vals.map aG.enc),.fz (x.frames.map aC.enc)]) h p l):
  PC L 176 [.fz (l.map aI.enc),h] (.bool (l.all p)):=by
 have hd:dD L (fun x:aI=> .agg [.int .i64 x.form,.int .i64 x.n,.fz (x.vals.map aG.enc),.fz (x.frames.map aC.enc)]) (.fn 209 [] [.fp [h] 0]) (fun x=>!p x) l:=by
  refine⟨fun n en hn=>?_,rfl,rfl,rfl,fun x hx en K hK=>?_⟩
  ·obtain⟨m,rfl⟩: ∃m,n=m+4:=⟨n-4,by omega⟩
   simp only[go_sem,qW]
  ·simp only[go_sem,qW,(rG l h p hc x hx).ret];exact hK
 refine aL bKj rfl rfl ?_
 simp only[go_sem,qC,qG,qS,qW,aSu,iO hc.one hc.cells,hc.snap,hc.wk,(aWt l _ _ hl hd).ret];rw[<-bZk,bZl]
theorem aZ1 (l:List aN)(h:Val)(p:aN->Bool)(hl:Few l.length)(hc:dD L (fun x:aN=> .agg [.int .i64 x.port,.int .i64 x.n]) h p l):
  PC L 248 [.fz (l.map aN.enc),h] (.int .i64 (idxOf p l 0)):=by
 refine aL bL5 rfl rfl ?_
 simp only[go_sem,qC,qG,qS,qW,aUd]
 refine bD (l.length) (fun k st=> ∃fr en cnt,st=⟨fr,en,cnt⟩/\ (fr 0= .fz (l.map aN.enc))/\ (fr 1=h)/\ (fr 7= .int .i64 l.length)/\ (fr 8= .int .i64 k)/\ (idxOf p (l.drop k) k=idxOf p l 0)) 0 (bXl _) ⟨_,_,_,rfl,(by first|(simp only[go_sem,qW];(try rfl);done)|rfl|simp),(by first|(simp only[go_sem,qW];(try rfl);done)|rfl|simp),(by first|(simp only[go_sem,qW];(try rfl);done)|rfl|simp),(by first|(simp only[go_sem,qW];(try rfl);done)|rfl|simp),(by first|(simp only[go_sem,qW];(try rfl);done)|rfl|simp)⟩ ?_
 rintro k st hk ⟨fr,en,cnt,rfl,h0,h1,h7,h8,hI⟩
 simp only[go_sem,qC,qG,qS,qW,h0,h1,h7,h8]
 refine aA (fun hq=>?_) (fun hq=>?_)
 ·have h':k<l.length:=of_decide_eq_true hq;rw[bX7 h',idxOf]at hI;simp only[go_sem,qC,qG,qS,qW,h',h0,h1,h7,h8]
  refine hc.call l[k] (bXn _) _ _ ?_
  simp only[go_sem,qC,qG,qS,qW,h0,h1,h7,h8]
  refine aA (fun hb=>?_) (fun hb=>?_)
  ·simp only[go_sem,qC,qG,qS,qW,h0,h1,h7,h8];rw[hb,if_pos rfl]at hI;rw[<-hI]
  ·simp only[go_sem,qC,qG,qS,qW,h',h0,h1,h7,h8];rw[hb]at hI
   simp at hI
   refine⟨_,_,_,rfl,?_⟩
   simp only[go_sem,qW,h0,h1,h7,h8,aJ h' hl];exact hI
 ·have:k=l.length:=by simp at hq;omega
  subst this;simp only[go_sem,qC,qG,qS,qW,h0,h1,h7,h8];rw[<-hI];simp[idxOf]
theorem aWu (l:List aN)(h:Val)(p:aN->Bool)(hl:Few l.length)(hc:dD L (fun x:aN=> .agg [.int .i64 x.port,.int .i64 x.n]) h p l):
  PC L 218 [.fz (l.map aN.enc),h] (.bool (l.any p)):=by
 refine aL bLg rfl rfl ?_
 simp only[go_sem,qC,qG,qS,qW,aTo,hc.snap,hc.wk,(aZ1 l h p hl hc).ret];rw[<-mD p l 0]
theorem rH (l:List aN)(h:Val)(p:aN->Bool)(hc:dD L (fun x:aN=> .agg [.int .i64 x.port,.int .i64 x.n]) h p l)(x:aN)(hx:x∈l):
  PC L 219 [.agg [.int .i64 x.port,.int .i64 x.n],.fp [h] 0] (.bool (!p x)):=by
 refine aL bLh rfl rfl ?_
 simp only[go_sem,qC,qG,qS,qW,aTp]
 refine hc.call x hx _ _ ?_
 simp only[go_sem,qC,qG,qS,qW]
theorem tL (l:List aN)(h:Val)(p:aN->Bool)(hl:Few l.length)(hc:dD L (fun x:aN=> .agg [.int .i64 x.port,.int .i64 x.n]) h p l):
  PC L 179 [.fz (l.map aN.enc),h] (.bool (l.all p)):=by
 have hd:dD L (fun x:aN=> .agg [.int .i64 x.port,.int .i64 x.n]) (.fn 219 [] [.fp [h] 0]) (fun x=>!p x) l:=by
  refine⟨fun n en hn=>?_,rfl,rfl,rfl,fun x hx en K hK=>?_⟩
  ·obtain⟨m,rfl⟩: ∃m,n=m+4:=⟨n-4,by omega⟩
   simp only[go_sem,qW]
  ·simp only[go_sem,qW,(rH l h p hc x hx).ret];exact hK
 refine aL bKm rfl rfl ?_
 simp only[go_sem,qC,qG,qS,qW,aSx,iO hc.one hc.cells,hc.snap,hc.wk,(aWu l _ _ hl hd).ret];rw[<-bZk,bZl]
theorem gW (n lo hi:Int):PC L 181 [.int .i64 n,.int .i64 lo,.int .i64 hi] (.bool (inR n lo hi)):=by
 refine aL bKo rfl rfl ?_
 simp only[go_sem,qW,aSz]
 refine bA (fun h=>?_) (fun h=>?_)<;>simp only[go_sem,qW,h]<;>simp at h<;>simp[h,inR]
 omega
theorem qA (n:Int):PC L 182 [.int .i64 n] (.bool (inR n (-1000000000) 1000000000)):=by
 refine aL bKp rfl rfl ?_
 simp only[go_sem,qC,qG,qS,qW,aS0,(gW _ _ _).ret]
theorem aBn (n:aK):PC L 223 [.agg [.int .i64 n.op,.int .i64 n.n,.fz (n.kids.map (.int .i64)),.fz (n.pats.map Pat.enc)]] (.int .i64 n.asks):=by
 refine aL bLi rfl rfl ?_
 simp only[go_sem,qC,qG,qS,qW,aTq]
 repeat' ((first|with_reducible refine aA (fun h=>?_) (fun h=>?_)|with_reducible refine aE (fun h=>?_) (fun h=>?_))<;>(try simp only[cAg,cAh,bXp,bXz]at h)<;>try simp only[go_sem,qC,qG,qS,qW,h])
 all_goals simp[aK.asks, *]
theorem wW (p:aP)(w:aB)(v:aG)(hp:p.few)(hw:w.few):PC L 211 [.fp [.fz (p.nodes.map aK.enc),.fz (p.funs.map (.int .i64)),.int .i64 p.main,.fz (p.cons.map bE.enc),.fz (w.objs.map aI.enc),.fz (w.tasks.map (.int .i64)),.fz (w.outs.map aN.enc),.fz (w.ins.map (.int .i64)),.int .i64 w.used] 0,.agg [.int .i64 v.kind,.int .i64 v.n]] (.bool (cO p w v)):=by
 refine aL bK9 rfl rfl ?_
 simp only[go_sem,qC,qG,qS,qW,aTh]
 repeat' ((first|with_reducible refine aA (fun h=>?_) (fun h=>?_)|with_reducible refine aE (fun h=>?_) (fun h=>?_))<;>(try simp only[cAg,cAh,bXp,bXz]at h)<;>try simp only[go_sem,qC,qG,qS,qW,h,(gW _ _ _).ret,(qA _).ret,dL hp.funs,dL hw.objs])
 all_goals simp[cO, *]
theorem aC4 (p:aP)(w:aB)(hp:p.few)(hw:w.few)(l:List aG):dD L (fun x:aG=> .agg [.int .i64 x.kind,.int .i64 x.n]) (.fn 211 [.fp [.fz (p.nodes.map aK.enc),.fz (p.funs.map (.int .i64)),.int .i64 p.main,.fz (p.cons.map bE.enc),.fz (w.objs.map aI.enc),.fz (w.tasks.map (.int .i64)),.fz (w.outs.map aN.enc),.fz (w.ins.map (.int .i64)),.int .i64 w.used] 0] []) (cO p w) l:=by
 refine⟨fun n en hn=>?_,rfl,rfl,rfl,fun x hx en K hK=>?_⟩
 ·obtain⟨m,rfl⟩: ∃m,n=m+4:=⟨n-4,by omega⟩
  simp only[go_sem,qW]
 ·simp only[go_sem,qW,(wW p w x hp hw).ret];exact hK
theorem aGu (l:List Int)(hl:Few l.length):PC L 183 [.fz (l.map (.int .i64))] (.bool (mN l 50)):=by
 have ask:dD L (fun x:Int=> .int .i64 x) (.fn 182 [] []) (fun n=>inR n (-1000000000) 1000000000) l:=by
  refine⟨fun n en hn=>?_,rfl,rfl,rfl,fun x hx en K hK=>?_⟩
  ·obtain⟨m,rfl⟩: ∃m,n=m+4:=⟨n-4,by omega⟩
   simp only[go_sem,qW]
  ·simp only[go_sem,qW,(qA x).ret];exact hK
 refine aL bKq rfl rfl ?_
 simp only[go_sem,qC,qG,qS,qW,aS1]
 refine aE (fun h=>?_) (fun h=>?_)
 ·simp only[go_sem,qC,qG,qS,qW,h,(vQ l _ _ hl ask).ret]
  simp at h;simp[mN,h]
 ·simp only[go_sem,qC,qG,qS,qW,h]
  simp at h;simp[mN];intros;omega
theorem tM (o:aN):PC L 180 [.agg [.int .i64 o.port,.int .i64 o.n]] (.bool (rX o)):=by
 refine aL bKn rfl rfl ?_
 simp only[go_sem,qC,qG,qS,qW,aSy,(gW _ _ _).ret]
 refine aE (fun h=>?_) (fun h=>?_)<;>simp only[go_sem,qC,qG,qS,qW,h,(qA _).ret]<;>simp[rX,h]
theorem wX (p:aP)(w:aB)(f:aC)(hp:p.few)(hw:w.few)(hf:f.few):PC L 243 [.fp [.fz (p.nodes.map aK.enc),.fz (p.funs.map (.int .i64)),.int .i64 p.main,.fz (p.cons.map bE.enc),.fz (w.objs.map aI.enc),.fz (w.tasks.map (.int .i64)),.fz (w.outs.map aN.enc),.fz (w.ins.map (.int .i64)),.int .i64 w.used] 0,.agg [.int .i64 f.node,.fz (f.env.map aG.enc),.fz (f.vals.map aG.enc)]] (.bool (bG p w f)):=by
 refine aL bL0 rfl rfl ?_
 simp only[go_sem,qC,qG,qS,qW,aT8];have e:=dL hp.nodes
 try(refine wK ?_ ?_;· decide)
 simp only[go_sem,qC,qG,qS,qW,e,(gW _ _ _).ret]
 refine aE (fun h=>?_) (fun h=>?_)
 ·simp only[go_sem,qC,qG,qS,qW,h]
  refine aE (fun h2=>?_) (fun h2=>?_)
  ·simp only[go_sem,qC,qG,qS,qW,h,h2,bM,(aBn _).ret]
   refine aE (fun h3=>?_) (fun h3=>?_)
   ·simp only[go_sem,qC,qG,qS,qW,h,h2,h3,(jL _ _ _ hf.1 (aC4 p w hp hw _)).ret]
    refine aE (fun h4=>?_) (fun h4=>?_)
    ·simp only[go_sem,qC,qG,qS,qW,h,h2,h3,h4,(jL _ _ _ hf.2 (aC4 p w hp hw _)).ret]
     simp at h2 h3 h4
     simp[bG,aR,h,h2,h3];intros;simp_all
    ·simp only[go_sem,qC,qG,qS,qW,h,h2,h3,h4]
     simp at h2 h3 h4
     obtain⟨x,hx,hx2⟩:=h4;simp[bG,aR,h,h2,h3];intro hh;rw[hh x hx]at hx2;cases hx2
   ·simp only[go_sem,qC,qG,qS,qW,h,h2,h3]
    simp at h2 h3
    simp[bG,aR,h,h2];intros;omega
  ·simp only[go_sem,qC,qG,qS,qW,h,h2]
   simp at h2
   simp[bG,aR,h];intros;omega
 ·simp only[go_sem,qC,qG,qS,qW,h]
  simp at h
  simp[bG,h]
theorem yU (p:aP)(w:aB)(f:aC)(hn:inR f.node 0 (p.nodes.length-1)=true):PC L 244 [.fp [.fz (p.nodes.map aK.enc),.fz (p.funs.map (.int .i64)),.int .i64 p.main,.fz (p.cons.map bE.enc),.fz (w.objs.map aI.enc),.fz (w.tasks.map (.int .i64)),.fz (w.outs.map aN.enc),.fz (w.ins.map (.int .i64)),.int .i64 w.used] 0,.agg [.int .i64 f.node,.fz (f.env.map aG.enc),.fz (f.vals.map aG.enc)]] (.bool (cS p f)):=by
 refine aL bL1 rfl rfl ?_
 simp only[go_sem,qC,qG,qS,qW,aT9]
 refine wK ?_ ?_
 ·decide
 simp only[go_sem,qC,qG,qS,qW,hn,bM,(aBn _).ret];simp[cS]
theorem oQ (p:aP)(w:aB)(l:List aC)(m:Nat)(hp:p.few)(hw:w.few)(hl:Few l.length)(hf: ∀f∈l,f.few)(hm:m<=1):
  PC L 212 [.fp [.fz (p.nodes.map aK.enc),.fz (p.funs.map (.int .i64)),.int .i64 p.main,.fz (p.cons.map bE.enc),.fz (w.objs.map aI.enc),.fz (w.tasks.map (.int .i64)),.fz (w.outs.map aN.enc),.fz (w.ins.map (.int .i64)),.int .i64 w.used] 0,.fz (l.map aC.enc),.int .i64 m] (.bool (bK p w l&&(l.take (l.length-m)).all (cS p))):=by
 have ask1:dD L (fun x:aC=> .agg [.int .i64 x.node,.fz (x.env.map aG.enc),.fz (x.vals.map aG.enc)]) (.fn 243 [.fp [.fz (p.nodes.map aK.enc),.fz (p.funs.map (.int .i64)),.int .i64 p.main,.fz (p.cons.map bE.enc),.fz (w.objs.map aI.enc),.fz (w.tasks.map (.int .i64)),.fz (w.outs.map aN.enc),.fz (w.ins.map (.int .i64)),.int .i64 w.used] 0] []) (bG p w) l:=by
  refine⟨fun n en hn=>?_,rfl,rfl,rfl,fun x hx en K hK=>?_⟩
  ·obtain⟨m,rfl⟩: ∃m,n=m+4:=⟨n-4,by omega⟩
   simp only[go_sem,qW]
  ·simp only[go_sem,qW,(wX p w x hp hw (hf x hx)).ret];exact hK
 refine aL bLa rfl rfl ?_
 simp only[go_sem,qC,qG,qS,qW,aTi]
 refine aE (fun h=>?_) (fun h=>?_)
 ·simp only[go_sem,qC,qG,qS,qW,h,(mJ _ _ _ hl ask1).ret]
  refine aE (fun h2=>?_) (fun h2=>?_)
  ·have hok:bK p w l=true:=by simp at h h2;simp[bK,h];exact h2
   have ask2:dD L (fun x:aC=> .agg [.int .i64 x.node,.fz (x.env.map aG.enc),.fz (x.vals.map aG.enc)]) (.fn 244 [.fp [.fz (p.nodes.map aK.enc),.fz (p.funs.map (.int .i64)),.int .i64 p.main,.fz (p.cons.map bE.enc),.fz (w.objs.map aI.enc),.fz (w.tasks.map (.int .i64)),.fz (w.outs.map aN.enc),.fz (w.ins.map (.int .i64)),.int .i64 w.used] 0] []) (cS p) (l.take (l.length-m)):=by
    refine⟨fun n en hn=>?_,rfl,rfl,rfl,fun x hx en K hK=>?_⟩
    ·obtain⟨m,rfl⟩: ∃m,n=m+4:=⟨n-4,by omega⟩
     simp only[go_sem,qW]
    ·simp only[go_sem,qW,(yU p w x (nA hok x (bZt hx))).ret];exact hK
   have k1:=aBc hok;have e1:IntKind.i64.wrap ((l.length:Int)-m)=(l.length:Int)-m:=bY (by omega)
   have e2:max (0:Int) ((l.length:Int)-m)=((l.length-m:Nat):Int):=by omega
   simp only[go_sem,qC,qG,qS,qW,h,h2,e1,e2,pQ,Nat.sub_le,<-bZd,(mJ _ _ _ (aBb hl _) ask2).ret];simp[hok]
  ·simp only[go_sem,qC,qG,qS,qW,h,h2];have:bK p w l=false:=by
    rw[<-bYf];intro hh;simp only[bK,bXb]at hh;rw[hh.2]at h2;simp at h2
   simp[this]
 ·simp only[go_sem,qC,qG,qS,qW,h];have:bK p w l=false:=by simp at h;simp[bK];intros;omega
  simp[this]
def aI9 (p:aP)(w:aB)(o:aI):Bool:=
 if o.n=0 then(if(1:Int)<o.vals.length \/((o.frames.length:Int)=0/\ (o.vals.length:Int)=0)then false else bK p w o.frames&&(o.frames.take (o.frames.length-(1-o.vals.length))).all (cS p))
 else if o.n=1 then decide ((o.vals.length:Int)=1)&&decide ((o.frames.length:Int)=0)
 else if o.n=2 \/o.n=3 \/o.n=4 then decide ((o.vals.length:Int)=0)&&decide ((o.frames.length:Int)=0)else false
theorem qH (p:aP)(w:aB)(o:aI)(hp:p.few)(hw:w.few)(ho:o.few):PC L 213 [.fp [.fz (p.nodes.map aK.enc),.fz (p.funs.map (.int .i64)),.int .i64 p.main,.fz (p.cons.map bE.enc),.fz (w.objs.map aI.enc),.fz (w.tasks.map (.int .i64)),.fz (w.outs.map aN.enc),.fz (w.ins.map (.int .i64)),.int .i64 w.used] 0,.agg [.int .i64 o.form,.int .i64 o.n,.fz (o.vals.map aG.enc),.fz (o.frames.map aC.enc)]] (.bool (aI9 p w o)):=by
 refine aL bLb rfl rfl ?_
 simp only[go_sem,qC,qG,qS,qW,aTj]
 refine aA (fun h0=>?_) (fun h0=>?_)<;>simp only[cAg,cAh]at h0
 ·simp only[go_sem,qC,qG,qS,qW]
  repeat' ((first|with_reducible refine aA (fun h=>?_) (fun h=>?_)|with_reducible refine aE (fun h=>?_) (fun h=>?_))<;>(try simp only[cAg,cAh,bXp,bXz]at h)<;>try simp only[go_sem,qC,qG,qS,qW, *])
  all_goals try(simp[aI9, *];done)
  all_goals
   have hv:o.vals.length<=1:=by omega
   have e:IntKind.i64.wrap (1-(o.vals.length:Int))=((1-o.vals.length:Nat):Int):=by rw[bY (by omega)];omega
   simp only[go_sem,qC,qG,qS,qW,e,(oQ p w o.frames (1-o.vals.length) hp hw ho.2.1 ho.2.2 (by omega)).ret]
   rw[aI9,if_pos h0,if_neg (by omega)]
 ·simp only[go_sem,qC,qG,qS,qW]
  repeat' ((first|with_reducible refine aA (fun h=>?_) (fun h=>?_)|with_reducible refine aE (fun h=>?_) (fun h=>?_))<;>(try simp only[cAg,cAh,bXp,bXz]at h)<;>try simp only[go_sem,qC,qG,qS,qW,h])
  all_goals simp[aI9, *]
  all_goals (intros;simp_all)
def aGv (p:aP)(w:aB)(o:aI):Bool:=
 if o.form=1 then decide ((o.frames.length:Int)=0)&&inR o.n 0 (p.cons.length-1)&&decide ((o.vals.length:Int)=(p.cons.getD o.n.toNat default).args)
 else if o.form=2 then decide ((o.frames.length:Int)=0)&&inR o.n 0 (p.nodes.length-1)&&decide ((p.node o.n).op=5)&&decide ((o.vals.length:Int)<=30)
 else if o.form=3 then decide ((o.frames.length:Int)=0)&&decide (o.n=0)&&decide ((o.vals.length:Int)=1)
 else if o.form=4 then decide ((o.frames.length:Int)=0)&&decide (o.n=0)&&decide ((o.vals.length:Int)<=4)
 else if o.form=5 then decide (o.n=0)&&decide ((o.vals.length:Int)=0)&&decide ((0:Int)<o.frames.length)&&(bK p w o.frames&&o.frames.all (cS p))&&decide ((p.node (o.frames.headD default).node).op=26)
 else if o.form=6 then aI9 p w o else false
def aNq (p:aP)(w:aB)(o:aI):Bool:=o.vals.all (cO p w)&&aGv p w o
theorem aZ2 (p:aP)(w:aB)(o:aI)(hc: ∀c∈p.cons,c.args<=3):aNq p w o=dN p w o:=by
 have hargs:inR o.n 0 (p.cons.length-1)=true->(p.cons.getD o.n.toNat default).args<=3:=by
  intro h;simp only[inR,cAg]at h;have:o.n.toNat<p.cons.length:=by omega
  rw[bXm,bYs this];exact hc _ (bXn _)
 have vok: ∀m:Int,(o.vals.length:Int)<=m->aR p w o.vals m=o.vals.all (cO p w):=by intro m h;simp[aR,h]
 have vno: ∀m:Int,m<(o.vals.length:Int)->aR p w o.vals m=false:=by intro m h;simp[aR];intros;omega
 generalize hV:o.vals.all (cO p w)=V at vok;have nilV:o.vals.length=0->V=true:=by intro h;rw[<-hV,List.length_eq_zero_iff.1 h];rfl
 simp only[aNq,dN,hV]
 by_cases h6:o.form=6
 ·simp only[h6,if_true,aGv,iH,aI9];simp only[show¬(6:Int)=1 by decide,show¬(6:Int)=2 by decide,show¬(6:Int)=3 by decide,show¬(6:Int)=4 by decide,show¬(6:Int)=5 by decide,if_false]
  by_cases h0:o.n=0
  ·simp only[h0,if_true]
   by_cases h1:(1:Int)<o.vals.length
   ·simp[h1,vno 1 h1]
   ·rw[vok 1 (by omega)]
    by_cases h2:(o.frames.length:Int)=0/\ (o.vals.length:Int)=0
    ·simp only[h2,or_true,if_true];simp[h2.1,h2.2]
    ·rw[if_neg (by omega)]
     have:(0:Int)<o.frames.length+o.vals.length:=by omega
     have e:o.frames.length-(1-o.vals.length)=o.frames.length+o.vals.length-1:=by omega
     simp only[this,decide_true,e];cases V<;>cases bK p w o.frames<;>simp
  ·simp only[h0,if_false]
   by_cases h1:o.n=1
   ·simp only[h1,if_true]
    by_cases hl:(o.vals.length:Int)=1
    ·rw[vok 1 (by omega)];simp only[hl,decide_true,bX0,bY6];cases V<;>simp
    ·simp only[hl,decide_false,bYp,bX6]
   ·simp only[h1,if_false];split
    ·by_cases hl:(o.vals.length:Int)=0
     ·have:=nilV (by omega);simp only[this,hl,decide_true,bX0,bY6]
     ·simp only[hl,decide_false,bYp,bX6]
    ·simp
 ·simp only[h6,if_false,aGv]
  by_cases h5:o.form=5
  ·simp only[h5,if_true];simp only[show¬(5:Int)=1 by decide,show¬(5:Int)=2 by decide,show¬(5:Int)=3 by decide,show¬(5:Int)=4 by decide,if_false]
   by_cases hl:(o.vals.length:Int)=0
   ·have:=nilV (by omega)
    simp only[this,bX0,Bool.and_assoc]
   ·simp only[hl,decide_false,bYp,bX6]
  ·simp only[h5,if_false]
   by_cases hf:(o.frames.length:Int)=0
   ·simp only[hf,not_true,if_false,decide_true,bX0]
    by_cases h1:o.form=1
    ·simp only[h1,if_true];cases hin:inR o.n 0 (p.cons.length-1)with
     |false=>simp
     |true=>
      have ha:=hargs hin
      by_cases hl:(o.vals.length:Int)=(p.cons.getD o.n.toNat default).args
      ·rw[vok 3 (by omega)];simp only[hl,decide_true,bX0,bY6]
      ·simp only[hl,decide_false,bYp,bX6]
    ·simp only[h1,if_false]
     by_cases h2:o.form=2
     ·simp only[h2,if_true]
      by_cases hl:(o.vals.length:Int)<=30
      ·rw[vok 30 hl];simp only[hl,decide_true,bY6];ac_rfl
      ·rw[vno 30 (by omega)];simp only[hl,decide_false,bYp,bX6]
     ·simp only[h2,if_false]
      by_cases h3:o.form=3
      ·simp only[h3,if_true]
       by_cases hl:(o.vals.length:Int)=1
       ·rw[vok 1 (by omega)];simp only[hl,decide_true,bY6];ac_rfl
       ·simp only[hl,decide_false,bYp,bX6]
      ·simp only[h3,if_false]
       by_cases h4:o.form=4
       ·simp only[h4,if_true]
        by_cases hl:(o.vals.length:Int)<=4
        ·rw[vok 4 hl];simp only[hl,decide_true,bY6];ac_rfl
        ·rw[vno 4 (by omega)];simp only[hl,decide_false,bYp,bX6]
       ·simp only[h4,if_false,bYp]
   ·simp only[hf,not_false_eq_true,if_true,decide_false,bX6]
    repeat' split
    all_goals simp
theorem vW (p:aP)(w:aB)(o:aI)(hp:p.few)(hw:w.few)(ho:o.few):PC L 177 [.fp [.fz (p.nodes.map aK.enc),.fz (p.funs.map (.int .i64)),.int .i64 p.main,.fz (p.cons.map bE.enc),.fz (w.objs.map aI.enc),.fz (w.tasks.map (.int .i64)),.fz (w.outs.map aN.enc),.fz (w.ins.map (.int .i64)),.int .i64 w.used] 0,.agg [.int .i64 o.form,.int .i64 o.n,.fz (o.vals.map aG.enc),.fz (o.frames.map aC.enc)]] (.bool (aNq p w o)):=by
 refine aL bKk rfl rfl ?_
 simp only[go_sem,qC,qG,qS,qW,aSv,(jL _ _ _ ho.1 (aC4 p w hp hw _)).ret]
 refine aA (fun hv=>?_) (fun hv=>?_)
 ·have hv':o.vals.all (cO p w)=false:=by rw[<-bYh];exact hv
  simp only[go_sem,qC,qG,qS,qW];rw[aNq,hv'];rfl
 ·have hv':o.vals.all (cO p w)=true:=by simpa using hv
  rw[aNq,hv',bX0];clear hv hv';simp only[go_sem,qC,qG,qS,qW];have hfr:=oQ p w o.frames 0 hp hw ho.2.1 ho.2.2 (by omega)
  simp only[Nat.sub_zero,bYc,Int.natCast_zero]at hfr
  repeat' ((first|with_reducible refine aA (fun h=>?_) (fun h=>?_)|with_reducible refine aE (fun h=>?_) (fun h=>?_))<;>(try simp only[cAg,cAh,bXp,bXz]at h)<;>try simp only[go_sem,qC,qG,qS,qW, *,(gW _ _ _).ret,dL hp.nodes,dL hp.cons,bM,aCy,hfr.ret,(qH p w o hp hw ho).ret])
  all_goals try(simp[aGv, *];done)
  all_goals try(simp[aGv, *];intros;simp_all;done)
  ·rename_i g1 g2 g3 g4 g5 g6 g7 g8;have hpos:0<o.frames.length:=by omega
   have h2:=h;simp only[bXb]at h2;have hn:inR (o.frames.headD default).node 0 (p.nodes.length-1)=true:=nA h2.1 _ (by cases hh:o.frames with|nil=>simp[hh]at hpos|cons a l=>simp)
   simp only[go_sem,qC,qG,qS,qW,h,aI3 hpos,hn,bM];simp only[aGv,if_neg g1,if_neg g2,if_neg g3,if_neg g4,g5,g6,g7,h];simp[*]
  ·rename_i g1 g2 g3 g4 g5;have ht:=qH p w o hp hw ho;rw[h]at ht;simp only[go_sem,qC,qG,qS,qW,ht.ret];simp only[aGv,if_neg g1,if_neg g2,if_neg g3,if_neg g4,if_neg g5,h,if_true];simp
theorem aEr (n:Nat):PC L 216 [.int .i64 n] (.fn 247 [] [.fp [.int .i64 n] 0]):=by
 refine aL bLe rfl rfl ?_
 simp only[go_sem,qC,qG,qW,aTm]
theorem aP1 (n:Nat)(hn:n<=1000):PC L 215 [.fn 247 [] [.fp [.int .i64 n] 0]] (.fz ((List.range n).map fun(i:Nat)=> .int .i64 i)):=by
 have hf:Few n:=by unfold Few;omega
 refine aL bLd rfl rfl ?_
 simp only[go_sem,qC,qG,qW,aTl]
 refine mK bL3 rfl rfl ?_
 simp only[go_sem,qC,qG,qW,aUb,iO (v:= .cl []) rfl rfl]
 refine aA8 (f:=247) (x:=[]) (y:=[.fp [.int .i64 n] 0]) ?_ ?_
 ·simp only[go_sem,qW]
 intro fr0 key hfr0 hkey;have h2:fr0 2= .ptr ⟨0,2,0⟩ 0:=by rw[hfr0];simp only[go_sem,qW]
 have hk1:key=⟨1,0,0⟩:=by rw[hkey];rfl
 subst hk1;clear hkey hfr0
 refine mK bL4 rfl rfl ?_
 simp only[go_sem,qC,qG,qW,aUc]
 refine bD n (fun k st=> ∃fr en cnt v,st=⟨fr,en,cnt⟩/\ fr 0= .yld ⟨1,0,0⟩/\ fr 4= .int .i64 n/\ fr 5= .int .i64 k/\ en ⟨1,0,0⟩=some (.loop fr0 [7] (.ops [o 5 (.mv (.t 7))]) (.block 1 (.ops [o 8 (.load false 1 (.t 2)),o 9 (.mv (.t 5)),o 10 (.bslice 1 1 [(.int .i64 0)] [(0,(.t 9))]),o 11 (.append 1 (.t 8) (.t 10)),on (.store 1 (.t 2) (.t 11))])) .ready)/\ en ⟨0,2,0⟩=some (.box [v] false)/\ cG en v 1 ((List.range k).map fun(i:Nat)=> .int .i64 i) [11]) 0 (bXl _) ⟨_,_,_,.cl [],rfl,by simp only[go_sem,qW],by simp only[go_sem,qW],by simp only[go_sem,qW],by simp only[go_sem,qW],by simp only[go_sem,qW],cG.nil _ _⟩ ?_
 rintro k st hk ⟨fr,en,cnt,v,rfl,h0,h4,h5,e1,e2,hm⟩
 simp only[go_sem,qC,qG,qW,h0,h4,h5]
 refine aA (fun hq=>?_) (fun hq=>?_)
 ·have h':k<n:=of_decide_eq_true hq;simp only[go_sem,qC,qG,qW,h',h0,h4,h5]
  refine aEw (fr:=fr0) (ps:=[7]) (a:=(.ops [o 5 (.mv (.t 7))])) (b:=(.block 1 (.ops [o 8 (.load false 1 (.t 2)),o 9 (.mv (.t 5)),o 10 (.bslice 1 1 [(.int .i64 0)] [(0,(.t 9))]),o 11 (.append 1 (.t 8) (.t 10)),on (.store 1 (.t 2) (.t 11))]))) e1 rfl ?_
  simp only[go_sem,qC,qG,qW,h2,e1,e2]
  refine pR (D:=[11]) (xs:=(List.range k).map fun(i:Nat)=>Val.int .i64 i) (ys:=[.int .i64 k]) (rs:=[]) ?_ ?_ ?_ ?_ ?_
  ·simp only[go_sem,qW];exact hm.keep fun t g ht=>by simp at ht;subst ht;simp only[go_sem,qW]
  ·simp only[go_sem,qW]
  ·rfl
  ·simp;omega
  ·intro v' en' cnt' hown hen hcnt;obtain⟨s1,s2⟩:=hown.shape;have k1:en' ⟨1,0,0⟩=some (.loop fr0 [7] (.ops [o 5 (.mv (.t 7))]) (.block 1 (.ops [o 8 (.load false 1 (.t 2)),o 9 (.mv (.t 5)),o 10 (.bslice 1 1 [(.int .i64 0)] [(0,(.t 9))]),o 11 (.append 1 (.t 8) (.t 10)),on (.store 1 (.t 2) (.t 11))])) .busy):=by rw[hen 1 0 0 (.inl (by decide))];simp only[go_sem,qW]
   have k2:en' ⟨0,2,0⟩=some (.box [v] false):=by rw[hen 0 2 0 (.inr ⟨by decide,by simp⟩)];simp only[go_sem,qW,e2]
   simp only[go_sem,qC,qG,qW,h',h2,s1,s2,k1,k2];simp only[go_sem,qC,qG,qW,h0,h4,h5]
   refine⟨_,_,_,v',rfl,?_⟩
   simp only[go_sem,qC,qG,qW,h0,h4,h5,k2,aJ h' hf]
   refine cG.sub (D:=[11,11]) (cG.keep (en:=en') ?_ ?_) (by simp)
   ·rw[bXw];exact hown
   ·intro t g ht;simp at ht;subst ht;simp only[go_sem,qW]
 ·have:k=n:=by simp at hq;omega
  subst this;simp only[go_sem,qC,qG,qW,e1];obtain⟨r,ks,s1,s2,_⟩:=aBj (hm.keep (en':=en.set ⟨1,0,0⟩ none) fun t g ht=>by simp at ht;subst ht;simp only[go_sem,qW])
  simp only[go_sem,qC,qG,qW,e2,s1,s2]
theorem wY (n:Int): ∀ks:List Int,(∃i,findKey .num (.int .i64 n) (ks.map (.int .i64))=some (some i)/\ (ks.any fun x=>decide (x=n))=true/\ (ks.map (Val.int .i64)).set i (.int .i64 n)=ks.map (.int .i64)/\ i<ks.length) \/
  (findKey .num (.int .i64 n) (ks.map (.int .i64))=some none/\ (ks.any fun x=>decide (x=n))=false)
 |[]=> .inr ⟨rfl,rfl⟩
 |x::ks=>by
  have he:mV .num (.int .i64 n) (.int .i64 x)=some (n==x):=by simp[mV]
  by_cases h:n=x
  ·subst h
   refine .inl ⟨0,?_,by simp,by simp,by simp⟩
   simp only[bYa,findKey,he,beq_self_eq_true]
  ·have hb:(n==x)=false:=by simpa using h
   have hx:decide (x=n)=false:=by simp;exact fun e=>h e.symm
   rcases wY n ks with⟨i,h1,h2,h3,h4⟩|⟨h1,h2⟩
   ·refine .inl ⟨i+1,?_,?_,by simp[h3],by simp;exact h4⟩
    ·simp only[bYa,findKey,he,hb,h1]
    ·simp only[bZs,hx,bYy];exact h2
   ·refine .inr ⟨?_,?_⟩
    ·simp only[bYa,findKey,he,hb,h1]
    ·simp only[bZs,hx,bYy];exact h2
theorem aJa (n:Int)(ks:List Int):uJ .num (.bool false) false (.int .i64 n) (ks.map (.int .i64)) (ks.map fun _=> .bool true)=some (.bool (ks.any fun x=>decide (x=n))):=by
 unfold uJ;rcases wY n ks with⟨i,h1,h2,_,h4⟩|⟨h1,h2⟩
 ·simp[h1,h2,bXm,h4]
 ·simp[h1,h2]
def yM (w:aB)(ks:List Int):Bool:=(List.range w.objs.length).all fun i=>(ks.any fun x=>decide (x=(i:Int)))||!bF (w.obj i)
def rI (w:aB):Bool:=bB w [] w.tasks&&yM w w.tasks
theorem tN (p:aP)(w:aB)(ks:List Int)(i:Nat)(hi:i<w.objs.length):
  PC L 217 [.int .i64 i,.fp [.fm (ks.map (.int .i64)) (ks.map fun _=> .bool true)] 0,.fp [.fp [.fz (p.nodes.map aK.enc),.fz (p.funs.map (.int .i64)),.int .i64 p.main,.fz (p.cons.map bE.enc),.fz (w.objs.map aI.enc),.fz (w.tasks.map (.int .i64)),.fz (w.outs.map aN.enc),.fz (w.ins.map (.int .i64)),.int .i64 w.used] 0] 0] (.bool ((ks.any fun x=>decide (x=(i:Int)))||!bF (w.obj i))):=by
 have hin:inR (i:Int) 0 (w.objs.length-1)=true:=by simp[inR];omega
 refine aL bLf rfl rfl ?_
 simp only[go_sem,qC,qG,qW,aTn,aJa]
 refine aE (fun h=>?_) (fun h=>?_)
 ·simp only[go_sem,qC,qG,qW,h,uK,hin];simp[bF]
 ·simp only[go_sem,qC,qG,qW,h,bXz];simp
theorem aP2 {k:Key}:Val.one (.mp k)=true:=(rfl)
theorem aGw {k:Key}:Val.cells (.mp k)=[.mp k]:=(rfl)
theorem aZ3 {n:Nat}{en:En}{k:Key}:snapD (n+1) en (.mp k)=(match en k with
   |some (.map ks vs _)=>some (.fm ks vs,[k])
   |_=>none):=(rfl)
theorem wZ (p:aP)(w:aB)(hw:w.few)(hn:w.objs.length<=1000):PC L 178 [.fp [.fz (p.nodes.map aK.enc),.fz (p.funs.map (.int .i64)),.int .i64 p.main,.fz (p.cons.map bE.enc),.fz (w.objs.map aI.enc),.fz (w.tasks.map (.int .i64)),.fz (w.outs.map aN.enc),.fz (w.ins.map (.int .i64)),.int .i64 w.used] 0] (.bool (rI w)):=by
 have e:=dL hw.objs
 refine aL bKl rfl rfl ?_
 simp only[go_sem,qC,qG,qW,aSw,iO (v:= .fp [.fz (p.nodes.map aK.enc),.fz (p.funs.map (.int .i64)),.int .i64 p.main,.fz (p.cons.map bE.enc),.fz (w.objs.map aI.enc),.fz (w.tasks.map (.int .i64)),.fz (w.outs.map aN.enc),.fz (w.ins.map (.int .i64)),.int .i64 w.used] 0) rfl rfl,aP2,aGw]
 refine bD w.tasks.length (fun k st=> ∃fr en cnt,st=⟨fr,en,cnt⟩/\ fr 1= .ptr ⟨0,1,0⟩ 0/\ en ⟨0,1,0⟩=some (.box [.fp [.fz (p.nodes.map aK.enc),.fz (p.funs.map (.int .i64)),.int .i64 p.main,.fz (p.cons.map bE.enc),.fz (w.objs.map aI.enc),.fz (w.tasks.map (.int .i64)),.fz (w.outs.map aN.enc),.fz (w.ins.map (.int .i64)),.int .i64 w.used] 0] false)/\ fr 3= .ptr ⟨0,3,0⟩ 0/\ en ⟨0,3,0⟩=some (.box [.mp ⟨0,6,0⟩] false)/\
  en ⟨0,6,0⟩=some (.map ((w.tasks.take k).map (.int .i64)) ((w.tasks.take k).map fun _=> .bool true) false)/\ fr 11= .fz (w.tasks.map (.int .i64))/\ fr 12= .int .i64 w.tasks.length/\ fr 13= .int .i64 k/\ bB w (w.tasks.take k) (w.tasks.drop k)=bB w [] w.tasks) 0 (bXl _)
  ⟨_,_,_,rfl,by simp only[go_sem,qW],by simp only[go_sem,qW],by simp only[go_sem,qW],by simp only[go_sem,qW],by simp only[go_sem,qW],by simp only[go_sem,qW],by simp only[go_sem,qW],by simp only[go_sem,qW],rfl⟩ ?_
 rintro k st hk ⟨fr,en,cnt,rfl,h1,e1,h3,e3,e6,h11,h12,h13,hI⟩
 simp only[go_sem,qC,qG,qW,h11,h12,h13]
 refine aA (fun hq=>?_) (fun hq=>?_)
 ·have h':k<w.tasks.length:=of_decide_eq_true hq;rw[bX7 h',bB]at hI;simp only[go_sem,qC,qG,qW,h',h1,e1,h3,e3,h11,h12,h13,(gW _ _ _).ret,e]
  refine aE (fun hb=>?_) (fun hb=>?_)
  ·simp at hb
   simp only[go_sem,qC,qG,qW,hb,bXp,h1,e1,h3,e3,uK]
   refine aE (fun hc=>?_) (fun hc=>?_)
   ·have hc':bF (w.obj w.tasks[k])=true:=by simpa[bF]using hc
    simp only[go_sem,qC,qG,qW,hc,h1,e1,h3,e3,e6,aJa]
    refine aA (fun hd=>?_) (fun hd=>?_)
    ·simp only[go_sem,qC,qG,qW];rw[hb,hc',hd]at hI;rw[rI,<-hI];rfl
    ·rw[hb,hc',hd]at hI;simp only[bXz,bX0]at hI;rcases wY w.tasks[k] (w.tasks.take k)with⟨i,f1,f2,_⟩|⟨f1,_⟩
     ·rw[hd]at f2;cases f2
     ·simp only[go_sem,qC,qG,qW,h',h1,e1,h3,e3,e6,h11,h12,h13,f1]
      refine⟨_,_,_,rfl,?_⟩
      simp only[go_sem,qC,qG,qW,h',h1,e1,h3,e3,e6,h11,h12,h13,dF h',bXw,aJ h' hw.tasks];exact hI
   ·have hc':bF (w.obj w.tasks[k])=false:=by simp at hc;simp[bF,hc]
    simp only[go_sem,qC,qG,qW,hc];rw[hb,hc']at hI;rw[rI,<-hI];rfl
  ·simp at hb
   simp only[go_sem,qC,qG,qW,hb,bXz];rw[hb]at hI;rw[rI,<-hI];rfl
 ·have:k=w.tasks.length:=by simp at hq;omega
  subst this;rw[bYc]at e6 hI;rw[bY7,bB]at hI;have hp: ∀i:Nat,i<w.objs.length->PC L 217 [.int .i64 i,.fp [.fm (w.tasks.map (.int .i64)) (w.tasks.map fun _=> .bool true)] 0,.fp [.fp [.fz (p.nodes.map aK.enc),.fz (p.funs.map (.int .i64)),.int .i64 p.main,.fz (p.cons.map bE.enc),.fz (w.objs.map aI.enc),.fz (w.tasks.map (.int .i64)),.fz (w.outs.map aN.enc),.fz (w.ins.map (.int .i64)),.int .i64 w.used] 0] 0] (.bool ((w.tasks.any fun x=>decide (x=(i:Int)))||!bF (w.obj i))):=fun i hi=>tN p w w.tasks i hi
  have ask:dD L (fun x:Int=> .int .i64 x) (.fn 217 [] [.fp [.fm (w.tasks.map (.int .i64)) (w.tasks.map fun _=> .bool true)] 0,.fp [.fp [.fz (p.nodes.map aK.enc),.fz (p.funs.map (.int .i64)),.int .i64 p.main,.fz (p.cons.map bE.enc),.fz (w.objs.map aI.enc),.fz (w.tasks.map (.int .i64)),.fz (w.outs.map aN.enc),.fz (w.ins.map (.int .i64)),.int .i64 w.used] 0] 0]) (fun j=>(w.tasks.any fun x=>decide (x=j))||!bF (w.obj j)) ((List.range w.objs.length).map fun(i:Nat)=>(i:Int)):=by
   refine⟨fun n en hn=>?_,rfl,rfl,rfl,fun x hx en K hK=>?_⟩
   ·obtain⟨m,rfl⟩: ∃m,n=m+4:=⟨n-4,by omega⟩
    simp only[go_sem,qW]
   ·obtain⟨i,hi,rfl⟩:=bXy.1 hx;simp only[go_sem,qW,(hp i (by simpa using hi)).ret]
    exact hK
  have hall:=vQ _ _ _ (by simpa using hw.objs) ask
  have he:List.map (Val.int .i64) ((List.range w.objs.length).map fun(i:Nat)=>(i:Int))=(List.range w.objs.length).map fun(i:Nat)=>Val.int .i64 i:=by simp
  rw[he]at hall;simp only[go_sem,qC,qG,qW,h1,e1,h3,e3,e6,(aEr _).ret,(aP1 _ hn).ret,aZ3,hall.ret];rw[rI,<-hI,bX0,yM,List.all_map];rfl
theorem aBo : ∀(l N:List Nat),l.Nodup->(∀x∈l,x∈N)->l.length<=N.length
 |[],N,_,_=>bXl _
 |x::l,N,hn,hs=>by
  have hx:x∈N:=hs x (by simp)
  rw[List.nodup_cons]at hn;have:=aBo l (N.erase x) hn.2 fun y hy=>by
   rw[List.mem_erase_of_ne (by rintro rfl;exact hn.1 hy)]
   exact hs y (by simp[hy])
  rw[List.length_erase_of_mem hx]at this;have:=List.length_pos_of_mem hx;simp only[bXu];omega
def rJ (w:aB):List Nat:=(List.range w.objs.length).filter fun(i:Nat)=>bF (w.obj (i:Int))
theorem uT (w:aB):(rJ w).length=w.objs.countP bF:=by
 have h:w.objs=(List.range w.objs.length).map fun(i:Nat)=>w.obj (i:Int):=by
  refine bZe (by simp) fun i h1 h2=>?_
  simp[aB.obj,bXm,h1]
 conv=>rhs;rw[h,List.countP_map]
 rw[rJ,List.countP_eq_length_filter];rfl
theorem xB (w:aB): ∀(l met:List Int),bB w met l=true->(∀x∈l,inR x 0 (w.objs.length-1)=true/\ bF (w.obj x)=true)/\ (l.map Int.toNat).Nodup/\ ∀x∈l,x∉met
 |[],met,_=>by simp
 |x::l,met,h=>by
  simp only[bB,bXb]at h;obtain⟨⟨⟨h1,h2⟩,h3⟩,h4⟩:=h;obtain⟨k1,k2,k3⟩:=xB w l (met++[x]) h4;have hxm:x∉met:=by
   intro hm;simp only[bYh,List.any_eq_false]at h3;exact absurd (h3 x hm) (by simp)
  refine⟨fun y hy=>?_,?_,fun y hy=>?_⟩
  ·rcases bYe.1 hy with rfl|hy
   ·exact⟨h1,h2⟩
   ·exact k1 y hy
  ·rw[bYa,List.nodup_cons]
   refine⟨fun hm=>?_,k2⟩
   obtain⟨y,hy,he⟩:=bXy.1 hm;have a:=(k1 y hy).1;simp only[inR,cAg]at a h1;have:y=x:=by omega
   subst this;exact k3 y hy (by simp)
  ·rcases bYe.1 hy with rfl|hy
   ·exact hxm
   ·exact fun hm=>k3 y hy (by simp[hm])
theorem aAh (w:aB):rI w=iP w:=by
 unfold rI iP;cases hd:bB w [] w.tasks with
 |false=>simp
 |true=>
  obtain⟨k1,k2,_⟩:=xB w _ _ hd;have hsub: ∀x∈w.tasks.map Int.toNat,x∈rJ w:=by
   intro x hx;obtain⟨y,hy,rfl⟩:=bXy.1 hx;obtain⟨a,b⟩:=k1 y hy;have a':=a;simp only[inR,cAg]at a'
   refine bY0.2 ⟨bYz.2 (by omega),?_⟩
   rw[bZo a'.1];exact b
  have hle:=aBo _ _ k2 hsub;rw[uT,bXj]at hle;simp only[bX0,bY6];have hcov:yM w w.tasks=true↔ ∀x∈rJ w,x∈w.tasks.map Int.toNat:=by
   simp only[yM,bXo,bYz,bZv,bYh,rJ,bY0,bZm,cAg];constructor
   ·rintro h x ⟨hx,ht⟩
    rcases h x hx with⟨y,hy,he⟩|hf
    ·exact bXy.2 ⟨y,hy,by omega⟩
    ·rw[ht]at hf;cases hf
   ·intro h x hx;cases ht:bF (w.obj (x:Int))with
    |false=>exact .inr rfl
    |true=>
     obtain⟨y,hy,he⟩:=bXy.1 (h x ⟨hx,ht⟩);have a:=(k1 y hy).1;simp only[inR,cAg]at a;exact .inl ⟨y,hy,by omega⟩
  rw[bZr,hcov,cAg];constructor
  ·intro h;have hN:(rJ w).Nodup:=List.Pairwise.filter _ List.nodup_range;have:=aBo _ _ hN h;rw[uT,bXj]at this;omega
  ·intro he x hx
   by_cases hm:x∈w.tasks.map Int.toNat
   ·exact hm
   ·exfalso
    have:=aBo (x::w.tasks.map Int.toNat) (rJ w) (List.nodup_cons.2 ⟨hm,k2⟩) fun y hy=>by
     rcases bYe.1 hy with rfl|hy
     ·exact hx
     ·exact hsub y hy
    rw[uT,bXu,bXj]at this;omega
def sV (p:aP)(w:aB):Bool:=
 decide ((w.objs.length:Int)<=120)&&w.objs.all (aNq p w)&&rI w&&decide ((w.outs.length:Int)<=100)&&w.outs.all rX&&mN w.ins 50&&inR w.used 0 1000000000
theorem xC (p:aP)(w:aB)(hp:p.few)(hw:w.few):PC L 142 [.fp [.fz (p.nodes.map aK.enc),.fz (p.funs.map (.int .i64)),.int .i64 p.main,.fz (p.cons.map bE.enc),.fz (w.objs.map aI.enc),.fz (w.tasks.map (.int .i64)),.fz (w.outs.map aN.enc),.fz (w.ins.map (.int .i64)),.int .i64 w.used] 0] (.bool (sV p w)):=by
 have ask:dD L (fun x:aI=> .agg [.int .i64 x.form,.int .i64 x.n,.fz (x.vals.map aG.enc),.fz (x.frames.map aC.enc)]) (.fn 177 [.fp [.fz (p.nodes.map aK.enc),.fz (p.funs.map (.int .i64)),.int .i64 p.main,.fz (p.cons.map bE.enc),.fz (w.objs.map aI.enc),.fz (w.tasks.map (.int .i64)),.fz (w.outs.map aN.enc),.fz (w.ins.map (.int .i64)),.int .i64 w.used] 0] []) (aNq p w) w.objs:=by
  refine⟨fun n en hn=>?_,rfl,rfl,rfl,fun x hx en K hK=>?_⟩
  ·obtain⟨m,rfl⟩: ∃m,n=m+4:=⟨n-4,by omega⟩
   simp only[go_sem,qW]
  ·simp only[go_sem,qW,(vW p w x hp hw (hw.obj x hx)).ret];exact hK
 have ask2:dD L (fun x:aN=> .agg [.int .i64 x.port,.int .i64 x.n]) (.fn 180 [] []) rX w.outs:=by
  refine⟨fun n en hn=>?_,rfl,rfl,rfl,fun x hx en K hK=>?_⟩
  ·obtain⟨m,rfl⟩: ∃m,n=m+4:=⟨n-4,by omega⟩
   simp only[go_sem,qW]
  ·simp only[go_sem,qW,(tM x).ret];exact hK
 refine aL bJz rfl rfl ?_
 simp only[go_sem,qC,qG,qW,aSb]
 refine aE (fun h1=>?_) (fun h1=>?_)
 ·have hn:w.objs.length<=1000:=by simp at h1;omega
  have ht:=wZ p w hw hn;simp only[go_sem,qC,qG,qW,h1,(tK _ _ _ hw.objs ask).ret]
  refine aE (fun h2=>?_) (fun h2=>?_)
  ·simp only[go_sem,qC,qG,qW,h2,ht.ret]
   refine aE (fun h3=>?_) (fun h3=>?_)
   ·simp only[go_sem,qC,qG,qW,h3]
    refine aE (fun h4=>?_) (fun h4=>?_)
    ·simp only[go_sem,qC,qG,qW,h4,(tL _ _ _ hw.outs ask2).ret]
     refine aE (fun h5=>?_) (fun h5=>?_)
     ·simp only[go_sem,qC,qG,qW,h5,(aGu _ hw.ins).ret]
      refine aE (fun h6=>?_) (fun h6=>?_)
      ·simp only[go_sem,qC,qG,qW,h6,(gW _ _ _).ret];simp only[sV,h1,h2,h3,h4,h5,h6,bX0]
      ·simp only[go_sem,qC,qG,qW,h6,bXp];simp only[sV,h1,h2,h3,h4,h5,h6,bXp,bX0,bX6]
     ·simp only[go_sem,qC,qG,qW,h5,bXp];simp only[sV,h1,h2,h3,h4,h5,bXp,bX0,bX6,bYp]
    ·simp only[go_sem,qC,qG,qW,h4,bXp];simp only[sV,h1,h2,h3,h4,bXp,bX0,bX6,bYp]
   ·simp only[go_sem,qC,qG,qW,h3,bXp];simp only[sV,h1,h2,h3,bXp,bX0,bX6,bYp]
  ·simp only[go_sem,qC,qG,qW,h2,bXp];simp only[sV,h1,h2,bXp,bX0,bX6,bYp]
 ·simp only[go_sem,qC,qG,qW,h1,bXp];simp only[sV,h1,bXp,bX0,bX6,bYp]
theorem aNr {p:aP}(h:fZ p=true): ∀c∈p.cons,c.args<=3:=by
 intro c hc;simp only[fZ,uL,bXb]at h;have:=bXo.1 h.1.2.1.1 c hc;simp only[sA,inR,bXb,cAg]at this;omega
theorem aP3 (p:aP)(w:aB)(h:fZ p=true):sV p w=gG p w:=by
 have:w.objs.all (aNq p w)=w.objs.all (dN p w):=by
  congr 1;funext o;exact aZ2 p w o (aNr h)
 simp only[sV,gG,this,aAh]
 ac_rfl
theorem sW (p:aP)(w:aB)(hp:p.few)(hw:w.few)(hs:aT p=true):PC L 61 [.agg [.fz (p.nodes.map aK.enc),.fz (p.funs.map (.int .i64)),.int .i64 p.main,.fz (p.cons.map bE.enc)],.agg [.fz (w.objs.map aI.enc),.fz (w.tasks.map (.int .i64)),.fz (w.outs.map aN.enc),.fz (w.ins.map (.int .i64)),.int .i64 w.used]] (.int .i64 (if eV p w then 0 else 2)):=by
 have hrun: ∃r,PC L 106 [.agg [.fz (p.nodes.map aK.enc),.fz (p.funs.map (.int .i64)),.int .i64 p.main,.fz (p.cons.map bE.enc)],.agg [.fz (w.objs.map aI.enc),.fz (w.tasks.map (.int .i64)),.fz (w.outs.map aN.enc),.fz (w.ins.map (.int .i64)),.int .i64 w.used]] (.tup [r,.bool (eV p w)])/\ oX r=false/\ (∀n en,6<=n->snapD n en r=some (r,[])):=by
  cases hf:fZ p with
  |false=>
   refine⟨.nilp,?_,rfl,fun n en hn=>?_⟩
   ·refine aL bEb rfl rfl ?_
    have hb:=zE p hp hs;rw[hf]at hb;simp only[go_sem,qC,qG,qW,aM0,hb.ret];simp[eV,hf]
   ·obtain⟨m,rfl⟩: ∃m,n=m+1:=⟨n-1,by omega⟩
    rfl
  |true=>
   refine⟨.fp [.fz (p.nodes.map aK.enc),.fz (p.funs.map (.int .i64)),.int .i64 p.main,.fz (p.cons.map bE.enc),.fz (w.objs.map aI.enc),.fz (w.tasks.map (.int .i64)),.fz (w.outs.map aN.enc),.fz (w.ins.map (.int .i64)),.int .i64 w.used] 0,?_,rfl,fun n en hn=>?_⟩
   ·refine aL bEb rfl rfl ?_
    have hb:=zE p hp hs;rw[hf]at hb;simp only[go_sem,qC,qG,qW,aM0,hb.ret,(xC p w hp hw).ret];rw[aP3 p w hf];simp[eV,hf]
   ·obtain⟨m,rfl⟩: ∃m,n=m+1:=⟨n-1,by omega⟩
    rfl
 obtain⟨r,hr,hr1,hr2⟩:=hrun
 refine aL bUs rfl rfl ?_
 simp only[go_sem,qC,qG,qW,bCl,hr.ret];cases hg:eV p w<;>simp only[go_sem,qC,qG,qW,hg,bXp,bXz]
theorem rK (o:aI):PC L 64 [.agg [.int .i64 o.form,.int .i64 o.n,.fz (o.vals.map aG.enc),.fz (o.frames.map aC.enc)]] (.bool (bF o)):=by
 refine aL bUu rfl rfl ?_
 simp only[go_sem,qC,qG,qW,bCn];simp[bF]
theorem uU (s:aX):PC L 116 [.fp [.fz (s.world.objs.map aI.enc),.fz (s.world.tasks.map (.int .i64)),.fz (s.world.outs.map aN.enc),.fz (s.world.ins.map (.int .i64)),.int .i64 s.world.used,.fz (s.ages.map (.int .i64)),.fz (s.marks.map (.int .i64)),.int .i64 s.cycle] 0] (.bool (decide (s.cycle=3))):=by
 refine aL bJi rfl rfl ?_
 simp only[go_sem,qC,qG,qW,aRv]
theorem sE (s:aX)(k:Nat)(hk:k<s.ages.length):PC L 117 [.fp [.fz (s.world.objs.map aI.enc),.fz (s.world.tasks.map (.int .i64)),.fz (s.world.outs.map aN.enc),.fz (s.world.ins.map (.int .i64)),.int .i64 s.world.used,.fz (s.ages.map (.int .i64)),.fz (s.marks.map (.int .i64)),.int .i64 s.cycle] 0,.int .i64 k] (.bool (decide (s.ages[k]=2))):=by
 refine aL bJj rfl rfl ?_
 simp only[go_sem,qC,qG,qW,aRw,hk]
def RI (s:aX)(k:Nat)(fr0:Nat->Val)(gk:Nat)(r:List Int)(en:En)(cnt:Nat->Nat->Nat):Prop:=
 en ⟨1,0,gk⟩=some (.loop fr0 [142] (cD.ops [o 7 (.mv (.t 142))]) (cD.block 5 (.seq (.ops [o 143 (.load false 1 (.t 1)),o 144 (.nilck (.t 143)),o 145 (.fa 0 (.t 144)),o 146 (.fa 6 (.t 145)),o 147 (.load false 1 (.t 146)),o 148 (.mv (.t 7)),o 149 (.ia 1 (.t 147) (.t 148)),o 150 (.load false 1 (.t 149)),o 151 (.bin .eql .num (.t 150) (.c (.int .i64 0)))]) (.cond (.t 151) (.seq (.ops [on (.store 1 (.t 2) (.c (.bool false)))]) .ret) .skip))) .ready)/\ en ⟨0,1,0⟩=some (.box [.fp [.fz (s.world.objs.map aI.enc),.fz (s.world.tasks.map (.int .i64)),.fz (s.world.outs.map aN.enc),.fz (s.world.ins.map (.int .i64)),.int .i64 s.world.used,.fz (s.ages.map (.int .i64)),.fz (s.marks.map (.int .i64)),.int .i64 s.cycle] 0] false)/\ en ⟨0,2,0⟩=some (.box [.bool false] false)/\ (∀x∈dG (s.world.obj k),iJ s k x=true->x∈r)/\ (∀x∈r,x∈dG (s.world.obj k))/\ 1<=cnt 0 2
def RG (s:aX)(k:Nat)(fr0:Nat->Val)(gk:Nat)(en:En)(cnt:Nat->Nat->Nat):Prop:=
 en ⟨1,0,gk⟩=some (.loop fr0 [142] (cD.ops [o 7 (.mv (.t 142))]) (cD.block 5 (.seq (.ops [o 143 (.load false 1 (.t 1)),o 144 (.nilck (.t 143)),o 145 (.fa 0 (.t 144)),o 146 (.fa 6 (.t 145)),o 147 (.load false 1 (.t 146)),o 148 (.mv (.t 7)),o 149 (.ia 1 (.t 147) (.t 148)),o 150 (.load false 1 (.t 149)),o 151 (.bin .eql .num (.t 150) (.c (.int .i64 0)))]) (.cond (.t 151) (.seq (.ops [on (.store 1 (.t 2) (.c (.bool false)))]) .ret) .skip))) (.done .ret))/\ en ⟨0,2,0⟩=some (.box [.bool false] false)/\ ∃x∈dG (s.world.obj k),iJ s k x=true
theorem aK3 (s:aX)(k:Nat){fr0:Nat->Val}{gk:Nat}{c0:Nat->Nat}(hm2:fR s k=2)(q1:fr0 1= .ptr ⟨0,1,0⟩ 0)(q2:fr0 2= .ptr ⟨0,2,0⟩ 0)(q5:fr0 5= .int .i64 k)
  (hino: ∀x∈dG (s.world.obj k),inR x 0 ((s.marks.length:Int)-1)=true) (hc:1<=c0 2):aAd ⟨1,0,gk⟩ c0 (RI s k fr0 gk) (RG s k fr0 gk):=by
 refine⟨?_,?_⟩
 ·rintro r en cnt en' cnt' ⟨i1,i2,i3,i4,i5,i6⟩ hout hcnt hge
  have hge2:=hge 2 (by decide)
  exact⟨(hout 1 0 gk (.inl (by omega))).trans i1,(hout 0 1 0 (.inr (.inl (by decide)))).trans i2,(hout 0 2 0 (.inr (.inr (by omega)))).trans i3,i4,i5,by omega⟩
 ·rintro x rest en cnt ⟨i1,i2,i3,i4,i5,i6⟩
  have hxr:=i5 x (by simp)
  have hxi:=hino x hxr
  refine aEw (fr:=fr0) (ps:=[142]) (a:=(cD.ops [o 7 (.mv (.t 142))])) (b:=(cD.block 5 (.seq (.ops [o 143 (.load false 1 (.t 1)),o 144 (.nilck (.t 143)),o 145 (.fa 0 (.t 144)),o 146 (.fa 6 (.t 145)),o 147 (.load false 1 (.t 146)),o 148 (.mv (.t 7)),o 149 (.ia 1 (.t 147) (.t 148)),o 150 (.load false 1 (.t 149)),o 151 (.bin .eql .num (.t 150) (.c (.int .i64 0)))]) (.cond (.t 151) (.seq (.ops [on (.store 1 (.t 2) (.c (.bool false)))]) .ret) .skip)))) i1 rfl ?_
  simp only[go_sem,qC,qG,qW,q1,q2,q5,i1,i2,i3,sQ hxi]
  refine aA (fun hb=>?_) (fun hb=>?_)
  ·have hbad:iJ s k x=true:=by simp only[iJ,hm2,decide_true,bX0];exact hb
   simp only[go_sem,qC,qG,qW,q1,q2,q5,i1,i2,i3]
   refine⟨fun t g ht hg=>?_,fun _ _=>trivial,.inr ⟨rfl,?_,?_,x,hxr,hbad⟩⟩
   ·have n1:(⟨0,t,g⟩:Key)≠⟨1,0,gk⟩:=by intro he;injection he with h1 _ _;omega
    have n2:(⟨0,t,g⟩:Key)≠⟨0,2,0⟩:=by intro he;injection he with _ h2 h3;subst h2;omega
    rw[eE n1,eE n2,eE n1]
   ·try simp only[go_sem,qW]
    try rfl
   ·simp only[go_sem,qW,i3]
  ·have hbad:iJ s k x=false:=by simp only[iJ,hm2,decide_true,bX0];exact hb
   simp only[go_sem,qC,qG,qW,q1,q2,q5,i1,i2,i3]
   refine⟨fun t g ht hg=>?_,fun _ _=>trivial,.inl ⟨?_,?_,?_,fun y hy hz=>?_,fun y hy=>i5 y (by simp[hy]),i6⟩⟩
   ·have n1:(⟨0,t,g⟩:Key)≠⟨1,0,gk⟩:=by intro he;injection he with h1 _ _;omega
    rw[eE n1,eE n1]
   ·try simp only[go_sem,qW]
    try rfl
   ·simp only[go_sem,qW,i2]
   ·simp only[go_sem,qW,i3]
   ·rcases bYe.1 (i4 y hy hz)with rfl|h
    ·rw[hbad]at hz;cases hz
    ·exact h
theorem aH7 (s:aX)(hs:s.few)(hsm:aY s.world=true)(hin: ∀o∈s.world.objs,∀x∈iE o,inR x 0 (s.world.objs.length-1)=true):PC L 77 [.fp [.fz (s.world.objs.map aI.enc),.fz (s.world.tasks.map (.int .i64)),.fz (s.world.outs.map aN.enc),.fz (s.world.ins.map (.int .i64)),.int .i64 s.world.used,.fz (s.ages.map (.int .i64)),.fz (s.marks.map (.int .i64)),.int .i64 s.cycle] 0] (.bool (jX s&&lJ s)):=by
 refine aL bU2 rfl rfl ?_
 simp only[go_sem,qC,qG,qW,bCv]
 refine aE (fun g1=>?_) (fun g1=>?_)
 ·have k2:s.ages.length=s.world.objs.length:=by simp at g1;omega
  simp only[go_sem,qC,qG,qW,g1]
  refine aE (fun g2=>?_) (fun g2=>?_)
  ·have k3:s.marks.length=s.world.objs.length:=by simp at g2;omega
   simp only[go_sem,qC,qG,qW,g1,g2]
   refine aE (fun g3=>?_) (fun g3=>?_)
   ·simp only[go_sem,qC,qG,qW,g1,g2,g3]
    refine aA (fun g4=>?_) (fun g4=>?_)
    ·simp only[go_sem,qC,qG,qW]
     simp at g3 g4
     simp[jX,inR];intros;omega
    ·have k4:jX s=true:=by
      simp at g3 g4
      simp[jX,inR,k2,k3];omega
     rw[k4,bX0];simp only[go_sem,qC,qG,qW]
     refine bD (s.world.objs.length) (fun k st=> ∃fr en cnt,st=⟨fr,en,cnt⟩/\ (fr 1= .ptr ⟨0,1,0⟩ 0)/\ (en ⟨0,1,0⟩=some (.box [.fp [.fz (s.world.objs.map aI.enc),.fz (s.world.tasks.map (.int .i64)),.fz (s.world.outs.map aN.enc),.fz (s.world.ins.map (.int .i64)),.int .i64 s.world.used,.fz (s.ages.map (.int .i64)),.fz (s.marks.map (.int .i64)),.int .i64 s.cycle] 0] false))/\ (fr 2= .ptr ⟨0,2,0⟩ 0)/\ (en ⟨0,2,0⟩=some (.box [.bool false] false))/\ (fr 49= .int .i64 s.world.objs.length)/\ (fr 50= .int .i64 k)/\ (1<=cnt 0 2)/\ (∀i,i<k->kV s i=true)) 0 (bXl _) ⟨_,_,_,rfl,(by first|(simp only[go_sem,qW];(try rfl);done)|rfl|simp),(by first|(simp only[go_sem,qW];(try rfl);done)|rfl|simp),(by first|(simp only[go_sem,qW];(try rfl);done)|rfl|simp),(by first|(simp only[go_sem,qW];(try rfl);done)|rfl|simp),(by first|(simp only[go_sem,qW];(try rfl);done)|rfl|simp),(by first|(simp only[go_sem,qW];(try rfl);done)|rfl|simp),(by first|(simp only[go_sem,qW];(try rfl);done)|rfl|simp),(by first|(simp only[go_sem,qW];(try rfl);done)|rfl|simp)⟩ ?_
     rintro k st hk ⟨fr,en,cnt,rfl,h1,e1,h2,e2,h49,h50,hc2,hI⟩
     simp only[go_sem,qC,qG,qW,h1,e1,h2,e2,h49,h50,hc2]
     refine aA (fun hq=>?_) (fun hq=>?_)
     ·have h':k<s.world.objs.length:=of_decide_eq_true hq;have ha:k<s.ages.length:=by omega
      have hm:k<s.marks.length:=by omega
      have bad:kV s k=false->Val.bool false=Val.bool (lJ s):=fun h=>by
       have:lJ s=false:=by
        unfold lJ;rw[bZ6];exact⟨k,by simpa using h',by simp[h]⟩
       rw[this]
      have eR:kV s k=(inR s.ages[k] 0 2&&inR s.marks[k] 0 2):=by simp only[kV,gQ ha,dV hm]
      simp only[go_sem,qC,qG,qW,h',ha,hm,h1,e1,h2,e2,h49,h50,hc2]
      refine aE (fun g5=>?_) (fun g5=>?_)
      ·simp only[go_sem,qC,qG,qW,g5,h',ha,hm,h1,e1,h2,e2,h49,h50,hc2]
       refine aE (fun g6=>?_) (fun g6=>?_)
       ·simp only[go_sem,qC,qG,qW,g5,g6,h',ha,hm,h1,e1,h2,e2,h49,h50,hc2]
        refine aE (fun g7=>?_) (fun g7=>?_)
        ·simp only[go_sem,qC,qG,qW,g5,g6,g7,h',ha,hm,h1,e1,h2,e2,h49,h50,hc2]
         refine aA (fun g8=>?_) (fun g8=>?_)
         ·simp only[go_sem,qC,qG,qW,h',ha,hm,h1,e1,h2,e2,h49,h50,hc2]
          refine bad ?_
          simp at g5 g6 g7 g8
          rw[eR];simp[inR];intros;omega
         ·simp only[go_sem,qC,qG,qW,h',ha,hm,h1,e1,h2,e2,h49,h50,hc2]
          refine⟨_,_,_,rfl,?_⟩
          simp only[go_sem,qW,h1,e1,h2,e2,h49,h50,hc2,aJ h' hs.1.objs];intro i hi
          by_cases hik:i<k
          ·exact hI i hik
          ·have:i=k:=by omega
           subst this
           simp at g5 g6 g7 g8
           rw[eR];simp[inR];omega
        ·simp only[go_sem,qC,qG,qW,g5,g6,g7,h',ha,hm,h1,e1,h2,e2,h49,h50,hc2]
         refine bad ?_
         simp at g7
         rw[eR];simp[inR];intros;omega
       ·simp only[go_sem,qC,qG,qW,g5,g6,h',ha,hm,h1,e1,h2,e2,h49,h50,hc2]
        refine bad ?_
        simp at g6
        rw[eR];simp[inR];intros;omega
      ·simp only[go_sem,qC,qG,qW,g5,h',ha,hm,h1,e1,h2,e2,h49,h50,hc2]
       refine bad ?_
       simp at g5
       rw[eR];simp[inR];intros;omega
     ·have:k=s.world.objs.length:=by simp at hq;omega
      subst this;have eAll:lJ s=(List.range s.world.objs.length).all (lH s):=by
       unfold lJ;rw[bZr,bXo,bXo];exact⟨fun h i hi=>(bXb _ _▸h i hi).2,fun h i hi=>by rw[hI i (by simpa using hi),h i hi];rfl⟩
      rw[eAll];simp only[go_sem,qC,qG,qW,h1,e1,h2,e2,h49,h50,hc2]
      refine bD (s.world.objs.length) (fun k st=> ∃fr en cnt,st=⟨fr,en,cnt⟩/\ (fr 1= .ptr ⟨0,1,0⟩ 0)/\ (en ⟨0,1,0⟩=some (.box [.fp [.fz (s.world.objs.map aI.enc),.fz (s.world.tasks.map (.int .i64)),.fz (s.world.outs.map aN.enc),.fz (s.world.ins.map (.int .i64)),.int .i64 s.world.used,.fz (s.ages.map (.int .i64)),.fz (s.marks.map (.int .i64)),.int .i64 s.cycle] 0] false))/\ (fr 2= .ptr ⟨0,2,0⟩ 0)/\ (en ⟨0,2,0⟩=some (.box [.bool false] false))/\ (fr 101= .fz (s.world.objs.map aI.enc))/\ (fr 102= .int .i64 s.world.objs.length)/\ (fr 103= .int .i64 k)/\ (1<=cnt 0 2)/\ (∀i,i<k->lH s i=true)) 0 (bXl _) ⟨_,_,_,rfl,(by first|(simp only[go_sem,h1,e1,h2,e2,h49,h50,hc2];(try rfl);done)|rfl|simp),(by first|(simp only[go_sem,h1,e1,h2,e2,h49,h50,hc2];(try rfl);done)|rfl|simp),(by first|(simp only[go_sem,h1,e1,h2,e2,h49,h50,hc2];(try rfl);done)|rfl|simp),(by first|(simp only[go_sem,h1,e1,h2,e2,h49,h50,hc2];(try rfl);done)|rfl|simp),(by first|(simp only[go_sem,h1,e1,h2,e2,h49,h50,hc2];(try rfl);done)|rfl|simp),(by first|(simp only[go_sem,h1,e1,h2,e2,h49,h50,hc2];(try rfl);done)|rfl|simp),(by first|(simp only[go_sem,h1,e1,h2,e2,h49,h50,hc2];(try rfl);done)|rfl|simp),(by first|(simp only[go_sem,h1,e1,h2,e2,h49,h50,hc2];(try rfl);done)|rfl|simp),(by first|(simp only[go_sem,h1,e1,h2,e2,h49,h50,hc2];(try rfl);done)|rfl|simp)⟩ ?_
      rintro k st hk ⟨fr,en,cnt,rfl,h1,e1,h2,e2,h101,h102,h103,hc2,hR⟩
      simp only[go_sem,qC,qG,qW,h1,e1,h2,e2,h101,h102,h103,hc2]
      refine aA (fun hq=>?_) (fun hq=>?_)
      ·have h':k<s.world.objs.length:=of_decide_eq_true hq;have ha:k<s.ages.length:=by omega
       have hm:k<s.marks.length:=by omega
       have bad:lH s k=false->Val.bool false=Val.bool ((List.range s.world.objs.length).all (lH s)):=fun h=>by
        have:(List.range s.world.objs.length).all (lH s)=false:=by
         rw[bZ6];exact⟨k,by simpa using h',by simp[h]⟩
        rw[this]
       have hso:=jY hsm _ (bXn h');have next:lH s k=true-> ∀i,i<k+1->lH s i=true:=fun h i hi=>by
        by_cases hik:i<k
        ·exact hR i hik
        ·have:i=k:=by omega
         subst this;exact h
       obtain⟨g6,hg6⟩: ∃g,g=cnt 0 6:=⟨_,rfl⟩
       refine aGt (fun st=>(st.fr 1= .ptr ⟨0,1,0⟩ 0)/\ (st.en ⟨0,1,0⟩=some (.box [.fp [.fz (s.world.objs.map aI.enc),.fz (s.world.tasks.map (.int .i64)),.fz (s.world.outs.map aN.enc),.fz (s.world.ins.map (.int .i64)),.int .i64 s.world.used,.fz (s.ages.map (.int .i64)),.fz (s.marks.map (.int .i64)),.int .i64 s.cycle] 0] false))/\ (st.fr 2= .ptr ⟨0,2,0⟩ 0)/\ (st.en ⟨0,2,0⟩=some (.box [.bool false] false))/\ (st.fr 6= .ptr ⟨0,6,g6⟩ 0)/\ (st.en ⟨0,6,g6⟩=some (.box [.int .i64 s.world.objs[k].form,.int .i64 s.world.objs[k].n,.fz (s.world.objs[k].vals.map aG.enc),.fz (s.world.objs[k].frames.map aC.enc)] false))/\ (st.fr 5= .int .i64 k)/\ (st.fr 101= .fz (s.world.objs.map aI.enc))/\ (st.fr 102= .int .i64 s.world.objs.length)/\ (st.fr 103= .int .i64 k)/\ (1<=st.cnt 0 2)/\ (st.cnt 0 6=g6+1)) ?_ ?_
       ·simp only[go_sem,qC,qG,qW,h',h1,e1,h2,e2,h101,h102,h103,hc2,<-hg6]
       ·rintro fr en cnt ⟨(h1:fr 1= .ptr ⟨0,1,0⟩ 0),(e1:en ⟨0,1,0⟩=some (.box [.fp [.fz (s.world.objs.map aI.enc),.fz (s.world.tasks.map (.int .i64)),.fz (s.world.outs.map aN.enc),.fz (s.world.ins.map (.int .i64)),.int .i64 s.world.used,.fz (s.ages.map (.int .i64)),.fz (s.marks.map (.int .i64)),.int .i64 s.cycle] 0] false)),(h2:fr 2= .ptr ⟨0,2,0⟩ 0),(e2:en ⟨0,2,0⟩=some (.box [.bool false] false)),(h6:fr 6= .ptr ⟨0,6,g6⟩ 0),(e6:en ⟨0,6,g6⟩=some (.box [.int .i64 s.world.objs[k].form,.int .i64 s.world.objs[k].n,.fz (s.world.objs[k].vals.map aG.enc),.fz (s.world.objs[k].frames.map aC.enc)] false)),(h5:fr 5= .int .i64 k),(h101:fr 101= .fz (s.world.objs.map aI.enc)),(h102:fr 102= .int .i64 s.world.objs.length),(h103:fr 103= .int .i64 k),(hc2:1<=cnt 0 2),(hc6:cnt 0 6=g6+1)⟩
        refine aGt (fun st=>(st.fr 1= .ptr ⟨0,1,0⟩ 0)/\ (st.en ⟨0,1,0⟩=some (.box [.fp [.fz (s.world.objs.map aI.enc),.fz (s.world.tasks.map (.int .i64)),.fz (s.world.outs.map aN.enc),.fz (s.world.ins.map (.int .i64)),.int .i64 s.world.used,.fz (s.ages.map (.int .i64)),.fz (s.marks.map (.int .i64)),.int .i64 s.cycle] 0] false))/\ (st.fr 2= .ptr ⟨0,2,0⟩ 0)/\ (st.en ⟨0,2,0⟩=some (.box [.bool false] false))/\ (st.fr 6= .ptr ⟨0,6,g6⟩ 0)/\ (st.en ⟨0,6,g6⟩=some (.box [.int .i64 s.world.objs[k].form,.int .i64 s.world.objs[k].n,.fz (s.world.objs[k].vals.map aG.enc),.fz (s.world.objs[k].frames.map aC.enc)] false))/\ (st.fr 5= .int .i64 k)/\ (st.fr 101= .fz (s.world.objs.map aI.enc))/\ (st.fr 102= .int .i64 s.world.objs.length)/\ (st.fr 103= .int .i64 k)/\ (1<=st.cnt 0 2)/\ (st.cnt 0 6=g6+1)/\ (st.fr 130= .bool (gC s k))) ?_ ?_
        ·simp only[go_sem,qC,qG,qW,h',ha,hm,h1,e1,h2,e2,h6,e6,h5,h101,h102,h103,hc6]
         refine aE (fun g7=>?_) (fun g7=>?_)
         ·have hm0:s.marks[k]=0:=by simpa using g7
          simp only[go_sem,qC,qG,qW,g7,h',ha,hm,h1,e1,h2,e2,h6,e6,h5,h101,h102,h103,hc6,(rK _).ret]
          refine aE (fun g8=>?_) (fun g8=>?_)
          ·simp only[go_sem,qC,qG,qW,g7,g8,h',ha,hm,h1,e1,h2,e2,h6,e6,h5,h101,h102,h103,hc6,(sE _ _ ha).ret]
           refine aE (fun g9=>?_) (fun g9=>?_)
           ·have ha2:s.ages[k]=2:=by simpa using g9
            simp only[go_sem,qC,qG,qW,g7,g8,g9,h',ha,hm,h1,e1,h2,e2,h6,e6,h5,h101,h102,h103,hc6,(uU _).ret];simp[gC,dH h',gQ ha,dV hm,hm0,ha2,g8,hc2]
           ·simp only[go_sem,qC,qG,qW,g7,g8,g9,h',ha,hm,h1,e1,h2,e2,h6,e6,h5,h101,h102,h103,hc6]
            simp at g9
            simp[gC,dH h',gQ ha,dV hm,hm0,g8,g9,hc2]
          ·simp only[go_sem,qC,qG,qW,g7,g8,h',ha,hm,h1,e1,h2,e2,h6,e6,h5,h101,h102,h103,hc6];simp[gC,dH h',dV hm,hm0,g8,hc2]
         ·simp only[go_sem,qC,qG,qW,g7,h',ha,hm,h1,e1,h2,e2,h6,e6,h5,h101,h102,h103,hc6]
          simp at g7
          simp[gC,dV hm,g7,hc2]
        ·rintro fr en cnt ⟨(h1:fr 1= .ptr ⟨0,1,0⟩ 0),(e1:en ⟨0,1,0⟩=some (.box [.fp [.fz (s.world.objs.map aI.enc),.fz (s.world.tasks.map (.int .i64)),.fz (s.world.outs.map aN.enc),.fz (s.world.ins.map (.int .i64)),.int .i64 s.world.used,.fz (s.ages.map (.int .i64)),.fz (s.marks.map (.int .i64)),.int .i64 s.cycle] 0] false)),(h2:fr 2= .ptr ⟨0,2,0⟩ 0),(e2:en ⟨0,2,0⟩=some (.box [.bool false] false)),(h6:fr 6= .ptr ⟨0,6,g6⟩ 0),(e6:en ⟨0,6,g6⟩=some (.box [.int .i64 s.world.objs[k].form,.int .i64 s.world.objs[k].n,.fz (s.world.objs[k].vals.map aG.enc),.fz (s.world.objs[k].frames.map aC.enc)] false)),(h5:fr 5= .int .i64 k),(h101:fr 101= .fz (s.world.objs.map aI.enc)),(h102:fr 102= .int .i64 s.world.objs.length),(h103:fr 103= .int .i64 k),(hc2:1<=cnt 0 2),(hc6:cnt 0 6=g6+1),(h130:fr 130= .bool (gC s k))⟩
         simp only[go_sem,qC,qG,qW,h1,e1,h2,e2,h6,e6,h5,h101,h102,h103,hc2,hc6,h130]
         refine aA (fun hW=>?_) (fun hW=>?_)
         ·simp only[go_sem,qC,qG,qW,h1,e1,h2,e2,h6,e6,h5,h101,h102,h103,hc2,hc6,h130];exact bad (by simp[lH,hW])
         simp only[go_sem,qC,qG,qW,h1,e1,h2,e2,h6,e6,h5,h101,h102,h103,hc2,hc6,h130,h',hm]
         refine aA (fun hM=>?_) (fun hM=>?_)
         ·simp only[go_sem,qC,qG,qW,h1,e1,h2,e2,h6,e6,h5,h101,h102,h103,hc2,hc6,h130]
          refine⟨_,_,_,rfl,?_⟩
          simp only[go_sem,qW,h1,e1,h2,e2,h6,e6,h5,h101,h102,h103,hc2,hc6,h130,aJ h' hs.1.objs];have hM': ¬fR s k=2:=by rw[dV hm];simpa using hM
          exact next (by simp[lH,hW,iJ,hM'])
         ·have hm2:fR s k=2:=by rw[dV hm];simpa using hM
          simp only[go_sem,qC,qG,qW,h1,e1,h2,e2,h6,e6,h5,h101,h102,h103,hc2,hc6,h130,h',hm,(uP _).ret]
          refine aA8 (f:=107) (x:=[]) (y:=[.fp [.int .i64 s.world.objs[k].form,.int .i64 s.world.objs[k].n,.fz (s.world.objs[k].vals.map aG.enc),.fz (s.world.objs[k].frames.map aC.enc)] 0]) (by simp only[go_sem,qW]) ?_
          intro fr0 key hfr0 hkey;have q1:fr0 1= .ptr ⟨0,1,0⟩ 0:=by rw[hfr0];simp only[go_sem,qW,h1,e1,h2,e2,h6,e6,h5,h101,h102,h103,hc2,hc6,h130]
          have q2:fr0 2= .ptr ⟨0,2,0⟩ 0:=by rw[hfr0];simp only[go_sem,qW,h1,e1,h2,e2,h6,e6,h5,h101,h102,h103,hc2,hc6,h130]
          have q5:fr0 5= .int .i64 k:=by rw[hfr0];simp only[go_sem,qW,h1,e1,h2,e2,h6,e6,h5,h101,h102,h103,hc2,hc6,h130]
          obtain⟨gk,rfl⟩: ∃gk,key=⟨1,0,gk⟩:=⟨_,hkey⟩
          have hino:=hin _ (bXn h');rw[<-k3]at hino;rw[<-dH h']at hino⊢;obtain⟨c0,hc0⟩: ∃c0,c0=aQ cnt 1 0 (cnt 1 0+1) 0:=⟨_,rfl⟩
          have hcc:1<=c0 2:=by rw[hc0];simpa[aQ]using hc2
          have hr:=aK3 s k (gk:=gk) (c0:=c0) hm2 q1 q2 q5 (fun x hx=>hino x ((kG _ _).2 hx)) hcc
          rw[hc0]at hr
          refine(aGl (s.world.obj k) (yK (by rw[dH h'];exact hso)) hr ⟨by simp only[go_sem,qW],by simp only[go_sem,e1],by simp only[go_sem,e2],fun x hx _=>hx,fun x hx=>hx,by simpa[aQ]using hc2⟩).mono ?_
          rintro v en' cnt' (⟨i1,i2,i3,i4,i5,i6⟩|⟨i1,i3,x,hx,hb⟩)
          ·have hrow:lH s k=true:=by
            have:(iE (s.world.obj k)).all (fun r=>!iJ s k r)=true:=by
             rw[bXo];intro x hx;have:iJ s k x=false:=by
              rw[<-bYf];intro hb;exact absurd (i4 x ((kG _ _).1 hx) hb) (by simp)
             rw[this];rfl
            rw[lH,hW,this];rfl
           simp only[go_sem,qC,qG,qW,i1,i2,i3,h1,e1,h2,e2,h6,e6,h5,h101,h102,h103,hc2,hc6,h130]
           refine⟨_,_,_,rfl,?_⟩
           simp only[go_sem,qC,qG,qW,i2,i3,h1,h2,h101,h102,h103,aJ h' hs.1.objs];exact⟨i6,next hrow⟩
          ·have hrow:lH s k=false:=by
            have:(iE (s.world.obj k)).all (fun r=>!iJ s k r)=false:=by
             rw[bZ6];exact⟨x,(kG _ _).2 hx,by simp[hb]⟩
            rw[lH,hW,this];rfl
           simp only[go_sem,qC,qG,qW,i1,i3,h2];exact bad hrow
      ·have:k=s.world.objs.length:=by simp at hq;omega
       subst this;simp only[go_sem,qC,qG,qW,h1,e1,h2,e2,h101,h102,h103,hc2];rw[bXo.2 fun i hi=>hR i (by simpa using hi)]
   ·simp only[go_sem,qC,qG,qW,g1,g2,g3]
    simp at g3
    simp[jX,inR];intros;omega
  ·simp only[go_sem,qC,qG,qW,g1,g2]
   simp at g2
   simp[jX];intros;omega
 ·simp only[go_sem,qC,qG,qW,g1]
  simp at g1
  simp[jX];intros;omega
theorem zF (p:aP)(s:aX)(hp:p.few)(hs:s.few)(hsp:aT p=true)(hsm:aY s.world=true):PC L 31 [.agg [.fz (p.nodes.map aK.enc),.fz (p.funs.map (.int .i64)),.int .i64 p.main,.fz (p.cons.map bE.enc)],.agg [.fz (s.world.objs.map aI.enc),.fz (s.world.tasks.map (.int .i64)),.fz (s.world.outs.map aN.enc),.fz (s.world.ins.map (.int .i64)),.int .i64 s.world.used,.fz (s.ages.map (.int .i64)),.fz (s.marks.map (.int .i64)),.int .i64 s.cycle]] (.int .i64 (if cE p s then 0 else 2)):=by
 refine aL bUh rfl rfl ?_
 simp only[go_sem,qC,qG,qW,bCd,(sW p s.world hp hs.1 hsp).ret]
 by_cases hg:eV p s.world=true
 ·simp only[hg,if_true];simp only[go_sem,qC,qG,qW,(aH7 s hs hsm (aBm hg)).ret]
  refine aA (fun h=>?_) (fun h=>?_)
  ·simp only[go_sem,qC,qG,qW];have:(jX s&&lJ s)=false:=by rw[bYh]at h;exact h
   rw[cE,hg,bX0,this];rfl
  ·simp only[go_sem,qC,qG,qW];have:(jX s&&lJ s)=true:=by rw[bZ5]at h;exact h
   rw[cE,hg,bX0,this];rfl
 ·simp only[hg];simp only[go_sem,qC,qG,qW];simp only[bYf]at hg;rw[cE,hg];rfl
theorem aUw {L:cV}{c:cD}{st:St}{Q:Ex->St->Prop}(M:St->Prop)(h:Wp L c st fun e st'=>e= .normal/\ M st')(k: ∀fr en cnt,M ⟨fr,en,cnt⟩->Q .normal ⟨fr,en,cnt⟩):Wp L c st Q:=
 Go.Abs.wp_mono c h fun e s hs=>by obtain⟨rfl,hs⟩:=hs;exact k _ _ _ hs
def qB (ages:List Int)(r:Int):Int:=ages.getD r.toNat 0
def dI (young:Int->Bool)(w:aB)(ages:List Int)(c:Int)(i:Nat):Int:=
 if bF (w.obj i)=true then 1
 else if(!decide (c=3)&&decide (qB ages i=2))=true then(if(iE (w.obj i)).any (fun r=>young (qB ages r))=true then 1 else 2)
 else 0
theorem xD {l:List Int}{k:Nat}(h:k<l.length):qB l k=l[k]:=by simp[qB,bXm,h]
def lt2 (a:Int):Bool:=decide (a<2)
def gH (young:Int->Bool)(w:aB)(ages:List Int)(c:Int):List Int:=(List.range w.objs.length).map (dI young w ages c)
theorem aUx {xs cs:List Val}:(Val.agg (.fz xs::cs)).flat=false:=(rfl)
theorem aWv {en:En}{k:Key}:W.apply en (.frz k)=(match en k with
  |some e=>en.set k (some e.freeze)
  |none=>en):=(rfl)
theorem bDd {n:Nat}{cs:List Val}{f:Bool}:Ent.freeze (.blk n cs f)= .blk n cs true:=(rfl)
theorem bDe {cs:List Val}{f:Bool}:Ent.freeze (.box cs f)= .box cs true:=(rfl)
def dJ (n:Nat):List Int:=List.replicate n 0
def xE (size:Nat):List Val->Val
 |[]=> .cl []
 |x::xs=> .own size (x::xs)
theorem aZ4 :dA .neq .map .nilm .nilm=some (.bool false):=(rfl)
theorem aC5 {b:Bool}:dA .eql .slice (.es b) (.es true)=some (.bool b):=(rfl)
theorem aK4 {x:Val}{xs:List Val}:dA .eql .slice (.fz (x::xs)) (.es true)=some (.bool false):=(rfl)
section
variable {L :cV}{fr:Nat->Val}{en:En}{cnt:Nat->Nat->Nat}{Q:St->Prop}{l:List bH}{d size:Nat}{x y:Opd}
theorem xF {b:Bool}(hx:St.get fr x= .cl [])(hy:St.get fr y= .es b)(k:jC L l ⟨kB fr d (.cl []),en,cnt⟩ Q):jC L (⟨some d,.append size x y,none⟩::l) ⟨fr,en,cnt⟩ Q:=by
 rw[aMq (by rfl)]
 simp only[bX3,cT,eval,hx,hy,jP,cZ,if_true,List.isEmpty_nil,aIr,iN];exact k
theorem uV {z:Val}{zs:List Val}(hx:St.get fr x= .cl [])(hy:St.get fr y= .fz (z::zs))(h1:cZ size (z::zs)=true)(hl:(z::zs).length<=16777216)
  (k:jC L l ⟨kB fr d (.bl ⟨0,d,cnt 0 d⟩ 0 (z::zs).length),en.set ⟨0,d,cnt 0 d⟩ (some (.blk size (z::zs) false)),aQ cnt 0 d (cnt 0 d+1)⟩ Q):jC L (⟨some d,.append size x y,none⟩::l) ⟨fr,en,cnt⟩ Q:=by
 rw[aMq (by rfl)]
 have he:jP en (.fz (z::zs))=some (z::zs,[]):=aY9;simp only[bX3,cT,eval,hx,hy,he,h1,if_true,List.isEmpty_cons,bXc,if_false];rw[if_pos ⟨by simpa using hl,rfl⟩]
 simp only[aCs,mY,iN,tH,bYb,bX2,bYw];exact k
end
theorem jZ (xs:List Val)(h1:cZ 1 xs=true)(hl:xs.length<=16777216):PC L 62 [.fz xs] (xE 1 xs):=by
 cases xs with
 |nil=>
  refine aPk bI7 rfl rfl (.inl rfl) (uI ?_) (uI ?_)
  ·simp only[go_sem,qC,qG,qW,aWf,aC5];rfl
  ·simp only[go_sem,qC,qG,qW,aWf,aC5]
   refine xF (b:=false) (by simp only[go_sem,qW]) (by simp only[go_sem,qW]) ?_
   simp only[go_sem,qC,qG,qW];rfl
 |cons x xs=>
  refine aL bI7 rfl rfl ?_
  simp only[go_sem,qC,qG,qW,aWf,aK4]
  refine uV (by simp only[go_sem,qW]) (by simp only[go_sem,qW]) h1 hl ?_
  simp only[go_sem,qC,qG,qW];rfl
theorem aBp (xs:List Val)(h1:cZ 2 xs=true)(hl:xs.length<=16777216):PC L 109 [.fz xs] (xE 2 xs):=by
 cases xs with
 |nil=>
  refine aPk bEd rfl rfl (.inl rfl) (uI ?_) (uI ?_)
  ·simp only[go_sem,qC,qG,qW,aIy,aC5];rfl
  ·simp only[go_sem,qC,qG,qW,aIy,aC5]
   refine xF (b:=false) (by simp only[go_sem,qW]) (by simp only[go_sem,qW]) ?_
   simp only[go_sem,qC,qG,qW];rfl
 |cons x xs=>
  refine aL bEd rfl rfl ?_
  simp only[go_sem,qC,qG,qW,aIy,aK4]
  refine uV (by simp only[go_sem,qW]) (by simp only[go_sem,qW]) h1 hl ?_
  simp only[go_sem,qC,qG,qW];rfl
theorem qK (xs:List Val)(h1:cZ 2 xs=true)(hl:xs.length<=16777216):PC L 144 [.fz xs] (xE 2 xs):=by
 cases xs with
 |nil=>
  refine aPk bEh rfl rfl (.inl rfl) (uI ?_) (uI ?_)
  ·simp only[go_sem,qC,qG,qW,aI0,aC5];rfl
  ·simp only[go_sem,qC,qG,qW,aI0,aC5]
   refine xF (b:=false) (by simp only[go_sem,qW]) (by simp only[go_sem,qW]) ?_
   simp only[go_sem,qC,qG,qW];rfl
 |cons x xs=>
  refine aL bEh rfl rfl ?_
  simp only[go_sem,qC,qG,qW,aI0,aK4]
  refine uV (by simp only[go_sem,qW]) (by simp only[go_sem,qW]) h1 hl ?_
  simp only[go_sem,qC,qG,qW];rfl
theorem aJb {size:Nat}{xs:List Val}(h:xs≠[]):xE size xs= .own size xs:=by cases xs<;>first|rfl|exact absurd rfl h
theorem aEc (l:List aG):cZ 2 (l.map aG.enc)=true:=by cases l<;>rfl
theorem aEd (l:List aN):cZ 2 (l.map aN.enc)=true:=by cases l<;>rfl
theorem lK (l:List Int):cZ 1 (l.map (Val.int .i64))=true:=by cases l<;>rfl
theorem pC (l:List aG)(hl:l.length<=16777216):PC L 143 [.fz (l.map aG.enc),.fp [.nilm] 0] (.fz (l.map aG.enc)):=by
 have hf:Few l.length:=by unfold Few;omega
 have hc:=qK (l.map aG.enc) (aEc l) (by simpa using hl)
 refine aL bEg rfl rfl ?_
 by_cases h0:l=[]
 ·subst h0;have hc0:=qK [] rfl (by simp)
  simp only[go_sem,qC,qG,qW,aF6,bXv,hc0.ret,show xE 2 []= .cl []from rfl]
  refine bD (0) (fun k st=> ∃fr en cnt,st=⟨fr,en,cnt⟩/\ (fr 0= .cl [])/\ (fr 8= .int .i64 0)/\ (fr 9= .int .i64 k)) 0 (bXl _) ⟨_,_,_,rfl,(by first|(simp only[go_sem,qW];(try rfl);done)|rfl|simp),(by first|(simp only[go_sem,qW];(try rfl);done)|rfl|simp),(by first|(simp only[go_sem,qW];(try rfl);done)|rfl|simp)⟩ ?_
  rintro k st hk ⟨fr,en,cnt,rfl,h0,h8,h9⟩
  simp only[go_sem,qC,qG,qW,h0,h8,h9];have:k=0:=by omega
  subst this;simp only[go_sem,qC,qG,qW,h0,h8,h9]
 ·have h0':l.map aG.enc≠[]:=by simpa using h0
  rw[aJb h0']at hc;simp only[go_sem,qC,qG,qW,aF6,hc.ret]
  refine bD (l.length) (fun k st=> ∃fr en cnt,st=⟨fr,en,cnt⟩/\ (fr 0= .bl ⟨0,6,0⟩ 0 l.length)/\ (en ⟨0,6,0⟩=some (.blk 2 (l.map aG.enc) false))/\ (fr 1= .fp [.nilm] 0)/\ (fr 8= .int .i64 l.length)/\ (fr 9= .int .i64 k)) 0 (bXl _) ⟨_,_,_,rfl,(by first|(simp only[go_sem,h0,h8,h9];(try rfl);done)|rfl|simp),(by first|(simp only[go_sem,h0,h8,h9];(try rfl);done)|rfl|simp),(by first|(simp only[go_sem,h0,h8,h9];(try rfl);done)|rfl|simp),(by first|(simp only[go_sem,h0,h8,h9];(try rfl);done)|rfl|simp),(by first|(simp only[go_sem,h0,h8,h9];(try rfl);done)|rfl|simp)⟩ ?_
  rintro k st hk ⟨fr,en,cnt,rfl,h0,e6,h1,h8,h9⟩
  simp only[go_sem,qC,qG,qW,h0,e6,h1,h8,h9]
  refine aA (fun hq=>?_) (fun hq=>?_)
  ·have h':k<l.length:=of_decide_eq_true hq;have hx:(l.map aG.enc)[k]?=some (aG.enc l[k]):=by simp[h']
   have hc1:(0:Int)<=(k:Int):=by omega
   have hc2:(k:Int)<(l.length:Int):=by omega
   simp only[go_sem,qC,qG,qW,h0,e6,h1,h8,h9,h',hx,hc1,hc2,true_and,and_true,eq_self,if_true,bX2,bXx]
   refine aE (fun hg=>?_) (fun hg=>?_)
   ·simp only[go_sem,qC,qG,qW,hg,h0,e6,h1,h8,h9,h',hx,hc1,hc2,true_and,and_true,eq_self,if_true,bX2,bXx]
    try simp only[go_sem,qC,qG,qW,aZ4,h0,e6,h1,h8,h9]
    refine⟨_,_,_,rfl,?_⟩
    simp only[go_sem,qW,h0,e6,h1,h8,h9,aJ h' hf]
   ·simp only[go_sem,qC,qG,qW,hg,h0,e6,h1,h8,h9]
    refine⟨_,_,_,rfl,?_⟩
    simp only[go_sem,qW,h0,e6,h1,h8,h9,aJ h' hf]
  ·simp only[go_sem,qC,qG,qW,h0,e6,h1,h8,h9,bXd,if_true];rw[bXs (by simp)]
theorem aZ5 {k k':Key}:gE (.frz k) (.val k')=true:=rfl
theorem aZ6 {k k':Key}{o n:Nat}:gE (.frz k) (.cells k' o n)=true:=rfl
theorem aZ7 {k k':Key}:kS (.frz k) (.frz k')=true:=rfl
theorem aZ8 {k k':Key}{e:Option Ent}:kS (.frz k) (.ent k' e)=decide (k≠k'):=rfl
theorem aZ9 {k k':Key}{o:Nat}{vs:List Val}:kS (.frz k) (.cells k' o vs)=decide (k≠k'):=rfl
theorem bAa {k k':Key}:gE (.frz k) (.flag k')=decide (k≠k'):=rfl
theorem aWw {k k':Key}{o:Nat}{vs:List Val}:kS (.cells k o vs) (.frz k')=decide (k≠k'):=rfl
theorem bAb {xs:List Val}:(Val.fz xs).flat=false:=(rfl)
attribute [go_sem] aZ5 aZ6 aZ7 aZ8 aZ9 bAa aWw bAb aUx aWv bDd bDe
theorem aAi (o:aI)(hs:dE o=true):PC L 110 [.agg [.int .i64 o.form,.int .i64 o.n,.fz (o.vals.map aG.enc),.fz (o.frames.map aC.enc)],.nilm] (.agg [.int .i64 o.form,.int .i64 o.n,.fz (o.vals.map aG.enc),.fz (o.frames.map aC.enc)]):=by
 obtain⟨b1,b2,b3⟩:=pB hs;have hf:Few o.frames.length:=by unfold Few;omega
 refine aL bEe rfl rfl ?_
 simp only[go_sem,qC,qG,qW,aM2,iO (v:= .nilm) rfl rfl]
 refine aO ?_
 simp only[go_sem,qC,qG,qW,bXe,bXf,bXh,bXi,bXg,bXc,if_false,(pC o.vals (by omega)).ret]
 refine bD o.frames.length (fun k st=> ∃fr en cnt v,st=⟨fr,en,cnt⟩/\ fr 4= .ptr ⟨0,4,0⟩ 0/\ en ⟨0,4,0⟩=some (.box [.int .i64 0,.int .i64 0,.cl [],.cl []] false)/\ en ⟨0,3,0⟩=some (.box [.nilm] true)/\ fr 5= .fn 143 [] [.ptr ⟨0,3,0⟩ 0]/\ fr 6= .ptr ⟨0,6,0⟩ 0/\ en ⟨0,6,0⟩=some (.box [.int .i64 o.form,.int .i64 o.n,.fz (o.vals.map aG.enc),v] false)/\ fr 20= .fz (o.frames.map aC.enc)/\ fr 21= .int .i64 o.frames.length/\ fr 22= .int .i64 k/\ cG en v 3 ((o.frames.take k).map aC.enc) [40]) 0 (bXl _) ⟨_,_,_,.cl [],rfl,by simp only[go_sem,qW],by simp only[go_sem,qW],by simp only[go_sem,qW],by simp only[go_sem,qW],by simp only[go_sem,qW],by simp only[go_sem,qW],by simp only[go_sem,qW],by simp only[go_sem,qW],by simp only[go_sem,qW],cG.nil _ _⟩ ?_
 rintro k st hk ⟨fr,en,cnt,v,rfl,h4,e4,e3,h5,h6,e6,h20,h21,h22,hv⟩
 simp only[go_sem,qC,qG,qW,h4,e4,e3,h5,h6,e6,h20,h21,h22]
 refine aA (fun hq=>?_) (fun hq=>?_)
 ·have h':k<o.frames.length:=of_decide_eq_true hq;have hb:=b3 _ (bXn h');simp only[go_sem,qC,qG,qW,h',h4,e4,e3,h5,h6,e6,h20,h21,h22]
  refine aO ?_
  simp only[go_sem,qC,qG,qW,h',h4,e4,e3,h5,h6,e6,h20,h21,h22,bXe,bXf,bXh,bXi,bXg,bXc,if_false,(pC _ (show o.frames[k].env.length<=16777216 by omega)).ret,(pC _ (show o.frames[k].vals.length<=16777216 by omega)).ret]
  refine nM (D:=[40]) (xs:=(o.frames.take k).map aC.enc) (ys:=[aC.enc o.frames[k]]) (rs:=[]) ?_ ?_ ?_ rfl ?_ ?_
  ·simp only[go_sem,qW];exact hv.keep fun t g ht=>by simp at ht;subst ht;simp only[go_sem,qW]
  ·simp only[go_sem,qW]
  ·rfl
  ·simp;omega
  ·intro v' en' cnt' r hown hen hcnt _ _ _;have k3:en' ⟨0,3,0⟩=some (.box [.nilm] true):=by rw[hen 0 3 0 (.inr ⟨by decide,by simp⟩)];simp only[go_sem,qW,e3]
   have k4:en' ⟨0,4,0⟩=some (.box [.int .i64 0,.int .i64 0,.cl [],.cl []] false):=by rw[hen 0 4 0 (.inr ⟨by decide,by simp⟩)];simp only[go_sem,qW,e4]
   have k6:en' ⟨0,6,0⟩=some (.box [.int .i64 o.form,.int .i64 o.n,.fz (o.vals.map aG.enc),v] false):=by rw[hen 0 6 0 (.inr ⟨by decide,by simp⟩)];simp only[go_sem,qW,e6]
   obtain⟨s1,s2⟩:=hown.shape;simp only[go_sem,qC,qG,qW,h4,k4,k3,h5,h6,k6,h20,h21,h22,s1,s2,bXe,bXf,bXh,bXi,bXg,bXc,if_false]
   refine⟨_,_,_,v',rfl,?_⟩
   simp only[go_sem,qC,qG,qW,h4,k4,k3,h5,h6,k6,h20,h21,h22,aJ h' hf];rw[dF h',bXw]
   refine cG.sub (D:=[40,40]) (cG.keep (en:=en') hown ?_) (by simp)
   intro t g ht;simp at ht;subst ht;simp only[go_sem,qW]
 ·have:k=o.frames.length:=by simp at hq;omega
  subst this;rw[bYc]at hv;simp only[go_sem,qC,qG,qW,h4,e4,e3,h5,h6,e6,h20,h21,h22];obtain⟨r,ks,s1,s2,_⟩:=(hv.keep (en':=en.set ⟨0,4,0⟩ (some (.box [.int .i64 o.form,.int .i64 o.n,.fz (o.vals.map aG.enc),v] false))) fun t g ht=>by simp at ht;subst ht;simp only[go_sem,qW]).snap 6
  simp only[go_sem,qC,qG,qW,s1,s2]
theorem dC {xs:List Val}:(Val.cl xs).one=true:=(rfl)
theorem bR {xs:List Val}:(Val.cl xs).cells=[.cl xs]:=(rfl)
theorem cW {k:Key}{a b:Nat}:(Val.bl k a b).one=true:=(rfl)
theorem bL {k:Key}{a b:Nat}:(Val.bl k a b).cells=[.bl k a b]:=(rfl)
theorem aUy {a b:IntKind}{i j:Int}{xs:List Val}{cs:List Val}:(Val.agg (.int a i:: .int b j:: .fz xs::cs)).flat=false:=(rfl)
theorem aEy {en:En}{t g n size:Nat}{xs:List Val}{f:Bool}(h:en ⟨0,t,g⟩=some (.blk size xs f))(hx:n=xs.length):cG en (.bl ⟨0,t,g⟩ 0 n) size xs [t]:= .inr ⟨t,g,f,by rw[hx],h,by simp⟩
theorem iQ (size:Nat)(xs:List Val):(xs=[]/\ xE size xs= .cl []) \/(xs≠[]/\ xE size xs= .own size xs):=by
 cases xs with
 |nil=>exact .inl ⟨rfl,rfl⟩
 |cons x xs=>exact .inr ⟨by simp,rfl⟩
theorem qL {α:Type}{f:α->Val}{l:List α}:(l.map f).take l.length=l.map f:=bXs (by simp)
theorem iY {w:aB}(h:aY w=true):w.objs.length<=130/\ w.tasks.length<=130/\ w.outs.length<=110/\ w.ins.length<=60:=by
 simp only[aY,bXb,cAg]at h;omega
theorem oH (w:aB)(hw:w.few)(hs:aY w=true):PC L 75 [.agg [.fz (w.objs.map aI.enc),.fz (w.tasks.map (.int .i64)),.fz (w.outs.map aN.enc),.fz (w.ins.map (.int .i64)),.int .i64 w.used]] (.agg [.fz (w.objs.map aI.enc),.fz (w.tasks.map (.int .i64)),.fz (w.outs.map aN.enc),.fz (w.ins.map (.int .i64)),.int .i64 w.used]):=by
 obtain⟨b1,b2,b3,b4⟩:=iY hs;have c1:=jZ (w.tasks.map (.int .i64)) (lK _) (by simp;omega)
 have c2:=aBp (w.outs.map aN.enc) (aEd _) (by simp;omega)
 have c3:=jZ (w.ins.map (.int .i64)) (lK _) (by simp;omega)
 refine aL bU1 rfl rfl ?_
 simp only[go_sem,qC,qG,qW,bCu]
 refine aUw (fun st=>st.fr 2= .ptr ⟨0,2,0⟩ 0/\ st.en ⟨0,2,0⟩=some (.box [.cl [],.cl [],.cl [],.cl [],.int .i64 0] false)/\ st.fr 1= .ptr ⟨0,1,0⟩ 0/\ st.en ⟨0,1,0⟩=some (.box [.fz (w.objs.map aI.enc),.fz (w.tasks.map (.int .i64)),.fz (w.outs.map aN.enc),.fz (w.ins.map (.int .i64)),.int .i64 w.used] false)/\ st.fr 3= .ptr ⟨0,3,0⟩ 0/\
  ∃vT vO vI,st.en ⟨0,3,0⟩=some (.box [.cl [],vT,vO,vI,.int .i64 w.used] false)/\ cG st.en vT 1 (w.tasks.map (.int .i64)) [8]/\ cG st.en vO 2 (w.outs.map aN.enc) [11]/\ cG st.en vI 1 (w.ins.map (.int .i64)) [14]) ?_ ?_
 ·refine aO ?_
  rcases iQ 1 (w.tasks.map (Val.int .i64))with⟨t1,t2⟩|⟨t1,t2⟩<;>rw[t2]at c1<;>
  rcases iQ 2 (w.outs.map aN.enc)with⟨o1,o2⟩|⟨o1,o2⟩<;>rw[o2]at c2<;>
  rcases iQ 1 (w.ins.map (Val.int .i64))with⟨i1,i2⟩|⟨i1,i2⟩<;>rw[i2]at c3
  all_goals simp only[go_sem,qC,qG,qW,bXe,bXf,bXh,bXi,bXg,bXc,if_false,bX3,c1.ret,c2.ret,c3.ret,bXj,bXd,if_true,qL,dC,bR,cW,bL]
  all_goals refine⟨_,_,_,rfl,?_,?_,?_⟩
  all_goals first
   |exact .inl ⟨rfl,by assumption⟩
   |exact aEy (by simp only[go_sem,qW];try rfl) (by simp only[bXj])
 ·rintro fr en cnt ⟨h2,e2,h1,e1,h3,vT,vO,vI,e3,mT,mO,mI⟩
  dsimp only at h2 e2 h1 e1 h3 e3 mT mO mI;simp only[go_sem,qC,qG,qW,h2,e2,h1,e1,h3,e3]
  refine bD w.objs.length (fun k st=> ∃fr en cnt v,st=⟨fr,en,cnt⟩/\ fr 2= .ptr ⟨0,2,0⟩ 0/\ en ⟨0,2,0⟩=some (.box [.cl [],.cl [],.cl [],.cl [],.int .i64 0] false)/\ fr 3= .ptr ⟨0,3,0⟩ 0/\ en ⟨0,3,0⟩=some (.box [v,vT,vO,vI,.int .i64 w.used] false)/\ fr 19= .fz (w.objs.map aI.enc)/\ fr 20= .int .i64 w.objs.length/\ fr 21= .int .i64 k/\
   cG en vT 1 (w.tasks.map (.int .i64)) [8]/\ cG en vO 2 (w.outs.map aN.enc) [11]/\ cG en vI 1 (w.ins.map (.int .i64)) [14]/\ cG en v 4 ((w.objs.take k).map aI.enc) [30]) 0 (bXl _) ⟨_,_,_,.cl [],rfl,by simp only[go_sem,h2],by simp only[go_sem,e2],by simp only[go_sem,h3],by simp only[go_sem,e3],by simp only[go_sem,qW],by simp only[go_sem,qW],by simp only[go_sem,qW],mT,mO,mI,cG.nil _ _⟩ ?_
  rintro k st hk ⟨fr,en,cnt,v,rfl,h2,e2,h3,e3,h19,h20,h21,mT,mO,mI,hv⟩
  simp only[go_sem,qC,qG,qW,h2,e2,h3,e3,h19,h20,h21]
  refine aA (fun hq=>?_) (fun hq=>?_)
  ·have h':k<w.objs.length:=of_decide_eq_true hq;have hso:=jY hs _ (bXn h');simp only[go_sem,qC,qG,qW,h',h2,e2,h3,e3,h19,h20,h21]
   refine aO ?_
   simp only[go_sem,qC,qG,qW,h',h2,e2,h3,e3,h19,h20,h21,bXe,bXf,bXh,bXi,bXg,bXc,if_false,aUy,(aAi _ hso).ret]
   refine nM (D:=[30]) (xs:=(w.objs.take k).map aI.enc) (ys:=[aI.enc w.objs[k]]) (rs:=[]) ?_ ?_ ?_ rfl ?_ ?_
   ·simp only[go_sem,qW];exact hv.keep fun t g ht=>by simp at ht;subst ht;simp only[go_sem,qW]
   ·simp only[go_sem,qW]
   ·rfl
   ·simp;omega
   ·intro v' en' cnt' r hown hen hcnt _ _ _;have k2:en' ⟨0,2,0⟩=some (.box [.cl [],.cl [],.cl [],.cl [],.int .i64 0] false):=by rw[hen 0 2 0 (.inr ⟨by decide,by simp⟩)];simp only[go_sem,qW,e2]
    have k3:en' ⟨0,3,0⟩=some (.box [v,vT,vO,vI,.int .i64 w.used] false):=by rw[hen 0 3 0 (.inr ⟨by decide,by simp⟩)];simp only[go_sem,qW,e3]
    obtain⟨s1,s2⟩:=hown.shape;simp only[go_sem,qC,qG,qW,h2,k2,h3,k3,h19,h20,h21,s1,s2,bXe,bXf,bXh,bXi,bXg,bXc,if_false]
    refine⟨_,_,_,v',rfl,?_⟩
    simp only[go_sem,qC,qG,qW,h2,k2,h3,k3,h19,h20,h21,aJ h' hw.objs]
    refine⟨mT.keep ?_,mO.keep ?_,mI.keep ?_,?_⟩
    ·intro t g ht;simp at ht;subst ht;rw[eE (by simp),hen 0 8 g (.inr ⟨by decide,by simp⟩)];simp only[go_sem,qW]
    ·intro t g ht;simp at ht;subst ht;rw[eE (by simp),hen 0 11 g (.inr ⟨by decide,by simp⟩)];simp only[go_sem,qW]
    ·intro t g ht;simp at ht;subst ht;rw[eE (by simp),hen 0 14 g (.inr ⟨by decide,by simp⟩)];simp only[go_sem,qW]
    ·rw[dF h',bXw]
     refine cG.sub (D:=[30,30]) (cG.keep (en:=en') hown ?_) (by simp)
     intro t g ht;simp at ht;subst ht;simp only[go_sem,qW]
  ·have:k=w.objs.length:=by simp at hq;omega
   subst this;rw[bYc]at hv;simp only[go_sem,qC,qG,qW,h2,e2,h3,e3,h19,h20,h21,mT.shape.1,mT.shape.2,mO.shape.1,mO.shape.2,mI.shape.1,mI.shape.2,hv.shape.1,hv.shape.2];obtain⟨r1,ks1,s1,s1',_⟩:=(hv.keep (en':=en.set ⟨0,2,0⟩ (some (.box [v,vT,vO,vI,.int .i64 w.used] false))) fun t g ht=>by simp at ht;subst ht;simp only[go_sem,qW]).snap 6
   obtain⟨r2,ks2,s2,s2',_⟩:=(mT.keep (en':=en.set ⟨0,2,0⟩ (some (.box [v,vT,vO,vI,.int .i64 w.used] false))) fun t g ht=>by simp at ht;subst ht;simp only[go_sem,qW]).snap 6
   obtain⟨r3,ks3,s3,s3',_⟩:=(mO.keep (en':=en.set ⟨0,2,0⟩ (some (.box [v,vT,vO,vI,.int .i64 w.used] false))) fun t g ht=>by simp at ht;subst ht;simp only[go_sem,qW]).snap 6
   obtain⟨r4,ks4,s4,s4',_⟩:=(mI.keep (en':=en.set ⟨0,2,0⟩ (some (.box [v,vT,vO,vI,.int .i64 w.used] false))) fun t g ht=>by simp at ht;subst ht;simp only[go_sem,qW]).snap 6
   simp only[go_sem,qC,qG,qW,s1,s2,s3,s4,s1',s2',s3',s4']
def bZ (m:Nat->Int)(n k:Nat):List Int:=(List.range n).map fun i=>if i<k then m i else 0
theorem aBq (m:Nat->Int)(n:Nat):(bZ m n 0).map (Val.int .i64)=List.replicate n (.int .i64 0):=by
 simp[bZ,List.map_const']
theorem lL (m:Nat->Int)(n k:Nat):(bZ m n k).length=n:=by simp[bZ]
theorem aEe {m:Nat->Int}{n k:Nat}(h:k<n):((bZ m n k).map (Val.int .i64))[k]?=some (.int .i64 0):=by simp[bZ,h]
theorem xG {m:Nat->Int}{n k:Nat}:((bZ m n k).map (Val.int .i64)).set k (.int .i64 (m k))=(bZ m n (k+1)).map (.int .i64):=by
 apply bZe
 ·simp[bZ]
 ·intro i h1 h2;simp only[List.getElem_set,bZb,bZ,bZx]
  by_cases h:k=i
  ·subst h;simp
  ·rw[if_neg h]
   by_cases hi:i<k
   ·rw[if_pos hi,if_pos (by omega)]
   ·rw[if_neg hi,if_neg (by omega)]
theorem aBr {m:Nat->Int}{n k:Nat}(h0:m k=0):bZ m n (k+1)=bZ m n k:=by
 unfold bZ
 refine bYm fun i _=>?_
 by_cases h:i=k
 ·subst h;simp[h0]
 ·by_cases hi:i<k
  ·rw[if_pos hi,if_pos (by omega)]
  ·rw[if_neg hi,if_neg (by omega)]
theorem aBs (m:Nat->Int)(n:Nat):bZ m n n=(List.range n).map m:=by
 unfold bZ
 refine bYm fun i hi=>?_
 rw[if_pos (by simpa using hi)]
theorem bMm (w:aB)(i:Nat):dI lt2 w (dJ w.objs.length) 0 i=if bF (w.obj i)=true then 1 else 0:=by
 have:qB (dJ w.objs.length) (i:Int)=0:=by
  simp only[qB,dJ,bXm,List.getElem?_replicate]
  split<;>rfl
 simp[dI,this]
theorem aUz {en:En}{v:Val}{size:Nat}{xs:List Val}{D:List Nat}(h:cG en v size xs D)(hx:xs≠[])(n:Nat): ∃ks,snapD (n+1) en v=some (.fz xs,ks):=by
 rcases h with⟨_,h⟩|⟨t,g,f,rfl,h2,_⟩
 ·exact absurd h hx
 ·exact⟨[⟨0,t,g⟩],by simp[snapD,h2]⟩
theorem aP4 (w:aB)(hw:w.few)(hs:aY w=true){en:En}{cnt:Nat->Nat->Nat}{vA:Val}
  (e20:en ⟨0,20,0⟩=some (.box [.fz (w.objs.map aI.enc),.fz (w.tasks.map (.int .i64)),.fz (w.outs.map aN.enc),.fz (w.ins.map (.int .i64)),.int .i64 w.used,vA,.cl [],.int .i64 0] false)) (mA:cG en vA 1 ((dJ w.objs.length).map (.int .i64)) [17]):
  WIn L (.fn 76 [] []) [.ptr ⟨0,20,0⟩ 0] en cnt fun _ en' cnt'=> ∃g13,en' ⟨0,20,0⟩=some (.box [.fz (w.objs.map aI.enc),.fz (w.tasks.map (.int .i64)),.fz (w.outs.map aN.enc),.fz (w.ins.map (.int .i64)),.int .i64 w.used,vA,.bl ⟨0,13,g13⟩ 0 w.objs.length,.int .i64 0] false)/\ cG en' vA 1 ((dJ w.objs.length).map (.int .i64)) [17]/\ en' ⟨0,13,g13⟩=some (.blk 1 ((gH lt2 w (dJ w.objs.length) 0).map (.int .i64)) false)/\ en' ⟨0,4,0⟩=en ⟨0,4,0⟩:=by
 obtain⟨b1,b2,b3,b4⟩:=iY hs;have hmk:w.objs.length<=16777216:=by omega
 obtain⟨e4,he4⟩: ∃e,e=en ⟨0,4,0⟩:=⟨_,rfl⟩
 obtain⟨g1,hg1⟩: ∃g,g=cnt 0 1:=⟨_,rfl⟩
 obtain⟨g13,hg13⟩: ∃g,g=cnt 0 13:=⟨_,rfl⟩
 rw[<-he4]
 refine mK bI8 rfl rfl ?_
 simp only[go_sem,qC,qG,qW,aZi,iO (v:= .ptr ⟨0,20,0⟩ 0) rfl rfl,<-hg1]
 refine aO ?_
 simp only[go_sem,qC,qG,qW,bXe,bXf,bXh,bXi,bXg,bX3,aCw hmk,<-hg1,<-hg13,e20,cW,bL];have hmz:=aBq (dI lt2 w (dJ w.objs.length) 0) w.objs.length
 refine bD w.objs.length (fun k st=> ∃fr en cnt,st=⟨fr,en,cnt⟩/\ fr 1= .ptr ⟨0,1,g1⟩ 0/\ en ⟨0,1,g1⟩=some (.box [.ptr ⟨0,20,0⟩ 0] false)/\ en ⟨0,20,0⟩=some (.box [.fz (w.objs.map aI.enc),.fz (w.tasks.map (.int .i64)),.fz (w.outs.map aN.enc),.fz (w.ins.map (.int .i64)),.int .i64 w.used,vA,.bl ⟨0,13,g13⟩ 0 w.objs.length,.int .i64 0] false)/\ en ⟨0,13,g13⟩=some (.blk 1 ((bZ (dI lt2 w (dJ w.objs.length) 0) w.objs.length k).map (.int .i64)) false)/\ fr 22= .fz (w.objs.map aI.enc)/\ fr 23= .int .i64 w.objs.length/\ fr 24= .int .i64 k/\ cG en vA 1 ((dJ w.objs.length).map (.int .i64)) [17]/\ en ⟨0,4,0⟩=e4) 0 (bXl _) ⟨_,_,_,rfl,by simp only[go_sem,qW],by simp only[go_sem,qW],by simp only[go_sem,qW],by rw[hmz];simp only[go_sem,qW],by simp only[go_sem,qW],by simp only[go_sem,qW],by simp only[go_sem,qW],mA.keep (fun t g ht=>by simp at ht;subst ht;simp only[go_sem,qW]),by simp only[go_sem,he4]⟩ ?_
 clear mA e20
 rintro k st hk ⟨fr,en,cnt,rfl,h1,e1,e20,e13,h22,h23,h24,mA,q4⟩
 simp only[go_sem,qC,qG,qW,h1,e1,e20,h22,h23,h24]
 refine aA (fun hq=>?_) (fun hq=>?_)
 ·have h':k<w.objs.length:=of_decide_eq_true hq;obtain⟨g2,hg2⟩: ∃g,g=cnt 0 2:=⟨_,rfl⟩
  obtain⟨g3,hg3⟩: ∃g,g=cnt 0 3:=⟨_,rfl⟩
  have hm0:=bMm w k;rw[dH h']at hm0;have hmg:=aEe (m:=dI lt2 w (dJ w.objs.length) 0) h';have hc1:(0:Int)<=(k:Int):=by omega
  have hc2:(k:Int)<(w.objs.length:Int):=by omega
  simp only[go_sem,qC,qG,qW,h',h1,e1,e20,h22,h23,h24,<-hg2,<-hg3,(rK _).ret]
  refine aA (fun hT=>?_) (fun hT=>?_)
  ·have hset:((bZ (dI lt2 w (dJ w.objs.length) 0) w.objs.length k).map (Val.int .i64)).set k (.int .i64 1)=(bZ (dI lt2 w (dJ w.objs.length) 0) w.objs.length (k+1)).map (.int .i64):=by
    rw[<-xG,hm0,if_pos hT]
   simp only[go_sem,qC,qG,qW,h',h1,e1,e20,e13,h22,h23,h24,hc1,hc2,hmg,true_and,and_true,eq_self,if_true,bX2,bXx]
   refine⟨_,_,_,rfl,?_⟩
   simp only[go_sem,qC,qG,qW,h',h1,e1,e20,e13,h22,h23,h24,hset,aJ h' hw.objs];exact⟨mA.keep (fun t g ht=>by simp at ht;subst ht;simp only[go_sem,qW]),q4⟩
  ·have hskip:bZ (dI lt2 w (dJ w.objs.length) 0) w.objs.length (k+1)=bZ (dI lt2 w (dJ w.objs.length) 0) w.objs.length k:=aBr (by rw[hm0,if_neg (by rw[hT];decide)])
   obtain⟨ks,s1⟩:=aUz (mA.keep (en':=((((en.set ⟨0,2,g2⟩ (some (.box [.int .i64 0] false))).set ⟨0,3,g3⟩ (some (.box [.int .i64 0,.int .i64 0,.cl [],.cl []] false))).set ⟨0,2,g2⟩ (some (.box [.int .i64 k] false))).set ⟨0,3,g3⟩ (some (.box [.int .i64 w.objs[k].form,.int .i64 w.objs[k].n,.fz (w.objs[k].vals.map aG.enc),.fz (w.objs[k].frames.map aC.enc)] false)))) fun t g ht=>by simp at ht;subst ht;simp only[go_sem,qW]) (by intro h;have hh:((dJ w.objs.length).map (Val.int .i64)).length=0:=by{rw[h];rfl};rw[bXj,dJ,List.length_replicate]at hh;omega) 6
   have htk:((bZ (dI lt2 w (dJ w.objs.length) 0) w.objs.length k).map (Val.int .i64)).take w.objs.length=(bZ (dI lt2 w (dJ w.objs.length) 0) w.objs.length k).map (.int .i64):=bXs (by simp[lL])
   have hfull:PC L 116 [.fp [.fz (w.objs.map aI.enc),.fz (w.tasks.map (.int .i64)),.fz (w.outs.map aN.enc),.fz (w.ins.map (.int .i64)),.int .i64 w.used,.fz ((dJ w.objs.length).map (.int .i64)),.fz ((bZ (dI lt2 w (dJ w.objs.length) 0) w.objs.length k).map (.int .i64)),.int .i64 0] 0] (.bool (decide ((0:Int)=3))):=uU ⟨w,dJ w.objs.length,bZ (dI lt2 w (dJ w.objs.length) 0) w.objs.length k,0⟩;have hz:k<(dJ w.objs.length).length:=by simpa[dJ]using h'
   have hold:PC L 117 [.fp [.fz (w.objs.map aI.enc),.fz (w.tasks.map (.int .i64)),.fz (w.outs.map aN.enc),.fz (w.ins.map (.int .i64)),.int .i64 w.used,.fz ((dJ w.objs.length).map (.int .i64)),.fz ((bZ (dI lt2 w (dJ w.objs.length) 0) w.objs.length k).map (.int .i64)),.int .i64 0] 0,.int .i64 k] (.bool (decide ((dJ w.objs.length)[k]=2))):=sE ⟨w,dJ w.objs.length,bZ (dI lt2 w (dJ w.objs.length) 0) w.objs.length k,0⟩ k hz;have hz0:(dJ w.objs.length)[k]=0:=by simp[dJ]
   rw[hz0]at hold;simp only[go_sem,qC,qG,qW,h',h1,e1,e20,e13,h22,h23,h24,s1,htk,bXj,lL,bXd,if_true,hfull.ret,hold.ret]
   refine⟨_,_,_,rfl,?_⟩
   simp only[go_sem,qC,qG,qW,h',h1,e1,e20,e13,h22,h23,h24,hskip,aJ h' hw.objs];exact⟨mA.keep (fun t g ht=>by simp at ht;subst ht;simp only[go_sem,qW]),q4⟩
 ·have:k=w.objs.length:=by simp at hq;omega
  subst this;rw[aBs]at e13;simp only[go_sem,qC,qG,qW];exact⟨g13,e20,mA,e13,q4⟩
theorem aH8 (p:aP)(w:aB)(hp:p.few)(hw:w.few)(hsp:aT p=true)(hs:aY w=true):
  PC L 30 [.agg [.fz (p.nodes.map aK.enc),.fz (p.funs.map (.int .i64)),.int .i64 p.main,.fz (p.cons.map bE.enc)],.agg [.fz (w.objs.map aI.enc),.fz (w.tasks.map (.int .i64)),.fz (w.outs.map aN.enc),.fz (w.ins.map (.int .i64)),.int .i64 w.used]] (if eV p w=true then .tup [.agg [.fz (w.objs.map aI.enc),.fz (w.tasks.map (.int .i64)),.fz (w.outs.map aN.enc),.fz (w.ins.map (.int .i64)),.int .i64 w.used,.fz ((dJ w.objs.length).map (.int .i64)),.fz ((gH lt2 w (dJ w.objs.length) 0).map (.int .i64)),.int .i64 0],.int .i64 0]
   else .tup [.agg [.fz [],.fz [],.fz [],.fz [],.int .i64 0,.fz [],.fz [],.int .i64 0],.int .i64 2]):=by
 obtain⟨b1,b2,b3,b4⟩:=iY hs;have hmk:w.objs.length<=16777216:=by omega
 refine aL bUg rfl rfl ?_
 simp only[go_sem,qC,qG,qW,bCc,(sW p w hp hw hsp).ret]
 by_cases hg:eV p w=true
 ·simp only[hg,if_true];simp only[go_sem,qC,qG,qW]
  refine aO ?_
  simp only[go_sem,qC,qG,qW,bXe,bXf,bXh,bXi,bXg,bX3,aCw hmk,(oH w hw hs).ret,cW,bL,aUx,bXc,if_false];have ez:(dJ w.objs.length).map (Val.int .i64)=List.replicate w.objs.length (.int .i64 0):=by simp[dJ]
  refine(aP4 w hw hs (vA:= .bl ⟨0,17,0⟩ 0 w.objs.length) (by simp only[go_sem,qW]) (by rw[ez];exact aEy (by simp only[go_sem,qW];try rfl) (by simp))).mono ?_
  rintro v en' cnt' ⟨g13,e20,mA,e13,q4⟩
  have q4':en' ⟨0,4,0⟩=some (.box [.cl [],.cl [],.cl [],.cl [],.int .i64 0,.cl [],.cl [],.int .i64 0] false):=by rw[q4];simp only[go_sem,qW]
  obtain⟨f,e17⟩: ∃f,en' ⟨0,17,0⟩=some (.blk 1 ((dJ w.objs.length).map (.int .i64)) f):=by
   rcases mA with⟨h,_⟩|⟨t,g,f,hv,h2,_⟩
   ·cases h
   ·injection hv with h3 h4 h5
    injection h3 with h6 h7 h8
    subst h7;subst h8;exact⟨f,h2⟩
  have l1:(dJ w.objs.length).length=w.objs.length:=by simp[dJ]
  have l2:(gH lt2 w (dJ w.objs.length) 0).length=w.objs.length:=by simp[gH]
  have t1:((dJ w.objs.length).map (Val.int .i64)).take w.objs.length=(dJ w.objs.length).map (.int .i64):=bXs (by simp[dJ])
  have t2:((gH lt2 w (dJ w.objs.length) 0).map (Val.int .i64)).take w.objs.length=(gH lt2 w (dJ w.objs.length) 0).map (.int .i64):=bXs (by simp[gH])
  simp only[go_sem,qC,qG,qW,e20,q4',e17,e13,bXj,l1,l2,t1,t2,bXd,if_true];rw[if_pos hg]
 ·simp only[hg];simp only[go_sem,qC,qG,qW];rw[if_neg hg]
def upto {α:Type}(f g:Nat->α)(n k:Nat):List α:=(List.range (max n k)).map fun i=>if i<k then f i else g i
section
variable {α :Type}{f g:Nat->α}{n k:Nat}
theorem xH :(upto f g n k).length=max n k:=by simp[upto]
theorem aC6 :upto f g n 0=(List.range n).map g:=by simp[upto]
theorem yN (h:n<=k):upto f g n k=(List.range k).map f:=by
 unfold upto;rw[Nat.max_eq_right h]
 refine bYm fun i hi=>?_
 rw[if_pos (by simpa using hi)]
theorem aNs (h:n<=k):upto f g n (k+1)=upto f g n k++[f k]:=by
 rw[yN h,yN (by omega),bY1,bXw];rfl
theorem aNt (h:k<n):(upto f g n k)[k]?=some (g k):=by
 have:k<max n k:=by omega
 simp[upto,this]
theorem aNu (h:k<n):upto f g n (k+1)=(upto f g n k).set k (f k):=by
 have e:max n (k+1)=max n k:=by omega
 apply bZe
 ·simp[upto,e]
 ·intro i h1 h2;simp only[List.getElem_set,bZb,upto,bZx]
  by_cases hi:k=i
  ·subst hi;simp
  ·rw[if_neg hi]
   by_cases hi2:i<k
   ·rw[if_pos hi2,if_pos (by omega)]
   ·rw[if_neg hi2,if_neg (by omega)]
theorem tO (h:k<n)(he:f k=g k):upto f g n (k+1)=upto f g n k:=by
 have e:max n (k+1)=max n k:=by omega
 unfold upto;rw[e]
 refine bYm fun i _=>?_
 by_cases hi:i=k
 ·subst hi;simp[he]
 ·by_cases hi2:i<k
  ·rw[if_pos hi2,if_pos (by omega)]
  ·rw[if_neg hi2,if_neg (by omega)]
end
def sF (a b:aB):Bool:=(List.range a.objs.length).all fun i=>decide ((a.obj i).form=(b.obj i).form)
def fV (a b:aB):Bool:=decide (a.objs.length<=b.objs.length)&&decide (a.tasks.length<=b.tasks.length)&&decide (a.tasks=b.tasks.take a.tasks.length)&&sF a b
def qD (s:aX)(w:aB)(i:Nat):Bool:=decide (fR s i=2)&&!decide (s.world.obj i=w.obj i)
def aEs (s:aX)(i:Nat):Int:=if i<s.marks.length then oG s i else 0
def iF (s:aX)(w:aB)(i:Nat):Int:=if i<s.marks.length then(if qD s w i=true then 1 else fR s i)else 1
def aK5 (s:aX)(w:aB)(i:Nat):Bool:=if i<s.marks.length then qD s w i else true
def zG (s:aX)(w:aB):List Int:=(List.range w.objs.length).map (aEs s)
def pD (s:aX)(w:aB):List Int:=(List.range w.objs.length).map (iF s w)
def kO (s:aX)(w:aB)(k:Nat):Nat:=(List.range k).countP (aK5 s w)
theorem sG (s:aX)(w:aB)(k:Nat):kO s w (k+1)=kO s w k+(if aK5 s w k=true then 1 else 0):=by
 simp[kO,bY1,List.countP_append,List.countP_cons]
theorem aJc (s:aX)(w:aB)(k:Nat):kO s w k<=k:=by
 have:=List.countP_le_length (p:=aK5 s w) (l:=List.range k)
 simpa[kO]using this
def cK (s:aX)(w:aB):aX:=⟨w,zG s w,pD s w,s.cycle⟩
theorem aK6 (a b:List Int)(ha:Few a.length):PC L 149 [.fz (a.map (.int .i64)),.fz (b.map (.int .i64))] (.bool (decide (a=b))):=by
 refine aL bJ4 rfl rfl ?_
 simp only[go_sem,qC,qG,qW,aSg]
 refine aA (fun h=>?_) (fun h=>?_)
 ·simp only[go_sem,qC,qG,qW]
  simp at h
  have: ¬a=b:=by rintro rfl;exact h rfl
  simp[this]
 ·have hl:a.length=b.length:=by simp at h;exact h
  simp only[go_sem,qC,qG,qW]
  refine bD (a.length) (fun k st=> ∃fr en cnt,st=⟨fr,en,cnt⟩/\ (fr 0= .fz (a.map (.int .i64)))/\ (fr 1= .fz (b.map (.int .i64)))/\ (fr 12= .int .i64 a.length)/\ (fr 13= .int .i64 k)/\ (a.take k=b.take k)) 0 (bXl _) ⟨_,_,_,rfl,(by first|(simp only[go_sem,qW];(try rfl);done)|rfl|simp),(by first|(simp only[go_sem,qW];(try rfl);done)|rfl|simp),(by first|(simp only[go_sem,qW];(try rfl);done)|rfl|simp),(by first|(simp only[go_sem,qW];(try rfl);done)|rfl|simp),(by first|(simp only[go_sem,qW];(try rfl);done)|rfl|simp)⟩ ?_
  rintro k st hk ⟨fr,en,cnt,rfl,h0,h1,h12,h13,hI⟩
  simp only[go_sem,qC,qG,qW,h0,h1,h12,h13]
  refine aA (fun hq=>?_) (fun hq=>?_)
  ·have h':k<a.length:=of_decide_eq_true hq;have h'':k<b.length:=by omega
   simp only[go_sem,qC,qG,qW,h',h'',h0,h1,h12,h13]
   refine aA (fun hb=>?_) (fun hb=>?_)
   ·simp only[go_sem,qC,qG,qW]
    simp at hb
    simp[aZs h' h'' hb]
   ·simp only[go_sem,qC,qG,qW,h',h0,h1,h12,h13]
    simp at hb
    refine⟨_,_,_,rfl,?_⟩
    simp only[go_sem,qW,h0,h1,h12,h13,aJ h' ha];exact aKq h' h'' hI hb
  ·have:k=a.length:=by simp at hq;omega
   subst this;simp only[go_sem,qC,qG,qW];simp[aKr hl hI]
theorem aK7 (a b:List aG)(ha:Few a.length):PC L 186 [.fz (a.map aG.enc),.fz (b.map aG.enc)] (.bool (decide (a=b))):=by
 refine aL bKt rfl rfl ?_
 simp only[go_sem,qC,qG,qW,aS4]
 refine aA (fun h=>?_) (fun h=>?_)
 ·simp only[go_sem,qC,qG,qW]
  simp at h
  have: ¬a=b:=by rintro rfl;exact h rfl
  simp[this]
 ·have hl:a.length=b.length:=by simp at h;exact h
  simp only[go_sem,qC,qG,qW]
  refine bD (a.length) (fun k st=> ∃fr en cnt,st=⟨fr,en,cnt⟩/\ (fr 0= .fz (a.map aG.enc))/\ (fr 1= .fz (b.map aG.enc))/\ (fr 12= .int .i64 a.length)/\ (fr 13= .int .i64 k)/\ (a.take k=b.take k)) 0 (bXl _) ⟨_,_,_,rfl,(by first|(simp only[go_sem,qW];(try rfl);done)|rfl|simp),(by first|(simp only[go_sem,qW];(try rfl);done)|rfl|simp),(by first|(simp only[go_sem,qW];(try rfl);done)|rfl|simp),(by first|(simp only[go_sem,qW];(try rfl);done)|rfl|simp),(by first|(simp only[go_sem,qW];(try rfl);done)|rfl|simp)⟩ ?_
  rintro k st hk ⟨fr,en,cnt,rfl,h0,h1,h12,h13,hI⟩
  simp only[go_sem,qC,qG,qW,h0,h1,h12,h13]
  refine aA (fun hq=>?_) (fun hq=>?_)
  ·have h':k<a.length:=of_decide_eq_true hq;have h'':k<b.length:=by omega
   simp only[go_sem,qC,qG,qW,h',h'',h0,h1,h12,h13,aG.eq_iff]
   refine aA (fun hb=>?_) (fun hb=>?_)
   ·simp only[go_sem,qC,qG,qW]
    simp at hb
    simp[aZs h' h'' hb]
   ·simp only[go_sem,qC,qG,qW,h',h0,h1,h12,h13]
    simp at hb
    refine⟨_,_,_,rfl,?_⟩
    simp only[go_sem,qW,h0,h1,h12,h13,aJ h' ha];exact aKq h' h'' hI hb
  ·have:k=a.length:=by simp at hq;omega
   subst this;simp only[go_sem,qC,qG,qW];simp[aKr hl hI]
theorem aNv (a b:List Int)(ha:Few a.length):PC L 118 [.fz (a.map (.int .i64)),.fz (b.map (.int .i64))] (.bool (decide (a=b))):=by
 refine aL bJk rfl rfl ?_
 simp only[go_sem,qC,qG,qW,aRx,(aK6 a b ha).ret]
theorem xI (a b:List aG)(ha:Few a.length):PC L 150 [.fz (a.map aG.enc),.fz (b.map aG.enc)] (.bool (decide (a=b))):=by
 refine aL bJ5 rfl rfl ?_
 simp only[go_sem,qC,qG,qW,aSh,(aK7 a b ha).ret]
theorem aC.eq_iff {a b:aC}:decide (a=b)=(decide (a.node=b.node)&&decide (a.env=b.env)&&decide (a.vals=b.vals)):=by
 cases a;cases b;simp[Bool.and_assoc]
theorem aH9 (a b:aC)(ha:a.few):PC L 152 [.agg [.int .i64 a.node,.fz (a.env.map aG.enc),.fz (a.vals.map aG.enc)],.agg [.int .i64 b.node,.fz (b.env.map aG.enc),.fz (b.vals.map aG.enc)]] (.bool (decide (a=b))):=by
 rw[aC.eq_iff]
 refine aL bJ7 rfl rfl ?_
 simp only[go_sem,qC,qG,qW,aSj]
 refine aE (fun g1=>?_) (fun g1=>?_)
 ·simp only[go_sem,qC,qG,qW,g1,(xI _ _ ha.1).ret]
  refine aE (fun g2=>?_) (fun g2=>?_)
  ·simp only[go_sem,qC,qG,qW,g1,g2,(xI _ _ ha.2).ret,bX0]
  ·simp only[go_sem,qC,qG,qW,g1,g2,bXp,bX0,bX6]
 ·simp only[go_sem,qC,qG,qW,g1,bXp,bX6]
theorem aK8 (a b:List aC)(ha:Few a.length)(hf: ∀x∈a,x.few):PC L 151 [.fz (a.map aC.enc),.fz (b.map aC.enc),.fn 152 [] []] (.bool (decide (a=b))):=by
 refine aL bJ6 rfl rfl ?_
 simp only[go_sem,qC,qG,qW,aSi]
 refine aA (fun h=>?_) (fun h=>?_)
 ·simp only[go_sem,qC,qG,qW]
  simp at h
  have: ¬a=b:=by rintro rfl;exact h rfl
  simp[this]
 ·have hl:a.length=b.length:=by simp at h;exact h
  simp only[go_sem,qC,qG,qW]
  refine bD (a.length) (fun k st=> ∃fr en cnt,st=⟨fr,en,cnt⟩/\ (fr 0= .fz (a.map aC.enc))/\ (fr 1= .fz (b.map aC.enc))/\ (fr 2= .fn 152 [] [])/\ (fr 15= .fz (a.map aC.enc))/\ (fr 16= .int .i64 a.length)/\ (fr 17= .int .i64 k)/\ (a.take k=b.take k)) 0 (bXl _) ⟨_,_,_,rfl,(by first|(simp only[go_sem,qW];(try rfl);done)|rfl|simp),(by first|(simp only[go_sem,qW];(try rfl);done)|rfl|simp),(by first|(simp only[go_sem,qW];(try rfl);done)|rfl|simp),(by first|(simp only[go_sem,qW];(try rfl);done)|rfl|simp),(by first|(simp only[go_sem,qW];(try rfl);done)|rfl|simp),(by first|(simp only[go_sem,qW];(try rfl);done)|rfl|simp),(by first|(simp only[go_sem,qW];(try rfl);done)|rfl|simp)⟩ ?_
  rintro k st hk ⟨fr,en,cnt,rfl,h0,h1,h2,h15,h16,h17,hI⟩
  simp only[go_sem,qC,qG,qW,h0,h1,h2,h15,h16,h17]
  refine aA (fun hq=>?_) (fun hq=>?_)
  ·have h':k<a.length:=of_decide_eq_true hq;have h'':k<b.length:=by omega
   simp only[go_sem,qC,qG,qW,h',h'',h0,h1,h2,h15,h16,h17,(aH9 _ b[k] (hf _ (bXn h'))).ret]
   refine aA (fun hb=>?_) (fun hb=>?_)
   ·simp only[go_sem,qC,qG,qW]
    simp at hb
    simp[aZs h' h'' hb]
   ·simp only[go_sem,qC,qG,qW,h',h0,h1,h2,h15,h16,h17]
    simp at hb
    refine⟨_,_,_,rfl,?_⟩
    simp only[go_sem,qW,h0,h1,h2,h15,h16,h17,aJ h' ha];exact aKq h' h'' hI hb
  ·have:k=a.length:=by simp at hq;omega
   subst this;simp only[go_sem,qC,qG,qW];simp[aKr hl hI]
theorem aI.eq_iff {a b:aI}:decide (a=b)=(decide (a.form=b.form)&&decide (a.n=b.n)&&decide (a.vals=b.vals)&&decide (a.frames=b.frames)):=by
 cases a;cases b;simp[Bool.and_assoc]
theorem aP5 (a b:aI)(ha:a.few):PC L 119 [.agg [.int .i64 a.form,.int .i64 a.n,.fz (a.vals.map aG.enc),.fz (a.frames.map aC.enc)],.agg [.int .i64 b.form,.int .i64 b.n,.fz (b.vals.map aG.enc),.fz (b.frames.map aC.enc)]] (.bool (decide (a=b))):=by
 rw[aI.eq_iff]
 refine aL bJl rfl rfl ?_
 simp only[go_sem,qC,qG,qW,aRy]
 refine aE (fun g1=>?_) (fun g1=>?_)
 ·simp only[go_sem,qC,qG,qW,g1]
  refine aE (fun g2=>?_) (fun g2=>?_)
  ·simp only[go_sem,qC,qG,qW,g1,g2,(xI _ _ ha.1).ret]
   refine aE (fun g3=>?_) (fun g3=>?_)
   ·simp only[go_sem,qC,qG,qW,g1,g2,g3,(aK8 _ _ ha.2.1 ha.2.2).ret,bX0]
   ·simp only[go_sem,qC,qG,qW,g1,g2,g3,bXp,bX0,bX6]
  ·simp only[go_sem,qC,qG,qW,g1,g2,bXp,bX0,bX6]
 ·simp only[go_sem,qC,qG,qW,g1,bXp,bX6]
theorem aNw {a b:aB}{k:Nat}(ha:k<a.objs.length)(hb:k<b.objs.length):((a.obj k).form=(b.obj k).form)=(a.objs[k].form=b.objs[k].form):=by rw[dH ha,dH hb]
theorem vR (a b:aB)(ha:a.few):PC L 80 [.agg [.fz (a.objs.map aI.enc),.fz (a.tasks.map (.int .i64)),.fz (a.outs.map aN.enc),.fz (a.ins.map (.int .i64)),.int .i64 a.used],.agg [.fz (b.objs.map aI.enc),.fz (b.tasks.map (.int .i64)),.fz (b.outs.map aN.enc),.fz (b.ins.map (.int .i64)),.int .i64 b.used]] (.bool (fV a b)):=by
 refine aL bU4 rfl rfl ?_
 simp only[go_sem,qC,qG,qW,bCx];have hle: ∀{x y:Nat},decide (x<y)=false↔y<=x:=by intro x y;simp
 have hnle: ∀{x y:Nat},decide (x<y)=true↔ ¬y<=x:=by intro x y;simp
 refine aE (fun g1=>?_) (fun g1=>?_)
 ·have k1:=hle.1 g1;simp only[go_sem,qC,qG,qW,g1]
  refine aE (fun g2=>?_) (fun g2=>?_)
  ·have k2:=hle.1 g2;have eT:(b.tasks.map (Val.int .i64)).take a.tasks.length=(b.tasks.take a.tasks.length).map (.int .i64):=by rw[bZd]
   simp only[go_sem,qC,qG,qW,g1,g2,k2,bXj,eT,(aNv _ _ ha.tasks).ret]
   refine aA (fun g3=>?_) (fun g3=>?_)
   ·simp only[go_sem,qC,qG,qW];have: ¬a.tasks=b.tasks.take a.tasks.length:=by simpa using g3
    simp[fV,this]
   ·have k3:a.tasks=b.tasks.take a.tasks.length:=by simpa using g3
    have e4:fV a b=sF a b:=by simp only[fV,decide_eq_true k1,decide_eq_true k2,decide_eq_true k3,bX0]
    rw[e4];simp only[go_sem,qC,qG,qW]
    refine bD (a.objs.length) (fun k st=> ∃fr en cnt,st=⟨fr,en,cnt⟩/\ (fr 3= .ptr ⟨0,3,0⟩ 0)/\ (en ⟨0,3,0⟩=some (.box b.cells false))/\ (fr 36= .fz (a.objs.map aI.enc))/\ (fr 37= .int .i64 a.objs.length)/\ (fr 38= .int .i64 k)/\ (∀i,i<k->(a.obj i).form=(b.obj i).form)) 0 (bXl _) ⟨_,_,_,rfl,(by first|(simp only[go_sem,qW];(try rfl);done)|rfl|simp),(by first|(simp only[go_sem,qW];(try rfl);done)|rfl|simp),(by first|(simp only[go_sem,qW];(try rfl);done)|rfl|simp),(by first|(simp only[go_sem,qW];(try rfl);done)|rfl|simp),(by first|(simp only[go_sem,qW];(try rfl);done)|rfl|simp),(by first|(simp only[go_sem,qW];(try rfl);done)|rfl|simp)⟩ ?_
    rintro k st hk ⟨fr,en,cnt,rfl,h3,e3,h36,h37,h38,hI⟩
    simp only[go_sem,qC,qG,qW,h3,e3,h36,h37,h38]
    refine aA (fun hq=>?_) (fun hq=>?_)
    ·have h':k<a.objs.length:=of_decide_eq_true hq;have h'':k<b.objs.length:=by omega
     simp only[go_sem,qC,qG,qW,h',h'',h3,e3,h36,h37,h38]
     refine aA (fun hb=>?_) (fun hb=>?_)
     ·simp only[go_sem,qC,qG,qW];have:sF a b=false:=by
       unfold sF;rw[bZ6]
       refine⟨k,by simpa using h',?_⟩
       rw[decide_eq_true_iff,aNw h' h'']
       simpa using hb
      rw[this]
     ·simp only[go_sem,qC,qG,qW,h',h3,e3,h36,h37,h38]
      refine⟨_,_,_,rfl,?_⟩
      simp only[go_sem,qW,h3,e3,h36,h37,h38,aJ h' ha.objs];intro i hi
      by_cases hik:i<k
      ·exact hI i hik
      ·have:i=k:=by omega
       subst this;rw[aNw h' h'']
       simpa using hb
    ·have:k=a.objs.length:=by simp at hq;omega
     subst this;simp only[go_sem,qC,qG,qW];have:sF a b=true:=by
      unfold sF;rw[bXo];intro i hi;exact decide_eq_true (hI i (by simpa using hi))
     rw[this]
  ·have k2:=hnle.1 (by simpa using g2)
   simp only[go_sem,qC,qG,qW,g1,g2,bXz];simp only[fV,decide_eq_false k2,bX6,bYp]
 ·have k1:=hnle.1 (by simpa using g1)
  simp only[go_sem,qC,qG,qW,g1,bXz];simp only[fV,decide_eq_false k1,bX6]
end Go.Proofs.YthpmfghgoabnhaaGreat
