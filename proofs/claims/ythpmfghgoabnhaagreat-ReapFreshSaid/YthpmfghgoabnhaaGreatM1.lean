/- Contracts of functions of the program and of the document: part 1. -/
import Derived.Test.YthpmfghgoabnhaaGreatHxE
import Derived.Test.YthpmfghgoabnhaaGreatCo
import Derived.Laws.Strings
import Derived.Test.YthpmfghgoabnhaaGreatRows
set_option linter.all false
open Array renaming length_toList → bZa
open Bool renaming and_eq_true → bXb, and_true → bY6, false_and → bX6, false_eq_true → bXc, false_or → bYy, not_eq_false' → bZ5, not_eq_true → bYf, not_eq_true' → bYh, not_false → bXz, not_not → bZl, not_true → bXp, true_and → bX0
open Int renaming eq_ofNat_of_zero_le → bYr, natCast_nonneg → bZ4, toNat_natCast → bXx
open List renaming all_cons → bXe, all_eq_true → bXo, any_cons → bZs, append_nil → bYx, cons_append → bZg, drop_eq_getElem_cons → bX7, drop_length → bY7, flatMap_cons → bZ3, flatMap_nil → bZw, foldl_cons → bY5, getD_eq_getElem?_getD → bXm, getElem?_eq_getElem → bYs, getElem?_set → bZh, getElem_mem → bXn, length_append → bX8, length_cons → bXu, length_drop → bZi, length_map → bXj, length_nil → bYb, map_append → bXw, map_cons → bYa, map_set → bYu, map_take → bZd, mem_append → bX1, mem_cons → bYe, mem_map → bXy, mem_or_eq_of_mem_set → cAe, not_all_eq_any_not → bZk, take_length → bYc, take_of_length_le → bXs
open Nat renaming add_zero → bY2, le_refl → bXd, le_trans → bYd, zero_le → bXl
open Option renaming getD_some → bX3
namespace Go.Abs
theorem dL {n:Nat}(h:Few n):IntKind.i64.wrap ((n:Int)-1)=(n:Int)-1:=by unfold Few at h;exact bY (by omega)
theorem aBb {α:Type}{l:List α}(h:Few l.length)(k:Nat):Few (l.take k).length:=by unfold Few at*;simp;omega
def aC.few (f:aC):Prop:=Few f.env.length/\ Few f.vals.length
def aI.few (o:aI):Prop:=Few o.vals.length/\ Few o.frames.length/\ ∀f∈o.frames,f.few
structure aB.few (w:aB):Prop where
 objs:Few w.objs.length
 tasks:Few w.tasks.length
 outs:Few w.outs.length
 ins:Few w.ins.length
 obj: ∀o∈w.objs,o.few
inductive Pat.few :Pat->Prop
 |mk (f n:Int) (t:ByteArray) (l:List Pat) (h:Few l.length) (ht:Few t.size) (k: ∀p∈l,Pat.few p):Pat.few (.mk f n t l)
structure aK.few (n:aK):Prop where
 kids:Few n.kids.length
 pats:Few n.pats.length
 pat: ∀q∈n.pats,q.few
structure aP.few (p:aP):Prop where
 nodes:Few p.nodes.length
 funs:Few p.funs.length
 cons:Few p.cons.length
 node: ∀n∈p.nodes,n.few
 con: ∀c∈p.cons,Few c.name.size
def inR (n lo hi:Int):Bool:=decide (lo<=n/\ n<=hi)
def aK.asks (n:aK):Int:=
 if n.op=6 \/n.op=9 \/n.op=10 \/n.op=11 \/n.op=12 \/n.op=13 \/n.op=18 \/n.op=22 then 2
 else if n.op=14 then n.kids.length
 else if n.op=7 \/n.op=8 \/n.op=15 \/n.op=16 \/n.op=17 \/n.op=19 \/n.op=20 \/n.op=23 \/n.op=24 \/n.op=26 then 1 else 0
def aP.node (p:aP)(i:Int):aK:=p.nodes.getD i.toNat default
def cO (p:aP)(w:aB)(v:aG):Bool:=
 if v.kind=1 then inR v.n (-1000000000) 1000000000
 else if v.kind=2 then inR v.n 0 1
 else if v.kind=3 then decide (v.n=0)
 else if v.kind=4 then inR v.n 0 (p.funs.length-1)
 else if v.kind=5 then inR v.n 0 (w.objs.length-1)else false
def aR (p:aP)(w:aB)(l:List aG)(most:Int):Bool:=decide ((l.length:Int)<=most)&&l.all (cO p w)
def bG (p:aP)(w:aB)(f:aC):Bool:=
 inR f.node 0 (p.nodes.length-1)&&aR p w f.env 30&&aR p w f.vals (p.node f.node).asks
def bK (p:aP)(w:aB)(l:List aC):Bool:=decide ((l.length:Int)<=40)&&l.all (bG p w)
def cS (p:aP)(f:aC):Bool:=decide ((f.vals.length:Int)<(p.node f.node).asks)
def iH (p:aP)(w:aB)(o:aI):Bool:=
 if o.n=0 then bK p w o.frames&&aR p w o.vals 1&&decide ((0:Int)<o.frames.length+o.vals.length)&&(o.frames.take (o.frames.length+o.vals.length-1)).all (cS p)
 else if o.n=1 then decide ((o.frames.length:Int)=0)&&decide ((o.vals.length:Int)=1)&&aR p w o.vals 1
 else if o.n=2 \/o.n=3 \/o.n=4 then decide ((o.frames.length:Int)=0)&&decide ((o.vals.length:Int)=0)else false
def dN (p:aP)(w:aB)(o:aI):Bool:=
 if o.form=6 then iH p w o
 else if o.form=5 then decide (o.n=0)&&decide ((o.vals.length:Int)=0)&&decide ((0:Int)<o.frames.length)&&bK p w o.frames&&o.frames.all (cS p)&&decide ((p.node (o.frames.headD default).node).op=26)
 else if¬(o.frames.length:Int)=0 then false
 else if o.form=1 then inR o.n 0 (p.cons.length-1)&&decide ((o.vals.length:Int)=(p.cons.getD o.n.toNat default).args)&&aR p w o.vals 3
 else if o.form=2 then inR o.n 0 (p.nodes.length-1)&&decide ((p.node o.n).op=5)&&aR p w o.vals 30
 else if o.form=3 then decide (o.n=0)&&decide ((o.vals.length:Int)=1)&&aR p w o.vals 1
 else if o.form=4 then decide (o.n=0)&&aR p w o.vals 4 else false
def bF (o:aI):Bool:=decide (o.form=6)
def aB.obj (w:aB)(i:Int):aI:=w.objs.getD i.toNat default
def bB (w:aB):List Int->List Int->Bool
 |_,[]=>true
 |met,k::l=>inR k 0 (w.objs.length-1)&&bF (w.obj k)&&!met.any (fun x=>decide (x=k))&&bB w (met++[k]) l
def iP (w:aB):Bool:=decide (w.tasks.length=w.objs.countP bF)&&bB w [] w.tasks
def mN (l:List Int)(most:Int):Bool:=decide ((l.length:Int)<=most)&&l.all fun n=>inR n (-1000000000) 1000000000
def rX (o:aN):Bool:=inR o.port 0 3&&inR o.n (-1000000000) 1000000000
def gG (p:aP)(w:aB):Bool:=
 decide ((w.objs.length:Int)<=120)&&decide ((w.outs.length:Int)<=100)&&mN w.ins 50&&inR w.used 0 1000000000&&iP w&&w.objs.all (dN p w)&&w.outs.all rX
def dE (o:aI):Bool:=decide ((o.vals.length:Int)<=40)&&decide ((o.frames.length:Int)<=50)&&o.frames.all fun f=>decide ((f.env.length:Int)<=40)&&decide ((f.vals.length:Int)<=40)
def aY (w:aB):Bool:=
 decide ((w.objs.length:Int)<=130)&&decide ((w.tasks.length:Int)<=130)&&decide ((w.outs.length:Int)<=110)&&decide ((w.ins.length:Int)<=60)&&w.objs.all dE
theorem aPp {α:Type}{l:List α}{k:Nat}(h:k<l.length)(p:α->Bool):(l.take (k+1)).countP p=(l.take k).countP p+(if p l[k]then 1 else 0):=by
 rw[<-List.take_append_getElem h,List.countP_append];simp[List.countP_cons]
theorem dF {α:Type}{l:List α}{k:Nat}(h:k<l.length):l.take (k+1)=l.take k++[l[k]]:=by
 rw[List.take_append_getElem h]
theorem zA {α:Type}{f:α->Val}{size:Nat}{l:List α}{k:IntKind}{i:Int}{en:En}(d:α)(h:inR i 0 ((l.length:Int)-1)=true)(hs: ∀x,(f x).cells.length=size):
  sP size en (.fz (l.map f)) (.int k i)=some {v:= .fp (f (l.getD i.toNat d)).cells 0}:=by
 simp only[inR,cAg]at h;obtain⟨j,rfl⟩:=bYr h.1;have hj:j<l.length:=by omega
 rw[bFj (f:=f) hj (by simp[hs])]
 simp[bXm,hj]
theorem bM {p:aP}{k:IntKind}{i:Int}{en:En}(h:inR i 0 ((p.nodes.length:Int)-1)=true):
  sP 4 en (.fz (p.nodes.map aK.enc)) (.int k i)=some {v:= .fp (aK.enc (p.node i)).cells 0}:=zA default h fun x=>rfl
theorem aI3 {l:List aC}{k:IntKind}{en:En}(h:0<l.length):sP 3 en (.fz (l.map aC.enc)) (.int k 0)=some {v:= .fp (aC.enc (l.headD default)).cells 0}:=by
 have:=zA (f:=aC.enc) (size:=3) (k:=k) (i:=0) (en:=en) default (l:=l) (by simp[inR];omega) (fun _=>rfl)
 rw[this];cases l<;>simp at h⊢
theorem aCy {l:List bE}{k:IntKind}{i:Int}{en:En}(h:inR i 0 ((l.length:Int)-1)=true):
  sP 2 en (.fz (l.map bE.enc)) (.int k i)=some {v:= .fp (bE.enc (l.getD i.toNat default)).cells 0}:=zA default h fun x=>rfl
theorem uK {w:aB}{k:IntKind}{i:Int}{en:En}(h:inR i 0 ((w.objs.length:Int)-1)=true):
  sP 4 en (.fz (w.objs.map aI.enc)) (.int k i)=some {v:= .fp (aI.enc (w.obj i)).cells 0}:=zA default h fun x=>rfl
theorem sQ {l:List Int}{k:IntKind}{i:Int}{en:En}(h:inR i 0 ((l.length:Int)-1)=true):
  sP 1 en (.fz (l.map (.int .i64))) (.int k i)=some {v:= .fp [.int .i64 (l.getD i.toNat 0)] 0}:=zA 0 h fun x=>rfl
def aX.few (s:aX):Prop:=s.world.few/\ Few s.ages.length/\ Few s.marks.length
def bO (s:aX):Bool:=aY s.world&&decide ((s.ages.length:Int)<=130)&&decide ((s.marks.length:Int)<=130)
end Go.Abs
namespace Go.Proofs.YthpmfghgoabnhaaGreat
open Go.Abs Go.Proofs
theorem kM (n lo hi:Int):PC L 84 [.int .i64 n,.int .i64 lo,.int .i64 hi] (.bool (inR n lo hi)):=by
 refine aL bU7 rfl rfl ?_
 simp only[go_sem,qW,bC0]
 refine bA (fun h=>?_) (fun h=>?_)<;>simp only[go_sem,qW,h]<;>simp at h<;>simp[h,inR]
 omega
theorem aHz (l:List Int)(n:Int)(hl:Few l.length):PC L 120 [.fz (l.map (.int .i64)),.int .i64 n] (.bool (l.any fun x=>decide (x=n))):=by
 refine aL bJm rfl rfl ?_
 simp only[go_sem,qW,aRz]
 refine bD l.length (fun k st=> ∃fr en cnt,st=⟨fr,en,cnt⟩/\ fr 0= .fz (l.map (.int .i64))/\ fr 1= .int .i64 n/\ fr 5= .int .i64 k/\ (l.drop k).any (fun x=>decide (x=n))=l.any fun x=>decide (x=n)) 0 (bXl _) ⟨_,_,_,rfl,by simp only[go_sem,qW],by simp only[go_sem,qW],by simp only[go_sem,qW],rfl⟩ ?_
 rintro k st hk ⟨fr,en,cnt,rfl,h0,h1,h5,hI⟩
 simp only[go_sem,qW,h0,h1,h5]
 refine aV (fun h=>?_) (fun h=>?_)
 ·have h':k<l.length:=of_decide_eq_true h;rw[aF1 h']at hI;simp only[go_sem,qW,h',h0,h1,h5]
  refine aV (fun h2=>?_) (fun h2=>?_)
  ·rw[<-hI,h2];rfl
  ·refine⟨_,_,_,rfl,?_⟩
   simp only[go_sem,qW,h0,h1,h5,aJ h' hl];rw[<-hI,h2];simp
 ·have:k=l.length:=by simp at h;omega
  subst this;rw[<-hI];simp
theorem rY (n:aK):PC L 130 [.agg [.int .i64 n.op,.int .i64 n.n,.fz (n.kids.map (.int .i64)),.fz (n.pats.map Pat.enc)]] (.int .i64 n.asks):=by
 refine aL bJv rfl rfl ?_
 simp only[go_sem,qW,aR8]
 repeat' ((first|with_reducible refine aV (fun h=>?_) (fun h=>?_)|with_reducible refine bA (fun h=>?_) (fun h=>?_))<;>(try simp only[cAg,cAh,bXp,bXz]at h)<;>try simp only[go_sem,qW,h])
 all_goals simp[aK.asks, *]
theorem aKj (p:aP)(w:aB)(v:aG)(hp:p.few)(hw:w.few):PC L 153 [.agg [.fz (p.nodes.map aK.enc),.fz (p.funs.map (.int .i64)),.int .i64 p.main,.fz (p.cons.map bE.enc)],.agg [.fz (w.objs.map aI.enc),.fz (w.tasks.map (.int .i64)),.fz (w.outs.map aN.enc),.fz (w.ins.map (.int .i64)),.int .i64 w.used],.agg [.int .i64 v.kind,.int .i64 v.n]] (.bool (cO p w v)):=by
 refine aL bJ8 rfl rfl ?_
 simp only[go_sem,qW,aSk,(kM _ _ _).ret,dL hp.funs,dL hw.objs]
 repeat' ((first|with_reducible refine aV (fun h=>?_) (fun h=>?_)|with_reducible refine bA (fun h=>?_) (fun h=>?_))<;>(try simp only[cAg,cAh,bXp,bXz]at h)<;>try simp only[go_sem,qW,h,(kM _ _ _).ret,dL hp.funs,dL hw.objs])
 all_goals simp[cO, *]
theorem mZ (p:aP)(w:aB)(l:List aG)(m:Int)(hp:p.few)(hw:w.few)(hl:Few l.length):
  PC L 124 [.agg [.fz (p.nodes.map aK.enc),.fz (p.funs.map (.int .i64)),.int .i64 p.main,.fz (p.cons.map bE.enc)],.agg [.fz (w.objs.map aI.enc),.fz (w.tasks.map (.int .i64)),.fz (w.outs.map aN.enc),.fz (w.ins.map (.int .i64)),.int .i64 w.used],.fz (l.map aG.enc),.int .i64 m] (.bool (aR p w l m)):=by
 refine aL bJq rfl rfl ?_
 simp only[go_sem,qW,aR3]
 refine bD (l.length) (fun k st=> ∃fr en cnt,st=⟨fr,en,cnt⟩/\ (fr 2= .fz (l.map aG.enc))/\ (fr 3= .int .i64 m)/\ (fr 4= .ptr ⟨0,4,0⟩ 0)/\ (en ⟨0,4,0⟩=some (.box p.cells false))/\ (fr 5= .ptr ⟨0,5,0⟩ 0)/\ (en ⟨0,5,0⟩=some (.box w.cells false))/\ (fr 9= .int .i64 k)/\ ((l.drop k).all (cO p w)=l.all (cO p w))) 0 (bXl _) ⟨_,_,_,rfl,(by first|(simp only[go_sem,qW];(try rfl);done)|rfl|simp),(by first|(simp only[go_sem,qW];(try rfl);done)|rfl|simp),(by first|(simp only[go_sem,qW];(try rfl);done)|rfl|simp),(by first|(simp only[go_sem,qW];(try rfl);done)|rfl|simp),(by first|(simp only[go_sem,qW];(try rfl);done)|rfl|simp),(by first|(simp only[go_sem,qW];(try rfl);done)|rfl|simp),(by first|(simp only[go_sem,qW];(try rfl);done)|rfl|simp),(by first|(simp only[go_sem,qW];(try rfl);done)|rfl|simp)⟩ ?_
 rintro k st hk ⟨fr,en,cnt,rfl,h2,h3,h4,e4,h5,e5,h9,hI⟩
 simp only[go_sem,qW,h2,h3,h4,e4,h5,e5,h9]
 refine bA (fun h=>?_) (fun h=>?_)
 ·have h':k<l.length:=of_decide_eq_true h;rw[fG h']at hI;simp only[go_sem,qW,h,h',h2,h3,h4,e4,h5,e5,h9]
  refine aV (fun hm=>?_) (fun hm=>?_)
  ·simp only[go_sem,qW,h',h2,h3,h4,e4,h5,e5,h9,(aKj p w _ hp hw).ret]
   refine aV (fun hb=>?_) (fun hb=>?_)
   ·simp at hb
    simp[aR,<-hI,hb]
   ·simp at hb
    refine⟨_,_,_,rfl,?_⟩
    simp only[go_sem,qW,h2,h3,h4,e4,h5,e5,h9,aJ h' hl];rw[<-hI,hb];simp
  ·simp at hm
   try simp only[go_sem,qW,h2,h3,h4,e4,h5,e5,h9]
   simp[aR];omega
 ·have:k=l.length:=by simp at h;omega
  subst this
  try simp only[go_sem,qW,h,h2,h3,h4,e4,h5,e5,h9]
  simp at hI
  simp[aR];exact fun _=>hI
theorem zB (p:aP)(w:aB)(l:List aC)(hp:p.few)(hw:w.few)(hl:Few l.length)(hf: ∀f∈l,f.few):
  PC L 122 [.agg [.fz (p.nodes.map aK.enc),.fz (p.funs.map (.int .i64)),.int .i64 p.main,.fz (p.cons.map bE.enc)],.agg [.fz (w.objs.map aI.enc),.fz (w.tasks.map (.int .i64)),.fz (w.outs.map aN.enc),.fz (w.ins.map (.int .i64)),.int .i64 w.used],.fz (l.map aC.enc)] (.bool (bK p w l)):=by
 refine aL bJo rfl rfl ?_
 simp only[go_sem,qW,aR1]
 refine bD (l.length) (fun k st=> ∃fr en cnt,st=⟨fr,en,cnt⟩/\ (fr 2= .fz (l.map aC.enc))/\ (fr 3= .ptr ⟨0,3,0⟩ 0)/\ (en ⟨0,3,0⟩=some (.box p.cells false))/\ (fr 4= .ptr ⟨0,4,0⟩ 0)/\ (en ⟨0,4,0⟩=some (.box w.cells false))/\ (fr 7= .int .i64 k)/\ ((l.drop k).all (bG p w)=l.all (bG p w))) 0 (bXl _) ⟨_,_,_,rfl,(by first|(simp only[go_sem,qW];(try rfl);done)|rfl|simp),(by first|(simp only[go_sem,qW];(try rfl);done)|rfl|simp),(by first|(simp only[go_sem,qW];(try rfl);done)|rfl|simp),(by first|(simp only[go_sem,qW];(try rfl);done)|rfl|simp),(by first|(simp only[go_sem,qW];(try rfl);done)|rfl|simp),(by first|(simp only[go_sem,qW];(try rfl);done)|rfl|simp),(by first|(simp only[go_sem,qW];(try rfl);done)|rfl|simp)⟩ ?_
 rintro k st hk ⟨fr,en,cnt,rfl,h2,h3,e3,h4,e4,h7,hI⟩
 simp only[go_sem,qW,h2,h3,e3,h4,e4,h7]
 refine bA (fun h=>?_) (fun h=>?_)
 ·have h':k<l.length:=of_decide_eq_true h;rw[fG h']at hI;have hx:=hf l[k] (bXn _);simp only[go_sem,qW,h,h',h2,h3,e3,h4,e4,h7]
  refine aV (fun hm=>?_) (fun hm=>?_)
  ·refine wK ?_ ?_
   ·decide
   simp only[go_sem,qW,h',h2,h3,e3,h4,e4,h7,(kM _ _ _).ret,dL hp.nodes]
   refine bA (fun hb=>?_) (fun hb=>?_)
   ·have hb':inR l[k].node 0 (p.nodes.length-1)=true:=by simpa using hb
    simp only[go_sem,qW,hb,hb',h2,h3,e3,h4,e4,h7,(mZ p w _ _ hp hw hx.1).ret]
    refine bA (fun hc=>?_) (fun hc=>?_)
    ·have hc':aR p w l[k].env 30=true:=by simpa using hc
     simp only[go_sem,qW,hc,hc',hb',h2,h3,e3,h4,e4,h7,bM,(rY _).ret,(mZ p w _ _ hp hw hx.2).ret]
     refine aV (fun hd=>?_) (fun hd=>?_)
     ·simp at hd
      simp[bK,<-hI,bG,hb',hc',hd]
     ·simp at hd
      refine⟨_,_,_,rfl,?_⟩
      simp only[go_sem,qW,h2,h3,e3,h4,e4,h7,aJ h' hl];rw[<-hI];simp[bG,hb',hc',hd]
    ·simp only[go_sem,qW,hc,hb',h2,h3,e3,h4,e4,h7]
     simp at hc
     simp[bK,<-hI,bG,hc]
   ·simp only[go_sem,qW,hb,h2,h3,e3,h4,e4,h7]
    simp at hb
    simp[bK,<-hI,bG,hb]
  ·simp at hm
   try simp only[go_sem,qW,h2,h3,e3,h4,e4,h7]
   simp[bK];omega
 ·have:k=l.length:=by simp at h;omega
  subst this
  try simp only[go_sem,qW,h,h2,h3,e3,h4,e4,h7]
  simp at hI
  simp[bK];exact fun _=>hI
end Go.Proofs.YthpmfghgoabnhaaGreat
namespace Go.Proofs.YthpmfghgoabnhaaGreat
open Go.Abs Go.Proofs
theorem aD6 (p:aP)(l:List aC)(n:Nat)(hp:p.few)(hl:Few l.length)(hn:n<=l.length)(hf: ∀f∈l,inR f.node 0 (p.nodes.length-1)=true):
  PC L 123 [.agg [.fz (p.nodes.map aK.enc),.fz (p.funs.map (.int .i64)),.int .i64 p.main,.fz (p.cons.map bE.enc)],.fz (l.map aC.enc),.int .i64 n] (.bool ((l.take n).all (cS p))):=by
 refine aL bJp rfl rfl ?_
 simp only[go_sem,qW,aR2]
 refine bD (n) (fun k st=> ∃fr en cnt,st=⟨fr,en,cnt⟩/\ (fr 1= .fz (l.map aC.enc))/\ (fr 2= .int .i64 n)/\ (fr 3= .ptr ⟨0,3,0⟩ 0)/\ (en ⟨0,3,0⟩=some (.box p.cells false))/\ (fr 7= .int .i64 k)/\ (((l.take n).drop k).all (cS p)=(l.take n).all (cS p))) 0 (bXl _) ⟨_,_,_,rfl,(by first|(simp only[go_sem,qW];(try rfl);done)|rfl|simp),(by first|(simp only[go_sem,qW];(try rfl);done)|rfl|simp),(by first|(simp only[go_sem,qW];(try rfl);done)|rfl|simp),(by first|(simp only[go_sem,qW];(try rfl);done)|rfl|simp),(by first|(simp only[go_sem,qW];(try rfl);done)|rfl|simp),(by first|(simp only[go_sem,qW];(try rfl);done)|rfl|simp)⟩ ?_
 rintro k st hk ⟨fr,en,cnt,rfl,h1,h2,h3,e3,h7,hI⟩
 simp only[go_sem,qW,h1,h2,h3,e3,h7]
 refine aV (fun h=>?_) (fun h=>?_)
 ·have h'':k<n:=by simp at h;omega
  have h':k<l.length:=by omega
  rw[fG (by simp;omega)]at hI
  have hx:=hf l[k] (bXn _)
  try simp only[go_sem,qW,h1,h2,h3,e3,h7]
  refine wK ?_ ?_
  ·decide
  simp only[go_sem,qW,h1,h2,h3,e3,h7,h',h'',hx,bM,(rY _).ret];have he:(l.take n)[k]'(by simp;omega)=l[k]:=by simp
  rw[he]at hI
  refine aV (fun hb=>?_) (fun hb=>?_)
  ·simp at hb
   have:cS p l[k]=false:=by simp[cS,hb]
   rw[<-hI,this];rfl
  ·simp at hb
   have:cS p l[k]=true:=by simp[cS,hb]
   refine⟨_,_,_,rfl,?_⟩
   simp only[go_sem,qW,h1,h2,h3,e3,h7,h'',aJ h' hl];rw[<-hI,this];simp
 ·have:k=n:=by simp at h;omega
  subst this
  try simp only[go_sem,qW]
  rw[<-hI];simp
theorem aKk {p:aP}{w:aB}{l:List aG}{m:Int}(h:aR p w l m=true):(l.length:Int)<=m:=by
 simp[aR]at h;exact h.1
theorem aBc {p:aP}{w:aB}{l:List aC}(h:bK p w l=true):(l.length:Int)<=40:=by
 simp[bK]at h;omega
theorem nA {p:aP}{w:aB}{l:List aC}(h:bK p w l=true): ∀f∈l,inR f.node 0 (p.nodes.length-1)=true:=by
 simp[bK]at h;intro f hf;have:=h.2 f hf;simp[bG]at this;exact this.1.1
theorem aM7 (p:aP)(w:aB)(o:aI)(hp:p.few)(hw:w.few)(ho:o.few):PC L 121 [.agg [.fz (p.nodes.map aK.enc),.fz (p.funs.map (.int .i64)),.int .i64 p.main,.fz (p.cons.map bE.enc)],.agg [.fz (w.objs.map aI.enc),.fz (w.tasks.map (.int .i64)),.fz (w.outs.map aN.enc),.fz (w.ins.map (.int .i64)),.int .i64 w.used],.agg [.int .i64 o.form,.int .i64 o.n,.fz (o.vals.map aG.enc),.fz (o.frames.map aC.enc)]] (.bool (iH p w o)):=by
 refine aL bJn rfl rfl ?_
 simp only[go_sem,qW,aR0]
 refine aV (fun h=>?_) (fun h=>?_)<;>simp only[cAg,cAh]at h
 ·simp only[go_sem,qW,(zB p w _ hp hw ho.2.1 ho.2.2).ret]
  refine bA (fun h1=>?_) (fun h1=>?_)
  ·simp only[go_sem,qW,h1,(mZ p w _ _ hp hw ho.1).ret]
   refine bA (fun h2=>?_) (fun h2=>?_)
   ·have k1:=aBc h1;have k2:=aKk h2;have e1:IntKind.i64.wrap ((o.frames.length:Int)+o.vals.length)=(o.frames.length:Int)+o.vals.length:=bY (by omega)
    simp only[go_sem,qW,h1,h2,e1]
    refine bA (fun h3=>?_) (fun h3=>?_)
    ·simp at h3
     have e2:IntKind.i64.wrap ((o.frames.length:Int)-1)=(o.frames.length:Int)-1:=bY (by omega)
     have e3:IntKind.i64.wrap ((o.frames.length:Int)-1+o.vals.length)=((o.frames.length+o.vals.length-1:Nat):Int):=by rw[bY (by omega)];omega
     have e4:min (o.frames.length:Int) (max 0 ((o.frames.length+o.vals.length-1:Nat):Int))=((o.frames.length+o.vals.length-1:Nat):Int):=by omega
     simp only[go_sem,qW,h3,e2,e3,e4,(aD6 p o.frames (o.frames.length+o.vals.length-1) hp ho.2.1 (by omega) (nA h1)).ret]
     simp[iH,h,h1,h2,h3]
    ·simp only[go_sem,qW,h3]
     simp at h3
     simp[iH,h,h1,h2];omega
   ·simp only[go_sem,qW,h1,h2]
    simp at h2
    simp[iH,h,h1,h2]
  ·simp only[go_sem,qW,h1]
   simp at h1
   simp[iH,h,h1]
 ·repeat' ((first|with_reducible refine aV (fun h=>?_) (fun h=>?_)|with_reducible refine bA (fun h=>?_) (fun h=>?_))<;>(try simp only[cAg,cAh,bXp,bXz]at h)<;>try simp only[go_sem,qW,h,(mZ p w _ _ hp hw ho.1).ret])
  all_goals simp[iH, *]
  all_goals (intros;simp_all)
theorem aH0 (p:aP)(w:aB)(o:aI)(hp:p.few)(hw:w.few)(ho:o.few):PC L 86 [.agg [.fz (p.nodes.map aK.enc),.fz (p.funs.map (.int .i64)),.int .i64 p.main,.fz (p.cons.map bE.enc)],.agg [.fz (w.objs.map aI.enc),.fz (w.tasks.map (.int .i64)),.fz (w.outs.map aN.enc),.fz (w.ins.map (.int .i64)),.int .i64 w.used],.agg [.int .i64 o.form,.int .i64 o.n,.fz (o.vals.map aG.enc),.fz (o.frames.map aC.enc)]] (.bool (dN p w o)):=by
 refine aL bU9 rfl rfl ?_
 simp only[go_sem,qW,bC2]
 refine aV (fun h=>?_) (fun h=>?_)<;>simp only[cAg,cAh]at h
 ·simp only[go_sem,qW,(aM7 p w o hp hw ho).ret];simp[dN,h]
 ·refine aV (fun h5=>?_) (fun h5=>?_)<;>simp only[cAg,cAh]at h5
  ·try simp only[go_sem,qW]
   refine bA (fun h1=>?_) (fun h1=>?_)
   ·simp only[go_sem,qW,h1]
    refine bA (fun h2=>?_) (fun h2=>?_)
    ·simp only[go_sem,qW,h1,h2]
     refine bA (fun h3=>?_) (fun h3=>?_)
     ·simp only[go_sem,qW,h1,h2,h3,(zB p w _ hp hw ho.2.1 ho.2.2).ret]
      refine bA (fun h4=>?_) (fun h4=>?_)
      ·simp only[go_sem,qW,h1,h2,h3,h4,(aD6 p o.frames o.frames.length hp ho.2.1 (bXd _) (nA h4)).ret]
       refine bA (fun h6=>?_) (fun h6=>?_)
       ·have hpos:0<o.frames.length:=by have:=of_decide_eq_true h3;omega
        have hn:inR (o.frames.headD default).node 0 (p.nodes.length-1)=true:=nA h4 _ (by cases hh:o.frames with|nil=>simp[hh]at hpos|cons a l=>simp)
        simp only[go_sem,qW,h6,aI3 hpos,hn,bM]
        simp at h6 h1 h2
        simp[dN,h,h5,h1,h2,h4,h6]
        first|(intros;simp_all;done)|trace_state
       ·simp only[go_sem,qW,h6]
        simp at h6 h1 h2
        simp[dN,h,h5,h1,h2,h4];obtain⟨x,hx,hx2⟩:=h6;intro _ hh;rw[hh x hx]at hx2;cases hx2
      ·simp only[go_sem,qW,h4]
       simp at h4
       simp[dN,h,h5,h4]
     ·simp only[go_sem,qW,h3]
      simp at h3
      simp[dN,h,h5,h3]
    ·simp only[go_sem,qW,h2]
     simp at h2
     simp[dN,h,h5,h2]
   ·simp only[go_sem,qW,h1]
    simp at h1
    simp[dN,h,h5,h1]
  ·try simp only[go_sem,qW]
   refine aV (fun h7=>?_) (fun h7=>?_)
   ·simp at h7
    simp[dN,h,h5,h7]
   ·have h7':(o.frames.length:Int)=0:=by simp at h7;simp[h7]
    try simp only[go_sem,qW]
    repeat' ((first|with_reducible refine aV (fun h=>?_) (fun h=>?_)|with_reducible refine bA (fun h=>?_) (fun h=>?_))<;>(try simp only[cAg,cAh,bXp,bXz]at h)<;>try simp only[go_sem,qW, *,(kM _ _ _).ret,(mZ p w _ _ hp hw ho.1).ret,dL hp.nodes,dL hp.cons,bM,aCy])
    all_goals simp[dN, *]
    all_goals (intros;simp_all)
end Go.Proofs.YthpmfghgoabnhaaGreat
namespace Go.Proofs.YthpmfghgoabnhaaGreat
open Go.Abs Go.Proofs
theorem aM8 (l:List Int)(m:Int)(hl:Few l.length):PC L 83 [.fz (l.map (.int .i64)),.int .i64 m] (.bool (mN l m)):=by
 refine aL bU6 rfl rfl ?_
 simp only[go_sem,qW,bCz]
 refine bD (l.length) (fun k st=> ∃fr en cnt,st=⟨fr,en,cnt⟩/\ (fr 0= .fz (l.map (.int .i64)))/\ (fr 1= .int .i64 m)/\ (fr 5= .int .i64 k)/\ ((l.drop k).all (fun n=>inR n (-1000000000) 1000000000)=l.all fun n=>inR n (-1000000000) 1000000000)) 0 (bXl _) ⟨_,_,_,rfl,(by first|(simp only[go_sem,qW];(try rfl);done)|rfl|simp),(by first|(simp only[go_sem,qW];(try rfl);done)|rfl|simp),(by first|(simp only[go_sem,qW];(try rfl);done)|rfl|simp),(by first|(simp only[go_sem,qW];(try rfl);done)|rfl|simp)⟩ ?_
 rintro k st hk ⟨fr,en,cnt,rfl,h0,h1,h5,hI⟩
 simp only[go_sem,qW,h0,h1,h5]
 refine bA (fun h=>?_) (fun h=>?_)
 ·have h':k<l.length:=of_decide_eq_true h;rw[fG h']at hI;simp only[go_sem,qW,h,h',h0,h1,h5]
  refine aV (fun hm=>?_) (fun hm=>?_)
  ·simp only[go_sem,qW,h',h0,h1,h5,(kM _ _ _).ret]
   refine aV (fun hb=>?_) (fun hb=>?_)
   ·simp at hb
    simp[mN,<-hI,hb]
   ·simp at hb
    refine⟨_,_,_,rfl,?_⟩
    simp only[go_sem,qW,h0,h1,h5,aJ h' hl];rw[<-hI,hb];simp
  ·simp at hm
   try simp only[go_sem,qW,h0,h1,h5]
   simp[mN];omega
 ·have:k=l.length:=by simp at h;omega
  subst this
  try simp only[go_sem,qW,h,h0,h1,h5]
  simp at hI
  simp[mN];exact fun _=>hI
theorem aKl (w:aB)(hw:w.few):PC L 85 [.agg [.fz (w.objs.map aI.enc),.fz (w.tasks.map (.int .i64)),.fz (w.outs.map aN.enc),.fz (w.ins.map (.int .i64)),.int .i64 w.used]] (.bool (iP w)):=by
 refine aL bU8 rfl rfl ?_
 simp only[go_sem,qW,bC1]
 refine bD (w.objs.length) (fun k st=> ∃fr en cnt,st=⟨fr,en,cnt⟩/\ (fr 1= .ptr ⟨0,1,0⟩ 0)/\ (en ⟨0,1,0⟩=some (.box w.cells false))/\ (fr 3= .int .i64 ((w.objs.take k).countP bF:Nat))/\ (fr 4= .int .i64 k)) 0 (bXl _) ⟨_,_,_,rfl,(by first|(simp only[go_sem,qW];(try rfl);done)|rfl|simp),(by first|(simp only[go_sem,qW];(try rfl);done)|rfl|simp),(by first|(simp only[go_sem,qW];(try rfl);done)|rfl|simp),(by first|(simp only[go_sem,qW];(try rfl);done)|rfl|simp)⟩ ?_
 rintro k st hk ⟨fr,en,cnt,rfl,h1,e1,h3,h4⟩
 simp only[go_sem,qW,h1,e1,h3,h4]
 refine aV (fun h=>?_) (fun h=>?_)
 ·have h':k<w.objs.length:=of_decide_eq_true h;have hc:(w.objs.take k).countP bF<=k:=bYd List.countP_le_length (by simp;omega)
  have hs:=aPp h' bF;simp only[go_sem,qW,h',h1,e1,h3,h4]
  refine aV (fun hb=>?_) (fun hb=>?_)
  ·simp at hb
   have e:IntKind.i64.wrap (((w.objs.take k).countP bF:Nat)+1)=(((w.objs.take (k+1)).countP bF:Nat):Int):=by
    have:=hw.objs;unfold Few at this;rw[bY (by omega),hs];simp[bF,hb]
   simp only[go_sem,qW,h1,e1,h3,h4,e,aJ h' hw.objs]
   refine⟨_,_,_,rfl,?_⟩
   simp only[go_sem,qW,h1,e1,h3,h4,e,aJ h' hw.objs]
  ·simp at hb
   have e:(w.objs.take (k+1)).countP bF=(w.objs.take k).countP bF:=by rw[hs];simp[bF,hb]
   refine⟨_,_,_,rfl,?_⟩
   simp only[go_sem,qW,h1,e1,h3,h4,e,aJ h' hw.objs]
 ·have:k=w.objs.length:=by simp at h;omega
  subst this
  try simp only[go_sem,qW,h1,e1,h3,h4,bYc]
  refine aV (fun hb=>?_) (fun hb=>?_)
  ·simp at hb
   simp[iP];intro h0;omega
  ·have hn:w.tasks.length=w.objs.countP bF:=by simp at hb;omega
   clear hb h
   refine bD (w.tasks.length) (fun k st=> ∃fr en cnt,st=⟨fr,en,cnt⟩/\ (fr 1= .ptr ⟨0,1,0⟩ 0)/\ (en ⟨0,1,0⟩=some (.box w.cells false))/\ (fr 3= .int .i64 (w.tasks.length:Nat))/\ (fr 5= .int .i64 k)/\ (bB w (w.tasks.take k) (w.tasks.drop k)=bB w [] w.tasks)) 0 (bXl _) ⟨_,_,_,rfl,(by first|(simp only[go_sem,h1,e1,h3,h4,hn,bYc];(try rfl);done)|rfl|simp),(by first|(simp only[go_sem,h1,e1,h3,h4,hn,bYc];(try rfl);done)|rfl|simp),(by first|(simp only[go_sem,h1,e1,h3,h4,hn,bYc];(try rfl);done)|rfl|simp),(by first|(simp only[go_sem,h1,e1,h3,h4,hn,bYc];(try rfl);done)|rfl|simp),(by first|(simp only[go_sem,h1,e1,h3,h4,hn,bYc];(try rfl);done)|rfl|simp)⟩ ?_
   rintro k st hk ⟨fr,en,cnt,rfl,h1,e1,h3,h5,hI⟩
   simp only[go_sem,qW,h1,e1,h3,h5]
   refine aV (fun h=>?_) (fun h=>?_)
   ·have h':k<w.tasks.length:=of_decide_eq_true h;rw[bX7 h',bB,<-dF h']at hI;simp only[go_sem,qW,h',h1,e1,h3,h5,(kM _ _ _).ret,dL hw.objs]
    refine bA (fun hb=>?_) (fun hb=>?_)
    ·have hb':inR w.tasks[k] 0 (w.objs.length-1)=true:=by simpa using hb
     simp only[go_sem,qW,h',hb,hb',h1,e1,h3,h5,uK]
     refine bA (fun hc=>?_) (fun hc=>?_)
     ·have hc':bF (w.obj w.tasks[k])=true:=by simpa[bF]using hc
      simp only[go_sem,qW,h',hb,hb',hc,h1,e1,h3,h5,pQ,hk,<-bZd,(aHz _ _ (aBb hw.tasks k)).ret]
      refine aV (fun hd=>?_) (fun hd=>?_)
      ·simp[iP,<-hI,hb',hc',hd]
      ·refine⟨_,_,_,rfl,?_⟩
       simp only[go_sem,qW,h1,e1,h3,h5,aJ h' hw.tasks];rw[<-hI,hb',hc',hd];simp
     ·simp only[go_sem,qW,hc,h1,e1,h3,h5];simp[bF]at hc;simp[iP,<-hI,bF,hc]
    ·simp only[go_sem,qW,hb,h1,e1,h3,h5]
     simp at hb
     simp[iP,<-hI,hb]
   ·have:k=w.tasks.length:=by simp at h;omega
    subst this
    try simp only[go_sem,qW,h1,e1,h3,h5]
    have ht:bB w [] w.tasks=true:=by rw[<-hI];simp[bB]
    simp[iP,hn,ht]
theorem aKm (p:aP)(w:aB)(hp:p.few)(hw:w.few):PC L 37 [.agg [.fz (p.nodes.map aK.enc),.fz (p.funs.map (.int .i64)),.int .i64 p.main,.fz (p.cons.map bE.enc)],.agg [.fz (w.objs.map aI.enc),.fz (w.tasks.map (.int .i64)),.fz (w.outs.map aN.enc),.fz (w.ins.map (.int .i64)),.int .i64 w.used]] (.bool (gG p w)):=by
 refine aL bUk rfl rfl ?_
 simp only[go_sem,qW,bCf]
 repeat' ((first|with_reducible refine aV (fun h=>?_) (fun h=>?_)|with_reducible refine bA (fun h=>?_) (fun h=>?_))<;>(try simp only[cAg,cAh,bXp,bXz]at h)<;>try simp only[go_sem,qW, *,(kM _ _ _).ret,(aM8 _ _ hw.ins).ret,(aKl w hw).ret])
 all_goals (try simp only[bYh,bZ5,Int.not_lt,Int.not_le]at*)
 all_goals try(simp[gG, *];done)
 all_goals try(simp[gG, *];intros;omega)
 rename_i g1 g2 g3 g4
 refine bD (w.objs.length) (fun k st=> ∃fr en cnt,st=⟨fr,en,cnt⟩/\ (fr 2= .ptr ⟨0,2,0⟩ 0)/\ (en ⟨0,2,0⟩=some (.box p.cells false))/\ (fr 3= .ptr ⟨0,3,0⟩ 0)/\ (en ⟨0,3,0⟩=some (.box w.cells false))/\ (fr 5= .int .i64 k)/\ ((w.objs.drop k).all (dN p w)=w.objs.all (dN p w))) 0 (bXl _) ⟨_,_,_,rfl,(by first|(simp only[go_sem,qW];(try rfl);done)|rfl|simp),(by first|(simp only[go_sem,qW];(try rfl);done)|rfl|simp),(by first|(simp only[go_sem,qW];(try rfl);done)|rfl|simp),(by first|(simp only[go_sem,qW];(try rfl);done)|rfl|simp),(by first|(simp only[go_sem,qW];(try rfl);done)|rfl|simp),(by first|(simp only[go_sem,qW];(try rfl);done)|rfl|simp)⟩ ?_
 rintro k st hk ⟨fr,en,cnt,rfl,h2,e2,h3,e3,h5,hI⟩
 simp only[go_sem,qW,h2,e2,h3,e3,h5]
 refine aV (fun h1=>?_) (fun h1=>?_)
 ·have h':k<w.objs.length:=of_decide_eq_true h1;rw[fG h']at hI;simp only[go_sem,qW,h',h2,e2,h3,e3,h5,(aH0 p w _ hp hw (hw.obj w.objs[k] (bXn _))).ret]
  refine aV (fun hb=>?_) (fun hb=>?_)
  ·simp at hb
   simp[gG,<-hI,hb]
  ·simp at hb
   refine⟨_,_,_,rfl,?_⟩
   simp only[go_sem,qW,h2,e2,h3,e3,h5,aJ h' hw.objs];rw[<-hI,hb];simp
 ·have:k=w.objs.length:=by simp at h1;omega
  subst this;have hobj:w.objs.all (dN p w)=true:=by rw[<-hI];simp
  clear hI h1
  try simp only[go_sem,qW,h2,e2,h3,e3,h5]
  refine bD (w.outs.length) (fun k st=> ∃fr en cnt,st=⟨fr,en,cnt⟩/\ (fr 3= .ptr ⟨0,3,0⟩ 0)/\ (en ⟨0,3,0⟩=some (.box w.cells false))/\ (fr 6= .int .i64 k)/\ ((w.outs.drop k).all rX=w.outs.all rX)) 0 (bXl _) ⟨_,_,_,rfl,(by first|(simp only[go_sem,h2,e2,h3,e3,h5];(try rfl);done)|rfl|simp),(by first|(simp only[go_sem,h2,e2,h3,e3,h5];(try rfl);done)|rfl|simp),(by first|(simp only[go_sem,h2,e2,h3,e3,h5];(try rfl);done)|rfl|simp),(by first|(simp only[go_sem,h2,e2,h3,e3,h5];(try rfl);done)|rfl|simp)⟩ ?_
  rintro k st hk ⟨fr,en,cnt,rfl,h3,e3,h6,hI⟩
  simp only[go_sem,qW,h3,e3,h6]
  refine aV (fun h1=>?_) (fun h1=>?_)
  ·have h':k<w.outs.length:=of_decide_eq_true h1;rw[fG h']at hI;simp only[go_sem,qW,h',h3,e3,h6,(kM _ _ _).ret]
   refine bA (fun hb=>?_) (fun hb=>?_)
   ·simp at hb
    simp only[go_sem,qW,h',hb,bXp,h3,e3,h6,(kM _ _ _).ret]
    refine aV (fun hc=>?_) (fun hc=>?_)
    ·simp at hc
     simp[gG,<-hI,rX,hc]
    ·simp at hc
     refine⟨_,_,_,rfl,?_⟩
     simp only[go_sem,qW,h3,e3,h6,aJ h' hw.outs];rw[<-hI,rX,hb,hc];simp
   ·simp at hb
    simp only[go_sem,qW,hb,bXz,h3,e3,h6];simp[gG,<-hI,rX,hb]
  ·have:k=w.outs.length:=by simp at h1;omega
   subst this;have hout:w.outs.all rX=true:=by rw[<-hI];simp
   try simp only[go_sem,qW,h3,e3,h6]
   simp only[gG,hobj,hout,g3,g4,h];simp[g1,g2]
theorem oY (l:List aG):PC L 101 [.fz (l.map aG.enc)] (.bool (decide ((l.length:Int)<=40))):=by
 refine aL bJa rfl rfl ?_
 simp only[go_sem,qW,aRn]
theorem rZ (w:aB)(hw:w.few):PC L 57 [.agg [.fz (w.objs.map aI.enc),.fz (w.tasks.map (.int .i64)),.fz (w.outs.map aN.enc),.fz (w.ins.map (.int .i64)),.int .i64 w.used]] (.bool (aY w)):=by
 refine aL bUr rfl rfl ?_
 simp only[go_sem,qW,bCk]
 repeat' ((first|with_reducible refine aV (fun h=>?_) (fun h=>?_)|with_reducible refine bA (fun h=>?_) (fun h=>?_))<;>(try simp only[cAg,cAh,bXp,bXz]at h)<;>try simp only[go_sem,qW, *])
 all_goals (try simp only[bYh,bZ5,Int.not_lt,Int.not_le]at*)
 all_goals try(simp[aY, *];done)
 all_goals try(simp[aY, *];intros;omega)
 rename_i g1 g2 g3
 refine bD (w.objs.length) (fun k st=> ∃fr en cnt,st=⟨fr,en,cnt⟩/\ (fr 1= .ptr ⟨0,1,0⟩ 0)/\ (en ⟨0,1,0⟩=some (.box w.cells false))/\ (fr 3= .int .i64 k)/\ ((w.objs.drop k).all dE=w.objs.all dE)) 0 (bXl _) ⟨_,_,_,rfl,(by first|(simp only[go_sem,qW];(try rfl);done)|rfl|simp),(by first|(simp only[go_sem,qW];(try rfl);done)|rfl|simp),(by first|(simp only[go_sem,qW];(try rfl);done)|rfl|simp),(by first|(simp only[go_sem,qW];(try rfl);done)|rfl|simp)⟩ ?_
 rintro k st hk ⟨fr,en,cnt,rfl,h1,e1,h3,hI⟩
 simp only[go_sem,qW,h1,e1,h3]
 refine aV (fun hq=>?_) (fun hq=>?_)
 ·have h':k<w.objs.length:=of_decide_eq_true hq;have hx:=hw.obj w.objs[k] (bXn _);rw[fG h']at hI;simp only[go_sem,qW,h',h1,e1,h3,(oY _).ret]
  refine bA (fun hb=>?_) (fun hb=>?_)
  ·simp at hb
   try simp only[go_sem,qW,h',hb,h1,e1,h3]
   refine aV (fun hc=>?_) (fun hc=>?_)
   ·simp at hc
    simp[aY,<-hI,dE];intros;omega
   ·simp at hc
    generalize cnt 0 4=g4
    refine bD (w.objs[k].frames.length) (fun j st=> ∃fr en cnt,st=⟨fr,en,cnt⟩/\ (fr 1= .ptr ⟨0,1,0⟩ 0)/\ (en ⟨0,1,0⟩=some (.box w.cells false))/\ (fr 4= .ptr ⟨0,4,g4⟩ 0)/\ (en ⟨0,4,g4⟩=some (.box [.int .i64 w.objs[k].form,.int .i64 w.objs[k].n,.fz (w.objs[k].vals.map aG.enc),.fz (w.objs[k].frames.map aC.enc)] false))/\ (fr 3= .int .i64 k)/\ (fr 5= .int .i64 j)/\ ((w.objs[k].frames.drop j).all (fun f=>decide ((f.env.length:Int)<=40)&&decide ((f.vals.length:Int)<=40))=w.objs[k].frames.all fun f=>decide ((f.env.length:Int)<=40)&&decide ((f.vals.length:Int)<=40))) 0 (bXl _) ⟨_,_,_,rfl,(by first|(simp only[go_sem,h1,e1,h3];(try rfl);done)|rfl|simp),(by first|(simp only[go_sem,h1,e1,h3];(try rfl);done)|rfl|simp),(by first|(simp only[go_sem,h1,e1,h3];(try rfl);done)|rfl|simp),(by first|(simp only[go_sem,h1,e1,h3];(try rfl);done)|rfl|simp),(by first|(simp only[go_sem,h1,e1,h3];(try rfl);done)|rfl|simp),(by first|(simp only[go_sem,h1,e1,h3];(try rfl);done)|rfl|simp),(by first|(simp only[go_sem,h1,e1,h3];(try rfl);done)|rfl|simp)⟩ ?_
    rintro j st hk ⟨fr,en,cnt,rfl,h1,e1,h4,e4,h3,h5,hJ⟩
    simp only[go_sem,qW,h1,e1,h4,e4,h3,h5]
    refine aV (fun h2=>?_) (fun h2=>?_)
    ·have h2':j<w.objs[k].frames.length:=of_decide_eq_true h2;rw[fG h2']at hJ;simp only[go_sem,qW,h2',h1,e1,h4,e4,h3,h5,(oY _).ret]
     refine bA (fun hd=>?_) (fun hd=>?_)
     ·simp only[go_sem,qW,h2',hd,h1,e1,h4,e4,h3,h5,(oY _).ret]
      refine aV (fun he=>?_) (fun he=>?_)
      ·simp at he
       have:w.objs[k].frames.all (fun f=>decide ((f.env.length:Int)<=40)&&decide ((f.vals.length:Int)<=40))=false:=by rw[<-hJ];simp;intros;omega
       simp only[aY,<-hI,dE,this];simp
      ·refine⟨_,_,_,rfl,?_⟩
       simp only[go_sem,qW,h1,e1,h4,e4,h3,h5,aJ h2' hx.2.1]
       simp at hd he
       rw[<-hJ];simp;intros;exact⟨by omega,by omega⟩
     ·simp only[go_sem,qW,hd,bXz,h1,e1,h4,e4,h3,h5]
      simp at hd
      have:w.objs[k].frames.all (fun f=>decide ((f.env.length:Int)<=40)&&decide ((f.vals.length:Int)<=40))=false:=by rw[<-hJ];simp;intros;omega
      simp only[aY,<-hI,dE,this];simp
    ·have:j=w.objs[k].frames.length:=by simp at h2;omega
     subst this;have hfr:dE w.objs[k]=true:=by
      simp only[dE,<-hJ];simp;exact⟨by omega,by omega⟩
     try simp only[go_sem,qW,h1,e1,h4,e4,h3,h5]
     refine⟨_,_,_,rfl,?_⟩
     simp only[go_sem,qW,h1,e1,h4,e4,h3,h5,aJ h' hw.objs];rw[<-hI,hfr];simp
  ·simp only[go_sem,qW,h',hb,bXz,h1,e1,h3]
   simp at hb
   have:dE w.objs[k]=false:=by simp[dE];intros;omega
   simp[aY,<-hI,this]
 ·have:k=w.objs.length:=by simp at hq;omega
  subst this;have hobj:w.objs.all dE=true:=by rw[<-hI];simp
  try simp only[go_sem,qW,h1,e1,h4,e4,h3,h5]
  simp only[aY,hobj];simp[g1,g2,g3,h]
end Go.Proofs.YthpmfghgoabnhaaGreat
namespace Go.Abs
def lF (s:ByteArray):List UInt8:=s.data.toList
theorem oC (s:ByteArray):(lF s).length=s.size:=by unfold lF;rw[bZa];rfl
theorem aEx {s:ByteArray}{k:IntKind}{j:Nat}(h:j<(lF s).length):aRl (.str s) (.int k (j:Int))=some {v:= .int .u8 ((lF s)[j].toNat:Nat)}:=bB6 h
theorem aI4 (s:ByteArray):lF (s.extract 1 s.size)=(lF s).drop 1:=by
 have hs:s.size=s.data.toList.length:=by rw[bZa];rfl
 unfold lF;rw[ByteArray.data_extract,Array.toList_extract,hs];show List.take _ (List.drop 1 _)=_;exact bXs (by rw[bZi];exact bXd _)
def jE (b:UInt8):Bool:=decide (97<=(b.toNat:Int))&&decide ((b.toNat:Int)<=122)
def sR (l:List UInt8):Bool:=l.all jE
def aGa :List UInt8->Bool
 |[]=>false
 |b::l=>decide ((b::l).length<=8)&&decide (65<=(b.toNat:Int))&&decide ((b.toNat:Int)<=90)&&sR l
def aBd (x y:ByteArray):Bool:=x.toList==y.toList
def rC (l:List ByteArray)(s:ByteArray):Bool:=l.any fun x=>aBd x s
def kF :List ByteArray->List ByteArray->Bool
 |_,[]=>true
 |met,s::l=>!rC met s&&kF (met++[s]) l
def sA (c:bE):Bool:=aGa (lF c.name)&&inR c.args 0 3
def uL (l:List bE):Bool:=l.all sA&&decide ((l.length:Int)<=20)&&kF [] (l.map bE.name)
def wO (cons:List bE)(f n:Int)(k:Nat):Bool:=
 if f=1 \/f=2 \/f=5 then decide ((k:Int)=0)&&decide (n=0)
 else if f=3 then decide ((k:Int)=0)&&inR n (-1000000000) 1000000000
 else if f=4 then decide ((k:Int)=0)&&inR n 0 1
 else if f=6 then inR n 0 (cons.length-1)&&decide ((k:Int)=(cons.getD n.toNat default).args)else false
def aCz (t:ByteArray):Bool:=t.toList==(⟨#[]⟩:ByteArray).toList
def sB (cons:List bE)(f n:Int)(t:ByteArray)(k:Nat):Bool:=wO cons f n k&&aCz t
mutual
def sC (cons:List bE):Pat->Bool
 | .mk f n t ps=>sB cons f n t ps.length&&aGb cons ps
def aGb (cons:List bE):List Pat->Bool
 |[]=>true
 |p::ps=>sC cons p&&aGb cons ps
end
theorem aGc (cons:List bE): ∀l,aGb cons l=l.all (sC cons)
 |[]=>by simp[aGb]
 |p::ps=>by simp[aGb,aGc cons ps]
theorem aM9 (cons:List bE)(p:Pat):sC cons p=(sB cons p.form p.n p.text p.parts.length&&p.parts.all (sC cons)):=by
 cases p;simp only[sC,aGc,Pat.form,Pat.n,Pat.text,Pat.parts]
mutual
def oD :Pat->Int->Int
 | .mk _ _ _ ps,left=>if left<1 then-1 else iI ps (left-1)
def iI :List Pat->Int->Int
 |[],left=>left
 |p::ps,left=>if 0<=left then iI ps (oD p left)else left
end
mutual
def iW :Pat->Bool
 | .mk _ _ t ps=>pS ps&&decide ((t.size:Int)<=30)
def pS :List Pat->Bool
 |[]=>true
 |p::ps=>iW p&&pS ps
end
theorem vL : ∀l,pS l=l.all iW
 |[]=>by simp[pS]
 |p::ps=>by simp[pS,vL ps]
theorem zC (p:Pat):iW p=(p.parts.all iW&&decide ((p.text.size:Int)<=30)):=by
 cases p;simp only[iW,vL];rfl
theorem aGd (p:Pat)(left:Int):oD p left=if left<1 then-1 else iI p.parts (left-1):=by
 cases p;simp only[oD,Pat.parts]
mutual
theorem aGe : ∀(p:Pat) (left:Int),-1<=left-> -1<=oD p left/\ oD p left<=left
 | .mk _ _ _ ps,left,h=>by
  rw[oD];split
  ·omega
  ·have:=aI5 ps (left-1) (by omega);omega
theorem aI5 : ∀(l:List Pat) (left:Int),-1<=left-> -1<=iI l left/\ iI l left<=left
 |[],left,h=>by rw[iI];omega
 |p::ps,left,h=>by
  rw[iI];split
  ·have h1:=aGe p left h;have h2:=aI5 ps (oD p left) h1.1;omega
  ·omega
end
theorem aAc : ∀{l:List Pat} {left:Int},left<0->iI l left=left
 |[],_,_=>by rw[iI]
 |_::_,_,h=>by rw[iI,if_neg (by omega)]
def wP (p:Pat):Bool:=decide (0<=oD p 16)&&iW p
def fK (n:aK):Bool:=decide ((n.kids.length:Int)<=10)&&decide ((n.pats.length:Int)<=10)&&n.pats.all wP
def aT (p:aP):Bool:=
 decide ((p.nodes.length:Int)<=320)&&decide ((p.funs.length:Int)<=320)&&decide ((p.cons.length:Int)<=25)&&p.cons.all (fun c=>decide ((c.name.size:Int)<=40))&&p.nodes.all fK
def fX (op:Int)(pats:Int)(args:Int):Int:=
 if op=1 \/op=2 \/op=3 \/op=4 \/op=21 \/op=25 \/op=28 then 0
 else if op=5 \/op=27 \/op=16 \/op=17 \/op=19 \/op=20 \/op=23 \/op=26 \/op=24 then 1
 else if op=6 \/op=7 \/op=9 \/op=10 \/op=11 \/op=12 \/op=13 \/op=18 \/op=22 then 2
 else if op=8 then 3 else if op=15 then 1+pats else if op=14 then args else-1
def mE (cons:List bE)(q:Pat):Bool:=decide (0<=oD q 12)&&sC cons q
def nN (p:aP)(n:aK):Bool:=
 if n.op=1 then inR n.n (-1000000000) 1000000000
 else if n.op=2 then inR n.n 0 1
 else if n.op=4 then inR n.n (-(p.funs.length:Int)) 29
 else if n.op=24 then inR n.n 0 3
 else if n.op=14 then inR n.n 0 (p.cons.length-1)else decide (n.n=0)
def oZ (p:aP)(n:aK):Int:=if n.op=14/\ inR n.n 0 (p.cons.length-1)=true then(p.cons.getD n.n.toNat default).args else 0
def jT (n:aK):Bool:=if n.op=15 then inR n.pats.length 1 5 else decide ((n.pats.length:Int)=0)
def eG (p:aP)(n:aK):Bool:=
 ((nN p n&&jT n)&&n.pats.all (mE p.cons))&&decide ((n.kids.length:Int)=fX n.op n.pats.length (oZ p n))
def wQ (lo hi:Int):List Bool->List Int->Option (List Bool)
 |u,[]=>some u
 |u,x::l=>if inR x lo hi&&!(u.getD x.toNat false)then wQ lo hi (u.set x.toNat true) l else none
def jJ (p:aP):Nat->List Bool->List aK->Option (List Bool)
 |_,u,[]=>some u
 |i,u,n::l=>if eG p n then(wQ ((i:Int)+1) (p.nodes.length-1) u n.kids).bind fun u=>jJ p (i+1) u l else none
def uM :Option (List Bool)->Bool
 |some u=>u.all id
 |none=>false
def fZ (p:aP):Bool:=
 decide ((p.nodes.length:Int)<=300)&&inR p.funs.length 1 p.nodes.length&&inR p.main 0 (p.funs.length-1)&&uL p.cons&&
  uM ((wQ 0 (p.nodes.length-1) (List.replicate p.nodes.length false) p.funs).bind fun u=>jJ p 0 u p.nodes)
theorem Pat.few_parts {p:Pat}(h:p.few):Few p.parts.length/\ Few p.text.size/\ ∀q∈p.parts,q.few:=by
 cases h with|mk f n t l h ht k=>exact⟨h,ht,k⟩
theorem Pat.ind {P:Pat->Prop}(h: ∀p:Pat,(∀q∈p.parts,P q)->P p): ∀p,P p:=by
 intro p
 induction p using Pat.rec (motive_2:=fun l=> ∀q∈l,P q)with
 |mk f n t l ih=>exact h _ ih
 |nil=>rename_i q hq;simp at hq
 |cons p l h1 h2=>
  rename_i q hq;rcases bYe.1 hq with rfl|hq
  ·exact h1
  ·exact h2 _ hq
theorem aZp {s:ByteArray}{i:Nat}(h:i<(lF s).length):s.get! i=(lF s)[i]:=by
 have h':i<s.data.size:=by rw[oC]at h;exact h
 show s.data[i]! =_;rw[getElem!_pos s.data i h'];simp only[lF,Array.getElem_toList]
theorem aKn {s:ByteArray}{i:Nat}(h:i<(lF s).length):
  (jE (lF s)[i]=true->Utf8.decode s i=((lF s)[i].toNat,1))/\ (jE (lF s)[i]=false->((Utf8.decode s i).1:Int)<97 \/122<((Utf8.decode s i).1:Int)):=by
 have hg:=aZp h;simp only[jE,bXb,cAg,Bool.and_eq_false_iff,cAh];constructor
 ·intro hb;unfold Utf8.decode;simp only[bY2,hg];rw[if_pos (by omega)]
 ·intro hb;unfold Utf8.decode;simp only[bY2,hg,Utf8.runeError];split
  ·simp only;omega
  ·split
   ·split
    ·simp only;omega
    ·simp
   ·split
    ·split
     ·rename_i h1;simp only[bXb,cAg]at h1;simp only;omega
     ·simp
    ·split
     ·split
      ·rename_i h1;simp only[bXb,cAg]at h1;simp only;omega
      ·simp
     ·simp
def sS (ks:List ByteArray)(s:ByteArray):List ByteArray:=if rC ks s then ks else ks++[s]
theorem aGf : ∀(l ks:List ByteArray),(l.foldl sS ks).length<=ks.length+l.length
 |[],ks=>by simp
 |s::l,ks=>by
  have:=aGf l (sS ks s);simp only[bY5,bXu];have h2:(sS ks s).length<=ks.length+1:=by unfold sS;split<;>simp
  omega
theorem aBe : ∀(l ks:List ByteArray),decide ((l.foldl sS ks).length=ks.length+l.length)=kF ks l
 |[],ks=>by simp[kF]
 |s::l,ks=>by
  simp only[bY5,bXu,kF]
  by_cases h:rC ks s=true
  ·have:=aGf l ks;simp only[sS,h,if_true,bXp,bX6,cAh];omega
  ·have:=aBe l (ks++[s]);simp only[bYf]at h;simp only[sS,h,bXc,if_false,bXz,bX0];rw[<-this,decide_eq_decide];simp only[bX8,bXu,bYb];omega
mutual
def qF :Pat->Int->Int
 | .mk _ _ _ ps,most=>jU ps most 1
def jU :List Pat->Int->Int->Int
 |[],_,n=>n
 |q::qs,most,n=>if most<n then n else jU qs most (n+qF q (most-n))
end
theorem aZq (p:Pat)(most:Int):qF p most=jU p.parts most 1:=by cases p;simp only[qF,Pat.parts]
theorem aNa : ∀{l:List Pat} {most n:Int},most<n->jU l most n=n
 |[],_,_,_=>by rw[jU]
 |_::_,_,_,h=>by rw[jU,if_pos h]
mutual
theorem aGg : ∀(p:Pat) (most:Int),0<=most->1<=qF p most/\ qF p most<=most+1
 | .mk _ _ _ ps,most,h=>by rw[qF];exact aI6 ps most 1 (by omega)
theorem aI6 : ∀(l:List Pat) (most n:Int),n<=most+1->n<=jU l most n/\ jU l most n<=most+1
 |[],most,n,h=>by rw[jU];omega
 |q::qs,most,n,h=>by
  rw[jU];split
  ·omega
  ·have h1:=aGg q (most-n) (by omega)
   have h2:=aI6 qs most (n+qF q (most-n)) (by omega)
   omega
end
mutual
theorem aD7 : ∀(p:Pat) (most:Int),0<=most->oD p most=if qF p most<=most then most-qF p most else-1
 | .mk _ _ _ ps,most,h=>by
  have:=zD ps most 1 (by omega)
  rw[oD,qF];split
  ·rename_i h0;have h1:most=0:=by omega
   subst h1;rw[aNa (by omega),if_neg (by omega)]
  ·exact this
theorem zD : ∀(l:List Pat) (most n:Int),n<=most+1->iI l (most-n)=if jU l most n<=most then most-jU l most n else-1
 |[],most,n,h=>by
  rw[iI,jU];split<;>omega
 |q::qs,most,n,h=>by
  by_cases hm:0<=most-n
  ·rw[iI,jU,if_pos hm,if_neg (show¬most<n by omega)]
   have h1:=aGg q (most-n) (by omega)
   have hw:=aD7 q (most-n) (by omega)
   have h2:=zD qs most (n+qF q (most-n)) (by omega)
   rw[hw,<-h2];split
   ·congr 1;omega
   ·rw[aAc (by omega),aAc (by omega)];omega
  ·rw[iI,jU,if_neg hm,if_pos (show most<n by omega),if_neg (by omega)];omega
end
theorem aZr (q:Pat):decide (qF q 12<=12)=decide (0<=oD q 12):=by
 have h:=aD7 q 12 (by omega)
 rw[h,decide_eq_decide]
 split<;>omega
def uN (op:Int):Val:=
 if op=1 \/op=2 \/op=3 \/op=4 \/op=21 \/op=25 \/op=28 then .ifc 273 (.int .i64 0)
 else if op=5 \/op=27 \/op=16 \/op=17 \/op=19 \/op=20 \/op=23 \/op=26 \/op=24 then .ifc 273 (.int .i64 1)
 else if op=6 \/op=7 \/op=9 \/op=10 \/op=11 \/op=12 \/op=13 \/op=18 \/op=22 then .ifc 273 (.int .i64 2)
 else if op=8 then .ifc 273 (.int .i64 3)else if op=14 then .ifc 274 (.agg [])else if op=15 then .ifc 261 (.agg [])else .nili
theorem aH1 (op:Int):(∃c:Int,uN op= .ifc 273 (.int .i64 c)/\ (∀n a,fX op n a=c)/\ op≠14/\ op≠15) \/(op=14/\ uN op= .ifc 274 (.agg [])) \/
  (op=15/\ uN op= .ifc 261 (.agg [])) \/(uN op= .nili/\ (∀n a,fX op n a= -1)/\ op≠14/\ op≠15):=by
 unfold uN fX;split
 ·left;refine⟨0,rfl,fun _ _=>rfl,?_,?_⟩<;>omega
 split
 ·left;refine⟨1,rfl,fun _ _=>rfl,?_,?_⟩<;>omega
 split
 ·left;refine⟨2,rfl,fun _ _=>rfl,?_,?_⟩<;>omega
 split
 ·left;refine⟨3,rfl,fun _ _=>rfl,?_,?_⟩<;>omega
 split
 ·right;left;exact⟨by assumption,rfl⟩
 split
 ·right;right;left;exact⟨by assumption,rfl⟩
 ·right;right;right;refine⟨rfl,fun n a=>?_,?_,?_⟩<;>first|omega|skip
theorem aD8 (s:ByteArray): ∀ks:List ByteArray,(∃i,findKey .str (.str s) (ks.map .str)=some (some i)/\ rC ks s=true/\ (ks.map Val.str).set i (.str s)=ks.map .str) \/
  (findKey .str (.str s) (ks.map .str)=some none/\ rC ks s=false)
 |[]=> .inr ⟨rfl,rfl⟩
 |x::ks=>by
  have hsym:(s.toList==x.toList)=aBd x s:=by unfold aBd;exact Bool.beq_comm
  by_cases h:aBd x s=true
  ·refine .inl ⟨0,?_,?_,?_⟩
   ·simp only[bYa,findKey,mV,hsym,h]
   ·simp[rC,h]
   ·have:x=s:=by
     simp only[aBd,beq_iff_eq]at h;rw[Go.ByteArray.toList_eq,Go.ByteArray.toList_eq]at h;cases x;cases s;simp only at h
     congr
     exact Array.toList_inj.1 h
    simp[this]
  ·simp only[bYf]at h;rcases aD8 s ks with⟨i,h1,h2,h3⟩|⟨h1,h2⟩
   ·refine .inl ⟨i+1,?_,?_,?_⟩
    ·simp only[bYa,findKey,mV,hsym,h,h1]
    ·simp only[rC,bZs,h,bYy];exact h2
    ·simp[h3]
   ·refine .inr ⟨?_,?_⟩
    ·simp only[bYa,findKey,mV,hsym,h,h1]
    ·simp only[rC,bZs,h,bYy];exact h2
def eV (p:aP)(w:aB):Bool:=fZ p&&gG p w
end Go.Abs
namespace Go.Proofs.YthpmfghgoabnhaaGreat
open Go.Abs Go.Proofs
theorem nO (n lo hi:Int):PC L 111 [.int .i64 n,.int .i64 lo,.int .i64 hi] (.bool (inR n lo hi)):=by
 refine aL bJe rfl rfl ?_
 simp only[go_sem,qW,aRr]
 refine bA (fun h=>?_) (fun h=>?_)<;>simp only[go_sem,qW,h]<;>simp at h<;>simp[h,inR]
 omega
theorem aKo (s:ByteArray)(hs:Few s.size):PC L 184 [.str s] (.bool (sR (lF s))):=by
 refine aL bKr rfl rfl ?_
 simp only[go_sem,qW,aS2]
 refine bD (s.size) (fun k st=> ∃fr en cnt,st=⟨fr,en,cnt⟩/\ (fr 0= .str s)/\ (fr 3= .int .i64 k)/\ (((lF s).drop k).all jE=(lF s).all jE)) 0 (bXl _) ⟨_,_,_,rfl,(by first|(simp only[go_sem,qW];(try rfl);done)|rfl|simp),(by first|(simp only[go_sem,qW];(try rfl);done)|rfl|simp),(by first|(simp only[go_sem,qW];(try rfl);done)|rfl|simp)⟩ ?_
 rintro k st hk ⟨fr,en,cnt,rfl,h0,h3,hI⟩
 have hsz:=oC s;simp only[go_sem,qW,h0,h3]
 refine aV (fun h=>?_) (fun h=>?_)
 ·have h':k<s.size:=of_decide_eq_true h;have h'':k<(lF s).length:=by omega
  rw[fG h'']at hI;simp only[go_sem,qW,h',h'',h0,h3,aEx h'']
  refine bA (fun hb=>?_) (fun hb=>?_)
  ·simp only[go_sem,qW,h',hb,h0,h3,aEx h'']
   refine aV (fun hc=>?_) (fun hc=>?_)
   ·simp only[cAg,cAh]at hb hc;have:jE (lF s)[k]=false:=by simp only[jE,Bool.and_eq_false_iff,cAh];right;omega
    simp[sR,<-hI,this]
   ·simp only[cAg,cAh]at hb hc;have:jE (lF s)[k]=true:=by simp only[jE,bXb,cAg];constructor<;>omega
    refine⟨_,_,_,rfl,?_⟩
    simp only[go_sem,qW,h0,h3,aJ h' hs];rw[<-hI,this];simp
  ·simp only[go_sem,qW,hb,bXz,h0,h3];simp only[cAg,bXz]at hb;have:jE (lF s)[k]=false:=by simp only[jE,Bool.and_eq_false_iff,cAh];left;omega
   simp[sR,<-hI,this]
 ·have:k=s.size:=by simp at h;omega
  subst this
  try simp only[go_sem,qW,h0,h3]
  rw[sR,<-hI,<-hsz];simp
theorem aPq (l:List ByteArray)(s:ByteArray)(hl:Few l.length):PC L 185 [.fz (l.map .str),.str s] (.bool (rC l s)):=by
 refine aL bKs rfl rfl ?_
 simp only[go_sem,qW,aS3]
 refine bD (l.length) (fun k st=> ∃fr en cnt,st=⟨fr,en,cnt⟩/\ (fr 0= .fz (l.map .str))/\ (fr 1= .str s)/\ (fr 5= .int .i64 k)/\ ((l.drop k).any (fun x=>aBd x s)=l.any fun x=>aBd x s)) 0 (bXl _) ⟨_,_,_,rfl,(by first|(simp only[go_sem,qW];(try rfl);done)|rfl|simp),(by first|(simp only[go_sem,qW];(try rfl);done)|rfl|simp),(by first|(simp only[go_sem,qW];(try rfl);done)|rfl|simp),(by first|(simp only[go_sem,qW];(try rfl);done)|rfl|simp)⟩ ?_
 rintro k st hk ⟨fr,en,cnt,rfl,h0,h1,h5,hI⟩
 simp only[go_sem,qW,h0,h1,h5]
 refine aV (fun h=>?_) (fun h=>?_)
 ·have h':k<l.length:=of_decide_eq_true h;rw[aF1 h']at hI;simp only[go_sem,qW,h',h0,h1,h5]
  refine aV (fun hb=>?_) (fun hb=>?_)
  ·rw[rC,<-hI,aBd,hb];rfl
  ·refine⟨_,_,_,rfl,?_⟩
   simp only[go_sem,qW,h0,h1,h5,aJ h' hl];rw[<-hI,aBd,hb];simp
 ·have:k=l.length:=by simp at h;omega
  subst this
  try simp only[go_sem,qW,h0,h1,h5]
  rw[rC,<-hI];simp
theorem aH2 (l:List ByteArray)(hl:Few l.length):PC L 146 [.fz (l.map .str)] (.bool (kF [] l)):=by
 refine aL bJ1 rfl rfl ?_
 simp only[go_sem,qW,aSd]
 refine bD (l.length) (fun k st=> ∃fr en cnt,st=⟨fr,en,cnt⟩/\ (fr 0= .fz (l.map .str))/\ (fr 3= .int .i64 k)/\ (kF (l.take k) (l.drop k)=kF [] l)) 0 (bXl _) ⟨_,_,_,rfl,(by first|(simp only[go_sem,qW];(try rfl);done)|rfl|simp),(by first|(simp only[go_sem,qW];(try rfl);done)|rfl|simp),(by first|(simp only[go_sem,qW];(try rfl);done)|rfl|simp)⟩ ?_
 rintro k st hk ⟨fr,en,cnt,rfl,h0,h3,hI⟩
 simp only[go_sem,qW,h0,h3]
 refine aV (fun h=>?_) (fun h=>?_)
 ·have h':k<l.length:=of_decide_eq_true h;rw[bX7 h',kF,<-dF h']at hI;simp only[go_sem,qW,h',h0,h3,pQ,hk,<-bZd,(aPq _ _ (aBb hl k)).ret]
  refine aV (fun hb=>?_) (fun hb=>?_)
  ·rw[<-hI,hb];rfl
  ·refine⟨_,_,_,rfl,?_⟩
   simp only[go_sem,qW,h0,h3,aJ h' hl];rw[<-hI,hb];simp
 ·have:k=l.length:=by simp at h;omega
  subst this
  try simp only[go_sem,qW,h0,h3]
  rw[<-hI];simp[kF]
theorem aGh {s:ByteArray}{en:En}(h:1<=s.size):mB true 1 en (.str s) (some (.int .i64 1)) none none=some {v:= .str (s.extract 1 s.size)}:=by
 have:fP (some (.int .i64 1)) 0 s.size=some 1:=by
  simp only[fP];rw[if_pos ⟨by omega,by omega⟩];rfl
 simp[mB,wL,this]
theorem aGi {l:List UInt8}{n:Nat}(hn:l.length=n)(h:0<l.length):aGa l=(decide ((n:Int)<=8)&&decide ((65:Int)<=(l[0].toNat:Int))&&decide ((l[0].toNat:Int)<=90)&&sR (l.drop 1)):=by
 cases l with
 |nil=>simp at h
 |cons b l=>
  have e:decide ((b::l).length<=8)=decide ((n:Int)<=8):=by rw[decide_eq_decide,hn];omega
  simp only[aGa,e,List.getElem_cons_zero,List.drop_succ_cons,List.drop_zero]
theorem aKp (s:ByteArray)(hs:Few s.size):PC L 145 [.str s] (.bool (aGa (lF s))):=by
 refine aL bJ0 rfl rfl ?_
 simp only[go_sem,qW,aSc]
 refine bA (fun h=>?_) (fun h=>?_)
 ·have h':1<=s.size:=by simp at h;omega
  have h0:0<(lF s).length:=by rw[oC];omega
  have hix:=fun(k:IntKind)=>aEx (k:=k) h0
  simp only[Int.natCast_zero]at hix;rw[aGi (oC s) h0];simp only[go_sem,qW,h]
  refine bA (fun h1=>?_) (fun h1=>?_)<;>simp only[go_sem,qW,h1,hix]
  refine bA (fun h2=>?_) (fun h2=>?_)<;>simp only[go_sem,qW,h1,h2,hix]
  refine bA (fun h3=>?_) (fun h3=>?_)<;>simp only[go_sem,qW,h1,h2,h3,aGh h',(aKo _ (show Few (s.extract 1 s.size).size by unfold Few at*;simp;omega)).ret,aI4]
  all_goals simp only[cAg,cAh,bXp]at*
  all_goals simp[*]
 ·have:s.size=0:=by simp at h;omega
  have e:lF s=[]:=by rw[<-List.length_eq_zero_iff,oC,this]
  simp only[go_sem,qW,h];rw[e];rfl
theorem aNb (op n a:Int)(hn:0<=n/\ n<=1000):PC L 148 [.int .i64 op,.int .i64 n,.int .i64 a] (.int .i64 (fX op n a)):=by
 have e:IntKind.i64.wrap (1+n)=1+n:=bY (by omega)
 refine aL bJ3 rfl rfl ?_
 simp only[go_sem,qC,qG,qW,aSf,e]
 repeat' ((first|with_reducible refine aA (fun h=>?_) (fun h=>?_)|with_reducible refine aE (fun h=>?_) (fun h=>?_))<;>(try simp only[cAg,cAh,bXp,bXz]at h)<;>try simp only[go_sem,qC,qG,qW,h,e])
 all_goals simp[fX, *]
theorem vN : ∀q:Pat,q.few-> ∀left:Int,-1<=left->left<=1000->PC L 125 [.agg [.int .i64 q.form,.int .i64 q.n,.str q.text,.fz (q.parts.map Pat.enc)],.int .i64 left] (.int .i64 (oD q left)):=by
 refine Pat.ind fun q ih hq left h1 h2=>?_
 obtain⟨hl,_,hps⟩:=Pat.few_parts hq
 refine aL bJr rfl rfl ?_
 simp only[go_sem,qW,aR4]
 refine aV (fun h=>?_) (fun h=>?_)<;>simp only[cAg,cAh]at h
 ·simp[aGd,h]
 ·have e:IntKind.i64.wrap (left-1)=left-1:=bY (by omega)
  rw[aGd,if_neg h]
  try simp only[go_sem,qW,e]
  refine bD q.parts.length (fun k st=> ∃fr en cnt a,st=⟨fr,en,cnt⟩/\ fr 1= .int .i64 a/\ fr 5= .int .i64 k/\ fr 2= .ptr ⟨0,2,0⟩ 0/\ en ⟨0,2,0⟩=some (.box [.int .i64 q.form,.int .i64 q.n,.str q.text,.fz (q.parts.map Pat.enc)] false)/\ -1<=a/\ a<=1000/\ iI (q.parts.drop k) a=iI q.parts (left-1)) 0 (bXl _) ⟨_,_,_,left-1,rfl,by simp only[go_sem,qW],by simp only[go_sem,qW],by simp only[go_sem,qW],by simp only[go_sem,qW],by omega,by omega,rfl⟩ ?_
  rintro k st hk ⟨fr,en,cnt,a,rfl,h1,h5,h2,e2,ha,hb,hI⟩
  simp only[go_sem,qW,h1,h5,h2,e2]
  refine bA (fun hc=>?_) (fun hc=>?_)
  ·have h':k<q.parts.length:=of_decide_eq_true hc;rw[bX7 h',iI]at hI;have hm:q.parts[k]∈q.parts:=bXn _;simp only[go_sem,qW,hc,h',h1,h5,h2,e2]
   refine aV (fun hd=>?_) (fun hd=>?_)<;>simp only[cAg,cAh]at hd
   ·rw[if_pos hd]at hI;have hw:=aGe q.parts[k] a ha;simp only[go_sem,qW,h',h1,h5,h2,e2,(ih _ hm (hps _ hm) a ha hb).ret]
    refine⟨_,_,_,oD q.parts[k] a,rfl,?_⟩
    simp only[go_sem,qW,h',h1,h5,h2,e2,aJ h' hl];exact⟨hw.1,by omega,hI⟩
   ·rw[if_neg hd]at hI
    try simp only[go_sem,qW,h',h1,h5,h2,e2]
    rw[hI]
  ·have:k=q.parts.length:=by simp at hc;omega
   subst this
   try simp only[go_sem,qW,hc,h1,h5,h2,e2]
   rw[<-hI];simp[iI]
theorem aEp : ∀q:Pat,q.few->PC L 126 [.agg [.int .i64 q.form,.int .i64 q.n,.str q.text,.fz (q.parts.map Pat.enc)]] (.bool (iW q)):=by
 refine Pat.ind fun q ih hq=>?_
 obtain⟨hl,_,hps⟩:=Pat.few_parts hq
 refine aL bJs rfl rfl ?_
 simp only[go_sem,qW,aR5]
 refine bD (q.parts.length) (fun k st=> ∃fr en cnt,st=⟨fr,en,cnt⟩/\ (fr 1= .ptr ⟨0,1,0⟩ 0)/\ (en ⟨0,1,0⟩=some (.box [.int .i64 q.form,.int .i64 q.n,.str q.text,.fz (q.parts.map Pat.enc)] false))/\ (fr 3= .int .i64 k)/\ ((q.parts.drop k).all iW=q.parts.all iW)) 0 (bXl _) ⟨_,_,_,rfl,(by first|(simp only[go_sem,qW];(try rfl);done)|rfl|simp),(by first|(simp only[go_sem,qW];(try rfl);done)|rfl|simp),(by first|(simp only[go_sem,qW];(try rfl);done)|rfl|simp),(by first|(simp only[go_sem,qW];(try rfl);done)|rfl|simp)⟩ ?_
 rintro k st hk ⟨fr,en,cnt,rfl,h1,e1,h3,hI⟩
 simp only[go_sem,qW,h1,e1,h3]
 refine aV (fun h=>?_) (fun h=>?_)
 ·have h':k<q.parts.length:=of_decide_eq_true h;have hm:q.parts[k]∈q.parts:=bXn _;rw[fG h']at hI;simp only[go_sem,qW,h',h1,e1,h3,(ih _ hm (hps _ hm)).ret]
  refine aV (fun hb=>?_) (fun hb=>?_)
  ·simp at hb
   rw[zC,<-hI,hb];rfl
  ·simp at hb
   refine⟨_,_,_,rfl,?_⟩
   simp only[go_sem,qW,h1,e1,h3,aJ h' hl];rw[<-hI,hb];simp
 ·have:k=q.parts.length:=by simp at h;omega
  subst this;have ht:q.parts.all iW=true:=by rw[<-hI];simp
  try simp only[go_sem,qW,h1,e1,h3]
  rw[zC,ht];rfl
theorem aEq (q:Pat)(hq:q.few):PC L 87 [.agg [.int .i64 q.form,.int .i64 q.n,.str q.text,.fz (q.parts.map Pat.enc)]] (.bool (wP q)):=by
 refine aL bVa rfl rfl ?_
 simp only[go_sem,qW,bC3,(vN q hq 16 (by omega) (by omega)).ret]
 refine bA (fun h=>?_) (fun h=>?_)<;>simp only[go_sem,qW,h,(aEp q hq).ret]<;>simp at h<;>simp[wP,h]
 intros;omega
theorem aPr (cons:List bE)(hc:Few cons.length): ∀q:Pat,q.few->PC L 147 [.agg [.int .i64 q.form,.int .i64 q.n,.str q.text,.fz (q.parts.map Pat.enc)],.fz (cons.map bE.enc)] (.bool (sC cons q)):=by
 refine Pat.ind fun q ih hq=>?_
 obtain⟨hl,_,hps⟩:=Pat.few_parts hq
 refine aL bJ2 rfl rfl ?_
 have e:=dL hc;simp only[go_sem,aAb,Go.Abs.start,qC,qG,aSe]
 refine yG (fun st=>(st.fr 1= .fz (cons.map bE.enc))/\ (st.fr 2= .ptr ⟨0,2,0⟩ 0)/\ (st.en ⟨0,2,0⟩=some (.box [.int .i64 q.form,.int .i64 q.n,.str q.text,.fz (q.parts.map Pat.enc)] false))/\ (st.fr 6= .int .i64 q.parts.length)/\ (st.fr 5= .bool (wO cons q.form q.n q.parts.length))) ?_ ?_
 ·simp only[go_sem,qC,qG,qW,e,(nO _ _ _).ret]
  repeat' ((first|with_reducible refine aA (fun h=>?_) (fun h=>?_)|with_reducible refine aE (fun h=>?_) (fun h=>?_))<;>(try simp only[cAg,cAh,bXp,bXz]at h)<;>try simp only[go_sem,qC,qG,qW, *,(nO _ _ _).ret,aCy])
  all_goals try simp[wO, *]
  all_goals (intro h0;exact absurd (by simp[h0]) h)
 ·rintro fr en cnt ⟨(h1:fr 1= .fz (cons.map bE.enc)),(h2:fr 2= .ptr ⟨0,2,0⟩ 0),(e2:en ⟨0,2,0⟩=some (.box [.int .i64 q.form,.int .i64 q.n,.str q.text,.fz (q.parts.map Pat.enc)] false)),(h6:fr 6= .int .i64 q.parts.length),(h5:fr 5= .bool (wO cons q.form q.n q.parts.length))⟩
  refine yG (fun st=>(st.fr 1= .fz (cons.map bE.enc))/\ (st.fr 2= .ptr ⟨0,2,0⟩ 0)/\ (st.en ⟨0,2,0⟩=some (.box [.int .i64 q.form,.int .i64 q.n,.str q.text,.fz (q.parts.map Pat.enc)] false))/\ (st.fr 6= .int .i64 q.parts.length)/\ (st.fr 5= .bool (sB cons q.form q.n q.text q.parts.length))) ?_ ?_
  ·simp only[go_sem,qC,qG,qW,h1,h2,e2,h6,h5]
   repeat' ((first|with_reducible refine aA (fun h=>?_) (fun h=>?_)|with_reducible refine aE (fun h=>?_) (fun h=>?_))<;>(try simp only[cAg,cAh,bXp,bXz]at h)<;>try simp only[go_sem,qC,qG,qW, *])
   all_goals simp[sB,aCz, *]
  ·rintro fr en cnt ⟨(h1:fr 1= .fz (cons.map bE.enc)),(h2:fr 2= .ptr ⟨0,2,0⟩ 0),(e2:en ⟨0,2,0⟩=some (.box [.int .i64 q.form,.int .i64 q.n,.str q.text,.fz (q.parts.map Pat.enc)] false)),(h6:fr 6= .int .i64 q.parts.length),(h5:fr 5= .bool (sB cons q.form q.n q.text q.parts.length))⟩
   rw[aM9];generalize sB cons q.form q.n q.text q.parts.length=b0 at h5;simp only[go_sem,qC,qG,qW,h1,h2,e2,h6,h5]
   refine bD q.parts.length (fun k st=> ∃fr en cnt b,st=⟨fr,en,cnt⟩/\ fr 1= .fz (cons.map bE.enc)/\ fr 7= .int .i64 k/\ fr 6= .int .i64 q.parts.length/\ fr 2= .ptr ⟨0,2,0⟩ 0/\ en ⟨0,2,0⟩=some (.box [.int .i64 q.form,.int .i64 q.n,.str q.text,.fz (q.parts.map Pat.enc)] false)/\ fr 5= .bool b/\ (b&&(q.parts.drop k).all (sC cons))=(b0&&q.parts.all (sC cons))) 0 (bXl _) ⟨_,_,_,b0,rfl,by simp only[go_sem,h1,h2,e2,h6,h5],by simp only[go_sem,h1,h2,e2,h6,h5],by simp only[go_sem,h1,h2,e2,h6,h5],by simp only[go_sem,h1,h2,e2,h6,h5],by simp only[go_sem,h1,h2,e2,h6,h5],by simp only[go_sem,h1,h2,e2,h6,h5],rfl⟩ ?_
   rintro k st hk ⟨fr,en,cnt,b,rfl,h1,h7,h6,h2,e2,h5,hI⟩
   simp only[go_sem,qC,qG,qW,h1,h7,h6,h2,e2,h5]
   refine aE (fun hd=>?_) (fun hd=>?_)
   ·have h':k<q.parts.length:=of_decide_eq_true hd;have hm:q.parts[k]∈q.parts:=bXn _;rw[fG h']at hI;simp only[go_sem,qC,qG,qW,hd,h',h1,h7,h6,h2,e2,h5]
    refine aA (fun hb=>?_) (fun hb=>?_)
    ·simp only[go_sem,qC,qG,qW,hd,h',h1,h7,h6,h2,e2,h5,(ih _ hm (hps _ hm)).ret]
     refine⟨_,_,_,sC cons q.parts[k],rfl,?_⟩
     simp only[go_sem,qC,qG,qW,h',h1,h7,h6,h2,e2,h5,aJ h' hl];rw[<-hI,hb];simp
    ·simp only[go_sem,qC,qG,qW,hd,h',h1,h7,h6,h2,e2,h5];rw[<-hI,hb];simp
   ·have:k=q.parts.length:=by simp at hd;omega
    subst this;simp only[go_sem,qC,qG,qW,hd,h1,h7,h6,h2,e2,h5];rw[<-hI];simp
theorem aNc (l:List bE)(hl:l.length<=1000)(hs: ∀c∈l,Few c.name.size):PC L 112 [.fz (l.map bE.enc)] (.bool (uL l)):=by
 have hf:Few l.length:=by unfold Few;omega
 refine aL bJf rfl rfl ?_
 simp only[go_sem,qC,qG,qW,aRs]
 refine bD l.length (fun k st=> ∃fr en cnt,st=⟨fr,en,cnt⟩/\ fr 0= .fz (l.map bE.enc)/\ fr 4= .int .i64 k/\ cG en (fr 3) 1 ((l.take k).map fun c=> .str c.name) [34]/\ (l.drop k).all sA=l.all sA) 0 (bXl _) ⟨_,_,_,rfl,by simp only[go_sem,qW],by simp only[go_sem,qW],by simp only[go_sem,qW];exact cG.nil _ _,rfl⟩ ?_
 rintro k st hk ⟨fr,en,cnt,rfl,h0,h4,h3,hI⟩
 simp only[go_sem,qC,qG,qW,h0,h4]
 refine aA (fun h=>?_) (fun h=>?_)
 ·have h':k<l.length:=of_decide_eq_true h;have hm:l[k]∈l:=bXn _;rw[fG h']at hI;simp only[go_sem,qC,qG,qW,h',h0,h4,(aKp _ (hs _ hm)).ret]
  refine aE (fun hb=>?_) (fun hb=>?_)
  ·simp only[go_sem,qC,qG,qW,hb,h',h0,h4,(nO _ _ _).ret]
   refine aA (fun hc=>?_) (fun hc=>?_)
   ·simp only[go_sem,qC,qG,qW]
    simp at hc
    simp[uL,<-hI,sA,hc]
   ·simp only[go_sem,qC,qG,qW,h',h0,h4]
    simp at hb hc
    have hk2:sA l[k]=true:=by simp[sA,hb,hc]
    have hx:cG en (St.get (fun i=>fr i) (.t 3)) 1 ((l.take k).map fun c=>Val.str c.name) [34]:=h3
    refine pR (D:=[34]) (xs:=(l.take k).map fun c=>Val.str c.name) (ys:=[.str l[k].name]) (rs:=[]) ?_ ?_ ?_ ?_ ?_
    ·simp only[go_sem,qW];exact h3
    ·simp only[go_sem,qW]
    ·rfl
    ·simp;omega
    ·intro v en' cnt' hown hen hcnt;simp only[go_sem,qC,qG,qW,h',h0,h4]
     refine⟨_,_,_,rfl,?_⟩
     simp only[go_sem,qC,qG,qW,h',h0,h4,aJ h' hf]
     refine⟨?_,?_⟩
     ·exact cG.sub (by rw[dF h',bXw];exact hown) (by simp)
     ·rw[<-hI,hk2];simp
  ·simp only[go_sem,qC,qG,qW,hb,bXz]
   simp at hb
   simp[uL,<-hI,sA,hb]
 ·have:k=l.length:=by simp at h;omega
  subst this;have ha:l.all sA=true:=by rw[<-hI];simp
  simp only[go_sem,qC,qG,qW,h0]
  refine aE (fun hb=>?_) (fun hb=>?_)
  ·rw[bYc]at h3;have hmap:(l.map fun c=>Val.str c.name)=(l.map bE.name).map .str:=by simp
   simp only[go_sem,qC,qG,qW,hb];obtain⟨r,ks,e1,_,e2,_⟩:=h3.snap 7;have hd:=aH2 (l.map bE.name) (by simpa using hf)
   rw[<-hmap]at hd;simp only[go_sem,qC,qG,qW,e1,e2,hd.ret]
   simp at hb
   simp[uL,ha,hb]
  ·simp only[go_sem,qC,qG,qW,hb]
   simp at hb
   simp[uL,hb];intros;omega
end Go.Proofs.YthpmfghgoabnhaaGreat
namespace Go.Proofs.YthpmfghgoabnhaaGreat
open Go.Abs Go.Proofs
theorem aC0 (p:aP)(hp:p.few):PC L 40 [.agg [.fz (p.nodes.map aK.enc),.fz (p.funs.map (.int .i64)),.int .i64 p.main,.fz (p.cons.map bE.enc)]] (.bool (aT p)):=by
 refine aL bUl rfl rfl ?_
 simp only[go_sem,qC,qG,qS,qW,bCg]
 repeat' ((first|with_reducible refine aA (fun h=>?_) (fun h=>?_)|with_reducible refine aE (fun h=>?_) (fun h=>?_))<;>(try simp only[cAg,cAh,bXp,bXz]at h)<;>try simp only[go_sem,qC,qG,qS,qW, *])
 all_goals (try simp only[bYh,bZ5,Int.not_lt,Int.not_le]at*)
 all_goals try(simp[aT, *];done)
 all_goals try(simp[aT, *];intros;omega)
 rename_i g1 g2
 refine bD (p.cons.length) (fun k st=> ∃fr en cnt,st=⟨fr,en,cnt⟩/\ (fr 1= .ptr ⟨0,1,0⟩ 0)/\ (en ⟨0,1,0⟩=some (.box p.cells false))/\ (fr 3= .int .i64 k)/\ ((p.cons.drop k).all (fun c=>decide ((c.name.size:Int)<=40))=p.cons.all fun c=>decide ((c.name.size:Int)<=40))) 0 (bXl _) ⟨_,_,_,rfl,(by first|(simp only[go_sem,qW];(try rfl);done)|rfl|simp),(by first|(simp only[go_sem,qW];(try rfl);done)|rfl|simp),(by first|(simp only[go_sem,qW];(try rfl);done)|rfl|simp),(by first|(simp only[go_sem,qW];(try rfl);done)|rfl|simp)⟩ ?_
 rintro k st hk ⟨fr,en,cnt,rfl,h1,e1,h3,hI⟩
 simp only[go_sem,qC,qG,qS,qW,h1,e1,h3]
 refine aA (fun hq=>?_) (fun hq=>?_)
 ·have h':k<p.cons.length:=of_decide_eq_true hq;rw[fG h']at hI;simp only[go_sem,qC,qG,qS,qW,h',h1,e1,h3]
  refine aA (fun hb=>?_) (fun hb=>?_)
  ·simp only[go_sem,qC,qG,qS,qW]
   simp at hb
   have:p.cons.all (fun c=>decide ((c.name.size:Int)<=40))=false:=by rw[<-hI];simp;intros;omega
   simp only[aT,this];simp
  ·simp only[go_sem,qC,qG,qS,qW,h',h1,e1,h3]
   simp at hb
   refine⟨_,_,_,rfl,?_⟩
   simp only[go_sem,qW,h1,e1,h3,aJ h' hp.cons];rw[<-hI];simp;intros;omega
 ·have:k=p.cons.length:=by simp at hq;omega
  subst this;have hcon:p.cons.all (fun c=>decide ((c.name.size:Int)<=40))=true:=by rw[<-hI];simp
  clear hI hq;simp only[go_sem,qC,qG,qS,qW,h1,e1,h3]
  refine bD (p.nodes.length) (fun k st=> ∃fr en cnt,st=⟨fr,en,cnt⟩/\ (fr 1= .ptr ⟨0,1,0⟩ 0)/\ (en ⟨0,1,0⟩=some (.box p.cells false))/\ (fr 4= .int .i64 k)/\ ((p.nodes.drop k).all fK=p.nodes.all fK)) 0 (bXl _) ⟨_,_,_,rfl,(by first|(simp only[go_sem,h1,e1,h3];(try rfl);done)|rfl|simp),(by first|(simp only[go_sem,h1,e1,h3];(try rfl);done)|rfl|simp),(by first|(simp only[go_sem,h1,e1,h3];(try rfl);done)|rfl|simp),(by first|(simp only[go_sem,h1,e1,h3];(try rfl);done)|rfl|simp)⟩ ?_
  rintro k st hk ⟨fr,en,cnt,rfl,h1,e1,h4,hI⟩
  simp only[go_sem,qC,qG,qS,qW,h1,e1,h4]
  refine aA (fun hq=>?_) (fun hq=>?_)
  ·have h':k<p.nodes.length:=of_decide_eq_true hq;have hx:=hp.node p.nodes[k] (bXn _);rw[fG h']at hI;have fin:fK p.nodes[k]=false->Val.bool false=Val.bool (aT p):=by
    intro h;simp[aT,<-hI,h]
   simp only[go_sem,qC,qG,qS,qW,h',h1,e1,h4]
   refine aE (fun hb=>?_) (fun hb=>?_)
   ·simp only[go_sem,qC,qG,qS,qW,hb,h',h1,e1,h4]
    simp at hb
    refine aA (fun hc=>?_) (fun hc=>?_)
    ·simp only[go_sem,qC,qG,qS,qW]
     simp at hc
     exact fin (by simp[fK];intros;omega)
    ·simp only[go_sem,qC,qG,qS,qW,h',h1,e1,h4]
     simp at hc
     generalize cnt 0 5=g5
     refine bD (p.nodes[k].pats.length) (fun j st=> ∃fr en cnt,st=⟨fr,en,cnt⟩/\ (fr 1= .ptr ⟨0,1,0⟩ 0)/\ (en ⟨0,1,0⟩=some (.box p.cells false))/\ (fr 5= .ptr ⟨0,5,g5⟩ 0)/\ (en ⟨0,5,g5⟩=some (.box [.int .i64 p.nodes[k].op,.int .i64 p.nodes[k].n,.fz (p.nodes[k].kids.map (.int .i64)),.fz (p.nodes[k].pats.map Pat.enc)] false))/\ (fr 4= .int .i64 k)/\ (fr 6= .int .i64 j)/\ ((p.nodes[k].pats.drop j).all wP=p.nodes[k].pats.all wP)) 0 (bXl _) ⟨_,_,_,rfl,(by first|(simp only[go_sem,h1,e1,h4];(try rfl);done)|rfl|simp),(by first|(simp only[go_sem,h1,e1,h4];(try rfl);done)|rfl|simp),(by first|(simp only[go_sem,h1,e1,h4];(try rfl);done)|rfl|simp),(by first|(simp only[go_sem,h1,e1,h4];(try rfl);done)|rfl|simp),(by first|(simp only[go_sem,h1,e1,h4];(try rfl);done)|rfl|simp),(by first|(simp only[go_sem,h1,e1,h4];(try rfl);done)|rfl|simp),(by first|(simp only[go_sem,h1,e1,h4];(try rfl);done)|rfl|simp)⟩ ?_
     rintro j st hk ⟨fr,en,cnt,rfl,h1,e1,h5,e5,h4,h6,hJ⟩
     simp only[go_sem,qC,qG,qS,qW,h1,e1,h5,e5,h4,h6]
     refine aA (fun h2=>?_) (fun h2=>?_)
     ·have h2':j<p.nodes[k].pats.length:=of_decide_eq_true h2;rw[fG h2']at hJ;simp only[go_sem,qC,qG,qS,qW,h2',h1,e1,h5,e5,h4,h6,(aEq _ (hx.pat _ (bXn _))).ret]
      refine aA (fun hd=>?_) (fun hd=>?_)
      ·simp only[go_sem,qC,qG,qS,qW]
       simp at hd
       exact fin (by simp[fK,<-hJ,hd])
      ·simp only[go_sem,qC,qG,qS,qW,h2',h1,e1,h5,e5,h4,h6]
       simp at hd
       refine⟨_,_,_,rfl,?_⟩
       simp only[go_sem,qW,h1,e1,h5,e5,h4,h6,aJ h2' hx.pats];rw[<-hJ,hd];simp
     ·have:j=p.nodes[k].pats.length:=by simp at h2;omega
      subst this;have hfr:fK p.nodes[k]=true:=by
       simp only[fK,<-hJ];simp;exact⟨by omega,by omega⟩
      simp only[go_sem,qC,qG,qS,qW,h',h1,e1,h5,e5,h4,h6]
      refine⟨_,_,_,rfl,?_⟩
      simp only[go_sem,qW,h1,e1,h5,e5,h4,h6,aJ h' hp.nodes];rw[<-hI,hfr];simp
   ·simp only[go_sem,qC,qG,qS,qW,hb,bXz,h1,e1,h4]
    simp at hb
    exact fin (by simp[fK];intros;omega)
  ·have:k=p.nodes.length:=by simp at hq;omega
   subst this;have hn:p.nodes.all fK=true:=by rw[<-hI];simp
   simp only[go_sem,qC,qG,qS,qW,h1,e1,h4];simp only[aT,hcon,hn];simp[g1,g2,h]
theorem aNd (p:aP)(n:aK)(hp:p.few)(hn:n.few):PC L 113 [.agg [.fz (p.nodes.map aK.enc),.fz (p.funs.map (.int .i64)),.int .i64 p.main,.fz (p.cons.map bE.enc)],.agg [.int .i64 n.op,.int .i64 n.n,.fz (n.kids.map (.int .i64)),.fz (n.pats.map Pat.enc)]] (.bool (eG p n)):=by
 have e1:IntKind.i64.wrap (0-(p.funs.length:Int))= -(p.funs.length:Int):=by have:=hp.funs;unfold Few at this;rw[bY (by omega)];omega
 have e2:=dL hp.cons
 refine aL bJg rfl rfl ?_
 simp only[go_sem,aAb,Go.Abs.start,qC,qG,qS,aRt]
 refine yG (fun st=>(st.fr 2= .ptr ⟨0,2,0⟩ 0)/\ (st.en ⟨0,2,0⟩=some (.box p.cells false))/\ (st.fr 3= .ptr ⟨0,3,0⟩ 0)/\ (st.en ⟨0,3,0⟩=some (.box [.int .i64 n.op,.int .i64 n.n,.fz (n.kids.map (.int .i64)),.fz (n.pats.map Pat.enc)] false))/\ (st.fr 6= .bool (nN p n))/\ (st.fr 5= .int .i64 (oZ p n))) ?_ ?_
 ·simp only[go_sem,qC,qG,qS,qW]
  repeat' ((first|with_reducible refine aA (fun h=>?_) (fun h=>?_)|with_reducible refine aE (fun h=>?_) (fun h=>?_))<;>(try simp only[cAg,cAh,bXp,bXz]at h)<;>try simp only[go_sem,qC,qG,qS,qW, *,(nO _ _ _).ret,aCy])
  all_goals simp[nN,oZ, *]
 ·rintro fr en cnt ⟨(h2:fr 2= .ptr ⟨0,2,0⟩ 0),(e2:en ⟨0,2,0⟩=some (.box p.cells false)),(h3:fr 3= .ptr ⟨0,3,0⟩ 0),(e3:en ⟨0,3,0⟩=some (.box [.int .i64 n.op,.int .i64 n.n,.fz (n.kids.map (.int .i64)),.fz (n.pats.map Pat.enc)] false)),(h6:fr 6= .bool (nN p n)),(h5:fr 5= .int .i64 (oZ p n))⟩
  refine yG (fun st=>(st.fr 2= .ptr ⟨0,2,0⟩ 0)/\ (st.en ⟨0,2,0⟩=some (.box p.cells false))/\ (st.fr 3= .ptr ⟨0,3,0⟩ 0)/\ (st.en ⟨0,3,0⟩=some (.box [.int .i64 n.op,.int .i64 n.n,.fz (n.kids.map (.int .i64)),.fz (n.pats.map Pat.enc)] false))/\ (st.fr 6= .bool (nN p n&&jT n))/\ (st.fr 5= .int .i64 (oZ p n))) ?_ ?_
  ·simp only[go_sem,qC,qG,qS,qW,h2,e2,h3,e3,h6,h5]
   repeat' ((first|with_reducible refine aA (fun h=>?_) (fun h=>?_)|with_reducible refine aE (fun h=>?_) (fun h=>?_))<;>(try simp only[cAg,cAh,bXp,bXz]at h)<;>try simp only[go_sem,qC,qG,qS,qW, *,(nO _ _ _).ret])
   all_goals simp[jT, *]
  ·rintro fr en cnt ⟨(h2:fr 2= .ptr ⟨0,2,0⟩ 0),(e2:en ⟨0,2,0⟩=some (.box p.cells false)),(h3:fr 3= .ptr ⟨0,3,0⟩ 0),(e3:en ⟨0,3,0⟩=some (.box [.int .i64 n.op,.int .i64 n.n,.fz (n.kids.map (.int .i64)),.fz (n.pats.map Pat.enc)] false)),(h6:fr 6= .bool (nN p n&&jT n)),(h5:fr 5= .int .i64 (oZ p n))⟩
   have hb0:(nN p n&&jT n)=true->0<=(n.pats.length:Int)/\ (n.pats.length:Int)<=1000:=by
    intro h;simp only[bXb]at h;have:=h.2;unfold jT at this;split at this
    ·simp[inR]at this;omega
    ·simp at this;simp[this]
   have hres:eG p n=(((nN p n&&jT n)&&n.pats.all (mE p.cons))&&decide ((n.kids.length:Int)=fX n.op n.pats.length (oZ p n))):=rfl;rw[hres];clear hres e1;generalize (nN p n&&jT n)=b0 at h6 hb0
   refine yG (fun st=>st.fr 2= .ptr ⟨0,2,0⟩ 0/\ st.en ⟨0,2,0⟩=some (.box p.cells false)/\ st.fr 3= .ptr ⟨0,3,0⟩ 0/\ st.en ⟨0,3,0⟩=some (.box [.int .i64 n.op,.int .i64 n.n,.fz (n.kids.map (.int .i64)),.fz (n.pats.map Pat.enc)] false)/\ st.fr 6= .bool (b0&&n.pats.all (mE p.cons))/\ st.fr 5= .int .i64 (oZ p n)) ?_ ?_
   ·simp only[go_sem,qC,qG,qS,qW,h2,e2,h3,e3,h6,h5]
    refine bD n.pats.length (fun k st=> ∃fr en cnt b,st=⟨fr,en,cnt⟩/\ fr 2= .ptr ⟨0,2,0⟩ 0/\ en ⟨0,2,0⟩=some (.box p.cells false)/\ fr 3= .ptr ⟨0,3,0⟩ 0/\ en ⟨0,3,0⟩=some (.box [.int .i64 n.op,.int .i64 n.n,.fz (n.kids.map (.int .i64)),.fz (n.pats.map Pat.enc)] false)/\ fr 5= .int .i64 (oZ p n)/\ fr 7= .int .i64 k/\ fr 6= .bool b/\ (b&&(n.pats.drop k).all (mE p.cons))=(b0&&n.pats.all (mE p.cons))) 0 (bXl _) ⟨_,_,_,b0,rfl,by simp only[go_sem,h2,e2,h3,e3,h6,h5],by simp only[go_sem,h2,e2,h3,e3,h6,h5],by simp only[go_sem,h2,e2,h3,e3,h6,h5],by simp only[go_sem,h2,e2,h3,e3,h6,h5],by simp only[go_sem,h2,e2,h3,e3,h6,h5],by simp only[go_sem,h2,e2,h3,e3,h6,h5],by simp only[go_sem,h2,e2,h3,e3,h6,h5],rfl⟩ ?_
    rintro k st hk ⟨fr,en,cnt,b,rfl,h2,e2,h3,e3,h5,h7,h6,hI⟩
    simp only[go_sem,qC,qG,qS,qW,h2,e2,h3,e3,h5,h7,h6]
    refine aE (fun hd=>?_) (fun hd=>?_)
    ·have h':k<n.pats.length:=of_decide_eq_true hd;have hm:n.pats[k]∈n.pats:=bXn _;rw[fG h']at hI;simp only[go_sem,qC,qG,qS,qW,hd,h2,e2,h3,e3,h5,h7,h6]
     refine aA (fun hb=>?_) (fun hb=>?_)
     ·rw[hb]at hI;simp only[go_sem,qC,qG,qS,qW,hd,h',h2,e2,h3,e3,h5,h7,h6,(vN _ (hn.pat _ hm) 12 (by omega) (by omega)).ret]
      refine aE (fun hw=>?_) (fun hw=>?_)
      ·simp only[go_sem,qC,qG,qS,qW,hw,h',h2,e2,h3,e3,h5,h7,h6,(aPr _ hp.cons _ (hn.pat _ hm)).ret]
       refine⟨_,_,_,sC p.cons n.pats[k],rfl,?_⟩
       simp only[go_sem,qC,qG,qS,qW,h',h2,e2,h3,e3,h5,h7,h6,aJ h' hn.pats];rw[<-hI];simp[mE,of_decide_eq_true hw]
      ·simp only[go_sem,qC,qG,qS,qW,hw,h',h2,e2,h3,e3,h5,h7,h6]
       refine⟨_,_,_,false,rfl,?_⟩
       simp only[go_sem,qC,qG,qS,qW,h',h2,e2,h3,e3,h5,h7,h6,aJ h' hn.pats]
       simp at hw
       rw[<-hI];simp[mE];intros;omega
     ·simp only[go_sem,qC,qG,qS,qW,hd,h',h2,e2,h3,e3,h5,h7,h6];rw[<-hI,hb];simp
    ·have:k=n.pats.length:=by simp at hd;omega
     subst this;simp only[go_sem,qC,qG,qS,qW,hd,h2,e2,h3,e3,h5,h7,h6];rw[<-hI];simp
   ·rintro fr en cnt ⟨(h2:fr 2=_),(e2:en _=_),(h3:fr 3=_),(e3:en _=_),(h6:fr 6=_),(h5:fr 5=_)⟩
    generalize hbb:(b0&&n.pats.all (mE p.cons))=b at h6⊢;simp only[go_sem,qC,qG,qS,qW]
    refine wK ?_ ?_
    ·decide
    simp only[go_sem,qC,qG,qS,qW,h2,e2,h3,e3,h5,h6]
    refine aE (fun hd=>?_) (fun hd=>?_)
    ·have h0:b0=true:=by
      simp only[hd,bXb]at hbb;exact hbb.1
     simp only[go_sem,qC,qG,qS,qW,hd,h2,e2,h3,e3,h5,h6,(aNb _ _ _ (hb0 h0)).ret]
    ·simp only[go_sem,qC,qG,qS,qW,hd,h2,e2,h3,e3,h5,h6]
theorem aUv {u:List Bool}{n:Nat}{x:Int}(hu:u.length=n)(h:inR x 0 ((n:Int)-1)=true):0<=x/\ x<(n:Int)/\ (u.map Val.bool)[x.toNat]?=some (.bool (u.getD x.toNat false)):=by
 simp only[inR,cAg]at h;have hx:x.toNat<u.length:=by omega
 exact⟨by omega,by omega,by simp[bXm,hx]⟩
theorem aH3 (p:aP)(hp:p.few)(hs:p.cons.length<=1000):PC L 66 [.agg [.fz (p.nodes.map aK.enc),.fz (p.funs.map (.int .i64)),.int .i64 p.main,.fz (p.cons.map bE.enc)]] (.bool (fZ p)):=by
 have w1:=dL hp.nodes;have w2:=dL hp.funs
 refine aL bUw rfl rfl ?_
 simp only[go_sem,qC,qG,qS,qW,bCp,w1,w2]
 repeat' ((first|with_reducible refine aA (fun h=>?_) (fun h=>?_)|with_reducible refine aE (fun h=>?_) (fun h=>?_))<;>(try simp only[cAg,cAh,bXp,bXz]at h)<;>try simp only[go_sem,qC,qG,qS,qW, *,(nO _ _ _).ret,(aNc _ hs hp.con).ret])
 all_goals (try simp only[bYh,bZ5,Int.not_lt,Int.not_le]at*)
 all_goals try(simp[fZ, *];done)
 all_goals try(simp[fZ, *];intros;omega)
 rename_i g1 g2 g3;have hn:p.nodes.length<=16777216:=by omega
 have hfo:fZ p=uM ((wQ 0 (p.nodes.length-1) (List.replicate p.nodes.length false) p.funs).bind fun u=>jJ p 0 u p.nodes):=by simp[fZ,g1,g2,g3,h]
 rw[hfo];clear hfo;simp only[go_sem,qC,qG,qS,qW,aCw hn]
 refine bD p.funs.length (fun k st=> ∃fr en cnt u,st=⟨fr,en,cnt⟩/\ (fr 1= .ptr ⟨0,1,0⟩ 0/\ en ⟨0,1,0⟩=some (.box p.cells false)/\ fr 3= .int .i64 p.nodes.length/\ fr 4= .bl ⟨0,40,0⟩ 0 p.nodes.length/\ en ⟨0,40,0⟩=some (.blk 1 (u.map Val.bool) false)/\ u.length=p.nodes.length)/\ fr 5= .int .i64 k/\ wQ 0 (p.nodes.length-1) u (p.funs.drop k)=wQ 0 (p.nodes.length-1) (List.replicate p.nodes.length false) p.funs) 0 (bXl _) ⟨_,_,_,List.replicate p.nodes.length false,rfl,⟨by simp only[go_sem,qW],by simp only[go_sem,qW],by simp only[go_sem,qW],by simp only[go_sem,qW],by simp only[go_sem,List.map_replicate],by simp⟩,by simp only[go_sem,qW],rfl⟩ ?_
 rintro k st hk ⟨fr,en,cnt,u,rfl,⟨h1,e1,h3,h4,eu,hu⟩,h5,hI⟩
 simp only[go_sem,qC,qG,qS,qW,h1,e1,h5]
 refine aA (fun hq=>?_) (fun hq=>?_)
 ·have h':k<p.funs.length:=of_decide_eq_true hq;rw[bX7 h',wQ]at hI;simp only[go_sem,qC,qG,qS,qW,h',h1,e1,h3,h4,eu,h5,(nO _ _ _).ret,w1]
  refine aE (fun hb=>?_) (fun hb=>?_)
  ·simp at hb
   obtain⟨a1,a2,a3⟩:=aUv hu hb;rw[hb]at hI;simp only[go_sem,qC,qG,qS,qW,hb,bXp,h',h1,e1,h3,h4,eu,h5,a1,a2,a3]
   refine aA (fun hc=>?_) (fun hc=>?_)
   ·simp only[go_sem,qC,qG,qS,qW];rw[hc]at hI
    simp at hI
    rw[<-hI];rfl
   ·simp only[go_sem,qC,qG,qS,qW,h',h1,e1,h3,h4,eu,h5,a1,a2,a3];rw[hc]at hI
    simp at hI
    refine⟨_,_,_,u.set p.funs[k].toNat true,rfl,?_⟩
    simp only[go_sem,qC,qG,qS,qW,h',h1,e1,h3,h4,eu,h5,a1,a2,a3,<-bYu,aJ h' hp.funs];exact⟨by simp[hu],hI⟩
  ·simp only[go_sem,qC,qG,qS,qW,hb,bXz]
   simp at hb
   rw[hb]at hI
   simp at hI
   rw[<-hI];rfl
 ·have:k=p.funs.length:=by simp at hq;omega
  subst this;rw[bY7,wQ]at hI;rw[<-hI];simp only[Option.bind_some];clear hq hI hk;generalize hM:jJ p 0 u p.nodes=M;simp only[go_sem,qC,qG,qS,qW,h1,e1,h3]
  refine bD p.nodes.length (fun k st=> ∃fr en cnt u,st=⟨fr,en,cnt⟩/\ (fr 1= .ptr ⟨0,1,0⟩ 0/\ en ⟨0,1,0⟩=some (.box p.cells false)/\ fr 3= .int .i64 p.nodes.length/\ fr 4= .bl ⟨0,40,0⟩ 0 p.nodes.length/\ en ⟨0,40,0⟩=some (.blk 1 (u.map Val.bool) false)/\ u.length=p.nodes.length)/\ fr 6= .int .i64 k/\ jJ p k u (p.nodes.drop k)=M) 0 (bXl _) ⟨_,_,_,u,rfl,⟨by simp only[go_sem,h1,e1,h3,h4,eu,hu],by simp only[go_sem,h1,e1,h3,h4,eu,hu],by simp only[go_sem,h1,e1,h3,h4,eu,hu],by simp only[go_sem,h1,e1,h3,h4,eu,hu],by simp only[go_sem,h1,e1,h3,h4,eu,hu],hu⟩,by simp only[go_sem,qW],hM⟩ ?_
  clear hM h1 e1 h3 h4 eu hu h5
  rintro k st hk ⟨fr,en,cnt,u,rfl,⟨h1,e1,h3,h4,eu,hu⟩,h6,hI⟩
  simp only[go_sem,qC,qG,qS,qW,h1,e1,h3,h6]
  refine aA (fun hq=>?_) (fun hq=>?_)
  ·have h':k<p.nodes.length:=of_decide_eq_true hq;have hx:=hp.node p.nodes[k] (bXn _);rw[bX7 h',jJ]at hI;simp only[go_sem,qC,qG,qS,qW,h',h1,e1,h3,h6,(aNd p _ hp hx).ret]
   refine aA (fun hb=>?_) (fun hb=>?_)
   ·simp only[go_sem,qC,qG,qS,qW]
    simp at hb
    rw[hb]at hI;rw[<-hI];rfl
   ·simp only[go_sem,qC,qG,qS,qW,h',h1,e1,h3,h6]
    simp at hb
    rw[hb]at hI;simp only[if_true]at hI;generalize hm:wQ ((k:Int)+1) (p.nodes.length-1) u p.nodes[k].kids=m at hI
    refine bD p.nodes[k].kids.length (fun j st=> ∃fr en cnt u,st=⟨fr,en,cnt⟩/\ (fr 1= .ptr ⟨0,1,0⟩ 0/\ en ⟨0,1,0⟩=some (.box p.cells false)/\ fr 3= .int .i64 p.nodes.length/\ fr 4= .bl ⟨0,40,0⟩ 0 p.nodes.length/\ en ⟨0,40,0⟩=some (.blk 1 (u.map Val.bool) false)/\ u.length=p.nodes.length)/\ fr 6= .int .i64 k/\ fr 7= .int .i64 j/\ wQ ((k:Int)+1) (p.nodes.length-1) u (p.nodes[k].kids.drop j)=m) 0 (bXl _) ⟨_,_,_,u,rfl,⟨by simp only[go_sem,h1,e1,h3,h4,eu,hu],by simp only[go_sem,h1,e1,h3,h4,eu,hu],by simp only[go_sem,h1,e1,h3,h4,eu,hu],by simp only[go_sem,h1,e1,h3,h4,eu,hu],by simp only[go_sem,h1,e1,h3,h4,eu,hu],hu⟩,by simp only[go_sem,h6],by simp only[go_sem,qW],hm⟩ ?_
    clear hm h1 e1 h3 h4 eu hu h6
    rintro j st hj ⟨fr,en,cnt,u,rfl,⟨h1,e1,h3,h4,eu,hu⟩,h6,h7,hJ⟩
    simp only[go_sem,qC,qG,qS,qW,h',h1,e1,h3,h6,h7]
    refine aA (fun h2=>?_) (fun h2=>?_)
    ·have h2':j<p.nodes[k].kids.length:=of_decide_eq_true h2;rw[bX7 h2',wQ]at hJ;have w3:IntKind.i64.wrap ((k:Int)+1)=(k:Int)+1:=bY (by omega)
     simp only[go_sem,qC,qG,qS,qW,h',h2',h1,e1,h3,h4,eu,h6,h7,(nO _ _ _).ret,w1,w3]
     refine aE (fun hc=>?_) (fun hc=>?_)
     ·simp at hc
      have hc0:inR p.nodes[k].kids[j] 0 ((p.nodes.length:Int)-1)=true:=by simp[inR]at hc⊢;omega
      obtain⟨a1,a2,a3⟩:=aUv hu hc0;rw[hc]at hJ;simp only[go_sem,qC,qG,qS,qW,hc,bXp,h1,e1,h3,h4,eu,h6,h7,a1,a2,a3]
      refine aA (fun hd=>?_) (fun hd=>?_)
      ·simp only[go_sem,qC,qG,qS,qW];rw[hd]at hJ
       simp at hJ
       rw[<-hI,<-hJ];rfl
      ·simp only[go_sem,qC,qG,qS,qW,h2',h1,e1,h3,h4,eu,h6,h7,a1,a2,a3];rw[hd]at hJ
       simp at hJ
       refine⟨_,_,_,u.set p.nodes[k].kids[j].toNat true,rfl,?_⟩
       simp only[go_sem,qC,qG,qS,qW,h2',h1,e1,h3,h4,eu,h6,h7,a1,a2,a3,<-bYu,aJ h2' hx.kids];exact⟨by simp[hu],hJ⟩
     ·simp only[go_sem,qC,qG,qS,qW,hc,bXz]
      simp at hc
      rw[hc]at hJ
      simp at hJ
      rw[<-hI,<-hJ];rfl
    ·have:j=p.nodes[k].kids.length:=by simp at h2;omega
     subst this;rw[bY7,wQ]at hJ;rw[<-hJ]at hI;simp only[Option.bind_some]at hI;simp only[go_sem,qC,qG,qS,qW,h',h1,e1,h3,h4,eu,h6,h7]
     refine⟨_,_,_,u,rfl,?_⟩
     simp only[go_sem,qC,qG,qS,qW,h1,e1,h3,h4,eu,h6,h7,hu,aJ h' hp.nodes];exact hI
  ·have:k=p.nodes.length:=by simp at hq;omega
   subst this;rw[bY7,jJ]at hI;rw[<-hI];simp only[uM];simp only[go_sem,qC,qG,qS,qW,h1,e1,h3,h4]
   refine bD p.nodes.length (fun k st=> ∃fr en cnt,st=⟨fr,en,cnt⟩/\ fr 3= .int .i64 p.nodes.length/\ fr 4= .bl ⟨0,40,0⟩ 0 p.nodes.length/\ en ⟨0,40,0⟩=some (.blk 1 (u.map Val.bool) false)/\ fr 9= .int .i64 k/\ (u.drop k).all id=u.all id) 0 (bXl _) ⟨_,_,_,rfl,by simp only[go_sem,h1,e1,h3,h4,eu,hu],by simp only[go_sem,h1,e1,h3,h4,eu,hu],by simp only[go_sem,h1,e1,h3,h4,eu,hu],by simp only[go_sem,qW],rfl⟩ ?_
   clear h1 e1 h3 h4 eu h6 hI hq hk
   rintro k st hk ⟨fr,en,cnt,rfl,h3,h4,eu,h9,hI⟩
   simp only[go_sem,qC,qG,qS,qW,h3,h9]
   refine aA (fun hq=>?_) (fun hq=>?_)
   ·have h':k<p.nodes.length:=of_decide_eq_true hq;have h'':k<u.length:=by omega
    rw[fG h'']at hI;have a3:(u.map Val.bool)[k]?=some (.bool u[k]):=by simp[h'']
    simp only[go_sem,qC,qG,qS,qW,h',h3,h4,eu,h9,a3,bZ4,bXx]
    refine aA (fun hb=>?_) (fun hb=>?_)
    ·simp only[go_sem,qC,qG,qS,qW]
     simp at hb
     rw[<-hI,hb];rfl
    ·simp only[go_sem,qC,qG,qS,qW,h',h3,h4,eu,h9]
     simp at hb
     refine⟨_,_,_,rfl,?_⟩
     simp only[go_sem,qC,qG,qS,qW,h3,h4,eu,h9,aJ h' hp.nodes];rw[<-hI,hb];simp
   ·have:k=p.nodes.length:=by simp at hq;omega
    subst this;simp only[go_sem,qC,qG,qS,qW];rw[<-hI,List.drop_eq_nil_of_le (by omega)];rfl
end Go.Proofs.YthpmfghgoabnhaaGreat
namespace Go.Proofs.YthpmfghgoabnhaaGreat
open Go.Abs Go.Proofs
theorem aKq {α:Type}{a b:List α}{k:Nat}(ha:k<a.length)(hb:k<b.length)(h:a.take k=b.take k)(he:a[k]=b[k]):a.take (k+1)=b.take (k+1):=by
 rw[dF ha,dF hb,h,he]
theorem aKr {α:Type}{a b:List α}(hl:a.length=b.length)(h:a.take a.length=b.take a.length):a=b:=by
 rw[bYc,hl,bYc]at h;exact h
theorem aZs {α:Type}{a b:List α}{k:Nat}(ha:k<a.length)(hb:k<b.length)(h: ¬a[k]=b[k]): ¬a=b:=by
 rintro rfl;exact h rfl
theorem aG.eq_iff {a b:aG}:(decide (a.kind=b.kind)&&decide (a.n=b.n))=decide (a=b):=by
 cases a;cases b;simp
theorem aN.eq_iff {a b:aN}:(decide (a.port=b.port)&&decide (a.n=b.n))=decide (a=b):=by
 cases a;cases b;simp
theorem uO (n lo hi:Int):PC L 69 [.int .i64 n,.int .i64 lo,.int .i64 hi] (.bool (inR n lo hi)):=by
 refine aL bUz rfl rfl ?_
 simp only[go_sem,qW,bCs]
 refine bA (fun h=>?_) (fun h=>?_)<;>simp only[go_sem,qW,h]<;>simp at h<;>simp[h,inR]
 omega
theorem aH4 (l:List Int)(n:Int)(hl:Few l.length):PC L 70 [.fz (l.map (.int .i64)),.int .i64 n] (.bool (l.any fun x=>decide (x=n))):=by
 refine aL bU0 rfl rfl ?_
 simp only[go_sem,qC,qG,qW,bCt]
 refine bD (l.length) (fun k st=> ∃fr en cnt,st=⟨fr,en,cnt⟩/\ (fr 0= .fz (l.map (.int .i64)))/\ (fr 1= .int .i64 n)/\ (fr 5= .int .i64 k)/\ ((l.drop k).any (fun x=>decide (x=n))=l.any fun x=>decide (x=n))) 0 (bXl _) ⟨_,_,_,rfl,(by first|(simp only[go_sem,qW];(try rfl);done)|rfl|simp),(by first|(simp only[go_sem,qW];(try rfl);done)|rfl|simp),(by first|(simp only[go_sem,qW];(try rfl);done)|rfl|simp),(by first|(simp only[go_sem,qW];(try rfl);done)|rfl|simp)⟩ ?_
 rintro k st hk ⟨fr,en,cnt,rfl,h0,h1,h5,hI⟩
 simp only[go_sem,qC,qG,qW,h0,h1,h5]
 refine aA (fun h=>?_) (fun h=>?_)
 ·have h':k<l.length:=of_decide_eq_true h;rw[aF1 h']at hI;simp only[go_sem,qC,qG,qW,h',h0,h1,h5]
  refine aA (fun h2=>?_) (fun h2=>?_)
  ·simp only[go_sem,qC,qG,qW];rw[<-hI,h2];rfl
  ·simp only[go_sem,qC,qG,qW,h',h0,h1,h5]
   refine⟨_,_,_,rfl,?_⟩
   simp only[go_sem,qW,h0,h1,h5,aJ h' hl];rw[<-hI,h2];simp
 ·have:k=l.length:=by simp at h;omega
  subst this;simp only[go_sem,qC,qG,qW];rw[<-hI];simp
theorem aD9 (w:aB)(i:Nat)(hi:i<w.objs.length):PC L 67 [.agg [.fz (w.objs.map aI.enc),.fz (w.tasks.map (.int .i64)),.fz (w.outs.map aN.enc),.fz (w.ins.map (.int .i64)),.int .i64 w.used],.int .i64 i] (.bool (bF (w.obj i))):=by
 have hin:inR (i:Int) 0 (w.objs.length-1)=true:=by simp[inR];omega
 refine aL bUx rfl rfl ?_
 simp only[go_sem,qC,qG,qW,bCq,uK,hin];simp[bF]
theorem aNe (c:Int):PC L 78 [.int .i64 c] (.bool (decide (c=3))):=by
 refine aL bU3 rfl rfl ?_
 simp only[go_sem,qC,qG,qW,bCw]
theorem aBf (p:aP)(w:aB)(hp:p.few)(hw:w.few)(hc:p.cons.length<=1000):PC L 20 [.agg [.fz (p.nodes.map aK.enc),.fz (p.funs.map (.int .i64)),.int .i64 p.main,.fz (p.cons.map bE.enc)],.agg [.fz (w.objs.map aI.enc),.fz (w.tasks.map (.int .i64)),.fz (w.outs.map aN.enc),.fz (w.ins.map (.int .i64)),.int .i64 w.used]] (.bool (eV p w)):=by
 refine aL bUd rfl rfl ?_
 simp only[go_sem,qC,qG,qW,bB9,(aH3 p hp hc).ret]
 refine aE (fun h=>?_) (fun h=>?_)<;>simp only[go_sem,qC,qG,qW,h,(aKm p w hp hw).ret]<;>simp[eV,h]
theorem aBg (s:aX)(hs:s.few):PC L 29 [.agg [.fz (s.world.objs.map aI.enc),.fz (s.world.tasks.map (.int .i64)),.fz (s.world.outs.map aN.enc),.fz (s.world.ins.map (.int .i64)),.int .i64 s.world.used,.fz (s.ages.map (.int .i64)),.fz (s.marks.map (.int .i64)),.int .i64 s.cycle]] (.bool (bO s)):=by
 refine aL bUf rfl rfl ?_
 simp only[go_sem,qC,qG,qW,bCb,(rZ s.world hs.1).ret]
 refine aE (fun g1=>?_) (fun g1=>?_)
 ·simp only[go_sem,qC,qG,qW,g1]
  refine aE (fun g2=>?_) (fun g2=>?_)<;>simp only[go_sem,qC,qG,qW,g2,bXp]<;>simp only[bO,g1,g2,bXp,bX0,bX6]
 ·simp only[go_sem,qC,qG,qW,g1,bXp];simp only[bO,g1,bXp,bX6]
theorem aKs (p:aP)(w:aB)(hp:p.few)(hw:w.few):PC L 16 [.agg [.fz (p.nodes.map aK.enc),.fz (p.funs.map (.int .i64)),.int .i64 p.main,.fz (p.cons.map bE.enc)],.agg [.fz (w.objs.map aI.enc),.fz (w.tasks.map (.int .i64)),.fz (w.outs.map aN.enc),.fz (w.ins.map (.int .i64)),.int .i64 w.used]] (.bool (aT p&&aY w)):=by
 refine aL bUc rfl rfl ?_
 simp only[go_sem,qC,qG,qW,bB8,(aC0 p hp).ret]
 refine aE (fun g1=>?_) (fun g1=>?_)<;>simp only[go_sem,qC,qG,qW,g1,(rZ w hw).ret,bX0,bX6,bXp]
end Go.Proofs.YthpmfghgoabnhaaGreat
namespace Go.Proofs.YthpmfghgoabnhaaGreat
open Go.Abs Go.Proofs
set_option maxRecDepth 100000
theorem aWg {n:Nat}{x:List Val}(h:iG Tryz.prog (n+2) 75 x): ∃a:aG,qI Tryz.prog 75 x=aG.enc a/\ True:=by
 have h1:=gP Tryz.underlying75 h;simp only[mL]at h1;obtain⟨a,b,rfl,_,ha,c,d,rfl,_,hc,rfl⟩:=h1;obtain⟨i,rfl⟩:=gS (k:= .i64) (by first|exact Tryz.underlying74|kernel_rfl) ha
 obtain⟨j,rfl⟩:=gS Tryz.underlying3 hc;exact⟨⟨i,j⟩,by simp[qI,cM,Tryz.underlying75,aG.enc],trivial⟩
theorem tI {n:Nat}{x:List Val}(h:iG Tryz.prog (n+2) 23 x): ∃l:List Int,x=[.fz (l.map (.int .i64))]/\ Few l.length:=by
 obtain⟨l,h1,h2,_⟩:=jS (Val.int .i64) (fun _=>True) Tryz.underlying23 (fun y hy=>by
  obtain⟨i,rfl⟩:=gS Tryz.underlying3 hy;exact⟨i,by simp[qI,cM,Tryz.underlying3],trivial⟩) h
 exact⟨l,h1,h2⟩
theorem aC1 {n:Nat}{x:List Val}(h:iG Tryz.prog (n+3) 102 x): ∃l:List aG,x=[.fz (l.map aG.enc)]/\ Few l.length:=by
 obtain⟨l,h1,h2,_⟩:=jS aG.enc (fun _=>True) Tryz.underlying102 (fun y hy=>aWg hy) h
 exact⟨l,h1,h2⟩
theorem aNf {n:Nat}{x:List Val}(h:iG Tryz.prog (n+4) 114 x): ∃a:aC,qI Tryz.prog 114 x=aC.enc a/\ a.few:=by
 have h1:=gP Tryz.underlying114 h;simp only[mL]at h1;obtain⟨a,b,rfl,_,ha,c,d,rfl,_,hc,e,f,rfl,_,he,rfl⟩:=h1;obtain⟨i,rfl⟩:=gS Tryz.underlying3 ha;obtain⟨l,rfl,hl⟩:=aC1 hc;obtain⟨m,rfl,hm⟩:=aC1 he;exact⟨⟨i,l,m⟩,by simp[qI,cM,Tryz.underlying114,aC.enc],hl,hm⟩
theorem aNg {n:Nat}{x:List Val}(h:iG Tryz.prog (n+5) 103 x): ∃l:List aC,x=[.fz (l.map aC.enc)]/\ Few l.length/\ ∀f∈l,f.few:=
 jS aC.enc aC.few Tryz.underlying103 (fun y hy=>aNf hy) h
theorem aWh {n:Nat}{x:List Val}(h:iG Tryz.prog (n+6) 105 x): ∃a:aI,qI Tryz.prog 105 x=aI.enc a/\ a.few:=by
 have h1:=gP Tryz.underlying105 h;simp only[mL]at h1;obtain⟨a,b,rfl,_,ha,c,d,rfl,_,hc,e,f,rfl,_,he,g,k,rfl,_,hg,rfl⟩:=h1;obtain⟨i,rfl⟩:=gS (k:= .i64) (by first|exact Tryz.underlying101|kernel_rfl) ha
 obtain⟨j,rfl⟩:=gS Tryz.underlying3 hc;obtain⟨l,rfl,hl⟩:=aC1 he;obtain⟨m,rfl,hm,hm2⟩:=aNg hg;exact⟨⟨i,j,l,m⟩,by simp[qI,cM,Tryz.underlying105,aI.enc],hl,hm,hm2⟩
theorem aWi {n:Nat}{x:List Val}(h:iG Tryz.prog (n+2) 125 x): ∃a:aN,qI Tryz.prog 125 x=aN.enc a/\ True:=by
 have h1:=gP Tryz.underlying125 h;simp only[mL]at h1;obtain⟨a,b,rfl,_,ha,c,d,rfl,_,hc,rfl⟩:=h1;obtain⟨i,rfl⟩:=gS Tryz.underlying3 ha;obtain⟨j,rfl⟩:=gS Tryz.underlying3 hc;exact⟨⟨i,j⟩,by simp[qI,cM,Tryz.underlying125,aN.enc],trivial⟩
theorem aNh {n:Nat}{x:List Val}(h:iG Tryz.prog (n+8) 30 x): ∃w:aB,x=[.fz (w.objs.map aI.enc),.fz (w.tasks.map (.int .i64)),.fz (w.outs.map aN.enc),.fz (w.ins.map (.int .i64)),.int .i64 w.used]/\ w.few:=by
 have h1:=gP Tryz.underlying30 h;simp only[mL]at h1;obtain⟨a,b,rfl,_,ha,c,d,rfl,_,hc,e,f,rfl,_,he,g,k,rfl,_,hg,r,q,rfl,_,hr,rfl⟩:=h1;obtain⟨l1,rfl,f1,f1'⟩:=jS aI.enc aI.few Tryz.underlying27 (fun y hy=>aWh hy) ha
 obtain⟨l2,rfl,f2⟩:=tI hc;obtain⟨l3,rfl,f3,_⟩:=jS aN.enc (fun _=>True) Tryz.underlying28 (fun y hy=>aWi hy) he
 obtain⟨l4,rfl,f4⟩:=tI hg;obtain⟨i,rfl⟩:=gS Tryz.underlying3 hr;exact⟨⟨l1,l2,l3,l4,i⟩,rfl,⟨f1,f2,f3,f4,f1'⟩⟩
theorem aNi : ∀(n:Nat) {x:List Val},iG Tryz.prog n 134 x-> ∃q:Pat,qI Tryz.prog 134 x=Pat.enc q/\ q.few
 |0,x,h=>by simp[iG]at h
 |1,x,h=>by
  have h1:=gP Tryz.underlying134 h;simp only[mL]at h1;obtain⟨a,b,rfl,_,ha,_⟩:=h1;simp[iG]at ha
 |n+2,x,h=>by
  have h1:=gP Tryz.underlying134 h;simp only[mL]at h1;obtain⟨a,b,rfl,_,ha,c,d,rfl,_,hc,e,f,rfl,_,he,g,k,rfl,_,hg,rfl⟩:=h1;obtain⟨i,rfl⟩:=gS (k:= .i64) (by first|exact Tryz.underlying132|kernel_rfl) ha
  obtain⟨j,rfl⟩:=gS Tryz.underlying3 hc;obtain⟨t,rfl,ht⟩:=aMx (by first|exact Tryz.underlying9|kernel_rfl) he
  obtain⟨l,rfl,hl,hq⟩:=jS Pat.enc Pat.few Tryz.underlying128 (fun y hy=>aNi n hy) hg
  exact⟨.mk i j t l,by simp[qI,cM,Tryz.underlying134,Pat.enc,Pat.encL_map],.mk i j t l hl ht hq⟩
theorem aPs {n:Nat}{x:List Val}(h:iG Tryz.prog (n+4) 130 x): ∃a:aK,qI Tryz.prog 130 x=aK.enc a/\ a.few:=by
 have h1:=gP Tryz.underlying130 h;simp only[mL]at h1;obtain⟨a,b,rfl,_,ha,c,d,rfl,_,hc,e,f,rfl,_,he,g,k,rfl,_,hg,rfl⟩:=h1;obtain⟨i,rfl⟩:=gS (k:= .i64) (by first|exact Tryz.underlying72|kernel_rfl) ha
 obtain⟨j,rfl⟩:=gS Tryz.underlying3 hc;obtain⟨l,rfl,hl⟩:=tI he;obtain⟨m,rfl,hm,hm2⟩:=jS Pat.enc Pat.few Tryz.underlying128 (fun y hy=>aNi _ hy) hg
 exact⟨⟨i,j,l,m⟩,by simp[qI,cM,Tryz.underlying130,aK.enc,aMs],⟨hl,hm,hm2⟩⟩
theorem aWj {n:Nat}{x:List Val}(h:iG Tryz.prog (n+2) 127 x): ∃a:bE,qI Tryz.prog 127 x=bE.enc a/\ Few a.name.size:=by
 have h1:=gP Tryz.underlying127 h;simp only[mL]at h1;obtain⟨a,b,rfl,_,ha,c,d,rfl,_,hc,rfl⟩:=h1;obtain⟨t,rfl,ht⟩:=aMx (by first|exact Tryz.underlying9|kernel_rfl) ha
 obtain⟨j,rfl⟩:=gS Tryz.underlying3 hc;exact⟨⟨t,j⟩,by simp[qI,cM,Tryz.underlying127,bE.enc],ht⟩
theorem aPt {n:Nat}{x:List Val}(h:iG Tryz.prog (n+6) 26 x): ∃p:aP,x=[.fz (p.nodes.map aK.enc),.fz (p.funs.map (.int .i64)),.int .i64 p.main,.fz (p.cons.map bE.enc)]/\ p.few:=by
 have h1:=gP Tryz.underlying26 h;simp only[mL]at h1;obtain⟨a,b,rfl,_,ha,c,d,rfl,_,hc,e,f,rfl,_,he,g,k,rfl,_,hg,rfl⟩:=h1;obtain⟨l1,rfl,f1,f1'⟩:=jS aK.enc aK.few Tryz.underlying22 (fun y hy=>aPs hy) ha
 obtain⟨l2,rfl,f2⟩:=tI hc;obtain⟨i,rfl⟩:=gS Tryz.underlying3 he;obtain⟨l3,rfl,f3,f3'⟩:=jS bE.enc (fun c=>Few c.name.size) Tryz.underlying24 (fun y hy=>aWj hy) hg
 exact⟨⟨l1,l2,i,l3⟩,rfl,⟨f1,f2,f3,f1',f3'⟩⟩
end Go.Proofs.YthpmfghgoabnhaaGreat
namespace Go.Proofs.YthpmfghgoabnhaaGreat
open Go.Abs Go.Proofs
open Go.ChangeShapes Go.WideShapes Go.ChangeAt Go.RowKit
theorem own :ownKnob Tryz.prog.godebug=none:=by kernel_rfl
theorem aKt :laidOutB Tryz.prog=true:=by kernel_rfl
def fJ (t:TypeId):Bool:=[3,9,22,23,24,26,27,28,30,48,72,73,75,101,102,103,105,114,125,127,128,130,132,134].contains t
theorem aGj :aMu Tryz.prog fJ=true:=by kernel_rfl
theorem bMl :Tryz.prog.follows .mixedOrders=true:=by kernel_rfl
set_option maxRecDepth 100000
theorem aNj {H:Type}{enc:TypeId×Value->H}{W:World}{sp:Nat->Bool}{t:TypeId}{v:Value}{d:DataW H}{ps:List MemPlace}(ht:t<Tryz.prog.types.size)(hs:fJ t=true)(hv: ∃cs,v= .agg cs)(h:DataW.Trod enc Tryz.prog W 0 sp true t v d ps):
  ∃n vs,iG Tryz.prog (n+9) t vs/\ VR (aD1 W) Gh.none W (.agg vs) v:=by
 obtain⟨fuel,h⟩:=h;obtain⟨x,rfl⟩:=hv;obtain⟨vs,h1,h2⟩:=aIt aKt fJ aGj fuel t x.toList _ ht hs h;exact⟨fuel,vs,aIv 9 h1,aKh h2⟩
theorem aZt {W:World}{base:Nat}{v:Value}(h:Value.okWide Tryz.prog W .any base 23 v): ∃a n c,v= .slice a n c:=by
 unfold Value.okWide at h;rw[Tryz.underlying23]at h;cases v with
 |slice a n c=>exact⟨a,n,c,rfl⟩
 |_=>exact h.elim
theorem aWk {H:Type}{enc:TypeId×Value->H}{W:World}{sp:Nat->Bool}{v:Value}{d:DataW H}{ps:List MemPlace}(hv: ∃a n c,v= .slice a n c)(h:DataW.Trod enc Tryz.prog W 0 sp true 23 v d ps):
  ∃l:List Int,Few l.length/\ VR (aD1 W) Gh.none W (.fz (l.map (.int .i64))) v:=by
 obtain⟨fuel,h⟩:=h;obtain⟨a,n,c,rfl⟩:=hv;obtain⟨vs,h1,h2⟩:=aIt aKt fJ aGj fuel 23 [.slice a n c] _ (of_decide_eq_true (by kernel_rfl)) (by decide) h
 obtain⟨l,rfl,hl⟩:=tI (aIv 2 h1);exact⟨l,hl,by simpa using(h2.2 0 (by simp)).2⟩
end Go.Proofs.YthpmfghgoabnhaaGreat
namespace Go.Proofs.YthpmfghgoabnhaaGreat
open Go.Abs Go.Proofs
def jK (v:aG):Bool:=decide (v.kind=5)
def cP (l:List aG):List Int:=(l.filter jK).map aG.n
theorem yH {x:aG}{l:List aG}(h:jK x=true):cP (x::l)=x.n::cP l:=by simp[cP,h]
theorem yI {x:aG}{l:List aG}(h:jK x=false):cP (x::l)=cP l:=by simp[cP,h]
def cX (f:aC):List Int:=cP f.env++cP f.vals
def dG (o:aI):List Int:=cP o.vals++o.frames.flatMap cX
theorem uP (o:aI):PC L 63 [.agg [.int .i64 o.form,.int .i64 o.n,.fz (o.vals.map aG.enc),.fz (o.frames.map aC.enc)]] (.fn 107 [] [.fp [.int .i64 o.form,.int .i64 o.n,.fz (o.vals.map aG.enc),.fz (o.frames.map aC.enc)] 0]):=by
 refine aL bUt rfl rfl ?_
 simp only[go_sem,qC,qG,qW,bCm]
def T4 :List Nat:=[2,3,5,6]
def yJ (c0:Nat->Nat)(en en':En):Prop:= ∀n t g,(n≠0 \/t∉T4 \/g<c0 t)->en' ⟨n,t,g⟩=en ⟨n,t,g⟩
def bGa (c0:Nat->Nat)(en en':En):Prop:= ∀t g,t∈T4->c0 t<=g->en' ⟨0,t,g⟩=en ⟨0,t,g⟩
structure aAd (k:Key) (c0:Nat->Nat) (I:List Int->En->(Nat->Nat->Nat)->Prop) (F:En->(Nat->Nat->Nat)->Prop):Prop where
 stable: ∀r en cnt en' cnt',I r en cnt->yJ c0 en en'->(∀n t,t∉T4->cnt' n t=cnt n t)->(∀t∈T4,c0 t<=cnt' 0 t)->I r en' cnt'
 round: ∀x rest en cnt,I (x::rest) en cnt->WIn L (.yld k) [.int .i64 x] en cnt fun v en' cnt'=>bGa c0 en en'/\ (∀t∈T4,cnt' 0 t=cnt 0 t)/\ ((v= .bool true/\ I rest en' cnt') \/(v= .bool false/\ F en' cnt'))
theorem aWl {xs:List Val}{x:Val}{en:En}(hx:cZ 1 (x::xs)=true):mB false 1 en (.cl (x::xs)) (some (.int .i64 1)) none none=some {v:= .cl xs}:=by
 have h1:fP (some (.int .i64 1)) 0 (xs.length+1)=some 1:=by
  simp only[fP];rw[if_pos ⟨by omega,by omega⟩];rfl
 simp[mB,wL,h1,hx]
section
variable {k :Key}{c0:Nat->Nat}{I:List Int->En->(Nat->Nat->Nat)->Prop}{G:En->(Nat->Nat->Nat)->Prop}{a b:Nat}
structure Mid (k:Key) (c0:Nat->Nat) (a b:Nat) (en:En) (cnt:Nat->Nat->Nat):Prop where
 e2:en ⟨0,2,a⟩=some (.box [.yld k] false)
 e3:en ⟨0,3,b⟩=some (.box [.fn 108 [] [.ptr ⟨0,2,a⟩ 0,.ptr ⟨0,3,b⟩ 0]] false)
 cnt: ∀t∈T4,c0 t<=cnt 0 t
theorem aC2 (hr:aAd k c0 I G)(ha:c0 2<=a)(hb:c0 3<=b): ∀(ls:List (List aG)) (rest:List Int) (en:En) (cnt:Nat->Nat->Nat),(∀l∈ls,Few l.length)->Mid k c0 a b en cnt->I (ls.flatMap cP++rest) en cnt->
  WIn L (.fn 108 [] [.ptr ⟨0,2,a⟩ 0,.ptr ⟨0,3,b⟩ 0]) [.cl (ls.map fun l=> .fz (l.map aG.enc))] en cnt fun v en' cnt'=>
   (v= .bool true/\ Mid k c0 a b en' cnt'/\ I rest en' cnt') \/(v= .bool false/\ G en' cnt')
 |[],rest,en,cnt,hf,hm,hI=>by
  refine mK bEc rfl rfl ?_
  simp only[go_sem,qC,qG,qW,aM1];exact .inl ⟨hm,by simpa using hI⟩
 |l::ls,rest,en,cnt,hf,hm,hI=>by
  have hl:=hf l (by simp)
  refine mK bEc rfl rfl ?_
  simp only[go_sem,qC,qG,qW,aM1];have hz:decide ((ls.length:Int)+1=0)=false:=by simp;omega
  refine aA (fun h0=>?_) (fun h0=>?_)
  ·exfalso;simp at h0;omega
  ·simp only[go_sem,qC,qG,qW]
   refine bD l.length (fun j st=> ∃fr en cnt,st=⟨fr,en,cnt⟩/\ fr 0= .cl (.fz (l.map aG.enc)::ls.map fun l=> .fz (l.map aG.enc))/\ fr 1= .ptr ⟨0,2,a⟩ 0/\ fr 2= .ptr ⟨0,3,b⟩ 0/\ fr 12= .fz (l.map aG.enc)/\ fr 13= .int .i64 l.length/\ fr 14= .int .i64 j/\
    Mid k c0 a b en cnt/\ I (cP (l.drop j)++(ls.flatMap cP++rest)) en cnt) 0 (bXl _) ⟨_,_,_,rfl,by simp only[go_sem,qW],by simp only[go_sem,qW],by simp only[go_sem,qW],by simp only[go_sem,qW],by simp only[go_sem,qW],by simp only[go_sem,qW],hm,by simpa using hI⟩ ?_
   rintro j st hj ⟨fr,en,cnt,rfl,f0,f1,f2,f12,f13,f14,hm,hI⟩
   simp only[go_sem,qC,qG,qW,f12,f13,f14]
   refine aA (fun hq=>?_) (fun hq=>?_)
   ·have h':j<l.length:=of_decide_eq_true hq;rw[bX7 h']at hI;have hout: ∀e:Option Ent,∀e':Option Ent,yJ c0 en ((en.set ⟨0,6,cnt 0 6⟩ e).set ⟨0,6,cnt 0 6⟩ e'):=by
     intro e e' n t g h;have hne:(⟨n,t,g⟩:Key)≠⟨0,6,cnt 0 6⟩:=by
      intro he;injection he with h1 h2 h3;have:=hm.cnt 6 (by decide)
      rcases h with h|h|h
      ·exact h h1
      ·exact h (by rw[h2];decide)
      ·subst h2;omega
     rw[eE hne,eE hne]
    simp only[go_sem,qC,qG,qW,h',f0,f1,f2,f12,f13,f14];have st1: ∀e e':Option Ent,Mid k c0 a b ((en.set ⟨0,6,cnt 0 6⟩ e).set ⟨0,6,cnt 0 6⟩ e') (aQ cnt 0 6 (cnt 0 6+1)):=by
     intro e e'
     refine⟨by simp only[go_sem,hm.e2],by simp only[go_sem,hm.e3],fun t ht=>?_⟩
     have:=hm.cnt t ht;simp only[aQ];split
     ·rename_i h;obtain⟨_,rfl⟩:=h;omega
     ·exact this
    have i1: ∀r (e e':Option Ent),I r en cnt->I r ((en.set ⟨0,6,cnt 0 6⟩ e).set ⟨0,6,cnt 0 6⟩ e') (aQ cnt 0 6 (cnt 0 6+1)):=by
     intro r e e' h
     refine hr.stable r _ _ _ _ h (hout e e') (fun n t ht=>?_) (st1 e e').cnt
     simp only[aQ];split
     ·rename_i h;obtain⟨_,rfl⟩:=h;exact absurd (by decide) ht
     ·rfl
    refine aE (fun hk=>?_) (fun hk=>?_)
    ·have hx:jK l[j]=true:=hk;rw[yH hx,bZg]at hI;simp only[go_sem,qC,qG,qW,hk,f1,hm.e2]
     refine(hr.round _ _ _ _ (i1 _ _ _ hI)).mono ?_
     rintro v en' cnt' ⟨hin,hc,hv⟩
     have hm':Mid k c0 a b en' cnt':=by
      have m1:=st1 (some (.box [.int .i64 0,.int .i64 0] false)) (some (.box [.int .i64 l[j].kind,.int .i64 l[j].n] false));exact⟨by rw[hin 2 a (by decide) ha];exact m1.e2,by rw[hin 3 b (by decide) hb];exact m1.e3,fun t ht=>by rw[hc t ht];exact m1.cnt t ht⟩
     rcases hv with⟨rfl,hI2⟩|⟨rfl,hG⟩
     ·simp only[go_sem,qC,qG,qW,hk,h',f0,f1,f2,f12,f13,f14]
      refine⟨_,_,_,rfl,?_⟩
      simp only[go_sem,qC,qG,qW,f0,f1,f2,f12,f13,f14,aJ h' hl];exact⟨hm',hI2⟩
     ·simp only[go_sem,qC,qG,qW,hk];exact .inr hG
    ·have hx:jK l[j]=false:=by simpa[jK]using hk
     rw[yI hx]at hI;simp only[go_sem,qC,qG,qW,hk,bXp,h',f0,f1,f2,f12,f13,f14]
     refine⟨_,_,_,rfl,?_⟩
     simp only[go_sem,qC,qG,qW,f0,f1,f2,f12,f13,f14,aJ h' hl];exact⟨st1 _ _,i1 _ _ _ hI⟩
   ·have:j=l.length:=by simp at hq;omega
    subst this;rw[bY7]at hI;simp only[go_sem,qC,qG,qW,f0,f2,hm.e3,aWl (x:= .fz (l.map aG.enc)) rfl]
    refine(aC2 hr ha hb ls rest en cnt (fun x hx=>hf x (by simp[hx])) hm (by simpa[cP]using hI)).mono ?_
    rintro v en' cnt' h
    try simp only[go_sem,qC,qG,qW]
    exact h
end
theorem bGb {f:Nat}{x y:List Val}:Val.one (.fn f x y)=true:=(rfl)
theorem aZu {f:Nat}{x y:List Val}:Val.cells (.fn f x y)=[.fn f x y]:=(rfl)
theorem aPu {v:Val}:kN 1 [v] false=v:=(rfl)
theorem aGk {c0:Nat->Nat}{n t g t' g':Nat}(h:n≠0 \/t∉T4 \/g<c0 t)(ht:t'∈T4)(hg:c0 t'<=g'):(⟨n,t,g⟩:Key)≠⟨0,t',g'⟩:=by
 intro he;injection he with h1 h2 h3;rcases h with h|h|h
 ·exact h h1
 ·exact h (h2▸ht)
 ·subst h2;omega
theorem yJ.trans {c0:Nat->Nat}{x y z:En}(h:yJ c0 x y)(h':yJ c0 y z):yJ c0 x z:=fun n t g k=>(h' n t g k).trans (h n t g k)
theorem Mid.put {k:Key}{c0:Nat->Nat}{a b:Nat}{en:En}{cnt:Nat->Nat->Nat}(hm:Mid k c0 a b en cnt)(e e':Option Ent):Mid k c0 a b ((en.set ⟨0,5,cnt 0 5⟩ e).set ⟨0,5,cnt 0 5⟩ e') (aQ cnt 0 5 (cnt 0 5+1)):=by
 refine⟨by simp only[go_sem,hm.e2],by simp only[go_sem,hm.e3],fun t ht=>?_⟩
 have:=hm.cnt t ht;simp only[aQ];split
 ·rename_i h;obtain⟨_,rfl⟩:=h;omega
 ·exact this
theorem aAd.put {k:Key}{c0:Nat->Nat}{a b:Nat}{I:List Int->En->(Nat->Nat->Nat)->Prop}{G:En->(Nat->Nat->Nat)->Prop}(hr:aAd k c0 I G){en:En}{cnt:Nat->Nat->Nat}(hm:Mid k c0 a b en cnt){r:List Int}(h:I r en cnt)(e e':Option Ent):I r ((en.set ⟨0,5,cnt 0 5⟩ e).set ⟨0,5,cnt 0 5⟩ e') (aQ cnt 0 5 (cnt 0 5+1)):=by
 refine hr.stable r _ _ _ _ h (fun n t g h=>?_) (fun n t ht=>?_) (hm.put e e').cnt
 ·rw[eE (aGk h (by decide) (hm.cnt 5 (by decide))),eE (aGk h (by decide) (hm.cnt 5 (by decide)))]
 ·simp only[aQ];split
  ·rename_i h;obtain⟨_,rfl⟩:=h;exact absurd (by decide) ht
  ·rfl
theorem aGl (o:aI)(ho:o.few){k:Key}{en:En}{cnt:Nat->Nat->Nat}{I:List Int->En->(Nat->Nat->Nat)->Prop}{G:En->(Nat->Nat->Nat)->Prop}(hr:aAd k (cnt 0) I G)(hI:I (dG o) en cnt):
  WIn L (.fn 107 [] [.fp [.int .i64 o.form,.int .i64 o.n,.fz (o.vals.map aG.enc),.fz (o.frames.map aC.enc)] 0]) [.yld k] en cnt fun _ en' cnt'=>I [] en' cnt' \/G en' cnt':=by
 obtain⟨c0,hc0⟩: ∃c0,c0=cnt 0:=⟨_,rfl⟩
 rw[<-hc0]at hr;obtain⟨b,hbd⟩: ∃b,b=cnt 0 3:=⟨_,rfl⟩
 obtain⟨a,had⟩: ∃a,a=cnt 0 2:=⟨_,rfl⟩
 have ha:c0 2<=a:=by rw[hc0,had];exact bXd _
 have hb:c0 3<=b:=by rw[hc0,hbd];exact bXd _
 have hI0:I ([o.vals].flatMap cP++o.frames.flatMap cX) en cnt:=by
  have:[o.vals].flatMap cP++o.frames.flatMap cX=dG o:=by simp[dG]
  rw[this];exact hI
 refine mK bJd rfl rfl ?_
 simp only[go_sem,qC,qG,qW,aRq,iO (v:= .yld k) rfl rfl,bGb,aZu,aPu,<-hbd,<-had];have hcc: ∀t∈T4,c0 t<=aQ (aQ cnt 0 2 (a+1)) 0 3 (b+1) 0 t:=by
  intro t ht;simp only[T4,bYe,List.not_mem_nil,or_false]at ht;rw[hc0];rcases ht with rfl|rfl|rfl|rfl<;>simp[aQ]<;>omega
 refine(aC2 hr (a:=a) (b:=b) ha hb [o.vals] (o.frames.flatMap cX) _ _ (fun l hl=>by simp at hl;subst hl;exact ho.1) ⟨by simp only[go_sem,qW],by simp only[go_sem,qW],hcc⟩ (hr.stable _ _ _ _ _ hI0 (fun n t g h=>?_) (fun n t ht=>?_) hcc)).mono ?_
 ·rw[eE (aGk h (by decide) hb),eE (aGk h (by decide) hb),eE (aGk h (by decide) ha)]
 ·simp only[aQ];simp only[T4,bYe,List.not_mem_nil,or_false,not_or]at ht;rw[if_neg (by omega),if_neg (by omega)]
 ·rintro v en' cnt' (⟨rfl,hm,hI'⟩|⟨rfl,hG⟩)
  ·simp only[go_sem,qC,qG,qW,bXp]
   refine bD o.frames.length (fun j st=> ∃fr en cnt,st=⟨fr,en,cnt⟩/\ fr 3= .ptr ⟨0,3,b⟩ 0/\ fr 14= .fz (o.frames.map aC.enc)/\ fr 15= .int .i64 o.frames.length/\ fr 16= .int .i64 j/\
    Mid k c0 a b en cnt/\ I ((o.frames.drop j).flatMap cX) en cnt) 0 (bXl _) ⟨_,_,_,rfl,by simp only[go_sem,qW],by simp only[go_sem,qW],by simp only[go_sem,qW],by simp only[go_sem,qW],hm,by simpa using hI'⟩ ?_
   rintro j st hj ⟨fr,en,cnt,rfl,f3,f14,f15,f16,hm,hI⟩
   simp only[go_sem,qC,qG,qW,f14,f15,f16]
   refine aA (fun hq=>?_) (fun hq=>?_)
   ·have h':j<o.frames.length:=of_decide_eq_true hq;rw[bX7 h']at hI;have hf:=ho.2.2 _ (bXn h');have hI1:I ([o.frames[j].env,o.frames[j].vals].flatMap cP++(o.frames.drop (j+1)).flatMap cX) en cnt:=by
     have:[o.frames[j].env,o.frames[j].vals].flatMap cP++(o.frames.drop (j+1)).flatMap cX=(o.frames[j]::o.frames.drop (j+1)).flatMap cX:=by simp only[bZ3,bZw,bYx,List.append_assoc,cX]
     rw[this];exact hI
    have h3:=(hm.put (some (.box [.int .i64 0,.cl [],.cl []] false)) (some (.box [.int .i64 o.frames[j].node,.fz (o.frames[j].env.map aG.enc),.fz (o.frames[j].vals.map aG.enc)] false))).e3;simp only[go_sem,qC,qG,qW,h',f3,f14,f15,f16,hm.e3]
    refine(aC2 hr (a:=a) (b:=b) ha hb [o.frames[j].env,o.frames[j].vals] ((o.frames.drop (j+1)).flatMap cX) _ _ (fun l hl=>?_) (hm.put _ _) (hr.put hm hI1 _ _)).mono ?_
    ·simp only[bYe,List.not_mem_nil,or_false]at hl;rcases hl with rfl|rfl
     ·exact hf.1
     ·exact hf.2
    rintro v en' cnt' (⟨rfl,hm,hI'⟩|⟨rfl,hG⟩)
    ·simp only[go_sem,qC,qG,qW,bXp,h',f3,f14,f15,f16]
     refine⟨_,_,_,rfl,?_⟩
     simp only[go_sem,qC,qG,qW,f3,f14,f15,f16,aJ h' ho.2.1];exact⟨hm,hI'⟩
    ·simp only[go_sem,qC,qG,qW];exact .inr hG
   ·have:j=o.frames.length:=by simp at hq;omega
    subst this;rw[bY7]at hI;simp only[go_sem,qC,qG,qW];exact .inl (by simpa using hI)
  ·simp only[go_sem,qC,qG,qW];exact .inr hG
end Go.Proofs.YthpmfghgoabnhaaGreat
namespace Go.Proofs.YthpmfghgoabnhaaGreat
open Go.Abs Go.Proofs
theorem aZv (l:List bE)(h:Val)(p:bE->Bool)(hl:Few l.length)(hc:dD L (fun x:bE=> .agg [.str x.name,.int .i64 x.args]) h p l):
  PC L 275 [.fz (l.map bE.enc),h] (.int .i64 (idxOf p l 0)):=by
 refine aL bL6 rfl rfl ?_
 simp only[go_sem,qC,qG,qW,aUe]
 refine bD (l.length) (fun k st=> ∃fr en cnt,st=⟨fr,en,cnt⟩/\ (fr 0= .fz (l.map bE.enc))/\ (fr 1=h)/\ (fr 7= .int .i64 l.length)/\ (fr 8= .int .i64 k)/\ (idxOf p (l.drop k) k=idxOf p l 0)) 0 (bXl _) ⟨_,_,_,rfl,(by first|(simp only[go_sem,qW];(try rfl);done)|rfl|simp),(by first|(simp only[go_sem,qW];(try rfl);done)|rfl|simp),(by first|(simp only[go_sem,qW];(try rfl);done)|rfl|simp),(by first|(simp only[go_sem,qW];(try rfl);done)|rfl|simp),(by first|(simp only[go_sem,qW];(try rfl);done)|rfl|simp)⟩ ?_
 rintro k st hk ⟨fr,en,cnt,rfl,h0,h1,h7,h8,hI⟩
 simp only[go_sem,qC,qG,qW,h0,h1,h7,h8]
 refine aA (fun hq=>?_) (fun hq=>?_)
 ·have h':k<l.length:=of_decide_eq_true hq;rw[bX7 h',idxOf]at hI;simp only[go_sem,qC,qG,qW,h',h0,h1,h7,h8]
  refine hc.call l[k] (bXn _) _ _ ?_
  simp only[go_sem,qC,qG,qW,h0,h1,h7,h8]
  refine aA (fun hb=>?_) (fun hb=>?_)
  ·simp only[go_sem,qC,qG,qW,h0,h1,h7,h8];rw[hb,if_pos rfl]at hI;rw[<-hI]
  ·simp only[go_sem,qC,qG,qW,h',h0,h1,h7,h8];rw[hb]at hI
   simp at hI
   refine⟨_,_,_,rfl,?_⟩
   simp only[go_sem,qW,h0,h1,h7,h8,aJ h' hl];exact hI
 ·have:k=l.length:=by simp at hq;omega
  subst this;simp only[go_sem,qC,qG,qW,h0,h1,h7,h8];rw[<-hI];simp[idxOf]
theorem aWm (l:List bE)(h:Val)(p:bE->Bool)(hl:Few l.length)(hc:dD L (fun x:bE=> .agg [.str x.name,.int .i64 x.args]) h p l):
  PC L 226 [.fz (l.map bE.enc),h] (.bool (l.any p)):=by
 refine aL bLj rfl rfl ?_
 simp only[go_sem,qC,qG,qW,aTr,hc.snap,hc.wk,(aZv l h p hl hc).ret];rw[<-mD p l 0]
theorem pX (l:List bE)(h:Val)(p:bE->Bool)(hc:dD L (fun x:bE=> .agg [.str x.name,.int .i64 x.args]) h p l)(x:bE)(hx:x∈l):
  PC L 227 [.agg [.str x.name,.int .i64 x.args],.fp [h] 0] (.bool (!p x)):=by
 refine aL bLk rfl rfl ?_
 simp only[go_sem,qC,qG,qW,aTs]
 refine hc.call x hx _ _ ?_
 simp only[go_sem,qC,qG,qW]
theorem rR (l:List bE)(h:Val)(p:bE->Bool)(hl:Few l.length)(hc:dD L (fun x:bE=> .agg [.str x.name,.int .i64 x.args]) h p l):
  PC L 199 [.fz (l.map bE.enc),h] (.bool (l.all p)):=by
 have hd:dD L (fun x:bE=> .agg [.str x.name,.int .i64 x.args]) (.fn 227 [] [.fp [h] 0]) (fun x=>!p x) l:=by
  refine⟨fun n en hn=>?_,rfl,rfl,rfl,fun x hx en K hK=>?_⟩
  ·obtain⟨m,rfl⟩: ∃m,n=m+4:=⟨n-4,by omega⟩
   simp only[go_sem,qW]
  ·simp only[go_sem,qW,(pX l h p hc x hx).ret];exact hK
 refine aL bKx rfl rfl ?_
 simp only[go_sem,qC,qG,qW,aS6,iO hc.one hc.cells,hc.snap,hc.wk,(aWm l _ _ hl hd).ret];rw[<-bZk,bZl]
theorem aWn (l:List aK)(h:Val)(p:aK->Bool)(hl:Few l.length)(hc:dD L (fun x:aK=> .agg [.int .i64 x.op,.int .i64 x.n,.fz (x.kids.map (.int .i64)),.fz (x.pats.map Pat.enc)]) h p l):
  PC L 277 [.fz (l.map aK.enc),h] (.int .i64 (idxOf p l 0)):=by
 refine aL bL8 rfl rfl ?_
 simp only[go_sem,qC,qG,qW,aUg]
 refine bD (l.length) (fun k st=> ∃fr en cnt,st=⟨fr,en,cnt⟩/\ (fr 0= .fz (l.map aK.enc))/\ (fr 1=h)/\ (fr 7= .int .i64 l.length)/\ (fr 8= .int .i64 k)/\ (idxOf p (l.drop k) k=idxOf p l 0)) 0 (bXl _) ⟨_,_,_,rfl,(by first|(simp only[go_sem,qW];(try rfl);done)|rfl|simp),(by first|(simp only[go_sem,qW];(try rfl);done)|rfl|simp),(by first|(simp only[go_sem,qW];(try rfl);done)|rfl|simp),(by first|(simp only[go_sem,qW];(try rfl);done)|rfl|simp),(by first|(simp only[go_sem,qW];(try rfl);done)|rfl|simp)⟩ ?_
 rintro k st hk ⟨fr,en,cnt,rfl,h0,h1,h7,h8,hI⟩
 simp only[go_sem,qC,qG,qW,h0,h1,h7,h8]
 refine aA (fun hq=>?_) (fun hq=>?_)
 ·have h':k<l.length:=of_decide_eq_true hq;rw[bX7 h',idxOf]at hI;simp only[go_sem,qC,qG,qW,h',h0,h1,h7,h8]
  refine hc.call l[k] (bXn _) _ _ ?_
  simp only[go_sem,qC,qG,qW,h0,h1,h7,h8]
  refine aA (fun hb=>?_) (fun hb=>?_)
  ·simp only[go_sem,qC,qG,qW,h0,h1,h7,h8];rw[hb,if_pos rfl]at hI;rw[<-hI]
  ·simp only[go_sem,qC,qG,qW,h',h0,h1,h7,h8];rw[hb]at hI
   simp at hI
   refine⟨_,_,_,rfl,?_⟩
   simp only[go_sem,qW,h0,h1,h7,h8,aJ h' hl];exact hI
 ·have:k=l.length:=by simp at hq;omega
  subst this;simp only[go_sem,qC,qG,qW,h0,h1,h7,h8];rw[<-hI];simp[idxOf]
theorem aPv (l:List aK)(h:Val)(p:aK->Bool)(hl:Few l.length)(hc:dD L (fun x:aK=> .agg [.int .i64 x.op,.int .i64 x.n,.fz (x.kids.map (.int .i64)),.fz (x.pats.map Pat.enc)]) h p l):
  PC L 229 [.fz (l.map aK.enc),h] (.bool (l.any p)):=by
 refine aL bLm rfl rfl ?_
 simp only[go_sem,qC,qG,qW,aTu,hc.snap,hc.wk,(aWn l h p hl hc).ret];rw[<-mD p l 0]
theorem pT (l:List aK)(h:Val)(p:aK->Bool)(hc:dD L (fun x:aK=> .agg [.int .i64 x.op,.int .i64 x.n,.fz (x.kids.map (.int .i64)),.fz (x.pats.map Pat.enc)]) h p l)(x:aK)(hx:x∈l):
  PC L 230 [.agg [.int .i64 x.op,.int .i64 x.n,.fz (x.kids.map (.int .i64)),.fz (x.pats.map Pat.enc)],.fp [h] 0] (.bool (!p x)):=by
 refine aL bLn rfl rfl ?_
 simp only[go_sem,qC,qG,qW,aTv]
 refine hc.call x hx _ _ ?_
 simp only[go_sem,qC,qG,qW]
theorem rD (l:List aK)(h:Val)(p:aK->Bool)(hl:Few l.length)(hc:dD L (fun x:aK=> .agg [.int .i64 x.op,.int .i64 x.n,.fz (x.kids.map (.int .i64)),.fz (x.pats.map Pat.enc)]) h p l):
  PC L 204 [.fz (l.map aK.enc),h] (.bool (l.all p)):=by
 have hd:dD L (fun x:aK=> .agg [.int .i64 x.op,.int .i64 x.n,.fz (x.kids.map (.int .i64)),.fz (x.pats.map Pat.enc)]) (.fn 230 [] [.fp [h] 0]) (fun x=>!p x) l:=by
  refine⟨fun n en hn=>?_,rfl,rfl,rfl,fun x hx en K hK=>?_⟩
  ·obtain⟨m,rfl⟩: ∃m,n=m+4:=⟨n-4,by omega⟩
   simp only[go_sem,qW]
  ·simp only[go_sem,qW,(pT l h p hc x hx).ret];exact hK
 refine aL bK2 rfl rfl ?_
 simp only[go_sem,qC,qG,qW,aTb,iO hc.one hc.cells,hc.snap,hc.wk,(aPv l _ _ hl hd).ret];rw[<-bZk,bZl]
theorem bC9 (l:List Pat)(h:Val)(p:Pat->Bool)(hl:Few l.length)(hc:dD L (fun x:Pat=> .agg [.int .i64 x.form,.int .i64 x.n,.str x.text,.fz (x.parts.map Pat.enc)]) h p l):
  PC L 299 [.fz (l.map Pat.enc),h] (.int .i64 (idxOf p l 0)):=by
 refine aL bMg rfl rfl ?_
 simp only[go_sem,qC,qG,qW,aUo]
 refine bD (l.length) (fun k st=> ∃fr en cnt,st=⟨fr,en,cnt⟩/\ (fr 0= .fz (l.map Pat.enc))/\ (fr 1=h)/\ (fr 7= .int .i64 l.length)/\ (fr 8= .int .i64 k)/\ (idxOf p (l.drop k) k=idxOf p l 0)) 0 (bXl _) ⟨_,_,_,rfl,(by first|(simp only[go_sem,qW];(try rfl);done)|rfl|simp),(by first|(simp only[go_sem,qW];(try rfl);done)|rfl|simp),(by first|(simp only[go_sem,qW];(try rfl);done)|rfl|simp),(by first|(simp only[go_sem,qW];(try rfl);done)|rfl|simp),(by first|(simp only[go_sem,qW];(try rfl);done)|rfl|simp)⟩ ?_
 rintro k st hk ⟨fr,en,cnt,rfl,h0,h1,h7,h8,hI⟩
 simp only[go_sem,qC,qG,qW,h0,h1,h7,h8]
 refine aA (fun hq=>?_) (fun hq=>?_)
 ·have h':k<l.length:=of_decide_eq_true hq;rw[bX7 h',idxOf]at hI;simp only[go_sem,qC,qG,qW,h',h0,h1,h7,h8]
  refine hc.call l[k] (bXn _) _ _ ?_
  simp only[go_sem,qC,qG,qW,h0,h1,h7,h8]
  refine aA (fun hb=>?_) (fun hb=>?_)
  ·simp only[go_sem,qC,qG,qW,h0,h1,h7,h8];rw[hb,if_pos rfl]at hI;rw[<-hI]
  ·simp only[go_sem,qC,qG,qW,h',h0,h1,h7,h8];rw[hb]at hI
   simp at hI
   refine⟨_,_,_,rfl,?_⟩
   simp only[go_sem,qW,h0,h1,h7,h8,aJ h' hl];exact hI
 ·have:k=l.length:=by simp at hq;omega
  subst this;simp only[go_sem,qC,qG,qW,h0,h1,h7,h8];rw[<-hI];simp[idxOf]
theorem aZw (l:List Pat)(h:Val)(p:Pat->Bool)(hl:Few l.length)(hc:dD L (fun x:Pat=> .agg [.int .i64 x.form,.int .i64 x.n,.str x.text,.fz (x.parts.map Pat.enc)]) h p l):
  PC L 279 [.fz (l.map Pat.enc),h] (.bool (l.any p)):=by
 refine aL bMa rfl rfl ?_
 simp only[go_sem,qC,qG,qW,aUi,hc.snap,hc.wk,(bC9 l h p hl hc).ret];rw[<-mD p l 0]
theorem pY (l:List Pat)(h:Val)(p:Pat->Bool)(hc:dD L (fun x:Pat=> .agg [.int .i64 x.form,.int .i64 x.n,.str x.text,.fz (x.parts.map Pat.enc)]) h p l)(x:Pat)(hx:x∈l):
  PC L 280 [.agg [.int .i64 x.form,.int .i64 x.n,.str x.text,.fz (x.parts.map Pat.enc)],.fp [h] 0] (.bool (!p x)):=by
 refine aL bMb rfl rfl ?_
 simp only[go_sem,qC,qG,qW,aUj]
 refine hc.call x hx _ _ ?_
 simp only[go_sem,qC,qG,qW]
theorem mH (l:List Pat)(h:Val)(p:Pat->Bool)(hl:Few l.length)(hc:dD L (fun x:Pat=> .agg [.int .i64 x.form,.int .i64 x.n,.str x.text,.fz (x.parts.map Pat.enc)]) h p l):
  PC L 236 [.fz (l.map Pat.enc),h] (.bool (l.all p)):=by
 have hd:dD L (fun x:Pat=> .agg [.int .i64 x.form,.int .i64 x.n,.str x.text,.fz (x.parts.map Pat.enc)]) (.fn 280 [] [.fp [h] 0]) (fun x=>!p x) l:=by
  refine⟨fun n en hn=>?_,rfl,rfl,rfl,fun x hx en K hK=>?_⟩
  ·obtain⟨m,rfl⟩: ∃m,n=m+4:=⟨n-4,by omega⟩
   simp only[go_sem,qW]
  ·simp only[go_sem,qW,(pY l h p hc x hx).ret];exact hK
 refine aL bLt rfl rfl ?_
 simp only[go_sem,qC,qG,qW,aT1,iO hc.one hc.cells,hc.snap,hc.wk,(aZw l _ _ hl hd).ret];rw[<-bZk,bZl]
theorem bDa (l:List Int)(h:Val)(p:Int->Bool)(hl:Few l.length)(hc:dD L (fun x:Int=> .int .i64 x) h p l):
  PC L 281 [.fz (l.map (.int .i64)),h] (.int .i64 (idxOf p l 0)):=by
 refine aL bMc rfl rfl ?_
 simp only[go_sem,qC,qG,qW,aUk]
 refine bD (l.length) (fun k st=> ∃fr en cnt,st=⟨fr,en,cnt⟩/\ (fr 0= .fz (l.map (.int .i64)))/\ (fr 1=h)/\ (fr 7= .int .i64 l.length)/\ (fr 8= .int .i64 k)/\ (idxOf p (l.drop k) k=idxOf p l 0)) 0 (bXl _) ⟨_,_,_,rfl,(by first|(simp only[go_sem,qW];(try rfl);done)|rfl|simp),(by first|(simp only[go_sem,qW];(try rfl);done)|rfl|simp),(by first|(simp only[go_sem,qW];(try rfl);done)|rfl|simp),(by first|(simp only[go_sem,qW];(try rfl);done)|rfl|simp),(by first|(simp only[go_sem,qW];(try rfl);done)|rfl|simp)⟩ ?_
 rintro k st hk ⟨fr,en,cnt,rfl,h0,h1,h7,h8,hI⟩
 simp only[go_sem,qC,qG,qW,h0,h1,h7,h8]
 refine aA (fun hq=>?_) (fun hq=>?_)
 ·have h':k<l.length:=of_decide_eq_true hq;rw[bX7 h',idxOf]at hI;simp only[go_sem,qC,qG,qW,h',h0,h1,h7,h8]
  refine hc.call l[k] (bXn _) _ _ ?_
  simp only[go_sem,qC,qG,qW,h0,h1,h7,h8]
  refine aA (fun hb=>?_) (fun hb=>?_)
  ·simp only[go_sem,qC,qG,qW,h0,h1,h7,h8];rw[hb,if_pos rfl]at hI;rw[<-hI]
  ·simp only[go_sem,qC,qG,qW,h',h0,h1,h7,h8];rw[hb]at hI
   simp at hI
   refine⟨_,_,_,rfl,?_⟩
   simp only[go_sem,qW,h0,h1,h7,h8,aJ h' hl];exact hI
 ·have:k=l.length:=by simp at hq;omega
  subst this;simp only[go_sem,qC,qG,qW,h0,h1,h7,h8];rw[<-hI];simp[idxOf]
theorem aNk (l:List Int)(h:Val)(p:Int->Bool)(hl:Few l.length)(hc:dD L (fun x:Int=> .int .i64 x) h p l):
  PC L 237 [.fz (l.map (.int .i64)),h] (.bool (l.any p)):=by
 refine aL bLu rfl rfl ?_
 simp only[go_sem,qC,qG,qW,aT2,hc.snap,hc.wk,(bDa l h p hl hc).ret];rw[<-mD p l 0]
theorem wR (l:List Int)(h:Val)(p:Int->Bool)(hc:dD L (fun x:Int=> .int .i64 x) h p l)(x:Int)(hx:x∈l):
  PC L 238 [.int .i64 x,.fp [h] 0] (.bool (!p x)):=by
 refine aL bLv rfl rfl ?_
 simp only[go_sem,qC,qG,qW,aT3]
 refine hc.call x hx _ _ ?_
 simp only[go_sem,qC,qG,qW]
theorem aBh (l:List Int)(h:Val)(p:Int->Bool)(hl:Few l.length)(hc:dD L (fun x:Int=> .int .i64 x) h p l):
  PC L 206 [.fz (l.map (.int .i64)),h] (.bool (l.all p)):=by
 have hd:dD L (fun x:Int=> .int .i64 x) (.fn 238 [] [.fp [h] 0]) (fun x=>!p x) l:=by
  refine⟨fun n en hn=>?_,rfl,rfl,rfl,fun x hx en K hK=>?_⟩
  ·obtain⟨m,rfl⟩: ∃m,n=m+4:=⟨n-4,by omega⟩
   simp only[go_sem,qW]
  ·simp only[go_sem,qW,(wR l h p hc x hx).ret];exact hK
 refine aL bK4 rfl rfl ?_
 simp only[go_sem,qC,qG,qW,aTc,iO hc.one hc.cells,hc.snap,hc.wk,(aNk l _ _ hl hd).ret];rw[<-bZk,bZl]
theorem jV (n lo hi:Int):PC L 198 [.int .i64 n,.int .i64 lo,.int .i64 hi] (.bool (inR n lo hi)):=by
 refine aL bKw rfl rfl ?_
 simp only[go_sem,qW,aS5]
 refine bA (fun h=>?_) (fun h=>?_)<;>simp only[go_sem,qW,h]<;>simp at h<;>simp[h,inR]
 omega
theorem vP (n:Int):PC L 278 [.int .i64 n] (.bool (inR n (-1000000000) 1000000000)):=by
 refine aL bL9 rfl rfl ?_
 simp only[go_sem,qC,qG,qW,aUh,(jV _ _ _).ret]
theorem aH5 (s:ByteArray):PC L 276 [.str s] (.bool (sR (lF s))):=by
 refine aL bL7 rfl rfl ?_
 simp only[go_sem,qC,qG,qW,aUf]
 refine bD s.size (fun k st=> ∃fr en cnt,st=⟨fr,en,cnt⟩/\ fr 6= .it ⟨0,6,0⟩/\ en ⟨0,6,0⟩=some (.iter s k)/\ ((lF s).drop k).all jE=(lF s).all jE) 0 (bXl _) ⟨_,_,_,rfl,by simp only[go_sem,qW],by simp only[go_sem,qW],rfl⟩ ?_
 rintro k st hk ⟨fr,en,cnt,rfl,h6,e6,hI⟩
 have hsz:=oC s
 by_cases h':k<s.size
 ·have h'':k<(lF s).length:=by omega
  obtain⟨d1,d2⟩:=aKn h'';rw[fG h'']at hI;simp only[go_sem,qC,qG,qW,h6,e6,h'];cases hb:jE (lF s)[k]with
  |true=>
   have hd:=d1 hb;have hb2:=hb;simp only[jE,bXb,cAg]at hb2;have c1:decide ((((lF s)[k].toNat:Nat):Int)<97)=false:=by simp;omega
   have c2:decide ((122:Int)<(((lF s)[k].toNat:Nat):Int))=false:=by simp;omega
   simp only[go_sem,qC,qG,qW,hd,h6,e6,c1,c2]
   refine⟨_,_,_,rfl,?_⟩
   simp only[go_sem,qC,qG,qW,hd,h6,e6];rw[<-hI,hb];simp
  |false=>
   have hd:=d2 hb;rw[hb]at hI;generalize (Utf8.decode s k).1=r at hd⊢
   refine aE (fun hc=>?_) (fun hc=>?_)
   ·simp at hc
    have c1:decide ((r:Int)<97)=false:=by simp;omega
    have c2:decide ((122:Int)<(r:Int))=true:=by simp;omega
    simp only[go_sem,qC,qG,qW,c1,c2];rw[sR,<-hI];rfl
   ·simp only[go_sem,qC,qG,qW,hc,bXz];rw[sR,<-hI];rfl
 ·have:k=s.size:=by omega
  subst this;simp only[go_sem,qC,qG,qW,h6,e6,Nat.lt_irrefl];rw[sR,<-hI,List.drop_eq_nil_of_le (by omega)];rfl
theorem aWo (s:ByteArray):(s.toList==(⟨#[]⟩:ByteArray).toList)=decide (s.size=0):=by
 rw[Go.ByteArray.toList_eq,Go.ByteArray.toList_eq];have:s.size=s.data.toList.length:=by rw[bZa];rfl
 rw[this];cases s.data.toList<;>rfl
theorem aH6 (s:ByteArray):PC L 228 [.str s] (.bool (aGa (lF s))):=by
 refine aL bLl rfl rfl ?_
 simp only[go_sem,qC,qG,qW,aTt,aWo]
 refine aE (fun h=>?_) (fun h=>?_)
 ·have h':1<=s.size:=by
   have: ¬s.size=0:=by intro h0;rw[h0]at h;simp at h
   omega
  have h0:0<(lF s).length:=by rw[oC];omega
  have hix:=fun(k:IntKind)=>aEx (k:=k) h0
  simp only[Int.natCast_zero]at hix;rw[aGi (oC s) h0];simp only[go_sem,qC,qG,qW,h]
  refine aE (fun h1=>?_) (fun h1=>?_)<;>simp only[go_sem,qC,qG,qW,h1,hix]
  refine aE (fun h2=>?_) (fun h2=>?_)<;>simp only[go_sem,qC,qG,qW,h1,h2,hix]
  refine aE (fun h3=>?_) (fun h3=>?_)<;>simp only[go_sem,qC,qG,qW,h1,h2,h3,aGh h',(aH5 _).ret,aI4]
  all_goals simp only[cAg,cAh,bXp]at*
  all_goals simp[*]
 ·have:s.size=0:=by
   by_cases h0:s.size=0
   ·exact h0
   ·simp only[h0,decide_false]at h;simp at h
  have e:lF s=[]:=by rw[<-List.length_eq_zero_iff,oC,this]
  simp only[go_sem,qC,qG,qW,h,bXp];rw[e];rfl
theorem aNl (c:bE):PC L 200 [.agg [.str c.name,.int .i64 c.args]] (.bool (sA c)):=by
 refine aL bKy rfl rfl ?_
 simp only[go_sem,qC,qG,qW,aS7,(aH6 _).ret]
 refine aE (fun h=>?_) (fun h=>?_)<;>simp only[go_sem,qC,qG,qW,h,(jV _ _ _).ret]<;>simp[sA,h]
theorem rS (c:bE):PC L 203 [.agg [.str c.name,.int .i64 c.args]] (.str c.name):=by
 refine aL bK1 rfl rfl ?_
 simp only[go_sem,qC,qG,qW,aTa]
theorem rT (n:Int):PC L 207 [.int .i64 n] (.bool (decide (n=1))):=by
 refine aL bK5 rfl rfl ?_
 simp only[go_sem,qC,qG,qW,aTd]
theorem aKu : ∀q:Pat,q.few-> ∀most:Int,0<=most->most<=1000->PC L 233 [.agg [.int .i64 q.form,.int .i64 q.n,.str q.text,.fz (q.parts.map Pat.enc)],.int .i64 most] (.int .i64 (qF q most)):=by
 refine Pat.ind fun q ih hq most h1 h2=>?_
 obtain⟨hl,_,hps⟩:=Pat.few_parts hq;rw[aZq]
 refine aL bLq rfl rfl ?_
 simp only[go_sem,qC,qG,qW,aTy]
 refine bD q.parts.length (fun k st=> ∃fr en cnt a,st=⟨fr,en,cnt⟩/\ fr 1= .int .i64 most/\ fr 5= .int .i64 a/\ fr 9= .fz (q.parts.map Pat.enc)/\ fr 10= .int .i64 q.parts.length/\ fr 11= .int .i64 k/\ 1<=a/\ a<=most+1/\ jU (q.parts.drop k) most a=jU q.parts most 1) 0 (bXl _) ⟨_,_,_,1,rfl,by simp only[go_sem,qW],by simp only[go_sem,qW],by simp only[go_sem,qW],by simp only[go_sem,qW],by simp only[go_sem,qW],by omega,by omega,rfl⟩ ?_
 rintro k st hk ⟨fr,en,cnt,a,rfl,h1',h5,h9,h10,h11,ha,hb,hI⟩
 simp only[go_sem,qC,qG,qW,h1',h5,h9,h10,h11]
 refine aA (fun hc=>?_) (fun hc=>?_)
 ·have h':k<q.parts.length:=of_decide_eq_true hc;rw[bX7 h',jU]at hI;have hm:q.parts[k]∈q.parts:=bXn _;simp only[go_sem,qC,qG,qW,h',h1',h5,h9,h10,h11]
  refine aA (fun hd=>?_) (fun hd=>?_)<;>simp only[cAg,cAh]at hd
  ·simp only[go_sem,qC,qG,qW,h5];rw[if_pos hd]at hI;rw[hI]
  ·rw[if_neg hd]at hI;have e1:IntKind.i64.wrap (most-a)=most-a:=bY (by omega)
   have hz:=aGg q.parts[k] (most-a) (by omega)
   have e2:IntKind.i64.wrap (a+qF q.parts[k] (most-a))=a+qF q.parts[k] (most-a):=bY (by omega)
   simp only[go_sem,qC,qG,qW,h',h1',h5,h9,h10,h11,e1,e2,(ih _ hm (hps _ hm) (most-a) (by omega) (by omega)).ret]
   refine⟨_,_,_,a+qF q.parts[k] (most-a),rfl,?_⟩
   simp only[go_sem,qC,qG,qW,h',h1',h5,h9,h10,h11,aJ h' hl];exact⟨by omega,by omega,hI⟩
 ·have:k=q.parts.length:=by simp at hc;omega
  subst this;simp only[go_sem,qC,qG,qW,h5];rw[<-hI];simp[jU]
theorem yT (p:aP)(hc:Few p.cons.length): ∀q:Pat,q.few->PC L 234 [.agg [.fz (p.nodes.map aK.enc),.fz (p.funs.map (.int .i64)),.int .i64 p.main,.fz (p.cons.map bE.enc)],.agg [.int .i64 q.form,.int .i64 q.n,.str q.text,.fz (q.parts.map Pat.enc)]] (.bool (sC p.cons q)):=by
 refine Pat.ind fun q ih hq=>?_
 obtain⟨hl,_,hps⟩:=Pat.few_parts hq;have e:=dL hc;have ask:dD L (fun x:Pat=> .agg [.int .i64 x.form,.int .i64 x.n,.str x.text,.fz (x.parts.map Pat.enc)]) (.fn 234 [.agg [.fz (p.nodes.map aK.enc),.fz (p.funs.map (.int .i64)),.int .i64 p.main,.fz (p.cons.map bE.enc)]] []) (sC p.cons) q.parts:=by
  refine⟨fun n en hn=>?_,rfl,rfl,rfl,fun x hx en K hK=>?_⟩
  ·obtain⟨m,rfl⟩: ∃m,n=m+4:=⟨n-4,by omega⟩
   simp only[go_sem,qW]
  ·simp only[go_sem,qW,(ih x hx (hps x hx)).ret];exact hK
 rw[aM9]
 refine aL bLr rfl rfl ?_
 simp only[go_sem,qC,qG,qW,aTz]
 refine aE (fun h=>?_) (fun h=>?_)
 ·simp only[go_sem,qC,qG,qW,h,bXz,(mH q.parts _ _ hl ask).ret];have ht:aCz q.text=true:=by simp only[aCz];simpa using h
  refine aA (fun h2=>?_) (fun h2=>?_)
  ·simp only[go_sem,qC,qG,qW]
   simp at h2
   simp[h2]
  ·have h3:q.parts.all (sC p.cons)=true:=by simpa using h2
   rw[h3];simp only[go_sem,qC,qG,qW,e]
   repeat' ((first|with_reducible refine aA (fun h=>?_) (fun h=>?_)|with_reducible refine aE (fun h=>?_) (fun h=>?_))<;>(try simp only[cAg,cAh,bXp,bXz]at h)<;>try simp only[go_sem,qC,qG,qW, *,(jV _ _ _).ret,(vP _).ret,aCy])
   all_goals try simp[sB,wO, *]
   all_goals try(intros;simp_all;done)
 ·simp only[go_sem,qC,qG,qW,h,bXz];have ht:aCz q.text=false:=by simp only[aCz];simpa using h
  simp[sB,ht]
end Go.Proofs.YthpmfghgoabnhaaGreat
namespace Go.Abs
def rE (lo hi:Int):List Int->List Int->Option (List Int)
 |u,[]=>some u
 |u,x::l=>if inR x lo hi then rE lo hi (u.set x.toNat (IntKind.i64.wrap (u.getD x.toNat 0+1))) l else none
def iX (p:aP):Nat->List Int->List aK->Option (List Int)
 |_,u,[]=>some u
 |i,u,n::l=>(rE ((i:Int)+1) (p.nodes.length-1) u n.kids).bind fun u=>iX p (i+1) u l
def wS :Option (List Int)->Bool
 |some u=>u.all fun c=>decide (c=1)
 |none=>false
def uQ (p:aP):Bool:=
 decide ((p.nodes.length:Int)<=300)&&decide ((1:Int)<=p.funs.length)&&decide ((p.funs.length:Int)<=p.nodes.length)&&decide ((p.cons.length:Int)<=20)&&inR p.main 0 (p.funs.length-1)&&
  p.cons.all sA&&kF [] (p.cons.map bE.name)&&p.nodes.all (eG p)&&
  wS ((rE 0 (p.nodes.length-1) (List.replicate p.nodes.length 0) p.funs).bind fun u=>iX p 0 u p.nodes)
def pU (hi:Int):List Bool->List (Int×Int)->Option (List Bool)
 |u,[]=>some u
 |u,(lo,x)::l=>if inR x lo hi&&!(u.getD x.toNat false)then pU hi (u.set x.toNat true) l else none
def oE (hi:Int):List Int->List (Int×Int)->Option (List Int)
 |u,[]=>some u
 |u,(lo,x)::l=>if inR x lo hi then oE hi (u.set x.toNat (IntKind.i64.wrap (u.getD x.toNat 0+1))) l else none
def jF :Nat->List aK->List (Int×Int)
 |_,[]=>[]
 |i,n::l=>n.kids.map (fun k=>((i:Int)+1,k))++jF (i+1) l
theorem aKv (lo hi:Int): ∀(l:List Int) (u:List Bool),wQ lo hi u l=pU hi u (l.map fun x=>(lo,x))
 |[],u=>rfl
 |x::l,u=>by simp only[wQ,bYa,pU];split<;>first|exact aKv lo hi l _|rfl
theorem aKw (lo hi:Int): ∀(l:List Int) (u:List Int),rE lo hi u l=oE hi u (l.map fun x=>(lo,x))
 |[],u=>rfl
 |x::l,u=>by simp only[rE,bYa,oE];split<;>first|exact aKw lo hi l _|rfl
theorem qJ (hi:Int): ∀(a b:List (Int×Int)) (u:List Bool),pU hi u (a++b)=(pU hi u a).bind fun u=>pU hi u b
 |[],b,u=>rfl
 |(lo,x)::a,b,u=>by simp only[bZg,pU];split<;>first|exact qJ hi a b _|rfl
theorem sU (hi:Int): ∀(a b:List (Int×Int)) (u:List Int),oE hi u (a++b)=(oE hi u a).bind fun u=>oE hi u b
 |[],b,u=>rfl
 |(lo,x)::a,b,u=>by simp only[bZg,oE];split<;>first|exact sU hi a b _|rfl
theorem aBi (p:aP): ∀(l:List aK) (i:Nat) (u:List Int),iX p i u l=oE (p.nodes.length-1) u (jF i l)
 |[],i,u=>rfl
 |n::l,i,u=>by
  simp only[iX,jF,sU,aKw]
  congr 1;funext u;exact aBi p l (i+1) u
theorem sD (p:aP): ∀(l:List aK) (i:Nat) (u:List Bool),jJ p i u l=if l.all (eG p)=true then pU (p.nodes.length-1) u (jF i l)else none
 |[],i,u=>rfl
 |n::l,i,u=>by
  simp only[jJ,jF,qJ,aKv,bXe,bXb]
  by_cases h:eG p n=true
  ·simp only[h,if_true,true_and];have ih:=fun u=>sD p l (i+1) u
   by_cases h2:l.all (eG p)=true
   ·simp only[h2,if_true]at ih⊢
    congr 1;funext u;exact ih u
   ·simp only[h2,if_false]at ih⊢;simp only[ih];cases pU (↑p.nodes.length-1) u (List.map (fun k=>(↑i+1,k)) n.kids)<;>rfl
  ·simp only[h,if_false,false_and];rfl
theorem aGm {hi:Int}: ∀(evs:List (Int×Int)) (u:List Int) (i:Nat) (B:Int),i<u.length->2<=u.getD i 0->(∀c∈u,c<=B)->(∀c∈u,0<=c)->B+evs.length<=9223372036854775807->wS (oE hi u evs)=false
 |[],u,i,B,h,h2,hB,h0,hM=>by
  simp only[oE,wS];rw[<-bYf];intro ha;have:=bXo.1 ha u[i] (bXn _);simp only[bXm,bYs h,bX3]at h2
  simp at this;omega
 |(lo,x)::evs,u,i,B,h,h2,hB,h0,hM=>by
  simp only[oE];split
  ·have hx:u.getD x.toNat 0<=B/\ 0<=u.getD x.toNat 0:=by
    rw[bXm];cases hg:u[x.toNat]? with
    |none=>
     have:=hB u[i] (bXn _);have:=h0 u[i] (bXn _)
     simp;omega
    |some c=>have:=List.mem_of_getElem? hg;simp;exact⟨hB c this,h0 c this⟩
   have hw:IntKind.i64.wrap (u.getD x.toNat 0+1)=u.getD x.toNat 0+1:=bY (by simp at hM;omega)
   rw[hw]
   refine aGm evs _ i (B+1) (by simpa using h) ?_ ?_ ?_ (by simp at hM;omega)
   ·rw[bXm,bZh];split
    ·rename_i e;subst e;simp only[h,if_true,bX3];omega
    ·rw[<-bXm];exact h2
   ·intro c hc;rcases cAe hc with hc|rfl
    ·have:=hB c hc;omega
    ·omega
   ·intro c hc;rcases cAe hc with hc|rfl
    ·exact h0 c hc
    ·omega
  ·rfl
theorem aPw {u:List Bool}{x:Nat}(h:x<u.length):(u.map fun b=>if b then(1:Int)else 0).getD x 0=if u.getD x false then 1 else 0:=by
 simp[bXm,h]
theorem aPx {hi:Int}(evs:List (Int×Int)): ∀(u:List Bool),(hi:Int)=u.length-1->(∀e∈evs,0<=e.1)->(evs.length:Int)<=1000000->
  uM (pU hi u evs)=wS (oE hi (u.map fun b=>if b then 1 else 0) evs):=by
 induction evs with
 |nil=>
  intro u _ _ _;simp only[pU,oE,uM,wS,List.all_map]
  congr 1
  funext b
  cases b<;>rfl
 |cons e evs ih=>
  obtain⟨lo,x⟩:=e;intro u hh hlo hM;simp only[pU,oE];have hl:=hlo (lo,x) (by simp)
  simp only at hl
  have hM':(evs.length:Int)+1<=1000000:=by simpa using hM
  by_cases hx:inR x lo hi=true
  ·have hx':=hx;simp only[inR,cAg]at hx';have hlt:x.toNat<u.length:=by omega
   simp only[hx,bX0,if_true];rw[aPw hlt];cases hb:u.getD x.toNat false with
   |true=>
    simp only[bXp,bXc,if_false,if_true,uM]
    symm
    have hw:IntKind.i64.wrap ((1:Int)+1)=2:=by rw[bY (by omega)];rfl
    rw[hw];have hbd: ∀c∈(u.map fun b=>if b then(1:Int)else 0).set x.toNat 2,0<=c/\ c<=2:=by
     intro c hc;rcases cAe hc with hc|rfl
     ·obtain⟨b,_,rfl⟩:=bXy.1 hc;split<;>omega
     ·omega
    exact aGm evs _ x.toNat 2 (by simpa using hlt) (by simp[bXm,hlt]) (fun c hc=>(hbd c hc).2) (fun c hc=>(hbd c hc).1) (by omega)
   |false=>
    simp only[bXz,if_true,bXc,if_false];have hw:IntKind.i64.wrap ((0:Int)+1)=1:=by rw[bY (by omega)];rfl
    rw[hw,ih (u.set x.toNat true) (by simpa using hh) (fun e he=>hlo e (by simp[he])) (by omega),bYu]
    rfl
  ·simp only[bYf]at hx;simp only[hx,bX6,bXc,if_false,uM,wS]
theorem aGn : ∀(l:List aK) (i:Nat),∀e∈jF i l,0<=e.1
 |[],i,e,h=>by simp[jF]at h
 |n::l,i,e,h=>by
  simp only[jF,bX1,bXy]at h;rcases h with⟨k,_,rfl⟩|h
  ·simp only;omega
  ·exact aGn l (i+1) e h
theorem aEa : ∀(l:List aK) (i:Nat),(∀n∈l,n.kids.length<=10)->(jF i l).length<=10*l.length
 |[],i,_=>by simp[jF]
 |n::l,i,h=>by
  have:=aEa l (i+1) fun m hm=>h m (by simp[hm])
  have h2:=h n (by simp)
  simp only[jF,bX8,bXj,bXu];omega
theorem aNm (p:aP)(hs:aT p=true):uQ p=fZ p:=by
 simp only[aT,bXb,cAg]at hs;obtain⟨⟨⟨⟨h1,h2⟩,h3⟩,h4⟩,h5⟩:=hs;have hk: ∀n∈p.nodes,n.kids.length<=10:=by
  intro n hn;have:=bXo.1 h5 n hn;simp only[fK,bXb,cAg]at this;omega
 have key:p.nodes.all (eG p)=true->uM ((wQ 0 (p.nodes.length-1) (List.replicate p.nodes.length false) p.funs).bind fun u=>jJ p 0 u p.nodes)=
   wS ((rE 0 (p.nodes.length-1) (List.replicate p.nodes.length 0) p.funs).bind fun u=>iX p 0 u p.nodes):=by
  intro hn;simp only[aKv,aKw,sD,aBi,hn,if_true];rw[<-qJ,<-sU];have:=aPx (hi:=(p.nodes.length:Int)-1) (List.map (fun x=>((0:Int),x)) p.funs++jF 0 p.nodes) (List.replicate p.nodes.length false) (by simp) (fun e he=>by
   rcases bX1.1 he with he|he
   ·obtain⟨x,_,rfl⟩:=bXy.1 he;simp
   ·exact aGn _ _ _ he) (by
   have:=aEa p.nodes 0 hk
   simp;omega)
  rw[this];simp[List.map_replicate]
 have none_:p.nodes.all (eG p)=false->uM ((wQ 0 (p.nodes.length-1) (List.replicate p.nodes.length false) p.funs).bind fun u=>jJ p 0 u p.nodes)=false:=by
  intro hn;simp only[sD,hn,bXc,if_false];cases wQ 0 (↑p.nodes.length-1) (List.replicate p.nodes.length false) p.funs<;>rfl
 have e1:inR p.funs.length 1 p.nodes.length=(decide ((1:Int)<=p.funs.length)&&decide ((p.funs.length:Int)<=p.nodes.length)):=by simp[inR]
 simp only[uQ,fZ,uL,e1];cases hn:p.nodes.all (eG p)with
 |true=>rw[key hn];simp only[bY6,Bool.and_assoc];ac_rfl
 |false=>rw[none_ hn];simp
end Go.Abs
namespace Go.Proofs.YthpmfghgoabnhaaGreat
open Go.Abs Go.Proofs
theorem aKx {t:Nat}{v:Val}:dA .eql .iface (.ifc t v) .nili=some (.bool false):=(rfl)
theorem bDb :dA .eql .iface .nili .nili=some (.bool true):=(rfl)
theorem oF (op:Int):PC L 231 [.int .i64 op] (uN op):=by
 refine aL bLo rfl rfl ?_
 simp only[go_sem,qC,qG,qW,aTw]
 repeat' ((first|with_reducible refine aA (fun h=>?_) (fun h=>?_)|with_reducible refine aE (fun h=>?_) (fun h=>?_))<;>(try simp only[cAg,cAh,bXp,bXz]at h)<;>try simp only[go_sem,qC,qG,qW,h])
 all_goals simp[uN, *]
theorem aAe (c:Int)(p:aP)(n:aK):PC L 322 [.int .i64 c,.agg [.fz (p.nodes.map aK.enc),.fz (p.funs.map (.int .i64)),.int .i64 p.main,.fz (p.cons.map bE.enc)],.agg [.int .i64 n.op,.int .i64 n.n,.fz (n.kids.map (.int .i64)),.fz (n.pats.map Pat.enc)]] (.bool (decide ((n.kids.length:Int)=c))):=by
 refine aL bMj rfl rfl ?_
 simp only[go_sem,qC,qG,qW,aUr]
theorem wT (p:aP)(n:aK)(hn:n.pats.length<=1000):PC L 321 [.agg [],.agg [.fz (p.nodes.map aK.enc),.fz (p.funs.map (.int .i64)),.int .i64 p.main,.fz (p.cons.map bE.enc)],.agg [.int .i64 n.op,.int .i64 n.n,.fz (n.kids.map (.int .i64)),.fz (n.pats.map Pat.enc)]] (.bool (inR n.pats.length 1 5&&decide ((n.kids.length:Int)=1+n.pats.length))):=by
 have e:IntKind.i64.wrap (1+(n.pats.length:Int))=1+n.pats.length:=bY (by omega)
 refine aL bMi rfl rfl ?_
 simp only[go_sem,qC,qG,qW,aUq,(jV _ _ _).ret]
 refine aE (fun h=>?_) (fun h=>?_)<;>simp only[go_sem,qC,qG,qW,h,e]<;>simp[h]
theorem aAf (p:aP)(n:aK)(hc:Few p.cons.length):PC L 323 [.agg [],.agg [.fz (p.nodes.map aK.enc),.fz (p.funs.map (.int .i64)),.int .i64 p.main,.fz (p.cons.map bE.enc)],.agg [.int .i64 n.op,.int .i64 n.n,.fz (n.kids.map (.int .i64)),.fz (n.pats.map Pat.enc)]] (.bool (inR n.n 0 (p.cons.length-1)&&decide ((n.kids.length:Int)=(p.cons.getD n.n.toNat default).args))):=by
 refine aL bMk rfl rfl ?_
 simp only[go_sem,qC,qG,qW,aUs,(jV _ _ _).ret,dL hc]
 refine aE (fun h=>?_) (fun h=>?_)<;>simp only[go_sem,qC,qG,qW,h,aCy]<;>simp[h]
def aPy (p:aP)(n:aK):Bool:=if n.op=14 then true else nN p n
theorem uR (p:aP)(n:aK)(hp:p.few):PC L 235 [.agg [.fz (p.nodes.map aK.enc),.fz (p.funs.map (.int .i64)),.int .i64 p.main,.fz (p.cons.map bE.enc)],.agg [.int .i64 n.op,.int .i64 n.n,.fz (n.kids.map (.int .i64)),.fz (n.pats.map Pat.enc)]] (.bool (aPy p n)):=by
 have e1:IntKind.i64.wrap (0-(p.funs.length:Int))= -(p.funs.length:Int):=by have:=hp.funs;unfold Few at this;rw[bY (by omega)];omega
 refine aL bLs rfl rfl ?_
 simp only[go_sem,qC,qG,qW,aT0]
 repeat' ((first|with_reducible refine aA (fun h=>?_) (fun h=>?_)|with_reducible refine aE (fun h=>?_) (fun h=>?_))<;>(try simp only[cAg,cAh,bXp,bXz]at h)<;>try simp only[go_sem,qC,qG,qW,h,e1,(jV _ _ _).ret,(vP _).ret])
 all_goals simp[aPy,nN, *]
theorem tJ (p:aP)(hc:Few p.cons.length)(q:Pat)(hq:q.few):PC L 232 [.agg [.int .i64 q.form,.int .i64 q.n,.str q.text,.fz (q.parts.map Pat.enc)],.fp p.cells 0] (.bool (mE p.cons q)):=by
 refine aL bLp rfl rfl ?_
 simp only[go_sem,qC,qG,qW,aTx,(aKu q hq 12 (by omega) (by omega)).ret,aZr]
 refine aE (fun h=>?_) (fun h=>?_)<;>simp only[go_sem,qC,qG,qW,h,(yT p hc q hq).ret]<;>simp at h<;>simp[mE,h]
 intros;omega
theorem wU (p:aP)(n:aK)(hp:p.few)(hn:n.few)(hm:n.pats.length<=1000):PC L 205 [.agg [.fz (p.nodes.map aK.enc),.fz (p.funs.map (.int .i64)),.int .i64 p.main,.fz (p.cons.map bE.enc)],.agg [.int .i64 n.op,.int .i64 n.n,.fz (n.kids.map (.int .i64)),.fz (n.pats.map Pat.enc)]] (.bool (eG p n)):=by
 have ask:dD L (fun x:Pat=> .agg [.int .i64 x.form,.int .i64 x.n,.str x.text,.fz (x.parts.map Pat.enc)]) (.fn 232 [] [.fp p.cells 0]) (mE p.cons) n.pats:=by
  refine⟨fun n en hn=>?_,rfl,rfl,rfl,fun x hx en K hK=>?_⟩
  ·obtain⟨m,rfl⟩: ∃m,n=m+4:=⟨n-4,by omega⟩
   simp only[go_sem,qW]
  ·have:=tJ p hp.cons x (hn.pat x hx);simp only[go_sem,qW]at this;simp only[go_sem,qW,this.ret];exact hK
 have hev:=mH n.pats _ _ hn.pats ask;simp only[go_sem,qW]at hev;have hnum:=uR p n hp
 refine aL bK3 rfl rfl ?_
 rcases aH1 n.op with⟨c,hk,hko,h14,h15⟩|⟨h14,hk⟩|⟨h15,hk⟩|⟨hk,hko,h14,h15⟩
 ·simp only[go_sem,qC,qG,qW,aF9,(oF _).ret,hk,aKx]
  refine aA (fun h=>?_) (fun h=>?_)
  ·simp only[go_sem,qC,qG,qW]
   simp at h
   simp[eG,jT,h15];intros;simp_all
  ·simp only[go_sem,qC,qG,qW,(aAe c p n).ret]
   simp at h
   refine aE (fun h2=>?_) (fun h2=>?_)
   ·simp only[go_sem,qC,qG,qW,h2,hnum.ret]
    refine aE (fun h3=>?_) (fun h3=>?_)
    ·simp only[go_sem,qC,qG,qW,h3,hev.ret];simp[aPy,h14]at h2 h3;simp[eG,jT,h15,h,hko,h2,h3]
    ·simp only[go_sem,qC,qG,qW,h3];simp[aPy,h14]at h3;simp[eG,h3]
   ·simp only[go_sem,qC,qG,qW,h2]
    simp at h2
    simp[eG,hko,h2]
 ·simp only[go_sem,qC,qG,qW,aF9,(oF _).ret,hk,aKx]
  refine aA (fun h=>?_) (fun h=>?_)
  ·simp only[go_sem,qC,qG,qW]
   simp at h
   simp[eG,jT,h14];intros;simp_all
  ·simp only[go_sem,qC,qG,qW,(aAf p n hp.cons).ret]
   simp at h
   refine aE (fun h2=>?_) (fun h2=>?_)
   ·simp only[go_sem,qC,qG,qW,h2,hnum.ret]
    refine aE (fun h3=>?_) (fun h3=>?_)
    ·simp only[go_sem,qC,qG,qW,h3,hev.ret]
     simp at h2
     simp[eG,jT,nN,fX,oZ,h14,h,h2]
    ·simp only[go_sem,qC,qG,qW,h3];simp[aPy,h14]at h3
   ·simp only[go_sem,qC,qG,qW,h2]
    simp at h2
    simp[eG,jT,nN,fX,oZ,h14,h];intros;simp_all
 ·simp only[go_sem,qC,qG,qW,aF9,(oF _).ret,hk,aKx];simp only[go_sem,qC,qG,qW,(wT p n hm).ret]
  refine aE (fun h2=>?_) (fun h2=>?_)
  ·simp only[go_sem,qC,qG,qW,h2,hnum.ret]
   refine aE (fun h3=>?_) (fun h3=>?_)
   ·simp only[go_sem,qC,qG,qW,h3,hev.ret];simp[aPy,h15]at h2 h3;simp[eG,jT,fX,h15,h2,h3]
   ·simp only[go_sem,qC,qG,qW,h3];simp[aPy,h15]at h3;simp[eG,h3]
  ·simp only[go_sem,qC,qG,qW,h2]
   simp at h2
   simp[eG,jT,fX,h15];intros;simp_all
 ·simp only[go_sem,qC,qG,qW,aF9,(oF _).ret,hk,bDb];simp[eG,hko]
end Go.Proofs.YthpmfghgoabnhaaGreat
