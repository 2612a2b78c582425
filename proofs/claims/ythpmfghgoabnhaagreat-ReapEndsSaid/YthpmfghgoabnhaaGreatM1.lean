/- Contracts of functions of the program and of the document: part 1. -/
import Derived.Test.YthpmfghgoabnhaaGreatHxE
import Derived.Test.YthpmfghgoabnhaaGreatCo
import Derived.Laws.Strings
import Derived.Test.YthpmfghgoabnhaaGreatRows
set_option linter.all false
open Array renaming length_toList → bXb
open Bool renaming and_eq_true → bVc, and_true → bW7, false_and → bV5, false_eq_true → bVd, false_or → bWz, not_eq_false' → bX2, not_eq_true → bWi, not_eq_true' → bWh, not_false → bVz, not_not → bXj, not_true → bVq, true_and → bVy
open Int renaming eq_ofNat_of_zero_le → bWq, natCast_nonneg → bX1, toNat_natCast → bV3
open List renaming all_cons → bVf, all_eq_true → bVo, append_nil → bWw, cons_append → bXe, drop_eq_getElem_cons → bWc, drop_length → bW8, flatMap_cons → bX0, flatMap_nil → bXu, foldl_cons → bW3, getD_eq_getElem?_getD → bVm, getElem?_eq_getElem → bWo, getElem?_set → bXm, getElem_mem → bVp, length_append → bV7, length_cons → bVu, length_drop → bXf, length_map → bVk, length_nil → bWa, map_append → bVx, map_cons → bV9, map_set → bW0, map_take → bXh, mem_append → bV6, mem_cons → bWe, mem_map → bV4, mem_or_eq_of_mem_set → bYa, not_all_eq_any_not → bXi, take_length → bWf, take_of_length_le → bVw
open Nat renaming add_zero → bWu, le_refl → bVe, le_trans → bWd, zero_le → bVn
open Option renaming getD_some → bV0
namespace Go.Abs
theorem dD {n:Nat}(h:Few n):IntKind.i64.wrap ((n:Int)-1)=(n:Int)-1:=by unfold Few at h;exact bM (by omega)
theorem aE6 {α:Type}{l:List α}(h:Few l.length)(k:Nat):Few (l.take k).length:=by unfold Few at*;simp;omega
def aB.few (f:aB):Prop:=Few f.env.length/\ Few f.vals.length
def aI.few (o:aI):Prop:=Few o.vals.length/\ Few o.frames.length/\ ∀f∈o.frames,f.few
structure aC.few (w:aC):Prop where
 objs:Few w.objs.length
 tasks:Few w.tasks.length
 outs:Few w.outs.length
 ins:Few w.ins.length
 obj: ∀o∈w.objs,o.few
inductive Pat.few :Pat->Prop
 |mk (f n:Int) (t:ByteArray) (l:List Pat) (h:Few l.length) (ht:Few t.size) (k: ∀p∈l,Pat.few p):Pat.few (.mk f n t l)
structure aJ.few (n:aJ):Prop where
 kids:Few n.kids.length
 pats:Few n.pats.length
 pat: ∀q∈n.pats,q.few
structure aQ.few (p:aQ):Prop where
 nodes:Few p.nodes.length
 funs:Few p.funs.length
 cons:Few p.cons.length
 node: ∀n∈p.nodes,n.few
 con: ∀c∈p.cons,Few c.name.size
def inR (n lo hi:Int):Bool:=decide (lo<=n/\ n<=hi)
def aJ.asks (n:aJ):Int:=
 if n.op=6 \/n.op=9 \/n.op=10 \/n.op=11 \/n.op=12 \/n.op=13 \/n.op=18 \/n.op=22 then 2
 else if n.op=14 then n.kids.length
 else if n.op=7 \/n.op=8 \/n.op=15 \/n.op=16 \/n.op=17 \/n.op=19 \/n.op=20 \/n.op=23 \/n.op=24 \/n.op=26 then 1 else 0
def aQ.node (p:aQ)(i:Int):aJ:=p.nodes.getD i.toNat default
def cJ (p:aQ)(w:aC)(v:aG):Bool:=
 if v.kind=1 then inR v.n (-1000000000) 1000000000
 else if v.kind=2 then inR v.n 0 1
 else if v.kind=3 then decide (v.n=0)
 else if v.kind=4 then inR v.n 0 (p.funs.length-1)
 else if v.kind=5 then inR v.n 0 (w.objs.length-1)else false
def aR (p:aQ)(w:aC)(l:List aG)(most:Int):Bool:=decide ((l.length:Int)<=most)&&l.all (cJ p w)
def bD (p:aQ)(w:aC)(f:aB):Bool:=
 inR f.node 0 (p.nodes.length-1)&&aR p w f.env 30&&aR p w f.vals (p.node f.node).asks
def bJ (p:aQ)(w:aC)(l:List aB):Bool:=decide ((l.length:Int)<=40)&&l.all (bD p w)
def cN (p:aQ)(f:aB):Bool:=decide ((f.vals.length:Int)<(p.node f.node).asks)
def hH (p:aQ)(w:aC)(o:aI):Bool:=
 if o.n=0 then bJ p w o.frames&&aR p w o.vals 1&&decide ((0:Int)<o.frames.length+o.vals.length)&&(o.frames.take (o.frames.length+o.vals.length-1)).all (cN p)
 else if o.n=1 then decide ((o.frames.length:Int)=0)&&decide ((o.vals.length:Int)=1)&&aR p w o.vals 1
 else if o.n=2 \/o.n=3 \/o.n=4 then decide ((o.frames.length:Int)=0)&&decide ((o.vals.length:Int)=0)else false
def dG (p:aQ)(w:aC)(o:aI):Bool:=
 if o.form=6 then hH p w o
 else if o.form=5 then decide (o.n=0)&&decide ((o.vals.length:Int)=0)&&decide ((0:Int)<o.frames.length)&&bJ p w o.frames&&o.frames.all (cN p)&&decide ((p.node (o.frames.headD default).node).op=26)
 else if¬(o.frames.length:Int)=0 then false
 else if o.form=1 then inR o.n 0 (p.cons.length-1)&&decide ((o.vals.length:Int)=(p.cons.getD o.n.toNat default).args)&&aR p w o.vals 3
 else if o.form=2 then inR o.n 0 (p.nodes.length-1)&&decide ((p.node o.n).op=5)&&aR p w o.vals 30
 else if o.form=3 then decide (o.n=0)&&decide ((o.vals.length:Int)=1)&&aR p w o.vals 1
 else if o.form=4 then decide (o.n=0)&&aR p w o.vals 4 else false
def bH (o:aI):Bool:=decide (o.form=6)
def aC.obj (w:aC)(i:Int):aI:=w.objs.getD i.toNat default
def aZ (w:aC):List Int->List Int->Bool
 |_,[]=>true
 |met,k::l=>inR k 0 (w.objs.length-1)&&bH (w.obj k)&&!met.any (fun x=>decide (x=k))&&aZ w (met++[k]) l
def iJ (w:aC):Bool:=decide (w.tasks.length=w.objs.countP bH)&&aZ w [] w.tasks
def lV (l:List Int)(most:Int):Bool:=decide ((l.length:Int)<=most)&&l.all fun n=>inR n (-1000000000) 1000000000
def rQ (o:aO):Bool:=inR o.port 0 3&&inR o.n (-1000000000) 1000000000
def fY (p:aQ)(w:aC):Bool:=
 decide ((w.objs.length:Int)<=120)&&decide ((w.outs.length:Int)<=100)&&lV w.ins 50&&inR w.used 0 1000000000&&iJ w&&w.objs.all (dG p w)&&w.outs.all rQ
def cZ (o:aI):Bool:=decide ((o.vals.length:Int)<=40)&&decide ((o.frames.length:Int)<=50)&&o.frames.all fun f=>decide ((f.env.length:Int)<=40)&&decide ((f.vals.length:Int)<=40)
def bB (w:aC):Bool:=
 decide ((w.objs.length:Int)<=130)&&decide ((w.tasks.length:Int)<=130)&&decide ((w.outs.length:Int)<=110)&&decide ((w.ins.length:Int)<=60)&&w.objs.all cZ
theorem aOa {α:Type}{l:List α}{k:Nat}(h:k<l.length)(p:α->Bool):(l.take (k+1)).countP p=(l.take k).countP p+(if p l[k]then 1 else 0):=by
 rw[<-List.take_append_getElem h,List.countP_append];simp[List.countP_cons]
theorem dE {α:Type}{l:List α}{k:Nat}(h:k<l.length):l.take (k+1)=l.take k++[l[k]]:=by
 rw[List.take_append_getElem h]
theorem yE {α:Type}{f:α->Val}{size:Nat}{l:List α}{k:IntKind}{i:Int}{en:En}(d:α)(h:inR i 0 ((l.length:Int)-1)=true)(hs: ∀x,(f x).cells.length=size):
  rJ size en (.fz (l.map f)) (.int k i)=some {v:= .fp (f (l.getD i.toNat d)).cells 0}:=by
 simp only[inR,bYb]at h;obtain⟨j,rfl⟩:=bWq h.1;have hj:j<l.length:=by omega
 rw[bDn (f:=f) hj (by simp[hs])]
 simp[bVm,hj]
theorem bK {p:aQ}{k:IntKind}{i:Int}{en:En}(h:inR i 0 ((p.nodes.length:Int)-1)=true):
  rJ 4 en (.fz (p.nodes.map aJ.enc)) (.int k i)=some {v:= .fp (aJ.enc (p.node i)).cells 0}:=yE default h fun x=>rfl
theorem aHo {l:List aB}{k:IntKind}{en:En}(h:0<l.length):rJ 3 en (.fz (l.map aB.enc)) (.int k 0)=some {v:= .fp (aB.enc (l.headD default)).cells 0}:=by
 have:=yE (f:=aB.enc) (size:=3) (k:=k) (i:=0) (en:=en) default (l:=l) (by simp[inR];omega) (fun _=>rfl)
 rw[this];cases l<;>simp at h⊢
theorem aBy {l:List bC}{k:IntKind}{i:Int}{en:En}(h:inR i 0 ((l.length:Int)-1)=true):
  rJ 2 en (.fz (l.map bC.enc)) (.int k i)=some {v:= .fp (bC.enc (l.getD i.toNat default)).cells 0}:=yE default h fun x=>rfl
theorem tV {w:aC}{k:IntKind}{i:Int}{en:En}(h:inR i 0 ((w.objs.length:Int)-1)=true):
  rJ 4 en (.fz (w.objs.map aI.enc)) (.int k i)=some {v:= .fp (aI.enc (w.obj i)).cells 0}:=yE default h fun x=>rfl
theorem sF {l:List Int}{k:IntKind}{i:Int}{en:En}(h:inR i 0 ((l.length:Int)-1)=true):
  rJ 1 en (.fz (l.map (.int .i64))) (.int k i)=some {v:= .fp [.int .i64 (l.getD i.toNat 0)] 0}:=yE 0 h fun x=>rfl
def aX.few (s:aX):Prop:=s.world.few/\ Few s.ages.length/\ Few s.marks.length
def bI (s:aX):Bool:=bB s.world&&decide ((s.ages.length:Int)<=130)&&decide ((s.marks.length:Int)<=130)
end Go.Abs
namespace Go.Proofs.YthpmfghgoabnhaaGreat
open Go.Abs Go.Proofs
theorem kD (n lo hi:Int):PC L 84 [.int .i64 n,.int .i64 lo,.int .i64 hi] (.bool (inR n lo hi)):=by
 refine aL bS5 rfl rfl ?_
 simp only[go_sem,qW,bA2]
 refine aY (fun h=>?_) (fun h=>?_)<;>simp only[go_sem,qW,h]<;>simp at h<;>simp[h,inR]
 omega
theorem aGk (l:List Int)(n:Int)(hl:Few l.length):PC L 120 [.fz (l.map (.int .i64)),.int .i64 n] (.bool (l.any fun x=>decide (x=n))):=by
 refine aL bHp rfl rfl ?_
 simp only[go_sem,qW,aQd]
 refine bF l.length (fun k st=> ∃fr en cnt,st=⟨fr,en,cnt⟩/\ fr 0= .fz (l.map (.int .i64))/\ fr 1= .int .i64 n/\ fr 5= .int .i64 k/\ (l.drop k).any (fun x=>decide (x=n))=l.any fun x=>decide (x=n)) 0 (bVn _) ⟨_,_,_,rfl,by simp only[go_sem,qW],by simp only[go_sem,qW],by simp only[go_sem,qW],rfl⟩ ?_
 rintro k st hk ⟨fr,en,cnt,rfl,h0,h1,h5,hI⟩
 simp only[go_sem,qW,h0,h1,h5]
 refine aU (fun h=>?_) (fun h=>?_)
 ·have h':k<l.length:=of_decide_eq_true h;rw[aEx h']at hI;simp only[go_sem,qW,h',h0,h1,h5]
  refine aU (fun h2=>?_) (fun h2=>?_)
  ·rw[<-hI,h2];rfl
  ·refine⟨_,_,_,rfl,?_⟩
   simp only[go_sem,qW,h0,h1,h5,aK h' hl];rw[<-hI,h2];simp
 ·have:k=l.length:=by simp at h;omega
  subst this;rw[<-hI];simp
theorem rR (n:aJ):PC L 130 [.agg [.int .i64 n.op,.int .i64 n.n,.fz (n.kids.map (.int .i64)),.fz (n.pats.map Pat.enc)]] (.int .i64 n.asks):=by
 refine aL bHy rfl rfl ?_
 simp only[go_sem,qW,aQm]
 repeat' ((first|with_reducible refine aU (fun h=>?_) (fun h=>?_)|with_reducible refine aY (fun h=>?_) (fun h=>?_))<;>(try simp only[bYb,bYc,bVq,bVz]at h)<;>try simp only[go_sem,qW,h])
 all_goals simp[aJ.asks, *]
theorem aI2 (p:aQ)(w:aC)(v:aG)(hp:p.few)(hw:w.few):PC L 153 [.agg [.fz (p.nodes.map aJ.enc),.fz (p.funs.map (.int .i64)),.int .i64 p.main,.fz (p.cons.map bC.enc)],.agg [.fz (w.objs.map aI.enc),.fz (w.tasks.map (.int .i64)),.fz (w.outs.map aO.enc),.fz (w.ins.map (.int .i64)),.int .i64 w.used],.agg [.int .i64 v.kind,.int .i64 v.n]] (.bool (cJ p w v)):=by
 refine aL bIa rfl rfl ?_
 simp only[go_sem,qW,aQx,(kD _ _ _).ret,dD hp.funs,dD hw.objs]
 repeat' ((first|with_reducible refine aU (fun h=>?_) (fun h=>?_)|with_reducible refine aY (fun h=>?_) (fun h=>?_))<;>(try simp only[bYb,bYc,bVq,bVz]at h)<;>try simp only[go_sem,qW,h,(kD _ _ _).ret,dD hp.funs,dD hw.objs])
 all_goals simp[cJ, *]
theorem mG (p:aQ)(w:aC)(l:List aG)(m:Int)(hp:p.few)(hw:w.few)(hl:Few l.length):
  PC L 124 [.agg [.fz (p.nodes.map aJ.enc),.fz (p.funs.map (.int .i64)),.int .i64 p.main,.fz (p.cons.map bC.enc)],.agg [.fz (w.objs.map aI.enc),.fz (w.tasks.map (.int .i64)),.fz (w.outs.map aO.enc),.fz (w.ins.map (.int .i64)),.int .i64 w.used],.fz (l.map aG.enc),.int .i64 m] (.bool (aR p w l m)):=by
 refine aL bHt rfl rfl ?_
 simp only[go_sem,qW,aQh]
 refine bF (l.length) (fun k st=> ∃fr en cnt,st=⟨fr,en,cnt⟩/\ (fr 2= .fz (l.map aG.enc))/\ (fr 3= .int .i64 m)/\ (fr 4= .ptr ⟨0,4,0⟩ 0)/\ (en ⟨0,4,0⟩=some (.box p.cells false))/\ (fr 5= .ptr ⟨0,5,0⟩ 0)/\ (en ⟨0,5,0⟩=some (.box w.cells false))/\ (fr 9= .int .i64 k)/\ ((l.drop k).all (cJ p w)=l.all (cJ p w))) 0 (bVn _) ⟨_,_,_,rfl,(by first|(simp only[go_sem,qW];(try rfl);done)|rfl|simp),(by first|(simp only[go_sem,qW];(try rfl);done)|rfl|simp),(by first|(simp only[go_sem,qW];(try rfl);done)|rfl|simp),(by first|(simp only[go_sem,qW];(try rfl);done)|rfl|simp),(by first|(simp only[go_sem,qW];(try rfl);done)|rfl|simp),(by first|(simp only[go_sem,qW];(try rfl);done)|rfl|simp),(by first|(simp only[go_sem,qW];(try rfl);done)|rfl|simp),(by first|(simp only[go_sem,qW];(try rfl);done)|rfl|simp)⟩ ?_
 rintro k st hk ⟨fr,en,cnt,rfl,h2,h3,h4,e4,h5,e5,h9,hI⟩
 simp only[go_sem,qW,h2,h3,h4,e4,h5,e5,h9]
 refine aY (fun h=>?_) (fun h=>?_)
 ·have h':k<l.length:=of_decide_eq_true h;rw[eZ h']at hI;simp only[go_sem,qW,h,h',h2,h3,h4,e4,h5,e5,h9]
  refine aU (fun hm=>?_) (fun hm=>?_)
  ·simp only[go_sem,qW,h',h2,h3,h4,e4,h5,e5,h9,(aI2 p w _ hp hw).ret]
   refine aU (fun hb=>?_) (fun hb=>?_)
   ·simp at hb
    simp[aR,<-hI,hb]
   ·simp at hb
    refine⟨_,_,_,rfl,?_⟩
    simp only[go_sem,qW,h2,h3,h4,e4,h5,e5,h9,aK h' hl];rw[<-hI,hb];simp
  ·simp at hm
   try simp only[go_sem,qW,h2,h3,h4,e4,h5,e5,h9]
   simp[aR];omega
 ·have:k=l.length:=by simp at h;omega
  subst this
  try simp only[go_sem,qW,h,h2,h3,h4,e4,h5,e5,h9]
  simp at hI
  simp[aR];exact fun _=>hI
theorem yF (p:aQ)(w:aC)(l:List aB)(hp:p.few)(hw:w.few)(hl:Few l.length)(hf: ∀f∈l,f.few):
  PC L 122 [.agg [.fz (p.nodes.map aJ.enc),.fz (p.funs.map (.int .i64)),.int .i64 p.main,.fz (p.cons.map bC.enc)],.agg [.fz (w.objs.map aI.enc),.fz (w.tasks.map (.int .i64)),.fz (w.outs.map aO.enc),.fz (w.ins.map (.int .i64)),.int .i64 w.used],.fz (l.map aB.enc)] (.bool (bJ p w l)):=by
 refine aL bHr rfl rfl ?_
 simp only[go_sem,qW,aQf]
 refine bF (l.length) (fun k st=> ∃fr en cnt,st=⟨fr,en,cnt⟩/\ (fr 2= .fz (l.map aB.enc))/\ (fr 3= .ptr ⟨0,3,0⟩ 0)/\ (en ⟨0,3,0⟩=some (.box p.cells false))/\ (fr 4= .ptr ⟨0,4,0⟩ 0)/\ (en ⟨0,4,0⟩=some (.box w.cells false))/\ (fr 7= .int .i64 k)/\ ((l.drop k).all (bD p w)=l.all (bD p w))) 0 (bVn _) ⟨_,_,_,rfl,(by first|(simp only[go_sem,qW];(try rfl);done)|rfl|simp),(by first|(simp only[go_sem,qW];(try rfl);done)|rfl|simp),(by first|(simp only[go_sem,qW];(try rfl);done)|rfl|simp),(by first|(simp only[go_sem,qW];(try rfl);done)|rfl|simp),(by first|(simp only[go_sem,qW];(try rfl);done)|rfl|simp),(by first|(simp only[go_sem,qW];(try rfl);done)|rfl|simp),(by first|(simp only[go_sem,qW];(try rfl);done)|rfl|simp)⟩ ?_
 rintro k st hk ⟨fr,en,cnt,rfl,h2,h3,e3,h4,e4,h7,hI⟩
 simp only[go_sem,qW,h2,h3,e3,h4,e4,h7]
 refine aY (fun h=>?_) (fun h=>?_)
 ·have h':k<l.length:=of_decide_eq_true h;rw[eZ h']at hI;have hx:=hf l[k] (bVp _);simp only[go_sem,qW,h,h',h2,h3,e3,h4,e4,h7]
  refine aU (fun hm=>?_) (fun hm=>?_)
  ·refine vV ?_ ?_
   ·decide
   simp only[go_sem,qW,h',h2,h3,e3,h4,e4,h7,(kD _ _ _).ret,dD hp.nodes]
   refine aY (fun hb=>?_) (fun hb=>?_)
   ·have hb':inR l[k].node 0 (p.nodes.length-1)=true:=by simpa using hb
    simp only[go_sem,qW,hb,hb',h2,h3,e3,h4,e4,h7,(mG p w _ _ hp hw hx.1).ret]
    refine aY (fun hc=>?_) (fun hc=>?_)
    ·have hc':aR p w l[k].env 30=true:=by simpa using hc
     simp only[go_sem,qW,hc,hc',hb',h2,h3,e3,h4,e4,h7,bK,(rR _).ret,(mG p w _ _ hp hw hx.2).ret]
     refine aU (fun hd=>?_) (fun hd=>?_)
     ·simp at hd
      simp[bJ,<-hI,bD,hb',hc',hd]
     ·simp at hd
      refine⟨_,_,_,rfl,?_⟩
      simp only[go_sem,qW,h2,h3,e3,h4,e4,h7,aK h' hl];rw[<-hI];simp[bD,hb',hc',hd]
    ·simp only[go_sem,qW,hc,hb',h2,h3,e3,h4,e4,h7]
     simp at hc
     simp[bJ,<-hI,bD,hc]
   ·simp only[go_sem,qW,hb,h2,h3,e3,h4,e4,h7]
    simp at hb
    simp[bJ,<-hI,bD,hb]
  ·simp at hm
   try simp only[go_sem,qW,h2,h3,e3,h4,e4,h7]
   simp[bJ];omega
 ·have:k=l.length:=by simp at h;omega
  subst this
  try simp only[go_sem,qW,h,h2,h3,e3,h4,e4,h7]
  simp at hI
  simp[bJ];exact fun _=>hI
end Go.Proofs.YthpmfghgoabnhaaGreat
namespace Go.Proofs.YthpmfghgoabnhaaGreat
open Go.Abs Go.Proofs
theorem aC3 (p:aQ)(l:List aB)(n:Nat)(hp:p.few)(hl:Few l.length)(hn:n<=l.length)(hf: ∀f∈l,inR f.node 0 (p.nodes.length-1)=true):
  PC L 123 [.agg [.fz (p.nodes.map aJ.enc),.fz (p.funs.map (.int .i64)),.int .i64 p.main,.fz (p.cons.map bC.enc)],.fz (l.map aB.enc),.int .i64 n] (.bool ((l.take n).all (cN p))):=by
 refine aL bHs rfl rfl ?_
 simp only[go_sem,qW,aQg]
 refine bF (n) (fun k st=> ∃fr en cnt,st=⟨fr,en,cnt⟩/\ (fr 1= .fz (l.map aB.enc))/\ (fr 2= .int .i64 n)/\ (fr 3= .ptr ⟨0,3,0⟩ 0)/\ (en ⟨0,3,0⟩=some (.box p.cells false))/\ (fr 7= .int .i64 k)/\ (((l.take n).drop k).all (cN p)=(l.take n).all (cN p))) 0 (bVn _) ⟨_,_,_,rfl,(by first|(simp only[go_sem,qW];(try rfl);done)|rfl|simp),(by first|(simp only[go_sem,qW];(try rfl);done)|rfl|simp),(by first|(simp only[go_sem,qW];(try rfl);done)|rfl|simp),(by first|(simp only[go_sem,qW];(try rfl);done)|rfl|simp),(by first|(simp only[go_sem,qW];(try rfl);done)|rfl|simp),(by first|(simp only[go_sem,qW];(try rfl);done)|rfl|simp)⟩ ?_
 rintro k st hk ⟨fr,en,cnt,rfl,h1,h2,h3,e3,h7,hI⟩
 simp only[go_sem,qW,h1,h2,h3,e3,h7]
 refine aU (fun h=>?_) (fun h=>?_)
 ·have h'':k<n:=by simp at h;omega
  have h':k<l.length:=by omega
  rw[eZ (by simp;omega)]at hI
  have hx:=hf l[k] (bVp _)
  try simp only[go_sem,qW,h1,h2,h3,e3,h7]
  refine vV ?_ ?_
  ·decide
  simp only[go_sem,qW,h1,h2,h3,e3,h7,h',h'',hx,bK,(rR _).ret];have he:(l.take n)[k]'(by simp;omega)=l[k]:=by simp
  rw[he]at hI
  refine aU (fun hb=>?_) (fun hb=>?_)
  ·simp at hb
   have:cN p l[k]=false:=by simp[cN,hb]
   rw[<-hI,this];rfl
  ·simp at hb
   have:cN p l[k]=true:=by simp[cN,hb]
   refine⟨_,_,_,rfl,?_⟩
   simp only[go_sem,qW,h1,h2,h3,e3,h7,h'',aK h' hl];rw[<-hI,this];simp
 ·have:k=n:=by simp at h;omega
  subst this
  try simp only[go_sem,qW]
  rw[<-hI];simp
theorem aI3 {p:aQ}{w:aC}{l:List aG}{m:Int}(h:aR p w l m=true):(l.length:Int)<=m:=by
 simp[aR]at h;exact h.1
theorem aAl {p:aQ}{w:aC}{l:List aB}(h:bJ p w l=true):(l.length:Int)<=40:=by
 simp[bJ]at h;omega
theorem mH {p:aQ}{w:aC}{l:List aB}(h:bJ p w l=true): ∀f∈l,inR f.node 0 (p.nodes.length-1)=true:=by
 simp[bJ]at h;intro f hf;have:=h.2 f hf;simp[bD]at this;exact this.1.1
theorem aLp (p:aQ)(w:aC)(o:aI)(hp:p.few)(hw:w.few)(ho:o.few):PC L 121 [.agg [.fz (p.nodes.map aJ.enc),.fz (p.funs.map (.int .i64)),.int .i64 p.main,.fz (p.cons.map bC.enc)],.agg [.fz (w.objs.map aI.enc),.fz (w.tasks.map (.int .i64)),.fz (w.outs.map aO.enc),.fz (w.ins.map (.int .i64)),.int .i64 w.used],.agg [.int .i64 o.form,.int .i64 o.n,.fz (o.vals.map aG.enc),.fz (o.frames.map aB.enc)]] (.bool (hH p w o)):=by
 refine aL bHq rfl rfl ?_
 simp only[go_sem,qW,aQe]
 refine aU (fun h=>?_) (fun h=>?_)<;>simp only[bYb,bYc]at h
 ·simp only[go_sem,qW,(yF p w _ hp hw ho.2.1 ho.2.2).ret]
  refine aY (fun h1=>?_) (fun h1=>?_)
  ·simp only[go_sem,qW,h1,(mG p w _ _ hp hw ho.1).ret]
   refine aY (fun h2=>?_) (fun h2=>?_)
   ·have k1:=aAl h1;have k2:=aI3 h2;have e1:IntKind.i64.wrap ((o.frames.length:Int)+o.vals.length)=(o.frames.length:Int)+o.vals.length:=bM (by omega)
    simp only[go_sem,qW,h1,h2,e1]
    refine aY (fun h3=>?_) (fun h3=>?_)
    ·simp at h3
     have e2:IntKind.i64.wrap ((o.frames.length:Int)-1)=(o.frames.length:Int)-1:=bM (by omega)
     have e3:IntKind.i64.wrap ((o.frames.length:Int)-1+o.vals.length)=((o.frames.length+o.vals.length-1:Nat):Int):=by rw[bM (by omega)];omega
     have e4:min (o.frames.length:Int) (max 0 ((o.frames.length+o.vals.length-1:Nat):Int))=((o.frames.length+o.vals.length-1:Nat):Int):=by omega
     simp only[go_sem,qW,h3,e2,e3,e4,(aC3 p o.frames (o.frames.length+o.vals.length-1) hp ho.2.1 (by omega) (mH h1)).ret]
     simp[hH,h,h1,h2,h3]
    ·simp only[go_sem,qW,h3]
     simp at h3
     simp[hH,h,h1,h2];omega
   ·simp only[go_sem,qW,h1,h2]
    simp at h2
    simp[hH,h,h1,h2]
  ·simp only[go_sem,qW,h1]
   simp at h1
   simp[hH,h,h1]
 ·repeat' ((first|with_reducible refine aU (fun h=>?_) (fun h=>?_)|with_reducible refine aY (fun h=>?_) (fun h=>?_))<;>(try simp only[bYb,bYc,bVq,bVz]at h)<;>try simp only[go_sem,qW,h,(mG p w _ _ hp hw ho.1).ret])
  all_goals simp[hH, *]
  all_goals (intros;simp_all)
theorem aGl (p:aQ)(w:aC)(o:aI)(hp:p.few)(hw:w.few)(ho:o.few):PC L 86 [.agg [.fz (p.nodes.map aJ.enc),.fz (p.funs.map (.int .i64)),.int .i64 p.main,.fz (p.cons.map bC.enc)],.agg [.fz (w.objs.map aI.enc),.fz (w.tasks.map (.int .i64)),.fz (w.outs.map aO.enc),.fz (w.ins.map (.int .i64)),.int .i64 w.used],.agg [.int .i64 o.form,.int .i64 o.n,.fz (o.vals.map aG.enc),.fz (o.frames.map aB.enc)]] (.bool (dG p w o)):=by
 refine aL bS7 rfl rfl ?_
 simp only[go_sem,qW,bA4]
 refine aU (fun h=>?_) (fun h=>?_)<;>simp only[bYb,bYc]at h
 ·simp only[go_sem,qW,(aLp p w o hp hw ho).ret];simp[dG,h]
 ·refine aU (fun h5=>?_) (fun h5=>?_)<;>simp only[bYb,bYc]at h5
  ·try simp only[go_sem,qW]
   refine aY (fun h1=>?_) (fun h1=>?_)
   ·simp only[go_sem,qW,h1]
    refine aY (fun h2=>?_) (fun h2=>?_)
    ·simp only[go_sem,qW,h1,h2]
     refine aY (fun h3=>?_) (fun h3=>?_)
     ·simp only[go_sem,qW,h1,h2,h3,(yF p w _ hp hw ho.2.1 ho.2.2).ret]
      refine aY (fun h4=>?_) (fun h4=>?_)
      ·simp only[go_sem,qW,h1,h2,h3,h4,(aC3 p o.frames o.frames.length hp ho.2.1 (bVe _) (mH h4)).ret]
       refine aY (fun h6=>?_) (fun h6=>?_)
       ·have hpos:0<o.frames.length:=by have:=of_decide_eq_true h3;omega
        have hn:inR (o.frames.headD default).node 0 (p.nodes.length-1)=true:=mH h4 _ (by cases hh:o.frames with|nil=>simp[hh]at hpos|cons a l=>simp)
        simp only[go_sem,qW,h6,aHo hpos,hn,bK]
        simp at h6 h1 h2
        simp[dG,h,h5,h1,h2,h4,h6]
        first|(intros;simp_all;done)|trace_state
       ·simp only[go_sem,qW,h6]
        simp at h6 h1 h2
        simp[dG,h,h5,h1,h2,h4];obtain⟨x,hx,hx2⟩:=h6;intro _ hh;rw[hh x hx]at hx2;cases hx2
      ·simp only[go_sem,qW,h4]
       simp at h4
       simp[dG,h,h5,h4]
     ·simp only[go_sem,qW,h3]
      simp at h3
      simp[dG,h,h5,h3]
    ·simp only[go_sem,qW,h2]
     simp at h2
     simp[dG,h,h5,h2]
   ·simp only[go_sem,qW,h1]
    simp at h1
    simp[dG,h,h5,h1]
  ·try simp only[go_sem,qW]
   refine aU (fun h7=>?_) (fun h7=>?_)
   ·simp at h7
    simp[dG,h,h5,h7]
   ·have h7':(o.frames.length:Int)=0:=by simp at h7;simp[h7]
    try simp only[go_sem,qW]
    repeat' ((first|with_reducible refine aU (fun h=>?_) (fun h=>?_)|with_reducible refine aY (fun h=>?_) (fun h=>?_))<;>(try simp only[bYb,bYc,bVq,bVz]at h)<;>try simp only[go_sem,qW, *,(kD _ _ _).ret,(mG p w _ _ hp hw ho.1).ret,dD hp.nodes,dD hp.cons,bK,aBy])
    all_goals simp[dG, *]
    all_goals (intros;simp_all)
end Go.Proofs.YthpmfghgoabnhaaGreat
namespace Go.Proofs.YthpmfghgoabnhaaGreat
open Go.Abs Go.Proofs
theorem aLq (l:List Int)(m:Int)(hl:Few l.length):PC L 83 [.fz (l.map (.int .i64)),.int .i64 m] (.bool (lV l m)):=by
 refine aL bS4 rfl rfl ?_
 simp only[go_sem,qW,bA1]
 refine bF (l.length) (fun k st=> ∃fr en cnt,st=⟨fr,en,cnt⟩/\ (fr 0= .fz (l.map (.int .i64)))/\ (fr 1= .int .i64 m)/\ (fr 5= .int .i64 k)/\ ((l.drop k).all (fun n=>inR n (-1000000000) 1000000000)=l.all fun n=>inR n (-1000000000) 1000000000)) 0 (bVn _) ⟨_,_,_,rfl,(by first|(simp only[go_sem,qW];(try rfl);done)|rfl|simp),(by first|(simp only[go_sem,qW];(try rfl);done)|rfl|simp),(by first|(simp only[go_sem,qW];(try rfl);done)|rfl|simp),(by first|(simp only[go_sem,qW];(try rfl);done)|rfl|simp)⟩ ?_
 rintro k st hk ⟨fr,en,cnt,rfl,h0,h1,h5,hI⟩
 simp only[go_sem,qW,h0,h1,h5]
 refine aY (fun h=>?_) (fun h=>?_)
 ·have h':k<l.length:=of_decide_eq_true h;rw[eZ h']at hI;simp only[go_sem,qW,h,h',h0,h1,h5]
  refine aU (fun hm=>?_) (fun hm=>?_)
  ·simp only[go_sem,qW,h',h0,h1,h5,(kD _ _ _).ret]
   refine aU (fun hb=>?_) (fun hb=>?_)
   ·simp at hb
    simp[lV,<-hI,hb]
   ·simp at hb
    refine⟨_,_,_,rfl,?_⟩
    simp only[go_sem,qW,h0,h1,h5,aK h' hl];rw[<-hI,hb];simp
  ·simp at hm
   try simp only[go_sem,qW,h0,h1,h5]
   simp[lV];omega
 ·have:k=l.length:=by simp at h;omega
  subst this
  try simp only[go_sem,qW,h,h0,h1,h5]
  simp at hI
  simp[lV];exact fun _=>hI
theorem aI4 (w:aC)(hw:w.few):PC L 85 [.agg [.fz (w.objs.map aI.enc),.fz (w.tasks.map (.int .i64)),.fz (w.outs.map aO.enc),.fz (w.ins.map (.int .i64)),.int .i64 w.used]] (.bool (iJ w)):=by
 refine aL bS6 rfl rfl ?_
 simp only[go_sem,qW,bA3]
 refine bF (w.objs.length) (fun k st=> ∃fr en cnt,st=⟨fr,en,cnt⟩/\ (fr 1= .ptr ⟨0,1,0⟩ 0)/\ (en ⟨0,1,0⟩=some (.box w.cells false))/\ (fr 3= .int .i64 ((w.objs.take k).countP bH:Nat))/\ (fr 4= .int .i64 k)) 0 (bVn _) ⟨_,_,_,rfl,(by first|(simp only[go_sem,qW];(try rfl);done)|rfl|simp),(by first|(simp only[go_sem,qW];(try rfl);done)|rfl|simp),(by first|(simp only[go_sem,qW];(try rfl);done)|rfl|simp),(by first|(simp only[go_sem,qW];(try rfl);done)|rfl|simp)⟩ ?_
 rintro k st hk ⟨fr,en,cnt,rfl,h1,e1,h3,h4⟩
 simp only[go_sem,qW,h1,e1,h3,h4]
 refine aU (fun h=>?_) (fun h=>?_)
 ·have h':k<w.objs.length:=of_decide_eq_true h;have hc:(w.objs.take k).countP bH<=k:=bWd List.countP_le_length (by simp;omega)
  have hs:=aOa h' bH;simp only[go_sem,qW,h',h1,e1,h3,h4]
  refine aU (fun hb=>?_) (fun hb=>?_)
  ·simp at hb
   have e:IntKind.i64.wrap (((w.objs.take k).countP bH:Nat)+1)=(((w.objs.take (k+1)).countP bH:Nat):Int):=by
    have:=hw.objs;unfold Few at this;rw[bM (by omega),hs];simp[bH,hb]
   simp only[go_sem,qW,h1,e1,h3,h4,e,aK h' hw.objs]
   refine⟨_,_,_,rfl,?_⟩
   simp only[go_sem,qW,h1,e1,h3,h4,e,aK h' hw.objs]
  ·simp at hb
   have e:(w.objs.take (k+1)).countP bH=(w.objs.take k).countP bH:=by rw[hs];simp[bH,hb]
   refine⟨_,_,_,rfl,?_⟩
   simp only[go_sem,qW,h1,e1,h3,h4,e,aK h' hw.objs]
 ·have:k=w.objs.length:=by simp at h;omega
  subst this
  try simp only[go_sem,qW,h1,e1,h3,h4,bWf]
  refine aU (fun hb=>?_) (fun hb=>?_)
  ·simp at hb
   simp[iJ];intro h0;omega
  ·have hn:w.tasks.length=w.objs.countP bH:=by simp at hb;omega
   clear hb h
   refine bF (w.tasks.length) (fun k st=> ∃fr en cnt,st=⟨fr,en,cnt⟩/\ (fr 1= .ptr ⟨0,1,0⟩ 0)/\ (en ⟨0,1,0⟩=some (.box w.cells false))/\ (fr 3= .int .i64 (w.tasks.length:Nat))/\ (fr 5= .int .i64 k)/\ (aZ w (w.tasks.take k) (w.tasks.drop k)=aZ w [] w.tasks)) 0 (bVn _) ⟨_,_,_,rfl,(by first|(simp only[go_sem,h1,e1,h3,h4,hn,bWf];(try rfl);done)|rfl|simp),(by first|(simp only[go_sem,h1,e1,h3,h4,hn,bWf];(try rfl);done)|rfl|simp),(by first|(simp only[go_sem,h1,e1,h3,h4,hn,bWf];(try rfl);done)|rfl|simp),(by first|(simp only[go_sem,h1,e1,h3,h4,hn,bWf];(try rfl);done)|rfl|simp),(by first|(simp only[go_sem,h1,e1,h3,h4,hn,bWf];(try rfl);done)|rfl|simp)⟩ ?_
   rintro k st hk ⟨fr,en,cnt,rfl,h1,e1,h3,h5,hI⟩
   simp only[go_sem,qW,h1,e1,h3,h5]
   refine aU (fun h=>?_) (fun h=>?_)
   ·have h':k<w.tasks.length:=of_decide_eq_true h;rw[bWc h',aZ,<-dE h']at hI;simp only[go_sem,qW,h',h1,e1,h3,h5,(kD _ _ _).ret,dD hw.objs]
    refine aY (fun hb=>?_) (fun hb=>?_)
    ·have hb':inR w.tasks[k] 0 (w.objs.length-1)=true:=by simpa using hb
     simp only[go_sem,qW,h',hb,hb',h1,e1,h3,h5,tV]
     refine aY (fun hc=>?_) (fun hc=>?_)
     ·have hc':bH (w.obj w.tasks[k])=true:=by simpa[bH]using hc
      simp only[go_sem,qW,h',hb,hb',hc,h1,e1,h3,h5,qQ,hk,<-bXh,(aGk _ _ (aE6 hw.tasks k)).ret]
      refine aU (fun hd=>?_) (fun hd=>?_)
      ·simp[iJ,<-hI,hb',hc',hd]
      ·refine⟨_,_,_,rfl,?_⟩
       simp only[go_sem,qW,h1,e1,h3,h5,aK h' hw.tasks];rw[<-hI,hb',hc',hd];simp
     ·simp only[go_sem,qW,hc,h1,e1,h3,h5];simp[bH]at hc;simp[iJ,<-hI,bH,hc]
    ·simp only[go_sem,qW,hb,h1,e1,h3,h5]
     simp at hb
     simp[iJ,<-hI,hb]
   ·have:k=w.tasks.length:=by simp at h;omega
    subst this
    try simp only[go_sem,qW,h1,e1,h3,h5]
    have ht:aZ w [] w.tasks=true:=by rw[<-hI];simp[aZ]
    simp[iJ,hn,ht]
theorem aI5 (p:aQ)(w:aC)(hp:p.few)(hw:w.few):PC L 37 [.agg [.fz (p.nodes.map aJ.enc),.fz (p.funs.map (.int .i64)),.int .i64 p.main,.fz (p.cons.map bC.enc)],.agg [.fz (w.objs.map aI.enc),.fz (w.tasks.map (.int .i64)),.fz (w.outs.map aO.enc),.fz (w.ins.map (.int .i64)),.int .i64 w.used]] (.bool (fY p w)):=by
 refine aL bSh rfl rfl ?_
 simp only[go_sem,qW,bAg]
 repeat' ((first|with_reducible refine aU (fun h=>?_) (fun h=>?_)|with_reducible refine aY (fun h=>?_) (fun h=>?_))<;>(try simp only[bYb,bYc,bVq,bVz]at h)<;>try simp only[go_sem,qW, *,(kD _ _ _).ret,(aLq _ _ hw.ins).ret,(aI4 w hw).ret])
 all_goals (try simp only[bWh,bX2,Int.not_lt,Int.not_le]at*)
 all_goals try(simp[fY, *];done)
 all_goals try(simp[fY, *];intros;omega)
 rename_i g1 g2 g3 g4
 refine bF (w.objs.length) (fun k st=> ∃fr en cnt,st=⟨fr,en,cnt⟩/\ (fr 2= .ptr ⟨0,2,0⟩ 0)/\ (en ⟨0,2,0⟩=some (.box p.cells false))/\ (fr 3= .ptr ⟨0,3,0⟩ 0)/\ (en ⟨0,3,0⟩=some (.box w.cells false))/\ (fr 5= .int .i64 k)/\ ((w.objs.drop k).all (dG p w)=w.objs.all (dG p w))) 0 (bVn _) ⟨_,_,_,rfl,(by first|(simp only[go_sem,qW];(try rfl);done)|rfl|simp),(by first|(simp only[go_sem,qW];(try rfl);done)|rfl|simp),(by first|(simp only[go_sem,qW];(try rfl);done)|rfl|simp),(by first|(simp only[go_sem,qW];(try rfl);done)|rfl|simp),(by first|(simp only[go_sem,qW];(try rfl);done)|rfl|simp),(by first|(simp only[go_sem,qW];(try rfl);done)|rfl|simp)⟩ ?_
 rintro k st hk ⟨fr,en,cnt,rfl,h2,e2,h3,e3,h5,hI⟩
 simp only[go_sem,qW,h2,e2,h3,e3,h5]
 refine aU (fun h1=>?_) (fun h1=>?_)
 ·have h':k<w.objs.length:=of_decide_eq_true h1;rw[eZ h']at hI;simp only[go_sem,qW,h',h2,e2,h3,e3,h5,(aGl p w _ hp hw (hw.obj w.objs[k] (bVp _))).ret]
  refine aU (fun hb=>?_) (fun hb=>?_)
  ·simp at hb
   simp[fY,<-hI,hb]
  ·simp at hb
   refine⟨_,_,_,rfl,?_⟩
   simp only[go_sem,qW,h2,e2,h3,e3,h5,aK h' hw.objs];rw[<-hI,hb];simp
 ·have:k=w.objs.length:=by simp at h1;omega
  subst this;have hobj:w.objs.all (dG p w)=true:=by rw[<-hI];simp
  clear hI h1
  try simp only[go_sem,qW,h2,e2,h3,e3,h5]
  refine bF (w.outs.length) (fun k st=> ∃fr en cnt,st=⟨fr,en,cnt⟩/\ (fr 3= .ptr ⟨0,3,0⟩ 0)/\ (en ⟨0,3,0⟩=some (.box w.cells false))/\ (fr 6= .int .i64 k)/\ ((w.outs.drop k).all rQ=w.outs.all rQ)) 0 (bVn _) ⟨_,_,_,rfl,(by first|(simp only[go_sem,h2,e2,h3,e3,h5];(try rfl);done)|rfl|simp),(by first|(simp only[go_sem,h2,e2,h3,e3,h5];(try rfl);done)|rfl|simp),(by first|(simp only[go_sem,h2,e2,h3,e3,h5];(try rfl);done)|rfl|simp),(by first|(simp only[go_sem,h2,e2,h3,e3,h5];(try rfl);done)|rfl|simp)⟩ ?_
  rintro k st hk ⟨fr,en,cnt,rfl,h3,e3,h6,hI⟩
  simp only[go_sem,qW,h3,e3,h6]
  refine aU (fun h1=>?_) (fun h1=>?_)
  ·have h':k<w.outs.length:=of_decide_eq_true h1;rw[eZ h']at hI;simp only[go_sem,qW,h',h3,e3,h6,(kD _ _ _).ret]
   refine aY (fun hb=>?_) (fun hb=>?_)
   ·simp at hb
    simp only[go_sem,qW,h',hb,bVq,h3,e3,h6,(kD _ _ _).ret]
    refine aU (fun hc=>?_) (fun hc=>?_)
    ·simp at hc
     simp[fY,<-hI,rQ,hc]
    ·simp at hc
     refine⟨_,_,_,rfl,?_⟩
     simp only[go_sem,qW,h3,e3,h6,aK h' hw.outs];rw[<-hI,rQ,hb,hc];simp
   ·simp at hb
    simp only[go_sem,qW,hb,bVz,h3,e3,h6];simp[fY,<-hI,rQ,hb]
  ·have:k=w.outs.length:=by simp at h1;omega
   subst this;have hout:w.outs.all rQ=true:=by rw[<-hI];simp
   try simp only[go_sem,qW,h3,e3,h6]
   simp only[fY,hobj,hout,g3,g4,h];simp[g1,g2]
theorem oO (l:List aG):PC L 101 [.fz (l.map aG.enc)] (.bool (decide ((l.length:Int)<=40))):=by
 refine aL bHd rfl rfl ?_
 simp only[go_sem,qW,aP1]
theorem aAm (w:aC)(hw:w.few):PC L 57 [.agg [.fz (w.objs.map aI.enc),.fz (w.tasks.map (.int .i64)),.fz (w.outs.map aO.enc),.fz (w.ins.map (.int .i64)),.int .i64 w.used]] (.bool (bB w)):=by
 refine aL bSo rfl rfl ?_
 simp only[go_sem,qW,bAl]
 repeat' ((first|with_reducible refine aU (fun h=>?_) (fun h=>?_)|with_reducible refine aY (fun h=>?_) (fun h=>?_))<;>(try simp only[bYb,bYc,bVq,bVz]at h)<;>try simp only[go_sem,qW, *])
 all_goals (try simp only[bWh,bX2,Int.not_lt,Int.not_le]at*)
 all_goals try(simp[bB, *];done)
 all_goals try(simp[bB, *];intros;omega)
 rename_i g1 g2 g3
 refine bF (w.objs.length) (fun k st=> ∃fr en cnt,st=⟨fr,en,cnt⟩/\ (fr 1= .ptr ⟨0,1,0⟩ 0)/\ (en ⟨0,1,0⟩=some (.box w.cells false))/\ (fr 3= .int .i64 k)/\ ((w.objs.drop k).all cZ=w.objs.all cZ)) 0 (bVn _) ⟨_,_,_,rfl,(by first|(simp only[go_sem,qW];(try rfl);done)|rfl|simp),(by first|(simp only[go_sem,qW];(try rfl);done)|rfl|simp),(by first|(simp only[go_sem,qW];(try rfl);done)|rfl|simp),(by first|(simp only[go_sem,qW];(try rfl);done)|rfl|simp)⟩ ?_
 rintro k st hk ⟨fr,en,cnt,rfl,h1,e1,h3,hI⟩
 simp only[go_sem,qW,h1,e1,h3]
 refine aU (fun hq=>?_) (fun hq=>?_)
 ·have h':k<w.objs.length:=of_decide_eq_true hq;have hx:=hw.obj w.objs[k] (bVp _);rw[eZ h']at hI;simp only[go_sem,qW,h',h1,e1,h3,(oO _).ret]
  refine aY (fun hb=>?_) (fun hb=>?_)
  ·simp at hb
   try simp only[go_sem,qW,h',hb,h1,e1,h3]
   refine aU (fun hc=>?_) (fun hc=>?_)
   ·simp at hc
    simp[bB,<-hI,cZ];intros;omega
   ·simp at hc
    generalize cnt 0 4=g4
    refine bF (w.objs[k].frames.length) (fun j st=> ∃fr en cnt,st=⟨fr,en,cnt⟩/\ (fr 1= .ptr ⟨0,1,0⟩ 0)/\ (en ⟨0,1,0⟩=some (.box w.cells false))/\ (fr 4= .ptr ⟨0,4,g4⟩ 0)/\ (en ⟨0,4,g4⟩=some (.box [.int .i64 w.objs[k].form,.int .i64 w.objs[k].n,.fz (w.objs[k].vals.map aG.enc),.fz (w.objs[k].frames.map aB.enc)] false))/\ (fr 3= .int .i64 k)/\ (fr 5= .int .i64 j)/\ ((w.objs[k].frames.drop j).all (fun f=>decide ((f.env.length:Int)<=40)&&decide ((f.vals.length:Int)<=40))=w.objs[k].frames.all fun f=>decide ((f.env.length:Int)<=40)&&decide ((f.vals.length:Int)<=40))) 0 (bVn _) ⟨_,_,_,rfl,(by first|(simp only[go_sem,h1,e1,h3];(try rfl);done)|rfl|simp),(by first|(simp only[go_sem,h1,e1,h3];(try rfl);done)|rfl|simp),(by first|(simp only[go_sem,h1,e1,h3];(try rfl);done)|rfl|simp),(by first|(simp only[go_sem,h1,e1,h3];(try rfl);done)|rfl|simp),(by first|(simp only[go_sem,h1,e1,h3];(try rfl);done)|rfl|simp),(by first|(simp only[go_sem,h1,e1,h3];(try rfl);done)|rfl|simp),(by first|(simp only[go_sem,h1,e1,h3];(try rfl);done)|rfl|simp)⟩ ?_
    rintro j st hk ⟨fr,en,cnt,rfl,h1,e1,h4,e4,h3,h5,hJ⟩
    simp only[go_sem,qW,h1,e1,h4,e4,h3,h5]
    refine aU (fun h2=>?_) (fun h2=>?_)
    ·have h2':j<w.objs[k].frames.length:=of_decide_eq_true h2;rw[eZ h2']at hJ;simp only[go_sem,qW,h2',h1,e1,h4,e4,h3,h5,(oO _).ret]
     refine aY (fun hd=>?_) (fun hd=>?_)
     ·simp only[go_sem,qW,h2',hd,h1,e1,h4,e4,h3,h5,(oO _).ret]
      refine aU (fun he=>?_) (fun he=>?_)
      ·simp at he
       have:w.objs[k].frames.all (fun f=>decide ((f.env.length:Int)<=40)&&decide ((f.vals.length:Int)<=40))=false:=by rw[<-hJ];simp;intros;omega
       simp only[bB,<-hI,cZ,this];simp
      ·refine⟨_,_,_,rfl,?_⟩
       simp only[go_sem,qW,h1,e1,h4,e4,h3,h5,aK h2' hx.2.1]
       simp at hd he
       rw[<-hJ];simp;intros;exact⟨by omega,by omega⟩
     ·simp only[go_sem,qW,hd,bVz,h1,e1,h4,e4,h3,h5]
      simp at hd
      have:w.objs[k].frames.all (fun f=>decide ((f.env.length:Int)<=40)&&decide ((f.vals.length:Int)<=40))=false:=by rw[<-hJ];simp;intros;omega
      simp only[bB,<-hI,cZ,this];simp
    ·have:j=w.objs[k].frames.length:=by simp at h2;omega
     subst this;have hfr:cZ w.objs[k]=true:=by
      simp only[cZ,<-hJ];simp;exact⟨by omega,by omega⟩
     try simp only[go_sem,qW,h1,e1,h4,e4,h3,h5]
     refine⟨_,_,_,rfl,?_⟩
     simp only[go_sem,qW,h1,e1,h4,e4,h3,h5,aK h' hw.objs];rw[<-hI,hfr];simp
  ·simp only[go_sem,qW,h',hb,bVz,h1,e1,h3]
   simp at hb
   have:cZ w.objs[k]=false:=by simp[cZ];intros;omega
   simp[bB,<-hI,this]
 ·have:k=w.objs.length:=by simp at hq;omega
  subst this;have hobj:w.objs.all cZ=true:=by rw[<-hI];simp
  try simp only[go_sem,qW,h1,e1,h4,e4,h3,h5]
  simp only[bB,hobj];simp[g1,g2,g3,h]
end Go.Proofs.YthpmfghgoabnhaaGreat
namespace Go.Abs
def kT (s:ByteArray):List UInt8:=s.data.toList
theorem nR (s:ByteArray):(kT s).length=s.size:=by unfold kT;rw[bXb];rfl
theorem aDr {s:ByteArray}{k:IntKind}{j:Nat}(h:j<(kT s).length):aPz (.str s) (.int k (j:Int))=some {v:= .int .u8 ((kT s)[j].toNat:Nat)}:=bAa h
theorem aHp (s:ByteArray):kT (s.extract 1 s.size)=(kT s).drop 1:=by
 have hs:s.size=s.data.toList.length:=by rw[bXb];rfl
 unfold kT;rw[ByteArray.data_extract,Array.toList_extract,hs];show List.take _ (List.drop 1 _)=_;exact bVw (by rw[bXf];exact bVe _)
def iY (b:UInt8):Bool:=decide (97<=(b.toNat:Int))&&decide ((b.toNat:Int)<=122)
def sG (l:List UInt8):Bool:=l.all iY
def aE7 :List UInt8->Bool
 |[]=>false
 |b::l=>decide ((b::l).length<=8)&&decide (65<=(b.toNat:Int))&&decide ((b.toNat:Int)<=90)&&sG l
def aAn (x y:ByteArray):Bool:=x.toList==y.toList
def qR (l:List ByteArray)(s:ByteArray):Bool:=l.any fun x=>aAn x s
def jY :List ByteArray->List ByteArray->Bool
 |_,[]=>true
 |met,s::l=>!qR met s&&jY (met++[s]) l
def rS (c:bC):Bool:=aE7 (kT c.name)&&inR c.args 0 3
def tW (l:List bC):Bool:=l.all rS&&decide ((l.length:Int)<=20)&&jY [] (l.map bC.name)
def vZ (cons:List bC)(f n:Int)(k:Nat):Bool:=
 if f=1 \/f=2 \/f=5 then decide ((k:Int)=0)&&decide (n=0)
 else if f=3 then decide ((k:Int)=0)&&inR n (-1000000000) 1000000000
 else if f=4 then decide ((k:Int)=0)&&inR n 0 1
 else if f=6 then inR n 0 (cons.length-1)&&decide ((k:Int)=(cons.getD n.toNat default).args)else false
def aBz (t:ByteArray):Bool:=t.toList==(⟨#[]⟩:ByteArray).toList
def rT (cons:List bC)(f n:Int)(t:ByteArray)(k:Nat):Bool:=vZ cons f n k&&aBz t
mutual
def rU (cons:List bC):Pat->Bool
 | .mk f n t ps=>rT cons f n t ps.length&&aE8 cons ps
def aE8 (cons:List bC):List Pat->Bool
 |[]=>true
 |p::ps=>rU cons p&&aE8 cons ps
end
theorem aE9 (cons:List bC): ∀l,aE8 cons l=l.all (rU cons)
 |[]=>by simp[aE8]
 |p::ps=>by simp[aE8,aE9 cons ps]
theorem aLr (cons:List bC)(p:Pat):rU cons p=(rT cons p.form p.n p.text p.parts.length&&p.parts.all (rU cons)):=by
 cases p;simp only[rU,aE9,Pat.form,Pat.n,Pat.text,Pat.parts]
mutual
def nS :Pat->Int->Int
 | .mk _ _ _ ps,left=>if left<1 then-1 else hU ps (left-1)
def hU :List Pat->Int->Int
 |[],left=>left
 |p::ps,left=>if 0<=left then hU ps (nS p left)else left
end
mutual
def iQ :Pat->Bool
 | .mk _ _ t ps=>pG ps&&decide ((t.size:Int)<=30)
def pG :List Pat->Bool
 |[]=>true
 |p::ps=>iQ p&&pG ps
end
theorem uU : ∀l,pG l=l.all iQ
 |[]=>by simp[pG]
 |p::ps=>by simp[pG,uU ps]
theorem yG (p:Pat):iQ p=(p.parts.all iQ&&decide ((p.text.size:Int)<=30)):=by
 cases p;simp only[iQ,uU];rfl
theorem aFa (p:Pat)(left:Int):nS p left=if left<1 then-1 else hU p.parts (left-1):=by
 cases p;simp only[nS,Pat.parts]
mutual
theorem aFb : ∀(p:Pat) (left:Int),-1<=left-> -1<=nS p left/\ nS p left<=left
 | .mk _ _ _ ps,left,h=>by
  rw[nS];split
  ·omega
  ·have:=aHq ps (left-1) (by omega);omega
theorem aHq : ∀(l:List Pat) (left:Int),-1<=left-> -1<=hU l left/\ hU l left<=left
 |[],left,h=>by rw[hU];omega
 |p::ps,left,h=>by
  rw[hU];split
  ·have h1:=aFb p left h;have h2:=aHq ps (nS p left) h1.1;omega
  ·omega
end
theorem zG : ∀{l:List Pat} {left:Int},left<0->hU l left=left
 |[],_,_=>by rw[hU]
 |_::_,_,h=>by rw[hU,if_neg (by omega)]
def wA (p:Pat):Bool:=decide (0<=nS p 16)&&iQ p
def fE (n:aJ):Bool:=decide ((n.kids.length:Int)<=10)&&decide ((n.pats.length:Int)<=10)&&n.pats.all wA
def aT (p:aQ):Bool:=
 decide ((p.nodes.length:Int)<=320)&&decide ((p.funs.length:Int)<=320)&&decide ((p.cons.length:Int)<=25)&&p.cons.all (fun c=>decide ((c.name.size:Int)<=40))&&p.nodes.all fE
def fR (op:Int)(pats:Int)(args:Int):Int:=
 if op=1 \/op=2 \/op=3 \/op=4 \/op=21 \/op=25 \/op=28 then 0
 else if op=5 \/op=27 \/op=16 \/op=17 \/op=19 \/op=20 \/op=23 \/op=26 \/op=24 then 1
 else if op=6 \/op=7 \/op=9 \/op=10 \/op=11 \/op=12 \/op=13 \/op=18 \/op=22 then 2
 else if op=8 then 3 else if op=15 then 1+pats else if op=14 then args else-1
def lL (cons:List bC)(q:Pat):Bool:=decide (0<=nS q 12)&&rU cons q
def nE (p:aQ)(n:aJ):Bool:=
 if n.op=1 then inR n.n (-1000000000) 1000000000
 else if n.op=2 then inR n.n 0 1
 else if n.op=4 then inR n.n (-(p.funs.length:Int)) 29
 else if n.op=24 then inR n.n 0 3
 else if n.op=14 then inR n.n 0 (p.cons.length-1)else decide (n.n=0)
def oP (p:aQ)(n:aJ):Int:=if n.op=14/\ inR n.n 0 (p.cons.length-1)=true then(p.cons.getD n.n.toNat default).args else 0
def jN (n:aJ):Bool:=if n.op=15 then inR n.pats.length 1 5 else decide ((n.pats.length:Int)=0)
def eC (p:aQ)(n:aJ):Bool:=
 ((nE p n&&jN n)&&n.pats.all (lL p.cons))&&decide ((n.kids.length:Int)=fR n.op n.pats.length (oP p n))
def wB (lo hi:Int):List Bool->List Int->Option (List Bool)
 |u,[]=>some u
 |u,x::l=>if inR x lo hi&&!(u.getD x.toNat false)then wB lo hi (u.set x.toNat true) l else none
def jC (p:aQ):Nat->List Bool->List aJ->Option (List Bool)
 |_,u,[]=>some u
 |i,u,n::l=>if eC p n then(wB ((i:Int)+1) (p.nodes.length-1) u n.kids).bind fun u=>jC p (i+1) u l else none
def tX :Option (List Bool)->Bool
 |some u=>u.all id
 |none=>false
def fU (p:aQ):Bool:=
 decide ((p.nodes.length:Int)<=300)&&inR p.funs.length 1 p.nodes.length&&inR p.main 0 (p.funs.length-1)&&tW p.cons&&
  tX ((wB 0 (p.nodes.length-1) (List.replicate p.nodes.length false) p.funs).bind fun u=>jC p 0 u p.nodes)
theorem Pat.few_parts {p:Pat}(h:p.few):Few p.parts.length/\ Few p.text.size/\ ∀q∈p.parts,q.few:=by
 cases h with|mk f n t l h ht k=>exact⟨h,ht,k⟩
theorem Pat.ind {P:Pat->Prop}(h: ∀p:Pat,(∀q∈p.parts,P q)->P p): ∀p,P p:=by
 intro p
 induction p using Pat.rec (motive_2:=fun l=> ∀q∈l,P q)with
 |mk f n t l ih=>exact h _ ih
 |nil=>rename_i q hq;simp at hq
 |cons p l h1 h2=>
  rename_i q hq;rcases bWe.1 hq with rfl|hq
  ·exact h1
  ·exact h2 _ hq
theorem aXs {s:ByteArray}{i:Nat}(h:i<(kT s).length):s.get! i=(kT s)[i]:=by
 have h':i<s.data.size:=by rw[nR]at h;exact h
 show s.data[i]! =_;rw[getElem!_pos s.data i h'];simp only[kT,Array.getElem_toList]
theorem aI6 {s:ByteArray}{i:Nat}(h:i<(kT s).length):
  (iY (kT s)[i]=true->Utf8.decode s i=((kT s)[i].toNat,1))/\ (iY (kT s)[i]=false->((Utf8.decode s i).1:Int)<97 \/122<((Utf8.decode s i).1:Int)):=by
 have hg:=aXs h;simp only[iY,bVc,bYb,Bool.and_eq_false_iff,bYc];constructor
 ·intro hb;unfold Utf8.decode;simp only[bWu,hg];rw[if_pos (by omega)]
 ·intro hb;unfold Utf8.decode;simp only[bWu,hg,Utf8.runeError];split
  ·simp only;omega
  ·split
   ·split
    ·simp only;omega
    ·simp
   ·split
    ·split
     ·rename_i h1;simp only[bVc,bYb]at h1;simp only;omega
     ·simp
    ·split
     ·split
      ·rename_i h1;simp only[bVc,bYb]at h1;simp only;omega
      ·simp
     ·simp
def sH (ks:List ByteArray)(s:ByteArray):List ByteArray:=if qR ks s then ks else ks++[s]
theorem aFc : ∀(l ks:List ByteArray),(l.foldl sH ks).length<=ks.length+l.length
 |[],ks=>by simp
 |s::l,ks=>by
  have:=aFc l (sH ks s);simp only[bW3,bVu];have h2:(sH ks s).length<=ks.length+1:=by unfold sH;split<;>simp
  omega
theorem aAo : ∀(l ks:List ByteArray),decide ((l.foldl sH ks).length=ks.length+l.length)=jY ks l
 |[],ks=>by simp[jY]
 |s::l,ks=>by
  simp only[bW3,bVu,jY]
  by_cases h:qR ks s=true
  ·have:=aFc l ks;simp only[sH,h,if_true,bVq,bV5,bYc];omega
  ·have:=aAo l (ks++[s]);simp only[bWi]at h;simp only[sH,h,bVd,if_false,bVz,bVy];rw[<-this,decide_eq_decide];simp only[bV7,bVu,bWa];omega
mutual
def pU :Pat->Int->Int
 | .mk _ _ _ ps,most=>jO ps most 1
def jO :List Pat->Int->Int->Int
 |[],_,n=>n
 |q::qs,most,n=>if most<n then n else jO qs most (n+pU q (most-n))
end
theorem aXt (p:Pat)(most:Int):pU p most=jO p.parts most 1:=by cases p;simp only[pU,Pat.parts]
theorem aLs : ∀{l:List Pat} {most n:Int},most<n->jO l most n=n
 |[],_,_,_=>by rw[jO]
 |_::_,_,_,h=>by rw[jO,if_pos h]
mutual
theorem aFd : ∀(p:Pat) (most:Int),0<=most->1<=pU p most/\ pU p most<=most+1
 | .mk _ _ _ ps,most,h=>by rw[pU];exact aHr ps most 1 (by omega)
theorem aHr : ∀(l:List Pat) (most n:Int),n<=most+1->n<=jO l most n/\ jO l most n<=most+1
 |[],most,n,h=>by rw[jO];omega
 |q::qs,most,n,h=>by
  rw[jO];split
  ·omega
  ·have h1:=aFd q (most-n) (by omega)
   have h2:=aHr qs most (n+pU q (most-n)) (by omega)
   omega
end
mutual
theorem aC4 : ∀(p:Pat) (most:Int),0<=most->nS p most=if pU p most<=most then most-pU p most else-1
 | .mk _ _ _ ps,most,h=>by
  have:=yH ps most 1 (by omega)
  rw[nS,pU];split
  ·rename_i h0;have h1:most=0:=by omega
   subst h1;rw[aLs (by omega),if_neg (by omega)]
  ·exact this
theorem yH : ∀(l:List Pat) (most n:Int),n<=most+1->hU l (most-n)=if jO l most n<=most then most-jO l most n else-1
 |[],most,n,h=>by
  rw[hU,jO];split<;>omega
 |q::qs,most,n,h=>by
  by_cases hm:0<=most-n
  ·rw[hU,jO,if_pos hm,if_neg (show¬most<n by omega)]
   have h1:=aFd q (most-n) (by omega)
   have hw:=aC4 q (most-n) (by omega)
   have h2:=yH qs most (n+pU q (most-n)) (by omega)
   rw[hw,<-h2];split
   ·congr 1;omega
   ·rw[zG (by omega),zG (by omega)];omega
  ·rw[hU,jO,if_neg hm,if_pos (show most<n by omega),if_neg (by omega)];omega
end
theorem aXu (q:Pat):decide (pU q 12<=12)=decide (0<=nS q 12):=by
 have h:=aC4 q 12 (by omega)
 rw[h,decide_eq_decide]
 split<;>omega
def tY (op:Int):Val:=
 if op=1 \/op=2 \/op=3 \/op=4 \/op=21 \/op=25 \/op=28 then .ifc 273 (.int .i64 0)
 else if op=5 \/op=27 \/op=16 \/op=17 \/op=19 \/op=20 \/op=23 \/op=26 \/op=24 then .ifc 273 (.int .i64 1)
 else if op=6 \/op=7 \/op=9 \/op=10 \/op=11 \/op=12 \/op=13 \/op=18 \/op=22 then .ifc 273 (.int .i64 2)
 else if op=8 then .ifc 273 (.int .i64 3)else if op=14 then .ifc 274 (.agg [])else if op=15 then .ifc 261 (.agg [])else .nili
theorem aGm (op:Int):(∃c:Int,tY op= .ifc 273 (.int .i64 c)/\ (∀n a,fR op n a=c)/\ op≠14/\ op≠15) \/(op=14/\ tY op= .ifc 274 (.agg [])) \/
  (op=15/\ tY op= .ifc 261 (.agg [])) \/(tY op= .nili/\ (∀n a,fR op n a= -1)/\ op≠14/\ op≠15):=by
 unfold tY fR;split
 ·left;refine⟨0,rfl,fun _ _=>rfl,?_,?_⟩<;>omega
 split
 ·left;refine⟨1,rfl,fun _ _=>rfl,?_,?_⟩<;>omega
 split
 ·left;refine⟨2,rfl,fun _ _=>rfl,?_,?_⟩<;>omega
 split
 ·left;refine⟨3,rfl,fun _ _=>rfl,?_,?_⟩<;>omega
 split
 ·right;left;exact⟨by assumption,rfl⟩
 split
 ·right;right;left;exact⟨by assumption,rfl⟩
 ·right;right;right;refine⟨rfl,fun n a=>?_,?_,?_⟩<;>first|omega|skip
theorem aC5 (s:ByteArray): ∀ks:List ByteArray,(∃i,findKey .str (.str s) (ks.map .str)=some (some i)/\ qR ks s=true/\ (ks.map Val.str).set i (.str s)=ks.map .str) \/
  (findKey .str (.str s) (ks.map .str)=some none/\ qR ks s=false)
 |[]=> .inr ⟨rfl,rfl⟩
 |x::ks=>by
  have hsym:(s.toList==x.toList)=aAn x s:=by unfold aAn;exact Bool.beq_comm
  by_cases h:aAn x s=true
  ·refine .inl ⟨0,?_,?_,?_⟩
   ·simp only[bV9,findKey,mB,hsym,h]
   ·simp[qR,h]
   ·have:x=s:=by
     simp only[aAn,beq_iff_eq]at h;rw[Go.ByteArray.toList_eq,Go.ByteArray.toList_eq]at h;cases x;cases s;simp only at h
     congr
     exact Array.toList_inj.1 h
    simp[this]
  ·simp only[bWi]at h;rcases aC5 s ks with⟨i,h1,h2,h3⟩|⟨h1,h2⟩
   ·refine .inl ⟨i+1,?_,?_,?_⟩
    ·simp only[bV9,findKey,mB,hsym,h,h1]
    ·simp only[qR,List.any_cons,h,bWz];exact h2
    ·simp[h3]
   ·refine .inr ⟨?_,?_⟩
    ·simp only[bV9,findKey,mB,hsym,h,h1]
    ·simp only[qR,List.any_cons,h,bWz];exact h2
def gG (p:aQ)(w:aC):Bool:=fU p&&fY p w
end Go.Abs
namespace Go.Proofs.YthpmfghgoabnhaaGreat
open Go.Abs Go.Proofs
theorem nF (n lo hi:Int):PC L 111 [.int .i64 n,.int .i64 lo,.int .i64 hi] (.bool (inR n lo hi)):=by
 refine aL bHh rfl rfl ?_
 simp only[go_sem,qW,aP5]
 refine aY (fun h=>?_) (fun h=>?_)<;>simp only[go_sem,qW,h]<;>simp at h<;>simp[h,inR]
 omega
theorem aI7 (s:ByteArray)(hs:Few s.size):PC L 184 [.str s] (.bool (sG (kT s))):=by
 refine aL bIt rfl rfl ?_
 simp only[go_sem,qW,aRf]
 refine bF (s.size) (fun k st=> ∃fr en cnt,st=⟨fr,en,cnt⟩/\ (fr 0= .str s)/\ (fr 3= .int .i64 k)/\ (((kT s).drop k).all iY=(kT s).all iY)) 0 (bVn _) ⟨_,_,_,rfl,(by first|(simp only[go_sem,qW];(try rfl);done)|rfl|simp),(by first|(simp only[go_sem,qW];(try rfl);done)|rfl|simp),(by first|(simp only[go_sem,qW];(try rfl);done)|rfl|simp)⟩ ?_
 rintro k st hk ⟨fr,en,cnt,rfl,h0,h3,hI⟩
 have hsz:=nR s;simp only[go_sem,qW,h0,h3]
 refine aU (fun h=>?_) (fun h=>?_)
 ·have h':k<s.size:=of_decide_eq_true h;have h'':k<(kT s).length:=by omega
  rw[eZ h'']at hI;simp only[go_sem,qW,h',h'',h0,h3,aDr h'']
  refine aY (fun hb=>?_) (fun hb=>?_)
  ·simp only[go_sem,qW,h',hb,h0,h3,aDr h'']
   refine aU (fun hc=>?_) (fun hc=>?_)
   ·simp only[bYb,bYc]at hb hc;have:iY (kT s)[k]=false:=by simp only[iY,Bool.and_eq_false_iff,bYc];right;omega
    simp[sG,<-hI,this]
   ·simp only[bYb,bYc]at hb hc;have:iY (kT s)[k]=true:=by simp only[iY,bVc,bYb];constructor<;>omega
    refine⟨_,_,_,rfl,?_⟩
    simp only[go_sem,qW,h0,h3,aK h' hs];rw[<-hI,this];simp
  ·simp only[go_sem,qW,hb,bVz,h0,h3];simp only[bYb,bVz]at hb;have:iY (kT s)[k]=false:=by simp only[iY,Bool.and_eq_false_iff,bYc];left;omega
   simp[sG,<-hI,this]
 ·have:k=s.size:=by simp at h;omega
  subst this
  try simp only[go_sem,qW,h0,h3]
  rw[sG,<-hI,<-hsz];simp
theorem aOb (l:List ByteArray)(s:ByteArray)(hl:Few l.length):PC L 185 [.fz (l.map .str),.str s] (.bool (qR l s)):=by
 refine aL bIu rfl rfl ?_
 simp only[go_sem,qW,aRg]
 refine bF (l.length) (fun k st=> ∃fr en cnt,st=⟨fr,en,cnt⟩/\ (fr 0= .fz (l.map .str))/\ (fr 1= .str s)/\ (fr 5= .int .i64 k)/\ ((l.drop k).any (fun x=>aAn x s)=l.any fun x=>aAn x s)) 0 (bVn _) ⟨_,_,_,rfl,(by first|(simp only[go_sem,qW];(try rfl);done)|rfl|simp),(by first|(simp only[go_sem,qW];(try rfl);done)|rfl|simp),(by first|(simp only[go_sem,qW];(try rfl);done)|rfl|simp),(by first|(simp only[go_sem,qW];(try rfl);done)|rfl|simp)⟩ ?_
 rintro k st hk ⟨fr,en,cnt,rfl,h0,h1,h5,hI⟩
 simp only[go_sem,qW,h0,h1,h5]
 refine aU (fun h=>?_) (fun h=>?_)
 ·have h':k<l.length:=of_decide_eq_true h;rw[aEx h']at hI;simp only[go_sem,qW,h',h0,h1,h5]
  refine aU (fun hb=>?_) (fun hb=>?_)
  ·rw[qR,<-hI,aAn,hb];rfl
  ·refine⟨_,_,_,rfl,?_⟩
   simp only[go_sem,qW,h0,h1,h5,aK h' hl];rw[<-hI,aAn,hb];simp
 ·have:k=l.length:=by simp at h;omega
  subst this
  try simp only[go_sem,qW,h0,h1,h5]
  rw[qR,<-hI];simp
theorem aGn (l:List ByteArray)(hl:Few l.length):PC L 146 [.fz (l.map .str)] (.bool (jY [] l)):=by
 refine aL bH3 rfl rfl ?_
 simp only[go_sem,qW,aQq]
 refine bF (l.length) (fun k st=> ∃fr en cnt,st=⟨fr,en,cnt⟩/\ (fr 0= .fz (l.map .str))/\ (fr 3= .int .i64 k)/\ (jY (l.take k) (l.drop k)=jY [] l)) 0 (bVn _) ⟨_,_,_,rfl,(by first|(simp only[go_sem,qW];(try rfl);done)|rfl|simp),(by first|(simp only[go_sem,qW];(try rfl);done)|rfl|simp),(by first|(simp only[go_sem,qW];(try rfl);done)|rfl|simp)⟩ ?_
 rintro k st hk ⟨fr,en,cnt,rfl,h0,h3,hI⟩
 simp only[go_sem,qW,h0,h3]
 refine aU (fun h=>?_) (fun h=>?_)
 ·have h':k<l.length:=of_decide_eq_true h;rw[bWc h',jY,<-dE h']at hI;simp only[go_sem,qW,h',h0,h3,qQ,hk,<-bXh,(aOb _ _ (aE6 hl k)).ret]
  refine aU (fun hb=>?_) (fun hb=>?_)
  ·rw[<-hI,hb];rfl
  ·refine⟨_,_,_,rfl,?_⟩
   simp only[go_sem,qW,h0,h3,aK h' hl];rw[<-hI,hb];simp
 ·have:k=l.length:=by simp at h;omega
  subst this
  try simp only[go_sem,qW,h0,h3]
  rw[<-hI];simp[jY]
theorem aFe {s:ByteArray}{en:En}(h:1<=s.size):lJ true 1 en (.str s) (some (.int .i64 1)) none none=some {v:= .str (s.extract 1 s.size)}:=by
 have:fI (some (.int .i64 1)) 0 s.size=some 1:=by
  simp only[fI];rw[if_pos ⟨by omega,by omega⟩];rfl
 simp[lJ,vW,this]
theorem aFf {l:List UInt8}{n:Nat}(hn:l.length=n)(h:0<l.length):aE7 l=(decide ((n:Int)<=8)&&decide ((65:Int)<=(l[0].toNat:Int))&&decide ((l[0].toNat:Int)<=90)&&sG (l.drop 1)):=by
 cases l with
 |nil=>simp at h
 |cons b l=>
  have e:decide ((b::l).length<=8)=decide ((n:Int)<=8):=by rw[decide_eq_decide,hn];omega
  simp only[aE7,e,List.getElem_cons_zero,List.drop_succ_cons,List.drop_zero]
theorem aI8 (s:ByteArray)(hs:Few s.size):PC L 145 [.str s] (.bool (aE7 (kT s))):=by
 refine aL bH2 rfl rfl ?_
 simp only[go_sem,qW,aQp]
 refine aY (fun h=>?_) (fun h=>?_)
 ·have h':1<=s.size:=by simp at h;omega
  have h0:0<(kT s).length:=by rw[nR];omega
  have hix:=fun(k:IntKind)=>aDr (k:=k) h0
  simp only[Int.natCast_zero]at hix;rw[aFf (nR s) h0];simp only[go_sem,qW,h]
  refine aY (fun h1=>?_) (fun h1=>?_)<;>simp only[go_sem,qW,h1,hix]
  refine aY (fun h2=>?_) (fun h2=>?_)<;>simp only[go_sem,qW,h1,h2,hix]
  refine aY (fun h3=>?_) (fun h3=>?_)<;>simp only[go_sem,qW,h1,h2,h3,aFe h',(aI7 _ (show Few (s.extract 1 s.size).size by unfold Few at*;simp;omega)).ret,aHp]
  all_goals simp only[bYb,bYc,bVq]at*
  all_goals simp[*]
 ·have:s.size=0:=by simp at h;omega
  have e:kT s=[]:=by rw[<-List.length_eq_zero_iff,nR,this]
  simp only[go_sem,qW,h];rw[e];rfl
theorem aLt (op n a:Int)(hn:0<=n/\ n<=1000):PC L 148 [.int .i64 op,.int .i64 n,.int .i64 a] (.int .i64 (fR op n a)):=by
 have e:IntKind.i64.wrap (1+n)=1+n:=bM (by omega)
 refine aL bH5 rfl rfl ?_
 simp only[go_sem,qC,qG,qW,aQs,e]
 repeat' ((first|with_reducible refine aA (fun h=>?_) (fun h=>?_)|with_reducible refine aE (fun h=>?_) (fun h=>?_))<;>(try simp only[bYb,bYc,bVq,bVz]at h)<;>try simp only[go_sem,qC,qG,qW,h,e])
 all_goals simp[fR, *]
theorem uV : ∀q:Pat,q.few-> ∀left:Int,-1<=left->left<=1000->PC L 125 [.agg [.int .i64 q.form,.int .i64 q.n,.str q.text,.fz (q.parts.map Pat.enc)],.int .i64 left] (.int .i64 (nS q left)):=by
 refine Pat.ind fun q ih hq left h1 h2=>?_
 obtain⟨hl,_,hps⟩:=Pat.few_parts hq
 refine aL bHu rfl rfl ?_
 simp only[go_sem,qW,aQi]
 refine aU (fun h=>?_) (fun h=>?_)<;>simp only[bYb,bYc]at h
 ·simp[aFa,h]
 ·have e:IntKind.i64.wrap (left-1)=left-1:=bM (by omega)
  rw[aFa,if_neg h]
  try simp only[go_sem,qW,e]
  refine bF q.parts.length (fun k st=> ∃fr en cnt a,st=⟨fr,en,cnt⟩/\ fr 1= .int .i64 a/\ fr 5= .int .i64 k/\ fr 2= .ptr ⟨0,2,0⟩ 0/\ en ⟨0,2,0⟩=some (.box [.int .i64 q.form,.int .i64 q.n,.str q.text,.fz (q.parts.map Pat.enc)] false)/\ -1<=a/\ a<=1000/\ hU (q.parts.drop k) a=hU q.parts (left-1)) 0 (bVn _) ⟨_,_,_,left-1,rfl,by simp only[go_sem,qW],by simp only[go_sem,qW],by simp only[go_sem,qW],by simp only[go_sem,qW],by omega,by omega,rfl⟩ ?_
  rintro k st hk ⟨fr,en,cnt,a,rfl,h1,h5,h2,e2,ha,hb,hI⟩
  simp only[go_sem,qW,h1,h5,h2,e2]
  refine aY (fun hc=>?_) (fun hc=>?_)
  ·have h':k<q.parts.length:=of_decide_eq_true hc;rw[bWc h',hU]at hI;have hm:q.parts[k]∈q.parts:=bVp _;simp only[go_sem,qW,hc,h',h1,h5,h2,e2]
   refine aU (fun hd=>?_) (fun hd=>?_)<;>simp only[bYb,bYc]at hd
   ·rw[if_pos hd]at hI;have hw:=aFb q.parts[k] a ha;simp only[go_sem,qW,h',h1,h5,h2,e2,(ih _ hm (hps _ hm) a ha hb).ret]
    refine⟨_,_,_,nS q.parts[k] a,rfl,?_⟩
    simp only[go_sem,qW,h',h1,h5,h2,e2,aK h' hl];exact⟨hw.1,by omega,hI⟩
   ·rw[if_neg hd]at hI
    try simp only[go_sem,qW,h',h1,h5,h2,e2]
    rw[hI]
  ·have:k=q.parts.length:=by simp at hc;omega
   subst this
   try simp only[go_sem,qW,hc,h1,h5,h2,e2]
   rw[<-hI];simp[hU]
theorem aDj : ∀q:Pat,q.few->PC L 126 [.agg [.int .i64 q.form,.int .i64 q.n,.str q.text,.fz (q.parts.map Pat.enc)]] (.bool (iQ q)):=by
 refine Pat.ind fun q ih hq=>?_
 obtain⟨hl,_,hps⟩:=Pat.few_parts hq
 refine aL bHv rfl rfl ?_
 simp only[go_sem,qW,aQj]
 refine bF (q.parts.length) (fun k st=> ∃fr en cnt,st=⟨fr,en,cnt⟩/\ (fr 1= .ptr ⟨0,1,0⟩ 0)/\ (en ⟨0,1,0⟩=some (.box [.int .i64 q.form,.int .i64 q.n,.str q.text,.fz (q.parts.map Pat.enc)] false))/\ (fr 3= .int .i64 k)/\ ((q.parts.drop k).all iQ=q.parts.all iQ)) 0 (bVn _) ⟨_,_,_,rfl,(by first|(simp only[go_sem,qW];(try rfl);done)|rfl|simp),(by first|(simp only[go_sem,qW];(try rfl);done)|rfl|simp),(by first|(simp only[go_sem,qW];(try rfl);done)|rfl|simp),(by first|(simp only[go_sem,qW];(try rfl);done)|rfl|simp)⟩ ?_
 rintro k st hk ⟨fr,en,cnt,rfl,h1,e1,h3,hI⟩
 simp only[go_sem,qW,h1,e1,h3]
 refine aU (fun h=>?_) (fun h=>?_)
 ·have h':k<q.parts.length:=of_decide_eq_true h;have hm:q.parts[k]∈q.parts:=bVp _;rw[eZ h']at hI;simp only[go_sem,qW,h',h1,e1,h3,(ih _ hm (hps _ hm)).ret]
  refine aU (fun hb=>?_) (fun hb=>?_)
  ·simp at hb
   rw[yG,<-hI,hb];rfl
  ·simp at hb
   refine⟨_,_,_,rfl,?_⟩
   simp only[go_sem,qW,h1,e1,h3,aK h' hl];rw[<-hI,hb];simp
 ·have:k=q.parts.length:=by simp at h;omega
  subst this;have ht:q.parts.all iQ=true:=by rw[<-hI];simp
  try simp only[go_sem,qW,h1,e1,h3]
  rw[yG,ht];rfl
theorem aDk (q:Pat)(hq:q.few):PC L 87 [.agg [.int .i64 q.form,.int .i64 q.n,.str q.text,.fz (q.parts.map Pat.enc)]] (.bool (wA q)):=by
 refine aL bS8 rfl rfl ?_
 simp only[go_sem,qW,bA5,(uV q hq 16 (by omega) (by omega)).ret]
 refine aY (fun h=>?_) (fun h=>?_)<;>simp only[go_sem,qW,h,(aDj q hq).ret]<;>simp at h<;>simp[wA,h]
 intros;omega
theorem aOc (cons:List bC)(hc:Few cons.length): ∀q:Pat,q.few->PC L 147 [.agg [.int .i64 q.form,.int .i64 q.n,.str q.text,.fz (q.parts.map Pat.enc)],.fz (cons.map bC.enc)] (.bool (rU cons q)):=by
 refine Pat.ind fun q ih hq=>?_
 obtain⟨hl,_,hps⟩:=Pat.few_parts hq
 refine aL bH4 rfl rfl ?_
 have e:=dD hc;simp only[go_sem,zF,Go.Abs.start,qC,qG,aQr]
 refine xN (fun st=>(st.fr 1= .fz (cons.map bC.enc))/\ (st.fr 2= .ptr ⟨0,2,0⟩ 0)/\ (st.en ⟨0,2,0⟩=some (.box [.int .i64 q.form,.int .i64 q.n,.str q.text,.fz (q.parts.map Pat.enc)] false))/\ (st.fr 6= .int .i64 q.parts.length)/\ (st.fr 5= .bool (vZ cons q.form q.n q.parts.length))) ?_ ?_
 ·simp only[go_sem,qC,qG,qW,e,(nF _ _ _).ret]
  repeat' ((first|with_reducible refine aA (fun h=>?_) (fun h=>?_)|with_reducible refine aE (fun h=>?_) (fun h=>?_))<;>(try simp only[bYb,bYc,bVq,bVz]at h)<;>try simp only[go_sem,qC,qG,qW, *,(nF _ _ _).ret,aBy])
  all_goals try simp[vZ, *]
  all_goals (intro h0;exact absurd (by simp[h0]) h)
 ·rintro fr en cnt ⟨(h1:fr 1= .fz (cons.map bC.enc)),(h2:fr 2= .ptr ⟨0,2,0⟩ 0),(e2:en ⟨0,2,0⟩=some (.box [.int .i64 q.form,.int .i64 q.n,.str q.text,.fz (q.parts.map Pat.enc)] false)),(h6:fr 6= .int .i64 q.parts.length),(h5:fr 5= .bool (vZ cons q.form q.n q.parts.length))⟩
  refine xN (fun st=>(st.fr 1= .fz (cons.map bC.enc))/\ (st.fr 2= .ptr ⟨0,2,0⟩ 0)/\ (st.en ⟨0,2,0⟩=some (.box [.int .i64 q.form,.int .i64 q.n,.str q.text,.fz (q.parts.map Pat.enc)] false))/\ (st.fr 6= .int .i64 q.parts.length)/\ (st.fr 5= .bool (rT cons q.form q.n q.text q.parts.length))) ?_ ?_
  ·simp only[go_sem,qC,qG,qW,h1,h2,e2,h6,h5]
   repeat' ((first|with_reducible refine aA (fun h=>?_) (fun h=>?_)|with_reducible refine aE (fun h=>?_) (fun h=>?_))<;>(try simp only[bYb,bYc,bVq,bVz]at h)<;>try simp only[go_sem,qC,qG,qW, *])
   all_goals simp[rT,aBz, *]
  ·rintro fr en cnt ⟨(h1:fr 1= .fz (cons.map bC.enc)),(h2:fr 2= .ptr ⟨0,2,0⟩ 0),(e2:en ⟨0,2,0⟩=some (.box [.int .i64 q.form,.int .i64 q.n,.str q.text,.fz (q.parts.map Pat.enc)] false)),(h6:fr 6= .int .i64 q.parts.length),(h5:fr 5= .bool (rT cons q.form q.n q.text q.parts.length))⟩
   rw[aLr];generalize rT cons q.form q.n q.text q.parts.length=b0 at h5;simp only[go_sem,qC,qG,qW,h1,h2,e2,h6,h5]
   refine bF q.parts.length (fun k st=> ∃fr en cnt b,st=⟨fr,en,cnt⟩/\ fr 1= .fz (cons.map bC.enc)/\ fr 7= .int .i64 k/\ fr 6= .int .i64 q.parts.length/\ fr 2= .ptr ⟨0,2,0⟩ 0/\ en ⟨0,2,0⟩=some (.box [.int .i64 q.form,.int .i64 q.n,.str q.text,.fz (q.parts.map Pat.enc)] false)/\ fr 5= .bool b/\ (b&&(q.parts.drop k).all (rU cons))=(b0&&q.parts.all (rU cons))) 0 (bVn _) ⟨_,_,_,b0,rfl,by simp only[go_sem,h1,h2,e2,h6,h5],by simp only[go_sem,h1,h2,e2,h6,h5],by simp only[go_sem,h1,h2,e2,h6,h5],by simp only[go_sem,h1,h2,e2,h6,h5],by simp only[go_sem,h1,h2,e2,h6,h5],by simp only[go_sem,h1,h2,e2,h6,h5],rfl⟩ ?_
   rintro k st hk ⟨fr,en,cnt,b,rfl,h1,h7,h6,h2,e2,h5,hI⟩
   simp only[go_sem,qC,qG,qW,h1,h7,h6,h2,e2,h5]
   refine aE (fun hd=>?_) (fun hd=>?_)
   ·have h':k<q.parts.length:=of_decide_eq_true hd;have hm:q.parts[k]∈q.parts:=bVp _;rw[eZ h']at hI;simp only[go_sem,qC,qG,qW,hd,h',h1,h7,h6,h2,e2,h5]
    refine aA (fun hb=>?_) (fun hb=>?_)
    ·simp only[go_sem,qC,qG,qW,hd,h',h1,h7,h6,h2,e2,h5,(ih _ hm (hps _ hm)).ret]
     refine⟨_,_,_,rU cons q.parts[k],rfl,?_⟩
     simp only[go_sem,qC,qG,qW,h',h1,h7,h6,h2,e2,h5,aK h' hl];rw[<-hI,hb];simp
    ·simp only[go_sem,qC,qG,qW,hd,h',h1,h7,h6,h2,e2,h5];rw[<-hI,hb];simp
   ·have:k=q.parts.length:=by simp at hd;omega
    subst this;simp only[go_sem,qC,qG,qW,hd,h1,h7,h6,h2,e2,h5];rw[<-hI];simp
theorem aLu (l:List bC)(hl:l.length<=1000)(hs: ∀c∈l,Few c.name.size):PC L 112 [.fz (l.map bC.enc)] (.bool (tW l)):=by
 have hf:Few l.length:=by unfold Few;omega
 refine aL bHi rfl rfl ?_
 simp only[go_sem,qC,qG,qW,aP6]
 refine bF l.length (fun k st=> ∃fr en cnt,st=⟨fr,en,cnt⟩/\ fr 0= .fz (l.map bC.enc)/\ fr 4= .int .i64 k/\ cE en (fr 3) 1 ((l.take k).map fun c=> .str c.name) [34]/\ (l.drop k).all rS=l.all rS) 0 (bVn _) ⟨_,_,_,rfl,by simp only[go_sem,qW],by simp only[go_sem,qW],by simp only[go_sem,qW];exact cE.nil _ _,rfl⟩ ?_
 rintro k st hk ⟨fr,en,cnt,rfl,h0,h4,h3,hI⟩
 simp only[go_sem,qC,qG,qW,h0,h4]
 refine aA (fun h=>?_) (fun h=>?_)
 ·have h':k<l.length:=of_decide_eq_true h;have hm:l[k]∈l:=bVp _;rw[eZ h']at hI;simp only[go_sem,qC,qG,qW,h',h0,h4,(aI8 _ (hs _ hm)).ret]
  refine aE (fun hb=>?_) (fun hb=>?_)
  ·simp only[go_sem,qC,qG,qW,hb,h',h0,h4,(nF _ _ _).ret]
   refine aA (fun hc=>?_) (fun hc=>?_)
   ·simp only[go_sem,qC,qG,qW]
    simp at hc
    simp[tW,<-hI,rS,hc]
   ·simp only[go_sem,qC,qG,qW,h',h0,h4]
    simp at hb hc
    have hk2:rS l[k]=true:=by simp[rS,hb,hc]
    have hx:cE en (St.get (fun i=>fr i) (.t 3)) 1 ((l.take k).map fun c=>Val.str c.name) [34]:=h3
    refine pF (D:=[34]) (xs:=(l.take k).map fun c=>Val.str c.name) (ys:=[.str l[k].name]) (rs:=[]) ?_ ?_ ?_ ?_ ?_
    ·simp only[go_sem,qW];exact h3
    ·simp only[go_sem,qW]
    ·rfl
    ·simp;omega
    ·intro v en' cnt' hown hen hcnt;simp only[go_sem,qC,qG,qW,h',h0,h4]
     refine⟨_,_,_,rfl,?_⟩
     simp only[go_sem,qC,qG,qW,h',h0,h4,aK h' hf]
     refine⟨?_,?_⟩
     ·exact cE.sub (by rw[dE h',bVx];exact hown) (by simp)
     ·rw[<-hI,hk2];simp
  ·simp only[go_sem,qC,qG,qW,hb,bVz]
   simp at hb
   simp[tW,<-hI,rS,hb]
 ·have:k=l.length:=by simp at h;omega
  subst this;have ha:l.all rS=true:=by rw[<-hI];simp
  simp only[go_sem,qC,qG,qW,h0]
  refine aE (fun hb=>?_) (fun hb=>?_)
  ·rw[bWf]at h3;have hmap:(l.map fun c=>Val.str c.name)=(l.map bC.name).map .str:=by simp
   simp only[go_sem,qC,qG,qW,hb];obtain⟨r,ks,e1,_,e2,_⟩:=h3.snap 7;have hd:=aGn (l.map bC.name) (by simpa using hf)
   rw[<-hmap]at hd;simp only[go_sem,qC,qG,qW,e1,e2,hd.ret]
   simp at hb
   simp[tW,ha,hb]
  ·simp only[go_sem,qC,qG,qW,hb]
   simp at hb
   simp[tW,hb];intros;omega
end Go.Proofs.YthpmfghgoabnhaaGreat
namespace Go.Proofs.YthpmfghgoabnhaaGreat
open Go.Abs Go.Proofs
theorem aB0 (p:aQ)(hp:p.few):PC L 40 [.agg [.fz (p.nodes.map aJ.enc),.fz (p.funs.map (.int .i64)),.int .i64 p.main,.fz (p.cons.map bC.enc)]] (.bool (aT p)):=by
 refine aL bSi rfl rfl ?_
 simp only[go_sem,qC,qG,qS,qW,bAh]
 repeat' ((first|with_reducible refine aA (fun h=>?_) (fun h=>?_)|with_reducible refine aE (fun h=>?_) (fun h=>?_))<;>(try simp only[bYb,bYc,bVq,bVz]at h)<;>try simp only[go_sem,qC,qG,qS,qW, *])
 all_goals (try simp only[bWh,bX2,Int.not_lt,Int.not_le]at*)
 all_goals try(simp[aT, *];done)
 all_goals try(simp[aT, *];intros;omega)
 rename_i g1 g2
 refine bF (p.cons.length) (fun k st=> ∃fr en cnt,st=⟨fr,en,cnt⟩/\ (fr 1= .ptr ⟨0,1,0⟩ 0)/\ (en ⟨0,1,0⟩=some (.box p.cells false))/\ (fr 3= .int .i64 k)/\ ((p.cons.drop k).all (fun c=>decide ((c.name.size:Int)<=40))=p.cons.all fun c=>decide ((c.name.size:Int)<=40))) 0 (bVn _) ⟨_,_,_,rfl,(by first|(simp only[go_sem,qW];(try rfl);done)|rfl|simp),(by first|(simp only[go_sem,qW];(try rfl);done)|rfl|simp),(by first|(simp only[go_sem,qW];(try rfl);done)|rfl|simp),(by first|(simp only[go_sem,qW];(try rfl);done)|rfl|simp)⟩ ?_
 rintro k st hk ⟨fr,en,cnt,rfl,h1,e1,h3,hI⟩
 simp only[go_sem,qC,qG,qS,qW,h1,e1,h3]
 refine aA (fun hq=>?_) (fun hq=>?_)
 ·have h':k<p.cons.length:=of_decide_eq_true hq;rw[eZ h']at hI;simp only[go_sem,qC,qG,qS,qW,h',h1,e1,h3]
  refine aA (fun hb=>?_) (fun hb=>?_)
  ·simp only[go_sem,qC,qG,qS,qW]
   simp at hb
   have:p.cons.all (fun c=>decide ((c.name.size:Int)<=40))=false:=by rw[<-hI];simp;intros;omega
   simp only[aT,this];simp
  ·simp only[go_sem,qC,qG,qS,qW,h',h1,e1,h3]
   simp at hb
   refine⟨_,_,_,rfl,?_⟩
   simp only[go_sem,qW,h1,e1,h3,aK h' hp.cons];rw[<-hI];simp;intros;omega
 ·have:k=p.cons.length:=by simp at hq;omega
  subst this;have hcon:p.cons.all (fun c=>decide ((c.name.size:Int)<=40))=true:=by rw[<-hI];simp
  clear hI hq;simp only[go_sem,qC,qG,qS,qW,h1,e1,h3]
  refine bF (p.nodes.length) (fun k st=> ∃fr en cnt,st=⟨fr,en,cnt⟩/\ (fr 1= .ptr ⟨0,1,0⟩ 0)/\ (en ⟨0,1,0⟩=some (.box p.cells false))/\ (fr 4= .int .i64 k)/\ ((p.nodes.drop k).all fE=p.nodes.all fE)) 0 (bVn _) ⟨_,_,_,rfl,(by first|(simp only[go_sem,h1,e1,h3];(try rfl);done)|rfl|simp),(by first|(simp only[go_sem,h1,e1,h3];(try rfl);done)|rfl|simp),(by first|(simp only[go_sem,h1,e1,h3];(try rfl);done)|rfl|simp),(by first|(simp only[go_sem,h1,e1,h3];(try rfl);done)|rfl|simp)⟩ ?_
  rintro k st hk ⟨fr,en,cnt,rfl,h1,e1,h4,hI⟩
  simp only[go_sem,qC,qG,qS,qW,h1,e1,h4]
  refine aA (fun hq=>?_) (fun hq=>?_)
  ·have h':k<p.nodes.length:=of_decide_eq_true hq;have hx:=hp.node p.nodes[k] (bVp _);rw[eZ h']at hI;have fin:fE p.nodes[k]=false->Val.bool false=Val.bool (aT p):=by
    intro h;simp[aT,<-hI,h]
   simp only[go_sem,qC,qG,qS,qW,h',h1,e1,h4]
   refine aE (fun hb=>?_) (fun hb=>?_)
   ·simp only[go_sem,qC,qG,qS,qW,hb,h',h1,e1,h4]
    simp at hb
    refine aA (fun hc=>?_) (fun hc=>?_)
    ·simp only[go_sem,qC,qG,qS,qW]
     simp at hc
     exact fin (by simp[fE];intros;omega)
    ·simp only[go_sem,qC,qG,qS,qW,h',h1,e1,h4]
     simp at hc
     generalize cnt 0 5=g5
     refine bF (p.nodes[k].pats.length) (fun j st=> ∃fr en cnt,st=⟨fr,en,cnt⟩/\ (fr 1= .ptr ⟨0,1,0⟩ 0)/\ (en ⟨0,1,0⟩=some (.box p.cells false))/\ (fr 5= .ptr ⟨0,5,g5⟩ 0)/\ (en ⟨0,5,g5⟩=some (.box [.int .i64 p.nodes[k].op,.int .i64 p.nodes[k].n,.fz (p.nodes[k].kids.map (.int .i64)),.fz (p.nodes[k].pats.map Pat.enc)] false))/\ (fr 4= .int .i64 k)/\ (fr 6= .int .i64 j)/\ ((p.nodes[k].pats.drop j).all wA=p.nodes[k].pats.all wA)) 0 (bVn _) ⟨_,_,_,rfl,(by first|(simp only[go_sem,h1,e1,h4];(try rfl);done)|rfl|simp),(by first|(simp only[go_sem,h1,e1,h4];(try rfl);done)|rfl|simp),(by first|(simp only[go_sem,h1,e1,h4];(try rfl);done)|rfl|simp),(by first|(simp only[go_sem,h1,e1,h4];(try rfl);done)|rfl|simp),(by first|(simp only[go_sem,h1,e1,h4];(try rfl);done)|rfl|simp),(by first|(simp only[go_sem,h1,e1,h4];(try rfl);done)|rfl|simp),(by first|(simp only[go_sem,h1,e1,h4];(try rfl);done)|rfl|simp)⟩ ?_
     rintro j st hk ⟨fr,en,cnt,rfl,h1,e1,h5,e5,h4,h6,hJ⟩
     simp only[go_sem,qC,qG,qS,qW,h1,e1,h5,e5,h4,h6]
     refine aA (fun h2=>?_) (fun h2=>?_)
     ·have h2':j<p.nodes[k].pats.length:=of_decide_eq_true h2;rw[eZ h2']at hJ;simp only[go_sem,qC,qG,qS,qW,h2',h1,e1,h5,e5,h4,h6,(aDk _ (hx.pat _ (bVp _))).ret]
      refine aA (fun hd=>?_) (fun hd=>?_)
      ·simp only[go_sem,qC,qG,qS,qW]
       simp at hd
       exact fin (by simp[fE,<-hJ,hd])
      ·simp only[go_sem,qC,qG,qS,qW,h2',h1,e1,h5,e5,h4,h6]
       simp at hd
       refine⟨_,_,_,rfl,?_⟩
       simp only[go_sem,qW,h1,e1,h5,e5,h4,h6,aK h2' hx.pats];rw[<-hJ,hd];simp
     ·have:j=p.nodes[k].pats.length:=by simp at h2;omega
      subst this;have hfr:fE p.nodes[k]=true:=by
       simp only[fE,<-hJ];simp;exact⟨by omega,by omega⟩
      simp only[go_sem,qC,qG,qS,qW,h',h1,e1,h5,e5,h4,h6]
      refine⟨_,_,_,rfl,?_⟩
      simp only[go_sem,qW,h1,e1,h5,e5,h4,h6,aK h' hp.nodes];rw[<-hI,hfr];simp
   ·simp only[go_sem,qC,qG,qS,qW,hb,bVz,h1,e1,h4]
    simp at hb
    exact fin (by simp[fE];intros;omega)
  ·have:k=p.nodes.length:=by simp at hq;omega
   subst this;have hn:p.nodes.all fE=true:=by rw[<-hI];simp
   simp only[go_sem,qC,qG,qS,qW,h1,e1,h4];simp only[aT,hcon,hn];simp[g1,g2,h]
theorem aLv (p:aQ)(n:aJ)(hp:p.few)(hn:n.few):PC L 113 [.agg [.fz (p.nodes.map aJ.enc),.fz (p.funs.map (.int .i64)),.int .i64 p.main,.fz (p.cons.map bC.enc)],.agg [.int .i64 n.op,.int .i64 n.n,.fz (n.kids.map (.int .i64)),.fz (n.pats.map Pat.enc)]] (.bool (eC p n)):=by
 have e1:IntKind.i64.wrap (0-(p.funs.length:Int))= -(p.funs.length:Int):=by have:=hp.funs;unfold Few at this;rw[bM (by omega)];omega
 have e2:=dD hp.cons
 refine aL bHj rfl rfl ?_
 simp only[go_sem,zF,Go.Abs.start,qC,qG,qS,aP7]
 refine xN (fun st=>(st.fr 2= .ptr ⟨0,2,0⟩ 0)/\ (st.en ⟨0,2,0⟩=some (.box p.cells false))/\ (st.fr 3= .ptr ⟨0,3,0⟩ 0)/\ (st.en ⟨0,3,0⟩=some (.box [.int .i64 n.op,.int .i64 n.n,.fz (n.kids.map (.int .i64)),.fz (n.pats.map Pat.enc)] false))/\ (st.fr 6= .bool (nE p n))/\ (st.fr 5= .int .i64 (oP p n))) ?_ ?_
 ·simp only[go_sem,qC,qG,qS,qW]
  repeat' ((first|with_reducible refine aA (fun h=>?_) (fun h=>?_)|with_reducible refine aE (fun h=>?_) (fun h=>?_))<;>(try simp only[bYb,bYc,bVq,bVz]at h)<;>try simp only[go_sem,qC,qG,qS,qW, *,(nF _ _ _).ret,aBy])
  all_goals simp[nE,oP, *]
 ·rintro fr en cnt ⟨(h2:fr 2= .ptr ⟨0,2,0⟩ 0),(e2:en ⟨0,2,0⟩=some (.box p.cells false)),(h3:fr 3= .ptr ⟨0,3,0⟩ 0),(e3:en ⟨0,3,0⟩=some (.box [.int .i64 n.op,.int .i64 n.n,.fz (n.kids.map (.int .i64)),.fz (n.pats.map Pat.enc)] false)),(h6:fr 6= .bool (nE p n)),(h5:fr 5= .int .i64 (oP p n))⟩
  refine xN (fun st=>(st.fr 2= .ptr ⟨0,2,0⟩ 0)/\ (st.en ⟨0,2,0⟩=some (.box p.cells false))/\ (st.fr 3= .ptr ⟨0,3,0⟩ 0)/\ (st.en ⟨0,3,0⟩=some (.box [.int .i64 n.op,.int .i64 n.n,.fz (n.kids.map (.int .i64)),.fz (n.pats.map Pat.enc)] false))/\ (st.fr 6= .bool (nE p n&&jN n))/\ (st.fr 5= .int .i64 (oP p n))) ?_ ?_
  ·simp only[go_sem,qC,qG,qS,qW,h2,e2,h3,e3,h6,h5]
   repeat' ((first|with_reducible refine aA (fun h=>?_) (fun h=>?_)|with_reducible refine aE (fun h=>?_) (fun h=>?_))<;>(try simp only[bYb,bYc,bVq,bVz]at h)<;>try simp only[go_sem,qC,qG,qS,qW, *,(nF _ _ _).ret])
   all_goals simp[jN, *]
  ·rintro fr en cnt ⟨(h2:fr 2= .ptr ⟨0,2,0⟩ 0),(e2:en ⟨0,2,0⟩=some (.box p.cells false)),(h3:fr 3= .ptr ⟨0,3,0⟩ 0),(e3:en ⟨0,3,0⟩=some (.box [.int .i64 n.op,.int .i64 n.n,.fz (n.kids.map (.int .i64)),.fz (n.pats.map Pat.enc)] false)),(h6:fr 6= .bool (nE p n&&jN n)),(h5:fr 5= .int .i64 (oP p n))⟩
   have hb0:(nE p n&&jN n)=true->0<=(n.pats.length:Int)/\ (n.pats.length:Int)<=1000:=by
    intro h;simp only[bVc]at h;have:=h.2;unfold jN at this;split at this
    ·simp[inR]at this;omega
    ·simp at this;simp[this]
   have hres:eC p n=(((nE p n&&jN n)&&n.pats.all (lL p.cons))&&decide ((n.kids.length:Int)=fR n.op n.pats.length (oP p n))):=rfl;rw[hres];clear hres e1;generalize (nE p n&&jN n)=b0 at h6 hb0
   refine xN (fun st=>st.fr 2= .ptr ⟨0,2,0⟩ 0/\ st.en ⟨0,2,0⟩=some (.box p.cells false)/\ st.fr 3= .ptr ⟨0,3,0⟩ 0/\ st.en ⟨0,3,0⟩=some (.box [.int .i64 n.op,.int .i64 n.n,.fz (n.kids.map (.int .i64)),.fz (n.pats.map Pat.enc)] false)/\ st.fr 6= .bool (b0&&n.pats.all (lL p.cons))/\ st.fr 5= .int .i64 (oP p n)) ?_ ?_
   ·simp only[go_sem,qC,qG,qS,qW,h2,e2,h3,e3,h6,h5]
    refine bF n.pats.length (fun k st=> ∃fr en cnt b,st=⟨fr,en,cnt⟩/\ fr 2= .ptr ⟨0,2,0⟩ 0/\ en ⟨0,2,0⟩=some (.box p.cells false)/\ fr 3= .ptr ⟨0,3,0⟩ 0/\ en ⟨0,3,0⟩=some (.box [.int .i64 n.op,.int .i64 n.n,.fz (n.kids.map (.int .i64)),.fz (n.pats.map Pat.enc)] false)/\ fr 5= .int .i64 (oP p n)/\ fr 7= .int .i64 k/\ fr 6= .bool b/\ (b&&(n.pats.drop k).all (lL p.cons))=(b0&&n.pats.all (lL p.cons))) 0 (bVn _) ⟨_,_,_,b0,rfl,by simp only[go_sem,h2,e2,h3,e3,h6,h5],by simp only[go_sem,h2,e2,h3,e3,h6,h5],by simp only[go_sem,h2,e2,h3,e3,h6,h5],by simp only[go_sem,h2,e2,h3,e3,h6,h5],by simp only[go_sem,h2,e2,h3,e3,h6,h5],by simp only[go_sem,h2,e2,h3,e3,h6,h5],by simp only[go_sem,h2,e2,h3,e3,h6,h5],rfl⟩ ?_
    rintro k st hk ⟨fr,en,cnt,b,rfl,h2,e2,h3,e3,h5,h7,h6,hI⟩
    simp only[go_sem,qC,qG,qS,qW,h2,e2,h3,e3,h5,h7,h6]
    refine aE (fun hd=>?_) (fun hd=>?_)
    ·have h':k<n.pats.length:=of_decide_eq_true hd;have hm:n.pats[k]∈n.pats:=bVp _;rw[eZ h']at hI;simp only[go_sem,qC,qG,qS,qW,hd,h2,e2,h3,e3,h5,h7,h6]
     refine aA (fun hb=>?_) (fun hb=>?_)
     ·rw[hb]at hI;simp only[go_sem,qC,qG,qS,qW,hd,h',h2,e2,h3,e3,h5,h7,h6,(uV _ (hn.pat _ hm) 12 (by omega) (by omega)).ret]
      refine aE (fun hw=>?_) (fun hw=>?_)
      ·simp only[go_sem,qC,qG,qS,qW,hw,h',h2,e2,h3,e3,h5,h7,h6,(aOc _ hp.cons _ (hn.pat _ hm)).ret]
       refine⟨_,_,_,rU p.cons n.pats[k],rfl,?_⟩
       simp only[go_sem,qC,qG,qS,qW,h',h2,e2,h3,e3,h5,h7,h6,aK h' hn.pats];rw[<-hI];simp[lL,of_decide_eq_true hw]
      ·simp only[go_sem,qC,qG,qS,qW,hw,h',h2,e2,h3,e3,h5,h7,h6]
       refine⟨_,_,_,false,rfl,?_⟩
       simp only[go_sem,qC,qG,qS,qW,h',h2,e2,h3,e3,h5,h7,h6,aK h' hn.pats]
       simp at hw
       rw[<-hI];simp[lL];intros;omega
     ·simp only[go_sem,qC,qG,qS,qW,hd,h',h2,e2,h3,e3,h5,h7,h6];rw[<-hI,hb];simp
    ·have:k=n.pats.length:=by simp at hd;omega
     subst this;simp only[go_sem,qC,qG,qS,qW,hd,h2,e2,h3,e3,h5,h7,h6];rw[<-hI];simp
   ·rintro fr en cnt ⟨(h2:fr 2=_),(e2:en _=_),(h3:fr 3=_),(e3:en _=_),(h6:fr 6=_),(h5:fr 5=_)⟩
    generalize hbb:(b0&&n.pats.all (lL p.cons))=b at h6⊢;simp only[go_sem,qC,qG,qS,qW]
    refine vV ?_ ?_
    ·decide
    simp only[go_sem,qC,qG,qS,qW,h2,e2,h3,e3,h5,h6]
    refine aE (fun hd=>?_) (fun hd=>?_)
    ·have h0:b0=true:=by
      simp only[hd,bVc]at hbb;exact hbb.1
     simp only[go_sem,qC,qG,qS,qW,hd,h2,e2,h3,e3,h5,h6,(aLt _ _ _ (hb0 h0)).ret]
    ·simp only[go_sem,qC,qG,qS,qW,hd,h2,e2,h3,e3,h5,h6]
theorem aS8 {u:List Bool}{n:Nat}{x:Int}(hu:u.length=n)(h:inR x 0 ((n:Int)-1)=true):0<=x/\ x<(n:Int)/\ (u.map Val.bool)[x.toNat]?=some (.bool (u.getD x.toNat false)):=by
 simp only[inR,bYb]at h;have hx:x.toNat<u.length:=by omega
 exact⟨by omega,by omega,by simp[bVm,hx]⟩
theorem aGo (p:aQ)(hp:p.few)(hs:p.cons.length<=1000):PC L 66 [.agg [.fz (p.nodes.map aJ.enc),.fz (p.funs.map (.int .i64)),.int .i64 p.main,.fz (p.cons.map bC.enc)]] (.bool (fU p)):=by
 have w1:=dD hp.nodes;have w2:=dD hp.funs
 refine aL bSt rfl rfl ?_
 simp only[go_sem,qC,qG,qS,qW,bAq,w1,w2]
 repeat' ((first|with_reducible refine aA (fun h=>?_) (fun h=>?_)|with_reducible refine aE (fun h=>?_) (fun h=>?_))<;>(try simp only[bYb,bYc,bVq,bVz]at h)<;>try simp only[go_sem,qC,qG,qS,qW, *,(nF _ _ _).ret,(aLu _ hs hp.con).ret])
 all_goals (try simp only[bWh,bX2,Int.not_lt,Int.not_le]at*)
 all_goals try(simp[fU, *];done)
 all_goals try(simp[fU, *];intros;omega)
 rename_i g1 g2 g3;have hn:p.nodes.length<=16777216:=by omega
 have hfo:fU p=tX ((wB 0 (p.nodes.length-1) (List.replicate p.nodes.length false) p.funs).bind fun u=>jC p 0 u p.nodes):=by simp[fU,g1,g2,g3,h]
 rw[hfo];clear hfo;simp only[go_sem,qC,qG,qS,qW,aN4 hn]
 refine bF p.funs.length (fun k st=> ∃fr en cnt u,st=⟨fr,en,cnt⟩/\ (fr 1= .ptr ⟨0,1,0⟩ 0/\ en ⟨0,1,0⟩=some (.box p.cells false)/\ fr 3= .int .i64 p.nodes.length/\ fr 4= .bl ⟨0,40,0⟩ 0 p.nodes.length/\ en ⟨0,40,0⟩=some (.blk 1 (u.map Val.bool) false)/\ u.length=p.nodes.length)/\ fr 5= .int .i64 k/\ wB 0 (p.nodes.length-1) u (p.funs.drop k)=wB 0 (p.nodes.length-1) (List.replicate p.nodes.length false) p.funs) 0 (bVn _) ⟨_,_,_,List.replicate p.nodes.length false,rfl,⟨by simp only[go_sem,qW],by simp only[go_sem,qW],by simp only[go_sem,qW],by simp only[go_sem,qW],by simp only[go_sem,List.map_replicate],by simp⟩,by simp only[go_sem,qW],rfl⟩ ?_
 rintro k st hk ⟨fr,en,cnt,u,rfl,⟨h1,e1,h3,h4,eu,hu⟩,h5,hI⟩
 simp only[go_sem,qC,qG,qS,qW,h1,e1,h5]
 refine aA (fun hq=>?_) (fun hq=>?_)
 ·have h':k<p.funs.length:=of_decide_eq_true hq;rw[bWc h',wB]at hI;simp only[go_sem,qC,qG,qS,qW,h',h1,e1,h3,h4,eu,h5,(nF _ _ _).ret,w1]
  refine aE (fun hb=>?_) (fun hb=>?_)
  ·simp at hb
   obtain⟨a1,a2,a3⟩:=aS8 hu hb;rw[hb]at hI;simp only[go_sem,qC,qG,qS,qW,hb,bVq,h',h1,e1,h3,h4,eu,h5,a1,a2,a3]
   refine aA (fun hc=>?_) (fun hc=>?_)
   ·simp only[go_sem,qC,qG,qS,qW];rw[hc]at hI
    simp at hI
    rw[<-hI];rfl
   ·simp only[go_sem,qC,qG,qS,qW,h',h1,e1,h3,h4,eu,h5,a1,a2,a3];rw[hc]at hI
    simp at hI
    refine⟨_,_,_,u.set p.funs[k].toNat true,rfl,?_⟩
    simp only[go_sem,qC,qG,qS,qW,h',h1,e1,h3,h4,eu,h5,a1,a2,a3,<-bW0,aK h' hp.funs];exact⟨by simp[hu],hI⟩
  ·simp only[go_sem,qC,qG,qS,qW,hb,bVz]
   simp at hb
   rw[hb]at hI
   simp at hI
   rw[<-hI];rfl
 ·have:k=p.funs.length:=by simp at hq;omega
  subst this;rw[bW8,wB]at hI;rw[<-hI];simp only[Option.bind_some];clear hq hI hk;generalize hM:jC p 0 u p.nodes=M;simp only[go_sem,qC,qG,qS,qW,h1,e1,h3]
  refine bF p.nodes.length (fun k st=> ∃fr en cnt u,st=⟨fr,en,cnt⟩/\ (fr 1= .ptr ⟨0,1,0⟩ 0/\ en ⟨0,1,0⟩=some (.box p.cells false)/\ fr 3= .int .i64 p.nodes.length/\ fr 4= .bl ⟨0,40,0⟩ 0 p.nodes.length/\ en ⟨0,40,0⟩=some (.blk 1 (u.map Val.bool) false)/\ u.length=p.nodes.length)/\ fr 6= .int .i64 k/\ jC p k u (p.nodes.drop k)=M) 0 (bVn _) ⟨_,_,_,u,rfl,⟨by simp only[go_sem,h1,e1,h3,h4,eu,hu],by simp only[go_sem,h1,e1,h3,h4,eu,hu],by simp only[go_sem,h1,e1,h3,h4,eu,hu],by simp only[go_sem,h1,e1,h3,h4,eu,hu],by simp only[go_sem,h1,e1,h3,h4,eu,hu],hu⟩,by simp only[go_sem,qW],hM⟩ ?_
  clear hM h1 e1 h3 h4 eu hu h5
  rintro k st hk ⟨fr,en,cnt,u,rfl,⟨h1,e1,h3,h4,eu,hu⟩,h6,hI⟩
  simp only[go_sem,qC,qG,qS,qW,h1,e1,h3,h6]
  refine aA (fun hq=>?_) (fun hq=>?_)
  ·have h':k<p.nodes.length:=of_decide_eq_true hq;have hx:=hp.node p.nodes[k] (bVp _);rw[bWc h',jC]at hI;simp only[go_sem,qC,qG,qS,qW,h',h1,e1,h3,h6,(aLv p _ hp hx).ret]
   refine aA (fun hb=>?_) (fun hb=>?_)
   ·simp only[go_sem,qC,qG,qS,qW]
    simp at hb
    rw[hb]at hI;rw[<-hI];rfl
   ·simp only[go_sem,qC,qG,qS,qW,h',h1,e1,h3,h6]
    simp at hb
    rw[hb]at hI;simp only[if_true]at hI;generalize hm:wB ((k:Int)+1) (p.nodes.length-1) u p.nodes[k].kids=m at hI
    refine bF p.nodes[k].kids.length (fun j st=> ∃fr en cnt u,st=⟨fr,en,cnt⟩/\ (fr 1= .ptr ⟨0,1,0⟩ 0/\ en ⟨0,1,0⟩=some (.box p.cells false)/\ fr 3= .int .i64 p.nodes.length/\ fr 4= .bl ⟨0,40,0⟩ 0 p.nodes.length/\ en ⟨0,40,0⟩=some (.blk 1 (u.map Val.bool) false)/\ u.length=p.nodes.length)/\ fr 6= .int .i64 k/\ fr 7= .int .i64 j/\ wB ((k:Int)+1) (p.nodes.length-1) u (p.nodes[k].kids.drop j)=m) 0 (bVn _) ⟨_,_,_,u,rfl,⟨by simp only[go_sem,h1,e1,h3,h4,eu,hu],by simp only[go_sem,h1,e1,h3,h4,eu,hu],by simp only[go_sem,h1,e1,h3,h4,eu,hu],by simp only[go_sem,h1,e1,h3,h4,eu,hu],by simp only[go_sem,h1,e1,h3,h4,eu,hu],hu⟩,by simp only[go_sem,h6],by simp only[go_sem,qW],hm⟩ ?_
    clear hm h1 e1 h3 h4 eu hu h6
    rintro j st hj ⟨fr,en,cnt,u,rfl,⟨h1,e1,h3,h4,eu,hu⟩,h6,h7,hJ⟩
    simp only[go_sem,qC,qG,qS,qW,h',h1,e1,h3,h6,h7]
    refine aA (fun h2=>?_) (fun h2=>?_)
    ·have h2':j<p.nodes[k].kids.length:=of_decide_eq_true h2;rw[bWc h2',wB]at hJ;have w3:IntKind.i64.wrap ((k:Int)+1)=(k:Int)+1:=bM (by omega)
     simp only[go_sem,qC,qG,qS,qW,h',h2',h1,e1,h3,h4,eu,h6,h7,(nF _ _ _).ret,w1,w3]
     refine aE (fun hc=>?_) (fun hc=>?_)
     ·simp at hc
      have hc0:inR p.nodes[k].kids[j] 0 ((p.nodes.length:Int)-1)=true:=by simp[inR]at hc⊢;omega
      obtain⟨a1,a2,a3⟩:=aS8 hu hc0;rw[hc]at hJ;simp only[go_sem,qC,qG,qS,qW,hc,bVq,h1,e1,h3,h4,eu,h6,h7,a1,a2,a3]
      refine aA (fun hd=>?_) (fun hd=>?_)
      ·simp only[go_sem,qC,qG,qS,qW];rw[hd]at hJ
       simp at hJ
       rw[<-hI,<-hJ];rfl
      ·simp only[go_sem,qC,qG,qS,qW,h2',h1,e1,h3,h4,eu,h6,h7,a1,a2,a3];rw[hd]at hJ
       simp at hJ
       refine⟨_,_,_,u.set p.nodes[k].kids[j].toNat true,rfl,?_⟩
       simp only[go_sem,qC,qG,qS,qW,h2',h1,e1,h3,h4,eu,h6,h7,a1,a2,a3,<-bW0,aK h2' hx.kids];exact⟨by simp[hu],hJ⟩
     ·simp only[go_sem,qC,qG,qS,qW,hc,bVz]
      simp at hc
      rw[hc]at hJ
      simp at hJ
      rw[<-hI,<-hJ];rfl
    ·have:j=p.nodes[k].kids.length:=by simp at h2;omega
     subst this;rw[bW8,wB]at hJ;rw[<-hJ]at hI;simp only[Option.bind_some]at hI;simp only[go_sem,qC,qG,qS,qW,h',h1,e1,h3,h4,eu,h6,h7]
     refine⟨_,_,_,u,rfl,?_⟩
     simp only[go_sem,qC,qG,qS,qW,h1,e1,h3,h4,eu,h6,h7,hu,aK h' hp.nodes];exact hI
  ·have:k=p.nodes.length:=by simp at hq;omega
   subst this;rw[bW8,jC]at hI;rw[<-hI];simp only[tX];simp only[go_sem,qC,qG,qS,qW,h1,e1,h3,h4]
   refine bF p.nodes.length (fun k st=> ∃fr en cnt,st=⟨fr,en,cnt⟩/\ fr 3= .int .i64 p.nodes.length/\ fr 4= .bl ⟨0,40,0⟩ 0 p.nodes.length/\ en ⟨0,40,0⟩=some (.blk 1 (u.map Val.bool) false)/\ fr 9= .int .i64 k/\ (u.drop k).all id=u.all id) 0 (bVn _) ⟨_,_,_,rfl,by simp only[go_sem,h1,e1,h3,h4,eu,hu],by simp only[go_sem,h1,e1,h3,h4,eu,hu],by simp only[go_sem,h1,e1,h3,h4,eu,hu],by simp only[go_sem,qW],rfl⟩ ?_
   clear h1 e1 h3 h4 eu h6 hI hq hk
   rintro k st hk ⟨fr,en,cnt,rfl,h3,h4,eu,h9,hI⟩
   simp only[go_sem,qC,qG,qS,qW,h3,h9]
   refine aA (fun hq=>?_) (fun hq=>?_)
   ·have h':k<p.nodes.length:=of_decide_eq_true hq;have h'':k<u.length:=by omega
    rw[eZ h'']at hI;have a3:(u.map Val.bool)[k]?=some (.bool u[k]):=by simp[h'']
    simp only[go_sem,qC,qG,qS,qW,h',h3,h4,eu,h9,a3,bX1,bV3]
    refine aA (fun hb=>?_) (fun hb=>?_)
    ·simp only[go_sem,qC,qG,qS,qW]
     simp at hb
     rw[<-hI,hb];rfl
    ·simp only[go_sem,qC,qG,qS,qW,h',h3,h4,eu,h9]
     simp at hb
     refine⟨_,_,_,rfl,?_⟩
     simp only[go_sem,qC,qG,qS,qW,h3,h4,eu,h9,aK h' hp.nodes];rw[<-hI,hb];simp
   ·have:k=p.nodes.length:=by simp at hq;omega
    subst this;simp only[go_sem,qC,qG,qS,qW];rw[<-hI,List.drop_eq_nil_of_le (by omega)];rfl
end Go.Proofs.YthpmfghgoabnhaaGreat
namespace Go.Proofs.YthpmfghgoabnhaaGreat
open Go.Abs Go.Proofs
theorem aI9 {α:Type}{a b:List α}{k:Nat}(ha:k<a.length)(hb:k<b.length)(h:a.take k=b.take k)(he:a[k]=b[k]):a.take (k+1)=b.take (k+1):=by
 rw[dE ha,dE hb,h,he]
theorem aJa {α:Type}{a b:List α}(hl:a.length=b.length)(h:a.take a.length=b.take a.length):a=b:=by
 rw[bWf,hl,bWf]at h;exact h
theorem aXv {α:Type}{a b:List α}{k:Nat}(ha:k<a.length)(hb:k<b.length)(h: ¬a[k]=b[k]): ¬a=b:=by
 rintro rfl;exact h rfl
theorem aG.eq_iff {a b:aG}:(decide (a.kind=b.kind)&&decide (a.n=b.n))=decide (a=b):=by
 cases a;cases b;simp
theorem aO.eq_iff {a b:aO}:(decide (a.port=b.port)&&decide (a.n=b.n))=decide (a=b):=by
 cases a;cases b;simp
theorem tZ (n lo hi:Int):PC L 69 [.int .i64 n,.int .i64 lo,.int .i64 hi] (.bool (inR n lo hi)):=by
 refine aL bSw rfl rfl ?_
 simp only[go_sem,qW,bAt]
 refine aY (fun h=>?_) (fun h=>?_)<;>simp only[go_sem,qW,h]<;>simp at h<;>simp[h,inR]
 omega
theorem aGp (l:List Int)(n:Int)(hl:Few l.length):PC L 70 [.fz (l.map (.int .i64)),.int .i64 n] (.bool (l.any fun x=>decide (x=n))):=by
 refine aL bSx rfl rfl ?_
 simp only[go_sem,qC,qG,qW,bAu]
 refine bF (l.length) (fun k st=> ∃fr en cnt,st=⟨fr,en,cnt⟩/\ (fr 0= .fz (l.map (.int .i64)))/\ (fr 1= .int .i64 n)/\ (fr 5= .int .i64 k)/\ ((l.drop k).any (fun x=>decide (x=n))=l.any fun x=>decide (x=n))) 0 (bVn _) ⟨_,_,_,rfl,(by first|(simp only[go_sem,qW];(try rfl);done)|rfl|simp),(by first|(simp only[go_sem,qW];(try rfl);done)|rfl|simp),(by first|(simp only[go_sem,qW];(try rfl);done)|rfl|simp),(by first|(simp only[go_sem,qW];(try rfl);done)|rfl|simp)⟩ ?_
 rintro k st hk ⟨fr,en,cnt,rfl,h0,h1,h5,hI⟩
 simp only[go_sem,qC,qG,qW,h0,h1,h5]
 refine aA (fun h=>?_) (fun h=>?_)
 ·have h':k<l.length:=of_decide_eq_true h;rw[aEx h']at hI;simp only[go_sem,qC,qG,qW,h',h0,h1,h5]
  refine aA (fun h2=>?_) (fun h2=>?_)
  ·simp only[go_sem,qC,qG,qW];rw[<-hI,h2];rfl
  ·simp only[go_sem,qC,qG,qW,h',h0,h1,h5]
   refine⟨_,_,_,rfl,?_⟩
   simp only[go_sem,qW,h0,h1,h5,aK h' hl];rw[<-hI,h2];simp
 ·have:k=l.length:=by simp at h;omega
  subst this;simp only[go_sem,qC,qG,qW];rw[<-hI];simp
theorem aLw (w:aC)(i:Nat)(hi:i<w.objs.length):PC L 67 [.agg [.fz (w.objs.map aI.enc),.fz (w.tasks.map (.int .i64)),.fz (w.outs.map aO.enc),.fz (w.ins.map (.int .i64)),.int .i64 w.used],.int .i64 i] (.bool (bH (w.obj i))):=by
 have hin:inR (i:Int) 0 (w.objs.length-1)=true:=by simp[inR];omega
 refine aL bSu rfl rfl ?_
 simp only[go_sem,qC,qG,qW,bAr,tV,hin];simp[bH]
theorem aLx (c:Int):PC L 78 [.int .i64 c] (.bool (decide (c=3))):=by
 refine aL bS1 rfl rfl ?_
 simp only[go_sem,qC,qG,qW,bAy]
theorem aJb (p:aQ)(w:aC)(hp:p.few)(hw:w.few)(hc:p.cons.length<=1000):PC L 20 [.agg [.fz (p.nodes.map aJ.enc),.fz (p.funs.map (.int .i64)),.int .i64 p.main,.fz (p.cons.map bC.enc)],.agg [.fz (w.objs.map aI.enc),.fz (w.tasks.map (.int .i64)),.fz (w.outs.map aO.enc),.fz (w.ins.map (.int .i64)),.int .i64 w.used]] (.bool (gG p w)):=by
 refine aL bSc rfl rfl ?_
 simp only[go_sem,qC,qG,qW,bAc,(aGo p hp hc).ret]
 refine aE (fun h=>?_) (fun h=>?_)<;>simp only[go_sem,qC,qG,qW,h,(aI5 p w hp hw).ret]<;>simp[gG,h]
theorem rV (s:aX)(hs:s.few):PC L 29 [.agg [.fz (s.world.objs.map aI.enc),.fz (s.world.tasks.map (.int .i64)),.fz (s.world.outs.map aO.enc),.fz (s.world.ins.map (.int .i64)),.int .i64 s.world.used,.fz (s.ages.map (.int .i64)),.fz (s.marks.map (.int .i64)),.int .i64 s.cycle]] (.bool (bI s)):=by
 refine aL bSd rfl rfl ?_
 simp only[go_sem,qC,qG,qW,bAd,(aAm s.world hs.1).ret]
 refine aE (fun g1=>?_) (fun g1=>?_)
 ·simp only[go_sem,qC,qG,qW,g1]
  refine aE (fun g2=>?_) (fun g2=>?_)<;>simp only[go_sem,qC,qG,qW,g2,bVq]<;>simp only[bI,g1,g2,bVq,bVy,bV5]
 ·simp only[go_sem,qC,qG,qW,g1,bVq];simp only[bI,g1,bVq,bV5]
end Go.Proofs.YthpmfghgoabnhaaGreat
namespace Go.Proofs.YthpmfghgoabnhaaGreat
open Go.Abs Go.Proofs
set_option maxRecDepth 100000
theorem aUq {n:Nat}{x:List Val}(h:gY Tryz.prog (n+2) 75 x): ∃a:aG,pW Tryz.prog 75 x=aG.enc a/\ True:=by
 have h1:=fK Tryz.underlying75 h;simp only[kR]at h1;obtain⟨a,b,rfl,_,ha,c,d,rfl,_,hc,rfl⟩:=h1;obtain⟨i,rfl⟩:=fT (k:= .i64) (by first|exact Tryz.underlying74|kernel_rfl) ha
 obtain⟨j,rfl⟩:=fT Tryz.underlying3 hc;exact⟨⟨i,j⟩,by simp[pW,cG,Tryz.underlying75,aG.enc],trivial⟩
theorem oQ {n:Nat}{x:List Val}(h:gY Tryz.prog (n+2) 23 x): ∃l:List Int,x=[.fz (l.map (.int .i64))]/\ Few l.length:=by
 obtain⟨l,h1,h2,_⟩:=jM (Val.int .i64) (fun _=>True) Tryz.underlying23 (fun y hy=>by
  obtain⟨i,rfl⟩:=fT Tryz.underlying3 hy;exact⟨i,by simp[pW,cG,Tryz.underlying3],trivial⟩) h
 exact⟨l,h1,h2⟩
theorem aB1 {n:Nat}{x:List Val}(h:gY Tryz.prog (n+3) 102 x): ∃l:List aG,x=[.fz (l.map aG.enc)]/\ Few l.length:=by
 obtain⟨l,h1,h2,_⟩:=jM aG.enc (fun _=>True) Tryz.underlying102 (fun y hy=>aUq hy) h
 exact⟨l,h1,h2⟩
theorem aLy {n:Nat}{x:List Val}(h:gY Tryz.prog (n+4) 114 x): ∃a:aB,pW Tryz.prog 114 x=aB.enc a/\ a.few:=by
 have h1:=fK Tryz.underlying114 h;simp only[kR]at h1;obtain⟨a,b,rfl,_,ha,c,d,rfl,_,hc,e,f,rfl,_,he,rfl⟩:=h1;obtain⟨i,rfl⟩:=fT Tryz.underlying3 ha;obtain⟨l,rfl,hl⟩:=aB1 hc;obtain⟨m,rfl,hm⟩:=aB1 he;exact⟨⟨i,l,m⟩,by simp[pW,cG,Tryz.underlying114,aB.enc],hl,hm⟩
theorem aLz {n:Nat}{x:List Val}(h:gY Tryz.prog (n+5) 103 x): ∃l:List aB,x=[.fz (l.map aB.enc)]/\ Few l.length/\ ∀f∈l,f.few:=
 jM aB.enc aB.few Tryz.underlying103 (fun y hy=>aLy hy) h
theorem aUr {n:Nat}{x:List Val}(h:gY Tryz.prog (n+6) 105 x): ∃a:aI,pW Tryz.prog 105 x=aI.enc a/\ a.few:=by
 have h1:=fK Tryz.underlying105 h;simp only[kR]at h1;obtain⟨a,b,rfl,_,ha,c,d,rfl,_,hc,e,f,rfl,_,he,g,k,rfl,_,hg,rfl⟩:=h1;obtain⟨i,rfl⟩:=fT (k:= .i64) (by first|exact Tryz.underlying101|kernel_rfl) ha
 obtain⟨j,rfl⟩:=fT Tryz.underlying3 hc;obtain⟨l,rfl,hl⟩:=aB1 he;obtain⟨m,rfl,hm,hm2⟩:=aLz hg;exact⟨⟨i,j,l,m⟩,by simp[pW,cG,Tryz.underlying105,aI.enc],hl,hm,hm2⟩
theorem aUs {n:Nat}{x:List Val}(h:gY Tryz.prog (n+2) 125 x): ∃a:aO,pW Tryz.prog 125 x=aO.enc a/\ True:=by
 have h1:=fK Tryz.underlying125 h;simp only[kR]at h1;obtain⟨a,b,rfl,_,ha,c,d,rfl,_,hc,rfl⟩:=h1;obtain⟨i,rfl⟩:=fT Tryz.underlying3 ha;obtain⟨j,rfl⟩:=fT Tryz.underlying3 hc;exact⟨⟨i,j⟩,by simp[pW,cG,Tryz.underlying125,aO.enc],trivial⟩
theorem aL0 {n:Nat}{x:List Val}(h:gY Tryz.prog (n+8) 30 x): ∃w:aC,x=[.fz (w.objs.map aI.enc),.fz (w.tasks.map (.int .i64)),.fz (w.outs.map aO.enc),.fz (w.ins.map (.int .i64)),.int .i64 w.used]/\ w.few:=by
 have h1:=fK Tryz.underlying30 h;simp only[kR]at h1;obtain⟨a,b,rfl,_,ha,c,d,rfl,_,hc,e,f,rfl,_,he,g,k,rfl,_,hg,r,q,rfl,_,hr,rfl⟩:=h1;obtain⟨l1,rfl,f1,f1'⟩:=jM aI.enc aI.few Tryz.underlying27 (fun y hy=>aUr hy) ha
 obtain⟨l2,rfl,f2⟩:=oQ hc;obtain⟨l3,rfl,f3,_⟩:=jM aO.enc (fun _=>True) Tryz.underlying28 (fun y hy=>aUs hy) he
 obtain⟨l4,rfl,f4⟩:=oQ hg;obtain⟨i,rfl⟩:=fT Tryz.underlying3 hr;exact⟨⟨l1,l2,l3,l4,i⟩,rfl,⟨f1,f2,f3,f4,f1'⟩⟩
theorem aL1 {n:Nat}{x:List Val}(h:gY Tryz.prog (n+9) 48 x): ∃s:aX,x=[.fz (s.world.objs.map aI.enc),.fz (s.world.tasks.map (.int .i64)),.fz (s.world.outs.map aO.enc),.fz (s.world.ins.map (.int .i64)),.int .i64 s.world.used,.fz (s.ages.map (.int .i64)),.fz (s.marks.map (.int .i64)),.int .i64 s.cycle]/\ s.few:=by
 have h1:=fK Tryz.underlying48 h;simp only[kR]at h1;obtain⟨a,b,rfl,_,ha,c,d,rfl,_,hc,e,f,rfl,_,he,g,k,rfl,_,hg,rfl⟩:=h1;obtain⟨w,rfl,hw⟩:=aL0 ha;obtain⟨l2,rfl,f2⟩:=oQ hc;obtain⟨l3,rfl,f3⟩:=oQ he;obtain⟨i,rfl⟩:=fT Tryz.underlying3 hg;exact⟨⟨w,l2,l3,i⟩,rfl,hw,f2,f3⟩
theorem aL2 : ∀(n:Nat) {x:List Val},gY Tryz.prog n 134 x-> ∃q:Pat,pW Tryz.prog 134 x=Pat.enc q/\ q.few
 |0,x,h=>by simp[gY]at h
 |1,x,h=>by
  have h1:=fK Tryz.underlying134 h;simp only[kR]at h1;obtain⟨a,b,rfl,_,ha,_⟩:=h1;simp[gY]at ha
 |n+2,x,h=>by
  have h1:=fK Tryz.underlying134 h;simp only[kR]at h1;obtain⟨a,b,rfl,_,ha,c,d,rfl,_,hc,e,f,rfl,_,he,g,k,rfl,_,hg,rfl⟩:=h1;obtain⟨i,rfl⟩:=fT (k:= .i64) (by first|exact Tryz.underlying132|kernel_rfl) ha
  obtain⟨j,rfl⟩:=fT Tryz.underlying3 hc;obtain⟨t,rfl,ht⟩:=aLg (by first|exact Tryz.underlying9|kernel_rfl) he
  obtain⟨l,rfl,hl,hq⟩:=jM Pat.enc Pat.few Tryz.underlying128 (fun y hy=>aL2 n hy) hg
  exact⟨.mk i j t l,by simp[pW,cG,Tryz.underlying134,Pat.enc,Pat.encL_map],.mk i j t l hl ht hq⟩
theorem aOd {n:Nat}{x:List Val}(h:gY Tryz.prog (n+4) 130 x): ∃a:aJ,pW Tryz.prog 130 x=aJ.enc a/\ a.few:=by
 have h1:=fK Tryz.underlying130 h;simp only[kR]at h1;obtain⟨a,b,rfl,_,ha,c,d,rfl,_,hc,e,f,rfl,_,he,g,k,rfl,_,hg,rfl⟩:=h1;obtain⟨i,rfl⟩:=fT (k:= .i64) (by first|exact Tryz.underlying72|kernel_rfl) ha
 obtain⟨j,rfl⟩:=fT Tryz.underlying3 hc;obtain⟨l,rfl,hl⟩:=oQ he;obtain⟨m,rfl,hm,hm2⟩:=jM Pat.enc Pat.few Tryz.underlying128 (fun y hy=>aL2 _ hy) hg
 exact⟨⟨i,j,l,m⟩,by simp[pW,cG,Tryz.underlying130,aJ.enc,aLb],⟨hl,hm,hm2⟩⟩
theorem aUt {n:Nat}{x:List Val}(h:gY Tryz.prog (n+2) 127 x): ∃a:bC,pW Tryz.prog 127 x=bC.enc a/\ Few a.name.size:=by
 have h1:=fK Tryz.underlying127 h;simp only[kR]at h1;obtain⟨a,b,rfl,_,ha,c,d,rfl,_,hc,rfl⟩:=h1;obtain⟨t,rfl,ht⟩:=aLg (by first|exact Tryz.underlying9|kernel_rfl) ha
 obtain⟨j,rfl⟩:=fT Tryz.underlying3 hc;exact⟨⟨t,j⟩,by simp[pW,cG,Tryz.underlying127,bC.enc],ht⟩
theorem aOe {n:Nat}{x:List Val}(h:gY Tryz.prog (n+6) 26 x): ∃p:aQ,x=[.fz (p.nodes.map aJ.enc),.fz (p.funs.map (.int .i64)),.int .i64 p.main,.fz (p.cons.map bC.enc)]/\ p.few:=by
 have h1:=fK Tryz.underlying26 h;simp only[kR]at h1;obtain⟨a,b,rfl,_,ha,c,d,rfl,_,hc,e,f,rfl,_,he,g,k,rfl,_,hg,rfl⟩:=h1;obtain⟨l1,rfl,f1,f1'⟩:=jM aJ.enc aJ.few Tryz.underlying22 (fun y hy=>aOd hy) ha
 obtain⟨l2,rfl,f2⟩:=oQ hc;obtain⟨i,rfl⟩:=fT Tryz.underlying3 he;obtain⟨l3,rfl,f3,f3'⟩:=jM bC.enc (fun c=>Few c.name.size) Tryz.underlying24 (fun y hy=>aUt hy) hg
 exact⟨⟨l1,l2,i,l3⟩,rfl,⟨f1,f2,f3,f1',f3'⟩⟩
end Go.Proofs.YthpmfghgoabnhaaGreat
namespace Go.Proofs.YthpmfghgoabnhaaGreat
open Go.Abs Go.Proofs
open Go.ChangeShapes Go.WideShapes Go.ChangeAt Go.RowKit
theorem own :ownKnob Tryz.prog.godebug=none:=by kernel_rfl
theorem aJc :laidOutB Tryz.prog=true:=by kernel_rfl
def fD (t:TypeId):Bool:=[3,9,22,23,24,26,27,28,30,48,72,73,75,101,102,103,105,114,125,127,128,130,132,134].contains t
theorem aFg :aLd Tryz.prog fD=true:=by kernel_rfl
theorem bKn :Tryz.prog.follows .mixedOrders=true:=by kernel_rfl
set_option maxRecDepth 100000
theorem aL3 {H:Type}{enc:TypeId×Value->H}{W:World}{sp:Nat->Bool}{t:TypeId}{v:Value}{d:DataW H}{ps:List MemPlace}(ht:t<Tryz.prog.types.size)(hs:fD t=true)(hv: ∃cs,v= .agg cs)(h:DataW.Trod enc Tryz.prog W 0 sp true t v d ps):
  ∃n vs,gY Tryz.prog (n+9) t vs/\ VR (aCy W) Gh.none W (.agg vs) v:=by
 obtain⟨fuel,h⟩:=h;obtain⟨x,rfl⟩:=hv;obtain⟨vs,h1,h2⟩:=aHe aJc fD aFg fuel t x.toList _ ht hs h;exact⟨fuel,vs,aHg 9 h1,aI0 h2⟩
theorem aXw {W:World}{base:Nat}{v:Value}(h:Value.okWide Tryz.prog W .any base 23 v): ∃a n c,v= .slice a n c:=by
 unfold Value.okWide at h;rw[Tryz.underlying23]at h;cases v with
 |slice a n c=>exact⟨a,n,c,rfl⟩
 |_=>exact h.elim
theorem aUu {H:Type}{enc:TypeId×Value->H}{W:World}{sp:Nat->Bool}{v:Value}{d:DataW H}{ps:List MemPlace}(hv: ∃a n c,v= .slice a n c)(h:DataW.Trod enc Tryz.prog W 0 sp true 23 v d ps):
  ∃l:List Int,Few l.length/\ VR (aCy W) Gh.none W (.fz (l.map (.int .i64))) v:=by
 obtain⟨fuel,h⟩:=h;obtain⟨a,n,c,rfl⟩:=hv;obtain⟨vs,h1,h2⟩:=aHe aJc fD aFg fuel 23 [.slice a n c] _ (of_decide_eq_true (by kernel_rfl)) (by decide) h
 obtain⟨l,rfl,hl⟩:=oQ (aHg 2 h1);exact⟨l,hl,by simpa using(h2.2 0 (by simp)).2⟩
end Go.Proofs.YthpmfghgoabnhaaGreat
namespace Go.Proofs.YthpmfghgoabnhaaGreat
open Go.Abs Go.Proofs
def lQ (v:aG):Bool:=decide (v.kind=5)
def dB (l:List aG):List Int:=(l.filter lQ).map aG.n
theorem xO {x:aG}{l:List aG}(h:lQ x=true):dB (x::l)=x.n::dB l:=by simp[dB,h]
theorem xP {x:aG}{l:List aG}(h:lQ x=false):dB (x::l)=dB l:=by simp[dB,h]
def dN (f:aB):List Int:=dB f.env++dB f.vals
def dS (o:aI):List Int:=dB o.vals++o.frames.flatMap dN
theorem uA (o:aI):PC L 63 [.agg [.int .i64 o.form,.int .i64 o.n,.fz (o.vals.map aG.enc),.fz (o.frames.map aB.enc)]] (.fn 107 [] [.fp [.int .i64 o.form,.int .i64 o.n,.fz (o.vals.map aG.enc),.fz (o.frames.map aB.enc)] 0]):=by
 refine aL bSq rfl rfl ?_
 simp only[go_sem,qC,qG,qW,bAn]
def T4 :List Nat:=[2,3,5,6]
def xQ (c0:Nat->Nat)(en en':En):Prop:= ∀n t g,(n≠0 \/t∉T4 \/g<c0 t)->en' ⟨n,t,g⟩=en ⟨n,t,g⟩
def bEe (c0:Nat->Nat)(en en':En):Prop:= ∀t g,t∈T4->c0 t<=g->en' ⟨0,t,g⟩=en ⟨0,t,g⟩
structure zH (k:Key) (c0:Nat->Nat) (I:List Int->En->(Nat->Nat->Nat)->Prop) (F:En->(Nat->Nat->Nat)->Prop):Prop where
 stable: ∀r en cnt en' cnt',I r en cnt->xQ c0 en en'->(∀n t,t∉T4->cnt' n t=cnt n t)->(∀t∈T4,c0 t<=cnt' 0 t)->I r en' cnt'
 round: ∀x rest en cnt,I (x::rest) en cnt->WIn L (.yld k) [.int .i64 x] en cnt fun v en' cnt'=>bEe c0 en en'/\ (∀t∈T4,cnt' 0 t=cnt 0 t)/\ ((v= .bool true/\ I rest en' cnt') \/(v= .bool false/\ F en' cnt'))
theorem aUv {xs:List Val}{x:Val}{en:En}(hx:cS 1 (x::xs)=true):lJ false 1 en (.cl (x::xs)) (some (.int .i64 1)) none none=some {v:= .cl xs}:=by
 have h1:fI (some (.int .i64 1)) 0 (xs.length+1)=some 1:=by
  simp only[fI];rw[if_pos ⟨by omega,by omega⟩];rfl
 simp[lJ,vW,h1,hx]
section
variable {k :Key}{c0:Nat->Nat}{I:List Int->En->(Nat->Nat->Nat)->Prop}{G:En->(Nat->Nat->Nat)->Prop}{a b:Nat}
structure Mid (k:Key) (c0:Nat->Nat) (a b:Nat) (en:En) (cnt:Nat->Nat->Nat):Prop where
 e2:en ⟨0,2,a⟩=some (.box [.yld k] false)
 e3:en ⟨0,3,b⟩=some (.box [.fn 108 [] [.ptr ⟨0,2,a⟩ 0,.ptr ⟨0,3,b⟩ 0]] false)
 cnt: ∀t∈T4,c0 t<=cnt 0 t
theorem aB2 (hr:zH k c0 I G)(ha:c0 2<=a)(hb:c0 3<=b): ∀(ls:List (List aG)) (rest:List Int) (en:En) (cnt:Nat->Nat->Nat),(∀l∈ls,Few l.length)->Mid k c0 a b en cnt->I (ls.flatMap dB++rest) en cnt->
  WIn L (.fn 108 [] [.ptr ⟨0,2,a⟩ 0,.ptr ⟨0,3,b⟩ 0]) [.cl (ls.map fun l=> .fz (l.map aG.enc))] en cnt fun v en' cnt'=>
   (v= .bool true/\ Mid k c0 a b en' cnt'/\ I rest en' cnt') \/(v= .bool false/\ G en' cnt')
 |[],rest,en,cnt,hf,hm,hI=>by
  refine mX bCf rfl rfl ?_
  simp only[go_sem,qC,qG,qW,aLj];exact .inl ⟨hm,by simpa using hI⟩
 |l::ls,rest,en,cnt,hf,hm,hI=>by
  have hl:=hf l (by simp)
  refine mX bCf rfl rfl ?_
  simp only[go_sem,qC,qG,qW,aLj];have hz:decide ((ls.length:Int)+1=0)=false:=by simp;omega
  refine aA (fun h0=>?_) (fun h0=>?_)
  ·exfalso;simp at h0;omega
  ·simp only[go_sem,qC,qG,qW]
   refine bF l.length (fun j st=> ∃fr en cnt,st=⟨fr,en,cnt⟩/\ fr 0= .cl (.fz (l.map aG.enc)::ls.map fun l=> .fz (l.map aG.enc))/\ fr 1= .ptr ⟨0,2,a⟩ 0/\ fr 2= .ptr ⟨0,3,b⟩ 0/\ fr 12= .fz (l.map aG.enc)/\ fr 13= .int .i64 l.length/\ fr 14= .int .i64 j/\
    Mid k c0 a b en cnt/\ I (dB (l.drop j)++(ls.flatMap dB++rest)) en cnt) 0 (bVn _) ⟨_,_,_,rfl,by simp only[go_sem,qW],by simp only[go_sem,qW],by simp only[go_sem,qW],by simp only[go_sem,qW],by simp only[go_sem,qW],by simp only[go_sem,qW],hm,by simpa using hI⟩ ?_
   rintro j st hj ⟨fr,en,cnt,rfl,f0,f1,f2,f12,f13,f14,hm,hI⟩
   simp only[go_sem,qC,qG,qW,f12,f13,f14]
   refine aA (fun hq=>?_) (fun hq=>?_)
   ·have h':j<l.length:=of_decide_eq_true hq;rw[bWc h']at hI;have hout: ∀e:Option Ent,∀e':Option Ent,xQ c0 en ((en.set ⟨0,6,cnt 0 6⟩ e).set ⟨0,6,cnt 0 6⟩ e'):=by
     intro e e' n t g h;have hne:(⟨n,t,g⟩:Key)≠⟨0,6,cnt 0 6⟩:=by
      intro he;injection he with h1 h2 h3;have:=hm.cnt 6 (by decide)
      rcases h with h|h|h
      ·exact h h1
      ·exact h (by rw[h2];decide)
      ·subst h2;omega
     rw[dZ hne,dZ hne]
    simp only[go_sem,qC,qG,qW,h',f0,f1,f2,f12,f13,f14];have st1: ∀e e':Option Ent,Mid k c0 a b ((en.set ⟨0,6,cnt 0 6⟩ e).set ⟨0,6,cnt 0 6⟩ e') (aP cnt 0 6 (cnt 0 6+1)):=by
     intro e e'
     refine⟨by simp only[go_sem,hm.e2],by simp only[go_sem,hm.e3],fun t ht=>?_⟩
     have:=hm.cnt t ht;simp only[aP];split
     ·rename_i h;obtain⟨_,rfl⟩:=h;omega
     ·exact this
    have i1: ∀r (e e':Option Ent),I r en cnt->I r ((en.set ⟨0,6,cnt 0 6⟩ e).set ⟨0,6,cnt 0 6⟩ e') (aP cnt 0 6 (cnt 0 6+1)):=by
     intro r e e' h
     refine hr.stable r _ _ _ _ h (hout e e') (fun n t ht=>?_) (st1 e e').cnt
     simp only[aP];split
     ·rename_i h;obtain⟨_,rfl⟩:=h;exact absurd (by decide) ht
     ·rfl
    refine aE (fun hk=>?_) (fun hk=>?_)
    ·have hx:lQ l[j]=true:=hk;rw[xO hx,bXe]at hI;simp only[go_sem,qC,qG,qW,hk,f1,hm.e2]
     refine(hr.round _ _ _ _ (i1 _ _ _ hI)).mono ?_
     rintro v en' cnt' ⟨hin,hc,hv⟩
     have hm':Mid k c0 a b en' cnt':=by
      have m1:=st1 (some (.box [.int .i64 0,.int .i64 0] false)) (some (.box [.int .i64 l[j].kind,.int .i64 l[j].n] false));exact⟨by rw[hin 2 a (by decide) ha];exact m1.e2,by rw[hin 3 b (by decide) hb];exact m1.e3,fun t ht=>by rw[hc t ht];exact m1.cnt t ht⟩
     rcases hv with⟨rfl,hI2⟩|⟨rfl,hG⟩
     ·simp only[go_sem,qC,qG,qW,hk,h',f0,f1,f2,f12,f13,f14]
      refine⟨_,_,_,rfl,?_⟩
      simp only[go_sem,qC,qG,qW,f0,f1,f2,f12,f13,f14,aK h' hl];exact⟨hm',hI2⟩
     ·simp only[go_sem,qC,qG,qW,hk];exact .inr hG
    ·have hx:lQ l[j]=false:=by simpa[lQ]using hk
     rw[xP hx]at hI;simp only[go_sem,qC,qG,qW,hk,bVq,h',f0,f1,f2,f12,f13,f14]
     refine⟨_,_,_,rfl,?_⟩
     simp only[go_sem,qC,qG,qW,f0,f1,f2,f12,f13,f14,aK h' hl];exact⟨st1 _ _,i1 _ _ _ hI⟩
   ·have:j=l.length:=by simp at hq;omega
    subst this;rw[bW8]at hI;simp only[go_sem,qC,qG,qW,f0,f2,hm.e3,aUv (x:= .fz (l.map aG.enc)) rfl]
    refine(aB2 hr ha hb ls rest en cnt (fun x hx=>hf x (by simp[hx])) hm (by simpa[dB]using hI)).mono ?_
    rintro v en' cnt' h
    try simp only[go_sem,qC,qG,qW]
    exact h
end
theorem bEf {f:Nat}{x y:List Val}:Val.one (.fn f x y)=true:=(rfl)
theorem aXx {f:Nat}{x y:List Val}:Val.cells (.fn f x y)=[.fn f x y]:=(rfl)
theorem aOf {v:Val}:kF 1 [v] false=v:=(rfl)
theorem aFh {c0:Nat->Nat}{n t g t' g':Nat}(h:n≠0 \/t∉T4 \/g<c0 t)(ht:t'∈T4)(hg:c0 t'<=g'):(⟨n,t,g⟩:Key)≠⟨0,t',g'⟩:=by
 intro he;injection he with h1 h2 h3;rcases h with h|h|h
 ·exact h h1
 ·exact h (h2▸ht)
 ·subst h2;omega
theorem xQ.trans {c0:Nat->Nat}{x y z:En}(h:xQ c0 x y)(h':xQ c0 y z):xQ c0 x z:=fun n t g k=>(h' n t g k).trans (h n t g k)
theorem Mid.put {k:Key}{c0:Nat->Nat}{a b:Nat}{en:En}{cnt:Nat->Nat->Nat}(hm:Mid k c0 a b en cnt)(e e':Option Ent):Mid k c0 a b ((en.set ⟨0,5,cnt 0 5⟩ e).set ⟨0,5,cnt 0 5⟩ e') (aP cnt 0 5 (cnt 0 5+1)):=by
 refine⟨by simp only[go_sem,hm.e2],by simp only[go_sem,hm.e3],fun t ht=>?_⟩
 have:=hm.cnt t ht;simp only[aP];split
 ·rename_i h;obtain⟨_,rfl⟩:=h;omega
 ·exact this
theorem zH.put {k:Key}{c0:Nat->Nat}{a b:Nat}{I:List Int->En->(Nat->Nat->Nat)->Prop}{G:En->(Nat->Nat->Nat)->Prop}(hr:zH k c0 I G){en:En}{cnt:Nat->Nat->Nat}(hm:Mid k c0 a b en cnt){r:List Int}(h:I r en cnt)(e e':Option Ent):I r ((en.set ⟨0,5,cnt 0 5⟩ e).set ⟨0,5,cnt 0 5⟩ e') (aP cnt 0 5 (cnt 0 5+1)):=by
 refine hr.stable r _ _ _ _ h (fun n t g h=>?_) (fun n t ht=>?_) (hm.put e e').cnt
 ·rw[dZ (aFh h (by decide) (hm.cnt 5 (by decide))),dZ (aFh h (by decide) (hm.cnt 5 (by decide)))]
 ·simp only[aP];split
  ·rename_i h;obtain⟨_,rfl⟩:=h;exact absurd (by decide) ht
  ·rfl
theorem aFi (o:aI)(ho:o.few){k:Key}{en:En}{cnt:Nat->Nat->Nat}{I:List Int->En->(Nat->Nat->Nat)->Prop}{G:En->(Nat->Nat->Nat)->Prop}(hr:zH k (cnt 0) I G)(hI:I (dS o) en cnt):
  WIn L (.fn 107 [] [.fp [.int .i64 o.form,.int .i64 o.n,.fz (o.vals.map aG.enc),.fz (o.frames.map aB.enc)] 0]) [.yld k] en cnt fun _ en' cnt'=>I [] en' cnt' \/G en' cnt':=by
 obtain⟨c0,hc0⟩: ∃c0,c0=cnt 0:=⟨_,rfl⟩
 rw[<-hc0]at hr;obtain⟨b,hbd⟩: ∃b,b=cnt 0 3:=⟨_,rfl⟩
 obtain⟨a,had⟩: ∃a,a=cnt 0 2:=⟨_,rfl⟩
 have ha:c0 2<=a:=by rw[hc0,had];exact bVe _
 have hb:c0 3<=b:=by rw[hc0,hbd];exact bVe _
 have hI0:I ([o.vals].flatMap dB++o.frames.flatMap dN) en cnt:=by
  have:[o.vals].flatMap dB++o.frames.flatMap dN=dS o:=by simp[dS]
  rw[this];exact hI
 refine mX bHg rfl rfl ?_
 simp only[go_sem,qC,qG,qW,aP4,iX (v:= .yld k) rfl rfl,bEf,aXx,aOf,<-hbd,<-had];have hcc: ∀t∈T4,c0 t<=aP (aP cnt 0 2 (a+1)) 0 3 (b+1) 0 t:=by
  intro t ht;simp only[T4,bWe,List.not_mem_nil,or_false]at ht;rw[hc0];rcases ht with rfl|rfl|rfl|rfl<;>simp[aP]<;>omega
 refine(aB2 hr (a:=a) (b:=b) ha hb [o.vals] (o.frames.flatMap dN) _ _ (fun l hl=>by simp at hl;subst hl;exact ho.1) ⟨by simp only[go_sem,qW],by simp only[go_sem,qW],hcc⟩ (hr.stable _ _ _ _ _ hI0 (fun n t g h=>?_) (fun n t ht=>?_) hcc)).mono ?_
 ·rw[dZ (aFh h (by decide) hb),dZ (aFh h (by decide) hb),dZ (aFh h (by decide) ha)]
 ·simp only[aP];simp only[T4,bWe,List.not_mem_nil,or_false,not_or]at ht;rw[if_neg (by omega),if_neg (by omega)]
 ·rintro v en' cnt' (⟨rfl,hm,hI'⟩|⟨rfl,hG⟩)
  ·simp only[go_sem,qC,qG,qW,bVq]
   refine bF o.frames.length (fun j st=> ∃fr en cnt,st=⟨fr,en,cnt⟩/\ fr 3= .ptr ⟨0,3,b⟩ 0/\ fr 14= .fz (o.frames.map aB.enc)/\ fr 15= .int .i64 o.frames.length/\ fr 16= .int .i64 j/\
    Mid k c0 a b en cnt/\ I ((o.frames.drop j).flatMap dN) en cnt) 0 (bVn _) ⟨_,_,_,rfl,by simp only[go_sem,qW],by simp only[go_sem,qW],by simp only[go_sem,qW],by simp only[go_sem,qW],hm,by simpa using hI'⟩ ?_
   rintro j st hj ⟨fr,en,cnt,rfl,f3,f14,f15,f16,hm,hI⟩
   simp only[go_sem,qC,qG,qW,f14,f15,f16]
   refine aA (fun hq=>?_) (fun hq=>?_)
   ·have h':j<o.frames.length:=of_decide_eq_true hq;rw[bWc h']at hI;have hf:=ho.2.2 _ (bVp h');have hI1:I ([o.frames[j].env,o.frames[j].vals].flatMap dB++(o.frames.drop (j+1)).flatMap dN) en cnt:=by
     have:[o.frames[j].env,o.frames[j].vals].flatMap dB++(o.frames.drop (j+1)).flatMap dN=(o.frames[j]::o.frames.drop (j+1)).flatMap dN:=by simp only[bX0,bXu,bWw,List.append_assoc,dN]
     rw[this];exact hI
    have h3:=(hm.put (some (.box [.int .i64 0,.cl [],.cl []] false)) (some (.box [.int .i64 o.frames[j].node,.fz (o.frames[j].env.map aG.enc),.fz (o.frames[j].vals.map aG.enc)] false))).e3;simp only[go_sem,qC,qG,qW,h',f3,f14,f15,f16,hm.e3]
    refine(aB2 hr (a:=a) (b:=b) ha hb [o.frames[j].env,o.frames[j].vals] ((o.frames.drop (j+1)).flatMap dN) _ _ (fun l hl=>?_) (hm.put _ _) (hr.put hm hI1 _ _)).mono ?_
    ·simp only[bWe,List.not_mem_nil,or_false]at hl;rcases hl with rfl|rfl
     ·exact hf.1
     ·exact hf.2
    rintro v en' cnt' (⟨rfl,hm,hI'⟩|⟨rfl,hG⟩)
    ·simp only[go_sem,qC,qG,qW,bVq,h',f3,f14,f15,f16]
     refine⟨_,_,_,rfl,?_⟩
     simp only[go_sem,qC,qG,qW,f3,f14,f15,f16,aK h' ho.2.1];exact⟨hm,hI'⟩
    ·simp only[go_sem,qC,qG,qW];exact .inr hG
   ·have:j=o.frames.length:=by simp at hq;omega
    subst this;rw[bW8]at hI;simp only[go_sem,qC,qG,qW];exact .inl (by simpa using hI)
  ·simp only[go_sem,qC,qG,qW];exact .inr hG
end Go.Proofs.YthpmfghgoabnhaaGreat
namespace Go.Proofs.YthpmfghgoabnhaaGreat
open Go.Abs Go.Proofs
theorem aXy (l:List bC)(h:Val)(p:bC->Bool)(hl:Few l.length)(hc:cY L (fun x:bC=> .agg [.str x.name,.int .i64 x.args]) h p l):
  PC L 275 [.fz (l.map bC.enc),h] (.int .i64 (idxOf p l 0)):=by
 refine aL bJ8 rfl rfl ?_
 simp only[go_sem,qC,qG,qW,aSr]
 refine bF (l.length) (fun k st=> ∃fr en cnt,st=⟨fr,en,cnt⟩/\ (fr 0= .fz (l.map bC.enc))/\ (fr 1=h)/\ (fr 7= .int .i64 l.length)/\ (fr 8= .int .i64 k)/\ (idxOf p (l.drop k) k=idxOf p l 0)) 0 (bVn _) ⟨_,_,_,rfl,(by first|(simp only[go_sem,qW];(try rfl);done)|rfl|simp),(by first|(simp only[go_sem,qW];(try rfl);done)|rfl|simp),(by first|(simp only[go_sem,qW];(try rfl);done)|rfl|simp),(by first|(simp only[go_sem,qW];(try rfl);done)|rfl|simp),(by first|(simp only[go_sem,qW];(try rfl);done)|rfl|simp)⟩ ?_
 rintro k st hk ⟨fr,en,cnt,rfl,h0,h1,h7,h8,hI⟩
 simp only[go_sem,qC,qG,qW,h0,h1,h7,h8]
 refine aA (fun hq=>?_) (fun hq=>?_)
 ·have h':k<l.length:=of_decide_eq_true hq;rw[bWc h',idxOf]at hI;simp only[go_sem,qC,qG,qW,h',h0,h1,h7,h8]
  refine hc.call l[k] (bVp _) _ _ ?_
  simp only[go_sem,qC,qG,qW,h0,h1,h7,h8]
  refine aA (fun hb=>?_) (fun hb=>?_)
  ·simp only[go_sem,qC,qG,qW,h0,h1,h7,h8];rw[hb,if_pos rfl]at hI;rw[<-hI]
  ·simp only[go_sem,qC,qG,qW,h',h0,h1,h7,h8];rw[hb]at hI
   simp at hI
   refine⟨_,_,_,rfl,?_⟩
   simp only[go_sem,qW,h0,h1,h7,h8,aK h' hl];exact hI
 ·have:k=l.length:=by simp at hq;omega
  subst this;simp only[go_sem,qC,qG,qW,h0,h1,h7,h8];rw[<-hI];simp[idxOf]
theorem aUw (l:List bC)(h:Val)(p:bC->Bool)(hl:Few l.length)(hc:cY L (fun x:bC=> .agg [.str x.name,.int .i64 x.args]) h p l):
  PC L 226 [.fz (l.map bC.enc),h] (.bool (l.any p)):=by
 refine aL bJl rfl rfl ?_
 simp only[go_sem,qC,qG,qW,aR4,hc.snap,hc.wk,(aXy l h p hl hc).ret];rw[<-lK p l 0]
theorem pM (l:List bC)(h:Val)(p:bC->Bool)(hc:cY L (fun x:bC=> .agg [.str x.name,.int .i64 x.args]) h p l)(x:bC)(hx:x∈l):
  PC L 227 [.agg [.str x.name,.int .i64 x.args],.fp [h] 0] (.bool (!p x)):=by
 refine aL bJm rfl rfl ?_
 simp only[go_sem,qC,qG,qW,aR5]
 refine hc.call x hx _ _ ?_
 simp only[go_sem,qC,qG,qW]
theorem rK (l:List bC)(h:Val)(p:bC->Bool)(hl:Few l.length)(hc:cY L (fun x:bC=> .agg [.str x.name,.int .i64 x.args]) h p l):
  PC L 199 [.fz (l.map bC.enc),h] (.bool (l.all p)):=by
 have hd:cY L (fun x:bC=> .agg [.str x.name,.int .i64 x.args]) (.fn 227 [] [.fp [h] 0]) (fun x=>!p x) l:=by
  refine⟨fun n en hn=>?_,rfl,rfl,rfl,fun x hx en K hK=>?_⟩
  ·obtain⟨m,rfl⟩: ∃m,n=m+4:=⟨n-4,by omega⟩
   simp only[go_sem,qW]
  ·simp only[go_sem,qW,(pM l h p hc x hx).ret];exact hK
 refine aL bIz rfl rfl ?_
 simp only[go_sem,qC,qG,qW,aRj,iX hc.one hc.cells,hc.snap,hc.wk,(aUw l _ _ hl hd).ret];rw[<-bXi,bXj]
theorem aUx (l:List aJ)(h:Val)(p:aJ->Bool)(hl:Few l.length)(hc:cY L (fun x:aJ=> .agg [.int .i64 x.op,.int .i64 x.n,.fz (x.kids.map (.int .i64)),.fz (x.pats.map Pat.enc)]) h p l):
  PC L 277 [.fz (l.map aJ.enc),h] (.int .i64 (idxOf p l 0)):=by
 refine aL bKa rfl rfl ?_
 simp only[go_sem,qC,qG,qW,aSt]
 refine bF (l.length) (fun k st=> ∃fr en cnt,st=⟨fr,en,cnt⟩/\ (fr 0= .fz (l.map aJ.enc))/\ (fr 1=h)/\ (fr 7= .int .i64 l.length)/\ (fr 8= .int .i64 k)/\ (idxOf p (l.drop k) k=idxOf p l 0)) 0 (bVn _) ⟨_,_,_,rfl,(by first|(simp only[go_sem,qW];(try rfl);done)|rfl|simp),(by first|(simp only[go_sem,qW];(try rfl);done)|rfl|simp),(by first|(simp only[go_sem,qW];(try rfl);done)|rfl|simp),(by first|(simp only[go_sem,qW];(try rfl);done)|rfl|simp),(by first|(simp only[go_sem,qW];(try rfl);done)|rfl|simp)⟩ ?_
 rintro k st hk ⟨fr,en,cnt,rfl,h0,h1,h7,h8,hI⟩
 simp only[go_sem,qC,qG,qW,h0,h1,h7,h8]
 refine aA (fun hq=>?_) (fun hq=>?_)
 ·have h':k<l.length:=of_decide_eq_true hq;rw[bWc h',idxOf]at hI;simp only[go_sem,qC,qG,qW,h',h0,h1,h7,h8]
  refine hc.call l[k] (bVp _) _ _ ?_
  simp only[go_sem,qC,qG,qW,h0,h1,h7,h8]
  refine aA (fun hb=>?_) (fun hb=>?_)
  ·simp only[go_sem,qC,qG,qW,h0,h1,h7,h8];rw[hb,if_pos rfl]at hI;rw[<-hI]
  ·simp only[go_sem,qC,qG,qW,h',h0,h1,h7,h8];rw[hb]at hI
   simp at hI
   refine⟨_,_,_,rfl,?_⟩
   simp only[go_sem,qW,h0,h1,h7,h8,aK h' hl];exact hI
 ·have:k=l.length:=by simp at hq;omega
  subst this;simp only[go_sem,qC,qG,qW,h0,h1,h7,h8];rw[<-hI];simp[idxOf]
theorem aOg (l:List aJ)(h:Val)(p:aJ->Bool)(hl:Few l.length)(hc:cY L (fun x:aJ=> .agg [.int .i64 x.op,.int .i64 x.n,.fz (x.kids.map (.int .i64)),.fz (x.pats.map Pat.enc)]) h p l):
  PC L 229 [.fz (l.map aJ.enc),h] (.bool (l.any p)):=by
 refine aL bJo rfl rfl ?_
 simp only[go_sem,qC,qG,qW,aR7,hc.snap,hc.wk,(aUx l h p hl hc).ret];rw[<-lK p l 0]
theorem pH (l:List aJ)(h:Val)(p:aJ->Bool)(hc:cY L (fun x:aJ=> .agg [.int .i64 x.op,.int .i64 x.n,.fz (x.kids.map (.int .i64)),.fz (x.pats.map Pat.enc)]) h p l)(x:aJ)(hx:x∈l):
  PC L 230 [.agg [.int .i64 x.op,.int .i64 x.n,.fz (x.kids.map (.int .i64)),.fz (x.pats.map Pat.enc)],.fp [h] 0] (.bool (!p x)):=by
 refine aL bJp rfl rfl ?_
 simp only[go_sem,qC,qG,qW,aR8]
 refine hc.call x hx _ _ ?_
 simp only[go_sem,qC,qG,qW]
theorem qT (l:List aJ)(h:Val)(p:aJ->Bool)(hl:Few l.length)(hc:cY L (fun x:aJ=> .agg [.int .i64 x.op,.int .i64 x.n,.fz (x.kids.map (.int .i64)),.fz (x.pats.map Pat.enc)]) h p l):
  PC L 204 [.fz (l.map aJ.enc),h] (.bool (l.all p)):=by
 have hd:cY L (fun x:aJ=> .agg [.int .i64 x.op,.int .i64 x.n,.fz (x.kids.map (.int .i64)),.fz (x.pats.map Pat.enc)]) (.fn 230 [] [.fp [h] 0]) (fun x=>!p x) l:=by
  refine⟨fun n en hn=>?_,rfl,rfl,rfl,fun x hx en K hK=>?_⟩
  ·obtain⟨m,rfl⟩: ∃m,n=m+4:=⟨n-4,by omega⟩
   simp only[go_sem,qW]
  ·simp only[go_sem,qW,(pH l h p hc x hx).ret];exact hK
 refine aL bI4 rfl rfl ?_
 simp only[go_sem,qC,qG,qW,aRo,iX hc.one hc.cells,hc.snap,hc.wk,(aOg l _ _ hl hd).ret];rw[<-bXi,bXj]
theorem bBb (l:List Pat)(h:Val)(p:Pat->Bool)(hl:Few l.length)(hc:cY L (fun x:Pat=> .agg [.int .i64 x.form,.int .i64 x.n,.str x.text,.fz (x.parts.map Pat.enc)]) h p l):
  PC L 299 [.fz (l.map Pat.enc),h] (.int .i64 (idxOf p l 0)):=by
 refine aL bKi rfl rfl ?_
 simp only[go_sem,qC,qG,qW,aS1]
 refine bF (l.length) (fun k st=> ∃fr en cnt,st=⟨fr,en,cnt⟩/\ (fr 0= .fz (l.map Pat.enc))/\ (fr 1=h)/\ (fr 7= .int .i64 l.length)/\ (fr 8= .int .i64 k)/\ (idxOf p (l.drop k) k=idxOf p l 0)) 0 (bVn _) ⟨_,_,_,rfl,(by first|(simp only[go_sem,qW];(try rfl);done)|rfl|simp),(by first|(simp only[go_sem,qW];(try rfl);done)|rfl|simp),(by first|(simp only[go_sem,qW];(try rfl);done)|rfl|simp),(by first|(simp only[go_sem,qW];(try rfl);done)|rfl|simp),(by first|(simp only[go_sem,qW];(try rfl);done)|rfl|simp)⟩ ?_
 rintro k st hk ⟨fr,en,cnt,rfl,h0,h1,h7,h8,hI⟩
 simp only[go_sem,qC,qG,qW,h0,h1,h7,h8]
 refine aA (fun hq=>?_) (fun hq=>?_)
 ·have h':k<l.length:=of_decide_eq_true hq;rw[bWc h',idxOf]at hI;simp only[go_sem,qC,qG,qW,h',h0,h1,h7,h8]
  refine hc.call l[k] (bVp _) _ _ ?_
  simp only[go_sem,qC,qG,qW,h0,h1,h7,h8]
  refine aA (fun hb=>?_) (fun hb=>?_)
  ·simp only[go_sem,qC,qG,qW,h0,h1,h7,h8];rw[hb,if_pos rfl]at hI;rw[<-hI]
  ·simp only[go_sem,qC,qG,qW,h',h0,h1,h7,h8];rw[hb]at hI
   simp at hI
   refine⟨_,_,_,rfl,?_⟩
   simp only[go_sem,qW,h0,h1,h7,h8,aK h' hl];exact hI
 ·have:k=l.length:=by simp at hq;omega
  subst this;simp only[go_sem,qC,qG,qW,h0,h1,h7,h8];rw[<-hI];simp[idxOf]
theorem aXz (l:List Pat)(h:Val)(p:Pat->Bool)(hl:Few l.length)(hc:cY L (fun x:Pat=> .agg [.int .i64 x.form,.int .i64 x.n,.str x.text,.fz (x.parts.map Pat.enc)]) h p l):
  PC L 279 [.fz (l.map Pat.enc),h] (.bool (l.any p)):=by
 refine aL bKc rfl rfl ?_
 simp only[go_sem,qC,qG,qW,aSv,hc.snap,hc.wk,(bBb l h p hl hc).ret];rw[<-lK p l 0]
theorem pN (l:List Pat)(h:Val)(p:Pat->Bool)(hc:cY L (fun x:Pat=> .agg [.int .i64 x.form,.int .i64 x.n,.str x.text,.fz (x.parts.map Pat.enc)]) h p l)(x:Pat)(hx:x∈l):
  PC L 280 [.agg [.int .i64 x.form,.int .i64 x.n,.str x.text,.fz (x.parts.map Pat.enc)],.fp [h] 0] (.bool (!p x)):=by
 refine aL bKd rfl rfl ?_
 simp only[go_sem,qC,qG,qW,aSw]
 refine hc.call x hx _ _ ?_
 simp only[go_sem,qC,qG,qW]
theorem lR (l:List Pat)(h:Val)(p:Pat->Bool)(hl:Few l.length)(hc:cY L (fun x:Pat=> .agg [.int .i64 x.form,.int .i64 x.n,.str x.text,.fz (x.parts.map Pat.enc)]) h p l):
  PC L 236 [.fz (l.map Pat.enc),h] (.bool (l.all p)):=by
 have hd:cY L (fun x:Pat=> .agg [.int .i64 x.form,.int .i64 x.n,.str x.text,.fz (x.parts.map Pat.enc)]) (.fn 280 [] [.fp [h] 0]) (fun x=>!p x) l:=by
  refine⟨fun n en hn=>?_,rfl,rfl,rfl,fun x hx en K hK=>?_⟩
  ·obtain⟨m,rfl⟩: ∃m,n=m+4:=⟨n-4,by omega⟩
   simp only[go_sem,qW]
  ·simp only[go_sem,qW,(pN l h p hc x hx).ret];exact hK
 refine aL bJv rfl rfl ?_
 simp only[go_sem,qC,qG,qW,aSe,iX hc.one hc.cells,hc.snap,hc.wk,(aXz l _ _ hl hd).ret];rw[<-bXi,bXj]
theorem bBc (l:List Int)(h:Val)(p:Int->Bool)(hl:Few l.length)(hc:cY L (fun x:Int=> .int .i64 x) h p l):
  PC L 281 [.fz (l.map (.int .i64)),h] (.int .i64 (idxOf p l 0)):=by
 refine aL bKe rfl rfl ?_
 simp only[go_sem,qC,qG,qW,aSx]
 refine bF (l.length) (fun k st=> ∃fr en cnt,st=⟨fr,en,cnt⟩/\ (fr 0= .fz (l.map (.int .i64)))/\ (fr 1=h)/\ (fr 7= .int .i64 l.length)/\ (fr 8= .int .i64 k)/\ (idxOf p (l.drop k) k=idxOf p l 0)) 0 (bVn _) ⟨_,_,_,rfl,(by first|(simp only[go_sem,qW];(try rfl);done)|rfl|simp),(by first|(simp only[go_sem,qW];(try rfl);done)|rfl|simp),(by first|(simp only[go_sem,qW];(try rfl);done)|rfl|simp),(by first|(simp only[go_sem,qW];(try rfl);done)|rfl|simp),(by first|(simp only[go_sem,qW];(try rfl);done)|rfl|simp)⟩ ?_
 rintro k st hk ⟨fr,en,cnt,rfl,h0,h1,h7,h8,hI⟩
 simp only[go_sem,qC,qG,qW,h0,h1,h7,h8]
 refine aA (fun hq=>?_) (fun hq=>?_)
 ·have h':k<l.length:=of_decide_eq_true hq;rw[bWc h',idxOf]at hI;simp only[go_sem,qC,qG,qW,h',h0,h1,h7,h8]
  refine hc.call l[k] (bVp _) _ _ ?_
  simp only[go_sem,qC,qG,qW,h0,h1,h7,h8]
  refine aA (fun hb=>?_) (fun hb=>?_)
  ·simp only[go_sem,qC,qG,qW,h0,h1,h7,h8];rw[hb,if_pos rfl]at hI;rw[<-hI]
  ·simp only[go_sem,qC,qG,qW,h',h0,h1,h7,h8];rw[hb]at hI
   simp at hI
   refine⟨_,_,_,rfl,?_⟩
   simp only[go_sem,qW,h0,h1,h7,h8,aK h' hl];exact hI
 ·have:k=l.length:=by simp at hq;omega
  subst this;simp only[go_sem,qC,qG,qW,h0,h1,h7,h8];rw[<-hI];simp[idxOf]
theorem aL4 (l:List Int)(h:Val)(p:Int->Bool)(hl:Few l.length)(hc:cY L (fun x:Int=> .int .i64 x) h p l):
  PC L 237 [.fz (l.map (.int .i64)),h] (.bool (l.any p)):=by
 refine aL bJw rfl rfl ?_
 simp only[go_sem,qC,qG,qW,aSf,hc.snap,hc.wk,(bBc l h p hl hc).ret];rw[<-lK p l 0]
theorem wC (l:List Int)(h:Val)(p:Int->Bool)(hc:cY L (fun x:Int=> .int .i64 x) h p l)(x:Int)(hx:x∈l):
  PC L 238 [.int .i64 x,.fp [h] 0] (.bool (!p x)):=by
 refine aL bJx rfl rfl ?_
 simp only[go_sem,qC,qG,qW,aSg]
 refine hc.call x hx _ _ ?_
 simp only[go_sem,qC,qG,qW]
theorem aAp (l:List Int)(h:Val)(p:Int->Bool)(hl:Few l.length)(hc:cY L (fun x:Int=> .int .i64 x) h p l):
  PC L 206 [.fz (l.map (.int .i64)),h] (.bool (l.all p)):=by
 have hd:cY L (fun x:Int=> .int .i64 x) (.fn 238 [] [.fp [h] 0]) (fun x=>!p x) l:=by
  refine⟨fun n en hn=>?_,rfl,rfl,rfl,fun x hx en K hK=>?_⟩
  ·obtain⟨m,rfl⟩: ∃m,n=m+4:=⟨n-4,by omega⟩
   simp only[go_sem,qW]
  ·simp only[go_sem,qW,(wC l h p hc x hx).ret];exact hK
 refine aL bI6 rfl rfl ?_
 simp only[go_sem,qC,qG,qW,aRp,iX hc.one hc.cells,hc.snap,hc.wk,(aL4 l _ _ hl hd).ret];rw[<-bXi,bXj]
theorem jP (n lo hi:Int):PC L 198 [.int .i64 n,.int .i64 lo,.int .i64 hi] (.bool (inR n lo hi)):=by
 refine aL bIy rfl rfl ?_
 simp only[go_sem,qW,aRi]
 refine aY (fun h=>?_) (fun h=>?_)<;>simp only[go_sem,qW,h]<;>simp at h<;>simp[h,inR]
 omega
theorem uW (n:Int):PC L 278 [.int .i64 n] (.bool (inR n (-1000000000) 1000000000)):=by
 refine aL bKb rfl rfl ?_
 simp only[go_sem,qC,qG,qW,aSu,(jP _ _ _).ret]
theorem aGq (s:ByteArray):PC L 276 [.str s] (.bool (sG (kT s))):=by
 refine aL bJ9 rfl rfl ?_
 simp only[go_sem,qC,qG,qW,aSs]
 refine bF s.size (fun k st=> ∃fr en cnt,st=⟨fr,en,cnt⟩/\ fr 6= .it ⟨0,6,0⟩/\ en ⟨0,6,0⟩=some (.iter s k)/\ ((kT s).drop k).all iY=(kT s).all iY) 0 (bVn _) ⟨_,_,_,rfl,by simp only[go_sem,qW],by simp only[go_sem,qW],rfl⟩ ?_
 rintro k st hk ⟨fr,en,cnt,rfl,h6,e6,hI⟩
 have hsz:=nR s
 by_cases h':k<s.size
 ·have h'':k<(kT s).length:=by omega
  obtain⟨d1,d2⟩:=aI6 h'';rw[eZ h'']at hI;simp only[go_sem,qC,qG,qW,h6,e6,h'];cases hb:iY (kT s)[k]with
  |true=>
   have hd:=d1 hb;have hb2:=hb;simp only[iY,bVc,bYb]at hb2;have c1:decide ((((kT s)[k].toNat:Nat):Int)<97)=false:=by simp;omega
   have c2:decide ((122:Int)<(((kT s)[k].toNat:Nat):Int))=false:=by simp;omega
   simp only[go_sem,qC,qG,qW,hd,h6,e6,c1,c2]
   refine⟨_,_,_,rfl,?_⟩
   simp only[go_sem,qC,qG,qW,hd,h6,e6];rw[<-hI,hb];simp
  |false=>
   have hd:=d2 hb;rw[hb]at hI;generalize (Utf8.decode s k).1=r at hd⊢
   refine aE (fun hc=>?_) (fun hc=>?_)
   ·simp at hc
    have c1:decide ((r:Int)<97)=false:=by simp;omega
    have c2:decide ((122:Int)<(r:Int))=true:=by simp;omega
    simp only[go_sem,qC,qG,qW,c1,c2];rw[sG,<-hI];rfl
   ·simp only[go_sem,qC,qG,qW,hc,bVz];rw[sG,<-hI];rfl
 ·have:k=s.size:=by omega
  subst this;simp only[go_sem,qC,qG,qW,h6,e6,Nat.lt_irrefl];rw[sG,<-hI,List.drop_eq_nil_of_le (by omega)];rfl
theorem aUy (s:ByteArray):(s.toList==(⟨#[]⟩:ByteArray).toList)=decide (s.size=0):=by
 rw[Go.ByteArray.toList_eq,Go.ByteArray.toList_eq];have:s.size=s.data.toList.length:=by rw[bXb];rfl
 rw[this];cases s.data.toList<;>rfl
theorem aGr (s:ByteArray):PC L 228 [.str s] (.bool (aE7 (kT s))):=by
 refine aL bJn rfl rfl ?_
 simp only[go_sem,qC,qG,qW,aR6,aUy]
 refine aE (fun h=>?_) (fun h=>?_)
 ·have h':1<=s.size:=by
   have: ¬s.size=0:=by intro h0;rw[h0]at h;simp at h
   omega
  have h0:0<(kT s).length:=by rw[nR];omega
  have hix:=fun(k:IntKind)=>aDr (k:=k) h0
  simp only[Int.natCast_zero]at hix;rw[aFf (nR s) h0];simp only[go_sem,qC,qG,qW,h]
  refine aE (fun h1=>?_) (fun h1=>?_)<;>simp only[go_sem,qC,qG,qW,h1,hix]
  refine aE (fun h2=>?_) (fun h2=>?_)<;>simp only[go_sem,qC,qG,qW,h1,h2,hix]
  refine aE (fun h3=>?_) (fun h3=>?_)<;>simp only[go_sem,qC,qG,qW,h1,h2,h3,aFe h',(aGq _).ret,aHp]
  all_goals simp only[bYb,bYc,bVq]at*
  all_goals simp[*]
 ·have:s.size=0:=by
   by_cases h0:s.size=0
   ·exact h0
   ·simp only[h0,decide_false]at h;simp at h
  have e:kT s=[]:=by rw[<-List.length_eq_zero_iff,nR,this]
  simp only[go_sem,qC,qG,qW,h,bVq];rw[e];rfl
theorem aL5 (c:bC):PC L 200 [.agg [.str c.name,.int .i64 c.args]] (.bool (rS c)):=by
 refine aL bI0 rfl rfl ?_
 simp only[go_sem,qC,qG,qW,aRk,(aGr _).ret]
 refine aE (fun h=>?_) (fun h=>?_)<;>simp only[go_sem,qC,qG,qW,h,(jP _ _ _).ret]<;>simp[rS,h]
theorem rL (c:bC):PC L 203 [.agg [.str c.name,.int .i64 c.args]] (.str c.name):=by
 refine aL bI3 rfl rfl ?_
 simp only[go_sem,qC,qG,qW,aRn]
theorem rM (n:Int):PC L 207 [.int .i64 n] (.bool (decide (n=1))):=by
 refine aL bI7 rfl rfl ?_
 simp only[go_sem,qC,qG,qW,aRq]
theorem aJd : ∀q:Pat,q.few-> ∀most:Int,0<=most->most<=1000->PC L 233 [.agg [.int .i64 q.form,.int .i64 q.n,.str q.text,.fz (q.parts.map Pat.enc)],.int .i64 most] (.int .i64 (pU q most)):=by
 refine Pat.ind fun q ih hq most h1 h2=>?_
 obtain⟨hl,_,hps⟩:=Pat.few_parts hq;rw[aXt]
 refine aL bJs rfl rfl ?_
 simp only[go_sem,qC,qG,qW,aSb]
 refine bF q.parts.length (fun k st=> ∃fr en cnt a,st=⟨fr,en,cnt⟩/\ fr 1= .int .i64 most/\ fr 5= .int .i64 a/\ fr 9= .fz (q.parts.map Pat.enc)/\ fr 10= .int .i64 q.parts.length/\ fr 11= .int .i64 k/\ 1<=a/\ a<=most+1/\ jO (q.parts.drop k) most a=jO q.parts most 1) 0 (bVn _) ⟨_,_,_,1,rfl,by simp only[go_sem,qW],by simp only[go_sem,qW],by simp only[go_sem,qW],by simp only[go_sem,qW],by simp only[go_sem,qW],by omega,by omega,rfl⟩ ?_
 rintro k st hk ⟨fr,en,cnt,a,rfl,h1',h5,h9,h10,h11,ha,hb,hI⟩
 simp only[go_sem,qC,qG,qW,h1',h5,h9,h10,h11]
 refine aA (fun hc=>?_) (fun hc=>?_)
 ·have h':k<q.parts.length:=of_decide_eq_true hc;rw[bWc h',jO]at hI;have hm:q.parts[k]∈q.parts:=bVp _;simp only[go_sem,qC,qG,qW,h',h1',h5,h9,h10,h11]
  refine aA (fun hd=>?_) (fun hd=>?_)<;>simp only[bYb,bYc]at hd
  ·simp only[go_sem,qC,qG,qW,h5];rw[if_pos hd]at hI;rw[hI]
  ·rw[if_neg hd]at hI;have e1:IntKind.i64.wrap (most-a)=most-a:=bM (by omega)
   have hz:=aFd q.parts[k] (most-a) (by omega)
   have e2:IntKind.i64.wrap (a+pU q.parts[k] (most-a))=a+pU q.parts[k] (most-a):=bM (by omega)
   simp only[go_sem,qC,qG,qW,h',h1',h5,h9,h10,h11,e1,e2,(ih _ hm (hps _ hm) (most-a) (by omega) (by omega)).ret]
   refine⟨_,_,_,a+pU q.parts[k] (most-a),rfl,?_⟩
   simp only[go_sem,qC,qG,qW,h',h1',h5,h9,h10,h11,aK h' hl];exact⟨by omega,by omega,hI⟩
 ·have:k=q.parts.length:=by simp at hc;omega
  subst this;simp only[go_sem,qC,qG,qW,h5];rw[<-hI];simp[jO]
theorem xY (p:aQ)(hc:Few p.cons.length): ∀q:Pat,q.few->PC L 234 [.agg [.fz (p.nodes.map aJ.enc),.fz (p.funs.map (.int .i64)),.int .i64 p.main,.fz (p.cons.map bC.enc)],.agg [.int .i64 q.form,.int .i64 q.n,.str q.text,.fz (q.parts.map Pat.enc)]] (.bool (rU p.cons q)):=by
 refine Pat.ind fun q ih hq=>?_
 obtain⟨hl,_,hps⟩:=Pat.few_parts hq;have e:=dD hc;have ask:cY L (fun x:Pat=> .agg [.int .i64 x.form,.int .i64 x.n,.str x.text,.fz (x.parts.map Pat.enc)]) (.fn 234 [.agg [.fz (p.nodes.map aJ.enc),.fz (p.funs.map (.int .i64)),.int .i64 p.main,.fz (p.cons.map bC.enc)]] []) (rU p.cons) q.parts:=by
  refine⟨fun n en hn=>?_,rfl,rfl,rfl,fun x hx en K hK=>?_⟩
  ·obtain⟨m,rfl⟩: ∃m,n=m+4:=⟨n-4,by omega⟩
   simp only[go_sem,qW]
  ·simp only[go_sem,qW,(ih x hx (hps x hx)).ret];exact hK
 rw[aLr]
 refine aL bJt rfl rfl ?_
 simp only[go_sem,qC,qG,qW,aSc]
 refine aE (fun h=>?_) (fun h=>?_)
 ·simp only[go_sem,qC,qG,qW,h,bVz,(lR q.parts _ _ hl ask).ret];have ht:aBz q.text=true:=by simp only[aBz];simpa using h
  refine aA (fun h2=>?_) (fun h2=>?_)
  ·simp only[go_sem,qC,qG,qW]
   simp at h2
   simp[h2]
  ·have h3:q.parts.all (rU p.cons)=true:=by simpa using h2
   rw[h3];simp only[go_sem,qC,qG,qW,e]
   repeat' ((first|with_reducible refine aA (fun h=>?_) (fun h=>?_)|with_reducible refine aE (fun h=>?_) (fun h=>?_))<;>(try simp only[bYb,bYc,bVq,bVz]at h)<;>try simp only[go_sem,qC,qG,qW, *,(jP _ _ _).ret,(uW _).ret,aBy])
   all_goals try simp[rT,vZ, *]
   all_goals try(intros;simp_all;done)
 ·simp only[go_sem,qC,qG,qW,h,bVz];have ht:aBz q.text=false:=by simp only[aBz];simpa using h
  simp[rT,ht]
end Go.Proofs.YthpmfghgoabnhaaGreat
namespace Go.Abs
def qU (lo hi:Int):List Int->List Int->Option (List Int)
 |u,[]=>some u
 |u,x::l=>if inR x lo hi then qU lo hi (u.set x.toNat (IntKind.i64.wrap (u.getD x.toNat 0+1))) l else none
def iR (p:aQ):Nat->List Int->List aJ->Option (List Int)
 |_,u,[]=>some u
 |i,u,n::l=>(qU ((i:Int)+1) (p.nodes.length-1) u n.kids).bind fun u=>iR p (i+1) u l
def wD :Option (List Int)->Bool
 |some u=>u.all fun c=>decide (c=1)
 |none=>false
def uB (p:aQ):Bool:=
 decide ((p.nodes.length:Int)<=300)&&decide ((1:Int)<=p.funs.length)&&decide ((p.funs.length:Int)<=p.nodes.length)&&decide ((p.cons.length:Int)<=20)&&inR p.main 0 (p.funs.length-1)&&
  p.cons.all rS&&jY [] (p.cons.map bC.name)&&p.nodes.all (eC p)&&
  wD ((qU 0 (p.nodes.length-1) (List.replicate p.nodes.length 0) p.funs).bind fun u=>iR p 0 u p.nodes)
def pI (hi:Int):List Bool->List (Int×Int)->Option (List Bool)
 |u,[]=>some u
 |u,(lo,x)::l=>if inR x lo hi&&!(u.getD x.toNat false)then pI hi (u.set x.toNat true) l else none
def nV (hi:Int):List Int->List (Int×Int)->Option (List Int)
 |u,[]=>some u
 |u,(lo,x)::l=>if inR x lo hi then nV hi (u.set x.toNat (IntKind.i64.wrap (u.getD x.toNat 0+1))) l else none
def iZ :Nat->List aJ->List (Int×Int)
 |_,[]=>[]
 |i,n::l=>n.kids.map (fun k=>((i:Int)+1,k))++iZ (i+1) l
theorem aJe (lo hi:Int): ∀(l:List Int) (u:List Bool),wB lo hi u l=pI hi u (l.map fun x=>(lo,x))
 |[],u=>rfl
 |x::l,u=>by simp only[wB,bV9,pI];split<;>first|exact aJe lo hi l _|rfl
theorem aJf (lo hi:Int): ∀(l:List Int) (u:List Int),qU lo hi u l=nV hi u (l.map fun x=>(lo,x))
 |[],u=>rfl
 |x::l,u=>by simp only[qU,bV9,nV];split<;>first|exact aJf lo hi l _|rfl
theorem pX (hi:Int): ∀(a b:List (Int×Int)) (u:List Bool),pI hi u (a++b)=(pI hi u a).bind fun u=>pI hi u b
 |[],b,u=>rfl
 |(lo,x)::a,b,u=>by simp only[bXe,pI];split<;>first|exact pX hi a b _|rfl
theorem sI (hi:Int): ∀(a b:List (Int×Int)) (u:List Int),nV hi u (a++b)=(nV hi u a).bind fun u=>nV hi u b
 |[],b,u=>rfl
 |(lo,x)::a,b,u=>by simp only[bXe,nV];split<;>first|exact sI hi a b _|rfl
theorem aAq (p:aQ): ∀(l:List aJ) (i:Nat) (u:List Int),iR p i u l=nV (p.nodes.length-1) u (iZ i l)
 |[],i,u=>rfl
 |n::l,i,u=>by
  simp only[iR,iZ,sI,aJf]
  congr 1;funext u;exact aAq p l (i+1) u
theorem rW (p:aQ): ∀(l:List aJ) (i:Nat) (u:List Bool),jC p i u l=if l.all (eC p)=true then pI (p.nodes.length-1) u (iZ i l)else none
 |[],i,u=>rfl
 |n::l,i,u=>by
  simp only[jC,iZ,pX,aJe,bVf,bVc]
  by_cases h:eC p n=true
  ·simp only[h,if_true,true_and];have ih:=fun u=>rW p l (i+1) u
   by_cases h2:l.all (eC p)=true
   ·simp only[h2,if_true]at ih⊢
    congr 1;funext u;exact ih u
   ·simp only[h2,if_false]at ih⊢;simp only[ih];cases pI (↑p.nodes.length-1) u (List.map (fun k=>(↑i+1,k)) n.kids)<;>rfl
  ·simp only[h,if_false,false_and];rfl
theorem aFj {hi:Int}: ∀(evs:List (Int×Int)) (u:List Int) (i:Nat) (B:Int),i<u.length->2<=u.getD i 0->(∀c∈u,c<=B)->(∀c∈u,0<=c)->B+evs.length<=9223372036854775807->wD (nV hi u evs)=false
 |[],u,i,B,h,h2,hB,h0,hM=>by
  simp only[nV,wD];rw[<-bWi];intro ha;have:=bVo.1 ha u[i] (bVp _);simp only[bVm,bWo h,bV0]at h2
  simp at this;omega
 |(lo,x)::evs,u,i,B,h,h2,hB,h0,hM=>by
  simp only[nV];split
  ·have hx:u.getD x.toNat 0<=B/\ 0<=u.getD x.toNat 0:=by
    rw[bVm];cases hg:u[x.toNat]? with
    |none=>
     have:=hB u[i] (bVp _);have:=h0 u[i] (bVp _)
     simp;omega
    |some c=>have:=List.mem_of_getElem? hg;simp;exact⟨hB c this,h0 c this⟩
   have hw:IntKind.i64.wrap (u.getD x.toNat 0+1)=u.getD x.toNat 0+1:=bM (by simp at hM;omega)
   rw[hw]
   refine aFj evs _ i (B+1) (by simpa using h) ?_ ?_ ?_ (by simp at hM;omega)
   ·rw[bVm,bXm];split
    ·rename_i e;subst e;simp only[h,if_true,bV0];omega
    ·rw[<-bVm];exact h2
   ·intro c hc;rcases bYa hc with hc|rfl
    ·have:=hB c hc;omega
    ·omega
   ·intro c hc;rcases bYa hc with hc|rfl
    ·exact h0 c hc
    ·omega
  ·rfl
theorem aOh {u:List Bool}{x:Nat}(h:x<u.length):(u.map fun b=>if b then(1:Int)else 0).getD x 0=if u.getD x false then 1 else 0:=by
 simp[bVm,h]
theorem aOi {hi:Int}(evs:List (Int×Int)): ∀(u:List Bool),(hi:Int)=u.length-1->(∀e∈evs,0<=e.1)->(evs.length:Int)<=1000000->
  tX (pI hi u evs)=wD (nV hi (u.map fun b=>if b then 1 else 0) evs):=by
 induction evs with
 |nil=>
  intro u _ _ _;simp only[pI,nV,tX,wD,List.all_map]
  congr 1
  funext b
  cases b<;>rfl
 |cons e evs ih=>
  obtain⟨lo,x⟩:=e;intro u hh hlo hM;simp only[pI,nV];have hl:=hlo (lo,x) (by simp)
  simp only at hl
  have hM':(evs.length:Int)+1<=1000000:=by simpa using hM
  by_cases hx:inR x lo hi=true
  ·have hx':=hx;simp only[inR,bYb]at hx';have hlt:x.toNat<u.length:=by omega
   simp only[hx,bVy,if_true];rw[aOh hlt];cases hb:u.getD x.toNat false with
   |true=>
    simp only[bVq,bVd,if_false,if_true,tX]
    symm
    have hw:IntKind.i64.wrap ((1:Int)+1)=2:=by rw[bM (by omega)];rfl
    rw[hw];have hbd: ∀c∈(u.map fun b=>if b then(1:Int)else 0).set x.toNat 2,0<=c/\ c<=2:=by
     intro c hc;rcases bYa hc with hc|rfl
     ·obtain⟨b,_,rfl⟩:=bV4.1 hc;split<;>omega
     ·omega
    exact aFj evs _ x.toNat 2 (by simpa using hlt) (by simp[bVm,hlt]) (fun c hc=>(hbd c hc).2) (fun c hc=>(hbd c hc).1) (by omega)
   |false=>
    simp only[bVz,if_true,bVd,if_false];have hw:IntKind.i64.wrap ((0:Int)+1)=1:=by rw[bM (by omega)];rfl
    rw[hw,ih (u.set x.toNat true) (by simpa using hh) (fun e he=>hlo e (by simp[he])) (by omega),bW0]
    rfl
  ·simp only[bWi]at hx;simp only[hx,bV5,bVd,if_false,tX,wD]
theorem aFk : ∀(l:List aJ) (i:Nat),∀e∈iZ i l,0<=e.1
 |[],i,e,h=>by simp[iZ]at h
 |n::l,i,e,h=>by
  simp only[iZ,bV6,bV4]at h;rcases h with⟨k,_,rfl⟩|h
  ·simp only;omega
  ·exact aFk l (i+1) e h
theorem aC6 : ∀(l:List aJ) (i:Nat),(∀n∈l,n.kids.length<=10)->(iZ i l).length<=10*l.length
 |[],i,_=>by simp[iZ]
 |n::l,i,h=>by
  have:=aC6 l (i+1) fun m hm=>h m (by simp[hm])
  have h2:=h n (by simp)
  simp only[iZ,bV7,bVk,bVu];omega
theorem aL6 (p:aQ)(hs:aT p=true):uB p=fU p:=by
 simp only[aT,bVc,bYb]at hs;obtain⟨⟨⟨⟨h1,h2⟩,h3⟩,h4⟩,h5⟩:=hs;have hk: ∀n∈p.nodes,n.kids.length<=10:=by
  intro n hn;have:=bVo.1 h5 n hn;simp only[fE,bVc,bYb]at this;omega
 have key:p.nodes.all (eC p)=true->tX ((wB 0 (p.nodes.length-1) (List.replicate p.nodes.length false) p.funs).bind fun u=>jC p 0 u p.nodes)=
   wD ((qU 0 (p.nodes.length-1) (List.replicate p.nodes.length 0) p.funs).bind fun u=>iR p 0 u p.nodes):=by
  intro hn;simp only[aJe,aJf,rW,aAq,hn,if_true];rw[<-pX,<-sI];have:=aOi (hi:=(p.nodes.length:Int)-1) (List.map (fun x=>((0:Int),x)) p.funs++iZ 0 p.nodes) (List.replicate p.nodes.length false) (by simp) (fun e he=>by
   rcases bV6.1 he with he|he
   ·obtain⟨x,_,rfl⟩:=bV4.1 he;simp
   ·exact aFk _ _ _ he) (by
   have:=aC6 p.nodes 0 hk
   simp;omega)
  rw[this];simp[List.map_replicate]
 have none_:p.nodes.all (eC p)=false->tX ((wB 0 (p.nodes.length-1) (List.replicate p.nodes.length false) p.funs).bind fun u=>jC p 0 u p.nodes)=false:=by
  intro hn;simp only[rW,hn,bVd,if_false];cases wB 0 (↑p.nodes.length-1) (List.replicate p.nodes.length false) p.funs<;>rfl
 have e1:inR p.funs.length 1 p.nodes.length=(decide ((1:Int)<=p.funs.length)&&decide ((p.funs.length:Int)<=p.nodes.length)):=by simp[inR]
 simp only[uB,fU,tW,e1];cases hn:p.nodes.all (eC p)with
 |true=>rw[key hn];simp only[bW7,Bool.and_assoc];ac_rfl
 |false=>rw[none_ hn];simp
end Go.Abs
namespace Go.Proofs.YthpmfghgoabnhaaGreat
open Go.Abs Go.Proofs
theorem aJg {t:Nat}{v:Val}:cT .eql .iface (.ifc t v) .nili=some (.bool false):=(rfl)
theorem bBd :cT .eql .iface .nili .nili=some (.bool true):=(rfl)
theorem nW (op:Int):PC L 231 [.int .i64 op] (tY op):=by
 refine aL bJq rfl rfl ?_
 simp only[go_sem,qC,qG,qW,aR9]
 repeat' ((first|with_reducible refine aA (fun h=>?_) (fun h=>?_)|with_reducible refine aE (fun h=>?_) (fun h=>?_))<;>(try simp only[bYb,bYc,bVq,bVz]at h)<;>try simp only[go_sem,qC,qG,qW,h])
 all_goals simp[tY, *]
theorem zI (c:Int)(p:aQ)(n:aJ):PC L 322 [.int .i64 c,.agg [.fz (p.nodes.map aJ.enc),.fz (p.funs.map (.int .i64)),.int .i64 p.main,.fz (p.cons.map bC.enc)],.agg [.int .i64 n.op,.int .i64 n.n,.fz (n.kids.map (.int .i64)),.fz (n.pats.map Pat.enc)]] (.bool (decide ((n.kids.length:Int)=c))):=by
 refine aL bKl rfl rfl ?_
 simp only[go_sem,qC,qG,qW,aS4]
theorem wE (p:aQ)(n:aJ)(hn:n.pats.length<=1000):PC L 321 [.agg [],.agg [.fz (p.nodes.map aJ.enc),.fz (p.funs.map (.int .i64)),.int .i64 p.main,.fz (p.cons.map bC.enc)],.agg [.int .i64 n.op,.int .i64 n.n,.fz (n.kids.map (.int .i64)),.fz (n.pats.map Pat.enc)]] (.bool (inR n.pats.length 1 5&&decide ((n.kids.length:Int)=1+n.pats.length))):=by
 have e:IntKind.i64.wrap (1+(n.pats.length:Int))=1+n.pats.length:=bM (by omega)
 refine aL bKk rfl rfl ?_
 simp only[go_sem,qC,qG,qW,aS3,(jP _ _ _).ret]
 refine aE (fun h=>?_) (fun h=>?_)<;>simp only[go_sem,qC,qG,qW,h,e]<;>simp[h]
theorem zJ (p:aQ)(n:aJ)(hc:Few p.cons.length):PC L 323 [.agg [],.agg [.fz (p.nodes.map aJ.enc),.fz (p.funs.map (.int .i64)),.int .i64 p.main,.fz (p.cons.map bC.enc)],.agg [.int .i64 n.op,.int .i64 n.n,.fz (n.kids.map (.int .i64)),.fz (n.pats.map Pat.enc)]] (.bool (inR n.n 0 (p.cons.length-1)&&decide ((n.kids.length:Int)=(p.cons.getD n.n.toNat default).args))):=by
 refine aL bKm rfl rfl ?_
 simp only[go_sem,qC,qG,qW,aS5,(jP _ _ _).ret,dD hc]
 refine aE (fun h=>?_) (fun h=>?_)<;>simp only[go_sem,qC,qG,qW,h,aBy]<;>simp[h]
def aOj (p:aQ)(n:aJ):Bool:=if n.op=14 then true else nE p n
theorem uC (p:aQ)(n:aJ)(hp:p.few):PC L 235 [.agg [.fz (p.nodes.map aJ.enc),.fz (p.funs.map (.int .i64)),.int .i64 p.main,.fz (p.cons.map bC.enc)],.agg [.int .i64 n.op,.int .i64 n.n,.fz (n.kids.map (.int .i64)),.fz (n.pats.map Pat.enc)]] (.bool (aOj p n)):=by
 have e1:IntKind.i64.wrap (0-(p.funs.length:Int))= -(p.funs.length:Int):=by have:=hp.funs;unfold Few at this;rw[bM (by omega)];omega
 refine aL bJu rfl rfl ?_
 simp only[go_sem,qC,qG,qW,aSd]
 repeat' ((first|with_reducible refine aA (fun h=>?_) (fun h=>?_)|with_reducible refine aE (fun h=>?_) (fun h=>?_))<;>(try simp only[bYb,bYc,bVq,bVz]at h)<;>try simp only[go_sem,qC,qG,qW,h,e1,(jP _ _ _).ret,(uW _).ret])
 all_goals simp[aOj,nE, *]
theorem sX (p:aQ)(hc:Few p.cons.length)(q:Pat)(hq:q.few):PC L 232 [.agg [.int .i64 q.form,.int .i64 q.n,.str q.text,.fz (q.parts.map Pat.enc)],.fp p.cells 0] (.bool (lL p.cons q)):=by
 refine aL bJr rfl rfl ?_
 simp only[go_sem,qC,qG,qW,aSa,(aJd q hq 12 (by omega) (by omega)).ret,aXu]
 refine aE (fun h=>?_) (fun h=>?_)<;>simp only[go_sem,qC,qG,qW,h,(xY p hc q hq).ret]<;>simp at h<;>simp[lL,h]
 intros;omega
theorem wF (p:aQ)(n:aJ)(hp:p.few)(hn:n.few)(hm:n.pats.length<=1000):PC L 205 [.agg [.fz (p.nodes.map aJ.enc),.fz (p.funs.map (.int .i64)),.int .i64 p.main,.fz (p.cons.map bC.enc)],.agg [.int .i64 n.op,.int .i64 n.n,.fz (n.kids.map (.int .i64)),.fz (n.pats.map Pat.enc)]] (.bool (eC p n)):=by
 have ask:cY L (fun x:Pat=> .agg [.int .i64 x.form,.int .i64 x.n,.str x.text,.fz (x.parts.map Pat.enc)]) (.fn 232 [] [.fp p.cells 0]) (lL p.cons) n.pats:=by
  refine⟨fun n en hn=>?_,rfl,rfl,rfl,fun x hx en K hK=>?_⟩
  ·obtain⟨m,rfl⟩: ∃m,n=m+4:=⟨n-4,by omega⟩
   simp only[go_sem,qW]
  ·have:=sX p hp.cons x (hn.pat x hx);simp only[go_sem,qW]at this;simp only[go_sem,qW,this.ret];exact hK
 have hev:=lR n.pats _ _ hn.pats ask;simp only[go_sem,qW]at hev;have hnum:=uC p n hp
 refine aL bI5 rfl rfl ?_
 rcases aGm n.op with⟨c,hk,hko,h14,h15⟩|⟨h14,hk⟩|⟨h15,hk⟩|⟨hk,hko,h14,h15⟩
 ·simp only[go_sem,qC,qG,qW,aE5,(nW _).ret,hk,aJg]
  refine aA (fun h=>?_) (fun h=>?_)
  ·simp only[go_sem,qC,qG,qW]
   simp at h
   simp[eC,jN,h15];intros;simp_all
  ·simp only[go_sem,qC,qG,qW,(zI c p n).ret]
   simp at h
   refine aE (fun h2=>?_) (fun h2=>?_)
   ·simp only[go_sem,qC,qG,qW,h2,hnum.ret]
    refine aE (fun h3=>?_) (fun h3=>?_)
    ·simp only[go_sem,qC,qG,qW,h3,hev.ret];simp[aOj,h14]at h2 h3;simp[eC,jN,h15,h,hko,h2,h3]
    ·simp only[go_sem,qC,qG,qW,h3];simp[aOj,h14]at h3;simp[eC,h3]
   ·simp only[go_sem,qC,qG,qW,h2]
    simp at h2
    simp[eC,hko,h2]
 ·simp only[go_sem,qC,qG,qW,aE5,(nW _).ret,hk,aJg]
  refine aA (fun h=>?_) (fun h=>?_)
  ·simp only[go_sem,qC,qG,qW]
   simp at h
   simp[eC,jN,h14];intros;simp_all
  ·simp only[go_sem,qC,qG,qW,(zJ p n hp.cons).ret]
   simp at h
   refine aE (fun h2=>?_) (fun h2=>?_)
   ·simp only[go_sem,qC,qG,qW,h2,hnum.ret]
    refine aE (fun h3=>?_) (fun h3=>?_)
    ·simp only[go_sem,qC,qG,qW,h3,hev.ret]
     simp at h2
     simp[eC,jN,nE,fR,oP,h14,h,h2]
    ·simp only[go_sem,qC,qG,qW,h3];simp[aOj,h14]at h3
   ·simp only[go_sem,qC,qG,qW,h2]
    simp at h2
    simp[eC,jN,nE,fR,oP,h14,h];intros;simp_all
 ·simp only[go_sem,qC,qG,qW,aE5,(nW _).ret,hk,aJg];simp only[go_sem,qC,qG,qW,(wE p n hm).ret]
  refine aE (fun h2=>?_) (fun h2=>?_)
  ·simp only[go_sem,qC,qG,qW,h2,hnum.ret]
   refine aE (fun h3=>?_) (fun h3=>?_)
   ·simp only[go_sem,qC,qG,qW,h3,hev.ret];simp[aOj,h15]at h2 h3;simp[eC,jN,fR,h15,h2,h3]
   ·simp only[go_sem,qC,qG,qW,h3];simp[aOj,h15]at h3;simp[eC,h3]
  ·simp only[go_sem,qC,qG,qW,h2]
   simp at h2
   simp[eC,jN,fR,h15];intros;simp_all
 ·simp only[go_sem,qC,qG,qW,aE5,(nW _).ret,hk,bBd];simp[eC,hko]
end Go.Proofs.YthpmfghgoabnhaaGreat
