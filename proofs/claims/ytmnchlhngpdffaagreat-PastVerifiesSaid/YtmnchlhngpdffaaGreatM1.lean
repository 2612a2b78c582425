/- Contracts of functions of the program and of the document: part 1. -/
import Derived.Test.YtmnchlhngpdffaaGreatHxD
import Derived.Test.YtmnchlhngpdffaaGreatCo
import Derived.Laws.Strings
import Derived.Test.YtmnchlhngpdffaaGreatHxE
import Derived.Test.YtmnchlhngpdffaaGreatRows
set_option linter.all false
open Array renaming getElem_toList → bQ0, length_toList → bQc
open Bool renaming and_eq_true → bN8, and_true → bQa, false_and → bOx, false_eq_true → bOa, false_or → bO6, not_eq_true → bPf, not_eq_true' → bPg, not_false → bOs, not_not → bQq, not_true → bOn, true_and → bO3
open Int renaming eq_ofNat_of_zero_le → bQd, natCast_nonneg → bQo, toNat_natCast → bPc
open List renaming all_cons → bQg, all_eq_true → bOe, cons_append → bQj, countP_le_length → bRh, drop_eq_getElem_cons → bO9, drop_length → bP1, drop_zero → bQf, foldl_cons → bQv, foldl_nil → bQl, getD_eq_getElem?_getD → bOd, getElem?_eq_getElem → bPh, getElem?_set → bQu, getElem_mem → bOg, length_append → bOr, length_cons → bOh, length_drop → bQk, length_eq_zero_iff → bRn, length_map → bOc, length_nil → bOo, map_append → bPn, map_cons → bO4, map_set → bQi, map_take → bP0, mem_append → bO2, mem_cons → bO8, mem_map → bO5, mem_or_eq_of_mem_set → bRr, not_all_eq_any_not → bQp, take_length → bPt, take_of_length_le → bOt
open Nat renaming add_zero → bPo, le_refl → bN9, le_trans → bOk, zero_le → bOf
open Option renaming bind_some → bQz, getD_some → bOz
namespace Go.Abs
theorem dN {n:Nat}(h:Few n):IntKind.i64.wrap ((n:Int)-1)=(n:Int)-1:=by unfold Few at h;exact aY (by omega)
theorem aI1 {α:Type}{l:List α}(h:Few l.length)(k:Nat):Few (l.take k).length:=by unfold Few at*;simp;omega
def aA.few (f:aA):Prop:=Few f.env.length/\ Few f.vals.length
def aR.few (o:aR):Prop:=Few o.vals.length/\ Few o.frames.length/\ ∀f∈o.frames,f.few
structure aB.few (w:aB):Prop where
 objs:Few w.objs.length
 tasks:Few w.tasks.length
 outs:Few w.outs.length
 ins:Few w.ins.length
 obj: ∀o∈w.objs,o.few
inductive Pat.few :Pat->Prop
 |mk (f n:Int) (t:ByteArray) (l:List Pat) (h:Few l.length) (ht:Few t.size) (k: ∀p∈l,Pat.few p):Pat.few (.mk f n t l)
structure aL.few (n:aL):Prop where
 kids:Few n.kids.length
 pats:Few n.pats.length
 pat: ∀q∈n.pats,q.few
structure aI.few (p:aI):Prop where
 nodes:Few p.nodes.length
 funs:Few p.funs.length
 cons:Few p.cons.length
 node: ∀n∈p.nodes,n.few
 con: ∀c∈p.cons,Few c.name.size
def inR (n lo hi:Int):Bool:=decide (lo<=n/\ n<=hi)
def aL.asks (n:aL):Int:=
 if n.op=6 \/n.op=9 \/n.op=10 \/n.op=11 \/n.op=12 \/n.op=13 \/n.op=18 \/n.op=22 then 2
 else if n.op=14 then n.kids.length
 else if n.op=7 \/n.op=8 \/n.op=15 \/n.op=16 \/n.op=17 \/n.op=19 \/n.op=20 \/n.op=23 \/n.op=24 \/n.op=26 then 1 else 0
def aI.node (p:aI)(i:Int):aL:=p.nodes.getD i.toNat default
def dD (p:aI)(w:aB)(v:aE):Bool:=
 if v.kind=1 then inR v.n (-1000000000) 1000000000
 else if v.kind=2 then inR v.n 0 1
 else if v.kind=3 then decide (v.n=0)
 else if v.kind=4 then inR v.n 0 (p.funs.length-1)
 else if v.kind=5 then inR v.n 0 (w.objs.length-1)else false
def bE (p:aI)(w:aB)(l:List aE)(most:Int):Bool:=decide ((l.length:Int)<=most)&&l.all (dD p w)
def dA (p:aI)(w:aB)(f:aA):Bool:=
 inR f.node 0 (p.nodes.length-1)&&bE p w f.env 30&&bE p w f.vals (p.node f.node).asks
def bV (p:aI)(w:aB)(l:List aA):Bool:=decide ((l.length:Int)<=40)&&l.all (dA p w)
def eV (p:aI)(f:aA):Bool:=decide ((f.vals.length:Int)<(p.node f.node).asks)
def jU (p:aI)(w:aB)(o:aR):Bool:=
 if o.n=0 then bV p w o.frames&&bE p w o.vals 1&&decide ((0:Int)<o.frames.length+o.vals.length)&&(o.frames.take (o.frames.length+o.vals.length-1)).all (eV p)
 else if o.n=1 then decide ((o.frames.length:Int)=0)&&decide ((o.vals.length:Int)=1)&&bE p w o.vals 1
 else if o.n=2 \/o.n=3 \/o.n=4 then decide ((o.frames.length:Int)=0)&&decide ((o.vals.length:Int)=0)else false
def dK (p:aI)(w:aB)(o:aR):Bool:=
 if o.form=6 then jU p w o
 else if o.form=5 then decide (o.n=0)&&decide ((o.vals.length:Int)=0)&&decide ((0:Int)<o.frames.length)&&bV p w o.frames&&o.frames.all (eV p)&&decide ((p.node (o.frames.headD default).node).op=26)
 else if¬(o.frames.length:Int)=0 then false
 else if o.form=1 then inR o.n 0 (p.cons.length-1)&&decide ((o.vals.length:Int)=(p.cons.getD o.n.toNat default).args)&&bE p w o.vals 3
 else if o.form=2 then inR o.n 0 (p.nodes.length-1)&&decide ((p.node o.n).op=5)&&bE p w o.vals 30
 else if o.form=3 then decide (o.n=0)&&decide ((o.vals.length:Int)=1)&&bE p w o.vals 1
 else if o.form=4 then decide (o.n=0)&&bE p w o.vals 4 else false
def cN (o:aR):Bool:=decide (o.form=6)
def aB.obj (w:aB)(i:Int):aR:=w.objs.getD i.toNat default
def bM (w:aB):List Int->List Int->Bool
 |_,[]=>true
 |met,k::l=>inR k 0 (w.objs.length-1)&&cN (w.obj k)&&!met.any (fun x=>decide (x=k))&&bM w (met++[k]) l
def jL (w:aB):Bool:=decide (w.tasks.length=w.objs.countP cN)&&bM w [] w.tasks
def mH (l:List Int)(most:Int):Bool:=decide ((l.length:Int)<=most)&&l.all fun n=>inR n (-1000000000) 1000000000
def uN (o:bJ):Bool:=inR o.port 0 3&&inR o.n (-1000000000) 1000000000
def dO (p:aI)(w:aB):Bool:=
 decide ((w.objs.length:Int)<=120)&&decide ((w.outs.length:Int)<=100)&&mH w.ins 50&&inR w.used 0 1000000000&&jL w&&w.objs.all (dK p w)&&w.outs.all uN
def gJ (o:aR):Bool:=decide ((o.vals.length:Int)<=40)&&decide ((o.frames.length:Int)<=50)&&o.frames.all fun f=>decide ((f.env.length:Int)<=40)&&decide ((f.vals.length:Int)<=40)
def cR (w:aB):Bool:=
 decide ((w.objs.length:Int)<=130)&&decide ((w.tasks.length:Int)<=130)&&decide ((w.outs.length:Int)<=110)&&decide ((w.ins.length:Int)<=60)&&w.objs.all gJ
variable {α:Type}
theorem aSt {l:List α}{k:Nat}(h:k<l.length)(p:α->Bool):(l.take (k+1)).countP p=(l.take k).countP p+(if p l[k]then 1 else 0):=by
 rw[<-List.take_append_getElem h,List.countP_append];simp[List.countP_cons]
theorem iP {α:Type}{l:List α}{k:Nat}(h:k<l.length):l.take (k+1)=l.take k++[l[k]]:=by
 rw[List.take_append_getElem h]
variable {k:IntKind}{en:En}{i:Int}
theorem aBp {f:α->Val}{size:Nat}{l:List α}(d:α)(h:inR i 0 ((l.length:Int)-1)=true)(hs: ∀x,(f x).cells.length=size):
  oP size en (.fz (l.map f)) (.int k i)=some {v:= .fp (f (l.getD i.toNat d)).cells 0}:=by
 simp only[inR,bRt]at h;obtain⟨j,rfl⟩:=bQd h.1;have hj:j<l.length:=by omega
 rw[aSo (f:=f) hj (by simp[hs])]
 simp[bOd,hj]
theorem bI {p:aI}(h:inR i 0 ((p.nodes.length:Int)-1)=true):
  oP 4 en (.fz (p.nodes.map aL.enc)) (.int k i)=some {v:= .fp (aL.enc (p.node i)).cells 0}:=aBp default h fun x=>rfl
theorem aLu {l:List aA}(h:0<l.length):oP 3 en (.fz (l.map aA.enc)) (.int k 0)=some {v:= .fp (aA.enc (l.headD default)).cells 0}:=by
 have:=aBp (f:=aA.enc) (size:=3) (k:=k) (i:=0) (en:=en) default (l:=l) (by simp[inR];omega) (fun _=>rfl)
 rw[this];cases l<;>simp at h⊢
theorem aE9 {l:List cD}(h:inR i 0 ((l.length:Int)-1)=true):
  oP 2 en (.fz (l.map cD.enc)) (.int k i)=some {v:= .fp (cD.enc (l.getD i.toNat default)).cells 0}:=aBp default h fun x=>rfl
theorem xL {w:aB}(h:inR i 0 ((w.objs.length:Int)-1)=true):
  oP 4 en (.fz (w.objs.map aR.enc)) (.int k i)=some {v:= .fp (aR.enc (w.obj i)).cells 0}:=aBp default h fun x=>rfl
theorem vD {l:List Int}(h:inR i 0 ((l.length:Int)-1)=true):
  oP 1 en (.fz (l.map (.int .i64))) (.int k i)=some {v:= .fp [.int .i64 (l.getD i.toNat 0)] 0}:=aBp 0 h fun x=>rfl
def aIt.few (s:aIt):Prop:=s.world.few/\ Few s.ages.length/\ Few s.marks.length
end Go.Abs
namespace Go.Proofs.YtmnchlhngpdffaaGreat
open Go.Abs Go.Proofs
set_option maxRecDepth 100000
set_option maxHeartbeats 4000000
theorem mY (n lo hi:Int):PC L 101 [.i n,.i lo,.i hi] (.bool (inR n lo hi)):=by
 have hL:=at_ Tryz.func101
 conv at hL=>rhs;reduce
 refine aH hL rfl rfl ?_
 simp only[go_sem,qW]
 refine bB (fun h=>?_) (fun h=>?_)<;>simp only[go_sem,h]<;>simp at h<;>simp[h,inR]
 omega
theorem aKu (l:List Int)(n:Int)(hl:Few l.length):PC L 140 [.is l,.i n] (.bool (l.any fun x=>decide (x=n))):=by
 have hL:=at_ Tryz.func140
 conv at hL=>rhs;reduce
 refine aH hL rfl rfl ?_
 simp only[go_sem,qW]
 refine bH l.length (fun k st=> ∃fr en cnt,st=⟨fr,en,cnt⟩/\ fr 0= .is l/\ fr 1= .i n/\ fr 5= .i k/\ (l.drop k).any (fun x=>decide (x=n))=l.any fun x=>decide (x=n)) 0 (bOf _) ⟨_,_,_,rfl,by simp only[go_sem],by simp only[go_sem],by simp only[go_sem],rfl⟩ ?_
 rintro k st hk ⟨fr,en,cnt,rfl,h0,h1,h5,hI⟩
 simp only[go_sem,qW,h0,h5]
 refine aX (fun h=>?_) (fun h=>?_)
 ·have h':k<l.length:=of_decide_eq_true h;rw[aPs h']at hI;simp only[go_sem,qW,h',h1,h5]
  refine aX (fun h2=>?_) (fun h2=>?_)
  ·rw[<-hI,h2];rfl
  ·refine⟨_,_,_,rfl,?_⟩
   simp only[go_sem,h0,h1,aQ h' hl];rw[<-hI,h2];simp
 ·have:k=l.length:=by simp at h;omega
  subst this;rw[<-hI];simp
theorem uO (n:aL):PC L 129 [.agg [.i n.op,.i n.n,.fz (n.kids.map (.int .i64)),.fz (n.pats.map Pat.enc)]] (.i n.asks):=by
 have hL:=at_ Tryz.func129
 conv at hL=>rhs;reduce
 refine aH hL rfl rfl ?_
 simp only[go_sem,qW]
 repeat' ((first|with_reducible refine aX (fun h=>?_) (fun h=>?_)|with_reducible refine bB (fun h=>?_) (fun h=>?_))<;>(try simp only[bRt,bRu]at h)<;>try simp only[go_sem,h])
 all_goals simp[aL.asks, *]
theorem aNg (p:aI)(w:aB)(v:aE)(hp:p.few)(hw:w.few):PC L 193 [.agg p.cs,.agg w.cs,.agg [.i v.kind,.i v.n]] (.bool (dD p w v)):=by
 have hL:=at_ Tryz.func193
 conv at hL=>rhs;reduce
 refine aH hL rfl rfl ?_
 simp only[go_sem,qW,(mY _ _ _).ret,dN hp.funs,dN hw.objs]
 repeat' ((first|with_reducible refine aX (fun h=>?_) (fun h=>?_)|with_reducible refine bB (fun h=>?_) (fun h=>?_))<;>(try simp only[bRt,bRu]at h)<;>try simp only[go_sem,qW,h,(mY _ _ _).ret,dN hp.funs,dN hw.objs])
 all_goals simp[dD, *]
theorem nL (p:aI)(w:aB)(l:List aE)(m:Int)(hp:p.few)(hw:w.few)(hl:Few l.length):
  PC L 144 [.agg p.cs,.agg w.cs,.fz (l.map aE.enc),.i m] (.bool (bE p w l m)):=by
 have hL:=at_ Tryz.func144
 conv at hL=>rhs;reduce
 refine aH hL rfl rfl ?_
 simp only[go_sem,qW]
 refine bH (l.length) (fun k st=> ∃fr en cnt,st=⟨fr,en,cnt⟩/\ (fr 2= .fz (l.map aE.enc))/\ (fr 3= .i m)/\ (fr 4= .ptr ⟨0,4,0⟩ 0)/\ (en ⟨0,4,0⟩=some (.box p.cells false))/\ (fr 5= .ptr ⟨0,5,0⟩ 0)/\ (en ⟨0,5,0⟩=some (.box w.cells false))/\ (fr 9= .i k)/\ ((l.drop k).all (dD p w)=l.all (dD p w))) 0 (bOf _) ⟨_,_,_,rfl,(by first|(simp only[go_sem];(try rfl);done)|rfl|simp),(by first|(simp only[go_sem];(try rfl);done)|rfl|simp),(by first|(simp only[go_sem];(try rfl);done)|rfl|simp),(by first|(simp only[go_sem];(try rfl);done)|rfl|simp),(by first|(simp only[go_sem];(try rfl);done)|rfl|simp),(by first|(simp only[go_sem];(try rfl);done)|rfl|simp),(by first|(simp only[go_sem];(try rfl);done)|rfl|simp),(by first|(simp only[go_sem];(try rfl);done)|rfl|simp)⟩ ?_
 rintro k st hk ⟨fr,en,cnt,rfl,h2,h3,h4,e4,h5,e5,h9,hI⟩
 simp only[go_sem,qW,h2,h3,h4,e4,h5,e5,h9]
 refine bB (fun h=>?_) (fun h=>?_)
 ·have h':k<l.length:=of_decide_eq_true h;rw[fJ h']at hI;simp only[go_sem,h']
  refine aX (fun hm=>?_) (fun hm=>?_)
  ·simp only[go_sem,qW,h9,(aNg p w _ hp hw).ret]
   refine aX (fun hb=>?_) (fun hb=>?_)
   ·simp at hb
    simp[bE,<-hI,hb]
   ·simp at hb
    refine⟨_,_,_,rfl,?_⟩
    simp only[go_sem,h2,h3,h4,e4,h5,e5,aQ h' hl];rw[<-hI,hb];simp
  ·simp at hm
   try simp only[go_sem,qW,h2,h3,h4,e4,h5,e5,h9]
   simp[bE];omega
 ·have:k=l.length:=by simp at h;omega
  subst this
  try simp only[go_sem,h,h2,h3]
  simp at hI
  simp[bE];exact fun _=>hI
theorem aBq (p:aI)(w:aB)(l:List aA)(hp:p.few)(hw:w.few)(hl:Few l.length)(hf: ∀f∈l,f.few):
  PC L 142 [.agg p.cs,.agg w.cs,.fz (l.map aA.enc)] (.bool (bV p w l)):=by
 have hL:=at_ Tryz.func142
 conv at hL=>rhs;reduce
 refine aH hL rfl rfl ?_
 simp only[go_sem,qW]
 refine bH (l.length) (fun k st=> ∃fr en cnt,st=⟨fr,en,cnt⟩/\ (fr 2= .fz (l.map aA.enc))/\ (fr 3= .ptr ⟨0,3,0⟩ 0)/\ (en ⟨0,3,0⟩=some (.box p.cells false))/\ (fr 4= .ptr ⟨0,4,0⟩ 0)/\ (en ⟨0,4,0⟩=some (.box w.cells false))/\ (fr 7= .i k)/\ ((l.drop k).all (dA p w)=l.all (dA p w))) 0 (bOf _) ⟨_,_,_,rfl,(by first|(simp only[go_sem];(try rfl);done)|rfl|simp),(by first|(simp only[go_sem];(try rfl);done)|rfl|simp),(by first|(simp only[go_sem];(try rfl);done)|rfl|simp),(by first|(simp only[go_sem];(try rfl);done)|rfl|simp),(by first|(simp only[go_sem];(try rfl);done)|rfl|simp),(by first|(simp only[go_sem];(try rfl);done)|rfl|simp),(by first|(simp only[go_sem];(try rfl);done)|rfl|simp)⟩ ?_
 rintro k st hk ⟨fr,en,cnt,rfl,h2,h3,e3,h4,e4,h7,hI⟩
 simp only[go_sem,qW,h2,h7]
 refine bB (fun h=>?_) (fun h=>?_)
 ·have h':k<l.length:=of_decide_eq_true h;rw[fJ h']at hI;have hx:=hf l[k] (bOg _);simp only[go_sem,h']
  refine aX (fun hm=>?_) (fun hm=>?_)
  ·refine zK ?_ ?_
   ·decide
   simp only[go_sem,h3,e3,h4,e4,(mY _ _ _).ret,dN hp.nodes]
   refine bB (fun hb=>?_) (fun hb=>?_)
   ·have hb':inR l[k].node 0 (p.nodes.length-1)=true:=by simpa using hb
    simp only[go_sem,hb',h3,e3,h4,e4,(nL p w _ _ hp hw hx.1).ret]
    refine bB (fun hc=>?_) (fun hc=>?_)
    ·have hc':bE p w l[k].env 30=true:=by simpa using hc
     simp only[go_sem,qW,hc',hb',h7,bI,(uO _).ret,(nL p w _ _ hp hw hx.2).ret]
     refine aX (fun hd=>?_) (fun hd=>?_)
     ·simp at hd
      simp[bV,<-hI,dA,hb',hc',hd]
     ·simp at hd
      refine⟨_,_,_,rfl,?_⟩
      simp only[go_sem,h2,h3,e3,h4,e4,aQ h' hl];rw[<-hI];simp[dA,hb',hc',hd]
    ·simp only[go_sem,qW,hc]
     simp at hc
     simp[bV,<-hI,dA,hc]
   ·simp only[go_sem,qW,hb]
    simp at hb
    simp[bV,<-hI,dA,hb]
  ·simp at hm
   try simp only[go_sem,qW,h2,h3,e3,h4,e4,h7]
   simp[bV];omega
 ·have:k=l.length:=by simp at h;omega
  subst this
  try simp only[go_sem,h,h2]
  simp at hI
  simp[bV];exact fun _=>hI
theorem aGe (p:aI)(l:List aA)(n:Nat)(hp:p.few)(hl:Few l.length)(hn:n<=l.length)(hf: ∀f∈l,inR f.node 0 (p.nodes.length-1)=true):
  PC L 143 [.agg p.cs,.fz (l.map aA.enc),.i n] (.bool ((l.take n).all (eV p))):=by
 have hL:=at_ Tryz.func143
 conv at hL=>rhs;reduce
 refine aH hL rfl rfl ?_
 simp only[go_sem,qW]
 refine bH (n) (fun k st=> ∃fr en cnt,st=⟨fr,en,cnt⟩/\ (fr 1= .fz (l.map aA.enc))/\ (fr 2= .i n)/\ (fr 3= .ptr ⟨0,3,0⟩ 0)/\ (en ⟨0,3,0⟩=some (.box p.cells false))/\ (fr 7= .i k)/\ (((l.take n).drop k).all (eV p)=(l.take n).all (eV p))) 0 (bOf _) ⟨_,_,_,rfl,(by first|(simp only[go_sem];(try rfl);done)|rfl|simp),(by first|(simp only[go_sem];(try rfl);done)|rfl|simp),(by first|(simp only[go_sem];(try rfl);done)|rfl|simp),(by first|(simp only[go_sem];(try rfl);done)|rfl|simp),(by first|(simp only[go_sem];(try rfl);done)|rfl|simp),(by first|(simp only[go_sem];(try rfl);done)|rfl|simp)⟩ ?_
 rintro k st hk ⟨fr,en,cnt,rfl,h1,h2,h3,e3,h7,hI⟩
 simp only[go_sem,qW,h2,h7]
 refine aX (fun h=>?_) (fun h=>?_)
 ·have h'':k<n:=by simp at h;omega
  have h':k<l.length:=by omega
  rw[fJ (by simp;omega)]at hI
  have hx:=hf l[k] (bOg _)
  try simp only[go_sem,qW,h1,h2,h3,e3,h7]
  refine zK ?_ ?_
  ·decide
  simp only[go_sem,qW,h1,h3,e3,h7,h',h'',hx,bI,(uO _).ret];have he:(l.take n)[k]'(by simp;omega)=l[k]:=by simp
  rw[he]at hI
  refine aX (fun hb=>?_) (fun hb=>?_)
  ·simp at hb
   have:eV p l[k]=false:=by simp[eV,hb]
   rw[<-hI,this];rfl
  ·simp at hb
   have:eV p l[k]=true:=by simp[eV,hb]
   refine⟨_,_,_,rfl,?_⟩
   simp only[go_sem,h1,h2,h3,e3,aQ h' hl];rw[<-hI,this];simp
 ·have:k=n:=by simp at h;omega
  subst this
  try simp only[go_sem,qW]
  rw[<-hI];simp
variable {w:aB}{p:aI}
theorem aNh {l:List aE}{m:Int}(h:bE p w l m=true):(l.length:Int)<=m:=by
 simp[bE]at h;exact h.1
variable {l:List aA}
theorem aDq (h:bV p w l=true):(l.length:Int)<=40:=by
 simp[bV]at h;omega
theorem nM (h:bV p w l=true): ∀f∈l,inR f.node 0 (p.nodes.length-1)=true:=by
 simp[bV]at h;intro f hf;have:=h.2 f hf;simp[dA]at this;exact this.1.1
theorem aP5 (p:aI)(w:aB)(o:aR)(hp:p.few)(hw:w.few)(ho:o.few):PC L 141 [.agg p.cs,.agg w.cs,.agg [.i o.form,.i o.n,.fz (o.vals.map aE.enc),.fz (o.frames.map aA.enc)]] (.bool (jU p w o)):=by
 have hL:=at_ Tryz.func141
 conv at hL=>rhs;reduce
 refine aH hL rfl rfl ?_
 simp only[go_sem,qW]
 refine aX (fun h=>?_) (fun h=>?_)<;>simp only[bRt,bRu]at h
 ·simp only[go_sem,(aBq p w _ hp hw ho.2.1 ho.2.2).ret]
  refine bB (fun h1=>?_) (fun h1=>?_)
  ·simp only[go_sem,h1,(nL p w _ _ hp hw ho.1).ret]
   refine bB (fun h2=>?_) (fun h2=>?_)
   ·have k1:=aDq h1;have k2:=aNh h2;have e1:IntKind.i64.wrap ((o.frames.length:Int)+o.vals.length)=(o.frames.length:Int)+o.vals.length:=aY (by omega)
    simp only[go_sem,h2,e1]
    refine bB (fun h3=>?_) (fun h3=>?_)
    ·simp at h3
     have e2:IntKind.i64.wrap ((o.frames.length:Int)-1)=(o.frames.length:Int)-1:=aY (by omega)
     have e3:IntKind.i64.wrap ((o.frames.length:Int)-1+o.vals.length)=((o.frames.length+o.vals.length-1:Nat):Int):=by rw[aY (by omega)];omega
     have e4:min (o.frames.length:Int) (max 0 ((o.frames.length+o.vals.length-1:Nat):Int))=((o.frames.length+o.vals.length-1:Nat):Int):=by omega
     simp only[go_sem,h3,e2,e3,e4,(aGe p o.frames (o.frames.length+o.vals.length-1) hp ho.2.1 (by omega) (nM h1)).ret]
     simp[jU,h,h1,h2,h3]
    ·simp only[go_sem,h3]
     simp at h3
     simp[jU,h,h1,h2];omega
   ·simp only[go_sem,h2]
    simp at h2
    simp[jU,h,h1,h2]
  ·simp only[go_sem,h1]
   simp at h1
   simp[jU,h,h1]
 ·repeat' ((first|with_reducible refine aX (fun h=>?_) (fun h=>?_)|with_reducible refine bB (fun h=>?_) (fun h=>?_))<;>(try simp only[bRt,bRu,bOn]at h)<;>try simp only[go_sem,h,(nL p w _ _ hp hw ho.1).ret])
  all_goals simp[jU, *]
  all_goals (intros;simp_all)
theorem aKv (p:aI)(w:aB)(o:aR)(hp:p.few)(hw:w.few)(ho:o.few):PC L 103 [.agg p.cs,.agg w.cs,.agg [.i o.form,.i o.n,.fz (o.vals.map aE.enc),.fz (o.frames.map aA.enc)]] (.bool (dK p w o)):=by
 have hL:=at_ Tryz.func103
 conv at hL=>rhs;reduce
 refine aH hL rfl rfl ?_
 simp only[go_sem,qW]
 refine aX (fun h=>?_) (fun h=>?_)<;>simp only[bRt,bRu]at h
 ·simp only[go_sem,(aP5 p w o hp hw ho).ret];simp[dK,h]
 ·refine aX (fun h5=>?_) (fun h5=>?_)<;>simp only[bRt,bRu]at h5
  ·try simp only[go_sem,qW]
   refine bB (fun h1=>?_) (fun h1=>?_)
   ·simp only[go_sem,h1]
    refine bB (fun h2=>?_) (fun h2=>?_)
    ·simp only[go_sem,h2]
     refine bB (fun h3=>?_) (fun h3=>?_)
     ·simp only[go_sem,h3,(aBq p w _ hp hw ho.2.1 ho.2.2).ret]
      refine bB (fun h4=>?_) (fun h4=>?_)
      ·simp only[go_sem,h4,(aGe p o.frames o.frames.length hp ho.2.1 (bN9 _) (nM h4)).ret]
       refine bB (fun h6=>?_) (fun h6=>?_)
       ·have hpos:0<o.frames.length:=by have:=of_decide_eq_true h3;omega
        have hn:inR (o.frames.headD default).node 0 (p.nodes.length-1)=true:=nM h4 _ (by cases hh:o.frames with|nil=>simp[hh]at hpos|cons a l=>simp)
        simp only[go_sem,h6,aLu hpos,hn,bI]
        simp at h6 h1 h2
        simp[dK,h5,h1,h2,h4]
        first|(intros;simp_all;done)|trace_state
       ·simp only[go_sem,h6]
        simp at h6 h1 h2
        simp[dK,h5,h1,h2,h4];obtain⟨x,hx,hx2⟩:=h6;intro _ hh;rw[hh x hx]at hx2;cases hx2
      ·simp only[go_sem,h4]
       simp at h4
       simp[dK,h5,h4]
     ·simp only[go_sem,h3]
      simp at h3
      simp[dK,h5,h3]
    ·simp only[go_sem,h2]
     simp at h2
     simp[dK,h5,h2]
   ·simp only[go_sem,h1]
    simp at h1
    simp[dK,h5,h1]
  ·try simp only[go_sem,qW]
   refine aX (fun h7=>?_) (fun h7=>?_)
   ·simp at h7
    simp[dK,h,h5,h7]
   ·have h7':(o.frames.length:Int)=0:=by simp at h7;simp[h7]
    try simp only[go_sem,qW]
    repeat' ((first|with_reducible refine aX (fun h=>?_) (fun h=>?_)|with_reducible refine bB (fun h=>?_) (fun h=>?_))<;>(try simp only[bRt,bRu,bOn]at h)<;>try simp only[go_sem, *,(mY _ _ _).ret,(nL p w _ _ hp hw ho.1).ret,dN hp.nodes,dN hp.cons,bI,aE9])
    all_goals simp[dK, *]
    all_goals (intros;simp_all)
theorem aP6 (l:List Int)(m:Int)(hl:Few l.length):PC L 100 [.is l,.i m] (.bool (mH l m)):=by
 have hL:=at_ Tryz.func100
 conv at hL=>rhs;reduce
 refine aH hL rfl rfl ?_
 simp only[go_sem,qW]
 refine bH (l.length) (fun k st=> ∃fr en cnt,st=⟨fr,en,cnt⟩/\ (fr 0= .is l)/\ (fr 1= .i m)/\ (fr 5= .i k)/\ ((l.drop k).all (fun n=>inR n (-1000000000) 1000000000)=l.all fun n=>inR n (-1000000000) 1000000000)) 0 (bOf _) ⟨_,_,_,rfl,(by first|(simp only[go_sem];(try rfl);done)|rfl|simp),(by first|(simp only[go_sem];(try rfl);done)|rfl|simp),(by first|(simp only[go_sem];(try rfl);done)|rfl|simp),(by first|(simp only[go_sem];(try rfl);done)|rfl|simp)⟩ ?_
 rintro k st hk ⟨fr,en,cnt,rfl,h0,h1,h5,hI⟩
 simp only[go_sem,qW,h0,h1,h5]
 refine bB (fun h=>?_) (fun h=>?_)
 ·have h':k<l.length:=of_decide_eq_true h;rw[fJ h']at hI;simp only[go_sem,h']
  refine aX (fun hm=>?_) (fun hm=>?_)
  ·simp only[go_sem,qW,h5,(mY _ _ _).ret]
   refine aX (fun hb=>?_) (fun hb=>?_)
   ·simp at hb
    simp[mH,<-hI,hb]
   ·simp at hb
    refine⟨_,_,_,rfl,?_⟩
    simp only[go_sem,h0,h1,aQ h' hl];rw[<-hI,hb];simp
  ·simp at hm
   try simp only[go_sem,qW,h0,h1,h5]
   simp[mH];omega
 ·have:k=l.length:=by simp at h;omega
  subst this
  try simp only[go_sem,h,h0,h1]
  simp at hI
  simp[mH];exact fun _=>hI
theorem aNi (w:aB)(hw:w.few):PC L 102 [.agg w.cs] (.bool (jL w)):=by
 have hL:=at_ Tryz.func102
 conv at hL=>rhs;reduce
 refine aH hL rfl rfl ?_
 simp only[go_sem,qW]
 refine bH (w.objs.length) (fun k st=> ∃fr en cnt,st=⟨fr,en,cnt⟩/\ (fr 1= .ptr ⟨0,1,0⟩ 0)/\ (en ⟨0,1,0⟩=some (.box w.cells false))/\ (fr 3= .i ((w.objs.take k).countP cN:Nat))/\ (fr 4= .i k)) 0 (bOf _) ⟨_,_,_,rfl,(by first|(simp only[go_sem];(try rfl);done)|rfl|simp),(by first|(simp only[go_sem];(try rfl);done)|rfl|simp),(by first|(simp only[go_sem];(try rfl);done)|rfl|simp),(by first|(simp only[go_sem];(try rfl);done)|rfl|simp)⟩ ?_
 rintro k st hk ⟨fr,en,cnt,rfl,h1,e1,h3,h4⟩
 simp only[go_sem,qW,h1,e1,h3,h4]
 refine aX (fun h=>?_) (fun h=>?_)
 ·have h':k<w.objs.length:=of_decide_eq_true h;have hc:(w.objs.take k).countP cN<=k:=bOk bRh (by simp;omega)
  have hs:=aSt h' cN;simp only[go_sem,h',h3,h4]
  refine aX (fun hb=>?_) (fun hb=>?_)
  ·simp at hb
   have e:IntKind.i64.wrap (((w.objs.take k).countP cN:Nat)+1)=(((w.objs.take (k+1)).countP cN:Nat):Int):=by
    have:=hw.objs;unfold Few at this;rw[aY (by omega),hs];simp[cN,hb]
   simp only[go_sem,e,aQ h' hw.objs]
   refine⟨_,_,_,rfl,?_⟩
   simp only[go_sem,h1,e1]
  ·simp at hb
   have e:(w.objs.take (k+1)).countP cN=(w.objs.take k).countP cN:=by rw[hs];simp[cN,hb]
   refine⟨_,_,_,rfl,?_⟩
   simp only[go_sem,h1,e1,h3,e,aQ h' hw.objs]
 ·have:k=w.objs.length:=by simp at h;omega
  subst this
  try simp only[go_sem,bPt]
  refine aX (fun hb=>?_) (fun hb=>?_)
  ·simp at hb
   simp[jL];intro h0;omega
  ·have hn:w.tasks.length=w.objs.countP cN:=by simp at hb;omega
   clear hb h
   refine bH (w.tasks.length) (fun k st=> ∃fr en cnt,st=⟨fr,en,cnt⟩/\ (fr 1= .ptr ⟨0,1,0⟩ 0)/\ (en ⟨0,1,0⟩=some (.box w.cells false))/\ (fr 3= .i (w.tasks.length:Nat))/\ (fr 5= .i k)/\ (bM w (w.tasks.take k) (w.tasks.drop k)=bM w [] w.tasks)) 0 (bOf _) ⟨_,_,_,rfl,(by first|(simp only[go_sem,h1,hn];(try rfl);done)|rfl|simp),(by first|(simp only[go_sem,e1];(try rfl);done)|rfl|simp),(by first|(simp only[go_sem,h3,hn,bPt];(try rfl);done)|rfl|simp),(by first|(simp only[go_sem,hn];(try rfl);done)|rfl|simp),(by first|(simp only[go_sem];(try rfl);done)|rfl|simp)⟩ ?_
   rintro k st hk ⟨fr,en,cnt,rfl,h1,e1,h3,h5,hI⟩
   simp only[go_sem,qW,h1,e1,h3,h5]
   refine aX (fun h=>?_) (fun h=>?_)
   ·have h':k<w.tasks.length:=of_decide_eq_true h;rw[bO9 h',bM,<-iP h']at hI;simp only[go_sem,h',h1,e1,(mY _ _ _).ret,dN hw.objs]
    refine bB (fun hb=>?_) (fun hb=>?_)
    ·have hb':inR w.tasks[k] 0 (w.objs.length-1)=true:=by simpa using hb
     simp only[go_sem,hb',h1,e1,h5,xL]
     refine bB (fun hc=>?_) (fun hc=>?_)
     ·have hc':cN (w.obj w.tasks[k])=true:=by simpa[cN]using hc
      simp only[go_sem,qW,hc,h5,tH,hk,<-bP0,(aKu _ _ (aI1 hw.tasks k)).ret]
      refine aX (fun hd=>?_) (fun hd=>?_)
      ·simp[jL,<-hI,hb',hc',hd]
      ·refine⟨_,_,_,rfl,?_⟩
       simp only[go_sem,h1,e1,h3,aQ h' hw.tasks];rw[<-hI,hb',hc',hd];simp
     ·simp only[go_sem,qW,hc];simp[]at hc;simp[jL,<-hI,cN,hc]
    ·simp only[go_sem,qW,hb]
     simp at hb
     simp[jL,<-hI,hb]
   ·have:k=w.tasks.length:=by simp at h;omega
    subst this
    try simp only[go_sem,qW,h1,e1,h3,h5]
    have ht:bM w [] w.tasks=true:=by rw[<-hI];simp[bM]
    simp[jL,hn,ht]
theorem aNj (p:aI)(w:aB)(hp:p.few)(hw:w.few):PC L 39 [.agg p.cs,.agg w.cs] (.bool (dO p w)):=by
 have hL:=at_ Tryz.func39
 conv at hL=>rhs;reduce
 refine aH hL rfl rfl ?_
 simp only[go_sem,qW]
 repeat' ((first|with_reducible refine aX (fun h=>?_) (fun h=>?_)|with_reducible refine bB (fun h=>?_) (fun h=>?_))<;>(try simp only[bRt,bRu,bOs]at h)<;>try simp only[go_sem,qW, *,(mY _ _ _).ret,(aP6 _ _ hw.ins).ret,(aNi w hw).ret])
 all_goals (try simp only[bPg,Bool.not_eq_false',Int.not_lt]at*)
 all_goals try(simp[dO, *];done)
 all_goals try(simp[dO, *];intros;omega)
 rename_i g1 g2 g3 g4
 refine bH (w.objs.length) (fun k st=> ∃fr en cnt,st=⟨fr,en,cnt⟩/\ (fr 2= .ptr ⟨0,2,0⟩ 0)/\ (en ⟨0,2,0⟩=some (.box p.cells false))/\ (fr 3= .ptr ⟨0,3,0⟩ 0)/\ (en ⟨0,3,0⟩=some (.box w.cells false))/\ (fr 5= .i k)/\ ((w.objs.drop k).all (dK p w)=w.objs.all (dK p w))) 0 (bOf _) ⟨_,_,_,rfl,(by first|(simp only[go_sem];(try rfl);done)|rfl|simp),(by first|(simp only[go_sem];(try rfl);done)|rfl|simp),(by first|(simp only[go_sem];(try rfl);done)|rfl|simp),(by first|(simp only[go_sem];(try rfl);done)|rfl|simp),(by first|(simp only[go_sem];(try rfl);done)|rfl|simp),(by first|(simp only[go_sem];(try rfl);done)|rfl|simp)⟩ ?_
 rintro k st hk ⟨fr,en,cnt,rfl,h2,e2,h3,e3,h5,hI⟩
 simp only[go_sem,qW,h2,e2,h3,e3,h5]
 refine aX (fun h1=>?_) (fun h1=>?_)
 ·have h':k<w.objs.length:=of_decide_eq_true h1;rw[fJ h']at hI;simp only[go_sem,qW,h',h5,(aKv p w _ hp hw (hw.obj w.objs[k] (bOg _))).ret]
  refine aX (fun hb=>?_) (fun hb=>?_)
  ·simp at hb
   simp[dO,<-hI,hb]
  ·simp at hb
   refine⟨_,_,_,rfl,?_⟩
   simp only[go_sem,h2,e2,h3,e3,aQ h' hw.objs];rw[<-hI,hb];simp
 ·have:k=w.objs.length:=by simp at h1;omega
  subst this;have hobj:w.objs.all (dK p w)=true:=by rw[<-hI];simp
  clear hI h1
  try simp only[go_sem,qW,h2,e2,h3,e3,h5]
  refine bH (w.outs.length) (fun k st=> ∃fr en cnt,st=⟨fr,en,cnt⟩/\ (fr 3= .ptr ⟨0,3,0⟩ 0)/\ (en ⟨0,3,0⟩=some (.box w.cells false))/\ (fr 6= .i k)/\ ((w.outs.drop k).all uN=w.outs.all uN)) 0 (bOf _) ⟨_,_,_,rfl,(by first|(simp only[go_sem,h3];(try rfl);done)|rfl|simp),(by first|(simp only[go_sem,e3];(try rfl);done)|rfl|simp),(by first|(simp only[go_sem];(try rfl);done)|rfl|simp),(by first|(simp only[go_sem];(try rfl);done)|rfl|simp)⟩ ?_
  rintro k st hk ⟨fr,en,cnt,rfl,h3,e3,h6,hI⟩
  simp only[go_sem,qW,h3,e3,h6]
  refine aX (fun h1=>?_) (fun h1=>?_)
  ·have h':k<w.outs.length:=of_decide_eq_true h1;rw[fJ h']at hI;simp only[go_sem,qW,h',h3,e3,h6,(mY _ _ _).ret]
   refine bB (fun hb=>?_) (fun hb=>?_)
   ·simp at hb
    simp only[go_sem,hb,bOn]
    refine aX (fun hc=>?_) (fun hc=>?_)
    ·simp at hc
     simp[dO,<-hI,uN,hc]
    ·simp at hc
     refine⟨_,_,_,rfl,?_⟩
     simp only[go_sem,h3,e3,aQ h' hw.outs];rw[<-hI,uN,hb,hc];simp
   ·simp at hb
    simp only[go_sem,qW,hb,bOs];simp[dO,<-hI,uN,hb]
  ·have:k=w.outs.length:=by simp at h1;omega
   subst this;have hout:w.outs.all uN=true:=by rw[<-hI];simp
   try simp only[go_sem,qW,h3,e3,h6]
   simp only[dO,hobj,hout,g3,g4,h];simp[g1,g2]
theorem wG (l:List aE):PC L 93 [.fz (l.map aE.enc)] (.bool (decide ((l.length:Int)<=40))):=by
 have hL:=at_ Tryz.func93
 conv at hL=>rhs;reduce
 refine aH hL rfl rfl ?_
 simp only[go_sem,qW]
theorem aDr (w:aB)(hw:w.few):PC L 36 [.agg w.cs] (.bool (cR w)):=by
 have hL:=at_ Tryz.func36
 conv at hL=>rhs;reduce
 refine aH hL rfl rfl ?_
 simp only[go_sem,qW]
 repeat' ((first|with_reducible refine aX (fun h=>?_) (fun h=>?_)|with_reducible refine bB (fun h=>?_) (fun h=>?_))<;>(try simp only[bRt,bRu,bOs]at h)<;>try simp only[go_sem,qW, *])
 all_goals (try simp only[Int.not_lt]at*)
 all_goals try(simp[cR, *];done)
 all_goals try(simp[cR, *];intros;omega)
 rename_i g1 g2 g3
 refine bH (w.objs.length) (fun k st=> ∃fr en cnt,st=⟨fr,en,cnt⟩/\ (fr 1= .ptr ⟨0,1,0⟩ 0)/\ (en ⟨0,1,0⟩=some (.box w.cells false))/\ (fr 3= .i k)/\ ((w.objs.drop k).all gJ=w.objs.all gJ)) 0 (bOf _) ⟨_,_,_,rfl,(by first|(simp only[go_sem];(try rfl);done)|rfl|simp),(by first|(simp only[go_sem];(try rfl);done)|rfl|simp),(by first|(simp only[go_sem];(try rfl);done)|rfl|simp),(by first|(simp only[go_sem];(try rfl);done)|rfl|simp)⟩ ?_
 rintro k st hk ⟨fr,en,cnt,rfl,h1,e1,h3,hI⟩
 simp only[go_sem,qW,h1,e1,h3]
 refine aX (fun hq=>?_) (fun hq=>?_)
 ·have h':k<w.objs.length:=of_decide_eq_true hq;have hx:=hw.obj w.objs[k] (bOg _);rw[fJ h']at hI;simp only[go_sem,qW,h',(wG _).ret]
  refine bB (fun hb=>?_) (fun hb=>?_)
  ·simp at hb
   try simp only[go_sem,hb]
   refine aX (fun hc=>?_) (fun hc=>?_)
   ·simp at hc
    simp[cR,<-hI,gJ];intros;omega
   ·simp at hc
    generalize cnt 0 4=g4
    refine bH (w.objs[k].frames.length) (fun j st=> ∃fr en cnt,st=⟨fr,en,cnt⟩/\ (fr 1= .ptr ⟨0,1,0⟩ 0)/\ (en ⟨0,1,0⟩=some (.box w.cells false))/\ (fr 4= .ptr ⟨0,4,g4⟩ 0)/\ (en ⟨0,4,g4⟩=some (.box [.i w.objs[k].form,.i w.objs[k].n,.fz (w.objs[k].vals.map aE.enc),.fz (w.objs[k].frames.map aA.enc)] false))/\ (fr 3= .i k)/\ (fr 5= .i j)/\ ((w.objs[k].frames.drop j).all (fun f=>decide ((f.env.length:Int)<=40)&&decide ((f.vals.length:Int)<=40))=w.objs[k].frames.all fun f=>decide ((f.env.length:Int)<=40)&&decide ((f.vals.length:Int)<=40))) 0 (bOf _) ⟨_,_,_,rfl,(by first|(simp only[go_sem,h1];(try rfl);done)|rfl|simp),(by first|(simp only[go_sem,e1];(try rfl);done)|rfl|simp),(by first|(simp only[go_sem];(try rfl);done)|rfl|simp),(by first|(simp only[go_sem];(try rfl);done)|rfl|simp),(by first|(simp only[go_sem,h3];(try rfl);done)|rfl|simp),(by first|(simp only[go_sem];(try rfl);done)|rfl|simp),(by first|(simp only[go_sem];(try rfl);done)|rfl|simp)⟩ ?_
    rintro j st hk ⟨fr,en,cnt,rfl,h1,e1,h4,e4,h3,h5,hJ⟩
    simp only[go_sem,qW,h4,e4,h3,h5]
    refine aX (fun h2=>?_) (fun h2=>?_)
    ·have h2':j<w.objs[k].frames.length:=of_decide_eq_true h2;rw[fJ h2']at hJ;simp only[go_sem,qW,h2',h4,e4,h5,(wG _).ret]
     refine bB (fun hd=>?_) (fun hd=>?_)
     ·simp only[go_sem,hd]
      refine aX (fun he=>?_) (fun he=>?_)
      ·simp at he
       have:w.objs[k].frames.all (fun f=>decide ((f.env.length:Int)<=40)&&decide ((f.vals.length:Int)<=40))=false:=by rw[<-hJ];simp;intros;omega
       simp only[cR,<-hI,gJ,this];simp
      ·refine⟨_,_,_,rfl,?_⟩
       simp only[go_sem,h1,e1,h4,e4,h3,aQ h2' hx.2.1]
       simp at hd he
       rw[<-hJ];simp;intros;exact⟨by omega,by omega⟩
     ·simp only[go_sem,qW,hd,bOs]
      simp at hd
      have:w.objs[k].frames.all (fun f=>decide ((f.env.length:Int)<=40)&&decide ((f.vals.length:Int)<=40))=false:=by rw[<-hJ];simp;intros;omega
      simp only[cR,<-hI,gJ,this];simp
    ·have:j=w.objs[k].frames.length:=by simp at h2;omega
     subst this;have hfr:gJ w.objs[k]=true:=by
      simp only[gJ,<-hJ];simp;exact⟨by omega,by omega⟩
     try simp only[go_sem,qW,h1,e1,h4,e4,h3,h5]
     refine⟨_,_,_,rfl,?_⟩
     simp only[go_sem,h1,e1,aQ h' hw.objs];rw[<-hI,hfr];simp
  ·simp only[go_sem,qW,hb,bOs]
   simp at hb
   have:gJ w.objs[k]=false:=by simp[gJ];intros;omega
   simp[cR,<-hI,this]
 ·have:k=w.objs.length:=by simp at hq;omega
  subst this;have hobj:w.objs.all gJ=true:=by rw[<-hI];simp
  try simp only[go_sem,qW,h1,e1,h4,e4,h3,h5]
  simp only[cR,hobj];simp[g1,g2,g3,h]
end Go.Proofs.YtmnchlhngpdffaaGreat
namespace Go.Abs
def mJ (s:ByteArray):List UInt8:=s.data.toList
theorem pF (s:ByteArray):(mJ s).length=s.size:=by unfold mJ;rw[bQc];rfl
variable {s:ByteArray}
theorem aNk {k:IntKind}{j:Nat}(h:j<(mJ s).length):aT5 (.str s) (.int k (j:Int))=some {v:= .int .u8 ((mJ s)[j].toNat:Nat)}:=bA7 h
theorem aLv (s:ByteArray):mJ (s.extract 1 s.size)=(mJ s).drop 1:=by
 have hs:s.size=s.data.toList.length:=by rw[bQc];rfl
 unfold mJ;rw[ByteArray.data_extract,Array.toList_extract,hs];show List.take _ (List.drop 1 _)=_;exact bOt (by rw[bQk];exact bN9 _)
def kC (b:UInt8):Bool:=decide (97<=(b.toNat:Int))&&decide ((b.toNat:Int)<=122)
def nZ (l:List UInt8):Bool:=l.all kC
def aI2 :List UInt8->Bool
 |[]=>false
 |b::l=>decide ((b::l).length<=8)&&decide (65<=(b.toNat:Int))&&decide ((b.toNat:Int)<=90)&&nZ l
def aDs (x y:ByteArray):Bool:=x.toList==y.toList
def tJ (l:List ByteArray)(s:ByteArray):Bool:=l.any fun x=>aDs x s
def lH :List ByteArray->List ByteArray->Bool
 |_,[]=>true
 |met,s::l=>!tJ met s&&lH (met++[s]) l
def uP (c:cD):Bool:=aI2 (mJ c.name)&&inR c.args 0 3
def xM (l:List cD):Bool:=l.all uP&&decide ((l.length:Int)<=20)&&lH [] (l.map cD.name)
def wH (cons:List cD)(f n:Int)(k:Nat):Bool:=
 if f=1 \/f=2 \/f=5 then decide ((k:Int)=0)&&decide (n=0)
 else if f=3 then decide ((k:Int)=0)&&inR n (-1000000000) 1000000000
 else if f=4 then decide ((k:Int)=0)&&inR n 0 1
 else if f=6 then inR n 0 (cons.length-1)&&decide ((k:Int)=(cons.getD n.toNat default).args)else false
def aFa (t:ByteArray):Bool:=t.toList==(⟨#[]⟩:ByteArray).toList
def rW (cons:List cD)(f n:Int)(t:ByteArray)(k:Nat):Bool:=wH cons f n k&&aFa t
mutual
def qR (cons:List cD):Pat->Bool
 | .mk f n t ps=>rW cons f n t ps.length&&aI3 cons ps
def aI3 (cons:List cD):List Pat->Bool
 |[]=>true
 |p::ps=>qR cons p&&aI3 cons ps
end
theorem aI4 (cons:List cD): ∀l,aI3 cons l=l.all (qR cons)
 |[]=>by simp[aI3]
 |p::ps=>by simp[aI3,aI4 cons ps]
theorem aI5 (cons:List cD)(p:Pat):qR cons p=(rW cons p.form p.n p.text p.parts.length&&p.parts.all (qR cons)):=by
 cases p;simp only[qR,aI4,Pat.form,Pat.n,Pat.text,Pat.parts]
mutual
def pG :Pat->Int->Int
 | .mk _ _ _ ps,left=>if left<1 then-1 else jD ps (left-1)
def jD :List Pat->Int->Int
 |[],left=>left
 |p::ps,left=>if 0<=left then jD ps (pG p left)else left
end
mutual
def jV :Pat->Bool
 | .mk _ _ t ps=>qT ps&&decide ((t.size:Int)<=30)
def qT :List Pat->Bool
 |[]=>true
 |p::ps=>jV p&&qT ps
end
theorem yI : ∀l,qT l=l.all jV
 |[]=>by simp[qT]
 |p::ps=>by simp[qT,yI ps]
theorem aBr (p:Pat):jV p=(p.parts.all jV&&decide ((p.text.size:Int)<=30)):=by
 cases p;simp only[jV,yI];rfl
theorem aI6 (p:Pat)(left:Int):pG p left=if left<1 then-1 else jD p.parts (left-1):=by
 cases p;simp only[pG,Pat.parts]
mutual
theorem aI7 : ∀(p:Pat) (left:Int),-1<=left-> -1<=pG p left/\ pG p left<=left
 | .mk _ _ _ ps,left,h=>by
  rw[pG];split
  ·omega
  ·have:=aLw ps (left-1) (by omega);omega
theorem aLw : ∀(l:List Pat) (left:Int),-1<=left-> -1<=jD l left/\ jD l left<=left
 |[],left,h=>by rw[jD];omega
 |p::ps,left,h=>by
  rw[jD];split
  ·have h1:=aI7 p left h;have h2:=aLw ps (pG p left) h1.1;omega
  ·omega
end
theorem aCf : ∀{l:List Pat} {left:Int},left<0->jD l left=left
 |[],_,_=>by rw[jD]
 |_::_,_,h=>by rw[jD,if_neg (by omega)]
def zP (p:Pat):Bool:=decide (0<=pG p 16)&&jV p
def fK (n:aL):Bool:=decide ((n.kids.length:Int)<=10)&&decide ((n.pats.length:Int)<=10)&&n.pats.all zP
def aV (p:aI):Bool:=
 decide ((p.nodes.length:Int)<=320)&&decide ((p.funs.length:Int)<=320)&&decide ((p.cons.length:Int)<=25)&&p.cons.all (fun c=>decide ((c.name.size:Int)<=40))&&p.nodes.all fK
def eQ (op:Int)(pats:Int)(args:Int):Int:=
 if op=1 \/op=2 \/op=3 \/op=4 \/op=21 \/op=25 \/op=28 then 0
 else if op=5 \/op=27 \/op=16 \/op=17 \/op=19 \/op=20 \/op=23 \/op=26 \/op=24 then 1
 else if op=6 \/op=7 \/op=9 \/op=10 \/op=11 \/op=12 \/op=13 \/op=18 \/op=22 then 2
 else if op=8 then 3 else if op=15 then 1+pats else if op=14 then args else-1
def lZ (cons:List cD)(q:Pat):Bool:=decide (0<=pG q 12)&&qR cons q
def nB (p:aI)(n:aL):Bool:=
 if n.op=1 then inR n.n (-1000000000) 1000000000
 else if n.op=2 then inR n.n 0 1
 else if n.op=4 then inR n.n (-(p.funs.length:Int)) 29
 else if n.op=24 then inR n.n 0 3
 else if n.op=14 then inR n.n 0 (p.cons.length-1)else decide (n.n=0)
def oA (p:aI)(n:aL):Int:=if n.op=14/\ inR n.n 0 (p.cons.length-1)=true then(p.cons.getD n.n.toNat default).args else 0
def lA (n:aL):Bool:=if n.op=15 then inR n.pats.length 1 5 else decide ((n.pats.length:Int)=0)
def dZ (p:aI)(n:aL):Bool:=
 ((nB p n&&lA n)&&n.pats.all (lZ p.cons))&&decide ((n.kids.length:Int)=eQ n.op n.pats.length (oA p n))
def zQ (lo hi:Int):List Bool->List Int->Option (List Bool)
 |u,[]=>some u
 |u,x::l=>if inR x lo hi&&!(u.getD x.toNat false)then zQ lo hi (u.set x.toNat true) l else none
def kM (p:aI):Nat->List Bool->List aL->Option (List Bool)
 |_,u,[]=>some u
 |i,u,n::l=>if dZ p n then(zQ ((i:Int)+1) (p.nodes.length-1) u n.kids).bind fun u=>kM p (i+1) u l else none
def xN :Option (List Bool)->Bool
 |some u=>u.all id
 |none=>false
def eY (p:aI):Bool:=
 decide ((p.nodes.length:Int)<=300)&&inR p.funs.length 1 p.nodes.length&&inR p.main 0 (p.funs.length-1)&&xM p.cons&&
  xN ((zQ 0 (p.nodes.length-1) (List.replicate p.nodes.length false) p.funs).bind fun u=>kM p 0 u p.nodes)
theorem Pat.few_parts {p:Pat}(h:p.few):Few p.parts.length/\ Few p.text.size/\ ∀q∈p.parts,q.few:=by
 cases h with|mk f n t l h ht k=>exact⟨h,ht,k⟩
theorem Pat.ind {P:Pat->Prop}(h: ∀p:Pat,(∀q∈p.parts,P q)->P p): ∀p,P p:=by
 intro p
 induction p using Pat.rec (motive_2:=fun l=> ∀q∈l,P q)with
 |mk f n t l ih=>exact h _ ih
 |nil=>rename_i q hq;simp at hq
 |cons p l h1 h2=>
  rename_i q hq;rcases bO8.1 hq with rfl|hq
  ·exact h1
  ·exact h2 _ hq
variable {i:Nat}
theorem aYq (h:i<(mJ s).length):s.get! i=(mJ s)[i]:=by
 have h':i<s.data.size:=by rw[pF]at h;exact h
 show s.data[i]! =_;rw[getElem!_pos s.data i h'];simp only[mJ,bQ0]
theorem aNl (h:i<(mJ s).length):
  (kC (mJ s)[i]=true->Utf8.decode s i=((mJ s)[i].toNat,1))/\ (kC (mJ s)[i]=false->((Utf8.decode s i).1:Int)<97 \/122<((Utf8.decode s i).1:Int)):=by
 have hg:=aYq h;simp only[kC,bN8,bRt,Bool.and_eq_false_iff,bRu];constructor
 ·intro hb;unfold Utf8.decode;simp only[bPo,hg];rw[if_pos (by omega)]
 ·intro hb;unfold Utf8.decode;simp only[bPo,hg,Utf8.runeError];split
  ·simp only;omega
  ·split
   ·split
    ·simp only;omega
    ·simp
   ·split
    ·split
     ·rename_i h1;simp only[bN8,bRt]at h1;simp only;omega
     ·simp
    ·split
     ·split
      ·rename_i h1;simp only[bN8,bRt]at h1;simp only;omega
      ·simp
     ·simp
def vE (ks:List ByteArray)(s:ByteArray):List ByteArray:=if tJ ks s then ks else ks++[s]
theorem aI8 : ∀(l ks:List ByteArray),(l.foldl vE ks).length<=ks.length+l.length
 |[],ks=>by simp
 |s::l,ks=>by
  have:=aI8 l (vE ks s);simp only[bQv,bOh];have h2:(vE ks s).length<=ks.length+1:=by unfold vE;split<;>simp
  omega
theorem aDt : ∀(l ks:List ByteArray),decide ((l.foldl vE ks).length=ks.length+l.length)=lH ks l
 |[],ks=>by simp[lH]
 |s::l,ks=>by
  simp only[bQv,bOh,lH]
  by_cases h:tJ ks s=true
  ·have:=aI8 l ks;simp only[vE,h,if_true,bOn,bOx,bRu];omega
  ·have:=aDt l (ks++[s]);simp only[bPf]at h;simp only[vE,h,bOa,if_false,bOs,bO3];rw[<-this,decide_eq_decide];simp only[bOr,bOh,bOo];omega
mutual
def rR :Pat->Int->Int
 | .mk _ _ _ ps,most=>lB ps most 1
def lB :List Pat->Int->Int->Int
 |[],_,n=>n
 |q::qs,most,n=>if most<n then n else lB qs most (n+rR q (most-n))
end
theorem aYr (p:Pat)(most:Int):rR p most=lB p.parts most 1:=by cases p;simp only[rR,Pat.parts]
theorem aP7 : ∀{l:List Pat} {most n:Int},most<n->lB l most n=n
 |[],_,_,_=>by rw[lB]
 |_::_,_,_,h=>by rw[lB,if_pos h]
mutual
theorem aI9 : ∀(p:Pat) (most:Int),0<=most->1<=rR p most/\ rR p most<=most+1
 | .mk _ _ _ ps,most,h=>by rw[rR];exact aLx ps most 1 (by omega)
theorem aLx : ∀(l:List Pat) (most n:Int),n<=most+1->n<=lB l most n/\ lB l most n<=most+1
 |[],most,n,h=>by rw[lB];omega
 |q::qs,most,n,h=>by
  rw[lB];split
  ·omega
  ·have h1:=aI9 q (most-n) (by omega)
   have h2:=aLx qs most (n+rR q (most-n)) (by omega)
   omega
end
mutual
theorem aGf : ∀(p:Pat) (most:Int),0<=most->pG p most=if rR p most<=most then most-rR p most else-1
 | .mk _ _ _ ps,most,h=>by
  have:=aBs ps most 1 (by omega)
  rw[pG,rR];split
  ·rename_i h0;have h1:most=0:=by omega
   subst h1;rw[aP7 (by omega),if_neg (by omega)]
  ·exact this
theorem aBs : ∀(l:List Pat) (most n:Int),n<=most+1->jD l (most-n)=if lB l most n<=most then most-lB l most n else-1
 |[],most,n,h=>by
  rw[jD,lB];split<;>omega
 |q::qs,most,n,h=>by
  by_cases hm:0<=most-n
  ·rw[jD,lB,if_pos hm,if_neg (show¬most<n by omega)]
   have h1:=aI9 q (most-n) (by omega)
   have hw:=aGf q (most-n) (by omega)
   have h2:=aBs qs most (n+rR q (most-n)) (by omega)
   rw[hw,<-h2];split
   ·congr 1;omega
   ·rw[aCf (by omega),aCf (by omega)];omega
  ·rw[jD,lB,if_neg hm,if_pos (show most<n by omega),if_neg (by omega)];omega
end
theorem aYs (q:Pat):decide (rR q 12<=12)=decide (0<=pG q 12):=by
 have h:=aGf q 12 (by omega)
 rw[h,decide_eq_decide]
 split<;>omega
def xO (op:Int):Val:=
 if op=1 \/op=2 \/op=3 \/op=4 \/op=21 \/op=25 \/op=28 then .ifc 381 (.int .i64 0)
 else if op=5 \/op=27 \/op=16 \/op=17 \/op=19 \/op=20 \/op=23 \/op=26 \/op=24 then .ifc 381 (.int .i64 1)
 else if op=6 \/op=7 \/op=9 \/op=10 \/op=11 \/op=12 \/op=13 \/op=18 \/op=22 then .ifc 381 (.int .i64 2)
 else if op=8 then .ifc 381 (.int .i64 3)else if op=14 then .ifc 382 (.agg [])else if op=15 then .ifc 355 (.agg [])else .nili
theorem aKw (op:Int):(∃c:Int,xO op= .ifc 381 (.int .i64 c)/\ (∀n a,eQ op n a=c)/\ op≠14/\ op≠15) \/(op=14/\ xO op= .ifc 382 (.agg [])) \/
  (op=15/\ xO op= .ifc 355 (.agg [])) \/(xO op= .nili/\ (∀n a,eQ op n a= -1)/\ op≠14/\ op≠15):=by
 unfold xO eQ;split
 ·left;refine⟨0,rfl,fun _ _=>rfl,?_,?_⟩<;>omega
 split
 ·left;refine⟨1,rfl,fun _ _=>rfl,?_,?_⟩<;>omega
 split
 ·left;refine⟨2,rfl,fun _ _=>rfl,?_,?_⟩<;>omega
 split
 ·left;refine⟨3,rfl,fun _ _=>rfl,?_,?_⟩<;>omega
 split
 ·right;left;exact⟨by assumption,rfl⟩
 split
 ·right;right;left;exact⟨by assumption,rfl⟩
 ·right;right;right;refine⟨rfl,fun n a=>?_,?_,?_⟩<;>first|omega|skip
theorem aGg (s:ByteArray): ∀ks:List ByteArray,(∃i,findKey .str (.str s) (ks.map .str)=some (some i)/\ tJ ks s=true/\ (ks.map Val.str).set i (.str s)=ks.map .str) \/
  (findKey .str (.str s) (ks.map .str)=some none/\ tJ ks s=false)
 |[]=> .inr ⟨rfl,rfl⟩
 |x::ks=>by
  have hsym:(s.toList==x.toList)=aDs x s:=by unfold aDs;exact Bool.beq_comm
  by_cases h:aDs x s=true
  ·refine .inl ⟨0,?_,?_,?_⟩
   ·simp only[bO4,findKey,oQ,hsym,h]
   ·simp[tJ,h]
   ·have:x=s:=by
     simp only[aDs,beq_iff_eq]at h;rw[Go.ByteArray.toList_eq,Go.ByteArray.toList_eq]at h;cases x;cases s;simp only at h
     congr
     exact Array.toList_inj.1 h
    simp[this]
  ·simp only[bPf]at h;rcases aGg s ks with⟨i,h1,h2,h3⟩|⟨h1,h2⟩
   ·refine .inl ⟨i+1,?_,?_,?_⟩
    ·simp only[bO4,findKey,oQ,hsym,h,h1]
    ·simp only[tJ,List.any_cons,h,bO6];exact h2
    ·simp[h3]
   ·refine .inr ⟨?_,?_⟩
    ·simp only[bO4,findKey,oQ,hsym,h,h1]
    ·simp only[tJ,List.any_cons,h,bO6];exact h2
def iJ (p:aI)(w:aB):Bool:=eY p&&dO p w
end Go.Abs
namespace Go.Proofs.YtmnchlhngpdffaaGreat
open Go.Abs Go.Proofs
set_option maxRecDepth 100000
set_option maxHeartbeats 4000000
theorem qB (n lo hi:Int):PC L 97 [.i n,.i lo,.i hi] (.bool (inR n lo hi)):=by
 have hL:=at_ Tryz.func97
 conv at hL=>rhs;reduce
 refine aH hL rfl rfl ?_
 simp only[go_sem,qW]
 refine bB (fun h=>?_) (fun h=>?_)<;>simp only[go_sem,h]<;>simp at h<;>simp[h,inR]
 omega
theorem aNm (s:ByteArray)(hs:Few s.size):PC L 192 [.str s] (.bool (nZ (mJ s))):=by
 have hL:=at_ Tryz.func192
 conv at hL=>rhs;reduce
 refine aH hL rfl rfl ?_
 simp only[go_sem,qW]
 refine bH (s.size) (fun k st=> ∃fr en cnt,st=⟨fr,en,cnt⟩/\ (fr 0= .str s)/\ (fr 3= .i k)/\ (((mJ s).drop k).all kC=(mJ s).all kC)) 0 (bOf _) ⟨_,_,_,rfl,(by first|(simp only[go_sem];(try rfl);done)|rfl|simp),(by first|(simp only[go_sem];(try rfl);done)|rfl|simp),(by first|(simp only[go_sem];(try rfl);done)|rfl|simp)⟩ ?_
 rintro k st hk ⟨fr,en,cnt,rfl,h0,h3,hI⟩
 have hsz:=pF s;simp only[go_sem,qW,h0,h3]
 refine aX (fun h=>?_) (fun h=>?_)
 ·have h':k<s.size:=of_decide_eq_true h;have h'':k<(mJ s).length:=by omega
  rw[fJ h'']at hI;simp only[go_sem,qW,h',h0,h3,aNk h'']
  refine bB (fun hb=>?_) (fun hb=>?_)
  ·simp only[go_sem,hb]
   refine aX (fun hc=>?_) (fun hc=>?_)
   ·simp only[bRt,bRu]at hb hc;have:kC (mJ s)[k]=false:=by simp only[kC,Bool.and_eq_false_iff,bRu];right;omega
    simp[nZ,<-hI,this]
   ·simp only[bRu]at hb hc;have:kC (mJ s)[k]=true:=by simp only[kC,bN8,bRt];constructor<;>omega
    refine⟨_,_,_,rfl,?_⟩
    simp only[go_sem,h0,aQ h' hs];rw[<-hI,this];simp
  ·simp only[go_sem,qW,hb,bOs];simp only[bRt,bOs]at hb;have:kC (mJ s)[k]=false:=by simp only[kC,Bool.and_eq_false_iff,bRu];left;omega
   simp[nZ,<-hI,this]
 ·have:k=s.size:=by simp at h;omega
  subst this
  try simp only[go_sem,qW,h0,h3]
  rw[nZ,<-hI,<-hsz];simp
theorem aSu (l:List ByteArray)(s:ByteArray)(hl:Few l.length):PC L 154 [.fz (l.map .str),.str s] (.bool (tJ l s)):=by
 have hL:=at_ Tryz.func154
 conv at hL=>rhs;reduce
 refine aH hL rfl rfl ?_
 simp only[go_sem,qW]
 refine bH (l.length) (fun k st=> ∃fr en cnt,st=⟨fr,en,cnt⟩/\ (fr 0= .fz (l.map .str))/\ (fr 1= .str s)/\ (fr 5= .i k)/\ ((l.drop k).any (fun x=>aDs x s)=l.any fun x=>aDs x s)) 0 (bOf _) ⟨_,_,_,rfl,(by first|(simp only[go_sem];(try rfl);done)|rfl|simp),(by first|(simp only[go_sem];(try rfl);done)|rfl|simp),(by first|(simp only[go_sem];(try rfl);done)|rfl|simp),(by first|(simp only[go_sem];(try rfl);done)|rfl|simp)⟩ ?_
 rintro k st hk ⟨fr,en,cnt,rfl,h0,h1,h5,hI⟩
 simp only[go_sem,qW,h0,h5]
 refine aX (fun h=>?_) (fun h=>?_)
 ·have h':k<l.length:=of_decide_eq_true h;rw[aPs h']at hI;simp only[go_sem,qW,h',h1,h5]
  refine aX (fun hb=>?_) (fun hb=>?_)
  ·rw[tJ,<-hI,aDs,hb];rfl
  ·refine⟨_,_,_,rfl,?_⟩
   simp only[go_sem,h0,h1,aQ h' hl];rw[<-hI,aDs,hb];simp
 ·have:k=l.length:=by simp at h;omega
  subst this
  try simp only[go_sem,qW,h0,h1,h5]
  rw[tJ,<-hI];simp
theorem aKx (l:List ByteArray)(hl:Few l.length):PC L 136 [.fz (l.map .str)] (.bool (lH [] l)):=by
 have hL:=at_ Tryz.func136
 conv at hL=>rhs;reduce
 refine aH hL rfl rfl ?_
 simp only[go_sem,qW]
 refine bH (l.length) (fun k st=> ∃fr en cnt,st=⟨fr,en,cnt⟩/\ (fr 0= .fz (l.map .str))/\ (fr 3= .i k)/\ (lH (l.take k) (l.drop k)=lH [] l)) 0 (bOf _) ⟨_,_,_,rfl,(by first|(simp only[go_sem];(try rfl);done)|rfl|simp),(by first|(simp only[go_sem];(try rfl);done)|rfl|simp),(by first|(simp only[go_sem];(try rfl);done)|rfl|simp)⟩ ?_
 rintro k st hk ⟨fr,en,cnt,rfl,h0,h3,hI⟩
 simp only[go_sem,qW,h0,h3]
 refine aX (fun h=>?_) (fun h=>?_)
 ·have h':k<l.length:=of_decide_eq_true h;rw[bO9 h',lH,<-iP h']at hI;simp only[go_sem,qW,h',h0,h3,tH,hk,<-bP0,(aSu _ _ (aI1 hl k)).ret]
  refine aX (fun hb=>?_) (fun hb=>?_)
  ·rw[<-hI,hb];rfl
  ·refine⟨_,_,_,rfl,?_⟩
   simp only[go_sem,h0,aQ h' hl];rw[<-hI,hb];simp
 ·have:k=l.length:=by simp at h;omega
  subst this
  try simp only[go_sem,qW,h0,h3]
  rw[<-hI];simp[lH]
theorem aJa {s:ByteArray}{en:En}(h:1<=s.size):jK true 1 en (.str s) (some (.i 1)) none none=some {v:= .str (s.extract 1 s.size)}:=by
 have:iG (some (.i 1)) 0 s.size=some 1:=by
  simp only[iG];rw[if_pos ⟨by omega,by omega⟩];rfl
 simp[jK,tG,this]
variable {n:Nat}
theorem aJb {l:List UInt8}(hn:l.length=n)(h:0<l.length):aI2 l=(decide ((n:Int)<=8)&&decide ((65:Int)<=(l[0].toNat:Int))&&decide ((l[0].toNat:Int)<=90)&&nZ (l.drop 1)):=by
 cases l with
 |nil=>simp at h
 |cons b l=>
  have e:decide ((b::l).length<=8)=decide ((n:Int)<=8):=by rw[decide_eq_decide,hn];omega
  simp only[aI2,e,List.getElem_cons_zero,List.drop_succ_cons,bQf]
theorem aNn (s:ByteArray)(hs:Few s.size):PC L 135 [.str s] (.bool (aI2 (mJ s))):=by
 have hL:=at_ Tryz.func135
 conv at hL=>rhs;reduce
 refine aH hL rfl rfl ?_
 simp only[go_sem,qW]
 refine bB (fun h=>?_) (fun h=>?_)
 ·have h':1<=s.size:=by simp at h;omega
  have h0:0<(mJ s).length:=by rw[pF];omega
  have hix:=fun(k:IntKind)=>aNk (k:=k) h0
  simp only[Int.natCast_zero]at hix;rw[aJb (pF s) h0];simp only[go_sem,h]
  refine bB (fun h1=>?_) (fun h1=>?_)<;>simp only[go_sem,h1,hix]
  refine bB (fun h2=>?_) (fun h2=>?_)<;>simp only[go_sem,h2]
  refine bB (fun h3=>?_) (fun h3=>?_)<;>simp only[go_sem,h3,aJa h',(aNm _ (show Few (s.extract 1 s.size).size by unfold Few at*;simp;omega)).ret,aLv]
  all_goals simp only[bRt,bRu,bOn]at*
  all_goals simp[*]
 ·have:s.size=0:=by simp at h;omega
  have e:mJ s=[]:=by rw[<-bRn,pF,this]
  simp only[go_sem,h];rw[e];rfl
theorem aP8 (op n a:Int)(hn:0<=n/\ n<=1000):PC L 139 [.i op,.i n,.i a] (.i (eQ op n a)):=by
 have e:IntKind.i64.wrap (1+n)=1+n:=aY (by omega)
 have hL:=at_ Tryz.func139
 conv at hL=>rhs;reduce
 refine aH hL rfl rfl ?_
 simp only[go_sem,kK]
 repeat' ((first|with_reducible refine aD (fun h=>?_) (fun h=>?_)|with_reducible refine aG (fun h=>?_) (fun h=>?_))<;>(try simp only[bRt,bRu]at h)<;>try simp only[go_sem,kK,h,e])
 all_goals simp[eQ, *]
theorem yJ : ∀q:Pat,q.few-> ∀left:Int,-1<=left->left<=1000->PC L 137 [.agg [.i q.form,.i q.n,.str q.text,.fz (q.parts.map Pat.enc)],.i left] (.i (pG q left)):=by
 refine Pat.ind fun q ih hq left h1 h2=>?_
 obtain⟨hl,_,hps⟩:=Pat.few_parts hq;have hL:=at_ Tryz.func137
 conv at hL=>rhs;reduce
 refine aH hL rfl rfl ?_
 simp only[go_sem,qW]
 refine aX (fun h=>?_) (fun h=>?_)<;>simp only[bRt,bRu]at h
 ·simp[aI6,h]
 ·have e:IntKind.i64.wrap (left-1)=left-1:=aY (by omega)
  rw[aI6,if_neg h]
  try simp only[go_sem,e]
  refine bH q.parts.length (fun k st=> ∃fr en cnt a,st=⟨fr,en,cnt⟩/\ fr 1= .i a/\ fr 5= .i k/\ fr 2= .ptr ⟨0,2,0⟩ 0/\ en ⟨0,2,0⟩=some (.box [.i q.form,.i q.n,.str q.text,.fz (q.parts.map Pat.enc)] false)/\ -1<=a/\ a<=1000/\ jD (q.parts.drop k) a=jD q.parts (left-1)) 0 (bOf _) ⟨_,_,_,left-1,rfl,by simp only[go_sem],by simp only[go_sem],by simp only[go_sem],by simp only[go_sem],by omega,by omega,rfl⟩ ?_
  rintro k st hk ⟨fr,en,cnt,a,rfl,h1,h5,h2,e2,ha,hb,hI⟩
  simp only[go_sem,qW,h1,h5,h2,e2]
  refine bB (fun hc=>?_) (fun hc=>?_)
  ·have h':k<q.parts.length:=of_decide_eq_true hc;rw[bO9 h',jD]at hI;have hm:q.parts[k]∈q.parts:=bOg _;simp only[go_sem,h',h1]
   refine aX (fun hd=>?_) (fun hd=>?_)<;>simp only[bRt,bRu]at hd
   ·rw[if_pos hd]at hI;have hw:=aI7 q.parts[k] a ha;simp only[go_sem,h5,(ih _ hm (hps _ hm) a ha hb).ret]
    refine⟨_,_,_,pG q.parts[k] a,rfl,?_⟩
    simp only[go_sem,h2,e2,aQ h' hl];exact⟨hw.1,by omega,hI⟩
   ·rw[if_neg hd]at hI
    try simp only[go_sem,qW,h',h1,h5,h2,e2]
    rw[hI]
  ·have:k=q.parts.length:=by simp at hc;omega
   subst this
   try simp only[go_sem,hc,h1]
   rw[<-hI];simp[jD]
theorem aG0 : ∀q:Pat,q.few->PC L 146 [.agg [.i q.form,.i q.n,.str q.text,.fz (q.parts.map Pat.enc)]] (.bool (jV q)):=by
 refine Pat.ind fun q ih hq=>?_
 obtain⟨hl,_,hps⟩:=Pat.few_parts hq;have hL:=at_ Tryz.func146
 conv at hL=>rhs;reduce
 refine aH hL rfl rfl ?_
 simp only[go_sem,qW]
 refine bH (q.parts.length) (fun k st=> ∃fr en cnt,st=⟨fr,en,cnt⟩/\ (fr 1= .ptr ⟨0,1,0⟩ 0)/\ (en ⟨0,1,0⟩=some (.box [.i q.form,.i q.n,.str q.text,.fz (q.parts.map Pat.enc)] false))/\ (fr 3= .i k)/\ ((q.parts.drop k).all jV=q.parts.all jV)) 0 (bOf _) ⟨_,_,_,rfl,(by first|(simp only[go_sem];(try rfl);done)|rfl|simp),(by first|(simp only[go_sem];(try rfl);done)|rfl|simp),(by first|(simp only[go_sem];(try rfl);done)|rfl|simp),(by first|(simp only[go_sem];(try rfl);done)|rfl|simp)⟩ ?_
 rintro k st hk ⟨fr,en,cnt,rfl,h1,e1,h3,hI⟩
 simp only[go_sem,qW,h1,e1,h3]
 refine aX (fun h=>?_) (fun h=>?_)
 ·have h':k<q.parts.length:=of_decide_eq_true h;have hm:q.parts[k]∈q.parts:=bOg _;rw[fJ h']at hI;simp only[go_sem,qW,h',h3,(ih _ hm (hps _ hm)).ret]
  refine aX (fun hb=>?_) (fun hb=>?_)
  ·simp at hb
   rw[aBr,<-hI,hb];rfl
  ·simp at hb
   refine⟨_,_,_,rfl,?_⟩
   simp only[go_sem,h1,e1,aQ h' hl];rw[<-hI,hb];simp
 ·have:k=q.parts.length:=by simp at h;omega
  subst this;have ht:q.parts.all jV=true:=by rw[<-hI];simp
  try simp only[go_sem,qW,h1,e1,h3]
  rw[aBr,ht];rfl
theorem aG1 (q:Pat)(hq:q.few):PC L 109 [.agg [.i q.form,.i q.n,.str q.text,.fz (q.parts.map Pat.enc)]] (.bool (zP q)):=by
 have hL:=at_ Tryz.func109
 conv at hL=>rhs;reduce
 refine aH hL rfl rfl ?_
 simp only[go_sem,qW,(yJ q hq 16 (by omega) (by omega)).ret]
 refine bB (fun h=>?_) (fun h=>?_)<;>simp only[go_sem,h,(aG0 q hq).ret]<;>simp at h<;>simp[zP,h]
 intros;omega
theorem aSv (cons:List cD)(hc:Few cons.length): ∀q:Pat,q.few->PC L 138 [.agg [.i q.form,.i q.n,.str q.text,.fz (q.parts.map Pat.enc)],.fz (cons.map cD.enc)] (.bool (qR cons q)):=by
 refine Pat.ind fun q ih hq=>?_
 obtain⟨hl,_,hps⟩:=Pat.few_parts hq;have hL:=at_ Tryz.func138
 conv at hL=>rhs;reduce
 refine aH hL rfl rfl ?_
 have e:=dN hc;simp only[go_sem,aCc,Go.Abs.start]
 refine aA5 (fun st=>(st.fr 1= .fz (cons.map cD.enc))/\ (st.fr 2= .ptr ⟨0,2,0⟩ 0)/\ (st.en ⟨0,2,0⟩=some (.box [.i q.form,.i q.n,.str q.text,.fz (q.parts.map Pat.enc)] false))/\ (st.fr 6= .i q.parts.length)/\ (st.fr 5= .bool (wH cons q.form q.n q.parts.length))) ?_ ?_
 ·simp only[go_sem,kK]
  repeat' ((first|with_reducible refine aD (fun h=>?_) (fun h=>?_)|with_reducible refine aG (fun h=>?_) (fun h=>?_))<;>(try simp only[bRt,bRu,bOn]at h)<;>try simp only[go_sem,kK, *,(qB _ _ _).ret,aE9])
  all_goals try simp[wH, *]
  all_goals (intro h0;exact absurd (by simp[h0]) h)
 ·rintro fr en cnt ⟨(h1:fr 1= .fz (cons.map cD.enc)),(h2:fr 2= .ptr ⟨0,2,0⟩ 0),(e2:en ⟨0,2,0⟩=some (.box [.i q.form,.i q.n,.str q.text,.fz (q.parts.map Pat.enc)] false)),(h6:fr 6= .i q.parts.length),(h5:fr 5= .bool (wH cons q.form q.n q.parts.length))⟩
  refine aA5 (fun st=>(st.fr 1= .fz (cons.map cD.enc))/\ (st.fr 2= .ptr ⟨0,2,0⟩ 0)/\ (st.en ⟨0,2,0⟩=some (.box [.i q.form,.i q.n,.str q.text,.fz (q.parts.map Pat.enc)] false))/\ (st.fr 6= .i q.parts.length)/\ (st.fr 5= .bool (rW cons q.form q.n q.text q.parts.length))) ?_ ?_
  ·simp only[go_sem,kK,h5]
   repeat' ((first|with_reducible refine aD (fun h=>?_) (fun h=>?_)|with_reducible refine aG (fun h=>?_) (fun h=>?_))<;>(try simp only[bOn]at h)<;>try simp only[go_sem,kK, *])
   all_goals simp[rW,aFa, *]
  ·rintro fr en cnt ⟨(h1:fr 1= .fz (cons.map cD.enc)),(h2:fr 2= .ptr ⟨0,2,0⟩ 0),(e2:en ⟨0,2,0⟩=some (.box [.i q.form,.i q.n,.str q.text,.fz (q.parts.map Pat.enc)] false)),(h6:fr 6= .i q.parts.length),(h5:fr 5= .bool (rW cons q.form q.n q.text q.parts.length))⟩
   rw[aI5];generalize rW cons q.form q.n q.text q.parts.length=b0 at h5;simp only[go_sem,kK]
   refine bH q.parts.length (fun k st=> ∃fr en cnt b,st=⟨fr,en,cnt⟩/\ fr 1= .fz (cons.map cD.enc)/\ fr 7= .i k/\ fr 6= .i q.parts.length/\ fr 2= .ptr ⟨0,2,0⟩ 0/\ en ⟨0,2,0⟩=some (.box [.i q.form,.i q.n,.str q.text,.fz (q.parts.map Pat.enc)] false)/\ fr 5= .bool b/\ (b&&(q.parts.drop k).all (qR cons))=(b0&&q.parts.all (qR cons))) 0 (bOf _) ⟨_,_,_,b0,rfl,by simp only[go_sem,h1],by simp only[go_sem],by simp only[go_sem,h6],by simp only[go_sem,h2],by simp only[go_sem,e2],by simp only[go_sem,h5],rfl⟩ ?_
   rintro k st hk ⟨fr,en,cnt,b,rfl,h1,h7,h6,h2,e2,h5,hI⟩
   simp only[go_sem,kK,h7,h6]
   refine aG (fun hd=>?_) (fun hd=>?_)
   ·have h':k<q.parts.length:=of_decide_eq_true hd;have hm:q.parts[k]∈q.parts:=bOg _;rw[fJ h']at hI;simp only[go_sem,kK,h',h5]
    refine aD (fun hb=>?_) (fun hb=>?_)
    ·simp only[go_sem,h',h1,h7,h2,e2,(ih _ hm (hps _ hm)).ret]
     refine⟨_,_,_,qR cons q.parts[k],rfl,?_⟩
     simp only[go_sem,h1,h6,h2,e2,aQ h' hl];rw[<-hI,hb];simp
    ·simp only[go_sem,h5];rw[<-hI,hb];simp
   ·have:k=q.parts.length:=by simp at hd;omega
    subst this;simp only[go_sem,kK,hd,h5];rw[<-hI];simp
theorem aP9 (l:List cD)(hl:l.length<=1000)(hs: ∀c∈l,Few c.name.size):PC L 98 [.fz (l.map cD.enc)] (.bool (xM l)):=by
 have hf:Few l.length:=by unfold Few;omega
 have hL:=at_ Tryz.func98
 conv at hL=>rhs;reduce
 refine aH hL rfl rfl ?_
 simp only[go_sem,kK]
 refine bH l.length (fun k st=> ∃fr en cnt,st=⟨fr,en,cnt⟩/\ fr 0= .fz (l.map cD.enc)/\ fr 4= .i k/\ iZ en (fr 3) 1 ((l.take k).map fun c=> .str c.name) [34]/\ (l.drop k).all uP=l.all uP) 0 (bOf _) ⟨_,_,_,rfl,by simp only[go_sem],by simp only[go_sem],by simp only[go_sem];exact iZ.nil _ _,rfl⟩ ?_
 rintro k st hk ⟨fr,en,cnt,rfl,h0,h4,h3,hI⟩
 simp only[go_sem,kK,h0,h4]
 refine aD (fun h=>?_) (fun h=>?_)
 ·have h':k<l.length:=of_decide_eq_true h;have hm:l[k]∈l:=bOg _;rw[fJ h']at hI;simp only[go_sem,kK,h',h0,h4,(aNn _ (hs _ hm)).ret]
  refine aG (fun hb=>?_) (fun hb=>?_)
  ·simp only[go_sem,kK,hb,h',h0,h4,(qB _ _ _).ret]
   refine aD (fun hc=>?_) (fun hc=>?_)
   ·simp only[go_sem,kK]
    simp at hc
    simp[xM,<-hI,uP,hc]
   ·simp only[go_sem,h',h0,h4]
    simp at hb hc
    have hk2:uP l[k]=true:=by simp[uP,hb,hc]
    have hx:iZ en (St.get (fun i=>fr i) (.t 3)) 1 ((l.take k).map fun c=>Val.str c.name) [34]:=h3
    refine zL (D:=[34]) (xs:=(l.take k).map fun c=>Val.str c.name) (ys:=[.str l[k].name]) (rs:=[]) ?_ ?_ ?_ ?_ ?_
    ·simp only[go_sem];exact h3
    ·simp only[go_sem]
    ·rfl
    ·simp;omega
    ·intro v en' cnt' hown hen hcnt;simp only[go_sem,h4]
     refine⟨_,_,_,rfl,?_⟩
     simp only[go_sem,h0,aQ h' hf]
     refine⟨?_,?_⟩
     ·exact iZ.sub (by rw[iP h',bPn];exact hown) (by simp)
     ·rw[<-hI,hk2];simp
  ·simp only[go_sem,kK,hb,bOs]
   simp at hb
   simp[xM,<-hI,uP,hb]
 ·have:k=l.length:=by simp at h;omega
  subst this;have ha:l.all uP=true:=by rw[<-hI];simp
  simp only[go_sem,kK,h0]
  refine aG (fun hb=>?_) (fun hb=>?_)
  ·rw[bPt]at h3;have hmap:(l.map fun c=>Val.str c.name)=(l.map cD.name).map .str:=by simp
   simp only[go_sem,kK,hb];obtain⟨r,ks,e1,_,e2,_⟩:=h3.snap 7;have hd:=aKx (l.map cD.name) (by simpa using hf)
   rw[<-hmap]at hd;simp only[go_sem,e1,e2,hd.ret]
   simp at hb
   simp[xM,ha,hb]
  ·simp only[go_sem,kK,hb]
   simp at hb
   simp[xM];intros;omega
theorem aFb (p:aI)(hp:p.few):PC L 48 [.agg p.cs] (.bool (aV p)):=by
 have hL:=at_ Tryz.func48
 conv at hL=>rhs;reduce
 refine aH hL rfl rfl ?_
 simp only[go_sem,kK]
 repeat' ((first|with_reducible refine aD (fun h=>?_) (fun h=>?_)|with_reducible refine aG (fun h=>?_) (fun h=>?_))<;>(try simp only[bRt,bRu,bOs]at h)<;>try simp only[go_sem,kK, *])
 all_goals (try simp only[Int.not_lt]at*)
 all_goals try(simp[aV, *];done)
 all_goals try(simp[aV, *];intros;omega)
 rename_i g1 g2
 refine bH (p.cons.length) (fun k st=> ∃fr en cnt,st=⟨fr,en,cnt⟩/\ (fr 1= .ptr ⟨0,1,0⟩ 0)/\ (en ⟨0,1,0⟩=some (.box p.cells false))/\ (fr 3= .i k)/\ ((p.cons.drop k).all (fun c=>decide ((c.name.size:Int)<=40))=p.cons.all fun c=>decide ((c.name.size:Int)<=40))) 0 (bOf _) ⟨_,_,_,rfl,(by first|(simp only[go_sem];(try rfl);done)|rfl|simp),(by first|(simp only[go_sem];(try rfl);done)|rfl|simp),(by first|(simp only[go_sem];(try rfl);done)|rfl|simp),(by first|(simp only[go_sem];(try rfl);done)|rfl|simp)⟩ ?_
 rintro k st hk ⟨fr,en,cnt,rfl,h1,e1,h3,hI⟩
 simp only[go_sem,kK,h1,e1,h3]
 refine aD (fun hq=>?_) (fun hq=>?_)
 ·have h':k<p.cons.length:=of_decide_eq_true hq;rw[fJ h']at hI;simp only[go_sem,kK,h',h1,e1,h3]
  refine aD (fun hb=>?_) (fun hb=>?_)
  ·simp only[go_sem,kK]
   simp at hb
   have:p.cons.all (fun c=>decide ((c.name.size:Int)<=40))=false:=by rw[<-hI];simp;intros;omega
   simp only[aV,this];simp
  ·simp only[go_sem,h3]
   simp at hb
   refine⟨_,_,_,rfl,?_⟩
   simp only[go_sem,h1,e1,aQ h' hp.cons];rw[<-hI];simp;intros;omega
 ·have:k=p.cons.length:=by simp at hq;omega
  subst this;have hcon:p.cons.all (fun c=>decide ((c.name.size:Int)<=40))=true:=by rw[<-hI];simp
  clear hI hq;simp only[go_sem]
  refine bH (p.nodes.length) (fun k st=> ∃fr en cnt,st=⟨fr,en,cnt⟩/\ (fr 1= .ptr ⟨0,1,0⟩ 0)/\ (en ⟨0,1,0⟩=some (.box p.cells false))/\ (fr 4= .i k)/\ ((p.nodes.drop k).all fK=p.nodes.all fK)) 0 (bOf _) ⟨_,_,_,rfl,(by first|(simp only[go_sem,h1];(try rfl);done)|rfl|simp),(by first|(simp only[go_sem,e1];(try rfl);done)|rfl|simp),(by first|(simp only[go_sem];(try rfl);done)|rfl|simp),(by first|(simp only[go_sem];(try rfl);done)|rfl|simp)⟩ ?_
  rintro k st hk ⟨fr,en,cnt,rfl,h1,e1,h4,hI⟩
  simp only[go_sem,kK,h1,e1,h4]
  refine aD (fun hq=>?_) (fun hq=>?_)
  ·have h':k<p.nodes.length:=of_decide_eq_true hq;have hx:=hp.node p.nodes[k] (bOg _);rw[fJ h']at hI;have fin:fK p.nodes[k]=false->Val.bool false=Val.bool (aV p):=by
    intro h;simp[aV,<-hI,h]
   simp only[go_sem,kK,h',h1,e1,h4]
   refine aG (fun hb=>?_) (fun hb=>?_)
   ·simp only[go_sem,kK,hb]
    simp at hb
    refine aD (fun hc=>?_) (fun hc=>?_)
    ·simp only[go_sem,kK]
     simp at hc
     exact fin (by simp[fK];intros;omega)
    ·simp only[go_sem]
     simp at hc
     generalize cnt 0 5=g5
     refine bH (p.nodes[k].pats.length) (fun j st=> ∃fr en cnt,st=⟨fr,en,cnt⟩/\ (fr 1= .ptr ⟨0,1,0⟩ 0)/\ (en ⟨0,1,0⟩=some (.box p.cells false))/\ (fr 5= .ptr ⟨0,5,g5⟩ 0)/\ (en ⟨0,5,g5⟩=some (.box [.i p.nodes[k].op,.i p.nodes[k].n,.is p.nodes[k].kids,.fz (p.nodes[k].pats.map Pat.enc)] false))/\ (fr 4= .i k)/\ (fr 6= .i j)/\ ((p.nodes[k].pats.drop j).all zP=p.nodes[k].pats.all zP)) 0 (bOf _) ⟨_,_,_,rfl,(by first|(simp only[go_sem,h1];(try rfl);done)|rfl|simp),(by first|(simp only[go_sem,e1];(try rfl);done)|rfl|simp),(by first|(simp only[go_sem];(try rfl);done)|rfl|simp),(by first|(simp only[go_sem];(try rfl);done)|rfl|simp),(by first|(simp only[go_sem,h4];(try rfl);done)|rfl|simp),(by first|(simp only[go_sem];(try rfl);done)|rfl|simp),(by first|(simp only[go_sem];(try rfl);done)|rfl|simp)⟩ ?_
     rintro j st hk ⟨fr,en,cnt,rfl,h1,e1,h5,e5,h4,h6,hJ⟩
     simp only[go_sem,kK,h5,e5,h6]
     refine aD (fun h2=>?_) (fun h2=>?_)
     ·have h2':j<p.nodes[k].pats.length:=of_decide_eq_true h2;rw[fJ h2']at hJ;simp only[go_sem,kK,h2',h5,e5,h6,(aG1 _ (hx.pat _ (bOg _))).ret]
      refine aD (fun hd=>?_) (fun hd=>?_)
      ·simp only[go_sem,kK]
       simp at hd
       exact fin (by simp[fK,<-hJ,hd])
      ·simp only[go_sem,h6]
       simp at hd
       refine⟨_,_,_,rfl,?_⟩
       simp only[go_sem,h1,e1,h5,e5,h4,aQ h2' hx.pats];rw[<-hJ,hd];simp
     ·have:j=p.nodes[k].pats.length:=by simp at h2;omega
      subst this;have hfr:fK p.nodes[k]=true:=by
       simp only[fK,<-hJ];simp;exact⟨by omega,by omega⟩
      simp only[go_sem,h4]
      refine⟨_,_,_,rfl,?_⟩
      simp only[go_sem,h1,e1,aQ h' hp.nodes];rw[<-hI,hfr];simp
   ·simp only[go_sem,kK,hb,bOs]
    simp at hb
    exact fin (by simp[fK];intros;omega)
  ·have:k=p.nodes.length:=by simp at hq;omega
   subst this;have hn:p.nodes.all fK=true:=by rw[<-hI];simp
   simp only[go_sem];simp only[aV,hcon,hn];simp[g1,g2,h]
theorem aQa (p:aI)(n:aL)(hp:p.few)(hn:n.few):PC L 99 [.agg p.cs,.agg [.i n.op,.i n.n,.fz (n.kids.map (.int .i64)),.fz (n.pats.map Pat.enc)]] (.bool (dZ p n)):=by
 have e1:IntKind.i64.wrap (0-(p.funs.length:Int))= -(p.funs.length:Int):=by have:=hp.funs;unfold Few at this;rw[aY (by omega)];omega
 have e2:=dN hp.cons;have hL:=at_ Tryz.func99
 conv at hL=>rhs;reduce
 refine aH hL rfl rfl ?_
 simp only[go_sem,aCc,Go.Abs.start]
 refine aA5 (fun st=>(st.fr 2= .ptr ⟨0,2,0⟩ 0)/\ (st.en ⟨0,2,0⟩=some (.box p.cells false))/\ (st.fr 3= .ptr ⟨0,3,0⟩ 0)/\ (st.en ⟨0,3,0⟩=some (.box [.i n.op,.i n.n,.is n.kids,.fz (n.pats.map Pat.enc)] false))/\ (st.fr 6= .bool (nB p n))/\ (st.fr 5= .i (oA p n))) ?_ ?_
 ·simp only[go_sem,kK]
  repeat' ((first|with_reducible refine aD (fun h=>?_) (fun h=>?_)|with_reducible refine aG (fun h=>?_) (fun h=>?_))<;>(try simp only[bRt,bRu]at h)<;>try simp only[go_sem,kK, *,(qB _ _ _).ret,aE9])
  all_goals simp[nB,oA, *]
 ·rintro fr en cnt ⟨(h2:fr 2= .ptr ⟨0,2,0⟩ 0),(e2:en ⟨0,2,0⟩=some (.box p.cells false)),(h3:fr 3= .ptr ⟨0,3,0⟩ 0),(e3:en ⟨0,3,0⟩=some (.box [.i n.op,.i n.n,.is n.kids,.fz (n.pats.map Pat.enc)] false)),(h6:fr 6= .bool (nB p n)),(h5:fr 5= .i (oA p n))⟩
  refine aA5 (fun st=>(st.fr 2= .ptr ⟨0,2,0⟩ 0)/\ (st.en ⟨0,2,0⟩=some (.box p.cells false))/\ (st.fr 3= .ptr ⟨0,3,0⟩ 0)/\ (st.en ⟨0,3,0⟩=some (.box [.i n.op,.i n.n,.is n.kids,.fz (n.pats.map Pat.enc)] false))/\ (st.fr 6= .bool (nB p n&&lA n))/\ (st.fr 5= .i (oA p n))) ?_ ?_
  ·simp only[go_sem,kK,h3,e3]
   repeat' ((first|with_reducible refine aD (fun h=>?_) (fun h=>?_)|with_reducible refine aG (fun h=>?_) (fun h=>?_))<;>(try simp only[bRt,bRu,bOn]at h)<;>try simp only[go_sem,kK, *,(qB _ _ _).ret])
   all_goals simp[lA, *]
  ·rintro fr en cnt ⟨(h2:fr 2= .ptr ⟨0,2,0⟩ 0),(e2:en ⟨0,2,0⟩=some (.box p.cells false)),(h3:fr 3= .ptr ⟨0,3,0⟩ 0),(e3:en ⟨0,3,0⟩=some (.box [.i n.op,.i n.n,.is n.kids,.fz (n.pats.map Pat.enc)] false)),(h6:fr 6= .bool (nB p n&&lA n)),(h5:fr 5= .i (oA p n))⟩
   have hb0:(nB p n&&lA n)=true->0<=(n.pats.length:Int)/\ (n.pats.length:Int)<=1000:=by
    intro h;simp only[bN8]at h;have:=h.2;unfold lA at this;split at this
    ·simp[inR]at this;omega
    ·simp at this;simp[this]
   have hres:dZ p n=(((nB p n&&lA n)&&n.pats.all (lZ p.cons))&&decide ((n.kids.length:Int)=eQ n.op n.pats.length (oA p n))):=rfl;rw[hres];clear hres e1;generalize (nB p n&&lA n)=b0 at h6 hb0
   refine aA5 (fun st=>st.fr 2= .ptr ⟨0,2,0⟩ 0/\ st.en ⟨0,2,0⟩=some (.box p.cells false)/\ st.fr 3= .ptr ⟨0,3,0⟩ 0/\ st.en ⟨0,3,0⟩=some (.box [.i n.op,.i n.n,.is n.kids,.fz (n.pats.map Pat.enc)] false)/\ st.fr 6= .bool (b0&&n.pats.all (lZ p.cons))/\ st.fr 5= .i (oA p n)) ?_ ?_
   ·simp only[go_sem,kK]
    refine bH n.pats.length (fun k st=> ∃fr en cnt b,st=⟨fr,en,cnt⟩/\ fr 2= .ptr ⟨0,2,0⟩ 0/\ en ⟨0,2,0⟩=some (.box p.cells false)/\ fr 3= .ptr ⟨0,3,0⟩ 0/\ en ⟨0,3,0⟩=some (.box [.i n.op,.i n.n,.is n.kids,.fz (n.pats.map Pat.enc)] false)/\ fr 5= .i (oA p n)/\ fr 7= .i k/\ fr 6= .bool b/\ (b&&(n.pats.drop k).all (lZ p.cons))=(b0&&n.pats.all (lZ p.cons))) 0 (bOf _) ⟨_,_,_,b0,rfl,by simp only[go_sem,h2],by simp only[go_sem,e2],by simp only[go_sem,h3],by simp only[go_sem,e3],by simp only[go_sem,h5],by simp only[go_sem],by simp only[go_sem,h6],rfl⟩ ?_
    rintro k st hk ⟨fr,en,cnt,b,rfl,h2,e2,h3,e3,h5,h7,h6,hI⟩
    simp only[go_sem,kK,h3,e3,h7]
    refine aG (fun hd=>?_) (fun hd=>?_)
    ·have h':k<n.pats.length:=of_decide_eq_true hd;have hm:n.pats[k]∈n.pats:=bOg _;rw[fJ h']at hI;simp only[go_sem,kK,hd,h6]
     refine aD (fun hb=>?_) (fun hb=>?_)
     ·rw[hb]at hI;simp only[go_sem,kK,h',h3,e3,h7,(yJ _ (hn.pat _ hm) 12 (by omega) (by omega)).ret]
      refine aG (fun hw=>?_) (fun hw=>?_)
      ·simp only[go_sem,kK,hw,h',h2,e2,h3,e3,h7,(aSv _ hp.cons _ (hn.pat _ hm)).ret]
       refine⟨_,_,_,qR p.cons n.pats[k],rfl,?_⟩
       simp only[go_sem,h2,e2,h3,e3,h5,aQ h' hn.pats];rw[<-hI];simp[lZ,of_decide_eq_true hw]
      ·simp only[go_sem,kK,hw,h7]
       refine⟨_,_,_,false,rfl,?_⟩
       simp only[go_sem,h2,e2,h3,e3,h5,aQ h' hn.pats]
       simp at hw
       rw[<-hI];simp[lZ];intros;omega
     ·simp only[go_sem,h',h2,e2,h3,e3,h5,h6];rw[<-hI,hb];simp
    ·have:k=n.pats.length:=by simp at hd;omega
     subst this;simp only[go_sem,kK,hd,h2,e2,h3,e3,h5,h6];rw[<-hI];simp
   ·rintro fr en cnt ⟨(h2:fr 2=_),(e2:en _=_),(h3:fr 3=_),(e3:en _=_),(h6:fr 6=_),(h5:fr 5=_)⟩
    generalize hbb:(b0&&n.pats.all (lZ p.cons))=b at h6⊢;simp only[go_sem,kK]
    refine zK ?_ ?_
    ·decide
    simp only[go_sem,kK,h6]
    refine aG (fun hd=>?_) (fun hd=>?_)
    ·have h0:b0=true:=by
      simp only[hd,bN8]at hbb;exact hbb.1
     simp only[go_sem,kK,hd,h3,e3,h5,(aP8 _ _ _ (hb0 h0)).ret]
    ·simp only[go_sem,kK,hd]
theorem aT9 {u:List Bool}{x:Int}(hu:u.length=n)(h:inR x 0 ((n:Int)-1)=true):0<=x/\ x<(n:Int)/\ (u.map Val.bool)[x.toNat]?=some (.bool (u.getD x.toNat false)):=by
 simp only[inR,bRt]at h;have hx:x.toNat<u.length:=by omega
 exact⟨by omega,by omega,by simp[bOd,hx]⟩
theorem aKy (p:aI)(hp:p.few)(hs:p.cons.length<=1000):PC L 38 [.agg p.cs] (.bool (eY p)):=by
 have w1:=dN hp.nodes;have w2:=dN hp.funs;have hL:=at_ Tryz.func38
 conv at hL=>rhs;reduce
 refine aH hL rfl rfl ?_
 simp only[go_sem,kK]
 repeat' ((first|with_reducible refine aD (fun h=>?_) (fun h=>?_)|with_reducible refine aG (fun h=>?_) (fun h=>?_))<;>(try simp only[bRt,bRu,bOs]at h)<;>try simp only[go_sem,kK, *,(qB _ _ _).ret,(aP9 _ hs hp.con).ret])
 all_goals (try simp only[bPg,Bool.not_eq_false',Int.not_lt]at*)
 all_goals try(simp[eY, *];done)
 all_goals try(simp[eY, *];intros;omega)
 rename_i g1 g2 g3;have hn:p.nodes.length<=16777216:=by omega
 have hfo:eY p=xN ((zQ 0 (p.nodes.length-1) (List.replicate p.nodes.length false) p.funs).bind fun u=>kM p 0 u p.nodes):=by simp[eY,g1,g2,g3,h]
 rw[hfo];clear hfo;simp only[go_sem,aYg hn]
 refine bH p.funs.length (fun k st=> ∃fr en cnt u,st=⟨fr,en,cnt⟩/\ (fr 1= .ptr ⟨0,1,0⟩ 0/\ en ⟨0,1,0⟩=some (.box p.cells false)/\ fr 3= .i p.nodes.length/\ fr 4= .bl ⟨0,40,0⟩ 0 p.nodes.length/\ en ⟨0,40,0⟩=some (.blk 1 (u.map Val.bool) false)/\ u.length=p.nodes.length)/\ fr 5= .i k/\ zQ 0 (p.nodes.length-1) u (p.funs.drop k)=zQ 0 (p.nodes.length-1) (List.replicate p.nodes.length false) p.funs) 0 (bOf _) ⟨_,_,_,List.replicate p.nodes.length false,rfl,⟨by simp only[go_sem],by simp only[go_sem],by simp only[go_sem],by simp only[go_sem],by simp only[go_sem,List.map_replicate],by simp⟩,by simp only[go_sem],rfl⟩ ?_
 rintro k st hk ⟨fr,en,cnt,u,rfl,⟨h1,e1,h3,h4,eu,hu⟩,h5,hI⟩
 simp only[go_sem,kK,h1,e1,h5]
 refine aD (fun hq=>?_) (fun hq=>?_)
 ·have h':k<p.funs.length:=of_decide_eq_true hq;rw[bO9 h',zQ]at hI;simp only[go_sem,kK,h',h1,e1,h3,h5,(qB _ _ _).ret,w1]
  refine aG (fun hb=>?_) (fun hb=>?_)
  ·simp at hb
   obtain⟨a1,a2,a3⟩:=aT9 hu hb;rw[hb]at hI;simp only[go_sem,kK,hb,bOn,h',h1,e1,h4,eu,h5,a1,a2,a3]
   refine aD (fun hc=>?_) (fun hc=>?_)
   ·simp only[go_sem,kK];rw[hc]at hI
    simp at hI
    rw[<-hI];rfl
   ·simp only[go_sem,h',h1,e1,h4,eu,h5,a1,a2,a3];rw[hc]at hI
    simp at hI
    refine⟨_,_,_,u.set p.funs[k].toNat true,rfl,?_⟩
    simp only[go_sem,h1,e1,h3,h4,<-bQi,aQ h' hp.funs];exact⟨by simp[hu],hI⟩
  ·simp only[go_sem,kK,hb,bOs]
   simp at hb
   rw[hb]at hI
   simp at hI
   rw[<-hI];rfl
 ·have:k=p.funs.length:=by simp at hq;omega
  subst this;rw[bP1,zQ]at hI;rw[<-hI];simp only[bQz];clear hq hI hk;generalize hM:kM p 0 u p.nodes=M;simp only[go_sem]
  refine bH p.nodes.length (fun k st=> ∃fr en cnt u,st=⟨fr,en,cnt⟩/\ (fr 1= .ptr ⟨0,1,0⟩ 0/\ en ⟨0,1,0⟩=some (.box p.cells false)/\ fr 3= .i p.nodes.length/\ fr 4= .bl ⟨0,40,0⟩ 0 p.nodes.length/\ en ⟨0,40,0⟩=some (.blk 1 (u.map Val.bool) false)/\ u.length=p.nodes.length)/\ fr 6= .i k/\ kM p k u (p.nodes.drop k)=M) 0 (bOf _) ⟨_,_,_,u,rfl,⟨by simp only[go_sem,h1],by simp only[go_sem,e1],by simp only[go_sem,h3],by simp only[go_sem,h4],by simp only[go_sem,eu],hu⟩,by simp only[go_sem],hM⟩ ?_
  clear hM h1 e1 h3 h4 eu hu h5
  rintro k st hk ⟨fr,en,cnt,u,rfl,⟨h1,e1,h3,h4,eu,hu⟩,h6,hI⟩
  simp only[go_sem,kK,h3,h6]
  refine aD (fun hq=>?_) (fun hq=>?_)
  ·have h':k<p.nodes.length:=of_decide_eq_true hq;have hx:=hp.node p.nodes[k] (bOg _);rw[bO9 h',kM]at hI;simp only[go_sem,kK,h',h1,e1,h6,(aQa p _ hp hx).ret]
   refine aD (fun hb=>?_) (fun hb=>?_)
   ·simp only[go_sem,kK]
    simp at hb
    rw[hb]at hI;rw[<-hI];rfl
   ·simp only[go_sem]
    simp at hb
    rw[hb]at hI;simp only[if_true]at hI;generalize hm:zQ ((k:Int)+1) (p.nodes.length-1) u p.nodes[k].kids=m at hI
    refine bH p.nodes[k].kids.length (fun j st=> ∃fr en cnt u,st=⟨fr,en,cnt⟩/\ (fr 1= .ptr ⟨0,1,0⟩ 0/\ en ⟨0,1,0⟩=some (.box p.cells false)/\ fr 3= .i p.nodes.length/\ fr 4= .bl ⟨0,40,0⟩ 0 p.nodes.length/\ en ⟨0,40,0⟩=some (.blk 1 (u.map Val.bool) false)/\ u.length=p.nodes.length)/\ fr 6= .i k/\ fr 7= .i j/\ zQ ((k:Int)+1) (p.nodes.length-1) u (p.nodes[k].kids.drop j)=m) 0 (bOf _) ⟨_,_,_,u,rfl,⟨by simp only[go_sem,h1],by simp only[go_sem,e1],by simp only[go_sem,h3],by simp only[go_sem,h4],by simp only[go_sem,eu],hu⟩,by simp only[go_sem,h6],by simp only[go_sem],hm⟩ ?_
    clear hm h1 e1 h3 h4 eu hu h6
    rintro j st hj ⟨fr,en,cnt,u,rfl,⟨h1,e1,h3,h4,eu,hu⟩,h6,h7,hJ⟩
    simp only[go_sem,kK,h',h1,e1,h6,h7]
    refine aD (fun h2=>?_) (fun h2=>?_)
    ·have h2':j<p.nodes[k].kids.length:=of_decide_eq_true h2;rw[bO9 h2',zQ]at hJ;have w3:IntKind.i64.wrap ((k:Int)+1)=(k:Int)+1:=aY (by omega)
     simp only[go_sem,kK,h',h2',h1,e1,h3,h6,h7,(qB _ _ _).ret,w1,w3]
     refine aG (fun hc=>?_) (fun hc=>?_)
     ·simp at hc
      have hc0:inR p.nodes[k].kids[j] 0 ((p.nodes.length:Int)-1)=true:=by simp[inR]at hc⊢;omega
      obtain⟨a1,a2,a3⟩:=aT9 hu hc0;rw[hc]at hJ;simp only[go_sem,kK,hc,bOn,h4,eu,a1,a2,a3]
      refine aD (fun hd=>?_) (fun hd=>?_)
      ·simp only[go_sem,kK];rw[hd]at hJ
       simp at hJ
       rw[<-hI,<-hJ];rfl
      ·simp only[go_sem,h4,eu,h7,a1,a2,a3];rw[hd]at hJ
       simp at hJ
       refine⟨_,_,_,u.set p.nodes[k].kids[j].toNat true,rfl,?_⟩
       simp only[go_sem,h1,e1,h3,h4,h6,<-bQi,aQ h2' hx.kids];exact⟨by simp[hu],hJ⟩
     ·simp only[go_sem,kK,hc,bOs]
      simp at hc
      rw[hc]at hJ
      simp at hJ
      rw[<-hI,<-hJ];rfl
    ·have:j=p.nodes[k].kids.length:=by simp at h2;omega
     subst this;rw[bP1,zQ]at hJ;rw[<-hJ]at hI;simp only[bQz]at hI;simp only[go_sem,h6]
     refine⟨_,_,_,u,rfl,?_⟩
     simp only[go_sem,h1,e1,h3,h4,eu,hu,aQ h' hp.nodes];exact hI
  ·have:k=p.nodes.length:=by simp at hq;omega
   subst this;rw[bP1,kM]at hI;rw[<-hI];simp only[xN];simp only[go_sem]
   refine bH p.nodes.length (fun k st=> ∃fr en cnt,st=⟨fr,en,cnt⟩/\ fr 3= .i p.nodes.length/\ fr 4= .bl ⟨0,40,0⟩ 0 p.nodes.length/\ en ⟨0,40,0⟩=some (.blk 1 (u.map Val.bool) false)/\ fr 9= .i k/\ (u.drop k).all id=u.all id) 0 (bOf _) ⟨_,_,_,rfl,by simp only[go_sem,h3],by simp only[go_sem,h4],by simp only[go_sem,eu],by simp only[go_sem],rfl⟩ ?_
   clear h1 e1 h3 h4 eu h6 hI hq hk
   rintro k st hk ⟨fr,en,cnt,rfl,h3,h4,eu,h9,hI⟩
   simp only[go_sem,kK,h3,h9]
   refine aD (fun hq=>?_) (fun hq=>?_)
   ·have h':k<p.nodes.length:=of_decide_eq_true hq;have h'':k<u.length:=by omega
    rw[fJ h'']at hI;have a3:(u.map Val.bool)[k]?=some (.bool u[k]):=by simp[h'']
    simp only[go_sem,kK,h',h4,eu,h9,a3,bQo,bPc]
    refine aD (fun hb=>?_) (fun hb=>?_)
    ·simp only[go_sem,kK]
     simp at hb
     rw[<-hI,hb];rfl
    ·simp only[go_sem,h9]
     simp at hb
     refine⟨_,_,_,rfl,?_⟩
     simp only[go_sem,h3,h4,eu,aQ h' hp.nodes];rw[<-hI,hb];simp
   ·have:k=p.nodes.length:=by simp at hq;omega
    subst this;simp only[go_sem];rw[<-hI,List.drop_eq_nil_of_le (by omega)];rfl
variable {k:Nat}
theorem qJ {α:Type}{a b:List α}(ha:k<a.length)(hb:k<b.length)(h:a.take k=b.take k)(he:a[k]=b[k]):a.take (k+1)=b.take (k+1):=by
 rw[iP ha,iP hb,h,he]
theorem qK {α:Type}{a b:List α}(hl:a.length=b.length)(h:a.take a.length=b.take a.length):a=b:=by
 rw[bPt,hl,bPt]at h;exact h
theorem aBt {α:Type}{a b:List α}(ha:k<a.length)(hb:k<b.length)(h: ¬a[k]=b[k]): ¬a=b:=by
 rintro rfl;exact h rfl
theorem yK (a b:List Int)(ha:Few a.length):PC L 71 [.is a,.is b] (.bool (decide (a=b))):=by
 have hL:=at_ Tryz.func71
 conv at hL=>rhs;reduce
 refine aH hL rfl rfl ?_
 simp only[go_sem,kK]
 refine aD (fun h=>?_) (fun h=>?_)
 ·simp only[go_sem,kK]
  simp at h
  have: ¬a=b:=by rintro rfl;exact h rfl
  simp[this]
 ·have hl:a.length=b.length:=by simp at h;exact h
  simp only[go_sem]
  refine bH (a.length) (fun k st=> ∃fr en cnt,st=⟨fr,en,cnt⟩/\ (fr 0= .is a)/\ (fr 1= .is b)/\ (fr 5= .i k)/\ (a.take k=b.take k)) 0 (bOf _) ⟨_,_,_,rfl,(by first|(simp only[go_sem];(try rfl);done)|rfl|simp),(by first|(simp only[go_sem];(try rfl);done)|rfl|simp),(by first|(simp only[go_sem];(try rfl);done)|rfl|simp),(by first|(simp only[go_sem];(try rfl);done)|rfl|simp)⟩ ?_
  rintro k st hk ⟨fr,en,cnt,rfl,h0,h1,h5,hI⟩
  simp only[go_sem,kK,h0,h5]
  refine aD (fun hq=>?_) (fun hq=>?_)
  ·have h':k<a.length:=of_decide_eq_true hq;have h'':k<b.length:=by omega
   simp only[go_sem,kK,h',h'',h0,h1,h5]
   refine aD (fun hb=>?_) (fun hb=>?_)
   ·simp only[go_sem,kK]
    simp at hb
    simp[aBt h' h'' hb]
   ·simp only[go_sem,h5]
    simp at hb
    refine⟨_,_,_,rfl,?_⟩
    simp only[go_sem,h0,h1,aQ h' ha];exact qJ h' h'' hI hb
  ·have:k=a.length:=by simp at hq;omega
   subst this;simp only[go_sem];simp[qK hl hI]
theorem aE.eq_iff {a b:aE}:(decide (a.kind=b.kind)&&decide (a.n=b.n))=decide (a=b):=by
 cases a;cases b;simp
theorem bJ.eq_iff {a b:bJ}:(decide (a.port=b.port)&&decide (a.n=b.n))=decide (a=b):=by
 cases a;cases b;simp
theorem rK (a b:List aE)(ha:Few a.length):PC L 125 [.fz (a.map aE.enc),.fz (b.map aE.enc)] (.bool (decide (a=b))):=by
 refine aH bH3 rfl rfl ?_
 simp only[go_sem,kK,bC6]
 refine aD (fun h=>?_) (fun h=>?_)
 ·simp only[go_sem,kK]
  simp at h
  have: ¬a=b:=by rintro rfl;exact h rfl
  simp[this]
 ·have hl:a.length=b.length:=by simp at h;exact h
  simp only[go_sem]
  refine bH (a.length) (fun k st=> ∃fr en cnt,st=⟨fr,en,cnt⟩/\ (fr 0= .fz (a.map aE.enc))/\ (fr 1= .fz (b.map aE.enc))/\ (fr 5= .i k)/\ (a.take k=b.take k)) 0 (bOf _) ⟨_,_,_,rfl,(by first|(simp only[go_sem];(try rfl);done)|rfl|simp),(by first|(simp only[go_sem];(try rfl);done)|rfl|simp),(by first|(simp only[go_sem];(try rfl);done)|rfl|simp),(by first|(simp only[go_sem];(try rfl);done)|rfl|simp)⟩ ?_
  rintro k st hk ⟨fr,en,cnt,rfl,h0,h1,h5,hI⟩
  simp only[go_sem,kK,h0,h5]
  refine aD (fun hq=>?_) (fun hq=>?_)
  ·have h':k<a.length:=of_decide_eq_true hq;have h'':k<b.length:=by omega
   simp only[go_sem,kK,h',h'',h0,h1,h5,aE.eq_iff]
   refine aD (fun hb=>?_) (fun hb=>?_)
   ·simp only[go_sem,kK]
    simp at hb
    simp[aBt h' h'' hb]
   ·simp only[go_sem,h5]
    simp at hb
    refine⟨_,_,_,rfl,?_⟩
    simp only[go_sem,h0,h1,aQ h' ha];exact qJ h' h'' hI hb
  ·have:k=a.length:=by simp at hq;omega
   subst this;simp only[go_sem];simp[qK hl hI]
theorem aG2 (a b:List bJ)(ha:Few a.length):PC L 72 [.fz (a.map bJ.enc),.fz (b.map bJ.enc)] (.bool (decide (a=b))):=by
 refine aH bMf rfl rfl ?_
 simp only[go_sem,kK,bH2]
 refine aD (fun h=>?_) (fun h=>?_)
 ·simp only[go_sem,kK]
  simp at h
  have: ¬a=b:=by rintro rfl;exact h rfl
  simp[this]
 ·have hl:a.length=b.length:=by simp at h;exact h
  simp only[go_sem]
  refine bH (a.length) (fun k st=> ∃fr en cnt,st=⟨fr,en,cnt⟩/\ (fr 0= .fz (a.map bJ.enc))/\ (fr 1= .fz (b.map bJ.enc))/\ (fr 5= .i k)/\ (a.take k=b.take k)) 0 (bOf _) ⟨_,_,_,rfl,(by first|(simp only[go_sem];(try rfl);done)|rfl|simp),(by first|(simp only[go_sem];(try rfl);done)|rfl|simp),(by first|(simp only[go_sem];(try rfl);done)|rfl|simp),(by first|(simp only[go_sem];(try rfl);done)|rfl|simp)⟩ ?_
  rintro k st hk ⟨fr,en,cnt,rfl,h0,h1,h5,hI⟩
  simp only[go_sem,kK,h0,h5]
  refine aD (fun hq=>?_) (fun hq=>?_)
  ·have h':k<a.length:=of_decide_eq_true hq;have h'':k<b.length:=by omega
   simp only[go_sem,kK,h',h'',h0,h1,h5,bJ.eq_iff]
   refine aD (fun hb=>?_) (fun hb=>?_)
   ·simp only[go_sem,kK]
    simp at hb
    simp[aBt h' h'' hb]
   ·simp only[go_sem,h5]
    simp at hb
    refine⟨_,_,_,rfl,?_⟩
    simp only[go_sem,h0,h1,aQ h' ha];exact qJ h' h'' hI hb
  ·have:k=a.length:=by simp at hq;omega
   subst this;simp only[go_sem];simp[qK hl hI]
theorem aJc (a b:aR)(ha:a.few):PC L 73 [.agg [.i a.form,.i a.n,.fz (a.vals.map aE.enc),.fz (a.frames.map aA.enc)],.agg [.i b.form,.i b.n,.fz (b.vals.map aE.enc),.fz (b.frames.map aA.enc)]] (.bool (decide (a=b))):=by
 have ne:(¬a.form=b.form \/ ¬a.n=b.n \/ ¬a.vals=b.vals \/ ¬a.frames=b.frames)->Val.bool false=Val.bool (decide (a=b)):=by
  intro h;have: ¬a=b:=by rintro rfl;simp at h
  simp[this]
 have hL:=at_ Tryz.func73
 conv at hL=>rhs;reduce
 refine aH hL rfl rfl ?_
 simp only[go_sem,kK]
 refine aG (fun g1=>?_) (fun g1=>?_)
 ·simp only[go_sem,kK,g1]
  refine aG (fun g2=>?_) (fun g2=>?_)
  ·simp only[go_sem,kK,g2,(rK _ _ ha.1).ret]
   refine aG (fun g3=>?_) (fun g3=>?_)
   ·simp only[go_sem,kK,g3]
    refine aD (fun g4=>?_) (fun g4=>?_)
    ·simp only[go_sem,kK]
     simp at g4
     exact ne (.inr (.inr (.inr (by intro e;rw[e]at g4;exact g4 rfl))))
    ·have hl:a.frames.length=b.frames.length:=by simp at g4;exact g4
     simp only[go_sem]
     refine bH (a.frames.length) (fun k st=> ∃fr en cnt,st=⟨fr,en,cnt⟩/\ (fr 2= .ptr ⟨0,2,0⟩ 0)/\ (en ⟨0,2,0⟩=some (.box [.i a.form,.i a.n,.fz (a.vals.map aE.enc),.fz (a.frames.map aA.enc)] false))/\ (fr 3= .ptr ⟨0,3,0⟩ 0)/\ (en ⟨0,3,0⟩=some (.box [.i b.form,.i b.n,.fz (b.vals.map aE.enc),.fz (b.frames.map aA.enc)] false))/\ (fr 5= .i k)/\ (a.frames.take k=b.frames.take k)) 0 (bOf _) ⟨_,_,_,rfl,(by first|(simp only[go_sem];(try rfl);done)|rfl|simp),(by first|(simp only[go_sem];(try rfl);done)|rfl|simp),(by first|(simp only[go_sem];(try rfl);done)|rfl|simp),(by first|(simp only[go_sem];(try rfl);done)|rfl|simp),(by first|(simp only[go_sem];(try rfl);done)|rfl|simp),(by first|(simp only[go_sem];(try rfl);done)|rfl|simp)⟩ ?_
     rintro k st hk ⟨fr,en,cnt,rfl,h2,e2,h3,e3,h5,hI⟩
     simp only[go_sem,kK,h2,e2,h5]
     refine aD (fun hq=>?_) (fun hq=>?_)
     ·have h':k<a.frames.length:=of_decide_eq_true hq;have h'':k<b.frames.length:=by omega
      have hx:=ha.2.2 a.frames[k] (bOg _);simp only[go_sem]
      refine aJ ?_
      simp only[go_sem,kK,h',h'',h2,e2,h3,e3,h5,kA];have fin: ¬a.frames[k]=b.frames[k]->Val.bool false=Val.bool (decide (a=b)):=fun h=>ne (.inr (.inr (.inr (aBt h' h'' h))))
      refine aG (fun g5=>?_) (fun g5=>?_)
      ·simp only[go_sem,kK,g5,(rK _ _ hx.1).ret]
       refine aG (fun g6=>?_) (fun g6=>?_)
       ·simp only[go_sem,kK,g6,(rK _ _ hx.2).ret]
        refine aD (fun g7=>?_) (fun g7=>?_)
        ·simp only[go_sem,kK]
         simp at g7
         exact fin fun e=>g7 (by rw[e])
        ·simp only[go_sem,h5]
         simp at g5 g6 g7
         refine⟨_,_,_,rfl,?_⟩
         simp only[go_sem,h2,e2,h3,e3,aQ h' ha.2.1]
         refine qJ h' h'' hI ?_
         generalize a.frames[k]=x at*;generalize b.frames[k]=y at*;cases x;cases y;simp only at g5 g6 g7;subst g5 g6 g7;rfl
       ·simp only[go_sem,kK,g6,bOs]
        simp at g6
        exact fin fun e=>g6 (by rw[e])
      ·simp only[go_sem,kK,g5,bOs]
       simp at g5
       exact fin fun e=>g5 (by rw[e])
     ·have:k=a.frames.length:=by simp at hq;omega
      subst this;simp only[go_sem]
      simp at g1 g2 g3
      have:a=b:=by
       have hf:=qK hl hI;cases a;cases b;simp only at g1 g2 g3 hf;subst g1 g2 g3 hf;rfl
      simp[this]
   ·simp only[go_sem,kK,g3,bOs]
    simp at g3
    exact ne (.inr (.inr (.inl g3)))
  ·simp only[go_sem,kK,g2,bOs]
   simp at g2
   exact ne (.inr (.inl g2))
 ·simp only[go_sem,kK,g1,bOs]
  simp at g1
  exact ne (.inl g1)
theorem aQb (a b:aB)(ha:a.few):PC L 20 [.agg a.cs,.agg b.cs] (.bool (decide (a=b))):=by
 have ne:(¬a.objs=b.objs \/ ¬a.tasks=b.tasks \/ ¬a.outs=b.outs \/ ¬a.ins=b.ins \/ ¬a.used=b.used)->Val.bool false=Val.bool (decide (a=b)):=by
  intro h;have: ¬a=b:=by rintro rfl;simp at h
  simp[this]
 have hL:=at_ Tryz.func20
 conv at hL=>rhs;reduce
 refine aH hL rfl rfl ?_
 simp only[go_sem,kK]
 refine aG (fun g1=>?_) (fun g1=>?_)
 ·simp only[go_sem,kK,g1,(yK _ _ ha.tasks).ret]
  refine aG (fun g2=>?_) (fun g2=>?_)
  ·simp only[go_sem,kK,g2,(aG2 _ _ ha.outs).ret]
   refine aG (fun g3=>?_) (fun g3=>?_)
   ·simp only[go_sem,kK,g3,(yK _ _ ha.ins).ret]
    refine aG (fun g4=>?_) (fun g4=>?_)
    ·simp only[go_sem,kK,g4]
     refine aD (fun g5=>?_) (fun g5=>?_)
     ·simp only[go_sem,kK]
      simp at g5
      exact ne (.inr (.inr (.inr (.inr g5))))
     ·have hl:a.objs.length=b.objs.length:=by simp at g1;exact g1
      simp only[go_sem]
      refine bH (a.objs.length) (fun k st=> ∃fr en cnt,st=⟨fr,en,cnt⟩/\ (fr 2= .ptr ⟨0,2,0⟩ 0)/\ (en ⟨0,2,0⟩=some (.box a.cells false))/\ (fr 3= .ptr ⟨0,3,0⟩ 0)/\ (en ⟨0,3,0⟩=some (.box b.cells false))/\ (fr 5= .i k)/\ (a.objs.take k=b.objs.take k)) 0 (bOf _) ⟨_,_,_,rfl,(by first|(simp only[go_sem];(try rfl);done)|rfl|simp),(by first|(simp only[go_sem];(try rfl);done)|rfl|simp),(by first|(simp only[go_sem];(try rfl);done)|rfl|simp),(by first|(simp only[go_sem];(try rfl);done)|rfl|simp),(by first|(simp only[go_sem];(try rfl);done)|rfl|simp),(by first|(simp only[go_sem];(try rfl);done)|rfl|simp)⟩ ?_
      rintro k st hk ⟨fr,en,cnt,rfl,h2,e2,h3,e3,h5,hI⟩
      simp only[go_sem,kK,h2,e2,h5]
      refine aD (fun hq=>?_) (fun hq=>?_)
      ·have h':k<a.objs.length:=of_decide_eq_true hq;have h'':k<b.objs.length:=by omega
       simp only[go_sem,kK,h',h'',h2,e2,h3,e3,h5,(aJc _ _ (ha.obj _ (bOg h'))).ret]
       refine aD (fun g6=>?_) (fun g6=>?_)
       ·simp only[go_sem,kK]
        simp at g6
        exact ne (.inl (aBt h' h'' g6))
       ·simp only[go_sem,h5]
        simp at g6
        refine⟨_,_,_,rfl,?_⟩
        simp only[go_sem,h2,e2,h3,e3,aQ h' ha.objs];exact qJ h' h'' hI g6
      ·have:k=a.objs.length:=by simp at hq;omega
       subst this;simp only[go_sem]
       simp at g2 g3 g4 g5
       have:a=b:=by
        have hf:=qK hl hI;cases a;cases b;simp only at g2 g3 g4 g5 hf;subst g2 g3 g4 g5 hf;rfl
       simp[this]
    ·simp only[go_sem,kK,g4,bOs]
     simp at g4
     exact ne (.inr (.inr (.inr (.inl g4))))
   ·simp only[go_sem,kK,g3,bOs]
    simp at g3
    exact ne (.inr (.inr (.inl g3)))
  ·simp only[go_sem,kK,g2,bOs]
   simp at g2
   exact ne (.inr (.inl g2))
 ·simp only[go_sem,kK,g1,bOs]
  simp at g1
  exact ne (.inl fun e=>g1 (by rw[e]))
variable {x:List Val}
theorem aVq (h:jA Tryz.prog (n+2) 58 x): ∃a:aE,rI Tryz.prog 58 x=aE.enc a/\ True:=by
 have h1:=gZ Tryz.underlying58 h;simp only[mG]at h1;obtain⟨a,b,rfl,_,ha,c,d,rfl,_,hc,rfl⟩:=h1;obtain⟨i,rfl⟩:=iI (k:= .i64) (by first|exact Tryz.underlying56|kernel_rfl) ha
 obtain⟨j,rfl⟩:=iI Tryz.underlying3 hc;exact⟨⟨i,j⟩,by simp[rI,cQ,Tryz.underlying58,aE.enc],trivial⟩
theorem wI (h:jA Tryz.prog (n+2) 23 x): ∃l:List Int,x=[.fz (l.map (.int .i64))]/\ Few l.length:=by
 obtain⟨l,h1,h2,_⟩:=jT (Val.int .i64) (fun _=>True) Tryz.underlying23 (fun y hy=>by
  obtain⟨i,rfl⟩:=iI Tryz.underlying3 hy;exact⟨i,by simp[rI,cQ,Tryz.underlying3],trivial⟩) h
 exact⟨l,h1,h2⟩
theorem aFc (h:jA Tryz.prog (n+3) 111 x): ∃l:List aE,x=[.fz (l.map aE.enc)]/\ Few l.length:=by
 obtain⟨l,h1,h2,_⟩:=jT aE.enc (fun _=>True) Tryz.underlying111 (fun y hy=>aVq hy) h
 exact⟨l,h1,h2⟩
theorem aQc (h:jA Tryz.prog (n+4) 123 x): ∃a:aA,rI Tryz.prog 123 x=aA.enc a/\ a.few:=by
 have h1:=gZ Tryz.underlying123 h;simp only[mG]at h1;obtain⟨a,b,rfl,_,ha,c,d,rfl,_,hc,e,f,rfl,_,he,rfl⟩:=h1;obtain⟨i,rfl⟩:=iI Tryz.underlying3 ha;obtain⟨l,rfl,hl⟩:=aFc hc;obtain⟨m,rfl,hm⟩:=aFc he;exact⟨⟨i,l,m⟩,by simp[rI,cQ,Tryz.underlying123,aA.enc],hl,hm⟩
theorem aQd (h:jA Tryz.prog (n+5) 112 x): ∃l:List aA,x=[.fz (l.map aA.enc)]/\ Few l.length/\ ∀f∈l,f.few:=
 jT aA.enc aA.few Tryz.underlying112 (fun y hy=>aQc hy) h
theorem aVr (h:jA Tryz.prog (n+6) 114 x): ∃a:aR,rI Tryz.prog 114 x=aR.enc a/\ a.few:=by
 have h1:=gZ Tryz.underlying114 h;simp only[mG]at h1;obtain⟨a,b,rfl,_,ha,c,d,rfl,_,hc,e,f,rfl,_,he,g,k,rfl,_,hg,rfl⟩:=h1;obtain⟨i,rfl⟩:=iI (k:= .i64) (by first|exact Tryz.underlying110|kernel_rfl) ha
 obtain⟨j,rfl⟩:=iI Tryz.underlying3 hc;obtain⟨l,rfl,hl⟩:=aFc he;obtain⟨m,rfl,hm,hm2⟩:=aQd hg;exact⟨⟨i,j,l,m⟩,by simp[rI,cQ,Tryz.underlying114,aR.enc],hl,hm,hm2⟩
theorem aVs (h:jA Tryz.prog (n+2) 145 x): ∃a:bJ,rI Tryz.prog 145 x=bJ.enc a/\ True:=by
 have h1:=gZ Tryz.underlying145 h;simp only[mG]at h1;obtain⟨a,b,rfl,_,ha,c,d,rfl,_,hc,rfl⟩:=h1;obtain⟨i,rfl⟩:=iI Tryz.underlying3 ha;obtain⟨j,rfl⟩:=iI Tryz.underlying3 hc;exact⟨⟨i,j⟩,by simp[rI,cQ,Tryz.underlying145,bJ.enc],trivial⟩
theorem aQe (h:jA Tryz.prog (n+8) 39 x): ∃w:aB,x=[.fz (w.objs.map aR.enc),.fz (w.tasks.map (.int .i64)),.fz (w.outs.map bJ.enc),.fz (w.ins.map (.int .i64)),.i w.used]/\ w.few:=by
 have h1:=gZ Tryz.underlying39 h;simp only[mG]at h1;obtain⟨a,b,rfl,_,ha,c,d,rfl,_,hc,e,f,rfl,_,he,g,k,rfl,_,hg,r,q,rfl,_,hr,rfl⟩:=h1;obtain⟨l1,rfl,f1,f1'⟩:=jT aR.enc aR.few Tryz.underlying36 (fun y hy=>aVr hy) ha
 obtain⟨l2,rfl,f2⟩:=wI hc;obtain⟨l3,rfl,f3,_⟩:=jT bJ.enc (fun _=>True) Tryz.underlying37 (fun y hy=>aVs hy) he
 obtain⟨l4,rfl,f4⟩:=wI hg;obtain⟨i,rfl⟩:=iI Tryz.underlying3 hr;exact⟨⟨l1,l2,l3,l4,i⟩,rfl,⟨f1,f2,f3,f4,f1'⟩⟩
theorem aQf : ∀(n:Nat) {x:List Val},jA Tryz.prog n 155 x-> ∃q:Pat,rI Tryz.prog 155 x=Pat.enc q/\ q.few
 |0,x,h=>by simp[jA]at h
 |1,x,h=>by
  have h1:=gZ Tryz.underlying155 h;simp only[mG]at h1;obtain⟨a,b,rfl,_,ha,_⟩:=h1;simp[jA]at ha
 |n+2,x,h=>by
  have h1:=gZ Tryz.underlying155 h;simp only[mG]at h1;obtain⟨a,b,rfl,_,ha,c,d,rfl,_,hc,e,f,rfl,_,he,g,k,rfl,_,hg,rfl⟩:=h1;obtain⟨i,rfl⟩:=iI (k:= .i64) (by first|exact Tryz.underlying153|kernel_rfl) ha
  obtain⟨j,rfl⟩:=iI Tryz.underlying3 hc;obtain⟨t,rfl,ht⟩:=aPw (by first|exact Tryz.underlying9|kernel_rfl) he
  obtain⟨l,rfl,hl,hq⟩:=jT Pat.enc Pat.few Tryz.underlying139 (fun y hy=>aQf n hy) hg
  exact⟨.mk i j t l,by simp[rI,cQ,Tryz.underlying155,Pat.enc,Pat.encL_map],.mk i j t l hl ht hq⟩
theorem aSw (h:jA Tryz.prog (n+4) 141 x): ∃a:aL,rI Tryz.prog 141 x=aL.enc a/\ a.few:=by
 have h1:=gZ Tryz.underlying141 h;simp only[mG]at h1;obtain⟨a,b,rfl,_,ha,c,d,rfl,_,hc,e,f,rfl,_,he,g,k,rfl,_,hg,rfl⟩:=h1;obtain⟨i,rfl⟩:=iI (k:= .i64) (by first|exact Tryz.underlying55|kernel_rfl) ha
 obtain⟨j,rfl⟩:=iI Tryz.underlying3 hc;obtain⟨l,rfl,hl⟩:=wI he;obtain⟨m,rfl,hm,hm2⟩:=jT Pat.enc Pat.few Tryz.underlying139 (fun y hy=>aQf _ hy) hg
 exact⟨⟨i,j,l,m⟩,by simp[rI,cQ,Tryz.underlying141,aL.enc,aPr],⟨hl,hm,hm2⟩⟩
theorem aVt (h:jA Tryz.prog (n+2) 151 x): ∃a:cD,rI Tryz.prog 151 x=cD.enc a/\ Few a.name.size:=by
 have h1:=gZ Tryz.underlying151 h;simp only[mG]at h1;obtain⟨a,b,rfl,_,ha,c,d,rfl,_,hc,rfl⟩:=h1;obtain⟨t,rfl,ht⟩:=aPw (by first|exact Tryz.underlying9|kernel_rfl) ha
 obtain⟨j,rfl⟩:=iI Tryz.underlying3 hc;exact⟨⟨t,j⟩,by simp[rI,cQ,Tryz.underlying151,cD.enc],ht⟩
theorem aSx (h:jA Tryz.prog (n+6) 26 x): ∃p:aI,x=[.fz (p.nodes.map aL.enc),.fz (p.funs.map (.int .i64)),.i p.main,.fz (p.cons.map cD.enc)]/\ p.few:=by
 have h1:=gZ Tryz.underlying26 h;simp only[mG]at h1;obtain⟨a,b,rfl,_,ha,c,d,rfl,_,hc,e,f,rfl,_,he,g,k,rfl,_,hg,rfl⟩:=h1;obtain⟨l1,rfl,f1,f1'⟩:=jT aL.enc aL.few Tryz.underlying22 (fun y hy=>aSw hy) ha
 obtain⟨l2,rfl,f2⟩:=wI hc;obtain⟨i,rfl⟩:=iI Tryz.underlying3 he;obtain⟨l3,rfl,f3,f3'⟩:=jT cD.enc (fun c=>Few c.name.size) Tryz.underlying24 (fun y hy=>aVt hy) hg
 exact⟨⟨l1,l2,i,l3⟩,rfl,⟨f1,f2,f3,f1',f3'⟩⟩
def bH6 (v:aE):Bool:=decide (v.kind=5)
def aNo (l:List aE):List Int:=(l.filter bH6).map aE.n
def aVu (f:aA):List Int:=aNo f.env++aNo f.vals
def aJd (o:aR):List Int:=aNo o.vals++o.frames.flatMap aVu
def T4 :List Nat:=[2,3,5,6]
def aDu (c0:Nat->Nat)(en en':En):Prop:= ∀n t g,(n≠0 \/t∉T4 \/g<c0 t)->en' ⟨n,t,g⟩=en ⟨n,t,g⟩
def bEy (c0:Nat->Nat)(en en':En):Prop:= ∀t g,t∈T4->c0 t<=g->en' ⟨0,t,g⟩=en ⟨0,t,g⟩
structure bMg (k:Key) (c0:Nat->Nat) (I:List Int->En->(Nat->Nat->Nat)->Prop) (F:En->(Nat->Nat->Nat)->Prop):Prop where
 stable: ∀r en cnt en' cnt',I r en cnt->aDu c0 en en'->(∀n t,t∉T4->cnt' n t=cnt n t)->(∀t∈T4,c0 t<=cnt' 0 t)->I r en' cnt'
 round: ∀x iT en cnt,I (x::iT) en cnt->WIn L (.yld k) [.i x] en cnt fun v en' cnt'=>bEy c0 en en'/\ (∀t∈T4,cnt' 0 t=cnt 0 t)/\ ((v= .bool true/\ I iT en' cnt') \/(v= .bool false/\ F en' cnt'))
variable {c0:Nat->Nat}
section
variable {k :Key}{I:List Int->En->(Nat->Nat->Nat)->Prop}{G:En->(Nat->Nat->Nat)->Prop}{a b:Nat}
end
variable {y:List Val}{f:Nat}
theorem bEz :Val.one (.fn f x y)=true:=(rfl)
theorem aYt :Val.cells (.fn f x y)=[.fn f x y]:=(rfl)
theorem aDu.trans {x y z:En}(h:aDu c0 x y)(h':aDu c0 y z):aDu c0 x z:=fun n t g k=>(h' n t g k).trans (h n t g k)
theorem aYu (l:List cD)(h:Val)(p:cD->Bool)(hl:Few l.length)(hc:dJ L (fun x:cD=> .agg [.str x.name,.i x.args]) h p l):
  PC L 348 [.fz (l.map cD.enc),h] (.i (idxOf p l 0)):=by
 have hL:=at_ Tryz.func348
 conv at hL=>rhs;reduce
 refine aH hL rfl rfl ?_
 simp only[go_sem,kK]
 refine bH (l.length) (fun k st=> ∃fr en cnt,st=⟨fr,en,cnt⟩/\ (fr 0= .fz (l.map cD.enc))/\ (fr 1=h)/\ (fr 7= .i l.length)/\ (fr 8= .i k)/\ (idxOf p (l.drop k) k=idxOf p l 0)) 0 (bOf _) ⟨_,_,_,rfl,(by first|(simp only[go_sem];(try rfl);done)|rfl|simp),(by first|(simp only[go_sem];(try rfl);done)|rfl|simp),(by first|(simp only[go_sem];(try rfl);done)|rfl|simp),(by first|(simp only[go_sem];(try rfl);done)|rfl|simp),(by first|(simp only[go_sem];(try rfl);done)|rfl|simp)⟩ ?_
 rintro k st hk ⟨fr,en,cnt,rfl,h0,h1,h7,h8,hI⟩
 simp only[go_sem,kK,h7,h8]
 refine aD (fun hq=>?_) (fun hq=>?_)
 ·have h':k<l.length:=of_decide_eq_true hq;rw[bO9 h',idxOf]at hI;simp only[go_sem,h',h0,h1,h8]
  refine hc.call l[k] (bOg _) _ _ ?_
  simp only[go_sem,kK]
  refine aD (fun hb=>?_) (fun hb=>?_)
  ·simp only[go_sem,kK];rw[hb,if_pos rfl]at hI;rw[<-hI]
  ·simp only[go_sem,h8];rw[hb]at hI
   simp at hI
   refine⟨_,_,_,rfl,?_⟩
   simp only[go_sem,h0,h1,h7,aQ h' hl];exact hI
 ·have:k=l.length:=by simp at hq;omega
  subst this;simp only[go_sem];rw[<-hI];simp[idxOf]
theorem aVv (l:List cD)(h:Val)(p:cD->Bool)(hl:Few l.length)(hc:dJ L (fun x:cD=> .agg [.str x.name,.i x.args]) h p l):
  PC L 300 [.fz (l.map cD.enc),h] (.bool (l.any p)):=by
 have hL:=at_ Tryz.func300
 conv at hL=>rhs;reduce
 refine aH hL rfl rfl ?_
 simp only[go_sem,kK,hc.snap,hc.wk,(aYu l h p hl hc).ret];rw[<-mX p l 0]
theorem rL (l:List cD)(h:Val)(p:cD->Bool)(hc:dJ L (fun x:cD=> .agg [.str x.name,.i x.args]) h p l)(x:cD)(hx:x∈l):
  PC L 301 [.agg [.str x.name,.i x.args],.fp [h] 0] (.bool (!p x)):=by
 have hL:=at_ Tryz.func301
 conv at hL=>rhs;reduce
 refine aH hL rfl rfl ?_
 simp only[go_sem,kK]
 refine hc.call x hx _ _ ?_
 simp only[go_sem]
theorem uC (l:List cD)(h:Val)(p:cD->Bool)(hl:Few l.length)(hc:dJ L (fun x:cD=> .agg [.str x.name,.i x.args]) h p l):
  PC L 243 [.fz (l.map cD.enc),h] (.bool (l.all p)):=by
 have hd:dJ L (fun x:cD=> .agg [.str x.name,.i x.args]) (.fn 301 [] [.fp [h] 0]) (fun x=>!p x) l:=by
  refine⟨fun n en hn=>?_,rfl,rfl,rfl,fun x hx en K hK=>?_⟩
  ·obtain⟨m,rfl⟩: ∃m,n=m+4:=⟨n-4,by omega⟩
   simp only[go_sem]
  ·simp only[go_sem,(rL l h p hc x hx).ret];exact hK
 have hL:=at_ Tryz.func243
 conv at hL=>rhs;reduce
 refine aH hL rfl rfl ?_
 simp only[go_sem,kK,kZ hc.one hc.cells,hc.snap,(aVv l _ _ hl hd).ret];rw[<-bQp,bQq]
theorem aVw (l:List aL)(h:Val)(p:aL->Bool)(hl:Few l.length)(hc:dJ L (fun x:aL=> .agg [.i x.op,.i x.n,.fz (x.kids.map (.int .i64)),.fz (x.pats.map Pat.enc)]) h p l):
  PC L 350 [.fz (l.map aL.enc),h] (.i (idxOf p l 0)):=by
 have hL:=at_ Tryz.func350
 conv at hL=>rhs;reduce
 refine aH hL rfl rfl ?_
 simp only[go_sem,kK]
 refine bH (l.length) (fun k st=> ∃fr en cnt,st=⟨fr,en,cnt⟩/\ (fr 0= .fz (l.map aL.enc))/\ (fr 1=h)/\ (fr 7= .i l.length)/\ (fr 8= .i k)/\ (idxOf p (l.drop k) k=idxOf p l 0)) 0 (bOf _) ⟨_,_,_,rfl,(by first|(simp only[go_sem];(try rfl);done)|rfl|simp),(by first|(simp only[go_sem];(try rfl);done)|rfl|simp),(by first|(simp only[go_sem];(try rfl);done)|rfl|simp),(by first|(simp only[go_sem];(try rfl);done)|rfl|simp),(by first|(simp only[go_sem];(try rfl);done)|rfl|simp)⟩ ?_
 rintro k st hk ⟨fr,en,cnt,rfl,h0,h1,h7,h8,hI⟩
 simp only[go_sem,kK,h7,h8]
 refine aD (fun hq=>?_) (fun hq=>?_)
 ·have h':k<l.length:=of_decide_eq_true hq;rw[bO9 h',idxOf]at hI;simp only[go_sem,h',h0,h1,h8]
  refine hc.call l[k] (bOg _) _ _ ?_
  simp only[go_sem,kK]
  refine aD (fun hb=>?_) (fun hb=>?_)
  ·simp only[go_sem,kK];rw[hb,if_pos rfl]at hI;rw[<-hI]
  ·simp only[go_sem,h8];rw[hb]at hI
   simp at hI
   refine⟨_,_,_,rfl,?_⟩
   simp only[go_sem,h0,h1,h7,aQ h' hl];exact hI
 ·have:k=l.length:=by simp at hq;omega
  subst this;simp only[go_sem];rw[<-hI];simp[idxOf]
theorem aSy (l:List aL)(h:Val)(p:aL->Bool)(hl:Few l.length)(hc:dJ L (fun x:aL=> .agg [.i x.op,.i x.n,.fz (x.kids.map (.int .i64)),.fz (x.pats.map Pat.enc)]) h p l):
  PC L 303 [.fz (l.map aL.enc),h] (.bool (l.any p)):=by
 have hL:=at_ Tryz.func303
 conv at hL=>rhs;reduce
 refine aH hL rfl rfl ?_
 simp only[go_sem,kK,hc.snap,hc.wk,(aVw l h p hl hc).ret];rw[<-mX p l 0]
theorem qU (l:List aL)(h:Val)(p:aL->Bool)(hc:dJ L (fun x:aL=> .agg [.i x.op,.i x.n,.fz (x.kids.map (.int .i64)),.fz (x.pats.map Pat.enc)]) h p l)(x:aL)(hx:x∈l):
  PC L 304 [.agg [.i x.op,.i x.n,.fz (x.kids.map (.int .i64)),.fz (x.pats.map Pat.enc)],.fp [h] 0] (.bool (!p x)):=by
 have hL:=at_ Tryz.func304
 conv at hL=>rhs;reduce
 refine aH hL rfl rfl ?_
 simp only[go_sem,kK]
 refine hc.call x hx _ _ ?_
 simp only[go_sem]
theorem tK (l:List aL)(h:Val)(p:aL->Bool)(hl:Few l.length)(hc:dJ L (fun x:aL=> .agg [.i x.op,.i x.n,.fz (x.kids.map (.int .i64)),.fz (x.pats.map Pat.enc)]) h p l):
  PC L 248 [.fz (l.map aL.enc),h] (.bool (l.all p)):=by
 have hd:dJ L (fun x:aL=> .agg [.i x.op,.i x.n,.fz (x.kids.map (.int .i64)),.fz (x.pats.map Pat.enc)]) (.fn 304 [] [.fp [h] 0]) (fun x=>!p x) l:=by
  refine⟨fun n en hn=>?_,rfl,rfl,rfl,fun x hx en K hK=>?_⟩
  ·obtain⟨m,rfl⟩: ∃m,n=m+4:=⟨n-4,by omega⟩
   simp only[go_sem]
  ·simp only[go_sem,(qU l h p hc x hx).ret];exact hK
 have hL:=at_ Tryz.func248
 conv at hL=>rhs;reduce
 refine aH hL rfl rfl ?_
 simp only[go_sem,kK,kZ hc.one hc.cells,hc.snap,(aSy l _ _ hl hd).ret];rw[<-bQp,bQq]
theorem bA9 (l:List Pat)(h:Val)(p:Pat->Bool)(hl:Few l.length)(hc:dJ L (fun x:Pat=> .agg [.i x.form,.i x.n,.str x.text,.fz (x.parts.map Pat.enc)]) h p l):
  PC L 362 [.fz (l.map Pat.enc),h] (.i (idxOf p l 0)):=by
 have hL:=at_ Tryz.func362
 conv at hL=>rhs;reduce
 refine aH hL rfl rfl ?_
 simp only[go_sem,kK]
 refine bH (l.length) (fun k st=> ∃fr en cnt,st=⟨fr,en,cnt⟩/\ (fr 0= .fz (l.map Pat.enc))/\ (fr 1=h)/\ (fr 7= .i l.length)/\ (fr 8= .i k)/\ (idxOf p (l.drop k) k=idxOf p l 0)) 0 (bOf _) ⟨_,_,_,rfl,(by first|(simp only[go_sem];(try rfl);done)|rfl|simp),(by first|(simp only[go_sem];(try rfl);done)|rfl|simp),(by first|(simp only[go_sem];(try rfl);done)|rfl|simp),(by first|(simp only[go_sem];(try rfl);done)|rfl|simp),(by first|(simp only[go_sem];(try rfl);done)|rfl|simp)⟩ ?_
 rintro k st hk ⟨fr,en,cnt,rfl,h0,h1,h7,h8,hI⟩
 simp only[go_sem,kK,h7,h8]
 refine aD (fun hq=>?_) (fun hq=>?_)
 ·have h':k<l.length:=of_decide_eq_true hq;rw[bO9 h',idxOf]at hI;simp only[go_sem,h',h0,h1,h8]
  refine hc.call l[k] (bOg _) _ _ ?_
  simp only[go_sem,kK]
  refine aD (fun hb=>?_) (fun hb=>?_)
  ·simp only[go_sem,kK];rw[hb,if_pos rfl]at hI;rw[<-hI]
  ·simp only[go_sem,h8];rw[hb]at hI
   simp at hI
   refine⟨_,_,_,rfl,?_⟩
   simp only[go_sem,h0,h1,h7,aQ h' hl];exact hI
 ·have:k=l.length:=by simp at hq;omega
  subst this;simp only[go_sem];rw[<-hI];simp[idxOf]
theorem aYv (l:List Pat)(h:Val)(p:Pat->Bool)(hl:Few l.length)(hc:dJ L (fun x:Pat=> .agg [.i x.form,.i x.n,.str x.text,.fz (x.parts.map Pat.enc)]) h p l):
  PC L 352 [.fz (l.map Pat.enc),h] (.bool (l.any p)):=by
 have hL:=at_ Tryz.func352
 conv at hL=>rhs;reduce
 refine aH hL rfl rfl ?_
 simp only[go_sem,kK,hc.snap,hc.wk,(bA9 l h p hl hc).ret];rw[<-mX p l 0]
theorem rM (l:List Pat)(h:Val)(p:Pat->Bool)(hc:dJ L (fun x:Pat=> .agg [.i x.form,.i x.n,.str x.text,.fz (x.parts.map Pat.enc)]) h p l)(x:Pat)(hx:x∈l):
  PC L 353 [.agg [.i x.form,.i x.n,.str x.text,.fz (x.parts.map Pat.enc)],.fp [h] 0] (.bool (!p x)):=by
 have hL:=at_ Tryz.func353
 conv at hL=>rhs;reduce
 refine aH hL rfl rfl ?_
 simp only[go_sem,kK]
 refine hc.call x hx _ _ ?_
 simp only[go_sem]
theorem nC (l:List Pat)(h:Val)(p:Pat->Bool)(hl:Few l.length)(hc:dJ L (fun x:Pat=> .agg [.i x.form,.i x.n,.str x.text,.fz (x.parts.map Pat.enc)]) h p l):
  PC L 310 [.fz (l.map Pat.enc),h] (.bool (l.all p)):=by
 have hd:dJ L (fun x:Pat=> .agg [.i x.form,.i x.n,.str x.text,.fz (x.parts.map Pat.enc)]) (.fn 353 [] [.fp [h] 0]) (fun x=>!p x) l:=by
  refine⟨fun n en hn=>?_,rfl,rfl,rfl,fun x hx en K hK=>?_⟩
  ·obtain⟨m,rfl⟩: ∃m,n=m+4:=⟨n-4,by omega⟩
   simp only[go_sem]
  ·simp only[go_sem,(rM l h p hc x hx).ret];exact hK
 have hL:=at_ Tryz.func310
 conv at hL=>rhs;reduce
 refine aH hL rfl rfl ?_
 simp only[go_sem,kK,kZ hc.one hc.cells,hc.snap,(aYv l _ _ hl hd).ret];rw[<-bQp,bQq]
theorem bBa (l:List Int)(h:Val)(p:Int->Bool)(hl:Few l.length)(hc:dJ L (fun x:Int=> .i x) h p l):
  PC L 354 [.fz (l.map (.int .i64)),h] (.i (idxOf p l 0)):=by
 have hL:=at_ Tryz.func354
 conv at hL=>rhs;reduce
 refine aH hL rfl rfl ?_
 simp only[go_sem,kK]
 refine bH (l.length) (fun k st=> ∃fr en cnt,st=⟨fr,en,cnt⟩/\ (fr 0= .fz (l.map (.int .i64)))/\ (fr 1=h)/\ (fr 7= .i l.length)/\ (fr 8= .i k)/\ (idxOf p (l.drop k) k=idxOf p l 0)) 0 (bOf _) ⟨_,_,_,rfl,(by first|(simp only[go_sem];(try rfl);done)|rfl|simp),(by first|(simp only[go_sem];(try rfl);done)|rfl|simp),(by first|(simp only[go_sem];(try rfl);done)|rfl|simp),(by first|(simp only[go_sem];(try rfl);done)|rfl|simp),(by first|(simp only[go_sem];(try rfl);done)|rfl|simp)⟩ ?_
 rintro k st hk ⟨fr,en,cnt,rfl,h0,h1,h7,h8,hI⟩
 simp only[go_sem,kK,h7,h8]
 refine aD (fun hq=>?_) (fun hq=>?_)
 ·have h':k<l.length:=of_decide_eq_true hq;rw[bO9 h',idxOf]at hI;simp only[go_sem,h',h0,h1,h8]
  refine hc.call l[k] (bOg _) _ _ ?_
  simp only[go_sem,kK]
  refine aD (fun hb=>?_) (fun hb=>?_)
  ·simp only[go_sem,kK];rw[hb,if_pos rfl]at hI;rw[<-hI]
  ·simp only[go_sem,h8];rw[hb]at hI
   simp at hI
   refine⟨_,_,_,rfl,?_⟩
   simp only[go_sem,h0,h1,h7,aQ h' hl];exact hI
 ·have:k=l.length:=by simp at hq;omega
  subst this;simp only[go_sem];rw[<-hI];simp[idxOf]
theorem aQg (l:List Int)(h:Val)(p:Int->Bool)(hl:Few l.length)(hc:dJ L (fun x:Int=> .i x) h p l):
  PC L 311 [.fz (l.map (.int .i64)),h] (.bool (l.any p)):=by
 have hL:=at_ Tryz.func311
 conv at hL=>rhs;reduce
 refine aH hL rfl rfl ?_
 simp only[go_sem,kK,hc.snap,hc.wk,(bBa l h p hl hc).ret];rw[<-mX p l 0]
theorem zR (l:List Int)(h:Val)(p:Int->Bool)(hc:dJ L (fun x:Int=> .i x) h p l)(x:Int)(hx:x∈l):
  PC L 312 [.i x,.fp [h] 0] (.bool (!p x)):=by
 have hL:=at_ Tryz.func312
 conv at hL=>rhs;reduce
 refine aH hL rfl rfl ?_
 simp only[go_sem,kK]
 refine hc.call x hx _ _ ?_
 simp only[go_sem]
theorem aDv (l:List Int)(h:Val)(p:Int->Bool)(hl:Few l.length)(hc:dJ L (fun x:Int=> .i x) h p l):
  PC L 250 [.fz (l.map (.int .i64)),h] (.bool (l.all p)):=by
 have hd:dJ L (fun x:Int=> .i x) (.fn 312 [] [.fp [h] 0]) (fun x=>!p x) l:=by
  refine⟨fun n en hn=>?_,rfl,rfl,rfl,fun x hx en K hK=>?_⟩
  ·obtain⟨m,rfl⟩: ∃m,n=m+4:=⟨n-4,by omega⟩
   simp only[go_sem]
  ·simp only[go_sem,(zR l h p hc x hx).ret];exact hK
 have hL:=at_ Tryz.func250
 conv at hL=>rhs;reduce
 refine aH hL rfl rfl ?_
 simp only[go_sem,kK,kZ hc.one hc.cells,hc.snap,(aQg l _ _ hl hd).ret];rw[<-bQp,bQq]
theorem lC (n lo hi:Int):PC L 242 [.i n,.i lo,.i hi] (.bool (inR n lo hi)):=by
 have hL:=at_ Tryz.func242
 conv at hL=>rhs;reduce
 refine aH hL rfl rfl ?_
 simp only[go_sem,qW]
 refine bB (fun h=>?_) (fun h=>?_)<;>simp only[go_sem,h]<;>simp at h<;>simp[h,inR]
 omega
theorem yL (n:Int):PC L 351 [.i n] (.bool (inR n (-1000000000) 1000000000)):=by
 have hL:=at_ Tryz.func351
 conv at hL=>rhs;reduce
 refine aH hL rfl rfl ?_
 simp only[go_sem,kK,(lC _ _ _).ret]
theorem aKz (s:ByteArray):PC L 349 [.str s] (.bool (nZ (mJ s))):=by
 have hL:=at_ Tryz.func349
 conv at hL=>rhs;reduce
 refine aH hL rfl rfl ?_
 simp only[go_sem,kK]
 refine bH s.size (fun k st=> ∃fr en cnt,st=⟨fr,en,cnt⟩/\ fr 6= .it ⟨0,6,0⟩/\ en ⟨0,6,0⟩=some (.iter s k)/\ ((mJ s).drop k).all kC=(mJ s).all kC) 0 (bOf _) ⟨_,_,_,rfl,by simp only[go_sem],by simp only[go_sem],rfl⟩ ?_
 rintro k st hk ⟨fr,en,cnt,rfl,h6,e6,hI⟩
 have hsz:=pF s
 by_cases h':k<s.size
 ·have h'':k<(mJ s).length:=by omega
  obtain⟨d1,d2⟩:=aNl h'';rw[fJ h'']at hI;simp only[go_sem,kK,h6,e6,h'];cases hb:kC (mJ s)[k]with
  |true=>
   have hd:=d1 hb;have hb2:=hb;simp only[kC,bN8,bRt]at hb2;have c1:decide ((((mJ s)[k].toNat:Nat):Int)<97)=false:=by simp;omega
   have c2:decide ((122:Int)<(((mJ s)[k].toNat:Nat):Int))=false:=by simp;omega
   simp only[go_sem,kK,hd,c1,c2]
   refine⟨_,_,_,rfl,?_⟩
   simp only[go_sem,h6];rw[<-hI,hb];simp
  |false=>
   have hd:=d2 hb;rw[hb]at hI;generalize (Utf8.decode s k).1=r at hd⊢
   refine aG (fun hc=>?_) (fun hc=>?_)
   ·simp at hc
    have c1:decide ((r:Int)<97)=false:=by simp;omega
    have c2:decide ((122:Int)<(r:Int))=true:=by simp;omega
    simp only[go_sem,kK,c1,c2];rw[nZ,<-hI];rfl
   ·simp only[go_sem,kK,hc,bOs];rw[nZ,<-hI];rfl
 ·have:k=s.size:=by omega
  subst this;simp only[go_sem,kK,h6,e6,Nat.lt_irrefl];rw[nZ,<-hI,List.drop_eq_nil_of_le (by omega)];rfl
theorem aVx (s:ByteArray):(s.toList==(⟨#[]⟩:ByteArray).toList)=decide (s.size=0):=by
 rw[Go.ByteArray.toList_eq,Go.ByteArray.toList_eq];have:s.size=s.data.toList.length:=by rw[bQc];rfl
 rw[this];cases s.data.toList<;>rfl
theorem aK0 (s:ByteArray):PC L 302 [.str s] (.bool (aI2 (mJ s))):=by
 have hL:=at_ Tryz.func302
 conv at hL=>rhs;reduce
 refine aH hL rfl rfl ?_
 simp only[go_sem,kK,aVx]
 refine aG (fun h=>?_) (fun h=>?_)
 ·have h':1<=s.size:=by
   have: ¬s.size=0:=by intro h0;rw[h0]at h;simp at h
   omega
  have h0:0<(mJ s).length:=by rw[pF];omega
  have hix:=fun(k:IntKind)=>aNk (k:=k) h0
  simp only[Int.natCast_zero]at hix;rw[aJb (pF s) h0];simp only[go_sem,kK,h]
  refine aG (fun h1=>?_) (fun h1=>?_)<;>simp only[go_sem,kK,h1,hix]
  refine aG (fun h2=>?_) (fun h2=>?_)<;>simp only[go_sem,kK,h2,hix]
  refine aG (fun h3=>?_) (fun h3=>?_)<;>simp only[go_sem,kK,h3,aJa h',(aKz _).ret,aLv]
  all_goals simp only[bRt,bRu,bOn]at*
  all_goals simp[*]
 ·have:s.size=0:=by
   by_cases h0:s.size=0
   ·exact h0
   ·simp only[h0,decide_false]at h;simp at h
  have e:mJ s=[]:=by rw[<-bRn,pF,this]
  simp only[go_sem,kK,h,bOn];rw[e];rfl
theorem aQh (c:cD):PC L 244 [.agg [.str c.name,.i c.args]] (.bool (uP c)):=by
 have hL:=at_ Tryz.func244
 conv at hL=>rhs;reduce
 refine aH hL rfl rfl ?_
 simp only[go_sem,kK,(aK0 _).ret]
 refine aG (fun h=>?_) (fun h=>?_)<;>simp only[go_sem,kK,h,(lC _ _ _).ret]<;>simp[uP,h]
theorem uD (c:cD):PC L 247 [.agg [.str c.name,.i c.args]] (.str c.name):=by
 have hL:=at_ Tryz.func247
 conv at hL=>rhs;reduce
 refine aH hL rfl rfl ?_
 simp only[go_sem,kK]
theorem uE (n:Int):PC L 251 [.i n] (.bool (decide (n=1))):=by
 have hL:=at_ Tryz.func251
 conv at hL=>rhs;reduce
 refine aH hL rfl rfl ?_
 simp only[go_sem,kK]
theorem aNp : ∀q:Pat,q.few-> ∀most:Int,0<=most->most<=1000->PC L 307 [.agg [.i q.form,.i q.n,.str q.text,.fz (q.parts.map Pat.enc)],.i most] (.i (rR q most)):=by
 refine Pat.ind fun q ih hq most h1 h2=>?_
 obtain⟨hl,_,hps⟩:=Pat.few_parts hq;rw[aYr];have hL:=at_ Tryz.func307
 conv at hL=>rhs;reduce
 refine aH hL rfl rfl ?_
 simp only[go_sem,kK]
 refine bH q.parts.length (fun k st=> ∃fr en cnt a,st=⟨fr,en,cnt⟩/\ fr 1= .i most/\ fr 5= .i a/\ fr 9= .fz (q.parts.map Pat.enc)/\ fr 10= .i q.parts.length/\ fr 11= .i k/\ 1<=a/\ a<=most+1/\ lB (q.parts.drop k) most a=lB q.parts most 1) 0 (bOf _) ⟨_,_,_,1,rfl,by simp only[go_sem],by simp only[go_sem],by simp only[go_sem],by simp only[go_sem],by simp only[go_sem],by omega,by omega,rfl⟩ ?_
 rintro k st hk ⟨fr,en,cnt,a,rfl,h1',h5,h9,h10,h11,ha,hb,hI⟩
 simp only[go_sem,kK,h10,h11]
 refine aD (fun hc=>?_) (fun hc=>?_)
 ·have h':k<q.parts.length:=of_decide_eq_true hc;rw[bO9 h',lB]at hI;have hm:q.parts[k]∈q.parts:=bOg _;simp only[go_sem,kK,h',h1',h5,h9,h11]
  refine aD (fun hd=>?_) (fun hd=>?_)<;>simp only[bRt,bRu]at hd
  ·simp only[go_sem,h5];rw[if_pos hd]at hI;rw[hI]
  ·rw[if_neg hd]at hI;have e1:IntKind.i64.wrap (most-a)=most-a:=aY (by omega)
   have hz:=aI9 q.parts[k] (most-a) (by omega)
   have e2:IntKind.i64.wrap (a+rR q.parts[k] (most-a))=a+rR q.parts[k] (most-a):=aY (by omega)
   simp only[go_sem,h1',h5,h11,e1,e2,(ih _ hm (hps _ hm) (most-a) (by omega) (by omega)).ret]
   refine⟨_,_,_,a+rR q.parts[k] (most-a),rfl,?_⟩
   simp only[go_sem,h1',h9,h10,aQ h' hl];exact⟨by omega,by omega,hI⟩
 ·have:k=q.parts.length:=by simp at hc;omega
  subst this;simp only[go_sem,h5];rw[<-hI];simp[lB]
theorem aBg (p:aI)(hc:Few p.cons.length): ∀q:Pat,q.few->PC L 308 [.agg p.cs,.agg [.i q.form,.i q.n,.str q.text,.fz (q.parts.map Pat.enc)]] (.bool (qR p.cons q)):=by
 refine Pat.ind fun q ih hq=>?_
 obtain⟨hl,_,hps⟩:=Pat.few_parts hq;have e:=dN hc;have ask:dJ L (fun x:Pat=> .agg [.i x.form,.i x.n,.str x.text,.fz (x.parts.map Pat.enc)]) (.fn 308 [.agg p.cs] []) (qR p.cons) q.parts:=by
  refine⟨fun n en hn=>?_,rfl,rfl,rfl,fun x hx en K hK=>?_⟩
  ·obtain⟨m,rfl⟩: ∃m,n=m+4:=⟨n-4,by omega⟩
   simp only[go_sem]
  ·simp only[go_sem,(ih x hx (hps x hx)).ret];exact hK
 rw[aI5];have hL:=at_ Tryz.func308
 conv at hL=>rhs;reduce
 refine aH hL rfl rfl ?_
 simp only[go_sem,kK]
 refine aG (fun h=>?_) (fun h=>?_)
 ·simp only[go_sem,kK,h,(nC q.parts _ _ hl ask).ret];have ht:aFa q.text=true:=by simp only[aFa];simpa using h
  refine aD (fun h2=>?_) (fun h2=>?_)
  ·simp only[go_sem,kK]
   simp at h2
   simp[h2]
  ·have h3:q.parts.all (qR p.cons)=true:=by simpa using h2
   rw[h3];simp only[go_sem,kK]
   repeat' ((first|with_reducible refine aD (fun h=>?_) (fun h=>?_)|with_reducible refine aG (fun h=>?_) (fun h=>?_))<;>(try simp only[bRt,bRu,bOn]at h)<;>try simp only[go_sem,kK, *,(lC _ _ _).ret,(yL _).ret,aE9])
   all_goals try simp[rW,wH, *]
   all_goals try(intros;simp_all;done)
 ·simp only[go_sem,kK,h,bOs];have ht:aFa q.text=false:=by simp only[aFa];simpa using h
  simp[rW,ht]
end Go.Proofs.YtmnchlhngpdffaaGreat
namespace Go.Abs
def tL (lo hi:Int):List Int->List Int->Option (List Int)
 |u,[]=>some u
 |u,x::l=>if inR x lo hi then tL lo hi (u.set x.toNat (IntKind.i64.wrap (u.getD x.toNat 0+1))) l else none
def jW (p:aI):Nat->List Int->List aL->Option (List Int)
 |_,u,[]=>some u
 |i,u,n::l=>(tL ((i:Int)+1) (p.nodes.length-1) u n.kids).bind fun u=>jW p (i+1) u l
def zS :Option (List Int)->Bool
 |some u=>u.all fun c=>decide (c=1)
 |none=>false
def xP (p:aI):Bool:=
 decide ((p.nodes.length:Int)<=300)&&decide ((1:Int)<=p.funs.length)&&decide ((p.funs.length:Int)<=p.nodes.length)&&decide ((p.cons.length:Int)<=20)&&inR p.main 0 (p.funs.length-1)&&
  p.cons.all uP&&lH [] (p.cons.map cD.name)&&p.nodes.all (dZ p)&&
  zS ((tL 0 (p.nodes.length-1) (List.replicate p.nodes.length 0) p.funs).bind fun u=>jW p 0 u p.nodes)
def qV (hi:Int):List Bool->List (Int×Int)->Option (List Bool)
 |u,[]=>some u
 |u,(lo,x)::l=>if inR x lo hi&&!(u.getD x.toNat false)then qV hi (u.set x.toNat true) l else none
def pH (hi:Int):List Int->List (Int×Int)->Option (List Int)
 |u,[]=>some u
 |u,(lo,x)::l=>if inR x lo hi then pH hi (u.set x.toNat (IntKind.i64.wrap (u.getD x.toNat 0+1))) l else none
def kD :Nat->List aL->List (Int×Int)
 |_,[]=>[]
 |i,n::l=>n.kids.map (fun k=>((i:Int)+1,k))++kD (i+1) l
theorem aNq (lo hi:Int): ∀(l:List Int) (u:List Bool),zQ lo hi u l=qV hi u (l.map fun x=>(lo,x))
 |[],u=>rfl
 |x::l,u=>by simp only[zQ,bO4,qV];split<;>first|exact aNq lo hi l _|rfl
theorem aNr (lo hi:Int): ∀(l:List Int) (u:List Int),tL lo hi u l=pH hi u (l.map fun x=>(lo,x))
 |[],u=>rfl
 |x::l,u=>by simp only[tL,bO4,pH];split<;>first|exact aNr lo hi l _|rfl
theorem rX (hi:Int): ∀(a b:List (Int×Int)) (u:List Bool),qV hi u (a++b)=(qV hi u a).bind fun u=>qV hi u b
 |[],b,u=>rfl
 |(lo,x)::a,b,u=>by simp only[bQj,qV];split<;>first|exact rX hi a b _|rfl
theorem vF (hi:Int): ∀(a b:List (Int×Int)) (u:List Int),pH hi u (a++b)=(pH hi u a).bind fun u=>pH hi u b
 |[],b,u=>rfl
 |(lo,x)::a,b,u=>by simp only[bQj,pH];split<;>first|exact vF hi a b _|rfl
theorem aDw (p:aI): ∀(l:List aL) (i:Nat) (u:List Int),jW p i u l=pH (p.nodes.length-1) u (kD i l)
 |[],i,u=>rfl
 |n::l,i,u=>by
  simp only[jW,kD,vF,aNr]
  congr 1;funext u;exact aDw p l (i+1) u
theorem uQ (p:aI): ∀(l:List aL) (i:Nat) (u:List Bool),kM p i u l=if l.all (dZ p)=true then qV (p.nodes.length-1) u (kD i l)else none
 |[],i,u=>rfl
 |n::l,i,u=>by
  simp only[kM,kD,rX,aNq,bQg,bN8]
  by_cases h:dZ p n=true
  ·simp only[h,if_true,true_and];have ih:=fun u=>uQ p l (i+1) u
   by_cases h2:l.all (dZ p)=true
   ·simp only[h2,if_true]at ih⊢
    congr 1;funext u;exact ih u
   ·simp only[h2]at ih⊢;simp only[ih];cases qV (↑p.nodes.length-1) u (List.map (fun k=>(↑i+1,k)) n.kids)<;>rfl
  ·simp only[h];rfl
theorem aJe {hi:Int}: ∀(evs:List (Int×Int)) (u:List Int) (i:Nat) (B:Int),i<u.length->2<=u.getD i 0->(∀c∈u,c<=B)->(∀c∈u,0<=c)->B+evs.length<=9223372036854775807->zS (pH hi u evs)=false
 |[],u,i,B,h,h2,hB,h0,hM=>by
  simp only[pH,zS];rw[<-bPf];intro ha;have:=bOe.1 ha u[i] (bOg _);simp only[bOd,bPh h,bOz]at h2
  simp at this;omega
 |(lo,x)::evs,u,i,B,h,h2,hB,h0,hM=>by
  simp only[pH];split
  ·have hx:u.getD x.toNat 0<=B/\ 0<=u.getD x.toNat 0:=by
    rw[bOd];cases hg:u[x.toNat]? with
    |none=>
     have:=hB u[i] (bOg _);have:=h0 u[i] (bOg _)
     simp;omega
    |some c=>have:=List.mem_of_getElem? hg;simp;exact⟨hB c this,h0 c this⟩
   have hw:IntKind.i64.wrap (u.getD x.toNat 0+1)=u.getD x.toNat 0+1:=aY (by simp at hM;omega)
   rw[hw]
   refine aJe evs _ i (B+1) (by simpa using h) ?_ ?_ ?_ (by simp at hM;omega)
   ·rw[bOd,bQu];split
    ·rename_i e;subst e;simp only[h,if_true,bOz];omega
    ·rw[<-bOd];exact h2
   ·intro c hc;rcases bRr hc with hc|rfl
    ·have:=hB c hc;omega
    ·omega
   ·intro c hc;rcases bRr hc with hc|rfl
    ·exact h0 c hc
    ·omega
  ·rfl
theorem aSz {u:List Bool}{x:Nat}(h:x<u.length):(u.map fun b=>if b then(1:Int)else 0).getD x 0=if u.getD x false then 1 else 0:=by
 simp[bOd,h]
theorem aS0 {hi:Int}(evs:List (Int×Int)): ∀(u:List Bool),(hi:Int)=u.length-1->(∀e∈evs,0<=e.1)->(evs.length:Int)<=1000000->
  xN (qV hi u evs)=zS (pH hi (u.map fun b=>if b then 1 else 0) evs):=by
 induction evs with
 |nil=>
  intro u _ _ _;simp only[qV,pH,xN,zS,List.all_map]
  congr 1
  funext b
  cases b<;>rfl
 |cons e evs ih=>
  obtain⟨lo,x⟩:=e;intro u hh hlo hM;simp only[qV,pH];have hl:=hlo (lo,x) (by simp)
  simp only at hl
  have hM':(evs.length:Int)+1<=1000000:=by simpa using hM
  by_cases hx:inR x lo hi=true
  ·have hx':=hx;simp only[inR,bRt]at hx';have hlt:x.toNat<u.length:=by omega
   simp only[hx,bO3,if_true];rw[aSz hlt];cases hb:u.getD x.toNat false with
   |true=>
    simp only[bOn,bOa,if_false,if_true,xN]
    symm
    have hw:IntKind.i64.wrap ((1:Int)+1)=2:=by rw[aY (by omega)];rfl
    rw[hw];have hbd: ∀c∈(u.map fun b=>if b then(1:Int)else 0).set x.toNat 2,0<=c/\ c<=2:=by
     intro c hc;rcases bRr hc with hc|rfl
     ·obtain⟨b,_,rfl⟩:=bO5.1 hc;split<;>omega
     ·omega
    exact aJe evs _ x.toNat 2 (by simpa using hlt) (by simp[bOd,hlt]) (fun c hc=>(hbd c hc).2) (fun c hc=>(hbd c hc).1) (by omega)
   |false=>
    simp only[bOs,if_true,bOa,if_false];have hw:IntKind.i64.wrap ((0:Int)+1)=1:=by rw[aY (by omega)];rfl
    rw[hw,ih (u.set x.toNat true) (by simpa using hh) (fun e he=>hlo e (by simp[he])) (by omega),bQi]
    rfl
  ·simp only[bPf]at hx;simp only[hx,bOx,bOa,if_false,xN,zS]
theorem aJf : ∀(l:List aL) (i:Nat),∀e∈kD i l,0<=e.1
 |[],i,e,h=>by simp[kD]at h
 |n::l,i,e,h=>by
  simp only[kD,bO2,bO5]at h;rcases h with⟨k,_,rfl⟩|h
  ·simp only;omega
  ·exact aJf l (i+1) e h
theorem aGh : ∀(l:List aL) (i:Nat),(∀n∈l,n.kids.length<=10)->(kD i l).length<=10*l.length
 |[],i,_=>by simp[kD]
 |n::l,i,h=>by
  have:=aGh l (i+1) fun m hm=>h m (by simp[hm])
  have h2:=h n (by simp)
  simp only[kD,bOr,bOc,bOh];omega
theorem aQi (p:aI)(hs:aV p=true):xP p=eY p:=by
 simp only[aV,bN8,bRt]at hs;obtain⟨⟨⟨⟨h1,h2⟩,h3⟩,h4⟩,h5⟩:=hs;have hk: ∀n∈p.nodes,n.kids.length<=10:=by
  intro n hn;have:=bOe.1 h5 n hn;simp only[fK,bN8,bRt]at this;omega
 have key:p.nodes.all (dZ p)=true->xN ((zQ 0 (p.nodes.length-1) (List.replicate p.nodes.length false) p.funs).bind fun u=>kM p 0 u p.nodes)=
   zS ((tL 0 (p.nodes.length-1) (List.replicate p.nodes.length 0) p.funs).bind fun u=>jW p 0 u p.nodes):=by
  intro hn;simp only[aNq,aNr,uQ,aDw,hn,if_true];rw[<-rX,<-vF];have:=aS0 (hi:=(p.nodes.length:Int)-1) (List.map (fun x=>((0:Int),x)) p.funs++kD 0 p.nodes) (List.replicate p.nodes.length false) (by simp) (fun e he=>by
   rcases bO2.1 he with he|he
   ·obtain⟨x,_,rfl⟩:=bO5.1 he;simp
   ·exact aJf _ _ _ he) (by
   have:=aGh p.nodes 0 hk
   simp;omega)
  rw[this];simp[List.map_replicate]
 have none_:p.nodes.all (dZ p)=false->xN ((zQ 0 (p.nodes.length-1) (List.replicate p.nodes.length false) p.funs).bind fun u=>kM p 0 u p.nodes)=false:=by
  intro hn;simp only[uQ,hn,bOa,if_false];cases zQ 0 (↑p.nodes.length-1) (List.replicate p.nodes.length false) p.funs<;>rfl
 have e1:inR p.funs.length 1 p.nodes.length=(decide ((1:Int)<=p.funs.length)&&decide ((p.funs.length:Int)<=p.nodes.length)):=by simp[inR]
 simp only[xP,eY,xM,e1];cases hn:p.nodes.all (dZ p)with
 |true=>rw[key hn];simp only[bQa,Bool.and_assoc];ac_rfl
 |false=>rw[none_ hn];simp
end Go.Abs
namespace Go.Proofs.YtmnchlhngpdffaaGreat
open Go.Abs Go.Proofs
set_option maxRecDepth 100000
set_option maxHeartbeats 4000000
variable {v:Val}
theorem aNs {t:Nat}:cZ .eql .iface (.ifc t v) .nili=some (.bool false):=(rfl)
theorem bBb :cZ .eql .iface .nili .nili=some (.bool true):=(rfl)
theorem pI (op:Int):PC L 305 [.i op] (xO op):=by
 have hL:=at_ Tryz.func305
 conv at hL=>rhs;reduce
 refine aH hL rfl rfl ?_
 simp only[go_sem,kK]
 repeat' ((first|with_reducible refine aD (fun h=>?_) (fun h=>?_)|with_reducible refine aG (fun h=>?_) (fun h=>?_))<;>(try simp only[bRt,bRu]at h)<;>try simp only[go_sem,kK,h])
 all_goals simp[xO, *]
theorem aCg (c:Int)(p:aI)(n:aL):PC L 394 [.i c,.agg p.cs,.agg [.i n.op,.i n.n,.fz (n.kids.map (.int .i64)),.fz (n.pats.map Pat.enc)]] (.bool (decide ((n.kids.length:Int)=c))):=by
 have hL:=at_ Tryz.func394
 conv at hL=>rhs;reduce
 refine aH hL rfl rfl ?_
 simp only[go_sem,kK]
theorem zT (p:aI)(n:aL)(hn:n.pats.length<=1000):PC L 393 [.agg [],.agg p.cs,.agg [.i n.op,.i n.n,.fz (n.kids.map (.int .i64)),.fz (n.pats.map Pat.enc)]] (.bool (inR n.pats.length 1 5&&decide ((n.kids.length:Int)=1+n.pats.length))):=by
 have e:IntKind.i64.wrap (1+(n.pats.length:Int))=1+n.pats.length:=aY (by omega)
 have hL:=at_ Tryz.func393
 conv at hL=>rhs;reduce
 refine aH hL rfl rfl ?_
 simp only[go_sem,kK,(lC _ _ _).ret]
 refine aG (fun h=>?_) (fun h=>?_)<;>simp only[go_sem,kK,h,e]<;>simp[h]
theorem aCh (p:aI)(n:aL)(hc:Few p.cons.length):PC L 395 [.agg [],.agg p.cs,.agg [.i n.op,.i n.n,.fz (n.kids.map (.int .i64)),.fz (n.pats.map Pat.enc)]] (.bool (inR n.n 0 (p.cons.length-1)&&decide ((n.kids.length:Int)=(p.cons.getD n.n.toNat default).args))):=by
 have hL:=at_ Tryz.func395
 conv at hL=>rhs;reduce
 refine aH hL rfl rfl ?_
 simp only[go_sem,kK,(lC _ _ _).ret,dN hc]
 refine aG (fun h=>?_) (fun h=>?_)<;>simp only[go_sem,kK,h,aE9]<;>simp[h]
def aS1 (p:aI)(n:aL):Bool:=if n.op=14 then true else nB p n
theorem xQ (p:aI)(n:aL)(hp:p.few):PC L 309 [.agg p.cs,.agg [.i n.op,.i n.n,.fz (n.kids.map (.int .i64)),.fz (n.pats.map Pat.enc)]] (.bool (aS1 p n)):=by
 have e1:IntKind.i64.wrap (0-(p.funs.length:Int))= -(p.funs.length:Int):=by have:=hp.funs;unfold Few at this;rw[aY (by omega)];omega
 have hL:=at_ Tryz.func309
 conv at hL=>rhs;reduce
 refine aH hL rfl rfl ?_
 simp only[go_sem,kK]
 repeat' ((first|with_reducible refine aD (fun h=>?_) (fun h=>?_)|with_reducible refine aG (fun h=>?_) (fun h=>?_))<;>(try simp only[bRt,bRu]at h)<;>try simp only[go_sem,kK,h,e1,(lC _ _ _).ret,(yL _).ret])
 all_goals simp[aS1,nB, *]
theorem wJ (p:aI)(hc:Few p.cons.length)(q:Pat)(hq:q.few):PC L 306 [.agg [.i q.form,.i q.n,.str q.text,.fz (q.parts.map Pat.enc)],.fp p.cells 0] (.bool (lZ p.cons q)):=by
 have hL:=at_ Tryz.func306
 conv at hL=>rhs;reduce
 refine aH hL rfl rfl ?_
 simp only[go_sem,kK,(aNp q hq 12 (by omega) (by omega)).ret,aYs]
 refine aG (fun h=>?_) (fun h=>?_)<;>simp only[go_sem,kK,h,(aBg p hc q hq).ret]<;>simp at h<;>simp[lZ,h]
 intros;omega
theorem zU (p:aI)(n:aL)(hp:p.few)(hn:n.few)(hm:n.pats.length<=1000):PC L 249 [.agg p.cs,.agg [.i n.op,.i n.n,.fz (n.kids.map (.int .i64)),.fz (n.pats.map Pat.enc)]] (.bool (dZ p n)):=by
 have ask:dJ L (fun x:Pat=> .agg [.i x.form,.i x.n,.str x.text,.fz (x.parts.map Pat.enc)]) (.fn 306 [] [.fp p.cells 0]) (lZ p.cons) n.pats:=by
  refine⟨fun n en hn=>?_,rfl,rfl,rfl,fun x hx en K hK=>?_⟩
  ·obtain⟨m,rfl⟩: ∃m,n=m+4:=⟨n-4,by omega⟩
   simp only[go_sem]
  ·have:=wJ p hp.cons x (hn.pat x hx);simp only[go_sem]at this;simp only[go_sem,this.ret];exact hK
 have hev:=nC n.pats _ _ hn.pats ask;simp only[go_sem]at hev;have hnum:=xQ p n hp;have hL:=at_ Tryz.func249
 conv at hL=>rhs;reduce
 refine aH hL rfl rfl ?_
 rcases aKw n.op with⟨c,hk,hko,h14,h15⟩|⟨h14,hk⟩|⟨h15,hk⟩|⟨hk,hko,h14,h15⟩
 ·simp only[go_sem,kK,(pI _).ret,hk,aNs]
  refine aD (fun h=>?_) (fun h=>?_)
  ·simp only[go_sem,kK]
   simp at h
   simp[dZ,lA,h15];intros;simp_all
  ·simp only[go_sem,kK,(aCg c p n).ret]
   simp at h
   refine aG (fun h2=>?_) (fun h2=>?_)
   ·simp only[go_sem,kK,h2,hnum.ret]
    refine aG (fun h3=>?_) (fun h3=>?_)
    ·simp only[go_sem,kK,h3,hev.ret];simp[aS1,h14]at h2 h3;simp[dZ,lA,h15,h,hko,h2,h3]
    ·simp only[go_sem,kK,h3];simp[aS1,h14]at h3;simp[dZ,h3]
   ·simp only[go_sem,kK,h2]
    simp at h2
    simp[dZ,hko,h2]
 ·simp only[go_sem,kK,(pI _).ret,hk,aNs]
  refine aD (fun h=>?_) (fun h=>?_)
  ·simp only[go_sem,kK]
   simp at h
   simp[dZ,lA,h14];intros;simp_all
  ·simp only[go_sem,kK,(aCh p n hp.cons).ret]
   simp at h
   refine aG (fun h2=>?_) (fun h2=>?_)
   ·simp only[go_sem,kK,h2,hnum.ret]
    refine aG (fun h3=>?_) (fun h3=>?_)
    ·simp only[go_sem,kK,h3,hev.ret]
     simp at h2
     simp[dZ,lA,nB,eQ,oA,h14,h,h2]
    ·simp only[go_sem,kK,h3];simp[aS1,h14]at h3
   ·simp only[go_sem,kK,h2]
    simp at h2
    simp[dZ,lA,nB,eQ,oA,h14,h];intros;simp_all
 ·simp only[go_sem,kK,(pI _).ret,hk,aNs];simp only[go_sem,kK,(zT p n hm).ret]
  refine aG (fun h2=>?_) (fun h2=>?_)
  ·simp only[go_sem,kK,h2,hnum.ret]
   refine aG (fun h3=>?_) (fun h3=>?_)
   ·simp only[go_sem,kK,h3,hev.ret];simp[aS1,h15]at h2 h3;simp[dZ,lA,eQ,h15,h2,h3]
   ·simp only[go_sem,kK,h3];simp[aS1,h15]at h3;simp[dZ,h3]
  ·simp only[go_sem,kK,h2]
   simp at h2
   simp[dZ,lA,eQ,h15];intros;simp_all
 ·simp only[go_sem,kK,(pI _).ret,hk,bBb];simp[dZ,hko]
theorem aJg (l:List ByteArray)(hl:Few l.length):PC L 245 [.fz (l.map .str)] (.bool (lH [] l)):=by
 have hL:=at_ Tryz.func245
 conv at hL=>rhs;reduce
 refine aH hL rfl rfl ?_
 simp only[go_sem,kK]
 refine bH l.length (fun k st=> ∃fr en cnt ks vs,st=⟨fr,en,cnt⟩/\ fr 0= .fz (l.map .str)/\ fr 3= .mp ⟨0,6,0⟩/\ fr 7= .fz (l.map .str)/\ fr 8= .i l.length/\ fr 9= .i k/\ en ⟨0,6,0⟩=some (.map (List.map Val.str ks) vs false)/\ (l.drop k).foldl vE ks=l.foldl vE []) 0 (bOf _) ⟨_,_,_,[],[],rfl,by simp only[go_sem],by simp only[go_sem],by simp only[go_sem],by simp only[go_sem],by simp only[go_sem],by simp only[go_sem],rfl⟩ ?_
 rintro k st hk ⟨fr,en,cnt,ks,vs,rfl,h0,h3,h7,h8,h9,e6,hI⟩
 simp only[go_sem,kK,h8,h9]
 refine aD (fun hq=>?_) (fun hq=>?_)
 ·have h':k<l.length:=of_decide_eq_true hq;rw[bO9 h',bQv,vE]at hI;rcases aGg l[k] ks with⟨i,f1,f2,f3⟩|⟨f1,f2⟩
  ·rw[f2]at hI;simp only[go_sem,h',h3,h7,h9,e6,f1,f3]
   refine⟨_,_,_,ks,vs.set i (.bool true),rfl,?_⟩
   simp only[go_sem,h0,h3,h7,h8,aQ h' hl]
   simpa using hI
  ·rw[f2]at hI;simp only[go_sem,h',h3,h7,h9,e6,f1]
   refine⟨_,_,_,ks++[l[k]],vs++[.bool true],rfl,?_⟩
   simp only[go_sem,h0,h3,h7,h8,aQ h' hl]
   refine⟨by simp,?_⟩
   simpa using hI
 ·have:k=l.length:=by simp at hq;omega
  subst this;simp only[bP1,bQl]at hI;simp only[go_sem,h0,h3,e6];have:=aDt l [];rw[<-this,<-hI];simp
theorem aQj {en:En}{size:Nat}{xs:List Val}{D:List Nat}(h:iZ en v size xs D): ∃r ks,snapD 8 en v=some (r,ks)/\ r.wk= .fz xs/\ r.wk1= .fz xs:=by
 obtain⟨r,ks,h1,_,h2,h3,_⟩:=h.snap 7;exact⟨r,ks,h1,h3,h2⟩
theorem aJh (l:List cD)(hl:l.length<=1000):PC L 246 [.fz (l.map cD.enc),.fn 247 [] []] (.fz (l.map fun c=> .str c.name)):=by
 have hf:Few l.length:=by unfold Few;omega
 have hL:=at_ Tryz.func246
 conv at hL=>rhs;reduce
 refine aH hL rfl rfl ?_
 simp only[go_sem,kK]
 refine bH l.length (fun k st=> ∃fr en cnt,st=⟨fr,en,cnt⟩/\ fr 1= .fn 247 [] []/\ fr 8= .fz (l.map cD.enc)/\ fr 9= .i l.length/\ fr 10= .i k/\ iZ en (fr 5) 1 ((l.take k).map fun c=> .str c.name) [19]) 0 (bOf _) ⟨_,_,_,rfl,by simp only[go_sem],by simp only[go_sem],by simp only[go_sem],by simp only[go_sem],by simp only[go_sem];exact iZ.nil _ _⟩ ?_
 rintro k st hk ⟨fr,en,cnt,rfl,h1,h8,h9,h10,h5⟩
 simp only[go_sem,kK,h9,h10]
 refine aD (fun hq=>?_) (fun hq=>?_)
 ·have h':k<l.length:=of_decide_eq_true hq;simp only[go_sem,h',h1,h8,h10,(uD _).ret]
  refine zL (D:=[19]) (xs:=(l.take k).map fun c=>Val.str c.name) (ys:=[.str l[k].name]) (rs:=[]) ?_ ?_ ?_ ?_ ?_
  ·simp only[go_sem];exact h5.keep fun t g ht=>by simp at ht;subst ht;simp only[go_sem]
  ·simp only[go_sem]
  ·rfl
  ·simp;omega
  ·intro v en' cnt' hown hen hcnt;simp only[go_sem,h10]
   refine⟨_,_,_,rfl,?_⟩
   simp only[go_sem,h1,h8,h9,aQ h' hf];exact iZ.sub (by rw[iP h',bPn];exact hown) (by simp)
 ·have:k=l.length:=by simp at hq;omega
  subst this;rw[bPt]at h5;simp only[go_sem];obtain⟨r,ks,e1,e2,_⟩:=aQj h5;simp only[go_sem,e1,e2]
theorem aQk {u:List Int}{n:Nat}{x:Int}(hu:u.length=n)(h:inR x 0 ((n:Int)-1)=true):0<=x/\ x<(n:Int)/\ (u.map (Val.int .i64))[x.toNat]?=some (.i (u.getD x.toNat 0)):=by
 simp only[inR,bRt]at h;have hx:x.toNat<u.length:=by omega
 exact⟨by omega,by omega,by simp[bOd,hx]⟩
theorem xR (p:aI)(hp:p.few)(hs:p.cons.length<=1000)(hm: ∀n∈p.nodes,n.pats.length<=1000):PC L 211 [.agg p.cs] (.bool (xP p)):=by
 have w1:=dN hp.nodes;have w2:=dN hp.funs;have ask1:dJ L (fun x:cD=> .agg [.str x.name,.i x.args]) (.fn 244 [] []) uP p.cons:=by
  refine⟨fun n en hn=>?_,rfl,rfl,rfl,fun x hx en K hK=>?_⟩
  ·obtain⟨m,rfl⟩: ∃m,n=m+4:=⟨n-4,by omega⟩
   simp only[go_sem]
  ·simp only[go_sem,(aQh x).ret];exact hK
 have ask2:dJ L (fun x:aL=> .agg [.i x.op,.i x.n,.fz (x.kids.map (.int .i64)),.fz (x.pats.map Pat.enc)]) (.fn 249 [.agg p.cs] []) (dZ p) p.nodes:=by
  refine⟨fun n en hn=>?_,rfl,rfl,rfl,fun x hx en K hK=>?_⟩
  ·obtain⟨m,rfl⟩: ∃m,n=m+4:=⟨n-4,by omega⟩
   simp only[go_sem]
  ·simp only[go_sem,(zU p x hp (hp.node x hx) (hm x hx)).ret];exact hK
 have hd:=aJg (p.cons.map cD.name) (by simpa using hp.cons)
 rw[show(p.cons.map cD.name).map Val.str=p.cons.map fun c=>Val.str c.name by simp]at hd
 have hL:=at_ Tryz.func211
 conv at hL=>rhs;reduce
 refine aH hL rfl rfl ?_
 simp only[go_sem,kK]
 repeat' ((first|with_reducible refine aD (fun h=>?_) (fun h=>?_)|with_reducible refine aG (fun h=>?_) (fun h=>?_))<;>(try simp only[bRt,bRu,bOs]at h)<;>try simp only[go_sem,kK, *,(lC _ _ _).ret,(uC _ _ _ hp.cons ask1).ret,(aJh _ hs).ret,hd.ret,(tK _ _ _ hp.nodes ask2).ret])
 all_goals (try simp only[bPg,Bool.not_eq_false',Int.not_lt]at*)
 all_goals try(simp[xP, *];done)
 all_goals try(simp[xP, *];intros;omega)
 have hn:p.nodes.length<=16777216:=by omega
 have hfo:xP p=zS ((tL 0 (p.nodes.length-1) (List.replicate p.nodes.length 0) p.funs).bind fun u=>jW p 0 u p.nodes):=by
  simp[xP, *];intros;omega
 rw[hfo];clear hfo;simp only[go_sem,aYg hn]
 refine bH p.funs.length (fun k st=> ∃fr en cnt u,st=⟨fr,en,cnt⟩/\ (fr 1= .ptr ⟨0,1,0⟩ 0/\ en ⟨0,1,0⟩=some (.box p.cells false)/\ fr 3= .i p.nodes.length/\ fr 4= .bl ⟨0,74,0⟩ 0 p.nodes.length/\ en ⟨0,74,0⟩=some (.blk 1 (u.map (Val.int .i64)) false)/\ u.length=p.nodes.length)/\ fr 77= .is p.funs/\ fr 78= .i p.funs.length/\ fr 79= .i k/\ tL 0 (p.nodes.length-1) u (p.funs.drop k)=tL 0 (p.nodes.length-1) (List.replicate p.nodes.length 0) p.funs) 0 (bOf _) ⟨_,_,_,List.replicate p.nodes.length 0,rfl,⟨by simp only[go_sem],by simp only[go_sem],by simp only[go_sem],by simp only[go_sem],by simp only[go_sem,List.map_replicate],by simp⟩,by simp only[go_sem],by simp only[go_sem],by simp only[go_sem],rfl⟩ ?_
 rintro k st hk ⟨fr,en,cnt,u,rfl,⟨h1,e1,h3,h4,eu,hu⟩,h77,h78,h79,hI⟩
 simp only[go_sem,kK,h78,h79]
 refine aD (fun hq=>?_) (fun hq=>?_)
 ·have h':k<p.funs.length:=of_decide_eq_true hq;rw[bO9 h',tL]at hI;simp only[go_sem,kK,h',h3,h77,h79,(lC _ _ _).ret,w1]
  refine aD (fun hb=>?_) (fun hb=>?_)
  ·simp only[go_sem,kK]
   simp at hb
   rw[hb]at hI
   simp at hI
   rw[<-hI];rfl
  ·simp at hb
   obtain⟨a1,a2,a3⟩:=aQk hu hb;rw[hb]at hI
   simp at hI
   simp only[go_sem,h4,eu,h79,a1,a2,a3]
   refine⟨_,_,_,u.set p.funs[k].toNat (IntKind.i64.wrap (u.getD p.funs[k].toNat 0+1)),rfl,?_⟩
   simp only[go_sem,h1,e1,h3,h4,h77,h78,<-bQi,aQ h' hp.funs];exact⟨by simp[hu],by simpa using hI⟩
 ·have:k=p.funs.length:=by simp at hq;omega
  subst this;rw[bP1,tL]at hI;rw[<-hI];simp only[bQz];clear hq hI hk;generalize hM:jW p 0 u p.nodes=M;simp only[go_sem,h1,e1]
  refine bH p.nodes.length (fun k st=> ∃fr en cnt u,st=⟨fr,en,cnt⟩/\ (fr 1= .ptr ⟨0,1,0⟩ 0/\ en ⟨0,1,0⟩=some (.box p.cells false)/\ fr 3= .i p.nodes.length/\ fr 4= .bl ⟨0,74,0⟩ 0 p.nodes.length/\ en ⟨0,74,0⟩=some (.blk 1 (u.map (Val.int .i64)) false)/\ u.length=p.nodes.length)/\ fr 97= .fz (p.nodes.map aL.enc)/\ fr 98= .i p.nodes.length/\ fr 99= .i k/\ jW p k u (p.nodes.drop k)=M) 0 (bOf _) ⟨_,_,_,u,rfl,⟨by simp only[go_sem,h1],by simp only[go_sem,e1],by simp only[go_sem,h3],by simp only[go_sem,h4],by simp only[go_sem,eu],hu⟩,by simp only[go_sem],by simp only[go_sem],by simp only[go_sem],hM⟩ ?_
  clear hM h1 e1 h3 h4 eu hu h77 h78 h79
  rintro k st hk ⟨fr,en,cnt,u,rfl,⟨h1,e1,h3,h4,eu,hu⟩,h97,h98,h99,hI⟩
  simp only[go_sem,kK,h98,h99]
  refine aD (fun hq=>?_) (fun hq=>?_)
  ·have h':k<p.nodes.length:=of_decide_eq_true hq;have hx:=hp.node p.nodes[k] (bOg _);rw[bO9 h',jW]at hI;generalize hmm:tL ((k:Int)+1) (p.nodes.length-1) u p.nodes[k].kids=m at hI;simp only[go_sem,h',h97,h99]
   refine bH p.nodes[k].kids.length (fun j st=> ∃fr en cnt u,st=⟨fr,en,cnt⟩/\ (fr 1= .ptr ⟨0,1,0⟩ 0/\ en ⟨0,1,0⟩=some (.box p.cells false)/\ fr 3= .i p.nodes.length/\ fr 4= .bl ⟨0,74,0⟩ 0 p.nodes.length/\ en ⟨0,74,0⟩=some (.blk 1 (u.map (Val.int .i64)) false)/\ u.length=p.nodes.length)/\ fr 7= .i k/\ fr 97= .fz (p.nodes.map aL.enc)/\ fr 98= .i p.nodes.length/\ fr 99= .i k/\ fr 105= .is p.nodes[k].kids/\ fr 106= .i p.nodes[k].kids.length/\ fr 107= .i j/\ tL ((k:Int)+1) (p.nodes.length-1) u (p.nodes[k].kids.drop j)=m) 0 (bOf _) ⟨_,_,_,u,rfl,⟨by simp only[go_sem,h1],by simp only[go_sem,e1],by simp only[go_sem,h3],by simp only[go_sem,h4],by simp only[go_sem,eu],hu⟩,by simp only[go_sem],by simp only[go_sem,h97],by simp only[go_sem,h98],by simp only[go_sem,h99],by simp only[go_sem],by simp only[go_sem],by simp only[go_sem],hmm⟩ ?_
   clear hmm h1 e1 h3 h4 eu hu h97 h98 h99
   rintro j st hj ⟨fr,en,cnt,u,rfl,⟨h1,e1,h3,h4,eu,hu⟩,h7,h97,h98,h99,h105,h106,h107,hJ⟩
   simp only[go_sem,kK,h106,h107]
   refine aD (fun h2=>?_) (fun h2=>?_)
   ·have h2':j<p.nodes[k].kids.length:=of_decide_eq_true h2;rw[bO9 h2',tL]at hJ;have w3:IntKind.i64.wrap ((k:Int)+1)=(k:Int)+1:=aY (by omega)
    simp only[go_sem,kK,h2',h3,h7,h105,h107,(lC _ _ _).ret,w1,w3]
    refine aD (fun hc=>?_) (fun hc=>?_)
    ·simp only[go_sem,kK]
     simp at hc
     rw[hc]at hJ
     simp at hJ
     rw[<-hI,<-hJ];rfl
    ·simp at hc
     have hc0:inR p.nodes[k].kids[j] 0 ((p.nodes.length:Int)-1)=true:=by simp[inR]at hc⊢;omega
     obtain⟨a1,a2,a3⟩:=aQk hu hc0;rw[hc]at hJ
     simp at hJ
     simp only[go_sem,h4,eu,h107,a1,a2,a3]
     refine⟨_,_,_,u.set p.nodes[k].kids[j].toNat (IntKind.i64.wrap (u.getD p.nodes[k].kids[j].toNat 0+1)),rfl,?_⟩
     simp only[go_sem,h1,e1,h3,h4,h7,h97,h98,h99,h105,h106,<-bQi,aQ h2' hx.kids];exact⟨by simp[hu],by simpa using hJ⟩
   ·have:j=p.nodes[k].kids.length:=by simp at h2;omega
    subst this;rw[bP1,tL]at hJ;rw[<-hJ]at hI;simp only[bQz]at hI;simp only[go_sem,h4,eu,h99]
    refine⟨_,_,_,u,rfl,?_⟩
    simp only[go_sem,h1,e1,h3,h4,eu,h97,h98,hu,aQ h' hp.nodes];exact hI
  ·have:k=p.nodes.length:=by simp at hq;omega
   subst this;rw[bP1,jW]at hI;rw[<-hI];have ask3:dJ L (fun x:Int=> .i x) (.fn 251 [] []) (fun c=>decide (c=1)) u:=by
    refine⟨fun n en hn=>?_,rfl,rfl,rfl,fun x hx en K hK=>?_⟩
    ·obtain⟨m,rfl⟩: ∃m,n=m+4:=⟨n-4,by omega⟩
     simp only[go_sem]
    ·simp only[go_sem,(uE x).ret];exact hK
   have ht:List.take p.nodes.length (u.map (Val.int .i64))=u.map (Val.int .i64):=bOt (by simp[hu])
   simp only[go_sem,h4,eu,hu,bN9,ht,(aDv u _ _ (by rw[hu];exact hp.nodes) ask3).ret]
   rfl
theorem vG (p:aI)(hp:p.few)(hs:aV p=true):PC L 166 [.agg p.cs] (.i (if eY p then 0 else 2)):=by
 have hs':=hs;simp only[aV,bN8,bRt]at hs';obtain⟨⟨⟨⟨h1,h2⟩,h3⟩,h4⟩,h5⟩:=hs';have hm: ∀n∈p.nodes,n.pats.length<=1000:=by
  intro n hn;have:=bOe.1 h5 n hn;simp only[fK,bN8,bRt]at this;omega
 have h:=xR p hp (by omega) hm
 rw[aQi p hs]at h;have hL:=at_ Tryz.func166
 conv at hL=>rhs;reduce
 refine aH hL rfl rfl ?_
 simp only[go_sem,kK,h.ret];cases hf:eY p<;>simp only[go_sem,kK,bOn,bOs]
theorem aVy {o:aR}(hs:gJ o=true):o.vals.length<=40/\ o.frames.length<=50/\ ∀f∈o.frames,f.env.length<=40/\ f.vals.length<=40:=by
 simp only[gJ,bN8,bRt,bOe]at hs
 refine⟨by omega,by omega,fun f hf=>?_⟩
 have:=hs.2 f hf;omega
theorem aS2 {w:aB}(h:cR w=true): ∀o∈w.objs,gJ o=true:=by
 intro o ho;simp only[cR,bN8,bOe]at h;exact h.2 o ho
end Go.Proofs.YtmnchlhngpdffaaGreat
