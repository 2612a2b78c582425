/- Contracts of functions of the program and of the document: part 1. -/
import Derived.Test.YtmnchlhngpdffaaGreatHxC
import Derived.Test.YtmnchlhngpdffaaGreatCo
import Derived.Laws.Strings
import Derived.Test.YtmnchlhngpdffaaGreatRows
set_option linter.all false
open Array renaming getElem_toList -> bSm, length_toList -> bRz
open Bool renaming and_eq_true -> bPp, and_false -> bQ7, and_true -> bRl, eq_iff_iff -> bRd, false_and -> bQq, false_eq_true -> bPs, false_or -> bQp, not_eq_true -> bQ0, not_eq_true' -> bQ2, not_false -> bP8, not_not -> bSc, not_true -> bP3, or_eq_true -> bQy, true_and -> bQn
open Int renaming eq_ofNat_of_zero_le -> bQv, natCast_nonneg -> bSa, toNat_natCast -> bQo, toNat_of_nonneg -> bS4
open List renaming all_cons -> bR3, all_eq_true -> bPv, any_eq_true -> bSn, append_nil -> bQr, cons_append -> bR5, countP_le_length -> bS0, drop_eq_getElem_cons -> bQu, drop_length -> bRf, drop_zero -> bRy, flatMap_cons -> bR8, flatMap_nil -> bRt, foldl_cons -> bR2, foldl_nil -> bR7, getD_cons_zero -> bSq, getD_eq_getElem?_getD -> bPu, getElem?_append_left -> bSx, getElem?_eq_getElem -> bQz, getElem?_set -> bSg, getElem_mem -> bPz, length_append -> bP9, length_cons -> bPy, length_drop -> bR6, length_eq_zero_iff -> bS6, length_map -> bPr, length_nil -> bP7, length_set -> bRp, length_singleton -> bSd, map_append -> bQs, map_cons -> bQj, map_nil -> bP1, map_set -> bR4, map_take -> bRe, mem_append -> bQe, mem_cons -> bQm, mem_cons_of_mem -> bRu, mem_cons_self -> bS1, mem_filter -> bRa, mem_flatMap -> bQ3, mem_map -> bQk, mem_of_mem_take -> bR0, mem_or_eq_of_mem_set -> bTb, mem_range -> bQl, nil_append -> bQt, not_all_eq_any_not -> bSb, take_length -> bQ6, take_of_length_le -> bQa, take_succ_cons -> bP0, take_zero -> bPw
open Nat renaming add_zero -> bQ9, le_of_eq -> bQ8, le_refl -> bPq, le_trans -> bP2, lt_irrefl -> bSf, lt_of_lt_of_le -> bQf, zero_add -> bQh, zero_le -> bPx
open Option renaming bind_some -> bSl, getD_some -> bQg, map_eq_some_iff -> bP5
open Option.some renaming injEq -> bPo
open Prod.mk renaming injEq -> bPt
namespace Go.Abs
theorem dX {n:Nat}(h:Few n):IntKind.i64.wrap ((n:Int)-1)=(n:Int)-1:=by unfold Few at h;exact aW (by omega)
theorem aK5 {α:Type}{l:List α}(h:Few l.length)(k:Nat):Few (l.take k).length:=by unfold Few at*;simp;omega
def aB.few (f:aB):Prop:=Few f.env.length/\ Few f.vals.length
def aQ.few (o:aQ):Prop:=Few o.vals.length/\ Few o.frames.length/\ ∀f∈o.frames,f.few
structure aA.few (w:aA):Prop where
 objs:Few w.objs.length
 tasks:Few w.tasks.length
 outs:Few w.outs.length
 ins:Few w.ins.length
 obj: ∀o∈w.objs,o.few
inductive Pat.few :Pat->Prop
 |mk (f n:Int) (t:ByteArray) (l:List Pat) (h:Few l.length) (ht:Few t.size) (k: ∀p∈l,Pat.few p):Pat.few (.mk f n t l)
structure aM.few (n:aM):Prop where
 kids:Few n.kids.length
 pats:Few n.pats.length
 pat: ∀q∈n.pats,q.few
structure aF.few (p:aF):Prop where
 nodes:Few p.nodes.length
 funs:Few p.funs.length
 cons:Few p.cons.length
 node: ∀n∈p.nodes,n.few
 con: ∀c∈p.cons,Few c.name.size
def inR (n lo hi:Int):Bool:=decide (lo<=n/\ n<=hi)
def aM.asks (n:aM):Int:=
 if n.op=6 \/n.op=9 \/n.op=10 \/n.op=11 \/n.op=12 \/n.op=13 \/n.op=18 \/n.op=22 then 2
 else if n.op=14 then n.kids.length
 else if n.op=7 \/n.op=8 \/n.op=15 \/n.op=16 \/n.op=17 \/n.op=19 \/n.op=20 \/n.op=23 \/n.op=24 \/n.op=26 then 1 else 0
def aF.node (p:aF)(i:Int):aM:=p.nodes.getD i.toNat default
def dM (p:aF)(w:aA)(v:aD):Bool:=
 if v.kind=1 then inR v.n (-1000000000) 1000000000
 else if v.kind=2 then inR v.n 0 1
 else if v.kind=3 then decide (v.n=0)
 else if v.kind=4 then inR v.n 0 (p.funs.length-1)
 else if v.kind=5 then inR v.n 0 (w.objs.length-1)else false
def bA (p:aF)(w:aA)(l:List aD)(most:Int):Bool:=decide ((l.length:Int)<=most)&&l.all (dM p w)
def dI (p:aF)(w:aA)(f:aB):Bool:=
 inR f.node 0 (p.nodes.length-1)&&bA p w f.env 30&&bA p w f.vals (p.node f.node).asks
def bU (p:aF)(w:aA)(l:List aB):Bool:=decide ((l.length:Int)<=40)&&l.all (dI p w)
def fN (p:aF)(f:aB):Bool:=decide ((f.vals.length:Int)<(p.node f.node).asks)
def kG (p:aF)(w:aA)(o:aQ):Bool:=
 if o.n=0 then bU p w o.frames&&bA p w o.vals 1&&decide ((0:Int)<o.frames.length+o.vals.length)&&(o.frames.take (o.frames.length+o.vals.length-1)).all (fN p)
 else if o.n=1 then decide ((o.frames.length:Int)=0)&&decide ((o.vals.length:Int)=1)&&bA p w o.vals 1
 else if o.n=2 \/o.n=3 \/o.n=4 then decide ((o.frames.length:Int)=0)&&decide ((o.vals.length:Int)=0)else false
def dQ (p:aF)(w:aA)(o:aQ):Bool:=
 if o.form=6 then kG p w o
 else if o.form=5 then decide (o.n=0)&&decide ((o.vals.length:Int)=0)&&decide ((0:Int)<o.frames.length)&&bU p w o.frames&&o.frames.all (fN p)&&decide ((p.node (o.frames.headD default).node).op=26)
 else if¬(o.frames.length:Int)=0 then false
 else if o.form=1 then inR o.n 0 (p.cons.length-1)&&decide ((o.vals.length:Int)=(p.cons.getD o.n.toNat default).args)&&bA p w o.vals 3
 else if o.form=2 then inR o.n 0 (p.nodes.length-1)&&decide ((p.node o.n).op=5)&&bA p w o.vals 30
 else if o.form=3 then decide (o.n=0)&&decide ((o.vals.length:Int)=1)&&bA p w o.vals 1
 else if o.form=4 then decide (o.n=0)&&bA p w o.vals 4 else false
def cW (o:aQ):Bool:=decide (o.form=6)
def aA.obj (w:aA)(i:Int):aQ:=w.objs.getD i.toNat default
def bS (w:aA):List Int->List Int->Bool
 |_,[]=>true
 |met,k::l=>inR k 0 (w.objs.length-1)&&cW (w.obj k)&&!met.any (fun x=>decide (x=k))&&bS w (met++[k]) l
def jI (w:aA):Bool:=decide (w.tasks.length=w.objs.countP cW)&&bS w [] w.tasks
def nW (l:List Int)(most:Int):Bool:=decide ((l.length:Int)<=most)&&l.all fun n=>inR n (-1000000000) 1000000000
def wR (o:bJ):Bool:=inR o.port 0 3&&inR o.n (-1000000000) 1000000000
def cX (p:aF)(w:aA):Bool:=
 decide ((w.objs.length:Int)<=120)&&decide ((w.outs.length:Int)<=100)&&nW w.ins 50&&inR w.used 0 1000000000&&jI w&&w.objs.all (dQ p w)&&w.outs.all wR
def iJ (o:aQ):Bool:=decide ((o.vals.length:Int)<=40)&&decide ((o.frames.length:Int)<=50)&&o.frames.all fun f=>decide ((f.env.length:Int)<=40)&&decide ((f.vals.length:Int)<=40)
def bW (w:aA):Bool:=
 decide ((w.objs.length:Int)<=130)&&decide ((w.tasks.length:Int)<=130)&&decide ((w.outs.length:Int)<=110)&&decide ((w.ins.length:Int)<=60)&&w.objs.all iJ
variable {α:Type}
theorem aVv {l:List α}{k:Nat}(h:k<l.length)(p:α->Bool):(l.take (k+1)).countP p=(l.take k).countP p+(if p l[k]then 1 else 0):=by
 rw[<-List.take_append_getElem h,List.countP_append];simp[List.countP_cons]
theorem gZ {α:Type}{l:List α}{k:Nat}(h:k<l.length):l.take (k+1)=l.take k++[l[k]]:=by
 rw[List.take_append_getElem h]
variable {en:En}{i:Int}{k:IntKind}
theorem aDr {f:α->Val}{size:Nat}{l:List α}(d:α)(h:inR i 0 ((l.length:Int)-1)=true)(hs: ∀x,(f x).cells.length=size):
  oU size en (.fz (l.map f)) (.int k i)=some {v:= .fp (f (l.getD i.toNat d)).cells 0}:=by
 simp only[inR,bTe]at h;obtain⟨j,rfl⟩:=bQv h.1;have hj:j<l.length:=by omega
 rw[aVq (f:=f) hj (by simp[hs])]
 simp[bPu,hj]
theorem bK {p:aF}(h:inR i 0 ((p.nodes.length:Int)-1)=true):
  oU 4 en (.fz (p.nodes.map aM.enc)) (.int k i)=some {v:= .fp (aM.enc (p.node i)).cells 0}:=aDr default h fun x=>rfl
theorem aOf {l:List aB}(h:0<l.length):oU 3 en (.fz (l.map aB.enc)) (.int k 0)=some {v:= .fp (aB.enc (l.headD default)).cells 0}:=by
 have:=aDr (f:=aB.enc) (size:=3) (k:=k) (i:=0) (en:=en) default (l:=l) (by simp[inR];omega) (fun _=>rfl)
 rw[this];cases l<;>simp at h⊢
theorem aHm {l:List cS}(h:inR i 0 ((l.length:Int)-1)=true):
  oU 2 en (.fz (l.map cS.enc)) (.int k i)=some {v:= .fp (cS.enc (l.getD i.toNat default)).cells 0}:=aDr default h fun x=>rfl
theorem zZ {w:aA}(h:inR i 0 ((w.objs.length:Int)-1)=true):
  oU 4 en (.fz (w.objs.map aQ.enc)) (.int k i)=some {v:= .fp (aQ.enc (w.obj i)).cells 0}:=aDr default h fun x=>rfl
theorem vB {l:List Int}(h:inR i 0 ((l.length:Int)-1)=true):
  oU 1 en (.fz (l.map (.int .i64))) (.int k i)=some {v:= .fp [.int .i64 (l.getD i.toNat 0)] 0}:=aDr 0 h fun x=>rfl
def aKy.few (s:aKy):Prop:=s.world.few/\ Few s.ages.length/\ Few s.marks.length
end Go.Abs
namespace Go.Proofs.YtmnchlhngpdffaaGreat
open Go.Abs Go.Proofs Tryz
set_option maxRecDepth 100000
set_option maxHeartbeats 4000000
theorem oH (n lo hi:Int):PC L 101 [.i n,.i lo,.i hi] (.bool (inR n lo hi)):=by
 have hL:=at_ func101
 conv at hL=>rhs;reduce
 refine aI hL rfl rfl ?_
 simp only[go_sem,qW]
 refine bB (fun h=>?_) (fun h=>?_)<;>simp only[go_sem,h]<;>simp at h<;>simp[h,inR]
 omega
theorem aNb (l:List Int)(n:Int)(hl:Few l.length):PC L 140 [.is l,.i n] (.bool (l.any fun x=>decide (x=n))):=by
 have hL:=at_ func140
 conv at hL=>rhs;reduce
 refine aI hL rfl rfl ?_
 simp only[go_sem,qW]
 refine bQ l.length (fun k st=> ∃fr en cnt,st=⟨fr,en,cnt⟩/\ fr 0= .is l/\ fr 1= .i n/\ fr 5= .i k/\ (l.drop k).any (fun x=>decide (x=n))=l.any fun x=>decide (x=n)) 0 (bPx _) ⟨_,_,_,rfl,by simp only[go_sem],by simp only[go_sem],by simp only[go_sem],rfl⟩ ?_
 rintro k st hk ⟨fr,en,cnt,rfl,h0,h1,h5,hI⟩
 simp only[go_sem,qW,h0,h5]
 refine aY (fun h=>?_) (fun h=>?_)
 ·have h':k<l.length:=D_o h;rw[aSn h']at hI;simp only[go_sem,qW,h',h1,h5]
  refine aY (fun h2=>?_) (fun h2=>?_)
  ·rw[<-hI,h2];rfl
  ·refine⟨_,_,_,rfl,?_⟩
   simp only[go_sem,h0,h1,aT h' hl];rw[<-hI,h2];simp
 ·have:k=l.length:=by simp at h;omega
  subst this;rw[<-hI];simp
theorem wS (n:aM):PC L 129 [.agg [.i n.op,.i n.n,.fz (n.kids.map (.int .i64)),.fz (n.pats.map Pat.enc)]] (.i n.asks):=by
 have hL:=at_ func129
 conv at hL=>rhs;reduce
 refine aI hL rfl rfl ?_
 simp only[go_sem,qW]
 repeat' ((first|with_reducible refine aY (fun h=>?_) (fun h=>?_)|with_reducible refine bB (fun h=>?_) (fun h=>?_))<;>(try simp only[bTe,bTf]at h)<;>try simp only[go_sem,h])
 all_goals simp[aM.asks, *]
theorem aP9 (p:aF)(w:aA)(v:aD)(hp:p.few)(hw:w.few):PC L 193 [.agg p.cs,.agg w.cs,.agg [.i v.kind,.i v.n]] (.bool (dM p w v)):=by
 have hL:=at_ func193
 conv at hL=>rhs;reduce
 refine aI hL rfl rfl ?_
 simp only[go_sem,qW,(oH _ _ _).ret,dX hp.funs,dX hw.objs]
 repeat' ((first|with_reducible refine aY (fun h=>?_) (fun h=>?_)|with_reducible refine bB (fun h=>?_) (fun h=>?_))<;>(try simp only[bTe,bTf]at h)<;>try simp only[go_sem,qW,h,(oH _ _ _).ret,dX hp.funs,dX hw.objs])
 all_goals simp[dM, *]
theorem oW (p:aF)(w:aA)(l:List aD)(m:Int)(hp:p.few)(hw:w.few)(hl:Few l.length):
  PC L 144 [.agg p.cs,.agg w.cs,.fz (l.map aD.enc),.i m] (.bool (bA p w l m)):=by
 have hL:=at_ func144
 conv at hL=>rhs;reduce
 refine aI hL rfl rfl ?_
 simp only[go_sem,qW]
 refine bQ (l.length) (fun k st=> ∃fr en cnt,st=⟨fr,en,cnt⟩/\ (fr 2= .fz (l.map aD.enc))/\ (fr 3= .i m)/\ (fr 4= .ptr ⟨0,4,0⟩ 0)/\ (en ⟨0,4,0⟩=some (.box p.cells false))/\ (fr 5= .ptr ⟨0,5,0⟩ 0)/\ (en ⟨0,5,0⟩=some (.box w.cells false))/\ (fr 9= .i k)/\ ((l.drop k).all (dM p w)=l.all (dM p w))) 0 (bPx _) ⟨_,_,_,rfl,(by first|(simp only[go_sem];(try rfl);done)|rfl|simp),(by first|(simp only[go_sem];(try rfl);done)|rfl|simp),(by first|(simp only[go_sem];(try rfl);done)|rfl|simp),(by first|(simp only[go_sem];(try rfl);done)|rfl|simp),(by first|(simp only[go_sem];(try rfl);done)|rfl|simp),(by first|(simp only[go_sem];(try rfl);done)|rfl|simp),(by first|(simp only[go_sem];(try rfl);done)|rfl|simp),(by first|(simp only[go_sem];(try rfl);done)|rfl|simp)⟩ ?_
 rintro k st hk ⟨fr,en,cnt,rfl,h2,h3,h4,e4,h5,e5,h9,hI⟩
 simp only[go_sem,qW,h2,h3,h4,e4,h5,e5,h9]
 refine bB (fun h=>?_) (fun h=>?_)
 ·have h':k<l.length:=D_o h;rw[gD h']at hI;simp only[go_sem,h']
  refine aY (fun hm=>?_) (fun hm=>?_)
  ·simp only[go_sem,qW,h9,(aP9 p w _ hp hw).ret]
   refine aY (fun hb=>?_) (fun hb=>?_)
   ·simp at hb
    simp[bA,<-hI,hb]
   ·simp at hb
    refine⟨_,_,_,rfl,?_⟩
    simp only[go_sem,h2,h3,h4,e4,h5,e5,aT h' hl];rw[<-hI,hb];simp
  ·simp at hm
   try simp only[go_sem,qW,h2,h3,h4,e4,h5,e5,h9]
   simp[bA];omega
 ·have:k=l.length:=by simp at h;omega
  subst this
  try simp only[go_sem,h,h2,h3]
  simp at hI
  simp[bA];exact fun _=>hI
theorem aDs (p:aF)(w:aA)(l:List aB)(hp:p.few)(hw:w.few)(hl:Few l.length)(hf: ∀f∈l,f.few):
  PC L 142 [.agg p.cs,.agg w.cs,.fz (l.map aB.enc)] (.bool (bU p w l)):=by
 have hL:=at_ func142
 conv at hL=>rhs;reduce
 refine aI hL rfl rfl ?_
 simp only[go_sem,qW]
 refine bQ (l.length) (fun k st=> ∃fr en cnt,st=⟨fr,en,cnt⟩/\ (fr 2= .fz (l.map aB.enc))/\ (fr 3= .ptr ⟨0,3,0⟩ 0)/\ (en ⟨0,3,0⟩=some (.box p.cells false))/\ (fr 4= .ptr ⟨0,4,0⟩ 0)/\ (en ⟨0,4,0⟩=some (.box w.cells false))/\ (fr 7= .i k)/\ ((l.drop k).all (dI p w)=l.all (dI p w))) 0 (bPx _) ⟨_,_,_,rfl,(by first|(simp only[go_sem];(try rfl);done)|rfl|simp),(by first|(simp only[go_sem];(try rfl);done)|rfl|simp),(by first|(simp only[go_sem];(try rfl);done)|rfl|simp),(by first|(simp only[go_sem];(try rfl);done)|rfl|simp),(by first|(simp only[go_sem];(try rfl);done)|rfl|simp),(by first|(simp only[go_sem];(try rfl);done)|rfl|simp),(by first|(simp only[go_sem];(try rfl);done)|rfl|simp)⟩ ?_
 rintro k st hk ⟨fr,en,cnt,rfl,h2,h3,e3,h4,e4,h7,hI⟩
 simp only[go_sem,qW,h2,h7]
 refine bB (fun h=>?_) (fun h=>?_)
 ·have h':k<l.length:=D_o h;rw[gD h']at hI;have hx:=hf l[k] (bPz _);simp only[go_sem,h']
  refine aY (fun hm=>?_) (fun hm=>?_)
  ·refine aBq ?_ ?_
   ·decide
   simp only[go_sem,h3,e3,h4,e4,(oH _ _ _).ret,dX hp.nodes]
   refine bB (fun hb=>?_) (fun hb=>?_)
   ·have hb':inR l[k].node 0 (p.nodes.length-1)=true:=by simpa using hb
    simp only[go_sem,hb',h3,e3,h4,e4,(oW p w _ _ hp hw hx.1).ret]
    refine bB (fun hc=>?_) (fun hc=>?_)
    ·have hc':bA p w l[k].env 30=true:=by simpa using hc
     simp only[go_sem,qW,hc',hb',h7,bK,(wS _).ret,(oW p w _ _ hp hw hx.2).ret]
     refine aY (fun hd=>?_) (fun hd=>?_)
     ·simp at hd
      simp[bU,<-hI,dI,hb',hc',hd]
     ·simp at hd
      refine⟨_,_,_,rfl,?_⟩
      simp only[go_sem,h2,h3,e3,h4,e4,aT h' hl];rw[<-hI];simp[dI,hb',hc',hd]
    ·simp only[go_sem,qW,hc]
     simp at hc
     simp[bU,<-hI,dI,hc]
   ·simp only[go_sem,qW,hb]
    simp at hb
    simp[bU,<-hI,dI,hb]
  ·simp at hm
   try simp only[go_sem,qW,h2,h3,e3,h4,e4,h7]
   simp[bU];omega
 ·have:k=l.length:=by simp at h;omega
  subst this
  try simp only[go_sem,h,h2]
  simp at hI
  simp[bU];exact fun _=>hI
theorem aIn (p:aF)(l:List aB)(n:Nat)(hp:p.few)(hl:Few l.length)(hn:n<=l.length)(hf: ∀f∈l,inR f.node 0 (p.nodes.length-1)=true):
  PC L 143 [.agg p.cs,.fz (l.map aB.enc),.i n] (.bool ((l.take n).all (fN p))):=by
 have hL:=at_ func143
 conv at hL=>rhs;reduce
 refine aI hL rfl rfl ?_
 simp only[go_sem,qW]
 refine bQ (n) (fun k st=> ∃fr en cnt,st=⟨fr,en,cnt⟩/\ (fr 1= .fz (l.map aB.enc))/\ (fr 2= .i n)/\ (fr 3= .ptr ⟨0,3,0⟩ 0)/\ (en ⟨0,3,0⟩=some (.box p.cells false))/\ (fr 7= .i k)/\ (((l.take n).drop k).all (fN p)=(l.take n).all (fN p))) 0 (bPx _) ⟨_,_,_,rfl,(by first|(simp only[go_sem];(try rfl);done)|rfl|simp),(by first|(simp only[go_sem];(try rfl);done)|rfl|simp),(by first|(simp only[go_sem];(try rfl);done)|rfl|simp),(by first|(simp only[go_sem];(try rfl);done)|rfl|simp),(by first|(simp only[go_sem];(try rfl);done)|rfl|simp),(by first|(simp only[go_sem];(try rfl);done)|rfl|simp)⟩ ?_
 rintro k st hk ⟨fr,en,cnt,rfl,h1,h2,h3,e3,h7,hI⟩
 simp only[go_sem,qW,h2,h7]
 refine aY (fun h=>?_) (fun h=>?_)
 ·have h'':k<n:=by simp at h;omega
  have h':k<l.length:=by omega
  rw[gD (by simp;omega)]at hI
  have hx:=hf l[k] (bPz _)
  try simp only[go_sem,qW,h1,h2,h3,e3,h7]
  refine aBq ?_ ?_
  ·decide
  simp only[go_sem,qW,h1,h3,e3,h7,h',h'',hx,bK,(wS _).ret];have he:(l.take n)[k]'(by simp;omega)=l[k]:=by simp
  rw[he]at hI
  refine aY (fun hb=>?_) (fun hb=>?_)
  ·simp at hb
   have:fN p l[k]=false:=by simp[fN,hb]
   rw[<-hI,this];rfl
  ·simp at hb
   have:fN p l[k]=true:=by simp[fN,hb]
   refine⟨_,_,_,rfl,?_⟩
   simp only[go_sem,h1,h2,h3,e3,aT h' hl];rw[<-hI,this];simp
 ·have:k=n:=by simp at h;omega
  subst this
  try simp only[go_sem,qW]
  rw[<-hI];simp
variable {p:aF}{w:aA}
theorem aQa {l:List aD}{m:Int}(h:bA p w l m=true):(l.length:Int)<=m:=by
 simp[bA]at h;exact h.1
variable {l:List aB}
theorem aFs (h:bU p w l=true):(l.length:Int)<=40:=by
 simp[bU]at h;omega
theorem oX (h:bU p w l=true): ∀f∈l,inR f.node 0 (p.nodes.length-1)=true:=by
 simp[bU]at h;intro f hf;have:=h.2 f hf;simp[dI]at this;exact this.1.1
theorem aS3 (p:aF)(w:aA)(o:aQ)(hp:p.few)(hw:w.few)(ho:o.few):PC L 141 [.agg p.cs,.agg w.cs,.agg [.i o.form,.i o.n,.fz (o.vals.map aD.enc),.fz (o.frames.map aB.enc)]] (.bool (kG p w o)):=by
 have hL:=at_ func141
 conv at hL=>rhs;reduce
 refine aI hL rfl rfl ?_
 simp only[go_sem,qW]
 refine aY (fun h=>?_) (fun h=>?_)<;>simp only[bTe,bTf]at h
 ·simp only[go_sem,(aDs p w _ hp hw ho.2.1 ho.2.2).ret]
  refine bB (fun h1=>?_) (fun h1=>?_)
  ·simp only[go_sem,h1,(oW p w _ _ hp hw ho.1).ret]
   refine bB (fun h2=>?_) (fun h2=>?_)
   ·have k1:=aFs h1;have k2:=aQa h2;have e1:IntKind.i64.wrap ((o.frames.length:Int)+o.vals.length)=(o.frames.length:Int)+o.vals.length:=aW (by omega)
    simp only[go_sem,h2,e1]
    refine bB (fun h3=>?_) (fun h3=>?_)
    ·simp at h3
     have e2:IntKind.i64.wrap ((o.frames.length:Int)-1)=(o.frames.length:Int)-1:=aW (by omega)
     have e3:IntKind.i64.wrap ((o.frames.length:Int)-1+o.vals.length)=((o.frames.length+o.vals.length-1:Nat):Int):=by rw[aW (by omega)];omega
     have e4:min (o.frames.length:Int) (max 0 ((o.frames.length+o.vals.length-1:Nat):Int))=((o.frames.length+o.vals.length-1:Nat):Int):=by omega
     simp only[go_sem,h3,e2,e3,e4,(aIn p o.frames (o.frames.length+o.vals.length-1) hp ho.2.1 (by omega) (oX h1)).ret]
     simp[kG,h,h1,h2,h3]
    ·simp only[go_sem,h3]
     simp at h3
     simp[kG,h,h1,h2];omega
   ·simp only[go_sem,h2]
    simp at h2
    simp[kG,h,h1,h2]
  ·simp only[go_sem,h1]
   simp at h1
   simp[kG,h,h1]
 ·repeat' ((first|with_reducible refine aY (fun h=>?_) (fun h=>?_)|with_reducible refine bB (fun h=>?_) (fun h=>?_))<;>(try simp only[bTe,bTf,bP3]at h)<;>try simp only[go_sem,h,(oW p w _ _ hp hw ho.1).ret])
  all_goals simp[kG, *]
  all_goals (intros;simp_all)
theorem aNc (p:aF)(w:aA)(o:aQ)(hp:p.few)(hw:w.few)(ho:o.few):PC L 103 [.agg p.cs,.agg w.cs,.agg [.i o.form,.i o.n,.fz (o.vals.map aD.enc),.fz (o.frames.map aB.enc)]] (.bool (dQ p w o)):=by
 have hL:=at_ func103
 conv at hL=>rhs;reduce
 refine aI hL rfl rfl ?_
 simp only[go_sem,qW]
 refine aY (fun h=>?_) (fun h=>?_)<;>simp only[bTe,bTf]at h
 ·simp only[go_sem,(aS3 p w o hp hw ho).ret];simp[dQ,h]
 ·refine aY (fun h5=>?_) (fun h5=>?_)<;>simp only[bTe,bTf]at h5
  ·try simp only[go_sem,qW]
   refine bB (fun h1=>?_) (fun h1=>?_)
   ·simp only[go_sem,h1]
    refine bB (fun h2=>?_) (fun h2=>?_)
    ·simp only[go_sem,h2]
     refine bB (fun h3=>?_) (fun h3=>?_)
     ·simp only[go_sem,h3,(aDs p w _ hp hw ho.2.1 ho.2.2).ret]
      refine bB (fun h4=>?_) (fun h4=>?_)
      ·simp only[go_sem,h4,(aIn p o.frames o.frames.length hp ho.2.1 (bPq _) (oX h4)).ret]
       refine bB (fun h6=>?_) (fun h6=>?_)
       ·have hpos:0<o.frames.length:=by have:=D_o h3;omega
        have hn:inR (o.frames.headD default).node 0 (p.nodes.length-1)=true:=oX h4 _ (by cases hh:o.frames with|nil=>simp[hh]at hpos|cons a l=>simp)
        simp only[go_sem,h6,aOf hpos,hn,bK]
        simp at h6 h1 h2
        simp[dQ,h5,h1,h2,h4]
        first|(intros;simp_all;done)|trace_state
       ·simp only[go_sem,h6]
        simp at h6 h1 h2
        simp[dQ,h5,h1,h2,h4];obtain⟨x,hx,hx2⟩:=h6;intro _ hh;rw[hh x hx]at hx2;cases hx2
      ·simp only[go_sem,h4]
       simp at h4
       simp[dQ,h5,h4]
     ·simp only[go_sem,h3]
      simp at h3
      simp[dQ,h5,h3]
    ·simp only[go_sem,h2]
     simp at h2
     simp[dQ,h5,h2]
   ·simp only[go_sem,h1]
    simp at h1
    simp[dQ,h5,h1]
  ·try simp only[go_sem,qW]
   refine aY (fun h7=>?_) (fun h7=>?_)
   ·simp at h7
    simp[dQ,h,h5,h7]
   ·have h7':(o.frames.length:Int)=0:=by simp at h7;simp[h7]
    try simp only[go_sem,qW]
    repeat' ((first|with_reducible refine aY (fun h=>?_) (fun h=>?_)|with_reducible refine bB (fun h=>?_) (fun h=>?_))<;>(try simp only[bTe,bTf,bP3]at h)<;>try simp only[go_sem, *,(oH _ _ _).ret,(oW p w _ _ hp hw ho.1).ret,dX hp.nodes,dX hp.cons,bK,aHm])
    all_goals simp[dQ, *]
    all_goals (intros;simp_all)
theorem aS4 (l:List Int)(m:Int)(hl:Few l.length):PC L 100 [.is l,.i m] (.bool (nW l m)):=by
 have hL:=at_ func100
 conv at hL=>rhs;reduce
 refine aI hL rfl rfl ?_
 simp only[go_sem,qW]
 refine bQ (l.length) (fun k st=> ∃fr en cnt,st=⟨fr,en,cnt⟩/\ (fr 0= .is l)/\ (fr 1= .i m)/\ (fr 5= .i k)/\ ((l.drop k).all (fun n=>inR n (-1000000000) 1000000000)=l.all fun n=>inR n (-1000000000) 1000000000)) 0 (bPx _) ⟨_,_,_,rfl,(by first|(simp only[go_sem];(try rfl);done)|rfl|simp),(by first|(simp only[go_sem];(try rfl);done)|rfl|simp),(by first|(simp only[go_sem];(try rfl);done)|rfl|simp),(by first|(simp only[go_sem];(try rfl);done)|rfl|simp)⟩ ?_
 rintro k st hk ⟨fr,en,cnt,rfl,h0,h1,h5,hI⟩
 simp only[go_sem,qW,h0,h1,h5]
 refine bB (fun h=>?_) (fun h=>?_)
 ·have h':k<l.length:=D_o h;rw[gD h']at hI;simp only[go_sem,h']
  refine aY (fun hm=>?_) (fun hm=>?_)
  ·simp only[go_sem,qW,h5,(oH _ _ _).ret]
   refine aY (fun hb=>?_) (fun hb=>?_)
   ·simp at hb
    simp[nW,<-hI,hb]
   ·simp at hb
    refine⟨_,_,_,rfl,?_⟩
    simp only[go_sem,h0,h1,aT h' hl];rw[<-hI,hb];simp
  ·simp at hm
   try simp only[go_sem,qW,h0,h1,h5]
   simp[nW];omega
 ·have:k=l.length:=by simp at h;omega
  subst this
  try simp only[go_sem,h,h0,h1]
  simp at hI
  simp[nW];exact fun _=>hI
theorem aQb (w:aA)(hw:w.few):PC L 102 [.agg w.cs] (.bool (jI w)):=by
 have hL:=at_ func102
 conv at hL=>rhs;reduce
 refine aI hL rfl rfl ?_
 simp only[go_sem,qW]
 refine bQ (w.objs.length) (fun k st=> ∃fr en cnt,st=⟨fr,en,cnt⟩/\ (fr 1= .ptr ⟨0,1,0⟩ 0)/\ (en ⟨0,1,0⟩=some (.box w.cells false))/\ (fr 3= .i ((w.objs.take k).countP cW:Nat))/\ (fr 4= .i k)) 0 (bPx _) ⟨_,_,_,rfl,(by first|(simp only[go_sem];(try rfl);done)|rfl|simp),(by first|(simp only[go_sem];(try rfl);done)|rfl|simp),(by first|(simp only[go_sem];(try rfl);done)|rfl|simp),(by first|(simp only[go_sem];(try rfl);done)|rfl|simp)⟩ ?_
 rintro k st hk ⟨fr,en,cnt,rfl,h1,e1,h3,h4⟩
 simp only[go_sem,qW,h1,e1,h3,h4]
 refine aY (fun h=>?_) (fun h=>?_)
 ·have h':k<w.objs.length:=D_o h;have hc:(w.objs.take k).countP cW<=k:=bP2 bS0 (by simp;omega)
  have hs:=aVv h' cW;simp only[go_sem,h',h3,h4]
  refine aY (fun hb=>?_) (fun hb=>?_)
  ·simp at hb
   have e:IntKind.i64.wrap (((w.objs.take k).countP cW:Nat)+1)=(((w.objs.take (k+1)).countP cW:Nat):Int):=by
    have:=hw.objs;unfold Few at this;rw[aW (by omega),hs];simp[cW,hb]
   simp only[go_sem,e,aT h' hw.objs]
   refine⟨_,_,_,rfl,?_⟩
   simp only[go_sem,h1,e1]
  ·simp at hb
   have e:(w.objs.take (k+1)).countP cW=(w.objs.take k).countP cW:=by rw[hs];simp[cW,hb]
   refine⟨_,_,_,rfl,?_⟩
   simp only[go_sem,h1,e1,h3,e,aT h' hw.objs]
 ·have:k=w.objs.length:=by simp at h;omega
  subst this
  try simp only[go_sem,bQ6]
  refine aY (fun hb=>?_) (fun hb=>?_)
  ·simp at hb
   simp[jI];intro h0;omega
  ·have hn:w.tasks.length=w.objs.countP cW:=by simp at hb;omega
   clear hb h
   refine bQ (w.tasks.length) (fun k st=> ∃fr en cnt,st=⟨fr,en,cnt⟩/\ (fr 1= .ptr ⟨0,1,0⟩ 0)/\ (en ⟨0,1,0⟩=some (.box w.cells false))/\ (fr 3= .i (w.tasks.length:Nat))/\ (fr 5= .i k)/\ (bS w (w.tasks.take k) (w.tasks.drop k)=bS w [] w.tasks)) 0 (bPx _) ⟨_,_,_,rfl,(by first|(simp only[go_sem,h1,hn];(try rfl);done)|rfl|simp),(by first|(simp only[go_sem,e1];(try rfl);done)|rfl|simp),(by first|(simp only[go_sem,h3,hn,bQ6];(try rfl);done)|rfl|simp),(by first|(simp only[go_sem,hn];(try rfl);done)|rfl|simp),(by first|(simp only[go_sem];(try rfl);done)|rfl|simp)⟩ ?_
   rintro k st hk ⟨fr,en,cnt,rfl,h1,e1,h3,h5,hI⟩
   simp only[go_sem,qW,h1,e1,h3,h5]
   refine aY (fun h=>?_) (fun h=>?_)
   ·have h':k<w.tasks.length:=D_o h;rw[bQu h',bS,<-gZ h']at hI;simp only[go_sem,h',h1,e1,(oH _ _ _).ret,dX hw.objs]
    refine bB (fun hb=>?_) (fun hb=>?_)
    ·have hb':inR w.tasks[k] 0 (w.objs.length-1)=true:=by simpa using hb
     simp only[go_sem,hb',h1,e1,h5,zZ]
     refine bB (fun hc=>?_) (fun hc=>?_)
     ·have hc':cW (w.obj w.tasks[k])=true:=by simpa[cW]using hc
      simp only[go_sem,qW,hc,h5,vA,hk,<-bRe,(aNb _ _ (aK5 hw.tasks k)).ret]
      refine aY (fun hd=>?_) (fun hd=>?_)
      ·simp[jI,<-hI,hb',hc',hd]
      ·refine⟨_,_,_,rfl,?_⟩
       simp only[go_sem,h1,e1,h3,aT h' hw.tasks];rw[<-hI,hb',hc',hd];simp
     ·simp only[go_sem,qW,hc];simp[]at hc;simp[jI,<-hI,cW,hc]
    ·simp only[go_sem,qW,hb]
     simp at hb
     simp[jI,<-hI,hb]
   ·have:k=w.tasks.length:=by simp at h;omega
    subst this
    try simp only[go_sem,qW,h1,e1,h3,h5]
    have ht:bS w [] w.tasks=true:=by rw[<-hI];simp[bS]
    simp[jI,hn,ht]
theorem aFt (p:aF)(w:aA)(hp:p.few)(hw:w.few):PC L 39 [.agg p.cs,.agg w.cs] (.bool (cX p w)):=by
 have hL:=at_ func39
 conv at hL=>rhs;reduce
 refine aI hL rfl rfl ?_
 simp only[go_sem,qW]
 repeat' ((first|with_reducible refine aY (fun h=>?_) (fun h=>?_)|with_reducible refine bB (fun h=>?_) (fun h=>?_))<;>(try simp only[bTe,bTf,bP8]at h)<;>try simp only[go_sem,qW, *,(oH _ _ _).ret,(aS4 _ _ hw.ins).ret,(aQb w hw).ret])
 all_goals (try simp only[bQ2,Bool.not_eq_false',Int.not_lt]at*)
 all_goals try(simp[cX, *];done)
 all_goals try(simp[cX, *];intros;omega)
 rename_i g1 g2 g3 g4
 refine bQ (w.objs.length) (fun k st=> ∃fr en cnt,st=⟨fr,en,cnt⟩/\ (fr 2= .ptr ⟨0,2,0⟩ 0)/\ (en ⟨0,2,0⟩=some (.box p.cells false))/\ (fr 3= .ptr ⟨0,3,0⟩ 0)/\ (en ⟨0,3,0⟩=some (.box w.cells false))/\ (fr 5= .i k)/\ ((w.objs.drop k).all (dQ p w)=w.objs.all (dQ p w))) 0 (bPx _) ⟨_,_,_,rfl,(by first|(simp only[go_sem];(try rfl);done)|rfl|simp),(by first|(simp only[go_sem];(try rfl);done)|rfl|simp),(by first|(simp only[go_sem];(try rfl);done)|rfl|simp),(by first|(simp only[go_sem];(try rfl);done)|rfl|simp),(by first|(simp only[go_sem];(try rfl);done)|rfl|simp),(by first|(simp only[go_sem];(try rfl);done)|rfl|simp)⟩ ?_
 rintro k st hk ⟨fr,en,cnt,rfl,h2,e2,h3,e3,h5,hI⟩
 simp only[go_sem,qW,h2,e2,h3,e3,h5]
 refine aY (fun h1=>?_) (fun h1=>?_)
 ·have h':k<w.objs.length:=D_o h1;rw[gD h']at hI;simp only[go_sem,qW,h',h5,(aNc p w _ hp hw (hw.obj w.objs[k] (bPz _))).ret]
  refine aY (fun hb=>?_) (fun hb=>?_)
  ·simp at hb
   simp[cX,<-hI,hb]
  ·simp at hb
   refine⟨_,_,_,rfl,?_⟩
   simp only[go_sem,h2,e2,h3,e3,aT h' hw.objs];rw[<-hI,hb];simp
 ·have:k=w.objs.length:=by simp at h1;omega
  subst this;have hobj:w.objs.all (dQ p w)=true:=by rw[<-hI];simp
  clear hI h1
  try simp only[go_sem,qW,h2,e2,h3,e3,h5]
  refine bQ (w.outs.length) (fun k st=> ∃fr en cnt,st=⟨fr,en,cnt⟩/\ (fr 3= .ptr ⟨0,3,0⟩ 0)/\ (en ⟨0,3,0⟩=some (.box w.cells false))/\ (fr 6= .i k)/\ ((w.outs.drop k).all wR=w.outs.all wR)) 0 (bPx _) ⟨_,_,_,rfl,(by first|(simp only[go_sem,h3];(try rfl);done)|rfl|simp),(by first|(simp only[go_sem,e3];(try rfl);done)|rfl|simp),(by first|(simp only[go_sem];(try rfl);done)|rfl|simp),(by first|(simp only[go_sem];(try rfl);done)|rfl|simp)⟩ ?_
  rintro k st hk ⟨fr,en,cnt,rfl,h3,e3,h6,hI⟩
  simp only[go_sem,qW,h3,e3,h6]
  refine aY (fun h1=>?_) (fun h1=>?_)
  ·have h':k<w.outs.length:=D_o h1;rw[gD h']at hI;simp only[go_sem,qW,h',h3,e3,h6,(oH _ _ _).ret]
   refine bB (fun hb=>?_) (fun hb=>?_)
   ·simp at hb
    simp only[go_sem,hb,bP3]
    refine aY (fun hc=>?_) (fun hc=>?_)
    ·simp at hc
     simp[cX,<-hI,wR,hc]
    ·simp at hc
     refine⟨_,_,_,rfl,?_⟩
     simp only[go_sem,h3,e3,aT h' hw.outs];rw[<-hI,wR,hb,hc];simp
   ·simp at hb
    simp only[go_sem,qW,hb,bP8];simp[cX,<-hI,wR,hb]
  ·have:k=w.outs.length:=by simp at h1;omega
   subst this;have hout:w.outs.all wR=true:=by rw[<-hI];simp
   try simp only[go_sem,qW,h3,e3,h6]
   simp only[cX,hobj,hout,g3,g4,h];simp[g1,g2]
theorem yQ (l:List aD):PC L 93 [.fz (l.map aD.enc)] (.bool (decide ((l.length:Int)<=40))):=by
 have hL:=at_ func93
 conv at hL=>rhs;reduce
 refine aI hL rfl rfl ?_
 simp only[go_sem,qW]
theorem wT (w:aA)(hw:w.few):PC L 36 [.agg w.cs] (.bool (bW w)):=by
 have hL:=at_ func36
 conv at hL=>rhs;reduce
 refine aI hL rfl rfl ?_
 simp only[go_sem,qW]
 repeat' ((first|with_reducible refine aY (fun h=>?_) (fun h=>?_)|with_reducible refine bB (fun h=>?_) (fun h=>?_))<;>(try simp only[bTe,bTf,bP8]at h)<;>try simp only[go_sem,qW, *])
 all_goals (try simp only[Int.not_lt]at*)
 all_goals try(simp[bW, *];done)
 all_goals try(simp[bW, *];intros;omega)
 rename_i g1 g2 g3
 refine bQ (w.objs.length) (fun k st=> ∃fr en cnt,st=⟨fr,en,cnt⟩/\ (fr 1= .ptr ⟨0,1,0⟩ 0)/\ (en ⟨0,1,0⟩=some (.box w.cells false))/\ (fr 3= .i k)/\ ((w.objs.drop k).all iJ=w.objs.all iJ)) 0 (bPx _) ⟨_,_,_,rfl,(by first|(simp only[go_sem];(try rfl);done)|rfl|simp),(by first|(simp only[go_sem];(try rfl);done)|rfl|simp),(by first|(simp only[go_sem];(try rfl);done)|rfl|simp),(by first|(simp only[go_sem];(try rfl);done)|rfl|simp)⟩ ?_
 rintro k st hk ⟨fr,en,cnt,rfl,h1,e1,h3,hI⟩
 simp only[go_sem,qW,h1,e1,h3]
 refine aY (fun hq=>?_) (fun hq=>?_)
 ·have h':k<w.objs.length:=D_o hq;have hx:=hw.obj w.objs[k] (bPz _);rw[gD h']at hI;simp only[go_sem,qW,h',(yQ _).ret]
  refine bB (fun hb=>?_) (fun hb=>?_)
  ·simp at hb
   try simp only[go_sem,hb]
   refine aY (fun hc=>?_) (fun hc=>?_)
   ·simp at hc
    simp[bW,<-hI,iJ];intros;omega
   ·simp at hc
    generalize cnt 0 4=g4
    refine bQ (w.objs[k].frames.length) (fun j st=> ∃fr en cnt,st=⟨fr,en,cnt⟩/\ (fr 1= .ptr ⟨0,1,0⟩ 0)/\ (en ⟨0,1,0⟩=some (.box w.cells false))/\ (fr 4= .ptr ⟨0,4,g4⟩ 0)/\ (en ⟨0,4,g4⟩=some (.box [.i w.objs[k].form,.i w.objs[k].n,.fz (w.objs[k].vals.map aD.enc),.fz (w.objs[k].frames.map aB.enc)] false))/\ (fr 3= .i k)/\ (fr 5= .i j)/\ ((w.objs[k].frames.drop j).all (fun f=>decide ((f.env.length:Int)<=40)&&decide ((f.vals.length:Int)<=40))=w.objs[k].frames.all fun f=>decide ((f.env.length:Int)<=40)&&decide ((f.vals.length:Int)<=40))) 0 (bPx _) ⟨_,_,_,rfl,(by first|(simp only[go_sem,h1];(try rfl);done)|rfl|simp),(by first|(simp only[go_sem,e1];(try rfl);done)|rfl|simp),(by first|(simp only[go_sem];(try rfl);done)|rfl|simp),(by first|(simp only[go_sem];(try rfl);done)|rfl|simp),(by first|(simp only[go_sem,h3];(try rfl);done)|rfl|simp),(by first|(simp only[go_sem];(try rfl);done)|rfl|simp),(by first|(simp only[go_sem];(try rfl);done)|rfl|simp)⟩ ?_
    rintro j st hk ⟨fr,en,cnt,rfl,h1,e1,h4,e4,h3,h5,hJ⟩
    simp only[go_sem,qW,h4,e4,h3,h5]
    refine aY (fun h2=>?_) (fun h2=>?_)
    ·have h2':j<w.objs[k].frames.length:=D_o h2;rw[gD h2']at hJ;simp only[go_sem,qW,h2',h4,e4,h5,(yQ _).ret]
     refine bB (fun hd=>?_) (fun hd=>?_)
     ·simp only[go_sem,hd]
      refine aY (fun he=>?_) (fun he=>?_)
      ·simp at he
       have:w.objs[k].frames.all (fun f=>decide ((f.env.length:Int)<=40)&&decide ((f.vals.length:Int)<=40))=false:=by rw[<-hJ];simp;intros;omega
       simp only[bW,<-hI,iJ,this];simp
      ·refine⟨_,_,_,rfl,?_⟩
       simp only[go_sem,h1,e1,h4,e4,h3,aT h2' hx.2.1]
       simp at hd he
       rw[<-hJ];simp;intros;exact⟨by omega,by omega⟩
     ·simp only[go_sem,qW,hd,bP8]
      simp at hd
      have:w.objs[k].frames.all (fun f=>decide ((f.env.length:Int)<=40)&&decide ((f.vals.length:Int)<=40))=false:=by rw[<-hJ];simp;intros;omega
      simp only[bW,<-hI,iJ,this];simp
    ·have:j=w.objs[k].frames.length:=by simp at h2;omega
     subst this;have hfr:iJ w.objs[k]=true:=by
      simp only[iJ,<-hJ];simp;exact⟨by omega,by omega⟩
     try simp only[go_sem,qW,h1,e1,h4,e4,h3,h5]
     refine⟨_,_,_,rfl,?_⟩
     simp only[go_sem,h1,e1,aT h' hw.objs];rw[<-hI,hfr];simp
  ·simp only[go_sem,qW,hb,bP8]
   simp at hb
   have:iJ w.objs[k]=false:=by simp[iJ];intros;omega
   simp[bW,<-hI,this]
 ·have:k=w.objs.length:=by simp at hq;omega
  subst this;have hobj:w.objs.all iJ=true:=by rw[<-hI];simp
  try simp only[go_sem,qW,h1,e1,h4,e4,h3,h5]
  simp only[bW,hobj];simp[g1,g2,g3,h]
end Go.Proofs.YtmnchlhngpdffaaGreat
namespace Go.Abs
def nX (s:ByteArray):List UInt8:=s.data.toList
theorem qP (s:ByteArray):(nX s).length=s.size:=by unfold nX;rw[bRz];rfl
variable {s:ByteArray}
theorem aQc {k:IntKind}{j:Nat}(h:j<(nX s).length):aW7 (.str s) (.int k (j:Int))=some {v:= .int .u8 ((nX s)[j].toNat:Nat)}:=bD8 h
theorem aOg (s:ByteArray):nX (s.extract 1 s.size)=(nX s).drop 1:=by
 have hs:s.size=s.data.toList.length:=by rw[bRz];rfl
 unfold nX;rw[ByteArray.data_extract,Array.toList_extract,hs];show List.take _ (List.drop 1 _)=_;exact bQa (by rw[bR6];exact bPq _)
def lE (b:UInt8):Bool:=decide (97<=(b.toNat:Int))&&decide ((b.toNat:Int)<=122)
def oQ (l:List UInt8):Bool:=l.all lE
def aK6 :List UInt8->Bool
 |[]=>false
 |b::l=>decide ((b::l).length<=8)&&decide (65<=(b.toNat:Int))&&decide ((b.toNat:Int)<=90)&&oQ l
def aFu (x y:ByteArray):Bool:=x.toList==y.toList
def vC (l:List ByteArray)(s:ByteArray):Bool:=l.any fun x=>aFu x s
def nA :List ByteArray->List ByteArray->Bool
 |_,[]=>true
 |met,s::l=>!vC met s&&nA (met++[s]) l
def wU (c:cS):Bool:=aK6 (nX c.name)&&inR c.args 0 3
def aAa (l:List cS):Bool:=l.all wU&&decide ((l.length:Int)<=20)&&nA [] (l.map cS.name)
def yR (cons:List cS)(f n:Int)(k:Nat):Bool:=
 if f=1 \/f=2 \/f=5 then decide ((k:Int)=0)&&decide (n=0)
 else if f=3 then decide ((k:Int)=0)&&inR n (-1000000000) 1000000000
 else if f=4 then decide ((k:Int)=0)&&inR n 0 1
 else if f=6 then inR n 0 (cons.length-1)&&decide ((k:Int)=(cons.getD n.toNat default).args)else false
def aHn (t:ByteArray):Bool:=t.toList==(⟨#[]⟩:ByteArray).toList
def tM (cons:List cS)(f n:Int)(t:ByteArray)(k:Nat):Bool:=yR cons f n k&&aHn t
mutual
def sJ (cons:List cS):Pat->Bool
 | .mk f n t ps=>tM cons f n t ps.length&&aK7 cons ps
def aK7 (cons:List cS):List Pat->Bool
 |[]=>true
 |p::ps=>sJ cons p&&aK7 cons ps
end
theorem aK8 (cons:List cS): ∀l,aK7 cons l=l.all (sJ cons)
 |[]=>by simp[aK7]
 |p::ps=>by simp[aK7,aK8 cons ps]
theorem aK9 (cons:List cS)(p:Pat):sJ cons p=(tM cons p.form p.n p.text p.parts.length&&p.parts.all (sJ cons)):=by
 cases p;simp only[sJ,aK8,Pat.form,Pat.n,Pat.text,Pat.parts]
mutual
def qQ :Pat->Int->Int
 | .mk _ _ _ ps,left=>if left<1 then-1 else kH ps (left-1)
def kH :List Pat->Int->Int
 |[],left=>left
 |p::ps,left=>if 0<=left then kH ps (qQ p left)else left
end
mutual
def lA :Pat->Bool
 | .mk _ _ t ps=>sK ps&&decide ((t.size:Int)<=30)
def sK :List Pat->Bool
 |[]=>true
 |p::ps=>lA p&&sK ps
end
theorem aAy : ∀l,sK l=l.all lA
 |[]=>by simp[sK]
 |p::ps=>by simp[sK,aAy ps]
theorem aDt (p:Pat):lA p=(p.parts.all lA&&decide ((p.text.size:Int)<=30)):=by
 cases p;simp only[lA,aAy];rfl
theorem aLa (p:Pat)(left:Int):qQ p left=if left<1 then-1 else kH p.parts (left-1):=by
 cases p;simp only[qQ,Pat.parts]
mutual
theorem aLb : ∀(p:Pat) (left:Int),-1<=left-> -1<=qQ p left/\ qQ p left<=left
 | .mk _ _ _ ps,left,h=>by
  rw[qQ];split
  ·omega
  ·have:=aOh ps (left-1) (by omega);omega
theorem aOh : ∀(l:List Pat) (left:Int),-1<=left-> -1<=kH l left/\ kH l left<=left
 |[],left,h=>by rw[kH];omega
 |p::ps,left,h=>by
  rw[kH];split
  ·have h1:=aLb p left h;have h2:=aOh ps (qQ p left) h1.1;omega
  ·omega
end
theorem aEi : ∀{l:List Pat} {left:Int},left<0->kH l left=left
 |[],_,_=>by rw[kH]
 |_::_,_,h=>by rw[kH,if_neg (by omega)]
def aBu (p:Pat):Bool:=decide (0<=qQ p 16)&&lA p
def gE (n:aM):Bool:=decide ((n.kids.length:Int)<=10)&&decide ((n.pats.length:Int)<=10)&&n.pats.all aBu
def aR (p:aF):Bool:=
 decide ((p.nodes.length:Int)<=320)&&decide ((p.funs.length:Int)<=320)&&decide ((p.cons.length:Int)<=25)&&p.cons.all (fun c=>decide ((c.name.size:Int)<=40))&&p.nodes.all gE
def fK (op:Int)(pats:Int)(args:Int):Int:=
 if op=1 \/op=2 \/op=3 \/op=4 \/op=21 \/op=25 \/op=28 then 0
 else if op=5 \/op=27 \/op=16 \/op=17 \/op=19 \/op=20 \/op=23 \/op=26 \/op=24 then 1
 else if op=6 \/op=7 \/op=9 \/op=10 \/op=11 \/op=12 \/op=13 \/op=18 \/op=22 then 2
 else if op=8 then 3 else if op=15 then 1+pats else if op=14 then args else-1
def nL (cons:List cS)(q:Pat):Bool:=decide (0<=qQ q 12)&&sJ cons q
def oL (p:aF)(n:aM):Bool:=
 if n.op=1 then inR n.n (-1000000000) 1000000000
 else if n.op=2 then inR n.n 0 1
 else if n.op=4 then inR n.n (-(p.funs.length:Int)) 29
 else if n.op=24 then inR n.n 0 3
 else if n.op=14 then inR n.n 0 (p.cons.length-1)else decide (n.n=0)
def pN (p:aF)(n:aM):Int:=if n.op=14/\ inR n.n 0 (p.cons.length-1)=true then(p.cons.getD n.n.toNat default).args else 0
def mG (n:aM):Bool:=if n.op=15 then inR n.pats.length 1 5 else decide ((n.pats.length:Int)=0)
def eN (p:aF)(n:aM):Bool:=
 ((oL p n&&mG n)&&n.pats.all (nL p.cons))&&decide ((n.kids.length:Int)=fK n.op n.pats.length (pN p n))
def aBv (lo hi:Int):List Bool->List Int->Option (List Bool)
 |u,[]=>some u
 |u,x::l=>if inR x lo hi&&!(u.getD x.toNat false)then aBv lo hi (u.set x.toNat true) l else none
def lP (p:aF):Nat->List Bool->List aM->Option (List Bool)
 |_,u,[]=>some u
 |i,u,n::l=>if eN p n then(aBv ((i:Int)+1) (p.nodes.length-1) u n.kids).bind fun u=>lP p (i+1) u l else none
def aAb :Option (List Bool)->Bool
 |some u=>u.all id
 |none=>false
def dV (p:aF):Bool:=
 decide ((p.nodes.length:Int)<=300)&&inR p.funs.length 1 p.nodes.length&&inR p.main 0 (p.funs.length-1)&&aAa p.cons&&
  aAb ((aBv 0 (p.nodes.length-1) (List.replicate p.nodes.length false) p.funs).bind fun u=>lP p 0 u p.nodes)
theorem Pat.few_parts {p:Pat}(h:p.few):Few p.parts.length/\ Few p.text.size/\ ∀q∈p.parts,q.few:=by
 cases h with|mk f n t l h ht k=>exact⟨h,ht,k⟩
theorem Pat.ind {P:Pat->Prop}(h: ∀p:Pat,(∀q∈p.parts,P q)->P p): ∀p,P p:=by
 intro p
 induction p using Pat.rec (motive_2:=fun l=> ∀q∈l,P q)with
 |mk f n t l ih=>exact h _ ih
 |nil=>rename_i q hq;simp at hq
 |cons p l h1 h2=>
  rename_i q hq;rcases bQm.1 hq with rfl|hq
  ·exact h1
  ·exact h2 _ hq
variable {i:Nat}
theorem bBs (h:i<(nX s).length):s.get! i=(nX s)[i]:=by
 have h':i<s.data.size:=by rw[qP]at h;exact h
 show s.data[i]! =_;rw[getElem!_pos s.data i h'];simp only[nX,bSm]
theorem aQd (h:i<(nX s).length):
  (lE (nX s)[i]=true->Utf8.decode s i=((nX s)[i].toNat,1))/\ (lE (nX s)[i]=false->((Utf8.decode s i).1:Int)<97 \/122<((Utf8.decode s i).1:Int)):=by
 have hg:=bBs h;simp only[lE,bPp,bTe,Bool.and_eq_false_iff,bTf];constructor
 ·intro hb;unfold Utf8.decode;simp only[bQ9,hg];rw[if_pos (by omega)]
 ·intro hb;unfold Utf8.decode;simp only[bQ9,hg,Utf8.runeError];split
  ·simp only;omega
  ·split
   ·split
    ·simp only;omega
    ·simp
   ·split
    ·split
     ·rename_i h1;simp only[bPp,bTe]at h1;simp only;omega
     ·simp
    ·split
     ·split
      ·rename_i h1;simp only[bPp,bTe]at h1;simp only;omega
      ·simp
     ·simp
def xR (ks:List ByteArray)(s:ByteArray):List ByteArray:=if vC ks s then ks else ks++[s]
theorem aLc : ∀(l ks:List ByteArray),(l.foldl xR ks).length<=ks.length+l.length
 |[],ks=>by simp
 |s::l,ks=>by
  have:=aLc l (xR ks s);simp only[bR2,bPy];have h2:(xR ks s).length<=ks.length+1:=by unfold xR;split<;>simp
  omega
theorem aFv : ∀(l ks:List ByteArray),decide ((l.foldl xR ks).length=ks.length+l.length)=nA ks l
 |[],ks=>by simp[nA]
 |s::l,ks=>by
  simp only[bR2,bPy,nA]
  by_cases h:vC ks s=true
  ·have:=aLc l ks;simp only[xR,h,if_true,bP3,bQq,bTf];omega
  ·have:=aFv l (ks++[s]);simp only[bQ0]at h;simp only[xR,h,bPs,if_false,bP8,bQn];rw[<-this,decide_eq_decide];simp only[bP9,bPy,bP7];omega
mutual
def tI :Pat->Int->Int
 | .mk _ _ _ ps,most=>mH ps most 1
def mH :List Pat->Int->Int->Int
 |[],_,n=>n
 |q::qs,most,n=>if most<n then n else mH qs most (n+tI q (most-n))
end
theorem bBt (p:Pat)(most:Int):tI p most=mH p.parts most 1:=by cases p;simp only[tI,Pat.parts]
theorem aS5 : ∀{l:List Pat} {most n:Int},most<n->mH l most n=n
 |[],_,_,_=>by rw[mH]
 |_::_,_,_,h=>by rw[mH,if_pos h]
mutual
theorem aLd : ∀(p:Pat) (most:Int),0<=most->1<=tI p most/\ tI p most<=most+1
 | .mk _ _ _ ps,most,h=>by rw[tI];exact aOi ps most 1 (by omega)
theorem aOi : ∀(l:List Pat) (most n:Int),n<=most+1->n<=mH l most n/\ mH l most n<=most+1
 |[],most,n,h=>by rw[mH];omega
 |q::qs,most,n,h=>by
  rw[mH];split
  ·omega
  ·have h1:=aLd q (most-n) (by omega)
   have h2:=aOi qs most (n+tI q (most-n)) (by omega)
   omega
end
mutual
theorem aIo : ∀(p:Pat) (most:Int),0<=most->qQ p most=if tI p most<=most then most-tI p most else-1
 | .mk _ _ _ ps,most,h=>by
  have:=aDu ps most 1 (by omega)
  rw[qQ,tI];split
  ·rename_i h0;have h1:most=0:=by omega
   subst h1;rw[aS5 (by omega),if_neg (by omega)]
  ·exact this
theorem aDu : ∀(l:List Pat) (most n:Int),n<=most+1->kH l (most-n)=if mH l most n<=most then most-mH l most n else-1
 |[],most,n,h=>by
  rw[kH,mH];split<;>omega
 |q::qs,most,n,h=>by
  by_cases hm:0<=most-n
  ·rw[kH,mH,if_pos hm,if_neg (show¬most<n by omega)]
   have h1:=aLd q (most-n) (by omega)
   have hw:=aIo q (most-n) (by omega)
   have h2:=aDu qs most (n+tI q (most-n)) (by omega)
   rw[hw,<-h2];split
   ·congr 1;omega
   ·rw[aEi (by omega),aEi (by omega)];omega
  ·rw[kH,mH,if_neg hm,if_pos (show most<n by omega),if_neg (by omega)];omega
end
theorem bBu (q:Pat):decide (tI q 12<=12)=decide (0<=qQ q 12):=by
 have h:=aIo q 12 (by omega)
 rw[h,decide_eq_decide]
 split<;>omega
def aAc (op:Int):Val:=
 if op=1 \/op=2 \/op=3 \/op=4 \/op=21 \/op=25 \/op=28 then .ifc 381 (.int .i64 0)
 else if op=5 \/op=27 \/op=16 \/op=17 \/op=19 \/op=20 \/op=23 \/op=26 \/op=24 then .ifc 381 (.int .i64 1)
 else if op=6 \/op=7 \/op=9 \/op=10 \/op=11 \/op=12 \/op=13 \/op=18 \/op=22 then .ifc 381 (.int .i64 2)
 else if op=8 then .ifc 381 (.int .i64 3)else if op=14 then .ifc 382 (.agg [])else if op=15 then .ifc 355 (.agg [])else .nili
theorem aNd (op:Int):(∃c:Int,aAc op= .ifc 381 (.int .i64 c)/\ (∀n a,fK op n a=c)/\ op≠14/\ op≠15) \/(op=14/\ aAc op= .ifc 382 (.agg [])) \/
  (op=15/\ aAc op= .ifc 355 (.agg [])) \/(aAc op= .nili/\ (∀n a,fK op n a= -1)/\ op≠14/\ op≠15):=by
 unfold aAc fK;split
 ·left;refine⟨0,rfl,fun _ _=>rfl,?_,?_⟩<;>omega
 split
 ·left;refine⟨1,rfl,fun _ _=>rfl,?_,?_⟩<;>omega
 split
 ·left;refine⟨2,rfl,fun _ _=>rfl,?_,?_⟩<;>omega
 split
 ·left;refine⟨3,rfl,fun _ _=>rfl,?_,?_⟩<;>omega
 split
 ·right;left;exact⟨by assumption,rfl⟩
 split
 ·right;right;left;exact⟨by assumption,rfl⟩
 ·right;right;right;refine⟨rfl,fun n a=>?_,?_,?_⟩<;>first|omega|skip
theorem aIp (s:ByteArray): ∀ks:List ByteArray,(∃i,findKey .str (.str s) (ks.map .str)=some (some i)/\ vC ks s=true/\ (ks.map Val.str).set i (.str s)=ks.map .str) \/
  (findKey .str (.str s) (ks.map .str)=some none/\ vC ks s=false)
 |[]=> .inr ⟨rfl,rfl⟩
 |x::ks=>by
  have hsym:(s.toList==x.toList)=aFu x s:=by unfold aFu;exact Bool.beq_comm
  by_cases h:aFu x s=true
  ·refine .inl ⟨0,?_,?_,?_⟩
   ·simp only[bQj,findKey,oS,hsym,h]
   ·simp[vC,h]
   ·have:x=s:=by
     simp only[aFu,beq_iff_eq]at h;rw[Go.ByteArray.toList_eq,Go.ByteArray.toList_eq]at h;cases x;cases s;simp only at h
     congr
     exact Array.toList_inj.1 h
    simp[this]
  ·simp only[bQ0]at h;rcases aIp s ks with⟨i,h1,h2,h3⟩|⟨h1,h2⟩
   ·refine .inl ⟨i+1,?_,?_,?_⟩
    ·simp only[bQj,findKey,oS,hsym,h,h1]
    ·simp only[vC,List.any_cons,h,bQp];exact h2
    ·simp[h3]
   ·refine .inr ⟨?_,?_⟩
    ·simp only[bQj,findKey,oS,hsym,h,h1]
    ·simp only[vC,List.any_cons,h,bQp];exact h2
def bY (p:aF)(w:aA):Bool:=dV p&&cX p w
end Go.Abs
namespace Go.Proofs.YtmnchlhngpdffaaGreat
open Go.Abs Go.Proofs Tryz
set_option maxRecDepth 100000
set_option maxHeartbeats 4000000
theorem rS (n lo hi:Int):PC L 97 [.i n,.i lo,.i hi] (.bool (inR n lo hi)):=by
 have hL:=at_ func97
 conv at hL=>rhs;reduce
 refine aI hL rfl rfl ?_
 simp only[go_sem,qW]
 refine bB (fun h=>?_) (fun h=>?_)<;>simp only[go_sem,h]<;>simp at h<;>simp[h,inR]
 omega
theorem aQe (s:ByteArray)(hs:Few s.size):PC L 192 [.str s] (.bool (oQ (nX s))):=by
 have hL:=at_ func192
 conv at hL=>rhs;reduce
 refine aI hL rfl rfl ?_
 simp only[go_sem,qW]
 refine bQ (s.size) (fun k st=> ∃fr en cnt,st=⟨fr,en,cnt⟩/\ (fr 0= .str s)/\ (fr 3= .i k)/\ (((nX s).drop k).all lE=(nX s).all lE)) 0 (bPx _) ⟨_,_,_,rfl,(by first|(simp only[go_sem];(try rfl);done)|rfl|simp),(by first|(simp only[go_sem];(try rfl);done)|rfl|simp),(by first|(simp only[go_sem];(try rfl);done)|rfl|simp)⟩ ?_
 rintro k st hk ⟨fr,en,cnt,rfl,h0,h3,hI⟩
 have hsz:=qP s;simp only[go_sem,qW,h0,h3]
 refine aY (fun h=>?_) (fun h=>?_)
 ·have h':k<s.size:=D_o h;have h'':k<(nX s).length:=by omega
  rw[gD h'']at hI;simp only[go_sem,qW,h',h0,h3,aQc h'']
  refine bB (fun hb=>?_) (fun hb=>?_)
  ·simp only[go_sem,hb]
   refine aY (fun hc=>?_) (fun hc=>?_)
   ·simp only[bTe,bTf]at hb hc;have:lE (nX s)[k]=false:=by simp only[lE,Bool.and_eq_false_iff,bTf];right;omega
    simp[oQ,<-hI,this]
   ·simp only[bTf]at hb hc;have:lE (nX s)[k]=true:=by simp only[lE,bPp,bTe];constructor<;>omega
    refine⟨_,_,_,rfl,?_⟩
    simp only[go_sem,h0,aT h' hs];rw[<-hI,this];simp
  ·simp only[go_sem,qW,hb,bP8];simp only[bTe,bP8]at hb;have:lE (nX s)[k]=false:=by simp only[lE,Bool.and_eq_false_iff,bTf];left;omega
   simp[oQ,<-hI,this]
 ·have:k=s.size:=by simp at h;omega
  subst this
  try simp only[go_sem,qW,h0,h3]
  rw[oQ,<-hI,<-hsz];simp
theorem aVw (l:List ByteArray)(s:ByteArray)(hl:Few l.length):PC L 154 [.fz (l.map .str),.str s] (.bool (vC l s)):=by
 have hL:=at_ func154
 conv at hL=>rhs;reduce
 refine aI hL rfl rfl ?_
 simp only[go_sem,qW]
 refine bQ (l.length) (fun k st=> ∃fr en cnt,st=⟨fr,en,cnt⟩/\ (fr 0= .fz (l.map .str))/\ (fr 1= .str s)/\ (fr 5= .i k)/\ ((l.drop k).any (fun x=>aFu x s)=l.any fun x=>aFu x s)) 0 (bPx _) ⟨_,_,_,rfl,(by first|(simp only[go_sem];(try rfl);done)|rfl|simp),(by first|(simp only[go_sem];(try rfl);done)|rfl|simp),(by first|(simp only[go_sem];(try rfl);done)|rfl|simp),(by first|(simp only[go_sem];(try rfl);done)|rfl|simp)⟩ ?_
 rintro k st hk ⟨fr,en,cnt,rfl,h0,h1,h5,hI⟩
 simp only[go_sem,qW,h0,h5]
 refine aY (fun h=>?_) (fun h=>?_)
 ·have h':k<l.length:=D_o h;rw[aSn h']at hI;simp only[go_sem,qW,h',h1,h5]
  refine aY (fun hb=>?_) (fun hb=>?_)
  ·rw[vC,<-hI,aFu,hb];rfl
  ·refine⟨_,_,_,rfl,?_⟩
   simp only[go_sem,h0,h1,aT h' hl];rw[<-hI,aFu,hb];simp
 ·have:k=l.length:=by simp at h;omega
  subst this
  try simp only[go_sem,qW,h0,h1,h5]
  rw[vC,<-hI];simp
theorem aNe (l:List ByteArray)(hl:Few l.length):PC L 136 [.fz (l.map .str)] (.bool (nA [] l)):=by
 have hL:=at_ func136
 conv at hL=>rhs;reduce
 refine aI hL rfl rfl ?_
 simp only[go_sem,qW]
 refine bQ (l.length) (fun k st=> ∃fr en cnt,st=⟨fr,en,cnt⟩/\ (fr 0= .fz (l.map .str))/\ (fr 3= .i k)/\ (nA (l.take k) (l.drop k)=nA [] l)) 0 (bPx _) ⟨_,_,_,rfl,(by first|(simp only[go_sem];(try rfl);done)|rfl|simp),(by first|(simp only[go_sem];(try rfl);done)|rfl|simp),(by first|(simp only[go_sem];(try rfl);done)|rfl|simp)⟩ ?_
 rintro k st hk ⟨fr,en,cnt,rfl,h0,h3,hI⟩
 simp only[go_sem,qW,h0,h3]
 refine aY (fun h=>?_) (fun h=>?_)
 ·have h':k<l.length:=D_o h;rw[bQu h',nA,<-gZ h']at hI;simp only[go_sem,qW,h',h0,h3,vA,hk,<-bRe,(aVw _ _ (aK5 hl k)).ret]
  refine aY (fun hb=>?_) (fun hb=>?_)
  ·rw[<-hI,hb];rfl
  ·refine⟨_,_,_,rfl,?_⟩
   simp only[go_sem,h0,aT h' hl];rw[<-hI,hb];simp
 ·have:k=l.length:=by simp at h;omega
  subst this
  try simp only[go_sem,qW,h0,h3]
  rw[<-hI];simp[nA]
theorem aLe {s:ByteArray}{en:En}(h:1<=s.size):kP true 1 en (.str s) (some (.i 1)) none none=some {v:= .str (s.extract 1 s.size)}:=by
 have:jC (some (.i 1)) 0 s.size=some 1:=by
  simp only[jC];rw[if_pos ⟨by omega,by omega⟩];rfl
 simp[kP,uZ,this]
variable {n:Nat}
theorem aLf {l:List UInt8}(hn:l.length=n)(h:0<l.length):aK6 l=(decide ((n:Int)<=8)&&decide ((65:Int)<=(l[0].toNat:Int))&&decide ((l[0].toNat:Int)<=90)&&oQ (l.drop 1)):=by
 cases l with
 |nil=>simp at h
 |cons b l=>
  have e:decide ((b::l).length<=8)=decide ((n:Int)<=8):=by rw[decide_eq_decide,hn];omega
  simp only[aK6,e,List.getElem_cons_zero,List.drop_succ_cons,bRy]
theorem aQf (s:ByteArray)(hs:Few s.size):PC L 135 [.str s] (.bool (aK6 (nX s))):=by
 have hL:=at_ func135
 conv at hL=>rhs;reduce
 refine aI hL rfl rfl ?_
 simp only[go_sem,qW]
 refine bB (fun h=>?_) (fun h=>?_)
 ·have h':1<=s.size:=by simp at h;omega
  have h0:0<(nX s).length:=by rw[qP];omega
  have hix:=fun(k:IntKind)=>aQc (k:=k) h0
  simp only[Int.natCast_zero]at hix;rw[aLf (qP s) h0];simp only[go_sem,h]
  refine bB (fun h1=>?_) (fun h1=>?_)<;>simp only[go_sem,h1,hix]
  refine bB (fun h2=>?_) (fun h2=>?_)<;>simp only[go_sem,h2]
  refine bB (fun h3=>?_) (fun h3=>?_)<;>simp only[go_sem,h3,aLe h',(aQe _ (show Few (s.extract 1 s.size).size by unfold Few at*;simp;omega)).ret,aOg]
  all_goals simp only[bTe,bTf,bP3]at*
  all_goals simp[*]
 ·have:s.size=0:=by simp at h;omega
  have e:nX s=[]:=by rw[<-bS6,qP,this]
  simp only[go_sem,h];rw[e];rfl
theorem aS6 (op n a:Int)(hn:0<=n/\ n<=1000):PC L 139 [.i op,.i n,.i a] (.i (fK op n a)):=by
 have e:IntKind.i64.wrap (1+n)=1+n:=aW (by omega)
 have hL:=at_ func139
 conv at hL=>rhs;reduce
 refine aI hL rfl rfl ?_
 simp only[go_sem,kK]
 repeat' ((first|with_reducible refine aG (fun h=>?_) (fun h=>?_)|with_reducible refine aJ (fun h=>?_) (fun h=>?_))<;>(try simp only[bTe,bTf]at h)<;>try simp only[go_sem,kK,h,e])
 all_goals simp[fK, *]
theorem aAz : ∀q:Pat,q.few-> ∀left:Int,-1<=left->left<=1000->PC L 137 [.agg [.i q.form,.i q.n,.str q.text,.fz (q.parts.map Pat.enc)],.i left] (.i (qQ q left)):=by
 refine Pat.ind fun q ih hq left h1 h2=>?_
 obtain⟨hl,_,hps⟩:=Pat.few_parts hq;have hL:=at_ func137
 conv at hL=>rhs;reduce
 refine aI hL rfl rfl ?_
 simp only[go_sem,qW]
 refine aY (fun h=>?_) (fun h=>?_)<;>simp only[bTe,bTf]at h
 ·simp[aLa,h]
 ·have e:IntKind.i64.wrap (left-1)=left-1:=aW (by omega)
  rw[aLa,if_neg h]
  try simp only[go_sem,e]
  refine bQ q.parts.length (fun k st=> ∃fr en cnt a,st=⟨fr,en,cnt⟩/\ fr 1= .i a/\ fr 5= .i k/\ fr 2= .ptr ⟨0,2,0⟩ 0/\ en ⟨0,2,0⟩=some (.box [.i q.form,.i q.n,.str q.text,.fz (q.parts.map Pat.enc)] false)/\ -1<=a/\ a<=1000/\ kH (q.parts.drop k) a=kH q.parts (left-1)) 0 (bPx _) ⟨_,_,_,left-1,rfl,by simp only[go_sem],by simp only[go_sem],by simp only[go_sem],by simp only[go_sem],by omega,by omega,rfl⟩ ?_
  rintro k st hk ⟨fr,en,cnt,a,rfl,h1,h5,h2,e2,ha,hb,hI⟩
  simp only[go_sem,qW,h1,h5,h2,e2]
  refine bB (fun hc=>?_) (fun hc=>?_)
  ·have h':k<q.parts.length:=D_o hc;rw[bQu h',kH]at hI;have hm:q.parts[k]∈q.parts:=bPz _;simp only[go_sem,h',h1]
   refine aY (fun hd=>?_) (fun hd=>?_)<;>simp only[bTe,bTf]at hd
   ·rw[if_pos hd]at hI;have hw:=aLb q.parts[k] a ha;simp only[go_sem,h5,(ih _ hm (hps _ hm) a ha hb).ret]
    refine⟨_,_,_,qQ q.parts[k] a,rfl,?_⟩
    simp only[go_sem,h2,e2,aT h' hl];exact⟨hw.1,by omega,hI⟩
   ·rw[if_neg hd]at hI
    try simp only[go_sem,qW,h',h1,h5,h2,e2]
    rw[hI]
  ·have:k=q.parts.length:=by simp at hc;omega
   subst this
   try simp only[go_sem,hc,h1]
   rw[<-hI];simp[kH]
theorem aJa : ∀q:Pat,q.few->PC L 146 [.agg [.i q.form,.i q.n,.str q.text,.fz (q.parts.map Pat.enc)]] (.bool (lA q)):=by
 refine Pat.ind fun q ih hq=>?_
 obtain⟨hl,_,hps⟩:=Pat.few_parts hq;have hL:=at_ func146
 conv at hL=>rhs;reduce
 refine aI hL rfl rfl ?_
 simp only[go_sem,qW]
 refine bQ (q.parts.length) (fun k st=> ∃fr en cnt,st=⟨fr,en,cnt⟩/\ (fr 1= .ptr ⟨0,1,0⟩ 0)/\ (en ⟨0,1,0⟩=some (.box [.i q.form,.i q.n,.str q.text,.fz (q.parts.map Pat.enc)] false))/\ (fr 3= .i k)/\ ((q.parts.drop k).all lA=q.parts.all lA)) 0 (bPx _) ⟨_,_,_,rfl,(by first|(simp only[go_sem];(try rfl);done)|rfl|simp),(by first|(simp only[go_sem];(try rfl);done)|rfl|simp),(by first|(simp only[go_sem];(try rfl);done)|rfl|simp),(by first|(simp only[go_sem];(try rfl);done)|rfl|simp)⟩ ?_
 rintro k st hk ⟨fr,en,cnt,rfl,h1,e1,h3,hI⟩
 simp only[go_sem,qW,h1,e1,h3]
 refine aY (fun h=>?_) (fun h=>?_)
 ·have h':k<q.parts.length:=D_o h;have hm:q.parts[k]∈q.parts:=bPz _;rw[gD h']at hI;simp only[go_sem,qW,h',h3,(ih _ hm (hps _ hm)).ret]
  refine aY (fun hb=>?_) (fun hb=>?_)
  ·simp at hb
   rw[aDt,<-hI,hb];rfl
  ·simp at hb
   refine⟨_,_,_,rfl,?_⟩
   simp only[go_sem,h1,e1,aT h' hl];rw[<-hI,hb];simp
 ·have:k=q.parts.length:=by simp at h;omega
  subst this;have ht:q.parts.all lA=true:=by rw[<-hI];simp
  try simp only[go_sem,qW,h1,e1,h3]
  rw[aDt,ht];rfl
theorem aJb (q:Pat)(hq:q.few):PC L 109 [.agg [.i q.form,.i q.n,.str q.text,.fz (q.parts.map Pat.enc)]] (.bool (aBu q)):=by
 have hL:=at_ func109
 conv at hL=>rhs;reduce
 refine aI hL rfl rfl ?_
 simp only[go_sem,qW,(aAz q hq 16 (by omega) (by omega)).ret]
 refine bB (fun h=>?_) (fun h=>?_)<;>simp only[go_sem,h,(aJa q hq).ret]<;>simp at h<;>simp[aBu,h]
 intros;omega
theorem aVx (cons:List cS)(hc:Few cons.length): ∀q:Pat,q.few->PC L 138 [.agg [.i q.form,.i q.n,.str q.text,.fz (q.parts.map Pat.enc)],.fz (cons.map cS.enc)] (.bool (sJ cons q)):=by
 refine Pat.ind fun q ih hq=>?_
 obtain⟨hl,_,hps⟩:=Pat.few_parts hq;have hL:=at_ func138
 conv at hL=>rhs;reduce
 refine aI hL rfl rfl ?_
 have e:=dX hc;simp only[go_sem,aEe,Go.Abs.start]
 refine aC2 (fun st=>(st.fr 1= .fz (cons.map cS.enc))/\ (st.fr 2= .ptr ⟨0,2,0⟩ 0)/\ (st.en ⟨0,2,0⟩=some (.box [.i q.form,.i q.n,.str q.text,.fz (q.parts.map Pat.enc)] false))/\ (st.fr 6= .i q.parts.length)/\ (st.fr 5= .bool (yR cons q.form q.n q.parts.length))) ?_ ?_
 ·simp only[go_sem,kK]
  repeat' ((first|with_reducible refine aG (fun h=>?_) (fun h=>?_)|with_reducible refine aJ (fun h=>?_) (fun h=>?_))<;>(try simp only[bTe,bTf,bP3]at h)<;>try simp only[go_sem,kK, *,(rS _ _ _).ret,aHm])
  all_goals try simp[yR, *]
  all_goals (intro h0;exact absurd (by simp[h0]) h)
 ·rintro fr en cnt ⟨(h1:fr 1= .fz (cons.map cS.enc)),(h2:fr 2= .ptr ⟨0,2,0⟩ 0),(e2:en ⟨0,2,0⟩=some (.box [.i q.form,.i q.n,.str q.text,.fz (q.parts.map Pat.enc)] false)),(h6:fr 6= .i q.parts.length),(h5:fr 5= .bool (yR cons q.form q.n q.parts.length))⟩
  refine aC2 (fun st=>(st.fr 1= .fz (cons.map cS.enc))/\ (st.fr 2= .ptr ⟨0,2,0⟩ 0)/\ (st.en ⟨0,2,0⟩=some (.box [.i q.form,.i q.n,.str q.text,.fz (q.parts.map Pat.enc)] false))/\ (st.fr 6= .i q.parts.length)/\ (st.fr 5= .bool (tM cons q.form q.n q.text q.parts.length))) ?_ ?_
  ·simp only[go_sem,kK,h5]
   repeat' ((first|with_reducible refine aG (fun h=>?_) (fun h=>?_)|with_reducible refine aJ (fun h=>?_) (fun h=>?_))<;>(try simp only[bP3]at h)<;>try simp only[go_sem,kK, *])
   all_goals simp[tM,aHn, *]
  ·rintro fr en cnt ⟨(h1:fr 1= .fz (cons.map cS.enc)),(h2:fr 2= .ptr ⟨0,2,0⟩ 0),(e2:en ⟨0,2,0⟩=some (.box [.i q.form,.i q.n,.str q.text,.fz (q.parts.map Pat.enc)] false)),(h6:fr 6= .i q.parts.length),(h5:fr 5= .bool (tM cons q.form q.n q.text q.parts.length))⟩
   rw[aK9];generalize tM cons q.form q.n q.text q.parts.length=b0 at h5;simp only[go_sem,kK]
   refine bQ q.parts.length (fun k st=> ∃fr en cnt b,st=⟨fr,en,cnt⟩/\ fr 1= .fz (cons.map cS.enc)/\ fr 7= .i k/\ fr 6= .i q.parts.length/\ fr 2= .ptr ⟨0,2,0⟩ 0/\ en ⟨0,2,0⟩=some (.box [.i q.form,.i q.n,.str q.text,.fz (q.parts.map Pat.enc)] false)/\ fr 5= .bool b/\ (b&&(q.parts.drop k).all (sJ cons))=(b0&&q.parts.all (sJ cons))) 0 (bPx _) ⟨_,_,_,b0,rfl,by simp only[go_sem,h1],by simp only[go_sem],by simp only[go_sem,h6],by simp only[go_sem,h2],by simp only[go_sem,e2],by simp only[go_sem,h5],rfl⟩ ?_
   rintro k st hk ⟨fr,en,cnt,b,rfl,h1,h7,h6,h2,e2,h5,hI⟩
   simp only[go_sem,kK,h7,h6]
   refine aJ (fun hd=>?_) (fun hd=>?_)
   ·have h':k<q.parts.length:=D_o hd;have hm:q.parts[k]∈q.parts:=bPz _;rw[gD h']at hI;simp only[go_sem,kK,h',h5]
    refine aG (fun hb=>?_) (fun hb=>?_)
    ·simp only[go_sem,h',h1,h7,h2,e2,(ih _ hm (hps _ hm)).ret]
     refine⟨_,_,_,sJ cons q.parts[k],rfl,?_⟩
     simp only[go_sem,h1,h6,h2,e2,aT h' hl];rw[<-hI,hb];simp
    ·simp only[go_sem,h5];rw[<-hI,hb];simp
   ·have:k=q.parts.length:=by simp at hd;omega
    subst this;simp only[go_sem,kK,hd,h5];rw[<-hI];simp
theorem aS7 (l:List cS)(hl:l.length<=1000)(hs: ∀c∈l,Few c.name.size):PC L 98 [.fz (l.map cS.enc)] (.bool (aAa l)):=by
 have hf:Few l.length:=by unfold Few;omega
 have hL:=at_ func98
 conv at hL=>rhs;reduce
 refine aI hL rfl rfl ?_
 simp only[go_sem,kK]
 refine bQ l.length (fun k st=> ∃fr en cnt,st=⟨fr,en,cnt⟩/\ fr 0= .fz (l.map cS.enc)/\ fr 4= .i k/\ cP en (fr 3) 1 ((l.take k).map fun c=> .str c.name) [34]/\ (l.drop k).all wU=l.all wU) 0 (bPx _) ⟨_,_,_,rfl,by simp only[go_sem],by simp only[go_sem],by simp only[go_sem];exact cP.nil _ _,rfl⟩ ?_
 rintro k st hk ⟨fr,en,cnt,rfl,h0,h4,h3,hI⟩
 simp only[go_sem,kK,h0,h4]
 refine aG (fun h=>?_) (fun h=>?_)
 ·have h':k<l.length:=D_o h;have hm:l[k]∈l:=bPz _;rw[gD h']at hI;simp only[go_sem,kK,h',h0,h4,(aQf _ (hs _ hm)).ret]
  refine aJ (fun hb=>?_) (fun hb=>?_)
  ·simp only[go_sem,kK,hb,h',h0,h4,(rS _ _ _).ret]
   refine aG (fun hc=>?_) (fun hc=>?_)
   ·simp only[go_sem,kK]
    simp at hc
    simp[aAa,<-hI,wU,hc]
   ·simp only[go_sem,h',h0,h4]
    simp at hb hc
    have hk2:wU l[k]=true:=by simp[wU,hb,hc]
    have hx:cP en (St.get (fun i=>fr i) (.t 3)) 1 ((l.take k).map fun c=>Val.str c.name) [34]:=h3
    refine kQ (D:=[34]) (xs:=(l.take k).map fun c=>Val.str c.name) (ys:=[.str l[k].name]) (rs:=[]) ?_ ?_ ?_ ?_ ?_
    ·simp only[go_sem];exact h3
    ·simp only[go_sem]
    ·rfl
    ·simp;omega
    ·intro v en' cnt' hown hen hcnt;simp only[go_sem,h4]
     refine⟨_,_,_,rfl,?_⟩
     simp only[go_sem,h0,aT h' hf]
     refine⟨?_,?_⟩
     ·exact cP.sub (by rw[gZ h',bQs];exact hown) (by simp)
     ·rw[<-hI,hk2];simp
  ·simp only[go_sem,kK,hb,bP8]
   simp at hb
   simp[aAa,<-hI,wU,hb]
 ·have:k=l.length:=by simp at h;omega
  subst this;have ha:l.all wU=true:=by rw[<-hI];simp
  simp only[go_sem,kK,h0]
  refine aJ (fun hb=>?_) (fun hb=>?_)
  ·rw[bQ6]at h3;have hmap:(l.map fun c=>Val.str c.name)=(l.map cS.name).map .str:=by simp
   simp only[go_sem,kK,hb];obtain⟨r,ks,e1,_,e2,_⟩:=h3.snap 7;have hd:=aNe (l.map cS.name) (by simpa using hf)
   rw[<-hmap]at hd;simp only[go_sem,e1,e2,hd.ret]
   simp at hb
   simp[aAa,ha,hb]
  ·simp only[go_sem,kK,hb]
   simp at hb
   simp[aAa];intros;omega
theorem aHo (p:aF)(hp:p.few):PC L 48 [.agg p.cs] (.bool (aR p)):=by
 have hL:=at_ func48
 conv at hL=>rhs;reduce
 refine aI hL rfl rfl ?_
 simp only[go_sem,kK]
 repeat' ((first|with_reducible refine aG (fun h=>?_) (fun h=>?_)|with_reducible refine aJ (fun h=>?_) (fun h=>?_))<;>(try simp only[bTe,bTf,bP8]at h)<;>try simp only[go_sem,kK, *])
 all_goals (try simp only[Int.not_lt]at*)
 all_goals try(simp[aR, *];done)
 all_goals try(simp[aR, *];intros;omega)
 rename_i g1 g2
 refine bQ (p.cons.length) (fun k st=> ∃fr en cnt,st=⟨fr,en,cnt⟩/\ (fr 1= .ptr ⟨0,1,0⟩ 0)/\ (en ⟨0,1,0⟩=some (.box p.cells false))/\ (fr 3= .i k)/\ ((p.cons.drop k).all (fun c=>decide ((c.name.size:Int)<=40))=p.cons.all fun c=>decide ((c.name.size:Int)<=40))) 0 (bPx _) ⟨_,_,_,rfl,(by first|(simp only[go_sem];(try rfl);done)|rfl|simp),(by first|(simp only[go_sem];(try rfl);done)|rfl|simp),(by first|(simp only[go_sem];(try rfl);done)|rfl|simp),(by first|(simp only[go_sem];(try rfl);done)|rfl|simp)⟩ ?_
 rintro k st hk ⟨fr,en,cnt,rfl,h1,e1,h3,hI⟩
 simp only[go_sem,kK,h1,e1,h3]
 refine aG (fun hq=>?_) (fun hq=>?_)
 ·have h':k<p.cons.length:=D_o hq;rw[gD h']at hI;simp only[go_sem,kK,h',h1,e1,h3]
  refine aG (fun hb=>?_) (fun hb=>?_)
  ·simp only[go_sem,kK]
   simp at hb
   have:p.cons.all (fun c=>decide ((c.name.size:Int)<=40))=false:=by rw[<-hI];simp;intros;omega
   simp only[aR,this];simp
  ·simp only[go_sem,h3]
   simp at hb
   refine⟨_,_,_,rfl,?_⟩
   simp only[go_sem,h1,e1,aT h' hp.cons];rw[<-hI];simp;intros;omega
 ·have:k=p.cons.length:=by simp at hq;omega
  subst this;have hcon:p.cons.all (fun c=>decide ((c.name.size:Int)<=40))=true:=by rw[<-hI];simp
  clear hI hq;simp only[go_sem]
  refine bQ (p.nodes.length) (fun k st=> ∃fr en cnt,st=⟨fr,en,cnt⟩/\ (fr 1= .ptr ⟨0,1,0⟩ 0)/\ (en ⟨0,1,0⟩=some (.box p.cells false))/\ (fr 4= .i k)/\ ((p.nodes.drop k).all gE=p.nodes.all gE)) 0 (bPx _) ⟨_,_,_,rfl,(by first|(simp only[go_sem,h1];(try rfl);done)|rfl|simp),(by first|(simp only[go_sem,e1];(try rfl);done)|rfl|simp),(by first|(simp only[go_sem];(try rfl);done)|rfl|simp),(by first|(simp only[go_sem];(try rfl);done)|rfl|simp)⟩ ?_
  rintro k st hk ⟨fr,en,cnt,rfl,h1,e1,h4,hI⟩
  simp only[go_sem,kK,h1,e1,h4]
  refine aG (fun hq=>?_) (fun hq=>?_)
  ·have h':k<p.nodes.length:=D_o hq;have hx:=hp.node p.nodes[k] (bPz _);rw[gD h']at hI;have fin:gE p.nodes[k]=false->Val.bool false=Val.bool (aR p):=by
    intro h;simp[aR,<-hI,h]
   simp only[go_sem,kK,h',h1,e1,h4]
   refine aJ (fun hb=>?_) (fun hb=>?_)
   ·simp only[go_sem,kK,hb]
    simp at hb
    refine aG (fun hc=>?_) (fun hc=>?_)
    ·simp only[go_sem,kK]
     simp at hc
     exact fin (by simp[gE];intros;omega)
    ·simp only[go_sem]
     simp at hc
     generalize cnt 0 5=g5
     refine bQ (p.nodes[k].pats.length) (fun j st=> ∃fr en cnt,st=⟨fr,en,cnt⟩/\ (fr 1= .ptr ⟨0,1,0⟩ 0)/\ (en ⟨0,1,0⟩=some (.box p.cells false))/\ (fr 5= .ptr ⟨0,5,g5⟩ 0)/\ (en ⟨0,5,g5⟩=some (.box [.i p.nodes[k].op,.i p.nodes[k].n,.is p.nodes[k].kids,.fz (p.nodes[k].pats.map Pat.enc)] false))/\ (fr 4= .i k)/\ (fr 6= .i j)/\ ((p.nodes[k].pats.drop j).all aBu=p.nodes[k].pats.all aBu)) 0 (bPx _) ⟨_,_,_,rfl,(by first|(simp only[go_sem,h1];(try rfl);done)|rfl|simp),(by first|(simp only[go_sem,e1];(try rfl);done)|rfl|simp),(by first|(simp only[go_sem];(try rfl);done)|rfl|simp),(by first|(simp only[go_sem];(try rfl);done)|rfl|simp),(by first|(simp only[go_sem,h4];(try rfl);done)|rfl|simp),(by first|(simp only[go_sem];(try rfl);done)|rfl|simp),(by first|(simp only[go_sem];(try rfl);done)|rfl|simp)⟩ ?_
     rintro j st hk ⟨fr,en,cnt,rfl,h1,e1,h5,e5,h4,h6,hJ⟩
     simp only[go_sem,kK,h5,e5,h6]
     refine aG (fun h2=>?_) (fun h2=>?_)
     ·have h2':j<p.nodes[k].pats.length:=D_o h2;rw[gD h2']at hJ;simp only[go_sem,kK,h2',h5,e5,h6,(aJb _ (hx.pat _ (bPz _))).ret]
      refine aG (fun hd=>?_) (fun hd=>?_)
      ·simp only[go_sem,kK]
       simp at hd
       exact fin (by simp[gE,<-hJ,hd])
      ·simp only[go_sem,h6]
       simp at hd
       refine⟨_,_,_,rfl,?_⟩
       simp only[go_sem,h1,e1,h5,e5,h4,aT h2' hx.pats];rw[<-hJ,hd];simp
     ·have:j=p.nodes[k].pats.length:=by simp at h2;omega
      subst this;have hfr:gE p.nodes[k]=true:=by
       simp only[gE,<-hJ];simp;exact⟨by omega,by omega⟩
      simp only[go_sem,h4]
      refine⟨_,_,_,rfl,?_⟩
      simp only[go_sem,h1,e1,aT h' hp.nodes];rw[<-hI,hfr];simp
   ·simp only[go_sem,kK,hb,bP8]
    simp at hb
    exact fin (by simp[gE];intros;omega)
  ·have:k=p.nodes.length:=by simp at hq;omega
   subst this;have hn:p.nodes.all gE=true:=by rw[<-hI];simp
   simp only[go_sem];simp only[aR,hcon,hn];simp[g1,g2,h]
theorem aS8 (p:aF)(n:aM)(hp:p.few)(hn:n.few):PC L 99 [.agg p.cs,.agg [.i n.op,.i n.n,.fz (n.kids.map (.int .i64)),.fz (n.pats.map Pat.enc)]] (.bool (eN p n)):=by
 have e1:IntKind.i64.wrap (0-(p.funs.length:Int))= -(p.funs.length:Int):=by have:=hp.funs;unfold Few at this;rw[aW (by omega)];omega
 have e2:=dX hp.cons;have hL:=at_ func99
 conv at hL=>rhs;reduce
 refine aI hL rfl rfl ?_
 simp only[go_sem,aEe,Go.Abs.start]
 refine aC2 (fun st=>(st.fr 2= .ptr ⟨0,2,0⟩ 0)/\ (st.en ⟨0,2,0⟩=some (.box p.cells false))/\ (st.fr 3= .ptr ⟨0,3,0⟩ 0)/\ (st.en ⟨0,3,0⟩=some (.box [.i n.op,.i n.n,.is n.kids,.fz (n.pats.map Pat.enc)] false))/\ (st.fr 6= .bool (oL p n))/\ (st.fr 5= .i (pN p n))) ?_ ?_
 ·simp only[go_sem,kK]
  repeat' ((first|with_reducible refine aG (fun h=>?_) (fun h=>?_)|with_reducible refine aJ (fun h=>?_) (fun h=>?_))<;>(try simp only[bTe,bTf]at h)<;>try simp only[go_sem,kK, *,(rS _ _ _).ret,aHm])
  all_goals simp[oL,pN, *]
 ·rintro fr en cnt ⟨(h2:fr 2= .ptr ⟨0,2,0⟩ 0),(e2:en ⟨0,2,0⟩=some (.box p.cells false)),(h3:fr 3= .ptr ⟨0,3,0⟩ 0),(e3:en ⟨0,3,0⟩=some (.box [.i n.op,.i n.n,.is n.kids,.fz (n.pats.map Pat.enc)] false)),(h6:fr 6= .bool (oL p n)),(h5:fr 5= .i (pN p n))⟩
  refine aC2 (fun st=>(st.fr 2= .ptr ⟨0,2,0⟩ 0)/\ (st.en ⟨0,2,0⟩=some (.box p.cells false))/\ (st.fr 3= .ptr ⟨0,3,0⟩ 0)/\ (st.en ⟨0,3,0⟩=some (.box [.i n.op,.i n.n,.is n.kids,.fz (n.pats.map Pat.enc)] false))/\ (st.fr 6= .bool (oL p n&&mG n))/\ (st.fr 5= .i (pN p n))) ?_ ?_
  ·simp only[go_sem,kK,h3,e3]
   repeat' ((first|with_reducible refine aG (fun h=>?_) (fun h=>?_)|with_reducible refine aJ (fun h=>?_) (fun h=>?_))<;>(try simp only[bTe,bTf,bP3]at h)<;>try simp only[go_sem,kK, *,(rS _ _ _).ret])
   all_goals simp[mG, *]
  ·rintro fr en cnt ⟨(h2:fr 2= .ptr ⟨0,2,0⟩ 0),(e2:en ⟨0,2,0⟩=some (.box p.cells false)),(h3:fr 3= .ptr ⟨0,3,0⟩ 0),(e3:en ⟨0,3,0⟩=some (.box [.i n.op,.i n.n,.is n.kids,.fz (n.pats.map Pat.enc)] false)),(h6:fr 6= .bool (oL p n&&mG n)),(h5:fr 5= .i (pN p n))⟩
   have hb0:(oL p n&&mG n)=true->0<=(n.pats.length:Int)/\ (n.pats.length:Int)<=1000:=by
    intro h;simp only[bPp]at h;have:=h.2;unfold mG at this;split at this
    ·simp[inR]at this;omega
    ·simp at this;simp[this]
   have hres:eN p n=(((oL p n&&mG n)&&n.pats.all (nL p.cons))&&decide ((n.kids.length:Int)=fK n.op n.pats.length (pN p n))):=rfl;rw[hres];clear hres e1;generalize (oL p n&&mG n)=b0 at h6 hb0
   refine aC2 (fun st=>st.fr 2= .ptr ⟨0,2,0⟩ 0/\ st.en ⟨0,2,0⟩=some (.box p.cells false)/\ st.fr 3= .ptr ⟨0,3,0⟩ 0/\ st.en ⟨0,3,0⟩=some (.box [.i n.op,.i n.n,.is n.kids,.fz (n.pats.map Pat.enc)] false)/\ st.fr 6= .bool (b0&&n.pats.all (nL p.cons))/\ st.fr 5= .i (pN p n)) ?_ ?_
   ·simp only[go_sem,kK]
    refine bQ n.pats.length (fun k st=> ∃fr en cnt b,st=⟨fr,en,cnt⟩/\ fr 2= .ptr ⟨0,2,0⟩ 0/\ en ⟨0,2,0⟩=some (.box p.cells false)/\ fr 3= .ptr ⟨0,3,0⟩ 0/\ en ⟨0,3,0⟩=some (.box [.i n.op,.i n.n,.is n.kids,.fz (n.pats.map Pat.enc)] false)/\ fr 5= .i (pN p n)/\ fr 7= .i k/\ fr 6= .bool b/\ (b&&(n.pats.drop k).all (nL p.cons))=(b0&&n.pats.all (nL p.cons))) 0 (bPx _) ⟨_,_,_,b0,rfl,by simp only[go_sem,h2],by simp only[go_sem,e2],by simp only[go_sem,h3],by simp only[go_sem,e3],by simp only[go_sem,h5],by simp only[go_sem],by simp only[go_sem,h6],rfl⟩ ?_
    rintro k st hk ⟨fr,en,cnt,b,rfl,h2,e2,h3,e3,h5,h7,h6,hI⟩
    simp only[go_sem,kK,h3,e3,h7]
    refine aJ (fun hd=>?_) (fun hd=>?_)
    ·have h':k<n.pats.length:=D_o hd;have hm:n.pats[k]∈n.pats:=bPz _;rw[gD h']at hI;simp only[go_sem,kK,hd,h6]
     refine aG (fun hb=>?_) (fun hb=>?_)
     ·rw[hb]at hI;simp only[go_sem,kK,h',h3,e3,h7,(aAz _ (hn.pat _ hm) 12 (by omega) (by omega)).ret]
      refine aJ (fun hw=>?_) (fun hw=>?_)
      ·simp only[go_sem,kK,hw,h',h2,e2,h3,e3,h7,(aVx _ hp.cons _ (hn.pat _ hm)).ret]
       refine⟨_,_,_,sJ p.cons n.pats[k],rfl,?_⟩
       simp only[go_sem,h2,e2,h3,e3,h5,aT h' hn.pats];rw[<-hI];simp[nL,D_o hw]
      ·simp only[go_sem,kK,hw,h7]
       refine⟨_,_,_,false,rfl,?_⟩
       simp only[go_sem,h2,e2,h3,e3,h5,aT h' hn.pats]
       simp at hw
       rw[<-hI];simp[nL];intros;omega
     ·simp only[go_sem,h',h2,e2,h3,e3,h5,h6];rw[<-hI,hb];simp
    ·have:k=n.pats.length:=by simp at hd;omega
     subst this;simp only[go_sem,kK,hd,h2,e2,h3,e3,h5,h6];rw[<-hI];simp
   ·rintro fr en cnt ⟨(h2:fr 2=_),(e2:en _=_),(h3:fr 3=_),(e3:en _=_),(h6:fr 6=_),(h5:fr 5=_)⟩
    generalize hbb:(b0&&n.pats.all (nL p.cons))=b at h6⊢;simp only[go_sem,kK]
    refine aBq ?_ ?_
    ·decide
    simp only[go_sem,kK,h6]
    refine aJ (fun hd=>?_) (fun hd=>?_)
    ·have h0:b0=true:=by
      simp only[hd,bPp]at hbb;exact hbb.1
     simp only[go_sem,kK,hd,h3,e3,h5,(aS6 _ _ _ (hb0 h0)).ret]
    ·simp only[go_sem,kK,hd]
theorem aXb {u:List Bool}{x:Int}(hu:u.length=n)(h:inR x 0 ((n:Int)-1)=true):0<=x/\ x<(n:Int)/\ (u.map Val.bool)[x.toNat]?=some (.bool (u.getD x.toNat false)):=by
 simp only[inR,bTe]at h;have hx:x.toNat<u.length:=by omega
 exact⟨by omega,by omega,by simp[bPu,hx]⟩
theorem aDv (p:aF)(hp:p.few)(hs:p.cons.length<=1000):PC L 38 [.agg p.cs] (.bool (dV p)):=by
 have w1:=dX hp.nodes;have w2:=dX hp.funs;have hL:=at_ func38
 conv at hL=>rhs;reduce
 refine aI hL rfl rfl ?_
 simp only[go_sem,kK]
 repeat' ((first|with_reducible refine aG (fun h=>?_) (fun h=>?_)|with_reducible refine aJ (fun h=>?_) (fun h=>?_))<;>(try simp only[bTe,bTf,bP8]at h)<;>try simp only[go_sem,kK, *,(rS _ _ _).ret,(aS7 _ hs hp.con).ret])
 all_goals (try simp only[bQ2,Bool.not_eq_false',Int.not_lt]at*)
 all_goals try(simp[dV, *];done)
 all_goals try(simp[dV, *];intros;omega)
 rename_i g1 g2 g3;have hn:p.nodes.length<=16777216:=by omega
 have hfo:dV p=aAb ((aBv 0 (p.nodes.length-1) (List.replicate p.nodes.length false) p.funs).bind fun u=>lP p 0 u p.nodes):=by simp[dV,g1,g2,g3,h]
 rw[hfo];clear hfo;simp only[go_sem,bBg hn]
 refine bQ p.funs.length (fun k st=> ∃fr en cnt u,st=⟨fr,en,cnt⟩/\ (fr 1= .ptr ⟨0,1,0⟩ 0/\ en ⟨0,1,0⟩=some (.box p.cells false)/\ fr 3= .i p.nodes.length/\ fr 4= .bl ⟨0,40,0⟩ 0 p.nodes.length/\ en ⟨0,40,0⟩=some (.blk 1 (u.map Val.bool) false)/\ u.length=p.nodes.length)/\ fr 5= .i k/\ aBv 0 (p.nodes.length-1) u (p.funs.drop k)=aBv 0 (p.nodes.length-1) (List.replicate p.nodes.length false) p.funs) 0 (bPx _) ⟨_,_,_,List.replicate p.nodes.length false,rfl,⟨by simp only[go_sem],by simp only[go_sem],by simp only[go_sem],by simp only[go_sem],by simp only[go_sem,List.map_replicate],by simp⟩,by simp only[go_sem],rfl⟩ ?_
 rintro k st hk ⟨fr,en,cnt,u,rfl,⟨h1,e1,h3,h4,eu,hu⟩,h5,hI⟩
 simp only[go_sem,kK,h1,e1,h5]
 refine aG (fun hq=>?_) (fun hq=>?_)
 ·have h':k<p.funs.length:=D_o hq;rw[bQu h',aBv]at hI;simp only[go_sem,kK,h',h1,e1,h3,h5,(rS _ _ _).ret,w1]
  refine aJ (fun hb=>?_) (fun hb=>?_)
  ·simp at hb
   obtain⟨a1,a2,a3⟩:=aXb hu hb;rw[hb]at hI;simp only[go_sem,kK,hb,bP3,h',h1,e1,h4,eu,h5,a1,a2,a3]
   refine aG (fun hc=>?_) (fun hc=>?_)
   ·simp only[go_sem,kK];rw[hc]at hI
    simp at hI
    rw[<-hI];rfl
   ·simp only[go_sem,h',h1,e1,h4,eu,h5,a1,a2,a3];rw[hc]at hI
    simp at hI
    refine⟨_,_,_,u.set p.funs[k].toNat true,rfl,?_⟩
    simp only[go_sem,h1,e1,h3,h4,<-bR4,aT h' hp.funs];exact⟨by simp[hu],hI⟩
  ·simp only[go_sem,kK,hb,bP8]
   simp at hb
   rw[hb]at hI
   simp at hI
   rw[<-hI];rfl
 ·have:k=p.funs.length:=by simp at hq;omega
  subst this;rw[bRf,aBv]at hI;rw[<-hI];simp only[bSl];clear hq hI hk;generalize hM:lP p 0 u p.nodes=M;simp only[go_sem]
  refine bQ p.nodes.length (fun k st=> ∃fr en cnt u,st=⟨fr,en,cnt⟩/\ (fr 1= .ptr ⟨0,1,0⟩ 0/\ en ⟨0,1,0⟩=some (.box p.cells false)/\ fr 3= .i p.nodes.length/\ fr 4= .bl ⟨0,40,0⟩ 0 p.nodes.length/\ en ⟨0,40,0⟩=some (.blk 1 (u.map Val.bool) false)/\ u.length=p.nodes.length)/\ fr 6= .i k/\ lP p k u (p.nodes.drop k)=M) 0 (bPx _) ⟨_,_,_,u,rfl,⟨by simp only[go_sem,h1],by simp only[go_sem,e1],by simp only[go_sem,h3],by simp only[go_sem,h4],by simp only[go_sem,eu],hu⟩,by simp only[go_sem],hM⟩ ?_
  clear hM h1 e1 h3 h4 eu hu h5
  rintro k st hk ⟨fr,en,cnt,u,rfl,⟨h1,e1,h3,h4,eu,hu⟩,h6,hI⟩
  simp only[go_sem,kK,h3,h6]
  refine aG (fun hq=>?_) (fun hq=>?_)
  ·have h':k<p.nodes.length:=D_o hq;have hx:=hp.node p.nodes[k] (bPz _);rw[bQu h',lP]at hI;simp only[go_sem,kK,h',h1,e1,h6,(aS8 p _ hp hx).ret]
   refine aG (fun hb=>?_) (fun hb=>?_)
   ·simp only[go_sem,kK]
    simp at hb
    rw[hb]at hI;rw[<-hI];rfl
   ·simp only[go_sem]
    simp at hb
    rw[hb]at hI;simp only[if_true]at hI;generalize hm:aBv ((k:Int)+1) (p.nodes.length-1) u p.nodes[k].kids=m at hI
    refine bQ p.nodes[k].kids.length (fun j st=> ∃fr en cnt u,st=⟨fr,en,cnt⟩/\ (fr 1= .ptr ⟨0,1,0⟩ 0/\ en ⟨0,1,0⟩=some (.box p.cells false)/\ fr 3= .i p.nodes.length/\ fr 4= .bl ⟨0,40,0⟩ 0 p.nodes.length/\ en ⟨0,40,0⟩=some (.blk 1 (u.map Val.bool) false)/\ u.length=p.nodes.length)/\ fr 6= .i k/\ fr 7= .i j/\ aBv ((k:Int)+1) (p.nodes.length-1) u (p.nodes[k].kids.drop j)=m) 0 (bPx _) ⟨_,_,_,u,rfl,⟨by simp only[go_sem,h1],by simp only[go_sem,e1],by simp only[go_sem,h3],by simp only[go_sem,h4],by simp only[go_sem,eu],hu⟩,by simp only[go_sem,h6],by simp only[go_sem],hm⟩ ?_
    clear hm h1 e1 h3 h4 eu hu h6
    rintro j st hj ⟨fr,en,cnt,u,rfl,⟨h1,e1,h3,h4,eu,hu⟩,h6,h7,hJ⟩
    simp only[go_sem,kK,h',h1,e1,h6,h7]
    refine aG (fun h2=>?_) (fun h2=>?_)
    ·have h2':j<p.nodes[k].kids.length:=D_o h2;rw[bQu h2',aBv]at hJ;have w3:IntKind.i64.wrap ((k:Int)+1)=(k:Int)+1:=aW (by omega)
     simp only[go_sem,kK,h',h2',h1,e1,h3,h6,h7,(rS _ _ _).ret,w1,w3]
     refine aJ (fun hc=>?_) (fun hc=>?_)
     ·simp at hc
      have hc0:inR p.nodes[k].kids[j] 0 ((p.nodes.length:Int)-1)=true:=by simp[inR]at hc⊢;omega
      obtain⟨a1,a2,a3⟩:=aXb hu hc0;rw[hc]at hJ;simp only[go_sem,kK,hc,bP3,h4,eu,a1,a2,a3]
      refine aG (fun hd=>?_) (fun hd=>?_)
      ·simp only[go_sem,kK];rw[hd]at hJ
       simp at hJ
       rw[<-hI,<-hJ];rfl
      ·simp only[go_sem,h4,eu,h7,a1,a2,a3];rw[hd]at hJ
       simp at hJ
       refine⟨_,_,_,u.set p.nodes[k].kids[j].toNat true,rfl,?_⟩
       simp only[go_sem,h1,e1,h3,h4,h6,<-bR4,aT h2' hx.kids];exact⟨by simp[hu],hJ⟩
     ·simp only[go_sem,kK,hc,bP8]
      simp at hc
      rw[hc]at hJ
      simp at hJ
      rw[<-hI,<-hJ];rfl
    ·have:j=p.nodes[k].kids.length:=by simp at h2;omega
     subst this;rw[bRf,aBv]at hJ;rw[<-hJ]at hI;simp only[bSl]at hI;simp only[go_sem,h6]
     refine⟨_,_,_,u,rfl,?_⟩
     simp only[go_sem,h1,e1,h3,h4,eu,hu,aT h' hp.nodes];exact hI
  ·have:k=p.nodes.length:=by simp at hq;omega
   subst this;rw[bRf,lP]at hI;rw[<-hI];simp only[aAb];simp only[go_sem]
   refine bQ p.nodes.length (fun k st=> ∃fr en cnt,st=⟨fr,en,cnt⟩/\ fr 3= .i p.nodes.length/\ fr 4= .bl ⟨0,40,0⟩ 0 p.nodes.length/\ en ⟨0,40,0⟩=some (.blk 1 (u.map Val.bool) false)/\ fr 9= .i k/\ (u.drop k).all id=u.all id) 0 (bPx _) ⟨_,_,_,rfl,by simp only[go_sem,h3],by simp only[go_sem,h4],by simp only[go_sem,eu],by simp only[go_sem],rfl⟩ ?_
   clear h1 e1 h3 h4 eu h6 hI hq hk
   rintro k st hk ⟨fr,en,cnt,rfl,h3,h4,eu,h9,hI⟩
   simp only[go_sem,kK,h3,h9]
   refine aG (fun hq=>?_) (fun hq=>?_)
   ·have h':k<p.nodes.length:=D_o hq;have h'':k<u.length:=by omega
    rw[gD h'']at hI;have a3:(u.map Val.bool)[k]?=some (.bool u[k]):=by simp[h'']
    simp only[go_sem,kK,h',h4,eu,h9,a3,bSa,bQo]
    refine aG (fun hb=>?_) (fun hb=>?_)
    ·simp only[go_sem,kK]
     simp at hb
     rw[<-hI,hb];rfl
    ·simp only[go_sem,h9]
     simp at hb
     refine⟨_,_,_,rfl,?_⟩
     simp only[go_sem,h3,h4,eu,aT h' hp.nodes];rw[<-hI,hb];simp
   ·have:k=p.nodes.length:=by simp at hq;omega
    subst this;simp only[go_sem];rw[<-hI,List.drop_eq_nil_of_le (by omega)];rfl
variable {k:Nat}
theorem aFw {α:Type}{a b:List α}(ha:k<a.length)(hb:k<b.length)(h:a.take k=b.take k)(he:a[k]=b[k]):a.take (k+1)=b.take (k+1):=by
 rw[gZ ha,gZ hb,h,he]
theorem aFx {α:Type}{a b:List α}(hl:a.length=b.length)(h:a.take a.length=b.take a.length):a=b:=by
 rw[bQ6,hl,bQ6]at h;exact h
theorem aS9 {α:Type}{a b:List α}(ha:k<a.length)(hb:k<b.length)(h: ¬a[k]=b[k]): ¬a=b:=by
 rintro rfl;exact h rfl
theorem sY (a b:List Int)(ha:Few a.length):PC L 71 [.is a,.is b] (.bool (decide (a=b))):=by
 have hL:=at_ func71
 conv at hL=>rhs;reduce
 refine aI hL rfl rfl ?_
 simp only[go_sem,kK]
 refine aG (fun h=>?_) (fun h=>?_)
 ·simp only[go_sem,kK]
  simp at h
  have: ¬a=b:=by rintro rfl;exact h rfl
  simp[this]
 ·have hl:a.length=b.length:=by simp at h;exact h
  simp only[go_sem]
  refine bQ (a.length) (fun k st=> ∃fr en cnt,st=⟨fr,en,cnt⟩/\ (fr 0= .is a)/\ (fr 1= .is b)/\ (fr 5= .i k)/\ (a.take k=b.take k)) 0 (bPx _) ⟨_,_,_,rfl,(by first|(simp only[go_sem];(try rfl);done)|rfl|simp),(by first|(simp only[go_sem];(try rfl);done)|rfl|simp),(by first|(simp only[go_sem];(try rfl);done)|rfl|simp),(by first|(simp only[go_sem];(try rfl);done)|rfl|simp)⟩ ?_
  rintro k st hk ⟨fr,en,cnt,rfl,h0,h1,h5,hI⟩
  simp only[go_sem,kK,h0,h5]
  refine aG (fun hq=>?_) (fun hq=>?_)
  ·have h':k<a.length:=D_o hq;have h'':k<b.length:=by omega
   simp only[go_sem,kK,h',h'',h0,h1,h5]
   refine aG (fun hb=>?_) (fun hb=>?_)
   ·simp only[go_sem,kK]
    simp at hb
    simp[aS9 h' h'' hb]
   ·simp only[go_sem,h5]
    simp at hb
    refine⟨_,_,_,rfl,?_⟩
    simp only[go_sem,h0,h1,aT h' ha];exact aFw h' h'' hI hb
  ·have:k=a.length:=by simp at hq;omega
   subst this;simp only[go_sem];simp[aFx hl hI]
theorem aD.eq_iff {a b:aD}:(decide (a.kind=b.kind)&&decide (a.n=b.n))=decide (a=b):=by
 cases a;cases b;simp
theorem bJ.eq_iff {a b:bJ}:(decide (a.port=b.port)&&decide (a.n=b.n))=decide (a=b):=by
 cases a;cases b;simp
theorem sZ (a b:List aD)(ha:Few a.length):PC L 125 [.fz (a.map aD.enc),.fz (b.map aD.enc)] (.bool (decide (a=b))):=by
 refine aI bKl rfl rfl ?_
 simp only[go_sem,kK,bF5]
 refine aG (fun h=>?_) (fun h=>?_)
 ·simp only[go_sem,kK]
  simp at h
  have: ¬a=b:=by rintro rfl;exact h rfl
  simp[this]
 ·have hl:a.length=b.length:=by simp at h;exact h
  simp only[go_sem]
  refine bQ (a.length) (fun k st=> ∃fr en cnt,st=⟨fr,en,cnt⟩/\ (fr 0= .fz (a.map aD.enc))/\ (fr 1= .fz (b.map aD.enc))/\ (fr 5= .i k)/\ (a.take k=b.take k)) 0 (bPx _) ⟨_,_,_,rfl,(by first|(simp only[go_sem];(try rfl);done)|rfl|simp),(by first|(simp only[go_sem];(try rfl);done)|rfl|simp),(by first|(simp only[go_sem];(try rfl);done)|rfl|simp),(by first|(simp only[go_sem];(try rfl);done)|rfl|simp)⟩ ?_
  rintro k st hk ⟨fr,en,cnt,rfl,h0,h1,h5,hI⟩
  simp only[go_sem,kK,h0,h5]
  refine aG (fun hq=>?_) (fun hq=>?_)
  ·have h':k<a.length:=D_o hq;have h'':k<b.length:=by omega
   simp only[go_sem,kK,h',h'',h0,h1,h5,aD.eq_iff]
   refine aG (fun hb=>?_) (fun hb=>?_)
   ·simp only[go_sem,kK]
    simp at hb
    simp[aS9 h' h'' hb]
   ·simp only[go_sem,h5]
    simp at hb
    refine⟨_,_,_,rfl,?_⟩
    simp only[go_sem,h0,h1,aT h' ha];exact aFw h' h'' hI hb
  ·have:k=a.length:=by simp at hq;omega
   subst this;simp only[go_sem];simp[aFx hl hI]
theorem aJc (a b:List bJ)(ha:Few a.length):PC L 72 [.fz (a.map bJ.enc),.fz (b.map bJ.enc)] (.bool (decide (a=b))):=by
 refine aI bN8 rfl rfl ?_
 simp only[go_sem,kK,bKk]
 refine aG (fun h=>?_) (fun h=>?_)
 ·simp only[go_sem,kK]
  simp at h
  have: ¬a=b:=by rintro rfl;exact h rfl
  simp[this]
 ·have hl:a.length=b.length:=by simp at h;exact h
  simp only[go_sem]
  refine bQ (a.length) (fun k st=> ∃fr en cnt,st=⟨fr,en,cnt⟩/\ (fr 0= .fz (a.map bJ.enc))/\ (fr 1= .fz (b.map bJ.enc))/\ (fr 5= .i k)/\ (a.take k=b.take k)) 0 (bPx _) ⟨_,_,_,rfl,(by first|(simp only[go_sem];(try rfl);done)|rfl|simp),(by first|(simp only[go_sem];(try rfl);done)|rfl|simp),(by first|(simp only[go_sem];(try rfl);done)|rfl|simp),(by first|(simp only[go_sem];(try rfl);done)|rfl|simp)⟩ ?_
  rintro k st hk ⟨fr,en,cnt,rfl,h0,h1,h5,hI⟩
  simp only[go_sem,kK,h0,h5]
  refine aG (fun hq=>?_) (fun hq=>?_)
  ·have h':k<a.length:=D_o hq;have h'':k<b.length:=by omega
   simp only[go_sem,kK,h',h'',h0,h1,h5,bJ.eq_iff]
   refine aG (fun hb=>?_) (fun hb=>?_)
   ·simp only[go_sem,kK]
    simp at hb
    simp[aS9 h' h'' hb]
   ·simp only[go_sem,h5]
    simp at hb
    refine⟨_,_,_,rfl,?_⟩
    simp only[go_sem,h0,h1,aT h' ha];exact aFw h' h'' hI hb
  ·have:k=a.length:=by simp at hq;omega
   subst this;simp only[go_sem];simp[aFx hl hI]
theorem aLg (a b:aQ)(ha:a.few):PC L 73 [.agg [.i a.form,.i a.n,.fz (a.vals.map aD.enc),.fz (a.frames.map aB.enc)],.agg [.i b.form,.i b.n,.fz (b.vals.map aD.enc),.fz (b.frames.map aB.enc)]] (.bool (decide (a=b))):=by
 have ne:(¬a.form=b.form \/ ¬a.n=b.n \/ ¬a.vals=b.vals \/ ¬a.frames=b.frames)->Val.bool false=Val.bool (decide (a=b)):=by
  intro h;have: ¬a=b:=by rintro rfl;simp at h
  simp[this]
 have hL:=at_ func73
 conv at hL=>rhs;reduce
 refine aI hL rfl rfl ?_
 simp only[go_sem,kK]
 refine aJ (fun g1=>?_) (fun g1=>?_)
 ·simp only[go_sem,kK,g1]
  refine aJ (fun g2=>?_) (fun g2=>?_)
  ·simp only[go_sem,kK,g2,(sZ _ _ ha.1).ret]
   refine aJ (fun g3=>?_) (fun g3=>?_)
   ·simp only[go_sem,kK,g3]
    refine aG (fun g4=>?_) (fun g4=>?_)
    ·simp only[go_sem,kK]
     simp at g4
     exact ne (.inr (.inr (.inr (by intro e;rw[e]at g4;exact g4 rfl))))
    ·have hl:a.frames.length=b.frames.length:=by simp at g4;exact g4
     simp only[go_sem]
     refine bQ (a.frames.length) (fun k st=> ∃fr en cnt,st=⟨fr,en,cnt⟩/\ (fr 2= .ptr ⟨0,2,0⟩ 0)/\ (en ⟨0,2,0⟩=some (.box [.i a.form,.i a.n,.fz (a.vals.map aD.enc),.fz (a.frames.map aB.enc)] false))/\ (fr 3= .ptr ⟨0,3,0⟩ 0)/\ (en ⟨0,3,0⟩=some (.box [.i b.form,.i b.n,.fz (b.vals.map aD.enc),.fz (b.frames.map aB.enc)] false))/\ (fr 5= .i k)/\ (a.frames.take k=b.frames.take k)) 0 (bPx _) ⟨_,_,_,rfl,(by first|(simp only[go_sem];(try rfl);done)|rfl|simp),(by first|(simp only[go_sem];(try rfl);done)|rfl|simp),(by first|(simp only[go_sem];(try rfl);done)|rfl|simp),(by first|(simp only[go_sem];(try rfl);done)|rfl|simp),(by first|(simp only[go_sem];(try rfl);done)|rfl|simp),(by first|(simp only[go_sem];(try rfl);done)|rfl|simp)⟩ ?_
     rintro k st hk ⟨fr,en,cnt,rfl,h2,e2,h3,e3,h5,hI⟩
     simp only[go_sem,kK,h2,e2,h5]
     refine aG (fun hq=>?_) (fun hq=>?_)
     ·have h':k<a.frames.length:=D_o hq;have h'':k<b.frames.length:=by omega
      have hx:=ha.2.2 a.frames[k] (bPz _);simp only[go_sem]
      refine aH ?_
      simp only[go_sem,kK,h',h'',h2,e2,h3,e3,h5,kA];have fin: ¬a.frames[k]=b.frames[k]->Val.bool false=Val.bool (decide (a=b)):=fun h=>ne (.inr (.inr (.inr (aS9 h' h'' h))))
      refine aJ (fun g5=>?_) (fun g5=>?_)
      ·simp only[go_sem,kK,g5,(sZ _ _ hx.1).ret]
       refine aJ (fun g6=>?_) (fun g6=>?_)
       ·simp only[go_sem,kK,g6,(sZ _ _ hx.2).ret]
        refine aG (fun g7=>?_) (fun g7=>?_)
        ·simp only[go_sem,kK]
         simp at g7
         exact fin fun e=>g7 (by rw[e])
        ·simp only[go_sem,h5]
         simp at g5 g6 g7
         refine⟨_,_,_,rfl,?_⟩
         simp only[go_sem,h2,e2,h3,e3,aT h' ha.2.1]
         refine aFw h' h'' hI ?_
         generalize a.frames[k]=x at*;generalize b.frames[k]=y at*;cases x;cases y;simp only at g5 g6 g7;subst g5 g6 g7;rfl
       ·simp only[go_sem,kK,g6,bP8]
        simp at g6
        exact fin fun e=>g6 (by rw[e])
      ·simp only[go_sem,kK,g5,bP8]
       simp at g5
       exact fin fun e=>g5 (by rw[e])
     ·have:k=a.frames.length:=by simp at hq;omega
      subst this;simp only[go_sem]
      simp at g1 g2 g3
      have:a=b:=by
       have hf:=aFx hl hI;cases a;cases b;simp only at g1 g2 g3 hf;subst g1 g2 g3 hf;rfl
      simp[this]
   ·simp only[go_sem,kK,g3,bP8]
    simp at g3
    exact ne (.inr (.inr (.inl g3)))
  ·simp only[go_sem,kK,g2,bP8]
   simp at g2
   exact ne (.inr (.inl g2))
 ·simp only[go_sem,kK,g1,bP8]
  simp at g1
  exact ne (.inl g1)
theorem wV (a b:aA)(ha:a.few):PC L 20 [.agg a.cs,.agg b.cs] (.bool (decide (a=b))):=by
 have ne:(¬a.objs=b.objs \/ ¬a.tasks=b.tasks \/ ¬a.outs=b.outs \/ ¬a.ins=b.ins \/ ¬a.used=b.used)->Val.bool false=Val.bool (decide (a=b)):=by
  intro h;have: ¬a=b:=by rintro rfl;simp at h
  simp[this]
 have hL:=at_ func20
 conv at hL=>rhs;reduce
 refine aI hL rfl rfl ?_
 simp only[go_sem,kK]
 refine aJ (fun g1=>?_) (fun g1=>?_)
 ·simp only[go_sem,kK,g1,(sY _ _ ha.tasks).ret]
  refine aJ (fun g2=>?_) (fun g2=>?_)
  ·simp only[go_sem,kK,g2,(aJc _ _ ha.outs).ret]
   refine aJ (fun g3=>?_) (fun g3=>?_)
   ·simp only[go_sem,kK,g3,(sY _ _ ha.ins).ret]
    refine aJ (fun g4=>?_) (fun g4=>?_)
    ·simp only[go_sem,kK,g4]
     refine aG (fun g5=>?_) (fun g5=>?_)
     ·simp only[go_sem,kK]
      simp at g5
      exact ne (.inr (.inr (.inr (.inr g5))))
     ·have hl:a.objs.length=b.objs.length:=by simp at g1;exact g1
      simp only[go_sem]
      refine bQ (a.objs.length) (fun k st=> ∃fr en cnt,st=⟨fr,en,cnt⟩/\ (fr 2= .ptr ⟨0,2,0⟩ 0)/\ (en ⟨0,2,0⟩=some (.box a.cells false))/\ (fr 3= .ptr ⟨0,3,0⟩ 0)/\ (en ⟨0,3,0⟩=some (.box b.cells false))/\ (fr 5= .i k)/\ (a.objs.take k=b.objs.take k)) 0 (bPx _) ⟨_,_,_,rfl,(by first|(simp only[go_sem];(try rfl);done)|rfl|simp),(by first|(simp only[go_sem];(try rfl);done)|rfl|simp),(by first|(simp only[go_sem];(try rfl);done)|rfl|simp),(by first|(simp only[go_sem];(try rfl);done)|rfl|simp),(by first|(simp only[go_sem];(try rfl);done)|rfl|simp),(by first|(simp only[go_sem];(try rfl);done)|rfl|simp)⟩ ?_
      rintro k st hk ⟨fr,en,cnt,rfl,h2,e2,h3,e3,h5,hI⟩
      simp only[go_sem,kK,h2,e2,h5]
      refine aG (fun hq=>?_) (fun hq=>?_)
      ·have h':k<a.objs.length:=D_o hq;have h'':k<b.objs.length:=by omega
       simp only[go_sem,kK,h',h'',h2,e2,h3,e3,h5,(aLg _ _ (ha.obj _ (bPz h'))).ret]
       refine aG (fun g6=>?_) (fun g6=>?_)
       ·simp only[go_sem,kK]
        simp at g6
        exact ne (.inl (aS9 h' h'' g6))
       ·simp only[go_sem,h5]
        simp at g6
        refine⟨_,_,_,rfl,?_⟩
        simp only[go_sem,h2,e2,h3,e3,aT h' ha.objs];exact aFw h' h'' hI g6
      ·have:k=a.objs.length:=by simp at hq;omega
       subst this;simp only[go_sem]
       simp at g2 g3 g4 g5
       have:a=b:=by
        have hf:=aFx hl hI;cases a;cases b;simp only at g2 g3 g4 g5 hf;subst g2 g3 g4 g5 hf;rfl
       simp[this]
    ·simp only[go_sem,kK,g4,bP8]
     simp at g4
     exact ne (.inr (.inr (.inr (.inl g4))))
   ·simp only[go_sem,kK,g3,bP8]
    simp at g3
    exact ne (.inr (.inr (.inl g3)))
  ·simp only[go_sem,kK,g2,bP8]
   simp at g2
   exact ne (.inr (.inl g2))
 ·simp only[go_sem,kK,g1,bP8]
  simp at g1
  exact ne (.inl fun e=>g1 (by rw[e]))
variable {x:List Val}
theorem aYs (h:jZ Tryz.prog (n+2) 58 x): ∃a:aD,sX Tryz.prog 58 x=aD.enc a/\ True:=by
 have h1:=iT Tryz.underlying58 h;simp only[nV]at h1;obtain⟨a,b,rfl,_,ha,c,d,rfl,_,hc,rfl⟩:=h1;obtain⟨i,rfl⟩:=jF (k:= .i64) (by first|exact Tryz.underlying56|kernel_rfl) ha
 obtain⟨j,rfl⟩:=jF Tryz.underlying3 hc;exact⟨⟨i,j⟩,by simp[sX,dB,Tryz.underlying58,aD.enc],trivial⟩
theorem yS (h:jZ Tryz.prog (n+2) 23 x): ∃l:List Int,x=[.fz (l.map (.int .i64))]/\ Few l.length:=by
 obtain⟨l,h1,h2,_⟩:=kZ (Val.int .i64) (fun _=>True) Tryz.underlying23 (fun y hy=>by
  obtain⟨i,rfl⟩:=jF Tryz.underlying3 hy;exact⟨i,by simp[sX,dB,Tryz.underlying3],trivial⟩) h
 exact⟨l,h1,h2⟩
theorem aHp (h:jZ Tryz.prog (n+3) 111 x): ∃l:List aD,x=[.fz (l.map aD.enc)]/\ Few l.length:=by
 obtain⟨l,h1,h2,_⟩:=kZ aD.enc (fun _=>True) Tryz.underlying111 (fun y hy=>aYs hy) h
 exact⟨l,h1,h2⟩
theorem aTa (h:jZ Tryz.prog (n+4) 123 x): ∃a:aB,sX Tryz.prog 123 x=aB.enc a/\ a.few:=by
 have h1:=iT Tryz.underlying123 h;simp only[nV]at h1;obtain⟨a,b,rfl,_,ha,c,d,rfl,_,hc,e,f,rfl,_,he,rfl⟩:=h1;obtain⟨i,rfl⟩:=jF Tryz.underlying3 ha;obtain⟨l,rfl,hl⟩:=aHp hc;obtain⟨m,rfl,hm⟩:=aHp he;exact⟨⟨i,l,m⟩,by simp[sX,dB,Tryz.underlying123,aB.enc],hl,hm⟩
theorem aTb (h:jZ Tryz.prog (n+5) 112 x): ∃l:List aB,x=[.fz (l.map aB.enc)]/\ Few l.length/\ ∀f∈l,f.few:=
 kZ aB.enc aB.few Tryz.underlying112 (fun y hy=>aTa hy) h
theorem aYt (h:jZ Tryz.prog (n+6) 114 x): ∃a:aQ,sX Tryz.prog 114 x=aQ.enc a/\ a.few:=by
 have h1:=iT Tryz.underlying114 h;simp only[nV]at h1;obtain⟨a,b,rfl,_,ha,c,d,rfl,_,hc,e,f,rfl,_,he,g,k,rfl,_,hg,rfl⟩:=h1;obtain⟨i,rfl⟩:=jF (k:= .i64) (by first|exact Tryz.underlying110|kernel_rfl) ha
 obtain⟨j,rfl⟩:=jF Tryz.underlying3 hc;obtain⟨l,rfl,hl⟩:=aHp he;obtain⟨m,rfl,hm,hm2⟩:=aTb hg;exact⟨⟨i,j,l,m⟩,by simp[sX,dB,Tryz.underlying114,aQ.enc],hl,hm,hm2⟩
theorem aYu (h:jZ Tryz.prog (n+2) 145 x): ∃a:bJ,sX Tryz.prog 145 x=bJ.enc a/\ True:=by
 have h1:=iT Tryz.underlying145 h;simp only[nV]at h1;obtain⟨a,b,rfl,_,ha,c,d,rfl,_,hc,rfl⟩:=h1;obtain⟨i,rfl⟩:=jF Tryz.underlying3 ha;obtain⟨j,rfl⟩:=jF Tryz.underlying3 hc;exact⟨⟨i,j⟩,by simp[sX,dB,Tryz.underlying145,bJ.enc],trivial⟩
theorem aIq (h:jZ Tryz.prog (n+8) 39 x): ∃w:aA,x=[.fz (w.objs.map aQ.enc),.fz (w.tasks.map (.int .i64)),.fz (w.outs.map bJ.enc),.fz (w.ins.map (.int .i64)),.i w.used]/\ w.few:=by
 have h1:=iT Tryz.underlying39 h;simp only[nV]at h1;obtain⟨a,b,rfl,_,ha,c,d,rfl,_,hc,e,f,rfl,_,he,g,k,rfl,_,hg,r,q,rfl,_,hr,rfl⟩:=h1;obtain⟨l1,rfl,f1,f1'⟩:=kZ aQ.enc aQ.few Tryz.underlying36 (fun y hy=>aYt hy) ha
 obtain⟨l2,rfl,f2⟩:=yS hc;obtain⟨l3,rfl,f3,_⟩:=kZ bJ.enc (fun _=>True) Tryz.underlying37 (fun y hy=>aYu hy) he
 obtain⟨l4,rfl,f4⟩:=yS hg;obtain⟨i,rfl⟩:=jF Tryz.underlying3 hr;exact⟨⟨l1,l2,l3,l4,i⟩,rfl,⟨f1,f2,f3,f4,f1'⟩⟩
theorem aTc : ∀(n:Nat) {x:List Val},jZ Tryz.prog n 155 x-> ∃q:Pat,sX Tryz.prog 155 x=Pat.enc q/\ q.few
 |0,x,h=>by simp[jZ]at h
 |1,x,h=>by
  have h1:=iT Tryz.underlying155 h;simp only[nV]at h1;obtain⟨a,b,rfl,_,ha,_⟩:=h1;simp[jZ]at ha
 |n+2,x,h=>by
  have h1:=iT Tryz.underlying155 h;simp only[nV]at h1;obtain⟨a,b,rfl,_,ha,c,d,rfl,_,hc,e,f,rfl,_,he,g,k,rfl,_,hg,rfl⟩:=h1;obtain⟨i,rfl⟩:=jF (k:= .i64) (by first|exact Tryz.underlying153|kernel_rfl) ha
  obtain⟨j,rfl⟩:=jF Tryz.underlying3 hc;obtain⟨t,rfl,ht⟩:=aSs (by first|exact Tryz.underlying9|kernel_rfl) he
  obtain⟨l,rfl,hl,hq⟩:=kZ Pat.enc Pat.few Tryz.underlying139 (fun y hy=>aTc n hy) hg
  exact⟨.mk i j t l,by simp[sX,dB,Tryz.underlying155,Pat.enc,Pat.encL_map],.mk i j t l hl ht hq⟩
theorem aVy (h:jZ Tryz.prog (n+4) 141 x): ∃a:aM,sX Tryz.prog 141 x=aM.enc a/\ a.few:=by
 have h1:=iT Tryz.underlying141 h;simp only[nV]at h1;obtain⟨a,b,rfl,_,ha,c,d,rfl,_,hc,e,f,rfl,_,he,g,k,rfl,_,hg,rfl⟩:=h1;obtain⟨i,rfl⟩:=jF (k:= .i64) (by first|exact Tryz.underlying55|kernel_rfl) ha
 obtain⟨j,rfl⟩:=jF Tryz.underlying3 hc;obtain⟨l,rfl,hl⟩:=yS he;obtain⟨m,rfl,hm,hm2⟩:=kZ Pat.enc Pat.few Tryz.underlying139 (fun y hy=>aTc _ hy) hg
 exact⟨⟨i,j,l,m⟩,by simp[sX,dB,Tryz.underlying141,aM.enc,aSm],⟨hl,hm,hm2⟩⟩
theorem aYv (h:jZ Tryz.prog (n+2) 151 x): ∃a:cS,sX Tryz.prog 151 x=cS.enc a/\ Few a.name.size:=by
 have h1:=iT Tryz.underlying151 h;simp only[nV]at h1;obtain⟨a,b,rfl,_,ha,c,d,rfl,_,hc,rfl⟩:=h1;obtain⟨t,rfl,ht⟩:=aSs (by first|exact Tryz.underlying9|kernel_rfl) ha
 obtain⟨j,rfl⟩:=jF Tryz.underlying3 hc;exact⟨⟨t,j⟩,by simp[sX,dB,Tryz.underlying151,cS.enc],ht⟩
theorem aLh (h:jZ Tryz.prog (n+6) 26 x): ∃p:aF,x=[.fz (p.nodes.map aM.enc),.fz (p.funs.map (.int .i64)),.i p.main,.fz (p.cons.map cS.enc)]/\ p.few:=by
 have h1:=iT Tryz.underlying26 h;simp only[nV]at h1;obtain⟨a,b,rfl,_,ha,c,d,rfl,_,hc,e,f,rfl,_,he,g,k,rfl,_,hg,rfl⟩:=h1;obtain⟨l1,rfl,f1,f1'⟩:=kZ aM.enc aM.few Tryz.underlying22 (fun y hy=>aVy hy) ha
 obtain⟨l2,rfl,f2⟩:=yS hc;obtain⟨i,rfl⟩:=jF Tryz.underlying3 he;obtain⟨l3,rfl,f3,f3'⟩:=kZ cS.enc (fun c=>Few c.name.size) Tryz.underlying24 (fun y hy=>aYv hy) hg
 exact⟨⟨l1,l2,i,l3⟩,rfl,⟨f1,f2,f3,f1',f3'⟩⟩
def aIr (v:aD):Bool:=decide (v.kind=5)
def mJ (l:List aD):List Int:=(l.filter aIr).map aD.n
variable {l:List aD}
theorem aYw {x:aD}(h:aIr x=true):mJ (x::l)=x.n::mJ l:=by simp[mJ,h]
theorem aYx {x:aD}(h:aIr x=false):mJ (x::l)=mJ l:=by simp[mJ,h]
def yT (f:aB):List Int:=mJ f.env++mJ f.vals
def vD (o:aQ):List Int:=mJ o.vals++o.frames.flatMap yT
def T4 :List Nat:=[2,3,5,6]
def aFy (c0:Nat->Nat)(en en':En):Prop:= ∀n t g,(n≠0 \/t∉T4 \/g<c0 t)->en' ⟨n,t,g⟩=en ⟨n,t,g⟩
def bHs (c0:Nat->Nat)(en en':En):Prop:= ∀t g,t∈T4->c0 t<=g->en' ⟨0,t,g⟩=en ⟨0,t,g⟩
structure bN9 (k:Key) (c0:Nat->Nat) (I:List Int->En->(Nat->Nat->Nat)->Prop) (F:En->(Nat->Nat->Nat)->Prop):Prop where
 stable: ∀r en cnt en' cnt',I r en cnt->aFy c0 en en'->(∀n t,t∉T4->cnt' n t=cnt n t)->(∀t∈T4,c0 t<=cnt' 0 t)->I r en' cnt'
 round: ∀x jR en cnt,I (x::jR) en cnt->WIn L (.yld k) [.i x] en cnt fun v en' cnt'=>bHs c0 en en'/\ (∀t∈T4,cnt' 0 t=cnt 0 t)/\ ((v= .bool true/\ I jR en' cnt') \/(v= .bool false/\ F en' cnt'))
variable {c0:Nat->Nat}
section
variable {k :Key}{I:List Int->En->(Nat->Nat->Nat)->Prop}{G:En->(Nat->Nat->Nat)->Prop}{a b:Nat}
end
theorem aFy.trans {x y z:En}(h:aFy c0 x y)(h':aFy c0 y z):aFy c0 x z:=fun n t g k=>(h' n t g k).trans (h n t g k)
def bHt (sz:Nat):iW:={np:=2,res:=[.tmp 4],keep:=false,body:=(.seq (.ops [mC 4 (.i 0)]) (.seq (.seq (.ops [mT 6 0,lN 7 6,mC 8 (.i 0)]) (.block 0 (.loop (.seq (.ops [bN 9 .lss (.t 8) (.t 7)]) (.seq (.cond (.t 9) .skip (.exit 0)) (.seq (.block 1 (.seq (.ops [mT 10 8,mT 5 10]) (.seq (.ops [mT 11 1,mT 12 0,mT 13 5,iA 14 sz 12 13,lT 15 sz 14,o 16 (.call (.t 11) [(.t 15)])]) (.cond (.t 16) (.seq (.ops [mT 17 5,mT 4 17]) .ret) .skip)))) (.ops [bN 18 .add (.t 8) (cI 1),mT 8 18]))))))) (.seq (.ops [mC 4 (.i (-1))]) .ret)))}
def bF6 (f:Nat):iW:={np:=2,res:=[.tmp 4],keep:=false,body:=(.seq (.ops [mC 4 (.bool false)]) (.seq (.ops [mT 5 0,mT 6 1,cL 7 f [(.t 5),(.t 6)],bN 8 .geq (.t 7) (cI 0),mT 4 8]) .ret))}
section
variable {α :Type}{enc E:α->Val}{sz f0 f1:Nat}
theorem bOa (hL:L f0=some (bHt sz))(hlen: ∀x,(enc x).cells.length=sz)(hE: ∀x,Val.agg (enc x).cells=E x)(l:List α)(h:Val)(p:α->Bool)(hl:Few l.length)(hc:eH L E h p l):
  PC L f0 [.fz (l.map enc),h] (.i (idxOf p l 0)):=by
 have htk: ∀x,(enc x).cells.take sz=(enc x).cells:=fun x=>by rw[<-hlen x];exact bQ6
 refine aI hL rfl rfl ?_
 simp only[go_sem,kK,bHt]
 refine bQ (l.length) (fun k st=> ∃fr en cnt,st=⟨fr,en,cnt⟩/\ (fr 0= .fz (l.map enc))/\ (fr 1=h)/\ (fr 7= .i l.length)/\ (fr 8= .i k)/\ (idxOf p (l.drop k) k=idxOf p l 0)) 0 (bPx _) ⟨_,_,_,rfl,(by first|(simp only[go_sem];(try rfl);done)|rfl|simp),(by first|(simp only[go_sem];(try rfl);done)|rfl|simp),(by first|(simp only[go_sem];(try rfl);done)|rfl|simp),(by first|(simp only[go_sem];(try rfl);done)|rfl|simp),(by first|(simp only[go_sem];(try rfl);done)|rfl|simp)⟩ ?_
 rintro k st hk ⟨fr,en,cnt,rfl,h0,h1,h7,h8,hI⟩
 simp only[go_sem,kK,h7,h8]
 refine aG (fun hq=>?_) (fun hq=>?_)
 ·have h':k<l.length:=D_o hq;rw[bQu h',idxOf]at hI;simp only[go_sem,h',hlen,htk,hE,bQh,bPq,if_true,bRy,beq_self_eq_true,h0,h1,h8]
  refine hc.call l[k] (bPz _) _ _ ?_
  simp only[go_sem,kK]
  refine aG (fun hb=>?_) (fun hb=>?_)
  ·simp only[go_sem,kK];rw[hb,if_pos rfl]at hI;rw[<-hI]
  ·simp only[go_sem,h8];rw[hb]at hI
   simp at hI
   refine⟨_,_,_,rfl,?_⟩
   simp only[go_sem,h0,h1,h7,aT h' hl];exact hI
 ·have:k=l.length:=by simp at hq;omega
  subst this;simp only[go_sem];rw[<-hI];simp[idxOf]
theorem aLi (hL:L f1=some (bF6 f0))(h0:L f0=some (bHt sz))(hlen: ∀x,(enc x).cells.length=sz)(hE: ∀x,Val.agg (enc x).cells=E x)(l:List α)(h:Val)(p:α->Bool)(hl:Few l.length)(hc:eH L E h p l):
  PC L f1 [.fz (l.map enc),h] (.bool (l.any p)):=by
 refine aI hL rfl rfl ?_
 simp only[go_sem,kK,bF6,hc.snap,hc.wk,(bOa h0 hlen hE l h p hl hc).ret];rw[<-aHj p l 0]
end
theorem aYy (l:List cS)(h:Val)(p:cS->Bool)(hl:Few l.length)(hc:eH L (fun x:cS=> .agg [.str x.name,.i x.args]) h p l):
  PC L 300 [.fz (l.map cS.enc),h] (.bool (l.any p)):=by
 refine aLi (sz:=2) (f0:=348) ?_ ?_ (fun _=>rfl) (fun _=>rfl) l h p hl hc
 ·have hLz:=at_ func300
  conv at hLz=>rhs;reduce
  exact hLz
 ·have hLz:=at_ func348
  conv at hLz=>rhs;reduce
  exact hLz
theorem tA (l:List cS)(h:Val)(p:cS->Bool)(hc:eH L (fun x:cS=> .agg [.str x.name,.i x.args]) h p l)(x:cS)(hx:x∈l):
  PC L 301 [.agg [.str x.name,.i x.args],.fp [h] 0] (.bool (!p x)):=by
 have hLz:=at_ func301
 conv at hLz=>rhs;reduce
 refine aI hLz rfl rfl ?_
 simp only[go_sem,kK]
 refine hc.call x hx _ _ ?_
 simp only[go_sem]
theorem wH (l:List cS)(h:Val)(p:cS->Bool)(hl:Few l.length)(hc:eH L (fun x:cS=> .agg [.str x.name,.i x.args]) h p l):
  PC L 243 [.fz (l.map cS.enc),h] (.bool (l.all p)):=by
 have hd:eH L (fun x:cS=> .agg [.str x.name,.i x.args]) (.fn 301 [] [.fp [h] 0]) (fun x=>!p x) l:=by
  refine⟨fun n en hn=>?_,rfl,rfl,rfl,fun x hx en K hK=>?_⟩
  ·obtain⟨m,rfl⟩: ∃m,n=m+4:=⟨n-4,by omega⟩
   simp only[go_sem]
  ·simp only[go_sem,(tA l h p hc x hx).ret];exact hK
 have hLz:=at_ func243
 conv at hLz=>rhs;reduce
 refine aI hLz rfl rfl ?_
 simp only[go_sem,kK,mE hc.one hc.cells,hc.snap,(aYy l _ _ hl hd).ret];rw[<-bSb,bSc]
theorem aVz (l:List aM)(h:Val)(p:aM->Bool)(hl:Few l.length)(hc:eH L (fun x:aM=> .agg [.i x.op,.i x.n,.fz (x.kids.map (.int .i64)),.fz (x.pats.map Pat.enc)]) h p l):
  PC L 303 [.fz (l.map aM.enc),h] (.bool (l.any p)):=by
 refine aLi (sz:=4) (f0:=350) ?_ ?_ (fun _=>rfl) (fun _=>rfl) l h p hl hc
 ·have hLz:=at_ func303
  conv at hLz=>rhs;reduce
  exact hLz
 ·have hLz:=at_ func350
  conv at hLz=>rhs;reduce
  exact hLz
theorem sL (l:List aM)(h:Val)(p:aM->Bool)(hc:eH L (fun x:aM=> .agg [.i x.op,.i x.n,.fz (x.kids.map (.int .i64)),.fz (x.pats.map Pat.enc)]) h p l)(x:aM)(hx:x∈l):
  PC L 304 [.agg [.i x.op,.i x.n,.fz (x.kids.map (.int .i64)),.fz (x.pats.map Pat.enc)],.fp [h] 0] (.bool (!p x)):=by
 have hLz:=at_ func304
 conv at hLz=>rhs;reduce
 refine aI hLz rfl rfl ?_
 simp only[go_sem,kK]
 refine hc.call x hx _ _ ?_
 simp only[go_sem]
theorem vE (l:List aM)(h:Val)(p:aM->Bool)(hl:Few l.length)(hc:eH L (fun x:aM=> .agg [.i x.op,.i x.n,.fz (x.kids.map (.int .i64)),.fz (x.pats.map Pat.enc)]) h p l):
  PC L 248 [.fz (l.map aM.enc),h] (.bool (l.all p)):=by
 have hd:eH L (fun x:aM=> .agg [.i x.op,.i x.n,.fz (x.kids.map (.int .i64)),.fz (x.pats.map Pat.enc)]) (.fn 304 [] [.fp [h] 0]) (fun x=>!p x) l:=by
  refine⟨fun n en hn=>?_,rfl,rfl,rfl,fun x hx en K hK=>?_⟩
  ·obtain⟨m,rfl⟩: ∃m,n=m+4:=⟨n-4,by omega⟩
   simp only[go_sem]
  ·simp only[go_sem,(sL l h p hc x hx).ret];exact hK
 have hLz:=at_ func248
 conv at hLz=>rhs;reduce
 refine aI hLz rfl rfl ?_
 simp only[go_sem,kK,mE hc.one hc.cells,hc.snap,(aVz l _ _ hl hd).ret];rw[<-bSb,bSc]
theorem bBv (l:List Pat)(h:Val)(p:Pat->Bool)(hl:Few l.length)(hc:eH L (fun x:Pat=> .agg [.i x.form,.i x.n,.str x.text,.fz (x.parts.map Pat.enc)]) h p l):
  PC L 352 [.fz (l.map Pat.enc),h] (.bool (l.any p)):=by
 refine aLi (sz:=4) (f0:=362) ?_ ?_ (fun x=>by cases x;rfl) (fun x=>by cases x;simp[Pat.enc,Pat.encL_map,Val.cells,Pat.form,Pat.n,Pat.text,Pat.parts]) l h p hl hc
 ·have hLz:=at_ func352
  conv at hLz=>rhs;reduce
  exact hLz
 ·have hLz:=at_ func362
  conv at hLz=>rhs;reduce
  exact hLz
theorem tB (l:List Pat)(h:Val)(p:Pat->Bool)(hc:eH L (fun x:Pat=> .agg [.i x.form,.i x.n,.str x.text,.fz (x.parts.map Pat.enc)]) h p l)(x:Pat)(hx:x∈l):
  PC L 353 [.agg [.i x.form,.i x.n,.str x.text,.fz (x.parts.map Pat.enc)],.fp [h] 0] (.bool (!p x)):=by
 have hLz:=at_ func353
 conv at hLz=>rhs;reduce
 refine aI hLz rfl rfl ?_
 simp only[go_sem,kK]
 refine hc.call x hx _ _ ?_
 simp only[go_sem]
theorem oM (l:List Pat)(h:Val)(p:Pat->Bool)(hl:Few l.length)(hc:eH L (fun x:Pat=> .agg [.i x.form,.i x.n,.str x.text,.fz (x.parts.map Pat.enc)]) h p l):
  PC L 310 [.fz (l.map Pat.enc),h] (.bool (l.all p)):=by
 have hd:eH L (fun x:Pat=> .agg [.i x.form,.i x.n,.str x.text,.fz (x.parts.map Pat.enc)]) (.fn 353 [] [.fp [h] 0]) (fun x=>!p x) l:=by
  refine⟨fun n en hn=>?_,rfl,rfl,rfl,fun x hx en K hK=>?_⟩
  ·obtain⟨m,rfl⟩: ∃m,n=m+4:=⟨n-4,by omega⟩
   simp only[go_sem]
  ·simp only[go_sem,(tB l h p hc x hx).ret];exact hK
 have hLz:=at_ func310
 conv at hLz=>rhs;reduce
 refine aI hLz rfl rfl ?_
 simp only[go_sem,kK,mE hc.one hc.cells,hc.snap,(bBv l _ _ hl hd).ret];rw[<-bSb,bSc]
theorem bEa (l:List Int)(h:Val)(p:Int->Bool)(hl:Few l.length)(hc:eH L (fun x:Int=> .i x) h p l):
  PC L 354 [.fz (l.map (.int .i64)),h] (.i (idxOf p l 0)):=by
 have hLz:=at_ func354
 conv at hLz=>rhs;reduce
 refine aI hLz rfl rfl ?_
 simp only[go_sem,kK]
 refine bQ (l.length) (fun k st=> ∃fr en cnt,st=⟨fr,en,cnt⟩/\ (fr 0= .fz (l.map (.int .i64)))/\ (fr 1=h)/\ (fr 7= .i l.length)/\ (fr 8= .i k)/\ (idxOf p (l.drop k) k=idxOf p l 0)) 0 (bPx _) ⟨_,_,_,rfl,(by first|(simp only[go_sem];(try rfl);done)|rfl|simp),(by first|(simp only[go_sem];(try rfl);done)|rfl|simp),(by first|(simp only[go_sem];(try rfl);done)|rfl|simp),(by first|(simp only[go_sem];(try rfl);done)|rfl|simp),(by first|(simp only[go_sem];(try rfl);done)|rfl|simp)⟩ ?_
 rintro k st hk ⟨fr,en,cnt,rfl,h0,h1,h7,h8,hI⟩
 simp only[go_sem,kK,h7,h8]
 refine aG (fun hq=>?_) (fun hq=>?_)
 ·have h':k<l.length:=D_o hq;rw[bQu h',idxOf]at hI;simp only[go_sem,h',h0,h1,h8]
  refine hc.call l[k] (bPz _) _ _ ?_
  simp only[go_sem,kK]
  refine aG (fun hb=>?_) (fun hb=>?_)
  ·simp only[go_sem,kK];rw[hb,if_pos rfl]at hI;rw[<-hI]
  ·simp only[go_sem,h8];rw[hb]at hI
   simp at hI
   refine⟨_,_,_,rfl,?_⟩
   simp only[go_sem,h0,h1,h7,aT h' hl];exact hI
 ·have:k=l.length:=by simp at hq;omega
  subst this;simp only[go_sem];rw[<-hI];simp[idxOf]
theorem aTd (l:List Int)(h:Val)(p:Int->Bool)(hl:Few l.length)(hc:eH L (fun x:Int=> .i x) h p l):
  PC L 311 [.fz (l.map (.int .i64)),h] (.bool (l.any p)):=by
 have hLz:=at_ func311
 conv at hLz=>rhs;reduce
 refine aI hLz rfl rfl ?_
 simp only[go_sem,kK,hc.snap,hc.wk,(bEa l h p hl hc).ret];rw[<-aHj p l 0]
theorem aBw (l:List Int)(h:Val)(p:Int->Bool)(hc:eH L (fun x:Int=> .i x) h p l)(x:Int)(hx:x∈l):
  PC L 312 [.i x,.fp [h] 0] (.bool (!p x)):=by
 have hLz:=at_ func312
 conv at hLz=>rhs;reduce
 refine aI hLz rfl rfl ?_
 simp only[go_sem,kK]
 refine hc.call x hx _ _ ?_
 simp only[go_sem]
theorem aFz (l:List Int)(h:Val)(p:Int->Bool)(hl:Few l.length)(hc:eH L (fun x:Int=> .i x) h p l):
  PC L 250 [.fz (l.map (.int .i64)),h] (.bool (l.all p)):=by
 have hd:eH L (fun x:Int=> .i x) (.fn 312 [] [.fp [h] 0]) (fun x=>!p x) l:=by
  refine⟨fun n en hn=>?_,rfl,rfl,rfl,fun x hx en K hK=>?_⟩
  ·obtain⟨m,rfl⟩: ∃m,n=m+4:=⟨n-4,by omega⟩
   simp only[go_sem]
  ·simp only[go_sem,(aBw l h p hc x hx).ret];exact hK
 have hLz:=at_ func250
 conv at hLz=>rhs;reduce
 refine aI hLz rfl rfl ?_
 simp only[go_sem,kK,mE hc.one hc.cells,hc.snap,(aTd l _ _ hl hd).ret];rw[<-bSb,bSc]
theorem mK (n lo hi:Int):PC L 242 [.i n,.i lo,.i hi] (.bool (inR n lo hi)):=by
 have hLz:=at_ func242
 conv at hLz=>rhs;reduce
 refine aI hLz rfl rfl ?_
 simp only[go_sem,qW]
 refine bB (fun h=>?_) (fun h=>?_)<;>simp only[go_sem,h]<;>simp at h<;>simp[h,inR]
 omega
theorem aA0 (n:Int):PC L 351 [.i n] (.bool (inR n (-1000000000) 1000000000)):=by
 have hLz:=at_ func351
 conv at hLz=>rhs;reduce
 refine aI hLz rfl rfl ?_
 simp only[go_sem,kK,(mK _ _ _).ret]
theorem aNf (s:ByteArray):PC L 349 [.str s] (.bool (oQ (nX s))):=by
 have hLz:=at_ func349
 conv at hLz=>rhs;reduce
 refine aI hLz rfl rfl ?_
 simp only[go_sem,kK]
 refine bQ s.size (fun k st=> ∃fr en cnt,st=⟨fr,en,cnt⟩/\ fr 6= .it ⟨0,6,0⟩/\ en ⟨0,6,0⟩=some (.iter s k)/\ ((nX s).drop k).all lE=(nX s).all lE) 0 (bPx _) ⟨_,_,_,rfl,by simp only[go_sem],by simp only[go_sem],rfl⟩ ?_
 rintro k st hk ⟨fr,en,cnt,rfl,h6,e6,hI⟩
 have hsz:=qP s
 by_cases h':k<s.size
 ·have h'':k<(nX s).length:=by omega
  obtain⟨d1,d2⟩:=aQd h'';rw[gD h'']at hI;simp only[go_sem,kK,h6,e6,h'];cases hb:lE (nX s)[k]with
  |true=>
   have hd:=d1 hb;have hb2:=hb;simp only[lE,bPp,bTe]at hb2;have c1:decide ((((nX s)[k].toNat:Nat):Int)<97)=false:=by simp;omega
   have c2:decide ((122:Int)<(((nX s)[k].toNat:Nat):Int))=false:=by simp;omega
   simp only[go_sem,kK,hd,c1,c2]
   refine⟨_,_,_,rfl,?_⟩
   simp only[go_sem,h6];rw[<-hI,hb];simp
  |false=>
   have hd:=d2 hb;rw[hb]at hI;generalize (Utf8.decode s k).1=r at hd⊢
   refine aJ (fun hc=>?_) (fun hc=>?_)
   ·simp at hc
    have c1:decide ((r:Int)<97)=false:=by simp;omega
    have c2:decide ((122:Int)<(r:Int))=true:=by simp;omega
    simp only[go_sem,kK,c1,c2];rw[oQ,<-hI];rfl
   ·simp only[go_sem,kK,hc,bP8];rw[oQ,<-hI];rfl
 ·have:k=s.size:=by omega
  subst this;simp only[go_sem,kK,h6,e6,bSf];rw[oQ,<-hI,List.drop_eq_nil_of_le (by omega)];rfl
theorem aYz (s:ByteArray):(s.toList==(⟨#[]⟩:ByteArray).toList)=decide (s.size=0):=by
 rw[Go.ByteArray.toList_eq,Go.ByteArray.toList_eq];have:s.size=s.data.toList.length:=by rw[bRz];rfl
 rw[this];cases s.data.toList<;>rfl
theorem aNg (s:ByteArray):PC L 302 [.str s] (.bool (aK6 (nX s))):=by
 have hLz:=at_ func302
 conv at hLz=>rhs;reduce
 refine aI hLz rfl rfl ?_
 simp only[go_sem,kK,aYz]
 refine aJ (fun h=>?_) (fun h=>?_)
 ·have h':1<=s.size:=by
   have: ¬s.size=0:=by intro h0;rw[h0]at h;simp at h
   omega
  have h0:0<(nX s).length:=by rw[qP];omega
  have hix:=fun(k:IntKind)=>aQc (k:=k) h0
  simp only[Int.natCast_zero]at hix;rw[aLf (qP s) h0];simp only[go_sem,kK,h]
  refine aJ (fun h1=>?_) (fun h1=>?_)<;>simp only[go_sem,kK,h1,hix]
  refine aJ (fun h2=>?_) (fun h2=>?_)<;>simp only[go_sem,kK,h2,hix]
  refine aJ (fun h3=>?_) (fun h3=>?_)<;>simp only[go_sem,kK,h3,aLe h',(aNf _).ret,aOg]
  all_goals simp only[bTe,bTf,bP3]at*
  all_goals simp[*]
 ·have:s.size=0:=by
   by_cases h0:s.size=0
   ·exact h0
   ·simp only[h0,decide_false]at h;simp at h
  have e:nX s=[]:=by rw[<-bS6,qP,this]
  simp only[go_sem,kK,h,bP3];rw[e];rfl
theorem aTe (c:cS):PC L 244 [.agg [.str c.name,.i c.args]] (.bool (wU c)):=by
 have hLz:=at_ func244
 conv at hLz=>rhs;reduce
 refine aI hLz rfl rfl ?_
 simp only[go_sem,kK,(aNg _).ret]
 refine aJ (fun h=>?_) (fun h=>?_)<;>simp only[go_sem,kK,h,(mK _ _ _).ret]<;>simp[wU,h]
theorem wI (c:cS):PC L 247 [.agg [.str c.name,.i c.args]] (.str c.name):=by
 have hLz:=at_ func247
 conv at hLz=>rhs;reduce
 refine aI hLz rfl rfl ?_
 simp only[go_sem,kK]
theorem wJ (n:Int):PC L 251 [.i n] (.bool (decide (n=1))):=by
 have hLz:=at_ func251
 conv at hLz=>rhs;reduce
 refine aI hLz rfl rfl ?_
 simp only[go_sem,kK]
theorem aQg : ∀q:Pat,q.few-> ∀most:Int,0<=most->most<=1000->PC L 307 [.agg [.i q.form,.i q.n,.str q.text,.fz (q.parts.map Pat.enc)],.i most] (.i (tI q most)):=by
 refine Pat.ind fun q ih hq most h1 h2=>?_
 obtain⟨hl,_,hps⟩:=Pat.few_parts hq;rw[bBt];have hLz:=at_ func307
 conv at hLz=>rhs;reduce
 refine aI hLz rfl rfl ?_
 simp only[go_sem,kK]
 refine bQ q.parts.length (fun k st=> ∃fr en cnt a,st=⟨fr,en,cnt⟩/\ fr 1= .i most/\ fr 5= .i a/\ fr 9= .fz (q.parts.map Pat.enc)/\ fr 10= .i q.parts.length/\ fr 11= .i k/\ 1<=a/\ a<=most+1/\ mH (q.parts.drop k) most a=mH q.parts most 1) 0 (bPx _) ⟨_,_,_,1,rfl,by simp only[go_sem],by simp only[go_sem],by simp only[go_sem],by simp only[go_sem],by simp only[go_sem],by omega,by omega,rfl⟩ ?_
 rintro k st hk ⟨fr,en,cnt,a,rfl,h1',h5,h9,h10,h11,ha,hb,hI⟩
 simp only[go_sem,kK,h10,h11]
 refine aG (fun hc=>?_) (fun hc=>?_)
 ·have h':k<q.parts.length:=D_o hc;rw[bQu h',mH]at hI;have hm:q.parts[k]∈q.parts:=bPz _;simp only[go_sem,kK,h',h1',h5,h9,h11]
  refine aG (fun hd=>?_) (fun hd=>?_)<;>simp only[bTe,bTf]at hd
  ·simp only[go_sem,h5];rw[if_pos hd]at hI;rw[hI]
  ·rw[if_neg hd]at hI;have e1:IntKind.i64.wrap (most-a)=most-a:=aW (by omega)
   have hz:=aLd q.parts[k] (most-a) (by omega)
   have e2:IntKind.i64.wrap (a+tI q.parts[k] (most-a))=a+tI q.parts[k] (most-a):=aW (by omega)
   simp only[go_sem,h1',h5,h11,e1,e2,(ih _ hm (hps _ hm) (most-a) (by omega) (by omega)).ret]
   refine⟨_,_,_,a+tI q.parts[k] (most-a),rfl,?_⟩
   simp only[go_sem,h1',h9,h10,aT h' hl];exact⟨by omega,by omega,hI⟩
 ·have:k=q.parts.length:=by simp at hc;omega
  subst this;simp only[go_sem,h5];rw[<-hI];simp[mH]
theorem aDj (p:aF)(hc:Few p.cons.length): ∀q:Pat,q.few->PC L 308 [.agg p.cs,.agg [.i q.form,.i q.n,.str q.text,.fz (q.parts.map Pat.enc)]] (.bool (sJ p.cons q)):=by
 refine Pat.ind fun q ih hq=>?_
 obtain⟨hl,_,hps⟩:=Pat.few_parts hq;have e:=dX hc;have ask:eH L (fun x:Pat=> .agg [.i x.form,.i x.n,.str x.text,.fz (x.parts.map Pat.enc)]) (.fn 308 [.agg p.cs] []) (sJ p.cons) q.parts:=by
  refine⟨fun n en hn=>?_,rfl,rfl,rfl,fun x hx en K hK=>?_⟩
  ·obtain⟨m,rfl⟩: ∃m,n=m+4:=⟨n-4,by omega⟩
   simp only[go_sem]
  ·simp only[go_sem,(ih x hx (hps x hx)).ret];exact hK
 rw[aK9];have hLz:=at_ func308
 conv at hLz=>rhs;reduce
 refine aI hLz rfl rfl ?_
 simp only[go_sem,kK]
 refine aJ (fun h=>?_) (fun h=>?_)
 ·simp only[go_sem,kK,h,(oM q.parts _ _ hl ask).ret];have ht:aHn q.text=true:=by simp only[aHn];simpa using h
  refine aG (fun h2=>?_) (fun h2=>?_)
  ·simp only[go_sem,kK]
   simp at h2
   simp[h2]
  ·have h3:q.parts.all (sJ p.cons)=true:=by simpa using h2
   rw[h3];simp only[go_sem,kK]
   repeat' ((first|with_reducible refine aG (fun h=>?_) (fun h=>?_)|with_reducible refine aJ (fun h=>?_) (fun h=>?_))<;>(try simp only[bTe,bTf,bP3]at h)<;>try simp only[go_sem,kK, *,(mK _ _ _).ret,(aA0 _).ret,aHm])
   all_goals try simp[tM,yR, *]
   all_goals try(intros;simp_all;done)
 ·simp only[go_sem,kK,h,bP8];have ht:aHn q.text=false:=by simp only[aHn];simpa using h
  simp[tM,ht]
end Go.Proofs.YtmnchlhngpdffaaGreat
namespace Go.Abs
def vF (lo hi:Int):List Int->List Int->Option (List Int)
 |u,[]=>some u
 |u,x::l=>if inR x lo hi then vF lo hi (u.set x.toNat (IntKind.i64.wrap (u.getD x.toNat 0+1))) l else none
def lB (p:aF):Nat->List Int->List aM->Option (List Int)
 |_,u,[]=>some u
 |i,u,n::l=>(vF ((i:Int)+1) (p.nodes.length-1) u n.kids).bind fun u=>lB p (i+1) u l
def aBx :Option (List Int)->Bool
 |some u=>u.all fun c=>decide (c=1)
 |none=>false
def aAd (p:aF):Bool:=
 decide ((p.nodes.length:Int)<=300)&&decide ((1:Int)<=p.funs.length)&&decide ((p.funs.length:Int)<=p.nodes.length)&&decide ((p.cons.length:Int)<=20)&&inR p.main 0 (p.funs.length-1)&&
  p.cons.all wU&&nA [] (p.cons.map cS.name)&&p.nodes.all (eN p)&&
  aBx ((vF 0 (p.nodes.length-1) (List.replicate p.nodes.length 0) p.funs).bind fun u=>lB p 0 u p.nodes)
def sM (hi:Int):List Bool->List (Int×Int)->Option (List Bool)
 |u,[]=>some u
 |u,(lo,x)::l=>if inR x lo hi&&!(u.getD x.toNat false)then sM hi (u.set x.toNat true) l else none
def qR (hi:Int):List Int->List (Int×Int)->Option (List Int)
 |u,[]=>some u
 |u,(lo,x)::l=>if inR x lo hi then qR hi (u.set x.toNat (IntKind.i64.wrap (u.getD x.toNat 0+1))) l else none
def lF :Nat->List aM->List (Int×Int)
 |_,[]=>[]
 |i,n::l=>n.kids.map (fun k=>((i:Int)+1,k))++lF (i+1) l
theorem aQh (lo hi:Int): ∀(l:List Int) (u:List Bool),aBv lo hi u l=sM hi u (l.map fun x=>(lo,x))
 |[],u=>rfl
 |x::l,u=>by simp only[aBv,bQj,sM];split<;>first|exact aQh lo hi l _|rfl
theorem aQi (lo hi:Int): ∀(l:List Int) (u:List Int),vF lo hi u l=qR hi u (l.map fun x=>(lo,x))
 |[],u=>rfl
 |x::l,u=>by simp only[vF,bQj,qR];split<;>first|exact aQi lo hi l _|rfl
theorem tN (hi:Int): ∀(a b:List (Int×Int)) (u:List Bool),sM hi u (a++b)=(sM hi u a).bind fun u=>sM hi u b
 |[],b,u=>rfl
 |(lo,x)::a,b,u=>by simp only[bR5,sM];split<;>first|exact tN hi a b _|rfl
theorem xS (hi:Int): ∀(a b:List (Int×Int)) (u:List Int),qR hi u (a++b)=(qR hi u a).bind fun u=>qR hi u b
 |[],b,u=>rfl
 |(lo,x)::a,b,u=>by simp only[bR5,qR];split<;>first|exact xS hi a b _|rfl
theorem aF0 (p:aF): ∀(l:List aM) (i:Nat) (u:List Int),lB p i u l=qR (p.nodes.length-1) u (lF i l)
 |[],i,u=>rfl
 |n::l,i,u=>by
  simp only[lB,lF,xS,aQi]
  congr 1;funext u;exact aF0 p l (i+1) u
theorem wW (p:aF): ∀(l:List aM) (i:Nat) (u:List Bool),lP p i u l=if l.all (eN p)=true then sM (p.nodes.length-1) u (lF i l)else none
 |[],i,u=>rfl
 |n::l,i,u=>by
  simp only[lP,lF,tN,aQh,bR3,bPp]
  by_cases h:eN p n=true
  ·simp only[h,if_true,true_and];have ih:=fun u=>wW p l (i+1) u
   by_cases h2:l.all (eN p)=true
   ·simp only[h2,if_true]at ih⊢
    congr 1;funext u;exact ih u
   ·simp only[h2]at ih⊢;simp only[ih];cases sM (↑p.nodes.length-1) u (List.map (fun k=>(↑i+1,k)) n.kids)<;>rfl
  ·simp only[h];rfl
theorem aLj {hi:Int}: ∀(evs:List (Int×Int)) (u:List Int) (i:Nat) (B:Int),i<u.length->2<=u.getD i 0->(∀c∈u,c<=B)->(∀c∈u,0<=c)->B+evs.length<=9223372036854775807->aBx (qR hi u evs)=false
 |[],u,i,B,h,h2,hB,h0,hM=>by
  simp only[qR,aBx];rw[<-bQ0];intro ha;have:=bPv.1 ha u[i] (bPz _);simp only[bPu,bQz h,bQg]at h2
  simp at this;omega
 |(lo,x)::evs,u,i,B,h,h2,hB,h0,hM=>by
  simp only[qR];split
  ·have hx:u.getD x.toNat 0<=B/\ 0<=u.getD x.toNat 0:=by
    rw[bPu];cases hg:u[x.toNat]? with
    |none=>
     have:=hB u[i] (bPz _);have:=h0 u[i] (bPz _)
     simp;omega
    |some c=>have:=List.mem_of_getElem? hg;simp;exact⟨hB c this,h0 c this⟩
   have hw:IntKind.i64.wrap (u.getD x.toNat 0+1)=u.getD x.toNat 0+1:=aW (by simp at hM;omega)
   rw[hw]
   refine aLj evs _ i (B+1) (by simpa using h) ?_ ?_ ?_ (by simp at hM;omega)
   ·rw[bPu,bSg];split
    ·rename_i e;subst e;simp only[h,if_true,bQg];omega
    ·rw[<-bPu];exact h2
   ·intro c hc;rcases bTb hc with hc|rfl
    ·have:=hB c hc;omega
    ·omega
   ·intro c hc;rcases bTb hc with hc|rfl
    ·exact h0 c hc
    ·omega
  ·rfl
theorem aV0 {u:List Bool}{x:Nat}(h:x<u.length):(u.map fun b=>if b then(1:Int)else 0).getD x 0=if u.getD x false then 1 else 0:=by
 simp[bPu,h]
theorem aV1 {hi:Int}(evs:List (Int×Int)): ∀(u:List Bool),(hi:Int)=u.length-1->(∀e∈evs,0<=e.1)->(evs.length:Int)<=1000000->
  aAb (sM hi u evs)=aBx (qR hi (u.map fun b=>if b then 1 else 0) evs):=by
 induction evs with
 |nil=>
  intro u _ _ _;simp only[sM,qR,aAb,aBx,List.all_map]
  congr 1
  funext b
  cases b<;>rfl
 |cons e evs ih=>
  obtain⟨lo,x⟩:=e;intro u hh hlo hM;simp only[sM,qR];have hl:=hlo (lo,x) (by simp)
  simp only at hl
  have hM':(evs.length:Int)+1<=1000000:=by simpa using hM
  by_cases hx:inR x lo hi=true
  ·have hx':=hx;simp only[inR,bTe]at hx';have hlt:x.toNat<u.length:=by omega
   simp only[hx,bQn,if_true];rw[aV0 hlt];cases hb:u.getD x.toNat false with
   |true=>
    simp only[bP3,bPs,if_false,if_true,aAb]
    symm
    have hw:IntKind.i64.wrap ((1:Int)+1)=2:=by rw[aW (by omega)];rfl
    rw[hw];have hbd: ∀c∈(u.map fun b=>if b then(1:Int)else 0).set x.toNat 2,0<=c/\ c<=2:=by
     intro c hc;rcases bTb hc with hc|rfl
     ·obtain⟨b,_,rfl⟩:=bQk.1 hc;split<;>omega
     ·omega
    exact aLj evs _ x.toNat 2 (by simpa using hlt) (by simp[bPu,hlt]) (fun c hc=>(hbd c hc).2) (fun c hc=>(hbd c hc).1) (by omega)
   |false=>
    simp only[bP8,if_true,bPs,if_false];have hw:IntKind.i64.wrap ((0:Int)+1)=1:=by rw[aW (by omega)];rfl
    rw[hw,ih (u.set x.toNat true) (by simpa using hh) (fun e he=>hlo e (by simp[he])) (by omega),bR4]
    rfl
  ·simp only[bQ0]at hx;simp only[hx,bQq,bPs,if_false,aAb,aBx]
theorem aLk : ∀(l:List aM) (i:Nat),∀e∈lF i l,0<=e.1
 |[],i,e,h=>by simp[lF]at h
 |n::l,i,e,h=>by
  simp only[lF,bQe,bQk]at h;rcases h with⟨k,_,rfl⟩|h
  ·simp only;omega
  ·exact aLk l (i+1) e h
theorem aIs : ∀(l:List aM) (i:Nat),(∀n∈l,n.kids.length<=10)->(lF i l).length<=10*l.length
 |[],i,_=>by simp[lF]
 |n::l,i,h=>by
  have:=aIs l (i+1) fun m hm=>h m (by simp[hm])
  have h2:=h n (by simp)
  simp only[lF,bP9,bPr,bPy];omega
theorem aTf (p:aF)(hs:aR p=true):aAd p=dV p:=by
 simp only[aR,bPp,bTe]at hs;obtain⟨⟨⟨⟨h1,h2⟩,h3⟩,h4⟩,h5⟩:=hs;have hk: ∀n∈p.nodes,n.kids.length<=10:=by
  intro n hn;have:=bPv.1 h5 n hn;simp only[gE,bPp,bTe]at this;omega
 have key:p.nodes.all (eN p)=true->aAb ((aBv 0 (p.nodes.length-1) (List.replicate p.nodes.length false) p.funs).bind fun u=>lP p 0 u p.nodes)=
   aBx ((vF 0 (p.nodes.length-1) (List.replicate p.nodes.length 0) p.funs).bind fun u=>lB p 0 u p.nodes):=by
  intro hn;simp only[aQh,aQi,wW,aF0,hn,if_true];rw[<-tN,<-xS];have:=aV1 (hi:=(p.nodes.length:Int)-1) (List.map (fun x=>((0:Int),x)) p.funs++lF 0 p.nodes) (List.replicate p.nodes.length false) (by simp) (fun e he=>by
   rcases bQe.1 he with he|he
   ·obtain⟨x,_,rfl⟩:=bQk.1 he;simp
   ·exact aLk _ _ _ he) (by
   have:=aIs p.nodes 0 hk
   simp;omega)
  rw[this];simp[List.map_replicate]
 have none_:p.nodes.all (eN p)=false->aAb ((aBv 0 (p.nodes.length-1) (List.replicate p.nodes.length false) p.funs).bind fun u=>lP p 0 u p.nodes)=false:=by
  intro hn;simp only[wW,hn,bPs,if_false];cases aBv 0 (↑p.nodes.length-1) (List.replicate p.nodes.length false) p.funs<;>rfl
 have e1:inR p.funs.length 1 p.nodes.length=(decide ((1:Int)<=p.funs.length)&&decide ((p.funs.length:Int)<=p.nodes.length)):=by simp[inR]
 simp only[aAd,dV,aAa,e1];cases hn:p.nodes.all (eN p)with
 |true=>rw[key hn];simp only[bRl,Bool.and_assoc];ac_rfl
 |false=>rw[none_ hn];simp
end Go.Abs
namespace Go.Proofs.YtmnchlhngpdffaaGreat
open Go.Abs Go.Proofs Tryz
set_option maxRecDepth 100000
set_option maxHeartbeats 4000000
variable {t:Nat}{v:Val}
theorem aQj :dA .eql .iface (.ifc t v) .nili=some (.bool false):=(rfl)
theorem bEb :dA .eql .iface .nili .nili=some (.bool true):=(rfl)
theorem qT (op:Int):PC L 305 [.i op] (aAc op):=by
 have hL:=at_ func305
 conv at hL=>rhs;reduce
 refine aI hL rfl rfl ?_
 simp only[go_sem,kK]
 repeat' ((first|with_reducible refine aG (fun h=>?_) (fun h=>?_)|with_reducible refine aJ (fun h=>?_) (fun h=>?_))<;>(try simp only[bTe,bTf]at h)<;>try simp only[go_sem,kK,h])
 all_goals simp[aAc, *]
theorem aEj (c:Int)(p:aF)(n:aM):PC L 394 [.i c,.agg p.cs,.agg [.i n.op,.i n.n,.fz (n.kids.map (.int .i64)),.fz (n.pats.map Pat.enc)]] (.bool (decide ((n.kids.length:Int)=c))):=by
 have hL:=at_ func394
 conv at hL=>rhs;reduce
 refine aI hL rfl rfl ?_
 simp only[go_sem,kK]
theorem aBy (p:aF)(n:aM)(hn:n.pats.length<=1000):PC L 393 [.agg [],.agg p.cs,.agg [.i n.op,.i n.n,.fz (n.kids.map (.int .i64)),.fz (n.pats.map Pat.enc)]] (.bool (inR n.pats.length 1 5&&decide ((n.kids.length:Int)=1+n.pats.length))):=by
 have e:IntKind.i64.wrap (1+(n.pats.length:Int))=1+n.pats.length:=aW (by omega)
 have hL:=at_ func393
 conv at hL=>rhs;reduce
 refine aI hL rfl rfl ?_
 simp only[go_sem,kK,(mK _ _ _).ret]
 refine aJ (fun h=>?_) (fun h=>?_)<;>simp only[go_sem,kK,h,e]<;>simp[h]
theorem aEk (p:aF)(n:aM)(hc:Few p.cons.length):PC L 395 [.agg [],.agg p.cs,.agg [.i n.op,.i n.n,.fz (n.kids.map (.int .i64)),.fz (n.pats.map Pat.enc)]] (.bool (inR n.n 0 (p.cons.length-1)&&decide ((n.kids.length:Int)=(p.cons.getD n.n.toNat default).args))):=by
 have hL:=at_ func395
 conv at hL=>rhs;reduce
 refine aI hL rfl rfl ?_
 simp only[go_sem,kK,(mK _ _ _).ret,dX hc]
 refine aJ (fun h=>?_) (fun h=>?_)<;>simp only[go_sem,kK,h,aHm]<;>simp[h]
def aV2 (p:aF)(n:aM):Bool:=if n.op=14 then true else oL p n
theorem aAe (p:aF)(n:aM)(hp:p.few):PC L 309 [.agg p.cs,.agg [.i n.op,.i n.n,.fz (n.kids.map (.int .i64)),.fz (n.pats.map Pat.enc)]] (.bool (aV2 p n)):=by
 have e1:IntKind.i64.wrap (0-(p.funs.length:Int))= -(p.funs.length:Int):=by have:=hp.funs;unfold Few at this;rw[aW (by omega)];omega
 have hL:=at_ func309
 conv at hL=>rhs;reduce
 refine aI hL rfl rfl ?_
 simp only[go_sem,kK]
 repeat' ((first|with_reducible refine aG (fun h=>?_) (fun h=>?_)|with_reducible refine aJ (fun h=>?_) (fun h=>?_))<;>(try simp only[bTe,bTf]at h)<;>try simp only[go_sem,kK,h,e1,(mK _ _ _).ret,(aA0 _).ret])
 all_goals simp[aV2,oL, *]
theorem yU (p:aF)(hc:Few p.cons.length)(q:Pat)(hq:q.few):PC L 306 [.agg [.i q.form,.i q.n,.str q.text,.fz (q.parts.map Pat.enc)],.fp p.cells 0] (.bool (nL p.cons q)):=by
 have hL:=at_ func306
 conv at hL=>rhs;reduce
 refine aI hL rfl rfl ?_
 simp only[go_sem,kK,(aQg q hq 12 (by omega) (by omega)).ret,bBu]
 refine aJ (fun h=>?_) (fun h=>?_)<;>simp only[go_sem,kK,h,(aDj p hc q hq).ret]<;>simp at h<;>simp[nL,h]
 intros;omega
theorem aBz (p:aF)(n:aM)(hp:p.few)(hn:n.few)(hm:n.pats.length<=1000):PC L 249 [.agg p.cs,.agg [.i n.op,.i n.n,.fz (n.kids.map (.int .i64)),.fz (n.pats.map Pat.enc)]] (.bool (eN p n)):=by
 have ask:eH L (fun x:Pat=> .agg [.i x.form,.i x.n,.str x.text,.fz (x.parts.map Pat.enc)]) (.fn 306 [] [.fp p.cells 0]) (nL p.cons) n.pats:=by
  refine⟨fun n en hn=>?_,rfl,rfl,rfl,fun x hx en K hK=>?_⟩
  ·obtain⟨m,rfl⟩: ∃m,n=m+4:=⟨n-4,by omega⟩
   simp only[go_sem]
  ·have:=yU p hp.cons x (hn.pat x hx);simp only[go_sem]at this;simp only[go_sem,this.ret];exact hK
 have hev:=oM n.pats _ _ hn.pats ask;simp only[go_sem]at hev;have hnum:=aAe p n hp;have hL:=at_ func249
 conv at hL=>rhs;reduce
 refine aI hL rfl rfl ?_
 rcases aNd n.op with⟨c,hk,hko,h14,h15⟩|⟨h14,hk⟩|⟨h15,hk⟩|⟨hk,hko,h14,h15⟩
 ·simp only[go_sem,kK,(qT _).ret,hk,aQj]
  refine aG (fun h=>?_) (fun h=>?_)
  ·simp only[go_sem,kK]
   simp at h
   simp[eN,mG,h15];intros;simp_all
  ·simp only[go_sem,kK,(aEj c p n).ret]
   simp at h
   refine aJ (fun h2=>?_) (fun h2=>?_)
   ·simp only[go_sem,kK,h2,hnum.ret]
    refine aJ (fun h3=>?_) (fun h3=>?_)
    ·simp only[go_sem,kK,h3,hev.ret];simp[aV2,h14]at h2 h3;simp[eN,mG,h15,h,hko,h2,h3]
    ·simp only[go_sem,kK,h3];simp[aV2,h14]at h3;simp[eN,h3]
   ·simp only[go_sem,kK,h2]
    simp at h2
    simp[eN,hko,h2]
 ·simp only[go_sem,kK,(qT _).ret,hk,aQj]
  refine aG (fun h=>?_) (fun h=>?_)
  ·simp only[go_sem,kK]
   simp at h
   simp[eN,mG,h14];intros;simp_all
  ·simp only[go_sem,kK,(aEk p n hp.cons).ret]
   simp at h
   refine aJ (fun h2=>?_) (fun h2=>?_)
   ·simp only[go_sem,kK,h2,hnum.ret]
    refine aJ (fun h3=>?_) (fun h3=>?_)
    ·simp only[go_sem,kK,h3,hev.ret]
     simp at h2
     simp[eN,mG,oL,fK,pN,h14,h,h2]
    ·simp only[go_sem,kK,h3];simp[aV2,h14]at h3
   ·simp only[go_sem,kK,h2]
    simp at h2
    simp[eN,mG,oL,fK,pN,h14,h];intros;simp_all
 ·simp only[go_sem,kK,(qT _).ret,hk,aQj];simp only[go_sem,kK,(aBy p n hm).ret]
  refine aJ (fun h2=>?_) (fun h2=>?_)
  ·simp only[go_sem,kK,h2,hnum.ret]
   refine aJ (fun h3=>?_) (fun h3=>?_)
   ·simp only[go_sem,kK,h3,hev.ret];simp[aV2,h15]at h2 h3;simp[eN,mG,fK,h15,h2,h3]
   ·simp only[go_sem,kK,h3];simp[aV2,h15]at h3;simp[eN,h3]
  ·simp only[go_sem,kK,h2]
   simp at h2
   simp[eN,mG,fK,h15];intros;simp_all
 ·simp only[go_sem,kK,(qT _).ret,hk,bEb];simp[eN,hko]
theorem aLl (l:List ByteArray)(hl:Few l.length):PC L 245 [.fz (l.map .str)] (.bool (nA [] l)):=by
 have hL:=at_ func245
 conv at hL=>rhs;reduce
 refine aI hL rfl rfl ?_
 simp only[go_sem,kK]
 refine bQ l.length (fun k st=> ∃fr en cnt ks vs,st=⟨fr,en,cnt⟩/\ fr 0= .fz (l.map .str)/\ fr 3= .mp ⟨0,6,0⟩/\ fr 7= .fz (l.map .str)/\ fr 8= .i l.length/\ fr 9= .i k/\ en ⟨0,6,0⟩=some (.map (List.map Val.str ks) vs false)/\ (l.drop k).foldl xR ks=l.foldl xR []) 0 (bPx _) ⟨_,_,_,[],[],rfl,by simp only[go_sem],by simp only[go_sem],by simp only[go_sem],by simp only[go_sem],by simp only[go_sem],by simp only[go_sem],rfl⟩ ?_
 rintro k st hk ⟨fr,en,cnt,ks,vs,rfl,h0,h3,h7,h8,h9,e6,hI⟩
 simp only[go_sem,kK,h8,h9]
 refine aG (fun hq=>?_) (fun hq=>?_)
 ·have h':k<l.length:=D_o hq;rw[bQu h',bR2,xR]at hI;rcases aIp l[k] ks with⟨i,f1,f2,f3⟩|⟨f1,f2⟩
  ·rw[f2]at hI;simp only[go_sem,h',h3,h7,h9,e6,f1,f3]
   refine⟨_,_,_,ks,vs.set i (.bool true),rfl,?_⟩
   simp only[go_sem,h0,h3,h7,h8,aT h' hl]
   simpa using hI
  ·rw[f2]at hI;simp only[go_sem,h',h3,h7,h9,e6,f1]
   refine⟨_,_,_,ks++[l[k]],vs++[.bool true],rfl,?_⟩
   simp only[go_sem,h0,h3,h7,h8,aT h' hl]
   refine⟨by simp,?_⟩
   simpa using hI
 ·have:k=l.length:=by simp at hq;omega
  subst this;simp only[bRf,bR7]at hI;simp only[go_sem,h0,h3,e6];have:=aFv l [];rw[<-this,<-hI];simp
variable {en:En}{size:Nat}{xs:List Val}
theorem aTg {D:List Nat}(h:cP en v size xs D): ∃r ks,snapD 8 en v=some (r,ks)/\ r.wk= .fz xs/\ r.wk1= .fz xs:=by
 obtain⟨r,ks,h1,_,h2,h3,_⟩:=h.snap 7;exact⟨r,ks,h1,h3,h2⟩
theorem aLm (l:List cS)(hl:l.length<=1000):PC L 246 [.fz (l.map cS.enc),.fn 247 [] []] (.fz (l.map fun c=> .str c.name)):=by
 have hf:Few l.length:=by unfold Few;omega
 have hL:=at_ func246
 conv at hL=>rhs;reduce
 refine aI hL rfl rfl ?_
 simp only[go_sem,kK]
 refine bQ l.length (fun k st=> ∃fr en cnt,st=⟨fr,en,cnt⟩/\ fr 1= .fn 247 [] []/\ fr 8= .fz (l.map cS.enc)/\ fr 9= .i l.length/\ fr 10= .i k/\ cP en (fr 5) 1 ((l.take k).map fun c=> .str c.name) [19]) 0 (bPx _) ⟨_,_,_,rfl,by simp only[go_sem],by simp only[go_sem],by simp only[go_sem],by simp only[go_sem],by simp only[go_sem];exact cP.nil _ _⟩ ?_
 rintro k st hk ⟨fr,en,cnt,rfl,h1,h8,h9,h10,h5⟩
 simp only[go_sem,kK,h9,h10]
 refine aG (fun hq=>?_) (fun hq=>?_)
 ·have h':k<l.length:=D_o hq;simp only[go_sem,h',h1,h8,h10,(wI _).ret]
  refine kQ (D:=[19]) (xs:=(l.take k).map fun c=>Val.str c.name) (ys:=[.str l[k].name]) (rs:=[]) ?_ ?_ ?_ ?_ ?_
  ·simp only[go_sem];exact h5.keep fun t g ht=>by simp at ht;subst ht;simp only[go_sem]
  ·simp only[go_sem]
  ·rfl
  ·simp;omega
  ·intro v en' cnt' hown hen hcnt;simp only[go_sem,h10]
   refine⟨_,_,_,rfl,?_⟩
   simp only[go_sem,h1,h8,h9,aT h' hf];exact cP.sub (by rw[gZ h',bQs];exact hown) (by simp)
 ·have:k=l.length:=by simp at hq;omega
  subst this;rw[bQ6]at h5;simp only[go_sem];obtain⟨r,ks,e1,e2,_⟩:=aTg h5;simp only[go_sem,e1,e2]
variable {n:Nat}
theorem aTh {u:List Int}{x:Int}(hu:u.length=n)(h:inR x 0 ((n:Int)-1)=true):0<=x/\ x<(n:Int)/\ (u.map (Val.int .i64))[x.toNat]?=some (.i (u.getD x.toNat 0)):=by
 simp only[inR,bTe]at h;have hx:x.toNat<u.length:=by omega
 exact⟨by omega,by omega,by simp[bPu,hx]⟩
theorem aAf (p:aF)(hp:p.few)(hs:p.cons.length<=1000)(hm: ∀n∈p.nodes,n.pats.length<=1000):PC L 211 [.agg p.cs] (.bool (aAd p)):=by
 have w1:=dX hp.nodes;have w2:=dX hp.funs;have ask1:eH L (fun x:cS=> .agg [.str x.name,.i x.args]) (.fn 244 [] []) wU p.cons:=by
  refine⟨fun n en hn=>?_,rfl,rfl,rfl,fun x hx en K hK=>?_⟩
  ·obtain⟨m,rfl⟩: ∃m,n=m+4:=⟨n-4,by omega⟩
   simp only[go_sem]
  ·simp only[go_sem,(aTe x).ret];exact hK
 have ask2:eH L (fun x:aM=> .agg [.i x.op,.i x.n,.fz (x.kids.map (.int .i64)),.fz (x.pats.map Pat.enc)]) (.fn 249 [.agg p.cs] []) (eN p) p.nodes:=by
  refine⟨fun n en hn=>?_,rfl,rfl,rfl,fun x hx en K hK=>?_⟩
  ·obtain⟨m,rfl⟩: ∃m,n=m+4:=⟨n-4,by omega⟩
   simp only[go_sem]
  ·simp only[go_sem,(aBz p x hp (hp.node x hx) (hm x hx)).ret];exact hK
 have hd:=aLl (p.cons.map cS.name) (by simpa using hp.cons)
 rw[show(p.cons.map cS.name).map Val.str=p.cons.map fun c=>Val.str c.name by simp]at hd
 have hL:=at_ func211
 conv at hL=>rhs;reduce
 refine aI hL rfl rfl ?_
 simp only[go_sem,kK]
 repeat' ((first|with_reducible refine aG (fun h=>?_) (fun h=>?_)|with_reducible refine aJ (fun h=>?_) (fun h=>?_))<;>(try simp only[bTe,bTf,bP8]at h)<;>try simp only[go_sem,kK, *,(mK _ _ _).ret,(wH _ _ _ hp.cons ask1).ret,(aLm _ hs).ret,hd.ret,(vE _ _ _ hp.nodes ask2).ret])
 all_goals (try simp only[bQ2,Bool.not_eq_false',Int.not_lt]at*)
 all_goals try(simp[aAd, *];done)
 all_goals try(simp[aAd, *];intros;omega)
 have hn:p.nodes.length<=16777216:=by omega
 have hfo:aAd p=aBx ((vF 0 (p.nodes.length-1) (List.replicate p.nodes.length 0) p.funs).bind fun u=>lB p 0 u p.nodes):=by
  simp[aAd, *];intros;omega
 rw[hfo];clear hfo;simp only[go_sem,bBg hn]
 refine bQ p.funs.length (fun k st=> ∃fr en cnt u,st=⟨fr,en,cnt⟩/\ (fr 1= .ptr ⟨0,1,0⟩ 0/\ en ⟨0,1,0⟩=some (.box p.cells false)/\ fr 3= .i p.nodes.length/\ fr 4= .bl ⟨0,74,0⟩ 0 p.nodes.length/\ en ⟨0,74,0⟩=some (.blk 1 (u.map (Val.int .i64)) false)/\ u.length=p.nodes.length)/\ fr 77= .is p.funs/\ fr 78= .i p.funs.length/\ fr 79= .i k/\ vF 0 (p.nodes.length-1) u (p.funs.drop k)=vF 0 (p.nodes.length-1) (List.replicate p.nodes.length 0) p.funs) 0 (bPx _) ⟨_,_,_,List.replicate p.nodes.length 0,rfl,⟨by simp only[go_sem],by simp only[go_sem],by simp only[go_sem],by simp only[go_sem],by simp only[go_sem,List.map_replicate],by simp⟩,by simp only[go_sem],by simp only[go_sem],by simp only[go_sem],rfl⟩ ?_
 rintro k st hk ⟨fr,en,cnt,u,rfl,⟨h1,e1,h3,h4,eu,hu⟩,h77,h78,h79,hI⟩
 simp only[go_sem,kK,h78,h79]
 refine aG (fun hq=>?_) (fun hq=>?_)
 ·have h':k<p.funs.length:=D_o hq;rw[bQu h',vF]at hI;simp only[go_sem,kK,h',h3,h77,h79,(mK _ _ _).ret,w1]
  refine aG (fun hb=>?_) (fun hb=>?_)
  ·simp only[go_sem,kK]
   simp at hb
   rw[hb]at hI
   simp at hI
   rw[<-hI];rfl
  ·simp at hb
   obtain⟨a1,a2,a3⟩:=aTh hu hb;rw[hb]at hI
   simp at hI
   simp only[go_sem,h4,eu,h79,a1,a2,a3]
   refine⟨_,_,_,u.set p.funs[k].toNat (IntKind.i64.wrap (u.getD p.funs[k].toNat 0+1)),rfl,?_⟩
   simp only[go_sem,h1,e1,h3,h4,h77,h78,<-bR4,aT h' hp.funs];exact⟨by simp[hu],by simpa using hI⟩
 ·have:k=p.funs.length:=by simp at hq;omega
  subst this;rw[bRf,vF]at hI;rw[<-hI];simp only[bSl];clear hq hI hk;generalize hM:lB p 0 u p.nodes=M;simp only[go_sem,h1,e1]
  refine bQ p.nodes.length (fun k st=> ∃fr en cnt u,st=⟨fr,en,cnt⟩/\ (fr 1= .ptr ⟨0,1,0⟩ 0/\ en ⟨0,1,0⟩=some (.box p.cells false)/\ fr 3= .i p.nodes.length/\ fr 4= .bl ⟨0,74,0⟩ 0 p.nodes.length/\ en ⟨0,74,0⟩=some (.blk 1 (u.map (Val.int .i64)) false)/\ u.length=p.nodes.length)/\ fr 97= .fz (p.nodes.map aM.enc)/\ fr 98= .i p.nodes.length/\ fr 99= .i k/\ lB p k u (p.nodes.drop k)=M) 0 (bPx _) ⟨_,_,_,u,rfl,⟨by simp only[go_sem,h1],by simp only[go_sem,e1],by simp only[go_sem,h3],by simp only[go_sem,h4],by simp only[go_sem,eu],hu⟩,by simp only[go_sem],by simp only[go_sem],by simp only[go_sem],hM⟩ ?_
  clear hM h1 e1 h3 h4 eu hu h77 h78 h79
  rintro k st hk ⟨fr,en,cnt,u,rfl,⟨h1,e1,h3,h4,eu,hu⟩,h97,h98,h99,hI⟩
  simp only[go_sem,kK,h98,h99]
  refine aG (fun hq=>?_) (fun hq=>?_)
  ·have h':k<p.nodes.length:=D_o hq;have hx:=hp.node p.nodes[k] (bPz _);rw[bQu h',lB]at hI;generalize hmm:vF ((k:Int)+1) (p.nodes.length-1) u p.nodes[k].kids=m at hI;simp only[go_sem,h',h97,h99]
   refine bQ p.nodes[k].kids.length (fun j st=> ∃fr en cnt u,st=⟨fr,en,cnt⟩/\ (fr 1= .ptr ⟨0,1,0⟩ 0/\ en ⟨0,1,0⟩=some (.box p.cells false)/\ fr 3= .i p.nodes.length/\ fr 4= .bl ⟨0,74,0⟩ 0 p.nodes.length/\ en ⟨0,74,0⟩=some (.blk 1 (u.map (Val.int .i64)) false)/\ u.length=p.nodes.length)/\ fr 7= .i k/\ fr 97= .fz (p.nodes.map aM.enc)/\ fr 98= .i p.nodes.length/\ fr 99= .i k/\ fr 105= .is p.nodes[k].kids/\ fr 106= .i p.nodes[k].kids.length/\ fr 107= .i j/\ vF ((k:Int)+1) (p.nodes.length-1) u (p.nodes[k].kids.drop j)=m) 0 (bPx _) ⟨_,_,_,u,rfl,⟨by simp only[go_sem,h1],by simp only[go_sem,e1],by simp only[go_sem,h3],by simp only[go_sem,h4],by simp only[go_sem,eu],hu⟩,by simp only[go_sem],by simp only[go_sem,h97],by simp only[go_sem,h98],by simp only[go_sem,h99],by simp only[go_sem],by simp only[go_sem],by simp only[go_sem],hmm⟩ ?_
   clear hmm h1 e1 h3 h4 eu hu h97 h98 h99
   rintro j st hj ⟨fr,en,cnt,u,rfl,⟨h1,e1,h3,h4,eu,hu⟩,h7,h97,h98,h99,h105,h106,h107,hJ⟩
   simp only[go_sem,kK,h106,h107]
   refine aG (fun h2=>?_) (fun h2=>?_)
   ·have h2':j<p.nodes[k].kids.length:=D_o h2;rw[bQu h2',vF]at hJ;have w3:IntKind.i64.wrap ((k:Int)+1)=(k:Int)+1:=aW (by omega)
    simp only[go_sem,kK,h2',h3,h7,h105,h107,(mK _ _ _).ret,w1,w3]
    refine aG (fun hc=>?_) (fun hc=>?_)
    ·simp only[go_sem,kK]
     simp at hc
     rw[hc]at hJ
     simp at hJ
     rw[<-hI,<-hJ];rfl
    ·simp at hc
     have hc0:inR p.nodes[k].kids[j] 0 ((p.nodes.length:Int)-1)=true:=by simp[inR]at hc⊢;omega
     obtain⟨a1,a2,a3⟩:=aTh hu hc0;rw[hc]at hJ
     simp at hJ
     simp only[go_sem,h4,eu,h107,a1,a2,a3]
     refine⟨_,_,_,u.set p.nodes[k].kids[j].toNat (IntKind.i64.wrap (u.getD p.nodes[k].kids[j].toNat 0+1)),rfl,?_⟩
     simp only[go_sem,h1,e1,h3,h4,h7,h97,h98,h99,h105,h106,<-bR4,aT h2' hx.kids];exact⟨by simp[hu],by simpa using hJ⟩
   ·have:j=p.nodes[k].kids.length:=by simp at h2;omega
    subst this;rw[bRf,vF]at hJ;rw[<-hJ]at hI;simp only[bSl]at hI;simp only[go_sem,h4,eu,h99]
    refine⟨_,_,_,u,rfl,?_⟩
    simp only[go_sem,h1,e1,h3,h4,eu,h97,h98,hu,aT h' hp.nodes];exact hI
  ·have:k=p.nodes.length:=by simp at hq;omega
   subst this;rw[bRf,lB]at hI;rw[<-hI];have ask3:eH L (fun x:Int=> .i x) (.fn 251 [] []) (fun c=>decide (c=1)) u:=by
    refine⟨fun n en hn=>?_,rfl,rfl,rfl,fun x hx en K hK=>?_⟩
    ·obtain⟨m,rfl⟩: ∃m,n=m+4:=⟨n-4,by omega⟩
     simp only[go_sem]
    ·simp only[go_sem,(wJ x).ret];exact hK
   have ht:List.take p.nodes.length (u.map (Val.int .i64))=u.map (Val.int .i64):=bQa (by simp[hu])
   simp only[go_sem,h4,eu,hu,bPq,ht,(aFz u _ _ (by rw[hu];exact hp.nodes) ask3).ret]
   rfl
theorem xT (p:aF)(hp:p.few)(hs:aR p=true):PC L 166 [.agg p.cs] (.i (if dV p then 0 else 2)):=by
 have hs':=hs;simp only[aR,bPp,bTe]at hs';obtain⟨⟨⟨⟨h1,h2⟩,h3⟩,h4⟩,h5⟩:=hs';have hm: ∀n∈p.nodes,n.pats.length<=1000:=by
  intro n hn;have:=bPv.1 h5 n hn;simp only[gE,bPp,bTe]at this;omega
 have h:=aAf p hp (by omega) hm
 rw[aTf p hs]at h;have hL:=at_ func166
 conv at hL=>rhs;reduce
 refine aI hL rfl rfl ?_
 simp only[go_sem,kK,h.ret];cases hf:dV p<;>simp only[go_sem,kK,bP3,bP8]
def aF1 (out:List Int)(v:aD):List Int:=if(aIr v&&!out.any (fun x=>decide (x=v.n)))=true then out++[v.n]else out
def aIt (out:List Int)(l:List aD):List Int:=l.foldl aF1 out
def bBw (o:aQ):List Int:=o.frames.foldl (fun out f=>aIt (aIt out f.env) f.vals) (aIt [] o.vals)
theorem aOj {o:aQ}(hs:iJ o=true):o.vals.length<=40/\ o.frames.length<=50/\ ∀f∈o.frames,f.env.length<=40/\ f.vals.length<=40:=by
 simp only[iJ,bPp,bTe,bPv]at hs
 refine⟨by omega,by omega,fun f hf=>?_⟩
 have:=hs.2 f hf;omega
theorem aQk (out:List Int)(v:aD)(x:Int):x∈aF1 out v↔x∈out \/(aIr v=true/\ x=v.n):=by
 unfold aF1;split
 ·rename_i h;simp only[bPp]at h;simp[h.1]
 ·rename_i h;constructor
  ·exact .inl
  ·rintro(h2|⟨h2,rfl⟩)
   ·exact h2
   ·rw[h2,bQn]at h;simp only[bQ2,Bool.not_eq_false]at h;obtain⟨y,hy,e⟩:=bSn.1 h;rw[<-D_o e];exact hy
theorem aC3 (x:Int): ∀(l:List aD) (out:List Int),x∈aIt out l↔x∈out \/x∈mJ l
 |[],out=>by simp[aIt,mJ]
 |v::l,out=>by
  have:=aC3 x l (aF1 out v);simp only[aIt,bR2]at this⊢;rw[this,aQk]
  by_cases h:aIr v=true
  ·rw[aYw h];simp[h,or_assoc]
  ·rw[aYx (by simpa using h)];simp[h]
theorem aLn (x:Int): ∀(l:List aB) (out:List Int),x∈l.foldl (fun out f=>aIt (aIt out f.env) f.vals) out↔x∈out \/x∈l.flatMap yT
 |[],out=>by simp
 |f::l,out=>by
  simp only[bR2];rw[aLn x l,aC3,aC3];simp[yT,or_assoc]
theorem aTi (o:aQ)(x:Int):x∈bBw o↔x∈vD o:=by
 unfold bBw vD;rw[aLn,aC3];simp
variable {p:aF}{w:aA}
theorem aQl {l:List aD}{m:Int}(h:bA p w l m=true): ∀x∈mJ l,inR x 0 (w.objs.length-1)=true:=by
 intro x hx;simp only[bA,bPp,bPv]at h;simp only[mJ,bQk,bRa]at hx;obtain⟨v,⟨hv,hr⟩,rfl⟩:=hx;have h5:v.kind=5:=D_o hr;have:=h.2 v hv
 simpa[dM,h5]using this
theorem aY0 {l:List aB}(h:bU p w l=true): ∀x∈l.flatMap yT,inR x 0 (w.objs.length-1)=true:=by
 intro x hx;simp only[bU,bPp,bPv]at h;obtain⟨f,hf,hx⟩:=bQ3.1 hx;have hk:=h.2 f hf;simp only[dI,bPp]at hk;rcases bQe.1 hx with hx|hx
 ·exact aQl hk.1.2 x hx
 ·exact aQl hk.2 x hx
theorem bBx {α:Type}{l:List α}(h:(l.length:Int)=0):l=[]:=by
 cases l with
 |nil=>rfl
 |cons a l=>simp at h;omega
theorem bHu {o:aQ}(h:dQ p w o=true): ∀x∈vD o,inR x 0 (w.objs.length-1)=true:=by
 have key:(∃m,bA p w o.vals m=true \/o.vals=[])/\ (bU p w o.frames=true \/o.frames=[]):=by
  unfold dQ at h
  split at h
  ·unfold kG at h
   split at h
   ·simp only[bPp]at h;exact⟨⟨1,.inl h.1.1.2⟩,.inl h.1.1.1⟩
   split at h
   ·simp only[bPp,bTe]at h;exact⟨⟨1,.inl h.2⟩,.inr (bBx h.1.1)⟩
   split at h
   ·simp only[bPp,bTe]at h;exact⟨⟨1,.inr (bBx h.2)⟩,.inr (bBx h.1)⟩
   ·cases h
  split at h
  ·simp only[bPp,bTe]at h;exact⟨⟨1,.inr (bBx h.1.1.1.1.2)⟩,.inl h.1.1.2⟩
  split at h
  ·cases h
  rename_i hf;have hf0:o.frames=[]:=bBx (Classical.not_not.1 hf)
  split at h
  ·simp only[bPp]at h;exact⟨⟨_,.inl h.2⟩,.inr hf0⟩
  split at h
  ·simp only[bPp]at h;exact⟨⟨_,.inl h.2⟩,.inr hf0⟩
  split at h
  ·simp only[bPp]at h;exact⟨⟨_,.inl h.2⟩,.inr hf0⟩
  split at h
  ·simp only[bPp]at h;exact⟨⟨_,.inl h.2⟩,.inr hf0⟩
  ·cases h
 obtain⟨⟨m,hv⟩,hfr⟩:=key;intro x hx;rcases bQe.1 hx with hx|hx
 ·rcases hv with hv|hv
  ·exact aQl hv x hx
  ·rw[hv]at hx;simp[mJ]at hx
 ·rcases hfr with hfr|hfr
  ·exact aY0 hfr x hx
  ·rw[hfr]at hx;simp at hx
theorem bBy (h:cX p w=true): ∀o∈w.objs,∀x∈vD o,inR x 0 (w.objs.length-1)=true:=by
 intro o ho;simp only[cX,bPp,bPv]at h;exact bHu (h.1.2 o ho)
theorem aOk {k:Nat}(h:k<w.objs.length):w.obj k=w.objs[k]:=by simp[aA.obj,bPu,h]
theorem bBz (h:bY p w=true): ∀o∈w.objs,∀x∈bBw o,inR x 0 (w.objs.length-1)=true:=by
 intro o ho x hx;simp only[bY,bPp]at h;exact bBy h.2 o ho x ((aTi o x).1 hx)
theorem aLo (h:bW w=true): ∀o∈w.objs,iJ o=true:=by
 intro o ho;simp only[bW,bPp,bPv]at h;exact h.2 o ho
theorem aEl (l:List Int)(h:Val)(p:Int->Bool)(hc:eH L (fun x:Int=> .i x) h p l)(x:Int)(hx:x∈l):
  PC L 319 [.i x,.fp [h] 0] (.bool (!p x)):=by
 have hL:=at_ func319
 conv at hL=>rhs;reduce
 refine aI hL rfl rfl ?_
 simp only[go_sem,kK]
 refine hc.call x hx _ _ ?_
 simp only[go_sem]
theorem aA1 (l:List Int)(h:Val)(p:Int->Bool)(hl:Few l.length)(hc:eH L (fun x:Int=> .i x) h p l):
  PC L 258 [.fz (l.map (.int .i64)),h] (.bool (l.all p)):=by
 have hd:eH L (fun x:Int=> .i x) (.fn 319 [] [.fp [h] 0]) (fun x=>!p x) l:=by
  refine⟨fun n en hn=>?_,rfl,rfl,rfl,fun x hx en K hK=>?_⟩
  ·obtain⟨m,rfl⟩: ∃m,n=m+4:=⟨n-4,by omega⟩
   simp only[go_sem]
  ·simp only[go_sem,(aEl l h p hc x hx).ret];exact hK
 have hL:=at_ func258
 conv at hL=>rhs;reduce
 refine aI hL rfl rfl ?_
 simp only[go_sem,kK,mE hc.one hc.cells,hc.snap,(aTd l _ _ hl hd).ret];rw[<-bSb,bSc]
theorem aY1 (l:List aD)(h:Val)(p:aD->Bool)(hl:Few l.length)(hc:eH L (fun x:aD=> .agg [.i x.kind,.i x.n]) h p l):
  PC L 314 [.fz (l.map aD.enc),h] (.bool (l.any p)):=by
 refine aLi (sz:=2) (f0:=355) ?_ ?_ (fun _=>rfl) (fun _=>rfl) l h p hl hc
 ·have hL:=at_ func314
  conv at hL=>rhs;reduce
  exact hL
 ·have hL:=at_ func355
  conv at hL=>rhs;reduce
  exact hL
theorem vG (l:List aD)(h:Val)(p:aD->Bool)(hc:eH L (fun x:aD=> .agg [.i x.kind,.i x.n]) h p l)(x:aD)(hx:x∈l):
  PC L 315 [.agg [.i x.kind,.i x.n],.fp [h] 0] (.bool (!p x)):=by
 have hL:=at_ func315
 conv at hL=>rhs;reduce
 refine aI hL rfl rfl ?_
 simp only[go_sem,kK]
 refine hc.call x hx _ _ ?_
 simp only[go_sem]
theorem lQ (l:List aD)(h:Val)(p:aD->Bool)(hl:Few l.length)(hc:eH L (fun x:aD=> .agg [.i x.kind,.i x.n]) h p l):
  PC L 254 [.fz (l.map aD.enc),h] (.bool (l.all p)):=by
 have hd:eH L (fun x:aD=> .agg [.i x.kind,.i x.n]) (.fn 315 [] [.fp [h] 0]) (fun x=>!p x) l:=by
  refine⟨fun n en hn=>?_,rfl,rfl,rfl,fun x hx en K hK=>?_⟩
  ·obtain⟨m,rfl⟩: ∃m,n=m+4:=⟨n-4,by omega⟩
   simp only[go_sem]
  ·simp only[go_sem,(vG l h p hc x hx).ret];exact hK
 have hL:=at_ func254
 conv at hL=>rhs;reduce
 refine aI hL rfl rfl ?_
 simp only[go_sem,kK,mE hc.one hc.cells,hc.snap,(aY1 l _ _ hl hd).ret];rw[<-bSb,bSc]
theorem aTj (l:List aB)(h:Val)(p:aB->Bool)(hl:Few l.length)(hc:eH L (fun x:aB=> .agg [.i x.node,.fz (x.env.map aD.enc),.fz (x.vals.map aD.enc)]) h p l):
  PC L 356 [.fz (l.map aB.enc),h] (.bool (l.any p)):=by
 refine aLi (sz:=3) (f0:=363) ?_ ?_ (fun _=>rfl) (fun _=>rfl) l h p hl hc
 ·have hL:=at_ func356
  conv at hL=>rhs;reduce
  exact hL
 ·have hL:=at_ func363
  conv at hL=>rhs;reduce
  exact hL
theorem tC (l:List aB)(h:Val)(p:aB->Bool)(hc:eH L (fun x:aB=> .agg [.i x.node,.fz (x.env.map aD.enc),.fz (x.vals.map aD.enc)]) h p l)(x:aB)(hx:x∈l):
  PC L 357 [.agg [.i x.node,.fz (x.env.map aD.enc),.fz (x.vals.map aD.enc)],.fp [h] 0] (.bool (!p x)):=by
 have hL:=at_ func357
 conv at hL=>rhs;reduce
 refine aI hL rfl rfl ?_
 simp only[go_sem,kK]
 refine hc.call x hx _ _ ?_
 simp only[go_sem]
theorem oN (l:List aB)(h:Val)(p:aB->Bool)(hl:Few l.length)(hc:eH L (fun x:aB=> .agg [.i x.node,.fz (x.env.map aD.enc),.fz (x.vals.map aD.enc)]) h p l):
  PC L 316 [.fz (l.map aB.enc),h] (.bool (l.all p)):=by
 have hd:eH L (fun x:aB=> .agg [.i x.node,.fz (x.env.map aD.enc),.fz (x.vals.map aD.enc)]) (.fn 357 [] [.fp [h] 0]) (fun x=>!p x) l:=by
  refine⟨fun n en hn=>?_,rfl,rfl,rfl,fun x hx en K hK=>?_⟩
  ·obtain⟨m,rfl⟩: ∃m,n=m+4:=⟨n-4,by omega⟩
   simp only[go_sem]
  ·simp only[go_sem,(tC l h p hc x hx).ret];exact hK
 have hL:=at_ func316
 conv at hL=>rhs;reduce
 refine aI hL rfl rfl ?_
 simp only[go_sem,kK,mE hc.one hc.cells,hc.snap,(aTj l _ _ hl hd).ret];rw[<-bSb,bSc]
theorem aY2 (l:List aQ)(h:Val)(p:aQ->Bool)(hl:Few l.length)(hc:eH L (fun x:aQ=> .agg [.i x.form,.i x.n,.fz (x.vals.map aD.enc),.fz (x.frames.map aB.enc)]) h p l):
  PC L 252 [.fz (l.map aQ.enc),h] (.bool (l.any p)):=by
 refine aLi (sz:=4) (f0:=313) ?_ ?_ (fun _=>rfl) (fun _=>rfl) l h p hl hc
 ·have hL:=at_ func252
  conv at hL=>rhs;reduce
  exact hL
 ·have hL:=at_ func313
  conv at hL=>rhs;reduce
  exact hL
theorem vH (l:List aQ)(h:Val)(p:aQ->Bool)(hc:eH L (fun x:aQ=> .agg [.i x.form,.i x.n,.fz (x.vals.map aD.enc),.fz (x.frames.map aB.enc)]) h p l)(x:aQ)(hx:x∈l):
  PC L 253 [.agg [.i x.form,.i x.n,.fz (x.vals.map aD.enc),.fz (x.frames.map aB.enc)],.fp [h] 0] (.bool (!p x)):=by
 have hL:=at_ func253
 conv at hL=>rhs;reduce
 refine aI hL rfl rfl ?_
 simp only[go_sem,kK]
 refine hc.call x hx _ _ ?_
 simp only[go_sem]
theorem yV (l:List aQ)(h:Val)(p:aQ->Bool)(hl:Few l.length)(hc:eH L (fun x:aQ=> .agg [.i x.form,.i x.n,.fz (x.vals.map aD.enc),.fz (x.frames.map aB.enc)]) h p l):
  PC L 212 [.fz (l.map aQ.enc),h] (.bool (l.all p)):=by
 have hd:eH L (fun x:aQ=> .agg [.i x.form,.i x.n,.fz (x.vals.map aD.enc),.fz (x.frames.map aB.enc)]) (.fn 253 [] [.fp [h] 0]) (fun x=>!p x) l:=by
  refine⟨fun n en hn=>?_,rfl,rfl,rfl,fun x hx en K hK=>?_⟩
  ·obtain⟨m,rfl⟩: ∃m,n=m+4:=⟨n-4,by omega⟩
   simp only[go_sem]
  ·simp only[go_sem,(vH l h p hc x hx).ret];exact hK
 have hL:=at_ func212
 conv at hL=>rhs;reduce
 refine aI hL rfl rfl ?_
 simp only[go_sem,kK,mE hc.one hc.cells,hc.snap,(aY2 l _ _ hl hd).ret];rw[<-bSb,bSc]
theorem aY3 (l:List bJ)(h:Val)(p:bJ->Bool)(hl:Few l.length)(hc:eH L (fun x:bJ=> .agg [.i x.port,.i x.n]) h p l):
  PC L 262 [.fz (l.map bJ.enc),h] (.bool (l.any p)):=by
 refine aLi (sz:=2) (f0:=322) ?_ ?_ (fun _=>rfl) (fun _=>rfl) l h p hl hc
 ·have hL:=at_ func262
  conv at hL=>rhs;reduce
  exact hL
 ·have hL:=at_ func322
  conv at hL=>rhs;reduce
  exact hL
theorem vJ (l:List bJ)(h:Val)(p:bJ->Bool)(hc:eH L (fun x:bJ=> .agg [.i x.port,.i x.n]) h p l)(x:bJ)(hx:x∈l):
  PC L 263 [.agg [.i x.port,.i x.n],.fp [h] 0] (.bool (!p x)):=by
 have hL:=at_ func263
 conv at hL=>rhs;reduce
 refine aI hL rfl rfl ?_
 simp only[go_sem,kK]
 refine hc.call x hx _ _ ?_
 simp only[go_sem]
theorem yW (l:List bJ)(h:Val)(p:bJ->Bool)(hl:Few l.length)(hc:eH L (fun x:bJ=> .agg [.i x.port,.i x.n]) h p l):
  PC L 215 [.fz (l.map bJ.enc),h] (.bool (l.all p)):=by
 have hd:eH L (fun x:bJ=> .agg [.i x.port,.i x.n]) (.fn 263 [] [.fp [h] 0]) (fun x=>!p x) l:=by
  refine⟨fun n en hn=>?_,rfl,rfl,rfl,fun x hx en K hK=>?_⟩
  ·obtain⟨m,rfl⟩: ∃m,n=m+4:=⟨n-4,by omega⟩
   simp only[go_sem]
  ·simp only[go_sem,(vJ l h p hc x hx).ret];exact hK
 have hL:=at_ func215
 conv at hL=>rhs;reduce
 refine aI hL rfl rfl ?_
 simp only[go_sem,kK,mE hc.one hc.cells,hc.snap,(aY3 l _ _ hl hd).ret];rw[<-bSb,bSc]
theorem gV (n lo hi:Int):PC L 120 [.i n,.i lo,.i hi] (.bool (inR n lo hi)):=by
 have hL:=at_ func120
 conv at hL=>rhs;reduce
 refine aI hL rfl rfl ?_
 simp only[go_sem,qW]
 refine bB (fun h=>?_) (fun h=>?_)<;>simp only[go_sem,h]<;>simp at h<;>simp[h,inR]
 omega
theorem fW (n:Int):PC L 217 [.i n] (.bool (inR n (-1000000000) 1000000000)):=by
 have hL:=at_ func217
 conv at hL=>rhs;reduce
 refine aI hL rfl rfl ?_
 simp only[go_sem,kK,(gV _ _ _).ret]
theorem tO (n:aM):PC L 222 [.agg [.i n.op,.i n.n,.fz (n.kids.map (.int .i64)),.fz (n.pats.map Pat.enc)]] (.i n.asks):=by
 have hL:=at_ func222
 conv at hL=>rhs;reduce
 refine aI hL rfl rfl ?_
 simp only[go_sem,kK]
 repeat' ((first|with_reducible refine aG (fun h=>?_) (fun h=>?_)|with_reducible refine aJ (fun h=>?_) (fun h=>?_))<;>(try simp only[bTe,bTf]at h)<;>try simp only[go_sem,kK,h])
 all_goals simp[aM.asks, *]
theorem aB0 (p:aF)(w:aA)(v:aD)(hp:p.few)(hw:w.few):PC L 255 [.fp [.fz (p.nodes.map aM.enc),.fz (p.funs.map (.int .i64)),.i p.main,.fz (p.cons.map cS.enc),.fz (w.objs.map aQ.enc),.fz (w.tasks.map (.int .i64)),.fz (w.outs.map bJ.enc),.fz (w.ins.map (.int .i64)),.i w.used] 0,.agg [.i v.kind,.i v.n]] (.bool (dM p w v)):=by
 have hL:=at_ func255
 conv at hL=>rhs;reduce
 refine aI hL rfl rfl ?_
 simp only[go_sem,kK]
 repeat' ((first|with_reducible refine aG (fun h=>?_) (fun h=>?_)|with_reducible refine aJ (fun h=>?_) (fun h=>?_))<;>(try simp only[bTe,bTf]at h)<;>try simp only[go_sem,kK,h,(gV _ _ _).ret,(fW _).ret,dX hp.funs,dX hw.objs])
 all_goals simp[dM, *]
theorem aHq (p:aF)(w:aA)(hp:p.few)(hw:w.few)(l:List aD):eH L (fun x:aD=> .agg [.i x.kind,.i x.n]) (.fn 255 [.fp [.fz (p.nodes.map aM.enc),.fz (p.funs.map (.int .i64)),.i p.main,.fz (p.cons.map cS.enc),.fz (w.objs.map aQ.enc),.fz (w.tasks.map (.int .i64)),.fz (w.outs.map bJ.enc),.fz (w.ins.map (.int .i64)),.i w.used] 0] []) (dM p w) l:=by
 refine⟨fun n en hn=>?_,rfl,rfl,rfl,fun x hx en K hK=>?_⟩
 ·obtain⟨m,rfl⟩: ∃m,n=m+4:=⟨n-4,by omega⟩
  simp only[go_sem]
 ·simp only[go_sem,(aB0 p w x hp hw).ret];exact hK
theorem aLp (l:List Int)(hl:Few l.length):PC L 218 [.is l] (.bool (nW l 50)):=by
 have ask:eH L (fun x:Int=> .i x) (.fn 217 [] []) (fun n=>inR n (-1000000000) 1000000000) l:=by
  refine⟨fun n en hn=>?_,rfl,rfl,rfl,fun x hx en K hK=>?_⟩
  ·obtain⟨m,rfl⟩: ∃m,n=m+4:=⟨n-4,by omega⟩
   simp only[go_sem]
  ·simp only[go_sem,(fW x).ret];exact hK
 have hL:=at_ func218
 conv at hL=>rhs;reduce
 refine aI hL rfl rfl ?_
 simp only[go_sem,kK]
 refine aJ (fun h=>?_) (fun h=>?_)
 ·simp only[go_sem,kK,h,(aA1 l _ _ hl ask).ret]
  simp at h;simp[nW,h]
 ·simp only[go_sem,kK,h]
  simp at h;simp[nW];intros;omega
theorem yX (o:bJ):PC L 216 [.agg [.i o.port,.i o.n]] (.bool (wR o)):=by
 have hL:=at_ func216
 conv at hL=>rhs;reduce
 refine aI hL rfl rfl ?_
 simp only[go_sem,kK,(gV _ _ _).ret]
 refine aJ (fun h=>?_) (fun h=>?_)<;>simp only[go_sem,kK,h,(fW _).ret]<;>simp[wR,h]
theorem aB1 (p:aF)(w:aA)(f:aB)(hp:p.few)(hw:w.few)(hf:f.few):PC L 317 [.fp [.fz (p.nodes.map aM.enc),.fz (p.funs.map (.int .i64)),.i p.main,.fz (p.cons.map cS.enc),.fz (w.objs.map aQ.enc),.fz (w.tasks.map (.int .i64)),.fz (w.outs.map bJ.enc),.fz (w.ins.map (.int .i64)),.i w.used] 0,.agg [.i f.node,.fz (f.env.map aD.enc),.fz (f.vals.map aD.enc)]] (.bool (dI p w f)):=by
 have hL:=at_ func317
 conv at hL=>rhs;reduce
 refine aI hL rfl rfl ?_
 simp only[go_sem,kK];have e:=dX hp.nodes
 try(refine aBq ?_ ?_;· decide)
 simp only[go_sem,kK,e,(gV _ _ _).ret]
 refine aJ (fun h=>?_) (fun h=>?_)
 ·simp only[go_sem,kK,h]
  refine aJ (fun h2=>?_) (fun h2=>?_)
  ·simp only[go_sem,kK,h,h2,bK,(tO _).ret]
   refine aJ (fun h3=>?_) (fun h3=>?_)
   ·simp only[go_sem,kK,h3,(lQ _ _ _ hf.1 (aHq p w hp hw _)).ret]
    refine aJ (fun h4=>?_) (fun h4=>?_)
    ·simp only[go_sem,kK,h4,(lQ _ _ _ hf.2 (aHq p w hp hw _)).ret]
     simp at h2 h3 h4
     simp[dI,bA,h,h2,h3];intros;simp_all
    ·simp only[go_sem,kK,h4]
     simp at h2 h3 h4
     obtain⟨x,hx,hx2⟩:=h4;simp[dI,bA,h,h2,h3];intro hh;rw[hh x hx]at hx2;cases hx2
   ·simp only[go_sem,kK,h3]
    simp at h2 h3
    simp[dI,bA,h,h2];intros;omega
  ·simp only[go_sem,kK,h2]
   simp at h2
   simp[dI,bA,h];intros;omega
 ·simp only[go_sem,kK,h]
  simp at h
  simp[dI,h]
theorem aDk (p:aF)(w:aA)(f:aB)(hn:inR f.node 0 (p.nodes.length-1)=true):PC L 318 [.fp [.fz (p.nodes.map aM.enc),.fz (p.funs.map (.int .i64)),.i p.main,.fz (p.cons.map cS.enc),.fz (w.objs.map aQ.enc),.fz (w.tasks.map (.int .i64)),.fz (w.outs.map bJ.enc),.fz (w.ins.map (.int .i64)),.i w.used] 0,.agg [.i f.node,.fz (f.env.map aD.enc),.fz (f.vals.map aD.enc)]] (.bool (fN p f)):=by
 have hL:=at_ func318
 conv at hL=>rhs;reduce
 refine aI hL rfl rfl ?_
 simp only[go_sem,kK]
 refine aBq ?_ ?_
 ·decide
 simp only[go_sem,hn,bK,(tO _).ret];simp[fN]
theorem rK (p:aF)(w:aA)(l:List aB)(m:Nat)(hp:p.few)(hw:w.few)(hl:Few l.length)(hf: ∀f∈l,f.few)(hm:m<=1):
  PC L 256 [.fp [.fz (p.nodes.map aM.enc),.fz (p.funs.map (.int .i64)),.i p.main,.fz (p.cons.map cS.enc),.fz (w.objs.map aQ.enc),.fz (w.tasks.map (.int .i64)),.fz (w.outs.map bJ.enc),.fz (w.ins.map (.int .i64)),.i w.used] 0,.fz (l.map aB.enc),.i m] (.bool (bU p w l&&(l.take (l.length-m)).all (fN p))):=by
 have ask1:eH L (fun x:aB=> .agg [.i x.node,.fz (x.env.map aD.enc),.fz (x.vals.map aD.enc)]) (.fn 317 [.fp [.fz (p.nodes.map aM.enc),.fz (p.funs.map (.int .i64)),.i p.main,.fz (p.cons.map cS.enc),.fz (w.objs.map aQ.enc),.fz (w.tasks.map (.int .i64)),.fz (w.outs.map bJ.enc),.fz (w.ins.map (.int .i64)),.i w.used] 0] []) (dI p w) l:=by
  refine⟨fun n en hn=>?_,rfl,rfl,rfl,fun x hx en K hK=>?_⟩
  ·obtain⟨m,rfl⟩: ∃m,n=m+4:=⟨n-4,by omega⟩
   simp only[go_sem]
  ·simp only[go_sem,(aB1 p w x hp hw (hf x hx)).ret];exact hK
 have hL:=at_ func256
 conv at hL=>rhs;reduce
 refine aI hL rfl rfl ?_
 simp only[go_sem,kK]
 refine aJ (fun h=>?_) (fun h=>?_)
 ·simp only[go_sem,kK,h,(oN _ _ _ hl ask1).ret]
  refine aJ (fun h2=>?_) (fun h2=>?_)
  ·have hok:bU p w l=true:=by simp at h h2;simp[bU,h];exact h2
   have ask2:eH L (fun x:aB=> .agg [.i x.node,.fz (x.env.map aD.enc),.fz (x.vals.map aD.enc)]) (.fn 318 [.fp [.fz (p.nodes.map aM.enc),.fz (p.funs.map (.int .i64)),.i p.main,.fz (p.cons.map cS.enc),.fz (w.objs.map aQ.enc),.fz (w.tasks.map (.int .i64)),.fz (w.outs.map bJ.enc),.fz (w.ins.map (.int .i64)),.i w.used] 0] []) (fN p) (l.take (l.length-m)):=by
    refine⟨fun n en hn=>?_,rfl,rfl,rfl,fun x hx en K hK=>?_⟩
    ·obtain⟨m,rfl⟩: ∃m,n=m+4:=⟨n-4,by omega⟩
     simp only[go_sem]
    ·simp only[go_sem,(aDk p w x (oX hok x (bR0 hx))).ret];exact hK
   have k1:=aFs hok;have e1:IntKind.i64.wrap ((l.length:Int)-m)=(l.length:Int)-m:=aW (by omega)
   have e2:max (0:Int) ((l.length:Int)-m)=((l.length-m:Nat):Int):=by omega
   simp only[go_sem,kK,h2,e1,e2,vA,Nat.sub_le,<-bRe,(oN _ _ _ (aK5 hl _) ask2).ret];simp[hok]
  ·simp only[go_sem,kK,h2];have:bU p w l=false:=by
    rw[<-bQ0];intro hh;simp only[bU,bPp]at hh;rw[hh.2]at h2;simp at h2
   simp[this]
 ·simp only[go_sem,kK,h];have:bU p w l=false:=by simp at h;simp[bU];intros;omega
  simp[this]
def aOl (p:aF)(w:aA)(o:aQ):Bool:=
 if o.n=0 then(if(1:Int)<o.vals.length \/((o.frames.length:Int)=0/\ (o.vals.length:Int)=0)then false else bU p w o.frames&&(o.frames.take (o.frames.length-(1-o.vals.length))).all (fN p))
 else if o.n=1 then decide ((o.vals.length:Int)=1)&&decide ((o.frames.length:Int)=0)
 else if o.n=2 \/o.n=3 \/o.n=4 then decide ((o.vals.length:Int)=0)&&decide ((o.frames.length:Int)=0)else false
theorem aDl (p:aF)(w:aA)(o:aQ)(hp:p.few)(hw:w.few)(ho:o.few):PC L 257 [.fp [.fz (p.nodes.map aM.enc),.fz (p.funs.map (.int .i64)),.i p.main,.fz (p.cons.map cS.enc),.fz (w.objs.map aQ.enc),.fz (w.tasks.map (.int .i64)),.fz (w.outs.map bJ.enc),.fz (w.ins.map (.int .i64)),.i w.used] 0,.agg [.i o.form,.i o.n,.fz (o.vals.map aD.enc),.fz (o.frames.map aB.enc)]] (.bool (aOl p w o)):=by
 have hL:=at_ func257
 conv at hL=>rhs;reduce
 refine aI hL rfl rfl ?_
 simp only[go_sem,kK]
 refine aG (fun h0=>?_) (fun h0=>?_)<;>simp only[bTe,bTf]at h0
 ·simp only[go_sem,kK]
  repeat' ((first|with_reducible refine aG (fun h=>?_) (fun h=>?_)|with_reducible refine aJ (fun h=>?_) (fun h=>?_))<;>(try simp only[bTe,bTf,bP3,bP8]at h)<;>try simp only[go_sem,kK, *])
  all_goals try(simp[aOl, *];done)
  all_goals
   have hv:o.vals.length<=1:=by omega
   have e:IntKind.i64.wrap (1-(o.vals.length:Int))=((1-o.vals.length:Nat):Int):=by rw[aW (by omega)];omega
   simp only[go_sem,e,(rK p w o.frames (1-o.vals.length) hp hw ho.2.1 ho.2.2 (by omega)).ret]
   rw[aOl,if_pos h0,if_neg (by omega)]
 ·simp only[go_sem,kK]
  repeat' ((first|with_reducible refine aG (fun h=>?_) (fun h=>?_)|with_reducible refine aJ (fun h=>?_) (fun h=>?_))<;>(try simp only[bTe,bTf,bP3]at h)<;>try simp only[go_sem,kK,h])
  all_goals simp[aOl, *]
  all_goals (intros;simp_all)
def aLq (p:aF)(w:aA)(o:aQ):Bool:=
 if o.form=1 then decide ((o.frames.length:Int)=0)&&inR o.n 0 (p.cons.length-1)&&decide ((o.vals.length:Int)=(p.cons.getD o.n.toNat default).args)
 else if o.form=2 then decide ((o.frames.length:Int)=0)&&inR o.n 0 (p.nodes.length-1)&&decide ((p.node o.n).op=5)&&decide ((o.vals.length:Int)<=30)
 else if o.form=3 then decide ((o.frames.length:Int)=0)&&decide (o.n=0)&&decide ((o.vals.length:Int)=1)
 else if o.form=4 then decide ((o.frames.length:Int)=0)&&decide (o.n=0)&&decide ((o.vals.length:Int)<=4)
 else if o.form=5 then decide (o.n=0)&&decide ((o.vals.length:Int)=0)&&decide ((0:Int)<o.frames.length)&&(bU p w o.frames&&o.frames.all (fN p))&&decide ((p.node (o.frames.headD default).node).op=26)
 else if o.form=6 then aOl p w o else false
def aTk (p:aF)(w:aA)(o:aQ):Bool:=o.vals.all (dM p w)&&aLq p w o
theorem bB0 (p:aF)(w:aA)(o:aQ)(hc: ∀c∈p.cons,c.args<=3):aTk p w o=dQ p w o:=by
 have hargs:inR o.n 0 (p.cons.length-1)=true->(p.cons.getD o.n.toNat default).args<=3:=by
  intro h;simp only[inR,bTe]at h;have:o.n.toNat<p.cons.length:=by omega
  rw[bPu,bQz this];exact hc _ (bPz _)
 have vok: ∀m:Int,(o.vals.length:Int)<=m->bA p w o.vals m=o.vals.all (dM p w):=by intro m h;simp[bA,h]
 have vno: ∀m:Int,m<(o.vals.length:Int)->bA p w o.vals m=false:=by intro m h;simp[bA];intros;omega
 generalize hV:o.vals.all (dM p w)=V at vok;have nilV:o.vals.length=0->V=true:=by intro h;rw[<-hV,bS6.1 h];rfl
 simp only[aTk,dQ,hV]
 by_cases h6:o.form=6
 ·simp only[h6,if_true,aLq,kG,aOl];simp only[show¬(6:Int)=1 by decide,show¬(6:Int)=2 by decide,show¬(6:Int)=3 by decide,show¬(6:Int)=4 by decide,show¬(6:Int)=5 by decide,if_false]
  by_cases h0:o.n=0
  ·simp only[h0,if_true]
   by_cases h1:(1:Int)<o.vals.length
   ·simp[h1,vno 1 h1]
   ·rw[vok 1 (by omega)]
    by_cases h2:(o.frames.length:Int)=0/\ (o.vals.length:Int)=0
    ·simp only[h2];simp[]
    ·rw[if_neg (by omega)]
     have:(0:Int)<o.frames.length+o.vals.length:=by omega
     have e:o.frames.length-(1-o.vals.length)=o.frames.length+o.vals.length-1:=by omega
     simp only[this,decide_true,e];cases V<;>cases bU p w o.frames<;>simp
  ·simp only[h0,if_false]
   by_cases h1:o.n=1
   ·simp only[h1,if_true]
    by_cases hl:(o.vals.length:Int)=1
    ·rw[vok 1 (by omega)];simp only[hl,decide_true,bQn,bRl];cases V<;>simp
    ·simp only[hl,decide_false,bQ7,bQq]
   ·simp only[h1,if_false];split
    ·by_cases hl:(o.vals.length:Int)=0
     ·have:=nilV (by omega);simp only[this,hl,decide_true,bQn,bRl]
     ·simp only[hl,decide_false,bQ7,bQq]
    ·simp
 ·simp only[h6,if_false,aLq]
  by_cases h5:o.form=5
  ·simp only[h5,if_true];simp only[show¬(5:Int)=1 by decide,show¬(5:Int)=2 by decide,show¬(5:Int)=3 by decide,show¬(5:Int)=4 by decide,if_false]
   by_cases hl:(o.vals.length:Int)=0
   ·have:=nilV (by omega)
    simp only[this,bQn,Bool.and_assoc]
   ·simp only[hl,decide_false,bQ7,bQq]
  ·simp only[h5,if_false]
   by_cases hf:(o.frames.length:Int)=0
   ·simp only[hf,not_true,if_false,decide_true,bQn]
    by_cases h1:o.form=1
    ·simp only[h1,if_true];cases hin:inR o.n 0 (p.cons.length-1)with
     |false=>simp
     |true=>
      have ha:=hargs hin
      by_cases hl:(o.vals.length:Int)=(p.cons.getD o.n.toNat default).args
      ·rw[vok 3 (by omega)];simp only[hl,decide_true,bQn,bRl]
      ·simp only[hl,decide_false,bQ7,bQq]
    ·simp only[h1,if_false]
     by_cases h2:o.form=2
     ·simp only[h2,if_true]
      by_cases hl:(o.vals.length:Int)<=30
      ·rw[vok 30 hl];simp only[hl,decide_true,bRl];ac_rfl
      ·rw[vno 30 (by omega)];simp only[hl,decide_false,bQ7]
     ·simp only[h2,if_false]
      by_cases h3:o.form=3
      ·simp only[h3,if_true]
       by_cases hl:(o.vals.length:Int)=1
       ·rw[vok 1 (by omega)];simp only[hl,decide_true,bRl];ac_rfl
       ·simp only[hl,decide_false,bQ7,bQq]
      ·simp only[h3,if_false]
       by_cases h4:o.form=4
       ·simp only[h4,if_true]
        by_cases hl:(o.vals.length:Int)<=4
        ·rw[vok 4 hl];simp only[hl,decide_true,bRl];ac_rfl
        ·rw[vno 4 (by omega)];simp only[hl,decide_false,bQ7]
       ·simp only[h4,if_false,bQ7]
   ·simp only[hf,not_false_eq_true,if_true,decide_false,bQq]
    repeat' split
    all_goals simp
theorem aA5 (p:aF)(w:aA)(o:aQ)(hp:p.few)(hw:w.few)(ho:o.few):PC L 213 [.fp [.fz (p.nodes.map aM.enc),.fz (p.funs.map (.int .i64)),.i p.main,.fz (p.cons.map cS.enc),.fz (w.objs.map aQ.enc),.fz (w.tasks.map (.int .i64)),.fz (w.outs.map bJ.enc),.fz (w.ins.map (.int .i64)),.i w.used] 0,.agg [.i o.form,.i o.n,.fz (o.vals.map aD.enc),.fz (o.frames.map aB.enc)]] (.bool (aTk p w o)):=by
 have hL:=at_ func213
 conv at hL=>rhs;reduce
 refine aI hL rfl rfl ?_
 simp only[go_sem,kK,(lQ _ _ _ ho.1 (aHq p w hp hw _)).ret]
 refine aG (fun hv=>?_) (fun hv=>?_)
 ·have hv':o.vals.all (dM p w)=false:=by rw[<-bQ2];exact hv
  simp only[go_sem,kK];rw[aTk,hv'];rfl
 ·have hv':o.vals.all (dM p w)=true:=by simpa using hv
  rw[aTk,hv',bQn];clear hv hv';simp only[go_sem,kK];have hfr:=rK p w o.frames 0 hp hw ho.2.1 ho.2.2 (by omega)
  simp only[Nat.sub_zero,bQ6,Int.natCast_zero]at hfr
  repeat' ((first|with_reducible refine aG (fun h=>?_) (fun h=>?_)|with_reducible refine aJ (fun h=>?_) (fun h=>?_))<;>(try simp only[bTe,bTf,bP3]at h)<;>try simp only[go_sem,kK, *,(gV _ _ _).ret,dX hp.nodes,dX hp.cons,bK,aHm,hfr.ret])
  all_goals try(simp[aLq, *];done)
  all_goals try(simp[aLq, *];intros;simp_all;done)
  ·rename_i g1 g2 g3 g4 g5 g6 g7 g8;have hpos:0<o.frames.length:=by omega
   have h2:=h;simp only[bPp]at h2;have hn:inR (o.frames.headD default).node 0 (p.nodes.length-1)=true:=oX h2.1 _ (by cases hh:o.frames with|nil=>simp[hh]at hpos|cons a l=>simp)
   simp only[go_sem,kK,aOf hpos,hn,bK];simp only[aLq,g5,g6,g7,h];simp[*]
  ·rename_i g1 g2 g3 g4 g5;have ht:=aDl p w o hp hw ho;rw[h]at ht;simp only[go_sem,ht.ret];simp only[aLq,h,if_true];simp
theorem aJd (n:Nat):PC L 260 [.i n] (.fn 321 [] [.fp [.i n] 0]):=by
 have hL:=at_ func260
 conv at hL=>rhs;reduce
 refine aI hL rfl rfl ?_
 simp only[go_sem,kK]
theorem aV3 (n:Nat)(hn:n<=1000):PC L 259 [.fn 321 [] [.fp [.i n] 0]] (.fz ((List.range n).map fun(i:Nat)=> .i i)):=by
 have hf:Few n:=by unfold Few;omega
 have hL:=at_ func259
 conv at hL=>rhs;reduce
 refine aI hL rfl rfl ?_
 simp only[go_sem,kK];have hL:=at_ func320
 conv at hL=>rhs;reduce
 refine bD hL rfl rfl ?_
 simp only[go_sem,kK,mE (v:= .cl []) rfl rfl]
 refine aFm (f:=321) (x:=[]) (y:=[.fp [.i n] 0]) ?_ ?_
 ·simp only[go_sem]
 intro fr0 key hfr0 hkey;have h2:fr0 2= .ptr ⟨0,2,0⟩ 0:=by rw[hfr0];simp only[go_sem]
 have hk1:key=⟨1,0,0⟩:=by rw[hkey];rfl
 subst hk1;clear hkey hfr0;have hL:=at_ func321
 conv at hL=>rhs;reduce
 refine bD hL rfl rfl ?_
 simp only[go_sem,kK]
 refine bQ n (fun k st=> ∃fr en cnt v,st=⟨fr,en,cnt⟩/\ fr 0= .yld ⟨1,0,0⟩/\ fr 4= .i n/\ fr 5= .i k/\ en ⟨1,0,0⟩=some (.loop fr0 [7] (.ops [o 5 (.mv (.t 7))]) (.block 1 (.ops [o 8 (.load false 1 (.t 2)),o 9 (.mv (.t 5)),o 10 (.bslice 1 1 [(.i 0)] [(0,(.t 9))]),o 11 (.append 1 (.t 8) (.t 10)),on (.store 1 (.t 2) (.t 11))])) .ready)/\ en ⟨0,2,0⟩=some (.box [v] false)/\ cP en v 1 ((List.range k).map fun(i:Nat)=> .i i) [11]) 0 (bPx _) ⟨_,_,_,.cl [],rfl,by simp only[go_sem],by simp only[go_sem],by simp only[go_sem],by simp only[go_sem],by simp only[go_sem],cP.nil _ _⟩ ?_
 rintro k st hk ⟨fr,en,cnt,v,rfl,h0,h4,h5,e1,e2,hm⟩
 simp only[go_sem,kK,h4,h5]
 refine aG (fun hq=>?_) (fun hq=>?_)
 ·have h':k<n:=D_o hq;simp only[go_sem,h',h0,h5]
  refine aP2 (fr:=fr0) (ps:=[7]) (a:=(.ops [o 5 (.mv (.t 7))])) (b:=(.block 1 (.ops [o 8 (.load false 1 (.t 2)),o 9 (.mv (.t 5)),o 10 (.bslice 1 1 [(.i 0)] [(0,(.t 9))]),o 11 (.append 1 (.t 8) (.t 10)),on (.store 1 (.t 2) (.t 11))]))) e1 rfl ?_
  simp only[go_sem,kK,h2,e1,e2]
  refine kQ (D:=[11]) (xs:=(List.range k).map fun(i:Nat)=>Val.int .i64 i) (ys:=[.i k]) (rs:=[]) ?_ ?_ ?_ ?_ ?_
  ·simp only[go_sem];exact hm.keep fun t g ht=>by simp at ht;subst ht;simp only[go_sem]
  ·simp only[go_sem]
  ·rfl
  ·simp;omega
  ·intro v' en' cnt' hown hen hcnt;obtain⟨s1,s2⟩:=hown.shape;have k1:en' ⟨1,0,0⟩=some (.loop fr0 [7] (.ops [o 5 (.mv (.t 7))]) (.block 1 (.ops [o 8 (.load false 1 (.t 2)),o 9 (.mv (.t 5)),o 10 (.bslice 1 1 [(.i 0)] [(0,(.t 9))]),o 11 (.append 1 (.t 8) (.t 10)),on (.store 1 (.t 2) (.t 11))])) .busy):=by rw[hen 1 0 0 (.inl (by decide))];simp only[go_sem]
   have k2:en' ⟨0,2,0⟩=some (.box [v] false):=by rw[hen 0 2 0 (.inr ⟨by decide,by simp⟩)];simp only[go_sem,e2]
   simp only[go_sem,h2,s1,s2,k1,k2];simp only[go_sem,h5]
   refine⟨_,_,_,v',rfl,?_⟩
   simp only[go_sem,h0,h4,aT h' hf]
   refine cP.sub (D:=[11,11]) (cP.keep (en:=en') ?_ ?_) (by simp)
   ·rw[bQs];exact hown
   ·intro t g ht;simp at ht;subst ht;simp only[go_sem]
 ·have:k=n:=by simp at hq;omega
  subst this;simp only[go_sem,e1];obtain⟨r,ks,s1,s2,_⟩:=aTg (hm.keep (en':=en.set ⟨1,0,0⟩ none) fun t g ht=>by simp at ht;subst ht;simp only[go_sem])
  simp only[go_sem,e2,s1,s2]
theorem aB2 (n:Int): ∀ks:List Int,(∃i,findKey .num (.i n) (ks.map (.int .i64))=some (some i)/\ (ks.any fun x=>decide (x=n))=true/\ (ks.map (Val.int .i64)).set i (.i n)=ks.map (.int .i64)/\ i<ks.length) \/
  (findKey .num (.i n) (ks.map (.int .i64))=some none/\ (ks.any fun x=>decide (x=n))=false)
 |[]=> .inr ⟨rfl,rfl⟩
 |x::ks=>by
  have he:oS .num (.i n) (.i x)=some (n==x):=by simp[oS]
  by_cases h:n=x
  ·subst h
   refine .inl ⟨0,?_,by simp,by simp,by simp⟩
   simp only[bQj,findKey,he,beq_self_eq_true]
  ·have hb:(n==x)=false:=by simpa using h
   have hx:decide (x=n)=false:=by simp;exact fun e=>h e.symm
   rcases aB2 n ks with⟨i,h1,h2,h3,h4⟩|⟨h1,h2⟩
   ·refine .inl ⟨i+1,?_,?_,by simp[h3],by simp;exact h4⟩
    ·simp only[bQj,findKey,he,hb,h1]
    ·simp only[List.any_cons,hx,bQp];exact h2
   ·refine .inr ⟨?_,?_⟩
    ·simp only[bQj,findKey,he,hb,h1]
    ·simp only[List.any_cons,hx,bQp];exact h2
theorem aOm (n:Int)(ks:List Int):aEf .num (.bool false) false (.i n) (ks.map (.int .i64)) (ks.map fun _=> .bool true)=some (.bool (ks.any fun x=>decide (x=n))):=by
 unfold aEf;rcases aB2 n ks with⟨i,h1,h2,_,h4⟩|⟨h1,h2⟩
 ·simp[h1,h2,bPu,h4]
 ·simp[h1,h2]
def aJn (w:aA)(ks:List Int):Bool:=(List.range w.objs.length).all fun i=>(ks.any fun x=>decide (x=(i:Int)))||!cW (w.obj i)
def aB3 (w:aA):Bool:=bS w [] w.tasks&&aJn w w.tasks
theorem yY (p:aF)(w:aA)(ks:List Int)(i:Nat)(hi:i<w.objs.length):
  PC L 261 [.i i,.fp [.fm (ks.map (.int .i64)) (ks.map fun _=> .bool true)] 0,.fp [.fp [.fz (p.nodes.map aM.enc),.fz (p.funs.map (.int .i64)),.i p.main,.fz (p.cons.map cS.enc),.fz (w.objs.map aQ.enc),.fz (w.tasks.map (.int .i64)),.fz (w.outs.map bJ.enc),.fz (w.ins.map (.int .i64)),.i w.used] 0] 0] (.bool ((ks.any fun x=>decide (x=(i:Int)))||!cW (w.obj i))):=by
 have hin:inR (i:Int) 0 (w.objs.length-1)=true:=by simp[inR];omega
 have hL:=at_ func261
 conv at hL=>rhs;reduce
 refine aI hL rfl rfl ?_
 simp only[go_sem,kK,aOm]
 refine aJ (fun h=>?_) (fun h=>?_)
 ·simp only[go_sem,kK,h,zZ,hin];simp[cW]
 ·simp only[go_sem,kK,h,bP8];simp
variable {k:Key}
theorem bB1 :Val.one (.mp k)=true:=(rfl)
theorem aTl :Val.cells (.mp k)=[.mp k]:=(rfl)
theorem bF7 :snapD (n+1) en (.mp k)=(match en k with
   |some (.map ks vs _)=>some (.fm ks vs,[k])
   |_=>none):=(rfl)
theorem aB4 (p:aF)(w:aA)(hw:w.few)(hn:w.objs.length<=1000):PC L 214 [.fp [.fz (p.nodes.map aM.enc),.fz (p.funs.map (.int .i64)),.i p.main,.fz (p.cons.map cS.enc),.fz (w.objs.map aQ.enc),.fz (w.tasks.map (.int .i64)),.fz (w.outs.map bJ.enc),.fz (w.ins.map (.int .i64)),.i w.used] 0] (.bool (aB3 w)):=by
 have e:=dX hw.objs;have hL:=at_ func214
 conv at hL=>rhs;reduce
 refine aI hL rfl rfl ?_
 simp only[go_sem,kK,mE (v:= .fp [.fz (p.nodes.map aM.enc),.fz (p.funs.map (.int .i64)),.i p.main,.fz (p.cons.map cS.enc),.fz (w.objs.map aQ.enc),.fz (w.tasks.map (.int .i64)),.fz (w.outs.map bJ.enc),.fz (w.ins.map (.int .i64)),.i w.used] 0) rfl rfl,bB1,aTl]
 refine bQ w.tasks.length (fun k st=> ∃fr en cnt,st=⟨fr,en,cnt⟩/\ fr 1= .ptr ⟨0,1,0⟩ 0/\ en ⟨0,1,0⟩=some (.box [.fp [.fz (p.nodes.map aM.enc),.fz (p.funs.map (.int .i64)),.i p.main,.fz (p.cons.map cS.enc),.fz (w.objs.map aQ.enc),.fz (w.tasks.map (.int .i64)),.fz (w.outs.map bJ.enc),.fz (w.ins.map (.int .i64)),.i w.used] 0] false)/\ fr 3= .ptr ⟨0,3,0⟩ 0/\ en ⟨0,3,0⟩=some (.box [.mp ⟨0,6,0⟩] false)/\
  en ⟨0,6,0⟩=some (.map ((w.tasks.take k).map (.int .i64)) ((w.tasks.take k).map fun _=> .bool true) false)/\ fr 11= .is w.tasks/\ fr 12= .i w.tasks.length/\ fr 13= .i k/\ bS w (w.tasks.take k) (w.tasks.drop k)=bS w [] w.tasks) 0 (bPx _)
  ⟨_,_,_,rfl,by simp only[go_sem],by simp only[go_sem],by simp only[go_sem],by simp only[go_sem],by simp only[go_sem],by simp only[go_sem],by simp only[go_sem],by simp only[go_sem],rfl⟩ ?_
 rintro k st hk ⟨fr,en,cnt,rfl,h1,e1,h3,e3,e6,h11,h12,h13,hI⟩
 simp only[go_sem,kK,h12,h13]
 refine aG (fun hq=>?_) (fun hq=>?_)
 ·have h':k<w.tasks.length:=D_o hq;rw[bQu h',bS]at hI;simp only[go_sem,kK,h',h1,e1,h11,h13,(gV _ _ _).ret,e]
  refine aJ (fun hb=>?_) (fun hb=>?_)
  ·simp at hb
   simp only[go_sem,kK,hb,bP3,h1,e1,zZ]
   refine aJ (fun hc=>?_) (fun hc=>?_)
   ·have hc':cW (w.obj w.tasks[k])=true:=by simpa[cW]using hc
    simp only[go_sem,kK,hc,h3,e3,e6,aOm]
    refine aG (fun hd=>?_) (fun hd=>?_)
    ·simp only[go_sem,kK];rw[hb,hc',hd]at hI;rw[aB3,<-hI];rfl
    ·rw[hb,hc',hd]at hI;simp only[bP8,bQn]at hI;rcases aB2 w.tasks[k] (w.tasks.take k)with⟨i,f1,f2,_⟩|⟨f1,_⟩
     ·rw[hd]at f2;cases f2
     ·simp only[go_sem,h3,e3,e6,h13,f1]
      refine⟨_,_,_,rfl,?_⟩
      simp only[go_sem,h1,e1,h3,e3,h11,h12,gZ h',bQs,aT h' hw.tasks];exact hI
   ·have hc':cW (w.obj w.tasks[k])=false:=by simp at hc;simp[cW,hc]
    simp only[go_sem,kK,hc];rw[hb,hc']at hI;rw[aB3,<-hI];rfl
  ·simp at hb
   simp only[go_sem,kK,hb,bP8];rw[hb]at hI;rw[aB3,<-hI];rfl
 ·have:k=w.tasks.length:=by simp at hq;omega
  subst this;rw[bQ6]at e6 hI;rw[bRf,bS]at hI;have hp: ∀i:Nat,i<w.objs.length->PC L 261 [.i i,.fp [.fm (w.tasks.map (.int .i64)) (w.tasks.map fun _=> .bool true)] 0,.fp [.fp [.fz (p.nodes.map aM.enc),.fz (p.funs.map (.int .i64)),.i p.main,.fz (p.cons.map cS.enc),.fz (w.objs.map aQ.enc),.fz (w.tasks.map (.int .i64)),.fz (w.outs.map bJ.enc),.fz (w.ins.map (.int .i64)),.i w.used] 0] 0] (.bool ((w.tasks.any fun x=>decide (x=(i:Int)))||!cW (w.obj i))):=fun i hi=>yY p w w.tasks i hi
  have ask:eH L (fun x:Int=> .i x) (.fn 261 [] [.fp [.fm (w.tasks.map (.int .i64)) (w.tasks.map fun _=> .bool true)] 0,.fp [.fp [.fz (p.nodes.map aM.enc),.fz (p.funs.map (.int .i64)),.i p.main,.fz (p.cons.map cS.enc),.fz (w.objs.map aQ.enc),.fz (w.tasks.map (.int .i64)),.fz (w.outs.map bJ.enc),.fz (w.ins.map (.int .i64)),.i w.used] 0] 0]) (fun j=>(w.tasks.any fun x=>decide (x=j))||!cW (w.obj j)) ((List.range w.objs.length).map fun(i:Nat)=>(i:Int)):=by
   refine⟨fun n en hn=>?_,rfl,rfl,rfl,fun x hx en K hK=>?_⟩
   ·obtain⟨m,rfl⟩: ∃m,n=m+4:=⟨n-4,by omega⟩
    simp only[go_sem]
   ·obtain⟨i,hi,rfl⟩:=bQk.1 hx;simp only[go_sem,(hp i (by simpa using hi)).ret]
    exact hK
  have hall:=aA1 _ _ _ (by simpa using hw.objs) ask
  have he:List.map (Val.int .i64) ((List.range w.objs.length).map fun(i:Nat)=>(i:Int))=(List.range w.objs.length).map fun(i:Nat)=>Val.int .i64 i:=by simp
  rw[he]at hall;simp only[go_sem,h1,e1,h3,e3,e6,(aJd _).ret,(aV3 _ hn).ret,bF7,hall.ret];rw[aB3,<-hI,bQn,aJn,List.all_map];rfl
theorem aF2 : ∀(l N:List Nat),l.Nodup->(∀x∈l,x∈N)->l.length<=N.length
 |[],N,_,_=>bPx _
 |x::l,N,hn,hs=>by
  have hx:x∈N:=hs x (by simp)
  rw[List.nodup_cons]at hn;have:=aF2 l (N.erase x) hn.2 fun y hy=>by
   rw[List.mem_erase_of_ne (by rintro rfl;exact hn.1 hy)]
   exact hs y (by simp[hy])
  rw[List.length_erase_of_mem hx]at this;have:=List.length_pos_of_mem hx;simp only[bPy];omega
def vK (w:aA):List Nat:=(List.range w.objs.length).filter fun(i:Nat)=>cW (w.obj (i:Int))
theorem aAg (w:aA):(vK w).length=w.objs.countP cW:=by
 have h:w.objs=(List.range w.objs.length).map fun(i:Nat)=>w.obj (i:Int):=by
  refine List.ext_getElem (by simp) fun i h1 h2=>?_
  simp[aA.obj,bPu,h1]
 conv=>rhs;rw[h,List.countP_map]
 rw[vK,List.countP_eq_length_filter];rfl
theorem vL (w:aA): ∀(l met:List Int),bS w met l=true->(∀x∈l,inR x 0 (w.objs.length-1)=true/\ cW (w.obj x)=true)/\ (l.map Int.toNat).Nodup/\ ∀x∈l,x∉met
 |[],met,_=>by simp
 |x::l,met,h=>by
  simp only[bS,bPp]at h;obtain⟨⟨⟨h1,h2⟩,h3⟩,h4⟩:=h;obtain⟨k1,k2,k3⟩:=vL w l (met++[x]) h4;have hxm:x∉met:=by
   intro hm;simp only[bQ2,List.any_eq_false]at h3;exact absurd (h3 x hm) (by simp)
  refine⟨fun y hy=>?_,?_,fun y hy=>?_⟩
  ·rcases bQm.1 hy with rfl|hy
   ·exact⟨h1,h2⟩
   ·exact k1 y hy
  ·rw[bQj,List.nodup_cons]
   refine⟨fun hm=>?_,k2⟩
   obtain⟨y,hy,he⟩:=bQk.1 hm;have a:=(k1 y hy).1;simp only[inR,bTe]at a h1;have:y=x:=by omega
   subst this;exact k3 y hy (by simp)
  ·rcases bQm.1 hy with rfl|hy
   ·exact hxm
   ·exact fun hm=>k3 y hy (by simp[hm])
theorem aV4 (w:aA):aB3 w=jI w:=by
 unfold aB3 jI;cases hd:bS w [] w.tasks with
 |false=>simp
 |true=>
  obtain⟨k1,k2,_⟩:=vL w _ _ hd;have hsub: ∀x∈w.tasks.map Int.toNat,x∈vK w:=by
   intro x hx;obtain⟨y,hy,rfl⟩:=bQk.1 hx;obtain⟨a,b⟩:=k1 y hy;have a':=a;simp only[inR,bTe]at a'
   refine bRa.2 ⟨bQl.2 (by omega),?_⟩
   rw[bS4 a'.1];exact b
  have hle:=aF2 _ _ k2 hsub;rw[aAg,bPr]at hle;simp only[bQn,bRl];have hcov:aJn w w.tasks=true↔ ∀x∈vK w,x∈w.tasks.map Int.toNat:=by
   simp only[aJn,bPv,bQl,bQy,bQ2,vK,bRa,bSn,bTe];constructor
   ·rintro h x ⟨hx,ht⟩
    rcases h x hx with⟨y,hy,he⟩|hf
    ·exact bQk.2 ⟨y,hy,by omega⟩
    ·rw[ht]at hf;cases hf
   ·intro h x hx;cases ht:cW (w.obj (x:Int))with
    |false=>exact .inr rfl
    |true=>
     obtain⟨y,hy,he⟩:=bQk.1 (h x ⟨hx,ht⟩);have a:=(k1 y hy).1;simp only[inR,bTe]at a;exact .inl ⟨y,hy,by omega⟩
  rw[bRd,hcov,bTe];constructor
  ·intro h;have hN:(vK w).Nodup:=List.Pairwise.filter _ List.nodup_range;have:=aF2 _ _ hN h;rw[aAg,bPr]at this;omega
  ·intro he x hx
   by_cases hm:x∈w.tasks.map Int.toNat
   ·exact hm
   ·exfalso
    have:=aF2 (x::w.tasks.map Int.toNat) (vK w) (List.nodup_cons.2 ⟨hm,k2⟩) fun y hy=>by
     rcases bQm.1 hy with rfl|hy
     ·exact hx
     ·exact hsub y hy
    rw[aAg,bPy,bPr]at this;omega
def xU (p:aF)(w:aA):Bool:=
 decide ((w.objs.length:Int)<=120)&&w.objs.all (aTk p w)&&aB3 w&&decide ((w.outs.length:Int)<=100)&&w.outs.all wR&&nW w.ins 50&&inR w.used 0 1000000000
theorem sN (p:aF)(w:aA)(hp:p.few)(hw:w.few):PC L 167 [.fp [.fz (p.nodes.map aM.enc),.fz (p.funs.map (.int .i64)),.i p.main,.fz (p.cons.map cS.enc),.fz (w.objs.map aQ.enc),.fz (w.tasks.map (.int .i64)),.fz (w.outs.map bJ.enc),.fz (w.ins.map (.int .i64)),.i w.used] 0] (.bool (xU p w)):=by
 have ask:eH L (fun x:aQ=> .agg [.i x.form,.i x.n,.fz (x.vals.map aD.enc),.fz (x.frames.map aB.enc)]) (.fn 213 [.fp [.fz (p.nodes.map aM.enc),.fz (p.funs.map (.int .i64)),.i p.main,.fz (p.cons.map cS.enc),.fz (w.objs.map aQ.enc),.fz (w.tasks.map (.int .i64)),.fz (w.outs.map bJ.enc),.fz (w.ins.map (.int .i64)),.i w.used] 0] []) (aTk p w) w.objs:=by
  refine⟨fun n en hn=>?_,rfl,rfl,rfl,fun x hx en K hK=>?_⟩
  ·obtain⟨m,rfl⟩: ∃m,n=m+4:=⟨n-4,by omega⟩
   simp only[go_sem]
  ·simp only[go_sem,(aA5 p w x hp hw (hw.obj x hx)).ret];exact hK
 have ask2:eH L (fun x:bJ=> .agg [.i x.port,.i x.n]) (.fn 216 [] []) wR w.outs:=by
  refine⟨fun n en hn=>?_,rfl,rfl,rfl,fun x hx en K hK=>?_⟩
  ·obtain⟨m,rfl⟩: ∃m,n=m+4:=⟨n-4,by omega⟩
   simp only[go_sem]
  ·simp only[go_sem,(yX x).ret];exact hK
 have hL:=at_ func167
 conv at hL=>rhs;reduce
 refine aI hL rfl rfl ?_
 simp only[go_sem,kK]
 refine aJ (fun h1=>?_) (fun h1=>?_)
 ·have hn:w.objs.length<=1000:=by simp at h1;omega
  have ht:=aB4 p w hw hn;simp only[go_sem,kK,h1,(yV _ _ _ hw.objs ask).ret]
  refine aJ (fun h2=>?_) (fun h2=>?_)
  ·simp only[go_sem,kK,h2,ht.ret]
   refine aJ (fun h3=>?_) (fun h3=>?_)
   ·simp only[go_sem,kK,h3]
    refine aJ (fun h4=>?_) (fun h4=>?_)
    ·simp only[go_sem,kK,h4,(yW _ _ _ hw.outs ask2).ret]
     refine aJ (fun h5=>?_) (fun h5=>?_)
     ·simp only[go_sem,kK,h5,(aLp _ hw.ins).ret]
      refine aJ (fun h6=>?_) (fun h6=>?_)
      ·simp only[go_sem,kK,h6,(gV _ _ _).ret];simp only[xU,h1,h2,h3,h4,h5,h6,bQn]
      ·simp only[go_sem,kK,h6,bP3];simp only[xU,h1,h2,h3,h4,h5,h6,bP3,bQn,bQq]
     ·simp only[go_sem,kK,h5,bP3];simp only[xU,h1,h2,h3,h4,h5,bP3,bQn,bQq,bQ7]
    ·simp only[go_sem,kK,h4,bP3];simp only[xU,h1,h2,h3,h4,bP3,bQn,bQq,bQ7]
   ·simp only[go_sem,kK,h3,bP3];simp only[xU,h1,h2,h3,bP3,bQn,bQq,bQ7]
  ·simp only[go_sem,kK,h2,bP3];simp only[xU,h1,h2,bP3,bQq,bQ7]
 ·simp only[go_sem,kK,h1,bP3];simp only[xU,h1,bP3,bQq]
theorem aTm (h:dV p=true): ∀c∈p.cons,c.args<=3:=by
 intro c hc;simp only[dV,aAa,bPp]at h;have:=bPv.1 h.1.2.1.1 c hc;simp only[wU,inR,bPp,bTe]at this;omega
theorem aLr (p:aF)(w:aA)(h:dV p=true):xU p w=cX p w:=by
 have:w.objs.all (aTk p w)=w.objs.all (dQ p w):=by
  congr 1;funext o;exact bB0 p w o (aTm h)
 simp only[xU,cX,this,aV4]
 ac_rfl
theorem aDw (p:aF)(w:aA)(hp:p.few)(hw:w.few)(hs:aR p=true):PC L 95 [.agg p.cs,.agg w.cs] (.i (if bY p w then 0 else 2)):=by
 have hrun: ∃r,PC L 119 [.agg p.cs,.agg w.cs] (.tup [r,.bool (bY p w)])/\ qN r=false/\ (∀n en,6<=n->snapD n en r=some (r,[])):=by
  cases hf:dV p with
  |false=>
   refine⟨.nilp,?_,rfl,fun n en hn=>?_⟩
   ·have hL:=at_ func119
    conv at hL=>rhs;reduce
    refine aI hL rfl rfl ?_
    have hb:=xT p hp hs;rw[hf]at hb;simp only[go_sem,kK,hb.ret];simp[bY,hf]
   ·obtain⟨m,rfl⟩: ∃m,n=m+1:=⟨n-1,by omega⟩
    rfl
  |true=>
   refine⟨.fp [.fz (p.nodes.map aM.enc),.fz (p.funs.map (.int .i64)),.i p.main,.fz (p.cons.map cS.enc),.fz (w.objs.map aQ.enc),.fz (w.tasks.map (.int .i64)),.fz (w.outs.map bJ.enc),.fz (w.ins.map (.int .i64)),.i w.used] 0,?_,rfl,fun n en hn=>?_⟩
   ·have hL:=at_ func119
    conv at hL=>rhs;reduce
    refine aI hL rfl rfl ?_
    have hb:=xT p hp hs;rw[hf]at hb;simp only[go_sem,kK,hb.ret,(sN p w hp hw).ret];rw[aLr p w hf];simp[bY,hf]
   ·obtain⟨m,rfl⟩: ∃m,n=m+1:=⟨n-1,by omega⟩
    rfl
 obtain⟨r,hr,hr1,hr2⟩:=hrun;have hL:=at_ func95
 conv at hL=>rhs;reduce
 refine aI hL rfl rfl ?_
 simp only[go_sem,kK,hr.ret];cases hg:bY p w<;>simp only[go_sem,kK,bP3,bP8]
theorem aF3 {L:bH}{c:aZ}{st:St}{Q:Ex->St->Prop}(M:St->Prop)(h:Wp L c st fun e st'=>e= .normal/\ M st')(k: ∀fr en cnt,M ⟨fr,en,cnt⟩->Q .normal ⟨fr,en,cnt⟩):Wp L c st Q:=
 Go.Abs.wp_mono c h fun e s hs=>by obtain⟨rfl,hs⟩:=hs;exact k _ _ _ hs
variable {cs:List Val}
theorem bEc :(Val.agg (.fz xs::cs)).flat=false:=(rfl)
theorem aY4 :W.apply en (.frz k)=(match en k with
  |some e=>en.set k (some e.freeze)
  |none=>en):=(rfl)
variable {f:Bool}
theorem bEd :Ent.freeze (.blk n cs f)= .blk n cs true:=(rfl)
theorem bEe :Ent.freeze (.box cs f)= .box cs true:=(rfl)
set_option maxRecDepth 100000
set_option maxHeartbeats 4000000
def tD (size:Nat):List Val->Val
 |[]=> .cl []
 |x::xs=> .own size (x::xs)
variable {b:Bool}
theorem xV :dA .eql .slice (.es b) (.es true)=some (.bool b):=(rfl)
theorem aF4 {x:Val}:dA .eql .slice (.fz (x::xs)) (.es true)=some (.bool false):=(rfl)
section
variable {L :bH}{fr:Nat->Val}{cnt:Nat->Nat->Nat}{Q:St->Prop}{l:List aN}{d:Nat}{x y:Opd}
theorem sO (hx:St.get fr x= .cl [])(hy:St.get fr y= .es b)(k:jE L l ⟨jN fr d (.cl []),en,cnt⟩ Q):jE L (⟨some d,.append size x y,none⟩::l) ⟨fr,en,cnt⟩ Q:=by
 rw[aSj (by rfl)]
 simp only[bQg,dE,eval,fT,hx,hy,iY,cU,if_true,List.isEmpty_nil,aN8,fV];exact k
theorem qU {z:Val}{zs:List Val}(hx:St.get fr x= .cl [])(hy:St.get fr y= .fz (z::zs))(h1:cU size (z::zs)=true)(hl:(z::zs).length<=16777216)
  (k:jE L l ⟨jN fr d (.bl ⟨0,d,cnt 0 d⟩ 0 (z::zs).length),en.set ⟨0,d,cnt 0 d⟩ (some (.blk size (z::zs) false)),aC cnt 0 d (cnt 0 d+1)⟩ Q):jE L (⟨some d,.append size x y,none⟩::l) ⟨fr,en,cnt⟩ Q:=by
 rw[aSj (by rfl)]
 have he:iY en (.fz (z::zs))=some (z::zs,[]):=aK1;simp only[bQg,dE,eval,fT,hx,hy,he,h1,if_true,List.isEmpty_cons,bPs,if_false];rw[if_pos ⟨by simpa using hl,rfl⟩]
 simp only[aHh,kY,fV,yO,bP7,bQh,bQt];exact k
end
theorem qV (xs:List Val)(h1:cU 1 xs=true)(hl:xs.length<=16777216):PC L 115 [.fz xs] (tD 1 xs):=by
 cases xs with
 |nil=>
  have hL:=at_ func115
  conv at hL=>rhs;reduce
  refine aKt hL rfl rfl (.inl rfl) (qM ?_) (qM ?_)
  ·simp only[go_sem,kK,xV];rfl
  ·simp only[go_sem,kK,xV]
   refine sO (b:=false) (by simp only[go_sem]) (by simp only[go_sem]) ?_
   simp only[go_sem];rfl
 |cons x xs=>
  have hL:=at_ func115
  conv at hL=>rhs;reduce
  refine aI hL rfl rfl ?_
  simp only[go_sem,kK,aF4]
  refine qU (by simp only[go_sem]) (by simp only[go_sem]) h1 hl ?_
  simp only[go_sem];rfl
theorem aF5 (xs:List Val)(h1:cU 2 xs=true)(hl:xs.length<=16777216):PC L 116 [.fz xs] (tD 2 xs):=by
 cases xs with
 |nil=>
  have hL:=at_ func116
  conv at hL=>rhs;reduce
  refine aKt hL rfl rfl (.inl rfl) (qM ?_) (qM ?_)
  ·simp only[go_sem,kK,xV];rfl
  ·simp only[go_sem,kK,xV]
   refine sO (b:=false) (by simp only[go_sem]) (by simp only[go_sem]) ?_
   simp only[go_sem];rfl
 |cons x xs=>
  have hL:=at_ func116
  conv at hL=>rhs;reduce
  refine aI hL rfl rfl ?_
  simp only[go_sem,kK,aF4]
  refine qU (by simp only[go_sem]) (by simp only[go_sem]) h1 hl ?_
  simp only[go_sem];rfl
theorem qX (xs:List Val)(h1:cU 2 xs=true)(hl:xs.length<=16777216):PC L 117 [.fz xs] (tD 2 xs):=by
 cases xs with
 |nil=>
  have hL:=at_ func117
  conv at hL=>rhs;reduce
  refine aKt hL rfl rfl (.inl rfl) (qM ?_) (qM ?_)
  ·simp only[go_sem,kK,xV];rfl
  ·simp only[go_sem,kK,xV]
   refine sO (b:=false) (by simp only[go_sem]) (by simp only[go_sem]) ?_
   simp only[go_sem];rfl
 |cons x xs=>
  have hL:=at_ func117
  conv at hL=>rhs;reduce
  refine aI hL rfl rfl ?_
  simp only[go_sem,kK,aF4]
  refine qU (by simp only[go_sem]) (by simp only[go_sem]) h1 hl ?_
  simp only[go_sem];rfl
theorem pY (h:xs≠[]):tD size xs= .own size xs:=by cases xs<;>first|rfl|exact absurd rfl h
theorem wX (l:List aD):cU 2 (l.map aD.enc)=true:=by cases l<;>rfl
theorem aIu (l:List bJ):cU 2 (l.map bJ.enc)=true:=by cases l<;>rfl
theorem pZ (l:List Int):cU 1 (l.map (Val.int .i64))=true:=by cases l<;>rfl
variable {k':Key}
theorem bB2 :kN (.frz k) (.val k')=true:=rfl
theorem bB3 {o:Nat}:kN (.frz k) (.cells k' o n)=true:=rfl
theorem bB4 :nH (.frz k) (.frz k')=true:=rfl
theorem bB5 {e:Option Ent}:nH (.frz k) (.ent k' e)=decide (k≠k'):=rfl
variable {vs:List Val}
theorem bB6 {o:Nat}:nH (.frz k) (.cells k' o vs)=decide (k≠k'):=rfl
theorem bB7 :kN (.frz k) (.flag k')=decide (k≠k'):=rfl
theorem aY5 {o:Nat}:nH (.cells k o vs) (.frz k')=decide (k≠k'):=rfl
theorem bB8 :(Val.fz xs).flat=false:=(rfl)
attribute [go_sem] bB2 bB3 bB4 bB5 bB6 bB7 aY5 bB8 bEc aY4 bEd bEe
theorem qO {xs:List Val}:(Val.cl xs).one=true:=(rfl)
theorem lR {xs:List Val}:(Val.cl xs).cells=[.cl xs]:=(rfl)
theorem rT {k:Key}{a b:Nat}:(Val.bl k a b).one=true:=(rfl)
theorem lS {k:Key}{a b:Nat}:(Val.bl k a b).cells=[.bl k a b]:=(rfl)
theorem bEf {a b:IntKind}{i j:Int}:(Val.agg (.int a i:: .int b j:: .fz xs::cs)).flat=false:=(rfl)
theorem kB :type_of% @qO/\ type_of% @lR/\ type_of% @rT/\ type_of% @lS:=⟨@qO,@lR,@rT,@lS⟩
theorem wY {g:Nat}(h:en ⟨0,t,g⟩=some (.blk size xs f))(hx:n=xs.length):cP en (.bl ⟨0,t,g⟩ 0 n) size xs [t]:= .inr ⟨t,g,f,by rw[hx],h,by simp⟩
theorem jK (size:Nat)(xs:List Val):(xs=[]/\ tD size xs= .cl []) \/(xs≠[]/\ tD size xs= .own size xs):=by
 cases xs with
 |nil=>exact .inl ⟨rfl,rfl⟩
 |cons x xs=>exact .inr ⟨by simp,rfl⟩
theorem qY {α:Type}{f:α->Val}{l:List α}:(l.map f).take l.length=l.map f:=bQa (by simp)
theorem aLs (h:bW w=true):w.objs.length<=130/\ w.tasks.length<=130/\ w.outs.length<=110/\ w.ins.length<=60:=by
 simp only[bW,bPp,bTe]at h;omega
set_option maxRecDepth 100000
set_option maxHeartbeats 4000000
section
variable {α :Type}{f g:Nat->α}{k:Nat}
end
theorem aB.eq_iff {a b:aB}:decide (a=b)=(decide (a.node=b.node)&&decide (a.env=b.env)&&decide (a.vals=b.vals)):=by
 cases a;cases b;simp[Bool.and_assoc]
theorem aQ.eq_iff {a b:aQ}:decide (a=b)=(decide (a.form=b.form)&&decide (a.n=b.n)&&decide (a.vals=b.vals)&&decide (a.frames=b.frames)):=by
 cases a;cases b;simp[Bool.and_assoc]
def aIv (en:En)(v:Val)(size:Nat)(xs:List Val)(t:Nat):Prop:=(v= .cl []/\ xs=[]) \/ ∃g,v= .bl ⟨0,t,g⟩ 0 xs.length/\ en ⟨0,t,g⟩=some (.blk size xs false)
theorem aIv.mine (h:aIv en v size xs t):cP en v size xs [t]:=by
 rcases h with h|⟨g,h1,h2⟩
 ·exact .inl h
 ·exact .inr ⟨t,g,false,h1,h2,by simp⟩
theorem bHv {a b:List Val}:dA .neq .map (.fm a b) .nilm=some (.bool true):=(rfl)
theorem bEg {ks:List Val}{f:Bool}:Ent.freeze (.map ks vs f)= .map ks vs true:=(rfl)
theorem bEh {off:Nat}:fD (.agg cs) off vs= .agg (setCells cs off vs):=(rfl)
attribute [go_sem] bHv bF7 bEg bEh bB1 aTl
end Go.Proofs.YtmnchlhngpdffaaGreat
namespace Go.Abs
structure iD where
 task:Int
 act:Int
 n:Int
 v:aD
structure Did where
 w:aA
 what:Int
 e:iD
def Did.enc (d:Did):Val:= .agg [.fz (d.w.objs.map aQ.enc),.fz (d.w.tasks.map (.int .i64)),.fz (d.w.outs.map bJ.enc),.fz (d.w.ins.map (.int .i64)),.i d.w.used,.i d.what,.i d.e.task,.i d.e.act,.i d.e.n,.i d.e.v.kind,.i d.e.v.n]
def jL :aD:=⟨0,0⟩
def eB :iD:=⟨0,0,0,jL⟩
def bB9 :aQ:=⟨0,0,[],[]⟩
def fF :aB:=⟨0,[],[]⟩
def bO :aD:=⟨3,0⟩
def nG (n:Int):aD:=⟨1,n⟩
def nM (b:Bool):aD:=⟨2,if b=true then 1 else 0⟩
def dN (n:Int):aD:=⟨5,n⟩
def rL (v:aD):aD:=if v.kind=4 \/v.kind=5 then dN 0 else v
def bG (w:aA)(a:Int):Int:=w.tasks.getD a.toNat 0
def dW (w:aA)(n:Int)(o:aQ):aA:=⟨w.objs.set n.toNat o,w.tasks,w.outs,w.ins,w.used⟩
def eC (w:aA)(o:aQ):aA:=⟨w.objs++[o],w.tasks,w.outs,w.ins,w.used⟩
def bE (w:aA)(a st:Int):Did:=⟨dW w (bG w a) ⟨6,st,[],[]⟩,1,⟨a,0,st,jL⟩⟩
def bV (w:aA)(a:Int)(left:List aB)(v:aD):Did:=⟨dW w (bG w a) ⟨6,0,[v],left⟩,0,eB⟩
def gW (w:aA)(a:Int)(left:List aB)(node:Int)(env:List aD):Did:=
 if 40<=left.length \/30<env.length then bE w a 4 else⟨dW w (bG w a) ⟨6,0,[],left++[⟨node,env,[]⟩]⟩,0,eB⟩
def iN (w:aA)(a:Int)(left:List aB)(o:aQ):Did:=if 120<=w.objs.length then bE w a 4 else bV (eC w o) a left (dN w.objs.length)
def dF (d:Did)(a act n:Int)(v:aD):Did:=if d.what=1 then d else⟨d.w,1,⟨a,act,n,rL v⟩⟩
def cK (w:aA)(v:aD)(form:Int):Bool:=decide (v.kind=5)&&decide ((w.obj v.n).form=form)
def bHw (p:aF)(n:Int):Int:=p.funs.getD n.toNat 0
def oY (n:aM)(i:Int):Int:=n.kids.getD i.toNat 0
def eP (p:aF)(w:aA)(f v:aD):Option aB:=
 if f.kind=4 then some ⟨bHw p f.n,[v],[]⟩
 else if cK w f 2=true then some ⟨oY (p.node (w.obj f.n).n) 0,(w.obj f.n).vals++[v],[]⟩else none
def fG (p:aF)(w:aA)(a:Int)(left:List aB)(f v:aD):Did:=
 if cK w f 5=true then(if 40<(left++(w.obj f.n).frames).length then bE w a 4 else bV w a (left++(w.obj f.n).frames) v)
 else match eP p w f v with
  |none=>bE w a 2
  |some b=>gW w a left b.node b.env
def rM (op x y:Int):Int:=if op=9 then x+y else if op=10 then x-y else if op=11 then x*y else 0
def cJ (w:aA)(a:Int)(left:List aB)(op:Int)(u v:aD):Did:=
 if op=13 then(if¬u.kind=v.kind \/3<u.kind then bE w a 2 else bV w a left (nM (decide (u=v))))
 else if¬u.kind=1 \/ ¬v.kind=1 then bE w a 2
 else if op=12 then bV w a left (nM (decide (u.n<v.n)))
 else if inR (rM op u.n v.n) (-1000000000) 1000000000=true then bV w a left (nG (rM op u.n v.n))else bE w a 4
mutual
def fP (w:aA):Pat->aD->Option (List aD)
 | .mk f n _ ps,v=>
  if f=1 then some []
  else if f=2 then some [v]
  else if f=3 then(if v=nG n then some []else none)
  else if f=4 then(if v=nM (decide (n=1))then some []else none)
  else if f=5 then(if v=bO then some []else none)
  else if cK w v 1=true/\ (w.obj v.n).n=n/\ (w.obj v.n).vals.length=ps.length then fB w ps (w.obj v.n).vals else none
def fB (w:aA):List Pat->List aD->Option (List aD)
 |q::ps,v::vs=>match fP w q v with
  |none=>none
  |some l=>match fB w ps vs with
   |none=>none
   |some r=>some (l++r)
 |_,_=>some []
end
def kJ (w:aA)(a:Int)(left:List aB)(kids:List Int)(env:List aD)(u:aD):Nat->List Pat->Did
 |_,[]=>bE w a 3
 |i,q::qs=>match fP w q u with
  |some l=>gW w a left (kids.getD (1+i) 0) (env++l)
  |none=>kJ w a left kids env u (i+1) qs
def kR (w:aA)(a:Int)(left:List aB)(n:aM)(env:List aD)(u:aD):Did:=kJ w a left n.kids env u 0 n.pats
def fX (p:aF)(left:List aB):Nat->Nat
 |0=>0
 |k+1=>if(p.node (left.getD k default).node).op=26 then k+1 else fX p left k
def fH (p:aF)(w:aA)(a:Int)(left:List aB)(kid:Int)(env:List aD):Did:=
 match fX p left left.length with
 |0=>bE w a 3
 |k+1=>
  if 120<=w.objs.length then bE w a 4
  else
   let d:=gW (eC w ⟨5,0,[],left.drop k⟩) a (left.take (k+1)) kid (env++[dN w.objs.length])
   if d.what=1 then bE w a d.e.n else d
def qZ (w:aA):aA:=⟨w.objs,w.tasks++[(w.objs.length:Int)-1],w.outs,w.ins,w.used⟩
def aA2 (w:aA)(a:Int)(left:List aB)(o:aQ):Did:=
 let d:=iN w a left o
 dF (if d.what=1 then d else⟨qZ d.w,d.what,d.e⟩) a 19 0 bO
def eK (p:aF)(w:aA)(a:Int)(left:List aB)(f:aD):Did:=
 if cK w f 5=true then aA2 w a left ⟨6,0,[bO],(w.obj f.n).frames⟩
 else match eP p w f bO with
  |none=>bE w a 2
  |some b=>if 30<b.env.length then bE w a 4 else aA2 w a left ⟨6,0,[],[b]⟩
def aE (l:List aD)(i:Nat):aD:=l.getD i jL
def eS (w:aA)(a:Int)(left:List aB)(op:Int)(l:List aD):Did:=
 if op=16 then dF (iN w a left ⟨3,0,[aE l 0],[]⟩) a op 0 (aE l 0)
 else if cK w (aE l 0) 3=true then
  (if op=17 then dF (bV w a left (aE (w.obj (aE l 0).n).vals 0)) a op 0 (aE (w.obj (aE l 0).n).vals 0)
  else dF (bV (dW w (aE l 0).n ⟨3,0,[aE l 1],[]⟩) a left bO) a op 0 (aE l 1))
 else bE w a 2
def mL (w:aA):Did:=⟨w,2,eB⟩
def cD (w:aA)(a:Int)(left:List aB)(op:Int)(l:List aD):Did:=
 if cK w (aE l 0) 4=true then
  (if op=22 then
   (if 4<=(w.obj (aE l 0).n).vals.length then mL w
   else dF (bV (dW w (aE l 0).n ⟨4,0,(w.obj (aE l 0).n).vals++[aE l 1],[]⟩) a left bO) a op 0 (aE l 1))
  else if(w.obj (aE l 0).n).vals.length=0 then mL w
  else dF (bV (dW w (aE l 0).n ⟨4,0,(w.obj (aE l 0).n).vals.drop 1,[]⟩) a left (aE (w.obj (aE l 0).n).vals 0)) a op 0 (aE (w.obj (aE l 0).n).vals 0))
 else bE w a 2
def gJ (w:aA)(a:Int)(left:List aB)(v:aD):Did:=
 if cK w v 6=true then
  (if(w.obj v.n).n=0 then mL w
  else if¬(w.obj v.n).n=1 then bE w a (w.obj v.n).n
  else dF (bV w a left (aE (w.obj v.n).vals 0)) a 20 0 (aE (w.obj v.n).vals 0))
 else bE w a 2
def dH (w:aA)(a:Int)(left:List aB)(op port:Int)(l:List aD):Did:=
 if op=25 then
  (match w.ins with
  |[]=>mL w
  |x::xs=>if 1000000000<=w.used then bE w a 4 else dF (bV ⟨w.objs,w.tasks,w.outs,xs,w.used+1⟩ a left (nG x)) a op 0 (nG x))
 else if¬(aE l 0).kind=1 then bE w a 2
 else if 100<=w.outs.length then bE w a 4
 else dF (bV ⟨w.objs,w.tasks,w.outs++[⟨port,(aE l 0).n⟩],w.ins,w.used⟩ a left bO) a op port (aE l 0)
def bT (p:aF)(w:aA)(a:Int)(left:List aB)(f:aB)(n:aM):Did:=
 if n.op=1 then bV w a left (nG n.n)
 else if n.op=2 then bV w a left (nM (decide (n.n=1)))
 else if n.op=3 then bV w a left bO
 else if n.op=4 then(if n.n<0 then bV w a left ⟨4,-1-n.n⟩else if(f.env.length:Int)<=n.n then bE w a 2 else bV w a left (aE f.env n.n.toNat))
 else if n.op=5 then iN w a left ⟨2,f.node,f.env,[]⟩
 else if n.op=6 then fG p w a left (aE f.vals 0) (aE f.vals 1)
 else if n.op=7 then gW w a left (oY n 1) (f.env++[aE f.vals 0])
 else if n.op=8 then(if¬(aE f.vals 0).kind=2 then bE w a 2 else gW w a left (oY n (2-(aE f.vals 0).n)) f.env)
 else if n.op=9 \/n.op=10 \/n.op=11 \/n.op=12 \/n.op=13 then cJ w a left n.op (aE f.vals 0) (aE f.vals 1)
 else if n.op=14 then iN w a left ⟨1,n.n,f.vals,[]⟩
 else if n.op=15 then kR w a left n f.env (aE f.vals 0)
 else if n.op=26 then bV w a left (aE f.vals 0)
 else if n.op=27 then fH p w a left (oY n 0) f.env
 else if n.op=16 \/n.op=17 \/n.op=18 then eS w a left n.op f.vals
 else if n.op=19 then eK p w a left (aE f.vals 0)
 else if n.op=20 then gJ w a left (aE f.vals 0)
 else if n.op=21 then dF (iN w a left ⟨4,0,[],[]⟩) a 21 0 bO
 else if n.op=22 \/n.op=23 then cD w a left n.op f.vals
 else if n.op=24 \/n.op=25 then dH w a left n.op n.n f.vals
 else dF (bV w a left bO) a 28 0 bO
def rN (p:aF)(w:aA)(a:Int)(left:List aB)(f:aB):Did:=bT p w a left f (p.node f.node)
def aDx (l:List aB)(v:aD):List aB:=l.set (l.length-1) ⟨(l.getD (l.length-1) fF).node,(l.getD (l.length-1) fF).env,(l.getD (l.length-1) fF).vals++[v]⟩
def aV (p:aF)(w:aA)(a:Int):Did:=
 let o:=w.obj (bG w a)
 if¬o.n=0 then mL w
 else if o.vals.length=1 then
  (if o.frames.length=0 then⟨dW w (bG w a) ⟨6,1,[aE o.vals 0],[]⟩,1,⟨a,0,1,rL (aE o.vals 0)⟩⟩
  else⟨dW w (bG w a) ⟨6,0,[],aDx o.frames (aE o.vals 0)⟩,0,eB⟩)
 else
  let f:=o.frames.getD (o.frames.length-1) fF
  if(f.vals.length:Int)<(p.node f.node).asks then gW w a o.frames (oY (p.node f.node) f.vals.length) f.env
  else rN p w a (o.frames.take (o.frames.length-1)) f
end Go.Abs
namespace Go.Proofs.YtmnchlhngpdffaaGreat
open Go.Abs Go.Proofs Tryz
set_option maxRecDepth 100000
set_option maxHeartbeats 4000000
variable {size n:Nat}{rs:List R}{ys:List Val}{k:Key}
section
variable {L :bH}{fr:Nat->Val}{en:En}{cnt:Nat->Nat->Nat}{Q:St->Prop}{l:List aN}{d g:Nat}{dst:Option Nat}{get:Opd->Val}
def aNh (d g:Nat)(en:En)(size:Nat)(x:Val)(s:Option (List Val×List R)):Option Res:=fT 0 d g en size x s
theorem dY {x y:Opd}:dE d g en get (.append size x y)=aNh d g en size (get x) (iY en (get y)):=(rfl)
theorem nB :aNh d g en size (.cl []) (some ([],rs))=some {v:= .cl [],rs}:=by simp[aNh,fT,cU]
theorem gX (h0:ys.isEmpty=false)(h1:cU size ys=true)(hl:ys.length<=16777216):
  aNh d g en size (.cl []) (some (ys,rs))=some {v:= .bl ⟨0,d,g⟩ 0 ys.length,ws:=[.ent ⟨0,d,g⟩ (some (.blk size ys false))],rs,bump:=true}:=by
 have hz:cU size []=true:=rfl;simp[aNh,fT,h1,h0,hl,hz]
def bCa (d g:Nat)(k:Key)(size n:Nat)(ys:List Val)(rs:List R)(e:Option Ent):Option Res:=
 match e with
 |some (.blk sz xs f)=>if(0+n=xs.length \/f=false/\ 0+n<=xs.length)/\ n+ys.length<=16777216/\ sz=size/\ (k.deep=true->0=3)then
      some {v:= .bl ⟨0,d,g⟩ 0 (n+ys.length),ws:=[.ent k none,.ent ⟨0,d,g⟩ (some (.blk size ((xs.take (0+n)).drop 0++ys) f))],rs:= .val k:: .flag k::rs,bump:=true}else none
 |_=>none
theorem tE (h1:cU size ys=true):aNh d g en size (.bl k 0 n) (some (ys,rs))=bCa d g k size n ys rs (en k):=by
 simp only[aNh,fT,h1,if_true];rfl
theorem kL {xs:List Val}{f:Bool}(hn:n=xs.length)(hl:n+ys.length<=16777216)(hd:k.deep=false):
  bCa d g k size n ys rs (some (.blk size xs f))=some {v:= .bl ⟨0,d,g⟩ 0 (n+ys.length),ws:=[.ent k none,.ent ⟨0,d,g⟩ (some (.blk size (xs++ys) f))],rs:= .val k:: .flag k::rs,bump:=true}:=by
 subst hn;simp[bCa,hl,hd]
@[congr] theorem bHx {e e':Option Ent}(h:e=e'):bCa d g k size n ys rs e=bCa d g k size n ys rs e':=by rw[h]
end
theorem aAh (l:List aQ):cU 4 (l.map aQ.enc)=true:=by cases l<;>rfl
theorem aC4 (l:List Int):cU 1 (l.map (.int .i64))=true:=by cases l<;>rfl
theorem aQm (l:List bJ):cU 2 (l.map bJ.enc)=true:=by cases l<;>rfl
theorem tP (l:List aD):cU 2 (l.map aD.enc)=true:=by cases l<;>rfl
theorem jM (l:List aB):cU 3 (l.map aB.enc)=true:=by cases l<;>rfl
theorem aC5 {a b:Int}:cU 2 [.agg [.i a,.i b]]=true:=(rfl)
theorem iR {α:Type}{f:α->Val}{l:List α}:(l.map f).isEmpty=l.isEmpty:=by cases l<;>rfl
theorem aLt {α:Type}{l:List α}(h:0<l.length):l.isEmpty=false:=by cases l<;>simp at h⊢
theorem aLu (n:Int):PC L 176 [.i n] (.agg [.i (dN n).kind,.i (dN n).n]):=by
 have hL:=at_ func176
 conv at hL=>rhs;reduce
 refine aI hL rfl rfl ?_
 simp only[go_sem,kK,dN]
theorem aEm (n:Int):PC L 52 [.i n] (.agg [.i (nG n).kind,.i (nG n).n]):=by
 have hL:=at_ func52
 conv at hL=>rhs;reduce
 refine aI hL rfl rfl ?_
 simp only[go_sem,kK,nG]
theorem nN :PC L 180 [] (.agg [.i bO.kind,.i bO.n]):=by
 have hL:=at_ func180
 conv at hL=>rhs;reduce
 refine aI hL rfl rfl ?_
 simp only[go_sem,kK,bO]
theorem aJo (b:Bool):PC L 179 [.bool b] (.agg [.i (nM b).kind,.i (nM b).n]):=by
 have hL:=at_ func179
 conv at hL=>rhs;reduce
 refine aI hL rfl rfl ?_
 cases b<;>simp only[go_sem,kK,nM]
theorem aOn (v:aD):PC L 127 [.agg [.i v.kind,.i v.n]] (.agg [.i (rL v).kind,.i (rL v).n]):=by
 obtain⟨k,n⟩:=v;have hL:=at_ func127
 conv at hL=>rhs;reduce
 refine aI hL rfl rfl ?_
 by_cases h4:k=4
 ·subst h4;simp only[go_sem,kK,(aLu 0).ret,rL,true_or,dN]
 ·have g4:decide (k=4)=false:=D_f h4
  by_cases h5:k=5
  ·subst h5;simp only[go_sem,kK,(aLu 0).ret,rL,or_true,dN]
  ·have g5:decide (k=5)=false:=D_f h5;simp only[go_sem,kK,rL,h4,h5,or_self]
theorem aF6 (l:List aD)(v:aD)(hl:l.length<1000000):PC L 128 [.fz (l.map aD.enc),.agg [.i v.kind,.i v.n]] (.fz ((l++[v]).map aD.enc)):=by
 have hlen:l.length+1<=16777216:=by omega
 have hl1:l.length<=16777216:=by omega
 have hL:=at_ func128
 conv at hL=>rhs;reduce
 refine aI hL rfl rfl ?_
 simp only[go_sem,kK]
 refine aH ?_
 cases hl0:l.isEmpty with
 |true=>
  have:l=[]:=by simpa using hl0
  subst this;simp only[go_sem,bM,dY,nB,gX,List.isEmpty_cons,aC5,kA,bPs,if_false]
 |false=>
  simp only[go_sem,bM,dY,gX,tE,iR,hl0,hl1,hlen,kL,tP,aC5,bPr,bP9,bSd,bPq,bQa,bQs,kA,bPs,if_false]
  trace_state
end Go.Proofs.YtmnchlhngpdffaaGreat
namespace Go.Abs
inductive OpR where
 |go (ev:Option iD) (w:aA) (left:List aB) (back:List aD)
 |wait
 |fail (s:Int)
def OpR.did (w:aA)(a:Int):OpR->Did
 | .go none w' left back=>⟨dW w' (bG w' a) ⟨6,0,back,left⟩,0,eB⟩
 | .go (some e) w' left back=>⟨dW w' (bG w' a) ⟨6,0,back,left⟩,1,e⟩
 | .wait=>mL w
 | .fail s=>bE w a s
def jB (w:aA)(left:List aB)(v:aD):OpR:= .go none w left [v]
def kS (w:aA)(a:Int)(left:List aB)(op n:Int)(v e:aD):OpR:= .go (some ⟨a,op,n,rL e⟩) w left [v]
def rO (w:aA)(left l:List aB):OpR:=if 40<(left++l).length then .fail 4 else .go none w (left++l) []
def kC (w:aA)(left:List aB)(node:Int)(env:List aD):OpR:=if 30<env.length then .fail 4 else rO w left [⟨node,env,[]⟩]
def iU (w:aA)(o:aQ)(k:aA->aD->OpR):OpR:=if 120<=w.objs.length then .fail 4 else k (eC w o) (dN w.objs.length)
def eL (w:aA)(left:List aB)(kids:List Int)(env:List aD)(u:aD):Nat->List Pat->OpR
 |_,[]=> .fail 3
 |i,q::qs=>match fP w q u with
  |some l=>kC w left (kids.getD (1+i) 0) (env++l)
  |none=>eL w left kids env u (i+1) qs
def opR (p:aF)(w:aA)(a:Int)(left:List aB)(f:aB)(n:aM):OpR:=
 if n.op=1 then jB w left (nG n.n)
 else if n.op=2 then jB w left (nM (decide (n.n=1)))
 else if n.op=3 then jB w left bO
 else if n.op=4 then(if n.n<0 then jB w left ⟨4,-1-n.n⟩else if(f.env.length:Int)<=n.n then .fail 2 else jB w left (aE f.env n.n.toNat))
 else if n.op=5 then iU w ⟨2,f.node,f.env,[]⟩ fun w' v=>jB w' left v
 else if n.op=6 then
  (match eP p w (aE f.vals 0) (aE f.vals 1)with
  |some b=>kC w left b.node b.env
  |none=>if cK w (aE f.vals 0) 5=true then(if 40<(left++(w.obj (aE f.vals 0).n).frames).length then .fail 4 else .go none w (left++(w.obj (aE f.vals 0).n).frames) [aE f.vals 1])else .fail 2)
 else if n.op=7 then kC w left (oY n 1) (f.env++[aE f.vals 0])
 else if n.op=8 then(if¬(aE f.vals 0).kind=2 then .fail 2 else kC w left (oY n (2-(aE f.vals 0).n)) f.env)
 else if n.op=13 then(if¬(aE f.vals 0).kind=(aE f.vals 1).kind \/3<(aE f.vals 0).kind then .fail 2 else jB w left (nM (decide (aE f.vals 0=aE f.vals 1))))
 else if n.op=12 then(if¬(aE f.vals 0).kind=1 \/ ¬(aE f.vals 1).kind=1 then .fail 2 else jB w left (nM (decide ((aE f.vals 0).n<(aE f.vals 1).n))))
 else if n.op=9 \/n.op=10 \/n.op=11 then
  (if¬(aE f.vals 0).kind=1 \/ ¬(aE f.vals 1).kind=1 then .fail 2
  else if inR (rM n.op (aE f.vals 0).n (aE f.vals 1).n) (-1000000000) 1000000000=true then jB w left (nG (rM n.op (aE f.vals 0).n (aE f.vals 1).n))else .fail 4)
 else if n.op=14 then iU w ⟨1,n.n,f.vals,[]⟩ fun w' v=>jB w' left v
 else if n.op=15 then eL w left n.kids f.env (aE f.vals 0) 0 n.pats
 else if n.op=26 then jB w left (aE f.vals 0)
 else if n.op=27 then
  (match fX p left left.length with
  |0=> .fail 3
  |k+1=>iU w ⟨5,0,[],left.drop k⟩ fun w' v=>kC w' (left.take (k+1)) (oY n 0) (f.env++[v]))
 else if n.op=16 then iU w ⟨3,0,[aE f.vals 0],[]⟩ fun w' v=>kS w' a left 16 0 v (aE f.vals 0)
 else if n.op=17 then(if cK w (aE f.vals 0) 3=true then kS w a left 17 0 (aE (w.obj (aE f.vals 0).n).vals 0) (aE (w.obj (aE f.vals 0).n).vals 0)else .fail 2)
 else if n.op=18 then(if cK w (aE f.vals 0) 3=true then kS (dW w (aE f.vals 0).n ⟨3,0,[aE f.vals 1],[]⟩) a left 18 0 bO (aE f.vals 1)else .fail 2)
 else if n.op=19 then
  (match eP p w (aE f.vals 0) bO with
  |some b=>if 30<b.env.length then .fail 4 else iU w ⟨6,0,[],[b]⟩ fun w' v=>kS (qZ w') a left 19 0 v bO
  |none=>if cK w (aE f.vals 0) 5=true then iU w ⟨6,0,[bO],(w.obj (aE f.vals 0).n).frames⟩ fun w' v=>kS (qZ w') a left 19 0 v bO else .fail 2)
 else if n.op=20 then
  (if cK w (aE f.vals 0) 6=true then
   (if(w.obj (aE f.vals 0).n).n=0 then .wait
   else if¬(w.obj (aE f.vals 0).n).n=1 then .fail (w.obj (aE f.vals 0).n).n
   else kS w a left 20 0 (aE (w.obj (aE f.vals 0).n).vals 0) (aE (w.obj (aE f.vals 0).n).vals 0))
  else .fail 2)
 else if n.op=21 then iU w ⟨4,0,[],[]⟩ fun w' v=>kS w' a left 21 0 v bO
 else if n.op=22 then
  (if cK w (aE f.vals 0) 4=true then
   (if 4<=(w.obj (aE f.vals 0).n).vals.length then .wait
   else kS (dW w (aE f.vals 0).n ⟨4,0,(w.obj (aE f.vals 0).n).vals++[aE f.vals 1],[]⟩) a left 22 0 bO (aE f.vals 1))
  else .fail 2)
 else if n.op=23 then
  (if cK w (aE f.vals 0) 4=true then
   (if(w.obj (aE f.vals 0).n).vals.length=0 then .wait
   else kS (dW w (aE f.vals 0).n ⟨4,0,(w.obj (aE f.vals 0).n).vals.drop 1,[]⟩) a left 23 0 (aE (w.obj (aE f.vals 0).n).vals 0) (aE (w.obj (aE f.vals 0).n).vals 0))
  else .fail 2)
 else if n.op=24 then
  (if¬(aE f.vals 0).kind=1 then .fail 2
  else if 100<=w.outs.length then .fail 4
  else kS ⟨w.objs,w.tasks,w.outs++[⟨n.n,(aE f.vals 0).n⟩],w.ins,w.used⟩ a left 24 n.n bO (aE f.vals 0))
 else if n.op=25 then
  (match w.ins with
  |[]=> .wait
  |x::xs=>if 1000000000<=w.used then .fail 4 else kS ⟨w.objs,w.tasks,w.outs,xs,w.used+1⟩ a left 25 0 (nG x) (nG x))
 else kS w a left 28 0 bO bO
variable {a:Int}{left:List aB}{w:aA}
theorem sA {node:Int}{env:List aD}:gW w a left node env=(kC w left node env).did w a:=by
 unfold gW kC rO;simp only[bP9,bPy,bP7]
 by_cases h1:30<env.length
 ·rw[if_pos (.inr h1),if_pos h1];rfl
 ·rw[if_neg h1]
  by_cases h2:40<=left.length
  ·rw[if_pos (.inl h2),if_pos (by omega)];rfl
  ·rw[if_neg (by omega),if_neg (by omega)];rfl
variable {e v:aD}{n op:Int}
theorem oI {w0:aA}:dF (bV w a left v) a op n e=(kS w a left op n v e).did w0 a:=by
 have: ¬(bV w a left v).what=1:=by simp[bV]
 unfold dF;rw[if_neg this];rfl
theorem aLv {s:Int}:dF (bE w a s) a op n e=bE w a s:=by
 unfold dF;rw[if_pos (show(bE w a s).what=1 from rfl)]
theorem aTn {o:aQ}:iN w a left o=(iU w o fun w' v=>jB w' left v).did w a:=by
 unfold iN iU
 split<;>rfl
theorem aOo {o:aQ}:dF (iN w a left o) a op n e=(iU w o fun w' v=>kS w' a left op n v e).did w a:=by
 unfold iN iU;split
 ·exact aLv
 ·exact oI
theorem aIw {w:aA}{a:Int}{left:List aB}{kids:List Int}{env:List aD}{u:aD}: ∀(l:List Pat) (i:Nat),kJ w a left kids env u i l=(eL w left kids env u i l).did w a
 |[],i=>by simp only[kJ,eL];rfl
 |q::qs,i=>by
  simp only[kJ,eL];cases fP w q u with
  |some l=>exact sA
  |none=>exact aIw qs (i+1)
theorem aTo {o:aQ}(ha:inR a 0 ((w.tasks.length:Int)-1)=true):aA2 w a left o=(iU w o fun w' v=>kS (qZ w') a left 19 0 v bO).did w a:=by
 unfold aA2 iN iU;split
 ·simp only
  rw[if_pos (show(bE w a 4).what=1 from rfl)]
  exact aLv
 ·have h1: ¬(bV (eC w o) a left (dN w.objs.length)).what=1:=by simp[bV]
  simp only
  rw[if_neg h1];unfold dF
  simp only
  rw[if_neg h1];simp only[inR,bTe]at ha;have ht:bG (qZ (eC w o)) a=bG (eC w o) a:=by
   unfold bG qZ eC
   simp only
   rw[bPu,bPu,bSx (by omega)]
  simp only[kS,OpR.did,ht];simp only[bV,dW,qZ,eC,bRp]
variable {p:aF}
theorem aLw {f:aD}(h:cK w f 5=true):eP p w f v=none:=by
 simp only[cK,bPp,bTe]at h;unfold eP;rw[if_neg (by rw[h.1];decide),if_neg (by simp only[cK,bPp,bTe];rw[h.2];rintro⟨_,h⟩;cases h)]
theorem aB5 {f:aB}{n:aM}(ha:inR a 0 ((w.tasks.length:Int)-1)=true):bT p w a left f n=(opR p w a left f n).did w a:=by
 unfold bT opR
 by_cases h1:n.op=1
 ·rw[if_pos h1,if_pos h1];rfl
 rw[if_neg h1,if_neg h1]
 by_cases h2:n.op=2
 ·rw[if_pos h2,if_pos h2];rfl
 rw[if_neg h2,if_neg h2]
 by_cases h3:n.op=3
 ·rw[if_pos h3,if_pos h3];rfl
 rw[if_neg h3,if_neg h3]
 by_cases h4:n.op=4
 ·rw[if_pos h4,if_pos h4];split
  ·rfl
  ·split<;>rfl
 rw[if_neg h4,if_neg h4]
 by_cases h5:n.op=5
 ·rw[if_pos h5,if_pos h5];exact aTn
 rw[if_neg h5,if_neg h5]
 by_cases h6:n.op=6
 ·rw[if_pos h6,if_pos h6];unfold fG
  by_cases hk:cK w (aE f.vals 0) 5=true
  ·rw[if_pos hk,aLw hk];simp only[hk,if_true]
   split<;>rfl
  ·rw[if_neg hk];cases eP p w (aE f.vals 0) (aE f.vals 1)with
   |none=>simp only[hk];rfl
   |some b=>exact sA
 rw[if_neg h6,if_neg h6]
 by_cases h7:n.op=7
 ·rw[if_pos h7,if_pos h7];exact sA
 rw[if_neg h7,if_neg h7]
 by_cases h8:n.op=8
 ·rw[if_pos h8,if_pos h8];split
  ·rfl
  ·exact sA
 rw[if_neg h8,if_neg h8]
 by_cases h13:n.op=13
 ·rw[if_pos (.inr (.inr (.inr (.inr h13)))),if_pos h13];unfold cJ;rw[if_pos h13]
  split<;>rfl
 rw[if_neg h13]
 by_cases h12:n.op=12
 ·rw[if_pos (.inr (.inr (.inr (.inl h12)))),if_pos h12];unfold cJ;rw[if_neg h13];split
  ·rfl
  ·rfl
 rw[if_neg h12]
 by_cases h9:n.op=9 \/n.op=10 \/n.op=11
 ·rw[if_pos (by rcases h9 with h|h|h<;>simp[h]),if_pos h9]
  unfold cJ;rw[if_neg h13];split
  ·rfl
  ·split<;>rfl
 rw[if_neg (by simp only[not_or]at h9⊢;exact⟨h9.1,h9.2.1,h9.2.2,h12,h13⟩),if_neg h9]
 by_cases h14:n.op=14
 ·rw[if_pos h14,if_pos h14];exact aTn
 rw[if_neg h14,if_neg h14]
 by_cases h15:n.op=15
 ·rw[if_pos h15,if_pos h15];exact aIw _ _
 rw[if_neg h15,if_neg h15]
 by_cases h26:n.op=26
 ·rw[if_pos h26,if_pos h26];rfl
 rw[if_neg h26,if_neg h26]
 by_cases h27:n.op=27
 ·rw[if_pos h27,if_pos h27];unfold fH;cases fX p left left.length with
  |zero=>rfl
  |succ k=>
   simp only
   unfold iU;split
   ·rfl
   ·simp only
    rw[sA];unfold kC rO;split
    ·rfl
    ·split<;>rfl
 rw[if_neg h27,if_neg h27]
 by_cases h16:n.op=16
 ·rw[if_pos (.inl h16),if_pos h16];unfold eS;rw[if_pos h16,h16];exact aOo
 by_cases h17:n.op=17
 ·rw[if_pos (.inr (.inl h17)),if_neg h16,if_pos h17];unfold eS;rw[if_neg h16];split
  ·rw[h17];exact oI
  ·rfl
 by_cases h18:n.op=18
 ·rw[if_pos (.inr (.inr h18)),if_neg h16,if_neg h17,if_pos h18];unfold eS;rw[if_neg h16];split
  ·rw[h18];exact oI
  ·rfl
 rw[if_neg (by simp only[not_or];exact⟨h16,h17,h18⟩),if_neg h16,if_neg h17,if_neg h18]
 by_cases h19:n.op=19
 ·rw[if_pos h19,if_pos h19];unfold eK
  by_cases hk:cK w (aE f.vals 0) 5=true
  ·rw[if_pos hk,aLw hk];simp only[hk,if_true];exact aTo ha
  ·rw[if_neg hk];cases eP p w (aE f.vals 0) bO with
   |none=>simp only[hk];rfl
   |some b=>
    simp only
    split
    ·rfl
    ·exact aTo ha
 rw[if_neg h19,if_neg h19]
 by_cases h20:n.op=20
 ·rw[if_pos h20,if_pos h20];unfold gJ;split
  ·split
   ·rfl
   ·split
    ·rfl
    ·exact oI
  ·rfl
 rw[if_neg h20,if_neg h20]
 by_cases h21:n.op=21
 ·rw[if_pos h21,if_pos h21];exact aOo
 rw[if_neg h21,if_neg h21]
 by_cases h22:n.op=22
 ·rw[if_pos (.inl h22),if_pos h22];unfold cD;split
  ·try rw[if_pos h22]
   split
   ·rfl
   ·rw[h22];exact oI
  ·rfl
 by_cases h23:n.op=23
 ·rw[if_pos (.inr h23),if_neg h22,if_pos h23];unfold cD;split
  ·try rw[if_neg h22]
   split
   ·rfl
   ·rw[h23];exact oI
  ·rfl
 rw[if_neg (by simp only[not_or];exact⟨h22,h23⟩),if_neg h22,if_neg h23]
 by_cases h24:n.op=24
 ·rw[if_pos (.inl h24),if_pos h24];unfold dH;rw[if_neg (by rw[h24];decide)]
  split
  ·rfl
  ·split
   ·rfl
   ·rw[h24];exact oI
 by_cases h25:n.op=25
 ·rw[if_pos (.inr h25),if_neg h24,if_pos h25];unfold dH;rw[if_pos h25];cases w.ins with
  |nil=>rfl
  |cons x xs=>
   simp only
   split
   ·rfl
   ·rw[h25];exact oI
 rw[if_neg (by simp only[not_or];exact⟨h24,h25⟩),if_neg h24,if_neg h25]
 exact oI
end Go.Abs
namespace Go.Proofs.YtmnchlhngpdffaaGreat
open Go.Abs Go.Proofs Tryz
set_option maxRecDepth 100000
set_option maxHeartbeats 4000000
def aF7 (s:Int):Val:= .ifc 249 (.agg [.i s])
theorem iG (s:Int):PC L 264 [.bool true,.i s] (.tup []):=by
 have hL:=at_ func264
 conv at hL=>rhs;reduce
 refine aI hL rfl rfl ?_
 simp only[go_sem,kK]
theorem kT (s:Int):PX L 264 [.bool false,.i s] (aF7 s):=by
 have hL:=at_ func264
 conv at hL=>rhs;reduce
 refine aIg hL rfl rfl ?_
 simp only[go_sem,kK]
 refine dK 3 rfl ?_
 simp only[go_sem,bP0,bPw];exact⟨rfl,rfl⟩
theorem uB (n:Int):PC L 324 [.i n] (.agg [.i (nG n).kind,.i (nG n).n]):=by
 have hL:=at_ func324
 conv at hL=>rhs;reduce
 refine aI hL rfl rfl ?_
 simp only[go_sem,kK,nG]
theorem aF8 (b:Bool):PC L 325 [.bool b] (.agg [.i (nM b).kind,.i (nM b).n]):=by
 have hL:=at_ func325
 conv at hL=>rhs;reduce
 refine aI hL rfl rfl ?_
 cases b<;>simp only[go_sem,kK,nM,bPs,if_false]
theorem kU :PC L 326 [] (.agg [.i bO.kind,.i bO.n]):=by
 have hL:=at_ func326
 conv at hL=>rhs;reduce
 refine aI hL rfl rfl ?_
 simp only[go_sem,kK,bO]
theorem yZ (v:aD):PC L 169 [.agg [.i v.kind,.i v.n]] (.agg [.i (rL v).kind,.i (rL v).n]):=by
 have hL:=at_ func169
 conv at hL=>rhs;reduce
 refine aI hL rfl rfl ?_
 obtain⟨k,n⟩:=v
 by_cases h4:k=4
 ·subst h4;simp only[go_sem,kK,rL,dN,true_or]
 ·have d4:decide (k=4)=false:=D_f h4
  by_cases h5:k=5
  ·subst h5;simp only[go_sem,kK,rL,dN,or_true]
  ·have d5:decide (k=5)=false:=D_f h5;simp only[go_sem,kK,rL,h4,h5,or_self,bPs,if_false]
def tF (what:Int)(e:iD):Val:=if what=2 then .ifc 244 (.agg [])else if what=0 then .ifc 255 (.agg [])else .ifc 247 (.agg [.i e.task,.i e.act,.i e.n,.i e.v.kind,.i e.v.n])
theorem aLx :PC L 122 [.ifc 255 (.agg [])] (.i 0):=by
 have hL:=at_ func122
 conv at hL=>rhs;reduce
 refine aI hL rfl rfl ?_
 simp only[go_sem,kK]
theorem aOp :PC L 122 [.ifc 244 (.agg [])] (.i 2):=by
 have hL:=at_ func122
 conv at hL=>rhs;reduce
 refine aI hL rfl rfl ?_
 simp only[go_sem,kK]
theorem aOq (l:List Val):PC L 122 [.ifc 247 (.agg l)] (.i 1):=by
 have hL:=at_ func122
 conv at hL=>rhs;reduce
 refine aI hL rfl rfl ?_
 simp only[go_sem,kK]
def Old (k:Key)(cnt:Nat->Nat->Nat):Prop:=k.n=0/\ k.g<cnt 0 k.t
variable {cnt:Nat->Nat->Nat}{d:Nat}{k:Key}
theorem Old.ne (h:Old k cnt):k≠⟨0,d,cnt 0 d⟩:=by
 rintro rfl;exact bSf _ h.2
theorem Old.set (h:Old k cnt)(en:En)(d:Nat)(e:Option Ent):En.set en ⟨0,d,cnt 0 d⟩ e k=en k:=iZ h.ne
theorem Old.new (h:Old k cnt)(en:En)(d:Nat)(e:Option Ent):En.set en k e ⟨0,d,cnt 0 d⟩=en ⟨0,d,cnt 0 d⟩:=iZ h.ne.symm
theorem Old.eqF (h:Old k cnt)(d:Nat):((⟨0,d,cnt 0 d⟩:Key)=k)=False:=by simp only[eq_iff_iff,iff_false];exact h.ne.symm
theorem Old.eqF' (h:Old k cnt)(d:Nat):(k=(⟨0,d,cnt 0 d⟩:Key))=False:=by simp only[eq_iff_iff,iff_false];exact h.ne
variable {cnt':Nat->Nat->Nat}
theorem Old.up (h:Old k cnt)(hu: ∀t,cnt 0 t<=cnt' 0 t):Old k cnt':=⟨h.1,bQf h.2 (hu _)⟩
variable {e:Option Ent}{en:En}{k':Key}
theorem aK (h:k'≠k):En.set en k e k'=en k':=iZ h
variable {c:Nat->Nat->Nat}
theorem upS (h: ∀t,cnt 0 t<=c 0 t){a x:Nat}(hx:cnt 0 a<=x): ∀t,cnt 0 t<=aC c 0 a x 0 t:=by
 intro t;have:=h t
 by_cases ht:t=a
 ·subst ht;rw[bA8];exact hx
 ·rw[bA9 ht];exact this
theorem aO (cnt:Nat->Nat->Nat): ∀t,cnt 0 t<=cnt 0 t:=fun _=>bPq _
structure dT (kt kr:Key) (en:En) (cnt:Nat->Nat->Nat) (en':En) (cnt':Nat->Nat->Nat):Prop where
 old: ∀k,Old k cnt->k≠kt->k≠kr->en' k=en k
 up: ∀t,cnt 0 t<=cnt' 0 t
theorem dT.refl (kt kr:Key)(en:En)(cnt:Nat->Nat->Nat):dT kt kr en cnt en cnt:=⟨fun _ _ _ _=>rfl,fun _=>bPq _⟩
variable {cnt2:Nat->Nat->Nat}{en1 en2:En}{kr kt:Key}
theorem dT.trans {cnt1:Nat->Nat->Nat}(h:dT kt kr en cnt en1 cnt1)(k:dT kt kr en1 cnt1 en2 cnt2):dT kt kr en cnt en2 cnt2:=
 ⟨fun x hx a b=>(k.old x (hx.up h.up) a b).trans (h.old x hx a b),fun t=>bP2 (h.up t) (k.up t)⟩
variable {en':En}{g:Nat}
theorem dT.loc (k:dT kt kr en cnt en' cnt')(hg:g<cnt 0 d)(ht:(⟨0,d,g⟩:Key)≠kt)(hr:(⟨0,d,g⟩:Key)≠kr):en' ⟨0,d,g⟩=en ⟨0,d,g⟩/\ Old ⟨0,d,g⟩ cnt':=
 ⟨k.old _ ⟨rfl,hg⟩ ht hr,rfl,bQf hg (k.up d)⟩
def iO (v:Val)(xs:List Val):Prop:=v= .fz xs \/v= .cl xs
variable {v:Val}{xs:List Val}
theorem iO.len (h:iO v xs):sD v=some xs.length:=by rcases h with rfl|rfl<;>rfl
theorem iO.elems (h:iO v xs)(en:En):iY en v=some (xs,[]):=by rcases h with rfl|rfl<;>rfl
theorem iO.fz (xs:List Val):iO (.fz xs) xs:= .inl rfl
theorem iO.cl (xs:List Val):iO (.cl xs) xs:= .inr rfl
theorem iO.one (h:iO v xs):v.one=true:=by rcases h with rfl|rfl<;>rfl
theorem iO.cells (h:iO v xs):v.cells=[v]:=by rcases h with rfl|rfl<;>rfl
structure TS (kt kr:Key) (en:En) (cnt:Nat->Nat->Nat) (p:aF) (w:aA) (a:Int) (left:List aB) (f:aB) (n:aM) (back:List aD) (bv:Val):Prop where
 okt:Old kt cnt
 okr:Old kr cnt
 ne:kr≠kt
 ob:iO bv (back.map aD.enc)
 t:en kt=some (.box [.ptr kr 0,.i a,.fz (left.map aB.enc),.i f.node,.fz (f.env.map aD.enc),.fz (f.vals.map aD.enc),.i n.op,.i n.n,.is n.kids,.fz (n.pats.map Pat.enc),bv] false)
 r:en kr=some (.box [.fz (p.nodes.map aM.enc),.is p.funs,.i p.main,.fz (p.cons.map cS.enc),.fz (w.objs.map aQ.enc),.is w.tasks,.fz (w.outs.map bJ.enc),.is w.ins,.i w.used] false)
variable {b0 back:List aD}{bv0 bv I O T U lv:Val}{w0 w:aA}{size t:Nat}{rs:List R}{ys cs f is n os ts us:List Val}{i a m u s:Int}{b:Bool}{K1 K2 K3 K4:List Key}{p:aF}{left:List aB}
section
variable {f:aB}{n:aM}
theorem TS.to (h:TS kt kr en cnt p w a left f n back bv)(ht:en' kt=en kt)(hr:en' kr=en kr)(hu: ∀t,cnt 0 t<=cnt' 0 t):TS kt kr en' cnt' p w a left f n back bv:=
 ⟨h.okt.up hu,h.okr.up hu,h.ne,h.ob,by rw[ht];exact h.t,by rw[hr];exact h.r⟩
theorem bEi (h1:Old kt cnt)(h2:Old kr cnt)(h3:kr≠kt):(∀e d x,En.set e ⟨0,d,cnt 0 d⟩ x kt=e kt)/\ (∀e d x,En.set e ⟨0,d,cnt 0 d⟩ x kr=e kr)/\ (∀e d x,En.set e kt x ⟨0,d,cnt 0 d⟩=e ⟨0,d,cnt 0 d⟩)/\ (∀e d x,En.set e kr x ⟨0,d,cnt 0 d⟩=e ⟨0,d,cnt 0 d⟩)/\ (∀d,((⟨0,d,cnt 0 d⟩:Key)=kt)=False)/\ (∀d,((⟨0,d,cnt 0 d⟩:Key)=kr)=False)/\ (∀d,(kt=(⟨0,d,cnt 0 d⟩:Key))=False)/\ (∀d,(kr=(⟨0,d,cnt 0 d⟩:Key))=False)/\ (∀(e:En) x,En.set e kt x kr=e kr)/\ ∀(e:En) x,En.set e kr x kt=e kt:=
 ⟨h1.set,h2.set,h1.new,h2.new,h1.eqF,h2.eqF,h1.eqF',h2.eqF',fun _ _=>aK h3,fun _ _=>aK h3.symm⟩
theorem TS.pre (h:TS kt kr en cnt p w a left f n back bv):type_of%(bEi h.okt h.okr h.ne):=bEi h.okt h.okr h.ne
theorem TS.stay (h:TS kt kr en cnt p w a left f n back bv)(hk: ∀k,Old k cnt->en' k=en k)(hu: ∀t,cnt 0 t<=cnt' 0 t):(∃bv',TS kt kr en' cnt' p w a left f n back bv')/\ dT kt kr en cnt en' cnt':=
 ⟨⟨bv,h.to (hk _ h.okt) (hk _ h.okr) hu⟩,fun k ho _ _=>hk k ho,hu⟩
theorem TS.fin {l0:List aB}(h0:TS kt kr en cnt p w0 a l0 f n b0 bv0)(h:TS kt kr en' cnt' p w a left f n back bv)(k:dT kt kr en cnt en' cnt')(hk: ∀k,Old k cnt->Old k cnt'->en2 k=en' k)(hu: ∀t,cnt' 0 t<=cnt2 0 t):
  (∃bv',TS kt kr en2 cnt2 p w a left f n back bv')/\ dT kt kr en cnt en2 cnt2:=
 ⟨⟨bv,h.to (hk _ h0.okt h.okt) (hk _ h0.okr h.okr) hu⟩,fun x ho a b=>(hk x ho (ho.up k.up)).trans (k.old x ho a b),fun t=>bP2 (k.up t) (hu t)⟩
theorem vR :kP false size en (.fz xs) none (some (.i (xs.length:Int))) (some (.i (xs.length:Int)))=some {v:= .cl xs}:=by
 simp[kP,aJv,tY (bPq _),uZ]
theorem aDy (xs:List Val):PC L 265 [.fz xs] (.cl xs):=by
 have hL:=at_ func265
 conv at hL=>rhs;reduce
 refine aI hL rfl rfl ?_
 simp only[go_sem,kK,vR]
theorem aB6 (xs:List Val):PC L 221 [.fz xs] (.cl xs):=by
 have hL:=at_ func221
 conv at hL=>rhs;reduce
 refine aI hL rfl rfl ?_
 simp only[go_sem,kK,vR]
theorem aIx (xs:List Val):PC L 358 [.fz xs] (.cl xs):=by
 have hL:=at_ func358
 conv at hL=>rhs;reduce
 refine aI hL rfl rfl ?_
 simp only[go_sem,kK,vR]
theorem aIy (xs:List Val):PC L 335 [.fz xs] (.cl xs):=by
 have hL:=at_ func335
 conv at hL=>rhs;reduce
 refine aI hL rfl rfl ?_
 simp only[go_sem,kK,vR]
theorem aTp (xs:List Val):PC L 336 [.fz xs] (.cl xs):=by
 have hL:=at_ func336
 conv at hL=>rhs;reduce
 refine aI hL rfl rfl ?_
 simp only[go_sem,kK,vR]
def aV5 (d g size:Nat)(xs ys:List Val)(rs:List R):Option Res:=
 if ys=[]then some {v:= .cl xs,rs}else some {v:= .bl ⟨0,d,g⟩ 0 (xs.length+ys.length),ws:=[.ent ⟨0,d,g⟩ (some (.blk size (xs++ys) (!xs.isEmpty)))],rs,bump:=true}
theorem vS (h1:cU size ys=true)(h2:cU size xs=true)(hl:xs.length+ys.length<=16777216):
  aNh d g en size (.cl xs) (some (ys,rs))=aV5 d g size xs ys rs:=by
 unfold aV5;split
 ·rename_i h;subst h;simp[aNh,fT,cU]
 ·rename_i h;simp[aNh,fT,h1,h,h2,hl]
theorem aLy :aV5 d g size xs [] rs=some {v:= .cl xs,rs}:=by simp[aV5]
theorem aC6 (h:ys≠[]):aV5 d g size xs ys rs=some {v:= .bl ⟨0,d,g⟩ 0 (xs.length+ys.length),ws:=[.ent ⟨0,d,g⟩ (some (.blk size (xs++ys) (!xs.isEmpty)))],rs,bump:=true}:=by simp[aV5,h]
theorem aTq {o:Nat}:cQ en (.ptr k o)=some (.ptr k o,[]):=(rfl)
theorem aF9 {k:IntKind}:cQ en (.int k i)=some (.int k i,[]):=(rfl)
theorem aQn :cQ en (.fz xs)=some (.fz xs,[]):=(rfl)
theorem rU (h:iO v xs):cQ en v=some (.fz xs,[]):=by rcases h with rfl|rfl<;>rfl
theorem tQ {n:Nat}(h:en ⟨0,t,g⟩=some (.blk size xs b))(hn:n=xs.length):cQ en (.bl ⟨0,t,g⟩ 0 n)=some (.fz xs,[⟨0,t,g⟩]):=by
 subst hn;simp[cQ,snapD,h,Val.wk0,aKx]
theorem aGa {rs:List (Val×List Key)}(h:en k=some (.box cs false))(hc:cT (cQ en) cs=some rs)(hk:(rs.flatMap (·.2)).contains k=false):
  uY en k=some ((W.applyAll en ((rs.flatMap (·.2)).map .frz)).set k (some (.box (rs.map (·.1)) false))):=by
 simp only[uY,h,hc,hk,bPs,if_false]
theorem aLz (h:uY en k=some en1):oP (.ptr k 0) [[]] en=some en1:=by simp only[oP,aRl,h]
theorem bCb (hk:en k=some (.box (.ptr k' 0::cs) b))(h:uY en k'=some en1):oP (.ptr k 0) [[0]] en=some en1:=by simp only[oP,aRl,hk,bSq,h]
theorem bCc {o:Int}{F:Val}{e v ks ps bs:List Val}{K:List Key}(h:en kt=some (.box [.ptr kr 0,.i a,F,.i i,.fz e,.fz v,.i o,.i m,.fz ks,.fz ps,bv] false))(hF:cQ en F=some (.fz xs,K))(hb:iO bv bs)(hk:kt∉K):
  oP (.ptr kt 0) [[]] en=some ((W.applyAll en (K.map .frz)).set kt (some (.box [.ptr kr 0,.i a,.fz xs,.i i,.fz e,.fz v,.i o,.i m,.fz ks,.fz ps,.fz bs] false))):=by
 have:=aGa (rs:=[(.ptr kr 0,[]),(.i a,[]),(.fz xs,K),(.i i,[]),(.fz e,[]),(.fz v,[]),(.i o,[]),(.i m,[]),(.fz ks,[]),(.fz ps,[]),(.fz bs,[])]) h (by simp only[aC1,aFk,aTq,aF9,aQn,hF,rU hb]) (by simpa using hk)
 simp only[bR8,bRt,bQr,bQt,bQj,bP1]at this;exact aLz this
theorem aV6 {n f c:List Val}(ht:en kt=some (.box (.ptr kr 0::cs) b))(h:en kr=some (.box [.fz n,.fz f,.i m,.fz c,O,T,U,I,.i u] false))
  (hO:cQ en O=some (.fz os,K1)) (hT:cQ en T=some (.fz ts,K2)) (hU:cQ en U=some (.fz us,K3)) (hI:cQ en I=some (.fz is,K4)) (hk:kr∉K1++(K2++(K3++K4))):
  oP (.ptr kt 0) [[0]] en=some ((W.applyAll en ((K1++(K2++(K3++K4))).map .frz)).set kr (some (.box [.fz n,.fz f,.i m,.fz c,.fz os,.fz ts,.fz us,.fz is,.i u] false))):=by
 have:=aGa (rs:=[(.fz n,[]),(.fz f,[]),(.i m,[]),(.fz c,[]),(.fz os,K1),(.fz ts,K2),(.fz us,K3),(.fz is,K4),(.i u,[])]) h (by simp only[aC1,aFk,aF9,aQn,hO,hT,hU,hI]) (by simpa using hk)
 simp only[bR8,bRt,bQr,bQt,bQj,bP1]at this;exact bCb ht this
theorem aTr {n f c:List Val}(h:en kr=some (.box [.fz n,.fz f,.i m,.fz c,O,T,U,I,.i u] false))
  (hO:cQ en O=some (.fz os,K1)) (hT:cQ en T=some (.fz ts,K2)) (hU:cQ en U=some (.fz us,K3)) (hI:cQ en I=some (.fz is,K4)) (hk:kr∉K1++(K2++(K3++K4))):
  oP (.ptr kr 0) [[]] en=some ((W.applyAll en ((K1++(K2++(K3++K4))).map .frz)).set kr (some (.box [.fz n,.fz f,.i m,.fz c,.fz os,.fz ts,.fz us,.fz is,.i u] false))):=by
 have:=aGa (rs:=[(.fz n,[]),(.fz f,[]),(.i m,[]),(.fz c,[]),(.fz os,K1),(.fz ts,K2),(.fz us,K3),(.fz is,K4),(.i u,[])]) h (by simp only[aC1,aFk,aF9,aQn,hO,hT,hU,hI]) (by simpa using hk)
 simp only[bR8,bRt,bQr,bQt,bQj,bP1]at this;exact aLz this
theorem pW (h:k'≠k):(W.frz k).apply en k'=en k':=by
 simp only[W.apply];cases en k with
 |none=>rfl
 |some e=>exact iZ h
theorem aGb (h:TS kt kr en cnt p w a left f n back bv){l:List aB}(hl:iO lv (l.map aB.enc))(hc:left.length+l.length<=40):
  WIn L (.fn 220 [] []) [.ptr kt 0,lv] en cnt fun v en' cnt'=>v= .tup []/\ (∃bv',TS kt kr en' cnt' p w a (left++l) f n back bv')/\ dT kt kr en cnt en' cnt':=by
 have hw:IntKind.i64.wrap ((left.length:Int)+(l.length:Int))=((left.length+l.length:Nat):Int):=by rw[aW (by omega)];omega
 have d:decide (((left.length+l.length:Nat):Int)<=40)=true:=D_t (by omega)
 have hlen:sD lv=some l.length:=by rw[hl.len,bPr]
 have hel:=hl.elems;have s1:=h.okt.set;have s2:=h.okr.set;have n1:=h.okt.new;have hl16:left.length+l.length<=16777216:=by omega
 have ht:=h.t;have hr:=h.r;have hb:=h.ob;have hL:=at_ func220
 conv at hL=>rhs;reduce
 refine rZ hL rfl rfl ?_
 simp only[go_sem,kK]
 refine cA ?_
 simp only[go_sem,ht,hlen,bPr,hw,d,(iG _).ret,(aDy _).ret,bM,dY,hel,vS,jM,hl16]
 by_cases hl0:l=[]
 ·subst hl0;simp only[go_sem,bP1,aLy,qO,lR,ht];rw[bCc (K:=[]) cG rfl hb (by simp)]
  simp only[bP1,fV];exact⟨⟨_,h.okt,h.okr,h.ne,.inl rfl,cG,by rw[aK h.ne,aK h.ne];exact hr⟩,fun k hk a b=>by rw[aK a,aK a],fun _=>bPq _⟩
 ·have hne:l.map aB.enc≠[]:=by simpa using hl0
  have nk:kt≠⟨0,21,cnt 0 21⟩:=h.okt.ne;have nr:kr≠⟨0,21,cnt 0 21⟩:=h.okr.ne;simp only[go_sem,aC6 hne,rT,lS,s1,ht,bPr];rw[bCc (K:=[⟨0,21,cnt 0 21⟩]) (xs:=(left++l).map aB.enc) cG (tQ (by rw[n1];exact cG.trans (by rw[<-bQs])) (by simp)) hb (by simpa using nk)]
  simp only[bQj,bP1,kY,fV];have hu:=upS (aO cnt) (a:=21) (x:=cnt 0 21+1) (by omega)
  refine⟨⟨_,h.okt.up hu,h.okr.up hu,h.ne,.inl rfl,cG,?_⟩,fun k hk a b=>?_,hu⟩
  ·rw[aK h.ne,pW nr,aK h.ne,s2];exact hr
  ·rw[aK a,pW hk.ne,aK a,hk.set]
def RB (kr:Key)(en:En)(p:aF):Prop:= ∃O T U I u,en kr=some (.box [.fz (p.nodes.map aM.enc),.is p.funs,.i p.main,.fz (p.cons.map cS.enc),O,T,U,I,u] false)
theorem TS.rb (h:TS kt kr en cnt p w a left f n back bv):RB kr en p:=⟨_,_,_,_,_,h.r⟩
structure pP (kt kr:Key) (en:En) (cnt:Nat->Nat->Nat) (p:aF) (s:Int) (v:Val) (en':En) (cnt':Nat->Nat->Nat):Prop where
 v:v=aF7 s
 keep:dT kt kr en cnt en' cnt'
 rb:RB kr en' p
theorem aL0 (h:TS kt kr en cnt p w a left f n back bv){l:List aB}(hl:iO lv (l.map aB.enc))(hc:40<left.length+l.length)(hs:left.length+l.length<=1000000):
  xQ L 220 [.ptr kt 0,lv] en cnt (pP kt kr en cnt p 4):=by
 have hw:IntKind.i64.wrap ((left.length:Int)+(l.length:Int))=((left.length+l.length:Nat):Int):=by rw[aW (by omega)];omega
 have d:decide (((left.length+l.length:Nat):Int)<=40)=false:=D_f (by omega)
 have hlen:sD lv=some l.length:=by rw[hl.len,bPr]
 have ht:=h.t;have hL:=at_ func220
 conv at hL=>rhs;reduce
 refine cC hL rfl rfl ?_
 simp only[go_sem,kK]
 refine dK 9 rfl ?_
 simp only[go_sem,bP0,bPw,ht,hlen,bPr,hw,d,(kT _).ret];exact⟨rfl,dT.refl _ _ _ _,h.rb⟩
theorem TS.fell {l0:List aB}(h0:TS kt kr en cnt p w0 a l0 f n b0 bv0)(h:TS kt kr en' cnt' p w a left f n back bv)(k:dT kt kr en cnt en' cnt')(hk: ∀k,Old k cnt->Old k cnt'->en2 k=en' k)(hu: ∀t,cnt' 0 t<=cnt2 0 t):
  pP kt kr en cnt p s (aF7 s) en2 cnt2:=by
 obtain⟨⟨bv3,h3⟩,k3⟩:=h0.fin h k hk hu;exact⟨rfl,k3,h3.rb⟩
theorem TS.fell0 (h:TS kt kr en cnt p w a left f n back bv)(hk: ∀k,Old k cnt->en' k=en k)(hu: ∀t,cnt 0 t<=cnt' 0 t):pP kt kr en cnt p s (aF7 s) en' cnt':=by
 obtain⟨⟨bv3,h3⟩,k3⟩:=h.stay hk hu;exact⟨rfl,k3,h3.rb⟩
theorem pP.then (k:dT kt kr en cnt en' cnt')(h:pP kt kr en' cnt' p s v en2 cnt2):pP kt kr en cnt p s v en2 cnt2:=⟨h.v,k.trans h.keep,h.rb⟩
end
variable {V r ev:Val}{x:Int}{E:En}{w':aA}{j:Nat}{env l:List aD}
section
variable {f:aB}{n:aM}
def aQo :Val:= .ifc 255 (.agg [])
def aXc :Val:= .ifc 244 (.agg [])
def aIz (e:iD):Val:= .ifc 247 (.agg [.i e.task,.i e.act,.i e.n,.i e.v.kind,.i e.v.n])
theorem jA (h:TS kt kr en cnt p w a left f n back bv)(v:aD):
  WIn L (.fn 323 [] []) [.ptr kt 0,.agg [.i v.kind,.i v.n]] en cnt fun r en' cnt'=>r=aQo/\ (∃bv',TS kt kr en' cnt' p w a left f n [v] bv')/\ dT kt kr en cnt en' cnt':=by
 have H:=h.pre;have hn:=h.ne;have ht:=h.t;have hr:=h.r;have s2:=h.okr.set;have hL:=at_ func323
 conv at hL=>rhs;reduce
 refine bD hL rfl rfl ?_
 simp only[go_sem,kK,ht,H,kB];have hu:=upS (aO cnt) (a:=3) (x:=cnt 0 3+1) (by omega)
 exact⟨rfl,⟨_,h.okt.up hu,h.okr.up hu,hn,.inr rfl,cG,by rw[aK hn,s2];exact hr⟩,fun k hk a b=>by simp only[hk.set,aK a],hu⟩
theorem rA (h:TS kt kr en cnt p w a left f n back bv)(v e:aD):
  WIn L (.fn 333 [] []) [.ptr kt 0,.agg [.i v.kind,.i v.n],.agg [.i e.kind,.i e.n]] en cnt fun r en' cnt'=>r=aIz ⟨a,n.op,if n.op=24 then n.n else 0,rL e⟩/\ (∃bv',TS kt kr en' cnt' p w a left f n [v] bv')/\ dT kt kr en cnt en' cnt':=by
 have H:=h.pre;have hn:=h.ne;have ht:=h.t;have hr:=h.r;have hL:=at_ func333
 conv at hL=>rhs;reduce
 refine bD hL rfl rfl ?_
 simp only[go_sem,kK,ht,H,kB]
 refine aH ?_
 by_cases h24:n.op=24
 ·have d24:decide (n.op=24)=true:=D_t h24;simp only[go_sem,kK,(yZ _).ret,d24,H,kA,kF];have hu: ∀t,cnt 0 t<=aC (aC (aC cnt 0 4 (cnt 0 4+1)) 0 5 (cnt 0 5+1)) 0 7 (cnt 0 7+1) 0 t:=(by(repeat refine upS ?_ (by omega));exact aO _)
  exact⟨by simp only[if_pos h24,aIz],⟨_,h.okt.up hu,h.okr.up hu,hn,.inr rfl,by simp only[H,cG];rfl,by simp only[H];exact hr⟩,fun k hk a b=>by simp only[hk.set,aK a],hu⟩
 ·have d24:decide (n.op=24)=false:=D_f h24;simp only[go_sem,kK,(yZ _).ret,d24,H,kA,kF];have hu: ∀t,cnt 0 t<=aC (aC (aC cnt 0 4 (cnt 0 4+1)) 0 5 (cnt 0 5+1)) 0 7 (cnt 0 7+1) 0 t:=(by(repeat refine upS ?_ (by omega));exact aO _)
  exact⟨by simp only[if_neg h24,aIz],⟨_,h.okt.up hu,h.okr.up hu,hn,.inr rfl,by simp only[H,cG];rfl,by simp only[H];exact hr⟩,fun k hk a b=>by simp only[hk.set,aK a],hu⟩
theorem aOr {F1:Val}(ht:en kt=some (.box [.ptr kr 0,.i a,F1,.i f.node,.fz (f.env.map aD.enc),.fz (f.vals.map aD.enc),.i n.op,.i n.n,.is n.kids,.fz (n.pats.map Pat.enc),bv] false))(ok:Old kt cnt)(v e:aD):
  WIn L (.fn 333 [] []) [.ptr kt 0,.agg [.i v.kind,.i v.n],.agg [.i e.kind,.i e.n]] en cnt fun r en' cnt'=>r=aIz ⟨a,n.op,if n.op=24 then n.n else 0,rL e⟩/\
   en' kt=some (.box [.ptr kr 0,.i a,F1,.i f.node,.fz (f.env.map aD.enc),.fz (f.vals.map aD.enc),.i n.op,.i n.n,.is n.kids,.fz (n.pats.map Pat.enc),.cl [.agg [.i v.kind,.i v.n]]] false)/\ (∀k,Old k cnt->k≠kt->en' k=en k)/\ ∀t,cnt 0 t<=cnt' 0 t:=by
 have s1:=ok.set;have n1:=ok.new;have m1:=ok.eqF;have o1:=ok.eqF';have hL:=at_ func333
 conv at hL=>rhs;reduce
 refine bD hL rfl rfl ?_
 simp only[go_sem,kK,ht,s1,kB]
 refine aH ?_
 by_cases h24:n.op=24
 ·have d24:decide (n.op=24)=true:=D_t h24;simp only[go_sem,kK,(yZ _).ret,d24,s1,n1,m1,kA,kF];exact⟨by simp only[if_pos h24,aIz],fun k hk a=>by simp only[hk.set,aK a],(by(repeat refine upS ?_ (by omega));exact aO _)⟩
 ·have d24:decide (n.op=24)=false:=D_f h24;simp only[go_sem,kK,(yZ _).ret,d24,s1,n1,m1,kA,kF];exact⟨by simp only[if_neg h24,aIz],fun k hk a=>by simp only[hk.set,aK a],(by(repeat refine upS ?_ (by omega));exact aO _)⟩
theorem sP {y:Val}:aV5 d g size xs [y] rs=some {v:= .bl ⟨0,d,g⟩ 0 (xs.length+1),ws:=[.ent ⟨0,d,g⟩ (some (.blk size (xs++[y]) (!xs.isEmpty)))],rs,bump:=true}:=aC6 (by simp)
theorem aXd {y:Int}{FV:Val}:cU 4 [.agg [.i x,.i y,V,FV]]=true:=(rfl)
theorem wZ {cnt:Nat->Nat->Nat}{k:Key}(h:Old k cnt): ∀{K:List Key},(∀x∈K,∃d,x=⟨0,d,cnt 0 d⟩)-> ∀(E:En),W.applyAll E (K.map .frz) k=E k
 |[],_,_=>rfl
 |x::K,hK,E=>by
  have:W.applyAll E ((x::K).map .frz)=W.applyAll ((W.frz x).apply E) (K.map .frz):=rfl;rw[this,wZ h fun y hy=>hK y (bRu _ hy)]
  obtain⟨d,rfl⟩:=hK x (bS1 ..);exact pW h.ne
theorem bF8 (h:TS kt kr en cnt p w a left f n back bv)(ht:E kt=en kt)
  (hr:E kr=some (.box [.fz (p.nodes.map aM.enc),.is p.funs,.i p.main,.fz (p.cons.map cS.enc),O,T,U,I,.i w'.used] false))
  (hO:cQ E O=some (.fz (w'.objs.map aQ.enc),K1)) (hT:cQ E T=some (.is w'.tasks,K2)) (hU:cQ E U=some (.fz (w'.outs.map bJ.enc),K3)) (hI:cQ E I=some (.is w'.ins,K4))
  (hK: ∀k∈K1++(K2++(K3++K4)),∃d,k=⟨0,d,cnt 0 d⟩) (hk: ∀k,Old k cnt->k≠kt->k≠kr->E k=en k) (hu: ∀t,cnt 0 t<=c 0 t) (hv:v=r):
  match oP (.ptr kt 0) [[0]] E with
  |some en'=>v=r/\ (∃bv',TS kt kr en' c p w' a left f n back bv')/\ dT kt kr en cnt en' c
  |none=>False:=by
 have hkn:kr∉K1++(K2++(K3++K4)):=fun hm=>by obtain⟨d,e⟩:=hK kr hm;exact h.okr.ne e
 rw[aV6 (ht.trans h.t) hr hO hT hU hI hkn]
 refine⟨hv,⟨bv,h.okt.up hu,h.okr.up hu,h.ne,h.ob,?_,cG⟩,fun k ho k1 k2=>?_,hu⟩
 ·rw[aK h.ne.symm,wZ h.okt hK,ht];exact h.t
 ·rw[aK k2,wZ ho hK];exact hk k ho k1 k2
theorem bCd (h:TS kt kr en cnt p w a left f n back bv)(ht:E kt=en kt)
  (hr:E kr=some (.box [.fz (p.nodes.map aM.enc),.is p.funs,.i p.main,.fz (p.cons.map cS.enc),O,T,U,I,.i w'.used] false))
  (hO:cQ E O=some (.fz (w'.objs.map aQ.enc),K1)) (hT:cQ E T=some (.is w'.tasks,K2)) (hU:cQ E U=some (.fz (w'.outs.map bJ.enc),K3)) (hI:cQ E I=some (.is w'.ins,K4))
  (hK: ∀k∈K1++(K2++(K3++K4)),∃d,k=⟨0,d,cnt 0 d⟩) (hk: ∀k,Old k cnt->k≠kt->k≠kr->E k=en k) (hu: ∀t,cnt 0 t<=c 0 t):
  match oP (.ptr kt 0) [[0]] E with
  |some en'=>(∃bv',TS kt kr en' c p w' a left f n back bv')/\ dT kt kr en cnt en' c
  |none=>False:=by
 have:=bF8 h ht hr hO hT hU hI hK hk hu (rfl:Val.nilp=Val.nilp)
 split at this
 ·exact this.2
 ·exact this
theorem aC7 (d:Nat): ∀k∈[(⟨0,d,cnt 0 d⟩:Key)]++([]++([]++[])),∃d,k=⟨0,d,cnt 0 d⟩:=by simp
theorem rV (h:TS kt kr en cnt p w a left f n back bv){o:aQ}{FV:Val}(hV:iO V (o.vals.map aD.enc))(hF:iO FV (o.frames.map aB.enc))(hc:w.objs.length<120):
  WIn L (.fn 327 [] []) [.ptr kt 0,.agg [.i o.form,.i o.n,V,FV]] en cnt fun r en' cnt'=>r= .agg [.i (dN w.objs.length).kind,.i (dN w.objs.length).n]/\ (∃bv',TS kt kr en' cnt' p (eC w o) a left f n back bv')/\ dT kt kr en cnt en' cnt':=by
 have H:=h.pre;have ht:=h.t;have hr:=h.r;have d:decide ((w.objs.length:Int)<120)=true:=D_t (by omega)
 have hl:w.objs.length+1<=16777216:=by omega
 have hw:IntKind.i64.wrap (((w.objs.length+1:Nat):Int)-1)=(w.objs.length:Int):=by rw[aW (by omega)];omega
 have hA:w.objs.map aQ.enc++[.agg [.i o.form,.i o.n,.fz (o.vals.map aD.enc),.fz (o.frames.map aB.enc)]]=(eC w o).objs.map aQ.enc:=by simp[eC,aQ.enc]
 have hAl:w.objs.length+1=((eC w o).objs.map aQ.enc).length:=by simp[eC]
 have hL:=at_ func327
 conv at hL=>rhs;reduce
 refine rZ hL rfl rfl ?_
 simp only[go_sem,kK]
 refine cA ?_
 simp only[go_sem,ht,hr,H,bPr,d,(iG _).ret]
 refine aH ?_
 rcases hV with rfl|rfl<;>rcases hF with rfl|rfl<;>
 (simp only[go_sem,ht,hr,H,kB,bPr,(aIx _).ret,bM,dY,vS,aAh,aXd,hl,sP,hw,hA,kA,kF]
  exact bF8 h (w':=eC w o) (by simp only[H]) (by simp only[H,cG];rfl) (tQ (by simp only[go_sem,H];rfl) hAl) rfl rfl rfl (aC7 31) fun k hk a b=>by simp only[hk.set,aK b] (by(repeat refine upS ?_ (by omega));exact aO _) rfl)
theorem pQ (h:TS kt kr en cnt p w a left f n back bv){o:aQ}{FV:Val}(hc:120<=w.objs.length)(hs:w.objs.length<=1000000):
  xQ L 327 [.ptr kt 0,.agg [.i o.form,.i o.n,V,FV]] en cnt (pP kt kr en cnt p 4):=by
 have H:=h.pre;have ht:=h.t;have hr:=h.r;have d:decide ((w.objs.length:Int)<120)=false:=D_f (by omega)
 have hL:=at_ func327
 conv at hL=>rhs;reduce
 refine cC hL rfl rfl ?_
 simp only[go_sem,kK]
 refine dK 10 rfl ?_
 simp only[go_sem,bP0,bPw,ht,hr,H,bPr,d,(kT _).ret];exact⟨rfl,⟨fun k hk a b=>by simp only[hk.set],(by(repeat refine upS ?_ (by omega));exact aO _)⟩,_,_,_,_,_,by simp only[H];exact hr⟩
theorem aAi (xs:List Val)(h1:cU 4 xs=true)(hl:xs.length<=16777216):PC L 219 [.fz xs] (tD 4 xs):=by
 cases xs with
 |nil=>
  have hL:=at_ func219
  conv at hL=>rhs;reduce
  refine aKt hL rfl rfl (.inl rfl) (qM ?_) (qM ?_)
  ·simp only[go_sem,kK,xV];rfl
  ·simp only[go_sem,kK,xV]
   refine sO (b:=false) (by simp only[go_sem]) (by simp only[go_sem]) ?_
   simp only[go_sem];rfl
 |cons x xs=>
  have hL:=at_ func219
  conv at hL=>rhs;reduce
  refine aI hL rfl rfl ?_
  simp only[go_sem,kK,aF4]
  refine qU (by simp only[go_sem]) (by simp only[go_sem]) h1 hl ?_
  simp only[go_sem];rfl
theorem aL1 (h:TS kt kr en cnt p w a left f n back bv){o:aQ}{FV:Val}(hV:iO V (o.vals.map aD.enc))(hF:iO FV (o.frames.map aB.enc))(hj:j<w.objs.length)(hs:w.objs.length<=1000000):
  WIn L (.fn 334 [] []) [.ptr kt 0,.i j,.agg [.i o.form,.i o.n,V,FV]] en cnt fun r en' cnt'=>r= .tup []/\ (∃bv',TS kt kr en' cnt' p (dW w j o) a left f n back bv')/\ dT kt kr en cnt en' cnt':=by
 have H:=h.pre;have ht:=h.t;have hr:=h.r;have hl:(w.objs.map aQ.enc).length<=16777216:=by rw[bPr];omega
 have hC:=aAi (w.objs.map aQ.enc) (aAh _) hl;have hne:w.objs.map aQ.enc≠[]:=by intro he;have h0:=congrArg List.length he;simp at h0;rw[h0]at hj;simp at hj
 rw[pY hne]at hC;have hget:(w.objs.map aQ.enc)[j]?=some (aQ.enc w.objs[j]):=by simp[hj]
 have hS:(w.objs.map aQ.enc).set j (.agg [.i o.form,.i o.n,.fz (o.vals.map aD.enc),.fz (o.frames.map aB.enc)])=(dW w j o).objs.map aQ.enc:=by simp[dW,bR4,aQ.enc]
 have hSl:w.objs.length=((dW w j o).objs.map aQ.enc).length:=by simp[dW]
 have hL:=at_ func334
 conv at hL=>rhs;reduce
 refine rZ hL rfl rfl ?_
 simp only[go_sem,kK]
 refine aH ?_
 simp only[go_sem,ht,hr,H,kB,hC.ret,kA,kF];rcases hV with rfl|rfl<;>rcases hF with rfl|rfl<;>
 (simp only[go_sem,H,hget,hj,fD,bSa,bQo,hS]
  exact bCd h (w':=dW w j o) (by simp only[H]) (by simp only[H,cG];rfl) (tQ cG hSl) rfl rfl rfl (aC7 18) fun k hk a b=>by simp only[hk.set,aK b] (by(repeat refine upS ?_ (by omega));exact aO _))
theorem aV7 (h:TS kt kr en cnt p w a left f n back bv){o:aQ}(hb:en ⟨0,t,g⟩=some (.blk 2 (o.vals.map aD.enc) b))(hg:g<cnt 0 t){FV:Val}(hF:iO FV (o.frames.map aB.enc))(hj:j<w.objs.length)(hs:w.objs.length<=1000000):
  WIn L (.fn 334 [] []) [.ptr kt 0,.i j,.agg [.i o.form,.i o.n,.bl ⟨0,t,g⟩ 0 o.vals.length,FV]] en cnt fun r en' cnt'=>r= .tup []/\ (∃bv',TS kt kr en' cnt' p (dW w j o) a left f n back bv')/\
   (∀k,Old k cnt->k≠kt->k≠kr->k≠⟨0,t,g⟩->en' k=en k)/\ ∀t,cnt 0 t<=cnt' 0 t:=by
 have s1:=h.okt.set;have s2:=h.okr.set;have n1:=h.okt.new;have n2:=h.okr.new;have hn:=h.ne;have ht:=h.t;have hr:=h.r;have m1:=h.okt.eqF;have m2:=h.okr.eqF;have o1:=h.okt.eqF';have o2:=h.okr.eqF';have x1: ∀(en:En) (e:Option Ent),En.set en kt e kr=en kr:=fun _ _=>aK hn;have x2: ∀(en:En) (e:Option Ent),En.set en kr e kt=en kt:=fun _ _=>aK hn.symm
 have hl:(w.objs.map aQ.enc).length<=16777216:=by rw[bPr];omega
 have hC:=aAi (w.objs.map aQ.enc) (aAh _) hl;have hne:w.objs.map aQ.enc≠[]:=by intro he;have h0:=congrArg List.length he;simp at h0;rw[h0]at hj;simp at hj
 rw[pY hne]at hC;have hget:(w.objs.map aQ.enc)[j]?=some (aQ.enc w.objs[j]):=by simp[hj]
 have hS:(w.objs.map aQ.enc).set j (.agg [.i o.form,.i o.n,.fz (o.vals.map aD.enc),.fz (o.frames.map aB.enc)])=(dW w j o).objs.map aQ.enc:=by simp[dW,bR4,aQ.enc]
 have hSl:w.objs.length=((dW w j o).objs.map aQ.enc).length:=by simp[dW]
 have hT:List.take o.vals.length (o.vals.map aD.enc)=o.vals.map aD.enc:=by rw[bQa (by simp)]
 have hob:Old ⟨0,t,g⟩ cnt:=⟨rfl,hg⟩;have b1:=hob.set;have bn:(⟨0,t,g⟩:Key)≠⟨0,18,cnt 0 18⟩:=hob.ne;have bF:((⟨0,t,g⟩:Key)=⟨0,18,cnt 0 18⟩)=False:=by simp only[eq_iff_iff,iff_false];exact bn
 have q1:(⟨0,t,g⟩:Key)≠kr:=by rintro rfl;rw[hr]at hb;cases hb
 have q2:(⟨0,t,g⟩:Key)≠kt:=by rintro rfl;rw[ht]at hb;cases hb
 have b2: ∀(en:En) (e:Option Ent),En.set en kr e ⟨0,t,g⟩=en ⟨0,t,g⟩:=fun _ _=>aK q1
 have b3: ∀(en:En) (e:Option Ent),En.set en ⟨0,t,g⟩ e ⟨0,18,cnt 0 18⟩=en ⟨0,18,cnt 0 18⟩:=fun _ _=>aK bn.symm
 have b4: ∀(en:En) (e:Option Ent),En.set en ⟨0,t,g⟩ e kr=en kr:=fun _ _=>aK q1.symm
 have b5: ∀(en:En) (e:Option Ent),En.set en ⟨0,t,g⟩ e kt=en kt:=fun _ _=>aK q2.symm
 have hL:=at_ func334
 conv at hL=>rhs;reduce
 refine rZ hL rfl rfl ?_
 simp only[go_sem,kK]
 refine aH ?_
 simp only[go_sem,ht,hr,s1,s2,n2,m1,x2,kB,hC.ret,kA,kF];rcases hF with rfl|rfl<;>
 (simp only[go_sem,n2,hget,hj,b1,b2,b3,bF,hb,bPr,fD,bSa,bQo,bPq,W.apply,Ent.freeze,decide_not,bP8,decide_false,hT,hS]
  have hu: ∀t,cnt 0 t<=aC (aC cnt 0 5 (cnt 0 5+1)) 0 18 (cnt 0 18+1) 0 t:=(by(repeat refine upS ?_ (by omega));exact aO _)
  rw[aV6 (K1:=[⟨0,18,cnt 0 18⟩]) (K2:=[]) (K3:=[]) (K4:=[]) (os:=(dW w j o).objs.map aQ.enc) (by simp only[s1,b5,x2];exact ht) (by simp only[s2,b4,cG];rfl) (tQ cG hSl) rfl rfl rfl (by simp[o2])]
  refine⟨⟨bv,h.okt.up hu,h.okr.up hu,hn,h.ob,?_,cG⟩,fun k hk k1 k2 k3=>?_,hu⟩
  ·rw[x2,wZ h.okt (aC7 18)];simp only[s1,b5,x2];exact ht
  ·rw[aK k2,wZ hk (aC7 18),hk.set,aK k3,aK k2,hk.set,hk.set])
theorem aGc (env l:List aD)(hc:env.length+l.length<=30):PC L 330 [.fz (env.map aD.enc),.fz (l.map aD.enc)] (.fz ((env++l).map aD.enc)):=by
 have hw:IntKind.i64.wrap ((env.length:Int)+(l.length:Int))=((env.length+l.length:Nat):Int):=by rw[aW (by omega)];omega
 have d:decide (((env.length+l.length:Nat):Int)<=30)=true:=D_t (by omega)
 have hl:env.length+l.length<=16777216:=by omega
 have hL:=at_ func330
 conv at hL=>rhs;reduce
 refine aI hL rfl rfl ?_
 simp only[go_sem,kK]
 refine cA ?_
 simp only[go_sem,hw,d,bPr,(iG _).ret,(aB6 _).ret,bM,dY,vS,tP,hl]
 by_cases h0:l=[]
 ·subst h0;simp only[go_sem,bP1,aLy,bQr]
 ·have hne:l.map aD.enc≠[]:=by simpa using h0
  simp only[go_sem,aC6 hne,bPr,bP9,bPq];rw[<-bQs,bQa (by simp)]
theorem aJp (env l:List aD)(hc:30<env.length+l.length)(hs:env.length+l.length<=1000000):PX L 330 [.fz (env.map aD.enc),.fz (l.map aD.enc)] (aF7 4):=by
 have hw:IntKind.i64.wrap ((env.length:Int)+(l.length:Int))=((env.length+l.length:Nat):Int):=by rw[aW (by omega)];omega
 have d:decide (((env.length+l.length:Nat):Int)<=30)=false:=D_f (by omega)
 have hL:=at_ func330
 conv at hL=>rhs;reduce
 refine aIg hL rfl rfl ?_
 simp only[go_sem,kK]
 refine dK 6 rfl ?_
 simp only[go_sem,bP0,bPw,hw,d,bPr,(kT _).ret]
theorem zA (h:TS kt kr en cnt p w a left f n back bv){i:Nat}(hi:i<n.kids.length)(hev:iO ev (env.map aD.enc))(hc:left.length<40):
  WIn L (.fn 223 [] []) [.ptr kt 0,.i i,ev] en cnt fun r en' cnt'=>r=aQo/\ (∃bv',TS kt kr en' cnt' p w a (left++[⟨n.kids.getD i 0,env,[]⟩]) f n back bv')/\ dT kt kr en cnt en' cnt':=by
 have H:=h.pre;have ht:=h.t;have hg:n.kids.getD i 0=n.kids[i]:=by simp[bPu,hi]
 have hL:=at_ func223
 conv at hL=>rhs;reduce
 refine bD hL rfl rfl ?_
 simp only[go_sem,kK]
 refine cA ?_
 rcases hev with rfl|rfl<;>
 (simp only[go_sem,ht,kB,hi]
  refine(aGb h (l:=[⟨n.kids.getD i 0,env,[]⟩]) (.inr (by rw[hg];rfl)) (by simp only[bPy,bP7];omega)).mono ?_
  rintro v e1 c1 ⟨_,t1,k1⟩
  exact⟨rfl,t1,k1⟩)
theorem zB (h:TS kt kr en cnt p w a left f n back bv){i:Nat}(hi:i<n.kids.length)(hev:iO ev (env.map aD.enc))(hc:left.length=40):
  xQ L 223 [.ptr kt 0,.i i,ev] en cnt (pP kt kr en cnt p 4):=by
 have H:=h.pre;have ht:=h.t;have hg:n.kids.getD i 0=n.kids[i]:=by simp[bPu,hi]
 have hL:=at_ func223
 conv at hL=>rhs;reduce
 refine cC hL rfl rfl ?_
 simp only[go_sem,kK]
 refine dK 12 rfl ?_
 rcases hev with rfl|rfl<;>
 (simp only[go_sem,bP0,bPw,ht,kB,hi]
  exact aL0 h (l:=[⟨n.kids.getD i 0,env,[]⟩]) (.inr (by rw[hg];rfl)) (by simp;omega) (by simp;omega))
theorem rW (h:TS kt kr en cnt p w a left f n back bv){v:aD}(hv:v.kind=5->inR v.n 0 ((w.objs.length:Int)-1)=true)(form:Int):
  WIn L (.fn 359 [] []) [.ptr kt 0,.agg [.i v.kind,.i v.n],.i form] en cnt fun r en' cnt'=>(∃x,r= .tup [x,.bool (cK w v form)]/\ (x= .agg [.i 0,.i 0,.cl [],.cl []]/\ cK w v form=false \/x=aQ.enc (w.obj v.n)/\ cK w v form=true))/\ (∃bv',TS kt kr en' cnt' p w a left f n back bv')/\ dT kt kr en cnt en' cnt':=by
 have H:=h.pre;have ht:=h.t;have hr:=h.r;have hL:=at_ func359
 conv at hL=>rhs;reduce
 refine bD hL rfl rfl ?_
 by_cases h5:v.kind=5
 ·have d5:decide (v.kind=5)=true:=D_t h5;have hin:=hv h5;have hob:=fun en=>zZ (w:=w) (i:=v.n) (k:= .i64) (en:=en) hin
  by_cases hf:(w.obj v.n).form=form
  ·have df:decide ((w.obj v.n).form=form)=true:=D_t hf;have hI:cK w v form=true:=by simp[cK,h5,hf]
   simp only[go_sem,kK,H,ht,hr,d5,hob,df];exact⟨⟨_,by rw[hI],.inr ⟨rfl,hI⟩⟩,h.stay (fun k hk=>by simp only[hk.set]) (by(repeat refine upS ?_ (by omega));exact aO _)⟩
  ·have df:decide ((w.obj v.n).form=form)=false:=D_f hf;have hI:cK w v form=false:=by simp[cK,h5,hf]
   simp only[go_sem,kK,H,ht,hr,d5,hob,df];exact⟨⟨_,by rw[hI],.inl ⟨rfl,hI⟩⟩,h.stay (fun k hk=>by simp only[hk.set]) (by(repeat refine upS ?_ (by omega));exact aO _)⟩
 ·have d5:decide (v.kind=5)=false:=D_f h5;have hI:cK w v form=false:=by simp[cK,h5]
  simp only[go_sem,kK,d5];exact⟨⟨_,by rw[hI],.inl ⟨rfl,hI⟩⟩,h.stay (fun k hk=>by simp only[hk.set]) (by(repeat refine upS ?_ (by omega));exact aO _)⟩
theorem vV (h:TS kt kr en cnt p w a left f n back bv){v:aD}(hv:v.kind=5->inR v.n 0 ((w.objs.length:Int)-1)=true)(form:Int)(hI:cK w v form=true):
  WIn L (.fn 329 [] []) [.ptr kt 0,.agg [.i v.kind,.i v.n],.i form] en cnt fun r en' cnt'=>r= .agg [.i (w.obj v.n).form,.i (w.obj v.n).n,.fz ((w.obj v.n).vals.map aD.enc),.fz ((w.obj v.n).frames.map aB.enc)]/\ (∃bv',TS kt kr en' cnt' p w a left f n back bv')/\ dT kt kr en cnt en' cnt':=by
 have hL:=at_ func329
 conv at hL=>rhs;reduce
 refine bD hL rfl rfl ?_
 simp only[go_sem,kK];obtain⟨⟨bv1,h1⟩,k1⟩:=h.stay (cnt':=aC (aC cnt 0 4 (cnt 0 4+1)) 0 6 (cnt 0 6+1)) (en':=(en.set ⟨0,4,cnt 0 4⟩ (some (.box [.i v.kind,.i v.n] false))).set ⟨0,6,cnt 0 6⟩ (some (.box [.i 0,.i 0,.cl [],.cl []] false))) (fun k hk=>by simp only[hk.set]) (by(repeat refine upS ?_ (by omega));exact aO _)
 refine(rW h1 hv form).mono ?_
 rintro r e1 c1 ⟨⟨x,rfl,hx⟩,⟨bv2,h2⟩,k2⟩
 rcases hx with⟨_,hx⟩|⟨rfl,_⟩
 ·rw[hI]at hx;cases hx
 have o6:=k2.old ⟨0,6,cnt 0 6⟩ ⟨rfl,by simp only[go_sem];omega⟩ h.okt.ne.symm h.okr.ne.symm
 simp only[go_sem]at o6;have v6: ∀(en:En) (d:Nat) (e:Option Ent),En.set en ⟨0,d,c1 0 d⟩ e ⟨0,6,cnt 0 6⟩=en ⟨0,6,cnt 0 6⟩:=(Old.up (cnt:=aC (aC cnt 0 4 (cnt 0 4+1)) 0 6 (cnt 0 6+1)) ⟨rfl,by simp only[go_sem];omega⟩ k2.up).set
 have w6: ∀(en:En) (d:Nat) (e:Option Ent),En.set en ⟨0,6,cnt 0 6⟩ e ⟨0,d,c1 0 d⟩=en ⟨0,d,c1 0 d⟩:=(Old.up (cnt:=aC (aC cnt 0 4 (cnt 0 4+1)) 0 6 (cnt 0 6+1)) ⟨rfl,by simp only[go_sem];omega⟩ k2.up).new
 simp only[go_sem,hI]
 refine cA ?_
 simp only[go_sem,(iG _).ret,o6,v6];exact h.fin h2 (k1.trans k2) (fun k hk hj=>by simp only[hk.set,hj.set]) (by(repeat refine upS ?_ (by omega));exact aO _)
theorem vW (h:TS kt kr en cnt p w a left f n back bv){v:aD}(hv:v.kind=5->inR v.n 0 ((w.objs.length:Int)-1)=true)(form:Int)(hI:cK w v form=false):
  xQ L 329 [.ptr kt 0,.agg [.i v.kind,.i v.n],.i form] en cnt (pP kt kr en cnt p 2):=by
 have hL:=at_ func329
 conv at hL=>rhs;reduce
 refine cC hL rfl rfl ?_
 simp only[go_sem,kK];obtain⟨⟨bv1,h1⟩,k1⟩:=h.stay (cnt':=aC (aC cnt 0 4 (cnt 0 4+1)) 0 6 (cnt 0 6+1)) (en':=(en.set ⟨0,4,cnt 0 4⟩ (some (.box [.i v.kind,.i v.n] false))).set ⟨0,6,cnt 0 6⟩ (some (.box [.i 0,.i 0,.cl [],.cl []] false))) (fun k hk=>by simp only[hk.set]) (by(repeat refine upS ?_ (by omega));exact aO _)
 refine(rW h1 hv form).mono ?_
 rintro r e1 c1 ⟨⟨x,rfl,hx⟩,⟨bv2,h2⟩,k2⟩
 rcases hx with⟨rfl,_⟩|⟨_,hx⟩
 case inr=>rw[hI]at hx;cases hx
 simp only[go_sem,hI]
 refine dK 1 rfl ?_
 simp only[go_sem,bP0,bPw,(kT _).ret];obtain⟨⟨bv3,h3⟩,k3⟩:=h.fin h2 (k1.trans k2) (en2:=(e1.set ⟨0,7,c1 0 7⟩ (some (.box [.i 0,.i 0,.cl [],.cl []] false))).set ⟨0,7,c1 0 7⟩ (some (.box [.i 0,.i 0,.cl [],.cl []] false))) (cnt2:=aC c1 0 7 (c1 0 7+1)) (fun k hk hj=>by simp only[hj.set]) (by(repeat refine upS ?_ (by omega));exact aO _)
 exact⟨rfl,k3,h3.rb⟩
theorem aTs (h:1<l.length):oU 2 en (.fz (l.map aD.enc)) (.i 1)=some {v:= .fp [.i (aE l 1).kind,.i (aE l 1).n] 0}:=by
 have e:aE l 1=l[1]:=by simp[aE,bPu,h]
 rw[e];exact aVq (k:= .i64) (j:=1) h rfl
theorem aL2 (h:0<l.length):oU 2 en (.fz (l.map aD.enc)) (.i 0)=some {v:= .fp [.i (aE l 0).kind,.i (aE l 0).n] 0}:=by
 have e:aE l 0=l[0]:=by simp[aE,bPu,h]
 rw[e];exact aVq (k:= .i64) (j:=0) h rfl
theorem aTt (h:TS kt kr en cnt p w a left f n back bv)(hv:f.vals.length=2)(h1:(aE f.vals 0).kind=1)(h2:(aE f.vals 1).kind=1):
  WIn L (.fn 331 [] []) [.ptr kt 0] en cnt fun r en' cnt'=>r= .tup [.i (aE f.vals 0).n,.i (aE f.vals 1).n]/\ en'=en/\ cnt'=cnt:=by
 have ht:=h.t;have d1:decide ((aE f.vals 0).kind=1)=true:=D_t h1;have d2:decide ((aE f.vals 1).kind=1)=true:=D_t h2;have hL:=at_ func331
 conv at hL=>rhs;reduce
 refine bD hL rfl rfl ?_
 simp only[go_sem,kK]
 refine cA ?_
 simp only[go_sem,kK,ht,aL2 (l:=f.vals) (by omega),aTs (l:=f.vals) (by omega),d1,d2,(iG _).ret]
theorem aTu (h:TS kt kr en cnt p w a left f n back bv)(hv:f.vals.length=2)(h12: ¬(aE f.vals 0).kind=1 \/ ¬(aE f.vals 1).kind=1):
  xQ L 331 [.ptr kt 0] en cnt (pP kt kr en cnt p 2):=by
 have ht:=h.t;have hL:=at_ func331
 conv at hL=>rhs;reduce
 refine cC hL rfl rfl ?_
 simp only[go_sem,kK]
 refine dK 20 rfl ?_
 by_cases h1:(aE f.vals 0).kind=1
 ·have d1:decide ((aE f.vals 0).kind=1)=true:=D_t h1;have d2:decide ((aE f.vals 1).kind=1)=false:=D_f (by rcases h12 with h|h;exact absurd h1 h;exact h)
  simp only[go_sem,kK,bP0,bPw,ht,aL2 (l:=f.vals) (by omega),aTs (l:=f.vals) (by omega),d1,d2,(kT _).ret]
  exact⟨rfl,dT.refl _ _ _ _,h.rb⟩
 ·have d1:decide ((aE f.vals 0).kind=1)=false:=D_f h1;simp only[go_sem,kK,bP0,bPw,ht,aL2 (l:=f.vals) (by omega),d1,(kT _).ret]
  exact⟨rfl,dT.refl _ _ _ _,h.rb⟩
end
structure bPm (en:En) (cnt:Nat->Nat->Nat) (en':En) (cnt':Nat->Nat->Nat):Prop where
 old: ∀t g,g<cnt 0 t->en' ⟨0,t,g⟩=en ⟨0,t,g⟩
 up: ∀t,cnt 0 t<=cnt' 0 t
def zC (en:En)(cnt:Nat->Nat->Nat)(v:Val)(size:Nat)(xs:List Val)(t:Nat):Prop:=(v= .cl []/\ xs=[]) \/ ∃g,v= .bl ⟨0,t,g⟩ 0 xs.length/\ en ⟨0,t,g⟩=some (.blk size xs false)/\ g<cnt 0 t/\ xs.isEmpty=false
variable {ga:Nat}
theorem jS {a:Nat}(h:cnt 0 a<=ga)(hg:g<cnt 0 t):En.set en ⟨0,a,ga⟩ e ⟨0,t,g⟩=en ⟨0,t,g⟩:=by
 refine iZ fun he=>?_
 injection he with h1 h2 h3
 subst h2;subst h3;omega
theorem oR {a:Nat}(h: ∀t,cnt 0 t<=c 0 t)(hg:ga=cnt 0 a): ∀t,cnt 0 t<=aC c 0 a (ga+1) 0 t:=by
 intro t
 by_cases ht:t=a
 ·subst ht;rw[bA8];omega
 ·rw[bA9 ht];exact h t
theorem zC.keep (h:zC en cnt v size xs t)(he: ∀g,g<cnt 0 t->en' ⟨0,t,g⟩=en ⟨0,t,g⟩)(hc:cnt 0 t<=cnt' 0 t):zC en' cnt' v size xs t:=by
 rcases h with h|⟨g,h1,h2,h3,h4⟩
 ·exact .inl h
 ·exact .inr ⟨g,h1,by rw[he g h3];exact h2,by omega,h4⟩
theorem aL3 {off len:Nat}:iY en (.bl k off len)=(match en k with
  |some (.blk _ xs _)=>if off+len<=xs.length/\ k.deep=false then some ((xs.drop off).take len,[.val k])else none
  |_=>none):=(rfl)
def aGd (en:En)(cnt:Nat->Nat->Nat)(w:aA)(vO vT vU vI:Val):Prop:=
 (vO= .fz (w.objs.map aQ.enc)/\ vT= .fz (w.tasks.map (.int .i64))/\ vU= .fz (w.outs.map bJ.enc)/\ vI= .fz (w.ins.map (.int .i64))) \/
 ∃gO gT,vO= .bl ⟨0,22,gO⟩ 0 w.objs.length/\ en ⟨0,22,gO⟩=some (.blk 4 (w.objs.map aQ.enc) false)/\ gO<cnt 0 22/\ vT= .bl ⟨0,8,gT⟩ 0 w.tasks.length/\ en ⟨0,8,gT⟩=some (.blk 1 (w.tasks.map (.int .i64)) false)/\ gT<cnt 0 8/\
  zC en cnt vU 2 (w.outs.map bJ.enc) 11/\ zC en cnt vI 1 (w.ins.map (.int .i64)) 14
variable {vI vO vT vU:Val}
theorem aGd.keep (h:aGd en cnt w vO vT vU vI)(he: ∀t g,g<cnt 0 t->en' ⟨0,t,g⟩=en ⟨0,t,g⟩)(hc: ∀t,cnt 0 t<=cnt' 0 t):aGd en' cnt' w vO vT vU vI:=by
 rcases h with h|⟨gO,gT,h1,h2,h3,h4,h5,h6,h7,h8⟩
 ·exact .inl h
 ·exact .inr ⟨gO,gT,h1,by rw[he _ _ h3];exact h2,bQf h3 (hc _),h4,by rw[he _ _ h6];exact h5,bQf h6 (hc _),h7.keep (fun g hg=>he _ g hg) (hc _),h8.keep (fun g hg=>he _ g hg) (hc _)⟩
theorem aB7 (en:En)(cnt:Nat->Nat->Nat)(w:aA):aGd en cnt w (.fz (w.objs.map aQ.enc)) (.fz (w.tasks.map (.int .i64))) (.fz (w.outs.map bJ.enc)) (.fz (w.ins.map (.int .i64))):= .inl ⟨rfl,rfl,rfl,rfl⟩
structure xA (en:En) (cnt:Nat->Nat->Nat) (w:aA) (tail:List Val) (v:Val) (en':En) (cnt':Nat->Nat->Nat):Prop where
 parts: ∃g5 g8 vU vI,v= .agg (.bl ⟨0,5,g5⟩ 0 w.objs.length:: .bl ⟨0,8,g8⟩ 0 w.tasks.length::vU::vI:: .i w.used::tail)/\
   en' ⟨0,5,g5⟩=some (.blk 4 (w.objs.map aQ.enc) false)/\ cnt 0 5<=g5/\ g5<cnt' 0 5/\ en' ⟨0,8,g8⟩=some (.blk 1 (w.tasks.map (.int .i64)) false)/\ cnt 0 8<=g8/\ g8<cnt' 0 8/\ zC en' cnt' vU 2 (w.outs.map bJ.enc) 11/\ zC en' cnt' vI 1 (w.ins.map (.int .i64)) 14
 old: ∀t g,g<cnt 0 t->en' ⟨0,t,g⟩=en ⟨0,t,g⟩
 up: ∀t,cnt 0 t<=cnt' 0 t
theorem aGe (w:aA)(h1:0<w.objs.length)(h2:0<w.tasks.length)(hl:w.objs.length<=130/\ w.tasks.length<=130/\ w.outs.length<=110/\ w.ins.length<=60)(hL:aGd en cnt w vO vT vU vI):
  WIn L (.fn 175 [] []) [.agg [vO,vT,vU,vI,.i w.used]] en cnt fun v en' cnt'=>xA en cnt w [] v en' cnt':=by
 obtain⟨objs,tasks,outs,ins,used⟩:=w;dsimp only at h1 h2 hl;have hl1:objs.length<=16777216:=by omega
 have hl2:tasks.length<=16777216:=by omega
 have hl3:outs.length<=16777216:=by omega
 have hl4:ins.length<=16777216:=by omega
 have he1:objs.isEmpty=false:=aLt h1;have he2:tasks.isEmpty=false:=aLt h2;have tk1:((objs.map aQ.enc).take objs.length)=objs.map aQ.enc:=bQa (by simp)
 have tk2:((tasks.map (Val.int .i64)).take tasks.length)=tasks.map (.int .i64):=bQa (by simp)
 have tk3:((outs.map bJ.enc).take outs.length)=outs.map bJ.enc:=bQa (by simp)
 have tk4:((ins.map (Val.int .i64)).take ins.length)=ins.map (.int .i64):=bQa (by simp)
 obtain⟨g1,hg1⟩: ∃g,g=cnt 0 1:=⟨_,rfl⟩
 obtain⟨g2,hg2⟩: ∃g,g=cnt 0 2:=⟨_,rfl⟩
 obtain⟨g5,hg5⟩: ∃g,g=cnt 0 5:=⟨_,rfl⟩
 obtain⟨g8,hg8⟩: ∃g,g=cnt 0 8:=⟨_,rfl⟩
 obtain⟨g11,hg11⟩: ∃g,g=cnt 0 11:=⟨_,rfl⟩
 obtain⟨g14,hg14⟩: ∃g,g=cnt 0 14:=⟨_,rfl⟩
 have fin: ∀{vU vI:Val} {en':En} {cnt':Nat->Nat->Nat},en' ⟨0,5,g5⟩=some (.blk 4 (objs.map aQ.enc) false)->g5<cnt' 0 5->en' ⟨0,8,g8⟩=some (.blk 1 (tasks.map (.int .i64)) false)->g8<cnt' 0 8->zC en' cnt' vU 2 (outs.map bJ.enc) 11->zC en' cnt' vI 1 (ins.map (.int .i64)) 14->
   (∀t g,g<cnt 0 t->en' ⟨0,t,g⟩=en ⟨0,t,g⟩)->(∀t,cnt 0 t<=cnt' 0 t)->xA en cnt ⟨objs,tasks,outs,ins,used⟩ [] (.agg [.bl ⟨0,5,g5⟩ 0 objs.length,.bl ⟨0,8,g8⟩ 0 tasks.length,vU,vI,.i used]) en' cnt':=
  fun a1 a2 a3 a4 a5 a6 a7 a8=>⟨⟨g5,g8,_,_,rfl,a1,by omega,a2,a3,by omega,a4,a5,a6⟩,a7,a8⟩
 have old: ∀{t g:Nat},g<cnt 0 t-> ∀{e:En} {a ga:Nat} {x:Option Ent},ga=cnt 0 a->En.set e ⟨0,a,ga⟩ x ⟨0,t,g⟩=e ⟨0,t,g⟩:=fun hg _ _ _ _ h=>jS (bQ8 h.symm) hg
 have hLz:=at_ func175
 conv at hLz=>rhs;reduce
 refine bD hLz rfl rfl ?_
 rcases hL with⟨rfl,rfl,rfl,rfl⟩|⟨gO,gT,rfl,eO,lO,rfl,eT,lT,mU,mI⟩
 ·simp only[go_sem,kK,<-hg1,<-hg2]
  refine aH ?_
  cases hu:outs.isEmpty<;>cases hi:ins.isEmpty
  all_goals
   try(have hu':outs=[]:=(by simpa using hu);subst hu')
   try(have hi':ins=[]:=(by simpa using hi);subst hi')
   simp only[go_sem,bM,dY,nB,gX,iR,he1,he2,hu,hi,hl1,hl2,hl3,hl4,aAh,aC4,aQm,bPr,bP1,<-hg5,<-hg8,<-hg11,<-hg14,kB,kA,bPs,if_false]
   refine fin (by simp only[go_sem]) (by simp[aC]) (by simp only[go_sem]) (by simp[aC]) ?_ ?_ ?_ ?_
   ·first
     |exact .inl ⟨rfl,rfl⟩
     |exact .inr ⟨g11,by rw[bPr],by simp only[go_sem],by simp[aC],by rw[iR];exact hu⟩
   ·first
     |exact .inl ⟨rfl,rfl⟩
     |exact .inr ⟨g14,by rw[bPr],by simp only[go_sem],by simp[aC],by rw[iR];exact hi⟩
   ·intro t g hg;simp only[old hg hg1,old hg hg2,old hg hg5,old hg hg8,old hg hg11,old hg hg14]
   ·repeat' (refine oR ?_ (by assumption))
    exact fun _=>bPq _
 ·dsimp only at eO eT;have eU:=True.intro;have eI:=True.intro;rcases mU with⟨rfl,hu⟩|⟨gU,rfl,eU,lU,hu⟩<;>rcases mI with⟨rfl,hi⟩|⟨gI,rfl,eI,lI,hi⟩
  all_goals try dsimp only at eU
  all_goals try dsimp only at eI
  all_goals
   try(have hu':outs=[]:=(by simpa using hu);subst hu')
   try(have hi':ins=[]:=(by simpa using hi);subst hi')
   simp only[go_sem,kK,<-hg1,<-hg2]
   refine aH ?_
   try(have hu:=hu;rw[iR]at hu)
   try(have hi:=hi;rw[iR]at hi)
   simp only[go_sem,bM,dY,aL3,nB,gX,iR,he1,he2,hu,hi,hl1,hl2,hl3,hl4,tk1,tk2,tk3,tk4,aAh,aC4,aQm,bPr,bP1,bPq,<-hg5,<-hg8,<-hg11,<-hg14,eO,eT,eU,eI,kB,kA,bPs,if_false]
   refine fin (by simp only[go_sem]) (by simp[aC]) (by simp only[go_sem]) (by simp[aC]) ?_ ?_ ?_ ?_
   ·first
     |exact .inl ⟨rfl,rfl⟩
     |exact .inr ⟨g11,by rw[bPr],by simp only[go_sem],by simp[aC],by rw[iR];assumption⟩
   ·first
     |exact .inl ⟨rfl,rfl⟩
     |exact .inr ⟨g14,by rw[bPr],by simp only[go_sem],by simp[aC],by rw[iR];assumption⟩
   ·intro t g hg;simp only[old hg hg1,old hg hg2,old hg hg5,old hg hg8,old hg hg11,old hg hg14]
   ·repeat' (refine oR ?_ (by assumption))
    exact fun _=>bPq _
theorem zC.shape (h:zC en cnt v size xs t):v.one=true/\ v.cells=[v]:=by
 rcases h with⟨rfl,_⟩|⟨g,rfl,_⟩<;>exact⟨rfl,rfl⟩
structure aDz (a x:Val):Prop where
 snap: ∀n en,snapD (n+1) en a=some (a,[])
 wk:a.wk0=x
 one:a.one=true
 cells:a.cells=[a]
theorem sQ (xs:List Val):aDz (.fz xs) (.fz xs):=⟨fun _ _=>rfl,rfl,rfl,rfl⟩
theorem aGf (xs:List Val):aDz (.cl xs) (.fz xs):=⟨fun _ _=>rfl,rfl,rfl,rfl⟩
theorem aXe (w:aA)(j:Nat)(o:aQ){a b:Val}(ha:aDz a (.fz (o.vals.map aD.enc)))(hb:aDz b (.fz (o.frames.map aB.enc)))(hj:j<w.objs.length)(ht:0<w.tasks.length)(hl:w.objs.length<=130/\ w.tasks.length<=130/\ w.outs.length<=110/\ w.ins.length<=60)(hL:aGd en cnt w vO vT vU vI)
  (hs:(vO.one=true/\ vO.cells=[vO])/\ (vT.one=true/\ vT.cells=[vT])/\ (vU.one=true/\ vU.cells=[vU])/\ (vI.one=true/\ vI.cells=[vI])):
  WIn L (.fn 126 [] []) [.agg [vO,vT,vU,vI,.i w.used],.i j,.agg [.i o.form,.i o.n,a,b]] en cnt fun v en' cnt'=>xA en cnt (dW w j o) [] v en' cnt':=by
 obtain⟨g3,hg3⟩: ∃g,g=cnt 0 3:=⟨_,rfl⟩
 obtain⟨gA,hgA⟩: ∃g,g=cnt 0 5:=⟨_,rfl⟩
 obtain⟨g6,hg6⟩: ∃g,g=cnt 0 6:=⟨_,rfl⟩
 have hget:(w.objs.map aQ.enc)[j]?=some (aQ.enc w.objs[j]):=by simp[hj]
 have up0: ∀t,cnt 0 t<=aC (aC (aC cnt 0 3 (g3+1)) 0 5 (gA+1)) 0 6 (g6+1) 0 t:=oR (oR (oR (fun _=>bPq _) hg3) hgA) hg6
 have hLz:=at_ func126
 conv at hLz=>rhs;reduce
 refine bD hLz rfl rfl ?_
 simp only[go_sem,kK,<-hg3,<-hgA,<-hg6]
 refine(aGe w (by omega) ht hl (hL.keep (fun t g hg=>?_) up0)).mono ?_
 ·rw[jS (bQ8 hg6.symm) hg,jS (bQ8 hgA.symm) hg,jS (bQ8 hg3.symm) hg]
 rintro v en' cnt' ⟨⟨g5,g8,vU',vI',rfl,e5,l5,m5,e8,l8,m8,mU,mI⟩,old,up⟩
 have e3:=old 3 g3 (by simp[aC])
 have eA:=old 5 gA (by simp[aC])
 have e6:=old 6 g6 (by simp[aC])
 have l5':gA<g5:=by have:=l5;simp[aC]at this;omega
 try simp only[go_sem]at e3 eA e6
 simp only[go_sem,e3,eA,e6,e5,hget,hj,ha.snap,hb.snap,ha.wk,hb.wk,bSa,bQo]
 refine⟨⟨g5,g8,vU',vI',?_,?_,by omega,m5,?_,bP2 (up0 8) l8,m8,?_,?_⟩,fun t g hg=>?_,fun t=>bP2 (up0 t) (up t)⟩
 ·simp only[dW,bQo,bRp]
 ·simp only[go_sem,dW,bR4,bQo]
 ·simp only[go_sem,e8,dW]
 ·exact mU.keep (fun g _=>by simp only[go_sem]) (bPq _)
 ·exact mI.keep (fun g _=>by simp only[go_sem]) (bPq _)
 ·rw[jS (bQ8 hg6.symm) hg,jS (by omega) hg,jS (bQ8 hg3.symm) hg,old t g (bQf hg (up0 t)),jS (bQ8 hg6.symm) hg,jS (bQ8 hgA.symm) hg,jS (bQ8 hg3.symm) hg]
theorem aGd.shape (h:aGd en cnt w vO vT vU vI):
  (vO.one=true/\ vO.cells=[vO])/\ (vT.one=true/\ vT.cells=[vT])/\ (vU.one=true/\ vU.cells=[vU])/\ (vI.one=true/\ vI.cells=[vI]):=by
 rcases h with⟨rfl,rfl,rfl,rfl⟩|⟨gO,gT,rfl,_,_,rfl,_,_,mU,mI⟩
 ·exact⟨⟨rfl,rfl⟩,⟨rfl,rfl⟩,⟨rfl,rfl⟩,rfl,rfl⟩
 ·exact⟨⟨rfl,rfl⟩,⟨rfl,rfl⟩,mU.shape,mI.shape⟩
theorem aHr {f:Nat}{lf:iW}{args:List Val}(hL:L f=some lf)(hk:lf.keep=false)(hn:args.length=lf.np)(ha:yD lf args=false)
  (h:WIn L (.fn f [] []) args (fun _=>none) (fun _ _=>0) fun v en' _=> ∃r' ks,snapD 8 en' v=some (r',ks)/\ r'.wk=r) (hz:lf.nrm=[]:=by rfl):PC L f args r:=by
 obtain⟨v,en',cnt',⟨n0,h0⟩,r',ks,h1,h2⟩:=h
 refine⟨n0,fun n hm=>?_⟩
 have hx:=h0 n hm (fun _=> .tup [])
 simp only[Inl.call,fE,aA9,bQt,bQr]at hx;have hx:lD L (exec L n) f args ⟨fun _=> .tup [],fun _=>none,fun _ _=>0⟩=some (v,⟨fun _=> .tup [],en',cnt'⟩):=by
  split at hx
  case h_2=>cases hx
  rename_i hw;simp only[hL,hz,norms,bPo]at hx;rw[hw];exact congrArg some hx
 simp only[lD,hL,hn,if_true,ha,bPs,if_false]at hx;simp only[lX,bL,hL,hn,if_true,ha,bPs,if_false,jD,Go.Abs.start]
 split at hx
 ·rename_i e st' he
  split at hx
  ·rename_i hend;simp only[hend,if_true];obtain⟨vs,hvs,heq⟩:=bP5.1 hx;simp only[bPt,St.mk.injEq]at heq;obtain⟨rfl,_,rfl,_⟩:=heq;simp only[aEz,hvs,hk,bPs,if_false,uW _ _ _ _ h1 8 (bPq _),h2]
  ·cases hx
 ·cases hx
theorem zC.snapB (h:zC en cnt v size xs t)(n:Nat): ∃r ks,snapD (n+1) en v=some (r,ks)/\ r.wk0= .fz xs:=by
 rcases h with⟨rfl,rfl⟩|⟨g,rfl,h2,_⟩
 ·exact⟨.cl [],[],rfl,rfl⟩
 ·exact⟨.fz xs,[⟨0,t,g⟩],by simp[snapD,aKx,h2],rfl⟩
theorem xA.snap (h:xA en cnt w [] v en' cnt'): ∃r ks,snapD 8 en' v=some (r,ks)/\ r.wk= .agg w.cs:=by
 obtain⟨⟨g5,g8,vU,vI,rfl,e5,_,_,e8,_,_,mU,mI⟩,_,_⟩:=h;obtain⟨r1,k1,s1,t1⟩:=mU.snapB 6;obtain⟨r2,k2,s2,t2⟩:=mI.snapB 6;have l1:(w.objs.map aQ.enc).take w.objs.length=w.objs.map aQ.enc:=bQa (by simp)
 have l2:(w.tasks.map (Val.int .i64)).take w.tasks.length=w.tasks.map (.int .i64):=bQa (by simp)
 refine⟨_,_,by simp only[go_sem,e5,e8,s1,s2,l1,l2,bPq];rfl,?_⟩
 simp only[go_sem,t1,t2]
theorem xA.snapD {d:Did}(h:xA en cnt d.w [.i d.what,.i d.e.task,.i d.e.act,.i d.e.n,.i d.e.v.kind,.i d.e.v.n] v en' cnt'): ∃r ks,Go.Abs.snapD 8 en' v=some (r,ks)/\ r.wk= .agg [.fz (d.w.objs.map aQ.enc),.fz (d.w.tasks.map (.int .i64)),.fz (d.w.outs.map bJ.enc),.fz (d.w.ins.map (.int .i64)),.i d.w.used,.i d.what,.i d.e.task,.i d.e.act,.i d.e.n,.i d.e.v.kind,.i d.e.v.n]:=by
 obtain⟨⟨g5,g8,vU,vI,rfl,e5,_,_,e8,_,_,mU,mI⟩,_,_⟩:=h;obtain⟨r1,k1,s1,t1⟩:=mU.snapB 6;obtain⟨r2,k2,s2,t2⟩:=mI.snapB 6;have l1:(d.w.objs.map aQ.enc).take d.w.objs.length=d.w.objs.map aQ.enc:=bQa (by simp)
 have l2:(d.w.tasks.map (Val.int .i64)).take d.w.tasks.length=d.w.tasks.map (.int .i64):=bQa (by simp)
 refine⟨_,_,by simp only[go_sem,e5,e8,s1,s2,l1,l2,bPq];rfl,?_⟩
 simp only[go_sem,t1,t2]
structure Fit (w:aA) (a:Int):Prop where
 len:w.objs.length<=130/\ w.tasks.length<=130/\ w.outs.length<=110/\ w.ins.length<=60
 at_:inR a 0 ((w.tasks.length:Int)-1)=true
 rng:inR (bG w a) 0 ((w.objs.length:Int)-1)=true
theorem aQp (ha:inR a 0 ((w.tasks.length:Int)-1)=true):oU 1 en (.fz (w.tasks.map (.int .i64))) (.i a)=some {v:= .fp [.i (bG w a)] 0}:=vB ha
theorem aL4 (w:aA)(n:Int)(o:aQ)(hn:inR n 0 ((w.objs.length:Int)-1)=true)(ht:0<w.tasks.length)(hl:w.objs.length<=130/\ w.tasks.length<=130/\ w.outs.length<=110/\ w.ins.length<=60):
  PC L 126 [.agg w.cs,.i n,.agg [.i o.form,.i o.n,.fz (o.vals.map aD.enc),.fz (o.frames.map aB.enc)]] (.agg (dW w n o).cs):=by
 simp only[inR,bTe]at hn;obtain⟨j,rfl⟩:=bQv hn.1;have hL:=aB7 (fun _=>none) (fun _ _=>0) w
 have hLz:=at_ func126
 conv at hLz=>rhs;reduce
 exact aHr hLz rfl rfl rfl ((aXe w j o (sQ _) (sQ _) (by omega) ht hl hL hL.shape).mono fun v en' cnt' h=>h.snap)
theorem gG (w:aA)(a st:Int)(hf:Fit w a):PC L 177 [.agg w.cs,.i a,.i st] (.agg [.fz ((bE w a st).w.objs.map aQ.enc),.fz ((bE w a st).w.tasks.map (.int .i64)),.fz ((bE w a st).w.outs.map bJ.enc),.fz ((bE w a st).w.ins.map (.int .i64)),.i (bE w a st).w.used,.i (bE w a st).what,.i (bE w a st).e.task,.i (bE w a st).e.act,.i (bE w a st).e.n,.i (bE w a st).e.v.kind,.i (bE w a st).e.v.n]):=by
 have ha:=hf.at_;simp only[inR,bTe]at ha;have hS:=aL4 w (bG w a) ⟨6,st,[],[]⟩ hf.rng (by omega) hf.len
 have hLz:=at_ func177
 conv at hLz=>rhs;reduce
 refine aI hLz rfl rfl ?_
 simp only[bP1]at hS;simp only[go_sem,kK,aQp hf.at_,hS.ret,bE,jL]
theorem aTv (w:aA)(a:Int)(left:List aB)(v:aD){c:Val}(hc:aDz c (.fz (left.map aB.enc)))(hf:Fit w a)(hL:aGd en cnt w vO vT vU vI):
  WIn L (.fn 178 [] []) [.agg [vO,vT,vU,vI,.i w.used],.i a,c,.agg [.i v.kind,.i v.n]] en cnt fun x en' cnt'=>xA en cnt (bV w a left v).w [.i 0,.i 0,.i 0,.i 0,.i 0,.i 0] x en' cnt':=by
 have ha:=hf.at_;have hr:=hf.rng;simp only[inR,bTe]at ha hr;obtain⟨j,hj⟩:=bQv hr.1;obtain⟨i,rfl⟩:=bQv ha.1;have hi:i<w.tasks.length:=by omega
 have hti:w.tasks[i]=(j:Int):=by rw[<-hj];simp[bG,bPu,hi]
 have hget:(w.tasks.map (Val.int .i64))[i]?=some (.i (j:Int)):=by simp[hi,hti]
 have hi1:((i:Int)<(w.tasks.length:Int)):=by omega
 obtain⟨⟨o1,o2⟩,⟨t1,t2⟩,⟨u1,u2⟩,⟨i1,i2⟩⟩:=hL.shape;obtain⟨g4,hg4⟩: ∃g,g=cnt 0 4:=⟨_,rfl⟩
 obtain⟨g7,hg7⟩: ∃g,g=cnt 0 7:=⟨_,rfl⟩
 obtain⟨g8,hg8⟩: ∃g,g=cnt 0 8:=⟨_,rfl⟩
 have up0: ∀t,cnt 0 t<=aC (aC (aC cnt 0 4 (g4+1)) 0 7 (g7+1)) 0 8 (g8+1) 0 t:=oR (oR (oR (fun _=>bPq _) hg4) hg7) hg8
 have hD:(bV w i left v).w=dW w j ⟨6,0,[v],left⟩:=by simp only[bV,hj]
 rw[hD];have key:=fun{en1:En} (h: ∀t g,g<cnt 0 t->en1 ⟨0,t,g⟩=en ⟨0,t,g⟩)=>aXe w j ⟨6,0,[v],left⟩ (aGf [.agg [.i v.kind,.i v.n]]) hc (by omega) (by omega) hf.len (en:=en1) (cnt:=aC (aC (aC cnt 0 4 (g4+1)) 0 7 (g7+1)) 0 8 (g8+1)) (hL.keep h up0) hL.shape
 have hj':w.tasks.getD ((i:Int)).toNat 0=(j:Int):=hj;have oldS:=fun{e1:En} {x4 x7 x8:Option Ent} {t g:Nat} (hg:g<cnt 0 t)=>show((e1.set ⟨0,4,g4⟩ x4).set ⟨0,7,g7⟩ x7).set ⟨0,8,g8⟩ x8 ⟨0,t,g⟩=e1 ⟨0,t,g⟩by
  rw[jS (bQ8 hg8.symm) hg,jS (bQ8 hg7.symm) hg,jS (bQ8 hg4.symm) hg]
 have fin: ∀{en1:En} {x:Val} {en':En} {cnt':Nat->Nat->Nat},(∀t g,g<cnt 0 t->en1 ⟨0,t,g⟩=en ⟨0,t,g⟩)->xA en1 (aC (aC (aC cnt 0 4 (g4+1)) 0 7 (g7+1)) 0 8 (g8+1)) (dW w j ⟨6,0,[v],left⟩) [] x en' cnt'->
   ∃g5 g9 vU vI,x= .agg [.bl ⟨0,5,g5⟩ 0 (dW w j ⟨6,0,[v],left⟩).objs.length,.bl ⟨0,8,g9⟩ 0 (dW w j ⟨6,0,[v],left⟩).tasks.length,vU,vI,.i (dW w j ⟨6,0,[v],left⟩).used]/\ (vU.one=true/\ vU.cells=[vU])/\ (vI.one=true/\ vI.cells=[vI])/\ en' ⟨0,8,g8⟩=en1 ⟨0,8,g8⟩/\
    ∀Z:Option Ent,xA en cnt (dW w j ⟨6,0,[v],left⟩) [.i 0,.i 0,.i 0,.i 0,.i 0,.i 0] (.agg (.bl ⟨0,5,g5⟩ 0 (dW w j ⟨6,0,[v],left⟩).objs.length:: .bl ⟨0,8,g9⟩ 0 (dW w j ⟨6,0,[v],left⟩).tasks.length::vU::vI:: .i (dW w j ⟨6,0,[v],left⟩).used::[.i 0,.i 0,.i 0,.i 0,.i 0,.i 0])) (en'.set ⟨0,8,g8⟩ Z) cnt':=by
  rintro en1 x en' cnt' h1 ⟨⟨g5,g9,vU,vI,rfl,e5,l5,m5,e9,l9,m9,mU,mI⟩,old,up⟩
  have hlt:g8<aC (aC (aC cnt 0 4 (g4+1)) 0 7 (g7+1)) 0 8 (g8+1) 0 8:=by simp[aC]
  refine⟨g5,g9,vU,vI,rfl,mU.shape,mI.shape,old 8 g8 hlt,fun Z=>⟨⟨g5,g9,vU,vI,rfl,by simp only[go_sem,e5],bP2 (up0 5) l5,m5,?_,bP2 (up0 8) l9,m9,mU.keep (fun g _=>by simp only[go_sem]) (bPq _),mI.keep (fun g _=>by simp only[go_sem]) (bPq _)⟩,fun t g hg=>?_,fun t=>bP2 (up0 t) (up t)⟩⟩
  ·rw[aW6 (by omega)];exact e9
  ·rw[jS (bQ8 hg8.symm) hg,old t g (bQf hg (up0 t)),h1 t g hg]
 have hLz:=at_ func178
 conv at hLz=>rhs;reduce
 refine bD hLz rfl rfl ?_
 simp only[go_sem,kK,<-hg4,<-hg7,<-hg8]
 refine aH ?_
 rcases hL with⟨rfl,rfl,rfl,rfl⟩|⟨gO,gT,rfl,eO,lO,rfl,eT,lT,mU,mI⟩
 ·simp only[go_sem,aDr (f:=Val.int .i64) (size:=1) (k:= .i64) (l:=w.tasks) 0 hf.at_ (fun _=>rfl),hj',hc.one,hc.cells,qO,lR,kA,bPs,if_false]
  refine(key fun t g hg=>oldS hg).mono ?_
  intro x en' cnt' hO;obtain⟨g5,g9,vU,vI,rfl,⟨s1,s2⟩,⟨s3,s4⟩,e8,hO'⟩:=fin (fun t g hg=>oldS hg) hO
  try simp only[go_sem]at e8
  simp only[go_sem,e8];exact hO' _
 ·have hne: ¬gT=g8:=by omega
  simp only[go_sem,eT,hne,hget,hi1,hc.one,hc.cells,kB,bSa,bQo,kA,bPs,if_false]
  refine(key fun t g hg=>oldS hg).mono ?_
  intro x en' cnt' hO;obtain⟨g5,g9,vU',vI',rfl,⟨s1,s2⟩,⟨s3,s4⟩,e8,hO'⟩:=fin (fun t g hg=>oldS hg) hO
  try simp only[go_sem]at e8
  simp only[go_sem,e8];exact hO' _
theorem jW (w:aA)(a:Int)(left:List aB)(v:aD)(hf:Fit w a):PC L 178 [.agg w.cs,.i a,.fz (left.map aB.enc),.agg [.i v.kind,.i v.n]] (.agg [.fz ((bV w a left v).w.objs.map aQ.enc),.fz ((bV w a left v).w.tasks.map (.int .i64)),.fz ((bV w a left v).w.outs.map bJ.enc),.fz ((bV w a left v).w.ins.map (.int .i64)),.i (bV w a left v).w.used,.i (bV w a left v).what,.i (bV w a left v).e.task,.i (bV w a left v).e.act,.i (bV w a left v).e.n,.i (bV w a left v).e.v.kind,.i (bV w a left v).e.v.n]):=by
 have hLz:=at_ func178
 conv at hLz=>rhs;reduce
 exact aHr hLz rfl rfl rfl ((aTv w a left v (sQ _) hf (aB7 _ _ w)).mono fun v en' cnt' h=>h.snapD (d:=bV w a _ _))
theorem bF9 {a b:Val}:cU 2 [.agg [a,b]]=true:=(rfl)
theorem bGa {a b c:Val}:cU 3 [.agg [a,b,c]]=true:=(rfl)
theorem bGb {a b c d:Val}:cU 4 [.agg [a,b,c,d]]=true:=(rfl)
theorem bCe {k:IntKind}{n:Int}:cU 1 [.int k n]=true:=(rfl)
theorem aXf (w:aA)(a:Int)(o:aQ)(hf:Fit w a):PC L 126 [.agg w.cs,.i (bG w a),.agg [.i o.form,.i o.n,.fz (o.vals.map aD.enc),.fz (o.frames.map aB.enc)]] (.agg (dW w (bG w a) o).cs):=by
 have ha:=hf.at_;simp only[inR,bTe]at ha;exact aL4 w (bG w a) o hf.rng (by omega) hf.len
theorem aC8 (w:aA)(a:Int)(left:List aB)(node:Int)(env:List aD)(hf:Fit w a)(hl:left.length<1000000):PC L 130 [.agg w.cs,.i a,.fz (left.map aB.enc),.i node,.fz (env.map aD.enc)] (.agg [.fz ((gW w a left node env).w.objs.map aQ.enc),.fz ((gW w a left node env).w.tasks.map (.int .i64)),.fz ((gW w a left node env).w.outs.map bJ.enc),.fz ((gW w a left node env).w.ins.map (.int .i64)),.i (gW w a left node env).w.used,.i (gW w a left node env).what,.i (gW w a left node env).e.task,.i (gW w a left node env).e.act,.i (gW w a left node env).e.n,.i (gW w a left node env).e.v.kind,.i (gW w a left node env).e.v.n]):=by
 have hF:=gG w a 4 hf;have hS:=aXf w a ⟨6,0,[],left++[⟨node,env,[]⟩]⟩ hf;have hl1:left.length<=16777216:=by omega
 have hl2:left.length+1<=16777216:=by omega
 have hLz:=at_ func130
 conv at hLz=>rhs;reduce
 refine aI hLz rfl rfl ?_
 by_cases h1:40<=left.length
 ·have d1:decide ((40:Int)<=(left.length:Int))=true:=D_t (by omega)
  have e:gW w a left node env=bE w a 4:=by unfold gW;rw[if_pos (.inl h1)]
  rw[e];simp only[go_sem,kK,d1,hF.ret]
 ·have d1:decide ((40:Int)<=(left.length:Int))=false:=D_f (by omega)
  by_cases h2:30<env.length
  ·have d2:decide ((30:Int)<(env.length:Int))=true:=D_t (by omega)
   have e:gW w a left node env=bE w a 4:=by unfold gW;rw[if_pos (.inr h2)]
   rw[e];simp only[go_sem,kK,d1,d2,hF.ret]
  ·have d2:decide ((30:Int)<(env.length:Int))=false:=D_f (by omega)
   have e:gW w a left node env=⟨dW w (bG w a) ⟨6,0,[],left++[⟨node,env,[]⟩]⟩,0,eB⟩:=by unfold gW;rw[if_neg (by omega)]
   rw[e];simp only[bQs,bQj,bP1,aB.enc]at hS;cases h0:left.isEmpty with
   |true=>
    have:left=[]:=by simpa using h0
    subst this;simp only[bP1,bQt]at hS⊢;simp only[go_sem,kK,d2,bM,dY,nB,gX,List.isEmpty_cons,bGa,aQp hf.at_,rT,lS,bPq,hS.ret,eB,jL]
   |false=>
    simp only[go_sem,kK,d1,d2,bM,dY,gX,tE,iR,h0,hl1,hl2,kL,jM,bGa,bPr,bP9,bSd,bPq,bQa,aQp hf.at_,rT,lS,hS.ret,eB,jL]
theorem nC (d:Did)(a act n:Int)(v:aD):PC L 189 [.agg [.fz (d.w.objs.map aQ.enc),.fz (d.w.tasks.map (.int .i64)),.fz (d.w.outs.map bJ.enc),.fz (d.w.ins.map (.int .i64)),.i d.w.used,.i d.what,.i d.e.task,.i d.e.act,.i d.e.n,.i d.e.v.kind,.i d.e.v.n],.i a,.i act,.i n,.agg [.i v.kind,.i v.n]] (.agg [.fz ((dF d a act n v).w.objs.map aQ.enc),.fz ((dF d a act n v).w.tasks.map (.int .i64)),.fz ((dF d a act n v).w.outs.map bJ.enc),.fz ((dF d a act n v).w.ins.map (.int .i64)),.i (dF d a act n v).w.used,.i (dF d a act n v).what,.i (dF d a act n v).e.task,.i (dF d a act n v).e.act,.i (dF d a act n v).e.n,.i (dF d a act n v).e.v.kind,.i (dF d a act n v).e.v.n]):=by
 have hM:=aOn v;have hLz:=at_ func189
 conv at hLz=>rhs;reduce
 refine aI hLz rfl rfl ?_
 by_cases h:d.what=1
 ·have e:dF d a act n v=d:=by unfold dF;rw[if_pos h]
  rw[e];have d1:decide (d.what=1)=true:=D_t h;simp only[go_sem,kK,d1]
 ·have e:dF d a act n v=⟨d.w,1,⟨a,act,n,rL v⟩⟩:=by unfold dF;rw[if_neg h]
  rw[e];have d1:decide (d.what=1)=false:=D_f h;simp only[go_sem,kK,d1]
  refine aH ?_
  simp only[go_sem,hM.ret,kA,bPs,if_false]
def vX (w:aA)(v:aD)(form:Int):aQ:=if cK w v form=true then w.obj v.n else bB9
theorem pR (w:aA)(v:aD)(form:Int)(hv:v.kind=5->inR v.n 0 ((w.objs.length:Int)-1)=true):PC L 227 [.agg w.cs,.agg [.i v.kind,.i v.n],.i form] (.tup [.agg [.i (vX w v form).form,.i (vX w v form).n,.fz ((vX w v form).vals.map aD.enc),.fz ((vX w v form).frames.map aB.enc)],.bool (cK w v form)]):=by
 have hLz:=at_ func227
 conv at hLz=>rhs;reduce
 refine aI hLz rfl rfl ?_
 by_cases h5:v.kind=5
 ·have d1:decide (v.kind=5)=true:=D_t h5;have hi:=zZ (w:=w) (k:= .i64) (en:=fun _=>none) (hv h5)
  by_cases h2:(w.obj v.n).form=form
  ·have d2:decide ((w.obj v.n).form=form)=true:=D_t h2;have e:cK w v form=true:=by simp only[cK,d1,d2,Bool.and_self]
   rw[vX,if_pos e,e];simp only[go_sem,kK,d1,d2,zZ (hv h5)]
  ·have d2:decide ((w.obj v.n).form=form)=false:=D_f h2;have e:cK w v form=false:=by simp only[cK,d2,bQ7]
   rw[vX,if_neg (by rw[e];decide),e]
   simp only[go_sem,kK,d1,d2,zZ (hv h5),bB9,bP1]
 ·have d1:decide (v.kind=5)=false:=D_f h5;have e:cK w v form=false:=by simp only[cK,d1,bQq]
  rw[vX,if_neg (by rw[e];decide),e]
  simp only[go_sem,kK,d1,bB9,bP1]
inductive aHs (w:aA):Nat->Prop
 |task {i:Nat} (h:i<w.objs.length) (t:cW (w.obj i)=true):aHs w i
 |ref {i:Nat} {x:Int} (h:aHs w i) (hx:x∈vD (w.obj i)):aHs w x.toNat
def atB (out:List Bool)(i:Nat):Bool:=out.getD i false
structure bPj (w:aA) (out:List Bool):Prop where
 len:out.length=w.objs.length
 sound: ∀i,atB out i=true->aHs w i
 tasks: ∀i,i<w.objs.length->cW (w.obj i)=true->atB out i=true
def aAj (w:aA):Prop:= ∀o∈w.objs,∀x∈vD o,inR x 0 ((w.objs.length:Int)-1)=true
def aJe (en:En)(v:Val)(xs:List Val)(D:List Nat):Prop:=
 (v= .cl []/\ xs=[]) \/ ∃t g zs,v= .bl ⟨0,t,g⟩ 0 xs.length/\ en ⟨0,t,g⟩=some (.blk 1 zs false)/\ xs.length<=zs.length/\ zs.take xs.length=xs/\ t∈D
variable {D:List Nat}
theorem aJe.keep (h:aJe en v xs D)(k: ∀t g,t∈D->en' ⟨0,t,g⟩=en ⟨0,t,g⟩):aJe en' v xs D:=by
 rcases h with h|⟨t,g,zs,h1,h2,h3,h4,h5⟩
 ·exact .inl h
 ·exact .inr ⟨t,g,zs,h1,by rw[k t g h5];exact h2,h3,h4,h5⟩
theorem aJe.sub {D':List Nat}(h:aJe en v xs D)(k: ∀t∈D,t∈D'):aJe en v xs D':=by
 rcases h with h|⟨t,g,zs,h1,h2,h3,h4,h5⟩
 ·exact .inl h
 ·exact .inr ⟨t,g,zs,h1,h2,h3,h4,k t h5⟩
theorem aJe.len (h:aJe en v xs D):sD v=some xs.length:=by
 rcases h with⟨rfl,rfl⟩|⟨t,g,zs,rfl,_⟩<;>rfl
theorem aJe.shape (h:aJe en v xs D):v.one=true/\ v.cells=[v]:=by
 rcases h with⟨rfl,_⟩|⟨t,g,zs,rfl,_⟩<;>exact⟨rfl,rfl⟩
section
variable {L :bH}{fr:Nat->Val}{Q:St->Prop}{l:List aN}
end
structure bOb (w:aA) (ks td:List Int):Prop where
 met: ∀x∈ks,∃i:Nat,x=i/\ i<w.objs.length/\ aHs w i
 todo: ∀x∈td,∃i:Nat,x=i/\ i<w.objs.length/\ aHs w i
 tasks: ∀x∈w.tasks,x∈ks \/x∈td
 shut: ∀n∈ks,∀x∈vD (w.obj n),x∈ks \/x∈td
theorem aJe.nil (h:aJe en v xs D)(h0:xs.length=0):xs=[]:=List.eq_nil_of_length_eq_zero h0
def aOs (m:List Int)(i:Nat):Int:=m.getD i 0
structure bMf (w:aA) (m:List Int):Prop where
 len:m.length=w.objs.length
 range: ∀i,i<m.length->aOs m i=0 \/aOs m i=1 \/aOs m i=2
 tasks: ∀i,i<w.objs.length->cW (w.obj i)=true-> ¬aOs m i=0
 black: ∀i,i<w.objs.length->aOs m i=2-> ∀x∈vD (w.obj i),¬aOs m x.toNat=0
structure bPn (w:aA) (keep:List Int):Prop where
 rise:keep.Pairwise (· < ·)
 rng: ∀x∈keep,inR x 0 ((w.objs.length:Int)-1)=true
 refs: ∀n∈keep,∀x∈vD (w.obj n),x∈keep
 len:keep.length<=w.objs.length
theorem aIv.shape (h:aIv en v size xs t):v.one=true/\ v.cells=[v]:=h.mine.shape
theorem aIv.keep (h:aIv en v size xs t)(k: ∀g,en' ⟨0,t,g⟩=en ⟨0,t,g⟩):aIv en' v size xs t:=by
 rcases h with h|⟨g,h1,h2⟩
 ·exact .inl h
 ·exact .inr ⟨g,h1,by rw[k];exact h2⟩
def ne2 (a:Int):Bool:=!decide (a=2)
theorem xK {keep:List Int}(h:x∈keep):keep.idxOf x<keep.length:=List.idxOf_lt_length_of_mem h
theorem aB8 {l:List aD}{v:aD}(hv:v∈l)(h:aIr v=true):v.n∈mJ l:=bQk.2 ⟨v,bRa.2 ⟨hv,h⟩,rfl⟩
end Go.Proofs.YtmnchlhngpdffaaGreat
