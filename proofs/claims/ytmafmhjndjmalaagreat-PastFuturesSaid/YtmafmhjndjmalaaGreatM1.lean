/- Contracts of functions of the program and of the document: part 1. -/
import Derived.Test.YtmafmhjndjmalaaGreatHxC
import Derived.Test.YtmafmhjndjmalaaGreatCo
import Derived.Laws.Strings
import Derived.Test.YtmafmhjndjmalaaGreatRows
set_option linter.all false
open Array renaming getElem_toList -> bVu, length_toList -> bVa
open Bool renaming and_eq_true -> bSw, and_false -> bT6, and_true -> bUc, eq_iff_iff -> bUu, false_and -> bTk, false_eq_true -> bS0, false_or -> bTz, not_eq_true -> bT9, not_eq_true' -> bUb, not_false -> bTf, not_true -> bS6, or_eq_true -> bT7, true_and -> bTo
open Int renaming eq_ofNat_of_zero_le -> bTs, natCast_nonneg -> bVm, not_lt -> bUe, toNat_natCast -> bTt, toNat_of_nonneg -> bWg
open List renaming all_cons -> bVd, all_eq_true -> bS5, any_eq_true -> bVv, append_nil -> bT1, cons_append -> bVh, countP_le_length -> bV9, drop_eq_getElem_cons -> bT2, drop_length -> bUo, drop_zero -> bU2, flatMap_cons -> bVk, flatMap_nil -> bU3, foldl_cons -> bVc, foldl_nil -> bVj, getD_cons_zero -> bVx, getD_eq_getElem?_getD -> bSz, getElem?_append_left -> bUy, getElem?_eq_getElem -> bTy, getElem?_set -> bVq, getElem_mem -> bS7, length_append -> bTg, length_cons -> bS8, length_drop -> bVi, length_eq_zero_iff -> bWi, length_map -> bSy, length_nil -> bTd, length_set -> bUs, length_singleton -> bVn, map_append -> bT0, map_cons -> bTv, map_nil -> bTe, map_set -> bVe, map_take -> bUd, mem_append -> bTn, mem_cons -> bTp, mem_cons_of_mem -> bU4, mem_cons_self -> bWa, mem_filter -> bUl, mem_flatMap -> bUa, mem_map -> bTu, mem_of_mem_take -> bVf, mem_or_eq_of_mem_set -> bWl, mem_range -> bTx, nil_append -> bT4, take_length -> bUf, take_of_length_le -> bTh, take_succ_cons -> bS3, take_zero -> bS2
open Nat renaming add_zero -> bUk, le_of_eq -> bUj, le_refl -> bSx, le_trans -> bS9, lt_irrefl -> bVg, lt_of_lt_of_le -> bTm, zero_add -> bTw, zero_le -> bS4
open Option renaming bind_some -> bVt, getD_some -> bTq, map_eq_some_iff -> bTa
open Option.some renaming injEq -> bSv
open Prod.mk renaming injEq -> bS1
namespace Go.Abs
theorem eG {n:Nat}(h:Few n):IntKind.i64.wrap ((n:Int)-1)=(n:Int)-1:=by unfold Few at h;exact aV (by omega)
theorem aMh {α:Type}{l:List α}(h:Few l.length)(k:Nat):Few (l.take k).length:=by unfold Few at*;simp;omega
def aB.few (f:aB):Prop:=Few f.env.length/\ Few f.vals.length
def aP.few (o:aP):Prop:=Few o.vals.length/\ Few o.frames.length/\ ∀f∈o.frames,f.few
structure aA.few (w:aA):Prop where
 objs:Few w.objs.length
 tasks:Few w.tasks.length
 outs:Few w.outs.length
 ins:Few w.ins.length
 obj: ∀o∈w.objs,o.few
inductive Pat.few :Pat->Prop
 |mk (f n:Int) (t:ByteArray) (l:List Pat) (h:Few l.length) (ht:Few t.size) (k: ∀p∈l,Pat.few p):Pat.few (.mk f n t l)
structure aL.few (n:aL):Prop where
 kids:Few n.kids.length
 pats:Few n.pats.length
 pat: ∀q∈n.pats,q.few
structure aD.few (p:aD):Prop where
 nodes:Few p.nodes.length
 funs:Few p.funs.length
 cons:Few p.cons.length
 node: ∀n∈p.nodes,n.few
 con: ∀c∈p.cons,Few c.name.size
def inR (n lo hi:Int):Bool:=decide (lo<=n/\ n<=hi)
def aL.asks (n:aL):Int:=
 if n.op=6 \/n.op=9 \/n.op=10 \/n.op=11 \/n.op=12 \/n.op=13 \/n.op=18 \/n.op=22 then 2
 else if n.op=14 then n.kids.length
 else if n.op=7 \/n.op=8 \/n.op=15 \/n.op=16 \/n.op=17 \/n.op=19 \/n.op=20 \/n.op=23 \/n.op=24 \/n.op=26 then 1 else 0
def aD.node (p:aD)(i:Int):aL:=p.nodes.getD i.toNat default
def dR (p:aD)(w:aA)(v:aE):Bool:=
 if v.kind=1 then inR v.n (-1000000000) 1000000000
 else if v.kind=2 then inR v.n 0 1
 else if v.kind=3 then decide (v.n=0)
 else if v.kind=4 then inR v.n 0 (p.funs.length-1)
 else if v.kind=5 then inR v.n 0 (w.objs.length-1)else false
def bC (p:aD)(w:aA)(l:List aE)(most:Int):Bool:=decide ((l.length:Int)<=most)&&l.all (dR p w)
def dN (p:aD)(w:aA)(f:aB):Bool:=
 inR f.node 0 (p.nodes.length-1)&&bC p w f.env 30&&bC p w f.vals (p.node f.node).asks
def bY (p:aD)(w:aA)(l:List aB):Bool:=decide ((l.length:Int)<=40)&&l.all (dN p w)
def fV (p:aD)(f:aB):Bool:=decide ((f.vals.length:Int)<(p.node f.node).asks)
def kI (p:aD)(w:aA)(o:aP):Bool:=
 if o.n=0 then bY p w o.frames&&bC p w o.vals 1&&decide ((0:Int)<o.frames.length+o.vals.length)&&(o.frames.take (o.frames.length+o.vals.length-1)).all (fV p)
 else if o.n=1 then decide ((o.frames.length:Int)=0)&&decide ((o.vals.length:Int)=1)&&bC p w o.vals 1
 else if o.n=2 \/o.n=3 \/o.n=4 then decide ((o.frames.length:Int)=0)&&decide ((o.vals.length:Int)=0)else false
def dX (p:aD)(w:aA)(o:aP):Bool:=
 if o.form=6 then kI p w o
 else if o.form=5 then decide (o.n=0)&&decide ((o.vals.length:Int)=0)&&decide ((0:Int)<o.frames.length)&&bY p w o.frames&&o.frames.all (fV p)&&decide ((p.node (o.frames.headD default).node).op=26)
 else if¬(o.frames.length:Int)=0 then false
 else if o.form=1 then inR o.n 0 (p.cons.length-1)&&decide ((o.vals.length:Int)=(p.cons.getD o.n.toNat default).args)&&bC p w o.vals 3
 else if o.form=2 then inR o.n 0 (p.nodes.length-1)&&decide ((p.node o.n).op=5)&&bC p w o.vals 30
 else if o.form=3 then decide (o.n=0)&&decide ((o.vals.length:Int)=1)&&bC p w o.vals 1
 else if o.form=4 then decide (o.n=0)&&bC p w o.vals 4 else false
def dB (o:aP):Bool:=decide (o.form=6)
def aA.obj (w:aA)(i:Int):aP:=w.objs.getD i.toNat default
def bU (w:aA):List Int->List Int->Bool
 |_,[]=>true
 |met,k::l=>inR k 0 (w.objs.length-1)&&dB (w.obj k)&&!met.any (fun x=>decide (x=k))&&bU w (met++[k]) l
def gS (w:aA):Bool:=decide (w.tasks.length=w.objs.countP dB)&&bU w [] w.tasks
def oB (l:List Int)(most:Int):Bool:=decide ((l.length:Int)<=most)&&l.all fun n=>inR n (-1000000000) 1000000000
def xR (o:bO):Bool:=inR o.port 0 3&&inR o.n (-1000000000) 1000000000
def cJ (p:aD)(w:aA):Bool:=
 decide ((w.objs.length:Int)<=120)&&decide ((w.outs.length:Int)<=100)&&oB w.ins 50&&inR w.used 0 1000000000&&gS w&&w.objs.all (dX p w)&&w.outs.all xR
def iB (o:aP):Bool:=decide ((o.vals.length:Int)<=40)&&decide ((o.frames.length:Int)<=50)&&o.frames.all fun f=>decide ((f.env.length:Int)<=40)&&decide ((f.vals.length:Int)<=40)
def bZ (w:aA):Bool:=
 decide ((w.objs.length:Int)<=130)&&decide ((w.tasks.length:Int)<=130)&&decide ((w.outs.length:Int)<=110)&&decide ((w.ins.length:Int)<=60)&&w.objs.all iB
variable {α:Type}
theorem aW8 {l:List α}{k:Nat}(h:k<l.length)(p:α->Bool):(l.take (k+1)).countP p=(l.take k).countP p+(if p l[k]then 1 else 0):=by
 rw[<-List.take_append_getElem h,List.countP_append];simp[List.countP_cons]
theorem iG {α:Type}{l:List α}{k:Nat}(h:k<l.length):l.take (k+1)=l.take k++[l[k]]:=by
 rw[List.take_append_getElem h]
variable {en:En}{i:Int}{k:IntKind}
theorem aEa {f:α->Val}{size:Nat}{l:List α}(d:α)(h:inR i 0 ((l.length:Int)-1)=true)(hs: ∀x,(f x).cells.length=size):
  mH size en (.fz (l.map f)) (.int k i)=some {v:= .fp (f (l.getD i.toNat d)).cells 0}:=by
 simp only[inR,bWo]at h;obtain⟨j,rfl⟩:=bTs h.1;have hj:j<l.length:=by omega
 rw[aW3 (f:=f) hj (by simp[hs])]
 simp[bSz,hj]
theorem bM {p:aD}(h:inR i 0 ((p.nodes.length:Int)-1)=true):
  mH 4 en (.fz (p.nodes.map aL.enc)) (.int k i)=some {v:= .fp (aL.enc (p.node i)).cells 0}:=aEa default h fun x=>rfl
theorem aP0 {l:List aB}(h:0<l.length):mH 3 en (.fz (l.map aB.enc)) (.int k 0)=some {v:= .fp (aB.enc (l.headD default)).cells 0}:=by
 have:=aEa (f:=aB.enc) (size:=3) (k:=k) (i:=0) (en:=en) default (l:=l) (by simp[inR];omega) (fun _=>rfl)
 rw[this];cases l<;>simp at h⊢
theorem aIh {l:List dC}(h:inR i 0 ((l.length:Int)-1)=true):
  mH 2 en (.fz (l.map dC.enc)) (.int k i)=some {v:= .fp (dC.enc (l.getD i.toNat default)).cells 0}:=aEa default h fun x=>rfl
theorem aAt {w:aA}(h:inR i 0 ((w.objs.length:Int)-1)=true):
  mH 4 en (.fz (w.objs.map aP.enc)) (.int k i)=some {v:= .fp (aP.enc (w.obj i)).cells 0}:=aEa default h fun x=>rfl
theorem yK {l:List Int}(h:inR i 0 ((l.length:Int)-1)=true):
  mH 1 en (.fz (l.map (.int .i64))) (.int k i)=some {v:= .fp [.int .i64 (l.getD i.toNat 0)] 0}:=aEa 0 h fun x=>rfl
def aMc.few (s:aMc):Prop:=s.world.few/\ Few s.ages.length/\ Few s.marks.length
end Go.Abs
namespace Go.Proofs.YtmafmhjndjmalaaGreat
open Go.Abs Go.Proofs Tryz
set_option maxRecDepth 100000
set_option maxHeartbeats 4000000
theorem oP (n lo hi:Int):PC L 61 [.i n,.i lo,.i hi] (.bool (inR n lo hi)):=by
 refine pcA func61 ?_
 simp only[go_sem,qW]
 refine bD (fun h=>?_) (fun h=>?_)<;>simp only[go_sem,h]<;>simp at h<;>simp[h,inR]
 omega
theorem aOy (l:List Int)(n:Int)(hl:Few l.length):PC L 110 [.is l,.i n] (.bool (l.any fun x=>decide (x=n))):=by
 refine pcA func110 ?_
 simp only[go_sem,qW]
 refine bK l.length (fun k st=> ∃fr en cnt,st=⟨fr,en,cnt⟩/\ fr 0= .is l/\ fr 1= .i n/\ fr 5= .i k/\ (l.drop k).any (fun x=>decide (x=n))=l.any fun x=>decide (x=n)) 0 (bS4 _) (by refine⟨_,_,_,rfl,?_,?_,?_,rfl⟩<;>simp only[go_sem]) ?_
 rintro k st hk ⟨fr,en,cnt,rfl,h0,h1,h5,hI⟩
 simp only[go_sem,qW,h0,h5]
 refine aZ (fun h=>?_) (fun h=>?_)
 ·have h':k<l.length:=D_o h;rw[aT7 h']at hI;simp only[go_sem,qW,h',h1,h5]
  refine aZ (fun h2=>?_) (fun h2=>?_)
  ·rw[<-hI,h2];rfl
  ·refine⟨_,_,_,rfl,?_⟩
   simp only[go_sem,h0,h1,aR h' hl];rw[<-hI,h2];simp
 ·have:k=l.length:=by simp at h;omega
  subst this;rw[<-hI];simp
theorem xS (n:aL):PC L 82 [.agg [.i n.op,.i n.n,.fz (n.kids.map (.int .i64)),.fz (n.pats.map Pat.enc)]] (.i n.asks):=by
 refine pcA func82 ?_
 simp only[go_sem,qW]
 repeat' ((first|with_reducible refine aZ (fun h=>?_) (fun h=>?_)|with_reducible refine bD (fun h=>?_) (fun h=>?_))<;>(try simp only[bWo,bWp]at h)<;>try simp only[go_sem,h])
 all_goals simp[aL.asks, *]
theorem aRu (p:aD)(w:aA)(v:aE)(hp:p.few)(hw:w.few):PC L 164 [.agg p.cs,.agg w.cs,.agg [.i v.kind,.i v.n]] (.bool (dR p w v)):=by
 refine pcA func164 ?_
 simp only[go_sem,qW,(oP _ _ _).ret,eG hp.funs,eG hw.objs]
 repeat' ((first|with_reducible refine aZ (fun h=>?_) (fun h=>?_)|with_reducible refine bD (fun h=>?_) (fun h=>?_))<;>(try simp only[bWo,bWp]at h)<;>try simp only[go_sem,qW,h,(oP _ _ _).ret,eG hp.funs,eG hw.objs])
 all_goals simp[dR, *]
theorem pI (p:aD)(w:aA)(l:List aE)(m:Int)(hp:p.few)(hw:w.few)(hl:Few l.length):
  PC L 114 [.agg p.cs,.agg w.cs,.fz (l.map aE.enc),.i m] (.bool (bC p w l m)):=by
 refine pcA func114 ?_
 simp only[go_sem,qW]
 refine bK (l.length) (fun k st=> ∃fr en cnt,st=⟨fr,en,cnt⟩/\ (fr 2= .fz (l.map aE.enc))/\ (fr 3= .i m)/\ (fr 4= .ptr ⟨0,4,0⟩ 0)/\ (en ⟨0,4,0⟩=some (.box p.cells false))/\ (fr 5= .ptr ⟨0,5,0⟩ 0)/\ (en ⟨0,5,0⟩=some (.box w.cells false))/\ (fr 9= .i k)/\ ((l.drop k).all (dR p w)=l.all (dR p w))) 0 (bS4 _) (by refine⟨_,_,_,rfl,?_,?_,?_,?_,?_,?_,?_,?_⟩<;>first|(simp only[go_sem];(try rfl);done)|rfl|simp) ?_
 rintro k st hk ⟨fr,en,cnt,rfl,h2,h3,h4,e4,h5,e5,h9,hI⟩
 simp only[go_sem,qW,h2,h3,h4,e4,h5,e5,h9]
 refine bD (fun h=>?_) (fun h=>?_)
 ·have h':k<l.length:=D_o h;rw[gP h']at hI;simp only[go_sem,h']
  refine aZ (fun hm=>?_) (fun hm=>?_)
  ·simp only[go_sem,qW,h9,(aRu p w _ hp hw).ret]
   refine aZ (fun hb=>?_) (fun hb=>?_)
   ·simp at hb
    simp[bC,<-hI,hb]
   ·simp at hb
    refine⟨_,_,_,rfl,?_⟩
    simp only[go_sem,h2,h3,h4,e4,h5,e5,aR h' hl];rw[<-hI,hb];simp
  ·simp at hm
   try simp only[go_sem,qW,h2,h3,h4,e4,h5,e5,h9]
   simp[bC];omega
 ·have:k=l.length:=by simp at h;omega
  subst this
  try simp only[go_sem,h,h2,h3]
  simp at hI
  simp[bC];exact fun _=>hI
theorem aEb (p:aD)(w:aA)(l:List aB)(hp:p.few)(hw:w.few)(hl:Few l.length)(hf: ∀f∈l,f.few):
  PC L 112 [.agg p.cs,.agg w.cs,.fz (l.map aB.enc)] (.bool (bY p w l)):=by
 refine pcA func112 ?_
 simp only[go_sem,qW]
 refine bK (l.length) (fun k st=> ∃fr en cnt,st=⟨fr,en,cnt⟩/\ (fr 2= .fz (l.map aB.enc))/\ (fr 3= .ptr ⟨0,3,0⟩ 0)/\ (en ⟨0,3,0⟩=some (.box p.cells false))/\ (fr 4= .ptr ⟨0,4,0⟩ 0)/\ (en ⟨0,4,0⟩=some (.box w.cells false))/\ (fr 7= .i k)/\ ((l.drop k).all (dN p w)=l.all (dN p w))) 0 (bS4 _) (by refine⟨_,_,_,rfl,?_,?_,?_,?_,?_,?_,?_⟩<;>first|(simp only[go_sem];(try rfl);done)|rfl|simp) ?_
 rintro k st hk ⟨fr,en,cnt,rfl,h2,h3,e3,h4,e4,h7,hI⟩
 simp only[go_sem,qW,h2,h7]
 refine bD (fun h=>?_) (fun h=>?_)
 ·have h':k<l.length:=D_o h;rw[gP h']at hI;have hx:=hf l[k] (bS7 _);simp only[go_sem,h']
  refine aZ (fun hm=>?_) (fun hm=>?_)
  ·refine aCf ?_ ?_
   ·decide
   simp only[go_sem,h3,e3,h4,e4,(oP _ _ _).ret,eG hp.nodes]
   refine bD (fun hb=>?_) (fun hb=>?_)
   ·have hb':inR l[k].node 0 (p.nodes.length-1)=true:=by simpa using hb
    simp only[go_sem,hb',h3,e3,h4,e4,(pI p w _ _ hp hw hx.1).ret]
    refine bD (fun hc=>?_) (fun hc=>?_)
    ·have hc':bC p w l[k].env 30=true:=by simpa using hc
     simp only[go_sem,qW,hc',hb',h7,bM,(xS _).ret,(pI p w _ _ hp hw hx.2).ret]
     refine aZ (fun hd=>?_) (fun hd=>?_)
     ·simp at hd
      simp[bY,<-hI,dN,hb',hc',hd]
     ·simp at hd
      refine⟨_,_,_,rfl,?_⟩
      simp only[go_sem,h2,h3,e3,h4,e4,aR h' hl];rw[<-hI];simp[dN,hb',hc',hd]
    ·simp only[go_sem,qW,hc]
     simp at hc
     simp[bY,<-hI,dN,hc]
   ·simp only[go_sem,qW,hb]
    simp at hb
    simp[bY,<-hI,dN,hb]
  ·simp at hm
   try simp only[go_sem,qW,h2,h3,e3,h4,e4,h7]
   simp[bY];omega
 ·have:k=l.length:=by simp at h;omega
  subst this
  try simp only[go_sem,h,h2]
  simp at hI
  simp[bY];exact fun _=>hI
theorem aJn (p:aD)(l:List aB)(n:Nat)(hp:p.few)(hl:Few l.length)(hn:n<=l.length)(hf: ∀f∈l,inR f.node 0 (p.nodes.length-1)=true):
  PC L 113 [.agg p.cs,.fz (l.map aB.enc),.i n] (.bool ((l.take n).all (fV p))):=by
 refine pcA func113 ?_
 simp only[go_sem,qW]
 refine bK (n) (fun k st=> ∃fr en cnt,st=⟨fr,en,cnt⟩/\ (fr 1= .fz (l.map aB.enc))/\ (fr 2= .i n)/\ (fr 3= .ptr ⟨0,3,0⟩ 0)/\ (en ⟨0,3,0⟩=some (.box p.cells false))/\ (fr 7= .i k)/\ (((l.take n).drop k).all (fV p)=(l.take n).all (fV p))) 0 (bS4 _) (by refine⟨_,_,_,rfl,?_,?_,?_,?_,?_,?_⟩<;>first|(simp only[go_sem];(try rfl);done)|rfl|simp) ?_
 rintro k st hk ⟨fr,en,cnt,rfl,h1,h2,h3,e3,h7,hI⟩
 simp only[go_sem,qW,h2,h7]
 refine aZ (fun h=>?_) (fun h=>?_)
 ·have h'':k<n:=by simp at h;omega
  have h':k<l.length:=by omega
  rw[gP (by simp;omega)]at hI
  have hx:=hf l[k] (bS7 _)
  try simp only[go_sem,qW,h1,h2,h3,e3,h7]
  refine aCf ?_ ?_
  ·decide
  simp only[go_sem,qW,h1,h3,e3,h7,h',h'',hx,bM,(xS _).ret];have he:(l.take n)[k]'(by simp;omega)=l[k]:=by simp
  rw[he]at hI
  refine aZ (fun hb=>?_) (fun hb=>?_)
  ·simp at hb
   have:fV p l[k]=false:=by simp[fV,hb]
   rw[<-hI,this];rfl
  ·simp at hb
   have:fV p l[k]=true:=by simp[fV,hb]
   refine⟨_,_,_,rfl,?_⟩
   simp only[go_sem,h1,h2,h3,e3,aR h' hl];rw[<-hI,this];simp
 ·have:k=n:=by simp at h;omega
  subst this
  try simp only[go_sem,qW]
  rw[<-hI];simp
variable {p:aD}{w:aA}
theorem aRv {l:List aE}{m:Int}(h:bC p w l m=true):(l.length:Int)<=m:=by
 simp[bC]at h;exact h.1
variable {l:List aB}
theorem aGg (h:bY p w l=true):(l.length:Int)<=40:=by
 simp[bY]at h;omega
theorem pJ (h:bY p w l=true): ∀f∈l,inR f.node 0 (p.nodes.length-1)=true:=by
 simp[bY]at h;intro f hf;have:=h.2 f hf;simp[dN]at this;exact this.1.1
theorem aUk (p:aD)(w:aA)(o:aP)(hp:p.few)(hw:w.few)(ho:o.few):PC L 111 [.agg p.cs,.agg w.cs,.agg [.i o.form,.i o.n,.fz (o.vals.map aE.enc),.fz (o.frames.map aB.enc)]] (.bool (kI p w o)):=by
 refine pcA func111 ?_
 simp only[go_sem,qW]
 refine aZ (fun h=>?_) (fun h=>?_)<;>simp only[bWo,bWp]at h
 ·simp only[go_sem,(aEb p w _ hp hw ho.2.1 ho.2.2).ret]
  refine bD (fun h1=>?_) (fun h1=>?_)
  ·simp only[go_sem,h1,(pI p w _ _ hp hw ho.1).ret]
   refine bD (fun h2=>?_) (fun h2=>?_)
   ·have k1:=aGg h1;have k2:=aRv h2;have e1:IntKind.i64.wrap ((o.frames.length:Int)+o.vals.length)=(o.frames.length:Int)+o.vals.length:=aV (by omega)
    simp only[go_sem,h2,e1]
    refine bD (fun h3=>?_) (fun h3=>?_)
    ·simp at h3
     have e2:IntKind.i64.wrap ((o.frames.length:Int)-1)=(o.frames.length:Int)-1:=aV (by omega)
     have e3:IntKind.i64.wrap ((o.frames.length:Int)-1+o.vals.length)=((o.frames.length+o.vals.length-1:Nat):Int):=by rw[aV (by omega)];omega
     have e4:min (o.frames.length:Int) (max 0 ((o.frames.length+o.vals.length-1:Nat):Int))=((o.frames.length+o.vals.length-1:Nat):Int):=by omega
     simp only[go_sem,h3,e2,e3,e4,(aJn p o.frames (o.frames.length+o.vals.length-1) hp ho.2.1 (by omega) (pJ h1)).ret]
     simp[kI,h,h1,h2,h3]
    ·simp only[go_sem,h3]
     simp at h3
     simp[kI,h,h1,h2];omega
   ·simp only[go_sem,h2]
    simp at h2
    simp[kI,h,h1,h2]
  ·simp only[go_sem,h1]
   simp at h1
   simp[kI,h,h1]
 ·repeat' ((first|with_reducible refine aZ (fun h=>?_) (fun h=>?_)|with_reducible refine bD (fun h=>?_) (fun h=>?_))<;>(try simp only[bWo,bWp,bS6]at h)<;>try simp only[go_sem,h,(pI p w _ _ hp hw ho.1).ret])
  all_goals simp[kI, *]
  all_goals (intros;simp_all)
theorem aOz (p:aD)(w:aA)(o:aP)(hp:p.few)(hw:w.few)(ho:o.few):PC L 63 [.agg p.cs,.agg w.cs,.agg [.i o.form,.i o.n,.fz (o.vals.map aE.enc),.fz (o.frames.map aB.enc)]] (.bool (dX p w o)):=by
 refine pcA func63 ?_
 simp only[go_sem,qW]
 refine aZ (fun h=>?_) (fun h=>?_)<;>simp only[bWo,bWp]at h
 ·simp only[go_sem,(aUk p w o hp hw ho).ret];simp[dX,h]
 ·refine aZ (fun h5=>?_) (fun h5=>?_)<;>simp only[bWo,bWp]at h5
  ·try simp only[go_sem,qW]
   refine bD (fun h1=>?_) (fun h1=>?_)
   ·simp only[go_sem,h1]
    refine bD (fun h2=>?_) (fun h2=>?_)
    ·simp only[go_sem,h2]
     refine bD (fun h3=>?_) (fun h3=>?_)
     ·simp only[go_sem,h3,(aEb p w _ hp hw ho.2.1 ho.2.2).ret]
      refine bD (fun h4=>?_) (fun h4=>?_)
      ·simp only[go_sem,h4,(aJn p o.frames o.frames.length hp ho.2.1 (bSx _) (pJ h4)).ret]
       refine bD (fun h6=>?_) (fun h6=>?_)
       ·have hpos:0<o.frames.length:=by have:=D_o h3;omega
        have hn:inR (o.frames.headD default).node 0 (p.nodes.length-1)=true:=pJ h4 _ (by cases hh:o.frames with|nil=>simp[hh]at hpos|cons a l=>simp)
        simp only[go_sem,h6,aP0 hpos,hn,bM]
        simp at h6 h1 h2
        simp[dX,h5,h1,h2,h4]
        first|(intros;simp_all;done)|trace_state
       ·simp only[go_sem,h6]
        simp at h6 h1 h2
        simp[dX,h5,h1,h2,h4];obtain⟨x,hx,hx2⟩:=h6;intro _ hh;rw[hh x hx]at hx2;cases hx2
      ·simp only[go_sem,h4]
       simp at h4
       simp[dX,h5,h4]
     ·simp only[go_sem,h3]
      simp at h3
      simp[dX,h5,h3]
    ·simp only[go_sem,h2]
     simp at h2
     simp[dX,h5,h2]
   ·simp only[go_sem,h1]
    simp at h1
    simp[dX,h5,h1]
  ·try simp only[go_sem,qW]
   refine aZ (fun h7=>?_) (fun h7=>?_)
   ·simp at h7
    simp[dX,h,h5,h7]
   ·have h7':(o.frames.length:Int)=0:=by simp at h7;simp[h7]
    try simp only[go_sem,qW]
    repeat' ((first|with_reducible refine aZ (fun h=>?_) (fun h=>?_)|with_reducible refine bD (fun h=>?_) (fun h=>?_))<;>(try simp only[bWo,bWp,bS6]at h)<;>try simp only[go_sem, *,(oP _ _ _).ret,(pI p w _ _ hp hw ho.1).ret,eG hp.nodes,eG hp.cons,bM,aIh])
    all_goals simp[dX, *]
    all_goals (intros;simp_all)
theorem aUl (l:List Int)(m:Int)(hl:Few l.length):PC L 60 [.is l,.i m] (.bool (oB l m)):=by
 refine pcA func60 ?_
 simp only[go_sem,qW]
 refine bK (l.length) (fun k st=> ∃fr en cnt,st=⟨fr,en,cnt⟩/\ (fr 0= .is l)/\ (fr 1= .i m)/\ (fr 5= .i k)/\ ((l.drop k).all (fun n=>inR n (-1000000000) 1000000000)=l.all fun n=>inR n (-1000000000) 1000000000)) 0 (bS4 _) (by refine⟨_,_,_,rfl,?_,?_,?_,?_⟩<;>first|(simp only[go_sem];(try rfl);done)|rfl|simp) ?_
 rintro k st hk ⟨fr,en,cnt,rfl,h0,h1,h5,hI⟩
 simp only[go_sem,qW,h0,h1,h5]
 refine bD (fun h=>?_) (fun h=>?_)
 ·have h':k<l.length:=D_o h;rw[gP h']at hI;simp only[go_sem,h']
  refine aZ (fun hm=>?_) (fun hm=>?_)
  ·simp only[go_sem,qW,h5,(oP _ _ _).ret]
   refine aZ (fun hb=>?_) (fun hb=>?_)
   ·simp at hb
    simp[oB,<-hI,hb]
   ·simp at hb
    refine⟨_,_,_,rfl,?_⟩
    simp only[go_sem,h0,h1,aR h' hl];rw[<-hI,hb];simp
  ·simp at hm
   try simp only[go_sem,qW,h0,h1,h5]
   simp[oB];omega
 ·have:k=l.length:=by simp at h;omega
  subst this
  try simp only[go_sem,h,h0,h1]
  simp at hI
  simp[oB];exact fun _=>hI
theorem aRw (w:aA)(hw:w.few):PC L 62 [.agg w.cs] (.bool (gS w)):=by
 refine pcA func62 ?_
 simp only[go_sem,qW]
 refine bK (w.objs.length) (fun k st=> ∃fr en cnt,st=⟨fr,en,cnt⟩/\ (fr 1= .ptr ⟨0,1,0⟩ 0)/\ (en ⟨0,1,0⟩=some (.box w.cells false))/\ (fr 3= .i ((w.objs.take k).countP dB:Nat))/\ (fr 4= .i k)) 0 (bS4 _) (by refine⟨_,_,_,rfl,?_,?_,?_,?_⟩<;>first|(simp only[go_sem];(try rfl);done)|rfl|simp) ?_
 rintro k st hk ⟨fr,en,cnt,rfl,h1,e1,h3,h4⟩
 simp only[go_sem,qW,h1,e1,h3,h4]
 refine aZ (fun h=>?_) (fun h=>?_)
 ·have h':k<w.objs.length:=D_o h;have hc:(w.objs.take k).countP dB<=k:=bS9 bV9 (by simp;omega)
  have hs:=aW8 h' dB;simp only[go_sem,h',h3,h4]
  refine aZ (fun hb=>?_) (fun hb=>?_)
  ·simp at hb
   have e:IntKind.i64.wrap (((w.objs.take k).countP dB:Nat)+1)=(((w.objs.take (k+1)).countP dB:Nat):Int):=by
    have:=hw.objs;unfold Few at this;rw[aV (by omega),hs];simp[dB,hb]
   simp only[go_sem,e,aR h' hw.objs]
   refine⟨_,_,_,rfl,?_⟩
   simp only[go_sem,h1,e1]
  ·simp at hb
   have e:(w.objs.take (k+1)).countP dB=(w.objs.take k).countP dB:=by rw[hs];simp[dB,hb]
   refine⟨_,_,_,rfl,?_⟩
   simp only[go_sem,h1,e1,h3,e,aR h' hw.objs]
 ·have:k=w.objs.length:=by simp at h;omega
  subst this
  try simp only[go_sem,bUf]
  refine aZ (fun hb=>?_) (fun hb=>?_)
  ·simp at hb
   simp[gS];intro h0;omega
  ·have hn:w.tasks.length=w.objs.countP dB:=by simp at hb;omega
   clear hb h
   refine bK (w.tasks.length) (fun k st=> ∃fr en cnt,st=⟨fr,en,cnt⟩/\ (fr 1= .ptr ⟨0,1,0⟩ 0)/\ (en ⟨0,1,0⟩=some (.box w.cells false))/\ (fr 3= .i (w.tasks.length:Nat))/\ (fr 5= .i k)/\ (bU w (w.tasks.take k) (w.tasks.drop k)=bU w [] w.tasks)) 0 (bS4 _) ⟨_,_,_,rfl,(by first|(simp only[go_sem,h1,hn];(try rfl);done)|rfl|simp),(by first|(simp only[go_sem,e1];(try rfl);done)|rfl|simp),(by first|(simp only[go_sem,h3,hn,bUf];(try rfl);done)|rfl|simp),(by first|(simp only[go_sem,hn];(try rfl);done)|rfl|simp),(by first|(simp only[go_sem];(try rfl);done)|rfl|simp)⟩ ?_
   rintro k st hk ⟨fr,en,cnt,rfl,h1,e1,h3,h5,hI⟩
   simp only[go_sem,qW,h1,e1,h3,h5]
   refine aZ (fun h=>?_) (fun h=>?_)
   ·have h':k<w.tasks.length:=D_o h;rw[bT2 h',bU,<-iG h']at hI;simp only[go_sem,h',h1,e1,(oP _ _ _).ret,eG hw.objs]
    refine bD (fun hb=>?_) (fun hb=>?_)
    ·have hb':inR w.tasks[k] 0 (w.objs.length-1)=true:=by simpa using hb
     simp only[go_sem,hb',h1,e1,h5,aAt]
     refine bD (fun hc=>?_) (fun hc=>?_)
     ·have hc':dB (w.obj w.tasks[k])=true:=by simpa[dB]using hc
      simp only[go_sem,qW,hc,h5,wG,hk,<-bUd,(aOy _ _ (aMh hw.tasks k)).ret]
      refine aZ (fun hd=>?_) (fun hd=>?_)
      ·simp[gS,<-hI,hb',hc',hd]
      ·refine⟨_,_,_,rfl,?_⟩
       simp only[go_sem,h1,e1,h3,aR h' hw.tasks];rw[<-hI,hb',hc',hd];simp
     ·simp only[go_sem,qW,hc];simp[]at hc;simp[gS,<-hI,dB,hc]
    ·simp only[go_sem,qW,hb]
     simp at hb
     simp[gS,<-hI,hb]
   ·have:k=w.tasks.length:=by simp at h;omega
    subst this
    try simp only[go_sem,qW,h1,e1,h3,h5]
    have ht:bU w [] w.tasks=true:=by rw[<-hI];simp[bU]
    simp[gS,hn,ht]
theorem rI (p:aD)(w:aA)(hp:p.few)(hw:w.few):PC L 19 [.agg p.cs,.agg w.cs] (.bool (cJ p w)):=by
 refine pcA func19 ?_
 simp only[go_sem,qW]
 repeat' ((first|with_reducible refine aZ (fun h=>?_) (fun h=>?_)|with_reducible refine bD (fun h=>?_) (fun h=>?_))<;>(try simp only[bWo,bWp,bTf]at h)<;>try simp only[go_sem,qW, *,(oP _ _ _).ret,(aUl _ _ hw.ins).ret,(aRw w hw).ret])
 all_goals (try simp only[bUb,Bool.not_eq_false',bUe]at*)
 all_goals try(simp[cJ, *];done)
 all_goals try(simp[cJ, *];intros;omega)
 rename_i g1 g2 g3 g4
 refine bK (w.objs.length) (fun k st=> ∃fr en cnt,st=⟨fr,en,cnt⟩/\ (fr 2= .ptr ⟨0,2,0⟩ 0)/\ (en ⟨0,2,0⟩=some (.box p.cells false))/\ (fr 3= .ptr ⟨0,3,0⟩ 0)/\ (en ⟨0,3,0⟩=some (.box w.cells false))/\ (fr 5= .i k)/\ ((w.objs.drop k).all (dX p w)=w.objs.all (dX p w))) 0 (bS4 _) (by refine⟨_,_,_,rfl,?_,?_,?_,?_,?_,?_⟩<;>first|(simp only[go_sem];(try rfl);done)|rfl|simp) ?_
 rintro k st hk ⟨fr,en,cnt,rfl,h2,e2,h3,e3,h5,hI⟩
 simp only[go_sem,qW,h2,e2,h3,e3,h5]
 refine aZ (fun h1=>?_) (fun h1=>?_)
 ·have h':k<w.objs.length:=D_o h1;rw[gP h']at hI;simp only[go_sem,qW,h',h5,(aOz p w _ hp hw (hw.obj w.objs[k] (bS7 _))).ret]
  refine aZ (fun hb=>?_) (fun hb=>?_)
  ·simp at hb
   simp[cJ,<-hI,hb]
  ·simp at hb
   refine⟨_,_,_,rfl,?_⟩
   simp only[go_sem,h2,e2,h3,e3,aR h' hw.objs];rw[<-hI,hb];simp
 ·have:k=w.objs.length:=by simp at h1;omega
  subst this;have hobj:w.objs.all (dX p w)=true:=by rw[<-hI];simp
  clear hI h1
  try simp only[go_sem,qW,h2,e2,h3,e3,h5]
  refine bK (w.outs.length) (fun k st=> ∃fr en cnt,st=⟨fr,en,cnt⟩/\ (fr 3= .ptr ⟨0,3,0⟩ 0)/\ (en ⟨0,3,0⟩=some (.box w.cells false))/\ (fr 6= .i k)/\ ((w.outs.drop k).all xR=w.outs.all xR)) 0 (bS4 _) ⟨_,_,_,rfl,(by first|(simp only[go_sem,h3];(try rfl);done)|rfl|simp),(by first|(simp only[go_sem,e3];(try rfl);done)|rfl|simp),(by first|(simp only[go_sem];(try rfl);done)|rfl|simp),(by first|(simp only[go_sem];(try rfl);done)|rfl|simp)⟩ ?_
  rintro k st hk ⟨fr,en,cnt,rfl,h3,e3,h6,hI⟩
  simp only[go_sem,qW,h3,e3,h6]
  refine aZ (fun h1=>?_) (fun h1=>?_)
  ·have h':k<w.outs.length:=D_o h1;rw[gP h']at hI;simp only[go_sem,qW,h',h3,e3,h6,(oP _ _ _).ret]
   refine bD (fun hb=>?_) (fun hb=>?_)
   ·simp at hb
    simp only[go_sem,hb,bS6]
    refine aZ (fun hc=>?_) (fun hc=>?_)
    ·simp at hc
     simp[cJ,<-hI,xR,hc]
    ·simp at hc
     refine⟨_,_,_,rfl,?_⟩
     simp only[go_sem,h3,e3,aR h' hw.outs];rw[<-hI,xR,hb,hc];simp
   ·simp at hb
    simp only[go_sem,qW,hb,bTf];simp[cJ,<-hI,xR,hb]
  ·have:k=w.outs.length:=by simp at h1;omega
   subst this;have hout:w.outs.all xR=true:=by rw[<-hI];simp
   try simp only[go_sem,qW,h3,e3,h6]
   simp only[cJ,hobj,hout,g3,g4,h];simp[g1,g2]
theorem zI (l:List aE):PC L 59 [.fz (l.map aE.enc)] (.bool (decide ((l.length:Int)<=40))):=by
 refine pcA func59 ?_
 simp only[go_sem,qW]
theorem nS (w:aA)(hw:w.few):PC L 18 [.agg w.cs] (.bool (bZ w)):=by
 refine pcA func18 ?_
 simp only[go_sem,qW]
 repeat' ((first|with_reducible refine aZ (fun h=>?_) (fun h=>?_)|with_reducible refine bD (fun h=>?_) (fun h=>?_))<;>(try simp only[bWo,bWp,bTf]at h)<;>try simp only[go_sem,qW, *])
 all_goals (try simp only[bUe]at*)
 all_goals try(simp[bZ, *];done)
 all_goals try(simp[bZ, *];intros;omega)
 rename_i g1 g2 g3
 refine bK (w.objs.length) (fun k st=> ∃fr en cnt,st=⟨fr,en,cnt⟩/\ (fr 1= .ptr ⟨0,1,0⟩ 0)/\ (en ⟨0,1,0⟩=some (.box w.cells false))/\ (fr 3= .i k)/\ ((w.objs.drop k).all iB=w.objs.all iB)) 0 (bS4 _) (by refine⟨_,_,_,rfl,?_,?_,?_,?_⟩<;>first|(simp only[go_sem];(try rfl);done)|rfl|simp) ?_
 rintro k st hk ⟨fr,en,cnt,rfl,h1,e1,h3,hI⟩
 simp only[go_sem,qW,h1,e1,h3]
 refine aZ (fun hq=>?_) (fun hq=>?_)
 ·have h':k<w.objs.length:=D_o hq;have hx:=hw.obj w.objs[k] (bS7 _);rw[gP h']at hI;simp only[go_sem,qW,h',(zI _).ret]
  refine bD (fun hb=>?_) (fun hb=>?_)
  ·simp at hb
   try simp only[go_sem,hb]
   refine aZ (fun hc=>?_) (fun hc=>?_)
   ·simp at hc
    simp[bZ,<-hI,iB];intros;omega
   ·simp at hc
    generalize cnt 0 4=g4
    refine bK (w.objs[k].frames.length) (fun j st=> ∃fr en cnt,st=⟨fr,en,cnt⟩/\ (fr 1= .ptr ⟨0,1,0⟩ 0)/\ (en ⟨0,1,0⟩=some (.box w.cells false))/\ (fr 4= .ptr ⟨0,4,g4⟩ 0)/\ (en ⟨0,4,g4⟩=some (.box [.i w.objs[k].form,.i w.objs[k].n,.fz (w.objs[k].vals.map aE.enc),.fz (w.objs[k].frames.map aB.enc)] false))/\ (fr 3= .i k)/\ (fr 5= .i j)/\ ((w.objs[k].frames.drop j).all (fun f=>decide ((f.env.length:Int)<=40)&&decide ((f.vals.length:Int)<=40))=w.objs[k].frames.all fun f=>decide ((f.env.length:Int)<=40)&&decide ((f.vals.length:Int)<=40))) 0 (bS4 _) ⟨_,_,_,rfl,(by first|(simp only[go_sem,h1];(try rfl);done)|rfl|simp),(by first|(simp only[go_sem,e1];(try rfl);done)|rfl|simp),(by first|(simp only[go_sem];(try rfl);done)|rfl|simp),(by first|(simp only[go_sem];(try rfl);done)|rfl|simp),(by first|(simp only[go_sem,h3];(try rfl);done)|rfl|simp),(by first|(simp only[go_sem];(try rfl);done)|rfl|simp),(by first|(simp only[go_sem];(try rfl);done)|rfl|simp)⟩ ?_
    rintro j st hk ⟨fr,en,cnt,rfl,h1,e1,h4,e4,h3,h5,hJ⟩
    simp only[go_sem,qW,h4,e4,h3,h5]
    refine aZ (fun h2=>?_) (fun h2=>?_)
    ·have h2':j<w.objs[k].frames.length:=D_o h2;rw[gP h2']at hJ;simp only[go_sem,qW,h2',h4,e4,h5,(zI _).ret]
     refine bD (fun hd=>?_) (fun hd=>?_)
     ·simp only[go_sem,hd]
      refine aZ (fun he=>?_) (fun he=>?_)
      ·simp at he
       have:w.objs[k].frames.all (fun f=>decide ((f.env.length:Int)<=40)&&decide ((f.vals.length:Int)<=40))=false:=by rw[<-hJ];simp;intros;omega
       simp only[bZ,<-hI,iB,this];simp
      ·refine⟨_,_,_,rfl,?_⟩
       simp only[go_sem,h1,e1,h4,e4,h3,aR h2' hx.2.1]
       simp at hd he
       rw[<-hJ];simp;intros;exact⟨by omega,by omega⟩
     ·simp only[go_sem,qW,hd,bTf]
      simp at hd
      have:w.objs[k].frames.all (fun f=>decide ((f.env.length:Int)<=40)&&decide ((f.vals.length:Int)<=40))=false:=by rw[<-hJ];simp;intros;omega
      simp only[bZ,<-hI,iB,this];simp
    ·have:j=w.objs[k].frames.length:=by simp at h2;omega
     subst this;have hfr:iB w.objs[k]=true:=by
      simp only[iB,<-hJ];simp;exact⟨by omega,by omega⟩
     try simp only[go_sem,qW,h1,e1,h4,e4,h3,h5]
     refine⟨_,_,_,rfl,?_⟩
     simp only[go_sem,h1,e1,aR h' hw.objs];rw[<-hI,hfr];simp
  ·simp only[go_sem,qW,hb,bTf]
   simp at hb
   have:iB w.objs[k]=false:=by simp[iB];intros;omega
   simp[bZ,<-hI,this]
 ·have:k=w.objs.length:=by simp at hq;omega
  subst this;have hobj:w.objs.all iB=true:=by rw[<-hI];simp
  try simp only[go_sem,qW,h1,e1,h4,e4,h3,h5]
  simp only[bZ,hobj];simp[g1,g2,g3,h]
end Go.Proofs.YtmafmhjndjmalaaGreat
namespace Go.Abs
def oC (s:ByteArray):List UInt8:=s.data.toList
theorem rJ (s:ByteArray):(oC s).length=s.size:=by unfold oC;rw[bVa];rfl
variable {s:ByteArray}
theorem aRx {k:IntKind}{j:Nat}(h:j<(oC s).length):aYh (.str s) (.int k (j:Int))=some {v:= .int .u8 ((oC s)[j].toNat:Nat)}:=bF6 h
theorem aP1 (s:ByteArray):oC (s.extract 1 s.size)=(oC s).drop 1:=by
 have hs:s.size=s.data.toList.length:=by rw[bVa];rfl
 unfold oC;rw[ByteArray.data_extract,Array.toList_extract,hs];show List.take _ (List.drop 1 _)=_;exact bTh (by rw[bVi];exact bSx _)
def lM (b:UInt8):Bool:=decide (97<=(b.toNat:Int))&&decide ((b.toNat:Int)<=122)
def pW (l:List UInt8):Bool:=l.all lM
def aMi :List UInt8->Bool
 |[]=>false
 |b::l=>decide ((b::l).length<=8)&&decide (65<=(b.toNat:Int))&&decide ((b.toNat:Int)<=90)&&pW l
def aGh (x y:ByteArray):Bool:=x.toList==y.toList
def wH (l:List ByteArray)(s:ByteArray):Bool:=l.any fun x=>aGh x s
def nF :List ByteArray->List ByteArray->Bool
 |_,[]=>true
 |met,s::l=>!wH met s&&nF (met++[s]) l
def xT (c:dC):Bool:=aMi (oC c.name)&&inR c.args 0 3
def aAu (l:List dC):Bool:=l.all xT&&decide ((l.length:Int)<=20)&&nF [] (l.map dC.name)
def zJ (cons:List dC)(f n:Int)(k:Nat):Bool:=
 if f=1 \/f=2 \/f=5 then decide ((k:Int)=0)&&decide (n=0)
 else if f=3 then decide ((k:Int)=0)&&inR n (-1000000000) 1000000000
 else if f=4 then decide ((k:Int)=0)&&inR n 0 1
 else if f=6 then inR n 0 (cons.length-1)&&decide ((k:Int)=(cons.getD n.toNat default).args)else false
def aIi (t:ByteArray):Bool:=t.toList==(⟨#[]⟩:ByteArray).toList
def uL (cons:List dC)(f n:Int)(t:ByteArray)(k:Nat):Bool:=zJ cons f n k&&aIi t
mutual
def tG (cons:List dC):Pat->Bool
 | .mk f n t ps=>uL cons f n t ps.length&&aMj cons ps
def aMj (cons:List dC):List Pat->Bool
 |[]=>true
 |p::ps=>tG cons p&&aMj cons ps
end
theorem aMk (cons:List dC): ∀l,aMj cons l=l.all (tG cons)
 |[]=>by simp[aMj]
 |p::ps=>by simp[aMj,aMk cons ps]
theorem aMl (cons:List dC)(p:Pat):tG cons p=(uL cons p.form p.n p.text p.parts.length&&p.parts.all (tG cons)):=by
 cases p;simp only[tG,aMk,Pat.form,Pat.n,Pat.text,Pat.parts]
mutual
def rK :Pat->Int->Int
 | .mk _ _ _ ps,left=>if left<1 then-1 else kJ ps (left-1)
def kJ :List Pat->Int->Int
 |[],left=>left
 |p::ps,left=>if 0<=left then kJ ps (rK p left)else left
end
mutual
def lG :Pat->Bool
 | .mk _ _ t ps=>tH ps&&decide ((t.size:Int)<=30)
def tH :List Pat->Bool
 |[]=>true
 |p::ps=>lG p&&tH ps
end
theorem aBo : ∀l,tH l=l.all lG
 |[]=>by simp[tH]
 |p::ps=>by simp[tH,aBo ps]
theorem aEc (p:Pat):lG p=(p.parts.all lG&&decide ((p.text.size:Int)<=30)):=by
 cases p;simp only[lG,aBo];rfl
theorem aMm (p:Pat)(left:Int):rK p left=if left<1 then-1 else kJ p.parts (left-1):=by
 cases p;simp only[rK,Pat.parts]
mutual
theorem aMn : ∀(p:Pat) (left:Int),-1<=left-> -1<=rK p left/\ rK p left<=left
 | .mk _ _ _ ps,left,h=>by
  rw[rK];split
  ·omega
  ·have:=aP2 ps (left-1) (by omega);omega
theorem aP2 : ∀(l:List Pat) (left:Int),-1<=left-> -1<=kJ l left/\ kJ l left<=left
 |[],left,h=>by rw[kJ];omega
 |p::ps,left,h=>by
  rw[kJ];split
  ·have h1:=aMn p left h;have h2:=aP2 ps (rK p left) h1.1;omega
  ·omega
end
theorem aE5 : ∀{l:List Pat} {left:Int},left<0->kJ l left=left
 |[],_,_=>by rw[kJ]
 |_::_,_,h=>by rw[kJ,if_neg (by omega)]
def aCi (p:Pat):Bool:=decide (0<=rK p 16)&&lG p
def gQ (n:aL):Bool:=decide ((n.kids.length:Int)<=10)&&decide ((n.pats.length:Int)<=10)&&n.pats.all aCi
def aU (p:aD):Bool:=
 decide ((p.nodes.length:Int)<=320)&&decide ((p.funs.length:Int)<=320)&&decide ((p.cons.length:Int)<=25)&&p.cons.all (fun c=>decide ((c.name.size:Int)<=40))&&p.nodes.all gQ
def fP (op:Int)(pats:Int)(args:Int):Int:=
 if op=1 \/op=2 \/op=3 \/op=4 \/op=21 \/op=25 \/op=28 then 0
 else if op=5 \/op=27 \/op=16 \/op=17 \/op=19 \/op=20 \/op=23 \/op=26 \/op=24 then 1
 else if op=6 \/op=7 \/op=9 \/op=10 \/op=11 \/op=12 \/op=13 \/op=18 \/op=22 then 2
 else if op=8 then 3 else if op=15 then 1+pats else if op=14 then args else-1
def nV (cons:List dC)(q:Pat):Bool:=decide (0<=rK q 12)&&tG cons q
def oV (p:aD)(n:aL):Bool:=
 if n.op=1 then inR n.n (-1000000000) 1000000000
 else if n.op=2 then inR n.n 0 1
 else if n.op=4 then inR n.n (-(p.funs.length:Int)) 29
 else if n.op=24 then inR n.n 0 3
 else if n.op=14 then inR n.n 0 (p.cons.length-1)else decide (n.n=0)
def pX (p:aD)(n:aL):Int:=if n.op=14/\ inR n.n 0 (p.cons.length-1)=true then(p.cons.getD n.n.toNat default).args else 0
def mR (n:aL):Bool:=if n.op=15 then inR n.pats.length 1 5 else decide ((n.pats.length:Int)=0)
def eS (p:aD)(n:aL):Bool:=
 ((oV p n&&mR n)&&n.pats.all (nV p.cons))&&decide ((n.kids.length:Int)=fP n.op n.pats.length (pX p n))
def aCj (lo hi:Int):List Bool->List Int->Option (List Bool)
 |u,[]=>some u
 |u,x::l=>if inR x lo hi&&!(u.getD x.toNat false)then aCj lo hi (u.set x.toNat true) l else none
def lW (p:aD):Nat->List Bool->List aL->Option (List Bool)
 |_,u,[]=>some u
 |i,u,n::l=>if eS p n then(aCj ((i:Int)+1) (p.nodes.length-1) u n.kids).bind fun u=>lW p (i+1) u l else none
def aAv :Option (List Bool)->Bool
 |some u=>u.all id
 |none=>false
def fJ (p:aD):Bool:=
 decide ((p.nodes.length:Int)<=300)&&inR p.funs.length 1 p.nodes.length&&inR p.main 0 (p.funs.length-1)&&aAu p.cons&&
  aAv ((aCj 0 (p.nodes.length-1) (List.replicate p.nodes.length false) p.funs).bind fun u=>lW p 0 u p.nodes)
theorem Pat.few_parts {p:Pat}(h:p.few):Few p.parts.length/\ Few p.text.size/\ ∀q∈p.parts,q.few:=by
 cases h with|mk f n t l h ht k=>exact⟨h,ht,k⟩
theorem Pat.ind {P:Pat->Prop}(h: ∀p:Pat,(∀q∈p.parts,P q)->P p): ∀p,P p:=by
 intro p
 induction p using Pat.rec (motive_2:=fun l=> ∀q∈l,P q)with
 |mk f n t l ih=>exact h _ ih
 |nil=>rename_i q hq;simp at hq
 |cons p l h1 h2=>
  rename_i q hq;rcases bTp.1 hq with rfl|hq
  ·exact h1
  ·exact h2 _ hq
variable {i:Nat}
theorem bC9 (h:i<(oC s).length):s.get! i=(oC s)[i]:=by
 have h':i<s.data.size:=by rw[rJ]at h;exact h
 show s.data[i]! =_;rw[getElem!_pos s.data i h'];simp only[oC,bVu]
theorem aRy (h:i<(oC s).length):
  (lM (oC s)[i]=true->Utf8.decode s i=((oC s)[i].toNat,1))/\ (lM (oC s)[i]=false->((Utf8.decode s i).1:Int)<97 \/122<((Utf8.decode s i).1:Int)):=by
 have hg:=bC9 h;simp only[lM,bSw,bWo,Bool.and_eq_false_iff,bWp];constructor
 ·intro hb;unfold Utf8.decode;simp only[bUk,hg];rw[if_pos (by omega)]
 ·intro hb;unfold Utf8.decode;simp only[bUk,hg,Utf8.runeError];split
  ·simp only;omega
  ·split
   ·split
    ·simp only;omega
    ·simp
   ·split
    ·split
     ·rename_i h1;simp only[bSw,bWo]at h1;simp only;omega
     ·simp
    ·split
     ·split
      ·rename_i h1;simp only[bSw,bWo]at h1;simp only;omega
      ·simp
     ·simp
def yL (ks:List ByteArray)(s:ByteArray):List ByteArray:=if wH ks s then ks else ks++[s]
theorem aMo : ∀(l ks:List ByteArray),(l.foldl yL ks).length<=ks.length+l.length
 |[],ks=>by simp
 |s::l,ks=>by
  have:=aMo l (yL ks s);simp only[bVc,bS8];have h2:(yL ks s).length<=ks.length+1:=by unfold yL;split<;>simp
  omega
theorem aGi : ∀(l ks:List ByteArray),decide ((l.foldl yL ks).length=ks.length+l.length)=nF ks l
 |[],ks=>by simp[nF]
 |s::l,ks=>by
  simp only[bVc,bS8,nF]
  by_cases h:wH ks s=true
  ·have:=aMo l ks;simp only[yL,h,if_true,bS6,bTk,bWp];omega
  ·have:=aGi l (ks++[s]);simp only[bT9]at h;simp only[yL,h,bS0,if_false,bTf,bTo];rw[<-this,decide_eq_decide];simp only[bTg,bS8,bTd];omega
mutual
def uE :Pat->Int->Int
 | .mk _ _ _ ps,most=>mS ps most 1
def mS :List Pat->Int->Int->Int
 |[],_,n=>n
 |q::qs,most,n=>if most<n then n else mS qs most (n+uE q (most-n))
end
theorem bDa (p:Pat)(most:Int):uE p most=mS p.parts most 1:=by cases p;simp only[uE,Pat.parts]
theorem aUm : ∀{l:List Pat} {most n:Int},most<n->mS l most n=n
 |[],_,_,_=>by rw[mS]
 |_::_,_,_,h=>by rw[mS,if_pos h]
mutual
theorem aMp : ∀(p:Pat) (most:Int),0<=most->1<=uE p most/\ uE p most<=most+1
 | .mk _ _ _ ps,most,h=>by rw[uE];exact aP3 ps most 1 (by omega)
theorem aP3 : ∀(l:List Pat) (most n:Int),n<=most+1->n<=mS l most n/\ mS l most n<=most+1
 |[],most,n,h=>by rw[mS];omega
 |q::qs,most,n,h=>by
  rw[mS];split
  ·omega
  ·have h1:=aMp q (most-n) (by omega)
   have h2:=aP3 qs most (n+uE q (most-n)) (by omega)
   omega
end
mutual
theorem aJo : ∀(p:Pat) (most:Int),0<=most->rK p most=if uE p most<=most then most-uE p most else-1
 | .mk _ _ _ ps,most,h=>by
  have:=aEd ps most 1 (by omega)
  rw[rK,uE];split
  ·rename_i h0;have h1:most=0:=by omega
   subst h1;rw[aUm (by omega),if_neg (by omega)]
  ·exact this
theorem aEd : ∀(l:List Pat) (most n:Int),n<=most+1->kJ l (most-n)=if mS l most n<=most then most-mS l most n else-1
 |[],most,n,h=>by
  rw[kJ,mS];split<;>omega
 |q::qs,most,n,h=>by
  by_cases hm:0<=most-n
  ·rw[kJ,mS,if_pos hm,if_neg (show¬most<n by omega)]
   have h1:=aMp q (most-n) (by omega)
   have hw:=aJo q (most-n) (by omega)
   have h2:=aEd qs most (n+uE q (most-n)) (by omega)
   rw[hw,<-h2];split
   ·congr 1;omega
   ·rw[aE5 (by omega),aE5 (by omega)];omega
  ·rw[kJ,mS,if_neg hm,if_pos (show most<n by omega),if_neg (by omega)];omega
end
theorem bDb (q:Pat):decide (uE q 12<=12)=decide (0<=rK q 12):=by
 have h:=aJo q 12 (by omega)
 rw[h,decide_eq_decide]
 split<;>omega
def aAw (op:Int):Val:=
 if op=1 \/op=2 \/op=3 \/op=4 \/op=21 \/op=25 \/op=28 then .ifc 377 (.int .i64 0)
 else if op=5 \/op=27 \/op=16 \/op=17 \/op=19 \/op=20 \/op=23 \/op=26 \/op=24 then .ifc 377 (.int .i64 1)
 else if op=6 \/op=7 \/op=9 \/op=10 \/op=11 \/op=12 \/op=13 \/op=18 \/op=22 then .ifc 377 (.int .i64 2)
 else if op=8 then .ifc 377 (.int .i64 3)else if op=14 then .ifc 378 (.agg [])else if op=15 then .ifc 351 (.agg [])else .nili
theorem aO0 (op:Int):(∃c:Int,aAw op= .ifc 377 (.int .i64 c)/\ (∀n a,fP op n a=c)/\ op≠14/\ op≠15) \/(op=14/\ aAw op= .ifc 378 (.agg [])) \/
  (op=15/\ aAw op= .ifc 351 (.agg [])) \/(aAw op= .nili/\ (∀n a,fP op n a= -1)/\ op≠14/\ op≠15):=by
 unfold aAw fP;split
 ·left;refine⟨0,rfl,fun _ _=>rfl,?_,?_⟩<;>omega
 split
 ·left;refine⟨1,rfl,fun _ _=>rfl,?_,?_⟩<;>omega
 split
 ·left;refine⟨2,rfl,fun _ _=>rfl,?_,?_⟩<;>omega
 split
 ·left;refine⟨3,rfl,fun _ _=>rfl,?_,?_⟩<;>omega
 split
 ·right;left;exact⟨by assumption,rfl⟩
 split
 ·right;right;left;exact⟨by assumption,rfl⟩
 ·right;right;right;refine⟨rfl,fun n a=>?_,?_,?_⟩<;>first|omega|skip
theorem aJp (s:ByteArray): ∀ks:List ByteArray,(∃i,findKey .str (.str s) (ks.map .str)=some (some i)/\ wH ks s=true/\ (ks.map Val.str).set i (.str s)=ks.map .str) \/
  (findKey .str (.str s) (ks.map .str)=some none/\ wH ks s=false)
 |[]=> .inr ⟨rfl,rfl⟩
 |x::ks=>by
  have hsym:(s.toList==x.toList)=aGh x s:=by unfold aGh;exact Bool.beq_comm
  by_cases h:aGh x s=true
  ·refine .inl ⟨0,?_,?_,?_⟩
   ·simp only[bTv,findKey,oU,hsym,h]
   ·simp[wH,h]
   ·have:x=s:=by
     simp only[aGh,beq_iff_eq]at h;rw[Go.ByteArray.toList_eq,Go.ByteArray.toList_eq]at h;cases x;cases s;simp only at h
     congr
     exact Array.toList_inj.1 h
    simp[this]
  ·simp only[bT9]at h;rcases aJp s ks with⟨i,h1,h2,h3⟩|⟨h1,h2⟩
   ·refine .inl ⟨i+1,?_,?_,?_⟩
    ·simp only[bTv,findKey,oU,hsym,h,h1]
    ·simp only[wH,List.any_cons,h,bTz];exact h2
    ·simp[h3]
   ·refine .inr ⟨?_,?_⟩
    ·simp only[bTv,findKey,oU,hsym,h,h1]
    ·simp only[wH,List.any_cons,h,bTz];exact h2
def bJ (p:aD)(w:aA):Bool:=fJ p&&cJ p w
end Go.Abs
namespace Go.Proofs.YtmafmhjndjmalaaGreat
open Go.Abs Go.Proofs Tryz
set_option maxRecDepth 100000
set_option maxHeartbeats 4000000
theorem sM (n lo hi:Int):PC L 92 [.i n,.i lo,.i hi] (.bool (inR n lo hi)):=by
 refine pcA func92 ?_
 simp only[go_sem,qW]
 refine bD (fun h=>?_) (fun h=>?_)<;>simp only[go_sem,h]<;>simp at h<;>simp[h,inR]
 omega
theorem aRz (s:ByteArray)(hs:Few s.size):PC L 178 [.str s] (.bool (pW (oC s))):=by
 refine pcA func178 ?_
 simp only[go_sem,qW]
 refine bK (s.size) (fun k st=> ∃fr en cnt,st=⟨fr,en,cnt⟩/\ (fr 0= .str s)/\ (fr 3= .i k)/\ (((oC s).drop k).all lM=(oC s).all lM)) 0 (bS4 _) (by refine⟨_,_,_,rfl,?_,?_,?_⟩<;>first|(simp only[go_sem];(try rfl);done)|rfl|simp) ?_
 rintro k st hk ⟨fr,en,cnt,rfl,h0,h3,hI⟩
 have hsz:=rJ s;simp only[go_sem,qW,h0,h3]
 refine aZ (fun h=>?_) (fun h=>?_)
 ·have h':k<s.size:=D_o h;have h'':k<(oC s).length:=by omega
  rw[gP h'']at hI;simp only[go_sem,qW,h',h0,h3,aRx h'']
  refine bD (fun hb=>?_) (fun hb=>?_)
  ·simp only[go_sem,hb]
   refine aZ (fun hc=>?_) (fun hc=>?_)
   ·simp only[bWo,bWp]at hb hc;have:lM (oC s)[k]=false:=by simp only[lM,Bool.and_eq_false_iff,bWp];right;omega
    simp[pW,<-hI,this]
   ·simp only[bWp]at hb hc;have:lM (oC s)[k]=true:=by simp only[lM,bSw,bWo];constructor<;>omega
    refine⟨_,_,_,rfl,?_⟩
    simp only[go_sem,h0,aR h' hs];rw[<-hI,this];simp
  ·simp only[go_sem,qW,hb,bTf];simp only[bWo,bTf]at hb;have:lM (oC s)[k]=false:=by simp only[lM,Bool.and_eq_false_iff,bWp];left;omega
   simp[pW,<-hI,this]
 ·have:k=s.size:=by simp at h;omega
  subst this
  try simp only[go_sem,qW,h0,h3]
  rw[pW,<-hI,<-hsz];simp
theorem aW9 (l:List ByteArray)(s:ByteArray)(hl:Few l.length):PC L 151 [.fz (l.map .str),.str s] (.bool (wH l s)):=by
 refine pcA func151 ?_
 simp only[go_sem,qW]
 refine bK (l.length) (fun k st=> ∃fr en cnt,st=⟨fr,en,cnt⟩/\ (fr 0= .fz (l.map .str))/\ (fr 1= .str s)/\ (fr 5= .i k)/\ ((l.drop k).any (fun x=>aGh x s)=l.any fun x=>aGh x s)) 0 (bS4 _) (by refine⟨_,_,_,rfl,?_,?_,?_,?_⟩<;>first|(simp only[go_sem];(try rfl);done)|rfl|simp) ?_
 rintro k st hk ⟨fr,en,cnt,rfl,h0,h1,h5,hI⟩
 simp only[go_sem,qW,h0,h5]
 refine aZ (fun h=>?_) (fun h=>?_)
 ·have h':k<l.length:=D_o h;rw[aT7 h']at hI;simp only[go_sem,qW,h',h1,h5]
  refine aZ (fun hb=>?_) (fun hb=>?_)
  ·rw[wH,<-hI,aGh,hb];rfl
  ·refine⟨_,_,_,rfl,?_⟩
   simp only[go_sem,h0,h1,aR h' hl];rw[<-hI,aGh,hb];simp
 ·have:k=l.length:=by simp at h;omega
  subst this
  try simp only[go_sem,qW,h0,h1,h5]
  rw[wH,<-hI];simp
theorem aO1 (l:List ByteArray)(hl:Few l.length):PC L 141 [.fz (l.map .str)] (.bool (nF [] l)):=by
 refine pcA func141 ?_
 simp only[go_sem,qW]
 refine bK (l.length) (fun k st=> ∃fr en cnt,st=⟨fr,en,cnt⟩/\ (fr 0= .fz (l.map .str))/\ (fr 3= .i k)/\ (nF (l.take k) (l.drop k)=nF [] l)) 0 (bS4 _) (by refine⟨_,_,_,rfl,?_,?_,?_⟩<;>first|(simp only[go_sem];(try rfl);done)|rfl|simp) ?_
 rintro k st hk ⟨fr,en,cnt,rfl,h0,h3,hI⟩
 simp only[go_sem,qW,h0,h3]
 refine aZ (fun h=>?_) (fun h=>?_)
 ·have h':k<l.length:=D_o h;rw[bT2 h',nF,<-iG h']at hI;simp only[go_sem,qW,h',h0,h3,wG,hk,<-bUd,(aW9 _ _ (aMh hl k)).ret]
  refine aZ (fun hb=>?_) (fun hb=>?_)
  ·rw[<-hI,hb];rfl
  ·refine⟨_,_,_,rfl,?_⟩
   simp only[go_sem,h0,aR h' hl];rw[<-hI,hb];simp
 ·have:k=l.length:=by simp at h;omega
  subst this
  try simp only[go_sem,qW,h0,h3]
  rw[<-hI];simp[nF]
theorem aMq {s:ByteArray}{en:En}(h:1<=s.size):kU true 1 en (.str s) (some (.i 1)) none none=some {v:= .str (s.extract 1 s.size)}:=by
 have:jM (some (.i 1)) 0 s.size=some 1:=by
  simp only[jM];rw[if_pos ⟨by omega,by omega⟩];rfl
 simp[kU,wF,this]
variable {n:Nat}
theorem aMr {l:List UInt8}(hn:l.length=n)(h:0<l.length):aMi l=(decide ((n:Int)<=8)&&decide ((65:Int)<=(l[0].toNat:Int))&&decide ((l[0].toNat:Int)<=90)&&pW (l.drop 1)):=by
 cases l with
 |nil=>simp at h
 |cons b l=>
  have e:decide ((b::l).length<=8)=decide ((n:Int)<=8):=by rw[decide_eq_decide,hn];omega
  simp only[aMi,e,List.getElem_cons_zero,List.drop_succ_cons,bU2]
theorem aR0 (s:ByteArray)(hs:Few s.size):PC L 140 [.str s] (.bool (aMi (oC s))):=by
 refine pcA func140 ?_
 simp only[go_sem,qW]
 refine bD (fun h=>?_) (fun h=>?_)
 ·have h':1<=s.size:=by simp at h;omega
  have h0:0<(oC s).length:=by rw[rJ];omega
  have hix:=fun(k:IntKind)=>aRx (k:=k) h0
  simp only[Int.natCast_zero]at hix;rw[aMr (rJ s) h0];simp only[go_sem,h]
  refine bD (fun h1=>?_) (fun h1=>?_)<;>simp only[go_sem,h1,hix]
  refine bD (fun h2=>?_) (fun h2=>?_)<;>simp only[go_sem,h2]
  refine bD (fun h3=>?_) (fun h3=>?_)<;>simp only[go_sem,h3,aMq h',(aRz _ (show Few (s.extract 1 s.size).size by unfold Few at*;simp;omega)).ret,aP1]
  all_goals simp only[bWo,bWp,bS6]at*
  all_goals simp[*]
 ·have:s.size=0:=by simp at h;omega
  have e:oC s=[]:=by rw[<-bWi,rJ,this]
  simp only[go_sem,h];rw[e];rfl
theorem aUn (op n a:Int)(hn:0<=n/\ n<=1000):PC L 143 [.i op,.i n,.i a] (.i (fP op n a)):=by
 have e:IntKind.i64.wrap (1+n)=1+n:=aV (by omega)
 refine pcA func143 ?_
 simp only[go_sem,kK]
 repeat' ((first|with_reducible refine aG (fun h=>?_) (fun h=>?_)|with_reducible refine aI (fun h=>?_) (fun h=>?_))<;>(try simp only[bWo,bWp]at h)<;>try simp only[go_sem,kK,h,e])
 all_goals simp[fP, *]
theorem aBp : ∀q:Pat,q.few-> ∀left:Int,-1<=left->left<=1000->PC L 138 [.agg [.i q.form,.i q.n,.str q.text,.fz (q.parts.map Pat.enc)],.i left] (.i (rK q left)):=by
 refine Pat.ind fun q ih hq left h1 h2=>?_
 obtain⟨hl,_,hps⟩:=Pat.few_parts hq
 refine pcA func138 ?_
 simp only[go_sem,qW]
 refine aZ (fun h=>?_) (fun h=>?_)<;>simp only[bWo,bWp]at h
 ·simp[aMm,h]
 ·have e:IntKind.i64.wrap (left-1)=left-1:=aV (by omega)
  rw[aMm,if_neg h]
  try simp only[go_sem,e]
  refine bK q.parts.length (fun k st=> ∃fr en cnt a,st=⟨fr,en,cnt⟩/\ fr 1= .i a/\ fr 5= .i k/\ fr 2= .ptr ⟨0,2,0⟩ 0/\ en ⟨0,2,0⟩=some (.box [.i q.form,.i q.n,.str q.text,.fz (q.parts.map Pat.enc)] false)/\ -1<=a/\ a<=1000/\ kJ (q.parts.drop k) a=kJ q.parts (left-1)) 0 (bS4 _) (by refine⟨_,_,_,left-1,rfl,?_,?_,?_,?_,by omega,by omega,rfl⟩<;>simp only[go_sem]) ?_
  rintro k st hk ⟨fr,en,cnt,a,rfl,h1,h5,h2,e2,ha,hb,hI⟩
  simp only[go_sem,qW,h1,h5,h2,e2]
  refine bD (fun hc=>?_) (fun hc=>?_)
  ·have h':k<q.parts.length:=D_o hc;rw[bT2 h',kJ]at hI;have hm:q.parts[k]∈q.parts:=bS7 _;simp only[go_sem,h',h1]
   refine aZ (fun hd=>?_) (fun hd=>?_)<;>simp only[bWo,bWp]at hd
   ·rw[if_pos hd]at hI;have hw:=aMn q.parts[k] a ha;simp only[go_sem,h5,(ih _ hm (hps _ hm) a ha hb).ret]
    refine⟨_,_,_,rK q.parts[k] a,rfl,?_⟩
    simp only[go_sem,h2,e2,aR h' hl];exact⟨hw.1,by omega,hI⟩
   ·rw[if_neg hd]at hI
    try simp only[go_sem,qW,h',h1,h5,h2,e2]
    rw[hI]
  ·have:k=q.parts.length:=by simp at hc;omega
   subst this
   try simp only[go_sem,hc,h1]
   rw[<-hI];simp[kJ]
theorem aKk : ∀q:Pat,q.few->PC L 139 [.agg [.i q.form,.i q.n,.str q.text,.fz (q.parts.map Pat.enc)]] (.bool (lG q)):=by
 refine Pat.ind fun q ih hq=>?_
 obtain⟨hl,_,hps⟩:=Pat.few_parts hq
 refine pcA func139 ?_
 simp only[go_sem,qW]
 refine bK (q.parts.length) (fun k st=> ∃fr en cnt,st=⟨fr,en,cnt⟩/\ (fr 1= .ptr ⟨0,1,0⟩ 0)/\ (en ⟨0,1,0⟩=some (.box [.i q.form,.i q.n,.str q.text,.fz (q.parts.map Pat.enc)] false))/\ (fr 3= .i k)/\ ((q.parts.drop k).all lG=q.parts.all lG)) 0 (bS4 _) (by refine⟨_,_,_,rfl,?_,?_,?_,?_⟩<;>first|(simp only[go_sem];(try rfl);done)|rfl|simp) ?_
 rintro k st hk ⟨fr,en,cnt,rfl,h1,e1,h3,hI⟩
 simp only[go_sem,qW,h1,e1,h3]
 refine aZ (fun h=>?_) (fun h=>?_)
 ·have h':k<q.parts.length:=D_o h;have hm:q.parts[k]∈q.parts:=bS7 _;rw[gP h']at hI;simp only[go_sem,qW,h',h3,(ih _ hm (hps _ hm)).ret]
  refine aZ (fun hb=>?_) (fun hb=>?_)
  ·simp at hb
   rw[aEc,<-hI,hb];rfl
  ·simp at hb
   refine⟨_,_,_,rfl,?_⟩
   simp only[go_sem,h1,e1,aR h' hl];rw[<-hI,hb];simp
 ·have:k=q.parts.length:=by simp at h;omega
  subst this;have ht:q.parts.all lG=true:=by rw[<-hI];simp
  try simp only[go_sem,qW,h1,e1,h3]
  rw[aEc,ht];rfl
theorem aKl (q:Pat)(hq:q.few):PC L 91 [.agg [.i q.form,.i q.n,.str q.text,.fz (q.parts.map Pat.enc)]] (.bool (aCi q)):=by
 refine pcA func91 ?_
 simp only[go_sem,qW,(aBp q hq 16 (by omega) (by omega)).ret]
 refine bD (fun h=>?_) (fun h=>?_)<;>simp only[go_sem,h,(aKk q hq).ret]<;>simp at h<;>simp[aCi,h]
 intros;omega
theorem aXa (cons:List dC)(hc:Few cons.length): ∀q:Pat,q.few->PC L 142 [.agg [.i q.form,.i q.n,.str q.text,.fz (q.parts.map Pat.enc)],.fz (cons.map dC.enc)] (.bool (tG cons q)):=by
 refine Pat.ind fun q ih hq=>?_
 obtain⟨hl,_,hps⟩:=Pat.few_parts hq
 refine pcA func142 ?_
 have e:=eG hc;simp only[go_sem,aE1,Go.Abs.start]
 refine aDp (fun st=>(st.fr 1= .fz (cons.map dC.enc))/\ (st.fr 2= .ptr ⟨0,2,0⟩ 0)/\ (st.en ⟨0,2,0⟩=some (.box [.i q.form,.i q.n,.str q.text,.fz (q.parts.map Pat.enc)] false))/\ (st.fr 6= .i q.parts.length)/\ (st.fr 5= .bool (zJ cons q.form q.n q.parts.length))) ?_ ?_
 ·simp only[go_sem,kK]
  repeat' ((first|with_reducible refine aG (fun h=>?_) (fun h=>?_)|with_reducible refine aI (fun h=>?_) (fun h=>?_))<;>(try simp only[bWo,bWp,bS6]at h)<;>try simp only[go_sem,kK, *,(sM _ _ _).ret,aIh])
  all_goals try simp[zJ, *]
  all_goals (intro h0;exact absurd (by simp[h0]) h)
 ·rintro fr en cnt ⟨(h1:fr 1= .fz (cons.map dC.enc)),(h2:fr 2= .ptr ⟨0,2,0⟩ 0),(e2:en ⟨0,2,0⟩=some (.box [.i q.form,.i q.n,.str q.text,.fz (q.parts.map Pat.enc)] false)),(h6:fr 6= .i q.parts.length),(h5:fr 5= .bool (zJ cons q.form q.n q.parts.length))⟩
  refine aDp (fun st=>(st.fr 1= .fz (cons.map dC.enc))/\ (st.fr 2= .ptr ⟨0,2,0⟩ 0)/\ (st.en ⟨0,2,0⟩=some (.box [.i q.form,.i q.n,.str q.text,.fz (q.parts.map Pat.enc)] false))/\ (st.fr 6= .i q.parts.length)/\ (st.fr 5= .bool (uL cons q.form q.n q.text q.parts.length))) ?_ ?_
  ·simp only[go_sem,kK,h5]
   repeat' ((first|with_reducible refine aG (fun h=>?_) (fun h=>?_)|with_reducible refine aI (fun h=>?_) (fun h=>?_))<;>(try simp only[bS6]at h)<;>try simp only[go_sem,kK, *])
   all_goals simp[uL,aIi, *]
  ·rintro fr en cnt ⟨(h1:fr 1= .fz (cons.map dC.enc)),(h2:fr 2= .ptr ⟨0,2,0⟩ 0),(e2:en ⟨0,2,0⟩=some (.box [.i q.form,.i q.n,.str q.text,.fz (q.parts.map Pat.enc)] false)),(h6:fr 6= .i q.parts.length),(h5:fr 5= .bool (uL cons q.form q.n q.text q.parts.length))⟩
   rw[aMl];generalize uL cons q.form q.n q.text q.parts.length=b0 at h5;simp only[go_sem,kK]
   refine bK q.parts.length (fun k st=> ∃fr en cnt b,st=⟨fr,en,cnt⟩/\ fr 1= .fz (cons.map dC.enc)/\ fr 7= .i k/\ fr 6= .i q.parts.length/\ fr 2= .ptr ⟨0,2,0⟩ 0/\ en ⟨0,2,0⟩=some (.box [.i q.form,.i q.n,.str q.text,.fz (q.parts.map Pat.enc)] false)/\ fr 5= .bool b/\ (b&&(q.parts.drop k).all (tG cons))=(b0&&q.parts.all (tG cons))) 0 (bS4 _) ⟨_,_,_,b0,rfl,by simp only[go_sem,h1],by simp only[go_sem],by simp only[go_sem,h6],by simp only[go_sem,h2],by simp only[go_sem,e2],by simp only[go_sem,h5],rfl⟩ ?_
   rintro k st hk ⟨fr,en,cnt,b,rfl,h1,h7,h6,h2,e2,h5,hI⟩
   simp only[go_sem,kK,h7,h6]
   refine aI (fun hd=>?_) (fun hd=>?_)
   ·have h':k<q.parts.length:=D_o hd;have hm:q.parts[k]∈q.parts:=bS7 _;rw[gP h']at hI;simp only[go_sem,kK,h',h5]
    refine aG (fun hb=>?_) (fun hb=>?_)
    ·simp only[go_sem,h',h1,h7,h2,e2,(ih _ hm (hps _ hm)).ret]
     refine⟨_,_,_,tG cons q.parts[k],rfl,?_⟩
     simp only[go_sem,h1,h6,h2,e2,aR h' hl];rw[<-hI,hb];simp
    ·simp only[go_sem,h5];rw[<-hI,hb];simp
   ·have:k=q.parts.length:=by simp at hd;omega
    subst this;simp only[go_sem,kK,hd,h5];rw[<-hI];simp
theorem aUo (l:List dC)(hl:l.length<=1000)(hs: ∀c∈l,Few c.name.size):PC L 93 [.fz (l.map dC.enc)] (.bool (aAu l)):=by
 have hf:Few l.length:=by unfold Few;omega
 refine pcA func93 ?_
 simp only[go_sem,kK]
 refine bK l.length (fun k st=> ∃fr en cnt,st=⟨fr,en,cnt⟩/\ fr 0= .fz (l.map dC.enc)/\ fr 4= .i k/\ cX en (fr 3) 1 ((l.take k).map fun c=> .str c.name) [34]/\ (l.drop k).all xT=l.all xT) 0 (bS4 _) ⟨_,_,_,rfl,by simp only[go_sem],by simp only[go_sem],by simp only[go_sem];exact cX.nil _ _,rfl⟩ ?_
 rintro k st hk ⟨fr,en,cnt,rfl,h0,h4,h3,hI⟩
 simp only[go_sem,kK,h0,h4]
 refine aG (fun h=>?_) (fun h=>?_)
 ·have h':k<l.length:=D_o h;have hm:l[k]∈l:=bS7 _;rw[gP h']at hI;simp only[go_sem,kK,h',h0,h4,(aR0 _ (hs _ hm)).ret]
  refine aI (fun hb=>?_) (fun hb=>?_)
  ·simp only[go_sem,kK,hb,h',h0,h4,(sM _ _ _).ret]
   refine aG (fun hc=>?_) (fun hc=>?_)
   ·simp only[go_sem,kK]
    simp at hc
    simp[aAu,<-hI,xT,hc]
   ·simp only[go_sem,h',h0,h4]
    simp at hb hc
    have hk2:xT l[k]=true:=by simp[xT,hb,hc]
    have hx:cX en (St.get (fun i=>fr i) (.t 3)) 1 ((l.take k).map fun c=>Val.str c.name) [34]:=h3
    refine jO (D:=[34]) (xs:=(l.take k).map fun c=>Val.str c.name) (ys:=[.str l[k].name]) (rs:=[]) ?_ ?_ ?_ ?_ ?_
    ·simp only[go_sem];exact h3
    ·simp only[go_sem]
    ·rfl
    ·simp;omega
    ·intro v en' cnt' hown hen hcnt;simp only[go_sem,h4]
     refine⟨_,_,_,rfl,?_⟩
     simp only[go_sem,h0,aR h' hf]
     refine⟨?_,?_⟩
     ·exact cX.sub (by rw[iG h',bT0];exact hown) (by simp)
     ·rw[<-hI,hk2];simp
  ·simp only[go_sem,kK,hb,bTf]
   simp at hb
   simp[aAu,<-hI,xT,hb]
 ·have:k=l.length:=by simp at h;omega
  subst this;have ha:l.all xT=true:=by rw[<-hI];simp
  simp only[go_sem,kK,h0]
  refine aI (fun hb=>?_) (fun hb=>?_)
  ·rw[bUf]at h3;have hmap:(l.map fun c=>Val.str c.name)=(l.map dC.name).map .str:=by simp
   simp only[go_sem,kK,hb];obtain⟨r,ks,e1,_,e2,_⟩:=h3.snap 7;have hd:=aO1 (l.map dC.name) (by simpa using hf)
   rw[<-hmap]at hd;simp only[go_sem,e1,e2,hd.ret]
   simp at hb
   simp[aAu,ha,hb]
  ·simp only[go_sem,kK,hb]
   simp at hb
   simp[aAu];intros;omega
theorem aIj (p:aD)(hp:p.few):PC L 36 [.agg p.cs] (.bool (aU p)):=by
 refine pcA func36 ?_
 simp only[go_sem,kK]
 repeat' ((first|with_reducible refine aG (fun h=>?_) (fun h=>?_)|with_reducible refine aI (fun h=>?_) (fun h=>?_))<;>(try simp only[bWo,bWp,bTf]at h)<;>try simp only[go_sem,kK, *])
 all_goals (try simp only[bUe]at*)
 all_goals try(simp[aU, *];done)
 all_goals try(simp[aU, *];intros;omega)
 rename_i g1 g2
 refine bK (p.cons.length) (fun k st=> ∃fr en cnt,st=⟨fr,en,cnt⟩/\ (fr 1= .ptr ⟨0,1,0⟩ 0)/\ (en ⟨0,1,0⟩=some (.box p.cells false))/\ (fr 3= .i k)/\ ((p.cons.drop k).all (fun c=>decide ((c.name.size:Int)<=40))=p.cons.all fun c=>decide ((c.name.size:Int)<=40))) 0 (bS4 _) (by refine⟨_,_,_,rfl,?_,?_,?_,?_⟩<;>first|(simp only[go_sem];(try rfl);done)|rfl|simp) ?_
 rintro k st hk ⟨fr,en,cnt,rfl,h1,e1,h3,hI⟩
 simp only[go_sem,kK,h1,e1,h3]
 refine aG (fun hq=>?_) (fun hq=>?_)
 ·have h':k<p.cons.length:=D_o hq;rw[gP h']at hI;simp only[go_sem,kK,h',h1,e1,h3]
  refine aG (fun hb=>?_) (fun hb=>?_)
  ·simp only[go_sem,kK]
   simp at hb
   have:p.cons.all (fun c=>decide ((c.name.size:Int)<=40))=false:=by rw[<-hI];simp;intros;omega
   simp only[aU,this];simp
  ·simp only[go_sem,h3]
   simp at hb
   refine⟨_,_,_,rfl,?_⟩
   simp only[go_sem,h1,e1,aR h' hp.cons];rw[<-hI];simp;intros;omega
 ·have:k=p.cons.length:=by simp at hq;omega
  subst this;have hcon:p.cons.all (fun c=>decide ((c.name.size:Int)<=40))=true:=by rw[<-hI];simp
  clear hI hq;simp only[go_sem]
  refine bK (p.nodes.length) (fun k st=> ∃fr en cnt,st=⟨fr,en,cnt⟩/\ (fr 1= .ptr ⟨0,1,0⟩ 0)/\ (en ⟨0,1,0⟩=some (.box p.cells false))/\ (fr 4= .i k)/\ ((p.nodes.drop k).all gQ=p.nodes.all gQ)) 0 (bS4 _) ⟨_,_,_,rfl,(by first|(simp only[go_sem,h1];(try rfl);done)|rfl|simp),(by first|(simp only[go_sem,e1];(try rfl);done)|rfl|simp),(by first|(simp only[go_sem];(try rfl);done)|rfl|simp),(by first|(simp only[go_sem];(try rfl);done)|rfl|simp)⟩ ?_
  rintro k st hk ⟨fr,en,cnt,rfl,h1,e1,h4,hI⟩
  simp only[go_sem,kK,h1,e1,h4]
  refine aG (fun hq=>?_) (fun hq=>?_)
  ·have h':k<p.nodes.length:=D_o hq;have hx:=hp.node p.nodes[k] (bS7 _);rw[gP h']at hI;have fin:gQ p.nodes[k]=false->Val.bool false=Val.bool (aU p):=by
    intro h;simp[aU,<-hI,h]
   simp only[go_sem,kK,h',h1,e1,h4]
   refine aI (fun hb=>?_) (fun hb=>?_)
   ·simp only[go_sem,kK,hb]
    simp at hb
    refine aG (fun hc=>?_) (fun hc=>?_)
    ·simp only[go_sem,kK]
     simp at hc
     exact fin (by simp[gQ];intros;omega)
    ·simp only[go_sem]
     simp at hc
     generalize cnt 0 5=g5
     refine bK (p.nodes[k].pats.length) (fun j st=> ∃fr en cnt,st=⟨fr,en,cnt⟩/\ (fr 1= .ptr ⟨0,1,0⟩ 0)/\ (en ⟨0,1,0⟩=some (.box p.cells false))/\ (fr 5= .ptr ⟨0,5,g5⟩ 0)/\ (en ⟨0,5,g5⟩=some (.box [.i p.nodes[k].op,.i p.nodes[k].n,.is p.nodes[k].kids,.fz (p.nodes[k].pats.map Pat.enc)] false))/\ (fr 4= .i k)/\ (fr 6= .i j)/\ ((p.nodes[k].pats.drop j).all aCi=p.nodes[k].pats.all aCi)) 0 (bS4 _) ⟨_,_,_,rfl,(by first|(simp only[go_sem,h1];(try rfl);done)|rfl|simp),(by first|(simp only[go_sem,e1];(try rfl);done)|rfl|simp),(by first|(simp only[go_sem];(try rfl);done)|rfl|simp),(by first|(simp only[go_sem];(try rfl);done)|rfl|simp),(by first|(simp only[go_sem,h4];(try rfl);done)|rfl|simp),(by first|(simp only[go_sem];(try rfl);done)|rfl|simp),(by first|(simp only[go_sem];(try rfl);done)|rfl|simp)⟩ ?_
     rintro j st hk ⟨fr,en,cnt,rfl,h1,e1,h5,e5,h4,h6,hJ⟩
     simp only[go_sem,kK,h5,e5,h6]
     refine aG (fun h2=>?_) (fun h2=>?_)
     ·have h2':j<p.nodes[k].pats.length:=D_o h2;rw[gP h2']at hJ;simp only[go_sem,kK,h2',h5,e5,h6,(aKl _ (hx.pat _ (bS7 _))).ret]
      refine aG (fun hd=>?_) (fun hd=>?_)
      ·simp only[go_sem,kK]
       simp at hd
       exact fin (by simp[gQ,<-hJ,hd])
      ·simp only[go_sem,h6]
       simp at hd
       refine⟨_,_,_,rfl,?_⟩
       simp only[go_sem,h1,e1,h5,e5,h4,aR h2' hx.pats];rw[<-hJ,hd];simp
     ·have:j=p.nodes[k].pats.length:=by simp at h2;omega
      subst this;have hfr:gQ p.nodes[k]=true:=by
       simp only[gQ,<-hJ];simp;exact⟨by omega,by omega⟩
      simp only[go_sem,h4]
      refine⟨_,_,_,rfl,?_⟩
      simp only[go_sem,h1,e1,aR h' hp.nodes];rw[<-hI,hfr];simp
   ·simp only[go_sem,kK,hb,bTf]
    simp at hb
    exact fin (by simp[gQ];intros;omega)
  ·have:k=p.nodes.length:=by simp at hq;omega
   subst this;have hn:p.nodes.all gQ=true:=by rw[<-hI];simp
   simp only[go_sem];simp only[aU,hcon,hn];simp[g1,g2,h]
theorem aUp (p:aD)(n:aL)(hp:p.few)(hn:n.few):PC L 94 [.agg p.cs,.agg [.i n.op,.i n.n,.fz (n.kids.map (.int .i64)),.fz (n.pats.map Pat.enc)]] (.bool (eS p n)):=by
 have e1:IntKind.i64.wrap (0-(p.funs.length:Int))= -(p.funs.length:Int):=by have:=hp.funs;unfold Few at this;rw[aV (by omega)];omega
 have e2:=eG hp.cons
 refine pcA func94 ?_
 simp only[go_sem,aE1,Go.Abs.start]
 refine aDp (fun st=>(st.fr 2= .ptr ⟨0,2,0⟩ 0)/\ (st.en ⟨0,2,0⟩=some (.box p.cells false))/\ (st.fr 3= .ptr ⟨0,3,0⟩ 0)/\ (st.en ⟨0,3,0⟩=some (.box [.i n.op,.i n.n,.is n.kids,.fz (n.pats.map Pat.enc)] false))/\ (st.fr 6= .bool (oV p n))/\ (st.fr 5= .i (pX p n))) ?_ ?_
 ·simp only[go_sem,kK]
  repeat' ((first|with_reducible refine aG (fun h=>?_) (fun h=>?_)|with_reducible refine aI (fun h=>?_) (fun h=>?_))<;>(try simp only[bWo,bWp]at h)<;>try simp only[go_sem,kK, *,(sM _ _ _).ret,aIh])
  all_goals simp[oV,pX, *]
 ·rintro fr en cnt ⟨(h2:fr 2= .ptr ⟨0,2,0⟩ 0),(e2:en ⟨0,2,0⟩=some (.box p.cells false)),(h3:fr 3= .ptr ⟨0,3,0⟩ 0),(e3:en ⟨0,3,0⟩=some (.box [.i n.op,.i n.n,.is n.kids,.fz (n.pats.map Pat.enc)] false)),(h6:fr 6= .bool (oV p n)),(h5:fr 5= .i (pX p n))⟩
  refine aDp (fun st=>(st.fr 2= .ptr ⟨0,2,0⟩ 0)/\ (st.en ⟨0,2,0⟩=some (.box p.cells false))/\ (st.fr 3= .ptr ⟨0,3,0⟩ 0)/\ (st.en ⟨0,3,0⟩=some (.box [.i n.op,.i n.n,.is n.kids,.fz (n.pats.map Pat.enc)] false))/\ (st.fr 6= .bool (oV p n&&mR n))/\ (st.fr 5= .i (pX p n))) ?_ ?_
  ·simp only[go_sem,kK,h3,e3]
   repeat' ((first|with_reducible refine aG (fun h=>?_) (fun h=>?_)|with_reducible refine aI (fun h=>?_) (fun h=>?_))<;>(try simp only[bWo,bWp,bS6]at h)<;>try simp only[go_sem,kK, *,(sM _ _ _).ret])
   all_goals simp[mR, *]
  ·rintro fr en cnt ⟨(h2:fr 2= .ptr ⟨0,2,0⟩ 0),(e2:en ⟨0,2,0⟩=some (.box p.cells false)),(h3:fr 3= .ptr ⟨0,3,0⟩ 0),(e3:en ⟨0,3,0⟩=some (.box [.i n.op,.i n.n,.is n.kids,.fz (n.pats.map Pat.enc)] false)),(h6:fr 6= .bool (oV p n&&mR n)),(h5:fr 5= .i (pX p n))⟩
   have hb0:(oV p n&&mR n)=true->0<=(n.pats.length:Int)/\ (n.pats.length:Int)<=1000:=by
    intro h;simp only[bSw]at h;have:=h.2;unfold mR at this;split at this
    ·simp[inR]at this;omega
    ·simp at this;simp[this]
   have hres:eS p n=(((oV p n&&mR n)&&n.pats.all (nV p.cons))&&decide ((n.kids.length:Int)=fP n.op n.pats.length (pX p n))):=rfl;rw[hres];clear hres e1;generalize (oV p n&&mR n)=b0 at h6 hb0
   refine aDp (fun st=>st.fr 2= .ptr ⟨0,2,0⟩ 0/\ st.en ⟨0,2,0⟩=some (.box p.cells false)/\ st.fr 3= .ptr ⟨0,3,0⟩ 0/\ st.en ⟨0,3,0⟩=some (.box [.i n.op,.i n.n,.is n.kids,.fz (n.pats.map Pat.enc)] false)/\ st.fr 6= .bool (b0&&n.pats.all (nV p.cons))/\ st.fr 5= .i (pX p n)) ?_ ?_
   ·simp only[go_sem,kK]
    refine bK n.pats.length (fun k st=> ∃fr en cnt b,st=⟨fr,en,cnt⟩/\ fr 2= .ptr ⟨0,2,0⟩ 0/\ en ⟨0,2,0⟩=some (.box p.cells false)/\ fr 3= .ptr ⟨0,3,0⟩ 0/\ en ⟨0,3,0⟩=some (.box [.i n.op,.i n.n,.is n.kids,.fz (n.pats.map Pat.enc)] false)/\ fr 5= .i (pX p n)/\ fr 7= .i k/\ fr 6= .bool b/\ (b&&(n.pats.drop k).all (nV p.cons))=(b0&&n.pats.all (nV p.cons))) 0 (bS4 _) ⟨_,_,_,b0,rfl,by simp only[go_sem,h2],by simp only[go_sem,e2],by simp only[go_sem,h3],by simp only[go_sem,e3],by simp only[go_sem,h5],by simp only[go_sem],by simp only[go_sem,h6],rfl⟩ ?_
    rintro k st hk ⟨fr,en,cnt,b,rfl,h2,e2,h3,e3,h5,h7,h6,hI⟩
    simp only[go_sem,kK,h3,e3,h7]
    refine aI (fun hd=>?_) (fun hd=>?_)
    ·have h':k<n.pats.length:=D_o hd;have hm:n.pats[k]∈n.pats:=bS7 _;rw[gP h']at hI;simp only[go_sem,kK,hd,h6]
     refine aG (fun hb=>?_) (fun hb=>?_)
     ·rw[hb]at hI;simp only[go_sem,kK,h',h3,e3,h7,(aBp _ (hn.pat _ hm) 12 (by omega) (by omega)).ret]
      refine aI (fun hw=>?_) (fun hw=>?_)
      ·simp only[go_sem,kK,hw,h',h2,e2,h3,e3,h7,(aXa _ hp.cons _ (hn.pat _ hm)).ret]
       refine⟨_,_,_,tG p.cons n.pats[k],rfl,?_⟩
       simp only[go_sem,h2,e2,h3,e3,h5,aR h' hn.pats];rw[<-hI];simp[nV,D_o hw]
      ·simp only[go_sem,kK,hw,h7]
       refine⟨_,_,_,false,rfl,?_⟩
       simp only[go_sem,h2,e2,h3,e3,h5,aR h' hn.pats]
       simp at hw
       rw[<-hI];simp[nV];intros;omega
     ·simp only[go_sem,h',h2,e2,h3,e3,h5,h6];rw[<-hI,hb];simp
    ·have:k=n.pats.length:=by simp at hd;omega
     subst this;simp only[go_sem,kK,hd,h2,e2,h3,e3,h5,h6];rw[<-hI];simp
   ·rintro fr en cnt ⟨(h2:fr 2=_),(e2:en _=_),(h3:fr 3=_),(e3:en _=_),(h6:fr 6=_),(h5:fr 5=_)⟩
    generalize hbb:(b0&&n.pats.all (nV p.cons))=b at h6⊢;simp only[go_sem,kK]
    refine aCf ?_ ?_
    ·decide
    simp only[go_sem,kK,h6]
    refine aI (fun hd=>?_) (fun hd=>?_)
    ·have h0:b0=true:=by
      simp only[hd,bSw]at hbb;exact hbb.1
     simp only[go_sem,kK,hd,h3,e3,h5,(aUn _ _ _ (hb0 h0)).ret]
    ·simp only[go_sem,kK,hd]
theorem aYl {u:List Bool}{x:Int}(hu:u.length=n)(h:inR x 0 ((n:Int)-1)=true):0<=x/\ x<(n:Int)/\ (u.map Val.bool)[x.toNat]?=some (.bool (u.getD x.toNat false)):=by
 simp only[inR,bWo]at h;have hx:x.toNat<u.length:=by omega
 exact⟨by omega,by omega,by simp[bSz,hx]⟩
theorem aEe (p:aD)(hp:p.few)(hs:p.cons.length<=1000):PC L 37 [.agg p.cs] (.bool (fJ p)):=by
 have w1:=eG hp.nodes;have w2:=eG hp.funs
 refine pcA func37 ?_
 simp only[go_sem,kK]
 repeat' ((first|with_reducible refine aG (fun h=>?_) (fun h=>?_)|with_reducible refine aI (fun h=>?_) (fun h=>?_))<;>(try simp only[bWo,bWp,bTf]at h)<;>try simp only[go_sem,kK, *,(sM _ _ _).ret,(aUo _ hs hp.con).ret])
 all_goals (try simp only[bUb,Bool.not_eq_false',bUe]at*)
 all_goals try(simp[fJ, *];done)
 all_goals try(simp[fJ, *];intros;omega)
 rename_i g1 g2 g3;have hn:p.nodes.length<=16777216:=by omega
 have hfo:fJ p=aAv ((aCj 0 (p.nodes.length-1) (List.replicate p.nodes.length false) p.funs).bind fun u=>lW p 0 u p.nodes):=by simp[fJ,g1,g2,g3,h]
 rw[hfo];clear hfo;simp only[go_sem,bCy hn]
 refine bK p.funs.length (fun k st=> ∃fr en cnt u,st=⟨fr,en,cnt⟩/\ (fr 1= .ptr ⟨0,1,0⟩ 0/\ en ⟨0,1,0⟩=some (.box p.cells false)/\ fr 3= .i p.nodes.length/\ fr 4= .bl ⟨0,40,0⟩ 0 p.nodes.length/\ en ⟨0,40,0⟩=some (.blk 1 (u.map Val.bool) false)/\ u.length=p.nodes.length)/\ fr 5= .i k/\ aCj 0 (p.nodes.length-1) u (p.funs.drop k)=aCj 0 (p.nodes.length-1) (List.replicate p.nodes.length false) p.funs) 0 (bS4 _) ⟨_,_,_,List.replicate p.nodes.length false,rfl,(by refine⟨?_,?_,?_,?_,by simp only[go_sem,List.map_replicate],by simp⟩<;>simp only[go_sem]),by simp only[go_sem],rfl⟩ ?_
 rintro k st hk ⟨fr,en,cnt,u,rfl,⟨h1,e1,h3,h4,eu,hu⟩,h5,hI⟩
 simp only[go_sem,kK,h1,e1,h5]
 refine aG (fun hq=>?_) (fun hq=>?_)
 ·have h':k<p.funs.length:=D_o hq;rw[bT2 h',aCj]at hI;simp only[go_sem,kK,h',h1,e1,h3,h5,(sM _ _ _).ret,w1]
  refine aI (fun hb=>?_) (fun hb=>?_)
  ·simp at hb
   obtain⟨a1,a2,a3⟩:=aYl hu hb;rw[hb]at hI;simp only[go_sem,kK,hb,bS6,h',h1,e1,h4,eu,h5,a1,a2,a3]
   refine aG (fun hc=>?_) (fun hc=>?_)
   ·simp only[go_sem,kK];rw[hc]at hI
    simp at hI
    rw[<-hI];rfl
   ·simp only[go_sem,h',h1,e1,h4,eu,h5,a1,a2,a3];rw[hc]at hI
    simp at hI
    refine⟨_,_,_,u.set p.funs[k].toNat true,rfl,?_⟩
    simp only[go_sem,h1,e1,h3,h4,<-bVe,aR h' hp.funs];exact⟨by simp[hu],hI⟩
  ·simp only[go_sem,kK,hb,bTf]
   simp at hb
   rw[hb]at hI
   simp at hI
   rw[<-hI];rfl
 ·have:k=p.funs.length:=by simp at hq;omega
  subst this;rw[bUo,aCj]at hI;rw[<-hI];simp only[bVt];clear hq hI hk;generalize hM:lW p 0 u p.nodes=M;simp only[go_sem]
  refine bK p.nodes.length (fun k st=> ∃fr en cnt u,st=⟨fr,en,cnt⟩/\ (fr 1= .ptr ⟨0,1,0⟩ 0/\ en ⟨0,1,0⟩=some (.box p.cells false)/\ fr 3= .i p.nodes.length/\ fr 4= .bl ⟨0,40,0⟩ 0 p.nodes.length/\ en ⟨0,40,0⟩=some (.blk 1 (u.map Val.bool) false)/\ u.length=p.nodes.length)/\ fr 6= .i k/\ lW p k u (p.nodes.drop k)=M) 0 (bS4 _) ⟨_,_,_,u,rfl,⟨by simp only[go_sem,h1],by simp only[go_sem,e1],by simp only[go_sem,h3],by simp only[go_sem,h4],by simp only[go_sem,eu],hu⟩,by simp only[go_sem],hM⟩ ?_
  clear hM h1 e1 h3 h4 eu hu h5
  rintro k st hk ⟨fr,en,cnt,u,rfl,⟨h1,e1,h3,h4,eu,hu⟩,h6,hI⟩
  simp only[go_sem,kK,h3,h6]
  refine aG (fun hq=>?_) (fun hq=>?_)
  ·have h':k<p.nodes.length:=D_o hq;have hx:=hp.node p.nodes[k] (bS7 _);rw[bT2 h',lW]at hI;simp only[go_sem,kK,h',h1,e1,h6,(aUp p _ hp hx).ret]
   refine aG (fun hb=>?_) (fun hb=>?_)
   ·simp only[go_sem,kK]
    simp at hb
    rw[hb]at hI;rw[<-hI];rfl
   ·simp only[go_sem]
    simp at hb
    rw[hb]at hI;simp only[if_true]at hI;generalize hm:aCj ((k:Int)+1) (p.nodes.length-1) u p.nodes[k].kids=m at hI
    refine bK p.nodes[k].kids.length (fun j st=> ∃fr en cnt u,st=⟨fr,en,cnt⟩/\ (fr 1= .ptr ⟨0,1,0⟩ 0/\ en ⟨0,1,0⟩=some (.box p.cells false)/\ fr 3= .i p.nodes.length/\ fr 4= .bl ⟨0,40,0⟩ 0 p.nodes.length/\ en ⟨0,40,0⟩=some (.blk 1 (u.map Val.bool) false)/\ u.length=p.nodes.length)/\ fr 6= .i k/\ fr 7= .i j/\ aCj ((k:Int)+1) (p.nodes.length-1) u (p.nodes[k].kids.drop j)=m) 0 (bS4 _) ⟨_,_,_,u,rfl,⟨by simp only[go_sem,h1],by simp only[go_sem,e1],by simp only[go_sem,h3],by simp only[go_sem,h4],by simp only[go_sem,eu],hu⟩,by simp only[go_sem,h6],by simp only[go_sem],hm⟩ ?_
    clear hm h1 e1 h3 h4 eu hu h6
    rintro j st hj ⟨fr,en,cnt,u,rfl,⟨h1,e1,h3,h4,eu,hu⟩,h6,h7,hJ⟩
    simp only[go_sem,kK,h',h1,e1,h6,h7]
    refine aG (fun h2=>?_) (fun h2=>?_)
    ·have h2':j<p.nodes[k].kids.length:=D_o h2;rw[bT2 h2',aCj]at hJ;have w3:IntKind.i64.wrap ((k:Int)+1)=(k:Int)+1:=aV (by omega)
     simp only[go_sem,kK,h',h2',h1,e1,h3,h6,h7,(sM _ _ _).ret,w1,w3]
     refine aI (fun hc=>?_) (fun hc=>?_)
     ·simp at hc
      have hc0:inR p.nodes[k].kids[j] 0 ((p.nodes.length:Int)-1)=true:=by simp[inR]at hc⊢;omega
      obtain⟨a1,a2,a3⟩:=aYl hu hc0;rw[hc]at hJ;simp only[go_sem,kK,hc,bS6,h4,eu,a1,a2,a3]
      refine aG (fun hd=>?_) (fun hd=>?_)
      ·simp only[go_sem,kK];rw[hd]at hJ
       simp at hJ
       rw[<-hI,<-hJ];rfl
      ·simp only[go_sem,h4,eu,h7,a1,a2,a3];rw[hd]at hJ
       simp at hJ
       refine⟨_,_,_,u.set p.nodes[k].kids[j].toNat true,rfl,?_⟩
       simp only[go_sem,h1,e1,h3,h4,h6,<-bVe,aR h2' hx.kids];exact⟨by simp[hu],hJ⟩
     ·simp only[go_sem,kK,hc,bTf]
      simp at hc
      rw[hc]at hJ
      simp at hJ
      rw[<-hI,<-hJ];rfl
    ·have:j=p.nodes[k].kids.length:=by simp at h2;omega
     subst this;rw[bUo,aCj]at hJ;rw[<-hJ]at hI;simp only[bVt]at hI;simp only[go_sem,h6]
     refine⟨_,_,_,u,rfl,?_⟩
     simp only[go_sem,h1,e1,h3,h4,eu,hu,aR h' hp.nodes];exact hI
  ·have:k=p.nodes.length:=by simp at hq;omega
   subst this;rw[bUo,lW]at hI;rw[<-hI];simp only[aAv];simp only[go_sem]
   refine bK p.nodes.length (fun k st=> ∃fr en cnt,st=⟨fr,en,cnt⟩/\ fr 3= .i p.nodes.length/\ fr 4= .bl ⟨0,40,0⟩ 0 p.nodes.length/\ en ⟨0,40,0⟩=some (.blk 1 (u.map Val.bool) false)/\ fr 9= .i k/\ (u.drop k).all id=u.all id) 0 (bS4 _) ⟨_,_,_,rfl,by simp only[go_sem,h3],by simp only[go_sem,h4],by simp only[go_sem,eu],by simp only[go_sem],rfl⟩ ?_
   clear h1 e1 h3 h4 eu h6 hI hq hk
   rintro k st hk ⟨fr,en,cnt,rfl,h3,h4,eu,h9,hI⟩
   simp only[go_sem,kK,h3,h9]
   refine aG (fun hq=>?_) (fun hq=>?_)
   ·have h':k<p.nodes.length:=D_o hq;have h'':k<u.length:=by omega
    rw[gP h'']at hI;have a3:(u.map Val.bool)[k]?=some (.bool u[k]):=by simp[h'']
    simp only[go_sem,kK,h',h4,eu,h9,a3,bVm,bTt]
    refine aG (fun hb=>?_) (fun hb=>?_)
    ·simp only[go_sem,kK]
     simp at hb
     rw[<-hI,hb];rfl
    ·simp only[go_sem,h9]
     simp at hb
     refine⟨_,_,_,rfl,?_⟩
     simp only[go_sem,h3,h4,eu,aR h' hp.nodes];rw[<-hI,hb];simp
   ·have:k=p.nodes.length:=by simp at hq;omega
    subst this;simp only[go_sem];rw[<-hI,List.drop_eq_nil_of_le (by omega)];rfl
def bM3 :fR:={np:=2,res:=[.tmp 4],keep:=false,body:=
 (.seq (.ops [mC 4 (.bool false)])
 (.seq (.seq (.ops [mT 6 0,
 lN 7 6,
 mT 8 1,
 lN 9 8,
 bN 10 .neq (.t 7) (.t 9)])
 (.cond (.t 10)
 (.seq (.ops [mC 4 (.bool false)])
 .ret)
 .skip))
 (.seq (.seq (.ops [mC 5 (.int .i64 0)])
 (.block 0 (.loop (.seq (.seq (.ops [mT 11 5,
 mT 12 0,
 lN 13 12,
 bN 14 .lss (.t 11) (.t 13)])
 (.cond (.t 14)
 .skip
 (.exit 0)))
 (.seq (.block 1 (.seq (.draw [mT 17 0,
 mT 18 5,
 iA 19 2 17 18,
 lT 20 2 19,
 mT 21 1,
 mT 22 5,
 iA 23 2 21 22,
 lT 24 2 23,
 o 25 (.bin .neq (.agg [.num,.num]) (.t 20) (.t 24))]
 [])
 (.cond (.t 25)
 (.seq (.ops [mC 4 (.bool false)])
 .ret)
 .skip)))
 (.ops [mT 15 5,
 bN 16 .add (.t 15) (cI 1),
 mT 5 16]))))))
 (.seq (.ops [mC 4 (.bool true)])
 .ret))))}
theorem bQ8 :L 65=some bM3:=by kernel_rfl
def bM4 :fR:={np:=2,res:=[.tmp 4],keep:=false,body:=
 (.seq (.ops [mC 4 (.bool false)])
 (.seq (.seq (.ops [mT 6 0,
 lN 7 6,
 mT 8 1,
 lN 9 8,
 bN 10 .neq (.t 7) (.t 9)])
 (.cond (.t 10)
 (.seq (.ops [mC 4 (.bool false)])
 .ret)
 .skip))
 (.seq (.seq (.ops [mC 5 (.int .i64 0)])
 (.block 0 (.loop (.seq (.seq (.ops [mT 11 5,
 mT 12 0,
 lN 13 12,
 bN 14 .lss (.t 11) (.t 13)])
 (.cond (.t 14)
 .skip
 (.exit 0)))
 (.seq (.block 1 (.seq (.draw [mT 17 0,
 mT 18 5,
 iA 19 2 17 18,
 lT 20 2 19,
 mT 21 1,
 mT 22 5,
 iA 23 2 21 22,
 lT 24 2 23,
 o 25 (.bin .neq (.agg [.num,.num]) (.t 20) (.t 24))]
 [])
 (.cond (.t 25)
 (.seq (.ops [mC 4 (.bool false)])
 .ret)
 .skip)))
 (.ops [mT 15 5,
 bN 16 .add (.t 15) (cI 1),
 mT 5 16]))))))
 (.seq (.ops [mC 4 (.bool true)])
 .ret))))}
theorem bQ9 :L 55=some bM4:=by kernel_rfl
variable {k:Nat}
theorem sV {α:Type}{a b:List α}(ha:k<a.length)(hb:k<b.length)(h:a.take k=b.take k)(he:a[k]=b[k]):a.take (k+1)=b.take (k+1):=by
 rw[iG ha,iG hb,h,he]
theorem sW {α:Type}{a b:List α}(hl:a.length=b.length)(h:a.take a.length=b.take a.length):a=b:=by
 rw[bUf,hl,bUf]at h;exact h
theorem aEf {α:Type}{a b:List α}(ha:k<a.length)(hb:k<b.length)(h: ¬a[k]=b[k]): ¬a=b:=by
 rintro rfl;exact h rfl
theorem tY (a b:List Int)(ha:Few a.length):PC L 54 [.is a,.is b] (.bool (decide (a=b))):=by
 refine pcA func54 ?_
 simp only[go_sem,kK]
 refine aG (fun h=>?_) (fun h=>?_)
 ·simp only[go_sem,kK]
  simp at h
  have: ¬a=b:=by rintro rfl;exact h rfl
  simp[this]
 ·have hl:a.length=b.length:=by simp at h;exact h
  simp only[go_sem]
  refine bK (a.length) (fun k st=> ∃fr en cnt,st=⟨fr,en,cnt⟩/\ (fr 0= .is a)/\ (fr 1= .is b)/\ (fr 5= .i k)/\ (a.take k=b.take k)) 0 (bS4 _) (by refine⟨_,_,_,rfl,?_,?_,?_,?_⟩<;>first|(simp only[go_sem];(try rfl);done)|rfl|simp) ?_
  rintro k st hk ⟨fr,en,cnt,rfl,h0,h1,h5,hI⟩
  simp only[go_sem,kK,h0,h5]
  refine aG (fun hq=>?_) (fun hq=>?_)
  ·have h':k<a.length:=D_o hq;have h'':k<b.length:=by omega
   simp only[go_sem,kK,h',h'',h0,h1,h5]
   refine aG (fun hb=>?_) (fun hb=>?_)
   ·simp only[go_sem,kK]
    simp at hb
    simp[aEf h' h'' hb]
   ·simp only[go_sem,h5]
    simp at hb
    refine⟨_,_,_,rfl,?_⟩
    simp only[go_sem,h0,h1,aR h' ha];exact sV h' h'' hI hb
  ·have:k=a.length:=by simp at hq;omega
   subst this;simp only[go_sem];simp[sW hl hI]
theorem aE.eq_iff {a b:aE}:(decide (a.kind=b.kind)&&decide (a.n=b.n))=decide (a=b):=by
 cases a;cases b;simp
theorem bO.eq_iff {a b:bO}:(decide (a.port=b.port)&&decide (a.n=b.n))=decide (a=b):=by
 cases a;cases b;simp
theorem tZ (a b:List aE)(ha:Few a.length):PC L 65 [.fz (a.map aE.enc),.fz (b.map aE.enc)] (.bool (decide (a=b))):=by
 refine cD bQ8 rfl rfl ?_
 simp only[go_sem,kK,bM3]
 refine aG (fun h=>?_) (fun h=>?_)
 ·simp only[go_sem,kK]
  simp at h
  have: ¬a=b:=by rintro rfl;exact h rfl
  simp[this]
 ·have hl:a.length=b.length:=by simp at h;exact h
  simp only[go_sem]
  refine bK (a.length) (fun k st=> ∃fr en cnt,st=⟨fr,en,cnt⟩/\ (fr 0= .fz (a.map aE.enc))/\ (fr 1= .fz (b.map aE.enc))/\ (fr 5= .i k)/\ (a.take k=b.take k)) 0 (bS4 _) (by refine⟨_,_,_,rfl,?_,?_,?_,?_⟩<;>first|(simp only[go_sem];(try rfl);done)|rfl|simp) ?_
  rintro k st hk ⟨fr,en,cnt,rfl,h0,h1,h5,hI⟩
  simp only[go_sem,kK,h0,h5]
  refine aG (fun hq=>?_) (fun hq=>?_)
  ·have h':k<a.length:=D_o hq;have h'':k<b.length:=by omega
   simp only[go_sem,kK,h',h'',h0,h1,h5,aE.eq_iff]
   refine aG (fun hb=>?_) (fun hb=>?_)
   ·simp only[go_sem,kK]
    simp at hb
    simp[aEf h' h'' hb]
   ·simp only[go_sem,h5]
    simp at hb
    refine⟨_,_,_,rfl,?_⟩
    simp only[go_sem,h0,h1,aR h' ha];exact sV h' h'' hI hb
  ·have:k=a.length:=by simp at hq;omega
   subst this;simp only[go_sem];simp[sW hl hI]
theorem aKm (a b:List bO)(ha:Few a.length):PC L 55 [.fz (a.map bO.enc),.fz (b.map bO.enc)] (.bool (decide (a=b))):=by
 refine cD bQ9 rfl rfl ?_
 simp only[go_sem,kK,bM4]
 refine aG (fun h=>?_) (fun h=>?_)
 ·simp only[go_sem,kK]
  simp at h
  have: ¬a=b:=by rintro rfl;exact h rfl
  simp[this]
 ·have hl:a.length=b.length:=by simp at h;exact h
  simp only[go_sem]
  refine bK (a.length) (fun k st=> ∃fr en cnt,st=⟨fr,en,cnt⟩/\ (fr 0= .fz (a.map bO.enc))/\ (fr 1= .fz (b.map bO.enc))/\ (fr 5= .i k)/\ (a.take k=b.take k)) 0 (bS4 _) (by refine⟨_,_,_,rfl,?_,?_,?_,?_⟩<;>first|(simp only[go_sem];(try rfl);done)|rfl|simp) ?_
  rintro k st hk ⟨fr,en,cnt,rfl,h0,h1,h5,hI⟩
  simp only[go_sem,kK,h0,h5]
  refine aG (fun hq=>?_) (fun hq=>?_)
  ·have h':k<a.length:=D_o hq;have h'':k<b.length:=by omega
   simp only[go_sem,kK,h',h'',h0,h1,h5,bO.eq_iff]
   refine aG (fun hb=>?_) (fun hb=>?_)
   ·simp only[go_sem,kK]
    simp at hb
    simp[aEf h' h'' hb]
   ·simp only[go_sem,h5]
    simp at hb
    refine⟨_,_,_,rfl,?_⟩
    simp only[go_sem,h0,h1,aR h' ha];exact sV h' h'' hI hb
  ·have:k=a.length:=by simp at hq;omega
   subst this;simp only[go_sem];simp[sW hl hI]
theorem aCk (a b:aP)(ha:a.few):PC L 21 [.agg [.i a.form,.i a.n,.fz (a.vals.map aE.enc),.fz (a.frames.map aB.enc)],.agg [.i b.form,.i b.n,.fz (b.vals.map aE.enc),.fz (b.frames.map aB.enc)]] (.bool (decide (a=b))):=by
 have ne:(¬a.form=b.form \/ ¬a.n=b.n \/ ¬a.vals=b.vals \/ ¬a.frames=b.frames)->Val.bool false=Val.bool (decide (a=b)):=by
  intro h;have: ¬a=b:=by rintro rfl;simp at h
  simp[this]
 refine pcA func21 ?_
 simp only[go_sem,kK]
 refine aI (fun g1=>?_) (fun g1=>?_)
 ·simp only[go_sem,kK,g1]
  refine aI (fun g2=>?_) (fun g2=>?_)
  ·simp only[go_sem,kK,g2,(tZ _ _ ha.1).ret]
   refine aI (fun g3=>?_) (fun g3=>?_)
   ·simp only[go_sem,kK,g3]
    refine aG (fun g4=>?_) (fun g4=>?_)
    ·simp only[go_sem,kK]
     simp at g4
     exact ne (.inr (.inr (.inr (by intro e;rw[e]at g4;exact g4 rfl))))
    ·have hl:a.frames.length=b.frames.length:=by simp at g4;exact g4
     simp only[go_sem]
     refine bK (a.frames.length) (fun k st=> ∃fr en cnt,st=⟨fr,en,cnt⟩/\ (fr 2= .ptr ⟨0,2,0⟩ 0)/\ (en ⟨0,2,0⟩=some (.box [.i a.form,.i a.n,.fz (a.vals.map aE.enc),.fz (a.frames.map aB.enc)] false))/\ (fr 3= .ptr ⟨0,3,0⟩ 0)/\ (en ⟨0,3,0⟩=some (.box [.i b.form,.i b.n,.fz (b.vals.map aE.enc),.fz (b.frames.map aB.enc)] false))/\ (fr 5= .i k)/\ (a.frames.take k=b.frames.take k)) 0 (bS4 _) (by refine⟨_,_,_,rfl,?_,?_,?_,?_,?_,?_⟩<;>first|(simp only[go_sem];(try rfl);done)|rfl|simp) ?_
     rintro k st hk ⟨fr,en,cnt,rfl,h2,e2,h3,e3,h5,hI⟩
     simp only[go_sem,kK,h2,e2,h5]
     refine aG (fun hq=>?_) (fun hq=>?_)
     ·have h':k<a.frames.length:=D_o hq;have h'':k<b.frames.length:=by omega
      have hx:=ha.2.2 a.frames[k] (bS7 _);simp only[go_sem]
      refine aH ?_
      simp only[go_sem,kK,h',h'',h2,e2,h3,e3,h5,kA];have fin: ¬a.frames[k]=b.frames[k]->Val.bool false=Val.bool (decide (a=b)):=fun h=>ne (.inr (.inr (.inr (aEf h' h'' h))))
      refine aI (fun g5=>?_) (fun g5=>?_)
      ·simp only[go_sem,kK,g5,(tZ _ _ hx.1).ret]
       refine aI (fun g6=>?_) (fun g6=>?_)
       ·simp only[go_sem,kK,g6,(tZ _ _ hx.2).ret]
        refine aG (fun g7=>?_) (fun g7=>?_)
        ·simp only[go_sem,kK]
         simp at g7
         exact fin fun e=>g7 (by rw[e])
        ·simp only[go_sem,h5]
         simp at g5 g6 g7
         refine⟨_,_,_,rfl,?_⟩
         simp only[go_sem,h2,e2,h3,e3,aR h' ha.2.1]
         refine sV h' h'' hI ?_
         generalize a.frames[k]=x at*;generalize b.frames[k]=y at*;cases x;cases y;simp only at g5 g6 g7;subst g5 g6 g7;rfl
       ·simp only[go_sem,kK,g6,bTf]
        simp at g6
        exact fin fun e=>g6 (by rw[e])
      ·simp only[go_sem,kK,g5,bTf]
       simp at g5
       exact fin fun e=>g5 (by rw[e])
     ·have:k=a.frames.length:=by simp at hq;omega
      subst this;simp only[go_sem]
      simp at g1 g2 g3
      have:a=b:=by
       have hf:=sW hl hI;cases a;cases b;simp only at g1 g2 g3 hf;subst g1 g2 g3 hf;rfl
      simp[this]
   ·simp only[go_sem,kK,g3,bTf]
    simp at g3
    exact ne (.inr (.inr (.inl g3)))
  ·simp only[go_sem,kK,g2,bTf]
   simp at g2
   exact ne (.inr (.inl g2))
 ·simp only[go_sem,kK,g1,bTf]
  simp at g1
  exact ne (.inl g1)
theorem tI (a b:aA)(ha:a.few):PC L 15 [.agg a.cs,.agg b.cs] (.bool (decide (a=b))):=by
 have ne:(¬a.objs=b.objs \/ ¬a.tasks=b.tasks \/ ¬a.outs=b.outs \/ ¬a.ins=b.ins \/ ¬a.used=b.used)->Val.bool false=Val.bool (decide (a=b)):=by
  intro h;have: ¬a=b:=by rintro rfl;simp at h
  simp[this]
 refine pcA func15 ?_
 simp only[go_sem,kK]
 refine aI (fun g1=>?_) (fun g1=>?_)
 ·simp only[go_sem,kK,g1,(tY _ _ ha.tasks).ret]
  refine aI (fun g2=>?_) (fun g2=>?_)
  ·simp only[go_sem,kK,g2,(aKm _ _ ha.outs).ret]
   refine aI (fun g3=>?_) (fun g3=>?_)
   ·simp only[go_sem,kK,g3,(tY _ _ ha.ins).ret]
    refine aI (fun g4=>?_) (fun g4=>?_)
    ·simp only[go_sem,kK,g4]
     refine aG (fun g5=>?_) (fun g5=>?_)
     ·simp only[go_sem,kK]
      simp at g5
      exact ne (.inr (.inr (.inr (.inr g5))))
     ·have hl:a.objs.length=b.objs.length:=by simp at g1;exact g1
      simp only[go_sem]
      refine bK (a.objs.length) (fun k st=> ∃fr en cnt,st=⟨fr,en,cnt⟩/\ (fr 2= .ptr ⟨0,2,0⟩ 0)/\ (en ⟨0,2,0⟩=some (.box a.cells false))/\ (fr 3= .ptr ⟨0,3,0⟩ 0)/\ (en ⟨0,3,0⟩=some (.box b.cells false))/\ (fr 5= .i k)/\ (a.objs.take k=b.objs.take k)) 0 (bS4 _) (by refine⟨_,_,_,rfl,?_,?_,?_,?_,?_,?_⟩<;>first|(simp only[go_sem];(try rfl);done)|rfl|simp) ?_
      rintro k st hk ⟨fr,en,cnt,rfl,h2,e2,h3,e3,h5,hI⟩
      simp only[go_sem,kK,h2,e2,h5]
      refine aG (fun hq=>?_) (fun hq=>?_)
      ·have h':k<a.objs.length:=D_o hq;have h'':k<b.objs.length:=by omega
       simp only[go_sem,kK,h',h'',h2,e2,h3,e3,h5,(aCk _ _ (ha.obj _ (bS7 h'))).ret]
       refine aG (fun g6=>?_) (fun g6=>?_)
       ·simp only[go_sem,kK]
        simp at g6
        exact ne (.inl (aEf h' h'' g6))
       ·simp only[go_sem,h5]
        simp at g6
        refine⟨_,_,_,rfl,?_⟩
        simp only[go_sem,h2,e2,h3,e3,aR h' ha.objs];exact sV h' h'' hI g6
      ·have:k=a.objs.length:=by simp at hq;omega
       subst this;simp only[go_sem]
       simp at g2 g3 g4 g5
       have:a=b:=by
        have hf:=sW hl hI;cases a;cases b;simp only at g2 g3 g4 g5 hf;subst g2 g3 g4 g5 hf;rfl
       simp[this]
    ·simp only[go_sem,kK,g4,bTf]
     simp at g4
     exact ne (.inr (.inr (.inr (.inl g4))))
   ·simp only[go_sem,kK,g3,bTf]
    simp at g3
    exact ne (.inr (.inr (.inl g3)))
  ·simp only[go_sem,kK,g2,bTf]
   simp at g2
   exact ne (.inr (.inl g2))
 ·simp only[go_sem,kK,g1,bTf]
  simp at g1
  exact ne (.inl fun e=>g1 (by rw[e]))
variable {x:List Val}
theorem aZ5 (h:kH Tryz.prog (n+2) 62 x): ∃a:aE,uJ Tryz.prog 62 x=aE.enc a/\ True:=by
 have h1:=jT Tryz.underlying62 h;simp only[pC]at h1;obtain⟨a,b,rfl,_,ha,c,d,rfl,_,hc,rfl⟩:=h1;obtain⟨i,rfl⟩:=jX (k:= .i64) (by first|exact Tryz.underlying60|kernel_rfl) ha
 obtain⟨j,rfl⟩:=jX Tryz.underlying3 hc;exact⟨⟨i,j⟩,by simp[uJ,dF,Tryz.underlying62,aE.enc],trivial⟩
theorem zK (h:kH Tryz.prog (n+2) 23 x): ∃l:List Int,x=[.fz (l.map (.int .i64))]/\ Few l.length:=by
 obtain⟨l,h1,h2,_⟩:=mL (Val.int .i64) (fun _=>True) Tryz.underlying23 (fun y hy=>by
  obtain⟨i,rfl⟩:=jX Tryz.underlying3 hy;exact⟨i,by simp[uJ,dF,Tryz.underlying3],trivial⟩) h
 exact⟨l,h1,h2⟩
theorem aIk (h:kH Tryz.prog (n+3) 55 x): ∃l:List aE,x=[.fz (l.map aE.enc)]/\ Few l.length:=by
 obtain⟨l,h1,h2,_⟩:=mL aE.enc (fun _=>True) Tryz.underlying55 (fun y hy=>aZ5 hy) h
 exact⟨l,h1,h2⟩
theorem aUq (h:kH Tryz.prog (n+4) 119 x): ∃a:aB,uJ Tryz.prog 119 x=aB.enc a/\ a.few:=by
 have h1:=jT Tryz.underlying119 h;simp only[pC]at h1;obtain⟨a,b,rfl,_,ha,c,d,rfl,_,hc,e,f,rfl,_,he,rfl⟩:=h1;obtain⟨i,rfl⟩:=jX Tryz.underlying3 ha;obtain⟨l,rfl,hl⟩:=aIk hc;obtain⟨m,rfl,hm⟩:=aIk he;exact⟨⟨i,l,m⟩,by simp[uJ,dF,Tryz.underlying119,aB.enc],hl,hm⟩
theorem aUr (h:kH Tryz.prog (n+5) 56 x): ∃l:List aB,x=[.fz (l.map aB.enc)]/\ Few l.length/\ ∀f∈l,f.few:=
 mL aB.enc aB.few Tryz.underlying56 (fun y hy=>aUq hy) h
theorem aZ6 (h:kH Tryz.prog (n+6) 58 x): ∃a:aP,uJ Tryz.prog 58 x=aP.enc a/\ a.few:=by
 have h1:=jT Tryz.underlying58 h;simp only[pC]at h1;obtain⟨a,b,rfl,_,ha,c,d,rfl,_,hc,e,f,rfl,_,he,g,k,rfl,_,hg,rfl⟩:=h1;obtain⟨i,rfl⟩:=jX (k:= .i64) (by first|exact Tryz.underlying54|kernel_rfl) ha
 obtain⟨j,rfl⟩:=jX Tryz.underlying3 hc;obtain⟨l,rfl,hl⟩:=aIk he;obtain⟨m,rfl,hm,hm2⟩:=aUr hg;exact⟨⟨i,j,l,m⟩,by simp[uJ,dF,Tryz.underlying58,aP.enc],hl,hm,hm2⟩
theorem aZ7 (h:kH Tryz.prog (n+2) 73 x): ∃a:bO,uJ Tryz.prog 73 x=bO.enc a/\ True:=by
 have h1:=jT Tryz.underlying73 h;simp only[pC]at h1;obtain⟨a,b,rfl,_,ha,c,d,rfl,_,hc,rfl⟩:=h1;obtain⟨i,rfl⟩:=jX Tryz.underlying3 ha;obtain⟨j,rfl⟩:=jX Tryz.underlying3 hc;exact⟨⟨i,j⟩,by simp[uJ,dF,Tryz.underlying73,bO.enc],trivial⟩
theorem xU (h:kH Tryz.prog (n+8) 30 x): ∃w:aA,x=[.fz (w.objs.map aP.enc),.fz (w.tasks.map (.int .i64)),.fz (w.outs.map bO.enc),.fz (w.ins.map (.int .i64)),.i w.used]/\ w.few:=by
 have h1:=jT Tryz.underlying30 h;simp only[pC]at h1;obtain⟨a,b,rfl,_,ha,c,d,rfl,_,hc,e,f,rfl,_,he,g,k,rfl,_,hg,r,q,rfl,_,hr,rfl⟩:=h1;obtain⟨l1,rfl,f1,f1'⟩:=mL aP.enc aP.few Tryz.underlying27 (fun y hy=>aZ6 hy) ha
 obtain⟨l2,rfl,f2⟩:=zK hc;obtain⟨l3,rfl,f3,_⟩:=mL bO.enc (fun _=>True) Tryz.underlying28 (fun y hy=>aZ7 hy) he
 obtain⟨l4,rfl,f4⟩:=zK hg;obtain⟨i,rfl⟩:=jX Tryz.underlying3 hr;exact⟨⟨l1,l2,l3,l4,i⟩,rfl,⟨f1,f2,f3,f4,f1'⟩⟩
theorem aUs : ∀(n:Nat) {x:List Val},kH Tryz.prog n 153 x-> ∃q:Pat,uJ Tryz.prog 153 x=Pat.enc q/\ q.few
 |0,x,h=>by simp[kH]at h
 |1,x,h=>by
  have h1:=jT Tryz.underlying153 h;simp only[pC]at h1;obtain⟨a,b,rfl,_,ha,_⟩:=h1;simp[kH]at ha
 |n+2,x,h=>by
  have h1:=jT Tryz.underlying153 h;simp only[pC]at h1;obtain⟨a,b,rfl,_,ha,c,d,rfl,_,hc,e,f,rfl,_,he,g,k,rfl,_,hg,rfl⟩:=h1;obtain⟨i,rfl⟩:=jX (k:= .i64) (by first|exact Tryz.underlying151|kernel_rfl) ha
  obtain⟨j,rfl⟩:=jX Tryz.underlying3 hc;obtain⟨t,rfl,ht⟩:=aUb (by first|exact Tryz.underlying9|kernel_rfl) he
  obtain⟨l,rfl,hl,hq⟩:=mL Pat.enc Pat.few Tryz.underlying138 (fun y hy=>aUs n hy) hg
  exact⟨.mk i j t l,by simp[uJ,dF,Tryz.underlying153,Pat.enc,Pat.encL_map],.mk i j t l hl ht hq⟩
theorem aXb (h:kH Tryz.prog (n+4) 140 x): ∃a:aL,uJ Tryz.prog 140 x=aL.enc a/\ a.few:=by
 have h1:=jT Tryz.underlying140 h;simp only[pC]at h1;obtain⟨a,b,rfl,_,ha,c,d,rfl,_,hc,e,f,rfl,_,he,g,k,rfl,_,hg,rfl⟩:=h1;obtain⟨i,rfl⟩:=jX (k:= .i64) (by first|exact Tryz.underlying59|kernel_rfl) ha
 obtain⟨j,rfl⟩:=jX Tryz.underlying3 hc;obtain⟨l,rfl,hl⟩:=zK he;obtain⟨m,rfl,hm,hm2⟩:=mL Pat.enc Pat.few Tryz.underlying138 (fun y hy=>aUs _ hy) hg
 exact⟨⟨i,j,l,m⟩,by simp[uJ,dF,Tryz.underlying140,aL.enc,aT6],⟨hl,hm,hm2⟩⟩
theorem aZ8 (h:kH Tryz.prog (n+2) 149 x): ∃a:dC,uJ Tryz.prog 149 x=dC.enc a/\ Few a.name.size:=by
 have h1:=jT Tryz.underlying149 h;simp only[pC]at h1;obtain⟨a,b,rfl,_,ha,c,d,rfl,_,hc,rfl⟩:=h1;obtain⟨t,rfl,ht⟩:=aUb (by first|exact Tryz.underlying9|kernel_rfl) ha
 obtain⟨j,rfl⟩:=jX Tryz.underlying3 hc;exact⟨⟨t,j⟩,by simp[uJ,dF,Tryz.underlying149,dC.enc],ht⟩
theorem aAx (h:kH Tryz.prog (n+6) 26 x): ∃p:aD,x=[.fz (p.nodes.map aL.enc),.fz (p.funs.map (.int .i64)),.i p.main,.fz (p.cons.map dC.enc)]/\ p.few:=by
 have h1:=jT Tryz.underlying26 h;simp only[pC]at h1;obtain⟨a,b,rfl,_,ha,c,d,rfl,_,hc,e,f,rfl,_,he,g,k,rfl,_,hg,rfl⟩:=h1;obtain⟨l1,rfl,f1,f1'⟩:=mL aL.enc aL.few Tryz.underlying22 (fun y hy=>aXb hy) ha
 obtain⟨l2,rfl,f2⟩:=zK hc;obtain⟨i,rfl⟩:=jX Tryz.underlying3 he;obtain⟨l3,rfl,f3,f3'⟩:=mL dC.enc (fun c=>Few c.name.size) Tryz.underlying24 (fun y hy=>aZ8 hy) hg
 exact⟨⟨l1,l2,i,l3⟩,rfl,⟨f1,f2,f3,f1',f3'⟩⟩
def aJq (v:aE):Bool:=decide (v.kind=5)
def mW (l:List aE):List Int:=(l.filter aJq).map aE.n
variable {l:List aE}
theorem aZ9 {x:aE}(h:aJq x=true):mW (x::l)=x.n::mW l:=by simp[mW,h]
theorem bAa {x:aE}(h:aJq x=false):mW (x::l)=mW l:=by simp[mW,h]
def zL (f:aB):List Int:=mW f.env++mW f.vals
def wI (o:aP):List Int:=mW o.vals++o.frames.flatMap zL
def T4 :List Nat:=[2,3,5,6]
def aGj (c0:Nat->Nat)(en en':En):Prop:= ∀n t g,(n≠0 \/t∉T4 \/g<c0 t)->en' ⟨n,t,g⟩=en ⟨n,t,g⟩
def bJt (c0:Nat->Nat)(en en':En):Prop:= ∀t g,t∈T4->c0 t<=g->en' ⟨0,t,g⟩=en ⟨0,t,g⟩
structure bRa (k:Key) (c0:Nat->Nat) (I:List Int->En->(Nat->Nat->Nat)->Prop) (F:En->(Nat->Nat->Nat)->Prop):Prop where
 stable: ∀r en cnt en' cnt',I r en cnt->aGj c0 en en'->(∀n t,t∉T4->cnt' n t=cnt n t)->(∀t∈T4,c0 t<=cnt' 0 t)->I r en' cnt'
 round: ∀x rest en cnt,I (x::rest) en cnt->WIn L (.yld k) [.i x] en cnt fun v en' cnt'=>bJt c0 en en'/\ (∀t∈T4,cnt' 0 t=cnt 0 t)/\ ((v= .bool true/\ I rest en' cnt') \/(v= .bool false/\ F en' cnt'))
variable {c0:Nat->Nat}
section
variable {k :Key}{I:List Int->En->(Nat->Nat->Nat)->Prop}{G:En->(Nat->Nat->Nat)->Prop}{a b:Nat}
end
variable {f:Nat}{y:List Val}
theorem bJu :Val.one (.fn f x y)=true:=(rfl)
theorem bDc :Val.cells (.fn f x y)=[.fn f x y]:=(rfl)
theorem aGj.trans {x y z:En}(h:aGj c0 x y)(h':aGj c0 y z):aGj c0 x z:=fun n t g k=>(h' n t g k).trans (h n t g k)
def bJv (sz:Nat):fR:={np:=2,res:=[.tmp 4],keep:=false,body:=(.seq (.ops [mC 4 (.i 0)]) (.seq (.seq (.ops [mT 6 0,lN 7 6,mC 8 (.i 0)]) (.block 0 (.loop (.seq (.ops [bN 9 .lss (.t 8) (.t 7)]) (.seq (.cond (.t 9) .skip (.exit 0)) (.seq (.block 1 (.seq (.ops [mT 10 8,mT 5 10]) (.seq (.ops [mT 11 1,mT 12 0,mT 13 5,iA 14 sz 12 13,lT 15 sz 14,o 16 (.call (.t 11) [(.t 15)])]) (.cond (.t 16) (.seq (.ops [mT 17 5,mT 4 17]) .ret) .skip)))) (.ops [bN 18 .add (.t 8) (cI 1),mT 8 18]))))))) (.seq (.ops [mC 4 (.i (-1))]) .ret)))}
def bH6 (f:Nat):fR:={np:=2,res:=[.tmp 4],keep:=false,body:=(.seq (.ops [mC 4 (.bool false)]) (.seq (.ops [mT 5 0,mT 6 1,cL 7 f [(.t 5),(.t 6)],bN 8 .geq (.t 7) (cI 0),mT 4 8]) .ret))}
variable {sz:Nat}
section
variable {α :Type}{enc E:α->Val}{f0 f1:Nat}
theorem bRb (hL:L f0=some (bJv sz))(hlen: ∀x,(enc x).cells.length=sz)(hE: ∀x,Val.agg (enc x).cells=E x)(l:List α)(h:Val)(p:α->Bool)(hl:Few l.length)(hc:hZ L E h p l):
  PC L f0 [.fz (l.map enc),h] (.i (idxOf p l 0)):=by
 have htk: ∀x,(enc x).cells.take sz=(enc x).cells:=fun x=>by rw[<-hlen x];exact bUf
 refine cD hL rfl rfl ?_
 simp only[go_sem,kK,bJv]
 refine bK (l.length) (fun k st=> ∃fr en cnt,st=⟨fr,en,cnt⟩/\ (fr 0= .fz (l.map enc))/\ (fr 1=h)/\ (fr 7= .i l.length)/\ (fr 8= .i k)/\ (idxOf p (l.drop k) k=idxOf p l 0)) 0 (bS4 _) (by refine⟨_,_,_,rfl,?_,?_,?_,?_,?_⟩<;>first|(simp only[go_sem];(try rfl);done)|rfl|simp) ?_
 rintro k st hk ⟨fr,en,cnt,rfl,h0,h1,h7,h8,hI⟩
 simp only[go_sem,kK,h7,h8]
 refine aG (fun hq=>?_) (fun hq=>?_)
 ·have h':k<l.length:=D_o hq;rw[bT2 h',idxOf]at hI;simp only[go_sem,h',hlen,htk,hE,bTw,bSx,if_true,bU2,beq_self_eq_true,h0,h1,h8]
  refine hc.call l[k] (bS7 _) _ _ ?_
  simp only[go_sem,kK]
  refine aG (fun hb=>?_) (fun hb=>?_)
  ·simp only[go_sem,kK];rw[hb,if_pos rfl]at hI;rw[<-hI]
  ·simp only[go_sem,h8];rw[hb]at hI
   simp at hI
   refine⟨_,_,_,rfl,?_⟩
   simp only[go_sem,h0,h1,h7,aR h' hl];exact hI
 ·have:k=l.length:=by simp at hq;omega
  subst this;simp only[go_sem];rw[<-hI];simp[idxOf]
theorem aMs (hL:L f1=some (bH6 f0))(h0:L f0=some (bJv sz))(hlen: ∀x,(enc x).cells.length=sz)(hE: ∀x,Val.agg (enc x).cells=E x)(l:List α)(h:Val)(p:α->Bool)(hl:Few l.length)(hc:hZ L E h p l):
  PC L f1 [.fz (l.map enc),h] (.bool (l.any p)):=by
 refine cD hL rfl rfl ?_
 simp only[go_sem,kK,bH6,hc.snap,hc.wk,(bRb h0 hlen hE l h p hl hc).ret];rw[<-aId p l 0]
end
def bM5 (n:Nat):fR:={np:=2,res:=[.tmp 3],keep:=false,body:=(.seq (.ops [bX 2 n 0,mC 3 (.bool false)]) (.seq (.ops [l1 4 1,lT 5 n 2,o 6 (.call (.t 4) [(.t 5)]),nT 7 6,mT 3 7]) .ret))}
def cEv (f g:Nat):fR:={np:=2,res:=[.tmp 4],keep:=false,body:=(.seq (.ops [bX 3 1 1,mC 4 (.bool false)]) (.seq (.ops [mT 5 0,o 6 (.mkfn f [] [(.t 3)]),cL 7 g [(.t 5),(.t 6)],nT 8 7,mT 4 8]) .ret))}
variable {g:Nat}{h:Val}
theorem aXc {α:Type}{enc E:α->Val}{k:Nat}{l:List α}{p:α->Bool}(hL:L f=some (cEv g k))(hS: ∀x en,snapD 8 en (E x)=some (E x,[])/\ (E x).wk1=E x)(hC: ∀x∈l,PC L g [E x,.fp [h] 0] (.bool (!p x)))(hF: ∀h p,hZ L E h p l->PC L k [.fz (l.map enc),h] (.bool (l.any p)))(hc:hZ L E h p l):
  PC L f [.fz (l.map enc),h] (.bool (l.all p)):=by
 have hd:hZ L E (.fn g [] [.fp [h] 0]) (fun x=>!p x) l:=by
  refine⟨fun n en hn=>?_,rfl,rfl,rfl,fun x hx en K hK=>?_⟩
  ·obtain⟨m,rfl⟩: ∃m,n=m+4:=⟨n-4,by omega⟩
   simp only[go_sem]
  ·simp only[go_sem,(hS x en).1,(hS x en).2,(hC x hx).ret];exact hK
 refine cD hL rfl rfl ?_
 simp only[go_sem,kK,cEv,aAs hc.one hc.cells,hc.snap,(hF _ _ hd).ret];rw[<-List.not_all_eq_any_not,Bool.not_not]
theorem aE6 {α:Type}{enc:α->Val}{cs:α->List Val}{k:Nat}{l:List α}{p:α->Bool}(hc:hZ L (fun x=> .agg (cs x)) h p l)(hF: ∀h p,hZ L (fun x=> .agg (cs x)) h p l->PC L k [.fz (l.map enc),h] (.bool (l.any p)))(hS: ∀x en,snapD 8 en (.agg (cs x))=some (.agg (cs x),[])/\ (Val.agg (cs x)).wk1= .agg (cs x))(hlen: ∀x,(cs x).length=sz)(hL:L f=some (cEv g k))(h1:L g=some (bM5 sz)):
  PC L f [.fz (l.map enc),h] (.bool (l.all p)):=by
 refine aXc hL hS (fun x hx=>?_) hF hc
 have htk:(cs x).take sz=cs x:=by rw[<-hlen x];exact bUf
 refine cD h1 rfl rfl ?_
 simp only[go_sem,kK,bM5,hlen,htk,bTw,bSx,if_true,bU2]
 refine hc.call x hx _ _ ?_
 simp only[go_sem]
theorem bAb (l:List dC)(h:Val)(p:dC->Bool)(hl:Few l.length)(hc:hZ L (fun x:dC=> .agg [.str x.name,.i x.args]) h p l):
  PC L 281 [.fz (l.map dC.enc),h] (.bool (l.any p)):=by
 refine aMs (sz:=2) (f0:=329) ?_ ?_ (fun _=>rfl) (fun _=>rfl) l h p hl hc
 ·have hLz:=at_ func281
  conv at hLz=>rhs;reduce
  exact hLz
 ·have hLz:=at_ func329
  conv at hLz=>rhs;reduce
  exact hLz
theorem xJ (l:List dC)(h:Val)(p:dC->Bool)(hl:Few l.length)(hc:hZ L (fun x:dC=> .agg [.str x.name,.i x.args]) h p l):
  PC L 224 [.fz (l.map dC.enc),h] (.bool (l.all p)):=by
 refine aE6 (sz:=2) (g:=282) hc (fun h p hc=>bAb l h p hl hc) (fun x _=>⟨rfl,rfl⟩) (fun _=>rfl) ?_ ?_
 ·have hLz:=at_ func224
  conv at hLz=>rhs;reduce
  exact hLz
 ·have hLz:=at_ func282
  conv at hLz=>rhs;reduce
  exact hLz
theorem aXd (l:List aL)(h:Val)(p:aL->Bool)(hl:Few l.length)(hc:hZ L (fun x:aL=> .agg [.i x.op,.i x.n,.fz (x.kids.map (.int .i64)),.fz (x.pats.map Pat.enc)]) h p l):
  PC L 284 [.fz (l.map aL.enc),h] (.bool (l.any p)):=by
 refine aMs (sz:=4) (f0:=331) ?_ ?_ (fun _=>rfl) (fun _=>rfl) l h p hl hc
 ·have hLz:=at_ func284
  conv at hLz=>rhs;reduce
  exact hLz
 ·have hLz:=at_ func331
  conv at hLz=>rhs;reduce
  exact hLz
theorem wJ (l:List aL)(h:Val)(p:aL->Bool)(hl:Few l.length)(hc:hZ L (fun x:aL=> .agg [.i x.op,.i x.n,.fz (x.kids.map (.int .i64)),.fz (x.pats.map Pat.enc)]) h p l):
  PC L 229 [.fz (l.map aL.enc),h] (.bool (l.all p)):=by
 refine aE6 (sz:=4) (g:=285) hc (fun h p hc=>aXd l h p hl hc) (fun x _=>⟨rfl,rfl⟩) (fun _=>rfl) ?_ ?_
 ·have hLz:=at_ func229
  conv at hLz=>rhs;reduce
  exact hLz
 ·have hLz:=at_ func285
  conv at hLz=>rhs;reduce
  exact hLz
theorem bDd (l:List Pat)(h:Val)(p:Pat->Bool)(hl:Few l.length)(hc:hZ L (fun x:Pat=> .agg [.i x.form,.i x.n,.str x.text,.fz (x.parts.map Pat.enc)]) h p l):
  PC L 333 [.fz (l.map Pat.enc),h] (.bool (l.any p)):=by
 refine aMs (sz:=4) (f0:=343) ?_ ?_ (fun x=>by cases x;rfl) (fun x=>by cases x;simp[Pat.enc,Pat.encL_map,Val.cells,Pat.form,Pat.n,Pat.text,Pat.parts]) l h p hl hc
 ·have hLz:=at_ func333
  conv at hLz=>rhs;reduce
  exact hLz
 ·have hLz:=at_ func343
  conv at hLz=>rhs;reduce
  exact hLz
theorem oW (l:List Pat)(h:Val)(p:Pat->Bool)(hl:Few l.length)(hc:hZ L (fun x:Pat=> .agg [.i x.form,.i x.n,.str x.text,.fz (x.parts.map Pat.enc)]) h p l):
  PC L 291 [.fz (l.map Pat.enc),h] (.bool (l.all p)):=by
 refine aE6 (sz:=4) (g:=334) hc (fun h p hc=>bDd l h p hl hc) (fun x _=>⟨rfl,rfl⟩) (fun _=>rfl) ?_ ?_
 ·have hLz:=at_ func291
  conv at hLz=>rhs;reduce
  exact hLz
 ·have hLz:=at_ func334
  conv at hLz=>rhs;reduce
  exact hLz
theorem bF9 (l:List Int)(h:Val)(p:Int->Bool)(hl:Few l.length)(hc:hZ L (fun x:Int=> .i x) h p l):
  PC L 335 [.fz (l.map (.int .i64)),h] (.i (idxOf p l 0)):=by
 refine pcA func335 ?_
 simp only[go_sem,kK]
 refine bK (l.length) (fun k st=> ∃fr en cnt,st=⟨fr,en,cnt⟩/\ (fr 0= .fz (l.map (.int .i64)))/\ (fr 1=h)/\ (fr 7= .i l.length)/\ (fr 8= .i k)/\ (idxOf p (l.drop k) k=idxOf p l 0)) 0 (bS4 _) (by refine⟨_,_,_,rfl,?_,?_,?_,?_,?_⟩<;>first|(simp only[go_sem];(try rfl);done)|rfl|simp) ?_
 rintro k st hk ⟨fr,en,cnt,rfl,h0,h1,h7,h8,hI⟩
 simp only[go_sem,kK,h7,h8]
 refine aG (fun hq=>?_) (fun hq=>?_)
 ·have h':k<l.length:=D_o hq;rw[bT2 h',idxOf]at hI;simp only[go_sem,h',h0,h1,h8]
  refine hc.call l[k] (bS7 _) _ _ ?_
  simp only[go_sem,kK]
  refine aG (fun hb=>?_) (fun hb=>?_)
  ·simp only[go_sem,kK];rw[hb,if_pos rfl]at hI;rw[<-hI]
  ·simp only[go_sem,h8];rw[hb]at hI
   simp at hI
   refine⟨_,_,_,rfl,?_⟩
   simp only[go_sem,h0,h1,h7,aR h' hl];exact hI
 ·have:k=l.length:=by simp at hq;omega
  subst this;simp only[go_sem];rw[<-hI];simp[idxOf]
theorem aUt (l:List Int)(h:Val)(p:Int->Bool)(hl:Few l.length)(hc:hZ L (fun x:Int=> .i x) h p l):
  PC L 292 [.fz (l.map (.int .i64)),h] (.bool (l.any p)):=by
 refine pcA func292 ?_
 simp only[go_sem,kK,hc.snap,hc.wk,(bF9 l h p hl hc).ret];rw[<-aId p l 0]
theorem aCl (l:List Int)(h:Val)(p:Int->Bool)(hc:hZ L (fun x:Int=> .i x) h p l)(x:Int)(hx:x∈l):
  PC L 293 [.i x,.fp [h] 0] (.bool (!p x)):=by
 refine pcA func293 ?_
 simp only[go_sem,kK]
 refine hc.call x hx _ _ ?_
 simp only[go_sem]
theorem aGk (l:List Int)(h:Val)(p:Int->Bool)(hl:Few l.length)(hc:hZ L (fun x:Int=> .i x) h p l):
  PC L 231 [.fz (l.map (.int .i64)),h] (.bool (l.all p)):=by
 refine aXc ?_ (fun _ _=>⟨rfl,rfl⟩) (aCl l h p hc) (fun h p hc=>aUt l h p hl hc) hc
 have hLz:=at_ func231
 conv at hLz=>rhs;reduce
 exact hLz
theorem mY (n lo hi:Int):PC L 223 [.i n,.i lo,.i hi] (.bool (inR n lo hi)):=by
 refine pcA func223 ?_
 simp only[go_sem,qW]
 refine bD (fun h=>?_) (fun h=>?_)<;>simp only[go_sem,h]<;>simp at h<;>simp[h,inR]
 omega
theorem aBq (n:Int):PC L 332 [.i n] (.bool (inR n (-1000000000) 1000000000)):=by
 refine pcA func332 ?_
 simp only[go_sem,kK,(mY _ _ _).ret]
theorem aO2 (s:ByteArray):PC L 330 [.str s] (.bool (pW (oC s))):=by
 refine pcA func330 ?_
 simp only[go_sem,kK]
 refine bK s.size (fun k st=> ∃fr en cnt,st=⟨fr,en,cnt⟩/\ fr 6= .it ⟨0,6,0⟩/\ en ⟨0,6,0⟩=some (.iter s k)/\ ((oC s).drop k).all lM=(oC s).all lM) 0 (bS4 _) ⟨_,_,_,rfl,by simp only[go_sem],by simp only[go_sem],rfl⟩ ?_
 rintro k st hk ⟨fr,en,cnt,rfl,h6,e6,hI⟩
 have hsz:=rJ s
 by_cases h':k<s.size
 ·have h'':k<(oC s).length:=by omega
  obtain⟨d1,d2⟩:=aRy h'';rw[gP h'']at hI;simp only[go_sem,kK,h6,e6,h'];cases hb:lM (oC s)[k]with
  |true=>
   have hd:=d1 hb;have hb2:=hb;simp only[lM,bSw,bWo]at hb2;have c1:decide ((((oC s)[k].toNat:Nat):Int)<97)=false:=by simp;omega
   have c2:decide ((122:Int)<(((oC s)[k].toNat:Nat):Int))=false:=by simp;omega
   simp only[go_sem,kK,hd,c1,c2]
   refine⟨_,_,_,rfl,?_⟩
   simp only[go_sem,h6];rw[<-hI,hb];simp
  |false=>
   have hd:=d2 hb;rw[hb]at hI;generalize (Utf8.decode s k).1=r at hd⊢
   refine aI (fun hc=>?_) (fun hc=>?_)
   ·simp at hc
    have c1:decide ((r:Int)<97)=false:=by simp;omega
    have c2:decide ((122:Int)<(r:Int))=true:=by simp;omega
    simp only[go_sem,kK,c1,c2];rw[pW,<-hI];rfl
   ·simp only[go_sem,kK,hc,bTf];rw[pW,<-hI];rfl
 ·have:k=s.size:=by omega
  subst this;simp only[go_sem,kK,h6,e6,bVg];rw[pW,<-hI,List.drop_eq_nil_of_le (by omega)];rfl
theorem bAc (s:ByteArray):(s.toList==(⟨#[]⟩:ByteArray).toList)=decide (s.size=0):=by
 rw[Go.ByteArray.toList_eq,Go.ByteArray.toList_eq];have:s.size=s.data.toList.length:=by rw[bVa];rfl
 rw[this];cases s.data.toList<;>rfl
theorem aO3 (s:ByteArray):PC L 283 [.str s] (.bool (aMi (oC s))):=by
 refine pcA func283 ?_
 simp only[go_sem,kK,bAc]
 refine aI (fun h=>?_) (fun h=>?_)
 ·have h':1<=s.size:=by
   have: ¬s.size=0:=by intro h0;rw[h0]at h;simp at h
   omega
  have h0:0<(oC s).length:=by rw[rJ];omega
  have hix:=fun(k:IntKind)=>aRx (k:=k) h0
  simp only[Int.natCast_zero]at hix;rw[aMr (rJ s) h0];simp only[go_sem,kK,h]
  refine aI (fun h1=>?_) (fun h1=>?_)<;>simp only[go_sem,kK,h1,hix]
  refine aI (fun h2=>?_) (fun h2=>?_)<;>simp only[go_sem,kK,h2,hix]
  refine aI (fun h3=>?_) (fun h3=>?_)<;>simp only[go_sem,kK,h3,aMq h',(aO2 _).ret,aP1]
  all_goals simp only[bWo,bWp,bS6]at*
  all_goals simp[*]
 ·have:s.size=0:=by
   by_cases h0:s.size=0
   ·exact h0
   ·simp only[h0,decide_false]at h;simp at h
  have e:oC s=[]:=by rw[<-bWi,rJ,this]
  simp only[go_sem,kK,h,bS6];rw[e];rfl
theorem aUu (c:dC):PC L 225 [.agg [.str c.name,.i c.args]] (.bool (xT c)):=by
 refine pcA func225 ?_
 simp only[go_sem,kK,(aO3 _).ret]
 refine aI (fun h=>?_) (fun h=>?_)<;>simp only[go_sem,kK,h,(mY _ _ _).ret]<;>simp[xT,h]
theorem xK (c:dC):PC L 228 [.agg [.str c.name,.i c.args]] (.str c.name):=by
 refine pcA func228 ?_
 simp only[go_sem,kK]
theorem xL (n:Int):PC L 232 [.i n] (.bool (decide (n=1))):=by
 refine pcA func232 ?_
 simp only[go_sem,kK]
theorem aR1 : ∀q:Pat,q.few-> ∀most:Int,0<=most->most<=1000->PC L 288 [.agg [.i q.form,.i q.n,.str q.text,.fz (q.parts.map Pat.enc)],.i most] (.i (uE q most)):=by
 refine Pat.ind fun q ih hq most h1 h2=>?_
 obtain⟨hl,_,hps⟩:=Pat.few_parts hq;rw[bDa]
 refine pcA func288 ?_
 simp only[go_sem,kK]
 refine bK q.parts.length (fun k st=> ∃fr en cnt a,st=⟨fr,en,cnt⟩/\ fr 1= .i most/\ fr 5= .i a/\ fr 9= .fz (q.parts.map Pat.enc)/\ fr 10= .i q.parts.length/\ fr 11= .i k/\ 1<=a/\ a<=most+1/\ mS (q.parts.drop k) most a=mS q.parts most 1) 0 (bS4 _) (by refine⟨_,_,_,1,rfl,?_,?_,?_,?_,?_,by omega,by omega,rfl⟩<;>simp only[go_sem]) ?_
 rintro k st hk ⟨fr,en,cnt,a,rfl,h1',h5,h9,h10,h11,ha,hb,hI⟩
 simp only[go_sem,kK,h10,h11]
 refine aG (fun hc=>?_) (fun hc=>?_)
 ·have h':k<q.parts.length:=D_o hc;rw[bT2 h',mS]at hI;have hm:q.parts[k]∈q.parts:=bS7 _;simp only[go_sem,kK,h',h1',h5,h9,h11]
  refine aG (fun hd=>?_) (fun hd=>?_)<;>simp only[bWo,bWp]at hd
  ·simp only[go_sem,h5];rw[if_pos hd]at hI;rw[hI]
  ·rw[if_neg hd]at hI;have e1:IntKind.i64.wrap (most-a)=most-a:=aV (by omega)
   have hz:=aMp q.parts[k] (most-a) (by omega)
   have e2:IntKind.i64.wrap (a+uE q.parts[k] (most-a))=a+uE q.parts[k] (most-a):=aV (by omega)
   simp only[go_sem,h1',h5,h11,e1,e2,(ih _ hm (hps _ hm) (most-a) (by omega) (by omega)).ret]
   refine⟨_,_,_,a+uE q.parts[k] (most-a),rfl,?_⟩
   simp only[go_sem,h1',h9,h10,aR h' hl];exact⟨by omega,by omega,hI⟩
 ·have:k=q.parts.length:=by simp at hc;omega
  subst this;simp only[go_sem,h5];rw[<-hI];simp[mS]
theorem aD4 (p:aD)(hc:Few p.cons.length): ∀q:Pat,q.few->PC L 289 [.agg p.cs,.agg [.i q.form,.i q.n,.str q.text,.fz (q.parts.map Pat.enc)]] (.bool (tG p.cons q)):=by
 refine Pat.ind fun q ih hq=>?_
 obtain⟨hl,_,hps⟩:=Pat.few_parts hq;have e:=eG hc;have ask:hZ L (fun x:Pat=> .agg [.i x.form,.i x.n,.str x.text,.fz (x.parts.map Pat.enc)]) (.fn 289 [.agg p.cs] []) (tG p.cons) q.parts:=by
  refine⟨fun n en hn=>?_,rfl,rfl,rfl,fun x hx en K hK=>?_⟩
  ·obtain⟨m,rfl⟩: ∃m,n=m+4:=⟨n-4,by omega⟩
   simp only[go_sem]
  ·simp only[go_sem,(ih x hx (hps x hx)).ret];exact hK
 rw[aMl]
 refine pcA func289 ?_
 simp only[go_sem,kK]
 refine aI (fun h=>?_) (fun h=>?_)
 ·simp only[go_sem,kK,h,(oW q.parts _ _ hl ask).ret];have ht:aIi q.text=true:=by simp only[aIi];simpa using h
  refine aG (fun h2=>?_) (fun h2=>?_)
  ·simp only[go_sem,kK]
   simp at h2
   simp[h2]
  ·have h3:q.parts.all (tG p.cons)=true:=by simpa using h2
   rw[h3];simp only[go_sem,kK]
   repeat' ((first|with_reducible refine aG (fun h=>?_) (fun h=>?_)|with_reducible refine aI (fun h=>?_) (fun h=>?_))<;>(try simp only[bWo,bWp,bS6]at h)<;>try simp only[go_sem,kK, *,(mY _ _ _).ret,(aBq _).ret,aIh])
   all_goals try simp[uL,zJ, *]
   all_goals try(intros;simp_all;done)
 ·simp only[go_sem,kK,h,bTf];have ht:aIi q.text=false:=by simp only[aIi];simpa using h
  simp[uL,ht]
end Go.Proofs.YtmafmhjndjmalaaGreat
namespace Go.Abs
def wK (lo hi:Int):List Int->List Int->Option (List Int)
 |u,[]=>some u
 |u,x::l=>if inR x lo hi then wK lo hi (u.set x.toNat (IntKind.i64.wrap (u.getD x.toNat 0+1))) l else none
def lH (p:aD):Nat->List Int->List aL->Option (List Int)
 |_,u,[]=>some u
 |i,u,n::l=>(wK ((i:Int)+1) (p.nodes.length-1) u n.kids).bind fun u=>lH p (i+1) u l
def aCm :Option (List Int)->Bool
 |some u=>u.all fun c=>decide (c=1)
 |none=>false
def aAy (p:aD):Bool:=
 decide ((p.nodes.length:Int)<=300)&&decide ((1:Int)<=p.funs.length)&&decide ((p.funs.length:Int)<=p.nodes.length)&&decide ((p.cons.length:Int)<=20)&&inR p.main 0 (p.funs.length-1)&&
  p.cons.all xT&&nF [] (p.cons.map dC.name)&&p.nodes.all (eS p)&&
  aCm ((wK 0 (p.nodes.length-1) (List.replicate p.nodes.length 0) p.funs).bind fun u=>lH p 0 u p.nodes)
def tJ (hi:Int):List Bool->List (Int×Int)->Option (List Bool)
 |u,[]=>some u
 |u,(lo,x)::l=>if inR x lo hi&&!(u.getD x.toNat false)then tJ hi (u.set x.toNat true) l else none
def rL (hi:Int):List Int->List (Int×Int)->Option (List Int)
 |u,[]=>some u
 |u,(lo,x)::l=>if inR x lo hi then rL hi (u.set x.toNat (IntKind.i64.wrap (u.getD x.toNat 0+1))) l else none
def lP :Nat->List aL->List (Int×Int)
 |_,[]=>[]
 |i,n::l=>n.kids.map (fun k=>((i:Int)+1,k))++lP (i+1) l
theorem aR2 (lo hi:Int): ∀(l:List Int) (u:List Bool),aCj lo hi u l=tJ hi u (l.map fun x=>(lo,x))
 |[],u=>rfl
 |x::l,u=>by simp only[aCj,bTv,tJ];split<;>first|exact aR2 lo hi l _|rfl
theorem aR3 (lo hi:Int): ∀(l:List Int) (u:List Int),wK lo hi u l=rL hi u (l.map fun x=>(lo,x))
 |[],u=>rfl
 |x::l,u=>by simp only[wK,bTv,rL];split<;>first|exact aR3 lo hi l _|rfl
theorem uM (hi:Int): ∀(a b:List (Int×Int)) (u:List Bool),tJ hi u (a++b)=(tJ hi u a).bind fun u=>tJ hi u b
 |[],b,u=>rfl
 |(lo,x)::a,b,u=>by simp only[bVh,tJ];split<;>first|exact uM hi a b _|rfl
theorem yM (hi:Int): ∀(a b:List (Int×Int)) (u:List Int),rL hi u (a++b)=(rL hi u a).bind fun u=>rL hi u b
 |[],b,u=>rfl
 |(lo,x)::a,b,u=>by simp only[bVh,rL];split<;>first|exact yM hi a b _|rfl
theorem aGl (p:aD): ∀(l:List aL) (i:Nat) (u:List Int),lH p i u l=rL (p.nodes.length-1) u (lP i l)
 |[],i,u=>rfl
 |n::l,i,u=>by
  simp only[lH,lP,yM,aR3]
  congr 1;funext u;exact aGl p l (i+1) u
theorem xV (p:aD): ∀(l:List aL) (i:Nat) (u:List Bool),lW p i u l=if l.all (eS p)=true then tJ (p.nodes.length-1) u (lP i l)else none
 |[],i,u=>rfl
 |n::l,i,u=>by
  simp only[lW,lP,uM,aR2,bVd,bSw]
  by_cases h:eS p n=true
  ·simp only[h,if_true,true_and];have ih:=fun u=>xV p l (i+1) u
   by_cases h2:l.all (eS p)=true
   ·simp only[h2,if_true]at ih⊢
    congr 1;funext u;exact ih u
   ·simp only[h2]at ih⊢;simp only[ih];cases tJ (↑p.nodes.length-1) u (List.map (fun k=>(↑i+1,k)) n.kids)<;>rfl
  ·simp only[h];rfl
theorem aMt {hi:Int}: ∀(evs:List (Int×Int)) (u:List Int) (i:Nat) (B:Int),i<u.length->2<=u.getD i 0->(∀c∈u,c<=B)->(∀c∈u,0<=c)->B+evs.length<=9223372036854775807->aCm (rL hi u evs)=false
 |[],u,i,B,h,h2,hB,h0,hM=>by
  simp only[rL,aCm];rw[<-bT9];intro ha;have:=bS5.1 ha u[i] (bS7 _);simp only[bSz,bTy h,bTq]at h2
  simp at this;omega
 |(lo,x)::evs,u,i,B,h,h2,hB,h0,hM=>by
  simp only[rL];split
  ·have hx:u.getD x.toNat 0<=B/\ 0<=u.getD x.toNat 0:=by
    rw[bSz];cases hg:u[x.toNat]? with
    |none=>
     have:=hB u[i] (bS7 _);have:=h0 u[i] (bS7 _)
     simp;omega
    |some c=>have:=List.mem_of_getElem? hg;simp;exact⟨hB c this,h0 c this⟩
   have hw:IntKind.i64.wrap (u.getD x.toNat 0+1)=u.getD x.toNat 0+1:=aV (by simp at hM;omega)
   rw[hw]
   refine aMt evs _ i (B+1) (by simpa using h) ?_ ?_ ?_ (by simp at hM;omega)
   ·rw[bSz,bVq];split
    ·rename_i e;subst e;simp only[h,if_true,bTq];omega
    ·rw[<-bSz];exact h2
   ·intro c hc;rcases bWl hc with hc|rfl
    ·have:=hB c hc;omega
    ·omega
   ·intro c hc;rcases bWl hc with hc|rfl
    ·exact h0 c hc
    ·omega
  ·rfl
theorem aXe {u:List Bool}{x:Nat}(h:x<u.length):(u.map fun b=>if b then(1:Int)else 0).getD x 0=if u.getD x false then 1 else 0:=by
 simp[bSz,h]
theorem aXf {hi:Int}(evs:List (Int×Int)): ∀(u:List Bool),(hi:Int)=u.length-1->(∀e∈evs,0<=e.1)->(evs.length:Int)<=1000000->
  aAv (tJ hi u evs)=aCm (rL hi (u.map fun b=>if b then 1 else 0) evs):=by
 induction evs with
 |nil=>
  intro u _ _ _;simp only[tJ,rL,aAv,aCm,List.all_map]
  congr 1
  funext b
  cases b<;>rfl
 |cons e evs ih=>
  obtain⟨lo,x⟩:=e;intro u hh hlo hM;simp only[tJ,rL];have hl:=hlo (lo,x) (by simp)
  simp only at hl
  have hM':(evs.length:Int)+1<=1000000:=by simpa using hM
  by_cases hx:inR x lo hi=true
  ·have hx':=hx;simp only[inR,bWo]at hx';have hlt:x.toNat<u.length:=by omega
   simp only[hx,bTo,if_true];rw[aXe hlt];cases hb:u.getD x.toNat false with
   |true=>
    simp only[bS6,bS0,if_false,if_true,aAv]
    symm
    have hw:IntKind.i64.wrap ((1:Int)+1)=2:=by rw[aV (by omega)];rfl
    rw[hw];have hbd: ∀c∈(u.map fun b=>if b then(1:Int)else 0).set x.toNat 2,0<=c/\ c<=2:=by
     intro c hc;rcases bWl hc with hc|rfl
     ·obtain⟨b,_,rfl⟩:=bTu.1 hc;split<;>omega
     ·omega
    exact aMt evs _ x.toNat 2 (by simpa using hlt) (by simp[bSz,hlt]) (fun c hc=>(hbd c hc).2) (fun c hc=>(hbd c hc).1) (by omega)
   |false=>
    simp only[bTf,if_true,bS0,if_false];have hw:IntKind.i64.wrap ((0:Int)+1)=1:=by rw[aV (by omega)];rfl
    rw[hw,ih (u.set x.toNat true) (by simpa using hh) (fun e he=>hlo e (by simp[he])) (by omega),bVe]
    rfl
  ·simp only[bT9]at hx;simp only[hx,bTk,bS0,if_false,aAv,aCm]
theorem aMu : ∀(l:List aL) (i:Nat),∀e∈lP i l,0<=e.1
 |[],i,e,h=>by simp[lP]at h
 |n::l,i,e,h=>by
  simp only[lP,bTn,bTu]at h;rcases h with⟨k,_,rfl⟩|h
  ·simp only;omega
  ·exact aMu l (i+1) e h
theorem aJr : ∀(l:List aL) (i:Nat),(∀n∈l,n.kids.length<=10)->(lP i l).length<=10*l.length
 |[],i,_=>by simp[lP]
 |n::l,i,h=>by
  have:=aJr l (i+1) fun m hm=>h m (by simp[hm])
  have h2:=h n (by simp)
  simp only[lP,bTg,bSy,bS8];omega
theorem aUv (p:aD)(hs:aU p=true):aAy p=fJ p:=by
 simp only[aU,bSw,bWo]at hs;obtain⟨⟨⟨⟨h1,h2⟩,h3⟩,h4⟩,h5⟩:=hs;have hk: ∀n∈p.nodes,n.kids.length<=10:=by
  intro n hn;have:=bS5.1 h5 n hn;simp only[gQ,bSw,bWo]at this;omega
 have key:p.nodes.all (eS p)=true->aAv ((aCj 0 (p.nodes.length-1) (List.replicate p.nodes.length false) p.funs).bind fun u=>lW p 0 u p.nodes)=
   aCm ((wK 0 (p.nodes.length-1) (List.replicate p.nodes.length 0) p.funs).bind fun u=>lH p 0 u p.nodes):=by
  intro hn;simp only[aR2,aR3,xV,aGl,hn,if_true];rw[<-uM,<-yM];have:=aXf (hi:=(p.nodes.length:Int)-1) (List.map (fun x=>((0:Int),x)) p.funs++lP 0 p.nodes) (List.replicate p.nodes.length false) (by simp) (fun e he=>by
   rcases bTn.1 he with he|he
   ·obtain⟨x,_,rfl⟩:=bTu.1 he;simp
   ·exact aMu _ _ _ he) (by
   have:=aJr p.nodes 0 hk
   simp;omega)
  rw[this];simp[List.map_replicate]
 have none_:p.nodes.all (eS p)=false->aAv ((aCj 0 (p.nodes.length-1) (List.replicate p.nodes.length false) p.funs).bind fun u=>lW p 0 u p.nodes)=false:=by
  intro hn;simp only[xV,hn,bS0,if_false];cases aCj 0 (↑p.nodes.length-1) (List.replicate p.nodes.length false) p.funs<;>rfl
 have e1:inR p.funs.length 1 p.nodes.length=(decide ((1:Int)<=p.funs.length)&&decide ((p.funs.length:Int)<=p.nodes.length)):=by simp[inR]
 simp only[aAy,fJ,aAu,e1];cases hn:p.nodes.all (eS p)with
 |true=>rw[key hn];simp only[bUc,Bool.and_assoc];ac_rfl
 |false=>rw[none_ hn];simp
end Go.Abs
namespace Go.Proofs.YtmafmhjndjmalaaGreat
open Go.Abs Go.Proofs Tryz
set_option maxRecDepth 100000
set_option maxHeartbeats 4000000
variable {t:Nat}{v:Val}
theorem aR4 :cW .eql .iface (.ifc t v) .nili=some (.bool false):=(rfl)
theorem bGa :cW .eql .iface .nili .nili=some (.bool true):=(rfl)
theorem rM (op:Int):PC L 286 [.i op] (aAw op):=by
 refine pcA func286 ?_
 simp only[go_sem,kK]
 repeat' ((first|with_reducible refine aG (fun h=>?_) (fun h=>?_)|with_reducible refine aI (fun h=>?_) (fun h=>?_))<;>(try simp only[bWo,bWp]at h)<;>try simp only[go_sem,kK,h])
 all_goals simp[aAw, *]
theorem aE7 (c:Int)(p:aD)(n:aL):PC L 375 [.i c,.agg p.cs,.agg [.i n.op,.i n.n,.fz (n.kids.map (.int .i64)),.fz (n.pats.map Pat.enc)]] (.bool (decide ((n.kids.length:Int)=c))):=by
 refine pcA func375 ?_
 simp only[go_sem,kK]
theorem aCn (p:aD)(n:aL)(hn:n.pats.length<=1000):PC L 374 [.agg [],.agg p.cs,.agg [.i n.op,.i n.n,.fz (n.kids.map (.int .i64)),.fz (n.pats.map Pat.enc)]] (.bool (inR n.pats.length 1 5&&decide ((n.kids.length:Int)=1+n.pats.length))):=by
 have e:IntKind.i64.wrap (1+(n.pats.length:Int))=1+n.pats.length:=aV (by omega)
 refine pcA func374 ?_
 simp only[go_sem,kK,(mY _ _ _).ret]
 refine aI (fun h=>?_) (fun h=>?_)<;>simp only[go_sem,kK,h,e]<;>simp[h]
theorem aE8 (p:aD)(n:aL)(hc:Few p.cons.length):PC L 376 [.agg [],.agg p.cs,.agg [.i n.op,.i n.n,.fz (n.kids.map (.int .i64)),.fz (n.pats.map Pat.enc)]] (.bool (inR n.n 0 (p.cons.length-1)&&decide ((n.kids.length:Int)=(p.cons.getD n.n.toNat default).args))):=by
 refine pcA func376 ?_
 simp only[go_sem,kK,(mY _ _ _).ret,eG hc]
 refine aI (fun h=>?_) (fun h=>?_)<;>simp only[go_sem,kK,h,aIh]<;>simp[h]
def aXg (p:aD)(n:aL):Bool:=if n.op=14 then true else oV p n
theorem aAz (p:aD)(n:aL)(hp:p.few):PC L 290 [.agg p.cs,.agg [.i n.op,.i n.n,.fz (n.kids.map (.int .i64)),.fz (n.pats.map Pat.enc)]] (.bool (aXg p n)):=by
 have e1:IntKind.i64.wrap (0-(p.funs.length:Int))= -(p.funs.length:Int):=by have:=hp.funs;unfold Few at this;rw[aV (by omega)];omega
 refine pcA func290 ?_
 simp only[go_sem,kK]
 repeat' ((first|with_reducible refine aG (fun h=>?_) (fun h=>?_)|with_reducible refine aI (fun h=>?_) (fun h=>?_))<;>(try simp only[bWo,bWp]at h)<;>try simp only[go_sem,kK,h,e1,(mY _ _ _).ret,(aBq _).ret])
 all_goals simp[aXg,oV, *]
theorem zM (p:aD)(hc:Few p.cons.length)(q:Pat)(hq:q.few):PC L 287 [.agg [.i q.form,.i q.n,.str q.text,.fz (q.parts.map Pat.enc)],.fp p.cells 0] (.bool (nV p.cons q)):=by
 refine pcA func287 ?_
 simp only[go_sem,kK,(aR1 q hq 12 (by omega) (by omega)).ret,bDb]
 refine aI (fun h=>?_) (fun h=>?_)<;>simp only[go_sem,kK,h,(aD4 p hc q hq).ret]<;>simp at h<;>simp[nV,h]
 intros;omega
theorem aCo (p:aD)(n:aL)(hp:p.few)(hn:n.few)(hm:n.pats.length<=1000):PC L 230 [.agg p.cs,.agg [.i n.op,.i n.n,.fz (n.kids.map (.int .i64)),.fz (n.pats.map Pat.enc)]] (.bool (eS p n)):=by
 have ask:hZ L (fun x:Pat=> .agg [.i x.form,.i x.n,.str x.text,.fz (x.parts.map Pat.enc)]) (.fn 287 [] [.fp p.cells 0]) (nV p.cons) n.pats:=by
  refine⟨fun n en hn=>?_,rfl,rfl,rfl,fun x hx en K hK=>?_⟩
  ·obtain⟨m,rfl⟩: ∃m,n=m+4:=⟨n-4,by omega⟩
   simp only[go_sem]
  ·have:=zM p hp.cons x (hn.pat x hx);simp only[go_sem]at this;simp only[go_sem,this.ret];exact hK
 have hev:=oW n.pats _ _ hn.pats ask;simp only[go_sem]at hev;have hnum:=aAz p n hp
 refine pcA func230 ?_
 rcases aO0 n.op with⟨c,hk,hko,h14,h15⟩|⟨h14,hk⟩|⟨h15,hk⟩|⟨hk,hko,h14,h15⟩
 ·simp only[go_sem,kK,(rM _).ret,hk,aR4]
  refine aG (fun h=>?_) (fun h=>?_)
  ·simp only[go_sem,kK]
   simp at h
   simp[eS,mR,h15];intros;simp_all
  ·simp only[go_sem,kK,(aE7 c p n).ret]
   simp at h
   refine aI (fun h2=>?_) (fun h2=>?_)
   ·simp only[go_sem,kK,h2,hnum.ret]
    refine aI (fun h3=>?_) (fun h3=>?_)
    ·simp only[go_sem,kK,h3,hev.ret];simp[aXg,h14]at h2 h3;simp[eS,mR,h15,h,hko,h2,h3]
    ·simp only[go_sem,kK,h3];simp[aXg,h14]at h3;simp[eS,h3]
   ·simp only[go_sem,kK,h2]
    simp at h2
    simp[eS,hko,h2]
 ·simp only[go_sem,kK,(rM _).ret,hk,aR4]
  refine aG (fun h=>?_) (fun h=>?_)
  ·simp only[go_sem,kK]
   simp at h
   simp[eS,mR,h14];intros;simp_all
  ·simp only[go_sem,kK,(aE8 p n hp.cons).ret]
   simp at h
   refine aI (fun h2=>?_) (fun h2=>?_)
   ·simp only[go_sem,kK,h2,hnum.ret]
    refine aI (fun h3=>?_) (fun h3=>?_)
    ·simp only[go_sem,kK,h3,hev.ret]
     simp at h2
     simp[eS,mR,oV,fP,pX,h14,h,h2]
    ·simp only[go_sem,kK,h3];simp[aXg,h14]at h3
   ·simp only[go_sem,kK,h2]
    simp at h2
    simp[eS,mR,oV,fP,pX,h14,h];intros;simp_all
 ·simp only[go_sem,kK,(rM _).ret,hk,aR4];simp only[go_sem,kK,(aCn p n hm).ret]
  refine aI (fun h2=>?_) (fun h2=>?_)
  ·simp only[go_sem,kK,h2,hnum.ret]
   refine aI (fun h3=>?_) (fun h3=>?_)
   ·simp only[go_sem,kK,h3,hev.ret];simp[aXg,h15]at h2 h3;simp[eS,mR,fP,h15,h2,h3]
   ·simp only[go_sem,kK,h3];simp[aXg,h15]at h3;simp[eS,h3]
  ·simp only[go_sem,kK,h2]
   simp at h2
   simp[eS,mR,fP,h15];intros;simp_all
 ·simp only[go_sem,kK,(rM _).ret,hk,bGa];simp[eS,hko]
theorem aMv (l:List ByteArray)(hl:Few l.length):PC L 226 [.fz (l.map .str)] (.bool (nF [] l)):=by
 refine pcA func226 ?_
 simp only[go_sem,kK]
 refine bK l.length (fun k st=> ∃fr en cnt ks vs,st=⟨fr,en,cnt⟩/\ fr 0= .fz (l.map .str)/\ fr 3= .mp ⟨0,6,0⟩/\ fr 7= .fz (l.map .str)/\ fr 8= .i l.length/\ fr 9= .i k/\ en ⟨0,6,0⟩=some (.map (List.map Val.str ks) vs false)/\ (l.drop k).foldl yL ks=l.foldl yL []) 0 (bS4 _) (by refine⟨_,_,_,[],[],rfl,?_,?_,?_,?_,?_,?_,rfl⟩<;>simp only[go_sem]) ?_
 rintro k st hk ⟨fr,en,cnt,ks,vs,rfl,h0,h3,h7,h8,h9,e6,hI⟩
 simp only[go_sem,kK,h8,h9]
 refine aG (fun hq=>?_) (fun hq=>?_)
 ·have h':k<l.length:=D_o hq;rw[bT2 h',bVc,yL]at hI;rcases aJp l[k] ks with⟨i,f1,f2,f3⟩|⟨f1,f2⟩
  ·rw[f2]at hI;simp only[go_sem,h',h3,h7,h9,e6,f1,f3]
   refine⟨_,_,_,ks,vs.set i (.bool true),rfl,?_⟩
   simp only[go_sem,h0,h3,h7,h8,aR h' hl]
   simpa using hI
  ·rw[f2]at hI;simp only[go_sem,h',h3,h7,h9,e6,f1]
   refine⟨_,_,_,ks++[l[k]],vs++[.bool true],rfl,?_⟩
   simp only[go_sem,h0,h3,h7,h8,aR h' hl]
   refine⟨by simp,?_⟩
   simpa using hI
 ·have:k=l.length:=by simp at hq;omega
  subst this;simp only[bUo,bVj]at hI;simp only[go_sem,h0,h3,e6];have:=aGi l [];rw[<-this,<-hI];simp
variable {en:En}{size:Nat}{xs:List Val}
theorem aUw {D:List Nat}(h:cX en v size xs D): ∃r ks,snapD 8 en v=some (r,ks)/\ r.wk= .fz xs/\ r.wk1= .fz xs:=by
 obtain⟨r,ks,h1,_,h2,h3,_⟩:=h.snap 7;exact⟨r,ks,h1,h3,h2⟩
theorem aMw (l:List dC)(hl:l.length<=1000):PC L 227 [.fz (l.map dC.enc),.fn 228 [] []] (.fz (l.map fun c=> .str c.name)):=by
 have hf:Few l.length:=by unfold Few;omega
 refine pcA func227 ?_
 simp only[go_sem,kK]
 refine bK l.length (fun k st=> ∃fr en cnt,st=⟨fr,en,cnt⟩/\ fr 1= .fn 228 [] []/\ fr 8= .fz (l.map dC.enc)/\ fr 9= .i l.length/\ fr 10= .i k/\ cX en (fr 5) 1 ((l.take k).map fun c=> .str c.name) [19]) 0 (bS4 _) (by refine⟨_,_,_,rfl,?_,?_,?_,?_,by simp only[go_sem];exact cX.nil _ _⟩<;>simp only[go_sem]) ?_
 rintro k st hk ⟨fr,en,cnt,rfl,h1,h8,h9,h10,h5⟩
 simp only[go_sem,kK,h9,h10]
 refine aG (fun hq=>?_) (fun hq=>?_)
 ·have h':k<l.length:=D_o hq;simp only[go_sem,h',h1,h8,h10,(xK _).ret]
  refine jO (D:=[19]) (xs:=(l.take k).map fun c=>Val.str c.name) (ys:=[.str l[k].name]) (rs:=[]) ?_ ?_ ?_ ?_ ?_
  ·simp only[go_sem];exact h5.keep fun t g ht=>by simp at ht;subst ht;simp only[go_sem]
  ·simp only[go_sem]
  ·rfl
  ·simp;omega
  ·intro v en' cnt' hown hen hcnt;simp only[go_sem,h10]
   refine⟨_,_,_,rfl,?_⟩
   simp only[go_sem,h1,h8,h9,aR h' hf];exact cX.sub (by rw[iG h',bT0];exact hown) (by simp)
 ·have:k=l.length:=by simp at hq;omega
  subst this;rw[bUf]at h5;simp only[go_sem];obtain⟨r,ks,e1,e2,_⟩:=aUw h5;simp only[go_sem,e1,e2]
variable {n:Nat}
theorem aUx {u:List Int}{x:Int}(hu:u.length=n)(h:inR x 0 ((n:Int)-1)=true):0<=x/\ x<(n:Int)/\ (u.map (Val.int .i64))[x.toNat]?=some (.i (u.getD x.toNat 0)):=by
 simp only[inR,bWo]at h;have hx:x.toNat<u.length:=by omega
 exact⟨by omega,by omega,by simp[bSz,hx]⟩
theorem aA0 (p:aD)(hp:p.few)(hs:p.cons.length<=1000)(hm: ∀n∈p.nodes,n.pats.length<=1000):PC L 195 [.agg p.cs] (.bool (aAy p)):=by
 have w1:=eG hp.nodes;have w2:=eG hp.funs;have ask1:hZ L (fun x:dC=> .agg [.str x.name,.i x.args]) (.fn 225 [] []) xT p.cons:=by
  refine⟨fun n en hn=>?_,rfl,rfl,rfl,fun x hx en K hK=>?_⟩
  ·obtain⟨m,rfl⟩: ∃m,n=m+4:=⟨n-4,by omega⟩
   simp only[go_sem]
  ·simp only[go_sem,(aUu x).ret];exact hK
 have ask2:hZ L (fun x:aL=> .agg [.i x.op,.i x.n,.fz (x.kids.map (.int .i64)),.fz (x.pats.map Pat.enc)]) (.fn 230 [.agg p.cs] []) (eS p) p.nodes:=by
  refine⟨fun n en hn=>?_,rfl,rfl,rfl,fun x hx en K hK=>?_⟩
  ·obtain⟨m,rfl⟩: ∃m,n=m+4:=⟨n-4,by omega⟩
   simp only[go_sem]
  ·simp only[go_sem,(aCo p x hp (hp.node x hx) (hm x hx)).ret];exact hK
 have hd:=aMv (p.cons.map dC.name) (by simpa using hp.cons)
 rw[show(p.cons.map dC.name).map Val.str=p.cons.map fun c=>Val.str c.name by simp]at hd
 refine pcA func195 ?_
 simp only[go_sem,kK]
 repeat' ((first|with_reducible refine aG (fun h=>?_) (fun h=>?_)|with_reducible refine aI (fun h=>?_) (fun h=>?_))<;>(try simp only[bWo,bWp,bTf]at h)<;>try simp only[go_sem,kK, *,(mY _ _ _).ret,(xJ _ _ _ hp.cons ask1).ret,(aMw _ hs).ret,hd.ret,(wJ _ _ _ hp.nodes ask2).ret])
 all_goals (try simp only[bUb,Bool.not_eq_false',bUe]at*)
 all_goals try(simp[aAy, *];done)
 all_goals try(simp[aAy, *];intros;omega)
 have hn:p.nodes.length<=16777216:=by omega
 have hfo:aAy p=aCm ((wK 0 (p.nodes.length-1) (List.replicate p.nodes.length 0) p.funs).bind fun u=>lH p 0 u p.nodes):=by
  simp[aAy, *];intros;omega
 rw[hfo];clear hfo;simp only[go_sem,bCy hn]
 refine bK p.funs.length (fun k st=> ∃fr en cnt u,st=⟨fr,en,cnt⟩/\ (fr 1= .ptr ⟨0,1,0⟩ 0/\ en ⟨0,1,0⟩=some (.box p.cells false)/\ fr 3= .i p.nodes.length/\ fr 4= .bl ⟨0,74,0⟩ 0 p.nodes.length/\ en ⟨0,74,0⟩=some (.blk 1 (u.map (Val.int .i64)) false)/\ u.length=p.nodes.length)/\ fr 77= .is p.funs/\ fr 78= .i p.funs.length/\ fr 79= .i k/\ wK 0 (p.nodes.length-1) u (p.funs.drop k)=wK 0 (p.nodes.length-1) (List.replicate p.nodes.length 0) p.funs) 0 (bS4 _) (by refine⟨_,_,_,List.replicate p.nodes.length 0,rfl,⟨by simp only[go_sem],by simp only[go_sem],by simp only[go_sem],by simp only[go_sem],by simp only[go_sem,List.map_replicate],by simp⟩,?_,?_,?_,rfl⟩<;>simp only[go_sem]) ?_
 rintro k st hk ⟨fr,en,cnt,u,rfl,⟨h1,e1,h3,h4,eu,hu⟩,h77,h78,h79,hI⟩
 simp only[go_sem,kK,h78,h79]
 refine aG (fun hq=>?_) (fun hq=>?_)
 ·have h':k<p.funs.length:=D_o hq;rw[bT2 h',wK]at hI;simp only[go_sem,kK,h',h3,h77,h79,(mY _ _ _).ret,w1]
  refine aG (fun hb=>?_) (fun hb=>?_)
  ·simp only[go_sem,kK]
   simp at hb
   rw[hb]at hI
   simp at hI
   rw[<-hI];rfl
  ·simp at hb
   obtain⟨a1,a2,a3⟩:=aUx hu hb;rw[hb]at hI
   simp at hI
   simp only[go_sem,h4,eu,h79,a1,a2,a3]
   refine⟨_,_,_,u.set p.funs[k].toNat (IntKind.i64.wrap (u.getD p.funs[k].toNat 0+1)),rfl,?_⟩
   simp only[go_sem,h1,e1,h3,h4,h77,h78,<-bVe,aR h' hp.funs];exact⟨by simp[hu],by simpa using hI⟩
 ·have:k=p.funs.length:=by simp at hq;omega
  subst this;rw[bUo,wK]at hI;rw[<-hI];simp only[bVt];clear hq hI hk;generalize hM:lH p 0 u p.nodes=M;simp only[go_sem,h1,e1]
  refine bK p.nodes.length (fun k st=> ∃fr en cnt u,st=⟨fr,en,cnt⟩/\ (fr 1= .ptr ⟨0,1,0⟩ 0/\ en ⟨0,1,0⟩=some (.box p.cells false)/\ fr 3= .i p.nodes.length/\ fr 4= .bl ⟨0,74,0⟩ 0 p.nodes.length/\ en ⟨0,74,0⟩=some (.blk 1 (u.map (Val.int .i64)) false)/\ u.length=p.nodes.length)/\ fr 97= .fz (p.nodes.map aL.enc)/\ fr 98= .i p.nodes.length/\ fr 99= .i k/\ lH p k u (p.nodes.drop k)=M) 0 (bS4 _) (by refine⟨_,_,_,u,rfl,⟨by simp only[go_sem,h1],by simp only[go_sem,e1],by simp only[go_sem,h3],by simp only[go_sem,h4],by simp only[go_sem,eu],hu⟩,?_,?_,?_,hM⟩<;>simp only[go_sem]) ?_
  clear hM h1 e1 h3 h4 eu hu h77 h78 h79
  rintro k st hk ⟨fr,en,cnt,u,rfl,⟨h1,e1,h3,h4,eu,hu⟩,h97,h98,h99,hI⟩
  simp only[go_sem,kK,h98,h99]
  refine aG (fun hq=>?_) (fun hq=>?_)
  ·have h':k<p.nodes.length:=D_o hq;have hx:=hp.node p.nodes[k] (bS7 _);rw[bT2 h',lH]at hI;generalize hmm:wK ((k:Int)+1) (p.nodes.length-1) u p.nodes[k].kids=m at hI;simp only[go_sem,h',h97,h99]
   refine bK p.nodes[k].kids.length (fun j st=> ∃fr en cnt u,st=⟨fr,en,cnt⟩/\ (fr 1= .ptr ⟨0,1,0⟩ 0/\ en ⟨0,1,0⟩=some (.box p.cells false)/\ fr 3= .i p.nodes.length/\ fr 4= .bl ⟨0,74,0⟩ 0 p.nodes.length/\ en ⟨0,74,0⟩=some (.blk 1 (u.map (Val.int .i64)) false)/\ u.length=p.nodes.length)/\ fr 7= .i k/\ fr 97= .fz (p.nodes.map aL.enc)/\ fr 98= .i p.nodes.length/\ fr 99= .i k/\ fr 105= .is p.nodes[k].kids/\ fr 106= .i p.nodes[k].kids.length/\ fr 107= .i j/\ wK ((k:Int)+1) (p.nodes.length-1) u (p.nodes[k].kids.drop j)=m) 0 (bS4 _) ⟨_,_,_,u,rfl,⟨by simp only[go_sem,h1],by simp only[go_sem,e1],by simp only[go_sem,h3],by simp only[go_sem,h4],by simp only[go_sem,eu],hu⟩,by simp only[go_sem],by simp only[go_sem,h97],by simp only[go_sem,h98],by simp only[go_sem,h99],by simp only[go_sem],by simp only[go_sem],by simp only[go_sem],hmm⟩ ?_
   clear hmm h1 e1 h3 h4 eu hu h97 h98 h99
   rintro j st hj ⟨fr,en,cnt,u,rfl,⟨h1,e1,h3,h4,eu,hu⟩,h7,h97,h98,h99,h105,h106,h107,hJ⟩
   simp only[go_sem,kK,h106,h107]
   refine aG (fun h2=>?_) (fun h2=>?_)
   ·have h2':j<p.nodes[k].kids.length:=D_o h2;rw[bT2 h2',wK]at hJ;have w3:IntKind.i64.wrap ((k:Int)+1)=(k:Int)+1:=aV (by omega)
    simp only[go_sem,kK,h2',h3,h7,h105,h107,(mY _ _ _).ret,w1,w3]
    refine aG (fun hc=>?_) (fun hc=>?_)
    ·simp only[go_sem,kK]
     simp at hc
     rw[hc]at hJ
     simp at hJ
     rw[<-hI,<-hJ];rfl
    ·simp at hc
     have hc0:inR p.nodes[k].kids[j] 0 ((p.nodes.length:Int)-1)=true:=by simp[inR]at hc⊢;omega
     obtain⟨a1,a2,a3⟩:=aUx hu hc0;rw[hc]at hJ
     simp at hJ
     simp only[go_sem,h4,eu,h107,a1,a2,a3]
     refine⟨_,_,_,u.set p.nodes[k].kids[j].toNat (IntKind.i64.wrap (u.getD p.nodes[k].kids[j].toNat 0+1)),rfl,?_⟩
     simp only[go_sem,h1,e1,h3,h4,h7,h97,h98,h99,h105,h106,<-bVe,aR h2' hx.kids];exact⟨by simp[hu],by simpa using hJ⟩
   ·have:j=p.nodes[k].kids.length:=by simp at h2;omega
    subst this;rw[bUo,wK]at hJ;rw[<-hJ]at hI;simp only[bVt]at hI;simp only[go_sem,h4,eu,h99]
    refine⟨_,_,_,u,rfl,?_⟩
    simp only[go_sem,h1,e1,h3,h4,eu,h97,h98,hu,aR h' hp.nodes];exact hI
  ·have:k=p.nodes.length:=by simp at hq;omega
   subst this;rw[bUo,lH]at hI;rw[<-hI];have ask3:hZ L (fun x:Int=> .i x) (.fn 232 [] []) (fun c=>decide (c=1)) u:=by
    refine⟨fun n en hn=>?_,rfl,rfl,rfl,fun x hx en K hK=>?_⟩
    ·obtain⟨m,rfl⟩: ∃m,n=m+4:=⟨n-4,by omega⟩
     simp only[go_sem]
    ·simp only[go_sem,(xL x).ret];exact hK
   have ht:List.take p.nodes.length (u.map (Val.int .i64))=u.map (Val.int .i64):=bTh (by simp[hu])
   simp only[go_sem,h4,eu,hu,bSx,ht,(aGk u _ _ (by rw[hu];exact hp.nodes) ask3).ret]
   rfl
theorem yN (p:aD)(hp:p.few)(hs:aU p=true):PC L 165 [.agg p.cs] (.i (if fJ p then 0 else 2)):=by
 have hs':=hs;simp only[aU,bSw,bWo]at hs';obtain⟨⟨⟨⟨h1,h2⟩,h3⟩,h4⟩,h5⟩:=hs';have hm: ∀n∈p.nodes,n.pats.length<=1000:=by
  intro n hn;have:=bS5.1 h5 n hn;simp only[gQ,bSw,bWo]at this;omega
 have h:=aA0 p hp (by omega) hm
 rw[aUv p hs]at h
 refine pcA func165 ?_
 simp only[go_sem,kK,h.ret];cases hf:fJ p<;>simp only[go_sem,kK,bS6,bTf]
def aGm (out:List Int)(v:aE):List Int:=if(aJq v&&!out.any (fun x=>decide (x=v.n)))=true then out++[v.n]else out
def aJs (out:List Int)(l:List aE):List Int:=l.foldl aGm out
def bDe (o:aP):List Int:=o.frames.foldl (fun out f=>aJs (aJs out f.env) f.vals) (aJs [] o.vals)
theorem aP4 {o:aP}(hs:iB o=true):o.vals.length<=40/\ o.frames.length<=50/\ ∀f∈o.frames,f.env.length<=40/\ f.vals.length<=40:=by
 simp only[iB,bSw,bWo,bS5]at hs
 refine⟨by omega,by omega,fun f hf=>?_⟩
 have:=hs.2 f hf;omega
theorem aR5 (out:List Int)(v:aE)(x:Int):x∈aGm out v↔x∈out \/(aJq v=true/\ x=v.n):=by
 unfold aGm;split
 ·rename_i h;simp only[bSw]at h;simp[h.1]
 ·rename_i h;constructor
  ·exact .inl
  ·rintro(h2|⟨h2,rfl⟩)
   ·exact h2
   ·rw[h2,bTo]at h;simp only[bUb,Bool.not_eq_false]at h;obtain⟨y,hy,e⟩:=bVv.1 h;rw[<-D_o e];exact hy
theorem aDq (x:Int): ∀(l:List aE) (out:List Int),x∈aJs out l↔x∈out \/x∈mW l
 |[],out=>by simp[aJs,mW]
 |v::l,out=>by
  have:=aDq x l (aGm out v);simp only[aJs,bVc]at this⊢;rw[this,aR5]
  by_cases h:aJq v=true
  ·rw[aZ9 h];simp[h,or_assoc]
  ·rw[bAa (by simpa using h)];simp[h]
theorem aMx (x:Int): ∀(l:List aB) (out:List Int),x∈l.foldl (fun out f=>aJs (aJs out f.env) f.vals) out↔x∈out \/x∈l.flatMap zL
 |[],out=>by simp
 |f::l,out=>by
  simp only[bVc];rw[aMx x l,aDq,aDq];simp[zL,or_assoc]
theorem aMy (o:aP)(x:Int):x∈bDe o↔x∈wI o:=by
 unfold bDe wI;rw[aMx,aDq];simp
variable {p:aD}{w:aA}
theorem aR6 {l:List aE}{m:Int}(h:bC p w l m=true): ∀x∈mW l,inR x 0 (w.objs.length-1)=true:=by
 intro x hx;simp only[bC,bSw,bS5]at h;simp only[mW,bTu,bUl]at hx;obtain⟨v,⟨hv,hr⟩,rfl⟩:=hx;have h5:v.kind=5:=D_o hr;have:=h.2 v hv
 simpa[dR,h5]using this
theorem bAd {l:List aB}(h:bY p w l=true): ∀x∈l.flatMap zL,inR x 0 (w.objs.length-1)=true:=by
 intro x hx;simp only[bY,bSw,bS5]at h;obtain⟨f,hf,hx⟩:=bUa.1 hx;have hk:=h.2 f hf;simp only[dN,bSw]at hk;rcases bTn.1 hx with hx|hx
 ·exact aR6 hk.1.2 x hx
 ·exact aR6 hk.2 x hx
theorem bDf {α:Type}{l:List α}(h:(l.length:Int)=0):l=[]:=by
 cases l with
 |nil=>rfl
 |cons a l=>simp at h;omega
theorem bJw {o:aP}(h:dX p w o=true): ∀x∈wI o,inR x 0 (w.objs.length-1)=true:=by
 have key:(∃m,bC p w o.vals m=true \/o.vals=[])/\ (bY p w o.frames=true \/o.frames=[]):=by
  unfold dX at h
  split at h
  ·unfold kI at h
   split at h
   ·simp only[bSw]at h;exact⟨⟨1,.inl h.1.1.2⟩,.inl h.1.1.1⟩
   split at h
   ·simp only[bSw,bWo]at h;exact⟨⟨1,.inl h.2⟩,.inr (bDf h.1.1)⟩
   split at h
   ·simp only[bSw,bWo]at h;exact⟨⟨1,.inr (bDf h.2)⟩,.inr (bDf h.1)⟩
   ·cases h
  split at h
  ·simp only[bSw,bWo]at h;exact⟨⟨1,.inr (bDf h.1.1.1.1.2)⟩,.inl h.1.1.2⟩
  split at h
  ·cases h
  rename_i hf;have hf0:o.frames=[]:=bDf (Classical.not_not.1 hf)
  split at h
  ·simp only[bSw]at h;exact⟨⟨_,.inl h.2⟩,.inr hf0⟩
  split at h
  ·simp only[bSw]at h;exact⟨⟨_,.inl h.2⟩,.inr hf0⟩
  split at h
  ·simp only[bSw]at h;exact⟨⟨_,.inl h.2⟩,.inr hf0⟩
  split at h
  ·simp only[bSw]at h;exact⟨⟨_,.inl h.2⟩,.inr hf0⟩
  ·cases h
 obtain⟨⟨m,hv⟩,hfr⟩:=key;intro x hx;rcases bTn.1 hx with hx|hx
 ·rcases hv with hv|hv
  ·exact aR6 hv x hx
  ·rw[hv]at hx;simp[mW]at hx
 ·rcases hfr with hfr|hfr
  ·exact bAd hfr x hx
  ·rw[hfr]at hx;simp at hx
theorem aUy (h:cJ p w=true): ∀o∈w.objs,∀x∈wI o,inR x 0 (w.objs.length-1)=true:=by
 intro o ho;simp only[cJ,bSw,bS5]at h;exact bJw (h.1.2 o ho)
theorem qJ {k:Nat}(h:k<w.objs.length):w.obj k=w.objs[k]:=by simp[aA.obj,bSz,h]
theorem aUz (h:bJ p w=true): ∀o∈w.objs,∀x∈bDe o,inR x 0 (w.objs.length-1)=true:=by
 intro o ho x hx;simp only[bJ,bSw]at h;exact aUy h.2 o ho x ((aMy o x).1 hx)
theorem aE9 (h:bZ w=true): ∀o∈w.objs,iB o=true:=by
 intro o ho;simp only[bZ,bSw,bS5]at h;exact h.2 o ho
theorem aFa (l:List Int)(h:Val)(p:Int->Bool)(hc:hZ L (fun x:Int=> .i x) h p l)(x:Int)(hx:x∈l):
  PC L 300 [.i x,.fp [h] 0] (.bool (!p x)):=by
 refine pcA func300 ?_
 simp only[go_sem,kK]
 refine hc.call x hx _ _ ?_
 simp only[go_sem]
theorem aBr (l:List Int)(h:Val)(p:Int->Bool)(hl:Few l.length)(hc:hZ L (fun x:Int=> .i x) h p l):
  PC L 239 [.fz (l.map (.int .i64)),h] (.bool (l.all p)):=by
 refine aXc ?_ (fun _ _=>⟨rfl,rfl⟩) (aFa l h p hc) (fun h p hc=>aUt l h p hl hc) hc
 have hL:=at_ func239
 conv at hL=>rhs;reduce
 exact hL
theorem bAe (l:List aE)(h:Val)(p:aE->Bool)(hl:Few l.length)(hc:hZ L (fun x:aE=> .agg [.i x.kind,.i x.n]) h p l):
  PC L 295 [.fz (l.map aE.enc),h] (.bool (l.any p)):=by
 refine aMs (sz:=2) (f0:=336) ?_ ?_ (fun _=>rfl) (fun _=>rfl) l h p hl hc
 ·have hL:=at_ func295
  conv at hL=>rhs;reduce
  exact hL
 ·have hL:=at_ func336
  conv at hL=>rhs;reduce
  exact hL
theorem lX (l:List aE)(h:Val)(p:aE->Bool)(hl:Few l.length)(hc:hZ L (fun x:aE=> .agg [.i x.kind,.i x.n]) h p l):
  PC L 235 [.fz (l.map aE.enc),h] (.bool (l.all p)):=by
 refine aE6 (sz:=2) (g:=296) hc (fun h p hc=>bAe l h p hl hc) (fun x _=>⟨rfl,rfl⟩) (fun _=>rfl) ?_ ?_
 ·have hL:=at_ func235
  conv at hL=>rhs;reduce
  exact hL
 ·have hL:=at_ func296
  conv at hL=>rhs;reduce
  exact hL
theorem aU0 (l:List aB)(h:Val)(p:aB->Bool)(hl:Few l.length)(hc:hZ L (fun x:aB=> .agg [.i x.node,.fz (x.env.map aE.enc),.fz (x.vals.map aE.enc)]) h p l):
  PC L 337 [.fz (l.map aB.enc),h] (.bool (l.any p)):=by
 refine aMs (sz:=3) (f0:=344) ?_ ?_ (fun _=>rfl) (fun _=>rfl) l h p hl hc
 ·have hL:=at_ func337
  conv at hL=>rhs;reduce
  exact hL
 ·have hL:=at_ func344
  conv at hL=>rhs;reduce
  exact hL
theorem oX (l:List aB)(h:Val)(p:aB->Bool)(hl:Few l.length)(hc:hZ L (fun x:aB=> .agg [.i x.node,.fz (x.env.map aE.enc),.fz (x.vals.map aE.enc)]) h p l):
  PC L 297 [.fz (l.map aB.enc),h] (.bool (l.all p)):=by
 refine aE6 (sz:=3) (g:=338) hc (fun h p hc=>aU0 l h p hl hc) (fun x _=>⟨rfl,rfl⟩) (fun _=>rfl) ?_ ?_
 ·have hL:=at_ func297
  conv at hL=>rhs;reduce
  exact hL
 ·have hL:=at_ func338
  conv at hL=>rhs;reduce
  exact hL
theorem bAf (l:List aP)(h:Val)(p:aP->Bool)(hl:Few l.length)(hc:hZ L (fun x:aP=> .agg [.i x.form,.i x.n,.fz (x.vals.map aE.enc),.fz (x.frames.map aB.enc)]) h p l):
  PC L 233 [.fz (l.map aP.enc),h] (.bool (l.any p)):=by
 refine aMs (sz:=4) (f0:=294) ?_ ?_ (fun _=>rfl) (fun _=>rfl) l h p hl hc
 ·have hL:=at_ func233
  conv at hL=>rhs;reduce
  exact hL
 ·have hL:=at_ func294
  conv at hL=>rhs;reduce
  exact hL
theorem zN (l:List aP)(h:Val)(p:aP->Bool)(hl:Few l.length)(hc:hZ L (fun x:aP=> .agg [.i x.form,.i x.n,.fz (x.vals.map aE.enc),.fz (x.frames.map aB.enc)]) h p l):
  PC L 196 [.fz (l.map aP.enc),h] (.bool (l.all p)):=by
 refine aE6 (sz:=4) (g:=234) hc (fun h p hc=>bAf l h p hl hc) (fun x _=>⟨rfl,rfl⟩) (fun _=>rfl) ?_ ?_
 ·have hL:=at_ func196
  conv at hL=>rhs;reduce
  exact hL
 ·have hL:=at_ func234
  conv at hL=>rhs;reduce
  exact hL
theorem bAg (l:List bO)(h:Val)(p:bO->Bool)(hl:Few l.length)(hc:hZ L (fun x:bO=> .agg [.i x.port,.i x.n]) h p l):
  PC L 243 [.fz (l.map bO.enc),h] (.bool (l.any p)):=by
 refine aMs (sz:=2) (f0:=303) ?_ ?_ (fun _=>rfl) (fun _=>rfl) l h p hl hc
 ·have hL:=at_ func243
  conv at hL=>rhs;reduce
  exact hL
 ·have hL:=at_ func303
  conv at hL=>rhs;reduce
  exact hL
theorem zO (l:List bO)(h:Val)(p:bO->Bool)(hl:Few l.length)(hc:hZ L (fun x:bO=> .agg [.i x.port,.i x.n]) h p l):
  PC L 199 [.fz (l.map bO.enc),h] (.bool (l.all p)):=by
 refine aE6 (sz:=2) (g:=244) hc (fun h p hc=>bAg l h p hl hc) (fun x _=>⟨rfl,rfl⟩) (fun _=>rfl) ?_ ?_
 ·have hL:=at_ func199
  conv at hL=>rhs;reduce
  exact hL
 ·have hL:=at_ func244
  conv at hL=>rhs;reduce
  exact hL
theorem iC (n lo hi:Int):PC L 117 [.i n,.i lo,.i hi] (.bool (inR n lo hi)):=by
 refine pcA func117 ?_
 simp only[go_sem,qW]
 refine bD (fun h=>?_) (fun h=>?_)<;>simp only[go_sem,h]<;>simp at h<;>simp[h,inR]
 omega
theorem gE (n:Int):PC L 201 [.i n] (.bool (inR n (-1000000000) 1000000000)):=by
 refine pcA func201 ?_
 simp only[go_sem,kK,(iC _ _ _).ret]
theorem uN (n:aL):PC L 206 [.agg [.i n.op,.i n.n,.fz (n.kids.map (.int .i64)),.fz (n.pats.map Pat.enc)]] (.i n.asks):=by
 refine pcA func206 ?_
 simp only[go_sem,kK]
 repeat' ((first|with_reducible refine aG (fun h=>?_) (fun h=>?_)|with_reducible refine aI (fun h=>?_) (fun h=>?_))<;>(try simp only[bWo,bWp]at h)<;>try simp only[go_sem,kK,h])
 all_goals simp[aL.asks, *]
theorem aCp (p:aD)(w:aA)(v:aE)(hp:p.few)(hw:w.few):PC L 236 [.fp [.fz (p.nodes.map aL.enc),.fz (p.funs.map (.int .i64)),.i p.main,.fz (p.cons.map dC.enc),.fz (w.objs.map aP.enc),.fz (w.tasks.map (.int .i64)),.fz (w.outs.map bO.enc),.fz (w.ins.map (.int .i64)),.i w.used] 0,.agg [.i v.kind,.i v.n]] (.bool (dR p w v)):=by
 refine pcA func236 ?_
 simp only[go_sem,kK]
 repeat' ((first|with_reducible refine aG (fun h=>?_) (fun h=>?_)|with_reducible refine aI (fun h=>?_) (fun h=>?_))<;>(try simp only[bWo,bWp]at h)<;>try simp only[go_sem,kK,h,(iC _ _ _).ret,(gE _).ret,eG hp.funs,eG hw.objs])
 all_goals simp[dR, *]
theorem aIl (p:aD)(w:aA)(hp:p.few)(hw:w.few)(l:List aE):hZ L (fun x:aE=> .agg [.i x.kind,.i x.n]) (.fn 236 [.fp [.fz (p.nodes.map aL.enc),.fz (p.funs.map (.int .i64)),.i p.main,.fz (p.cons.map dC.enc),.fz (w.objs.map aP.enc),.fz (w.tasks.map (.int .i64)),.fz (w.outs.map bO.enc),.fz (w.ins.map (.int .i64)),.i w.used] 0] []) (dR p w) l:=by
 refine⟨fun n en hn=>?_,rfl,rfl,rfl,fun x hx en K hK=>?_⟩
 ·obtain⟨m,rfl⟩: ∃m,n=m+4:=⟨n-4,by omega⟩
  simp only[go_sem]
 ·simp only[go_sem,(aCp p w x hp hw).ret];exact hK
theorem aMz (l:List Int)(hl:Few l.length):PC L 202 [.is l] (.bool (oB l 50)):=by
 have ask:hZ L (fun x:Int=> .i x) (.fn 201 [] []) (fun n=>inR n (-1000000000) 1000000000) l:=by
  refine⟨fun n en hn=>?_,rfl,rfl,rfl,fun x hx en K hK=>?_⟩
  ·obtain⟨m,rfl⟩: ∃m,n=m+4:=⟨n-4,by omega⟩
   simp only[go_sem]
  ·simp only[go_sem,(gE x).ret];exact hK
 refine pcA func202 ?_
 simp only[go_sem,kK]
 refine aI (fun h=>?_) (fun h=>?_)
 ·simp only[go_sem,kK,h,(aBr l _ _ hl ask).ret]
  simp at h;simp[oB,h]
 ·simp only[go_sem,kK,h]
  simp at h;simp[oB];intros;omega
theorem zP (o:bO):PC L 200 [.agg [.i o.port,.i o.n]] (.bool (xR o)):=by
 refine pcA func200 ?_
 simp only[go_sem,kK,(iC _ _ _).ret]
 refine aI (fun h=>?_) (fun h=>?_)<;>simp only[go_sem,kK,h,(gE _).ret]<;>simp[xR,h]
theorem aCq (p:aD)(w:aA)(f:aB)(hp:p.few)(hw:w.few)(hf:f.few):PC L 298 [.fp [.fz (p.nodes.map aL.enc),.fz (p.funs.map (.int .i64)),.i p.main,.fz (p.cons.map dC.enc),.fz (w.objs.map aP.enc),.fz (w.tasks.map (.int .i64)),.fz (w.outs.map bO.enc),.fz (w.ins.map (.int .i64)),.i w.used] 0,.agg [.i f.node,.fz (f.env.map aE.enc),.fz (f.vals.map aE.enc)]] (.bool (dN p w f)):=by
 refine pcA func298 ?_
 simp only[go_sem,kK];have e:=eG hp.nodes
 try(refine aCf ?_ ?_;· decide)
 simp only[go_sem,kK,e,(iC _ _ _).ret]
 refine aI (fun h=>?_) (fun h=>?_)
 ·simp only[go_sem,kK,h]
  refine aI (fun h2=>?_) (fun h2=>?_)
  ·simp only[go_sem,kK,h,h2,bM,(uN _).ret]
   refine aI (fun h3=>?_) (fun h3=>?_)
   ·simp only[go_sem,kK,h3,(lX _ _ _ hf.1 (aIl p w hp hw _)).ret]
    refine aI (fun h4=>?_) (fun h4=>?_)
    ·simp only[go_sem,kK,h4,(lX _ _ _ hf.2 (aIl p w hp hw _)).ret]
     simp at h2 h3 h4
     simp[dN,bC,h,h2,h3];intros;simp_all
    ·simp only[go_sem,kK,h4]
     simp at h2 h3 h4
     obtain⟨x,hx,hx2⟩:=h4;simp[dN,bC,h,h2,h3];intro hh;rw[hh x hx]at hx2;cases hx2
   ·simp only[go_sem,kK,h3]
    simp at h2 h3
    simp[dN,bC,h,h2];intros;omega
  ·simp only[go_sem,kK,h2]
   simp at h2
   simp[dN,bC,h];intros;omega
 ·simp only[go_sem,kK,h]
  simp at h
  simp[dN,h]
theorem aD5 (p:aD)(w:aA)(f:aB)(hn:inR f.node 0 (p.nodes.length-1)=true):PC L 299 [.fp [.fz (p.nodes.map aL.enc),.fz (p.funs.map (.int .i64)),.i p.main,.fz (p.cons.map dC.enc),.fz (w.objs.map aP.enc),.fz (w.tasks.map (.int .i64)),.fz (w.outs.map bO.enc),.fz (w.ins.map (.int .i64)),.i w.used] 0,.agg [.i f.node,.fz (f.env.map aE.enc),.fz (f.vals.map aE.enc)]] (.bool (fV p f)):=by
 refine pcA func299 ?_
 simp only[go_sem,kK]
 refine aCf ?_ ?_
 ·decide
 simp only[go_sem,hn,bM,(uN _).ret];simp[fV]
theorem sG (p:aD)(w:aA)(l:List aB)(m:Nat)(hp:p.few)(hw:w.few)(hl:Few l.length)(hf: ∀f∈l,f.few)(hm:m<=1):
  PC L 237 [.fp [.fz (p.nodes.map aL.enc),.fz (p.funs.map (.int .i64)),.i p.main,.fz (p.cons.map dC.enc),.fz (w.objs.map aP.enc),.fz (w.tasks.map (.int .i64)),.fz (w.outs.map bO.enc),.fz (w.ins.map (.int .i64)),.i w.used] 0,.fz (l.map aB.enc),.i m] (.bool (bY p w l&&(l.take (l.length-m)).all (fV p))):=by
 have ask1:hZ L (fun x:aB=> .agg [.i x.node,.fz (x.env.map aE.enc),.fz (x.vals.map aE.enc)]) (.fn 298 [.fp [.fz (p.nodes.map aL.enc),.fz (p.funs.map (.int .i64)),.i p.main,.fz (p.cons.map dC.enc),.fz (w.objs.map aP.enc),.fz (w.tasks.map (.int .i64)),.fz (w.outs.map bO.enc),.fz (w.ins.map (.int .i64)),.i w.used] 0] []) (dN p w) l:=by
  refine⟨fun n en hn=>?_,rfl,rfl,rfl,fun x hx en K hK=>?_⟩
  ·obtain⟨m,rfl⟩: ∃m,n=m+4:=⟨n-4,by omega⟩
   simp only[go_sem]
  ·simp only[go_sem,(aCq p w x hp hw (hf x hx)).ret];exact hK
 refine pcA func237 ?_
 simp only[go_sem,kK]
 refine aI (fun h=>?_) (fun h=>?_)
 ·simp only[go_sem,kK,h,(oX _ _ _ hl ask1).ret]
  refine aI (fun h2=>?_) (fun h2=>?_)
  ·have hok:bY p w l=true:=by simp at h h2;simp[bY,h];exact h2
   have ask2:hZ L (fun x:aB=> .agg [.i x.node,.fz (x.env.map aE.enc),.fz (x.vals.map aE.enc)]) (.fn 299 [.fp [.fz (p.nodes.map aL.enc),.fz (p.funs.map (.int .i64)),.i p.main,.fz (p.cons.map dC.enc),.fz (w.objs.map aP.enc),.fz (w.tasks.map (.int .i64)),.fz (w.outs.map bO.enc),.fz (w.ins.map (.int .i64)),.i w.used] 0] []) (fV p) (l.take (l.length-m)):=by
    refine⟨fun n en hn=>?_,rfl,rfl,rfl,fun x hx en K hK=>?_⟩
    ·obtain⟨m,rfl⟩: ∃m,n=m+4:=⟨n-4,by omega⟩
     simp only[go_sem]
    ·simp only[go_sem,(aD5 p w x (pJ hok x (bVf hx))).ret];exact hK
   have k1:=aGg hok;have e1:IntKind.i64.wrap ((l.length:Int)-m)=(l.length:Int)-m:=aV (by omega)
   have e2:max (0:Int) ((l.length:Int)-m)=((l.length-m:Nat):Int):=by omega
   simp only[go_sem,kK,h2,e1,e2,wG,Nat.sub_le,<-bUd,(oX _ _ _ (aMh hl _) ask2).ret];simp[hok]
  ·simp only[go_sem,kK,h2];have:bY p w l=false:=by
    rw[<-bT9];intro hh;simp only[bY,bSw]at hh;rw[hh.2]at h2;simp at h2
   simp[this]
 ·simp only[go_sem,kK,h];have:bY p w l=false:=by simp at h;simp[bY];intros;omega
  simp[this]
def aP5 (p:aD)(w:aA)(o:aP):Bool:=
 if o.n=0 then(if(1:Int)<o.vals.length \/((o.frames.length:Int)=0/\ (o.vals.length:Int)=0)then false else bY p w o.frames&&(o.frames.take (o.frames.length-(1-o.vals.length))).all (fV p))
 else if o.n=1 then decide ((o.vals.length:Int)=1)&&decide ((o.frames.length:Int)=0)
 else if o.n=2 \/o.n=3 \/o.n=4 then decide ((o.vals.length:Int)=0)&&decide ((o.frames.length:Int)=0)else false
theorem aD6 (p:aD)(w:aA)(o:aP)(hp:p.few)(hw:w.few)(ho:o.few):PC L 238 [.fp [.fz (p.nodes.map aL.enc),.fz (p.funs.map (.int .i64)),.i p.main,.fz (p.cons.map dC.enc),.fz (w.objs.map aP.enc),.fz (w.tasks.map (.int .i64)),.fz (w.outs.map bO.enc),.fz (w.ins.map (.int .i64)),.i w.used] 0,.agg [.i o.form,.i o.n,.fz (o.vals.map aE.enc),.fz (o.frames.map aB.enc)]] (.bool (aP5 p w o)):=by
 refine pcA func238 ?_
 simp only[go_sem,kK]
 refine aG (fun h0=>?_) (fun h0=>?_)<;>simp only[bWo,bWp]at h0
 ·simp only[go_sem,kK]
  repeat' ((first|with_reducible refine aG (fun h=>?_) (fun h=>?_)|with_reducible refine aI (fun h=>?_) (fun h=>?_))<;>(try simp only[bWo,bWp,bS6,bTf]at h)<;>try simp only[go_sem,kK, *])
  all_goals try(simp[aP5, *];done)
  all_goals
   have hv:o.vals.length<=1:=by omega
   have e:IntKind.i64.wrap (1-(o.vals.length:Int))=((1-o.vals.length:Nat):Int):=by rw[aV (by omega)];omega
   simp only[go_sem,e,(sG p w o.frames (1-o.vals.length) hp hw ho.2.1 ho.2.2 (by omega)).ret]
   rw[aP5,if_pos h0,if_neg (by omega)]
 ·simp only[go_sem,kK]
  repeat' ((first|with_reducible refine aG (fun h=>?_) (fun h=>?_)|with_reducible refine aI (fun h=>?_) (fun h=>?_))<;>(try simp only[bWo,bWp,bS6]at h)<;>try simp only[go_sem,kK,h])
  all_goals simp[aP5, *]
  all_goals (intros;simp_all)
def aM0 (p:aD)(w:aA)(o:aP):Bool:=
 if o.form=1 then decide ((o.frames.length:Int)=0)&&inR o.n 0 (p.cons.length-1)&&decide ((o.vals.length:Int)=(p.cons.getD o.n.toNat default).args)
 else if o.form=2 then decide ((o.frames.length:Int)=0)&&inR o.n 0 (p.nodes.length-1)&&decide ((p.node o.n).op=5)&&decide ((o.vals.length:Int)<=30)
 else if o.form=3 then decide ((o.frames.length:Int)=0)&&decide (o.n=0)&&decide ((o.vals.length:Int)=1)
 else if o.form=4 then decide ((o.frames.length:Int)=0)&&decide (o.n=0)&&decide ((o.vals.length:Int)<=4)
 else if o.form=5 then decide (o.n=0)&&decide ((o.vals.length:Int)=0)&&decide ((0:Int)<o.frames.length)&&(bY p w o.frames&&o.frames.all (fV p))&&decide ((p.node (o.frames.headD default).node).op=26)
 else if o.form=6 then aP5 p w o else false
def aU1 (p:aD)(w:aA)(o:aP):Bool:=o.vals.all (dR p w)&&aM0 p w o
theorem bDg (p:aD)(w:aA)(o:aP)(hc: ∀c∈p.cons,c.args<=3):aU1 p w o=dX p w o:=by
 have hargs:inR o.n 0 (p.cons.length-1)=true->(p.cons.getD o.n.toNat default).args<=3:=by
  intro h;simp only[inR,bWo]at h;have:o.n.toNat<p.cons.length:=by omega
  rw[bSz,bTy this];exact hc _ (bS7 _)
 have vok: ∀m:Int,(o.vals.length:Int)<=m->bC p w o.vals m=o.vals.all (dR p w):=by intro m h;simp[bC,h]
 have vno: ∀m:Int,m<(o.vals.length:Int)->bC p w o.vals m=false:=by intro m h;simp[bC];intros;omega
 generalize hV:o.vals.all (dR p w)=V at vok;have nilV:o.vals.length=0->V=true:=by intro h;rw[<-hV,bWi.1 h];rfl
 simp only[aU1,dX,hV]
 by_cases h6:o.form=6
 ·simp only[h6,if_true,aM0,kI,aP5];simp only[show¬(6:Int)=1 by decide,show¬(6:Int)=2 by decide,show¬(6:Int)=3 by decide,show¬(6:Int)=4 by decide,show¬(6:Int)=5 by decide,if_false]
  by_cases h0:o.n=0
  ·simp only[h0,if_true]
   by_cases h1:(1:Int)<o.vals.length
   ·simp[h1,vno 1 h1]
   ·rw[vok 1 (by omega)]
    by_cases h2:(o.frames.length:Int)=0/\ (o.vals.length:Int)=0
    ·simp only[h2];simp[]
    ·rw[if_neg (by omega)]
     have:(0:Int)<o.frames.length+o.vals.length:=by omega
     have e:o.frames.length-(1-o.vals.length)=o.frames.length+o.vals.length-1:=by omega
     simp only[this,decide_true,e];cases V<;>cases bY p w o.frames<;>simp
  ·simp only[h0,if_false]
   by_cases h1:o.n=1
   ·simp only[h1,if_true]
    by_cases hl:(o.vals.length:Int)=1
    ·rw[vok 1 (by omega)];simp only[hl,decide_true,bTo,bUc];cases V<;>simp
    ·simp only[hl,decide_false,bT6,bTk]
   ·simp only[h1,if_false];split
    ·by_cases hl:(o.vals.length:Int)=0
     ·have:=nilV (by omega);simp only[this,hl,decide_true,bTo,bUc]
     ·simp only[hl,decide_false,bT6,bTk]
    ·simp
 ·simp only[h6,if_false,aM0]
  by_cases h5:o.form=5
  ·simp only[h5,if_true];simp only[show¬(5:Int)=1 by decide,show¬(5:Int)=2 by decide,show¬(5:Int)=3 by decide,show¬(5:Int)=4 by decide,if_false]
   by_cases hl:(o.vals.length:Int)=0
   ·have:=nilV (by omega)
    simp only[this,bTo,Bool.and_assoc]
   ·simp only[hl,decide_false,bT6,bTk]
  ·simp only[h5,if_false]
   by_cases hf:(o.frames.length:Int)=0
   ·simp only[hf,not_true,if_false,decide_true,bTo]
    by_cases h1:o.form=1
    ·simp only[h1,if_true];cases hin:inR o.n 0 (p.cons.length-1)with
     |false=>simp
     |true=>
      have ha:=hargs hin
      by_cases hl:(o.vals.length:Int)=(p.cons.getD o.n.toNat default).args
      ·rw[vok 3 (by omega)];simp only[hl,decide_true,bTo,bUc]
      ·simp only[hl,decide_false,bT6,bTk]
    ·simp only[h1,if_false]
     by_cases h2:o.form=2
     ·simp only[h2,if_true]
      by_cases hl:(o.vals.length:Int)<=30
      ·rw[vok 30 hl];simp only[hl,decide_true,bUc];ac_rfl
      ·rw[vno 30 (by omega)];simp only[hl,decide_false,bT6]
     ·simp only[h2,if_false]
      by_cases h3:o.form=3
      ·simp only[h3,if_true]
       by_cases hl:(o.vals.length:Int)=1
       ·rw[vok 1 (by omega)];simp only[hl,decide_true,bUc];ac_rfl
       ·simp only[hl,decide_false,bT6,bTk]
      ·simp only[h3,if_false]
       by_cases h4:o.form=4
       ·simp only[h4,if_true]
        by_cases hl:(o.vals.length:Int)<=4
        ·rw[vok 4 hl];simp only[hl,decide_true,bUc];ac_rfl
        ·rw[vno 4 (by omega)];simp only[hl,decide_false,bT6]
       ·simp only[h4,if_false,bT6]
   ·simp only[hf,not_false_eq_true,if_true,decide_false,bTk]
    repeat' split
    all_goals simp
theorem aBu (p:aD)(w:aA)(o:aP)(hp:p.few)(hw:w.few)(ho:o.few):PC L 197 [.fp [.fz (p.nodes.map aL.enc),.fz (p.funs.map (.int .i64)),.i p.main,.fz (p.cons.map dC.enc),.fz (w.objs.map aP.enc),.fz (w.tasks.map (.int .i64)),.fz (w.outs.map bO.enc),.fz (w.ins.map (.int .i64)),.i w.used] 0,.agg [.i o.form,.i o.n,.fz (o.vals.map aE.enc),.fz (o.frames.map aB.enc)]] (.bool (aU1 p w o)):=by
 refine pcA func197 ?_
 simp only[go_sem,kK,(lX _ _ _ ho.1 (aIl p w hp hw _)).ret]
 refine aG (fun hv=>?_) (fun hv=>?_)
 ·have hv':o.vals.all (dR p w)=false:=by rw[<-bUb];exact hv
  simp only[go_sem,kK];rw[aU1,hv'];rfl
 ·have hv':o.vals.all (dR p w)=true:=by simpa using hv
  rw[aU1,hv',bTo];clear hv hv';simp only[go_sem,kK];have hfr:=sG p w o.frames 0 hp hw ho.2.1 ho.2.2 (by omega)
  simp only[Nat.sub_zero,bUf,Int.natCast_zero]at hfr
  repeat' ((first|with_reducible refine aG (fun h=>?_) (fun h=>?_)|with_reducible refine aI (fun h=>?_) (fun h=>?_))<;>(try simp only[bWo,bWp,bS6]at h)<;>try simp only[go_sem,kK, *,(iC _ _ _).ret,eG hp.nodes,eG hp.cons,bM,aIh,hfr.ret])
  all_goals try(simp[aM0, *];done)
  all_goals try(simp[aM0, *];intros;simp_all;done)
  ·rename_i g1 g2 g3 g4 g5 g6 g7 g8;have hpos:0<o.frames.length:=by omega
   have h2:=h;simp only[bSw]at h2;have hn:inR (o.frames.headD default).node 0 (p.nodes.length-1)=true:=pJ h2.1 _ (by cases hh:o.frames with|nil=>simp[hh]at hpos|cons a l=>simp)
   simp only[go_sem,kK,aP0 hpos,hn,bM];simp only[aM0,g5,g6,g7,h];simp[*]
  ·rename_i g1 g2 g3 g4 g5;have ht:=aD6 p w o hp hw ho;rw[h]at ht;simp only[go_sem,ht.ret];simp only[aM0,h,if_true];simp
theorem aKn (n:Nat):PC L 241 [.i n] (.fn 302 [] [.fp [.i n] 0]):=by
 refine pcA func241 ?_
 simp only[go_sem,kK]
theorem aXh (n:Nat)(hn:n<=1000):PC L 240 [.fn 302 [] [.fp [.i n] 0]] (.fz ((List.range n).map fun(i:Nat)=> .i i)):=by
 have hf:Few n:=by unfold Few;omega
 refine pcA func240 ?_
 simp only[go_sem,kK]
 refine jB func301 ?_
 simp only[go_sem,kK,aAs (v:= .cl []) rfl rfl]
 refine zG (f:=302) (x:=[]) (y:=[.fp [.i n] 0]) ?_ ?_
 ·simp only[go_sem]
 intro fr0 key hfr0 hkey;have h2:fr0 2= .ptr ⟨0,2,0⟩ 0:=by rw[hfr0];simp only[go_sem]
 have hk1:key=⟨1,0,0⟩:=by rw[hkey];rfl
 subst hk1;clear hkey hfr0
 refine jB func302 ?_
 simp only[go_sem,kK]
 refine bK n (fun k st=> ∃fr en cnt v,st=⟨fr,en,cnt⟩/\ fr 0= .yld ⟨1,0,0⟩/\ fr 4= .i n/\ fr 5= .i k/\ en ⟨1,0,0⟩=some (.loop fr0 [7] (.ops [o 5 (.mv (.t 7))]) (.block 1 (.ops [o 8 (.load false 1 (.t 2)),o 9 (.mv (.t 5)),o 10 (.bslice 1 1 [(.i 0)] [(0,(.t 9))]),o 11 (.append 1 (.t 8) (.t 10)),on (.store 1 (.t 2) (.t 11))])) .ready)/\ en ⟨0,2,0⟩=some (.box [v] false)/\ cX en v 1 ((List.range k).map fun(i:Nat)=> .i i) [11]) 0 (bS4 _) (by refine⟨_,_,_,.cl [],rfl,?_,?_,?_,?_,?_,cX.nil _ _⟩<;>simp only[go_sem]) ?_
 rintro k st hk ⟨fr,en,cnt,v,rfl,h0,h4,h5,e1,e2,hm⟩
 simp only[go_sem,kK,h4,h5]
 refine aG (fun hq=>?_) (fun hq=>?_)
 ·have h':k<n:=D_o hq;simp only[go_sem,h',h0,h5]
  refine aKy (fr:=fr0) (ps:=[7]) (a:=(.ops [o 5 (.mv (.t 7))])) (b:=(.block 1 (.ops [o 8 (.load false 1 (.t 2)),o 9 (.mv (.t 5)),o 10 (.bslice 1 1 [(.i 0)] [(0,(.t 9))]),o 11 (.append 1 (.t 8) (.t 10)),on (.store 1 (.t 2) (.t 11))]))) e1 rfl ?_
  simp only[go_sem,kK,h2,e1,e2]
  refine jO (D:=[11]) (xs:=(List.range k).map fun(i:Nat)=>Val.int .i64 i) (ys:=[.i k]) (rs:=[]) ?_ ?_ ?_ ?_ ?_
  ·simp only[go_sem];exact hm.keep fun t g ht=>by simp at ht;subst ht;simp only[go_sem]
  ·simp only[go_sem]
  ·rfl
  ·simp;omega
  ·intro v' en' cnt' hown hen hcnt;obtain⟨s1,s2⟩:=hown.shape;have k1:en' ⟨1,0,0⟩=some (.loop fr0 [7] (.ops [o 5 (.mv (.t 7))]) (.block 1 (.ops [o 8 (.load false 1 (.t 2)),o 9 (.mv (.t 5)),o 10 (.bslice 1 1 [(.i 0)] [(0,(.t 9))]),o 11 (.append 1 (.t 8) (.t 10)),on (.store 1 (.t 2) (.t 11))])) .busy):=by rw[hen 1 0 0 (.inl (by decide))];simp only[go_sem]
   have k2:en' ⟨0,2,0⟩=some (.box [v] false):=by rw[hen 0 2 0 (.inr ⟨by decide,by simp⟩)];simp only[go_sem,e2]
   simp only[go_sem,h2,s1,s2,k1,k2];simp only[go_sem,h5]
   refine⟨_,_,_,v',rfl,?_⟩
   simp only[go_sem,h0,h4,aR h' hf]
   refine cX.sub (D:=[11,11]) (cX.keep (en:=en') ?_ ?_) (by simp)
   ·rw[bT0];exact hown
   ·intro t g ht;simp at ht;subst ht;simp only[go_sem]
 ·have:k=n:=by simp at hq;omega
  subst this;simp only[go_sem,e1];obtain⟨r,ks,s1,s2,_⟩:=aUw (hm.keep (en':=en.set ⟨1,0,0⟩ none) fun t g ht=>by simp at ht;subst ht;simp only[go_sem])
  simp only[go_sem,e2,s1,s2]
theorem aCr (n:Int): ∀ks:List Int,(∃i,findKey .num (.i n) (ks.map (.int .i64))=some (some i)/\ (ks.any fun x=>decide (x=n))=true/\ (ks.map (Val.int .i64)).set i (.i n)=ks.map (.int .i64)/\ i<ks.length) \/
  (findKey .num (.i n) (ks.map (.int .i64))=some none/\ (ks.any fun x=>decide (x=n))=false)
 |[]=> .inr ⟨rfl,rfl⟩
 |x::ks=>by
  have he:oU .num (.i n) (.i x)=some (n==x):=by simp[oU]
  by_cases h:n=x
  ·subst h
   refine .inl ⟨0,?_,by simp,by simp,by simp⟩
   simp only[bTv,findKey,he,beq_self_eq_true]
  ·have hb:(n==x)=false:=by simpa using h
   have hx:decide (x=n)=false:=by simp;exact fun e=>h e.symm
   rcases aCr n ks with⟨i,h1,h2,h3,h4⟩|⟨h1,h2⟩
   ·refine .inl ⟨i+1,?_,?_,by simp[h3],by simp;exact h4⟩
    ·simp only[bTv,findKey,he,hb,h1]
    ·simp only[List.any_cons,hx,bTz];exact h2
   ·refine .inr ⟨?_,?_⟩
    ·simp only[bTv,findKey,he,hb,h1]
    ·simp only[List.any_cons,hx,bTz];exact h2
theorem aP6 (n:Int)(ks:List Int):aE2 .num (.bool false) false (.i n) (ks.map (.int .i64)) (ks.map fun _=> .bool true)=some (.bool (ks.any fun x=>decide (x=n))):=by
 unfold aE2;rcases aCr n ks with⟨i,h1,h2,_,h4⟩|⟨h1,h2⟩
 ·simp[h1,h2,bSz,h4]
 ·simp[h1,h2]
def aKz (w:aA)(ks:List Int):Bool:=(List.range w.objs.length).all fun i=>(ks.any fun x=>decide (x=(i:Int)))||!dB (w.obj i)
def aCs (w:aA):Bool:=bU w [] w.tasks&&aKz w w.tasks
theorem zQ (p:aD)(w:aA)(ks:List Int)(i:Nat)(hi:i<w.objs.length):
  PC L 242 [.i i,.fp [.fm (ks.map (.int .i64)) (ks.map fun _=> .bool true)] 0,.fp [.fp [.fz (p.nodes.map aL.enc),.fz (p.funs.map (.int .i64)),.i p.main,.fz (p.cons.map dC.enc),.fz (w.objs.map aP.enc),.fz (w.tasks.map (.int .i64)),.fz (w.outs.map bO.enc),.fz (w.ins.map (.int .i64)),.i w.used] 0] 0] (.bool ((ks.any fun x=>decide (x=(i:Int)))||!dB (w.obj i))):=by
 have hin:inR (i:Int) 0 (w.objs.length-1)=true:=by simp[inR];omega
 refine pcA func242 ?_
 simp only[go_sem,kK,aP6]
 refine aI (fun h=>?_) (fun h=>?_)
 ·simp only[go_sem,kK,h,aAt,hin];simp[dB]
 ·simp only[go_sem,kK,h,bTf];simp
variable {k:Key}
theorem bDh :Val.one (.mp k)=true:=(rfl)
theorem aU2 :Val.cells (.mp k)=[.mp k]:=(rfl)
theorem bH7 :snapD (n+1) en (.mp k)=(match en k with
   |some (.map ks vs _)=>some (.fm ks vs,[k])
   |_=>none):=(rfl)
theorem aCt (p:aD)(w:aA)(hw:w.few)(hn:w.objs.length<=1000):PC L 198 [.fp [.fz (p.nodes.map aL.enc),.fz (p.funs.map (.int .i64)),.i p.main,.fz (p.cons.map dC.enc),.fz (w.objs.map aP.enc),.fz (w.tasks.map (.int .i64)),.fz (w.outs.map bO.enc),.fz (w.ins.map (.int .i64)),.i w.used] 0] (.bool (aCs w)):=by
 have e:=eG hw.objs
 refine pcA func198 ?_
 simp only[go_sem,kK,aAs (v:= .fp [.fz (p.nodes.map aL.enc),.fz (p.funs.map (.int .i64)),.i p.main,.fz (p.cons.map dC.enc),.fz (w.objs.map aP.enc),.fz (w.tasks.map (.int .i64)),.fz (w.outs.map bO.enc),.fz (w.ins.map (.int .i64)),.i w.used] 0) rfl rfl,bDh,aU2]
 refine bK w.tasks.length (fun k st=> ∃fr en cnt,st=⟨fr,en,cnt⟩/\ fr 1= .ptr ⟨0,1,0⟩ 0/\ en ⟨0,1,0⟩=some (.box [.fp [.fz (p.nodes.map aL.enc),.fz (p.funs.map (.int .i64)),.i p.main,.fz (p.cons.map dC.enc),.fz (w.objs.map aP.enc),.fz (w.tasks.map (.int .i64)),.fz (w.outs.map bO.enc),.fz (w.ins.map (.int .i64)),.i w.used] 0] false)/\ fr 3= .ptr ⟨0,3,0⟩ 0/\ en ⟨0,3,0⟩=some (.box [.mp ⟨0,6,0⟩] false)/\
  en ⟨0,6,0⟩=some (.map ((w.tasks.take k).map (.int .i64)) ((w.tasks.take k).map fun _=> .bool true) false)/\ fr 11= .is w.tasks/\ fr 12= .i w.tasks.length/\ fr 13= .i k/\ bU w (w.tasks.take k) (w.tasks.drop k)=bU w [] w.tasks) 0 (bS4 _)
  (by refine⟨_,_,_,rfl,?_,?_,?_,?_,?_,?_,?_,?_,rfl⟩<;>simp only[go_sem]) ?_
 rintro k st hk ⟨fr,en,cnt,rfl,h1,e1,h3,e3,e6,h11,h12,h13,hI⟩
 simp only[go_sem,kK,h12,h13]
 refine aG (fun hq=>?_) (fun hq=>?_)
 ·have h':k<w.tasks.length:=D_o hq;rw[bT2 h',bU]at hI;simp only[go_sem,kK,h',h1,e1,h11,h13,(iC _ _ _).ret,e]
  refine aI (fun hb=>?_) (fun hb=>?_)
  ·simp at hb
   simp only[go_sem,kK,hb,bS6,h1,e1,aAt]
   refine aI (fun hc=>?_) (fun hc=>?_)
   ·have hc':dB (w.obj w.tasks[k])=true:=by simpa[dB]using hc
    simp only[go_sem,kK,hc,h3,e3,e6,aP6]
    refine aG (fun hd=>?_) (fun hd=>?_)
    ·simp only[go_sem,kK];rw[hb,hc',hd]at hI;rw[aCs,<-hI];rfl
    ·rw[hb,hc',hd]at hI;simp only[bTf,bTo]at hI;rcases aCr w.tasks[k] (w.tasks.take k)with⟨i,f1,f2,_⟩|⟨f1,_⟩
     ·rw[hd]at f2;cases f2
     ·simp only[go_sem,h3,e3,e6,h13,f1]
      refine⟨_,_,_,rfl,?_⟩
      simp only[go_sem,h1,e1,h3,e3,h11,h12,iG h',bT0,aR h' hw.tasks];exact hI
   ·have hc':dB (w.obj w.tasks[k])=false:=by simp at hc;simp[dB,hc]
    simp only[go_sem,kK,hc];rw[hb,hc']at hI;rw[aCs,<-hI];rfl
  ·simp at hb
   simp only[go_sem,kK,hb,bTf];rw[hb]at hI;rw[aCs,<-hI];rfl
 ·have:k=w.tasks.length:=by simp at hq;omega
  subst this;rw[bUf]at e6 hI;rw[bUo,bU]at hI;have hp: ∀i:Nat,i<w.objs.length->PC L 242 [.i i,.fp [.fm (w.tasks.map (.int .i64)) (w.tasks.map fun _=> .bool true)] 0,.fp [.fp [.fz (p.nodes.map aL.enc),.fz (p.funs.map (.int .i64)),.i p.main,.fz (p.cons.map dC.enc),.fz (w.objs.map aP.enc),.fz (w.tasks.map (.int .i64)),.fz (w.outs.map bO.enc),.fz (w.ins.map (.int .i64)),.i w.used] 0] 0] (.bool ((w.tasks.any fun x=>decide (x=(i:Int)))||!dB (w.obj i))):=fun i hi=>zQ p w w.tasks i hi
  have ask:hZ L (fun x:Int=> .i x) (.fn 242 [] [.fp [.fm (w.tasks.map (.int .i64)) (w.tasks.map fun _=> .bool true)] 0,.fp [.fp [.fz (p.nodes.map aL.enc),.fz (p.funs.map (.int .i64)),.i p.main,.fz (p.cons.map dC.enc),.fz (w.objs.map aP.enc),.fz (w.tasks.map (.int .i64)),.fz (w.outs.map bO.enc),.fz (w.ins.map (.int .i64)),.i w.used] 0] 0]) (fun j=>(w.tasks.any fun x=>decide (x=j))||!dB (w.obj j)) ((List.range w.objs.length).map fun(i:Nat)=>(i:Int)):=by
   refine⟨fun n en hn=>?_,rfl,rfl,rfl,fun x hx en K hK=>?_⟩
   ·obtain⟨m,rfl⟩: ∃m,n=m+4:=⟨n-4,by omega⟩
    simp only[go_sem]
   ·obtain⟨i,hi,rfl⟩:=bTu.1 hx;simp only[go_sem,(hp i (by simpa using hi)).ret]
    exact hK
  have hall:=aBr _ _ _ (by simpa using hw.objs) ask
  have he:List.map (Val.int .i64) ((List.range w.objs.length).map fun(i:Nat)=>(i:Int))=(List.range w.objs.length).map fun(i:Nat)=>Val.int .i64 i:=by simp
  rw[he]at hall;simp only[go_sem,h1,e1,h3,e3,e6,(aKn _).ret,(aXh _ hn).ret,bH7,hall.ret];rw[aCs,<-hI,bTo,aKz,List.all_map];rfl
theorem aGn : ∀(l N:List Nat),l.Nodup->(∀x∈l,x∈N)->l.length<=N.length
 |[],N,_,_=>bS4 _
 |x::l,N,hn,hs=>by
  have hx:x∈N:=hs x (by simp)
  rw[List.nodup_cons]at hn;have:=aGn l (N.erase x) hn.2 fun y hy=>by
   rw[List.mem_erase_of_ne (by rintro rfl;exact hn.1 hy)]
   exact hs y (by simp[hy])
  rw[List.length_erase_of_mem hx]at this;have:=List.length_pos_of_mem hx;simp only[bS8];omega
def wL (w:aA):List Nat:=(List.range w.objs.length).filter fun(i:Nat)=>dB (w.obj (i:Int))
theorem aA1 (w:aA):(wL w).length=w.objs.countP dB:=by
 have h:w.objs=(List.range w.objs.length).map fun(i:Nat)=>w.obj (i:Int):=by
  refine List.ext_getElem (by simp) fun i h1 h2=>?_
  simp[aA.obj,bSz,h1]
 conv=>rhs;rw[h,List.countP_map]
 rw[wL,List.countP_eq_length_filter];rfl
theorem lY (w:aA): ∀(l met:List Int),bU w met l=true->(∀x∈l,inR x 0 (w.objs.length-1)=true/\ dB (w.obj x)=true)/\ (l.map Int.toNat).Nodup/\ ∀x∈l,x∉met
 |[],met,_=>by simp
 |x::l,met,h=>by
  simp only[bU,bSw]at h;obtain⟨⟨⟨h1,h2⟩,h3⟩,h4⟩:=h;obtain⟨k1,k2,k3⟩:=lY w l (met++[x]) h4;have hxm:x∉met:=by
   intro hm;simp only[bUb,List.any_eq_false]at h3;exact absurd (h3 x hm) (by simp)
  refine⟨fun y hy=>?_,?_,fun y hy=>?_⟩
  ·rcases bTp.1 hy with rfl|hy
   ·exact⟨h1,h2⟩
   ·exact k1 y hy
  ·rw[bTv,List.nodup_cons]
   refine⟨fun hm=>?_,k2⟩
   obtain⟨y,hy,he⟩:=bTu.1 hm;have a:=(k1 y hy).1;simp only[inR,bWo]at a h1;have:y=x:=by omega
   subst this;exact k3 y hy (by simp)
  ·rcases bTp.1 hy with rfl|hy
   ·exact hxm
   ·exact fun hm=>k3 y hy (by simp[hm])
theorem aXi (w:aA):aCs w=gS w:=by
 unfold aCs gS;cases hd:bU w [] w.tasks with
 |false=>simp
 |true=>
  obtain⟨k1,k2,_⟩:=lY w _ _ hd;have hsub: ∀x∈w.tasks.map Int.toNat,x∈wL w:=by
   intro x hx;obtain⟨y,hy,rfl⟩:=bTu.1 hx;obtain⟨a,b⟩:=k1 y hy;have a':=a;simp only[inR,bWo]at a'
   refine bUl.2 ⟨bTx.2 (by omega),?_⟩
   rw[bWg a'.1];exact b
  have hle:=aGn _ _ k2 hsub;rw[aA1,bSy]at hle;simp only[bTo,bUc];have hcov:aKz w w.tasks=true↔ ∀x∈wL w,x∈w.tasks.map Int.toNat:=by
   simp only[aKz,bS5,bTx,bT7,bUb,wL,bUl,bVv,bWo];constructor
   ·rintro h x ⟨hx,ht⟩
    rcases h x hx with⟨y,hy,he⟩|hf
    ·exact bTu.2 ⟨y,hy,by omega⟩
    ·rw[ht]at hf;cases hf
   ·intro h x hx;cases ht:dB (w.obj (x:Int))with
    |false=>exact .inr rfl
    |true=>
     obtain⟨y,hy,he⟩:=bTu.1 (h x ⟨hx,ht⟩);have a:=(k1 y hy).1;simp only[inR,bWo]at a;exact .inl ⟨y,hy,by omega⟩
  rw[bUu,hcov,bWo];constructor
  ·intro h;have hN:(wL w).Nodup:=List.Pairwise.filter _ List.nodup_range;have:=aGn _ _ hN h;rw[aA1,bSy]at this;omega
  ·intro he x hx
   by_cases hm:x∈w.tasks.map Int.toNat
   ·exact hm
   ·exfalso
    have:=aGn (x::w.tasks.map Int.toNat) (wL w) (List.nodup_cons.2 ⟨hm,k2⟩) fun y hy=>by
     rcases bTp.1 hy with rfl|hy
     ·exact hx
     ·exact hsub y hy
    rw[aA1,bS8,bSy]at this;omega
def yO (p:aD)(w:aA):Bool:=
 decide ((w.objs.length:Int)<=120)&&w.objs.all (aU1 p w)&&aCs w&&decide ((w.outs.length:Int)<=100)&&w.outs.all xR&&oB w.ins 50&&inR w.used 0 1000000000
theorem tK (p:aD)(w:aA)(hp:p.few)(hw:w.few):PC L 166 [.fp [.fz (p.nodes.map aL.enc),.fz (p.funs.map (.int .i64)),.i p.main,.fz (p.cons.map dC.enc),.fz (w.objs.map aP.enc),.fz (w.tasks.map (.int .i64)),.fz (w.outs.map bO.enc),.fz (w.ins.map (.int .i64)),.i w.used] 0] (.bool (yO p w)):=by
 have ask:hZ L (fun x:aP=> .agg [.i x.form,.i x.n,.fz (x.vals.map aE.enc),.fz (x.frames.map aB.enc)]) (.fn 197 [.fp [.fz (p.nodes.map aL.enc),.fz (p.funs.map (.int .i64)),.i p.main,.fz (p.cons.map dC.enc),.fz (w.objs.map aP.enc),.fz (w.tasks.map (.int .i64)),.fz (w.outs.map bO.enc),.fz (w.ins.map (.int .i64)),.i w.used] 0] []) (aU1 p w) w.objs:=by
  refine⟨fun n en hn=>?_,rfl,rfl,rfl,fun x hx en K hK=>?_⟩
  ·obtain⟨m,rfl⟩: ∃m,n=m+4:=⟨n-4,by omega⟩
   simp only[go_sem]
  ·simp only[go_sem,(aBu p w x hp hw (hw.obj x hx)).ret];exact hK
 have ask2:hZ L (fun x:bO=> .agg [.i x.port,.i x.n]) (.fn 200 [] []) xR w.outs:=by
  refine⟨fun n en hn=>?_,rfl,rfl,rfl,fun x hx en K hK=>?_⟩
  ·obtain⟨m,rfl⟩: ∃m,n=m+4:=⟨n-4,by omega⟩
   simp only[go_sem]
  ·simp only[go_sem,(zP x).ret];exact hK
 refine pcA func166 ?_
 simp only[go_sem,kK]
 refine aI (fun h1=>?_) (fun h1=>?_)
 ·have hn:w.objs.length<=1000:=by simp at h1;omega
  have ht:=aCt p w hw hn;simp only[go_sem,kK,h1,(zN _ _ _ hw.objs ask).ret]
  refine aI (fun h2=>?_) (fun h2=>?_)
  ·simp only[go_sem,kK,h2,ht.ret]
   refine aI (fun h3=>?_) (fun h3=>?_)
   ·simp only[go_sem,kK,h3]
    refine aI (fun h4=>?_) (fun h4=>?_)
    ·simp only[go_sem,kK,h4,(zO _ _ _ hw.outs ask2).ret]
     refine aI (fun h5=>?_) (fun h5=>?_)
     ·simp only[go_sem,kK,h5,(aMz _ hw.ins).ret]
      refine aI (fun h6=>?_) (fun h6=>?_)
      ·simp only[go_sem,kK,h6,(iC _ _ _).ret];simp only[yO,h1,h2,h3,h4,h5,h6,bTo]
      ·simp only[go_sem,kK,h6,bS6];simp only[yO,h1,h2,h3,h4,h5,h6,bS6,bTo,bTk]
     ·simp only[go_sem,kK,h5,bS6];simp only[yO,h1,h2,h3,h4,h5,bS6,bTo,bTk,bT6]
    ·simp only[go_sem,kK,h4,bS6];simp only[yO,h1,h2,h3,h4,bS6,bTo,bTk,bT6]
   ·simp only[go_sem,kK,h3,bS6];simp only[yO,h1,h2,h3,bS6,bTo,bTk,bT6]
  ·simp only[go_sem,kK,h2,bS6];simp only[yO,h1,h2,bS6,bTk,bT6]
 ·simp only[go_sem,kK,h1,bS6];simp only[yO,h1,bS6,bTk]
theorem aU3 (h:fJ p=true): ∀c∈p.cons,c.args<=3:=by
 intro c hc;simp only[fJ,aAu,bSw]at h;have:=bS5.1 h.1.2.1.1 c hc;simp only[xT,inR,bSw,bWo]at this;omega
theorem aM1 (p:aD)(w:aA)(h:fJ p=true):yO p w=cJ p w:=by
 have:w.objs.all (aU1 p w)=w.objs.all (dX p w):=by
  congr 1;funext o;exact bDg p w o (aU3 h)
 simp only[yO,cJ,this,aXi]
 ac_rfl
theorem aEg (p:aD)(w:aA)(hp:p.few)(hw:w.few)(hs:aU p=true):PC L 99 [.agg p.cs,.agg w.cs] (.i (if bJ p w then 0 else 2)):=by
 have hrun: ∃r,PC L 116 [.agg p.cs,.agg w.cs] (.tup [r,.bool (bJ p w)])/\ rF r=false/\ (∀n en,6<=n->snapD n en r=some (r,[])):=by
  cases hf:fJ p with
  |false=>
   refine⟨.nilp,?_,rfl,fun n en hn=>?_⟩
   ·refine pcA func116 ?_
    have hb:=yN p hp hs;rw[hf]at hb;simp only[go_sem,kK,hb.ret];simp[bJ,hf]
   ·obtain⟨m,rfl⟩: ∃m,n=m+1:=⟨n-1,by omega⟩
    rfl
  |true=>
   refine⟨.fp [.fz (p.nodes.map aL.enc),.fz (p.funs.map (.int .i64)),.i p.main,.fz (p.cons.map dC.enc),.fz (w.objs.map aP.enc),.fz (w.tasks.map (.int .i64)),.fz (w.outs.map bO.enc),.fz (w.ins.map (.int .i64)),.i w.used] 0,?_,rfl,fun n en hn=>?_⟩
   ·refine pcA func116 ?_
    have hb:=yN p hp hs;rw[hf]at hb;simp only[go_sem,kK,hb.ret,(tK p w hp hw).ret];rw[aM1 p w hf];simp[bJ,hf]
   ·obtain⟨m,rfl⟩: ∃m,n=m+1:=⟨n-1,by omega⟩
    rfl
 obtain⟨r,hr,hr1,hr2⟩:=hrun
 refine pcA func99 ?_
 simp only[go_sem,kK,hr.ret];cases hg:bJ p w<;>simp only[go_sem,kK,bS6,bTf]
theorem aK0 {L:bH}{c:bB}{st:St}{Q:Ex->St->Prop}(M:St->Prop)(h:Wp L c st fun e st'=>e= .normal/\ M st')(k: ∀fr en cnt,M ⟨fr,en,cnt⟩->Q .normal ⟨fr,en,cnt⟩):Wp L c st Q:=
 Go.Abs.wp_mono c h fun e s hs=>by obtain⟨rfl,hs⟩:=hs;exact k _ _ _ hs
variable {cs:List Val}
theorem bGb :(Val.agg (.fz xs::cs)).flat=false:=(rfl)
theorem bAh :W.apply en (.frz k)=(match en k with
  |some e=>en.set k (some e.freeze)
  |none=>en):=(rfl)
variable {f:Bool}
theorem bGc :Ent.freeze (.blk n cs f)= .blk n cs true:=(rfl)
theorem bGd :Ent.freeze (.box cs f)= .box cs true:=(rfl)
set_option maxRecDepth 100000
set_option maxHeartbeats 4000000
def uA (size:Nat):List Val->Val
 |[]=> .cl []
 |x::xs=> .own size (x::xs)
variable {b:Bool}
theorem yP :cW .eql .slice (.es b) (.es true)=some (.bool b):=(rfl)
theorem aGo {x:Val}:cW .eql .slice (.fz (x::xs)) (.es true)=some (.bool false):=(rfl)
section
variable {L :bH}{fr:Nat->Val}{cnt:Nat->Nat->Nat}{Q:St->Prop}{l:List aN}{d:Nat}{x y:Opd}
theorem tL (hx:St.get fr x= .cl [])(hy:St.get fr y= .es b)(k:jF L l ⟨jG fr d (.cl []),en,cnt⟩ Q):jF L (⟨some d,.append size x y,none⟩::l) ⟨fr,en,cnt⟩ Q:=by
 rw[aT4 (by rfl)]
 simp only[bTq,dG,eval,fZ,hx,hy,jI,dA,if_true,List.isEmpty_nil,aPu,gD];exact k
theorem rN {z:Val}{zs:List Val}(hx:St.get fr x= .cl [])(hy:St.get fr y= .fz (z::zs))(h1:dA size (z::zs)=true)(hl:(z::zs).length<=16777216)
  (k:jF L l ⟨jG fr d (.bl ⟨0,d,cnt 0 d⟩ 0 (z::zs).length),en.set ⟨0,d,cnt 0 d⟩ (some (.blk size (z::zs) false)),aC cnt 0 d (cnt 0 d+1)⟩ Q):jF L (⟨some d,.append size x y,none⟩::l) ⟨fr,en,cnt⟩ Q:=by
 rw[aT4 (by rfl)]
 have he:jI en (.fz (z::zs))=some (z::zs,[]):=bCv;simp only[bTq,dG,eval,fZ,hx,hy,he,h1,if_true,List.isEmpty_cons,bS0,if_false];rw[if_pos ⟨by simpa using hl,rfl⟩]
 simp only[aIb,lF,gD,zF,bTd,bTw,bT4];exact k
end
theorem rO (xs:List Val)(h1:dA 1 xs=true)(hl:xs.length<=16777216):PC L 104 [.fz xs] (uA 1 xs):=by
 cases xs with
 |nil=>
  have hL:=at_ func104
  conv at hL=>rhs;reduce
  refine aL8 hL rfl rfl (.inl rfl) (rC ?_) (rC ?_)
  ·simp only[go_sem,kK,yP];rfl
  ·simp only[go_sem,kK,yP]
   refine tL (b:=false) (by simp only[go_sem]) (by simp only[go_sem]) ?_
   simp only[go_sem];rfl
 |cons x xs=>
  refine pcA func104 ?_
  simp only[go_sem,kK,aGo]
  refine rN (by simp only[go_sem]) (by simp only[go_sem]) h1 hl ?_
  simp only[go_sem];rfl
theorem aGp (xs:List Val)(h1:dA 2 xs=true)(hl:xs.length<=16777216):PC L 105 [.fz xs] (uA 2 xs):=by
 cases xs with
 |nil=>
  have hL:=at_ func105
  conv at hL=>rhs;reduce
  refine aL8 hL rfl rfl (.inl rfl) (rC ?_) (rC ?_)
  ·simp only[go_sem,kK,yP];rfl
  ·simp only[go_sem,kK,yP]
   refine tL (b:=false) (by simp only[go_sem]) (by simp only[go_sem]) ?_
   simp only[go_sem];rfl
 |cons x xs=>
  refine pcA func105 ?_
  simp only[go_sem,kK,aGo]
  refine rN (by simp only[go_sem]) (by simp only[go_sem]) h1 hl ?_
  simp only[go_sem];rfl
theorem rP (xs:List Val)(h1:dA 2 xs=true)(hl:xs.length<=16777216):PC L 106 [.fz xs] (uA 2 xs):=by
 cases xs with
 |nil=>
  have hL:=at_ func106
  conv at hL=>rhs;reduce
  refine aL8 hL rfl rfl (.inl rfl) (rC ?_) (rC ?_)
  ·simp only[go_sem,kK,yP];rfl
  ·simp only[go_sem,kK,yP]
   refine tL (b:=false) (by simp only[go_sem]) (by simp only[go_sem]) ?_
   simp only[go_sem];rfl
 |cons x xs=>
  refine pcA func106 ?_
  simp only[go_sem,kK,aGo]
  refine rN (by simp only[go_sem]) (by simp only[go_sem]) h1 hl ?_
  simp only[go_sem];rfl
theorem qK (h:xs≠[]):uA size xs= .own size xs:=by cases xs<;>first|rfl|exact absurd rfl h
theorem xW (l:List aE):dA 2 (l.map aE.enc)=true:=by cases l<;>rfl
theorem aJt (l:List bO):dA 2 (l.map bO.enc)=true:=by cases l<;>rfl
theorem tM (l:List Int):dA 1 (l.map (Val.int .i64))=true:=by cases l<;>rfl
variable {k':Key}
theorem bDi :kQ (.frz k) (.val k')=true:=rfl
theorem bDj {o:Nat}:kQ (.frz k) (.cells k' o n)=true:=rfl
theorem bDk :nQ (.frz k) (.frz k')=true:=rfl
theorem bDl {e:Option Ent}:nQ (.frz k) (.ent k' e)=decide (k≠k'):=rfl
variable {vs:List Val}
theorem bDm {o:Nat}:nQ (.frz k) (.cells k' o vs)=decide (k≠k'):=rfl
theorem bDn :kQ (.frz k) (.flag k')=decide (k≠k'):=rfl
theorem bAi {o:Nat}:nQ (.cells k o vs) (.frz k')=decide (k≠k'):=rfl
theorem bDo :(Val.fz xs).flat=false:=(rfl)
attribute [go_sem] bDi bDj bDk bDl bDm bDn bAi bDo bGb bAh bGc bGd
theorem rH {xs:List Val}:(Val.cl xs).one=true:=(rfl)
theorem lZ {xs:List Val}:(Val.cl xs).cells=[.cl xs]:=(rfl)
theorem wM {k:Key}{a b:Nat}:(Val.bl k a b).one=true:=(rfl)
theorem oD {k:Key}{a b:Nat}:(Val.bl k a b).cells=[.bl k a b]:=(rfl)
theorem bGe {a b:IntKind}{i j:Int}:(Val.agg (.int a i:: .int b j:: .fz xs::cs)).flat=false:=(rfl)
theorem kB :type_of% @rH/\ type_of% @lZ/\ type_of% @wM/\ type_of% @oD:=⟨@rH,@lZ,@wM,@oD⟩
theorem aK1 {g:Nat}(h:en ⟨0,t,g⟩=some (.blk size xs f))(hx:n=xs.length):cX en (.bl ⟨0,t,g⟩ 0 n) size xs [t]:= .inr ⟨t,g,f,by rw[hx],h,by simp⟩
theorem jU (size:Nat)(xs:List Val):(xs=[]/\ uA size xs= .cl []) \/(xs≠[]/\ uA size xs= .own size xs):=by
 cases xs with
 |nil=>exact .inl ⟨rfl,rfl⟩
 |cons x xs=>exact .inr ⟨by simp,rfl⟩
theorem rQ {α:Type}{f:α->Val}{l:List α}:(l.map f).take l.length=l.map f:=bTh (by simp)
theorem aM2 (h:bZ w=true):w.objs.length<=130/\ w.tasks.length<=130/\ w.outs.length<=110/\ w.ins.length<=60:=by
 simp only[bZ,bSw,bWo]at h;omega
def bH8 :fR:={np:=2,res:=[.tmp 4],keep:=false,body:=
 (.seq (.ops [mC 4 (.bool false)])
 (.seq (.seq (.ops [mT 6 0,
 lN 7 6,
 mT 8 1,
 lN 9 8,
 bN 10 .neq (.t 7) (.t 9)])
 (.cond (.t 10)
 (.seq (.ops [mC 4 (.bool false)])
 .ret)
 .skip))
 (.seq (.seq (.ops [mT 11 0,
 lN 12 11,
 mC 13 (.int .i64 0)])
 (.block 0 (.loop (.seq (.ops [bN 14 .lss (.t 13) (.t 12)])
 (.seq (.cond (.t 14)
 .skip
 (.exit 0))
 (.seq (.block 1 (.seq (.ops [mT 15 13,
 mT 5 15])
 (.seq (.draw [mT 16 0,
 mT 17 5,
 iA 18 2 16 17,
 lT 19 2 18,
 mT 20 1,
 mT 21 5,
 iA 22 2 20 21,
 lT 23 2 22,
 o 24 (.bin .neq (.agg [.num,.num]) (.t 19) (.t 23))]
 [])
 (.cond (.t 24)
 (.seq (.ops [mC 4 (.bool false)])
 .ret)
 .skip))))
 (.ops [bN 25 .add (.t 13) (cI 1),
 mT 13 25])))))))
 (.seq (.ops [mC 4 (.bool true)])
 .ret))))}
theorem bM6 :L 158=some bH8:=by kernel_rfl
set_option maxRecDepth 100000
set_option maxHeartbeats 4000000
section
variable {α :Type}{f g:Nat->α}{k:Nat}
end
theorem aGq (a b:List Int)(ha:Few a.length):PC L 162 [.is a,.is b] (.bool (decide (a=b))):=by
 refine pcA func162 ?_
 simp only[go_sem,kK]
 refine aG (fun h=>?_) (fun h=>?_)
 ·simp only[go_sem,kK]
  simp at h
  have: ¬a=b:=by rintro rfl;exact h rfl
  simp[this]
 ·have hl:a.length=b.length:=by simp at h;exact h
  simp only[go_sem]
  refine bK (a.length) (fun k st=> ∃fr en cnt,st=⟨fr,en,cnt⟩/\ (fr 0= .is a)/\ (fr 1= .is b)/\ (fr 12= .i a.length)/\ (fr 13= .i k)/\ (a.take k=b.take k)) 0 (bS4 _) (by refine⟨_,_,_,rfl,?_,?_,?_,?_,?_⟩<;>first|(simp only[go_sem];(try rfl);done)|rfl|simp) ?_
  rintro k st hk ⟨fr,en,cnt,rfl,h0,h1,h12,h13,hI⟩
  simp only[go_sem,kK,h12,h13]
  refine aG (fun hq=>?_) (fun hq=>?_)
  ·have h':k<a.length:=D_o hq;have h'':k<b.length:=by omega
   simp only[go_sem,kK,h',h'',h0,h1,h13]
   refine aG (fun hb=>?_) (fun hb=>?_)
   ·simp only[go_sem,kK]
    simp at hb
    simp[aEf h' h'' hb]
   ·simp only[go_sem,h13]
    simp at hb
    refine⟨_,_,_,rfl,?_⟩
    simp only[go_sem,h0,h1,h12,aR h' ha];exact sV h' h'' hI hb
  ·have:k=a.length:=by simp at hq;omega
   subst this;simp only[go_sem];simp[sW hl hI]
theorem aA2 (a b:List aE)(ha:Few a.length):PC L 158 [.fz (a.map aE.enc),.fz (b.map aE.enc)] (.bool (decide (a=b))):=by
 refine cD bM6 rfl rfl ?_
 simp only[go_sem,kK,bH8]
 refine aG (fun h=>?_) (fun h=>?_)
 ·simp only[go_sem,kK]
  simp at h
  have: ¬a=b:=by rintro rfl;exact h rfl
  simp[this]
 ·have hl:a.length=b.length:=by simp at h;exact h
  simp only[go_sem]
  refine bK (a.length) (fun k st=> ∃fr en cnt,st=⟨fr,en,cnt⟩/\ (fr 0= .fz (a.map aE.enc))/\ (fr 1= .fz (b.map aE.enc))/\ (fr 12= .i a.length)/\ (fr 13= .i k)/\ (a.take k=b.take k)) 0 (bS4 _) (by refine⟨_,_,_,rfl,?_,?_,?_,?_,?_⟩<;>first|(simp only[go_sem];(try rfl);done)|rfl|simp) ?_
  rintro k st hk ⟨fr,en,cnt,rfl,h0,h1,h12,h13,hI⟩
  simp only[go_sem,kK,h12,h13]
  refine aG (fun hq=>?_) (fun hq=>?_)
  ·have h':k<a.length:=D_o hq;have h'':k<b.length:=by omega
   simp only[go_sem,kK,h',h'',h0,h1,h13,aE.eq_iff]
   refine aG (fun hb=>?_) (fun hb=>?_)
   ·simp only[go_sem,kK]
    simp at hb
    simp[aEf h' h'' hb]
   ·simp only[go_sem,h13]
    simp at hb
    refine⟨_,_,_,rfl,?_⟩
    simp only[go_sem,h0,h1,h12,aR h' ha];exact sV h' h'' hI hb
  ·have:k=a.length:=by simp at hq;omega
   subst this;simp only[go_sem];simp[sW hl hI]
theorem aB.eq_iff {a b:aB}:decide (a=b)=(decide (a.node=b.node)&&decide (a.env=b.env)&&decide (a.vals=b.vals)):=by
 cases a;cases b;simp[Bool.and_assoc]
theorem aP.eq_iff {a b:aP}:decide (a=b)=(decide (a.form=b.form)&&decide (a.n=b.n)&&decide (a.vals=b.vals)&&decide (a.frames=b.frames)):=by
 cases a;cases b;simp[Bool.and_assoc]
def aJu (en:En)(v:Val)(size:Nat)(xs:List Val)(t:Nat):Prop:=(v= .cl []/\ xs=[]) \/ ∃g,v= .bl ⟨0,t,g⟩ 0 xs.length/\ en ⟨0,t,g⟩=some (.blk size xs false)
theorem aJu.mine (h:aJu en v size xs t):cX en v size xs [t]:=by
 rcases h with h|⟨g,h1,h2⟩
 ·exact .inl h
 ·exact .inr ⟨t,g,false,h1,h2,by simp⟩
theorem bJx {a b:List Val}:cW .neq .map (.fm a b) .nilm=some (.bool true):=(rfl)
theorem bGf {ks:List Val}{f:Bool}:Ent.freeze (.map ks vs f)= .map ks vs true:=(rfl)
theorem bGg {off:Nat}:fG (.agg cs) off vs= .agg (setCells cs off vs):=(rfl)
attribute [go_sem] bJx bH7 bGf bGg bDh aU2
end Go.Proofs.YtmafmhjndjmalaaGreat
namespace Go.Abs
structure fB where
 task:Int
 act:Int
 n:Int
 v:aE
structure Did where
 w:aA
 what:Int
 e:fB
def Did.enc (d:Did):Val:= .agg [.fz (d.w.objs.map aP.enc),.fz (d.w.tasks.map (.int .i64)),.fz (d.w.outs.map bO.enc),.fz (d.w.ins.map (.int .i64)),.i d.w.used,.i d.what,.i d.e.task,.i d.e.act,.i d.e.n,.i d.e.v.kind,.i d.e.v.n]
def iV :aE:=⟨0,0⟩
def eM :fB:=⟨0,0,0,iV⟩
def bDp :aP:=⟨0,0,[],[]⟩
def dJ :aB:=⟨0,[],[]⟩
def bT :aE:=⟨3,0⟩
def nP (n:Int):aE:=⟨1,n⟩
def nW (b:Bool):aE:=⟨2,if b=true then 1 else 0⟩
def dQ (n:Int):aE:=⟨5,n⟩
def nG (v:aE):aE:=if v.kind=4 \/v.kind=5 then dQ 0 else v
def aX (w:aA)(a:Int):Int:=w.tasks.getD a.toNat 0
def dD (w:aA)(n:Int)(o:aP):aA:=⟨w.objs.set n.toNat o,w.tasks,w.outs,w.ins,w.used⟩
def eF (w:aA)(o:aP):aA:=⟨w.objs++[o],w.tasks,w.outs,w.ins,w.used⟩
def bG (w:aA)(a st:Int):Did:=⟨dD w (aX w a) ⟨6,st,[],[]⟩,1,⟨a,0,st,iV⟩⟩
def cC (w:aA)(a:Int)(left:List aB)(v:aE):Did:=⟨dD w (aX w a) ⟨6,0,[v],left⟩,0,eM⟩
def iD (w:aA)(a:Int)(left:List aB)(node:Int)(env:List aE):Did:=
 if 40<=left.length \/30<env.length then bG w a 4 else⟨dD w (aX w a) ⟨6,0,[],left++[⟨node,env,[]⟩]⟩,0,eM⟩
def iW (w:aA)(a:Int)(left:List aB)(o:aP):Did:=if 120<=w.objs.length then bG w a 4 else cC (eF w o) a left (dQ w.objs.length)
def dL (d:Did)(a act n:Int)(v:aE):Did:=if d.what=1 then d else⟨d.w,1,⟨a,act,n,nG v⟩⟩
def cG (w:aA)(v:aE)(form:Int):Bool:=decide (v.kind=5)&&decide ((w.obj v.n).form=form)
def bJy (p:aD)(n:Int):Int:=p.funs.getD n.toNat 0
def pK (n:aL)(i:Int):Int:=n.kids.getD i.toNat 0
def eW (p:aD)(w:aA)(f v:aE):Option aB:=
 if f.kind=4 then some ⟨bJy p f.n,[v],[]⟩
 else if cG w f 2=true then some ⟨pK (p.node (w.obj f.n).n) 0,(w.obj f.n).vals++[v],[]⟩else none
def fK (p:aD)(w:aA)(a:Int)(left:List aB)(f v:aE):Did:=
 if cG w f 5=true then(if 40<(left++(w.obj f.n).frames).length then bG w a 4 else cC w a (left++(w.obj f.n).frames) v)
 else match eW p w f v with
  |none=>bG w a 2
  |some b=>iD w a left b.node b.env
def sH (op x y:Int):Int:=if op=9 then x+y else if op=10 then x-y else if op=11 then x*y else 0
def cN (w:aA)(a:Int)(left:List aB)(op:Int)(u v:aE):Did:=
 if op=13 then(if¬u.kind=v.kind \/3<u.kind then bG w a 2 else cC w a left (nW (decide (u=v))))
 else if¬u.kind=1 \/ ¬v.kind=1 then bG w a 2
 else if op=12 then cC w a left (nW (decide (u.n<v.n)))
 else if inR (sH op u.n v.n) (-1000000000) 1000000000=true then cC w a left (nP (sH op u.n v.n))else bG w a 4
mutual
def fW (w:aA):Pat->aE->Option (List aE)
 | .mk f n _ ps,v=>
  if f=1 then some []
  else if f=2 then some [v]
  else if f=3 then(if v=nP n then some []else none)
  else if f=4 then(if v=nW (decide (n=1))then some []else none)
  else if f=5 then(if v=bT then some []else none)
  else if cG w v 1=true/\ (w.obj v.n).n=n/\ (w.obj v.n).vals.length=ps.length then fF w ps (w.obj v.n).vals else none
def fF (w:aA):List Pat->List aE->Option (List aE)
 |q::ps,v::vs=>match fW w q v with
  |none=>none
  |some l=>match fF w ps vs with
   |none=>none
   |some r=>some (l++r)
 |_,_=>some []
end
def kM (w:aA)(a:Int)(left:List aB)(kids:List Int)(env:List aE)(u:aE):Nat->List Pat->Did
 |_,[]=>bG w a 3
 |i,q::qs=>match fW w q u with
  |some l=>iD w a left (kids.getD (1+i) 0) (env++l)
  |none=>kM w a left kids env u (i+1) qs
def kX (w:aA)(a:Int)(left:List aB)(n:aL)(env:List aE)(u:aE):Did:=kM w a left n.kids env u 0 n.pats
def gG (p:aD)(left:List aB):Nat->Nat
 |0=>0
 |k+1=>if(p.node (left.getD k default).node).op=26 then k+1 else gG p left k
def fL (p:aD)(w:aA)(a:Int)(left:List aB)(kid:Int)(env:List aE):Did:=
 match gG p left left.length with
 |0=>bG w a 3
 |k+1=>
  if 120<=w.objs.length then bG w a 4
  else
   let d:=iD (eF w ⟨5,0,[],left.drop k⟩) a (left.take (k+1)) kid (env++[dQ w.objs.length])
   if d.what=1 then bG w a d.e.n else d
def rR (w:aA):aA:=⟨w.objs,w.tasks++[(w.objs.length:Int)-1],w.outs,w.ins,w.used⟩
def aBs (w:aA)(a:Int)(left:List aB)(o:aP):Did:=
 let d:=iW w a left o
 dL (if d.what=1 then d else⟨rR d.w,d.what,d.e⟩) a 19 0 bT
def eR (p:aD)(w:aA)(a:Int)(left:List aB)(f:aE):Did:=
 if cG w f 5=true then aBs w a left ⟨6,0,[bT],(w.obj f.n).frames⟩
 else match eW p w f bT with
  |none=>bG w a 2
  |some b=>if 30<b.env.length then bG w a 4 else aBs w a left ⟨6,0,[],[b]⟩
def aF (l:List aE)(i:Nat):aE:=l.getD i iV
def eZ (w:aA)(a:Int)(left:List aB)(op:Int)(l:List aE):Did:=
 if op=16 then dL (iW w a left ⟨3,0,[aF l 0],[]⟩) a op 0 (aF l 0)
 else if cG w (aF l 0) 3=true then
  (if op=17 then dL (cC w a left (aF (w.obj (aF l 0).n).vals 0)) a op 0 (aF (w.obj (aF l 0).n).vals 0)
  else dL (cC (dD w (aF l 0).n ⟨3,0,[aF l 1],[]⟩) a left bT) a op 0 (aF l 1))
 else bG w a 2
def mZ (w:aA):Did:=⟨w,2,eM⟩
def cE (w:aA)(a:Int)(left:List aB)(op:Int)(l:List aE):Did:=
 if cG w (aF l 0) 4=true then
  (if op=22 then
   (if 4<=(w.obj (aF l 0).n).vals.length then mZ w
   else dL (cC (dD w (aF l 0).n ⟨4,0,(w.obj (aF l 0).n).vals++[aF l 1],[]⟩) a left bT) a op 0 (aF l 1))
  else if(w.obj (aF l 0).n).vals.length=0 then mZ w
  else dL (cC (dD w (aF l 0).n ⟨4,0,(w.obj (aF l 0).n).vals.drop 1,[]⟩) a left (aF (w.obj (aF l 0).n).vals 0)) a op 0 (aF (w.obj (aF l 0).n).vals 0))
 else bG w a 2
def gV (w:aA)(a:Int)(left:List aB)(v:aE):Did:=
 if cG w v 6=true then
  (if(w.obj v.n).n=0 then mZ w
  else if¬(w.obj v.n).n=1 then bG w a (w.obj v.n).n
  else dL (cC w a left (aF (w.obj v.n).vals 0)) a 20 0 (aF (w.obj v.n).vals 0))
 else bG w a 2
def dM (w:aA)(a:Int)(left:List aB)(op port:Int)(l:List aE):Did:=
 if op=25 then
  (match w.ins with
  |[]=>mZ w
  |x::xs=>if 1000000000<=w.used then bG w a 4 else dL (cC ⟨w.objs,w.tasks,w.outs,xs,w.used+1⟩ a left (nP x)) a op 0 (nP x))
 else if¬(aF l 0).kind=1 then bG w a 2
 else if 100<=w.outs.length then bG w a 4
 else dL (cC ⟨w.objs,w.tasks,w.outs++[⟨port,(aF l 0).n⟩],w.ins,w.used⟩ a left bT) a op port (aF l 0)
def bV (p:aD)(w:aA)(a:Int)(left:List aB)(f:aB)(n:aL):Did:=
 if n.op=1 then cC w a left (nP n.n)
 else if n.op=2 then cC w a left (nW (decide (n.n=1)))
 else if n.op=3 then cC w a left bT
 else if n.op=4 then(if n.n<0 then cC w a left ⟨4,-1-n.n⟩else if(f.env.length:Int)<=n.n then bG w a 2 else cC w a left (aF f.env n.n.toNat))
 else if n.op=5 then iW w a left ⟨2,f.node,f.env,[]⟩
 else if n.op=6 then fK p w a left (aF f.vals 0) (aF f.vals 1)
 else if n.op=7 then iD w a left (pK n 1) (f.env++[aF f.vals 0])
 else if n.op=8 then(if¬(aF f.vals 0).kind=2 then bG w a 2 else iD w a left (pK n (2-(aF f.vals 0).n)) f.env)
 else if n.op=9 \/n.op=10 \/n.op=11 \/n.op=12 \/n.op=13 then cN w a left n.op (aF f.vals 0) (aF f.vals 1)
 else if n.op=14 then iW w a left ⟨1,n.n,f.vals,[]⟩
 else if n.op=15 then kX w a left n f.env (aF f.vals 0)
 else if n.op=26 then cC w a left (aF f.vals 0)
 else if n.op=27 then fL p w a left (pK n 0) f.env
 else if n.op=16 \/n.op=17 \/n.op=18 then eZ w a left n.op f.vals
 else if n.op=19 then eR p w a left (aF f.vals 0)
 else if n.op=20 then gV w a left (aF f.vals 0)
 else if n.op=21 then dL (iW w a left ⟨4,0,[],[]⟩) a 21 0 bT
 else if n.op=22 \/n.op=23 then cE w a left n.op f.vals
 else if n.op=24 \/n.op=25 then dM w a left n.op n.n f.vals
 else dL (cC w a left bT) a 28 0 bT
def qL (p:aD)(w:aA)(a:Int)(left:List aB)(f:aB):Did:=bV p w a left f (p.node f.node)
def aCu (l:List aB)(v:aE):List aB:=l.set (l.length-1) ⟨(l.getD (l.length-1) dJ).node,(l.getD (l.length-1) dJ).env,(l.getD (l.length-1) dJ).vals++[v]⟩
def aM (p:aD)(w:aA)(a:Int):Did:=
 let o:=w.obj (aX w a)
 if¬o.n=0 then mZ w
 else if o.vals.length=1 then
  (if o.frames.length=0 then⟨dD w (aX w a) ⟨6,1,[aF o.vals 0],[]⟩,1,⟨a,0,1,nG (aF o.vals 0)⟩⟩
  else⟨dD w (aX w a) ⟨6,0,[],aCu o.frames (aF o.vals 0)⟩,0,eM⟩)
 else
  let f:=o.frames.getD (o.frames.length-1) dJ
  if(f.vals.length:Int)<(p.node f.node).asks then iD w a o.frames (pK (p.node f.node) f.vals.length) f.env
  else qL p w a (o.frames.take (o.frames.length-1)) f
end Go.Abs
namespace Go.Proofs.YtmafmhjndjmalaaGreat
open Go.Abs Go.Proofs Tryz
set_option maxRecDepth 100000
set_option maxHeartbeats 4000000
variable {size n:Nat}{rs:List R}{ys:List Val}{k:Key}
section
variable {L :bH}{fr:Nat->Val}{en:En}{cnt:Nat->Nat->Nat}{Q:St->Prop}{l:List aN}{d g:Nat}{dst:Option Nat}{get:Opd->Val}
def aO4 (d g:Nat)(en:En)(size:Nat)(x:Val)(s:Option (List Val×List R)):Option Res:=fZ 0 d g en size x s
theorem eP {x y:Opd}:dG d g en get (.append size x y)=aO4 d g en size (get x) (jI en (get y)):=(rfl)
theorem oE :aO4 d g en size (.cl []) (some ([],rs))=some {v:= .cl [],rs}:=by simp[aO4,fZ,dA]
theorem jR (h0:ys.isEmpty=false)(h1:dA size ys=true)(hl:ys.length<=16777216):
  aO4 d g en size (.cl []) (some (ys,rs))=some {v:= .bl ⟨0,d,g⟩ 0 ys.length,ws:=[.ent ⟨0,d,g⟩ (some (.blk size ys false))],rs,bump:=true}:=by
 have hz:dA size []=true:=rfl;simp[aO4,fZ,h1,h0,hl,hz]
def bDq (d g:Nat)(k:Key)(size n:Nat)(ys:List Val)(rs:List R)(e:Option Ent):Option Res:=
 match e with
 |some (.blk sz xs f)=>if(0+n=xs.length \/f=false/\ 0+n<=xs.length)/\ n+ys.length<=16777216/\ sz=size/\ (k.deep=true->0=3)then
      some {v:= .bl ⟨0,d,g⟩ 0 (n+ys.length),ws:=[.ent k none,.ent ⟨0,d,g⟩ (some (.blk size ((xs.take (0+n)).drop 0++ys) f))],rs:= .val k:: .flag k::rs,bump:=true}else none
 |_=>none
theorem wN (h1:dA size ys=true):aO4 d g en size (.bl k 0 n) (some (ys,rs))=bDq d g k size n ys rs (en k):=by
 simp only[aO4,fZ,h1,if_true];rfl
theorem mA {xs:List Val}{f:Bool}(hn:n=xs.length)(hl:n+ys.length<=16777216)(hd:k.deep=false):
  bDq d g k size n ys rs (some (.blk size xs f))=some {v:= .bl ⟨0,d,g⟩ 0 (n+ys.length),ws:=[.ent k none,.ent ⟨0,d,g⟩ (some (.blk size (xs++ys) f))],rs:= .val k:: .flag k::rs,bump:=true}:=by
 subst hn;simp[bDq,hl,hd]
@[congr] theorem bJz {e e':Option Ent}(h:e=e'):bDq d g k size n ys rs e=bDq d g k size n ys rs e':=by rw[h]
end
theorem aA3 (l:List aP):dA 4 (l.map aP.enc)=true:=by cases l<;>rfl
theorem aDr (l:List Int):dA 1 (l.map (.int .i64))=true:=by cases l<;>rfl
theorem aR7 (l:List bO):dA 2 (l.map bO.enc)=true:=by cases l<;>rfl
theorem uO (l:List aE):dA 2 (l.map aE.enc)=true:=by cases l<;>rfl
theorem jV (l:List aB):dA 3 (l.map aB.enc)=true:=by cases l<;>rfl
theorem aDs {a b:Int}:dA 2 [.agg [.i a,.i b]]=true:=(rfl)
theorem jC {α:Type}{f:α->Val}{l:List α}:(l.map f).isEmpty=l.isEmpty:=by cases l<;>rfl
theorem aM3 {α:Type}{l:List α}(h:0<l.length):l.isEmpty=false:=by cases l<;>simp at h⊢
theorem aM4 (n:Int):PC L 64 [.i n] (.agg [.i (dQ n).kind,.i (dQ n).n]):=by
 refine pcA func64 ?_
 simp only[go_sem,kK,dQ]
theorem aFb (n:Int):PC L 40 [.i n] (.agg [.i (nP n).kind,.i (nP n).n]):=by
 refine pcA func40 ?_
 simp only[go_sem,kK,nP]
theorem nX :PC L 125 [] (.agg [.i bT.kind,.i bT.n]):=by
 refine pcA func125 ?_
 simp only[go_sem,kK,bT]
theorem aK2 (b:Bool):PC L 124 [.bool b] (.agg [.i (nW b).kind,.i (nW b).n]):=by
 refine pcA func124 ?_
 cases b<;>simp only[go_sem,kK,nW]
theorem aIm (v:aE):PC L 20 [.agg [.i v.kind,.i v.n]] (.agg [.i (nG v).kind,.i (nG v).n]):=by
 obtain⟨k,n⟩:=v
 refine pcA func20 ?_
 by_cases h4:k=4
 ·subst h4;simp only[go_sem,kK,(aM4 0).ret,nG,true_or,dQ]
 ·have g4:decide (k=4)=false:=D_f h4
  by_cases h5:k=5
  ·subst h5;simp only[go_sem,kK,(aM4 0).ret,nG,or_true,dQ]
  ·have g5:decide (k=5)=false:=D_f h5;simp only[go_sem,kK,nG,h4,h5,or_self]
theorem aGr (l:List aE)(v:aE)(hl:l.length<1000000):PC L 81 [.fz (l.map aE.enc),.agg [.i v.kind,.i v.n]] (.fz ((l++[v]).map aE.enc)):=by
 have hlen:l.length+1<=16777216:=by omega
 have hl1:l.length<=16777216:=by omega
 refine pcA func81 ?_
 simp only[go_sem,kK]
 refine aH ?_
 cases hl0:l.isEmpty with
 |true=>
  have:l=[]:=by simpa using hl0
  subst this;simp only[go_sem,bW,eP,oE,jR,List.isEmpty_cons,aDs,kA,bS0,if_false]
 |false=>
  simp only[go_sem,bW,eP,jR,wN,jC,hl0,hl1,hlen,mA,uO,aDs,bSy,bTg,bVn,bSx,bTh,bT0,kA,bS0,if_false]
  trace_state
end Go.Proofs.YtmafmhjndjmalaaGreat
namespace Go.Abs
inductive OpR where
 |go (ev:Option fB) (w:aA) (left:List aB) (back:List aE)
 |wait
 |fail (s:Int)
def OpR.did (w:aA)(a:Int):OpR->Did
 | .go none w' left back=>⟨dD w' (aX w' a) ⟨6,0,back,left⟩,0,eM⟩
 | .go (some e) w' left back=>⟨dD w' (aX w' a) ⟨6,0,back,left⟩,1,e⟩
 | .wait=>mZ w
 | .fail s=>bG w a s
def jD (w:aA)(left:List aB)(v:aE):OpR:= .go none w left [v]
def kY (w:aA)(a:Int)(left:List aB)(op n:Int)(v e:aE):OpR:= .go (some ⟨a,op,n,nG e⟩) w left [v]
def oY (w:aA)(left l:List aB):OpR:=if 40<(left++l).length then .fail 4 else .go none w (left++l) []
def iX (w:aA)(left:List aB)(node:Int)(env:List aE):OpR:=if 30<env.length then .fail 4 else oY w left [⟨node,env,[]⟩]
def iE (w:aA)(o:aP)(k:aA->aE->OpR):OpR:=if 120<=w.objs.length then .fail 4 else k (eF w o) (dQ w.objs.length)
def dY (w:aA)(left:List aB)(kids:List Int)(env:List aE)(u:aE):Nat->List Pat->OpR
 |_,[]=> .fail 3
 |i,q::qs=>match fW w q u with
  |some l=>iX w left (kids.getD (1+i) 0) (env++l)
  |none=>dY w left kids env u (i+1) qs
def opR (p:aD)(w:aA)(a:Int)(left:List aB)(f:aB)(n:aL):OpR:=
 if n.op=1 then jD w left (nP n.n)
 else if n.op=2 then jD w left (nW (decide (n.n=1)))
 else if n.op=3 then jD w left bT
 else if n.op=4 then(if n.n<0 then jD w left ⟨4,-1-n.n⟩else if(f.env.length:Int)<=n.n then .fail 2 else jD w left (aF f.env n.n.toNat))
 else if n.op=5 then iE w ⟨2,f.node,f.env,[]⟩ fun w' v=>jD w' left v
 else if n.op=6 then
  (match eW p w (aF f.vals 0) (aF f.vals 1)with
  |some b=>iX w left b.node b.env
  |none=>if cG w (aF f.vals 0) 5=true then(if 40<(left++(w.obj (aF f.vals 0).n).frames).length then .fail 4 else .go none w (left++(w.obj (aF f.vals 0).n).frames) [aF f.vals 1])else .fail 2)
 else if n.op=7 then iX w left (pK n 1) (f.env++[aF f.vals 0])
 else if n.op=8 then(if¬(aF f.vals 0).kind=2 then .fail 2 else iX w left (pK n (2-(aF f.vals 0).n)) f.env)
 else if n.op=13 then(if¬(aF f.vals 0).kind=(aF f.vals 1).kind \/3<(aF f.vals 0).kind then .fail 2 else jD w left (nW (decide (aF f.vals 0=aF f.vals 1))))
 else if n.op=12 then(if¬(aF f.vals 0).kind=1 \/ ¬(aF f.vals 1).kind=1 then .fail 2 else jD w left (nW (decide ((aF f.vals 0).n<(aF f.vals 1).n))))
 else if n.op=9 \/n.op=10 \/n.op=11 then
  (if¬(aF f.vals 0).kind=1 \/ ¬(aF f.vals 1).kind=1 then .fail 2
  else if inR (sH n.op (aF f.vals 0).n (aF f.vals 1).n) (-1000000000) 1000000000=true then jD w left (nP (sH n.op (aF f.vals 0).n (aF f.vals 1).n))else .fail 4)
 else if n.op=14 then iE w ⟨1,n.n,f.vals,[]⟩ fun w' v=>jD w' left v
 else if n.op=15 then dY w left n.kids f.env (aF f.vals 0) 0 n.pats
 else if n.op=26 then jD w left (aF f.vals 0)
 else if n.op=27 then
  (match gG p left left.length with
  |0=> .fail 3
  |k+1=>iE w ⟨5,0,[],left.drop k⟩ fun w' v=>iX w' (left.take (k+1)) (pK n 0) (f.env++[v]))
 else if n.op=16 then iE w ⟨3,0,[aF f.vals 0],[]⟩ fun w' v=>kY w' a left 16 0 v (aF f.vals 0)
 else if n.op=17 then(if cG w (aF f.vals 0) 3=true then kY w a left 17 0 (aF (w.obj (aF f.vals 0).n).vals 0) (aF (w.obj (aF f.vals 0).n).vals 0)else .fail 2)
 else if n.op=18 then(if cG w (aF f.vals 0) 3=true then kY (dD w (aF f.vals 0).n ⟨3,0,[aF f.vals 1],[]⟩) a left 18 0 bT (aF f.vals 1)else .fail 2)
 else if n.op=19 then
  (match eW p w (aF f.vals 0) bT with
  |some b=>if 30<b.env.length then .fail 4 else iE w ⟨6,0,[],[b]⟩ fun w' v=>kY (rR w') a left 19 0 v bT
  |none=>if cG w (aF f.vals 0) 5=true then iE w ⟨6,0,[bT],(w.obj (aF f.vals 0).n).frames⟩ fun w' v=>kY (rR w') a left 19 0 v bT else .fail 2)
 else if n.op=20 then
  (if cG w (aF f.vals 0) 6=true then
   (if(w.obj (aF f.vals 0).n).n=0 then .wait
   else if¬(w.obj (aF f.vals 0).n).n=1 then .fail (w.obj (aF f.vals 0).n).n
   else kY w a left 20 0 (aF (w.obj (aF f.vals 0).n).vals 0) (aF (w.obj (aF f.vals 0).n).vals 0))
  else .fail 2)
 else if n.op=21 then iE w ⟨4,0,[],[]⟩ fun w' v=>kY w' a left 21 0 v bT
 else if n.op=22 then
  (if cG w (aF f.vals 0) 4=true then
   (if 4<=(w.obj (aF f.vals 0).n).vals.length then .wait
   else kY (dD w (aF f.vals 0).n ⟨4,0,(w.obj (aF f.vals 0).n).vals++[aF f.vals 1],[]⟩) a left 22 0 bT (aF f.vals 1))
  else .fail 2)
 else if n.op=23 then
  (if cG w (aF f.vals 0) 4=true then
   (if(w.obj (aF f.vals 0).n).vals.length=0 then .wait
   else kY (dD w (aF f.vals 0).n ⟨4,0,(w.obj (aF f.vals 0).n).vals.drop 1,[]⟩) a left 23 0 (aF (w.obj (aF f.vals 0).n).vals 0) (aF (w.obj (aF f.vals 0).n).vals 0))
  else .fail 2)
 else if n.op=24 then
  (if¬(aF f.vals 0).kind=1 then .fail 2
  else if 100<=w.outs.length then .fail 4
  else kY ⟨w.objs,w.tasks,w.outs++[⟨n.n,(aF f.vals 0).n⟩],w.ins,w.used⟩ a left 24 n.n bT (aF f.vals 0))
 else if n.op=25 then
  (match w.ins with
  |[]=> .wait
  |x::xs=>if 1000000000<=w.used then .fail 4 else kY ⟨w.objs,w.tasks,w.outs,xs,w.used+1⟩ a left 25 0 (nP x) (nP x))
 else kY w a left 28 0 bT bT
variable {a:Int}{left:List aB}{w:aA}
theorem pR {node:Int}{env:List aE}:iD w a left node env=(iX w left node env).did w a:=by
 unfold iD iX oY;simp only[bTg,bS8,bTd]
 by_cases h1:30<env.length
 ·rw[if_pos (.inr h1),if_pos h1];rfl
 ·rw[if_neg h1]
  by_cases h2:40<=left.length
  ·rw[if_pos (.inl h2),if_pos (by omega)];rfl
  ·rw[if_neg (by omega),if_neg (by omega)];rfl
variable {e v:aE}{n op:Int}
theorem oQ {w0:aA}:dL (cC w a left v) a op n e=(kY w a left op n v e).did w0 a:=by
 have: ¬(cC w a left v).what=1:=by simp[cC]
 unfold dL;rw[if_neg this];rfl
theorem aM5 {s:Int}:dL (bG w a s) a op n e=bG w a s:=by
 unfold dL;rw[if_pos (show(bG w a s).what=1 from rfl)]
theorem aU4 {o:aP}:iW w a left o=(iE w o fun w' v=>jD w' left v).did w a:=by
 unfold iW iE
 split<;>rfl
theorem aP7 {o:aP}:dL (iW w a left o) a op n e=(iE w o fun w' v=>kY w' a left op n v e).did w a:=by
 unfold iW iE;split
 ·exact aM5
 ·exact oQ
theorem aJv {w:aA}{a:Int}{left:List aB}{kids:List Int}{env:List aE}{u:aE}: ∀(l:List Pat) (i:Nat),kM w a left kids env u i l=(dY w left kids env u i l).did w a
 |[],i=>by simp only[kM,dY];rfl
 |q::qs,i=>by
  simp only[kM,dY];cases fW w q u with
  |some l=>exact pR
  |none=>exact aJv qs (i+1)
theorem aU5 {o:aP}(ha:inR a 0 ((w.tasks.length:Int)-1)=true):aBs w a left o=(iE w o fun w' v=>kY (rR w') a left 19 0 v bT).did w a:=by
 unfold aBs iW iE;split
 ·simp only
  rw[if_pos (show(bG w a 4).what=1 from rfl)]
  exact aM5
 ·have h1: ¬(cC (eF w o) a left (dQ w.objs.length)).what=1:=by simp[cC]
  simp only
  rw[if_neg h1];unfold dL
  simp only
  rw[if_neg h1];simp only[inR,bWo]at ha;have ht:aX (rR (eF w o)) a=aX (eF w o) a:=by
   unfold aX rR eF
   simp only
   rw[bSz,bSz,bUy (by omega)]
  simp only[kY,OpR.did,ht];simp only[cC,dD,rR,eF,bUs]
variable {p:aD}
theorem aM6 {f:aE}(h:cG w f 5=true):eW p w f v=none:=by
 simp only[cG,bSw,bWo]at h;unfold eW;rw[if_neg (by rw[h.1];decide),if_neg (by simp only[cG,bSw,bWo];rw[h.2];rintro⟨_,h⟩;cases h)]
theorem wO {f:aB}{n:aL}(ha:inR a 0 ((w.tasks.length:Int)-1)=true):bV p w a left f n=(opR p w a left f n).did w a:=by
 unfold bV opR
 by_cases h1:n.op=1
 ·rw[if_pos h1,if_pos h1];rfl
 rw[if_neg h1,if_neg h1]
 by_cases h2:n.op=2
 ·rw[if_pos h2,if_pos h2];rfl
 rw[if_neg h2,if_neg h2]
 by_cases h3:n.op=3
 ·rw[if_pos h3,if_pos h3];rfl
 rw[if_neg h3,if_neg h3]
 by_cases h4:n.op=4
 ·rw[if_pos h4,if_pos h4];split
  ·rfl
  ·split<;>rfl
 rw[if_neg h4,if_neg h4]
 by_cases h5:n.op=5
 ·rw[if_pos h5,if_pos h5];exact aU4
 rw[if_neg h5,if_neg h5]
 by_cases h6:n.op=6
 ·rw[if_pos h6,if_pos h6];unfold fK
  by_cases hk:cG w (aF f.vals 0) 5=true
  ·rw[if_pos hk,aM6 hk];simp only[hk,if_true]
   split<;>rfl
  ·rw[if_neg hk];cases eW p w (aF f.vals 0) (aF f.vals 1)with
   |none=>simp only[hk];rfl
   |some b=>exact pR
 rw[if_neg h6,if_neg h6]
 by_cases h7:n.op=7
 ·rw[if_pos h7,if_pos h7];exact pR
 rw[if_neg h7,if_neg h7]
 by_cases h8:n.op=8
 ·rw[if_pos h8,if_pos h8];split
  ·rfl
  ·exact pR
 rw[if_neg h8,if_neg h8]
 by_cases h13:n.op=13
 ·rw[if_pos (.inr (.inr (.inr (.inr h13)))),if_pos h13];unfold cN;rw[if_pos h13]
  split<;>rfl
 rw[if_neg h13]
 by_cases h12:n.op=12
 ·rw[if_pos (.inr (.inr (.inr (.inl h12)))),if_pos h12];unfold cN;rw[if_neg h13];split
  ·rfl
  ·rfl
 rw[if_neg h12]
 by_cases h9:n.op=9 \/n.op=10 \/n.op=11
 ·rw[if_pos (by rcases h9 with h|h|h<;>simp[h]),if_pos h9]
  unfold cN;rw[if_neg h13];split
  ·rfl
  ·split<;>rfl
 rw[if_neg (by simp only[not_or]at h9⊢;exact⟨h9.1,h9.2.1,h9.2.2,h12,h13⟩),if_neg h9]
 by_cases h14:n.op=14
 ·rw[if_pos h14,if_pos h14];exact aU4
 rw[if_neg h14,if_neg h14]
 by_cases h15:n.op=15
 ·rw[if_pos h15,if_pos h15];exact aJv _ _
 rw[if_neg h15,if_neg h15]
 by_cases h26:n.op=26
 ·rw[if_pos h26,if_pos h26];rfl
 rw[if_neg h26,if_neg h26]
 by_cases h27:n.op=27
 ·rw[if_pos h27,if_pos h27];unfold fL;cases gG p left left.length with
  |zero=>rfl
  |succ k=>
   simp only
   unfold iE;split
   ·rfl
   ·simp only
    rw[pR];unfold iX oY;split
    ·rfl
    ·split<;>rfl
 rw[if_neg h27,if_neg h27]
 by_cases h16:n.op=16
 ·rw[if_pos (.inl h16),if_pos h16];unfold eZ;rw[if_pos h16,h16];exact aP7
 by_cases h17:n.op=17
 ·rw[if_pos (.inr (.inl h17)),if_neg h16,if_pos h17];unfold eZ;rw[if_neg h16];split
  ·rw[h17];exact oQ
  ·rfl
 by_cases h18:n.op=18
 ·rw[if_pos (.inr (.inr h18)),if_neg h16,if_neg h17,if_pos h18];unfold eZ;rw[if_neg h16];split
  ·rw[h18];exact oQ
  ·rfl
 rw[if_neg (by simp only[not_or];exact⟨h16,h17,h18⟩),if_neg h16,if_neg h17,if_neg h18]
 by_cases h19:n.op=19
 ·rw[if_pos h19,if_pos h19];unfold eR
  by_cases hk:cG w (aF f.vals 0) 5=true
  ·rw[if_pos hk,aM6 hk];simp only[hk,if_true];exact aU5 ha
  ·rw[if_neg hk];cases eW p w (aF f.vals 0) bT with
   |none=>simp only[hk];rfl
   |some b=>
    simp only
    split
    ·rfl
    ·exact aU5 ha
 rw[if_neg h19,if_neg h19]
 by_cases h20:n.op=20
 ·rw[if_pos h20,if_pos h20];unfold gV;split
  ·split
   ·rfl
   ·split
    ·rfl
    ·exact oQ
  ·rfl
 rw[if_neg h20,if_neg h20]
 by_cases h21:n.op=21
 ·rw[if_pos h21,if_pos h21];exact aP7
 rw[if_neg h21,if_neg h21]
 by_cases h22:n.op=22
 ·rw[if_pos (.inl h22),if_pos h22];unfold cE;split
  ·try rw[if_pos h22]
   split
   ·rfl
   ·rw[h22];exact oQ
  ·rfl
 by_cases h23:n.op=23
 ·rw[if_pos (.inr h23),if_neg h22,if_pos h23];unfold cE;split
  ·try rw[if_neg h22]
   split
   ·rfl
   ·rw[h23];exact oQ
  ·rfl
 rw[if_neg (by simp only[not_or];exact⟨h22,h23⟩),if_neg h22,if_neg h23]
 by_cases h24:n.op=24
 ·rw[if_pos (.inl h24),if_pos h24];unfold dM;rw[if_neg (by rw[h24];decide)]
  split
  ·rfl
  ·split
   ·rfl
   ·rw[h24];exact oQ
 by_cases h25:n.op=25
 ·rw[if_pos (.inr h25),if_neg h24,if_pos h25];unfold dM;rw[if_pos h25];cases w.ins with
  |nil=>rfl
  |cons x xs=>
   simp only
   split
   ·rfl
   ·rw[h25];exact oQ
 rw[if_neg (by simp only[not_or];exact⟨h24,h25⟩),if_neg h24,if_neg h25]
 exact oQ
end Go.Abs
namespace Go.Proofs.YtmafmhjndjmalaaGreat
open Go.Abs Go.Proofs Tryz
set_option maxRecDepth 100000
set_option maxHeartbeats 4000000
def aGs (s:Int):Val:= .ifc 259 (.agg [.i s])
theorem iL (s:Int):PC L 245 [.bool true,.i s] (.tup []):=by
 refine pcA func245 ?_
 simp only[go_sem,kK]
theorem kZ (s:Int):PX L 245 [.bool false,.i s] (aGs s):=by
 refine pxA func245 ?_
 simp only[go_sem,kK]
 refine cR 3 rfl ?_
 simp only[go_sem,bS3,bS2];exact⟨rfl,rfl⟩
theorem vA (n:Int):PC L 305 [.i n] (.agg [.i (nP n).kind,.i (nP n).n]):=by
 refine pcA func305 ?_
 simp only[go_sem,kK,nP]
theorem aGt (b:Bool):PC L 306 [.bool b] (.agg [.i (nW b).kind,.i (nW b).n]):=by
 refine pcA func306 ?_
 cases b<;>simp only[go_sem,kK,nW,bS0,if_false]
theorem lA :PC L 307 [] (.agg [.i bT.kind,.i bT.n]):=by
 refine pcA func307 ?_
 simp only[go_sem,kK,bT]
theorem zR (v:aE):PC L 168 [.agg [.i v.kind,.i v.n]] (.agg [.i (nG v).kind,.i (nG v).n]):=by
 refine pcA func168 ?_
 obtain⟨k,n⟩:=v
 by_cases h4:k=4
 ·subst h4;simp only[go_sem,kK,nG,dQ,true_or]
 ·have d4:decide (k=4)=false:=D_f h4
  by_cases h5:k=5
  ·subst h5;simp only[go_sem,kK,nG,dQ,or_true]
  ·have d5:decide (k=5)=false:=D_f h5;simp only[go_sem,kK,nG,h4,h5,or_self,bS0,if_false]
def uB (what:Int)(e:fB):Val:=if what=2 then .ifc 254 (.agg [])else if what=0 then .ifc 265 (.agg [])else .ifc 257 (.agg [.i e.task,.i e.act,.i e.n,.i e.v.kind,.i e.v.n])
theorem aM7 :PC L 119 [.ifc 265 (.agg [])] (.i 0):=by
 refine pcA func119 ?_
 simp only[go_sem,kK]
theorem aP8 :PC L 119 [.ifc 254 (.agg [])] (.i 2):=by
 refine pcA func119 ?_
 simp only[go_sem,kK]
theorem aP9 (l:List Val):PC L 119 [.ifc 257 (.agg l)] (.i 1):=by
 refine pcA func119 ?_
 simp only[go_sem,kK]
def Old (k:Key)(cnt:Nat->Nat->Nat):Prop:=k.n=0/\ k.g<cnt 0 k.t
variable {cnt:Nat->Nat->Nat}{d:Nat}{k:Key}
theorem Old.ne (h:Old k cnt):k≠⟨0,d,cnt 0 d⟩:=by
 rintro rfl;exact bVg _ h.2
theorem Old.set (h:Old k cnt)(en:En)(d:Nat)(e:Option Ent):En.set en ⟨0,d,cnt 0 d⟩ e k=en k:=kG h.ne
theorem Old.new (h:Old k cnt)(en:En)(d:Nat)(e:Option Ent):En.set en k e ⟨0,d,cnt 0 d⟩=en ⟨0,d,cnt 0 d⟩:=kG h.ne.symm
theorem Old.eqF (h:Old k cnt)(d:Nat):((⟨0,d,cnt 0 d⟩:Key)=k)=False:=by simp only[eq_iff_iff,iff_false];exact h.ne.symm
theorem Old.eqF' (h:Old k cnt)(d:Nat):(k=(⟨0,d,cnt 0 d⟩:Key))=False:=by simp only[eq_iff_iff,iff_false];exact h.ne
variable {cnt':Nat->Nat->Nat}
theorem Old.up (h:Old k cnt)(hu: ∀t,cnt 0 t<=cnt' 0 t):Old k cnt':=⟨h.1,bTm h.2 (hu _)⟩
variable {e:Option Ent}{en:En}{k':Key}
theorem aK (h:k'≠k):En.set en k e k'=en k':=kG h
variable {c:Nat->Nat->Nat}
theorem upS (h: ∀t,cnt 0 t<=c 0 t){a x:Nat}(hx:cnt 0 a<=x): ∀t,cnt 0 t<=aC c 0 a x 0 t:=by
 intro t;have:=h t
 by_cases ht:t=a
 ·subst ht;rw[bCo];exact hx
 ·rw[bCp ht];exact this
theorem aO (cnt:Nat->Nat->Nat): ∀t,cnt 0 t<=cnt 0 t:=fun _=>bSx _
structure eC (kt kr:Key) (en:En) (cnt:Nat->Nat->Nat) (en':En) (cnt':Nat->Nat->Nat):Prop where
 old: ∀k,Old k cnt->k≠kt->k≠kr->en' k=en k
 up: ∀t,cnt 0 t<=cnt' 0 t
theorem eC.refl (kt kr:Key)(en:En)(cnt:Nat->Nat->Nat):eC kt kr en cnt en cnt:=⟨fun _ _ _ _=>rfl,fun _=>bSx _⟩
variable {cnt2:Nat->Nat->Nat}{en1 en2:En}{kr kt:Key}
theorem eC.trans {cnt1:Nat->Nat->Nat}(h:eC kt kr en cnt en1 cnt1)(k:eC kt kr en1 cnt1 en2 cnt2):eC kt kr en cnt en2 cnt2:=
 ⟨fun x hx a b=>(k.old x (hx.up h.up) a b).trans (h.old x hx a b),fun t=>bS9 (h.up t) (k.up t)⟩
variable {en':En}{g:Nat}
theorem eC.loc (k:eC kt kr en cnt en' cnt')(hg:g<cnt 0 d)(ht:(⟨0,d,g⟩:Key)≠kt)(hr:(⟨0,d,g⟩:Key)≠kr):en' ⟨0,d,g⟩=en ⟨0,d,g⟩/\ Old ⟨0,d,g⟩ cnt':=
 ⟨k.old _ ⟨rfl,hg⟩ ht hr,rfl,bTm hg (k.up d)⟩
def iY (v:Val)(xs:List Val):Prop:=v= .fz xs \/v= .cl xs
variable {v:Val}{xs:List Val}
theorem iY.len (h:iY v xs):uC v=some xs.length:=by rcases h with rfl|rfl<;>rfl
theorem iY.elems (h:iY v xs)(en:En):jI en v=some (xs,[]):=by rcases h with rfl|rfl<;>rfl
theorem iY.fz (xs:List Val):iY (.fz xs) xs:= .inl rfl
theorem iY.cl (xs:List Val):iY (.cl xs) xs:= .inr rfl
theorem iY.one (h:iY v xs):v.one=true:=by rcases h with rfl|rfl<;>rfl
theorem iY.cells (h:iY v xs):v.cells=[v]:=by rcases h with rfl|rfl<;>rfl
structure TS (kt kr:Key) (en:En) (cnt:Nat->Nat->Nat) (p:aD) (w:aA) (a:Int) (left:List aB) (f:aB) (n:aL) (back:List aE) (bv:Val):Prop where
 okt:Old kt cnt
 okr:Old kr cnt
 ne:kr≠kt
 ob:iY bv (back.map aE.enc)
 t:en kt=some (.box [.ptr kr 0,.i a,.fz (left.map aB.enc),.i f.node,.fz (f.env.map aE.enc),.fz (f.vals.map aE.enc),.i n.op,.i n.n,.is n.kids,.fz (n.pats.map Pat.enc),bv] false)
 r:en kr=some (.box [.fz (p.nodes.map aL.enc),.is p.funs,.i p.main,.fz (p.cons.map dC.enc),.fz (w.objs.map aP.enc),.is w.tasks,.fz (w.outs.map bO.enc),.is w.ins,.i w.used] false)
variable {b0 back:List aE}{bv0 bv I O T U lv:Val}{w0 w:aA}{size t:Nat}{rs:List R}{ys cs f is n os ts us:List Val}{i a m u s:Int}{b:Bool}{K1 K2 K3 K4:List Key}{p:aD}{left:List aB}
section
variable {f:aB}{n:aL}
theorem TS.to (h:TS kt kr en cnt p w a left f n back bv)(ht:en' kt=en kt)(hr:en' kr=en kr)(hu: ∀t,cnt 0 t<=cnt' 0 t):TS kt kr en' cnt' p w a left f n back bv:=
 ⟨h.okt.up hu,h.okr.up hu,h.ne,h.ob,by rw[ht];exact h.t,by rw[hr];exact h.r⟩
theorem bGh (h1:Old kt cnt)(h2:Old kr cnt)(h3:kr≠kt):(∀e d x,En.set e ⟨0,d,cnt 0 d⟩ x kt=e kt)/\ (∀e d x,En.set e ⟨0,d,cnt 0 d⟩ x kr=e kr)/\ (∀e d x,En.set e kt x ⟨0,d,cnt 0 d⟩=e ⟨0,d,cnt 0 d⟩)/\ (∀e d x,En.set e kr x ⟨0,d,cnt 0 d⟩=e ⟨0,d,cnt 0 d⟩)/\ (∀d,((⟨0,d,cnt 0 d⟩:Key)=kt)=False)/\ (∀d,((⟨0,d,cnt 0 d⟩:Key)=kr)=False)/\ (∀d,(kt=(⟨0,d,cnt 0 d⟩:Key))=False)/\ (∀d,(kr=(⟨0,d,cnt 0 d⟩:Key))=False)/\ (∀(e:En) x,En.set e kt x kr=e kr)/\ ∀(e:En) x,En.set e kr x kt=e kt:=
 ⟨h1.set,h2.set,h1.new,h2.new,h1.eqF,h2.eqF,h1.eqF',h2.eqF',fun _ _=>aK h3,fun _ _=>aK h3.symm⟩
theorem TS.pre (h:TS kt kr en cnt p w a left f n back bv):type_of%(bGh h.okt h.okr h.ne):=bGh h.okt h.okr h.ne
theorem TS.stay (h:TS kt kr en cnt p w a left f n back bv)(hk: ∀k,Old k cnt->en' k=en k)(hu: ∀t,cnt 0 t<=cnt' 0 t):(∃bv',TS kt kr en' cnt' p w a left f n back bv')/\ eC kt kr en cnt en' cnt':=
 ⟨⟨bv,h.to (hk _ h.okt) (hk _ h.okr) hu⟩,fun k ho _ _=>hk k ho,hu⟩
theorem TS.fin {l0:List aB}(h0:TS kt kr en cnt p w0 a l0 f n b0 bv0)(h:TS kt kr en' cnt' p w a left f n back bv)(k:eC kt kr en cnt en' cnt')(hk: ∀k,Old k cnt->Old k cnt'->en2 k=en' k)(hu: ∀t,cnt' 0 t<=cnt2 0 t):
  (∃bv',TS kt kr en2 cnt2 p w a left f n back bv')/\ eC kt kr en cnt en2 cnt2:=
 ⟨⟨bv,h.to (hk _ h0.okt h.okt) (hk _ h0.okr h.okr) hu⟩,fun x ho a b=>(hk x ho (ho.up k.up)).trans (k.old x ho a b),fun t=>bS9 (k.up t) (hu t)⟩
theorem wP :kU false size en (.fz xs) none (some (.i (xs.length:Int))) (some (.i (xs.length:Int)))=some {v:= .cl xs}:=by
 simp[kU,aLb,uX (bSx _),wF]
theorem aEh (xs:List Val):PC L 246 [.fz xs] (.cl xs):=by
 refine pcA func246 ?_
 simp only[go_sem,kK,wP]
theorem aCv (xs:List Val):PC L 205 [.fz xs] (.cl xs):=by
 refine pcA func205 ?_
 simp only[go_sem,kK,wP]
theorem aJw (xs:List Val):PC L 339 [.fz xs] (.cl xs):=by
 refine pcA func339 ?_
 simp only[go_sem,kK,wP]
theorem aJx (xs:List Val):PC L 316 [.fz xs] (.cl xs):=by
 refine pcA func316 ?_
 simp only[go_sem,kK,wP]
theorem aU6 (xs:List Val):PC L 317 [.fz xs] (.cl xs):=by
 refine pcA func317 ?_
 simp only[go_sem,kK,wP]
def aXj (d g size:Nat)(xs ys:List Val)(rs:List R):Option Res:=
 if ys=[]then some {v:= .cl xs,rs}else some {v:= .bl ⟨0,d,g⟩ 0 (xs.length+ys.length),ws:=[.ent ⟨0,d,g⟩ (some (.blk size (xs++ys) (!xs.isEmpty)))],rs,bump:=true}
theorem wQ (h1:dA size ys=true)(h2:dA size xs=true)(hl:xs.length+ys.length<=16777216):
  aO4 d g en size (.cl xs) (some (ys,rs))=aXj d g size xs ys rs:=by
 unfold aXj;split
 ·rename_i h;subst h;simp[aO4,fZ,dA]
 ·rename_i h;simp[aO4,fZ,h1,h,h2,hl]
theorem aM8 :aXj d g size xs [] rs=some {v:= .cl xs,rs}:=by simp[aXj]
theorem aDt (h:ys≠[]):aXj d g size xs ys rs=some {v:= .bl ⟨0,d,g⟩ 0 (xs.length+ys.length),ws:=[.ent ⟨0,d,g⟩ (some (.blk size (xs++ys) (!xs.isEmpty)))],rs,bump:=true}:=by simp[aXj,h]
theorem aU7 {o:Nat}:cU en (.ptr k o)=some (.ptr k o,[]):=(rfl)
theorem aGu {k:IntKind}:cU en (.int k i)=some (.int k i,[]):=(rfl)
theorem aR8 :cU en (.fz xs)=some (.fz xs,[]):=(rfl)
theorem sN (h:iY v xs):cU en v=some (.fz xs,[]):=by rcases h with rfl|rfl<;>rfl
theorem uP {n:Nat}(h:en ⟨0,t,g⟩=some (.blk size xs b))(hn:n=xs.length):cU en (.bl ⟨0,t,g⟩ 0 n)=some (.fz xs,[⟨0,t,g⟩]):=by
 subst hn;simp[cU,snapD,h,Val.wk0,aE0]
theorem aGv {rs:List (Val×List Key)}(h:en k=some (.box cs false))(hc:cY (cU en) cs=some rs)(hk:(rs.flatMap (·.2)).contains k=false):
  wE en k=some ((W.applyAll en ((rs.flatMap (·.2)).map .frz)).set k (some (.box (rs.map (·.1)) false))):=by
 simp only[wE,h,hc,hk,bS0,if_false]
theorem aM9 (h:wE en k=some en1):pB (.ptr k 0) [[]] en=some en1:=by simp only[pB,aS9,h]
theorem bDr (hk:en k=some (.box (.ptr k' 0::cs) b))(h:wE en k'=some en1):pB (.ptr k 0) [[0]] en=some en1:=by simp only[pB,aS9,hk,bVx,h]
theorem bDs {o:Int}{F:Val}{e v ks ps bs:List Val}{K:List Key}(h:en kt=some (.box [.ptr kr 0,.i a,F,.i i,.fz e,.fz v,.i o,.i m,.fz ks,.fz ps,bv] false))(hF:cU en F=some (.fz xs,K))(hb:iY bv bs)(hk:kt∉K):
  pB (.ptr kt 0) [[]] en=some ((W.applyAll en (K.map .frz)).set kt (some (.box [.ptr kr 0,.i a,.fz xs,.i i,.fz e,.fz v,.i o,.i m,.fz ks,.fz ps,.fz bs] false))):=by
 have:=aGv (rs:=[(.ptr kr 0,[]),(.i a,[]),(.fz xs,K),(.i i,[]),(.fz e,[]),(.fz v,[]),(.i o,[]),(.i m,[]),(.fz ks,[]),(.fz ps,[]),(.fz bs,[])]) h (by simp only[aDo,aGa,aU7,aGu,aR8,hF,sN hb]) (by simpa using hk)
 simp only[bVk,bU3,bT1,bT4,bTv,bTe]at this;exact aM9 this
theorem aXk {n f c:List Val}(ht:en kt=some (.box (.ptr kr 0::cs) b))(h:en kr=some (.box [.fz n,.fz f,.i m,.fz c,O,T,U,I,.i u] false))
  (hO:cU en O=some (.fz os,K1)) (hT:cU en T=some (.fz ts,K2)) (hU:cU en U=some (.fz us,K3)) (hI:cU en I=some (.fz is,K4)) (hk:kr∉K1++(K2++(K3++K4))):
  pB (.ptr kt 0) [[0]] en=some ((W.applyAll en ((K1++(K2++(K3++K4))).map .frz)).set kr (some (.box [.fz n,.fz f,.i m,.fz c,.fz os,.fz ts,.fz us,.fz is,.i u] false))):=by
 have:=aGv (rs:=[(.fz n,[]),(.fz f,[]),(.i m,[]),(.fz c,[]),(.fz os,K1),(.fz ts,K2),(.fz us,K3),(.fz is,K4),(.i u,[])]) h (by simp only[aDo,aGa,aGu,aR8,hO,hT,hU,hI]) (by simpa using hk)
 simp only[bVk,bU3,bT1,bT4,bTv,bTe]at this;exact bDr ht this
theorem aU8 {n f c:List Val}(h:en kr=some (.box [.fz n,.fz f,.i m,.fz c,O,T,U,I,.i u] false))
  (hO:cU en O=some (.fz os,K1)) (hT:cU en T=some (.fz ts,K2)) (hU:cU en U=some (.fz us,K3)) (hI:cU en I=some (.fz is,K4)) (hk:kr∉K1++(K2++(K3++K4))):
  pB (.ptr kr 0) [[]] en=some ((W.applyAll en ((K1++(K2++(K3++K4))).map .frz)).set kr (some (.box [.fz n,.fz f,.i m,.fz c,.fz os,.fz ts,.fz us,.fz is,.i u] false))):=by
 have:=aGv (rs:=[(.fz n,[]),(.fz f,[]),(.i m,[]),(.fz c,[]),(.fz os,K1),(.fz ts,K2),(.fz us,K3),(.fz is,K4),(.i u,[])]) h (by simp only[aDo,aGa,aGu,aR8,hO,hT,hU,hI]) (by simpa using hk)
 simp only[bVk,bU3,bT1,bT4,bTv,bTe]at this;exact aM9 this
theorem frz_other (h:k'≠k):(W.frz k).apply en k'=en k':=by
 simp only[W.apply];cases en k with
 |none=>rfl
 |some e=>exact kG h
theorem aGw (h:TS kt kr en cnt p w a left f n back bv){l:List aB}(hl:iY lv (l.map aB.enc))(hc:left.length+l.length<=40):
  WIn L (.fn 204 [] []) [.ptr kt 0,lv] en cnt fun v en' cnt'=>v= .tup []/\ (∃bv',TS kt kr en' cnt' p w a (left++l) f n back bv')/\ eC kt kr en cnt en' cnt':=by
 have hw:IntKind.i64.wrap ((left.length:Int)+(l.length:Int))=((left.length+l.length:Nat):Int):=by rw[aV (by omega)];omega
 have d:decide (((left.length+l.length:Nat):Int)<=40)=true:=D_t (by omega)
 have hlen:uC lv=some l.length:=by rw[hl.len,bSy]
 have hel:=hl.elems;have s1:=h.okt.set;have s2:=h.okr.set;have n1:=h.okt.new;have hl16:left.length+l.length<=16777216:=by omega
 have ht:=h.t;have hr:=h.r;have hb:=h.ob;have hL:=at_ func204
 conv at hL=>rhs;reduce
 refine sU hL rfl rfl ?_
 simp only[go_sem,kK]
 refine bS ?_
 simp only[go_sem,ht,hlen,bSy,hw,d,(iL _).ret,(aEh _).ret,bW,eP,hel,wQ,jV,hl16]
 by_cases hl0:l=[]
 ·subst hl0;simp only[go_sem,bTe,aM8,rH,lZ,ht];rw[bDs (K:=[]) cM rfl hb (by simp)]
  simp only[bTe,gD];exact⟨⟨_,h.okt,h.okr,h.ne,.inl rfl,cM,by rw[aK h.ne,aK h.ne];exact hr⟩,fun k hk a b=>by rw[aK a,aK a],fun _=>bSx _⟩
 ·have hne:l.map aB.enc≠[]:=by simpa using hl0
  have nk:kt≠⟨0,21,cnt 0 21⟩:=h.okt.ne;have nr:kr≠⟨0,21,cnt 0 21⟩:=h.okr.ne;simp only[go_sem,aDt hne,wM,oD,s1,ht,bSy];rw[bDs (K:=[⟨0,21,cnt 0 21⟩]) (xs:=(left++l).map aB.enc) cM (uP (by rw[n1];exact cM.trans (by rw[<-bT0])) (by simp)) hb (by simpa using nk)]
  simp only[bTv,bTe,lF,gD];have hu:=upS (aO cnt) (a:=21) (x:=cnt 0 21+1) (by omega)
  refine⟨⟨_,h.okt.up hu,h.okr.up hu,h.ne,.inl rfl,cM,?_⟩,fun k hk a b=>?_,hu⟩
  ·rw[aK h.ne,frz_other nr,aK h.ne,s2];exact hr
  ·rw[aK a,frz_other hk.ne,aK a,hk.set]
def RB (kr:Key)(en:En)(p:aD):Prop:= ∃O T U I u,en kr=some (.box [.fz (p.nodes.map aL.enc),.is p.funs,.i p.main,.fz (p.cons.map dC.enc),O,T,U,I,u] false)
theorem TS.rb (h:TS kt kr en cnt p w a left f n back bv):RB kr en p:=⟨_,_,_,_,_,h.r⟩
structure pY (kt kr:Key) (en:En) (cnt:Nat->Nat->Nat) (p:aD) (s:Int) (v:Val) (en':En) (cnt':Nat->Nat->Nat):Prop where
 v:v=aGs s
 keep:eC kt kr en cnt en' cnt'
 rb:RB kr en' p
theorem aNa (h:TS kt kr en cnt p w a left f n back bv){l:List aB}(hl:iY lv (l.map aB.enc))(hc:40<left.length+l.length)(hs:left.length+l.length<=1000000):
  xI L 204 [.ptr kt 0,lv] en cnt (pY kt kr en cnt p 4):=by
 have hw:IntKind.i64.wrap ((left.length:Int)+(l.length:Int))=((left.length+l.length:Nat):Int):=by rw[aV (by omega)];omega
 have d:decide (((left.length+l.length:Nat):Int)<=40)=false:=D_f (by omega)
 have hlen:uC lv=some l.length:=by rw[hl.len,bSy]
 have ht:=h.t
 refine lK func204 ?_
 simp only[go_sem,kK]
 refine cR 9 rfl ?_
 simp only[go_sem,bS3,bS2,ht,hlen,bSy,hw,d,(kZ _).ret];exact⟨rfl,eC.refl _ _ _ _,h.rb⟩
theorem TS.fell {l0:List aB}(h0:TS kt kr en cnt p w0 a l0 f n b0 bv0)(h:TS kt kr en' cnt' p w a left f n back bv)(k:eC kt kr en cnt en' cnt')(hk: ∀k,Old k cnt->Old k cnt'->en2 k=en' k)(hu: ∀t,cnt' 0 t<=cnt2 0 t):
  pY kt kr en cnt p s (aGs s) en2 cnt2:=by
 obtain⟨⟨bv3,h3⟩,k3⟩:=h0.fin h k hk hu;exact⟨rfl,k3,h3.rb⟩
theorem TS.fell0 (h:TS kt kr en cnt p w a left f n back bv)(hk: ∀k,Old k cnt->en' k=en k)(hu: ∀t,cnt 0 t<=cnt' 0 t):pY kt kr en cnt p s (aGs s) en' cnt':=by
 obtain⟨⟨bv3,h3⟩,k3⟩:=h.stay hk hu;exact⟨rfl,k3,h3.rb⟩
theorem pY.then (k:eC kt kr en cnt en' cnt')(h:pY kt kr en' cnt' p s v en2 cnt2):pY kt kr en cnt p s v en2 cnt2:=⟨h.v,k.trans h.keep,h.rb⟩
end
variable {V r ev:Val}{x:Int}{E:En}{w':aA}{j:Nat}{env l:List aE}
section
variable {f:aB}{n:aL}
def aR9 :Val:= .ifc 265 (.agg [])
def aYm :Val:= .ifc 254 (.agg [])
def aJy (e:fB):Val:= .ifc 257 (.agg [.i e.task,.i e.act,.i e.n,.i e.v.kind,.i e.v.n])
theorem jL (h:TS kt kr en cnt p w a left f n back bv)(v:aE):
  WIn L (.fn 304 [] []) [.ptr kt 0,.agg [.i v.kind,.i v.n]] en cnt fun r en' cnt'=>r=aR9/\ (∃bv',TS kt kr en' cnt' p w a left f n [v] bv')/\ eC kt kr en cnt en' cnt':=by
 have H:=h.pre;have hn:=h.ne;have ht:=h.t;have hr:=h.r;have s2:=h.okr.set
 refine jB func304 ?_
 simp only[go_sem,kK,ht,H,kB];have hu:=upS (aO cnt) (a:=3) (x:=cnt 0 3+1) (by omega)
 exact⟨rfl,⟨_,h.okt.up hu,h.okr.up hu,hn,.inr rfl,cM,by rw[aK hn,s2];exact hr⟩,fun k hk a b=>by simp only[hk.set,aK a],hu⟩
theorem rS (h:TS kt kr en cnt p w a left f n back bv)(v e:aE):
  WIn L (.fn 314 [] []) [.ptr kt 0,.agg [.i v.kind,.i v.n],.agg [.i e.kind,.i e.n]] en cnt fun r en' cnt'=>r=aJy ⟨a,n.op,if n.op=24 then n.n else 0,nG e⟩/\ (∃bv',TS kt kr en' cnt' p w a left f n [v] bv')/\ eC kt kr en cnt en' cnt':=by
 have H:=h.pre;have hn:=h.ne;have ht:=h.t;have hr:=h.r
 refine jB func314 ?_
 simp only[go_sem,kK,ht,H,kB]
 refine aH ?_
 by_cases h24:n.op=24
 ·have d24:decide (n.op=24)=true:=D_t h24;simp only[go_sem,kK,(zR _).ret,d24,H,kA,kF];have hu: ∀t,cnt 0 t<=aC (aC (aC cnt 0 4 (cnt 0 4+1)) 0 5 (cnt 0 5+1)) 0 7 (cnt 0 7+1) 0 t:=(by(repeat refine upS ?_ (by omega));exact aO _)
  exact⟨by simp only[if_pos h24,aJy],⟨_,h.okt.up hu,h.okr.up hu,hn,.inr rfl,by simp only[H,cM];rfl,by simp only[H];exact hr⟩,fun k hk a b=>by simp only[hk.set,aK a],hu⟩
 ·have d24:decide (n.op=24)=false:=D_f h24;simp only[go_sem,kK,(zR _).ret,d24,H,kA,kF];have hu: ∀t,cnt 0 t<=aC (aC (aC cnt 0 4 (cnt 0 4+1)) 0 5 (cnt 0 5+1)) 0 7 (cnt 0 7+1) 0 t:=(by(repeat refine upS ?_ (by omega));exact aO _)
  exact⟨by simp only[if_neg h24,aJy],⟨_,h.okt.up hu,h.okr.up hu,hn,.inr rfl,by simp only[H,cM];rfl,by simp only[H];exact hr⟩,fun k hk a b=>by simp only[hk.set,aK a],hu⟩
theorem aQa {F1:Val}(ht:en kt=some (.box [.ptr kr 0,.i a,F1,.i f.node,.fz (f.env.map aE.enc),.fz (f.vals.map aE.enc),.i n.op,.i n.n,.is n.kids,.fz (n.pats.map Pat.enc),bv] false))(ok:Old kt cnt)(v e:aE):
  WIn L (.fn 314 [] []) [.ptr kt 0,.agg [.i v.kind,.i v.n],.agg [.i e.kind,.i e.n]] en cnt fun r en' cnt'=>r=aJy ⟨a,n.op,if n.op=24 then n.n else 0,nG e⟩/\
   en' kt=some (.box [.ptr kr 0,.i a,F1,.i f.node,.fz (f.env.map aE.enc),.fz (f.vals.map aE.enc),.i n.op,.i n.n,.is n.kids,.fz (n.pats.map Pat.enc),.cl [.agg [.i v.kind,.i v.n]]] false)/\ (∀k,Old k cnt->k≠kt->en' k=en k)/\ ∀t,cnt 0 t<=cnt' 0 t:=by
 have s1:=ok.set;have n1:=ok.new;have m1:=ok.eqF;have o1:=ok.eqF'
 refine jB func314 ?_
 simp only[go_sem,kK,ht,s1,kB]
 refine aH ?_
 by_cases h24:n.op=24
 ·have d24:decide (n.op=24)=true:=D_t h24;simp only[go_sem,kK,(zR _).ret,d24,s1,n1,m1,kA,kF];exact⟨by simp only[if_pos h24,aJy],fun k hk a=>by simp only[hk.set,aK a],(by(repeat refine upS ?_ (by omega));exact aO _)⟩
 ·have d24:decide (n.op=24)=false:=D_f h24;simp only[go_sem,kK,(zR _).ret,d24,s1,n1,m1,kA,kF];exact⟨by simp only[if_neg h24,aJy],fun k hk a=>by simp only[hk.set,aK a],(by(repeat refine upS ?_ (by omega));exact aO _)⟩
theorem tN {y:Val}:aXj d g size xs [y] rs=some {v:= .bl ⟨0,d,g⟩ 0 (xs.length+1),ws:=[.ent ⟨0,d,g⟩ (some (.blk size (xs++[y]) (!xs.isEmpty)))],rs,bump:=true}:=aDt (by simp)
theorem aYn {y:Int}{FV:Val}:dA 4 [.agg [.i x,.i y,V,FV]]=true:=(rfl)
theorem xX {cnt:Nat->Nat->Nat}{k:Key}(h:Old k cnt): ∀{K:List Key},(∀x∈K,∃d,x=⟨0,d,cnt 0 d⟩)-> ∀(E:En),W.applyAll E (K.map .frz) k=E k
 |[],_,_=>rfl
 |x::K,hK,E=>by
  have:W.applyAll E ((x::K).map .frz)=W.applyAll ((W.frz x).apply E) (K.map .frz):=rfl;rw[this,xX h fun y hy=>hK y (bU4 _ hy)]
  obtain⟨d,rfl⟩:=hK x (bWa ..);exact frz_other h.ne
theorem bH9 (h:TS kt kr en cnt p w a left f n back bv)(ht:E kt=en kt)
  (hr:E kr=some (.box [.fz (p.nodes.map aL.enc),.is p.funs,.i p.main,.fz (p.cons.map dC.enc),O,T,U,I,.i w'.used] false))
  (hO:cU E O=some (.fz (w'.objs.map aP.enc),K1)) (hT:cU E T=some (.is w'.tasks,K2)) (hU:cU E U=some (.fz (w'.outs.map bO.enc),K3)) (hI:cU E I=some (.is w'.ins,K4))
  (hK: ∀k∈K1++(K2++(K3++K4)),∃d,k=⟨0,d,cnt 0 d⟩) (hk: ∀k,Old k cnt->k≠kt->k≠kr->E k=en k) (hu: ∀t,cnt 0 t<=c 0 t) (hv:v=r):
  match pB (.ptr kt 0) [[0]] E with
  |some en'=>v=r/\ (∃bv',TS kt kr en' c p w' a left f n back bv')/\ eC kt kr en cnt en' c
  |none=>False:=by
 have hkn:kr∉K1++(K2++(K3++K4)):=fun hm=>by obtain⟨d,e⟩:=hK kr hm;exact h.okr.ne e
 rw[aXk (ht.trans h.t) hr hO hT hU hI hkn]
 refine⟨hv,⟨bv,h.okt.up hu,h.okr.up hu,h.ne,h.ob,?_,cM⟩,fun k ho k1 k2=>?_,hu⟩
 ·rw[aK h.ne.symm,xX h.okt hK,ht];exact h.t
 ·rw[aK k2,xX ho hK];exact hk k ho k1 k2
theorem bDt (h:TS kt kr en cnt p w a left f n back bv)(ht:E kt=en kt)
  (hr:E kr=some (.box [.fz (p.nodes.map aL.enc),.is p.funs,.i p.main,.fz (p.cons.map dC.enc),O,T,U,I,.i w'.used] false))
  (hO:cU E O=some (.fz (w'.objs.map aP.enc),K1)) (hT:cU E T=some (.is w'.tasks,K2)) (hU:cU E U=some (.fz (w'.outs.map bO.enc),K3)) (hI:cU E I=some (.is w'.ins,K4))
  (hK: ∀k∈K1++(K2++(K3++K4)),∃d,k=⟨0,d,cnt 0 d⟩) (hk: ∀k,Old k cnt->k≠kt->k≠kr->E k=en k) (hu: ∀t,cnt 0 t<=c 0 t):
  match pB (.ptr kt 0) [[0]] E with
  |some en'=>(∃bv',TS kt kr en' c p w' a left f n back bv')/\ eC kt kr en cnt en' c
  |none=>False:=by
 have:=bH9 h ht hr hO hT hU hI hK hk hu (rfl:Val.nilp=Val.nilp)
 split at this
 ·exact this.2
 ·exact this
theorem aDu (d:Nat): ∀k∈[(⟨0,d,cnt 0 d⟩:Key)]++([]++([]++[])),∃d,k=⟨0,d,cnt 0 d⟩:=by simp
theorem sO (h:TS kt kr en cnt p w a left f n back bv){o:aP}{FV:Val}(hV:iY V (o.vals.map aE.enc))(hF:iY FV (o.frames.map aB.enc))(hc:w.objs.length<120):
  WIn L (.fn 308 [] []) [.ptr kt 0,.agg [.i o.form,.i o.n,V,FV]] en cnt fun r en' cnt'=>r= .agg [.i (dQ w.objs.length).kind,.i (dQ w.objs.length).n]/\ (∃bv',TS kt kr en' cnt' p (eF w o) a left f n back bv')/\ eC kt kr en cnt en' cnt':=by
 have H:=h.pre;have ht:=h.t;have hr:=h.r;have d:decide ((w.objs.length:Int)<120)=true:=D_t (by omega)
 have hl:w.objs.length+1<=16777216:=by omega
 have hw:IntKind.i64.wrap (((w.objs.length+1:Nat):Int)-1)=(w.objs.length:Int):=by rw[aV (by omega)];omega
 have hA:w.objs.map aP.enc++[.agg [.i o.form,.i o.n,.fz (o.vals.map aE.enc),.fz (o.frames.map aB.enc)]]=(eF w o).objs.map aP.enc:=by simp[eF,aP.enc]
 have hAl:w.objs.length+1=((eF w o).objs.map aP.enc).length:=by simp[eF]
 have hL:=at_ func308
 conv at hL=>rhs;reduce
 refine sU hL rfl rfl ?_
 simp only[go_sem,kK]
 refine bS ?_
 simp only[go_sem,ht,hr,H,bSy,d,(iL _).ret]
 refine aH ?_
 rcases hV with rfl|rfl<;>rcases hF with rfl|rfl<;>
 (simp only[go_sem,ht,hr,H,kB,bSy,(aJw _).ret,bW,eP,wQ,aA3,aYn,hl,tN,hw,hA,kA,kF]
  exact bH9 h (w':=eF w o) (by simp only[H]) (by simp only[H,cM];rfl) (uP (by simp only[go_sem,H];rfl) hAl) rfl rfl rfl (aDu 31) fun k hk a b=>by simp only[hk.set,aK b] (by(repeat refine upS ?_ (by omega));exact aO _) rfl)
theorem pZ (h:TS kt kr en cnt p w a left f n back bv){o:aP}{FV:Val}(hc:120<=w.objs.length)(hs:w.objs.length<=1000000):
  xI L 308 [.ptr kt 0,.agg [.i o.form,.i o.n,V,FV]] en cnt (pY kt kr en cnt p 4):=by
 have H:=h.pre;have ht:=h.t;have hr:=h.r;have d:decide ((w.objs.length:Int)<120)=false:=D_f (by omega)
 refine lK func308 ?_
 simp only[go_sem,kK]
 refine cR 10 rfl ?_
 simp only[go_sem,bS3,bS2,ht,hr,H,bSy,d,(kZ _).ret];exact⟨rfl,⟨fun k hk a b=>by simp only[hk.set],(by(repeat refine upS ?_ (by omega));exact aO _)⟩,_,_,_,_,_,by simp only[H];exact hr⟩
theorem aA4 (xs:List Val)(h1:dA 4 xs=true)(hl:xs.length<=16777216):PC L 203 [.fz xs] (uA 4 xs):=by
 cases xs with
 |nil=>
  have hL:=at_ func203
  conv at hL=>rhs;reduce
  refine aL8 hL rfl rfl (.inl rfl) (rC ?_) (rC ?_)
  ·simp only[go_sem,kK,yP];rfl
  ·simp only[go_sem,kK,yP]
   refine tL (b:=false) (by simp only[go_sem]) (by simp only[go_sem]) ?_
   simp only[go_sem];rfl
 |cons x xs=>
  refine pcA func203 ?_
  simp only[go_sem,kK,aGo]
  refine rN (by simp only[go_sem]) (by simp only[go_sem]) h1 hl ?_
  simp only[go_sem];rfl
theorem aNb (h:TS kt kr en cnt p w a left f n back bv){o:aP}{FV:Val}(hV:iY V (o.vals.map aE.enc))(hF:iY FV (o.frames.map aB.enc))(hj:j<w.objs.length)(hs:w.objs.length<=1000000):
  WIn L (.fn 315 [] []) [.ptr kt 0,.i j,.agg [.i o.form,.i o.n,V,FV]] en cnt fun r en' cnt'=>r= .tup []/\ (∃bv',TS kt kr en' cnt' p (dD w j o) a left f n back bv')/\ eC kt kr en cnt en' cnt':=by
 have H:=h.pre;have ht:=h.t;have hr:=h.r;have hl:(w.objs.map aP.enc).length<=16777216:=by rw[bSy];omega
 have hC:=aA4 (w.objs.map aP.enc) (aA3 _) hl;have hne:w.objs.map aP.enc≠[]:=by intro he;have h0:=congrArg List.length he;simp at h0;rw[h0]at hj;simp at hj
 rw[qK hne]at hC;have hget:(w.objs.map aP.enc)[j]?=some (aP.enc w.objs[j]):=by simp[hj]
 have hS:(w.objs.map aP.enc).set j (.agg [.i o.form,.i o.n,.fz (o.vals.map aE.enc),.fz (o.frames.map aB.enc)])=(dD w j o).objs.map aP.enc:=by simp[dD,bVe,aP.enc]
 have hSl:w.objs.length=((dD w j o).objs.map aP.enc).length:=by simp[dD]
 have hL:=at_ func315
 conv at hL=>rhs;reduce
 refine sU hL rfl rfl ?_
 simp only[go_sem,kK]
 refine aH ?_
 simp only[go_sem,ht,hr,H,kB,hC.ret,kA,kF];rcases hV with rfl|rfl<;>rcases hF with rfl|rfl<;>
 (simp only[go_sem,H,hget,hj,fG,bVm,bTt,hS]
  exact bDt h (w':=dD w j o) (by simp only[H]) (by simp only[H,cM];rfl) (uP cM hSl) rfl rfl rfl (aDu 18) fun k hk a b=>by simp only[hk.set,aK b] (by(repeat refine upS ?_ (by omega));exact aO _))
theorem aXl (h:TS kt kr en cnt p w a left f n back bv){o:aP}(hb:en ⟨0,t,g⟩=some (.blk 2 (o.vals.map aE.enc) b))(hg:g<cnt 0 t){FV:Val}(hF:iY FV (o.frames.map aB.enc))(hj:j<w.objs.length)(hs:w.objs.length<=1000000):
  WIn L (.fn 315 [] []) [.ptr kt 0,.i j,.agg [.i o.form,.i o.n,.bl ⟨0,t,g⟩ 0 o.vals.length,FV]] en cnt fun r en' cnt'=>r= .tup []/\ (∃bv',TS kt kr en' cnt' p (dD w j o) a left f n back bv')/\
   (∀k,Old k cnt->k≠kt->k≠kr->k≠⟨0,t,g⟩->en' k=en k)/\ ∀t,cnt 0 t<=cnt' 0 t:=by
 have s1:=h.okt.set;have s2:=h.okr.set;have n1:=h.okt.new;have n2:=h.okr.new;have hn:=h.ne;have ht:=h.t;have hr:=h.r;have m1:=h.okt.eqF;have m2:=h.okr.eqF;have o1:=h.okt.eqF';have o2:=h.okr.eqF';have x1: ∀(en:En) (e:Option Ent),En.set en kt e kr=en kr:=fun _ _=>aK hn;have x2: ∀(en:En) (e:Option Ent),En.set en kr e kt=en kt:=fun _ _=>aK hn.symm
 have hl:(w.objs.map aP.enc).length<=16777216:=by rw[bSy];omega
 have hC:=aA4 (w.objs.map aP.enc) (aA3 _) hl;have hne:w.objs.map aP.enc≠[]:=by intro he;have h0:=congrArg List.length he;simp at h0;rw[h0]at hj;simp at hj
 rw[qK hne]at hC;have hget:(w.objs.map aP.enc)[j]?=some (aP.enc w.objs[j]):=by simp[hj]
 have hS:(w.objs.map aP.enc).set j (.agg [.i o.form,.i o.n,.fz (o.vals.map aE.enc),.fz (o.frames.map aB.enc)])=(dD w j o).objs.map aP.enc:=by simp[dD,bVe,aP.enc]
 have hSl:w.objs.length=((dD w j o).objs.map aP.enc).length:=by simp[dD]
 have hT:List.take o.vals.length (o.vals.map aE.enc)=o.vals.map aE.enc:=by rw[bTh (by simp)]
 have hob:Old ⟨0,t,g⟩ cnt:=⟨rfl,hg⟩;have b1:=hob.set;have bn:(⟨0,t,g⟩:Key)≠⟨0,18,cnt 0 18⟩:=hob.ne;have bF:((⟨0,t,g⟩:Key)=⟨0,18,cnt 0 18⟩)=False:=by simp only[eq_iff_iff,iff_false];exact bn
 have q1:(⟨0,t,g⟩:Key)≠kr:=by rintro rfl;rw[hr]at hb;cases hb
 have q2:(⟨0,t,g⟩:Key)≠kt:=by rintro rfl;rw[ht]at hb;cases hb
 have b2: ∀(en:En) (e:Option Ent),En.set en kr e ⟨0,t,g⟩=en ⟨0,t,g⟩:=fun _ _=>aK q1
 have b3: ∀(en:En) (e:Option Ent),En.set en ⟨0,t,g⟩ e ⟨0,18,cnt 0 18⟩=en ⟨0,18,cnt 0 18⟩:=fun _ _=>aK bn.symm
 have b4: ∀(en:En) (e:Option Ent),En.set en ⟨0,t,g⟩ e kr=en kr:=fun _ _=>aK q1.symm
 have b5: ∀(en:En) (e:Option Ent),En.set en ⟨0,t,g⟩ e kt=en kt:=fun _ _=>aK q2.symm
 have hL:=at_ func315
 conv at hL=>rhs;reduce
 refine sU hL rfl rfl ?_
 simp only[go_sem,kK]
 refine aH ?_
 simp only[go_sem,ht,hr,s1,s2,n2,m1,x2,kB,hC.ret,kA,kF];rcases hF with rfl|rfl<;>
 (simp only[go_sem,n2,hget,hj,b1,b2,b3,bF,hb,bSy,fG,bVm,bTt,bSx,W.apply,Ent.freeze,decide_not,bTf,decide_false,hT,hS]
  have hu: ∀t,cnt 0 t<=aC (aC cnt 0 5 (cnt 0 5+1)) 0 18 (cnt 0 18+1) 0 t:=(by(repeat refine upS ?_ (by omega));exact aO _)
  rw[aXk (K1:=[⟨0,18,cnt 0 18⟩]) (K2:=[]) (K3:=[]) (K4:=[]) (os:=(dD w j o).objs.map aP.enc) (by simp only[s1,b5,x2];exact ht) (by simp only[s2,b4,cM];rfl) (uP cM hSl) rfl rfl rfl (by simp[o2])]
  refine⟨⟨bv,h.okt.up hu,h.okr.up hu,hn,h.ob,?_,cM⟩,fun k hk k1 k2 k3=>?_,hu⟩
  ·rw[x2,xX h.okt (aDu 18)];simp only[s1,b5,x2];exact ht
  ·rw[aK k2,xX hk (aDu 18),hk.set,aK k3,aK k2,hk.set,hk.set])
theorem aGx (env l:List aE)(hc:env.length+l.length<=30):PC L 311 [.fz (env.map aE.enc),.fz (l.map aE.enc)] (.fz ((env++l).map aE.enc)):=by
 have hw:IntKind.i64.wrap ((env.length:Int)+(l.length:Int))=((env.length+l.length:Nat):Int):=by rw[aV (by omega)];omega
 have d:decide (((env.length+l.length:Nat):Int)<=30)=true:=D_t (by omega)
 have hl:env.length+l.length<=16777216:=by omega
 refine pcA func311 ?_
 simp only[go_sem,kK]
 refine bS ?_
 simp only[go_sem,hw,d,bSy,(iL _).ret,(aCv _).ret,bW,eP,wQ,uO,hl]
 by_cases h0:l=[]
 ·subst h0;simp only[go_sem,bTe,aM8,bT1]
 ·have hne:l.map aE.enc≠[]:=by simpa using h0
  simp only[go_sem,aDt hne,bSy,bTg,bSx];rw[<-bT0,bTh (by simp)]
theorem aK3 (env l:List aE)(hc:30<env.length+l.length)(hs:env.length+l.length<=1000000):PX L 311 [.fz (env.map aE.enc),.fz (l.map aE.enc)] (aGs 4):=by
 have hw:IntKind.i64.wrap ((env.length:Int)+(l.length:Int))=((env.length+l.length:Nat):Int):=by rw[aV (by omega)];omega
 have d:decide (((env.length+l.length:Nat):Int)<=30)=false:=D_f (by omega)
 refine pxA func311 ?_
 simp only[go_sem,kK]
 refine cR 6 rfl ?_
 simp only[go_sem,bS3,bS2,hw,d,bSy,(kZ _).ret]
theorem zS (h:TS kt kr en cnt p w a left f n back bv){i:Nat}(hi:i<n.kids.length)(hev:iY ev (env.map aE.enc))(hc:left.length<40):
  WIn L (.fn 207 [] []) [.ptr kt 0,.i i,ev] en cnt fun r en' cnt'=>r=aR9/\ (∃bv',TS kt kr en' cnt' p w a (left++[⟨n.kids.getD i 0,env,[]⟩]) f n back bv')/\ eC kt kr en cnt en' cnt':=by
 have H:=h.pre;have ht:=h.t;have hg:n.kids.getD i 0=n.kids[i]:=by simp[bSz,hi]
 refine jB func207 ?_
 simp only[go_sem,kK]
 refine bS ?_
 rcases hev with rfl|rfl<;>
 (simp only[go_sem,ht,kB,hi]
  refine(aGw h (l:=[⟨n.kids.getD i 0,env,[]⟩]) (.inr (by rw[hg];rfl)) (by simp only[bS8,bTd];omega)).mono ?_
  rintro v e1 c1 ⟨_,t1,k1⟩
  exact⟨rfl,t1,k1⟩)
theorem zT (h:TS kt kr en cnt p w a left f n back bv){i:Nat}(hi:i<n.kids.length)(hev:iY ev (env.map aE.enc))(hc:left.length=40):
  xI L 207 [.ptr kt 0,.i i,ev] en cnt (pY kt kr en cnt p 4):=by
 have H:=h.pre;have ht:=h.t;have hg:n.kids.getD i 0=n.kids[i]:=by simp[bSz,hi]
 refine lK func207 ?_
 simp only[go_sem,kK]
 refine cR 12 rfl ?_
 rcases hev with rfl|rfl<;>
 (simp only[go_sem,bS3,bS2,ht,kB,hi]
  exact aNa h (l:=[⟨n.kids.getD i 0,env,[]⟩]) (.inr (by rw[hg];rfl)) (by simp;omega) (by simp;omega))
theorem sP (h:TS kt kr en cnt p w a left f n back bv){v:aE}(hv:v.kind=5->inR v.n 0 ((w.objs.length:Int)-1)=true)(form:Int):
  WIn L (.fn 340 [] []) [.ptr kt 0,.agg [.i v.kind,.i v.n],.i form] en cnt fun r en' cnt'=>(∃x,r= .tup [x,.bool (cG w v form)]/\ (x= .agg [.i 0,.i 0,.cl [],.cl []]/\ cG w v form=false \/x=aP.enc (w.obj v.n)/\ cG w v form=true))/\ (∃bv',TS kt kr en' cnt' p w a left f n back bv')/\ eC kt kr en cnt en' cnt':=by
 have H:=h.pre;have ht:=h.t;have hr:=h.r
 refine jB func340 ?_
 by_cases h5:v.kind=5
 ·have d5:decide (v.kind=5)=true:=D_t h5;have hin:=hv h5;have hob:=fun en=>aAt (w:=w) (i:=v.n) (k:= .i64) (en:=en) hin
  by_cases hf:(w.obj v.n).form=form
  ·have df:decide ((w.obj v.n).form=form)=true:=D_t hf;have hI:cG w v form=true:=by simp[cG,h5,hf]
   simp only[go_sem,kK,H,ht,hr,d5,hob,df];exact⟨⟨_,by rw[hI],.inr ⟨rfl,hI⟩⟩,h.stay (fun k hk=>by simp only[hk.set]) (by(repeat refine upS ?_ (by omega));exact aO _)⟩
  ·have df:decide ((w.obj v.n).form=form)=false:=D_f hf;have hI:cG w v form=false:=by simp[cG,h5,hf]
   simp only[go_sem,kK,H,ht,hr,d5,hob,df];exact⟨⟨_,by rw[hI],.inl ⟨rfl,hI⟩⟩,h.stay (fun k hk=>by simp only[hk.set]) (by(repeat refine upS ?_ (by omega));exact aO _)⟩
 ·have d5:decide (v.kind=5)=false:=D_f h5;have hI:cG w v form=false:=by simp[cG,h5]
  simp only[go_sem,kK,d5];exact⟨⟨_,by rw[hI],.inl ⟨rfl,hI⟩⟩,h.stay (fun k hk=>by simp only[hk.set]) (by(repeat refine upS ?_ (by omega));exact aO _)⟩
theorem wR (h:TS kt kr en cnt p w a left f n back bv){v:aE}(hv:v.kind=5->inR v.n 0 ((w.objs.length:Int)-1)=true)(form:Int)(hI:cG w v form=true):
  WIn L (.fn 310 [] []) [.ptr kt 0,.agg [.i v.kind,.i v.n],.i form] en cnt fun r en' cnt'=>r= .agg [.i (w.obj v.n).form,.i (w.obj v.n).n,.fz ((w.obj v.n).vals.map aE.enc),.fz ((w.obj v.n).frames.map aB.enc)]/\ (∃bv',TS kt kr en' cnt' p w a left f n back bv')/\ eC kt kr en cnt en' cnt':=by
 refine jB func310 ?_
 simp only[go_sem,kK];obtain⟨⟨bv1,h1⟩,k1⟩:=h.stay (cnt':=aC (aC cnt 0 4 (cnt 0 4+1)) 0 6 (cnt 0 6+1)) (en':=(en.set ⟨0,4,cnt 0 4⟩ (some (.box [.i v.kind,.i v.n] false))).set ⟨0,6,cnt 0 6⟩ (some (.box [.i 0,.i 0,.cl [],.cl []] false))) (fun k hk=>by simp only[hk.set]) (by(repeat refine upS ?_ (by omega));exact aO _)
 refine(sP h1 hv form).mono ?_
 rintro r e1 c1 ⟨⟨x,rfl,hx⟩,⟨bv2,h2⟩,k2⟩
 rcases hx with⟨_,hx⟩|⟨rfl,_⟩
 ·rw[hI]at hx;cases hx
 have o6:=k2.old ⟨0,6,cnt 0 6⟩ ⟨rfl,by simp only[go_sem];omega⟩ h.okt.ne.symm h.okr.ne.symm
 simp only[go_sem]at o6;have v6: ∀(en:En) (d:Nat) (e:Option Ent),En.set en ⟨0,d,c1 0 d⟩ e ⟨0,6,cnt 0 6⟩=en ⟨0,6,cnt 0 6⟩:=(Old.up (cnt:=aC (aC cnt 0 4 (cnt 0 4+1)) 0 6 (cnt 0 6+1)) ⟨rfl,by simp only[go_sem];omega⟩ k2.up).set
 have w6: ∀(en:En) (d:Nat) (e:Option Ent),En.set en ⟨0,6,cnt 0 6⟩ e ⟨0,d,c1 0 d⟩=en ⟨0,d,c1 0 d⟩:=(Old.up (cnt:=aC (aC cnt 0 4 (cnt 0 4+1)) 0 6 (cnt 0 6+1)) ⟨rfl,by simp only[go_sem];omega⟩ k2.up).new
 simp only[go_sem,hI]
 refine bS ?_
 simp only[go_sem,(iL _).ret,o6,v6];exact h.fin h2 (k1.trans k2) (fun k hk hj=>by simp only[hk.set,hj.set]) (by(repeat refine upS ?_ (by omega));exact aO _)
theorem wS (h:TS kt kr en cnt p w a left f n back bv){v:aE}(hv:v.kind=5->inR v.n 0 ((w.objs.length:Int)-1)=true)(form:Int)(hI:cG w v form=false):
  xI L 310 [.ptr kt 0,.agg [.i v.kind,.i v.n],.i form] en cnt (pY kt kr en cnt p 2):=by
 refine lK func310 ?_
 simp only[go_sem,kK];obtain⟨⟨bv1,h1⟩,k1⟩:=h.stay (cnt':=aC (aC cnt 0 4 (cnt 0 4+1)) 0 6 (cnt 0 6+1)) (en':=(en.set ⟨0,4,cnt 0 4⟩ (some (.box [.i v.kind,.i v.n] false))).set ⟨0,6,cnt 0 6⟩ (some (.box [.i 0,.i 0,.cl [],.cl []] false))) (fun k hk=>by simp only[hk.set]) (by(repeat refine upS ?_ (by omega));exact aO _)
 refine(sP h1 hv form).mono ?_
 rintro r e1 c1 ⟨⟨x,rfl,hx⟩,⟨bv2,h2⟩,k2⟩
 rcases hx with⟨rfl,_⟩|⟨_,hx⟩
 case inr=>rw[hI]at hx;cases hx
 simp only[go_sem,hI]
 refine cR 1 rfl ?_
 simp only[go_sem,bS3,bS2,(kZ _).ret];obtain⟨⟨bv3,h3⟩,k3⟩:=h.fin h2 (k1.trans k2) (en2:=(e1.set ⟨0,7,c1 0 7⟩ (some (.box [.i 0,.i 0,.cl [],.cl []] false))).set ⟨0,7,c1 0 7⟩ (some (.box [.i 0,.i 0,.cl [],.cl []] false))) (cnt2:=aC c1 0 7 (c1 0 7+1)) (fun k hk hj=>by simp only[hj.set]) (by(repeat refine upS ?_ (by omega));exact aO _)
 exact⟨rfl,k3,h3.rb⟩
theorem aU9 (h:1<l.length):mH 2 en (.fz (l.map aE.enc)) (.i 1)=some {v:= .fp [.i (aF l 1).kind,.i (aF l 1).n] 0}:=by
 have e:aF l 1=l[1]:=by simp[aF,bSz,h]
 rw[e];exact aW3 (k:= .i64) (j:=1) h rfl
theorem aNc (h:0<l.length):mH 2 en (.fz (l.map aE.enc)) (.i 0)=some {v:= .fp [.i (aF l 0).kind,.i (aF l 0).n] 0}:=by
 have e:aF l 0=l[0]:=by simp[aF,bSz,h]
 rw[e];exact aW3 (k:= .i64) (j:=0) h rfl
theorem aVa (h:TS kt kr en cnt p w a left f n back bv)(hv:f.vals.length=2)(h1:(aF f.vals 0).kind=1)(h2:(aF f.vals 1).kind=1):
  WIn L (.fn 312 [] []) [.ptr kt 0] en cnt fun r en' cnt'=>r= .tup [.i (aF f.vals 0).n,.i (aF f.vals 1).n]/\ en'=en/\ cnt'=cnt:=by
 have ht:=h.t;have d1:decide ((aF f.vals 0).kind=1)=true:=D_t h1;have d2:decide ((aF f.vals 1).kind=1)=true:=D_t h2
 refine jB func312 ?_
 simp only[go_sem,kK]
 refine bS ?_
 simp only[go_sem,kK,ht,aNc (l:=f.vals) (by omega),aU9 (l:=f.vals) (by omega),d1,d2,(iL _).ret]
theorem aVb (h:TS kt kr en cnt p w a left f n back bv)(hv:f.vals.length=2)(h12: ¬(aF f.vals 0).kind=1 \/ ¬(aF f.vals 1).kind=1):
  xI L 312 [.ptr kt 0] en cnt (pY kt kr en cnt p 2):=by
 have ht:=h.t
 refine lK func312 ?_
 simp only[go_sem,kK]
 refine cR 20 rfl ?_
 by_cases h1:(aF f.vals 0).kind=1
 ·have d1:decide ((aF f.vals 0).kind=1)=true:=D_t h1;have d2:decide ((aF f.vals 1).kind=1)=false:=D_f (by rcases h12 with h|h;exact absurd h1 h;exact h)
  simp only[go_sem,kK,bS3,bS2,ht,aNc (l:=f.vals) (by omega),aU9 (l:=f.vals) (by omega),d1,d2,(kZ _).ret]
  exact⟨rfl,eC.refl _ _ _ _,h.rb⟩
 ·have d1:decide ((aF f.vals 0).kind=1)=false:=D_f h1;simp only[go_sem,kK,bS3,bS2,ht,aNc (l:=f.vals) (by omega),d1,(kZ _).ret]
  exact⟨rfl,eC.refl _ _ _ _,h.rb⟩
end
structure bSt (en:En) (cnt:Nat->Nat->Nat) (en':En) (cnt':Nat->Nat->Nat):Prop where
 old: ∀t g,g<cnt 0 t->en' ⟨0,t,g⟩=en ⟨0,t,g⟩
 up: ∀t,cnt 0 t<=cnt' 0 t
def zU (en:En)(cnt:Nat->Nat->Nat)(v:Val)(size:Nat)(xs:List Val)(t:Nat):Prop:=(v= .cl []/\ xs=[]) \/ ∃g,v= .bl ⟨0,t,g⟩ 0 xs.length/\ en ⟨0,t,g⟩=some (.blk size xs false)/\ g<cnt 0 t/\ xs.isEmpty=false
variable {ga:Nat}
theorem jZ {a:Nat}(h:cnt 0 a<=ga)(hg:g<cnt 0 t):En.set en ⟨0,a,ga⟩ e ⟨0,t,g⟩=en ⟨0,t,g⟩:=by
 refine kG fun he=>?_
 injection he with h1 h2 h3
 subst h2;subst h3;omega
theorem pD {a:Nat}(h: ∀t,cnt 0 t<=c 0 t)(hg:ga=cnt 0 a): ∀t,cnt 0 t<=aC c 0 a (ga+1) 0 t:=by
 intro t
 by_cases ht:t=a
 ·subst ht;rw[bCo];omega
 ·rw[bCp ht];exact h t
theorem zU.keep (h:zU en cnt v size xs t)(he: ∀g,g<cnt 0 t->en' ⟨0,t,g⟩=en ⟨0,t,g⟩)(hc:cnt 0 t<=cnt' 0 t):zU en' cnt' v size xs t:=by
 rcases h with h|⟨g,h1,h2,h3,h4⟩
 ·exact .inl h
 ·exact .inr ⟨g,h1,by rw[he g h3];exact h2,by omega,h4⟩
theorem aNd {off len:Nat}:jI en (.bl k off len)=(match en k with
  |some (.blk _ xs _)=>if off+len<=xs.length/\ k.deep=false then some ((xs.drop off).take len,[.val k])else none
  |_=>none):=(rfl)
def aGy (en:En)(cnt:Nat->Nat->Nat)(w:aA)(vO vT vU vI:Val):Prop:=
 (vO= .fz (w.objs.map aP.enc)/\ vT= .fz (w.tasks.map (.int .i64))/\ vU= .fz (w.outs.map bO.enc)/\ vI= .fz (w.ins.map (.int .i64))) \/
 ∃gO gT,vO= .bl ⟨0,22,gO⟩ 0 w.objs.length/\ en ⟨0,22,gO⟩=some (.blk 4 (w.objs.map aP.enc) false)/\ gO<cnt 0 22/\ vT= .bl ⟨0,8,gT⟩ 0 w.tasks.length/\ en ⟨0,8,gT⟩=some (.blk 1 (w.tasks.map (.int .i64)) false)/\ gT<cnt 0 8/\
  zU en cnt vU 2 (w.outs.map bO.enc) 11/\ zU en cnt vI 1 (w.ins.map (.int .i64)) 14
variable {vI vO vT vU:Val}
theorem aGy.keep (h:aGy en cnt w vO vT vU vI)(he: ∀t g,g<cnt 0 t->en' ⟨0,t,g⟩=en ⟨0,t,g⟩)(hc: ∀t,cnt 0 t<=cnt' 0 t):aGy en' cnt' w vO vT vU vI:=by
 rcases h with h|⟨gO,gT,h1,h2,h3,h4,h5,h6,h7,h8⟩
 ·exact .inl h
 ·exact .inr ⟨gO,gT,h1,by rw[he _ _ h3];exact h2,bTm h3 (hc _),h4,by rw[he _ _ h6];exact h5,bTm h6 (hc _),h7.keep (fun g hg=>he _ g hg) (hc _),h8.keep (fun g hg=>he _ g hg) (hc _)⟩
theorem aCw (en:En)(cnt:Nat->Nat->Nat)(w:aA):aGy en cnt w (.fz (w.objs.map aP.enc)) (.fz (w.tasks.map (.int .i64))) (.fz (w.outs.map bO.enc)) (.fz (w.ins.map (.int .i64))):= .inl ⟨rfl,rfl,rfl,rfl⟩
structure xY (en:En) (cnt:Nat->Nat->Nat) (w:aA) (tail:List Val) (v:Val) (en':En) (cnt':Nat->Nat->Nat):Prop where
 parts: ∃g5 g8 vU vI,v= .agg (.bl ⟨0,5,g5⟩ 0 w.objs.length:: .bl ⟨0,8,g8⟩ 0 w.tasks.length::vU::vI:: .i w.used::tail)/\
   en' ⟨0,5,g5⟩=some (.blk 4 (w.objs.map aP.enc) false)/\ cnt 0 5<=g5/\ g5<cnt' 0 5/\ en' ⟨0,8,g8⟩=some (.blk 1 (w.tasks.map (.int .i64)) false)/\ cnt 0 8<=g8/\ g8<cnt' 0 8/\ zU en' cnt' vU 2 (w.outs.map bO.enc) 11/\ zU en' cnt' vI 1 (w.ins.map (.int .i64)) 14
 old: ∀t g,g<cnt 0 t->en' ⟨0,t,g⟩=en ⟨0,t,g⟩
 up: ∀t,cnt 0 t<=cnt' 0 t
theorem aGz (w:aA)(h1:0<w.objs.length)(h2:0<w.tasks.length)(hl:w.objs.length<=130/\ w.tasks.length<=130/\ w.outs.length<=110/\ w.ins.length<=60)(hL:aGy en cnt w vO vT vU vI):
  WIn L (.fn 121 [] []) [.agg [vO,vT,vU,vI,.i w.used]] en cnt fun v en' cnt'=>xY en cnt w [] v en' cnt':=by
 obtain⟨objs,tasks,outs,ins,used⟩:=w;dsimp only at h1 h2 hl;have hl1:objs.length<=16777216:=by omega
 have hl2:tasks.length<=16777216:=by omega
 have hl3:outs.length<=16777216:=by omega
 have hl4:ins.length<=16777216:=by omega
 have he1:objs.isEmpty=false:=aM3 h1;have he2:tasks.isEmpty=false:=aM3 h2;have tk1:((objs.map aP.enc).take objs.length)=objs.map aP.enc:=bTh (by simp)
 have tk2:((tasks.map (Val.int .i64)).take tasks.length)=tasks.map (.int .i64):=bTh (by simp)
 have tk3:((outs.map bO.enc).take outs.length)=outs.map bO.enc:=bTh (by simp)
 have tk4:((ins.map (Val.int .i64)).take ins.length)=ins.map (.int .i64):=bTh (by simp)
 obtain⟨g1,hg1⟩: ∃g,g=cnt 0 1:=⟨_,rfl⟩
 obtain⟨g2,hg2⟩: ∃g,g=cnt 0 2:=⟨_,rfl⟩
 obtain⟨g5,hg5⟩: ∃g,g=cnt 0 5:=⟨_,rfl⟩
 obtain⟨g8,hg8⟩: ∃g,g=cnt 0 8:=⟨_,rfl⟩
 obtain⟨g11,hg11⟩: ∃g,g=cnt 0 11:=⟨_,rfl⟩
 obtain⟨g14,hg14⟩: ∃g,g=cnt 0 14:=⟨_,rfl⟩
 have fin: ∀{vU vI:Val} {en':En} {cnt':Nat->Nat->Nat},en' ⟨0,5,g5⟩=some (.blk 4 (objs.map aP.enc) false)->g5<cnt' 0 5->en' ⟨0,8,g8⟩=some (.blk 1 (tasks.map (.int .i64)) false)->g8<cnt' 0 8->zU en' cnt' vU 2 (outs.map bO.enc) 11->zU en' cnt' vI 1 (ins.map (.int .i64)) 14->
   (∀t g,g<cnt 0 t->en' ⟨0,t,g⟩=en ⟨0,t,g⟩)->(∀t,cnt 0 t<=cnt' 0 t)->xY en cnt ⟨objs,tasks,outs,ins,used⟩ [] (.agg [.bl ⟨0,5,g5⟩ 0 objs.length,.bl ⟨0,8,g8⟩ 0 tasks.length,vU,vI,.i used]) en' cnt':=
  fun a1 a2 a3 a4 a5 a6 a7 a8=>⟨⟨g5,g8,_,_,rfl,a1,by omega,a2,a3,by omega,a4,a5,a6⟩,a7,a8⟩
 have old: ∀{t g:Nat},g<cnt 0 t-> ∀{e:En} {a ga:Nat} {x:Option Ent},ga=cnt 0 a->En.set e ⟨0,a,ga⟩ x ⟨0,t,g⟩=e ⟨0,t,g⟩:=fun hg _ _ _ _ h=>jZ (bUj h.symm) hg
 have hLz:=at_ func121
 conv at hLz=>rhs;reduce
 refine dP hLz rfl rfl ?_
 rcases hL with⟨rfl,rfl,rfl,rfl⟩|⟨gO,gT,rfl,eO,lO,rfl,eT,lT,mU,mI⟩
 ·simp only[go_sem,kK,<-hg1,<-hg2]
  refine aH ?_
  cases hu:outs.isEmpty<;>cases hi:ins.isEmpty
  all_goals
   try(have hu':outs=[]:=(by simpa using hu);subst hu')
   try(have hi':ins=[]:=(by simpa using hi);subst hi')
   simp only[go_sem,bW,eP,oE,jR,jC,he1,he2,hu,hi,hl1,hl2,hl3,hl4,aA3,aDr,aR7,bSy,bTe,<-hg5,<-hg8,<-hg11,<-hg14,kB,kA,bS0,if_false]
   refine fin (by simp only[go_sem]) (by simp[aC]) (by simp only[go_sem]) (by simp[aC]) ?_ ?_ ?_ ?_
   ·first
     |exact .inl ⟨rfl,rfl⟩
     |exact .inr ⟨g11,by rw[bSy],by simp only[go_sem],by simp[aC],by rw[jC];exact hu⟩
   ·first
     |exact .inl ⟨rfl,rfl⟩
     |exact .inr ⟨g14,by rw[bSy],by simp only[go_sem],by simp[aC],by rw[jC];exact hi⟩
   ·intro t g hg;simp only[old hg hg1,old hg hg2,old hg hg5,old hg hg8,old hg hg11,old hg hg14]
   ·repeat' (refine pD ?_ (by assumption))
    exact fun _=>bSx _
 ·dsimp only at eO eT;have eU:=True.intro;have eI:=True.intro;rcases mU with⟨rfl,hu⟩|⟨gU,rfl,eU,lU,hu⟩<;>rcases mI with⟨rfl,hi⟩|⟨gI,rfl,eI,lI,hi⟩
  all_goals try dsimp only at eU
  all_goals try dsimp only at eI
  all_goals
   try(have hu':outs=[]:=(by simpa using hu);subst hu')
   try(have hi':ins=[]:=(by simpa using hi);subst hi')
   simp only[go_sem,kK,<-hg1,<-hg2]
   refine aH ?_
   try(have hu:=hu;rw[jC]at hu)
   try(have hi:=hi;rw[jC]at hi)
   simp only[go_sem,bW,eP,aNd,oE,jR,jC,he1,he2,hu,hi,hl1,hl2,hl3,hl4,tk1,tk2,tk3,tk4,aA3,aDr,aR7,bSy,bTe,bSx,<-hg5,<-hg8,<-hg11,<-hg14,eO,eT,eU,eI,kB,kA,bS0,if_false]
   refine fin (by simp only[go_sem]) (by simp[aC]) (by simp only[go_sem]) (by simp[aC]) ?_ ?_ ?_ ?_
   ·first
     |exact .inl ⟨rfl,rfl⟩
     |exact .inr ⟨g11,by rw[bSy],by simp only[go_sem],by simp[aC],by rw[jC];assumption⟩
   ·first
     |exact .inl ⟨rfl,rfl⟩
     |exact .inr ⟨g14,by rw[bSy],by simp only[go_sem],by simp[aC],by rw[jC];assumption⟩
   ·intro t g hg;simp only[old hg hg1,old hg hg2,old hg hg5,old hg hg8,old hg hg11,old hg hg14]
   ·repeat' (refine pD ?_ (by assumption))
    exact fun _=>bSx _
theorem zU.shape (h:zU en cnt v size xs t):v.one=true/\ v.cells=[v]:=by
 rcases h with⟨rfl,_⟩|⟨g,rfl,_⟩<;>exact⟨rfl,rfl⟩
structure aEi (a x:Val):Prop where
 snap: ∀n en,snapD (n+1) en a=some (a,[])
 wk:a.wk0=x
 one:a.one=true
 cells:a.cells=[a]
theorem tO (xs:List Val):aEi (.fz xs) (.fz xs):=⟨fun _ _=>rfl,rfl,rfl,rfl⟩
theorem aG0 (xs:List Val):aEi (.cl xs) (.fz xs):=⟨fun _ _=>rfl,rfl,rfl,rfl⟩
theorem aYo (w:aA)(j:Nat)(o:aP){a b:Val}(ha:aEi a (.fz (o.vals.map aE.enc)))(hb:aEi b (.fz (o.frames.map aB.enc)))(hj:j<w.objs.length)(ht:0<w.tasks.length)(hl:w.objs.length<=130/\ w.tasks.length<=130/\ w.outs.length<=110/\ w.ins.length<=60)(hL:aGy en cnt w vO vT vU vI)
  (hs:(vO.one=true/\ vO.cells=[vO])/\ (vT.one=true/\ vT.cells=[vT])/\ (vU.one=true/\ vU.cells=[vU])/\ (vI.one=true/\ vI.cells=[vI])):
  WIn L (.fn 80 [] []) [.agg [vO,vT,vU,vI,.i w.used],.i j,.agg [.i o.form,.i o.n,a,b]] en cnt fun v en' cnt'=>xY en cnt (dD w j o) [] v en' cnt':=by
 obtain⟨g3,hg3⟩: ∃g,g=cnt 0 3:=⟨_,rfl⟩
 obtain⟨gA,hgA⟩: ∃g,g=cnt 0 5:=⟨_,rfl⟩
 obtain⟨g6,hg6⟩: ∃g,g=cnt 0 6:=⟨_,rfl⟩
 have hget:(w.objs.map aP.enc)[j]?=some (aP.enc w.objs[j]):=by simp[hj]
 have up0: ∀t,cnt 0 t<=aC (aC (aC cnt 0 3 (g3+1)) 0 5 (gA+1)) 0 6 (g6+1) 0 t:=pD (pD (pD (fun _=>bSx _) hg3) hgA) hg6
 have hLz:=at_ func80
 conv at hLz=>rhs;reduce
 refine dP hLz rfl rfl ?_
 simp only[go_sem,kK,<-hg3,<-hgA,<-hg6]
 refine(aGz w (by omega) ht hl (hL.keep (fun t g hg=>?_) up0)).mono ?_
 ·rw[jZ (bUj hg6.symm) hg,jZ (bUj hgA.symm) hg,jZ (bUj hg3.symm) hg]
 rintro v en' cnt' ⟨⟨g5,g8,vU',vI',rfl,e5,l5,m5,e8,l8,m8,mU,mI⟩,old,up⟩
 have e3:=old 3 g3 (by simp[aC])
 have eA:=old 5 gA (by simp[aC])
 have e6:=old 6 g6 (by simp[aC])
 have l5':gA<g5:=by have:=l5;simp[aC]at this;omega
 try simp only[go_sem]at e3 eA e6
 simp only[go_sem,e3,eA,e6,e5,hget,hj,ha.snap,hb.snap,ha.wk,hb.wk,bVm,bTt]
 refine⟨⟨g5,g8,vU',vI',?_,?_,by omega,m5,?_,bS9 (up0 8) l8,m8,?_,?_⟩,fun t g hg=>?_,fun t=>bS9 (up0 t) (up t)⟩
 ·simp only[dD,bTt,bUs]
 ·simp only[go_sem,dD,bVe,bTt]
 ·simp only[go_sem,e8,dD]
 ·exact mU.keep (fun g _=>by simp only[go_sem]) (bSx _)
 ·exact mI.keep (fun g _=>by simp only[go_sem]) (bSx _)
 ·rw[jZ (bUj hg6.symm) hg,jZ (by omega) hg,jZ (bUj hg3.symm) hg,old t g (bTm hg (up0 t)),jZ (bUj hg6.symm) hg,jZ (bUj hgA.symm) hg,jZ (bUj hg3.symm) hg]
theorem aGy.shape (h:aGy en cnt w vO vT vU vI):
  (vO.one=true/\ vO.cells=[vO])/\ (vT.one=true/\ vT.cells=[vT])/\ (vU.one=true/\ vU.cells=[vU])/\ (vI.one=true/\ vI.cells=[vI]):=by
 rcases h with⟨rfl,rfl,rfl,rfl⟩|⟨gO,gT,rfl,_,_,rfl,_,_,mU,mI⟩
 ·exact⟨⟨rfl,rfl⟩,⟨rfl,rfl⟩,⟨rfl,rfl⟩,rfl,rfl⟩
 ·exact⟨⟨rfl,rfl⟩,⟨rfl,rfl⟩,mU.shape,mI.shape⟩
theorem aIn {f:Nat}{lf:fR}{args:List Val}(hL:L f=some lf)(hk:lf.keep=false)(hn:args.length=lf.np)(ha:tA lf args=false)
  (h:WIn L (.fn f [] []) args (fun _=>none) (fun _ _=>0) fun v en' _=> ∃r' ks,snapD 8 en' v=some (r',ks)/\ r'.wk=r) (hz:lf.nrm=[]:=by rfl):PC L f args r:=by
 obtain⟨v,en',cnt',⟨n0,h0⟩,r',ks,h1,h2⟩:=h
 refine⟨n0,fun n hm=>?_⟩
 have hx:=h0 n hm (fun _=> .tup [])
 simp only[Inl.call,fH,aBy,bT4,bT1]at hx;have hx:lL L (exec L n) f args ⟨fun _=> .tup [],fun _=>none,fun _ _=>0⟩=some (v,⟨fun _=> .tup [],en',cnt'⟩):=by
  split at hx
  case h_2=>cases hx
  rename_i hw;simp only[hL,hz,norms,bSv]at hx;rw[hw];exact congrArg some hx
 simp only[lL,hL,hn,if_true,ha,bS0,if_false]at hx;simp only[mB,bP,hL,hn,if_true,ha,bS0,if_false,jN,Go.Abs.start]
 split at hx
 ·rename_i e st' he
  split at hx
  ·rename_i hend;simp only[hend,if_true];obtain⟨vs,hvs,heq⟩:=bTa.1 hx;simp only[bS1,St.mk.injEq]at heq;obtain⟨rfl,_,rfl,_⟩:=heq;simp only[aFp,hvs,hk,bS0,if_false,wC _ _ _ _ h1 8 (bSx _),h2]
  ·cases hx
 ·cases hx
theorem zU.snapB (h:zU en cnt v size xs t)(n:Nat): ∃r ks,snapD (n+1) en v=some (r,ks)/\ r.wk0= .fz xs:=by
 rcases h with⟨rfl,rfl⟩|⟨g,rfl,h2,_⟩
 ·exact⟨.cl [],[],rfl,rfl⟩
 ·exact⟨.fz xs,[⟨0,t,g⟩],by simp[snapD,aE0,h2],rfl⟩
theorem xY.snap (h:xY en cnt w [] v en' cnt'): ∃r ks,snapD 8 en' v=some (r,ks)/\ r.wk= .agg w.cs:=by
 obtain⟨⟨g5,g8,vU,vI,rfl,e5,_,_,e8,_,_,mU,mI⟩,_,_⟩:=h;obtain⟨r1,k1,s1,t1⟩:=mU.snapB 6;obtain⟨r2,k2,s2,t2⟩:=mI.snapB 6;have l1:(w.objs.map aP.enc).take w.objs.length=w.objs.map aP.enc:=bTh (by simp)
 have l2:(w.tasks.map (Val.int .i64)).take w.tasks.length=w.tasks.map (.int .i64):=bTh (by simp)
 refine⟨_,_,by simp only[go_sem,e5,e8,s1,s2,l1,l2,bSx];rfl,?_⟩
 simp only[go_sem,t1,t2]
theorem xY.snapD {d:Did}(h:xY en cnt d.w [.i d.what,.i d.e.task,.i d.e.act,.i d.e.n,.i d.e.v.kind,.i d.e.v.n] v en' cnt'): ∃r ks,Go.Abs.snapD 8 en' v=some (r,ks)/\ r.wk= .agg [.fz (d.w.objs.map aP.enc),.fz (d.w.tasks.map (.int .i64)),.fz (d.w.outs.map bO.enc),.fz (d.w.ins.map (.int .i64)),.i d.w.used,.i d.what,.i d.e.task,.i d.e.act,.i d.e.n,.i d.e.v.kind,.i d.e.v.n]:=by
 obtain⟨⟨g5,g8,vU,vI,rfl,e5,_,_,e8,_,_,mU,mI⟩,_,_⟩:=h;obtain⟨r1,k1,s1,t1⟩:=mU.snapB 6;obtain⟨r2,k2,s2,t2⟩:=mI.snapB 6;have l1:(d.w.objs.map aP.enc).take d.w.objs.length=d.w.objs.map aP.enc:=bTh (by simp)
 have l2:(d.w.tasks.map (Val.int .i64)).take d.w.tasks.length=d.w.tasks.map (.int .i64):=bTh (by simp)
 refine⟨_,_,by simp only[go_sem,e5,e8,s1,s2,l1,l2,bSx];rfl,?_⟩
 simp only[go_sem,t1,t2]
structure Fit (w:aA) (a:Int):Prop where
 len:w.objs.length<=130/\ w.tasks.length<=130/\ w.outs.length<=110/\ w.ins.length<=60
 at_:inR a 0 ((w.tasks.length:Int)-1)=true
 rng:inR (aX w a) 0 ((w.objs.length:Int)-1)=true
theorem aK4 (ha:inR a 0 ((w.tasks.length:Int)-1)=true):mH 1 en (.fz (w.tasks.map (.int .i64))) (.i a)=some {v:= .fp [.i (aX w a)] 0}:=yK ha
theorem aNe (w:aA)(n:Int)(o:aP)(hn:inR n 0 ((w.objs.length:Int)-1)=true)(ht:0<w.tasks.length)(hl:w.objs.length<=130/\ w.tasks.length<=130/\ w.outs.length<=110/\ w.ins.length<=60):
  PC L 80 [.agg w.cs,.i n,.agg [.i o.form,.i o.n,.fz (o.vals.map aE.enc),.fz (o.frames.map aB.enc)]] (.agg (dD w n o).cs):=by
 simp only[inR,bWo]at hn;obtain⟨j,rfl⟩:=bTs hn.1;have hL:=aCw (fun _=>none) (fun _ _=>0) w
 have hLz:=at_ func80
 conv at hLz=>rhs;reduce
 exact aIn hLz rfl rfl rfl ((aYo w j o (tO _) (tO _) (by omega) ht hl hL hL.shape).mono fun v en' cnt' h=>h.snap)
theorem gR (w:aA)(a st:Int)(hf:Fit w a):PC L 122 [.agg w.cs,.i a,.i st] (.agg [.fz ((bG w a st).w.objs.map aP.enc),.fz ((bG w a st).w.tasks.map (.int .i64)),.fz ((bG w a st).w.outs.map bO.enc),.fz ((bG w a st).w.ins.map (.int .i64)),.i (bG w a st).w.used,.i (bG w a st).what,.i (bG w a st).e.task,.i (bG w a st).e.act,.i (bG w a st).e.n,.i (bG w a st).e.v.kind,.i (bG w a st).e.v.n]):=by
 have ha:=hf.at_;simp only[inR,bWo]at ha;have hS:=aNe w (aX w a) ⟨6,st,[],[]⟩ hf.rng (by omega) hf.len
 refine pcA func122 ?_
 simp only[bTe]at hS;simp only[go_sem,kK,aK4 hf.at_,hS.ret,bG,iV]
theorem aVc (w:aA)(a:Int)(left:List aB)(v:aE){c:Val}(hc:aEi c (.fz (left.map aB.enc)))(hf:Fit w a)(hL:aGy en cnt w vO vT vU vI):
  WIn L (.fn 123 [] []) [.agg [vO,vT,vU,vI,.i w.used],.i a,c,.agg [.i v.kind,.i v.n]] en cnt fun x en' cnt'=>xY en cnt (cC w a left v).w [.i 0,.i 0,.i 0,.i 0,.i 0,.i 0] x en' cnt':=by
 have ha:=hf.at_;have hr:=hf.rng;simp only[inR,bWo]at ha hr;obtain⟨j,hj⟩:=bTs hr.1;obtain⟨i,rfl⟩:=bTs ha.1;have hi:i<w.tasks.length:=by omega
 have hti:w.tasks[i]=(j:Int):=by rw[<-hj];simp[aX,bSz,hi]
 have hget:(w.tasks.map (Val.int .i64))[i]?=some (.i (j:Int)):=by simp[hi,hti]
 have hi1:((i:Int)<(w.tasks.length:Int)):=by omega
 obtain⟨⟨o1,o2⟩,⟨t1,t2⟩,⟨u1,u2⟩,⟨i1,i2⟩⟩:=hL.shape;obtain⟨g4,hg4⟩: ∃g,g=cnt 0 4:=⟨_,rfl⟩
 obtain⟨g7,hg7⟩: ∃g,g=cnt 0 7:=⟨_,rfl⟩
 obtain⟨g8,hg8⟩: ∃g,g=cnt 0 8:=⟨_,rfl⟩
 have up0: ∀t,cnt 0 t<=aC (aC (aC cnt 0 4 (g4+1)) 0 7 (g7+1)) 0 8 (g8+1) 0 t:=pD (pD (pD (fun _=>bSx _) hg4) hg7) hg8
 have hD:(cC w i left v).w=dD w j ⟨6,0,[v],left⟩:=by simp only[cC,hj]
 rw[hD];have key:=fun{en1:En} (h: ∀t g,g<cnt 0 t->en1 ⟨0,t,g⟩=en ⟨0,t,g⟩)=>aYo w j ⟨6,0,[v],left⟩ (aG0 [.agg [.i v.kind,.i v.n]]) hc (by omega) (by omega) hf.len (en:=en1) (cnt:=aC (aC (aC cnt 0 4 (g4+1)) 0 7 (g7+1)) 0 8 (g8+1)) (hL.keep h up0) hL.shape
 have hj':w.tasks.getD ((i:Int)).toNat 0=(j:Int):=hj;have oldS:=fun{e1:En} {x4 x7 x8:Option Ent} {t g:Nat} (hg:g<cnt 0 t)=>show((e1.set ⟨0,4,g4⟩ x4).set ⟨0,7,g7⟩ x7).set ⟨0,8,g8⟩ x8 ⟨0,t,g⟩=e1 ⟨0,t,g⟩by
  rw[jZ (bUj hg8.symm) hg,jZ (bUj hg7.symm) hg,jZ (bUj hg4.symm) hg]
 have fin: ∀{en1:En} {x:Val} {en':En} {cnt':Nat->Nat->Nat},(∀t g,g<cnt 0 t->en1 ⟨0,t,g⟩=en ⟨0,t,g⟩)->xY en1 (aC (aC (aC cnt 0 4 (g4+1)) 0 7 (g7+1)) 0 8 (g8+1)) (dD w j ⟨6,0,[v],left⟩) [] x en' cnt'->
   ∃g5 g9 vU vI,x= .agg [.bl ⟨0,5,g5⟩ 0 (dD w j ⟨6,0,[v],left⟩).objs.length,.bl ⟨0,8,g9⟩ 0 (dD w j ⟨6,0,[v],left⟩).tasks.length,vU,vI,.i (dD w j ⟨6,0,[v],left⟩).used]/\ (vU.one=true/\ vU.cells=[vU])/\ (vI.one=true/\ vI.cells=[vI])/\ en' ⟨0,8,g8⟩=en1 ⟨0,8,g8⟩/\
    ∀Z:Option Ent,xY en cnt (dD w j ⟨6,0,[v],left⟩) [.i 0,.i 0,.i 0,.i 0,.i 0,.i 0] (.agg (.bl ⟨0,5,g5⟩ 0 (dD w j ⟨6,0,[v],left⟩).objs.length:: .bl ⟨0,8,g9⟩ 0 (dD w j ⟨6,0,[v],left⟩).tasks.length::vU::vI:: .i (dD w j ⟨6,0,[v],left⟩).used::[.i 0,.i 0,.i 0,.i 0,.i 0,.i 0])) (en'.set ⟨0,8,g8⟩ Z) cnt':=by
  rintro en1 x en' cnt' h1 ⟨⟨g5,g9,vU,vI,rfl,e5,l5,m5,e9,l9,m9,mU,mI⟩,old,up⟩
  have hlt:g8<aC (aC (aC cnt 0 4 (g4+1)) 0 7 (g7+1)) 0 8 (g8+1) 0 8:=by simp[aC]
  refine⟨g5,g9,vU,vI,rfl,mU.shape,mI.shape,old 8 g8 hlt,fun Z=>⟨⟨g5,g9,vU,vI,rfl,by simp only[go_sem,e5],bS9 (up0 5) l5,m5,?_,bS9 (up0 8) l9,m9,mU.keep (fun g _=>by simp only[go_sem]) (bSx _),mI.keep (fun g _=>by simp only[go_sem]) (bSx _)⟩,fun t g hg=>?_,fun t=>bS9 (up0 t) (up t)⟩⟩
  ·rw[aYg (by omega)];exact e9
  ·rw[jZ (bUj hg8.symm) hg,old t g (bTm hg (up0 t)),h1 t g hg]
 have hLz:=at_ func123
 conv at hLz=>rhs;reduce
 refine dP hLz rfl rfl ?_
 simp only[go_sem,kK,<-hg4,<-hg7,<-hg8]
 refine aH ?_
 rcases hL with⟨rfl,rfl,rfl,rfl⟩|⟨gO,gT,rfl,eO,lO,rfl,eT,lT,mU,mI⟩
 ·simp only[go_sem,aEa (f:=Val.int .i64) (size:=1) (k:= .i64) (l:=w.tasks) 0 hf.at_ (fun _=>rfl),hj',hc.one,hc.cells,rH,lZ,kA,bS0,if_false]
  refine(key fun t g hg=>oldS hg).mono ?_
  intro x en' cnt' hO;obtain⟨g5,g9,vU,vI,rfl,⟨s1,s2⟩,⟨s3,s4⟩,e8,hO'⟩:=fin (fun t g hg=>oldS hg) hO
  try simp only[go_sem]at e8
  simp only[go_sem,e8];exact hO' _
 ·have hne: ¬gT=g8:=by omega
  simp only[go_sem,eT,hne,hget,hi1,hc.one,hc.cells,kB,bVm,bTt,kA,bS0,if_false]
  refine(key fun t g hg=>oldS hg).mono ?_
  intro x en' cnt' hO;obtain⟨g5,g9,vU',vI',rfl,⟨s1,s2⟩,⟨s3,s4⟩,e8,hO'⟩:=fin (fun t g hg=>oldS hg) hO
  try simp only[go_sem]at e8
  simp only[go_sem,e8];exact hO' _
theorem kD (w:aA)(a:Int)(left:List aB)(v:aE)(hf:Fit w a):PC L 123 [.agg w.cs,.i a,.fz (left.map aB.enc),.agg [.i v.kind,.i v.n]] (.agg [.fz ((cC w a left v).w.objs.map aP.enc),.fz ((cC w a left v).w.tasks.map (.int .i64)),.fz ((cC w a left v).w.outs.map bO.enc),.fz ((cC w a left v).w.ins.map (.int .i64)),.i (cC w a left v).w.used,.i (cC w a left v).what,.i (cC w a left v).e.task,.i (cC w a left v).e.act,.i (cC w a left v).e.n,.i (cC w a left v).e.v.kind,.i (cC w a left v).e.v.n]):=by
 have hLz:=at_ func123
 conv at hLz=>rhs;reduce
 exact aIn hLz rfl rfl rfl ((aVc w a left v (tO _) hf (aCw _ _ w)).mono fun v en' cnt' h=>h.snapD (d:=cC w a _ _))
theorem bIa {a b:Val}:dA 2 [.agg [a,b]]=true:=(rfl)
theorem bIb {a b c:Val}:dA 3 [.agg [a,b,c]]=true:=(rfl)
theorem bIc {a b c d:Val}:dA 4 [.agg [a,b,c,d]]=true:=(rfl)
theorem bDu {k:IntKind}{n:Int}:dA 1 [.int k n]=true:=(rfl)
theorem aYp (w:aA)(a:Int)(o:aP)(hf:Fit w a):PC L 80 [.agg w.cs,.i (aX w a),.agg [.i o.form,.i o.n,.fz (o.vals.map aE.enc),.fz (o.frames.map aB.enc)]] (.agg (dD w (aX w a) o).cs):=by
 have ha:=hf.at_;simp only[inR,bWo]at ha;exact aNe w (aX w a) o hf.rng (by omega) hf.len
theorem aDv (w:aA)(a:Int)(left:List aB)(node:Int)(env:List aE)(hf:Fit w a)(hl:left.length<1000000):PC L 83 [.agg w.cs,.i a,.fz (left.map aB.enc),.i node,.fz (env.map aE.enc)] (.agg [.fz ((iD w a left node env).w.objs.map aP.enc),.fz ((iD w a left node env).w.tasks.map (.int .i64)),.fz ((iD w a left node env).w.outs.map bO.enc),.fz ((iD w a left node env).w.ins.map (.int .i64)),.i (iD w a left node env).w.used,.i (iD w a left node env).what,.i (iD w a left node env).e.task,.i (iD w a left node env).e.act,.i (iD w a left node env).e.n,.i (iD w a left node env).e.v.kind,.i (iD w a left node env).e.v.n]):=by
 have hF:=gR w a 4 hf;have hS:=aYp w a ⟨6,0,[],left++[⟨node,env,[]⟩]⟩ hf;have hl1:left.length<=16777216:=by omega
 have hl2:left.length+1<=16777216:=by omega
 refine pcA func83 ?_
 by_cases h1:40<=left.length
 ·have d1:decide ((40:Int)<=(left.length:Int))=true:=D_t (by omega)
  have e:iD w a left node env=bG w a 4:=by unfold iD;rw[if_pos (.inl h1)]
  rw[e];simp only[go_sem,kK,d1,hF.ret]
 ·have d1:decide ((40:Int)<=(left.length:Int))=false:=D_f (by omega)
  by_cases h2:30<env.length
  ·have d2:decide ((30:Int)<(env.length:Int))=true:=D_t (by omega)
   have e:iD w a left node env=bG w a 4:=by unfold iD;rw[if_pos (.inr h2)]
   rw[e];simp only[go_sem,kK,d1,d2,hF.ret]
  ·have d2:decide ((30:Int)<(env.length:Int))=false:=D_f (by omega)
   have e:iD w a left node env=⟨dD w (aX w a) ⟨6,0,[],left++[⟨node,env,[]⟩]⟩,0,eM⟩:=by unfold iD;rw[if_neg (by omega)]
   rw[e];simp only[bT0,bTv,bTe,aB.enc]at hS;cases h0:left.isEmpty with
   |true=>
    have:left=[]:=by simpa using h0
    subst this;simp only[bTe,bT4]at hS⊢;simp only[go_sem,kK,d2,bW,eP,oE,jR,List.isEmpty_cons,bIb,aK4 hf.at_,wM,oD,bSx,hS.ret,eM,iV]
   |false=>
    simp only[go_sem,kK,d1,d2,bW,eP,jR,wN,jC,h0,hl1,hl2,mA,jV,bIb,bSy,bTg,bVn,bSx,bTh,aK4 hf.at_,wM,oD,hS.ret,eM,iV]
theorem nH (d:Did)(a act n:Int)(v:aE):PC L 134 [.agg [.fz (d.w.objs.map aP.enc),.fz (d.w.tasks.map (.int .i64)),.fz (d.w.outs.map bO.enc),.fz (d.w.ins.map (.int .i64)),.i d.w.used,.i d.what,.i d.e.task,.i d.e.act,.i d.e.n,.i d.e.v.kind,.i d.e.v.n],.i a,.i act,.i n,.agg [.i v.kind,.i v.n]] (.agg [.fz ((dL d a act n v).w.objs.map aP.enc),.fz ((dL d a act n v).w.tasks.map (.int .i64)),.fz ((dL d a act n v).w.outs.map bO.enc),.fz ((dL d a act n v).w.ins.map (.int .i64)),.i (dL d a act n v).w.used,.i (dL d a act n v).what,.i (dL d a act n v).e.task,.i (dL d a act n v).e.act,.i (dL d a act n v).e.n,.i (dL d a act n v).e.v.kind,.i (dL d a act n v).e.v.n]):=by
 have hM:=aIm v
 refine pcA func134 ?_
 by_cases h:d.what=1
 ·have e:dL d a act n v=d:=by unfold dL;rw[if_pos h]
  rw[e];have d1:decide (d.what=1)=true:=D_t h;simp only[go_sem,kK,d1]
 ·have e:dL d a act n v=⟨d.w,1,⟨a,act,n,nG v⟩⟩:=by unfold dL;rw[if_neg h]
  rw[e];have d1:decide (d.what=1)=false:=D_f h;simp only[go_sem,kK,d1]
  refine aH ?_
  simp only[go_sem,hM.ret,kA,bS0,if_false]
def wT (w:aA)(v:aE)(form:Int):aP:=if cG w v form=true then w.obj v.n else bDp
theorem qA (w:aA)(v:aE)(form:Int)(hv:v.kind=5->inR v.n 0 ((w.objs.length:Int)-1)=true):PC L 174 [.agg w.cs,.agg [.i v.kind,.i v.n],.i form] (.tup [.agg [.i (wT w v form).form,.i (wT w v form).n,.fz ((wT w v form).vals.map aE.enc),.fz ((wT w v form).frames.map aB.enc)],.bool (cG w v form)]):=by
 refine pcA func174 ?_
 by_cases h5:v.kind=5
 ·have d1:decide (v.kind=5)=true:=D_t h5;have hi:=aAt (w:=w) (k:= .i64) (en:=fun _=>none) (hv h5)
  by_cases h2:(w.obj v.n).form=form
  ·have d2:decide ((w.obj v.n).form=form)=true:=D_t h2;have e:cG w v form=true:=by simp only[cG,d1,d2,Bool.and_self]
   rw[wT,if_pos e,e];simp only[go_sem,kK,d1,d2,aAt (hv h5)]
  ·have d2:decide ((w.obj v.n).form=form)=false:=D_f h2;have e:cG w v form=false:=by simp only[cG,d2,bT6]
   rw[wT,if_neg (by rw[e];decide),e]
   simp only[go_sem,kK,d1,d2,aAt (hv h5),bDp,bTe]
 ·have d1:decide (v.kind=5)=false:=D_f h5;have e:cG w v form=false:=by simp only[cG,d1,bTk]
  rw[wT,if_neg (by rw[e];decide),e]
  simp only[go_sem,kK,d1,bDp,bTe]
inductive aIo (w:aA):Nat->Prop
 |task {i:Nat} (h:i<w.objs.length) (t:dB (w.obj i)=true):aIo w i
 |ref {i:Nat} {x:Int} (h:aIo w i) (hx:x∈wI (w.obj i)):aIo w x.toNat
def atB (out:List Bool)(i:Nat):Bool:=out.getD i false
structure bSq (w:aA) (out:List Bool):Prop where
 len:out.length=w.objs.length
 sound: ∀i,atB out i=true->aIo w i
 tasks: ∀i,i<w.objs.length->dB (w.obj i)=true->atB out i=true
def xZ (w:aA):Prop:= ∀o∈w.objs,∀x∈wI o,inR x 0 ((w.objs.length:Int)-1)=true
def aKo (en:En)(v:Val)(xs:List Val)(D:List Nat):Prop:=
 (v= .cl []/\ xs=[]) \/ ∃t g zs,v= .bl ⟨0,t,g⟩ 0 xs.length/\ en ⟨0,t,g⟩=some (.blk 1 zs false)/\ xs.length<=zs.length/\ zs.take xs.length=xs/\ t∈D
variable {D:List Nat}
theorem aKo.keep (h:aKo en v xs D)(k: ∀t g,t∈D->en' ⟨0,t,g⟩=en ⟨0,t,g⟩):aKo en' v xs D:=by
 rcases h with h|⟨t,g,zs,h1,h2,h3,h4,h5⟩
 ·exact .inl h
 ·exact .inr ⟨t,g,zs,h1,by rw[k t g h5];exact h2,h3,h4,h5⟩
theorem aKo.sub {D':List Nat}(h:aKo en v xs D)(k: ∀t∈D,t∈D'):aKo en v xs D':=by
 rcases h with h|⟨t,g,zs,h1,h2,h3,h4,h5⟩
 ·exact .inl h
 ·exact .inr ⟨t,g,zs,h1,h2,h3,h4,k t h5⟩
theorem aKo.len (h:aKo en v xs D):uC v=some xs.length:=by
 rcases h with⟨rfl,rfl⟩|⟨t,g,zs,rfl,_⟩<;>rfl
theorem aKo.shape (h:aKo en v xs D):v.one=true/\ v.cells=[v]:=by
 rcases h with⟨rfl,_⟩|⟨t,g,zs,rfl,_⟩<;>exact⟨rfl,rfl⟩
section
variable {L :bH}{fr:Nat->Val}{Q:St->Prop}{l:List aN}
end
structure bRc (w:aA) (ks td:List Int):Prop where
 met: ∀x∈ks,∃i:Nat,x=i/\ i<w.objs.length/\ aIo w i
 todo: ∀x∈td,∃i:Nat,x=i/\ i<w.objs.length/\ aIo w i
 tasks: ∀x∈w.tasks,x∈ks \/x∈td
 shut: ∀n∈ks,∀x∈wI (w.obj n),x∈ks \/x∈td
theorem aKo.nil (h:aKo en v xs D)(h0:xs.length=0):xs=[]:=List.eq_nil_of_length_eq_zero h0
def aQb (m:List Int)(i:Nat):Int:=m.getD i 0
structure bPb (w:aA) (m:List Int):Prop where
 len:m.length=w.objs.length
 range: ∀i,i<m.length->aQb m i=0 \/aQb m i=1 \/aQb m i=2
 tasks: ∀i,i<w.objs.length->dB (w.obj i)=true-> ¬aQb m i=0
 black: ∀i,i<w.objs.length->aQb m i=2-> ∀x∈wI (w.obj i),¬aQb m x.toNat=0
structure bSu (w:aA) (keep:List Int):Prop where
 rise:keep.Pairwise (· < ·)
 rng: ∀x∈keep,inR x 0 ((w.objs.length:Int)-1)=true
 refs: ∀n∈keep,∀x∈wI (w.obj n),x∈keep
 len:keep.length<=w.objs.length
theorem aNf (h:cX en v size xs [t])(n:Nat): ∃r ks,r.wk1= .fz xs/\ ∀en':En,(∀g,en' ⟨0,t,g⟩=en ⟨0,t,g⟩)->snapD (n+1) en' v=some (r,ks):=by
 rcases h with⟨rfl,rfl⟩|⟨t',g,f,rfl,h2,ht⟩
 ·exact⟨.cl [],[],rfl,fun _ _=>rfl⟩
 ·have:t'=t:=by simpa using ht
  subst this;exact⟨.fz xs,[⟨0,t',g⟩],rfl,fun en' he=>by simp[snapD,aE0,he,h2]⟩
theorem aJu.shape (h:aJu en v size xs t):v.one=true/\ v.cells=[v]:=h.mine.shape
theorem aJu.keep (h:aJu en v size xs t)(k: ∀g,en' ⟨0,t,g⟩=en ⟨0,t,g⟩):aJu en' v size xs t:=by
 rcases h with h|⟨g,h1,h2⟩
 ·exact .inl h
 ·exact .inr ⟨g,h1,by rw[k];exact h2⟩
def ne2 (a:Int):Bool:=!decide (a=2)
theorem aAf {keep:List Int}(h:x∈keep):keep.idxOf x<keep.length:=List.idxOf_lt_length_of_mem h
theorem aCx {l:List aE}{v:aE}(hv:v∈l)(h:aJq v=true):v.n∈mW l:=bTu.2 ⟨v,bUl.2 ⟨hv,h⟩,rfl⟩
end Go.Proofs.YtmafmhjndjmalaaGreat
