import Derived.Test.YtmafmhjndjmalaaGreatHxCd
import Derived.Test.YtmafmhjndjmalaaGreatCod
import Derived.Laws.Strings
import Derived.Test.YtmafmhjndjmalaaGreatRows
set_option linter.all false
open Array renaming getElem_toList -> bTf, length_toList -> bSt
open Bool renaming and_eq_false_iff -> bTj, and_eq_true -> bQj, and_false -> bRp, and_true -> bRy, eq_iff_iff -> bSw, false_and -> bQ7, false_eq_true -> bQm, false_or -> bRf, not_eq_true -> bRu, not_eq_true' -> bRw, not_false -> bQ5, not_true -> bQ0, or_eq_true -> bRr, true_and -> bQ9
open Int renaming eq_ofNat_of_zero_le -> bRn, natCast_nonneg -> bS7, not_lt -> bSy, toNat_natCast -> bRh, toNat_of_nonneg -> bT0
open List renaming all_cons -> bSs, all_eq_true -> bQp, any_eq_true -> bTg, append_nil -> bRk, cons_append -> bS2, countP_le_length -> bTu, countP_pos_iff -> bT1, drop_eq_getElem_cons -> bRt, drop_length -> bSh, drop_zero -> bSm, flatMap_cons -> bS5, flatMap_nil -> bSn, foldl_cons -> bSv, foldl_nil -> bS4, getD_cons_zero -> bTi, getD_eq_getElem?_getD -> bQn, getElem?_append_left -> bSq, getElem?_eq_getElem -> bRq, getElem?_set -> bTb, getElem_mem -> bQr, length_append -> bQ2, length_cons -> bQu, length_drop -> bS3, length_eq_zero_iff -> bT2, length_map -> bQl, length_nil -> bQz, length_set -> bSb, length_singleton -> bS0, map_append -> bRl, map_cons -> bRj, map_nil -> bQ1, map_set -> bSz, map_take -> bSc, mem_append -> bRb, mem_append_left -> bSu, mem_append_right -> bSe, mem_cons -> bRm, mem_cons_of_mem -> bSo, mem_cons_self -> bTv, mem_filter -> bR6, mem_flatMap -> bRx, mem_map -> bRe, mem_of_mem_take -> bS8, mem_or_eq_of_mem_set -> bT6, mem_range -> bRi, mem_singleton -> bR3, nil_append -> bRo, take_length -> bR1, take_of_length_le -> bQ3, take_succ_cons -> bQs, take_zero -> bQq
open Nat renaming add_zero -> bR5, le_of_eq -> bR4, le_refl -> bQk, le_trans -> bQv, lt_irrefl -> bS1, lt_of_lt_of_le -> bRa, zero_add -> bRg, zero_le -> bQt
open Option renaming bind_some -> bTe, getD_some -> bRc, map_eq_some_iff -> bQw
open Option.some renaming injEq -> bQi
open Prod.mk renaming injEq -> bQo
namespace Go.Abs
theorem dT {n:Nat}(h:Few n):IntKind.i64.wrap ((n:Int)-1)=(n:Int)-1:=by unfold Few at h;exact aV (by omega)
theorem aJ1 {α:Type}{l:List α}(h:Few l.length)(k:Nat):Few (l.take k).length:=by unfold Few at*;simp;omega
def aB.few (f:aB):Prop:=Few f.env.length/\ Few f.vals.length
def aN.few (o:aN):Prop:=Few o.vals.length/\ Few o.frames.length/\ ∀f∈o.frames,f.few
structure aA.few (w:aA):Prop where
 objs:Few w.objs.length
 tasks:Few w.tasks.length
 outs:Few w.outs.length
 ins:Few w.ins.length
 obj: ∀o∈w.objs,o.few
inductive Pat.few :Pat->Prop
 |mk (f n:Int) (t:ByteArray) (l:List Pat) (h:Few l.length) (ht:Few t.size) (k: ∀p∈l,Pat.few p):Pat.few (.mk f n t l)
structure aK.few (n:aK):Prop where
 kids:Few n.kids.length
 pats:Few n.pats.length
 pat: ∀q∈n.pats,q.few
structure aF.few (p:aF):Prop where
 nodes:Few p.nodes.length
 funs:Few p.funs.length
 cons:Few p.cons.length
 node: ∀n∈p.nodes,n.few
 con: ∀c∈p.cons,Few c.name.size
def inR (n lo hi:Int):Bool:=decide (lo<=n/\ n<=hi)
def aK.asks (n:aK):Int:=
 if n.op=6 \/n.op=9 \/n.op=10 \/n.op=11 \/n.op=12 \/n.op=13 \/n.op=18 \/n.op=22 then 2
 else if n.op=14 then n.kids.length
 else if n.op=7 \/n.op=8 \/n.op=15 \/n.op=16 \/n.op=17 \/n.op=19 \/n.op=20 \/n.op=23 \/n.op=24 \/n.op=26 then 1 else 0
def aF.node (p:aF)(i:Int):aK:=p.nodes.getD i.toNat default
def dJ (p:aF)(w:aA)(v:aD):Bool:=
 if v.kind=1 then inR v.n (-1000000000) 1000000000
 else if v.kind=2 then inR v.n 0 1
 else if v.kind=3 then decide (v.n=0)
 else if v.kind=4 then inR v.n 0 (p.funs.length-1)
 else if v.kind=5 then inR v.n 0 (w.objs.length-1)else false
def bA (p:aF)(w:aA)(l:List aD)(most:Int):Bool:=decide ((l.length:Int)<=most)&&l.all (dJ p w)
def dF (p:aF)(w:aA)(f:aB):Bool:=
 inR f.node 0 (p.nodes.length-1)&&bA p w f.env 30&&bA p w f.vals (p.node f.node).asks
def bS (p:aF)(w:aA)(l:List aB):Bool:=decide ((l.length:Int)<=40)&&l.all (dF p w)
def fI (p:aF)(f:aB):Bool:=decide ((f.vals.length:Int)<(p.node f.node).asks)
def jQ (p:aF)(w:aA)(o:aN):Bool:=
 if o.n=0 then bS p w o.frames&&bA p w o.vals 1&&decide ((0:Int)<o.frames.length+o.vals.length)&&(o.frames.take (o.frames.length+o.vals.length-1)).all (fI p)
 else if o.n=1 then decide ((o.frames.length:Int)=0)&&decide ((o.vals.length:Int)=1)&&bA p w o.vals 1
 else if o.n=2 \/o.n=3 \/o.n=4 then decide ((o.frames.length:Int)=0)&&decide ((o.vals.length:Int)=0)else false
def dI (p:aF)(w:aA)(o:aN):Bool:=
 if o.form=6 then jQ p w o
 else if o.form=5 then decide (o.n=0)&&decide ((o.vals.length:Int)=0)&&decide ((0:Int)<o.frames.length)&&bS p w o.frames&&o.frames.all (fI p)&&decide ((p.node (o.frames.headD default).node).op=26)
 else if¬(o.frames.length:Int)=0 then false
 else if o.form=1 then inR o.n 0 (p.cons.length-1)&&decide ((o.vals.length:Int)=(p.cons.getD o.n.toNat default).args)&&bA p w o.vals 3
 else if o.form=2 then inR o.n 0 (p.nodes.length-1)&&decide ((p.node o.n).op=5)&&bA p w o.vals 30
 else if o.form=3 then decide (o.n=0)&&decide ((o.vals.length:Int)=1)&&bA p w o.vals 1
 else if o.form=4 then decide (o.n=0)&&bA p w o.vals 4 else false
def dC (o:aN):Bool:=decide (o.form=6)
def aA.obj (w:aA)(i:Int):aN:=w.objs.getD i.toNat default
def bK (w:aA):List Int->List Int->Bool
 |_,[]=>true
 |met,k::l=>inR k 0 (w.objs.length-1)&&dC (w.obj k)&&!met.any (fun x=>decide (x=k))&&bK w (met++[k]) l
def gJ (w:aA):Bool:=decide (w.tasks.length=w.objs.countP dC)&&bK w [] w.tasks
def nJ (l:List Int)(most:Int):Bool:=decide ((l.length:Int)<=most)&&l.all fun n=>inR n (-1000000000) 1000000000
def vL (o:bL):Bool:=inR o.port 0 3&&inR o.n (-1000000000) 1000000000
def dG (p:aF)(w:aA):Bool:=
 decide ((w.objs.length:Int)<=120)&&decide ((w.outs.length:Int)<=100)&&nJ w.ins 50&&inR w.used 0 1000000000&&gJ w&&w.objs.all (dI p w)&&w.outs.all vL
def hZ (o:aN):Bool:=decide ((o.vals.length:Int)<=40)&&decide ((o.frames.length:Int)<=50)&&o.frames.all fun f=>decide ((f.env.length:Int)<=40)&&decide ((f.vals.length:Int)<=40)
def bU (w:aA):Bool:=
 decide ((w.objs.length:Int)<=130)&&decide ((w.tasks.length:Int)<=130)&&decide ((w.outs.length:Int)<=110)&&decide ((w.ins.length:Int)<=60)&&w.objs.all hZ
variable {α:Type}
theorem aUp {l:List α}{k:Nat}(h:k<l.length)(p:α->Bool):(l.take (k+1)).countP p=(l.take k).countP p+(if p l[k]then 1 else 0):=by
 rw[<-List.take_append_getElem h,List.countP_append];simp[List.countP_cons]
theorem gM {α:Type}{l:List α}{k:Nat}(h:k<l.length):l.take (k+1)=l.take k++[l[k]]:=by
 rw[List.take_append_getElem h]
variable {en:En}{i:Int}{k:IntKind}
theorem aCh {f:α->Val}{size:Nat}{l:List α}(d:α)(h:inR i 0 ((l.length:Int)-1)=true)(hs: ∀x,(f x).cells.length=size):
  mA size en (.fz (l.map f)) (.int k i)=some {v:= .fp (f (l.getD i.toNat d)).cells 0}:=by
 simp only[inR,bT8]at h;obtain⟨j,rfl⟩:=bRn h.1;have hj:j<l.length:=by omega
 rw[aUj (f:=f) hj (by simp[hs])]
 simp[bQn,hj]
theorem bH {p:aF}(h:inR i 0 ((p.nodes.length:Int)-1)=true):
  mA 4 en (.fz (p.nodes.map aK.enc)) (.int k i)=some {v:= .fp (aK.enc (p.node i)).cells 0}:=aCh default h fun x=>rfl
theorem aNc {l:List aB}(h:0<l.length):mA 3 en (.fz (l.map aB.enc)) (.int k 0)=some {v:= .fp (aB.enc (l.headD default)).cells 0}:=by
 have:=aCh (f:=aB.enc) (size:=3) (k:=k) (i:=0) (en:=en) default (l:=l) (by simp[inR];omega) (fun _=>rfl)
 rw[this];cases l<;>simp at h⊢
theorem aGe {l:List cV}(h:inR i 0 ((l.length:Int)-1)=true):
  mA 2 en (.fz (l.map cV.enc)) (.int k i)=some {v:= .fp (cV.enc (l.getD i.toNat default)).cells 0}:=aCh default h fun x=>rfl
theorem yT {w:aA}(h:inR i 0 ((w.objs.length:Int)-1)=true):
  mA 4 en (.fz (w.objs.map aN.enc)) (.int k i)=some {v:= .fp (aN.enc (w.obj i)).cells 0}:=aCh default h fun x=>rfl
theorem wJ {l:List Int}(h:inR i 0 ((l.length:Int)-1)=true):
  mA 1 en (.fz (l.map (.int .i64))) (.int k i)=some {v:= .fp [.int .i64 (l.getD i.toNat 0)] 0}:=aCh 0 h fun x=>rfl
def aJv.few (s:aJv):Prop:=s.world.few/\ Few s.ages.length/\ Few s.marks.length
end Go.Abs
namespace Go.Proofs.YtmafmhjndjmalaaGreat
open Go.Abs Go.Proofs Tryz
set_option maxRecDepth 100000
set_option maxHeartbeats 4000000
theorem nZ (n lo hi:Int):PC L 61 [.i n,.i lo,.i hi] (.bool (inR n lo hi)):=by
 refine pcA func61 ?_
 simp only[go_sem,qW]
 refine bC (fun h=>?_) (fun h=>?_)<;>simp only[go_sem,h]<;>simp at h<;>simp[h,inR]
 omega
theorem aMd (l:List Int)(n:Int)(hl:Few l.length):PC L 110 [.is l,.i n] (.bool (l.any fun x=>decide (x=n))):=by
 refine pcA func110 ?_
 simp only[go_sem,qW]
 refine bQ l.length (fun k st=> ∃fr en cnt,st=⟨fr,en,cnt⟩/\ fr 0= .is l/\ fr 1= .i n/\ fr 5= .i k/\ (l.drop k).any (fun x=>decide (x=n))=l.any fun x=>decide (x=n)) 0 (bQt _) (by refine⟨_,_,_,rfl,?_,?_,?_,rfl⟩<;>simp only[go_sem]) ?_
 rintro k st hk ⟨fr,en,cnt,rfl,h0,h1,h5,hI⟩
 simp only[go_sem,qW,h0,h5]
 refine aW (fun h=>?_) (fun h=>?_)
 ·have h':k<l.length:=D_o h;rw[aRk h']at hI;simp only[go_sem,qW,h',h1,h5]
  refine aW (fun h2=>?_) (fun h2=>?_)
  ·rw[<-hI,h2];rfl
  ·refine⟨_,_,_,rfl,?_⟩
   simp only[go_sem,h0,h1,aR h' hl];rw[<-hI,h2];simp
 ·have:k=l.length:=by simp at h;omega
  subst this;rw[<-hI];simp
theorem vN (n:aK):PC L 82 [.agg [.i n.op,.i n.n,.fz (n.kids.map (.int .i64)),.fz (n.pats.map Pat.enc)]] (.i n.asks):=by
 refine pcA func82 ?_
 simp only[go_sem,qW]
 repeat' ((first|with_reducible refine aW (fun h=>?_) (fun h=>?_)|with_reducible refine bC (fun h=>?_) (fun h=>?_))<;>(try simp only[bT8,bT9]at h)<;>try simp only[go_sem,h])
 all_goals simp[aK.asks, *]
theorem aO8 (p:aF)(w:aA)(v:aD)(hp:p.few)(hw:w.few):PC L 164 [.agg p.cs,.agg w.cs,.agg [.i v.kind,.i v.n]] (.bool (dJ p w v)):=by
 refine pcA func164 ?_
 simp only[go_sem,qW,(nZ _ _ _).ret,dT hp.funs,dT hw.objs]
 repeat' ((first|with_reducible refine aW (fun h=>?_) (fun h=>?_)|with_reducible refine bC (fun h=>?_) (fun h=>?_))<;>(try simp only[bT8,bT9]at h)<;>try simp only[go_sem,qW,h,(nZ _ _ _).ret,dT hp.funs,dT hw.objs])
 all_goals simp[dJ, *]
theorem oL (p:aF)(w:aA)(l:List aD)(m:Int)(hp:p.few)(hw:w.few)(hl:Few l.length):
  PC L 114 [.agg p.cs,.agg w.cs,.fz (l.map aD.enc),.i m] (.bool (bA p w l m)):=by
 refine pcA func114 ?_
 simp only[go_sem,qW]
 refine bQ (l.length) (fun k st=> ∃fr en cnt,st=⟨fr,en,cnt⟩/\ (fr 2= .fz (l.map aD.enc))/\ (fr 3= .i m)/\ (fr 4= .ptr ⟨0,4,0⟩ 0)/\ (en ⟨0,4,0⟩=some (.box p.cells false))/\ (fr 5= .ptr ⟨0,5,0⟩ 0)/\ (en ⟨0,5,0⟩=some (.box w.cells false))/\ (fr 9= .i k)/\ ((l.drop k).all (dJ p w)=l.all (dJ p w))) 0 (bQt _) (by refine⟨_,_,_,rfl,?_,?_,?_,?_,?_,?_,?_,?_⟩<;>first|(simp only[go_sem];(try rfl);done)|rfl|simp) ?_
 rintro k st hk ⟨fr,en,cnt,rfl,h2,h3,h4,e4,h5,e5,h9,hI⟩
 simp only[go_sem,qW,h2,h3,h4,e4,h5,e5,h9]
 refine bC (fun h=>?_) (fun h=>?_)
 ·have h':k<l.length:=D_o h;rw[fT h']at hI;simp only[go_sem,h']
  refine aW (fun hm=>?_) (fun hm=>?_)
  ·simp only[go_sem,qW,h9,(aO8 p w _ hp hw).ret]
   refine aW (fun hb=>?_) (fun hb=>?_)
   ·simp at hb
    simp[bA,<-hI,hb]
   ·simp at hb
    refine⟨_,_,_,rfl,?_⟩
    simp only[go_sem,h2,h3,h4,e4,h5,e5,aR h' hl];rw[<-hI,hb];simp
  ·simp at hm
   try simp only[go_sem,qW,h2,h3,h4,e4,h5,e5,h9]
   simp[bA];omega
 ·have:k=l.length:=by simp at h;omega
  subst this
  try simp only[go_sem,h,h2,h3]
  simp at hI
  simp[bA];exact fun _=>hI
theorem aCi (p:aF)(w:aA)(l:List aB)(hp:p.few)(hw:w.few)(hl:Few l.length)(hf: ∀f∈l,f.few):
  PC L 112 [.agg p.cs,.agg w.cs,.fz (l.map aB.enc)] (.bool (bS p w l)):=by
 refine pcA func112 ?_
 simp only[go_sem,qW]
 refine bQ (l.length) (fun k st=> ∃fr en cnt,st=⟨fr,en,cnt⟩/\ (fr 2= .fz (l.map aB.enc))/\ (fr 3= .ptr ⟨0,3,0⟩ 0)/\ (en ⟨0,3,0⟩=some (.box p.cells false))/\ (fr 4= .ptr ⟨0,4,0⟩ 0)/\ (en ⟨0,4,0⟩=some (.box w.cells false))/\ (fr 7= .i k)/\ ((l.drop k).all (dF p w)=l.all (dF p w))) 0 (bQt _) (by refine⟨_,_,_,rfl,?_,?_,?_,?_,?_,?_,?_⟩<;>first|(simp only[go_sem];(try rfl);done)|rfl|simp) ?_
 rintro k st hk ⟨fr,en,cnt,rfl,h2,h3,e3,h4,e4,h7,hI⟩
 simp only[go_sem,qW,h2,h7]
 refine bC (fun h=>?_) (fun h=>?_)
 ·have h':k<l.length:=D_o h;rw[fT h']at hI;have hx:=hf l[k] (bQr _);simp only[go_sem,h']
  refine aW (fun hm=>?_) (fun hm=>?_)
  ·refine aAo ?_ ?_
   ·decide
   simp only[go_sem,h3,e3,h4,e4,(nZ _ _ _).ret,dT hp.nodes]
   refine bC (fun hb=>?_) (fun hb=>?_)
   ·have hb':inR l[k].node 0 (p.nodes.length-1)=true:=by simpa using hb
    simp only[go_sem,hb',h3,e3,h4,e4,(oL p w _ _ hp hw hx.1).ret]
    refine bC (fun hc=>?_) (fun hc=>?_)
    ·have hc':bA p w l[k].env 30=true:=by simpa using hc
     simp only[go_sem,qW,hc',hb',h7,bH,(vN _).ret,(oL p w _ _ hp hw hx.2).ret]
     refine aW (fun hd=>?_) (fun hd=>?_)
     ·simp at hd
      simp[bS,<-hI,dF,hb',hc',hd]
     ·simp at hd
      refine⟨_,_,_,rfl,?_⟩
      simp only[go_sem,h2,h3,e3,h4,e4,aR h' hl];rw[<-hI];simp[dF,hb',hc',hd]
    ·simp only[go_sem,qW,hc]
     simp at hc
     simp[bS,<-hI,dF,hc]
   ·simp only[go_sem,qW,hb]
    simp at hb
    simp[bS,<-hI,dF,hb]
  ·simp at hm
   try simp only[go_sem,qW,h2,h3,e3,h4,e4,h7]
   simp[bS];omega
 ·have:k=l.length:=by simp at h;omega
  subst this
  try simp only[go_sem,h,h2]
  simp at hI
  simp[bS];exact fun _=>hI
theorem aHh (p:aF)(l:List aB)(n:Nat)(hp:p.few)(hl:Few l.length)(hn:n<=l.length)(hf: ∀f∈l,inR f.node 0 (p.nodes.length-1)=true):
  PC L 113 [.agg p.cs,.fz (l.map aB.enc),.i n] (.bool ((l.take n).all (fI p))):=by
 refine pcA func113 ?_
 simp only[go_sem,qW]
 refine bQ (n) (fun k st=> ∃fr en cnt,st=⟨fr,en,cnt⟩/\ (fr 1= .fz (l.map aB.enc))/\ (fr 2= .i n)/\ (fr 3= .ptr ⟨0,3,0⟩ 0)/\ (en ⟨0,3,0⟩=some (.box p.cells false))/\ (fr 7= .i k)/\ (((l.take n).drop k).all (fI p)=(l.take n).all (fI p))) 0 (bQt _) (by refine⟨_,_,_,rfl,?_,?_,?_,?_,?_,?_⟩<;>first|(simp only[go_sem];(try rfl);done)|rfl|simp) ?_
 rintro k st hk ⟨fr,en,cnt,rfl,h1,h2,h3,e3,h7,hI⟩
 simp only[go_sem,qW,h2,h7]
 refine aW (fun h=>?_) (fun h=>?_)
 ·have h'':k<n:=by simp at h;omega
  have h':k<l.length:=by omega
  rw[fT (by simp;omega)]at hI
  have hx:=hf l[k] (bQr _)
  try simp only[go_sem,qW,h1,h2,h3,e3,h7]
  refine aAo ?_ ?_
  ·decide
  simp only[go_sem,qW,h1,h3,e3,h7,h',h'',hx,bH,(vN _).ret];have he:(l.take n)[k]'(by simp;omega)=l[k]:=by simp
  rw[he]at hI
  refine aW (fun hb=>?_) (fun hb=>?_)
  ·simp at hb
   have:fI p l[k]=false:=by simp[fI,hb]
   rw[<-hI,this];rfl
  ·simp at hb
   have:fI p l[k]=true:=by simp[fI,hb]
   refine⟨_,_,_,rfl,?_⟩
   simp only[go_sem,h1,h2,h3,e3,aR h' hl];rw[<-hI,this];simp
 ·have:k=n:=by simp at h;omega
  subst this
  try simp only[go_sem,qW]
  rw[<-hI];simp
variable {p:aF}{w:aA}
theorem aO9 {l:List aD}{m:Int}(h:bA p w l m=true):(l.length:Int)<=m:=by
 simp[bA]at h;exact h.1
variable {l:List aB}
theorem aEm (h:bS p w l=true):(l.length:Int)<=40:=by
 simp[bS]at h;omega
theorem oM (h:bS p w l=true): ∀f∈l,inR f.node 0 (p.nodes.length-1)=true:=by
 simp[bS]at h;intro f hf;have:=h.2 f hf;simp[dF]at this;exact this.1.1
theorem aRx (p:aF)(w:aA)(o:aN)(hp:p.few)(hw:w.few)(ho:o.few):PC L 111 [.agg p.cs,.agg w.cs,.agg [.i o.form,.i o.n,.fz (o.vals.map aD.enc),.fz (o.frames.map aB.enc)]] (.bool (jQ p w o)):=by
 refine pcA func111 ?_
 simp only[go_sem,qW]
 refine aW (fun h=>?_) (fun h=>?_)<;>simp only[bT8,bT9]at h
 ·simp only[go_sem,(aCi p w _ hp hw ho.2.1 ho.2.2).ret]
  refine bC (fun h1=>?_) (fun h1=>?_)
  ·simp only[go_sem,h1,(oL p w _ _ hp hw ho.1).ret]
   refine bC (fun h2=>?_) (fun h2=>?_)
   ·have k1:=aEm h1;have k2:=aO9 h2;have e1:IntKind.i64.wrap ((o.frames.length:Int)+o.vals.length)=(o.frames.length:Int)+o.vals.length:=aV (by omega)
    simp only[go_sem,h2,e1]
    refine bC (fun h3=>?_) (fun h3=>?_)
    ·simp at h3
     have e2:IntKind.i64.wrap ((o.frames.length:Int)-1)=(o.frames.length:Int)-1:=aV (by omega)
     have e3:IntKind.i64.wrap ((o.frames.length:Int)-1+o.vals.length)=((o.frames.length+o.vals.length-1:Nat):Int):=by rw[aV (by omega)];omega
     have e4:min (o.frames.length:Int) (max 0 ((o.frames.length+o.vals.length-1:Nat):Int))=((o.frames.length+o.vals.length-1:Nat):Int):=by omega
     simp only[go_sem,h3,e2,e3,e4,(aHh p o.frames (o.frames.length+o.vals.length-1) hp ho.2.1 (by omega) (oM h1)).ret]
     simp[jQ,h,h1,h2,h3]
    ·simp only[go_sem,h3]
     simp at h3
     simp[jQ,h,h1,h2];omega
   ·simp only[go_sem,h2]
    simp at h2
    simp[jQ,h,h1,h2]
  ·simp only[go_sem,h1]
   simp at h1
   simp[jQ,h,h1]
 ·repeat' ((first|with_reducible refine aW (fun h=>?_) (fun h=>?_)|with_reducible refine bC (fun h=>?_) (fun h=>?_))<;>(try simp only[bT8,bT9,bQ0]at h)<;>try simp only[go_sem,h,(oL p w _ _ hp hw ho.1).ret])
  all_goals simp[jQ, *]
  all_goals (intros;simp_all)
theorem aMe (p:aF)(w:aA)(o:aN)(hp:p.few)(hw:w.few)(ho:o.few):PC L 63 [.agg p.cs,.agg w.cs,.agg [.i o.form,.i o.n,.fz (o.vals.map aD.enc),.fz (o.frames.map aB.enc)]] (.bool (dI p w o)):=by
 refine pcA func63 ?_
 simp only[go_sem,qW]
 refine aW (fun h=>?_) (fun h=>?_)<;>simp only[bT8,bT9]at h
 ·simp only[go_sem,(aRx p w o hp hw ho).ret];simp[dI,h]
 ·refine aW (fun h5=>?_) (fun h5=>?_)<;>simp only[bT8,bT9]at h5
  ·try simp only[go_sem,qW]
   refine bC (fun h1=>?_) (fun h1=>?_)
   ·simp only[go_sem,h1]
    refine bC (fun h2=>?_) (fun h2=>?_)
    ·simp only[go_sem,h2]
     refine bC (fun h3=>?_) (fun h3=>?_)
     ·simp only[go_sem,h3,(aCi p w _ hp hw ho.2.1 ho.2.2).ret]
      refine bC (fun h4=>?_) (fun h4=>?_)
      ·simp only[go_sem,h4,(aHh p o.frames o.frames.length hp ho.2.1 (bQk _) (oM h4)).ret]
       refine bC (fun h6=>?_) (fun h6=>?_)
       ·have hpos:0<o.frames.length:=by have:=D_o h3;omega
        have hn:inR (o.frames.headD default).node 0 (p.nodes.length-1)=true:=oM h4 _ (by cases hh:o.frames with|nil=>simp[hh]at hpos|cons a l=>simp)
        simp only[go_sem,h6,aNc hpos,hn,bH]
        simp at h6 h1 h2
        simp[dI,h5,h1,h2,h4]
        first|(intros;simp_all;done)|trace_state
       ·simp only[go_sem,h6]
        simp at h6 h1 h2
        simp[dI,h5,h1,h2,h4];obtain⟨x,hx,hx2⟩:=h6;intro _ hh;rw[hh x hx]at hx2;cases hx2
      ·simp only[go_sem,h4]
       simp at h4
       simp[dI,h5,h4]
     ·simp only[go_sem,h3]
      simp at h3
      simp[dI,h5,h3]
    ·simp only[go_sem,h2]
     simp at h2
     simp[dI,h5,h2]
   ·simp only[go_sem,h1]
    simp at h1
    simp[dI,h5,h1]
  ·try simp only[go_sem,qW]
   refine aW (fun h7=>?_) (fun h7=>?_)
   ·simp at h7
    simp[dI,h,h5,h7]
   ·have h7':(o.frames.length:Int)=0:=by simp at h7;simp[h7]
    try simp only[go_sem,qW]
    repeat' ((first|with_reducible refine aW (fun h=>?_) (fun h=>?_)|with_reducible refine bC (fun h=>?_) (fun h=>?_))<;>(try simp only[bT8,bT9,bQ0]at h)<;>try simp only[go_sem, *,(nZ _ _ _).ret,(oL p w _ _ hp hw ho.1).ret,dT hp.nodes,dT hp.cons,bH,aGe])
    all_goals simp[dI, *]
    all_goals (intros;simp_all)
theorem aRy (l:List Int)(m:Int)(hl:Few l.length):PC L 60 [.is l,.i m] (.bool (nJ l m)):=by
 refine pcA func60 ?_
 simp only[go_sem,qW]
 refine bQ (l.length) (fun k st=> ∃fr en cnt,st=⟨fr,en,cnt⟩/\ (fr 0= .is l)/\ (fr 1= .i m)/\ (fr 5= .i k)/\ ((l.drop k).all (fun n=>inR n (-1000000000) 1000000000)=l.all fun n=>inR n (-1000000000) 1000000000)) 0 (bQt _) (by refine⟨_,_,_,rfl,?_,?_,?_,?_⟩<;>first|(simp only[go_sem];(try rfl);done)|rfl|simp) ?_
 rintro k st hk ⟨fr,en,cnt,rfl,h0,h1,h5,hI⟩
 simp only[go_sem,qW,h0,h1,h5]
 refine bC (fun h=>?_) (fun h=>?_)
 ·have h':k<l.length:=D_o h;rw[fT h']at hI;simp only[go_sem,h']
  refine aW (fun hm=>?_) (fun hm=>?_)
  ·simp only[go_sem,qW,h5,(nZ _ _ _).ret]
   refine aW (fun hb=>?_) (fun hb=>?_)
   ·simp at hb
    simp[nJ,<-hI,hb]
   ·simp at hb
    refine⟨_,_,_,rfl,?_⟩
    simp only[go_sem,h0,h1,aR h' hl];rw[<-hI,hb];simp
  ·simp at hm
   try simp only[go_sem,qW,h0,h1,h5]
   simp[nJ];omega
 ·have:k=l.length:=by simp at h;omega
  subst this
  try simp only[go_sem,h,h0,h1]
  simp at hI
  simp[nJ];exact fun _=>hI
theorem aPa (w:aA)(hw:w.few):PC L 62 [.agg w.cs] (.bool (gJ w)):=by
 refine pcA func62 ?_
 simp only[go_sem,qW]
 refine bQ (w.objs.length) (fun k st=> ∃fr en cnt,st=⟨fr,en,cnt⟩/\ (fr 1= .ptr ⟨0,1,0⟩ 0)/\ (en ⟨0,1,0⟩=some (.box w.cells false))/\ (fr 3= .i ((w.objs.take k).countP dC:Nat))/\ (fr 4= .i k)) 0 (bQt _) (by refine⟨_,_,_,rfl,?_,?_,?_,?_⟩<;>first|(simp only[go_sem];(try rfl);done)|rfl|simp) ?_
 rintro k st hk ⟨fr,en,cnt,rfl,h1,e1,h3,h4⟩
 simp only[go_sem,qW,h1,e1,h3,h4]
 refine aW (fun h=>?_) (fun h=>?_)
 ·have h':k<w.objs.length:=D_o h;have hc:(w.objs.take k).countP dC<=k:=bQv bTu (by simp;omega)
  have hs:=aUp h' dC;simp only[go_sem,h',h3,h4]
  refine aW (fun hb=>?_) (fun hb=>?_)
  ·simp at hb
   have e:IntKind.i64.wrap (((w.objs.take k).countP dC:Nat)+1)=(((w.objs.take (k+1)).countP dC:Nat):Int):=by
    have:=hw.objs;unfold Few at this;rw[aV (by omega),hs];simp[dC,hb]
   simp only[go_sem,e,aR h' hw.objs]
   refine⟨_,_,_,rfl,?_⟩
   simp only[go_sem,h1,e1]
  ·simp at hb
   have e:(w.objs.take (k+1)).countP dC=(w.objs.take k).countP dC:=by rw[hs];simp[dC,hb]
   refine⟨_,_,_,rfl,?_⟩
   simp only[go_sem,h1,e1,h3,e,aR h' hw.objs]
 ·have:k=w.objs.length:=by simp at h;omega
  subst this
  try simp only[go_sem,bR1]
  refine aW (fun hb=>?_) (fun hb=>?_)
  ·simp at hb
   simp[gJ];intro h0;omega
  ·have hn:w.tasks.length=w.objs.countP dC:=by simp at hb;omega
   clear hb h
   refine bQ (w.tasks.length) (fun k st=> ∃fr en cnt,st=⟨fr,en,cnt⟩/\ (fr 1= .ptr ⟨0,1,0⟩ 0)/\ (en ⟨0,1,0⟩=some (.box w.cells false))/\ (fr 3= .i (w.tasks.length:Nat))/\ (fr 5= .i k)/\ (bK w (w.tasks.take k) (w.tasks.drop k)=bK w [] w.tasks)) 0 (bQt _) ⟨_,_,_,rfl,(by first|(simp only[go_sem,h1,hn];(try rfl);done)|rfl|simp),(by first|(simp only[go_sem,e1];(try rfl);done)|rfl|simp),(by first|(simp only[go_sem,h3,hn,bR1];(try rfl);done)|rfl|simp),(by first|(simp only[go_sem,hn];(try rfl);done)|rfl|simp),(by first|(simp only[go_sem];(try rfl);done)|rfl|simp)⟩ ?_
   rintro k st hk ⟨fr,en,cnt,rfl,h1,e1,h3,h5,hI⟩
   simp only[go_sem,qW,h1,e1,h3,h5]
   refine aW (fun h=>?_) (fun h=>?_)
   ·have h':k<w.tasks.length:=D_o h;rw[bRt h',bK,<-gM h']at hI;simp only[go_sem,h',h1,e1,(nZ _ _ _).ret,dT hw.objs]
    refine bC (fun hb=>?_) (fun hb=>?_)
    ·have hb':inR w.tasks[k] 0 (w.objs.length-1)=true:=by simpa using hb
     simp only[go_sem,hb',h1,e1,h5,yT]
     refine bC (fun hc=>?_) (fun hc=>?_)
     ·have hc':dC (w.obj w.tasks[k])=true:=by simpa[dC]using hc
      simp only[go_sem,qW,hc,h5,uI,hk,<-bSc,(aMd _ _ (aJ1 hw.tasks k)).ret]
      refine aW (fun hd=>?_) (fun hd=>?_)
      ·simp[gJ,<-hI,hb',hc',hd]
      ·refine⟨_,_,_,rfl,?_⟩
       simp only[go_sem,h1,e1,h3,aR h' hw.tasks];rw[<-hI,hb',hc',hd];simp
     ·simp only[go_sem,qW,hc];simp[]at hc;simp[gJ,<-hI,dC,hc]
    ·simp only[go_sem,qW,hb]
     simp at hb
     simp[gJ,<-hI,hb]
   ·have:k=w.tasks.length:=by simp at h;omega
    subst this
    try simp only[go_sem,qW,h1,e1,h3,h5]
    have ht:bK w [] w.tasks=true:=by rw[<-hI];simp[bK]
    simp[gJ,hn,ht]
theorem aEn (p:aF)(w:aA)(hp:p.few)(hw:w.few):PC L 19 [.agg p.cs,.agg w.cs] (.bool (dG p w)):=by
 refine pcA func19 ?_
 simp only[go_sem,qW]
 repeat' ((first|with_reducible refine aW (fun h=>?_) (fun h=>?_)|with_reducible refine bC (fun h=>?_) (fun h=>?_))<;>(try simp only[bT8,bT9,bQ5]at h)<;>try simp only[go_sem,qW, *,(nZ _ _ _).ret,(aRy _ _ hw.ins).ret,(aPa w hw).ret])
 all_goals (try simp only[bRw,Bool.not_eq_false',bSy]at*)
 all_goals try(simp[dG, *];done)
 all_goals try(simp[dG, *];intros;omega)
 rename_i g1 g2 g3 g4
 refine bQ (w.objs.length) (fun k st=> ∃fr en cnt,st=⟨fr,en,cnt⟩/\ (fr 2= .ptr ⟨0,2,0⟩ 0)/\ (en ⟨0,2,0⟩=some (.box p.cells false))/\ (fr 3= .ptr ⟨0,3,0⟩ 0)/\ (en ⟨0,3,0⟩=some (.box w.cells false))/\ (fr 5= .i k)/\ ((w.objs.drop k).all (dI p w)=w.objs.all (dI p w))) 0 (bQt _) (by refine⟨_,_,_,rfl,?_,?_,?_,?_,?_,?_⟩<;>first|(simp only[go_sem];(try rfl);done)|rfl|simp) ?_
 rintro k st hk ⟨fr,en,cnt,rfl,h2,e2,h3,e3,h5,hI⟩
 simp only[go_sem,qW,h2,e2,h3,e3,h5]
 refine aW (fun h1=>?_) (fun h1=>?_)
 ·have h':k<w.objs.length:=D_o h1;rw[fT h']at hI;simp only[go_sem,qW,h',h5,(aMe p w _ hp hw (hw.obj w.objs[k] (bQr _))).ret]
  refine aW (fun hb=>?_) (fun hb=>?_)
  ·simp at hb
   simp[dG,<-hI,hb]
  ·simp at hb
   refine⟨_,_,_,rfl,?_⟩
   simp only[go_sem,h2,e2,h3,e3,aR h' hw.objs];rw[<-hI,hb];simp
 ·have:k=w.objs.length:=by simp at h1;omega
  subst this;have hobj:w.objs.all (dI p w)=true:=by rw[<-hI];simp
  clear hI h1
  try simp only[go_sem,qW,h2,e2,h3,e3,h5]
  refine bQ (w.outs.length) (fun k st=> ∃fr en cnt,st=⟨fr,en,cnt⟩/\ (fr 3= .ptr ⟨0,3,0⟩ 0)/\ (en ⟨0,3,0⟩=some (.box w.cells false))/\ (fr 6= .i k)/\ ((w.outs.drop k).all vL=w.outs.all vL)) 0 (bQt _) ⟨_,_,_,rfl,(by first|(simp only[go_sem,h3];(try rfl);done)|rfl|simp),(by first|(simp only[go_sem,e3];(try rfl);done)|rfl|simp),(by first|(simp only[go_sem];(try rfl);done)|rfl|simp),(by first|(simp only[go_sem];(try rfl);done)|rfl|simp)⟩ ?_
  rintro k st hk ⟨fr,en,cnt,rfl,h3,e3,h6,hI⟩
  simp only[go_sem,qW,h3,e3,h6]
  refine aW (fun h1=>?_) (fun h1=>?_)
  ·have h':k<w.outs.length:=D_o h1;rw[fT h']at hI;simp only[go_sem,qW,h',h3,e3,h6,(nZ _ _ _).ret]
   refine bC (fun hb=>?_) (fun hb=>?_)
   ·simp at hb
    simp only[go_sem,hb,bQ0]
    refine aW (fun hc=>?_) (fun hc=>?_)
    ·simp at hc
     simp[dG,<-hI,vL,hc]
    ·simp at hc
     refine⟨_,_,_,rfl,?_⟩
     simp only[go_sem,h3,e3,aR h' hw.outs];rw[<-hI,vL,hb,hc];simp
   ·simp at hb
    simp only[go_sem,qW,hb,bQ5];simp[dG,<-hI,vL,hb]
  ·have:k=w.outs.length:=by simp at h1;omega
   subst this;have hout:w.outs.all vL=true:=by rw[<-hI];simp
   try simp only[go_sem,qW,h3,e3,h6]
   simp only[dG,hobj,hout,g3,g4,h];simp[g1,g2]
theorem xF (l:List aD):PC L 59 [.fz (l.map aD.enc)] (.bool (decide ((l.length:Int)<=40))):=by
 refine pcA func59 ?_
 simp only[go_sem,qW]
theorem vR (w:aA)(hw:w.few):PC L 18 [.agg w.cs] (.bool (bU w)):=by
 refine pcA func18 ?_
 simp only[go_sem,qW]
 repeat' ((first|with_reducible refine aW (fun h=>?_) (fun h=>?_)|with_reducible refine bC (fun h=>?_) (fun h=>?_))<;>(try simp only[bT8,bT9,bQ5]at h)<;>try simp only[go_sem,qW, *])
 all_goals (try simp only[bSy]at*)
 all_goals try(simp[bU, *];done)
 all_goals try(simp[bU, *];intros;omega)
 rename_i g1 g2 g3
 refine bQ (w.objs.length) (fun k st=> ∃fr en cnt,st=⟨fr,en,cnt⟩/\ (fr 1= .ptr ⟨0,1,0⟩ 0)/\ (en ⟨0,1,0⟩=some (.box w.cells false))/\ (fr 3= .i k)/\ ((w.objs.drop k).all hZ=w.objs.all hZ)) 0 (bQt _) (by refine⟨_,_,_,rfl,?_,?_,?_,?_⟩<;>first|(simp only[go_sem];(try rfl);done)|rfl|simp) ?_
 rintro k st hk ⟨fr,en,cnt,rfl,h1,e1,h3,hI⟩
 simp only[go_sem,qW,h1,e1,h3]
 refine aW (fun hq=>?_) (fun hq=>?_)
 ·have h':k<w.objs.length:=D_o hq;have hx:=hw.obj w.objs[k] (bQr _);rw[fT h']at hI;simp only[go_sem,qW,h',(xF _).ret]
  refine bC (fun hb=>?_) (fun hb=>?_)
  ·simp at hb
   try simp only[go_sem,hb]
   refine aW (fun hc=>?_) (fun hc=>?_)
   ·simp at hc
    simp[bU,<-hI,hZ];intros;omega
   ·simp at hc
    generalize cnt 0 4=g4
    refine bQ (w.objs[k].frames.length) (fun j st=> ∃fr en cnt,st=⟨fr,en,cnt⟩/\ (fr 1= .ptr ⟨0,1,0⟩ 0)/\ (en ⟨0,1,0⟩=some (.box w.cells false))/\ (fr 4= .ptr ⟨0,4,g4⟩ 0)/\ (en ⟨0,4,g4⟩=some (.box [.i w.objs[k].form,.i w.objs[k].n,.fz (w.objs[k].vals.map aD.enc),.fz (w.objs[k].frames.map aB.enc)] false))/\ (fr 3= .i k)/\ (fr 5= .i j)/\ ((w.objs[k].frames.drop j).all (fun f=>decide ((f.env.length:Int)<=40)&&decide ((f.vals.length:Int)<=40))=w.objs[k].frames.all fun f=>decide ((f.env.length:Int)<=40)&&decide ((f.vals.length:Int)<=40))) 0 (bQt _) ⟨_,_,_,rfl,(by first|(simp only[go_sem,h1];(try rfl);done)|rfl|simp),(by first|(simp only[go_sem,e1];(try rfl);done)|rfl|simp),(by first|(simp only[go_sem];(try rfl);done)|rfl|simp),(by first|(simp only[go_sem];(try rfl);done)|rfl|simp),(by first|(simp only[go_sem,h3];(try rfl);done)|rfl|simp),(by first|(simp only[go_sem];(try rfl);done)|rfl|simp),(by first|(simp only[go_sem];(try rfl);done)|rfl|simp)⟩ ?_
    rintro j st hk ⟨fr,en,cnt,rfl,h1,e1,h4,e4,h3,h5,hJ⟩
    simp only[go_sem,qW,h4,e4,h3,h5]
    refine aW (fun h2=>?_) (fun h2=>?_)
    ·have h2':j<w.objs[k].frames.length:=D_o h2;rw[fT h2']at hJ;simp only[go_sem,qW,h2',h4,e4,h5,(xF _).ret]
     refine bC (fun hd=>?_) (fun hd=>?_)
     ·simp only[go_sem,hd]
      refine aW (fun he=>?_) (fun he=>?_)
      ·simp at he
       have:w.objs[k].frames.all (fun f=>decide ((f.env.length:Int)<=40)&&decide ((f.vals.length:Int)<=40))=false:=by rw[<-hJ];simp;intros;omega
       simp only[bU,<-hI,hZ,this];simp
      ·refine⟨_,_,_,rfl,?_⟩
       simp only[go_sem,h1,e1,h4,e4,h3,aR h2' hx.2.1]
       simp at hd he
       rw[<-hJ];simp;intros;exact⟨by omega,by omega⟩
     ·simp only[go_sem,qW,hd,bQ5]
      simp at hd
      have:w.objs[k].frames.all (fun f=>decide ((f.env.length:Int)<=40)&&decide ((f.vals.length:Int)<=40))=false:=by rw[<-hJ];simp;intros;omega
      simp only[bU,<-hI,hZ,this];simp
    ·have:j=w.objs[k].frames.length:=by simp at h2;omega
     subst this;have hfr:hZ w.objs[k]=true:=by
      simp only[hZ,<-hJ];simp;exact⟨by omega,by omega⟩
     try simp only[go_sem,qW,h1,e1,h4,e4,h3,h5]
     refine⟨_,_,_,rfl,?_⟩
     simp only[go_sem,h1,e1,aR h' hw.objs];rw[<-hI,hfr];simp
  ·simp only[go_sem,qW,hb,bQ5]
   simp at hb
   have:hZ w.objs[k]=false:=by simp[hZ];intros;omega
   simp[bU,<-hI,this]
 ·have:k=w.objs.length:=by simp at hq;omega
  subst this;have hobj:w.objs.all hZ=true:=by rw[<-hI];simp
  try simp only[go_sem,qW,h1,e1,h4,e4,h3,h5]
  simp only[bU,hobj];simp[g1,g2,g3,h]
end Go.Proofs.YtmafmhjndjmalaaGreat
namespace Go.Abs
def nK (s:ByteArray):List UInt8:=s.data.toList
theorem qA (s:ByteArray):(nK s).length=s.size:=by unfold nK;rw[bSt];rfl
variable {s:ByteArray}
theorem aPb {k:IntKind}{j:Nat}(h:j<(nK s).length):aV8 (.str s) (.int k (j:Int))=some {v:= .int .u8 ((nK s)[j].toNat:Nat)}:=bD4 h
theorem aNd (s:ByteArray):nK (s.extract 1 s.size)=(nK s).drop 1:=by
 have hs:s.size=s.data.toList.length:=by rw[bSt];rfl
 unfold nK;rw[ByteArray.data_extract,Array.toList_extract,hs];show List.take _ (List.drop 1 _)=_;exact bQ3 (by rw[bS3];exact bQk _)
def kS (b:UInt8):Bool:=decide (97<=(b.toNat:Int))&&decide ((b.toNat:Int)<=122)
def oW (l:List UInt8):Bool:=l.all kS
def aJ2 :List UInt8->Bool
 |[]=>false
 |b::l=>decide ((b::l).length<=8)&&decide (65<=(b.toNat:Int))&&decide ((b.toNat:Int)<=90)&&oW l
def aEo (x y:ByteArray):Bool:=x.toList==y.toList
def uL (l:List ByteArray)(s:ByteArray):Bool:=l.any fun x=>aEo x s
def mE :List ByteArray->List ByteArray->Bool
 |_,[]=>true
 |met,s::l=>!uL met s&&mE (met++[s]) l
def vS (c:cV):Bool:=aJ2 (nK c.name)&&inR c.args 0 3
def yU (l:List cV):Bool:=l.all vS&&decide ((l.length:Int)<=20)&&mE [] (l.map cV.name)
def xG (cons:List cV)(f n:Int)(k:Nat):Bool:=
 if f=1 \/f=2 \/f=5 then decide ((k:Int)=0)&&decide (n=0)
 else if f=3 then decide ((k:Int)=0)&&inR n (-1000000000) 1000000000
 else if f=4 then decide ((k:Int)=0)&&inR n 0 1
 else if f=6 then inR n 0 (cons.length-1)&&decide ((k:Int)=(cons.getD n.toNat default).args)else false
def aGf (t:ByteArray):Bool:=t.toList==(⟨#[]⟩:ByteArray).toList
def sS (cons:List cV)(f n:Int)(t:ByteArray)(k:Nat):Bool:=xG cons f n k&&aGf t
mutual
def rR (cons:List cV):Pat->Bool
 | .mk f n t ps=>sS cons f n t ps.length&&aJ3 cons ps
def aJ3 (cons:List cV):List Pat->Bool
 |[]=>true
 |p::ps=>rR cons p&&aJ3 cons ps
end
theorem aJ4 (cons:List cV): ∀l,aJ3 cons l=l.all (rR cons)
 |[]=>by simp[aJ3]
 |p::ps=>by simp[aJ3,aJ4 cons ps]
theorem aJ5 (cons:List cV)(p:Pat):rR cons p=(sS cons p.form p.n p.text p.parts.length&&p.parts.all (rR cons)):=by
 cases p;simp only[rR,aJ4,Pat.form,Pat.n,Pat.text,Pat.parts]
mutual
def qB :Pat->Int->Int
 | .mk _ _ _ ps,left=>if left<1 then-1 else jR ps (left-1)
def jR :List Pat->Int->Int
 |[],left=>left
 |p::ps,left=>if 0<=left then jR ps (qB p left)else left
end
mutual
def kM :Pat->Bool
 | .mk _ _ t ps=>rS ps&&decide ((t.size:Int)<=30)
def rS :List Pat->Bool
 |[]=>true
 |p::ps=>kM p&&rS ps
end
theorem zO : ∀l,rS l=l.all kM
 |[]=>by simp[rS]
 |p::ps=>by simp[rS,zO ps]
theorem aCj (p:Pat):kM p=(p.parts.all kM&&decide ((p.text.size:Int)<=30)):=by
 cases p;simp only[kM,zO];rfl
theorem aJ6 (p:Pat)(left:Int):qB p left=if left<1 then-1 else jR p.parts (left-1):=by
 cases p;simp only[qB,Pat.parts]
mutual
theorem aJ7 : ∀(p:Pat) (left:Int),-1<=left-> -1<=qB p left/\ qB p left<=left
 | .mk _ _ _ ps,left,h=>by
  rw[qB];split
  ·omega
  ·have:=aNe ps (left-1) (by omega);omega
theorem aNe : ∀(l:List Pat) (left:Int),-1<=left-> -1<=jR l left/\ jR l left<=left
 |[],left,h=>by rw[jR];omega
 |p::ps,left,h=>by
  rw[jR];split
  ·have h1:=aJ7 p left h;have h2:=aNe ps (qB p left) h1.1;omega
  ·omega
end
theorem aC8 : ∀{l:List Pat} {left:Int},left<0->jR l left=left
 |[],_,_=>by rw[jR]
 |_::_,_,h=>by rw[jR,if_neg (by omega)]
def aAr (p:Pat):Bool:=decide (0<=qB p 16)&&kM p
def fU (n:aK):Bool:=decide ((n.kids.length:Int)<=10)&&decide ((n.pats.length:Int)<=10)&&n.pats.all aAr
def aS (p:aF):Bool:=
 decide ((p.nodes.length:Int)<=320)&&decide ((p.funs.length:Int)<=320)&&decide ((p.cons.length:Int)<=25)&&p.cons.all (fun c=>decide ((c.name.size:Int)<=40))&&p.nodes.all fU
def fD (op:Int)(pats:Int)(args:Int):Int:=
 if op=1 \/op=2 \/op=3 \/op=4 \/op=21 \/op=25 \/op=28 then 0
 else if op=5 \/op=27 \/op=16 \/op=17 \/op=19 \/op=20 \/op=23 \/op=26 \/op=24 then 1
 else if op=6 \/op=7 \/op=9 \/op=10 \/op=11 \/op=12 \/op=13 \/op=18 \/op=22 then 2
 else if op=8 then 3 else if op=15 then 1+pats else if op=14 then args else-1
def nC (cons:List cV)(q:Pat):Bool:=decide (0<=qB q 12)&&rR cons q
def oD (p:aF)(n:aK):Bool:=
 if n.op=1 then inR n.n (-1000000000) 1000000000
 else if n.op=2 then inR n.n 0 1
 else if n.op=4 then inR n.n (-(p.funs.length:Int)) 29
 else if n.op=24 then inR n.n 0 3
 else if n.op=14 then inR n.n 0 (p.cons.length-1)else decide (n.n=0)
def oX (p:aF)(n:aK):Int:=if n.op=14/\ inR n.n 0 (p.cons.length-1)=true then(p.cons.getD n.n.toNat default).args else 0
def lR (n:aK):Bool:=if n.op=15 then inR n.pats.length 1 5 else decide ((n.pats.length:Int)=0)
def eE (p:aF)(n:aK):Bool:=
 ((oD p n&&lR n)&&n.pats.all (nC p.cons))&&decide ((n.kids.length:Int)=fD n.op n.pats.length (oX p n))
def aAs (lo hi:Int):List Bool->List Int->Option (List Bool)
 |u,[]=>some u
 |u,x::l=>if inR x lo hi&&!(u.getD x.toNat false)then aAs lo hi (u.set x.toNat true) l else none
def kY (p:aF):Nat->List Bool->List aK->Option (List Bool)
 |_,u,[]=>some u
 |i,u,n::l=>if eE p n then(aAs ((i:Int)+1) (p.nodes.length-1) u n.kids).bind fun u=>kY p (i+1) u l else none
def yV :Option (List Bool)->Bool
 |some u=>u.all id
 |none=>false
def eS (p:aF):Bool:=
 decide ((p.nodes.length:Int)<=300)&&inR p.funs.length 1 p.nodes.length&&inR p.main 0 (p.funs.length-1)&&yU p.cons&&
  yV ((aAs 0 (p.nodes.length-1) (List.replicate p.nodes.length false) p.funs).bind fun u=>kY p 0 u p.nodes)
theorem Pat.few_parts {p:Pat}(h:p.few):Few p.parts.length/\ Few p.text.size/\ ∀q∈p.parts,q.few:=by
 cases h with|mk f n t l h ht k=>exact⟨h,ht,k⟩
theorem Pat.ind {P:Pat->Prop}(h: ∀p:Pat,(∀q∈p.parts,P q)->P p): ∀p,P p:=by
 intro p
 induction p using Pat.rec (motive_2:=fun l=> ∀q∈l,P q)with
 |mk f n t l ih=>exact h _ ih
 |nil=>rename_i q hq;simp at hq
 |cons p l h1 h2=>
  rename_i q hq;rcases bRm.1 hq with rfl|hq
  ·exact h1
  ·exact h2 _ hq
variable {i:Nat}
theorem bBc (h:i<(nK s).length):s.get! i=(nK s)[i]:=by
 have h':i<s.data.size:=by rw[qA]at h;exact h
 show s.data[i]! =_;rw[getElem!_pos s.data i h'];simp only[nK,bTf]
theorem aPc (h:i<(nK s).length):
  (kS (nK s)[i]=true->Utf8.decode s i=((nK s)[i].toNat,1))/\ (kS (nK s)[i]=false->((Utf8.decode s i).1:Int)<97 \/122<((Utf8.decode s i).1:Int)):=by
 have hg:=bBc h;simp only[kS,bQj,bT8,bTj,bT9];constructor
 ·intro hb;unfold Utf8.decode;simp only[bR5,hg];rw[if_pos (by omega)]
 ·intro hb;unfold Utf8.decode;simp only[bR5,hg,Utf8.runeError];split
  ·simp only;omega
  ·split
   ·split
    ·simp only;omega
    ·simp
   ·split
    ·split
     ·rename_i h1;simp only[bQj,bT8]at h1;simp only;omega
     ·simp
    ·split
     ·split
      ·rename_i h1;simp only[bQj,bT8]at h1;simp only;omega
      ·simp
     ·simp
def wK (ks:List ByteArray)(s:ByteArray):List ByteArray:=if uL ks s then ks else ks++[s]
theorem aJ8 : ∀(l ks:List ByteArray),(l.foldl wK ks).length<=ks.length+l.length
 |[],ks=>by simp
 |s::l,ks=>by
  have:=aJ8 l (wK ks s);simp only[bSv,bQu];have h2:(wK ks s).length<=ks.length+1:=by unfold wK;split<;>simp
  omega
theorem aEp : ∀(l ks:List ByteArray),decide ((l.foldl wK ks).length=ks.length+l.length)=mE ks l
 |[],ks=>by simp[mE]
 |s::l,ks=>by
  simp only[bSv,bQu,mE]
  by_cases h:uL ks s=true
  ·have:=aJ8 l ks;simp only[wK,h,if_true,bQ0,bQ7,bT9];omega
  ·have:=aEp l (ks++[s]);simp only[bRu]at h;simp only[wK,h,bQm,if_false,bQ5,bQ9];rw[<-this,decide_eq_decide];simp only[bQ2,bQu,bQz];omega
mutual
def sN :Pat->Int->Int
 | .mk _ _ _ ps,most=>lS ps most 1
def lS :List Pat->Int->Int->Int
 |[],_,n=>n
 |q::qs,most,n=>if most<n then n else lS qs most (n+sN q (most-n))
end
theorem bBd (p:Pat)(most:Int):sN p most=lS p.parts most 1:=by cases p;simp only[sN,Pat.parts]
theorem aRz : ∀{l:List Pat} {most n:Int},most<n->lS l most n=n
 |[],_,_,_=>by rw[lS]
 |_::_,_,_,h=>by rw[lS,if_pos h]
mutual
theorem aJ9 : ∀(p:Pat) (most:Int),0<=most->1<=sN p most/\ sN p most<=most+1
 | .mk _ _ _ ps,most,h=>by rw[sN];exact aNf ps most 1 (by omega)
theorem aNf : ∀(l:List Pat) (most n:Int),n<=most+1->n<=lS l most n/\ lS l most n<=most+1
 |[],most,n,h=>by rw[lS];omega
 |q::qs,most,n,h=>by
  rw[lS];split
  ·omega
  ·have h1:=aJ9 q (most-n) (by omega)
   have h2:=aNf qs most (n+sN q (most-n)) (by omega)
   omega
end
mutual
theorem aHi : ∀(p:Pat) (most:Int),0<=most->qB p most=if sN p most<=most then most-sN p most else-1
 | .mk _ _ _ ps,most,h=>by
  have:=aCk ps most 1 (by omega)
  rw[qB,sN];split
  ·rename_i h0;have h1:most=0:=by omega
   subst h1;rw[aRz (by omega),if_neg (by omega)]
  ·exact this
theorem aCk : ∀(l:List Pat) (most n:Int),n<=most+1->jR l (most-n)=if lS l most n<=most then most-lS l most n else-1
 |[],most,n,h=>by
  rw[jR,lS];split<;>omega
 |q::qs,most,n,h=>by
  by_cases hm:0<=most-n
  ·rw[jR,lS,if_pos hm,if_neg (show¬most<n by omega)]
   have h1:=aJ9 q (most-n) (by omega)
   have hw:=aHi q (most-n) (by omega)
   have h2:=aCk qs most (n+sN q (most-n)) (by omega)
   rw[hw,<-h2];split
   ·congr 1;omega
   ·rw[aC8 (by omega),aC8 (by omega)];omega
  ·rw[jR,lS,if_neg hm,if_pos (show most<n by omega),if_neg (by omega)];omega
end
theorem bBe (q:Pat):decide (sN q 12<=12)=decide (0<=qB q 12):=by
 have h:=aHi q 12 (by omega)
 rw[h,decide_eq_decide]
 split<;>omega
def yW (op:Int):Val:=
 if op=1 \/op=2 \/op=3 \/op=4 \/op=21 \/op=25 \/op=28 then .ifc 377 (.int .i64 0)
 else if op=5 \/op=27 \/op=16 \/op=17 \/op=19 \/op=20 \/op=23 \/op=26 \/op=24 then .ifc 377 (.int .i64 1)
 else if op=6 \/op=7 \/op=9 \/op=10 \/op=11 \/op=12 \/op=13 \/op=18 \/op=22 then .ifc 377 (.int .i64 2)
 else if op=8 then .ifc 377 (.int .i64 3)else if op=14 then .ifc 378 (.agg [])else if op=15 then .ifc 351 (.agg [])else .nili
theorem aMf (op:Int):(∃c:Int,yW op= .ifc 377 (.int .i64 c)/\ (∀n a,fD op n a=c)/\ op≠14/\ op≠15) \/(op=14/\ yW op= .ifc 378 (.agg [])) \/
  (op=15/\ yW op= .ifc 351 (.agg [])) \/(yW op= .nili/\ (∀n a,fD op n a= -1)/\ op≠14/\ op≠15):=by
 unfold yW fD;split
 ·left;refine⟨0,rfl,fun _ _=>rfl,?_,?_⟩<;>omega
 split
 ·left;refine⟨1,rfl,fun _ _=>rfl,?_,?_⟩<;>omega
 split
 ·left;refine⟨2,rfl,fun _ _=>rfl,?_,?_⟩<;>omega
 split
 ·left;refine⟨3,rfl,fun _ _=>rfl,?_,?_⟩<;>omega
 split
 ·right;left;exact⟨by assumption,rfl⟩
 split
 ·right;right;left;exact⟨by assumption,rfl⟩
 ·right;right;right;refine⟨rfl,fun n a=>?_,?_,?_⟩<;>first|omega|skip
theorem aHj (s:ByteArray): ∀ks:List ByteArray,(∃i,findKey .str (.str s) (ks.map .str)=some (some i)/\ uL ks s=true/\ (ks.map Val.str).set i (.str s)=ks.map .str) \/
  (findKey .str (.str s) (ks.map .str)=some none/\ uL ks s=false)
 |[]=> .inr ⟨rfl,rfl⟩
 |x::ks=>by
  have hsym:(s.toList==x.toList)=aEo x s:=by unfold aEo;exact Bool.beq_comm
  by_cases h:aEo x s=true
  ·refine .inl ⟨0,?_,?_,?_⟩
   ·simp only[bRj,findKey,pE,hsym,h]
   ·simp[uL,h]
   ·have:x=s:=by
     simp only[aEo,beq_iff_eq]at h;rw[Go.ByteArray.toList_eq,Go.ByteArray.toList_eq]at h;cases x;cases s;simp only at h
     congr
     exact Array.toList_inj.1 h
    simp[this]
  ·simp only[bRu]at h;rcases aHj s ks with⟨i,h1,h2,h3⟩|⟨h1,h2⟩
   ·refine .inl ⟨i+1,?_,?_,?_⟩
    ·simp only[bRj,findKey,pE,hsym,h,h1]
    ·simp only[uL,List.any_cons,h,bRf];exact h2
    ·simp[h3]
   ·refine .inr ⟨?_,?_⟩
    ·simp only[bRj,findKey,pE,hsym,h,h1]
    ·simp only[uL,List.any_cons,h,bRf];exact h2
def bM (p:aF)(w:aA):Bool:=eS p&&dG p w
end Go.Abs
namespace Go.Proofs.YtmafmhjndjmalaaGreat
open Go.Abs Go.Proofs Tryz
set_option maxRecDepth 100000
set_option maxHeartbeats 4000000
theorem rE (n lo hi:Int):PC L 92 [.i n,.i lo,.i hi] (.bool (inR n lo hi)):=by
 refine pcA func92 ?_
 simp only[go_sem,qW]
 refine bC (fun h=>?_) (fun h=>?_)<;>simp only[go_sem,h]<;>simp at h<;>simp[h,inR]
 omega
theorem aPd (s:ByteArray)(hs:Few s.size):PC L 178 [.str s] (.bool (oW (nK s))):=by
 refine pcA func178 ?_
 simp only[go_sem,qW]
 refine bQ (s.size) (fun k st=> ∃fr en cnt,st=⟨fr,en,cnt⟩/\ (fr 0= .str s)/\ (fr 3= .i k)/\ (((nK s).drop k).all kS=(nK s).all kS)) 0 (bQt _) (by refine⟨_,_,_,rfl,?_,?_,?_⟩<;>first|(simp only[go_sem];(try rfl);done)|rfl|simp) ?_
 rintro k st hk ⟨fr,en,cnt,rfl,h0,h3,hI⟩
 have hsz:=qA s;simp only[go_sem,qW,h0,h3]
 refine aW (fun h=>?_) (fun h=>?_)
 ·have h':k<s.size:=D_o h;have h'':k<(nK s).length:=by omega
  rw[fT h'']at hI;simp only[go_sem,qW,h',h0,h3,aPb h'']
  refine bC (fun hb=>?_) (fun hb=>?_)
  ·simp only[go_sem,hb]
   refine aW (fun hc=>?_) (fun hc=>?_)
   ·simp only[bT8,bT9]at hb hc;have:kS (nK s)[k]=false:=by simp only[kS,bTj,bT9];right;omega
    simp[oW,<-hI,this]
   ·simp only[bT9]at hb hc;have:kS (nK s)[k]=true:=by simp only[kS,bQj,bT8];constructor<;>omega
    refine⟨_,_,_,rfl,?_⟩
    simp only[go_sem,h0,aR h' hs];rw[<-hI,this];simp
  ·simp only[go_sem,qW,hb,bQ5];simp only[bT8,bQ5]at hb;have:kS (nK s)[k]=false:=by simp only[kS,bTj,bT9];left;omega
   simp[oW,<-hI,this]
 ·have:k=s.size:=by simp at h;omega
  subst this
  try simp only[go_sem,qW,h0,h3]
  rw[oW,<-hI,<-hsz];simp
theorem aUq (l:List ByteArray)(s:ByteArray)(hl:Few l.length):PC L 151 [.fz (l.map .str),.str s] (.bool (uL l s)):=by
 refine pcA func151 ?_
 simp only[go_sem,qW]
 refine bQ (l.length) (fun k st=> ∃fr en cnt,st=⟨fr,en,cnt⟩/\ (fr 0= .fz (l.map .str))/\ (fr 1= .str s)/\ (fr 5= .i k)/\ ((l.drop k).any (fun x=>aEo x s)=l.any fun x=>aEo x s)) 0 (bQt _) (by refine⟨_,_,_,rfl,?_,?_,?_,?_⟩<;>first|(simp only[go_sem];(try rfl);done)|rfl|simp) ?_
 rintro k st hk ⟨fr,en,cnt,rfl,h0,h1,h5,hI⟩
 simp only[go_sem,qW,h0,h5]
 refine aW (fun h=>?_) (fun h=>?_)
 ·have h':k<l.length:=D_o h;rw[aRk h']at hI;simp only[go_sem,qW,h',h1,h5]
  refine aW (fun hb=>?_) (fun hb=>?_)
  ·rw[uL,<-hI,aEo,hb];rfl
  ·refine⟨_,_,_,rfl,?_⟩
   simp only[go_sem,h0,h1,aR h' hl];rw[<-hI,aEo,hb];simp
 ·have:k=l.length:=by simp at h;omega
  subst this
  try simp only[go_sem,qW,h0,h1,h5]
  rw[uL,<-hI];simp
theorem aMg (l:List ByteArray)(hl:Few l.length):PC L 141 [.fz (l.map .str)] (.bool (mE [] l)):=by
 refine pcA func141 ?_
 simp only[go_sem,qW]
 refine bQ (l.length) (fun k st=> ∃fr en cnt,st=⟨fr,en,cnt⟩/\ (fr 0= .fz (l.map .str))/\ (fr 3= .i k)/\ (mE (l.take k) (l.drop k)=mE [] l)) 0 (bQt _) (by refine⟨_,_,_,rfl,?_,?_,?_⟩<;>first|(simp only[go_sem];(try rfl);done)|rfl|simp) ?_
 rintro k st hk ⟨fr,en,cnt,rfl,h0,h3,hI⟩
 simp only[go_sem,qW,h0,h3]
 refine aW (fun h=>?_) (fun h=>?_)
 ·have h':k<l.length:=D_o h;rw[bRt h',mE,<-gM h']at hI;simp only[go_sem,qW,h',h0,h3,uI,hk,<-bSc,(aUq _ _ (aJ1 hl k)).ret]
  refine aW (fun hb=>?_) (fun hb=>?_)
  ·rw[<-hI,hb];rfl
  ·refine⟨_,_,_,rfl,?_⟩
   simp only[go_sem,h0,aR h' hl];rw[<-hI,hb];simp
 ·have:k=l.length:=by simp at h;omega
  subst this
  try simp only[go_sem,qW,h0,h3]
  rw[<-hI];simp[mE]
theorem aKa {s:ByteArray}{en:En}(h:1<=s.size):jY true 1 en (.str s) (some (.i 1)) none none=some {v:= .str (s.extract 1 s.size)}:=by
 have:iR (some (.i 1)) 0 s.size=some 1:=by
  simp only[iR];rw[if_pos ⟨by omega,by omega⟩];rfl
 simp[jY,uH,this]
variable {n:Nat}
theorem aKb {l:List UInt8}(hn:l.length=n)(h:0<l.length):aJ2 l=(decide ((n:Int)<=8)&&decide ((65:Int)<=(l[0].toNat:Int))&&decide ((l[0].toNat:Int)<=90)&&oW (l.drop 1)):=by
 cases l with
 |nil=>simp at h
 |cons b l=>
  have e:decide ((b::l).length<=8)=decide ((n:Int)<=8):=by rw[decide_eq_decide,hn];omega
  simp only[aJ2,e,List.getElem_cons_zero,List.drop_succ_cons,bSm]
theorem aPe (s:ByteArray)(hs:Few s.size):PC L 140 [.str s] (.bool (aJ2 (nK s))):=by
 refine pcA func140 ?_
 simp only[go_sem,qW]
 refine bC (fun h=>?_) (fun h=>?_)
 ·have h':1<=s.size:=by simp at h;omega
  have h0:0<(nK s).length:=by rw[qA];omega
  have hix:=fun(k:IntKind)=>aPb (k:=k) h0
  simp only[Int.natCast_zero]at hix;rw[aKb (qA s) h0];simp only[go_sem,h]
  refine bC (fun h1=>?_) (fun h1=>?_)<;>simp only[go_sem,h1,hix]
  refine bC (fun h2=>?_) (fun h2=>?_)<;>simp only[go_sem,h2]
  refine bC (fun h3=>?_) (fun h3=>?_)<;>simp only[go_sem,h3,aKa h',(aPd _ (show Few (s.extract 1 s.size).size by unfold Few at*;simp;omega)).ret,aNd]
  all_goals simp only[bT8,bT9,bQ0]at*
  all_goals simp[*]
 ·have:s.size=0:=by simp at h;omega
  have e:nK s=[]:=by rw[<-bT2,qA,this]
  simp only[go_sem,h];rw[e];rfl
theorem aR0 (op n a:Int)(hn:0<=n/\ n<=1000):PC L 143 [.i op,.i n,.i a] (.i (fD op n a)):=by
 have e:IntKind.i64.wrap (1+n)=1+n:=aV (by omega)
 refine pcA func143 ?_
 simp only[go_sem,kK]
 repeat' ((first|with_reducible refine aH (fun h=>?_) (fun h=>?_)|with_reducible refine aJ (fun h=>?_) (fun h=>?_))<;>(try simp only[bT8,bT9]at h)<;>try simp only[go_sem,kK,h,e])
 all_goals simp[fD, *]
theorem zP : ∀q:Pat,q.few-> ∀left:Int,-1<=left->left<=1000->PC L 138 [.agg [.i q.form,.i q.n,.str q.text,.fz (q.parts.map Pat.enc)],.i left] (.i (qB q left)):=by
 refine Pat.ind fun q ih hq left h1 h2=>?_
 obtain⟨hl,_,hps⟩:=Pat.few_parts hq
 refine pcA func138 ?_
 simp only[go_sem,qW]
 refine aW (fun h=>?_) (fun h=>?_)<;>simp only[bT8,bT9]at h
 ·simp[aJ6,h]
 ·have e:IntKind.i64.wrap (left-1)=left-1:=aV (by omega)
  rw[aJ6,if_neg h]
  try simp only[go_sem,e]
  refine bQ q.parts.length (fun k st=> ∃fr en cnt a,st=⟨fr,en,cnt⟩/\ fr 1= .i a/\ fr 5= .i k/\ fr 2= .ptr ⟨0,2,0⟩ 0/\ en ⟨0,2,0⟩=some (.box [.i q.form,.i q.n,.str q.text,.fz (q.parts.map Pat.enc)] false)/\ -1<=a/\ a<=1000/\ jR (q.parts.drop k) a=jR q.parts (left-1)) 0 (bQt _) (by refine⟨_,_,_,left-1,rfl,?_,?_,?_,?_,by omega,by omega,rfl⟩<;>simp only[go_sem]) ?_
  rintro k st hk ⟨fr,en,cnt,a,rfl,h1,h5,h2,e2,ha,hb,hI⟩
  simp only[go_sem,qW,h1,h5,h2,e2]
  refine bC (fun hc=>?_) (fun hc=>?_)
  ·have h':k<q.parts.length:=D_o hc;rw[bRt h',jR]at hI;have hm:q.parts[k]∈q.parts:=bQr _;simp only[go_sem,h',h1]
   refine aW (fun hd=>?_) (fun hd=>?_)<;>simp only[bT8,bT9]at hd
   ·rw[if_pos hd]at hI;have hw:=aJ7 q.parts[k] a ha;simp only[go_sem,h5,(ih _ hm (hps _ hm) a ha hb).ret]
    refine⟨_,_,_,qB q.parts[k] a,rfl,?_⟩
    simp only[go_sem,h2,e2,aR h' hl];exact⟨hw.1,by omega,hI⟩
   ·rw[if_neg hd]at hI
    try simp only[go_sem,qW,h',h1,h5,h2,e2]
    rw[hI]
  ·have:k=q.parts.length:=by simp at hc;omega
   subst this
   try simp only[go_sem,hc,h1]
   rw[<-hI];simp[jR]
theorem aH5 : ∀q:Pat,q.few->PC L 139 [.agg [.i q.form,.i q.n,.str q.text,.fz (q.parts.map Pat.enc)]] (.bool (kM q)):=by
 refine Pat.ind fun q ih hq=>?_
 obtain⟨hl,_,hps⟩:=Pat.few_parts hq
 refine pcA func139 ?_
 simp only[go_sem,qW]
 refine bQ (q.parts.length) (fun k st=> ∃fr en cnt,st=⟨fr,en,cnt⟩/\ (fr 1= .ptr ⟨0,1,0⟩ 0)/\ (en ⟨0,1,0⟩=some (.box [.i q.form,.i q.n,.str q.text,.fz (q.parts.map Pat.enc)] false))/\ (fr 3= .i k)/\ ((q.parts.drop k).all kM=q.parts.all kM)) 0 (bQt _) (by refine⟨_,_,_,rfl,?_,?_,?_,?_⟩<;>first|(simp only[go_sem];(try rfl);done)|rfl|simp) ?_
 rintro k st hk ⟨fr,en,cnt,rfl,h1,e1,h3,hI⟩
 simp only[go_sem,qW,h1,e1,h3]
 refine aW (fun h=>?_) (fun h=>?_)
 ·have h':k<q.parts.length:=D_o h;have hm:q.parts[k]∈q.parts:=bQr _;rw[fT h']at hI;simp only[go_sem,qW,h',h3,(ih _ hm (hps _ hm)).ret]
  refine aW (fun hb=>?_) (fun hb=>?_)
  ·simp at hb
   rw[aCj,<-hI,hb];rfl
  ·simp at hb
   refine⟨_,_,_,rfl,?_⟩
   simp only[go_sem,h1,e1,aR h' hl];rw[<-hI,hb];simp
 ·have:k=q.parts.length:=by simp at h;omega
  subst this;have ht:q.parts.all kM=true:=by rw[<-hI];simp
  try simp only[go_sem,qW,h1,e1,h3]
  rw[aCj,ht];rfl
theorem aH6 (q:Pat)(hq:q.few):PC L 91 [.agg [.i q.form,.i q.n,.str q.text,.fz (q.parts.map Pat.enc)]] (.bool (aAr q)):=by
 refine pcA func91 ?_
 simp only[go_sem,qW,(zP q hq 16 (by omega) (by omega)).ret]
 refine bC (fun h=>?_) (fun h=>?_)<;>simp only[go_sem,h,(aH5 q hq).ret]<;>simp at h<;>simp[aAr,h]
 intros;omega
theorem aUr (cons:List cV)(hc:Few cons.length): ∀q:Pat,q.few->PC L 142 [.agg [.i q.form,.i q.n,.str q.text,.fz (q.parts.map Pat.enc)],.fz (cons.map cV.enc)] (.bool (rR cons q)):=by
 refine Pat.ind fun q ih hq=>?_
 obtain⟨hl,_,hps⟩:=Pat.few_parts hq
 refine pcA func142 ?_
 have e:=dT hc;simp only[go_sem,aC5,Go.Abs.start]
 refine aBv (fun st=>(st.fr 1= .fz (cons.map cV.enc))/\ (st.fr 2= .ptr ⟨0,2,0⟩ 0)/\ (st.en ⟨0,2,0⟩=some (.box [.i q.form,.i q.n,.str q.text,.fz (q.parts.map Pat.enc)] false))/\ (st.fr 6= .i q.parts.length)/\ (st.fr 5= .bool (xG cons q.form q.n q.parts.length))) ?_ ?_
 ·simp only[go_sem,kK]
  repeat' ((first|with_reducible refine aH (fun h=>?_) (fun h=>?_)|with_reducible refine aJ (fun h=>?_) (fun h=>?_))<;>(try simp only[bT8,bT9,bQ0]at h)<;>try simp only[go_sem,kK, *,(rE _ _ _).ret,aGe])
  all_goals try simp[xG, *]
  all_goals (intro h0;exact absurd (by simp[h0]) h)
 ·rintro fr en cnt ⟨(h1:fr 1= .fz (cons.map cV.enc)),(h2:fr 2= .ptr ⟨0,2,0⟩ 0),(e2:en ⟨0,2,0⟩=some (.box [.i q.form,.i q.n,.str q.text,.fz (q.parts.map Pat.enc)] false)),(h6:fr 6= .i q.parts.length),(h5:fr 5= .bool (xG cons q.form q.n q.parts.length))⟩
  refine aBv (fun st=>(st.fr 1= .fz (cons.map cV.enc))/\ (st.fr 2= .ptr ⟨0,2,0⟩ 0)/\ (st.en ⟨0,2,0⟩=some (.box [.i q.form,.i q.n,.str q.text,.fz (q.parts.map Pat.enc)] false))/\ (st.fr 6= .i q.parts.length)/\ (st.fr 5= .bool (sS cons q.form q.n q.text q.parts.length))) ?_ ?_
  ·simp only[go_sem,kK,h5]
   repeat' ((first|with_reducible refine aH (fun h=>?_) (fun h=>?_)|with_reducible refine aJ (fun h=>?_) (fun h=>?_))<;>(try simp only[bQ0]at h)<;>try simp only[go_sem,kK, *])
   all_goals simp[sS,aGf, *]
  ·rintro fr en cnt ⟨(h1:fr 1= .fz (cons.map cV.enc)),(h2:fr 2= .ptr ⟨0,2,0⟩ 0),(e2:en ⟨0,2,0⟩=some (.box [.i q.form,.i q.n,.str q.text,.fz (q.parts.map Pat.enc)] false)),(h6:fr 6= .i q.parts.length),(h5:fr 5= .bool (sS cons q.form q.n q.text q.parts.length))⟩
   rw[aJ5];generalize sS cons q.form q.n q.text q.parts.length=b0 at h5;simp only[go_sem,kK]
   refine bQ q.parts.length (fun k st=> ∃fr en cnt b,st=⟨fr,en,cnt⟩/\ fr 1= .fz (cons.map cV.enc)/\ fr 7= .i k/\ fr 6= .i q.parts.length/\ fr 2= .ptr ⟨0,2,0⟩ 0/\ en ⟨0,2,0⟩=some (.box [.i q.form,.i q.n,.str q.text,.fz (q.parts.map Pat.enc)] false)/\ fr 5= .bool b/\ (b&&(q.parts.drop k).all (rR cons))=(b0&&q.parts.all (rR cons))) 0 (bQt _) ⟨_,_,_,b0,rfl,by simp only[go_sem,h1],by simp only[go_sem],by simp only[go_sem,h6],by simp only[go_sem,h2],by simp only[go_sem,e2],by simp only[go_sem,h5],rfl⟩ ?_
   rintro k st hk ⟨fr,en,cnt,b,rfl,h1,h7,h6,h2,e2,h5,hI⟩
   simp only[go_sem,kK,h7,h6]
   refine aJ (fun hd=>?_) (fun hd=>?_)
   ·have h':k<q.parts.length:=D_o hd;have hm:q.parts[k]∈q.parts:=bQr _;rw[fT h']at hI;simp only[go_sem,kK,h',h5]
    refine aH (fun hb=>?_) (fun hb=>?_)
    ·simp only[go_sem,h',h1,h7,h2,e2,(ih _ hm (hps _ hm)).ret]
     refine⟨_,_,_,rR cons q.parts[k],rfl,?_⟩
     simp only[go_sem,h1,h6,h2,e2,aR h' hl];rw[<-hI,hb];simp
    ·simp only[go_sem,h5];rw[<-hI,hb];simp
   ·have:k=q.parts.length:=by simp at hd;omega
    subst this;simp only[go_sem,kK,hd,h5];rw[<-hI];simp
theorem aR1 (l:List cV)(hl:l.length<=1000)(hs: ∀c∈l,Few c.name.size):PC L 93 [.fz (l.map cV.enc)] (.bool (yU l)):=by
 have hf:Few l.length:=by unfold Few;omega
 refine pcA func93 ?_
 simp only[go_sem,kK]
 refine bQ l.length (fun k st=> ∃fr en cnt,st=⟨fr,en,cnt⟩/\ fr 0= .fz (l.map cV.enc)/\ fr 4= .i k/\ cR en (fr 3) 1 ((l.take k).map fun c=> .str c.name) [34]/\ (l.drop k).all vS=l.all vS) 0 (bQt _) ⟨_,_,_,rfl,by simp only[go_sem],by simp only[go_sem],by simp only[go_sem];exact cR.nil _ _,rfl⟩ ?_
 rintro k st hk ⟨fr,en,cnt,rfl,h0,h4,h3,hI⟩
 simp only[go_sem,kK,h0,h4]
 refine aH (fun h=>?_) (fun h=>?_)
 ·have h':k<l.length:=D_o h;have hm:l[k]∈l:=bQr _;rw[fT h']at hI;simp only[go_sem,kK,h',h0,h4,(aPe _ (hs _ hm)).ret]
  refine aJ (fun hb=>?_) (fun hb=>?_)
  ·simp only[go_sem,kK,hb,h',h0,h4,(rE _ _ _).ret]
   refine aH (fun hc=>?_) (fun hc=>?_)
   ·simp only[go_sem,kK]
    simp at hc
    simp[yU,<-hI,vS,hc]
   ·simp only[go_sem,h',h0,h4]
    simp at hb hc
    have hk2:vS l[k]=true:=by simp[vS,hb,hc]
    have hx:cR en (St.get (fun i=>fr i) (.t 3)) 1 ((l.take k).map fun c=>Val.str c.name) [34]:=h3
    refine jZ (D:=[34]) (xs:=(l.take k).map fun c=>Val.str c.name) (ys:=[.str l[k].name]) (rs:=[]) ?_ ?_ ?_ ?_ ?_
    ·simp only[go_sem];exact h3
    ·simp only[go_sem]
    ·rfl
    ·simp;omega
    ·intro v en' cnt' hown hen hcnt;simp only[go_sem,h4]
     refine⟨_,_,_,rfl,?_⟩
     simp only[go_sem,h0,aR h' hf]
     refine⟨?_,?_⟩
     ·exact cR.sub (by rw[gM h',bRl];exact hown) (by simp)
     ·rw[<-hI,hk2];simp
  ·simp only[go_sem,kK,hb,bQ5]
   simp at hb
   simp[yU,<-hI,vS,hb]
 ·have:k=l.length:=by simp at h;omega
  subst this;have ha:l.all vS=true:=by rw[<-hI];simp
  simp only[go_sem,kK,h0]
  refine aJ (fun hb=>?_) (fun hb=>?_)
  ·rw[bR1]at h3;have hmap:(l.map fun c=>Val.str c.name)=(l.map cV.name).map .str:=by simp
   simp only[go_sem,kK,hb];obtain⟨r,ks,e1,_,e2,_⟩:=h3.snap 7;have hd:=aMg (l.map cV.name) (by simpa using hf)
   rw[<-hmap]at hd;simp only[go_sem,e1,e2,hd.ret]
   simp at hb
   simp[yU,ha,hb]
  ·simp only[go_sem,kK,hb]
   simp at hb
   simp[yU];intros;omega
theorem aGg (p:aF)(hp:p.few):PC L 36 [.agg p.cs] (.bool (aS p)):=by
 refine pcA func36 ?_
 simp only[go_sem,kK]
 repeat' ((first|with_reducible refine aH (fun h=>?_) (fun h=>?_)|with_reducible refine aJ (fun h=>?_) (fun h=>?_))<;>(try simp only[bT8,bT9,bQ5]at h)<;>try simp only[go_sem,kK, *])
 all_goals (try simp only[bSy]at*)
 all_goals try(simp[aS, *];done)
 all_goals try(simp[aS, *];intros;omega)
 rename_i g1 g2
 refine bQ (p.cons.length) (fun k st=> ∃fr en cnt,st=⟨fr,en,cnt⟩/\ (fr 1= .ptr ⟨0,1,0⟩ 0)/\ (en ⟨0,1,0⟩=some (.box p.cells false))/\ (fr 3= .i k)/\ ((p.cons.drop k).all (fun c=>decide ((c.name.size:Int)<=40))=p.cons.all fun c=>decide ((c.name.size:Int)<=40))) 0 (bQt _) (by refine⟨_,_,_,rfl,?_,?_,?_,?_⟩<;>first|(simp only[go_sem];(try rfl);done)|rfl|simp) ?_
 rintro k st hk ⟨fr,en,cnt,rfl,h1,e1,h3,hI⟩
 simp only[go_sem,kK,h1,e1,h3]
 refine aH (fun hq=>?_) (fun hq=>?_)
 ·have h':k<p.cons.length:=D_o hq;rw[fT h']at hI;simp only[go_sem,kK,h',h1,e1,h3]
  refine aH (fun hb=>?_) (fun hb=>?_)
  ·simp only[go_sem,kK]
   simp at hb
   have:p.cons.all (fun c=>decide ((c.name.size:Int)<=40))=false:=by rw[<-hI];simp;intros;omega
   simp only[aS,this];simp
  ·simp only[go_sem,h3]
   simp at hb
   refine⟨_,_,_,rfl,?_⟩
   simp only[go_sem,h1,e1,aR h' hp.cons];rw[<-hI];simp;intros;omega
 ·have:k=p.cons.length:=by simp at hq;omega
  subst this;have hcon:p.cons.all (fun c=>decide ((c.name.size:Int)<=40))=true:=by rw[<-hI];simp
  clear hI hq;simp only[go_sem]
  refine bQ (p.nodes.length) (fun k st=> ∃fr en cnt,st=⟨fr,en,cnt⟩/\ (fr 1= .ptr ⟨0,1,0⟩ 0)/\ (en ⟨0,1,0⟩=some (.box p.cells false))/\ (fr 4= .i k)/\ ((p.nodes.drop k).all fU=p.nodes.all fU)) 0 (bQt _) ⟨_,_,_,rfl,(by first|(simp only[go_sem,h1];(try rfl);done)|rfl|simp),(by first|(simp only[go_sem,e1];(try rfl);done)|rfl|simp),(by first|(simp only[go_sem];(try rfl);done)|rfl|simp),(by first|(simp only[go_sem];(try rfl);done)|rfl|simp)⟩ ?_
  rintro k st hk ⟨fr,en,cnt,rfl,h1,e1,h4,hI⟩
  simp only[go_sem,kK,h1,e1,h4]
  refine aH (fun hq=>?_) (fun hq=>?_)
  ·have h':k<p.nodes.length:=D_o hq;have hx:=hp.node p.nodes[k] (bQr _);rw[fT h']at hI;have fin:fU p.nodes[k]=false->Val.bool false=Val.bool (aS p):=by
    intro h;simp[aS,<-hI,h]
   simp only[go_sem,kK,h',h1,e1,h4]
   refine aJ (fun hb=>?_) (fun hb=>?_)
   ·simp only[go_sem,kK,hb]
    simp at hb
    refine aH (fun hc=>?_) (fun hc=>?_)
    ·simp only[go_sem,kK]
     simp at hc
     exact fin (by simp[fU];intros;omega)
    ·simp only[go_sem]
     simp at hc
     generalize cnt 0 5=g5
     refine bQ (p.nodes[k].pats.length) (fun j st=> ∃fr en cnt,st=⟨fr,en,cnt⟩/\ (fr 1= .ptr ⟨0,1,0⟩ 0)/\ (en ⟨0,1,0⟩=some (.box p.cells false))/\ (fr 5= .ptr ⟨0,5,g5⟩ 0)/\ (en ⟨0,5,g5⟩=some (.box [.i p.nodes[k].op,.i p.nodes[k].n,.is p.nodes[k].kids,.fz (p.nodes[k].pats.map Pat.enc)] false))/\ (fr 4= .i k)/\ (fr 6= .i j)/\ ((p.nodes[k].pats.drop j).all aAr=p.nodes[k].pats.all aAr)) 0 (bQt _) ⟨_,_,_,rfl,(by first|(simp only[go_sem,h1];(try rfl);done)|rfl|simp),(by first|(simp only[go_sem,e1];(try rfl);done)|rfl|simp),(by first|(simp only[go_sem];(try rfl);done)|rfl|simp),(by first|(simp only[go_sem];(try rfl);done)|rfl|simp),(by first|(simp only[go_sem,h4];(try rfl);done)|rfl|simp),(by first|(simp only[go_sem];(try rfl);done)|rfl|simp),(by first|(simp only[go_sem];(try rfl);done)|rfl|simp)⟩ ?_
     rintro j st hk ⟨fr,en,cnt,rfl,h1,e1,h5,e5,h4,h6,hJ⟩
     simp only[go_sem,kK,h5,e5,h6]
     refine aH (fun h2=>?_) (fun h2=>?_)
     ·have h2':j<p.nodes[k].pats.length:=D_o h2;rw[fT h2']at hJ;simp only[go_sem,kK,h2',h5,e5,h6,(aH6 _ (hx.pat _ (bQr _))).ret]
      refine aH (fun hd=>?_) (fun hd=>?_)
      ·simp only[go_sem,kK]
       simp at hd
       exact fin (by simp[fU,<-hJ,hd])
      ·simp only[go_sem,h6]
       simp at hd
       refine⟨_,_,_,rfl,?_⟩
       simp only[go_sem,h1,e1,h5,e5,h4,aR h2' hx.pats];rw[<-hJ,hd];simp
     ·have:j=p.nodes[k].pats.length:=by simp at h2;omega
      subst this;have hfr:fU p.nodes[k]=true:=by
       simp only[fU,<-hJ];simp;exact⟨by omega,by omega⟩
      simp only[go_sem,h4]
      refine⟨_,_,_,rfl,?_⟩
      simp only[go_sem,h1,e1,aR h' hp.nodes];rw[<-hI,hfr];simp
   ·simp only[go_sem,kK,hb,bQ5]
    simp at hb
    exact fin (by simp[fU];intros;omega)
  ·have:k=p.nodes.length:=by simp at hq;omega
   subst this;have hn:p.nodes.all fU=true:=by rw[<-hI];simp
   simp only[go_sem];simp only[aS,hcon,hn];simp[g1,g2,h]
theorem aR2 (p:aF)(n:aK)(hp:p.few)(hn:n.few):PC L 94 [.agg p.cs,.agg [.i n.op,.i n.n,.fz (n.kids.map (.int .i64)),.fz (n.pats.map Pat.enc)]] (.bool (eE p n)):=by
 have e1:IntKind.i64.wrap (0-(p.funs.length:Int))= -(p.funs.length:Int):=by have:=hp.funs;unfold Few at this;rw[aV (by omega)];omega
 have e2:=dT hp.cons
 refine pcA func94 ?_
 simp only[go_sem,aC5,Go.Abs.start]
 refine aBv (fun st=>(st.fr 2= .ptr ⟨0,2,0⟩ 0)/\ (st.en ⟨0,2,0⟩=some (.box p.cells false))/\ (st.fr 3= .ptr ⟨0,3,0⟩ 0)/\ (st.en ⟨0,3,0⟩=some (.box [.i n.op,.i n.n,.is n.kids,.fz (n.pats.map Pat.enc)] false))/\ (st.fr 6= .bool (oD p n))/\ (st.fr 5= .i (oX p n))) ?_ ?_
 ·simp only[go_sem,kK]
  repeat' ((first|with_reducible refine aH (fun h=>?_) (fun h=>?_)|with_reducible refine aJ (fun h=>?_) (fun h=>?_))<;>(try simp only[bT8,bT9]at h)<;>try simp only[go_sem,kK, *,(rE _ _ _).ret,aGe])
  all_goals simp[oD,oX, *]
 ·rintro fr en cnt ⟨(h2:fr 2= .ptr ⟨0,2,0⟩ 0),(e2:en ⟨0,2,0⟩=some (.box p.cells false)),(h3:fr 3= .ptr ⟨0,3,0⟩ 0),(e3:en ⟨0,3,0⟩=some (.box [.i n.op,.i n.n,.is n.kids,.fz (n.pats.map Pat.enc)] false)),(h6:fr 6= .bool (oD p n)),(h5:fr 5= .i (oX p n))⟩
  refine aBv (fun st=>(st.fr 2= .ptr ⟨0,2,0⟩ 0)/\ (st.en ⟨0,2,0⟩=some (.box p.cells false))/\ (st.fr 3= .ptr ⟨0,3,0⟩ 0)/\ (st.en ⟨0,3,0⟩=some (.box [.i n.op,.i n.n,.is n.kids,.fz (n.pats.map Pat.enc)] false))/\ (st.fr 6= .bool (oD p n&&lR n))/\ (st.fr 5= .i (oX p n))) ?_ ?_
  ·simp only[go_sem,kK,h3,e3]
   repeat' ((first|with_reducible refine aH (fun h=>?_) (fun h=>?_)|with_reducible refine aJ (fun h=>?_) (fun h=>?_))<;>(try simp only[bT8,bT9,bQ0]at h)<;>try simp only[go_sem,kK, *,(rE _ _ _).ret])
   all_goals simp[lR, *]
  ·rintro fr en cnt ⟨(h2:fr 2= .ptr ⟨0,2,0⟩ 0),(e2:en ⟨0,2,0⟩=some (.box p.cells false)),(h3:fr 3= .ptr ⟨0,3,0⟩ 0),(e3:en ⟨0,3,0⟩=some (.box [.i n.op,.i n.n,.is n.kids,.fz (n.pats.map Pat.enc)] false)),(h6:fr 6= .bool (oD p n&&lR n)),(h5:fr 5= .i (oX p n))⟩
   have hb0:(oD p n&&lR n)=true->0<=(n.pats.length:Int)/\ (n.pats.length:Int)<=1000:=by
    intro h;simp only[bQj]at h;have:=h.2;unfold lR at this;split at this
    ·simp[inR]at this;omega
    ·simp at this;simp[this]
   have hres:eE p n=(((oD p n&&lR n)&&n.pats.all (nC p.cons))&&decide ((n.kids.length:Int)=fD n.op n.pats.length (oX p n))):=rfl;rw[hres];clear hres e1;generalize (oD p n&&lR n)=b0 at h6 hb0
   refine aBv (fun st=>st.fr 2= .ptr ⟨0,2,0⟩ 0/\ st.en ⟨0,2,0⟩=some (.box p.cells false)/\ st.fr 3= .ptr ⟨0,3,0⟩ 0/\ st.en ⟨0,3,0⟩=some (.box [.i n.op,.i n.n,.is n.kids,.fz (n.pats.map Pat.enc)] false)/\ st.fr 6= .bool (b0&&n.pats.all (nC p.cons))/\ st.fr 5= .i (oX p n)) ?_ ?_
   ·simp only[go_sem,kK]
    refine bQ n.pats.length (fun k st=> ∃fr en cnt b,st=⟨fr,en,cnt⟩/\ fr 2= .ptr ⟨0,2,0⟩ 0/\ en ⟨0,2,0⟩=some (.box p.cells false)/\ fr 3= .ptr ⟨0,3,0⟩ 0/\ en ⟨0,3,0⟩=some (.box [.i n.op,.i n.n,.is n.kids,.fz (n.pats.map Pat.enc)] false)/\ fr 5= .i (oX p n)/\ fr 7= .i k/\ fr 6= .bool b/\ (b&&(n.pats.drop k).all (nC p.cons))=(b0&&n.pats.all (nC p.cons))) 0 (bQt _) ⟨_,_,_,b0,rfl,by simp only[go_sem,h2],by simp only[go_sem,e2],by simp only[go_sem,h3],by simp only[go_sem,e3],by simp only[go_sem,h5],by simp only[go_sem],by simp only[go_sem,h6],rfl⟩ ?_
    rintro k st hk ⟨fr,en,cnt,b,rfl,h2,e2,h3,e3,h5,h7,h6,hI⟩
    simp only[go_sem,kK,h3,e3,h7]
    refine aJ (fun hd=>?_) (fun hd=>?_)
    ·have h':k<n.pats.length:=D_o hd;have hm:n.pats[k]∈n.pats:=bQr _;rw[fT h']at hI;simp only[go_sem,kK,hd,h6]
     refine aH (fun hb=>?_) (fun hb=>?_)
     ·rw[hb]at hI;simp only[go_sem,kK,h',h3,e3,h7,(zP _ (hn.pat _ hm) 12 (by omega) (by omega)).ret]
      refine aJ (fun hw=>?_) (fun hw=>?_)
      ·simp only[go_sem,kK,hw,h',h2,e2,h3,e3,h7,(aUr _ hp.cons _ (hn.pat _ hm)).ret]
       refine⟨_,_,_,rR p.cons n.pats[k],rfl,?_⟩
       simp only[go_sem,h2,e2,h3,e3,h5,aR h' hn.pats];rw[<-hI];simp[nC,D_o hw]
      ·simp only[go_sem,kK,hw,h7]
       refine⟨_,_,_,false,rfl,?_⟩
       simp only[go_sem,h2,e2,h3,e3,h5,aR h' hn.pats]
       simp at hw
       rw[<-hI];simp[nC];intros;omega
     ·simp only[go_sem,h',h2,e2,h3,e3,h5,h6];rw[<-hI,hb];simp
    ·have:k=n.pats.length:=by simp at hd;omega
     subst this;simp only[go_sem,kK,hd,h2,e2,h3,e3,h5,h6];rw[<-hI];simp
   ·rintro fr en cnt ⟨(h2:fr 2=_),(e2:en _=_),(h3:fr 3=_),(e3:en _=_),(h6:fr 6=_),(h5:fr 5=_)⟩
    generalize hbb:(b0&&n.pats.all (nC p.cons))=b at h6⊢;simp only[go_sem,kK]
    refine aAo ?_ ?_
    ·decide
    simp only[go_sem,kK,h6]
    refine aJ (fun hd=>?_) (fun hd=>?_)
    ·have h0:b0=true:=by
      simp only[hd,bQj]at hbb;exact hbb.1
     simp only[go_sem,kK,hd,h3,e3,h5,(aR0 _ _ _ (hb0 h0)).ret]
    ·simp only[go_sem,kK,hd]
theorem aWc {u:List Bool}{x:Int}(hu:u.length=n)(h:inR x 0 ((n:Int)-1)=true):0<=x/\ x<(n:Int)/\ (u.map Val.bool)[x.toNat]?=some (.bool (u.getD x.toNat false)):=by
 simp only[inR,bT8]at h;have hx:x.toNat<u.length:=by omega
 exact⟨by omega,by omega,by simp[bQn,hx]⟩
theorem aCl (p:aF)(hp:p.few)(hs:p.cons.length<=1000):PC L 37 [.agg p.cs] (.bool (eS p)):=by
 have w1:=dT hp.nodes;have w2:=dT hp.funs
 refine pcA func37 ?_
 simp only[go_sem,kK]
 repeat' ((first|with_reducible refine aH (fun h=>?_) (fun h=>?_)|with_reducible refine aJ (fun h=>?_) (fun h=>?_))<;>(try simp only[bT8,bT9,bQ5]at h)<;>try simp only[go_sem,kK, *,(rE _ _ _).ret,(aR1 _ hs hp.con).ret])
 all_goals (try simp only[bRw,Bool.not_eq_false',bSy]at*)
 all_goals try(simp[eS, *];done)
 all_goals try(simp[eS, *];intros;omega)
 rename_i g1 g2 g3;have hn:p.nodes.length<=16777216:=by omega
 have hfo:eS p=yV ((aAs 0 (p.nodes.length-1) (List.replicate p.nodes.length false) p.funs).bind fun u=>kY p 0 u p.nodes):=by simp[eS,g1,g2,g3,h]
 rw[hfo];clear hfo;simp only[go_sem,bA1 hn]
 refine bQ p.funs.length (fun k st=> ∃fr en cnt u,st=⟨fr,en,cnt⟩/\ (fr 1= .ptr ⟨0,1,0⟩ 0/\ en ⟨0,1,0⟩=some (.box p.cells false)/\ fr 3= .i p.nodes.length/\ fr 4= .bl ⟨0,40,0⟩ 0 p.nodes.length/\ en ⟨0,40,0⟩=some (.blk 1 (u.map Val.bool) false)/\ u.length=p.nodes.length)/\ fr 5= .i k/\ aAs 0 (p.nodes.length-1) u (p.funs.drop k)=aAs 0 (p.nodes.length-1) (List.replicate p.nodes.length false) p.funs) 0 (bQt _) ⟨_,_,_,List.replicate p.nodes.length false,rfl,(by refine⟨?_,?_,?_,?_,by simp only[go_sem,List.map_replicate],by simp⟩<;>simp only[go_sem]),by simp only[go_sem],rfl⟩ ?_
 rintro k st hk ⟨fr,en,cnt,u,rfl,⟨h1,e1,h3,h4,eu,hu⟩,h5,hI⟩
 simp only[go_sem,kK,h1,e1,h5]
 refine aH (fun hq=>?_) (fun hq=>?_)
 ·have h':k<p.funs.length:=D_o hq;rw[bRt h',aAs]at hI;simp only[go_sem,kK,h',h1,e1,h3,h5,(rE _ _ _).ret,w1]
  refine aJ (fun hb=>?_) (fun hb=>?_)
  ·simp at hb
   obtain⟨a1,a2,a3⟩:=aWc hu hb;rw[hb]at hI;simp only[go_sem,kK,hb,bQ0,h',h1,e1,h4,eu,h5,a1,a2,a3]
   refine aH (fun hc=>?_) (fun hc=>?_)
   ·simp only[go_sem,kK];rw[hc]at hI
    simp at hI
    rw[<-hI];rfl
   ·simp only[go_sem,h',h1,e1,h4,eu,h5,a1,a2,a3];rw[hc]at hI
    simp at hI
    refine⟨_,_,_,u.set p.funs[k].toNat true,rfl,?_⟩
    simp only[go_sem,h1,e1,h3,h4,<-bSz,aR h' hp.funs];exact⟨by simp[hu],hI⟩
  ·simp only[go_sem,kK,hb,bQ5]
   simp at hb
   rw[hb]at hI
   simp at hI
   rw[<-hI];rfl
 ·have:k=p.funs.length:=by simp at hq;omega
  subst this;rw[bSh,aAs]at hI;rw[<-hI];simp only[bTe];clear hq hI hk;generalize hM:kY p 0 u p.nodes=M;simp only[go_sem]
  refine bQ p.nodes.length (fun k st=> ∃fr en cnt u,st=⟨fr,en,cnt⟩/\ (fr 1= .ptr ⟨0,1,0⟩ 0/\ en ⟨0,1,0⟩=some (.box p.cells false)/\ fr 3= .i p.nodes.length/\ fr 4= .bl ⟨0,40,0⟩ 0 p.nodes.length/\ en ⟨0,40,0⟩=some (.blk 1 (u.map Val.bool) false)/\ u.length=p.nodes.length)/\ fr 6= .i k/\ kY p k u (p.nodes.drop k)=M) 0 (bQt _) ⟨_,_,_,u,rfl,⟨by simp only[go_sem,h1],by simp only[go_sem,e1],by simp only[go_sem,h3],by simp only[go_sem,h4],by simp only[go_sem,eu],hu⟩,by simp only[go_sem],hM⟩ ?_
  clear hM h1 e1 h3 h4 eu hu h5
  rintro k st hk ⟨fr,en,cnt,u,rfl,⟨h1,e1,h3,h4,eu,hu⟩,h6,hI⟩
  simp only[go_sem,kK,h3,h6]
  refine aH (fun hq=>?_) (fun hq=>?_)
  ·have h':k<p.nodes.length:=D_o hq;have hx:=hp.node p.nodes[k] (bQr _);rw[bRt h',kY]at hI;simp only[go_sem,kK,h',h1,e1,h6,(aR2 p _ hp hx).ret]
   refine aH (fun hb=>?_) (fun hb=>?_)
   ·simp only[go_sem,kK]
    simp at hb
    rw[hb]at hI;rw[<-hI];rfl
   ·simp only[go_sem]
    simp at hb
    rw[hb]at hI;simp only[if_true]at hI;generalize hm:aAs ((k:Int)+1) (p.nodes.length-1) u p.nodes[k].kids=m at hI
    refine bQ p.nodes[k].kids.length (fun j st=> ∃fr en cnt u,st=⟨fr,en,cnt⟩/\ (fr 1= .ptr ⟨0,1,0⟩ 0/\ en ⟨0,1,0⟩=some (.box p.cells false)/\ fr 3= .i p.nodes.length/\ fr 4= .bl ⟨0,40,0⟩ 0 p.nodes.length/\ en ⟨0,40,0⟩=some (.blk 1 (u.map Val.bool) false)/\ u.length=p.nodes.length)/\ fr 6= .i k/\ fr 7= .i j/\ aAs ((k:Int)+1) (p.nodes.length-1) u (p.nodes[k].kids.drop j)=m) 0 (bQt _) ⟨_,_,_,u,rfl,⟨by simp only[go_sem,h1],by simp only[go_sem,e1],by simp only[go_sem,h3],by simp only[go_sem,h4],by simp only[go_sem,eu],hu⟩,by simp only[go_sem,h6],by simp only[go_sem],hm⟩ ?_
    clear hm h1 e1 h3 h4 eu hu h6
    rintro j st hj ⟨fr,en,cnt,u,rfl,⟨h1,e1,h3,h4,eu,hu⟩,h6,h7,hJ⟩
    simp only[go_sem,kK,h',h1,e1,h6,h7]
    refine aH (fun h2=>?_) (fun h2=>?_)
    ·have h2':j<p.nodes[k].kids.length:=D_o h2;rw[bRt h2',aAs]at hJ;have w3:IntKind.i64.wrap ((k:Int)+1)=(k:Int)+1:=aV (by omega)
     simp only[go_sem,kK,h',h2',h1,e1,h3,h6,h7,(rE _ _ _).ret,w1,w3]
     refine aJ (fun hc=>?_) (fun hc=>?_)
     ·simp at hc
      have hc0:inR p.nodes[k].kids[j] 0 ((p.nodes.length:Int)-1)=true:=by simp[inR]at hc⊢;omega
      obtain⟨a1,a2,a3⟩:=aWc hu hc0;rw[hc]at hJ;simp only[go_sem,kK,hc,bQ0,h4,eu,a1,a2,a3]
      refine aH (fun hd=>?_) (fun hd=>?_)
      ·simp only[go_sem,kK];rw[hd]at hJ
       simp at hJ
       rw[<-hI,<-hJ];rfl
      ·simp only[go_sem,h4,eu,h7,a1,a2,a3];rw[hd]at hJ
       simp at hJ
       refine⟨_,_,_,u.set p.nodes[k].kids[j].toNat true,rfl,?_⟩
       simp only[go_sem,h1,e1,h3,h4,h6,<-bSz,aR h2' hx.kids];exact⟨by simp[hu],hJ⟩
     ·simp only[go_sem,kK,hc,bQ5]
      simp at hc
      rw[hc]at hJ
      simp at hJ
      rw[<-hI,<-hJ];rfl
    ·have:j=p.nodes[k].kids.length:=by simp at h2;omega
     subst this;rw[bSh,aAs]at hJ;rw[<-hJ]at hI;simp only[bTe]at hI;simp only[go_sem,h6]
     refine⟨_,_,_,u,rfl,?_⟩
     simp only[go_sem,h1,e1,h3,h4,eu,hu,aR h' hp.nodes];exact hI
  ·have:k=p.nodes.length:=by simp at hq;omega
   subst this;rw[bSh,kY]at hI;rw[<-hI];simp only[yV];simp only[go_sem]
   refine bQ p.nodes.length (fun k st=> ∃fr en cnt,st=⟨fr,en,cnt⟩/\ fr 3= .i p.nodes.length/\ fr 4= .bl ⟨0,40,0⟩ 0 p.nodes.length/\ en ⟨0,40,0⟩=some (.blk 1 (u.map Val.bool) false)/\ fr 9= .i k/\ (u.drop k).all id=u.all id) 0 (bQt _) ⟨_,_,_,rfl,by simp only[go_sem,h3],by simp only[go_sem,h4],by simp only[go_sem,eu],by simp only[go_sem],rfl⟩ ?_
   clear h1 e1 h3 h4 eu h6 hI hq hk
   rintro k st hk ⟨fr,en,cnt,rfl,h3,h4,eu,h9,hI⟩
   simp only[go_sem,kK,h3,h9]
   refine aH (fun hq=>?_) (fun hq=>?_)
   ·have h':k<p.nodes.length:=D_o hq;have h'':k<u.length:=by omega
    rw[fT h'']at hI;have a3:(u.map Val.bool)[k]?=some (.bool u[k]):=by simp[h'']
    simp only[go_sem,kK,h',h4,eu,h9,a3,bS7,bRh]
    refine aH (fun hb=>?_) (fun hb=>?_)
    ·simp only[go_sem,kK]
     simp at hb
     rw[<-hI,hb];rfl
    ·simp only[go_sem,h9]
     simp at hb
     refine⟨_,_,_,rfl,?_⟩
     simp only[go_sem,h3,h4,eu,aR h' hp.nodes];rw[<-hI,hb];simp
   ·have:k=p.nodes.length:=by simp at hq;omega
    subst this;simp only[go_sem];rw[<-hI,List.drop_eq_nil_of_le (by omega)];rfl
variable {k:Nat}
theorem aWd {α:Type}{a b:List α}(ha:k<a.length)(hb:k<b.length)(h:a.take k=b.take k)(he:a[k]=b[k]):a.take (k+1)=b.take (k+1):=by
 rw[gM ha,gM hb,h,he]
theorem aWe {α:Type}{a b:List α}(hl:a.length=b.length)(h:a.take a.length=b.take a.length):a=b:=by
 rw[bR1,hl,bR1]at h;exact h
theorem bF8 {α:Type}{a b:List α}(ha:k<a.length)(hb:k<b.length)(h: ¬a[k]=b[k]): ¬a=b:=by
 rintro rfl;exact h rfl
theorem aD.eq_iff {a b:aD}:(decide (a.kind=b.kind)&&decide (a.n=b.n))=decide (a=b):=by
 cases a;cases b;simp
theorem sH (a b:List aD)(ha:Few a.length):PC L 65 [.fz (a.map aD.enc),.fz (b.map aD.enc)] (.bool (decide (a=b))):=by
 refine pcA func65 ?_
 simp only[go_sem,kK]
 refine aH (fun h=>?_) (fun h=>?_)
 ·simp only[go_sem,kK]
  simp at h
  have: ¬a=b:=by rintro rfl;exact h rfl
  simp[this]
 ·have hl:a.length=b.length:=by simp at h;exact h
  simp only[go_sem]
  refine bQ (a.length) (fun k st=> ∃fr en cnt,st=⟨fr,en,cnt⟩/\ (fr 0= .fz (a.map aD.enc))/\ (fr 1= .fz (b.map aD.enc))/\ (fr 5= .i k)/\ (a.take k=b.take k)) 0 (bQt _) (by refine⟨_,_,_,rfl,?_,?_,?_,?_⟩<;>first|(simp only[go_sem];(try rfl);done)|rfl|simp) ?_
  rintro k st hk ⟨fr,en,cnt,rfl,h0,h1,h5,hI⟩
  simp only[go_sem,kK,h0,h5]
  refine aH (fun hq=>?_) (fun hq=>?_)
  ·have h':k<a.length:=D_o hq;have h'':k<b.length:=by omega
   simp only[go_sem,kK,h',h'',h0,h1,h5,aD.eq_iff]
   refine aH (fun hb=>?_) (fun hb=>?_)
   ·simp only[go_sem,kK]
    simp at hb
    simp[bF8 h' h'' hb]
   ·simp only[go_sem,h5]
    simp at hb
    refine⟨_,_,_,rfl,?_⟩
    simp only[go_sem,h0,h1,aR h' ha];exact aWd h' h'' hI hb
  ·have:k=a.length:=by simp at hq;omega
   subst this;simp only[go_sem];simp[aWe hl hI]
theorem aKc (a b:aN)(ha:a.few):PC L 21 [.agg [.i a.form,.i a.n,.fz (a.vals.map aD.enc),.fz (a.frames.map aB.enc)],.agg [.i b.form,.i b.n,.fz (b.vals.map aD.enc),.fz (b.frames.map aB.enc)]] (.bool (decide (a=b))):=by
 have ne:(¬a.form=b.form \/ ¬a.n=b.n \/ ¬a.vals=b.vals \/ ¬a.frames=b.frames)->Val.bool false=Val.bool (decide (a=b)):=by
  intro h;have: ¬a=b:=by rintro rfl;simp at h
  simp[this]
 refine pcA func21 ?_
 simp only[go_sem,kK]
 refine aJ (fun g1=>?_) (fun g1=>?_)
 ·simp only[go_sem,kK,g1]
  refine aJ (fun g2=>?_) (fun g2=>?_)
  ·simp only[go_sem,kK,g2,(sH _ _ ha.1).ret]
   refine aJ (fun g3=>?_) (fun g3=>?_)
   ·simp only[go_sem,kK,g3]
    refine aH (fun g4=>?_) (fun g4=>?_)
    ·simp only[go_sem,kK]
     simp at g4
     exact ne (.inr (.inr (.inr (by intro e;rw[e]at g4;exact g4 rfl))))
    ·have hl:a.frames.length=b.frames.length:=by simp at g4;exact g4
     simp only[go_sem]
     refine bQ (a.frames.length) (fun k st=> ∃fr en cnt,st=⟨fr,en,cnt⟩/\ (fr 2= .ptr ⟨0,2,0⟩ 0)/\ (en ⟨0,2,0⟩=some (.box [.i a.form,.i a.n,.fz (a.vals.map aD.enc),.fz (a.frames.map aB.enc)] false))/\ (fr 3= .ptr ⟨0,3,0⟩ 0)/\ (en ⟨0,3,0⟩=some (.box [.i b.form,.i b.n,.fz (b.vals.map aD.enc),.fz (b.frames.map aB.enc)] false))/\ (fr 5= .i k)/\ (a.frames.take k=b.frames.take k)) 0 (bQt _) (by refine⟨_,_,_,rfl,?_,?_,?_,?_,?_,?_⟩<;>first|(simp only[go_sem];(try rfl);done)|rfl|simp) ?_
     rintro k st hk ⟨fr,en,cnt,rfl,h2,e2,h3,e3,h5,hI⟩
     simp only[go_sem,kK,h2,e2,h5]
     refine aH (fun hq=>?_) (fun hq=>?_)
     ·have h':k<a.frames.length:=D_o hq;have h'':k<b.frames.length:=by omega
      have hx:=ha.2.2 a.frames[k] (bQr _);simp only[go_sem]
      refine aG ?_
      simp only[go_sem,kK,h',h'',h2,e2,h3,e3,h5,kA];have fin: ¬a.frames[k]=b.frames[k]->Val.bool false=Val.bool (decide (a=b)):=fun h=>ne (.inr (.inr (.inr (bF8 h' h'' h))))
      refine aJ (fun g5=>?_) (fun g5=>?_)
      ·simp only[go_sem,kK,g5,(sH _ _ hx.1).ret]
       refine aJ (fun g6=>?_) (fun g6=>?_)
       ·simp only[go_sem,kK,g6,(sH _ _ hx.2).ret]
        refine aH (fun g7=>?_) (fun g7=>?_)
        ·simp only[go_sem,kK]
         simp at g7
         exact fin fun e=>g7 (by rw[e])
        ·simp only[go_sem,h5]
         simp at g5 g6 g7
         refine⟨_,_,_,rfl,?_⟩
         simp only[go_sem,h2,e2,h3,e3,aR h' ha.2.1]
         refine aWd h' h'' hI ?_
         generalize a.frames[k]=x at*;generalize b.frames[k]=y at*;cases x;cases y;simp only at g5 g6 g7;subst g5 g6 g7;rfl
       ·simp only[go_sem,kK,g6,bQ5]
        simp at g6
        exact fin fun e=>g6 (by rw[e])
      ·simp only[go_sem,kK,g5,bQ5]
       simp at g5
       exact fin fun e=>g5 (by rw[e])
     ·have:k=a.frames.length:=by simp at hq;omega
      subst this;simp only[go_sem]
      simp at g1 g2 g3
      have:a=b:=by
       have hf:=aWe hl hI;cases a;cases b;simp only at g1 g2 g3 hf;subst g1 g2 g3 hf;rfl
      simp[this]
   ·simp only[go_sem,kK,g3,bQ5]
    simp at g3
    exact ne (.inr (.inr (.inl g3)))
  ·simp only[go_sem,kK,g2,bQ5]
   simp at g2
   exact ne (.inr (.inl g2))
 ·simp only[go_sem,kK,g1,bQ5]
  simp at g1
  exact ne (.inl g1)
variable {x:List Val}
theorem aX0 (h:jO Tryz.prog (n+2) 62 x): ∃a:aD,sR Tryz.prog 62 x=aD.enc a/\ True:=by
 have h1:=gQ Tryz.underlying62 h;simp only[mR]at h1;obtain⟨a,b,rfl,_,ha,c,d,rfl,_,hc,rfl⟩:=h1;obtain⟨i,rfl⟩:=gH (k:= .i64) (by first|exact Tryz.underlying60|kernel_rfl) ha
 obtain⟨j,rfl⟩:=gH Tryz.underlying3 hc;exact⟨⟨i,j⟩,by simp[sR,cY,Tryz.underlying62,aD.enc],trivial⟩
theorem xH (h:jO Tryz.prog (n+2) 23 x): ∃l:List Int,x=[.fz (l.map (.int .i64))]/\ Few l.length:=by
 obtain⟨l,h1,h2,_⟩:=lQ (Val.int .i64) (fun _=>True) Tryz.underlying23 (fun y hy=>by
  obtain⟨i,rfl⟩:=gH Tryz.underlying3 hy;exact⟨i,by simp[sR,cY,Tryz.underlying3],trivial⟩) h
 exact⟨l,h1,h2⟩
theorem aGh (h:jO Tryz.prog (n+3) 55 x): ∃l:List aD,x=[.fz (l.map aD.enc)]/\ Few l.length:=by
 obtain⟨l,h1,h2,_⟩:=lQ aD.enc (fun _=>True) Tryz.underlying55 (fun y hy=>aX0 hy) h
 exact⟨l,h1,h2⟩
theorem aR3 (h:jO Tryz.prog (n+4) 119 x): ∃a:aB,sR Tryz.prog 119 x=aB.enc a/\ a.few:=by
 have h1:=gQ Tryz.underlying119 h;simp only[mR]at h1;obtain⟨a,b,rfl,_,ha,c,d,rfl,_,hc,e,f,rfl,_,he,rfl⟩:=h1;obtain⟨i,rfl⟩:=gH Tryz.underlying3 ha;obtain⟨l,rfl,hl⟩:=aGh hc;obtain⟨m,rfl,hm⟩:=aGh he;exact⟨⟨i,l,m⟩,by simp[sR,cY,Tryz.underlying119,aB.enc],hl,hm⟩
theorem aR4 (h:jO Tryz.prog (n+5) 56 x): ∃l:List aB,x=[.fz (l.map aB.enc)]/\ Few l.length/\ ∀f∈l,f.few:=
 lQ aB.enc aB.few Tryz.underlying56 (fun y hy=>aR3 hy) h
theorem aX1 (h:jO Tryz.prog (n+6) 58 x): ∃a:aN,sR Tryz.prog 58 x=aN.enc a/\ a.few:=by
 have h1:=gQ Tryz.underlying58 h;simp only[mR]at h1;obtain⟨a,b,rfl,_,ha,c,d,rfl,_,hc,e,f,rfl,_,he,g,k,rfl,_,hg,rfl⟩:=h1;obtain⟨i,rfl⟩:=gH (k:= .i64) (by first|exact Tryz.underlying54|kernel_rfl) ha
 obtain⟨j,rfl⟩:=gH Tryz.underlying3 hc;obtain⟨l,rfl,hl⟩:=aGh he;obtain⟨m,rfl,hm,hm2⟩:=aR4 hg;exact⟨⟨i,j,l,m⟩,by simp[sR,cY,Tryz.underlying58,aN.enc],hl,hm,hm2⟩
theorem aX2 (h:jO Tryz.prog (n+2) 73 x): ∃a:bL,sR Tryz.prog 73 x=bL.enc a/\ True:=by
 have h1:=gQ Tryz.underlying73 h;simp only[mR]at h1;obtain⟨a,b,rfl,_,ha,c,d,rfl,_,hc,rfl⟩:=h1;obtain⟨i,rfl⟩:=gH Tryz.underlying3 ha;obtain⟨j,rfl⟩:=gH Tryz.underlying3 hc;exact⟨⟨i,j⟩,by simp[sR,cY,Tryz.underlying73,bL.enc],trivial⟩
theorem aR5 (h:jO Tryz.prog (n+8) 30 x): ∃w:aA,x=[.fz (w.objs.map aN.enc),.fz (w.tasks.map (.int .i64)),.fz (w.outs.map bL.enc),.fz (w.ins.map (.int .i64)),.i w.used]/\ w.few:=by
 have h1:=gQ Tryz.underlying30 h;simp only[mR]at h1;obtain⟨a,b,rfl,_,ha,c,d,rfl,_,hc,e,f,rfl,_,he,g,k,rfl,_,hg,r,q,rfl,_,hr,rfl⟩:=h1;obtain⟨l1,rfl,f1,f1'⟩:=lQ aN.enc aN.few Tryz.underlying27 (fun y hy=>aX1 hy) ha
 obtain⟨l2,rfl,f2⟩:=xH hc;obtain⟨l3,rfl,f3,_⟩:=lQ bL.enc (fun _=>True) Tryz.underlying28 (fun y hy=>aX2 hy) he
 obtain⟨l4,rfl,f4⟩:=xH hg;obtain⟨i,rfl⟩:=gH Tryz.underlying3 hr;exact⟨⟨l1,l2,l3,l4,i⟩,rfl,⟨f1,f2,f3,f4,f1'⟩⟩
theorem aR6 : ∀(n:Nat) {x:List Val},jO Tryz.prog n 153 x-> ∃q:Pat,sR Tryz.prog 153 x=Pat.enc q/\ q.few
 |0,x,h=>by simp[jO]at h
 |1,x,h=>by
  have h1:=gQ Tryz.underlying153 h;simp only[mR]at h1;obtain⟨a,b,rfl,_,ha,_⟩:=h1;simp[jO]at ha
 |n+2,x,h=>by
  have h1:=gQ Tryz.underlying153 h;simp only[mR]at h1;obtain⟨a,b,rfl,_,ha,c,d,rfl,_,hc,e,f,rfl,_,he,g,k,rfl,_,hg,rfl⟩:=h1;obtain⟨i,rfl⟩:=gH (k:= .i64) (by first|exact Tryz.underlying151|kernel_rfl) ha
  obtain⟨j,rfl⟩:=gH Tryz.underlying3 hc;obtain⟨t,rfl,ht⟩:=aRo (by first|exact Tryz.underlying9|kernel_rfl) he
  obtain⟨l,rfl,hl,hq⟩:=lQ Pat.enc Pat.few Tryz.underlying138 (fun y hy=>aR6 n hy) hg
  exact⟨.mk i j t l,by simp[sR,cY,Tryz.underlying153,Pat.enc,Pat.encL_map],.mk i j t l hl ht hq⟩
theorem aUs (h:jO Tryz.prog (n+4) 140 x): ∃a:aK,sR Tryz.prog 140 x=aK.enc a/\ a.few:=by
 have h1:=gQ Tryz.underlying140 h;simp only[mR]at h1;obtain⟨a,b,rfl,_,ha,c,d,rfl,_,hc,e,f,rfl,_,he,g,k,rfl,_,hg,rfl⟩:=h1;obtain⟨i,rfl⟩:=gH (k:= .i64) (by first|exact Tryz.underlying59|kernel_rfl) ha
 obtain⟨j,rfl⟩:=gH Tryz.underlying3 hc;obtain⟨l,rfl,hl⟩:=xH he;obtain⟨m,rfl,hm,hm2⟩:=lQ Pat.enc Pat.few Tryz.underlying138 (fun y hy=>aR6 _ hy) hg
 exact⟨⟨i,j,l,m⟩,by simp[sR,cY,Tryz.underlying140,aK.enc,aRj],⟨hl,hm,hm2⟩⟩
theorem aX3 (h:jO Tryz.prog (n+2) 149 x): ∃a:cV,sR Tryz.prog 149 x=cV.enc a/\ Few a.name.size:=by
 have h1:=gQ Tryz.underlying149 h;simp only[mR]at h1;obtain⟨a,b,rfl,_,ha,c,d,rfl,_,hc,rfl⟩:=h1;obtain⟨t,rfl,ht⟩:=aRo (by first|exact Tryz.underlying9|kernel_rfl) ha
 obtain⟨j,rfl⟩:=gH Tryz.underlying3 hc;exact⟨⟨t,j⟩,by simp[sR,cY,Tryz.underlying149,cV.enc],ht⟩
theorem aUt (h:jO Tryz.prog (n+6) 26 x): ∃p:aF,x=[.fz (p.nodes.map aK.enc),.fz (p.funs.map (.int .i64)),.i p.main,.fz (p.cons.map cV.enc)]/\ p.few:=by
 have h1:=gQ Tryz.underlying26 h;simp only[mR]at h1;obtain⟨a,b,rfl,_,ha,c,d,rfl,_,hc,e,f,rfl,_,he,g,k,rfl,_,hg,rfl⟩:=h1;obtain⟨l1,rfl,f1,f1'⟩:=lQ aK.enc aK.few Tryz.underlying22 (fun y hy=>aUs hy) ha
 obtain⟨l2,rfl,f2⟩:=xH hc;obtain⟨i,rfl⟩:=gH Tryz.underlying3 he;obtain⟨l3,rfl,f3,f3'⟩:=lQ cV.enc (fun c=>Few c.name.size) Tryz.underlying24 (fun y hy=>aX3 hy) hg
 exact⟨⟨l1,l2,i,l3⟩,rfl,⟨f1,f2,f3,f1',f3'⟩⟩
def aHk (v:aD):Bool:=decide (v.kind=5)
def lV (l:List aD):List Int:=(l.filter aHk).map aD.n
variable {l:List aD}
theorem aX4 {x:aD}(h:aHk x=true):lV (x::l)=x.n::lV l:=by simp[lV,h]
theorem aX5 {x:aD}(h:aHk x=false):lV (x::l)=lV l:=by simp[lV,h]
def xI (f:aB):List Int:=lV f.env++lV f.vals
def aC9 (o:aN):List Int:=lV o.vals++o.frames.flatMap xI
section
variable {k :Key}{c0:Nat->Nat}{I:List Int->En->(Nat->Nat->Nat)->Prop}{G:En->(Nat->Nat->Nat)->Prop}{a b:Nat}
end
def bHt (sz:Nat):jC:={np:=2,res:=[.tmp 4],keep:=false,body:=(.seq (.ops [mC 4 (.i 0)]) (.seq (.seq (.ops [mT 6 0,lN 7 6,mC 8 (.i 0)]) (.block 0 (.loop (.seq (.ops [bN 9 .lss (.t 8) (.t 7)]) (.seq (.cond (.t 9) .skip (.exit 0)) (.seq (.block 1 (.seq (.ops [mT 10 8,mT 5 10]) (.seq (.ops [mT 11 1,mT 12 0,mT 13 5,iA 14 sz 12 13,lT 15 sz 14,o 16 (.call (.t 11) [(.t 15)])]) (.cond (.t 16) (.seq (.ops [mT 17 5,mT 4 17]) .ret) .skip)))) (.ops [bN 18 .add (.t 8) (cI 1),mT 8 18]))))))) (.seq (.ops [mC 4 (.i (-1))]) .ret)))}
def bF9 (f:Nat):jC:={np:=2,res:=[.tmp 4],keep:=false,body:=(.seq (.ops [mC 4 (.bool false)]) (.seq (.ops [mT 5 0,mT 6 1,cL 7 f [(.t 5),(.t 6)],bN 8 .geq (.t 7) (cI 0),mT 4 8]) .ret))}
variable {sz:Nat}
section
variable {α :Type}{enc E:α->Val}{f0 f1:Nat}
theorem bO3 (hL:L f0=some (bHt sz))(hlen: ∀x,(enc x).cells.length=sz)(hE: ∀x,Val.agg (enc x).cells=E x)(l:List α)(h:Val)(p:α->Bool)(hl:Few l.length)(hc:gG L E h p l):
  PC L f0 [.fz (l.map enc),h] (.i (idxOf p l 0)):=by
 have htk: ∀x,(enc x).cells.take sz=(enc x).cells:=fun x=>by rw[<-hlen x];exact bR1
 refine cJ hL rfl rfl ?_
 simp only[go_sem,kK,bHt]
 refine bQ (l.length) (fun k st=> ∃fr en cnt,st=⟨fr,en,cnt⟩/\ (fr 0= .fz (l.map enc))/\ (fr 1=h)/\ (fr 7= .i l.length)/\ (fr 8= .i k)/\ (idxOf p (l.drop k) k=idxOf p l 0)) 0 (bQt _) (by refine⟨_,_,_,rfl,?_,?_,?_,?_,?_⟩<;>first|(simp only[go_sem];(try rfl);done)|rfl|simp) ?_
 rintro k st hk ⟨fr,en,cnt,rfl,h0,h1,h7,h8,hI⟩
 simp only[go_sem,kK,h7,h8]
 refine aH (fun hq=>?_) (fun hq=>?_)
 ·have h':k<l.length:=D_o hq;rw[bRt h',idxOf]at hI;simp only[go_sem,h',hlen,htk,hE,bRg,bQk,if_true,bSm,beq_self_eq_true,h0,h1,h8]
  refine hc.call l[k] (bQr _) _ _ ?_
  simp only[go_sem,kK]
  refine aH (fun hb=>?_) (fun hb=>?_)
  ·simp only[go_sem,kK];rw[hb,if_pos rfl]at hI;rw[<-hI]
  ·simp only[go_sem,h8];rw[hb]at hI
   simp at hI
   refine⟨_,_,_,rfl,?_⟩
   simp only[go_sem,h0,h1,h7,aR h' hl];exact hI
 ·have:k=l.length:=by simp at hq;omega
  subst this;simp only[go_sem];rw[<-hI];simp[idxOf]
theorem aKd (hL:L f1=some (bF9 f0))(h0:L f0=some (bHt sz))(hlen: ∀x,(enc x).cells.length=sz)(hE: ∀x,Val.agg (enc x).cells=E x)(l:List α)(h:Val)(p:α->Bool)(hl:Few l.length)(hc:gG L E h p l):
  PC L f1 [.fz (l.map enc),h] (.bool (l.any p)):=by
 refine cJ hL rfl rfl ?_
 simp only[go_sem,kK,bF9,hc.snap,hc.wk,(bO3 h0 hlen hE l h p hl hc).ret];rw[<-aGa p l 0]
end
def bK1 (n:Nat):jC:={np:=2,res:=[.tmp 3],keep:=false,body:=(.seq (.ops [bX 2 n 0,mC 3 (.bool false)]) (.seq (.ops [l1 4 1,lT 5 n 2,o 6 (.call (.t 4) [(.t 5)]),nT 7 6,mT 3 7]) .ret))}
def cEv (f g:Nat):jC:={np:=2,res:=[.tmp 4],keep:=false,body:=(.seq (.ops [bX 3 1 1,mC 4 (.bool false)]) (.seq (.ops [mT 5 0,o 6 (.mkfn f [] [(.t 3)]),cL 7 g [(.t 5),(.t 6)],nT 8 7,mT 4 8]) .ret))}
variable {f g:Nat}{h:Val}
theorem aUu {α:Type}{enc E:α->Val}{k:Nat}{l:List α}{p:α->Bool}(hL:L f=some (cEv g k))(hS: ∀x en,snapD 8 en (E x)=some (E x,[])/\ (E x).wk1=E x)(hC: ∀x∈l,PC L g [E x,.fp [h] 0] (.bool (!p x)))(hF: ∀h p,gG L E h p l->PC L k [.fz (l.map enc),h] (.bool (l.any p)))(hc:gG L E h p l):
  PC L f [.fz (l.map enc),h] (.bool (l.all p)):=by
 have hd:gG L E (.fn g [] [.fp [h] 0]) (fun x=>!p x) l:=by
  refine⟨fun n en hn=>?_,rfl,rfl,rfl,fun x hx en K hK=>?_⟩
  ·obtain⟨m,rfl⟩: ∃m,n=m+4:=⟨n-4,by omega⟩
   simp only[go_sem]
  ·simp only[go_sem,(hS x en).1,(hS x en).2,(hC x hx).ret];exact hK
 refine cJ hL rfl rfl ?_
 simp only[go_sem,kK,cEv,yS hc.one hc.cells,hc.snap,(hF _ _ hd).ret];rw[<-List.not_all_eq_any_not,Bool.not_not]
theorem aDa {α:Type}{enc:α->Val}{cs:α->List Val}{k:Nat}{l:List α}{p:α->Bool}(hc:gG L (fun x=> .agg (cs x)) h p l)(hF: ∀h p,gG L (fun x=> .agg (cs x)) h p l->PC L k [.fz (l.map enc),h] (.bool (l.any p)))(hS: ∀x en,snapD 8 en (.agg (cs x))=some (.agg (cs x),[])/\ (Val.agg (cs x)).wk1= .agg (cs x))(hlen: ∀x,(cs x).length=sz)(hL:L f=some (cEv g k))(h1:L g=some (bK1 sz)):
  PC L f [.fz (l.map enc),h] (.bool (l.all p)):=by
 refine aUu hL hS (fun x hx=>?_) hF hc
 have htk:(cs x).take sz=cs x:=by rw[<-hlen x];exact bR1
 refine cJ h1 rfl rfl ?_
 simp only[go_sem,kK,bK1,hlen,htk,bRg,bQk,if_true,bSm]
 refine hc.call x hx _ _ ?_
 simp only[go_sem]
theorem aX6 (l:List cV)(h:Val)(p:cV->Bool)(hl:Few l.length)(hc:gG L (fun x:cV=> .agg [.str x.name,.i x.args]) h p l):
  PC L 281 [.fz (l.map cV.enc),h] (.bool (l.any p)):=by
 refine aKd (sz:=2) (f0:=329) ?_ ?_ (fun _=>rfl) (fun _=>rfl) l h p hl hc
 ·have hLz:=at_ func281
  conv at hLz=>rhs;reduce
  exact hLz
 ·have hLz:=at_ func329
  conv at hLz=>rhs;reduce
  exact hLz
theorem vD (l:List cV)(h:Val)(p:cV->Bool)(hl:Few l.length)(hc:gG L (fun x:cV=> .agg [.str x.name,.i x.args]) h p l):
  PC L 224 [.fz (l.map cV.enc),h] (.bool (l.all p)):=by
 refine aDa (sz:=2) (g:=282) hc (fun h p hc=>aX6 l h p hl hc) (fun x _=>⟨rfl,rfl⟩) (fun _=>rfl) ?_ ?_
 ·have hLz:=at_ func224
  conv at hLz=>rhs;reduce
  exact hLz
 ·have hLz:=at_ func282
  conv at hLz=>rhs;reduce
  exact hLz
theorem aUv (l:List aK)(h:Val)(p:aK->Bool)(hl:Few l.length)(hc:gG L (fun x:aK=> .agg [.i x.op,.i x.n,.fz (x.kids.map (.int .i64)),.fz (x.pats.map Pat.enc)]) h p l):
  PC L 284 [.fz (l.map aK.enc),h] (.bool (l.any p)):=by
 refine aKd (sz:=4) (f0:=331) ?_ ?_ (fun _=>rfl) (fun _=>rfl) l h p hl hc
 ·have hLz:=at_ func284
  conv at hLz=>rhs;reduce
  exact hLz
 ·have hLz:=at_ func331
  conv at hLz=>rhs;reduce
  exact hLz
theorem uM (l:List aK)(h:Val)(p:aK->Bool)(hl:Few l.length)(hc:gG L (fun x:aK=> .agg [.i x.op,.i x.n,.fz (x.kids.map (.int .i64)),.fz (x.pats.map Pat.enc)]) h p l):
  PC L 229 [.fz (l.map aK.enc),h] (.bool (l.all p)):=by
 refine aDa (sz:=4) (g:=285) hc (fun h p hc=>aUv l h p hl hc) (fun x _=>⟨rfl,rfl⟩) (fun _=>rfl) ?_ ?_
 ·have hLz:=at_ func229
  conv at hLz=>rhs;reduce
  exact hLz
 ·have hLz:=at_ func285
  conv at hLz=>rhs;reduce
  exact hLz
theorem bBf (l:List Pat)(h:Val)(p:Pat->Bool)(hl:Few l.length)(hc:gG L (fun x:Pat=> .agg [.i x.form,.i x.n,.str x.text,.fz (x.parts.map Pat.enc)]) h p l):
  PC L 333 [.fz (l.map Pat.enc),h] (.bool (l.any p)):=by
 refine aKd (sz:=4) (f0:=343) ?_ ?_ (fun x=>by cases x;rfl) (fun x=>by cases x;simp[Pat.enc,Pat.encL_map,Val.cells,Pat.form,Pat.n,Pat.text,Pat.parts]) l h p hl hc
 ·have hLz:=at_ func333
  conv at hLz=>rhs;reduce
  exact hLz
 ·have hLz:=at_ func343
  conv at hLz=>rhs;reduce
  exact hLz
theorem oE (l:List Pat)(h:Val)(p:Pat->Bool)(hl:Few l.length)(hc:gG L (fun x:Pat=> .agg [.i x.form,.i x.n,.str x.text,.fz (x.parts.map Pat.enc)]) h p l):
  PC L 291 [.fz (l.map Pat.enc),h] (.bool (l.all p)):=by
 refine aDa (sz:=4) (g:=334) hc (fun h p hc=>bBf l h p hl hc) (fun x _=>⟨rfl,rfl⟩) (fun _=>rfl) ?_ ?_
 ·have hLz:=at_ func291
  conv at hLz=>rhs;reduce
  exact hLz
 ·have hLz:=at_ func334
  conv at hLz=>rhs;reduce
  exact hLz
theorem bD6 (l:List Int)(h:Val)(p:Int->Bool)(hl:Few l.length)(hc:gG L (fun x:Int=> .i x) h p l):
  PC L 335 [.fz (l.map (.int .i64)),h] (.i (idxOf p l 0)):=by
 refine pcA func335 ?_
 simp only[go_sem,kK]
 refine bQ (l.length) (fun k st=> ∃fr en cnt,st=⟨fr,en,cnt⟩/\ (fr 0= .fz (l.map (.int .i64)))/\ (fr 1=h)/\ (fr 7= .i l.length)/\ (fr 8= .i k)/\ (idxOf p (l.drop k) k=idxOf p l 0)) 0 (bQt _) (by refine⟨_,_,_,rfl,?_,?_,?_,?_,?_⟩<;>first|(simp only[go_sem];(try rfl);done)|rfl|simp) ?_
 rintro k st hk ⟨fr,en,cnt,rfl,h0,h1,h7,h8,hI⟩
 simp only[go_sem,kK,h7,h8]
 refine aH (fun hq=>?_) (fun hq=>?_)
 ·have h':k<l.length:=D_o hq;rw[bRt h',idxOf]at hI;simp only[go_sem,h',h0,h1,h8]
  refine hc.call l[k] (bQr _) _ _ ?_
  simp only[go_sem,kK]
  refine aH (fun hb=>?_) (fun hb=>?_)
  ·simp only[go_sem,kK];rw[hb,if_pos rfl]at hI;rw[<-hI]
  ·simp only[go_sem,h8];rw[hb]at hI
   simp at hI
   refine⟨_,_,_,rfl,?_⟩
   simp only[go_sem,h0,h1,h7,aR h' hl];exact hI
 ·have:k=l.length:=by simp at hq;omega
  subst this;simp only[go_sem];rw[<-hI];simp[idxOf]
theorem aR7 (l:List Int)(h:Val)(p:Int->Bool)(hl:Few l.length)(hc:gG L (fun x:Int=> .i x) h p l):
  PC L 292 [.fz (l.map (.int .i64)),h] (.bool (l.any p)):=by
 refine pcA func292 ?_
 simp only[go_sem,kK,hc.snap,hc.wk,(bD6 l h p hl hc).ret];rw[<-aGa p l 0]
theorem aAt (l:List Int)(h:Val)(p:Int->Bool)(hc:gG L (fun x:Int=> .i x) h p l)(x:Int)(hx:x∈l):
  PC L 293 [.i x,.fp [h] 0] (.bool (!p x)):=by
 refine pcA func293 ?_
 simp only[go_sem,kK]
 refine hc.call x hx _ _ ?_
 simp only[go_sem]
theorem aEq (l:List Int)(h:Val)(p:Int->Bool)(hl:Few l.length)(hc:gG L (fun x:Int=> .i x) h p l):
  PC L 231 [.fz (l.map (.int .i64)),h] (.bool (l.all p)):=by
 refine aUu ?_ (fun _ _=>⟨rfl,rfl⟩) (aAt l h p hc) (fun h p hc=>aR7 l h p hl hc) hc
 have hLz:=at_ func231
 conv at hLz=>rhs;reduce
 exact hLz
theorem lW (n lo hi:Int):PC L 223 [.i n,.i lo,.i hi] (.bool (inR n lo hi)):=by
 refine pcA func223 ?_
 simp only[go_sem,qW]
 refine bC (fun h=>?_) (fun h=>?_)<;>simp only[go_sem,h]<;>simp at h<;>simp[h,inR]
 omega
theorem zQ (n:Int):PC L 332 [.i n] (.bool (inR n (-1000000000) 1000000000)):=by
 refine pcA func332 ?_
 simp only[go_sem,kK,(lW _ _ _).ret]
theorem aMh (s:ByteArray):PC L 330 [.str s] (.bool (oW (nK s))):=by
 refine pcA func330 ?_
 simp only[go_sem,kK]
 refine bQ s.size (fun k st=> ∃fr en cnt,st=⟨fr,en,cnt⟩/\ fr 6= .it ⟨0,6,0⟩/\ en ⟨0,6,0⟩=some (.iter s k)/\ ((nK s).drop k).all kS=(nK s).all kS) 0 (bQt _) ⟨_,_,_,rfl,by simp only[go_sem],by simp only[go_sem],rfl⟩ ?_
 rintro k st hk ⟨fr,en,cnt,rfl,h6,e6,hI⟩
 have hsz:=qA s
 by_cases h':k<s.size
 ·have h'':k<(nK s).length:=by omega
  obtain⟨d1,d2⟩:=aPc h'';rw[fT h'']at hI;simp only[go_sem,kK,h6,e6,h'];cases hb:kS (nK s)[k]with
  |true=>
   have hd:=d1 hb;have hb2:=hb;simp only[kS,bQj,bT8]at hb2;have c1:decide ((((nK s)[k].toNat:Nat):Int)<97)=false:=by simp;omega
   have c2:decide ((122:Int)<(((nK s)[k].toNat:Nat):Int))=false:=by simp;omega
   simp only[go_sem,kK,hd,c1,c2]
   refine⟨_,_,_,rfl,?_⟩
   simp only[go_sem,h6];rw[<-hI,hb];simp
  |false=>
   have hd:=d2 hb;rw[hb]at hI;generalize (Utf8.decode s k).1=r at hd⊢
   refine aJ (fun hc=>?_) (fun hc=>?_)
   ·simp at hc
    have c1:decide ((r:Int)<97)=false:=by simp;omega
    have c2:decide ((122:Int)<(r:Int))=true:=by simp;omega
    simp only[go_sem,kK,c1,c2];rw[oW,<-hI];rfl
   ·simp only[go_sem,kK,hc,bQ5];rw[oW,<-hI];rfl
 ·have:k=s.size:=by omega
  subst this;simp only[go_sem,kK,h6,e6,bS1];rw[oW,<-hI,List.drop_eq_nil_of_le (by omega)];rfl
theorem aX7 (s:ByteArray):(s.toList==(⟨#[]⟩:ByteArray).toList)=decide (s.size=0):=by
 rw[Go.ByteArray.toList_eq,Go.ByteArray.toList_eq];have:s.size=s.data.toList.length:=by rw[bSt];rfl
 rw[this];cases s.data.toList<;>rfl
theorem aMi (s:ByteArray):PC L 283 [.str s] (.bool (aJ2 (nK s))):=by
 refine pcA func283 ?_
 simp only[go_sem,kK,aX7]
 refine aJ (fun h=>?_) (fun h=>?_)
 ·have h':1<=s.size:=by
   have: ¬s.size=0:=by intro h0;rw[h0]at h;simp at h
   omega
  have h0:0<(nK s).length:=by rw[qA];omega
  have hix:=fun(k:IntKind)=>aPb (k:=k) h0
  simp only[Int.natCast_zero]at hix;rw[aKb (qA s) h0];simp only[go_sem,kK,h]
  refine aJ (fun h1=>?_) (fun h1=>?_)<;>simp only[go_sem,kK,h1,hix]
  refine aJ (fun h2=>?_) (fun h2=>?_)<;>simp only[go_sem,kK,h2,hix]
  refine aJ (fun h3=>?_) (fun h3=>?_)<;>simp only[go_sem,kK,h3,aKa h',(aMh _).ret,aNd]
  all_goals simp only[bT8,bT9,bQ0]at*
  all_goals simp[*]
 ·have:s.size=0:=by
   by_cases h0:s.size=0
   ·exact h0
   ·simp only[h0,decide_false]at h;simp at h
  have e:nK s=[]:=by rw[<-bT2,qA,this]
  simp only[go_sem,kK,h,bQ0];rw[e];rfl
theorem aR8 (c:cV):PC L 225 [.agg [.str c.name,.i c.args]] (.bool (vS c)):=by
 refine pcA func225 ?_
 simp only[go_sem,kK,(aMi _).ret]
 refine aJ (fun h=>?_) (fun h=>?_)<;>simp only[go_sem,kK,h,(lW _ _ _).ret]<;>simp[vS,h]
theorem vE (c:cV):PC L 228 [.agg [.str c.name,.i c.args]] (.str c.name):=by
 refine pcA func228 ?_
 simp only[go_sem,kK]
theorem vF (n:Int):PC L 232 [.i n] (.bool (decide (n=1))):=by
 refine pcA func232 ?_
 simp only[go_sem,kK]
theorem aPf : ∀q:Pat,q.few-> ∀most:Int,0<=most->most<=1000->PC L 288 [.agg [.i q.form,.i q.n,.str q.text,.fz (q.parts.map Pat.enc)],.i most] (.i (sN q most)):=by
 refine Pat.ind fun q ih hq most h1 h2=>?_
 obtain⟨hl,_,hps⟩:=Pat.few_parts hq;rw[bBd]
 refine pcA func288 ?_
 simp only[go_sem,kK]
 refine bQ q.parts.length (fun k st=> ∃fr en cnt a,st=⟨fr,en,cnt⟩/\ fr 1= .i most/\ fr 5= .i a/\ fr 9= .fz (q.parts.map Pat.enc)/\ fr 10= .i q.parts.length/\ fr 11= .i k/\ 1<=a/\ a<=most+1/\ lS (q.parts.drop k) most a=lS q.parts most 1) 0 (bQt _) (by refine⟨_,_,_,1,rfl,?_,?_,?_,?_,?_,by omega,by omega,rfl⟩<;>simp only[go_sem]) ?_
 rintro k st hk ⟨fr,en,cnt,a,rfl,h1',h5,h9,h10,h11,ha,hb,hI⟩
 simp only[go_sem,kK,h10,h11]
 refine aH (fun hc=>?_) (fun hc=>?_)
 ·have h':k<q.parts.length:=D_o hc;rw[bRt h',lS]at hI;have hm:q.parts[k]∈q.parts:=bQr _;simp only[go_sem,kK,h',h1',h5,h9,h11]
  refine aH (fun hd=>?_) (fun hd=>?_)<;>simp only[bT8,bT9]at hd
  ·simp only[go_sem,h5];rw[if_pos hd]at hI;rw[hI]
  ·rw[if_neg hd]at hI;have e1:IntKind.i64.wrap (most-a)=most-a:=aV (by omega)
   have hz:=aJ9 q.parts[k] (most-a) (by omega)
   have e2:IntKind.i64.wrap (a+sN q.parts[k] (most-a))=a+sN q.parts[k] (most-a):=aV (by omega)
   simp only[go_sem,h1',h5,h11,e1,e2,(ih _ hm (hps _ hm) (most-a) (by omega) (by omega)).ret]
   refine⟨_,_,_,a+sN q.parts[k] (most-a),rfl,?_⟩
   simp only[go_sem,h1',h9,h10,aR h' hl];exact⟨by omega,by omega,hI⟩
 ·have:k=q.parts.length:=by simp at hc;omega
  subst this;simp only[go_sem,h5];rw[<-hI];simp[lS]
theorem aB9 (p:aF)(hc:Few p.cons.length): ∀q:Pat,q.few->PC L 289 [.agg p.cs,.agg [.i q.form,.i q.n,.str q.text,.fz (q.parts.map Pat.enc)]] (.bool (rR p.cons q)):=by
 refine Pat.ind fun q ih hq=>?_
 obtain⟨hl,_,hps⟩:=Pat.few_parts hq;have e:=dT hc;have ask:gG L (fun x:Pat=> .agg [.i x.form,.i x.n,.str x.text,.fz (x.parts.map Pat.enc)]) (.fn 289 [.agg p.cs] []) (rR p.cons) q.parts:=by
  refine⟨fun n en hn=>?_,rfl,rfl,rfl,fun x hx en K hK=>?_⟩
  ·obtain⟨m,rfl⟩: ∃m,n=m+4:=⟨n-4,by omega⟩
   simp only[go_sem]
  ·simp only[go_sem,(ih x hx (hps x hx)).ret];exact hK
 rw[aJ5]
 refine pcA func289 ?_
 simp only[go_sem,kK]
 refine aJ (fun h=>?_) (fun h=>?_)
 ·simp only[go_sem,kK,h,(oE q.parts _ _ hl ask).ret];have ht:aGf q.text=true:=by simp only[aGf];simpa using h
  refine aH (fun h2=>?_) (fun h2=>?_)
  ·simp only[go_sem,kK]
   simp at h2
   simp[h2]
  ·have h3:q.parts.all (rR p.cons)=true:=by simpa using h2
   rw[h3];simp only[go_sem,kK]
   repeat' ((first|with_reducible refine aH (fun h=>?_) (fun h=>?_)|with_reducible refine aJ (fun h=>?_) (fun h=>?_))<;>(try simp only[bT8,bT9,bQ0]at h)<;>try simp only[go_sem,kK, *,(lW _ _ _).ret,(zQ _).ret,aGe])
   all_goals try simp[sS,xG, *]
   all_goals try(intros;simp_all;done)
 ·simp only[go_sem,kK,h,bQ5];have ht:aGf q.text=false:=by simp only[aGf];simpa using h
  simp[sS,ht]
end Go.Proofs.YtmafmhjndjmalaaGreat
namespace Go.Abs
def uN (lo hi:Int):List Int->List Int->Option (List Int)
 |u,[]=>some u
 |u,x::l=>if inR x lo hi then uN lo hi (u.set x.toNat (IntKind.i64.wrap (u.getD x.toNat 0+1))) l else none
def kN (p:aF):Nat->List Int->List aK->Option (List Int)
 |_,u,[]=>some u
 |i,u,n::l=>(uN ((i:Int)+1) (p.nodes.length-1) u n.kids).bind fun u=>kN p (i+1) u l
def aAu :Option (List Int)->Bool
 |some u=>u.all fun c=>decide (c=1)
 |none=>false
def yX (p:aF):Bool:=
 decide ((p.nodes.length:Int)<=300)&&decide ((1:Int)<=p.funs.length)&&decide ((p.funs.length:Int)<=p.nodes.length)&&decide ((p.cons.length:Int)<=20)&&inR p.main 0 (p.funs.length-1)&&
  p.cons.all vS&&mE [] (p.cons.map cV.name)&&p.nodes.all (eE p)&&
  aAu ((uN 0 (p.nodes.length-1) (List.replicate p.nodes.length 0) p.funs).bind fun u=>kN p 0 u p.nodes)
def rT (hi:Int):List Bool->List (Int×Int)->Option (List Bool)
 |u,[]=>some u
 |u,(lo,x)::l=>if inR x lo hi&&!(u.getD x.toNat false)then rT hi (u.set x.toNat true) l else none
def qD (hi:Int):List Int->List (Int×Int)->Option (List Int)
 |u,[]=>some u
 |u,(lo,x)::l=>if inR x lo hi then qD hi (u.set x.toNat (IntKind.i64.wrap (u.getD x.toNat 0+1))) l else none
def kT :Nat->List aK->List (Int×Int)
 |_,[]=>[]
 |i,n::l=>n.kids.map (fun k=>((i:Int)+1,k))++kT (i+1) l
theorem aPg (lo hi:Int): ∀(l:List Int) (u:List Bool),aAs lo hi u l=rT hi u (l.map fun x=>(lo,x))
 |[],u=>rfl
 |x::l,u=>by simp only[aAs,bRj,rT];split<;>first|exact aPg lo hi l _|rfl
theorem aPh (lo hi:Int): ∀(l:List Int) (u:List Int),uN lo hi u l=qD hi u (l.map fun x=>(lo,x))
 |[],u=>rfl
 |x::l,u=>by simp only[uN,bRj,qD];split<;>first|exact aPh lo hi l _|rfl
theorem sU (hi:Int): ∀(a b:List (Int×Int)) (u:List Bool),rT hi u (a++b)=(rT hi u a).bind fun u=>rT hi u b
 |[],b,u=>rfl
 |(lo,x)::a,b,u=>by simp only[bS2,rT];split<;>first|exact sU hi a b _|rfl
theorem wL (hi:Int): ∀(a b:List (Int×Int)) (u:List Int),qD hi u (a++b)=(qD hi u a).bind fun u=>qD hi u b
 |[],b,u=>rfl
 |(lo,x)::a,b,u=>by simp only[bS2,qD];split<;>first|exact wL hi a b _|rfl
theorem aEr (p:aF): ∀(l:List aK) (i:Nat) (u:List Int),kN p i u l=qD (p.nodes.length-1) u (kT i l)
 |[],i,u=>rfl
 |n::l,i,u=>by
  simp only[kN,kT,wL,aPh]
  congr 1;funext u;exact aEr p l (i+1) u
theorem vV (p:aF): ∀(l:List aK) (i:Nat) (u:List Bool),kY p i u l=if l.all (eE p)=true then rT (p.nodes.length-1) u (kT i l)else none
 |[],i,u=>rfl
 |n::l,i,u=>by
  simp only[kY,kT,sU,aPg,bSs,bQj]
  by_cases h:eE p n=true
  ·simp only[h,if_true,true_and];have ih:=fun u=>vV p l (i+1) u
   by_cases h2:l.all (eE p)=true
   ·simp only[h2,if_true]at ih⊢
    congr 1;funext u;exact ih u
   ·simp only[h2]at ih⊢;simp only[ih];cases rT (↑p.nodes.length-1) u (List.map (fun k=>(↑i+1,k)) n.kids)<;>rfl
  ·simp only[h];rfl
theorem aKe {hi:Int}: ∀(evs:List (Int×Int)) (u:List Int) (i:Nat) (B:Int),i<u.length->2<=u.getD i 0->(∀c∈u,c<=B)->(∀c∈u,0<=c)->B+evs.length<=9223372036854775807->aAu (qD hi u evs)=false
 |[],u,i,B,h,h2,hB,h0,hM=>by
  simp only[qD,aAu];rw[<-bRu];intro ha;have:=bQp.1 ha u[i] (bQr _);simp only[bQn,bRq h,bRc]at h2
  simp at this;omega
 |(lo,x)::evs,u,i,B,h,h2,hB,h0,hM=>by
  simp only[qD];split
  ·have hx:u.getD x.toNat 0<=B/\ 0<=u.getD x.toNat 0:=by
    rw[bQn];cases hg:u[x.toNat]? with
    |none=>
     have:=hB u[i] (bQr _);have:=h0 u[i] (bQr _)
     simp;omega
    |some c=>have:=List.mem_of_getElem? hg;simp;exact⟨hB c this,h0 c this⟩
   have hw:IntKind.i64.wrap (u.getD x.toNat 0+1)=u.getD x.toNat 0+1:=aV (by simp at hM;omega)
   rw[hw]
   refine aKe evs _ i (B+1) (by simpa using h) ?_ ?_ ?_ (by simp at hM;omega)
   ·rw[bQn,bTb];split
    ·rename_i e;subst e;simp only[h,if_true,bRc];omega
    ·rw[<-bQn];exact h2
   ·intro c hc;rcases bT6 hc with hc|rfl
    ·have:=hB c hc;omega
    ·omega
   ·intro c hc;rcases bT6 hc with hc|rfl
    ·exact h0 c hc
    ·omega
  ·rfl
theorem aUw {u:List Bool}{x:Nat}(h:x<u.length):(u.map fun b=>if b then(1:Int)else 0).getD x 0=if u.getD x false then 1 else 0:=by
 simp[bQn,h]
theorem aUx {hi:Int}(evs:List (Int×Int)): ∀(u:List Bool),(hi:Int)=u.length-1->(∀e∈evs,0<=e.1)->(evs.length:Int)<=1000000->
  yV (rT hi u evs)=aAu (qD hi (u.map fun b=>if b then 1 else 0) evs):=by
 induction evs with
 |nil=>
  intro u _ _ _;simp only[rT,qD,yV,aAu,List.all_map]
  congr 1
  funext b
  cases b<;>rfl
 |cons e evs ih=>
  obtain⟨lo,x⟩:=e;intro u hh hlo hM;simp only[rT,qD];have hl:=hlo (lo,x) (by simp)
  simp only at hl
  have hM':(evs.length:Int)+1<=1000000:=by simpa using hM
  by_cases hx:inR x lo hi=true
  ·have hx':=hx;simp only[inR,bT8]at hx';have hlt:x.toNat<u.length:=by omega
   simp only[hx,bQ9,if_true];rw[aUw hlt];cases hb:u.getD x.toNat false with
   |true=>
    simp only[bQ0,bQm,if_false,if_true,yV]
    symm
    have hw:IntKind.i64.wrap ((1:Int)+1)=2:=by rw[aV (by omega)];rfl
    rw[hw];have hbd: ∀c∈(u.map fun b=>if b then(1:Int)else 0).set x.toNat 2,0<=c/\ c<=2:=by
     intro c hc;rcases bT6 hc with hc|rfl
     ·obtain⟨b,_,rfl⟩:=bRe.1 hc;split<;>omega
     ·omega
    exact aKe evs _ x.toNat 2 (by simpa using hlt) (by simp[bQn,hlt]) (fun c hc=>(hbd c hc).2) (fun c hc=>(hbd c hc).1) (by omega)
   |false=>
    simp only[bQ5,if_true,bQm,if_false];have hw:IntKind.i64.wrap ((0:Int)+1)=1:=by rw[aV (by omega)];rfl
    rw[hw,ih (u.set x.toNat true) (by simpa using hh) (fun e he=>hlo e (by simp[he])) (by omega),bSz]
    rfl
  ·simp only[bRu]at hx;simp only[hx,bQ7,bQm,if_false,yV,aAu]
theorem aKf : ∀(l:List aK) (i:Nat),∀e∈kT i l,0<=e.1
 |[],i,e,h=>by simp[kT]at h
 |n::l,i,e,h=>by
  simp only[kT,bRb,bRe]at h;rcases h with⟨k,_,rfl⟩|h
  ·simp only;omega
  ·exact aKf l (i+1) e h
theorem aHl : ∀(l:List aK) (i:Nat),(∀n∈l,n.kids.length<=10)->(kT i l).length<=10*l.length
 |[],i,_=>by simp[kT]
 |n::l,i,h=>by
  have:=aHl l (i+1) fun m hm=>h m (by simp[hm])
  have h2:=h n (by simp)
  simp only[kT,bQ2,bQl,bQu];omega
theorem aR9 (p:aF)(hs:aS p=true):yX p=eS p:=by
 simp only[aS,bQj,bT8]at hs;obtain⟨⟨⟨⟨h1,h2⟩,h3⟩,h4⟩,h5⟩:=hs;have hk: ∀n∈p.nodes,n.kids.length<=10:=by
  intro n hn;have:=bQp.1 h5 n hn;simp only[fU,bQj,bT8]at this;omega
 have key:p.nodes.all (eE p)=true->yV ((aAs 0 (p.nodes.length-1) (List.replicate p.nodes.length false) p.funs).bind fun u=>kY p 0 u p.nodes)=
   aAu ((uN 0 (p.nodes.length-1) (List.replicate p.nodes.length 0) p.funs).bind fun u=>kN p 0 u p.nodes):=by
  intro hn;simp only[aPg,aPh,vV,aEr,hn,if_true];rw[<-sU,<-wL];have:=aUx (hi:=(p.nodes.length:Int)-1) (List.map (fun x=>((0:Int),x)) p.funs++kT 0 p.nodes) (List.replicate p.nodes.length false) (by simp) (fun e he=>by
   rcases bRb.1 he with he|he
   ·obtain⟨x,_,rfl⟩:=bRe.1 he;simp
   ·exact aKf _ _ _ he) (by
   have:=aHl p.nodes 0 hk
   simp;omega)
  rw[this];simp[List.map_replicate]
 have none_:p.nodes.all (eE p)=false->yV ((aAs 0 (p.nodes.length-1) (List.replicate p.nodes.length false) p.funs).bind fun u=>kY p 0 u p.nodes)=false:=by
  intro hn;simp only[vV,hn,bQm,if_false];cases aAs 0 (↑p.nodes.length-1) (List.replicate p.nodes.length false) p.funs<;>rfl
 have e1:inR p.funs.length 1 p.nodes.length=(decide ((1:Int)<=p.funs.length)&&decide ((p.funs.length:Int)<=p.nodes.length)):=by simp[inR]
 simp only[yX,eS,yU,e1];cases hn:p.nodes.all (eE p)with
 |true=>rw[key hn];simp only[bRy,Bool.and_assoc];ac_rfl
 |false=>rw[none_ hn];simp
end Go.Abs
namespace Go.Proofs.YtmafmhjndjmalaaGreat
open Go.Abs Go.Proofs Tryz
set_option maxRecDepth 100000
set_option maxHeartbeats 4000000
variable {t:Nat}{v:Val}
theorem aPi :cX .eql .iface (.ifc t v) .nili=some (.bool false):=(rfl)
theorem bD7 :cX .eql .iface .nili .nili=some (.bool true):=(rfl)
theorem qE (op:Int):PC L 286 [.i op] (yW op):=by
 refine pcA func286 ?_
 simp only[go_sem,kK]
 repeat' ((first|with_reducible refine aH (fun h=>?_) (fun h=>?_)|with_reducible refine aJ (fun h=>?_) (fun h=>?_))<;>(try simp only[bT8,bT9]at h)<;>try simp only[go_sem,kK,h])
 all_goals simp[yW, *]
theorem aDb (c:Int)(p:aF)(n:aK):PC L 375 [.i c,.agg p.cs,.agg [.i n.op,.i n.n,.fz (n.kids.map (.int .i64)),.fz (n.pats.map Pat.enc)]] (.bool (decide ((n.kids.length:Int)=c))):=by
 refine pcA func375 ?_
 simp only[go_sem,kK]
theorem aAv (p:aF)(n:aK)(hn:n.pats.length<=1000):PC L 374 [.agg [],.agg p.cs,.agg [.i n.op,.i n.n,.fz (n.kids.map (.int .i64)),.fz (n.pats.map Pat.enc)]] (.bool (inR n.pats.length 1 5&&decide ((n.kids.length:Int)=1+n.pats.length))):=by
 have e:IntKind.i64.wrap (1+(n.pats.length:Int))=1+n.pats.length:=aV (by omega)
 refine pcA func374 ?_
 simp only[go_sem,kK,(lW _ _ _).ret]
 refine aJ (fun h=>?_) (fun h=>?_)<;>simp only[go_sem,kK,h,e]<;>simp[h]
theorem aDc (p:aF)(n:aK)(hc:Few p.cons.length):PC L 376 [.agg [],.agg p.cs,.agg [.i n.op,.i n.n,.fz (n.kids.map (.int .i64)),.fz (n.pats.map Pat.enc)]] (.bool (inR n.n 0 (p.cons.length-1)&&decide ((n.kids.length:Int)=(p.cons.getD n.n.toNat default).args))):=by
 refine pcA func376 ?_
 simp only[go_sem,kK,(lW _ _ _).ret,dT hc]
 refine aJ (fun h=>?_) (fun h=>?_)<;>simp only[go_sem,kK,h,aGe]<;>simp[h]
def aUy (p:aF)(n:aK):Bool:=if n.op=14 then true else oD p n
theorem yY (p:aF)(n:aK)(hp:p.few):PC L 290 [.agg p.cs,.agg [.i n.op,.i n.n,.fz (n.kids.map (.int .i64)),.fz (n.pats.map Pat.enc)]] (.bool (aUy p n)):=by
 have e1:IntKind.i64.wrap (0-(p.funs.length:Int))= -(p.funs.length:Int):=by have:=hp.funs;unfold Few at this;rw[aV (by omega)];omega
 refine pcA func290 ?_
 simp only[go_sem,kK]
 repeat' ((first|with_reducible refine aH (fun h=>?_) (fun h=>?_)|with_reducible refine aJ (fun h=>?_) (fun h=>?_))<;>(try simp only[bT8,bT9]at h)<;>try simp only[go_sem,kK,h,e1,(lW _ _ _).ret,(zQ _).ret])
 all_goals simp[aUy,oD, *]
theorem xJ (p:aF)(hc:Few p.cons.length)(q:Pat)(hq:q.few):PC L 287 [.agg [.i q.form,.i q.n,.str q.text,.fz (q.parts.map Pat.enc)],.fp p.cells 0] (.bool (nC p.cons q)):=by
 refine pcA func287 ?_
 simp only[go_sem,kK,(aPf q hq 12 (by omega) (by omega)).ret,bBe]
 refine aJ (fun h=>?_) (fun h=>?_)<;>simp only[go_sem,kK,h,(aB9 p hc q hq).ret]<;>simp at h<;>simp[nC,h]
 intros;omega
theorem aAw (p:aF)(n:aK)(hp:p.few)(hn:n.few)(hm:n.pats.length<=1000):PC L 230 [.agg p.cs,.agg [.i n.op,.i n.n,.fz (n.kids.map (.int .i64)),.fz (n.pats.map Pat.enc)]] (.bool (eE p n)):=by
 have ask:gG L (fun x:Pat=> .agg [.i x.form,.i x.n,.str x.text,.fz (x.parts.map Pat.enc)]) (.fn 287 [] [.fp p.cells 0]) (nC p.cons) n.pats:=by
  refine⟨fun n en hn=>?_,rfl,rfl,rfl,fun x hx en K hK=>?_⟩
  ·obtain⟨m,rfl⟩: ∃m,n=m+4:=⟨n-4,by omega⟩
   simp only[go_sem]
  ·have:=xJ p hp.cons x (hn.pat x hx);simp only[go_sem]at this;simp only[go_sem,this.ret];exact hK
 have hev:=oE n.pats _ _ hn.pats ask;simp only[go_sem]at hev;have hnum:=yY p n hp
 refine pcA func230 ?_
 rcases aMf n.op with⟨c,hk,hko,h14,h15⟩|⟨h14,hk⟩|⟨h15,hk⟩|⟨hk,hko,h14,h15⟩
 ·simp only[go_sem,kK,(qE _).ret,hk,aPi]
  refine aH (fun h=>?_) (fun h=>?_)
  ·simp only[go_sem,kK]
   simp at h
   simp[eE,lR,h15];intros;simp_all
  ·simp only[go_sem,kK,(aDb c p n).ret]
   simp at h
   refine aJ (fun h2=>?_) (fun h2=>?_)
   ·simp only[go_sem,kK,h2,hnum.ret]
    refine aJ (fun h3=>?_) (fun h3=>?_)
    ·simp only[go_sem,kK,h3,hev.ret];simp[aUy,h14]at h2 h3;simp[eE,lR,h15,h,hko,h2,h3]
    ·simp only[go_sem,kK,h3];simp[aUy,h14]at h3;simp[eE,h3]
   ·simp only[go_sem,kK,h2]
    simp at h2
    simp[eE,hko,h2]
 ·simp only[go_sem,kK,(qE _).ret,hk,aPi]
  refine aH (fun h=>?_) (fun h=>?_)
  ·simp only[go_sem,kK]
   simp at h
   simp[eE,lR,h14];intros;simp_all
  ·simp only[go_sem,kK,(aDc p n hp.cons).ret]
   simp at h
   refine aJ (fun h2=>?_) (fun h2=>?_)
   ·simp only[go_sem,kK,h2,hnum.ret]
    refine aJ (fun h3=>?_) (fun h3=>?_)
    ·simp only[go_sem,kK,h3,hev.ret]
     simp at h2
     simp[eE,lR,oD,fD,oX,h14,h,h2]
    ·simp only[go_sem,kK,h3];simp[aUy,h14]at h3
   ·simp only[go_sem,kK,h2]
    simp at h2
    simp[eE,lR,oD,fD,oX,h14,h];intros;simp_all
 ·simp only[go_sem,kK,(qE _).ret,hk,aPi];simp only[go_sem,kK,(aAv p n hm).ret]
  refine aJ (fun h2=>?_) (fun h2=>?_)
  ·simp only[go_sem,kK,h2,hnum.ret]
   refine aJ (fun h3=>?_) (fun h3=>?_)
   ·simp only[go_sem,kK,h3,hev.ret];simp[aUy,h15]at h2 h3;simp[eE,lR,fD,h15,h2,h3]
   ·simp only[go_sem,kK,h3];simp[aUy,h15]at h3;simp[eE,h3]
  ·simp only[go_sem,kK,h2]
   simp at h2
   simp[eE,lR,fD,h15];intros;simp_all
 ·simp only[go_sem,kK,(qE _).ret,hk,bD7];simp[eE,hko]
theorem aKg (l:List ByteArray)(hl:Few l.length):PC L 226 [.fz (l.map .str)] (.bool (mE [] l)):=by
 refine pcA func226 ?_
 simp only[go_sem,kK]
 refine bQ l.length (fun k st=> ∃fr en cnt ks vs,st=⟨fr,en,cnt⟩/\ fr 0= .fz (l.map .str)/\ fr 3= .mp ⟨0,6,0⟩/\ fr 7= .fz (l.map .str)/\ fr 8= .i l.length/\ fr 9= .i k/\ en ⟨0,6,0⟩=some (.map (List.map Val.str ks) vs false)/\ (l.drop k).foldl wK ks=l.foldl wK []) 0 (bQt _) (by refine⟨_,_,_,[],[],rfl,?_,?_,?_,?_,?_,?_,rfl⟩<;>simp only[go_sem]) ?_
 rintro k st hk ⟨fr,en,cnt,ks,vs,rfl,h0,h3,h7,h8,h9,e6,hI⟩
 simp only[go_sem,kK,h8,h9]
 refine aH (fun hq=>?_) (fun hq=>?_)
 ·have h':k<l.length:=D_o hq;rw[bRt h',bSv,wK]at hI;rcases aHj l[k] ks with⟨i,f1,f2,f3⟩|⟨f1,f2⟩
  ·rw[f2]at hI;simp only[go_sem,h',h3,h7,h9,e6,f1,f3]
   refine⟨_,_,_,ks,vs.set i (.bool true),rfl,?_⟩
   simp only[go_sem,h0,h3,h7,h8,aR h' hl]
   simpa using hI
  ·rw[f2]at hI;simp only[go_sem,h',h3,h7,h9,e6,f1]
   refine⟨_,_,_,ks++[l[k]],vs++[.bool true],rfl,?_⟩
   simp only[go_sem,h0,h3,h7,h8,aR h' hl]
   refine⟨by simp,?_⟩
   simpa using hI
 ·have:k=l.length:=by simp at hq;omega
  subst this;simp only[bSh,bS4]at hI;simp only[go_sem,h0,h3,e6];have:=aEp l [];rw[<-this,<-hI];simp
variable {en:En}{size:Nat}{xs:List Val}
theorem aSa {D:List Nat}(h:cR en v size xs D): ∃r ks,snapD 8 en v=some (r,ks)/\ r.wk= .fz xs/\ r.wk1= .fz xs:=by
 obtain⟨r,ks,h1,_,h2,h3,_⟩:=h.snap 7;exact⟨r,ks,h1,h3,h2⟩
theorem aKh (l:List cV)(hl:l.length<=1000):PC L 227 [.fz (l.map cV.enc),.fn 228 [] []] (.fz (l.map fun c=> .str c.name)):=by
 have hf:Few l.length:=by unfold Few;omega
 refine pcA func227 ?_
 simp only[go_sem,kK]
 refine bQ l.length (fun k st=> ∃fr en cnt,st=⟨fr,en,cnt⟩/\ fr 1= .fn 228 [] []/\ fr 8= .fz (l.map cV.enc)/\ fr 9= .i l.length/\ fr 10= .i k/\ cR en (fr 5) 1 ((l.take k).map fun c=> .str c.name) [19]) 0 (bQt _) (by refine⟨_,_,_,rfl,?_,?_,?_,?_,by simp only[go_sem];exact cR.nil _ _⟩<;>simp only[go_sem]) ?_
 rintro k st hk ⟨fr,en,cnt,rfl,h1,h8,h9,h10,h5⟩
 simp only[go_sem,kK,h9,h10]
 refine aH (fun hq=>?_) (fun hq=>?_)
 ·have h':k<l.length:=D_o hq;simp only[go_sem,h',h1,h8,h10,(vE _).ret]
  refine jZ (D:=[19]) (xs:=(l.take k).map fun c=>Val.str c.name) (ys:=[.str l[k].name]) (rs:=[]) ?_ ?_ ?_ ?_ ?_
  ·simp only[go_sem];exact h5.keep fun t g ht=>by simp at ht;subst ht;simp only[go_sem]
  ·simp only[go_sem]
  ·rfl
  ·simp;omega
  ·intro v en' cnt' hown hen hcnt;simp only[go_sem,h10]
   refine⟨_,_,_,rfl,?_⟩
   simp only[go_sem,h1,h8,h9,aR h' hf];exact cR.sub (by rw[gM h',bRl];exact hown) (by simp)
 ·have:k=l.length:=by simp at hq;omega
  subst this;rw[bR1]at h5;simp only[go_sem];obtain⟨r,ks,e1,e2,_⟩:=aSa h5;simp only[go_sem,e1,e2]
variable {n:Nat}
theorem aSb {u:List Int}{x:Int}(hu:u.length=n)(h:inR x 0 ((n:Int)-1)=true):0<=x/\ x<(n:Int)/\ (u.map (Val.int .i64))[x.toNat]?=some (.i (u.getD x.toNat 0)):=by
 simp only[inR,bT8]at h;have hx:x.toNat<u.length:=by omega
 exact⟨by omega,by omega,by simp[bQn,hx]⟩
theorem yZ (p:aF)(hp:p.few)(hs:p.cons.length<=1000)(hm: ∀n∈p.nodes,n.pats.length<=1000):PC L 195 [.agg p.cs] (.bool (yX p)):=by
 have w1:=dT hp.nodes;have w2:=dT hp.funs;have ask1:gG L (fun x:cV=> .agg [.str x.name,.i x.args]) (.fn 225 [] []) vS p.cons:=by
  refine⟨fun n en hn=>?_,rfl,rfl,rfl,fun x hx en K hK=>?_⟩
  ·obtain⟨m,rfl⟩: ∃m,n=m+4:=⟨n-4,by omega⟩
   simp only[go_sem]
  ·simp only[go_sem,(aR8 x).ret];exact hK
 have ask2:gG L (fun x:aK=> .agg [.i x.op,.i x.n,.fz (x.kids.map (.int .i64)),.fz (x.pats.map Pat.enc)]) (.fn 230 [.agg p.cs] []) (eE p) p.nodes:=by
  refine⟨fun n en hn=>?_,rfl,rfl,rfl,fun x hx en K hK=>?_⟩
  ·obtain⟨m,rfl⟩: ∃m,n=m+4:=⟨n-4,by omega⟩
   simp only[go_sem]
  ·simp only[go_sem,(aAw p x hp (hp.node x hx) (hm x hx)).ret];exact hK
 have hd:=aKg (p.cons.map cV.name) (by simpa using hp.cons)
 rw[show(p.cons.map cV.name).map Val.str=p.cons.map fun c=>Val.str c.name by simp]at hd
 refine pcA func195 ?_
 simp only[go_sem,kK]
 repeat' ((first|with_reducible refine aH (fun h=>?_) (fun h=>?_)|with_reducible refine aJ (fun h=>?_) (fun h=>?_))<;>(try simp only[bT8,bT9,bQ5]at h)<;>try simp only[go_sem,kK, *,(lW _ _ _).ret,(vD _ _ _ hp.cons ask1).ret,(aKh _ hs).ret,hd.ret,(uM _ _ _ hp.nodes ask2).ret])
 all_goals (try simp only[bRw,Bool.not_eq_false',bSy]at*)
 all_goals try(simp[yX, *];done)
 all_goals try(simp[yX, *];intros;omega)
 have hn:p.nodes.length<=16777216:=by omega
 have hfo:yX p=aAu ((uN 0 (p.nodes.length-1) (List.replicate p.nodes.length 0) p.funs).bind fun u=>kN p 0 u p.nodes):=by
  simp[yX, *];intros;omega
 rw[hfo];clear hfo;simp only[go_sem,bA1 hn]
 refine bQ p.funs.length (fun k st=> ∃fr en cnt u,st=⟨fr,en,cnt⟩/\ (fr 1= .ptr ⟨0,1,0⟩ 0/\ en ⟨0,1,0⟩=some (.box p.cells false)/\ fr 3= .i p.nodes.length/\ fr 4= .bl ⟨0,74,0⟩ 0 p.nodes.length/\ en ⟨0,74,0⟩=some (.blk 1 (u.map (Val.int .i64)) false)/\ u.length=p.nodes.length)/\ fr 77= .is p.funs/\ fr 78= .i p.funs.length/\ fr 79= .i k/\ uN 0 (p.nodes.length-1) u (p.funs.drop k)=uN 0 (p.nodes.length-1) (List.replicate p.nodes.length 0) p.funs) 0 (bQt _) (by refine⟨_,_,_,List.replicate p.nodes.length 0,rfl,⟨by simp only[go_sem],by simp only[go_sem],by simp only[go_sem],by simp only[go_sem],by simp only[go_sem,List.map_replicate],by simp⟩,?_,?_,?_,rfl⟩<;>simp only[go_sem]) ?_
 rintro k st hk ⟨fr,en,cnt,u,rfl,⟨h1,e1,h3,h4,eu,hu⟩,h77,h78,h79,hI⟩
 simp only[go_sem,kK,h78,h79]
 refine aH (fun hq=>?_) (fun hq=>?_)
 ·have h':k<p.funs.length:=D_o hq;rw[bRt h',uN]at hI;simp only[go_sem,kK,h',h3,h77,h79,(lW _ _ _).ret,w1]
  refine aH (fun hb=>?_) (fun hb=>?_)
  ·simp only[go_sem,kK]
   simp at hb
   rw[hb]at hI
   simp at hI
   rw[<-hI];rfl
  ·simp at hb
   obtain⟨a1,a2,a3⟩:=aSb hu hb;rw[hb]at hI
   simp at hI
   simp only[go_sem,h4,eu,h79,a1,a2,a3]
   refine⟨_,_,_,u.set p.funs[k].toNat (IntKind.i64.wrap (u.getD p.funs[k].toNat 0+1)),rfl,?_⟩
   simp only[go_sem,h1,e1,h3,h4,h77,h78,<-bSz,aR h' hp.funs];exact⟨by simp[hu],by simpa using hI⟩
 ·have:k=p.funs.length:=by simp at hq;omega
  subst this;rw[bSh,uN]at hI;rw[<-hI];simp only[bTe];clear hq hI hk;generalize hM:kN p 0 u p.nodes=M;simp only[go_sem,h1,e1]
  refine bQ p.nodes.length (fun k st=> ∃fr en cnt u,st=⟨fr,en,cnt⟩/\ (fr 1= .ptr ⟨0,1,0⟩ 0/\ en ⟨0,1,0⟩=some (.box p.cells false)/\ fr 3= .i p.nodes.length/\ fr 4= .bl ⟨0,74,0⟩ 0 p.nodes.length/\ en ⟨0,74,0⟩=some (.blk 1 (u.map (Val.int .i64)) false)/\ u.length=p.nodes.length)/\ fr 97= .fz (p.nodes.map aK.enc)/\ fr 98= .i p.nodes.length/\ fr 99= .i k/\ kN p k u (p.nodes.drop k)=M) 0 (bQt _) (by refine⟨_,_,_,u,rfl,⟨by simp only[go_sem,h1],by simp only[go_sem,e1],by simp only[go_sem,h3],by simp only[go_sem,h4],by simp only[go_sem,eu],hu⟩,?_,?_,?_,hM⟩<;>simp only[go_sem]) ?_
  clear hM h1 e1 h3 h4 eu hu h77 h78 h79
  rintro k st hk ⟨fr,en,cnt,u,rfl,⟨h1,e1,h3,h4,eu,hu⟩,h97,h98,h99,hI⟩
  simp only[go_sem,kK,h98,h99]
  refine aH (fun hq=>?_) (fun hq=>?_)
  ·have h':k<p.nodes.length:=D_o hq;have hx:=hp.node p.nodes[k] (bQr _);rw[bRt h',kN]at hI;generalize hmm:uN ((k:Int)+1) (p.nodes.length-1) u p.nodes[k].kids=m at hI;simp only[go_sem,h',h97,h99]
   refine bQ p.nodes[k].kids.length (fun j st=> ∃fr en cnt u,st=⟨fr,en,cnt⟩/\ (fr 1= .ptr ⟨0,1,0⟩ 0/\ en ⟨0,1,0⟩=some (.box p.cells false)/\ fr 3= .i p.nodes.length/\ fr 4= .bl ⟨0,74,0⟩ 0 p.nodes.length/\ en ⟨0,74,0⟩=some (.blk 1 (u.map (Val.int .i64)) false)/\ u.length=p.nodes.length)/\ fr 7= .i k/\ fr 97= .fz (p.nodes.map aK.enc)/\ fr 98= .i p.nodes.length/\ fr 99= .i k/\ fr 105= .is p.nodes[k].kids/\ fr 106= .i p.nodes[k].kids.length/\ fr 107= .i j/\ uN ((k:Int)+1) (p.nodes.length-1) u (p.nodes[k].kids.drop j)=m) 0 (bQt _) ⟨_,_,_,u,rfl,⟨by simp only[go_sem,h1],by simp only[go_sem,e1],by simp only[go_sem,h3],by simp only[go_sem,h4],by simp only[go_sem,eu],hu⟩,by simp only[go_sem],by simp only[go_sem,h97],by simp only[go_sem,h98],by simp only[go_sem,h99],by simp only[go_sem],by simp only[go_sem],by simp only[go_sem],hmm⟩ ?_
   clear hmm h1 e1 h3 h4 eu hu h97 h98 h99
   rintro j st hj ⟨fr,en,cnt,u,rfl,⟨h1,e1,h3,h4,eu,hu⟩,h7,h97,h98,h99,h105,h106,h107,hJ⟩
   simp only[go_sem,kK,h106,h107]
   refine aH (fun h2=>?_) (fun h2=>?_)
   ·have h2':j<p.nodes[k].kids.length:=D_o h2;rw[bRt h2',uN]at hJ;have w3:IntKind.i64.wrap ((k:Int)+1)=(k:Int)+1:=aV (by omega)
    simp only[go_sem,kK,h2',h3,h7,h105,h107,(lW _ _ _).ret,w1,w3]
    refine aH (fun hc=>?_) (fun hc=>?_)
    ·simp only[go_sem,kK]
     simp at hc
     rw[hc]at hJ
     simp at hJ
     rw[<-hI,<-hJ];rfl
    ·simp at hc
     have hc0:inR p.nodes[k].kids[j] 0 ((p.nodes.length:Int)-1)=true:=by simp[inR]at hc⊢;omega
     obtain⟨a1,a2,a3⟩:=aSb hu hc0;rw[hc]at hJ
     simp at hJ
     simp only[go_sem,h4,eu,h107,a1,a2,a3]
     refine⟨_,_,_,u.set p.nodes[k].kids[j].toNat (IntKind.i64.wrap (u.getD p.nodes[k].kids[j].toNat 0+1)),rfl,?_⟩
     simp only[go_sem,h1,e1,h3,h4,h7,h97,h98,h99,h105,h106,<-bSz,aR h2' hx.kids];exact⟨by simp[hu],by simpa using hJ⟩
   ·have:j=p.nodes[k].kids.length:=by simp at h2;omega
    subst this;rw[bSh,uN]at hJ;rw[<-hJ]at hI;simp only[bTe]at hI;simp only[go_sem,h4,eu,h99]
    refine⟨_,_,_,u,rfl,?_⟩
    simp only[go_sem,h1,e1,h3,h4,eu,h97,h98,hu,aR h' hp.nodes];exact hI
  ·have:k=p.nodes.length:=by simp at hq;omega
   subst this;rw[bSh,kN]at hI;rw[<-hI];have ask3:gG L (fun x:Int=> .i x) (.fn 232 [] []) (fun c=>decide (c=1)) u:=by
    refine⟨fun n en hn=>?_,rfl,rfl,rfl,fun x hx en K hK=>?_⟩
    ·obtain⟨m,rfl⟩: ∃m,n=m+4:=⟨n-4,by omega⟩
     simp only[go_sem]
    ·simp only[go_sem,(vF x).ret];exact hK
   have ht:List.take p.nodes.length (u.map (Val.int .i64))=u.map (Val.int .i64):=bQ3 (by simp[hu])
   simp only[go_sem,h4,eu,hu,bQk,ht,(aEq u _ _ (by rw[hu];exact hp.nodes) ask3).ret]
   rfl
theorem wM (p:aF)(hp:p.few)(hs:aS p=true):PC L 165 [.agg p.cs] (.i (if eS p then 0 else 2)):=by
 have hs':=hs;simp only[aS,bQj,bT8]at hs';obtain⟨⟨⟨⟨h1,h2⟩,h3⟩,h4⟩,h5⟩:=hs';have hm: ∀n∈p.nodes,n.pats.length<=1000:=by
  intro n hn;have:=bQp.1 h5 n hn;simp only[fU,bQj,bT8]at this;omega
 have h:=yZ p hp (by omega) hm
 rw[aR9 p hs]at h
 refine pcA func165 ?_
 simp only[go_sem,kK,h.ret];cases hf:eS p<;>simp only[go_sem,kK,bQ0,bQ5]
def aEs (out:List Int)(v:aD):List Int:=if(aHk v&&!out.any (fun x=>decide (x=v.n)))=true then out++[v.n]else out
def aHm (out:List Int)(l:List aD):List Int:=l.foldl aEs out
def bBg (o:aN):List Int:=o.frames.foldl (fun out f=>aHm (aHm out f.env) f.vals) (aHm [] o.vals)
theorem aNg {o:aN}(hs:hZ o=true):o.vals.length<=40/\ o.frames.length<=50/\ ∀f∈o.frames,f.env.length<=40/\ f.vals.length<=40:=by
 simp only[hZ,bQj,bT8,bQp]at hs
 refine⟨by omega,by omega,fun f hf=>?_⟩
 have:=hs.2 f hf;omega
theorem aPj (out:List Int)(v:aD)(x:Int):x∈aEs out v↔x∈out \/(aHk v=true/\ x=v.n):=by
 unfold aEs;split
 ·rename_i h;simp only[bQj]at h;simp[h.1]
 ·rename_i h;constructor
  ·exact .inl
  ·rintro(h2|⟨h2,rfl⟩)
   ·exact h2
   ·rw[h2,bQ9]at h;simp only[bRw,Bool.not_eq_false]at h;obtain⟨y,hy,e⟩:=bTg.1 h;rw[<-D_o e];exact hy
theorem aBw (x:Int): ∀(l:List aD) (out:List Int),x∈aHm out l↔x∈out \/x∈lV l
 |[],out=>by simp[aHm,lV]
 |v::l,out=>by
  have:=aBw x l (aEs out v);simp only[aHm,bSv]at this⊢;rw[this,aPj]
  by_cases h:aHk v=true
  ·rw[aX4 h];simp[h,or_assoc]
  ·rw[aX5 (by simpa using h)];simp[h]
theorem aKi (x:Int): ∀(l:List aB) (out:List Int),x∈l.foldl (fun out f=>aHm (aHm out f.env) f.vals) out↔x∈out \/x∈l.flatMap xI
 |[],out=>by simp
 |f::l,out=>by
  simp only[bSv];rw[aKi x l,aBw,aBw];simp[xI,or_assoc]
theorem aKj (o:aN)(x:Int):x∈bBg o↔x∈aC9 o:=by
 unfold bBg aC9;rw[aKi,aBw];simp
variable {p:aF}{w:aA}
theorem aPk {l:List aD}{m:Int}(h:bA p w l m=true): ∀x∈lV l,inR x 0 (w.objs.length-1)=true:=by
 intro x hx;simp only[bA,bQj,bQp]at h;simp only[lV,bRe,bR6]at hx;obtain⟨v,⟨hv,hr⟩,rfl⟩:=hx;have h5:v.kind=5:=D_o hr;have:=h.2 v hv
 simpa[dJ,h5]using this
theorem aX8 {l:List aB}(h:bS p w l=true): ∀x∈l.flatMap xI,inR x 0 (w.objs.length-1)=true:=by
 intro x hx;simp only[bS,bQj,bQp]at h;obtain⟨f,hf,hx⟩:=bRx.1 hx;have hk:=h.2 f hf;simp only[dF,bQj]at hk;rcases bRb.1 hx with hx|hx
 ·exact aPk hk.1.2 x hx
 ·exact aPk hk.2 x hx
theorem bBh {α:Type}{l:List α}(h:(l.length:Int)=0):l=[]:=by
 cases l with
 |nil=>rfl
 |cons a l=>simp at h;omega
theorem bHu {o:aN}(h:dI p w o=true): ∀x∈aC9 o,inR x 0 (w.objs.length-1)=true:=by
 have key:(∃m,bA p w o.vals m=true \/o.vals=[])/\ (bS p w o.frames=true \/o.frames=[]):=by
  unfold dI at h
  split at h
  ·unfold jQ at h
   split at h
   ·simp only[bQj]at h;exact⟨⟨1,.inl h.1.1.2⟩,.inl h.1.1.1⟩
   split at h
   ·simp only[bQj,bT8]at h;exact⟨⟨1,.inl h.2⟩,.inr (bBh h.1.1)⟩
   split at h
   ·simp only[bQj,bT8]at h;exact⟨⟨1,.inr (bBh h.2)⟩,.inr (bBh h.1)⟩
   ·cases h
  split at h
  ·simp only[bQj,bT8]at h;exact⟨⟨1,.inr (bBh h.1.1.1.1.2)⟩,.inl h.1.1.2⟩
  split at h
  ·cases h
  rename_i hf;have hf0:o.frames=[]:=bBh (Classical.not_not.1 hf)
  split at h
  ·simp only[bQj]at h;exact⟨⟨_,.inl h.2⟩,.inr hf0⟩
  split at h
  ·simp only[bQj]at h;exact⟨⟨_,.inl h.2⟩,.inr hf0⟩
  split at h
  ·simp only[bQj]at h;exact⟨⟨_,.inl h.2⟩,.inr hf0⟩
  split at h
  ·simp only[bQj]at h;exact⟨⟨_,.inl h.2⟩,.inr hf0⟩
  ·cases h
 obtain⟨⟨m,hv⟩,hfr⟩:=key;intro x hx;rcases bRb.1 hx with hx|hx
 ·rcases hv with hv|hv
  ·exact aPk hv x hx
  ·rw[hv]at hx;simp[lV]at hx
 ·rcases hfr with hfr|hfr
  ·exact aX8 hfr x hx
  ·rw[hfr]at hx;simp at hx
theorem bBi (h:dG p w=true): ∀o∈w.objs,∀x∈aC9 o,inR x 0 (w.objs.length-1)=true:=by
 intro o ho;simp only[dG,bQj,bQp]at h;exact bHu (h.1.2 o ho)
theorem rF {k:Nat}(h:k<w.objs.length):w.obj k=w.objs[k]:=by simp[aA.obj,bQn,h]
theorem aSc (h:bM p w=true): ∀o∈w.objs,∀x∈bBg o,inR x 0 (w.objs.length-1)=true:=by
 intro o ho x hx;simp only[bM,bQj]at h;exact bBi h.2 o ho x ((aKj o x).1 hx)
theorem aKk (h:bU w=true): ∀o∈w.objs,hZ o=true:=by
 intro o ho;simp only[bU,bQj,bQp]at h;exact h.2 o ho
variable {Q:St->Prop}{l:List aL}{st:St}
theorem bBj {L:bG}(M:St->Prop)(h:gD L l st M)(k: ∀fr en cnt,M ⟨fr,en,cnt⟩->Q ⟨fr,en,cnt⟩):gD L l st Q:=by
 have: ∀(l:List aL) {st:St} {M Q:St->Prop},gD L l st M->(∀s,M s->Q s)->gD L l st Q:=by
  intro l
  induction l with
  |nil=>intro st M Q h k;exact k _ h
  |cons o l ih=>intro st M Q h k;exact jF h fun s r hs=>ih hs k
 exact this l h fun s hs=>k _ _ _ hs
theorem aDd (l:List Int)(h:Val)(p:Int->Bool)(hc:gG L (fun x:Int=> .i x) h p l)(x:Int)(hx:x∈l):
  PC L 300 [.i x,.fp [h] 0] (.bool (!p x)):=by
 refine pcA func300 ?_
 simp only[go_sem,kK]
 refine hc.call x hx _ _ ?_
 simp only[go_sem]
theorem zR (l:List Int)(h:Val)(p:Int->Bool)(hl:Few l.length)(hc:gG L (fun x:Int=> .i x) h p l):
  PC L 239 [.fz (l.map (.int .i64)),h] (.bool (l.all p)):=by
 refine aUu ?_ (fun _ _=>⟨rfl,rfl⟩) (aDd l h p hc) (fun h p hc=>aR7 l h p hl hc) hc
 have hL:=at_ func239
 conv at hL=>rhs;reduce
 exact hL
theorem aX9 (l:List aD)(h:Val)(p:aD->Bool)(hl:Few l.length)(hc:gG L (fun x:aD=> .agg [.i x.kind,.i x.n]) h p l):
  PC L 295 [.fz (l.map aD.enc),h] (.bool (l.any p)):=by
 refine aKd (sz:=2) (f0:=336) ?_ ?_ (fun _=>rfl) (fun _=>rfl) l h p hl hc
 ·have hL:=at_ func295
  conv at hL=>rhs;reduce
  exact hL
 ·have hL:=at_ func336
  conv at hL=>rhs;reduce
  exact hL
theorem kZ (l:List aD)(h:Val)(p:aD->Bool)(hl:Few l.length)(hc:gG L (fun x:aD=> .agg [.i x.kind,.i x.n]) h p l):
  PC L 235 [.fz (l.map aD.enc),h] (.bool (l.all p)):=by
 refine aDa (sz:=2) (g:=296) hc (fun h p hc=>aX9 l h p hl hc) (fun x _=>⟨rfl,rfl⟩) (fun _=>rfl) ?_ ?_
 ·have hL:=at_ func235
  conv at hL=>rhs;reduce
  exact hL
 ·have hL:=at_ func296
  conv at hL=>rhs;reduce
  exact hL
theorem aSd (l:List aB)(h:Val)(p:aB->Bool)(hl:Few l.length)(hc:gG L (fun x:aB=> .agg [.i x.node,.fz (x.env.map aD.enc),.fz (x.vals.map aD.enc)]) h p l):
  PC L 337 [.fz (l.map aB.enc),h] (.bool (l.any p)):=by
 refine aKd (sz:=3) (f0:=344) ?_ ?_ (fun _=>rfl) (fun _=>rfl) l h p hl hc
 ·have hL:=at_ func337
  conv at hL=>rhs;reduce
  exact hL
 ·have hL:=at_ func344
  conv at hL=>rhs;reduce
  exact hL
theorem oF (l:List aB)(h:Val)(p:aB->Bool)(hl:Few l.length)(hc:gG L (fun x:aB=> .agg [.i x.node,.fz (x.env.map aD.enc),.fz (x.vals.map aD.enc)]) h p l):
  PC L 297 [.fz (l.map aB.enc),h] (.bool (l.all p)):=by
 refine aDa (sz:=3) (g:=338) hc (fun h p hc=>aSd l h p hl hc) (fun x _=>⟨rfl,rfl⟩) (fun _=>rfl) ?_ ?_
 ·have hL:=at_ func297
  conv at hL=>rhs;reduce
  exact hL
 ·have hL:=at_ func338
  conv at hL=>rhs;reduce
  exact hL
theorem aYa (l:List aN)(h:Val)(p:aN->Bool)(hl:Few l.length)(hc:gG L (fun x:aN=> .agg [.i x.form,.i x.n,.fz (x.vals.map aD.enc),.fz (x.frames.map aB.enc)]) h p l):
  PC L 233 [.fz (l.map aN.enc),h] (.bool (l.any p)):=by
 refine aKd (sz:=4) (f0:=294) ?_ ?_ (fun _=>rfl) (fun _=>rfl) l h p hl hc
 ·have hL:=at_ func233
  conv at hL=>rhs;reduce
  exact hL
 ·have hL:=at_ func294
  conv at hL=>rhs;reduce
  exact hL
theorem xK (l:List aN)(h:Val)(p:aN->Bool)(hl:Few l.length)(hc:gG L (fun x:aN=> .agg [.i x.form,.i x.n,.fz (x.vals.map aD.enc),.fz (x.frames.map aB.enc)]) h p l):
  PC L 196 [.fz (l.map aN.enc),h] (.bool (l.all p)):=by
 refine aDa (sz:=4) (g:=234) hc (fun h p hc=>aYa l h p hl hc) (fun x _=>⟨rfl,rfl⟩) (fun _=>rfl) ?_ ?_
 ·have hL:=at_ func196
  conv at hL=>rhs;reduce
  exact hL
 ·have hL:=at_ func234
  conv at hL=>rhs;reduce
  exact hL
theorem aYb (l:List bL)(h:Val)(p:bL->Bool)(hl:Few l.length)(hc:gG L (fun x:bL=> .agg [.i x.port,.i x.n]) h p l):
  PC L 243 [.fz (l.map bL.enc),h] (.bool (l.any p)):=by
 refine aKd (sz:=2) (f0:=303) ?_ ?_ (fun _=>rfl) (fun _=>rfl) l h p hl hc
 ·have hL:=at_ func243
  conv at hL=>rhs;reduce
  exact hL
 ·have hL:=at_ func303
  conv at hL=>rhs;reduce
  exact hL
theorem xL (l:List bL)(h:Val)(p:bL->Bool)(hl:Few l.length)(hc:gG L (fun x:bL=> .agg [.i x.port,.i x.n]) h p l):
  PC L 199 [.fz (l.map bL.enc),h] (.bool (l.all p)):=by
 refine aDa (sz:=2) (g:=244) hc (fun h p hc=>aYb l h p hl hc) (fun x _=>⟨rfl,rfl⟩) (fun _=>rfl) ?_ ?_
 ·have hL:=at_ func199
  conv at hL=>rhs;reduce
  exact hL
 ·have hL:=at_ func244
  conv at hL=>rhs;reduce
  exact hL
theorem jH (n lo hi:Int):PC L 117 [.i n,.i lo,.i hi] (.bool (inR n lo hi)):=by
 refine pcA func117 ?_
 simp only[go_sem,qW]
 refine bC (fun h=>?_) (fun h=>?_)<;>simp only[go_sem,h]<;>simp at h<;>simp[h,inR]
 omega
theorem fO (n:Int):PC L 201 [.i n] (.bool (inR n (-1000000000) 1000000000)):=by
 refine pcA func201 ?_
 simp only[go_sem,kK,(jH _ _ _).ret]
theorem sV (n:aK):PC L 206 [.agg [.i n.op,.i n.n,.fz (n.kids.map (.int .i64)),.fz (n.pats.map Pat.enc)]] (.i n.asks):=by
 refine pcA func206 ?_
 simp only[go_sem,kK]
 repeat' ((first|with_reducible refine aH (fun h=>?_) (fun h=>?_)|with_reducible refine aJ (fun h=>?_) (fun h=>?_))<;>(try simp only[bT8,bT9]at h)<;>try simp only[go_sem,kK,h])
 all_goals simp[aK.asks, *]
theorem aAx (p:aF)(w:aA)(v:aD)(hp:p.few)(hw:w.few):PC L 236 [.fp [.fz (p.nodes.map aK.enc),.fz (p.funs.map (.int .i64)),.i p.main,.fz (p.cons.map cV.enc),.fz (w.objs.map aN.enc),.fz (w.tasks.map (.int .i64)),.fz (w.outs.map bL.enc),.fz (w.ins.map (.int .i64)),.i w.used] 0,.agg [.i v.kind,.i v.n]] (.bool (dJ p w v)):=by
 refine pcA func236 ?_
 simp only[go_sem,kK]
 repeat' ((first|with_reducible refine aH (fun h=>?_) (fun h=>?_)|with_reducible refine aJ (fun h=>?_) (fun h=>?_))<;>(try simp only[bT8,bT9]at h)<;>try simp only[go_sem,kK,h,(jH _ _ _).ret,(fO _).ret,dT hp.funs,dT hw.objs])
 all_goals simp[dJ, *]
theorem aGi (p:aF)(w:aA)(hp:p.few)(hw:w.few)(l:List aD):gG L (fun x:aD=> .agg [.i x.kind,.i x.n]) (.fn 236 [.fp [.fz (p.nodes.map aK.enc),.fz (p.funs.map (.int .i64)),.i p.main,.fz (p.cons.map cV.enc),.fz (w.objs.map aN.enc),.fz (w.tasks.map (.int .i64)),.fz (w.outs.map bL.enc),.fz (w.ins.map (.int .i64)),.i w.used] 0] []) (dJ p w) l:=by
 refine⟨fun n en hn=>?_,rfl,rfl,rfl,fun x hx en K hK=>?_⟩
 ·obtain⟨m,rfl⟩: ∃m,n=m+4:=⟨n-4,by omega⟩
  simp only[go_sem]
 ·simp only[go_sem,(aAx p w x hp hw).ret];exact hK
theorem aKl (l:List Int)(hl:Few l.length):PC L 202 [.is l] (.bool (nJ l 50)):=by
 have ask:gG L (fun x:Int=> .i x) (.fn 201 [] []) (fun n=>inR n (-1000000000) 1000000000) l:=by
  refine⟨fun n en hn=>?_,rfl,rfl,rfl,fun x hx en K hK=>?_⟩
  ·obtain⟨m,rfl⟩: ∃m,n=m+4:=⟨n-4,by omega⟩
   simp only[go_sem]
  ·simp only[go_sem,(fO x).ret];exact hK
 refine pcA func202 ?_
 simp only[go_sem,kK]
 refine aJ (fun h=>?_) (fun h=>?_)
 ·simp only[go_sem,kK,h,(zR l _ _ hl ask).ret]
  simp at h;simp[nJ,h]
 ·simp only[go_sem,kK,h]
  simp at h;simp[nJ];intros;omega
theorem xM (o:bL):PC L 200 [.agg [.i o.port,.i o.n]] (.bool (vL o)):=by
 refine pcA func200 ?_
 simp only[go_sem,kK,(jH _ _ _).ret]
 refine aJ (fun h=>?_) (fun h=>?_)<;>simp only[go_sem,kK,h,(fO _).ret]<;>simp[vL,h]
theorem aAy (p:aF)(w:aA)(f:aB)(hp:p.few)(hw:w.few)(hf:f.few):PC L 298 [.fp [.fz (p.nodes.map aK.enc),.fz (p.funs.map (.int .i64)),.i p.main,.fz (p.cons.map cV.enc),.fz (w.objs.map aN.enc),.fz (w.tasks.map (.int .i64)),.fz (w.outs.map bL.enc),.fz (w.ins.map (.int .i64)),.i w.used] 0,.agg [.i f.node,.fz (f.env.map aD.enc),.fz (f.vals.map aD.enc)]] (.bool (dF p w f)):=by
 refine pcA func298 ?_
 simp only[go_sem,kK];have e:=dT hp.nodes
 try(refine aAo ?_ ?_;· decide)
 simp only[go_sem,kK,e,(jH _ _ _).ret]
 refine aJ (fun h=>?_) (fun h=>?_)
 ·simp only[go_sem,kK,h]
  refine aJ (fun h2=>?_) (fun h2=>?_)
  ·simp only[go_sem,kK,h,h2,bH,(sV _).ret]
   refine aJ (fun h3=>?_) (fun h3=>?_)
   ·simp only[go_sem,kK,h3,(kZ _ _ _ hf.1 (aGi p w hp hw _)).ret]
    refine aJ (fun h4=>?_) (fun h4=>?_)
    ·simp only[go_sem,kK,h4,(kZ _ _ _ hf.2 (aGi p w hp hw _)).ret]
     simp at h2 h3 h4
     simp[dF,bA,h,h2,h3];intros;simp_all
    ·simp only[go_sem,kK,h4]
     simp at h2 h3 h4
     obtain⟨x,hx,hx2⟩:=h4;simp[dF,bA,h,h2,h3];intro hh;rw[hh x hx]at hx2;cases hx2
   ·simp only[go_sem,kK,h3]
    simp at h2 h3
    simp[dF,bA,h,h2];intros;omega
  ·simp only[go_sem,kK,h2]
   simp at h2
   simp[dF,bA,h];intros;omega
 ·simp only[go_sem,kK,h]
  simp at h
  simp[dF,h]
theorem aCa (p:aF)(w:aA)(f:aB)(hn:inR f.node 0 (p.nodes.length-1)=true):PC L 299 [.fp [.fz (p.nodes.map aK.enc),.fz (p.funs.map (.int .i64)),.i p.main,.fz (p.cons.map cV.enc),.fz (w.objs.map aN.enc),.fz (w.tasks.map (.int .i64)),.fz (w.outs.map bL.enc),.fz (w.ins.map (.int .i64)),.i w.used] 0,.agg [.i f.node,.fz (f.env.map aD.enc),.fz (f.vals.map aD.enc)]] (.bool (fI p f)):=by
 refine pcA func299 ?_
 simp only[go_sem,kK]
 refine aAo ?_ ?_
 ·decide
 simp only[go_sem,hn,bH,(sV _).ret];simp[fI]
theorem qX (p:aF)(w:aA)(l:List aB)(m:Nat)(hp:p.few)(hw:w.few)(hl:Few l.length)(hf: ∀f∈l,f.few)(hm:m<=1):
  PC L 237 [.fp [.fz (p.nodes.map aK.enc),.fz (p.funs.map (.int .i64)),.i p.main,.fz (p.cons.map cV.enc),.fz (w.objs.map aN.enc),.fz (w.tasks.map (.int .i64)),.fz (w.outs.map bL.enc),.fz (w.ins.map (.int .i64)),.i w.used] 0,.fz (l.map aB.enc),.i m] (.bool (bS p w l&&(l.take (l.length-m)).all (fI p))):=by
 have ask1:gG L (fun x:aB=> .agg [.i x.node,.fz (x.env.map aD.enc),.fz (x.vals.map aD.enc)]) (.fn 298 [.fp [.fz (p.nodes.map aK.enc),.fz (p.funs.map (.int .i64)),.i p.main,.fz (p.cons.map cV.enc),.fz (w.objs.map aN.enc),.fz (w.tasks.map (.int .i64)),.fz (w.outs.map bL.enc),.fz (w.ins.map (.int .i64)),.i w.used] 0] []) (dF p w) l:=by
  refine⟨fun n en hn=>?_,rfl,rfl,rfl,fun x hx en K hK=>?_⟩
  ·obtain⟨m,rfl⟩: ∃m,n=m+4:=⟨n-4,by omega⟩
   simp only[go_sem]
  ·simp only[go_sem,(aAy p w x hp hw (hf x hx)).ret];exact hK
 refine pcA func237 ?_
 simp only[go_sem,kK]
 refine aJ (fun h=>?_) (fun h=>?_)
 ·simp only[go_sem,kK,h,(oF _ _ _ hl ask1).ret]
  refine aJ (fun h2=>?_) (fun h2=>?_)
  ·have hok:bS p w l=true:=by simp at h h2;simp[bS,h];exact h2
   have ask2:gG L (fun x:aB=> .agg [.i x.node,.fz (x.env.map aD.enc),.fz (x.vals.map aD.enc)]) (.fn 299 [.fp [.fz (p.nodes.map aK.enc),.fz (p.funs.map (.int .i64)),.i p.main,.fz (p.cons.map cV.enc),.fz (w.objs.map aN.enc),.fz (w.tasks.map (.int .i64)),.fz (w.outs.map bL.enc),.fz (w.ins.map (.int .i64)),.i w.used] 0] []) (fI p) (l.take (l.length-m)):=by
    refine⟨fun n en hn=>?_,rfl,rfl,rfl,fun x hx en K hK=>?_⟩
    ·obtain⟨m,rfl⟩: ∃m,n=m+4:=⟨n-4,by omega⟩
     simp only[go_sem]
    ·simp only[go_sem,(aCa p w x (oM hok x (bS8 hx))).ret];exact hK
   have k1:=aEm hok;have e1:IntKind.i64.wrap ((l.length:Int)-m)=(l.length:Int)-m:=aV (by omega)
   have e2:max (0:Int) ((l.length:Int)-m)=((l.length-m:Nat):Int):=by omega
   simp only[go_sem,kK,h2,e1,e2,uI,Nat.sub_le,<-bSc,(oF _ _ _ (aJ1 hl _) ask2).ret];simp[hok]
  ·simp only[go_sem,kK,h2];have:bS p w l=false:=by
    rw[<-bRu];intro hh;simp only[bS,bQj]at hh;rw[hh.2]at h2;simp at h2
   simp[this]
 ·simp only[go_sem,kK,h];have:bS p w l=false:=by simp at h;simp[bS];intros;omega
  simp[this]
def aNh (p:aF)(w:aA)(o:aN):Bool:=
 if o.n=0 then(if(1:Int)<o.vals.length \/((o.frames.length:Int)=0/\ (o.vals.length:Int)=0)then false else bS p w o.frames&&(o.frames.take (o.frames.length-(1-o.vals.length))).all (fI p))
 else if o.n=1 then decide ((o.vals.length:Int)=1)&&decide ((o.frames.length:Int)=0)
 else if o.n=2 \/o.n=3 \/o.n=4 then decide ((o.vals.length:Int)=0)&&decide ((o.frames.length:Int)=0)else false
theorem aCb (p:aF)(w:aA)(o:aN)(hp:p.few)(hw:w.few)(ho:o.few):PC L 238 [.fp [.fz (p.nodes.map aK.enc),.fz (p.funs.map (.int .i64)),.i p.main,.fz (p.cons.map cV.enc),.fz (w.objs.map aN.enc),.fz (w.tasks.map (.int .i64)),.fz (w.outs.map bL.enc),.fz (w.ins.map (.int .i64)),.i w.used] 0,.agg [.i o.form,.i o.n,.fz (o.vals.map aD.enc),.fz (o.frames.map aB.enc)]] (.bool (aNh p w o)):=by
 refine pcA func238 ?_
 simp only[go_sem,kK]
 refine aH (fun h0=>?_) (fun h0=>?_)<;>simp only[bT8,bT9]at h0
 ·simp only[go_sem,kK]
  repeat' ((first|with_reducible refine aH (fun h=>?_) (fun h=>?_)|with_reducible refine aJ (fun h=>?_) (fun h=>?_))<;>(try simp only[bT8,bT9,bQ0,bQ5]at h)<;>try simp only[go_sem,kK, *])
  all_goals try(simp[aNh, *];done)
  all_goals
   have hv:o.vals.length<=1:=by omega
   have e:IntKind.i64.wrap (1-(o.vals.length:Int))=((1-o.vals.length:Nat):Int):=by rw[aV (by omega)];omega
   simp only[go_sem,e,(qX p w o.frames (1-o.vals.length) hp hw ho.2.1 ho.2.2 (by omega)).ret]
   rw[aNh,if_pos h0,if_neg (by omega)]
 ·simp only[go_sem,kK]
  repeat' ((first|with_reducible refine aH (fun h=>?_) (fun h=>?_)|with_reducible refine aJ (fun h=>?_) (fun h=>?_))<;>(try simp only[bT8,bT9,bQ0]at h)<;>try simp only[go_sem,kK,h])
  all_goals simp[aNh, *]
  all_goals (intros;simp_all)
def aKm (p:aF)(w:aA)(o:aN):Bool:=
 if o.form=1 then decide ((o.frames.length:Int)=0)&&inR o.n 0 (p.cons.length-1)&&decide ((o.vals.length:Int)=(p.cons.getD o.n.toNat default).args)
 else if o.form=2 then decide ((o.frames.length:Int)=0)&&inR o.n 0 (p.nodes.length-1)&&decide ((p.node o.n).op=5)&&decide ((o.vals.length:Int)<=30)
 else if o.form=3 then decide ((o.frames.length:Int)=0)&&decide (o.n=0)&&decide ((o.vals.length:Int)=1)
 else if o.form=4 then decide ((o.frames.length:Int)=0)&&decide (o.n=0)&&decide ((o.vals.length:Int)<=4)
 else if o.form=5 then decide (o.n=0)&&decide ((o.vals.length:Int)=0)&&decide ((0:Int)<o.frames.length)&&(bS p w o.frames&&o.frames.all (fI p))&&decide ((p.node (o.frames.headD default).node).op=26)
 else if o.form=6 then aNh p w o else false
def aSe (p:aF)(w:aA)(o:aN):Bool:=o.vals.all (dJ p w)&&aKm p w o
theorem bBk (p:aF)(w:aA)(o:aN)(hc: ∀c∈p.cons,c.args<=3):aSe p w o=dI p w o:=by
 have hargs:inR o.n 0 (p.cons.length-1)=true->(p.cons.getD o.n.toNat default).args<=3:=by
  intro h;simp only[inR,bT8]at h;have:o.n.toNat<p.cons.length:=by omega
  rw[bQn,bRq this];exact hc _ (bQr _)
 have vok: ∀m:Int,(o.vals.length:Int)<=m->bA p w o.vals m=o.vals.all (dJ p w):=by intro m h;simp[bA,h]
 have vno: ∀m:Int,m<(o.vals.length:Int)->bA p w o.vals m=false:=by intro m h;simp[bA];intros;omega
 generalize hV:o.vals.all (dJ p w)=V at vok;have nilV:o.vals.length=0->V=true:=by intro h;rw[<-hV,bT2.1 h];rfl
 simp only[aSe,dI,hV]
 by_cases h6:o.form=6
 ·simp only[h6,if_true,aKm,jQ,aNh];simp only[show¬(6:Int)=1 by decide,show¬(6:Int)=2 by decide,show¬(6:Int)=3 by decide,show¬(6:Int)=4 by decide,show¬(6:Int)=5 by decide,if_false]
  by_cases h0:o.n=0
  ·simp only[h0,if_true]
   by_cases h1:(1:Int)<o.vals.length
   ·simp[h1,vno 1 h1]
   ·rw[vok 1 (by omega)]
    by_cases h2:(o.frames.length:Int)=0/\ (o.vals.length:Int)=0
    ·simp only[h2];simp[]
    ·rw[if_neg (by omega)]
     have:(0:Int)<o.frames.length+o.vals.length:=by omega
     have e:o.frames.length-(1-o.vals.length)=o.frames.length+o.vals.length-1:=by omega
     simp only[this,decide_true,e];cases V<;>cases bS p w o.frames<;>simp
  ·simp only[h0,if_false]
   by_cases h1:o.n=1
   ·simp only[h1,if_true]
    by_cases hl:(o.vals.length:Int)=1
    ·rw[vok 1 (by omega)];simp only[hl,decide_true,bQ9,bRy];cases V<;>simp
    ·simp only[hl,decide_false,bRp,bQ7]
   ·simp only[h1,if_false];split
    ·by_cases hl:(o.vals.length:Int)=0
     ·have:=nilV (by omega);simp only[this,hl,decide_true,bQ9,bRy]
     ·simp only[hl,decide_false,bRp,bQ7]
    ·simp
 ·simp only[h6,if_false,aKm]
  by_cases h5:o.form=5
  ·simp only[h5,if_true];simp only[show¬(5:Int)=1 by decide,show¬(5:Int)=2 by decide,show¬(5:Int)=3 by decide,show¬(5:Int)=4 by decide,if_false]
   by_cases hl:(o.vals.length:Int)=0
   ·have:=nilV (by omega)
    simp only[this,bQ9,Bool.and_assoc]
   ·simp only[hl,decide_false,bRp,bQ7]
  ·simp only[h5,if_false]
   by_cases hf:(o.frames.length:Int)=0
   ·simp only[hf,not_true,if_false,decide_true,bQ9]
    by_cases h1:o.form=1
    ·simp only[h1,if_true];cases hin:inR o.n 0 (p.cons.length-1)with
     |false=>simp
     |true=>
      have ha:=hargs hin
      by_cases hl:(o.vals.length:Int)=(p.cons.getD o.n.toNat default).args
      ·rw[vok 3 (by omega)];simp only[hl,decide_true,bQ9,bRy]
      ·simp only[hl,decide_false,bRp,bQ7]
    ·simp only[h1,if_false]
     by_cases h2:o.form=2
     ·simp only[h2,if_true]
      by_cases hl:(o.vals.length:Int)<=30
      ·rw[vok 30 hl];simp only[hl,decide_true,bRy];ac_rfl
      ·rw[vno 30 (by omega)];simp only[hl,decide_false,bRp]
     ·simp only[h2,if_false]
      by_cases h3:o.form=3
      ·simp only[h3,if_true]
       by_cases hl:(o.vals.length:Int)=1
       ·rw[vok 1 (by omega)];simp only[hl,decide_true,bRy];ac_rfl
       ·simp only[hl,decide_false,bRp,bQ7]
      ·simp only[h3,if_false]
       by_cases h4:o.form=4
       ·simp only[h4,if_true]
        by_cases hl:(o.vals.length:Int)<=4
        ·rw[vok 4 hl];simp only[hl,decide_true,bRy];ac_rfl
        ·rw[vno 4 (by omega)];simp only[hl,decide_false,bRp]
       ·simp only[h4,if_false,bRp]
   ·simp only[hf,not_false_eq_true,if_true,decide_false,bQ7]
    repeat' split
    all_goals simp
theorem zV (p:aF)(w:aA)(o:aN)(hp:p.few)(hw:w.few)(ho:o.few):PC L 197 [.fp [.fz (p.nodes.map aK.enc),.fz (p.funs.map (.int .i64)),.i p.main,.fz (p.cons.map cV.enc),.fz (w.objs.map aN.enc),.fz (w.tasks.map (.int .i64)),.fz (w.outs.map bL.enc),.fz (w.ins.map (.int .i64)),.i w.used] 0,.agg [.i o.form,.i o.n,.fz (o.vals.map aD.enc),.fz (o.frames.map aB.enc)]] (.bool (aSe p w o)):=by
 refine pcA func197 ?_
 simp only[go_sem,kK,(kZ _ _ _ ho.1 (aGi p w hp hw _)).ret]
 refine aH (fun hv=>?_) (fun hv=>?_)
 ·have hv':o.vals.all (dJ p w)=false:=by rw[<-bRw];exact hv
  simp only[go_sem,kK];rw[aSe,hv'];rfl
 ·have hv':o.vals.all (dJ p w)=true:=by simpa using hv
  rw[aSe,hv',bQ9];clear hv hv';simp only[go_sem,kK];have hfr:=qX p w o.frames 0 hp hw ho.2.1 ho.2.2 (by omega)
  simp only[Nat.sub_zero,bR1,Int.natCast_zero]at hfr
  repeat' ((first|with_reducible refine aH (fun h=>?_) (fun h=>?_)|with_reducible refine aJ (fun h=>?_) (fun h=>?_))<;>(try simp only[bT8,bT9,bQ0]at h)<;>try simp only[go_sem,kK, *,(jH _ _ _).ret,dT hp.nodes,dT hp.cons,bH,aGe,hfr.ret])
  all_goals try(simp[aKm, *];done)
  all_goals try(simp[aKm, *];intros;simp_all;done)
  ·rename_i g1 g2 g3 g4 g5 g6 g7 g8;have hpos:0<o.frames.length:=by omega
   have h2:=h;simp only[bQj]at h2;have hn:inR (o.frames.headD default).node 0 (p.nodes.length-1)=true:=oM h2.1 _ (by cases hh:o.frames with|nil=>simp[hh]at hpos|cons a l=>simp)
   simp only[go_sem,kK,aNc hpos,hn,bH];simp only[aKm,g5,g6,g7,h];simp[*]
  ·rename_i g1 g2 g3 g4 g5;have ht:=aCb p w o hp hw ho;rw[h]at ht;simp only[go_sem,ht.ret];simp only[aKm,h,if_true];simp
theorem aH7 (n:Nat):PC L 241 [.i n] (.fn 302 [] [.fp [.i n] 0]):=by
 refine pcA func241 ?_
 simp only[go_sem,kK]
theorem aUz (n:Nat)(hn:n<=1000):PC L 240 [.fn 302 [] [.fp [.i n] 0]] (.fz ((List.range n).map fun(i:Nat)=> .i i)):=by
 have hf:Few n:=by unfold Few;omega
 refine pcA func240 ?_
 simp only[go_sem,kK]
 refine gR func301 ?_
 simp only[go_sem,kK,yS (v:= .cl []) rfl rfl]
 refine uJ (f:=302) (x:=[]) (y:=[.fp [.i n] 0]) ?_ ?_
 ·simp only[go_sem]
 intro fr0 key hfr0 hkey;have h2:fr0 2= .ptr ⟨0,2,0⟩ 0:=by rw[hfr0];simp only[go_sem]
 have hk1:key=⟨1,0,0⟩:=by rw[hkey];rfl
 subst hk1;clear hkey hfr0
 refine gR func302 ?_
 simp only[go_sem,kK]
 refine bQ n (fun k st=> ∃fr en cnt v,st=⟨fr,en,cnt⟩/\ fr 0= .yld ⟨1,0,0⟩/\ fr 4= .i n/\ fr 5= .i k/\ en ⟨1,0,0⟩=some (.loop fr0 [7] (.ops [o 5 (.mv (.t 7))]) (.block 1 (.ops [o 8 (.load false 1 (.t 2)),o 9 (.mv (.t 5)),o 10 (.bslice 1 1 [(.i 0)] [(0,(.t 9))]),o 11 (.append 1 (.t 8) (.t 10)),on (.store 1 (.t 2) (.t 11))])) .ready)/\ en ⟨0,2,0⟩=some (.box [v] false)/\ cR en v 1 ((List.range k).map fun(i:Nat)=> .i i) [11]) 0 (bQt _) (by refine⟨_,_,_,.cl [],rfl,?_,?_,?_,?_,?_,cR.nil _ _⟩<;>simp only[go_sem]) ?_
 rintro k st hk ⟨fr,en,cnt,v,rfl,h0,h4,h5,e1,e2,hm⟩
 simp only[go_sem,kK,h4,h5]
 refine aH (fun hq=>?_) (fun hq=>?_)
 ·have h':k<n:=D_o hq;simp only[go_sem,h',h0,h5]
  refine aIg (fr:=fr0) (ps:=[7]) (a:=(.ops [o 5 (.mv (.t 7))])) (b:=(.block 1 (.ops [o 8 (.load false 1 (.t 2)),o 9 (.mv (.t 5)),o 10 (.bslice 1 1 [(.i 0)] [(0,(.t 9))]),o 11 (.append 1 (.t 8) (.t 10)),on (.store 1 (.t 2) (.t 11))]))) e1 rfl ?_
  simp only[go_sem,kK,h2,e1,e2]
  refine jZ (D:=[11]) (xs:=(List.range k).map fun(i:Nat)=>Val.int .i64 i) (ys:=[.i k]) (rs:=[]) ?_ ?_ ?_ ?_ ?_
  ·simp only[go_sem];exact hm.keep fun t g ht=>by simp at ht;subst ht;simp only[go_sem]
  ·simp only[go_sem]
  ·rfl
  ·simp;omega
  ·intro v' en' cnt' hown hen hcnt;obtain⟨s1,s2⟩:=hown.shape;have k1:en' ⟨1,0,0⟩=some (.loop fr0 [7] (.ops [o 5 (.mv (.t 7))]) (.block 1 (.ops [o 8 (.load false 1 (.t 2)),o 9 (.mv (.t 5)),o 10 (.bslice 1 1 [(.i 0)] [(0,(.t 9))]),o 11 (.append 1 (.t 8) (.t 10)),on (.store 1 (.t 2) (.t 11))])) .busy):=by rw[hen 1 0 0 (.inl (by decide))];simp only[go_sem]
   have k2:en' ⟨0,2,0⟩=some (.box [v] false):=by rw[hen 0 2 0 (.inr ⟨by decide,by simp⟩)];simp only[go_sem,e2]
   simp only[go_sem,h2,s1,s2,k1,k2];simp only[go_sem,h5]
   refine⟨_,_,_,v',rfl,?_⟩
   simp only[go_sem,h0,h4,aR h' hf]
   refine cR.sub (D:=[11,11]) (cR.keep (en:=en') ?_ ?_) (by simp)
   ·rw[bRl];exact hown
   ·intro t g ht;simp at ht;subst ht;simp only[go_sem]
 ·have:k=n:=by simp at hq;omega
  subst this;simp only[go_sem,e1];obtain⟨r,ks,s1,s2,_⟩:=aSa (hm.keep (en':=en.set ⟨1,0,0⟩ none) fun t g ht=>by simp at ht;subst ht;simp only[go_sem])
  simp only[go_sem,e2,s1,s2]
theorem aAz (n:Int): ∀ks:List Int,(∃i,findKey .num (.i n) (ks.map (.int .i64))=some (some i)/\ (ks.any fun x=>decide (x=n))=true/\ (ks.map (Val.int .i64)).set i (.i n)=ks.map (.int .i64)/\ i<ks.length) \/
  (findKey .num (.i n) (ks.map (.int .i64))=some none/\ (ks.any fun x=>decide (x=n))=false)
 |[]=> .inr ⟨rfl,rfl⟩
 |x::ks=>by
  have he:pE .num (.i n) (.i x)=some (n==x):=by simp[pE]
  by_cases h:n=x
  ·subst h
   refine .inl ⟨0,?_,by simp,by simp,by simp⟩
   simp only[bRj,findKey,he,beq_self_eq_true]
  ·have hb:(n==x)=false:=by simpa using h
   have hx:decide (x=n)=false:=by simp;exact fun e=>h e.symm
   rcases aAz n ks with⟨i,h1,h2,h3,h4⟩|⟨h1,h2⟩
   ·refine .inl ⟨i+1,?_,?_,by simp[h3],by simp;exact h4⟩
    ·simp only[bRj,findKey,he,hb,h1]
    ·simp only[List.any_cons,hx,bRf];exact h2
   ·refine .inr ⟨?_,?_⟩
    ·simp only[bRj,findKey,he,hb,h1]
    ·simp only[List.any_cons,hx,bRf];exact h2
theorem aNi (n:Int)(ks:List Int):aC6 .num (.bool false) false (.i n) (ks.map (.int .i64)) (ks.map fun _=> .bool true)=some (.bool (ks.any fun x=>decide (x=n))):=by
 unfold aC6;rcases aAz n ks with⟨i,h1,h2,_,h4⟩|⟨h1,h2⟩
 ·simp[h1,h2,bQn,h4]
 ·simp[h1,h2]
def aIh (w:aA)(ks:List Int):Bool:=(List.range w.objs.length).all fun i=>(ks.any fun x=>decide (x=(i:Int)))||!dC (w.obj i)
def aA0 (w:aA):Bool:=bK w [] w.tasks&&aIh w w.tasks
theorem xN (p:aF)(w:aA)(ks:List Int)(i:Nat)(hi:i<w.objs.length):
  PC L 242 [.i i,.fp [.fm (ks.map (.int .i64)) (ks.map fun _=> .bool true)] 0,.fp [.fp [.fz (p.nodes.map aK.enc),.fz (p.funs.map (.int .i64)),.i p.main,.fz (p.cons.map cV.enc),.fz (w.objs.map aN.enc),.fz (w.tasks.map (.int .i64)),.fz (w.outs.map bL.enc),.fz (w.ins.map (.int .i64)),.i w.used] 0] 0] (.bool ((ks.any fun x=>decide (x=(i:Int)))||!dC (w.obj i))):=by
 have hin:inR (i:Int) 0 (w.objs.length-1)=true:=by simp[inR];omega
 refine pcA func242 ?_
 simp only[go_sem,kK,aNi]
 refine aJ (fun h=>?_) (fun h=>?_)
 ·simp only[go_sem,kK,h,yT,hin];simp[dC]
 ·simp only[go_sem,kK,h,bQ5];simp
variable {k:Key}
theorem bBl :Val.one (.mp k)=true:=(rfl)
theorem aSf :Val.cells (.mp k)=[.mp k]:=(rfl)
theorem bGa :snapD (n+1) en (.mp k)=(match en k with
   |some (.map ks vs _)=>some (.fm ks vs,[k])
   |_=>none):=(rfl)
theorem aA1 (p:aF)(w:aA)(hw:w.few)(hn:w.objs.length<=1000):PC L 198 [.fp [.fz (p.nodes.map aK.enc),.fz (p.funs.map (.int .i64)),.i p.main,.fz (p.cons.map cV.enc),.fz (w.objs.map aN.enc),.fz (w.tasks.map (.int .i64)),.fz (w.outs.map bL.enc),.fz (w.ins.map (.int .i64)),.i w.used] 0] (.bool (aA0 w)):=by
 have e:=dT hw.objs
 refine pcA func198 ?_
 simp only[go_sem,kK,yS (v:= .fp [.fz (p.nodes.map aK.enc),.fz (p.funs.map (.int .i64)),.i p.main,.fz (p.cons.map cV.enc),.fz (w.objs.map aN.enc),.fz (w.tasks.map (.int .i64)),.fz (w.outs.map bL.enc),.fz (w.ins.map (.int .i64)),.i w.used] 0) rfl rfl,bBl,aSf]
 refine bQ w.tasks.length (fun k st=> ∃fr en cnt,st=⟨fr,en,cnt⟩/\ fr 1= .ptr ⟨0,1,0⟩ 0/\ en ⟨0,1,0⟩=some (.box [.fp [.fz (p.nodes.map aK.enc),.fz (p.funs.map (.int .i64)),.i p.main,.fz (p.cons.map cV.enc),.fz (w.objs.map aN.enc),.fz (w.tasks.map (.int .i64)),.fz (w.outs.map bL.enc),.fz (w.ins.map (.int .i64)),.i w.used] 0] false)/\ fr 3= .ptr ⟨0,3,0⟩ 0/\ en ⟨0,3,0⟩=some (.box [.mp ⟨0,6,0⟩] false)/\
  en ⟨0,6,0⟩=some (.map ((w.tasks.take k).map (.int .i64)) ((w.tasks.take k).map fun _=> .bool true) false)/\ fr 11= .is w.tasks/\ fr 12= .i w.tasks.length/\ fr 13= .i k/\ bK w (w.tasks.take k) (w.tasks.drop k)=bK w [] w.tasks) 0 (bQt _)
  (by refine⟨_,_,_,rfl,?_,?_,?_,?_,?_,?_,?_,?_,rfl⟩<;>simp only[go_sem]) ?_
 rintro k st hk ⟨fr,en,cnt,rfl,h1,e1,h3,e3,e6,h11,h12,h13,hI⟩
 simp only[go_sem,kK,h12,h13]
 refine aH (fun hq=>?_) (fun hq=>?_)
 ·have h':k<w.tasks.length:=D_o hq;rw[bRt h',bK]at hI;simp only[go_sem,kK,h',h1,e1,h11,h13,(jH _ _ _).ret,e]
  refine aJ (fun hb=>?_) (fun hb=>?_)
  ·simp at hb
   simp only[go_sem,kK,hb,bQ0,h1,e1,yT]
   refine aJ (fun hc=>?_) (fun hc=>?_)
   ·have hc':dC (w.obj w.tasks[k])=true:=by simpa[dC]using hc
    simp only[go_sem,kK,hc,h3,e3,e6,aNi]
    refine aH (fun hd=>?_) (fun hd=>?_)
    ·simp only[go_sem,kK];rw[hb,hc',hd]at hI;rw[aA0,<-hI];rfl
    ·rw[hb,hc',hd]at hI;simp only[bQ5,bQ9]at hI;rcases aAz w.tasks[k] (w.tasks.take k)with⟨i,f1,f2,_⟩|⟨f1,_⟩
     ·rw[hd]at f2;cases f2
     ·simp only[go_sem,h3,e3,e6,h13,f1]
      refine⟨_,_,_,rfl,?_⟩
      simp only[go_sem,h1,e1,h3,e3,h11,h12,gM h',bRl,aR h' hw.tasks];exact hI
   ·have hc':dC (w.obj w.tasks[k])=false:=by simp at hc;simp[dC,hc]
    simp only[go_sem,kK,hc];rw[hb,hc']at hI;rw[aA0,<-hI];rfl
  ·simp at hb
   simp only[go_sem,kK,hb,bQ5];rw[hb]at hI;rw[aA0,<-hI];rfl
 ·have:k=w.tasks.length:=by simp at hq;omega
  subst this;rw[bR1]at e6 hI;rw[bSh,bK]at hI;have hp: ∀i:Nat,i<w.objs.length->PC L 242 [.i i,.fp [.fm (w.tasks.map (.int .i64)) (w.tasks.map fun _=> .bool true)] 0,.fp [.fp [.fz (p.nodes.map aK.enc),.fz (p.funs.map (.int .i64)),.i p.main,.fz (p.cons.map cV.enc),.fz (w.objs.map aN.enc),.fz (w.tasks.map (.int .i64)),.fz (w.outs.map bL.enc),.fz (w.ins.map (.int .i64)),.i w.used] 0] 0] (.bool ((w.tasks.any fun x=>decide (x=(i:Int)))||!dC (w.obj i))):=fun i hi=>xN p w w.tasks i hi
  have ask:gG L (fun x:Int=> .i x) (.fn 242 [] [.fp [.fm (w.tasks.map (.int .i64)) (w.tasks.map fun _=> .bool true)] 0,.fp [.fp [.fz (p.nodes.map aK.enc),.fz (p.funs.map (.int .i64)),.i p.main,.fz (p.cons.map cV.enc),.fz (w.objs.map aN.enc),.fz (w.tasks.map (.int .i64)),.fz (w.outs.map bL.enc),.fz (w.ins.map (.int .i64)),.i w.used] 0] 0]) (fun j=>(w.tasks.any fun x=>decide (x=j))||!dC (w.obj j)) ((List.range w.objs.length).map fun(i:Nat)=>(i:Int)):=by
   refine⟨fun n en hn=>?_,rfl,rfl,rfl,fun x hx en K hK=>?_⟩
   ·obtain⟨m,rfl⟩: ∃m,n=m+4:=⟨n-4,by omega⟩
    simp only[go_sem]
   ·obtain⟨i,hi,rfl⟩:=bRe.1 hx;simp only[go_sem,(hp i (by simpa using hi)).ret]
    exact hK
  have hall:=zR _ _ _ (by simpa using hw.objs) ask
  have he:List.map (Val.int .i64) ((List.range w.objs.length).map fun(i:Nat)=>(i:Int))=(List.range w.objs.length).map fun(i:Nat)=>Val.int .i64 i:=by simp
  rw[he]at hall;simp only[go_sem,h1,e1,h3,e3,e6,(aH7 _).ret,(aUz _ hn).ret,bGa,hall.ret];rw[aA0,<-hI,bQ9,aIh,List.all_map];rfl
theorem aEt : ∀(l N:List Nat),l.Nodup->(∀x∈l,x∈N)->l.length<=N.length
 |[],N,_,_=>bQt _
 |x::l,N,hn,hs=>by
  have hx:x∈N:=hs x (by simp)
  rw[List.nodup_cons]at hn;have:=aEt l (N.erase x) hn.2 fun y hy=>by
   rw[List.mem_erase_of_ne (by rintro rfl;exact hn.1 hy)]
   exact hs y (by simp[hy])
  rw[List.length_erase_of_mem hx]at this;have:=List.length_pos_of_mem hx;simp only[bQu];omega
def uO (w:aA):List Nat:=(List.range w.objs.length).filter fun(i:Nat)=>dC (w.obj (i:Int))
theorem zA (w:aA):(uO w).length=w.objs.countP dC:=by
 have h:w.objs=(List.range w.objs.length).map fun(i:Nat)=>w.obj (i:Int):=by
  refine List.ext_getElem (by simp) fun i h1 h2=>?_
  simp[aA.obj,bQn,h1]
 conv=>rhs;rw[h,List.countP_map]
 rw[uO,List.countP_eq_length_filter];rfl
theorem nL (w:aA): ∀(l met:List Int),bK w met l=true->(∀x∈l,inR x 0 (w.objs.length-1)=true/\ dC (w.obj x)=true)/\ (l.map Int.toNat).Nodup/\ ∀x∈l,x∉met
 |[],met,_=>by simp
 |x::l,met,h=>by
  simp only[bK,bQj]at h;obtain⟨⟨⟨h1,h2⟩,h3⟩,h4⟩:=h;obtain⟨k1,k2,k3⟩:=nL w l (met++[x]) h4;have hxm:x∉met:=by
   intro hm;simp only[bRw,List.any_eq_false]at h3;exact absurd (h3 x hm) (by simp)
  refine⟨fun y hy=>?_,?_,fun y hy=>?_⟩
  ·rcases bRm.1 hy with rfl|hy
   ·exact⟨h1,h2⟩
   ·exact k1 y hy
  ·rw[bRj,List.nodup_cons]
   refine⟨fun hm=>?_,k2⟩
   obtain⟨y,hy,he⟩:=bRe.1 hm;have a:=(k1 y hy).1;simp only[inR,bT8]at a h1;have:y=x:=by omega
   subst this;exact k3 y hy (by simp)
  ·rcases bRm.1 hy with rfl|hy
   ·exact hxm
   ·exact fun hm=>k3 y hy (by simp[hm])
theorem aU0 (w:aA):aA0 w=gJ w:=by
 unfold aA0 gJ;cases hd:bK w [] w.tasks with
 |false=>simp
 |true=>
  obtain⟨k1,k2,_⟩:=nL w _ _ hd;have hsub: ∀x∈w.tasks.map Int.toNat,x∈uO w:=by
   intro x hx;obtain⟨y,hy,rfl⟩:=bRe.1 hx;obtain⟨a,b⟩:=k1 y hy;have a':=a;simp only[inR,bT8]at a'
   refine bR6.2 ⟨bRi.2 (by omega),?_⟩
   rw[bT0 a'.1];exact b
  have hle:=aEt _ _ k2 hsub;rw[zA,bQl]at hle;simp only[bQ9,bRy];have hcov:aIh w w.tasks=true↔ ∀x∈uO w,x∈w.tasks.map Int.toNat:=by
   simp only[aIh,bQp,bRi,bRr,bRw,uO,bR6,bTg,bT8];constructor
   ·rintro h x ⟨hx,ht⟩
    rcases h x hx with⟨y,hy,he⟩|hf
    ·exact bRe.2 ⟨y,hy,by omega⟩
    ·rw[ht]at hf;cases hf
   ·intro h x hx;cases ht:dC (w.obj (x:Int))with
    |false=>exact .inr rfl
    |true=>
     obtain⟨y,hy,he⟩:=bRe.1 (h x ⟨hx,ht⟩);have a:=(k1 y hy).1;simp only[inR,bT8]at a;exact .inl ⟨y,hy,by omega⟩
  rw[bSw,hcov,bT8];constructor
  ·intro h;have hN:(uO w).Nodup:=List.Pairwise.filter _ List.nodup_range;have:=aEt _ _ hN h;rw[zA,bQl]at this;omega
  ·intro he x hx
   by_cases hm:x∈w.tasks.map Int.toNat
   ·exact hm
   ·exfalso
    have:=aEt (x::w.tasks.map Int.toNat) (uO w) (List.nodup_cons.2 ⟨hm,k2⟩) fun y hy=>by
     rcases bRm.1 hy with rfl|hy
     ·exact hx
     ·exact hsub y hy
    rw[zA,bQu,bQl]at this;omega
def wN (p:aF)(w:aA):Bool:=
 decide ((w.objs.length:Int)<=120)&&w.objs.all (aSe p w)&&aA0 w&&decide ((w.outs.length:Int)<=100)&&w.outs.all vL&&nJ w.ins 50&&inR w.used 0 1000000000
theorem rU (p:aF)(w:aA)(hp:p.few)(hw:w.few):PC L 166 [.fp [.fz (p.nodes.map aK.enc),.fz (p.funs.map (.int .i64)),.i p.main,.fz (p.cons.map cV.enc),.fz (w.objs.map aN.enc),.fz (w.tasks.map (.int .i64)),.fz (w.outs.map bL.enc),.fz (w.ins.map (.int .i64)),.i w.used] 0] (.bool (wN p w)):=by
 have ask:gG L (fun x:aN=> .agg [.i x.form,.i x.n,.fz (x.vals.map aD.enc),.fz (x.frames.map aB.enc)]) (.fn 197 [.fp [.fz (p.nodes.map aK.enc),.fz (p.funs.map (.int .i64)),.i p.main,.fz (p.cons.map cV.enc),.fz (w.objs.map aN.enc),.fz (w.tasks.map (.int .i64)),.fz (w.outs.map bL.enc),.fz (w.ins.map (.int .i64)),.i w.used] 0] []) (aSe p w) w.objs:=by
  refine⟨fun n en hn=>?_,rfl,rfl,rfl,fun x hx en K hK=>?_⟩
  ·obtain⟨m,rfl⟩: ∃m,n=m+4:=⟨n-4,by omega⟩
   simp only[go_sem]
  ·simp only[go_sem,(zV p w x hp hw (hw.obj x hx)).ret];exact hK
 have ask2:gG L (fun x:bL=> .agg [.i x.port,.i x.n]) (.fn 200 [] []) vL w.outs:=by
  refine⟨fun n en hn=>?_,rfl,rfl,rfl,fun x hx en K hK=>?_⟩
  ·obtain⟨m,rfl⟩: ∃m,n=m+4:=⟨n-4,by omega⟩
   simp only[go_sem]
  ·simp only[go_sem,(xM x).ret];exact hK
 refine pcA func166 ?_
 simp only[go_sem,kK]
 refine aJ (fun h1=>?_) (fun h1=>?_)
 ·have hn:w.objs.length<=1000:=by simp at h1;omega
  have ht:=aA1 p w hw hn;simp only[go_sem,kK,h1,(xK _ _ _ hw.objs ask).ret]
  refine aJ (fun h2=>?_) (fun h2=>?_)
  ·simp only[go_sem,kK,h2,ht.ret]
   refine aJ (fun h3=>?_) (fun h3=>?_)
   ·simp only[go_sem,kK,h3]
    refine aJ (fun h4=>?_) (fun h4=>?_)
    ·simp only[go_sem,kK,h4,(xL _ _ _ hw.outs ask2).ret]
     refine aJ (fun h5=>?_) (fun h5=>?_)
     ·simp only[go_sem,kK,h5,(aKl _ hw.ins).ret]
      refine aJ (fun h6=>?_) (fun h6=>?_)
      ·simp only[go_sem,kK,h6,(jH _ _ _).ret];simp only[wN,h1,h2,h3,h4,h5,h6,bQ9]
      ·simp only[go_sem,kK,h6,bQ0];simp only[wN,h1,h2,h3,h4,h5,h6,bQ0,bQ9,bQ7]
     ·simp only[go_sem,kK,h5,bQ0];simp only[wN,h1,h2,h3,h4,h5,bQ0,bQ9,bQ7,bRp]
    ·simp only[go_sem,kK,h4,bQ0];simp only[wN,h1,h2,h3,h4,bQ0,bQ9,bQ7,bRp]
   ·simp only[go_sem,kK,h3,bQ0];simp only[wN,h1,h2,h3,bQ0,bQ9,bQ7,bRp]
  ·simp only[go_sem,kK,h2,bQ0];simp only[wN,h1,h2,bQ0,bQ7,bRp]
 ·simp only[go_sem,kK,h1,bQ0];simp only[wN,h1,bQ0,bQ7]
theorem aSg (h:eS p=true): ∀c∈p.cons,c.args<=3:=by
 intro c hc;simp only[eS,yU,bQj]at h;have:=bQp.1 h.1.2.1.1 c hc;simp only[vS,inR,bQj,bT8]at this;omega
theorem aKn (p:aF)(w:aA)(h:eS p=true):wN p w=dG p w:=by
 have:w.objs.all (aSe p w)=w.objs.all (dI p w):=by
  congr 1;funext o;exact bBk p w o (aSg h)
 simp only[wN,dG,this,aU0]
 ac_rfl
theorem aCm (p:aF)(w:aA)(hp:p.few)(hw:w.few)(hs:aS p=true):PC L 99 [.agg p.cs,.agg w.cs] (.i (if bM p w then 0 else 2)):=by
 have hrun: ∃r,PC L 116 [.agg p.cs,.agg w.cs] (.tup [r,.bool (bM p w)])/\ oV r=false/\ (∀n en,6<=n->snapD n en r=some (r,[])):=by
  cases hf:eS p with
  |false=>
   refine⟨.nilp,?_,rfl,fun n en hn=>?_⟩
   ·refine pcA func116 ?_
    have hb:=wM p hp hs;rw[hf]at hb;simp only[go_sem,kK,hb.ret];simp[bM,hf]
   ·obtain⟨m,rfl⟩: ∃m,n=m+1:=⟨n-1,by omega⟩
    rfl
  |true=>
   refine⟨.fp [.fz (p.nodes.map aK.enc),.fz (p.funs.map (.int .i64)),.i p.main,.fz (p.cons.map cV.enc),.fz (w.objs.map aN.enc),.fz (w.tasks.map (.int .i64)),.fz (w.outs.map bL.enc),.fz (w.ins.map (.int .i64)),.i w.used] 0,?_,rfl,fun n en hn=>?_⟩
   ·refine pcA func116 ?_
    have hb:=wM p hp hs;rw[hf]at hb;simp only[go_sem,kK,hb.ret,(rU p w hp hw).ret];rw[aKn p w hf];simp[bM,hf]
   ·obtain⟨m,rfl⟩: ∃m,n=m+1:=⟨n-1,by omega⟩
    rfl
 obtain⟨r,hr,hr1,hr2⟩:=hrun
 refine pcA func99 ?_
 simp only[go_sem,kK,hr.ret];cases hg:bM p w<;>simp only[go_sem,kK,bQ0,bQ5]
theorem aIi {L:bG}{c:aY}{Q:Ex->St->Prop}(M:St->Prop)(h:Wp L c st fun e st'=>e= .normal/\ M st')(k: ∀fr en cnt,M ⟨fr,en,cnt⟩->Q .normal ⟨fr,en,cnt⟩):Wp L c st Q:=
 Go.Abs.wp_mono c h fun e s hs=>by obtain⟨rfl,hs⟩:=hs;exact k _ _ _ hs
variable {cs:List Val}
theorem bD8 :(Val.agg (.fz xs::cs)).flat=false:=(rfl)
theorem aYc :W.apply en (.frz k)=(match en k with
  |some e=>en.set k (some e.freeze)
  |none=>en):=(rfl)
variable {f:Bool}
theorem bD9 :Ent.freeze (.blk n cs f)= .blk n cs true:=(rfl)
theorem bEa :Ent.freeze (.box cs f)= .box cs true:=(rfl)
def sI (size:Nat):List Val->Val
 |[]=> .cl []
 |x::xs=> .own size (x::xs)
variable {b:Bool}
theorem wO :cX .eql .slice (.es b) (.es true)=some (.bool b):=(rfl)
theorem aEu {x:Val}:cX .eql .slice (.fz (x::xs)) (.es true)=some (.bool false):=(rfl)
section
variable {L :bG}{fr:Nat->Val}{cnt:Nat->Nat->Nat}{d:Nat}{x y:Opd}
theorem rV (hx:St.get fr x= .cl [])(hy:St.get fr y= .es b)(k:gD L l ⟨jD fr d (.cl []),en,cnt⟩ Q):gD L (⟨some d,.append size x y,none⟩::l) ⟨fr,en,cnt⟩ Q:=by
 rw[aRg (by rfl)]
 simp only[bRc,cZ,eval,fL,hx,hy,iN,cT,if_true,List.isEmpty_nil,aM6,fN];exact k
theorem qF {z:Val}{zs:List Val}(hx:St.get fr x= .cl [])(hy:St.get fr y= .fz (z::zs))(h1:cT size (z::zs)=true)(hl:(z::zs).length<=16777216)
  (k:gD L l ⟨jD fr d (.bl ⟨0,d,cnt 0 d⟩ 0 (z::zs).length),en.set ⟨0,d,cnt 0 d⟩ (some (.blk size (z::zs) false)),aC cnt 0 d (cnt 0 d+1)⟩ Q):gD L (⟨some d,.append size x y,none⟩::l) ⟨fr,en,cnt⟩ Q:=by
 rw[aRg (by rfl)]
 have he:iN en (.fz (z::zs))=some (z::zs,[]):=bAy;simp only[bRc,cZ,eval,fL,hx,hy,he,h1,if_true,List.isEmpty_cons,bQm,if_false];rw[if_pos ⟨by simpa using hl,rfl⟩]
 simp only[aF7,kL,fN,xE,bQz,bRg,bRo];exact k
end
theorem qH (xs:List Val)(h1:cT 1 xs=true)(hl:xs.length<=16777216):PC L 104 [.fz xs] (sI 1 xs):=by
 cases xs with
 |nil=>
  have hL:=at_ func104
  conv at hL=>rhs;reduce
  refine aJr hL rfl rfl (.inl rfl) (pW ?_) (pW ?_)
  ·simp only[go_sem,kK,wO];rfl
  ·simp only[go_sem,kK,wO]
   refine rV (b:=false) (by simp only[go_sem]) (by simp only[go_sem]) ?_
   simp only[go_sem];rfl
 |cons x xs=>
  refine pcA func104 ?_
  simp only[go_sem,kK,aEu]
  refine qF (by simp only[go_sem]) (by simp only[go_sem]) h1 hl ?_
  simp only[go_sem];rfl
theorem aEv (xs:List Val)(h1:cT 2 xs=true)(hl:xs.length<=16777216):PC L 105 [.fz xs] (sI 2 xs):=by
 cases xs with
 |nil=>
  have hL:=at_ func105
  conv at hL=>rhs;reduce
  refine aJr hL rfl rfl (.inl rfl) (pW ?_) (pW ?_)
  ·simp only[go_sem,kK,wO];rfl
  ·simp only[go_sem,kK,wO]
   refine rV (b:=false) (by simp only[go_sem]) (by simp only[go_sem]) ?_
   simp only[go_sem];rfl
 |cons x xs=>
  refine pcA func105 ?_
  simp only[go_sem,kK,aEu]
  refine qF (by simp only[go_sem]) (by simp only[go_sem]) h1 hl ?_
  simp only[go_sem];rfl
theorem qI (xs:List Val)(h1:cT 2 xs=true)(hl:xs.length<=16777216):PC L 106 [.fz xs] (sI 2 xs):=by
 cases xs with
 |nil=>
  have hL:=at_ func106
  conv at hL=>rhs;reduce
  refine aJr hL rfl rfl (.inl rfl) (pW ?_) (pW ?_)
  ·simp only[go_sem,kK,wO];rfl
  ·simp only[go_sem,kK,wO]
   refine rV (b:=false) (by simp only[go_sem]) (by simp only[go_sem]) ?_
   simp only[go_sem];rfl
 |cons x xs=>
  refine pcA func106 ?_
  simp only[go_sem,kK,aEu]
  refine qF (by simp only[go_sem]) (by simp only[go_sem]) h1 hl ?_
  simp only[go_sem];rfl
theorem pK (h:xs≠[]):sI size xs= .own size xs:=by cases xs<;>first|rfl|exact absurd rfl h
theorem vW (l:List aD):cT 2 (l.map aD.enc)=true:=by cases l<;>rfl
theorem aHn (l:List bL):cT 2 (l.map bL.enc)=true:=by cases l<;>rfl
theorem rW (l:List Int):cT 1 (l.map (Val.int .i64))=true:=by cases l<;>rfl
variable {k':Key}
theorem bBm :jU (.frz k) (.val k')=true:=rfl
theorem bBn {o:Nat}:jU (.frz k) (.cells k' o n)=true:=rfl
theorem bBo :mY (.frz k) (.frz k')=true:=rfl
theorem bBp {e:Option Ent}:mY (.frz k) (.ent k' e)=decide (k≠k'):=rfl
variable {vs:List Val}
theorem bBq {o:Nat}:mY (.frz k) (.cells k' o vs)=decide (k≠k'):=rfl
theorem bBr :jU (.frz k) (.flag k')=decide (k≠k'):=rfl
theorem aYd {o:Nat}:mY (.cells k o vs) (.frz k')=decide (k≠k'):=rfl
theorem bBs :(Val.fz xs).flat=false:=(rfl)
attribute [go_sem] bBm bBn bBo bBp bBq bBr aYd bBs bD8 aYc bD9 bEa
theorem pZ {xs:List Val}:(Val.cl xs).one=true:=(rfl)
theorem lA {xs:List Val}:(Val.cl xs).cells=[.cl xs]:=(rfl)
theorem uP {k:Key}{a b:Nat}:(Val.bl k a b).one=true:=(rfl)
theorem nM {k:Key}{a b:Nat}:(Val.bl k a b).cells=[.bl k a b]:=(rfl)
theorem bEb {a b:IntKind}{i j:Int}:(Val.agg (.int a i:: .int b j:: .fz xs::cs)).flat=false:=(rfl)
theorem kB :type_of% @pZ/\ type_of% @lA/\ type_of% @uP/\ type_of% @nM:=⟨@pZ,@lA,@uP,@nM⟩
theorem aIj {g:Nat}(h:en ⟨0,t,g⟩=some (.blk size xs f))(hx:n=xs.length):cR en (.bl ⟨0,t,g⟩ 0 n) size xs [t]:= .inr ⟨t,g,f,by rw[hx],h,by simp⟩
theorem iY (size:Nat)(xs:List Val):(xs=[]/\ sI size xs= .cl []) \/(xs≠[]/\ sI size xs= .own size xs):=by
 cases xs with
 |nil=>exact .inl ⟨rfl,rfl⟩
 |cons x xs=>exact .inr ⟨by simp,rfl⟩
theorem qJ {α:Type}{f:α->Val}{l:List α}:(l.map f).take l.length=l.map f:=bQ3 (by simp)
theorem aKo (h:bU w=true):w.objs.length<=130/\ w.tasks.length<=130/\ w.outs.length<=110/\ w.ins.length<=60:=by
 simp only[bU,bQj,bT8]at h;omega
set_option maxRecDepth 100000
set_option maxHeartbeats 4000000
section
variable {α :Type}{f g:Nat->α}{k:Nat}
end
def bK2 (en:En)(v:Val)(size:Nat)(xs:List Val)(t:Nat):Prop:=(v= .cl []/\ xs=[]) \/ ∃g,v= .bl ⟨0,t,g⟩ 0 xs.length/\ en ⟨0,t,g⟩=some (.blk size xs false)
theorem bHv {a b:List Val}:cX .neq .map (.fm a b) .nilm=some (.bool true):=(rfl)
theorem bEc {ks:List Val}{f:Bool}:Ent.freeze (.map ks vs f)= .map ks vs true:=(rfl)
theorem bEd {off:Nat}:eP (.agg cs) off vs= .agg (setCells cs off vs):=(rfl)
attribute [go_sem] bHv bGa bEc bEd bBl aSf
end Go.Proofs.YtmafmhjndjmalaaGreat
namespace Go.Abs
structure gS where
 task:Int
 act:Int
 n:Int
 v:aD
structure Did where
 w:aA
 what:Int
 e:gS
def iO :aD:=⟨0,0⟩
def fV :gS:=⟨0,0,0,iO⟩
def bBt :aN:=⟨0,0,[],[]⟩
def dV :aB:=⟨0,[],[]⟩
def bJ :aD:=⟨3,0⟩
def mS (n:Int):aD:=⟨1,n⟩
def nD (b:Bool):aD:=⟨2,if b=true then 1 else 0⟩
def dK (n:Int):aD:=⟨5,n⟩
def nE (v:aD):aD:=if v.kind=4 \/v.kind=5 then dK 0 else v
def aZ (w:aA)(a:Int):Int:=w.tasks.getD a.toNat 0
def cW (w:aA)(n:Int)(o:aN):aA:=⟨w.objs.set n.toNat o,w.tasks,w.outs,w.ins,w.used⟩
def dU (w:aA)(o:aN):aA:=⟨w.objs++[o],w.tasks,w.outs,w.ins,w.used⟩
def bE (w:aA)(a st:Int):Did:=⟨cW w (aZ w a) ⟨6,st,[],[]⟩,1,⟨a,0,st,iO⟩⟩
def bT (w:aA)(a:Int)(left:List aB)(v:aD):Did:=⟨cW w (aZ w a) ⟨6,0,[v],left⟩,0,fV⟩
def gK (w:aA)(a:Int)(left:List aB)(node:Int)(env:List aD):Did:=
 if 40<=left.length \/30<env.length then bE w a 4 else⟨cW w (aZ w a) ⟨6,0,[],left++[⟨node,env,[]⟩]⟩,0,fV⟩
def iF (w:aA)(a:Int)(left:List aB)(o:aN):Did:=if 120<=w.objs.length then bE w a 4 else bT (dU w o) a left (dK w.objs.length)
def dD (d:Did)(a act n:Int)(v:aD):Did:=if d.what=1 then d else⟨d.w,1,⟨a,act,n,nE v⟩⟩
def bY (w:aA)(v:aD)(form:Int):Bool:=decide (v.kind=5)&&decide ((w.obj v.n).form=form)
def bHw (p:aF)(n:Int):Int:=p.funs.getD n.toNat 0
def oN (n:aK)(i:Int):Int:=n.kids.getD i.toNat 0
def eF (p:aF)(w:aA)(f v:aD):Option aB:=
 if f.kind=4 then some ⟨bHw p f.n,[v],[]⟩
 else if bY w f 2=true then some ⟨oN (p.node (w.obj f.n).n) 0,(w.obj f.n).vals++[v],[]⟩else none
def eW (p:aF)(w:aA)(a:Int)(left:List aB)(f v:aD):Did:=
 if bY w f 5=true then(if 40<(left++(w.obj f.n).frames).length then bE w a 4 else bT w a (left++(w.obj f.n).frames) v)
 else match eF p w f v with
  |none=>bE w a 2
  |some b=>gK w a left b.node b.env
def qY (op x y:Int):Int:=if op=9 then x+y else if op=10 then x-y else if op=11 then x*y else 0
def cE (w:aA)(a:Int)(left:List aB)(op:Int)(u v:aD):Did:=
 if op=13 then(if¬u.kind=v.kind \/3<u.kind then bE w a 2 else bT w a left (nD (decide (u=v))))
 else if¬u.kind=1 \/ ¬v.kind=1 then bE w a 2
 else if op=12 then bT w a left (nD (decide (u.n<v.n)))
 else if inR (qY op u.n v.n) (-1000000000) 1000000000=true then bT w a left (mS (qY op u.n v.n))else bE w a 4
mutual
def fJ (w:aA):Pat->aD->Option (List aD)
 | .mk f n _ ps,v=>
  if f=1 then some []
  else if f=2 then some [v]
  else if f=3 then(if v=mS n then some []else none)
  else if f=4 then(if v=nD (decide (n=1))then some []else none)
  else if f=5 then(if v=bJ then some []else none)
  else if bY w v 1=true/\ (w.obj v.n).n=n/\ (w.obj v.n).vals.length=ps.length then eM w ps (w.obj v.n).vals else none
def eM (w:aA):List Pat->List aD->Option (List aD)
 |q::ps,v::vs=>match fJ w q v with
  |none=>none
  |some l=>match eM w ps vs with
   |none=>none
   |some r=>some (l++r)
 |_,_=>some []
end
def jT (w:aA)(a:Int)(left:List aB)(kids:List Int)(env:List aD)(u:aD):Nat->List Pat->Did
 |_,[]=>bE w a 3
 |i,q::qs=>match fJ w q u with
  |some l=>gK w a left (kids.getD (1+i) 0) (env++l)
  |none=>jT w a left kids env u (i+1) qs
def kC (w:aA)(a:Int)(left:List aB)(n:aK)(env:List aD)(u:aD):Did:=jT w a left n.kids env u 0 n.pats
def fP (p:aF)(left:List aB):Nat->Nat
 |0=>0
 |k+1=>if(p.node (left.getD k default).node).op=26 then k+1 else fP p left k
def eY (p:aF)(w:aA)(a:Int)(left:List aB)(kid:Int)(env:List aD):Did:=
 match fP p left left.length with
 |0=>bE w a 3
 |k+1=>
  if 120<=w.objs.length then bE w a 4
  else
   let d:=gK (dU w ⟨5,0,[],left.drop k⟩) a (left.take (k+1)) kid (env++[dK w.objs.length])
   if d.what=1 then bE w a d.e.n else d
def qK (w:aA):aA:=⟨w.objs,w.tasks++[(w.objs.length:Int)-1],w.outs,w.ins,w.used⟩
def zS (w:aA)(a:Int)(left:List aB)(o:aN):Did:=
 let d:=iF w a left o
 dD (if d.what=1 then d else⟨qK d.w,d.what,d.e⟩) a 19 0 bJ
def eC (p:aF)(w:aA)(a:Int)(left:List aB)(f:aD):Did:=
 if bY w f 5=true then zS w a left ⟨6,0,[bJ],(w.obj f.n).frames⟩
 else match eF p w f bJ with
  |none=>bE w a 2
  |some b=>if 30<b.env.length then bE w a 4 else zS w a left ⟨6,0,[],[b]⟩
def aE (l:List aD)(i:Nat):aD:=l.getD i iO
def eJ (w:aA)(a:Int)(left:List aB)(op:Int)(l:List aD):Did:=
 if op=16 then dD (iF w a left ⟨3,0,[aE l 0],[]⟩) a op 0 (aE l 0)
 else if bY w (aE l 0) 3=true then
  (if op=17 then dD (bT w a left (aE (w.obj (aE l 0).n).vals 0)) a op 0 (aE (w.obj (aE l 0).n).vals 0)
  else dD (bT (cW w (aE l 0).n ⟨3,0,[aE l 1],[]⟩) a left bJ) a op 0 (aE l 1))
 else bE w a 2
def lX (w:aA):Did:=⟨w,2,fV⟩
def bV (w:aA)(a:Int)(left:List aB)(op:Int)(l:List aD):Did:=
 if bY w (aE l 0) 4=true then
  (if op=22 then
   (if 4<=(w.obj (aE l 0).n).vals.length then lX w
   else dD (bT (cW w (aE l 0).n ⟨4,0,(w.obj (aE l 0).n).vals++[aE l 1],[]⟩) a left bJ) a op 0 (aE l 1))
  else if(w.obj (aE l 0).n).vals.length=0 then lX w
  else dD (bT (cW w (aE l 0).n ⟨4,0,(w.obj (aE l 0).n).vals.drop 1,[]⟩) a left (aE (w.obj (aE l 0).n).vals 0)) a op 0 (aE (w.obj (aE l 0).n).vals 0))
 else bE w a 2
def fX (w:aA)(a:Int)(left:List aB)(v:aD):Did:=
 if bY w v 6=true then
  (if(w.obj v.n).n=0 then lX w
  else if¬(w.obj v.n).n=1 then bE w a (w.obj v.n).n
  else dD (bT w a left (aE (w.obj v.n).vals 0)) a 20 0 (aE (w.obj v.n).vals 0))
 else bE w a 2
def dE (w:aA)(a:Int)(left:List aB)(op port:Int)(l:List aD):Did:=
 if op=25 then
  (match w.ins with
  |[]=>lX w
  |x::xs=>if 1000000000<=w.used then bE w a 4 else dD (bT ⟨w.objs,w.tasks,w.outs,xs,w.used+1⟩ a left (mS x)) a op 0 (mS x))
 else if¬(aE l 0).kind=1 then bE w a 2
 else if 100<=w.outs.length then bE w a 4
 else dD (bT ⟨w.objs,w.tasks,w.outs++[⟨port,(aE l 0).n⟩],w.ins,w.used⟩ a left bJ) a op port (aE l 0)
def bO (p:aF)(w:aA)(a:Int)(left:List aB)(f:aB)(n:aK):Did:=
 if n.op=1 then bT w a left (mS n.n)
 else if n.op=2 then bT w a left (nD (decide (n.n=1)))
 else if n.op=3 then bT w a left bJ
 else if n.op=4 then(if n.n<0 then bT w a left ⟨4,-1-n.n⟩else if(f.env.length:Int)<=n.n then bE w a 2 else bT w a left (aE f.env n.n.toNat))
 else if n.op=5 then iF w a left ⟨2,f.node,f.env,[]⟩
 else if n.op=6 then eW p w a left (aE f.vals 0) (aE f.vals 1)
 else if n.op=7 then gK w a left (oN n 1) (f.env++[aE f.vals 0])
 else if n.op=8 then(if¬(aE f.vals 0).kind=2 then bE w a 2 else gK w a left (oN n (2-(aE f.vals 0).n)) f.env)
 else if n.op=9 \/n.op=10 \/n.op=11 \/n.op=12 \/n.op=13 then cE w a left n.op (aE f.vals 0) (aE f.vals 1)
 else if n.op=14 then iF w a left ⟨1,n.n,f.vals,[]⟩
 else if n.op=15 then kC w a left n f.env (aE f.vals 0)
 else if n.op=26 then bT w a left (aE f.vals 0)
 else if n.op=27 then eY p w a left (oN n 0) f.env
 else if n.op=16 \/n.op=17 \/n.op=18 then eJ w a left n.op f.vals
 else if n.op=19 then eC p w a left (aE f.vals 0)
 else if n.op=20 then fX w a left (aE f.vals 0)
 else if n.op=21 then dD (iF w a left ⟨4,0,[],[]⟩) a 21 0 bJ
 else if n.op=22 \/n.op=23 then bV w a left n.op f.vals
 else if n.op=24 \/n.op=25 then dE w a left n.op n.n f.vals
 else dD (bT w a left bJ) a 28 0 bJ
def qL (p:aF)(w:aA)(a:Int)(left:List aB)(f:aB):Did:=bO p w a left f (p.node f.node)
def aA2 (l:List aB)(v:aD):List aB:=l.set (l.length-1) ⟨(l.getD (l.length-1) dV).node,(l.getD (l.length-1) dV).env,(l.getD (l.length-1) dV).vals++[v]⟩
def bB (p:aF)(w:aA)(a:Int):Did:=
 let o:=w.obj (aZ w a)
 if¬o.n=0 then lX w
 else if o.vals.length=1 then
  (if o.frames.length=0 then⟨cW w (aZ w a) ⟨6,1,[aE o.vals 0],[]⟩,1,⟨a,0,1,nE (aE o.vals 0)⟩⟩
  else⟨cW w (aZ w a) ⟨6,0,[],aA2 o.frames (aE o.vals 0)⟩,0,fV⟩)
 else
  let f:=o.frames.getD (o.frames.length-1) dV
  if(f.vals.length:Int)<(p.node f.node).asks then gK w a o.frames (oN (p.node f.node) f.vals.length) f.env
  else qL p w a (o.frames.take (o.frames.length-1)) f
end Go.Abs
namespace Go.Proofs.YtmafmhjndjmalaaGreat
open Go.Abs Go.Proofs Tryz
set_option maxRecDepth 100000
set_option maxHeartbeats 4000000
variable {size n:Nat}{rs:List R}{ys:List Val}{k:Key}
section
variable {L :bG}{fr:Nat->Val}{en:En}{cnt:Nat->Nat->Nat}{Q:St->Prop}{l:List aL}{d g:Nat}{dst:Option Nat}{get:Opd->Val}
def aMj (d g:Nat)(en:En)(size:Nat)(x:Val)(s:Option (List Val×List R)):Option Res:=fL 0 d g en size x s
theorem eB {x y:Opd}:cZ d g en get (.append size x y)=aMj d g en size (get x) (iN en (get y)):=(rfl)
theorem nN :aMj d g en size (.cl []) (some ([],rs))=some {v:= .cl [],rs}:=by simp[aMj,fL,cT]
theorem iW (h0:ys.isEmpty=false)(h1:cT size ys=true)(hl:ys.length<=16777216):
  aMj d g en size (.cl []) (some (ys,rs))=some {v:= .bl ⟨0,d,g⟩ 0 ys.length,ws:=[.ent ⟨0,d,g⟩ (some (.blk size ys false))],rs,bump:=true}:=by
 have hz:cT size []=true:=rfl;simp[aMj,fL,h1,h0,hl,hz]
def bBu (d g:Nat)(k:Key)(size n:Nat)(ys:List Val)(rs:List R)(e:Option Ent):Option Res:=
 match e with
 |some (.blk sz xs f)=>if(0+n=xs.length \/f=false/\ 0+n<=xs.length)/\ n+ys.length<=16777216/\ sz=size/\ (k.deep=true->0=3)then
      some {v:= .bl ⟨0,d,g⟩ 0 (n+ys.length),ws:=[.ent k none,.ent ⟨0,d,g⟩ (some (.blk size ((xs.take (0+n)).drop 0++ys) f))],rs:= .val k:: .flag k::rs,bump:=true}else none
 |_=>none
theorem uQ (h1:cT size ys=true):aMj d g en size (.bl k 0 n) (some (ys,rs))=bBu d g k size n ys rs (en k):=by
 simp only[aMj,fL,h1,if_true];rfl
theorem lB {xs:List Val}{f:Bool}(hn:n=xs.length)(hl:n+ys.length<=16777216)(hd:k.deep=false):
  bBu d g k size n ys rs (some (.blk size xs f))=some {v:= .bl ⟨0,d,g⟩ 0 (n+ys.length),ws:=[.ent k none,.ent ⟨0,d,g⟩ (some (.blk size (xs++ys) f))],rs:= .val k:: .flag k::rs,bump:=true}:=by
 subst hn;simp[bBu,hl,hd]
@[congr] theorem bHx {e e':Option Ent}(h:e=e'):bBu d g k size n ys rs e=bBu d g k size n ys rs e':=by rw[h]
end
theorem zB (l:List aN):cT 4 (l.map aN.enc)=true:=by cases l<;>rfl
theorem aBx (l:List Int):cT 1 (l.map (.int .i64))=true:=by cases l<;>rfl
theorem aPl (l:List bL):cT 2 (l.map bL.enc)=true:=by cases l<;>rfl
theorem sW (l:List aD):cT 2 (l.map aD.enc)=true:=by cases l<;>rfl
theorem jB (l:List aB):cT 3 (l.map aB.enc)=true:=by cases l<;>rfl
theorem aBy {a b:Int}:cT 2 [.agg [.i a,.i b]]=true:=(rfl)
theorem iI {α:Type}{f:α->Val}{l:List α}:(l.map f).isEmpty=l.isEmpty:=by cases l<;>rfl
theorem aKp {α:Type}{l:List α}(h:0<l.length):l.isEmpty=false:=by cases l<;>simp at h⊢
theorem aKq (n:Int):PC L 64 [.i n] (.agg [.i (dK n).kind,.i (dK n).n]):=by
 refine pcA func64 ?_
 simp only[go_sem,kK,dK]
theorem aDe (n:Int):PC L 40 [.i n] (.agg [.i (mS n).kind,.i (mS n).n]):=by
 refine pcA func40 ?_
 simp only[go_sem,kK,mS]
theorem nF :PC L 125 [] (.agg [.i bJ.kind,.i bJ.n]):=by
 refine pcA func125 ?_
 simp only[go_sem,kK,bJ]
theorem aIk (b:Bool):PC L 124 [.bool b] (.agg [.i (nD b).kind,.i (nD b).n]):=by
 refine pcA func124 ?_
 cases b<;>simp only[go_sem,kK,nD]
theorem aNj (v:aD):PC L 20 [.agg [.i v.kind,.i v.n]] (.agg [.i (nE v).kind,.i (nE v).n]):=by
 obtain⟨k,n⟩:=v
 refine pcA func20 ?_
 by_cases h4:k=4
 ·subst h4;simp only[go_sem,kK,(aKq 0).ret,nE,true_or,dK]
 ·have g4:decide (k=4)=false:=D_f h4
  by_cases h5:k=5
  ·subst h5;simp only[go_sem,kK,(aKq 0).ret,nE,or_true,dK]
  ·have g5:decide (k=5)=false:=D_f h5;simp only[go_sem,kK,nE,h4,h5,or_self]
theorem aEw (l:List aD)(v:aD)(hl:l.length<1000000):PC L 81 [.fz (l.map aD.enc),.agg [.i v.kind,.i v.n]] (.fz ((l++[v]).map aD.enc)):=by
 have hlen:l.length+1<=16777216:=by omega
 have hl1:l.length<=16777216:=by omega
 refine pcA func81 ?_
 simp only[go_sem,kK]
 refine aG ?_
 cases hl0:l.isEmpty with
 |true=>
  have:l=[]:=by simpa using hl0
  subst this;simp only[go_sem,bP,eB,nN,iW,List.isEmpty_cons,aBy,kA,bQm,if_false]
 |false=>
  simp only[go_sem,bP,eB,iW,uQ,iI,hl0,hl1,hlen,lB,sW,aBy,bQl,bQ2,bS0,bQk,bQ3,bRl,kA,bQm,if_false]
  trace_state
end Go.Proofs.YtmafmhjndjmalaaGreat
namespace Go.Abs
inductive OpR where
 |go (ev:Option gS) (w:aA) (left:List aB) (back:List aD)
 |wait
 |fail (s:Int)
def OpR.did (w:aA)(a:Int):OpR->Did
 | .go none w' left back=>⟨cW w' (aZ w' a) ⟨6,0,back,left⟩,0,fV⟩
 | .go (some e) w' left back=>⟨cW w' (aZ w' a) ⟨6,0,back,left⟩,1,e⟩
 | .wait=>lX w
 | .fail s=>bE w a s
def iJ (w:aA)(left:List aB)(v:aD):OpR:= .go none w left [v]
def kD (w:aA)(a:Int)(left:List aB)(op n:Int)(v e:aD):OpR:= .go (some ⟨a,op,n,nE e⟩) w left [v]
def pL (w:aA)(left l:List aB):OpR:=if 40<(left++l).length then .fail 4 else .go none w (left++l) []
def iT (w:aA)(left:List aB)(node:Int)(env:List aD):OpR:=if 30<env.length then .fail 4 else pL w left [⟨node,env,[]⟩]
def iB (w:aA)(o:aN)(k:aA->aD->OpR):OpR:=if 120<=w.objs.length then .fail 4 else k (dU w o) (dK w.objs.length)
def dS (w:aA)(left:List aB)(kids:List Int)(env:List aD)(u:aD):Nat->List Pat->OpR
 |_,[]=> .fail 3
 |i,q::qs=>match fJ w q u with
  |some l=>iT w left (kids.getD (1+i) 0) (env++l)
  |none=>dS w left kids env u (i+1) qs
def opR (p:aF)(w:aA)(a:Int)(left:List aB)(f:aB)(n:aK):OpR:=
 if n.op=1 then iJ w left (mS n.n)
 else if n.op=2 then iJ w left (nD (decide (n.n=1)))
 else if n.op=3 then iJ w left bJ
 else if n.op=4 then(if n.n<0 then iJ w left ⟨4,-1-n.n⟩else if(f.env.length:Int)<=n.n then .fail 2 else iJ w left (aE f.env n.n.toNat))
 else if n.op=5 then iB w ⟨2,f.node,f.env,[]⟩ fun w' v=>iJ w' left v
 else if n.op=6 then
  (match eF p w (aE f.vals 0) (aE f.vals 1)with
  |some b=>iT w left b.node b.env
  |none=>if bY w (aE f.vals 0) 5=true then(if 40<(left++(w.obj (aE f.vals 0).n).frames).length then .fail 4 else .go none w (left++(w.obj (aE f.vals 0).n).frames) [aE f.vals 1])else .fail 2)
 else if n.op=7 then iT w left (oN n 1) (f.env++[aE f.vals 0])
 else if n.op=8 then(if¬(aE f.vals 0).kind=2 then .fail 2 else iT w left (oN n (2-(aE f.vals 0).n)) f.env)
 else if n.op=13 then(if¬(aE f.vals 0).kind=(aE f.vals 1).kind \/3<(aE f.vals 0).kind then .fail 2 else iJ w left (nD (decide (aE f.vals 0=aE f.vals 1))))
 else if n.op=12 then(if¬(aE f.vals 0).kind=1 \/ ¬(aE f.vals 1).kind=1 then .fail 2 else iJ w left (nD (decide ((aE f.vals 0).n<(aE f.vals 1).n))))
 else if n.op=9 \/n.op=10 \/n.op=11 then
  (if¬(aE f.vals 0).kind=1 \/ ¬(aE f.vals 1).kind=1 then .fail 2
  else if inR (qY n.op (aE f.vals 0).n (aE f.vals 1).n) (-1000000000) 1000000000=true then iJ w left (mS (qY n.op (aE f.vals 0).n (aE f.vals 1).n))else .fail 4)
 else if n.op=14 then iB w ⟨1,n.n,f.vals,[]⟩ fun w' v=>iJ w' left v
 else if n.op=15 then dS w left n.kids f.env (aE f.vals 0) 0 n.pats
 else if n.op=26 then iJ w left (aE f.vals 0)
 else if n.op=27 then
  (match fP p left left.length with
  |0=> .fail 3
  |k+1=>iB w ⟨5,0,[],left.drop k⟩ fun w' v=>iT w' (left.take (k+1)) (oN n 0) (f.env++[v]))
 else if n.op=16 then iB w ⟨3,0,[aE f.vals 0],[]⟩ fun w' v=>kD w' a left 16 0 v (aE f.vals 0)
 else if n.op=17 then(if bY w (aE f.vals 0) 3=true then kD w a left 17 0 (aE (w.obj (aE f.vals 0).n).vals 0) (aE (w.obj (aE f.vals 0).n).vals 0)else .fail 2)
 else if n.op=18 then(if bY w (aE f.vals 0) 3=true then kD (cW w (aE f.vals 0).n ⟨3,0,[aE f.vals 1],[]⟩) a left 18 0 bJ (aE f.vals 1)else .fail 2)
 else if n.op=19 then
  (match eF p w (aE f.vals 0) bJ with
  |some b=>if 30<b.env.length then .fail 4 else iB w ⟨6,0,[],[b]⟩ fun w' v=>kD (qK w') a left 19 0 v bJ
  |none=>if bY w (aE f.vals 0) 5=true then iB w ⟨6,0,[bJ],(w.obj (aE f.vals 0).n).frames⟩ fun w' v=>kD (qK w') a left 19 0 v bJ else .fail 2)
 else if n.op=20 then
  (if bY w (aE f.vals 0) 6=true then
   (if(w.obj (aE f.vals 0).n).n=0 then .wait
   else if¬(w.obj (aE f.vals 0).n).n=1 then .fail (w.obj (aE f.vals 0).n).n
   else kD w a left 20 0 (aE (w.obj (aE f.vals 0).n).vals 0) (aE (w.obj (aE f.vals 0).n).vals 0))
  else .fail 2)
 else if n.op=21 then iB w ⟨4,0,[],[]⟩ fun w' v=>kD w' a left 21 0 v bJ
 else if n.op=22 then
  (if bY w (aE f.vals 0) 4=true then
   (if 4<=(w.obj (aE f.vals 0).n).vals.length then .wait
   else kD (cW w (aE f.vals 0).n ⟨4,0,(w.obj (aE f.vals 0).n).vals++[aE f.vals 1],[]⟩) a left 22 0 bJ (aE f.vals 1))
  else .fail 2)
 else if n.op=23 then
  (if bY w (aE f.vals 0) 4=true then
   (if(w.obj (aE f.vals 0).n).vals.length=0 then .wait
   else kD (cW w (aE f.vals 0).n ⟨4,0,(w.obj (aE f.vals 0).n).vals.drop 1,[]⟩) a left 23 0 (aE (w.obj (aE f.vals 0).n).vals 0) (aE (w.obj (aE f.vals 0).n).vals 0))
  else .fail 2)
 else if n.op=24 then
  (if¬(aE f.vals 0).kind=1 then .fail 2
  else if 100<=w.outs.length then .fail 4
  else kD ⟨w.objs,w.tasks,w.outs++[⟨n.n,(aE f.vals 0).n⟩],w.ins,w.used⟩ a left 24 n.n bJ (aE f.vals 0))
 else if n.op=25 then
  (match w.ins with
  |[]=> .wait
  |x::xs=>if 1000000000<=w.used then .fail 4 else kD ⟨w.objs,w.tasks,w.outs,xs,w.used+1⟩ a left 25 0 (mS x) (mS x))
 else kD w a left 28 0 bJ bJ
variable {a:Int}{left:List aB}{w:aA}
theorem qM {node:Int}{env:List aD}:gK w a left node env=(iT w left node env).did w a:=by
 unfold gK iT pL;simp only[bQ2,bQu,bQz]
 by_cases h1:30<env.length
 ·rw[if_pos (.inr h1),if_pos h1];rfl
 ·rw[if_neg h1]
  by_cases h2:40<=left.length
  ·rw[if_pos (.inl h2),if_pos (by omega)];rfl
  ·rw[if_neg (by omega),if_neg (by omega)];rfl
variable {e v:aD}{n op:Int}
theorem oA {w0:aA}:dD (bT w a left v) a op n e=(kD w a left op n v e).did w0 a:=by
 have: ¬(bT w a left v).what=1:=by simp[bT]
 unfold dD;rw[if_neg this];rfl
theorem aKr {s:Int}:dD (bE w a s) a op n e=bE w a s:=by
 unfold dD;rw[if_pos (show(bE w a s).what=1 from rfl)]
theorem aSh {o:aN}:iF w a left o=(iB w o fun w' v=>iJ w' left v).did w a:=by
 unfold iF iB
 split<;>rfl
theorem aNk {o:aN}:dD (iF w a left o) a op n e=(iB w o fun w' v=>kD w' a left op n v e).did w a:=by
 unfold iF iB;split
 ·exact aKr
 ·exact oA
theorem aHo {w:aA}{a:Int}{left:List aB}{kids:List Int}{env:List aD}{u:aD}: ∀(l:List Pat) (i:Nat),jT w a left kids env u i l=(dS w left kids env u i l).did w a
 |[],i=>by simp only[jT,dS];rfl
 |q::qs,i=>by
  simp only[jT,dS];cases fJ w q u with
  |some l=>exact qM
  |none=>exact aHo qs (i+1)
theorem aSi {o:aN}(ha:inR a 0 ((w.tasks.length:Int)-1)=true):zS w a left o=(iB w o fun w' v=>kD (qK w') a left 19 0 v bJ).did w a:=by
 unfold zS iF iB;split
 ·simp only
  rw[if_pos (show(bE w a 4).what=1 from rfl)]
  exact aKr
 ·have h1: ¬(bT (dU w o) a left (dK w.objs.length)).what=1:=by simp[bT]
  simp only
  rw[if_neg h1];unfold dD
  simp only
  rw[if_neg h1];simp only[inR,bT8]at ha;have ht:aZ (qK (dU w o)) a=aZ (dU w o) a:=by
   unfold aZ qK dU
   simp only
   rw[bQn,bQn,bSq (by omega)]
  simp only[kD,OpR.did,ht];simp only[bT,cW,qK,dU,bSb]
variable {p:aF}
theorem aKs {f:aD}(h:bY w f 5=true):eF p w f v=none:=by
 simp only[bY,bQj,bT8]at h;unfold eF;rw[if_neg (by rw[h.1];decide),if_neg (by simp only[bY,bQj,bT8];rw[h.2];rintro⟨_,h⟩;cases h)]
theorem xO {f:aB}{n:aK}(ha:inR a 0 ((w.tasks.length:Int)-1)=true):bO p w a left f n=(opR p w a left f n).did w a:=by
 unfold bO opR
 by_cases h1:n.op=1
 ·rw[if_pos h1,if_pos h1];rfl
 rw[if_neg h1,if_neg h1]
 by_cases h2:n.op=2
 ·rw[if_pos h2,if_pos h2];rfl
 rw[if_neg h2,if_neg h2]
 by_cases h3:n.op=3
 ·rw[if_pos h3,if_pos h3];rfl
 rw[if_neg h3,if_neg h3]
 by_cases h4:n.op=4
 ·rw[if_pos h4,if_pos h4];split
  ·rfl
  ·split<;>rfl
 rw[if_neg h4,if_neg h4]
 by_cases h5:n.op=5
 ·rw[if_pos h5,if_pos h5];exact aSh
 rw[if_neg h5,if_neg h5]
 by_cases h6:n.op=6
 ·rw[if_pos h6,if_pos h6];unfold eW
  by_cases hk:bY w (aE f.vals 0) 5=true
  ·rw[if_pos hk,aKs hk];simp only[hk,if_true]
   split<;>rfl
  ·rw[if_neg hk];cases eF p w (aE f.vals 0) (aE f.vals 1)with
   |none=>simp only[hk];rfl
   |some b=>exact qM
 rw[if_neg h6,if_neg h6]
 by_cases h7:n.op=7
 ·rw[if_pos h7,if_pos h7];exact qM
 rw[if_neg h7,if_neg h7]
 by_cases h8:n.op=8
 ·rw[if_pos h8,if_pos h8];split
  ·rfl
  ·exact qM
 rw[if_neg h8,if_neg h8]
 by_cases h13:n.op=13
 ·rw[if_pos (.inr (.inr (.inr (.inr h13)))),if_pos h13];unfold cE;rw[if_pos h13]
  split<;>rfl
 rw[if_neg h13]
 by_cases h12:n.op=12
 ·rw[if_pos (.inr (.inr (.inr (.inl h12)))),if_pos h12];unfold cE;rw[if_neg h13];split
  ·rfl
  ·rfl
 rw[if_neg h12]
 by_cases h9:n.op=9 \/n.op=10 \/n.op=11
 ·rw[if_pos (by rcases h9 with h|h|h<;>simp[h]),if_pos h9]
  unfold cE;rw[if_neg h13];split
  ·rfl
  ·split<;>rfl
 rw[if_neg (by simp only[not_or]at h9⊢;exact⟨h9.1,h9.2.1,h9.2.2,h12,h13⟩),if_neg h9]
 by_cases h14:n.op=14
 ·rw[if_pos h14,if_pos h14];exact aSh
 rw[if_neg h14,if_neg h14]
 by_cases h15:n.op=15
 ·rw[if_pos h15,if_pos h15];exact aHo _ _
 rw[if_neg h15,if_neg h15]
 by_cases h26:n.op=26
 ·rw[if_pos h26,if_pos h26];rfl
 rw[if_neg h26,if_neg h26]
 by_cases h27:n.op=27
 ·rw[if_pos h27,if_pos h27];unfold eY;cases fP p left left.length with
  |zero=>rfl
  |succ k=>
   simp only
   unfold iB;split
   ·rfl
   ·simp only
    rw[qM];unfold iT pL;split
    ·rfl
    ·split<;>rfl
 rw[if_neg h27,if_neg h27]
 by_cases h16:n.op=16
 ·rw[if_pos (.inl h16),if_pos h16];unfold eJ;rw[if_pos h16,h16];exact aNk
 by_cases h17:n.op=17
 ·rw[if_pos (.inr (.inl h17)),if_neg h16,if_pos h17];unfold eJ;rw[if_neg h16];split
  ·rw[h17];exact oA
  ·rfl
 by_cases h18:n.op=18
 ·rw[if_pos (.inr (.inr h18)),if_neg h16,if_neg h17,if_pos h18];unfold eJ;rw[if_neg h16];split
  ·rw[h18];exact oA
  ·rfl
 rw[if_neg (by simp only[not_or];exact⟨h16,h17,h18⟩),if_neg h16,if_neg h17,if_neg h18]
 by_cases h19:n.op=19
 ·rw[if_pos h19,if_pos h19];unfold eC
  by_cases hk:bY w (aE f.vals 0) 5=true
  ·rw[if_pos hk,aKs hk];simp only[hk,if_true];exact aSi ha
  ·rw[if_neg hk];cases eF p w (aE f.vals 0) bJ with
   |none=>simp only[hk];rfl
   |some b=>
    simp only
    split
    ·rfl
    ·exact aSi ha
 rw[if_neg h19,if_neg h19]
 by_cases h20:n.op=20
 ·rw[if_pos h20,if_pos h20];unfold fX;split
  ·split
   ·rfl
   ·split
    ·rfl
    ·exact oA
  ·rfl
 rw[if_neg h20,if_neg h20]
 by_cases h21:n.op=21
 ·rw[if_pos h21,if_pos h21];exact aNk
 rw[if_neg h21,if_neg h21]
 by_cases h22:n.op=22
 ·rw[if_pos (.inl h22),if_pos h22];unfold bV;split
  ·try rw[if_pos h22]
   split
   ·rfl
   ·rw[h22];exact oA
  ·rfl
 by_cases h23:n.op=23
 ·rw[if_pos (.inr h23),if_neg h22,if_pos h23];unfold bV;split
  ·try rw[if_neg h22]
   split
   ·rfl
   ·rw[h23];exact oA
  ·rfl
 rw[if_neg (by simp only[not_or];exact⟨h22,h23⟩),if_neg h22,if_neg h23]
 by_cases h24:n.op=24
 ·rw[if_pos (.inl h24),if_pos h24];unfold dE;rw[if_neg (by rw[h24];decide)]
  split
  ·rfl
  ·split
   ·rfl
   ·rw[h24];exact oA
 by_cases h25:n.op=25
 ·rw[if_pos (.inr h25),if_neg h24,if_pos h25];unfold dE;rw[if_pos h25];cases w.ins with
  |nil=>rfl
  |cons x xs=>
   simp only
   split
   ·rfl
   ·rw[h25];exact oA
 rw[if_neg (by simp only[not_or];exact⟨h24,h25⟩),if_neg h24,if_neg h25]
 exact oA
end Go.Abs
namespace Go.Proofs.YtmafmhjndjmalaaGreat
open Go.Abs Go.Proofs Tryz
set_option maxRecDepth 100000
set_option maxHeartbeats 4000000
def aEx (s:Int):Val:= .ifc 259 (.agg [.i s])
theorem gX (s:Int):PC L 245 [.bool true,.i s] (.tup []):=by
 refine pcA func245 ?_
 simp only[go_sem,kK]
theorem kE (s:Int):PX L 245 [.bool false,.i s] (aEx s):=by
 refine pxA func245 ?_
 simp only[go_sem,kK]
 refine cO 3 rfl ?_
 simp only[go_sem,bQs,bQq];exact⟨rfl,rfl⟩
theorem tH (n:Int):PC L 305 [.i n] (.agg [.i (mS n).kind,.i (mS n).n]):=by
 refine pcA func305 ?_
 simp only[go_sem,kK,mS]
theorem aEy (b:Bool):PC L 306 [.bool b] (.agg [.i (nD b).kind,.i (nD b).n]):=by
 refine pcA func306 ?_
 cases b<;>simp only[go_sem,kK,nD,bQm,if_false]
theorem kG :PC L 307 [] (.agg [.i bJ.kind,.i bJ.n]):=by
 refine pcA func307 ?_
 simp only[go_sem,kK,bJ]
theorem xP (v:aD):PC L 168 [.agg [.i v.kind,.i v.n]] (.agg [.i (nE v).kind,.i (nE v).n]):=by
 refine pcA func168 ?_
 obtain⟨k,n⟩:=v
 by_cases h4:k=4
 ·subst h4;simp only[go_sem,kK,nE,dK,true_or]
 ·have d4:decide (k=4)=false:=D_f h4
  by_cases h5:k=5
  ·subst h5;simp only[go_sem,kK,nE,dK,or_true]
  ·have d5:decide (k=5)=false:=D_f h5;simp only[go_sem,kK,nE,h4,h5,or_self,bQm,if_false]
def wP (what:Int)(e:gS):Val:=if what=2 then .ifc 254 (.agg [])else if what=0 then .ifc 265 (.agg [])else .ifc 257 (.agg [.i e.task,.i e.act,.i e.n,.i e.v.kind,.i e.v.n])
theorem aKt :PC L 119 [.ifc 265 (.agg [])] (.i 0):=by
 refine pcA func119 ?_
 simp only[go_sem,kK]
theorem aNl :PC L 119 [.ifc 254 (.agg [])] (.i 2):=by
 refine pcA func119 ?_
 simp only[go_sem,kK]
theorem aNm (l:List Val):PC L 119 [.ifc 257 (.agg l)] (.i 1):=by
 refine pcA func119 ?_
 simp only[go_sem,kK]
def Old (k:Key)(cnt:Nat->Nat->Nat):Prop:=k.n=0/\ k.g<cnt 0 k.t
variable {cnt:Nat->Nat->Nat}{d:Nat}{k:Key}
theorem Old.ne (h:Old k cnt):k≠⟨0,d,cnt 0 d⟩:=by
 rintro rfl;exact bS1 _ h.2
theorem Old.set (h:Old k cnt)(en:En)(d:Nat)(e:Option Ent):En.set en ⟨0,d,cnt 0 d⟩ e k=en k:=jE h.ne
theorem Old.new (h:Old k cnt)(en:En)(d:Nat)(e:Option Ent):En.set en k e ⟨0,d,cnt 0 d⟩=en ⟨0,d,cnt 0 d⟩:=jE h.ne.symm
theorem Old.eqF (h:Old k cnt)(d:Nat):((⟨0,d,cnt 0 d⟩:Key)=k)=False:=by simp only[eq_iff_iff,iff_false];exact h.ne.symm
theorem Old.eqF' (h:Old k cnt)(d:Nat):(k=(⟨0,d,cnt 0 d⟩:Key))=False:=by simp only[eq_iff_iff,iff_false];exact h.ne
variable {cnt':Nat->Nat->Nat}
theorem Old.up (h:Old k cnt)(hu: ∀t,cnt 0 t<=cnt' 0 t):Old k cnt':=⟨h.1,bRa h.2 (hu _)⟩
variable {e:Option Ent}{en:En}{k':Key}
theorem aI (h:k'≠k):En.set en k e k'=en k':=jE h
variable {c:Nat->Nat->Nat}
theorem upS (h: ∀t,cnt 0 t<=c 0 t){a x:Nat}(hx:cnt 0 a<=x): ∀t,cnt 0 t<=aC c 0 a x 0 t:=by
 intro t;have:=h t
 by_cases ht:t=a
 ·subst ht;rw[bAr];exact hx
 ·rw[bAs ht];exact this
theorem aM (cnt:Nat->Nat->Nat): ∀t,cnt 0 t<=cnt 0 t:=fun _=>bQk _
structure dR (kt kr:Key) (en:En) (cnt:Nat->Nat->Nat) (en':En) (cnt':Nat->Nat->Nat):Prop where
 old: ∀k,Old k cnt->k≠kt->k≠kr->en' k=en k
 up: ∀t,cnt 0 t<=cnt' 0 t
theorem dR.refl (kt kr:Key)(en:En)(cnt:Nat->Nat->Nat):dR kt kr en cnt en cnt:=⟨fun _ _ _ _=>rfl,fun _=>bQk _⟩
variable {cnt2:Nat->Nat->Nat}{en1 en2:En}{kr kt:Key}
theorem dR.trans {cnt1:Nat->Nat->Nat}(h:dR kt kr en cnt en1 cnt1)(k:dR kt kr en1 cnt1 en2 cnt2):dR kt kr en cnt en2 cnt2:=
 ⟨fun x hx a b=>(k.old x (hx.up h.up) a b).trans (h.old x hx a b),fun t=>bQv (h.up t) (k.up t)⟩
variable {en':En}{g:Nat}
theorem dR.loc (k:dR kt kr en cnt en' cnt')(hg:g<cnt 0 d)(ht:(⟨0,d,g⟩:Key)≠kt)(hr:(⟨0,d,g⟩:Key)≠kr):en' ⟨0,d,g⟩=en ⟨0,d,g⟩/\ Old ⟨0,d,g⟩ cnt':=
 ⟨k.old _ ⟨rfl,hg⟩ ht hr,rfl,bRa hg (k.up d)⟩
def iZ (v:Val)(xs:List Val):Prop:=v= .fz xs \/v= .cl xs
variable {v:Val}{xs:List Val}
theorem iZ.len (h:iZ v xs):tP v=some xs.length:=by rcases h with rfl|rfl<;>rfl
theorem iZ.elems (h:iZ v xs)(en:En):iN en v=some (xs,[]):=by rcases h with rfl|rfl<;>rfl
theorem iZ.one (h:iZ v xs):v.one=true:=by rcases h with rfl|rfl<;>rfl
theorem iZ.cells (h:iZ v xs):v.cells=[v]:=by rcases h with rfl|rfl<;>rfl
structure TS (kt kr:Key) (en:En) (cnt:Nat->Nat->Nat) (p:aF) (w:aA) (a:Int) (left:List aB) (f:aB) (n:aK) (back:List aD) (bv:Val):Prop where
 okt:Old kt cnt
 okr:Old kr cnt
 ne:kr≠kt
 ob:iZ bv (back.map aD.enc)
 t:en kt=some (.box [.ptr kr 0,.i a,.fz (left.map aB.enc),.i f.node,.fz (f.env.map aD.enc),.fz (f.vals.map aD.enc),.i n.op,.i n.n,.is n.kids,.fz (n.pats.map Pat.enc),bv] false)
 r:en kr=some (.box [.fz (p.nodes.map aK.enc),.is p.funs,.i p.main,.fz (p.cons.map cV.enc),.fz (w.objs.map aN.enc),.is w.tasks,.fz (w.outs.map bL.enc),.is w.ins,.i w.used] false)
variable {b0 back:List aD}{bv0 bv I O T U lv:Val}{w0 w:aA}{size t:Nat}{rs:List R}{ys cs is n os ts us:List Val}{i a m u s:Int}{b:Bool}{K1 K2 K3 K4:List Key}{p:aF}{f:aB}{left:List aB}
section
variable {n:aK}
theorem TS.to (h:TS kt kr en cnt p w a left f n back bv)(ht:en' kt=en kt)(hr:en' kr=en kr)(hu: ∀t,cnt 0 t<=cnt' 0 t):TS kt kr en' cnt' p w a left f n back bv:=
 ⟨h.okt.up hu,h.okr.up hu,h.ne,h.ob,by rw[ht];exact h.t,by rw[hr];exact h.r⟩
theorem bEe (h1:Old kt cnt)(h2:Old kr cnt)(h3:kr≠kt):(∀e d x,En.set e ⟨0,d,cnt 0 d⟩ x kt=e kt)/\ (∀e d x,En.set e ⟨0,d,cnt 0 d⟩ x kr=e kr)/\ (∀e d x,En.set e kt x ⟨0,d,cnt 0 d⟩=e ⟨0,d,cnt 0 d⟩)/\ (∀e d x,En.set e kr x ⟨0,d,cnt 0 d⟩=e ⟨0,d,cnt 0 d⟩)/\ (∀d,((⟨0,d,cnt 0 d⟩:Key)=kt)=False)/\ (∀d,((⟨0,d,cnt 0 d⟩:Key)=kr)=False)/\ (∀d,(kt=(⟨0,d,cnt 0 d⟩:Key))=False)/\ (∀d,(kr=(⟨0,d,cnt 0 d⟩:Key))=False)/\ (∀(e:En) x,En.set e kt x kr=e kr)/\ ∀(e:En) x,En.set e kr x kt=e kt:=
 ⟨h1.set,h2.set,h1.new,h2.new,h1.eqF,h2.eqF,h1.eqF',h2.eqF',fun _ _=>aI h3,fun _ _=>aI h3.symm⟩
theorem TS.pre (h:TS kt kr en cnt p w a left f n back bv):type_of%(bEe h.okt h.okr h.ne):=bEe h.okt h.okr h.ne
theorem TS.stay (h:TS kt kr en cnt p w a left f n back bv)(hk: ∀k,Old k cnt->en' k=en k)(hu: ∀t,cnt 0 t<=cnt' 0 t):(∃bv',TS kt kr en' cnt' p w a left f n back bv')/\ dR kt kr en cnt en' cnt':=
 ⟨⟨bv,h.to (hk _ h.okt) (hk _ h.okr) hu⟩,fun k ho _ _=>hk k ho,hu⟩
theorem TS.fin {l0:List aB}(h0:TS kt kr en cnt p w0 a l0 f n b0 bv0)(h:TS kt kr en' cnt' p w a left f n back bv)(k:dR kt kr en cnt en' cnt')(hk: ∀k,Old k cnt->Old k cnt'->en2 k=en' k)(hu: ∀t,cnt' 0 t<=cnt2 0 t):
  (∃bv',TS kt kr en2 cnt2 p w a left f n back bv')/\ dR kt kr en cnt en2 cnt2:=
 ⟨⟨bv,h.to (hk _ h0.okt h.okt) (hk _ h0.okr h.okr) hu⟩,fun x ho a b=>(hk x ho (ho.up k.up)).trans (k.old x ho a b),fun t=>bQv (k.up t) (hu t)⟩
theorem uR :jY false size en (.fz xs) none (some (.i (xs.length:Int))) (some (.i (xs.length:Int)))=some {v:= .cl xs}:=by
 simp[jY,aIt,tE (bQk _),uH]
theorem aCn (xs:List Val):PC L 246 [.fz xs] (.cl xs):=by
 refine pcA func246 ?_
 simp only[go_sem,kK,uR]
theorem aA3 (xs:List Val):PC L 205 [.fz xs] (.cl xs):=by
 refine pcA func205 ?_
 simp only[go_sem,kK,uR]
theorem aHp (xs:List Val):PC L 339 [.fz xs] (.cl xs):=by
 refine pcA func339 ?_
 simp only[go_sem,kK,uR]
theorem aHq (xs:List Val):PC L 316 [.fz xs] (.cl xs):=by
 refine pcA func316 ?_
 simp only[go_sem,kK,uR]
theorem aSj (xs:List Val):PC L 317 [.fz xs] (.cl xs):=by
 refine pcA func317 ?_
 simp only[go_sem,kK,uR]
def aU1 (d g size:Nat)(xs ys:List Val)(rs:List R):Option Res:=
 if ys=[]then some {v:= .cl xs,rs}else some {v:= .bl ⟨0,d,g⟩ 0 (xs.length+ys.length),ws:=[.ent ⟨0,d,g⟩ (some (.blk size (xs++ys) (!xs.isEmpty)))],rs,bump:=true}
theorem uS (h1:cT size ys=true)(h2:cT size xs=true)(hl:xs.length+ys.length<=16777216):
  aMj d g en size (.cl xs) (some (ys,rs))=aU1 d g size xs ys rs:=by
 unfold aU1;split
 ·rename_i h;subst h;simp[aMj,fL,cT]
 ·rename_i h;simp[aMj,fL,h1,h,h2,hl]
theorem aKu :aU1 d g size xs [] rs=some {v:= .cl xs,rs}:=by simp[aU1]
theorem aBz (h:ys≠[]):aU1 d g size xs ys rs=some {v:= .bl ⟨0,d,g⟩ 0 (xs.length+ys.length),ws:=[.ent ⟨0,d,g⟩ (some (.blk size (xs++ys) (!xs.isEmpty)))],rs,bump:=true}:=by simp[aU1,h]
theorem aSk {o:Nat}:cN en (.ptr k o)=some (.ptr k o,[]):=(rfl)
theorem aEz {k:IntKind}:cN en (.int k i)=some (.int k i,[]):=(rfl)
theorem aPm :cN en (.fz xs)=some (.fz xs,[]):=(rfl)
theorem rG (h:iZ v xs):cN en v=some (.fz xs,[]):=by rcases h with rfl|rfl<;>rfl
theorem sX {n:Nat}(h:en ⟨0,t,g⟩=some (.blk size xs b))(hn:n=xs.length):cN en (.bl ⟨0,t,g⟩ 0 n)=some (.fz xs,[⟨0,t,g⟩]):=by
 subst hn;simp[cN,snapD,h,Val.wk0,aF8]
theorem aE0 {rs:List (Val×List Key)}(h:en k=some (.box cs false))(hc:cP (cN en) cs=some rs)(hk:(rs.flatMap (·.2)).contains k=false):
  uG en k=some ((W.applyAll en ((rs.flatMap (·.2)).map .frz)).set k (some (.box (rs.map (·.1)) false))):=by
 simp only[uG,h,hc,hk,bQm,if_false]
theorem aKv (h:uG en k=some en1):oH (.ptr k 0) [[]] en=some en1:=by simp only[oH,aQl,h]
theorem bBv (hk:en k=some (.box (.ptr k' 0::cs) b))(h:uG en k'=some en1):oH (.ptr k 0) [[0]] en=some en1:=by simp only[oH,aQl,hk,bTi,h]
theorem bBw {o:Int}{F:Val}{e v ks ps bs:List Val}{K:List Key}(h:en kt=some (.box [.ptr kr 0,.i a,F,.i i,.fz e,.fz v,.i o,.i m,.fz ks,.fz ps,bv] false))(hF:cN en F=some (.fz xs,K))(hb:iZ bv bs)(hk:kt∉K):
  oH (.ptr kt 0) [[]] en=some ((W.applyAll en (K.map .frz)).set kt (some (.box [.ptr kr 0,.i a,.fz xs,.i i,.fz e,.fz v,.i o,.i m,.fz ks,.fz ps,.fz bs] false))):=by
 have:=aE0 (rs:=[(.ptr kr 0,[]),(.i a,[]),(.fz xs,K),(.i i,[]),(.fz e,[]),(.fz v,[]),(.i o,[]),(.i m,[]),(.fz ks,[]),(.fz ps,[]),(.fz bs,[])]) h (by simp only[aBu,aEf,aSk,aEz,aPm,hF,rG hb]) (by simpa using hk)
 simp only[bS5,bSn,bRk,bRo,bRj,bQ1]at this;exact aKv this
theorem aU2 {n f c:List Val}(ht:en kt=some (.box (.ptr kr 0::cs) b))(h:en kr=some (.box [.fz n,.fz f,.i m,.fz c,O,T,U,I,.i u] false))
  (hO:cN en O=some (.fz os,K1)) (hT:cN en T=some (.fz ts,K2)) (hU:cN en U=some (.fz us,K3)) (hI:cN en I=some (.fz is,K4)) (hk:kr∉K1++(K2++(K3++K4))):
  oH (.ptr kt 0) [[0]] en=some ((W.applyAll en ((K1++(K2++(K3++K4))).map .frz)).set kr (some (.box [.fz n,.fz f,.i m,.fz c,.fz os,.fz ts,.fz us,.fz is,.i u] false))):=by
 have:=aE0 (rs:=[(.fz n,[]),(.fz f,[]),(.i m,[]),(.fz c,[]),(.fz os,K1),(.fz ts,K2),(.fz us,K3),(.fz is,K4),(.i u,[])]) h (by simp only[aBu,aEf,aEz,aPm,hO,hT,hU,hI]) (by simpa using hk)
 simp only[bS5,bSn,bRk,bRo,bRj,bQ1]at this;exact bBv ht this
theorem aSl {n f c:List Val}(h:en kr=some (.box [.fz n,.fz f,.i m,.fz c,O,T,U,I,.i u] false))
  (hO:cN en O=some (.fz os,K1)) (hT:cN en T=some (.fz ts,K2)) (hU:cN en U=some (.fz us,K3)) (hI:cN en I=some (.fz is,K4)) (hk:kr∉K1++(K2++(K3++K4))):
  oH (.ptr kr 0) [[]] en=some ((W.applyAll en ((K1++(K2++(K3++K4))).map .frz)).set kr (some (.box [.fz n,.fz f,.i m,.fz c,.fz os,.fz ts,.fz us,.fz is,.i u] false))):=by
 have:=aE0 (rs:=[(.fz n,[]),(.fz f,[]),(.i m,[]),(.fz c,[]),(.fz os,K1),(.fz ts,K2),(.fz us,K3),(.fz is,K4),(.i u,[])]) h (by simp only[aBu,aEf,aEz,aPm,hO,hT,hU,hI]) (by simpa using hk)
 simp only[bS5,bSn,bRk,bRo,bRj,bQ1]at this;exact aKv this
theorem pI (h:k'≠k):(W.frz k).apply en k'=en k':=by
 simp only[W.apply];cases en k with
 |none=>rfl
 |some e=>exact jE h
theorem aE1 (h:TS kt kr en cnt p w a left f n back bv){l:List aB}(hl:iZ lv (l.map aB.enc))(hc:left.length+l.length<=40):
  WIn L (.fn 204 [] []) [.ptr kt 0,lv] en cnt fun v en' cnt'=>v= .tup []/\ (∃bv',TS kt kr en' cnt' p w a (left++l) f n back bv')/\ dR kt kr en cnt en' cnt':=by
 have hw:IntKind.i64.wrap ((left.length:Int)+(l.length:Int))=((left.length+l.length:Nat):Int):=by rw[aV (by omega)];omega
 have d:decide (((left.length+l.length:Nat):Int)<=40)=true:=D_t (by omega)
 have hlen:tP lv=some l.length:=by rw[hl.len,bQl]
 have hel:=hl.elems;have s1:=h.okt.set;have s2:=h.okr.set;have n1:=h.okt.new;have hl16:left.length+l.length<=16777216:=by omega
 have ht:=h.t;have hr:=h.r;have hb:=h.ob;have hL:=at_ func204
 conv at hL=>rhs;reduce
 refine rL hL rfl rfl ?_
 simp only[go_sem,kK]
 refine bR ?_
 simp only[go_sem,ht,hlen,bQl,hw,d,(gX _).ret,(aCn _).ret,bP,eB,hel,uS,jB,hl16]
 by_cases hl0:l=[]
 ·subst hl0;simp only[go_sem,bQ1,aKu,pZ,lA,ht];rw[bBw (K:=[]) cC rfl hb (by simp)]
  simp only[bQ1,fN];exact⟨⟨_,h.okt,h.okr,h.ne,.inl rfl,cC,by rw[aI h.ne,aI h.ne];exact hr⟩,fun k hk a b=>by rw[aI a,aI a],fun _=>bQk _⟩
 ·have hne:l.map aB.enc≠[]:=by simpa using hl0
  have nk:kt≠⟨0,21,cnt 0 21⟩:=h.okt.ne;have nr:kr≠⟨0,21,cnt 0 21⟩:=h.okr.ne;simp only[go_sem,aBz hne,uP,nM,s1,ht,bQl];rw[bBw (K:=[⟨0,21,cnt 0 21⟩]) (xs:=(left++l).map aB.enc) cC (sX (by rw[n1];exact cC.trans (by rw[<-bRl])) (by simp)) hb (by simpa using nk)]
  simp only[bRj,bQ1,kL,fN];have hu:=upS (aM cnt) (a:=21) (x:=cnt 0 21+1) (by omega)
  refine⟨⟨_,h.okt.up hu,h.okr.up hu,h.ne,.inl rfl,cC,?_⟩,fun k hk a b=>?_,hu⟩
  ·rw[aI h.ne,pI nr,aI h.ne,s2];exact hr
  ·rw[aI a,pI hk.ne,aI a,hk.set]
def RB (kr:Key)(en:En)(p:aF):Prop:= ∃O T U I u,en kr=some (.box [.fz (p.nodes.map aK.enc),.is p.funs,.i p.main,.fz (p.cons.map cV.enc),O,T,U,I,u] false)
theorem TS.rb (h:TS kt kr en cnt p w a left f n back bv):RB kr en p:=⟨_,_,_,_,_,h.r⟩
structure oY (kt kr:Key) (en:En) (cnt:Nat->Nat->Nat) (p:aF) (s:Int) (v:Val) (en':En) (cnt':Nat->Nat->Nat):Prop where
 v:v=aEx s
 keep:dR kt kr en cnt en' cnt'
 rb:RB kr en' p
theorem aKw (h:TS kt kr en cnt p w a left f n back bv){l:List aB}(hl:iZ lv (l.map aB.enc))(hc:40<left.length+l.length)(hs:left.length+l.length<=1000000):
  vC L 204 [.ptr kt 0,lv] en cnt (oY kt kr en cnt p 4):=by
 have hw:IntKind.i64.wrap ((left.length:Int)+(l.length:Int))=((left.length+l.length:Nat):Int):=by rw[aV (by omega)];omega
 have d:decide (((left.length+l.length:Nat):Int)<=40)=false:=D_f (by omega)
 have hlen:tP lv=some l.length:=by rw[hl.len,bQl]
 have ht:=h.t
 refine jP func204 ?_
 simp only[go_sem,kK]
 refine cO 9 rfl ?_
 simp only[go_sem,bQs,bQq,ht,hlen,bQl,hw,d,(kE _).ret];exact⟨rfl,dR.refl _ _ _ _,h.rb⟩
theorem TS.fell {l0:List aB}(h0:TS kt kr en cnt p w0 a l0 f n b0 bv0)(h:TS kt kr en' cnt' p w a left f n back bv)(k:dR kt kr en cnt en' cnt')(hk: ∀k,Old k cnt->Old k cnt'->en2 k=en' k)(hu: ∀t,cnt' 0 t<=cnt2 0 t):
  oY kt kr en cnt p s (aEx s) en2 cnt2:=by
 obtain⟨⟨bv3,h3⟩,k3⟩:=h0.fin h k hk hu;exact⟨rfl,k3,h3.rb⟩
theorem TS.fell0 (h:TS kt kr en cnt p w a left f n back bv)(hk: ∀k,Old k cnt->en' k=en k)(hu: ∀t,cnt 0 t<=cnt' 0 t):oY kt kr en cnt p s (aEx s) en' cnt':=by
 obtain⟨⟨bv3,h3⟩,k3⟩:=h.stay hk hu;exact⟨rfl,k3,h3.rb⟩
theorem oY.then (k:dR kt kr en cnt en' cnt')(h:oY kt kr en' cnt' p s v en2 cnt2):oY kt kr en cnt p s v en2 cnt2:=⟨h.v,k.trans h.keep,h.rb⟩
end
variable {V r ev:Val}{x:Int}{E:En}{w':aA}{j:Nat}{l:List aD}
section
variable {n:aK}
def aPn :Val:= .ifc 265 (.agg [])
def aWf :Val:= .ifc 254 (.agg [])
def aHr (e:gS):Val:= .ifc 257 (.agg [.i e.task,.i e.act,.i e.n,.i e.v.kind,.i e.v.n])
theorem iP (h:TS kt kr en cnt p w a left f n back bv)(v:aD):
  WIn L (.fn 304 [] []) [.ptr kt 0,.agg [.i v.kind,.i v.n]] en cnt fun r en' cnt'=>r=aPn/\ (∃bv',TS kt kr en' cnt' p w a left f n [v] bv')/\ dR kt kr en cnt en' cnt':=by
 have H:=h.pre;have hn:=h.ne;have ht:=h.t;have hr:=h.r;have s2:=h.okr.set
 refine gR func304 ?_
 simp only[go_sem,kK,ht,H,kB];have hu:=upS (aM cnt) (a:=3) (x:=cnt 0 3+1) (by omega)
 exact⟨rfl,⟨_,h.okt.up hu,h.okr.up hu,hn,.inr rfl,cC,by rw[aI hn,s2];exact hr⟩,fun k hk a b=>by simp only[hk.set,aI a],hu⟩
theorem qN (h:TS kt kr en cnt p w a left f n back bv)(v e:aD):
  WIn L (.fn 314 [] []) [.ptr kt 0,.agg [.i v.kind,.i v.n],.agg [.i e.kind,.i e.n]] en cnt fun r en' cnt'=>r=aHr ⟨a,n.op,if n.op=24 then n.n else 0,nE e⟩/\ (∃bv',TS kt kr en' cnt' p w a left f n [v] bv')/\ dR kt kr en cnt en' cnt':=by
 have H:=h.pre;have hn:=h.ne;have ht:=h.t;have hr:=h.r
 refine gR func314 ?_
 simp only[go_sem,kK,ht,H,kB]
 refine aG ?_
 by_cases h24:n.op=24
 ·have d24:decide (n.op=24)=true:=D_t h24;simp only[go_sem,kK,(xP _).ret,d24,H,kA,kF];have hu: ∀t,cnt 0 t<=aC (aC (aC cnt 0 4 (cnt 0 4+1)) 0 5 (cnt 0 5+1)) 0 7 (cnt 0 7+1) 0 t:=(by(repeat refine upS ?_ (by omega));exact aM _)
  exact⟨by simp only[if_pos h24,aHr],⟨_,h.okt.up hu,h.okr.up hu,hn,.inr rfl,by simp only[H,cC];rfl,by simp only[H];exact hr⟩,fun k hk a b=>by simp only[hk.set,aI a],hu⟩
 ·have d24:decide (n.op=24)=false:=D_f h24;simp only[go_sem,kK,(xP _).ret,d24,H,kA,kF];have hu: ∀t,cnt 0 t<=aC (aC (aC cnt 0 4 (cnt 0 4+1)) 0 5 (cnt 0 5+1)) 0 7 (cnt 0 7+1) 0 t:=(by(repeat refine upS ?_ (by omega));exact aM _)
  exact⟨by simp only[if_neg h24,aHr],⟨_,h.okt.up hu,h.okr.up hu,hn,.inr rfl,by simp only[H,cC];rfl,by simp only[H];exact hr⟩,fun k hk a b=>by simp only[hk.set,aI a],hu⟩
theorem aNn {F1:Val}(ht:en kt=some (.box [.ptr kr 0,.i a,F1,.i f.node,.fz (f.env.map aD.enc),.fz (f.vals.map aD.enc),.i n.op,.i n.n,.is n.kids,.fz (n.pats.map Pat.enc),bv] false))(ok:Old kt cnt)(v e:aD):
  WIn L (.fn 314 [] []) [.ptr kt 0,.agg [.i v.kind,.i v.n],.agg [.i e.kind,.i e.n]] en cnt fun r en' cnt'=>r=aHr ⟨a,n.op,if n.op=24 then n.n else 0,nE e⟩/\
   en' kt=some (.box [.ptr kr 0,.i a,F1,.i f.node,.fz (f.env.map aD.enc),.fz (f.vals.map aD.enc),.i n.op,.i n.n,.is n.kids,.fz (n.pats.map Pat.enc),.cl [.agg [.i v.kind,.i v.n]]] false)/\ (∀k,Old k cnt->k≠kt->en' k=en k)/\ ∀t,cnt 0 t<=cnt' 0 t:=by
 have s1:=ok.set;have n1:=ok.new;have m1:=ok.eqF;have o1:=ok.eqF'
 refine gR func314 ?_
 simp only[go_sem,kK,ht,s1,kB]
 refine aG ?_
 by_cases h24:n.op=24
 ·have d24:decide (n.op=24)=true:=D_t h24;simp only[go_sem,kK,(xP _).ret,d24,s1,n1,m1,kA,kF];exact⟨by simp only[if_pos h24,aHr],fun k hk a=>by simp only[hk.set,aI a],(by(repeat refine upS ?_ (by omega));exact aM _)⟩
 ·have d24:decide (n.op=24)=false:=D_f h24;simp only[go_sem,kK,(xP _).ret,d24,s1,n1,m1,kA,kF];exact⟨by simp only[if_neg h24,aHr],fun k hk a=>by simp only[hk.set,aI a],(by(repeat refine upS ?_ (by omega));exact aM _)⟩
theorem rX {y:Val}:aU1 d g size xs [y] rs=some {v:= .bl ⟨0,d,g⟩ 0 (xs.length+1),ws:=[.ent ⟨0,d,g⟩ (some (.blk size (xs++[y]) (!xs.isEmpty)))],rs,bump:=true}:=aBz (by simp)
theorem aWg {y:Int}{FV:Val}:cT 4 [.agg [.i x,.i y,V,FV]]=true:=(rfl)
theorem vX {cnt:Nat->Nat->Nat}{k:Key}(h:Old k cnt): ∀{K:List Key},(∀x∈K,∃d,x=⟨0,d,cnt 0 d⟩)-> ∀(E:En),W.applyAll E (K.map .frz) k=E k
 |[],_,_=>rfl
 |x::K,hK,E=>by
  have:W.applyAll E ((x::K).map .frz)=W.applyAll ((W.frz x).apply E) (K.map .frz):=rfl;rw[this,vX h fun y hy=>hK y (bSo _ hy)]
  obtain⟨d,rfl⟩:=hK x (bTv ..);exact pI h.ne
theorem bGb (h:TS kt kr en cnt p w a left f n back bv)(ht:E kt=en kt)
  (hr:E kr=some (.box [.fz (p.nodes.map aK.enc),.is p.funs,.i p.main,.fz (p.cons.map cV.enc),O,T,U,I,.i w'.used] false))
  (hO:cN E O=some (.fz (w'.objs.map aN.enc),K1)) (hT:cN E T=some (.is w'.tasks,K2)) (hU:cN E U=some (.fz (w'.outs.map bL.enc),K3)) (hI:cN E I=some (.is w'.ins,K4))
  (hK: ∀k∈K1++(K2++(K3++K4)),∃d,k=⟨0,d,cnt 0 d⟩) (hk: ∀k,Old k cnt->k≠kt->k≠kr->E k=en k) (hu: ∀t,cnt 0 t<=c 0 t) (hv:v=r):
  match oH (.ptr kt 0) [[0]] E with
  |some en'=>v=r/\ (∃bv',TS kt kr en' c p w' a left f n back bv')/\ dR kt kr en cnt en' c
  |none=>False:=by
 have hkn:kr∉K1++(K2++(K3++K4)):=fun hm=>by obtain⟨d,e⟩:=hK kr hm;exact h.okr.ne e
 rw[aU2 (ht.trans h.t) hr hO hT hU hI hkn]
 refine⟨hv,⟨bv,h.okt.up hu,h.okr.up hu,h.ne,h.ob,?_,cC⟩,fun k ho k1 k2=>?_,hu⟩
 ·rw[aI h.ne.symm,vX h.okt hK,ht];exact h.t
 ·rw[aI k2,vX ho hK];exact hk k ho k1 k2
theorem bBx (h:TS kt kr en cnt p w a left f n back bv)(ht:E kt=en kt)
  (hr:E kr=some (.box [.fz (p.nodes.map aK.enc),.is p.funs,.i p.main,.fz (p.cons.map cV.enc),O,T,U,I,.i w'.used] false))
  (hO:cN E O=some (.fz (w'.objs.map aN.enc),K1)) (hT:cN E T=some (.is w'.tasks,K2)) (hU:cN E U=some (.fz (w'.outs.map bL.enc),K3)) (hI:cN E I=some (.is w'.ins,K4))
  (hK: ∀k∈K1++(K2++(K3++K4)),∃d,k=⟨0,d,cnt 0 d⟩) (hk: ∀k,Old k cnt->k≠kt->k≠kr->E k=en k) (hu: ∀t,cnt 0 t<=c 0 t):
  match oH (.ptr kt 0) [[0]] E with
  |some en'=>(∃bv',TS kt kr en' c p w' a left f n back bv')/\ dR kt kr en cnt en' c
  |none=>False:=by
 have:=bGb h ht hr hO hT hU hI hK hk hu (rfl:Val.nilp=Val.nilp)
 split at this
 ·exact this.2
 ·exact this
theorem aB0 (d:Nat): ∀k∈[(⟨0,d,cnt 0 d⟩:Key)]++([]++([]++[])),∃d,k=⟨0,d,cnt 0 d⟩:=by simp
theorem rH (h:TS kt kr en cnt p w a left f n back bv){o:aN}{FV:Val}(hV:iZ V (o.vals.map aD.enc))(hF:iZ FV (o.frames.map aB.enc))(hc:w.objs.length<120):
  WIn L (.fn 308 [] []) [.ptr kt 0,.agg [.i o.form,.i o.n,V,FV]] en cnt fun r en' cnt'=>r= .agg [.i (dK w.objs.length).kind,.i (dK w.objs.length).n]/\ (∃bv',TS kt kr en' cnt' p (dU w o) a left f n back bv')/\ dR kt kr en cnt en' cnt':=by
 have H:=h.pre;have ht:=h.t;have hr:=h.r;have d:decide ((w.objs.length:Int)<120)=true:=D_t (by omega)
 have hl:w.objs.length+1<=16777216:=by omega
 have hw:IntKind.i64.wrap (((w.objs.length+1:Nat):Int)-1)=(w.objs.length:Int):=by rw[aV (by omega)];omega
 have hA:w.objs.map aN.enc++[.agg [.i o.form,.i o.n,.fz (o.vals.map aD.enc),.fz (o.frames.map aB.enc)]]=(dU w o).objs.map aN.enc:=by simp[dU,aN.enc]
 have hAl:w.objs.length+1=((dU w o).objs.map aN.enc).length:=by simp[dU]
 have hL:=at_ func308
 conv at hL=>rhs;reduce
 refine rL hL rfl rfl ?_
 simp only[go_sem,kK]
 refine bR ?_
 simp only[go_sem,ht,hr,H,bQl,d,(gX _).ret]
 refine aG ?_
 rcases hV with rfl|rfl<;>rcases hF with rfl|rfl<;>
 (simp only[go_sem,ht,hr,H,kB,bQl,(aHp _).ret,bP,eB,uS,zB,aWg,hl,rX,hw,hA,kA,kF]
  exact bGb h (w':=dU w o) (by simp only[H]) (by simp only[H,cC];rfl) (sX (by simp only[go_sem,H];rfl) hAl) rfl rfl rfl (aB0 31) fun k hk a b=>by simp only[hk.set,aI b] (by(repeat refine upS ?_ (by omega));exact aM _) rfl)
theorem oZ (h:TS kt kr en cnt p w a left f n back bv){o:aN}{FV:Val}(hc:120<=w.objs.length)(hs:w.objs.length<=1000000):
  vC L 308 [.ptr kt 0,.agg [.i o.form,.i o.n,V,FV]] en cnt (oY kt kr en cnt p 4):=by
 have H:=h.pre;have ht:=h.t;have hr:=h.r;have d:decide ((w.objs.length:Int)<120)=false:=D_f (by omega)
 refine jP func308 ?_
 simp only[go_sem,kK]
 refine cO 10 rfl ?_
 simp only[go_sem,bQs,bQq,ht,hr,H,bQl,d,(kE _).ret];exact⟨rfl,⟨fun k hk a b=>by simp only[hk.set],(by(repeat refine upS ?_ (by omega));exact aM _)⟩,_,_,_,_,_,by simp only[H];exact hr⟩
theorem zC (xs:List Val)(h1:cT 4 xs=true)(hl:xs.length<=16777216):PC L 203 [.fz xs] (sI 4 xs):=by
 cases xs with
 |nil=>
  have hL:=at_ func203
  conv at hL=>rhs;reduce
  refine aJr hL rfl rfl (.inl rfl) (pW ?_) (pW ?_)
  ·simp only[go_sem,kK,wO];rfl
  ·simp only[go_sem,kK,wO]
   refine rV (b:=false) (by simp only[go_sem]) (by simp only[go_sem]) ?_
   simp only[go_sem];rfl
 |cons x xs=>
  refine pcA func203 ?_
  simp only[go_sem,kK,aEu]
  refine qF (by simp only[go_sem]) (by simp only[go_sem]) h1 hl ?_
  simp only[go_sem];rfl
theorem aKx (h:TS kt kr en cnt p w a left f n back bv){o:aN}{FV:Val}(hV:iZ V (o.vals.map aD.enc))(hF:iZ FV (o.frames.map aB.enc))(hj:j<w.objs.length)(hs:w.objs.length<=1000000):
  WIn L (.fn 315 [] []) [.ptr kt 0,.i j,.agg [.i o.form,.i o.n,V,FV]] en cnt fun r en' cnt'=>r= .tup []/\ (∃bv',TS kt kr en' cnt' p (cW w j o) a left f n back bv')/\ dR kt kr en cnt en' cnt':=by
 have H:=h.pre;have ht:=h.t;have hr:=h.r;have hl:(w.objs.map aN.enc).length<=16777216:=by rw[bQl];omega
 have hC:=zC (w.objs.map aN.enc) (zB _) hl;have hne:w.objs.map aN.enc≠[]:=by intro he;have h0:=congrArg List.length he;simp at h0;rw[h0]at hj;simp at hj
 rw[pK hne]at hC;have hget:(w.objs.map aN.enc)[j]?=some (aN.enc w.objs[j]):=by simp[hj]
 have hS:(w.objs.map aN.enc).set j (.agg [.i o.form,.i o.n,.fz (o.vals.map aD.enc),.fz (o.frames.map aB.enc)])=(cW w j o).objs.map aN.enc:=by simp[cW,bSz,aN.enc]
 have hSl:w.objs.length=((cW w j o).objs.map aN.enc).length:=by simp[cW]
 have hL:=at_ func315
 conv at hL=>rhs;reduce
 refine rL hL rfl rfl ?_
 simp only[go_sem,kK]
 refine aG ?_
 simp only[go_sem,ht,hr,H,kB,hC.ret,kA,kF];rcases hV with rfl|rfl<;>rcases hF with rfl|rfl<;>
 (simp only[go_sem,H,hget,hj,eP,bS7,bRh,hS]
  exact bBx h (w':=cW w j o) (by simp only[H]) (by simp only[H,cC];rfl) (sX cC hSl) rfl rfl rfl (aB0 18) fun k hk a b=>by simp only[hk.set,aI b] (by(repeat refine upS ?_ (by omega));exact aM _))
theorem aU3 (h:TS kt kr en cnt p w a left f n back bv){o:aN}(hb:en ⟨0,t,g⟩=some (.blk 2 (o.vals.map aD.enc) b))(hg:g<cnt 0 t){FV:Val}(hF:iZ FV (o.frames.map aB.enc))(hj:j<w.objs.length)(hs:w.objs.length<=1000000):
  WIn L (.fn 315 [] []) [.ptr kt 0,.i j,.agg [.i o.form,.i o.n,.bl ⟨0,t,g⟩ 0 o.vals.length,FV]] en cnt fun r en' cnt'=>r= .tup []/\ (∃bv',TS kt kr en' cnt' p (cW w j o) a left f n back bv')/\
   (∀k,Old k cnt->k≠kt->k≠kr->k≠⟨0,t,g⟩->en' k=en k)/\ ∀t,cnt 0 t<=cnt' 0 t:=by
 have s1:=h.okt.set;have s2:=h.okr.set;have n1:=h.okt.new;have n2:=h.okr.new;have hn:=h.ne;have ht:=h.t;have hr:=h.r;have m1:=h.okt.eqF;have m2:=h.okr.eqF;have o1:=h.okt.eqF';have o2:=h.okr.eqF';have x1: ∀(en:En) (e:Option Ent),En.set en kt e kr=en kr:=fun _ _=>aI hn;have x2: ∀(en:En) (e:Option Ent),En.set en kr e kt=en kt:=fun _ _=>aI hn.symm
 have hl:(w.objs.map aN.enc).length<=16777216:=by rw[bQl];omega
 have hC:=zC (w.objs.map aN.enc) (zB _) hl;have hne:w.objs.map aN.enc≠[]:=by intro he;have h0:=congrArg List.length he;simp at h0;rw[h0]at hj;simp at hj
 rw[pK hne]at hC;have hget:(w.objs.map aN.enc)[j]?=some (aN.enc w.objs[j]):=by simp[hj]
 have hS:(w.objs.map aN.enc).set j (.agg [.i o.form,.i o.n,.fz (o.vals.map aD.enc),.fz (o.frames.map aB.enc)])=(cW w j o).objs.map aN.enc:=by simp[cW,bSz,aN.enc]
 have hSl:w.objs.length=((cW w j o).objs.map aN.enc).length:=by simp[cW]
 have hT:List.take o.vals.length (o.vals.map aD.enc)=o.vals.map aD.enc:=by rw[bQ3 (by simp)]
 have hob:Old ⟨0,t,g⟩ cnt:=⟨rfl,hg⟩;have b1:=hob.set;have bn:(⟨0,t,g⟩:Key)≠⟨0,18,cnt 0 18⟩:=hob.ne;have bF:((⟨0,t,g⟩:Key)=⟨0,18,cnt 0 18⟩)=False:=by simp only[eq_iff_iff,iff_false];exact bn
 have q1:(⟨0,t,g⟩:Key)≠kr:=by rintro rfl;rw[hr]at hb;cases hb
 have q2:(⟨0,t,g⟩:Key)≠kt:=by rintro rfl;rw[ht]at hb;cases hb
 have b2: ∀(en:En) (e:Option Ent),En.set en kr e ⟨0,t,g⟩=en ⟨0,t,g⟩:=fun _ _=>aI q1
 have b3: ∀(en:En) (e:Option Ent),En.set en ⟨0,t,g⟩ e ⟨0,18,cnt 0 18⟩=en ⟨0,18,cnt 0 18⟩:=fun _ _=>aI bn.symm
 have b4: ∀(en:En) (e:Option Ent),En.set en ⟨0,t,g⟩ e kr=en kr:=fun _ _=>aI q1.symm
 have b5: ∀(en:En) (e:Option Ent),En.set en ⟨0,t,g⟩ e kt=en kt:=fun _ _=>aI q2.symm
 have hL:=at_ func315
 conv at hL=>rhs;reduce
 refine rL hL rfl rfl ?_
 simp only[go_sem,kK]
 refine aG ?_
 simp only[go_sem,ht,hr,s1,s2,n2,m1,x2,kB,hC.ret,kA,kF];rcases hF with rfl|rfl<;>
 (simp only[go_sem,n2,hget,hj,b1,b2,b3,bF,hb,bQl,eP,bS7,bRh,bQk,W.apply,Ent.freeze,decide_not,bQ5,decide_false,hT,hS]
  have hu: ∀t,cnt 0 t<=aC (aC cnt 0 5 (cnt 0 5+1)) 0 18 (cnt 0 18+1) 0 t:=(by(repeat refine upS ?_ (by omega));exact aM _)
  rw[aU2 (K1:=[⟨0,18,cnt 0 18⟩]) (K2:=[]) (K3:=[]) (K4:=[]) (os:=(cW w j o).objs.map aN.enc) (by simp only[s1,b5,x2];exact ht) (by simp only[s2,b4,cC];rfl) (sX cC hSl) rfl rfl rfl (by simp[o2])]
  refine⟨⟨bv,h.okt.up hu,h.okr.up hu,hn,h.ob,?_,cC⟩,fun k hk k1 k2 k3=>?_,hu⟩
  ·rw[x2,vX h.okt (aB0 18)];simp only[s1,b5,x2];exact ht
  ·rw[aI k2,vX hk (aB0 18),hk.set,aI k3,aI k2,hk.set,hk.set])
theorem aE2 (env l:List aD)(hc:env.length+l.length<=30):PC L 311 [.fz (env.map aD.enc),.fz (l.map aD.enc)] (.fz ((env++l).map aD.enc)):=by
 have hw:IntKind.i64.wrap ((env.length:Int)+(l.length:Int))=((env.length+l.length:Nat):Int):=by rw[aV (by omega)];omega
 have d:decide (((env.length+l.length:Nat):Int)<=30)=true:=D_t (by omega)
 have hl:env.length+l.length<=16777216:=by omega
 refine pcA func311 ?_
 simp only[go_sem,kK]
 refine bR ?_
 simp only[go_sem,hw,d,bQl,(gX _).ret,(aA3 _).ret,bP,eB,uS,sW,hl]
 by_cases h0:l=[]
 ·subst h0;simp only[go_sem,bQ1,aKu,bRk]
 ·have hne:l.map aD.enc≠[]:=by simpa using h0
  simp only[go_sem,aBz hne,bQl,bQ2,bQk];rw[<-bRl,bQ3 (by simp)]
theorem aIl (env l:List aD)(hc:30<env.length+l.length)(hs:env.length+l.length<=1000000):PX L 311 [.fz (env.map aD.enc),.fz (l.map aD.enc)] (aEx 4):=by
 have hw:IntKind.i64.wrap ((env.length:Int)+(l.length:Int))=((env.length+l.length:Nat):Int):=by rw[aV (by omega)];omega
 have d:decide (((env.length+l.length:Nat):Int)<=30)=false:=D_f (by omega)
 refine pxA func311 ?_
 simp only[go_sem,kK]
 refine cO 6 rfl ?_
 simp only[go_sem,bQs,bQq,hw,d,bQl,(kE _).ret]
theorem xQ (h:TS kt kr en cnt p w a left f n back bv){i:Nat}(hi:i<n.kids.length){env:List aD}(hev:iZ ev (env.map aD.enc))(hc:left.length<40):
  WIn L (.fn 207 [] []) [.ptr kt 0,.i i,ev] en cnt fun r en' cnt'=>r=aPn/\ (∃bv',TS kt kr en' cnt' p w a (left++[⟨n.kids.getD i 0,env,[]⟩]) f n back bv')/\ dR kt kr en cnt en' cnt':=by
 have H:=h.pre;have ht:=h.t;have hg:n.kids.getD i 0=n.kids[i]:=by simp[bQn,hi]
 refine gR func207 ?_
 simp only[go_sem,kK]
 refine bR ?_
 rcases hev with rfl|rfl<;>
 (simp only[go_sem,ht,kB,hi]
  refine(aE1 h (l:=[⟨n.kids.getD i 0,env,[]⟩]) (.inr (by rw[hg];rfl)) (by simp only[bQu,bQz];omega)).mono ?_
  rintro v e1 c1 ⟨_,t1,k1⟩
  exact⟨rfl,t1,k1⟩)
theorem xR (h:TS kt kr en cnt p w a left f n back bv){i:Nat}(hi:i<n.kids.length){env:List aD}(hev:iZ ev (env.map aD.enc))(hc:left.length=40):
  vC L 207 [.ptr kt 0,.i i,ev] en cnt (oY kt kr en cnt p 4):=by
 have H:=h.pre;have ht:=h.t;have hg:n.kids.getD i 0=n.kids[i]:=by simp[bQn,hi]
 refine jP func207 ?_
 simp only[go_sem,kK]
 refine cO 12 rfl ?_
 rcases hev with rfl|rfl<;>
 (simp only[go_sem,bQs,bQq,ht,kB,hi]
  exact aKw h (l:=[⟨n.kids.getD i 0,env,[]⟩]) (.inr (by rw[hg];rfl)) (by simp;omega) (by simp;omega))
theorem rI (h:TS kt kr en cnt p w a left f n back bv){v:aD}(hv:v.kind=5->inR v.n 0 ((w.objs.length:Int)-1)=true)(form:Int):
  WIn L (.fn 340 [] []) [.ptr kt 0,.agg [.i v.kind,.i v.n],.i form] en cnt fun r en' cnt'=>(∃x,r= .tup [x,.bool (bY w v form)]/\ (x= .agg [.i 0,.i 0,.cl [],.cl []]/\ bY w v form=false \/x=aN.enc (w.obj v.n)/\ bY w v form=true))/\ (∃bv',TS kt kr en' cnt' p w a left f n back bv')/\ dR kt kr en cnt en' cnt':=by
 have H:=h.pre;have ht:=h.t;have hr:=h.r
 refine gR func340 ?_
 by_cases h5:v.kind=5
 ·have d5:decide (v.kind=5)=true:=D_t h5;have hin:=hv h5;have hob:=fun en=>yT (w:=w) (i:=v.n) (k:= .i64) (en:=en) hin
  by_cases hf:(w.obj v.n).form=form
  ·have df:decide ((w.obj v.n).form=form)=true:=D_t hf;have hI:bY w v form=true:=by simp[bY,h5,hf]
   simp only[go_sem,kK,H,ht,hr,d5,hob,df];exact⟨⟨_,by rw[hI],.inr ⟨rfl,hI⟩⟩,h.stay (fun k hk=>by simp only[hk.set]) (by(repeat refine upS ?_ (by omega));exact aM _)⟩
  ·have df:decide ((w.obj v.n).form=form)=false:=D_f hf;have hI:bY w v form=false:=by simp[bY,h5,hf]
   simp only[go_sem,kK,H,ht,hr,d5,hob,df];exact⟨⟨_,by rw[hI],.inl ⟨rfl,hI⟩⟩,h.stay (fun k hk=>by simp only[hk.set]) (by(repeat refine upS ?_ (by omega));exact aM _)⟩
 ·have d5:decide (v.kind=5)=false:=D_f h5;have hI:bY w v form=false:=by simp[bY,h5]
  simp only[go_sem,kK,d5];exact⟨⟨_,by rw[hI],.inl ⟨rfl,hI⟩⟩,h.stay (fun k hk=>by simp only[hk.set]) (by(repeat refine upS ?_ (by omega));exact aM _)⟩
theorem uT (h:TS kt kr en cnt p w a left f n back bv){v:aD}(hv:v.kind=5->inR v.n 0 ((w.objs.length:Int)-1)=true)(form:Int)(hI:bY w v form=true):
  WIn L (.fn 310 [] []) [.ptr kt 0,.agg [.i v.kind,.i v.n],.i form] en cnt fun r en' cnt'=>r= .agg [.i (w.obj v.n).form,.i (w.obj v.n).n,.fz ((w.obj v.n).vals.map aD.enc),.fz ((w.obj v.n).frames.map aB.enc)]/\ (∃bv',TS kt kr en' cnt' p w a left f n back bv')/\ dR kt kr en cnt en' cnt':=by
 refine gR func310 ?_
 simp only[go_sem,kK];obtain⟨⟨bv1,h1⟩,k1⟩:=h.stay (cnt':=aC (aC cnt 0 4 (cnt 0 4+1)) 0 6 (cnt 0 6+1)) (en':=(en.set ⟨0,4,cnt 0 4⟩ (some (.box [.i v.kind,.i v.n] false))).set ⟨0,6,cnt 0 6⟩ (some (.box [.i 0,.i 0,.cl [],.cl []] false))) (fun k hk=>by simp only[hk.set]) (by(repeat refine upS ?_ (by omega));exact aM _)
 refine(rI h1 hv form).mono ?_
 rintro r e1 c1 ⟨⟨x,rfl,hx⟩,⟨bv2,h2⟩,k2⟩
 rcases hx with⟨_,hx⟩|⟨rfl,_⟩
 ·rw[hI]at hx;cases hx
 have o6:=k2.old ⟨0,6,cnt 0 6⟩ ⟨rfl,by simp only[go_sem];omega⟩ h.okt.ne.symm h.okr.ne.symm
 simp only[go_sem]at o6;have v6: ∀(en:En) (d:Nat) (e:Option Ent),En.set en ⟨0,d,c1 0 d⟩ e ⟨0,6,cnt 0 6⟩=en ⟨0,6,cnt 0 6⟩:=(Old.up (cnt:=aC (aC cnt 0 4 (cnt 0 4+1)) 0 6 (cnt 0 6+1)) ⟨rfl,by simp only[go_sem];omega⟩ k2.up).set
 have w6: ∀(en:En) (d:Nat) (e:Option Ent),En.set en ⟨0,6,cnt 0 6⟩ e ⟨0,d,c1 0 d⟩=en ⟨0,d,c1 0 d⟩:=(Old.up (cnt:=aC (aC cnt 0 4 (cnt 0 4+1)) 0 6 (cnt 0 6+1)) ⟨rfl,by simp only[go_sem];omega⟩ k2.up).new
 simp only[go_sem,hI]
 refine bR ?_
 simp only[go_sem,(gX _).ret,o6,v6];exact h.fin h2 (k1.trans k2) (fun k hk hj=>by simp only[hk.set,hj.set]) (by(repeat refine upS ?_ (by omega));exact aM _)
theorem uU (h:TS kt kr en cnt p w a left f n back bv){v:aD}(hv:v.kind=5->inR v.n 0 ((w.objs.length:Int)-1)=true)(form:Int)(hI:bY w v form=false):
  vC L 310 [.ptr kt 0,.agg [.i v.kind,.i v.n],.i form] en cnt (oY kt kr en cnt p 2):=by
 refine jP func310 ?_
 simp only[go_sem,kK];obtain⟨⟨bv1,h1⟩,k1⟩:=h.stay (cnt':=aC (aC cnt 0 4 (cnt 0 4+1)) 0 6 (cnt 0 6+1)) (en':=(en.set ⟨0,4,cnt 0 4⟩ (some (.box [.i v.kind,.i v.n] false))).set ⟨0,6,cnt 0 6⟩ (some (.box [.i 0,.i 0,.cl [],.cl []] false))) (fun k hk=>by simp only[hk.set]) (by(repeat refine upS ?_ (by omega));exact aM _)
 refine(rI h1 hv form).mono ?_
 rintro r e1 c1 ⟨⟨x,rfl,hx⟩,⟨bv2,h2⟩,k2⟩
 rcases hx with⟨rfl,_⟩|⟨_,hx⟩
 case inr=>rw[hI]at hx;cases hx
 simp only[go_sem,hI]
 refine cO 1 rfl ?_
 simp only[go_sem,bQs,bQq,(kE _).ret];obtain⟨⟨bv3,h3⟩,k3⟩:=h.fin h2 (k1.trans k2) (en2:=(e1.set ⟨0,7,c1 0 7⟩ (some (.box [.i 0,.i 0,.cl [],.cl []] false))).set ⟨0,7,c1 0 7⟩ (some (.box [.i 0,.i 0,.cl [],.cl []] false))) (cnt2:=aC c1 0 7 (c1 0 7+1)) (fun k hk hj=>by simp only[hj.set]) (by(repeat refine upS ?_ (by omega));exact aM _)
 exact⟨rfl,k3,h3.rb⟩
theorem aSm (h:1<l.length):mA 2 en (.fz (l.map aD.enc)) (.i 1)=some {v:= .fp [.i (aE l 1).kind,.i (aE l 1).n] 0}:=by
 have e:aE l 1=l[1]:=by simp[aE,bQn,h]
 rw[e];exact aUj (k:= .i64) (j:=1) h rfl
theorem aKy (h:0<l.length):mA 2 en (.fz (l.map aD.enc)) (.i 0)=some {v:= .fp [.i (aE l 0).kind,.i (aE l 0).n] 0}:=by
 have e:aE l 0=l[0]:=by simp[aE,bQn,h]
 rw[e];exact aUj (k:= .i64) (j:=0) h rfl
theorem aSn (h:TS kt kr en cnt p w a left f n back bv)(hv:f.vals.length=2)(h1:(aE f.vals 0).kind=1)(h2:(aE f.vals 1).kind=1):
  WIn L (.fn 312 [] []) [.ptr kt 0] en cnt fun r en' cnt'=>r= .tup [.i (aE f.vals 0).n,.i (aE f.vals 1).n]/\ en'=en/\ cnt'=cnt:=by
 have ht:=h.t;have d1:decide ((aE f.vals 0).kind=1)=true:=D_t h1;have d2:decide ((aE f.vals 1).kind=1)=true:=D_t h2
 refine gR func312 ?_
 simp only[go_sem,kK]
 refine bR ?_
 simp only[go_sem,kK,ht,aKy (l:=f.vals) (by omega),aSm (l:=f.vals) (by omega),d1,d2,(gX _).ret]
theorem aSo (h:TS kt kr en cnt p w a left f n back bv)(hv:f.vals.length=2)(h12: ¬(aE f.vals 0).kind=1 \/ ¬(aE f.vals 1).kind=1):
  vC L 312 [.ptr kt 0] en cnt (oY kt kr en cnt p 2):=by
 have ht:=h.t
 refine jP func312 ?_
 simp only[go_sem,kK]
 refine cO 20 rfl ?_
 by_cases h1:(aE f.vals 0).kind=1
 ·have d1:decide ((aE f.vals 0).kind=1)=true:=D_t h1;have d2:decide ((aE f.vals 1).kind=1)=false:=D_f (by rcases h12 with h|h;exact absurd h1 h;exact h)
  simp only[go_sem,kK,bQs,bQq,ht,aKy (l:=f.vals) (by omega),aSm (l:=f.vals) (by omega),d1,d2,(kE _).ret]
  exact⟨rfl,dR.refl _ _ _ _,h.rb⟩
 ·have d1:decide ((aE f.vals 0).kind=1)=false:=D_f h1;simp only[go_sem,kK,bQs,bQq,ht,aKy (l:=f.vals) (by omega),d1,(kE _).ret]
  exact⟨rfl,dR.refl _ _ _ _,h.rb⟩
end
def xS (en:En)(cnt:Nat->Nat->Nat)(v:Val)(size:Nat)(xs:List Val)(t:Nat):Prop:=(v= .cl []/\ xs=[]) \/ ∃g,v= .bl ⟨0,t,g⟩ 0 xs.length/\ en ⟨0,t,g⟩=some (.blk size xs false)/\ g<cnt 0 t/\ xs.isEmpty=false
variable {ga:Nat}
theorem jI {a:Nat}(h:cnt 0 a<=ga)(hg:g<cnt 0 t):En.set en ⟨0,a,ga⟩ e ⟨0,t,g⟩=en ⟨0,t,g⟩:=by
 refine jE fun he=>?_
 injection he with h1 h2 h3
 subst h2;subst h3;omega
theorem oI {a:Nat}(h: ∀t,cnt 0 t<=c 0 t)(hg:ga=cnt 0 a): ∀t,cnt 0 t<=aC c 0 a (ga+1) 0 t:=by
 intro t
 by_cases ht:t=a
 ·subst ht;rw[bAr];omega
 ·rw[bAs ht];exact h t
theorem xS.keep (h:xS en cnt v size xs t)(he: ∀g,g<cnt 0 t->en' ⟨0,t,g⟩=en ⟨0,t,g⟩)(hc:cnt 0 t<=cnt' 0 t):xS en' cnt' v size xs t:=by
 rcases h with h|⟨g,h1,h2,h3,h4⟩
 ·exact .inl h
 ·exact .inr ⟨g,h1,by rw[he g h3];exact h2,by omega,h4⟩
theorem aKz {off len:Nat}:iN en (.bl k off len)=(match en k with
  |some (.blk _ xs _)=>if off+len<=xs.length/\ k.deep=false then some ((xs.drop off).take len,[.val k])else none
  |_=>none):=(rfl)
def aE3 (en:En)(cnt:Nat->Nat->Nat)(w:aA)(vO vT vU vI:Val):Prop:=
 (vO= .fz (w.objs.map aN.enc)/\ vT= .fz (w.tasks.map (.int .i64))/\ vU= .fz (w.outs.map bL.enc)/\ vI= .fz (w.ins.map (.int .i64))) \/
 ∃gO gT,vO= .bl ⟨0,22,gO⟩ 0 w.objs.length/\ en ⟨0,22,gO⟩=some (.blk 4 (w.objs.map aN.enc) false)/\ gO<cnt 0 22/\ vT= .bl ⟨0,8,gT⟩ 0 w.tasks.length/\ en ⟨0,8,gT⟩=some (.blk 1 (w.tasks.map (.int .i64)) false)/\ gT<cnt 0 8/\
  xS en cnt vU 2 (w.outs.map bL.enc) 11/\ xS en cnt vI 1 (w.ins.map (.int .i64)) 14
variable {vI vO vT vU:Val}
theorem aE3.keep (h:aE3 en cnt w vO vT vU vI)(he: ∀t g,g<cnt 0 t->en' ⟨0,t,g⟩=en ⟨0,t,g⟩)(hc: ∀t,cnt 0 t<=cnt' 0 t):aE3 en' cnt' w vO vT vU vI:=by
 rcases h with h|⟨gO,gT,h1,h2,h3,h4,h5,h6,h7,h8⟩
 ·exact .inl h
 ·exact .inr ⟨gO,gT,h1,by rw[he _ _ h3];exact h2,bRa h3 (hc _),h4,by rw[he _ _ h6];exact h5,bRa h6 (hc _),h7.keep (fun g hg=>he _ g hg) (hc _),h8.keep (fun g hg=>he _ g hg) (hc _)⟩
theorem aA4 (en:En)(cnt:Nat->Nat->Nat)(w:aA):aE3 en cnt w (.fz (w.objs.map aN.enc)) (.fz (w.tasks.map (.int .i64))) (.fz (w.outs.map bL.enc)) (.fz (w.ins.map (.int .i64))):= .inl ⟨rfl,rfl,rfl,rfl⟩
structure vY (en:En) (cnt:Nat->Nat->Nat) (w:aA) (tail:List Val) (v:Val) (en':En) (cnt':Nat->Nat->Nat):Prop where
 parts: ∃g5 g8 vU vI,v= .agg (.bl ⟨0,5,g5⟩ 0 w.objs.length:: .bl ⟨0,8,g8⟩ 0 w.tasks.length::vU::vI:: .i w.used::tail)/\
   en' ⟨0,5,g5⟩=some (.blk 4 (w.objs.map aN.enc) false)/\ cnt 0 5<=g5/\ g5<cnt' 0 5/\ en' ⟨0,8,g8⟩=some (.blk 1 (w.tasks.map (.int .i64)) false)/\ cnt 0 8<=g8/\ g8<cnt' 0 8/\ xS en' cnt' vU 2 (w.outs.map bL.enc) 11/\ xS en' cnt' vI 1 (w.ins.map (.int .i64)) 14
 old: ∀t g,g<cnt 0 t->en' ⟨0,t,g⟩=en ⟨0,t,g⟩
 up: ∀t,cnt 0 t<=cnt' 0 t
theorem aE4 (w:aA)(h1:0<w.objs.length)(h2:0<w.tasks.length)(hl:w.objs.length<=130/\ w.tasks.length<=130/\ w.outs.length<=110/\ w.ins.length<=60)(hL:aE3 en cnt w vO vT vU vI):
  WIn L (.fn 121 [] []) [.agg [vO,vT,vU,vI,.i w.used]] en cnt fun v en' cnt'=>vY en cnt w [] v en' cnt':=by
 obtain⟨objs,tasks,outs,ins,used⟩:=w;dsimp only at h1 h2 hl;have hl1:objs.length<=16777216:=by omega
 have hl2:tasks.length<=16777216:=by omega
 have hl3:outs.length<=16777216:=by omega
 have hl4:ins.length<=16777216:=by omega
 have he1:objs.isEmpty=false:=aKp h1;have he2:tasks.isEmpty=false:=aKp h2;have tk1:((objs.map aN.enc).take objs.length)=objs.map aN.enc:=bQ3 (by simp)
 have tk2:((tasks.map (Val.int .i64)).take tasks.length)=tasks.map (.int .i64):=bQ3 (by simp)
 have tk3:((outs.map bL.enc).take outs.length)=outs.map bL.enc:=bQ3 (by simp)
 have tk4:((ins.map (Val.int .i64)).take ins.length)=ins.map (.int .i64):=bQ3 (by simp)
 obtain⟨g1,hg1⟩: ∃g,g=cnt 0 1:=⟨_,rfl⟩
 obtain⟨g2,hg2⟩: ∃g,g=cnt 0 2:=⟨_,rfl⟩
 obtain⟨g5,hg5⟩: ∃g,g=cnt 0 5:=⟨_,rfl⟩
 obtain⟨g8,hg8⟩: ∃g,g=cnt 0 8:=⟨_,rfl⟩
 obtain⟨g11,hg11⟩: ∃g,g=cnt 0 11:=⟨_,rfl⟩
 obtain⟨g14,hg14⟩: ∃g,g=cnt 0 14:=⟨_,rfl⟩
 have fin: ∀{vU vI:Val} {en':En} {cnt':Nat->Nat->Nat},en' ⟨0,5,g5⟩=some (.blk 4 (objs.map aN.enc) false)->g5<cnt' 0 5->en' ⟨0,8,g8⟩=some (.blk 1 (tasks.map (.int .i64)) false)->g8<cnt' 0 8->xS en' cnt' vU 2 (outs.map bL.enc) 11->xS en' cnt' vI 1 (ins.map (.int .i64)) 14->
   (∀t g,g<cnt 0 t->en' ⟨0,t,g⟩=en ⟨0,t,g⟩)->(∀t,cnt 0 t<=cnt' 0 t)->vY en cnt ⟨objs,tasks,outs,ins,used⟩ [] (.agg [.bl ⟨0,5,g5⟩ 0 objs.length,.bl ⟨0,8,g8⟩ 0 tasks.length,vU,vI,.i used]) en' cnt':=
  fun a1 a2 a3 a4 a5 a6 a7 a8=>⟨⟨g5,g8,_,_,rfl,a1,by omega,a2,a3,by omega,a4,a5,a6⟩,a7,a8⟩
 have old: ∀{t g:Nat},g<cnt 0 t-> ∀{e:En} {a ga:Nat} {x:Option Ent},ga=cnt 0 a->En.set e ⟨0,a,ga⟩ x ⟨0,t,g⟩=e ⟨0,t,g⟩:=fun hg _ _ _ _ h=>jI (bR4 h.symm) hg
 have hLz:=at_ func121
 conv at hLz=>rhs;reduce
 refine fR hLz rfl rfl ?_
 rcases hL with⟨rfl,rfl,rfl,rfl⟩|⟨gO,gT,rfl,eO,lO,rfl,eT,lT,mU,mI⟩
 ·simp only[go_sem,kK,<-hg1,<-hg2]
  refine aG ?_
  cases hu:outs.isEmpty<;>cases hi:ins.isEmpty
  all_goals
   try(have hu':outs=[]:=(by simpa using hu);subst hu')
   try(have hi':ins=[]:=(by simpa using hi);subst hi')
   simp only[go_sem,bP,eB,nN,iW,iI,he1,he2,hu,hi,hl1,hl2,hl3,hl4,zB,aBx,aPl,bQl,bQ1,<-hg5,<-hg8,<-hg11,<-hg14,kB,kA,bQm,if_false]
   refine fin (by simp only[go_sem]) (by simp[aC]) (by simp only[go_sem]) (by simp[aC]) ?_ ?_ ?_ ?_
   ·first
     |exact .inl ⟨rfl,rfl⟩
     |exact .inr ⟨g11,by rw[bQl],by simp only[go_sem],by simp[aC],by rw[iI];exact hu⟩
   ·first
     |exact .inl ⟨rfl,rfl⟩
     |exact .inr ⟨g14,by rw[bQl],by simp only[go_sem],by simp[aC],by rw[iI];exact hi⟩
   ·intro t g hg;simp only[old hg hg1,old hg hg2,old hg hg5,old hg hg8,old hg hg11,old hg hg14]
   ·repeat' (refine oI ?_ (by assumption))
    exact fun _=>bQk _
 ·dsimp only at eO eT;have eU:=True.intro;have eI:=True.intro;rcases mU with⟨rfl,hu⟩|⟨gU,rfl,eU,lU,hu⟩<;>rcases mI with⟨rfl,hi⟩|⟨gI,rfl,eI,lI,hi⟩
  all_goals try dsimp only at eU
  all_goals try dsimp only at eI
  all_goals
   try(have hu':outs=[]:=(by simpa using hu);subst hu')
   try(have hi':ins=[]:=(by simpa using hi);subst hi')
   simp only[go_sem,kK,<-hg1,<-hg2]
   refine aG ?_
   try(have hu:=hu;rw[iI]at hu)
   try(have hi:=hi;rw[iI]at hi)
   simp only[go_sem,bP,eB,aKz,nN,iW,iI,he1,he2,hu,hi,hl1,hl2,hl3,hl4,tk1,tk2,tk3,tk4,zB,aBx,aPl,bQl,bQ1,bQk,<-hg5,<-hg8,<-hg11,<-hg14,eO,eT,eU,eI,kB,kA,bQm,if_false]
   refine fin (by simp only[go_sem]) (by simp[aC]) (by simp only[go_sem]) (by simp[aC]) ?_ ?_ ?_ ?_
   ·first
     |exact .inl ⟨rfl,rfl⟩
     |exact .inr ⟨g11,by rw[bQl],by simp only[go_sem],by simp[aC],by rw[iI];assumption⟩
   ·first
     |exact .inl ⟨rfl,rfl⟩
     |exact .inr ⟨g14,by rw[bQl],by simp only[go_sem],by simp[aC],by rw[iI];assumption⟩
   ·intro t g hg;simp only[old hg hg1,old hg hg2,old hg hg5,old hg hg8,old hg hg11,old hg hg14]
   ·repeat' (refine oI ?_ (by assumption))
    exact fun _=>bQk _
theorem xS.shape (h:xS en cnt v size xs t):v.one=true/\ v.cells=[v]:=by
 rcases h with⟨rfl,_⟩|⟨g,rfl,_⟩<;>exact⟨rfl,rfl⟩
structure aCo (a x:Val):Prop where
 snap: ∀n en,snapD (n+1) en a=some (a,[])
 wk:a.wk0=x
 one:a.one=true
 cells:a.cells=[a]
theorem rY (xs:List Val):aCo (.fz xs) (.fz xs):=⟨fun _ _=>rfl,rfl,rfl,rfl⟩
theorem aE5 (xs:List Val):aCo (.cl xs) (.fz xs):=⟨fun _ _=>rfl,rfl,rfl,rfl⟩
theorem aWh (w:aA)(j:Nat)(o:aN){a b:Val}(ha:aCo a (.fz (o.vals.map aD.enc)))(hb:aCo b (.fz (o.frames.map aB.enc)))(hj:j<w.objs.length)(ht:0<w.tasks.length)(hl:w.objs.length<=130/\ w.tasks.length<=130/\ w.outs.length<=110/\ w.ins.length<=60)(hL:aE3 en cnt w vO vT vU vI)
  (hs:(vO.one=true/\ vO.cells=[vO])/\ (vT.one=true/\ vT.cells=[vT])/\ (vU.one=true/\ vU.cells=[vU])/\ (vI.one=true/\ vI.cells=[vI])):
  WIn L (.fn 80 [] []) [.agg [vO,vT,vU,vI,.i w.used],.i j,.agg [.i o.form,.i o.n,a,b]] en cnt fun v en' cnt'=>vY en cnt (cW w j o) [] v en' cnt':=by
 obtain⟨g3,hg3⟩: ∃g,g=cnt 0 3:=⟨_,rfl⟩
 obtain⟨gA,hgA⟩: ∃g,g=cnt 0 5:=⟨_,rfl⟩
 obtain⟨g6,hg6⟩: ∃g,g=cnt 0 6:=⟨_,rfl⟩
 have hget:(w.objs.map aN.enc)[j]?=some (aN.enc w.objs[j]):=by simp[hj]
 have up0: ∀t,cnt 0 t<=aC (aC (aC cnt 0 3 (g3+1)) 0 5 (gA+1)) 0 6 (g6+1) 0 t:=oI (oI (oI (fun _=>bQk _) hg3) hgA) hg6
 have hLz:=at_ func80
 conv at hLz=>rhs;reduce
 refine fR hLz rfl rfl ?_
 simp only[go_sem,kK,<-hg3,<-hgA,<-hg6]
 refine(aE4 w (by omega) ht hl (hL.keep (fun t g hg=>?_) up0)).mono ?_
 ·rw[jI (bR4 hg6.symm) hg,jI (bR4 hgA.symm) hg,jI (bR4 hg3.symm) hg]
 rintro v en' cnt' ⟨⟨g5,g8,vU',vI',rfl,e5,l5,m5,e8,l8,m8,mU,mI⟩,old,up⟩
 have e3:=old 3 g3 (by simp[aC])
 have eA:=old 5 gA (by simp[aC])
 have e6:=old 6 g6 (by simp[aC])
 have l5':gA<g5:=by have:=l5;simp[aC]at this;omega
 try simp only[go_sem]at e3 eA e6
 simp only[go_sem,e3,eA,e6,e5,hget,hj,ha.snap,hb.snap,ha.wk,hb.wk,bS7,bRh]
 refine⟨⟨g5,g8,vU',vI',?_,?_,by omega,m5,?_,bQv (up0 8) l8,m8,?_,?_⟩,fun t g hg=>?_,fun t=>bQv (up0 t) (up t)⟩
 ·simp only[cW,bRh,bSb]
 ·simp only[go_sem,cW,bSz,bRh]
 ·simp only[go_sem,e8,cW]
 ·exact mU.keep (fun g _=>by simp only[go_sem]) (bQk _)
 ·exact mI.keep (fun g _=>by simp only[go_sem]) (bQk _)
 ·rw[jI (bR4 hg6.symm) hg,jI (by omega) hg,jI (bR4 hg3.symm) hg,old t g (bRa hg (up0 t)),jI (bR4 hg6.symm) hg,jI (bR4 hgA.symm) hg,jI (bR4 hg3.symm) hg]
theorem aE3.shape (h:aE3 en cnt w vO vT vU vI):
  (vO.one=true/\ vO.cells=[vO])/\ (vT.one=true/\ vT.cells=[vT])/\ (vU.one=true/\ vU.cells=[vU])/\ (vI.one=true/\ vI.cells=[vI]):=by
 rcases h with⟨rfl,rfl,rfl,rfl⟩|⟨gO,gT,rfl,_,_,rfl,_,_,mU,mI⟩
 ·exact⟨⟨rfl,rfl⟩,⟨rfl,rfl⟩,⟨rfl,rfl⟩,rfl,rfl⟩
 ·exact⟨⟨rfl,rfl⟩,⟨rfl,rfl⟩,mU.shape,mI.shape⟩
theorem aGj {f:Nat}{lf:jC}{args:List Val}(hL:L f=some lf)(hk:lf.keep=false)(hn:args.length=lf.np)(ha:rO lf args=false)
  (h:WIn L (.fn f [] []) args (fun _=>none) (fun _ _=>0) fun v en' _=> ∃r' ks,snapD 8 en' v=some (r',ks)/\ r'.wk=r) (hz:lf.nrm=[]:=by rfl):PC L f args r:=by
 obtain⟨v,en',cnt',⟨n0,h0⟩,r',ks,h1,h2⟩:=h
 refine⟨n0,fun n hm=>?_⟩
 have hx:=h0 n hm (fun _=> .tup [])
 simp only[Inl.call,eQ,zY,bRo,bRk]at hx;have hx:kQ L (exec L n) f args ⟨fun _=> .tup [],fun _=>none,fun _ _=>0⟩=some (v,⟨fun _=> .tup [],en',cnt'⟩):=by
  split at hx
  case h_2=>cases hx
  rename_i hw;simp only[hL,hz,norms,bQi]at hx;rw[hw];exact congrArg some hx
 simp only[kQ,hL,hn,if_true,ha,bQm,if_false]at hx;simp only[lH,bI,hL,hn,if_true,ha,bQm,if_false,iS,Go.Abs.start]
 split at hx
 ·rename_i e st' he
  split at hx
  ·rename_i hend;simp only[hend,if_true];obtain⟨vs,hvs,heq⟩:=bQw.1 hx;simp only[bQo,St.mk.injEq]at heq;obtain⟨rfl,_,rfl,_⟩:=heq;simp only[aDu,hvs,hk,bQm,if_false,uD _ _ _ _ h1 8 (bQk _),h2]
  ·cases hx
 ·cases hx
theorem xS.snapB (h:xS en cnt v size xs t)(n:Nat): ∃r ks,snapD (n+1) en v=some (r,ks)/\ r.wk0= .fz xs:=by
 rcases h with⟨rfl,rfl⟩|⟨g,rfl,h2,_⟩
 ·exact⟨.cl [],[],rfl,rfl⟩
 ·exact⟨.fz xs,[⟨0,t,g⟩],by simp[snapD,aF8,h2],rfl⟩
theorem vY.snap (h:vY en cnt w [] v en' cnt'): ∃r ks,snapD 8 en' v=some (r,ks)/\ r.wk= .agg w.cs:=by
 obtain⟨⟨g5,g8,vU,vI,rfl,e5,_,_,e8,_,_,mU,mI⟩,_,_⟩:=h;obtain⟨r1,k1,s1,t1⟩:=mU.snapB 6;obtain⟨r2,k2,s2,t2⟩:=mI.snapB 6;have l1:(w.objs.map aN.enc).take w.objs.length=w.objs.map aN.enc:=bQ3 (by simp)
 have l2:(w.tasks.map (Val.int .i64)).take w.tasks.length=w.tasks.map (.int .i64):=bQ3 (by simp)
 refine⟨_,_,by simp only[go_sem,e5,e8,s1,s2,l1,l2,bQk];rfl,?_⟩
 simp only[go_sem,t1,t2]
theorem vY.snapD {d:Did}(h:vY en cnt d.w [.i d.what,.i d.e.task,.i d.e.act,.i d.e.n,.i d.e.v.kind,.i d.e.v.n] v en' cnt'): ∃r ks,Go.Abs.snapD 8 en' v=some (r,ks)/\ r.wk= .agg [.fz (d.w.objs.map aN.enc),.fz (d.w.tasks.map (.int .i64)),.fz (d.w.outs.map bL.enc),.fz (d.w.ins.map (.int .i64)),.i d.w.used,.i d.what,.i d.e.task,.i d.e.act,.i d.e.n,.i d.e.v.kind,.i d.e.v.n]:=by
 obtain⟨⟨g5,g8,vU,vI,rfl,e5,_,_,e8,_,_,mU,mI⟩,_,_⟩:=h;obtain⟨r1,k1,s1,t1⟩:=mU.snapB 6;obtain⟨r2,k2,s2,t2⟩:=mI.snapB 6;have l1:(d.w.objs.map aN.enc).take d.w.objs.length=d.w.objs.map aN.enc:=bQ3 (by simp)
 have l2:(d.w.tasks.map (Val.int .i64)).take d.w.tasks.length=d.w.tasks.map (.int .i64):=bQ3 (by simp)
 refine⟨_,_,by simp only[go_sem,e5,e8,s1,s2,l1,l2,bQk];rfl,?_⟩
 simp only[go_sem,t1,t2]
structure Fit (w:aA) (a:Int):Prop where
 len:w.objs.length<=130/\ w.tasks.length<=130/\ w.outs.length<=110/\ w.ins.length<=60
 at_:inR a 0 ((w.tasks.length:Int)-1)=true
 rng:inR (aZ w a) 0 ((w.objs.length:Int)-1)=true
theorem aPo (ha:inR a 0 ((w.tasks.length:Int)-1)=true):mA 1 en (.fz (w.tasks.map (.int .i64))) (.i a)=some {v:= .fp [.i (aZ w a)] 0}:=wJ ha
theorem aK0 (w:aA)(n:Int)(o:aN)(hn:inR n 0 ((w.objs.length:Int)-1)=true)(ht:0<w.tasks.length)(hl:w.objs.length<=130/\ w.tasks.length<=130/\ w.outs.length<=110/\ w.ins.length<=60):
  PC L 80 [.agg w.cs,.i n,.agg [.i o.form,.i o.n,.fz (o.vals.map aD.enc),.fz (o.frames.map aB.enc)]] (.agg (cW w n o).cs):=by
 simp only[inR,bT8]at hn;obtain⟨j,rfl⟩:=bRn hn.1;have hL:=aA4 (fun _=>none) (fun _ _=>0) w
 have hLz:=at_ func80
 conv at hLz=>rhs;reduce
 exact aGj hLz rfl rfl rfl ((aWh w j o (rY _) (rY _) (by omega) ht hl hL hL.shape).mono fun v en' cnt' h=>h.snap)
theorem fW (w:aA)(a st:Int)(hf:Fit w a):PC L 122 [.agg w.cs,.i a,.i st] (.agg [.fz ((bE w a st).w.objs.map aN.enc),.fz ((bE w a st).w.tasks.map (.int .i64)),.fz ((bE w a st).w.outs.map bL.enc),.fz ((bE w a st).w.ins.map (.int .i64)),.i (bE w a st).w.used,.i (bE w a st).what,.i (bE w a st).e.task,.i (bE w a st).e.act,.i (bE w a st).e.n,.i (bE w a st).e.v.kind,.i (bE w a st).e.v.n]):=by
 have ha:=hf.at_;simp only[inR,bT8]at ha;have hS:=aK0 w (aZ w a) ⟨6,st,[],[]⟩ hf.rng (by omega) hf.len
 refine pcA func122 ?_
 simp only[bQ1]at hS;simp only[go_sem,kK,aPo hf.at_,hS.ret,bE,iO]
theorem aSp (w:aA)(a:Int)(left:List aB)(v:aD){c:Val}(hc:aCo c (.fz (left.map aB.enc)))(hf:Fit w a)(hL:aE3 en cnt w vO vT vU vI):
  WIn L (.fn 123 [] []) [.agg [vO,vT,vU,vI,.i w.used],.i a,c,.agg [.i v.kind,.i v.n]] en cnt fun x en' cnt'=>vY en cnt (bT w a left v).w [.i 0,.i 0,.i 0,.i 0,.i 0,.i 0] x en' cnt':=by
 have ha:=hf.at_;have hr:=hf.rng;simp only[inR,bT8]at ha hr;obtain⟨j,hj⟩:=bRn hr.1;obtain⟨i,rfl⟩:=bRn ha.1;have hi:i<w.tasks.length:=by omega
 have hti:w.tasks[i]=(j:Int):=by rw[<-hj];simp[aZ,bQn,hi]
 have hget:(w.tasks.map (Val.int .i64))[i]?=some (.i (j:Int)):=by simp[hi,hti]
 have hi1:((i:Int)<(w.tasks.length:Int)):=by omega
 obtain⟨⟨o1,o2⟩,⟨t1,t2⟩,⟨u1,u2⟩,⟨i1,i2⟩⟩:=hL.shape;obtain⟨g4,hg4⟩: ∃g,g=cnt 0 4:=⟨_,rfl⟩
 obtain⟨g7,hg7⟩: ∃g,g=cnt 0 7:=⟨_,rfl⟩
 obtain⟨g8,hg8⟩: ∃g,g=cnt 0 8:=⟨_,rfl⟩
 have up0: ∀t,cnt 0 t<=aC (aC (aC cnt 0 4 (g4+1)) 0 7 (g7+1)) 0 8 (g8+1) 0 t:=oI (oI (oI (fun _=>bQk _) hg4) hg7) hg8
 have hD:(bT w i left v).w=cW w j ⟨6,0,[v],left⟩:=by simp only[bT,hj]
 rw[hD];have key:=fun{en1:En} (h: ∀t g,g<cnt 0 t->en1 ⟨0,t,g⟩=en ⟨0,t,g⟩)=>aWh w j ⟨6,0,[v],left⟩ (aE5 [.agg [.i v.kind,.i v.n]]) hc (by omega) (by omega) hf.len (en:=en1) (cnt:=aC (aC (aC cnt 0 4 (g4+1)) 0 7 (g7+1)) 0 8 (g8+1)) (hL.keep h up0) hL.shape
 have hj':w.tasks.getD ((i:Int)).toNat 0=(j:Int):=hj;have oldS:=fun{e1:En} {x4 x7 x8:Option Ent} {t g:Nat} (hg:g<cnt 0 t)=>show((e1.set ⟨0,4,g4⟩ x4).set ⟨0,7,g7⟩ x7).set ⟨0,8,g8⟩ x8 ⟨0,t,g⟩=e1 ⟨0,t,g⟩by
  rw[jI (bR4 hg8.symm) hg,jI (bR4 hg7.symm) hg,jI (bR4 hg4.symm) hg]
 have fin: ∀{en1:En} {x:Val} {en':En} {cnt':Nat->Nat->Nat},(∀t g,g<cnt 0 t->en1 ⟨0,t,g⟩=en ⟨0,t,g⟩)->vY en1 (aC (aC (aC cnt 0 4 (g4+1)) 0 7 (g7+1)) 0 8 (g8+1)) (cW w j ⟨6,0,[v],left⟩) [] x en' cnt'->
   ∃g5 g9 vU vI,x= .agg [.bl ⟨0,5,g5⟩ 0 (cW w j ⟨6,0,[v],left⟩).objs.length,.bl ⟨0,8,g9⟩ 0 (cW w j ⟨6,0,[v],left⟩).tasks.length,vU,vI,.i (cW w j ⟨6,0,[v],left⟩).used]/\ (vU.one=true/\ vU.cells=[vU])/\ (vI.one=true/\ vI.cells=[vI])/\ en' ⟨0,8,g8⟩=en1 ⟨0,8,g8⟩/\
    ∀Z:Option Ent,vY en cnt (cW w j ⟨6,0,[v],left⟩) [.i 0,.i 0,.i 0,.i 0,.i 0,.i 0] (.agg (.bl ⟨0,5,g5⟩ 0 (cW w j ⟨6,0,[v],left⟩).objs.length:: .bl ⟨0,8,g9⟩ 0 (cW w j ⟨6,0,[v],left⟩).tasks.length::vU::vI:: .i (cW w j ⟨6,0,[v],left⟩).used::[.i 0,.i 0,.i 0,.i 0,.i 0,.i 0])) (en'.set ⟨0,8,g8⟩ Z) cnt':=by
  rintro en1 x en' cnt' h1 ⟨⟨g5,g9,vU,vI,rfl,e5,l5,m5,e9,l9,m9,mU,mI⟩,old,up⟩
  have hlt:g8<aC (aC (aC cnt 0 4 (g4+1)) 0 7 (g7+1)) 0 8 (g8+1) 0 8:=by simp[aC]
  refine⟨g5,g9,vU,vI,rfl,mU.shape,mI.shape,old 8 g8 hlt,fun Z=>⟨⟨g5,g9,vU,vI,rfl,by simp only[go_sem,e5],bQv (up0 5) l5,m5,?_,bQv (up0 8) l9,m9,mU.keep (fun g _=>by simp only[go_sem]) (bQk _),mI.keep (fun g _=>by simp only[go_sem]) (bQk _)⟩,fun t g hg=>?_,fun t=>bQv (up0 t) (up t)⟩⟩
  ·rw[aV7 (by omega)];exact e9
  ·rw[jI (bR4 hg8.symm) hg,old t g (bRa hg (up0 t)),h1 t g hg]
 have hLz:=at_ func123
 conv at hLz=>rhs;reduce
 refine fR hLz rfl rfl ?_
 simp only[go_sem,kK,<-hg4,<-hg7,<-hg8]
 refine aG ?_
 rcases hL with⟨rfl,rfl,rfl,rfl⟩|⟨gO,gT,rfl,eO,lO,rfl,eT,lT,mU,mI⟩
 ·simp only[go_sem,aCh (f:=Val.int .i64) (size:=1) (k:= .i64) (l:=w.tasks) 0 hf.at_ (fun _=>rfl),hj',hc.one,hc.cells,pZ,lA,kA,bQm,if_false]
  refine(key fun t g hg=>oldS hg).mono ?_
  intro x en' cnt' hO;obtain⟨g5,g9,vU,vI,rfl,⟨s1,s2⟩,⟨s3,s4⟩,e8,hO'⟩:=fin (fun t g hg=>oldS hg) hO
  try simp only[go_sem]at e8
  simp only[go_sem,e8];exact hO' _
 ·have hne: ¬gT=g8:=by omega
  simp only[go_sem,eT,hne,hget,hi1,hc.one,hc.cells,kB,bS7,bRh,kA,bQm,if_false]
  refine(key fun t g hg=>oldS hg).mono ?_
  intro x en' cnt' hO;obtain⟨g5,g9,vU',vI',rfl,⟨s1,s2⟩,⟨s3,s4⟩,e8,hO'⟩:=fin (fun t g hg=>oldS hg) hO
  try simp only[go_sem]at e8
  simp only[go_sem,e8];exact hO' _
theorem jM (w:aA)(a:Int)(left:List aB)(v:aD)(hf:Fit w a):PC L 123 [.agg w.cs,.i a,.fz (left.map aB.enc),.agg [.i v.kind,.i v.n]] (.agg [.fz ((bT w a left v).w.objs.map aN.enc),.fz ((bT w a left v).w.tasks.map (.int .i64)),.fz ((bT w a left v).w.outs.map bL.enc),.fz ((bT w a left v).w.ins.map (.int .i64)),.i (bT w a left v).w.used,.i (bT w a left v).what,.i (bT w a left v).e.task,.i (bT w a left v).e.act,.i (bT w a left v).e.n,.i (bT w a left v).e.v.kind,.i (bT w a left v).e.v.n]):=by
 have hLz:=at_ func123
 conv at hLz=>rhs;reduce
 exact aGj hLz rfl rfl rfl ((aSp w a left v (rY _) hf (aA4 _ _ w)).mono fun v en' cnt' h=>h.snapD (d:=bT w a _ _))
theorem bGc {a b:Val}:cT 2 [.agg [a,b]]=true:=(rfl)
theorem bGd {a b c:Val}:cT 3 [.agg [a,b,c]]=true:=(rfl)
theorem bGe {a b c d:Val}:cT 4 [.agg [a,b,c,d]]=true:=(rfl)
theorem bBy {k:IntKind}{n:Int}:cT 1 [.int k n]=true:=(rfl)
theorem aWi (w:aA)(a:Int)(o:aN)(hf:Fit w a):PC L 80 [.agg w.cs,.i (aZ w a),.agg [.i o.form,.i o.n,.fz (o.vals.map aD.enc),.fz (o.frames.map aB.enc)]] (.agg (cW w (aZ w a) o).cs):=by
 have ha:=hf.at_;simp only[inR,bT8]at ha;exact aK0 w (aZ w a) o hf.rng (by omega) hf.len
theorem aB1 (w:aA)(a:Int)(left:List aB)(node:Int)(env:List aD)(hf:Fit w a)(hl:left.length<1000000):PC L 83 [.agg w.cs,.i a,.fz (left.map aB.enc),.i node,.fz (env.map aD.enc)] (.agg [.fz ((gK w a left node env).w.objs.map aN.enc),.fz ((gK w a left node env).w.tasks.map (.int .i64)),.fz ((gK w a left node env).w.outs.map bL.enc),.fz ((gK w a left node env).w.ins.map (.int .i64)),.i (gK w a left node env).w.used,.i (gK w a left node env).what,.i (gK w a left node env).e.task,.i (gK w a left node env).e.act,.i (gK w a left node env).e.n,.i (gK w a left node env).e.v.kind,.i (gK w a left node env).e.v.n]):=by
 have hF:=fW w a 4 hf;have hS:=aWi w a ⟨6,0,[],left++[⟨node,env,[]⟩]⟩ hf;have hl1:left.length<=16777216:=by omega
 have hl2:left.length+1<=16777216:=by omega
 refine pcA func83 ?_
 by_cases h1:40<=left.length
 ·have d1:decide ((40:Int)<=(left.length:Int))=true:=D_t (by omega)
  have e:gK w a left node env=bE w a 4:=by unfold gK;rw[if_pos (.inl h1)]
  rw[e];simp only[go_sem,kK,d1,hF.ret]
 ·have d1:decide ((40:Int)<=(left.length:Int))=false:=D_f (by omega)
  by_cases h2:30<env.length
  ·have d2:decide ((30:Int)<(env.length:Int))=true:=D_t (by omega)
   have e:gK w a left node env=bE w a 4:=by unfold gK;rw[if_pos (.inr h2)]
   rw[e];simp only[go_sem,kK,d1,d2,hF.ret]
  ·have d2:decide ((30:Int)<(env.length:Int))=false:=D_f (by omega)
   have e:gK w a left node env=⟨cW w (aZ w a) ⟨6,0,[],left++[⟨node,env,[]⟩]⟩,0,fV⟩:=by unfold gK;rw[if_neg (by omega)]
   rw[e];simp only[bRl,bRj,bQ1,aB.enc]at hS;cases h0:left.isEmpty with
   |true=>
    have:left=[]:=by simpa using h0
    subst this;simp only[bQ1,bRo]at hS⊢;simp only[go_sem,kK,d2,bP,eB,nN,iW,List.isEmpty_cons,bGd,aPo hf.at_,uP,nM,bQk,hS.ret,fV,iO]
   |false=>
    simp only[go_sem,kK,d1,d2,bP,eB,iW,uQ,iI,h0,hl1,hl2,lB,jB,bGd,bQl,bQ2,bS0,bQk,bQ3,aPo hf.at_,uP,nM,hS.ret,fV,iO]
theorem mF (d:Did)(a act n:Int)(v:aD):PC L 134 [.agg [.fz (d.w.objs.map aN.enc),.fz (d.w.tasks.map (.int .i64)),.fz (d.w.outs.map bL.enc),.fz (d.w.ins.map (.int .i64)),.i d.w.used,.i d.what,.i d.e.task,.i d.e.act,.i d.e.n,.i d.e.v.kind,.i d.e.v.n],.i a,.i act,.i n,.agg [.i v.kind,.i v.n]] (.agg [.fz ((dD d a act n v).w.objs.map aN.enc),.fz ((dD d a act n v).w.tasks.map (.int .i64)),.fz ((dD d a act n v).w.outs.map bL.enc),.fz ((dD d a act n v).w.ins.map (.int .i64)),.i (dD d a act n v).w.used,.i (dD d a act n v).what,.i (dD d a act n v).e.task,.i (dD d a act n v).e.act,.i (dD d a act n v).e.n,.i (dD d a act n v).e.v.kind,.i (dD d a act n v).e.v.n]):=by
 have hM:=aNj v
 refine pcA func134 ?_
 by_cases h:d.what=1
 ·have e:dD d a act n v=d:=by unfold dD;rw[if_pos h]
  rw[e];have d1:decide (d.what=1)=true:=D_t h;simp only[go_sem,kK,d1]
 ·have e:dD d a act n v=⟨d.w,1,⟨a,act,n,nE v⟩⟩:=by unfold dD;rw[if_neg h]
  rw[e];have d1:decide (d.what=1)=false:=D_f h;simp only[go_sem,kK,d1]
  refine aG ?_
  simp only[go_sem,hM.ret,kA,bQm,if_false]
def uV (w:aA)(v:aD)(form:Int):aN:=if bY w v form=true then w.obj v.n else bBt
theorem pB (w:aA)(v:aD)(form:Int)(hv:v.kind=5->inR v.n 0 ((w.objs.length:Int)-1)=true):PC L 174 [.agg w.cs,.agg [.i v.kind,.i v.n],.i form] (.tup [.agg [.i (uV w v form).form,.i (uV w v form).n,.fz ((uV w v form).vals.map aD.enc),.fz ((uV w v form).frames.map aB.enc)],.bool (bY w v form)]):=by
 refine pcA func174 ?_
 by_cases h5:v.kind=5
 ·have d1:decide (v.kind=5)=true:=D_t h5;have hi:=yT (w:=w) (k:= .i64) (en:=fun _=>none) (hv h5)
  by_cases h2:(w.obj v.n).form=form
  ·have d2:decide ((w.obj v.n).form=form)=true:=D_t h2;have e:bY w v form=true:=by simp only[bY,d1,d2,Bool.and_self]
   rw[uV,if_pos e,e];simp only[go_sem,kK,d1,d2,yT (hv h5)]
  ·have d2:decide ((w.obj v.n).form=form)=false:=D_f h2;have e:bY w v form=false:=by simp only[bY,d2,bRp]
   rw[uV,if_neg (by rw[e];decide),e]
   simp only[go_sem,kK,d1,d2,yT (hv h5),bBt,bQ1]
 ·have d1:decide (v.kind=5)=false:=D_f h5;have e:bY w v form=false:=by simp only[bY,d1,bQ7]
  rw[uV,if_neg (by rw[e];decide),e]
  simp only[go_sem,kK,d1,bBt,bQ1]
def vZ (w:aA):Prop:= ∀o∈w.objs,∀x∈aC9 o,inR x 0 ((w.objs.length:Int)-1)=true
section
variable {L :bG}{fr:Nat->Val}{Q:St->Prop}{l:List aL}
end
theorem aK1 (h:cR en v size xs [t])(n:Nat): ∃r ks,r.wk1= .fz xs/\ ∀en':En,(∀g,en' ⟨0,t,g⟩=en ⟨0,t,g⟩)->snapD (n+1) en' v=some (r,ks):=by
 rcases h with⟨rfl,rfl⟩|⟨t',g,f,rfl,h2,ht⟩
 ·exact⟨.cl [],[],rfl,fun _ _=>rfl⟩
 ·have:t'=t:=by simpa using ht
  subst this;exact⟨.fz xs,[⟨0,t',g⟩],rfl,fun en' he=>by simp[snapD,aF8,he,h2]⟩
def ne2 (a:Int):Bool:=!decide (a=2)
theorem yG {keep:List Int}(h:x∈keep):keep.idxOf x<keep.length:=List.idxOf_lt_length_of_mem h
theorem aA5 {l:List aD}{v:aD}(hv:v∈l)(h:aHk v=true):v.n∈lV l:=bRe.2 ⟨v,bR6.2 ⟨hv,h⟩,rfl⟩
theorem aSq {hi:Int}: ∀(evs:List (Int×Int)) {u u':List Bool},rT hi u evs=some u'-> ∀e∈evs,inR e.2 e.1 hi=true
 |[],_,_,_=>fun e he=>by cases he
 |(lo,x)::evs,u,u',h=>by
  simp only[rT]at h
  split at h
  ·rename_i hc;simp only[bQj]at hc;intro e he;rcases bRm.1 he with rfl|he
   ·exact hc.1
   ·exact aSq evs h e he
  ·cases h
theorem bBz : ∀(l:List aK) (i:Nat) {n:aK} {k:Int},n∈l->k∈n.kids-> ∃e∈kT i l,e.2=k/\ 0<=e.1
 |[],_,_,_,h,_=>by cases h
 |m::l,i,n,k,h,hk=>by
  simp only[kT,bRb,bRe];rcases bRm.1 h with rfl|h
  ·exact⟨_,.inl ⟨k,hk,rfl⟩,rfl,by simp only;omega⟩
  ·obtain⟨e,he,h1,h2⟩:=bBz l (i+1) h hk;exact⟨e,.inr he,h1,h2⟩
structure eG (p:aF):Prop where
 nodes: ∀n∈p.nodes,eE p n=true
 kids: ∀n∈p.nodes,∀k∈n.kids,inR k 0 ((p.nodes.length:Int)-1)=true
 funs: ∀k∈p.funs,inR k 0 ((p.nodes.length:Int)-1)=true
 cons: ∀c∈p.cons,inR c.args 0 3=true
 main:inR p.main 0 ((p.funs.length:Int)-1)=true
theorem tI (h:eS p=true):eG p:=by
 simp only[eS,bQj,bT8]at h;obtain⟨⟨⟨⟨_,_⟩,hm⟩,hc⟩,h⟩:=h;simp only[aPg,vV]at h
 by_cases hn:p.nodes.all (eE p)=true
 ·simp only[hn,if_true]at h;rw[<-sU]at h;have hs: ∃u',rT (↑p.nodes.length-1) (List.replicate p.nodes.length false) (List.map (fun x=>((0:Int),x)) p.funs++kT 0 p.nodes)=some u':=by
   cases he:rT (↑p.nodes.length-1) (List.replicate p.nodes.length false) (List.map (fun x=>((0:Int),x)) p.funs++kT 0 p.nodes)with
   |some u=>exact⟨u,rfl⟩
   |none=>rw[he]at h;cases h
  obtain⟨u',hu⟩:=hs;have hin:=aSq _ hu
  refine⟨bQp.1 hn,fun n hn k hk=>?_,fun k hk=>?_,fun c hc'=>?_,hm⟩
  ·obtain⟨e,he,h1,h2⟩:=bBz p.nodes 0 hn hk;have:=hin e (bSe _ he);rw[h1]at this;simp only[inR,bT8]at this⊢;omega
  ·exact hin (0,k) (bSu _ (bRe.2 ⟨k,hk,rfl⟩))
  ·simp only[yU,bQj]at hc;have:=bQp.1 hc.1.1 c hc';simp only[vS,bQj]at this;exact this.2
 ·simp only[hn,if_false,bQm]at h;cases he:rT (↑p.nodes.length-1) (List.replicate p.nodes.length false) (List.map (fun x=>((0:Int),x)) p.funs)with
  |none=>rw[he]at h;cases h
  |some u=>rw[he]at h;cases h
theorem iK (h:inR i 0 ((p.nodes.length:Int)-1)=true):p.node i∈p.nodes:=by
 simp only[inR,bT8]at h;have hj:i.toNat<p.nodes.length:=by omega
 simp only[aF.node,bQn,bRq hj,bRc];exact bQr hj
theorem mG {α:Type}{l:List α}{i:Nat}{d:α}(h:i<l.length):l.getD i d∈l:=by
 simp only[bQn,bRq h,bRc];exact bQr h
def oB (o:aN):List aD:=o.vals++o.frames.flatMap fun f=>f.env++f.vals
theorem aSr {v:aD}(h:w.objs.length<=w'.objs.length)(hv:dJ p w v=true):dJ p w' v=true:=by
 unfold dJ at hv⊢;split
 ·rename_i h1;rw[if_pos h1]at hv;exact hv
 rename_i h1;rw[if_neg h1]at hv;split
 ·rename_i h2;rw[if_pos h2]at hv;exact hv
 rename_i h2;rw[if_neg h2]at hv;split
 ·rename_i h3;rw[if_pos h3]at hv;exact hv
 rename_i h3;rw[if_neg h3]at hv;split
 ·rename_i h4;rw[if_pos h4]at hv;exact hv
 rename_i h4;rw[if_neg h4]at hv;split
 ·rename_i h5;rw[if_pos h5]at hv;simp only[inR,bT8]at hv⊢;omega
 ·rename_i h5;rw[if_neg h5]at hv;exact hv
theorem pM {l:List aD}(h:w.objs.length<=w'.objs.length)(hv:bA p w l m=true):bA p w' l m=true:=by
 simp only[bA,bQj,bQp]at hv⊢;exact⟨hv.1,fun v hm=>aSr h (hv.2 v hm)⟩
theorem aSs (h:w.objs.length<=w'.objs.length)(hv:dF p w f=true):dF p w' f=true:=by
 simp only[dF,bQj]at hv⊢;exact⟨⟨hv.1.1,pM h hv.1.2⟩,pM h hv.2⟩
theorem aNo {l:List aB}(h:w.objs.length<=w'.objs.length)(hv:bS p w l=true):bS p w' l=true:=by
 simp only[bS,bQj,bQp]at hv⊢;exact⟨hv.1,fun f hm=>aSs h (hv.2 f hm)⟩
theorem aDf {o:aN}(h:w.objs.length<=w'.objs.length)(hv:dI p w o=true):dI p w' o=true:=by
 unfold dI at hv⊢;split
 ·rename_i h0;rw[if_pos h0]at hv;unfold jQ at hv⊢;split
  ·rename_i h1;rw[if_pos h1]at hv;simp only[bQj]at hv⊢;exact⟨⟨⟨aNo h hv.1.1.1,pM h hv.1.1.2⟩,hv.1.2⟩,hv.2⟩
  rename_i h1;rw[if_neg h1]at hv;split
  ·rename_i h2;rw[if_pos h2]at hv;simp only[bQj]at hv⊢;exact⟨hv.1,pM h hv.2⟩
  ·rename_i h2;rw[if_neg h2]at hv;exact hv
 rename_i h0;rw[if_neg h0]at hv;split
 ·rename_i h1;rw[if_pos h1]at hv;simp only[bQj]at hv⊢;exact⟨⟨⟨hv.1.1.1,aNo h hv.1.1.2⟩,hv.1.2⟩,hv.2⟩
 rename_i h1;rw[if_neg h1]at hv;split
 ·rename_i h2;rw[if_pos h2]at hv;exact hv
 rename_i h2;rw[if_neg h2]at hv;split
 ·rename_i h3;rw[if_pos h3]at hv;simp only[bQj]at hv⊢;exact⟨hv.1,pM h hv.2⟩
 rename_i h3;rw[if_neg h3]at hv;split
 ·rename_i h4;rw[if_pos h4]at hv;simp only[bQj]at hv⊢;exact⟨hv.1,pM h hv.2⟩
 rename_i h4;rw[if_neg h4]at hv;split
 ·rename_i h5;rw[if_pos h5]at hv;simp only[bQj]at hv⊢;exact⟨hv.1,pM h hv.2⟩
 rename_i h5;rw[if_neg h5]at hv;split
 ·rename_i h6;rw[if_pos h6]at hv;simp only[bQj]at hv⊢;exact⟨hv.1,pM h hv.2⟩
 ·rename_i h6;rw[if_neg h6]at hv;exact hv
theorem aB2 {o:aN}(hv:dI p w o=true):(∀v∈o.vals,dJ p w v=true)/\ bS p w o.frames=true:=by
 have vs: ∀{l:List aD} {m:Int},bA p w l m=true-> ∀v∈l,dJ p w v=true:=fun h=>by
  simp only[bA,bQj,bQp]at h;exact h.2
 have none_: ∀{l:List aB},(l.length:Int)=0->bS p w l=true:=fun h=>by
  have h:=List.eq_nil_of_length_eq_zero (Int.ofNat_eq_zero.1 h);subst h;simp[bS]
 have nov: ∀{l:List aD},(l.length:Int)=0-> ∀v∈l,dJ p w v=true:=fun h=>by
  have h:=List.eq_nil_of_length_eq_zero (Int.ofNat_eq_zero.1 h);subst h;simp
 unfold dI at hv
 split at hv
 ·unfold jQ at hv
  split at hv
  ·simp only[bQj]at hv;exact⟨vs hv.1.1.2,hv.1.1.1⟩
  split at hv
  ·simp only[bQj,bT8]at hv;exact⟨vs hv.2,none_ hv.1.1⟩
  split at hv
  ·simp only[bQj,bT8]at hv;exact⟨nov hv.2,none_ hv.1⟩
  ·cases hv
 split at hv
 ·simp only[bQj,bT8]at hv;exact⟨nov hv.1.1.1.1.2,hv.1.1.2⟩
 split at hv
 ·cases hv
 rename_i hz;have hz:=none_ (Decidable.not_not.1 hz)
 split at hv
 ·simp only[bQj]at hv;exact⟨vs hv.2,hz⟩
 split at hv
 ·simp only[bQj]at hv;exact⟨vs hv.2,hz⟩
 split at hv
 ·simp only[bQj]at hv;exact⟨vs hv.2,hz⟩
 split at hv
 ·simp only[bQj]at hv;exact⟨vs hv.2,hz⟩
 ·cases hv
theorem nO {w w':aA}(hl:w.objs.length<=w'.objs.length)(hk: ∀k,inR k 0 ((w.objs.length:Int)-1)=true->dC (w'.obj k)=dC (w.obj k)): ∀(l met:List Int),bK w met l=true->bK w' met l=true
 |[],_,_=>rfl
 |k::l,met,h=>by
  simp only[bK,bQj]at h⊢;obtain⟨⟨⟨h1,h2⟩,h3⟩,h4⟩:=h
  refine⟨⟨⟨?_,by rw[hk k h1];exact h2⟩,h3⟩,nO hl hk l _ h4⟩
  simp only[inR,bT8]at h1⊢;omega
theorem aE6 {w:aA}{k:Int}(h1:inR k 0 ((w.objs.length:Int)-1)=true)(h2:dC (w.obj k)=true): ∀(l met:List Int),bK w met l=true->k∉met->k∉l->bK w met (l++[k])=true
 |[],met,_,hm,_=>by
  simp only[bRo,bK,h1,h2,bRy,bQ9,bRw,<-bRu,bTg,bT8]
  rintro⟨x,hx,rfl⟩
  exact hm hx
 |x::l,met,h,hm,hl=>by
  simp only[bS2,bK,bQj]at h⊢
  refine⟨h.1,aE6 h1 h2 l _ h.2 (fun hc=>?_) (fun hc=>hl (bSo _ hc))⟩
  rcases bRb.1 hc with hc|hc
  ·exact hm hc
  ·simp only[bR3]at hc;exact hl (by rw[hc];simp)
theorem pN {w:aA}: ∀(l met:List Int),bK w met l=true-> ∀k∈l,inR k 0 ((w.objs.length:Int)-1)=true/\ dC (w.obj k)=true
 |[],_,_=>fun k hk=>by cases hk
 |x::l,met,h=>by
  simp only[bK,bQj]at h;intro k hk;rcases bRm.1 hk with rfl|hk
  ·exact⟨h.1.1.1,h.1.1.2⟩
  ·exact pN l _ h.2 k hk
structure cK (p:aF) (w0:aA) (S:Nat->Prop) (w:aA):Prop where
 ok:dG p w=true
 le:w0.objs.length<=w.objs.length
 form: ∀i:Nat,i<w0.objs.length->(w.obj i).form=(w0.obj i).form
 pre:w0.tasks<+:w.tasks
 shut: ∀i:Nat,i<w.objs.length->S i-> ∀v∈oB (w.obj i),v.kind=5->S v.n.toNat
 ts: ∀t∈w.tasks,S t.toNat
 new: ∀i,w0.objs.length<=i->S i
structure VOk (p:aF) (S:Nat->Prop) (w:aA) (v:aD):Prop where
 ok:dJ p w v=true
 ref:v.kind=5->S v.n.toNat
structure OOk (p:aF) (S:Nat->Prop) (w:aA) (o:aN):Prop where
 ok:dI p w o=true
 ref: ∀v∈oB o,v.kind=5->S v.n.toNat
structure FOk (p:aF) (S:Nat->Prop) (w:aA) (f:aB):Prop where
 ok:dF p w f=true
 ref: ∀v∈f.env++f.vals,v.kind=5->S v.n.toNat
variable {S:Nat->Prop}
theorem VOk.le {v:aD}(h:VOk p S w v)(hl:w.objs.length<=w'.objs.length):VOk p S w' v:=⟨aSr hl h.ok,h.ref⟩
theorem FOk.le (h:FOk p S w f)(hl:w.objs.length<=w'.objs.length):FOk p S w' f:=⟨aSs hl h.ok,h.ref⟩
theorem FOk.env (h:FOk p S w f){v:aD}(hv:v∈f.env):VOk p S w v:=by
 have:=h.ok;simp only[dF,bA,bQj,bQp]at this;exact⟨this.1.2.2 v hv,h.ref v (bSu _ hv)⟩
theorem FOk.vals (h:FOk p S w f){v:aD}(hv:v∈f.vals):VOk p S w v:=by
 have:=h.ok;simp only[dF,bA,bQj,bQp]at this;exact⟨this.2.2 v hv,h.ref v (bSe _ hv)⟩
theorem OOk.vals {o:aN}(h:OOk p S w o){v:aD}(hv:v∈o.vals):VOk p S w v:=⟨(aB2 h.ok).1 v hv,h.ref v (bSu _ hv)⟩
theorem OOk.frames {o:aN}(h:OOk p S w o)(hf:f∈o.frames):FOk p S w f:=by
 have:=(aB2 h.ok).2;simp only[bS,bQj,bQp]at this;exact⟨this.2 f hf,fun v hv=>h.ref v (bSe _ (bRx.2 ⟨f,hf,hv⟩))⟩
theorem cD :dG p w=true↔w.objs.length<=120/\ w.outs.length<=100/\ nJ w.ins 50=true/\ inR w.used 0 1000000000=true/\ gJ w=true/\ (∀o∈w.objs,dI p w o=true)/\ ∀o∈w.outs,vL o=true:=by
 simp only[dG,bQj,bT8,bQp,and_assoc];constructor
 ·rintro⟨a,b,c⟩;exact⟨by omega,by omega,c⟩
 ·rintro⟨a,b,c⟩;exact⟨by omega,by omega,c⟩
theorem bEf (h:inR i 0 ((w.objs.length:Int)-1)=true):w.obj i∈w.objs:=by
 simp only[inR,bT8]at h;exact mG (by omega)
theorem cK.obj (h:cK p w0 S w)(hi:inR i 0 ((w.objs.length:Int)-1)=true)(hs:S i.toNat):OOk p S w (w.obj i):=by
 have hi':=hi;simp only[inR,bT8]at hi'
 refine⟨(cD.1 h.ok).2.2.2.2.2.1 _ (bEf hi),fun v hv=>?_⟩
 have e:w.obj i=w.obj (i.toNat:Nat):=by rw[bT0 hi'.1]
 rw[e]at hv;exact h.shut _ (by omega) hs v hv
theorem cK.ref (h:cK p w0 S w){v:aD}(hv:VOk p S w v)(h5:v.kind=5):inR v.n 0 ((w.objs.length:Int)-1)=true/\ OOk p S w (w.obj v.n):=by
 have h1:=hv.ok;simp only[dJ,h5]at h1;have h1:inR v.n 0 ((w.objs.length:Int)-1)=true:=by simpa using h1
 exact⟨h1,h.obj h1 (hv.ref h5)⟩
theorem cK.task (h:cK p w0 S w)(ha:inR a 0 ((w.tasks.length:Int)-1)=true):inR (aZ w a) 0 ((w.objs.length:Int)-1)=true/\ (w.obj (aZ w a)).form=6/\ S (aZ w a).toNat:=by
 simp only[inR,bT8]at ha;have hm:aZ w a∈w.tasks:=mG (by omega)
 have ht:=(cD.1 h.ok).2.2.2.2.1;simp only[gJ,bQj]at ht;obtain⟨h1,h2⟩:=pN _ _ ht.2 _ hm;exact⟨h1,D_o h2,h.ts _ hm⟩
theorem aPp {o:aN}(hi:inR i 0 ((w.objs.length:Int)-1)=true):(cW w i o).obj j=if(i.toNat=j)then o else w.obj j:=by
 simp only[inR,bT8]at hi;simp only[aA.obj,cW,bQn,bRh,bTb]
 by_cases h:i.toNat=j
 ·subst h;simp only[if_true];rw[if_pos (by omega)];rfl
 ·simp[h]
theorem qO {o:aN}:(cW w i o).objs.length=w.objs.length:=by simp[cW]
theorem aYe {l:List aN}{i:Nat}{o:aN}(hi:i<l.length)(h:dC o=dC l[i]):(l.set i o).countP dC=l.countP dC:=by
 rw[List.countP_set hi,h];have:dC l[i]=true->0<l.countP dC:=fun h=>bT1.2 ⟨_,bQr hi,h⟩
 split
 ·rename_i h1;have:=this h1;omega
 ·omega
theorem aWj {i:Nat}(h:i<w.objs.length):w.obj i=w.objs[i]:=by
 simp only[aA.obj,bRh,bQn,bRq h,bRc]
theorem cK.set (h:cK p w0 S w){o:aN}(hi:inR i 0 ((w.objs.length:Int)-1)=true)(ho:OOk p S w o)(hf:o.form=(w.obj i).form):cK p w0 S (cW w i o):=by
 have hi':=hi;simp only[inR,bT8]at hi';have hit:i.toNat<w.objs.length:=by omega
 have e:w.obj i=w.objs[i.toNat]:=by rw[<-aWj hit,bT0 hi'.1]
 have hk:dC o=dC w.objs[i.toNat]:=by simp only[dC,hf,e]
 obtain⟨a1,a2,a3,a4,a5,a6,a7⟩:=cD.1 h.ok;have hle:w.objs.length<=(cW w i o).objs.length:=by rw[qO];exact bQk _
 refine⟨cD.2 ⟨by rw[qO];exact a1,a2,a3,a4,?_,fun x hx=>?_,a7⟩,by rw[qO];exact h.le,fun j hj=>?_,h.pre,fun j hj hs v hv=>?_,h.ts,h.new⟩
 ·simp only[gJ,bQj,bT8]at a5⊢
  refine⟨?_,nO hle (fun k hk'=>?_) _ _ a5.2⟩
  ·show w.tasks.length=(w.objs.set i.toNat o).countP dC;rw[aYe hit hk];exact a5.1
  ·simp only[inR,bT8]at hk';obtain⟨j,rfl⟩:=bRn hk'.1;rw[aPp hi];split
   ·rename_i hj;subst hj;rw[hk,aWj hit]
   ·rfl
 ·rcases bT6 hx with hx|rfl
  ·exact aDf hle (a6 x hx)
  ·exact aDf hle ho.ok
 ·rw[aPp hi];split
  ·rename_i hj';subst hj';rw[hf,<-h.form _ hj,bT0 hi'.1]
  ·exact h.form j hj
 ·rw[aPp hi]at hv;rw[qO]at hj
  split at hv
  ·exact ho.ref v hv
  ·exact h.shut j hj hs v hv
theorem nG {o:aN}:(dU w o).objs.length=w.objs.length+1:=by simp[dU]
theorem zD {o:aN}(hj:j<w.objs.length+1):(dU w o).obj j=if j=w.objs.length then o else w.obj j:=by
 simp only[aA.obj,dU,bRh,bQn];split
 ·rename_i h;subst h;simp
 ·rename_i h;rw[bSq (by omega)]
theorem cK.add (h:cK p w0 S w){o:aN}(hl:w.objs.length<120)(ho:OOk p S w o)(hf: ¬o.form=6):cK p w0 S (dU w o):=by
 obtain⟨a1,a2,a3,a4,a5,a6,a7⟩:=cD.1 h.ok;have hle:w.objs.length<=(dU w o).objs.length:=by rw[nG];omega
 have hk:dC o=false:=D_f hf;have hl0:=h.le
 refine⟨cD.2 ⟨by rw[nG];omega,a2,a3,a4,?_,fun x hx=>?_,a7⟩,by rw[nG];omega,fun j hj=>?_,h.pre,fun j hj hs v hv=>?_,h.ts,h.new⟩
 ·simp only[gJ,bQj,bT8]at a5⊢
  refine⟨?_,nO hle (fun k hk'=>?_) _ _ a5.2⟩
  ·show w.tasks.length=(w.objs++[o]).countP dC;rw[List.countP_append];simp[hk,a5.1]
  ·simp only[inR,bT8]at hk';obtain⟨j,rfl⟩:=bRn hk'.1;rw[zD (by omega),if_neg (by omega)]
 ·rcases bRb.1 hx with hx|hx
  ·exact aDf hle (a6 x hx)
  ·simp only[bR3]at hx;subst hx;exact aDf hle ho.ok
 ·rw[zD (by omega),if_neg (by omega)];exact h.form j hj
 ·rw[nG]at hj;rw[zD hj]at hv
  split at hv
  ·exact ho.ref v hv
  ·exact h.shut j (by omega) hs v hv
theorem cK.born (h:cK p w0 S w){o:aN}(hl:w.objs.length<120)(ho:OOk p S w o)(hf:o.form=6):cK p w0 S (qK (dU w o)):=by
 obtain⟨a1,a2,a3,a4,a5,a6,a7⟩:=cD.1 h.ok;have hlen:(qK (dU w o)).objs.length=w.objs.length+1:=nG;have hle:w.objs.length<=(qK (dU w o)).objs.length:=by rw[hlen];omega
 have hk:dC o=true:=D_t hf;have hl0:=h.le;have hT:(qK (dU w o)).tasks=w.tasks++[(w.objs.length:Int)]:=by
  show w.tasks++[((dU w o).objs.length:Int)-1]=_;rw[nG];congr 2;omega
 have hO: ∀j:Int,(qK (dU w o)).obj j=(dU w o).obj j:=fun j=>rfl
 refine⟨cD.2 ⟨by rw[hlen];omega,a2,a3,a4,?_,fun x hx=>?_,a7⟩,by rw[hlen];omega,fun j hj=>?_,?_,fun j hj hs v hv=>?_,fun t ht=>?_,h.new⟩
 ·simp only[gJ,bQj,bT8]at a5⊢;rw[hT]
  refine⟨?_,aE6 ?_ ?_ _ _ (nO hle (fun k hk'=>?_) _ _ a5.2) (by simp) (fun hc=>?_)⟩
  ·show(w.tasks++[_]).length=(w.objs++[o]).countP dC;rw[List.countP_append];simp[hk,a5.1]
  ·rw[hlen];simp only[inR,bT8];omega
  ·rw[hO,zD (by omega),if_pos rfl];exact hk
  ·simp only[inR,bT8]at hk';obtain⟨j,rfl⟩:=bRn hk'.1;rw[hO,zD (by omega),if_neg (by omega)]
  ·have:=(pN _ _ a5.2 _ hc).1;simp only[inR,bT8]at this;omega
 ·rcases bRb.1 hx with hx|hx
  ·exact aDf hle (a6 x hx)
  ·simp only[bR3]at hx;subst hx;exact aDf hle ho.ok
 ·rw[hO,zD (by omega),if_neg (by omega)];exact h.form j hj
 ·rw[hT];exact h.pre.trans (List.prefix_append _ _)
 ·rw[hlen]at hj;rw[hO,zD hj]at hv
  split at hv
  ·exact ho.ref v hv
  ·exact h.shut j (by omega) hs v hv
 ·rw[hT]at ht;rcases bRb.1 ht with ht|ht
  ·exact h.ts t ht
  ·simp only[bR3]at ht;subst ht;exact h.new _ (by simp only[bRh];omega)
end Go.Proofs.YtmafmhjndjmalaaGreat
