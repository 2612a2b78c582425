/- Contracts of functions of the program and of the document: part 1. -/
import Derived.Test.YtmnchlhngpdffaaGreatHxD
import Derived.Test.YtmnchlhngpdffaaGreatCo
import Derived.Laws.Strings
import Derived.Test.YtmnchlhngpdffaaGreatHxE
import Derived.Test.YtmnchlhngpdffaaGreatRows
set_option linter.all false
open Array renaming getElem_toList → bRr, length_toList → bQ4
open Bool renaming and_eq_true → bOx, and_true → bQ2, false_and → bPm, false_eq_true → bO0, false_or → bPv, not_eq_true → bP6, not_eq_true' → bQb, not_false → bPh, not_not → bRi, not_true → bPd, true_and → bPr
open Int renaming eq_ofNat_of_zero_le → bP2, natCast_nonneg → bRg, toNat_natCast → bPz
open List renaming all_cons → bQ7, all_eq_true → bO4, cons_append → bRa, countP_le_length → bR6, drop_eq_getElem_cons → bPy, drop_length → bQt, drop_zero → bQ6, foldl_cons → bRm, foldl_nil → bRc, getD_eq_getElem?_getD → bO2, getElem?_eq_getElem → bP7, getElem?_set → bRl, getElem_mem → bO6, length_append → bPg, length_cons → bO7, length_drop → bRb, length_eq_zero_iff → bSc, length_map → bOz, length_nil → bPe, map_append → bQg, map_cons → bPw, map_set → bQ8, map_take → bQs, mem_append → bPn, mem_cons → bP0, mem_filter → bQi, mem_flatMap → bQa, mem_map → bPt, mem_or_eq_of_mem_set → bSg, not_all_eq_any_not → bRh, take_length → bQp, take_of_length_le → bPi
open Nat renaming add_zero → bQh, le_refl → bOy, le_trans → bPb, zero_le → bO8
open Option renaming bind_some → bRq, getD_some → bPp
namespace Go.Abs
theorem dX {n:Nat}(h:Few n):IntKind.i64.wrap ((n:Int)-1)=(n:Int)-1:=by unfold Few at h;exact aW (by omega)
theorem aJ7 {α:Type}{l:List α}(h:Few l.length)(k:Nat):Few (l.take k).length:=by unfold Few at*;simp;omega
def aB.few (f:aB):Prop:=Few f.env.length/\ Few f.vals.length
def aR.few (o:aR):Prop:=Few o.vals.length/\ Few o.frames.length/\ ∀f∈o.frames,f.few
structure aA.few (w:aA):Prop where
 objs:Few w.objs.length
 tasks:Few w.tasks.length
 outs:Few w.outs.length
 ins:Few w.ins.length
 obj: ∀o∈w.objs,o.few
inductive Pat.few :Pat->Prop
 |mk (f n:Int) (t:ByteArray) (l:List Pat) (h:Few l.length) (ht:Few t.size) (k: ∀p∈l,Pat.few p):Pat.few (.mk f n t l)
structure aJ.few (n:aJ):Prop where
 kids:Few n.kids.length
 pats:Few n.pats.length
 pat: ∀q∈n.pats,q.few
structure aF.few (p:aF):Prop where
 nodes:Few p.nodes.length
 funs:Few p.funs.length
 cons:Few p.cons.length
 node: ∀n∈p.nodes,n.few
 con: ∀c∈p.cons,Few c.name.size
def inR (n lo hi:Int):Bool:=decide (lo<=n/\ n<=hi)
def aJ.asks (n:aJ):Int:=
 if n.op=6 \/n.op=9 \/n.op=10 \/n.op=11 \/n.op=12 \/n.op=13 \/n.op=18 \/n.op=22 then 2
 else if n.op=14 then n.kids.length
 else if n.op=7 \/n.op=8 \/n.op=15 \/n.op=16 \/n.op=17 \/n.op=19 \/n.op=20 \/n.op=23 \/n.op=24 \/n.op=26 then 1 else 0
def aF.node (p:aF)(i:Int):aJ:=p.nodes.getD i.toNat default
def dJ (p:aF)(w:aA)(v:aD):Bool:=
 if v.kind=1 then inR v.n (-1000000000) 1000000000
 else if v.kind=2 then inR v.n 0 1
 else if v.kind=3 then decide (v.n=0)
 else if v.kind=4 then inR v.n 0 (p.funs.length-1)
 else if v.kind=5 then inR v.n 0 (w.objs.length-1)else false
def bE (p:aF)(w:aA)(l:List aD)(most:Int):Bool:=decide ((l.length:Int)<=most)&&l.all (dJ p w)
def dH (p:aF)(w:aA)(f:aB):Bool:=
 inR f.node 0 (p.nodes.length-1)&&bE p w f.env 30&&bE p w f.vals (p.node f.node).asks
def bV (p:aF)(w:aA)(l:List aB):Bool:=decide ((l.length:Int)<=40)&&l.all (dH p w)
def fE (p:aF)(f:aB):Bool:=decide ((f.vals.length:Int)<(p.node f.node).asks)
def jN (p:aF)(w:aA)(o:aR):Bool:=
 if o.n=0 then bV p w o.frames&&bE p w o.vals 1&&decide ((0:Int)<o.frames.length+o.vals.length)&&(o.frames.take (o.frames.length+o.vals.length-1)).all (fE p)
 else if o.n=1 then decide ((o.frames.length:Int)=0)&&decide ((o.vals.length:Int)=1)&&bE p w o.vals 1
 else if o.n=2 \/o.n=3 \/o.n=4 then decide ((o.frames.length:Int)=0)&&decide ((o.vals.length:Int)=0)else false
def dK (p:aF)(w:aA)(o:aR):Bool:=
 if o.form=6 then jN p w o
 else if o.form=5 then decide (o.n=0)&&decide ((o.vals.length:Int)=0)&&decide ((0:Int)<o.frames.length)&&bV p w o.frames&&o.frames.all (fE p)&&decide ((p.node (o.frames.headD default).node).op=26)
 else if¬(o.frames.length:Int)=0 then false
 else if o.form=1 then inR o.n 0 (p.cons.length-1)&&decide ((o.vals.length:Int)=(p.cons.getD o.n.toNat default).args)&&bE p w o.vals 3
 else if o.form=2 then inR o.n 0 (p.nodes.length-1)&&decide ((p.node o.n).op=5)&&bE p w o.vals 30
 else if o.form=3 then decide (o.n=0)&&decide ((o.vals.length:Int)=1)&&bE p w o.vals 1
 else if o.form=4 then decide (o.n=0)&&bE p w o.vals 4 else false
def cW (o:aR):Bool:=decide (o.form=6)
def aA.obj (w:aA)(i:Int):aR:=w.objs.getD i.toNat default
def bP (w:aA):List Int->List Int->Bool
 |_,[]=>true
 |met,k::l=>inR k 0 (w.objs.length-1)&&cW (w.obj k)&&!met.any (fun x=>decide (x=k))&&bP w (met++[k]) l
def gW (w:aA):Bool:=decide (w.tasks.length=w.objs.countP cW)&&bP w [] w.tasks
def nA (l:List Int)(most:Int):Bool:=decide ((l.length:Int)<=most)&&l.all fun n=>inR n (-1000000000) 1000000000
def vN (o:bR):Bool:=inR o.port 0 3&&inR o.n (-1000000000) 1000000000
def cX (p:aF)(w:aA):Bool:=
 decide ((w.objs.length:Int)<=120)&&decide ((w.outs.length:Int)<=100)&&nA w.ins 50&&inR w.used 0 1000000000&&gW w&&w.objs.all (dK p w)&&w.outs.all vN
def fT (o:aR):Bool:=decide ((o.vals.length:Int)<=40)&&decide ((o.frames.length:Int)<=50)&&o.frames.all fun f=>decide ((f.env.length:Int)<=40)&&decide ((f.vals.length:Int)<=40)
def dB (w:aA):Bool:=
 decide ((w.objs.length:Int)<=130)&&decide ((w.tasks.length:Int)<=130)&&decide ((w.outs.length:Int)<=110)&&decide ((w.ins.length:Int)<=60)&&w.objs.all fT
variable {α:Type}
theorem aUu {l:List α}{k:Nat}(h:k<l.length)(p:α->Bool):(l.take (k+1)).countP p=(l.take k).countP p+(if p l[k]then 1 else 0):=by
 rw[<-List.take_append_getElem h,List.countP_append];simp[List.countP_cons]
theorem kW {α:Type}{l:List α}{k:Nat}(h:k<l.length):l.take (k+1)=l.take k++[l[k]]:=by
 rw[List.take_append_getElem h]
variable {en:En}{i:Int}{k:IntKind}
theorem aCm {f:α->Val}{size:Nat}{l:List α}(d:α)(h:inR i 0 ((l.length:Int)-1)=true)(hs: ∀x,(f x).cells.length=size):
  nO size en (.fz (l.map f)) (.int k i)=some {v:= .fp (f (l.getD i.toNat d)).cells 0}:=by
 simp only[inR,bSi]at h;obtain⟨j,rfl⟩:=bP2 h.1;have hj:j<l.length:=by omega
 rw[aUo (f:=f) hj (by simp[hs])]
 simp[bO2,hj]
theorem bK {p:aF}(h:inR i 0 ((p.nodes.length:Int)-1)=true):
  nO 4 en (.fz (p.nodes.map aJ.enc)) (.int k i)=some {v:= .fp (aJ.enc (p.node i)).cells 0}:=aCm default h fun x=>rfl
theorem aNb {l:List aB}(h:0<l.length):nO 3 en (.fz (l.map aB.enc)) (.int k 0)=some {v:= .fp (aB.enc (l.headD default)).cells 0}:=by
 have:=aCm (f:=aB.enc) (size:=3) (k:=k) (i:=0) (en:=en) default (l:=l) (by simp[inR];omega) (fun _=>rfl)
 rw[this];cases l<;>simp at h⊢
theorem aGh {l:List cO}(h:inR i 0 ((l.length:Int)-1)=true):
  nO 2 en (.fz (l.map cO.enc)) (.int k i)=some {v:= .fp (cO.enc (l.getD i.toNat default)).cells 0}:=aCm default h fun x=>rfl
theorem yJ {w:aA}(h:inR i 0 ((w.objs.length:Int)-1)=true):
  nO 4 en (.fz (w.objs.map aR.enc)) (.int k i)=some {v:= .fp (aR.enc (w.obj i)).cells 0}:=aCm default h fun x=>rfl
theorem wG {l:List Int}(h:inR i 0 ((l.length:Int)-1)=true):
  nO 1 en (.fz (l.map (.int .i64))) (.int k i)=some {v:= .fp [.int .i64 (l.getD i.toNat 0)] 0}:=aCm 0 h fun x=>rfl
def aJz.few (s:aJz):Prop:=s.world.few/\ Few s.ages.length/\ Few s.marks.length
end Go.Abs
namespace Go.Proofs.YtmnchlhngpdffaaGreat
open Go.Abs Go.Proofs
set_option maxRecDepth 100000
set_option maxHeartbeats 4000000
theorem nQ (n lo hi:Int):PC L 101 [.i n,.i lo,.i hi] (.bool (inR n lo hi)):=by
 have hL:=at_ Tryz.func101
 conv at hL=>rhs;reduce
 refine aG hL rfl rfl ?_
 simp only[go_sem,qW]
 refine bG (fun h=>?_) (fun h=>?_)<;>simp only[go_sem,h]<;>simp at h<;>simp[h,inR]
 omega
theorem aL7 (l:List Int)(n:Int)(hl:Few l.length):PC L 140 [.is l,.i n] (.bool (l.any fun x=>decide (x=n))):=by
 have hL:=at_ Tryz.func140
 conv at hL=>rhs;reduce
 refine aG hL rfl rfl ?_
 simp only[go_sem,qW]
 refine bQ l.length (fun k st=> ∃fr en cnt,st=⟨fr,en,cnt⟩/\ fr 0= .is l/\ fr 1= .i n/\ fr 5= .i k/\ (l.drop k).any (fun x=>decide (x=n))=l.any fun x=>decide (x=n)) 0 (bO8 _) ⟨_,_,_,rfl,by simp only[go_sem],by simp only[go_sem],by simp only[go_sem],rfl⟩ ?_
 rintro k st hk ⟨fr,en,cnt,rfl,h0,h1,h5,hI⟩
 simp only[go_sem,qW,h0,h5]
 refine aY (fun h=>?_) (fun h=>?_)
 ·have h':k<l.length:=of_decide_eq_true h;rw[aRm h']at hI;simp only[go_sem,qW,h',h1,h5]
  refine aY (fun h2=>?_) (fun h2=>?_)
  ·rw[<-hI,h2];rfl
  ·refine⟨_,_,_,rfl,?_⟩
   simp only[go_sem,h0,h1,aT h' hl];rw[<-hI,h2];simp
 ·have:k=l.length:=by simp at h;omega
  subst this;rw[<-hI];simp
theorem vP (n:aJ):PC L 129 [.agg [.i n.op,.i n.n,.fz (n.kids.map (.int .i64)),.fz (n.pats.map Pat.enc)]] (.i n.asks):=by
 have hL:=at_ Tryz.func129
 conv at hL=>rhs;reduce
 refine aG hL rfl rfl ?_
 simp only[go_sem,qW]
 repeat' ((first|with_reducible refine aY (fun h=>?_) (fun h=>?_)|with_reducible refine bG (fun h=>?_) (fun h=>?_))<;>(try simp only[bSi,bSj]at h)<;>try simp only[go_sem,h])
 all_goals simp[aJ.asks, *]
theorem aO5 (p:aF)(w:aA)(v:aD)(hp:p.few)(hw:w.few):PC L 193 [.agg p.cs,.agg w.cs,.agg [.i v.kind,.i v.n]] (.bool (dJ p w v)):=by
 have hL:=at_ Tryz.func193
 conv at hL=>rhs;reduce
 refine aG hL rfl rfl ?_
 simp only[go_sem,qW,(nQ _ _ _).ret,dX hp.funs,dX hw.objs]
 repeat' ((first|with_reducible refine aY (fun h=>?_) (fun h=>?_)|with_reducible refine bG (fun h=>?_) (fun h=>?_))<;>(try simp only[bSi,bSj]at h)<;>try simp only[go_sem,qW,h,(nQ _ _ _).ret,dX hp.funs,dX hw.objs])
 all_goals simp[dJ, *]
theorem oH (p:aF)(w:aA)(l:List aD)(m:Int)(hp:p.few)(hw:w.few)(hl:Few l.length):
  PC L 144 [.agg p.cs,.agg w.cs,.fz (l.map aD.enc),.i m] (.bool (bE p w l m)):=by
 have hL:=at_ Tryz.func144
 conv at hL=>rhs;reduce
 refine aG hL rfl rfl ?_
 simp only[go_sem,qW]
 refine bQ (l.length) (fun k st=> ∃fr en cnt,st=⟨fr,en,cnt⟩/\ (fr 2= .fz (l.map aD.enc))/\ (fr 3= .i m)/\ (fr 4= .ptr ⟨0,4,0⟩ 0)/\ (en ⟨0,4,0⟩=some (.box p.cells false))/\ (fr 5= .ptr ⟨0,5,0⟩ 0)/\ (en ⟨0,5,0⟩=some (.box w.cells false))/\ (fr 9= .i k)/\ ((l.drop k).all (dJ p w)=l.all (dJ p w))) 0 (bO8 _) ⟨_,_,_,rfl,(by first|(simp only[go_sem];(try rfl);done)|rfl|simp),(by first|(simp only[go_sem];(try rfl);done)|rfl|simp),(by first|(simp only[go_sem];(try rfl);done)|rfl|simp),(by first|(simp only[go_sem];(try rfl);done)|rfl|simp),(by first|(simp only[go_sem];(try rfl);done)|rfl|simp),(by first|(simp only[go_sem];(try rfl);done)|rfl|simp),(by first|(simp only[go_sem];(try rfl);done)|rfl|simp),(by first|(simp only[go_sem];(try rfl);done)|rfl|simp)⟩ ?_
 rintro k st hk ⟨fr,en,cnt,rfl,h2,h3,h4,e4,h5,e5,h9,hI⟩
 simp only[go_sem,qW,h2,h3,h4,e4,h5,e5,h9]
 refine bG (fun h=>?_) (fun h=>?_)
 ·have h':k<l.length:=of_decide_eq_true h;rw[fQ h']at hI;simp only[go_sem,h']
  refine aY (fun hm=>?_) (fun hm=>?_)
  ·simp only[go_sem,qW,h9,(aO5 p w _ hp hw).ret]
   refine aY (fun hb=>?_) (fun hb=>?_)
   ·simp at hb
    simp[bE,<-hI,hb]
   ·simp at hb
    refine⟨_,_,_,rfl,?_⟩
    simp only[go_sem,h2,h3,h4,e4,h5,e5,aT h' hl];rw[<-hI,hb];simp
  ·simp at hm
   try simp only[go_sem,qW,h2,h3,h4,e4,h5,e5,h9]
   simp[bE];omega
 ·have:k=l.length:=by simp at h;omega
  subst this
  try simp only[go_sem,h,h2,h3]
  simp at hI
  simp[bE];exact fun _=>hI
theorem aCn (p:aF)(w:aA)(l:List aB)(hp:p.few)(hw:w.few)(hl:Few l.length)(hf: ∀f∈l,f.few):
  PC L 142 [.agg p.cs,.agg w.cs,.fz (l.map aB.enc)] (.bool (bV p w l)):=by
 have hL:=at_ Tryz.func142
 conv at hL=>rhs;reduce
 refine aG hL rfl rfl ?_
 simp only[go_sem,qW]
 refine bQ (l.length) (fun k st=> ∃fr en cnt,st=⟨fr,en,cnt⟩/\ (fr 2= .fz (l.map aB.enc))/\ (fr 3= .ptr ⟨0,3,0⟩ 0)/\ (en ⟨0,3,0⟩=some (.box p.cells false))/\ (fr 4= .ptr ⟨0,4,0⟩ 0)/\ (en ⟨0,4,0⟩=some (.box w.cells false))/\ (fr 7= .i k)/\ ((l.drop k).all (dH p w)=l.all (dH p w))) 0 (bO8 _) ⟨_,_,_,rfl,(by first|(simp only[go_sem];(try rfl);done)|rfl|simp),(by first|(simp only[go_sem];(try rfl);done)|rfl|simp),(by first|(simp only[go_sem];(try rfl);done)|rfl|simp),(by first|(simp only[go_sem];(try rfl);done)|rfl|simp),(by first|(simp only[go_sem];(try rfl);done)|rfl|simp),(by first|(simp only[go_sem];(try rfl);done)|rfl|simp),(by first|(simp only[go_sem];(try rfl);done)|rfl|simp)⟩ ?_
 rintro k st hk ⟨fr,en,cnt,rfl,h2,h3,e3,h4,e4,h7,hI⟩
 simp only[go_sem,qW,h2,h7]
 refine bG (fun h=>?_) (fun h=>?_)
 ·have h':k<l.length:=of_decide_eq_true h;rw[fQ h']at hI;have hx:=hf l[k] (bO6 _);simp only[go_sem,h']
  refine aY (fun hm=>?_) (fun hm=>?_)
  ·refine aAl ?_ ?_
   ·decide
   simp only[go_sem,h3,e3,h4,e4,(nQ _ _ _).ret,dX hp.nodes]
   refine bG (fun hb=>?_) (fun hb=>?_)
   ·have hb':inR l[k].node 0 (p.nodes.length-1)=true:=by simpa using hb
    simp only[go_sem,hb',h3,e3,h4,e4,(oH p w _ _ hp hw hx.1).ret]
    refine bG (fun hc=>?_) (fun hc=>?_)
    ·have hc':bE p w l[k].env 30=true:=by simpa using hc
     simp only[go_sem,qW,hc',hb',h7,bK,(vP _).ret,(oH p w _ _ hp hw hx.2).ret]
     refine aY (fun hd=>?_) (fun hd=>?_)
     ·simp at hd
      simp[bV,<-hI,dH,hb',hc',hd]
     ·simp at hd
      refine⟨_,_,_,rfl,?_⟩
      simp only[go_sem,h2,h3,e3,h4,e4,aT h' hl];rw[<-hI];simp[dH,hb',hc',hd]
    ·simp only[go_sem,qW,hc]
     simp at hc
     simp[bV,<-hI,dH,hc]
   ·simp only[go_sem,qW,hb]
    simp at hb
    simp[bV,<-hI,dH,hb]
  ·simp at hm
   try simp only[go_sem,qW,h2,h3,e3,h4,e4,h7]
   simp[bV];omega
 ·have:k=l.length:=by simp at h;omega
  subst this
  try simp only[go_sem,h,h2]
  simp at hI
  simp[bV];exact fun _=>hI
theorem aHj (p:aF)(l:List aB)(n:Nat)(hp:p.few)(hl:Few l.length)(hn:n<=l.length)(hf: ∀f∈l,inR f.node 0 (p.nodes.length-1)=true):
  PC L 143 [.agg p.cs,.fz (l.map aB.enc),.i n] (.bool ((l.take n).all (fE p))):=by
 have hL:=at_ Tryz.func143
 conv at hL=>rhs;reduce
 refine aG hL rfl rfl ?_
 simp only[go_sem,qW]
 refine bQ (n) (fun k st=> ∃fr en cnt,st=⟨fr,en,cnt⟩/\ (fr 1= .fz (l.map aB.enc))/\ (fr 2= .i n)/\ (fr 3= .ptr ⟨0,3,0⟩ 0)/\ (en ⟨0,3,0⟩=some (.box p.cells false))/\ (fr 7= .i k)/\ (((l.take n).drop k).all (fE p)=(l.take n).all (fE p))) 0 (bO8 _) ⟨_,_,_,rfl,(by first|(simp only[go_sem];(try rfl);done)|rfl|simp),(by first|(simp only[go_sem];(try rfl);done)|rfl|simp),(by first|(simp only[go_sem];(try rfl);done)|rfl|simp),(by first|(simp only[go_sem];(try rfl);done)|rfl|simp),(by first|(simp only[go_sem];(try rfl);done)|rfl|simp),(by first|(simp only[go_sem];(try rfl);done)|rfl|simp)⟩ ?_
 rintro k st hk ⟨fr,en,cnt,rfl,h1,h2,h3,e3,h7,hI⟩
 simp only[go_sem,qW,h2,h7]
 refine aY (fun h=>?_) (fun h=>?_)
 ·have h'':k<n:=by simp at h;omega
  have h':k<l.length:=by omega
  rw[fQ (by simp;omega)]at hI
  have hx:=hf l[k] (bO6 _)
  try simp only[go_sem,qW,h1,h2,h3,e3,h7]
  refine aAl ?_ ?_
  ·decide
  simp only[go_sem,qW,h1,h3,e3,h7,h',h'',hx,bK,(vP _).ret];have he:(l.take n)[k]'(by simp;omega)=l[k]:=by simp
  rw[he]at hI
  refine aY (fun hb=>?_) (fun hb=>?_)
  ·simp at hb
   have:fE p l[k]=false:=by simp[fE,hb]
   rw[<-hI,this];rfl
  ·simp at hb
   have:fE p l[k]=true:=by simp[fE,hb]
   refine⟨_,_,_,rfl,?_⟩
   simp only[go_sem,h1,h2,h3,e3,aT h' hl];rw[<-hI,this];simp
 ·have:k=n:=by simp at h;omega
  subst this
  try simp only[go_sem,qW]
  rw[<-hI];simp
variable {p:aF}{w:aA}
theorem aO6 {l:List aD}{m:Int}(h:bE p w l m=true):(l.length:Int)<=m:=by
 simp[bE]at h;exact h.1
variable {l:List aB}
theorem aEr (h:bV p w l=true):(l.length:Int)<=40:=by
 simp[bV]at h;omega
theorem oI (h:bV p w l=true): ∀f∈l,inR f.node 0 (p.nodes.length-1)=true:=by
 simp[bV]at h;intro f hf;have:=h.2 f hf;simp[dH]at this;exact this.1.1
theorem aR1 (p:aF)(w:aA)(o:aR)(hp:p.few)(hw:w.few)(ho:o.few):PC L 141 [.agg p.cs,.agg w.cs,.agg [.i o.form,.i o.n,.fz (o.vals.map aD.enc),.fz (o.frames.map aB.enc)]] (.bool (jN p w o)):=by
 have hL:=at_ Tryz.func141
 conv at hL=>rhs;reduce
 refine aG hL rfl rfl ?_
 simp only[go_sem,qW]
 refine aY (fun h=>?_) (fun h=>?_)<;>simp only[bSi,bSj]at h
 ·simp only[go_sem,(aCn p w _ hp hw ho.2.1 ho.2.2).ret]
  refine bG (fun h1=>?_) (fun h1=>?_)
  ·simp only[go_sem,h1,(oH p w _ _ hp hw ho.1).ret]
   refine bG (fun h2=>?_) (fun h2=>?_)
   ·have k1:=aEr h1;have k2:=aO6 h2;have e1:IntKind.i64.wrap ((o.frames.length:Int)+o.vals.length)=(o.frames.length:Int)+o.vals.length:=aW (by omega)
    simp only[go_sem,h2,e1]
    refine bG (fun h3=>?_) (fun h3=>?_)
    ·simp at h3
     have e2:IntKind.i64.wrap ((o.frames.length:Int)-1)=(o.frames.length:Int)-1:=aW (by omega)
     have e3:IntKind.i64.wrap ((o.frames.length:Int)-1+o.vals.length)=((o.frames.length+o.vals.length-1:Nat):Int):=by rw[aW (by omega)];omega
     have e4:min (o.frames.length:Int) (max 0 ((o.frames.length+o.vals.length-1:Nat):Int))=((o.frames.length+o.vals.length-1:Nat):Int):=by omega
     simp only[go_sem,h3,e2,e3,e4,(aHj p o.frames (o.frames.length+o.vals.length-1) hp ho.2.1 (by omega) (oI h1)).ret]
     simp[jN,h,h1,h2,h3]
    ·simp only[go_sem,h3]
     simp at h3
     simp[jN,h,h1,h2];omega
   ·simp only[go_sem,h2]
    simp at h2
    simp[jN,h,h1,h2]
  ·simp only[go_sem,h1]
   simp at h1
   simp[jN,h,h1]
 ·repeat' ((first|with_reducible refine aY (fun h=>?_) (fun h=>?_)|with_reducible refine bG (fun h=>?_) (fun h=>?_))<;>(try simp only[bSi,bSj,bPd]at h)<;>try simp only[go_sem,h,(oH p w _ _ hp hw ho.1).ret])
  all_goals simp[jN, *]
  all_goals (intros;simp_all)
theorem aL8 (p:aF)(w:aA)(o:aR)(hp:p.few)(hw:w.few)(ho:o.few):PC L 103 [.agg p.cs,.agg w.cs,.agg [.i o.form,.i o.n,.fz (o.vals.map aD.enc),.fz (o.frames.map aB.enc)]] (.bool (dK p w o)):=by
 have hL:=at_ Tryz.func103
 conv at hL=>rhs;reduce
 refine aG hL rfl rfl ?_
 simp only[go_sem,qW]
 refine aY (fun h=>?_) (fun h=>?_)<;>simp only[bSi,bSj]at h
 ·simp only[go_sem,(aR1 p w o hp hw ho).ret];simp[dK,h]
 ·refine aY (fun h5=>?_) (fun h5=>?_)<;>simp only[bSi,bSj]at h5
  ·try simp only[go_sem,qW]
   refine bG (fun h1=>?_) (fun h1=>?_)
   ·simp only[go_sem,h1]
    refine bG (fun h2=>?_) (fun h2=>?_)
    ·simp only[go_sem,h2]
     refine bG (fun h3=>?_) (fun h3=>?_)
     ·simp only[go_sem,h3,(aCn p w _ hp hw ho.2.1 ho.2.2).ret]
      refine bG (fun h4=>?_) (fun h4=>?_)
      ·simp only[go_sem,h4,(aHj p o.frames o.frames.length hp ho.2.1 (bOy _) (oI h4)).ret]
       refine bG (fun h6=>?_) (fun h6=>?_)
       ·have hpos:0<o.frames.length:=by have:=of_decide_eq_true h3;omega
        have hn:inR (o.frames.headD default).node 0 (p.nodes.length-1)=true:=oI h4 _ (by cases hh:o.frames with|nil=>simp[hh]at hpos|cons a l=>simp)
        simp only[go_sem,h6,aNb hpos,hn,bK]
        simp at h6 h1 h2
        simp[dK,h5,h1,h2,h4]
        first|(intros;simp_all;done)|trace_state
       ·simp only[go_sem,h6]
        simp at h6 h1 h2
        simp[dK,h5,h1,h2,h4];obtain⟨x,hx,hx2⟩:=h6;intro _ hh;rw[hh x hx]at hx2;cases hx2
      ·simp only[go_sem,h4]
       simp at h4
       simp[dK,h5,h4]
     ·simp only[go_sem,h3]
      simp at h3
      simp[dK,h5,h3]
    ·simp only[go_sem,h2]
     simp at h2
     simp[dK,h5,h2]
   ·simp only[go_sem,h1]
    simp at h1
    simp[dK,h5,h1]
  ·try simp only[go_sem,qW]
   refine aY (fun h7=>?_) (fun h7=>?_)
   ·simp at h7
    simp[dK,h,h5,h7]
   ·have h7':(o.frames.length:Int)=0:=by simp at h7;simp[h7]
    try simp only[go_sem,qW]
    repeat' ((first|with_reducible refine aY (fun h=>?_) (fun h=>?_)|with_reducible refine bG (fun h=>?_) (fun h=>?_))<;>(try simp only[bSi,bSj,bPd]at h)<;>try simp only[go_sem, *,(nQ _ _ _).ret,(oH p w _ _ hp hw ho.1).ret,dX hp.nodes,dX hp.cons,bK,aGh])
    all_goals simp[dK, *]
    all_goals (intros;simp_all)
theorem aR2 (l:List Int)(m:Int)(hl:Few l.length):PC L 100 [.is l,.i m] (.bool (nA l m)):=by
 have hL:=at_ Tryz.func100
 conv at hL=>rhs;reduce
 refine aG hL rfl rfl ?_
 simp only[go_sem,qW]
 refine bQ (l.length) (fun k st=> ∃fr en cnt,st=⟨fr,en,cnt⟩/\ (fr 0= .is l)/\ (fr 1= .i m)/\ (fr 5= .i k)/\ ((l.drop k).all (fun n=>inR n (-1000000000) 1000000000)=l.all fun n=>inR n (-1000000000) 1000000000)) 0 (bO8 _) ⟨_,_,_,rfl,(by first|(simp only[go_sem];(try rfl);done)|rfl|simp),(by first|(simp only[go_sem];(try rfl);done)|rfl|simp),(by first|(simp only[go_sem];(try rfl);done)|rfl|simp),(by first|(simp only[go_sem];(try rfl);done)|rfl|simp)⟩ ?_
 rintro k st hk ⟨fr,en,cnt,rfl,h0,h1,h5,hI⟩
 simp only[go_sem,qW,h0,h1,h5]
 refine bG (fun h=>?_) (fun h=>?_)
 ·have h':k<l.length:=of_decide_eq_true h;rw[fQ h']at hI;simp only[go_sem,h']
  refine aY (fun hm=>?_) (fun hm=>?_)
  ·simp only[go_sem,qW,h5,(nQ _ _ _).ret]
   refine aY (fun hb=>?_) (fun hb=>?_)
   ·simp at hb
    simp[nA,<-hI,hb]
   ·simp at hb
    refine⟨_,_,_,rfl,?_⟩
    simp only[go_sem,h0,h1,aT h' hl];rw[<-hI,hb];simp
  ·simp at hm
   try simp only[go_sem,qW,h0,h1,h5]
   simp[nA];omega
 ·have:k=l.length:=by simp at h;omega
  subst this
  try simp only[go_sem,h,h0,h1]
  simp at hI
  simp[nA];exact fun _=>hI
theorem aO7 (w:aA)(hw:w.few):PC L 102 [.agg w.cs] (.bool (gW w)):=by
 have hL:=at_ Tryz.func102
 conv at hL=>rhs;reduce
 refine aG hL rfl rfl ?_
 simp only[go_sem,qW]
 refine bQ (w.objs.length) (fun k st=> ∃fr en cnt,st=⟨fr,en,cnt⟩/\ (fr 1= .ptr ⟨0,1,0⟩ 0)/\ (en ⟨0,1,0⟩=some (.box w.cells false))/\ (fr 3= .i ((w.objs.take k).countP cW:Nat))/\ (fr 4= .i k)) 0 (bO8 _) ⟨_,_,_,rfl,(by first|(simp only[go_sem];(try rfl);done)|rfl|simp),(by first|(simp only[go_sem];(try rfl);done)|rfl|simp),(by first|(simp only[go_sem];(try rfl);done)|rfl|simp),(by first|(simp only[go_sem];(try rfl);done)|rfl|simp)⟩ ?_
 rintro k st hk ⟨fr,en,cnt,rfl,h1,e1,h3,h4⟩
 simp only[go_sem,qW,h1,e1,h3,h4]
 refine aY (fun h=>?_) (fun h=>?_)
 ·have h':k<w.objs.length:=of_decide_eq_true h;have hc:(w.objs.take k).countP cW<=k:=bPb bR6 (by simp;omega)
  have hs:=aUu h' cW;simp only[go_sem,h',h3,h4]
  refine aY (fun hb=>?_) (fun hb=>?_)
  ·simp at hb
   have e:IntKind.i64.wrap (((w.objs.take k).countP cW:Nat)+1)=(((w.objs.take (k+1)).countP cW:Nat):Int):=by
    have:=hw.objs;unfold Few at this;rw[aW (by omega),hs];simp[cW,hb]
   simp only[go_sem,e,aT h' hw.objs]
   refine⟨_,_,_,rfl,?_⟩
   simp only[go_sem,h1,e1]
  ·simp at hb
   have e:(w.objs.take (k+1)).countP cW=(w.objs.take k).countP cW:=by rw[hs];simp[cW,hb]
   refine⟨_,_,_,rfl,?_⟩
   simp only[go_sem,h1,e1,h3,e,aT h' hw.objs]
 ·have:k=w.objs.length:=by simp at h;omega
  subst this
  try simp only[go_sem,bQp]
  refine aY (fun hb=>?_) (fun hb=>?_)
  ·simp at hb
   simp[gW];intro h0;omega
  ·have hn:w.tasks.length=w.objs.countP cW:=by simp at hb;omega
   clear hb h
   refine bQ (w.tasks.length) (fun k st=> ∃fr en cnt,st=⟨fr,en,cnt⟩/\ (fr 1= .ptr ⟨0,1,0⟩ 0)/\ (en ⟨0,1,0⟩=some (.box w.cells false))/\ (fr 3= .i (w.tasks.length:Nat))/\ (fr 5= .i k)/\ (bP w (w.tasks.take k) (w.tasks.drop k)=bP w [] w.tasks)) 0 (bO8 _) ⟨_,_,_,rfl,(by first|(simp only[go_sem,h1,hn];(try rfl);done)|rfl|simp),(by first|(simp only[go_sem,e1];(try rfl);done)|rfl|simp),(by first|(simp only[go_sem,h3,hn,bQp];(try rfl);done)|rfl|simp),(by first|(simp only[go_sem,hn];(try rfl);done)|rfl|simp),(by first|(simp only[go_sem];(try rfl);done)|rfl|simp)⟩ ?_
   rintro k st hk ⟨fr,en,cnt,rfl,h1,e1,h3,h5,hI⟩
   simp only[go_sem,qW,h1,e1,h3,h5]
   refine aY (fun h=>?_) (fun h=>?_)
   ·have h':k<w.tasks.length:=of_decide_eq_true h;rw[bPy h',bP,<-kW h']at hI;simp only[go_sem,h',h1,e1,(nQ _ _ _).ret,dX hw.objs]
    refine bG (fun hb=>?_) (fun hb=>?_)
    ·have hb':inR w.tasks[k] 0 (w.objs.length-1)=true:=by simpa using hb
     simp only[go_sem,hb',h1,e1,h5,yJ]
     refine bG (fun hc=>?_) (fun hc=>?_)
     ·have hc':cW (w.obj w.tasks[k])=true:=by simpa[cW]using hc
      simp only[go_sem,qW,hc,h5,uB,hk,<-bQs,(aL7 _ _ (aJ7 hw.tasks k)).ret]
      refine aY (fun hd=>?_) (fun hd=>?_)
      ·simp[gW,<-hI,hb',hc',hd]
      ·refine⟨_,_,_,rfl,?_⟩
       simp only[go_sem,h1,e1,h3,aT h' hw.tasks];rw[<-hI,hb',hc',hd];simp
     ·simp only[go_sem,qW,hc];simp[]at hc;simp[gW,<-hI,cW,hc]
    ·simp only[go_sem,qW,hb]
     simp at hb
     simp[gW,<-hI,hb]
   ·have:k=w.tasks.length:=by simp at h;omega
    subst this
    try simp only[go_sem,qW,h1,e1,h3,h5]
    have ht:bP w [] w.tasks=true:=by rw[<-hI];simp[bP]
    simp[gW,hn,ht]
theorem aO8 (p:aF)(w:aA)(hp:p.few)(hw:w.few):PC L 39 [.agg p.cs,.agg w.cs] (.bool (cX p w)):=by
 have hL:=at_ Tryz.func39
 conv at hL=>rhs;reduce
 refine aG hL rfl rfl ?_
 simp only[go_sem,qW]
 repeat' ((first|with_reducible refine aY (fun h=>?_) (fun h=>?_)|with_reducible refine bG (fun h=>?_) (fun h=>?_))<;>(try simp only[bSi,bSj,bPh]at h)<;>try simp only[go_sem,qW, *,(nQ _ _ _).ret,(aR2 _ _ hw.ins).ret,(aO7 w hw).ret])
 all_goals (try simp only[bQb,Bool.not_eq_false',Int.not_lt]at*)
 all_goals try(simp[cX, *];done)
 all_goals try(simp[cX, *];intros;omega)
 rename_i g1 g2 g3 g4
 refine bQ (w.objs.length) (fun k st=> ∃fr en cnt,st=⟨fr,en,cnt⟩/\ (fr 2= .ptr ⟨0,2,0⟩ 0)/\ (en ⟨0,2,0⟩=some (.box p.cells false))/\ (fr 3= .ptr ⟨0,3,0⟩ 0)/\ (en ⟨0,3,0⟩=some (.box w.cells false))/\ (fr 5= .i k)/\ ((w.objs.drop k).all (dK p w)=w.objs.all (dK p w))) 0 (bO8 _) ⟨_,_,_,rfl,(by first|(simp only[go_sem];(try rfl);done)|rfl|simp),(by first|(simp only[go_sem];(try rfl);done)|rfl|simp),(by first|(simp only[go_sem];(try rfl);done)|rfl|simp),(by first|(simp only[go_sem];(try rfl);done)|rfl|simp),(by first|(simp only[go_sem];(try rfl);done)|rfl|simp),(by first|(simp only[go_sem];(try rfl);done)|rfl|simp)⟩ ?_
 rintro k st hk ⟨fr,en,cnt,rfl,h2,e2,h3,e3,h5,hI⟩
 simp only[go_sem,qW,h2,e2,h3,e3,h5]
 refine aY (fun h1=>?_) (fun h1=>?_)
 ·have h':k<w.objs.length:=of_decide_eq_true h1;rw[fQ h']at hI;simp only[go_sem,qW,h',h5,(aL8 p w _ hp hw (hw.obj w.objs[k] (bO6 _))).ret]
  refine aY (fun hb=>?_) (fun hb=>?_)
  ·simp at hb
   simp[cX,<-hI,hb]
  ·simp at hb
   refine⟨_,_,_,rfl,?_⟩
   simp only[go_sem,h2,e2,h3,e3,aT h' hw.objs];rw[<-hI,hb];simp
 ·have:k=w.objs.length:=by simp at h1;omega
  subst this;have hobj:w.objs.all (dK p w)=true:=by rw[<-hI];simp
  clear hI h1
  try simp only[go_sem,qW,h2,e2,h3,e3,h5]
  refine bQ (w.outs.length) (fun k st=> ∃fr en cnt,st=⟨fr,en,cnt⟩/\ (fr 3= .ptr ⟨0,3,0⟩ 0)/\ (en ⟨0,3,0⟩=some (.box w.cells false))/\ (fr 6= .i k)/\ ((w.outs.drop k).all vN=w.outs.all vN)) 0 (bO8 _) ⟨_,_,_,rfl,(by first|(simp only[go_sem,h3];(try rfl);done)|rfl|simp),(by first|(simp only[go_sem,e3];(try rfl);done)|rfl|simp),(by first|(simp only[go_sem];(try rfl);done)|rfl|simp),(by first|(simp only[go_sem];(try rfl);done)|rfl|simp)⟩ ?_
  rintro k st hk ⟨fr,en,cnt,rfl,h3,e3,h6,hI⟩
  simp only[go_sem,qW,h3,e3,h6]
  refine aY (fun h1=>?_) (fun h1=>?_)
  ·have h':k<w.outs.length:=of_decide_eq_true h1;rw[fQ h']at hI;simp only[go_sem,qW,h',h3,e3,h6,(nQ _ _ _).ret]
   refine bG (fun hb=>?_) (fun hb=>?_)
   ·simp at hb
    simp only[go_sem,hb,bPd]
    refine aY (fun hc=>?_) (fun hc=>?_)
    ·simp at hc
     simp[cX,<-hI,vN,hc]
    ·simp at hc
     refine⟨_,_,_,rfl,?_⟩
     simp only[go_sem,h3,e3,aT h' hw.outs];rw[<-hI,vN,hb,hc];simp
   ·simp at hb
    simp only[go_sem,qW,hb,bPh];simp[cX,<-hI,vN,hb]
  ·have:k=w.outs.length:=by simp at h1;omega
   subst this;have hout:w.outs.all vN=true:=by rw[<-hI];simp
   try simp only[go_sem,qW,h3,e3,h6]
   simp only[cX,hobj,hout,g3,g4,h];simp[g1,g2]
theorem xD (l:List aD):PC L 93 [.fz (l.map aD.enc)] (.bool (decide ((l.length:Int)<=40))):=by
 have hL:=at_ Tryz.func93
 conv at hL=>rhs;reduce
 refine aG hL rfl rfl ?_
 simp only[go_sem,qW]
theorem aEs (w:aA)(hw:w.few):PC L 36 [.agg w.cs] (.bool (dB w)):=by
 have hL:=at_ Tryz.func36
 conv at hL=>rhs;reduce
 refine aG hL rfl rfl ?_
 simp only[go_sem,qW]
 repeat' ((first|with_reducible refine aY (fun h=>?_) (fun h=>?_)|with_reducible refine bG (fun h=>?_) (fun h=>?_))<;>(try simp only[bSi,bSj,bPh]at h)<;>try simp only[go_sem,qW, *])
 all_goals (try simp only[Int.not_lt]at*)
 all_goals try(simp[dB, *];done)
 all_goals try(simp[dB, *];intros;omega)
 rename_i g1 g2 g3
 refine bQ (w.objs.length) (fun k st=> ∃fr en cnt,st=⟨fr,en,cnt⟩/\ (fr 1= .ptr ⟨0,1,0⟩ 0)/\ (en ⟨0,1,0⟩=some (.box w.cells false))/\ (fr 3= .i k)/\ ((w.objs.drop k).all fT=w.objs.all fT)) 0 (bO8 _) ⟨_,_,_,rfl,(by first|(simp only[go_sem];(try rfl);done)|rfl|simp),(by first|(simp only[go_sem];(try rfl);done)|rfl|simp),(by first|(simp only[go_sem];(try rfl);done)|rfl|simp),(by first|(simp only[go_sem];(try rfl);done)|rfl|simp)⟩ ?_
 rintro k st hk ⟨fr,en,cnt,rfl,h1,e1,h3,hI⟩
 simp only[go_sem,qW,h1,e1,h3]
 refine aY (fun hq=>?_) (fun hq=>?_)
 ·have h':k<w.objs.length:=of_decide_eq_true hq;have hx:=hw.obj w.objs[k] (bO6 _);rw[fQ h']at hI;simp only[go_sem,qW,h',(xD _).ret]
  refine bG (fun hb=>?_) (fun hb=>?_)
  ·simp at hb
   try simp only[go_sem,hb]
   refine aY (fun hc=>?_) (fun hc=>?_)
   ·simp at hc
    simp[dB,<-hI,fT];intros;omega
   ·simp at hc
    generalize cnt 0 4=g4
    refine bQ (w.objs[k].frames.length) (fun j st=> ∃fr en cnt,st=⟨fr,en,cnt⟩/\ (fr 1= .ptr ⟨0,1,0⟩ 0)/\ (en ⟨0,1,0⟩=some (.box w.cells false))/\ (fr 4= .ptr ⟨0,4,g4⟩ 0)/\ (en ⟨0,4,g4⟩=some (.box [.i w.objs[k].form,.i w.objs[k].n,.fz (w.objs[k].vals.map aD.enc),.fz (w.objs[k].frames.map aB.enc)] false))/\ (fr 3= .i k)/\ (fr 5= .i j)/\ ((w.objs[k].frames.drop j).all (fun f=>decide ((f.env.length:Int)<=40)&&decide ((f.vals.length:Int)<=40))=w.objs[k].frames.all fun f=>decide ((f.env.length:Int)<=40)&&decide ((f.vals.length:Int)<=40))) 0 (bO8 _) ⟨_,_,_,rfl,(by first|(simp only[go_sem,h1];(try rfl);done)|rfl|simp),(by first|(simp only[go_sem,e1];(try rfl);done)|rfl|simp),(by first|(simp only[go_sem];(try rfl);done)|rfl|simp),(by first|(simp only[go_sem];(try rfl);done)|rfl|simp),(by first|(simp only[go_sem,h3];(try rfl);done)|rfl|simp),(by first|(simp only[go_sem];(try rfl);done)|rfl|simp),(by first|(simp only[go_sem];(try rfl);done)|rfl|simp)⟩ ?_
    rintro j st hk ⟨fr,en,cnt,rfl,h1,e1,h4,e4,h3,h5,hJ⟩
    simp only[go_sem,qW,h4,e4,h3,h5]
    refine aY (fun h2=>?_) (fun h2=>?_)
    ·have h2':j<w.objs[k].frames.length:=of_decide_eq_true h2;rw[fQ h2']at hJ;simp only[go_sem,qW,h2',h4,e4,h5,(xD _).ret]
     refine bG (fun hd=>?_) (fun hd=>?_)
     ·simp only[go_sem,hd]
      refine aY (fun he=>?_) (fun he=>?_)
      ·simp at he
       have:w.objs[k].frames.all (fun f=>decide ((f.env.length:Int)<=40)&&decide ((f.vals.length:Int)<=40))=false:=by rw[<-hJ];simp;intros;omega
       simp only[dB,<-hI,fT,this];simp
      ·refine⟨_,_,_,rfl,?_⟩
       simp only[go_sem,h1,e1,h4,e4,h3,aT h2' hx.2.1]
       simp at hd he
       rw[<-hJ];simp;intros;exact⟨by omega,by omega⟩
     ·simp only[go_sem,qW,hd,bPh]
      simp at hd
      have:w.objs[k].frames.all (fun f=>decide ((f.env.length:Int)<=40)&&decide ((f.vals.length:Int)<=40))=false:=by rw[<-hJ];simp;intros;omega
      simp only[dB,<-hI,fT,this];simp
    ·have:j=w.objs[k].frames.length:=by simp at h2;omega
     subst this;have hfr:fT w.objs[k]=true:=by
      simp only[fT,<-hJ];simp;exact⟨by omega,by omega⟩
     try simp only[go_sem,qW,h1,e1,h4,e4,h3,h5]
     refine⟨_,_,_,rfl,?_⟩
     simp only[go_sem,h1,e1,aT h' hw.objs];rw[<-hI,hfr];simp
  ·simp only[go_sem,qW,hb,bPh]
   simp at hb
   have:fT w.objs[k]=false:=by simp[fT];intros;omega
   simp[dB,<-hI,this]
 ·have:k=w.objs.length:=by simp at hq;omega
  subst this;have hobj:w.objs.all fT=true:=by rw[<-hI];simp
  try simp only[go_sem,qW,h1,e1,h4,e4,h3,h5]
  simp only[dB,hobj];simp[g1,g2,g3,h]
end Go.Proofs.YtmnchlhngpdffaaGreat
namespace Go.Abs
def nB (s:ByteArray):List UInt8:=s.data.toList
theorem qB (s:ByteArray):(nB s).length=s.size:=by unfold nB;rw[bQ4];rfl
variable {s:ByteArray}
theorem aO9 {k:IntKind}{j:Nat}(h:j<(nB s).length):aV7 (.str s) (.int k (j:Int))=some {v:= .int .u8 ((nB s)[j].toNat:Nat)}:=bDe h
theorem aNc (s:ByteArray):nB (s.extract 1 s.size)=(nB s).drop 1:=by
 have hs:s.size=s.data.toList.length:=by rw[bQ4];rfl
 unfold nB;rw[ByteArray.data_extract,Array.toList_extract,hs];show List.take _ (List.drop 1 _)=_;exact bPi (by rw[bRb];exact bOy _)
def kQ (b:UInt8):Bool:=decide (97<=(b.toNat:Int))&&decide ((b.toNat:Int)<=122)
def oB (l:List UInt8):Bool:=l.all kQ
def aJ8 :List UInt8->Bool
 |[]=>false
 |b::l=>decide ((b::l).length<=8)&&decide (65<=(b.toNat:Int))&&decide ((b.toNat:Int)<=90)&&oB l
def aEt (x y:ByteArray):Bool:=x.toList==y.toList
def uE (l:List ByteArray)(s:ByteArray):Bool:=l.any fun x=>aEt x s
def mD :List ByteArray->List ByteArray->Bool
 |_,[]=>true
 |met,s::l=>!uE met s&&mD (met++[s]) l
def vQ (c:cO):Bool:=aJ8 (nB c.name)&&inR c.args 0 3
def yK (l:List cO):Bool:=l.all vQ&&decide ((l.length:Int)<=20)&&mD [] (l.map cO.name)
def xE (cons:List cO)(f n:Int)(k:Nat):Bool:=
 if f=1 \/f=2 \/f=5 then decide ((k:Int)=0)&&decide (n=0)
 else if f=3 then decide ((k:Int)=0)&&inR n (-1000000000) 1000000000
 else if f=4 then decide ((k:Int)=0)&&inR n 0 1
 else if f=6 then inR n 0 (cons.length-1)&&decide ((k:Int)=(cons.getD n.toNat default).args)else false
def aGi (t:ByteArray):Bool:=t.toList==(⟨#[]⟩:ByteArray).toList
def sO (cons:List cO)(f n:Int)(t:ByteArray)(k:Nat):Bool:=xE cons f n k&&aGi t
mutual
def rM (cons:List cO):Pat->Bool
 | .mk f n t ps=>sO cons f n t ps.length&&aJ9 cons ps
def aJ9 (cons:List cO):List Pat->Bool
 |[]=>true
 |p::ps=>rM cons p&&aJ9 cons ps
end
theorem aKa (cons:List cO): ∀l,aJ9 cons l=l.all (rM cons)
 |[]=>by simp[aJ9]
 |p::ps=>by simp[aJ9,aKa cons ps]
theorem aKb (cons:List cO)(p:Pat):rM cons p=(sO cons p.form p.n p.text p.parts.length&&p.parts.all (rM cons)):=by
 cases p;simp only[rM,aKa,Pat.form,Pat.n,Pat.text,Pat.parts]
mutual
def qD :Pat->Int->Int
 | .mk _ _ _ ps,left=>if left<1 then-1 else jO ps (left-1)
def jO :List Pat->Int->Int
 |[],left=>left
 |p::ps,left=>if 0<=left then jO ps (qD p left)else left
end
mutual
def kL :Pat->Bool
 | .mk _ _ t ps=>rN ps&&decide ((t.size:Int)<=30)
def rN :List Pat->Bool
 |[]=>true
 |p::ps=>kL p&&rN ps
end
theorem zJ : ∀l,rN l=l.all kL
 |[]=>by simp[rN]
 |p::ps=>by simp[rN,zJ ps]
theorem aCo (p:Pat):kL p=(p.parts.all kL&&decide ((p.text.size:Int)<=30)):=by
 cases p;simp only[kL,zJ];rfl
theorem aKc (p:Pat)(left:Int):qD p left=if left<1 then-1 else jO p.parts (left-1):=by
 cases p;simp only[qD,Pat.parts]
mutual
theorem aKd : ∀(p:Pat) (left:Int),-1<=left-> -1<=qD p left/\ qD p left<=left
 | .mk _ _ _ ps,left,h=>by
  rw[qD];split
  ·omega
  ·have:=aNd ps (left-1) (by omega);omega
theorem aNd : ∀(l:List Pat) (left:Int),-1<=left-> -1<=jO l left/\ jO l left<=left
 |[],left,h=>by rw[jO];omega
 |p::ps,left,h=>by
  rw[jO];split
  ·have h1:=aKd p left h;have h2:=aNd ps (qD p left) h1.1;omega
  ·omega
end
theorem aDc : ∀{l:List Pat} {left:Int},left<0->jO l left=left
 |[],_,_=>by rw[jO]
 |_::_,_,h=>by rw[jO,if_neg (by omega)]
def aAr (p:Pat):Bool:=decide (0<=qD p 16)&&kL p
def fU (n:aJ):Bool:=decide ((n.kids.length:Int)<=10)&&decide ((n.pats.length:Int)<=10)&&n.pats.all aAr
def aS (p:aF):Bool:=
 decide ((p.nodes.length:Int)<=320)&&decide ((p.funs.length:Int)<=320)&&decide ((p.cons.length:Int)<=25)&&p.cons.all (fun c=>decide ((c.name.size:Int)<=40))&&p.nodes.all fU
def fC (op:Int)(pats:Int)(args:Int):Int:=
 if op=1 \/op=2 \/op=3 \/op=4 \/op=21 \/op=25 \/op=28 then 0
 else if op=5 \/op=27 \/op=16 \/op=17 \/op=19 \/op=20 \/op=23 \/op=26 \/op=24 then 1
 else if op=6 \/op=7 \/op=9 \/op=10 \/op=11 \/op=12 \/op=13 \/op=18 \/op=22 then 2
 else if op=8 then 3 else if op=15 then 1+pats else if op=14 then args else-1
def mQ (cons:List cO)(q:Pat):Bool:=decide (0<=qD q 12)&&rM cons q
def nW (p:aF)(n:aJ):Bool:=
 if n.op=1 then inR n.n (-1000000000) 1000000000
 else if n.op=2 then inR n.n 0 1
 else if n.op=4 then inR n.n (-(p.funs.length:Int)) 29
 else if n.op=24 then inR n.n 0 3
 else if n.op=14 then inR n.n 0 (p.cons.length-1)else decide (n.n=0)
def oY (p:aF)(n:aJ):Int:=if n.op=14/\ inR n.n 0 (p.cons.length-1)=true then(p.cons.getD n.n.toNat default).args else 0
def lQ (n:aJ):Bool:=if n.op=15 then inR n.pats.length 1 5 else decide ((n.pats.length:Int)=0)
def eL (p:aF)(n:aJ):Bool:=
 ((nW p n&&lQ n)&&n.pats.all (mQ p.cons))&&decide ((n.kids.length:Int)=fC n.op n.pats.length (oY p n))
def aAs (lo hi:Int):List Bool->List Int->Option (List Bool)
 |u,[]=>some u
 |u,x::l=>if inR x lo hi&&!(u.getD x.toNat false)then aAs lo hi (u.set x.toNat true) l else none
def kX (p:aF):Nat->List Bool->List aJ->Option (List Bool)
 |_,u,[]=>some u
 |i,u,n::l=>if eL p n then(aAs ((i:Int)+1) (p.nodes.length-1) u n.kids).bind fun u=>kX p (i+1) u l else none
def yL :Option (List Bool)->Bool
 |some u=>u.all id
 |none=>false
def fG (p:aF):Bool:=
 decide ((p.nodes.length:Int)<=300)&&inR p.funs.length 1 p.nodes.length&&inR p.main 0 (p.funs.length-1)&&yK p.cons&&
  yL ((aAs 0 (p.nodes.length-1) (List.replicate p.nodes.length false) p.funs).bind fun u=>kX p 0 u p.nodes)
theorem Pat.few_parts {p:Pat}(h:p.few):Few p.parts.length/\ Few p.text.size/\ ∀q∈p.parts,q.few:=by
 cases h with|mk f n t l h ht k=>exact⟨h,ht,k⟩
theorem Pat.ind {P:Pat->Prop}(h: ∀p:Pat,(∀q∈p.parts,P q)->P p): ∀p,P p:=by
 intro p
 induction p using Pat.rec (motive_2:=fun l=> ∀q∈l,P q)with
 |mk f n t l ih=>exact h _ ih
 |nil=>rename_i q hq;simp at hq
 |cons p l h1 h2=>
  rename_i q hq;rcases bP0.1 hq with rfl|hq
  ·exact h1
  ·exact h2 _ hq
variable {i:Nat}
theorem bAw (h:i<(nB s).length):s.get! i=(nB s)[i]:=by
 have h':i<s.data.size:=by rw[qB]at h;exact h
 show s.data[i]! =_;rw[getElem!_pos s.data i h'];simp only[nB,bRr]
theorem aPa (h:i<(nB s).length):
  (kQ (nB s)[i]=true->Utf8.decode s i=((nB s)[i].toNat,1))/\ (kQ (nB s)[i]=false->((Utf8.decode s i).1:Int)<97 \/122<((Utf8.decode s i).1:Int)):=by
 have hg:=bAw h;simp only[kQ,bOx,bSi,Bool.and_eq_false_iff,bSj];constructor
 ·intro hb;unfold Utf8.decode;simp only[bQh,hg];rw[if_pos (by omega)]
 ·intro hb;unfold Utf8.decode;simp only[bQh,hg,Utf8.runeError];split
  ·simp only;omega
  ·split
   ·split
    ·simp only;omega
    ·simp
   ·split
    ·split
     ·rename_i h1;simp only[bOx,bSi]at h1;simp only;omega
     ·simp
    ·split
     ·split
      ·rename_i h1;simp only[bOx,bSi]at h1;simp only;omega
      ·simp
     ·simp
def wH (ks:List ByteArray)(s:ByteArray):List ByteArray:=if uE ks s then ks else ks++[s]
theorem aKe : ∀(l ks:List ByteArray),(l.foldl wH ks).length<=ks.length+l.length
 |[],ks=>by simp
 |s::l,ks=>by
  have:=aKe l (wH ks s);simp only[bRm,bO7];have h2:(wH ks s).length<=ks.length+1:=by unfold wH;split<;>simp
  omega
theorem aEu : ∀(l ks:List ByteArray),decide ((l.foldl wH ks).length=ks.length+l.length)=mD ks l
 |[],ks=>by simp[mD]
 |s::l,ks=>by
  simp only[bRm,bO7,mD]
  by_cases h:uE ks s=true
  ·have:=aKe l ks;simp only[wH,h,if_true,bPd,bPm,bSj];omega
  ·have:=aEu l (ks++[s]);simp only[bP6]at h;simp only[wH,h,bO0,if_false,bPh,bPr];rw[<-this,decide_eq_decide];simp only[bPg,bO7,bPe];omega
mutual
def sK :Pat->Int->Int
 | .mk _ _ _ ps,most=>lR ps most 1
def lR :List Pat->Int->Int->Int
 |[],_,n=>n
 |q::qs,most,n=>if most<n then n else lR qs most (n+sK q (most-n))
end
theorem bAx (p:Pat)(most:Int):sK p most=lR p.parts most 1:=by cases p;simp only[sK,Pat.parts]
theorem aR3 : ∀{l:List Pat} {most n:Int},most<n->lR l most n=n
 |[],_,_,_=>by rw[lR]
 |_::_,_,_,h=>by rw[lR,if_pos h]
mutual
theorem aKf : ∀(p:Pat) (most:Int),0<=most->1<=sK p most/\ sK p most<=most+1
 | .mk _ _ _ ps,most,h=>by rw[sK];exact aNe ps most 1 (by omega)
theorem aNe : ∀(l:List Pat) (most n:Int),n<=most+1->n<=lR l most n/\ lR l most n<=most+1
 |[],most,n,h=>by rw[lR];omega
 |q::qs,most,n,h=>by
  rw[lR];split
  ·omega
  ·have h1:=aKf q (most-n) (by omega)
   have h2:=aNe qs most (n+sK q (most-n)) (by omega)
   omega
end
mutual
theorem aHk : ∀(p:Pat) (most:Int),0<=most->qD p most=if sK p most<=most then most-sK p most else-1
 | .mk _ _ _ ps,most,h=>by
  have:=aCp ps most 1 (by omega)
  rw[qD,sK];split
  ·rename_i h0;have h1:most=0:=by omega
   subst h1;rw[aR3 (by omega),if_neg (by omega)]
  ·exact this
theorem aCp : ∀(l:List Pat) (most n:Int),n<=most+1->jO l (most-n)=if lR l most n<=most then most-lR l most n else-1
 |[],most,n,h=>by
  rw[jO,lR];split<;>omega
 |q::qs,most,n,h=>by
  by_cases hm:0<=most-n
  ·rw[jO,lR,if_pos hm,if_neg (show¬most<n by omega)]
   have h1:=aKf q (most-n) (by omega)
   have hw:=aHk q (most-n) (by omega)
   have h2:=aCp qs most (n+sK q (most-n)) (by omega)
   rw[hw,<-h2];split
   ·congr 1;omega
   ·rw[aDc (by omega),aDc (by omega)];omega
  ·rw[jO,lR,if_neg hm,if_pos (show most<n by omega),if_neg (by omega)];omega
end
theorem bAy (q:Pat):decide (sK q 12<=12)=decide (0<=qD q 12):=by
 have h:=aHk q 12 (by omega)
 rw[h,decide_eq_decide]
 split<;>omega
def yM (op:Int):Val:=
 if op=1 \/op=2 \/op=3 \/op=4 \/op=21 \/op=25 \/op=28 then .ifc 381 (.int .i64 0)
 else if op=5 \/op=27 \/op=16 \/op=17 \/op=19 \/op=20 \/op=23 \/op=26 \/op=24 then .ifc 381 (.int .i64 1)
 else if op=6 \/op=7 \/op=9 \/op=10 \/op=11 \/op=12 \/op=13 \/op=18 \/op=22 then .ifc 381 (.int .i64 2)
 else if op=8 then .ifc 381 (.int .i64 3)else if op=14 then .ifc 382 (.agg [])else if op=15 then .ifc 355 (.agg [])else .nili
theorem aL9 (op:Int):(∃c:Int,yM op= .ifc 381 (.int .i64 c)/\ (∀n a,fC op n a=c)/\ op≠14/\ op≠15) \/(op=14/\ yM op= .ifc 382 (.agg [])) \/
  (op=15/\ yM op= .ifc 355 (.agg [])) \/(yM op= .nili/\ (∀n a,fC op n a= -1)/\ op≠14/\ op≠15):=by
 unfold yM fC;split
 ·left;refine⟨0,rfl,fun _ _=>rfl,?_,?_⟩<;>omega
 split
 ·left;refine⟨1,rfl,fun _ _=>rfl,?_,?_⟩<;>omega
 split
 ·left;refine⟨2,rfl,fun _ _=>rfl,?_,?_⟩<;>omega
 split
 ·left;refine⟨3,rfl,fun _ _=>rfl,?_,?_⟩<;>omega
 split
 ·right;left;exact⟨by assumption,rfl⟩
 split
 ·right;right;left;exact⟨by assumption,rfl⟩
 ·right;right;right;refine⟨rfl,fun n a=>?_,?_,?_⟩<;>first|omega|skip
theorem aHl (s:ByteArray): ∀ks:List ByteArray,(∃i,findKey .str (.str s) (ks.map .str)=some (some i)/\ uE ks s=true/\ (ks.map Val.str).set i (.str s)=ks.map .str) \/
  (findKey .str (.str s) (ks.map .str)=some none/\ uE ks s=false)
 |[]=> .inr ⟨rfl,rfl⟩
 |x::ks=>by
  have hsym:(s.toList==x.toList)=aEt x s:=by unfold aEt;exact Bool.beq_comm
  by_cases h:aEt x s=true
  ·refine .inl ⟨0,?_,?_,?_⟩
   ·simp only[bPw,findKey,pP,hsym,h]
   ·simp[uE,h]
   ·have:x=s:=by
     simp only[aEt,beq_iff_eq]at h;rw[Go.ByteArray.toList_eq,Go.ByteArray.toList_eq]at h;cases x;cases s;simp only at h
     congr
     exact Array.toList_inj.1 h
    simp[this]
  ·simp only[bP6]at h;rcases aHl s ks with⟨i,h1,h2,h3⟩|⟨h1,h2⟩
   ·refine .inl ⟨i+1,?_,?_,?_⟩
    ·simp only[bPw,findKey,pP,hsym,h,h1]
    ·simp only[uE,List.any_cons,h,bPv];exact h2
    ·simp[h3]
   ·refine .inr ⟨?_,?_⟩
    ·simp only[bPw,findKey,pP,hsym,h,h1]
    ·simp only[uE,List.any_cons,h,bPv];exact h2
def gG (p:aF)(w:aA):Bool:=fG p&&cX p w
end Go.Abs
namespace Go.Proofs.YtmnchlhngpdffaaGreat
open Go.Abs Go.Proofs
set_option maxRecDepth 100000
set_option maxHeartbeats 4000000
theorem rA (n lo hi:Int):PC L 97 [.i n,.i lo,.i hi] (.bool (inR n lo hi)):=by
 have hL:=at_ Tryz.func97
 conv at hL=>rhs;reduce
 refine aG hL rfl rfl ?_
 simp only[go_sem,qW]
 refine bG (fun h=>?_) (fun h=>?_)<;>simp only[go_sem,h]<;>simp at h<;>simp[h,inR]
 omega
theorem aPb (s:ByteArray)(hs:Few s.size):PC L 192 [.str s] (.bool (oB (nB s))):=by
 have hL:=at_ Tryz.func192
 conv at hL=>rhs;reduce
 refine aG hL rfl rfl ?_
 simp only[go_sem,qW]
 refine bQ (s.size) (fun k st=> ∃fr en cnt,st=⟨fr,en,cnt⟩/\ (fr 0= .str s)/\ (fr 3= .i k)/\ (((nB s).drop k).all kQ=(nB s).all kQ)) 0 (bO8 _) ⟨_,_,_,rfl,(by first|(simp only[go_sem];(try rfl);done)|rfl|simp),(by first|(simp only[go_sem];(try rfl);done)|rfl|simp),(by first|(simp only[go_sem];(try rfl);done)|rfl|simp)⟩ ?_
 rintro k st hk ⟨fr,en,cnt,rfl,h0,h3,hI⟩
 have hsz:=qB s;simp only[go_sem,qW,h0,h3]
 refine aY (fun h=>?_) (fun h=>?_)
 ·have h':k<s.size:=of_decide_eq_true h;have h'':k<(nB s).length:=by omega
  rw[fQ h'']at hI;simp only[go_sem,qW,h',h0,h3,aO9 h'']
  refine bG (fun hb=>?_) (fun hb=>?_)
  ·simp only[go_sem,hb]
   refine aY (fun hc=>?_) (fun hc=>?_)
   ·simp only[bSi,bSj]at hb hc;have:kQ (nB s)[k]=false:=by simp only[kQ,Bool.and_eq_false_iff,bSj];right;omega
    simp[oB,<-hI,this]
   ·simp only[bSj]at hb hc;have:kQ (nB s)[k]=true:=by simp only[kQ,bOx,bSi];constructor<;>omega
    refine⟨_,_,_,rfl,?_⟩
    simp only[go_sem,h0,aT h' hs];rw[<-hI,this];simp
  ·simp only[go_sem,qW,hb,bPh];simp only[bSi,bPh]at hb;have:kQ (nB s)[k]=false:=by simp only[kQ,Bool.and_eq_false_iff,bSj];left;omega
   simp[oB,<-hI,this]
 ·have:k=s.size:=by simp at h;omega
  subst this
  try simp only[go_sem,qW,h0,h3]
  rw[oB,<-hI,<-hsz];simp
theorem aUv (l:List ByteArray)(s:ByteArray)(hl:Few l.length):PC L 154 [.fz (l.map .str),.str s] (.bool (uE l s)):=by
 have hL:=at_ Tryz.func154
 conv at hL=>rhs;reduce
 refine aG hL rfl rfl ?_
 simp only[go_sem,qW]
 refine bQ (l.length) (fun k st=> ∃fr en cnt,st=⟨fr,en,cnt⟩/\ (fr 0= .fz (l.map .str))/\ (fr 1= .str s)/\ (fr 5= .i k)/\ ((l.drop k).any (fun x=>aEt x s)=l.any fun x=>aEt x s)) 0 (bO8 _) ⟨_,_,_,rfl,(by first|(simp only[go_sem];(try rfl);done)|rfl|simp),(by first|(simp only[go_sem];(try rfl);done)|rfl|simp),(by first|(simp only[go_sem];(try rfl);done)|rfl|simp),(by first|(simp only[go_sem];(try rfl);done)|rfl|simp)⟩ ?_
 rintro k st hk ⟨fr,en,cnt,rfl,h0,h1,h5,hI⟩
 simp only[go_sem,qW,h0,h5]
 refine aY (fun h=>?_) (fun h=>?_)
 ·have h':k<l.length:=of_decide_eq_true h;rw[aRm h']at hI;simp only[go_sem,qW,h',h1,h5]
  refine aY (fun hb=>?_) (fun hb=>?_)
  ·rw[uE,<-hI,aEt,hb];rfl
  ·refine⟨_,_,_,rfl,?_⟩
   simp only[go_sem,h0,h1,aT h' hl];rw[<-hI,aEt,hb];simp
 ·have:k=l.length:=by simp at h;omega
  subst this
  try simp only[go_sem,qW,h0,h1,h5]
  rw[uE,<-hI];simp
theorem aMa (l:List ByteArray)(hl:Few l.length):PC L 136 [.fz (l.map .str)] (.bool (mD [] l)):=by
 have hL:=at_ Tryz.func136
 conv at hL=>rhs;reduce
 refine aG hL rfl rfl ?_
 simp only[go_sem,qW]
 refine bQ (l.length) (fun k st=> ∃fr en cnt,st=⟨fr,en,cnt⟩/\ (fr 0= .fz (l.map .str))/\ (fr 3= .i k)/\ (mD (l.take k) (l.drop k)=mD [] l)) 0 (bO8 _) ⟨_,_,_,rfl,(by first|(simp only[go_sem];(try rfl);done)|rfl|simp),(by first|(simp only[go_sem];(try rfl);done)|rfl|simp),(by first|(simp only[go_sem];(try rfl);done)|rfl|simp)⟩ ?_
 rintro k st hk ⟨fr,en,cnt,rfl,h0,h3,hI⟩
 simp only[go_sem,qW,h0,h3]
 refine aY (fun h=>?_) (fun h=>?_)
 ·have h':k<l.length:=of_decide_eq_true h;rw[bPy h',mD,<-kW h']at hI;simp only[go_sem,qW,h',h0,h3,uB,hk,<-bQs,(aUv _ _ (aJ7 hl k)).ret]
  refine aY (fun hb=>?_) (fun hb=>?_)
  ·rw[<-hI,hb];rfl
  ·refine⟨_,_,_,rfl,?_⟩
   simp only[go_sem,h0,aT h' hl];rw[<-hI,hb];simp
 ·have:k=l.length:=by simp at h;omega
  subst this
  try simp only[go_sem,qW,h0,h3]
  rw[<-hI];simp[mD]
theorem aKg {s:ByteArray}{en:En}(h:1<=s.size):jV true 1 en (.str s) (some (.i 1)) none none=some {v:= .str (s.extract 1 s.size)}:=by
 have:iS (some (.i 1)) 0 s.size=some 1:=by
  simp only[iS];rw[if_pos ⟨by omega,by omega⟩];rfl
 simp[jV,uA,this]
variable {n:Nat}
theorem aKh {l:List UInt8}(hn:l.length=n)(h:0<l.length):aJ8 l=(decide ((n:Int)<=8)&&decide ((65:Int)<=(l[0].toNat:Int))&&decide ((l[0].toNat:Int)<=90)&&oB (l.drop 1)):=by
 cases l with
 |nil=>simp at h
 |cons b l=>
  have e:decide ((b::l).length<=8)=decide ((n:Int)<=8):=by rw[decide_eq_decide,hn];omega
  simp only[aJ8,e,List.getElem_cons_zero,List.drop_succ_cons,bQ6]
theorem aPc (s:ByteArray)(hs:Few s.size):PC L 135 [.str s] (.bool (aJ8 (nB s))):=by
 have hL:=at_ Tryz.func135
 conv at hL=>rhs;reduce
 refine aG hL rfl rfl ?_
 simp only[go_sem,qW]
 refine bG (fun h=>?_) (fun h=>?_)
 ·have h':1<=s.size:=by simp at h;omega
  have h0:0<(nB s).length:=by rw[qB];omega
  have hix:=fun(k:IntKind)=>aO9 (k:=k) h0
  simp only[Int.natCast_zero]at hix;rw[aKh (qB s) h0];simp only[go_sem,h]
  refine bG (fun h1=>?_) (fun h1=>?_)<;>simp only[go_sem,h1,hix]
  refine bG (fun h2=>?_) (fun h2=>?_)<;>simp only[go_sem,h2]
  refine bG (fun h3=>?_) (fun h3=>?_)<;>simp only[go_sem,h3,aKg h',(aPb _ (show Few (s.extract 1 s.size).size by unfold Few at*;simp;omega)).ret,aNc]
  all_goals simp only[bSi,bSj,bPd]at*
  all_goals simp[*]
 ·have:s.size=0:=by simp at h;omega
  have e:nB s=[]:=by rw[<-bSc,qB,this]
  simp only[go_sem,h];rw[e];rfl
theorem aR4 (op n a:Int)(hn:0<=n/\ n<=1000):PC L 139 [.i op,.i n,.i a] (.i (fC op n a)):=by
 have e:IntKind.i64.wrap (1+n)=1+n:=aW (by omega)
 have hL:=at_ Tryz.func139
 conv at hL=>rhs;reduce
 refine aG hL rfl rfl ?_
 simp only[go_sem,kK]
 repeat' ((first|with_reducible refine aH (fun h=>?_) (fun h=>?_)|with_reducible refine aL (fun h=>?_) (fun h=>?_))<;>(try simp only[bSi,bSj]at h)<;>try simp only[go_sem,kK,h,e])
 all_goals simp[fC, *]
theorem zK : ∀q:Pat,q.few-> ∀left:Int,-1<=left->left<=1000->PC L 137 [.agg [.i q.form,.i q.n,.str q.text,.fz (q.parts.map Pat.enc)],.i left] (.i (qD q left)):=by
 refine Pat.ind fun q ih hq left h1 h2=>?_
 obtain⟨hl,_,hps⟩:=Pat.few_parts hq;have hL:=at_ Tryz.func137
 conv at hL=>rhs;reduce
 refine aG hL rfl rfl ?_
 simp only[go_sem,qW]
 refine aY (fun h=>?_) (fun h=>?_)<;>simp only[bSi,bSj]at h
 ·simp[aKc,h]
 ·have e:IntKind.i64.wrap (left-1)=left-1:=aW (by omega)
  rw[aKc,if_neg h]
  try simp only[go_sem,e]
  refine bQ q.parts.length (fun k st=> ∃fr en cnt a,st=⟨fr,en,cnt⟩/\ fr 1= .i a/\ fr 5= .i k/\ fr 2= .ptr ⟨0,2,0⟩ 0/\ en ⟨0,2,0⟩=some (.box [.i q.form,.i q.n,.str q.text,.fz (q.parts.map Pat.enc)] false)/\ -1<=a/\ a<=1000/\ jO (q.parts.drop k) a=jO q.parts (left-1)) 0 (bO8 _) ⟨_,_,_,left-1,rfl,by simp only[go_sem],by simp only[go_sem],by simp only[go_sem],by simp only[go_sem],by omega,by omega,rfl⟩ ?_
  rintro k st hk ⟨fr,en,cnt,a,rfl,h1,h5,h2,e2,ha,hb,hI⟩
  simp only[go_sem,qW,h1,h5,h2,e2]
  refine bG (fun hc=>?_) (fun hc=>?_)
  ·have h':k<q.parts.length:=of_decide_eq_true hc;rw[bPy h',jO]at hI;have hm:q.parts[k]∈q.parts:=bO6 _;simp only[go_sem,h',h1]
   refine aY (fun hd=>?_) (fun hd=>?_)<;>simp only[bSi,bSj]at hd
   ·rw[if_pos hd]at hI;have hw:=aKd q.parts[k] a ha;simp only[go_sem,h5,(ih _ hm (hps _ hm) a ha hb).ret]
    refine⟨_,_,_,qD q.parts[k] a,rfl,?_⟩
    simp only[go_sem,h2,e2,aT h' hl];exact⟨hw.1,by omega,hI⟩
   ·rw[if_neg hd]at hI
    try simp only[go_sem,qW,h',h1,h5,h2,e2]
    rw[hI]
  ·have:k=q.parts.length:=by simp at hc;omega
   subst this
   try simp only[go_sem,hc,h1]
   rw[<-hI];simp[jO]
theorem aH9 : ∀q:Pat,q.few->PC L 146 [.agg [.i q.form,.i q.n,.str q.text,.fz (q.parts.map Pat.enc)]] (.bool (kL q)):=by
 refine Pat.ind fun q ih hq=>?_
 obtain⟨hl,_,hps⟩:=Pat.few_parts hq;have hL:=at_ Tryz.func146
 conv at hL=>rhs;reduce
 refine aG hL rfl rfl ?_
 simp only[go_sem,qW]
 refine bQ (q.parts.length) (fun k st=> ∃fr en cnt,st=⟨fr,en,cnt⟩/\ (fr 1= .ptr ⟨0,1,0⟩ 0)/\ (en ⟨0,1,0⟩=some (.box [.i q.form,.i q.n,.str q.text,.fz (q.parts.map Pat.enc)] false))/\ (fr 3= .i k)/\ ((q.parts.drop k).all kL=q.parts.all kL)) 0 (bO8 _) ⟨_,_,_,rfl,(by first|(simp only[go_sem];(try rfl);done)|rfl|simp),(by first|(simp only[go_sem];(try rfl);done)|rfl|simp),(by first|(simp only[go_sem];(try rfl);done)|rfl|simp),(by first|(simp only[go_sem];(try rfl);done)|rfl|simp)⟩ ?_
 rintro k st hk ⟨fr,en,cnt,rfl,h1,e1,h3,hI⟩
 simp only[go_sem,qW,h1,e1,h3]
 refine aY (fun h=>?_) (fun h=>?_)
 ·have h':k<q.parts.length:=of_decide_eq_true h;have hm:q.parts[k]∈q.parts:=bO6 _;rw[fQ h']at hI;simp only[go_sem,qW,h',h3,(ih _ hm (hps _ hm)).ret]
  refine aY (fun hb=>?_) (fun hb=>?_)
  ·simp at hb
   rw[aCo,<-hI,hb];rfl
  ·simp at hb
   refine⟨_,_,_,rfl,?_⟩
   simp only[go_sem,h1,e1,aT h' hl];rw[<-hI,hb];simp
 ·have:k=q.parts.length:=by simp at h;omega
  subst this;have ht:q.parts.all kL=true:=by rw[<-hI];simp
  try simp only[go_sem,qW,h1,e1,h3]
  rw[aCo,ht];rfl
theorem aIa (q:Pat)(hq:q.few):PC L 109 [.agg [.i q.form,.i q.n,.str q.text,.fz (q.parts.map Pat.enc)]] (.bool (aAr q)):=by
 have hL:=at_ Tryz.func109
 conv at hL=>rhs;reduce
 refine aG hL rfl rfl ?_
 simp only[go_sem,qW,(zK q hq 16 (by omega) (by omega)).ret]
 refine bG (fun h=>?_) (fun h=>?_)<;>simp only[go_sem,h,(aH9 q hq).ret]<;>simp at h<;>simp[aAr,h]
 intros;omega
theorem aUw (cons:List cO)(hc:Few cons.length): ∀q:Pat,q.few->PC L 138 [.agg [.i q.form,.i q.n,.str q.text,.fz (q.parts.map Pat.enc)],.fz (cons.map cO.enc)] (.bool (rM cons q)):=by
 refine Pat.ind fun q ih hq=>?_
 obtain⟨hl,_,hps⟩:=Pat.few_parts hq;have hL:=at_ Tryz.func138
 conv at hL=>rhs;reduce
 refine aG hL rfl rfl ?_
 have e:=dX hc;simp only[go_sem,aC9,Go.Abs.start]
 refine aBz (fun st=>(st.fr 1= .fz (cons.map cO.enc))/\ (st.fr 2= .ptr ⟨0,2,0⟩ 0)/\ (st.en ⟨0,2,0⟩=some (.box [.i q.form,.i q.n,.str q.text,.fz (q.parts.map Pat.enc)] false))/\ (st.fr 6= .i q.parts.length)/\ (st.fr 5= .bool (xE cons q.form q.n q.parts.length))) ?_ ?_
 ·simp only[go_sem,kK]
  repeat' ((first|with_reducible refine aH (fun h=>?_) (fun h=>?_)|with_reducible refine aL (fun h=>?_) (fun h=>?_))<;>(try simp only[bSi,bSj,bPd]at h)<;>try simp only[go_sem,kK, *,(rA _ _ _).ret,aGh])
  all_goals try simp[xE, *]
  all_goals (intro h0;exact absurd (by simp[h0]) h)
 ·rintro fr en cnt ⟨(h1:fr 1= .fz (cons.map cO.enc)),(h2:fr 2= .ptr ⟨0,2,0⟩ 0),(e2:en ⟨0,2,0⟩=some (.box [.i q.form,.i q.n,.str q.text,.fz (q.parts.map Pat.enc)] false)),(h6:fr 6= .i q.parts.length),(h5:fr 5= .bool (xE cons q.form q.n q.parts.length))⟩
  refine aBz (fun st=>(st.fr 1= .fz (cons.map cO.enc))/\ (st.fr 2= .ptr ⟨0,2,0⟩ 0)/\ (st.en ⟨0,2,0⟩=some (.box [.i q.form,.i q.n,.str q.text,.fz (q.parts.map Pat.enc)] false))/\ (st.fr 6= .i q.parts.length)/\ (st.fr 5= .bool (sO cons q.form q.n q.text q.parts.length))) ?_ ?_
  ·simp only[go_sem,kK,h5]
   repeat' ((first|with_reducible refine aH (fun h=>?_) (fun h=>?_)|with_reducible refine aL (fun h=>?_) (fun h=>?_))<;>(try simp only[bPd]at h)<;>try simp only[go_sem,kK, *])
   all_goals simp[sO,aGi, *]
  ·rintro fr en cnt ⟨(h1:fr 1= .fz (cons.map cO.enc)),(h2:fr 2= .ptr ⟨0,2,0⟩ 0),(e2:en ⟨0,2,0⟩=some (.box [.i q.form,.i q.n,.str q.text,.fz (q.parts.map Pat.enc)] false)),(h6:fr 6= .i q.parts.length),(h5:fr 5= .bool (sO cons q.form q.n q.text q.parts.length))⟩
   rw[aKb];generalize sO cons q.form q.n q.text q.parts.length=b0 at h5;simp only[go_sem,kK]
   refine bQ q.parts.length (fun k st=> ∃fr en cnt b,st=⟨fr,en,cnt⟩/\ fr 1= .fz (cons.map cO.enc)/\ fr 7= .i k/\ fr 6= .i q.parts.length/\ fr 2= .ptr ⟨0,2,0⟩ 0/\ en ⟨0,2,0⟩=some (.box [.i q.form,.i q.n,.str q.text,.fz (q.parts.map Pat.enc)] false)/\ fr 5= .bool b/\ (b&&(q.parts.drop k).all (rM cons))=(b0&&q.parts.all (rM cons))) 0 (bO8 _) ⟨_,_,_,b0,rfl,by simp only[go_sem,h1],by simp only[go_sem],by simp only[go_sem,h6],by simp only[go_sem,h2],by simp only[go_sem,e2],by simp only[go_sem,h5],rfl⟩ ?_
   rintro k st hk ⟨fr,en,cnt,b,rfl,h1,h7,h6,h2,e2,h5,hI⟩
   simp only[go_sem,kK,h7,h6]
   refine aL (fun hd=>?_) (fun hd=>?_)
   ·have h':k<q.parts.length:=of_decide_eq_true hd;have hm:q.parts[k]∈q.parts:=bO6 _;rw[fQ h']at hI;simp only[go_sem,kK,h',h5]
    refine aH (fun hb=>?_) (fun hb=>?_)
    ·simp only[go_sem,h',h1,h7,h2,e2,(ih _ hm (hps _ hm)).ret]
     refine⟨_,_,_,rM cons q.parts[k],rfl,?_⟩
     simp only[go_sem,h1,h6,h2,e2,aT h' hl];rw[<-hI,hb];simp
    ·simp only[go_sem,h5];rw[<-hI,hb];simp
   ·have:k=q.parts.length:=by simp at hd;omega
    subst this;simp only[go_sem,kK,hd,h5];rw[<-hI];simp
theorem aR5 (l:List cO)(hl:l.length<=1000)(hs: ∀c∈l,Few c.name.size):PC L 98 [.fz (l.map cO.enc)] (.bool (yK l)):=by
 have hf:Few l.length:=by unfold Few;omega
 have hL:=at_ Tryz.func98
 conv at hL=>rhs;reduce
 refine aG hL rfl rfl ?_
 simp only[go_sem,kK]
 refine bQ l.length (fun k st=> ∃fr en cnt,st=⟨fr,en,cnt⟩/\ fr 0= .fz (l.map cO.enc)/\ fr 4= .i k/\ jK en (fr 3) 1 ((l.take k).map fun c=> .str c.name) [34]/\ (l.drop k).all vQ=l.all vQ) 0 (bO8 _) ⟨_,_,_,rfl,by simp only[go_sem],by simp only[go_sem],by simp only[go_sem];exact jK.nil _ _,rfl⟩ ?_
 rintro k st hk ⟨fr,en,cnt,rfl,h0,h4,h3,hI⟩
 simp only[go_sem,kK,h0,h4]
 refine aH (fun h=>?_) (fun h=>?_)
 ·have h':k<l.length:=of_decide_eq_true h;have hm:l[k]∈l:=bO6 _;rw[fQ h']at hI;simp only[go_sem,kK,h',h0,h4,(aPc _ (hs _ hm)).ret]
  refine aL (fun hb=>?_) (fun hb=>?_)
  ·simp only[go_sem,kK,hb,h',h0,h4,(rA _ _ _).ret]
   refine aH (fun hc=>?_) (fun hc=>?_)
   ·simp only[go_sem,kK]
    simp at hc
    simp[yK,<-hI,vQ,hc]
   ·simp only[go_sem,h',h0,h4]
    simp at hb hc
    have hk2:vQ l[k]=true:=by simp[vQ,hb,hc]
    have hx:jK en (St.get (fun i=>fr i) (.t 3)) 1 ((l.take k).map fun c=>Val.str c.name) [34]:=h3
    refine aAm (D:=[34]) (xs:=(l.take k).map fun c=>Val.str c.name) (ys:=[.str l[k].name]) (rs:=[]) ?_ ?_ ?_ ?_ ?_
    ·simp only[go_sem];exact h3
    ·simp only[go_sem]
    ·rfl
    ·simp;omega
    ·intro v en' cnt' hown hen hcnt;simp only[go_sem,h4]
     refine⟨_,_,_,rfl,?_⟩
     simp only[go_sem,h0,aT h' hf]
     refine⟨?_,?_⟩
     ·exact jK.sub (by rw[kW h',bQg];exact hown) (by simp)
     ·rw[<-hI,hk2];simp
  ·simp only[go_sem,kK,hb,bPh]
   simp at hb
   simp[yK,<-hI,vQ,hb]
 ·have:k=l.length:=by simp at h;omega
  subst this;have ha:l.all vQ=true:=by rw[<-hI];simp
  simp only[go_sem,kK,h0]
  refine aL (fun hb=>?_) (fun hb=>?_)
  ·rw[bQp]at h3;have hmap:(l.map fun c=>Val.str c.name)=(l.map cO.name).map .str:=by simp
   simp only[go_sem,kK,hb];obtain⟨r,ks,e1,_,e2,_⟩:=h3.snap 7;have hd:=aMa (l.map cO.name) (by simpa using hf)
   rw[<-hmap]at hd;simp only[go_sem,e1,e2,hd.ret]
   simp at hb
   simp[yK,ha,hb]
  ·simp only[go_sem,kK,hb]
   simp at hb
   simp[yK];intros;omega
theorem aGj (p:aF)(hp:p.few):PC L 48 [.agg p.cs] (.bool (aS p)):=by
 have hL:=at_ Tryz.func48
 conv at hL=>rhs;reduce
 refine aG hL rfl rfl ?_
 simp only[go_sem,kK]
 repeat' ((first|with_reducible refine aH (fun h=>?_) (fun h=>?_)|with_reducible refine aL (fun h=>?_) (fun h=>?_))<;>(try simp only[bSi,bSj,bPh]at h)<;>try simp only[go_sem,kK, *])
 all_goals (try simp only[Int.not_lt]at*)
 all_goals try(simp[aS, *];done)
 all_goals try(simp[aS, *];intros;omega)
 rename_i g1 g2
 refine bQ (p.cons.length) (fun k st=> ∃fr en cnt,st=⟨fr,en,cnt⟩/\ (fr 1= .ptr ⟨0,1,0⟩ 0)/\ (en ⟨0,1,0⟩=some (.box p.cells false))/\ (fr 3= .i k)/\ ((p.cons.drop k).all (fun c=>decide ((c.name.size:Int)<=40))=p.cons.all fun c=>decide ((c.name.size:Int)<=40))) 0 (bO8 _) ⟨_,_,_,rfl,(by first|(simp only[go_sem];(try rfl);done)|rfl|simp),(by first|(simp only[go_sem];(try rfl);done)|rfl|simp),(by first|(simp only[go_sem];(try rfl);done)|rfl|simp),(by first|(simp only[go_sem];(try rfl);done)|rfl|simp)⟩ ?_
 rintro k st hk ⟨fr,en,cnt,rfl,h1,e1,h3,hI⟩
 simp only[go_sem,kK,h1,e1,h3]
 refine aH (fun hq=>?_) (fun hq=>?_)
 ·have h':k<p.cons.length:=of_decide_eq_true hq;rw[fQ h']at hI;simp only[go_sem,kK,h',h1,e1,h3]
  refine aH (fun hb=>?_) (fun hb=>?_)
  ·simp only[go_sem,kK]
   simp at hb
   have:p.cons.all (fun c=>decide ((c.name.size:Int)<=40))=false:=by rw[<-hI];simp;intros;omega
   simp only[aS,this];simp
  ·simp only[go_sem,h3]
   simp at hb
   refine⟨_,_,_,rfl,?_⟩
   simp only[go_sem,h1,e1,aT h' hp.cons];rw[<-hI];simp;intros;omega
 ·have:k=p.cons.length:=by simp at hq;omega
  subst this;have hcon:p.cons.all (fun c=>decide ((c.name.size:Int)<=40))=true:=by rw[<-hI];simp
  clear hI hq;simp only[go_sem]
  refine bQ (p.nodes.length) (fun k st=> ∃fr en cnt,st=⟨fr,en,cnt⟩/\ (fr 1= .ptr ⟨0,1,0⟩ 0)/\ (en ⟨0,1,0⟩=some (.box p.cells false))/\ (fr 4= .i k)/\ ((p.nodes.drop k).all fU=p.nodes.all fU)) 0 (bO8 _) ⟨_,_,_,rfl,(by first|(simp only[go_sem,h1];(try rfl);done)|rfl|simp),(by first|(simp only[go_sem,e1];(try rfl);done)|rfl|simp),(by first|(simp only[go_sem];(try rfl);done)|rfl|simp),(by first|(simp only[go_sem];(try rfl);done)|rfl|simp)⟩ ?_
  rintro k st hk ⟨fr,en,cnt,rfl,h1,e1,h4,hI⟩
  simp only[go_sem,kK,h1,e1,h4]
  refine aH (fun hq=>?_) (fun hq=>?_)
  ·have h':k<p.nodes.length:=of_decide_eq_true hq;have hx:=hp.node p.nodes[k] (bO6 _);rw[fQ h']at hI;have fin:fU p.nodes[k]=false->Val.bool false=Val.bool (aS p):=by
    intro h;simp[aS,<-hI,h]
   simp only[go_sem,kK,h',h1,e1,h4]
   refine aL (fun hb=>?_) (fun hb=>?_)
   ·simp only[go_sem,kK,hb]
    simp at hb
    refine aH (fun hc=>?_) (fun hc=>?_)
    ·simp only[go_sem,kK]
     simp at hc
     exact fin (by simp[fU];intros;omega)
    ·simp only[go_sem]
     simp at hc
     generalize cnt 0 5=g5
     refine bQ (p.nodes[k].pats.length) (fun j st=> ∃fr en cnt,st=⟨fr,en,cnt⟩/\ (fr 1= .ptr ⟨0,1,0⟩ 0)/\ (en ⟨0,1,0⟩=some (.box p.cells false))/\ (fr 5= .ptr ⟨0,5,g5⟩ 0)/\ (en ⟨0,5,g5⟩=some (.box [.i p.nodes[k].op,.i p.nodes[k].n,.is p.nodes[k].kids,.fz (p.nodes[k].pats.map Pat.enc)] false))/\ (fr 4= .i k)/\ (fr 6= .i j)/\ ((p.nodes[k].pats.drop j).all aAr=p.nodes[k].pats.all aAr)) 0 (bO8 _) ⟨_,_,_,rfl,(by first|(simp only[go_sem,h1];(try rfl);done)|rfl|simp),(by first|(simp only[go_sem,e1];(try rfl);done)|rfl|simp),(by first|(simp only[go_sem];(try rfl);done)|rfl|simp),(by first|(simp only[go_sem];(try rfl);done)|rfl|simp),(by first|(simp only[go_sem,h4];(try rfl);done)|rfl|simp),(by first|(simp only[go_sem];(try rfl);done)|rfl|simp),(by first|(simp only[go_sem];(try rfl);done)|rfl|simp)⟩ ?_
     rintro j st hk ⟨fr,en,cnt,rfl,h1,e1,h5,e5,h4,h6,hJ⟩
     simp only[go_sem,kK,h5,e5,h6]
     refine aH (fun h2=>?_) (fun h2=>?_)
     ·have h2':j<p.nodes[k].pats.length:=of_decide_eq_true h2;rw[fQ h2']at hJ;simp only[go_sem,kK,h2',h5,e5,h6,(aIa _ (hx.pat _ (bO6 _))).ret]
      refine aH (fun hd=>?_) (fun hd=>?_)
      ·simp only[go_sem,kK]
       simp at hd
       exact fin (by simp[fU,<-hJ,hd])
      ·simp only[go_sem,h6]
       simp at hd
       refine⟨_,_,_,rfl,?_⟩
       simp only[go_sem,h1,e1,h5,e5,h4,aT h2' hx.pats];rw[<-hJ,hd];simp
     ·have:j=p.nodes[k].pats.length:=by simp at h2;omega
      subst this;have hfr:fU p.nodes[k]=true:=by
       simp only[fU,<-hJ];simp;exact⟨by omega,by omega⟩
      simp only[go_sem,h4]
      refine⟨_,_,_,rfl,?_⟩
      simp only[go_sem,h1,e1,aT h' hp.nodes];rw[<-hI,hfr];simp
   ·simp only[go_sem,kK,hb,bPh]
    simp at hb
    exact fin (by simp[fU];intros;omega)
  ·have:k=p.nodes.length:=by simp at hq;omega
   subst this;have hn:p.nodes.all fU=true:=by rw[<-hI];simp
   simp only[go_sem];simp only[aS,hcon,hn];simp[g1,g2,h]
theorem aR6 (p:aF)(n:aJ)(hp:p.few)(hn:n.few):PC L 99 [.agg p.cs,.agg [.i n.op,.i n.n,.fz (n.kids.map (.int .i64)),.fz (n.pats.map Pat.enc)]] (.bool (eL p n)):=by
 have e1:IntKind.i64.wrap (0-(p.funs.length:Int))= -(p.funs.length:Int):=by have:=hp.funs;unfold Few at this;rw[aW (by omega)];omega
 have e2:=dX hp.cons;have hL:=at_ Tryz.func99
 conv at hL=>rhs;reduce
 refine aG hL rfl rfl ?_
 simp only[go_sem,aC9,Go.Abs.start]
 refine aBz (fun st=>(st.fr 2= .ptr ⟨0,2,0⟩ 0)/\ (st.en ⟨0,2,0⟩=some (.box p.cells false))/\ (st.fr 3= .ptr ⟨0,3,0⟩ 0)/\ (st.en ⟨0,3,0⟩=some (.box [.i n.op,.i n.n,.is n.kids,.fz (n.pats.map Pat.enc)] false))/\ (st.fr 6= .bool (nW p n))/\ (st.fr 5= .i (oY p n))) ?_ ?_
 ·simp only[go_sem,kK]
  repeat' ((first|with_reducible refine aH (fun h=>?_) (fun h=>?_)|with_reducible refine aL (fun h=>?_) (fun h=>?_))<;>(try simp only[bSi,bSj]at h)<;>try simp only[go_sem,kK, *,(rA _ _ _).ret,aGh])
  all_goals simp[nW,oY, *]
 ·rintro fr en cnt ⟨(h2:fr 2= .ptr ⟨0,2,0⟩ 0),(e2:en ⟨0,2,0⟩=some (.box p.cells false)),(h3:fr 3= .ptr ⟨0,3,0⟩ 0),(e3:en ⟨0,3,0⟩=some (.box [.i n.op,.i n.n,.is n.kids,.fz (n.pats.map Pat.enc)] false)),(h6:fr 6= .bool (nW p n)),(h5:fr 5= .i (oY p n))⟩
  refine aBz (fun st=>(st.fr 2= .ptr ⟨0,2,0⟩ 0)/\ (st.en ⟨0,2,0⟩=some (.box p.cells false))/\ (st.fr 3= .ptr ⟨0,3,0⟩ 0)/\ (st.en ⟨0,3,0⟩=some (.box [.i n.op,.i n.n,.is n.kids,.fz (n.pats.map Pat.enc)] false))/\ (st.fr 6= .bool (nW p n&&lQ n))/\ (st.fr 5= .i (oY p n))) ?_ ?_
  ·simp only[go_sem,kK,h3,e3]
   repeat' ((first|with_reducible refine aH (fun h=>?_) (fun h=>?_)|with_reducible refine aL (fun h=>?_) (fun h=>?_))<;>(try simp only[bSi,bSj,bPd]at h)<;>try simp only[go_sem,kK, *,(rA _ _ _).ret])
   all_goals simp[lQ, *]
  ·rintro fr en cnt ⟨(h2:fr 2= .ptr ⟨0,2,0⟩ 0),(e2:en ⟨0,2,0⟩=some (.box p.cells false)),(h3:fr 3= .ptr ⟨0,3,0⟩ 0),(e3:en ⟨0,3,0⟩=some (.box [.i n.op,.i n.n,.is n.kids,.fz (n.pats.map Pat.enc)] false)),(h6:fr 6= .bool (nW p n&&lQ n)),(h5:fr 5= .i (oY p n))⟩
   have hb0:(nW p n&&lQ n)=true->0<=(n.pats.length:Int)/\ (n.pats.length:Int)<=1000:=by
    intro h;simp only[bOx]at h;have:=h.2;unfold lQ at this;split at this
    ·simp[inR]at this;omega
    ·simp at this;simp[this]
   have hres:eL p n=(((nW p n&&lQ n)&&n.pats.all (mQ p.cons))&&decide ((n.kids.length:Int)=fC n.op n.pats.length (oY p n))):=rfl;rw[hres];clear hres e1;generalize (nW p n&&lQ n)=b0 at h6 hb0
   refine aBz (fun st=>st.fr 2= .ptr ⟨0,2,0⟩ 0/\ st.en ⟨0,2,0⟩=some (.box p.cells false)/\ st.fr 3= .ptr ⟨0,3,0⟩ 0/\ st.en ⟨0,3,0⟩=some (.box [.i n.op,.i n.n,.is n.kids,.fz (n.pats.map Pat.enc)] false)/\ st.fr 6= .bool (b0&&n.pats.all (mQ p.cons))/\ st.fr 5= .i (oY p n)) ?_ ?_
   ·simp only[go_sem,kK]
    refine bQ n.pats.length (fun k st=> ∃fr en cnt b,st=⟨fr,en,cnt⟩/\ fr 2= .ptr ⟨0,2,0⟩ 0/\ en ⟨0,2,0⟩=some (.box p.cells false)/\ fr 3= .ptr ⟨0,3,0⟩ 0/\ en ⟨0,3,0⟩=some (.box [.i n.op,.i n.n,.is n.kids,.fz (n.pats.map Pat.enc)] false)/\ fr 5= .i (oY p n)/\ fr 7= .i k/\ fr 6= .bool b/\ (b&&(n.pats.drop k).all (mQ p.cons))=(b0&&n.pats.all (mQ p.cons))) 0 (bO8 _) ⟨_,_,_,b0,rfl,by simp only[go_sem,h2],by simp only[go_sem,e2],by simp only[go_sem,h3],by simp only[go_sem,e3],by simp only[go_sem,h5],by simp only[go_sem],by simp only[go_sem,h6],rfl⟩ ?_
    rintro k st hk ⟨fr,en,cnt,b,rfl,h2,e2,h3,e3,h5,h7,h6,hI⟩
    simp only[go_sem,kK,h3,e3,h7]
    refine aL (fun hd=>?_) (fun hd=>?_)
    ·have h':k<n.pats.length:=of_decide_eq_true hd;have hm:n.pats[k]∈n.pats:=bO6 _;rw[fQ h']at hI;simp only[go_sem,kK,hd,h6]
     refine aH (fun hb=>?_) (fun hb=>?_)
     ·rw[hb]at hI;simp only[go_sem,kK,h',h3,e3,h7,(zK _ (hn.pat _ hm) 12 (by omega) (by omega)).ret]
      refine aL (fun hw=>?_) (fun hw=>?_)
      ·simp only[go_sem,kK,hw,h',h2,e2,h3,e3,h7,(aUw _ hp.cons _ (hn.pat _ hm)).ret]
       refine⟨_,_,_,rM p.cons n.pats[k],rfl,?_⟩
       simp only[go_sem,h2,e2,h3,e3,h5,aT h' hn.pats];rw[<-hI];simp[mQ,of_decide_eq_true hw]
      ·simp only[go_sem,kK,hw,h7]
       refine⟨_,_,_,false,rfl,?_⟩
       simp only[go_sem,h2,e2,h3,e3,h5,aT h' hn.pats]
       simp at hw
       rw[<-hI];simp[mQ];intros;omega
     ·simp only[go_sem,h',h2,e2,h3,e3,h5,h6];rw[<-hI,hb];simp
    ·have:k=n.pats.length:=by simp at hd;omega
     subst this;simp only[go_sem,kK,hd,h2,e2,h3,e3,h5,h6];rw[<-hI];simp
   ·rintro fr en cnt ⟨(h2:fr 2=_),(e2:en _=_),(h3:fr 3=_),(e3:en _=_),(h6:fr 6=_),(h5:fr 5=_)⟩
    generalize hbb:(b0&&n.pats.all (mQ p.cons))=b at h6⊢;simp only[go_sem,kK]
    refine aAl ?_ ?_
    ·decide
    simp only[go_sem,kK,h6]
    refine aL (fun hd=>?_) (fun hd=>?_)
    ·have h0:b0=true:=by
      simp only[hd,bOx]at hbb;exact hbb.1
     simp only[go_sem,kK,hd,h3,e3,h5,(aR4 _ _ _ (hb0 h0)).ret]
    ·simp only[go_sem,kK,hd]
theorem aWb {u:List Bool}{x:Int}(hu:u.length=n)(h:inR x 0 ((n:Int)-1)=true):0<=x/\ x<(n:Int)/\ (u.map Val.bool)[x.toNat]?=some (.bool (u.getD x.toNat false)):=by
 simp only[inR,bSi]at h;have hx:x.toNat<u.length:=by omega
 exact⟨by omega,by omega,by simp[bO2,hx]⟩
theorem aMb (p:aF)(hp:p.few)(hs:p.cons.length<=1000):PC L 38 [.agg p.cs] (.bool (fG p)):=by
 have w1:=dX hp.nodes;have w2:=dX hp.funs;have hL:=at_ Tryz.func38
 conv at hL=>rhs;reduce
 refine aG hL rfl rfl ?_
 simp only[go_sem,kK]
 repeat' ((first|with_reducible refine aH (fun h=>?_) (fun h=>?_)|with_reducible refine aL (fun h=>?_) (fun h=>?_))<;>(try simp only[bSi,bSj,bPh]at h)<;>try simp only[go_sem,kK, *,(rA _ _ _).ret,(aR5 _ hs hp.con).ret])
 all_goals (try simp only[bQb,Bool.not_eq_false',Int.not_lt]at*)
 all_goals try(simp[fG, *];done)
 all_goals try(simp[fG, *];intros;omega)
 rename_i g1 g2 g3;have hn:p.nodes.length<=16777216:=by omega
 have hfo:fG p=yL ((aAs 0 (p.nodes.length-1) (List.replicate p.nodes.length false) p.funs).bind fun u=>kX p 0 u p.nodes):=by simp[fG,g1,g2,g3,h]
 rw[hfo];clear hfo;simp only[go_sem,bAi hn]
 refine bQ p.funs.length (fun k st=> ∃fr en cnt u,st=⟨fr,en,cnt⟩/\ (fr 1= .ptr ⟨0,1,0⟩ 0/\ en ⟨0,1,0⟩=some (.box p.cells false)/\ fr 3= .i p.nodes.length/\ fr 4= .bl ⟨0,40,0⟩ 0 p.nodes.length/\ en ⟨0,40,0⟩=some (.blk 1 (u.map Val.bool) false)/\ u.length=p.nodes.length)/\ fr 5= .i k/\ aAs 0 (p.nodes.length-1) u (p.funs.drop k)=aAs 0 (p.nodes.length-1) (List.replicate p.nodes.length false) p.funs) 0 (bO8 _) ⟨_,_,_,List.replicate p.nodes.length false,rfl,⟨by simp only[go_sem],by simp only[go_sem],by simp only[go_sem],by simp only[go_sem],by simp only[go_sem,List.map_replicate],by simp⟩,by simp only[go_sem],rfl⟩ ?_
 rintro k st hk ⟨fr,en,cnt,u,rfl,⟨h1,e1,h3,h4,eu,hu⟩,h5,hI⟩
 simp only[go_sem,kK,h1,e1,h5]
 refine aH (fun hq=>?_) (fun hq=>?_)
 ·have h':k<p.funs.length:=of_decide_eq_true hq;rw[bPy h',aAs]at hI;simp only[go_sem,kK,h',h1,e1,h3,h5,(rA _ _ _).ret,w1]
  refine aL (fun hb=>?_) (fun hb=>?_)
  ·simp at hb
   obtain⟨a1,a2,a3⟩:=aWb hu hb;rw[hb]at hI;simp only[go_sem,kK,hb,bPd,h',h1,e1,h4,eu,h5,a1,a2,a3]
   refine aH (fun hc=>?_) (fun hc=>?_)
   ·simp only[go_sem,kK];rw[hc]at hI
    simp at hI
    rw[<-hI];rfl
   ·simp only[go_sem,h',h1,e1,h4,eu,h5,a1,a2,a3];rw[hc]at hI
    simp at hI
    refine⟨_,_,_,u.set p.funs[k].toNat true,rfl,?_⟩
    simp only[go_sem,h1,e1,h3,h4,<-bQ8,aT h' hp.funs];exact⟨by simp[hu],hI⟩
  ·simp only[go_sem,kK,hb,bPh]
   simp at hb
   rw[hb]at hI
   simp at hI
   rw[<-hI];rfl
 ·have:k=p.funs.length:=by simp at hq;omega
  subst this;rw[bQt,aAs]at hI;rw[<-hI];simp only[bRq];clear hq hI hk;generalize hM:kX p 0 u p.nodes=M;simp only[go_sem]
  refine bQ p.nodes.length (fun k st=> ∃fr en cnt u,st=⟨fr,en,cnt⟩/\ (fr 1= .ptr ⟨0,1,0⟩ 0/\ en ⟨0,1,0⟩=some (.box p.cells false)/\ fr 3= .i p.nodes.length/\ fr 4= .bl ⟨0,40,0⟩ 0 p.nodes.length/\ en ⟨0,40,0⟩=some (.blk 1 (u.map Val.bool) false)/\ u.length=p.nodes.length)/\ fr 6= .i k/\ kX p k u (p.nodes.drop k)=M) 0 (bO8 _) ⟨_,_,_,u,rfl,⟨by simp only[go_sem,h1],by simp only[go_sem,e1],by simp only[go_sem,h3],by simp only[go_sem,h4],by simp only[go_sem,eu],hu⟩,by simp only[go_sem],hM⟩ ?_
  clear hM h1 e1 h3 h4 eu hu h5
  rintro k st hk ⟨fr,en,cnt,u,rfl,⟨h1,e1,h3,h4,eu,hu⟩,h6,hI⟩
  simp only[go_sem,kK,h3,h6]
  refine aH (fun hq=>?_) (fun hq=>?_)
  ·have h':k<p.nodes.length:=of_decide_eq_true hq;have hx:=hp.node p.nodes[k] (bO6 _);rw[bPy h',kX]at hI;simp only[go_sem,kK,h',h1,e1,h6,(aR6 p _ hp hx).ret]
   refine aH (fun hb=>?_) (fun hb=>?_)
   ·simp only[go_sem,kK]
    simp at hb
    rw[hb]at hI;rw[<-hI];rfl
   ·simp only[go_sem]
    simp at hb
    rw[hb]at hI;simp only[if_true]at hI;generalize hm:aAs ((k:Int)+1) (p.nodes.length-1) u p.nodes[k].kids=m at hI
    refine bQ p.nodes[k].kids.length (fun j st=> ∃fr en cnt u,st=⟨fr,en,cnt⟩/\ (fr 1= .ptr ⟨0,1,0⟩ 0/\ en ⟨0,1,0⟩=some (.box p.cells false)/\ fr 3= .i p.nodes.length/\ fr 4= .bl ⟨0,40,0⟩ 0 p.nodes.length/\ en ⟨0,40,0⟩=some (.blk 1 (u.map Val.bool) false)/\ u.length=p.nodes.length)/\ fr 6= .i k/\ fr 7= .i j/\ aAs ((k:Int)+1) (p.nodes.length-1) u (p.nodes[k].kids.drop j)=m) 0 (bO8 _) ⟨_,_,_,u,rfl,⟨by simp only[go_sem,h1],by simp only[go_sem,e1],by simp only[go_sem,h3],by simp only[go_sem,h4],by simp only[go_sem,eu],hu⟩,by simp only[go_sem,h6],by simp only[go_sem],hm⟩ ?_
    clear hm h1 e1 h3 h4 eu hu h6
    rintro j st hj ⟨fr,en,cnt,u,rfl,⟨h1,e1,h3,h4,eu,hu⟩,h6,h7,hJ⟩
    simp only[go_sem,kK,h',h1,e1,h6,h7]
    refine aH (fun h2=>?_) (fun h2=>?_)
    ·have h2':j<p.nodes[k].kids.length:=of_decide_eq_true h2;rw[bPy h2',aAs]at hJ;have w3:IntKind.i64.wrap ((k:Int)+1)=(k:Int)+1:=aW (by omega)
     simp only[go_sem,kK,h',h2',h1,e1,h3,h6,h7,(rA _ _ _).ret,w1,w3]
     refine aL (fun hc=>?_) (fun hc=>?_)
     ·simp at hc
      have hc0:inR p.nodes[k].kids[j] 0 ((p.nodes.length:Int)-1)=true:=by simp[inR]at hc⊢;omega
      obtain⟨a1,a2,a3⟩:=aWb hu hc0;rw[hc]at hJ;simp only[go_sem,kK,hc,bPd,h4,eu,a1,a2,a3]
      refine aH (fun hd=>?_) (fun hd=>?_)
      ·simp only[go_sem,kK];rw[hd]at hJ
       simp at hJ
       rw[<-hI,<-hJ];rfl
      ·simp only[go_sem,h4,eu,h7,a1,a2,a3];rw[hd]at hJ
       simp at hJ
       refine⟨_,_,_,u.set p.nodes[k].kids[j].toNat true,rfl,?_⟩
       simp only[go_sem,h1,e1,h3,h4,h6,<-bQ8,aT h2' hx.kids];exact⟨by simp[hu],hJ⟩
     ·simp only[go_sem,kK,hc,bPh]
      simp at hc
      rw[hc]at hJ
      simp at hJ
      rw[<-hI,<-hJ];rfl
    ·have:j=p.nodes[k].kids.length:=by simp at h2;omega
     subst this;rw[bQt,aAs]at hJ;rw[<-hJ]at hI;simp only[bRq]at hI;simp only[go_sem,h6]
     refine⟨_,_,_,u,rfl,?_⟩
     simp only[go_sem,h1,e1,h3,h4,eu,hu,aT h' hp.nodes];exact hI
  ·have:k=p.nodes.length:=by simp at hq;omega
   subst this;rw[bQt,kX]at hI;rw[<-hI];simp only[yL];simp only[go_sem]
   refine bQ p.nodes.length (fun k st=> ∃fr en cnt,st=⟨fr,en,cnt⟩/\ fr 3= .i p.nodes.length/\ fr 4= .bl ⟨0,40,0⟩ 0 p.nodes.length/\ en ⟨0,40,0⟩=some (.blk 1 (u.map Val.bool) false)/\ fr 9= .i k/\ (u.drop k).all id=u.all id) 0 (bO8 _) ⟨_,_,_,rfl,by simp only[go_sem,h3],by simp only[go_sem,h4],by simp only[go_sem,eu],by simp only[go_sem],rfl⟩ ?_
   clear h1 e1 h3 h4 eu h6 hI hq hk
   rintro k st hk ⟨fr,en,cnt,rfl,h3,h4,eu,h9,hI⟩
   simp only[go_sem,kK,h3,h9]
   refine aH (fun hq=>?_) (fun hq=>?_)
   ·have h':k<p.nodes.length:=of_decide_eq_true hq;have h'':k<u.length:=by omega
    rw[fQ h'']at hI;have a3:(u.map Val.bool)[k]?=some (.bool u[k]):=by simp[h'']
    simp only[go_sem,kK,h',h4,eu,h9,a3,bRg,bPz]
    refine aH (fun hb=>?_) (fun hb=>?_)
    ·simp only[go_sem,kK]
     simp at hb
     rw[<-hI,hb];rfl
    ·simp only[go_sem,h9]
     simp at hb
     refine⟨_,_,_,rfl,?_⟩
     simp only[go_sem,h3,h4,eu,aT h' hp.nodes];rw[<-hI,hb];simp
   ·have:k=p.nodes.length:=by simp at hq;omega
    subst this;simp only[go_sem];rw[<-hI,List.drop_eq_nil_of_le (by omega)];rfl
theorem aD.eq_iff {a b:aD}:(decide (a.kind=b.kind)&&decide (a.n=b.n))=decide (a=b):=by
 cases a;cases b;simp
theorem bR.eq_iff {a b:bR}:(decide (a.port=b.port)&&decide (a.n=b.n))=decide (a=b):=by
 cases a;cases b;simp
variable {x:List Val}
theorem aXs (h:jD Tryz.prog (n+2) 58 x): ∃a:aD,sD Tryz.prog 58 x=aD.enc a/\ True:=by
 have h1:=fS Tryz.underlying58 h;simp only[lP]at h1;obtain⟨a,b,rfl,_,ha,c,d,rfl,_,hc,rfl⟩:=h1;obtain⟨i,rfl⟩:=fR (k:= .i64) (by first|exact Tryz.underlying56|kernel_rfl) ha
 obtain⟨j,rfl⟩:=fR Tryz.underlying3 hc;exact⟨⟨i,j⟩,by simp[sD,cZ,Tryz.underlying58,aD.enc],trivial⟩
theorem xF (h:jD Tryz.prog (n+2) 23 x): ∃l:List Int,x=[.fz (l.map (.int .i64))]/\ Few l.length:=by
 obtain⟨l,h1,h2,_⟩:=kJ (Val.int .i64) (fun _=>True) Tryz.underlying23 (fun y hy=>by
  obtain⟨i,rfl⟩:=fR Tryz.underlying3 hy;exact⟨i,by simp[sD,cZ,Tryz.underlying3],trivial⟩) h
 exact⟨l,h1,h2⟩
theorem aGk (h:jD Tryz.prog (n+3) 111 x): ∃l:List aD,x=[.fz (l.map aD.enc)]/\ Few l.length:=by
 obtain⟨l,h1,h2,_⟩:=kJ aD.enc (fun _=>True) Tryz.underlying111 (fun y hy=>aXs hy) h
 exact⟨l,h1,h2⟩
theorem aR7 (h:jD Tryz.prog (n+4) 123 x): ∃a:aB,sD Tryz.prog 123 x=aB.enc a/\ a.few:=by
 have h1:=fS Tryz.underlying123 h;simp only[lP]at h1;obtain⟨a,b,rfl,_,ha,c,d,rfl,_,hc,e,f,rfl,_,he,rfl⟩:=h1;obtain⟨i,rfl⟩:=fR Tryz.underlying3 ha;obtain⟨l,rfl,hl⟩:=aGk hc;obtain⟨m,rfl,hm⟩:=aGk he;exact⟨⟨i,l,m⟩,by simp[sD,cZ,Tryz.underlying123,aB.enc],hl,hm⟩
theorem aR8 (h:jD Tryz.prog (n+5) 112 x): ∃l:List aB,x=[.fz (l.map aB.enc)]/\ Few l.length/\ ∀f∈l,f.few:=
 kJ aB.enc aB.few Tryz.underlying112 (fun y hy=>aR7 hy) h
theorem aXt (h:jD Tryz.prog (n+6) 114 x): ∃a:aR,sD Tryz.prog 114 x=aR.enc a/\ a.few:=by
 have h1:=fS Tryz.underlying114 h;simp only[lP]at h1;obtain⟨a,b,rfl,_,ha,c,d,rfl,_,hc,e,f,rfl,_,he,g,k,rfl,_,hg,rfl⟩:=h1;obtain⟨i,rfl⟩:=fR (k:= .i64) (by first|exact Tryz.underlying110|kernel_rfl) ha
 obtain⟨j,rfl⟩:=fR Tryz.underlying3 hc;obtain⟨l,rfl,hl⟩:=aGk he;obtain⟨m,rfl,hm,hm2⟩:=aR8 hg;exact⟨⟨i,j,l,m⟩,by simp[sD,cZ,Tryz.underlying114,aR.enc],hl,hm,hm2⟩
theorem aXu (h:jD Tryz.prog (n+2) 145 x): ∃a:bR,sD Tryz.prog 145 x=bR.enc a/\ True:=by
 have h1:=fS Tryz.underlying145 h;simp only[lP]at h1;obtain⟨a,b,rfl,_,ha,c,d,rfl,_,hc,rfl⟩:=h1;obtain⟨i,rfl⟩:=fR Tryz.underlying3 ha;obtain⟨j,rfl⟩:=fR Tryz.underlying3 hc;exact⟨⟨i,j⟩,by simp[sD,cZ,Tryz.underlying145,bR.enc],trivial⟩
theorem aR9 (h:jD Tryz.prog (n+8) 39 x): ∃w:aA,x=[.fz (w.objs.map aR.enc),.fz (w.tasks.map (.int .i64)),.fz (w.outs.map bR.enc),.fz (w.ins.map (.int .i64)),.i w.used]/\ w.few:=by
 have h1:=fS Tryz.underlying39 h;simp only[lP]at h1;obtain⟨a,b,rfl,_,ha,c,d,rfl,_,hc,e,f,rfl,_,he,g,k,rfl,_,hg,r,q,rfl,_,hr,rfl⟩:=h1;obtain⟨l1,rfl,f1,f1'⟩:=kJ aR.enc aR.few Tryz.underlying36 (fun y hy=>aXt hy) ha
 obtain⟨l2,rfl,f2⟩:=xF hc;obtain⟨l3,rfl,f3,_⟩:=kJ bR.enc (fun _=>True) Tryz.underlying37 (fun y hy=>aXu hy) he
 obtain⟨l4,rfl,f4⟩:=xF hg;obtain⟨i,rfl⟩:=fR Tryz.underlying3 hr;exact⟨⟨l1,l2,l3,l4,i⟩,rfl,⟨f1,f2,f3,f4,f1'⟩⟩
theorem aSa : ∀(n:Nat) {x:List Val},jD Tryz.prog n 155 x-> ∃q:Pat,sD Tryz.prog 155 x=Pat.enc q/\ q.few
 |0,x,h=>by simp[jD]at h
 |1,x,h=>by
  have h1:=fS Tryz.underlying155 h;simp only[lP]at h1;obtain⟨a,b,rfl,_,ha,_⟩:=h1;simp[jD]at ha
 |n+2,x,h=>by
  have h1:=fS Tryz.underlying155 h;simp only[lP]at h1;obtain⟨a,b,rfl,_,ha,c,d,rfl,_,hc,e,f,rfl,_,he,g,k,rfl,_,hg,rfl⟩:=h1;obtain⟨i,rfl⟩:=fR (k:= .i64) (by first|exact Tryz.underlying153|kernel_rfl) ha
  obtain⟨j,rfl⟩:=fR Tryz.underlying3 hc;obtain⟨t,rfl,ht⟩:=aRq (by first|exact Tryz.underlying9|kernel_rfl) he
  obtain⟨l,rfl,hl,hq⟩:=kJ Pat.enc Pat.few Tryz.underlying139 (fun y hy=>aSa n hy) hg
  exact⟨.mk i j t l,by simp[sD,cZ,Tryz.underlying155,Pat.enc,Pat.encL_map],.mk i j t l hl ht hq⟩
theorem aUx (h:jD Tryz.prog (n+4) 141 x): ∃a:aJ,sD Tryz.prog 141 x=aJ.enc a/\ a.few:=by
 have h1:=fS Tryz.underlying141 h;simp only[lP]at h1;obtain⟨a,b,rfl,_,ha,c,d,rfl,_,hc,e,f,rfl,_,he,g,k,rfl,_,hg,rfl⟩:=h1;obtain⟨i,rfl⟩:=fR (k:= .i64) (by first|exact Tryz.underlying55|kernel_rfl) ha
 obtain⟨j,rfl⟩:=fR Tryz.underlying3 hc;obtain⟨l,rfl,hl⟩:=xF he;obtain⟨m,rfl,hm,hm2⟩:=kJ Pat.enc Pat.few Tryz.underlying139 (fun y hy=>aSa _ hy) hg
 exact⟨⟨i,j,l,m⟩,by simp[sD,cZ,Tryz.underlying141,aJ.enc,aRl],⟨hl,hm,hm2⟩⟩
theorem aXv (h:jD Tryz.prog (n+2) 151 x): ∃a:cO,sD Tryz.prog 151 x=cO.enc a/\ Few a.name.size:=by
 have h1:=fS Tryz.underlying151 h;simp only[lP]at h1;obtain⟨a,b,rfl,_,ha,c,d,rfl,_,hc,rfl⟩:=h1;obtain⟨t,rfl,ht⟩:=aRq (by first|exact Tryz.underlying9|kernel_rfl) ha
 obtain⟨j,rfl⟩:=fR Tryz.underlying3 hc;exact⟨⟨t,j⟩,by simp[sD,cZ,Tryz.underlying151,cO.enc],ht⟩
theorem aKi (h:jD Tryz.prog (n+6) 26 x): ∃p:aF,x=[.fz (p.nodes.map aJ.enc),.fz (p.funs.map (.int .i64)),.i p.main,.fz (p.cons.map cO.enc)]/\ p.few:=by
 have h1:=fS Tryz.underlying26 h;simp only[lP]at h1;obtain⟨a,b,rfl,_,ha,c,d,rfl,_,hc,e,f,rfl,_,he,g,k,rfl,_,hg,rfl⟩:=h1;obtain⟨l1,rfl,f1,f1'⟩:=kJ aJ.enc aJ.few Tryz.underlying22 (fun y hy=>aUx hy) ha
 obtain⟨l2,rfl,f2⟩:=xF hc;obtain⟨i,rfl⟩:=fR Tryz.underlying3 he;obtain⟨l3,rfl,f3,f3'⟩:=kJ cO.enc (fun c=>Few c.name.size) Tryz.underlying24 (fun y hy=>aXv hy) hg
 exact⟨⟨l1,l2,i,l3⟩,rfl,⟨f1,f2,f3,f1',f3'⟩⟩
def bAz (v:aD):Bool:=decide (v.kind=5)
def yN (l:List aD):List Int:=(l.filter bAz).map aD.n
def aGl (f:aB):List Int:=yN f.env++yN f.vals
def yO (o:aR):List Int:=yN o.vals++o.frames.flatMap aGl
def T4 :List Nat:=[2,3,5,6]
def aEv (c0:Nat->Nat)(en en':En):Prop:= ∀n t g,(n≠0 \/t∉T4 \/g<c0 t)->en' ⟨n,t,g⟩=en ⟨n,t,g⟩
def bGx (c0:Nat->Nat)(en en':En):Prop:= ∀t g,t∈T4->c0 t<=g->en' ⟨0,t,g⟩=en ⟨0,t,g⟩
structure bNd (k:Key) (c0:Nat->Nat) (I:List Int->En->(Nat->Nat->Nat)->Prop) (F:En->(Nat->Nat->Nat)->Prop):Prop where
 stable: ∀r en cnt en' cnt',I r en cnt->aEv c0 en en'->(∀n t,t∉T4->cnt' n t=cnt n t)->(∀t∈T4,c0 t<=cnt' 0 t)->I r en' cnt'
 round: ∀x jE en cnt,I (x::jE) en cnt->WIn L (.yld k) [.i x] en cnt fun v en' cnt'=>bGx c0 en en'/\ (∀t∈T4,cnt' 0 t=cnt 0 t)/\ ((v= .bool true/\ I jE en' cnt') \/(v= .bool false/\ F en' cnt'))
variable {c0:Nat->Nat}
section
variable {k :Key}{I:List Int->En->(Nat->Nat->Nat)->Prop}{G:En->(Nat->Nat->Nat)->Prop}{a b:Nat}
end
theorem aEv.trans {x y z:En}(h:aEv c0 x y)(h':aEv c0 y z):aEv c0 x z:=fun n t g k=>(h' n t g k).trans (h n t g k)
theorem bA0 (l:List cO)(h:Val)(p:cO->Bool)(hl:Few l.length)(hc:dV L (fun x:cO=> .agg [.str x.name,.i x.args]) h p l):
  PC L 348 [.fz (l.map cO.enc),h] (.i (idxOf p l 0)):=by
 have hL:=at_ Tryz.func348
 conv at hL=>rhs;reduce
 refine aG hL rfl rfl ?_
 simp only[go_sem,kK]
 refine bQ (l.length) (fun k st=> ∃fr en cnt,st=⟨fr,en,cnt⟩/\ (fr 0= .fz (l.map cO.enc))/\ (fr 1=h)/\ (fr 7= .i l.length)/\ (fr 8= .i k)/\ (idxOf p (l.drop k) k=idxOf p l 0)) 0 (bO8 _) ⟨_,_,_,rfl,(by first|(simp only[go_sem];(try rfl);done)|rfl|simp),(by first|(simp only[go_sem];(try rfl);done)|rfl|simp),(by first|(simp only[go_sem];(try rfl);done)|rfl|simp),(by first|(simp only[go_sem];(try rfl);done)|rfl|simp),(by first|(simp only[go_sem];(try rfl);done)|rfl|simp)⟩ ?_
 rintro k st hk ⟨fr,en,cnt,rfl,h0,h1,h7,h8,hI⟩
 simp only[go_sem,kK,h7,h8]
 refine aH (fun hq=>?_) (fun hq=>?_)
 ·have h':k<l.length:=of_decide_eq_true hq;rw[bPy h',idxOf]at hI;simp only[go_sem,h',h0,h1,h8]
  refine hc.call l[k] (bO6 _) _ _ ?_
  simp only[go_sem,kK]
  refine aH (fun hb=>?_) (fun hb=>?_)
  ·simp only[go_sem,kK];rw[hb,if_pos rfl]at hI;rw[<-hI]
  ·simp only[go_sem,h8];rw[hb]at hI
   simp at hI
   refine⟨_,_,_,rfl,?_⟩
   simp only[go_sem,h0,h1,h7,aT h' hl];exact hI
 ·have:k=l.length:=by simp at hq;omega
  subst this;simp only[go_sem];rw[<-hI];simp[idxOf]
theorem aXw (l:List cO)(h:Val)(p:cO->Bool)(hl:Few l.length)(hc:dV L (fun x:cO=> .agg [.str x.name,.i x.args]) h p l):
  PC L 300 [.fz (l.map cO.enc),h] (.bool (l.any p)):=by
 have hL:=at_ Tryz.func300
 conv at hL=>rhs;reduce
 refine aG hL rfl rfl ?_
 simp only[go_sem,kK,hc.snap,hc.wk,(bA0 l h p hl hc).ret];rw[<-nP p l 0]
theorem sE (l:List cO)(h:Val)(p:cO->Bool)(hc:dV L (fun x:cO=> .agg [.str x.name,.i x.args]) h p l)(x:cO)(hx:x∈l):
  PC L 301 [.agg [.str x.name,.i x.args],.fp [h] 0] (.bool (!p x)):=by
 have hL:=at_ Tryz.func301
 conv at hL=>rhs;reduce
 refine aG hL rfl rfl ?_
 simp only[go_sem,kK]
 refine hc.call x hx _ _ ?_
 simp only[go_sem]
theorem vC (l:List cO)(h:Val)(p:cO->Bool)(hl:Few l.length)(hc:dV L (fun x:cO=> .agg [.str x.name,.i x.args]) h p l):
  PC L 243 [.fz (l.map cO.enc),h] (.bool (l.all p)):=by
 have hd:dV L (fun x:cO=> .agg [.str x.name,.i x.args]) (.fn 301 [] [.fp [h] 0]) (fun x=>!p x) l:=by
  refine⟨fun n en hn=>?_,rfl,rfl,rfl,fun x hx en K hK=>?_⟩
  ·obtain⟨m,rfl⟩: ∃m,n=m+4:=⟨n-4,by omega⟩
   simp only[go_sem]
  ·simp only[go_sem,(sE l h p hc x hx).ret];exact hK
 have hL:=at_ Tryz.func243
 conv at hL=>rhs;reduce
 refine aG hL rfl rfl ?_
 simp only[go_sem,kK,lM hc.one hc.cells,hc.snap,(aXw l _ _ hl hd).ret];rw[<-bRh,bRi]
theorem aXx (l:List aJ)(h:Val)(p:aJ->Bool)(hl:Few l.length)(hc:dV L (fun x:aJ=> .agg [.i x.op,.i x.n,.fz (x.kids.map (.int .i64)),.fz (x.pats.map Pat.enc)]) h p l):
  PC L 350 [.fz (l.map aJ.enc),h] (.i (idxOf p l 0)):=by
 have hL:=at_ Tryz.func350
 conv at hL=>rhs;reduce
 refine aG hL rfl rfl ?_
 simp only[go_sem,kK]
 refine bQ (l.length) (fun k st=> ∃fr en cnt,st=⟨fr,en,cnt⟩/\ (fr 0= .fz (l.map aJ.enc))/\ (fr 1=h)/\ (fr 7= .i l.length)/\ (fr 8= .i k)/\ (idxOf p (l.drop k) k=idxOf p l 0)) 0 (bO8 _) ⟨_,_,_,rfl,(by first|(simp only[go_sem];(try rfl);done)|rfl|simp),(by first|(simp only[go_sem];(try rfl);done)|rfl|simp),(by first|(simp only[go_sem];(try rfl);done)|rfl|simp),(by first|(simp only[go_sem];(try rfl);done)|rfl|simp),(by first|(simp only[go_sem];(try rfl);done)|rfl|simp)⟩ ?_
 rintro k st hk ⟨fr,en,cnt,rfl,h0,h1,h7,h8,hI⟩
 simp only[go_sem,kK,h7,h8]
 refine aH (fun hq=>?_) (fun hq=>?_)
 ·have h':k<l.length:=of_decide_eq_true hq;rw[bPy h',idxOf]at hI;simp only[go_sem,h',h0,h1,h8]
  refine hc.call l[k] (bO6 _) _ _ ?_
  simp only[go_sem,kK]
  refine aH (fun hb=>?_) (fun hb=>?_)
  ·simp only[go_sem,kK];rw[hb,if_pos rfl]at hI;rw[<-hI]
  ·simp only[go_sem,h8];rw[hb]at hI
   simp at hI
   refine⟨_,_,_,rfl,?_⟩
   simp only[go_sem,h0,h1,h7,aT h' hl];exact hI
 ·have:k=l.length:=by simp at hq;omega
  subst this;simp only[go_sem];rw[<-hI];simp[idxOf]
theorem aUy (l:List aJ)(h:Val)(p:aJ->Bool)(hl:Few l.length)(hc:dV L (fun x:aJ=> .agg [.i x.op,.i x.n,.fz (x.kids.map (.int .i64)),.fz (x.pats.map Pat.enc)]) h p l):
  PC L 303 [.fz (l.map aJ.enc),h] (.bool (l.any p)):=by
 have hL:=at_ Tryz.func303
 conv at hL=>rhs;reduce
 refine aG hL rfl rfl ?_
 simp only[go_sem,kK,hc.snap,hc.wk,(aXx l h p hl hc).ret];rw[<-nP p l 0]
theorem rO (l:List aJ)(h:Val)(p:aJ->Bool)(hc:dV L (fun x:aJ=> .agg [.i x.op,.i x.n,.fz (x.kids.map (.int .i64)),.fz (x.pats.map Pat.enc)]) h p l)(x:aJ)(hx:x∈l):
  PC L 304 [.agg [.i x.op,.i x.n,.fz (x.kids.map (.int .i64)),.fz (x.pats.map Pat.enc)],.fp [h] 0] (.bool (!p x)):=by
 have hL:=at_ Tryz.func304
 conv at hL=>rhs;reduce
 refine aG hL rfl rfl ?_
 simp only[go_sem,kK]
 refine hc.call x hx _ _ ?_
 simp only[go_sem]
theorem uG (l:List aJ)(h:Val)(p:aJ->Bool)(hl:Few l.length)(hc:dV L (fun x:aJ=> .agg [.i x.op,.i x.n,.fz (x.kids.map (.int .i64)),.fz (x.pats.map Pat.enc)]) h p l):
  PC L 248 [.fz (l.map aJ.enc),h] (.bool (l.all p)):=by
 have hd:dV L (fun x:aJ=> .agg [.i x.op,.i x.n,.fz (x.kids.map (.int .i64)),.fz (x.pats.map Pat.enc)]) (.fn 304 [] [.fp [h] 0]) (fun x=>!p x) l:=by
  refine⟨fun n en hn=>?_,rfl,rfl,rfl,fun x hx en K hK=>?_⟩
  ·obtain⟨m,rfl⟩: ∃m,n=m+4:=⟨n-4,by omega⟩
   simp only[go_sem]
  ·simp only[go_sem,(rO l h p hc x hx).ret];exact hK
 have hL:=at_ Tryz.func248
 conv at hL=>rhs;reduce
 refine aG hL rfl rfl ?_
 simp only[go_sem,kK,lM hc.one hc.cells,hc.snap,(aUy l _ _ hl hd).ret];rw[<-bRh,bRi]
theorem bDg (l:List Pat)(h:Val)(p:Pat->Bool)(hl:Few l.length)(hc:dV L (fun x:Pat=> .agg [.i x.form,.i x.n,.str x.text,.fz (x.parts.map Pat.enc)]) h p l):
  PC L 362 [.fz (l.map Pat.enc),h] (.i (idxOf p l 0)):=by
 have hL:=at_ Tryz.func362
 conv at hL=>rhs;reduce
 refine aG hL rfl rfl ?_
 simp only[go_sem,kK]
 refine bQ (l.length) (fun k st=> ∃fr en cnt,st=⟨fr,en,cnt⟩/\ (fr 0= .fz (l.map Pat.enc))/\ (fr 1=h)/\ (fr 7= .i l.length)/\ (fr 8= .i k)/\ (idxOf p (l.drop k) k=idxOf p l 0)) 0 (bO8 _) ⟨_,_,_,rfl,(by first|(simp only[go_sem];(try rfl);done)|rfl|simp),(by first|(simp only[go_sem];(try rfl);done)|rfl|simp),(by first|(simp only[go_sem];(try rfl);done)|rfl|simp),(by first|(simp only[go_sem];(try rfl);done)|rfl|simp),(by first|(simp only[go_sem];(try rfl);done)|rfl|simp)⟩ ?_
 rintro k st hk ⟨fr,en,cnt,rfl,h0,h1,h7,h8,hI⟩
 simp only[go_sem,kK,h7,h8]
 refine aH (fun hq=>?_) (fun hq=>?_)
 ·have h':k<l.length:=of_decide_eq_true hq;rw[bPy h',idxOf]at hI;simp only[go_sem,h',h0,h1,h8]
  refine hc.call l[k] (bO6 _) _ _ ?_
  simp only[go_sem,kK]
  refine aH (fun hb=>?_) (fun hb=>?_)
  ·simp only[go_sem,kK];rw[hb,if_pos rfl]at hI;rw[<-hI]
  ·simp only[go_sem,h8];rw[hb]at hI
   simp at hI
   refine⟨_,_,_,rfl,?_⟩
   simp only[go_sem,h0,h1,h7,aT h' hl];exact hI
 ·have:k=l.length:=by simp at hq;omega
  subst this;simp only[go_sem];rw[<-hI];simp[idxOf]
theorem bA1 (l:List Pat)(h:Val)(p:Pat->Bool)(hl:Few l.length)(hc:dV L (fun x:Pat=> .agg [.i x.form,.i x.n,.str x.text,.fz (x.parts.map Pat.enc)]) h p l):
  PC L 352 [.fz (l.map Pat.enc),h] (.bool (l.any p)):=by
 have hL:=at_ Tryz.func352
 conv at hL=>rhs;reduce
 refine aG hL rfl rfl ?_
 simp only[go_sem,kK,hc.snap,hc.wk,(bDg l h p hl hc).ret];rw[<-nP p l 0]
theorem sF (l:List Pat)(h:Val)(p:Pat->Bool)(hc:dV L (fun x:Pat=> .agg [.i x.form,.i x.n,.str x.text,.fz (x.parts.map Pat.enc)]) h p l)(x:Pat)(hx:x∈l):
  PC L 353 [.agg [.i x.form,.i x.n,.str x.text,.fz (x.parts.map Pat.enc)],.fp [h] 0] (.bool (!p x)):=by
 have hL:=at_ Tryz.func353
 conv at hL=>rhs;reduce
 refine aG hL rfl rfl ?_
 simp only[go_sem,kK]
 refine hc.call x hx _ _ ?_
 simp only[go_sem]
theorem nX (l:List Pat)(h:Val)(p:Pat->Bool)(hl:Few l.length)(hc:dV L (fun x:Pat=> .agg [.i x.form,.i x.n,.str x.text,.fz (x.parts.map Pat.enc)]) h p l):
  PC L 310 [.fz (l.map Pat.enc),h] (.bool (l.all p)):=by
 have hd:dV L (fun x:Pat=> .agg [.i x.form,.i x.n,.str x.text,.fz (x.parts.map Pat.enc)]) (.fn 353 [] [.fp [h] 0]) (fun x=>!p x) l:=by
  refine⟨fun n en hn=>?_,rfl,rfl,rfl,fun x hx en K hK=>?_⟩
  ·obtain⟨m,rfl⟩: ∃m,n=m+4:=⟨n-4,by omega⟩
   simp only[go_sem]
  ·simp only[go_sem,(sF l h p hc x hx).ret];exact hK
 have hL:=at_ Tryz.func310
 conv at hL=>rhs;reduce
 refine aG hL rfl rfl ?_
 simp only[go_sem,kK,lM hc.one hc.cells,hc.snap,(bA1 l _ _ hl hd).ret];rw[<-bRh,bRi]
theorem bDh (l:List Int)(h:Val)(p:Int->Bool)(hl:Few l.length)(hc:dV L (fun x:Int=> .i x) h p l):
  PC L 354 [.fz (l.map (.int .i64)),h] (.i (idxOf p l 0)):=by
 have hL:=at_ Tryz.func354
 conv at hL=>rhs;reduce
 refine aG hL rfl rfl ?_
 simp only[go_sem,kK]
 refine bQ (l.length) (fun k st=> ∃fr en cnt,st=⟨fr,en,cnt⟩/\ (fr 0= .fz (l.map (.int .i64)))/\ (fr 1=h)/\ (fr 7= .i l.length)/\ (fr 8= .i k)/\ (idxOf p (l.drop k) k=idxOf p l 0)) 0 (bO8 _) ⟨_,_,_,rfl,(by first|(simp only[go_sem];(try rfl);done)|rfl|simp),(by first|(simp only[go_sem];(try rfl);done)|rfl|simp),(by first|(simp only[go_sem];(try rfl);done)|rfl|simp),(by first|(simp only[go_sem];(try rfl);done)|rfl|simp),(by first|(simp only[go_sem];(try rfl);done)|rfl|simp)⟩ ?_
 rintro k st hk ⟨fr,en,cnt,rfl,h0,h1,h7,h8,hI⟩
 simp only[go_sem,kK,h7,h8]
 refine aH (fun hq=>?_) (fun hq=>?_)
 ·have h':k<l.length:=of_decide_eq_true hq;rw[bPy h',idxOf]at hI;simp only[go_sem,h',h0,h1,h8]
  refine hc.call l[k] (bO6 _) _ _ ?_
  simp only[go_sem,kK]
  refine aH (fun hb=>?_) (fun hb=>?_)
  ·simp only[go_sem,kK];rw[hb,if_pos rfl]at hI;rw[<-hI]
  ·simp only[go_sem,h8];rw[hb]at hI
   simp at hI
   refine⟨_,_,_,rfl,?_⟩
   simp only[go_sem,h0,h1,h7,aT h' hl];exact hI
 ·have:k=l.length:=by simp at hq;omega
  subst this;simp only[go_sem];rw[<-hI];simp[idxOf]
theorem aSb (l:List Int)(h:Val)(p:Int->Bool)(hl:Few l.length)(hc:dV L (fun x:Int=> .i x) h p l):
  PC L 311 [.fz (l.map (.int .i64)),h] (.bool (l.any p)):=by
 have hL:=at_ Tryz.func311
 conv at hL=>rhs;reduce
 refine aG hL rfl rfl ?_
 simp only[go_sem,kK,hc.snap,hc.wk,(bDh l h p hl hc).ret];rw[<-nP p l 0]
theorem aAt (l:List Int)(h:Val)(p:Int->Bool)(hc:dV L (fun x:Int=> .i x) h p l)(x:Int)(hx:x∈l):
  PC L 312 [.i x,.fp [h] 0] (.bool (!p x)):=by
 have hL:=at_ Tryz.func312
 conv at hL=>rhs;reduce
 refine aG hL rfl rfl ?_
 simp only[go_sem,kK]
 refine hc.call x hx _ _ ?_
 simp only[go_sem]
theorem aEw (l:List Int)(h:Val)(p:Int->Bool)(hl:Few l.length)(hc:dV L (fun x:Int=> .i x) h p l):
  PC L 250 [.fz (l.map (.int .i64)),h] (.bool (l.all p)):=by
 have hd:dV L (fun x:Int=> .i x) (.fn 312 [] [.fp [h] 0]) (fun x=>!p x) l:=by
  refine⟨fun n en hn=>?_,rfl,rfl,rfl,fun x hx en K hK=>?_⟩
  ·obtain⟨m,rfl⟩: ∃m,n=m+4:=⟨n-4,by omega⟩
   simp only[go_sem]
  ·simp only[go_sem,(aAt l h p hc x hx).ret];exact hK
 have hL:=at_ Tryz.func250
 conv at hL=>rhs;reduce
 refine aG hL rfl rfl ?_
 simp only[go_sem,kK,lM hc.one hc.cells,hc.snap,(aSb l _ _ hl hd).ret];rw[<-bRh,bRi]
theorem lS (n lo hi:Int):PC L 242 [.i n,.i lo,.i hi] (.bool (inR n lo hi)):=by
 have hL:=at_ Tryz.func242
 conv at hL=>rhs;reduce
 refine aG hL rfl rfl ?_
 simp only[go_sem,qW]
 refine bG (fun h=>?_) (fun h=>?_)<;>simp only[go_sem,h]<;>simp at h<;>simp[h,inR]
 omega
theorem zL (n:Int):PC L 351 [.i n] (.bool (inR n (-1000000000) 1000000000)):=by
 have hL:=at_ Tryz.func351
 conv at hL=>rhs;reduce
 refine aG hL rfl rfl ?_
 simp only[go_sem,kK,(lS _ _ _).ret]
theorem aMc (s:ByteArray):PC L 349 [.str s] (.bool (oB (nB s))):=by
 have hL:=at_ Tryz.func349
 conv at hL=>rhs;reduce
 refine aG hL rfl rfl ?_
 simp only[go_sem,kK]
 refine bQ s.size (fun k st=> ∃fr en cnt,st=⟨fr,en,cnt⟩/\ fr 6= .it ⟨0,6,0⟩/\ en ⟨0,6,0⟩=some (.iter s k)/\ ((nB s).drop k).all kQ=(nB s).all kQ) 0 (bO8 _) ⟨_,_,_,rfl,by simp only[go_sem],by simp only[go_sem],rfl⟩ ?_
 rintro k st hk ⟨fr,en,cnt,rfl,h6,e6,hI⟩
 have hsz:=qB s
 by_cases h':k<s.size
 ·have h'':k<(nB s).length:=by omega
  obtain⟨d1,d2⟩:=aPa h'';rw[fQ h'']at hI;simp only[go_sem,kK,h6,e6,h'];cases hb:kQ (nB s)[k]with
  |true=>
   have hd:=d1 hb;have hb2:=hb;simp only[kQ,bOx,bSi]at hb2;have c1:decide ((((nB s)[k].toNat:Nat):Int)<97)=false:=by simp;omega
   have c2:decide ((122:Int)<(((nB s)[k].toNat:Nat):Int))=false:=by simp;omega
   simp only[go_sem,kK,hd,c1,c2]
   refine⟨_,_,_,rfl,?_⟩
   simp only[go_sem,h6];rw[<-hI,hb];simp
  |false=>
   have hd:=d2 hb;rw[hb]at hI;generalize (Utf8.decode s k).1=r at hd⊢
   refine aL (fun hc=>?_) (fun hc=>?_)
   ·simp at hc
    have c1:decide ((r:Int)<97)=false:=by simp;omega
    have c2:decide ((122:Int)<(r:Int))=true:=by simp;omega
    simp only[go_sem,kK,c1,c2];rw[oB,<-hI];rfl
   ·simp only[go_sem,kK,hc,bPh];rw[oB,<-hI];rfl
 ·have:k=s.size:=by omega
  subst this;simp only[go_sem,kK,h6,e6,Nat.lt_irrefl];rw[oB,<-hI,List.drop_eq_nil_of_le (by omega)];rfl
theorem aXy (s:ByteArray):(s.toList==(⟨#[]⟩:ByteArray).toList)=decide (s.size=0):=by
 rw[Go.ByteArray.toList_eq,Go.ByteArray.toList_eq];have:s.size=s.data.toList.length:=by rw[bQ4];rfl
 rw[this];cases s.data.toList<;>rfl
theorem aMd (s:ByteArray):PC L 302 [.str s] (.bool (aJ8 (nB s))):=by
 have hL:=at_ Tryz.func302
 conv at hL=>rhs;reduce
 refine aG hL rfl rfl ?_
 simp only[go_sem,kK,aXy]
 refine aL (fun h=>?_) (fun h=>?_)
 ·have h':1<=s.size:=by
   have: ¬s.size=0:=by intro h0;rw[h0]at h;simp at h
   omega
  have h0:0<(nB s).length:=by rw[qB];omega
  have hix:=fun(k:IntKind)=>aO9 (k:=k) h0
  simp only[Int.natCast_zero]at hix;rw[aKh (qB s) h0];simp only[go_sem,kK,h]
  refine aL (fun h1=>?_) (fun h1=>?_)<;>simp only[go_sem,kK,h1,hix]
  refine aL (fun h2=>?_) (fun h2=>?_)<;>simp only[go_sem,kK,h2,hix]
  refine aL (fun h3=>?_) (fun h3=>?_)<;>simp only[go_sem,kK,h3,aKg h',(aMc _).ret,aNc]
  all_goals simp only[bSi,bSj,bPd]at*
  all_goals simp[*]
 ·have:s.size=0:=by
   by_cases h0:s.size=0
   ·exact h0
   ·simp only[h0,decide_false]at h;simp at h
  have e:nB s=[]:=by rw[<-bSc,qB,this]
  simp only[go_sem,kK,h,bPd];rw[e];rfl
theorem aSc (c:cO):PC L 244 [.agg [.str c.name,.i c.args]] (.bool (vQ c)):=by
 have hL:=at_ Tryz.func244
 conv at hL=>rhs;reduce
 refine aG hL rfl rfl ?_
 simp only[go_sem,kK,(aMd _).ret]
 refine aL (fun h=>?_) (fun h=>?_)<;>simp only[go_sem,kK,h,(lS _ _ _).ret]<;>simp[vQ,h]
theorem vD (c:cO):PC L 247 [.agg [.str c.name,.i c.args]] (.str c.name):=by
 have hL:=at_ Tryz.func247
 conv at hL=>rhs;reduce
 refine aG hL rfl rfl ?_
 simp only[go_sem,kK]
theorem vE (n:Int):PC L 251 [.i n] (.bool (decide (n=1))):=by
 have hL:=at_ Tryz.func251
 conv at hL=>rhs;reduce
 refine aG hL rfl rfl ?_
 simp only[go_sem,kK]
theorem aPd : ∀q:Pat,q.few-> ∀most:Int,0<=most->most<=1000->PC L 307 [.agg [.i q.form,.i q.n,.str q.text,.fz (q.parts.map Pat.enc)],.i most] (.i (sK q most)):=by
 refine Pat.ind fun q ih hq most h1 h2=>?_
 obtain⟨hl,_,hps⟩:=Pat.few_parts hq;rw[bAx];have hL:=at_ Tryz.func307
 conv at hL=>rhs;reduce
 refine aG hL rfl rfl ?_
 simp only[go_sem,kK]
 refine bQ q.parts.length (fun k st=> ∃fr en cnt a,st=⟨fr,en,cnt⟩/\ fr 1= .i most/\ fr 5= .i a/\ fr 9= .fz (q.parts.map Pat.enc)/\ fr 10= .i q.parts.length/\ fr 11= .i k/\ 1<=a/\ a<=most+1/\ lR (q.parts.drop k) most a=lR q.parts most 1) 0 (bO8 _) ⟨_,_,_,1,rfl,by simp only[go_sem],by simp only[go_sem],by simp only[go_sem],by simp only[go_sem],by simp only[go_sem],by omega,by omega,rfl⟩ ?_
 rintro k st hk ⟨fr,en,cnt,a,rfl,h1',h5,h9,h10,h11,ha,hb,hI⟩
 simp only[go_sem,kK,h10,h11]
 refine aH (fun hc=>?_) (fun hc=>?_)
 ·have h':k<q.parts.length:=of_decide_eq_true hc;rw[bPy h',lR]at hI;have hm:q.parts[k]∈q.parts:=bO6 _;simp only[go_sem,kK,h',h1',h5,h9,h11]
  refine aH (fun hd=>?_) (fun hd=>?_)<;>simp only[bSi,bSj]at hd
  ·simp only[go_sem,h5];rw[if_pos hd]at hI;rw[hI]
  ·rw[if_neg hd]at hI;have e1:IntKind.i64.wrap (most-a)=most-a:=aW (by omega)
   have hz:=aKf q.parts[k] (most-a) (by omega)
   have e2:IntKind.i64.wrap (a+sK q.parts[k] (most-a))=a+sK q.parts[k] (most-a):=aW (by omega)
   simp only[go_sem,h1',h5,h11,e1,e2,(ih _ hm (hps _ hm) (most-a) (by omega) (by omega)).ret]
   refine⟨_,_,_,a+sK q.parts[k] (most-a),rfl,?_⟩
   simp only[go_sem,h1',h9,h10,aT h' hl];exact⟨by omega,by omega,hI⟩
 ·have:k=q.parts.length:=by simp at hc;omega
  subst this;simp only[go_sem,h5];rw[<-hI];simp[lR]
theorem aCe (p:aF)(hc:Few p.cons.length): ∀q:Pat,q.few->PC L 308 [.agg p.cs,.agg [.i q.form,.i q.n,.str q.text,.fz (q.parts.map Pat.enc)]] (.bool (rM p.cons q)):=by
 refine Pat.ind fun q ih hq=>?_
 obtain⟨hl,_,hps⟩:=Pat.few_parts hq;have e:=dX hc;have ask:dV L (fun x:Pat=> .agg [.i x.form,.i x.n,.str x.text,.fz (x.parts.map Pat.enc)]) (.fn 308 [.agg p.cs] []) (rM p.cons) q.parts:=by
  refine⟨fun n en hn=>?_,rfl,rfl,rfl,fun x hx en K hK=>?_⟩
  ·obtain⟨m,rfl⟩: ∃m,n=m+4:=⟨n-4,by omega⟩
   simp only[go_sem]
  ·simp only[go_sem,(ih x hx (hps x hx)).ret];exact hK
 rw[aKb];have hL:=at_ Tryz.func308
 conv at hL=>rhs;reduce
 refine aG hL rfl rfl ?_
 simp only[go_sem,kK]
 refine aL (fun h=>?_) (fun h=>?_)
 ·simp only[go_sem,kK,h,(nX q.parts _ _ hl ask).ret];have ht:aGi q.text=true:=by simp only[aGi];simpa using h
  refine aH (fun h2=>?_) (fun h2=>?_)
  ·simp only[go_sem,kK]
   simp at h2
   simp[h2]
  ·have h3:q.parts.all (rM p.cons)=true:=by simpa using h2
   rw[h3];simp only[go_sem,kK]
   repeat' ((first|with_reducible refine aH (fun h=>?_) (fun h=>?_)|with_reducible refine aL (fun h=>?_) (fun h=>?_))<;>(try simp only[bSi,bSj,bPd]at h)<;>try simp only[go_sem,kK, *,(lS _ _ _).ret,(zL _).ret,aGh])
   all_goals try simp[sO,xE, *]
   all_goals try(intros;simp_all;done)
 ·simp only[go_sem,kK,h,bPh];have ht:aGi q.text=false:=by simp only[aGi];simpa using h
  simp[sO,ht]
end Go.Proofs.YtmnchlhngpdffaaGreat
namespace Go.Abs
def uH (lo hi:Int):List Int->List Int->Option (List Int)
 |u,[]=>some u
 |u,x::l=>if inR x lo hi then uH lo hi (u.set x.toNat (IntKind.i64.wrap (u.getD x.toNat 0+1))) l else none
def kM (p:aF):Nat->List Int->List aJ->Option (List Int)
 |_,u,[]=>some u
 |i,u,n::l=>(uH ((i:Int)+1) (p.nodes.length-1) u n.kids).bind fun u=>kM p (i+1) u l
def aAu :Option (List Int)->Bool
 |some u=>u.all fun c=>decide (c=1)
 |none=>false
def yP (p:aF):Bool:=
 decide ((p.nodes.length:Int)<=300)&&decide ((1:Int)<=p.funs.length)&&decide ((p.funs.length:Int)<=p.nodes.length)&&decide ((p.cons.length:Int)<=20)&&inR p.main 0 (p.funs.length-1)&&
  p.cons.all vQ&&mD [] (p.cons.map cO.name)&&p.nodes.all (eL p)&&
  aAu ((uH 0 (p.nodes.length-1) (List.replicate p.nodes.length 0) p.funs).bind fun u=>kM p 0 u p.nodes)
def rP (hi:Int):List Bool->List (Int×Int)->Option (List Bool)
 |u,[]=>some u
 |u,(lo,x)::l=>if inR x lo hi&&!(u.getD x.toNat false)then rP hi (u.set x.toNat true) l else none
def qE (hi:Int):List Int->List (Int×Int)->Option (List Int)
 |u,[]=>some u
 |u,(lo,x)::l=>if inR x lo hi then qE hi (u.set x.toNat (IntKind.i64.wrap (u.getD x.toNat 0+1))) l else none
def kR :Nat->List aJ->List (Int×Int)
 |_,[]=>[]
 |i,n::l=>n.kids.map (fun k=>((i:Int)+1,k))++kR (i+1) l
theorem aPe (lo hi:Int): ∀(l:List Int) (u:List Bool),aAs lo hi u l=rP hi u (l.map fun x=>(lo,x))
 |[],u=>rfl
 |x::l,u=>by simp only[aAs,bPw,rP];split<;>first|exact aPe lo hi l _|rfl
theorem aPf (lo hi:Int): ∀(l:List Int) (u:List Int),uH lo hi u l=qE hi u (l.map fun x=>(lo,x))
 |[],u=>rfl
 |x::l,u=>by simp only[uH,bPw,qE];split<;>first|exact aPf lo hi l _|rfl
theorem sP (hi:Int): ∀(a b:List (Int×Int)) (u:List Bool),rP hi u (a++b)=(rP hi u a).bind fun u=>rP hi u b
 |[],b,u=>rfl
 |(lo,x)::a,b,u=>by simp only[bRa,rP];split<;>first|exact sP hi a b _|rfl
theorem wI (hi:Int): ∀(a b:List (Int×Int)) (u:List Int),qE hi u (a++b)=(qE hi u a).bind fun u=>qE hi u b
 |[],b,u=>rfl
 |(lo,x)::a,b,u=>by simp only[bRa,qE];split<;>first|exact wI hi a b _|rfl
theorem aEx (p:aF): ∀(l:List aJ) (i:Nat) (u:List Int),kM p i u l=qE (p.nodes.length-1) u (kR i l)
 |[],i,u=>rfl
 |n::l,i,u=>by
  simp only[kM,kR,wI,aPf]
  congr 1;funext u;exact aEx p l (i+1) u
theorem vR (p:aF): ∀(l:List aJ) (i:Nat) (u:List Bool),kX p i u l=if l.all (eL p)=true then rP (p.nodes.length-1) u (kR i l)else none
 |[],i,u=>rfl
 |n::l,i,u=>by
  simp only[kX,kR,sP,aPe,bQ7,bOx]
  by_cases h:eL p n=true
  ·simp only[h,if_true,true_and];have ih:=fun u=>vR p l (i+1) u
   by_cases h2:l.all (eL p)=true
   ·simp only[h2,if_true]at ih⊢
    congr 1;funext u;exact ih u
   ·simp only[h2]at ih⊢;simp only[ih];cases rP (↑p.nodes.length-1) u (List.map (fun k=>(↑i+1,k)) n.kids)<;>rfl
  ·simp only[h];rfl
theorem aKj {hi:Int}: ∀(evs:List (Int×Int)) (u:List Int) (i:Nat) (B:Int),i<u.length->2<=u.getD i 0->(∀c∈u,c<=B)->(∀c∈u,0<=c)->B+evs.length<=9223372036854775807->aAu (qE hi u evs)=false
 |[],u,i,B,h,h2,hB,h0,hM=>by
  simp only[qE,aAu];rw[<-bP6];intro ha;have:=bO4.1 ha u[i] (bO6 _);simp only[bO2,bP7 h,bPp]at h2
  simp at this;omega
 |(lo,x)::evs,u,i,B,h,h2,hB,h0,hM=>by
  simp only[qE];split
  ·have hx:u.getD x.toNat 0<=B/\ 0<=u.getD x.toNat 0:=by
    rw[bO2];cases hg:u[x.toNat]? with
    |none=>
     have:=hB u[i] (bO6 _);have:=h0 u[i] (bO6 _)
     simp;omega
    |some c=>have:=List.mem_of_getElem? hg;simp;exact⟨hB c this,h0 c this⟩
   have hw:IntKind.i64.wrap (u.getD x.toNat 0+1)=u.getD x.toNat 0+1:=aW (by simp at hM;omega)
   rw[hw]
   refine aKj evs _ i (B+1) (by simpa using h) ?_ ?_ ?_ (by simp at hM;omega)
   ·rw[bO2,bRl];split
    ·rename_i e;subst e;simp only[h,if_true,bPp];omega
    ·rw[<-bO2];exact h2
   ·intro c hc;rcases bSg hc with hc|rfl
    ·have:=hB c hc;omega
    ·omega
   ·intro c hc;rcases bSg hc with hc|rfl
    ·exact h0 c hc
    ·omega
  ·rfl
theorem aUz {u:List Bool}{x:Nat}(h:x<u.length):(u.map fun b=>if b then(1:Int)else 0).getD x 0=if u.getD x false then 1 else 0:=by
 simp[bO2,h]
theorem aU0 {hi:Int}(evs:List (Int×Int)): ∀(u:List Bool),(hi:Int)=u.length-1->(∀e∈evs,0<=e.1)->(evs.length:Int)<=1000000->
  yL (rP hi u evs)=aAu (qE hi (u.map fun b=>if b then 1 else 0) evs):=by
 induction evs with
 |nil=>
  intro u _ _ _;simp only[rP,qE,yL,aAu,List.all_map]
  congr 1
  funext b
  cases b<;>rfl
 |cons e evs ih=>
  obtain⟨lo,x⟩:=e;intro u hh hlo hM;simp only[rP,qE];have hl:=hlo (lo,x) (by simp)
  simp only at hl
  have hM':(evs.length:Int)+1<=1000000:=by simpa using hM
  by_cases hx:inR x lo hi=true
  ·have hx':=hx;simp only[inR,bSi]at hx';have hlt:x.toNat<u.length:=by omega
   simp only[hx,bPr,if_true];rw[aUz hlt];cases hb:u.getD x.toNat false with
   |true=>
    simp only[bPd,bO0,if_false,if_true,yL]
    symm
    have hw:IntKind.i64.wrap ((1:Int)+1)=2:=by rw[aW (by omega)];rfl
    rw[hw];have hbd: ∀c∈(u.map fun b=>if b then(1:Int)else 0).set x.toNat 2,0<=c/\ c<=2:=by
     intro c hc;rcases bSg hc with hc|rfl
     ·obtain⟨b,_,rfl⟩:=bPt.1 hc;split<;>omega
     ·omega
    exact aKj evs _ x.toNat 2 (by simpa using hlt) (by simp[bO2,hlt]) (fun c hc=>(hbd c hc).2) (fun c hc=>(hbd c hc).1) (by omega)
   |false=>
    simp only[bPh,if_true,bO0,if_false];have hw:IntKind.i64.wrap ((0:Int)+1)=1:=by rw[aW (by omega)];rfl
    rw[hw,ih (u.set x.toNat true) (by simpa using hh) (fun e he=>hlo e (by simp[he])) (by omega),bQ8]
    rfl
  ·simp only[bP6]at hx;simp only[hx,bPm,bO0,if_false,yL,aAu]
theorem aKk : ∀(l:List aJ) (i:Nat),∀e∈kR i l,0<=e.1
 |[],i,e,h=>by simp[kR]at h
 |n::l,i,e,h=>by
  simp only[kR,bPn,bPt]at h;rcases h with⟨k,_,rfl⟩|h
  ·simp only;omega
  ·exact aKk l (i+1) e h
theorem aHm : ∀(l:List aJ) (i:Nat),(∀n∈l,n.kids.length<=10)->(kR i l).length<=10*l.length
 |[],i,_=>by simp[kR]
 |n::l,i,h=>by
  have:=aHm l (i+1) fun m hm=>h m (by simp[hm])
  have h2:=h n (by simp)
  simp only[kR,bPg,bOz,bO7];omega
theorem aSd (p:aF)(hs:aS p=true):yP p=fG p:=by
 simp only[aS,bOx,bSi]at hs;obtain⟨⟨⟨⟨h1,h2⟩,h3⟩,h4⟩,h5⟩:=hs;have hk: ∀n∈p.nodes,n.kids.length<=10:=by
  intro n hn;have:=bO4.1 h5 n hn;simp only[fU,bOx,bSi]at this;omega
 have key:p.nodes.all (eL p)=true->yL ((aAs 0 (p.nodes.length-1) (List.replicate p.nodes.length false) p.funs).bind fun u=>kX p 0 u p.nodes)=
   aAu ((uH 0 (p.nodes.length-1) (List.replicate p.nodes.length 0) p.funs).bind fun u=>kM p 0 u p.nodes):=by
  intro hn;simp only[aPe,aPf,vR,aEx,hn,if_true];rw[<-sP,<-wI];have:=aU0 (hi:=(p.nodes.length:Int)-1) (List.map (fun x=>((0:Int),x)) p.funs++kR 0 p.nodes) (List.replicate p.nodes.length false) (by simp) (fun e he=>by
   rcases bPn.1 he with he|he
   ·obtain⟨x,_,rfl⟩:=bPt.1 he;simp
   ·exact aKk _ _ _ he) (by
   have:=aHm p.nodes 0 hk
   simp;omega)
  rw[this];simp[List.map_replicate]
 have none_:p.nodes.all (eL p)=false->yL ((aAs 0 (p.nodes.length-1) (List.replicate p.nodes.length false) p.funs).bind fun u=>kX p 0 u p.nodes)=false:=by
  intro hn;simp only[vR,hn,bO0,if_false];cases aAs 0 (↑p.nodes.length-1) (List.replicate p.nodes.length false) p.funs<;>rfl
 have e1:inR p.funs.length 1 p.nodes.length=(decide ((1:Int)<=p.funs.length)&&decide ((p.funs.length:Int)<=p.nodes.length)):=by simp[inR]
 simp only[yP,fG,yK,e1];cases hn:p.nodes.all (eL p)with
 |true=>rw[key hn];simp only[bQ2,Bool.and_assoc];ac_rfl
 |false=>rw[none_ hn];simp
end Go.Abs
namespace Go.Proofs.YtmnchlhngpdffaaGreat
open Go.Abs Go.Proofs
set_option maxRecDepth 100000
set_option maxHeartbeats 4000000
variable {v:Val}
theorem aPg {t:Nat}:dN .eql .iface (.ifc t v) .nili=some (.bool false):=(rfl)
theorem bDi :dN .eql .iface .nili .nili=some (.bool true):=(rfl)
theorem qF (op:Int):PC L 305 [.i op] (yM op):=by
 have hL:=at_ Tryz.func305
 conv at hL=>rhs;reduce
 refine aG hL rfl rfl ?_
 simp only[go_sem,kK]
 repeat' ((first|with_reducible refine aH (fun h=>?_) (fun h=>?_)|with_reducible refine aL (fun h=>?_) (fun h=>?_))<;>(try simp only[bSi,bSj]at h)<;>try simp only[go_sem,kK,h])
 all_goals simp[yM, *]
theorem aDd (c:Int)(p:aF)(n:aJ):PC L 394 [.i c,.agg p.cs,.agg [.i n.op,.i n.n,.fz (n.kids.map (.int .i64)),.fz (n.pats.map Pat.enc)]] (.bool (decide ((n.kids.length:Int)=c))):=by
 have hL:=at_ Tryz.func394
 conv at hL=>rhs;reduce
 refine aG hL rfl rfl ?_
 simp only[go_sem,kK]
theorem aAv (p:aF)(n:aJ)(hn:n.pats.length<=1000):PC L 393 [.agg [],.agg p.cs,.agg [.i n.op,.i n.n,.fz (n.kids.map (.int .i64)),.fz (n.pats.map Pat.enc)]] (.bool (inR n.pats.length 1 5&&decide ((n.kids.length:Int)=1+n.pats.length))):=by
 have e:IntKind.i64.wrap (1+(n.pats.length:Int))=1+n.pats.length:=aW (by omega)
 have hL:=at_ Tryz.func393
 conv at hL=>rhs;reduce
 refine aG hL rfl rfl ?_
 simp only[go_sem,kK,(lS _ _ _).ret]
 refine aL (fun h=>?_) (fun h=>?_)<;>simp only[go_sem,kK,h,e]<;>simp[h]
theorem aDe (p:aF)(n:aJ)(hc:Few p.cons.length):PC L 395 [.agg [],.agg p.cs,.agg [.i n.op,.i n.n,.fz (n.kids.map (.int .i64)),.fz (n.pats.map Pat.enc)]] (.bool (inR n.n 0 (p.cons.length-1)&&decide ((n.kids.length:Int)=(p.cons.getD n.n.toNat default).args))):=by
 have hL:=at_ Tryz.func395
 conv at hL=>rhs;reduce
 refine aG hL rfl rfl ?_
 simp only[go_sem,kK,(lS _ _ _).ret,dX hc]
 refine aL (fun h=>?_) (fun h=>?_)<;>simp only[go_sem,kK,h,aGh]<;>simp[h]
def aU1 (p:aF)(n:aJ):Bool:=if n.op=14 then true else nW p n
theorem yQ (p:aF)(n:aJ)(hp:p.few):PC L 309 [.agg p.cs,.agg [.i n.op,.i n.n,.fz (n.kids.map (.int .i64)),.fz (n.pats.map Pat.enc)]] (.bool (aU1 p n)):=by
 have e1:IntKind.i64.wrap (0-(p.funs.length:Int))= -(p.funs.length:Int):=by have:=hp.funs;unfold Few at this;rw[aW (by omega)];omega
 have hL:=at_ Tryz.func309
 conv at hL=>rhs;reduce
 refine aG hL rfl rfl ?_
 simp only[go_sem,kK]
 repeat' ((first|with_reducible refine aH (fun h=>?_) (fun h=>?_)|with_reducible refine aL (fun h=>?_) (fun h=>?_))<;>(try simp only[bSi,bSj]at h)<;>try simp only[go_sem,kK,h,e1,(lS _ _ _).ret,(zL _).ret])
 all_goals simp[aU1,nW, *]
theorem xG (p:aF)(hc:Few p.cons.length)(q:Pat)(hq:q.few):PC L 306 [.agg [.i q.form,.i q.n,.str q.text,.fz (q.parts.map Pat.enc)],.fp p.cells 0] (.bool (mQ p.cons q)):=by
 have hL:=at_ Tryz.func306
 conv at hL=>rhs;reduce
 refine aG hL rfl rfl ?_
 simp only[go_sem,kK,(aPd q hq 12 (by omega) (by omega)).ret,bAy]
 refine aL (fun h=>?_) (fun h=>?_)<;>simp only[go_sem,kK,h,(aCe p hc q hq).ret]<;>simp at h<;>simp[mQ,h]
 intros;omega
theorem aAw (p:aF)(n:aJ)(hp:p.few)(hn:n.few)(hm:n.pats.length<=1000):PC L 249 [.agg p.cs,.agg [.i n.op,.i n.n,.fz (n.kids.map (.int .i64)),.fz (n.pats.map Pat.enc)]] (.bool (eL p n)):=by
 have ask:dV L (fun x:Pat=> .agg [.i x.form,.i x.n,.str x.text,.fz (x.parts.map Pat.enc)]) (.fn 306 [] [.fp p.cells 0]) (mQ p.cons) n.pats:=by
  refine⟨fun n en hn=>?_,rfl,rfl,rfl,fun x hx en K hK=>?_⟩
  ·obtain⟨m,rfl⟩: ∃m,n=m+4:=⟨n-4,by omega⟩
   simp only[go_sem]
  ·have:=xG p hp.cons x (hn.pat x hx);simp only[go_sem]at this;simp only[go_sem,this.ret];exact hK
 have hev:=nX n.pats _ _ hn.pats ask;simp only[go_sem]at hev;have hnum:=yQ p n hp;have hL:=at_ Tryz.func249
 conv at hL=>rhs;reduce
 refine aG hL rfl rfl ?_
 rcases aL9 n.op with⟨c,hk,hko,h14,h15⟩|⟨h14,hk⟩|⟨h15,hk⟩|⟨hk,hko,h14,h15⟩
 ·simp only[go_sem,kK,(qF _).ret,hk,aPg]
  refine aH (fun h=>?_) (fun h=>?_)
  ·simp only[go_sem,kK]
   simp at h
   simp[eL,lQ,h15];intros;simp_all
  ·simp only[go_sem,kK,(aDd c p n).ret]
   simp at h
   refine aL (fun h2=>?_) (fun h2=>?_)
   ·simp only[go_sem,kK,h2,hnum.ret]
    refine aL (fun h3=>?_) (fun h3=>?_)
    ·simp only[go_sem,kK,h3,hev.ret];simp[aU1,h14]at h2 h3;simp[eL,lQ,h15,h,hko,h2,h3]
    ·simp only[go_sem,kK,h3];simp[aU1,h14]at h3;simp[eL,h3]
   ·simp only[go_sem,kK,h2]
    simp at h2
    simp[eL,hko,h2]
 ·simp only[go_sem,kK,(qF _).ret,hk,aPg]
  refine aH (fun h=>?_) (fun h=>?_)
  ·simp only[go_sem,kK]
   simp at h
   simp[eL,lQ,h14];intros;simp_all
  ·simp only[go_sem,kK,(aDe p n hp.cons).ret]
   simp at h
   refine aL (fun h2=>?_) (fun h2=>?_)
   ·simp only[go_sem,kK,h2,hnum.ret]
    refine aL (fun h3=>?_) (fun h3=>?_)
    ·simp only[go_sem,kK,h3,hev.ret]
     simp at h2
     simp[eL,lQ,nW,fC,oY,h14,h,h2]
    ·simp only[go_sem,kK,h3];simp[aU1,h14]at h3
   ·simp only[go_sem,kK,h2]
    simp at h2
    simp[eL,lQ,nW,fC,oY,h14,h];intros;simp_all
 ·simp only[go_sem,kK,(qF _).ret,hk,aPg];simp only[go_sem,kK,(aAv p n hm).ret]
  refine aL (fun h2=>?_) (fun h2=>?_)
  ·simp only[go_sem,kK,h2,hnum.ret]
   refine aL (fun h3=>?_) (fun h3=>?_)
   ·simp only[go_sem,kK,h3,hev.ret];simp[aU1,h15]at h2 h3;simp[eL,lQ,fC,h15,h2,h3]
   ·simp only[go_sem,kK,h3];simp[aU1,h15]at h3;simp[eL,h3]
  ·simp only[go_sem,kK,h2]
   simp at h2
   simp[eL,lQ,fC,h15];intros;simp_all
 ·simp only[go_sem,kK,(qF _).ret,hk,bDi];simp[eL,hko]
theorem aKl (l:List ByteArray)(hl:Few l.length):PC L 245 [.fz (l.map .str)] (.bool (mD [] l)):=by
 have hL:=at_ Tryz.func245
 conv at hL=>rhs;reduce
 refine aG hL rfl rfl ?_
 simp only[go_sem,kK]
 refine bQ l.length (fun k st=> ∃fr en cnt ks vs,st=⟨fr,en,cnt⟩/\ fr 0= .fz (l.map .str)/\ fr 3= .mp ⟨0,6,0⟩/\ fr 7= .fz (l.map .str)/\ fr 8= .i l.length/\ fr 9= .i k/\ en ⟨0,6,0⟩=some (.map (List.map Val.str ks) vs false)/\ (l.drop k).foldl wH ks=l.foldl wH []) 0 (bO8 _) ⟨_,_,_,[],[],rfl,by simp only[go_sem],by simp only[go_sem],by simp only[go_sem],by simp only[go_sem],by simp only[go_sem],by simp only[go_sem],rfl⟩ ?_
 rintro k st hk ⟨fr,en,cnt,ks,vs,rfl,h0,h3,h7,h8,h9,e6,hI⟩
 simp only[go_sem,kK,h8,h9]
 refine aH (fun hq=>?_) (fun hq=>?_)
 ·have h':k<l.length:=of_decide_eq_true hq;rw[bPy h',bRm,wH]at hI;rcases aHl l[k] ks with⟨i,f1,f2,f3⟩|⟨f1,f2⟩
  ·rw[f2]at hI;simp only[go_sem,h',h3,h7,h9,e6,f1,f3]
   refine⟨_,_,_,ks,vs.set i (.bool true),rfl,?_⟩
   simp only[go_sem,h0,h3,h7,h8,aT h' hl]
   simpa using hI
  ·rw[f2]at hI;simp only[go_sem,h',h3,h7,h9,e6,f1]
   refine⟨_,_,_,ks++[l[k]],vs++[.bool true],rfl,?_⟩
   simp only[go_sem,h0,h3,h7,h8,aT h' hl]
   refine⟨by simp,?_⟩
   simpa using hI
 ·have:k=l.length:=by simp at hq;omega
  subst this;simp only[bQt,bRc]at hI;simp only[go_sem,h0,h3,e6];have:=aEu l [];rw[<-this,<-hI];simp
theorem aSe {en:En}{size:Nat}{xs:List Val}{D:List Nat}(h:jK en v size xs D): ∃r ks,snapD 8 en v=some (r,ks)/\ r.wk= .fz xs/\ r.wk1= .fz xs:=by
 obtain⟨r,ks,h1,_,h2,h3,_⟩:=h.snap 7;exact⟨r,ks,h1,h3,h2⟩
theorem aKm (l:List cO)(hl:l.length<=1000):PC L 246 [.fz (l.map cO.enc),.fn 247 [] []] (.fz (l.map fun c=> .str c.name)):=by
 have hf:Few l.length:=by unfold Few;omega
 have hL:=at_ Tryz.func246
 conv at hL=>rhs;reduce
 refine aG hL rfl rfl ?_
 simp only[go_sem,kK]
 refine bQ l.length (fun k st=> ∃fr en cnt,st=⟨fr,en,cnt⟩/\ fr 1= .fn 247 [] []/\ fr 8= .fz (l.map cO.enc)/\ fr 9= .i l.length/\ fr 10= .i k/\ jK en (fr 5) 1 ((l.take k).map fun c=> .str c.name) [19]) 0 (bO8 _) ⟨_,_,_,rfl,by simp only[go_sem],by simp only[go_sem],by simp only[go_sem],by simp only[go_sem],by simp only[go_sem];exact jK.nil _ _⟩ ?_
 rintro k st hk ⟨fr,en,cnt,rfl,h1,h8,h9,h10,h5⟩
 simp only[go_sem,kK,h9,h10]
 refine aH (fun hq=>?_) (fun hq=>?_)
 ·have h':k<l.length:=of_decide_eq_true hq;simp only[go_sem,h',h1,h8,h10,(vD _).ret]
  refine aAm (D:=[19]) (xs:=(l.take k).map fun c=>Val.str c.name) (ys:=[.str l[k].name]) (rs:=[]) ?_ ?_ ?_ ?_ ?_
  ·simp only[go_sem];exact h5.keep fun t g ht=>by simp at ht;subst ht;simp only[go_sem]
  ·simp only[go_sem]
  ·rfl
  ·simp;omega
  ·intro v en' cnt' hown hen hcnt;simp only[go_sem,h10]
   refine⟨_,_,_,rfl,?_⟩
   simp only[go_sem,h1,h8,h9,aT h' hf];exact jK.sub (by rw[kW h',bQg];exact hown) (by simp)
 ·have:k=l.length:=by simp at hq;omega
  subst this;rw[bQp]at h5;simp only[go_sem];obtain⟨r,ks,e1,e2,_⟩:=aSe h5;simp only[go_sem,e1,e2]
theorem aSf {u:List Int}{n:Nat}{x:Int}(hu:u.length=n)(h:inR x 0 ((n:Int)-1)=true):0<=x/\ x<(n:Int)/\ (u.map (Val.int .i64))[x.toNat]?=some (.i (u.getD x.toNat 0)):=by
 simp only[inR,bSi]at h;have hx:x.toNat<u.length:=by omega
 exact⟨by omega,by omega,by simp[bO2,hx]⟩
theorem yR (p:aF)(hp:p.few)(hs:p.cons.length<=1000)(hm: ∀n∈p.nodes,n.pats.length<=1000):PC L 211 [.agg p.cs] (.bool (yP p)):=by
 have w1:=dX hp.nodes;have w2:=dX hp.funs;have ask1:dV L (fun x:cO=> .agg [.str x.name,.i x.args]) (.fn 244 [] []) vQ p.cons:=by
  refine⟨fun n en hn=>?_,rfl,rfl,rfl,fun x hx en K hK=>?_⟩
  ·obtain⟨m,rfl⟩: ∃m,n=m+4:=⟨n-4,by omega⟩
   simp only[go_sem]
  ·simp only[go_sem,(aSc x).ret];exact hK
 have ask2:dV L (fun x:aJ=> .agg [.i x.op,.i x.n,.fz (x.kids.map (.int .i64)),.fz (x.pats.map Pat.enc)]) (.fn 249 [.agg p.cs] []) (eL p) p.nodes:=by
  refine⟨fun n en hn=>?_,rfl,rfl,rfl,fun x hx en K hK=>?_⟩
  ·obtain⟨m,rfl⟩: ∃m,n=m+4:=⟨n-4,by omega⟩
   simp only[go_sem]
  ·simp only[go_sem,(aAw p x hp (hp.node x hx) (hm x hx)).ret];exact hK
 have hd:=aKl (p.cons.map cO.name) (by simpa using hp.cons)
 rw[show(p.cons.map cO.name).map Val.str=p.cons.map fun c=>Val.str c.name by simp]at hd
 have hL:=at_ Tryz.func211
 conv at hL=>rhs;reduce
 refine aG hL rfl rfl ?_
 simp only[go_sem,kK]
 repeat' ((first|with_reducible refine aH (fun h=>?_) (fun h=>?_)|with_reducible refine aL (fun h=>?_) (fun h=>?_))<;>(try simp only[bSi,bSj,bPh]at h)<;>try simp only[go_sem,kK, *,(lS _ _ _).ret,(vC _ _ _ hp.cons ask1).ret,(aKm _ hs).ret,hd.ret,(uG _ _ _ hp.nodes ask2).ret])
 all_goals (try simp only[bQb,Bool.not_eq_false',Int.not_lt]at*)
 all_goals try(simp[yP, *];done)
 all_goals try(simp[yP, *];intros;omega)
 have hn:p.nodes.length<=16777216:=by omega
 have hfo:yP p=aAu ((uH 0 (p.nodes.length-1) (List.replicate p.nodes.length 0) p.funs).bind fun u=>kM p 0 u p.nodes):=by
  simp[yP, *];intros;omega
 rw[hfo];clear hfo;simp only[go_sem,bAi hn]
 refine bQ p.funs.length (fun k st=> ∃fr en cnt u,st=⟨fr,en,cnt⟩/\ (fr 1= .ptr ⟨0,1,0⟩ 0/\ en ⟨0,1,0⟩=some (.box p.cells false)/\ fr 3= .i p.nodes.length/\ fr 4= .bl ⟨0,74,0⟩ 0 p.nodes.length/\ en ⟨0,74,0⟩=some (.blk 1 (u.map (Val.int .i64)) false)/\ u.length=p.nodes.length)/\ fr 77= .is p.funs/\ fr 78= .i p.funs.length/\ fr 79= .i k/\ uH 0 (p.nodes.length-1) u (p.funs.drop k)=uH 0 (p.nodes.length-1) (List.replicate p.nodes.length 0) p.funs) 0 (bO8 _) ⟨_,_,_,List.replicate p.nodes.length 0,rfl,⟨by simp only[go_sem],by simp only[go_sem],by simp only[go_sem],by simp only[go_sem],by simp only[go_sem,List.map_replicate],by simp⟩,by simp only[go_sem],by simp only[go_sem],by simp only[go_sem],rfl⟩ ?_
 rintro k st hk ⟨fr,en,cnt,u,rfl,⟨h1,e1,h3,h4,eu,hu⟩,h77,h78,h79,hI⟩
 simp only[go_sem,kK,h78,h79]
 refine aH (fun hq=>?_) (fun hq=>?_)
 ·have h':k<p.funs.length:=of_decide_eq_true hq;rw[bPy h',uH]at hI;simp only[go_sem,kK,h',h3,h77,h79,(lS _ _ _).ret,w1]
  refine aH (fun hb=>?_) (fun hb=>?_)
  ·simp only[go_sem,kK]
   simp at hb
   rw[hb]at hI
   simp at hI
   rw[<-hI];rfl
  ·simp at hb
   obtain⟨a1,a2,a3⟩:=aSf hu hb;rw[hb]at hI
   simp at hI
   simp only[go_sem,h4,eu,h79,a1,a2,a3]
   refine⟨_,_,_,u.set p.funs[k].toNat (IntKind.i64.wrap (u.getD p.funs[k].toNat 0+1)),rfl,?_⟩
   simp only[go_sem,h1,e1,h3,h4,h77,h78,<-bQ8,aT h' hp.funs];exact⟨by simp[hu],by simpa using hI⟩
 ·have:k=p.funs.length:=by simp at hq;omega
  subst this;rw[bQt,uH]at hI;rw[<-hI];simp only[bRq];clear hq hI hk;generalize hM:kM p 0 u p.nodes=M;simp only[go_sem,h1,e1]
  refine bQ p.nodes.length (fun k st=> ∃fr en cnt u,st=⟨fr,en,cnt⟩/\ (fr 1= .ptr ⟨0,1,0⟩ 0/\ en ⟨0,1,0⟩=some (.box p.cells false)/\ fr 3= .i p.nodes.length/\ fr 4= .bl ⟨0,74,0⟩ 0 p.nodes.length/\ en ⟨0,74,0⟩=some (.blk 1 (u.map (Val.int .i64)) false)/\ u.length=p.nodes.length)/\ fr 97= .fz (p.nodes.map aJ.enc)/\ fr 98= .i p.nodes.length/\ fr 99= .i k/\ kM p k u (p.nodes.drop k)=M) 0 (bO8 _) ⟨_,_,_,u,rfl,⟨by simp only[go_sem,h1],by simp only[go_sem,e1],by simp only[go_sem,h3],by simp only[go_sem,h4],by simp only[go_sem,eu],hu⟩,by simp only[go_sem],by simp only[go_sem],by simp only[go_sem],hM⟩ ?_
  clear hM h1 e1 h3 h4 eu hu h77 h78 h79
  rintro k st hk ⟨fr,en,cnt,u,rfl,⟨h1,e1,h3,h4,eu,hu⟩,h97,h98,h99,hI⟩
  simp only[go_sem,kK,h98,h99]
  refine aH (fun hq=>?_) (fun hq=>?_)
  ·have h':k<p.nodes.length:=of_decide_eq_true hq;have hx:=hp.node p.nodes[k] (bO6 _);rw[bPy h',kM]at hI;generalize hmm:uH ((k:Int)+1) (p.nodes.length-1) u p.nodes[k].kids=m at hI;simp only[go_sem,h',h97,h99]
   refine bQ p.nodes[k].kids.length (fun j st=> ∃fr en cnt u,st=⟨fr,en,cnt⟩/\ (fr 1= .ptr ⟨0,1,0⟩ 0/\ en ⟨0,1,0⟩=some (.box p.cells false)/\ fr 3= .i p.nodes.length/\ fr 4= .bl ⟨0,74,0⟩ 0 p.nodes.length/\ en ⟨0,74,0⟩=some (.blk 1 (u.map (Val.int .i64)) false)/\ u.length=p.nodes.length)/\ fr 7= .i k/\ fr 97= .fz (p.nodes.map aJ.enc)/\ fr 98= .i p.nodes.length/\ fr 99= .i k/\ fr 105= .is p.nodes[k].kids/\ fr 106= .i p.nodes[k].kids.length/\ fr 107= .i j/\ uH ((k:Int)+1) (p.nodes.length-1) u (p.nodes[k].kids.drop j)=m) 0 (bO8 _) ⟨_,_,_,u,rfl,⟨by simp only[go_sem,h1],by simp only[go_sem,e1],by simp only[go_sem,h3],by simp only[go_sem,h4],by simp only[go_sem,eu],hu⟩,by simp only[go_sem],by simp only[go_sem,h97],by simp only[go_sem,h98],by simp only[go_sem,h99],by simp only[go_sem],by simp only[go_sem],by simp only[go_sem],hmm⟩ ?_
   clear hmm h1 e1 h3 h4 eu hu h97 h98 h99
   rintro j st hj ⟨fr,en,cnt,u,rfl,⟨h1,e1,h3,h4,eu,hu⟩,h7,h97,h98,h99,h105,h106,h107,hJ⟩
   simp only[go_sem,kK,h106,h107]
   refine aH (fun h2=>?_) (fun h2=>?_)
   ·have h2':j<p.nodes[k].kids.length:=of_decide_eq_true h2;rw[bPy h2',uH]at hJ;have w3:IntKind.i64.wrap ((k:Int)+1)=(k:Int)+1:=aW (by omega)
    simp only[go_sem,kK,h2',h3,h7,h105,h107,(lS _ _ _).ret,w1,w3]
    refine aH (fun hc=>?_) (fun hc=>?_)
    ·simp only[go_sem,kK]
     simp at hc
     rw[hc]at hJ
     simp at hJ
     rw[<-hI,<-hJ];rfl
    ·simp at hc
     have hc0:inR p.nodes[k].kids[j] 0 ((p.nodes.length:Int)-1)=true:=by simp[inR]at hc⊢;omega
     obtain⟨a1,a2,a3⟩:=aSf hu hc0;rw[hc]at hJ
     simp at hJ
     simp only[go_sem,h4,eu,h107,a1,a2,a3]
     refine⟨_,_,_,u.set p.nodes[k].kids[j].toNat (IntKind.i64.wrap (u.getD p.nodes[k].kids[j].toNat 0+1)),rfl,?_⟩
     simp only[go_sem,h1,e1,h3,h4,h7,h97,h98,h99,h105,h106,<-bQ8,aT h2' hx.kids];exact⟨by simp[hu],by simpa using hJ⟩
   ·have:j=p.nodes[k].kids.length:=by simp at h2;omega
    subst this;rw[bQt,uH]at hJ;rw[<-hJ]at hI;simp only[bRq]at hI;simp only[go_sem,h4,eu,h99]
    refine⟨_,_,_,u,rfl,?_⟩
    simp only[go_sem,h1,e1,h3,h4,eu,h97,h98,hu,aT h' hp.nodes];exact hI
  ·have:k=p.nodes.length:=by simp at hq;omega
   subst this;rw[bQt,kM]at hI;rw[<-hI];have ask3:dV L (fun x:Int=> .i x) (.fn 251 [] []) (fun c=>decide (c=1)) u:=by
    refine⟨fun n en hn=>?_,rfl,rfl,rfl,fun x hx en K hK=>?_⟩
    ·obtain⟨m,rfl⟩: ∃m,n=m+4:=⟨n-4,by omega⟩
     simp only[go_sem]
    ·simp only[go_sem,(vE x).ret];exact hK
   have ht:List.take p.nodes.length (u.map (Val.int .i64))=u.map (Val.int .i64):=bPi (by simp[hu])
   simp only[go_sem,h4,eu,hu,bOy,ht,(aEw u _ _ (by rw[hu];exact hp.nodes) ask3).ret]
   rfl
theorem wJ (p:aF)(hp:p.few)(hs:aS p=true):PC L 166 [.agg p.cs] (.i (if fG p then 0 else 2)):=by
 have hs':=hs;simp only[aS,bOx,bSi]at hs';obtain⟨⟨⟨⟨h1,h2⟩,h3⟩,h4⟩,h5⟩:=hs';have hm: ∀n∈p.nodes,n.pats.length<=1000:=by
  intro n hn;have:=bO4.1 h5 n hn;simp only[fU,bOx,bSi]at this;omega
 have h:=yR p hp (by omega) hm
 rw[aSd p hs]at h;have hL:=at_ Tryz.func166
 conv at hL=>rhs;reduce
 refine aG hL rfl rfl ?_
 simp only[go_sem,kK,h.ret];cases hf:fG p<;>simp only[go_sem,kK,bPd,bPh]
theorem aXz {o:aR}(hs:fT o=true):o.vals.length<=40/\ o.frames.length<=50/\ ∀f∈o.frames,f.env.length<=40/\ f.vals.length<=40:=by
 simp only[fT,bOx,bSi,bO4]at hs
 refine⟨by omega,by omega,fun f hf=>?_⟩
 have:=hs.2 f hf;omega
variable {p:aF}{w:aA}
theorem aPh {l:List aD}{m:Int}(h:bE p w l m=true): ∀x∈yN l,inR x 0 (w.objs.length-1)=true:=by
 intro x hx;simp only[bE,bOx,bO4]at h;simp only[yN,bPt,bQi]at hx;obtain⟨v,⟨hv,hr⟩,rfl⟩:=hx;have h5:v.kind=5:=of_decide_eq_true hr;have:=h.2 v hv
 simpa[dJ,h5]using this
theorem aX0 {l:List aB}(h:bV p w l=true): ∀x∈l.flatMap aGl,inR x 0 (w.objs.length-1)=true:=by
 intro x hx;simp only[bV,bOx,bO4]at h;obtain⟨f,hf,hx⟩:=bQa.1 hx;have hk:=h.2 f hf;simp only[dH,bOx]at hk;rcases bPn.1 hx with hx|hx
 ·exact aPh hk.1.2 x hx
 ·exact aPh hk.2 x hx
theorem bA2 {α:Type}{l:List α}(h:(l.length:Int)=0):l=[]:=by
 cases l with
 |nil=>rfl
 |cons a l=>simp at h;omega
theorem bGy {o:aR}(h:dK p w o=true): ∀x∈yO o,inR x 0 (w.objs.length-1)=true:=by
 have key:(∃m,bE p w o.vals m=true \/o.vals=[])/\ (bV p w o.frames=true \/o.frames=[]):=by
  unfold dK at h
  split at h
  ·unfold jN at h
   split at h
   ·simp only[bOx]at h;exact⟨⟨1,.inl h.1.1.2⟩,.inl h.1.1.1⟩
   split at h
   ·simp only[bOx,bSi]at h;exact⟨⟨1,.inl h.2⟩,.inr (bA2 h.1.1)⟩
   split at h
   ·simp only[bOx,bSi]at h;exact⟨⟨1,.inr (bA2 h.2)⟩,.inr (bA2 h.1)⟩
   ·cases h
  split at h
  ·simp only[bOx,bSi]at h;exact⟨⟨1,.inr (bA2 h.1.1.1.1.2)⟩,.inl h.1.1.2⟩
  split at h
  ·cases h
  rename_i hf;have hf0:o.frames=[]:=bA2 (Classical.not_not.1 hf)
  split at h
  ·simp only[bOx]at h;exact⟨⟨_,.inl h.2⟩,.inr hf0⟩
  split at h
  ·simp only[bOx]at h;exact⟨⟨_,.inl h.2⟩,.inr hf0⟩
  split at h
  ·simp only[bOx]at h;exact⟨⟨_,.inl h.2⟩,.inr hf0⟩
  split at h
  ·simp only[bOx]at h;exact⟨⟨_,.inl h.2⟩,.inr hf0⟩
  ·cases h
 obtain⟨⟨m,hv⟩,hfr⟩:=key;intro x hx;rcases bPn.1 hx with hx|hx
 ·rcases hv with hv|hv
  ·exact aPh hv x hx
  ·rw[hv]at hx;simp[yN]at hx
 ·rcases hfr with hfr|hfr
  ·exact aX0 hfr x hx
  ·rw[hfr]at hx;simp at hx
theorem bA3 (h:cX p w=true): ∀o∈w.objs,∀x∈yO o,inR x 0 (w.objs.length-1)=true:=by
 intro o ho;simp only[cX,bOx,bO4]at h;exact bGy (h.1.2 o ho)
theorem nR {k:Nat}(h:k<w.objs.length):w.obj k=w.objs[k]:=by simp[aA.obj,bO2,h]
theorem aDf (h:dB w=true): ∀o∈w.objs,fT o=true:=by
 intro o ho;simp only[dB,bOx,bO4]at h;exact h.2 o ho
end Go.Proofs.YtmnchlhngpdffaaGreat
