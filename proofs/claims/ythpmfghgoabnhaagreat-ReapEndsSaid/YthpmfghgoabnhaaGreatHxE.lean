/- The interpreter of the translated code, and its proof: part E. -/
import Derived.Test.YthpmfghgoabnhaaGreatHxD
import Derived.Test.YthpmfghgoabnhaaGreatHxC
import Derived.ChangeArms
import Derived.ChangeBears
import Derived.JoinedOf
import Derived.KernelRfl
set_option linter.all false
open Array renaming getD_eq_getD_getElem? → bVt, getElem?_eq_some_iff → bW9, length_toList → bXb
open Bool renaming and_eq_true → bVc, false_eq_true → bVd, false_or → bWz, not_true → bVq
open Int renaming natCast_nonneg → bX1, toNat_natCast → bV3
open List renaming all_cons → bVf, all_eq_true → bVo, drop_eq_getElem_cons → bWc, getD_cons_zero → bX5, getD_eq_getElem?_getD → bVm, getElem?_append → bXy, getElem?_eq_getElem → bWo, getElem_mem → bVp, map_cons → bV9, map_nil → bVv, mem_cons → bWe, mem_map → bV4, mem_range → bW4, take_zero → bXa
open Nat renaming zero_le → bVn
open Option renaming bind_eq_some_iff → bVs, getD_some → bV0, isSome_none → bXg
open Option.some renaming injEq → bVb
namespace Go.Abs
def aLb (l:List Int):Val:= .fz (l.map (.int .i64))
structure aG where
 kind:Int
 n:Int
 deriving DecidableEq,Inhabited
def aG.enc (v:aG):Val:= .agg [.int .i64 v.kind,.int .i64 v.n]
structure aB where
 node:Int
 env:List aG
 vals:List aG
 deriving DecidableEq,Inhabited
def aB.enc (f:aB):Val:= .agg [.int .i64 f.node,.fz (f.env.map aG.enc),.fz (f.vals.map aG.enc)]
structure aI where
 form:Int
 n:Int
 vals:List aG
 frames:List aB
 deriving DecidableEq,Inhabited
def aI.enc (o:aI):Val:= .agg [.int .i64 o.form,.int .i64 o.n,.fz (o.vals.map aG.enc),.fz (o.frames.map aB.enc)]
structure aO where
 port:Int
 n:Int
 deriving DecidableEq,Inhabited
def aO.enc (o:aO):Val:= .agg [.int .i64 o.port,.int .i64 o.n]
structure aC where
 objs:List aI
 tasks:List Int
 outs:List aO
 ins:List Int
 used:Int
 deriving DecidableEq,Inhabited
def aC.cells (w:aC):List Val:=[.fz (w.objs.map aI.enc),aLb w.tasks,.fz (w.outs.map aO.enc),aLb w.ins,.int .i64 w.used]
structure aX where
 world:aC
 ages:List Int
 marks:List Int
 cycle:Int
 deriving DecidableEq,Inhabited
def aX.cells (s:aX):List Val:=s.world.cells++[aLb s.ages,aLb s.marks,.int .i64 s.cycle]
structure bC where
 name:ByteArray
 args:Int
 deriving DecidableEq,Inhabited
def bC.enc (c:bC):Val:= .agg [.str c.name,.int .i64 c.args]
inductive Pat where
 |mk (form n:Int) (text:ByteArray) (parts:List Pat)
 deriving Inhabited
mutual
def Pat.enc :Pat->Val
 | .mk f n t ps=> .agg [.int .i64 f,.int .i64 n,.str t,.fz (Pat.encL ps)]
def Pat.encL :List Pat->List Val
 |[]=>[]
 |p::ps=>p.enc::Pat.encL ps
end
theorem Pat.encL_map : ∀ps:List Pat,Pat.encL ps=ps.map Pat.enc
 |[]=>rfl
 |p::ps=>by rw[Pat.encL,Pat.encL_map ps];rfl
def Pat.form :Pat->Int| .mk f _ _ _=>f
def Pat.n :Pat->Int| .mk _ n _ _=>n
def Pat.text :Pat->ByteArray| .mk _ _ t _=>t
def Pat.parts :Pat->List Pat| .mk _ _ _ l=>l
theorem Pat.enc_eq (p:Pat):p.enc= .agg [.int .i64 p.form,.int .i64 p.n,.str p.text,.fz (p.parts.map Pat.enc)]:=by
 cases p;simp only[Pat.enc,Pat.encL_map,Pat.form,Pat.n,Pat.text,Pat.parts]
structure aJ where
 op:Int
 n:Int
 kids:List Int
 pats:List Pat
 deriving Inhabited
def aJ.enc (o:aJ):Val:= .agg [.int .i64 o.op,.int .i64 o.n,aLb o.kids,.fz (o.pats.map Pat.enc)]
structure aQ where
 nodes:List aJ
 funs:List Int
 main:Int
 cons:List bC
 deriving Inhabited
def aQ.cells (p:aQ):List Val:=[.fz (p.nodes.map aJ.enc),aLb p.funs,.int .i64 p.main,.fz (p.cons.map bC.enc)]
attribute [go_sem] aG.enc aB.enc aI.enc aO.enc bC.enc aJ.enc Pat.enc_eq aC.cells aQ.cells aX.cells aLb
end Go.Abs
namespace Go.Abs
def jL (L:cO):List bE->St->(St->Prop)->Prop
 |[],st,Q=>Q st
 |o::l,st,Q=>mE L st o fun st' r=>r.ws=[]/\ r.bump=false/\ r.mem=none/\ jL L l st' Q
theorem kQ {L:cO}{st:St}{o:bE}{K K':St->Res->Prop}(h:mE L st o K)(hk: ∀s r,K s r->K' s r):mE L st o K':=by
 have wop: ∀{d g:Nat} {en:En} {get:Opd->Val} {op:LOp} {K K':Res->Prop},WOp L d g en get op K->(∀r,K r->K' r)->WOp L d g en get op K':=by
  intro d g en get op K K' h hk;have oth:(match cP d g en get op with|some r=>K r|none=>False)->(match cP d g en get op with|some r=>K' r|none=>False):=by
   intro h;split<;>rename_i hr<;>simp only[hr]at h;exact hk _ h
  cases op with
  |call f args=>
   simp only[WOp]at h⊢
   split at h
   ·split at h
    ·obtain⟨r,h1,h2⟩:=h;exact⟨r,h1,hk _ h2⟩
    ·exact h.elim
   ·exact h.elim
  |_=>exact oth h
 unfold mE at h⊢;split
 ·rename_i hw;simp only[hw]at h;split
  ·rename_i f args hop;simp only[hop]at h;exact h.mono fun _ _ _=>hk _ _
  ·rename_i op hne;have h':WOp L (o.dst.getD 0) (st.cnt 0 (o.dst.getD 0)) st.en (St.get st.fr) o.op fun r=>(r.bump&&o.dst.isNone)=false/\
     K ⟨fN st.fr o.dst r.v,W.applyAll st.en r.ws,if r.bump then aP st.cnt 0 (o.dst.getD 0) (st.cnt 0 (o.dst.getD 0)+1)else st.cnt⟩ r:=by
    split at h
    ·rename_i f a hx;exact absurd hx (hne f a)
    ·exact h
   exact wop h' fun r ⟨h1,h2⟩=>⟨h1,hk _ _ h2⟩
 ·rename_i hw;simp only[hw]at h;exact hk _ _ h
 ·rename_i hw;simp only[hw]at h
def aXb (rs:List Res):Prop:= ∀r∈rs,r.ws=[]/\ r.bump=false/\ r.mem=none
theorem aHd {L:cO}: ∀(l:List bE) {st:St} {Q:St->Prop},jL L l st Q->zE L l st fun st' rs=>aXb rs/\ rs.length=l.length/\ Q st'
 |[],st,Q,h=>⟨fun _ hr=>by simp at hr,rfl,h⟩
 |o::l,st,Q,h=>by
  refine kQ h fun s r ⟨h1,h2,h3,h4⟩=>?_
  have rec_: ∀(l:List bE) {st:St} {Q R:St->List Res->Prop},zE L l st Q->(∀s rs,Q s rs->R s rs)->zE L l st R:=by
   intro l
   induction l with
   |nil=>intro st Q R h k;exact k _ _ h
   |cons o l ih=>intro st Q R h k;exact kQ h fun s r hs=>ih hs fun s rs hq=>k _ _ hq
  refine rec_ l (aHd l h4) fun s rs ⟨k1,k2,k3⟩=>⟨fun x hx=>?_,by simp[k2],k3⟩
  rcases bWe.1 hx with rfl|hx
  ·exact⟨h1,h2,h3⟩
  ·exact k1 x hx
theorem vV {L:cO}{l:List bE}{pairs:List (Nat×Nat)}{st:St}{R:Ex->St->Prop}(hp:pairs.all (fun p=>decide (p.1<l.length)&&decide (p.2<l.length))=true)
  (h:jL L l st (R .normal)):Wp L (.draw l pairs) st R:=by
 simp only[Wp];have hr:=aHd l h;split
 ·rename_i hpp;have: ∀(l:List bE) {st:St} {Q:St->List Res->Prop} {R:St->Prop},zE L l st Q->(∀s rs,Q s rs->R s)->iV L l st R:=by
   intro l
   induction l with
   |nil=>intro st Q R h k;exact k _ _ h
   |cons o l ih=>intro st Q R h k;exact kQ h fun s r hs=>ih hs fun s rs hq=>k _ _ hq
  exact this l hr fun s rs h=>h.2.2
 ·have rec_: ∀(l:List bE) {st:St} {Q R:St->List Res->Prop},zE L l st Q->(∀s rs,Q s rs->R s rs)->zE L l st R:=by
   intro l
   induction l with
   |nil=>intro st Q R h k;exact k _ _ h
   |cons o l ih=>intro st Q R h k;exact kQ h fun s r hs=>ih hs fun s rs hq=>k _ _ hq
  refine rec_ l hr fun s rs ⟨h1,h2,h3⟩=>⟨?_,h3⟩
  unfold nM
  refine bVo.2 fun p hpm=>?_
  have:=bVo.1 hp p hpm;simp only[bVc,bYb]at this;rw[bWo (by omega),bWo (by omega)]
  obtain⟨a1,a2,a3⟩:=h1 rs[p.1] (bVp _);obtain⟨b1,b2,b3⟩:=h1 rs[p.2] (bVp _);simp[sN,a1,a3,b1,b3]
section
variable {L :cO}{fr:Nat->Val}{en:En}{cnt:Nat->Nat->Nat}{Q:St->Prop}{l:List bE}{d:Nat}{dst:Option Nat}
@[congr] theorem aZ9 {st:St}:jL L l st Q=jL L l st Q:=(rfl)
@[go_sem] theorem bOb (st:St):jL L [] st Q=Q st:=(rfl)
def aCx (L:cO)(l:List bE)(dst:Option Nat)(fr:Nat->Val)(en:En)(cnt:Nat->Nat->Nat)(Q:St->Prop):Option Res->Prop
 |some r=>(r.bump&&dst.isNone)=false/\ r.ws=[]/\ r.bump=false/\ r.mem=none/\ jL L l ⟨fN fr dst r.v,W.applyAll en r.ws,if r.bump then aP cnt 0 (dst.getD 0) (cnt 0 (dst.getD 0)+1)else cnt⟩ Q
 |none=>False
@[congr] theorem bB5 {r r':Option Res}(h:r=r'):aCx L l dst fr en cnt Q r=aCx L l dst fr en cnt Q r':=by rw[h]
@[go_sem] theorem bDq {v:Val}{rs:List R}{u:Key->Bool}:
  aCx L l dst fr en cnt Q (some ⟨v,[],rs,false,none,u⟩)=jL L l ⟨fN fr dst v,en,cnt⟩ Q:=by simp[aCx,W.applyAll]
@[go_sem] theorem bDr :aCx L l dst fr en cnt Q none=False:=(rfl)
@[go_sem] theorem bUl {op:LOp}(h:op.plain=true):jL L (⟨dst,op,none⟩::l) ⟨fr,en,cnt⟩ Q=aCx L l dst fr en cnt Q (cP (dst.getD 0) (cnt 0 (dst.getD 0)) en (St.get fr) op):=by
 cases op<;>first|(simp[LOp.plain]at h;done)|rfl|(simp only[jL,mE,wanted,WOp,aCx];rfl)
@[go_sem] theorem aXc {t:Nat}{b:Bool}{op:LOp}:jL L (⟨dst,op,some (t,b)⟩::l) ⟨fr,en,cnt⟩ Q=
  nP (fr t) b (jL L (⟨dst,op,none⟩::l) ⟨fr,en,cnt⟩ Q) (jL L l ⟨fN fr dst (.tup []),en,cnt⟩ Q):=by
 simp only[jL,mE,wanted,nP]
 split<;>rename_i h
 ·split at h
  ·rename_i b' hb;simp only[bVb]at h;simp only[hb,h,if_true]
  ·cases h
  ·cases h
 ·split at h
  ·rename_i b' hb;simp only[bVb]at h;simp only[hb,h,bVd,if_false,true_and]
  ·rename_i hb;simp only[hb,true_and]
  ·cases h
 ·split at h
  ·cases h
  ·cases h
  ·rename_i h1 h2;split
   ·rename_i b' hb;exact absurd hb (h1 _)
   ·rename_i hb;exact absurd hb h2
   ·rfl
@[go_sem] theorem bMh {f:Opd}{args:List Opd}:jL L (⟨dst,.call f args,none⟩::l) ⟨fr,en,cnt⟩ Q=
  yD L en (St.get fr f) (args.map (St.get fr)) fun r ks=>aCx L l dst fr en cnt Q (some (eW 0 (dst.getD 0) (cnt 0 (dst.getD 0)) r ks)):=by
 simp only[jL,mE,wanted,WOp,yD,aCw,aLa];cases St.get fr f<;>first|rfl|skip
end
section
variable {L :cO}{fr:Nat->Val}{en:En}{cnt:Nat->Nat->Nat}{Q:St->Prop}{l:List bE}{d g:Nat}{dst:Option Nat}{get:Opd->Val}
def aAh (m:Nat)(en:En)(a v:Val):Option Res:=
  if v.one=true/\ v.cells.length=m then
   match a with
   | .ptr k off=>match en k with
    |some (.box cs false)=>if off+m<=cs.length then some {v:= .tup [],ws:=[.cells k off v.cells],rs:=[.flag k]}else none
    |_=>none
   | .ep k i off=>match en k with
    |some (.blk _ xs false)=>match xs[i]? with
     |some y=>if off+m<=y.cells.length then
       match snapD 8 en v with
       |some (v',ks)=>if v'.one=true/\ v'.cells.length=m/\ ks.all (fun k'=>decide (k'≠k))=true then some {v:= .tup [],ws:=ks.map .frz++[.elem k i off v'.wk1.cells],rs:= .val k:: .flag k::ks.map .val}else none
       |none=>none
      else none
     |none=>none
    |_=>none
   |_=>none
  else none
@[go_sem] theorem bFe {m:Nat}{a x:Opd}:cP d g en get (.store m a x)=aAh m en (get a) (get x):=(rfl)
@[go_sem] theorem bFf {m off:Nat}{k:Key}{v:Val}(h1:v.one=true)(h2:v.cells.length=m):aAh m en (.ptr k off) v=(match en k with
    |some (.box cs false)=>if off+m<=cs.length then some {v:= .tup [],ws:=[.cells k off v.cells],rs:=[.flag k]}else none
    |_=>none):=by simp[aAh,h1,h2]
@[go_sem] theorem bB6 {k:Key}{off:Nat}{vs:List Val}:(W.cells k off vs).apply en=(match en k with
  |some (.box cs f)=>en.set k (some (.box (setCells cs off vs) f))
  |_=>en):=(rfl)
def lJ (str:Bool)(size:Nat)(en:En)(x:Val)(lo hi mx:Option Val):Option Res:=
  if str then
   match x,mx with
   | .str s,none=>match fI hi s.size s.size with
    |some h=>(fI lo 0 h).map fun l=>{v:= .str (s.extract l h)}
    |none=>none
   |_,_=>none
  else match x with
   | .fz xs=>match mx with
    |none=>match fI hi xs.length xs.length with
     |some h=>match fI lo 0 h with
      |some l=>if l=0 \/cS size xs=true then some {v:= .fz ((xs.take h).drop l)}else none
      |none=>none
     |none=>none
    |some m=>aGf size xs lo hi m
   | .cl xs=>match mx with
    |none=>match fI hi xs.length xs.length with
     |some h=>match fI lo 0 h with
      |some l=>if l=0 \/cS size xs=true then some {v:=if h=xs.length then .cl (xs.drop l)else .fz ((xs.take h).drop l)}else none
      |none=>none
     |none=>none
    |some m=>aGf size xs lo hi m
   | .bl k off len=>match mx with
    |none=>match fI hi len len with
     |some h=>match fI lo 0 h with
      |some l=>match en k with
       |some (.blk sz _ _)=>if l=0 \/sz=size then some {v:= .bl k (off+l) (h-l),rs:=[.val k]}else none
       |_=>none
      |none=>none
     |none=>none
    |some _=>none
   |_=>none
@[go_sem] theorem bFg {str:Bool}{size:Nat}{x:Opd}{lo hi mx:Option Opd}:cP d g en get (.slice str size x lo hi mx)=lJ str size en (get x) (lo.map get) (hi.map get) (mx.map get):=by
 cases mx<;>cases str<;>(simp only[cP,eval,lJ,Option.map])<;>cases get x<;>rfl
@[go_sem] theorem vW {a t:Nat}:fI none a t=some a:=(rfl)
theorem aBu {k:IntKind}{i a t:Nat}(h:i<=t):fI (some (.int k (i:Int))) a t=some i:=by
 simp only[fI];rw[if_pos ⟨by omega,by omega⟩];simp
@[go_sem] theorem qQ {size:Nat}{xs:List Val}{k:IntKind}{i:Nat}(h:i<=xs.length):lJ false size en (.fz xs) none (some (.int k (i:Int))) none=some {v:= .fz (xs.take i)}:=by
 simp[lJ,aBu h,vW]
theorem aEw {size:Nat}{xs:List Val}{k:IntKind}{i:Nat}(h:i<=xs.length)(hs:cS size xs=true):lJ false size en (.fz xs) (some (.int k (i:Int))) none none=some {v:= .fz (xs.drop i)}:=by
 simp[lJ,aBu h,vW,hs]
end
theorem aEx {α:Type}{l:List α}{k:Nat}(h:k<l.length)(p:α->Bool):(l.drop k).any p=(p l[k]||(l.drop (k+1)).any p):=by
 rw[bWc h,List.any_cons]
theorem eZ {α:Type}{l:List α}{k:Nat}(h:k<l.length)(p:α->Bool):(l.drop k).all p=(p l[k]&&(l.drop (k+1)).all p):=by
 rw[bWc h,bVf]
end Go.Abs
namespace Go.Abs
section
variable {L :cO}{fr:Nat->Val}{en:En}{cnt:Nat->Nat->Nat}{Q:St->Prop}{l:List bE}{d g:Nat}{dst:Option Nat}{get:Opd->Val}
def cE (en:En)(v:Val)(size:Nat)(xs:List Val)(D:List Nat):Prop:=
 (v= .cl []/\ xs=[]) \/ ∃t g f,v= .bl ⟨0,t,g⟩ 0 xs.length/\ en ⟨0,t,g⟩=some (.blk size xs f)/\ t∈D
theorem cE.nil (size:Nat)(D:List Nat):cE en (.cl []) size [] D:= .inl ⟨rfl,rfl⟩
theorem cE.keep {v:Val}{size:Nat}{xs:List Val}{D:List Nat}{en':En}(h:cE en v size xs D)(k: ∀t g,t∈D->en' ⟨0,t,g⟩=en ⟨0,t,g⟩):cE en' v size xs D:=by
 rcases h with h|⟨t,g,f,h1,h2,h3⟩
 ·exact .inl h
 ·exact .inr ⟨t,g,f,h1,by rw[k t g h3];exact h2,h3⟩
theorem cE.sub {v:Val}{size:Nat}{xs:List Val}{D D':List Nat}(h:cE en v size xs D)(k: ∀t∈D,t∈D'):cE en v size xs D':=by
 rcases h with h|⟨t,g,f,h1,h2,h3⟩
 ·exact .inl h
 ·exact .inr ⟨t,g,f,h1,h2,k t h3⟩
theorem cE.snap {v:Val}{size:Nat}{xs:List Val}{D:List Nat}(h:cE en v size xs D)(n:Nat):
  ∃r ks,snapD (n+1) en v=some (r,ks)/\ r.wk0= .fz xs/\ r.wk1= .fz xs/\ r.wk= .fz xs/\ (r= .fz xs \/r= .cl xs):=by
 rcases h with⟨rfl,rfl⟩|⟨t,g,f,rfl,h2,_⟩
 ·exact⟨.cl [],[],rfl,rfl,rfl,rfl,.inr rfl⟩
 ·refine⟨.fz xs,[⟨0,t,g⟩],?_,rfl,rfl,rfl,.inl rfl⟩
  simp[snapD,h2]
theorem cE.len {v:Val}{size:Nat}{xs:List Val}{D:List Nat}(h:cE en v size xs D):uR v=some xs.length:=by
 rcases h with⟨rfl,rfl⟩|⟨t,g,f,rfl,h2,_⟩<;>rfl
@[go_sem] theorem bG4 {xs:List Val}:jJ en (.cl xs)=some (xs,[]):=(rfl)
@[go_sem] theorem aXd {xs:List Val}:jJ en (.fz xs)=some (xs,[]):=(rfl)
theorem pF {x y:Opd}{size:Nat}{xs ys:List Val}{rs:List R}{D:List Nat}(hx:cE en (St.get fr x) size xs D)(hy:jJ en (St.get fr y)=some (ys,rs))(h1:cS size ys=true)
  (hl:xs.length+ys.length<=16777216)
  (k: ∀v en' cnt',cE en' v size (xs++ys) (d::D)->(∀n t g,n≠0 \/(t≠d/\ t∉D)->en' ⟨n,t,g⟩=en ⟨n,t,g⟩)->(∀n t,t≠d->cnt' n t=cnt n t)->iV L l ⟨jU fr d v,en',cnt'⟩ Q):
  iV L (⟨some d,.append size x y,none⟩::l) ⟨fr,en,cnt⟩ Q:=by
 rw[aK9 (by rfl)]
 simp only[bV0];rcases hx with⟨hv,rfl⟩|⟨t,g,f,hv,he,ht⟩
 ·simp only[cP,eval,hy,h1,if_true,hv]
  by_cases hys:ys.isEmpty=true
  ·have:ys=[]:=by simpa using hys
   subst this;simp only[List.isEmpty_nil,if_true,aHc,iI];exact k _ _ _ (.inl ⟨rfl,rfl⟩) (fun _ _ _ _=>rfl) (fun _ _ _=>rfl)
  ·rw[if_neg hys,if_pos ⟨by simpa using hl,rfl⟩]
   simp only[aBt,mF,iI,sW]
   refine k _ _ _ (.inr ⟨d,cnt 0 d,false,by simp,by simp[En.set],by simp⟩) (fun n t g h=>dZ (fun he=>?_)) (fun n t h=>by simp[aP,h])
   injection he with h3 h4 h5
   rcases h with h|⟨h,_⟩
   ·exact h h3
   ·exact h h4
 ·simp only[cP,eval,hy,h1,if_true,hv,he];rw[if_pos ⟨.inl (by simp),hl,trivial⟩]
  simp only[aBt,mF,iI,sW]
  refine k _ _ _ (.inr ⟨d,cnt 0 d,f,by simp,?_,by simp⟩) (fun n t' g' h=>?_) (fun n t h=>by simp[aP,h])
  ·simp[En.set]
  ·have e1:(⟨n,t',g'⟩:Key)≠⟨0,d,cnt 0 d⟩:=by
    intro he;injection he with h3 h4 h5;rcases h with h|⟨h,_⟩
    ·exact h h3
    ·exact h h4
   have e2:(⟨n,t',g'⟩:Key)≠⟨0,t,g⟩:=by
    intro he;injection he with h3 h4 h5;subst h4;rcases h with h|⟨_,h⟩
    ·exact h h3
    ·exact h ht
   rw[dZ e1,dZ e2]
def aPz (x i:Val):Option Res:=match x,i with
  | .str s,.int _ j=>if 0<=j then(s[j.toNat]?).map fun b=>{v:= .int .u8 b.toNat}else none
  |_,_=>none
@[go_sem] theorem bMi {x i:Opd}:cP d g en get (.ixs x i)=aPz (get x) (get i):=(rfl)
theorem bAa {s:ByteArray}{k:IntKind}{j:Nat}(h:j<s.data.toList.length):aPz (.str s) (.int k (j:Int))=some {v:= .int .u8 (s.data.toList[j]).toNat}:=by
 have h':j<s.size:=by rw[bXb]at h;exact h
 have e:s[(j:Int).toNat]?=some (s.data.toList[j]):=by
  simp only[bV3];rw[getElem?_pos s j h'];exact congrArg some (by rw[ByteArray.getElem_eq_getElem_data,Array.getElem_toList])
 unfold aPz;simp only[if_pos (bX1 j),e,Option.map]
end
end Go.Abs
namespace Go.Abs
inductive aBv (a b:Prop):Type
 |mk
section
variable {L :cO}{fr:Nat->Val}{en:En}{cnt:Nat->Nat->Nat}{Q:St->Prop}{l:List bE}{dst:Option Nat}{R:Ex->St->Prop}
def aBw (v:Val)(a b:Prop)(_:aBv a b):Prop:=aEv v a b
def mQ (v:Val)(t:Bool)(a b:Prop)(_:aBv a b):Prop:=nP v t a b
@[congr] theorem bAb {v v':Val}{a b:Prop}{k:aBv a b}(h:v=v'):aBw v a b k=aBw v' a b k:=by rw[h]
@[congr] theorem aZj {v v':Val}{t:Bool}{a b:Prop}{k:aBv a b}(h:v=v'):mQ v t a b k=mQ v' t a b k:=by rw[h]
theorem qC {x:Opd}{a b:cA}:Wp L (.cond x a b) ⟨fr,en,cnt⟩ R=aBw (St.get fr x) (Wp L a ⟨fr,en,cnt⟩ R) (Wp L b ⟨fr,en,cnt⟩ R) .mk:=(rfl)
theorem aXe {a b:Prop}{k:aBv a b}:aBw (.bool true) a b k=a:=(rfl)
theorem aXf {a b:Prop}{k:aBv a b}:aBw (.bool false) a b k=b:=(rfl)
theorem aA {t:Bool}{a b:Prop}{k:aBv a b}(h:t=true->a)(h':t=false->b):aBw (.bool t) a b k:=aU h h'
theorem qG {t:Nat}{b:Bool}{op:LOp}:iV L (⟨dst,op,some (t,b)⟩::l) ⟨fr,en,cnt⟩ Q=
  mQ (fr t) b (iV L (⟨dst,op,none⟩::l) ⟨fr,en,cnt⟩ Q) (iV L l ⟨fN fr dst (.tup []),en,cnt⟩ Q) .mk:=aZ5
theorem qS {t:Nat}{b:Bool}{op:LOp}:jL L (⟨dst,op,some (t,b)⟩::l) ⟨fr,en,cnt⟩ Q=
  mQ (fr t) b (jL L (⟨dst,op,none⟩::l) ⟨fr,en,cnt⟩ Q) (jL L l ⟨fN fr dst (.tup []),en,cnt⟩ Q) .mk:=aXc
theorem aUh {a b:Prop}{k:aBv a b}:mQ (.bool true) true a b k=a:=(rfl)
theorem aUi {a b:Prop}{k:aBv a b}:mQ (.bool false) false a b k=a:=(rfl)
theorem aUj {a b:Prop}{k:aBv a b}:mQ (.bool true) false a b k=b:=(rfl)
theorem aUk {a b:Prop}{k:aBv a b}:mQ (.bool false) true a b k=b:=(rfl)
theorem aUl {a b:Prop}{k:aBv a b}{t:Bool}:mQ (.tup []) t a b k=b:=(rfl)
theorem aE {b b':Bool}{yes no:Prop}{k:aBv yes no}(h:b=b'->yes)(h':b=!b'->no):mQ (.bool b) b' yes no k:=aY h h'
end
theorem zF {L:cO}{l:List bE}{b:cA}{st:St}{R:Ex->St->Prop}:Wp L (.seq (.ops l) b) st R=iV L l st fun st'=>Wp L b st' R:=(rfl)
theorem xN {L:cO}{a b:cA}{st:St}{Q:Ex->St->Prop}(M:St->Prop)
  (h:Wp L a st fun e st'=>match e with| .normal=>M st'| .exit i=>Q (.exit i) st'| .ret=>Q .ret st') (k: ∀fr en cnt,M ⟨fr,en,cnt⟩->Wp L b ⟨fr,en,cnt⟩ Q):Wp L (.seq a b) st Q:=
 bDd M h fun st' h'=>k _ _ _ h'
section
variable {L :cO}{fr:Nat->Val}{en:En}{cnt:Nat->Nat->Nat}{Q:St->Prop}{l:List bE}{d g:Nat}{dst:Option Nat}{get:Opd->Val}
def bDs (size:Nat)(z:List Val)(d g:Nat)(x y:Val):Option Res:=match x,y with
  | .int .i64 a,.int .i64 b=>if a=b/\ small a=true then
    some {v:= .bl ⟨0,d,g⟩ 0 a.toNat,ws:=[.ent ⟨0,d,g⟩ (some (.blk size (List.replicate a.toNat (kF size z false)) false))],bump:=true}else none
  |_,_=>none
@[go_sem] theorem bFh {size:Nat}{z:List Val}{x y:Opd}:cP d g en get (.mklen size z x y)=bDs size z d g (get x) (get y):=(rfl)
theorem aN4 {size n:Nat}{z:List Val}(h:n<=16777216):bDs size z d g (.int .i64 (n:Int)) (.int .i64 (n:Int))=some {v:= .bl ⟨0,d,g⟩ 0 n,ws:=[.ent ⟨0,d,g⟩ (some (.blk size (List.replicate n (kF size z false)) false))],bump:=true}:=by
 have:small (n:Int)=true:=by simp[small];omega
 simp[bDs,this]
@[go_sem] theorem bB7 {b:Bool}:kF 1 [.bool b] false= .bool b:=(rfl)
@[go_sem] theorem bDt {k:IntKind}{n:Int}:kF 1 [.int k n] false= .int k n:=(rfl)
@[go_sem] theorem bUm {size off len:Nat}{k:Key}{kk:IntKind}{j:Int}:rJ size en (.bl k off len) (.int kk j)=(match en k with
  |some (.blk sz _ _)=>if 0<=j/\ j<len/\ sz=size then some {v:= .ep k (off+j.toNat) 0,rs:=[.val k]}else none
  |_=>none):=(rfl)
@[go_sem] theorem bMj {k:Key}{i off n:Nat}:oH en (.ep k i off) n=(match en k with
  |some (.blk _ xs _)=>(match xs[i]? with
   |some x=>if off+n<=x.cells.length then some ((x.cells.drop off).take n,[.val k])else none
   |none=>none)
  |_=>none):=(rfl)
@[go_sem] theorem bG5 {m i off:Nat}{k:Key}{v:Val}(h1:v.one=true)(h2:v.cells.length=m):aAh m en (.ep k i off) v=(match en k with
    |some (.blk _ xs false)=>(match xs[i]? with
     |some y=>if off+m<=y.cells.length then
       (match snapD 8 en v with
       |some (v',ks)=>if v'.one=true/\ v'.cells.length=m/\ ks.all (fun k'=>decide (k'≠k))=true then some {v:= .tup [],ws:=ks.map .frz++[.elem k i off v'.wk1.cells],rs:= .val k:: .flag k::ks.map .val}else none
       |none=>none)
      else none
     |none=>none)
    |_=>none):=by simp[aAh,h1,h2]
@[go_sem] theorem bDu {k:Key}{i off:Nat}{vs:List Val}:(W.elem k i off vs).apply en=(match en k with
  |some (.blk sz xs f)=>(match xs[i]? with
   |some x=>en.set k (some (.blk sz (xs.set i (fH x off vs)) f))
   |none=>en)
  |_=>en):=(rfl)
@[go_sem] theorem bG6 {b:Bool}{v:Val}:fH (.bool b) 0 [v]=v:=(rfl)
@[go_sem] theorem bMk {k:IntKind}{n:Int}{v:Val}:fH (.int k n) 0 [v]=v:=(rfl)
attribute [go_sem] List.all_nil ite_self
end
section
variable {L :cO}{fr:Nat->Val}{en:En}{cnt:Nat->Nat->Nat}{n:Nat}
@[go_sem] theorem bUn {f:Nat}{a b:List Val}:snapD (n+1) en (.fn f a b)=(match dH (snapD n en) a with
   |some x=>(match dH (snapD n en) b with
    |some y=>some (.fn f (x.map (·.1)) (y.map (·.1)),x.flatMap (·.2)++y.flatMap (·.2))
    |none=>none)
   |none=>none):=(rfl)
@[go_sem] theorem bOc {t:Nat}{v:Val}:snapD (n+1) en (.ifc t v)=(match snapD n en v with
   |some r=>some (.ifc t r.1,r.2)
   |none=>none):=(rfl)
@[go_sem] theorem g_m {tbl:List (Nat×Nat)}{i:Nat}:St.get fr (.m tbl i)=vD tbl (fr i):=(rfl)
@[go_sem] theorem bDv {tbl:List (Nat×Nat)}{t:Nat}{v:Val}:vD tbl (.ifc t v)=(match tbl.lookup t with
  |some f=> .fn f [v] []
  |none=> .dead):=(rfl)
attribute [go_sem] List.lookup_cons
structure cY {α:Type} (L:cO) (enc:α->Val) (h:Val) (p:α->Bool) (l:List α):Prop where
 snap: ∀n en,4<=n->snapD n en h=some (h,[])
 wk:h.wk1=h
 one:h.one=true
 cells:h.cells=[h]
 call: ∀x∈l,∀en K,K (.bool (p x)) []->yD L en h [enc x] K
theorem iX {d g:Nat}{v:Val}(h1:v.one=true)(h2:v.cells=[v]):nQ d g 1 v=some {v:= .ptr ⟨0,d,g⟩ 0,ws:=[.ent ⟨0,d,g⟩ (some (.box [v] false))],bump:=true}:=by
 simp[nQ,h1,h2]
end
def idxOf {α:Type}(p:α->Bool):List α->Nat->Int
 |[],_=> -1
 |x::l,k=>if p x then(k:Int)else idxOf p l (k+1)
theorem lK {α:Type}(p:α->Bool): ∀(l:List α) (k:Nat),decide (0<=idxOf p l k)=l.any p
 |[],k=>by simp[idxOf]
 |x::l,k=>by
  simp only[idxOf,List.any_cons];split
  ·rename_i h;simp[h]
  ·rename_i h;rw[lK p l (k+1)];simp[h]
section
variable {en :En}{d g:Nat}{get:Opd->Val}
def bB8 (d g:Nat)(x:Val):Option Res:=match x with
  | .str s=>some {v:= .it ⟨0,d,g⟩,ws:=[.ent ⟨0,d,g⟩ (some (.iter s 0))],bump:=true}
  |_=>none
@[go_sem] theorem bMl {x:Opd}:cP d g en get (.rng x)=bB8 d g (get x):=(rfl)
@[go_sem] theorem bMm {s:ByteArray}:bB8 d g (.str s)=some {v:= .it ⟨0,d,g⟩,ws:=[.ent ⟨0,d,g⟩ (some (.iter s 0))],bump:=true}:=(rfl)
def bB9 (en:En)(x:Val):Option Res:=match x with
  | .it k=>match en k with
   |some (.iter s pos)=>
    if pos<s.size then some {v:= .tup [.bool true,.int .i64 pos,.int .i32 (Utf8.decode s pos).1],ws:=[.ent k (some (.iter s (pos+(Utf8.decode s pos).2)))],rs:=[.val k,.flag k]}
    else some {v:= .tup [.bool false],rs:=[.val k]}
   |_=>none
  |_=>none
@[go_sem] theorem bMn {x:Opd}:cP d g en get (.nxt x)=bB9 en (get x):=(rfl)
@[go_sem] theorem bOd {k:Key}:bB9 en (.it k)=(match en k with
   |some (.iter s pos)=>
    if pos<s.size then some {v:= .tup [.bool true,.int .i64 pos,.int .i32 (Utf8.decode s pos).1],ws:=[.ent k (some (.iter s (pos+(Utf8.decode s pos).2)))],rs:=[.val k,.flag k]}
    else some {v:= .tup [.bool false],rs:=[.val k]}
   |_=>none):=(rfl)
end
section
variable {en :En}{d g:Nat}{get:Opd->Val}
def bCa (t:EqT)(en:En)(m k x:Val):Option Res:=match m with
  | .mp key=>match en key with
   |some (.map ks vs false)=>
    if qJ t k&&x.flat1 then
     match findKey t k ks with
     |some (some i)=>some {v:= .tup [],ws:=[.ent key (some (.map (ks.set i k) (vs.set i x) false))],rs:=[.val key,.flag key]}
     |some none=>some {v:= .tup [],ws:=[.ent key (some (.map (ks++[k]) (vs++[x]) false))],rs:=[.val key,.flag key]}
     |none=>none
    else none
   |_=>none
  |_=>none
@[go_sem] theorem bG7 {t:EqT}{m k x:Opd}:cP d g en get (.mput t m k x)=bCa t en (get m) (get k) (get x):=(rfl)
@[go_sem] theorem bOe {t:EqT}{key:Key}{k x:Val}:bCa t en (.mp key) k x=(match en key with
   |some (.map ks vs false)=>
    if(qJ t k&&x.flat1)=true then
     (match findKey t k ks with
     |some (some i)=>some {v:= .tup [],ws:=[.ent key (some (.map (ks.set i k) (vs.set i x) false))],rs:=[.val key,.flag key]}
     |some none=>some {v:= .tup [],ws:=[.ent key (some (.map (ks++[k]) (vs++[x]) false))],rs:=[.val key,.flag key]}
     |none=>none)
    else none
   |_=>none):=(rfl)
@[go_sem] theorem bFi {s:ByteArray}:qJ .str (.str s)=true:=(rfl)
@[go_sem] theorem bFj {k:IntKind}{n:Int}:qJ .num (.int k n)=true:=(rfl)
@[go_sem] theorem bDw {b:Bool}:Val.flat1 (.bool b)=true:=(rfl)
@[go_sem] theorem bFk {k:IntKind}{n:Int}:Val.flat1 (.int k n)=true:=(rfl)
@[go_sem] theorem bOf {k:Key}:aEu .map en (.mp k)=(match en k with
    |some (.map ks _ _)=>some {v:= .int .i64 ks.length,rs:=[.val k]}
    |_=>none):=(rfl)
def tU (t:EqT)(z:Val)(ok:Bool)(k:Val)(ks vs:List Val):Option Val:=match findKey t k ks with
    |some (some i)=>some (if ok then .tup [vs.getD i .dead,.bool true]else vs.getD i .dead)
    |some none=>some (if ok then .tup [z,.bool false]else z)
    |none=>none
def aLc (t:EqT)(z:Val)(ok:Bool)(en:En)(m k:Val):Option Res:=
  if qJ t k then
   match m with
   | .mp key=>match en key with
    |some (.map ks vs _)=>(tU t z ok k ks vs).map fun v=>{v,rs:=[.val key]}
    |_=>none
   | .fm ks vs=>(tU t z ok k ks vs).map fun v=>{v}
   | .nilm=>(tU t z ok k [] []).map fun v=>{v}
   |_=>none
  else none
@[go_sem] theorem bG8 {t:EqT}{z:Val}{ok:Bool}{m k:Opd}:cP d g en get (.mget t z ok m k)=aLc t z ok en (get m) (get k):=(rfl)
@[go_sem] theorem bOg {t:EqT}{z:Val}{ok:Bool}{key:Key}{k:Val}(h:qJ t k=true):aLc t z ok en (.mp key) k=(match en key with
    |some (.map ks vs _)=>(tU t z ok k ks vs).map fun v=>{v,rs:=[.val key]}
    |_=>none):=by simp[aLc,h]
@[go_sem] theorem bOh {t:EqT}{z:Val}{ok:Bool}{k:Val}{ks vs:List Val}(h:qJ t k=true):aLc t z ok en (.fm ks vs) k=(tU t z ok k ks vs).map fun v=>{v}:=by simp[aLc,h]
end
theorem aAi {L:cO}{g:Opd}{ps:List Nat}{a b:cA}{fr:Nat->Val}{en:En}{cnt:Nat->Nat->Nat}{Q:Ex->St->Prop}{f:Nat}{x y:List Val}(h:St.get fr g= .fn f x y)
  (H: ∀fr0 k,fr0=fr->k=oX cnt->WIn L (.fn f x y) [.yld k] (en.set k (some (.loop fr0 ps a b .ready))) (aP cnt 1 0 (cnt 1 0+1)) fun _ en' cnt'=>
   match en' k with
   |some (.loop _ _ _ _ .ready)=>Q .normal ⟨fr,en'.set k none,cnt'⟩
   |some (.loop _ _ _ _ (.done e))=>Q e ⟨fr,en'.set k none,cnt'⟩
   |_=>False):Wp L (.rangeF g ps a b) ⟨fr,en,cnt⟩ Q:=by
 simp only[Wp,h];exact H fr _ rfl rfl
@[go_sem] theorem bDx {fr:Nat->Val}{vs:List Val}:vF fr [] vs=fr:=(rfl)
@[go_sem] theorem bCb {fr:Nat->Val}{p:Nat}{ps:List Nat}{v:Val}{vs:List Val}:vF fr (p::ps) (v::vs)=vF (jU fr p v) ps vs:=(rfl)
theorem cE.shape {en:En}{v:Val}{size:Nat}{xs:List Val}{D:List Nat}(h:cE en v size xs D):v.one=true/\ v.cells=[v]:=by
 rcases h with⟨rfl,_⟩|⟨t,g,f,rfl,_⟩<;>exact⟨rfl,rfl⟩
attribute [go_sem] aXe aXf aUh aUi aUj aUk aUl Int.cast_ofNat_Int beq_self_eq_true
attribute [go_sem] Nat.reduceEqDiff Nat.reduceBEq Nat.reduceMul Nat.reduceLeDiff Nat.reduceAdd Nat.reduceSub Nat.reduceLT Int.reduceLT Int.reduceLE Int.reduceToNat Int.reduceAdd Int.reduceNeg Int.reduceEq
end Go.Abs
namespace Go.Abs
def kR (P:Program)(F:TypeId->List Val->Prop):List Field->List Val->Prop
 |[],vs=>vs=[]
 |f::fs,vs=> ∃a b,vs=a++b/\ a.length=P.cellsOf f.type/\ F f.type a/\ kR P F fs b
def pW (P:Program)(t:TypeId)(vs:List Val):Val:=if cG P t then .agg vs else vs.getD 0 .dead
def gY (P:Program):Nat->TypeId->List Val->Prop
 |0,_,_=>False
 |n+1,t,vs=>
  match P.underlying t with
  |some .bool=> ∃b,vs=[.bool b]
  |some (.int k)=> ∃i,vs=[.int k i]/\ (Lit.int k i).wf=true
  |some .string=> ∃s:ByteArray,vs=[.str s]/\ s.size<=maxLen
  |some (.slice e)=> ∃xs:List (List Val),vs=[.fz (xs.map (pW P e))]/\ xs.length<=maxLen/\ ∀x∈xs,gY P n e x
  |some (.struct fs)=>kR P (gY P n) fs.toList vs
  |_=>True
def aLd (P:Program)(S:TypeId->Bool):Bool:=(List.range P.types.size).all fun t=>!S t||match P.underlying t with
 |some (.slice e)=>P.cellsOf e !=0&&S e
 |some (.struct fs)=>fs.toList.all fun f=>S f.type
 |some (.array ..)=>false
 |_=>true
def aCy (w:World):Nat->Nat->Prop:=fun b _=>b<w.heap.size
section
variable {H :Type}{enc:TypeId×Value->H}{P:Program}{w:World}{sp:Nat->Bool}
def jX (w:World)(vs:List Val)(cs:List Value):Prop:=
 vs.length=cs.length/\ ∀i,i<cs.length->eP (cs.getD i undef)=true/\ VR (aCy w) Gh.none w (vs.getD i .dead) (cs.getD i undef)
theorem jX.nil :jX w [] []:=⟨rfl,fun i hi=>by simp at hi⟩
theorem jX.one {v:Val}{c:Value}(h:VR (aCy w) Gh.none w v c)(ho:eP c=true):jX w [v] [c]:=by
 refine⟨rfl,fun i hi=>?_⟩
 have:i=0:=by simp at hi;omega
 subst this;exact⟨ho,h⟩
theorem jX.append {a b:List Val}{c d:List Value}(h:jX w a c)(k:jX w b d):jX w (a++b) (c++d):=by
 refine⟨by simp[h.1,k.1],fun i hi=>?_⟩
 simp only[bVm,bXy];rw[h.1];split
 ·rename_i hlt;have:=h.2 i hlt;simpa[bVm]using this
 ·have:=k.2 (i-c.length) (by simp at hi;omega);simpa[bVm]using this
theorem not_agg {v:Val}{c:Value}(h:VR (aCy w) Gh.none w v c)(ho:eP c=true):v.cells=[v]/\ v.one=true:=by
 cases h<;>first|exact⟨rfl,rfl⟩|(simp[eP]at ho)
theorem aCz (n:Nat)(F:TypeId->List Val->Prop): ∀(fs:List Field) (cs:List Value),cs.length=(fs.map fun f=>P.cellsOf f.type).sum->
  (∀(j:Nat) f,fs[j]?=some f-> ∃vs,F f.type vs/\ jX w vs ((cs.drop ((fs.take j).map fun f=>P.cellsOf f.type).sum).take (P.cellsOf f.type)))->
  ∃vs,kR P F fs vs/\ jX w vs cs
 |[],cs,hl,_=>by
  have:cs=[]:=by simpa using hl
  subst this;exact⟨[],rfl,jX.nil⟩
 |f::fs,cs,hl,h=>by
  simp only[bV9,List.sum_cons]at hl;obtain⟨a,ha,hra⟩:=h 0 f rfl;simp only[bXa,bVv,List.sum_nil,List.drop_zero]at hra;obtain⟨b,hb,hrb⟩:=aCz n F fs (cs.drop (P.cellsOf f.type)) (by simp;omega) (fun j g hj=>by
   obtain⟨vs,h1,h2⟩:=h (j+1) g (by simpa using hj)
   refine⟨vs,h1,?_⟩
   simpa[List.drop_drop]using h2)
  refine⟨a++b,⟨a,b,rfl,?_,ha,hb⟩,?_⟩
  ·rw[hra.1];simp;omega
  ·have:=jX.append hra hrb
   rwa [List.take_append_drop]at this
theorem aLe (b o i:Nat):(⟨b,o,none⟩:Addr).add i=⟨b,o+i,none⟩:=by
 unfold Addr.add;split
 ·rename_i h;subst h;rfl
 ·rfl
theorem qD {a:Addr}{n:Nat}{cs:List Value}(h:w.cells? 0 a n=some cs):cs.length=n/\ ∀j,j<n->w.cell? (a.add j)=some (cs.getD j undef):=by
 unfold World.cells? at h;rw[if_pos (bVn _)]at h;have h1:=mapM_some_length h
 refine⟨by simpa using h1,fun j hj=>?_⟩
 have h2:=mapM_some_get h j j (by simp[hj])
 rw[h2];have:j<cs.length:=by rw[h1];simpa using hj
 simp[bVm,this]
theorem aHe (hl:laidOutB P=true)(S:TypeId->Bool)(hz:aLd P S=true): ∀(fuel:Nat) (t:TypeId) (cs:List Value) (x:DataW H×List MemPlace),t<P.types.size->S t=true->DataW.trod enc P w 0 sp true fuel t cs=some x->
  ∃vs,gY P fuel t vs/\ jX w vs cs:=by
 intro fuel
 induction fuel with
 |zero=>intro t cs x _ _ h;simp[DataW.trod]at h
 |succ n ih=>
  intro t cs x ht hs h;have hz0:=bVo.1 hz t (bW4.2 ht);simp only[hs,bVq,bWz]at hz0;cases hu:P.underlying t with
  |none=>simp[DataW.trod,hu]at h
  |some u=>
   have dead: ∀c:Value,cs=[c]->eP c=true-> ∃vs:List Val,True/\ jX w vs cs:=by
    rintro c rfl ho;exact⟨[.dead],trivial,jX.one (.dead c ho) ho⟩
   have gen:(∃c,cs=[c]/\ eP c=true)->(match u with| .bool| .int _| .string| .slice _| .struct _| .array .. =>False|_=>True)-> ∃vs,gY P (n+1) t vs/\ jX w vs cs:=by
    rintro⟨c,rfl,ho⟩ hk
    refine⟨[.dead],?_,jX.one (.dead c ho) ho⟩
    simp only[gY,hu];cases u<;>first|trivial|exact hk.elim
   cases u with
   |bool=>
    simp only[DataW.trod,hu]at h
    split at h<;>first|(cases h;done)|skip
    all_goals first|(rename_i h1;cases h1;done)|skip
    rename_i b h1;exact⟨[.bool b],by simp only[gY,hu];exact⟨b,rfl⟩,jX.one (.bool b) rfl⟩
   |int k=>
    simp only[DataW.trod,hu]at h
    split at h<;>first|(cases h;done)|skip
    all_goals first|(rename_i h1;cases h1;done)|skip
    rename_i k0 k' i h1;cases h1
    split at h
    ·rename_i hk;obtain⟨rfl,hw⟩:=hk;exact⟨[.int _ i],by simp only[gY,hu];exact⟨i,rfl,hw⟩,jX.one (.int _ i) rfl⟩
    ·cases h
   |string=>
    simp only[DataW.trod,hu]at h
    split at h<;>first|(cases h;done)|skip
    all_goals first|(rename_i h1;cases h1;done)|skip
    rename_i s h1
    split at h
    ·rename_i hs;exact⟨[.str s],by simp only[gY,hu];exact⟨s,rfl,hs⟩,jX.one (.str s) rfl⟩
    ·cases h
   |slice e=>
    simp only[hu,bVc]at hz0;have he:P.cellsOf e≠0:=by simpa using hz0.1
    have hSe:S e=true:=hz0.2;have hke:e<P.types.size:=kid_slice hl ht hu;rcases DataW.trod_slice hu h with⟨rfl,rfl⟩|⟨a,len,cap,elems,rest,m,hm,rfl,rfl,_,hlc,hcm,hel,hall⟩
    ·exact⟨[.fz []],by simp only[gY,hu];exact⟨[],rfl,bVn _,by simp⟩,jX.one (.fz0 _ _) rfl⟩
    ·cases hm
     replace hall:=hall.1
     have each: ∀i,i<len-> ∃csi vsi,w.cells? 0 (a.add (i*P.cellsOf e)) (P.cellsOf e)=some csi/\ gY P n e vsi/\ jX w vsi csi:=by
      intro i hi;have h1:=hall i hi;have hlt:i<elems.length:=by omega
      rw[bWo hlt]at h1;simp only[bVs]at h1;obtain⟨csi,h2,h3⟩:=h1;obtain⟨vsi,h4,h5⟩:=ih e csi _ hke hSe h3;exact⟨csi,vsi,h2,h4,h5⟩
     let C (i:Nat):List Value:=if hi:i<len then(each i hi).choose else []
     let V (i:Nat):List Val:=if hi:i<len then(each i hi).choose_spec.choose else []
     have hCV: ∀i,i<len->w.cells? 0 (a.add (i*P.cellsOf e)) (P.cellsOf e)=some (C i)/\ gY P n e (V i)/\ jX w (V i) (C i):=by
      intro i hi;have:=(each i hi).choose_spec.choose_spec;simp only[C,V,dif_pos hi];exact this
     have hpk: ∀i,i<len->(pW P e (V i)).cells=V i:=by
      intro i hi;obtain⟨h1,h2,h3⟩:=hCV i hi;unfold pW;split
      ·rfl
      ·rename_i hagg;have hlen:(V i).length=1:=by
        rw[h3.1,(qD h1).1];have hr:=rowFine_of hl hke;unfold cG at hagg;have hvar:isVar P e=true:=by
         have:=rowFine_of hl ht;simp only[rowFine,hu]at this;have hv:isVar P t=true:=by simp[isVar,ht,hu,kindOk]
         simp only[hv,bVq,bWz,bVc]at this;exact this.1
        simp only[rowFine,hvar,bVq,bWz]at hr
        split at hr<;>first|(rename_i h';rw[h']at hagg;simp at hagg;done)|(simp only[bVc,beq_iff_eq]at hr;exact hr.2)|(simpa using hr)
       obtain⟨v,hv⟩:=List.length_eq_one_iff.1 hlen;have h4:=h3.2 0 (by rw[<-h3.1,hlen];omega)
       rw[hv]at h4⊢;simp only[bX5]at h4⊢;exact(not_agg h4.2 h4.1).1
     refine⟨[.fz ((List.range len).map fun i=>pW P e (V i))],?_,?_⟩
     ·simp only[gY,hu]
      refine⟨(List.range len).map V,by simp[Function.comp_def],by simp;omega,fun x hx=>?_⟩
      obtain⟨i,hi,rfl⟩:=bV4.1 hx;exact(hCV i (by simpa using hi)).2.1
     ·refine jX.one ?_ rfl
      by_cases h0:len=0
      ·subst h0;exact .fz0 _ _
      ·have hsp:a.spot=none:=by
        have:=(qD (hCV 0 (by omega)).1).2 0 (by omega)
        unfold World.cell? at this
        split at this
        ·rename_i hh
         split at this
         ·cases this
         ·rename_i hs;simpa[Addr.add]using hs
        ·cases this
       obtain⟨blk,off,spt⟩:=a
       simp only at hsp
       subst hsp;have hg: ∀i,i<len->((List.range len).map fun i=>pW P e (V i)).getD i .dead=pW P e (V i):=by
        intro i hi;simp[bVm,hi]
       have hcell: ∀i j,i<len->j<P.cellsOf e->w.cell? ⟨blk,off+i*P.cellsOf e+j,none⟩=some ((C i).getD j undef):=by
        intro i j hi hj;have:=(qD (hCV i hi).1).2 j hj;rw[aLe,aLe]at this;exact this
       have:=VR.fz (T:=aCy w) (G:=Gh.none) (w:=w) ((List.range len).map fun i=>pW P e (V i)) blk off (P.cellsOf e) cap (fun i j=>(C i).getD j undef)
        (by simpa using hlc) (fun i hi=>by
         have hi':i<len:=by simpa using hi
         rw[hg i hi',hpk i hi',(hCV i hi').2.2.1,(qD (hCV i hi').1).1])
        (fun i j hi hj=>hcell i j (by simpa using hi) hj)
        (fun i j hi hj=>by
         have:=hcell i j (by simpa using hi) hj
         unfold World.cell? at this
         split at this
         ·rename_i hh;exact(bW9.1 hh).1
         ·cases this)
        (fun i j hi hj=>by
         have hi':i<len:=by simpa using hi
         exact((hCV i hi').2.2.2 j (by rw[(qD (hCV i hi').1).1];exact hj)).1)
        (fun i j hi hj=>by
         have hi':i<len:=by simpa using hi
         rw[hg i hi',hpk i hi'];exact((hCV i hi').2.2.2 j (by rw[(qD (hCV i hi').1).1];exact hj)).2)
       simpa using this
   |struct fs=>
    obtain⟨xs,m,hm,_,hlen,hxl,hall⟩:=DataW.trod_struct hu h;cases hm;obtain⟨k1,k2,k3⟩:=kid_struct hl ht hu;obtain⟨vs,h1,h2⟩:=aCz (P:=P) (w:=w) n (gY P n) fs.toList cs (by rw[hlen,k2]) (fun j f hj=>by
     have h3:=hall j f (by simpa using hj)
     have hj':j<xs.length:=by rw[hxl];exact(by simpa using(List.getElem?_eq_some_iff.1 hj).1)
     rw[bWo hj']at h3;rw[k3 j f hj]at h3;exact ih _ _ _ (k1 f (List.mem_of_getElem? hj)) (by simp only[hu]at hz0;exact bVo.1 hz0 f (List.mem_of_getElem? hj)) h3)
    exact⟨vs,by simp only[gY,hu];exact h1,h2⟩
   |array k e=>
    simp[hu]at hz0
   |_=>
    refine gen ?_ trivial
    simp only[DataW.trod,hu]at h
    first
    |(cases h;done)
    |(split at h<;>first|(cases h;done)|exact⟨_,rfl,rfl⟩|(rename_i h1;cases h1;done)|(rename_i h1 _;cases h1;done))
end
end Go.Abs
namespace Go.Abs
def kS (L:cO):List bE->St->(St->List Res->Prop)->Prop
 |[],st,Q=>Q st []
 |o::l,st,Q=>mE L st o fun st' r=>kS L l st' fun s rs=>Q s ({r with v:= .dead}::rs)
theorem aHf {L:cO}(l:List bE): ∀{st:St} {Q R:St->List Res->Prop},zE L l st Q->(∀s rs,Q s rs->R s rs)->zE L l st R:=by
 induction l with
 |nil=>intro st Q R h k;exact k _ _ h
 |cons o l ih=>intro st Q R h k;exact kQ h fun s r hs=>ih hs fun s rs hq=>k _ _ hq
def vX :List Res->List Res->Prop
 |[],[]=>True
 |a::l,b::m=>(a={b with v:= .dead})/\ vX l m
 |_,_=>False
theorem aLf {L:cO}: ∀(l:List bE) {st:St} {Q:St->List Res->Prop},kS L l st Q->zE L l st fun st' rs=> ∃fs,vX fs rs/\ Q st' fs
 |[],st,Q,h=>⟨[],trivial,h⟩
 |o::l,st,Q,h=>by
  refine kQ h fun s r h2=>?_
  refine aHf l (aLf l h2) fun s rs ⟨fs,k1,k2⟩=>⟨{r with v:= .dead}::fs,(show vX ({r with v:= .dead}::fs) (r::rs)from⟨rfl,k1⟩),k2⟩
theorem aEy : ∀{fs rs:List Res},vX fs rs-> ∀(i:Nat),(fs[i]?=none/\ rs[i]?=none) \/ ∃b,fs[i]?=some {b with v:= .dead}/\ rs[i]?=some b
 |[],[],_,i=> .inl ⟨rfl,rfl⟩
 |a::l,b::m,h,0=> .inr ⟨b,by rw[<-h.1];rfl,rfl⟩
 |a::l,b::m,h,i+1=>by simpa using aEy h.2 i
 |[],_::_,h,_=>h.elim
 |_::_,[],h,_=>h.elim
theorem aN5 {fs rs:List Res}(h:vX fs rs)(pairs:List (Nat×Nat))(hp:nM fs pairs=true):nM rs pairs=true:=by
 unfold nM at hp⊢
 refine bVo.2 fun p hm=>?_
 have:=bVo.1 hp p hm;rcases aEy h p.1 with⟨a1,_⟩|⟨b,a1,a2⟩
 ·rw[a1]at this;cases this
 rcases aEy h p.2 with⟨c1,_⟩|⟨d,c1,c2⟩
 ·rw[a1,c1]at this;cases this
 rw[a1,c1]at this;rw[a2,c2];exact this
theorem aN {L:cO}{l:List bE}{pairs:List (Nat×Nat)}{st:St}{R:Ex->St->Prop}
  (h:kS L l st fun st' rs=>nM rs pairs=true/\ R .normal st'):Wp L (.draw l pairs) st R:=by
 simp only[Wp];have hr:=aLf l h;split
 ·have: ∀(l:List bE) {st:St} {Q:St->List Res->Prop} {R:St->Prop},zE L l st Q->(∀s rs,Q s rs->R s)->iV L l st R:=by
   intro l
   induction l with
   |nil=>intro st Q R h k;exact k _ _ h
   |cons o l ih=>intro st Q R h k;exact kQ h fun s r hs=>ih hs fun s rs hq=>k _ _ hq
  exact this l hr fun s rs ⟨_,_,h⟩=>h.2
 ·exact aHf l hr fun s rs ⟨fs,h1,h2,h3⟩=>⟨aN5 h1 _ h2,h3⟩
section
variable {L :cO}{fr:Nat->Val}{en:En}{cnt:Nat->Nat->Nat}{Q:St->List Res->Prop}{l:List bE}{d:Nat}{dst:Option Nat}
@[congr] theorem bCc {st:St}:kS L l st Q=kS L l st Q:=(rfl)
@[go_sem] theorem bOi (st:St):kS L [] st Q=Q st []:=(rfl)
def uS (L:cO)(l:List bE)(dst:Option Nat)(fr:Nat->Val)(en:En)(cnt:Nat->Nat->Nat)(Q:St->List Res->Prop):Option Res->Prop
 |some r=>(r.bump&&dst.isNone)=false/\ kS L l ⟨fN fr dst r.v,W.applyAll en r.ws,if r.bump then aP cnt 0 (dst.getD 0) (cnt 0 (dst.getD 0)+1)else cnt⟩ fun s rs=>Q s ({r with v:= .dead}::rs)
 |none=>False
@[congr] theorem bCd {r r':Option Res}(h:r=r'):uS L l dst fr en cnt Q r=uS L l dst fr en cnt Q r':=by rw[h]
@[go_sem] theorem aN6 {v:Val}{ws:List W}{rs:List R}{u:Key->Bool}:
  uS L l dst fr en cnt Q (some ⟨v,ws,rs,false,none,u⟩)=kS L l ⟨fN fr dst v,W.applyAll en ws,cnt⟩ fun s fs=>Q s ({v:= .dead,ws:=ws,rs:=rs,unch:=u}::fs):=by simp[uS]
@[go_sem] theorem aEz {v:Val}{ws:List W}{rs:List R}{u:Key->Bool}:
  uS L l (some d) fr en cnt Q (some ⟨v,ws,rs,true,none,u⟩)=kS L l ⟨jU fr d v,W.applyAll en ws,aP cnt 0 d (cnt 0 d+1)⟩ fun s fs=>Q s ({v:= .dead,ws:=ws,rs:=rs,bump:=true,unch:=u}::fs):=by simp[uS,fN]
@[go_sem] theorem bDy :uS L l dst fr en cnt Q none=False:=(rfl)
theorem aN7 {op:LOp}(h:op.plain=true):kS L (⟨dst,op,none⟩::l) ⟨fr,en,cnt⟩ Q=uS L l dst fr en cnt Q (cP (dst.getD 0) (cnt 0 (dst.getD 0)) en (St.get fr) op):=by
 cases op<;>first|(simp[LOp.plain]at h;done)|rfl|(simp only[kS,mE,wanted,WOp,uS];rfl)
@[go_sem] theorem bMo {op:LOp}(h:op.plain=true):kS L (⟨some d,op,none⟩::l) ⟨fr,en,cnt⟩ Q=uS L l (some d) fr en cnt Q (cP d (cnt 0 d) en (St.get fr) op):=aN7 h
@[go_sem] theorem bMp {op:LOp}(h:op.plain=true):kS L (⟨none,op,none⟩::l) ⟨fr,en,cnt⟩ Q=uS L l none fr en cnt Q (cP 0 (cnt 0 0) en (St.get fr) op):=aN7 h
@[go_sem] theorem bMq {f:Opd}{args:List Opd}:kS L (⟨dst,.call f args,none⟩::l) ⟨fr,en,cnt⟩ Q=
  yD L en (St.get fr f) (args.map (St.get fr)) fun r ks=>uS L l dst fr en cnt Q (some (eW 0 (dst.getD 0) (cnt 0 (dst.getD 0)) r ks)):=by
 simp only[kS,mE,wanted,WOp,yD,aCw,aLa];cases St.get fr f<;>first|rfl|skip
@[go_sem] theorem bG9 {f:Opd}{args:List Opd}:kS L (⟨dst,.icall f args,none⟩::l) ⟨fr,en,cnt⟩ Q=
  WIn L (St.get fr f) (args.map (St.get fr)) en cnt fun v en' cnt'=>kS L l ⟨fN fr dst v,en',cnt'⟩ fun s fs=>Q s ({v:= .dead,mem:=some (en',cnt'),unch:=fun k=>aDy (en k) (en' k)}::fs):=(rfl)
theorem aUm {t:Nat}{b:Bool}{op:LOp}:kS L (⟨dst,op,some (t,b)⟩::l) ⟨fr,en,cnt⟩ Q=
  mQ (fr t) b (kS L (⟨dst,op,none⟩::l) ⟨fr,en,cnt⟩ Q) (kS L l ⟨fN fr dst (.tup []),en,cnt⟩ fun s fs=>Q s ({v:= .dead}::fs)) .mk:=by
 simp only[kS,mE,wanted,mQ,nP]
 split<;>rename_i h
 ·split at h
  ·rename_i b' hb;simp only[bVb]at h;simp only[hb,h,if_true]
  ·cases h
  ·cases h
 ·split at h
  ·rename_i b' hb;simp only[bVb]at h;simp only[hb,h,bVd,if_false,true_and]
  ·rename_i hb;simp only[hb,true_and]
  ·cases h
 ·split at h
  ·cases h
  ·cases h
  ·rename_i h1 h2;split
   ·rename_i b' hb;exact absurd hb (h1 _)
   ·rename_i hb;exact absurd hb h2
   ·rfl
theorem nD {x y:Opd}{size:Nat}{xs ys:List Val}{rs:List R}{D:List Nat}(hx:cE en (St.get fr x) size xs D)(hy:jJ en (St.get fr y)=some (ys,rs))(h1:cS size ys=true)(hrs:rs=[])
  (hl:xs.length+ys.length<=16777216)
  (k: ∀v en' cnt' r,cE en' v size (xs++ys) (d::D)->(∀n t g,n≠0 \/(t≠d/\ t∉D)->en' ⟨n,t,g⟩=en ⟨n,t,g⟩)->(∀n t,t≠d->cnt' n t=cnt n t)->
   (∀w∈(r:Res).ws,w.key.n=0/\ (w.key.t=d \/w.key.t∈D)/\ ∃e,w= .ent w.key e)->(∀ρ∈r.rs,ρ.key.n=0/\ ρ.key.t∈D)->r.mem=none->kS L l ⟨jU fr d v,en',cnt'⟩ fun s fs=>Q s ({r with v:= .dead}::fs)):
  kS L (⟨some d,.append size x y,none⟩::l) ⟨fr,en,cnt⟩ Q:=by
 subst hrs;rw[aN7 (by rfl)]
 simp only[bV0];rcases hx with⟨hv,rfl⟩|⟨t,g,f,hv,he,ht⟩
 ·simp only[cP,eval,hy,h1,if_true,hv]
  by_cases hys:ys.isEmpty=true
  ·have:ys=[]:=by simpa using hys
   subst this;simp only[List.isEmpty_nil,if_true,aN6,iI];exact k _ _ _ {v:= .dead} (.inl ⟨rfl,rfl⟩) (fun _ _ _ _=>rfl) (fun _ _ _=>rfl) (by simp) (by simp) rfl
  ·rw[if_neg hys,if_pos ⟨by simpa using hl,rfl⟩]
   simp only[aEz,mF,iI,sW]
   refine k _ _ _ {v:= .dead,ws:=[.ent ⟨0,d,cnt 0 d⟩ _],rs:=[],bump:=true} (.inr ⟨d,cnt 0 d,false,by simp,by simp[En.set],by simp⟩) (fun n t g h=>dZ (fun he=>?_)) (fun n t h=>by simp[aP,h]) (by simp[W.key]) (by simp) rfl
   injection he with h3 h4 h5
   rcases h with h|⟨h,_⟩
   ·exact h h3
   ·exact h h4
 ·simp only[cP,eval,hy,h1,if_true,hv,he];rw[if_pos ⟨.inl (by simp),hl,trivial⟩]
  simp only[aEz,mF,iI,sW]
  refine k _ _ _ {v:= .dead,ws:=[.ent ⟨0,t,g⟩ none,.ent ⟨0,d,cnt 0 d⟩ _],rs:=[.val ⟨0,t,g⟩,.flag ⟨0,t,g⟩],bump:=true} (.inr ⟨d,cnt 0 d,f,by simp,?_,by simp⟩) (fun n t' g' h=>?_) (fun n t h=>by simp[aP,h]) (by simp[W.key,ht]) (by simp[R.key,ht]) rfl
  ·simp[En.set]
  ·have e1:(⟨n,t',g'⟩:Key)≠⟨0,d,cnt 0 d⟩:=by
    intro he;injection he with h3 h4 h5;rcases h with h|⟨h,_⟩
    ·exact h h3
    ·exact h h4
   have e2:(⟨n,t',g'⟩:Key)≠⟨0,t,g⟩:=by
    intro he;injection he with h3 h4 h5;subst h4;rcases h with h|⟨_,h⟩
    ·exact h h3
    ·exact h ht
   rw[dZ e1,dZ e2]
end
theorem aE0 {k:Key}{e:Option Ent}{ρ:R}:fX (.ent k e) ρ=decide (k≠ρ.key):=by cases ρ<;>rfl
theorem aXg {k k':Key}{o:Nat}{vs:List Val}:fX (.cells k o vs) (.val k')=decide (k≠k'):=rfl
theorem aXh {k k':Key}{o:Nat}{vs:List Val}:fX (.cells k o vs) (.flag k')=true:=rfl
theorem aXi {k k':Key}{o o' n:Nat}{vs:List Val}:fX (.cells k o vs) (.cells k' o' n)=(decide (k≠k')||decide (o+vs.length<=o')||decide (o'+n<=o)):=rfl
theorem aXj {k:Key}{e:Option Ent}{w:W}:kH (.ent k e) w=decide (k≠w.key):=by cases w<;>rfl
theorem aXk {k k':Key}{o:Nat}{vs:List Val}{e:Option Ent}:kH (.cells k o vs) (.ent k' e)=decide (k≠k'):=rfl
theorem aXl {k k':Key}{o o':Nat}{vs vs':List Val}:kH (.cells k o vs) (.cells k' o' vs')=(decide (k≠k')||decide (o+vs.length<=o')||decide (o'+vs'.length<=o)):=rfl
theorem bHa {n t g n' t' g':Nat}(h:t≠t'):((⟨n,t,g⟩:Key)≠⟨n',t',g'⟩)=True:=by simp[h]
attribute [go_sem] nM sN aE0 aXg aXh aXi aXj aXk aXl bHa W.key R.key bXg aUm
end Go.Abs
namespace Go.Abs
section
variable {P :Program}{n:Nat}{t:TypeId}{vs:List Val}
theorem fT {k:IntKind}(hu:P.underlying t=some (.int k))(h:gY P (n+1) t vs): ∃i,vs=[.int k i]:=by
 simp only[gY,hu]at h;obtain⟨i,h,_⟩:=h;exact⟨i,h⟩
theorem aLg (hu:P.underlying t=some .string)(h:gY P (n+1) t vs): ∃s:ByteArray,vs=[.str s]/\ Few s.size:=by
 simp only[gY,hu]at h;obtain⟨s,h,k⟩:=h;exact⟨s,h,by unfold Few;unfold maxLen at k;omega⟩
theorem aP0 {α:Type}(enc:α->Val)(Q:α->Prop)(f:List Val->Val): ∀(xs:List (List Val)),(∀x∈xs,∃a,f x=enc a/\ Q a)-> ∃l:List α,xs.map f=l.map enc/\ l.length=xs.length/\ ∀a∈l,Q a
 |[],_=>⟨[],rfl,rfl,by simp⟩
 |x::xs,h=>by
  obtain⟨a,ha,hq⟩:=h x (by simp)
  obtain⟨l,h1,h2,h3⟩:=aP0 enc Q f xs fun y hy=>h y (by simp[hy])
  exact⟨a::l,by simp[ha,h1],by simp[h2],fun b hb=>by rcases bWe.1 hb with rfl|hb;exact hq;exact h3 b hb⟩
theorem jM {α:Type}(enc:α->Val)(Q:α->Prop){e:TypeId}(hu:P.underlying t=some (.slice e))(hel: ∀x,gY P n e x-> ∃a,pW P e x=enc a/\ Q a)(h:gY P (n+1) t vs):
  ∃l:List α,vs=[.fz (l.map enc)]/\ Few l.length/\ ∀a∈l,Q a:=by
 simp only[gY,hu]at h;obtain⟨xs,h,hl,hx⟩:=h;obtain⟨l,h1,h2,h3⟩:=aP0 enc Q (pW P e) xs fun x hm=>hel x (hx x hm)
 exact⟨l,by rw[h,h1],by rw[h2];unfold Few;unfold maxLen at hl;omega,h3⟩
theorem fK {fs:Array Field}(hu:P.underlying t=some (.struct fs))(h:gY P (n+1) t vs):kR P (gY P n) fs.toList vs:=by
 simp only[gY,hu]at h;exact h
theorem aC0 {F F':TypeId->List Val->Prop}(h: ∀t vs,F t vs->F' t vs): ∀(fs:List Field) (vs:List Val),kR P F fs vs->kR P F' fs vs
 |[],vs,k=>k
 |f::fs,vs,⟨a,b,h1,h2,h3,h4⟩=>⟨a,b,h1,h2,h _ _ h3,aC0 h fs b h4⟩
theorem aBx : ∀(n:Nat) (t:TypeId) (vs:List Val),gY P n t vs->gY P (n+1) t vs
 |0,t,vs,h=>by simp[gY]at h
 |n+1,t,vs,h=>by
  rw[gY]at h⊢;split
  ·rename_i hu;rw[hu]at h;exact h
  ·rename_i hu;rw[hu]at h;exact h
  ·rename_i hu;rw[hu]at h;exact h
  ·rename_i hu;rw[hu]at h;obtain⟨xs,h1,h2,h3⟩:=h;exact⟨xs,h1,h2,fun x hx=>aBx n _ _ (h3 x hx)⟩
  ·rename_i hu;rw[hu]at h;exact aC0 (aBx n) _ _ h
  ·trivial
theorem aHg (k:Nat)(h:gY P n t vs):gY P (n+k) t vs:=by
 induction k with
 |zero=>exact h
 |succ k ih=>exact aBx _ _ _ ih
theorem aI0 {w:World}{x:Array Value}(h:jX w vs x.toList):VR (aCy w) Gh.none w (.agg vs) (.agg x):=by
 have e: ∀i,x.getD i undef=x.toList.getD i undef:=by
  intro i;simp[bVt,bVm]
 have hl:vs.length=x.size:=by simpa using h.1
 refine .agg vs x hl.symm (fun i hi=>?_) fun i hi=>?_
 ·rw[e];exact(h.2 i (by rw[bXb];omega)).1
 ·rw[e];exact(h.2 i (by rw[bXb];omega)).2
end
end Go.Abs
namespace Go.Abs
def aI1 (P:Program):Nat->List TypeId->List TypeId
 |0,s=>s
 |d+1,s=>if P.grow s==s then s else aI1 P d (P.grow s)
theorem aHh {P:Program}{s:List TypeId}(h:P.grow s=s): ∀d,P.grown d s=s
 |0=>rfl
 |d+1=>by rw[Program.grown,h];exact aHh h d
theorem aHi (P:Program): ∀(d:Nat) (s:List TypeId),P.grown d s=aI1 P d s
 |0,s=>rfl
 |d+1,s=>by
  rw[aI1]
  by_cases h:(P.grow s==s)=true
  ·rw[if_pos h];exact aHh (eq_of_beq h) _
  ·rw[if_neg h,Program.grown];exact aHi P d _
theorem bDz (P:Program)(t:TypeId):P.book t=aI1 P P.types.size [t]:=aHi P _ _
end Go.Abs
