/- The interpreter of the translated code, and its proof: part E. -/
import Derived.Test.YthpmfghgoabnhaaGreatHxD
import Derived.Test.YthpmfghgoabnhaaGreatHxC
import Derived.ChangeArms
import Derived.ChangeBears
import Derived.JoinedOf
import Derived.KernelRfl
set_option linter.all false
open Array renaming getD_eq_getD_getElem? → bXt, getElem?_eq_some_iff → bY8, length_toList → bZa
open Bool renaming and_eq_true → bXb, false_eq_true → bXc, false_or → bYy, not_true → bXp
open Int renaming natCast_nonneg → bZ4, toNat_natCast → bXx
open List renaming all_cons → bXe, all_eq_true → bXo, any_cons → bZs, drop_eq_getElem_cons → bX7, getD_cons_zero → bZ8, getD_eq_getElem?_getD → bXm, getElem?_append → bZ1, getElem?_eq_getElem → bYs, getElem_mem → bXn, map_cons → bYa, map_nil → bXv, mem_cons → bYe, mem_map → bXy, mem_range → bYz, take_zero → bY9
open Nat renaming zero_le → bXl
open Option renaming bind_eq_some_iff → bXr, getD_some → bX3, isSome_none → bZj
open Option.some renaming injEq → bXa
namespace Go.Abs
def aMs (l:List Int):Val:= .fz (l.map (.int .i64))
structure aG where
 kind:Int
 n:Int
 deriving DecidableEq,Inhabited
def aG.enc (v:aG):Val:= .agg [.int .i64 v.kind,.int .i64 v.n]
structure aC where
 node:Int
 env:List aG
 vals:List aG
 deriving DecidableEq,Inhabited
def aC.enc (f:aC):Val:= .agg [.int .i64 f.node,.fz (f.env.map aG.enc),.fz (f.vals.map aG.enc)]
structure aI where
 form:Int
 n:Int
 vals:List aG
 frames:List aC
 deriving DecidableEq,Inhabited
def aI.enc (o:aI):Val:= .agg [.int .i64 o.form,.int .i64 o.n,.fz (o.vals.map aG.enc),.fz (o.frames.map aC.enc)]
structure aN where
 port:Int
 n:Int
 deriving DecidableEq,Inhabited
def aN.enc (o:aN):Val:= .agg [.int .i64 o.port,.int .i64 o.n]
structure aB where
 objs:List aI
 tasks:List Int
 outs:List aN
 ins:List Int
 used:Int
 deriving DecidableEq,Inhabited
def aB.cells (w:aB):List Val:=[.fz (w.objs.map aI.enc),aMs w.tasks,.fz (w.outs.map aN.enc),aMs w.ins,.int .i64 w.used]
structure aX where
 world:aB
 ages:List Int
 marks:List Int
 cycle:Int
 deriving DecidableEq,Inhabited
def aX.cells (s:aX):List Val:=s.world.cells++[aMs s.ages,aMs s.marks,.int .i64 s.cycle]
structure bE where
 name:ByteArray
 args:Int
 deriving DecidableEq,Inhabited
def bE.enc (c:bE):Val:= .agg [.str c.name,.int .i64 c.args]
inductive Pat where
 |mk (form n:Int) (text:ByteArray) (parts:List Pat)
 deriving Inhabited
mutual
def Pat.enc :Pat->Val
 | .mk f n t ps=> .agg [.int .i64 f,.int .i64 n,.str t,.fz (Pat.encL ps)]
def Pat.encL :List Pat->List Val
 |[]=>[]
 |p::ps=>p.enc::Pat.encL ps
end
theorem Pat.encL_map : ∀ps:List Pat,Pat.encL ps=ps.map Pat.enc
 |[]=>rfl
 |p::ps=>by rw[Pat.encL,Pat.encL_map ps];rfl
def Pat.form :Pat->Int| .mk f _ _ _=>f
def Pat.n :Pat->Int| .mk _ n _ _=>n
def Pat.text :Pat->ByteArray| .mk _ _ t _=>t
def Pat.parts :Pat->List Pat| .mk _ _ _ l=>l
theorem Pat.enc_eq (p:Pat):p.enc= .agg [.int .i64 p.form,.int .i64 p.n,.str p.text,.fz (p.parts.map Pat.enc)]:=by
 cases p;simp only[Pat.enc,Pat.encL_map,Pat.form,Pat.n,Pat.text,Pat.parts]
structure aK where
 op:Int
 n:Int
 kids:List Int
 pats:List Pat
 deriving Inhabited
def aK.enc (o:aK):Val:= .agg [.int .i64 o.op,.int .i64 o.n,aMs o.kids,.fz (o.pats.map Pat.enc)]
structure aP where
 nodes:List aK
 funs:List Int
 main:Int
 cons:List bE
 deriving Inhabited
def aP.cells (p:aP):List Val:=[.fz (p.nodes.map aK.enc),aMs p.funs,.int .i64 p.main,.fz (p.cons.map bE.enc)]
attribute [go_sem] aG.enc aC.enc aI.enc aN.enc bE.enc aK.enc Pat.enc_eq aB.cells aP.cells aX.cells aMs
end Go.Abs
namespace Go.Abs
def jR (L:cV):List bH->St->(St->Prop)->Prop
 |[],st,Q=>Q st
 |o::l,st,Q=>mX L st o fun st' r=>r.ws=[]/\ r.bump=false/\ r.mem=none/\ jR L l st' Q
theorem lD {L:cV}{st:St}{o:bH}{K K':St->Res->Prop}(h:mX L st o K)(hk: ∀s r,K s r->K' s r):mX L st o K':=by
 have wop: ∀{d g:Nat} {en:En} {get:Opd->Val} {op:LOp} {K K':Res->Prop},WOp L d g en get op K->(∀r,K r->K' r)->WOp L d g en get op K':=by
  intro d g en get op K K' h hk;have oth:(match cT d g en get op with|some r=>K r|none=>False)->(match cT d g en get op with|some r=>K' r|none=>False):=by
   intro h;split<;>rename_i hr<;>simp only[hr]at h;exact hk _ h
  cases op with
  |call f args=>
   simp only[WOp]at h⊢
   split at h
   ·split at h
    ·obtain⟨r,h1,h2⟩:=h;exact⟨r,h1,hk _ h2⟩
    ·exact h.elim
   ·exact h.elim
  |_=>exact oth h
 unfold mX at h⊢;split
 ·rename_i hw;simp only[hw]at h;split
  ·rename_i f args hop;simp only[hop]at h;exact h.mono fun _ _ _=>hk _ _
  ·rename_i op hne;have h':WOp L (o.dst.getD 0) (st.cnt 0 (o.dst.getD 0)) st.en (St.get st.fr) o.op fun r=>(r.bump&&o.dst.isNone)=false/\
     K ⟨fT st.fr o.dst r.v,W.applyAll st.en r.ws,if r.bump then aQ st.cnt 0 (o.dst.getD 0) (st.cnt 0 (o.dst.getD 0)+1)else st.cnt⟩ r:=by
    split at h
    ·rename_i f a hx;exact absurd hx (hne f a)
    ·exact h
   exact wop h' fun r ⟨h1,h2⟩=>⟨h1,hk _ _ h2⟩
 ·rename_i hw;simp only[hw]at h;exact hk _ _ h
 ·rename_i hw;simp only[hw]at h
def aY7 (rs:List Res):Prop:= ∀r∈rs,r.ws=[]/\ r.bump=false/\ r.mem=none
theorem aIs {L:cV}: ∀(l:List bH) {st:St} {Q:St->Prop},jR L l st Q->aAa L l st fun st' rs=>aY7 rs/\ rs.length=l.length/\ Q st'
 |[],st,Q,h=>⟨fun _ hr=>by simp at hr,rfl,h⟩
 |o::l,st,Q,h=>by
  refine lD h fun s r ⟨h1,h2,h3,h4⟩=>?_
  have rec_: ∀(l:List bH) {st:St} {Q R:St->List Res->Prop},aAa L l st Q->(∀s rs,Q s rs->R s rs)->aAa L l st R:=by
   intro l
   induction l with
   |nil=>intro st Q R h k;exact k _ _ h
   |cons o l ih=>intro st Q R h k;exact lD h fun s r hs=>ih hs fun s rs hq=>k _ _ hq
  refine rec_ l (aIs l h4) fun s rs ⟨k1,k2,k3⟩=>⟨fun x hx=>?_,by simp[k2],k3⟩
  rcases bYe.1 hx with rfl|hx
  ·exact⟨h1,h2,h3⟩
  ·exact k1 x hx
theorem wK {L:cV}{l:List bH}{pairs:List (Nat×Nat)}{st:St}{R:Ex->St->Prop}(hp:pairs.all (fun p=>decide (p.1<l.length)&&decide (p.2<l.length))=true)
  (h:jR L l st (R .normal)):Wp L (.draw l pairs) st R:=by
 simp only[Wp];have hr:=aIs l h;split
 ·rename_i hpp;have: ∀(l:List bH) {st:St} {Q:St->List Res->Prop} {R:St->Prop},aAa L l st Q->(∀s rs,Q s rs->R s)->jC L l st R:=by
   intro l
   induction l with
   |nil=>intro st Q R h k;exact k _ _ h
   |cons o l ih=>intro st Q R h k;exact lD h fun s r hs=>ih hs fun s rs hq=>k _ _ hq
  exact this l hr fun s rs h=>h.2.2
 ·have rec_: ∀(l:List bH) {st:St} {Q R:St->List Res->Prop},aAa L l st Q->(∀s rs,Q s rs->R s rs)->aAa L l st R:=by
   intro l
   induction l with
   |nil=>intro st Q R h k;exact k _ _ h
   |cons o l ih=>intro st Q R h k;exact lD h fun s r hs=>ih hs fun s rs hq=>k _ _ hq
  refine rec_ l hr fun s rs ⟨h1,h2,h3⟩=>⟨?_,h3⟩
  unfold nX
  refine bXo.2 fun p hpm=>?_
  have:=bXo.1 hp p hpm;simp only[bXb,cAg]at this;rw[bYs (by omega),bYs (by omega)]
  obtain⟨a1,a2,a3⟩:=h1 rs[p.1] (bXn _);obtain⟨b1,b2,b3⟩:=h1 rs[p.2] (bXn _);simp[sZ,a1,a3,b1,b3]
section
variable {L :cV}{fr:Nat->Val}{en:En}{cnt:Nat->Nat->Nat}{Q:St->Prop}{l:List bH}{d:Nat}{dst:Option Nat}
@[congr] theorem bB5 {st:St}:jR L l st Q=jR L l st Q:=(rfl)
@[go_sem] theorem bP9 (st:St):jR L [] st Q=Q st:=(rfl)
def aD0 (L:cV)(l:List bH)(dst:Option Nat)(fr:Nat->Val)(en:En)(cnt:Nat->Nat->Nat)(Q:St->Prop):Option Res->Prop
 |some r=>(r.bump&&dst.isNone)=false/\ r.ws=[]/\ r.bump=false/\ r.mem=none/\ jR L l ⟨fT fr dst r.v,W.applyAll en r.ws,if r.bump then aQ cnt 0 (dst.getD 0) (cnt 0 (dst.getD 0)+1)else cnt⟩ Q
 |none=>False
@[congr] theorem bD2 {r r':Option Res}(h:r=r'):aD0 L l dst fr en cnt Q r=aD0 L l dst fr en cnt Q r':=by rw[h]
@[go_sem] theorem bFm {v:Val}{rs:List R}{u:Key->Bool}:
  aD0 L l dst fr en cnt Q (some ⟨v,[],rs,false,none,u⟩)=jR L l ⟨fT fr dst v,en,cnt⟩ Q:=by simp[aD0,W.applyAll]
@[go_sem] theorem bFn :aD0 L l dst fr en cnt Q none=False:=(rfl)
@[go_sem] theorem bWn {op:LOp}(h:op.plain=true):jR L (⟨dst,op,none⟩::l) ⟨fr,en,cnt⟩ Q=aD0 L l dst fr en cnt Q (cT (dst.getD 0) (cnt 0 (dst.getD 0)) en (St.get fr) op):=by
 cases op<;>first|(simp[LOp.plain]at h;done)|rfl|(simp only[jR,mX,wanted,WOp,aD0];rfl)
@[go_sem] theorem aY8 {t:Nat}{b:Bool}{op:LOp}:jR L (⟨dst,op,some (t,b)⟩::l) ⟨fr,en,cnt⟩ Q=
  oA (fr t) b (jR L (⟨dst,op,none⟩::l) ⟨fr,en,cnt⟩ Q) (jR L l ⟨fT fr dst (.tup []),en,cnt⟩ Q):=by
 simp only[jR,mX,wanted,oA]
 split<;>rename_i h
 ·split at h
  ·rename_i b' hb;simp only[bXa]at h;simp only[hb,h,if_true]
  ·cases h
  ·cases h
 ·split at h
  ·rename_i b' hb;simp only[bXa]at h;simp only[hb,h,bXc,if_false,true_and]
  ·rename_i hb;simp only[hb,true_and]
  ·cases h
 ·split at h
  ·cases h
  ·cases h
  ·rename_i h1 h2;split
   ·rename_i b' hb;exact absurd hb (h1 _)
   ·rename_i hb;exact absurd hb h2
   ·rfl
@[go_sem] theorem bOf {f:Opd}{args:List Opd}:jR L (⟨dst,.call f args,none⟩::l) ⟨fr,en,cnt⟩ Q=
  yZ L en (St.get fr f) (args.map (St.get fr)) fun r ks=>aD0 L l dst fr en cnt Q (some (fD 0 (dst.getD 0) (cnt 0 (dst.getD 0)) r ks)):=by
 simp only[jR,mX,wanted,WOp,yZ,aDz,aMr];cases St.get fr f<;>first|rfl|skip
end
section
variable {L :cV}{fr:Nat->Val}{en:En}{cnt:Nat->Nat->Nat}{Q:St->Prop}{l:List bH}{d g:Nat}{dst:Option Nat}{get:Opd->Val}
def aA7 (m:Nat)(en:En)(a v:Val):Option Res:=
  if v.one=true/\ v.cells.length=m then
   match a with
   | .ptr k off=>match en k with
    |some (.box cs false)=>if off+m<=cs.length then some {v:= .tup [],ws:=[.cells k off v.cells],rs:=[.flag k]}else none
    |_=>none
   | .ep k i off=>match en k with
    |some (.blk _ xs false)=>match xs[i]? with
     |some y=>if off+m<=y.cells.length then
       match snapD 8 en v with
       |some (v',ks)=>if v'.one=true/\ v'.cells.length=m/\ ks.all (fun k'=>decide (k'≠k))=true then some {v:= .tup [],ws:=ks.map .frz++[.elem k i off v'.wk1.cells],rs:= .val k:: .flag k::ks.map .val}else none
       |none=>none
      else none
     |none=>none
    |_=>none
   |_=>none
  else none
@[go_sem] theorem bHa {m:Nat}{a x:Opd}:cT d g en get (.store m a x)=aA7 m en (get a) (get x):=(rfl)
@[go_sem] theorem bHb {m off:Nat}{k:Key}{v:Val}(h1:v.one=true)(h2:v.cells.length=m):aA7 m en (.ptr k off) v=(match en k with
    |some (.box cs false)=>if off+m<=cs.length then some {v:= .tup [],ws:=[.cells k off v.cells],rs:=[.flag k]}else none
    |_=>none):=by simp[aA7,h1,h2]
@[go_sem] theorem bD3 {k:Key}{off:Nat}{vs:List Val}:(W.cells k off vs).apply en=(match en k with
  |some (.box cs f)=>en.set k (some (.box (setCells cs off vs) f))
  |_=>en):=(rfl)
def mB (str:Bool)(size:Nat)(en:En)(x:Val)(lo hi mx:Option Val):Option Res:=
  if str then
   match x,mx with
   | .str s,none=>match fP hi s.size s.size with
    |some h=>(fP lo 0 h).map fun l=>{v:= .str (s.extract l h)}
    |none=>none
   |_,_=>none
  else match x with
   | .fz xs=>match mx with
    |none=>match fP hi xs.length xs.length with
     |some h=>match fP lo 0 h with
      |some l=>if l=0 \/cZ size xs=true then some {v:= .fz ((xs.take h).drop l)}else none
      |none=>none
     |none=>none
    |some m=>aHu size xs lo hi m
   | .cl xs=>match mx with
    |none=>match fP hi xs.length xs.length with
     |some h=>match fP lo 0 h with
      |some l=>if l=0 \/cZ size xs=true then some {v:=if h=xs.length then .cl (xs.drop l)else .fz ((xs.take h).drop l)}else none
      |none=>none
     |none=>none
    |some m=>aHu size xs lo hi m
   | .bl k off len=>match mx with
    |none=>match fP hi len len with
     |some h=>match fP lo 0 h with
      |some l=>match en k with
       |some (.blk sz _ _)=>if l=0 \/sz=size then some {v:= .bl k (off+l) (h-l),rs:=[.val k]}else none
       |_=>none
      |none=>none
     |none=>none
    |some _=>none
   |_=>none
@[go_sem] theorem bHc {str:Bool}{size:Nat}{x:Opd}{lo hi mx:Option Opd}:cT d g en get (.slice str size x lo hi mx)=mB str size en (get x) (lo.map get) (hi.map get) (mx.map get):=by
 cases mx<;>cases str<;>(simp only[cT,eval,mB,Option.map])<;>cases get x<;>rfl
@[go_sem] theorem wL {a t:Nat}:fP none a t=some a:=(rfl)
theorem aCt {k:IntKind}{i a t:Nat}(h:i<=t):fP (some (.int k (i:Int))) a t=some i:=by
 simp only[fP];rw[if_pos ⟨by omega,by omega⟩];simp
@[go_sem] theorem pQ {size:Nat}{xs:List Val}{k:IntKind}{i:Nat}(h:i<=xs.length):mB false size en (.fz xs) none (some (.int k (i:Int))) none=some {v:= .fz (xs.take i)}:=by
 simp[mB,aCt h,wL]
theorem aF0 {size:Nat}{xs:List Val}{k:IntKind}{i:Nat}(h:i<=xs.length)(hs:cZ size xs=true):mB false size en (.fz xs) (some (.int k (i:Int))) none none=some {v:= .fz (xs.drop i)}:=by
 simp[mB,aCt h,wL,hs]
end
theorem aF1 {α:Type}{l:List α}{k:Nat}(h:k<l.length)(p:α->Bool):(l.drop k).any p=(p l[k]||(l.drop (k+1)).any p):=by
 rw[bX7 h,bZs]
theorem fG {α:Type}{l:List α}{k:Nat}(h:k<l.length)(p:α->Bool):(l.drop k).all p=(p l[k]&&(l.drop (k+1)).all p):=by
 rw[bX7 h,bXe]
end Go.Abs
namespace Go.Abs
section
variable {L :cV}{fr:Nat->Val}{en:En}{cnt:Nat->Nat->Nat}{Q:St->Prop}{l:List bH}{d g:Nat}{dst:Option Nat}{get:Opd->Val}
def cG (en:En)(v:Val)(size:Nat)(xs:List Val)(D:List Nat):Prop:=
 (v= .cl []/\ xs=[]) \/ ∃t g f,v= .bl ⟨0,t,g⟩ 0 xs.length/\ en ⟨0,t,g⟩=some (.blk size xs f)/\ t∈D
theorem cG.nil (size:Nat)(D:List Nat):cG en (.cl []) size [] D:= .inl ⟨rfl,rfl⟩
theorem cG.keep {v:Val}{size:Nat}{xs:List Val}{D:List Nat}{en':En}(h:cG en v size xs D)(k: ∀t g,t∈D->en' ⟨0,t,g⟩=en ⟨0,t,g⟩):cG en' v size xs D:=by
 rcases h with h|⟨t,g,f,h1,h2,h3⟩
 ·exact .inl h
 ·exact .inr ⟨t,g,f,h1,by rw[k t g h3];exact h2,h3⟩
theorem cG.sub {v:Val}{size:Nat}{xs:List Val}{D D':List Nat}(h:cG en v size xs D)(k: ∀t∈D,t∈D'):cG en v size xs D':=by
 rcases h with h|⟨t,g,f,h1,h2,h3⟩
 ·exact .inl h
 ·exact .inr ⟨t,g,f,h1,h2,k t h3⟩
theorem cG.snap {v:Val}{size:Nat}{xs:List Val}{D:List Nat}(h:cG en v size xs D)(n:Nat):
  ∃r ks,snapD (n+1) en v=some (r,ks)/\ r.wk0= .fz xs/\ r.wk1= .fz xs/\ r.wk= .fz xs/\ (r= .fz xs \/r= .cl xs):=by
 rcases h with⟨rfl,rfl⟩|⟨t,g,f,rfl,h2,_⟩
 ·exact⟨.cl [],[],rfl,rfl,rfl,rfl,.inr rfl⟩
 ·refine⟨.fz xs,[⟨0,t,g⟩],?_,rfl,rfl,rfl,.inl rfl⟩
  simp[snapD,h2]
theorem cG.len {v:Val}{size:Nat}{xs:List Val}{D:List Nat}(h:cG en v size xs D):vH v=some xs.length:=by
 rcases h with⟨rfl,rfl⟩|⟨t,g,f,rfl,h2,_⟩<;>rfl
@[go_sem] theorem bI0 {xs:List Val}:jP en (.cl xs)=some (xs,[]):=(rfl)
@[go_sem] theorem aY9 {xs:List Val}:jP en (.fz xs)=some (xs,[]):=(rfl)
theorem pR {x y:Opd}{size:Nat}{xs ys:List Val}{rs:List R}{D:List Nat}(hx:cG en (St.get fr x) size xs D)(hy:jP en (St.get fr y)=some (ys,rs))(h1:cZ size ys=true)
  (hl:xs.length+ys.length<=16777216)
  (k: ∀v en' cnt',cG en' v size (xs++ys) (d::D)->(∀n t g,n≠0 \/(t≠d/\ t∉D)->en' ⟨n,t,g⟩=en ⟨n,t,g⟩)->(∀n t,t≠d->cnt' n t=cnt n t)->jC L l ⟨kB fr d v,en',cnt'⟩ Q):
  jC L (⟨some d,.append size x y,none⟩::l) ⟨fr,en,cnt⟩ Q:=by
 rw[aMq (by rfl)]
 simp only[bX3];rcases hx with⟨hv,rfl⟩|⟨t,g,f,hv,he,ht⟩
 ·simp only[cT,eval,hy,h1,if_true,hv]
  by_cases hys:ys.isEmpty=true
  ·have:ys=[]:=by simpa using hys
   subst this;simp only[List.isEmpty_nil,if_true,aIr,iN];exact k _ _ _ (.inl ⟨rfl,rfl⟩) (fun _ _ _ _=>rfl) (fun _ _ _=>rfl)
  ·rw[if_neg hys,if_pos ⟨by simpa using hl,rfl⟩]
   simp only[aCs,mY,iN,tH]
   refine k _ _ _ (.inr ⟨d,cnt 0 d,false,by simp,by simp[En.set],by simp⟩) (fun n t g h=>eE (fun he=>?_)) (fun n t h=>by simp[aQ,h])
   injection he with h3 h4 h5
   rcases h with h|⟨h,_⟩
   ·exact h h3
   ·exact h h4
 ·simp only[cT,eval,hy,h1,if_true,hv,he];rw[if_pos ⟨.inl (by simp),hl,trivial⟩]
  simp only[aCs,mY,iN,tH]
  refine k _ _ _ (.inr ⟨d,cnt 0 d,f,by simp,?_,by simp⟩) (fun n t' g' h=>?_) (fun n t h=>by simp[aQ,h])
  ·simp[En.set]
  ·have e1:(⟨n,t',g'⟩:Key)≠⟨0,d,cnt 0 d⟩:=by
    intro he;injection he with h3 h4 h5;rcases h with h|⟨h,_⟩
    ·exact h h3
    ·exact h h4
   have e2:(⟨n,t',g'⟩:Key)≠⟨0,t,g⟩:=by
    intro he;injection he with h3 h4 h5;subst h4;rcases h with h|⟨_,h⟩
    ·exact h h3
    ·exact h ht
   rw[eE e1,eE e2]
def aRl (x i:Val):Option Res:=match x,i with
  | .str s,.int _ j=>if 0<=j then(s[j.toNat]?).map fun b=>{v:= .int .u8 b.toNat}else none
  |_,_=>none
@[go_sem] theorem bOg {x i:Opd}:cT d g en get (.ixs x i)=aRl (get x) (get i):=(rfl)
theorem bB6 {s:ByteArray}{k:IntKind}{j:Nat}(h:j<s.data.toList.length):aRl (.str s) (.int k (j:Int))=some {v:= .int .u8 (s.data.toList[j]).toNat}:=by
 have h':j<s.size:=by rw[bZa]at h;exact h
 have e:s[(j:Int).toNat]?=some (s.data.toList[j]):=by
  simp only[bXx];rw[getElem?_pos s j h'];exact congrArg some (by rw[ByteArray.getElem_eq_getElem_data,Array.getElem_toList])
 unfold aRl;simp only[if_pos (bZ4 j),e,Option.map]
end
end Go.Abs
namespace Go.Abs
inductive aCu (a b:Prop):Type
 |mk
section
variable {L :cV}{fr:Nat->Val}{en:En}{cnt:Nat->Nat->Nat}{Q:St->Prop}{l:List bH}{dst:Option Nat}{R:Ex->St->Prop}
def aCv (v:Val)(a b:Prop)(_:aCu a b):Prop:=aFz v a b
def nD (v:Val)(t:Bool)(a b:Prop)(_:aCu a b):Prop:=oA v t a b
@[congr] theorem bB7 {v v':Val}{a b:Prop}{k:aCu a b}(h:v=v'):aCv v a b k=aCv v' a b k:=by rw[h]
@[congr] theorem bBf {v v':Val}{t:Bool}{a b:Prop}{k:aCu a b}(h:v=v'):nD v t a b k=nD v' t a b k:=by rw[h]
theorem qC {x:Opd}{a b:cD}:Wp L (.cond x a b) ⟨fr,en,cnt⟩ R=aCv (St.get fr x) (Wp L a ⟨fr,en,cnt⟩ R) (Wp L b ⟨fr,en,cnt⟩ R) .mk:=(rfl)
theorem aZa {a b:Prop}{k:aCu a b}:aCv (.bool true) a b k=a:=(rfl)
theorem aZb {a b:Prop}{k:aCu a b}:aCv (.bool false) a b k=b:=(rfl)
theorem aA {t:Bool}{a b:Prop}{k:aCu a b}(h:t=true->a)(h':t=false->b):aCv (.bool t) a b k:=aV h h'
theorem qG {t:Nat}{b:Bool}{op:LOp}:jC L (⟨dst,op,some (t,b)⟩::l) ⟨fr,en,cnt⟩ Q=
  nD (fr t) b (jC L (⟨dst,op,none⟩::l) ⟨fr,en,cnt⟩ Q) (jC L l ⟨fT fr dst (.tup []),en,cnt⟩ Q) .mk:=bB1
theorem qS {t:Nat}{b:Bool}{op:LOp}:jR L (⟨dst,op,some (t,b)⟩::l) ⟨fr,en,cnt⟩ Q=
  nD (fr t) b (jR L (⟨dst,op,none⟩::l) ⟨fr,en,cnt⟩ Q) (jR L l ⟨fT fr dst (.tup []),en,cnt⟩ Q) .mk:=aY8
theorem aV7 {a b:Prop}{k:aCu a b}:nD (.bool true) true a b k=a:=(rfl)
theorem aV8 {a b:Prop}{k:aCu a b}:nD (.bool false) false a b k=a:=(rfl)
theorem aV9 {a b:Prop}{k:aCu a b}:nD (.bool true) false a b k=b:=(rfl)
theorem aWa {a b:Prop}{k:aCu a b}:nD (.bool false) true a b k=b:=(rfl)
theorem aWb {a b:Prop}{k:aCu a b}{t:Bool}:nD (.tup []) t a b k=b:=(rfl)
theorem aE {b b':Bool}{yes no:Prop}{k:aCu yes no}(h:b=b'->yes)(h':b=!b'->no):nD (.bool b) b' yes no k:=bA h h'
end
theorem aAb {L:cV}{l:List bH}{b:cD}{st:St}{R:Ex->St->Prop}:Wp L (.seq (.ops l) b) st R=jC L l st fun st'=>Wp L b st' R:=(rfl)
theorem yG {L:cV}{a b:cD}{st:St}{Q:Ex->St->Prop}(M:St->Prop)
  (h:Wp L a st fun e st'=>match e with| .normal=>M st'| .exit i=>Q (.exit i) st'| .ret=>Q .ret st') (k: ∀fr en cnt,M ⟨fr,en,cnt⟩->Wp L b ⟨fr,en,cnt⟩ Q):Wp L (.seq a b) st Q:=
 bE9 M h fun st' h'=>k _ _ _ h'
section
variable {L :cV}{fr:Nat->Val}{en:En}{cnt:Nat->Nat->Nat}{Q:St->Prop}{l:List bH}{d g:Nat}{dst:Option Nat}{get:Opd->Val}
def bFo (size:Nat)(z:List Val)(d g:Nat)(x y:Val):Option Res:=match x,y with
  | .int .i64 a,.int .i64 b=>if a=b/\ small a=true then
    some {v:= .bl ⟨0,d,g⟩ 0 a.toNat,ws:=[.ent ⟨0,d,g⟩ (some (.blk size (List.replicate a.toNat (kN size z false)) false))],bump:=true}else none
  |_,_=>none
@[go_sem] theorem bHd {size:Nat}{z:List Val}{x y:Opd}:cT d g en get (.mklen size z x y)=bFo size z d g (get x) (get y):=(rfl)
theorem aCw {size n:Nat}{z:List Val}(h:n<=16777216):bFo size z d g (.int .i64 (n:Int)) (.int .i64 (n:Int))=some {v:= .bl ⟨0,d,g⟩ 0 n,ws:=[.ent ⟨0,d,g⟩ (some (.blk size (List.replicate n (kN size z false)) false))],bump:=true}:=by
 have:small (n:Int)=true:=by simp[small];omega
 simp[bFo,this]
@[go_sem] theorem bD4 {b:Bool}:kN 1 [.bool b] false= .bool b:=(rfl)
@[go_sem] theorem bFp {k:IntKind}{n:Int}:kN 1 [.int k n] false= .int k n:=(rfl)
@[go_sem] theorem bWo {size off len:Nat}{k:Key}{kk:IntKind}{j:Int}:sP size en (.bl k off len) (.int kk j)=(match en k with
  |some (.blk sz _ _)=>if 0<=j/\ j<len/\ sz=size then some {v:= .ep k (off+j.toNat) 0,rs:=[.val k]}else none
  |_=>none):=(rfl)
@[go_sem] theorem bOh {k:Key}{i off n:Nat}:oR en (.ep k i off) n=(match en k with
  |some (.blk _ xs _)=>(match xs[i]? with
   |some x=>if off+n<=x.cells.length then some ((x.cells.drop off).take n,[.val k])else none
   |none=>none)
  |_=>none):=(rfl)
@[go_sem] theorem bI1 {m i off:Nat}{k:Key}{v:Val}(h1:v.one=true)(h2:v.cells.length=m):aA7 m en (.ep k i off) v=(match en k with
    |some (.blk _ xs false)=>(match xs[i]? with
     |some y=>if off+m<=y.cells.length then
       (match snapD 8 en v with
       |some (v',ks)=>if v'.one=true/\ v'.cells.length=m/\ ks.all (fun k'=>decide (k'≠k))=true then some {v:= .tup [],ws:=ks.map .frz++[.elem k i off v'.wk1.cells],rs:= .val k:: .flag k::ks.map .val}else none
       |none=>none)
      else none
     |none=>none)
    |_=>none):=by simp[aA7,h1,h2]
@[go_sem] theorem bFq {k:Key}{i off:Nat}{vs:List Val}:(W.elem k i off vs).apply en=(match en k with
  |some (.blk sz xs f)=>(match xs[i]? with
   |some x=>en.set k (some (.blk sz (xs.set i (fO x off vs)) f))
   |none=>en)
  |_=>en):=(rfl)
@[go_sem] theorem bI2 {b:Bool}{v:Val}:fO (.bool b) 0 [v]=v:=(rfl)
@[go_sem] theorem bOi {k:IntKind}{n:Int}{v:Val}:fO (.int k n) 0 [v]=v:=(rfl)
attribute [go_sem] List.all_nil ite_self
end
section
variable {L :cV}{fr:Nat->Val}{en:En}{cnt:Nat->Nat->Nat}{n:Nat}
@[go_sem] theorem bWp {f:Nat}{a b:List Val}:snapD (n+1) en (.fn f a b)=(match dO (snapD n en) a with
   |some x=>(match dO (snapD n en) b with
    |some y=>some (.fn f (x.map (·.1)) (y.map (·.1)),x.flatMap (·.2)++y.flatMap (·.2))
    |none=>none)
   |none=>none):=(rfl)
@[go_sem] theorem bQa {t:Nat}{v:Val}:snapD (n+1) en (.ifc t v)=(match snapD n en v with
   |some r=>some (.ifc t r.1,r.2)
   |none=>none):=(rfl)
@[go_sem] theorem g_m {tbl:List (Nat×Nat)}{i:Nat}:St.get fr (.m tbl i)=vX tbl (fr i):=(rfl)
@[go_sem] theorem bFr {tbl:List (Nat×Nat)}{t:Nat}{v:Val}:vX tbl (.ifc t v)=(match tbl.lookup t with
  |some f=> .fn f [v] []
  |none=> .dead):=(rfl)
attribute [go_sem] List.lookup_cons
structure dD {α:Type} (L:cV) (enc:α->Val) (h:Val) (p:α->Bool) (l:List α):Prop where
 snap: ∀n en,4<=n->snapD n en h=some (h,[])
 wk:h.wk1=h
 one:h.one=true
 cells:h.cells=[h]
 call: ∀x∈l,∀en K,K (.bool (p x)) []->yZ L en h [enc x] K
theorem iO {d g:Nat}{v:Val}(h1:v.one=true)(h2:v.cells=[v]):oB d g 1 v=some {v:= .ptr ⟨0,d,g⟩ 0,ws:=[.ent ⟨0,d,g⟩ (some (.box [v] false))],bump:=true}:=by
 simp[oB,h1,h2]
end
def idxOf {α:Type}(p:α->Bool):List α->Nat->Int
 |[],_=> -1
 |x::l,k=>if p x then(k:Int)else idxOf p l (k+1)
theorem mD {α:Type}(p:α->Bool): ∀(l:List α) (k:Nat),decide (0<=idxOf p l k)=l.any p
 |[],k=>by simp[idxOf]
 |x::l,k=>by
  simp only[idxOf,bZs];split
  ·rename_i h;simp[h]
  ·rename_i h;rw[mD p l (k+1)];simp[h]
section
variable {en :En}{d g:Nat}{get:Opd->Val}
def bD5 (d g:Nat)(x:Val):Option Res:=match x with
  | .str s=>some {v:= .it ⟨0,d,g⟩,ws:=[.ent ⟨0,d,g⟩ (some (.iter s 0))],bump:=true}
  |_=>none
@[go_sem] theorem bOj {x:Opd}:cT d g en get (.rng x)=bD5 d g (get x):=(rfl)
@[go_sem] theorem bOk {s:ByteArray}:bD5 d g (.str s)=some {v:= .it ⟨0,d,g⟩,ws:=[.ent ⟨0,d,g⟩ (some (.iter s 0))],bump:=true}:=(rfl)
def bD6 (en:En)(x:Val):Option Res:=match x with
  | .it k=>match en k with
   |some (.iter s pos)=>
    if pos<s.size then some {v:= .tup [.bool true,.int .i64 pos,.int .i32 (Utf8.decode s pos).1],ws:=[.ent k (some (.iter s (pos+(Utf8.decode s pos).2)))],rs:=[.val k,.flag k]}
    else some {v:= .tup [.bool false],rs:=[.val k]}
   |_=>none
  |_=>none
@[go_sem] theorem bOl {x:Opd}:cT d g en get (.nxt x)=bD6 en (get x):=(rfl)
@[go_sem] theorem bQb {k:Key}:bD6 en (.it k)=(match en k with
   |some (.iter s pos)=>
    if pos<s.size then some {v:= .tup [.bool true,.int .i64 pos,.int .i32 (Utf8.decode s pos).1],ws:=[.ent k (some (.iter s (pos+(Utf8.decode s pos).2)))],rs:=[.val k,.flag k]}
    else some {v:= .tup [.bool false],rs:=[.val k]}
   |_=>none):=(rfl)
end
section
variable {en :En}{d g:Nat}{get:Opd->Val}
def bD7 (t:EqT)(en:En)(m k x:Val):Option Res:=match m with
  | .mp key=>match en key with
   |some (.map ks vs false)=>
    if qU t k&&x.flat1 then
     match findKey t k ks with
     |some (some i)=>some {v:= .tup [],ws:=[.ent key (some (.map (ks.set i k) (vs.set i x) false))],rs:=[.val key,.flag key]}
     |some none=>some {v:= .tup [],ws:=[.ent key (some (.map (ks++[k]) (vs++[x]) false))],rs:=[.val key,.flag key]}
     |none=>none
    else none
   |_=>none
  |_=>none
@[go_sem] theorem bI3 {t:EqT}{m k x:Opd}:cT d g en get (.mput t m k x)=bD7 t en (get m) (get k) (get x):=(rfl)
@[go_sem] theorem bQc {t:EqT}{key:Key}{k x:Val}:bD7 t en (.mp key) k x=(match en key with
   |some (.map ks vs false)=>
    if(qU t k&&x.flat1)=true then
     (match findKey t k ks with
     |some (some i)=>some {v:= .tup [],ws:=[.ent key (some (.map (ks.set i k) (vs.set i x) false))],rs:=[.val key,.flag key]}
     |some none=>some {v:= .tup [],ws:=[.ent key (some (.map (ks++[k]) (vs++[x]) false))],rs:=[.val key,.flag key]}
     |none=>none)
    else none
   |_=>none):=(rfl)
@[go_sem] theorem bHe {s:ByteArray}:qU .str (.str s)=true:=(rfl)
@[go_sem] theorem bHf {k:IntKind}{n:Int}:qU .num (.int k n)=true:=(rfl)
@[go_sem] theorem bFs {b:Bool}:Val.flat1 (.bool b)=true:=(rfl)
@[go_sem] theorem bHg {k:IntKind}{n:Int}:Val.flat1 (.int k n)=true:=(rfl)
@[go_sem] theorem bQd {k:Key}:aFy .map en (.mp k)=(match en k with
    |some (.map ks _ _)=>some {v:= .int .i64 ks.length,rs:=[.val k]}
    |_=>none):=(rfl)
def uJ (t:EqT)(z:Val)(ok:Bool)(k:Val)(ks vs:List Val):Option Val:=match findKey t k ks with
    |some (some i)=>some (if ok then .tup [vs.getD i .dead,.bool true]else vs.getD i .dead)
    |some none=>some (if ok then .tup [z,.bool false]else z)
    |none=>none
def aMt (t:EqT)(z:Val)(ok:Bool)(en:En)(m k:Val):Option Res:=
  if qU t k then
   match m with
   | .mp key=>match en key with
    |some (.map ks vs _)=>(uJ t z ok k ks vs).map fun v=>{v,rs:=[.val key]}
    |_=>none
   | .fm ks vs=>(uJ t z ok k ks vs).map fun v=>{v}
   | .nilm=>(uJ t z ok k [] []).map fun v=>{v}
   |_=>none
  else none
@[go_sem] theorem bI4 {t:EqT}{z:Val}{ok:Bool}{m k:Opd}:cT d g en get (.mget t z ok m k)=aMt t z ok en (get m) (get k):=(rfl)
@[go_sem] theorem bQe {t:EqT}{z:Val}{ok:Bool}{key:Key}{k:Val}(h:qU t k=true):aMt t z ok en (.mp key) k=(match en key with
    |some (.map ks vs _)=>(uJ t z ok k ks vs).map fun v=>{v,rs:=[.val key]}
    |_=>none):=by simp[aMt,h]
@[go_sem] theorem bQf {t:EqT}{z:Val}{ok:Bool}{k:Val}{ks vs:List Val}(h:qU t k=true):aMt t z ok en (.fm ks vs) k=(uJ t z ok k ks vs).map fun v=>{v}:=by simp[aMt,h]
end
theorem aA8 {L:cV}{g:Opd}{ps:List Nat}{a b:cD}{fr:Nat->Val}{en:En}{cnt:Nat->Nat->Nat}{Q:Ex->St->Prop}{f:Nat}{x y:List Val}(h:St.get fr g= .fn f x y)
  (H: ∀fr0 k,fr0=fr->k=pJ cnt->WIn L (.fn f x y) [.yld k] (en.set k (some (.loop fr0 ps a b .ready))) (aQ cnt 1 0 (cnt 1 0+1)) fun _ en' cnt'=>
   match en' k with
   |some (.loop _ _ _ _ .ready)=>Q .normal ⟨fr,en'.set k none,cnt'⟩
   |some (.loop _ _ _ _ (.done e))=>Q e ⟨fr,en'.set k none,cnt'⟩
   |_=>False):Wp L (.rangeF g ps a b) ⟨fr,en,cnt⟩ Q:=by
 simp only[Wp,h];exact H fr _ rfl rfl
@[go_sem] theorem bFt {fr:Nat->Val}{vs:List Val}:vZ fr [] vs=fr:=(rfl)
@[go_sem] theorem bD8 {fr:Nat->Val}{p:Nat}{ps:List Nat}{v:Val}{vs:List Val}:vZ fr (p::ps) (v::vs)=vZ (kB fr p v) ps vs:=(rfl)
theorem cG.shape {en:En}{v:Val}{size:Nat}{xs:List Val}{D:List Nat}(h:cG en v size xs D):v.one=true/\ v.cells=[v]:=by
 rcases h with⟨rfl,_⟩|⟨t,g,f,rfl,_⟩<;>exact⟨rfl,rfl⟩
attribute [go_sem] aZa aZb aV7 aV8 aV9 aWa aWb Int.cast_ofNat_Int beq_self_eq_true
attribute [go_sem] Nat.reduceEqDiff Nat.reduceBEq Nat.reduceMul Nat.reduceLeDiff Nat.reduceAdd Nat.reduceSub Nat.reduceLT Int.reduceLT Int.reduceLE Int.reduceToNat Int.reduceAdd Int.reduceNeg Int.reduceEq
end Go.Abs
namespace Go.Abs
def mL (P:Program)(F:TypeId->List Val->Prop):List Field->List Val->Prop
 |[],vs=>vs=[]
 |f::fs,vs=> ∃a b,vs=a++b/\ a.length=P.cellsOf f.type/\ F f.type a/\ mL P F fs b
def qI (P:Program)(t:TypeId)(vs:List Val):Val:=if cM P t then .agg vs else vs.getD 0 .dead
def iG (P:Program):Nat->TypeId->List Val->Prop
 |0,_,_=>False
 |n+1,t,vs=>
  match P.underlying t with
  |some .bool=> ∃b,vs=[.bool b]
  |some (.int k)=> ∃i,vs=[.int k i]/\ (Lit.int k i).wf=true
  |some .string=> ∃s:ByteArray,vs=[.str s]/\ s.size<=maxLen
  |some (.slice e)=> ∃xs:List (List Val),vs=[.fz (xs.map (qI P e))]/\ xs.length<=maxLen/\ ∀x∈xs,iG P n e x
  |some (.struct fs)=>mL P (iG P n) fs.toList vs
  |_=>True
def aMu (P:Program)(S:TypeId->Bool):Bool:=(List.range P.types.size).all fun t=>!S t||match P.underlying t with
 |some (.slice e)=>P.cellsOf e !=0&&S e
 |some (.struct fs)=>fs.toList.all fun f=>S f.type
 |some (.array ..)=>false
 |_=>true
def aD1 (w:World):Nat->Nat->Prop:=fun b _=>b<w.heap.size
section
variable {H :Type}{enc:TypeId×Value->H}{P:Program}{w:World}{sp:Nat->Bool}
def kE (w:World)(vs:List Val)(cs:List Value):Prop:=
 vs.length=cs.length/\ ∀i,i<cs.length->eZ (cs.getD i undef)=true/\ VR (aD1 w) Gh.none w (vs.getD i .dead) (cs.getD i undef)
theorem kE.nil :kE w [] []:=⟨rfl,fun i hi=>by simp at hi⟩
theorem kE.one {v:Val}{c:Value}(h:VR (aD1 w) Gh.none w v c)(ho:eZ c=true):kE w [v] [c]:=by
 refine⟨rfl,fun i hi=>?_⟩
 have:i=0:=by simp at hi;omega
 subst this;exact⟨ho,h⟩
theorem kE.append {a b:List Val}{c d:List Value}(h:kE w a c)(k:kE w b d):kE w (a++b) (c++d):=by
 refine⟨by simp[h.1,k.1],fun i hi=>?_⟩
 simp only[bXm,bZ1];rw[h.1];split
 ·rename_i hlt;have:=h.2 i hlt;simpa[bXm]using this
 ·have:=k.2 (i-c.length) (by simp at hi;omega);simpa[bXm]using this
theorem not_agg {v:Val}{c:Value}(h:VR (aD1 w) Gh.none w v c)(ho:eZ c=true):v.cells=[v]/\ v.one=true:=by
 cases h<;>first|exact⟨rfl,rfl⟩|(simp[eZ]at ho)
theorem aD2 (n:Nat)(F:TypeId->List Val->Prop): ∀(fs:List Field) (cs:List Value),cs.length=(fs.map fun f=>P.cellsOf f.type).sum->
  (∀(j:Nat) f,fs[j]?=some f-> ∃vs,F f.type vs/\ kE w vs ((cs.drop ((fs.take j).map fun f=>P.cellsOf f.type).sum).take (P.cellsOf f.type)))->
  ∃vs,mL P F fs vs/\ kE w vs cs
 |[],cs,hl,_=>by
  have:cs=[]:=by simpa using hl
  subst this;exact⟨[],rfl,kE.nil⟩
 |f::fs,cs,hl,h=>by
  simp only[bYa,List.sum_cons]at hl;obtain⟨a,ha,hra⟩:=h 0 f rfl;simp only[bY9,bXv,List.sum_nil,List.drop_zero]at hra;obtain⟨b,hb,hrb⟩:=aD2 n F fs (cs.drop (P.cellsOf f.type)) (by simp;omega) (fun j g hj=>by
   obtain⟨vs,h1,h2⟩:=h (j+1) g (by simpa using hj)
   refine⟨vs,h1,?_⟩
   simpa[List.drop_drop]using h2)
  refine⟨a++b,⟨a,b,rfl,?_,ha,hb⟩,?_⟩
  ·rw[hra.1];simp;omega
  ·have:=kE.append hra hrb
   rwa [List.take_append_drop]at this
theorem aMv (b o i:Nat):(⟨b,o,none⟩:Addr).add i=⟨b,o+i,none⟩:=by
 unfold Addr.add;split
 ·rename_i h;subst h;rfl
 ·rfl
theorem qP {a:Addr}{n:Nat}{cs:List Value}(h:w.cells? 0 a n=some cs):cs.length=n/\ ∀j,j<n->w.cell? (a.add j)=some (cs.getD j undef):=by
 unfold World.cells? at h;rw[if_pos (bXl _)]at h;have h1:=mapM_some_length h
 refine⟨by simpa using h1,fun j hj=>?_⟩
 have h2:=mapM_some_get h j j (by simp[hj])
 rw[h2];have:j<cs.length:=by rw[h1];simpa using hj
 simp[bXm,this]
theorem aIt (hl:laidOutB P=true)(S:TypeId->Bool)(hz:aMu P S=true): ∀(fuel:Nat) (t:TypeId) (cs:List Value) (x:DataW H×List MemPlace),t<P.types.size->S t=true->DataW.trod enc P w 0 sp true fuel t cs=some x->
  ∃vs,iG P fuel t vs/\ kE w vs cs:=by
 intro fuel
 induction fuel with
 |zero=>intro t cs x _ _ h;simp[DataW.trod]at h
 |succ n ih=>
  intro t cs x ht hs h;have hz0:=bXo.1 hz t (bYz.2 ht);simp only[hs,bXp,bYy]at hz0;cases hu:P.underlying t with
  |none=>simp[DataW.trod,hu]at h
  |some u=>
   have dead: ∀c:Value,cs=[c]->eZ c=true-> ∃vs:List Val,True/\ kE w vs cs:=by
    rintro c rfl ho;exact⟨[.dead],trivial,kE.one (.dead c ho) ho⟩
   have gen:(∃c,cs=[c]/\ eZ c=true)->(match u with| .bool| .int _| .string| .slice _| .struct _| .array .. =>False|_=>True)-> ∃vs,iG P (n+1) t vs/\ kE w vs cs:=by
    rintro⟨c,rfl,ho⟩ hk
    refine⟨[.dead],?_,kE.one (.dead c ho) ho⟩
    simp only[iG,hu];cases u<;>first|trivial|exact hk.elim
   cases u with
   |bool=>
    simp only[DataW.trod,hu]at h
    split at h<;>first|(cases h;done)|skip
    all_goals first|(rename_i h1;cases h1;done)|skip
    rename_i b h1;exact⟨[.bool b],by simp only[iG,hu];exact⟨b,rfl⟩,kE.one (.bool b) rfl⟩
   |int k=>
    simp only[DataW.trod,hu]at h
    split at h<;>first|(cases h;done)|skip
    all_goals first|(rename_i h1;cases h1;done)|skip
    rename_i k0 k' i h1;cases h1
    split at h
    ·rename_i hk;obtain⟨rfl,hw⟩:=hk;exact⟨[.int _ i],by simp only[iG,hu];exact⟨i,rfl,hw⟩,kE.one (.int _ i) rfl⟩
    ·cases h
   |string=>
    simp only[DataW.trod,hu]at h
    split at h<;>first|(cases h;done)|skip
    all_goals first|(rename_i h1;cases h1;done)|skip
    rename_i s h1
    split at h
    ·rename_i hs;exact⟨[.str s],by simp only[iG,hu];exact⟨s,rfl,hs⟩,kE.one (.str s) rfl⟩
    ·cases h
   |slice e=>
    simp only[hu,bXb]at hz0;have he:P.cellsOf e≠0:=by simpa using hz0.1
    have hSe:S e=true:=hz0.2;have hke:e<P.types.size:=kid_slice hl ht hu;rcases DataW.trod_slice hu h with⟨rfl,rfl⟩|⟨a,len,cap,elems,rest,m,hm,rfl,rfl,_,hlc,hcm,hel,hall⟩
    ·exact⟨[.fz []],by simp only[iG,hu];exact⟨[],rfl,bXl _,by simp⟩,kE.one (.fz0 _ _) rfl⟩
    ·cases hm
     replace hall:=hall.1
     have each: ∀i,i<len-> ∃csi vsi,w.cells? 0 (a.add (i*P.cellsOf e)) (P.cellsOf e)=some csi/\ iG P n e vsi/\ kE w vsi csi:=by
      intro i hi;have h1:=hall i hi;have hlt:i<elems.length:=by omega
      rw[bYs hlt]at h1;simp only[bXr]at h1;obtain⟨csi,h2,h3⟩:=h1;obtain⟨vsi,h4,h5⟩:=ih e csi _ hke hSe h3;exact⟨csi,vsi,h2,h4,h5⟩
     let C (i:Nat):List Value:=if hi:i<len then(each i hi).choose else []
     let V (i:Nat):List Val:=if hi:i<len then(each i hi).choose_spec.choose else []
     have hCV: ∀i,i<len->w.cells? 0 (a.add (i*P.cellsOf e)) (P.cellsOf e)=some (C i)/\ iG P n e (V i)/\ kE w (V i) (C i):=by
      intro i hi;have:=(each i hi).choose_spec.choose_spec;simp only[C,V,dif_pos hi];exact this
     have hpk: ∀i,i<len->(qI P e (V i)).cells=V i:=by
      intro i hi;obtain⟨h1,h2,h3⟩:=hCV i hi;unfold qI;split
      ·rfl
      ·rename_i hagg;have hlen:(V i).length=1:=by
        rw[h3.1,(qP h1).1];have hr:=rowFine_of hl hke;unfold cM at hagg;have hvar:isVar P e=true:=by
         have:=rowFine_of hl ht;simp only[rowFine,hu]at this;have hv:isVar P t=true:=by simp[isVar,ht,hu,kindOk]
         simp only[hv,bXp,bYy,bXb]at this;exact this.1
        simp only[rowFine,hvar,bXp,bYy]at hr
        split at hr<;>first|(rename_i h';rw[h']at hagg;simp at hagg;done)|(simp only[bXb,beq_iff_eq]at hr;exact hr.2)|(simpa using hr)
       obtain⟨v,hv⟩:=List.length_eq_one_iff.1 hlen;have h4:=h3.2 0 (by rw[<-h3.1,hlen];omega)
       rw[hv]at h4⊢;simp only[bZ8]at h4⊢;exact(not_agg h4.2 h4.1).1
     refine⟨[.fz ((List.range len).map fun i=>qI P e (V i))],?_,?_⟩
     ·simp only[iG,hu]
      refine⟨(List.range len).map V,by simp[Function.comp_def],by simp;omega,fun x hx=>?_⟩
      obtain⟨i,hi,rfl⟩:=bXy.1 hx;exact(hCV i (by simpa using hi)).2.1
     ·refine kE.one ?_ rfl
      by_cases h0:len=0
      ·subst h0;exact .fz0 _ _
      ·have hsp:a.spot=none:=by
        have:=(qP (hCV 0 (by omega)).1).2 0 (by omega)
        unfold World.cell? at this
        split at this
        ·rename_i hh
         split at this
         ·cases this
         ·rename_i hs;simpa[Addr.add]using hs
        ·cases this
       obtain⟨blk,off,spt⟩:=a
       simp only at hsp
       subst hsp;have hg: ∀i,i<len->((List.range len).map fun i=>qI P e (V i)).getD i .dead=qI P e (V i):=by
        intro i hi;simp[bXm,hi]
       have hcell: ∀i j,i<len->j<P.cellsOf e->w.cell? ⟨blk,off+i*P.cellsOf e+j,none⟩=some ((C i).getD j undef):=by
        intro i j hi hj;have:=(qP (hCV i hi).1).2 j hj;rw[aMv,aMv]at this;exact this
       have:=VR.fz (T:=aD1 w) (G:=Gh.none) (w:=w) ((List.range len).map fun i=>qI P e (V i)) blk off (P.cellsOf e) cap (fun i j=>(C i).getD j undef)
        (by simpa using hlc) (fun i hi=>by
         have hi':i<len:=by simpa using hi
         rw[hg i hi',hpk i hi',(hCV i hi').2.2.1,(qP (hCV i hi').1).1])
        (fun i j hi hj=>hcell i j (by simpa using hi) hj)
        (fun i j hi hj=>by
         have:=hcell i j (by simpa using hi) hj
         unfold World.cell? at this
         split at this
         ·rename_i hh;exact(bY8.1 hh).1
         ·cases this)
        (fun i j hi hj=>by
         have hi':i<len:=by simpa using hi
         exact((hCV i hi').2.2.2 j (by rw[(qP (hCV i hi').1).1];exact hj)).1)
        (fun i j hi hj=>by
         have hi':i<len:=by simpa using hi
         rw[hg i hi',hpk i hi'];exact((hCV i hi').2.2.2 j (by rw[(qP (hCV i hi').1).1];exact hj)).2)
       simpa using this
   |struct fs=>
    obtain⟨xs,m,hm,_,hlen,hxl,hall⟩:=DataW.trod_struct hu h;cases hm;obtain⟨k1,k2,k3⟩:=kid_struct hl ht hu;obtain⟨vs,h1,h2⟩:=aD2 (P:=P) (w:=w) n (iG P n) fs.toList cs (by rw[hlen,k2]) (fun j f hj=>by
     have h3:=hall j f (by simpa using hj)
     have hj':j<xs.length:=by rw[hxl];exact(by simpa using(List.getElem?_eq_some_iff.1 hj).1)
     rw[bYs hj']at h3;rw[k3 j f hj]at h3;exact ih _ _ _ (k1 f (List.mem_of_getElem? hj)) (by simp only[hu]at hz0;exact bXo.1 hz0 f (List.mem_of_getElem? hj)) h3)
    exact⟨vs,by simp only[iG,hu];exact h1,h2⟩
   |array k e=>
    simp[hu]at hz0
   |_=>
    refine gen ?_ trivial
    simp only[DataW.trod,hu]at h
    first
    |(cases h;done)
    |(split at h<;>first|(cases h;done)|exact⟨_,rfl,rfl⟩|(rename_i h1;cases h1;done)|(rename_i h1 _;cases h1;done))
end
end Go.Abs
namespace Go.Abs
def lE (L:cV):List bH->St->(St->List Res->Prop)->Prop
 |[],st,Q=>Q st []
 |o::l,st,Q=>mX L st o fun st' r=>lE L l st' fun s rs=>Q s ({r with v:= .dead}::rs)
theorem aIu {L:cV}(l:List bH): ∀{st:St} {Q R:St->List Res->Prop},aAa L l st Q->(∀s rs,Q s rs->R s rs)->aAa L l st R:=by
 induction l with
 |nil=>intro st Q R h k;exact k _ _ h
 |cons o l ih=>intro st Q R h k;exact lD h fun s r hs=>ih hs fun s rs hq=>k _ _ hq
def wM :List Res->List Res->Prop
 |[],[]=>True
 |a::l,b::m=>(a={b with v:= .dead})/\ wM l m
 |_,_=>False
theorem aMw {L:cV}: ∀(l:List bH) {st:St} {Q:St->List Res->Prop},lE L l st Q->aAa L l st fun st' rs=> ∃fs,wM fs rs/\ Q st' fs
 |[],st,Q,h=>⟨[],trivial,h⟩
 |o::l,st,Q,h=>by
  refine lD h fun s r h2=>?_
  refine aIu l (aMw l h2) fun s rs ⟨fs,k1,k2⟩=>⟨{r with v:= .dead}::fs,(show wM ({r with v:= .dead}::fs) (r::rs)from⟨rfl,k1⟩),k2⟩
theorem aF2 : ∀{fs rs:List Res},wM fs rs-> ∀(i:Nat),(fs[i]?=none/\ rs[i]?=none) \/ ∃b,fs[i]?=some {b with v:= .dead}/\ rs[i]?=some b
 |[],[],_,i=> .inl ⟨rfl,rfl⟩
 |a::l,b::m,h,0=> .inr ⟨b,by rw[<-h.1];rfl,rfl⟩
 |a::l,b::m,h,i+1=>by simpa using aF2 h.2 i
 |[],_::_,h,_=>h.elim
 |_::_,[],h,_=>h.elim
theorem aPl {fs rs:List Res}(h:wM fs rs)(pairs:List (Nat×Nat))(hp:nX fs pairs=true):nX rs pairs=true:=by
 unfold nX at hp⊢
 refine bXo.2 fun p hm=>?_
 have:=bXo.1 hp p hm;rcases aF2 h p.1 with⟨a1,_⟩|⟨b,a1,a2⟩
 ·rw[a1]at this;cases this
 rcases aF2 h p.2 with⟨c1,_⟩|⟨d,c1,c2⟩
 ·rw[a1,c1]at this;cases this
 rw[a1,c1]at this;rw[a2,c2];exact this
theorem aO {L:cV}{l:List bH}{pairs:List (Nat×Nat)}{st:St}{R:Ex->St->Prop}
  (h:lE L l st fun st' rs=>nX rs pairs=true/\ R .normal st'):Wp L (.draw l pairs) st R:=by
 simp only[Wp];have hr:=aMw l h;split
 ·have: ∀(l:List bH) {st:St} {Q:St->List Res->Prop} {R:St->Prop},aAa L l st Q->(∀s rs,Q s rs->R s)->jC L l st R:=by
   intro l
   induction l with
   |nil=>intro st Q R h k;exact k _ _ h
   |cons o l ih=>intro st Q R h k;exact lD h fun s r hs=>ih hs fun s rs hq=>k _ _ hq
  exact this l hr fun s rs ⟨_,_,h⟩=>h.2
 ·exact aIu l hr fun s rs ⟨fs,h1,h2,h3⟩=>⟨aPl h1 _ h2,h3⟩
section
variable {L :cV}{fr:Nat->Val}{en:En}{cnt:Nat->Nat->Nat}{Q:St->List Res->Prop}{l:List bH}{d:Nat}{dst:Option Nat}
@[congr] theorem bD9 {st:St}:lE L l st Q=lE L l st Q:=(rfl)
@[go_sem] theorem bQg (st:St):lE L [] st Q=Q st []:=(rfl)
def vJ (L:cV)(l:List bH)(dst:Option Nat)(fr:Nat->Val)(en:En)(cnt:Nat->Nat->Nat)(Q:St->List Res->Prop):Option Res->Prop
 |some r=>(r.bump&&dst.isNone)=false/\ lE L l ⟨fT fr dst r.v,W.applyAll en r.ws,if r.bump then aQ cnt 0 (dst.getD 0) (cnt 0 (dst.getD 0)+1)else cnt⟩ fun s rs=>Q s ({r with v:= .dead}::rs)
 |none=>False
@[congr] theorem bEa {r r':Option Res}(h:r=r'):vJ L l dst fr en cnt Q r=vJ L l dst fr en cnt Q r':=by rw[h]
@[go_sem] theorem aPm {v:Val}{ws:List W}{rs:List R}{u:Key->Bool}:
  vJ L l dst fr en cnt Q (some ⟨v,ws,rs,false,none,u⟩)=lE L l ⟨fT fr dst v,W.applyAll en ws,cnt⟩ fun s fs=>Q s ({v:= .dead,ws:=ws,rs:=rs,unch:=u}::fs):=by simp[vJ]
@[go_sem] theorem aF3 {v:Val}{ws:List W}{rs:List R}{u:Key->Bool}:
  vJ L l (some d) fr en cnt Q (some ⟨v,ws,rs,true,none,u⟩)=lE L l ⟨kB fr d v,W.applyAll en ws,aQ cnt 0 d (cnt 0 d+1)⟩ fun s fs=>Q s ({v:= .dead,ws:=ws,rs:=rs,bump:=true,unch:=u}::fs):=by simp[vJ,fT]
@[go_sem] theorem bFu :vJ L l dst fr en cnt Q none=False:=(rfl)
theorem aPn {op:LOp}(h:op.plain=true):lE L (⟨dst,op,none⟩::l) ⟨fr,en,cnt⟩ Q=vJ L l dst fr en cnt Q (cT (dst.getD 0) (cnt 0 (dst.getD 0)) en (St.get fr) op):=by
 cases op<;>first|(simp[LOp.plain]at h;done)|rfl|(simp only[lE,mX,wanted,WOp,vJ];rfl)
@[go_sem] theorem bOm {op:LOp}(h:op.plain=true):lE L (⟨some d,op,none⟩::l) ⟨fr,en,cnt⟩ Q=vJ L l (some d) fr en cnt Q (cT d (cnt 0 d) en (St.get fr) op):=aPn h
@[go_sem] theorem bOn {op:LOp}(h:op.plain=true):lE L (⟨none,op,none⟩::l) ⟨fr,en,cnt⟩ Q=vJ L l none fr en cnt Q (cT 0 (cnt 0 0) en (St.get fr) op):=aPn h
@[go_sem] theorem bOo {f:Opd}{args:List Opd}:lE L (⟨dst,.call f args,none⟩::l) ⟨fr,en,cnt⟩ Q=
  yZ L en (St.get fr f) (args.map (St.get fr)) fun r ks=>vJ L l dst fr en cnt Q (some (fD 0 (dst.getD 0) (cnt 0 (dst.getD 0)) r ks)):=by
 simp only[lE,mX,wanted,WOp,yZ,aDz,aMr];cases St.get fr f<;>first|rfl|skip
@[go_sem] theorem bI5 {f:Opd}{args:List Opd}:lE L (⟨dst,.icall f args,none⟩::l) ⟨fr,en,cnt⟩ Q=
  WIn L (St.get fr f) (args.map (St.get fr)) en cnt fun v en' cnt'=>lE L l ⟨fT fr dst v,en',cnt'⟩ fun s fs=>Q s ({v:= .dead,mem:=some (en',cnt'),unch:=fun k=>aE2 (en k) (en' k)}::fs):=(rfl)
theorem aWc {t:Nat}{b:Bool}{op:LOp}:lE L (⟨dst,op,some (t,b)⟩::l) ⟨fr,en,cnt⟩ Q=
  nD (fr t) b (lE L (⟨dst,op,none⟩::l) ⟨fr,en,cnt⟩ Q) (lE L l ⟨fT fr dst (.tup []),en,cnt⟩ fun s fs=>Q s ({v:= .dead}::fs)) .mk:=by
 simp only[lE,mX,wanted,nD,oA]
 split<;>rename_i h
 ·split at h
  ·rename_i b' hb;simp only[bXa]at h;simp only[hb,h,if_true]
  ·cases h
  ·cases h
 ·split at h
  ·rename_i b' hb;simp only[bXa]at h;simp only[hb,h,bXc,if_false,true_and]
  ·rename_i hb;simp only[hb,true_and]
  ·cases h
 ·split at h
  ·cases h
  ·cases h
  ·rename_i h1 h2;split
   ·rename_i b' hb;exact absurd hb (h1 _)
   ·rename_i hb;exact absurd hb h2
   ·rfl
theorem nM {x y:Opd}{size:Nat}{xs ys:List Val}{rs:List R}{D:List Nat}(hx:cG en (St.get fr x) size xs D)(hy:jP en (St.get fr y)=some (ys,rs))(h1:cZ size ys=true)(hrs:rs=[])
  (hl:xs.length+ys.length<=16777216)
  (k: ∀v en' cnt' r,cG en' v size (xs++ys) (d::D)->(∀n t g,n≠0 \/(t≠d/\ t∉D)->en' ⟨n,t,g⟩=en ⟨n,t,g⟩)->(∀n t,t≠d->cnt' n t=cnt n t)->
   (∀w∈(r:Res).ws,w.key.n=0/\ (w.key.t=d \/w.key.t∈D)/\ ∃e,w= .ent w.key e)->(∀ρ∈r.rs,ρ.key.n=0/\ ρ.key.t∈D)->r.mem=none->lE L l ⟨kB fr d v,en',cnt'⟩ fun s fs=>Q s ({r with v:= .dead}::fs)):
  lE L (⟨some d,.append size x y,none⟩::l) ⟨fr,en,cnt⟩ Q:=by
 subst hrs;rw[aPn (by rfl)]
 simp only[bX3];rcases hx with⟨hv,rfl⟩|⟨t,g,f,hv,he,ht⟩
 ·simp only[cT,eval,hy,h1,if_true,hv]
  by_cases hys:ys.isEmpty=true
  ·have:ys=[]:=by simpa using hys
   subst this;simp only[List.isEmpty_nil,if_true,aPm,iN];exact k _ _ _ {v:= .dead} (.inl ⟨rfl,rfl⟩) (fun _ _ _ _=>rfl) (fun _ _ _=>rfl) (by simp) (by simp) rfl
  ·rw[if_neg hys,if_pos ⟨by simpa using hl,rfl⟩]
   simp only[aF3,mY,iN,tH]
   refine k _ _ _ {v:= .dead,ws:=[.ent ⟨0,d,cnt 0 d⟩ _],rs:=[],bump:=true} (.inr ⟨d,cnt 0 d,false,by simp,by simp[En.set],by simp⟩) (fun n t g h=>eE (fun he=>?_)) (fun n t h=>by simp[aQ,h]) (by simp[W.key]) (by simp) rfl
   injection he with h3 h4 h5
   rcases h with h|⟨h,_⟩
   ·exact h h3
   ·exact h h4
 ·simp only[cT,eval,hy,h1,if_true,hv,he];rw[if_pos ⟨.inl (by simp),hl,trivial⟩]
  simp only[aF3,mY,iN,tH]
  refine k _ _ _ {v:= .dead,ws:=[.ent ⟨0,t,g⟩ none,.ent ⟨0,d,cnt 0 d⟩ _],rs:=[.val ⟨0,t,g⟩,.flag ⟨0,t,g⟩],bump:=true} (.inr ⟨d,cnt 0 d,f,by simp,?_,by simp⟩) (fun n t' g' h=>?_) (fun n t h=>by simp[aQ,h]) (by simp[W.key,ht]) (by simp[R.key,ht]) rfl
  ·simp[En.set]
  ·have e1:(⟨n,t',g'⟩:Key)≠⟨0,d,cnt 0 d⟩:=by
    intro he;injection he with h3 h4 h5;rcases h with h|⟨h,_⟩
    ·exact h h3
    ·exact h h4
   have e2:(⟨n,t',g'⟩:Key)≠⟨0,t,g⟩:=by
    intro he;injection he with h3 h4 h5;subst h4;rcases h with h|⟨_,h⟩
    ·exact h h3
    ·exact h ht
   rw[eE e1,eE e2]
end
theorem aF4 {k:Key}{e:Option Ent}{ρ:R}:gE (.ent k e) ρ=decide (k≠ρ.key):=by cases ρ<;>rfl
theorem aZc {k k':Key}{o:Nat}{vs:List Val}:gE (.cells k o vs) (.val k')=decide (k≠k'):=rfl
theorem aZd {k k':Key}{o:Nat}{vs:List Val}:gE (.cells k o vs) (.flag k')=true:=rfl
theorem aZe {k k':Key}{o o' n:Nat}{vs:List Val}:gE (.cells k o vs) (.cells k' o' n)=(decide (k≠k')||decide (o+vs.length<=o')||decide (o'+n<=o)):=rfl
theorem aZf {k:Key}{e:Option Ent}{w:W}:kS (.ent k e) w=decide (k≠w.key):=by cases w<;>rfl
theorem aZg {k k':Key}{o:Nat}{vs:List Val}{e:Option Ent}:kS (.cells k o vs) (.ent k' e)=decide (k≠k'):=rfl
theorem aZh {k k':Key}{o o':Nat}{vs vs':List Val}:kS (.cells k o vs) (.cells k' o' vs')=(decide (k≠k')||decide (o+vs.length<=o')||decide (o'+vs'.length<=o)):=rfl
theorem bI6 {n t g n' t' g':Nat}(h:t≠t'):((⟨n,t,g⟩:Key)≠⟨n',t',g'⟩)=True:=by simp[h]
attribute [go_sem] nX sZ aF4 aZc aZd aZe aZf aZg aZh bI6 W.key R.key bZj aWc
end Go.Abs
namespace Go.Abs
section
variable {P :Program}{n:Nat}{t:TypeId}{vs:List Val}
theorem gS {k:IntKind}(hu:P.underlying t=some (.int k))(h:iG P (n+1) t vs): ∃i,vs=[.int k i]:=by
 simp only[iG,hu]at h;obtain⟨i,h,_⟩:=h;exact⟨i,h⟩
theorem aMx (hu:P.underlying t=some .string)(h:iG P (n+1) t vs): ∃s:ByteArray,vs=[.str s]/\ Few s.size:=by
 simp only[iG,hu]at h;obtain⟨s,h,k⟩:=h;exact⟨s,h,by unfold Few;unfold maxLen at k;omega⟩
theorem aRm {α:Type}(enc:α->Val)(Q:α->Prop)(f:List Val->Val): ∀(xs:List (List Val)),(∀x∈xs,∃a,f x=enc a/\ Q a)-> ∃l:List α,xs.map f=l.map enc/\ l.length=xs.length/\ ∀a∈l,Q a
 |[],_=>⟨[],rfl,rfl,by simp⟩
 |x::xs,h=>by
  obtain⟨a,ha,hq⟩:=h x (by simp)
  obtain⟨l,h1,h2,h3⟩:=aRm enc Q f xs fun y hy=>h y (by simp[hy])
  exact⟨a::l,by simp[ha,h1],by simp[h2],fun b hb=>by rcases bYe.1 hb with rfl|hb;exact hq;exact h3 b hb⟩
theorem jS {α:Type}(enc:α->Val)(Q:α->Prop){e:TypeId}(hu:P.underlying t=some (.slice e))(hel: ∀x,iG P n e x-> ∃a,qI P e x=enc a/\ Q a)(h:iG P (n+1) t vs):
  ∃l:List α,vs=[.fz (l.map enc)]/\ Few l.length/\ ∀a∈l,Q a:=by
 simp only[iG,hu]at h;obtain⟨xs,h,hl,hx⟩:=h;obtain⟨l,h1,h2,h3⟩:=aRm enc Q (qI P e) xs fun x hm=>hel x (hx x hm)
 exact⟨l,by rw[h,h1],by rw[h2];unfold Few;unfold maxLen at hl;omega,h3⟩
theorem gP {fs:Array Field}(hu:P.underlying t=some (.struct fs))(h:iG P (n+1) t vs):mL P (iG P n) fs.toList vs:=by
 simp only[iG,hu]at h;exact h
theorem aD3 {F F':TypeId->List Val->Prop}(h: ∀t vs,F t vs->F' t vs): ∀(fs:List Field) (vs:List Val),mL P F fs vs->mL P F' fs vs
 |[],vs,k=>k
 |f::fs,vs,⟨a,b,h1,h2,h3,h4⟩=>⟨a,b,h1,h2,h _ _ h3,aD3 h fs b h4⟩
theorem aCx : ∀(n:Nat) (t:TypeId) (vs:List Val),iG P n t vs->iG P (n+1) t vs
 |0,t,vs,h=>by simp[iG]at h
 |n+1,t,vs,h=>by
  rw[iG]at h⊢;split
  ·rename_i hu;rw[hu]at h;exact h
  ·rename_i hu;rw[hu]at h;exact h
  ·rename_i hu;rw[hu]at h;exact h
  ·rename_i hu;rw[hu]at h;obtain⟨xs,h1,h2,h3⟩:=h;exact⟨xs,h1,h2,fun x hx=>aCx n _ _ (h3 x hx)⟩
  ·rename_i hu;rw[hu]at h;exact aD3 (aCx n) _ _ h
  ·trivial
theorem aIv (k:Nat)(h:iG P n t vs):iG P (n+k) t vs:=by
 induction k with
 |zero=>exact h
 |succ k ih=>exact aCx _ _ _ ih
theorem aKh {w:World}{x:Array Value}(h:kE w vs x.toList):VR (aD1 w) Gh.none w (.agg vs) (.agg x):=by
 have e: ∀i,x.getD i undef=x.toList.getD i undef:=by
  intro i;simp[bXt,bXm]
 have hl:vs.length=x.size:=by simpa using h.1
 refine .agg vs x hl.symm (fun i hi=>?_) fun i hi=>?_
 ·rw[e];exact(h.2 i (by rw[bZa];omega)).1
 ·rw[e];exact(h.2 i (by rw[bZa];omega)).2
end
end Go.Abs
namespace Go.Abs
def aKi (P:Program):Nat->List TypeId->List TypeId
 |0,s=>s
 |d+1,s=>if P.grow s==s then s else aKi P d (P.grow s)
theorem aIw {P:Program}{s:List TypeId}(h:P.grow s=s): ∀d,P.grown d s=s
 |0=>rfl
 |d+1=>by rw[Program.grown,h];exact aIw h d
theorem aIx (P:Program): ∀(d:Nat) (s:List TypeId),P.grown d s=aKi P d s
 |0,s=>rfl
 |d+1,s=>by
  rw[aKi]
  by_cases h:(P.grow s==s)=true
  ·rw[if_pos h];exact aIw (eq_of_beq h) _
  ·rw[if_neg h,Program.grown];exact aIx P d _
theorem bFv (P:Program)(t:TypeId):P.book t=aKi P P.types.size [t]:=aIx P _ _
end Go.Abs
