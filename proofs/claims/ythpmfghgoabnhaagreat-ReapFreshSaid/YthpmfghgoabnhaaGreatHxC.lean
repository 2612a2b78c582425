/- The interpreter of the translated code, and its proof: part C. -/
import Derived.Test.YthpmfghgoabnhaaGreatHxA
import Derived.Test.YthpmfghgoabnhaaGreatHxB
import Derived.OrdersIn
import Derived.LoopNIn
import Derived.RangeFuncNested
import Derived.Scope
import Derived.KernelRfl
import Derived.ProofKit
import Derived.OpenShut
set_option linter.all false
open Array renaming getD_eq_getD_getElem? → bXt, getElem?_append → bZ2, getElem?_eq_getElem → bY3, getElem?_eq_some_iff → bY8, getElem?_replicate → cAd, getElem?_setIfInBounds → bZn
open Bool renaming and_eq_true → bXb, false_and → bX6, false_eq_true → bXc, false_or → bYy, not_eq_true' → bYh, or_eq_true → bZv, or_true → bXg, true_and → bX0, true_or → bXi
open List renaming all_eq_true → bXo, drop_eq_getElem_cons → bX7, flatMap_cons → bZ3, foldl_cons → bY5, foldl_nil → bZq, getD_eq_getElem?_getD → bXm, getElem?_append → bZ1, getElem?_append_left → cAc, getElem?_cons_zero → bXf, getElem?_drop → bZ0, getElem?_eq_none → cAb, getElem?_set → bZh, getElem_mem → bXn, length_append → bX8, length_cons → bXu, length_map → bXj, length_nil → bYb, map_congr_left → bYm, map_cons → bYa, mem_append → bX1, mem_append_left → bYo, mem_append_right → bYl, mem_cons → bYe, mem_cons_of_mem → cAa, mem_filter → bY0, mem_flatMap → bYk, mem_map → bXy, mem_range → bYz, range_succ → bY1
open Nat renaming add_zero → bY2, le_refl → bXd, le_trans → bYd, lt_of_lt_of_le → bYg
open Option renaming bind_eq_bind → bX4, bind_eq_some_iff → bXr, getD_some → bX3, isSome_iff_exists → bYt, map_eq_some_iff → bXq, map_some → bX9, pure_def → bX5
open Option.some renaming injEq → bXa
open Prod.mk renaming injEq → bXk
namespace Go.Abs
inductive aYy where
 |box (n:Nat) (f:Bool)
 |blk (f:Bool)
 |map (f:Bool)
 |loop
 |iter
def Ent.shape :Ent->aYy
 | .box cs f=> .box cs.length f
 | .blk _ _ f=> .blk f
 | .map _ _ f=> .map f
 | .loop .. => .loop
 | .iter .. => .iter
def Ent.win (off n:Nat):Ent->Option (List Val)
 | .box cs _=>if off+n<=cs.length then some ((cs.drop off).take n)else none
 |_=>none
def fF (en en':En):R->Prop
 | .val k=>(en k).map Ent.freeze=(en' k).map Ent.freeze
 | .cells k off n=>(en k).map (Ent.win off n)=(en' k).map (Ent.win off n)
 | .flag k=>(en k).map Ent.shape=(en' k).map Ent.shape
theorem fF.refl (en:En)(r:R):fF en en r:=by cases r<;>rfl
theorem fF.symm {en en':En}{r:R}(h:fF en en' r):fF en' en r:=by cases r<;>exact Eq.symm h
theorem fF.trans {a b c:En}{r:R}(h:fF a b r)(k:fF b c r):fF a c r:=by cases r<;>exact Eq.trans h k
theorem fF.box {en en':En}{k:Key}{cs:List Val}{f:Bool}(h:fF en en' (.val k))(he:en k=some (.box cs f)): ∃f',en' k=some (.box cs f'):=by
 simp only[fF,he,bX9,Ent.freeze]at h;cases h':en' k with
 |none=>rw[h']at h;cases h
 |some e=>rw[h']at h;cases e<;>simp[Ent.freeze]at h;subst h;exact⟨_,rfl⟩
theorem fF.blk {en en':En}{k:Key}{sz:Nat}{xs:List Val}{f:Bool}(h:fF en en' (.val k))(he:en k=some (.blk sz xs f)): ∃f',en' k=some (.blk sz xs f'):=by
 simp only[fF,he,bX9,Ent.freeze]at h;cases h':en' k with
 |none=>rw[h']at h;cases h
 |some e=>rw[h']at h;cases e<;>simp[Ent.freeze]at h;obtain⟨rfl,rfl⟩:=h;exact⟨_,rfl⟩
theorem fF.map {en en':En}{k:Key}{ks vs:List Val}{f:Bool}(h:fF en en' (.val k))(he:en k=some (.map ks vs f)): ∃f',en' k=some (.map ks vs f'):=by
 simp only[fF,he,bX9,Ent.freeze]at h;cases h':en' k with
 |none=>rw[h']at h;cases h
 |some e=>rw[h']at h;cases e<;>simp[Ent.freeze]at h;obtain⟨rfl,rfl⟩:=h;exact⟨_,rfl⟩
theorem fF.iter {en en':En}{k:Key}{s:ByteArray}{pos:Nat}(h:fF en en' (.val k))(he:en k=some (.iter s pos)):en' k=some (.iter s pos):=by
 simp only[fF,he,bX9,Ent.freeze]at h;cases h':en' k with
 |none=>rw[h']at h;cases h
 |some e=>rw[h']at h;cases e<;>simp[Ent.freeze]at h;obtain⟨rfl,rfl⟩:=h;rfl
theorem fF.blkf {en en':En}{k:Key}{sz:Nat}{xs:List Val}{f:Bool}(h:fF en en' (.val k))(h2:fF en en' (.flag k))(he:en k=some (.blk sz xs f)):en' k=some (.blk sz xs f):=by
 obtain⟨f',h'⟩:=h.blk he;simp only[fF,he,h',bX9,Ent.shape,bXa,aYy.blk.injEq]at h2;subst h2;exact h'
theorem fF.mapf {en en':En}{k:Key}{ks vs:List Val}{f:Bool}(h:fF en en' (.val k))(h2:fF en en' (.flag k))(he:en k=some (.map ks vs f)):en' k=some (.map ks vs f):=by
 obtain⟨f',h'⟩:=h.map he;simp only[fF,he,h',bX9,Ent.shape,bXa,aYy.map.injEq]at h2;subst h2;exact h'
theorem fF.boxl {en en':En}{k:Key}{cs:List Val}{f:Bool}(h2:fF en en' (.flag k))(he:en k=some (.box cs f)): ∃cs',en' k=some (.box cs' f)/\ cs'.length=cs.length:=by
 simp only[fF,he,bX9,Ent.shape]at h2;cases h':en' k with
 |none=>rw[h']at h2;cases h2
 |some e=>rw[h']at h2;cases e<;>simp[Ent.shape]at h2;obtain⟨h3,rfl⟩:=h2;exact⟨_,rfl,h3.symm⟩
theorem fF.window {en en':En}{k:Key}{cs:List Val}{f:Bool}{off n:Nat}(h:fF en en' (.cells k off n))(he:en k=some (.box cs f))(hl:off+n<=cs.length):
  ∃cs' f',en' k=some (.box cs' f')/\ off+n<=cs'.length/\ (cs'.drop off).take n=(cs.drop off).take n:=by
 simp only[fF,he,bX9,Ent.win,if_pos hl]at h;cases h':en' k with
 |none=>rw[h']at h;cases h
 |some e=>
  rw[h']at h;cases e<;>simp only[bX9,Ent.win,bXa,reduceCtorEq]at h
  split at h
  ·rename_i h3;simp only[bXa]at h;exact⟨_,_,rfl,h3,h.symm⟩
  ·cases h
theorem zW {en en':En}(n:Nat): ∀{v v':Val} {ks:List Key},snap n en v=some (v',ks)->(∀k∈ks,fF en en' (.val k))->snap n en' v=some (v',ks):=by
 induction n with
 |zero=>intro v v' ks h _;cases v<;>exact h
 |succ n ih=>
  have lst: ∀(vs:List Val) (rs:List (Val×List Key)),dO (snap n en) vs=some rs->(∀k∈rs.flatMap (·.2),fF en en' (.val k))->dO (snap n en') vs=some rs:=by
   intro vs
   induction vs with
   |nil=>intro rs h _;exact h
   |cons v vs ihv=>
    intro rs h hk;simp only[dO]at h⊢
    split at h
    case h_2=>cases h
    rename_i y hy
    split at h
    case h_2=>cases h
    rename_i ys hys;simp only[bXa]at h;subst h;obtain⟨y1,y2⟩:=y;rw[ih hy fun k hk'=>hk k (by simp[hk']),ihv ys hys fun k hk'=>hk k (by simp only[bZ3,bX1];exact .inr hk')]
  have lst2: ∀(vs:List Val) (f:List Val×List Key->Val×List Key) (r:Val×List Key),(∀p k,k∈p.2->k∈(f p).2)->
    ((dO (snap n en) vs).map fun rs=>(rs.map (·.1),rs.flatMap (·.2))).map f=some r->(∀k∈r.2,fF en en' (.val k))->
    ((dO (snap n en') vs).map fun rs=>(rs.map (·.1),rs.flatMap (·.2))).map f=some r:=by
   intro vs f r hf h hk;simp only[Option.map_map,bXq,Function.comp]at h⊢;obtain⟨rs,h1,rfl⟩:=h;exact⟨rs,lst vs rs h1 fun k hk'=>hk k (hf _ k hk'),rfl⟩
  intro v v' ks h hk;cases v with
  |ptr k off=>
   simp only[snap]at h⊢
   split at h
   case h_2=>cases h
   rename_i cs f he;have hk0:k∈ks:=by
    obtain⟨rs,_,h2⟩:=bXq.1 h;simp only[bXk]at h2;rw[<-h2.2];simp
   obtain⟨f',he'⟩:=(hk k hk0).box he;simp only[he'];exact lst2 cs (fun r=>(.fp r.1 off,k::r.2)) (v',ks) (fun p q hq=>cAa _ hq) h hk
  |ep k i off=>
   simp only[snap]at h⊢
   split at h
   case h_2=>cases h
   rename_i sz xs f he
   split at h
   case h_2=>cases h
   rename_i x hx;simp only[bXa,bXk]at h;obtain⟨rfl,rfl⟩:=h;obtain⟨f',he'⟩:=(hk k (by simp)).blk he
   simp only[he',hx]
  |bl k off len=>
   simp only[snap]at h⊢
   split at h
   case h_2=>cases h
   rename_i sz xs f he
   split at h
   case isFalse=>cases h
   rename_i hl;simp only[bXa,bXk]at h;obtain⟨rfl,rfl⟩:=h;obtain⟨f',he'⟩:=(hk k (by simp)).blk he
   simp only[he',if_pos hl]
  |mp k=>
   simp only[snap]at h⊢
   split at h
   case h_2=>cases h
   rename_i ks' vs f he;simp only[bXa,bXk]at h;obtain⟨rfl,rfl⟩:=h;obtain⟨f',he'⟩:=(hk k (by simp)).map he
   simp only[he']
  |fn f a b=>
   simp only[snap]at h⊢
   split at h
   case h_2=>cases h
   rename_i x y hx hy;simp only[bXa,bXk]at h;obtain⟨rfl,rfl⟩:=h;simp only[bXq]at hx hy;obtain⟨r1,e1,rfl⟩:=hx;obtain⟨r2,e2,rfl⟩:=hy;rw[lst a r1 e1 fun k hk'=>hk k (bX1.2 (.inl hk')),lst b r2 e2 fun k hk'=>hk k (bX1.2 (.inr hk'))]
   rfl
  |ifc t v=>
   simp only[snap]at h⊢;obtain⟨⟨r1,r2⟩,e1,h2⟩:=bXq.1 h;simp only[bXk]at h2;obtain⟨rfl,rfl⟩:=h2;rw[ih e1 hk];rfl
  |agg cs=>
   simp only[snap]at h⊢;exact lst2 cs (fun r=>(.agg r.1,r.2)) (v',ks) (fun p q hq=>hq) h hk
  |tup cs=>
   simp only[snap]at h⊢;exact lst2 cs (fun r=>(.tup r.1,r.2)) (v',ks) (fun p q hq=>hq) h hk
  |_=>exact h
theorem aMa {en en':En}{n:Nat}: ∀{vs:List Val} {rs:List (Val×List Key)},dO (fun x=>snap n en x) vs=some rs->(∀k∈rs.flatMap (·.2),fF en en' (.val k))->dO (fun x=>snap n en' x) vs=some rs:=by
 intro vs
 induction vs with
 |nil=>intro rs h _;exact h
 |cons v vs ihv=>
  intro rs h hk;simp only[dO]at h⊢
  split at h
  case h_2=>cases h
  rename_i y hy
  split at h
  case h_2=>cases h
  rename_i ys hys;simp only[bXa]at h;subst h;obtain⟨y1,y2⟩:=y;rw[zW n hy fun k hk'=>hk k (by simp[hk']),ihv hys fun k hk'=>hk k (by simp only[bZ3,bX1];exact .inr hk')]
theorem aJ9 {en en':En}{a:Val}{n:Nat}{cs:List Val}{rs:List R}(h:oR en a n=some (cs,rs))(hk: ∀ρ∈rs,fF en en' ρ):oR en' a n=some (cs,rs):=by
 unfold oR at h⊢
 split at h
 ·rename_i k off
  split at h
  case h_2=>cases h
  rename_i cs0 f he
  split at h
  case isFalse=>cases h
  rename_i hl;simp only[bXa,bXk]at h;obtain⟨rfl,rfl⟩:=h;obtain⟨cs',f',h1,h2,h3⟩:=(hk (.cells k off n) (by simp)).window he hl
  simp only[h1,if_pos h2,h3]
 ·rename_i k i off
  split at h
  case h_2=>cases h
  rename_i sz xs f he
  split at h
  case h_2=>cases h
  rename_i x hx
  split at h
  case isFalse=>cases h
  rename_i hl;simp only[bXa,bXk]at h;obtain⟨rfl,rfl⟩:=h;obtain⟨f',he'⟩:=(hk (.val k) (by simp)).blk he
  simp only[he',hx,if_pos hl]
 ·exact h
 ·cases h
theorem sN {en en':En}{a:Val}{cs:List Val}{rs:List R}(h:jP en a=some (cs,rs))(hk: ∀ρ∈rs,fF en en' ρ):jP en' a=some (cs,rs):=by
 unfold jP at h⊢
 split at h
 ·exact h
 ·exact h
 ·exact h
 ·rename_i k off len
  split at h
  case h_2=>cases h
  rename_i sz xs f he
  split at h
  case isFalse=>cases h
  rename_i hl;simp only[bXa,bXk]at h;obtain⟨rfl,rfl⟩:=h;obtain⟨f',he'⟩:=(hk (.val k) (by simp)).blk he
  simp only[he',if_pos hl]
 ·cases h
theorem aPb {me d g:Nat}{v:Val}{ks:List Key}:(fD me d g v ks).rs=ks.map .val:=by cases v<;>rfl
theorem aMb {me d g:Nat}{v:Val}{ks:List Key}:(fD me d g v ks).mem=none:=by cases v<;>rfl
theorem aVx {me d g:Nat}{v:Val}{ks:List Key}(h:(fD me d g v ks).bump=false)(g':Nat):fD me d g' v ks=fD me d g v ks:=by
 cases v<;>first|rfl|(simp[fD]at h)
end Go.Abs
namespace Go.Abs
theorem aPc {n:Nat}{call:cR}{me d g:Nat}{en en':En}{get get':Opd->Val}{op:LOp}{r:Res}(h:eval n call me d g en get op=some r)
  (hg: ∀x∈op.opds,get' x=get x) (hk: ∀ρ∈r.rs,fF en en' ρ):eval n call me d g en' get' op=some r:=by
 cases op with
 |mv x=>simp only[eval]at h⊢;rw[hg x (by simp[LOp.opds])];exact h
 |pick c x y=>simp only[eval]at h⊢;rw[hg c (by simp[LOp.opds]),hg x (by simp[LOp.opds]),hg y (by simp[LOp.opds])];exact h
 |alloc z=>exact h
 |box m x=>simp only[eval]at h⊢;rw[hg x (by simp[LOp.opds])];exact h
 |build z ps=>
  simp only[eval]at h⊢;rw[show(ps.map fun p=>(p.1,p.2.1,get' p.2.2))=ps.map fun p=>(p.1,p.2.1,get p.2.2)from bYm fun p hp=>by
   rw[hg p.2.2 (by simp only[LOp.opds,bXy];exact⟨p,hp,rfl⟩)]]
  exact h
 |bslice len size z ps=>
  simp only[eval]at h⊢
  split at h
  case isFalse=>cases h
  rename_i hl
  split at h
  case h_2=>cases h
  rename_i qs hq
  split at h
  case h_2=>cases h
  rename_i xs hf;simp only[bXa]at h;subst h;have key: ∀(ps:List (Nat×Opd)) (qs:List ((Nat×Val)×List Key)),(∀x∈ps.map (·.2),get' x=get x)->dO (fun p=>(snap n en (get p.2)).map fun r=>((p.1,r.1.wk1),r.2)) ps=some qs->
    (∀k∈qs.flatMap (·.2),fF en en' (.val k))->dO (fun p=>(snap n en' (get' p.2)).map fun r=>((p.1,r.1.wk1),r.2)) ps=some qs:=by
   intro ps
   induction ps with
   |nil=>intro qs _ h _;exact h
   |cons p ps ih=>
    intro qs hgp h hkk;simp only[dO]at h⊢
    split at h
    case h_2=>cases h
    rename_i y hy
    split at h
    case h_2=>cases h
    rename_i ys hys;simp only[bXa]at h;subst h;obtain⟨⟨r1,r2⟩,e1,rfl⟩:=bXq.1 hy;rw[hgp p.2 (by simp),zW n e1 fun k hk'=>hkk k (by simp[hk'])]
    simp only[bX9];rw[ih ys (fun x hx=>hgp x (by simp only[bYa,bYe];exact .inr hx)) hys fun k hk'=>hkk k (by simp only[bZ3,bX1];exact .inr hk')]
  rw[key ps qs (fun x hx=>hg x (by simpa[LOp.opds]using hx)) hq fun k hk'=>hk _ (by simpa using hk')]
  simp only[if_pos hl,hf]
 |load ag m x=>
  simp only[eval]at h⊢;rw[hg x (by simp[LOp.opds])]
  split at h
  case h_2=>cases h
  rename_i cs rs hr;obtain⟨v,hv,rfl⟩:=bXq.1 h;rw[aJ9 hr hk];simp only[hv,bX9]
 |store m x y=>
  simp only[eval]at h⊢;rw[hg x (by simp[LOp.opds]),hg y (by simp[LOp.opds])]
  split at h
  case isFalse=>cases h
  rename_i hc;rw[if_pos hc]
  split at h
  ·rename_i k off hX
   split at h
   case h_2=>cases h
   rename_i cs he
   split at h
   case isFalse=>cases h
   rename_i hl;simp only[bXa]at h;subst h;obtain⟨cs',he',hl'⟩:=(hk (.flag k) (by simp)).boxl he
   simp only[he',hl',if_pos hl]
  ·rename_i k i off hX
   split at h
   case h_2=>cases h
   rename_i sz xs he
   split at h
   case h_2=>cases h
   rename_i Y hY
   split at h
   case isFalse=>cases h
   rename_i hl
   split at h
   case h_2=>cases h
   rename_i v' ks hs
   split at h
   case isFalse=>cases h
   rename_i hk2;simp only[bXa]at h;subst h;have he':=(hk (.val k) (by simp)).blkf (hk (.flag k) (by simp)) he
   simp only[he',hY,if_pos hl,zW n hs fun k' hk'=>hk _ (by simp[hk']),if_pos hk2]
  ·cases h
 |nilck x=>simp only[eval]at h⊢;rw[hg x (by simp[LOp.opds])];exact h
 |bin o t x y=>simp only[eval]at h⊢;rw[hg x (by simp[LOp.opds]),hg y (by simp[LOp.opds])];exact h
 |un o x=>simp only[eval]at h⊢;rw[hg x (by simp[LOp.opds])];exact h
 |wrap k x=>simp only[eval]at h⊢;rw[hg x (by simp[LOp.opds])];exact h
 |iface t x=>simp only[eval]at h⊢;rw[hg x (by simp[LOp.opds])];exact h
 |assert t z ok x=>simp only[eval]at h⊢;rw[hg x (by simp[LOp.opds])];exact h
 |mkfn f a b=>
  simp only[eval]at h⊢;rw[show a.map get'=a.map get from bYm fun p hp=>hg p (by simp[LOp.opds,hp]),show b.map get'=b.map get from bYm fun p hp=>hg p (by simp[LOp.opds,hp])]
  exact h
 |mkmap=>exact h
 |mput t m k x=>
  simp only[eval]at h⊢;rw[hg m (by simp[LOp.opds]),hg k (by simp[LOp.opds]),hg x (by simp[LOp.opds])]
  split at h
  case h_2=>cases h
  rename_i key hm
  split at h
  case h_2=>cases h
  rename_i ks vs he
  split at h
  case isFalse=>cases h
  rename_i hok;have done: ∀e:En->Option Res,(fF en en' (.val key)->fF en en' (.flag key)->en' key=some (.map ks vs false)):=fun _ a b=>a.mapf b he
  split at h
  ·rename_i i hf;simp only[bXa]at h;subst h;have he':=done (fun _=>none) (hk (.val key) (by simp)) (hk (.flag key) (by simp))
   simp only[he',if_pos hok,hf]
  ·rename_i hf;simp only[bXa]at h;subst h;have he':=done (fun _=>none) (hk (.val key) (by simp)) (hk (.flag key) (by simp))
   simp only[he',if_pos hok,hf]
  ·cases h
 |mget t z ok m k=>
  simp only[eval]at h⊢;rw[hg m (by simp[LOp.opds]),hg k (by simp[LOp.opds])]
  split at h
  case isFalse=>cases h
  rename_i hok;rw[if_pos hok]
  split at h
  ·rename_i key hm
   split at h
   case h_2=>cases h
   rename_i ks vs f he;obtain⟨v,hv,rfl⟩:=bXq.1 h;obtain⟨f',he'⟩:=(hk (.val key) (by simp)).map he
   simp only[he',hv,bX9]
  ·exact h
  ·exact h
  ·cases h
 |mklen size z len cap=>simp only[eval]at h⊢;rw[hg len (by simp[LOp.opds]),hg cap (by simp[LOp.opds])];exact h
 |slice str size x lo hi mx=>
  have e1:lo.map get'=lo.map get:=by
   cases lo with
   |none=>rfl
   |some l=>simp only[bX9];rw[hg l (by simp[LOp.opds])]
  have e2:hi.map get'=hi.map get:=by
   cases hi with
   |none=>rfl
   |some l=>simp only[bX9];rw[hg l (by simp[LOp.opds])]
  have e3: ∀m,mx=some m->get' m=get m:=fun m hm=>hg m (by simp[LOp.opds,hm])
  simp only[eval,e1,e2]at h⊢;rw[hg x (by simp[LOp.opds])]
  split at h
  ·rename_i hs;rw[if_pos hs];exact h
  ·rename_i hs;rw[if_neg hs]
   split at h
   ·split at h
    ·exact h
    ·rename_i m;simp only[e3 m rfl];exact h
   ·split at h
    ·exact h
    ·rename_i m;simp only[e3 m rfl];exact h
   ·rename_i k off len hX
    split at h
    case h_2=>cases h
    split at h
    case h_2=>cases h
    rename_i hh hb
    split at h
    case h_2=>cases h
    rename_i ll hlo
    split at h
    case h_2=>cases h
    rename_i sz xs f he
    split at h
    case isFalse=>cases h
    rename_i hc;simp only[bXa]at h;subst h;obtain⟨f',he'⟩:=(hk (.val k) (by simp)).blk he
    simp only[hb,hlo,he',if_pos hc]
   ·cases h
 |fa off x=>simp only[eval]at h⊢;rw[hg x (by simp[LOp.opds])];exact h
 |fld ag off m x=>simp only[eval]at h⊢;rw[hg x (by simp[LOp.opds])];exact h
 |ia size x i=>
  simp only[eval]at h⊢;rw[hg x (by simp[LOp.opds]),hg i (by simp[LOp.opds])]
  split at h
  case h_2=>cases h
  split at h
  ·exact h
  ·exact h
  ·rename_i k off len hX
   split at h
   case h_2=>cases h
   rename_i sz xs f he
   split at h
   case isFalse=>cases h
   rename_i hc;simp only[bXa]at h;subst h;obtain⟨f',he'⟩:=(hk (.val k) (by simp)).blk he
   simp only[he',if_pos hc]
  ·cases h
 |iaa len size x i=>simp only[eval]at h⊢;rw[hg x (by simp[LOp.opds]),hg i (by simp[LOp.opds])];exact h
 |ixs x i=>simp only[eval]at h⊢;rw[hg x (by simp[LOp.opds]),hg i (by simp[LOp.opds])];exact h
 |ixa ag len size x i=>simp only[eval]at h⊢;rw[hg x (by simp[LOp.opds]),hg i (by simp[LOp.opds])];exact h
 |ext i x=>simp only[eval]at h⊢;rw[hg x (by simp[LOp.opds])];exact h
 |call f args=>
  simp only[eval]at h⊢;rw[hg f (by simp[LOp.opds]),show args.map get'=args.map get from bYm fun p hp=>hg p (by simp[LOp.opds,hp])]
  split at h
  case h_2=>cases h
  rename_i f a b hf
  split at h
  case h_2=>cases h
  rename_i rs hs
  split at h
  case h_2=>cases h
  rename_i v hv;simp only[bXa]at h;subst h;rw[aMa hs fun k hk'=>hk _ (by rw[aPb];simpa using hk')]
  simp only[hv]
 |icall f args=>cases h
 |len t x=>
  simp only[eval]at h⊢;rw[hg x (by simp[LOp.opds])]
  split at h
  ·split at h
   ·rename_i key hx
    split at h
    case h_2=>cases h
    rename_i ks vs f he;simp only[bXa]at h;subst h;obtain⟨f',he'⟩:=(hk (.val key) (by simp)).map he
    simp only[he']
   ·exact h
   ·exact h
   ·cases h
  ·exact h
  ·exact h
  ·cases h
 |append size x y=>
  simp only[eval]at h⊢;rw[hg x (by simp[LOp.opds]),hg y (by simp[LOp.opds])]
  split at h
  case h_2=>cases h
  rename_i ys rs hel
  split at h
  case isFalse=>cases h
  rename_i hh
  split at h
  ·split at h
   ·rename_i hye;simp only[bXa]at h;subst h;rw[sN hel hk];simp only[if_pos hh,if_pos hye]
   rename_i hye
   split at h
   case isFalse=>cases h
   rename_i hc;simp only[bXa]at h;subst h;rw[sN hel hk];simp only[if_pos hh,if_neg hye,if_pos hc]
  ·rename_i k off len hX
   split at h
   case h_2=>cases h
   rename_i sz xs f he
   split at h
   case isFalse=>cases h
   rename_i hc;simp only[bXa]at h;subst h;have he':=(hk (.val k) (by simp)).blkf (hk (.flag k) (by simp)) he
   rw[sN hel fun ρ hρ=>hk ρ (by simp[hρ])]
   simp only[if_pos hh,he',if_pos hc]
  ·cases h
 |copy size x y=>cases h
 |rng x=>simp only[eval]at h⊢;rw[hg x (by simp[LOp.opds])];exact h
 |nxt x=>
  simp only[eval]at h⊢;rw[hg x (by simp[LOp.opds])]
  split at h
  case h_2=>cases h
  rename_i k hX
  split at h
  case h_2=>cases h
  rename_i s pos he
  split at h
  ·rename_i hlt;simp only[bXa]at h;subst h;have he':=(hk (.val k) (by simp)).iter he
   simp only[he',if_pos hlt]
  ·rename_i hlt;simp only[bXa]at h;subst h;have he':=(hk (.val k) (by simp)).iter he
   simp only[he',if_neg hlt]
 |minmax mx xs=>
  simp only[eval]at h⊢;rw[show xs.map get'=xs.map get from bYm fun p hp=>hg p (by simp[LOp.opds,hp])]
  exact h
end Go.Abs
namespace Go.Abs
theorem aKa {n:Nat}{call:cR}{me d g:Nat}{en:En}{get:Opd->Val}{op:LOp}{r:Res}(h:eval n call me d g en get op=some r)(hw:op.writesMem=false):r.ws=[]:=by
 cases op<;>first
  |(simp[LOp.writesMem]at hw;done)
  |(simp only[eval,aHu]at h
    (repeat' split at h)<;>first
     |(cases h;done)
     |(simp only[bXa]at h;subst h;rfl)
     |(obtain⟨_,_,rfl⟩:=bXq.1 h;rfl))
theorem aFn {n:Nat}{call:cR}{me d g:Nat}{en:En}{get:Opd->Val}{op:LOp}{r:Res}(h:eval n call me d g en get op=some r):r.mem=none:=by
 cases op<;>(
  simp only[eval,aHu]at h
  (repeat' split at h)<;>first
   |(cases h;done)
   |(simp only[bXa]at h;subst h;rfl)
   |(simp only[bXa]at h;subst h;exact aMb)
   |(obtain⟨_,_,rfl⟩:=bXq.1 h;rfl))
theorem aMc {n:Nat}{call:cR}{me d g:Nat}{en:En}{get:Opd->Val}{op:LOp}{r:Res}(h:eval n call me d g en get op=some r)(hw:op.writesMem=false):r.bump=false:=by
 cases op<;>first
  |(simp[LOp.writesMem]at hw;done)
  |(simp only[eval,aHu]at h
    (repeat' split at h)<;>first
     |(cases h;done)
     |(simp only[bXa]at h;subst h;rfl)
     |(obtain⟨_,_,rfl⟩:=bXq.1 h;rfl))
theorem aMd {n:Nat}{call:cR}{me d g:Nat}{en:En}{get:Opd->Val}{op:LOp}{r:Res}(h:eval n call me d g en get op=some r)(hw:op.readsMem=false):r.rs=[]:=by
 cases op<;>first
  |(simp[LOp.readsMem]at hw;done)
  |(simp only[eval,aHu]at h
    (repeat' split at h)<;>first
     |(cases h;done)
     |(simp only[bXa]at h;subst h;rfl)
     |(obtain⟨_,_,rfl⟩:=bXq.1 h;rfl))
theorem bE3 {n:Nat}{call:cR}{me d g:Nat}{en:En}{get:Opd->Val}{op:LOp}{r:Res}(h:eval n call me d g en get op=some r)(hw:r.bump=false)(g':Nat):eval n call me d g' en get op=some r:=by
 by_cases hc: ∃f args,op= .call f args
 ·obtain⟨f,args,rfl⟩:=hc;simp only[eval]at h⊢
  split at h
  case h_2=>cases h
  split at h
  case h_2=>cases h
  rename_i hs
  split at h
  case h_2=>cases h
  rename_i hv;simp only[bXa]at h;subst h;rw[aVx hw g']
 cases op<;>first
  |exact absurd ⟨_,_,rfl⟩ hc
  |exact h
  |(exfalso
    simp only[eval]at h
    ((repeat' split at h)<;>first
     |(cases h;done)
     |(simp only[bXa]at h;subst h;cases hw));done)
  |(simp only[eval]at h⊢
    (repeat' split at h)<;>first
     |(cases h;done)
     |(exfalso;simp only[bXa]at h;subst h;cases hw;done)
     |(simp only[*];done)
     |(rename_i hh _ _ _ _;simp only[*,if_true];done)
     |(simp only[*,if_true]at h⊢;done)
     |(simp_all;done))
theorem aA2 : ∀(vs:List Val) (cs:List Val) (off i:Nat),(i<off \/off+vs.length<=i)->(setCells cs off vs)[i]?=cs[i]?
 |[],_,_,_,_=>rfl
 |v::vs,cs,off,i,h=>by
  simp only[bXu]at h;rw[setCells,aA2 vs _ _ _ (by omega),bZh]
  rw[if_neg (by omega)]
theorem uE : ∀(vs:List Val) (cs:List Val) (off:Nat),(setCells cs off vs).length=cs.length
 |[],_,_=>rfl
 |v::vs,cs,off=>by rw[setCells,uE];simp
theorem aKb (vs:List Val): ∀(cs:List Val) (off i:Nat) (u:Val),(i<off \/off+vs.length<=i)->setCells (cs.set i u) off vs=(setCells cs off vs).set i u:=by
 induction vs with
 |nil=>intro cs off i u _;rfl
 |cons v vs ih=>
  intro cs off i u h;simp only[bXu]at h;rw[setCells,setCells,<-ih _ _ _ _ (by omega)]
  congr 1
  exact List.set_comm _ _ (by omega)
theorem aHw (us:List Val): ∀(vs cs:List Val) (off off':Nat),(off+us.length<=off' \/off'+vs.length<=off)->setCells (setCells cs off us) off' vs=setCells (setCells cs off' vs) off us:=by
 induction us with
 |nil=>intro vs cs off off' _;rfl
 |cons u us ih=>
  intro vs cs off off' h;simp only[bXu]at h;rw[setCells,setCells,ih _ _ _ _ (by omega),aKb _ _ _ _ _ (by omega)]
def W.onEnt :W->Option Ent->Option Ent
 | .ent _ e=>fun _=>e
 | .cells _ off vs=>fun x=>match x with
  |some (.box cs f)=>some (.box (setCells cs off vs) f)
  |x=>x
 | .elem _ i off vs=>fun x=>match x with
  |some (.blk sz xs f)=>match xs[i]? with
   |some y=>some (.blk sz (xs.set i (fO y off vs)) f)
   |none=>some (.blk sz xs f)
  |x=>x
 | .frz _=>fun x=>x.map Ent.freeze
theorem W.apply_self (en:En)(w:W):W.apply en w w.key=w.onEnt (en w.key):=by
 cases w with
 |ent k' e=>simp[W.apply,W.key,W.onEnt,En.set]
 |cells k off vs=>
  show W.apply en _ k=W.onEnt _ (en k);simp only[W.apply,W.onEnt];cases h:en k with
  |none=>simp[h]
  |some e=>cases e<;>simp[En.set,h]
 |elem k i off vs=>
  show W.apply en _ k=W.onEnt _ (en k);simp only[W.apply,W.onEnt];cases h:en k with
  |none=>simp[h]
  |some e=>
   cases e with
   |blk sz xs f=>cases h':xs[i]?<;>simp[En.set,h,h']
   |_=>simp[h]
 |frz k=>
  show W.apply en _ k=W.onEnt _ (en k);simp only[W.apply,W.onEnt];cases h:en k with
  |none=>simp[h]
  |some e=>simp[En.set]
theorem W.apply_other (en:En)(w:W){k:Key}(hk:k≠w.key):W.apply en w k=en k:=by
 cases w with
 |ent k' e=>
  have hk:k≠k':=hk;simp[W.apply,En.set,hk]
 |cells k' off vs=>
  have hk:k≠k':=hk;simp only[W.apply];cases h:en k' with
  |none=>rfl
  |some e=>cases e<;>simp[En.set,hk]
 |elem k' i off vs=>
  have hk:k≠k':=hk;simp only[W.apply];cases h:en k' with
  |none=>rfl
  |some e=>
   cases e with
   |blk sz xs f=>cases h':xs[i]?<;>simp[En.set,hk,h']
   |_=>rfl
 |frz k'=>
  have hk:k≠k':=hk;simp only[W.apply];cases h:en k' with
  |none=>rfl
  |some e=>simp[En.set,hk]
theorem W.apply_at (en:En)(w:W)(k:Key):W.apply en w k=if k=w.key then w.onEnt (en k)else en k:=by
 by_cases hk:k=w.key
 ·rw[if_pos hk,hk,W.apply_self]
 ·rw[if_neg hk,W.apply_other en w hk]
theorem W.comm {w w':W}(h:kS w w'=true)(en:En):W.apply (W.apply en w) w'=W.apply (W.apply en w') w:=by
 have key:w.key≠w'.key->W.apply (W.apply en w) w'=W.apply (W.apply en w') w:=by
  intro hk
  funext k
  simp only[W.apply_at]
  by_cases h1:k=w'.key
  ·subst h1;have h2: ¬w'.key=w.key:=fun e=>hk e.symm
   simp[h2]
  ·simp[h1]
 by_cases hk:w.key=w'.key
 ·cases w<;>cases w'<;>simp only[W.key]at hk<;>subst hk<;>simp[kS,W.key]at h
  ·rename_i k off vs off' vs'
   funext k'
   by_cases hk':k'=k
   ·subst hk';have e1:=W.apply_self (W.apply en (.cells k' off vs)) (.cells k' off' vs');have e2:=W.apply_self en (.cells k' off vs);have e3:=W.apply_self (W.apply en (.cells k' off' vs')) (.cells k' off vs);have e4:=W.apply_self en (.cells k' off' vs');simp only[W.key]at e1 e2 e3 e4;rw[e1,e2,e3,e4];cases en k' with
    |none=>rfl
    |some e=>
     cases e with
     |box cs f=>simp only[W.onEnt];rw[aHw _ _ _ _ _ h]
     |_=>rfl
   ·rw[W.apply_other _ (.cells k off' vs') hk',W.apply_other _ (.cells k off vs) hk',W.apply_other _ (.cells k off vs) hk',W.apply_other _ (.cells k off' vs') hk']
  ·rfl
 ·exact key hk
theorem W.same {w:W}{ρ:R}(h:gE w ρ=true)(en:En):fF (W.apply en w) en ρ:=by
 have key:w.key≠ρ.key->fF (W.apply en w) en ρ:=by
  intro hk;have e:W.apply en w ρ.key=en ρ.key:=by rw[W.apply_at,if_neg fun e=>hk e.symm]
  cases ρ<;>simp only[fF,R.key]at e⊢ <;>rw[e]
 by_cases hk:w.key=ρ.key
 ·have e:=W.apply_self en w;cases w<;>cases ρ<;>simp only[W.key,R.key]at hk<;>subst hk<;>simp[gE,W.key,R.key]at h<;>
   simp only[W.key]at e<;>simp only[fF,e,W.onEnt]
  ·rename_i k off vs off' n;cases en k with
   |none=>rfl
   |some e=>
    cases e with
    |box cs f=>
     simp only[bX9,Ent.win,uE];split
     ·congr 2
      apply List.ext_getElem?;intro j;simp only[List.getElem?_take,bZ0];split
      ·rw[aA2 _ _ _ _ (by omega)]
      ·rfl
     ·rfl
    |_=>rfl
  ·rename_i k off vs;cases en k with
   |none=>rfl
   |some e=>cases e<;>simp[Ent.shape,uE]
  ·rename_i k i off vs;cases en k with
   |none=>rfl
   |some e=>
    cases e with
    |blk sz xs f=>simp only;split<;>rfl
    |_=>rfl
  ·rename_i k;cases en k with
   |none=>rfl
   |some e=>cases e<;>rfl
  ·rename_i k off n;cases en k with
   |none=>rfl
   |some e=>cases e<;>rfl
 ·exact key hk
theorem aKc (ws:List W): ∀(en:En) (w:W),(∀w'∈ws,kS w w'=true)->W.applyAll (W.apply en w) ws=W.apply (W.applyAll en ws) w:=by
 induction ws with
 |nil=>intro en w _;rfl
 |cons w' ws ih=>
  intro en w h;show W.applyAll (W.apply (W.apply en w) w') ws=W.apply (W.applyAll (W.apply en w') ws) w;rw[W.comm (h w' (by simp)),ih _ _ fun x hx=>h x (by simp[hx])]
theorem aHx (ws:List W): ∀(ws':List W) (en:En),(∀w∈ws,∀w'∈ws',kS w w'=true)->W.applyAll (W.applyAll en ws) ws'=W.applyAll (W.applyAll en ws') ws:=by
 induction ws with
 |nil=>intro ws' en _;rfl
 |cons w ws ih=>
  intro ws' en h;show W.applyAll (W.applyAll (W.apply en w) ws) ws'=W.applyAll (W.apply (W.applyAll en ws') w) ws;rw[ih _ _ fun x hx=>h x (by simp[hx]),aKc _ _ _ (h w (by simp))]
theorem aHy (ws:List W): ∀(en:En) (ρ:R),(∀w∈ws,gE w ρ=true)->fF (W.applyAll en ws) en ρ:=by
 induction ws with
 |nil=>intro en ρ _;exact fF.refl _ _
 |cons w ws ih=>
  intro en ρ h;show fF (W.applyAll (W.apply en w) ws) en ρ;exact(ih _ ρ fun x hx=>h x (by simp[hx])).trans (W.same (h w (by simp)) en)
end Go.Abs
namespace Go.Abs
section
variable {σ :Type}(E:Nat->σ->σ)
def kD (L:Nat->Bool)(s:σ):Nat->σ
 |0=>s
 |n+1=>if L n then E n (kD L s n)else kD L s n
variable {E}
theorem fC {L L':Nat->Bool}{s:σ}: ∀{n:Nat},(∀i,i<n->L i=L' i)->kD E L s n=kD E L' s n
 |0,_=>rfl
 |n+1,h=>by simp only[kD];rw[h n (by omega),fC fun i hi=>h i (by omega)]
theorem aCo {L:Nat->Bool}{s:σ}{j:Nat}(hj:L j=false): ∀{n:Nat},j<n->(∀k,j<k->k<n->L k=true-> ∀s,E k (E j s)=E j (E k s))->
  kD E (fun k=>k==j||L k) s n=E j (kD E L s n)
 |0,h,_=>by omega
 |n+1,h,hc=>by
  by_cases hn:j=n
  ·subst hn;simp only[kD,BEq.rfl,bXi,if_true,hj,bXc,if_false];rw[fC (L':=L) fun i hi=>by
    have:(i==j)=false:=by simp;omega
    simp[this]]
  ·have hlt:j<n:=by omega
   have hne:(n==j)=false:=by simp;omega
   simp only[kD,hne,bYy];rw[aCo hj hlt fun k h1 h2=>hc k h1 (by omega)]
   split
   ·rename_i hL;exact hc n hlt (by omega) hL _
   ·rfl
theorem zX {L:Nat->Bool}{s:σ}{n:Nat}(Eq:σ->σ->Prop)(hrefl: ∀s,Eq s s)(htrans: ∀a b c,Eq a b->Eq b c->Eq a c)(keep:Nat->Bool):
  ∀m,m<=n->(∀j,j<m->L j=true->keep j=false->(∀s,Eq (E j s) s)/\ ∀k,j<k->k<n->L k=true->keep k=true-> ∀s,E k (E j s)=E j (E k s))->
   Eq (kD E (fun k=>L k&&(keep k||k<m)) s n) (kD E (fun k=>L k&&keep k) s n)
 |0,_,_=>by
  rw[fC (L':=fun k=>L k&&keep k) fun i hi=>by simp]
  exact hrefl _
 |m+1,hm,h=>by
  refine htrans _ _ _ ?_ (zX Eq hrefl htrans keep m (by omega) fun j hj=>h j (by omega))
  by_cases hc:L m=true/\ keep m=false
  ·obtain⟨h1,h2⟩:=h m (by omega) hc.1 hc.2
   rw[fC (L':=fun k=>k==m||(L k&&(keep k||k<m))) fun i hi=>by
    by_cases him:i=m
    ·subst him;simp[hc.1]
    ·have e1:(i==m)=false:=by simp[him]
     have e2:decide (i<m+1)=decide (i<m):=by
      by_cases h:i<m
      ·simp[h];omega
      ·simp[h];omega
     simp[e1,e2]]
   rw[aCo (by simp[hc.2]) (by omega) fun k h3 h4 h5 s=>by
    simp only[bXb,bZv,cAg]at h5;rcases h5.2 with h6|h6
    ·exact h2 k h3 h4 h5.1 h6 s
    ·omega]
   exact h1 _
  ·rw[fC (L':=fun k=>L k&&(keep k||k<m)) fun i hi=>by
    by_cases him:i=m
    ·subst him;cases hL:L i with
     |false=>simp
     |true=>cases hk:keep i with
      |false=>exact absurd ⟨hL,hk⟩ hc
      |true=>simp
    ·have e2:decide (i<m+1)=decide (i<m):=by
      by_cases h:i<m
      ·simp[h];omega
      ·simp[h];omega
     simp[e2]]
   exact hrefl _
end
end Go.Abs
namespace Go.Abs
def mW (o:bH)(r:Res)(st:St):St:=
 {fr:=fT st.fr o.dst r.v,en:=match r.mem with|some p=>fun k=>if r.unch k=true then st.en k else p.1 k|none=>W.applyAll st.en r.ws,cnt:=match r.mem with|some p=>p.2|none=>if r.bump then aQ st.cnt 0 (o.dst.getD 0) (st.cnt 0 (o.dst.getD 0)+1)else st.cnt}
def Res.quiet (r:Res):Prop:=r.ws=[]/\ r.bump=false/\ r.mem=none
theorem aFo {n:Nat}{call:cR}{io:Inl}{st st':St}{o:bH}{r:Res}(h:step n call io 0 st o=some (st',r)):
  st'=mW o r st/\ (r.bump=true->o.dst.isSome=true)/\ (o.op.writesMem=false->r.quiet)/\ (o.op.readsMem=false->r.rs=[]):=by
 simp only[step]at h
 split at h
 ·simp only[bXa,bXk]at h;obtain⟨rfl,rfl⟩:=h;exact⟨rfl,by simp,fun _=>⟨rfl,rfl,rfl⟩,fun _=>rfl⟩
 ·split at h
  ·rename_i f args hop
   split at h
   case h_2=>cases h
   rename_i v st1 hc;simp only[bXa,bXk]at h;obtain⟨rfl,rfl⟩:=h
   refine⟨?_,by simp,fun hw=>by rw[hop]at hw;simp[LOp.writesMem]at hw,fun _=>rfl⟩
   simp only[mW]
   congr 1
   funext k
   split
   ·rename_i hk;exact(aLz hk).symm
   ·rfl
  ·split at h
   case h_2=>cases h
   rename_i r' hev
   split at h
   ·cases h
   rename_i hb;simp only[bXa,bXk]at h;obtain⟨rfl,rfl⟩:=h
   refine⟨by simp only[mW,aFn hev],fun h=>?_,fun hw=>⟨aKa hev hw,aMc hev hw,aFn hev⟩,aMd hev⟩
   rw[h]at hb;cases ho:o.dst with
   |none=>rw[ho]at hb;simp at hb
   |some d=>rfl
 ·cases h
structure sO (o:bH) (r:Res) (s s':St):Prop where
 fr: ∀t∈o.uses,s.fr t=s'.fr t
 en: ∀ρ∈r.rs,fF s.en s'.en ρ
 cnt:r.bump=true-> ∀d,o.dst=some d->s.cnt 0 d=s'.cnt 0 d
 all:r.mem.isSome=true->s.en=s'.en/\ s.cnt=s'.cnt
theorem sO.refl (o:bH)(r:Res)(s:St):sO o r s s:=⟨fun _ _=>rfl,fun _ _=>fF.refl _ _,fun _ _ _=>rfl,fun _=>⟨rfl,rfl⟩⟩
theorem sO.trans {o:bH}{r:Res}{a b c:St}(h:sO o r a b)(k:sO o r b c):sO o r a c:=
 ⟨fun t ht=>(h.fr t ht).trans (k.fr t ht),fun ρ hρ=>(h.en ρ hρ).trans (k.en ρ hρ),fun hb d hd=>(h.cnt hb d hd).trans (k.cnt hb d hd),fun hm=>⟨(h.all hm).1.trans (k.all hm).1,(h.all hm).2.trans (k.all hm).2⟩⟩
theorem sO.symm {o:bH}{r:Res}{a b:St}(h:sO o r a b):sO o r b a:=
 ⟨fun t ht=>(h.fr t ht).symm,fun ρ hρ=>(h.en ρ hρ).symm,fun hb d hd=>(h.cnt hb d hd).symm,fun hm=>⟨(h.all hm).1.symm,(h.all hm).2.symm⟩⟩
theorem aVy {n:Nat}{call:cR}{io:Inl}{st st' st2:St}{o:bH}{r:Res}(h:step n call io 0 st o=some (st',r))(hl:sO o r st st2):step n call io 0 st2 o=some (mW o r st2,r):=by
 have hw:wanted st2.fr o.guard=wanted st.fr o.guard:=by
  cases hg:o.guard with
  |none=>rfl
  |some p=>
   obtain⟨t,b⟩:=p;simp only[wanted];rw[hl.fr t (by simp[bH.uses,hg])]
 have hgt: ∀x∈o.op.opds,St.get st2.fr x=St.get st.fr x:=by
  intro x hx;cases x with
  |t i=>exact(hl.fr i (by simp only[bH.uses,bX1,bYk];exact .inl ⟨_,hx,by simp[Opd.tmp]⟩)).symm
  |c v=>rfl
  |f i=>rfl
  |m tbl i=>simp only[St.get];rw[(hl.fr i (by simp only[bH.uses,bX1,bYk];exact .inl ⟨_,hx,by simp[Opd.tmp]⟩)).symm]
 simp only[step]at h⊢;rw[hw]
 split at h
 ·simp only[bXa,bXk]at h;obtain⟨_,rfl⟩:=h;rfl
 ·split at h
  ·rename_i f args hop
   split at h
   case h_2=>cases h
   rename_i v st1 hc;simp only[bXa,bXk]at h;obtain⟨_,rfl⟩:=h;obtain⟨e1,e2⟩:=hl.all rfl;rw[hgt f (by simp[hop,LOp.opds]),show args.map (St.get st2.fr)=args.map (St.get st.fr)from bYm fun p hp=>hgt p (by simp[hop,LOp.opds,hp]),<-e1,<-e2,hc]
   simp only[mW,<-e1]
   congr 3
   funext k
   split
   ·rename_i hk;exact(aLz hk).symm
   ·rfl
  ·rename_i hni
   split at h
   case h_2=>cases h
   rename_i r' hev
   split at h
   ·cases h
   rename_i hb;simp only[bXa,bXk]at h;obtain⟨_,rfl⟩:=h;have hev2:eval n call 0 (o.dst.getD 0) (st2.cnt 0 (o.dst.getD 0)) st2.en (St.get st2.fr) o.op=some r':=by
    have h1:=aPc hev hgt hl.en;cases hbb:r'.bump with
    |false=>exact bE3 h1 hbb _
    |true=>
     cases hd:o.dst with
     |some d=>rw[hd]at h1;simp only[bX3]at h1⊢;rw[<-hl.cnt hbb d hd];exact h1
     |none=>rw[hd,hbb]at hb;simp at hb
   rw[hev2];simp only[if_neg hb];simp only[mW,aFn hev]
 ·cases h
structure aKd (o o':bH) (r r':Res):Prop where
 dst: ∀d,o.dst=some d->o'.dst≠some d
 use: ∀d,o.dst=some d->d∉o'.uses
 use': ∀d,o'.dst=some d->d∉o.uses
 ww: ∀w∈r.ws,∀w'∈r'.ws,kS w w'=true
 wr: ∀w∈r.ws,∀ρ∈r'.rs,gE w ρ=true
 rw: ∀w∈r'.ws,∀ρ∈r.rs,gE w ρ=true
 m1:r.mem.isSome=true->r'.quiet/\ ∀ρ∈r'.rs,r.unch ρ.key=true
 m2:r'.mem.isSome=true->r.quiet/\ ∀ρ∈r.rs,r'.unch ρ.key=true
theorem aPd {fr:Nat->Val}{d d':Nat}{u v:Val}(h:d≠d'):kB (kB fr d u) d' v=kB (kB fr d' v) d u:=by
 funext i
 simp only[kB]
 by_cases h1:i=d'
 ·subst h1;rw[if_pos rfl,if_neg fun e:i=d=>h e.symm,if_pos rfl]
 ·rw[if_neg h1,if_neg h1]
theorem zY {fr:Nat->Val}{d d':Option Nat}{u v:Val}(h: ∀x,d=some x->d'≠some x):fT (fT fr d u) d' v=fT (fT fr d' v) d u:=by
 cases d with
 |none=>rfl
 |some d=>
  cases d' with
  |none=>rfl
  |some d'=>exact aPd fun e=>h d rfl (by rw[e])
theorem aMe {fr:Nat->Val}{d:Option Nat}{v:Val}{t:Nat}(h: ∀x,d=some x->t≠x):fT fr d v t=fr t:=by
 cases d with
 |none=>rfl
 |some d=>simp only[fT,kB];rw[if_neg (h d rfl)]
theorem aKd.comm {o o':bH}{r r':Res}(h:aKd o o' r r')(hb:r.bump=true->o.dst.isSome=true)(hb':r'.bump=true->o'.dst.isSome=true)(s:St):
  mW o' r' (mW o r s)=mW o r (mW o' r' s):=by
 simp only[mW];cases hm:r.mem with
 |some p=>
  obtain⟨⟨q1,q2,q3⟩,_⟩:=h.m1 (by rw[hm];rfl)
  simp only[q1,q2,q3,W.applyAll,bZq,bXc,if_false];rw[zY h.dst]
 |none=>
  cases hm':r'.mem with
  |some p=>
   obtain⟨⟨q1,q2,_⟩,_⟩:=h.m2 (by rw[hm'];rfl)
   simp only[q1,q2,W.applyAll,bZq,bXc,if_false];rw[zY h.dst]
  |none=>
   simp only
   congr 1
   ·exact zY h.dst
   ·exact aHx _ _ _ h.ww
   ·by_cases hbb:r.bump=true
    ·by_cases hbb':r'.bump=true
     ·obtain⟨d,hd⟩:=bYt.1 (hb hbb);obtain⟨d',hd'⟩:=bYt.1 (hb' hbb');have hne:d≠d':=fun e=>h.dst d hd (by rw[hd',e])
      simp only[hbb,hbb',if_true,hd,hd',bX3]
      funext n t
      simp only[aQ]
      by_cases h1:n=0/\ t=d'
      ·obtain⟨rfl,rfl⟩:=h1;have h3: ¬t=d:=fun e=>hne e.symm
       simp[h3]
      ·by_cases h2:n=0/\ t=d
       ·obtain⟨rfl,rfl⟩:=h2;simp[hne]
       ·simp[h1,h2]
     ·simp[hbb']
    ·simp[hbb]
theorem aMf {en en':En}{ρ:R}(h:en ρ.key=en' ρ.key):fF en en' ρ:=by
 cases ρ<;>simp only[fF,R.key]at h⊢ <;>rw[h]
theorem aMg {o o':bH}{r r':Res}(hd: ∀d,o.dst=some d->o'.dst≠some d)(hu: ∀d,o.dst=some d->d∉o'.uses)(hwr: ∀w∈r.ws,∀ρ∈r'.rs,gE w ρ=true)
  (h1:r.mem.isSome=true->r'.quiet/\ ∀ρ∈r'.rs,r.unch ρ.key=true) (h2:r'.mem.isSome=true->r.quiet/\ ∀ρ∈r.rs,r'.unch ρ.key=true) (hb:r.bump=true->o.dst.isSome=true) (s:St):sO o' r' (mW o r s) s:=by
 refine⟨fun t ht=>?_,fun ρ hρ=>?_,fun hbump d hd'=>?_,fun hm=>?_⟩
 ·exact aMe fun x hx e=>hu x hx (e▸ht)
 ·simp only[mW];cases hm:r.mem with
  |some p=>have hu:=(h1 (by rw[hm];rfl)).2 ρ hρ;exact aMf (by simp only[hu,if_true])
  |none=>exact aHy _ _ _ fun w hw=>hwr w hw ρ hρ
 ·simp only[mW];cases hm:r.mem with
  |some p=>have:=(h1 (by rw[hm];rfl)).1.2.1;rw[hbump]at this;cases this
  |none=>
   simp only
   split
   ·rename_i hbb;obtain⟨d0,hd0⟩:=bYt.1 (hb hbb);simp only[hd0,bX3,aQ];rw[if_neg]
    rintro⟨_,rfl⟩
    exact hd _ hd0 hd'
   ·rfl
 ·obtain⟨⟨q1,q2,q3⟩,_⟩:=h2 hm;simp only[mW,q1,q2,q3,W.applyAll,bZq,bXc,if_false,and_self]
theorem aKd.like {o o':bH}{r r':Res}(h:aKd o o' r r')(hb:r.bump=true->o.dst.isSome=true)(s:St):sO o' r' (mW o r s) s:=
 aMg h.dst h.use h.wr h.m1 h.m2 hb s
theorem aKd.like' {o o':bH}{r r':Res}(h:aKd o o' r r')(hb:r'.bump=true->o'.dst.isSome=true)(s:St):sO o r (mW o' r' s) s:=
 aMg (fun d hd hd'=>h.dst d hd' hd) h.use' h.rw h.m2 h.m1 hb s
structure Run (n:Nat) (call:cR) (io:Inl) (l:Nat->bH) (r:Nat->Res) (N:Nat) (st:St) (s:Nat->St):Prop where
 zero:s 0=st
 step: ∀i,i<N->step n call io 0 (s i) (l i)=some (s (i+1),r i)
theorem Run.fold {n:Nat}{call:cR}{io:Inl}{l:Nat->bH}{r:Nat->Res}{N:Nat}{st:St}{s:Nat->St}(h:Run n call io l r N st s):
  ∀i,i<=N->s i=kD (fun k=>mW (l k) (r k)) (fun _=>true) st i
 |0,_=>h.zero
 |i+1,hi=>by
  simp only[kD,if_true];rw[<-h.fold i (by omega)]
  exact(aFo (h.step i (by omega))).1
theorem aFp {σ:Type}{E:Nat->σ->σ}{s:σ}{i:Nat}: ∀{N:Nat},i<=N->kD E (fun k=>decide (k<i)) s N=kD E (fun _=>true) s i
 |0,h=>by
  have:i=0:=by omega
  subst this;rfl
 |N+1,h=>by
  by_cases hi:i=N+1
  ·subst hi;exact fC fun k hk=>by simp[hk]
  ·simp only[kD];rw[if_neg (by simp;omega),aFp (by omega)]
theorem aVz {n:Nat}{call:cR}{io:Inl}{l:Nat->bH}{r:Nat->Res}{N:Nat}{st:St}{s:Nat->St}(h:Run n call io l r N st s){ord:Nat->Nat->Prop}(hord: ∀i j,ord i j->i<j)
  (hfree: ∀i j,i<j->j<N-> ¬ord i j->aKd (l i) (l j) (r i) (r j)) {L:Nat->Bool} (hcl: ∀j,j<N->L j=true-> ∀i,ord i j->L i=true) {i:Nat} (hi:i<N) (hL:L i=false) (hr: ∀k,ord k i->L k=true):
  step n call io 0 (kD (fun k=>mW (l k) (r k)) L st N) (l i)=some (kD (fun k=>mW (l k) (r k)) (fun k=>k==i||L k) st N,r i):=by
 have hb: ∀k,k<N->(r k).bump=true->(l k).dst.isSome=true:=fun k hk=>(aFo (h.step k hk)).2.1
 have comm: ∀j k,j<k->k<N-> ¬ord j k-> ∀s,mW (l k) (r k) (mW (l j) (r j) s)=mW (l j) (r j) (mW (l k) (r k) s):=
  fun j k hjk hk ho s=>(hfree j k hjk hk ho).comm (hb j (by omega)) (hb k hk) s
 have a:sO (l i) (r i) (s i) (kD (fun k=>mW (l k) (r k)) (fun k=>decide (k<i)&&L k) st N):=by
  have h1:=zX (E:=fun k=>mW (l k) (r k)) (L:=fun k=>decide (k<i)) (s:=st) (n:=N) (sO (l i) (r i)) (sO.refl _ _) (fun _ _ _=>sO.trans) L N (bXd _) (fun j hj h1 h2=>by
   simp only[cAg]at h1;have ho: ¬ord j i:=fun ho=>by rw[hr j ho]at h2;cases h2
   refine⟨(hfree j i h1 hi ho).like (hb j hj),fun k hjk hk h3 h4=>comm j k hjk hk fun ho=>?_⟩
   rw[hcl k hk h4 j ho]at h2;cases h2)
  rw[fC (L':=fun k=>decide (k<i)) fun k hk=>by simp[hk],aFp (by omega),<-h.fold i (by omega)]at h1
  exact h1
 have b:sO (l i) (r i) (kD (fun k=>mW (l k) (r k)) L st N) (kD (fun k=>mW (l k) (r k)) (fun k=>decide (k<i)&&L k) st N):=by
  have h1:=zX (E:=fun k=>mW (l k) (r k)) (L:=L) (s:=st) (n:=N) (sO (l i) (r i)) (sO.refl _ _) (fun _ _ _=>sO.trans) (fun k=>decide (k<i)) N (bXd _) (fun j hj h1 h2=>by
   simp only[cAh]at h2;have hne:j≠i:=by rintro rfl;rw[hL]at h1;cases h1
   have hij:i<j:=by omega
   have ho: ¬ord i j:=fun ho=>by rw[hcl j hj h1 i ho]at hL;cases hL
   refine⟨(hfree i j hij hj ho).like' (hb j hj),fun k hjk hk h3 h4=>?_⟩
   simp only[cAg]at h4;omega)
  rw[fC (L':=L) fun k hk=>by simp[hk],fC (L':=fun k=>decide (k<i)&&L k) (fun k hk=>Bool.and_comm _ _)]at h1
  exact h1
 rw[aVy (h.step i hi) (a.trans b.symm)]
 congr 2
 refine(aCo hL hi fun k hik hk hLk s=>comm i k hik hk (fun ho=>?_) s).symm
 rw[hcl k hk hLk i ho]at hL;cases hL
end Go.Abs
namespace Go.Abs
open Go.RowKit (Below)
section
variable {P :Program}{Ξ:Env}{B:Nat}{S:Nat->Nat->Prop}{G:Gh}{st:St}{N:Nat}{a:Act}{w:World}{o:Oper}
theorem Rel.putO' (h:Rel P Ξ B S G st N a w)(dst:Option Nat){v:Val}{x:Value}(hv:VR (bC B S G w.heap.size) G w v x):
  dst.all (· <N)=true->Rel P Ξ B S G {st with fr:=fT st.fr dst v} N (a.put dst x) w:=by
 cases dst with
 |none=>exact fun _=>h
 |some d=>exact fun hd=>h.put (by simpa using hd) hv
theorem aA3 (hR:Rel P Ξ B S G st N a w){ops:Array Oper}{g:Option (Nat×Bool)}{b:Bool}(hg:aAu ops o.guard=some g)(hw:wanted st.fr g=some b):Region.wanted o (yielded ops a.tmps)=b:=by
 unfold Region.wanted;cases ho:o.guard with
 |none=>
  rw[ho]at hg;simp only[aAu,bXa]at hg;subst hg;simp only[wanted,bXa]at hw;exact hw
 |some p=>
  obtain⟨j,want⟩:=p;rw[ho]at hg;simp only[aAu]at hg
  split at hg
  case h_2=>cases hg
  rename_i t ht;simp only[bXa]at hg;subst hg;simp only[wanted]at hw;have hf:=hR.frame t;simp only[yielded,ht,Option.bind_some]
  split at hw
  ·rename_i b' hb;simp only[bXa]at hw;subst hw;rw[hb]at hf;have e:a.tmps.getD t undef= .bool b':=by
    generalize a.tmps.getD t undef=q at hf;cases hf;rfl
   have:a.tmps[t]?=some (.bool b'):=by
    rw[bXt]at e;cases h:a.tmps[t]? with
    |none=>rw[h]at e;simp[undef]at e
    |some u=>rw[h]at e;simp at e;rw[e]
   simp only[this];cases b'<;>cases want<;>rfl
  ·rename_i hb;simp only[bXa]at hw;subst hw;rw[hb]at hf;have e: ∀b',a.tmps[t]?≠some (.bool b'):=by
    intro b' h;rw[bXt,h]at hf;simp only[bX3]at hf;cases hf
   have:(match a.tmps[t]? with|some (.bool b)=>some b|_=>none)=none:=by
    cases h:a.tmps[t]? with
    |none=>rfl
    |some u=>cases u<;>first|rfl|exact absurd h (e _)
   simp only[this];rfl
  ·cases hw
def yE (P:Program)(Ξ:Env)(B:Nat)(S:Nat->Nat->Prop)(st st':St)(N:Nat)(a:Act)(w:World)(v:Val)(e:Ending)(w':World):Prop:=
 ∃x G',e= .returned x/\ Rel P Ξ B S G' {fr:=st.fr,en:=st'.en,cnt:=st'.cnt} N a w'/\ VR (bC B S G' w'.heap.size) G' w' v x/\ Below B w w'
structure aMh (P:Program) (io:Inl):Prop where
 fn: ∀f args v (st0 st':St),io.fn f args st0=some (v,st')→(∃fn,P.funcs[f]?=some fn∧(fn.name== "runtime.NumGoroutine")=false∧fn.body.isNone=false)∧
  ∀(Ξ:Env) (B:Nat) (S:Nat->Nat->Prop) (G:Gh) (st:St) (N:Nat) (a:Act) (w:World) (vals:Array Value),Rel P Ξ B S G st N a w->st0.en=st.en->st0.cnt=st.cnt->vals.size=args.length->
   (∀i,i<args.length->VR (bC B S G w.heap.size) G w (args.getD i .dead) (vals.getD i undef))->Calls P f vals w (yE P Ξ B S st st' N a w v)
 yld: ∀k args v (st0 st':St),io.yld k args st0=some (v,st')->
  ∀(Ξ:Env) (B:Nat) (S:Nat->Nat->Prop) (G:Gh) (st:St) (N:Nat) (a:Act) (w:World) (vals:Array Value) (l:Nat) (ro:Option Nat) (m:Nat),Rel P Ξ B S G st N a w->st0.en=st.en->st0.cnt=st.cnt->G.mp k=some l->vals.size=args.length->
   (∀i,i<args.length->VR (bC B S G w.heap.size) G w (args.getD i .dead) (vals.getD i undef))->
   ∃f tmps assign body,(Instr.yield l vals).run P w= .ok (.round l f tmps assign body) w/\ RoundIn (Fx ro) m P l f tmps assign body w (yE P Ξ B S st st' N a w v)
theorem aMi {I:Operand->Bool}{op:Op}{f:Opd}{ys:List Opd}(h:fB P I op=some (.icall f ys)): ∃c F,op= .call c/\ c.callee= .value F/\ aS F=some f/\ kT c.args.toList=some ys:=by
 cases op
 case call c=>
  simp only[fB]at h
  split at h
  ·rename_i F hc
   split at h
   ·simp only[bX4,bXr,bX5,bXa,LOp.icall.injEq]at h;obtain⟨x',h1,ys',h2,rfl,rfl⟩:=h;exact⟨c,F,rfl,hc,h1,h2⟩
   ·simp[bXr]at h
  all_goals (repeat' split at h)<;>simp[bXr,bXq]at h
 case binOp op t x y ty=>
  exfalso
  simp only[fB,bX4,bXr]at h;obtain⟨e,_,h⟩:=h
  split at h
  ·split at h
   ·simp[bXr]at h
   ·cases h
  ·split at h<;>simp[bXr]at h
 all_goals (exfalso;simp only[fB]at h;(repeat' split at h)<;>first|contradiction|(simp[bXr,bXq]at h))
theorem aMj {io:Inl}(hio:aMh P io)(hR:Rel P Ξ B S G st N a w){c:Call}{F:Operand}{x:Opd}{ys:List Opd}{v:Val}{st':St}(ho:o.op= .call c)(hc:c.callee= .value F)(h1:aS F=some x)(h2:kT c.args.toList=some ys)
  (hev:io.call (St.get st.fr x) (ys.map (St.get st.fr)) {st with fr:=fun _=> .dead}=some (v,st')) {ro:Option Nat} {m:Nat} {next:Act->World->Prop} {Q:Exit->Act->World->Prop}
  (k: ∀x w' G',Rel P Ξ B S G' {fr:=st.fr,en:=st'.en,cnt:=st'.cnt} N a w'->VR (bC B S G' w'.heap.size) G' w' v x->Below B w w'->next (a.put o.dst x) w'):o.wpIn (Fx ro) m P a w next Q:=by
 have hF:=aW hR h1;obtain⟨ly,vy⟩:=qZ hR h2;have conv: ∀i,i<ys.length->VR (bC B S G w.heap.size) G w ((ys.map (St.get st.fr)).getD i .dead) ((c.args.map a.eval).getD i undef):=by
  intro i hi;have:=vy i hi;have hi2:i<c.args.size:=by rw[ly]at hi;simpa using hi
  simpa[bXm,bXt,hi,hi2]using this
 unfold Inl.call at hev
 split at hev
 ·rename_i f A Z hf;rw[hf]at hF;generalize hgF:a.eval F=uF at hF;cases hF with
  |fn _ _ _ p q hp hq hvp hvq=>
  obtain⟨⟨fn,hfn,hnm,hbody⟩,hcalls⟩:=hio.fn _ _ _ _ _ hev;have hlen:(p++c.args.map a.eval++q).size=(A++ys.map (St.get st.fr)++Z).length:=by simp[hp,hq,ly]
  have hvals: ∀i,i<(A++ys.map (St.get st.fr)++Z).length->VR (bC B S G w.heap.size) G w ((A++ys.map (St.get st.fr)++Z).getD i .dead) ((p++c.args.map a.eval++q).getD i undef):=by
   intro i hi;simp only[bXm,bXt,bZ1,bZ2,bX8,Array.size_append,Array.size_map,bXj]at hi⊢;have e1:p.size=A.length:=hp;have e2:c.args.size=ys.length:=by simp[ly]
   rw[e1,e2];split
   ·split
    ·rename_i h;have:=hvp i h;simpa[bXm,bXt]using this
    ·have:=conv (i-A.length) (by omega)
     simpa[bXm,bXt]using this
   ·have:=hvq (i-(A.length+ys.length)) (by omega);simpa[bXm,bXt]using this
  have hrun:(execOp a.eval o).run P w= .ok (.enter f (p++c.args.map a.eval++q)) w:=by
   have hnm': ¬fn.name= "runtime.NumGoroutine" :=by simpa using hnm
   have hbody': ¬fn.body=none:=by intro h;rw[h]at hbody;cases hbody
   simp[execOp,ho,resolve,hc,hgF,Deferred.ofValue,invoke,callFunc,hfn,hnm',hbody']
  refine⟨fun _ _=>trivial,?_⟩
  rw[wC hrun (by simp),Oper.uponIn_enter]
  refine⟨fun h=>by simp[Fx,Fence.wide]at h,?_⟩
  refine wG (Calls.mono (hcalls Ξ B S G st N a w _ hR rfl rfl hlen hvals) ?_)
  rintro e w' ⟨x,G',rfl,hR',hv,hb⟩
  exact k x w' G' hR' hv hb
 ·rename_i key hf;rw[hf]at hF;generalize hgF:a.eval F=uF at hF;cases hF with
  |yld _ l hl=>
  obtain⟨f,tmps,as,bd,hy,hround⟩:=hio.yld _ _ _ _ _ hev Ξ B S G st N a w (c.args.map a.eval) l ro (m-1) hR rfl rfl hl (by simp[ly]) (fun i hi=>conv i (by simpa using hi))
  have hrun:(execOp a.eval o).run P w= .ok (.round l f tmps as bd) w:=by
   simp[execOp,ho,resolve,hc,hgF,Deferred.ofValue,invoke,hy]
  refine⟨fun _ _=>trivial,?_⟩
  rw[wC hrun (by simp),Oper.uponIn_round]
  refine⟨fun h=>by simp[Fx,Fence.wide]at h,RoundIn.mono hround ?_⟩
  rintro e w' ⟨x,G',rfl,hR',hv,hb⟩
  exact k x w' G' hR' hv hb
 ·cases hev
theorem aFq {n:Nat}{call:cR}{io:Inl}(hcall:rA P call)(hio:aMh P io)(hR:Rel P Ξ B S G st N a w){I:Operand->Bool}{ops:Array Oper}{lo:bH}{st':St}{r:Res}(hl:tX P I ops o=some lo)(hd:lo.dst.all (· <N)=true)
  (hs:step n call io 0 st lo=some (st',r)) {ro:Option Nat} {m:Nat} {next:Act->World->Prop} {Q:Exit->Act->World->Prop} (k: ∀a' w' G',Rel P Ξ B S G' st' N a' w'->Below B w w'->next a' w'):
  if Region.wanted o (yielded ops a.tmps)=true then o.wpIn (Fx ro) m P a w next Q else(∀f,o.about P w a.eval=some f->(Fx ro).fn f)/\ next (a.put o.dst undef) w:=by
 simp only[tX,bX4,bXr,bX5,bXa]at hl;obtain⟨lop,hop,g,hg,rfl⟩:=hl;simp only[step]at hs
 split at hs
 ·rename_i hw;simp only[bXa,bXk]at hs;obtain⟨rfl,rfl⟩:=hs;rw[aA3 hR hg hw,if_neg (by simp)]
  exact⟨fun _ _=>trivial,k _ _ G (hR.putO' o.dst (v:= .tup []) (x:=undef) (.tup [] #[] rfl (fun i hi=>by simp at hi)) hd) (Below.refl _ _)⟩
 ·rename_i hw;rw[aA3 hR hg hw,if_pos rfl]
  split at hs
  ·rename_i f args
   split at hs
   case h_2=>cases hs
   rename_i v st1 hc;simp only[bXa,bXk]at hs;obtain⟨rfl,rfl⟩:=hs;obtain⟨c,F,e1,e2,e3,e4⟩:=aMi hop;exact aMj hio hR e1 e2 e3 e4 hc fun x w' G' h1 h2 h3=>k _ _ G' (h1.putO' o.dst h2 hd) h3
  ·split at hs
   case h_2=>cases hs
   rename_i r' hev
   split at hs
   ·cases hs
   simp only[bXa,bXk]at hs;obtain⟨rfl,rfl⟩:=hs;exact aPa hcall hR hop hev ro m next Q fun x w' G' h1 h2 h3=>k _ _ G' (h1.putO' o.dst h2 hd) h3
 ·cases hs
end
end Go.Abs
namespace Go.Abs
open Go.RowKit (Below)
def jO :Res:={v:= .tup []}
theorem aFr {n:Nat}{call:cR}{io:Inl}: ∀{l:List bH} {st stn:St} {rs:List Res},oT n call io 0 l st=some (stn,rs)->
  rs.length=l.length/\ ∃s,Run n call io (fun i=>l.getD i default) (fun i=>rs.getD i jO) l.length st s/\ s l.length=stn
 |[],st,stn,rs,h=>by
  simp only[oT,bXa,bXk]at h;obtain⟨rfl,rfl⟩:=h;exact⟨rfl,fun _=>st,⟨rfl,fun i hi=>by simp at hi⟩,rfl⟩
 |o::l,st,stn,rs,h=>by
  simp only[oT]at h
  split at h
  case h_2=>cases h
  rename_i st' r hs
  split at h
  case h_2=>cases h
  rename_i st'' rs' hr;simp only[bXa,bXk]at h;obtain⟨rfl,rfl⟩:=h;obtain⟨hl,s,⟨h0,h1⟩,h2⟩:=aFr hr
  refine⟨by simp[hl],fun i=>match i with|0=>st|i+1=>s i,⟨rfl,fun i hi=>?_⟩,h2⟩
  match i with
  |0=>simpa[h0]using hs
  |i+1=>simpa using h1 i (by simpa using hi)
def oW (o:Oper):List Nat:=(o.after.toList.filter (Region.binds .any)).map (·.on)
theorem aDu : ∀{l:List Oper} {acc an:List (List Nat)},aE6 l acc=some an->(∀k,k<acc.length->an.getD k []=acc.getD k [])/\
  ∀m (h:m<l.length),(∀k∈oW l[m],k<acc.length+m)/\ ∀i∈an.getD (acc.length+m) [],∃k∈oW l[m],i=k \/i∈an.getD k []
 |[],acc,an,h=>by
  simp only[aE6,bXa]at h;subst h;exact⟨fun _ _=>rfl,fun m hm=>by simp at hm⟩
 |o::l,acc,an,h=>by
  simp only[aE6]at h
  split at h
  case isFalse=>cases h
  rename_i hd;obtain⟨h1,h2⟩:=aDu h;have hpre: ∀k,k<acc.length->an.getD k []=acc.getD k []:=fun k hk=>by
   rw[h1 k (by simp;omega)];simp[bXm,cAc hk]
  have hdir: ∀k∈oW o,k<acc.length:=fun k hk=>by simpa using bXo.1 hd k hk
  refine⟨hpre,fun m hm=>?_⟩
  match m with
  |0=>
   refine⟨fun k hk=>by simpa using hdir k hk,fun i hi=>?_⟩
   rw[bY2,h1 acc.length (by simp)]at hi
   simp only[bXm,List.getElem?_append_right (bXd _),Nat.sub_self,bXf,bX3,List.mem_eraseDups,bX1,bYk]at hi;rcases hi with hi|⟨k,hk,hi⟩
   ·exact⟨i,hi,.inl rfl⟩
   ·exact⟨k,hk,.inr (by rw[hpre k (hdir k hk),bXm];exact hi)⟩
  |m+1=>
   have:=h2 m (by simpa using hm)
   simp only[bX8,bXu,bYb]at this;rw[show acc.length+(0+1)+m=acc.length+(m+1)by omega]at this
   simpa using this
theorem aCp {ops:Array Oper}{an:List (List Nat)}(h:aX8 ops=some an){j:Nat}{o:Oper}(ho:ops[j]?=some o):
  (∀k∈oW o,k<j)/\ ∀i∈an.getD j [],∃k∈oW o,i=k \/i∈an.getD k []:=by
 obtain⟨hj,ho'⟩:=bY8.1 ho;have:=(aDu h).2 j (by simpa using hj)
 simpa[ho']using this
theorem bBt {ops:Array Oper}{an:List (List Nat)}(h:aX8 ops=some an): ∀j i,j<ops.size->i∈an.getD j []->i<j:=by
 intro j
 induction j using Nat.strongRecOn with
 |ind j ih=>
  intro i hj hi;obtain⟨h1,h2⟩:=aCp h (bY3 hj);obtain⟨k,hk,h3⟩:=h2 i hi;have:=h1 k hk;rcases h3 with rfl|h3
  ·exact this
  ·have:=ih k this i (by omega) h3;omega
def aRh (ops:Array Oper)(L:Nat->Bool):Prop:= ∀j o,ops[j]?=some o->L j=true-> ∀k∈oW o,L k=true
theorem aDv {ops:Array Oper}{an:List (List Nat)}(h:aX8 ops=some an){L:Nat->Bool}(hc:aRh ops L): ∀j o,ops[j]?=some o->(∀k∈oW o,L k=true)-> ∀i∈an.getD j [],L i=true:=by
 intro j
 induction j using Nat.strongRecOn with
 |ind j ih=>
  intro o ho hd i hi;obtain⟨h1,h2⟩:=aCp h ho;obtain⟨k,hk,h3⟩:=h2 i hi;have hkj:=h1 k hk;have hj:=(bY8.1 ho).1;rcases h3 with rfl|h3
  ·exact hd _ hk
  ·have hok:=bY3 (xs:=ops) (i:=k) (by omega)
   exact ih k hkj _ hok (hc k _ hok (hd k hk)) i h3
theorem bBu {an:List (List Nat)}{l:List bH}{ps:List (Nat×Nat)}(hp:xZ an l=some ps){rs:List Res}(hok:nX rs ps=true)
  (hw: ∀i,i<l.length->((l.getD i default).op.writesMem=false->(rs.getD i jO).quiet)/\ ((l.getD i default).op.readsMem=false->(rs.getD i jO).rs=[]))
  (hlt: ∀j i,j<l.length->i∈an.getD j []->i<j) {i j:Nat} (hij:i<j) (hj:j<l.length) (ho: ¬i∈an.getD j []):
  aKd (l.getD i default) (l.getD j default) (rs.getD i jO) (rs.getD j jO):=by
 have ho': ¬j∈an.getD i []:=fun h=>by have:=hlt i j (by omega) h;omega
 simp only[xZ]at hp
 split at hp
 case isFalse=>cases hp
 rename_i hall;simp only[bXa]at hp;have hst: ∀a b,a<l.length->b<l.length->a≠b-> ¬a∈an.getD b []-> ¬b∈an.getD a []-> ∀d,(l.getD a default).dst=some d->(l.getD b default).dst≠some d/\ d∉(l.getD b default).uses:=by
  intro a b ha hb hab h1 h2 d hd;have:=bXo.1 (bXo.1 hall b (bYz.2 hb)) a (bYz.2 ha);simp only[bZv,beq_iff_eq,hab,false_or,hd]at this;simp only[bXb,bne_iff_ne,ne_eq,bZv,bYh,List.contains_eq_mem,cAg,cAh]at this;exact⟨this.1,this.2.resolve_right fun h=>h.elim h1 h2⟩
 have hmem:(((l.getD i default).op.writesMem&&((l.getD j default).op.readsMem||(l.getD j default).op.writesMem))||((l.getD j default).op.writesMem&&(l.getD i default).op.readsMem))=true->(i,j)∈ps:=by
  intro hc;rw[<-hp];simp only[bYk,bYz,bXy,bY0,bXb,bYh]
  refine⟨j,hj,i,⟨hij,?_,hc⟩,rfl⟩
  simp only[List.contains_eq_mem,Bool.or_eq_false_iff,cAh];exact⟨ho,ho'⟩
 have heff:(∀w∈(rs.getD i jO).ws,∀w'∈(rs.getD j jO).ws,kS w w'=true)/\ (∀w∈(rs.getD i jO).ws,∀ρ∈(rs.getD j jO).rs,gE w ρ=true)/\
   (∀w∈(rs.getD j jO).ws,∀ρ∈(rs.getD i jO).rs,gE w ρ=true)/\ ((rs.getD i jO).mem.isSome=true->(rs.getD j jO).quiet/\ ∀ρ∈(rs.getD j jO).rs,(rs.getD i jO).unch ρ.key=true)/\
   ((rs.getD j jO).mem.isSome=true->(rs.getD i jO).quiet/\ ∀ρ∈(rs.getD i jO).rs,(rs.getD j jO).unch ρ.key=true):=by
  by_cases hc:(((l.getD i default).op.writesMem&&((l.getD j default).op.readsMem||(l.getD j default).op.writesMem))||((l.getD j default).op.writesMem&&(l.getD i default).op.readsMem))=true
  ·have:=bXo.1 hok _ (hmem hc)
   simp only at this
   split at this
   case h_2=>cases this
   rename_i a b ha hb;simp only[bXm,ha,hb,bX3];simp only[sZ]at this
   split at this
   ·rename_i h1;simp only[bXb,Res.still,List.isEmpty_iff,bYh,bXo,Option.isNone_iff_eq_none]at this;obtain⟨⟨e0,⟨q1,q2⟩,q3⟩,q4⟩:=this;rw[e0,q1];exact⟨fun w h=>(by simp at h),fun w h=>(by simp at h),fun w h=>(by simp at h),fun _=>⟨⟨q1,q2,q3⟩,q4⟩,fun h=>(by rw[q3]at h;cases h)⟩
   ·rename_i h1
    split at this
    ·rename_i h2;simp only[bXb,Res.still,List.isEmpty_iff,bYh,bXo,Option.isNone_iff_eq_none]at this;obtain⟨⟨e0,⟨q1,q2⟩,q3⟩,q4⟩:=this;rw[e0,q1];exact⟨fun w h=>(by simp at h),fun w h=>(by simp at h),fun w h=>(by simp at h),fun h=>absurd h h1,fun _=>⟨⟨q1,q2,q3⟩,q4⟩⟩
    ·rename_i h2;simp only[bXb,bXo]at this;obtain⟨t1,t2⟩:=this;exact⟨fun w h w' h'=>(t1 w h).2 w' h',fun w h ρ h'=>(t1 w h).1 ρ h',fun w h ρ h'=>t2 w h ρ h',fun h=>absurd h h1,fun h=>absurd h h2⟩
  ·have hi:=hw i (by omega)
   have hj:=hw j hj;cases h1:(l.getD i default).op.writesMem with
   |false=>
    have q:=hi.1 h1;have e1:=q.1;have e3:=q.2.2;rw[e1,e3]
    refine⟨fun w h=>by simp at h,fun w h=>by simp at h,?_,fun h=>(by cases h),fun h=>⟨q,?_⟩⟩
    ·cases h2:(l.getD j default).op.writesMem with
     |false=>rw[(hj.1 h2).1];intro w h;simp at h
     |true=>
      have:(l.getD i default).op.readsMem=false:=by simp only[h1,h2,bX6,bX0,bYy]at hc;simpa using hc
      rw[hi.2 this];intro w _ ρ h;simp at h
    ·cases h2:(l.getD j default).op.writesMem with
     |false=>rw[(hj.1 h2).2.2]at h;cases h
     |true=>
      have:(l.getD i default).op.readsMem=false:=by simp only[h1,h2,bX6,bX0,bYy]at hc;simpa using hc
      exact fun ρ hρ=>(by rw[hi.2 this]at hρ;simp at hρ)
   |true=>
    simp only[h1,bX0,bZv,not_or,bXb]at hc;obtain⟨⟨h2,h3⟩,h4⟩:=hc;have q:=hj.1 (by simpa using h3)
    have e1:=q.1;have e3:=q.2.2;have e2:=hj.2 (by simpa using h2)
    rw[e1,e2,e3];exact⟨fun w _ w' h=>by simp at h,fun w _ ρ h=>by simp at h,fun w h=>by simp at h,fun _=>⟨q,fun ρ hρ=>(by simp at hρ)⟩,fun h=>(by cases h)⟩
 obtain⟨f1,f2,f3,f4,f5⟩:=heff;exact⟨fun d hd=>(hst i j (by omega) hj (by omega) ho ho' d hd).1,fun d hd=>(hst i j (by omega) hj (by omega) ho ho' d hd).2,fun d hd=>(hst j i hj (by omega) (by omega) ho' ho d hd).2,f1,f2,f3,f4,f5⟩
theorem aFs (f g:Nat->Bool)(i:Nat)(hf:f i=true)(hg:g i=false)(h: ∀k,k≠i->g k=f k): ∀N,i<N->(List.range N).countP g+1=(List.range N).countP f
 |0,h=>by omega
 |N+1,hi=>by
  simp only[bY1,List.countP_append,List.countP_singleton]
  by_cases hn:i=N
  ·subst hn;have:(List.range i).countP g=(List.range i).countP f:=List.countP_congr fun k hk=>by
    have:=bYz.1 hk;rw[h k (by omega)]
   simp[this,hf,hg]
  ·have:=aFs f g i hf hg h N (by omega)
   rw[h N (by omega)]
   omega
section
variable {P :Program}{Ξ:Env}{B:Nat}{S:Nat->Nat->Prop}{N:Nat}{ops:Array Oper}{l:List bH}{n:Nat}{call:cR}{io:Inl}{I:Operand->Bool}{ro:Option Nat}{m:Nat}
theorem aV0 (hcall:rA P call)(hio:aMh P io)(hl:dO (tX P I ops) ops.toList=some l)(hd:l.all (fun o=>o.dst.all (· <N))=true){Q:Exit->Act->World->Prop}:
  ∀(k i:Nat) (st st':St) (G:Gh) (a:Act) (w:World),i+k=ops.size->Rel P Ξ B S G st N a w->oS n call io 0 (l.drop i) st=some st'->
   (∀a' w' G',Rel P Ξ B S G' st' N a' w'->Below B w w'->Q .normal a' w')->wpOpsIn (Fx ro) m P ops Q (List.range' i k) a w:=by
 obtain⟨l1,l2⟩:=kL hl;intro k
 induction k with
 |zero=>
  intro i st st' G a w hik hR hrun hQ;have:l.drop i=[]:=List.drop_eq_nil_iff.2 (by rw[l1];simp;omega)
  rw[this]at hrun;simp only[oS,bXa]at hrun;subst hrun;exact hQ a w G hR (Below.refl _ _)
 |succ k ih=>
  intro i st st' G a w hik hR hrun hQ;have hi:i<ops.size:=by omega
  have hil:i<l.length:=by rw[l1];simpa using hi
  rw[bX7 hil]at hrun;simp only[oS]at hrun
  split at hrun
  case h_2=>cases hrun
  rename_i st1 r hs;rw[List.range'_succ,wpOpsIn_cons];unfold wpOpIn;rw[bY3 hi];have hlow:=l2 i (by simpa using hi) hil
  simp only[Array.getElem_toList]at hlow;exact aFq hcall hio hR hlow (bXo.1 hd _ (bXn hil)) hs fun a' w' G' h1 h2=>
   ih (i+1) st1 st' G' a' w' (by omega) h1 hrun fun a'' w'' G'' h3 h4=>hQ a'' w'' G'' h3 (h2.trans h4)
theorem aV1 (hcall:rA P call)(hio:aMh P io)(hl:dO (tX P I ops) ops.toList=some l)(hd:l.all (fun o=>o.dst.all (· <N))=true){an:List (List Nat)}(han:aX8 ops=some an)
  {ps:List (Nat×Nat)} (hps:xZ an l=some ps) {st stn:St} {rs:List Res} (hrun:oT n call io 0 l st=some (stn,rs)) (hok:nX rs ps=true) {Q:Exit->Act->World->Prop}:
  ∀(fuel:Nat) (listed:Array Bool) (G:Gh) (a:Act) (w:World),listed.size=ops.size->(List.range ops.size).countP (fun i=>!listed.getD i false)<=fuel->aRh ops (fun i=>listed.getD i false)->
   Rel P Ξ B S G (kD (fun k=>mW (l.getD k default) (rs.getD k jO)) (fun i=>listed.getD i false) st ops.size) N a w->(∀a' w' G',Rel P Ξ B S G' stn N a' w'->Below B w w'->Q .normal a' w')->
   wpAnyIn (Fx ro) m P .any ops Q fuel listed a w:=by
 obtain⟨l1,l2⟩:=kL hl;have hN:l.length=ops.size:=by rw[l1];simp
 obtain⟨hrl,s,hrun',hsn⟩:=aFr hrun;rw[hN]at hrun' hsn;have hlt:=bBt han;have hw: ∀i,i<l.length->((l.getD i default).op.writesMem=false->(rs.getD i jO).quiet)/\ ((l.getD i default).op.readsMem=false->(rs.getD i jO).rs=[]):=
  fun i hi=>(aFo (hrun'.step i (by omega))).2.2
 have hfree: ∀i j,i<j->j<ops.size-> ¬i∈an.getD j []->aKd (l.getD i default) (l.getD j default) (rs.getD i jO) (rs.getD j jO):=
  fun i j hij hj ho=>bBu hps hok hw (fun j i hj hi=>hlt j i (by omega) hi) hij (by omega) ho
 have full: ∀(listed:Array Bool),listed.size=ops.size->Region.ready .any ops listed=[]-> ∀i,i<ops.size->listed.getD i false=true:=by
  intro listed hsz hr i
  induction i using Nat.strongRecOn with
  |ind i ih=>
   intro hi;cases hb:listed.getD i false with
   |true=>rfl
   |false=>
    exfalso
    have hm:i∈Region.ready .any ops listed:=by
     rw[mem_ready]
     refine⟨?_,ops[i],bY3 hi,fun e he hbd=>?_⟩
     ·rw[bXt,bY3 (by omega)]at hb⊢;simpa using hb
     ·have hk:e.on∈oW ops[i]:=bXy.2 ⟨e,bY0.2 ⟨by simpa using he,hbd⟩,rfl⟩
      have:=(aCp han (bY3 hi)).1 _ hk;exact ih _ this (by omega)
    rw[hr]at hm;simp at hm
 have done: ∀(listed:Array Bool) (G:Gh) (a:Act) (w:World),listed.size=ops.size->Region.ready .any ops listed=[]->
   Rel P Ξ B S G (kD (fun k=>mW (l.getD k default) (rs.getD k jO)) (fun i=>listed.getD i false) st ops.size) N a w->(∀a' w' G',Rel P Ξ B S G' stn N a' w'->Below B w w'->Q .normal a' w')->Q .normal a w:=by
  intro listed G a w hsz hr hR hQ
  refine hQ a w G ?_ (Below.refl _ _)
  rw[fC (L':=fun _=>true) fun i hi=>full listed hsz hr i hi,<-hrun'.fold _ (bXd _),hsn]at hR
  exact hR
 intro fuel
 induction fuel with
 |zero=>
  intro listed G a w hsz hc hcl hR hQ;have hr:Region.ready .any ops listed=[]:=by
   cases h:Region.ready .any ops listed with
   |nil=>rfl
   |cons i rest=>
    exfalso
    have hm:i∈Region.ready .any ops listed:=by rw[h];simp
    obtain⟨h0,o,ho,_⟩:=mem_ready.1 hm;have hi:=(bY8.1 ho).1;have hb:listed.getD i false=false:=by
     rw[bXt,bY3 (by omega)]at h0⊢;simpa using h0
    have:=List.countP_pos_iff (p:=fun i=>!listed.getD i false) (l:=List.range ops.size)|>.2 ⟨i,bYz.2 hi,by simp only[hb];rfl⟩
    omega
  exact⟨hr,done listed G a w hsz hr hR hQ⟩
 |succ fuel ih=>
  intro listed G a w hsz hc hcl hR hQ
  refine⟨fun hr=>done listed G a w hsz hr hR hQ,fun i hm=>?_⟩
  obtain⟨h0,o,ho,hready⟩:=mem_ready.1 hm;have hi:=(bY8.1 ho).1;have hoi:o=ops[i]:=by rw[bY3 hi,bXa]at ho;exact ho.symm
  have hb:listed.getD i false=false:=by
   rw[bXt,bY3 (by omega)]at h0⊢;simpa using h0
  have hdir: ∀k∈oW o,listed.getD k false=true:=by
   intro k hk;obtain⟨e,he,rfl⟩:=bXy.1 hk;obtain⟨he1,he2⟩:=bY0.1 he;exact hready e (by simpa using he1) he2
  have hst:=aVz hrun' (ord:=fun i j=>j<ops.size/\ i∈an.getD j []) (fun i j h=>hlt j i h.1 h.2) (fun i j hij hj ho=>hfree i j hij hj fun h=>ho ⟨hj,h⟩) (L:=fun i=>listed.getD i false)
   (fun j hj hLj i hord=>aDv han hcl j _ (bY3 hj) (hcl j _ (bY3 hj) hLj) i hord.2) hi hb
   (fun k hk=>aDv han hcl i o ho hdir k hk.2)
  have hset: ∀k,(listed.setIfInBounds i true).getD k false=(k==i||listed.getD k false):=by
   intro k
   by_cases hk:k=i
   ·subst hk;simp[show k<listed.size by omega]
   ·rw[getD_set_ne false fun e=>hk e.symm]
    have:(k==i)=false:=by simpa using hk
    rw[this,bYy]
  have hil:i<l.length:=by omega
  have hlow:=l2 i (by simpa using hi) hil
  simp only[Array.getElem_toList]at hlow;have hli:l.getD i default=l[i]:=by simp[bXm,hil]
  rw[hli]at hst;unfold wpOpIn;rw[bY3 hi]
  refine aFq hcall hio hR hlow (bXo.1 hd _ (bXn hil)) hst fun a' w' G' h1 h2=>?_
  refine ih _ G' a' w' (by simpa using hsz) ?_ ?_ ?_ fun a'' w'' G'' h3 h4=>hQ a'' w'' G'' h3 (h2.trans h4)
  ·have:=aFs (fun i=>!listed.getD i false) (fun k=>!(listed.setIfInBounds i true).getD k false) i (by simp only[hb];rfl) (by simp only[hset];simp) (fun k hk=>by
    simp only[hset];have:(k==i)=false:=by simpa using hk
    rw[this,bYy]) ops.size hi
   omega
  ·intro j oj hoj hLj k hk;simp only[hset]at hLj⊢
   by_cases hj:j=i
   ·subst hj;rw[ho,bXa]at hoj;subst hoj;rw[hdir k hk,bXg]
   ·have:(j==i)=false:=by simpa using hj
    rw[this,bYy]at hLj;have h5:listed.getD k false=true:=hcl j oj hoj hLj k hk;rw[h5,bXg]
  ·rw[fC (L':=fun k=>k==i||listed.getD k false) fun k _=>hset k]
   exact h1
end
end Go.Abs
namespace Go.Abs
open Go.RowKit (Below)
def Ex.toExit :Ex->Exit
 | .normal=> .normal
 | .exit id=> .exit id
 | .ret=> .ret
def rB (P:Program)(L:cV)(n:Nat):Prop:= ∀(I:Operand->Bool) (N:Nat) (c:Code) (st:St) (e:Ex) (st':St) (Ξ:Env) (B:Nat) (S:Nat->Nat->Prop) (G:Gh) (a:Act) (w:World) (Q:Exit->Act->World->Prop) (m:Nat),
 (dM P I c).dstOk N=true->Rel P Ξ B S G st N a w->exec L n (dM P I c) st=some (e,st')->(∀a' w' G',Rel P Ξ B S G' st' N a' w'->Below B w w'->Q e.toExit a' w')->c.wpIn (Fx Ξ.ro) m P Q a w
theorem aV2 {P:Program}{Ξ:Env}{B:Nat}{S:Nat->Nat->Prop}{G:Gh}{st:St}{N:Nat}{a:Act}{w:World}(hR:Rel P Ξ B S G st N a w){rv:ResultVar}{lr:aVl}(hl:zN P rv=some lr){v:Val}(hv:pH st lr=some v):
  ∃x,(match rv with
   | .tmp t=>(pure (a.tmps.getD t undef):Sem Value)
   | .cell c t=>do loadVar t (<-asAddr (a.tmps.getD c undef))).run P w= .ok x w/\ VR (bC B S G w.heap.size) G w v x:=by
 cases rv with
 |tmp t=>
  simp only[zN,bXa]at hl;subst hl;simp only[pH,bXa]at hv;subst hv;exact⟨_,rfl,hR.frame t⟩
 |cell c t=>
  simp only[zN]at hl
  split at hl
  case isFalse=>cases hl
  rename_i hu;simp only[bXa]at hl;subst hl;simp only[pH]at hv
  split at hv
  case h_2=>cases hv
  rename_i cs rs hr;obtain⟨b,off,hx,hlen,hc⟩:=aFf hR (hR.frame c) hr;obtain⟨x,h1,h2⟩:=wD hu rfl hlen hc hv
  refine⟨x,?_,h2⟩
  simp only[hx,asAddr,Sem.run_bind,Sem.run_pure,Result.andThen_ok,h1]
theorem aFt {P:Program}{Ξ:Env}{B:Nat}{S:Nat->Nat->Prop}{G:Gh}{st:St}{N:Nat}{a:Act}{w:World}(hR:Rel P Ξ B S G st N a w): ∀(rvs:List ResultVar) (lrs:List aVl) (vs:List Val),
  dO (zN P) rvs=some lrs->dO (pH st) lrs=some vs->
  ∃xs:List Value,(rvs.mapM fun(rv:ResultVar)=>(match rv with
   | .tmp t=>(pure (a.tmps.getD t undef):Sem Value)
   | .cell c t=>do loadVar t (<-asAddr (a.tmps.getD c undef)))).run P w= .ok xs w/\ xs.length=vs.length/\ ∀i,i<vs.length->VR (bC B S G w.heap.size) G w (vs.getD i .dead) (xs.getD i undef)
 |[],lrs,vs,h1,h2=>by
  simp only[dO,bXa]at h1;subst h1;simp only[dO,bXa]at h2;subst h2;exact⟨[],rfl,rfl,fun i hi=>by simp at hi⟩
 |rv::rvs,lrs,vs,h1,h2=>by
  simp only[dO]at h1
  split at h1
  case h_2=>cases h1
  rename_i lr hl
  split at h1
  case h_2=>cases h1
  rename_i lrs' hls;simp only[bXa]at h1;subst h1;simp only[dO]at h2
  split at h2
  case h_2=>cases h2
  rename_i v hv
  split at h2
  case h_2=>cases h2
  rename_i vs' hvs;simp only[bXa]at h2;subst h2;obtain⟨x,e1,e2⟩:=aV2 hR hl hv;obtain⟨xs,f1,f2,f3⟩:=aFt hR rvs lrs' vs' hls hvs
  refine⟨x::xs,?_,by simp[f2],fun i hi=>?_⟩
  ·rw[List.mapM_cons,Sem.run_bind,e1,Result.andThen_ok,Sem.run_bind,f1,Result.andThen_ok];rfl
  ·match i with
   |0=>simpa using e2
   |i+1=>simpa using f3 i (by simpa using hi)
theorem yY {P:Program}{Ξ:Env}{B:Nat}{S:Nat->Nat->Prop}{G:Gh}{st:St}{N:Nat}{a:Act}{w:World}(hR:Rel P Ξ B S G st N a w){fn:Func}{lrs:List aVl}{vs:List Val}
  (h1:dO (zN P) fn.results.toList=some lrs) (h2:dO (pH st) lrs=some vs): ∃x,(results fn a.tmps).run P w= .ok x w/\ VR (bC B S G w.heap.size) G w (yX vs) x:=by
 obtain⟨xs,hrun,hxl,hxv⟩:=aFt hR fn.results.toList lrs vs h1 h2
 refine⟨if h:xs.length=1 then xs[0]else .tuple xs.toArray,?_,?_⟩
 ·have:(fn.results.mapM fun(rv:ResultVar)=>(match rv with
   | .tmp t=>(pure (a.tmps.getD t undef):Sem Value)
   | .cell c t=>do loadVar t (<-asAddr (a.tmps.getD c undef)))).run P w= .ok xs.toArray w:=by
   rw[Array.mapM_eq_mapM_toList,Sem.run_map,hrun];rfl
  simp only[results,Sem.run_bind]
  refine Eq.trans (congrArg (fun z=>Result.andThen z _) this) ?_
  simp
 ·unfold yX;split
  ·rename_i v1;have h1:xs.length=1:=by simpa using hxl
   rw[dif_pos h1];have:=hxv 0 (by simp)
   simpa[bXm,h1]using this
  ·rename_i hne;have h1: ¬xs.length=1:=by
    rw[hxl];intro h1
    match vs,h1 with
    |[v1],_=>exact hne v1 rfl
   rw[dif_neg h1];exact .tup vs xs.toArray (by simp[hxl]) fun i hi=>by
    have:=hxv i hi
    simpa[bXm,bXt]using this
def eS (w:World):List Nat->World
 |[]=>w
 |D::Ds=>eS (iU w D (.deferred none)) Ds
theorem yF (w:World): ∀Ds,(eS w Ds).heap.size=w.heap.size
 |[]=>rfl
 |D::Ds=>by rw[eS,yF _ Ds,lW]
theorem uG : ∀(Ds:List Nat) (w:World) {b:Nat},b∉Ds->(eS w Ds).heap[b]?=w.heap[b]?
 |[],_,_,_=>rfl
 |D::Ds,w,b,h=>by
  simp only[bYe,not_or]at h;rw[eS,uG Ds _ h.2,eD _ h.1]
theorem zZ {B:Nat}: ∀(Ds:List Nat) (w:World),(∀D∈Ds,B<=D)->Below B w (eS w Ds)
 |[],w,_=>Below.refl _ _
 |D::Ds,w,h=>(qO (w:=w) (h D (by simp))).trans (zZ Ds _ fun D' hD'=>h D' (by simp[hD']))
theorem aDw (w:World)(D:Nat)(o:Obj):w.putObj D o=iU w D o:=rfl
theorem uH {F:Fence}{n:Nat}{P:Program}{fn:Func}{tmps:Array Value}{R:Ending->World->Prop}: ∀(Ds:List Nat) (w:World),Ds.Nodup->(∀D∈Ds,w.heap[D]?=some (.deferred (some [])))->
  LeavesInM F n P fn tmps R [] .returning (eS w Ds)->LeavesInM F n P fn tmps R (Ds.map aJw) .returning w
 |[],w,_,_,h=>h
 |D::Ds,w,hn,hD,h=>by
  rw[List.nodup_cons]at hn
  refine⟨by simp,.inl ⟨D,_,rfl,run_takeDeferred (hD D (by simp)),?_⟩⟩
  rw[aDw]
  refine uH Ds _ hn.2 (fun D' hD'=>?_) h
  have hne:D'≠D:=by rintro rfl;exact hn.1 hD'
  rw[eD _ hne];exact hD D' (by simp[hD'])
end Go.Abs
namespace Go.Abs
open Go.RowKit (Below)
theorem Rel.shut {P:Program}{Ξ:Env}{B:Nat}{S:Nat->Nat->Prop}{G:Gh}{st:St}{N:Nat}{a:Act}{w:World}(hR:Rel P Ξ B S G st N a w):
  ∃Ds:List Nat,a.defers=Ds.map aJw/\ Ds.Nodup/\ (∀D∈Ds,w.heap[D]?=some (.deferred (some [])))/\ (∀D∈Ds,B<=D)/\ Rel P Ξ B S G st N {a with defers:=[]} (eS w Ds):=by
 obtain⟨Ds,h1,h2,h3⟩:=hR.marks;have hoth: ∀{b:Nat} {o:Obj},w.heap[b]?=some o->o≠ .deferred (some [])->(eS w Ds).heap[b]?=some o:=by
  intro b o ho hne;rw[uG Ds w fun hb=>hne (by rw[(h3 b hb).2.2]at ho;exact(Option.some.inj ho).symm)];exact ho
 have hcell: ∀{b q:Nat} {c:Value},w.cell? ⟨b,q,.none⟩=some c->(eS w Ds).cell? ⟨b,q,.none⟩=some c:=by
  intro b q c hc
  by_cases hb:b∈Ds
  ·simp only[World.cell?,(h3 b hb).2.2]at hc;cases hc
  ·rw[nZ (uG Ds w hb)];exact hc
 have m:aAw (bC B S G w.heap.size) G w (bC B S G (eS w Ds).heap.size) G (eS w Ds):=
  ⟨fun b q h=>by rw[yF];exact h,G.le_refl,fun b q c _ h=>hcell h,fun r es cl _ h=>hoth h (by simp)⟩
 refine⟨Ds,h1,h2,fun D hD=>(h3 D hD).2.2,fun D hD=>(h3 D hD).1,?_⟩
 refine hR.change4 (a':={a with defers:=[]}) (G':=G) (en':=st.en) (cnt':=st.cnt) rfl m (by rw[yF];exact bXd _) (fun k e he=>?_) (fun k hk=>⟨hR.freshEn k hk,hR.freshG k hk⟩) (fun b k t hb=>by rw[yF];exact hR.own b k t hb)
  (fun _ _ h=>h) ⟨[],rfl,List.nodup_nil,fun D hD=>by simp at hD⟩ (fun l hl=>let ⟨r,hr⟩:=hR.round l hl;⟨r,hoth hr (by simp)⟩) (fun D hD=>?_)
 ·have hE:=hR.ents k e he;cases hE with
  |box cs frz b c t hb hB h hs ho hv hown=>exact .box cs frz b c t hb hB (hoth h (by simp)) hs ho (fun j hj=>(hv j hj).mono4 m) hown
  |nul sz frz h=>exact .nul sz frz h
  |blk xs frz b base sz C thr c t hb hB h hC hC' hs ho hv hown hthr=>exact .blk xs frz b base sz C thr c t hb hB (hoth h (by simp)) hC hC' hs ho (fun i j hi hj=>(hv i j hi hj).mono4 m.none) hown hthr
  |full xs b base sz c hb hs h ht ho hv=>exact .full xs b base sz c hb hs (fun i j hi hj=>hcell (h i j hi hj)) (fun i j hi hj=>m.t _ _ (ht i j hi hj)) ho (fun i j hi hj=>(hv i j hi hj).mono4 m.none)
  |map ks vs frz r es clock hr hB h hk hl hkv hvv hown=>exact .map ks vs frz r es clock hr hB (hoth h (by simp)) hk hl (fun i hi=>(hkv i hi).mono4 m.none) (fun i hi=>(hvv i hi).mono4 m.none) hown
  |loop fr ps la lb s l rec I N' hl hB h hps ha hb hN hpN haN hbN hf hst hown=>exact .loop fr ps la lb s l rec I N' hl hB (hoth h (by simp)) hps ha hb hN hpN haN hbN (fun i=>(hf i).mono4 m) hst hown
  |iter s pos r hr hB h hown=>exact .iter s pos r hr hB (hoth h (by simp)) hown
 ·rw[uG Ds w fun h=>(h3 D h).2.1 hD];exact hR.defs D hD
theorem aMk {P:Program}{I:Operand->Bool}{keep amb:Bool}{fn:Func}{lf:aM}(h:aAv P I keep amb fn=some lf):
  ∃c,fn.body=some c∧lf.body=dM P I c∧(dM P I c).dstOk fn.ntmps=true∧lf.np≤fn.ntmps∧(fn.name== "runtime.NumGoroutine")=false∧dO (zN P) fn.results.toList=some lf.res:=by
 simp only[aAv]at h
 split at h
 ·cases h
 rename_i c hbody
 split at h
 case isFalse=>cases h
 rename_i hck;simp only[bXb,cAg,bne_iff_ne,ne_eq]at hck;obtain⟨lres,hres,rfl⟩:=bXq.1 h;exact⟨c,hbody,rfl,hck.1.1,hck.1.2,by simpa using hck.2,hres⟩
def tE (P:Program)(L:cV):Prop:= ∀f lf,L f=some lf-> ∃fn I keep amb,P.funcs[f]?=some fn/\ aAv P I keep amb fn=some lf
theorem aCq {P:Program}{L:cV}(hL:tE P L){n k:Nat}(ih:rB P L n){f:Nat}{lf:aM}(hlf:L f=some lf){args:List Val}{r:Val}(hlen:args.length=lf.np)(h:gR lf k (exec L n) args=some r):
  (∃fn,P.funcs[f]?=some fn∧(fn.name== "runtime.NumGoroutine")=false∧fn.body.isNone=false)∧
  ∀(S:Nat->Nat->Prop) (w:World) (vals:Array Value),(∀b o,S b o->b<w.heap.size)->vals.size=args.length->(∀i,i<args.length->VR S Gh.none w (args.getD i .dead) (vals.getD i undef))->
   Calls P f vals w fun e w'=> ∃v,e= .returned v/\ Below w.heap.size w w'/\ aFk w.heap.size (zV w S w') w' r v:=by
 obtain⟨fn,I,keep,amb,hfn,hlow⟩:=hL f lf hlf;obtain⟨c,hbody,hb,hdst,hnp,hname,hres⟩:=aMk hlow;simp only[gR]at h
 split at h
 case h_2=>cases h
 rename_i e st hx
 split at h
 case isFalse=>cases h
 rename_i hends
 refine⟨⟨fn,hfn,hname,by rw[hbody];rfl⟩,fun S w vals hS hvl hv=>?_⟩
 let Ξ:Env:={prs:=fun _ _=>False,ro:=none,rnd:=fun _=>False,defs:=fun _=>False}
 have hR0:Rel P Ξ w.heap.size S Gh.none (start args) fn.ntmps {tmps:=vals++Array.replicate (fn.ntmps-vals.size) undef,defers:=[]} w:=by
  refine⟨bXd _,by simp;omega,fun i=>?_,⟨[],rfl,List.nodup_nil,fun D hD=>by simp at hD⟩,fun k e hk=>by simp[start]at hk,fun _ _=>rfl,fun _ _=>⟨rfl,rfl,rfl⟩,fun b k t hb=>by simp[Gh.none]at hb,fun _ _ h=>h.elim,
   fun l hl=>by rcases hl with h|h;cases h;exact h.elim,fun _ h=>h.elim⟩
  simp only[start]
  by_cases hi:i<args.length
  ·have h1:=(hv i hi).mono4 (T':=bC w.heap.size S Gh.none w.heap.size) (G':=Gh.none) (w':=w) ⟨fun b o h=>⟨hS b o h,.inl ⟨hS b o h,h⟩⟩,Gh.le_refl _,fun _ _ _ _ h=>h,fun _ _ _ _ h=>h⟩
   have e1:args.getD i (.tup [])=args.getD i .dead:=by simp[bXm,hi]
   have e2:(vals++Array.replicate (fn.ntmps-vals.size) undef).getD i undef=vals.getD i undef:=by
    simp only[bXt];rw[Array.getElem?_append_left (by omega)]
   rw[e1,e2];exact h1
  ·have e1:args.getD i (.tup [])= .tup []:=by simp[bXm,cAb (Nat.le_of_not_lt hi)]
   have e2:(vals++Array.replicate (fn.ntmps-vals.size) undef).getD i undef=undef:=by
    simp only[bXt];rw[Array.getElem?_append_right (by omega)]
    simp only[cAd];split<;>rfl
   rw[e1,e2];exact .tup [] #[] rfl (fun i hi=>by simp at hi)
 rw[hb]at hx
 refine callsIn_wide.1 (callsIn_of_wp_marks (F:=Fence.wide) (n:=0) hfn hbody trivial (ih I fn.ntmps c (start args) e st Ξ w.heap.size S Gh.none _ w _ 0 hdst hR0 hx fun a1 w1 G1 hR1 hbl1=>?_))
 obtain⟨Ds,q1,q2,q3,q4,hR⟩:=hR1.shut;have hbl:Below w.heap.size w (eS w1 Ds):=hbl1.trans (zZ Ds w1 q4);simp only[aAs]at h
 split at h
 case h_2=>cases h
 rename_i vs hvs;obtain⟨x,hrun,hval⟩:=yY hR hres hvs;have ends:aFk w.heap.size (zV w S (eS w1 Ds)) (eS w1 Ds) r x->(match e.toExit with
   | .normal| .ret=>LeavesInM Fence.wide 0 P fn a1.tmps (fun e w'=> ∃v,e= .returned v/\ Below w.heap.size w w'/\ aFk w.heap.size (zV w S w') w' r v) a1.defers .returning w1
   |_=>True):=by
  intro hr;have fin:LeavesInM Fence.wide 0 P fn a1.tmps (fun e w'=> ∃v,e= .returned v/\ Below w.heap.size w w'/\ aFk w.heap.size (zV w S w') w' r v) a1.defers .returning w1:=by
   rw[q1];exact uH Ds w1 q2 q3 ⟨x,hrun,x,rfl,hbl,hr⟩
  cases e with
  |normal=>exact fin
  |exit id=>trivial
  |ret=>exact fin
 split at h
 ·rename_i r' hown;simp only[bXa]at h;subst h
  split at hown
  case isFalse=>cases hown
  have hor:aFk w.heap.size (zV w S (eS w1 Ds)) (eS w1 Ds) r' x:=by
   unfold aQ9 at hown
   split at hown
   case h_2=>cases hown
   rename_i key n htv
   split at hown
   case h_2=>cases hown
   rename_i sz xs hk
   split at hown
   case isFalse=>cases hown
   rename_i hn;simp only[bXa]at hown;subst hown;rw[htv]at hval;have hE:=hR.ents key _ hk;cases hval with
   |bl0 _ p hb=>
    cases hE with
    |nul _ _ _=>exact .inl ⟨rfl,p,rfl⟩
    |blk _ _ b base sz C thr c t hb1=>rw[hb]at hb1;cases hb1
   |ble _ p b base sz C hb=>
    rename_i hx0;cases hE with
    |nul _ _ hb1=>rw[hb]at hb1;cases hb1
    |blk _ _ b base sz C' thr c t hb1 _ _ hC=>
     rw[hb]at hb1;simp only[bXa,bXk]at hb1;have hxs:xs=[]:=List.length_eq_zero_iff.1 (by omega)
     exact .inl ⟨hxs,p,rfl⟩
   |bl _ _ _ b base sz' C hb hl=>
    cases hE with
    |nul _ _ hb1=>rw[hb]at hb1;cases hb1
    |blk _ _ b1 base1 _ C1 thr c t hb1 hB hh hC hC' hs ho hv hown hthr=>
     rw[hb]at hb1;simp only[bXa,bXk]at hb1;obtain⟨rfl,rfl,rfl,rfl⟩:=hb1;simp only[bXc,if_false]at hthr;subst hthr
     refine .inr ⟨b,thr,C,c,t,hB,by simp[hn],hh,hC,hC',hs,ho,fun i j hi hj=>(hv i j hi hj).mono ⟨fun b' o hg=>?_,Gh.le_refl _,fun _ _ _ _ h=>h,fun _ _ _ _ h=>h,fun _ _ h=>h,fun _ r h=>⟨r,h⟩⟩⟩
     obtain⟨g1,g2⟩:=hg
     refine⟨⟨g1,fun hlt=>?_⟩,fun hbb=>?_⟩
     ·rcases g2 with g2|g2
      ·exact g2.2
      ·omega
     ·subst hbb;rcases g2 with g2|g2
      ·omega
      ·rw[hown]at g2;exact g2.2
  have:=ends hor;cases e with
  |normal=>exact this
  |exit id=>cases hends
  |ret=>exact this
 split at h
 case h_2=>cases h
 rename_i v ks hsn;simp only[bXa]at h;have hT: ∀b o,bC w.heap.size S G1 (eS w1 Ds).heap.size b o->zV w S (eS w1 Ds) b o:=by
  rintro b o ⟨h1,h2⟩
  refine⟨h1,fun h3=>?_⟩
  rcases h2 with h2|h2
  ·exact h2.2
  ·omega
 have hcov: ∀k e,st.en k=some e->Cov (zV w S (eS w1 Ds)) G1 k e:=by
  intro k e he;have hE:=hR.ents k e he;cases hE with
  |box cs frz b c t hb hB hh=>intro b' hb' j _;rw[hb]at hb';simp only[bXa]at hb';subst hb';exact⟨dR hh,fun h=>by omega⟩
  |nul sz frz hn=>intro b base sz C hb i j hi;simp at hi
  |blk xs frz b base sz C thr c t hb hB hh=>
   intro b' base' sz' C' hb' i j hi hj;rw[hb]at hb';simp only[bXa,bXk]at hb';obtain⟨rfl,_⟩:=hb';exact⟨dR hh,fun h=>by omega⟩
  |full xs b base sz c hb hs hh ht=>
   intro b' base' sz' C' hb' i j hi hj;rw[hb]at hb';simp only[bXa,bXk]at hb';obtain⟨rfl,rfl,rfl,rfl⟩:=hb';exact hT _ _ (ht i j hi hj)
  |map ks vs frz r es cl hr hB hh=>intro r' hr';rw[hr]at hr';simp only[bXa]at hr';subst hr';exact⟨dR hh,fun h=>by omega⟩
  |loop=>trivial
  |iter=>trivial
 have hfin:=zQ hR.ents (T':=zV w S (eS w1 Ds)) ⟨hT,Gh.le_refl _,fun _ _ _ _ h=>h,fun _ _ _ _ h=>h,fun _ _ h=>h,fun _ r h=>⟨r,h⟩⟩ k hval hsn fun k _ e he=>hcov k e he
 have hr:VR (zV w S (eS w1 Ds)) Gh.none (eS w1 Ds) r x:=by
  rw[<-h];split
  ·exact hfin
  ·exact hfin.wk
 have:=ends (.vr hr);cases e with
 |normal=>exact this
 |exit id=>cases hends
 |ret=>exact this
theorem aYz {T:Nat->Nat->Prop}{G:Gh}{w:World}{x:Val}{v:Value}(h:VR T G w x v)(he:tA x=true): ∃a cap,v= .slice a 0 cap:=by
 cases h<;>simp[tA]at he
 ·exact⟨_,_,rfl⟩
 ·rename_i xs b off sz cap c hc hs hh ht ho hv;cases xs with
  |nil=>exact⟨_,_,rfl⟩
  |cons=>simp[tA]at he
 ·exact⟨_,_,rfl⟩
 ·rename_i xs b off sz c hs hh ht ho hv;cases xs with
  |nil=>exact⟨_,_,rfl⟩
  |cons=>simp[tA]at he
 ·exact⟨_,_,rfl⟩
 ·rename_i k off len b base sz C hb hl;cases len with
  |zero=>exact⟨_,_,rfl⟩
  |succ=>simp[tA]at he
 ·exact⟨_,_,rfl⟩
 ·exact⟨_,_,rfl⟩
theorem aPe {a b:Option Val}{r:Val}(h:iK a b=some r):a=some r/\ b=some r:=by
 unfold iK at h
 split at h<;>simp only[bXa,reduceCtorEq]at h<;>subst h<;>exact⟨rfl,rfl⟩
theorem aPf {a b:Option Val}{r:Val}(h:iK a b=some r):a=some r/\ (r= .cl [] \/r= .fz []):=by
 unfold iK at h
 split at h<;>simp only[bXa,reduceCtorEq]at h<;>subst h
 ·exact⟨rfl,.inl rfl⟩
 ·exact⟨rfl,.inr rfl⟩
theorem aMl {P:Program}{L:cV}(hL:tE P L){n k:Nat}(ih:rB P L n){f:Nat}{lf:aM}(hlf:L f=some lf){args:List Val}{r:Val}(hlen:args.length=lf.np)(ha:aDk lf args=true)
  (h:iK (gR lf k (exec L n) [.es true]) (gR lf k (exec L n) [.es false])=some r):
  (∃fn,P.funcs[f]?=some fn∧(fn.name== "runtime.NumGoroutine")=false∧fn.body.isNone=false)∧
  ∀(T:Nat->Nat->Prop) (G:Gh) (S:Nat->Nat->Prop) (w:World) (vals:Array Value),(∀b o,S b o->b<w.heap.size)->vals.size=args.length->(∀i,i<args.length->VR T G w (args.getD i .dead) (vals.getD i undef))->
   Calls P f vals w fun e w'=> ∃v,e= .returned v/\ Below w.heap.size w w'/\ aFk w.heap.size (zV w S w') w' r v:=by
 obtain⟨h1,h2⟩:=aPe h;simp only[aDk,bXb]at ha;obtain⟨_,ha⟩:=ha
 split at ha
 case h_2=>cases ha
 rename_i x;obtain⟨e1,c1⟩:=aCq (args:=[.es true]) hL ih hlf hlen h1;obtain⟨_,c2⟩:=aCq (args:=[.es false]) hL ih hlf hlen h2
 refine⟨e1,fun T G S w vals hS hvl hv=>?_⟩
 obtain⟨a,cap,hx⟩:=aYz (hv 0 (by simp)) ha
 have one: ∀(b:Bool),a.isNone=b-> ∀i,i<[Val.es b].length->VR S Gh.none w ([Val.es b].getD i .dead) (vals.getD i undef):=by
  intro b hb i hi;simp only[bXu,bYb]at hi
  obtain rfl:i=0:=by omega
  rw[hx,<-hb];exact .es a cap
 cases hb:a.isNone with
 |true=>exact c1 S w vals hS hvl (one true hb)
 |false=>exact c2 S w vals hS hvl (one false hb)
theorem aPg {P:Program}{L:cV}(hL:tE P L){n:Nat}(ih:rB P L n): ∀f args v (st0 st':St),pI L (exec L n) f args st0=some (v,st')→(∃fn,P.funcs[f]?=some fn∧(fn.name== "runtime.NumGoroutine")=false∧fn.body.isNone=false)∧
  ∀(Ξ:Env) (B:Nat) (S:Nat->Nat->Prop) (G:Gh) (st:St) (N:Nat) (a:Act) (w:World) (vals:Array Value),Rel P Ξ B S G st N a w->st0.en=st.en->st0.cnt=st.cnt->vals.size=args.length->
   (∀i,i<args.length->VR (bC B S G w.heap.size) G w (args.getD i .dead) (vals.getD i undef))->Calls P f vals w (yE P Ξ B S st st' N a w v):=by
 intro f args v st0 st' h;simp only[pI]at h
 split at h
 ·cases h
 rename_i lf hlf;obtain⟨fn,I,keep,amb,hfn,hlow⟩:=hL f lf hlf;obtain⟨c,hbody,hb,hdst,hnp,hname,hres⟩:=aMk hlow
 split at h
 case isFalse=>cases h
 rename_i hlen
 split at h
 ·rename_i ha;obtain⟨r,hr,he⟩:=bXq.1 h;simp only[bXk]at he;obtain⟨rfl,rfl⟩:=he;obtain⟨e1,c1⟩:=aMl hL ih hlf hlen ha hr
  refine⟨e1,fun Ξ B S G st N a w vals hR hen hcnt hvl hv=>?_⟩
  refine Calls.mono (c1 _ _ (fun _ _=>False) w vals (fun _ _ h=>h.elim) hvl hv) ?_
  rintro e w' ⟨x,rfl,hbl,hv'⟩
  have hv':VR (zV w (fun _ _=>False) w') Gh.none w' r x:=by
   obtain⟨h1,h2⟩:=aPf hr;rcases h2 with h2|h2<;>subst h2<;>exact hv'
  have hR':=hR.below hbl
  refine⟨x,G,rfl,?_,hv'.mono ⟨fun b q hg=>?_,Gh.none_le _,fun _ _ _ _ h=>h,fun _ _ _ _ h=>h,fun _ _ h=>h,fun _ r h=>⟨r,h⟩⟩,⟨hbl.os,hbl.tape,hbl.output,hbl.size,fun k hk=>hbl.block k (bYg hk hR.size)⟩⟩
  ·have:({fr:=st.fr,en:=st0.en,cnt:=st0.cnt}:St)=st:=by rw[hen,hcnt]
   rw[this];exact hR'
  ·by_cases hbw:b<w.heap.size
   ·exact(hg.2 hbw).elim
   ·refine⟨hg.1,.inr ⟨by have:=hR.size;omega,?_⟩⟩
    cases hown:G.own b with
    |none=>trivial
    |some z=>obtain⟨k,t⟩:=z;have:=(hR.own _ _ _ hown).2.1;omega
 split at h
 case h_2=>cases h
 rename_i e ste hx
 split at h
 case isFalse=>cases h
 rename_i hends;obtain⟨vs,hvs,he⟩:=bXq.1 h;simp only[bXk]at he;obtain⟨rfl,rfl⟩:=he
 refine⟨⟨fn,hfn,hname,by rw[hbody];rfl⟩,fun Ξ B S G st N a w vals hR hen hcnt hvl hv=>?_⟩
 obtain⟨Ds0,hd1,hd2,hd3⟩:=hR.marks;let Ξ':Env:={prs:=fun u x=>Ξ.prs u x \/ ∃i,u=st.fr i/\ x=a.tmps.getD i undef,ro:=none,rnd:=Ξ.isRnd,defs:=fun D=>Ξ.defs D \/D∈Ds0}
 have hR0:Rel P Ξ' B S G {st0 with fr:=fun i=>args.getD i (.tup [])} fn.ntmps {tmps:=vals++Array.replicate (fn.ntmps-vals.size) undef,defers:=[]} w:=by
  refine⟨hR.size,by simp;omega,fun i=>?_,⟨[],rfl,List.nodup_nil,fun D hD=>by simp at hD⟩,fun k e' hk=>hR.ents k e' (hen▸hk),fun k hk=>hen▸hR.freshEn k (by rw[<-hcnt];exact hk),fun k hk=>hR.freshG k (by rw[<-hcnt];exact hk),
   fun b k t hb'=>by have:=hR.own b k t hb';rw[<-hcnt]at this;exact this,fun u x hu=>?_,fun l hl=>hR.round l (hl.resolve_left (by simp[Ξ'])),fun D hD=>hD.elim (hR.defs D) fun h=>(hd3 D h).2.2⟩
  ·simp only
   by_cases hi:i<args.length
   ·have e1:args.getD i (.tup [])=args.getD i .dead:=by simp[bXm,hi]
    have e2:(vals++Array.replicate (fn.ntmps-vals.size) undef).getD i undef=vals.getD i undef:=by
     simp only[bXt];rw[Array.getElem?_append_left (by omega)]
    rw[e1,e2];exact hv i hi
   ·have e1:args.getD i (.tup [])= .tup []:=by simp[bXm,cAb (Nat.le_of_not_lt hi)]
    have e2:(vals++Array.replicate (fn.ntmps-vals.size) undef).getD i undef=undef:=by
     simp only[bXt];rw[Array.getElem?_append_right (by omega)]
     simp only[cAd];split<;>rfl
    rw[e1,e2];exact .tup [] #[] rfl (fun i hi=>by simp at hi)
  ·rcases hu with hu|⟨i,rfl,rfl⟩
   ·exact hR.extra u x hu
   ·exact hR.frame i
 rw[hb]at hx
 refine callsIn_wide.1 (callsIn_of_wp_marks (F:=Fence.wide) (n:=0) hfn hbody trivial (ih I fn.ntmps c _ e ste Ξ' B S G _ w _ 0 hdst hR0 hx fun a1 w1 G1 hR1 hb1=>?_))
 obtain⟨Ds,q1,q2,q3,q4,hR2⟩:=hR1.shut;obtain⟨x,hrun,hxv⟩:=yY hR2 hres hvs;have hb2:Below B w (eS w1 Ds):=hb1.trans (zZ Ds w1 q4);have hfin:LeavesInM Fence.wide 0 P fn a1.tmps (yE P Ξ B S st {ste with fr:=st0.fr} N a w (yX vs)) a1.defers .returning w1:=by
  rw[q1]
  refine uH Ds w1 q2 q3 ⟨x,hrun,x,G1,rfl,?_,hxv,hb2⟩
  refine⟨hR2.size,hR.tmps,fun i=>hR2.extra _ _ (.inr ⟨i,rfl,rfl⟩),⟨Ds0,hd1,hd2,fun D hD=>⟨(hd3 D hD).1,(hd3 D hD).2.1,hR2.defs D (.inr hD)⟩⟩,hR2.ents,hR2.freshEn,hR2.freshG,hR2.own,fun u y hu=>hR2.extra u y (.inl hu),
   fun l hl=>hR2.round l (.inr hl),fun D hD=>hR2.defs D (.inl hD)⟩
 cases e with
 |normal=>exact hfin
 |exit id=>cases hends
 |ret=>exact hfin
end Go.Abs
namespace Go.Abs
open Go.RowKit (Below)
theorem aIm {T:Nat->Nat->Prop}{G:Gh}{w:World}: ∀(ps:List Nat) (args:List Val) (vals:List Value) (fr:Nat->Val) (tmps:Array Value),args.length=ps.length->vals.length=ps.length->(∀p∈ps,p<tmps.size)->
  (∀i,VR T G w (fr i) (tmps.getD i undef))->(∀i,i<args.length->VR T G w (args.getD i .dead) (vals.getD i undef))->
  (∀i,VR T G w (vZ fr ps args i) (((ps.zip vals).foldl (fun t (p:Nat×Value)=>t.setIfInBounds p.1 p.2) tmps).getD i undef))/\ ((ps.zip vals).foldl (fun t (p:Nat×Value)=>t.setIfInBounds p.1 p.2) tmps).size=tmps.size
 |[],args,vals,fr,tmps,_,_,_,hf,_=>⟨hf,rfl⟩
 |p::ps,[],_,_,_,h,_,_,_,_=>by simp at h
 |p::ps,v::args,[],_,_,_,h,_,_,_=>by simp at h
 |p::ps,v::args,x::vals,fr,tmps,h1,h2,h3,hf,hv=>by
  simp only[bXu,Nat.add_right_cancel_iff]at h1 h2;have hp:=h3 p (by simp)
  have:=aIm ps args vals (kB fr p v) (tmps.setIfInBounds p x) h1 h2 (fun q hq=>by simpa using h3 q (by simp[hq])) (fun i=>?_) (fun i hi=>by simpa using hv (i+1) (by simpa using hi))
  ·refine⟨this.1,?_⟩
   have e:=this.2;simp only[List.zip_cons_cons,bY5];rw[e];simp
  ·simp only[bXt,bZn,kB]
   by_cases hi:i=p
   ·subst hi;simpa[hp]using hv 0 (by simp)
   ·have hi': ¬p=i:=fun e=>hi e.symm
    simp only[hi,hi',if_false]
    simpa[bXt]using hf i
theorem bBv {P:Program}{L:cV}{n:Nat}(ih:rB P L n): ∀k args v (st0 st':St),aAt (exec L n) k args st0=some (v,st')->
  ∀(Ξ:Env) (B:Nat) (S:Nat->Nat->Prop) (G:Gh) (st:St) (N:Nat) (a:Act) (w:World) (vals:Array Value) (l:Nat) (ro:Option Nat) (m:Nat),Rel P Ξ B S G st N a w->st0.en=st.en->st0.cnt=st.cnt->G.mp k=some l->vals.size=args.length->
   (∀i,i<args.length->VR (bC B S G w.heap.size) G w (args.getD i .dead) (vals.getD i undef))->
   ∃f tmps assign body,(Instr.yield l vals).run P w= .ok (.round l f tmps assign body) w/\ RoundIn (Fx ro) m P l f tmps assign body w (yE P Ξ B S st st' N a w v):=by
 intro k args v st0 st' h Ξ B S G st N a w vals l ro m hR hen hcnt hmp hvl hv;simp only[aAt]at h
 split at h
 case h_2=>cases h
 rename_i fr ps la lb he0
 split at h
 case isFalse=>cases h
 rename_i hlen
 split at h
 case h_2=>cases h
 rename_i st1 hx1
 split at h
 case h_2=>cases h
 rename_i fr1 ps1 la1 lb1 he1
 split at h
 case h_2=>cases h
 rename_i e st2 hx2
 split at h
 case h_2=>cases h
 rename_i fr2 ps2 la2 lb2 he2;simp only[bXa,bXk]at h;obtain⟨rfl,rfl⟩:=h;rw[hen]at he0;have hE:=hR.ents k _ he0;cases hE with
 |loop _ _ _ _ _ l0 rec I N' hl hB hh hps ha hb hN hpN haN hbN hf hst hown=>
 rw[hmp]at hl;simp only[bXa]at hl;subst hl;obtain⟨Ds0,hd1,hd2,hd3⟩:=hR.marks;have hpsz:rec.params.size=ps.length:=by rw[<-hps];simp
 have hyd:=run_yield (P:=P) (args:=vals) hh (by rw[hvl,hlen,hpsz])
 refine⟨_,_,_,_,hyd,?_⟩
 have hfold:(rec.params.zip vals).foldl (fun tmps (t,a)=>tmps.setIfInBounds t a) rec.tmps=(ps.zip vals.toList).foldl (fun t (p:Nat×Value)=>t.setIfInBounds p.1 p.2) rec.tmps:=by
  rw[<-Array.foldl_toList,Array.toList_zip,hps]
 rw[hfold];obtain⟨hfr,hfs⟩:=aIm (T:=bC B S G w.heap.size) (G:=G) (w:=w) ps args vals.toList fr rec.tmps hlen (by simp[hvl,hlen]) (fun p hp=>bYg (by simpa using bXo.1 hpN p hp) hN) hf
  (fun i hi=>by simpa[bXm,bXt]using hv i hi)
 let Ξ':Env:={prs:=fun u x=>Ξ.prs u x \/(∃i,u=st.fr i/\ x=a.tmps.getD i undef) \/(u= .yld k/\ x= .func (.yield l) #[] #[]),ro:=some l,rnd:=Ξ.isRnd,defs:=fun D=>Ξ.defs D \/D∈Ds0}
 have hR0:Rel P Ξ' B S G {fr:=vZ fr ps args,en:=st0.en,cnt:=st0.cnt} N' {tmps:=(ps.zip vals.toList).foldl (fun t (p:Nat×Value)=>t.setIfInBounds p.1 p.2) rec.tmps,defers:=[]} w:=by
  refine⟨hR.size,by simp only;rw[hfs];exact hN,hfr,⟨[],rfl,List.nodup_nil,fun D hD=>by simp at hD⟩,fun k e' hk=>hR.ents k e' (hen▸hk),fun k hk=>hen▸hR.freshEn k (by rw[<-hcnt];exact hk),fun k hk=>hR.freshG k (by rw[<-hcnt];exact hk),
   fun b k t hb'=>by have:=hR.own b k t hb';rw[<-hcnt]at this;exact this,fun u x hu=>?_,fun l' hl'=>?_,fun D hD=>hD.elim (hR.defs D) fun h=>(hd3 D h).2.2⟩
  ·rcases hu with hu|⟨i,rfl,rfl⟩|⟨rfl,rfl⟩
   ·exact hR.extra u x hu
   ·exact hR.frame i
   ·exact .yld k l hmp
  ·rcases hl' with hl'|hl'
   ·simp only[Ξ',bXa]at hl';subst hl';exact⟨rec,hh⟩
   ·exact hR.round l' hl'
 have wrt: ∀{G1:Gh} {s1:St} {a1:Act} {w1:World} {fr1:Nat->Val} {ps1:List Nat} {la1 lb1:cD} {q1:LSt} (q2:LSt),Rel P Ξ' B S G1 s1 N' a1 w1->s1.en k=some (.loop fr1 ps1 la1 lb1 q1)->
   ∃rec1,w1.heap[l]?=some (.loop rec1)/\ aX9 q1 rec1/\ B<=l/\ ∀rec2:Loop,rec2.params=rec1.params->rec2.assign=rec1.assign->rec2.body=rec1.body->rec2.tmps=rec1.tmps->aX9 q2 rec2->
    Rel P Ξ' B S G1 {s1 with en:=s1.en.set k (some (.loop fr1 ps1 la1 lb1 q2))} N' a1 (iU w1 l (.loop rec2)):=by
  intro G1 s1 a1 w1 fr1 ps1 la1 lb1 q1 q2 hR1 hk;have hy:=hR1.extra (.yld k) (.func (.yield l) #[] #[]) (.inr (.inr ⟨rfl,rfl⟩));have hE1:=hR1.ents k _ hk;cases hy with
  |yld _ _ hmp1=>
  cases hE1 with
  |loop _ _ _ _ _ l1 rec1 I1 N1 hl1 hB1 hh1 hps1 ha1 hb1 hN1 hpN1 haN1 hbN1 hf1 hst1 hown1=>
  rw[hmp1]at hl1;simp only[bXa]at hl1;subst hl1
  refine⟨rec1,hh1,hst1,hB1,fun rec2 r1 r2 r3 r4 hq=>?_⟩
  exact hR1.write (e':= .loop fr1 ps1 la1 lb1 q2) hown1 hh1 (fun _ _=> .inl (by simp)) (fun _=>by simp) (fun r _=>⟨rec2,rfl⟩) (fun off h=>by omega)
   (fun m=> .loop fr1 ps1 la1 lb1 q2 l rec2 I1 N1 hmp1 hB1 (jI _ (dR hh1)) (by rw[r1];exact hps1) (by rw[r2];exact ha1) (by rw[r3];exact hb1) (by rw[r4];exact hN1) hpN1 haN1 hbN1 (fun i=>by rw[r4];exact(hf1 i).mono m) hq hown1)
 refine roundIn_of_wpIn (F:=Fx ro) trivial ?_
 refine ih I N' rec.assign _ .normal st1 Ξ' B S G _ w _ m (by rw[ha];exact haN) hR0 (by rw[ha];exact hx1) fun a1 w1 G1 hR1 hb1=>?_
 obtain⟨rec1,hh1,hq1,hBl,hw1⟩:=wrt .busy hR1 he1
 refine⟨_,run_beginRound hh1 hq1.1,?_⟩
 have hR1':=hw1 {rec1 with state:= .busy} rfl rfl rfl rfl ⟨rfl,hq1.2⟩
 refine ih I N' rec.body _ e st2 Ξ' B S G1 a1 _ _ m (by rw[hb];exact hbN) hR1' (by rw[hb];exact hx2) fun a2 w2 G2 hR2 hb2=>?_
 have fin: ∀(jump:Option Code) (q:LSt),aX9 q {state:=if jump.isNone then .ready else .done,pending:=jump,fn:=0,tmps:= #[],params:= #[],assign:= .skip,body:= .skip,defers:=0}->jump.isNone=decide (e= .normal)->q=(if e= .normal then .ready else .done e)->
   ∃v w',(Instr.endRound l jump).run P w2= .ok v w'/\ yE P Ξ B S st {fr:=st0.fr,en:=st2.en.set k (some (.loop fr2 ps2 la2 lb2 (if e= .normal then .ready else .done e))),cnt:=st2.cnt} N a w (.bool (decide (e= .normal))) (.returned v) w':=by
  intro jump q hq hj hqe;obtain⟨rec2,hh2,_,_,hw2⟩:=wrt q hR2 he2;have hR3:=hw2 {rec2 with state:=if jump.isNone then .ready else .done,pending:=jump} rfl rfl rfl rfl (by cases q<;>exact hq)
  refine⟨_,_,run_endRound jump hh2,_,G2,rfl,?_,by rw[hj];exact .bool _,?_⟩
  ·rw[<-hqe];exact⟨hR3.size,hR.tmps,fun i=>hR3.extra _ _ (.inr (.inl ⟨i,rfl,rfl⟩)),⟨Ds0,hd1,hd2,fun D hD=>⟨(hd3 D hD).1,(hd3 D hD).2.1,hR3.defs D (.inr hD)⟩⟩,hR3.ents,hR3.freshEn,hR3.freshG,hR3.own,fun u y hu=>hR3.extra u y (.inl hu),
    fun l' hl'=>hR3.round l' (.inr hl'),fun D hD=>hR3.defs D (.inl hD)⟩
  ·exact((hb1.trans (qO hBl)).trans hb2).trans (qO hBl)
 cases e with
 |normal=>exact fin none .ready ⟨rfl,rfl⟩ rfl rfl
 |exit id=>exact fin (some (.exit id)) (.done (.exit id)) ⟨rfl,rfl,by simp⟩ (by simp) (by simp)
 |ret=>exact fin (some .ret) (.done .ret) ⟨rfl,rfl,by simp⟩ (by simp) (by simp)
end Go.Abs
namespace Go.Abs
open Go.RowKit (Below)
theorem tF {L:cV}{n:Nat}{st:St}{x:Ex×St}(h:exec L n aE7 st=some x):False:=by
 cases n<;>simp[aE7,exec,St.get]at h
theorem bE4 {P:Program}{L:cV}(hL:tE P L){n:Nat}(ih:rB P L n):aMh P (qE L (exec L n)):=⟨aPg hL ih,bBv ih⟩
theorem bE5 {L:cV}{ex:cD->St->Option (Ex×St)}{f:Nat}{args:List Val}{st st':St}{v:Val}(h:pI L ex f args st=some (v,st')):st'.fr=st.fr:=by
 simp only[pI]at h
 split at h
 ·cases h
 split at h
 case isFalse=>cases h
 split at h
 ·obtain⟨r,_,he⟩:=bXq.1 h;simp only[bXk]at he;rw[<-he.2]
 split at h
 case h_2=>cases h
 split at h
 case isFalse=>cases h
 obtain⟨vs,_,he⟩:=bXq.1 h;simp only[bXk]at he;rw[<-he.2]
theorem aFu {P:Program}{L:cV}(hL:tE P L){n:Nat}(ih:rB P L n){I:Operand->Bool}{N:Nat}{ps:Array Tmp}{ca cb:Code}{st:St}{e:Ex}{st' st2:St}{v:Val}{Ξ:Env}{B:Nat}{S:Nat->Nat->Prop}{G:Gh}{a0:Act}{w W0:World}
  {Q:Exit->Act->World->Prop} {m:Nat} {f:Nat} {x y:List Val} {p q:Array Value} (hps:ps.toList.all (· <N)=true) (haN:(dM P I ca).dstOk N=true) (hbN:(dM P I cb).dstOk N=true) (hR:Rel P Ξ B S G st N a0 W0) (hB0:Below B w W0)
  (hp:p.size=x.length) (hq:q.size=y.length) (hvp: ∀i,i<x.length->VR (bC B S G W0.heap.size) G W0 (x.getD i .dead) (p.getD i undef)) (hvq: ∀i,i<y.length->VR (bC B S G W0.heap.size) G W0 (y.getD i .dead) (q.getD i undef))
  (hcall:pI L (exec L n) f (x++[.yld ⟨1,0,st.cnt 1 0⟩]++y) {fr:=st.fr,en:=st.en.set ⟨1,0,st.cnt 1 0⟩ (some (.loop st.fr ps.toList (dM P I ca) (dM P I cb) .ready)),cnt:=aQ st.cnt 1 0 (st.cnt 1 0+1)}=some (v,st2))
  (hx:(match st2.en ⟨1,0,st.cnt 1 0⟩with
   |some (.loop _ _ _ _ .ready)=>some (.normal,{st2 with en:=st2.en.set ⟨1,0,st.cnt 1 0⟩ none})
   |some (.loop _ _ _ _ (.done e))=>some (e,{st2 with en:=st2.en.set ⟨1,0,st.cnt 1 0⟩ none})
   |_=>none:Option (Ex×St))=some (e,st')) (hQ: ∀a' w' G',Rel P Ξ B S G' st' N a' w'->Below B w w'->Q e.toExit a' w') (rec:Loop)
  (hrec:rec.state= .ready/\ rec.pending=none/\ rec.tmps=a0.tmps/\ rec.params=ps/\ rec.assign=ca/\ rec.body=cb) (mm:Nat):
  CallsIn (Fx Ξ.ro) mm P f (p++ #[.func (.yield W0.heap.size) #[] #[]]++q) (W0.alloc (.loop rec)) (rangePost (Fx Ξ.ro) m P W0.heap.size Q a0):=by
 obtain⟨rfl1,rfl2,rfl3,rfl4,rfl5,rfl6⟩:=hrec;obtain⟨k,hk⟩: ∃k:Key,k=⟨1,0,st.cnt 1 0⟩:=⟨_,rfl⟩
 have hf:=hR.freshG ⟨1,0,st.cnt 1 0⟩ (bXd _);have hg:=Gh.le_addMp (b:=W0.heap.size) hf.2.2;have ho': ∀b,b≠W0.heap.size->(G.addMp ⟨1,0,st.cnt 1 0⟩ W0.heap.size).own b=G.own b:=fun b hb=>by simp[Gh.addMp,hb]
 have mm1:=qX (B:=B) (S:=S) (w:=W0) (o:= .loop rec) hg ho';have hnew:(W0.alloc (.loop rec)).heap[W0.heap.size]?=some (.loop rec):=fQ _ _;have hsz:N<=rec.tmps.size:=by rw[rfl3];exact hR.tmps
 have hfrm: ∀i,VR (bC B S (G.addMp ⟨1,0,st.cnt 1 0⟩ W0.heap.size) (W0.alloc (.loop rec)).heap.size) (G.addMp ⟨1,0,st.cnt 1 0⟩ W0.heap.size) (W0.alloc (.loop rec)) (st.fr i) (rec.tmps.getD i undef):=fun i=>by rw[rfl3];exact(hR.frame i).mono mm1
 have hmk:(G.addMp ⟨1,0,st.cnt 1 0⟩ W0.heap.size).mp ⟨1,0,st.cnt 1 0⟩=some W0.heap.size:=by simp[Gh.addMp]
 have how:(G.addMp ⟨1,0,st.cnt 1 0⟩ W0.heap.size).own W0.heap.size=some (⟨1,0,st.cnt 1 0⟩,0):=by simp[Gh.addMp]
 have hE:ER P B (bC B S (G.addMp ⟨1,0,st.cnt 1 0⟩ W0.heap.size) (W0.alloc (.loop rec)).heap.size) (G.addMp ⟨1,0,st.cnt 1 0⟩ W0.heap.size) (W0.alloc (.loop rec)) ⟨1,0,st.cnt 1 0⟩ (.loop st.fr ps.toList (dM P I ca) (dM P I cb) .ready):=
  ER.loop st.fr ps.toList (dM P I ca) (dM P I cb) .ready W0.heap.size rec I N hmk hR.size hnew (by rw[rfl4]) (by rw[rfl5]) (by rw[rfl6]) hsz hps haN hbN hfrm ⟨rfl1,rfl2⟩ how
 have hR1:=hR.allocN 1 0 (.loop rec) (.loop st.fr ps.toList (dM P I ca) (dM P I cb) .ready) (G.addMp ⟨1,0,st.cnt 1 0⟩ W0.heap.size) hg ho' (fun k' hk'=>⟨rfl,rfl,by simp[Gh.addMp,hk']⟩) (fun k' t h=>by rw[how]at h;simp only[bXa,bXk]at h;exact h.1.symm) hE
 let Ξ2:Env:={Ξ with prs:=fun u z=>Ξ.prs u z \/(u= .yld ⟨1,0,st.cnt 1 0⟩/\ z= .func (.yield W0.heap.size) #[] #[])}
 have hyl:VR (bC B S (G.addMp ⟨1,0,st.cnt 1 0⟩ W0.heap.size) (W0.alloc (.loop rec)).heap.size) (G.addMp ⟨1,0,st.cnt 1 0⟩ W0.heap.size) (W0.alloc (.loop rec)) (.yld ⟨1,0,st.cnt 1 0⟩) (.func (.yield W0.heap.size) #[] #[]):= .yld _ _ (by simp[Gh.addMp])
 have hR2:Rel P Ξ2 B S (G.addMp ⟨1,0,st.cnt 1 0⟩ W0.heap.size) {fr:=st.fr,en:=st.en.set ⟨1,0,st.cnt 1 0⟩ (some (.loop st.fr ps.toList (dM P I ca) (dM P I cb) .ready)),cnt:=aQ st.cnt 1 0 (st.cnt 1 0+1)} N a0 (W0.alloc (.loop rec)):=
  ⟨hR1.size,hR1.tmps,hR1.frame,hR1.marks,hR1.ents,hR1.freshEn,hR1.freshG,hR1.own,fun u z hu=>hu.elim (hR1.extra u z) fun h=>by rw[h.1,h.2];exact hyl,hR1.round,hR1.defs⟩
 obtain⟨_,hcalls⟩:=aPg hL ih _ _ _ _ _ hcall;have hszv:(p++ #[Value.func (.yield W0.heap.size) #[] #[]]++q).size=(x++[Val.yld ⟨1,0,st.cnt 1 0⟩]++y).length:=by simp only[Array.size_append,bX8,hp,hq];rfl
 have hvrs: ∀i,i<(x++[Val.yld ⟨1,0,st.cnt 1 0⟩]++y).length->VR (bC B S (G.addMp ⟨1,0,st.cnt 1 0⟩ W0.heap.size) (W0.alloc (.loop rec)).heap.size) (G.addMp ⟨1,0,st.cnt 1 0⟩ W0.heap.size) (W0.alloc (.loop rec))
   ((x++[Val.yld ⟨1,0,st.cnt 1 0⟩]++y).getD i .dead) ((p++ #[Value.func (.yield W0.heap.size) #[] #[]]++q).getD i undef):=by
  intro i hi;simp only[bX8,bXu,bYb]at hi;simp only[bXm,bXt,bZ1,bZ2,bX8,Array.size_append,bXu,bYb,hp];rw[show(#[Value.func (.yield W0.heap.size) #[] #[]]:Array Value).size=1 from rfl]
  split
  ·split
   ·rename_i h;have:=(hvp i h).mono mm1;simpa[bXm,bXt]using this
   ·have:i-x.length=0:=by omega
    rw[this];exact hyl
  ·have:=(hvq (i-(x.length+(0+1))) (by omega)).mono mm1;simpa[bXm,bXt]using this
 have hc:=hcalls Ξ2 B S _ _ N a0 _ _ hR2 rfl rfl hszv hvrs
 refine wG (ro:=Ξ.ro) (m:=mm) (Calls.mono hc ?_)
 ·rintro e1 w3 ⟨z,G3,rfl,hR3,_,hb3⟩
  have hb:Below B w w3:=(hB0.trans ((Below.refl B W0).alloc hR.size _)).trans hb3;have hy3:=hR3.extra (.yld ⟨1,0,st.cnt 1 0⟩) (.func (.yield W0.heap.size) #[] #[]) (.inr ⟨rfl,rfl⟩);have hfr:=bE5 hcall;have done: ∀{fr3:Nat->Val} {ps3:List Nat} {la3 lb3:cD} {q3:LSt},st2.en ⟨1,0,st.cnt 1 0⟩=some (.loop fr3 ps3 la3 lb3 q3)->q3≠ .busy-> ∃rec3,w3.heap[W0.heap.size]?=some (.loop rec3)/\ aX9 q3 rec3/\ (rec3.state≠ .busy->
    Rel P Ξ B S G3 {fr:=st.fr,en:=st2.en.set ⟨1,0,st.cnt 1 0⟩ none,cnt:=st2.cnt} N a0 (w3.putObj W0.heap.size (.loop {rec3 with state:= .exhausted}))/\ Below B w (w3.putObj W0.heap.size (.loop {rec3 with state:= .exhausted}))):=by
   intro fr3 ps3 la3 lb3 q3 he3 _;have hE:=hR3.ents _ _ he3;cases hy3 with
   |yld _ _ hmp3=>
   cases hE with
   |loop _ _ _ _ _ l3 rec3 I3 N3 hl3 hB3 hh3 hps3 ha3 hb3' hN3 hpN3 haN3 hbN3 hf3 hst3 hown3=>
   rw[hmp3]at hl3;simp only[bXa]at hl3;subst hl3
   refine⟨rec3,hh3,hst3,fun _=>?_⟩
   have hw:=(hR3.write (e':= .loop fr3 ps3 la3 lb3 .over) (o':= .loop {rec3 with state:= .exhausted}) hown3 hh3 (fun _ _=> .inl (by simp)) (fun _=>by simp) (fun r _=>⟨_,rfl⟩) (fun off h=>by omega)
    (fun m=> .loop fr3 ps3 la3 lb3 .over _ _ I3 N3 hmp3 hB3 (jI _ (dR hh3)) hps3 ha3 hb3' hN3 hpN3 haN3 hbN3 (fun i=>(hf3 i).mono m) rfl hown3)).drop ⟨1,0,st.cnt 1 0⟩
   rw[aDw]
   refine⟨?_,hb.trans (qO hB3)⟩
   have hen:(st2.en.set ⟨1,0,st.cnt 1 0⟩ (some (.loop fr3 ps3 la3 lb3 .over))).set ⟨1,0,st.cnt 1 0⟩ none=st2.en.set ⟨1,0,st.cnt 1 0⟩ none:=by
    funext k';simp only[En.set];split<;>rfl
   have hw':Rel P Ξ2 B S G3 {fr:=st.fr,en:=st2.en.set ⟨1,0,st.cnt 1 0⟩ none,cnt:=st2.cnt} N a0 (iU w3 W0.heap.size (.loop {rec3 with state:= .exhausted})):=by
    rw[<-hen];exact hw
   exact⟨hw'.size,hw'.tmps,hw'.frame,hw'.marks,hw'.ents,hw'.freshEn,hw'.freshG,hw'.own,fun u z hu=>hw'.extra u z (.inl hu),hw'.round,hw'.defs⟩
  have hst:({fr:=st2.fr,en:=st2.en.set ⟨1,0,st.cnt 1 0⟩ none,cnt:=st2.cnt}:St)={fr:=st.fr,en:=st2.en.set ⟨1,0,st.cnt 1 0⟩ none,cnt:=st2.cnt}:=by rw[hfr]
  split at hx
  ·rename_i he3;obtain⟨rec3,hh3,hq3,hfin⟩:=done he3 (by simp)
   obtain⟨r1,r2⟩:=hfin (by rw[hq3.1];simp)
   simp only[bXa,bXk]at hx;obtain⟨rfl,rfl⟩:=hx
   refine⟨_,_,run_endLoop hh3 (by rw[hq3.1];simp),?_⟩
   have hq:=hQ a0 _ G3 (by rw[hst];exact r1) r2
   split
   ·exact hq
   ·rename_i c hc;rw[hq3.2]at hc;cases hc
  ·rename_i e3 he3;obtain⟨rec3,hh3,hq3,hfin⟩:=done he3 (by simp)
   obtain⟨r1,r2⟩:=hfin (by rw[hq3.1];simp)
   simp only[bXa,bXk]at hx;obtain⟨rfl,rfl⟩:=hx
   refine⟨_,_,run_endLoop hh3 (by rw[hq3.1];simp),?_⟩
   have hq:=hQ a0 _ G3 (by rw[hst];exact r1) r2
   split
   ·rename_i hc;rw[hq3.2.1]at hc;cases hc
   rename_i c hc;rw[hq3.2.1,bXa]at hc;subst hc;cases e3 with
   |normal=>exact absurd rfl hq3.2.2
   |exit id=>exact wpIn_exit hq
   |ret=>exact wpIn_ret hq
  ·cases hx
theorem aPh {P:Program}{L:cV}(hL:tE P L){n:Nat}(ih:rB P L n){I:Operand->Bool}{N:Nat}{g:Operand}{g':Opd}{ps:Array Tmp}{ca cb:Code}{st:St}{e:Ex}{st':St}{Ξ:Env}{B:Nat}{S:Nat->Nat->Prop}{G:Gh}{a:Act}{w:World}
  {Q:Exit->Act->World->Prop} {m:Nat} (hg:aS g=some g') (hps:ps.toList.all (· <N)=true) (haN:(dM P I ca).dstOk N=true) (hbN:(dM P I cb).dstOk N=true) (hR:Rel P Ξ B S G st N a w)
  (hx:oU L (exec L n) (St.get st.fr g') ps.toList (dM P I ca) (dM P I cb) st=some (e,st')) (hQ: ∀a' w' G',Rel P Ξ B S G' st' N a' w'->Below B w w'->Q e.toExit a' w'):
  (Code.rangeFunc g ps ca cb).wpIn (Fx Ξ.ro) m P Q a w:=by
 unfold oU at hx
 split at hx
 case h_2=>cases hx
 rename_i f x y hgv;have hG:=aW hR hg;rw[hgv]at hG;generalize hgF:a.eval g=uF at hG;cases hG with
 |fn _ _ _ p q hp hq hvp hvq=>
 simp only at hx
 split at hx
 case h_2=>cases hx
 rename_i v st2 hcall;obtain⟨⟨fn,hfn,hnm,hbody⟩,_⟩:=aPg hL ih _ _ _ _ _ hcall;have hnm': ¬fn.name= "runtime.NumGoroutine" :=by simpa using hnm
 have hbody': ¬fn.body=none:=by intro h;rw[h]at hbody;cases hbody
 have call: ∀(l:Nat) (W:World),(resolve a.eval (rangeCall g l) 0).run P W= .ok {target:= .fn (.func f) q,args:=p++ #[.func (.yield l) #[] #[]]} W/\
   (invoke (.fn (.func f) q) (p++ #[.func (.yield l) #[] #[]])).run P W= .ok (.enter f (p++ #[.func (.yield l) #[] #[]]++q)) W:=by
  intro l W;constructor
  ·have hc:a.eval (.const (.func (.yield l) #[] #[]))= .func (.yield l) #[] #[]:=rfl;simp[resolve,rangeCall,hgF,Deferred.ofValue,hc]
  ·simp[invoke,callFunc,hfn,hnm',hbody']
 refine wpIn_rangeFunc fun fnid _=>?_
 have below_vr: ∀{W:World},Below w.heap.size w W->(∀i,i<x.length->VR (bC B S G W.heap.size) G W (x.getD i .dead) (p.getD i undef))/\ ∀i,i<y.length->VR (bC B S G W.heap.size) G W (y.getD i .dead) (q.getD i undef):=
  fun hb=>⟨fun i hi=>(hvp i hi).mono (oV hb),fun i hi=>(hvq i hi).mono (oV hb)⟩
 cases hro:Ξ.ro with
 |none=>
  have hb0:Below w.heap.size w (w.alloc (.deferred (some []))):=(Below.refl _ w).alloc (bXd _) _;have hR0:=hR.below hb0;obtain⟨Ds,d1,d2,d3⟩:=hR0.marks;have hnew:(w.alloc (.deferred (some []))).heap[w.heap.size]?=some (.deferred (some [])):=fQ _ _;have hold: ∀D∈Ds,D<w.heap.size:=fun D hD=>by
   obtain⟨Ds',d1',d2',d3'⟩:=hR.marks;have:Ds.map aJw=Ds'.map aJw:=by rw[<-d1,<-d1']
   have hm:aJw D∈Ds'.map aJw:=by rw[<-this];exact bXy.2 ⟨D,hD,rfl⟩
   obtain⟨D',h1,h2⟩:=bXy.1 hm;have:D'=D:=by simpa[aJw]using h2
   subst this;exact dR (d3' _ h1).2.2
  have hR1:Rel P Ξ B S G st N {a with defers:=[aJw w.heap.size]++a.defers} (w.alloc (.deferred (some []))):=
   ⟨hR0.size,hR0.tmps,hR0.frame,⟨w.heap.size::Ds,by simp[d1],by rw[List.nodup_cons];exact⟨fun h=>by have:=hold _ h;omega,d2⟩,fun D hD=>by
     rcases bYe.1 hD with rfl|hD
     ·exact⟨hR.size,fun h=>by have:=dR (hR.defs _ h);omega,hnew⟩
     ·exact d3 D hD⟩,hR0.ents,hR0.freshEn,hR0.freshG,hR0.own,hR0.extra,hR0.round,hR0.defs⟩
  obtain⟨v1,v2⟩:=below_vr hb0
  refine⟨_,_,_,_,_,f,_,_,by rw[show(Fx none).round=none from rfl];exact run_enterLoop_outer fnid a.tmps ps ca cb,(call _ _).1,fun _ _=>trivial,(call _ _).2,fun h=>by simp[Fx,Fence.wide]at h,?_⟩
  have:=aFu hL ih (Q:=Q) (m:=m) hps haN hbN hR1 (Below.mono hb0 hR.size) hp hq v1 v2 hcall hx hQ {state:= .ready,pending:=none,fn:=fnid,tmps:=a.tmps,params:=ps,assign:=ca,body:=cb,defers:=w.heap.size} ⟨rfl,rfl,rfl,rfl,rfl,rfl⟩ (m-1);rw[hro,size_alloc]at this;exact this
 |some l0=>
  obtain⟨r0,hr0⟩:=hR.round l0 (.inl hro)
  refine⟨_,_,_,_,_,f,_,_,by rw[show(Fx (some l0)).round=some l0 from rfl];exact run_enterLoop_inner hr0 fnid a.tmps ps ca cb,(call _ _).1,fun _ _=>trivial,(call _ _).2,fun h=>by simp[Fx,Fence.wide]at h,?_⟩
  have:=aFu hL ih (Q:=Q) (m:=m) hps haN hbN hR (Below.refl _ _) hp hq hvp hvq hcall hx hQ {state:= .ready,pending:=none,fn:=fnid,tmps:=a.tmps,params:=ps,assign:=ca,body:=cb,defers:=r0.defers} ⟨rfl,rfl,rfl,rfl,rfl,rfl⟩ (m-1);rw[hro]at this;exact this
section
variable {P :Program}{b:Frame}{a:Act}{k:List Item}{cs:List Frame}{w:World}{Q:Exit->Act->World->Prop}{F:Fence}{n:Nat}
theorem lZ {c:Code}:Go.step P (lone (b.atR a (.code (.scope c)::k)) cs w)= .next (lone (b.atR a (.code c:: .inScope c::k)) cs w):=
 step_lone_go (by simp[stepG,stepG.exec,Frame.atR])
theorem aFv {c:Code}:Go.step P (lone (b.atR a (.inScope c::k)) cs w)= .next (lone (b.atR a k) cs w):=
 step_lone_go (by simp[stepG,stepG.exec,Frame.atR])
theorem aMm {c:Code}(h:c.wpIn F n P (Exit.noGoto Q) a w):(Code.scope c).wpIn F n P Q a w:=by
 intro b k cs hro hb hr;have h0:(lone (b.atR a (.code (.scope c)::k)) cs w).fenced P F:=fenced_calm hb hr rfl;obtain⟨e,a₁,w₁,hq,harr⟩:=h b (.inScope c::k) cs hro hb hr;cases e with
 |normal=>exact⟨.normal,a₁,w₁,hq,.head h0 lZ (StepsIn.trans harr (.one (fenced_calm hb hr rfl) aFv))⟩
 |exit id'=>
  have hx:exitTo id' (.inScope c::k)=exitTo id' k:=by simp[exitTo]
  exact⟨.exit id',a₁,w₁,hq,fun k' hk=> .head h0 lZ (harr.1 k' (by rw[hx];exact hk)),
   fun hr' hk=>let ⟨k₁,h1,h2⟩:=harr.2 hr' (by rw[hx];exact hk);⟨k₁,h1,.head h0 lZ h2⟩⟩
 |goto l=>exact hq.elim
 |ret=>exact⟨_,a₁,w₁,hq,.of_steps (.one h0 lZ) harr⟩
 |panic ch=>exact⟨_,a₁,w₁,hq,.of_steps (.one h0 lZ) harr⟩
 |outgrown=>exact⟨_,a₁,w₁,hq,.of_steps (.one h0 lZ) harr⟩
end
theorem aV3 {P:Program}(hm:P.follows .mixedOrders=true){L:cV}(hL:tE P L){n:Nat}(hc:rA P (kC L 8 (exec L n)))(ihs: ∀m,m<=n->rB P L m):rB P L (n+1):=by
 have ih:=ihs n (bXd _);have hio:=bE4 hL ih;intro I N c
 induction c<;>intro st e st' Ξ B S G a w Q m hd hR hx hQ
 case skip=>
  simp only[dM,exec,bXa,bXk]at hx;obtain⟨rfl,rfl⟩:=hx;exact wpIn_skip (hQ a w G hR (Below.refl _ _))
 case label l=>
  simp only[dM,exec,bXa,bXk]at hx;obtain⟨rfl,rfl⟩:=hx;exact wpIn_label (hQ a w G hR (Below.refl _ _))
 case region id ops dr=>
  cases dr with
  |false=>
   simp only[dM,bXc,if_false]at hd hx;cases hlow:dO (tX P I ops) ops.toList with
   |none=>rw[hlow]at hx;exact(tF hx).elim
   |some l=>
    rw[hlow]at hx hd;simp only[bX9,bX3,exec]at hx hd;obtain⟨s1,hrun,he⟩:=bXq.1 hx;simp only[bXk]at he;obtain⟨rfl,rfl⟩:=he
    refine wpIn_region ?_
    rw[List.range_eq_range'];exact aV0 hc hio hlow hd ops.size 0 st s1 G a w (by omega) hR (by simpa using hrun) hQ
  |true=>
   simp only[dM,if_true]at hd hx;cases hld:aJv P I ops with
   |none=>rw[hld]at hx;exact(tF hx).elim
   |some c'=>
    rw[hld]at hx hd;simp only[aJv,bX4,bXr,bX5,bXa]at hld;obtain⟨l,hlow,an,han,ps,hps,rfl⟩:=hld;simp only[bX3,exec]at hx hd
    split at hx
    case h_2=>cases hx
    rename_i s1 rs hrun
    split at hx
    case isFalse=>cases hx
    rename_i hok;simp only[bXa,bXk]at hx;obtain⟨rfl,rfl⟩:=hx;have hb:Below w.heap.size w {w with drawn:=w.drawn+1}:=(Below.refl _ w).drew
    refine wpIn_region_any hm (aV1 (Ξ:=Ξ) (B:=B) (S:=S) hc hio hlow hd han hps hrun hok ops.size (Array.replicate ops.size false) G a _ (by simp) ?_ ?_ ?_ ?_)
    ·refine bYd List.countP_le_length (by simp)
    ·intro j o ho hL;simp[cAd]at hL
     split at hL<;>simp at hL
    ·rw[fC (L':=fun _=>false) fun i _=>by simp[cAd];split<;>simp]
     have: ∀(k:Nat),kD (fun k=>mW (l.getD k default) (rs.getD k jO)) (fun _=>false) st k=st:=by
      intro k;induction k with
      |zero=>rfl
      |succ k ih=>simp only[kD,bXc,if_false];exact ih
     rw[this];exact hR.below hb
    ·exact fun a' w' G' h1 h2=>hQ a' w' G' h1 ⟨h2.os,h2.tape,h2.output,h2.size,h2.block⟩
 case seq x y _ _=>
  simp only[dM,cD.dstOk,bXb]at hd;simp only[dM,exec]at hx
  refine wpIn_seq ?_
  cases h1:exec L n (dM P I x) st with
  |none=>rw[h1]at hx;cases hx
  |some p=>
   obtain⟨e1,s1⟩:=p;rw[h1]at hx
   refine ih I N x st e1 s1 Ξ B S G a w _ m hd.1 hR h1 fun a1 w1 G1 hR1 hb1=>?_
   cases e1 with
   |normal=>exact ih I N y s1 e st' Ξ B S G1 a1 w1 _ m hd.2 hR1 hx fun a2 w2 G2 hR2 hb2=>hQ a2 w2 G2 hR2 (hb1.trans hb2)
   |exit id=>simp only[bXa,bXk]at hx;obtain⟨rfl,rfl⟩:=hx;exact hQ a1 w1 G1 hR1 hb1
   |ret=>simp only[bXa,bXk]at hx;obtain⟨rfl,rfl⟩:=hx;exact hQ a1 w1 G1 hR1 hb1
 case cond z x y _ _=>
  simp only[dM]at hd hx;cases hz':aS z with
  |none=>rw[hz']at hx;exact(tF hx).elim
  |some z'=>
   rw[hz']at hx hd;simp only[cD.dstOk,bXb]at hd;simp only[exec]at hx;have hv:=aW hR hz'
   split at hx
   ·rename_i hz;rw[hz]at hv;have:a.eval z= .bool true:=by generalize a.eval z=q at hv;cases hv;rfl
    exact wpIn_cond_true this (ih I N x st e st' Ξ B S G a w Q m hd.1 hR hx hQ)
   ·rename_i hz;rw[hz]at hv;have:a.eval z= .bool false:=by generalize a.eval z=q at hv;cases hv;rfl
    exact wpIn_cond_false this (ih I N y st e st' Ξ B S G a w Q m hd.2 hR hx hQ)
   ·cases hx
 case block id x _=>
  simp only[dM,cD.dstOk]at hd;simp only[dM,exec]at hx
  refine wpIn_block ?_
  cases h1:exec L n (dM P I x) st with
  |none=>rw[h1]at hx;cases hx
  |some p=>
   obtain⟨e1,s1⟩:=p;rw[h1]at hx
   refine ih I N x st e1 s1 Ξ B S G a w _ m hd hR h1 fun a1 w1 G1 hR1 hb1=>?_
   cases e1 with
   |normal=>simp only[bXa,bXk]at hx;obtain⟨rfl,rfl⟩:=hx;exact hQ a1 w1 G1 hR1 hb1
   |exit id'=>
    simp only at hx
    simp only[Ex.toExit,Exit.inBlock]
    split at hx
    ·rename_i he;rw[if_pos he];simp only[bXa,bXk]at hx;obtain⟨rfl,rfl⟩:=hx;exact hQ a1 w1 G1 hR1 hb1
    ·rename_i he;rw[if_neg he];simp only[bXa,bXk]at hx;obtain⟨rfl,rfl⟩:=hx;exact hQ a1 w1 G1 hR1 hb1
   |ret=>simp only[bXa,bXk]at hx;obtain⟨rfl,rfl⟩:=hx;exact hQ a1 w1 G1 hR1 hb1
 case loop x _=>
  simp only[dM,cD.dstOk]at hd;simp only[dM]at hx;have key: ∀k s1 G1 a1 w1,k<=n+1->Rel P Ξ B S G1 s1 N a1 w1->exec L k (.loop (dM P I x)) s1=some (e,st')->Below B w w1->Code.roundsIn (Fx Ξ.ro) m P x Q k a1 w1:=by
   intro k
   induction k with
   |zero=>intro s1 G1 a1 w1 _ _ hx1 _;simp[exec]at hx1
   |succ k ihk=>
    intro s1 G1 a1 w1 hk hR1 hx1 hb1;simp only[exec]at hx1;rw[roundsIn_succ];cases h1:exec L k (dM P I x) s1 with
    |none=>rw[h1]at hx1;cases hx1
    |some p=>
     obtain⟨e1,s2⟩:=p;rw[h1]at hx1
     refine ihs k (by omega) I N x s1 e1 s2 Ξ B S G1 a1 w1 _ m hd hR1 h1 fun a2 w2 G2 hR2 hb2=>?_
     cases e1 with
     |normal=>exact ihk s2 G2 a2 w2 (by omega) hR2 hx1 (hb1.trans hb2)
     |exit id=>simp only[bXa,bXk]at hx1;obtain⟨rfl,rfl⟩:=hx1;exact hQ a2 w2 G2 hR2 (hb1.trans hb2)
     |ret=>simp only[bXa,bXk]at hx1;obtain⟨rfl,rfl⟩:=hx1;exact hQ a2 w2 G2 hR2 (hb1.trans hb2)
  exact wpIn_loop_rounds (n+1) (key (n+1) st G a w (bXd _) hR hx (Below.refl _ _))
 case exit id=>
  simp only[dM,exec,bXa,bXk]at hx;obtain⟨rfl,rfl⟩:=hx;exact wpIn_exit (hQ a w G hR (Below.refl _ _))
 case ret=>
  simp only[dM,exec,bXa,bXk]at hx;obtain⟨rfl,rfl⟩:=hx;exact wpIn_ret (hQ a w G hR (Below.refl _ _))
 case rangeFunc g ps ca cb _ _=>
  simp only[dM]at hd hx;cases hg:aS g with
  |none=>rw[hg]at hx;exact(tF hx).elim
  |some g'=>
   rw[hg]at hx hd;simp only[cD.dstOk,bXb]at hd;simp only[exec]at hx;exact aPh hL ih hg hd.1.1 hd.1.2 hd.2 hR hx hQ
 case scope x ihx=>
  refine aMm (ihx st e st' Ξ B S G a w _ m hd hR hx fun a1 w1 G1 hR1 hb1=>?_)
  have:=hQ a1 w1 G1 hR1 hb1;cases e<;>exact this
 all_goals (simp only[dM]at hx;exact(tF hx).elim)
end Go.Abs
namespace Go.Abs
open Go.RowKit (Below)
theorem aIn {P:Program}{L:cV}(hL:tE P L){n k:Nat}(ih:rB P L n):rA P (kC L k (exec L n)):=by
 intro f args r h;simp only[kC]at h
 split at h
 ·cases h
 rename_i lf hlf
 split at h
 case isFalse=>cases h
 rename_i hlen
 split at h
 ·rename_i ha;obtain⟨e1,c1⟩:=aMl hL ih hlf hlen ha h;exact⟨e1,fun S w vals hS hvl hv=>c1 _ _ S w vals hS hvl hv⟩
 ·exact aCq hL ih hlf hlen h
theorem aV4 {P:Program}(hm:P.follows .mixedOrders=true){L:cV}(hL:tE P L): ∀n,rB P L n:=by
 intro n
 induction n using Nat.strongRecOn with
 |ind n ih=>
  match n with
  |0=>intro I N c st e st' Ξ B S G a w Q m _ _ hx;simp[exec]at hx
  |n+1=>exact aV3 hm hL (aIn hL (ih n (by omega))) fun m hm'=>ih m (by omega)
theorem aMn {P:Program}(hm:P.follows .mixedOrders=true){L:cV}(hL:tE P L)(n:Nat):rA P (pM L n):=aIn hL (aV4 hm hL n)
end Go.Abs
namespace Go.Abs
@[reducible] def o (d:Nat)(op:LOp):bH:=⟨some d,op,none⟩
@[reducible] def og (d t:Nat)(b:Bool)(op:LOp):bH:=⟨some d,op,some (t,b)⟩
@[reducible] def on (op:LOp):bH:=⟨none,op,none⟩
@[reducible] def ong (t:Nat)(b:Bool)(op:LOp):bH:=⟨none,op,some (t,b)⟩
@[reducible] def cI (n:Int):Opd:= .c (.int .i64 n)
@[reducible] def cB (b:Bool):Opd:= .c (.bool b)
@[reducible] def mT (d x:Nat):bH:=⟨some d,.mv (.t x),none⟩
@[reducible] def mC (d:Nat)(v:Val):bH:=⟨some d,.mv (.c v),none⟩
@[reducible] def fA (d k x:Nat):bH:=⟨some d,.fa k (.t x),none⟩
@[reducible] def l1 (d x:Nat):bH:=⟨some d,.load false 1 (.t x),none⟩
@[reducible] def lT (d n x:Nat):bH:=⟨some d,.load true n (.t x),none⟩
@[reducible] def bN (d:Nat)(op:BinOp)(x y:Opd):bH:=⟨some d,.bin op .num x y,none⟩
@[reducible] def pO (d c x:Nat):bH:=⟨some d,.pick (.t c) (.c (.bool true)) (.t x),none⟩
@[reducible] def pA (d c x:Nat):bH:=⟨some d,.pick (.t c) (.t x) (.c (.bool false)),none⟩
@[reducible] def cL (d f:Nat)(args:List Opd):bH:=⟨some d,.call (.f f) args,none⟩
@[reducible] def lN (d x:Nat):bH:=⟨some d,.len .slice (.t x),none⟩
@[reducible] def bX (d n x:Nat):bH:=⟨some d,.box n (.t x),none⟩
@[reducible] def iA (d s x i:Nat):bH:=⟨some d,.ia s (.t x) (.t i),none⟩
@[reducible] def nK (d x:Nat):bH:=⟨some d,.nilck (.t x),none⟩
@[reducible] def nT (d x:Nat):bH:=⟨some d,.un .not (.t x),none⟩
@[reducible] def sT (n a x:Nat):bH:=⟨none,.store n (.t a) (.t x),none⟩
@[reducible] def gM (d t:Nat)(b:Bool)(x:Nat):bH:=⟨some d,.mv (.t x),some (t,b)⟩
@[reducible] def gF (d t:Nat)(b:Bool)(k x:Nat):bH:=⟨some d,.fa k (.t x),some (t,b)⟩
@[reducible] def g1 (d t:Nat)(b:Bool)(x:Nat):bH:=⟨some d,.load false 1 (.t x),some (t,b)⟩
@[reducible] def gT (d t:Nat)(b:Bool)(n x:Nat):bH:=⟨some d,.load true n (.t x),some (t,b)⟩
@[reducible] def gN (d t:Nat)(b:Bool)(x:Nat):bH:=⟨some d,.len .slice (.t x),some (t,b)⟩
@[reducible] def gL (d t:Nat)(b:Bool)(f:Nat)(args:List Opd):bH:=⟨some d,.call (.f f) args,some (t,b)⟩
@[reducible] def gB (d t:Nat)(b:Bool)(op:BinOp)(x y:Opd):bH:=⟨some d,.bin op .num x y,some (t,b)⟩
def aH (P:Program)(p:Nat×aM):Prop:= ∃fn I keep amb,P.funcs[p.1]?=some fn/\ aAv P I keep amb fn=some p.2
theorem aF {P:Program}{n:Nat}{fn:Func}{c:aM}(h:P.funcs[n]?=some fn)(h2:aAv P (fun _=>false) false false fn=some c):aH P (n,c):=⟨fn,fun _=>false,false,false,h,h2⟩
theorem bBw {P:Program}{tbl:List (Nat×aM)}(h: ∀p∈tbl,aH P p):tE P (fun f=>tbl.lookup f):=by
 intro f lf hf;have mem:(f,lf)∈tbl:=by
  clear h
  induction tbl with
  |nil=>cases hf
  |cons x l ih=>
   obtain⟨f',lf'⟩:=x;simp only[List.lookup]at hf
   split at hf
   ·rename_i he;simp only[bXa]at hf;subst hf;simp at he;subst he;simp
   ·exact cAa _ (ih hf)
 exact h _ mem
end Go.Abs
namespace Go.Abs
open Go.RowKit Go.WideShapes Go.ChangeShapes Go.ChangeAt
variable {H :Type}{enc:TypeId×Value->H}{P:Program}
theorem aA4 (hl:laidOutB P=true){W W':World}(hb:Below W.heap.size W W'){sp:Nat->Bool}: ∀{ts:List TypeId} {vs:List Value} {ds:List (DataW H)} {ps:List MemPlace},(∀t∈ts,P.readableRec t=true/\ t<P.types.size)->
  DataW.TrodAll enc P W 0 (fun _=>true) true ts vs ds ps->(∀x∈ps,x.block<W.heap.size)->(∀x∈ps,sp x.block=true)->DataW.TrodAll enc P W' 0 sp true ts vs ds ps
 |[],[],[],ps,_,h,_,_=>h
 |t::ts,v::vs,d::ds,ps,hr,h,hlt,hsp=>by
  obtain⟨p,q,h1,h2,rfl⟩:=h
  refine⟨p,q,WideElems.Trod_stays hl (hr t (by simp)).1 (hr t (by simp)).2 h1 (fun x hx=>hb.same (hlt x (bYo _ hx))) (fun x hx=>hsp x (bYo _ hx)),
   aA4 hl hb (fun t ht=>hr t (cAa _ ht)) h2 (fun x hx=>hlt x (bYl _ hx)) (fun x hx=>hsp x (bYl _ hx)),rfl⟩
 |[],_::_,_,_,_,h,_,_=>h.elim
 |[],[],_::_,_,_,h,_,_=>h.elim
 |_::_,[],_,_,_,h,_,_=>h.elim
 |_::_,_::_,[],_,_,h,_,_=>h.elim
theorem aY0 {f:Func}{s:ChangeSpec}{apart fresh handsOn again:Bool}{W W':World}{args:Array Value}{ds gs:List (DataW H)}{before:List MemPlace}{bt:TypeId}
  (hW:DataW.Whole enc P f.params.toList s.vars apart W args.toList ds gs before) (hvars:s.vars=[]) (hres:f.resultTypes= #[bt]) (hbt:P.underlying bt=some .bool)
  (hfn:s.fn H (ds++gs)={results:=[.lit (.bool true)],args:=ds}) (hl:laidOutB P=true) (hr: ∀t∈f.params.toList,P.readableRec t=true/\ t<P.types.size) (hb:Below W.heap.size W W'):
  s.post enc P f apart fresh handsOn again W args (.bool true) W':=by
 have hlt: ∀x∈before,x.block<W.heap.size:=fun x hx=>hW.lt x hx
 obtain⟨p,q,hA,hV,hbq,hz,hn⟩:=hW;rw[hvars]at hV;obtain⟨rfl,rfl⟩:=trodVars_none hV;have hbp:before=p:=by simpa using hbq
 subst hbp;have harg: ∀sp:Nat->Bool,(∀x∈before,sp x.block=true)->DataW.TrodAll enc P W' 0 sp true f.params.toList args.toList ds before:=fun sp hsp=>aA4 hl hb hr hA hlt hsp
 have hresult: ∀(b:Nat) (sp:Nat->Bool) (hd:Bool),DataW.TrodAll enc P W' b sp hd f.resultTypes.toList ((Value.bool true).resultList f.resultTypes.size) [.lit (.bool true)] []:=by
  intro b sp hd;rw[hres];exact trodAll_cons_mk (shut_bool hbt _) trodAll_mk0
 have hvar: ∀sp:Nat->Bool,DataW.TrodVars enc P W' sp s.vars (s.fn H (ds++[])).vars []:=by
  intro sp;rw[hvars,hfn];exact rfl
 refine⟨ds,[],before,[],before,[],⟨before,[],hA,by rw[hvars];exact hV,by simp,hz,hn⟩,by rw[hfn];exact hresult _ _ _,by rw[hfn];exact harg _ (fun x hx=>by simpa using hlt x hx),hvar _,
  World.keptBut_mono (fun x hx=>⟨hx,.inr (by simpa using hx)⟩) (hb.frame (· ∈before)),fun _=>?_⟩
 refine⟨ok_one hres rfl (okWide_bool_mk hbt _),_,_,([]++before)++[],⟨[]++before,[],trodAll_append (harg _ (fun _ _=>rfl)) (hresult _ _ _),hvar _,rfl,fun b off hx=>?_,fun ha=>by simpa using hn ha⟩,fun x hx _=>by simpa using hx⟩
 have hin:MemPlace.cell b off∈before:=by simpa using hx
 rw[hb.frozen (hlt _ hin)];exact hz b off hin
theorem aPi {L:cV}(hm:P.follows .mixedOrders=true)(hL:tE P L){f n:Nat}{args:List Val}(h:pM L n f args=some (.bool true)){S:Nat->Nat->Prop}{w:World}{vals:Array Value}(hS: ∀b o,S b o->b<w.heap.size)
  (hn:vals.size=args.length) (hv: ∀i,i<args.length->VR S Gh.none w (args.getD i .dead) (vals.getD i undef)):Calls P f vals w fun e w'=>e= .returned (.bool true)/\ Below w.heap.size w w':=by
 refine Calls.mono ((aMn hm hL n f args _ h).2 S w vals hS hn hv) ?_
 rintro e w' ⟨v,rfl,hb,hr⟩
 have hr':VR (zV w S w') Gh.none w' (.bool true) v:=hr;cases hr';exact⟨rfl,hb⟩
end Go.Abs
