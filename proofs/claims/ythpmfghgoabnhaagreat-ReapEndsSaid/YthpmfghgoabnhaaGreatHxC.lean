/- The interpreter of the translated code, and its proof: part C. -/
import Derived.Test.YthpmfghgoabnhaaGreatHxA
import Derived.Test.YthpmfghgoabnhaaGreatHxB
import Derived.OrdersIn
import Derived.LoopNIn
import Derived.RangeFuncNested
import Derived.Scope
import Derived.KernelRfl
import Derived.ProofKit
import Derived.OpenShut
set_option linter.all false
open Array renaming getD_eq_getD_getElem? → bVt, getElem?_append → bXz, getElem?_eq_getElem → bWx, getElem?_eq_some_iff → bW9, getElem?_replicate → bX9, getElem?_setIfInBounds → bXl
open Bool renaming and_eq_true → bVc, false_and → bV5, false_eq_true → bVd, false_or → bWz, not_eq_true' → bWh, or_true → bVi, true_and → bVy, true_or → bVj
open List renaming all_eq_true → bVo, drop_eq_getElem_cons → bWc, flatMap_cons → bX0, foldl_cons → bW3, foldl_nil → bXo, getD_eq_getElem?_getD → bVm, getElem?_append → bXy, getElem?_append_left → bX8, getElem?_cons_zero → bVg, getElem?_drop → bXx, getElem?_set → bXm, getElem_mem → bVp, length_append → bV7, length_cons → bVu, length_map → bVk, length_nil → bWa, map_congr_left → bWy, map_cons → bV9, mem_append → bV6, mem_append_left → bW6, mem_append_right → bW1, mem_cons → bWe, mem_cons_of_mem → bX7, mem_filter → bW5, mem_flatMap → bWt, mem_map → bV4, mem_range → bW4, range_succ → bWr
open Nat renaming add_zero → bWu, le_refl → bVe, le_trans → bWd, lt_of_lt_of_le → bWg
open Option renaming bind_eq_bind → bV1, bind_eq_some_iff → bVs, getD_some → bV0, isSome_iff_exists → bWp, map_eq_some_iff → bVr, map_some → bV8, pure_def → bV2
open Option.some renaming injEq → bVb
open Prod.mk renaming injEq → bVl
namespace Go.Abs
inductive aW2 where
 |box (n:Nat) (f:Bool)
 |blk (f:Bool)
 |map (f:Bool)
 |loop
 |iter
def Ent.shape :Ent->aW2
 | .box cs f=> .box cs.length f
 | .blk _ _ f=> .blk f
 | .map _ _ f=> .map f
 | .loop .. => .loop
 | .iter .. => .iter
def Ent.win (off n:Nat):Ent->Option (List Val)
 | .box cs _=>if off+n<=cs.length then some ((cs.drop off).take n)else none
 |_=>none
def eY (en en':En):R->Prop
 | .val k=>(en k).map Ent.freeze=(en' k).map Ent.freeze
 | .cells k off n=>(en k).map (Ent.win off n)=(en' k).map (Ent.win off n)
 | .flag k=>(en k).map Ent.shape=(en' k).map Ent.shape
theorem eY.refl (en:En)(r:R):eY en en r:=by cases r<;>rfl
theorem eY.symm {en en':En}{r:R}(h:eY en en' r):eY en' en r:=by cases r<;>exact Eq.symm h
theorem eY.trans {a b c:En}{r:R}(h:eY a b r)(k:eY b c r):eY a c r:=by cases r<;>exact Eq.trans h k
theorem eY.box {en en':En}{k:Key}{cs:List Val}{f:Bool}(h:eY en en' (.val k))(he:en k=some (.box cs f)): ∃f',en' k=some (.box cs f'):=by
 simp only[eY,he,bV8,Ent.freeze]at h;cases h':en' k with
 |none=>rw[h']at h;cases h
 |some e=>rw[h']at h;cases e<;>simp[Ent.freeze]at h;subst h;exact⟨_,rfl⟩
theorem eY.blk {en en':En}{k:Key}{sz:Nat}{xs:List Val}{f:Bool}(h:eY en en' (.val k))(he:en k=some (.blk sz xs f)): ∃f',en' k=some (.blk sz xs f'):=by
 simp only[eY,he,bV8,Ent.freeze]at h;cases h':en' k with
 |none=>rw[h']at h;cases h
 |some e=>rw[h']at h;cases e<;>simp[Ent.freeze]at h;obtain⟨rfl,rfl⟩:=h;exact⟨_,rfl⟩
theorem eY.map {en en':En}{k:Key}{ks vs:List Val}{f:Bool}(h:eY en en' (.val k))(he:en k=some (.map ks vs f)): ∃f',en' k=some (.map ks vs f'):=by
 simp only[eY,he,bV8,Ent.freeze]at h;cases h':en' k with
 |none=>rw[h']at h;cases h
 |some e=>rw[h']at h;cases e<;>simp[Ent.freeze]at h;obtain⟨rfl,rfl⟩:=h;exact⟨_,rfl⟩
theorem eY.iter {en en':En}{k:Key}{s:ByteArray}{pos:Nat}(h:eY en en' (.val k))(he:en k=some (.iter s pos)):en' k=some (.iter s pos):=by
 simp only[eY,he,bV8,Ent.freeze]at h;cases h':en' k with
 |none=>rw[h']at h;cases h
 |some e=>rw[h']at h;cases e<;>simp[Ent.freeze]at h;obtain⟨rfl,rfl⟩:=h;rfl
theorem eY.blkf {en en':En}{k:Key}{sz:Nat}{xs:List Val}{f:Bool}(h:eY en en' (.val k))(h2:eY en en' (.flag k))(he:en k=some (.blk sz xs f)):en' k=some (.blk sz xs f):=by
 obtain⟨f',h'⟩:=h.blk he;simp only[eY,he,h',bV8,Ent.shape,bVb,aW2.blk.injEq]at h2;subst h2;exact h'
theorem eY.mapf {en en':En}{k:Key}{ks vs:List Val}{f:Bool}(h:eY en en' (.val k))(h2:eY en en' (.flag k))(he:en k=some (.map ks vs f)):en' k=some (.map ks vs f):=by
 obtain⟨f',h'⟩:=h.map he;simp only[eY,he,h',bV8,Ent.shape,bVb,aW2.map.injEq]at h2;subst h2;exact h'
theorem eY.boxl {en en':En}{k:Key}{cs:List Val}{f:Bool}(h2:eY en en' (.flag k))(he:en k=some (.box cs f)): ∃cs',en' k=some (.box cs' f)/\ cs'.length=cs.length:=by
 simp only[eY,he,bV8,Ent.shape]at h2;cases h':en' k with
 |none=>rw[h']at h2;cases h2
 |some e=>rw[h']at h2;cases e<;>simp[Ent.shape]at h2;obtain⟨h3,rfl⟩:=h2;exact⟨_,rfl,h3.symm⟩
theorem eY.window {en en':En}{k:Key}{cs:List Val}{f:Bool}{off n:Nat}(h:eY en en' (.cells k off n))(he:en k=some (.box cs f))(hl:off+n<=cs.length):
  ∃cs' f',en' k=some (.box cs' f')/\ off+n<=cs'.length/\ (cs'.drop off).take n=(cs.drop off).take n:=by
 simp only[eY,he,bV8,Ent.win,if_pos hl]at h;cases h':en' k with
 |none=>rw[h']at h;cases h
 |some e=>
  rw[h']at h;cases e<;>simp only[bV8,Ent.win,bVb,reduceCtorEq]at h
  split at h
  ·rename_i h3;simp only[bVb]at h;exact⟨_,_,rfl,h3,h.symm⟩
  ·cases h
theorem zA {en en':En}(n:Nat): ∀{v v':Val} {ks:List Key},snap n en v=some (v',ks)->(∀k∈ks,eY en en' (.val k))->snap n en' v=some (v',ks):=by
 induction n with
 |zero=>intro v v' ks h _;cases v<;>exact h
 |succ n ih=>
  have lst: ∀(vs:List Val) (rs:List (Val×List Key)),dH (snap n en) vs=some rs->(∀k∈rs.flatMap (·.2),eY en en' (.val k))->dH (snap n en') vs=some rs:=by
   intro vs
   induction vs with
   |nil=>intro rs h _;exact h
   |cons v vs ihv=>
    intro rs h hk;simp only[dH]at h⊢
    split at h
    case h_2=>cases h
    rename_i y hy
    split at h
    case h_2=>cases h
    rename_i ys hys;simp only[bVb]at h;subst h;obtain⟨y1,y2⟩:=y;rw[ih hy fun k hk'=>hk k (by simp[hk']),ihv ys hys fun k hk'=>hk k (by simp only[bX0,bV6];exact .inr hk')]
  have lst2: ∀(vs:List Val) (f:List Val×List Key->Val×List Key) (r:Val×List Key),(∀p k,k∈p.2->k∈(f p).2)->
    ((dH (snap n en) vs).map fun rs=>(rs.map (·.1),rs.flatMap (·.2))).map f=some r->(∀k∈r.2,eY en en' (.val k))->
    ((dH (snap n en') vs).map fun rs=>(rs.map (·.1),rs.flatMap (·.2))).map f=some r:=by
   intro vs f r hf h hk;simp only[Option.map_map,bVr,Function.comp]at h⊢;obtain⟨rs,h1,rfl⟩:=h;exact⟨rs,lst vs rs h1 fun k hk'=>hk k (hf _ k hk'),rfl⟩
  intro v v' ks h hk;cases v with
  |ptr k off=>
   simp only[snap]at h⊢
   split at h
   case h_2=>cases h
   rename_i cs f he;have hk0:k∈ks:=by
    obtain⟨rs,_,h2⟩:=bVr.1 h;simp only[bVl]at h2;rw[<-h2.2];simp
   obtain⟨f',he'⟩:=(hk k hk0).box he;simp only[he'];exact lst2 cs (fun r=>(.fp r.1 off,k::r.2)) (v',ks) (fun p q hq=>bX7 _ hq) h hk
  |ep k i off=>
   simp only[snap]at h⊢
   split at h
   case h_2=>cases h
   rename_i sz xs f he
   split at h
   case h_2=>cases h
   rename_i x hx;simp only[bVb,bVl]at h;obtain⟨rfl,rfl⟩:=h;obtain⟨f',he'⟩:=(hk k (by simp)).blk he
   simp only[he',hx]
  |bl k off len=>
   simp only[snap]at h⊢
   split at h
   case h_2=>cases h
   rename_i sz xs f he
   split at h
   case isFalse=>cases h
   rename_i hl;simp only[bVb,bVl]at h;obtain⟨rfl,rfl⟩:=h;obtain⟨f',he'⟩:=(hk k (by simp)).blk he
   simp only[he',if_pos hl]
  |mp k=>
   simp only[snap]at h⊢
   split at h
   case h_2=>cases h
   rename_i ks' vs f he;simp only[bVb,bVl]at h;obtain⟨rfl,rfl⟩:=h;obtain⟨f',he'⟩:=(hk k (by simp)).map he
   simp only[he']
  |fn f a b=>
   simp only[snap]at h⊢
   split at h
   case h_2=>cases h
   rename_i x y hx hy;simp only[bVb,bVl]at h;obtain⟨rfl,rfl⟩:=h;simp only[bVr]at hx hy;obtain⟨r1,e1,rfl⟩:=hx;obtain⟨r2,e2,rfl⟩:=hy;rw[lst a r1 e1 fun k hk'=>hk k (bV6.2 (.inl hk')),lst b r2 e2 fun k hk'=>hk k (bV6.2 (.inr hk'))]
   rfl
  |ifc t v=>
   simp only[snap]at h⊢;obtain⟨⟨r1,r2⟩,e1,h2⟩:=bVr.1 h;simp only[bVl]at h2;obtain⟨rfl,rfl⟩:=h2;rw[ih e1 hk];rfl
  |agg cs=>
   simp only[snap]at h⊢;exact lst2 cs (fun r=>(.agg r.1,r.2)) (v',ks) (fun p q hq=>hq) h hk
  |tup cs=>
   simp only[snap]at h⊢;exact lst2 cs (fun r=>(.tup r.1,r.2)) (v',ks) (fun p q hq=>hq) h hk
  |_=>exact h
theorem aKu {en en':En}{n:Nat}: ∀{vs:List Val} {rs:List (Val×List Key)},dH (fun x=>snap n en x) vs=some rs->(∀k∈rs.flatMap (·.2),eY en en' (.val k))->dH (fun x=>snap n en' x) vs=some rs:=by
 intro vs
 induction vs with
 |nil=>intro rs h _;exact h
 |cons v vs ihv=>
  intro rs h hk;simp only[dH]at h⊢
  split at h
  case h_2=>cases h
  rename_i y hy
  split at h
  case h_2=>cases h
  rename_i ys hys;simp only[bVb]at h;subst h;obtain⟨y1,y2⟩:=y;rw[zA n hy fun k hk'=>hk k (by simp[hk']),ihv hys fun k hk'=>hk k (by simp only[bX0,bV6];exact .inr hk')]
theorem aIs {en en':En}{a:Val}{n:Nat}{cs:List Val}{rs:List R}(h:oH en a n=some (cs,rs))(hk: ∀ρ∈rs,eY en en' ρ):oH en' a n=some (cs,rs):=by
 unfold oH at h⊢
 split at h
 ·rename_i k off
  split at h
  case h_2=>cases h
  rename_i cs0 f he
  split at h
  case isFalse=>cases h
  rename_i hl;simp only[bVb,bVl]at h;obtain⟨rfl,rfl⟩:=h;obtain⟨cs',f',h1,h2,h3⟩:=(hk (.cells k off n) (by simp)).window he hl
  simp only[h1,if_pos h2,h3]
 ·rename_i k i off
  split at h
  case h_2=>cases h
  rename_i sz xs f he
  split at h
  case h_2=>cases h
  rename_i x hx
  split at h
  case isFalse=>cases h
  rename_i hl;simp only[bVb,bVl]at h;obtain⟨rfl,rfl⟩:=h;obtain⟨f',he'⟩:=(hk (.val k) (by simp)).blk he
  simp only[he',hx,if_pos hl]
 ·exact h
 ·cases h
theorem sD {en en':En}{a:Val}{cs:List Val}{rs:List R}(h:jJ en a=some (cs,rs))(hk: ∀ρ∈rs,eY en en' ρ):jJ en' a=some (cs,rs):=by
 unfold jJ at h⊢
 split at h
 ·exact h
 ·exact h
 ·exact h
 ·rename_i k off len
  split at h
  case h_2=>cases h
  rename_i sz xs f he
  split at h
  case isFalse=>cases h
  rename_i hl;simp only[bVb,bVl]at h;obtain⟨rfl,rfl⟩:=h;obtain⟨f',he'⟩:=(hk (.val k) (by simp)).blk he
  simp only[he',if_pos hl]
 ·cases h
theorem aNu {me d g:Nat}{v:Val}{ks:List Key}:(eW me d g v ks).rs=ks.map .val:=by cases v<;>rfl
theorem aKv {me d g:Nat}{v:Val}{ks:List Key}:(eW me d g v ks).mem=none:=by cases v<;>rfl
theorem aT7 {me d g:Nat}{v:Val}{ks:List Key}(h:(eW me d g v ks).bump=false)(g':Nat):eW me d g' v ks=eW me d g v ks:=by
 cases v<;>first|rfl|(simp[eW]at h)
end Go.Abs
namespace Go.Abs
theorem aNv {n:Nat}{call:cM}{me d g:Nat}{en en':En}{get get':Opd->Val}{op:LOp}{r:Res}(h:eval n call me d g en get op=some r)
  (hg: ∀x∈op.opds,get' x=get x) (hk: ∀ρ∈r.rs,eY en en' ρ):eval n call me d g en' get' op=some r:=by
 cases op with
 |mv x=>simp only[eval]at h⊢;rw[hg x (by simp[LOp.opds])];exact h
 |pick c x y=>simp only[eval]at h⊢;rw[hg c (by simp[LOp.opds]),hg x (by simp[LOp.opds]),hg y (by simp[LOp.opds])];exact h
 |alloc z=>exact h
 |box m x=>simp only[eval]at h⊢;rw[hg x (by simp[LOp.opds])];exact h
 |build z ps=>
  simp only[eval]at h⊢;rw[show(ps.map fun p=>(p.1,p.2.1,get' p.2.2))=ps.map fun p=>(p.1,p.2.1,get p.2.2)from bWy fun p hp=>by
   rw[hg p.2.2 (by simp only[LOp.opds,bV4];exact⟨p,hp,rfl⟩)]]
  exact h
 |bslice len size z ps=>
  simp only[eval]at h⊢
  split at h
  case isFalse=>cases h
  rename_i hl
  split at h
  case h_2=>cases h
  rename_i qs hq
  split at h
  case h_2=>cases h
  rename_i xs hf;simp only[bVb]at h;subst h;have key: ∀(ps:List (Nat×Opd)) (qs:List ((Nat×Val)×List Key)),(∀x∈ps.map (·.2),get' x=get x)->dH (fun p=>(snap n en (get p.2)).map fun r=>((p.1,r.1.wk1),r.2)) ps=some qs->
    (∀k∈qs.flatMap (·.2),eY en en' (.val k))->dH (fun p=>(snap n en' (get' p.2)).map fun r=>((p.1,r.1.wk1),r.2)) ps=some qs:=by
   intro ps
   induction ps with
   |nil=>intro qs _ h _;exact h
   |cons p ps ih=>
    intro qs hgp h hkk;simp only[dH]at h⊢
    split at h
    case h_2=>cases h
    rename_i y hy
    split at h
    case h_2=>cases h
    rename_i ys hys;simp only[bVb]at h;subst h;obtain⟨⟨r1,r2⟩,e1,rfl⟩:=bVr.1 hy;rw[hgp p.2 (by simp),zA n e1 fun k hk'=>hkk k (by simp[hk'])]
    simp only[bV8];rw[ih ys (fun x hx=>hgp x (by simp only[bV9,bWe];exact .inr hx)) hys fun k hk'=>hkk k (by simp only[bX0,bV6];exact .inr hk')]
  rw[key ps qs (fun x hx=>hg x (by simpa[LOp.opds]using hx)) hq fun k hk'=>hk _ (by simpa using hk')]
  simp only[if_pos hl,hf]
 |load ag m x=>
  simp only[eval]at h⊢;rw[hg x (by simp[LOp.opds])]
  split at h
  case h_2=>cases h
  rename_i cs rs hr;obtain⟨v,hv,rfl⟩:=bVr.1 h;rw[aIs hr hk];simp only[hv,bV8]
 |store m x y=>
  simp only[eval]at h⊢;rw[hg x (by simp[LOp.opds]),hg y (by simp[LOp.opds])]
  split at h
  case isFalse=>cases h
  rename_i hc;rw[if_pos hc]
  split at h
  ·rename_i k off hX
   split at h
   case h_2=>cases h
   rename_i cs he
   split at h
   case isFalse=>cases h
   rename_i hl;simp only[bVb]at h;subst h;obtain⟨cs',he',hl'⟩:=(hk (.flag k) (by simp)).boxl he
   simp only[he',hl',if_pos hl]
  ·rename_i k i off hX
   split at h
   case h_2=>cases h
   rename_i sz xs he
   split at h
   case h_2=>cases h
   rename_i Y hY
   split at h
   case isFalse=>cases h
   rename_i hl
   split at h
   case h_2=>cases h
   rename_i v' ks hs
   split at h
   case isFalse=>cases h
   rename_i hk2;simp only[bVb]at h;subst h;have he':=(hk (.val k) (by simp)).blkf (hk (.flag k) (by simp)) he
   simp only[he',hY,if_pos hl,zA n hs fun k' hk'=>hk _ (by simp[hk']),if_pos hk2]
  ·cases h
 |nilck x=>simp only[eval]at h⊢;rw[hg x (by simp[LOp.opds])];exact h
 |bin o t x y=>simp only[eval]at h⊢;rw[hg x (by simp[LOp.opds]),hg y (by simp[LOp.opds])];exact h
 |un o x=>simp only[eval]at h⊢;rw[hg x (by simp[LOp.opds])];exact h
 |wrap k x=>simp only[eval]at h⊢;rw[hg x (by simp[LOp.opds])];exact h
 |iface t x=>simp only[eval]at h⊢;rw[hg x (by simp[LOp.opds])];exact h
 |assert t z ok x=>simp only[eval]at h⊢;rw[hg x (by simp[LOp.opds])];exact h
 |mkfn f a b=>
  simp only[eval]at h⊢;rw[show a.map get'=a.map get from bWy fun p hp=>hg p (by simp[LOp.opds,hp]),show b.map get'=b.map get from bWy fun p hp=>hg p (by simp[LOp.opds,hp])]
  exact h
 |mkmap=>exact h
 |mput t m k x=>
  simp only[eval]at h⊢;rw[hg m (by simp[LOp.opds]),hg k (by simp[LOp.opds]),hg x (by simp[LOp.opds])]
  split at h
  case h_2=>cases h
  rename_i key hm
  split at h
  case h_2=>cases h
  rename_i ks vs he
  split at h
  case isFalse=>cases h
  rename_i hok;have done: ∀e:En->Option Res,(eY en en' (.val key)->eY en en' (.flag key)->en' key=some (.map ks vs false)):=fun _ a b=>a.mapf b he
  split at h
  ·rename_i i hf;simp only[bVb]at h;subst h;have he':=done (fun _=>none) (hk (.val key) (by simp)) (hk (.flag key) (by simp))
   simp only[he',if_pos hok,hf]
  ·rename_i hf;simp only[bVb]at h;subst h;have he':=done (fun _=>none) (hk (.val key) (by simp)) (hk (.flag key) (by simp))
   simp only[he',if_pos hok,hf]
  ·cases h
 |mget t z ok m k=>
  simp only[eval]at h⊢;rw[hg m (by simp[LOp.opds]),hg k (by simp[LOp.opds])]
  split at h
  case isFalse=>cases h
  rename_i hok;rw[if_pos hok]
  split at h
  ·rename_i key hm
   split at h
   case h_2=>cases h
   rename_i ks vs f he;obtain⟨v,hv,rfl⟩:=bVr.1 h;obtain⟨f',he'⟩:=(hk (.val key) (by simp)).map he
   simp only[he',hv,bV8]
  ·exact h
  ·exact h
  ·cases h
 |mklen size z len cap=>simp only[eval]at h⊢;rw[hg len (by simp[LOp.opds]),hg cap (by simp[LOp.opds])];exact h
 |slice str size x lo hi mx=>
  have e1:lo.map get'=lo.map get:=by
   cases lo with
   |none=>rfl
   |some l=>simp only[bV8];rw[hg l (by simp[LOp.opds])]
  have e2:hi.map get'=hi.map get:=by
   cases hi with
   |none=>rfl
   |some l=>simp only[bV8];rw[hg l (by simp[LOp.opds])]
  have e3: ∀m,mx=some m->get' m=get m:=fun m hm=>hg m (by simp[LOp.opds,hm])
  simp only[eval,e1,e2]at h⊢;rw[hg x (by simp[LOp.opds])]
  split at h
  ·rename_i hs;rw[if_pos hs];exact h
  ·rename_i hs;rw[if_neg hs]
   split at h
   ·split at h
    ·exact h
    ·rename_i m;simp only[e3 m rfl];exact h
   ·split at h
    ·exact h
    ·rename_i m;simp only[e3 m rfl];exact h
   ·rename_i k off len hX
    split at h
    case h_2=>cases h
    split at h
    case h_2=>cases h
    rename_i hh hb
    split at h
    case h_2=>cases h
    rename_i ll hlo
    split at h
    case h_2=>cases h
    rename_i sz xs f he
    split at h
    case isFalse=>cases h
    rename_i hc;simp only[bVb]at h;subst h;obtain⟨f',he'⟩:=(hk (.val k) (by simp)).blk he
    simp only[hb,hlo,he',if_pos hc]
   ·cases h
 |fa off x=>simp only[eval]at h⊢;rw[hg x (by simp[LOp.opds])];exact h
 |fld ag off m x=>simp only[eval]at h⊢;rw[hg x (by simp[LOp.opds])];exact h
 |ia size x i=>
  simp only[eval]at h⊢;rw[hg x (by simp[LOp.opds]),hg i (by simp[LOp.opds])]
  split at h
  case h_2=>cases h
  split at h
  ·exact h
  ·exact h
  ·rename_i k off len hX
   split at h
   case h_2=>cases h
   rename_i sz xs f he
   split at h
   case isFalse=>cases h
   rename_i hc;simp only[bVb]at h;subst h;obtain⟨f',he'⟩:=(hk (.val k) (by simp)).blk he
   simp only[he',if_pos hc]
  ·cases h
 |iaa len size x i=>simp only[eval]at h⊢;rw[hg x (by simp[LOp.opds]),hg i (by simp[LOp.opds])];exact h
 |ixs x i=>simp only[eval]at h⊢;rw[hg x (by simp[LOp.opds]),hg i (by simp[LOp.opds])];exact h
 |ixa ag len size x i=>simp only[eval]at h⊢;rw[hg x (by simp[LOp.opds]),hg i (by simp[LOp.opds])];exact h
 |ext i x=>simp only[eval]at h⊢;rw[hg x (by simp[LOp.opds])];exact h
 |call f args=>
  simp only[eval]at h⊢;rw[hg f (by simp[LOp.opds]),show args.map get'=args.map get from bWy fun p hp=>hg p (by simp[LOp.opds,hp])]
  split at h
  case h_2=>cases h
  rename_i f a b hf
  split at h
  case h_2=>cases h
  rename_i rs hs
  split at h
  case h_2=>cases h
  rename_i v hv;simp only[bVb]at h;subst h;rw[aKu hs fun k hk'=>hk _ (by rw[aNu];simpa using hk')]
  simp only[hv]
 |icall f args=>cases h
 |len t x=>
  simp only[eval]at h⊢;rw[hg x (by simp[LOp.opds])]
  split at h
  ·split at h
   ·rename_i key hx
    split at h
    case h_2=>cases h
    rename_i ks vs f he;simp only[bVb]at h;subst h;obtain⟨f',he'⟩:=(hk (.val key) (by simp)).map he
    simp only[he']
   ·exact h
   ·exact h
   ·cases h
  ·exact h
  ·exact h
  ·cases h
 |append size x y=>
  simp only[eval]at h⊢;rw[hg x (by simp[LOp.opds]),hg y (by simp[LOp.opds])]
  split at h
  case h_2=>cases h
  rename_i ys rs hel
  split at h
  case isFalse=>cases h
  rename_i hh
  split at h
  ·split at h
   ·rename_i hye;simp only[bVb]at h;subst h;rw[sD hel hk];simp only[if_pos hh,if_pos hye]
   rename_i hye
   split at h
   case isFalse=>cases h
   rename_i hc;simp only[bVb]at h;subst h;rw[sD hel hk];simp only[if_pos hh,if_neg hye,if_pos hc]
  ·rename_i k off len hX
   split at h
   case h_2=>cases h
   rename_i sz xs f he
   split at h
   case isFalse=>cases h
   rename_i hc;simp only[bVb]at h;subst h;have he':=(hk (.val k) (by simp)).blkf (hk (.flag k) (by simp)) he
   rw[sD hel fun ρ hρ=>hk ρ (by simp[hρ])]
   simp only[if_pos hh,he',if_pos hc]
  ·cases h
 |copy size x y=>cases h
 |rng x=>simp only[eval]at h⊢;rw[hg x (by simp[LOp.opds])];exact h
 |nxt x=>
  simp only[eval]at h⊢;rw[hg x (by simp[LOp.opds])]
  split at h
  case h_2=>cases h
  rename_i k hX
  split at h
  case h_2=>cases h
  rename_i s pos he
  split at h
  ·rename_i hlt;simp only[bVb]at h;subst h;have he':=(hk (.val k) (by simp)).iter he
   simp only[he',if_pos hlt]
  ·rename_i hlt;simp only[bVb]at h;subst h;have he':=(hk (.val k) (by simp)).iter he
   simp only[he',if_neg hlt]
 |minmax mx xs=>
  simp only[eval]at h⊢;rw[show xs.map get'=xs.map get from bWy fun p hp=>hg p (by simp[LOp.opds,hp])]
  exact h
end Go.Abs
namespace Go.Abs
theorem aIt {n:Nat}{call:cM}{me d g:Nat}{en:En}{get:Opd->Val}{op:LOp}{r:Res}(h:eval n call me d g en get op=some r)(hw:op.writesMem=false):r.ws=[]:=by
 cases op<;>first
  |(simp[LOp.writesMem]at hw;done)
  |(simp only[eval,aGf]at h
    (repeat' split at h)<;>first
     |(cases h;done)
     |(simp only[bVb]at h;subst h;rfl)
     |(obtain⟨_,_,rfl⟩:=bVr.1 h;rfl))
theorem aEj {n:Nat}{call:cM}{me d g:Nat}{en:En}{get:Opd->Val}{op:LOp}{r:Res}(h:eval n call me d g en get op=some r):r.mem=none:=by
 cases op<;>(
  simp only[eval,aGf]at h
  (repeat' split at h)<;>first
   |(cases h;done)
   |(simp only[bVb]at h;subst h;rfl)
   |(simp only[bVb]at h;subst h;exact aKv)
   |(obtain⟨_,_,rfl⟩:=bVr.1 h;rfl))
theorem aKw {n:Nat}{call:cM}{me d g:Nat}{en:En}{get:Opd->Val}{op:LOp}{r:Res}(h:eval n call me d g en get op=some r)(hw:op.writesMem=false):r.bump=false:=by
 cases op<;>first
  |(simp[LOp.writesMem]at hw;done)
  |(simp only[eval,aGf]at h
    (repeat' split at h)<;>first
     |(cases h;done)
     |(simp only[bVb]at h;subst h;rfl)
     |(obtain⟨_,_,rfl⟩:=bVr.1 h;rfl))
theorem aKx {n:Nat}{call:cM}{me d g:Nat}{en:En}{get:Opd->Val}{op:LOp}{r:Res}(h:eval n call me d g en get op=some r)(hw:op.readsMem=false):r.rs=[]:=by
 cases op<;>first
  |(simp[LOp.readsMem]at hw;done)
  |(simp only[eval,aGf]at h
    (repeat' split at h)<;>first
     |(cases h;done)
     |(simp only[bVb]at h;subst h;rfl)
     |(obtain⟨_,_,rfl⟩:=bVr.1 h;rfl))
theorem bC7 {n:Nat}{call:cM}{me d g:Nat}{en:En}{get:Opd->Val}{op:LOp}{r:Res}(h:eval n call me d g en get op=some r)(hw:r.bump=false)(g':Nat):eval n call me d g' en get op=some r:=by
 by_cases hc: ∃f args,op= .call f args
 ·obtain⟨f,args,rfl⟩:=hc;simp only[eval]at h⊢
  split at h
  case h_2=>cases h
  split at h
  case h_2=>cases h
  rename_i hs
  split at h
  case h_2=>cases h
  rename_i hv;simp only[bVb]at h;subst h;rw[aT7 hw g']
 cases op<;>first
  |exact absurd ⟨_,_,rfl⟩ hc
  |exact h
  |(exfalso
    simp only[eval]at h
    ((repeat' split at h)<;>first
     |(cases h;done)
     |(simp only[bVb]at h;subst h;cases hw));done)
  |(simp only[eval]at h⊢
    (repeat' split at h)<;>first
     |(cases h;done)
     |(exfalso;simp only[bVb]at h;subst h;cases hw;done)
     |(simp only[*];done)
     |(rename_i hh _ _ _ _;simp only[*,if_true];done)
     |(simp only[*,if_true]at h⊢;done)
     |(simp_all;done))
theorem aAc : ∀(vs:List Val) (cs:List Val) (off i:Nat),(i<off \/off+vs.length<=i)->(setCells cs off vs)[i]?=cs[i]?
 |[],_,_,_,_=>rfl
 |v::vs,cs,off,i,h=>by
  simp only[bVu]at h;rw[setCells,aAc vs _ _ _ (by omega),bXm]
  rw[if_neg (by omega)]
theorem tQ : ∀(vs:List Val) (cs:List Val) (off:Nat),(setCells cs off vs).length=cs.length
 |[],_,_=>rfl
 |v::vs,cs,off=>by rw[setCells,tQ];simp
theorem aIu (vs:List Val): ∀(cs:List Val) (off i:Nat) (u:Val),(i<off \/off+vs.length<=i)->setCells (cs.set i u) off vs=(setCells cs off vs).set i u:=by
 induction vs with
 |nil=>intro cs off i u _;rfl
 |cons v vs ih=>
  intro cs off i u h;simp only[bVu]at h;rw[setCells,setCells,<-ih _ _ _ _ (by omega)]
  congr 1
  exact List.set_comm _ _ (by omega)
theorem aGh (us:List Val): ∀(vs cs:List Val) (off off':Nat),(off+us.length<=off' \/off'+vs.length<=off)->setCells (setCells cs off us) off' vs=setCells (setCells cs off' vs) off us:=by
 induction us with
 |nil=>intro vs cs off off' _;rfl
 |cons u us ih=>
  intro vs cs off off' h;simp only[bVu]at h;rw[setCells,setCells,ih _ _ _ _ (by omega),aIu _ _ _ _ _ (by omega)]
def W.onEnt :W->Option Ent->Option Ent
 | .ent _ e=>fun _=>e
 | .cells _ off vs=>fun x=>match x with
  |some (.box cs f)=>some (.box (setCells cs off vs) f)
  |x=>x
 | .elem _ i off vs=>fun x=>match x with
  |some (.blk sz xs f)=>match xs[i]? with
   |some y=>some (.blk sz (xs.set i (fH y off vs)) f)
   |none=>some (.blk sz xs f)
  |x=>x
 | .frz _=>fun x=>x.map Ent.freeze
theorem W.apply_self (en:En)(w:W):W.apply en w w.key=w.onEnt (en w.key):=by
 cases w with
 |ent k' e=>simp[W.apply,W.key,W.onEnt,En.set]
 |cells k off vs=>
  show W.apply en _ k=W.onEnt _ (en k);simp only[W.apply,W.onEnt];cases h:en k with
  |none=>simp[h]
  |some e=>cases e<;>simp[En.set,h]
 |elem k i off vs=>
  show W.apply en _ k=W.onEnt _ (en k);simp only[W.apply,W.onEnt];cases h:en k with
  |none=>simp[h]
  |some e=>
   cases e with
   |blk sz xs f=>cases h':xs[i]?<;>simp[En.set,h,h']
   |_=>simp[h]
 |frz k=>
  show W.apply en _ k=W.onEnt _ (en k);simp only[W.apply,W.onEnt];cases h:en k with
  |none=>simp[h]
  |some e=>simp[En.set]
theorem W.apply_other (en:En)(w:W){k:Key}(hk:k≠w.key):W.apply en w k=en k:=by
 cases w with
 |ent k' e=>
  have hk:k≠k':=hk;simp[W.apply,En.set,hk]
 |cells k' off vs=>
  have hk:k≠k':=hk;simp only[W.apply];cases h:en k' with
  |none=>rfl
  |some e=>cases e<;>simp[En.set,hk]
 |elem k' i off vs=>
  have hk:k≠k':=hk;simp only[W.apply];cases h:en k' with
  |none=>rfl
  |some e=>
   cases e with
   |blk sz xs f=>cases h':xs[i]?<;>simp[En.set,hk,h']
   |_=>rfl
 |frz k'=>
  have hk:k≠k':=hk;simp only[W.apply];cases h:en k' with
  |none=>rfl
  |some e=>simp[En.set,hk]
theorem W.apply_at (en:En)(w:W)(k:Key):W.apply en w k=if k=w.key then w.onEnt (en k)else en k:=by
 by_cases hk:k=w.key
 ·rw[if_pos hk,hk,W.apply_self]
 ·rw[if_neg hk,W.apply_other en w hk]
theorem W.comm {w w':W}(h:kH w w'=true)(en:En):W.apply (W.apply en w) w'=W.apply (W.apply en w') w:=by
 have key:w.key≠w'.key->W.apply (W.apply en w) w'=W.apply (W.apply en w') w:=by
  intro hk
  funext k
  simp only[W.apply_at]
  by_cases h1:k=w'.key
  ·subst h1;have h2: ¬w'.key=w.key:=fun e=>hk e.symm
   simp[h2]
  ·simp[h1]
 by_cases hk:w.key=w'.key
 ·cases w<;>cases w'<;>simp only[W.key]at hk<;>subst hk<;>simp[kH,W.key]at h
  ·rename_i k off vs off' vs'
   funext k'
   by_cases hk':k'=k
   ·subst hk';have e1:=W.apply_self (W.apply en (.cells k' off vs)) (.cells k' off' vs');have e2:=W.apply_self en (.cells k' off vs);have e3:=W.apply_self (W.apply en (.cells k' off' vs')) (.cells k' off vs);have e4:=W.apply_self en (.cells k' off' vs');simp only[W.key]at e1 e2 e3 e4;rw[e1,e2,e3,e4];cases en k' with
    |none=>rfl
    |some e=>
     cases e with
     |box cs f=>simp only[W.onEnt];rw[aGh _ _ _ _ _ h]
     |_=>rfl
   ·rw[W.apply_other _ (.cells k off' vs') hk',W.apply_other _ (.cells k off vs) hk',W.apply_other _ (.cells k off vs) hk',W.apply_other _ (.cells k off' vs') hk']
  ·rfl
 ·exact key hk
theorem W.same {w:W}{ρ:R}(h:fX w ρ=true)(en:En):eY (W.apply en w) en ρ:=by
 have key:w.key≠ρ.key->eY (W.apply en w) en ρ:=by
  intro hk;have e:W.apply en w ρ.key=en ρ.key:=by rw[W.apply_at,if_neg fun e=>hk e.symm]
  cases ρ<;>simp only[eY,R.key]at e⊢ <;>rw[e]
 by_cases hk:w.key=ρ.key
 ·have e:=W.apply_self en w;cases w<;>cases ρ<;>simp only[W.key,R.key]at hk<;>subst hk<;>simp[fX,W.key,R.key]at h<;>
   simp only[W.key]at e<;>simp only[eY,e,W.onEnt]
  ·rename_i k off vs off' n;cases en k with
   |none=>rfl
   |some e=>
    cases e with
    |box cs f=>
     simp only[bV8,Ent.win,tQ];split
     ·congr 2
      apply List.ext_getElem?;intro j;simp only[List.getElem?_take,bXx];split
      ·rw[aAc _ _ _ _ (by omega)]
      ·rfl
     ·rfl
    |_=>rfl
  ·rename_i k off vs;cases en k with
   |none=>rfl
   |some e=>cases e<;>simp[Ent.shape,tQ]
  ·rename_i k i off vs;cases en k with
   |none=>rfl
   |some e=>
    cases e with
    |blk sz xs f=>simp only;split<;>rfl
    |_=>rfl
  ·rename_i k;cases en k with
   |none=>rfl
   |some e=>cases e<;>rfl
  ·rename_i k off n;cases en k with
   |none=>rfl
   |some e=>cases e<;>rfl
 ·exact key hk
theorem aIv (ws:List W): ∀(en:En) (w:W),(∀w'∈ws,kH w w'=true)->W.applyAll (W.apply en w) ws=W.apply (W.applyAll en ws) w:=by
 induction ws with
 |nil=>intro en w _;rfl
 |cons w' ws ih=>
  intro en w h;show W.applyAll (W.apply (W.apply en w) w') ws=W.apply (W.applyAll (W.apply en w') ws) w;rw[W.comm (h w' (by simp)),ih _ _ fun x hx=>h x (by simp[hx])]
theorem aGi (ws:List W): ∀(ws':List W) (en:En),(∀w∈ws,∀w'∈ws',kH w w'=true)->W.applyAll (W.applyAll en ws) ws'=W.applyAll (W.applyAll en ws') ws:=by
 induction ws with
 |nil=>intro ws' en _;rfl
 |cons w ws ih=>
  intro ws' en h;show W.applyAll (W.applyAll (W.apply en w) ws) ws'=W.applyAll (W.apply (W.applyAll en ws') w) ws;rw[ih _ _ fun x hx=>h x (by simp[hx]),aIv _ _ _ (h w (by simp))]
theorem aGj (ws:List W): ∀(en:En) (ρ:R),(∀w∈ws,fX w ρ=true)->eY (W.applyAll en ws) en ρ:=by
 induction ws with
 |nil=>intro en ρ _;exact eY.refl _ _
 |cons w ws ih=>
  intro en ρ h;show eY (W.applyAll (W.apply en w) ws) en ρ;exact(ih _ ρ fun x hx=>h x (by simp[hx])).trans (W.same (h w (by simp)) en)
end Go.Abs
namespace Go.Abs
section
variable {σ :Type}(E:Nat->σ->σ)
def jW (L:Nat->Bool)(s:σ):Nat->σ
 |0=>s
 |n+1=>if L n then E n (jW L s n)else jW L s n
variable {E}
theorem eS {L L':Nat->Bool}{s:σ}: ∀{n:Nat},(∀i,i<n->L i=L' i)->jW E L s n=jW E L' s n
 |0,_=>rfl
 |n+1,h=>by simp only[jW];rw[h n (by omega),eS fun i hi=>h i (by omega)]
theorem aBp {L:Nat->Bool}{s:σ}{j:Nat}(hj:L j=false): ∀{n:Nat},j<n->(∀k,j<k->k<n->L k=true-> ∀s,E k (E j s)=E j (E k s))->
  jW E (fun k=>k==j||L k) s n=E j (jW E L s n)
 |0,h,_=>by omega
 |n+1,h,hc=>by
  by_cases hn:j=n
  ·subst hn;simp only[jW,BEq.rfl,bVj,if_true,hj,bVd,if_false];rw[eS (L':=L) fun i hi=>by
    have:(i==j)=false:=by simp;omega
    simp[this]]
  ·have hlt:j<n:=by omega
   have hne:(n==j)=false:=by simp;omega
   simp only[jW,hne,bWz];rw[aBp hj hlt fun k h1 h2=>hc k h1 (by omega)]
   split
   ·rename_i hL;exact hc n hlt (by omega) hL _
   ·rfl
theorem zB {L:Nat->Bool}{s:σ}{n:Nat}(Eq:σ->σ->Prop)(hrefl: ∀s,Eq s s)(htrans: ∀a b c,Eq a b->Eq b c->Eq a c)(keep:Nat->Bool):
  ∀m,m<=n->(∀j,j<m->L j=true->keep j=false->(∀s,Eq (E j s) s)/\ ∀k,j<k->k<n->L k=true->keep k=true-> ∀s,E k (E j s)=E j (E k s))->
   Eq (jW E (fun k=>L k&&(keep k||k<m)) s n) (jW E (fun k=>L k&&keep k) s n)
 |0,_,_=>by
  rw[eS (L':=fun k=>L k&&keep k) fun i hi=>by simp]
  exact hrefl _
 |m+1,hm,h=>by
  refine htrans _ _ _ ?_ (zB Eq hrefl htrans keep m (by omega) fun j hj=>h j (by omega))
  by_cases hc:L m=true/\ keep m=false
  ·obtain⟨h1,h2⟩:=h m (by omega) hc.1 hc.2
   rw[eS (L':=fun k=>k==m||(L k&&(keep k||k<m))) fun i hi=>by
    by_cases him:i=m
    ·subst him;simp[hc.1]
    ·have e1:(i==m)=false:=by simp[him]
     have e2:decide (i<m+1)=decide (i<m):=by
      by_cases h:i<m
      ·simp[h];omega
      ·simp[h];omega
     simp[e1,e2]]
   rw[aBp (by simp[hc.2]) (by omega) fun k h3 h4 h5 s=>by
    simp only[bVc,Bool.or_eq_true,bYb]at h5;rcases h5.2 with h6|h6
    ·exact h2 k h3 h4 h5.1 h6 s
    ·omega]
   exact h1 _
  ·rw[eS (L':=fun k=>L k&&(keep k||k<m)) fun i hi=>by
    by_cases him:i=m
    ·subst him;cases hL:L i with
     |false=>simp
     |true=>cases hk:keep i with
      |false=>exact absurd ⟨hL,hk⟩ hc
      |true=>simp
    ·have e2:decide (i<m+1)=decide (i<m):=by
      by_cases h:i<m
      ·simp[h];omega
      ·simp[h];omega
     simp[e2]]
   exact hrefl _
end
end Go.Abs
namespace Go.Abs
def mD (o:bE)(r:Res)(st:St):St:=
 {fr:=fN st.fr o.dst r.v,en:=match r.mem with|some p=>fun k=>if r.unch k=true then st.en k else p.1 k|none=>W.applyAll st.en r.ws,cnt:=match r.mem with|some p=>p.2|none=>if r.bump then aP st.cnt 0 (o.dst.getD 0) (st.cnt 0 (o.dst.getD 0)+1)else st.cnt}
def Res.quiet (r:Res):Prop:=r.ws=[]/\ r.bump=false/\ r.mem=none
theorem aEk {n:Nat}{call:cM}{io:Inl}{st st':St}{o:bE}{r:Res}(h:step n call io 0 st o=some (st',r)):
  st'=mD o r st/\ (r.bump=true->o.dst.isSome=true)/\ (o.op.writesMem=false->r.quiet)/\ (o.op.readsMem=false->r.rs=[]):=by
 simp only[step]at h
 split at h
 ·simp only[bVb,bVl]at h;obtain⟨rfl,rfl⟩:=h;exact⟨rfl,by simp,fun _=>⟨rfl,rfl,rfl⟩,fun _=>rfl⟩
 ·split at h
  ·rename_i f args hop
   split at h
   case h_2=>cases h
   rename_i v st1 hc;simp only[bVb,bVl]at h;obtain⟨rfl,rfl⟩:=h
   refine⟨?_,by simp,fun hw=>by rw[hop]at hw;simp[LOp.writesMem]at hw,fun _=>rfl⟩
   simp only[mD]
   congr 1
   funext k
   split
   ·rename_i hk;exact(aKj hk).symm
   ·rfl
  ·split at h
   case h_2=>cases h
   rename_i r' hev
   split at h
   ·cases h
   rename_i hb;simp only[bVb,bVl]at h;obtain⟨rfl,rfl⟩:=h
   refine⟨by simp only[mD,aEj hev],fun h=>?_,fun hw=>⟨aIt hev hw,aKw hev hw,aEj hev⟩,aKx hev⟩
   rw[h]at hb;cases ho:o.dst with
   |none=>rw[ho]at hb;simp at hb
   |some d=>rfl
 ·cases h
structure sE (o:bE) (r:Res) (s s':St):Prop where
 fr: ∀t∈o.uses,s.fr t=s'.fr t
 en: ∀ρ∈r.rs,eY s.en s'.en ρ
 cnt:r.bump=true-> ∀d,o.dst=some d->s.cnt 0 d=s'.cnt 0 d
 all:r.mem.isSome=true->s.en=s'.en/\ s.cnt=s'.cnt
theorem sE.refl (o:bE)(r:Res)(s:St):sE o r s s:=⟨fun _ _=>rfl,fun _ _=>eY.refl _ _,fun _ _ _=>rfl,fun _=>⟨rfl,rfl⟩⟩
theorem sE.trans {o:bE}{r:Res}{a b c:St}(h:sE o r a b)(k:sE o r b c):sE o r a c:=
 ⟨fun t ht=>(h.fr t ht).trans (k.fr t ht),fun ρ hρ=>(h.en ρ hρ).trans (k.en ρ hρ),fun hb d hd=>(h.cnt hb d hd).trans (k.cnt hb d hd),fun hm=>⟨(h.all hm).1.trans (k.all hm).1,(h.all hm).2.trans (k.all hm).2⟩⟩
theorem sE.symm {o:bE}{r:Res}{a b:St}(h:sE o r a b):sE o r b a:=
 ⟨fun t ht=>(h.fr t ht).symm,fun ρ hρ=>(h.en ρ hρ).symm,fun hb d hd=>(h.cnt hb d hd).symm,fun hm=>⟨(h.all hm).1.symm,(h.all hm).2.symm⟩⟩
theorem aT8 {n:Nat}{call:cM}{io:Inl}{st st' st2:St}{o:bE}{r:Res}(h:step n call io 0 st o=some (st',r))(hl:sE o r st st2):step n call io 0 st2 o=some (mD o r st2,r):=by
 have hw:wanted st2.fr o.guard=wanted st.fr o.guard:=by
  cases hg:o.guard with
  |none=>rfl
  |some p=>
   obtain⟨t,b⟩:=p;simp only[wanted];rw[hl.fr t (by simp[bE.uses,hg])]
 have hgt: ∀x∈o.op.opds,St.get st2.fr x=St.get st.fr x:=by
  intro x hx;cases x with
  |t i=>exact(hl.fr i (by simp only[bE.uses,bV6,bWt];exact .inl ⟨_,hx,by simp[Opd.tmp]⟩)).symm
  |c v=>rfl
  |f i=>rfl
  |m tbl i=>simp only[St.get];rw[(hl.fr i (by simp only[bE.uses,bV6,bWt];exact .inl ⟨_,hx,by simp[Opd.tmp]⟩)).symm]
 simp only[step]at h⊢;rw[hw]
 split at h
 ·simp only[bVb,bVl]at h;obtain⟨_,rfl⟩:=h;rfl
 ·split at h
  ·rename_i f args hop
   split at h
   case h_2=>cases h
   rename_i v st1 hc;simp only[bVb,bVl]at h;obtain⟨_,rfl⟩:=h;obtain⟨e1,e2⟩:=hl.all rfl;rw[hgt f (by simp[hop,LOp.opds]),show args.map (St.get st2.fr)=args.map (St.get st.fr)from bWy fun p hp=>hgt p (by simp[hop,LOp.opds,hp]),<-e1,<-e2,hc]
   simp only[mD,<-e1]
   congr 3
   funext k
   split
   ·rename_i hk;exact(aKj hk).symm
   ·rfl
  ·rename_i hni
   split at h
   case h_2=>cases h
   rename_i r' hev
   split at h
   ·cases h
   rename_i hb;simp only[bVb,bVl]at h;obtain⟨_,rfl⟩:=h;have hev2:eval n call 0 (o.dst.getD 0) (st2.cnt 0 (o.dst.getD 0)) st2.en (St.get st2.fr) o.op=some r':=by
    have h1:=aNv hev hgt hl.en;cases hbb:r'.bump with
    |false=>exact bC7 h1 hbb _
    |true=>
     cases hd:o.dst with
     |some d=>rw[hd]at h1;simp only[bV0]at h1⊢;rw[<-hl.cnt hbb d hd];exact h1
     |none=>rw[hd,hbb]at hb;simp at hb
   rw[hev2];simp only[if_neg hb];simp only[mD,aEj hev]
 ·cases h
structure aIw (o o':bE) (r r':Res):Prop where
 dst: ∀d,o.dst=some d->o'.dst≠some d
 use: ∀d,o.dst=some d->d∉o'.uses
 use': ∀d,o'.dst=some d->d∉o.uses
 ww: ∀w∈r.ws,∀w'∈r'.ws,kH w w'=true
 wr: ∀w∈r.ws,∀ρ∈r'.rs,fX w ρ=true
 rw: ∀w∈r'.ws,∀ρ∈r.rs,fX w ρ=true
 m1:r.mem.isSome=true->r'.quiet/\ ∀ρ∈r'.rs,r.unch ρ.key=true
 m2:r'.mem.isSome=true->r.quiet/\ ∀ρ∈r.rs,r'.unch ρ.key=true
theorem aNw {fr:Nat->Val}{d d':Nat}{u v:Val}(h:d≠d'):jU (jU fr d u) d' v=jU (jU fr d' v) d u:=by
 funext i
 simp only[jU]
 by_cases h1:i=d'
 ·subst h1;rw[if_pos rfl,if_neg fun e:i=d=>h e.symm,if_pos rfl]
 ·rw[if_neg h1,if_neg h1]
theorem zC {fr:Nat->Val}{d d':Option Nat}{u v:Val}(h: ∀x,d=some x->d'≠some x):fN (fN fr d u) d' v=fN (fN fr d' v) d u:=by
 cases d with
 |none=>rfl
 |some d=>
  cases d' with
  |none=>rfl
  |some d'=>exact aNw fun e=>h d rfl (by rw[e])
theorem aKy {fr:Nat->Val}{d:Option Nat}{v:Val}{t:Nat}(h: ∀x,d=some x->t≠x):fN fr d v t=fr t:=by
 cases d with
 |none=>rfl
 |some d=>simp only[fN,jU];rw[if_neg (h d rfl)]
theorem aIw.comm {o o':bE}{r r':Res}(h:aIw o o' r r')(hb:r.bump=true->o.dst.isSome=true)(hb':r'.bump=true->o'.dst.isSome=true)(s:St):
  mD o' r' (mD o r s)=mD o r (mD o' r' s):=by
 simp only[mD];cases hm:r.mem with
 |some p=>
  obtain⟨⟨q1,q2,q3⟩,_⟩:=h.m1 (by rw[hm];rfl)
  simp only[q1,q2,q3,W.applyAll,bXo,bVd,if_false];rw[zC h.dst]
 |none=>
  cases hm':r'.mem with
  |some p=>
   obtain⟨⟨q1,q2,_⟩,_⟩:=h.m2 (by rw[hm'];rfl)
   simp only[q1,q2,W.applyAll,bXo,bVd,if_false];rw[zC h.dst]
  |none=>
   simp only
   congr 1
   ·exact zC h.dst
   ·exact aGi _ _ _ h.ww
   ·by_cases hbb:r.bump=true
    ·by_cases hbb':r'.bump=true
     ·obtain⟨d,hd⟩:=bWp.1 (hb hbb);obtain⟨d',hd'⟩:=bWp.1 (hb' hbb');have hne:d≠d':=fun e=>h.dst d hd (by rw[hd',e])
      simp only[hbb,hbb',if_true,hd,hd',bV0]
      funext n t
      simp only[aP]
      by_cases h1:n=0/\ t=d'
      ·obtain⟨rfl,rfl⟩:=h1;have h3: ¬t=d:=fun e=>hne e.symm
       simp[h3]
      ·by_cases h2:n=0/\ t=d
       ·obtain⟨rfl,rfl⟩:=h2;simp[hne]
       ·simp[h1,h2]
     ·simp[hbb']
    ·simp[hbb]
theorem aKz {en en':En}{ρ:R}(h:en ρ.key=en' ρ.key):eY en en' ρ:=by
 cases ρ<;>simp only[eY,R.key]at h⊢ <;>rw[h]
theorem aK0 {o o':bE}{r r':Res}(hd: ∀d,o.dst=some d->o'.dst≠some d)(hu: ∀d,o.dst=some d->d∉o'.uses)(hwr: ∀w∈r.ws,∀ρ∈r'.rs,fX w ρ=true)
  (h1:r.mem.isSome=true->r'.quiet/\ ∀ρ∈r'.rs,r.unch ρ.key=true) (h2:r'.mem.isSome=true->r.quiet/\ ∀ρ∈r.rs,r'.unch ρ.key=true) (hb:r.bump=true->o.dst.isSome=true) (s:St):sE o' r' (mD o r s) s:=by
 refine⟨fun t ht=>?_,fun ρ hρ=>?_,fun hbump d hd'=>?_,fun hm=>?_⟩
 ·exact aKy fun x hx e=>hu x hx (e▸ht)
 ·simp only[mD];cases hm:r.mem with
  |some p=>have hu:=(h1 (by rw[hm];rfl)).2 ρ hρ;exact aKz (by simp only[hu,if_true])
  |none=>exact aGj _ _ _ fun w hw=>hwr w hw ρ hρ
 ·simp only[mD];cases hm:r.mem with
  |some p=>have:=(h1 (by rw[hm];rfl)).1.2.1;rw[hbump]at this;cases this
  |none=>
   simp only
   split
   ·rename_i hbb;obtain⟨d0,hd0⟩:=bWp.1 (hb hbb);simp only[hd0,bV0,aP];rw[if_neg]
    rintro⟨_,rfl⟩
    exact hd _ hd0 hd'
   ·rfl
 ·obtain⟨⟨q1,q2,q3⟩,_⟩:=h2 hm;simp only[mD,q1,q2,q3,W.applyAll,bXo,bVd,if_false,and_self]
theorem aIw.like {o o':bE}{r r':Res}(h:aIw o o' r r')(hb:r.bump=true->o.dst.isSome=true)(s:St):sE o' r' (mD o r s) s:=
 aK0 h.dst h.use h.wr h.m1 h.m2 hb s
theorem aIw.like' {o o':bE}{r r':Res}(h:aIw o o' r r')(hb:r'.bump=true->o'.dst.isSome=true)(s:St):sE o r (mD o' r' s) s:=
 aK0 (fun d hd hd'=>h.dst d hd' hd) h.use' h.rw h.m2 h.m1 hb s
structure Run (n:Nat) (call:cM) (io:Inl) (l:Nat->bE) (r:Nat->Res) (N:Nat) (st:St) (s:Nat->St):Prop where
 zero:s 0=st
 step: ∀i,i<N->step n call io 0 (s i) (l i)=some (s (i+1),r i)
theorem Run.fold {n:Nat}{call:cM}{io:Inl}{l:Nat->bE}{r:Nat->Res}{N:Nat}{st:St}{s:Nat->St}(h:Run n call io l r N st s):
  ∀i,i<=N->s i=jW (fun k=>mD (l k) (r k)) (fun _=>true) st i
 |0,_=>h.zero
 |i+1,hi=>by
  simp only[jW,if_true];rw[<-h.fold i (by omega)]
  exact(aEk (h.step i (by omega))).1
theorem aEl {σ:Type}{E:Nat->σ->σ}{s:σ}{i:Nat}: ∀{N:Nat},i<=N->jW E (fun k=>decide (k<i)) s N=jW E (fun _=>true) s i
 |0,h=>by
  have:i=0:=by omega
  subst this;rfl
 |N+1,h=>by
  by_cases hi:i=N+1
  ·subst hi;exact eS fun k hk=>by simp[hk]
  ·simp only[jW];rw[if_neg (by simp;omega),aEl (by omega)]
theorem aT9 {n:Nat}{call:cM}{io:Inl}{l:Nat->bE}{r:Nat->Res}{N:Nat}{st:St}{s:Nat->St}(h:Run n call io l r N st s){ord:Nat->Nat->Prop}(hord: ∀i j,ord i j->i<j)
  (hfree: ∀i j,i<j->j<N-> ¬ord i j->aIw (l i) (l j) (r i) (r j)) {L:Nat->Bool} (hcl: ∀j,j<N->L j=true-> ∀i,ord i j->L i=true) {i:Nat} (hi:i<N) (hL:L i=false) (hr: ∀k,ord k i->L k=true):
  step n call io 0 (jW (fun k=>mD (l k) (r k)) L st N) (l i)=some (jW (fun k=>mD (l k) (r k)) (fun k=>k==i||L k) st N,r i):=by
 have hb: ∀k,k<N->(r k).bump=true->(l k).dst.isSome=true:=fun k hk=>(aEk (h.step k hk)).2.1
 have comm: ∀j k,j<k->k<N-> ¬ord j k-> ∀s,mD (l k) (r k) (mD (l j) (r j) s)=mD (l j) (r j) (mD (l k) (r k) s):=
  fun j k hjk hk ho s=>(hfree j k hjk hk ho).comm (hb j (by omega)) (hb k hk) s
 have a:sE (l i) (r i) (s i) (jW (fun k=>mD (l k) (r k)) (fun k=>decide (k<i)&&L k) st N):=by
  have h1:=zB (E:=fun k=>mD (l k) (r k)) (L:=fun k=>decide (k<i)) (s:=st) (n:=N) (sE (l i) (r i)) (sE.refl _ _) (fun _ _ _=>sE.trans) L N (bVe _) (fun j hj h1 h2=>by
   simp only[bYb]at h1;have ho: ¬ord j i:=fun ho=>by rw[hr j ho]at h2;cases h2
   refine⟨(hfree j i h1 hi ho).like (hb j hj),fun k hjk hk h3 h4=>comm j k hjk hk fun ho=>?_⟩
   rw[hcl k hk h4 j ho]at h2;cases h2)
  rw[eS (L':=fun k=>decide (k<i)) fun k hk=>by simp[hk],aEl (by omega),<-h.fold i (by omega)]at h1
  exact h1
 have b:sE (l i) (r i) (jW (fun k=>mD (l k) (r k)) L st N) (jW (fun k=>mD (l k) (r k)) (fun k=>decide (k<i)&&L k) st N):=by
  have h1:=zB (E:=fun k=>mD (l k) (r k)) (L:=L) (s:=st) (n:=N) (sE (l i) (r i)) (sE.refl _ _) (fun _ _ _=>sE.trans) (fun k=>decide (k<i)) N (bVe _) (fun j hj h1 h2=>by
   simp only[bYc]at h2;have hne:j≠i:=by rintro rfl;rw[hL]at h1;cases h1
   have hij:i<j:=by omega
   have ho: ¬ord i j:=fun ho=>by rw[hcl j hj h1 i ho]at hL;cases hL
   refine⟨(hfree i j hij hj ho).like' (hb j hj),fun k hjk hk h3 h4=>?_⟩
   simp only[bYb]at h4;omega)
  rw[eS (L':=L) fun k hk=>by simp[hk],eS (L':=fun k=>decide (k<i)&&L k) (fun k hk=>Bool.and_comm _ _)]at h1
  exact h1
 rw[aT8 (h.step i hi) (a.trans b.symm)]
 congr 2
 refine(aBp hL hi fun k hik hk hLk s=>comm i k hik hk (fun ho=>?_) s).symm
 rw[hcl k hk hLk i ho]at hL;cases hL
end Go.Abs
namespace Go.Abs
open Go.RowKit (Below)
section
variable {P :Program}{Ξ:Env}{B:Nat}{S:Nat->Nat->Prop}{G:Gh}{st:St}{N:Nat}{a:Act}{w:World}{o:Oper}
theorem Rel.putO' (h:Rel P Ξ B S G st N a w)(dst:Option Nat){v:Val}{x:Value}(hv:VR (bA B S G w.heap.size) G w v x):
  dst.all (· <N)=true->Rel P Ξ B S G {st with fr:=fN st.fr dst v} N (a.put dst x) w:=by
 cases dst with
 |none=>exact fun _=>h
 |some d=>exact fun hd=>h.put (by simpa using hd) hv
theorem aAd (hR:Rel P Ξ B S G st N a w){ops:Array Oper}{g:Option (Nat×Bool)}{b:Bool}(hg:zU ops o.guard=some g)(hw:wanted st.fr g=some b):Region.wanted o (yielded ops a.tmps)=b:=by
 unfold Region.wanted;cases ho:o.guard with
 |none=>
  rw[ho]at hg;simp only[zU,bVb]at hg;subst hg;simp only[wanted,bVb]at hw;exact hw
 |some p=>
  obtain⟨j,want⟩:=p;rw[ho]at hg;simp only[zU]at hg
  split at hg
  case h_2=>cases hg
  rename_i t ht;simp only[bVb]at hg;subst hg;simp only[wanted]at hw;have hf:=hR.frame t;simp only[yielded,ht,Option.bind_some]
  split at hw
  ·rename_i b' hb;simp only[bVb]at hw;subst hw;rw[hb]at hf;have e:a.tmps.getD t undef= .bool b':=by
    generalize a.tmps.getD t undef=q at hf;cases hf;rfl
   have:a.tmps[t]?=some (.bool b'):=by
    rw[bVt]at e;cases h:a.tmps[t]? with
    |none=>rw[h]at e;simp[undef]at e
    |some u=>rw[h]at e;simp at e;rw[e]
   simp only[this];cases b'<;>cases want<;>rfl
  ·rename_i hb;simp only[bVb]at hw;subst hw;rw[hb]at hf;have e: ∀b',a.tmps[t]?≠some (.bool b'):=by
    intro b' h;rw[bVt,h]at hf;simp only[bV0]at hf;cases hf
   have:(match a.tmps[t]? with|some (.bool b)=>some b|_=>none)=none:=by
    cases h:a.tmps[t]? with
    |none=>rfl
    |some u=>cases u<;>first|rfl|exact absurd h (e _)
   simp only[this];rfl
  ·cases hw
def xK (P:Program)(Ξ:Env)(B:Nat)(S:Nat->Nat->Prop)(st st':St)(N:Nat)(a:Act)(w:World)(v:Val)(e:Ending)(w':World):Prop:=
 ∃x G',e= .returned x/\ Rel P Ξ B S G' {fr:=st.fr,en:=st'.en,cnt:=st'.cnt} N a w'/\ VR (bA B S G' w'.heap.size) G' w' v x/\ Below B w w'
structure aK1 (P:Program) (io:Inl):Prop where
 fn: ∀f args v (st0 st':St),io.fn f args st0=some (v,st')→(∃fn,P.funcs[f]?=some fn∧(fn.name== "runtime.NumGoroutine")=false∧fn.body.isNone=false)∧
  ∀(Ξ:Env) (B:Nat) (S:Nat->Nat->Prop) (G:Gh) (st:St) (N:Nat) (a:Act) (w:World) (vals:Array Value),Rel P Ξ B S G st N a w->st0.en=st.en->st0.cnt=st.cnt->vals.size=args.length->
   (∀i,i<args.length->VR (bA B S G w.heap.size) G w (args.getD i .dead) (vals.getD i undef))->Calls P f vals w (xK P Ξ B S st st' N a w v)
 yld: ∀k args v (st0 st':St),io.yld k args st0=some (v,st')->
  ∀(Ξ:Env) (B:Nat) (S:Nat->Nat->Prop) (G:Gh) (st:St) (N:Nat) (a:Act) (w:World) (vals:Array Value) (l:Nat) (ro:Option Nat) (m:Nat),Rel P Ξ B S G st N a w->st0.en=st.en->st0.cnt=st.cnt->G.mp k=some l->vals.size=args.length->
   (∀i,i<args.length->VR (bA B S G w.heap.size) G w (args.getD i .dead) (vals.getD i undef))->
   ∃f tmps assign body,(Instr.yield l vals).run P w= .ok (.round l f tmps assign body) w/\ RoundIn (Fx ro) m P l f tmps assign body w (xK P Ξ B S st st' N a w v)
theorem aK2 {I:Operand->Bool}{op:Op}{f:Opd}{ys:List Opd}(h:eQ P I op=some (.icall f ys)): ∃c F,op= .call c/\ c.callee= .value F/\ aS F=some f/\ kI c.args.toList=some ys:=by
 cases op
 case call c=>
  simp only[eQ]at h
  split at h
  ·rename_i F hc
   split at h
   ·simp only[bV1,bVs,bV2,bVb,LOp.icall.injEq]at h;obtain⟨x',h1,ys',h2,rfl,rfl⟩:=h;exact⟨c,F,rfl,hc,h1,h2⟩
   ·simp[bVs]at h
  all_goals (repeat' split at h)<;>simp[bVs,bVr]at h
 case binOp op t x y ty=>
  exfalso
  simp only[eQ,bV1,bVs]at h;obtain⟨e,_,h⟩:=h
  split at h
  ·split at h
   ·simp[bVs]at h
   ·cases h
  ·split at h<;>simp[bVs]at h
 all_goals (exfalso;simp only[eQ]at h;(repeat' split at h)<;>first|contradiction|(simp[bVs,bVr]at h))
theorem aK3 {io:Inl}(hio:aK1 P io)(hR:Rel P Ξ B S G st N a w){c:Call}{F:Operand}{x:Opd}{ys:List Opd}{v:Val}{st':St}(ho:o.op= .call c)(hc:c.callee= .value F)(h1:aS F=some x)(h2:kI c.args.toList=some ys)
  (hev:io.call (St.get st.fr x) (ys.map (St.get st.fr)) {st with fr:=fun _=> .dead}=some (v,st')) {ro:Option Nat} {m:Nat} {next:Act->World->Prop} {Q:Exit->Act->World->Prop}
  (k: ∀x w' G',Rel P Ξ B S G' {fr:=st.fr,en:=st'.en,cnt:=st'.cnt} N a w'->VR (bA B S G' w'.heap.size) G' w' v x->Below B w w'->next (a.put o.dst x) w'):o.wpIn (Fx ro) m P a w next Q:=by
 have hF:=aV hR h1;obtain⟨ly,vy⟩:=qN hR h2;have conv: ∀i,i<ys.length->VR (bA B S G w.heap.size) G w ((ys.map (St.get st.fr)).getD i .dead) ((c.args.map a.eval).getD i undef):=by
  intro i hi;have:=vy i hi;have hi2:i<c.args.size:=by rw[ly]at hi;simpa using hi
  simpa[bVm,bVt,hi,hi2]using this
 unfold Inl.call at hev
 split at hev
 ·rename_i f A Z hf;rw[hf]at hF;generalize hgF:a.eval F=uF at hF;cases hF with
  |fn _ _ _ p q hp hq hvp hvq=>
  obtain⟨⟨fn,hfn,hnm,hbody⟩,hcalls⟩:=hio.fn _ _ _ _ _ hev;have hlen:(p++c.args.map a.eval++q).size=(A++ys.map (St.get st.fr)++Z).length:=by simp[hp,hq,ly]
  have hvals: ∀i,i<(A++ys.map (St.get st.fr)++Z).length->VR (bA B S G w.heap.size) G w ((A++ys.map (St.get st.fr)++Z).getD i .dead) ((p++c.args.map a.eval++q).getD i undef):=by
   intro i hi;simp only[bVm,bVt,bXy,bXz,bV7,Array.size_append,Array.size_map,bVk]at hi⊢;have e1:p.size=A.length:=hp;have e2:c.args.size=ys.length:=by simp[ly]
   rw[e1,e2];split
   ·split
    ·rename_i h;have:=hvp i h;simpa[bVm,bVt]using this
    ·have:=conv (i-A.length) (by omega)
     simpa[bVm,bVt]using this
   ·have:=hvq (i-(A.length+ys.length)) (by omega);simpa[bVm,bVt]using this
  have hrun:(execOp a.eval o).run P w= .ok (.enter f (p++c.args.map a.eval++q)) w:=by
   have hnm': ¬fn.name= "runtime.NumGoroutine" :=by simpa using hnm
   have hbody': ¬fn.body=none:=by intro h;rw[h]at hbody;cases hbody
   simp[execOp,ho,resolve,hc,hgF,Deferred.ofValue,invoke,callFunc,hfn,hnm',hbody']
  refine⟨fun _ _=>trivial,?_⟩
  rw[vJ hrun (by simp),Oper.uponIn_enter]
  refine⟨fun h=>by simp[Fx,Fence.wide]at h,?_⟩
  refine vP (Calls.mono (hcalls Ξ B S G st N a w _ hR rfl rfl hlen hvals) ?_)
  rintro e w' ⟨x,G',rfl,hR',hv,hb⟩
  exact k x w' G' hR' hv hb
 ·rename_i key hf;rw[hf]at hF;generalize hgF:a.eval F=uF at hF;cases hF with
  |yld _ l hl=>
  obtain⟨f,tmps,as,bd,hy,hround⟩:=hio.yld _ _ _ _ _ hev Ξ B S G st N a w (c.args.map a.eval) l ro (m-1) hR rfl rfl hl (by simp[ly]) (fun i hi=>conv i (by simpa using hi))
  have hrun:(execOp a.eval o).run P w= .ok (.round l f tmps as bd) w:=by
   simp[execOp,ho,resolve,hc,hgF,Deferred.ofValue,invoke,hy]
  refine⟨fun _ _=>trivial,?_⟩
  rw[vJ hrun (by simp),Oper.uponIn_round]
  refine⟨fun h=>by simp[Fx,Fence.wide]at h,RoundIn.mono hround ?_⟩
  rintro e w' ⟨x,G',rfl,hR',hv,hb⟩
  exact k x w' G' hR' hv hb
 ·cases hev
theorem aEm {n:Nat}{call:cM}{io:Inl}(hcall:qO P call)(hio:aK1 P io)(hR:Rel P Ξ B S G st N a w){I:Operand->Bool}{ops:Array Oper}{lo:bE}{st':St}{r:Res}(hl:tJ P I ops o=some lo)(hd:lo.dst.all (· <N)=true)
  (hs:step n call io 0 st lo=some (st',r)) {ro:Option Nat} {m:Nat} {next:Act->World->Prop} {Q:Exit->Act->World->Prop} (k: ∀a' w' G',Rel P Ξ B S G' st' N a' w'->Below B w w'->next a' w'):
  if Region.wanted o (yielded ops a.tmps)=true then o.wpIn (Fx ro) m P a w next Q else(∀f,o.about P w a.eval=some f->(Fx ro).fn f)/\ next (a.put o.dst undef) w:=by
 simp only[tJ,bV1,bVs,bV2,bVb]at hl;obtain⟨lop,hop,g,hg,rfl⟩:=hl;simp only[step]at hs
 split at hs
 ·rename_i hw;simp only[bVb,bVl]at hs;obtain⟨rfl,rfl⟩:=hs;rw[aAd hR hg hw,if_neg (by simp)]
  exact⟨fun _ _=>trivial,k _ _ G (hR.putO' o.dst (v:= .tup []) (x:=undef) (.tup [] #[] rfl (fun i hi=>by simp at hi)) hd) (Below.refl _ _)⟩
 ·rename_i hw;rw[aAd hR hg hw,if_pos rfl]
  split at hs
  ·rename_i f args
   split at hs
   case h_2=>cases hs
   rename_i v st1 hc;simp only[bVb,bVl]at hs;obtain⟨rfl,rfl⟩:=hs;obtain⟨c,F,e1,e2,e3,e4⟩:=aK2 hop;exact aK3 hio hR e1 e2 e3 e4 hc fun x w' G' h1 h2 h3=>k _ _ G' (h1.putO' o.dst h2 hd) h3
  ·split at hs
   case h_2=>cases hs
   rename_i r' hev
   split at hs
   ·cases hs
   simp only[bVb,bVl]at hs;obtain⟨rfl,rfl⟩:=hs;exact aNt hcall hR hop hev ro m next Q fun x w' G' h1 h2 h3=>k _ _ G' (h1.putO' o.dst h2 hd) h3
 ·cases hs
end
end Go.Abs
namespace Go.Abs
open Go.RowKit (Below)
def jI :Res:={v:= .tup []}
theorem aEn {n:Nat}{call:cM}{io:Inl}: ∀{l:List bE} {st stn:St} {rs:List Res},oJ n call io 0 l st=some (stn,rs)->
  rs.length=l.length/\ ∃s,Run n call io (fun i=>l.getD i default) (fun i=>rs.getD i jI) l.length st s/\ s l.length=stn
 |[],st,stn,rs,h=>by
  simp only[oJ,bVb,bVl]at h;obtain⟨rfl,rfl⟩:=h;exact⟨rfl,fun _=>st,⟨rfl,fun i hi=>by simp at hi⟩,rfl⟩
 |o::l,st,stn,rs,h=>by
  simp only[oJ]at h
  split at h
  case h_2=>cases h
  rename_i st' r hs
  split at h
  case h_2=>cases h
  rename_i st'' rs' hr;simp only[bVb,bVl]at h;obtain⟨rfl,rfl⟩:=h;obtain⟨hl,s,⟨h0,h1⟩,h2⟩:=aEn hr
  refine⟨by simp[hl],fun i=>match i with|0=>st|i+1=>s i,⟨rfl,fun i hi=>?_⟩,h2⟩
  match i with
  |0=>simpa[h0]using hs
  |i+1=>simpa using h1 i (by simpa using hi)
def oM (o:Oper):List Nat:=(o.after.toList.filter (Region.binds .any)).map (·.on)
theorem aCr : ∀{l:List Oper} {acc an:List (List Nat)},aD2 l acc=some an->(∀k,k<acc.length->an.getD k []=acc.getD k [])/\
  ∀m (h:m<l.length),(∀k∈oM l[m],k<acc.length+m)/\ ∀i∈an.getD (acc.length+m) [],∃k∈oM l[m],i=k \/i∈an.getD k []
 |[],acc,an,h=>by
  simp only[aD2,bVb]at h;subst h;exact⟨fun _ _=>rfl,fun m hm=>by simp at hm⟩
 |o::l,acc,an,h=>by
  simp only[aD2]at h
  split at h
  case isFalse=>cases h
  rename_i hd;obtain⟨h1,h2⟩:=aCr h;have hpre: ∀k,k<acc.length->an.getD k []=acc.getD k []:=fun k hk=>by
   rw[h1 k (by simp;omega)];simp[bVm,bX8 hk]
  have hdir: ∀k∈oM o,k<acc.length:=fun k hk=>by simpa using bVo.1 hd k hk
  refine⟨hpre,fun m hm=>?_⟩
  match m with
  |0=>
   refine⟨fun k hk=>by simpa using hdir k hk,fun i hi=>?_⟩
   rw[bWu,h1 acc.length (by simp)]at hi
   simp only[bVm,List.getElem?_append_right (bVe _),Nat.sub_self,bVg,bV0,List.mem_eraseDups,bV6,bWt]at hi;rcases hi with hi|⟨k,hk,hi⟩
   ·exact⟨i,hi,.inl rfl⟩
   ·exact⟨k,hk,.inr (by rw[hpre k (hdir k hk),bVm];exact hi)⟩
  |m+1=>
   have:=h2 m (by simpa using hm)
   simp only[bV7,bVu,bWa]at this;rw[show acc.length+(0+1)+m=acc.length+(m+1)by omega]at this
   simpa using this
theorem aBq {ops:Array Oper}{an:List (List Nat)}(h:aWc ops=some an){j:Nat}{o:Oper}(ho:ops[j]?=some o):
  (∀k∈oM o,k<j)/\ ∀i∈an.getD j [],∃k∈oM o,i=k \/i∈an.getD k []:=by
 obtain⟨hj,ho'⟩:=bW9.1 ho;have:=(aCr h).2 j (by simpa using hj)
 simpa[ho']using this
theorem aZx {ops:Array Oper}{an:List (List Nat)}(h:aWc ops=some an): ∀j i,j<ops.size->i∈an.getD j []->i<j:=by
 intro j
 induction j using Nat.strongRecOn with
 |ind j ih=>
  intro i hj hi;obtain⟨h1,h2⟩:=aBq h (bWx hj);obtain⟨k,hk,h3⟩:=h2 i hi;have:=h1 k hk;rcases h3 with rfl|h3
  ·exact this
  ·have:=ih k this i (by omega) h3;omega
def aPv (ops:Array Oper)(L:Nat->Bool):Prop:= ∀j o,ops[j]?=some o->L j=true-> ∀k∈oM o,L k=true
theorem aCs {ops:Array Oper}{an:List (List Nat)}(h:aWc ops=some an){L:Nat->Bool}(hc:aPv ops L): ∀j o,ops[j]?=some o->(∀k∈oM o,L k=true)-> ∀i∈an.getD j [],L i=true:=by
 intro j
 induction j using Nat.strongRecOn with
 |ind j ih=>
  intro o ho hd i hi;obtain⟨h1,h2⟩:=aBq h ho;obtain⟨k,hk,h3⟩:=h2 i hi;have hkj:=h1 k hk;have hj:=(bW9.1 ho).1;rcases h3 with rfl|h3
  ·exact hd _ hk
  ·have hok:=bWx (xs:=ops) (i:=k) (by omega)
   exact ih k hkj _ hok (hc k _ hok (hd k hk)) i h3
theorem aZy {an:List (List Nat)}{l:List bE}{ps:List (Nat×Nat)}(hp:xF an l=some ps){rs:List Res}(hok:nM rs ps=true)
  (hw: ∀i,i<l.length->((l.getD i default).op.writesMem=false->(rs.getD i jI).quiet)/\ ((l.getD i default).op.readsMem=false->(rs.getD i jI).rs=[]))
  (hlt: ∀j i,j<l.length->i∈an.getD j []->i<j) {i j:Nat} (hij:i<j) (hj:j<l.length) (ho: ¬i∈an.getD j []):
  aIw (l.getD i default) (l.getD j default) (rs.getD i jI) (rs.getD j jI):=by
 have ho': ¬j∈an.getD i []:=fun h=>by have:=hlt i j (by omega) h;omega
 simp only[xF]at hp
 split at hp
 case isFalse=>cases hp
 rename_i hall;simp only[bVb]at hp;have hst: ∀a b,a<l.length->b<l.length->a≠b-> ¬a∈an.getD b []-> ¬b∈an.getD a []-> ∀d,(l.getD a default).dst=some d->(l.getD b default).dst≠some d/\ d∉(l.getD b default).uses:=by
  intro a b ha hb hab h1 h2 d hd;have:=bVo.1 (bVo.1 hall b (bW4.2 hb)) a (bW4.2 ha);simp only[Bool.or_eq_true,beq_iff_eq,hab,false_or,hd]at this;simp only[bVc,bne_iff_ne,ne_eq,Bool.or_eq_true,bWh,List.contains_eq_mem,bYb,bYc]at this;exact⟨this.1,this.2.resolve_right fun h=>h.elim h1 h2⟩
 have hmem:(((l.getD i default).op.writesMem&&((l.getD j default).op.readsMem||(l.getD j default).op.writesMem))||((l.getD j default).op.writesMem&&(l.getD i default).op.readsMem))=true->(i,j)∈ps:=by
  intro hc;rw[<-hp];simp only[bWt,bW4,bV4,bW5,bVc,bWh]
  refine⟨j,hj,i,⟨hij,?_,hc⟩,rfl⟩
  simp only[List.contains_eq_mem,Bool.or_eq_false_iff,bYc];exact⟨ho,ho'⟩
 have heff:(∀w∈(rs.getD i jI).ws,∀w'∈(rs.getD j jI).ws,kH w w'=true)/\ (∀w∈(rs.getD i jI).ws,∀ρ∈(rs.getD j jI).rs,fX w ρ=true)/\
   (∀w∈(rs.getD j jI).ws,∀ρ∈(rs.getD i jI).rs,fX w ρ=true)/\ ((rs.getD i jI).mem.isSome=true->(rs.getD j jI).quiet/\ ∀ρ∈(rs.getD j jI).rs,(rs.getD i jI).unch ρ.key=true)/\
   ((rs.getD j jI).mem.isSome=true->(rs.getD i jI).quiet/\ ∀ρ∈(rs.getD i jI).rs,(rs.getD j jI).unch ρ.key=true):=by
  by_cases hc:(((l.getD i default).op.writesMem&&((l.getD j default).op.readsMem||(l.getD j default).op.writesMem))||((l.getD j default).op.writesMem&&(l.getD i default).op.readsMem))=true
  ·have:=bVo.1 hok _ (hmem hc)
   simp only at this
   split at this
   case h_2=>cases this
   rename_i a b ha hb;simp only[bVm,ha,hb,bV0];simp only[sN]at this
   split at this
   ·rename_i h1;simp only[bVc,Res.still,List.isEmpty_iff,bWh,bVo,Option.isNone_iff_eq_none]at this;obtain⟨⟨e0,⟨q1,q2⟩,q3⟩,q4⟩:=this;rw[e0,q1];exact⟨fun w h=>(by simp at h),fun w h=>(by simp at h),fun w h=>(by simp at h),fun _=>⟨⟨q1,q2,q3⟩,q4⟩,fun h=>(by rw[q3]at h;cases h)⟩
   ·rename_i h1
    split at this
    ·rename_i h2;simp only[bVc,Res.still,List.isEmpty_iff,bWh,bVo,Option.isNone_iff_eq_none]at this;obtain⟨⟨e0,⟨q1,q2⟩,q3⟩,q4⟩:=this;rw[e0,q1];exact⟨fun w h=>(by simp at h),fun w h=>(by simp at h),fun w h=>(by simp at h),fun h=>absurd h h1,fun _=>⟨⟨q1,q2,q3⟩,q4⟩⟩
    ·rename_i h2;simp only[bVc,bVo]at this;obtain⟨t1,t2⟩:=this;exact⟨fun w h w' h'=>(t1 w h).2 w' h',fun w h ρ h'=>(t1 w h).1 ρ h',fun w h ρ h'=>t2 w h ρ h',fun h=>absurd h h1,fun h=>absurd h h2⟩
  ·have hi:=hw i (by omega)
   have hj:=hw j hj;cases h1:(l.getD i default).op.writesMem with
   |false=>
    have q:=hi.1 h1;have e1:=q.1;have e3:=q.2.2;rw[e1,e3]
    refine⟨fun w h=>by simp at h,fun w h=>by simp at h,?_,fun h=>(by cases h),fun h=>⟨q,?_⟩⟩
    ·cases h2:(l.getD j default).op.writesMem with
     |false=>rw[(hj.1 h2).1];intro w h;simp at h
     |true=>
      have:(l.getD i default).op.readsMem=false:=by simp only[h1,h2,bV5,bVy,bWz]at hc;simpa using hc
      rw[hi.2 this];intro w _ ρ h;simp at h
    ·cases h2:(l.getD j default).op.writesMem with
     |false=>rw[(hj.1 h2).2.2]at h;cases h
     |true=>
      have:(l.getD i default).op.readsMem=false:=by simp only[h1,h2,bV5,bVy,bWz]at hc;simpa using hc
      exact fun ρ hρ=>(by rw[hi.2 this]at hρ;simp at hρ)
   |true=>
    simp only[h1,bVy,Bool.or_eq_true,not_or,bVc]at hc;obtain⟨⟨h2,h3⟩,h4⟩:=hc;have q:=hj.1 (by simpa using h3)
    have e1:=q.1;have e3:=q.2.2;have e2:=hj.2 (by simpa using h2)
    rw[e1,e2,e3];exact⟨fun w _ w' h=>by simp at h,fun w _ ρ h=>by simp at h,fun w h=>by simp at h,fun _=>⟨q,fun ρ hρ=>(by simp at hρ)⟩,fun h=>(by cases h)⟩
 obtain⟨f1,f2,f3,f4,f5⟩:=heff;exact⟨fun d hd=>(hst i j (by omega) hj (by omega) ho ho' d hd).1,fun d hd=>(hst i j (by omega) hj (by omega) ho ho' d hd).2,fun d hd=>(hst j i hj (by omega) (by omega) ho' ho d hd).2,f1,f2,f3,f4,f5⟩
theorem aEo (f g:Nat->Bool)(i:Nat)(hf:f i=true)(hg:g i=false)(h: ∀k,k≠i->g k=f k): ∀N,i<N->(List.range N).countP g+1=(List.range N).countP f
 |0,h=>by omega
 |N+1,hi=>by
  simp only[bWr,List.countP_append,List.countP_singleton]
  by_cases hn:i=N
  ·subst hn;have:(List.range i).countP g=(List.range i).countP f:=List.countP_congr fun k hk=>by
    have:=bW4.1 hk;rw[h k (by omega)]
   simp[this,hf,hg]
  ·have:=aEo f g i hf hg h N (by omega)
   rw[h N (by omega)]
   omega
section
variable {P :Program}{Ξ:Env}{B:Nat}{S:Nat->Nat->Prop}{N:Nat}{ops:Array Oper}{l:List bE}{n:Nat}{call:cM}{io:Inl}{I:Operand->Bool}{ro:Option Nat}{m:Nat}
theorem aUa (hcall:qO P call)(hio:aK1 P io)(hl:dH (tJ P I ops) ops.toList=some l)(hd:l.all (fun o=>o.dst.all (· <N))=true){Q:Exit->Act->World->Prop}:
  ∀(k i:Nat) (st st':St) (G:Gh) (a:Act) (w:World),i+k=ops.size->Rel P Ξ B S G st N a w->oI n call io 0 (l.drop i) st=some st'->
   (∀a' w' G',Rel P Ξ B S G' st' N a' w'->Below B w w'->Q .normal a' w')->wpOpsIn (Fx ro) m P ops Q (List.range' i k) a w:=by
 obtain⟨l1,l2⟩:=kC hl;intro k
 induction k with
 |zero=>
  intro i st st' G a w hik hR hrun hQ;have:l.drop i=[]:=List.drop_eq_nil_iff.2 (by rw[l1];simp;omega)
  rw[this]at hrun;simp only[oI,bVb]at hrun;subst hrun;exact hQ a w G hR (Below.refl _ _)
 |succ k ih=>
  intro i st st' G a w hik hR hrun hQ;have hi:i<ops.size:=by omega
  have hil:i<l.length:=by rw[l1];simpa using hi
  rw[bWc hil]at hrun;simp only[oI]at hrun
  split at hrun
  case h_2=>cases hrun
  rename_i st1 r hs;rw[List.range'_succ,wpOpsIn_cons];unfold wpOpIn;rw[bWx hi];have hlow:=l2 i (by simpa using hi) hil
  simp only[Array.getElem_toList]at hlow;exact aEm hcall hio hR hlow (bVo.1 hd _ (bVp hil)) hs fun a' w' G' h1 h2=>
   ih (i+1) st1 st' G' a' w' (by omega) h1 hrun fun a'' w'' G'' h3 h4=>hQ a'' w'' G'' h3 (h2.trans h4)
theorem aUb (hcall:qO P call)(hio:aK1 P io)(hl:dH (tJ P I ops) ops.toList=some l)(hd:l.all (fun o=>o.dst.all (· <N))=true){an:List (List Nat)}(han:aWc ops=some an)
  {ps:List (Nat×Nat)} (hps:xF an l=some ps) {st stn:St} {rs:List Res} (hrun:oJ n call io 0 l st=some (stn,rs)) (hok:nM rs ps=true) {Q:Exit->Act->World->Prop}:
  ∀(fuel:Nat) (listed:Array Bool) (G:Gh) (a:Act) (w:World),listed.size=ops.size->(List.range ops.size).countP (fun i=>!listed.getD i false)<=fuel->aPv ops (fun i=>listed.getD i false)->
   Rel P Ξ B S G (jW (fun k=>mD (l.getD k default) (rs.getD k jI)) (fun i=>listed.getD i false) st ops.size) N a w->(∀a' w' G',Rel P Ξ B S G' stn N a' w'->Below B w w'->Q .normal a' w')->
   wpAnyIn (Fx ro) m P .any ops Q fuel listed a w:=by
 obtain⟨l1,l2⟩:=kC hl;have hN:l.length=ops.size:=by rw[l1];simp
 obtain⟨hrl,s,hrun',hsn⟩:=aEn hrun;rw[hN]at hrun' hsn;have hlt:=aZx han;have hw: ∀i,i<l.length->((l.getD i default).op.writesMem=false->(rs.getD i jI).quiet)/\ ((l.getD i default).op.readsMem=false->(rs.getD i jI).rs=[]):=
  fun i hi=>(aEk (hrun'.step i (by omega))).2.2
 have hfree: ∀i j,i<j->j<ops.size-> ¬i∈an.getD j []->aIw (l.getD i default) (l.getD j default) (rs.getD i jI) (rs.getD j jI):=
  fun i j hij hj ho=>aZy hps hok hw (fun j i hj hi=>hlt j i (by omega) hi) hij (by omega) ho
 have full: ∀(listed:Array Bool),listed.size=ops.size->Region.ready .any ops listed=[]-> ∀i,i<ops.size->listed.getD i false=true:=by
  intro listed hsz hr i
  induction i using Nat.strongRecOn with
  |ind i ih=>
   intro hi;cases hb:listed.getD i false with
   |true=>rfl
   |false=>
    exfalso
    have hm:i∈Region.ready .any ops listed:=by
     rw[mem_ready]
     refine⟨?_,ops[i],bWx hi,fun e he hbd=>?_⟩
     ·rw[bVt,bWx (by omega)]at hb⊢;simpa using hb
     ·have hk:e.on∈oM ops[i]:=bV4.2 ⟨e,bW5.2 ⟨by simpa using he,hbd⟩,rfl⟩
      have:=(aBq han (bWx hi)).1 _ hk;exact ih _ this (by omega)
    rw[hr]at hm;simp at hm
 have done: ∀(listed:Array Bool) (G:Gh) (a:Act) (w:World),listed.size=ops.size->Region.ready .any ops listed=[]->
   Rel P Ξ B S G (jW (fun k=>mD (l.getD k default) (rs.getD k jI)) (fun i=>listed.getD i false) st ops.size) N a w->(∀a' w' G',Rel P Ξ B S G' stn N a' w'->Below B w w'->Q .normal a' w')->Q .normal a w:=by
  intro listed G a w hsz hr hR hQ
  refine hQ a w G ?_ (Below.refl _ _)
  rw[eS (L':=fun _=>true) fun i hi=>full listed hsz hr i hi,<-hrun'.fold _ (bVe _),hsn]at hR
  exact hR
 intro fuel
 induction fuel with
 |zero=>
  intro listed G a w hsz hc hcl hR hQ;have hr:Region.ready .any ops listed=[]:=by
   cases h:Region.ready .any ops listed with
   |nil=>rfl
   |cons i rest=>
    exfalso
    have hm:i∈Region.ready .any ops listed:=by rw[h];simp
    obtain⟨h0,o,ho,_⟩:=mem_ready.1 hm;have hi:=(bW9.1 ho).1;have hb:listed.getD i false=false:=by
     rw[bVt,bWx (by omega)]at h0⊢;simpa using h0
    have:=List.countP_pos_iff (p:=fun i=>!listed.getD i false) (l:=List.range ops.size)|>.2 ⟨i,bW4.2 hi,by simp only[hb];rfl⟩
    omega
  exact⟨hr,done listed G a w hsz hr hR hQ⟩
 |succ fuel ih=>
  intro listed G a w hsz hc hcl hR hQ
  refine⟨fun hr=>done listed G a w hsz hr hR hQ,fun i hm=>?_⟩
  obtain⟨h0,o,ho,hready⟩:=mem_ready.1 hm;have hi:=(bW9.1 ho).1;have hoi:o=ops[i]:=by rw[bWx hi,bVb]at ho;exact ho.symm
  have hb:listed.getD i false=false:=by
   rw[bVt,bWx (by omega)]at h0⊢;simpa using h0
  have hdir: ∀k∈oM o,listed.getD k false=true:=by
   intro k hk;obtain⟨e,he,rfl⟩:=bV4.1 hk;obtain⟨he1,he2⟩:=bW5.1 he;exact hready e (by simpa using he1) he2
  have hst:=aT9 hrun' (ord:=fun i j=>j<ops.size/\ i∈an.getD j []) (fun i j h=>hlt j i h.1 h.2) (fun i j hij hj ho=>hfree i j hij hj fun h=>ho ⟨hj,h⟩) (L:=fun i=>listed.getD i false)
   (fun j hj hLj i hord=>aCs han hcl j _ (bWx hj) (hcl j _ (bWx hj) hLj) i hord.2) hi hb
   (fun k hk=>aCs han hcl i o ho hdir k hk.2)
  have hset: ∀k,(listed.setIfInBounds i true).getD k false=(k==i||listed.getD k false):=by
   intro k
   by_cases hk:k=i
   ·subst hk;simp[show k<listed.size by omega]
   ·rw[getD_set_ne false fun e=>hk e.symm]
    have:(k==i)=false:=by simpa using hk
    rw[this,bWz]
  have hil:i<l.length:=by omega
  have hlow:=l2 i (by simpa using hi) hil
  simp only[Array.getElem_toList]at hlow;have hli:l.getD i default=l[i]:=by simp[bVm,hil]
  rw[hli]at hst;unfold wpOpIn;rw[bWx hi]
  refine aEm hcall hio hR hlow (bVo.1 hd _ (bVp hil)) hst fun a' w' G' h1 h2=>?_
  refine ih _ G' a' w' (by simpa using hsz) ?_ ?_ ?_ fun a'' w'' G'' h3 h4=>hQ a'' w'' G'' h3 (h2.trans h4)
  ·have:=aEo (fun i=>!listed.getD i false) (fun k=>!(listed.setIfInBounds i true).getD k false) i (by simp only[hb];rfl) (by simp only[hset];simp) (fun k hk=>by
    simp only[hset];have:(k==i)=false:=by simpa using hk
    rw[this,bWz]) ops.size hi
   omega
  ·intro j oj hoj hLj k hk;simp only[hset]at hLj⊢
   by_cases hj:j=i
   ·subst hj;rw[ho,bVb]at hoj;subst hoj;rw[hdir k hk,bVi]
   ·have:(j==i)=false:=by simpa using hj
    rw[this,bWz]at hLj;have h5:listed.getD k false=true:=hcl j oj hoj hLj k hk;rw[h5,bVi]
  ·rw[eS (L':=fun k=>k==i||listed.getD k false) fun k _=>hset k]
   exact h1
end
end Go.Abs
namespace Go.Abs
open Go.RowKit (Below)
def Ex.toExit :Ex->Exit
 | .normal=> .normal
 | .exit id=> .exit id
 | .ret=> .ret
def qP (P:Program)(L:cO)(n:Nat):Prop:= ∀(I:Operand->Bool) (N:Nat) (c:Code) (st:St) (e:Ex) (st':St) (Ξ:Env) (B:Nat) (S:Nat->Nat->Prop) (G:Gh) (a:Act) (w:World) (Q:Exit->Act->World->Prop) (m:Nat),
 (dF P I c).dstOk N=true->Rel P Ξ B S G st N a w->exec L n (dF P I c) st=some (e,st')->(∀a' w' G',Rel P Ξ B S G' st' N a' w'->Below B w w'->Q e.toExit a' w')->c.wpIn (Fx Ξ.ro) m P Q a w
theorem aUc {P:Program}{Ξ:Env}{B:Nat}{S:Nat->Nat->Prop}{G:Gh}{st:St}{N:Nat}{a:Act}{w:World}(hR:Rel P Ξ B S G st N a w){rv:ResultVar}{lr:aTv}(hl:yR P rv=some lr){v:Val}(hv:oV st lr=some v):
  ∃x,(match rv with
   | .tmp t=>(pure (a.tmps.getD t undef):Sem Value)
   | .cell c t=>do loadVar t (<-asAddr (a.tmps.getD c undef))).run P w= .ok x w/\ VR (bA B S G w.heap.size) G w v x:=by
 cases rv with
 |tmp t=>
  simp only[yR,bVb]at hl;subst hl;simp only[oV,bVb]at hv;subst hv;exact⟨_,rfl,hR.frame t⟩
 |cell c t=>
  simp only[yR]at hl
  split at hl
  case isFalse=>cases hl
  rename_i hu;simp only[bVb]at hl;subst hl;simp only[oV]at hv
  split at hv
  case h_2=>cases hv
  rename_i cs rs hr;obtain⟨b,off,hx,hlen,hc⟩:=aEb hR (hR.frame c) hr;obtain⟨x,h1,h2⟩:=vK hu rfl hlen hc hv
  refine⟨x,?_,h2⟩
  simp only[hx,asAddr,Sem.run_bind,Sem.run_pure,Result.andThen_ok,h1]
theorem aEp {P:Program}{Ξ:Env}{B:Nat}{S:Nat->Nat->Prop}{G:Gh}{st:St}{N:Nat}{a:Act}{w:World}(hR:Rel P Ξ B S G st N a w): ∀(rvs:List ResultVar) (lrs:List aTv) (vs:List Val),
  dH (yR P) rvs=some lrs->dH (oV st) lrs=some vs->
  ∃xs:List Value,(rvs.mapM fun(rv:ResultVar)=>(match rv with
   | .tmp t=>(pure (a.tmps.getD t undef):Sem Value)
   | .cell c t=>do loadVar t (<-asAddr (a.tmps.getD c undef)))).run P w= .ok xs w/\ xs.length=vs.length/\ ∀i,i<vs.length->VR (bA B S G w.heap.size) G w (vs.getD i .dead) (xs.getD i undef)
 |[],lrs,vs,h1,h2=>by
  simp only[dH,bVb]at h1;subst h1;simp only[dH,bVb]at h2;subst h2;exact⟨[],rfl,rfl,fun i hi=>by simp at hi⟩
 |rv::rvs,lrs,vs,h1,h2=>by
  simp only[dH]at h1
  split at h1
  case h_2=>cases h1
  rename_i lr hl
  split at h1
  case h_2=>cases h1
  rename_i lrs' hls;simp only[bVb]at h1;subst h1;simp only[dH]at h2
  split at h2
  case h_2=>cases h2
  rename_i v hv
  split at h2
  case h_2=>cases h2
  rename_i vs' hvs;simp only[bVb]at h2;subst h2;obtain⟨x,e1,e2⟩:=aUc hR hl hv;obtain⟨xs,f1,f2,f3⟩:=aEp hR rvs lrs' vs' hls hvs
  refine⟨x::xs,?_,by simp[f2],fun i hi=>?_⟩
  ·rw[List.mapM_cons,Sem.run_bind,e1,Result.andThen_ok,Sem.run_bind,f1,Result.andThen_ok];rfl
  ·match i with
   |0=>simpa using e2
   |i+1=>simpa using f3 i (by simpa using hi)
theorem yC {P:Program}{Ξ:Env}{B:Nat}{S:Nat->Nat->Prop}{G:Gh}{st:St}{N:Nat}{a:Act}{w:World}(hR:Rel P Ξ B S G st N a w){fn:Func}{lrs:List aTv}{vs:List Val}
  (h1:dH (yR P) fn.results.toList=some lrs) (h2:dH (oV st) lrs=some vs): ∃x,(results fn a.tmps).run P w= .ok x w/\ VR (bA B S G w.heap.size) G w (yB vs) x:=by
 obtain⟨xs,hrun,hxl,hxv⟩:=aEp hR fn.results.toList lrs vs h1 h2
 refine⟨if h:xs.length=1 then xs[0]else .tuple xs.toArray,?_,?_⟩
 ·have:(fn.results.mapM fun(rv:ResultVar)=>(match rv with
   | .tmp t=>(pure (a.tmps.getD t undef):Sem Value)
   | .cell c t=>do loadVar t (<-asAddr (a.tmps.getD c undef)))).run P w= .ok xs.toArray w:=by
   rw[Array.mapM_eq_mapM_toList,Sem.run_map,hrun];rfl
  simp only[results,Sem.run_bind]
  refine Eq.trans (congrArg (fun z=>Result.andThen z _) this) ?_
  simp
 ·unfold yB;split
  ·rename_i v1;have h1:xs.length=1:=by simpa using hxl
   rw[dif_pos h1];have:=hxv 0 (by simp)
   simpa[bVm,h1]using this
  ·rename_i hne;have h1: ¬xs.length=1:=by
    rw[hxl];intro h1
    match vs,h1 with
    |[v1],_=>exact hne v1 rfl
   rw[dif_neg h1];exact .tup vs xs.toArray (by simp[hxl]) fun i hi=>by
    have:=hxv i hi
    simpa[bVm,bVt]using this
def eJ (w:World):List Nat->World
 |[]=>w
 |D::Ds=>eJ (iO w D (.deferred none)) Ds
theorem xL (w:World): ∀Ds,(eJ w Ds).heap.size=w.heap.size
 |[]=>rfl
 |D::Ds=>by rw[eJ,xL _ Ds,lE]
theorem tR : ∀(Ds:List Nat) (w:World) {b:Nat},b∉Ds->(eJ w Ds).heap[b]?=w.heap[b]?
 |[],_,_,_=>rfl
 |D::Ds,w,b,h=>by
  simp only[bWe,not_or]at h;rw[eJ,tR Ds _ h.2,dW _ h.1]
theorem zD {B:Nat}: ∀(Ds:List Nat) (w:World),(∀D∈Ds,B<=D)->Below B w (eJ w Ds)
 |[],w,_=>Below.refl _ _
 |D::Ds,w,h=>(qB (w:=w) (h D (by simp))).trans (zD Ds _ fun D' hD'=>h D' (by simp[hD']))
theorem aCt (w:World)(D:Nat)(o:Obj):w.putObj D o=iO w D o:=rfl
theorem tS {F:Fence}{n:Nat}{P:Program}{fn:Func}{tmps:Array Value}{R:Ending->World->Prop}: ∀(Ds:List Nat) (w:World),Ds.Nodup->(∀D∈Ds,w.heap[D]?=some (.deferred (some [])))->
  LeavesInM F n P fn tmps R [] .returning (eJ w Ds)->LeavesInM F n P fn tmps R (Ds.map aIf) .returning w
 |[],w,_,_,h=>h
 |D::Ds,w,hn,hD,h=>by
  rw[List.nodup_cons]at hn
  refine⟨by simp,.inl ⟨D,_,rfl,run_takeDeferred (hD D (by simp)),?_⟩⟩
  rw[aCt]
  refine tS Ds _ hn.2 (fun D' hD'=>?_) h
  have hne:D'≠D:=by rintro rfl;exact hn.1 hD'
  rw[dW _ hne];exact hD D' (by simp[hD'])
end Go.Abs
namespace Go.Abs
open Go.RowKit (Below)
theorem Rel.shut {P:Program}{Ξ:Env}{B:Nat}{S:Nat->Nat->Prop}{G:Gh}{st:St}{N:Nat}{a:Act}{w:World}(hR:Rel P Ξ B S G st N a w):
  ∃Ds:List Nat,a.defers=Ds.map aIf/\ Ds.Nodup/\ (∀D∈Ds,w.heap[D]?=some (.deferred (some [])))/\ (∀D∈Ds,B<=D)/\ Rel P Ξ B S G st N {a with defers:=[]} (eJ w Ds):=by
 obtain⟨Ds,h1,h2,h3⟩:=hR.marks;have hoth: ∀{b:Nat} {o:Obj},w.heap[b]?=some o->o≠ .deferred (some [])->(eJ w Ds).heap[b]?=some o:=by
  intro b o ho hne;rw[tR Ds w fun hb=>hne (by rw[(h3 b hb).2.2]at ho;exact(Option.some.inj ho).symm)];exact ho
 have hcell: ∀{b q:Nat} {c:Value},w.cell? ⟨b,q,.none⟩=some c->(eJ w Ds).cell? ⟨b,q,.none⟩=some c:=by
  intro b q c hc
  by_cases hb:b∈Ds
  ·simp only[World.cell?,(h3 b hb).2.2]at hc;cases hc
  ·rw[nO (tR Ds w hb)];exact hc
 have m:zW (bA B S G w.heap.size) G w (bA B S G (eJ w Ds).heap.size) G (eJ w Ds):=
  ⟨fun b q h=>by rw[xL];exact h,G.le_refl,fun b q c _ h=>hcell h,fun r es cl _ h=>hoth h (by simp)⟩
 refine⟨Ds,h1,h2,fun D hD=>(h3 D hD).2.2,fun D hD=>(h3 D hD).1,?_⟩
 refine hR.change4 (a':={a with defers:=[]}) (G':=G) (en':=st.en) (cnt':=st.cnt) rfl m (by rw[xL];exact bVe _) (fun k e he=>?_) (fun k hk=>⟨hR.freshEn k hk,hR.freshG k hk⟩) (fun b k t hb=>by rw[xL];exact hR.own b k t hb)
  (fun _ _ h=>h) ⟨[],rfl,List.nodup_nil,fun D hD=>by simp at hD⟩ (fun l hl=>let ⟨r,hr⟩:=hR.round l hl;⟨r,hoth hr (by simp)⟩) (fun D hD=>?_)
 ·have hE:=hR.ents k e he;cases hE with
  |box cs frz b c t hb hB h hs ho hv hown=>exact .box cs frz b c t hb hB (hoth h (by simp)) hs ho (fun j hj=>(hv j hj).mono4 m) hown
  |nul sz frz h=>exact .nul sz frz h
  |blk xs frz b base sz C thr c t hb hB h hC hC' hs ho hv hown hthr=>exact .blk xs frz b base sz C thr c t hb hB (hoth h (by simp)) hC hC' hs ho (fun i j hi hj=>(hv i j hi hj).mono4 m.none) hown hthr
  |full xs b base sz c hb hs h ht ho hv=>exact .full xs b base sz c hb hs (fun i j hi hj=>hcell (h i j hi hj)) (fun i j hi hj=>m.t _ _ (ht i j hi hj)) ho (fun i j hi hj=>(hv i j hi hj).mono4 m.none)
  |map ks vs frz r es clock hr hB h hk hl hkv hvv hown=>exact .map ks vs frz r es clock hr hB (hoth h (by simp)) hk hl (fun i hi=>(hkv i hi).mono4 m.none) (fun i hi=>(hvv i hi).mono4 m.none) hown
  |loop fr ps la lb s l rec I N' hl hB h hps ha hb hN hpN haN hbN hf hst hown=>exact .loop fr ps la lb s l rec I N' hl hB (hoth h (by simp)) hps ha hb hN hpN haN hbN (fun i=>(hf i).mono4 m) hst hown
  |iter s pos r hr hB h hown=>exact .iter s pos r hr hB (hoth h (by simp)) hown
 ·rw[tR Ds w fun h=>(h3 D h).2.1 hD];exact hR.defs D hD
theorem aK4 {P:Program}{I:Operand->Bool}{keep amb:Bool}{fn:Func}{lf:aM}(h:zV P I keep amb fn=some lf):
  ∃c,fn.body=some c∧lf.body=dF P I c∧(dF P I c).dstOk fn.ntmps=true∧lf.np≤fn.ntmps∧(fn.name== "runtime.NumGoroutine")=false∧dH (yR P) fn.results.toList=some lf.res:=by
 simp only[zV]at h
 split at h
 ·cases h
 rename_i c hbody
 split at h
 case isFalse=>cases h
 rename_i hck;simp only[bVc,bYb,bne_iff_ne,ne_eq]at hck;obtain⟨lres,hres,rfl⟩:=bVr.1 h;exact⟨c,hbody,rfl,hck.1.1,hck.1.2,by simpa using hck.2,hres⟩
def sS (P:Program)(L:cO):Prop:= ∀f lf,L f=some lf-> ∃fn I keep amb,P.funcs[f]?=some fn/\ zV P I keep amb fn=some lf
theorem aBr {P:Program}{L:cO}(hL:sS P L){n k:Nat}(ih:qP P L n){f:Nat}{lf:aM}(hlf:L f=some lf){args:List Val}{r:Val}(hlen:args.length=lf.np)(h:gD lf k (exec L n) args=some r):
  (∃fn,P.funcs[f]?=some fn∧(fn.name== "runtime.NumGoroutine")=false∧fn.body.isNone=false)∧
  ∀(S:Nat->Nat->Prop) (w:World) (vals:Array Value),(∀b o,S b o->b<w.heap.size)->vals.size=args.length->(∀i,i<args.length->VR S Gh.none w (args.getD i .dead) (vals.getD i undef))->
   Calls P f vals w fun e w'=> ∃v,e= .returned v/\ Below w.heap.size w w'/\ aEg w.heap.size (yZ w S w') w' r v:=by
 obtain⟨fn,I,keep,amb,hfn,hlow⟩:=hL f lf hlf;obtain⟨c,hbody,hb,hdst,hnp,hname,hres⟩:=aK4 hlow;simp only[gD]at h
 split at h
 case h_2=>cases h
 rename_i e st hx
 split at h
 case isFalse=>cases h
 rename_i hends
 refine⟨⟨fn,hfn,hname,by rw[hbody];rfl⟩,fun S w vals hS hvl hv=>?_⟩
 let Ξ:Env:={prs:=fun _ _=>False,ro:=none,rnd:=fun _=>False,defs:=fun _=>False}
 have hR0:Rel P Ξ w.heap.size S Gh.none (start args) fn.ntmps {tmps:=vals++Array.replicate (fn.ntmps-vals.size) undef,defers:=[]} w:=by
  refine⟨bVe _,by simp;omega,fun i=>?_,⟨[],rfl,List.nodup_nil,fun D hD=>by simp at hD⟩,fun k e hk=>by simp[start]at hk,fun _ _=>rfl,fun _ _=>⟨rfl,rfl,rfl⟩,fun b k t hb=>by simp[Gh.none]at hb,fun _ _ h=>h.elim,
   fun l hl=>by rcases hl with h|h;cases h;exact h.elim,fun _ h=>h.elim⟩
  simp only[start]
  by_cases hi:i<args.length
  ·have h1:=(hv i hi).mono4 (T':=bA w.heap.size S Gh.none w.heap.size) (G':=Gh.none) (w':=w) ⟨fun b o h=>⟨hS b o h,.inl ⟨hS b o h,h⟩⟩,Gh.le_refl _,fun _ _ _ _ h=>h,fun _ _ _ _ h=>h⟩
   have e1:args.getD i (.tup [])=args.getD i .dead:=by simp[bVm,hi]
   have e2:(vals++Array.replicate (fn.ntmps-vals.size) undef).getD i undef=vals.getD i undef:=by
    simp only[bVt];rw[Array.getElem?_append_left (by omega)]
   rw[e1,e2];exact h1
  ·have e1:args.getD i (.tup [])= .tup []:=by simp[bVm,List.getElem?_eq_none (Nat.le_of_not_lt hi)]
   have e2:(vals++Array.replicate (fn.ntmps-vals.size) undef).getD i undef=undef:=by
    simp only[bVt];rw[Array.getElem?_append_right (by omega)]
    simp only[bX9];split<;>rfl
   rw[e1,e2];exact .tup [] #[] rfl (fun i hi=>by simp at hi)
 rw[hb]at hx
 refine callsIn_wide.1 (callsIn_of_wp_marks (F:=Fence.wide) (n:=0) hfn hbody trivial (ih I fn.ntmps c (start args) e st Ξ w.heap.size S Gh.none _ w _ 0 hdst hR0 hx fun a1 w1 G1 hR1 hbl1=>?_))
 obtain⟨Ds,q1,q2,q3,q4,hR⟩:=hR1.shut;have hbl:Below w.heap.size w (eJ w1 Ds):=hbl1.trans (zD Ds w1 q4);simp only[zS]at h
 split at h
 case h_2=>cases h
 rename_i vs hvs;obtain⟨x,hrun,hval⟩:=yC hR hres hvs;have ends:aEg w.heap.size (yZ w S (eJ w1 Ds)) (eJ w1 Ds) r x->(match e.toExit with
   | .normal| .ret=>LeavesInM Fence.wide 0 P fn a1.tmps (fun e w'=> ∃v,e= .returned v/\ Below w.heap.size w w'/\ aEg w.heap.size (yZ w S w') w' r v) a1.defers .returning w1
   |_=>True):=by
  intro hr;have fin:LeavesInM Fence.wide 0 P fn a1.tmps (fun e w'=> ∃v,e= .returned v/\ Below w.heap.size w w'/\ aEg w.heap.size (yZ w S w') w' r v) a1.defers .returning w1:=by
   rw[q1];exact tS Ds w1 q2 q3 ⟨x,hrun,x,rfl,hbl,hr⟩
  cases e with
  |normal=>exact fin
  |exit id=>trivial
  |ret=>exact fin
 split at h
 ·rename_i r' hown;simp only[bVb]at h;subst h
  split at hown
  case isFalse=>cases hown
  have hor:aEg w.heap.size (yZ w S (eJ w1 Ds)) (eJ w1 Ds) r' x:=by
   unfold aPn at hown
   split at hown
   case h_2=>cases hown
   rename_i key n htv
   split at hown
   case h_2=>cases hown
   rename_i sz xs hk
   split at hown
   case isFalse=>cases hown
   rename_i hn;simp only[bVb]at hown;subst hown;rw[htv]at hval;have hE:=hR.ents key _ hk;cases hval with
   |bl0 _ p hb=>
    cases hE with
    |nul _ _ _=>exact .inl ⟨rfl,p,rfl⟩
    |blk _ _ b base sz C thr c t hb1=>rw[hb]at hb1;cases hb1
   |ble _ p b base sz C hb=>
    rename_i hx0;cases hE with
    |nul _ _ hb1=>rw[hb]at hb1;cases hb1
    |blk _ _ b base sz C' thr c t hb1 _ _ hC=>
     rw[hb]at hb1;simp only[bVb,bVl]at hb1;have hxs:xs=[]:=List.length_eq_zero_iff.1 (by omega)
     exact .inl ⟨hxs,p,rfl⟩
   |bl _ _ _ b base sz' C hb hl=>
    cases hE with
    |nul _ _ hb1=>rw[hb]at hb1;cases hb1
    |blk _ _ b1 base1 _ C1 thr c t hb1 hB hh hC hC' hs ho hv hown hthr=>
     rw[hb]at hb1;simp only[bVb,bVl]at hb1;obtain⟨rfl,rfl,rfl,rfl⟩:=hb1;simp only[bVd,if_false]at hthr;subst hthr
     refine .inr ⟨b,thr,C,c,t,hB,by simp[hn],hh,hC,hC',hs,ho,fun i j hi hj=>(hv i j hi hj).mono ⟨fun b' o hg=>?_,Gh.le_refl _,fun _ _ _ _ h=>h,fun _ _ _ _ h=>h,fun _ _ h=>h,fun _ r h=>⟨r,h⟩⟩⟩
     obtain⟨g1,g2⟩:=hg
     refine⟨⟨g1,fun hlt=>?_⟩,fun hbb=>?_⟩
     ·rcases g2 with g2|g2
      ·exact g2.2
      ·omega
     ·subst hbb;rcases g2 with g2|g2
      ·omega
      ·rw[hown]at g2;exact g2.2
  have:=ends hor;cases e with
  |normal=>exact this
  |exit id=>cases hends
  |ret=>exact this
 split at h
 case h_2=>cases h
 rename_i v ks hsn;simp only[bVb]at h;have hT: ∀b o,bA w.heap.size S G1 (eJ w1 Ds).heap.size b o->yZ w S (eJ w1 Ds) b o:=by
  rintro b o ⟨h1,h2⟩
  refine⟨h1,fun h3=>?_⟩
  rcases h2 with h2|h2
  ·exact h2.2
  ·omega
 have hcov: ∀k e,st.en k=some e->Cov (yZ w S (eJ w1 Ds)) G1 k e:=by
  intro k e he;have hE:=hR.ents k e he;cases hE with
  |box cs frz b c t hb hB hh=>intro b' hb' j _;rw[hb]at hb';simp only[bVb]at hb';subst hb';exact⟨dJ hh,fun h=>by omega⟩
  |nul sz frz hn=>intro b base sz C hb i j hi;simp at hi
  |blk xs frz b base sz C thr c t hb hB hh=>
   intro b' base' sz' C' hb' i j hi hj;rw[hb]at hb';simp only[bVb,bVl]at hb';obtain⟨rfl,_⟩:=hb';exact⟨dJ hh,fun h=>by omega⟩
  |full xs b base sz c hb hs hh ht=>
   intro b' base' sz' C' hb' i j hi hj;rw[hb]at hb';simp only[bVb,bVl]at hb';obtain⟨rfl,rfl,rfl,rfl⟩:=hb';exact hT _ _ (ht i j hi hj)
  |map ks vs frz r es cl hr hB hh=>intro r' hr';rw[hr]at hr';simp only[bVb]at hr';subst hr';exact⟨dJ hh,fun h=>by omega⟩
  |loop=>trivial
  |iter=>trivial
 have hfin:=yU hR.ents (T':=yZ w S (eJ w1 Ds)) ⟨hT,Gh.le_refl _,fun _ _ _ _ h=>h,fun _ _ _ _ h=>h,fun _ _ h=>h,fun _ r h=>⟨r,h⟩⟩ k hval hsn fun k _ e he=>hcov k e he
 have hr:VR (yZ w S (eJ w1 Ds)) Gh.none (eJ w1 Ds) r x:=by
  rw[<-h];split
  ·exact hfin
  ·exact hfin.wk
 have:=ends (.vr hr);cases e with
 |normal=>exact this
 |exit id=>cases hends
 |ret=>exact this
theorem aW3 {T:Nat->Nat->Prop}{G:Gh}{w:World}{x:Val}{v:Value}(h:VR T G w x v)(he:sO x=true): ∃a cap,v= .slice a 0 cap:=by
 cases h<;>simp[sO]at he
 ·exact⟨_,_,rfl⟩
 ·rename_i xs b off sz cap c hc hs hh ht ho hv;cases xs with
  |nil=>exact⟨_,_,rfl⟩
  |cons=>simp[sO]at he
 ·exact⟨_,_,rfl⟩
 ·rename_i xs b off sz c hs hh ht ho hv;cases xs with
  |nil=>exact⟨_,_,rfl⟩
  |cons=>simp[sO]at he
 ·exact⟨_,_,rfl⟩
 ·rename_i k off len b base sz C hb hl;cases len with
  |zero=>exact⟨_,_,rfl⟩
  |succ=>simp[sO]at he
 ·exact⟨_,_,rfl⟩
 ·exact⟨_,_,rfl⟩
theorem aNx {a b:Option Val}{r:Val}(h:iC a b=some r):a=some r/\ b=some r:=by
 unfold iC at h
 split at h<;>simp only[bVb,reduceCtorEq]at h<;>subst h<;>exact⟨rfl,rfl⟩
theorem aNy {a b:Option Val}{r:Val}(h:iC a b=some r):a=some r/\ (r= .cl [] \/r= .fz []):=by
 unfold iC at h
 split at h<;>simp only[bVb,reduceCtorEq]at h<;>subst h
 ·exact⟨rfl,.inl rfl⟩
 ·exact⟨rfl,.inr rfl⟩
theorem aK5 {P:Program}{L:cO}(hL:sS P L){n k:Nat}(ih:qP P L n){f:Nat}{lf:aM}(hlf:L f=some lf){args:List Val}{r:Val}(hlen:args.length=lf.np)(ha:aCh lf args=true)
  (h:iC (gD lf k (exec L n) [.es true]) (gD lf k (exec L n) [.es false])=some r):
  (∃fn,P.funcs[f]?=some fn∧(fn.name== "runtime.NumGoroutine")=false∧fn.body.isNone=false)∧
  ∀(T:Nat->Nat->Prop) (G:Gh) (S:Nat->Nat->Prop) (w:World) (vals:Array Value),(∀b o,S b o->b<w.heap.size)->vals.size=args.length->(∀i,i<args.length->VR T G w (args.getD i .dead) (vals.getD i undef))->
   Calls P f vals w fun e w'=> ∃v,e= .returned v/\ Below w.heap.size w w'/\ aEg w.heap.size (yZ w S w') w' r v:=by
 obtain⟨h1,h2⟩:=aNx h;simp only[aCh,bVc]at ha;obtain⟨_,ha⟩:=ha
 split at ha
 case h_2=>cases ha
 rename_i x;obtain⟨e1,c1⟩:=aBr (args:=[.es true]) hL ih hlf hlen h1;obtain⟨_,c2⟩:=aBr (args:=[.es false]) hL ih hlf hlen h2
 refine⟨e1,fun T G S w vals hS hvl hv=>?_⟩
 obtain⟨a,cap,hx⟩:=aW3 (hv 0 (by simp)) ha
 have one: ∀(b:Bool),a.isNone=b-> ∀i,i<[Val.es b].length->VR S Gh.none w ([Val.es b].getD i .dead) (vals.getD i undef):=by
  intro b hb i hi;simp only[bVu,bWa]at hi
  obtain rfl:i=0:=by omega
  rw[hx,<-hb];exact .es a cap
 cases hb:a.isNone with
 |true=>exact c1 S w vals hS hvl (one true hb)
 |false=>exact c2 S w vals hS hvl (one false hb)
theorem aNz {P:Program}{L:cO}(hL:sS P L){n:Nat}(ih:qP P L n): ∀f args v (st0 st':St),oW L (exec L n) f args st0=some (v,st')→(∃fn,P.funcs[f]?=some fn∧(fn.name== "runtime.NumGoroutine")=false∧fn.body.isNone=false)∧
  ∀(Ξ:Env) (B:Nat) (S:Nat->Nat->Prop) (G:Gh) (st:St) (N:Nat) (a:Act) (w:World) (vals:Array Value),Rel P Ξ B S G st N a w->st0.en=st.en->st0.cnt=st.cnt->vals.size=args.length->
   (∀i,i<args.length->VR (bA B S G w.heap.size) G w (args.getD i .dead) (vals.getD i undef))->Calls P f vals w (xK P Ξ B S st st' N a w v):=by
 intro f args v st0 st' h;simp only[oW]at h
 split at h
 ·cases h
 rename_i lf hlf;obtain⟨fn,I,keep,amb,hfn,hlow⟩:=hL f lf hlf;obtain⟨c,hbody,hb,hdst,hnp,hname,hres⟩:=aK4 hlow
 split at h
 case isFalse=>cases h
 rename_i hlen
 split at h
 ·rename_i ha;obtain⟨r,hr,he⟩:=bVr.1 h;simp only[bVl]at he;obtain⟨rfl,rfl⟩:=he;obtain⟨e1,c1⟩:=aK5 hL ih hlf hlen ha hr
  refine⟨e1,fun Ξ B S G st N a w vals hR hen hcnt hvl hv=>?_⟩
  refine Calls.mono (c1 _ _ (fun _ _=>False) w vals (fun _ _ h=>h.elim) hvl hv) ?_
  rintro e w' ⟨x,rfl,hbl,hv'⟩
  have hv':VR (yZ w (fun _ _=>False) w') Gh.none w' r x:=by
   obtain⟨h1,h2⟩:=aNy hr;rcases h2 with h2|h2<;>subst h2<;>exact hv'
  have hR':=hR.below hbl
  refine⟨x,G,rfl,?_,hv'.mono ⟨fun b q hg=>?_,Gh.none_le _,fun _ _ _ _ h=>h,fun _ _ _ _ h=>h,fun _ _ h=>h,fun _ r h=>⟨r,h⟩⟩,⟨hbl.os,hbl.tape,hbl.output,hbl.size,fun k hk=>hbl.block k (bWg hk hR.size)⟩⟩
  ·have:({fr:=st.fr,en:=st0.en,cnt:=st0.cnt}:St)=st:=by rw[hen,hcnt]
   rw[this];exact hR'
  ·by_cases hbw:b<w.heap.size
   ·exact(hg.2 hbw).elim
   ·refine⟨hg.1,.inr ⟨by have:=hR.size;omega,?_⟩⟩
    cases hown:G.own b with
    |none=>trivial
    |some z=>obtain⟨k,t⟩:=z;have:=(hR.own _ _ _ hown).2.1;omega
 split at h
 case h_2=>cases h
 rename_i e ste hx
 split at h
 case isFalse=>cases h
 rename_i hends;obtain⟨vs,hvs,he⟩:=bVr.1 h;simp only[bVl]at he;obtain⟨rfl,rfl⟩:=he
 refine⟨⟨fn,hfn,hname,by rw[hbody];rfl⟩,fun Ξ B S G st N a w vals hR hen hcnt hvl hv=>?_⟩
 obtain⟨Ds0,hd1,hd2,hd3⟩:=hR.marks;let Ξ':Env:={prs:=fun u x=>Ξ.prs u x \/ ∃i,u=st.fr i/\ x=a.tmps.getD i undef,ro:=none,rnd:=Ξ.isRnd,defs:=fun D=>Ξ.defs D \/D∈Ds0}
 have hR0:Rel P Ξ' B S G {st0 with fr:=fun i=>args.getD i (.tup [])} fn.ntmps {tmps:=vals++Array.replicate (fn.ntmps-vals.size) undef,defers:=[]} w:=by
  refine⟨hR.size,by simp;omega,fun i=>?_,⟨[],rfl,List.nodup_nil,fun D hD=>by simp at hD⟩,fun k e' hk=>hR.ents k e' (hen▸hk),fun k hk=>hen▸hR.freshEn k (by rw[<-hcnt];exact hk),fun k hk=>hR.freshG k (by rw[<-hcnt];exact hk),
   fun b k t hb'=>by have:=hR.own b k t hb';rw[<-hcnt]at this;exact this,fun u x hu=>?_,fun l hl=>hR.round l (hl.resolve_left (by simp[Ξ'])),fun D hD=>hD.elim (hR.defs D) fun h=>(hd3 D h).2.2⟩
  ·simp only
   by_cases hi:i<args.length
   ·have e1:args.getD i (.tup [])=args.getD i .dead:=by simp[bVm,hi]
    have e2:(vals++Array.replicate (fn.ntmps-vals.size) undef).getD i undef=vals.getD i undef:=by
     simp only[bVt];rw[Array.getElem?_append_left (by omega)]
    rw[e1,e2];exact hv i hi
   ·have e1:args.getD i (.tup [])= .tup []:=by simp[bVm,List.getElem?_eq_none (Nat.le_of_not_lt hi)]
    have e2:(vals++Array.replicate (fn.ntmps-vals.size) undef).getD i undef=undef:=by
     simp only[bVt];rw[Array.getElem?_append_right (by omega)]
     simp only[bX9];split<;>rfl
    rw[e1,e2];exact .tup [] #[] rfl (fun i hi=>by simp at hi)
  ·rcases hu with hu|⟨i,rfl,rfl⟩
   ·exact hR.extra u x hu
   ·exact hR.frame i
 rw[hb]at hx
 refine callsIn_wide.1 (callsIn_of_wp_marks (F:=Fence.wide) (n:=0) hfn hbody trivial (ih I fn.ntmps c _ e ste Ξ' B S G _ w _ 0 hdst hR0 hx fun a1 w1 G1 hR1 hb1=>?_))
 obtain⟨Ds,q1,q2,q3,q4,hR2⟩:=hR1.shut;obtain⟨x,hrun,hxv⟩:=yC hR2 hres hvs;have hb2:Below B w (eJ w1 Ds):=hb1.trans (zD Ds w1 q4);have hfin:LeavesInM Fence.wide 0 P fn a1.tmps (xK P Ξ B S st {ste with fr:=st0.fr} N a w (yB vs)) a1.defers .returning w1:=by
  rw[q1]
  refine tS Ds w1 q2 q3 ⟨x,hrun,x,G1,rfl,?_,hxv,hb2⟩
  refine⟨hR2.size,hR.tmps,fun i=>hR2.extra _ _ (.inr ⟨i,rfl,rfl⟩),⟨Ds0,hd1,hd2,fun D hD=>⟨(hd3 D hD).1,(hd3 D hD).2.1,hR2.defs D (.inr hD)⟩⟩,hR2.ents,hR2.freshEn,hR2.freshG,hR2.own,fun u y hu=>hR2.extra u y (.inl hu),
   fun l hl=>hR2.round l (.inr hl),fun D hD=>hR2.defs D (.inl hD)⟩
 cases e with
 |normal=>exact hfin
 |exit id=>cases hends
 |ret=>exact hfin
end Go.Abs
namespace Go.Abs
open Go.RowKit (Below)
theorem aG6 {T:Nat->Nat->Prop}{G:Gh}{w:World}: ∀(ps:List Nat) (args:List Val) (vals:List Value) (fr:Nat->Val) (tmps:Array Value),args.length=ps.length->vals.length=ps.length->(∀p∈ps,p<tmps.size)->
  (∀i,VR T G w (fr i) (tmps.getD i undef))->(∀i,i<args.length->VR T G w (args.getD i .dead) (vals.getD i undef))->
  (∀i,VR T G w (vF fr ps args i) (((ps.zip vals).foldl (fun t (p:Nat×Value)=>t.setIfInBounds p.1 p.2) tmps).getD i undef))/\ ((ps.zip vals).foldl (fun t (p:Nat×Value)=>t.setIfInBounds p.1 p.2) tmps).size=tmps.size
 |[],args,vals,fr,tmps,_,_,_,hf,_=>⟨hf,rfl⟩
 |p::ps,[],_,_,_,h,_,_,_,_=>by simp at h
 |p::ps,v::args,[],_,_,_,h,_,_,_=>by simp at h
 |p::ps,v::args,x::vals,fr,tmps,h1,h2,h3,hf,hv=>by
  simp only[bVu,Nat.add_right_cancel_iff]at h1 h2;have hp:=h3 p (by simp)
  have:=aG6 ps args vals (jU fr p v) (tmps.setIfInBounds p x) h1 h2 (fun q hq=>by simpa using h3 q (by simp[hq])) (fun i=>?_) (fun i hi=>by simpa using hv (i+1) (by simpa using hi))
  ·refine⟨this.1,?_⟩
   have e:=this.2;simp only[List.zip_cons_cons,bW3];rw[e];simp
  ·simp only[bVt,bXl,jU]
   by_cases hi:i=p
   ·subst hi;simpa[hp]using hv 0 (by simp)
   ·have hi': ¬p=i:=fun e=>hi e.symm
    simp only[hi,hi',if_false]
    simpa[bVt]using hf i
theorem aZz {P:Program}{L:cO}{n:Nat}(ih:qP P L n): ∀k args v (st0 st':St),zT (exec L n) k args st0=some (v,st')->
  ∀(Ξ:Env) (B:Nat) (S:Nat->Nat->Prop) (G:Gh) (st:St) (N:Nat) (a:Act) (w:World) (vals:Array Value) (l:Nat) (ro:Option Nat) (m:Nat),Rel P Ξ B S G st N a w->st0.en=st.en->st0.cnt=st.cnt->G.mp k=some l->vals.size=args.length->
   (∀i,i<args.length->VR (bA B S G w.heap.size) G w (args.getD i .dead) (vals.getD i undef))->
   ∃f tmps assign body,(Instr.yield l vals).run P w= .ok (.round l f tmps assign body) w/\ RoundIn (Fx ro) m P l f tmps assign body w (xK P Ξ B S st st' N a w v):=by
 intro k args v st0 st' h Ξ B S G st N a w vals l ro m hR hen hcnt hmp hvl hv;simp only[zT]at h
 split at h
 case h_2=>cases h
 rename_i fr ps la lb he0
 split at h
 case isFalse=>cases h
 rename_i hlen
 split at h
 case h_2=>cases h
 rename_i st1 hx1
 split at h
 case h_2=>cases h
 rename_i fr1 ps1 la1 lb1 he1
 split at h
 case h_2=>cases h
 rename_i e st2 hx2
 split at h
 case h_2=>cases h
 rename_i fr2 ps2 la2 lb2 he2;simp only[bVb,bVl]at h;obtain⟨rfl,rfl⟩:=h;rw[hen]at he0;have hE:=hR.ents k _ he0;cases hE with
 |loop _ _ _ _ _ l0 rec I N' hl hB hh hps ha hb hN hpN haN hbN hf hst hown=>
 rw[hmp]at hl;simp only[bVb]at hl;subst hl;obtain⟨Ds0,hd1,hd2,hd3⟩:=hR.marks;have hpsz:rec.params.size=ps.length:=by rw[<-hps];simp
 have hyd:=run_yield (P:=P) (args:=vals) hh (by rw[hvl,hlen,hpsz])
 refine⟨_,_,_,_,hyd,?_⟩
 have hfold:(rec.params.zip vals).foldl (fun tmps (t,a)=>tmps.setIfInBounds t a) rec.tmps=(ps.zip vals.toList).foldl (fun t (p:Nat×Value)=>t.setIfInBounds p.1 p.2) rec.tmps:=by
  rw[<-Array.foldl_toList,Array.toList_zip,hps]
 rw[hfold];obtain⟨hfr,hfs⟩:=aG6 (T:=bA B S G w.heap.size) (G:=G) (w:=w) ps args vals.toList fr rec.tmps hlen (by simp[hvl,hlen]) (fun p hp=>bWg (by simpa using bVo.1 hpN p hp) hN) hf
  (fun i hi=>by simpa[bVm,bVt]using hv i hi)
 let Ξ':Env:={prs:=fun u x=>Ξ.prs u x \/(∃i,u=st.fr i/\ x=a.tmps.getD i undef) \/(u= .yld k/\ x= .func (.yield l) #[] #[]),ro:=some l,rnd:=Ξ.isRnd,defs:=fun D=>Ξ.defs D \/D∈Ds0}
 have hR0:Rel P Ξ' B S G {fr:=vF fr ps args,en:=st0.en,cnt:=st0.cnt} N' {tmps:=(ps.zip vals.toList).foldl (fun t (p:Nat×Value)=>t.setIfInBounds p.1 p.2) rec.tmps,defers:=[]} w:=by
  refine⟨hR.size,by simp only;rw[hfs];exact hN,hfr,⟨[],rfl,List.nodup_nil,fun D hD=>by simp at hD⟩,fun k e' hk=>hR.ents k e' (hen▸hk),fun k hk=>hen▸hR.freshEn k (by rw[<-hcnt];exact hk),fun k hk=>hR.freshG k (by rw[<-hcnt];exact hk),
   fun b k t hb'=>by have:=hR.own b k t hb';rw[<-hcnt]at this;exact this,fun u x hu=>?_,fun l' hl'=>?_,fun D hD=>hD.elim (hR.defs D) fun h=>(hd3 D h).2.2⟩
  ·rcases hu with hu|⟨i,rfl,rfl⟩|⟨rfl,rfl⟩
   ·exact hR.extra u x hu
   ·exact hR.frame i
   ·exact .yld k l hmp
  ·rcases hl' with hl'|hl'
   ·simp only[Ξ',bVb]at hl';subst hl';exact⟨rec,hh⟩
   ·exact hR.round l' hl'
 have wrt: ∀{G1:Gh} {s1:St} {a1:Act} {w1:World} {fr1:Nat->Val} {ps1:List Nat} {la1 lb1:cA} {q1:LSt} (q2:LSt),Rel P Ξ' B S G1 s1 N' a1 w1->s1.en k=some (.loop fr1 ps1 la1 lb1 q1)->
   ∃rec1,w1.heap[l]?=some (.loop rec1)/\ aWd q1 rec1/\ B<=l/\ ∀rec2:Loop,rec2.params=rec1.params->rec2.assign=rec1.assign->rec2.body=rec1.body->rec2.tmps=rec1.tmps->aWd q2 rec2->
    Rel P Ξ' B S G1 {s1 with en:=s1.en.set k (some (.loop fr1 ps1 la1 lb1 q2))} N' a1 (iO w1 l (.loop rec2)):=by
  intro G1 s1 a1 w1 fr1 ps1 la1 lb1 q1 q2 hR1 hk;have hy:=hR1.extra (.yld k) (.func (.yield l) #[] #[]) (.inr (.inr ⟨rfl,rfl⟩));have hE1:=hR1.ents k _ hk;cases hy with
  |yld _ _ hmp1=>
  cases hE1 with
  |loop _ _ _ _ _ l1 rec1 I1 N1 hl1 hB1 hh1 hps1 ha1 hb1 hN1 hpN1 haN1 hbN1 hf1 hst1 hown1=>
  rw[hmp1]at hl1;simp only[bVb]at hl1;subst hl1
  refine⟨rec1,hh1,hst1,hB1,fun rec2 r1 r2 r3 r4 hq=>?_⟩
  exact hR1.write (e':= .loop fr1 ps1 la1 lb1 q2) hown1 hh1 (fun _ _=> .inl (by simp)) (fun _=>by simp) (fun r _=>⟨rec2,rfl⟩) (fun off h=>by omega)
   (fun m=> .loop fr1 ps1 la1 lb1 q2 l rec2 I1 N1 hmp1 hB1 (jB _ (dJ hh1)) (by rw[r1];exact hps1) (by rw[r2];exact ha1) (by rw[r3];exact hb1) (by rw[r4];exact hN1) hpN1 haN1 hbN1 (fun i=>by rw[r4];exact(hf1 i).mono m) hq hown1)
 refine roundIn_of_wpIn (F:=Fx ro) trivial ?_
 refine ih I N' rec.assign _ .normal st1 Ξ' B S G _ w _ m (by rw[ha];exact haN) hR0 (by rw[ha];exact hx1) fun a1 w1 G1 hR1 hb1=>?_
 obtain⟨rec1,hh1,hq1,hBl,hw1⟩:=wrt .busy hR1 he1
 refine⟨_,run_beginRound hh1 hq1.1,?_⟩
 have hR1':=hw1 {rec1 with state:= .busy} rfl rfl rfl rfl ⟨rfl,hq1.2⟩
 refine ih I N' rec.body _ e st2 Ξ' B S G1 a1 _ _ m (by rw[hb];exact hbN) hR1' (by rw[hb];exact hx2) fun a2 w2 G2 hR2 hb2=>?_
 have fin: ∀(jump:Option Code) (q:LSt),aWd q {state:=if jump.isNone then .ready else .done,pending:=jump,fn:=0,tmps:= #[],params:= #[],assign:= .skip,body:= .skip,defers:=0}->jump.isNone=decide (e= .normal)->q=(if e= .normal then .ready else .done e)->
   ∃v w',(Instr.endRound l jump).run P w2= .ok v w'/\ xK P Ξ B S st {fr:=st0.fr,en:=st2.en.set k (some (.loop fr2 ps2 la2 lb2 (if e= .normal then .ready else .done e))),cnt:=st2.cnt} N a w (.bool (decide (e= .normal))) (.returned v) w':=by
  intro jump q hq hj hqe;obtain⟨rec2,hh2,_,_,hw2⟩:=wrt q hR2 he2;have hR3:=hw2 {rec2 with state:=if jump.isNone then .ready else .done,pending:=jump} rfl rfl rfl rfl (by cases q<;>exact hq)
  refine⟨_,_,run_endRound jump hh2,_,G2,rfl,?_,by rw[hj];exact .bool _,?_⟩
  ·rw[<-hqe];exact⟨hR3.size,hR.tmps,fun i=>hR3.extra _ _ (.inr (.inl ⟨i,rfl,rfl⟩)),⟨Ds0,hd1,hd2,fun D hD=>⟨(hd3 D hD).1,(hd3 D hD).2.1,hR3.defs D (.inr hD)⟩⟩,hR3.ents,hR3.freshEn,hR3.freshG,hR3.own,fun u y hu=>hR3.extra u y (.inl hu),
    fun l' hl'=>hR3.round l' (.inr hl'),fun D hD=>hR3.defs D (.inl hD)⟩
  ·exact((hb1.trans (qB hBl)).trans hb2).trans (qB hBl)
 cases e with
 |normal=>exact fin none .ready ⟨rfl,rfl⟩ rfl rfl
 |exit id=>exact fin (some (.exit id)) (.done (.exit id)) ⟨rfl,rfl,by simp⟩ (by simp) (by simp)
 |ret=>exact fin (some .ret) (.done .ret) ⟨rfl,rfl,by simp⟩ (by simp) (by simp)
end Go.Abs
namespace Go.Abs
open Go.RowKit (Below)
theorem sU {L:cO}{n:Nat}{st:St}{x:Ex×St}(h:exec L n aD3 st=some x):False:=by
 cases n<;>simp[aD3,exec,St.get]at h
theorem bC8 {P:Program}{L:cO}(hL:sS P L){n:Nat}(ih:qP P L n):aK1 P (pT L (exec L n)):=⟨aNz hL ih,aZz ih⟩
theorem bC9 {L:cO}{ex:cA->St->Option (Ex×St)}{f:Nat}{args:List Val}{st st':St}{v:Val}(h:oW L ex f args st=some (v,st')):st'.fr=st.fr:=by
 simp only[oW]at h
 split at h
 ·cases h
 split at h
 case isFalse=>cases h
 split at h
 ·obtain⟨r,_,he⟩:=bVr.1 h;simp only[bVl]at he;rw[<-he.2]
 split at h
 case h_2=>cases h
 split at h
 case isFalse=>cases h
 obtain⟨vs,_,he⟩:=bVr.1 h;simp only[bVl]at he;rw[<-he.2]
theorem aEq {P:Program}{L:cO}(hL:sS P L){n:Nat}(ih:qP P L n){I:Operand->Bool}{N:Nat}{ps:Array Tmp}{ca cb:Code}{st:St}{e:Ex}{st' st2:St}{v:Val}{Ξ:Env}{B:Nat}{S:Nat->Nat->Prop}{G:Gh}{a0:Act}{w W0:World}
  {Q:Exit->Act->World->Prop} {m:Nat} {f:Nat} {x y:List Val} {p q:Array Value} (hps:ps.toList.all (· <N)=true) (haN:(dF P I ca).dstOk N=true) (hbN:(dF P I cb).dstOk N=true) (hR:Rel P Ξ B S G st N a0 W0) (hB0:Below B w W0)
  (hp:p.size=x.length) (hq:q.size=y.length) (hvp: ∀i,i<x.length->VR (bA B S G W0.heap.size) G W0 (x.getD i .dead) (p.getD i undef)) (hvq: ∀i,i<y.length->VR (bA B S G W0.heap.size) G W0 (y.getD i .dead) (q.getD i undef))
  (hcall:oW L (exec L n) f (x++[.yld ⟨1,0,st.cnt 1 0⟩]++y) {fr:=st.fr,en:=st.en.set ⟨1,0,st.cnt 1 0⟩ (some (.loop st.fr ps.toList (dF P I ca) (dF P I cb) .ready)),cnt:=aP st.cnt 1 0 (st.cnt 1 0+1)}=some (v,st2))
  (hx:(match st2.en ⟨1,0,st.cnt 1 0⟩with
   |some (.loop _ _ _ _ .ready)=>some (.normal,{st2 with en:=st2.en.set ⟨1,0,st.cnt 1 0⟩ none})
   |some (.loop _ _ _ _ (.done e))=>some (e,{st2 with en:=st2.en.set ⟨1,0,st.cnt 1 0⟩ none})
   |_=>none:Option (Ex×St))=some (e,st')) (hQ: ∀a' w' G',Rel P Ξ B S G' st' N a' w'->Below B w w'->Q e.toExit a' w') (rec:Loop)
  (hrec:rec.state= .ready/\ rec.pending=none/\ rec.tmps=a0.tmps/\ rec.params=ps/\ rec.assign=ca/\ rec.body=cb) (mm:Nat):
  CallsIn (Fx Ξ.ro) mm P f (p++ #[.func (.yield W0.heap.size) #[] #[]]++q) (W0.alloc (.loop rec)) (rangePost (Fx Ξ.ro) m P W0.heap.size Q a0):=by
 obtain⟨rfl1,rfl2,rfl3,rfl4,rfl5,rfl6⟩:=hrec;obtain⟨k,hk⟩: ∃k:Key,k=⟨1,0,st.cnt 1 0⟩:=⟨_,rfl⟩
 have hf:=hR.freshG ⟨1,0,st.cnt 1 0⟩ (bVe _);have hg:=Gh.le_addMp (b:=W0.heap.size) hf.2.2;have ho': ∀b,b≠W0.heap.size->(G.addMp ⟨1,0,st.cnt 1 0⟩ W0.heap.size).own b=G.own b:=fun b hb=>by simp[Gh.addMp,hb]
 have mm1:=qL (B:=B) (S:=S) (w:=W0) (o:= .loop rec) hg ho';have hnew:(W0.alloc (.loop rec)).heap[W0.heap.size]?=some (.loop rec):=fJ _ _;have hsz:N<=rec.tmps.size:=by rw[rfl3];exact hR.tmps
 have hfrm: ∀i,VR (bA B S (G.addMp ⟨1,0,st.cnt 1 0⟩ W0.heap.size) (W0.alloc (.loop rec)).heap.size) (G.addMp ⟨1,0,st.cnt 1 0⟩ W0.heap.size) (W0.alloc (.loop rec)) (st.fr i) (rec.tmps.getD i undef):=fun i=>by rw[rfl3];exact(hR.frame i).mono mm1
 have hmk:(G.addMp ⟨1,0,st.cnt 1 0⟩ W0.heap.size).mp ⟨1,0,st.cnt 1 0⟩=some W0.heap.size:=by simp[Gh.addMp]
 have how:(G.addMp ⟨1,0,st.cnt 1 0⟩ W0.heap.size).own W0.heap.size=some (⟨1,0,st.cnt 1 0⟩,0):=by simp[Gh.addMp]
 have hE:ER P B (bA B S (G.addMp ⟨1,0,st.cnt 1 0⟩ W0.heap.size) (W0.alloc (.loop rec)).heap.size) (G.addMp ⟨1,0,st.cnt 1 0⟩ W0.heap.size) (W0.alloc (.loop rec)) ⟨1,0,st.cnt 1 0⟩ (.loop st.fr ps.toList (dF P I ca) (dF P I cb) .ready):=
  ER.loop st.fr ps.toList (dF P I ca) (dF P I cb) .ready W0.heap.size rec I N hmk hR.size hnew (by rw[rfl4]) (by rw[rfl5]) (by rw[rfl6]) hsz hps haN hbN hfrm ⟨rfl1,rfl2⟩ how
 have hR1:=hR.allocN 1 0 (.loop rec) (.loop st.fr ps.toList (dF P I ca) (dF P I cb) .ready) (G.addMp ⟨1,0,st.cnt 1 0⟩ W0.heap.size) hg ho' (fun k' hk'=>⟨rfl,rfl,by simp[Gh.addMp,hk']⟩) (fun k' t h=>by rw[how]at h;simp only[bVb,bVl]at h;exact h.1.symm) hE
 let Ξ2:Env:={Ξ with prs:=fun u z=>Ξ.prs u z \/(u= .yld ⟨1,0,st.cnt 1 0⟩/\ z= .func (.yield W0.heap.size) #[] #[])}
 have hyl:VR (bA B S (G.addMp ⟨1,0,st.cnt 1 0⟩ W0.heap.size) (W0.alloc (.loop rec)).heap.size) (G.addMp ⟨1,0,st.cnt 1 0⟩ W0.heap.size) (W0.alloc (.loop rec)) (.yld ⟨1,0,st.cnt 1 0⟩) (.func (.yield W0.heap.size) #[] #[]):= .yld _ _ (by simp[Gh.addMp])
 have hR2:Rel P Ξ2 B S (G.addMp ⟨1,0,st.cnt 1 0⟩ W0.heap.size) {fr:=st.fr,en:=st.en.set ⟨1,0,st.cnt 1 0⟩ (some (.loop st.fr ps.toList (dF P I ca) (dF P I cb) .ready)),cnt:=aP st.cnt 1 0 (st.cnt 1 0+1)} N a0 (W0.alloc (.loop rec)):=
  ⟨hR1.size,hR1.tmps,hR1.frame,hR1.marks,hR1.ents,hR1.freshEn,hR1.freshG,hR1.own,fun u z hu=>hu.elim (hR1.extra u z) fun h=>by rw[h.1,h.2];exact hyl,hR1.round,hR1.defs⟩
 obtain⟨_,hcalls⟩:=aNz hL ih _ _ _ _ _ hcall;have hszv:(p++ #[Value.func (.yield W0.heap.size) #[] #[]]++q).size=(x++[Val.yld ⟨1,0,st.cnt 1 0⟩]++y).length:=by simp only[Array.size_append,bV7,hp,hq];rfl
 have hvrs: ∀i,i<(x++[Val.yld ⟨1,0,st.cnt 1 0⟩]++y).length->VR (bA B S (G.addMp ⟨1,0,st.cnt 1 0⟩ W0.heap.size) (W0.alloc (.loop rec)).heap.size) (G.addMp ⟨1,0,st.cnt 1 0⟩ W0.heap.size) (W0.alloc (.loop rec))
   ((x++[Val.yld ⟨1,0,st.cnt 1 0⟩]++y).getD i .dead) ((p++ #[Value.func (.yield W0.heap.size) #[] #[]]++q).getD i undef):=by
  intro i hi;simp only[bV7,bVu,bWa]at hi;simp only[bVm,bVt,bXy,bXz,bV7,Array.size_append,bVu,bWa,hp];rw[show(#[Value.func (.yield W0.heap.size) #[] #[]]:Array Value).size=1 from rfl]
  split
  ·split
   ·rename_i h;have:=(hvp i h).mono mm1;simpa[bVm,bVt]using this
   ·have:i-x.length=0:=by omega
    rw[this];exact hyl
  ·have:=(hvq (i-(x.length+(0+1))) (by omega)).mono mm1;simpa[bVm,bVt]using this
 have hc:=hcalls Ξ2 B S _ _ N a0 _ _ hR2 rfl rfl hszv hvrs
 refine vP (ro:=Ξ.ro) (m:=mm) (Calls.mono hc ?_)
 ·rintro e1 w3 ⟨z,G3,rfl,hR3,_,hb3⟩
  have hb:Below B w w3:=(hB0.trans ((Below.refl B W0).alloc hR.size _)).trans hb3;have hy3:=hR3.extra (.yld ⟨1,0,st.cnt 1 0⟩) (.func (.yield W0.heap.size) #[] #[]) (.inr ⟨rfl,rfl⟩);have hfr:=bC9 hcall;have done: ∀{fr3:Nat->Val} {ps3:List Nat} {la3 lb3:cA} {q3:LSt},st2.en ⟨1,0,st.cnt 1 0⟩=some (.loop fr3 ps3 la3 lb3 q3)->q3≠ .busy-> ∃rec3,w3.heap[W0.heap.size]?=some (.loop rec3)/\ aWd q3 rec3/\ (rec3.state≠ .busy->
    Rel P Ξ B S G3 {fr:=st.fr,en:=st2.en.set ⟨1,0,st.cnt 1 0⟩ none,cnt:=st2.cnt} N a0 (w3.putObj W0.heap.size (.loop {rec3 with state:= .exhausted}))/\ Below B w (w3.putObj W0.heap.size (.loop {rec3 with state:= .exhausted}))):=by
   intro fr3 ps3 la3 lb3 q3 he3 _;have hE:=hR3.ents _ _ he3;cases hy3 with
   |yld _ _ hmp3=>
   cases hE with
   |loop _ _ _ _ _ l3 rec3 I3 N3 hl3 hB3 hh3 hps3 ha3 hb3' hN3 hpN3 haN3 hbN3 hf3 hst3 hown3=>
   rw[hmp3]at hl3;simp only[bVb]at hl3;subst hl3
   refine⟨rec3,hh3,hst3,fun _=>?_⟩
   have hw:=(hR3.write (e':= .loop fr3 ps3 la3 lb3 .over) (o':= .loop {rec3 with state:= .exhausted}) hown3 hh3 (fun _ _=> .inl (by simp)) (fun _=>by simp) (fun r _=>⟨_,rfl⟩) (fun off h=>by omega)
    (fun m=> .loop fr3 ps3 la3 lb3 .over _ _ I3 N3 hmp3 hB3 (jB _ (dJ hh3)) hps3 ha3 hb3' hN3 hpN3 haN3 hbN3 (fun i=>(hf3 i).mono m) rfl hown3)).drop ⟨1,0,st.cnt 1 0⟩
   rw[aCt]
   refine⟨?_,hb.trans (qB hB3)⟩
   have hen:(st2.en.set ⟨1,0,st.cnt 1 0⟩ (some (.loop fr3 ps3 la3 lb3 .over))).set ⟨1,0,st.cnt 1 0⟩ none=st2.en.set ⟨1,0,st.cnt 1 0⟩ none:=by
    funext k';simp only[En.set];split<;>rfl
   have hw':Rel P Ξ2 B S G3 {fr:=st.fr,en:=st2.en.set ⟨1,0,st.cnt 1 0⟩ none,cnt:=st2.cnt} N a0 (iO w3 W0.heap.size (.loop {rec3 with state:= .exhausted})):=by
    rw[<-hen];exact hw
   exact⟨hw'.size,hw'.tmps,hw'.frame,hw'.marks,hw'.ents,hw'.freshEn,hw'.freshG,hw'.own,fun u z hu=>hw'.extra u z (.inl hu),hw'.round,hw'.defs⟩
  have hst:({fr:=st2.fr,en:=st2.en.set ⟨1,0,st.cnt 1 0⟩ none,cnt:=st2.cnt}:St)={fr:=st.fr,en:=st2.en.set ⟨1,0,st.cnt 1 0⟩ none,cnt:=st2.cnt}:=by rw[hfr]
  split at hx
  ·rename_i he3;obtain⟨rec3,hh3,hq3,hfin⟩:=done he3 (by simp)
   obtain⟨r1,r2⟩:=hfin (by rw[hq3.1];simp)
   simp only[bVb,bVl]at hx;obtain⟨rfl,rfl⟩:=hx
   refine⟨_,_,run_endLoop hh3 (by rw[hq3.1];simp),?_⟩
   have hq:=hQ a0 _ G3 (by rw[hst];exact r1) r2
   split
   ·exact hq
   ·rename_i c hc;rw[hq3.2]at hc;cases hc
  ·rename_i e3 he3;obtain⟨rec3,hh3,hq3,hfin⟩:=done he3 (by simp)
   obtain⟨r1,r2⟩:=hfin (by rw[hq3.1];simp)
   simp only[bVb,bVl]at hx;obtain⟨rfl,rfl⟩:=hx
   refine⟨_,_,run_endLoop hh3 (by rw[hq3.1];simp),?_⟩
   have hq:=hQ a0 _ G3 (by rw[hst];exact r1) r2
   split
   ·rename_i hc;rw[hq3.2.1]at hc;cases hc
   rename_i c hc;rw[hq3.2.1,bVb]at hc;subst hc;cases e3 with
   |normal=>exact absurd rfl hq3.2.2
   |exit id=>exact wpIn_exit hq
   |ret=>exact wpIn_ret hq
  ·cases hx
theorem aN0 {P:Program}{L:cO}(hL:sS P L){n:Nat}(ih:qP P L n){I:Operand->Bool}{N:Nat}{g:Operand}{g':Opd}{ps:Array Tmp}{ca cb:Code}{st:St}{e:Ex}{st':St}{Ξ:Env}{B:Nat}{S:Nat->Nat->Prop}{G:Gh}{a:Act}{w:World}
  {Q:Exit->Act->World->Prop} {m:Nat} (hg:aS g=some g') (hps:ps.toList.all (· <N)=true) (haN:(dF P I ca).dstOk N=true) (hbN:(dF P I cb).dstOk N=true) (hR:Rel P Ξ B S G st N a w)
  (hx:oK L (exec L n) (St.get st.fr g') ps.toList (dF P I ca) (dF P I cb) st=some (e,st')) (hQ: ∀a' w' G',Rel P Ξ B S G' st' N a' w'->Below B w w'->Q e.toExit a' w'):
  (Code.rangeFunc g ps ca cb).wpIn (Fx Ξ.ro) m P Q a w:=by
 unfold oK at hx
 split at hx
 case h_2=>cases hx
 rename_i f x y hgv;have hG:=aV hR hg;rw[hgv]at hG;generalize hgF:a.eval g=uF at hG;cases hG with
 |fn _ _ _ p q hp hq hvp hvq=>
 simp only at hx
 split at hx
 case h_2=>cases hx
 rename_i v st2 hcall;obtain⟨⟨fn,hfn,hnm,hbody⟩,_⟩:=aNz hL ih _ _ _ _ _ hcall;have hnm': ¬fn.name= "runtime.NumGoroutine" :=by simpa using hnm
 have hbody': ¬fn.body=none:=by intro h;rw[h]at hbody;cases hbody
 have call: ∀(l:Nat) (W:World),(resolve a.eval (rangeCall g l) 0).run P W= .ok {target:= .fn (.func f) q,args:=p++ #[.func (.yield l) #[] #[]]} W/\
   (invoke (.fn (.func f) q) (p++ #[.func (.yield l) #[] #[]])).run P W= .ok (.enter f (p++ #[.func (.yield l) #[] #[]]++q)) W:=by
  intro l W;constructor
  ·have hc:a.eval (.const (.func (.yield l) #[] #[]))= .func (.yield l) #[] #[]:=rfl;simp[resolve,rangeCall,hgF,Deferred.ofValue,hc]
  ·simp[invoke,callFunc,hfn,hnm',hbody']
 refine wpIn_rangeFunc fun fnid _=>?_
 have below_vr: ∀{W:World},Below w.heap.size w W->(∀i,i<x.length->VR (bA B S G W.heap.size) G W (x.getD i .dead) (p.getD i undef))/\ ∀i,i<y.length->VR (bA B S G W.heap.size) G W (y.getD i .dead) (q.getD i undef):=
  fun hb=>⟨fun i hi=>(hvp i hi).mono (oL hb),fun i hi=>(hvq i hi).mono (oL hb)⟩
 cases hro:Ξ.ro with
 |none=>
  have hb0:Below w.heap.size w (w.alloc (.deferred (some []))):=(Below.refl _ w).alloc (bVe _) _;have hR0:=hR.below hb0;obtain⟨Ds,d1,d2,d3⟩:=hR0.marks;have hnew:(w.alloc (.deferred (some []))).heap[w.heap.size]?=some (.deferred (some [])):=fJ _ _;have hold: ∀D∈Ds,D<w.heap.size:=fun D hD=>by
   obtain⟨Ds',d1',d2',d3'⟩:=hR.marks;have:Ds.map aIf=Ds'.map aIf:=by rw[<-d1,<-d1']
   have hm:aIf D∈Ds'.map aIf:=by rw[<-this];exact bV4.2 ⟨D,hD,rfl⟩
   obtain⟨D',h1,h2⟩:=bV4.1 hm;have:D'=D:=by simpa[aIf]using h2
   subst this;exact dJ (d3' _ h1).2.2
  have hR1:Rel P Ξ B S G st N {a with defers:=[aIf w.heap.size]++a.defers} (w.alloc (.deferred (some []))):=
   ⟨hR0.size,hR0.tmps,hR0.frame,⟨w.heap.size::Ds,by simp[d1],by rw[List.nodup_cons];exact⟨fun h=>by have:=hold _ h;omega,d2⟩,fun D hD=>by
     rcases bWe.1 hD with rfl|hD
     ·exact⟨hR.size,fun h=>by have:=dJ (hR.defs _ h);omega,hnew⟩
     ·exact d3 D hD⟩,hR0.ents,hR0.freshEn,hR0.freshG,hR0.own,hR0.extra,hR0.round,hR0.defs⟩
  obtain⟨v1,v2⟩:=below_vr hb0
  refine⟨_,_,_,_,_,f,_,_,by rw[show(Fx none).round=none from rfl];exact run_enterLoop_outer fnid a.tmps ps ca cb,(call _ _).1,fun _ _=>trivial,(call _ _).2,fun h=>by simp[Fx,Fence.wide]at h,?_⟩
  have:=aEq hL ih (Q:=Q) (m:=m) hps haN hbN hR1 (Below.mono hb0 hR.size) hp hq v1 v2 hcall hx hQ {state:= .ready,pending:=none,fn:=fnid,tmps:=a.tmps,params:=ps,assign:=ca,body:=cb,defers:=w.heap.size} ⟨rfl,rfl,rfl,rfl,rfl,rfl⟩ (m-1);rw[hro,size_alloc]at this;exact this
 |some l0=>
  obtain⟨r0,hr0⟩:=hR.round l0 (.inl hro)
  refine⟨_,_,_,_,_,f,_,_,by rw[show(Fx (some l0)).round=some l0 from rfl];exact run_enterLoop_inner hr0 fnid a.tmps ps ca cb,(call _ _).1,fun _ _=>trivial,(call _ _).2,fun h=>by simp[Fx,Fence.wide]at h,?_⟩
  have:=aEq hL ih (Q:=Q) (m:=m) hps haN hbN hR (Below.refl _ _) hp hq hvp hvq hcall hx hQ {state:= .ready,pending:=none,fn:=fnid,tmps:=a.tmps,params:=ps,assign:=ca,body:=cb,defers:=r0.defers} ⟨rfl,rfl,rfl,rfl,rfl,rfl⟩ (m-1);rw[hro]at this;exact this
section
variable {P :Program}{b:Frame}{a:Act}{k:List Item}{cs:List Frame}{w:World}{Q:Exit->Act->World->Prop}{F:Fence}{n:Nat}
theorem lH {c:Code}:Go.step P (lone (b.atR a (.code (.scope c)::k)) cs w)= .next (lone (b.atR a (.code c:: .inScope c::k)) cs w):=
 step_lone_go (by simp[stepG,stepG.exec,Frame.atR])
theorem aEr {c:Code}:Go.step P (lone (b.atR a (.inScope c::k)) cs w)= .next (lone (b.atR a k) cs w):=
 step_lone_go (by simp[stepG,stepG.exec,Frame.atR])
theorem aK6 {c:Code}(h:c.wpIn F n P (Exit.noGoto Q) a w):(Code.scope c).wpIn F n P Q a w:=by
 intro b k cs hro hb hr;have h0:(lone (b.atR a (.code (.scope c)::k)) cs w).fenced P F:=fenced_calm hb hr rfl;obtain⟨e,a₁,w₁,hq,harr⟩:=h b (.inScope c::k) cs hro hb hr;cases e with
 |normal=>exact⟨.normal,a₁,w₁,hq,.head h0 lH (StepsIn.trans harr (.one (fenced_calm hb hr rfl) aEr))⟩
 |exit id'=>
  have hx:exitTo id' (.inScope c::k)=exitTo id' k:=by simp[exitTo]
  exact⟨.exit id',a₁,w₁,hq,fun k' hk=> .head h0 lH (harr.1 k' (by rw[hx];exact hk)),
   fun hr' hk=>let ⟨k₁,h1,h2⟩:=harr.2 hr' (by rw[hx];exact hk);⟨k₁,h1,.head h0 lH h2⟩⟩
 |goto l=>exact hq.elim
 |ret=>exact⟨_,a₁,w₁,hq,.of_steps (.one h0 lH) harr⟩
 |panic ch=>exact⟨_,a₁,w₁,hq,.of_steps (.one h0 lH) harr⟩
 |outgrown=>exact⟨_,a₁,w₁,hq,.of_steps (.one h0 lH) harr⟩
end
theorem aUd {P:Program}(hm:P.follows .mixedOrders=true){L:cO}(hL:sS P L){n:Nat}(hc:qO P (jV L 8 (exec L n)))(ihs: ∀m,m<=n->qP P L m):qP P L (n+1):=by
 have ih:=ihs n (bVe _);have hio:=bC8 hL ih;intro I N c
 induction c<;>intro st e st' Ξ B S G a w Q m hd hR hx hQ
 case skip=>
  simp only[dF,exec,bVb,bVl]at hx;obtain⟨rfl,rfl⟩:=hx;exact wpIn_skip (hQ a w G hR (Below.refl _ _))
 case label l=>
  simp only[dF,exec,bVb,bVl]at hx;obtain⟨rfl,rfl⟩:=hx;exact wpIn_label (hQ a w G hR (Below.refl _ _))
 case region id ops dr=>
  cases dr with
  |false=>
   simp only[dF,bVd,if_false]at hd hx;cases hlow:dH (tJ P I ops) ops.toList with
   |none=>rw[hlow]at hx;exact(sU hx).elim
   |some l=>
    rw[hlow]at hx hd;simp only[bV8,bV0,exec]at hx hd;obtain⟨s1,hrun,he⟩:=bVr.1 hx;simp only[bVl]at he;obtain⟨rfl,rfl⟩:=he
    refine wpIn_region ?_
    rw[List.range_eq_range'];exact aUa hc hio hlow hd ops.size 0 st s1 G a w (by omega) hR (by simpa using hrun) hQ
  |true=>
   simp only[dF,if_true]at hd hx;cases hld:aIe P I ops with
   |none=>rw[hld]at hx;exact(sU hx).elim
   |some c'=>
    rw[hld]at hx hd;simp only[aIe,bV1,bVs,bV2,bVb]at hld;obtain⟨l,hlow,an,han,ps,hps,rfl⟩:=hld;simp only[bV0,exec]at hx hd
    split at hx
    case h_2=>cases hx
    rename_i s1 rs hrun
    split at hx
    case isFalse=>cases hx
    rename_i hok;simp only[bVb,bVl]at hx;obtain⟨rfl,rfl⟩:=hx;have hb:Below w.heap.size w {w with drawn:=w.drawn+1}:=(Below.refl _ w).drew
    refine wpIn_region_any hm (aUb (Ξ:=Ξ) (B:=B) (S:=S) hc hio hlow hd han hps hrun hok ops.size (Array.replicate ops.size false) G a _ (by simp) ?_ ?_ ?_ ?_)
    ·refine bWd List.countP_le_length (by simp)
    ·intro j o ho hL;simp[bX9]at hL
     split at hL<;>simp at hL
    ·rw[eS (L':=fun _=>false) fun i _=>by simp[bX9];split<;>simp]
     have: ∀(k:Nat),jW (fun k=>mD (l.getD k default) (rs.getD k jI)) (fun _=>false) st k=st:=by
      intro k;induction k with
      |zero=>rfl
      |succ k ih=>simp only[jW,bVd,if_false];exact ih
     rw[this];exact hR.below hb
    ·exact fun a' w' G' h1 h2=>hQ a' w' G' h1 ⟨h2.os,h2.tape,h2.output,h2.size,h2.block⟩
 case seq x y _ _=>
  simp only[dF,cA.dstOk,bVc]at hd;simp only[dF,exec]at hx
  refine wpIn_seq ?_
  cases h1:exec L n (dF P I x) st with
  |none=>rw[h1]at hx;cases hx
  |some p=>
   obtain⟨e1,s1⟩:=p;rw[h1]at hx
   refine ih I N x st e1 s1 Ξ B S G a w _ m hd.1 hR h1 fun a1 w1 G1 hR1 hb1=>?_
   cases e1 with
   |normal=>exact ih I N y s1 e st' Ξ B S G1 a1 w1 _ m hd.2 hR1 hx fun a2 w2 G2 hR2 hb2=>hQ a2 w2 G2 hR2 (hb1.trans hb2)
   |exit id=>simp only[bVb,bVl]at hx;obtain⟨rfl,rfl⟩:=hx;exact hQ a1 w1 G1 hR1 hb1
   |ret=>simp only[bVb,bVl]at hx;obtain⟨rfl,rfl⟩:=hx;exact hQ a1 w1 G1 hR1 hb1
 case cond z x y _ _=>
  simp only[dF]at hd hx;cases hz':aS z with
  |none=>rw[hz']at hx;exact(sU hx).elim
  |some z'=>
   rw[hz']at hx hd;simp only[cA.dstOk,bVc]at hd;simp only[exec]at hx;have hv:=aV hR hz'
   split at hx
   ·rename_i hz;rw[hz]at hv;have:a.eval z= .bool true:=by generalize a.eval z=q at hv;cases hv;rfl
    exact wpIn_cond_true this (ih I N x st e st' Ξ B S G a w Q m hd.1 hR hx hQ)
   ·rename_i hz;rw[hz]at hv;have:a.eval z= .bool false:=by generalize a.eval z=q at hv;cases hv;rfl
    exact wpIn_cond_false this (ih I N y st e st' Ξ B S G a w Q m hd.2 hR hx hQ)
   ·cases hx
 case block id x _=>
  simp only[dF,cA.dstOk]at hd;simp only[dF,exec]at hx
  refine wpIn_block ?_
  cases h1:exec L n (dF P I x) st with
  |none=>rw[h1]at hx;cases hx
  |some p=>
   obtain⟨e1,s1⟩:=p;rw[h1]at hx
   refine ih I N x st e1 s1 Ξ B S G a w _ m hd hR h1 fun a1 w1 G1 hR1 hb1=>?_
   cases e1 with
   |normal=>simp only[bVb,bVl]at hx;obtain⟨rfl,rfl⟩:=hx;exact hQ a1 w1 G1 hR1 hb1
   |exit id'=>
    simp only at hx
    simp only[Ex.toExit,Exit.inBlock]
    split at hx
    ·rename_i he;rw[if_pos he];simp only[bVb,bVl]at hx;obtain⟨rfl,rfl⟩:=hx;exact hQ a1 w1 G1 hR1 hb1
    ·rename_i he;rw[if_neg he];simp only[bVb,bVl]at hx;obtain⟨rfl,rfl⟩:=hx;exact hQ a1 w1 G1 hR1 hb1
   |ret=>simp only[bVb,bVl]at hx;obtain⟨rfl,rfl⟩:=hx;exact hQ a1 w1 G1 hR1 hb1
 case loop x _=>
  simp only[dF,cA.dstOk]at hd;simp only[dF]at hx;have key: ∀k s1 G1 a1 w1,k<=n+1->Rel P Ξ B S G1 s1 N a1 w1->exec L k (.loop (dF P I x)) s1=some (e,st')->Below B w w1->Code.roundsIn (Fx Ξ.ro) m P x Q k a1 w1:=by
   intro k
   induction k with
   |zero=>intro s1 G1 a1 w1 _ _ hx1 _;simp[exec]at hx1
   |succ k ihk=>
    intro s1 G1 a1 w1 hk hR1 hx1 hb1;simp only[exec]at hx1;rw[roundsIn_succ];cases h1:exec L k (dF P I x) s1 with
    |none=>rw[h1]at hx1;cases hx1
    |some p=>
     obtain⟨e1,s2⟩:=p;rw[h1]at hx1
     refine ihs k (by omega) I N x s1 e1 s2 Ξ B S G1 a1 w1 _ m hd hR1 h1 fun a2 w2 G2 hR2 hb2=>?_
     cases e1 with
     |normal=>exact ihk s2 G2 a2 w2 (by omega) hR2 hx1 (hb1.trans hb2)
     |exit id=>simp only[bVb,bVl]at hx1;obtain⟨rfl,rfl⟩:=hx1;exact hQ a2 w2 G2 hR2 (hb1.trans hb2)
     |ret=>simp only[bVb,bVl]at hx1;obtain⟨rfl,rfl⟩:=hx1;exact hQ a2 w2 G2 hR2 (hb1.trans hb2)
  exact wpIn_loop_rounds (n+1) (key (n+1) st G a w (bVe _) hR hx (Below.refl _ _))
 case exit id=>
  simp only[dF,exec,bVb,bVl]at hx;obtain⟨rfl,rfl⟩:=hx;exact wpIn_exit (hQ a w G hR (Below.refl _ _))
 case ret=>
  simp only[dF,exec,bVb,bVl]at hx;obtain⟨rfl,rfl⟩:=hx;exact wpIn_ret (hQ a w G hR (Below.refl _ _))
 case rangeFunc g ps ca cb _ _=>
  simp only[dF]at hd hx;cases hg:aS g with
  |none=>rw[hg]at hx;exact(sU hx).elim
  |some g'=>
   rw[hg]at hx hd;simp only[cA.dstOk,bVc]at hd;simp only[exec]at hx;exact aN0 hL ih hg hd.1.1 hd.1.2 hd.2 hR hx hQ
 case scope x ihx=>
  refine aK6 (ihx st e st' Ξ B S G a w _ m hd hR hx fun a1 w1 G1 hR1 hb1=>?_)
  have:=hQ a1 w1 G1 hR1 hb1;cases e<;>exact this
 all_goals (simp only[dF]at hx;exact(sU hx).elim)
end Go.Abs
namespace Go.Abs
open Go.RowKit (Below)
theorem aG7 {P:Program}{L:cO}(hL:sS P L){n k:Nat}(ih:qP P L n):qO P (jV L k (exec L n)):=by
 intro f args r h;simp only[jV]at h
 split at h
 ·cases h
 rename_i lf hlf
 split at h
 case isFalse=>cases h
 rename_i hlen
 split at h
 ·rename_i ha;obtain⟨e1,c1⟩:=aK5 hL ih hlf hlen ha h;exact⟨e1,fun S w vals hS hvl hv=>c1 _ _ S w vals hS hvl hv⟩
 ·exact aBr hL ih hlf hlen h
theorem aUe {P:Program}(hm:P.follows .mixedOrders=true){L:cO}(hL:sS P L): ∀n,qP P L n:=by
 intro n
 induction n using Nat.strongRecOn with
 |ind n ih=>
  match n with
  |0=>intro I N c st e st' Ξ B S G a w Q m _ _ hx;simp[exec]at hx
  |n+1=>exact aUd hm hL (aG7 hL (ih n (by omega))) fun m hm'=>ih m (by omega)
theorem aK7 {P:Program}(hm:P.follows .mixedOrders=true){L:cO}(hL:sS P L)(n:Nat):qO P (pC L n):=aG7 hL (aUe hm hL n)
end Go.Abs
namespace Go.Abs
@[reducible] def o (d:Nat)(op:LOp):bE:=⟨some d,op,none⟩
@[reducible] def og (d t:Nat)(b:Bool)(op:LOp):bE:=⟨some d,op,some (t,b)⟩
@[reducible] def on (op:LOp):bE:=⟨none,op,none⟩
@[reducible] def ong (t:Nat)(b:Bool)(op:LOp):bE:=⟨none,op,some (t,b)⟩
@[reducible] def cI (n:Int):Opd:= .c (.int .i64 n)
@[reducible] def cB (b:Bool):Opd:= .c (.bool b)
@[reducible] def mT (d x:Nat):bE:=⟨some d,.mv (.t x),none⟩
@[reducible] def mC (d:Nat)(v:Val):bE:=⟨some d,.mv (.c v),none⟩
@[reducible] def fA (d k x:Nat):bE:=⟨some d,.fa k (.t x),none⟩
@[reducible] def l1 (d x:Nat):bE:=⟨some d,.load false 1 (.t x),none⟩
@[reducible] def lT (d n x:Nat):bE:=⟨some d,.load true n (.t x),none⟩
@[reducible] def bN (d:Nat)(op:BinOp)(x y:Opd):bE:=⟨some d,.bin op .num x y,none⟩
@[reducible] def pO (d c x:Nat):bE:=⟨some d,.pick (.t c) (.c (.bool true)) (.t x),none⟩
@[reducible] def pA (d c x:Nat):bE:=⟨some d,.pick (.t c) (.t x) (.c (.bool false)),none⟩
@[reducible] def cL (d f:Nat)(args:List Opd):bE:=⟨some d,.call (.f f) args,none⟩
@[reducible] def lN (d x:Nat):bE:=⟨some d,.len .slice (.t x),none⟩
@[reducible] def bX (d n x:Nat):bE:=⟨some d,.box n (.t x),none⟩
@[reducible] def iA (d s x i:Nat):bE:=⟨some d,.ia s (.t x) (.t i),none⟩
@[reducible] def nK (d x:Nat):bE:=⟨some d,.nilck (.t x),none⟩
@[reducible] def nT (d x:Nat):bE:=⟨some d,.un .not (.t x),none⟩
@[reducible] def sT (n a x:Nat):bE:=⟨none,.store n (.t a) (.t x),none⟩
@[reducible] def gM (d t:Nat)(b:Bool)(x:Nat):bE:=⟨some d,.mv (.t x),some (t,b)⟩
@[reducible] def gF (d t:Nat)(b:Bool)(k x:Nat):bE:=⟨some d,.fa k (.t x),some (t,b)⟩
@[reducible] def g1 (d t:Nat)(b:Bool)(x:Nat):bE:=⟨some d,.load false 1 (.t x),some (t,b)⟩
@[reducible] def gT (d t:Nat)(b:Bool)(n x:Nat):bE:=⟨some d,.load true n (.t x),some (t,b)⟩
@[reducible] def gN (d t:Nat)(b:Bool)(x:Nat):bE:=⟨some d,.len .slice (.t x),some (t,b)⟩
@[reducible] def gL (d t:Nat)(b:Bool)(f:Nat)(args:List Opd):bE:=⟨some d,.call (.f f) args,some (t,b)⟩
@[reducible] def gB (d t:Nat)(b:Bool)(op:BinOp)(x y:Opd):bE:=⟨some d,.bin op .num x y,some (t,b)⟩
def aH (P:Program)(p:Nat×aM):Prop:= ∃fn I keep amb,P.funcs[p.1]?=some fn/\ zV P I keep amb fn=some p.2
theorem aF {P:Program}{n:Nat}{fn:Func}{c:aM}(h:P.funcs[n]?=some fn)(h2:zV P (fun _=>false) false false fn=some c):aH P (n,c):=⟨fn,fun _=>false,false,false,h,h2⟩
theorem aZ0 {P:Program}{tbl:List (Nat×aM)}(h: ∀p∈tbl,aH P p):sS P (fun f=>tbl.lookup f):=by
 intro f lf hf;have mem:(f,lf)∈tbl:=by
  clear h
  induction tbl with
  |nil=>cases hf
  |cons x l ih=>
   obtain⟨f',lf'⟩:=x;simp only[List.lookup]at hf
   split at hf
   ·rename_i he;simp only[bVb]at hf;subst hf;simp at he;subst he;simp
   ·exact bX7 _ (ih hf)
 exact h _ mem
end Go.Abs
namespace Go.Abs
open Go.RowKit Go.WideShapes Go.ChangeShapes Go.ChangeAt
variable {H :Type}{enc:TypeId×Value->H}{P:Program}
theorem aAe (hl:laidOutB P=true){W W':World}(hb:Below W.heap.size W W'){sp:Nat->Bool}: ∀{ts:List TypeId} {vs:List Value} {ds:List (DataW H)} {ps:List MemPlace},(∀t∈ts,P.readableRec t=true/\ t<P.types.size)->
  DataW.TrodAll enc P W 0 (fun _=>true) true ts vs ds ps->(∀x∈ps,x.block<W.heap.size)->(∀x∈ps,sp x.block=true)->DataW.TrodAll enc P W' 0 sp true ts vs ds ps
 |[],[],[],ps,_,h,_,_=>h
 |t::ts,v::vs,d::ds,ps,hr,h,hlt,hsp=>by
  obtain⟨p,q,h1,h2,rfl⟩:=h
  refine⟨p,q,WideElems.Trod_stays hl (hr t (by simp)).1 (hr t (by simp)).2 h1 (fun x hx=>hb.same (hlt x (bW6 _ hx))) (fun x hx=>hsp x (bW6 _ hx)),
   aAe hl hb (fun t ht=>hr t (bX7 _ ht)) h2 (fun x hx=>hlt x (bW1 _ hx)) (fun x hx=>hsp x (bW1 _ hx)),rfl⟩
 |[],_::_,_,_,_,h,_,_=>h.elim
 |[],[],_::_,_,_,h,_,_=>h.elim
 |_::_,[],_,_,_,h,_,_=>h.elim
 |_::_,_::_,[],_,_,h,_,_=>h.elim
theorem aW4 {f:Func}{s:ChangeSpec}{apart fresh handsOn again:Bool}{W W':World}{args:Array Value}{ds gs:List (DataW H)}{before:List MemPlace}{bt:TypeId}
  (hW:DataW.Whole enc P f.params.toList s.vars apart W args.toList ds gs before) (hvars:s.vars=[]) (hres:f.resultTypes= #[bt]) (hbt:P.underlying bt=some .bool)
  (hfn:s.fn H (ds++gs)={results:=[.lit (.bool true)],args:=ds}) (hl:laidOutB P=true) (hr: ∀t∈f.params.toList,P.readableRec t=true/\ t<P.types.size) (hb:Below W.heap.size W W'):
  s.post enc P f apart fresh handsOn again W args (.bool true) W':=by
 have hlt: ∀x∈before,x.block<W.heap.size:=fun x hx=>hW.lt x hx
 obtain⟨p,q,hA,hV,hbq,hz,hn⟩:=hW;rw[hvars]at hV;obtain⟨rfl,rfl⟩:=trodVars_none hV;have hbp:before=p:=by simpa using hbq
 subst hbp;have harg: ∀sp:Nat->Bool,(∀x∈before,sp x.block=true)->DataW.TrodAll enc P W' 0 sp true f.params.toList args.toList ds before:=fun sp hsp=>aAe hl hb hr hA hlt hsp
 have hresult: ∀(b:Nat) (sp:Nat->Bool) (hd:Bool),DataW.TrodAll enc P W' b sp hd f.resultTypes.toList ((Value.bool true).resultList f.resultTypes.size) [.lit (.bool true)] []:=by
  intro b sp hd;rw[hres];exact trodAll_cons_mk (shut_bool hbt _) trodAll_mk0
 have hvar: ∀sp:Nat->Bool,DataW.TrodVars enc P W' sp s.vars (s.fn H (ds++[])).vars []:=by
  intro sp;rw[hvars,hfn];exact rfl
 refine⟨ds,[],before,[],before,[],⟨before,[],hA,by rw[hvars];exact hV,by simp,hz,hn⟩,by rw[hfn];exact hresult _ _ _,by rw[hfn];exact harg _ (fun x hx=>by simpa using hlt x hx),hvar _,
  World.keptBut_mono (fun x hx=>⟨hx,.inr (by simpa using hx)⟩) (hb.frame (· ∈before)),fun _=>?_⟩
 refine⟨ok_one hres rfl (okWide_bool_mk hbt _),_,_,([]++before)++[],⟨[]++before,[],trodAll_append (harg _ (fun _ _=>rfl)) (hresult _ _ _),hvar _,rfl,fun b off hx=>?_,fun ha=>by simpa using hn ha⟩,fun x hx _=>by simpa using hx⟩
 have hin:MemPlace.cell b off∈before:=by simpa using hx
 rw[hb.frozen (hlt _ hin)];exact hz b off hin
theorem aN1 {L:cO}(hm:P.follows .mixedOrders=true)(hL:sS P L){f n:Nat}{args:List Val}(h:pC L n f args=some (.bool true)){S:Nat->Nat->Prop}{w:World}{vals:Array Value}(hS: ∀b o,S b o->b<w.heap.size)
  (hn:vals.size=args.length) (hv: ∀i,i<args.length->VR S Gh.none w (args.getD i .dead) (vals.getD i undef)):Calls P f vals w fun e w'=>e= .returned (.bool true)/\ Below w.heap.size w w':=by
 refine Calls.mono ((aK7 hm hL n f args _ h).2 S w vals hS hn hv) ?_
 rintro e w' ⟨v,rfl,hb,hr⟩
 have hr':VR (yZ w S w') Gh.none w' (.bool true) v:=hr;cases hr';exact⟨rfl,hb⟩
end Go.Abs
