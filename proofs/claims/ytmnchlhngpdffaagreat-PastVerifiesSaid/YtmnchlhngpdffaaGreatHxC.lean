/- The interpreter of the translated code, and its proof: part C. -/
import Derived.Test.YtmnchlhngpdffaaGreatHxA
import Derived.Test.YtmnchlhngpdffaaGreatHxB
import Derived.OrdersIn
import Derived.LoopNIn
import Derived.RangeFuncNested
import Derived.Scope
set_option linter.all false
open Array renaming getD_eq_getD_getElem? → bOl, getElem?_append → bQy, getElem?_eq_getElem → bOv, getElem?_eq_some_iff → bPv, getElem?_mapIdx → bRg, getElem?_replicate → bPz, getElem?_setIfInBounds → bQs, getElem_toList → bQ0, mapM_eq_mapM_toList → bRq, size_append → bQx
open Bool renaming and_eq_true → bN8, and_false → bPp, eq_iff_iff → bQh, false_and → bOx, false_eq_true → bOa, false_or → bO6, not_eq_true' → bPg, or_eq_true → bPe, or_true → bP3, true_and → bO3
open List renaming all_cons → bQg, all_eq_true → bOe, any_eq_true → bQ8, contains_eq_mem → bPx, countP_le_length → bRh, countP_pos_iff → bRm, drop_eq_getElem_cons → bO9, drop_eq_nil_iff → bRf, flatMap_cons → bQm, foldl_cons → bQv, foldl_nil → bQl, getD_eq_getElem?_getD → bOd, getElem?_append → bQw, getElem?_append_left → bRd, getElem?_cons_zero → bQn, getElem?_drop → bRb, getElem?_eq_getElem → bPh, getElem?_set → bQu, getElem_mem → bOg, isEmpty_iff → bQ6, length_append → bOr, length_cons → bOh, length_eq_zero_iff → bRn, length_map → bOc, length_nil → bOo, map_congr_left → bQe, map_cons → bO4, mem_append → bO2, mem_cons → bO8, mem_cons_of_mem → bP8, mem_filter → bPy, mem_flatMap → bPq, mem_map → bO5, mem_range → bO7, range'_succ → bQ5
open Nat renaming add_zero → bPo, le_refl → bN9, le_trans → bOk, lt_of_lt_of_le → bOy
open Option renaming bind_eq_bind → bOu, bind_eq_some_iff → bOi, getD_some → bOz, isNone_iff_eq_none → bQ7, isSome_iff_exists → bPs, map_eq_some_iff → bOj, map_some → bO0, pure_def → bOw
open Option.some renaming injEq → bN7
open Prod.mk renaming injEq → bOb
namespace Go.Abs
inductive aXw where
 |box (n:Nat) (f:Bool)
 |blk (f:Bool)
 |map (f:Bool)
 |loop
 |iter
def Ent.shape :Ent->aXw
 | .box cs f=> .box cs.length f
 | .blk _ _ f=> .blk f
 | .map _ _ f=> .map f
 | .loop .. => .loop
 | .iter .. => .iter
def Ent.win (off n:Nat):Ent->Option (List Val)
 | .box cs _=>if off+n<=cs.length then some ((cs.drop off).take n)else none
 |_=>none
def fU (en en':En):R->Prop
 | .val k=>(en k).map Ent.freeze=(en' k).map Ent.freeze
 | .cells k off n=>(en k).map (Ent.win off n)=(en' k).map (Ent.win off n)
 | .flag k=>(en k).map Ent.shape=(en' k).map Ent.shape
theorem fU.refl (en:En)(r:R):fU en en r:=by cases r<;>rfl
variable {en en':En}
theorem fU.symm {r:R}(h:fU en en' r):fU en' en r:=by cases r<;>exact Eq.symm h
theorem fU.trans {a b c:En}{r:R}(h:fU a b r)(k:fU b c r):fU a c r:=by cases r<;>exact Eq.trans h k
variable {f:Bool}{cs:List Val}{k:Key}
theorem fU.box (h:fU en en' (.val k))(he:en k=some (.box cs f)): ∃f',en' k=some (.box cs f'):=by
 simp only[fU,he,bO0,Ent.freeze]at h;cases h':en' k with
 |none=>rw[h']at h;cases h
 |some e=>rw[h']at h;cases e<;>simp[Ent.freeze]at h;subst h;exact⟨_,rfl⟩
variable {xs:List Val}{sz:Nat}
theorem fU.blk (h:fU en en' (.val k))(he:en k=some (.blk sz xs f)): ∃f',en' k=some (.blk sz xs f'):=by
 simp only[fU,he,bO0,Ent.freeze]at h;cases h':en' k with
 |none=>rw[h']at h;cases h
 |some e=>rw[h']at h;cases e<;>simp[Ent.freeze]at h;obtain⟨rfl,rfl⟩:=h;exact⟨_,rfl⟩
variable {vs:List Val}
theorem fU.map {ks:List Val}(h:fU en en' (.val k))(he:en k=some (.map ks vs f)): ∃f',en' k=some (.map ks vs f'):=by
 simp only[fU,he,bO0,Ent.freeze]at h;cases h':en' k with
 |none=>rw[h']at h;cases h
 |some e=>rw[h']at h;cases e<;>simp[Ent.freeze]at h;obtain⟨rfl,rfl⟩:=h;exact⟨_,rfl⟩
theorem fU.iter {s:ByteArray}{pos:Nat}(h:fU en en' (.val k))(he:en k=some (.iter s pos)):en' k=some (.iter s pos):=by
 simp only[fU,he,bO0,Ent.freeze]at h;cases h':en' k with
 |none=>rw[h']at h;cases h
 |some e=>rw[h']at h;cases e<;>simp[Ent.freeze]at h;obtain⟨rfl,rfl⟩:=h;rfl
theorem fU.blkf (h:fU en en' (.val k))(h2:fU en en' (.flag k))(he:en k=some (.blk sz xs f)):en' k=some (.blk sz xs f):=by
 obtain⟨f',h'⟩:=h.blk he;simp only[fU,he,h',bO0,Ent.shape,bN7,aXw.blk.injEq]at h2;subst h2;exact h'
theorem fU.mapf {ks:List Val}(h:fU en en' (.val k))(h2:fU en en' (.flag k))(he:en k=some (.map ks vs f)):en' k=some (.map ks vs f):=by
 obtain⟨f',h'⟩:=h.map he;simp only[fU,he,h',bO0,Ent.shape,bN7,aXw.map.injEq]at h2;subst h2;exact h'
theorem fU.boxl (h2:fU en en' (.flag k))(he:en k=some (.box cs f)): ∃cs',en' k=some (.box cs' f)/\ cs'.length=cs.length:=by
 simp only[fU,he,bO0,Ent.shape]at h2;cases h':en' k with
 |none=>rw[h']at h2;cases h2
 |some e=>rw[h']at h2;cases e<;>simp[Ent.shape]at h2;obtain⟨h3,rfl⟩:=h2;exact⟨_,rfl,h3.symm⟩
variable {n:Nat}
theorem fU.window {off:Nat}(h:fU en en' (.cells k off n))(he:en k=some (.box cs f))(hl:off+n<=cs.length):
  ∃cs' f',en' k=some (.box cs' f')/\ off+n<=cs'.length/\ (cs'.drop off).take n=(cs.drop off).take n:=by
 simp only[fU,he,bO0,Ent.win,if_pos hl]at h;cases h':en' k with
 |none=>rw[h']at h;cases h
 |some e=>
  rw[h']at h;cases e<;>simp only[bO0,Ent.win,bN7,reduceCtorEq]at h
  split at h
  ·rename_i h3;simp only[bN7]at h;exact⟨_,_,rfl,h3,h.symm⟩
  ·cases h
theorem xF (n:Nat): ∀{v v':Val} {ks:List Key},snap n en v=some (v',ks)->(∀k∈ks,fU en en' (.val k))->snap n en' v=some (v',ks):=by
 induction n with
 |zero=>intro v v' ks h _;cases v<;>exact h
 |succ n ih=>
  have lst: ∀(vs:List Val) (rs:List (Val×List Key)),cM (snap n en) vs=some rs->(∀k∈rs.flatMap (·.2),fU en en' (.val k))->cM (snap n en') vs=some rs:=by
   intro vs
   induction vs with
   |nil=>intro rs h _;exact h
   |cons v vs ihv=>
    intro rs h hk;simp only[cM]at h⊢
    split at h
    case h_2=>cases h
    rename_i y hy
    split at h
    case h_2=>cases h
    rename_i ys hys;simp only[bN7]at h;subst h;obtain⟨y1,y2⟩:=y;rw[ih hy fun k hk'=>hk k (by simp[hk']),ihv ys hys fun k hk'=>hk k (by simp only[bQm,bO2];exact .inr hk')]
  have lst2: ∀(vs:List Val) (f:List Val×List Key->Val×List Key) (r:Val×List Key),(∀p k,k∈p.2->k∈(f p).2)->
    ((cM (snap n en) vs).map fun rs=>(rs.map (·.1),rs.flatMap (·.2))).map f=some r->(∀k∈r.2,fU en en' (.val k))->
    ((cM (snap n en') vs).map fun rs=>(rs.map (·.1),rs.flatMap (·.2))).map f=some r:=by
   intro vs f r hf h hk;simp only[Option.map_map,bOj,Function.comp]at h⊢;obtain⟨rs,h1,rfl⟩:=h;exact⟨rs,lst vs rs h1 fun k hk'=>hk k (hf _ k hk'),rfl⟩
  intro v v' ks h hk;cases v with
  |ptr k off=>
   simp only[snap]at h⊢
   split at h
   case h_2=>cases h
   rename_i cs f he;have hk0:k∈ks:=by
    obtain⟨rs,_,h2⟩:=bOj.1 h;simp only[bOb]at h2;rw[<-h2.2];simp
   obtain⟨f',he'⟩:=(hk k hk0).box he;simp only[he'];exact lst2 cs (fun r=>(.fp r.1 off,k::r.2)) (v',ks) (fun p q hq=>bP8 _ hq) h hk
  |ep k i off=>
   simp only[snap]at h⊢
   split at h
   case h_2=>cases h
   rename_i sz xs f he
   split at h
   ·cases h
   rename_i hd
   split at h
   case h_2=>cases h
   rename_i x hx;simp only[bN7,bOb]at h;obtain⟨rfl,rfl⟩:=h;obtain⟨f',he'⟩:=(hk k (by simp)).blk he
   simp only[he',hx,if_neg hd]
  |bl k off len=>
   simp only[snap]at h⊢
   split at h
   case h_2=>cases h
   rename_i sz xs f he
   split at h
   case isFalse=>cases h
   rename_i hl
   split at h
   ·rename_i hd;have hk0:k∈ks:=by
     obtain⟨rs,_,h2⟩:=bOj.1 h;simp only[bOb]at h2;rw[<-h2.2];simp
    obtain⟨f',he'⟩:=(hk k hk0).blk he;simp only[he',if_pos hl,if_pos hd];exact lst2 _ (fun r=>(.fz (r.1.map Val.wk1),k::r.2)) (v',ks) (fun p q hq=>bP8 _ hq) h hk
   rename_i hd;simp only[bN7,bOb]at h;obtain⟨rfl,rfl⟩:=h;obtain⟨f',he'⟩:=(hk k (by simp)).blk he
   simp only[he',if_pos hl,if_neg hd]
  |mp k=>
   simp only[snap]at h⊢
   split at h
   case h_2=>cases h
   rename_i ks' vs f he;simp only[bN7,bOb]at h;obtain⟨rfl,rfl⟩:=h;obtain⟨f',he'⟩:=(hk k (by simp)).map he
   simp only[he']
  |fn f a b=>
   simp only[snap]at h⊢
   split at h
   case h_2=>cases h
   rename_i x y hx hy;simp only[bN7,bOb]at h;obtain⟨rfl,rfl⟩:=h;simp only[bOj]at hx hy;obtain⟨r1,e1,rfl⟩:=hx;obtain⟨r2,e2,rfl⟩:=hy;rw[lst a r1 e1 fun k hk'=>hk k (bO2.2 (.inl hk')),lst b r2 e2 fun k hk'=>hk k (bO2.2 (.inr hk'))]
   rfl
  |ifc t v=>
   simp only[snap]at h⊢;obtain⟨⟨r1,r2⟩,e1,h2⟩:=bOj.1 h;simp only[bOb]at h2;obtain⟨rfl,rfl⟩:=h2;rw[ih e1 hk];rfl
  |agg cs=>
   simp only[snap]at h⊢;exact lst2 cs (fun r=>(.agg r.1,r.2)) (v',ks) (fun p q hq=>hq) h hk
  |tup cs=>
   simp only[snap]at h⊢;exact lst2 cs (fun r=>(.tup r.1,r.2)) (v',ks) (fun p q hq=>hq) h hk
  |_=>exact h
theorem aO6 : ∀{vs:List Val} {rs:List (Val×List Key)},cM (fun x=>snap n en x) vs=some rs->(∀k∈rs.flatMap (·.2),fU en en' (.val k))->cM (fun x=>snap n en' x) vs=some rs:=by
 intro vs
 induction vs with
 |nil=>intro rs h _;exact h
 |cons v vs ihv=>
  intro rs h hk;simp only[cM]at h⊢
  split at h
  case h_2=>cases h
  rename_i y hy
  split at h
  case h_2=>cases h
  rename_i ys hys;simp only[bN7]at h;subst h;obtain⟨y1,y2⟩:=y;rw[xF n hy fun k hk'=>hk k (by simp[hk']),ihv hys fun k hk'=>hk k (by simp only[bQm,bO2];exact .inr hk')]
variable {a:Val}{rs:List R}
theorem aMz (h:pZ en a n=some (cs,rs))(hk: ∀ρ∈rs,fU en en' ρ):pZ en' a n=some (cs,rs):=by
 unfold pZ at h⊢
 split at h
 ·rename_i k off
  split at h
  case h_2=>cases h
  rename_i cs0 f he
  split at h
  case isFalse=>cases h
  rename_i hl;simp only[bN7,bOb]at h;obtain⟨rfl,rfl⟩:=h;obtain⟨cs',f',h1,h2,h3⟩:=(hk (.cells k off n) (by simp)).window he hl
  simp only[h1,if_pos h2,h3]
 ·rename_i k i off
  split at h
  case h_2=>cases h
  rename_i sz xs f he
  split at h
  case h_2=>cases h
  rename_i x hx
  split at h
  case isFalse=>cases h
  rename_i hl;simp only[bN7,bOb]at h;obtain⟨rfl,rfl⟩:=h;obtain⟨f',he'⟩:=(hk (.val k) (by simp)).blk he
  simp only[he',hx,if_pos hl]
 ·exact h
 ·cases h
theorem uX (h:iC en a=some (cs,rs))(hk: ∀ρ∈rs,fU en en' ρ):iC en' a=some (cs,rs):=by
 unfold iC at h⊢
 split at h
 ·exact h
 ·exact h
 ·exact h
 ·rename_i k off len
  split at h
  case h_2=>cases h
  rename_i sz xs f he
  split at h
  case isFalse=>cases h
  rename_i hl;simp only[bN7,bOb]at h;obtain⟨rfl,rfl⟩:=h;obtain⟨f',he'⟩:=(hk (.val k) (by simp)).blk he
  simp only[he',if_pos hl]
 ·cases h
variable {v:Val}{d g me:Nat}{ks:List Key}
theorem aSa :(fY me d g v ks).rs=ks.map .val:=by cases v<;>rfl
theorem aO7 :(fY me d g v ks).mem=none:=by cases v<;>rfl
theorem aU5 (h:(fY me d g v ks).bump=false)(g':Nat):fY me d g' v ks=fY me d g v ks:=by
 cases v<;>first|rfl|(simp[fY]at h)
variable {r:Res}
theorem aDc {size:Nat}{X Y:Val}(h:fD me d g en size X (iC en Y)=some r)(hk: ∀ρ∈r.rs,fU en en' ρ):fD me d g en' size X (iC en' Y)=some r:=by
 unfold fD at h⊢
 split at h
 case h_2=>cases h
 rename_i ys rs hel
 split at h
 case isFalse=>cases h
 rename_i hh
 split at h
 ·split at h
  ·rename_i hye;simp only[bN7]at h;subst h;rw[uX hel hk];simp only[if_pos hh,if_pos hye]
  rename_i hye
  split at h
  case isFalse=>cases h
  rename_i hc;simp only[bN7]at h;subst h;rw[uX hel hk];simp only[if_pos hh,if_neg hye,if_pos hc]
 ·rename_i k off len
  split at h
  case h_2=>cases h
  rename_i sz xs f he
  split at h
  case isFalse=>cases h
  rename_i hc;simp only[bN7]at h;subst h;have he':=(hk (.val k) (by simp)).blkf (hk (.flag k) (by simp)) he
  rw[uX hel fun ρ hρ=>hk ρ (by simp[hρ])]
  simp only[if_pos hh,he',if_pos hc]
 ·cases h
variable {call:bC}{get:Opd->Val}{op:LOp}
theorem aSb {get':Opd->Val}(h:eval n call me d g en get op=some r)
  (hg: ∀x∈op.opds,get' x=get x) (hk: ∀ρ∈r.rs,fU en en' ρ):eval n call me d g en' get' op=some r:=by
 cases op with
 |mv x=>simp only[eval]at h⊢;rw[hg x (by simp[LOp.opds])];exact h
 |pick c x y=>simp only[eval]at h⊢;rw[hg c (by simp[LOp.opds]),hg x (by simp[LOp.opds]),hg y (by simp[LOp.opds])];exact h
 |alloc z=>exact h
 |box m x=>simp only[eval]at h⊢;rw[hg x (by simp[LOp.opds])];exact h
 |build z ps=>
  simp only[eval]at h⊢;rw[show(ps.map fun p=>(p.1,p.2.1,get' p.2.2))=ps.map fun p=>(p.1,p.2.1,get p.2.2)from bQe fun p hp=>by
   rw[hg p.2.2 (by simp only[LOp.opds,bO5];exact⟨p,hp,rfl⟩)]]
  exact h
 |bslice len size z ps=>
  simp only[eval]at h⊢
  split at h
  case isFalse=>cases h
  rename_i hl
  split at h
  case h_2=>cases h
  rename_i qs hq
  split at h
  case h_2=>cases h
  rename_i xs hf;simp only[bN7]at h;subst h;have key: ∀(ps:List (Nat×Opd)) (qs:List ((Nat×Val)×List Key)),(∀x∈ps.map (·.2),get' x=get x)->cM (fun p=>(snap n en (get p.2)).map fun r=>((p.1,r.1.wk1),r.2)) ps=some qs->
    (∀k∈qs.flatMap (·.2),fU en en' (.val k))->cM (fun p=>(snap n en' (get' p.2)).map fun r=>((p.1,r.1.wk1),r.2)) ps=some qs:=by
   intro ps
   induction ps with
   |nil=>intro qs _ h _;exact h
   |cons p ps ih=>
    intro qs hgp h hkk;simp only[cM]at h⊢
    split at h
    case h_2=>cases h
    rename_i y hy
    split at h
    case h_2=>cases h
    rename_i ys hys;simp only[bN7]at h;subst h;obtain⟨⟨r1,r2⟩,e1,rfl⟩:=bOj.1 hy;rw[hgp p.2 (by simp),xF n e1 fun k hk'=>hkk k (by simp[hk'])]
    simp only[bO0];rw[ih ys (fun x hx=>hgp x (by simp only[bO4,bO8];exact .inr hx)) hys fun k hk'=>hkk k (by simp only[bQm,bO2];exact .inr hk')]
  rw[key ps qs (fun x hx=>hg x (by simpa[LOp.opds]using hx)) hq fun k hk'=>hk _ (by simpa using hk')]
  simp only[if_pos hl,hf]
 |bsliceK len size z ps=>
  simp only[eval]at h⊢
  split at h
  case isFalse=>cases h
  rename_i hl
  split at h
  case h_2=>cases h
  rename_i qs hq
  split at h
  case h_2=>cases h
  rename_i xs hf;simp only[bN7]at h;subst h;have key: ∀(ps:List (Nat×Opd)) (qs:List ((Nat×Val)×List Key)),(∀x∈ps.map (·.2),get' x=get x)->cM (fun p=>(snap n en (get p.2)).map fun r=>((p.1,r.1),r.2)) ps=some qs->
    (∀k∈qs.flatMap (·.2),fU en en' (.val k))->cM (fun p=>(snap n en' (get' p.2)).map fun r=>((p.1,r.1),r.2)) ps=some qs:=by
   intro ps
   induction ps with
   |nil=>intro qs _ h _;exact h
   |cons p ps ih=>
    intro qs hgp h hkk;simp only[cM]at h⊢
    split at h
    case h_2=>cases h
    rename_i y hy
    split at h
    case h_2=>cases h
    rename_i ys hys;simp only[bN7]at h;subst h;obtain⟨⟨r1,r2⟩,e1,rfl⟩:=bOj.1 hy;rw[hgp p.2 (by simp),xF n e1 fun k hk'=>hkk k (by simp[hk'])]
    simp only[bO0];rw[ih ys (fun x hx=>hgp x (by simp only[bO4,bO8];exact .inr hx)) hys fun k hk'=>hkk k (by simp only[bQm,bO2];exact .inr hk')]
  rw[key ps qs (fun x hx=>hg x (by simpa[LOp.opds]using hx)) hq fun k hk'=>hk _ (by simpa using hk')]
  simp only[if_pos hl,hf]
 |load ag m x=>
  simp only[eval]at h⊢;rw[hg x (by simp[LOp.opds])]
  split at h
  case h_2=>cases h
  rename_i cs rs hr;obtain⟨v,hv,rfl⟩:=bOj.1 h;rw[aMz hr hk];simp only[hv,bO0]
 |store m x y=>
  simp only[eval]at h⊢;rw[hg x (by simp[LOp.opds]),hg y (by simp[LOp.opds])]
  split at h
  case isFalse=>cases h
  rename_i hc;rw[if_pos hc]
  split at h
  ·rename_i k off hX
   split at h
   case h_2=>cases h
   rename_i cs he
   split at h
   case isFalse=>cases h
   rename_i hl;simp only[bN7]at h;subst h;obtain⟨cs',he',hl'⟩:=(hk (.flag k) (by simp)).boxl he
   simp only[he',hl',if_pos hl]
  ·rename_i k i off hX
   split at h
   case h_2=>cases h
   rename_i sz xs he
   split at h
   case h_2=>cases h
   rename_i Y hY
   split at h
   case isFalse=>cases h
   rename_i hl
   split at h
   ·rename_i hd;simp only[bN7]at h;subst h;have he':=(hk (.val k) (by simp)).blkf (hk (.flag k) (by simp)) he
    simp only[he',hY,if_pos hl,if_pos hd]
   rename_i hd
   split at h
   case h_2=>cases h
   rename_i v' ks hs
   split at h
   case isFalse=>cases h
   rename_i hk2;simp only[bN7]at h;subst h;have he':=(hk (.val k) (by simp)).blkf (hk (.flag k) (by simp)) he
   simp only[he',hY,if_pos hl,if_neg hd,xF n hs fun k' hk'=>hk _ (by simp[hk']),if_pos hk2]
  ·cases h
 |nilck x=>simp only[eval]at h⊢;rw[hg x (by simp[LOp.opds])];exact h
 |bin o t x y=>simp only[eval]at h⊢;rw[hg x (by simp[LOp.opds]),hg y (by simp[LOp.opds])];exact h
 |un o x=>simp only[eval]at h⊢;rw[hg x (by simp[LOp.opds])];exact h
 |wrap k x=>simp only[eval]at h⊢;rw[hg x (by simp[LOp.opds])];exact h
 |iface t x=>simp only[eval]at h⊢;rw[hg x (by simp[LOp.opds])];exact h
 |assert t z ok x=>simp only[eval]at h⊢;rw[hg x (by simp[LOp.opds])];exact h
 |mkfn f a b=>
  simp only[eval]at h⊢;rw[show a.map get'=a.map get from bQe fun p hp=>hg p (by simp[LOp.opds,hp]),show b.map get'=b.map get from bQe fun p hp=>hg p (by simp[LOp.opds,hp])]
  exact h
 |mkmap=>exact h
 |mput t m k x=>
  simp only[eval]at h⊢;rw[hg m (by simp[LOp.opds]),hg k (by simp[LOp.opds]),hg x (by simp[LOp.opds])]
  split at h
  case h_2=>cases h
  rename_i key hm
  split at h
  case h_2=>cases h
  rename_i ks vs he
  split at h
  case isFalse=>cases h
  rename_i hok;have done: ∀e:En->Option Res,(fU en en' (.val key)->fU en en' (.flag key)->en' key=some (.map ks vs false)):=fun _ a b=>a.mapf b he
  split at h
  ·rename_i i hf;simp only[bN7]at h;subst h;have he':=done (fun _=>none) (hk (.val key) (by simp)) (hk (.flag key) (by simp))
   simp only[he',if_pos hok,hf]
  ·rename_i hf;simp only[bN7]at h;subst h;have he':=done (fun _=>none) (hk (.val key) (by simp)) (hk (.flag key) (by simp))
   simp only[he',if_pos hok,hf]
  ·cases h
 |mget t z ok m k=>
  simp only[eval]at h⊢;rw[hg m (by simp[LOp.opds]),hg k (by simp[LOp.opds])]
  split at h
  case isFalse=>cases h
  rename_i hok;rw[if_pos hok]
  split at h
  ·rename_i key hm
   split at h
   case h_2=>cases h
   rename_i ks vs f he;obtain⟨v,hv,rfl⟩:=bOj.1 h;obtain⟨f',he'⟩:=(hk (.val key) (by simp)).map he
   simp only[he',hv,bO0]
  ·exact h
  ·exact h
  ·cases h
 |mklen size z len cap=>simp only[eval]at h⊢;rw[hg len (by simp[LOp.opds]),hg cap (by simp[LOp.opds])];exact h
 |appendZ size z x y=>simp only[eval]at h⊢;rw[hg x (by simp[LOp.opds]),hg y (by simp[LOp.opds])];exact h
 |bsliceO len size z ps=>
  simp only[eval]at h⊢;have e1:(ps.all fun p=>(get' p.2).flat1)=ps.all fun p=>(get p.2).flat1:=by
   rw[bQh,bOe,bOe];exact forall_congr' fun p=>forall_congr' fun hp=>by rw[hg p.2 (by simp only[LOp.opds,bO5];exact⟨p,hp,rfl⟩)]
  have e2:(ps.map fun p=>(p.1,get' p.2))=ps.map fun p=>(p.1,get p.2):=bQe fun p hp=>by
   rw[hg p.2 (by simp only[LOp.opds,bO5];exact⟨p,hp,rfl⟩)]
  rw[e1,e2];exact h
 |slice str size x lo hi mx=>
  have e1:lo.map get'=lo.map get:=by
   cases lo with
   |none=>rfl
   |some l=>simp only[bO0];rw[hg l (by simp[LOp.opds])]
  have e2:hi.map get'=hi.map get:=by
   cases hi with
   |none=>rfl
   |some l=>simp only[bO0];rw[hg l (by simp[LOp.opds])]
  have e3: ∀m,mx=some m->get' m=get m:=fun m hm=>hg m (by simp[LOp.opds,hm])
  simp only[eval,e1,e2]at h⊢;rw[hg x (by simp[LOp.opds])]
  split at h
  ·rename_i hs;rw[if_pos hs];exact h
  ·rename_i hs;rw[if_neg hs]
   split at h
   ·split at h
    ·exact h
    ·rename_i m;simp only[e3 m rfl];exact h
   ·split at h
    ·exact h
    ·rename_i m;simp only[e3 m rfl];exact h
   ·rename_i k off len hX
    split at h
    case h_2=>cases h
    split at h
    case h_2=>cases h
    rename_i hh hb
    split at h
    case h_2=>cases h
    rename_i ll hlo
    split at h
    case h_2=>cases h
    rename_i sz xs f he
    split at h
    case isFalse=>cases h
    rename_i hc;simp only[bN7]at h;subst h;obtain⟨f',he'⟩:=(hk (.val k) (by simp)).blk he
    simp only[hb,hlo,he',if_pos hc]
   ·cases h
 |fa off x=>simp only[eval]at h⊢;rw[hg x (by simp[LOp.opds])];exact h
 |fld ag off m x=>simp only[eval]at h⊢;rw[hg x (by simp[LOp.opds])];exact h
 |ia size x i=>
  simp only[eval]at h⊢;rw[hg x (by simp[LOp.opds]),hg i (by simp[LOp.opds])]
  split at h
  case h_2=>cases h
  split at h
  ·exact h
  ·exact h
  ·rename_i k off len hX
   split at h
   case h_2=>cases h
   rename_i sz xs f he
   split at h
   case isFalse=>cases h
   rename_i hc;simp only[bN7]at h;subst h;obtain⟨f',he'⟩:=(hk (.val k) (by simp)).blk he
   simp only[he',if_pos hc]
  ·cases h
 |iaa len size x i=>simp only[eval]at h⊢;rw[hg x (by simp[LOp.opds]),hg i (by simp[LOp.opds])];exact h
 |ixs x i=>simp only[eval]at h⊢;rw[hg x (by simp[LOp.opds]),hg i (by simp[LOp.opds])];exact h
 |ixa ag len size x i=>simp only[eval]at h⊢;rw[hg x (by simp[LOp.opds]),hg i (by simp[LOp.opds])];exact h
 |ext i x=>simp only[eval]at h⊢;rw[hg x (by simp[LOp.opds])];exact h
 |call f args=>
  simp only[eval]at h⊢;rw[hg f (by simp[LOp.opds]),show args.map get'=args.map get from bQe fun p hp=>hg p (by simp[LOp.opds,hp])]
  split at h
  case h_2=>cases h
  rename_i f a b hf
  split at h
  case h_2=>cases h
  rename_i rs hs
  split at h
  case h_2=>cases h
  rename_i v hv;simp only[bN7]at h;subst h;rw[aO6 hs fun k hk'=>hk _ (by rw[aSa];simpa using hk')]
  simp only[hv]
 |icall f args=>cases h
 |len t x=>
  simp only[eval]at h⊢;rw[hg x (by simp[LOp.opds])]
  split at h
  ·split at h
   ·rename_i key hx
    split at h
    case h_2=>cases h
    rename_i ks vs f he;simp only[bN7]at h;subst h;obtain⟨f',he'⟩:=(hk (.val key) (by simp)).map he
    simp only[he']
   ·exact h
   ·exact h
   ·cases h
  ·exact h
  ·exact h
  ·exact h
  ·cases h
 |append size x y=>
  simp only[eval]at h⊢;rw[hg x (by simp[LOp.opds]),hg y (by simp[LOp.opds])]
  exact aDc h hk
 |appendD size x y=>
  simp only[eval]at h⊢;rw[hg x (by simp[LOp.opds]),hg y (by simp[LOp.opds])]
  exact aDc h hk
 |copy size x y=>cases h
 |panic x=>simp[eval]at h
 |rng x=>simp only[eval]at h⊢;rw[hg x (by simp[LOp.opds])];exact h
 |nxt x=>
  simp only[eval]at h⊢;rw[hg x (by simp[LOp.opds])]
  split at h
  case h_2=>cases h
  rename_i k hX
  split at h
  case h_2=>cases h
  rename_i s pos he
  split at h
  ·rename_i hlt;simp only[bN7]at h;subst h;have he':=(hk (.val k) (by simp)).iter he
   simp only[he',if_pos hlt]
  ·rename_i hlt;simp only[bN7]at h;subst h;have he':=(hk (.val k) (by simp)).iter he
   simp only[he',if_neg hlt]
 |minmax mx xs=>
  simp only[eval]at h⊢;rw[show xs.map get'=xs.map get from bQe fun p hp=>hg p (by simp[LOp.opds,hp])]
  exact h
theorem aM0 (h:eval n call me d g en get op=some r)(hw:op.writesMem=false):r.ws=[]:=by
 cases op<;>first
  |(simp[LOp.writesMem]at hw;done)
  |(simp only[eval,aHq,fD]at h
    (repeat' split at h)<;>first
     |(cases h;done)
     |(simp only[bN7]at h;subst h;rfl)
     |(obtain⟨_,_,rfl⟩:=bOj.1 h;rfl))
theorem aIc (h:eval n call me d g en get op=some r):r.mem=none:=by
 cases op<;>(
  simp only[eval,aHq,fD]at h
  (repeat' split at h)<;>first
   |(cases h;done)
   |(simp only[bN7]at h;subst h;rfl)
   |(simp only[bN7]at h;subst h;exact aO7)
   |(obtain⟨_,_,rfl⟩:=bOj.1 h;rfl))
theorem aO8 (h:eval n call me d g en get op=some r)(hw:op.writesMem=false):r.bump=false:=by
 cases op<;>first
  |(simp[LOp.writesMem]at hw;done)
  |(simp only[eval,aHq,fD]at h
    (repeat' split at h)<;>first
     |(cases h;done)
     |(simp only[bN7]at h;subst h;rfl)
     |(obtain⟨_,_,rfl⟩:=bOj.1 h;rfl))
theorem aO9 (h:eval n call me d g en get op=some r)(hw:op.readsMem=false):r.rs=[]:=by
 cases op<;>first
  |(simp[LOp.readsMem]at hw;done)
  |(simp only[eval,aHq,fD]at h
    (repeat' split at h)<;>first
     |(cases h;done)
     |(simp only[bN7]at h;subst h;rfl)
     |(obtain⟨_,_,rfl⟩:=bOj.1 h;rfl))
theorem bD0 (h:eval n call me d g en get op=some r)(hw:r.bump=false)(g':Nat):eval n call me d g' en get op=some r:=by
 by_cases hc: ∃f args,op= .call f args
 ·obtain⟨f,args,rfl⟩:=hc;simp only[eval]at h⊢
  split at h
  case h_2=>cases h
  split at h
  case h_2=>cases h
  rename_i hs
  split at h
  case h_2=>cases h
  rename_i hv;simp only[bN7]at h;subst h;rw[aU5 hw g']
 cases op<;>first
  |exact absurd ⟨_,_,rfl⟩ hc
  |exact h
  |(exfalso
    simp only[eval,fD]at h
    ((repeat' split at h)<;>first
     |(cases h;done)
     |(simp only[bN7]at h;subst h;cases hw));done)
  |(simp only[eval,fD]at h⊢
    (repeat' split at h)<;>first
     |(cases h;done)
     |(exfalso;simp only[bN7]at h;subst h;cases hw;done)
     |(simp only[*];done)
     |(rename_i hh _ _ _ _;simp only[*,if_true];done)
     |(simp only[*,if_true]at h⊢;done)
     |(simp_all;done))
theorem aDd : ∀(vs:List Val) (cs:List Val) (off i:Nat),(i<off \/off+vs.length<=i)->(setCells cs off vs)[i]?=cs[i]?
 |[],_,_,_,_=>rfl
 |v::vs,cs,off,i,h=>by
  simp only[bOh]at h;rw[setCells,aDd vs _ _ _ (by omega),bQu]
  rw[if_neg (by omega)]
theorem xG : ∀(vs:List Val) (cs:List Val) (off:Nat),(setCells cs off vs).length=cs.length
 |[],_,_=>rfl
 |v::vs,cs,off=>by rw[setCells,xG];simp
theorem aM1 (vs:List Val): ∀(cs:List Val) (off i:Nat) (u:Val),(i<off \/off+vs.length<=i)->setCells (cs.set i u) off vs=(setCells cs off vs).set i u:=by
 induction vs with
 |nil=>intro cs off i u _;rfl
 |cons v vs ih=>
  intro cs off i u h;simp only[bOh]at h;rw[setCells,setCells,<-ih _ _ _ _ (by omega)]
  congr 1
  exact List.set_comm _ _ (by omega)
theorem aKr (us:List Val): ∀(vs cs:List Val) (off off':Nat),(off+us.length<=off' \/off'+vs.length<=off)->setCells (setCells cs off us) off' vs=setCells (setCells cs off' vs) off us:=by
 induction us with
 |nil=>intro vs cs off off' _;rfl
 |cons u us ih=>
  intro vs cs off off' h;simp only[bOh]at h;rw[setCells,setCells,ih _ _ _ _ (by omega),aM1 _ _ _ _ _ (by omega)]
def W.onEnt :W->Option Ent->Option Ent
 | .ent _ e=>fun _=>e
 | .cells _ off vs=>fun x=>match x with
  |some (.box cs f)=>some (.box (setCells cs off vs) f)
  |x=>x
 | .elem _ i off vs=>fun x=>match x with
  |some (.blk sz xs f)=>match xs[i]? with
   |some y=>some (.blk sz (xs.set i (eH y off vs)) f)
   |none=>some (.blk sz xs f)
  |x=>x
 | .frz _=>fun x=>x.map Ent.freeze
theorem W.apply_self (en:En)(w:W):W.apply en w w.key=w.onEnt (en w.key):=by
 cases w with
 |ent k' e=>simp[W.apply,W.key,W.onEnt,En.set]
 |cells k off vs=>
  show W.apply en _ k=W.onEnt _ (en k);simp only[W.apply,W.onEnt];cases h:en k with
  |none=>simp[h]
  |some e=>cases e<;>simp[En.set,h]
 |elem k i off vs=>
  show W.apply en _ k=W.onEnt _ (en k);simp only[W.apply,W.onEnt];cases h:en k with
  |none=>simp[h]
  |some e=>
   cases e with
   |blk sz xs f=>cases h':xs[i]?<;>simp[En.set,h,h']
   |_=>simp[h]
 |frz k=>
  show W.apply en _ k=W.onEnt _ (en k);simp only[W.apply,W.onEnt];cases h:en k with
  |none=>simp[h]
  |some e=>simp[En.set]
theorem W.apply_other (en:En)(w:W)(hk:k≠w.key):W.apply en w k=en k:=by
 cases w with
 |ent k' e=>
  have hk:k≠k':=hk;simp[W.apply,En.set,hk]
 |cells k' off vs=>
  have hk:k≠k':=hk;simp only[W.apply];cases h:en k' with
  |none=>rfl
  |some e=>cases e<;>simp[En.set,hk]
 |elem k' i off vs=>
  have hk:k≠k':=hk;simp only[W.apply];cases h:en k' with
  |none=>rfl
  |some e=>
   cases e with
   |blk sz xs f=>cases h':xs[i]?<;>simp[En.set,hk,h']
   |_=>rfl
 |frz k'=>
  have hk:k≠k':=hk;simp only[W.apply];cases h:en k' with
  |none=>rfl
  |some e=>simp[En.set,hk]
theorem W.apply_at (en:En)(w:W)(k:Key):W.apply en w k=if k=w.key then w.onEnt (en k)else en k:=by
 by_cases hk:k=w.key
 ·rw[if_pos hk,hk,W.apply_self]
 ·rw[if_neg hk,W.apply_other en w hk]
variable {w:W}
theorem W.comm {w':W}(h:lV w w'=true)(en:En):W.apply (W.apply en w) w'=W.apply (W.apply en w') w:=by
 have key:w.key≠w'.key->W.apply (W.apply en w) w'=W.apply (W.apply en w') w:=by
  intro hk
  funext k
  simp only[W.apply_at]
  by_cases h1:k=w'.key
  ·subst h1;have h2: ¬w'.key=w.key:=fun e=>hk e.symm
   simp[h2]
  ·simp[h1]
 by_cases hk:w.key=w'.key
 ·cases w<;>cases w'<;>simp only[W.key]at hk<;>subst hk<;>simp[lV,W.key]at h
  ·rename_i k off vs off' vs'
   funext k'
   by_cases hk':k'=k
   ·subst hk';have e1:=W.apply_self (W.apply en (.cells k' off vs)) (.cells k' off' vs');have e2:=W.apply_self en (.cells k' off vs);have e3:=W.apply_self (W.apply en (.cells k' off' vs')) (.cells k' off vs);have e4:=W.apply_self en (.cells k' off' vs');simp only[W.key]at e1 e2 e3 e4;rw[e1,e2,e3,e4];cases en k' with
    |none=>rfl
    |some e=>
     cases e with
     |box cs f=>simp only[W.onEnt];rw[aKr _ _ _ _ _ h]
     |_=>rfl
   ·rw[W.apply_other _ (.cells k off' vs') hk',W.apply_other _ (.cells k off vs) hk',W.apply_other _ (.cells k off vs) hk',W.apply_other _ (.cells k off' vs') hk']
  ·rfl
 ·exact key hk
variable {ρ:R}
theorem W.same (h:jH w ρ=true)(en:En):fU (W.apply en w) en ρ:=by
 have key:w.key≠ρ.key->fU (W.apply en w) en ρ:=by
  intro hk;have e:W.apply en w ρ.key=en ρ.key:=by rw[W.apply_at,if_neg fun e=>hk e.symm]
  cases ρ<;>simp only[fU,R.key]at e⊢ <;>rw[e]
 by_cases hk:w.key=ρ.key
 ·have e:=W.apply_self en w;cases w<;>cases ρ<;>simp only[W.key,R.key]at hk<;>subst hk<;>simp[jH,W.key,R.key]at h<;>
   simp only[W.key]at e<;>simp only[fU,e,W.onEnt]
  ·rename_i k off vs off' n;cases en k with
   |none=>rfl
   |some e=>
    cases e with
    |box cs f=>
     simp only[bO0,Ent.win,xG];split
     ·congr 2
      apply List.ext_getElem?;intro j;simp only[List.getElem?_take,bRb];split
      ·rw[aDd _ _ _ _ (by omega)]
      ·rfl
     ·rfl
    |_=>rfl
  ·rename_i k off vs;cases en k with
   |none=>rfl
   |some e=>cases e<;>simp[Ent.shape,xG]
  ·rename_i k i off vs;cases en k with
   |none=>rfl
   |some e=>
    cases e with
    |blk sz xs f=>simp only;split<;>rfl
    |_=>rfl
  ·rename_i k;cases en k with
   |none=>rfl
   |some e=>cases e<;>rfl
  ·rename_i k off n;cases en k with
   |none=>rfl
   |some e=>cases e<;>rfl
 ·exact key hk
theorem aM2 (ws:List W): ∀(en:En) (w:W),(∀w'∈ws,lV w w'=true)->W.applyAll (W.apply en w) ws=W.apply (W.applyAll en ws) w:=by
 induction ws with
 |nil=>intro en w _;rfl
 |cons w' ws ih=>
  intro en w h;show W.applyAll (W.apply (W.apply en w) w') ws=W.apply (W.applyAll (W.apply en w') ws) w;rw[W.comm (h w' (by simp)),ih _ _ fun x hx=>h x (by simp[hx])]
theorem aKs (ws:List W): ∀(ws':List W) (en:En),(∀w∈ws,∀w'∈ws',lV w w'=true)->W.applyAll (W.applyAll en ws) ws'=W.applyAll (W.applyAll en ws') ws:=by
 induction ws with
 |nil=>intro ws' en _;rfl
 |cons w ws ih=>
  intro ws' en h;show W.applyAll (W.applyAll (W.apply en w) ws) ws'=W.applyAll (W.apply (W.applyAll en ws') w) ws;rw[ih _ _ fun x hx=>h x (by simp[hx]),aM2 _ _ _ (h w (by simp))]
theorem aKt (ws:List W): ∀(en:En) (ρ:R),(∀w∈ws,jH w ρ=true)->fU (W.applyAll en ws) en ρ:=by
 induction ws with
 |nil=>intro en ρ _;exact fU.refl _ _
 |cons w ws ih=>
  intro en ρ h;show fU (W.applyAll (W.apply en w) ws) en ρ;exact(ih _ ρ fun x hx=>h x (by simp[hx])).trans (W.same (h w (by simp)) en)
section
variable {σ :Type}(E:Nat->σ->σ)
def dC (L:Nat->Bool)(s:σ):Nat->σ
 |0=>s
 |n+1=>if L n then E n (dC L s n)else dC L s n
variable {E}
theorem cE {L L':Nat->Bool}{s:σ}: ∀{n:Nat},(∀i,i<n->L i=L' i)->dC E L s n=dC E L' s n
 |0,_=>rfl
 |n+1,h=>by simp only[dC];rw[h n (by omega),cE fun i hi=>h i (by omega)]
theorem aEx {L:Nat->Bool}{s:σ}{j:Nat}(hj:L j=false): ∀{n:Nat},j<n->(∀k,j<k->k<n->L k=true-> ∀s,E k (E j s)=E j (E k s))->
  dC E (fun k=>k==j||L k) s n=E j (dC E L s n)
 |0,h,_=>by omega
 |n+1,h,hc=>by
  by_cases hn:j=n
  ·subst hn;simp only[dC,BEq.rfl,Bool.true_or,if_true,hj,bOa,if_false];rw[cE (L':=L) fun i hi=>by
    have:(i==j)=false:=by simp;omega
    simp[this]]
  ·have hlt:j<n:=by omega
   have hne:(n==j)=false:=by simp;omega
   simp only[dC,hne,bO6];rw[aEx hj hlt fun k h1 h2=>hc k h1 (by omega)]
   split
   ·rename_i hL;exact hc n hlt (by omega) hL _
   ·rfl
theorem sY {L:Nat->Bool}{s:σ}{n:Nat}(Eq:σ->σ->Prop)(hrefl: ∀s,Eq s s)(htrans: ∀a b c,Eq a b->Eq b c->Eq a c)(keep:Nat->Bool):
  ∀m,m<=n->(∀j,j<m->L j=true->keep j=false->(∀s,Eq (E j s) s)/\ ∀k,j<k->k<n->L k=true->keep k=true-> ∀s,E k (E j s)=E j (E k s))->
   Eq (dC E (fun k=>L k&&(keep k||k<m)) s n) (dC E (fun k=>L k&&keep k) s n)
 |0,_,_=>by
  rw[cE (L':=fun k=>L k&&keep k) fun i hi=>by simp]
  exact hrefl _
 |m+1,hm,h=>by
  refine htrans _ _ _ ?_ (sY Eq hrefl htrans keep m (by omega) fun j hj=>h j (by omega))
  by_cases hc:L m=true/\ keep m=false
  ·obtain⟨h1,h2⟩:=h m (by omega) hc.1 hc.2
   rw[cE (L':=fun k=>k==m||(L k&&(keep k||k<m))) fun i hi=>by
    by_cases him:i=m
    ·subst him;simp[hc.1]
    ·have e1:(i==m)=false:=by simp[him]
     have e2:decide (i<m+1)=decide (i<m):=by
      by_cases h:i<m
      ·simp[h];omega
      ·simp[h];omega
     simp[e1,e2]]
   rw[aEx (by simp[hc.2]) (by omega) fun k h3 h4 h5 s=>by
    simp only[bN8,bPe,bRt]at h5;rcases h5.2 with h6|h6
    ·exact h2 k h3 h4 h5.1 h6 s
    ·omega]
   exact h1 _
  ·rw[cE (L':=fun k=>L k&&(keep k||k<m)) fun i hi=>by
    by_cases him:i=m
    ·subst him;cases hL:L i with
     |false=>simp
     |true=>cases hk:keep i with
      |false=>exact absurd ⟨hL,hk⟩ hc
      |true=>simp
    ·have e2:decide (i<m+1)=decide (i<m):=by
      by_cases h:i<m
      ·simp[h];omega
      ·simp[h];omega
     simp[e2]]
   exact hrefl _
end
def eD (o:aM)(r:Res)(st:St):St:=
 {fr:=gH st.fr o.dst r.v,en:=match r.mem with|some p=>fun k=>if r.unch k=true then st.en k else p.1 k|none=>W.applyAll st.en r.ws,cnt:=match r.mem with|some p=>p.2|none=>if r.bump then aC st.cnt (o.op.me 0) (o.dst.getD 0) (st.cnt (o.op.me 0) (o.dst.getD 0)+1)else st.cnt}
def Res.quiet (r:Res):Prop:=r.ws=[]/\ r.bump=false/\ r.mem=none
variable {st st':St}{io:Inl}
theorem qP {o:aM}(h:step n call io 0 st o=some (st',r)):
  st'=eD o r st/\ (r.bump=true->o.dst.isSome=true)/\ (o.op.writesMem=false->r.quiet)/\ (o.op.readsMem=false->r.rs=[]):=by
 simp only[step]at h
 split at h
 ·simp only[bN7,bOb]at h;obtain⟨rfl,rfl⟩:=h;exact⟨rfl,by simp,fun _=>⟨rfl,rfl,rfl⟩,fun _=>rfl⟩
 ·split at h
  ·rename_i f args hop
   split at h
   case h_2=>cases h
   rename_i v st1 hc;simp only[bN7,bOb]at h;obtain⟨rfl,rfl⟩:=h
   refine⟨?_,by simp,fun hw=>by rw[hop]at hw;simp[LOp.writesMem]at hw,fun _=>rfl⟩
   simp only[eD]
   congr 1
   funext k
   split
   ·rename_i hk;exact(aOp hk).symm
   ·rfl
  ·split at h
   case h_2=>cases h
   rename_i r' hev
   split at h
   ·cases h
   rename_i hb;simp only[bN7,bOb]at h;obtain⟨rfl,rfl⟩:=h
   refine⟨by simp only[eD,aIc hev],fun h=>?_,fun hw=>⟨aM0 hev hw,aO8 hev hw,aIc hev⟩,aO9 hev⟩
   rw[h]at hb;cases ho:o.dst with
   |none=>rw[ho]at hb;simp at hb
   |some d=>rfl
 ·cases h
structure uY (o:aM) (r:Res) (s s':St):Prop where
 fr: ∀t∈o.uses,s.fr t=s'.fr t
 en: ∀ρ∈r.rs,fU s.en s'.en ρ
 cnt:r.bump=true-> ∀d,o.dst=some d->s.cnt (o.op.me 0) d=s'.cnt (o.op.me 0) d
 all:r.mem.isSome=true->s.en=s'.en/\ s.cnt=s'.cnt
theorem uY.refl (o:aM)(r:Res)(s:St):uY o r s s:=⟨fun _ _=>rfl,fun _ _=>fU.refl _ _,fun _ _ _=>rfl,fun _=>⟨rfl,rfl⟩⟩
variable {b:St}
theorem uY.trans {o:aM}{a c:St}(h:uY o r a b)(k:uY o r b c):uY o r a c:=
 ⟨fun t ht=>(h.fr t ht).trans (k.fr t ht),fun ρ hρ=>(h.en ρ hρ).trans (k.en ρ hρ),fun hb d hd=>(h.cnt hb d hd).trans (k.cnt hb d hd),fun hm=>⟨(h.all hm).1.trans (k.all hm).1,(h.all hm).2.trans (k.all hm).2⟩⟩
theorem uY.symm {o:aM}{a:St}(h:uY o r a b):uY o r b a:=
 ⟨fun t ht=>(h.fr t ht).symm,fun ρ hρ=>(h.en ρ hρ).symm,fun hb d hd=>(h.cnt hb d hd).symm,fun hm=>⟨(h.all hm).1.symm,(h.all hm).2.symm⟩⟩
theorem aU6 {st2:St}{o:aM}(h:step n call io 0 st o=some (st',r))(hl:uY o r st st2):step n call io 0 st2 o=some (eD o r st2,r):=by
 have hw:wanted st2.fr o.guard=wanted st.fr o.guard:=by
  cases hg:o.guard with
  |none=>rfl
  |some p=>
   obtain⟨t,b⟩:=p;simp only[wanted];rw[hl.fr t (by simp[aM.uses,hg])]
 have hgt: ∀x∈o.op.opds,St.get st2.fr x=St.get st.fr x:=by
  intro x hx;cases x with
  |t i=>exact(hl.fr i (by simp only[aM.uses,bO2,bPq];exact .inl ⟨_,hx,by simp[Opd.tmp]⟩)).symm
  |c v=>rfl
  |f i=>rfl
  |m tbl i=>simp only[St.get];rw[(hl.fr i (by simp only[aM.uses,bO2,bPq];exact .inl ⟨_,hx,by simp[Opd.tmp]⟩)).symm]
 simp only[step]at h⊢;rw[hw]
 split at h
 ·simp only[bN7,bOb]at h;obtain⟨_,rfl⟩:=h;rfl
 ·split at h
  ·rename_i f args hop
   split at h
   case h_2=>cases h
   rename_i v st1 hc;simp only[bN7,bOb]at h;obtain⟨_,rfl⟩:=h;obtain⟨e1,e2⟩:=hl.all rfl;rw[hgt f (by simp[hop,LOp.opds]),show args.map (St.get st2.fr)=args.map (St.get st.fr)from bQe fun p hp=>hgt p (by simp[hop,LOp.opds,hp]),<-e1,<-e2,hc]
   simp only[eD,<-e1]
   congr 3
   funext k
   split
   ·rename_i hk;exact(aOp hk).symm
   ·rfl
  ·rename_i hni
   split at h
   case h_2=>cases h
   rename_i r' hev
   split at h
   ·cases h
   rename_i hb;simp only[bN7,bOb]at h;obtain⟨_,rfl⟩:=h;have hev2:eval n call (o.op.me 0) (o.dst.getD 0) (st2.cnt (o.op.me 0) (o.dst.getD 0)) st2.en (St.get st2.fr) o.op=some r':=by
    have h1:=aSb hev hgt hl.en;cases hbb:r'.bump with
    |false=>exact bD0 h1 hbb _
    |true=>
     cases hd:o.dst with
     |some d=>rw[hd]at h1;simp only[bOz]at h1⊢;rw[<-hl.cnt hbb d hd];exact h1
     |none=>rw[hd,hbb]at hb;simp at hb
   rw[hev2];simp only[if_neg hb];simp only[eD,aIc hev]
 ·cases h
structure aGy (o o':aM) (r r':Res):Prop where
 dst: ∀d,o.dst=some d->o'.dst≠some d
 use: ∀d,o.dst=some d->d∉o'.uses
 use': ∀d,o'.dst=some d->d∉o.uses
 ww: ∀w∈r.ws,∀w'∈r'.ws,lV w w'=true
 wr: ∀w∈r.ws,∀ρ∈r'.rs,jH w ρ=true
 rw: ∀w∈r'.ws,∀ρ∈r.rs,jH w ρ=true
 m1:r.mem.isSome=true->r'.quiet/\ ∀ρ∈r'.rs,r.unch ρ.key=true
 m2:r'.mem.isSome=true->r.quiet/\ ∀ρ∈r.rs,r'.unch ρ.key=true
variable {u:Val}{fr:Nat->Val}
theorem aSc {d':Nat}(h:d≠d'):jB (jB fr d u) d' v=jB (jB fr d' v) d u:=by
 funext i
 simp only[jB]
 by_cases h1:i=d'
 ·subst h1;rw[if_pos rfl,if_neg fun e:i=d=>h e.symm,if_pos rfl]
 ·rw[if_neg h1,if_neg h1]
theorem aCa {d d':Option Nat}(h: ∀x,d=some x->d'≠some x):gH (gH fr d u) d' v=gH (gH fr d' v) d u:=by
 cases d with
 |none=>rfl
 |some d=>
  cases d' with
  |none=>rfl
  |some d'=>exact aSc fun e=>h d rfl (by rw[e])
theorem oH {d:Option Nat}{t:Nat}(h: ∀x,d=some x->t≠x):gH fr d v t=fr t:=by
 cases d with
 |none=>rfl
 |some d=>simp only[gH,jB];rw[if_neg (h d rfl)]
variable {o':aM}{r':Res}
theorem aGy.comm {o:aM}(h:aGy o o' r r')(hb:r.bump=true->o.dst.isSome=true)(hb':r'.bump=true->o'.dst.isSome=true)(s:St):
  eD o' r' (eD o r s)=eD o r (eD o' r' s):=by
 simp only[eD];cases hm:r.mem with
 |some p=>
  obtain⟨⟨q1,q2,q3⟩,_⟩:=h.m1 (by rw[hm];rfl)
  simp only[q1,q2,q3,W.applyAll,bQl,bOa,if_false];rw[aCa h.dst]
 |none=>
  cases hm':r'.mem with
  |some p=>
   obtain⟨⟨q1,q2,_⟩,_⟩:=h.m2 (by rw[hm'];rfl)
   simp only[q1,q2,W.applyAll,bQl,bOa,if_false];rw[aCa h.dst]
  |none=>
   simp only
   congr 1
   ·exact aCa h.dst
   ·exact aKs _ _ _ h.ww
   ·by_cases hbb:r.bump=true
    ·by_cases hbb':r'.bump=true
     ·obtain⟨d,hd⟩:=bPs.1 (hb hbb);obtain⟨d',hd'⟩:=bPs.1 (hb' hbb');have hne:d≠d':=fun e=>h.dst d hd (by rw[hd',e])
      simp only[hbb,hbb',if_true,hd,hd',bOz]
      funext n t
      simp only[aC]
      by_cases h1:n=o'.op.me 0/\ t=d'
      ·obtain⟨rfl,rfl⟩:=h1;have h3: ¬t=d:=fun e=>hne e.symm
       simp[h3]
      ·by_cases h2:n=o.op.me 0/\ t=d
       ·obtain⟨rfl,rfl⟩:=h2;simp[hne]
       ·simp[h1,h2]
     ·simp[hbb']
    ·simp[hbb]
theorem aPa (h:en ρ.key=en' ρ.key):fU en en' ρ:=by
 cases ρ<;>simp only[fU,R.key]at h⊢ <;>rw[h]
theorem aPb {o:aM}(hd: ∀d,o.dst=some d->o'.dst≠some d)(hu: ∀d,o.dst=some d->d∉o'.uses)(hwr: ∀w∈r.ws,∀ρ∈r'.rs,jH w ρ=true)
  (h1:r.mem.isSome=true->r'.quiet/\ ∀ρ∈r'.rs,r.unch ρ.key=true) (h2:r'.mem.isSome=true->r.quiet/\ ∀ρ∈r.rs,r'.unch ρ.key=true) (hb:r.bump=true->o.dst.isSome=true) (s:St):uY o' r' (eD o r s) s:=by
 refine⟨fun t ht=>?_,fun ρ hρ=>?_,fun hbump d hd'=>?_,fun hm=>?_⟩
 ·exact oH fun x hx e=>hu x hx (e▸ht)
 ·simp only[eD];cases hm:r.mem with
  |some p=>have hu:=(h1 (by rw[hm];rfl)).2 ρ hρ;exact aPa (by simp only[hu,if_true])
  |none=>exact aKt _ _ _ fun w hw=>hwr w hw ρ hρ
 ·simp only[eD];cases hm:r.mem with
  |some p=>have:=(h1 (by rw[hm];rfl)).1.2.1;rw[hbump]at this;cases this
  |none=>
   simp only
   split
   ·rename_i hbb;obtain⟨d0,hd0⟩:=bPs.1 (hb hbb);simp only[hd0,bOz,aC];rw[if_neg]
    rintro⟨_,rfl⟩
    exact hd _ hd0 hd'
   ·rfl
 ·obtain⟨⟨q1,q2,q3⟩,_⟩:=h2 hm;simp only[eD,q1,q2,q3,W.applyAll,bQl,bOa,if_false,and_self]
theorem aGy.like {o:aM}(h:aGy o o' r r')(hb:r.bump=true->o.dst.isSome=true)(s:St):uY o' r' (eD o r s) s:=
 aPb h.dst h.use h.wr h.m1 h.m2 hb s
theorem aGy.like' {o:aM}(h:aGy o o' r r')(hb:r'.bump=true->o'.dst.isSome=true)(s:St):uY o r (eD o' r' s) s:=
 aPb (fun d hd hd'=>h.dst d hd' hd) h.use' h.rw h.m2 h.m1 hb s
structure Run (n:Nat) (call:bC) (io:Inl) (l:Nat->aM) (r:Nat->Res) (N:Nat) (st:St) (s:Nat->St):Prop where
 zero:s 0=st
 step: ∀i,i<N->step n call io 0 (s i) (l i)=some (s (i+1),r i)
variable {N:Nat}{l:Nat->aM}{s:Nat->St}
theorem Run.fold {r:Nat->Res}(h:Run n call io l r N st s):
  ∀i,i<=N->s i=dC (fun k=>eD (l k) (r k)) (fun _=>true) st i
 |0,_=>h.zero
 |i+1,hi=>by
  simp only[dC,if_true];rw[<-h.fold i (by omega)]
  exact(qP (h.step i (by omega))).1
theorem aId {σ:Type}{E:Nat->σ->σ}{s:σ}{i:Nat}: ∀{N:Nat},i<=N->dC E (fun k=>decide (k<i)) s N=dC E (fun _=>true) s i
 |0,h=>by
  have:i=0:=by omega
  subst this;rfl
 |N+1,h=>by
  by_cases hi:i=N+1
  ·subst hi;exact cE fun k hk=>by simp[hk]
  ·simp only[dC];rw[if_neg (by simp;omega),aId (by omega)]
theorem aAz {r:Nat->Res}(h:Run n call io l r N st s){ord:Nat->Nat->Prop}(hord: ∀i j,ord i j->i<j)
  (hfree: ∀i j,i<j->j<N-> ¬ord i j->aGy (l i) (l j) (r i) (r j)) {L:Nat->Bool} (hcl: ∀j,j<N->L j=true-> ∀i,ord i j->L i=true) {i:Nat} (hi:i<N) (hL:L i=false) (hr: ∀k,ord k i->L k=true):
  step n call io 0 (dC (fun k=>eD (l k) (r k)) L st N) (l i)=some (dC (fun k=>eD (l k) (r k)) (fun k=>k==i||L k) st N,r i):=by
 have hb: ∀k,k<N->(r k).bump=true->(l k).dst.isSome=true:=fun k hk=>(qP (h.step k hk)).2.1
 have comm: ∀j k,j<k->k<N-> ¬ord j k-> ∀s,eD (l k) (r k) (eD (l j) (r j) s)=eD (l j) (r j) (eD (l k) (r k) s):=
  fun j k hjk hk ho s=>(hfree j k hjk hk ho).comm (hb j (by omega)) (hb k hk) s
 have a:uY (l i) (r i) (s i) (dC (fun k=>eD (l k) (r k)) (fun k=>decide (k<i)&&L k) st N):=by
  have h1:=sY (E:=fun k=>eD (l k) (r k)) (L:=fun k=>decide (k<i)) (s:=st) (n:=N) (uY (l i) (r i)) (uY.refl _ _) (fun _ _ _=>uY.trans) L N (bN9 _) (fun j hj h1 h2=>by
   simp only[bRt]at h1;have ho: ¬ord j i:=fun ho=>by rw[hr j ho]at h2;cases h2
   refine⟨(hfree j i h1 hi ho).like (hb j hj),fun k hjk hk h3 h4=>comm j k hjk hk fun ho=>?_⟩
   rw[hcl k hk h4 j ho]at h2;cases h2)
  rw[cE (L':=fun k=>decide (k<i)) fun k hk=>by simp[hk],aId (by omega),<-h.fold i (by omega)]at h1
  exact h1
 have b:uY (l i) (r i) (dC (fun k=>eD (l k) (r k)) L st N) (dC (fun k=>eD (l k) (r k)) (fun k=>decide (k<i)&&L k) st N):=by
  have h1:=sY (E:=fun k=>eD (l k) (r k)) (L:=L) (s:=st) (n:=N) (uY (l i) (r i)) (uY.refl _ _) (fun _ _ _=>uY.trans) (fun k=>decide (k<i)) N (bN9 _) (fun j hj h1 h2=>by
   simp only[bRu]at h2;have hne:j≠i:=by rintro rfl;rw[hL]at h1;cases h1
   have hij:i<j:=by omega
   have ho: ¬ord i j:=fun ho=>by rw[hcl j hj h1 i ho]at hL;cases hL
   refine⟨(hfree i j hij hj ho).like' (hb j hj),fun k hjk hk h3 h4=>?_⟩
   simp only[bRt]at h4;omega)
  rw[cE (L':=L) fun k hk=>by simp[hk],cE (L':=fun k=>decide (k<i)&&L k) (fun k hk=>Bool.and_comm _ _)]at h1
  exact h1
 rw[aU6 (h.step i hi) (a.trans b.symm)]
 congr 2
 refine(aEx hL hi fun k hik hk hLk s=>comm i k hik hk (fun ho=>?_) s).symm
 rw[hcl k hk hLk i ho]at hL;cases hL
end Go.Abs
namespace Go.Abs
open Go.RowKit (Below)
variable [Inhabited lD]
def bZ :Res:={v:= .tup []}
theorem sZ {n:Nat}{call:bC}{io:Inl}: ∀{l:List aM} {st stn:St} {rs:List Res},iL n call io 0 l st=some (stn,rs)->
  rs.length=l.length/\ ∃s,Run n call io (fun i=>l.getD i default) (fun i=>rs.getD i bZ) l.length st s/\ s l.length=stn
 |[],st,stn,rs,h=>by
  simp only[iL,bN7,bOb]at h;obtain⟨rfl,rfl⟩:=h;exact⟨rfl,fun _=>st,⟨rfl,fun i hi=>by simp at hi⟩,rfl⟩
 |o::l,st,stn,rs,h=>by
  simp only[iL]at h
  split at h
  case h_2=>cases h
  rename_i st' r hs
  split at h
  case h_2=>cases h
  rename_i st'' rs' hr;simp only[bN7,bOb]at h;obtain⟨rfl,rfl⟩:=h;obtain⟨hl,s,⟨h0,h1⟩,h2⟩:=sZ hr
  refine⟨by simp[hl],fun i=>match i with|0=>st|i+1=>s i,⟨rfl,fun i hi=>?_⟩,h2⟩
  match i with
  |0=>simpa[h0]using hs
  |i+1=>simpa using h1 i (by simpa using hi)
def kV (o:Oper):List Nat:=(o.after.toList.filter (Region.binds .any)).map (·.on)
theorem aF2 : ∀{l:List Oper} {acc an:List (List Nat)},aHt l acc=some an->(∀k,k<acc.length->an.getD k []=acc.getD k [])/\
  ∀m (h:m<l.length),(∀k∈kV l[m],k<acc.length+m)/\ ∀i∈an.getD (acc.length+m) [],∃k∈kV l[m],i=k \/i∈an.getD k []
 |[],acc,an,h=>by
  simp only[aHt,bN7]at h;subst h;exact⟨fun _ _=>rfl,fun m hm=>by simp at hm⟩
 |o::l,acc,an,h=>by
  simp only[aHt]at h
  split at h
  case isFalse=>cases h
  rename_i hd;obtain⟨h1,h2⟩:=aF2 h;have hpre: ∀k,k<acc.length->an.getD k []=acc.getD k []:=fun k hk=>by
   rw[h1 k (by simp;omega)];simp[bOd,bRd hk]
  have hdir: ∀k∈kV o,k<acc.length:=fun k hk=>by simpa using bOe.1 hd k hk
  refine⟨hpre,fun m hm=>?_⟩
  match m with
  |0=>
   refine⟨fun k hk=>by simpa using hdir k hk,fun i hi=>?_⟩
   rw[bPo,h1 acc.length (by simp)]at hi
   simp only[bOd,List.getElem?_append_right (bN9 _),Nat.sub_self,bQn,bOz,List.mem_eraseDups,bO2,bPq]at hi;rcases hi with hi|⟨k,hk,hi⟩
   ·exact⟨i,hi,.inl rfl⟩
   ·exact⟨k,hk,.inr (by rw[hpre k (hdir k hk),bOd];exact hi)⟩
  |m+1=>
   have:=h2 m (by simpa using hm)
   simp only[bOr,bOh,bOo]at this;rw[show acc.length+(0+1)+m=acc.length+(m+1)by omega]at this
   simpa using this
variable {ops:Array Oper}{an:List (List Nat)}{j:Nat}
theorem sF (h:aOt ops=some an){o:Oper}(ho:ops[j]?=some o):
  (∀k∈kV o,k<j)/\ ∀i∈an.getD j [],∃k∈kV o,i=k \/i∈an.getD k []:=by
 obtain⟨hj,ho'⟩:=bPv.1 ho;have:=(aF2 h).2 j (by simpa using hj)
 simpa[ho']using this
theorem aHd (h:aOt ops=some an): ∀j i,j<ops.size->i∈an.getD j []->i<j:=by
 intro j
 induction j using Nat.strongRecOn with
 |ind j ih=>
  intro i hj hi;obtain⟨h1,h2⟩:=sF h (bOv hj);obtain⟨k,hk,h3⟩:=h2 i hi;have:=h1 k hk;rcases h3 with rfl|h3
  ·exact this
  ·have:=ih k this i (by omega) h3;omega
def xH (ops:Array Oper)(L:Nat->Bool):Prop:= ∀j o,ops[j]?=some o->L j=true-> ∀k∈kV o,L k=true
theorem fV (h:aOt ops=some an){L:Nat->Bool}(hc:xH ops L): ∀j o,ops[j]?=some o->(∀k∈kV o,L k=true)-> ∀i∈an.getD j [],L i=true:=by
 intro j
 induction j using Nat.strongRecOn with
 |ind j ih=>
  intro o ho hd i hi;obtain⟨h1,h2⟩:=sF h ho;obtain⟨k,hk,h3⟩:=h2 i hi;have hkj:=h1 k hk;have hj:=(bPv.1 ho).1;rcases h3 with rfl|h3
  ·exact hd _ hk
  ·have hok:=bOv (xs:=ops) (i:=k) (by omega)
   exact ih k hkj _ hok (hc k _ hok (hd k hk)) i h3
variable {i:Nat}{l:List aM}{rs:List Res}{ps:List (Nat×Nat)}
theorem aHe (hp:fI an l=some ps)(hok:dG rs ps=true)
  (hw: ∀i,i<l.length->((l.getD i default).op.writesMem=false->(rs.getD i bZ).quiet)/\ ((l.getD i default).op.readsMem=false->(rs.getD i bZ).rs=[]))
  (hlt: ∀j i,j<l.length->i∈an.getD j []->i<j)  (hij:i<j) (hj:j<l.length) (ho: ¬i∈an.getD j []):
  aGy (l.getD i default) (l.getD j default) (rs.getD i bZ) (rs.getD j bZ):=by
 have ho': ¬j∈an.getD i []:=fun h=>by have:=hlt i j (by omega) h;omega
 simp only[fI]at hp
 split at hp
 case isFalse=>cases hp
 rename_i hall;simp only[bN7]at hp;have hst: ∀a b,a<l.length->b<l.length->a≠b-> ¬a∈an.getD b []-> ¬b∈an.getD a []-> ∀d,(l.getD a default).dst=some d->(l.getD b default).dst≠some d/\ d∉(l.getD b default).uses:=by
  intro a b ha hb hab h1 h2 d hd;have:=bOe.1 (bOe.1 hall b (bO7.2 hb)) a (bO7.2 ha);simp only[bPe,beq_iff_eq,hab,false_or,hd]at this;simp only[bN8,bne_iff_ne,ne_eq,bPe,bPg,bPx,bRt,bRu]at this;exact⟨this.1,this.2.resolve_right fun h=>h.elim h1 h2⟩
 have hmem:(((l.getD i default).op.writesMem&&((l.getD j default).op.readsMem||(l.getD j default).op.writesMem))||((l.getD j default).op.writesMem&&(l.getD i default).op.readsMem))=true->(i,j)∈ps:=by
  intro hc;rw[<-hp];simp only[bPq,bO7,bO5,bPy,bN8,bPg]
  refine⟨j,hj,i,⟨hij,?_,hc⟩,rfl⟩
  simp only[bPx,Bool.or_eq_false_iff,bRu];exact⟨ho,ho'⟩
 have heff:(∀w∈(rs.getD i bZ).ws,∀w'∈(rs.getD j bZ).ws,lV w w'=true)/\ (∀w∈(rs.getD i bZ).ws,∀ρ∈(rs.getD j bZ).rs,jH w ρ=true)/\
   (∀w∈(rs.getD j bZ).ws,∀ρ∈(rs.getD i bZ).rs,jH w ρ=true)/\ ((rs.getD i bZ).mem.isSome=true->(rs.getD j bZ).quiet/\ ∀ρ∈(rs.getD j bZ).rs,(rs.getD i bZ).unch ρ.key=true)/\
   ((rs.getD j bZ).mem.isSome=true->(rs.getD i bZ).quiet/\ ∀ρ∈(rs.getD i bZ).rs,(rs.getD j bZ).unch ρ.key=true):=by
  by_cases hc:(((l.getD i default).op.writesMem&&((l.getD j default).op.readsMem||(l.getD j default).op.writesMem))||((l.getD j default).op.writesMem&&(l.getD i default).op.readsMem))=true
  ·have:=bOe.1 hok _ (hmem hc)
   simp only at this
   split at this
   case h_2=>cases this
   rename_i a b ha hb;simp only[bOd,ha,hb,bOz];simp only[aCv]at this
   split at this
   ·rename_i h1;simp only[bN8,Res.still,bQ6,bPg,bOe,bQ7]at this;obtain⟨⟨e0,⟨q1,q2⟩,q3⟩,q4⟩:=this;rw[e0,q1];exact⟨fun w h=>(by simp at h),fun w h=>(by simp at h),fun w h=>(by simp at h),fun _=>⟨⟨q1,q2,q3⟩,q4⟩,fun h=>(by rw[q3]at h;cases h)⟩
   ·rename_i h1
    split at this
    ·rename_i h2;simp only[bN8,Res.still,bQ6,bPg,bOe,bQ7]at this;obtain⟨⟨e0,⟨q1,q2⟩,q3⟩,q4⟩:=this;rw[e0,q1];exact⟨fun w h=>(by simp at h),fun w h=>(by simp at h),fun w h=>(by simp at h),fun h=>absurd h h1,fun _=>⟨⟨q1,q2,q3⟩,q4⟩⟩
    ·rename_i h2;simp only[bN8,bOe]at this;obtain⟨t1,t2⟩:=this;exact⟨fun w h w' h'=>(t1 w h).2 w' h',fun w h ρ h'=>(t1 w h).1 ρ h',fun w h ρ h'=>t2 w h ρ h',fun h=>absurd h h1,fun h=>absurd h h2⟩
  ·have hi:=hw i (by omega)
   have hj:=hw j hj;cases h1:(l.getD i default).op.writesMem with
   |false=>
    have q:=hi.1 h1;have e1:=q.1;have e3:=q.2.2;rw[e1,e3]
    refine⟨fun w h=>by simp at h,fun w h=>by simp at h,?_,fun h=>(by cases h),fun h=>⟨q,?_⟩⟩
    ·cases h2:(l.getD j default).op.writesMem with
     |false=>rw[(hj.1 h2).1];intro w h;simp at h
     |true=>
      have:(l.getD i default).op.readsMem=false:=by simp only[h1,h2,bOx,bO3,bO6]at hc;simpa using hc
      rw[hi.2 this];intro w _ ρ h;simp at h
    ·cases h2:(l.getD j default).op.writesMem with
     |false=>rw[(hj.1 h2).2.2]at h;cases h
     |true=>
      have:(l.getD i default).op.readsMem=false:=by simp only[h1,h2,bOx,bO3,bO6]at hc;simpa using hc
      exact fun ρ hρ=>(by rw[hi.2 this]at hρ;simp at hρ)
   |true=>
    simp only[h1,bO3,bPe,not_or,bN8]at hc;obtain⟨⟨h2,h3⟩,h4⟩:=hc;have q:=hj.1 (by simpa using h3)
    have e1:=q.1;have e3:=q.2.2;have e2:=hj.2 (by simpa using h2)
    rw[e1,e2,e3];exact⟨fun w _ w' h=>by simp at h,fun w _ ρ h=>by simp at h,fun w h=>by simp at h,fun _=>⟨q,fun ρ hρ=>(by simp at hρ)⟩,fun h=>(by cases h)⟩
 obtain⟨f1,f2,f3,f4,f5⟩:=heff;exact⟨fun d hd=>(hst i j (by omega) hj (by omega) ho ho' d hd).1,fun d hd=>(hst i j (by omega) hj (by omega) ho ho' d hd).2,fun d hd=>(hst j i hj (by omega) (by omega) ho' ho d hd).2,f1,f2,f3,f4,f5⟩
theorem tA (f g:Nat->Bool)(i:Nat)(hf:f i=true)(hg:g i=false)(h: ∀k,k≠i->g k=f k): ∀N,i<N->(List.range N).countP g+1=(List.range N).countP f
 |0,h=>by omega
 |N+1,hi=>by
  simp only[List.range_succ,List.countP_append,List.countP_singleton]
  by_cases hn:i=N
  ·subst hn;have:(List.range i).countP g=(List.range i).countP f:=List.countP_congr fun k hk=>by
    have:=bO7.1 hk;rw[h k (by omega)]
   simp[this,hf,hg]
  ·have:=tA f g i hf hg h N (by omega)
   rw[h N (by omega)]
   omega
variable {Q:Exit->Act->World->Prop}{stn st:St}{I:Operand->Bool}{n m N B:Nat}{ro:Option Nat}{S:Nat->Nat->Prop}{P:Program}{Ξ:Env}{call:bC}{io:Inl}
section
theorem aU7 (hcall:kU P call)(hio:vY P io)(hl:cM (eR P I ops) ops.toList=some l)(hd:l.all (fun o=>o.dst.all (· <N))=true):
  ∀(k i:Nat) (st st':St) (G:Gh) (a:Act) (w:World),i+k=ops.size->Rel P Ξ B S G st N a w->fR n call io 0 (l.drop i) st=some st'->
   (∀a' w' G',Rel P Ξ B S G' st' N a' w'->Below B w w'->Q .normal a' w')->wpOpsIn (Fx ro) m P ops Q (List.range' i k) a w:=by
 obtain⟨l1,l2⟩:=eE hl;intro k
 induction k with
 |zero=>
  intro i st st' G a w hik hR hrun hQ;have:l.drop i=[]:=bRf.2 (by rw[l1];simp;omega)
  rw[this]at hrun;simp only[fR,bN7]at hrun;subst hrun;exact hQ a w G hR (Below.refl _ _)
 |succ k ih=>
  intro i st st' G a w hik hR hrun hQ;have hi:i<ops.size:=by omega
  have hil:i<l.length:=by rw[l1];simpa using hi
  rw[bO9 hil]at hrun;simp only[fR]at hrun
  split at hrun
  case h_2=>cases hrun
  rename_i st1 r hs;rw[bQ5,wpOpsIn_cons];unfold wpOpIn;rw[bOv hi];have hlow:=l2 i (by simpa using hi) hil
  simp only[bQ0]at hlow;exact nY hcall hio hR hlow (bOe.1 hd _ (bOg hil)) hs fun a' w' G' h1 h2=>
   ih (i+1) st1 st' G' a' w' (by omega) h1 hrun fun a'' w'' G'' h3 h4=>hQ a'' w'' G'' h3 (h2.trans h4)
theorem aU8 (hcall:kU P call)(hio:vY P io)(hl:cM (eR P I ops) ops.toList=some l)(hd:l.all (fun o=>o.dst.all (· <N))=true)(han:aOt ops=some an)
   (hps:fI an l=some ps)   (hrun:iL n call io 0 l st=some (stn,rs)) (hok:dG rs ps=true) :
  ∀(fuel:Nat) (listed:Array Bool) (G:Gh) (a:Act) (w:World),listed.size=ops.size->(List.range ops.size).countP (fun i=>!listed.getD i false)<=fuel->xH ops (fun i=>listed.getD i false)->
   Rel P Ξ B S G (dC (fun k=>eD (l.getD k default) (rs.getD k bZ)) (fun i=>listed.getD i false) st ops.size) N a w->(∀a' w' G',Rel P Ξ B S G' stn N a' w'->Below B w w'->Q .normal a' w')->
   wpAnyIn (Fx ro) m P .any ops Q fuel listed a w:=by
 obtain⟨l1,l2⟩:=eE hl;have hN:l.length=ops.size:=by rw[l1];simp
 obtain⟨hrl,s,hrun',hsn⟩:=sZ hrun;rw[hN]at hrun' hsn;have hlt:=aHd han;have hw: ∀i,i<l.length->((l.getD i default).op.writesMem=false->(rs.getD i bZ).quiet)/\ ((l.getD i default).op.readsMem=false->(rs.getD i bZ).rs=[]):=
  fun i hi=>(qP (hrun'.step i (by omega))).2.2
 have hfree: ∀i j,i<j->j<ops.size-> ¬i∈an.getD j []->aGy (l.getD i default) (l.getD j default) (rs.getD i bZ) (rs.getD j bZ):=
  fun i j hij hj ho=>aHe hps hok hw (fun j i hj hi=>hlt j i (by omega) hi) hij (by omega) ho
 have full: ∀(listed:Array Bool),listed.size=ops.size->Region.ready .any ops listed=[]-> ∀i,i<ops.size->listed.getD i false=true:=by
  intro listed hsz hr i
  induction i using Nat.strongRecOn with
  |ind i ih=>
   intro hi;cases hb:listed.getD i false with
   |true=>rfl
   |false=>
    exfalso
    have hm:i∈Region.ready .any ops listed:=by
     rw[mem_ready]
     refine⟨?_,ops[i],bOv hi,fun e he hbd=>?_⟩
     ·rw[bOl,bOv (by omega)]at hb⊢;simpa using hb
     ·have hk:e.on∈kV ops[i]:=bO5.2 ⟨e,bPy.2 ⟨by simpa using he,hbd⟩,rfl⟩
      have:=(sF han (bOv hi)).1 _ hk;exact ih _ this (by omega)
    rw[hr]at hm;simp at hm
 have done: ∀(listed:Array Bool) (G:Gh) (a:Act) (w:World),listed.size=ops.size->Region.ready .any ops listed=[]->
   Rel P Ξ B S G (dC (fun k=>eD (l.getD k default) (rs.getD k bZ)) (fun i=>listed.getD i false) st ops.size) N a w->(∀a' w' G',Rel P Ξ B S G' stn N a' w'->Below B w w'->Q .normal a' w')->Q .normal a w:=by
  intro listed G a w hsz hr hR hQ
  refine hQ a w G ?_ (Below.refl _ _)
  rw[cE (L':=fun _=>true) fun i hi=>full listed hsz hr i hi,<-hrun'.fold _ (bN9 _),hsn]at hR
  exact hR
 intro fuel
 induction fuel with
 |zero=>
  intro listed G a w hsz hc hcl hR hQ;have hr:Region.ready .any ops listed=[]:=by
   cases h:Region.ready .any ops listed with
   |nil=>rfl
   |cons i iT=>
    exfalso
    have hm:i∈Region.ready .any ops listed:=by rw[h];simp
    obtain⟨h0,o,ho,_⟩:=mem_ready.1 hm;have hi:=(bPv.1 ho).1;have hb:listed.getD i false=false:=by
     rw[bOl,bOv (by omega)]at h0⊢;simpa using h0
    have:=bRm (p:=fun i=>!listed.getD i false) (l:=List.range ops.size)|>.2 ⟨i,bO7.2 hi,by simp only[hb];rfl⟩
    omega
  exact⟨hr,done listed G a w hsz hr hR hQ⟩
 |succ fuel ih=>
  intro listed G a w hsz hc hcl hR hQ
  refine⟨fun hr=>done listed G a w hsz hr hR hQ,fun i hm=>?_⟩
  obtain⟨h0,o,ho,hready⟩:=mem_ready.1 hm;have hi:=(bPv.1 ho).1;have hoi:o=ops[i]:=by rw[bOv hi,bN7]at ho;exact ho.symm
  have hb:listed.getD i false=false:=by
   rw[bOl,bOv (by omega)]at h0⊢;simpa using h0
  have hdir: ∀k∈kV o,listed.getD k false=true:=by
   intro k hk;obtain⟨e,he,rfl⟩:=bO5.1 hk;obtain⟨he1,he2⟩:=bPy.1 he;exact hready e (by simpa using he1) he2
  have hst:=aAz hrun' (ord:=fun i j=>j<ops.size/\ i∈an.getD j []) (fun i j h=>hlt j i h.1 h.2) (fun i j hij hj ho=>hfree i j hij hj fun h=>ho ⟨hj,h⟩) (L:=fun i=>listed.getD i false)
   (fun j hj hLj i hord=>fV han hcl j _ (bOv hj) (hcl j _ (bOv hj) hLj) i hord.2) hi hb
   (fun k hk=>fV han hcl i o ho hdir k hk.2)
  have hset: ∀k,(listed.setIfInBounds i true).getD k false=(k==i||listed.getD k false):=by
   intro k
   by_cases hk:k=i
   ·subst hk;simp[show k<listed.size by omega]
   ·rw[getD_set_ne false fun e=>hk e.symm]
    have:(k==i)=false:=by simpa using hk
    rw[this,bO6]
  have hil:i<l.length:=by omega
  have hlow:=l2 i (by simpa using hi) hil
  simp only[bQ0]at hlow;have hli:l.getD i default=l[i]:=by simp[bOd,hil]
  rw[hli]at hst;unfold wpOpIn;rw[bOv hi]
  refine nY hcall hio hR hlow (bOe.1 hd _ (bOg hil)) hst fun a' w' G' h1 h2=>?_
  refine ih _ G' a' w' (by simpa using hsz) ?_ ?_ ?_ fun a'' w'' G'' h3 h4=>hQ a'' w'' G'' h3 (h2.trans h4)
  ·have:=tA (fun i=>!listed.getD i false) (fun k=>!(listed.setIfInBounds i true).getD k false) i (by simp only[hb];rfl) (by simp only[hset];simp) (fun k hk=>by
    simp only[hset];have:(k==i)=false:=by simpa using hk
    rw[this,bO6]) ops.size hi
   omega
  ·intro j oj hoj hLj k hk;simp only[hset]at hLj⊢
   by_cases hj:j=i
   ·subst hj;rw[ho,bN7]at hoj;subst hoj;rw[hdir k hk,bP3]
   ·have:(j==i)=false:=by simpa using hj
    rw[this,bO6]at hLj;have h5:listed.getD k false=true:=hcl j oj hoj hLj k hk;rw[h5,bP3]
  ·rw[cE (L':=fun k=>k==i||listed.getD k false) fun k _=>hset k]
   exact h1
end
def FV (v:Val)(x:Value):Prop:= ∀(T:Nat->Nat->Prop) (G:Gh) (w:World),VR T G w v x
def xI (x:Value):List PanicEntry:=[{v:=x,recovered:=false}]
def aPc (P:Program)(pan:bC):Prop:= ∀f args v,pan f args=some v→(∃fn,P.funcs[f]?=some fn∧(fn.name== "runtime.NumGoroutine")=false∧fn.body.isNone=false)∧
 ∀(S:Nat->Nat->Prop) (w:World) (vals:Array Value),(∀b o,S b o->b<w.heap.size)->sR S w->vals.size=args.length->(∀i,i<args.length->VR S Gh.none w (args.getD i .dead) (vals.getD i undef))->
  Calls P f vals w fun e w'=> ∃x,e= .panicked (xI x)/\ Below w.heap.size w w'/\ FV v x
def bAq (P:Program)(Ξ:Env)(B:Nat)(S:Nat->Nat->Prop)(st st':St)(N:Nat)(a:Act)(w:World)(v:Val)(e:Ending)(w':World):Prop:=
 ∃x G',e= .panicked (xI x)/\ FV v x/\ Rel P Ξ B S G' {fr:=st.fr,en:=st'.en,cnt:=st'.cnt} N a w'/\ Below B w w'
def aPd (P:Program)(pin:Nat→List Val→St→Option (Val×St)):Prop:= ∀f args v (st0 st':St),pin f args st0=some (v,st')→(∃fn,P.funcs[f]?=some fn∧(fn.name== "runtime.NumGoroutine")=false∧fn.body.isNone=false)∧
  ∀(Ξ:Env) (B:Nat) (S:Nat->Nat->Prop) (G:Gh) (st:St) (N:Nat) (a:Act) (w:World) (vals:Array Value),Rel P Ξ B S G st N a w->st0.en=st.en->st0.cnt=st.cnt->vals.size=args.length->
   (∀i,i<args.length->VR (aW B S G w.heap.size) G w (args.getD i .dead) (vals.getD i undef))->Calls P f vals w (bAq P Ξ B S st st' N a w v)
variable {op:Op}{ys:List Opd}{f:Nat}{v:Val}{pan:bC}{lo:aM}{st':St}{next:Act->World->Prop}{pin:Nat->List Val->St->Option (Val×St)}{G:Gh}{a:Act}{w:World}
section
variable {o:Oper}
theorem aPe {y:Opd}(h:dF P I op=some (.panic y)): ∃x,op= .panic x/\ aO x=some y:=by
 cases op
 case panic x=>
  simp only[dF]at h;obtain⟨z,h1,h2⟩:=bOj.1 h;simp only[LOp.panic.injEq]at h2;exact⟨x,rfl,h2▸h1⟩
 case binOp op t x y ty=>
  exfalso
  simp only[dF,bOu,bOi]at h;obtain⟨e,_,h⟩:=h
  split at h
  ·split at h
   ·simp[bOi]at h
   ·cases h
  ·split at h<;>simp[bOi]at h
 all_goals (exfalso;simp only[dF]at h;(repeat' split at h)<;>first|contradiction|(simp[bOi,bOj]at h;done)|(have:=kE h;simp at this))
theorem aSd {f:Opd}(h:dF P I op=some (.call f ys)): ∃c,op= .call c/\ iW c.args.toList=some ys/\
  ((∃F,c.callee= .value F/\ aO F=some f) \/ ∃t name,c.callee= .invoke (.tmp t) name/\ f= .m (aAs P name) t):=by
 cases op
 case call c=>
  simp only[dF]at h
  split at h
  ·rename_i F hc
   split at h
   ·simp[bOi]at h
   ·simp only[bOu,bOi,bOw,bN7,LOp.call.injEq]at h;obtain⟨x',h1,ys',h2,rfl,rfl⟩:=h;exact⟨c,rfl,h2,.inl ⟨F,hc,h1⟩⟩
  ·rename_i t name hc;simp only[bOu,bOi,bOw,bN7,LOp.call.injEq]at h;obtain⟨ys',h2,rfl,rfl⟩:=h;exact⟨c,rfl,h2,.inr ⟨t,name,hc,rfl⟩⟩
  all_goals (repeat' split at h)<;>first|(simp[bOi,bOj]at h;done)|(have:=kE h;simp at this)
 case binOp op t x y ty=>
  exfalso
  simp only[dF,bOu,bOi]at h;obtain⟨e,_,h⟩:=h
  split at h
  ·split at h
   ·simp[bOi]at h
   ·cases h
  ·split at h<;>simp[bOi]at h
 all_goals (exfalso;simp only[dF]at h;(repeat' split at h)<;>first|contradiction|(simp[bOi,bOj]at h;done)|(have:=kE h;simp at this))
theorem aF3 (hR:Rel P Ξ B S G st N a w){c:Call}{F:Operand}{x:Opd}{A Z:List Val}(ho:o.op= .call c)(hc:c.callee= .value F)(h1:aO F=some x)(h2:iW c.args.toList=some ys)
  (hf:St.get st.fr x= .fn f A Z) (hfn: ∃fn,P.funcs[f]?=some fn∧(fn.name== "runtime.NumGoroutine")=false∧fn.body.isNone=false):
  ∃Y:Array Value,(execOp a.eval o).run P w= .ok (.enter f Y) w/\ Y.size=(A++ys.map (St.get st.fr)++Z).length/\
   ∀i,i<(A++ys.map (St.get st.fr)++Z).length->VR (aW B S G w.heap.size) G w ((A++ys.map (St.get st.fr)++Z).getD i .dead) (Y.getD i undef):=by
 obtain⟨fn,hfn,hnm,hbody⟩:=hfn;have hF:=aT hR h1;rw[hf]at hF;obtain⟨ly,vy⟩:=nX hR h2;generalize hgF:a.eval F=uF at hF;cases hF with
 |fn _ _ _ p q hp hq hvp hvq=>
 refine⟨p++c.args.map a.eval++q,?_,by simp[hp,hq,ly],?_⟩
 ·have hnm': ¬fn.name= "runtime.NumGoroutine" :=by simpa using hnm
  have hbody': ¬fn.body=none:=by intro h;rw[h]at hbody;cases hbody
  simp[execOp,ho,resolve,hc,hgF,Deferred.ofValue,invoke,callFunc,hfn,hnm',hbody']
 ·intro i hi;simp only[bOd,bOl,bQw,bQy,bOr,bQx,Array.size_map,bOc]at hi⊢;have e1:p.size=A.length:=hp;have e2:c.args.size=ys.length:=by simp[ly]
  rw[e1,e2];split
  ·split
   ·rename_i h;have:=hvp i h;simpa[bOd,bOl]using this
   ·have hi':i-A.length<ys.length:=by omega
    have:=vy (i-A.length) hi';have hi2:i-A.length<c.args.size:=by omega
    simpa[bOd,bOl,hi',hi2]using this
  ·have:=hvq (i-(A.length+ys.length)) (by omega);simpa[bOd,bOl]using this
theorem uZ (hpan:aPc P pan)(hpin:aPd P pin)(hR:Rel P Ξ B S G st N a w)
  (hl:eR P I ops o=some lo) (hs:dH n pan pin st lo=some (v,st'))    
  (k: ∀a' w' G' x,FV v x->Rel P Ξ B S G' st' N a' w'->Below B w w'->Q (.panic (xI x)) a' w'):
  Region.wanted o (yielded ops a.tmps)=true/\ o.wpIn (Fx ro) m P a w next Q:=by
 simp only[eR,bOu,bOi,bOw,bN7]at hl;obtain⟨lop,hop,g,hg,rfl⟩:=hl;simp only[dH]at hs
 split at hs
 case h_2=>cases hs
 rename_i hw
 refine⟨oW hR hg hw,?_⟩
 split at hs
 ·rename_i y
  split at hs
  case h_2=>cases hs
  rename_i t u hu
  split at hs
  case isFalse=>cases hs
  rename_i hfl;simp only[bN7,bOb]at hs;obtain⟨rfl,rfl⟩:=hs;obtain⟨x,e1,e2⟩:=aPe hop;have hx:=aT hR e2;rw[hu]at hx;generalize hax:a.eval x=z at hx;have hfv:FV (.ifc t u) z:=fun T' G' w'=>aLb hx hfl
  cases hx with
  |ifc _ _ z' hz=>
  have hrun:(execOp a.eval o).run P w= .halt (.panic (.iface t z')) w:=by
   simp[execOp,e1,hax,Instr.panic,goPanic]
  refine⟨fun _ _=>trivial,?_⟩
  rw[Oper.semAt_eq _ _ _ (by simp[e1]),hrun]
  exact k a w G _ hfv hR (Below.refl _ _)
 ·rename_i f args
  split at hs
  case h_2=>cases hs
  rename_i f' A Z hnoM hf
  split at hs
  case h_2=>cases hs
  rename_i rs hsn;obtain⟨v',hv,he⟩:=bOj.1 hs;simp only[bOb]at he;obtain⟨rfl,rfl⟩:=he;obtain⟨hfn,hcalls⟩:=hpan _ _ _ hv;obtain⟨c,e1,e2,e3⟩:=aSd hop;obtain⟨Y,hrun,hYl,hYv⟩: ∃Y:Array Value,(execOp a.eval o).run P w= .ok (.enter f' Y) w/\ Y.size=(A++args.map (St.get st.fr)++Z).length/\
    ∀i,i<(A++args.map (St.get st.fr)++Z).length->VR (aW B S G w.heap.size) G w ((A++args.map (St.get st.fr)++Z).getD i .dead) (Y.getD i undef):=by
   rcases e3 with⟨F,e3,e4⟩|⟨t,name,e3,rfl⟩
   ·exact aF3 hR e1 e3 e4 e2 hf hfn
   ·cases hnoM
  obtain⟨s1,s2⟩:=sS hsn;have hrl:(rs.map (·.1.wk1)).length=(A++args.map (St.get st.fr)++Z).length:=by rw[<-s1];simp
  refine⟨fun _ _=>trivial,?_⟩
  rw[oV hrun (by simp),Oper.uponIn_enter]
  refine⟨fun h=>by simp[Fx,Fence.wide]at h,?_⟩
  refine oG (Calls.mono (hcalls (fun b _=>b<w.heap.size) w Y (fun _ _ h=>h) (hR.glob.mono fun _ _ h=>h.1) (by rw[hrl,hYl]) (fun i hi=>?_)) ?_)
  ·rw[hrl]at hi;obtain⟨ks,q1,_⟩:=s2 i hi;have:=(wZ hR.ents (T':=fun b _=>b<w.heap.size) ⟨fun _ _ h=>h.1,G.le_refl,fun _ _ _ _ h=>h,fun _ _ _ _ h=>h,fun _ _ h=>h,fun _ r h=>⟨r,h⟩⟩ n (hYv i hi) q1 fun k _ e he=>aTx hR he).wk1
   rw[show rs.map (·.1.wk1)=(rs.map (·.1)).map Val.wk1 by simp]
   rw[aC7];exact this
  ·rintro e w' ⟨x,rfl,hb,hv⟩
   exact k a w' G x hv (hR.below hb) ⟨hb.os,hb.tape,hb.output,hb.size,fun k hk=>hb.block k (bOy hk hR.size)⟩
 ·rename_i f args
  split at hs
  case h_2=>cases hs
  rename_i f' A Z hf
  split at hs
  case h_2=>cases hs
  rename_i v' st1 hv;simp only[bN7,bOb]at hs;obtain⟨rfl,rfl⟩:=hs;obtain⟨hfn,hcalls⟩:=hpin _ _ _ _ _ hv;obtain⟨c,F,e1,e2,e3,e4⟩:=aF1 hop;obtain⟨Y,hrun,hYl,hYv⟩:=aF3 hR e1 e2 e3 e4 hf hfn
  refine⟨fun _ _=>trivial,?_⟩
  rw[oV hrun (by simp),Oper.uponIn_enter]
  refine⟨fun h=>by simp[Fx,Fence.wide]at h,?_⟩
  refine oG (Calls.mono (hcalls Ξ B S G st N a w Y hR rfl rfl hYl hYv) ?_)
  rintro e w' ⟨x,G',rfl,hv,hR',hb⟩
  exact k a w' G' x hv hR' hb
 ·cases hs
end
def Ex.val :Ex->Value->Prop
 | .panic v,x=>FV v x
 |_,_=>True
def aEy (P:Program)(Ξ:Env)(B:Nat)(S:Nat->Nat->Prop)(G:Gh)(st:St)(N:Nat)(e:Ex)(a:Act)(w:World):Prop:=
 ∃tm:Array Value,Rel P Ξ B S G st N {a with tmps:=tm} w/\ (e.calm=true->tm=a.tmps)/\ ∀t,(st.fr t).isUndef=false->tm.getD t undef=a.tmps.getD t undef
theorem Rel.e (h:Rel P Ξ B S G st N a w){e:Ex}:aEy P Ξ B S G st N e a w:=⟨a.tmps,h,fun _=>rfl,fun _ _=>rfl⟩
theorem aEy.rel {e:Ex}(h:aEy P Ξ B S G st N e a w)(hc:e.calm=true):Rel P Ξ B S G st N a w:=by
 obtain⟨tm,h1,h2,_⟩:=h;have:=h2 hc;subst this;exact h1
def Ex.toExit (x:Value):Ex->Exit
 | .normal=> .normal
 | .exit id=> .exit id
 | .ret=> .ret
 | .panic _=> .panic (xI x)
section
theorem aSe (hcall:kU P call)(hio:vY P io)(hpan:aPc P pan)(hpin:aPd P pin)(hl:cM (eR P I ops) ops.toList=some l)(hd:l.all (fun o=>o.dst.all (· <N))=true):
  ∀(k i:Nat) (st st':St) (e:Ex) (G:Gh) (a:Act) (w:World),i+k=ops.size->Rel P Ξ B S G st N a w->aCy n call io pan pin (l.drop i) st=some (e,st')->
   (∀a' w' G' x,e.val x->aEy P Ξ B S G' st' N e a' w'->Below B w w'->Q (e.toExit x) a' w')->wpOpsIn (Fx ro) m P ops Q (List.range' i k) a w:=by
 obtain⟨l1,l2⟩:=eE hl;intro k
 induction k with
 |zero=>
  intro i st st' e G a w hik hR hrun hQ;have:l.drop i=[]:=bRf.2 (by rw[l1];simp;omega)
  rw[this]at hrun;simp only[aCy,bN7,bOb]at hrun;obtain⟨rfl,rfl⟩:=hrun;exact hQ a w G undef trivial hR.e (Below.refl _ _)
 |succ k ih=>
  intro i st st' e G a w hik hR hrun hQ;have hi:i<ops.size:=by omega
  have hil:i<l.length:=by rw[l1];simpa using hi
  rw[bO9 hil]at hrun;simp only[aCy]at hrun;rw[bQ5,wpOpsIn_cons];unfold wpOpIn;rw[bOv hi];have hlow:=l2 i (by simpa using hi) hil
  simp only[bQ0]at hlow
  split at hrun
  ·rename_i v st1 hp;simp only[bN7,bOb]at hrun;obtain⟨rfl,rfl⟩:=hrun;obtain⟨q1,q2⟩:=uZ (ro:=ro) (m:=m) (next:=fun a w=>wpOpsIn (Fx ro) m P ops Q (List.range' (i+1) k) a w) (Q:=Q) hpan hpin hR hlow hp fun a' w' G' x h1 h2 h3=>hQ a' w' G' x h1 h2.e h3
   simp only[q1,if_true];exact q2
  ·split at hrun
   case h_2=>cases hrun
   rename_i st1 r hs;exact nY hcall hio hR hlow (bOe.1 hd _ (bOg hil)) hs fun a' w' G' h1 h2=>
    ih (i+1) st1 st' e G' a' w' (by omega) h1 hrun fun a'' w'' G'' x h3 h4 h5=>hQ a'' w'' G'' x h3 h4 (h2.trans h5)
end
theorem rT :(cT an j l).length=l.length:=by simp[cT]
theorem gP (hi:i<l.length):(cT an j l).getD i default=if behind an j i=true then aHr else if yD an j l i=true then aFs (l.getD i default)else l.getD i default:=by
 simp[cT,bOd,hi]
theorem sG (hi:i<l.length)(hb: ¬behind an j i=true):((cT an j l).getD i default).dst=(l.getD i default).dst:=by
 rw[gP hi,if_neg hb];split<;>rfl
variable {d:Nat}
theorem aSf (hi:i<l.length)(hb: ¬behind an j i=true)(h:d∈((cT an j l).getD i default).uses):d∈(l.getD i default).uses:=by
 rw[gP hi,if_neg hb]at h
 split at h
 ·simp[aFs,aM.uses,LOp.opds,Opd.tmp]at h
 ·exact h
theorem aLe (hi:i<l.length)(hb: ¬behind an j i=true):
  (((cT an j l).getD i default).op.writesMem=true->(l.getD i default).op.writesMem=true)/\ (((cT an j l).getD i default).op.readsMem=true->(l.getD i default).op.readsMem=true):=by
 rw[gP hi,if_neg hb];split
 ·exact⟨fun h=>by simp[aFs,LOp.writesMem]at h,fun h=>by simp[aFs,LOp.readsMem]at h⟩
 ·exact⟨id,id⟩
theorem aBm (h:fI an l=some ps): ∃ps',fI an (cT an j l)=some ps'/\ ∀p∈ps',p∈ps:=by
 simp only[fI]at h⊢
 split at h
 case isFalse=>cases h
 rename_i hall;simp only[bN7]at h;rw[rT];have hc:((List.range l.length).all fun k=>(List.range l.length).all fun i=>i==k||
   (match((cT an j l).getD i default).dst with
    |some d=>((cT an j l).getD k default).dst !=some d&&(!((cT an j l).getD k default).uses.contains d||((an.getD k []).contains i||(an.getD i []).contains k))
    |none=>true))=true:=by
  rw[bOe];intro k hk;rw[bOe];intro i hi;have hk':=bO7.1 hk;have hi':=bO7.1 hi;have h0:=bOe.1 (bOe.1 hall k hk) i hi
  by_cases hik:(i==k)=true
  ·rw[hik];rfl
  ·simp only[hik,bO6]at h0⊢
   by_cases hbi:behind an j i=true
   ·rw[gP hi',if_pos hbi];rfl
   ·rw[sG hi' hbi];cases hd:(l.getD i default).dst with
    |none=>rfl
    |some d=>
     rw[hd]at h0
     simp only at h0⊢
     by_cases hbk:behind an j k=true
     ·rw[gP hk',if_pos hbk];have e1:aHr.dst=none:=rfl;have e2:aHr.uses=[]:=rfl;rw[e1,e2];simp
     ·rw[sG hk' hbk];rw[bN8]at h0⊢
      refine⟨h0.1,?_⟩
      have h1:=h0.2;rw[bPe]at h1⊢
      refine h1.imp (fun h2=>?_) id
      simp only[bPg,bPx,bRu]at h2⊢;exact fun h3=>h2 (aSf hk' hbk h3)
 refine⟨_,if_pos hc,fun p hp=>?_⟩
 rw[<-h];simp only[bPq,bO7,bO5,bPy,bN8]at hp⊢;obtain⟨k,hk,i,⟨hik,hord,hcond⟩,rfl⟩:=hp
 refine⟨k,hk,i,⟨hik,hord,?_⟩,rfl⟩
 have e1:aHr.op.writesMem=false:=rfl;have e2:aHr.op.readsMem=false:=rfl
 by_cases hbi:behind an j i=true
 ·rw[gP (i:=i) (by omega),if_pos hbi]at hcond
  simp[e1,e2]at hcond
 ·by_cases hbk:behind an j k=true
  ·rw[gP hk,if_pos hbk]at hcond;simp[e1,e2]at hcond
  ·have mi:=aLe (an:=an) (j:=j) (l:=l) (i:=i) (by omega) hbi
   have mk:=aLe (an:=an) (j:=j) (l:=l) hk hbk;simp only[bPe,bN8]at hcond⊢;exact hcond.imp (fun h=>⟨mi.1 h.1,h.2.imp mk.2 mk.1⟩) (fun h=>⟨mk.1 h.1,mi.2 h.2⟩)
theorem zB {ps':List (Nat×Nat)}(h:dG rs ps=true)(hs: ∀p∈ps',p∈ps):dG rs ps'=true:=by
 simp only[dG,bOe]at h⊢;exact fun p hp=>h p (hs p hp)
variable {st2:St}
theorem rU {s:St}{o:aM}(h:dH n pan pin st o=some (v,st2))(hen:s.en=st.en)(hcnt:s.cnt=st.cnt)(hfr: ∀t∈o.uses,s.fr t=st.fr t):
  dH n pan pin s o=some (v,{fr:=s.fr,en:=st2.en,cnt:=st2.cnt})/\ st2.fr=st.fr:=by
 have hw:wanted s.fr o.guard=wanted st.fr o.guard:=by
  cases hg:o.guard with
  |none=>rfl
  |some p=>
   obtain⟨t,b⟩:=p;simp only[wanted];rw[hfr t (by simp[aM.uses,hg])]
 have hgt: ∀x∈o.op.opds,St.get s.fr x=St.get st.fr x:=by
  intro x hx;cases x with
  |t i=>exact hfr i (by simp only[aM.uses,bO2,bPq];exact .inl ⟨_,hx,by simp[Opd.tmp]⟩)
  |c v=>rfl
  |f i=>rfl
  |m tbl i=>simp only[St.get];rw[hfr i (by simp only[aM.uses,bO2,bPq];exact .inl ⟨_,hx,by simp[Opd.tmp]⟩)]
 simp only[dH]at h⊢;rw[hw]
 split at h
 case h_2=>cases h
 split at h
 ·rename_i x hop;rw[hgt x (by simp[hop,LOp.opds])]
  split at h
  case h_2=>cases h
  split at h
  case isFalse=>cases h
  rename_i hfl;simp only[bN7,bOb]at h;obtain⟨rfl,rfl⟩:=h;rw[if_pos hfl];exact⟨by rw[<-hen,<-hcnt],by first|rfl|trivial⟩
 ·rename_i f args hop;rw[hgt f (by simp[hop,LOp.opds]),show args.map (St.get s.fr)=args.map (St.get st.fr)from bQe fun p hp=>hgt p (by simp[hop,LOp.opds,hp]),hen]
  split at h
  case h_2=>cases h
  split at h
  case h_2=>cases h
  rename_i hs;obtain⟨v',hv,he⟩:=bOj.1 h;simp only[bOb]at he;obtain⟨rfl,rfl⟩:=he;simp only[hs,hv,bO0];exact⟨by rw[<-hen,<-hcnt],by first|rfl|trivial⟩
 ·rename_i f args hop;rw[hgt f (by simp[hop,LOp.opds]),show args.map (St.get s.fr)=args.map (St.get st.fr)from bQe fun p hp=>hgt p (by simp[hop,LOp.opds,hp])]
  split at h
  case h_2=>cases h
  split at h
  case h_2=>cases h
  rename_i hs;simp only[bN7,bOb]at h;obtain⟨rfl,rfl⟩:=h;have e:({s with fr:=fun _=>Val.dead}:St)={st with fr:=fun _=>Val.dead}:=by rw[<-hen,<-hcnt]
  rw[e,hs];exact⟨rfl,rfl⟩
 ·cases h
theorem aA0 {l:List aM}{r:Nat->Res}{L:Nat->Bool}{st:St}{t:Nat}: ∀(k:Nat),(∀i,i<k->(l.getD i default).dst≠some t)->(dC (fun k=>eD (l.getD k default) (r k)) L st k).fr t=st.fr t
 |0,_=>rfl
 |k+1,h=>by
  simp only[dC];split
  ·simp only[eD];rw[oH fun x hx e=>h k (by omega) (by rw[hx,e])]
   exact aA0 k fun i hi=>h i (by omega)
  ·exact aA0 k fun i hi=>h i (by omega)
variable {z:List Val}
theorem aF4 (h:dF P I op=some (.alloc z)): ∃t,op= .alloc t/\ fS P t=some z:=by
 cases op
 case alloc t=>
  simp only[dF,bOu,bOi,bOw,bN7,LOp.alloc.injEq]at h;obtain⟨z',h1,rfl⟩:=h;exact⟨t,rfl,h1⟩
 case binOp op t x y ty=>
  exfalso
  simp only[dF,bOu,bOi]at h;obtain⟨e,_,h⟩:=h
  split at h
  ·split at h
   ·simp[bOi]at h
   ·cases h
  ·split at h<;>simp[bOi]at h
 all_goals (exfalso;simp only[dF]at h;(repeat' split at h)<;>first|contradiction|(simp[bOi,bOj]at h;done)|(have:=kE h;simp at this))
theorem aIe {o:Oper}
  (hR:Rel P Ξ B S G st N a w)     {r:Res} (hl:eR P I ops o=some lo) (hd:lo.dst.all (· <N)=true) (hlo:(lo.guard.isNone&&(match lo.op with| .alloc _=>true|_=>false))=true)
  (hs:step n call io 0 st (aFs lo)=some (st',r))     (k: ∀a' w' G',Rel P Ξ B S G' st' N a' w'->Below B w w'->next a' w'):
  if Region.wanted o (yielded ops a.tmps)=true then o.wpIn (Fx ro) m P a w next Q else(∀f,o.about P w a.eval=some f->(Fx ro).fn f)/\ next (a.put o.dst undef) w:=by
 simp only[eR,bOu,bOi,bOw,bN7]at hl;obtain⟨lop,hop,g,hg,rfl⟩:=hl;simp only[bN8,bQ7]at hlo;obtain⟨rfl,hlo⟩:=hlo;have hex: ∃z,lop= .alloc z:=by cases lop<;>first|exact⟨_,rfl⟩|cases hlo
 obtain⟨z,rfl⟩:=hex;obtain⟨t,ho,hz⟩:=aF4 hop;have hw:wanted st.fr none=some true:=rfl;rw[oW hR hg hw,if_pos rfl];have hst:st'={st with fr:=gH st.fr o.dst .dead}:=by
  simp[step,aFs,wanted,eval,St.get]at hs;exact hs.1.symm
 subst hst;obtain⟨i,v,hi,hz,hs,ho1,hv⟩:=sV (P:=P) (G:=G) (w:=w) (T:=aW B S G w.heap.size) hz
 refine⟨fun _ _=>trivial,?_⟩
 rw[oV (x:= .value (.pointer (some ⟨w.heap.size,0,none⟩))) (w':=w.alloc (.cells v.cells t)) (by simp[execOp,ho,Instr.alloc,fQ hi hz,newVar,newRow]) (by simp)]
 have hR':Rel P Ξ B S G st N a (w.alloc (.cells v.cells t)):=hR.below ((Below.refl _ w).alloc (bN9 _) _);exact k _ _ G (hR'.putO' o.dst (v:= .dead) (.dead _ rfl) hd) (mF hR _)
variable {w0:World}{G0:Gh}{a0:Act}
section
theorem aSg (hcall:kU P call)(hio:vY P io)(hpan:aPc P pan)(hpin:aPd P pin)(hl:cM (eR P I ops) ops.toList=some l)(hd:l.all (fun o=>o.dst.all (· <N))=true)(han:aOt ops=some an)
   (hps:fI an l=some ps)   {e:Ex}  (hj:j<l.length) (hrunP:uG n call io pan pin l an ps j st=some (e,st')) 
     (hR0:Rel P Ξ B S G0 st N a0 w0) (hQ: ∀a' w' G' x,e.val x->aEy P Ξ B S G' st' N e a' w'->Below B w0 w'->Q (e.toExit x) a' w'):
  wpAnyIn (Fx ro) m P .any ops Q ops.size (Array.replicate ops.size false) a0 w0:=by
 obtain⟨l1,l2⟩:=eE hl;have hN:l.length=ops.size:=by rw[l1];simp
 simp only[uG]at hrunP
 split at hrunP
 case h_2=>cases hrunP
 rename_i st1 rs hrun
 split at hrunP
 case isFalse=>cases hrunP
 rename_i hck;simp only[jI,bN8,bOe,bO7,bPe]at hck;obtain⟨hok,hstill⟩:=hck
 split at hrunP
 case h_2=>cases hrunP
 rename_i v st2 hpj;simp only[bN7,bOb]at hrunP;obtain⟨rfl,rfl⟩:=hrunP;obtain⟨ps',hps',hsub⟩:=aBm (j:=j) hps;have hok':=zB hok hsub;obtain⟨hrl,s,hrun',hsn⟩:=sZ hrun;have hN':(cT an j l).length=ops.size:=by rw[rT,hN]
 rw[hN']at hrun' hsn;have hlt:=aHd han;have hw: ∀i,i<(cT an j l).length->(((cT an j l).getD i default).op.writesMem=false->(rs.getD i bZ).quiet)/\ (((cT an j l).getD i default).op.readsMem=false->(rs.getD i bZ).rs=[]):=
  fun i hi=>(qP (hrun'.step i (by omega))).2.2
 have hfree: ∀i k,i<k->k<ops.size-> ¬i∈an.getD k []->aGy ((cT an j l).getD i default) ((cT an j l).getD k default) (rs.getD i bZ) (rs.getD k bZ):=
  fun i k hik hk ho=>aHe hps' hok' hw (fun j i hj hi=>hlt j i (by omega) hi) hik (by omega) ho
 have hjN:j<ops.size:=by omega
 have atj: ∀(L:Nat->Bool),xH ops L->(∀k,k∈an.getD j []->L k=true)->(∀k,behind an j k=true->L k=false)->
   dH n pan pin (dC (fun k=>eD ((cT an j l).getD k default) (rs.getD k bZ)) L st ops.size) (l.getD j default)=
    some (v,{fr:=(dC (fun k=>eD ((cT an j l).getD k default) (rs.getD k bZ)) L st ops.size).fr,en:=st2.en,cnt:=st2.cnt}):=by
  intro L hcl hanc hbeh;have hb: ∀k,k<ops.size->(rs.getD k bZ).bump=true->((cT an j l).getD k default).dst.isSome=true:=fun k hk=>(qP (hrun'.step k hk)).2.1
  have drop:=sY (E:=fun k=>eD ((cT an j l).getD k default) (rs.getD k bZ)) (L:=fun _=>true) (s:=st) (n:=ops.size)
   (fun a b=>a.en=b.en/\ a.cnt=b.cnt/\ ∀t∈(l.getD j default).uses,a.fr t=b.fr t) (fun _=>⟨rfl,rfl,fun _ _=>rfl⟩) (fun a b c h k=>⟨h.1.trans k.1,h.2.1.trans k.2.1,fun t ht=>(h.2.2 t ht).trans (k.2.2 t ht)⟩) L ops.size (bN9 _) (fun k hk _ hLk=>by
    refine⟨fun s=>?_,fun k2 hk2 hk2N _ hLk2 s=>?_⟩
    ·by_cases hbk:behind an j k=true
     ·have hst:=hrun'.step k hk;rw[gP (by omega),if_pos hbk]at hst
      have hr:rs.getD k bZ={v:= .nilp}:=by
       simp only[aHr,step,wanted,eval,St.get,bN7,bOb]at hst
       simp at hst
       exact hst.2.symm
      rw[gP (by omega),if_pos hbk,hr]
      exact⟨rfl,rfl,fun _ _=>rfl⟩
     ·have hnot: ¬k∈an.getD j []:=fun h=>by rw[hanc k h]at hLk;cases hLk
      have h0:=hstill k (by omega)
      simp only[hbk,bOa,false_or,bPx,bRt,hnot]at h0
      split at h0
      case h_2=>cases h0
      rename_i r hr;have hr':rs.getD k bZ=r:=by simp[bOd,hr]
      rw[hr'];simp only[Res.still,bN8,bQ6,bPg,bQ7]at h0;obtain⟨⟨q1,q2⟩,q3⟩:=h0
      refine⟨by simp only[eD,q3,q1,W.applyAll,bQl],by simp only[eD,q3,q2,bOa,if_false],fun t ht=>?_⟩
      simp only[eD];rw[sG (by omega) hbk]
      refine oH fun d hd he=>?_
      subst he;simp only[fI]at hps
      split at hps
      case isFalse=>cases hps
      rename_i hall;have hkj:k≠j:=fun e=>hbk (by simp[behind,e])
      have:=bOe.1 (bOe.1 hall j (bO7.2 (by omega))) k (bO7.2 (by omega))
      simp only[bPe,beq_iff_eq,hkj,false_or,hd]at this;simp only[bN8,bne_iff_ne,ne_eq,bPe,bPg,bPx,bRt,bRu]at this;rcases this.2 with h1|h1|h1
      ·exact h1 ht
      ·exact hnot h1
      ·exact hbk (by simp only[behind,bPx,bPe,bRt];exact .inr h1)
    ·have ho: ¬k∈an.getD k2 []:=fun h=>by
      have:=fV han hcl k2 _ (bOv hk2N) (hcl k2 _ (bOv hk2N) hLk2) k h;rw[this]at hLk;cases hLk
     exact(hfree k k2 hk2 hk2N ho).comm (hb k (by omega)) (hb k2 hk2N) s)
  have e1:dC (fun k=>eD ((cT an j l).getD k default) (rs.getD k bZ)) (fun k=>true&&(L k||decide (k<ops.size))) st ops.size=st1:=by
   rw[cE (L':=fun _=>true) fun i hi=>by simp[hi],<-hrun'.fold _ (bN9 _),hsn]
  have e2:dC (fun k=>eD ((cT an j l).getD k default) (rs.getD k bZ)) (fun k=>true&&L k) st ops.size=dC (fun k=>eD ((cT an j l).getD k default) (rs.getD k bZ)) L st ops.size:=by
   exact cE fun i _=>by simp
  rw[e1,e2]at drop;exact(rU hpj drop.1.symm drop.2.1.symm fun t ht=>(drop.2.2 t ht).symm).1
 have main: ∀(fuel:Nat) (listed:Array Bool) (G:Gh) (a:Act) (w:World),listed.size=ops.size->(List.range ops.size).countP (fun i=>!listed.getD i false)<=fuel->xH ops (fun i=>listed.getD i false)->(∀k,k<ops.size->behind an j k=true->listed.getD k false=false)->
   Rel P Ξ B S G (dC (fun k=>eD ((cT an j l).getD k default) (rs.getD k bZ)) (fun i=>listed.getD i false) st ops.size) N a w->Below B w0 w->
   wpAnyIn (Fx ro) m P .any ops Q fuel listed a w:=by
  have jready: ∀(listed:Array Bool),listed.size=ops.size->listed.getD j false=false->Region.ready .any ops listed≠[]:=by
   intro listed hsz hb hr;have: ∀i,i<ops.size->listed.getD i false=true:=by
    intro i
    induction i using Nat.strongRecOn with
    |ind i ih=>
     intro hi;cases hb:listed.getD i false with
     |true=>rfl
     |false=>
      exfalso
      have hm:i∈Region.ready .any ops listed:=by
       rw[mem_ready]
       refine⟨?_,ops[i],bOv hi,fun e he hbd=>?_⟩
       ·rw[bOl,bOv (by omega)]at hb⊢;simpa using hb
       ·have hk:e.on∈kV ops[i]:=bO5.2 ⟨e,bPy.2 ⟨by simpa using he,hbd⟩,rfl⟩
        have:=(sF han (bOv hi)).1 _ hk;exact ih _ this (by omega)
      rw[hr]at hm;simp at hm
   rw[this j hjN]at hb;cases hb
  intro fuel
  induction fuel with
  |zero=>
   intro listed G a w hsz hc hcl hbeh hR hB
   exfalso
   have hb:=hbeh j hjN (by simp[behind])
   have:=bRm (p:=fun i=>!listed.getD i false) (l:=List.range ops.size)|>.2 ⟨j,bO7.2 hjN,by simp only[hb];rfl⟩
   omega
  |succ fuel ih=>
   intro listed G a w hsz hc hcl hbeh hR hB
   refine⟨fun hr=>absurd hr (jready listed hsz (hbeh j hjN (by simp[behind]))),fun i hm=>?_⟩
   obtain⟨h0,o,ho,hready⟩:=mem_ready.1 hm;have hi:=(bPv.1 ho).1;have hoi:o=ops[i]:=by rw[bOv hi,bN7]at ho;exact ho.symm
   have hb:listed.getD i false=false:=by
    rw[bOl,bOv (by omega)]at h0⊢;simpa using h0
   have hdir: ∀k∈kV o,listed.getD k false=true:=by
    intro k hk;obtain⟨e,he,rfl⟩:=bO5.1 hk;obtain⟨he1,he2⟩:=bPy.1 he;exact hready e (by simpa using he1) he2
   have hanci: ∀k∈an.getD i [],listed.getD k false=true:=fun k hk=>fV han hcl i o ho hdir k hk
   have hil:i<l.length:=by omega
   have hlow:=l2 i (by simpa using hi) hil
   simp only[bQ0]at hlow;have hli:l.getD i default=l[i]:=by simp[bOd,hil]
   unfold wpOpIn;rw[bOv hi]
   by_cases hij:i=j
   ·subst hij;have hp:=atj (fun i=>listed.getD i false) hcl hanci (fun k hk=>by
     by_cases hkN:k<ops.size
     ·exact hbeh k hkN hk
     ·rw[bOl,Array.getElem?_eq_none (by omega)];rfl)
    rw[hli]at hp;obtain⟨q1,q2⟩:=uZ (ops:=ops) (ro:=ro) (m:=m) (next:=fun a w=>wpAnyIn (Fx ro) m P .any ops Q fuel (listed.setIfInBounds i true) a w) (Q:=Q) hpan hpin hR hlow hp fun a' w' G' x h1 h2 h3=>by
     refine hQ a' w' G' x h1 ?_ (hB.trans h3)
     have hfr:st2.fr=st1.fr:=(rU hpj rfl rfl fun _ _=>rfl).2
     refine⟨a'.tmps.mapIdx fun t y=>if lW l t then undef else y,?_,fun h=>(by cases h),fun t ht=>?_⟩
     ·refine⟨h2.size,by simpa using h2.tmps,fun t=>?_,h2.marks,h2.ents,h2.freshEn,h2.freshG,h2.own,h2.extra,h2.round,h2.defs,h2.virt⟩
      have hfrm:=h2.frame t
      simp only at hfrm⊢
      by_cases hdt:lW l t=true
      ·rw[if_pos hdt];have:(a'.tmps.mapIdx fun t y=>if lW l t then undef else y).getD t undef=undef:=by
        simp only[bOl,bRg];cases a'.tmps[t]? with
        |none=>rfl
        |some y=>simp[hdt]
       rw[this];exact .tup [] #[] rfl (fun i hi=>by simp at hi)
      ·rw[if_neg hdt];have e1:(a'.tmps.mapIdx fun t y=>if lW l t then undef else y).getD t undef=a'.tmps.getD t undef:=by
        simp only[bOl,bRg];cases a'.tmps[t]? with
        |none=>rfl
        |some y=>simp[hdt]
       have hne: ∀k,k<ops.size->((cT an i l).getD k default).dst≠some t:=by
        intro k hk he
        by_cases hbk:behind an i k=true
        ·rw[gP (by omega),if_pos hbk]at he
         cases he
        ·rw[sG (by omega) hbk]at he
         refine hdt ?_
         simp only[lW,bQ8,beq_iff_eq];exact⟨l[k],bOg (by omega),by simpa[bOd,show k<l.length by omega]using he⟩
       rw[aA0 (r:=fun k=>rs.getD k bZ) ops.size hne]at hfrm
       have e2:st2.fr t=st.fr t:=by
        rw[hfr,<-hsn,hrun'.fold _ (bN9 _)];exact aA0 (r:=fun k=>rs.getD k bZ) ops.size hne
       rw[e1,e2];exact hfrm
     ·simp only at ht
      split at ht
      ·cases ht
      ·rename_i hdt;simp only[bOl,bRg];cases a'.tmps[t]? with
       |none=>rfl
       |some y=>simp[hdt]
    simp only[q1,if_true];exact q2
   ·have hbi: ¬behind an j i=true:=fun h=>by
     simp only[behind,bPx,bPe,beq_iff_eq,bRt]at h;rcases h with h|h
     ·exact hij h
     ·have:=hanci j h;rw[hbeh j hjN (by simp[behind])]at this;cases this
    have hst:=aAz hrun' (ord:=fun i j=>j<ops.size/\ i∈an.getD j []) (fun i j h=>hlt j i h.1 h.2) (fun i j hij hj ho=>hfree i j hij hj fun h=>ho ⟨hj,h⟩) (L:=fun i=>listed.getD i false)
     (fun j hj hLj i hord=>fV han hcl j _ (bOv hj) (hcl j _ (bOv hj) hLj) i hord.2) hi hb
     (fun k hk=>hanci k hk.2)
    rw[gP hil,if_neg hbi,hli]at hst;have hset: ∀k,(listed.setIfInBounds i true).getD k false=(k==i||listed.getD k false):=by
     intro k
     by_cases hk:k=i
     ·subst hk;simp[show k<listed.size by omega]
     ·rw[getD_set_ne false fun e=>hk e.symm]
      have:(k==i)=false:=by simpa using hk
      rw[this,bO6]
    have go: ∀a' w' G',Rel P Ξ B S G' (dC (fun k=>eD ((cT an j l).getD k default) (rs.getD k bZ)) (fun k=>k==i||listed.getD k false) st ops.size) N a' w'->Below B w w'->wpAnyIn (Fx ro) m P .any ops Q fuel (listed.setIfInBounds i true) a' w':=by
     intro a' w' G' h1 h2
     refine ih _ G' a' w' (by simpa using hsz) ?_ ?_ ?_ ?_ (hB.trans h2)
     ·have:=tA (fun i=>!listed.getD i false) (fun k=>!(listed.setIfInBounds i true).getD k false) i (by simp only[hb];rfl) (by simp only[hset];simp) (fun k hk=>by
       simp only[hset];have:(k==i)=false:=by simpa using hk
       rw[this,bO6]) ops.size hi
      omega
     ·intro j oj hoj hLj k hk;simp only[hset]at hLj⊢
      by_cases hj:j=i
      ·subst hj;rw[ho,bN7]at hoj;subst hoj;rw[hdir k hk,bP3]
      ·have:(j==i)=false:=by simpa using hj
       rw[this,bO6]at hLj;have h5:listed.getD k false=true:=hcl j oj hoj hLj k hk;rw[h5,bP3]
     ·intro k hkN hk;rw[hset];have:(k==i)=false:=by
       simp only[beq_eq_false_iff_ne,ne_eq]
       rintro rfl
       exact hbi hk
      rw[this,bO6];exact hbeh k hkN hk
     ·rw[cE (L':=fun k=>k==i||listed.getD k false) fun k _=>hset k]
      exact h1
    by_cases hlo:yD an j l i=true
    ·rw[if_pos hlo]at hst;exact aIe hR hlow (bOe.1 hd _ (bOg hil)) (by simp only[yD,bN8,hli]at hlo⊢;exact⟨hlo.1.2,hlo.2⟩) hst go
    ·rw[if_neg hlo]at hst;exact nY hcall hio hR hlow (bOe.1 hd _ (bOg hil)) hst go
 refine main ops.size (Array.replicate ops.size false) G0 a0 w0 (by simp) (bOk bRh (by simp)) ?_ ?_ ?_ (Below.refl _ _)
 ·intro j o ho hL;simp[bPz]at hL
  split at hL<;>simp at hL
 ·intro k hk _;simp[bOl,bPz,hk]
 ·rw[cE (L':=fun _=>false) fun i _=>by simp[bPz];split<;>simp]
  have: ∀(k:Nat),dC (fun k=>eD ((cT an j l).getD k default) (rs.getD k bZ)) (fun _=>false) st k=st:=by
   intro k;induction k with
   |zero=>rfl
   |succ k ih=>simp only[dC,bOa,if_false];exact ih
  rw[this];exact hR0
end
theorem aIf {n:Nat}{call:bC}{io:Inl}{pan:bC}{pin:Nat->List Val->St->Option (Val×St)}: ∀(l:List aM) {i j:Nat} {st:St},oS n call io pan pin l i st=some j->j<i+l.length
 |[],_,_,_,h=>by cases h
 |o::l,i,j,st,h=>by
  simp only[oS]at h
  split at h
  ·simp only[bN7]at h;subst h;simp only[bOh];omega
  ·split at h
   case h_2=>cases h
   have:=aIf l h;simp only[bOh];omega
def vA (P:Program)(L:bG)(n:Nat):Prop:= ∀(I:Operand->Bool) (N:Nat) (c:Code) (st:St) (e:Ex) (st':St) (Ξ:Env) (B:Nat) (S:Nat->Nat->Prop) (G:Gh) (a:Act) (w:World) (Q:Exit->Act->World->Prop) (m:Nat),
 (cA P I c).dstOk N=true->(Ξ.nm=true->(cA P I c).noRg=true)->Rel P Ξ B S G st N a w->exec L n (cA P I c) st=some (e,st')->(∀a' w' G' x,e.val x->aEy P Ξ B S G' st' N e a' w'->Below B w w'->Q (e.toExit x) a' w')->c.wpIn (Fx Ξ.ro) m P Q a w
theorem aU9 (hR:Rel P Ξ B S G st N a w){rv:ResultVar}{lr:aUt}(hl:aB5 P rv=some lr)(hv:oR st lr=some v):
  ∃x,(match rv with
   | .tmp t=>(pure (a.tmps.getD t undef):Sem Value)
   | .cell c t=>do loadVar t (<-asAddr (a.tmps.getD c undef))).run P w= .ok x w/\ VR (aW B S G w.heap.size) G w v x:=by
 cases rv with
 |tmp t=>
  simp only[aB5,bN7]at hl;subst hl;simp only[oR,bN7]at hv;subst hv;exact⟨_,rfl,hR.frame t⟩
 |cell c t=>
  simp only[aB5]at hl
  split at hl
  case isFalse=>cases hl
  rename_i hu;simp only[bN7]at hl;subst hl;simp only[oR]at hv
  split at hv
  case h_2=>cases hv
  rename_i cs rs hr;obtain⟨b,off,hx,hlen,hc⟩:=aH2 hR (hR.frame c) hr;obtain⟨x,h1,h2⟩:=yY hu rfl hlen hc hv
  refine⟨x,?_,h2⟩
  simp only[hx,asAddr,Sem.run_bind,Sem.run_pure,Result.andThen_ok,h1]
theorem aIg {P:Program}{Ξ:Env}{B:Nat}{S:Nat->Nat->Prop}{G:Gh}{st:St}{N:Nat}{a:Act}{w:World}(hR:Rel P Ξ B S G st N a w): ∀(rvs:List ResultVar) (lrs:List aUt) (vs:List Val),
  cM (aB5 P) rvs=some lrs->cM (oR st) lrs=some vs->
  ∃xs:List Value,(rvs.mapM fun(rv:ResultVar)=>(match rv with
   | .tmp t=>(pure (a.tmps.getD t undef):Sem Value)
   | .cell c t=>do loadVar t (<-asAddr (a.tmps.getD c undef)))).run P w= .ok xs w/\ xs.length=vs.length/\ ∀i,i<vs.length->VR (aW B S G w.heap.size) G w (vs.getD i .dead) (xs.getD i undef)
 |[],lrs,vs,h1,h2=>by
  simp only[cM,bN7]at h1;subst h1;simp only[cM,bN7]at h2;subst h2;exact⟨[],rfl,rfl,fun i hi=>by simp at hi⟩
 |rv::rvs,lrs,vs,h1,h2=>by
  simp only[cM]at h1
  split at h1
  case h_2=>cases h1
  rename_i lr hl
  split at h1
  case h_2=>cases h1
  rename_i lrs' hls;simp only[bN7]at h1;subst h1;simp only[cM]at h2
  split at h2
  case h_2=>cases h2
  rename_i v hv
  split at h2
  case h_2=>cases h2
  rename_i vs' hvs;simp only[bN7]at h2;subst h2;obtain⟨x,e1,e2⟩:=aU9 hR hl hv;obtain⟨xs,f1,f2,f3⟩:=aIg hR rvs lrs' vs' hls hvs
  refine⟨x::xs,?_,by simp[f2],fun i hi=>?_⟩
  ·rw[List.mapM_cons,Sem.run_bind,e1,Result.andThen_ok,Sem.run_bind,f1,Result.andThen_ok];rfl
  ·match i with
   |0=>simpa using e2
   |i+1=>simpa using f3 i (by simpa using hi)
variable {fn:Func}
theorem vB (hR:Rel P Ξ B S G st N a w){lrs:List aUt}{vs:List Val}
  (h1:cM (aB5 P) fn.results.toList=some lrs) (h2:cM (oR st) lrs=some vs): ∃x,(results fn a.tmps).run P w= .ok x w/\ VR (aW B S G w.heap.size) G w (yS vs) x:=by
 obtain⟨xs,hrun,hxl,hxv⟩:=aIg hR fn.results.toList lrs vs h1 h2
 refine⟨if h:xs.length=1 then xs[0]else .tuple xs.toArray,?_,?_⟩
 ·have:(fn.results.mapM fun(rv:ResultVar)=>(match rv with
   | .tmp t=>(pure (a.tmps.getD t undef):Sem Value)
   | .cell c t=>do loadVar t (<-asAddr (a.tmps.getD c undef)))).run P w= .ok xs.toArray w:=by
   rw[bRq,Sem.run_map,hrun];rfl
  simp only[results,Sem.run_bind]
  refine Eq.trans (congrArg (fun z=>Result.andThen z _) this) ?_
  simp
 ·unfold yS;split
  ·rename_i v1;have h1:xs.length=1:=by simpa using hxl
   rw[dif_pos h1];have:=hxv 0 (by simp)
   simpa[bOd,h1]using this
  ·rename_i hne;have h1: ¬xs.length=1:=by
    rw[hxl];intro h1
    match vs,h1 with
    |[v1],_=>exact hne v1 rfl
   rw[dif_neg h1];exact .tup vs xs.toArray (by simp[hxl]) fun i hi=>by
    have:=hxv i hi
    simpa[bOd,bOl]using this
def kW (w:World):List Nat->World
 |[]=>w
 |D::Ds=>kW (jR w D (.deferred none)) Ds
theorem aA1 (w:World): ∀Ds,(kW w Ds).heap.size=w.heap.size
 |[]=>rfl
 |D::Ds=>by rw[kW,aA1 _ Ds,mQ]
theorem xJ : ∀(Ds:List Nat) (w:World) {b:Nat},b∉Ds->(kW w Ds).heap[b]?=w.heap[b]?
 |[],_,_,_=>rfl
 |D::Ds,w,b,h=>by
  simp only[bO8,not_or]at h;rw[kW,xJ Ds _ h.2,eP _ h.1]
theorem xK {B:Nat}: ∀(Ds:List Nat) (w:World),(∀D∈Ds,B<=D)->Below B w (kW w Ds)
 |[],w,_=>Below.refl _ _
 |D::Ds,w,h=>(sE (w:=w) (h D (by simp))).trans (xK Ds _ fun D' hD'=>h D' (by simp[hD']))
theorem aF5 (w:World)(D:Nat)(o:Obj):w.putObj D o=jR w D o:=rfl
theorem mV {F:Fence}{n:Nat}{P:Program}{fn:Func}{tmps:Array Value}{R:Ending->World->Prop}{u:FrameMode}(hu:u≠ .run){tl:List Deferred}: ∀(Ds:List Nat) (w:World),Ds.Nodup->(∀D∈Ds,w.heap[D]?=some (.deferred (some [])))->
  LeavesInM F n P fn tmps R tl u (kW w Ds)->LeavesInM F n P fn tmps R (Ds.map wY++tl) u w
 |[],w,_,_,h=>h
 |D::Ds,w,hn,hD,h=>by
  rw[List.nodup_cons]at hn
  refine⟨hu,.inl ⟨D,_,rfl,run_takeDeferred (hD D (by simp)),?_⟩⟩
  rw[aF5]
  refine mV hu Ds _ hn.2 (fun D' hD'=>?_) h
  have hne:D'≠D:=by rintro rfl;exact hn.1 hD'
  rw[eP _ hne];exact hD D' (by simp[hD'])
theorem Rel.shut (hR:Rel P Ξ B S G st N a w):
  ∃Ds:List Nat,a.defers=Ds.map wY++Ξ.tail/\ Ds.Nodup/\ (∀D∈Ds,w.heap[D]?=some (.deferred (some [])))/\ (∀D∈Ds,B<=D)/\ (Ξ.nm=true->Ds=[])/\ Rel P Ξ B S G st N {a with defers:=Ξ.tail} (kW w Ds):=by
 obtain⟨Ds,h1,⟨h2,h2'⟩,h3⟩:=hR.marks;have hoth: ∀{b:Nat} {o:Obj},w.heap[b]?=some o->o≠ .deferred (some [])->(kW w Ds).heap[b]?=some o:=by
  intro b o ho hne;rw[xJ Ds w fun hb=>hne (by rw[(h3 b hb).2.2]at ho;exact(Option.some.inj ho).symm)];exact ho
 have hcell: ∀{b q:Nat} {c:Value},w.cell? ⟨b,q,.none⟩=some c->(kW w Ds).cell? ⟨b,q,.none⟩=some c:=by
  intro b q c hc
  by_cases hb:b∈Ds
  ·simp only[World.cell?,(h3 b hb).2.2]at hc;cases hc
  ·rw[oU (xJ Ds w hb)];exact hc
 have m:yF (aW B S G w.heap.size) G w (aW B S G (kW w Ds).heap.size) G (kW w Ds):=
  ⟨fun b q h=>by rw[aA1];exact h,G.le_refl,fun b q c _ h=>hcell h,fun r es cl _ h=>hoth h (by simp)⟩
 refine⟨Ds,h1,h2,fun D hD=>(h3 D hD).2.2,fun D hD=>(h3 D hD).1,h2',?_⟩
 refine hR.change4 (a':={a with defers:=Ξ.tail}) (G':=G) (en':=st.en) (cnt':=st.cnt) rfl m (by rw[aA1];exact bN9 _) (fun k e he hkn=>?_) (fun k hk=>⟨hR.freshEn k hk,hR.freshG k hk⟩) (fun b k t hb=>by rw[aA1];exact hR.own b k t hb)
  (fun _ _ h=>h) ⟨[],rfl,⟨List.nodup_nil,fun _=>rfl⟩,fun D hD=>by simp at hD⟩ (fun l hl=>let ⟨r,hr⟩:=hR.round l hl;⟨r,hoth hr (by simp)⟩) (fun D hD=>?_) hR.virt
 ·have hE:=hR.ents k e he hkn;cases hE with
  |box cs frz b c t hb hB h hs ho hv hown=>exact .box cs frz b c t hb hB (hoth h (by simp)) hs ho (fun j hj=>(hv j hj).mono4 m) hown
  |nul sz frz h=>exact .nul sz frz h
  |blk xs frz b base sz C thr c t hb hB h hC hC' hs ho hv hown hthr=>exact .blk xs frz b base sz C thr c t hb hB (hoth h (by simp)) hC hC' hs ho (fun i j hi hj=>(hv i j hi hj).mono4 (m.at k)) hown hthr
  |full xs b base sz c hb hs h ht ho hv=>exact .full xs b base sz c hb hs (fun i j hi hj=>hcell (h i j hi hj)) (fun i j hi hj=>m.t _ _ (ht i j hi hj)) ho (fun i j hi hj=>(hv i j hi hj).mono4 m.none)
  |map ks vs frz r es clock hr hB h hk hl hkv hvv hown=>exact .map ks vs frz r es clock hr hB (hoth h (by simp)) hk hl (fun i hi=>(hkv i hi).mono4 m.none) (fun i hi=>(hvv i hi).mono4 m.none) hown
  |loop fr ps la lb s l rec I N' hl hB h hps ha hb hN hpN haN hbN hf hst hown=>exact .loop fr ps la lb s l rec I N' hl hB (hoth h (by simp)) hps ha hb hN hpN haN hbN (fun i=>(hf i).mono4 m) hst hown
  |iter s pos r hr hB h hown=>exact .iter s pos r hr hB (hoth h (by simp)) hown
 ·rw[xJ Ds w fun h=>(h3 D h).2.1 hD];exact hR.defs D hD
variable {lf:iR}
theorem vZ {keep amb:Bool}(h:wX P I keep amb fn=some lf):
  ∃c,fn.body=some c∧aC3 P I (aC2 fn.results.toList) c=some lf.body∧lf.body.dstOk fn.ntmps=true∧lf.np≤fn.ntmps∧(fn.name== "runtime.NumGoroutine")=false∧cM (aB5 P) fn.results.toList=some lf.res:=by
 simp only[wX]at h
 split at h
 ·cases h
 rename_i c hbody
 split at h
 ·cases h
 rename_i lc hlc
 split at h
 case isFalse=>cases h
 rename_i hck;simp only[bN8,bRt,bne_iff_ne,ne_eq]at hck;obtain⟨lres,hres,rfl⟩:=bOj.1 h;exact⟨c,hbody,hlc,hck.1.1,hck.1.2,by simpa using hck.2,hres⟩
def oX (P:Program)(L:bG):Prop:= ∀f lf,L f=some lf-> ∃fn I keep amb,P.funcs[f]?=some fn/\ wX P I keep amb fn=some lf
def aPf (fn:Func)(vals:Array Value):Act:={tmps:=vals++Array.replicate (fn.ntmps-vals.size) undef,defers:=[]}
def Ex.fin (P:Program)(fn:Func)(a:Act)(w:World)(R:Ending->World->Prop)(x:Value):Ex->Prop
 | .normal| .ret=> ∃y,(results fn a.tmps).run P w= .ok y w/\ R (.returned y) w
 | .panic _=>R (.panicked (xI x)) w
 | .exit _=>False
def aEz (P:Program)(L:bG)(n:Nat):Prop:= ∀(f:Nat) (fn:Func) (lf:iR) (I:Operand->Bool) (keep amb:Bool) (e:Ex) (st0 st':St) (Ξ:Env) (B:Nat) (S:Nat->Nat->Prop) (G:Gh) (vals:Array Value) (w:World) (R:Ending->World->Prop),
 P.funcs[f]?=some fn->wX P I keep amb fn=some lf->exec L n lf.body st0=some (e,st')->Ξ.ro=none->Ξ.tail=[]->Ξ.nm=false->Rel P Ξ B S G st0 fn.ntmps (aPf fn vals) w->
 (∀a1 w1 G1 x,e.val x->a1.defers=[]->Rel P Ξ B S G1 st' fn.ntmps a1 w1->Below B w w1->e.fin P fn a1 w1 R x)->Calls P f vals w R
variable {G1:Gh}{w1:World}{a1:Act}
theorem aA2 {e:Ex}{R:Ending->World->Prop}{x:Value}(ht:Ξ.tail=[])(hx:e.val x)(hR1:aEy P Ξ B S G1 st' fn.ntmps e a1 w1)(hb:Below B w w1)
  (k: ∀a1 w1 G1 x,e.val x->a1.defers=[]->Rel P Ξ B S G1 st' fn.ntmps a1 w1->Below B w w1->e.fin P fn a1 w1 R x):bodyPostM Fence.wide m P fn R (e.toExit x) a1 w1:=by
 obtain⟨tm,hR1,htm,_⟩:=hR1;obtain⟨Ds,q1,q2,q3,q4,_,hR⟩:=hR1.shut;have hk:=k _ _ _ x hx ht hR (hb.trans (xK Ds w1 q4))
 replace q1:a1.defers=Ds.map wY++Ξ.tail:=q1
 cases e with
 |normal=>
  simp only[bodyPostM,Ex.toExit];rw[q1,ht];have:=htm rfl;subst this;exact mV (by simp) Ds w1 q2 q3 hk
 |exit id=>exact hk.elim
 |ret=>
  simp only[bodyPostM,Ex.toExit];rw[q1,ht];have:=htm rfl;subst this;exact mV (by simp) Ds w1 q2 q3 hk
 |panic v=>
  simp only[bodyPostM,Ex.toExit];rw[q1,ht];exact mV (by simp) Ds w1 q2 q3 hk
variable {args:List Val}{vals:Array Value}
theorem aLf (hS: ∀b o,S b o->b<w.heap.size)(hgl:sR S w)(hvl:vals.size=args.length)(hnp:args.length<=fn.ntmps)
  (hv: ∀i,i<args.length->VR S Gh.none w (args.getD i .dead) (vals.getD i undef)):Rel P {prs:=fun _ _=>False,ro:=none,rnd:=fun _=>False,defs:=fun _=>False} w.heap.size S Gh.none (start args) fn.ntmps (aPf fn vals) w:=by
 unfold aPf
 refine⟨bN9 _,by simp;omega,fun i=>?_,⟨[],rfl,⟨List.nodup_nil,fun _=>rfl⟩,fun D hD=>by simp at hD⟩,fun k e hk=>by simp[start]at hk,fun _ _=>rfl,fun _ _=>⟨rfl,rfl,rfl⟩,fun b k t hb=>by simp[Gh.none]at hb,fun v x h=>(hgl.mono (fun b o h=>⟨hS b o h,.inl ⟨hS b o h,h⟩⟩)) v x (h.resolve_left id),
  fun l hl=>by rcases hl with h|h;cases h;exact h.elim,fun _ h=>h.elim,fun _ h=>h.elim⟩
 simp only[start]
 by_cases hi:i<args.length
 ·have h1:=(hv i hi).mono4 (T':=aW w.heap.size S Gh.none w.heap.size) (G':=Gh.none) (w':=w) ⟨fun b o h=>⟨hS b o h,.inl ⟨hS b o h,h⟩⟩,Gh.le_refl _,fun _ _ _ _ h=>h,fun _ _ _ _ h=>h⟩
  have e1:args.getD i (.tup [])=args.getD i .dead:=by simp[bOd,hi]
  have e2:(vals++Array.replicate (fn.ntmps-vals.size) undef).getD i undef=vals.getD i undef:=by
   simp only[bOl];rw[Array.getElem?_append_left (by omega)]
  rw[e1,e2];exact h1
 ·have e1:args.getD i (.tup [])= .tup []:=by simp[bOd,List.getElem?_eq_none (Nat.le_of_not_lt hi)]
  have e2:(vals++Array.replicate (fn.ntmps-vals.size) undef).getD i undef=undef:=by
   simp only[bOl];rw[Array.getElem?_append_right (by omega)]
   simp only[bPz];split<;>rfl
  rw[e1,e2];exact .tup [] #[] rfl (fun i hi=>by simp at hi)
variable {r:Val}
theorem aE0 {L:bG}(hL:oX P L){k:Nat}(ih:aEz P L n)(hlf:L f=some lf)(hlen:args.length=lf.np)(h:iH lf k (exec L n) args=some r):
  (∃fn,P.funcs[f]?=some fn∧(fn.name== "runtime.NumGoroutine")=false∧fn.body.isNone=false)∧
  ∀(S:Nat->Nat->Prop) (w:World) (vals:Array Value),(∀b o,S b o->b<w.heap.size)->sR S w->vals.size=args.length->(∀i,i<args.length->VR S Gh.none w (args.getD i .dead) (vals.getD i undef))->
   Calls P f vals w fun e w'=> ∃v,e= .returned v/\ Below w.heap.size w w'/\ aKp w.heap.size (aDb w S w') w' r v:=by
 obtain⟨fn,I,keep,amb,hfn,hlow⟩:=hL f lf hlf;obtain⟨c,hbody,hlb,hdst,hnp,hname,hres⟩:=vZ hlow;simp only[iH]at h
 split at h
 case h_2=>cases h
 rename_i e st hx
 split at h
 case isFalse=>cases h
 rename_i hends
 refine⟨⟨fn,hfn,hname,by rw[hbody];rfl⟩,fun S w vals hS hgl hvl hv=>?_⟩
 let Ξ:Env:={prs:=fun _ _=>False,ro:=none,rnd:=fun _=>False,defs:=fun _=>False}
 have hR0:=aLf (P:=P) (fn:=fn) hS hgl hvl (by omega) hv
 refine ih f fn lf I keep amb e (start args) st Ξ w.heap.size S Gh.none vals w _ hfn hlow hx rfl rfl rfl hR0 fun a1 w1 G1 x1 _ _ hR hbl=>?_
 simp only[aCw]at h
 split at h
 case h_2=>cases h
 rename_i vs hvs;obtain⟨x,hrun,hval⟩:=vB hR hres hvs;have ends:aKp w.heap.size (aDb w S w1) w1 r x->e.fin P fn a1 w1 (fun e w'=> ∃v,e= .returned v/\ Below w.heap.size w w'/\ aKp w.heap.size (aDb w S w') w' r v) x1:=by
  intro hr;cases e with
  |normal=>exact⟨x,hrun,x,rfl,hbl,hr⟩
  |exit id=>cases hends
  |ret=>exact⟨x,hrun,x,rfl,hbl,hr⟩
  |panic v=>cases hends
 split at h
 ·rename_i r' hown;simp only[bN7]at h;subst h
  split at hown
  case isFalse=>cases hown
  have hor:aKp w.heap.size (aDb w S w1) w1 r' x:=by
   unfold aTs at hown
   split at hown
   case h_2=>cases hown
   rename_i key n htv
   split at hown
   case h_2=>cases hown
   rename_i sz xs hk
   split at hown
   case isFalse=>cases hown
   rename_i hn;obtain⟨hn,hdp⟩:=hn;simp only[bN7]at hown;subst hown;rw[htv]at hval;have hE:=hR.ents key _ hk hval.knows_bl;cases hval with
   |bl0 _ p hb=>
    cases hE with
    |nul _ _ _=>exact .inl ⟨rfl,p,rfl⟩
    |blk _ _ b base sz C thr c t hb1=>rw[hb]at hb1;cases hb1
   |ble _ p b base sz C hb=>
    rename_i hx0;cases hE with
    |nul _ _ hb1=>rw[hb]at hb1;cases hb1
    |blk _ _ b base sz C' thr c t hb1 _ _ hC=>
     rw[hb]at hb1;simp only[bN7,bOb]at hb1;have hxs:xs=[]:=bRn.1 (by omega)
     exact .inl ⟨hxs,p,rfl⟩
   |bl _ _ _ b base sz' C hb hl=>
    cases hE with
    |nul _ _ hb1=>rw[hb]at hb1;cases hb1
    |blk _ _ b1 base1 _ C1 thr c t hb1 hB hh hC hC' hs ho hv hown hthr=>
     rw[hb]at hb1;simp only[bN7,bOb]at hb1;obtain⟨rfl,rfl,rfl,rfl⟩:=hb1;simp only[bOa,if_false]at hthr;subst hthr;rw[Gh.at_none hdp]at hv
     refine .inr ⟨b,thr,C,c,t,hB,by simp[hn],hh,hC,hC',hs,ho,fun i j hi hj=>(hv i j hi hj).mono ⟨fun b' o hg=>?_,Gh.le_refl _,fun _ _ _ _ h=>h,fun _ _ _ _ h=>h,fun _ _ h=>h,fun _ r h=>⟨r,h⟩⟩⟩
     obtain⟨g1,g2⟩:=hg
     refine⟨⟨g1,fun hlt=>?_⟩,fun hbb=>?_⟩
     ·rcases g2 with g2|g2
      ·exact g2.2
      ·omega
     ·subst hbb;rcases g2 with g2|g2
      ·omega
      ·rw[hown]at g2;exact g2.2
  exact ends hor
 split at h
 case h_2=>cases h
 rename_i v ks hsn;simp only[bN7]at h;have hT: ∀b o,aW w.heap.size S G1 w1.heap.size b o->aDb w S w1 b o:=by
  rintro b o ⟨h1,h2⟩
  refine⟨h1,fun h3=>?_⟩
  rcases h2 with h2|h2
  ·exact h2.2
  ·omega
 have hcov: ∀k e,st.en k=some e->Cov (aDb w S w1) G1 k e:=by
  intro k e he
  by_cases hkn:G1.knows k
  case neg=>
   obtain⟨u1,u2,u3⟩:=Gh.not_knows hkn;cases e with
   |box cs f=>intro b hb;rw[u1]at hb;cases hb
   |blk sz xs f=>intro b base sz C hb;rw[u2]at hb;cases hb
   |map ks vs f=>intro r hr;rw[u3]at hr;cases hr
   |loop=>trivial
   |iter=>trivial
  have hE:=hR.ents k e he hkn;cases hE with
  |box cs frz b c t hb hB hh=>intro b' hb' j _;rw[hb]at hb';simp only[bN7]at hb';subst hb';exact⟨dP hh,fun h=>by omega⟩
  |nul sz frz hn=>intro b base sz C hb i j hi;simp at hi
  |blk xs frz b base sz C thr c t hb hB hh=>
   intro b' base' sz' C' hb' i j hi hj;rw[hb]at hb';simp only[bN7,bOb]at hb';obtain⟨rfl,_⟩:=hb';exact⟨dP hh,fun h=>by omega⟩
  |full xs b base sz c hb hs hh ht=>
   intro b' base' sz' C' hb' i j hi hj;rw[hb]at hb';simp only[bN7,bOb]at hb';obtain⟨rfl,rfl,rfl,rfl⟩:=hb';exact hT _ _ (ht i j hi hj)
  |map ks vs frz r es cl hr hB hh=>intro r' hr';rw[hr]at hr';simp only[bN7]at hr';subst hr';exact⟨dP hh,fun h=>by omega⟩
  |loop=>trivial
  |iter=>trivial
 have hfin:=wZ hR.ents (T':=aDb w S w1) ⟨hT,Gh.le_refl _,fun _ _ _ _ h=>h,fun _ _ _ _ h=>h,fun _ _ h=>h,fun _ r h=>⟨r,h⟩⟩ k hval hsn fun k _ e he=>hcov k e he
 have hr:VR (aDb w S w1) Gh.none w1 r x:=by
  rw[<-h];split
  ·exact hfin
  ·exact hfin.wk
 exact ends (.vr hr)
theorem aXx {T:Nat->Nat->Prop}{x:Val}{v:Value}(h:VR T G w x v)(he:vQ x=true): ∃a cap,v= .slice a 0 cap:=by
 cases h<;>simp[vQ]at he
 ·exact⟨_,_,rfl⟩
 ·rename_i xs b off sz cap c hc hs hh ht ho hv;cases xs with
  |nil=>exact⟨_,_,rfl⟩
  |cons=>simp[vQ]at he
 ·exact⟨_,_,rfl⟩
 ·rename_i xs b off sz c hs hh ht ho hv;cases xs with
  |nil=>exact⟨_,_,rfl⟩
  |cons=>simp[vQ]at he
 ·exact⟨_,_,rfl⟩
 ·rename_i k off len b base sz C hb hl;cases len with
  |zero=>exact⟨_,_,rfl⟩
  |succ=>simp[vQ]at he
 ·exact⟨_,_,rfl⟩
 ·exact⟨_,_,rfl⟩
variable {b:Option Val}
theorem aSh {a:Option Val}(h:jE a b=some r):a=some r/\ b=some r:=by
 unfold jE at h
 split at h<;>simp only[bN7,reduceCtorEq]at h<;>subst h<;>exact⟨rfl,rfl⟩
theorem aSi {a:Option Val}(h:jE a b=some r):a=some r/\ (r= .cl [] \/r= .fz []):=by
 unfold jE at h
 split at h<;>simp only[bN7,reduceCtorEq]at h<;>subst h
 ·exact⟨rfl,.inl rfl⟩
 ·exact⟨rfl,.inr rfl⟩
theorem aPg {L:bG}(hL:oX P L){k:Nat}(ih:aEz P L n)(hlf:L f=some lf)(hlen:args.length=lf.np)(ha:vR lf args=true)
  (h:jE (iH lf k (exec L n) [.es true]) (iH lf k (exec L n) [.es false])=some r):
  (∃fn,P.funcs[f]?=some fn∧(fn.name== "runtime.NumGoroutine")=false∧fn.body.isNone=false)∧
  ∀(T:Nat->Nat->Prop) (G:Gh) (S:Nat->Nat->Prop) (w:World) (vals:Array Value),(∀b o,S b o->b<w.heap.size)->sR S w->vals.size=args.length->(∀i,i<args.length->VR T G w (args.getD i .dead) (vals.getD i undef))->
   Calls P f vals w fun e w'=> ∃v,e= .returned v/\ Below w.heap.size w w'/\ aKp w.heap.size (aDb w S w') w' r v:=by
 obtain⟨h1,h2⟩:=aSh h;simp only[vR,bN8]at ha;obtain⟨_,ha⟩:=ha
 split at ha
 case h_2=>cases ha
 rename_i x;obtain⟨e1,c1⟩:=aE0 (args:=[.es true]) hL ih hlf hlen h1;obtain⟨_,c2⟩:=aE0 (args:=[.es false]) hL ih hlf hlen h2
 refine⟨e1,fun T G S w vals hS hgl hvl hv=>?_⟩
 obtain⟨a,cap,hx⟩:=aXx (hv 0 (by simp)) ha
 have one: ∀(b:Bool),a.isNone=b-> ∀i,i<[Val.es b].length->VR S Gh.none w ([Val.es b].getD i .dead) (vals.getD i undef):=by
  intro b hb i hi;simp only[bOh,bOo]at hi
  obtain rfl:i=0:=by omega
  rw[hx,<-hb];exact .es a cap
 cases hb:a.isNone with
 |true=>exact c1 S w vals hS hgl hvl (one true hb)
 |false=>exact c2 S w vals hS hgl hvl (one false hb)
variable {Ds0:List Nat}{nm:Bool}
theorem aE1 {st0:St}(hR:Rel P Ξ B S G st N a w)
  (hd3: ∀D∈Ds0,B<=D/\ ¬Ξ.defs D/\ w.heap[D]?=some (.deferred (some []))) (hen:st0.en=st.en) (hcnt:st0.cnt=st.cnt) (hvl:vals.size=args.length) (hnp:args.length<=fn.ntmps)
  (hv: ∀i,i<args.length->VR (aW B S G w.heap.size) G w (args.getD i .dead) (vals.getD i undef)) :
  Rel P {prs:=fun u x=>Ξ.prs u x \/ ∃i,u=st.fr i/\ x=a.tmps.getD i undef,ro:=none,rnd:=Ξ.isRnd,defs:=fun D=>Ξ.defs D \/D∈Ds0,nm:=nm,virt:=Ξ.virt} B S G {st0 with fr:=fun i=>args.getD i (.tup [])} fn.ntmps (aPf fn vals) w:=by
 unfold aPf
 refine⟨hR.size,by simp;omega,fun i=>?_,⟨[],rfl,⟨List.nodup_nil,fun _=>rfl⟩,fun D hD=>by simp at hD⟩,fun k e' hk hkn=>hR.ents k e' (hen▸hk) hkn,fun k hk=>hen▸hR.freshEn k (by rw[<-hcnt];exact hk),fun k hk=>hR.freshG k (by rw[<-hcnt];exact hk),
  fun b k t hb'=>by have:=hR.own b k t hb';rw[<-hcnt]at this;exact this,fun u x hu=>?_,fun l hl=>hR.round l (hl.resolve_left (by simp)),fun D hD=>hD.elim (hR.defs D) fun h=>(hd3 D h).2.2,fun k hv=>by have:=hR.virt k hv;rw[<-hcnt]at this;exact this⟩
 ·simp only
  by_cases hi:i<args.length
  ·have e1:args.getD i (.tup [])=args.getD i .dead:=by simp[bOd,hi]
   have e2:(vals++Array.replicate (fn.ntmps-vals.size) undef).getD i undef=vals.getD i undef:=by
    simp only[bOl];rw[Array.getElem?_append_left (by omega)]
   rw[e1,e2];exact hv i hi
  ·have e1:args.getD i (.tup [])= .tup []:=by simp[bOd,List.getElem?_eq_none (Nat.le_of_not_lt hi)]
   have e2:(vals++Array.replicate (fn.ntmps-vals.size) undef).getD i undef=undef:=by
    simp only[bOl];rw[Array.getElem?_append_right (by omega)]
    simp only[bPz];split<;>rfl
   rw[e1,e2];exact .tup [] #[] rfl (fun i hi=>by simp at hi)
 ·rcases hu with(hu|⟨i,rfl,rfl⟩)|hu
  ·exact hR.extra u x (.inl hu)
  ·exact hR.frame i
  ·exact hR.extra u x (.inr hu)
theorem aE2 {ste:St}{M:Nat}{tl:List Deferred}(ha:N<=a.tmps.size)
  (hd1:a.defers=Ds0.map wY++Ξ.tail) (hd2:Ds0.Nodup/\ (Ξ.nm=true->Ds0=[])) (hd3: ∀D∈Ds0,B<=D/\ ¬Ξ.defs D)
  (hR2:Rel P {prs:=fun u x=>Ξ.prs u x \/ ∃i,u=st.fr i/\ x=a.tmps.getD i undef,ro:=none,rnd:=Ξ.isRnd,defs:=fun D=>Ξ.defs D \/D∈Ds0,nm:=nm,tail:=tl,virt:=Ξ.virt} B S G1 ste M a1 w1):
  Rel P Ξ B S G1 {fr:=st.fr,en:=ste.en,cnt:=ste.cnt} N a w1:=
 ⟨hR2.size,ha,fun i=>hR2.extra _ _ (.inl (.inr ⟨i,rfl,rfl⟩)),⟨Ds0,hd1,hd2,fun D hD=>⟨(hd3 D hD).1,(hd3 D hD).2,hR2.defs D (.inr hD)⟩⟩,hR2.ents,hR2.freshEn,hR2.freshG,hR2.own,fun u y hu=>hR2.extra u y (hu.imp_left .inl),
  fun l hl=>hR2.round l (.inr hl),fun D hD=>hR2.defs D (.inl hD),hR2.virt⟩
theorem bD1 {L:bG}(hL:oX P L)(ih:aEz P L n): ∀f args v (st0 st':St),jZ L (exec L n) f args st0=some (v,st')→(∃fn,P.funcs[f]?=some fn∧(fn.name== "runtime.NumGoroutine")=false∧fn.body.isNone=false)∧
  ∀(Ξ:Env) (B:Nat) (S:Nat->Nat->Prop) (G:Gh) (st:St) (N:Nat) (a:Act) (w:World) (vals:Array Value),Rel P Ξ B S G st N a w->st0.en=st.en->st0.cnt=st.cnt->vals.size=args.length->
   (∀i,i<args.length->VR (aW B S G w.heap.size) G w (args.getD i .dead) (vals.getD i undef))->Calls P f vals w (xE P Ξ B S st st' N a w v):=by
 intro f args v st0 st' h;simp only[jZ]at h
 split at h
 ·cases h
 rename_i lf hlf;obtain⟨fn,I,keep,amb,hfn,hlow⟩:=hL f lf hlf;obtain⟨c,hbody,hb,hdst,hnp,hname,hres⟩:=vZ hlow
 split at h
 case isFalse=>cases h
 rename_i hlen
 split at h
 ·rename_i ha;obtain⟨r,hr,he⟩:=bOj.1 h;simp only[bOb]at he;obtain⟨rfl,rfl⟩:=he;obtain⟨e1,c1⟩:=aPg hL ih hlf hlen ha hr
  refine⟨e1,fun Ξ B S G st N a w vals hR hen hcnt hvl hv=>?_⟩
  refine Calls.mono (c1 _ _ (aW B S G w.heap.size) w vals (fun _ _ h=>h.1) hR.glob hvl hv) ?_
  rintro e w' ⟨x,rfl,hbl,hv'⟩
  have hv':VR (aDb w (aW B S G w.heap.size) w') Gh.none w' r x:=by
   obtain⟨h1,h2⟩:=aSi hr;rcases h2 with h2|h2<;>subst h2<;>exact hv'
  have hR':=hR.below hbl
  refine⟨x,G,rfl,?_,hv'.mono ⟨fun b q hg=>?_,Gh.none_le _,fun _ _ _ _ h=>h,fun _ _ _ _ h=>h,fun _ _ h=>h,fun _ r h=>⟨r,h⟩⟩,⟨hbl.os,hbl.tape,hbl.output,hbl.size,fun k hk=>hbl.block k (bOy hk hR.size)⟩⟩
  ·have:({fr:=st.fr,en:=st0.en,cnt:=st0.cnt}:St)=st:=by rw[hen,hcnt]
   rw[this];exact hR'
  ·by_cases hbw:b<w.heap.size
   ·exact⟨hg.1,(hg.2 hbw).2⟩
   ·refine⟨hg.1,.inr ⟨by have:=hR.size;omega,?_⟩⟩
    cases hown:G.own b with
    |none=>trivial
    |some z=>obtain⟨k,t⟩:=z;have:=(hR.own _ _ _ hown).2.1;omega
 split at h
 case h_2=>cases h
 rename_i e ste hx
 split at h
 case isFalse=>cases h
 rename_i hends;obtain⟨vs,hvs,he⟩:=bOj.1 h;simp only[bOb]at he;obtain⟨rfl,rfl⟩:=he
 refine⟨⟨fn,hfn,hname,by rw[hbody];rfl⟩,fun Ξ B S G st N a w vals hR hen hcnt hvl hv=>?_⟩
 obtain⟨Ds0,hd1,hd2,hd3⟩:=hR.marks
 refine ih f fn lf I keep amb e _ ste _ B S G vals w _ hfn hlow hx rfl rfl rfl (aE1 hR hd3 hen hcnt hvl (by omega) hv) fun a1 w1 G1 x1 _ _ hR2 hb2=>?_
 obtain⟨x,hrun,hxv⟩:=vB hR2 hres hvs;have hfin:xE P Ξ B S st {ste with fr:=st0.fr} N a w (yS vs) (.returned x) w1:=⟨x,G1,rfl,aE2 (ste:=ste) hR.tmps hd1 hd2 (fun D hD=>⟨(hd3 D hD).1,(hd3 D hD).2.1⟩) hR2,hxv,hb2⟩
 cases e with
 |normal=>exact⟨x,hrun,hfin⟩
 |exit id=>cases hends
 |ret=>exact⟨x,hrun,hfin⟩
 |panic v=>cases hends
theorem aSj {L:bG}(hL:oX P L)(ih:aEz P L n):aPc P (cG L (exec L n)):=by
 intro f args v h;simp only[cG]at h
 split at h
 ·cases h
 rename_i lf hlf;obtain⟨fn,I,keep,amb,hfn,hlow⟩:=hL f lf hlf;obtain⟨c,hbody,hb,hdst,hnp,hname,hres⟩:=vZ hlow
 split at h
 case isFalse=>cases h
 rename_i hlen
 split at h
 case h_2=>cases h
 rename_i v' st hx;simp only[bN7]at h;subst h
 refine⟨⟨fn,hfn,hname,by rw[hbody];rfl⟩,fun S w vals hS hgl hvl hv=>?_⟩
 refine ih f fn lf I keep amb _ (start args) st {prs:=fun _ _=>False,ro:=none,rnd:=fun _=>False,defs:=fun _=>False} w.heap.size S Gh.none vals w _ hfn hlow hx rfl rfl rfl (aLf hS hgl hvl (by omega) hv) fun a1 w1 G1 x hxv _ hR hbl=>?_
 exact⟨x,rfl,hbl,hxv⟩
theorem aIh {L:bG}(hL:oX P L)(ih:aEz P L n):aPd P (dS L (exec L n)):=by
 intro f args v st0 st' h;simp only[dS]at h
 split at h
 ·cases h
 rename_i lf hlf;obtain⟨fn,I,keep,amb,hfn,hlow⟩:=hL f lf hlf;obtain⟨c,hbody,hb,hdst,hnp,hname,hres⟩:=vZ hlow
 split at h
 case isFalse=>cases h
 rename_i hlen
 split at h
 case h_2=>cases h
 rename_i v' ste hx;simp only[bN7,bOb]at h;obtain⟨rfl,rfl⟩:=h
 refine⟨⟨fn,hfn,hname,by rw[hbody];rfl⟩,fun Ξ B S G st N a w vals hR hen hcnt hvl hv=>?_⟩
 obtain⟨Ds0,hd1,hd2,hd3⟩:=hR.marks
 refine ih f fn lf I keep amb _ _ ste _ B S G vals w _ hfn hlow hx rfl rfl rfl (aE1 hR hd3 hen hcnt hvl (by omega) hv) fun a1 w1 G1 x hxv _ hR2 hb2=>?_
 exact⟨x,G1,rfl,hxv,aE2 (ste:=ste) hR.tmps hd1 hd2 (fun D hD=>⟨(hd3 D hD).1,(hd3 D hD).2.1⟩) hR2,hb2⟩
theorem aLg {T:Nat->Nat->Prop}{G:Gh}{w:World}: ∀(ps:List Nat) (args:List Val) (vals:List Value) (fr:Nat->Val) (tmps:Array Value),args.length=ps.length->vals.length=ps.length->(∀p∈ps,p<tmps.size)->
  (∀i,VR T G w (fr i) (tmps.getD i undef))->(∀i,i<args.length->VR T G w (args.getD i .dead) (vals.getD i undef))->
  (∀i,VR T G w (yT fr ps args i) (((ps.zip vals).foldl (fun t (p:Nat×Value)=>t.setIfInBounds p.1 p.2) tmps).getD i undef))/\ ((ps.zip vals).foldl (fun t (p:Nat×Value)=>t.setIfInBounds p.1 p.2) tmps).size=tmps.size
 |[],args,vals,fr,tmps,_,_,_,hf,_=>⟨hf,rfl⟩
 |p::ps,[],_,_,_,h,_,_,_,_=>by simp at h
 |p::ps,v::args,[],_,_,_,h,_,_,_=>by simp at h
 |p::ps,v::args,x::vals,fr,tmps,h1,h2,h3,hf,hv=>by
  simp only[bOh,Nat.add_right_cancel_iff]at h1 h2;have hp:=h3 p (by simp)
  have:=aLg ps args vals (jB fr p v) (tmps.setIfInBounds p x) h1 h2 (fun q hq=>by simpa using h3 q (by simp[hq])) (fun i=>?_) (fun i hi=>by simpa using hv (i+1) (by simpa using hi))
  ·refine⟨this.1,?_⟩
   have e:=this.2;simp only[List.zip_cons_cons,bQv];rw[e];simp
  ·simp only[bOl,bQs,jB]
   by_cases hi:i=p
   ·subst hi;simpa[hp]using hv 0 (by simp)
   ·have hi': ¬p=i:=fun e=>hi e.symm
    simp only[hi,hi',if_false]
    simpa[bOl]using hf i
theorem bAr {L:bG}(ih:vA P L n): ∀k args v (st0 st':St),aCx (exec L n) k args st0=some (v,st')->
  ∀(Ξ:Env) (B:Nat) (S:Nat->Nat->Prop) (G:Gh) (st:St) (N:Nat) (a:Act) (w:World) (vals:Array Value) (l:Nat) (ro:Option Nat) (m:Nat),Rel P Ξ B S G st N a w->st0.en=st.en->st0.cnt=st.cnt->G.mp k=some l->vals.size=args.length->
   (∀i,i<args.length->VR (aW B S G w.heap.size) G w (args.getD i .dead) (vals.getD i undef))->
   ∃f tmps assign body,(Instr.yield l vals).run P w= .ok (.round l f tmps assign body) w/\ RoundIn (Fx ro) m P l f tmps assign body w (xE P Ξ B S st st' N a w v):=by
 intro k args v st0 st' h Ξ B S G st N a w vals l ro m hR hen hcnt hmp hvl hv;simp only[aCx]at h
 split at h
 case h_2=>cases h
 rename_i fr ps la lb he0
 split at h
 case isFalse=>cases h
 rename_i hlen
 split at h
 case h_2=>cases h
 rename_i st1 hx1
 split at h
 case h_2=>cases h
 rename_i fr1 ps1 la1 lb1 he1
 split at h
 case h_2=>cases h
 rename_i e st2 hx2
 split at h
 case h_2=>cases h
 rename_i fr2 ps2 la2 lb2 hcalm he2;simp only[bN7,bOb]at h;obtain⟨rfl,rfl⟩:=h;rw[hen]at he0;have hE:=hR.ents k _ he0 (Gh.knows_mp hmp);cases hE with
 |loop _ _ _ _ _ l0 rec I N' hl hB hh hps ha hb hN hpN haN hbN hf hst hown=>
 rw[hmp]at hl;simp only[bN7]at hl;subst hl;obtain⟨Ds0,hd1,hd2,hd3⟩:=hR.marks;have hpsz:rec.params.size=ps.length:=by rw[<-hps];simp
 have hyd:=run_yield (P:=P) (args:=vals) hh (by rw[hvl,hlen,hpsz])
 refine⟨_,_,_,_,hyd,?_⟩
 have hfold:(rec.params.zip vals).foldl (fun tmps (t,a)=>tmps.setIfInBounds t a) rec.tmps=(ps.zip vals.toList).foldl (fun t (p:Nat×Value)=>t.setIfInBounds p.1 p.2) rec.tmps:=by
  rw[<-Array.foldl_toList,Array.toList_zip,hps]
 rw[hfold];obtain⟨hfr,hfs⟩:=aLg (T:=aW B S G w.heap.size) (G:=G) (w:=w) ps args vals.toList fr rec.tmps hlen (by simp[hvl,hlen]) (fun p hp=>bOy (by simpa using bOe.1 hpN p hp) hN) hf
  (fun i hi=>by simpa[bOd,bOl]using hv i hi)
 let Ξ':Env:={prs:=fun u x=>Ξ.prs u x \/(∃i,u=st.fr i/\ x=a.tmps.getD i undef) \/(u= .yld k/\ x= .func (.yield l) #[] #[]),ro:=some l,rnd:=Ξ.isRnd,defs:=fun D=>Ξ.defs D \/D∈Ds0,virt:=Ξ.virt}
 have hR0:Rel P Ξ' B S G {fr:=yT fr ps args,en:=st0.en,cnt:=st0.cnt} N' {tmps:=(ps.zip vals.toList).foldl (fun t (p:Nat×Value)=>t.setIfInBounds p.1 p.2) rec.tmps,defers:=[]} w:=by
  refine⟨hR.size,by simp only;rw[hfs];exact hN,hfr,⟨[],rfl,⟨List.nodup_nil,fun _=>rfl⟩,fun D hD=>by simp at hD⟩,fun k e' hk hkn=>hR.ents k e' (hen▸hk) hkn,fun k hk=>hen▸hR.freshEn k (by rw[<-hcnt];exact hk),fun k hk=>hR.freshG k (by rw[<-hcnt];exact hk),
   fun b k t hb'=>by have:=hR.own b k t hb';rw[<-hcnt]at this;exact this,fun u x hu=>?_,fun l' hl'=>?_,fun D hD=>hD.elim (hR.defs D) fun h=>(hd3 D h).2.2,fun k hv=>by have:=hR.virt k hv;rw[<-hcnt]at this;exact this⟩
  ·rcases hu with(hu|⟨i,rfl,rfl⟩|⟨rfl,rfl⟩)|hu
   ·exact hR.extra u x (.inl hu)
   ·exact hR.frame i
   ·exact .yld k l hmp
   ·exact hR.extra u x (.inr hu)
  ·rcases hl' with hl'|hl'
   ·simp only[Ξ',bN7]at hl';subst hl';exact⟨rec,hh⟩
   ·exact hR.round l' hl'
 have wrt: ∀{G1:Gh} {s1:St} {a1:Act} {w1:World} {fr1:Nat->Val} {ps1:List Nat} {la1 lb1:bA} {q1:LSt} (q2:LSt),Rel P Ξ' B S G1 s1 N' a1 w1->s1.en k=some (.loop fr1 ps1 la1 lb1 q1)->
   ∃rec1,w1.heap[l]?=some (.loop rec1)/\ aW8 q1 rec1/\ B<=l/\ ∀rec2:Loop,rec2.params=rec1.params->rec2.assign=rec1.assign->rec2.body=rec1.body->rec2.tmps=rec1.tmps->aW8 q2 rec2->
    Rel P Ξ' B S G1 {s1 with en:=s1.en.set k (some (.loop fr1 ps1 la1 lb1 q2))} N' a1 (jR w1 l (.loop rec2)):=by
  intro G1 s1 a1 w1 fr1 ps1 la1 lb1 q1 q2 hR1 hk;have hy:=hR1.extra (.yld k) (.func (.yield l) #[] #[]) (.inl (.inr (.inr ⟨rfl,rfl⟩)));cases hy with
  |yld _ _ hmp1=>
  have hE1:=hR1.ents k _ hk (Gh.knows_mp hmp1);cases hE1 with
  |loop _ _ _ _ _ l1 rec1 I1 N1 hl1 hB1 hh1 hps1 ha1 hb1 hN1 hpN1 haN1 hbN1 hf1 hst1 hown1=>
  rw[hmp1]at hl1;simp only[bN7]at hl1;subst hl1
  refine⟨rec1,hh1,hst1,hB1,fun rec2 r1 r2 r3 r4 hq=>?_⟩
  exact hR1.write (e':= .loop fr1 ps1 la1 lb1 q2) hown1 hh1 (fun _ _=> .inl (by simp)) (fun _=>by simp) (fun r _=>⟨rec2,rfl⟩) (fun off h=>by omega)
   (fun m=> .loop fr1 ps1 la1 lb1 q2 l rec2 I1 N1 hmp1 hB1 (kH _ (dP hh1)) (by rw[r1];exact hps1) (by rw[r2];exact ha1) (by rw[r3];exact hb1) (by rw[r4];exact hN1) hpN1 haN1 hbN1 (fun i=>by rw[r4];exact(hf1 i).mono m) hq hown1)
 refine roundIn_of_wpIn (F:=Fx ro) trivial ?_
 refine ih I N' rec.assign _ .normal st1 Ξ' B S G _ w _ m (by rw[ha];exact haN) (fun h=>nomatch h) hR0 (by rw[ha];exact hx1) fun a1 w1 G1 x1 _ hR1 hb1=>?_
 have hR1:=hR1.rel rfl;obtain⟨rec1,hh1,hq1,hBl,hw1⟩:=wrt .busy hR1 he1
 refine⟨_,run_beginRound hh1 hq1.1,?_⟩
 have hR1':=hw1 {rec1 with state:= .busy} rfl rfl rfl rfl ⟨rfl,hq1.2⟩
 refine ih I N' rec.body _ e st2 Ξ' B S G1 a1 _ _ m (by rw[hb];exact hbN) (fun h=>nomatch h) hR1' (by rw[hb];exact hx2) fun a2 w2 G2 x2 _ hR2 hb2=>?_
 have hR2:=hR2.rel hcalm;have fin: ∀(jump:Option Code) (q:LSt),aW8 q {state:=if jump.isNone then .ready else .done,pending:=jump,fn:=0,tmps:= #[],params:= #[],assign:= .skip,body:= .skip,defers:=0}->jump.isNone=decide (e= .normal)->q=(if e= .normal then .ready else .done e)->
   ∃v w',(Instr.endRound l jump).run P w2= .ok v w'/\ xE P Ξ B S st {fr:=st0.fr,en:=st2.en.set k (some (.loop fr2 ps2 la2 lb2 (if e= .normal then .ready else .done e))),cnt:=st2.cnt} N a w (.bool (decide (e= .normal))) (.returned v) w':=by
  intro jump q hq hj hqe;obtain⟨rec2,hh2,_,_,hw2⟩:=wrt q hR2 he2;have hR3:=hw2 {rec2 with state:=if jump.isNone then .ready else .done,pending:=jump} rfl rfl rfl rfl (by cases q<;>exact hq)
  refine⟨_,_,run_endRound jump hh2,_,G2,rfl,?_,by rw[hj];exact .bool _,?_⟩
  ·rw[<-hqe];exact⟨hR3.size,hR.tmps,fun i=>hR3.extra _ _ (.inl (.inr (.inl ⟨i,rfl,rfl⟩))),⟨Ds0,hd1,hd2,fun D hD=>⟨(hd3 D hD).1,(hd3 D hD).2.1,hR3.defs D (.inr hD)⟩⟩,hR3.ents,hR3.freshEn,hR3.freshG,hR3.own,fun u y hu=>hR3.extra u y (hu.imp_left .inl),
    fun l' hl'=>hR3.round l' (.inr hl'),fun D hD=>hR3.defs D (.inl hD),hR3.virt⟩
  ·exact((hb1.trans (sE hBl)).trans hb2).trans (sE hBl)
 cases e with
 |normal=>exact fin none .ready ⟨rfl,rfl⟩ rfl rfl
 |exit id=>exact fin (some (.exit id)) (.done (.exit id)) ⟨rfl,rfl,by simp,rfl⟩ (by simp) (by simp)
 |ret=>exact fin (some .ret) (.done .ret) ⟨rfl,rfl,by simp,rfl⟩ (by simp) (by simp)
 |panic v=>cases hcalm
theorem oI {k:Key}: ∀{ks:List Key} {en:En},k∉ks->W.applyAll en (ks.map .frz) k=en k
 |[],_,_=>rfl
 |k'::ks,en,h=>by
  simp only[bO8,not_or]at h;simp only[bO4,W.applyAll,bQv];have:=oI (en:=W.apply en (.frz k')) h.2;simp only[W.applyAll]at this;rw[this];cases he:en k' with
  |none=>simp only[W.apply,he]
  |some e=>simp only[W.apply,he,En.set];rw[if_neg h.1]
variable {k:Key}
section
theorem Rel.norm (hR:Rel P Ξ B S G st N a w){en':En}(h:aC0 st.en k=some en'):
  ∃G',Rel P Ξ B S G' {st with en:=en'} N a w/\ ∀v x,VR (aW B S G w.heap.size) G w v x->VR (aW B S G' w.heap.size) G' w v x:=by
 simp only[aC0]at h
 split at h
 case h_2=>cases h
 rename_i cs hk
 split at h
 case h_2=>cases h
 rename_i rs hrs
 split at h
 case isTrue=>cases h
 rename_i hnk;simp only[bN7]at h;have hnk':k∉rs.flatMap (·.2):=by simpa using hnk
 obtain⟨G',hR',hg,hT,hsnap,hbk⟩:=aBk hR (rs.flatMap (·.2));have hmono: ∀v x,VR (aW B S G w.heap.size) G w v x->VR (aW B S G' w.heap.size) G' w v x:=fun v x hv=>hv.mono' ⟨hT,hg,fun _ _ _ _ h=>h,fun _ _ _ _ h=>h⟩
 refine⟨G',?_,hmono⟩
 have hk':W.applyAll st.en ((rs.flatMap (·.2)).map .frz) k=some (.box cs false):=by rw[oI hnk'];exact hk
 obtain⟨l1,l2⟩:=eE hrs;have hnew:G'.knows k->ER P B (aW B S G' w.heap.size) G' w k (.box (rs.map (·.1)) false):=by
  intro hkn';have hE:=hR.ents k _ hk (hbk k hkn');have hE':=hR'.ents k _ hk' hkn';cases hE with
  |box _ _ b c t hb hB hh hs ho hv hown=>
  cases hE' with
  |box _ _ b' c' t' hb' hB' hh' hs' ho' hv' hown'=>
  have hbb:b'=b:=by have:=hg.box _ _ hb;rw[hb']at this;exact Option.some.inj this
  subst hbb
  refine .box _ _ b' c t hb' hB hh (by simp[hs,l1]) (fun j hj=>ho j (by simpa[l1]using hj)) (fun j hj=>?_) hown'
  have hj1:j<cs.length:=by simpa[l1]using hj
  have hj2:j<rs.length:=by rw[l1];exact hj1
  have hpc:=l2 j hj1 hj2;have hvj:=hv j hj1;have e1:cs.getD j .dead=cs[j]:=by simp[bOd,hj1]
  have e2:(rs.map (·.1)).getD j .dead=rs[j].1:=by simp[bOd,hj2]
  rw[e1]at hvj;rw[e2];have oth: ∀(r:Val×List Key),snap 8 st.en cs[j]=some r->rs[j]=(r.1.wk0,r.2)->VR (aW B S G' w.heap.size) G' w rs[j].1 (c.getD j undef):=by
   intro r hr he;have:=hsnap 8 _ _ _ r.2 hvj hr (fun k' hk'=>bPq.2 ⟨rs[j],bOg hj2,by rw[he];exact hk'⟩)
   rw[he];exact this.wk0.mono' ⟨fun _ _ h=>h,Gh.none_le _,fun _ _ _ _ h=>h,fun _ _ _ _ h=>h⟩
  generalize cs[j]=v at hpc hvj oth;unfold aCz at hpc
  split at hpc
  ·simp only[bN7]at hpc;rw[<-hpc];exact hmono _ _ hvj
  ·split at hpc
   case h_2=>cases hpc
   rename_i r hr;simp only[bN7]at hpc;exact oth r hr hpc.symm
 rw[<-h]
 refine⟨hR'.size,hR'.tmps,hR'.frame,hR'.marks,fun k' e he hkn=>?_,fun k' hk2=>?_,hR'.freshG,hR'.own,hR'.extra,hR'.round,hR'.defs,hR'.virt⟩
 ·simp only[En.set]at he
  split at he
  ·rename_i e;subst e;simp only[bN7]at he;subst he;exact hnew hkn
  ·exact hR'.ents k' e he hkn
 ·simp only[En.set];split
  ·rename_i e;subst e;have:=hR.freshEn k' hk2;rw[hk]at this;cases this
  ·exact hR'.freshEn k' hk2
theorem Rel.norms {x:Val}: ∀{ps:List (List Nat)} {G:Gh} {st:St} {en':En},Rel P Ξ B S G st N a w->norms x ps st.en=some en'->
  ∃G',Rel P Ξ B S G' {st with en:=en'} N a w/\ ∀v x,VR (aW B S G w.heap.size) G w v x->VR (aW B S G' w.heap.size) G' w v x
 |[],G,st,en',hR,h=>by
  simp only[Go.Abs.norms,bN7]at h;subst h;exact⟨G,hR,fun _ _ h=>h⟩
 |p::ps,G,st,en',hR,h=>by
  simp only[Go.Abs.norms]at h
  split at h
  case h_2=>cases h
  split at h
  case h_2=>cases h
  rename_i en1 h1;obtain⟨G1,hR1,m1⟩:=hR.norm h1;obtain⟨G2,hR2,m2⟩:=Rel.norms hR1 h;exact⟨G2,hR2,fun v x hv=>m2 v x (m1 v x hv)⟩
end
theorem aM3 {L:bG}(hL:oX P L)(ih:aEz P L n): ∀f args v (st0 st':St),yU L (exec L n) f args st0=some (v,st')→(∃fn,P.funcs[f]?=some fn∧(fn.name== "runtime.NumGoroutine")=false∧fn.body.isNone=false)∧
  ∀(Ξ:Env) (B:Nat) (S:Nat->Nat->Prop) (G:Gh) (st:St) (N:Nat) (a:Act) (w:World) (vals:Array Value),Rel P Ξ B S G st N a w->st0.en=st.en->st0.cnt=st.cnt->vals.size=args.length->
   (∀i,i<args.length->VR (aW B S G w.heap.size) G w (args.getD i .dead) (vals.getD i undef))->Calls P f vals w (xE P Ξ B S st st' N a w v):=by
 intro f args v st0 st' h;simp only[yU]at h
 split at h
 case h_2=>cases h
 rename_i v1 st1 hi
 split at h
 case h_2=>cases h
 rename_i lf hlf
 split at h
 case h_2=>cases h
 rename_i en' hn;simp only[bN7,bOb]at h;obtain⟨rfl,rfl⟩:=h;obtain⟨e1,c1⟩:=bD1 hL ih _ _ _ _ _ hi
 refine⟨e1,fun Ξ B S G st N a w vals hR hen hcnt hvl hv=>?_⟩
 refine Calls.mono (c1 Ξ B S G st N a w vals hR hen hcnt hvl hv) ?_
 rintro e w' ⟨x,G',rfl,hR',hx,hb⟩
 obtain⟨G2,hR2,m⟩:=hR'.norms hn;exact⟨x,G2,rfl,hR2,m _ _ hx,hb⟩
def Env.add (Ξ:Env)(k:Key):Env:={Ξ with virt:=fun k'=>Ξ.virt k' \/k'=k}
section
variable {o:Oper}
theorem Rel.unadd (h:Rel P (Ξ.add k) B S G st N a w):Rel P Ξ B S G st N a w:=
 ⟨h.size,h.tmps,h.frame,h.marks,h.ents,h.freshEn,h.freshG,h.own,h.extra,h.round,h.defs,fun k' hv=>h.virt k' (.inl hv)⟩
theorem aEy.unadd {e:Ex}(h:aEy P (Ξ.add k) B S G st N e a w):aEy P Ξ B S G st N e a w:=by
 obtain⟨tm,h1,h2⟩:=h;exact⟨tm,h1.unadd,h2⟩
theorem Rel.reserve (h:Rel P Ξ B S G st N a w)(hk:k=⟨0,d,st.cnt 0 d⟩):Rel P (Ξ.add k) B S G (uH k z st) N a w:=by
 subst hk;have hf:=h.freshG ⟨0,d,st.cnt 0 d⟩ (bN9 _)
 refine⟨h.size,h.tmps,h.frame,h.marks,fun k' e he hkn=>?_,fun k' hk'=>?_,fun k' hk'=>h.freshG k' (bOk (nE _ _) hk'),fun b k' t hb=>?_,h.extra,h.round,h.defs,fun k' hv=>?_⟩
 ·simp only[uH,En.set]at he
  split at he
  ·rename_i hke;subst hke;exact absurd hkn (Gh.knows_not hf)
  ·exact h.ents k' e he hkn
 ·have hne:k'≠⟨0,d,st.cnt 0 d⟩:=by rintro rfl;simp only[uH,lM]at hk';omega
  simp only[uH,En.set,if_neg hne];exact h.freshEn k' (bOk (nE _ _) hk')
 ·obtain⟨h1,h2,h3⟩:=h.own b k' t hb;exact⟨h1,h2,bOy h3 (nE _ _)⟩
 ·rcases hv with hv|rfl
  ·obtain⟨v1,v2⟩:=h.virt k' hv;exact⟨v1,bOy v2 (nE _ _)⟩
  ·exact⟨Gh.knows_not hf,by simp only[uH,lM];omega⟩
theorem Rel.realize (h:Rel P (Ξ.add k) B S G st N a w)(hvk: ¬Ξ.virt k){c:Array Value}{t:TypeId}(he:st.en k=some (.box z false))(hs:c.size=z.length)(ho: ∀j,j<z.length->fE (c.getD j undef)=true)
  (hv: ∀j,j<z.length->VR (aW B S G w.heap.size) G w (z.getD j .dead) (c.getD j undef)):Rel P Ξ B S (G.addBox k w.heap.size) st N a (w.alloc (.cells c t)):=by
 obtain⟨u1,u2⟩:=h.virt k (.inr rfl);have hn:=Gh.not_knows u1;have hg:=Gh.le_addBox (b:=w.heap.size) hn.1;have ho': ∀b,b≠w.heap.size->(G.addBox k w.heap.size).own b=G.own b:=fun b hb=>by simp[Gh.addBox,hb]
 have m:=nW (B:=B) (S:=S) (w:=w) (o:= .cells c t) hg ho';have hkk: ∀k',k'≠k->(G.addBox k w.heap.size).box k'=G.box k'/\ (G.addBox k w.heap.size).blk k'=G.blk k'/\ (G.addBox k w.heap.size).mp k'=G.mp k':=fun k' hk'=>by simp[Gh.addBox,hk']
 refine h.unadd.change m (by rw[size_alloc];omega) (fun k' e' hk' hkn=>?_) (fun k' hk'=>?_) (fun b k' t' hb=>?_) (fun k' hv'=>?_)
 ·by_cases hke:k'=k
  ·subst hke;rw[he,bN7]at hk';subst hk';exact .box z false w.heap.size c t (by simp[Gh.addBox]) h.size (eW _ _) hs ho (fun j hj=>(hv j hj).mono m) (by simp[Gh.addBox])
  ·refine(h.ents k' e' hk' (Gh.knows_of hkk hke hkn)).mono m.four fun b _ hb=>?_
   have hlt:=aMn (fun b k t ho=>(h.own b k t ho).2.1) hb
   exact⟨kG w _ hlt,ho' b (Nat.ne_of_lt hlt)⟩
 ·have hne:k'≠k:=by rintro rfl;omega
  obtain⟨j1,j2,j3⟩:=hkk k' hne;obtain⟨f1,f2,f3⟩:=h.freshG k' hk';exact⟨h.freshEn k' hk',by rw[j1];exact f1,by rw[j2];exact f2,by rw[j3];exact f3⟩
 ·by_cases hb':b=w.heap.size
  ·subst hb';simp only[Gh.addBox,if_true,bN7,bOb]at hb;obtain⟨rfl,_⟩:=hb;exact⟨h.size,by rw[size_alloc];omega,u2⟩
  ·rw[ho' b hb']at hb;obtain⟨h1,h2,h3⟩:=h.own b k' t' hb;exact⟨h1,by rw[size_alloc];omega,h3⟩
 ·obtain⟨v1,v2⟩:=h.virt k' (.inl hv');have hne:k'≠k:=by rintro rfl;exact hvk hv'
  exact⟨fun hkn=>v1 (Gh.knows_of hkk hne hkn),v2⟩
theorem aIi (hR:Rel P (Ξ.add k) B S G st N a w)(hvk: ¬Ξ.virt k)(hl:eR P I ops o=some {dst:=some d,op:= .alloc z,guard:=none})(hd:d<N)(hek:st.en k=some (.box z false))
      (kk: ∀a' w' G',Rel P Ξ B S G' {st with fr:=jB st.fr d (.ptr k 0)} N a' w'->Below B w w'->next a' w'):
  if Region.wanted o (yielded ops a.tmps)=true then o.wpIn (Fx ro) m P a w next Q else(∀f,o.about P w a.eval=some f->(Fx ro).fn f)/\ next (a.put o.dst undef) w:=by
 simp only[eR,bOu,bOi,bOw,bN7,aM.mk.injEq]at hl;obtain⟨lop,hop,g,hg,hdst,rfl,rfl⟩:=hl;obtain⟨t,ho,hz⟩:=aF4 hop;have hw:wanted st.fr none=some true:=rfl;rw[oW hR hg hw,if_pos rfl];obtain⟨i,v,hi,hz,hs,ho1,hv⟩:=sV (P:=P) (G:=G) (w:=w) (T:=aW B S G w.heap.size) hz
 refine⟨fun _ _=>trivial,?_⟩
 rw[oV (x:= .value (.pointer (some ⟨w.heap.size,0,none⟩))) (w':=w.alloc (.cells v.cells t)) (by simp[execOp,ho,Instr.alloc,fQ hi hz,newVar,newRow]) (by simp)]
 have hR':=hR.realize hvk (t:=t) hek hs ho1 hv;rw[Oper.uponIn_value];rw[hdst];exact kk _ _ _ (hR'.put hd (.ptr k 0 w.heap.size (by simp[Gh.addBox]))) (mF hR _)
end
theorem yG {k:Key}: ∀(ws:List W) (en:En),(ws.all fun w=>decide (w.key≠k))=true->W.applyAll en ws k=en k
 |[],_,_=>rfl
 |x::ws,en,h=>by
  simp only[bQg,bN8,bRt]at h;have e:W.applyAll en (x::ws)=W.applyAll (x.apply en) ws:=rfl;rw[e,yG ws _ h.2];have hk:=h.1;have key: ∀(k1:Key) (e:Option Ent),k1≠k->En.set en k1 e k=en k:=fun k1 e h=>if_neg fun he=>h he.symm
  clear e;cases x with
  |ent k1 e1=>exact key k1 e1 hk
  |cells k1 off vs=>
   simp only[W.apply];cases h1:en k1 with
   |none=>rfl
   |some e1=>cases e1<;>first|exact key k1 _ hk|rfl
  |elem k1 i off vs=>
   simp only[W.apply];cases h1:en k1 with
   |none=>rfl
   |some e1=>
    cases e1 with
    |blk sz xs f=>
     simp only
     cases h2:xs[i]? with
     |none=>rfl
     |some x=>exact key k1 _ hk
    |_=>rfl
  |frz k1=>
   simp only[W.apply];cases h1:en k1 with
   |none=>rfl
   |some e1=>exact key k1 _ hk
theorem zC {l:Nat->aM}{r:Nat->Res}{L:Nat->Bool}{st:St}{k:Key}: ∀(n:Nat),(∀i,i<n->L i=true->aMj k (r i)=true)->(dC (fun i=>eD (l i) (r i)) L st n).en k=st.en k
 |0,_=>rfl
 |n+1,h=>by
  simp only[dC];have ih:=zC (l:=l) (r:=r) (L:=L) (st:=st) n fun i hi=>h i (by omega)
  split
  ·rename_i hL;have hl:=h n (by omega) hL
   rw[<-ih];simp only[eD];unfold aMj at hl;cases hm:(r n).mem with
   |some p=>rw[hm]at hl;simp only at hl⊢;rw[if_pos hl]
   |none=>rw[hm]at hl;exact yG _ _ hl
  ·exact ih
variable {l':List aM}
theorem aIj (hlen:l'.length=l.length)(hd: ∀i,i<l.length->(l'.getD i default).dst=(l.getD i default).dst)(hu: ∀i,i<l.length-> ∀d∈(l'.getD i default).uses,d∈(l.getD i default).uses)
  (hm: ∀i,i<l.length->((l'.getD i default).op.writesMem=true->(l.getD i default).op.writesMem=true)/\ ((l'.getD i default).op.readsMem=true->(l.getD i default).op.readsMem=true)) (h:fI an l=some ps):
  ∃ps',fI an l'=some ps'/\ ∀p∈ps',p∈ps:=by
 simp only[fI]at h⊢
 split at h
 case isFalse=>cases h
 rename_i hall;simp only[bN7]at h;rw[hlen];have hc:((List.range l.length).all fun k=>(List.range l.length).all fun i=>i==k||
   (match(l'.getD i default).dst with
    |some d=>(l'.getD k default).dst !=some d&&(!(l'.getD k default).uses.contains d||((an.getD k []).contains i||(an.getD i []).contains k))
    |none=>true))=true:=by
  rw[bOe];intro k hk;rw[bOe];intro i hi;have hk':=bO7.1 hk;have hi':=bO7.1 hi;have h0:=bOe.1 (bOe.1 hall k hk) i hi;rw[bPe]at h0⊢
  refine h0.imp id fun h0=>?_
  rw[hd i hi',hd k hk'];cases hdd:(l.getD i default).dst with
  |none=>rfl
  |some d=>
   rw[hdd]at h0;simp only[bN8]at h0⊢
   refine⟨h0.1,?_⟩
   have h1:=h0.2;rw[bPe]at h1⊢
   refine h1.imp (fun h2=>?_) id
   simp only[bPg,bPx,bRu]at h2⊢;exact fun h3=>h2 (hu k hk' d h3)
 refine⟨_,if_pos hc,fun p hp=>?_⟩
 rw[<-h];simp only[bPq,bO7,bO5,bPy,bN8]at hp⊢;obtain⟨k,hk,i,⟨hik,hord,hcond⟩,rfl⟩:=hp
 refine⟨k,hk,i,⟨hik,hord,?_⟩,rfl⟩
 have mi:=hm i (by omega)
 have mk:=hm k hk;simp only[bPe,bN8]at hcond⊢;exact hcond.imp (fun h=>⟨mi.1 h.1,h.2.imp mk.2 mk.1⟩) (fun h=>⟨mk.1 h.1,mi.2 h.2⟩)
variable {A:Nat}
theorem tB (hA:A<l.length)(i:Nat):(iO A k l).getD i default=if i=A then yE k (l.getD A default)else l.getD i default:=by
 simp only[iO,bOd,bQu]
 by_cases h:A=i
 ·subst h;simp[hA]
 ·rw[if_neg h,if_neg fun e=>h e.symm]
theorem oY :(iO A k l).length=l.length:=by simp[iO]
theorem aIk (hA:A<l.length)(h:fI an l=some ps): ∃ps',fI an (iO A k l)=some ps'/\ ∀p∈ps',p∈ps:=by
 refine aIj oY (fun i hi=>?_) (fun i hi d hd=>?_) (fun i hi=>?_) h
 ·rw[tB hA];split
  ·rename_i e;subst e;rfl
  ·rfl
 ·rw[tB hA]at hd;split at hd
  ·simp[yE,aM.uses,LOp.opds,Opd.tmp]at hd
  ·exact hd
 ·rw[tB hA];split
  ·exact⟨fun h=>by simp[yE,LOp.writesMem]at h,fun h=>by simp[yE,LOp.readsMem]at h⟩
  ·exact⟨id,id⟩
section
theorem aXy (hcall:kU P call)(hio:vY P io)(hl:cM (eR P I ops) ops.toList=some l)(hd:l.all (fun o=>o.dst.all (· <N))=true)(han:aOt ops=some an)
   (hps:fI an l=some ps)   {kA:Key} (hA:A<l.length) (hAo:l.getD A default={dst:=some d,op:= .alloc z,guard:=none}) (hvk: ¬Ξ.virt kA)   (hrun:iL n call io 0 (iO A kA l) st=some (stn,rs)) (hok:dG rs ps=true) (hleft:nS an A kA rs=true) (hek:st.en kA=some (.box z false)) :
  ∀(fuel:Nat) (listed:Array Bool) (G:Gh) (a:Act) (w:World),listed.size=ops.size->(List.range ops.size).countP (fun i=>!listed.getD i false)<=fuel->xH ops (fun i=>listed.getD i false)->
   Rel P (if listed.getD A false=true then Ξ else Ξ.add kA) B S G (dC (fun k=>eD ((iO A kA l).getD k default) (rs.getD k bZ)) (fun i=>listed.getD i false) st ops.size) N a w->(∀a' w' G',Rel P Ξ B S G' stn N a' w'->Below B w w'->Q .normal a' w')->
   wpAnyIn (Fx ro) m P .any ops Q fuel listed a w:=by
 obtain⟨l1,l2⟩:=eE hl;have hN:l.length=ops.size:=by rw[l1];simp
 obtain⟨hrl,s,hrun',hsn⟩:=sZ hrun;rw[oY,hN]at hrun' hsn;obtain⟨ps',hps',hsub⟩:=aIk (k:=kA) hA hps;have hok':=zB hok hsub;have hlt:=aHd han;have hw: ∀i,i<(iO A kA l).length->(((iO A kA l).getD i default).op.writesMem=false->(rs.getD i bZ).quiet)/\ (((iO A kA l).getD i default).op.readsMem=false->(rs.getD i bZ).rs=[]):=
  fun i hi=>(qP (hrun'.step i (by rw[oY]at hi;omega))).2.2
 have hfree: ∀i j,i<j->j<ops.size-> ¬i∈an.getD j []->aGy ((iO A kA l).getD i default) ((iO A kA l).getD j default) (rs.getD i bZ) (rs.getD j bZ):=
  fun i j hij hj ho=>aHe hps' hok' hw (fun j i hj hi=>hlt j i (by rw[oY]at hj;omega) hi) hij (by rw[oY];omega) ho
 have full: ∀(listed:Array Bool),listed.size=ops.size->Region.ready .any ops listed=[]-> ∀i,i<ops.size->listed.getD i false=true:=by
  intro listed hsz hr i
  induction i using Nat.strongRecOn with
  |ind i ih=>
   intro hi;cases hb:listed.getD i false with
   |true=>rfl
   |false=>
    exfalso
    have hm:i∈Region.ready .any ops listed:=by
     rw[mem_ready]
     refine⟨?_,ops[i],bOv hi,fun e he hbd=>?_⟩
     ·rw[bOl,bOv (by omega)]at hb⊢;simpa using hb
     ·have hk:e.on∈kV ops[i]:=bO5.2 ⟨e,bPy.2 ⟨by simpa using he,hbd⟩,rfl⟩
      have:=(sF han (bOv hi)).1 _ hk;exact ih _ this (by omega)
    rw[hr]at hm;simp at hm
 have done: ∀(listed:Array Bool) (G:Gh) (a:Act) (w:World),listed.size=ops.size->Region.ready .any ops listed=[]->
   Rel P (if listed.getD A false=true then Ξ else Ξ.add kA) B S G (dC (fun k=>eD ((iO A kA l).getD k default) (rs.getD k bZ)) (fun i=>listed.getD i false) st ops.size) N a w->(∀a' w' G',Rel P Ξ B S G' stn N a' w'->Below B w w'->Q .normal a' w')->Q .normal a w:=by
  intro listed G a w hsz hr hR hQ
  refine hQ a w G ?_ (Below.refl _ _)
  rw[if_pos (full listed hsz hr A (by omega)),cE (L':=fun _=>true) fun i hi=>full listed hsz hr i hi,<-hrun'.fold _ (bN9 _),hsn]at hR
  exact hR
 intro fuel
 induction fuel with
 |zero=>
  intro listed G a w hsz hc hcl hR hQ;have hr:Region.ready .any ops listed=[]:=by
   cases h:Region.ready .any ops listed with
   |nil=>rfl
   |cons i iT=>
    exfalso
    have hm:i∈Region.ready .any ops listed:=by rw[h];simp
    obtain⟨h0,o,ho,_⟩:=mem_ready.1 hm;have hi:=(bPv.1 ho).1;have hb:listed.getD i false=false:=by
     rw[bOl,bOv (by omega)]at h0⊢;simpa using h0
    have:=bRm (p:=fun i=>!listed.getD i false) (l:=List.range ops.size)|>.2 ⟨i,bO7.2 hi,by simp only[hb];rfl⟩
    omega
  exact⟨hr,done listed G a w hsz hr hR hQ⟩
 |succ fuel ih=>
  intro listed G a w hsz hc hcl hR hQ
  refine⟨fun hr=>done listed G a w hsz hr hR hQ,fun i hm=>?_⟩
  obtain⟨h0,o,ho,hready⟩:=mem_ready.1 hm;have hi:=(bPv.1 ho).1;have hoi:o=ops[i]:=by rw[bOv hi,bN7]at ho;exact ho.symm
  have hb:listed.getD i false=false:=by
   rw[bOl,bOv (by omega)]at h0⊢;simpa using h0
  have hdir: ∀k∈kV o,listed.getD k false=true:=by
   intro k hk;obtain⟨e,he,rfl⟩:=bO5.1 hk;obtain⟨he1,he2⟩:=bPy.1 he;exact hready e (by simpa using he1) he2
  have hst:=aAz hrun' (ord:=fun i j=>j<ops.size/\ i∈an.getD j []) (fun i j h=>hlt j i h.1 h.2) (fun i j hij hj ho=>hfree i j hij hj fun h=>ho ⟨hj,h⟩) (L:=fun i=>listed.getD i false)
   (fun j hj hLj i hord=>fV han hcl j _ (bOv hj) (hcl j _ (bOv hj) hLj) i hord.2) hi hb
   (fun k hk=>fV han hcl i o ho hdir k hk.2)
  have hset: ∀k,(listed.setIfInBounds i true).getD k false=(k==i||listed.getD k false):=by
   intro k
   by_cases hk:k=i
   ·subst hk;simp[show k<listed.size by omega]
   ·rw[getD_set_ne false fun e=>hk e.symm]
    have:(k==i)=false:=by simpa using hk
    rw[this,bO6]
  have hil:i<l.length:=by omega
  have hlow:=l2 i (by simpa using hi) hil
  simp only[bQ0]at hlow;have hli:l.getD i default=l[i]:=by simp[bOd,hil]
  unfold wpOpIn;rw[bOv hi];have go: ∀a' w' G',Rel P (if(listed.setIfInBounds i true).getD A false=true then Ξ else Ξ.add kA) B S G' (dC (fun k=>eD ((iO A kA l).getD k default) (rs.getD k bZ)) (fun k=>k==i||listed.getD k false) st ops.size) N a' w'->Below B w w'->wpAnyIn (Fx ro) m P .any ops Q fuel (listed.setIfInBounds i true) a' w':=by
   intro a' w' G' h1 h2
   refine ih _ G' a' w' (by simpa using hsz) ?_ ?_ ?_ fun a'' w'' G'' h3 h4=>hQ a'' w'' G'' h3 (h2.trans h4)
   ·have:=tA (fun i=>!listed.getD i false) (fun k=>!(listed.setIfInBounds i true).getD k false) i (by simp only[hb];rfl) (by simp only[hset];simp) (fun k hk=>by
     simp only[hset];have:(k==i)=false:=by simpa using hk
     rw[this,bO6]) ops.size hi
    omega
   ·intro j oj hoj hLj k hk;simp only[hset]at hLj⊢
    by_cases hj:j=i
    ·subst hj;rw[ho,bN7]at hoj;subst hoj;rw[hdir k hk,bP3]
    ·have:(j==i)=false:=by simpa using hj
     rw[this,bO6]at hLj;have h5:listed.getD k false=true:=hcl j oj hoj hLj k hk;rw[h5,bP3]
   ·rw[cE (L':=fun k=>k==i||listed.getD k false) fun k _=>hset k]
    exact h1
  by_cases hiA:i=A
  ·subst hiA;rw[if_neg (by rw[hb];simp)]at hR
   have hset':(listed.setIfInBounds i true).getD i false=true:=by rw[hset];simp
   rw[if_pos hset']at go;rw[tB hA,if_pos rfl]at hst;have hfold:dC (fun k=>eD ((iO i kA l).getD k default) (rs.getD k bZ)) (fun k=>k==i||listed.getD k false) st ops.size=
     {dC (fun k=>eD ((iO i kA l).getD k default) (rs.getD k bZ)) (fun k=>listed.getD k false) st ops.size with fr:=jB (dC (fun k=>eD ((iO i kA l).getD k default) (rs.getD k bZ)) (fun k=>listed.getD k false) st ops.size).fr d (.ptr kA 0)}:=by
    rw[hAo]at hst;have h0: ∀X:St,step n call io 0 X (yE kA {dst:=some d,op:= .alloc z,guard:=none})=some ({X with fr:=jB X.fr d (.ptr kA 0)},{v:= .ptr kA 0}):=fun X=>rfl
    rw[h0]at hst;simp only[bN7,bOb]at hst;exact hst.1.symm
   rw[hfold]at go;have hlow':eR P I ops ops[i]=some {dst:=some d,op:= .alloc z,guard:=none}:=by rw[hlow,<-hli,hAo]
   have hdN:d<N:=by
    have:=bOe.1 hd _ (bOg hil);rw[<-hli,hAo]at this
    simpa using this
   refine aIi hR hvk hlow' hdN ?_ go
   rw[zC ops.size fun q hq hLq=>?_]
   ·exact hek
   ·have hqi:q≠i:=by rintro rfl;rw[hb]at hLq;cases hLq
    have hqA: ¬i∈an.getD q []:=fun h=>by
     have:=fV han hcl q _ (bOv hq) (hcl q _ (bOv hq) hLq) i h;rw[hb]at this;cases this
    have:=bOe.1 hleft q (bO7.2 (by rw[hrl,oY,hN];exact hq))
    simp only[bPe,beq_iff_eq,hqi,false_or,bPx,bRt,hqA]at this;have hqr:q<rs.length:=by rw[hrl,oY,hN];exact hq
    rw[bPh hqr]at this
    simpa[bOd,hqr]using this
  ·rw[tB hA,if_neg hiA,hli]at hst;have hset':(listed.setIfInBounds i true).getD A false=listed.getD A false:=by
    rw[hset];have:(A==i)=false:=by simpa using fun e=>hiA e.symm
    rw[this,bO6]
   rw[hset']at go;exact nY hcall hio hR hlow (bOe.1 hd _ (bOg hil)) hst go
theorem aVa (hcall:kU P call)(hio:vY P io)(hpan:aPc P pan)(hpin:aPd P pin)(hl:cM (eR P I ops) ops.toList=some l)(hd:l.all (fun o=>o.dst.all (· <N))=true)(han:aOt ops=some an)
   (hps:fI an l=some ps)   {kA:Key} (hA:A<l.length) (hAo:l.getD A default={dst:=some d,op:= .alloc z,guard:=none}) (hvk: ¬Ξ.virt kA)  (hl':l'=iO A kA l) {st1:St}    (hj:j<l.length) (hjA:j≠A)
  (hrun:iL n call io 0 (cT an j l') st=some (st1,rs)) (hck:(dG rs ps&&jI an j l' rs)=true) (hleft:nS an A kA rs=true) (hek:st.en kA=some (.box z false)) (hpj:dH n pan pin st1 (l'.getD j default)=some (v,st2)) 
     (hR0:Rel P (Ξ.add kA) B S G0 st N a0 w0) (hQ: ∀a' w' G' x,(Ex.panic v).val x->aEy P Ξ B S G' {fr:=fun t=>if lW l' t then .tup []else st2.fr t,en:=st2.en,cnt:=st2.cnt} N (.panic v) a' w'->Below B w0 w'->Q ((Ex.panic v).toExit x) a' w'):
  wpAnyIn (Fx ro) m P .any ops Q ops.size (Array.replicate ops.size false) a0 w0:=by
 obtain⟨l1,l2⟩:=eE hl;have hN:l.length=ops.size:=by rw[l1];simp
 have hlen':l'.length=l.length:=by rw[hl',oY]
 have hget: ∀i,l'.getD i default=if i=A then yE kA (l.getD A default)else l.getD i default:=fun i=>by rw[hl'];exact tB hA i
 obtain⟨ps0,hps0,hsub0⟩:=aIk (k:=kA) hA hps;rw[<-hl']at hps0;simp only[jI,bN8,bOe,bO7,bPe]at hck;obtain⟨hok,hstill⟩:=hck;obtain⟨ps',hps',hsub⟩:=aBm (j:=j) hps0;have hok':=zB hok fun p hp=>hsub0 p (hsub p hp)
 obtain⟨hrl,s,hrun',hsn⟩:=sZ hrun;have hN':(cT an j l').length=ops.size:=by rw[rT,hlen',hN]
 rw[hN']at hrun' hsn;have hlt:=aHd han;have hw: ∀i,i<(cT an j l').length->(((cT an j l').getD i default).op.writesMem=false->(rs.getD i bZ).quiet)/\ (((cT an j l').getD i default).op.readsMem=false->(rs.getD i bZ).rs=[]):=
  fun i hi=>(qP (hrun'.step i (by omega))).2.2
 have hfree: ∀i k,i<k->k<ops.size-> ¬i∈an.getD k []->aGy ((cT an j l').getD i default) ((cT an j l').getD k default) (rs.getD i bZ) (rs.getD k bZ):=
  fun i k hik hk ho=>aHe hps' hok' hw (fun j i hj hi=>hlt j i (by omega) hi) hik (by omega) ho
 have hjN:j<ops.size:=by omega
 have atj: ∀(L:Nat->Bool),xH ops L->(∀k,k∈an.getD j []->L k=true)->(∀k,behind an j k=true->L k=false)->
   dH n pan pin (dC (fun k=>eD ((cT an j l').getD k default) (rs.getD k bZ)) L st ops.size) (l'.getD j default)=
    some (v,{fr:=(dC (fun k=>eD ((cT an j l').getD k default) (rs.getD k bZ)) L st ops.size).fr,en:=st2.en,cnt:=st2.cnt}):=by
  intro L hcl hanc hbeh;have hb: ∀k,k<ops.size->(rs.getD k bZ).bump=true->((cT an j l').getD k default).dst.isSome=true:=fun k hk=>(qP (hrun'.step k hk)).2.1
  have drop:=sY (E:=fun k=>eD ((cT an j l').getD k default) (rs.getD k bZ)) (L:=fun _=>true) (s:=st) (n:=ops.size)
   (fun a b=>a.en=b.en/\ a.cnt=b.cnt/\ ∀t∈(l'.getD j default).uses,a.fr t=b.fr t) (fun _=>⟨rfl,rfl,fun _ _=>rfl⟩) (fun a b c h k=>⟨h.1.trans k.1,h.2.1.trans k.2.1,fun t ht=>(h.2.2 t ht).trans (k.2.2 t ht)⟩) L ops.size (bN9 _) (fun k hk _ hLk=>by
    refine⟨fun s=>?_,fun k2 hk2 hk2N _ hLk2 s=>?_⟩
    ·by_cases hbk:behind an j k=true
     ·have hst:=hrun'.step k hk;rw[gP (by omega),if_pos hbk]at hst
      have hr:rs.getD k bZ={v:= .nilp}:=by
       simp only[aHr,step,wanted,eval,St.get,bN7,bOb]at hst
       simp at hst
       exact hst.2.symm
      rw[gP (by omega),if_pos hbk,hr]
      exact⟨rfl,rfl,fun _ _=>rfl⟩
     ·have hnot: ¬k∈an.getD j []:=fun h=>by rw[hanc k h]at hLk;cases hLk
      have h0:=hstill k (by omega)
      simp only[hbk,bOa,false_or,bPx,bRt,hnot]at h0
      split at h0
      case h_2=>cases h0
      rename_i r hr;have hr':rs.getD k bZ=r:=by simp[bOd,hr]
      rw[hr'];simp only[Res.still,bN8,bQ6,bPg,bQ7]at h0;obtain⟨⟨q1,q2⟩,q3⟩:=h0
      refine⟨by simp only[eD,q3,q1,W.applyAll,bQl],by simp only[eD,q3,q2,bOa,if_false],fun t ht=>?_⟩
      simp only[eD];rw[sG (by omega) hbk]
      refine oH fun d hd he=>?_
      subst he;simp only[fI]at hps0
      split at hps0
      case isFalse=>cases hps0
      rename_i hall;have hkj:k≠j:=fun e=>hbk (by simp[behind,e])
      have:=bOe.1 (bOe.1 hall j (bO7.2 (by omega))) k (bO7.2 (by omega))
      simp only[bPe,beq_iff_eq,hkj,false_or,hd]at this;simp only[bN8,bne_iff_ne,ne_eq,bPe,bPg,bPx,bRt,bRu]at this;rcases this.2 with h1|h1|h1
      ·exact h1 ht
      ·exact hnot h1
      ·exact hbk (by simp only[behind,bPx,bPe,bRt];exact .inr h1)
    ·have ho: ¬k∈an.getD k2 []:=fun h=>by
      have:=fV han hcl k2 _ (bOv hk2N) (hcl k2 _ (bOv hk2N) hLk2) k h;rw[this]at hLk;cases hLk
     exact(hfree k k2 hk2 hk2N ho).comm (hb k (by omega)) (hb k2 hk2N) s)
  have e1:dC (fun k=>eD ((cT an j l').getD k default) (rs.getD k bZ)) (fun k=>true&&(L k||decide (k<ops.size))) st ops.size=st1:=by
   rw[cE (L':=fun _=>true) fun i hi=>by simp[hi],<-hrun'.fold _ (bN9 _),hsn]
  have e2:dC (fun k=>eD ((cT an j l').getD k default) (rs.getD k bZ)) (fun k=>true&&L k) st ops.size=dC (fun k=>eD ((cT an j l').getD k default) (rs.getD k bZ)) L st ops.size:=by
   exact cE fun i _=>by simp
  rw[e1,e2]at drop;exact(rU hpj drop.1.symm drop.2.1.symm fun t ht=>(drop.2.2 t ht).symm).1
 have main: ∀(fuel:Nat) (listed:Array Bool) (G:Gh) (a:Act) (w:World),listed.size=ops.size->(List.range ops.size).countP (fun i=>!listed.getD i false)<=fuel->xH ops (fun i=>listed.getD i false)->(∀k,k<ops.size->behind an j k=true->listed.getD k false=false)->
   Rel P (if listed.getD A false=true then Ξ else Ξ.add kA) B S G (dC (fun k=>eD ((cT an j l').getD k default) (rs.getD k bZ)) (fun i=>listed.getD i false) st ops.size) N a w->Below B w0 w->
   wpAnyIn (Fx ro) m P .any ops Q fuel listed a w:=by
  have jready: ∀(listed:Array Bool),listed.size=ops.size->listed.getD j false=false->Region.ready .any ops listed≠[]:=by
   intro listed hsz hb hr;have: ∀i,i<ops.size->listed.getD i false=true:=by
    intro i
    induction i using Nat.strongRecOn with
    |ind i ih=>
     intro hi;cases hb:listed.getD i false with
     |true=>rfl
     |false=>
      exfalso
      have hm:i∈Region.ready .any ops listed:=by
       rw[mem_ready]
       refine⟨?_,ops[i],bOv hi,fun e he hbd=>?_⟩
       ·rw[bOl,bOv (by omega)]at hb⊢;simpa using hb
       ·have hk:e.on∈kV ops[i]:=bO5.2 ⟨e,bPy.2 ⟨by simpa using he,hbd⟩,rfl⟩
        have:=(sF han (bOv hi)).1 _ hk;exact ih _ this (by omega)
      rw[hr]at hm;simp at hm
   rw[this j hjN]at hb;cases hb
  intro fuel
  induction fuel with
  |zero=>
   intro listed G a w hsz hc hcl hbeh hR hB
   exfalso
   have hb:=hbeh j hjN (by simp[behind])
   have:=bRm (p:=fun i=>!listed.getD i false) (l:=List.range ops.size)|>.2 ⟨j,bO7.2 hjN,by simp only[hb];rfl⟩
   omega
  |succ fuel ih=>
   intro listed G a w hsz hc hcl hbeh hR hB
   refine⟨fun hr=>absurd hr (jready listed hsz (hbeh j hjN (by simp[behind]))),fun i hm=>?_⟩
   obtain⟨h0,o,ho,hready⟩:=mem_ready.1 hm;have hi:=(bPv.1 ho).1;have hoi:o=ops[i]:=by rw[bOv hi,bN7]at ho;exact ho.symm
   have hb:listed.getD i false=false:=by
    rw[bOl,bOv (by omega)]at h0⊢;simpa using h0
   have hdir: ∀k∈kV o,listed.getD k false=true:=by
    intro k hk;obtain⟨e,he,rfl⟩:=bO5.1 hk;obtain⟨he1,he2⟩:=bPy.1 he;exact hready e (by simpa using he1) he2
   have hanci: ∀k∈an.getD i [],listed.getD k false=true:=fun k hk=>fV han hcl i o ho hdir k hk
   have hil:i<l.length:=by omega
   have hlow:=l2 i (by simpa using hi) hil
   simp only[bQ0]at hlow;have hli:l.getD i default=l[i]:=by simp[bOd,hil]
   unfold wpOpIn;rw[bOv hi]
   by_cases hij:i=j
   ·subst hij;have hp:=atj (fun i=>listed.getD i false) hcl hanci (fun k hk=>by
     by_cases hkN:k<ops.size
     ·exact hbeh k hkN hk
     ·rw[bOl,Array.getElem?_eq_none (by omega)];rfl)
    rw[hget,if_neg hjA,hli]at hp;obtain⟨q1,q2⟩:=uZ (ops:=ops) (ro:=ro) (m:=m) (next:=fun a w=>wpAnyIn (Fx ro) m P .any ops Q fuel (listed.setIfInBounds i true) a w) (Q:=Q) hpan hpin hR hlow hp fun a' w' G' x h1 h2 h3=>by
     refine hQ a' w' G' x h1 ?_ (hB.trans h3)
     have hun: ∀{Ga:Gh} {sa:St} {aa:Act} {wa:World},Rel P (if listed.getD A false=true then Ξ else Ξ.add kA) B S Ga sa N aa wa->Rel P Ξ B S Ga sa N aa wa:=fun h=>by
      split at h
      ·exact h
      ·exact h.unadd
     replace h2:=hun h2
     have hfr:st2.fr=st1.fr:=(rU hpj rfl rfl fun _ _=>rfl).2
     refine⟨a'.tmps.mapIdx fun t y=>if lW l' t then undef else y,?_,fun h=>(by cases h),fun t ht=>?_⟩
     ·refine⟨h2.size,by simpa using h2.tmps,fun t=>?_,h2.marks,h2.ents,h2.freshEn,h2.freshG,h2.own,h2.extra,h2.round,h2.defs,h2.virt⟩
      have hfrm:=h2.frame t
      simp only at hfrm⊢
      by_cases hdt:lW l' t=true
      ·rw[if_pos hdt];have:(a'.tmps.mapIdx fun t y=>if lW l' t then undef else y).getD t undef=undef:=by
        simp only[bOl,bRg];cases a'.tmps[t]? with
        |none=>rfl
        |some y=>simp[hdt]
       rw[this];exact .tup [] #[] rfl (fun i hi=>by simp at hi)
      ·rw[if_neg hdt];have e1:(a'.tmps.mapIdx fun t y=>if lW l' t then undef else y).getD t undef=a'.tmps.getD t undef:=by
        simp only[bOl,bRg];cases a'.tmps[t]? with
        |none=>rfl
        |some y=>simp[hdt]
       have hne: ∀k,k<ops.size->((cT an i l').getD k default).dst≠some t:=by
        intro k hk he
        by_cases hbk:behind an i k=true
        ·rw[gP (by omega),if_pos hbk]at he
         cases he
        ·rw[sG (by omega) hbk]at he
         refine hdt ?_
         simp only[lW,bQ8,beq_iff_eq];exact⟨l'[k]'(by omega),bOg (by omega),by simpa[bOd,show k<l'.length by omega]using he⟩
       rw[aA0 (r:=fun k=>rs.getD k bZ) ops.size hne]at hfrm
       have e2:st2.fr t=st.fr t:=by
        rw[hfr,<-hsn,hrun'.fold _ (bN9 _)];exact aA0 (r:=fun k=>rs.getD k bZ) ops.size hne
       rw[e1,e2];exact hfrm
     ·simp only at ht
      split at ht
      ·cases ht
      ·rename_i hdt;simp only[bOl,bRg];cases a'.tmps[t]? with
       |none=>rfl
       |some y=>simp[hdt]
    simp only[q1,if_true];exact q2
   ·have hbi: ¬behind an j i=true:=fun h=>by
     simp only[behind,bPx,bPe,beq_iff_eq,bRt]at h;rcases h with h|h
     ·exact hij h
     ·have:=hanci j h;rw[hbeh j hjN (by simp[behind])]at this;cases this
    have hst:=aAz hrun' (ord:=fun i j=>j<ops.size/\ i∈an.getD j []) (fun i j h=>hlt j i h.1 h.2) (fun i j hij hj ho=>hfree i j hij hj fun h=>ho ⟨hj,h⟩) (L:=fun i=>listed.getD i false)
     (fun j hj hLj i hord=>fV han hcl j _ (bOv hj) (hcl j _ (bOv hj) hLj) i hord.2) hi hb
     (fun k hk=>hanci k hk.2)
    rw[gP (by omega),if_neg hbi]at hst
    have hset: ∀k,(listed.setIfInBounds i true).getD k false=(k==i||listed.getD k false):=by
     intro k
     by_cases hk:k=i
     ·subst hk;simp[show k<listed.size by omega]
     ·rw[getD_set_ne false fun e=>hk e.symm]
      have:(k==i)=false:=by simpa using hk
      rw[this,bO6]
    have go: ∀a' w' G',Rel P (if(listed.setIfInBounds i true).getD A false=true then Ξ else Ξ.add kA) B S G' (dC (fun k=>eD ((cT an j l').getD k default) (rs.getD k bZ)) (fun k=>k==i||listed.getD k false) st ops.size) N a' w'->Below B w w'->wpAnyIn (Fx ro) m P .any ops Q fuel (listed.setIfInBounds i true) a' w':=by
     intro a' w' G' h1 h2
     refine ih _ G' a' w' (by simpa using hsz) ?_ ?_ ?_ ?_ (hB.trans h2)
     ·have:=tA (fun i=>!listed.getD i false) (fun k=>!(listed.setIfInBounds i true).getD k false) i (by simp only[hb];rfl) (by simp only[hset];simp) (fun k hk=>by
       simp only[hset];have:(k==i)=false:=by simpa using hk
       rw[this,bO6]) ops.size hi
      omega
     ·intro j oj hoj hLj k hk;simp only[hset]at hLj⊢
      by_cases hj:j=i
      ·subst hj;rw[ho,bN7]at hoj;subst hoj;rw[hdir k hk,bP3]
      ·have:(j==i)=false:=by simpa using hj
       rw[this,bO6]at hLj;have h5:listed.getD k false=true:=hcl j oj hoj hLj k hk;rw[h5,bP3]
     ·intro k hkN hk;rw[hset];have:(k==i)=false:=by
       simp only[beq_eq_false_iff_ne,ne_eq]
       rintro rfl
       exact hbi hk
      rw[this,bO6];exact hbeh k hkN hk
     ·rw[cE (L':=fun k=>k==i||listed.getD k false) fun k _=>hset k]
      exact h1
    by_cases hiA:i=A
    ·subst hiA;rw[if_neg (by rw[hb];simp)]at hR
     have hset':(listed.setIfInBounds i true).getD i false=true:=by rw[hset];simp
     rw[if_pos hset']at go;have hnl:yD an j l' i=false:=by
      unfold yD;rw[hget,if_pos rfl];simp only[yE,bPp]
     rw[if_neg (by rw[hnl];simp),hget,if_pos rfl]at hst
     have hfold:dC (fun k=>eD ((cT an j l').getD k default) (rs.getD k bZ)) (fun k=>k==i||listed.getD k false) st ops.size=
       {dC (fun k=>eD ((cT an j l').getD k default) (rs.getD k bZ)) (fun k=>listed.getD k false) st ops.size with fr:=jB (dC (fun k=>eD ((cT an j l').getD k default) (rs.getD k bZ)) (fun k=>listed.getD k false) st ops.size).fr d (.ptr kA 0)}:=by
      rw[hAo]at hst;have h0: ∀X:St,step n call io 0 X (yE kA {dst:=some d,op:= .alloc z,guard:=none})=some ({X with fr:=jB X.fr d (.ptr kA 0)},{v:= .ptr kA 0}):=fun X=>rfl
      rw[h0]at hst;simp only[bN7,bOb]at hst;exact hst.1.symm
     rw[hfold]at go;have hlow':eR P I ops ops[i]=some {dst:=some d,op:= .alloc z,guard:=none}:=by rw[hlow,<-hli,hAo]
     have hdN:d<N:=by
      have:=bOe.1 hd _ (bOg hil);rw[<-hli,hAo]at this
      simpa using this
     have hrl':rs.length=ops.size:=by rw[hrl,rT,hlen',hN]
     refine aIi hR hvk hlow' hdN ?_ go
     rw[zC ops.size fun q hq hLq=>?_]
     ·exact hek
     ·have hqi:q≠i:=by rintro rfl;rw[hb]at hLq;cases hLq
      have hqA: ¬i∈an.getD q []:=fun h=>by
       have:=fV han hcl q _ (bOv hq) (hcl q _ (bOv hq) hLq) i h;rw[hb]at this;cases this
      have:=bOe.1 hleft q (bO7.2 (by omega))
      simp only[bPe,beq_iff_eq,hqi,false_or,bPx,bRt,hqA]at this;have hqr:q<rs.length:=by omega
      rw[bPh hqr]at this
      simpa[bOd,hqr]using this
    ·have hset':(listed.setIfInBounds i true).getD A false=listed.getD A false:=by
      rw[hset];have:(A==i)=false:=by simpa using fun e=>hiA e.symm
      rw[this,bO6]
     rw[hset']at go;rw[hget,if_neg hiA,hli]at hst
     by_cases hlo:yD an j l' i=true
     ·rw[if_pos hlo]at hst;exact aIe hR hlow (bOe.1 hd _ (bOg hil)) (by simp only[yD,bN8,hget,if_neg hiA,hli]at hlo⊢;exact⟨hlo.1.2,hlo.2⟩) hst go
     ·rw[if_neg hlo]at hst;exact nY hcall hio hR hlow (bOe.1 hd _ (bOg hil)) hst go
 refine main ops.size (Array.replicate ops.size false) G0 a0 w0 (by simp) (bOk bRh (by simp)) ?_ ?_ ?_ (Below.refl _ _)
 ·intro j o ho hL;simp[bPz]at hL
  split at hL<;>simp at hL
 ·intro k hk _;simp[bOl,bPz,hk]
 ·rw[cE (L':=fun _=>false) fun i _=>by simp[bPz];split<;>simp]
  have: ∀(k:Nat),dC (fun k=>eD ((cT an j l').getD k default) (rs.getD k bZ)) (fun _=>false) st k=st:=by
   intro k;induction k with
   |zero=>rfl
   |succ k ih=>simp only[dC,bOa,if_false];exact ih
  have hf: ¬(Array.replicate ops.size false).getD A false=true:=by
   rw[bOl,bPz]
   split<;>simp
  rw[this,if_neg hf];exact hR0
end
end Go.Abs
