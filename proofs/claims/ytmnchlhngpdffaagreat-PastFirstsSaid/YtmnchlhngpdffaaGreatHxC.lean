/- The interpreter of the translated code, and its proof: part C. -/
import Derived.Test.YtmnchlhngpdffaaGreatHxA
import Derived.Test.YtmnchlhngpdffaaGreatHxB
import Derived.OrdersIn
import Derived.LoopNIn
import Derived.RangeFuncNested
import Derived.Scope
set_option linter.all false
open Array renaming getD_eq_getD_getElem? → bPc, getElem?_append → bRp, getElem?_eq_getElem → bPk, getElem?_eq_some_iff → bQn, getElem?_mapIdx → bR5, getElem?_replicate → bQr, getElem?_setIfInBounds → bRk, getElem_toList → bRr, mapM_eq_mapM_toList → bSf, size_append → bRo
open Bool renaming and_eq_true → bOx, and_false → bQc, eq_iff_iff → bRd, false_and → bPm, false_eq_true → bO0, false_or → bPv, not_eq_true' → bQb, or_eq_true → bP3, or_true → bQv, true_and → bPr
open List renaming all_cons → bQ7, all_eq_true → bO4, any_eq_true → bRy, contains_eq_mem → bQq, countP_le_length → bR6, countP_pos_iff → bSb, drop_eq_getElem_cons → bPy, drop_eq_nil_iff → bR4, flatMap_cons → bRe, foldl_cons → bRm, foldl_nil → bRc, getD_eq_getElem?_getD → bO2, getElem?_append → bRn, getElem?_append_left → bR3, getElem?_cons_zero → bRf, getElem?_drop → bR1, getElem?_eq_getElem → bP7, getElem?_set → bRl, getElem_mem → bO6, isEmpty_iff → bRw, length_append → bPg, length_cons → bO7, length_eq_zero_iff → bSc, length_map → bOz, length_nil → bPe, map_congr_left → bQ5, map_cons → bPw, mem_append → bPn, mem_cons → bP0, mem_cons_of_mem → bQz, mem_filter → bQi, mem_flatMap → bQa, mem_map → bPt, mem_range → bPu, range'_succ → bRu
open Nat renaming add_zero → bQh, le_refl → bOy, le_trans → bPb, lt_of_lt_of_le → bPo
open Option renaming bind_eq_bind → bPj, bind_eq_some_iff → bO9, getD_some → bPp, isNone_iff_eq_none → bRx, isSome_iff_exists → bQk, map_eq_some_iff → bPa, map_some → bPq, pure_def → bPl
open Option.some renaming injEq → bOw
open Prod.mk renaming injEq → bO1
namespace Go.Abs
inductive aZz where
 |box (n:Nat) (f:Bool)
 |blk (f:Bool)
 |map (f:Bool)
 |loop
 |iter
def Ent.shape :Ent->aZz
 | .box cs f=> .box cs.length f
 | .blk _ _ f=> .blk f
 | .map _ _ f=> .map f
 | .loop .. => .loop
 | .iter .. => .iter
def Ent.win (off n:Nat):Ent->Option (List Val)
 | .box cs _=>if off+n<=cs.length then some ((cs.drop off).take n)else none
 |_=>none
def gP (en en':En):R->Prop
 | .val k=>(en k).map Ent.freeze=(en' k).map Ent.freeze
 | .cells k off n=>(en k).map (Ent.win off n)=(en' k).map (Ent.win off n)
 | .flag k=>(en k).map Ent.shape=(en' k).map Ent.shape
theorem gP.refl (en:En)(r:R):gP en en r:=by cases r<;>rfl
variable {en en':En}
theorem gP.symm {r:R}(h:gP en en' r):gP en' en r:=by cases r<;>exact Eq.symm h
theorem gP.trans {a b c:En}{r:R}(h:gP a b r)(k:gP b c r):gP a c r:=by cases r<;>exact Eq.trans h k
variable {cs:List Val}{f:Bool}{k:Key}
theorem gP.box (h:gP en en' (.val k))(he:en k=some (.box cs f)): ∃f',en' k=some (.box cs f'):=by
 simp only[gP,he,bPq,Ent.freeze]at h;cases h':en' k with
 |none=>rw[h']at h;cases h
 |some e=>rw[h']at h;cases e<;>simp[Ent.freeze]at h;subst h;exact⟨_,rfl⟩
variable {sz:Nat}{xs:List Val}
theorem gP.blk (h:gP en en' (.val k))(he:en k=some (.blk sz xs f)): ∃f',en' k=some (.blk sz xs f'):=by
 simp only[gP,he,bPq,Ent.freeze]at h;cases h':en' k with
 |none=>rw[h']at h;cases h
 |some e=>rw[h']at h;cases e<;>simp[Ent.freeze]at h;obtain⟨rfl,rfl⟩:=h;exact⟨_,rfl⟩
variable {vs:List Val}
theorem gP.map {ks:List Val}(h:gP en en' (.val k))(he:en k=some (.map ks vs f)): ∃f',en' k=some (.map ks vs f'):=by
 simp only[gP,he,bPq,Ent.freeze]at h;cases h':en' k with
 |none=>rw[h']at h;cases h
 |some e=>rw[h']at h;cases e<;>simp[Ent.freeze]at h;obtain⟨rfl,rfl⟩:=h;exact⟨_,rfl⟩
theorem gP.iter {s:ByteArray}{pos:Nat}(h:gP en en' (.val k))(he:en k=some (.iter s pos)):en' k=some (.iter s pos):=by
 simp only[gP,he,bPq,Ent.freeze]at h;cases h':en' k with
 |none=>rw[h']at h;cases h
 |some e=>rw[h']at h;cases e<;>simp[Ent.freeze]at h;obtain⟨rfl,rfl⟩:=h;rfl
theorem gP.blkf (h:gP en en' (.val k))(h2:gP en en' (.flag k))(he:en k=some (.blk sz xs f)):en' k=some (.blk sz xs f):=by
 obtain⟨f',h'⟩:=h.blk he;simp only[gP,he,h',bPq,Ent.shape,bOw,aZz.blk.injEq]at h2;subst h2;exact h'
theorem gP.mapf {ks:List Val}(h:gP en en' (.val k))(h2:gP en en' (.flag k))(he:en k=some (.map ks vs f)):en' k=some (.map ks vs f):=by
 obtain⟨f',h'⟩:=h.map he;simp only[gP,he,h',bPq,Ent.shape,bOw,aZz.map.injEq]at h2;subst h2;exact h'
theorem gP.boxl (h2:gP en en' (.flag k))(he:en k=some (.box cs f)): ∃cs',en' k=some (.box cs' f)/\ cs'.length=cs.length:=by
 simp only[gP,he,bPq,Ent.shape]at h2;cases h':en' k with
 |none=>rw[h']at h2;cases h2
 |some e=>rw[h']at h2;cases e<;>simp[Ent.shape]at h2;obtain⟨h3,rfl⟩:=h2;exact⟨_,rfl,h3.symm⟩
variable {n:Nat}
theorem gP.window {off:Nat}(h:gP en en' (.cells k off n))(he:en k=some (.box cs f))(hl:off+n<=cs.length):
  ∃cs' f',en' k=some (.box cs' f')/\ off+n<=cs'.length/\ (cs'.drop off).take n=(cs.drop off).take n:=by
 simp only[gP,he,bPq,Ent.win,if_pos hl]at h;cases h':en' k with
 |none=>rw[h']at h;cases h
 |some e=>
  rw[h']at h;cases e<;>simp only[bPq,Ent.win,bOw,reduceCtorEq]at h
  split at h
  ·rename_i h3;simp only[bOw]at h;exact⟨_,_,rfl,h3,h.symm⟩
  ·cases h
theorem yB (n:Nat): ∀{v v':Val} {ks:List Key},snap n en v=some (v',ks)->(∀k∈ks,gP en en' (.val k))->snap n en' v=some (v',ks):=by
 induction n with
 |zero=>intro v v' ks h _;cases v<;>exact h
 |succ n ih=>
  have lst: ∀(vs:List Val) (rs:List (Val×List Key)),cU (snap n en) vs=some rs->(∀k∈rs.flatMap (·.2),gP en en' (.val k))->cU (snap n en') vs=some rs:=by
   intro vs
   induction vs with
   |nil=>intro rs h _;exact h
   |cons v vs ihv=>
    intro rs h hk;simp only[cU]at h⊢
    split at h
    case h_2=>cases h
    rename_i y hy
    split at h
    case h_2=>cases h
    rename_i ys hys;simp only[bOw]at h;subst h;obtain⟨y1,y2⟩:=y;rw[ih hy fun k hk'=>hk k (by simp[hk']),ihv ys hys fun k hk'=>hk k (by simp only[bRe,bPn];exact .inr hk')]
  have lst2: ∀(vs:List Val) (f:List Val×List Key->Val×List Key) (r:Val×List Key),(∀p k,k∈p.2->k∈(f p).2)->
    ((cU (snap n en) vs).map fun rs=>(rs.map (·.1),rs.flatMap (·.2))).map f=some r->(∀k∈r.2,gP en en' (.val k))->
    ((cU (snap n en') vs).map fun rs=>(rs.map (·.1),rs.flatMap (·.2))).map f=some r:=by
   intro vs f r hf h hk;simp only[Option.map_map,bPa,Function.comp]at h⊢;obtain⟨rs,h1,rfl⟩:=h;exact⟨rs,lst vs rs h1 fun k hk'=>hk k (hf _ k hk'),rfl⟩
  intro v v' ks h hk;cases v with
  |ptr k off=>
   simp only[snap]at h⊢
   split at h
   case h_2=>cases h
   rename_i cs f he;have hk0:k∈ks:=by
    obtain⟨rs,_,h2⟩:=bPa.1 h;simp only[bO1]at h2;rw[<-h2.2];simp
   obtain⟨f',he'⟩:=(hk k hk0).box he;simp only[he'];exact lst2 cs (fun r=>(.fp r.1 off,k::r.2)) (v',ks) (fun p q hq=>bQz _ hq) h hk
  |ep k i off=>
   simp only[snap]at h⊢
   split at h
   case h_2=>cases h
   rename_i sz xs f he
   split at h
   ·cases h
   rename_i hd
   split at h
   case h_2=>cases h
   rename_i x hx;simp only[bOw,bO1]at h;obtain⟨rfl,rfl⟩:=h;obtain⟨f',he'⟩:=(hk k (by simp)).blk he
   simp only[he',hx,if_neg hd]
  |bl k off len=>
   simp only[snap]at h⊢
   split at h
   case h_2=>cases h
   rename_i sz xs f he
   split at h
   case isFalse=>cases h
   rename_i hl
   split at h
   ·rename_i hd;have hk0:k∈ks:=by
     obtain⟨rs,_,h2⟩:=bPa.1 h;simp only[bO1]at h2;rw[<-h2.2];simp
    obtain⟨f',he'⟩:=(hk k hk0).blk he;simp only[he',if_pos hl,if_pos hd];exact lst2 _ (fun r=>(.fz (r.1.map Val.wk1),k::r.2)) (v',ks) (fun p q hq=>bQz _ hq) h hk
   rename_i hd;simp only[bOw,bO1]at h;obtain⟨rfl,rfl⟩:=h;obtain⟨f',he'⟩:=(hk k (by simp)).blk he
   simp only[he',if_pos hl,if_neg hd]
  |mp k=>
   simp only[snap]at h⊢
   split at h
   case h_2=>cases h
   rename_i ks' vs f he;simp only[bOw,bO1]at h;obtain⟨rfl,rfl⟩:=h;obtain⟨f',he'⟩:=(hk k (by simp)).map he
   simp only[he']
  |fn f a b=>
   simp only[snap]at h⊢
   split at h
   case h_2=>cases h
   rename_i x y hx hy;simp only[bOw,bO1]at h;obtain⟨rfl,rfl⟩:=h;simp only[bPa]at hx hy;obtain⟨r1,e1,rfl⟩:=hx;obtain⟨r2,e2,rfl⟩:=hy;rw[lst a r1 e1 fun k hk'=>hk k (bPn.2 (.inl hk')),lst b r2 e2 fun k hk'=>hk k (bPn.2 (.inr hk'))]
   rfl
  |ifc t v=>
   simp only[snap]at h⊢;obtain⟨⟨r1,r2⟩,e1,h2⟩:=bPa.1 h;simp only[bO1]at h2;obtain⟨rfl,rfl⟩:=h2;rw[ih e1 hk];rfl
  |agg cs=>
   simp only[snap]at h⊢;exact lst2 cs (fun r=>(.agg r.1,r.2)) (v',ks) (fun p q hq=>hq) h hk
  |tup cs=>
   simp only[snap]at h⊢;exact lst2 cs (fun r=>(.tup r.1,r.2)) (v',ks) (fun p q hq=>hq) h hk
  |_=>exact h
theorem aQx : ∀{vs:List Val} {rs:List (Val×List Key)},cU (fun x=>snap n en x) vs=some rs->(∀k∈rs.flatMap (·.2),gP en en' (.val k))->cU (fun x=>snap n en' x) vs=some rs:=by
 intro vs
 induction vs with
 |nil=>intro rs h _;exact h
 |cons v vs ihv=>
  intro rs h hk;simp only[cU]at h⊢
  split at h
  case h_2=>cases h
  rename_i y hy
  split at h
  case h_2=>cases h
  rename_i ys hys;simp only[bOw]at h;subst h;obtain⟨y1,y2⟩:=y;rw[yB n hy fun k hk'=>hk k (by simp[hk']),ihv hys fun k hk'=>hk k (by simp only[bRe,bPn];exact .inr hk')]
variable {a:Val}{rs:List R}
theorem aOp (h:sB en a n=some (cs,rs))(hk: ∀ρ∈rs,gP en en' ρ):sB en' a n=some (cs,rs):=by
 unfold sB at h⊢
 split at h
 ·rename_i k off
  split at h
  case h_2=>cases h
  rename_i cs0 f he
  split at h
  case isFalse=>cases h
  rename_i hl;simp only[bOw,bO1]at h;obtain⟨rfl,rfl⟩:=h;obtain⟨cs',f',h1,h2,h3⟩:=(hk (.cells k off n) (by simp)).window he hl
  simp only[h1,if_pos h2,h3]
 ·rename_i k i off
  split at h
  case h_2=>cases h
  rename_i sz xs f he
  split at h
  case h_2=>cases h
  rename_i x hx
  split at h
  case isFalse=>cases h
  rename_i hl;simp only[bOw,bO1]at h;obtain⟨rfl,rfl⟩:=h;obtain⟨f',he'⟩:=(hk (.val k) (by simp)).blk he
  simp only[he',hx,if_pos hl]
 ·exact h
 ·cases h
theorem wA (h:iN en a=some (cs,rs))(hk: ∀ρ∈rs,gP en en' ρ):iN en' a=some (cs,rs):=by
 unfold iN at h⊢
 split at h
 ·exact h
 ·exact h
 ·exact h
 ·rename_i k off len
  split at h
  case h_2=>cases h
  rename_i sz xs f he
  split at h
  case isFalse=>cases h
  rename_i hl;simp only[bOw,bO1]at h;obtain⟨rfl,rfl⟩:=h;obtain⟨f',he'⟩:=(hk (.val k) (by simp)).blk he
  simp only[he',if_pos hl]
 ·cases h
variable {d g me:Nat}{ks:List Key}{v:Val}
theorem aUb :(gS me d g v ks).rs=ks.map .val:=by cases v<;>rfl
theorem aQy :(gS me d g v ks).mem=none:=by cases v<;>rfl
theorem aW7 (h:(gS me d g v ks).bump=false)(g':Nat):gS me d g' v ks=gS me d g v ks:=by
 cases v<;>first|rfl|(simp[gS]at h)
variable {r:Res}
theorem aEf {size:Nat}{X Y:Val}(h:fJ me d g en size X (iN en Y)=some r)(hk: ∀ρ∈r.rs,gP en en' ρ):fJ me d g en' size X (iN en' Y)=some r:=by
 unfold fJ at h⊢
 split at h
 case h_2=>cases h
 rename_i ys rs hel
 split at h
 case isFalse=>cases h
 rename_i hh
 split at h
 ·split at h
  ·rename_i hye;simp only[bOw]at h;subst h;rw[wA hel hk];simp only[if_pos hh,if_pos hye]
  rename_i hye
  split at h
  case isFalse=>cases h
  rename_i hc;simp only[bOw]at h;subst h;rw[wA hel hk];simp only[if_pos hh,if_neg hye,if_pos hc]
 ·rename_i k off len
  split at h
  case h_2=>cases h
  rename_i sz xs f he
  split at h
  case isFalse=>cases h
  rename_i hc;simp only[bOw]at h;subst h;have he':=(hk (.val k) (by simp)).blkf (hk (.flag k) (by simp)) he
  rw[wA hel fun ρ hρ=>hk ρ (by simp[hρ])]
  simp only[if_pos hh,he',if_pos hc]
 ·cases h
variable {call:bH}{get:Opd->Val}{op:LOp}
theorem aUc {get':Opd->Val}(h:eval n call me d g en get op=some r)
  (hg: ∀x∈op.opds,get' x=get x) (hk: ∀ρ∈r.rs,gP en en' ρ):eval n call me d g en' get' op=some r:=by
 cases op with
 |mv x=>simp only[eval]at h⊢;rw[hg x (by simp[LOp.opds])];exact h
 |pick c x y=>simp only[eval]at h⊢;rw[hg c (by simp[LOp.opds]),hg x (by simp[LOp.opds]),hg y (by simp[LOp.opds])];exact h
 |alloc z=>exact h
 |box m x=>simp only[eval]at h⊢;rw[hg x (by simp[LOp.opds])];exact h
 |build z ps=>
  simp only[eval]at h⊢;rw[show(ps.map fun p=>(p.1,p.2.1,get' p.2.2))=ps.map fun p=>(p.1,p.2.1,get p.2.2)from bQ5 fun p hp=>by
   rw[hg p.2.2 (by simp only[LOp.opds,bPt];exact⟨p,hp,rfl⟩)]]
  exact h
 |bslice len size z ps=>
  simp only[eval]at h⊢
  split at h
  case isFalse=>cases h
  rename_i hl
  split at h
  case h_2=>cases h
  rename_i qs hq
  split at h
  case h_2=>cases h
  rename_i xs hf;simp only[bOw]at h;subst h;have key: ∀(ps:List (Nat×Opd)) (qs:List ((Nat×Val)×List Key)),(∀x∈ps.map (·.2),get' x=get x)->cU (fun p=>(snap n en (get p.2)).map fun r=>((p.1,r.1.wk1),r.2)) ps=some qs->
    (∀k∈qs.flatMap (·.2),gP en en' (.val k))->cU (fun p=>(snap n en' (get' p.2)).map fun r=>((p.1,r.1.wk1),r.2)) ps=some qs:=by
   intro ps
   induction ps with
   |nil=>intro qs _ h _;exact h
   |cons p ps ih=>
    intro qs hgp h hkk;simp only[cU]at h⊢
    split at h
    case h_2=>cases h
    rename_i y hy
    split at h
    case h_2=>cases h
    rename_i ys hys;simp only[bOw]at h;subst h;obtain⟨⟨r1,r2⟩,e1,rfl⟩:=bPa.1 hy;rw[hgp p.2 (by simp),yB n e1 fun k hk'=>hkk k (by simp[hk'])]
    simp only[bPq];rw[ih ys (fun x hx=>hgp x (by simp only[bPw,bP0];exact .inr hx)) hys fun k hk'=>hkk k (by simp only[bRe,bPn];exact .inr hk')]
  rw[key ps qs (fun x hx=>hg x (by simpa[LOp.opds]using hx)) hq fun k hk'=>hk _ (by simpa using hk')]
  simp only[if_pos hl,hf]
 |bsliceK len size z ps=>
  simp only[eval]at h⊢
  split at h
  case isFalse=>cases h
  rename_i hl
  split at h
  case h_2=>cases h
  rename_i qs hq
  split at h
  case h_2=>cases h
  rename_i xs hf;simp only[bOw]at h;subst h;have key: ∀(ps:List (Nat×Opd)) (qs:List ((Nat×Val)×List Key)),(∀x∈ps.map (·.2),get' x=get x)->cU (fun p=>(snap n en (get p.2)).map fun r=>((p.1,r.1),r.2)) ps=some qs->
    (∀k∈qs.flatMap (·.2),gP en en' (.val k))->cU (fun p=>(snap n en' (get' p.2)).map fun r=>((p.1,r.1),r.2)) ps=some qs:=by
   intro ps
   induction ps with
   |nil=>intro qs _ h _;exact h
   |cons p ps ih=>
    intro qs hgp h hkk;simp only[cU]at h⊢
    split at h
    case h_2=>cases h
    rename_i y hy
    split at h
    case h_2=>cases h
    rename_i ys hys;simp only[bOw]at h;subst h;obtain⟨⟨r1,r2⟩,e1,rfl⟩:=bPa.1 hy;rw[hgp p.2 (by simp),yB n e1 fun k hk'=>hkk k (by simp[hk'])]
    simp only[bPq];rw[ih ys (fun x hx=>hgp x (by simp only[bPw,bP0];exact .inr hx)) hys fun k hk'=>hkk k (by simp only[bRe,bPn];exact .inr hk')]
  rw[key ps qs (fun x hx=>hg x (by simpa[LOp.opds]using hx)) hq fun k hk'=>hk _ (by simpa using hk')]
  simp only[if_pos hl,hf]
 |load ag m x=>
  simp only[eval]at h⊢;rw[hg x (by simp[LOp.opds])]
  split at h
  case h_2=>cases h
  rename_i cs rs hr;obtain⟨v,hv,rfl⟩:=bPa.1 h;rw[aOp hr hk];simp only[hv,bPq]
 |store m x y=>
  simp only[eval]at h⊢;rw[hg x (by simp[LOp.opds]),hg y (by simp[LOp.opds])]
  split at h
  case isFalse=>cases h
  rename_i hc;rw[if_pos hc]
  split at h
  ·rename_i k off hX
   split at h
   case h_2=>cases h
   rename_i cs he
   split at h
   case isFalse=>cases h
   rename_i hl;simp only[bOw]at h;subst h;obtain⟨cs',he',hl'⟩:=(hk (.flag k) (by simp)).boxl he
   simp only[he',hl',if_pos hl]
  ·rename_i k i off hX
   split at h
   case h_2=>cases h
   rename_i sz xs he
   split at h
   case h_2=>cases h
   rename_i Y hY
   split at h
   case isFalse=>cases h
   rename_i hl
   split at h
   ·rename_i hd;simp only[bOw]at h;subst h;have he':=(hk (.val k) (by simp)).blkf (hk (.flag k) (by simp)) he
    simp only[he',hY,if_pos hl,if_pos hd]
   rename_i hd
   split at h
   case h_2=>cases h
   rename_i v' ks hs
   split at h
   case isFalse=>cases h
   rename_i hk2;simp only[bOw]at h;subst h;have he':=(hk (.val k) (by simp)).blkf (hk (.flag k) (by simp)) he
   simp only[he',hY,if_pos hl,if_neg hd,yB n hs fun k' hk'=>hk _ (by simp[hk']),if_pos hk2]
  ·cases h
 |nilck x=>simp only[eval]at h⊢;rw[hg x (by simp[LOp.opds])];exact h
 |bin o t x y=>simp only[eval]at h⊢;rw[hg x (by simp[LOp.opds]),hg y (by simp[LOp.opds])];exact h
 |un o x=>simp only[eval]at h⊢;rw[hg x (by simp[LOp.opds])];exact h
 |wrap k x=>simp only[eval]at h⊢;rw[hg x (by simp[LOp.opds])];exact h
 |iface t x=>simp only[eval]at h⊢;rw[hg x (by simp[LOp.opds])];exact h
 |assert t z ok x=>simp only[eval]at h⊢;rw[hg x (by simp[LOp.opds])];exact h
 |mkfn f a b=>
  simp only[eval]at h⊢;rw[show a.map get'=a.map get from bQ5 fun p hp=>hg p (by simp[LOp.opds,hp]),show b.map get'=b.map get from bQ5 fun p hp=>hg p (by simp[LOp.opds,hp])]
  exact h
 |mkmap=>exact h
 |mput t m k x=>
  simp only[eval]at h⊢;rw[hg m (by simp[LOp.opds]),hg k (by simp[LOp.opds]),hg x (by simp[LOp.opds])]
  split at h
  case h_2=>cases h
  rename_i key hm
  split at h
  case h_2=>cases h
  rename_i ks vs he
  split at h
  case isFalse=>cases h
  rename_i hok;have done: ∀e:En->Option Res,(gP en en' (.val key)->gP en en' (.flag key)->en' key=some (.map ks vs false)):=fun _ a b=>a.mapf b he
  split at h
  ·rename_i i hf;simp only[bOw]at h;subst h;have he':=done (fun _=>none) (hk (.val key) (by simp)) (hk (.flag key) (by simp))
   simp only[he',if_pos hok,hf]
  ·rename_i hf;simp only[bOw]at h;subst h;have he':=done (fun _=>none) (hk (.val key) (by simp)) (hk (.flag key) (by simp))
   simp only[he',if_pos hok,hf]
  ·cases h
 |mget t z ok m k=>
  simp only[eval]at h⊢;rw[hg m (by simp[LOp.opds]),hg k (by simp[LOp.opds])]
  split at h
  case isFalse=>cases h
  rename_i hok;rw[if_pos hok]
  split at h
  ·rename_i key hm
   split at h
   case h_2=>cases h
   rename_i ks vs f he;obtain⟨v,hv,rfl⟩:=bPa.1 h;obtain⟨f',he'⟩:=(hk (.val key) (by simp)).map he
   simp only[he',hv,bPq]
  ·exact h
  ·exact h
  ·cases h
 |mklen size z len cap=>simp only[eval]at h⊢;rw[hg len (by simp[LOp.opds]),hg cap (by simp[LOp.opds])];exact h
 |appendZ size z x y=>simp only[eval]at h⊢;rw[hg x (by simp[LOp.opds]),hg y (by simp[LOp.opds])];exact h
 |bsliceO len size z ps=>
  simp only[eval]at h⊢;have e1:(ps.all fun p=>(get' p.2).flat1)=ps.all fun p=>(get p.2).flat1:=by
   rw[bRd,bO4,bO4];exact forall_congr' fun p=>forall_congr' fun hp=>by rw[hg p.2 (by simp only[LOp.opds,bPt];exact⟨p,hp,rfl⟩)]
  have e2:(ps.map fun p=>(p.1,get' p.2))=ps.map fun p=>(p.1,get p.2):=bQ5 fun p hp=>by
   rw[hg p.2 (by simp only[LOp.opds,bPt];exact⟨p,hp,rfl⟩)]
  rw[e1,e2];exact h
 |slice str size x lo hi mx=>
  have e1:lo.map get'=lo.map get:=by
   cases lo with
   |none=>rfl
   |some l=>simp only[bPq];rw[hg l (by simp[LOp.opds])]
  have e2:hi.map get'=hi.map get:=by
   cases hi with
   |none=>rfl
   |some l=>simp only[bPq];rw[hg l (by simp[LOp.opds])]
  have e3: ∀m,mx=some m->get' m=get m:=fun m hm=>hg m (by simp[LOp.opds,hm])
  simp only[eval,e1,e2]at h⊢;rw[hg x (by simp[LOp.opds])]
  split at h
  ·rename_i hs;rw[if_pos hs];exact h
  ·rename_i hs;rw[if_neg hs]
   split at h
   ·split at h
    ·exact h
    ·rename_i m;simp only[e3 m rfl];exact h
   ·split at h
    ·exact h
    ·rename_i m;simp only[e3 m rfl];exact h
   ·rename_i k off len hX
    split at h
    case h_2=>cases h
    split at h
    case h_2=>cases h
    rename_i hh hb
    split at h
    case h_2=>cases h
    rename_i ll hlo
    split at h
    case h_2=>cases h
    rename_i sz xs f he
    split at h
    case isFalse=>cases h
    rename_i hc;simp only[bOw]at h;subst h;obtain⟨f',he'⟩:=(hk (.val k) (by simp)).blk he
    simp only[hb,hlo,he',if_pos hc]
   ·cases h
 |fa off x=>simp only[eval]at h⊢;rw[hg x (by simp[LOp.opds])];exact h
 |fld ag off m x=>simp only[eval]at h⊢;rw[hg x (by simp[LOp.opds])];exact h
 |ia size x i=>
  simp only[eval]at h⊢;rw[hg x (by simp[LOp.opds]),hg i (by simp[LOp.opds])]
  split at h
  case h_2=>cases h
  split at h
  ·exact h
  ·exact h
  ·rename_i k off len hX
   split at h
   case h_2=>cases h
   rename_i sz xs f he
   split at h
   case isFalse=>cases h
   rename_i hc;simp only[bOw]at h;subst h;obtain⟨f',he'⟩:=(hk (.val k) (by simp)).blk he
   simp only[he',if_pos hc]
  ·cases h
 |iaa len size x i=>simp only[eval]at h⊢;rw[hg x (by simp[LOp.opds]),hg i (by simp[LOp.opds])];exact h
 |ixs x i=>simp only[eval]at h⊢;rw[hg x (by simp[LOp.opds]),hg i (by simp[LOp.opds])];exact h
 |ixa ag len size x i=>simp only[eval]at h⊢;rw[hg x (by simp[LOp.opds]),hg i (by simp[LOp.opds])];exact h
 |ext i x=>simp only[eval]at h⊢;rw[hg x (by simp[LOp.opds])];exact h
 |call f args=>
  simp only[eval]at h⊢;rw[hg f (by simp[LOp.opds]),show args.map get'=args.map get from bQ5 fun p hp=>hg p (by simp[LOp.opds,hp])]
  split at h
  case h_2=>cases h
  rename_i f a b hf
  split at h
  case h_2=>cases h
  rename_i rs hs
  split at h
  case h_2=>cases h
  rename_i v hv;simp only[bOw]at h;subst h;rw[aQx hs fun k hk'=>hk _ (by rw[aUb];simpa using hk')]
  simp only[hv]
 |icall f args=>cases h
 |len t x=>
  simp only[eval]at h⊢;rw[hg x (by simp[LOp.opds])]
  split at h
  ·split at h
   ·rename_i key hx
    split at h
    case h_2=>cases h
    rename_i ks vs f he;simp only[bOw]at h;subst h;obtain⟨f',he'⟩:=(hk (.val key) (by simp)).map he
    simp only[he']
   ·exact h
   ·exact h
   ·cases h
  ·exact h
  ·exact h
  ·exact h
  ·cases h
 |append size x y=>
  simp only[eval]at h⊢;rw[hg x (by simp[LOp.opds]),hg y (by simp[LOp.opds])]
  exact aEf h hk
 |appendD size x y=>
  simp only[eval]at h⊢;rw[hg x (by simp[LOp.opds]),hg y (by simp[LOp.opds])]
  exact aEf h hk
 |copy size x y=>cases h
 |panic x=>simp[eval]at h
 |rng x=>simp only[eval]at h⊢;rw[hg x (by simp[LOp.opds])];exact h
 |nxt x=>
  simp only[eval]at h⊢;rw[hg x (by simp[LOp.opds])]
  split at h
  case h_2=>cases h
  rename_i k hX
  split at h
  case h_2=>cases h
  rename_i s pos he
  split at h
  ·rename_i hlt;simp only[bOw]at h;subst h;have he':=(hk (.val k) (by simp)).iter he
   simp only[he',if_pos hlt]
  ·rename_i hlt;simp only[bOw]at h;subst h;have he':=(hk (.val k) (by simp)).iter he
   simp only[he',if_neg hlt]
 |minmax mx xs=>
  simp only[eval]at h⊢;rw[show xs.map get'=xs.map get from bQ5 fun p hp=>hg p (by simp[LOp.opds,hp])]
  exact h
theorem aOq (h:eval n call me d g en get op=some r)(hw:op.writesMem=false):r.ws=[]:=by
 cases op<;>first
  |(simp[LOp.writesMem]at hw;done)
  |(simp only[eval,aIw,fJ]at h
    (repeat' split at h)<;>first
     |(cases h;done)
     |(simp only[bOw]at h;subst h;rfl)
     |(obtain⟨_,_,rfl⟩:=bPa.1 h;rfl))
theorem aJi (h:eval n call me d g en get op=some r):r.mem=none:=by
 cases op<;>(
  simp only[eval,aIw,fJ]at h
  (repeat' split at h)<;>first
   |(cases h;done)
   |(simp only[bOw]at h;subst h;rfl)
   |(simp only[bOw]at h;subst h;exact aQy)
   |(obtain⟨_,_,rfl⟩:=bPa.1 h;rfl))
theorem aQz (h:eval n call me d g en get op=some r)(hw:op.writesMem=false):r.bump=false:=by
 cases op<;>first
  |(simp[LOp.writesMem]at hw;done)
  |(simp only[eval,aIw,fJ]at h
    (repeat' split at h)<;>first
     |(cases h;done)
     |(simp only[bOw]at h;subst h;rfl)
     |(obtain⟨_,_,rfl⟩:=bPa.1 h;rfl))
theorem aQ0 (h:eval n call me d g en get op=some r)(hw:op.readsMem=false):r.rs=[]:=by
 cases op<;>first
  |(simp[LOp.readsMem]at hw;done)
  |(simp only[eval,aIw,fJ]at h
    (repeat' split at h)<;>first
     |(cases h;done)
     |(simp only[bOw]at h;subst h;rfl)
     |(obtain⟨_,_,rfl⟩:=bPa.1 h;rfl))
theorem bF9 (h:eval n call me d g en get op=some r)(hw:r.bump=false)(g':Nat):eval n call me d g' en get op=some r:=by
 by_cases hc: ∃f args,op= .call f args
 ·obtain⟨f,args,rfl⟩:=hc;simp only[eval]at h⊢
  split at h
  case h_2=>cases h
  split at h
  case h_2=>cases h
  rename_i hs
  split at h
  case h_2=>cases h
  rename_i hv;simp only[bOw]at h;subst h;rw[aW7 hw g']
 cases op<;>first
  |exact absurd ⟨_,_,rfl⟩ hc
  |exact h
  |(exfalso
    simp only[eval,fJ]at h
    ((repeat' split at h)<;>first
     |(cases h;done)
     |(simp only[bOw]at h;subst h;cases hw));done)
  |(simp only[eval,fJ]at h⊢
    (repeat' split at h)<;>first
     |(cases h;done)
     |(exfalso;simp only[bOw]at h;subst h;cases hw;done)
     |(simp only[*];done)
     |(rename_i hh _ _ _ _;simp only[*,if_true];done)
     |(simp only[*,if_true]at h⊢;done)
     |(simp_all;done))
theorem aEg : ∀(vs:List Val) (cs:List Val) (off i:Nat),(i<off \/off+vs.length<=i)->(setCells cs off vs)[i]?=cs[i]?
 |[],_,_,_,_=>rfl
 |v::vs,cs,off,i,h=>by
  simp only[bO7]at h;rw[setCells,aEg vs _ _ _ (by omega),bRl]
  rw[if_neg (by omega)]
theorem yC : ∀(vs:List Val) (cs:List Val) (off:Nat),(setCells cs off vs).length=cs.length
 |[],_,_=>rfl
 |v::vs,cs,off=>by rw[setCells,yC];simp
theorem aOr (vs:List Val): ∀(cs:List Val) (off i:Nat) (u:Val),(i<off \/off+vs.length<=i)->setCells (cs.set i u) off vs=(setCells cs off vs).set i u:=by
 induction vs with
 |nil=>intro cs off i u _;rfl
 |cons v vs ih=>
  intro cs off i u h;simp only[bO7]at h;rw[setCells,setCells,<-ih _ _ _ _ (by omega)]
  congr 1
  exact List.set_comm _ _ (by omega)
theorem aL2 (us:List Val): ∀(vs cs:List Val) (off off':Nat),(off+us.length<=off' \/off'+vs.length<=off)->setCells (setCells cs off us) off' vs=setCells (setCells cs off' vs) off us:=by
 induction us with
 |nil=>intro vs cs off off' _;rfl
 |cons u us ih=>
  intro vs cs off off' h;simp only[bO7]at h;rw[setCells,setCells,ih _ _ _ _ (by omega),aOr _ _ _ _ _ (by omega)]
def W.onEnt :W->Option Ent->Option Ent
 | .ent _ e=>fun _=>e
 | .cells _ off vs=>fun x=>match x with
  |some (.box cs f)=>some (.box (setCells cs off vs) f)
  |x=>x
 | .elem _ i off vs=>fun x=>match x with
  |some (.blk sz xs f)=>match xs[i]? with
   |some y=>some (.blk sz (xs.set i (eV y off vs)) f)
   |none=>some (.blk sz xs f)
  |x=>x
 | .frz _=>fun x=>x.map Ent.freeze
theorem W.apply_self (en:En)(w:W):W.apply en w w.key=w.onEnt (en w.key):=by
 cases w with
 |ent k' e=>simp[W.apply,W.key,W.onEnt,En.set]
 |cells k off vs=>
  show W.apply en _ k=W.onEnt _ (en k);simp only[W.apply,W.onEnt];cases h:en k with
  |none=>simp[h]
  |some e=>cases e<;>simp[En.set,h]
 |elem k i off vs=>
  show W.apply en _ k=W.onEnt _ (en k);simp only[W.apply,W.onEnt];cases h:en k with
  |none=>simp[h]
  |some e=>
   cases e with
   |blk sz xs f=>cases h':xs[i]?<;>simp[En.set,h,h']
   |_=>simp[h]
 |frz k=>
  show W.apply en _ k=W.onEnt _ (en k);simp only[W.apply,W.onEnt];cases h:en k with
  |none=>simp[h]
  |some e=>simp[En.set]
theorem W.apply_other (en:En)(w:W)(hk:k≠w.key):W.apply en w k=en k:=by
 cases w with
 |ent k' e=>
  have hk:k≠k':=hk;simp[W.apply,En.set,hk]
 |cells k' off vs=>
  have hk:k≠k':=hk;simp only[W.apply];cases h:en k' with
  |none=>rfl
  |some e=>cases e<;>simp[En.set,hk]
 |elem k' i off vs=>
  have hk:k≠k':=hk;simp only[W.apply];cases h:en k' with
  |none=>rfl
  |some e=>
   cases e with
   |blk sz xs f=>cases h':xs[i]?<;>simp[En.set,hk,h']
   |_=>rfl
 |frz k'=>
  have hk:k≠k':=hk;simp only[W.apply];cases h:en k' with
  |none=>rfl
  |some e=>simp[En.set,hk]
theorem W.apply_at (en:En)(w:W)(k:Key):W.apply en w k=if k=w.key then w.onEnt (en k)else en k:=by
 by_cases hk:k=w.key
 ·rw[if_pos hk,hk,W.apply_self]
 ·rw[if_neg hk,W.apply_other en w hk]
variable {w:W}
theorem W.comm {w':W}(h:mM w w'=true)(en:En):W.apply (W.apply en w) w'=W.apply (W.apply en w') w:=by
 have key:w.key≠w'.key->W.apply (W.apply en w) w'=W.apply (W.apply en w') w:=by
  intro hk
  funext k
  simp only[W.apply_at]
  by_cases h1:k=w'.key
  ·subst h1;have h2: ¬w'.key=w.key:=fun e=>hk e.symm
   simp[h2]
  ·simp[h1]
 by_cases hk:w.key=w'.key
 ·cases w<;>cases w'<;>simp only[W.key]at hk<;>subst hk<;>simp[mM,W.key]at h
  ·rename_i k off vs off' vs'
   funext k'
   by_cases hk':k'=k
   ·subst hk';have e1:=W.apply_self (W.apply en (.cells k' off vs)) (.cells k' off' vs');have e2:=W.apply_self en (.cells k' off vs);have e3:=W.apply_self (W.apply en (.cells k' off' vs')) (.cells k' off vs);have e4:=W.apply_self en (.cells k' off' vs');simp only[W.key]at e1 e2 e3 e4;rw[e1,e2,e3,e4];cases en k' with
    |none=>rfl
    |some e=>
     cases e with
     |box cs f=>simp only[W.onEnt];rw[aL2 _ _ _ _ _ h]
     |_=>rfl
   ·rw[W.apply_other _ (.cells k off' vs') hk',W.apply_other _ (.cells k off vs) hk',W.apply_other _ (.cells k off vs) hk',W.apply_other _ (.cells k off' vs') hk']
  ·rfl
 ·exact key hk
variable {ρ:R}
theorem W.same (h:jS w ρ=true)(en:En):gP (W.apply en w) en ρ:=by
 have key:w.key≠ρ.key->gP (W.apply en w) en ρ:=by
  intro hk;have e:W.apply en w ρ.key=en ρ.key:=by rw[W.apply_at,if_neg fun e=>hk e.symm]
  cases ρ<;>simp only[gP,R.key]at e⊢ <;>rw[e]
 by_cases hk:w.key=ρ.key
 ·have e:=W.apply_self en w;cases w<;>cases ρ<;>simp only[W.key,R.key]at hk<;>subst hk<;>simp[jS,W.key,R.key]at h<;>
   simp only[W.key]at e<;>simp only[gP,e,W.onEnt]
  ·rename_i k off vs off' n;cases en k with
   |none=>rfl
   |some e=>
    cases e with
    |box cs f=>
     simp only[bPq,Ent.win,yC];split
     ·congr 2
      apply List.ext_getElem?;intro j;simp only[List.getElem?_take,bR1];split
      ·rw[aEg _ _ _ _ (by omega)]
      ·rfl
     ·rfl
    |_=>rfl
  ·rename_i k off vs;cases en k with
   |none=>rfl
   |some e=>cases e<;>simp[Ent.shape,yC]
  ·rename_i k i off vs;cases en k with
   |none=>rfl
   |some e=>
    cases e with
    |blk sz xs f=>simp only;split<;>rfl
    |_=>rfl
  ·rename_i k;cases en k with
   |none=>rfl
   |some e=>cases e<;>rfl
  ·rename_i k off n;cases en k with
   |none=>rfl
   |some e=>cases e<;>rfl
 ·exact key hk
theorem aOs (ws:List W): ∀(en:En) (w:W),(∀w'∈ws,mM w w'=true)->W.applyAll (W.apply en w) ws=W.apply (W.applyAll en ws) w:=by
 induction ws with
 |nil=>intro en w _;rfl
 |cons w' ws ih=>
  intro en w h;show W.applyAll (W.apply (W.apply en w) w') ws=W.apply (W.applyAll (W.apply en w') ws) w;rw[W.comm (h w' (by simp)),ih _ _ fun x hx=>h x (by simp[hx])]
theorem aL3 (ws:List W): ∀(ws':List W) (en:En),(∀w∈ws,∀w'∈ws',mM w w'=true)->W.applyAll (W.applyAll en ws) ws'=W.applyAll (W.applyAll en ws') ws:=by
 induction ws with
 |nil=>intro ws' en _;rfl
 |cons w ws ih=>
  intro ws' en h;show W.applyAll (W.applyAll (W.apply en w) ws) ws'=W.applyAll (W.apply (W.applyAll en ws') w) ws;rw[ih _ _ fun x hx=>h x (by simp[hx]),aOs _ _ _ (h w (by simp))]
theorem aL4 (ws:List W): ∀(en:En) (ρ:R),(∀w∈ws,jS w ρ=true)->gP (W.applyAll en ws) en ρ:=by
 induction ws with
 |nil=>intro en ρ _;exact gP.refl _ _
 |cons w ws ih=>
  intro en ρ h;show gP (W.applyAll (W.apply en w) ws) en ρ;exact(ih _ ρ fun x hx=>h x (by simp[hx])).trans (W.same (h w (by simp)) en)
section
variable {σ :Type}(E:Nat->σ->σ)
def dM (L:Nat->Bool)(s:σ):Nat->σ
 |0=>s
 |n+1=>if L n then E n (dM L s n)else dM L s n
variable {E}
theorem cN {L L':Nat->Bool}{s:σ}: ∀{n:Nat},(∀i,i<n->L i=L' i)->dM E L s n=dM E L' s n
 |0,_=>rfl
 |n+1,h=>by simp only[dM];rw[h n (by omega),cN fun i hi=>h i (by omega)]
theorem aF4 {L:Nat->Bool}{s:σ}{j:Nat}(hj:L j=false): ∀{n:Nat},j<n->(∀k,j<k->k<n->L k=true-> ∀s,E k (E j s)=E j (E k s))->
  dM E (fun k=>k==j||L k) s n=E j (dM E L s n)
 |0,h,_=>by omega
 |n+1,h,hc=>by
  by_cases hn:j=n
  ·subst hn;simp only[dM,BEq.rfl,Bool.true_or,if_true,hj,bO0,if_false];rw[cN (L':=L) fun i hi=>by
    have:(i==j)=false:=by simp;omega
    simp[this]]
  ·have hlt:j<n:=by omega
   have hne:(n==j)=false:=by simp;omega
   simp only[dM,hne,bPv];rw[aF4 hj hlt fun k h1 h2=>hc k h1 (by omega)]
   split
   ·rename_i hL;exact hc n hlt (by omega) hL _
   ·rfl
theorem tS {L:Nat->Bool}{s:σ}{n:Nat}(Eq:σ->σ->Prop)(hrefl: ∀s,Eq s s)(htrans: ∀a b c,Eq a b->Eq b c->Eq a c)(keep:Nat->Bool):
  ∀m,m<=n->(∀j,j<m->L j=true->keep j=false->(∀s,Eq (E j s) s)/\ ∀k,j<k->k<n->L k=true->keep k=true-> ∀s,E k (E j s)=E j (E k s))->
   Eq (dM E (fun k=>L k&&(keep k||k<m)) s n) (dM E (fun k=>L k&&keep k) s n)
 |0,_,_=>by
  rw[cN (L':=fun k=>L k&&keep k) fun i hi=>by simp]
  exact hrefl _
 |m+1,hm,h=>by
  refine htrans _ _ _ ?_ (tS Eq hrefl htrans keep m (by omega) fun j hj=>h j (by omega))
  by_cases hc:L m=true/\ keep m=false
  ·obtain⟨h1,h2⟩:=h m (by omega) hc.1 hc.2
   rw[cN (L':=fun k=>k==m||(L k&&(keep k||k<m))) fun i hi=>by
    by_cases him:i=m
    ·subst him;simp[hc.1]
    ·have e1:(i==m)=false:=by simp[him]
     have e2:decide (i<m+1)=decide (i<m):=by
      by_cases h:i<m
      ·simp[h];omega
      ·simp[h];omega
     simp[e1,e2]]
   rw[aF4 (by simp[hc.2]) (by omega) fun k h3 h4 h5 s=>by
    simp only[bOx,bP3,bSi]at h5;rcases h5.2 with h6|h6
    ·exact h2 k h3 h4 h5.1 h6 s
    ·omega]
   exact h1 _
  ·rw[cN (L':=fun k=>L k&&(keep k||k<m)) fun i hi=>by
    by_cases him:i=m
    ·subst him;cases hL:L i with
     |false=>simp
     |true=>cases hk:keep i with
      |false=>exact absurd ⟨hL,hk⟩ hc
      |true=>simp
    ·have e2:decide (i<m+1)=decide (i<m):=by
      by_cases h:i<m
      ·simp[h];omega
      ·simp[h];omega
     simp[e2]]
   exact hrefl _
end
def eQ (o:aM)(r:Res)(st:St):St:=
 {fr:=hZ st.fr o.dst r.v,en:=match r.mem with|some p=>fun k=>if r.unch k=true then st.en k else p.1 k|none=>W.applyAll st.en r.ws,cnt:=match r.mem with|some p=>p.2|none=>if r.bump then aC st.cnt (o.op.me 0) (o.dst.getD 0) (st.cnt (o.op.me 0) (o.dst.getD 0)+1)else st.cnt}
def Res.quiet (r:Res):Prop:=r.ws=[]/\ r.bump=false/\ r.mem=none
variable {io:Inl}{st st':St}
theorem rL {o:aM}(h:step n call io 0 st o=some (st',r)):
  st'=eQ o r st/\ (r.bump=true->o.dst.isSome=true)/\ (o.op.writesMem=false->r.quiet)/\ (o.op.readsMem=false->r.rs=[]):=by
 simp only[step]at h
 split at h
 ·simp only[bOw,bO1]at h;obtain⟨rfl,rfl⟩:=h;exact⟨rfl,by simp,fun _=>⟨rfl,rfl,rfl⟩,fun _=>rfl⟩
 ·split at h
  ·rename_i f args hop
   split at h
   case h_2=>cases h
   rename_i v st1 hc;simp only[bOw,bO1]at h;obtain⟨rfl,rfl⟩:=h
   refine⟨?_,by simp,fun hw=>by rw[hop]at hw;simp[LOp.writesMem]at hw,fun _=>rfl⟩
   simp only[eQ]
   congr 1
   funext k
   split
   ·rename_i hk;exact(aQg hk).symm
   ·rfl
  ·split at h
   case h_2=>cases h
   rename_i r' hev
   split at h
   ·cases h
   rename_i hb;simp only[bOw,bO1]at h;obtain⟨rfl,rfl⟩:=h
   refine⟨by simp only[eQ,aJi hev],fun h=>?_,fun hw=>⟨aOq hev hw,aQz hev hw,aJi hev⟩,aQ0 hev⟩
   rw[h]at hb;cases ho:o.dst with
   |none=>rw[ho]at hb;simp at hb
   |some d=>rfl
 ·cases h
structure wB (o:aM) (r:Res) (s s':St):Prop where
 fr: ∀t∈o.uses,s.fr t=s'.fr t
 en: ∀ρ∈r.rs,gP s.en s'.en ρ
 cnt:r.bump=true-> ∀d,o.dst=some d->s.cnt (o.op.me 0) d=s'.cnt (o.op.me 0) d
 all:r.mem.isSome=true->s.en=s'.en/\ s.cnt=s'.cnt
theorem wB.refl (o:aM)(r:Res)(s:St):wB o r s s:=⟨fun _ _=>rfl,fun _ _=>gP.refl _ _,fun _ _ _=>rfl,fun _=>⟨rfl,rfl⟩⟩
variable {b:St}
theorem wB.trans {o:aM}{a c:St}(h:wB o r a b)(k:wB o r b c):wB o r a c:=
 ⟨fun t ht=>(h.fr t ht).trans (k.fr t ht),fun ρ hρ=>(h.en ρ hρ).trans (k.en ρ hρ),fun hb d hd=>(h.cnt hb d hd).trans (k.cnt hb d hd),fun hm=>⟨(h.all hm).1.trans (k.all hm).1,(h.all hm).2.trans (k.all hm).2⟩⟩
theorem wB.symm {o:aM}{a:St}(h:wB o r a b):wB o r b a:=
 ⟨fun t ht=>(h.fr t ht).symm,fun ρ hρ=>(h.en ρ hρ).symm,fun hb d hd=>(h.cnt hb d hd).symm,fun hm=>⟨(h.all hm).1.symm,(h.all hm).2.symm⟩⟩
theorem aW8 {st2:St}{o:aM}(h:step n call io 0 st o=some (st',r))(hl:wB o r st st2):step n call io 0 st2 o=some (eQ o r st2,r):=by
 have hw:wanted st2.fr o.guard=wanted st.fr o.guard:=by
  cases hg:o.guard with
  |none=>rfl
  |some p=>
   obtain⟨t,b⟩:=p;simp only[wanted];rw[hl.fr t (by simp[aM.uses,hg])]
 have hgt: ∀x∈o.op.opds,St.get st2.fr x=St.get st.fr x:=by
  intro x hx;cases x with
  |t i=>exact(hl.fr i (by simp only[aM.uses,bPn,bQa];exact .inl ⟨_,hx,by simp[Opd.tmp]⟩)).symm
  |c v=>rfl
  |f i=>rfl
  |m tbl i=>simp only[St.get];rw[(hl.fr i (by simp only[aM.uses,bPn,bQa];exact .inl ⟨_,hx,by simp[Opd.tmp]⟩)).symm]
 simp only[step]at h⊢;rw[hw]
 split at h
 ·simp only[bOw,bO1]at h;obtain⟨_,rfl⟩:=h;rfl
 ·split at h
  ·rename_i f args hop
   split at h
   case h_2=>cases h
   rename_i v st1 hc;simp only[bOw,bO1]at h;obtain⟨_,rfl⟩:=h;obtain⟨e1,e2⟩:=hl.all rfl;rw[hgt f (by simp[hop,LOp.opds]),show args.map (St.get st2.fr)=args.map (St.get st.fr)from bQ5 fun p hp=>hgt p (by simp[hop,LOp.opds,hp]),<-e1,<-e2,hc]
   simp only[eQ,<-e1]
   congr 3
   funext k
   split
   ·rename_i hk;exact(aQg hk).symm
   ·rfl
  ·rename_i hni
   split at h
   case h_2=>cases h
   rename_i r' hev
   split at h
   ·cases h
   rename_i hb;simp only[bOw,bO1]at h;obtain⟨_,rfl⟩:=h;have hev2:eval n call (o.op.me 0) (o.dst.getD 0) (st2.cnt (o.op.me 0) (o.dst.getD 0)) st2.en (St.get st2.fr) o.op=some r':=by
    have h1:=aUc hev hgt hl.en;cases hbb:r'.bump with
    |false=>exact bF9 h1 hbb _
    |true=>
     cases hd:o.dst with
     |some d=>rw[hd]at h1;simp only[bPp]at h1⊢;rw[<-hl.cnt hbb d hd];exact h1
     |none=>rw[hd,hbb]at hb;simp at hb
   rw[hev2];simp only[if_neg hb];simp only[eQ,aJi hev]
 ·cases h
structure aH7 (o o':aM) (r r':Res):Prop where
 dst: ∀d,o.dst=some d->o'.dst≠some d
 use: ∀d,o.dst=some d->d∉o'.uses
 use': ∀d,o'.dst=some d->d∉o.uses
 ww: ∀w∈r.ws,∀w'∈r'.ws,mM w w'=true
 wr: ∀w∈r.ws,∀ρ∈r'.rs,jS w ρ=true
 rw: ∀w∈r'.ws,∀ρ∈r.rs,jS w ρ=true
 m1:r.mem.isSome=true->r'.quiet/\ ∀ρ∈r'.rs,r.unch ρ.key=true
 m2:r'.mem.isSome=true->r.quiet/\ ∀ρ∈r.rs,r'.unch ρ.key=true
variable {fr:Nat->Val}{u:Val}
theorem aUd {d':Nat}(h:d≠d'):iR (iR fr d u) d' v=iR (iR fr d' v) d u:=by
 funext i
 simp only[iR]
 by_cases h1:i=d'
 ·subst h1;rw[if_pos rfl,if_neg fun e:i=d=>h e.symm,if_pos rfl]
 ·rw[if_neg h1,if_neg h1]
theorem aC7 {d d':Option Nat}(h: ∀x,d=some x->d'≠some x):hZ (hZ fr d u) d' v=hZ (hZ fr d' v) d u:=by
 cases d with
 |none=>rfl
 |some d=>
  cases d' with
  |none=>rfl
  |some d'=>exact aUd fun e=>h d rfl (by rw[e])
theorem pH {d:Option Nat}{t:Nat}(h: ∀x,d=some x->t≠x):hZ fr d v t=fr t:=by
 cases d with
 |none=>rfl
 |some d=>simp only[hZ,iR];rw[if_neg (h d rfl)]
variable {o':aM}{r':Res}
theorem aH7.comm {o:aM}(h:aH7 o o' r r')(hb:r.bump=true->o.dst.isSome=true)(hb':r'.bump=true->o'.dst.isSome=true)(s:St):
  eQ o' r' (eQ o r s)=eQ o r (eQ o' r' s):=by
 simp only[eQ];cases hm:r.mem with
 |some p=>
  obtain⟨⟨q1,q2,q3⟩,_⟩:=h.m1 (by rw[hm];rfl)
  simp only[q1,q2,q3,W.applyAll,bRc,bO0,if_false];rw[aC7 h.dst]
 |none=>
  cases hm':r'.mem with
  |some p=>
   obtain⟨⟨q1,q2,_⟩,_⟩:=h.m2 (by rw[hm'];rfl)
   simp only[q1,q2,W.applyAll,bRc,bO0,if_false];rw[aC7 h.dst]
  |none=>
   simp only
   congr 1
   ·exact aC7 h.dst
   ·exact aL3 _ _ _ h.ww
   ·by_cases hbb:r.bump=true
    ·by_cases hbb':r'.bump=true
     ·obtain⟨d,hd⟩:=bQk.1 (hb hbb);obtain⟨d',hd'⟩:=bQk.1 (hb' hbb');have hne:d≠d':=fun e=>h.dst d hd (by rw[hd',e])
      simp only[hbb,hbb',if_true,hd,hd',bPp]
      funext n t
      simp only[aC]
      by_cases h1:n=o'.op.me 0/\ t=d'
      ·obtain⟨rfl,rfl⟩:=h1;have h3: ¬t=d:=fun e=>hne e.symm
       simp[h3]
      ·by_cases h2:n=o.op.me 0/\ t=d
       ·obtain⟨rfl,rfl⟩:=h2;simp[hne]
       ·simp[h1,h2]
     ·simp[hbb']
    ·simp[hbb]
theorem aQ1 (h:en ρ.key=en' ρ.key):gP en en' ρ:=by
 cases ρ<;>simp only[gP,R.key]at h⊢ <;>rw[h]
theorem aQ2 {o:aM}(hd: ∀d,o.dst=some d->o'.dst≠some d)(hu: ∀d,o.dst=some d->d∉o'.uses)(hwr: ∀w∈r.ws,∀ρ∈r'.rs,jS w ρ=true)
  (h1:r.mem.isSome=true->r'.quiet/\ ∀ρ∈r'.rs,r.unch ρ.key=true) (h2:r'.mem.isSome=true->r.quiet/\ ∀ρ∈r.rs,r'.unch ρ.key=true) (hb:r.bump=true->o.dst.isSome=true) (s:St):wB o' r' (eQ o r s) s:=by
 refine⟨fun t ht=>?_,fun ρ hρ=>?_,fun hbump d hd'=>?_,fun hm=>?_⟩
 ·exact pH fun x hx e=>hu x hx (e▸ht)
 ·simp only[eQ];cases hm:r.mem with
  |some p=>have hu:=(h1 (by rw[hm];rfl)).2 ρ hρ;exact aQ1 (by simp only[hu,if_true])
  |none=>exact aL4 _ _ _ fun w hw=>hwr w hw ρ hρ
 ·simp only[eQ];cases hm:r.mem with
  |some p=>have:=(h1 (by rw[hm];rfl)).1.2.1;rw[hbump]at this;cases this
  |none=>
   simp only
   split
   ·rename_i hbb;obtain⟨d0,hd0⟩:=bQk.1 (hb hbb);simp only[hd0,bPp,aC];rw[if_neg]
    rintro⟨_,rfl⟩
    exact hd _ hd0 hd'
   ·rfl
 ·obtain⟨⟨q1,q2,q3⟩,_⟩:=h2 hm;simp only[eQ,q1,q2,q3,W.applyAll,bRc,bO0,if_false,and_self]
theorem aH7.like {o:aM}(h:aH7 o o' r r')(hb:r.bump=true->o.dst.isSome=true)(s:St):wB o' r' (eQ o r s) s:=
 aQ2 h.dst h.use h.wr h.m1 h.m2 hb s
theorem aH7.like' {o:aM}(h:aH7 o o' r r')(hb:r'.bump=true->o'.dst.isSome=true)(s:St):wB o r (eQ o' r' s) s:=
 aQ2 (fun d hd hd'=>h.dst d hd' hd) h.use' h.rw h.m2 h.m1 hb s
structure Run (n:Nat) (call:bH) (io:Inl) (l:Nat->aM) (r:Nat->Res) (N:Nat) (st:St) (s:Nat->St):Prop where
 zero:s 0=st
 step: ∀i,i<N->step n call io 0 (s i) (l i)=some (s (i+1),r i)
variable {N:Nat}{l:Nat->aM}{s:Nat->St}
theorem Run.fold {r:Nat->Res}(h:Run n call io l r N st s):
  ∀i,i<=N->s i=dM (fun k=>eQ (l k) (r k)) (fun _=>true) st i
 |0,_=>h.zero
 |i+1,hi=>by
  simp only[dM,if_true];rw[<-h.fold i (by omega)]
  exact(rL (h.step i (by omega))).1
theorem aJj {σ:Type}{E:Nat->σ->σ}{s:σ}{i:Nat}: ∀{N:Nat},i<=N->dM E (fun k=>decide (k<i)) s N=dM E (fun _=>true) s i
 |0,h=>by
  have:i=0:=by omega
  subst this;rfl
 |N+1,h=>by
  by_cases hi:i=N+1
  ·subst hi;exact cN fun k hk=>by simp[hk]
  ·simp only[dM];rw[if_neg (by simp;omega),aJj (by omega)]
theorem aBt {r:Nat->Res}(h:Run n call io l r N st s){ord:Nat->Nat->Prop}(hord: ∀i j,ord i j->i<j)
  (hfree: ∀i j,i<j->j<N-> ¬ord i j->aH7 (l i) (l j) (r i) (r j)) {L:Nat->Bool} (hcl: ∀j,j<N->L j=true-> ∀i,ord i j->L i=true) {i:Nat} (hi:i<N) (hL:L i=false) (hr: ∀k,ord k i->L k=true):
  step n call io 0 (dM (fun k=>eQ (l k) (r k)) L st N) (l i)=some (dM (fun k=>eQ (l k) (r k)) (fun k=>k==i||L k) st N,r i):=by
 have hb: ∀k,k<N->(r k).bump=true->(l k).dst.isSome=true:=fun k hk=>(rL (h.step k hk)).2.1
 have comm: ∀j k,j<k->k<N-> ¬ord j k-> ∀s,eQ (l k) (r k) (eQ (l j) (r j) s)=eQ (l j) (r j) (eQ (l k) (r k) s):=
  fun j k hjk hk ho s=>(hfree j k hjk hk ho).comm (hb j (by omega)) (hb k hk) s
 have a:wB (l i) (r i) (s i) (dM (fun k=>eQ (l k) (r k)) (fun k=>decide (k<i)&&L k) st N):=by
  have h1:=tS (E:=fun k=>eQ (l k) (r k)) (L:=fun k=>decide (k<i)) (s:=st) (n:=N) (wB (l i) (r i)) (wB.refl _ _) (fun _ _ _=>wB.trans) L N (bOy _) (fun j hj h1 h2=>by
   simp only[bSi]at h1;have ho: ¬ord j i:=fun ho=>by rw[hr j ho]at h2;cases h2
   refine⟨(hfree j i h1 hi ho).like (hb j hj),fun k hjk hk h3 h4=>comm j k hjk hk fun ho=>?_⟩
   rw[hcl k hk h4 j ho]at h2;cases h2)
  rw[cN (L':=fun k=>decide (k<i)) fun k hk=>by simp[hk],aJj (by omega),<-h.fold i (by omega)]at h1
  exact h1
 have b:wB (l i) (r i) (dM (fun k=>eQ (l k) (r k)) L st N) (dM (fun k=>eQ (l k) (r k)) (fun k=>decide (k<i)&&L k) st N):=by
  have h1:=tS (E:=fun k=>eQ (l k) (r k)) (L:=L) (s:=st) (n:=N) (wB (l i) (r i)) (wB.refl _ _) (fun _ _ _=>wB.trans) (fun k=>decide (k<i)) N (bOy _) (fun j hj h1 h2=>by
   simp only[bSj]at h2;have hne:j≠i:=by rintro rfl;rw[hL]at h1;cases h1
   have hij:i<j:=by omega
   have ho: ¬ord i j:=fun ho=>by rw[hcl j hj h1 i ho]at hL;cases hL
   refine⟨(hfree i j hij hj ho).like' (hb j hj),fun k hjk hk h3 h4=>?_⟩
   simp only[bSi]at h4;omega)
  rw[cN (L':=L) fun k hk=>by simp[hk],cN (L':=fun k=>decide (k<i)&&L k) (fun k hk=>Bool.and_comm _ _)]at h1
  exact h1
 rw[aW8 (h.step i hi) (a.trans b.symm)]
 congr 2
 refine(aF4 hL hi fun k hik hk hLk s=>comm i k hik hk (fun ho=>?_) s).symm
 rw[hcl k hk hLk i ho]at hL;cases hL
end Go.Abs
namespace Go.Abs
open Go.RowKit (Below)
variable [Inhabited lX]
def cF :Res:={v:= .tup []}
theorem tT {n:Nat}{call:bH}{io:Inl}: ∀{l:List aM} {st stn:St} {rs:List Res},iV n call io 0 l st=some (stn,rs)->
  rs.length=l.length/\ ∃s,Run n call io (fun i=>l.getD i default) (fun i=>rs.getD i cF) l.length st s/\ s l.length=stn
 |[],st,stn,rs,h=>by
  simp only[iV,bOw,bO1]at h;obtain⟨rfl,rfl⟩:=h;exact⟨rfl,fun _=>st,⟨rfl,fun i hi=>by simp at hi⟩,rfl⟩
 |o::l,st,stn,rs,h=>by
  simp only[iV]at h
  split at h
  case h_2=>cases h
  rename_i st' r hs
  split at h
  case h_2=>cases h
  rename_i st'' rs' hr;simp only[bOw,bO1]at h;obtain⟨rfl,rfl⟩:=h;obtain⟨hl,s,⟨h0,h1⟩,h2⟩:=tT hr
  refine⟨by simp[hl],fun i=>match i with|0=>st|i+1=>s i,⟨rfl,fun i hi=>?_⟩,h2⟩
  match i with
  |0=>simpa[h0]using hs
  |i+1=>simpa using h1 i (by simpa using hi)
def lK (o:Oper):List Nat:=(o.after.toList.filter (Region.binds .any)).map (·.on)
theorem aG9 : ∀{l:List Oper} {acc an:List (List Nat)},aIz l acc=some an->(∀k,k<acc.length->an.getD k []=acc.getD k [])/\
  ∀m (h:m<l.length),(∀k∈lK l[m],k<acc.length+m)/\ ∀i∈an.getD (acc.length+m) [],∃k∈lK l[m],i=k \/i∈an.getD k []
 |[],acc,an,h=>by
  simp only[aIz,bOw]at h;subst h;exact⟨fun _ _=>rfl,fun m hm=>by simp at hm⟩
 |o::l,acc,an,h=>by
  simp only[aIz]at h
  split at h
  case isFalse=>cases h
  rename_i hd;obtain⟨h1,h2⟩:=aG9 h;have hpre: ∀k,k<acc.length->an.getD k []=acc.getD k []:=fun k hk=>by
   rw[h1 k (by simp;omega)];simp[bO2,bR3 hk]
  have hdir: ∀k∈lK o,k<acc.length:=fun k hk=>by simpa using bO4.1 hd k hk
  refine⟨hpre,fun m hm=>?_⟩
  match m with
  |0=>
   refine⟨fun k hk=>by simpa using hdir k hk,fun i hi=>?_⟩
   rw[bQh,h1 acc.length (by simp)]at hi
   simp only[bO2,List.getElem?_append_right (bOy _),Nat.sub_self,bRf,bPp,List.mem_eraseDups,bPn,bQa]at hi;rcases hi with hi|⟨k,hk,hi⟩
   ·exact⟨i,hi,.inl rfl⟩
   ·exact⟨k,hk,.inr (by rw[hpre k (hdir k hk),bO2];exact hi)⟩
  |m+1=>
   have:=h2 m (by simpa using hm)
   simp only[bPg,bO7,bPe]at this;rw[show acc.length+(0+1)+m=acc.length+(m+1)by omega]at this
   simpa using this
variable {an:List (List Nat)}{j:Nat}{ops:Array Oper}
theorem sX (h:aQk ops=some an){o:Oper}(ho:ops[j]?=some o):
  (∀k∈lK o,k<j)/\ ∀i∈an.getD j [],∃k∈lK o,i=k \/i∈an.getD k []:=by
 obtain⟨hj,ho'⟩:=bQn.1 ho;have:=(aG9 h).2 j (by simpa using hj)
 simpa[ho']using this
theorem aIk (h:aQk ops=some an): ∀j i,j<ops.size->i∈an.getD j []->i<j:=by
 intro j
 induction j using Nat.strongRecOn with
 |ind j ih=>
  intro i hj hi;obtain⟨h1,h2⟩:=sX h (bPk hj);obtain⟨k,hk,h3⟩:=h2 i hi;have:=h1 k hk;rcases h3 with rfl|h3
  ·exact this
  ·have:=ih k this i (by omega) h3;omega
def yD (ops:Array Oper)(L:Nat->Bool):Prop:= ∀j o,ops[j]?=some o->L j=true-> ∀k∈lK o,L k=true
theorem gQ (h:aQk ops=some an){L:Nat->Bool}(hc:yD ops L): ∀j o,ops[j]?=some o->(∀k∈lK o,L k=true)-> ∀i∈an.getD j [],L i=true:=by
 intro j
 induction j using Nat.strongRecOn with
 |ind j ih=>
  intro o ho hd i hi;obtain⟨h1,h2⟩:=sX h ho;obtain⟨k,hk,h3⟩:=h2 i hi;have hkj:=h1 k hk;have hj:=(bQn.1 ho).1;rcases h3 with rfl|h3
  ·exact hd _ hk
  ·have hok:=bPk (xs:=ops) (i:=k) (by omega)
   exact ih k hkj _ hok (hc k _ hok (hd k hk)) i h3
variable {i:Nat}{l:List aM}{ps:List (Nat×Nat)}{rs:List Res}
theorem aIl (hp:fP an l=some ps)(hok:dS rs ps=true)
  (hw: ∀i,i<l.length->((l.getD i default).op.writesMem=false->(rs.getD i cF).quiet)/\ ((l.getD i default).op.readsMem=false->(rs.getD i cF).rs=[]))
  (hlt: ∀j i,j<l.length->i∈an.getD j []->i<j)  (hij:i<j) (hj:j<l.length) (ho: ¬i∈an.getD j []):
  aH7 (l.getD i default) (l.getD j default) (rs.getD i cF) (rs.getD j cF):=by
 have ho': ¬j∈an.getD i []:=fun h=>by have:=hlt i j (by omega) h;omega
 simp only[fP]at hp
 split at hp
 case isFalse=>cases hp
 rename_i hall;simp only[bOw]at hp;have hst: ∀a b,a<l.length->b<l.length->a≠b-> ¬a∈an.getD b []-> ¬b∈an.getD a []-> ∀d,(l.getD a default).dst=some d->(l.getD b default).dst≠some d/\ d∉(l.getD b default).uses:=by
  intro a b ha hb hab h1 h2 d hd;have:=bO4.1 (bO4.1 hall b (bPu.2 hb)) a (bPu.2 ha);simp only[bP3,beq_iff_eq,hab,false_or,hd]at this;simp only[bOx,bne_iff_ne,ne_eq,bP3,bQb,bQq,bSi,bSj]at this;exact⟨this.1,this.2.resolve_right fun h=>h.elim h1 h2⟩
 have hmem:(((l.getD i default).op.writesMem&&((l.getD j default).op.readsMem||(l.getD j default).op.writesMem))||((l.getD j default).op.writesMem&&(l.getD i default).op.readsMem))=true->(i,j)∈ps:=by
  intro hc;rw[<-hp];simp only[bQa,bPu,bPt,bQi,bOx,bQb]
  refine⟨j,hj,i,⟨hij,?_,hc⟩,rfl⟩
  simp only[bQq,Bool.or_eq_false_iff,bSj];exact⟨ho,ho'⟩
 have heff:(∀w∈(rs.getD i cF).ws,∀w'∈(rs.getD j cF).ws,mM w w'=true)/\ (∀w∈(rs.getD i cF).ws,∀ρ∈(rs.getD j cF).rs,jS w ρ=true)/\
   (∀w∈(rs.getD j cF).ws,∀ρ∈(rs.getD i cF).rs,jS w ρ=true)/\ ((rs.getD i cF).mem.isSome=true->(rs.getD j cF).quiet/\ ∀ρ∈(rs.getD j cF).rs,(rs.getD i cF).unch ρ.key=true)/\
   ((rs.getD j cF).mem.isSome=true->(rs.getD i cF).quiet/\ ∀ρ∈(rs.getD i cF).rs,(rs.getD j cF).unch ρ.key=true):=by
  by_cases hc:(((l.getD i default).op.writesMem&&((l.getD j default).op.readsMem||(l.getD j default).op.writesMem))||((l.getD j default).op.writesMem&&(l.getD i default).op.readsMem))=true
  ·have:=bO4.1 hok _ (hmem hc)
   simp only at this
   split at this
   case h_2=>cases this
   rename_i a b ha hb;simp only[bO2,ha,hb,bPp];simp only[aDy]at this
   split at this
   ·rename_i h1;simp only[bOx,Res.still,bRw,bQb,bO4,bRx]at this;obtain⟨⟨e0,⟨q1,q2⟩,q3⟩,q4⟩:=this;rw[e0,q1];exact⟨fun w h=>(by simp at h),fun w h=>(by simp at h),fun w h=>(by simp at h),fun _=>⟨⟨q1,q2,q3⟩,q4⟩,fun h=>(by rw[q3]at h;cases h)⟩
   ·rename_i h1
    split at this
    ·rename_i h2;simp only[bOx,Res.still,bRw,bQb,bO4,bRx]at this;obtain⟨⟨e0,⟨q1,q2⟩,q3⟩,q4⟩:=this;rw[e0,q1];exact⟨fun w h=>(by simp at h),fun w h=>(by simp at h),fun w h=>(by simp at h),fun h=>absurd h h1,fun _=>⟨⟨q1,q2,q3⟩,q4⟩⟩
    ·rename_i h2;simp only[bOx,bO4]at this;obtain⟨t1,t2⟩:=this;exact⟨fun w h w' h'=>(t1 w h).2 w' h',fun w h ρ h'=>(t1 w h).1 ρ h',fun w h ρ h'=>t2 w h ρ h',fun h=>absurd h h1,fun h=>absurd h h2⟩
  ·have hi:=hw i (by omega)
   have hj:=hw j hj;cases h1:(l.getD i default).op.writesMem with
   |false=>
    have q:=hi.1 h1;have e1:=q.1;have e3:=q.2.2;rw[e1,e3]
    refine⟨fun w h=>by simp at h,fun w h=>by simp at h,?_,fun h=>(by cases h),fun h=>⟨q,?_⟩⟩
    ·cases h2:(l.getD j default).op.writesMem with
     |false=>rw[(hj.1 h2).1];intro w h;simp at h
     |true=>
      have:(l.getD i default).op.readsMem=false:=by simp only[h1,h2,bPm,bPr,bPv]at hc;simpa using hc
      rw[hi.2 this];intro w _ ρ h;simp at h
    ·cases h2:(l.getD j default).op.writesMem with
     |false=>rw[(hj.1 h2).2.2]at h;cases h
     |true=>
      have:(l.getD i default).op.readsMem=false:=by simp only[h1,h2,bPm,bPr,bPv]at hc;simpa using hc
      exact fun ρ hρ=>(by rw[hi.2 this]at hρ;simp at hρ)
   |true=>
    simp only[h1,bPr,bP3,not_or,bOx]at hc;obtain⟨⟨h2,h3⟩,h4⟩:=hc;have q:=hj.1 (by simpa using h3)
    have e1:=q.1;have e3:=q.2.2;have e2:=hj.2 (by simpa using h2)
    rw[e1,e2,e3];exact⟨fun w _ w' h=>by simp at h,fun w _ ρ h=>by simp at h,fun w h=>by simp at h,fun _=>⟨q,fun ρ hρ=>(by simp at hρ)⟩,fun h=>(by cases h)⟩
 obtain⟨f1,f2,f3,f4,f5⟩:=heff;exact⟨fun d hd=>(hst i j (by omega) hj (by omega) ho ho' d hd).1,fun d hd=>(hst i j (by omega) hj (by omega) ho ho' d hd).2,fun d hd=>(hst j i hj (by omega) (by omega) ho' ho d hd).2,f1,f2,f3,f4,f5⟩
theorem tU (f g:Nat->Bool)(i:Nat)(hf:f i=true)(hg:g i=false)(h: ∀k,k≠i->g k=f k): ∀N,i<N->(List.range N).countP g+1=(List.range N).countP f
 |0,h=>by omega
 |N+1,hi=>by
  simp only[List.range_succ,List.countP_append,List.countP_singleton]
  by_cases hn:i=N
  ·subst hn;have:(List.range i).countP g=(List.range i).countP f:=List.countP_congr fun k hk=>by
    have:=bPu.1 hk;rw[h k (by omega)]
   simp[this,hf,hg]
  ·have:=tU f g i hf hg h N (by omega)
   rw[h N (by omega)]
   omega
variable {Q:Exit->Act->World->Prop}{st stn:St}{I:Operand->Bool}{m n B N:Nat}{ro:Option Nat}{P:Program}{S:Nat->Nat->Prop}{Ξ:Env}{call:bH}{io:Inl}
section
theorem aW9 (hcall:lJ P call)(hio:wW P io)(hl:cU (fD P I ops) ops.toList=some l)(hd:l.all (fun o=>o.dst.all (· <N))=true):
  ∀(k i:Nat) (st st':St) (G:Gh) (a:Act) (w:World),i+k=ops.size->Rel P Ξ B S G st N a w->gJ n call io 0 (l.drop i) st=some st'->
   (∀a' w' G',Rel P Ξ B S G' st' N a' w'->Below B w w'->Q .normal a' w')->wpOpsIn (Fx ro) m P ops Q (List.range' i k) a w:=by
 obtain⟨l1,l2⟩:=eR hl;intro k
 induction k with
 |zero=>
  intro i st st' G a w hik hR hrun hQ;have:l.drop i=[]:=bR4.2 (by rw[l1];simp;omega)
  rw[this]at hrun;simp only[gJ,bOw]at hrun;subst hrun;exact hQ a w G hR (Below.refl _ _)
 |succ k ih=>
  intro i st st' G a w hik hR hrun hQ;have hi:i<ops.size:=by omega
  have hil:i<l.length:=by rw[l1];simpa using hi
  rw[bPy hil]at hrun;simp only[gJ]at hrun
  split at hrun
  case h_2=>cases hrun
  rename_i st1 r hs;rw[bRu,wpOpsIn_cons];unfold wpOpIn;rw[bPk hi];have hlow:=l2 i (by simpa using hi) hil
  simp only[bRr]at hlow;exact oW hcall hio hR hlow (bO4.1 hd _ (bO6 hil)) hs fun a' w' G' h1 h2=>
   ih (i+1) st1 st' G' a' w' (by omega) h1 hrun fun a'' w'' G'' h3 h4=>hQ a'' w'' G'' h3 (h2.trans h4)
theorem aXa (hcall:lJ P call)(hio:wW P io)(hl:cU (fD P I ops) ops.toList=some l)(hd:l.all (fun o=>o.dst.all (· <N))=true)(han:aQk ops=some an)
   (hps:fP an l=some ps)   (hrun:iV n call io 0 l st=some (stn,rs)) (hok:dS rs ps=true) :
  ∀(fuel:Nat) (listed:Array Bool) (G:Gh) (a:Act) (w:World),listed.size=ops.size->(List.range ops.size).countP (fun i=>!listed.getD i false)<=fuel->yD ops (fun i=>listed.getD i false)->
   Rel P Ξ B S G (dM (fun k=>eQ (l.getD k default) (rs.getD k cF)) (fun i=>listed.getD i false) st ops.size) N a w->(∀a' w' G',Rel P Ξ B S G' stn N a' w'->Below B w w'->Q .normal a' w')->
   wpAnyIn (Fx ro) m P .any ops Q fuel listed a w:=by
 obtain⟨l1,l2⟩:=eR hl;have hN:l.length=ops.size:=by rw[l1];simp
 obtain⟨hrl,s,hrun',hsn⟩:=tT hrun;rw[hN]at hrun' hsn;have hlt:=aIk han;have hw: ∀i,i<l.length->((l.getD i default).op.writesMem=false->(rs.getD i cF).quiet)/\ ((l.getD i default).op.readsMem=false->(rs.getD i cF).rs=[]):=
  fun i hi=>(rL (hrun'.step i (by omega))).2.2
 have hfree: ∀i j,i<j->j<ops.size-> ¬i∈an.getD j []->aH7 (l.getD i default) (l.getD j default) (rs.getD i cF) (rs.getD j cF):=
  fun i j hij hj ho=>aIl hps hok hw (fun j i hj hi=>hlt j i (by omega) hi) hij (by omega) ho
 have full: ∀(listed:Array Bool),listed.size=ops.size->Region.ready .any ops listed=[]-> ∀i,i<ops.size->listed.getD i false=true:=by
  intro listed hsz hr i
  induction i using Nat.strongRecOn with
  |ind i ih=>
   intro hi;cases hb:listed.getD i false with
   |true=>rfl
   |false=>
    exfalso
    have hm:i∈Region.ready .any ops listed:=by
     rw[mem_ready]
     refine⟨?_,ops[i],bPk hi,fun e he hbd=>?_⟩
     ·rw[bPc,bPk (by omega)]at hb⊢;simpa using hb
     ·have hk:e.on∈lK ops[i]:=bPt.2 ⟨e,bQi.2 ⟨by simpa using he,hbd⟩,rfl⟩
      have:=(sX han (bPk hi)).1 _ hk;exact ih _ this (by omega)
    rw[hr]at hm;simp at hm
 have done: ∀(listed:Array Bool) (G:Gh) (a:Act) (w:World),listed.size=ops.size->Region.ready .any ops listed=[]->
   Rel P Ξ B S G (dM (fun k=>eQ (l.getD k default) (rs.getD k cF)) (fun i=>listed.getD i false) st ops.size) N a w->(∀a' w' G',Rel P Ξ B S G' stn N a' w'->Below B w w'->Q .normal a' w')->Q .normal a w:=by
  intro listed G a w hsz hr hR hQ
  refine hQ a w G ?_ (Below.refl _ _)
  rw[cN (L':=fun _=>true) fun i hi=>full listed hsz hr i hi,<-hrun'.fold _ (bOy _),hsn]at hR
  exact hR
 intro fuel
 induction fuel with
 |zero=>
  intro listed G a w hsz hc hcl hR hQ;have hr:Region.ready .any ops listed=[]:=by
   cases h:Region.ready .any ops listed with
   |nil=>rfl
   |cons i jE=>
    exfalso
    have hm:i∈Region.ready .any ops listed:=by rw[h];simp
    obtain⟨h0,o,ho,_⟩:=mem_ready.1 hm;have hi:=(bQn.1 ho).1;have hb:listed.getD i false=false:=by
     rw[bPc,bPk (by omega)]at h0⊢;simpa using h0
    have:=bSb (p:=fun i=>!listed.getD i false) (l:=List.range ops.size)|>.2 ⟨i,bPu.2 hi,by simp only[hb];rfl⟩
    omega
  exact⟨hr,done listed G a w hsz hr hR hQ⟩
 |succ fuel ih=>
  intro listed G a w hsz hc hcl hR hQ
  refine⟨fun hr=>done listed G a w hsz hr hR hQ,fun i hm=>?_⟩
  obtain⟨h0,o,ho,hready⟩:=mem_ready.1 hm;have hi:=(bQn.1 ho).1;have hoi:o=ops[i]:=by rw[bPk hi,bOw]at ho;exact ho.symm
  have hb:listed.getD i false=false:=by
   rw[bPc,bPk (by omega)]at h0⊢;simpa using h0
  have hdir: ∀k∈lK o,listed.getD k false=true:=by
   intro k hk;obtain⟨e,he,rfl⟩:=bPt.1 hk;obtain⟨he1,he2⟩:=bQi.1 he;exact hready e (by simpa using he1) he2
  have hst:=aBt hrun' (ord:=fun i j=>j<ops.size/\ i∈an.getD j []) (fun i j h=>hlt j i h.1 h.2) (fun i j hij hj ho=>hfree i j hij hj fun h=>ho ⟨hj,h⟩) (L:=fun i=>listed.getD i false)
   (fun j hj hLj i hord=>gQ han hcl j _ (bPk hj) (hcl j _ (bPk hj) hLj) i hord.2) hi hb
   (fun k hk=>gQ han hcl i o ho hdir k hk.2)
  have hset: ∀k,(listed.setIfInBounds i true).getD k false=(k==i||listed.getD k false):=by
   intro k
   by_cases hk:k=i
   ·subst hk;simp[show k<listed.size by omega]
   ·rw[getD_set_ne false fun e=>hk e.symm]
    have:(k==i)=false:=by simpa using hk
    rw[this,bPv]
  have hil:i<l.length:=by omega
  have hlow:=l2 i (by simpa using hi) hil
  simp only[bRr]at hlow;have hli:l.getD i default=l[i]:=by simp[bO2,hil]
  rw[hli]at hst;unfold wpOpIn;rw[bPk hi]
  refine oW hcall hio hR hlow (bO4.1 hd _ (bO6 hil)) hst fun a' w' G' h1 h2=>?_
  refine ih _ G' a' w' (by simpa using hsz) ?_ ?_ ?_ fun a'' w'' G'' h3 h4=>hQ a'' w'' G'' h3 (h2.trans h4)
  ·have:=tU (fun i=>!listed.getD i false) (fun k=>!(listed.setIfInBounds i true).getD k false) i (by simp only[hb];rfl) (by simp only[hset];simp) (fun k hk=>by
    simp only[hset];have:(k==i)=false:=by simpa using hk
    rw[this,bPv]) ops.size hi
   omega
  ·intro j oj hoj hLj k hk;simp only[hset]at hLj⊢
   by_cases hj:j=i
   ·subst hj;rw[ho,bOw]at hoj;subst hoj;rw[hdir k hk,bQv]
   ·have:(j==i)=false:=by simpa using hj
    rw[this,bPv]at hLj;have h5:listed.getD k false=true:=hcl j oj hoj hLj k hk;rw[h5,bQv]
  ·rw[cN (L':=fun k=>k==i||listed.getD k false) fun k _=>hset k]
   exact h1
end
def FV (v:Val)(x:Value):Prop:= ∀(T:Nat->Nat->Prop) (G:Gh) (w:World),VR T G w v x
def yE (x:Value):List PanicEntry:=[{v:=x,recovered:=false}]
def aQ3 (P:Program)(pan:bH):Prop:= ∀f args v,pan f args=some v→(∃fn,P.funcs[f]?=some fn∧(fn.name== "runtime.NumGoroutine")=false∧fn.body.isNone=false)∧
 ∀(S:Nat->Nat->Prop) (w:World) (vals:Array Value),(∀b o,S b o->b<w.heap.size)->tM S w->vals.size=args.length->(∀i,i<args.length->VR S Gh.none w (args.getD i .dead) (vals.getD i undef))->
  Calls P f vals w fun e w'=> ∃x,e= .panicked (yE x)/\ Below w.heap.size w w'/\ FV v x
def bCy (P:Program)(Ξ:Env)(B:Nat)(S:Nat->Nat->Prop)(st st':St)(N:Nat)(a:Act)(w:World)(v:Val)(e:Ending)(w':World):Prop:=
 ∃x G',e= .panicked (yE x)/\ FV v x/\ Rel P Ξ B S G' {fr:=st.fr,en:=st'.en,cnt:=st'.cnt} N a w'/\ Below B w w'
def aQ4 (P:Program)(pin:Nat→List Val→St→Option (Val×St)):Prop:= ∀f args v (st0 st':St),pin f args st0=some (v,st')→(∃fn,P.funcs[f]?=some fn∧(fn.name== "runtime.NumGoroutine")=false∧fn.body.isNone=false)∧
  ∀(Ξ:Env) (B:Nat) (S:Nat->Nat->Prop) (G:Gh) (st:St) (N:Nat) (a:Act) (w:World) (vals:Array Value),Rel P Ξ B S G st N a w->st0.en=st.en->st0.cnt=st.cnt->vals.size=args.length->
   (∀i,i<args.length->VR (aX B S G w.heap.size) G w (args.getD i .dead) (vals.getD i undef))->Calls P f vals w (bCy P Ξ B S st st' N a w v)
variable {op:Op}{ys:List Opd}{f:Nat}{lo:aM}{next:Act->World->Prop}{pan:bH}{pin:Nat->List Val->St->Option (Val×St)}{st':St}{v:Val}{G:Gh}{a:Act}{w:World}
section
variable {o:Oper}
theorem aQ5 {y:Opd}(h:dP P I op=some (.panic y)): ∃x,op= .panic x/\ aO x=some y:=by
 cases op
 case panic x=>
  simp only[dP]at h;obtain⟨z,h1,h2⟩:=bPa.1 h;simp only[LOp.panic.injEq]at h2;exact⟨x,rfl,h2▸h1⟩
 case binOp op t x y ty=>
  exfalso
  simp only[dP,bPj,bO9]at h;obtain⟨e,_,h⟩:=h
  split at h
  ·split at h
   ·simp[bO9]at h
   ·cases h
  ·split at h<;>simp[bO9]at h
 all_goals (exfalso;simp only[dP]at h;(repeat' split at h)<;>first|contradiction|(simp[bO9,bPa]at h;done)|(have:=kS h;simp at this))
theorem aUe {f:Opd}(h:dP P I op=some (.call f ys)): ∃c,op= .call c/\ jH c.args.toList=some ys/\
  ((∃F,c.callee= .value F/\ aO F=some f) \/ ∃t name,c.callee= .invoke (.tmp t) name/\ f= .m (aBm P name) t):=by
 cases op
 case call c=>
  simp only[dP]at h
  split at h
  ·rename_i F hc
   split at h
   ·simp[bO9]at h
   ·simp only[bPj,bO9,bPl,bOw,LOp.call.injEq]at h;obtain⟨x',h1,ys',h2,rfl,rfl⟩:=h;exact⟨c,rfl,h2,.inl ⟨F,hc,h1⟩⟩
  ·rename_i t name hc;simp only[bPj,bO9,bPl,bOw,LOp.call.injEq]at h;obtain⟨ys',h2,rfl,rfl⟩:=h;exact⟨c,rfl,h2,.inr ⟨t,name,hc,rfl⟩⟩
  all_goals (repeat' split at h)<;>first|(simp[bO9,bPa]at h;done)|(have:=kS h;simp at this)
 case binOp op t x y ty=>
  exfalso
  simp only[dP,bPj,bO9]at h;obtain⟨e,_,h⟩:=h
  split at h
  ·split at h
   ·simp[bO9]at h
   ·cases h
  ·split at h<;>simp[bO9]at h
 all_goals (exfalso;simp only[dP]at h;(repeat' split at h)<;>first|contradiction|(simp[bO9,bPa]at h;done)|(have:=kS h;simp at this))
theorem aHa (hR:Rel P Ξ B S G st N a w){c:Call}{F:Operand}{x:Opd}{A Z:List Val}(ho:o.op= .call c)(hc:c.callee= .value F)(h1:aO F=some x)(h2:jH c.args.toList=some ys)
  (hf:St.get st.fr x= .fn f A Z) (hfn: ∃fn,P.funcs[f]?=some fn∧(fn.name== "runtime.NumGoroutine")=false∧fn.body.isNone=false):
  ∃Y:Array Value,(execOp a.eval o).run P w= .ok (.enter f Y) w/\ Y.size=(A++ys.map (St.get st.fr)++Z).length/\
   ∀i,i<(A++ys.map (St.get st.fr)++Z).length->VR (aX B S G w.heap.size) G w ((A++ys.map (St.get st.fr)++Z).getD i .dead) (Y.getD i undef):=by
 obtain⟨fn,hfn,hnm,hbody⟩:=hfn;have hF:=aU hR h1;rw[hf]at hF;obtain⟨ly,vy⟩:=oV hR h2;generalize hgF:a.eval F=uF at hF;cases hF with
 |fn _ _ _ p q hp hq hvp hvq=>
 refine⟨p++c.args.map a.eval++q,?_,by simp[hp,hq,ly],?_⟩
 ·have hnm': ¬fn.name= "runtime.NumGoroutine" :=by simpa using hnm
  have hbody': ¬fn.body=none:=by intro h;rw[h]at hbody;cases hbody
  simp[execOp,ho,resolve,hc,hgF,Deferred.ofValue,invoke,callFunc,hfn,hnm',hbody']
 ·intro i hi;simp only[bO2,bPc,bRn,bRp,bPg,bRo,Array.size_map,bOz]at hi⊢;have e1:p.size=A.length:=hp;have e2:c.args.size=ys.length:=by simp[ly]
  rw[e1,e2];split
  ·split
   ·rename_i h;have:=hvp i h;simpa[bO2,bPc]using this
   ·have hi':i-A.length<ys.length:=by omega
    have:=vy (i-A.length) hi';have hi2:i-A.length<c.args.size:=by omega
    simpa[bO2,bPc,hi',hi2]using this
  ·have:=hvq (i-(A.length+ys.length)) (by omega);simpa[bO2,bPc]using this
theorem wC (hpan:aQ3 P pan)(hpin:aQ4 P pin)(hR:Rel P Ξ B S G st N a w)
  (hl:fD P I ops o=some lo) (hs:dT n pan pin st lo=some (v,st'))    
  (k: ∀a' w' G' x,FV v x->Rel P Ξ B S G' st' N a' w'->Below B w w'->Q (.panic (yE x)) a' w'):
  Region.wanted o (yielded ops a.tmps)=true/\ o.wpIn (Fx ro) m P a w next Q:=by
 simp only[fD,bPj,bO9,bPl,bOw]at hl;obtain⟨lop,hop,g,hg,rfl⟩:=hl;simp only[dT]at hs
 split at hs
 case h_2=>cases hs
 rename_i hw
 refine⟨pV hR hg hw,?_⟩
 split at hs
 ·rename_i y
  split at hs
  case h_2=>cases hs
  rename_i t u hu
  split at hs
  case isFalse=>cases hs
  rename_i hfl;simp only[bOw,bO1]at hs;obtain⟨rfl,rfl⟩:=hs;obtain⟨x,e1,e2⟩:=aQ5 hop;have hx:=aU hR e2;rw[hu]at hx;generalize hax:a.eval x=z at hx;have hfv:FV (.ifc t u) z:=fun T' G' w'=>aMt hx hfl
  cases hx with
  |ifc _ _ z' hz=>
  have hrun:(execOp a.eval o).run P w= .halt (.panic (.iface t z')) w:=by
   simp[execOp,e1,hax,Instr.panic,goPanic]
  refine⟨fun _ _=>trivial,?_⟩
  rw[Oper.semAt_eq _ _ _ (by simp[e1]),hrun]
  exact k a w G _ hfv hR (Below.refl _ _)
 ·rename_i f args
  split at hs
  case h_2=>cases hs
  rename_i f' A Z hnoM hf
  split at hs
  case h_2=>cases hs
  rename_i rs hsn;obtain⟨v',hv,he⟩:=bPa.1 hs;simp only[bO1]at he;obtain⟨rfl,rfl⟩:=he;obtain⟨hfn,hcalls⟩:=hpan _ _ _ hv;obtain⟨c,e1,e2,e3⟩:=aUe hop;obtain⟨Y,hrun,hYl,hYv⟩: ∃Y:Array Value,(execOp a.eval o).run P w= .ok (.enter f' Y) w/\ Y.size=(A++args.map (St.get st.fr)++Z).length/\
    ∀i,i<(A++args.map (St.get st.fr)++Z).length->VR (aX B S G w.heap.size) G w ((A++args.map (St.get st.fr)++Z).getD i .dead) (Y.getD i undef):=by
   rcases e3 with⟨F,e3,e4⟩|⟨t,name,e3,rfl⟩
   ·exact aHa hR e1 e3 e4 e2 hf hfn
   ·cases hnoM
  obtain⟨s1,s2⟩:=tN hsn;have hrl:(rs.map (·.1.wk1)).length=(A++args.map (St.get st.fr)++Z).length:=by rw[<-s1];simp
  refine⟨fun _ _=>trivial,?_⟩
  rw[pU hrun (by simp),Oper.uponIn_enter]
  refine⟨fun h=>by simp[Fx,Fence.wide]at h,?_⟩
  refine pG (Calls.mono (hcalls (fun b _=>b<w.heap.size) w Y (fun _ _ h=>h) (hR.glob.mono fun _ _ h=>h.1) (by rw[hrl,hYl]) (fun i hi=>?_)) ?_)
  ·rw[hrl]at hi;obtain⟨ks,q1,_⟩:=s2 i hi;have:=(xV hR.ents (T':=fun b _=>b<w.heap.size) ⟨fun _ _ h=>h.1,G.le_refl,fun _ _ _ _ h=>h,fun _ _ _ _ h=>h,fun _ _ h=>h,fun _ r h=>⟨r,h⟩⟩ n (hYv i hi) q1 fun k _ e he=>aVz hR he).wk1
   rw[show rs.map (·.1.wk1)=(rs.map (·.1)).map Val.wk1 by simp]
   rw[aEa];exact this
  ·rintro e w' ⟨x,rfl,hb,hv⟩
   exact k a w' G x hv (hR.below hb) ⟨hb.os,hb.tape,hb.output,hb.size,fun k hk=>hb.block k (bPo hk hR.size)⟩
 ·rename_i f args
  split at hs
  case h_2=>cases hs
  rename_i f' A Z hf
  split at hs
  case h_2=>cases hs
  rename_i v' st1 hv;simp only[bOw,bO1]at hs;obtain⟨rfl,rfl⟩:=hs;obtain⟨hfn,hcalls⟩:=hpin _ _ _ _ _ hv;obtain⟨c,F,e1,e2,e3,e4⟩:=aG8 hop;obtain⟨Y,hrun,hYl,hYv⟩:=aHa hR e1 e2 e3 e4 hf hfn
  refine⟨fun _ _=>trivial,?_⟩
  rw[pU hrun (by simp),Oper.uponIn_enter]
  refine⟨fun h=>by simp[Fx,Fence.wide]at h,?_⟩
  refine pG (Calls.mono (hcalls Ξ B S G st N a w Y hR rfl rfl hYl hYv) ?_)
  rintro e w' ⟨x,G',rfl,hv,hR',hb⟩
  exact k a w' G' x hv hR' hb
 ·cases hs
end
def Ex.val :Ex->Value->Prop
 | .panic v,x=>FV v x
 |_,_=>True
def aF5 (P:Program)(Ξ:Env)(B:Nat)(S:Nat->Nat->Prop)(G:Gh)(st:St)(N:Nat)(e:Ex)(a:Act)(w:World):Prop:=
 ∃tm:Array Value,Rel P Ξ B S G st N {a with tmps:=tm} w/\ (e.calm=true->tm=a.tmps)/\ ∀t,(st.fr t).isUndef=false->tm.getD t undef=a.tmps.getD t undef
theorem Rel.e (h:Rel P Ξ B S G st N a w){e:Ex}:aF5 P Ξ B S G st N e a w:=⟨a.tmps,h,fun _=>rfl,fun _ _=>rfl⟩
theorem aF5.rel {e:Ex}(h:aF5 P Ξ B S G st N e a w)(hc:e.calm=true):Rel P Ξ B S G st N a w:=by
 obtain⟨tm,h1,h2,_⟩:=h;have:=h2 hc;subst this;exact h1
def Ex.toExit (x:Value):Ex->Exit
 | .normal=> .normal
 | .exit id=> .exit id
 | .ret=> .ret
 | .panic _=> .panic (yE x)
section
theorem aUf (hcall:lJ P call)(hio:wW P io)(hpan:aQ3 P pan)(hpin:aQ4 P pin)(hl:cU (fD P I ops) ops.toList=some l)(hd:l.all (fun o=>o.dst.all (· <N))=true):
  ∀(k i:Nat) (st st':St) (e:Ex) (G:Gh) (a:Act) (w:World),i+k=ops.size->Rel P Ξ B S G st N a w->aD1 n call io pan pin (l.drop i) st=some (e,st')->
   (∀a' w' G' x,e.val x->aF5 P Ξ B S G' st' N e a' w'->Below B w w'->Q (e.toExit x) a' w')->wpOpsIn (Fx ro) m P ops Q (List.range' i k) a w:=by
 obtain⟨l1,l2⟩:=eR hl;intro k
 induction k with
 |zero=>
  intro i st st' e G a w hik hR hrun hQ;have:l.drop i=[]:=bR4.2 (by rw[l1];simp;omega)
  rw[this]at hrun;simp only[aD1,bOw,bO1]at hrun;obtain⟨rfl,rfl⟩:=hrun;exact hQ a w G undef trivial hR.e (Below.refl _ _)
 |succ k ih=>
  intro i st st' e G a w hik hR hrun hQ;have hi:i<ops.size:=by omega
  have hil:i<l.length:=by rw[l1];simpa using hi
  rw[bPy hil]at hrun;simp only[aD1]at hrun;rw[bRu,wpOpsIn_cons];unfold wpOpIn;rw[bPk hi];have hlow:=l2 i (by simpa using hi) hil
  simp only[bRr]at hlow
  split at hrun
  ·rename_i v st1 hp;simp only[bOw,bO1]at hrun;obtain⟨rfl,rfl⟩:=hrun;obtain⟨q1,q2⟩:=wC (ro:=ro) (m:=m) (next:=fun a w=>wpOpsIn (Fx ro) m P ops Q (List.range' (i+1) k) a w) (Q:=Q) hpan hpin hR hlow hp fun a' w' G' x h1 h2 h3=>hQ a' w' G' x h1 h2.e h3
   simp only[q1,if_true];exact q2
  ·split at hrun
   case h_2=>cases hrun
   rename_i st1 r hs;exact oW hcall hio hR hlow (bO4.1 hd _ (bO6 hil)) hs fun a' w' G' h1 h2=>
    ih (i+1) st1 st' e G' a' w' (by omega) h1 hrun fun a'' w'' G'' x h3 h4 h5=>hQ a'' w'' G'' x h3 h4 (h2.trans h5)
end
theorem sL :(dD an j l).length=l.length:=by simp[dD]
theorem iC (hi:i<l.length):(dD an j l).getD i default=if behind an j i=true then aIx else if zF an j l i=true then aGz (l.getD i default)else l.getD i default:=by
 simp[dD,bO2,hi]
theorem sY (hi:i<l.length)(hb: ¬behind an j i=true):((dD an j l).getD i default).dst=(l.getD i default).dst:=by
 rw[iC hi,if_neg hb];split<;>rfl
variable {d:Nat}
theorem aUg (hi:i<l.length)(hb: ¬behind an j i=true)(h:d∈((dD an j l).getD i default).uses):d∈(l.getD i default).uses:=by
 rw[iC hi,if_neg hb]at h
 split at h
 ·simp[aGz,aM.uses,LOp.opds,Opd.tmp]at h
 ·exact h
theorem aMw (hi:i<l.length)(hb: ¬behind an j i=true):
  (((dD an j l).getD i default).op.writesMem=true->(l.getD i default).op.writesMem=true)/\ (((dD an j l).getD i default).op.readsMem=true->(l.getD i default).op.readsMem=true):=by
 rw[iC hi,if_neg hb];split
 ·exact⟨fun h=>by simp[aGz,LOp.writesMem]at h,fun h=>by simp[aGz,LOp.readsMem]at h⟩
 ·exact⟨id,id⟩
theorem aCj (h:fP an l=some ps): ∃ps',fP an (dD an j l)=some ps'/\ ∀p∈ps',p∈ps:=by
 simp only[fP]at h⊢
 split at h
 case isFalse=>cases h
 rename_i hall;simp only[bOw]at h;rw[sL];have hc:((List.range l.length).all fun k=>(List.range l.length).all fun i=>i==k||
   (match((dD an j l).getD i default).dst with
    |some d=>((dD an j l).getD k default).dst !=some d&&(!((dD an j l).getD k default).uses.contains d||((an.getD k []).contains i||(an.getD i []).contains k))
    |none=>true))=true:=by
  rw[bO4];intro k hk;rw[bO4];intro i hi;have hk':=bPu.1 hk;have hi':=bPu.1 hi;have h0:=bO4.1 (bO4.1 hall k hk) i hi
  by_cases hik:(i==k)=true
  ·rw[hik];rfl
  ·simp only[hik,bPv]at h0⊢
   by_cases hbi:behind an j i=true
   ·rw[iC hi',if_pos hbi];rfl
   ·rw[sY hi' hbi];cases hd:(l.getD i default).dst with
    |none=>rfl
    |some d=>
     rw[hd]at h0
     simp only at h0⊢
     by_cases hbk:behind an j k=true
     ·rw[iC hk',if_pos hbk];have e1:aIx.dst=none:=rfl;have e2:aIx.uses=[]:=rfl;rw[e1,e2];simp
     ·rw[sY hk' hbk];rw[bOx]at h0⊢
      refine⟨h0.1,?_⟩
      have h1:=h0.2;rw[bP3]at h1⊢
      refine h1.imp (fun h2=>?_) id
      simp only[bQb,bQq,bSj]at h2⊢;exact fun h3=>h2 (aUg hk' hbk h3)
 refine⟨_,if_pos hc,fun p hp=>?_⟩
 rw[<-h];simp only[bQa,bPu,bPt,bQi,bOx]at hp⊢;obtain⟨k,hk,i,⟨hik,hord,hcond⟩,rfl⟩:=hp
 refine⟨k,hk,i,⟨hik,hord,?_⟩,rfl⟩
 have e1:aIx.op.writesMem=false:=rfl;have e2:aIx.op.readsMem=false:=rfl
 by_cases hbi:behind an j i=true
 ·rw[iC (i:=i) (by omega),if_pos hbi]at hcond
  simp[e1,e2]at hcond
 ·by_cases hbk:behind an j k=true
  ·rw[iC hk,if_pos hbk]at hcond;simp[e1,e2]at hcond
  ·have mi:=aMw (an:=an) (j:=j) (l:=l) (i:=i) (by omega) hbi
   have mk:=aMw (an:=an) (j:=j) (l:=l) hk hbk;simp only[bP3,bOx]at hcond⊢;exact hcond.imp (fun h=>⟨mi.1 h.1,h.2.imp mk.2 mk.1⟩) (fun h=>⟨mk.1 h.1,mi.2 h.2⟩)
theorem aAb {ps':List (Nat×Nat)}(h:dS rs ps=true)(hs: ∀p∈ps',p∈ps):dS rs ps'=true:=by
 simp only[dS,bO4]at h⊢;exact fun p hp=>h p (hs p hp)
variable {st2:St}
theorem sM {s:St}{o:aM}(h:dT n pan pin st o=some (v,st2))(hen:s.en=st.en)(hcnt:s.cnt=st.cnt)(hfr: ∀t∈o.uses,s.fr t=st.fr t):
  dT n pan pin s o=some (v,{fr:=s.fr,en:=st2.en,cnt:=st2.cnt})/\ st2.fr=st.fr:=by
 have hw:wanted s.fr o.guard=wanted st.fr o.guard:=by
  cases hg:o.guard with
  |none=>rfl
  |some p=>
   obtain⟨t,b⟩:=p;simp only[wanted];rw[hfr t (by simp[aM.uses,hg])]
 have hgt: ∀x∈o.op.opds,St.get s.fr x=St.get st.fr x:=by
  intro x hx;cases x with
  |t i=>exact hfr i (by simp only[aM.uses,bPn,bQa];exact .inl ⟨_,hx,by simp[Opd.tmp]⟩)
  |c v=>rfl
  |f i=>rfl
  |m tbl i=>simp only[St.get];rw[hfr i (by simp only[aM.uses,bPn,bQa];exact .inl ⟨_,hx,by simp[Opd.tmp]⟩)]
 simp only[dT]at h⊢;rw[hw]
 split at h
 case h_2=>cases h
 split at h
 ·rename_i x hop;rw[hgt x (by simp[hop,LOp.opds])]
  split at h
  case h_2=>cases h
  split at h
  case isFalse=>cases h
  rename_i hfl;simp only[bOw,bO1]at h;obtain⟨rfl,rfl⟩:=h;rw[if_pos hfl];exact⟨by rw[<-hen,<-hcnt],by first|rfl|trivial⟩
 ·rename_i f args hop;rw[hgt f (by simp[hop,LOp.opds]),show args.map (St.get s.fr)=args.map (St.get st.fr)from bQ5 fun p hp=>hgt p (by simp[hop,LOp.opds,hp]),hen]
  split at h
  case h_2=>cases h
  split at h
  case h_2=>cases h
  rename_i hs;obtain⟨v',hv,he⟩:=bPa.1 h;simp only[bO1]at he;obtain⟨rfl,rfl⟩:=he;simp only[hs,hv,bPq];exact⟨by rw[<-hen,<-hcnt],by first|rfl|trivial⟩
 ·rename_i f args hop;rw[hgt f (by simp[hop,LOp.opds]),show args.map (St.get s.fr)=args.map (St.get st.fr)from bQ5 fun p hp=>hgt p (by simp[hop,LOp.opds,hp])]
  split at h
  case h_2=>cases h
  split at h
  case h_2=>cases h
  rename_i hs;simp only[bOw,bO1]at h;obtain⟨rfl,rfl⟩:=h;have e:({s with fr:=fun _=>Val.dead}:St)={st with fr:=fun _=>Val.dead}:=by rw[<-hen,<-hcnt]
  rw[e,hs];exact⟨rfl,rfl⟩
 ·cases h
theorem aBu {l:List aM}{r:Nat->Res}{L:Nat->Bool}{st:St}{t:Nat}: ∀(k:Nat),(∀i,i<k->(l.getD i default).dst≠some t)->(dM (fun k=>eQ (l.getD k default) (r k)) L st k).fr t=st.fr t
 |0,_=>rfl
 |k+1,h=>by
  simp only[dM];split
  ·simp only[eQ];rw[pH fun x hx e=>h k (by omega) (by rw[hx,e])]
   exact aBu k fun i hi=>h i (by omega)
  ·exact aBu k fun i hi=>h i (by omega)
variable {z:List Val}
theorem aHb (h:dP P I op=some (.alloc z)): ∃t,op= .alloc t/\ gK P t=some z:=by
 cases op
 case alloc t=>
  simp only[dP,bPj,bO9,bPl,bOw,LOp.alloc.injEq]at h;obtain⟨z',h1,rfl⟩:=h;exact⟨t,rfl,h1⟩
 case binOp op t x y ty=>
  exfalso
  simp only[dP,bPj,bO9]at h;obtain⟨e,_,h⟩:=h
  split at h
  ·split at h
   ·simp[bO9]at h
   ·cases h
  ·split at h<;>simp[bO9]at h
 all_goals (exfalso;simp only[dP]at h;(repeat' split at h)<;>first|contradiction|(simp[bO9,bPa]at h;done)|(have:=kS h;simp at this))
theorem aJk {o:Oper}
  (hR:Rel P Ξ B S G st N a w)     {r:Res} (hl:fD P I ops o=some lo) (hd:lo.dst.all (· <N)=true) (hlo:(lo.guard.isNone&&(match lo.op with| .alloc _=>true|_=>false))=true)
  (hs:step n call io 0 st (aGz lo)=some (st',r))     (k: ∀a' w' G',Rel P Ξ B S G' st' N a' w'->Below B w w'->next a' w'):
  if Region.wanted o (yielded ops a.tmps)=true then o.wpIn (Fx ro) m P a w next Q else(∀f,o.about P w a.eval=some f->(Fx ro).fn f)/\ next (a.put o.dst undef) w:=by
 simp only[fD,bPj,bO9,bPl,bOw]at hl;obtain⟨lop,hop,g,hg,rfl⟩:=hl;simp only[bOx,bRx]at hlo;obtain⟨rfl,hlo⟩:=hlo;have hex: ∃z,lop= .alloc z:=by cases lop<;>first|exact⟨_,rfl⟩|cases hlo
 obtain⟨z,rfl⟩:=hex;obtain⟨t,ho,hz⟩:=aHb hop;have hw:wanted st.fr none=some true:=rfl;rw[pV hR hg hw,if_pos rfl];have hst:st'={st with fr:=hZ st.fr o.dst .dead}:=by
  simp[step,aGz,wanted,eval,St.get]at hs;exact hs.1.symm
 subst hst;obtain⟨i,v,hi,hz,hs,ho1,hv⟩:=tP (P:=P) (G:=G) (w:=w) (T:=aX B S G w.heap.size) hz
 refine⟨fun _ _=>trivial,?_⟩
 rw[pU (x:= .value (.pointer (some ⟨w.heap.size,0,none⟩))) (w':=w.alloc (.cells v.cells t)) (by simp[execOp,ho,Instr.alloc,gH hi hz,newVar,newRow]) (by simp)]
 have hR':Rel P Ξ B S G st N a (w.alloc (.cells v.cells t)):=hR.below ((Below.refl _ w).alloc (bOy _) _);exact k _ _ G (hR'.putO' o.dst (v:= .dead) (.dead _ rfl) hd) (mY hR _)
variable {G0:Gh}{a0:Act}{w0:World}
section
theorem aUh (hcall:lJ P call)(hio:wW P io)(hpan:aQ3 P pan)(hpin:aQ4 P pin)(hl:cU (fD P I ops) ops.toList=some l)(hd:l.all (fun o=>o.dst.all (· <N))=true)(han:aQk ops=some an)
   (hps:fP an l=some ps)   {e:Ex}  (hj:j<l.length) (hrunP:vF n call io pan pin l an ps j st=some (e,st')) 
     (hR0:Rel P Ξ B S G0 st N a0 w0) (hQ: ∀a' w' G' x,e.val x->aF5 P Ξ B S G' st' N e a' w'->Below B w0 w'->Q (e.toExit x) a' w'):
  wpAnyIn (Fx ro) m P .any ops Q ops.size (Array.replicate ops.size false) a0 w0:=by
 obtain⟨l1,l2⟩:=eR hl;have hN:l.length=ops.size:=by rw[l1];simp
 simp only[vF]at hrunP
 split at hrunP
 case h_2=>cases hrunP
 rename_i st1 rs hrun
 split at hrunP
 case isFalse=>cases hrunP
 rename_i hck;simp only[jT,bOx,bO4,bPu,bP3]at hck;obtain⟨hok,hstill⟩:=hck
 split at hrunP
 case h_2=>cases hrunP
 rename_i v st2 hpj;simp only[bOw,bO1]at hrunP;obtain⟨rfl,rfl⟩:=hrunP;obtain⟨ps',hps',hsub⟩:=aCj (j:=j) hps;have hok':=aAb hok hsub;obtain⟨hrl,s,hrun',hsn⟩:=tT hrun;have hN':(dD an j l).length=ops.size:=by rw[sL,hN]
 rw[hN']at hrun' hsn;have hlt:=aIk han;have hw: ∀i,i<(dD an j l).length->(((dD an j l).getD i default).op.writesMem=false->(rs.getD i cF).quiet)/\ (((dD an j l).getD i default).op.readsMem=false->(rs.getD i cF).rs=[]):=
  fun i hi=>(rL (hrun'.step i (by omega))).2.2
 have hfree: ∀i k,i<k->k<ops.size-> ¬i∈an.getD k []->aH7 ((dD an j l).getD i default) ((dD an j l).getD k default) (rs.getD i cF) (rs.getD k cF):=
  fun i k hik hk ho=>aIl hps' hok' hw (fun j i hj hi=>hlt j i (by omega) hi) hik (by omega) ho
 have hjN:j<ops.size:=by omega
 have atj: ∀(L:Nat->Bool),yD ops L->(∀k,k∈an.getD j []->L k=true)->(∀k,behind an j k=true->L k=false)->
   dT n pan pin (dM (fun k=>eQ ((dD an j l).getD k default) (rs.getD k cF)) L st ops.size) (l.getD j default)=
    some (v,{fr:=(dM (fun k=>eQ ((dD an j l).getD k default) (rs.getD k cF)) L st ops.size).fr,en:=st2.en,cnt:=st2.cnt}):=by
  intro L hcl hanc hbeh;have hb: ∀k,k<ops.size->(rs.getD k cF).bump=true->((dD an j l).getD k default).dst.isSome=true:=fun k hk=>(rL (hrun'.step k hk)).2.1
  have drop:=tS (E:=fun k=>eQ ((dD an j l).getD k default) (rs.getD k cF)) (L:=fun _=>true) (s:=st) (n:=ops.size)
   (fun a b=>a.en=b.en/\ a.cnt=b.cnt/\ ∀t∈(l.getD j default).uses,a.fr t=b.fr t) (fun _=>⟨rfl,rfl,fun _ _=>rfl⟩) (fun a b c h k=>⟨h.1.trans k.1,h.2.1.trans k.2.1,fun t ht=>(h.2.2 t ht).trans (k.2.2 t ht)⟩) L ops.size (bOy _) (fun k hk _ hLk=>by
    refine⟨fun s=>?_,fun k2 hk2 hk2N _ hLk2 s=>?_⟩
    ·by_cases hbk:behind an j k=true
     ·have hst:=hrun'.step k hk;rw[iC (by omega),if_pos hbk]at hst
      have hr:rs.getD k cF={v:= .nilp}:=by
       simp only[aIx,step,wanted,eval,St.get,bOw,bO1]at hst
       simp at hst
       exact hst.2.symm
      rw[iC (by omega),if_pos hbk,hr]
      exact⟨rfl,rfl,fun _ _=>rfl⟩
     ·have hnot: ¬k∈an.getD j []:=fun h=>by rw[hanc k h]at hLk;cases hLk
      have h0:=hstill k (by omega)
      simp only[hbk,bO0,false_or,bQq,bSi,hnot]at h0
      split at h0
      case h_2=>cases h0
      rename_i r hr;have hr':rs.getD k cF=r:=by simp[bO2,hr]
      rw[hr'];simp only[Res.still,bOx,bRw,bQb,bRx]at h0;obtain⟨⟨q1,q2⟩,q3⟩:=h0
      refine⟨by simp only[eQ,q3,q1,W.applyAll,bRc],by simp only[eQ,q3,q2,bO0,if_false],fun t ht=>?_⟩
      simp only[eQ];rw[sY (by omega) hbk]
      refine pH fun d hd he=>?_
      subst he;simp only[fP]at hps
      split at hps
      case isFalse=>cases hps
      rename_i hall;have hkj:k≠j:=fun e=>hbk (by simp[behind,e])
      have:=bO4.1 (bO4.1 hall j (bPu.2 (by omega))) k (bPu.2 (by omega))
      simp only[bP3,beq_iff_eq,hkj,false_or,hd]at this;simp only[bOx,bne_iff_ne,ne_eq,bP3,bQb,bQq,bSi,bSj]at this;rcases this.2 with h1|h1|h1
      ·exact h1 ht
      ·exact hnot h1
      ·exact hbk (by simp only[behind,bQq,bP3,bSi];exact .inr h1)
    ·have ho: ¬k∈an.getD k2 []:=fun h=>by
      have:=gQ han hcl k2 _ (bPk hk2N) (hcl k2 _ (bPk hk2N) hLk2) k h;rw[this]at hLk;cases hLk
     exact(hfree k k2 hk2 hk2N ho).comm (hb k (by omega)) (hb k2 hk2N) s)
  have e1:dM (fun k=>eQ ((dD an j l).getD k default) (rs.getD k cF)) (fun k=>true&&(L k||decide (k<ops.size))) st ops.size=st1:=by
   rw[cN (L':=fun _=>true) fun i hi=>by simp[hi],<-hrun'.fold _ (bOy _),hsn]
  have e2:dM (fun k=>eQ ((dD an j l).getD k default) (rs.getD k cF)) (fun k=>true&&L k) st ops.size=dM (fun k=>eQ ((dD an j l).getD k default) (rs.getD k cF)) L st ops.size:=by
   exact cN fun i _=>by simp
  rw[e1,e2]at drop;exact(sM hpj drop.1.symm drop.2.1.symm fun t ht=>(drop.2.2 t ht).symm).1
 have main: ∀(fuel:Nat) (listed:Array Bool) (G:Gh) (a:Act) (w:World),listed.size=ops.size->(List.range ops.size).countP (fun i=>!listed.getD i false)<=fuel->yD ops (fun i=>listed.getD i false)->(∀k,k<ops.size->behind an j k=true->listed.getD k false=false)->
   Rel P Ξ B S G (dM (fun k=>eQ ((dD an j l).getD k default) (rs.getD k cF)) (fun i=>listed.getD i false) st ops.size) N a w->Below B w0 w->
   wpAnyIn (Fx ro) m P .any ops Q fuel listed a w:=by
  have jready: ∀(listed:Array Bool),listed.size=ops.size->listed.getD j false=false->Region.ready .any ops listed≠[]:=by
   intro listed hsz hb hr;have: ∀i,i<ops.size->listed.getD i false=true:=by
    intro i
    induction i using Nat.strongRecOn with
    |ind i ih=>
     intro hi;cases hb:listed.getD i false with
     |true=>rfl
     |false=>
      exfalso
      have hm:i∈Region.ready .any ops listed:=by
       rw[mem_ready]
       refine⟨?_,ops[i],bPk hi,fun e he hbd=>?_⟩
       ·rw[bPc,bPk (by omega)]at hb⊢;simpa using hb
       ·have hk:e.on∈lK ops[i]:=bPt.2 ⟨e,bQi.2 ⟨by simpa using he,hbd⟩,rfl⟩
        have:=(sX han (bPk hi)).1 _ hk;exact ih _ this (by omega)
      rw[hr]at hm;simp at hm
   rw[this j hjN]at hb;cases hb
  intro fuel
  induction fuel with
  |zero=>
   intro listed G a w hsz hc hcl hbeh hR hB
   exfalso
   have hb:=hbeh j hjN (by simp[behind])
   have:=bSb (p:=fun i=>!listed.getD i false) (l:=List.range ops.size)|>.2 ⟨j,bPu.2 hjN,by simp only[hb];rfl⟩
   omega
  |succ fuel ih=>
   intro listed G a w hsz hc hcl hbeh hR hB
   refine⟨fun hr=>absurd hr (jready listed hsz (hbeh j hjN (by simp[behind]))),fun i hm=>?_⟩
   obtain⟨h0,o,ho,hready⟩:=mem_ready.1 hm;have hi:=(bQn.1 ho).1;have hoi:o=ops[i]:=by rw[bPk hi,bOw]at ho;exact ho.symm
   have hb:listed.getD i false=false:=by
    rw[bPc,bPk (by omega)]at h0⊢;simpa using h0
   have hdir: ∀k∈lK o,listed.getD k false=true:=by
    intro k hk;obtain⟨e,he,rfl⟩:=bPt.1 hk;obtain⟨he1,he2⟩:=bQi.1 he;exact hready e (by simpa using he1) he2
   have hanci: ∀k∈an.getD i [],listed.getD k false=true:=fun k hk=>gQ han hcl i o ho hdir k hk
   have hil:i<l.length:=by omega
   have hlow:=l2 i (by simpa using hi) hil
   simp only[bRr]at hlow;have hli:l.getD i default=l[i]:=by simp[bO2,hil]
   unfold wpOpIn;rw[bPk hi]
   by_cases hij:i=j
   ·subst hij;have hp:=atj (fun i=>listed.getD i false) hcl hanci (fun k hk=>by
     by_cases hkN:k<ops.size
     ·exact hbeh k hkN hk
     ·rw[bPc,Array.getElem?_eq_none (by omega)];rfl)
    rw[hli]at hp;obtain⟨q1,q2⟩:=wC (ops:=ops) (ro:=ro) (m:=m) (next:=fun a w=>wpAnyIn (Fx ro) m P .any ops Q fuel (listed.setIfInBounds i true) a w) (Q:=Q) hpan hpin hR hlow hp fun a' w' G' x h1 h2 h3=>by
     refine hQ a' w' G' x h1 ?_ (hB.trans h3)
     have hfr:st2.fr=st1.fr:=(sM hpj rfl rfl fun _ _=>rfl).2
     refine⟨a'.tmps.mapIdx fun t y=>if mN l t then undef else y,?_,fun h=>(by cases h),fun t ht=>?_⟩
     ·refine⟨h2.size,by simpa using h2.tmps,fun t=>?_,h2.marks,h2.ents,h2.freshEn,h2.freshG,h2.own,h2.extra,h2.round,h2.defs,h2.virt⟩
      have hfrm:=h2.frame t
      simp only at hfrm⊢
      by_cases hdt:mN l t=true
      ·rw[if_pos hdt];have:(a'.tmps.mapIdx fun t y=>if mN l t then undef else y).getD t undef=undef:=by
        simp only[bPc,bR5];cases a'.tmps[t]? with
        |none=>rfl
        |some y=>simp[hdt]
       rw[this];exact .tup [] #[] rfl (fun i hi=>by simp at hi)
      ·rw[if_neg hdt];have e1:(a'.tmps.mapIdx fun t y=>if mN l t then undef else y).getD t undef=a'.tmps.getD t undef:=by
        simp only[bPc,bR5];cases a'.tmps[t]? with
        |none=>rfl
        |some y=>simp[hdt]
       have hne: ∀k,k<ops.size->((dD an i l).getD k default).dst≠some t:=by
        intro k hk he
        by_cases hbk:behind an i k=true
        ·rw[iC (by omega),if_pos hbk]at he
         cases he
        ·rw[sY (by omega) hbk]at he
         refine hdt ?_
         simp only[mN,bRy,beq_iff_eq];exact⟨l[k],bO6 (by omega),by simpa[bO2,show k<l.length by omega]using he⟩
       rw[aBu (r:=fun k=>rs.getD k cF) ops.size hne]at hfrm
       have e2:st2.fr t=st.fr t:=by
        rw[hfr,<-hsn,hrun'.fold _ (bOy _)];exact aBu (r:=fun k=>rs.getD k cF) ops.size hne
       rw[e1,e2];exact hfrm
     ·simp only at ht
      split at ht
      ·cases ht
      ·rename_i hdt;simp only[bPc,bR5];cases a'.tmps[t]? with
       |none=>rfl
       |some y=>simp[hdt]
    simp only[q1,if_true];exact q2
   ·have hbi: ¬behind an j i=true:=fun h=>by
     simp only[behind,bQq,bP3,beq_iff_eq,bSi]at h;rcases h with h|h
     ·exact hij h
     ·have:=hanci j h;rw[hbeh j hjN (by simp[behind])]at this;cases this
    have hst:=aBt hrun' (ord:=fun i j=>j<ops.size/\ i∈an.getD j []) (fun i j h=>hlt j i h.1 h.2) (fun i j hij hj ho=>hfree i j hij hj fun h=>ho ⟨hj,h⟩) (L:=fun i=>listed.getD i false)
     (fun j hj hLj i hord=>gQ han hcl j _ (bPk hj) (hcl j _ (bPk hj) hLj) i hord.2) hi hb
     (fun k hk=>hanci k hk.2)
    rw[iC hil,if_neg hbi,hli]at hst;have hset: ∀k,(listed.setIfInBounds i true).getD k false=(k==i||listed.getD k false):=by
     intro k
     by_cases hk:k=i
     ·subst hk;simp[show k<listed.size by omega]
     ·rw[getD_set_ne false fun e=>hk e.symm]
      have:(k==i)=false:=by simpa using hk
      rw[this,bPv]
    have go: ∀a' w' G',Rel P Ξ B S G' (dM (fun k=>eQ ((dD an j l).getD k default) (rs.getD k cF)) (fun k=>k==i||listed.getD k false) st ops.size) N a' w'->Below B w w'->wpAnyIn (Fx ro) m P .any ops Q fuel (listed.setIfInBounds i true) a' w':=by
     intro a' w' G' h1 h2
     refine ih _ G' a' w' (by simpa using hsz) ?_ ?_ ?_ ?_ (hB.trans h2)
     ·have:=tU (fun i=>!listed.getD i false) (fun k=>!(listed.setIfInBounds i true).getD k false) i (by simp only[hb];rfl) (by simp only[hset];simp) (fun k hk=>by
       simp only[hset];have:(k==i)=false:=by simpa using hk
       rw[this,bPv]) ops.size hi
      omega
     ·intro j oj hoj hLj k hk;simp only[hset]at hLj⊢
      by_cases hj:j=i
      ·subst hj;rw[ho,bOw]at hoj;subst hoj;rw[hdir k hk,bQv]
      ·have:(j==i)=false:=by simpa using hj
       rw[this,bPv]at hLj;have h5:listed.getD k false=true:=hcl j oj hoj hLj k hk;rw[h5,bQv]
     ·intro k hkN hk;rw[hset];have:(k==i)=false:=by
       simp only[beq_eq_false_iff_ne,ne_eq]
       rintro rfl
       exact hbi hk
      rw[this,bPv];exact hbeh k hkN hk
     ·rw[cN (L':=fun k=>k==i||listed.getD k false) fun k _=>hset k]
      exact h1
    by_cases hlo:zF an j l i=true
    ·rw[if_pos hlo]at hst;exact aJk hR hlow (bO4.1 hd _ (bO6 hil)) (by simp only[zF,bOx,hli]at hlo⊢;exact⟨hlo.1.2,hlo.2⟩) hst go
    ·rw[if_neg hlo]at hst;exact oW hcall hio hR hlow (bO4.1 hd _ (bO6 hil)) hst go
 refine main ops.size (Array.replicate ops.size false) G0 a0 w0 (by simp) (bPb bR6 (by simp)) ?_ ?_ ?_ (Below.refl _ _)
 ·intro j o ho hL;simp[bQr]at hL
  split at hL<;>simp at hL
 ·intro k hk _;simp[bPc,bQr,hk]
 ·rw[cN (L':=fun _=>false) fun i _=>by simp[bQr];split<;>simp]
  have: ∀(k:Nat),dM (fun k=>eQ ((dD an j l).getD k default) (rs.getD k cF)) (fun _=>false) st k=st:=by
   intro k;induction k with
   |zero=>rfl
   |succ k ih=>simp only[dM,bO0,if_false];exact ih
  rw[this];exact hR0
end
theorem aJl {n:Nat}{call:bH}{io:Inl}{pan:bH}{pin:Nat->List Val->St->Option (Val×St)}: ∀(l:List aM) {i j:Nat} {st:St},pR n call io pan pin l i st=some j->j<i+l.length
 |[],_,_,_,h=>by cases h
 |o::l,i,j,st,h=>by
  simp only[pR]at h
  split at h
  ·simp only[bOw]at h;subst h;simp only[bO7];omega
  ·split at h
   case h_2=>cases h
   have:=aJl l h;simp only[bO7];omega
def wD (P:Program)(L:bJ)(n:Nat):Prop:= ∀(I:Operand->Bool) (N:Nat) (c:Code) (st:St) (e:Ex) (st':St) (Ξ:Env) (B:Nat) (S:Nat->Nat->Prop) (G:Gh) (a:Act) (w:World) (Q:Exit->Act->World->Prop) (m:Nat),
 (cG P I c).dstOk N=true->(Ξ.nm=true->(cG P I c).noRg=true)->Rel P Ξ B S G st N a w->exec L n (cG P I c) st=some (e,st')->(∀a' w' G' x,e.val x->aF5 P Ξ B S G' st' N e a' w'->Below B w w'->Q (e.toExit x) a' w')->c.wpIn (Fx Ξ.ro) m P Q a w
theorem aXb (hR:Rel P Ξ B S G st N a w){rv:ResultVar}{lr:aWv}(hl:aC2 P rv=some lr)(hv:pQ st lr=some v):
  ∃x,(match rv with
   | .tmp t=>(pure (a.tmps.getD t undef):Sem Value)
   | .cell c t=>do loadVar t (<-asAddr (a.tmps.getD c undef))).run P w= .ok x w/\ VR (aX B S G w.heap.size) G w v x:=by
 cases rv with
 |tmp t=>
  simp only[aC2,bOw]at hl;subst hl;simp only[pQ,bOw]at hv;subst hv;exact⟨_,rfl,hR.frame t⟩
 |cell c t=>
  simp only[aC2]at hl
  split at hl
  case isFalse=>cases hl
  rename_i hu;simp only[bOw]at hl;subst hl;simp only[pQ]at hv
  split at hv
  case h_2=>cases hv
  rename_i cs rs hr;obtain⟨b,off,hx,hlen,hc⟩:=aI8 hR (hR.frame c) hr;obtain⟨x,h1,h2⟩:=zY hu rfl hlen hc hv
  refine⟨x,?_,h2⟩
  simp only[hx,asAddr,Sem.run_bind,Sem.run_pure,Result.andThen_ok,h1]
theorem aJm {P:Program}{Ξ:Env}{B:Nat}{S:Nat->Nat->Prop}{G:Gh}{st:St}{N:Nat}{a:Act}{w:World}(hR:Rel P Ξ B S G st N a w): ∀(rvs:List ResultVar) (lrs:List aWv) (vs:List Val),
  cU (aC2 P) rvs=some lrs->cU (pQ st) lrs=some vs->
  ∃xs:List Value,(rvs.mapM fun(rv:ResultVar)=>(match rv with
   | .tmp t=>(pure (a.tmps.getD t undef):Sem Value)
   | .cell c t=>do loadVar t (<-asAddr (a.tmps.getD c undef)))).run P w= .ok xs w/\ xs.length=vs.length/\ ∀i,i<vs.length->VR (aX B S G w.heap.size) G w (vs.getD i .dead) (xs.getD i undef)
 |[],lrs,vs,h1,h2=>by
  simp only[cU,bOw]at h1;subst h1;simp only[cU,bOw]at h2;subst h2;exact⟨[],rfl,rfl,fun i hi=>by simp at hi⟩
 |rv::rvs,lrs,vs,h1,h2=>by
  simp only[cU]at h1
  split at h1
  case h_2=>cases h1
  rename_i lr hl
  split at h1
  case h_2=>cases h1
  rename_i lrs' hls;simp only[bOw]at h1;subst h1;simp only[cU]at h2
  split at h2
  case h_2=>cases h2
  rename_i v hv
  split at h2
  case h_2=>cases h2
  rename_i vs' hvs;simp only[bOw]at h2;subst h2;obtain⟨x,e1,e2⟩:=aXb hR hl hv;obtain⟨xs,f1,f2,f3⟩:=aJm hR rvs lrs' vs' hls hvs
  refine⟨x::xs,?_,by simp[f2],fun i hi=>?_⟩
  ·rw[List.mapM_cons,Sem.run_bind,e1,Result.andThen_ok,Sem.run_bind,f1,Result.andThen_ok];rfl
  ·match i with
   |0=>simpa using e2
   |i+1=>simpa using f3 i (by simpa using hi)
variable {fn:Func}
theorem wE (hR:Rel P Ξ B S G st N a w){lrs:List aWv}{vs:List Val}
  (h1:cU (aC2 P) fn.results.toList=some lrs) (h2:cU (pQ st) lrs=some vs): ∃x,(results fn a.tmps).run P w= .ok x w/\ VR (aX B S G w.heap.size) G w (zS vs) x:=by
 obtain⟨xs,hrun,hxl,hxv⟩:=aJm hR fn.results.toList lrs vs h1 h2
 refine⟨if h:xs.length=1 then xs[0]else .tuple xs.toArray,?_,?_⟩
 ·have:(fn.results.mapM fun(rv:ResultVar)=>(match rv with
   | .tmp t=>(pure (a.tmps.getD t undef):Sem Value)
   | .cell c t=>do loadVar t (<-asAddr (a.tmps.getD c undef)))).run P w= .ok xs.toArray w:=by
   rw[bSf,Sem.run_map,hrun];rfl
  simp only[results,Sem.run_bind]
  refine Eq.trans (congrArg (fun z=>Result.andThen z _) this) ?_
  simp
 ·unfold zS;split
  ·rename_i v1;have h1:xs.length=1:=by simpa using hxl
   rw[dif_pos h1];have:=hxv 0 (by simp)
   simpa[bO2,h1]using this
  ·rename_i hne;have h1: ¬xs.length=1:=by
    rw[hxl];intro h1
    match vs,h1 with
    |[v1],_=>exact hne v1 rfl
   rw[dif_neg h1];exact .tup vs xs.toArray (by simp[hxl]) fun i hi=>by
    have:=hxv i hi
    simpa[bO2,bPc]using this
def lL (w:World):List Nat->World
 |[]=>w
 |D::Ds=>lL (kG w D (.deferred none)) Ds
theorem aBv (w:World): ∀Ds,(lL w Ds).heap.size=w.heap.size
 |[]=>rfl
 |D::Ds=>by rw[lL,aBv _ Ds,nH]
theorem yF : ∀(Ds:List Nat) (w:World) {b:Nat},b∉Ds->(lL w Ds).heap[b]?=w.heap[b]?
 |[],_,_,_=>rfl
 |D::Ds,w,b,h=>by
  simp only[bP0,not_or]at h;rw[lL,yF Ds _ h.2,fB _ h.1]
theorem yG {B:Nat}: ∀(Ds:List Nat) (w:World),(∀D∈Ds,B<=D)->Below B w (lL w Ds)
 |[],w,_=>Below.refl _ _
 |D::Ds,w,h=>(sW (w:=w) (h D (by simp))).trans (yG Ds _ fun D' hD'=>h D' (by simp[hD']))
theorem aHc (w:World)(D:Nat)(o:Obj):w.putObj D o=kG w D o:=rfl
theorem nM {F:Fence}{n:Nat}{P:Program}{fn:Func}{tmps:Array Value}{R:Ending->World->Prop}{u:FrameMode}(hu:u≠ .run){tl:List Deferred}: ∀(Ds:List Nat) (w:World),Ds.Nodup->(∀D∈Ds,w.heap[D]?=some (.deferred (some [])))->
  LeavesInM F n P fn tmps R tl u (lL w Ds)->LeavesInM F n P fn tmps R (Ds.map xU++tl) u w
 |[],w,_,_,h=>h
 |D::Ds,w,hn,hD,h=>by
  rw[List.nodup_cons]at hn
  refine⟨hu,.inl ⟨D,_,rfl,run_takeDeferred (hD D (by simp)),?_⟩⟩
  rw[aHc]
  refine nM hu Ds _ hn.2 (fun D' hD'=>?_) h
  have hne:D'≠D:=by rintro rfl;exact hn.1 hD'
  rw[fB _ hne];exact hD D' (by simp[hD'])
theorem Rel.shut (hR:Rel P Ξ B S G st N a w):
  ∃Ds:List Nat,a.defers=Ds.map xU++Ξ.tail/\ Ds.Nodup/\ (∀D∈Ds,w.heap[D]?=some (.deferred (some [])))/\ (∀D∈Ds,B<=D)/\ (Ξ.nm=true->Ds=[])/\ Rel P Ξ B S G st N {a with defers:=Ξ.tail} (lL w Ds):=by
 obtain⟨Ds,h1,⟨h2,h2'⟩,h3⟩:=hR.marks;have hoth: ∀{b:Nat} {o:Obj},w.heap[b]?=some o->o≠ .deferred (some [])->(lL w Ds).heap[b]?=some o:=by
  intro b o ho hne;rw[yF Ds w fun hb=>hne (by rw[(h3 b hb).2.2]at ho;exact(Option.some.inj ho).symm)];exact ho
 have hcell: ∀{b q:Nat} {c:Value},w.cell? ⟨b,q,.none⟩=some c->(lL w Ds).cell? ⟨b,q,.none⟩=some c:=by
  intro b q c hc
  by_cases hb:b∈Ds
  ·simp only[World.cell?,(h3 b hb).2.2]at hc;cases hc
  ·rw[pT (yF Ds w hb)];exact hc
 have m:zH (aX B S G w.heap.size) G w (aX B S G (lL w Ds).heap.size) G (lL w Ds):=
  ⟨fun b q h=>by rw[aBv];exact h,G.le_refl,fun b q c _ h=>hcell h,fun r es cl _ h=>hoth h (by simp)⟩
 refine⟨Ds,h1,h2,fun D hD=>(h3 D hD).2.2,fun D hD=>(h3 D hD).1,h2',?_⟩
 refine hR.change4 (a':={a with defers:=Ξ.tail}) (G':=G) (en':=st.en) (cnt':=st.cnt) rfl m (by rw[aBv];exact bOy _) (fun k e he hkn=>?_) (fun k hk=>⟨hR.freshEn k hk,hR.freshG k hk⟩) (fun b k t hb=>by rw[aBv];exact hR.own b k t hb)
  (fun _ _ h=>h) ⟨[],rfl,⟨List.nodup_nil,fun _=>rfl⟩,fun D hD=>by simp at hD⟩ (fun l hl=>let ⟨r,hr⟩:=hR.round l hl;⟨r,hoth hr (by simp)⟩) (fun D hD=>?_) hR.virt
 ·have hE:=hR.ents k e he hkn;cases hE with
  |box cs frz b c t hb hB h hs ho hv hown=>exact .box cs frz b c t hb hB (hoth h (by simp)) hs ho (fun j hj=>(hv j hj).mono4 m) hown
  |nul sz frz h=>exact .nul sz frz h
  |blk xs frz b base sz C thr c t hb hB h hC hC' hs ho hv hown hthr=>exact .blk xs frz b base sz C thr c t hb hB (hoth h (by simp)) hC hC' hs ho (fun i j hi hj=>(hv i j hi hj).mono4 (m.at k)) hown hthr
  |full xs b base sz c hb hs h ht ho hv=>exact .full xs b base sz c hb hs (fun i j hi hj=>hcell (h i j hi hj)) (fun i j hi hj=>m.t _ _ (ht i j hi hj)) ho (fun i j hi hj=>(hv i j hi hj).mono4 m.none)
  |map ks vs frz r es clock hr hB h hk hl hkv hvv hown=>exact .map ks vs frz r es clock hr hB (hoth h (by simp)) hk hl (fun i hi=>(hkv i hi).mono4 m.none) (fun i hi=>(hvv i hi).mono4 m.none) hown
  |loop fr ps la lb s l rec I N' hl hB h hps ha hb hN hpN haN hbN hf hst hown=>exact .loop fr ps la lb s l rec I N' hl hB (hoth h (by simp)) hps ha hb hN hpN haN hbN (fun i=>(hf i).mono4 m) hst hown
  |iter s pos r hr hB h hown=>exact .iter s pos r hr hB (hoth h (by simp)) hown
 ·rw[yF Ds w fun h=>(h3 D h).2.1 hD];exact hR.defs D hD
variable {lf:jB}
theorem wX {keep amb:Bool}(h:xT P I keep amb fn=some lf):
  ∃c,fn.body=some c∧aD6 P I (aD5 fn.results.toList) c=some lf.body∧lf.body.dstOk fn.ntmps=true∧lf.np≤fn.ntmps∧(fn.name== "runtime.NumGoroutine")=false∧cU (aC2 P) fn.results.toList=some lf.res:=by
 simp only[xT]at h
 split at h
 ·cases h
 rename_i c hbody
 split at h
 ·cases h
 rename_i lc hlc
 split at h
 case isFalse=>cases h
 rename_i hck;simp only[bOx,bSi,bne_iff_ne,ne_eq]at hck;obtain⟨lres,hres,rfl⟩:=bPa.1 h;exact⟨c,hbody,hlc,hck.1.1,hck.1.2,by simpa using hck.2,hres⟩
def pW (P:Program)(L:bJ):Prop:= ∀f lf,L f=some lf-> ∃fn I keep amb,P.funcs[f]?=some fn/\ xT P I keep amb fn=some lf
def aQ6 (fn:Func)(vals:Array Value):Act:={tmps:=vals++Array.replicate (fn.ntmps-vals.size) undef,defers:=[]}
def Ex.fin (P:Program)(fn:Func)(a:Act)(w:World)(R:Ending->World->Prop)(x:Value):Ex->Prop
 | .normal| .ret=> ∃y,(results fn a.tmps).run P w= .ok y w/\ R (.returned y) w
 | .panic _=>R (.panicked (yE x)) w
 | .exit _=>False
def aF6 (P:Program)(L:bJ)(n:Nat):Prop:= ∀(f:Nat) (fn:Func) (lf:jB) (I:Operand->Bool) (keep amb:Bool) (e:Ex) (st0 st':St) (Ξ:Env) (B:Nat) (S:Nat->Nat->Prop) (G:Gh) (vals:Array Value) (w:World) (R:Ending->World->Prop),
 P.funcs[f]?=some fn->xT P I keep amb fn=some lf->exec L n lf.body st0=some (e,st')->Ξ.ro=none->Ξ.tail=[]->Ξ.nm=false->Rel P Ξ B S G st0 fn.ntmps (aQ6 fn vals) w->
 (∀a1 w1 G1 x,e.val x->a1.defers=[]->Rel P Ξ B S G1 st' fn.ntmps a1 w1->Below B w w1->e.fin P fn a1 w1 R x)->Calls P f vals w R
variable {G1:Gh}{a1:Act}{w1:World}
theorem aBw {e:Ex}{R:Ending->World->Prop}{x:Value}(ht:Ξ.tail=[])(hx:e.val x)(hR1:aF5 P Ξ B S G1 st' fn.ntmps e a1 w1)(hb:Below B w w1)
  (k: ∀a1 w1 G1 x,e.val x->a1.defers=[]->Rel P Ξ B S G1 st' fn.ntmps a1 w1->Below B w w1->e.fin P fn a1 w1 R x):bodyPostM Fence.wide m P fn R (e.toExit x) a1 w1:=by
 obtain⟨tm,hR1,htm,_⟩:=hR1;obtain⟨Ds,q1,q2,q3,q4,_,hR⟩:=hR1.shut;have hk:=k _ _ _ x hx ht hR (hb.trans (yG Ds w1 q4))
 replace q1:a1.defers=Ds.map xU++Ξ.tail:=q1
 cases e with
 |normal=>
  simp only[bodyPostM,Ex.toExit];rw[q1,ht];have:=htm rfl;subst this;exact nM (by simp) Ds w1 q2 q3 hk
 |exit id=>exact hk.elim
 |ret=>
  simp only[bodyPostM,Ex.toExit];rw[q1,ht];have:=htm rfl;subst this;exact nM (by simp) Ds w1 q2 q3 hk
 |panic v=>
  simp only[bodyPostM,Ex.toExit];rw[q1,ht];exact nM (by simp) Ds w1 q2 q3 hk
variable {args:List Val}{vals:Array Value}
theorem aMx (hS: ∀b o,S b o->b<w.heap.size)(hgl:tM S w)(hvl:vals.size=args.length)(hnp:args.length<=fn.ntmps)
  (hv: ∀i,i<args.length->VR S Gh.none w (args.getD i .dead) (vals.getD i undef)):Rel P {prs:=fun _ _=>False,ro:=none,rnd:=fun _=>False,defs:=fun _=>False} w.heap.size S Gh.none (start args) fn.ntmps (aQ6 fn vals) w:=by
 unfold aQ6
 refine⟨bOy _,by simp;omega,fun i=>?_,⟨[],rfl,⟨List.nodup_nil,fun _=>rfl⟩,fun D hD=>by simp at hD⟩,fun k e hk=>by simp[start]at hk,fun _ _=>rfl,fun _ _=>⟨rfl,rfl,rfl⟩,fun b k t hb=>by simp[Gh.none]at hb,fun v x h=>(hgl.mono (fun b o h=>⟨hS b o h,.inl ⟨hS b o h,h⟩⟩)) v x (h.resolve_left id),
  fun l hl=>by rcases hl with h|h;cases h;exact h.elim,fun _ h=>h.elim,fun _ h=>h.elim⟩
 simp only[start]
 by_cases hi:i<args.length
 ·have h1:=(hv i hi).mono4 (T':=aX w.heap.size S Gh.none w.heap.size) (G':=Gh.none) (w':=w) ⟨fun b o h=>⟨hS b o h,.inl ⟨hS b o h,h⟩⟩,Gh.le_refl _,fun _ _ _ _ h=>h,fun _ _ _ _ h=>h⟩
  have e1:args.getD i (.tup [])=args.getD i .dead:=by simp[bO2,hi]
  have e2:(vals++Array.replicate (fn.ntmps-vals.size) undef).getD i undef=vals.getD i undef:=by
   simp only[bPc];rw[Array.getElem?_append_left (by omega)]
  rw[e1,e2];exact h1
 ·have e1:args.getD i (.tup [])= .tup []:=by simp[bO2,List.getElem?_eq_none (Nat.le_of_not_lt hi)]
  have e2:(vals++Array.replicate (fn.ntmps-vals.size) undef).getD i undef=undef:=by
   simp only[bPc];rw[Array.getElem?_append_right (by omega)]
   simp only[bQr];split<;>rfl
  rw[e1,e2];exact .tup [] #[] rfl (fun i hi=>by simp at hi)
variable {r:Val}
theorem aF7 {L:bJ}(hL:pW P L){k:Nat}(ih:aF6 P L n)(hlf:L f=some lf)(hlen:args.length=lf.np)(h:iT lf k (exec L n) args=some r):
  (∃fn,P.funcs[f]?=some fn∧(fn.name== "runtime.NumGoroutine")=false∧fn.body.isNone=false)∧
  ∀(S:Nat->Nat->Prop) (w:World) (vals:Array Value),(∀b o,S b o->b<w.heap.size)->tM S w->vals.size=args.length->(∀i,i<args.length->VR S Gh.none w (args.getD i .dead) (vals.getD i undef))->
   Calls P f vals w fun e w'=> ∃v,e= .returned v/\ Below w.heap.size w w'/\ aL0 w.heap.size (aEe w S w') w' r v:=by
 obtain⟨fn,I,keep,amb,hfn,hlow⟩:=hL f lf hlf;obtain⟨c,hbody,hlb,hdst,hnp,hname,hres⟩:=wX hlow;simp only[iT]at h
 split at h
 case h_2=>cases h
 rename_i e st hx
 split at h
 case isFalse=>cases h
 rename_i hends
 refine⟨⟨fn,hfn,hname,by rw[hbody];rfl⟩,fun S w vals hS hgl hvl hv=>?_⟩
 let Ξ:Env:={prs:=fun _ _=>False,ro:=none,rnd:=fun _=>False,defs:=fun _=>False}
 have hR0:=aMx (P:=P) (fn:=fn) hS hgl hvl (by omega) hv
 refine ih f fn lf I keep amb e (start args) st Ξ w.heap.size S Gh.none vals w _ hfn hlow hx rfl rfl rfl hR0 fun a1 w1 G1 x1 _ _ hR hbl=>?_
 simp only[aDz]at h
 split at h
 case h_2=>cases h
 rename_i vs hvs;obtain⟨x,hrun,hval⟩:=wE hR hres hvs;have ends:aL0 w.heap.size (aEe w S w1) w1 r x->e.fin P fn a1 w1 (fun e w'=> ∃v,e= .returned v/\ Below w.heap.size w w'/\ aL0 w.heap.size (aEe w S w') w' r v) x1:=by
  intro hr;cases e with
  |normal=>exact⟨x,hrun,x,rfl,hbl,hr⟩
  |exit id=>cases hends
  |ret=>exact⟨x,hrun,x,rfl,hbl,hr⟩
  |panic v=>cases hends
 split at h
 ·rename_i r' hown;simp only[bOw]at h;subst h
  split at hown
  case isFalse=>cases hown
  have hor:aL0 w.heap.size (aEe w S w1) w1 r' x:=by
   unfold aVu at hown
   split at hown
   case h_2=>cases hown
   rename_i key n htv
   split at hown
   case h_2=>cases hown
   rename_i sz xs hk
   split at hown
   case isFalse=>cases hown
   rename_i hn;obtain⟨hn,hdp⟩:=hn;simp only[bOw]at hown;subst hown;rw[htv]at hval;have hE:=hR.ents key _ hk hval.knows_bl;cases hval with
   |bl0 _ p hb=>
    cases hE with
    |nul _ _ _=>exact .inl ⟨rfl,p,rfl⟩
    |blk _ _ b base sz C thr c t hb1=>rw[hb]at hb1;cases hb1
   |ble _ p b base sz C hb=>
    rename_i hx0;cases hE with
    |nul _ _ hb1=>rw[hb]at hb1;cases hb1
    |blk _ _ b base sz C' thr c t hb1 _ _ hC=>
     rw[hb]at hb1;simp only[bOw,bO1]at hb1;have hxs:xs=[]:=bSc.1 (by omega)
     exact .inl ⟨hxs,p,rfl⟩
   |bl _ _ _ b base sz' C hb hl=>
    cases hE with
    |nul _ _ hb1=>rw[hb]at hb1;cases hb1
    |blk _ _ b1 base1 _ C1 thr c t hb1 hB hh hC hC' hs ho hv hown hthr=>
     rw[hb]at hb1;simp only[bOw,bO1]at hb1;obtain⟨rfl,rfl,rfl,rfl⟩:=hb1;simp only[bO0,if_false]at hthr;subst hthr;rw[Gh.at_none hdp]at hv
     refine .inr ⟨b,thr,C,c,t,hB,by simp[hn],hh,hC,hC',hs,ho,fun i j hi hj=>(hv i j hi hj).mono ⟨fun b' o hg=>?_,Gh.le_refl _,fun _ _ _ _ h=>h,fun _ _ _ _ h=>h,fun _ _ h=>h,fun _ r h=>⟨r,h⟩⟩⟩
     obtain⟨g1,g2⟩:=hg
     refine⟨⟨g1,fun hlt=>?_⟩,fun hbb=>?_⟩
     ·rcases g2 with g2|g2
      ·exact g2.2
      ·omega
     ·subst hbb;rcases g2 with g2|g2
      ·omega
      ·rw[hown]at g2;exact g2.2
  exact ends hor
 split at h
 case h_2=>cases h
 rename_i v ks hsn;simp only[bOw]at h;have hT: ∀b o,aX w.heap.size S G1 w1.heap.size b o->aEe w S w1 b o:=by
  rintro b o ⟨h1,h2⟩
  refine⟨h1,fun h3=>?_⟩
  rcases h2 with h2|h2
  ·exact h2.2
  ·omega
 have hcov: ∀k e,st.en k=some e->Cov (aEe w S w1) G1 k e:=by
  intro k e he
  by_cases hkn:G1.knows k
  case neg=>
   obtain⟨u1,u2,u3⟩:=Gh.not_knows hkn;cases e with
   |box cs f=>intro b hb;rw[u1]at hb;cases hb
   |blk sz xs f=>intro b base sz C hb;rw[u2]at hb;cases hb
   |map ks vs f=>intro r hr;rw[u3]at hr;cases hr
   |loop=>trivial
   |iter=>trivial
  have hE:=hR.ents k e he hkn;cases hE with
  |box cs frz b c t hb hB hh=>intro b' hb' j _;rw[hb]at hb';simp only[bOw]at hb';subst hb';exact⟨dY hh,fun h=>by omega⟩
  |nul sz frz hn=>intro b base sz C hb i j hi;simp at hi
  |blk xs frz b base sz C thr c t hb hB hh=>
   intro b' base' sz' C' hb' i j hi hj;rw[hb]at hb';simp only[bOw,bO1]at hb';obtain⟨rfl,_⟩:=hb';exact⟨dY hh,fun h=>by omega⟩
  |full xs b base sz c hb hs hh ht=>
   intro b' base' sz' C' hb' i j hi hj;rw[hb]at hb';simp only[bOw,bO1]at hb';obtain⟨rfl,rfl,rfl,rfl⟩:=hb';exact hT _ _ (ht i j hi hj)
  |map ks vs frz r es cl hr hB hh=>intro r' hr';rw[hr]at hr';simp only[bOw]at hr';subst hr';exact⟨dY hh,fun h=>by omega⟩
  |loop=>trivial
  |iter=>trivial
 have hfin:=xV hR.ents (T':=aEe w S w1) ⟨hT,Gh.le_refl _,fun _ _ _ _ h=>h,fun _ _ _ _ h=>h,fun _ _ h=>h,fun _ r h=>⟨r,h⟩⟩ k hval hsn fun k _ e he=>hcov k e he
 have hr:VR (aEe w S w1) Gh.none w1 r x:=by
  rw[<-h];split
  ·exact hfin
  ·exact hfin.wk
 exact ends (.vr hr)
theorem aZ0 {T:Nat->Nat->Prop}{x:Val}{v:Value}(h:VR T G w x v)(he:wQ x=true): ∃a cap,v= .slice a 0 cap:=by
 cases h<;>simp[wQ]at he
 ·exact⟨_,_,rfl⟩
 ·rename_i xs b off sz cap c hc hs hh ht ho hv;cases xs with
  |nil=>exact⟨_,_,rfl⟩
  |cons=>simp[wQ]at he
 ·exact⟨_,_,rfl⟩
 ·rename_i xs b off sz c hs hh ht ho hv;cases xs with
  |nil=>exact⟨_,_,rfl⟩
  |cons=>simp[wQ]at he
 ·exact⟨_,_,rfl⟩
 ·rename_i k off len b base sz C hb hl;cases len with
  |zero=>exact⟨_,_,rfl⟩
  |succ=>simp[wQ]at he
 ·exact⟨_,_,rfl⟩
 ·exact⟨_,_,rfl⟩
variable {b:Option Val}
theorem aUi {a:Option Val}(h:jP a b=some r):a=some r/\ b=some r:=by
 unfold jP at h
 split at h<;>simp only[bOw,reduceCtorEq]at h<;>subst h<;>exact⟨rfl,rfl⟩
theorem aUj {a:Option Val}(h:jP a b=some r):a=some r/\ (r= .cl [] \/r= .fz []):=by
 unfold jP at h
 split at h<;>simp only[bOw,reduceCtorEq]at h<;>subst h
 ·exact⟨rfl,.inl rfl⟩
 ·exact⟨rfl,.inr rfl⟩
theorem aQ7 {L:bJ}(hL:pW P L){k:Nat}(ih:aF6 P L n)(hlf:L f=some lf)(hlen:args.length=lf.np)(ha:wR lf args=true)
  (h:jP (iT lf k (exec L n) [.es true]) (iT lf k (exec L n) [.es false])=some r):
  (∃fn,P.funcs[f]?=some fn∧(fn.name== "runtime.NumGoroutine")=false∧fn.body.isNone=false)∧
  ∀(T:Nat->Nat->Prop) (G:Gh) (S:Nat->Nat->Prop) (w:World) (vals:Array Value),(∀b o,S b o->b<w.heap.size)->tM S w->vals.size=args.length->(∀i,i<args.length->VR T G w (args.getD i .dead) (vals.getD i undef))->
   Calls P f vals w fun e w'=> ∃v,e= .returned v/\ Below w.heap.size w w'/\ aL0 w.heap.size (aEe w S w') w' r v:=by
 obtain⟨h1,h2⟩:=aUi h;simp only[wR,bOx]at ha;obtain⟨_,ha⟩:=ha
 split at ha
 case h_2=>cases ha
 rename_i x;obtain⟨e1,c1⟩:=aF7 (args:=[.es true]) hL ih hlf hlen h1;obtain⟨_,c2⟩:=aF7 (args:=[.es false]) hL ih hlf hlen h2
 refine⟨e1,fun T G S w vals hS hgl hvl hv=>?_⟩
 obtain⟨a,cap,hx⟩:=aZ0 (hv 0 (by simp)) ha
 have one: ∀(b:Bool),a.isNone=b-> ∀i,i<[Val.es b].length->VR S Gh.none w ([Val.es b].getD i .dead) (vals.getD i undef):=by
  intro b hb i hi;simp only[bO7,bPe]at hi
  obtain rfl:i=0:=by omega
  rw[hx,<-hb];exact .es a cap
 cases hb:a.isNone with
 |true=>exact c1 S w vals hS hgl hvl (one true hb)
 |false=>exact c2 S w vals hS hgl hvl (one false hb)
variable {Ds0:List Nat}{nm:Bool}
theorem aF8 {st0:St}(hR:Rel P Ξ B S G st N a w)
  (hd3: ∀D∈Ds0,B<=D/\ ¬Ξ.defs D/\ w.heap[D]?=some (.deferred (some []))) (hen:st0.en=st.en) (hcnt:st0.cnt=st.cnt) (hvl:vals.size=args.length) (hnp:args.length<=fn.ntmps)
  (hv: ∀i,i<args.length->VR (aX B S G w.heap.size) G w (args.getD i .dead) (vals.getD i undef)) :
  Rel P {prs:=fun u x=>Ξ.prs u x \/ ∃i,u=st.fr i/\ x=a.tmps.getD i undef,ro:=none,rnd:=Ξ.isRnd,defs:=fun D=>Ξ.defs D \/D∈Ds0,nm:=nm,virt:=Ξ.virt} B S G {st0 with fr:=fun i=>args.getD i (.tup [])} fn.ntmps (aQ6 fn vals) w:=by
 unfold aQ6
 refine⟨hR.size,by simp;omega,fun i=>?_,⟨[],rfl,⟨List.nodup_nil,fun _=>rfl⟩,fun D hD=>by simp at hD⟩,fun k e' hk hkn=>hR.ents k e' (hen▸hk) hkn,fun k hk=>hen▸hR.freshEn k (by rw[<-hcnt];exact hk),fun k hk=>hR.freshG k (by rw[<-hcnt];exact hk),
  fun b k t hb'=>by have:=hR.own b k t hb';rw[<-hcnt]at this;exact this,fun u x hu=>?_,fun l hl=>hR.round l (hl.resolve_left (by simp)),fun D hD=>hD.elim (hR.defs D) fun h=>(hd3 D h).2.2,fun k hv=>by have:=hR.virt k hv;rw[<-hcnt]at this;exact this⟩
 ·simp only
  by_cases hi:i<args.length
  ·have e1:args.getD i (.tup [])=args.getD i .dead:=by simp[bO2,hi]
   have e2:(vals++Array.replicate (fn.ntmps-vals.size) undef).getD i undef=vals.getD i undef:=by
    simp only[bPc];rw[Array.getElem?_append_left (by omega)]
   rw[e1,e2];exact hv i hi
  ·have e1:args.getD i (.tup [])= .tup []:=by simp[bO2,List.getElem?_eq_none (Nat.le_of_not_lt hi)]
   have e2:(vals++Array.replicate (fn.ntmps-vals.size) undef).getD i undef=undef:=by
    simp only[bPc];rw[Array.getElem?_append_right (by omega)]
    simp only[bQr];split<;>rfl
   rw[e1,e2];exact .tup [] #[] rfl (fun i hi=>by simp at hi)
 ·rcases hu with(hu|⟨i,rfl,rfl⟩)|hu
  ·exact hR.extra u x (.inl hu)
  ·exact hR.frame i
  ·exact hR.extra u x (.inr hu)
theorem aF9 {ste:St}{M:Nat}{tl:List Deferred}(ha:N<=a.tmps.size)
  (hd1:a.defers=Ds0.map xU++Ξ.tail) (hd2:Ds0.Nodup/\ (Ξ.nm=true->Ds0=[])) (hd3: ∀D∈Ds0,B<=D/\ ¬Ξ.defs D)
  (hR2:Rel P {prs:=fun u x=>Ξ.prs u x \/ ∃i,u=st.fr i/\ x=a.tmps.getD i undef,ro:=none,rnd:=Ξ.isRnd,defs:=fun D=>Ξ.defs D \/D∈Ds0,nm:=nm,tail:=tl,virt:=Ξ.virt} B S G1 ste M a1 w1):
  Rel P Ξ B S G1 {fr:=st.fr,en:=ste.en,cnt:=ste.cnt} N a w1:=
 ⟨hR2.size,ha,fun i=>hR2.extra _ _ (.inl (.inr ⟨i,rfl,rfl⟩)),⟨Ds0,hd1,hd2,fun D hD=>⟨(hd3 D hD).1,(hd3 D hD).2,hR2.defs D (.inr hD)⟩⟩,hR2.ents,hR2.freshEn,hR2.freshG,hR2.own,fun u y hu=>hR2.extra u y (hu.imp_left .inl),
  fun l hl=>hR2.round l (.inr hl),fun D hD=>hR2.defs D (.inl hD),hR2.virt⟩
theorem bGa {L:bJ}(hL:pW P L)(ih:aF6 P L n): ∀f args v (st0 st':St),kP L (exec L n) f args st0=some (v,st')→(∃fn,P.funcs[f]?=some fn∧(fn.name== "runtime.NumGoroutine")=false∧fn.body.isNone=false)∧
  ∀(Ξ:Env) (B:Nat) (S:Nat->Nat->Prop) (G:Gh) (st:St) (N:Nat) (a:Act) (w:World) (vals:Array Value),Rel P Ξ B S G st N a w->st0.en=st.en->st0.cnt=st.cnt->vals.size=args.length->
   (∀i,i<args.length->VR (aX B S G w.heap.size) G w (args.getD i .dead) (vals.getD i undef))->Calls P f vals w (yA P Ξ B S st st' N a w v):=by
 intro f args v st0 st' h;simp only[kP]at h
 split at h
 ·cases h
 rename_i lf hlf;obtain⟨fn,I,keep,amb,hfn,hlow⟩:=hL f lf hlf;obtain⟨c,hbody,hb,hdst,hnp,hname,hres⟩:=wX hlow
 split at h
 case isFalse=>cases h
 rename_i hlen
 split at h
 ·rename_i ha;obtain⟨r,hr,he⟩:=bPa.1 h;simp only[bO1]at he;obtain⟨rfl,rfl⟩:=he;obtain⟨e1,c1⟩:=aQ7 hL ih hlf hlen ha hr
  refine⟨e1,fun Ξ B S G st N a w vals hR hen hcnt hvl hv=>?_⟩
  refine Calls.mono (c1 _ _ (aX B S G w.heap.size) w vals (fun _ _ h=>h.1) hR.glob hvl hv) ?_
  rintro e w' ⟨x,rfl,hbl,hv'⟩
  have hv':VR (aEe w (aX B S G w.heap.size) w') Gh.none w' r x:=by
   obtain⟨h1,h2⟩:=aUj hr;rcases h2 with h2|h2<;>subst h2<;>exact hv'
  have hR':=hR.below hbl
  refine⟨x,G,rfl,?_,hv'.mono ⟨fun b q hg=>?_,Gh.none_le _,fun _ _ _ _ h=>h,fun _ _ _ _ h=>h,fun _ _ h=>h,fun _ r h=>⟨r,h⟩⟩,⟨hbl.os,hbl.tape,hbl.output,hbl.size,fun k hk=>hbl.block k (bPo hk hR.size)⟩⟩
  ·have:({fr:=st.fr,en:=st0.en,cnt:=st0.cnt}:St)=st:=by rw[hen,hcnt]
   rw[this];exact hR'
  ·by_cases hbw:b<w.heap.size
   ·exact⟨hg.1,(hg.2 hbw).2⟩
   ·refine⟨hg.1,.inr ⟨by have:=hR.size;omega,?_⟩⟩
    cases hown:G.own b with
    |none=>trivial
    |some z=>obtain⟨k,t⟩:=z;have:=(hR.own _ _ _ hown).2.1;omega
 split at h
 case h_2=>cases h
 rename_i e ste hx
 split at h
 case isFalse=>cases h
 rename_i hends;obtain⟨vs,hvs,he⟩:=bPa.1 h;simp only[bO1]at he;obtain⟨rfl,rfl⟩:=he
 refine⟨⟨fn,hfn,hname,by rw[hbody];rfl⟩,fun Ξ B S G st N a w vals hR hen hcnt hvl hv=>?_⟩
 obtain⟨Ds0,hd1,hd2,hd3⟩:=hR.marks
 refine ih f fn lf I keep amb e _ ste _ B S G vals w _ hfn hlow hx rfl rfl rfl (aF8 hR hd3 hen hcnt hvl (by omega) hv) fun a1 w1 G1 x1 _ _ hR2 hb2=>?_
 obtain⟨x,hrun,hxv⟩:=wE hR2 hres hvs;have hfin:yA P Ξ B S st {ste with fr:=st0.fr} N a w (zS vs) (.returned x) w1:=⟨x,G1,rfl,aF9 (ste:=ste) hR.tmps hd1 hd2 (fun D hD=>⟨(hd3 D hD).1,(hd3 D hD).2.1⟩) hR2,hxv,hb2⟩
 cases e with
 |normal=>exact⟨x,hrun,hfin⟩
 |exit id=>cases hends
 |ret=>exact⟨x,hrun,hfin⟩
 |panic v=>cases hends
theorem aUk {L:bJ}(hL:pW P L)(ih:aF6 P L n):aQ3 P (cR L (exec L n)):=by
 intro f args v h;simp only[cR]at h
 split at h
 ·cases h
 rename_i lf hlf;obtain⟨fn,I,keep,amb,hfn,hlow⟩:=hL f lf hlf;obtain⟨c,hbody,hb,hdst,hnp,hname,hres⟩:=wX hlow
 split at h
 case isFalse=>cases h
 rename_i hlen
 split at h
 case h_2=>cases h
 rename_i v' st hx;simp only[bOw]at h;subst h
 refine⟨⟨fn,hfn,hname,by rw[hbody];rfl⟩,fun S w vals hS hgl hvl hv=>?_⟩
 refine ih f fn lf I keep amb _ (start args) st {prs:=fun _ _=>False,ro:=none,rnd:=fun _=>False,defs:=fun _=>False} w.heap.size S Gh.none vals w _ hfn hlow hx rfl rfl rfl (aMx hS hgl hvl (by omega) hv) fun a1 w1 G1 x hxv _ hR hbl=>?_
 exact⟨x,rfl,hbl,hxv⟩
theorem aJn {L:bJ}(hL:pW P L)(ih:aF6 P L n):aQ4 P (eD L (exec L n)):=by
 intro f args v st0 st' h;simp only[eD]at h
 split at h
 ·cases h
 rename_i lf hlf;obtain⟨fn,I,keep,amb,hfn,hlow⟩:=hL f lf hlf;obtain⟨c,hbody,hb,hdst,hnp,hname,hres⟩:=wX hlow
 split at h
 case isFalse=>cases h
 rename_i hlen
 split at h
 case h_2=>cases h
 rename_i v' ste hx;simp only[bOw,bO1]at h;obtain⟨rfl,rfl⟩:=h
 refine⟨⟨fn,hfn,hname,by rw[hbody];rfl⟩,fun Ξ B S G st N a w vals hR hen hcnt hvl hv=>?_⟩
 obtain⟨Ds0,hd1,hd2,hd3⟩:=hR.marks
 refine ih f fn lf I keep amb _ _ ste _ B S G vals w _ hfn hlow hx rfl rfl rfl (aF8 hR hd3 hen hcnt hvl (by omega) hv) fun a1 w1 G1 x hxv _ hR2 hb2=>?_
 exact⟨x,G1,rfl,hxv,aF9 (ste:=ste) hR.tmps hd1 hd2 (fun D hD=>⟨(hd3 D hD).1,(hd3 D hD).2.1⟩) hR2,hb2⟩
theorem aMy {T:Nat->Nat->Prop}{G:Gh}{w:World}: ∀(ps:List Nat) (args:List Val) (vals:List Value) (fr:Nat->Val) (tmps:Array Value),args.length=ps.length->vals.length=ps.length->(∀p∈ps,p<tmps.size)->
  (∀i,VR T G w (fr i) (tmps.getD i undef))->(∀i,i<args.length->VR T G w (args.getD i .dead) (vals.getD i undef))->
  (∀i,VR T G w (zT fr ps args i) (((ps.zip vals).foldl (fun t (p:Nat×Value)=>t.setIfInBounds p.1 p.2) tmps).getD i undef))/\ ((ps.zip vals).foldl (fun t (p:Nat×Value)=>t.setIfInBounds p.1 p.2) tmps).size=tmps.size
 |[],args,vals,fr,tmps,_,_,_,hf,_=>⟨hf,rfl⟩
 |p::ps,[],_,_,_,h,_,_,_,_=>by simp at h
 |p::ps,v::args,[],_,_,_,h,_,_,_=>by simp at h
 |p::ps,v::args,x::vals,fr,tmps,h1,h2,h3,hf,hv=>by
  simp only[bO7,Nat.add_right_cancel_iff]at h1 h2;have hp:=h3 p (by simp)
  have:=aMy ps args vals (iR fr p v) (tmps.setIfInBounds p x) h1 h2 (fun q hq=>by simpa using h3 q (by simp[hq])) (fun i=>?_) (fun i hi=>by simpa using hv (i+1) (by simpa using hi))
  ·refine⟨this.1,?_⟩
   have e:=this.2;simp only[List.zip_cons_cons,bRm];rw[e];simp
  ·simp only[bPc,bRk,iR]
   by_cases hi:i=p
   ·subst hi;simpa[hp]using hv 0 (by simp)
   ·have hi': ¬p=i:=fun e=>hi e.symm
    simp only[hi,hi',if_false]
    simpa[bPc]using hf i
theorem bCz {L:bJ}(ih:wD P L n): ∀k args v (st0 st':St),aD0 (exec L n) k args st0=some (v,st')->
  ∀(Ξ:Env) (B:Nat) (S:Nat->Nat->Prop) (G:Gh) (st:St) (N:Nat) (a:Act) (w:World) (vals:Array Value) (l:Nat) (ro:Option Nat) (m:Nat),Rel P Ξ B S G st N a w->st0.en=st.en->st0.cnt=st.cnt->G.mp k=some l->vals.size=args.length->
   (∀i,i<args.length->VR (aX B S G w.heap.size) G w (args.getD i .dead) (vals.getD i undef))->
   ∃f tmps assign body,(Instr.yield l vals).run P w= .ok (.round l f tmps assign body) w/\ RoundIn (Fx ro) m P l f tmps assign body w (yA P Ξ B S st st' N a w v):=by
 intro k args v st0 st' h Ξ B S G st N a w vals l ro m hR hen hcnt hmp hvl hv;simp only[aD0]at h
 split at h
 case h_2=>cases h
 rename_i fr ps la lb he0
 split at h
 case isFalse=>cases h
 rename_i hlen
 split at h
 case h_2=>cases h
 rename_i st1 hx1
 split at h
 case h_2=>cases h
 rename_i fr1 ps1 la1 lb1 he1
 split at h
 case h_2=>cases h
 rename_i e st2 hx2
 split at h
 case h_2=>cases h
 rename_i fr2 ps2 la2 lb2 hcalm he2;simp only[bOw,bO1]at h;obtain⟨rfl,rfl⟩:=h;rw[hen]at he0;have hE:=hR.ents k _ he0 (Gh.knows_mp hmp);cases hE with
 |loop _ _ _ _ _ l0 rec I N' hl hB hh hps ha hb hN hpN haN hbN hf hst hown=>
 rw[hmp]at hl;simp only[bOw]at hl;subst hl;obtain⟨Ds0,hd1,hd2,hd3⟩:=hR.marks;have hpsz:rec.params.size=ps.length:=by rw[<-hps];simp
 have hyd:=run_yield (P:=P) (args:=vals) hh (by rw[hvl,hlen,hpsz])
 refine⟨_,_,_,_,hyd,?_⟩
 have hfold:(rec.params.zip vals).foldl (fun tmps (t,a)=>tmps.setIfInBounds t a) rec.tmps=(ps.zip vals.toList).foldl (fun t (p:Nat×Value)=>t.setIfInBounds p.1 p.2) rec.tmps:=by
  rw[<-Array.foldl_toList,Array.toList_zip,hps]
 rw[hfold];obtain⟨hfr,hfs⟩:=aMy (T:=aX B S G w.heap.size) (G:=G) (w:=w) ps args vals.toList fr rec.tmps hlen (by simp[hvl,hlen]) (fun p hp=>bPo (by simpa using bO4.1 hpN p hp) hN) hf
  (fun i hi=>by simpa[bO2,bPc]using hv i hi)
 let Ξ':Env:={prs:=fun u x=>Ξ.prs u x \/(∃i,u=st.fr i/\ x=a.tmps.getD i undef) \/(u= .yld k/\ x= .func (.yield l) #[] #[]),ro:=some l,rnd:=Ξ.isRnd,defs:=fun D=>Ξ.defs D \/D∈Ds0,virt:=Ξ.virt}
 have hR0:Rel P Ξ' B S G {fr:=zT fr ps args,en:=st0.en,cnt:=st0.cnt} N' {tmps:=(ps.zip vals.toList).foldl (fun t (p:Nat×Value)=>t.setIfInBounds p.1 p.2) rec.tmps,defers:=[]} w:=by
  refine⟨hR.size,by simp only;rw[hfs];exact hN,hfr,⟨[],rfl,⟨List.nodup_nil,fun _=>rfl⟩,fun D hD=>by simp at hD⟩,fun k e' hk hkn=>hR.ents k e' (hen▸hk) hkn,fun k hk=>hen▸hR.freshEn k (by rw[<-hcnt];exact hk),fun k hk=>hR.freshG k (by rw[<-hcnt];exact hk),
   fun b k t hb'=>by have:=hR.own b k t hb';rw[<-hcnt]at this;exact this,fun u x hu=>?_,fun l' hl'=>?_,fun D hD=>hD.elim (hR.defs D) fun h=>(hd3 D h).2.2,fun k hv=>by have:=hR.virt k hv;rw[<-hcnt]at this;exact this⟩
  ·rcases hu with(hu|⟨i,rfl,rfl⟩|⟨rfl,rfl⟩)|hu
   ·exact hR.extra u x (.inl hu)
   ·exact hR.frame i
   ·exact .yld k l hmp
   ·exact hR.extra u x (.inr hu)
  ·rcases hl' with hl'|hl'
   ·simp only[Ξ',bOw]at hl';subst hl';exact⟨rec,hh⟩
   ·exact hR.round l' hl'
 have wrt: ∀{G1:Gh} {s1:St} {a1:Act} {w1:World} {fr1:Nat->Val} {ps1:List Nat} {la1 lb1:bB} {q1:LSt} (q2:LSt),Rel P Ξ' B S G1 s1 N' a1 w1->s1.en k=some (.loop fr1 ps1 la1 lb1 q1)->
   ∃rec1,w1.heap[l]?=some (.loop rec1)/\ aZb q1 rec1/\ B<=l/\ ∀rec2:Loop,rec2.params=rec1.params->rec2.assign=rec1.assign->rec2.body=rec1.body->rec2.tmps=rec1.tmps->aZb q2 rec2->
    Rel P Ξ' B S G1 {s1 with en:=s1.en.set k (some (.loop fr1 ps1 la1 lb1 q2))} N' a1 (kG w1 l (.loop rec2)):=by
  intro G1 s1 a1 w1 fr1 ps1 la1 lb1 q1 q2 hR1 hk;have hy:=hR1.extra (.yld k) (.func (.yield l) #[] #[]) (.inl (.inr (.inr ⟨rfl,rfl⟩)));cases hy with
  |yld _ _ hmp1=>
  have hE1:=hR1.ents k _ hk (Gh.knows_mp hmp1);cases hE1 with
  |loop _ _ _ _ _ l1 rec1 I1 N1 hl1 hB1 hh1 hps1 ha1 hb1 hN1 hpN1 haN1 hbN1 hf1 hst1 hown1=>
  rw[hmp1]at hl1;simp only[bOw]at hl1;subst hl1
  refine⟨rec1,hh1,hst1,hB1,fun rec2 r1 r2 r3 r4 hq=>?_⟩
  exact hR1.write (e':= .loop fr1 ps1 la1 lb1 q2) hown1 hh1 (fun _ _=> .inl (by simp)) (fun _=>by simp) (fun r _=>⟨rec2,rfl⟩) (fun off h=>by omega)
   (fun m=> .loop fr1 ps1 la1 lb1 q2 l rec2 I1 N1 hmp1 hB1 (kU _ (dY hh1)) (by rw[r1];exact hps1) (by rw[r2];exact ha1) (by rw[r3];exact hb1) (by rw[r4];exact hN1) hpN1 haN1 hbN1 (fun i=>by rw[r4];exact(hf1 i).mono m) hq hown1)
 refine roundIn_of_wpIn (F:=Fx ro) trivial ?_
 refine ih I N' rec.assign _ .normal st1 Ξ' B S G _ w _ m (by rw[ha];exact haN) (fun h=>nomatch h) hR0 (by rw[ha];exact hx1) fun a1 w1 G1 x1 _ hR1 hb1=>?_
 have hR1:=hR1.rel rfl;obtain⟨rec1,hh1,hq1,hBl,hw1⟩:=wrt .busy hR1 he1
 refine⟨_,run_beginRound hh1 hq1.1,?_⟩
 have hR1':=hw1 {rec1 with state:= .busy} rfl rfl rfl rfl ⟨rfl,hq1.2⟩
 refine ih I N' rec.body _ e st2 Ξ' B S G1 a1 _ _ m (by rw[hb];exact hbN) (fun h=>nomatch h) hR1' (by rw[hb];exact hx2) fun a2 w2 G2 x2 _ hR2 hb2=>?_
 have hR2:=hR2.rel hcalm;have fin: ∀(jump:Option Code) (q:LSt),aZb q {state:=if jump.isNone then .ready else .done,pending:=jump,fn:=0,tmps:= #[],params:= #[],assign:= .skip,body:= .skip,defers:=0}->jump.isNone=decide (e= .normal)->q=(if e= .normal then .ready else .done e)->
   ∃v w',(Instr.endRound l jump).run P w2= .ok v w'/\ yA P Ξ B S st {fr:=st0.fr,en:=st2.en.set k (some (.loop fr2 ps2 la2 lb2 (if e= .normal then .ready else .done e))),cnt:=st2.cnt} N a w (.bool (decide (e= .normal))) (.returned v) w':=by
  intro jump q hq hj hqe;obtain⟨rec2,hh2,_,_,hw2⟩:=wrt q hR2 he2;have hR3:=hw2 {rec2 with state:=if jump.isNone then .ready else .done,pending:=jump} rfl rfl rfl rfl (by cases q<;>exact hq)
  refine⟨_,_,run_endRound jump hh2,_,G2,rfl,?_,by rw[hj];exact .bool _,?_⟩
  ·rw[<-hqe];exact⟨hR3.size,hR.tmps,fun i=>hR3.extra _ _ (.inl (.inr (.inl ⟨i,rfl,rfl⟩))),⟨Ds0,hd1,hd2,fun D hD=>⟨(hd3 D hD).1,(hd3 D hD).2.1,hR3.defs D (.inr hD)⟩⟩,hR3.ents,hR3.freshEn,hR3.freshG,hR3.own,fun u y hu=>hR3.extra u y (hu.imp_left .inl),
    fun l' hl'=>hR3.round l' (.inr hl'),fun D hD=>hR3.defs D (.inl hD),hR3.virt⟩
  ·exact((hb1.trans (sW hBl)).trans hb2).trans (sW hBl)
 cases e with
 |normal=>exact fin none .ready ⟨rfl,rfl⟩ rfl rfl
 |exit id=>exact fin (some (.exit id)) (.done (.exit id)) ⟨rfl,rfl,by simp,rfl⟩ (by simp) (by simp)
 |ret=>exact fin (some .ret) (.done .ret) ⟨rfl,rfl,by simp,rfl⟩ (by simp) (by simp)
 |panic v=>cases hcalm
theorem pI {k:Key}: ∀{ks:List Key} {en:En},k∉ks->W.applyAll en (ks.map .frz) k=en k
 |[],_,_=>rfl
 |k'::ks,en,h=>by
  simp only[bP0,not_or]at h;simp only[bPw,W.applyAll,bRm];have:=pI (en:=W.apply en (.frz k')) h.2;simp only[W.applyAll]at this;rw[this];cases he:en k' with
  |none=>simp only[W.apply,he]
  |some e=>simp only[W.apply,he,En.set];rw[if_neg h.1]
variable {k:Key}
section
theorem Rel.norm (hR:Rel P Ξ B S G st N a w){en':En}(h:aD3 st.en k=some en'):
  ∃G',Rel P Ξ B S G' {st with en:=en'} N a w/\ ∀v x,VR (aX B S G w.heap.size) G w v x->VR (aX B S G' w.heap.size) G' w v x:=by
 simp only[aD3]at h
 split at h
 case h_2=>cases h
 rename_i cs hk
 split at h
 case h_2=>cases h
 rename_i rs hrs
 split at h
 case isTrue=>cases h
 rename_i hnk;simp only[bOw]at h;have hnk':k∉rs.flatMap (·.2):=by simpa using hnk
 obtain⟨G',hR',hg,hT,hsnap,hbk⟩:=aCh hR (rs.flatMap (·.2));have hmono: ∀v x,VR (aX B S G w.heap.size) G w v x->VR (aX B S G' w.heap.size) G' w v x:=fun v x hv=>hv.mono' ⟨hT,hg,fun _ _ _ _ h=>h,fun _ _ _ _ h=>h⟩
 refine⟨G',?_,hmono⟩
 have hk':W.applyAll st.en ((rs.flatMap (·.2)).map .frz) k=some (.box cs false):=by rw[pI hnk'];exact hk
 obtain⟨l1,l2⟩:=eR hrs;have hnew:G'.knows k->ER P B (aX B S G' w.heap.size) G' w k (.box (rs.map (·.1)) false):=by
  intro hkn';have hE:=hR.ents k _ hk (hbk k hkn');have hE':=hR'.ents k _ hk' hkn';cases hE with
  |box _ _ b c t hb hB hh hs ho hv hown=>
  cases hE' with
  |box _ _ b' c' t' hb' hB' hh' hs' ho' hv' hown'=>
  have hbb:b'=b:=by have:=hg.box _ _ hb;rw[hb']at this;exact Option.some.inj this
  subst hbb
  refine .box _ _ b' c t hb' hB hh (by simp[hs,l1]) (fun j hj=>ho j (by simpa[l1]using hj)) (fun j hj=>?_) hown'
  have hj1:j<cs.length:=by simpa[l1]using hj
  have hj2:j<rs.length:=by rw[l1];exact hj1
  have hpc:=l2 j hj1 hj2;have hvj:=hv j hj1;have e1:cs.getD j .dead=cs[j]:=by simp[bO2,hj1]
  have e2:(rs.map (·.1)).getD j .dead=rs[j].1:=by simp[bO2,hj2]
  rw[e1]at hvj;rw[e2];have oth: ∀(r:Val×List Key),snap 8 st.en cs[j]=some r->rs[j]=(r.1.wk0,r.2)->VR (aX B S G' w.heap.size) G' w rs[j].1 (c.getD j undef):=by
   intro r hr he;have:=hsnap 8 _ _ _ r.2 hvj hr (fun k' hk'=>bQa.2 ⟨rs[j],bO6 hj2,by rw[he];exact hk'⟩)
   rw[he];exact this.wk0.mono' ⟨fun _ _ h=>h,Gh.none_le _,fun _ _ _ _ h=>h,fun _ _ _ _ h=>h⟩
  generalize cs[j]=v at hpc hvj oth;unfold aD2 at hpc
  split at hpc
  ·simp only[bOw]at hpc;rw[<-hpc];exact hmono _ _ hvj
  ·split at hpc
   case h_2=>cases hpc
   rename_i r hr;simp only[bOw]at hpc;exact oth r hr hpc.symm
 rw[<-h]
 refine⟨hR'.size,hR'.tmps,hR'.frame,hR'.marks,fun k' e he hkn=>?_,fun k' hk2=>?_,hR'.freshG,hR'.own,hR'.extra,hR'.round,hR'.defs,hR'.virt⟩
 ·simp only[En.set]at he
  split at he
  ·rename_i e;subst e;simp only[bOw]at he;subst he;exact hnew hkn
  ·exact hR'.ents k' e he hkn
 ·simp only[En.set];split
  ·rename_i e;subst e;have:=hR.freshEn k' hk2;rw[hk]at this;cases this
  ·exact hR'.freshEn k' hk2
theorem Rel.norms {x:Val}: ∀{ps:List (List Nat)} {G:Gh} {st:St} {en':En},Rel P Ξ B S G st N a w->norms x ps st.en=some en'->
  ∃G',Rel P Ξ B S G' {st with en:=en'} N a w/\ ∀v x,VR (aX B S G w.heap.size) G w v x->VR (aX B S G' w.heap.size) G' w v x
 |[],G,st,en',hR,h=>by
  simp only[Go.Abs.norms,bOw]at h;subst h;exact⟨G,hR,fun _ _ h=>h⟩
 |p::ps,G,st,en',hR,h=>by
  simp only[Go.Abs.norms]at h
  split at h
  case h_2=>cases h
  split at h
  case h_2=>cases h
  rename_i en1 h1;obtain⟨G1,hR1,m1⟩:=hR.norm h1;obtain⟨G2,hR2,m2⟩:=Rel.norms hR1 h;exact⟨G2,hR2,fun v x hv=>m2 v x (m1 v x hv)⟩
end
theorem aOt {L:bJ}(hL:pW P L)(ih:aF6 P L n): ∀f args v (st0 st':St),zU L (exec L n) f args st0=some (v,st')→(∃fn,P.funcs[f]?=some fn∧(fn.name== "runtime.NumGoroutine")=false∧fn.body.isNone=false)∧
  ∀(Ξ:Env) (B:Nat) (S:Nat->Nat->Prop) (G:Gh) (st:St) (N:Nat) (a:Act) (w:World) (vals:Array Value),Rel P Ξ B S G st N a w->st0.en=st.en->st0.cnt=st.cnt->vals.size=args.length->
   (∀i,i<args.length->VR (aX B S G w.heap.size) G w (args.getD i .dead) (vals.getD i undef))->Calls P f vals w (yA P Ξ B S st st' N a w v):=by
 intro f args v st0 st' h;simp only[zU]at h
 split at h
 case h_2=>cases h
 rename_i v1 st1 hi
 split at h
 case h_2=>cases h
 rename_i lf hlf
 split at h
 case h_2=>cases h
 rename_i en' hn;simp only[bOw,bO1]at h;obtain⟨rfl,rfl⟩:=h;obtain⟨e1,c1⟩:=bGa hL ih _ _ _ _ _ hi
 refine⟨e1,fun Ξ B S G st N a w vals hR hen hcnt hvl hv=>?_⟩
 refine Calls.mono (c1 Ξ B S G st N a w vals hR hen hcnt hvl hv) ?_
 rintro e w' ⟨x,G',rfl,hR',hx,hb⟩
 obtain⟨G2,hR2,m⟩:=hR'.norms hn;exact⟨x,G2,rfl,hR2,m _ _ hx,hb⟩
def Env.add (Ξ:Env)(k:Key):Env:={Ξ with virt:=fun k'=>Ξ.virt k' \/k'=k}
section
variable {o:Oper}
theorem Rel.unadd (h:Rel P (Ξ.add k) B S G st N a w):Rel P Ξ B S G st N a w:=
 ⟨h.size,h.tmps,h.frame,h.marks,h.ents,h.freshEn,h.freshG,h.own,h.extra,h.round,h.defs,fun k' hv=>h.virt k' (.inl hv)⟩
theorem aF5.unadd {e:Ex}(h:aF5 P (Ξ.add k) B S G st N e a w):aF5 P Ξ B S G st N e a w:=by
 obtain⟨tm,h1,h2⟩:=h;exact⟨tm,h1.unadd,h2⟩
theorem Rel.reserve (h:Rel P Ξ B S G st N a w)(hk:k=⟨0,d,st.cnt 0 d⟩):Rel P (Ξ.add k) B S G (vG k z st) N a w:=by
 subst hk;have hf:=h.freshG ⟨0,d,st.cnt 0 d⟩ (bOy _)
 refine⟨h.size,h.tmps,h.frame,h.marks,fun k' e he hkn=>?_,fun k' hk'=>?_,fun k' hk'=>h.freshG k' (bPb (nZ _ _) hk'),fun b k' t hb=>?_,h.extra,h.round,h.defs,fun k' hv=>?_⟩
 ·simp only[vG,En.set]at he
  split at he
  ·rename_i hke;subst hke;exact absurd hkn (Gh.knows_not hf)
  ·exact h.ents k' e he hkn
 ·have hne:k'≠⟨0,d,st.cnt 0 d⟩:=by rintro rfl;simp only[vG,mG]at hk';omega
  simp only[vG,En.set,if_neg hne];exact h.freshEn k' (bPb (nZ _ _) hk')
 ·obtain⟨h1,h2,h3⟩:=h.own b k' t hb;exact⟨h1,h2,bPo h3 (nZ _ _)⟩
 ·rcases hv with hv|rfl
  ·obtain⟨v1,v2⟩:=h.virt k' hv;exact⟨v1,bPo v2 (nZ _ _)⟩
  ·exact⟨Gh.knows_not hf,by simp only[vG,mG];omega⟩
theorem Rel.realize (h:Rel P (Ξ.add k) B S G st N a w)(hvk: ¬Ξ.virt k){c:Array Value}{t:TypeId}(he:st.en k=some (.box z false))(hs:c.size=z.length)(ho: ∀j,j<z.length->fK (c.getD j undef)=true)
  (hv: ∀j,j<z.length->VR (aX B S G w.heap.size) G w (z.getD j .dead) (c.getD j undef)):Rel P Ξ B S (G.addBox k w.heap.size) st N a (w.alloc (.cells c t)):=by
 obtain⟨u1,u2⟩:=h.virt k (.inr rfl);have hn:=Gh.not_knows u1;have hg:=Gh.le_addBox (b:=w.heap.size) hn.1;have ho': ∀b,b≠w.heap.size->(G.addBox k w.heap.size).own b=G.own b:=fun b hb=>by simp[Gh.addBox,hb]
 have m:=oU (B:=B) (S:=S) (w:=w) (o:= .cells c t) hg ho';have hkk: ∀k',k'≠k->(G.addBox k w.heap.size).box k'=G.box k'/\ (G.addBox k w.heap.size).blk k'=G.blk k'/\ (G.addBox k w.heap.size).mp k'=G.mp k':=fun k' hk'=>by simp[Gh.addBox,hk']
 refine h.unadd.change m (by rw[size_alloc];omega) (fun k' e' hk' hkn=>?_) (fun k' hk'=>?_) (fun b k' t' hb=>?_) (fun k' hv'=>?_)
 ·by_cases hke:k'=k
  ·subst hke;rw[he,bOw]at hk';subst hk';exact .box z false w.heap.size c t (by simp[Gh.addBox]) h.size (fF _ _) hs ho (fun j hj=>(hv j hj).mono m) (by simp[Gh.addBox])
  ·refine(h.ents k' e' hk' (Gh.knows_of hkk hke hkn)).mono m.four fun b _ hb=>?_
   have hlt:=aOd (fun b k t ho=>(h.own b k t ho).2.1) hb
   exact⟨kT w _ hlt,ho' b (Nat.ne_of_lt hlt)⟩
 ·have hne:k'≠k:=by rintro rfl;omega
  obtain⟨j1,j2,j3⟩:=hkk k' hne;obtain⟨f1,f2,f3⟩:=h.freshG k' hk';exact⟨h.freshEn k' hk',by rw[j1];exact f1,by rw[j2];exact f2,by rw[j3];exact f3⟩
 ·by_cases hb':b=w.heap.size
  ·subst hb';simp only[Gh.addBox,if_true,bOw,bO1]at hb;obtain⟨rfl,_⟩:=hb;exact⟨h.size,by rw[size_alloc];omega,u2⟩
  ·rw[ho' b hb']at hb;obtain⟨h1,h2,h3⟩:=h.own b k' t' hb;exact⟨h1,by rw[size_alloc];omega,h3⟩
 ·obtain⟨v1,v2⟩:=h.virt k' (.inl hv');have hne:k'≠k:=by rintro rfl;exact hvk hv'
  exact⟨fun hkn=>v1 (Gh.knows_of hkk hne hkn),v2⟩
theorem aJo (hR:Rel P (Ξ.add k) B S G st N a w)(hvk: ¬Ξ.virt k)(hl:fD P I ops o=some {dst:=some d,op:= .alloc z,guard:=none})(hd:d<N)(hek:st.en k=some (.box z false))
      (kk: ∀a' w' G',Rel P Ξ B S G' {st with fr:=iR st.fr d (.ptr k 0)} N a' w'->Below B w w'->next a' w'):
  if Region.wanted o (yielded ops a.tmps)=true then o.wpIn (Fx ro) m P a w next Q else(∀f,o.about P w a.eval=some f->(Fx ro).fn f)/\ next (a.put o.dst undef) w:=by
 simp only[fD,bPj,bO9,bPl,bOw,aM.mk.injEq]at hl;obtain⟨lop,hop,g,hg,hdst,rfl,rfl⟩:=hl;obtain⟨t,ho,hz⟩:=aHb hop;have hw:wanted st.fr none=some true:=rfl;rw[pV hR hg hw,if_pos rfl];obtain⟨i,v,hi,hz,hs,ho1,hv⟩:=tP (P:=P) (G:=G) (w:=w) (T:=aX B S G w.heap.size) hz
 refine⟨fun _ _=>trivial,?_⟩
 rw[pU (x:= .value (.pointer (some ⟨w.heap.size,0,none⟩))) (w':=w.alloc (.cells v.cells t)) (by simp[execOp,ho,Instr.alloc,gH hi hz,newVar,newRow]) (by simp)]
 have hR':=hR.realize hvk (t:=t) hek hs ho1 hv;rw[Oper.uponIn_value];rw[hdst];exact kk _ _ _ (hR'.put hd (.ptr k 0 w.heap.size (by simp[Gh.addBox]))) (mY hR _)
end
theorem zI {k:Key}: ∀(ws:List W) (en:En),(ws.all fun w=>decide (w.key≠k))=true->W.applyAll en ws k=en k
 |[],_,_=>rfl
 |x::ws,en,h=>by
  simp only[bQ7,bOx,bSi]at h;have e:W.applyAll en (x::ws)=W.applyAll (x.apply en) ws:=rfl;rw[e,zI ws _ h.2];have hk:=h.1;have key: ∀(k1:Key) (e:Option Ent),k1≠k->En.set en k1 e k=en k:=fun k1 e h=>if_neg fun he=>h he.symm
  clear e;cases x with
  |ent k1 e1=>exact key k1 e1 hk
  |cells k1 off vs=>
   simp only[W.apply];cases h1:en k1 with
   |none=>rfl
   |some e1=>cases e1<;>first|exact key k1 _ hk|rfl
  |elem k1 i off vs=>
   simp only[W.apply];cases h1:en k1 with
   |none=>rfl
   |some e1=>
    cases e1 with
    |blk sz xs f=>
     simp only
     cases h2:xs[i]? with
     |none=>rfl
     |some x=>exact key k1 _ hk
    |_=>rfl
  |frz k1=>
   simp only[W.apply];cases h1:en k1 with
   |none=>rfl
   |some e1=>exact key k1 _ hk
theorem aAc {l:Nat->aM}{r:Nat->Res}{L:Nat->Bool}{st:St}{k:Key}: ∀(n:Nat),(∀i,i<n->L i=true->aN9 k (r i)=true)->(dM (fun i=>eQ (l i) (r i)) L st n).en k=st.en k
 |0,_=>rfl
 |n+1,h=>by
  simp only[dM];have ih:=aAc (l:=l) (r:=r) (L:=L) (st:=st) n fun i hi=>h i (by omega)
  split
  ·rename_i hL;have hl:=h n (by omega) hL
   rw[<-ih];simp only[eQ];unfold aN9 at hl;cases hm:(r n).mem with
   |some p=>rw[hm]at hl;simp only at hl⊢;rw[if_pos hl]
   |none=>rw[hm]at hl;exact zI _ _ hl
  ·exact ih
variable {l':List aM}
theorem aJp (hlen:l'.length=l.length)(hd: ∀i,i<l.length->(l'.getD i default).dst=(l.getD i default).dst)(hu: ∀i,i<l.length-> ∀d∈(l'.getD i default).uses,d∈(l.getD i default).uses)
  (hm: ∀i,i<l.length->((l'.getD i default).op.writesMem=true->(l.getD i default).op.writesMem=true)/\ ((l'.getD i default).op.readsMem=true->(l.getD i default).op.readsMem=true)) (h:fP an l=some ps):
  ∃ps',fP an l'=some ps'/\ ∀p∈ps',p∈ps:=by
 simp only[fP]at h⊢
 split at h
 case isFalse=>cases h
 rename_i hall;simp only[bOw]at h;rw[hlen];have hc:((List.range l.length).all fun k=>(List.range l.length).all fun i=>i==k||
   (match(l'.getD i default).dst with
    |some d=>(l'.getD k default).dst !=some d&&(!(l'.getD k default).uses.contains d||((an.getD k []).contains i||(an.getD i []).contains k))
    |none=>true))=true:=by
  rw[bO4];intro k hk;rw[bO4];intro i hi;have hk':=bPu.1 hk;have hi':=bPu.1 hi;have h0:=bO4.1 (bO4.1 hall k hk) i hi;rw[bP3]at h0⊢
  refine h0.imp id fun h0=>?_
  rw[hd i hi',hd k hk'];cases hdd:(l.getD i default).dst with
  |none=>rfl
  |some d=>
   rw[hdd]at h0;simp only[bOx]at h0⊢
   refine⟨h0.1,?_⟩
   have h1:=h0.2;rw[bP3]at h1⊢
   refine h1.imp (fun h2=>?_) id
   simp only[bQb,bQq,bSj]at h2⊢;exact fun h3=>h2 (hu k hk' d h3)
 refine⟨_,if_pos hc,fun p hp=>?_⟩
 rw[<-h];simp only[bQa,bPu,bPt,bQi,bOx]at hp⊢;obtain⟨k,hk,i,⟨hik,hord,hcond⟩,rfl⟩:=hp
 refine⟨k,hk,i,⟨hik,hord,?_⟩,rfl⟩
 have mi:=hm i (by omega)
 have mk:=hm k hk;simp only[bP3,bOx]at hcond⊢;exact hcond.imp (fun h=>⟨mi.1 h.1,h.2.imp mk.2 mk.1⟩) (fun h=>⟨mk.1 h.1,mi.2 h.2⟩)
variable {A:Nat}
theorem tV (hA:A<l.length)(i:Nat):(iY A k l).getD i default=if i=A then zG k (l.getD A default)else l.getD i default:=by
 simp only[iY,bO2,bRl]
 by_cases h:A=i
 ·subst h;simp[hA]
 ·rw[if_neg h,if_neg fun e=>h e.symm]
theorem pX :(iY A k l).length=l.length:=by simp[iY]
theorem aJq (hA:A<l.length)(h:fP an l=some ps): ∃ps',fP an (iY A k l)=some ps'/\ ∀p∈ps',p∈ps:=by
 refine aJp pX (fun i hi=>?_) (fun i hi d hd=>?_) (fun i hi=>?_) h
 ·rw[tV hA];split
  ·rename_i e;subst e;rfl
  ·rfl
 ·rw[tV hA]at hd;split at hd
  ·simp[zG,aM.uses,LOp.opds,Opd.tmp]at hd
  ·exact hd
 ·rw[tV hA];split
  ·exact⟨fun h=>by simp[zG,LOp.writesMem]at h,fun h=>by simp[zG,LOp.readsMem]at h⟩
  ·exact⟨id,id⟩
section
theorem aZ1 (hcall:lJ P call)(hio:wW P io)(hl:cU (fD P I ops) ops.toList=some l)(hd:l.all (fun o=>o.dst.all (· <N))=true)(han:aQk ops=some an)
   (hps:fP an l=some ps)   {kA:Key} (hA:A<l.length) (hAo:l.getD A default={dst:=some d,op:= .alloc z,guard:=none}) (hvk: ¬Ξ.virt kA)   (hrun:iV n call io 0 (iY A kA l) st=some (stn,rs)) (hok:dS rs ps=true) (hleft:oS an A kA rs=true) (hek:st.en kA=some (.box z false)) :
  ∀(fuel:Nat) (listed:Array Bool) (G:Gh) (a:Act) (w:World),listed.size=ops.size->(List.range ops.size).countP (fun i=>!listed.getD i false)<=fuel->yD ops (fun i=>listed.getD i false)->
   Rel P (if listed.getD A false=true then Ξ else Ξ.add kA) B S G (dM (fun k=>eQ ((iY A kA l).getD k default) (rs.getD k cF)) (fun i=>listed.getD i false) st ops.size) N a w->(∀a' w' G',Rel P Ξ B S G' stn N a' w'->Below B w w'->Q .normal a' w')->
   wpAnyIn (Fx ro) m P .any ops Q fuel listed a w:=by
 obtain⟨l1,l2⟩:=eR hl;have hN:l.length=ops.size:=by rw[l1];simp
 obtain⟨hrl,s,hrun',hsn⟩:=tT hrun;rw[pX,hN]at hrun' hsn;obtain⟨ps',hps',hsub⟩:=aJq (k:=kA) hA hps;have hok':=aAb hok hsub;have hlt:=aIk han;have hw: ∀i,i<(iY A kA l).length->(((iY A kA l).getD i default).op.writesMem=false->(rs.getD i cF).quiet)/\ (((iY A kA l).getD i default).op.readsMem=false->(rs.getD i cF).rs=[]):=
  fun i hi=>(rL (hrun'.step i (by rw[pX]at hi;omega))).2.2
 have hfree: ∀i j,i<j->j<ops.size-> ¬i∈an.getD j []->aH7 ((iY A kA l).getD i default) ((iY A kA l).getD j default) (rs.getD i cF) (rs.getD j cF):=
  fun i j hij hj ho=>aIl hps' hok' hw (fun j i hj hi=>hlt j i (by rw[pX]at hj;omega) hi) hij (by rw[pX];omega) ho
 have full: ∀(listed:Array Bool),listed.size=ops.size->Region.ready .any ops listed=[]-> ∀i,i<ops.size->listed.getD i false=true:=by
  intro listed hsz hr i
  induction i using Nat.strongRecOn with
  |ind i ih=>
   intro hi;cases hb:listed.getD i false with
   |true=>rfl
   |false=>
    exfalso
    have hm:i∈Region.ready .any ops listed:=by
     rw[mem_ready]
     refine⟨?_,ops[i],bPk hi,fun e he hbd=>?_⟩
     ·rw[bPc,bPk (by omega)]at hb⊢;simpa using hb
     ·have hk:e.on∈lK ops[i]:=bPt.2 ⟨e,bQi.2 ⟨by simpa using he,hbd⟩,rfl⟩
      have:=(sX han (bPk hi)).1 _ hk;exact ih _ this (by omega)
    rw[hr]at hm;simp at hm
 have done: ∀(listed:Array Bool) (G:Gh) (a:Act) (w:World),listed.size=ops.size->Region.ready .any ops listed=[]->
   Rel P (if listed.getD A false=true then Ξ else Ξ.add kA) B S G (dM (fun k=>eQ ((iY A kA l).getD k default) (rs.getD k cF)) (fun i=>listed.getD i false) st ops.size) N a w->(∀a' w' G',Rel P Ξ B S G' stn N a' w'->Below B w w'->Q .normal a' w')->Q .normal a w:=by
  intro listed G a w hsz hr hR hQ
  refine hQ a w G ?_ (Below.refl _ _)
  rw[if_pos (full listed hsz hr A (by omega)),cN (L':=fun _=>true) fun i hi=>full listed hsz hr i hi,<-hrun'.fold _ (bOy _),hsn]at hR
  exact hR
 intro fuel
 induction fuel with
 |zero=>
  intro listed G a w hsz hc hcl hR hQ;have hr:Region.ready .any ops listed=[]:=by
   cases h:Region.ready .any ops listed with
   |nil=>rfl
   |cons i jE=>
    exfalso
    have hm:i∈Region.ready .any ops listed:=by rw[h];simp
    obtain⟨h0,o,ho,_⟩:=mem_ready.1 hm;have hi:=(bQn.1 ho).1;have hb:listed.getD i false=false:=by
     rw[bPc,bPk (by omega)]at h0⊢;simpa using h0
    have:=bSb (p:=fun i=>!listed.getD i false) (l:=List.range ops.size)|>.2 ⟨i,bPu.2 hi,by simp only[hb];rfl⟩
    omega
  exact⟨hr,done listed G a w hsz hr hR hQ⟩
 |succ fuel ih=>
  intro listed G a w hsz hc hcl hR hQ
  refine⟨fun hr=>done listed G a w hsz hr hR hQ,fun i hm=>?_⟩
  obtain⟨h0,o,ho,hready⟩:=mem_ready.1 hm;have hi:=(bQn.1 ho).1;have hoi:o=ops[i]:=by rw[bPk hi,bOw]at ho;exact ho.symm
  have hb:listed.getD i false=false:=by
   rw[bPc,bPk (by omega)]at h0⊢;simpa using h0
  have hdir: ∀k∈lK o,listed.getD k false=true:=by
   intro k hk;obtain⟨e,he,rfl⟩:=bPt.1 hk;obtain⟨he1,he2⟩:=bQi.1 he;exact hready e (by simpa using he1) he2
  have hst:=aBt hrun' (ord:=fun i j=>j<ops.size/\ i∈an.getD j []) (fun i j h=>hlt j i h.1 h.2) (fun i j hij hj ho=>hfree i j hij hj fun h=>ho ⟨hj,h⟩) (L:=fun i=>listed.getD i false)
   (fun j hj hLj i hord=>gQ han hcl j _ (bPk hj) (hcl j _ (bPk hj) hLj) i hord.2) hi hb
   (fun k hk=>gQ han hcl i o ho hdir k hk.2)
  have hset: ∀k,(listed.setIfInBounds i true).getD k false=(k==i||listed.getD k false):=by
   intro k
   by_cases hk:k=i
   ·subst hk;simp[show k<listed.size by omega]
   ·rw[getD_set_ne false fun e=>hk e.symm]
    have:(k==i)=false:=by simpa using hk
    rw[this,bPv]
  have hil:i<l.length:=by omega
  have hlow:=l2 i (by simpa using hi) hil
  simp only[bRr]at hlow;have hli:l.getD i default=l[i]:=by simp[bO2,hil]
  unfold wpOpIn;rw[bPk hi];have go: ∀a' w' G',Rel P (if(listed.setIfInBounds i true).getD A false=true then Ξ else Ξ.add kA) B S G' (dM (fun k=>eQ ((iY A kA l).getD k default) (rs.getD k cF)) (fun k=>k==i||listed.getD k false) st ops.size) N a' w'->Below B w w'->wpAnyIn (Fx ro) m P .any ops Q fuel (listed.setIfInBounds i true) a' w':=by
   intro a' w' G' h1 h2
   refine ih _ G' a' w' (by simpa using hsz) ?_ ?_ ?_ fun a'' w'' G'' h3 h4=>hQ a'' w'' G'' h3 (h2.trans h4)
   ·have:=tU (fun i=>!listed.getD i false) (fun k=>!(listed.setIfInBounds i true).getD k false) i (by simp only[hb];rfl) (by simp only[hset];simp) (fun k hk=>by
     simp only[hset];have:(k==i)=false:=by simpa using hk
     rw[this,bPv]) ops.size hi
    omega
   ·intro j oj hoj hLj k hk;simp only[hset]at hLj⊢
    by_cases hj:j=i
    ·subst hj;rw[ho,bOw]at hoj;subst hoj;rw[hdir k hk,bQv]
    ·have:(j==i)=false:=by simpa using hj
     rw[this,bPv]at hLj;have h5:listed.getD k false=true:=hcl j oj hoj hLj k hk;rw[h5,bQv]
   ·rw[cN (L':=fun k=>k==i||listed.getD k false) fun k _=>hset k]
    exact h1
  by_cases hiA:i=A
  ·subst hiA;rw[if_neg (by rw[hb];simp)]at hR
   have hset':(listed.setIfInBounds i true).getD i false=true:=by rw[hset];simp
   rw[if_pos hset']at go;rw[tV hA,if_pos rfl]at hst;have hfold:dM (fun k=>eQ ((iY i kA l).getD k default) (rs.getD k cF)) (fun k=>k==i||listed.getD k false) st ops.size=
     {dM (fun k=>eQ ((iY i kA l).getD k default) (rs.getD k cF)) (fun k=>listed.getD k false) st ops.size with fr:=iR (dM (fun k=>eQ ((iY i kA l).getD k default) (rs.getD k cF)) (fun k=>listed.getD k false) st ops.size).fr d (.ptr kA 0)}:=by
    rw[hAo]at hst;have h0: ∀X:St,step n call io 0 X (zG kA {dst:=some d,op:= .alloc z,guard:=none})=some ({X with fr:=iR X.fr d (.ptr kA 0)},{v:= .ptr kA 0}):=fun X=>rfl
    rw[h0]at hst;simp only[bOw,bO1]at hst;exact hst.1.symm
   rw[hfold]at go;have hlow':fD P I ops ops[i]=some {dst:=some d,op:= .alloc z,guard:=none}:=by rw[hlow,<-hli,hAo]
   have hdN:d<N:=by
    have:=bO4.1 hd _ (bO6 hil);rw[<-hli,hAo]at this
    simpa using this
   refine aJo hR hvk hlow' hdN ?_ go
   rw[aAc ops.size fun q hq hLq=>?_]
   ·exact hek
   ·have hqi:q≠i:=by rintro rfl;rw[hb]at hLq;cases hLq
    have hqA: ¬i∈an.getD q []:=fun h=>by
     have:=gQ han hcl q _ (bPk hq) (hcl q _ (bPk hq) hLq) i h;rw[hb]at this;cases this
    have:=bO4.1 hleft q (bPu.2 (by rw[hrl,pX,hN];exact hq))
    simp only[bP3,beq_iff_eq,hqi,false_or,bQq,bSi,hqA]at this;have hqr:q<rs.length:=by rw[hrl,pX,hN];exact hq
    rw[bP7 hqr]at this
    simpa[bO2,hqr]using this
  ·rw[tV hA,if_neg hiA,hli]at hst;have hset':(listed.setIfInBounds i true).getD A false=listed.getD A false:=by
    rw[hset];have:(A==i)=false:=by simpa using fun e=>hiA e.symm
    rw[this,bPv]
   rw[hset']at go;exact oW hcall hio hR hlow (bO4.1 hd _ (bO6 hil)) hst go
theorem aXc (hcall:lJ P call)(hio:wW P io)(hpan:aQ3 P pan)(hpin:aQ4 P pin)(hl:cU (fD P I ops) ops.toList=some l)(hd:l.all (fun o=>o.dst.all (· <N))=true)(han:aQk ops=some an)
   (hps:fP an l=some ps)   {kA:Key} (hA:A<l.length) (hAo:l.getD A default={dst:=some d,op:= .alloc z,guard:=none}) (hvk: ¬Ξ.virt kA)  (hl':l'=iY A kA l) {st1:St}    (hj:j<l.length) (hjA:j≠A)
  (hrun:iV n call io 0 (dD an j l') st=some (st1,rs)) (hck:(dS rs ps&&jT an j l' rs)=true) (hleft:oS an A kA rs=true) (hek:st.en kA=some (.box z false)) (hpj:dT n pan pin st1 (l'.getD j default)=some (v,st2)) 
     (hR0:Rel P (Ξ.add kA) B S G0 st N a0 w0) (hQ: ∀a' w' G' x,(Ex.panic v).val x->aF5 P Ξ B S G' {fr:=fun t=>if mN l' t then .tup []else st2.fr t,en:=st2.en,cnt:=st2.cnt} N (.panic v) a' w'->Below B w0 w'->Q ((Ex.panic v).toExit x) a' w'):
  wpAnyIn (Fx ro) m P .any ops Q ops.size (Array.replicate ops.size false) a0 w0:=by
 obtain⟨l1,l2⟩:=eR hl;have hN:l.length=ops.size:=by rw[l1];simp
 have hlen':l'.length=l.length:=by rw[hl',pX]
 have hget: ∀i,l'.getD i default=if i=A then zG kA (l.getD A default)else l.getD i default:=fun i=>by rw[hl'];exact tV hA i
 obtain⟨ps0,hps0,hsub0⟩:=aJq (k:=kA) hA hps;rw[<-hl']at hps0;simp only[jT,bOx,bO4,bPu,bP3]at hck;obtain⟨hok,hstill⟩:=hck;obtain⟨ps',hps',hsub⟩:=aCj (j:=j) hps0;have hok':=aAb hok fun p hp=>hsub0 p (hsub p hp)
 obtain⟨hrl,s,hrun',hsn⟩:=tT hrun;have hN':(dD an j l').length=ops.size:=by rw[sL,hlen',hN]
 rw[hN']at hrun' hsn;have hlt:=aIk han;have hw: ∀i,i<(dD an j l').length->(((dD an j l').getD i default).op.writesMem=false->(rs.getD i cF).quiet)/\ (((dD an j l').getD i default).op.readsMem=false->(rs.getD i cF).rs=[]):=
  fun i hi=>(rL (hrun'.step i (by omega))).2.2
 have hfree: ∀i k,i<k->k<ops.size-> ¬i∈an.getD k []->aH7 ((dD an j l').getD i default) ((dD an j l').getD k default) (rs.getD i cF) (rs.getD k cF):=
  fun i k hik hk ho=>aIl hps' hok' hw (fun j i hj hi=>hlt j i (by omega) hi) hik (by omega) ho
 have hjN:j<ops.size:=by omega
 have atj: ∀(L:Nat->Bool),yD ops L->(∀k,k∈an.getD j []->L k=true)->(∀k,behind an j k=true->L k=false)->
   dT n pan pin (dM (fun k=>eQ ((dD an j l').getD k default) (rs.getD k cF)) L st ops.size) (l'.getD j default)=
    some (v,{fr:=(dM (fun k=>eQ ((dD an j l').getD k default) (rs.getD k cF)) L st ops.size).fr,en:=st2.en,cnt:=st2.cnt}):=by
  intro L hcl hanc hbeh;have hb: ∀k,k<ops.size->(rs.getD k cF).bump=true->((dD an j l').getD k default).dst.isSome=true:=fun k hk=>(rL (hrun'.step k hk)).2.1
  have drop:=tS (E:=fun k=>eQ ((dD an j l').getD k default) (rs.getD k cF)) (L:=fun _=>true) (s:=st) (n:=ops.size)
   (fun a b=>a.en=b.en/\ a.cnt=b.cnt/\ ∀t∈(l'.getD j default).uses,a.fr t=b.fr t) (fun _=>⟨rfl,rfl,fun _ _=>rfl⟩) (fun a b c h k=>⟨h.1.trans k.1,h.2.1.trans k.2.1,fun t ht=>(h.2.2 t ht).trans (k.2.2 t ht)⟩) L ops.size (bOy _) (fun k hk _ hLk=>by
    refine⟨fun s=>?_,fun k2 hk2 hk2N _ hLk2 s=>?_⟩
    ·by_cases hbk:behind an j k=true
     ·have hst:=hrun'.step k hk;rw[iC (by omega),if_pos hbk]at hst
      have hr:rs.getD k cF={v:= .nilp}:=by
       simp only[aIx,step,wanted,eval,St.get,bOw,bO1]at hst
       simp at hst
       exact hst.2.symm
      rw[iC (by omega),if_pos hbk,hr]
      exact⟨rfl,rfl,fun _ _=>rfl⟩
     ·have hnot: ¬k∈an.getD j []:=fun h=>by rw[hanc k h]at hLk;cases hLk
      have h0:=hstill k (by omega)
      simp only[hbk,bO0,false_or,bQq,bSi,hnot]at h0
      split at h0
      case h_2=>cases h0
      rename_i r hr;have hr':rs.getD k cF=r:=by simp[bO2,hr]
      rw[hr'];simp only[Res.still,bOx,bRw,bQb,bRx]at h0;obtain⟨⟨q1,q2⟩,q3⟩:=h0
      refine⟨by simp only[eQ,q3,q1,W.applyAll,bRc],by simp only[eQ,q3,q2,bO0,if_false],fun t ht=>?_⟩
      simp only[eQ];rw[sY (by omega) hbk]
      refine pH fun d hd he=>?_
      subst he;simp only[fP]at hps0
      split at hps0
      case isFalse=>cases hps0
      rename_i hall;have hkj:k≠j:=fun e=>hbk (by simp[behind,e])
      have:=bO4.1 (bO4.1 hall j (bPu.2 (by omega))) k (bPu.2 (by omega))
      simp only[bP3,beq_iff_eq,hkj,false_or,hd]at this;simp only[bOx,bne_iff_ne,ne_eq,bP3,bQb,bQq,bSi,bSj]at this;rcases this.2 with h1|h1|h1
      ·exact h1 ht
      ·exact hnot h1
      ·exact hbk (by simp only[behind,bQq,bP3,bSi];exact .inr h1)
    ·have ho: ¬k∈an.getD k2 []:=fun h=>by
      have:=gQ han hcl k2 _ (bPk hk2N) (hcl k2 _ (bPk hk2N) hLk2) k h;rw[this]at hLk;cases hLk
     exact(hfree k k2 hk2 hk2N ho).comm (hb k (by omega)) (hb k2 hk2N) s)
  have e1:dM (fun k=>eQ ((dD an j l').getD k default) (rs.getD k cF)) (fun k=>true&&(L k||decide (k<ops.size))) st ops.size=st1:=by
   rw[cN (L':=fun _=>true) fun i hi=>by simp[hi],<-hrun'.fold _ (bOy _),hsn]
  have e2:dM (fun k=>eQ ((dD an j l').getD k default) (rs.getD k cF)) (fun k=>true&&L k) st ops.size=dM (fun k=>eQ ((dD an j l').getD k default) (rs.getD k cF)) L st ops.size:=by
   exact cN fun i _=>by simp
  rw[e1,e2]at drop;exact(sM hpj drop.1.symm drop.2.1.symm fun t ht=>(drop.2.2 t ht).symm).1
 have main: ∀(fuel:Nat) (listed:Array Bool) (G:Gh) (a:Act) (w:World),listed.size=ops.size->(List.range ops.size).countP (fun i=>!listed.getD i false)<=fuel->yD ops (fun i=>listed.getD i false)->(∀k,k<ops.size->behind an j k=true->listed.getD k false=false)->
   Rel P (if listed.getD A false=true then Ξ else Ξ.add kA) B S G (dM (fun k=>eQ ((dD an j l').getD k default) (rs.getD k cF)) (fun i=>listed.getD i false) st ops.size) N a w->Below B w0 w->
   wpAnyIn (Fx ro) m P .any ops Q fuel listed a w:=by
  have jready: ∀(listed:Array Bool),listed.size=ops.size->listed.getD j false=false->Region.ready .any ops listed≠[]:=by
   intro listed hsz hb hr;have: ∀i,i<ops.size->listed.getD i false=true:=by
    intro i
    induction i using Nat.strongRecOn with
    |ind i ih=>
     intro hi;cases hb:listed.getD i false with
     |true=>rfl
     |false=>
      exfalso
      have hm:i∈Region.ready .any ops listed:=by
       rw[mem_ready]
       refine⟨?_,ops[i],bPk hi,fun e he hbd=>?_⟩
       ·rw[bPc,bPk (by omega)]at hb⊢;simpa using hb
       ·have hk:e.on∈lK ops[i]:=bPt.2 ⟨e,bQi.2 ⟨by simpa using he,hbd⟩,rfl⟩
        have:=(sX han (bPk hi)).1 _ hk;exact ih _ this (by omega)
      rw[hr]at hm;simp at hm
   rw[this j hjN]at hb;cases hb
  intro fuel
  induction fuel with
  |zero=>
   intro listed G a w hsz hc hcl hbeh hR hB
   exfalso
   have hb:=hbeh j hjN (by simp[behind])
   have:=bSb (p:=fun i=>!listed.getD i false) (l:=List.range ops.size)|>.2 ⟨j,bPu.2 hjN,by simp only[hb];rfl⟩
   omega
  |succ fuel ih=>
   intro listed G a w hsz hc hcl hbeh hR hB
   refine⟨fun hr=>absurd hr (jready listed hsz (hbeh j hjN (by simp[behind]))),fun i hm=>?_⟩
   obtain⟨h0,o,ho,hready⟩:=mem_ready.1 hm;have hi:=(bQn.1 ho).1;have hoi:o=ops[i]:=by rw[bPk hi,bOw]at ho;exact ho.symm
   have hb:listed.getD i false=false:=by
    rw[bPc,bPk (by omega)]at h0⊢;simpa using h0
   have hdir: ∀k∈lK o,listed.getD k false=true:=by
    intro k hk;obtain⟨e,he,rfl⟩:=bPt.1 hk;obtain⟨he1,he2⟩:=bQi.1 he;exact hready e (by simpa using he1) he2
   have hanci: ∀k∈an.getD i [],listed.getD k false=true:=fun k hk=>gQ han hcl i o ho hdir k hk
   have hil:i<l.length:=by omega
   have hlow:=l2 i (by simpa using hi) hil
   simp only[bRr]at hlow;have hli:l.getD i default=l[i]:=by simp[bO2,hil]
   unfold wpOpIn;rw[bPk hi]
   by_cases hij:i=j
   ·subst hij;have hp:=atj (fun i=>listed.getD i false) hcl hanci (fun k hk=>by
     by_cases hkN:k<ops.size
     ·exact hbeh k hkN hk
     ·rw[bPc,Array.getElem?_eq_none (by omega)];rfl)
    rw[hget,if_neg hjA,hli]at hp;obtain⟨q1,q2⟩:=wC (ops:=ops) (ro:=ro) (m:=m) (next:=fun a w=>wpAnyIn (Fx ro) m P .any ops Q fuel (listed.setIfInBounds i true) a w) (Q:=Q) hpan hpin hR hlow hp fun a' w' G' x h1 h2 h3=>by
     refine hQ a' w' G' x h1 ?_ (hB.trans h3)
     have hun: ∀{Ga:Gh} {sa:St} {aa:Act} {wa:World},Rel P (if listed.getD A false=true then Ξ else Ξ.add kA) B S Ga sa N aa wa->Rel P Ξ B S Ga sa N aa wa:=fun h=>by
      split at h
      ·exact h
      ·exact h.unadd
     replace h2:=hun h2
     have hfr:st2.fr=st1.fr:=(sM hpj rfl rfl fun _ _=>rfl).2
     refine⟨a'.tmps.mapIdx fun t y=>if mN l' t then undef else y,?_,fun h=>(by cases h),fun t ht=>?_⟩
     ·refine⟨h2.size,by simpa using h2.tmps,fun t=>?_,h2.marks,h2.ents,h2.freshEn,h2.freshG,h2.own,h2.extra,h2.round,h2.defs,h2.virt⟩
      have hfrm:=h2.frame t
      simp only at hfrm⊢
      by_cases hdt:mN l' t=true
      ·rw[if_pos hdt];have:(a'.tmps.mapIdx fun t y=>if mN l' t then undef else y).getD t undef=undef:=by
        simp only[bPc,bR5];cases a'.tmps[t]? with
        |none=>rfl
        |some y=>simp[hdt]
       rw[this];exact .tup [] #[] rfl (fun i hi=>by simp at hi)
      ·rw[if_neg hdt];have e1:(a'.tmps.mapIdx fun t y=>if mN l' t then undef else y).getD t undef=a'.tmps.getD t undef:=by
        simp only[bPc,bR5];cases a'.tmps[t]? with
        |none=>rfl
        |some y=>simp[hdt]
       have hne: ∀k,k<ops.size->((dD an i l').getD k default).dst≠some t:=by
        intro k hk he
        by_cases hbk:behind an i k=true
        ·rw[iC (by omega),if_pos hbk]at he
         cases he
        ·rw[sY (by omega) hbk]at he
         refine hdt ?_
         simp only[mN,bRy,beq_iff_eq];exact⟨l'[k]'(by omega),bO6 (by omega),by simpa[bO2,show k<l'.length by omega]using he⟩
       rw[aBu (r:=fun k=>rs.getD k cF) ops.size hne]at hfrm
       have e2:st2.fr t=st.fr t:=by
        rw[hfr,<-hsn,hrun'.fold _ (bOy _)];exact aBu (r:=fun k=>rs.getD k cF) ops.size hne
       rw[e1,e2];exact hfrm
     ·simp only at ht
      split at ht
      ·cases ht
      ·rename_i hdt;simp only[bPc,bR5];cases a'.tmps[t]? with
       |none=>rfl
       |some y=>simp[hdt]
    simp only[q1,if_true];exact q2
   ·have hbi: ¬behind an j i=true:=fun h=>by
     simp only[behind,bQq,bP3,beq_iff_eq,bSi]at h;rcases h with h|h
     ·exact hij h
     ·have:=hanci j h;rw[hbeh j hjN (by simp[behind])]at this;cases this
    have hst:=aBt hrun' (ord:=fun i j=>j<ops.size/\ i∈an.getD j []) (fun i j h=>hlt j i h.1 h.2) (fun i j hij hj ho=>hfree i j hij hj fun h=>ho ⟨hj,h⟩) (L:=fun i=>listed.getD i false)
     (fun j hj hLj i hord=>gQ han hcl j _ (bPk hj) (hcl j _ (bPk hj) hLj) i hord.2) hi hb
     (fun k hk=>hanci k hk.2)
    rw[iC (by omega),if_neg hbi]at hst
    have hset: ∀k,(listed.setIfInBounds i true).getD k false=(k==i||listed.getD k false):=by
     intro k
     by_cases hk:k=i
     ·subst hk;simp[show k<listed.size by omega]
     ·rw[getD_set_ne false fun e=>hk e.symm]
      have:(k==i)=false:=by simpa using hk
      rw[this,bPv]
    have go: ∀a' w' G',Rel P (if(listed.setIfInBounds i true).getD A false=true then Ξ else Ξ.add kA) B S G' (dM (fun k=>eQ ((dD an j l').getD k default) (rs.getD k cF)) (fun k=>k==i||listed.getD k false) st ops.size) N a' w'->Below B w w'->wpAnyIn (Fx ro) m P .any ops Q fuel (listed.setIfInBounds i true) a' w':=by
     intro a' w' G' h1 h2
     refine ih _ G' a' w' (by simpa using hsz) ?_ ?_ ?_ ?_ (hB.trans h2)
     ·have:=tU (fun i=>!listed.getD i false) (fun k=>!(listed.setIfInBounds i true).getD k false) i (by simp only[hb];rfl) (by simp only[hset];simp) (fun k hk=>by
       simp only[hset];have:(k==i)=false:=by simpa using hk
       rw[this,bPv]) ops.size hi
      omega
     ·intro j oj hoj hLj k hk;simp only[hset]at hLj⊢
      by_cases hj:j=i
      ·subst hj;rw[ho,bOw]at hoj;subst hoj;rw[hdir k hk,bQv]
      ·have:(j==i)=false:=by simpa using hj
       rw[this,bPv]at hLj;have h5:listed.getD k false=true:=hcl j oj hoj hLj k hk;rw[h5,bQv]
     ·intro k hkN hk;rw[hset];have:(k==i)=false:=by
       simp only[beq_eq_false_iff_ne,ne_eq]
       rintro rfl
       exact hbi hk
      rw[this,bPv];exact hbeh k hkN hk
     ·rw[cN (L':=fun k=>k==i||listed.getD k false) fun k _=>hset k]
      exact h1
    by_cases hiA:i=A
    ·subst hiA;rw[if_neg (by rw[hb];simp)]at hR
     have hset':(listed.setIfInBounds i true).getD i false=true:=by rw[hset];simp
     rw[if_pos hset']at go;have hnl:zF an j l' i=false:=by
      unfold zF;rw[hget,if_pos rfl];simp only[zG,bQc]
     rw[if_neg (by rw[hnl];simp),hget,if_pos rfl]at hst
     have hfold:dM (fun k=>eQ ((dD an j l').getD k default) (rs.getD k cF)) (fun k=>k==i||listed.getD k false) st ops.size=
       {dM (fun k=>eQ ((dD an j l').getD k default) (rs.getD k cF)) (fun k=>listed.getD k false) st ops.size with fr:=iR (dM (fun k=>eQ ((dD an j l').getD k default) (rs.getD k cF)) (fun k=>listed.getD k false) st ops.size).fr d (.ptr kA 0)}:=by
      rw[hAo]at hst;have h0: ∀X:St,step n call io 0 X (zG kA {dst:=some d,op:= .alloc z,guard:=none})=some ({X with fr:=iR X.fr d (.ptr kA 0)},{v:= .ptr kA 0}):=fun X=>rfl
      rw[h0]at hst;simp only[bOw,bO1]at hst;exact hst.1.symm
     rw[hfold]at go;have hlow':fD P I ops ops[i]=some {dst:=some d,op:= .alloc z,guard:=none}:=by rw[hlow,<-hli,hAo]
     have hdN:d<N:=by
      have:=bO4.1 hd _ (bO6 hil);rw[<-hli,hAo]at this
      simpa using this
     have hrl':rs.length=ops.size:=by rw[hrl,sL,hlen',hN]
     refine aJo hR hvk hlow' hdN ?_ go
     rw[aAc ops.size fun q hq hLq=>?_]
     ·exact hek
     ·have hqi:q≠i:=by rintro rfl;rw[hb]at hLq;cases hLq
      have hqA: ¬i∈an.getD q []:=fun h=>by
       have:=gQ han hcl q _ (bPk hq) (hcl q _ (bPk hq) hLq) i h;rw[hb]at this;cases this
      have:=bO4.1 hleft q (bPu.2 (by omega))
      simp only[bP3,beq_iff_eq,hqi,false_or,bQq,bSi,hqA]at this;have hqr:q<rs.length:=by omega
      rw[bP7 hqr]at this
      simpa[bO2,hqr]using this
    ·have hset':(listed.setIfInBounds i true).getD A false=listed.getD A false:=by
      rw[hset];have:(A==i)=false:=by simpa using fun e=>hiA e.symm
      rw[this,bPv]
     rw[hset']at go;rw[hget,if_neg hiA,hli]at hst
     by_cases hlo:zF an j l' i=true
     ·rw[if_pos hlo]at hst;exact aJk hR hlow (bO4.1 hd _ (bO6 hil)) (by simp only[zF,bOx,hget,if_neg hiA,hli]at hlo⊢;exact⟨hlo.1.2,hlo.2⟩) hst go
     ·rw[if_neg hlo]at hst;exact oW hcall hio hR hlow (bO4.1 hd _ (bO6 hil)) hst go
 refine main ops.size (Array.replicate ops.size false) G0 a0 w0 (by simp) (bPb bR6 (by simp)) ?_ ?_ ?_ (Below.refl _ _)
 ·intro j o ho hL;simp[bQr]at hL
  split at hL<;>simp at hL
 ·intro k hk _;simp[bPc,bQr,hk]
 ·rw[cN (L':=fun _=>false) fun i _=>by simp[bQr];split<;>simp]
  have: ∀(k:Nat),dM (fun k=>eQ ((dD an j l').getD k default) (rs.getD k cF)) (fun _=>false) st k=st:=by
   intro k;induction k with
   |zero=>rfl
   |succ k ih=>simp only[dM,bO0,if_false];exact ih
  have hf: ¬(Array.replicate ops.size false).getD A false=true:=by
   rw[bPc,bQr]
   split<;>simp
  rw[this,if_neg hf];exact hR0
end
end Go.Abs
