/- The interpreter of the translated code, and its proof: part D. -/
import Derived.Test.YthpmfghgoabnhaaGreatHxA
import Derived.Test.YthpmfghgoabnhaaGreatHxC
import Derived.IntWalk
set_option linter.all false
open Bool renaming and_false → bYp, and_true → bY6, false_and → bX6, false_eq_true → bXc, not_false → bXz, not_true → bXp, true_and → bX0
open List renaming all_cons → bXe, append_nil → bYx, cons_append → bZg, drop_eq_getElem_cons → bX7, flatMap_cons → bZ3, flatMap_nil → bZw, getD_cons_zero → bZ8, getElem?_eq_getElem → bYs, getElem?_eq_none → cAb, length_cons → bXu, length_map → bXj, length_nil → bYb, map_cons → bYa, map_nil → bXv, nil_append → bYw, take_zero → bY9
open Nat renaming add_zero → bY2, le_refl → bXd, zero_add → bX2
open Option renaming map_eq_some_iff → bXq, map_some → bX9
open Option.some renaming injEq → bXa
namespace Go.Abs
def CLe (c c':cR):Prop:= ∀f a r,c f a=some r->c' f a=some r
def ILe (i j:Inl):Prop:=(∀f a s r,i.fn f a s=some r->j.fn f a s=some r)/\ ∀k a s r,i.yld k a s=some r->j.yld k a s=some r
def XLe (x y:cD->St->Option (Ex×St)):Prop:= ∀c s r,x c s=some r->y c s=some r
theorem aV5 {n:Nat}{c c':cR}(h:CLe c c'){me d g:Nat}{en:En}{get:Opd->Val}{op:LOp}{r:Res}(he:eval n c me d g en get op=some r):eval n c' me d g en get op=some r:=by
 by_cases hc: ∃f args,op= .call f args
 ·obtain⟨f,args,rfl⟩:=hc;simp only[eval]at he⊢
  split at he
  case h_2=>cases he
  split at he
  case h_2=>cases he
  split at he
  case h_2=>cases he
  rename_i hv;rw[h _ _ _ hv];exact he
 ·cases op<;>first|exact absurd ⟨_,_,rfl⟩ hc|exact he
theorem aKe {i j:Inl}(h:ILe i j){f:Val}{a:List Val}{s:St}{r:Val×St}(he:i.call f a s=some r):j.call f a s=some r:=by
 cases f<;>simp only[Inl.call,reduceCtorEq]at he⊢
 ·exact h.1 _ _ _ _ he
 ·exact h.2 _ _ _ _ he
theorem aIo {n:Nat}{c c':cR}{i j:Inl}(hc:CLe c c')(hi:ILe i j){st:St}{o:bH}{r:St×Res}(h:step n c i 0 st o=some r):step n c' j 0 st o=some r:=by
 obtain⟨dst,op,g⟩:=o;simp only[step]at h⊢
 split at h
 ·exact h
 ·cases op with
  |icall f args=>
   simp only at h⊢
   split at h
   case h_2=>cases h
   rename_i hv;rw[aKe hi hv];exact h
  |_=>
   simp only at h⊢
   split at h
   case h_2=>cases h
   rename_i hv;rw[aV5 hc hv];exact h
 ·cases h
theorem aDx {n:Nat}{c c':cR}{i j:Inl}(hc:CLe c c')(hi:ILe i j): ∀(l:List bH) {st r:St},oS n c i 0 l st=some r->oS n c' j 0 l st=some r
 |[],_,_,h=>h
 |o::l,st,r,h=>by
  simp only[oS]at h⊢
  split at h
  case h_2=>cases h
  rename_i hs;rw[aIo hc hi hs];exact aDx hc hi l h
theorem aDy {n:Nat}{c c':cR}{i j:Inl}(hc:CLe c c')(hi:ILe i j): ∀(l:List bH) {st:St} {r:St×List Res},oT n c i 0 l st=some r->oT n c' j 0 l st=some r
 |[],_,_,h=>h
 |o::l,st,r,h=>by
  simp only[oT]at h⊢
  split at h
  case h_2=>cases h
  rename_i hs;rw[aIo hc hi hs]
  split at h
  case h_2=>cases h
  rename_i hr;simp only[aDy hc hi l hr];exact h
theorem tG {x y:cD->St->Option (Ex×St)}(h:XLe x y){lf:aM}{n:Nat}{a:List Val}{r:Val}(hb:gR lf n x a=some r):gR lf n y a=some r:=by
 simp only[gR]at hb⊢
 split at hb
 case h_2=>cases hb
 rename_i hx;rw[h _ _ _ hx];exact hb
theorem aIp {a b a' b':Option Val}{r:Val}(ha: ∀r,a=some r->a'=some r)(hb: ∀r,b=some r->b'=some r)(h:iK a b=some r):iK a' b'=some r:=by
 unfold iK at h
 split at h<;>first|(cases h;done)|(rw[ha _ rfl,hb _ rfl];exact h)
theorem aIq {L:cV}{x y:cD->St->Option (Ex×St)}(h:XLe x y){n:Nat}:CLe (kC L n x) (kC L n y):=by
 intro f a r hc;simp only[kC]at hc⊢
 split at hc
 ·cases hc
 split at hc
 case isFalse=>cases hc
 rename_i hl;rw[if_pos hl]
 split at hc
 ·rename_i ha;rw[if_pos ha];exact aIp (fun _=>tG h) (fun _=>tG h) hc
 ·rename_i ha;rw[if_neg ha];exact tG h hc
theorem aMo {L:cV}{x y:cD->St->Option (Ex×St)}(h:XLe x y):ILe (qE L x) (qE L y):=by
 refine⟨fun f a s r hc=>?_,fun k a s r hc=>?_⟩
 ·simp only[qE,pI]at hc⊢
  split at hc
  ·cases hc
  split at hc
  case isFalse=>cases hc
  rename_i hl;rw[if_pos hl]
  split at hc
  ·rename_i ha;rw[if_pos ha];obtain⟨v,hv,rfl⟩:=bXq.1 hc;rw[aIp (fun _=>tG h) (fun _=>tG h) hv];rfl
  ·rename_i ha;rw[if_neg ha]
   split at hc
   case h_2=>cases hc
   rename_i hx;rw[h _ _ _ hx];exact hc
 ·simp only[qE,aAt]at hc⊢
  split at hc
  case h_2=>cases hc
  split at hc
  case isFalse=>cases hc
  rename_i hl;rw[if_pos hl]
  split at hc
  case h_2=>cases hc
  rename_i hx;rw[h _ _ _ hx]
  split at hc
  case h_2=>cases hc
  rename_i hk;simp only[hk]
  split at hc
  case h_2=>cases hc
  rename_i hx2;simp only[h _ _ _ hx2];exact hc
theorem aPj {L:cV}{x y:cD->St->Option (Ex×St)}(h:XLe x y){g:Val}{ps:List Nat}{a b:cD}{st:St}{r:Ex×St}(hr:oU L x g ps a b st=some r):oU L y g ps a b st=some r:=by
 unfold oU at hr⊢
 split at hr
 case h_2=>cases hr
 simp only at hr⊢
 split at hr
 case h_2=>cases hr
 rename_i hx;have:=(aMo h (L:=L)).1 _ _ _ _ hx;simp only[qE]at this;rw[this];exact hr
theorem aV6 (L:cV): ∀n,XLe (exec L n) (exec L (n+1)):=by
 intro n
 induction n with
 |zero=>intro c s r h;simp[exec]at h
 |succ n ih=>
  intro c s r h;have hc:=aIq ih (L:=L) (n:=8);have hi:=aMo ih (L:=L);cases c with
  |skip=>exact h
  |ops l=>
   rw[exec]at h⊢;obtain⟨st,hs,rfl⟩:=bXq.1 h;rw[aDx hc hi l hs];rfl
  |draw l ps=>
   rw[exec]at h⊢
   split at h
   case h_2=>cases h
   rename_i hs;rw[aDy hc hi l hs];exact h
  |seq a b=>
   rw[exec]at h⊢;cases hx:exec L n a s with
   |none=>rw[hx]at h;cases h
   |some p=>
    obtain⟨e,st⟩:=p;rw[hx]at h;rw[ih _ _ _ hx];cases e with
    |normal=>exact ih _ _ _ h
    |exit i=>exact h
    |ret=>exact h
  |cond z a b=>
   rw[exec]at h⊢
   split at h
   ·exact ih _ _ _ h
   ·exact ih _ _ _ h
   ·cases h
  |block id b=>
   rw[exec]at h⊢;cases hx:exec L n b s with
   |none=>rw[hx]at h;cases h
   |some p=>
    obtain⟨e,st⟩:=p;rw[hx]at h;rw[ih _ _ _ hx];exact h
  |loop b=>
   rw[exec]at h⊢;cases hx:exec L n b s with
   |none=>rw[hx]at h;cases h
   |some p=>
    obtain⟨e,st⟩:=p;rw[hx]at h;rw[ih _ _ _ hx];cases e with
    |normal=>exact ih _ _ _ h
    |exit i=>exact h
    |ret=>exact h
  |exit i=>exact h
  |ret=>exact h
  |rangeF g ps a b=>
   rw[exec]at h⊢;exact aPj ih h
theorem bBx (L:cV){n m:Nat}(h:n<=m):XLe (exec L n) (exec L m):=by
 induction h with
 |refl=>intro c s r h;exact h
 |step _ ih=>intro c s r h;exact aV6 L _ _ _ _ (ih _ _ _ h)
theorem aY1 {L:cV}{n m:Nat}(h:n<=m){f:Nat}{a:List Val}{r:Val}(hr:pM L n f a=some r):pM L m f a=some r:=aIq (bBx L h) _ _ _ hr
end Go.Abs
namespace Go.Abs
def PC (L:cV)(f:Nat)(args:List Val)(r:Val):Prop:= ∃n0,∀n,n0<=n->pM L n f args=some r
def Ev (L:cV)(c:cD)(st:St)(e:Ex)(st':St):Prop:= ∃n0,∀n,n0<=n->exec L n c st=some (e,st')
def WIn (L:cV)(f:Val)(args:List Val)(en:En)(cnt:Nat->Nat->Nat)(Q:Val->En->(Nat->Nat->Nat)->Prop):Prop:=
 ∃v en' cnt',(∃n0,∀n,n0<=n-> ∀fr,(qE L (exec L n)).call f args ⟨fr,en,cnt⟩=some (v,⟨fr,en',cnt'⟩))/\ Q v en' cnt'
theorem WIn.mono {L:cV}{f:Val}{args:List Val}{en:En}{cnt:Nat->Nat->Nat}{Q R:Val->En->(Nat->Nat->Nat)->Prop}
  (h:WIn L f args en cnt Q) (k: ∀v en' cnt',Q v en' cnt'->R v en' cnt'):WIn L f args en cnt R:=by
 obtain⟨v,en',cnt',h1,h2⟩:=h;exact⟨v,en',cnt',h1,k _ _ _ h2⟩
theorem PC.det {L:cV}{f:Nat}{args:List Val}{r s:Val}(h:PC L f args r)(k:PC L f args s):s=r:=by
 obtain⟨n,h⟩:=h;obtain⟨m,k⟩:=k;have h1:=h (max n m) (by omega);have h2:=k (max n m) (by omega)
 rw[h1]at h2;cases h2;rfl
theorem PC.is {L:cV}{f:Nat}{args:List Val}{r s:Val}(h:PC L f args r):PC L f args s↔s=r:=
 ⟨fun k=>h.det k,fun e=>e▸h⟩
def bE6 :cR:=fun _ _=>none
def snapD :Nat->En->Val->Option (Val×List Key)
 |0,_,_=>none
 |n+1,en,v=>
  match v with
  | .ptr k off=>match en k with
   |some (.box cs _)=>match dO (snapD n en) cs with
    |some rs=>some (.fp (rs.map (·.1)) off,k::rs.flatMap (·.2))
    |none=>none
   |_=>none
  | .ep k i off=>match en k with
   |some (.blk _ xs _)=>match xs[i]? with
    |some x=>some (.fp x.cells off,[k])
    |none=>none
   |_=>none
  | .bl k off len=>match en k with
   |some (.blk _ xs _)=>if off+len<=xs.length then some (.fz ((xs.drop off).take len),[k])else none
   |_=>none
  | .mp k=>match en k with
   |some (.map ks vs _)=>some (.fm ks vs,[k])
   |_=>none
  | .yld _| .it _=>none
  | .fn f a b=>match dO (snapD n en) a with
   |some x=>match dO (snapD n en) b with
    |some y=>some (.fn f (x.map (·.1)) (y.map (·.1)),x.flatMap (·.2)++y.flatMap (·.2))
    |none=>none
   |none=>none
  | .ifc t v=>match snapD n en v with
   |some r=>some (.ifc t r.1,r.2)
   |none=>none
  | .agg cs=>match dO (snapD n en) cs with
   |some rs=>some (.agg (rs.map (·.1)),rs.flatMap (·.2))
   |none=>none
  | .tup vs=>match dO (snapD n en) vs with
   |some rs=>some (.tup (rs.map (·.1)),rs.flatMap (·.2))
   |none=>none
  |v=>some (v,[])
theorem aFw {α β:Type}{f g:α->Option β}(h: ∀x y,f x=some y->g x=some y): ∀{l:List α} {r:List β},dO f l=some r->dO g l=some r:=by
 intro l
 induction l with
 |nil=>intro r h';exact h'
 |cons x xs ih=>
  intro r h';simp only[dO]at h'⊢
  split at h'
  ·rename_i y hy
   split at h'
   ·rename_i ys hys;rw[h x y hy,ih hys];exact h'
   ·cases h'
  ·cases h'
theorem wH (en:En): ∀(n:Nat) (v:Val) (r:Val×List Key),snapD n en v=some r-> ∀m,n<=m->snap m en v=some r:=by
 intro n
 induction n with
 |zero=>intro v r h;simp[snapD]at h
 |succ n ih=>
  intro v r h m hm;obtain⟨m,rfl⟩: ∃k,m=k+1:=⟨m-1,by omega⟩
  have hl: ∀{l:List Val} {rs:List (Val×List Key)},dO (snapD n en) l=some rs->dO (snap m en) l=some rs:=
   fun h=>aFw (fun x y hx=>ih x y hx m (by omega)) h
  cases v with
  |ptr k off=>
   simp only[snapD]at h;simp only[snap]
   split at h
   ·rename_i hk
    split at h
    ·rename_i hrs;simp only[bXa]at h;subst h;simp only[hk,hl hrs,Option.map]
    ·cases h
   ·cases h
  |fn f a b=>
   simp only[snapD]at h;simp only[snap]
   split at h
   ·rename_i hx
    split at h
    ·rename_i hy;simp only[bXa]at h;subst h;simp only[hl hx,hl hy,Option.map]
    ·cases h
   ·cases h
  |ifc t v=>
   simp only[snapD]at h;simp only[snap]
   split at h
   ·rename_i hx;simp only[bXa]at h;subst h;simp only[ih _ _ hx m (by omega),Option.map]
   ·cases h
  |agg cs=>
   simp only[snapD]at h;simp only[snap]
   split at h
   ·rename_i hx;simp only[bXa]at h;subst h;simp only[hl hx,Option.map]
   ·cases h
  |tup vs=>
   simp only[snapD]at h;simp only[snap]
   split at h
   ·rename_i hx;simp only[bXa]at h;subst h;simp only[hl hx,Option.map]
   ·cases h
  |_=>exact h
def cT (d g:Nat)(en:En)(get:Opd->Val):LOp->Option Res
 | .bslice len size z parts=>
  if len*size<=16777216 then
   match dO (fun p=>match snapD 8 en (get p.2)with|some r=>some ((p.1,r.1.wk1),r.2)|none=>none) parts with
   |some ps=>match fI (List.replicate len (kN size z false)) size (ps.map (·.1))with
    |some xs=>some {v:= .cl xs,ws:=(ps.flatMap (·.2)).map .frz,rs:=(ps.flatMap (·.2)).map .val}
    |none=>none
   |none=>none
  else none
 | .store m a x=>
  let v:=get x
  if v.one=true/\ v.cells.length=m then
   match get a with
   | .ptr k off=>match en k with
    |some (.box cs false)=>if off+m<=cs.length then some {v:= .tup [],ws:=[.cells k off v.cells],rs:=[.flag k]}else none
    |_=>none
   | .ep k i off=>match en k with
    |some (.blk _ xs false)=>match xs[i]? with
     |some y=>if off+m<=y.cells.length then
       match snapD 8 en v with
       |some (v',ks)=>if v'.one=true/\ v'.cells.length=m/\ ks.all (fun k'=>decide (k'≠k))=true then some {v:= .tup [],ws:=ks.map .frz++[.elem k i off v'.wk1.cells],rs:= .val k:: .flag k::ks.map .val}else none
       |none=>none
      else none
     |none=>none
    |_=>none
   |_=>none
  else none
 | .call _ _| .icall _ _=>none
 |op=>eval 8 bE6 0 d g en get op
theorem aY2 {d g:Nat}{en:En}{get:Opd->Val}{op:LOp}{r:Res}(h:cT d g en get op=some r)(call:cR)(n:Nat)(hn:8<=n):
  eval n call 0 d g en get op=some r:=by
 cases op with
 |bslice len size z parts=>
  simp only[cT]at h;simp only[eval]
  split at h
  ·rename_i hc;rw[if_pos hc]
   split at h
   ·rename_i ps hps;have:dO (fun p=>(snap n en (get p.2)).map fun r=>((p.1,r.1.wk1),r.2)) parts=some ps:=by
     refine aFw (fun x y hx=>?_) hps
     split at hx
     ·rename_i r hr;simp only[bXa]at hx;subst hx;rw[wH en 8 _ _ hr n hn];rfl
     ·cases hx
    rw[this];exact h
   ·cases h
  ·cases h
 |store m a x=>
  simp only[cT]at h;simp only[eval]
  split at h
  ·rename_i hc;rw[if_pos hc]
   split at h
   ·rename_i hg;simp only[hg];exact h
   ·rename_i hg;simp only[hg]
    split at h
    ·rename_i he;simp only[he]
     split at h
     ·rename_i hy;simp only[hy]
      split at h
      ·rename_i hl;rw[if_pos hl]
       split at h
       ·rename_i hs;simp only[wH en 8 _ _ hs n hn];exact h
       ·cases h
      ·cases h
     ·cases h
    ·cases h
   ·cases h
  ·cases h
 |call f a=>simp[cT]at h
 |icall f a=>simp[cT]at h
 |_=>exact h
def WOp (L:cV)(d g:Nat)(en:En)(get:Opd->Val)(op:LOp)(K:Res->Prop):Prop:=
 match op with
 | .call f args=>match get f with
  | .fn f a b=>match dO (snapD 8 en) (a++args.map get++b)with
   |some rs=> ∃r,PC L f (rs.map (·.1.wk1)) r/\ K (fD 0 d g r (rs.flatMap (·.2)))
   |none=>False
  |_=>False
 |op=>match cT d g en get op with
  |some r=>K r
  |none=>False
theorem bE7 {L:cV}{d g:Nat}{en:En}{get:Opd->Val}{op:LOp}{K:Res->Prop}(h:WOp L d g en get op K):
  ∃r,(∃n0,∀n,n0<=n->eval 8 (pM L n) 0 d g en get op=some r)/\ K r:=by
 have oth:(match cT d g en get op with|some r=>K r|none=>False)-> ∃r,(∃n0,∀n,n0<=n->eval 8 (pM L n) 0 d g en get op=some r)/\ K r:=by
  intro h
  split at h
  ·rename_i r hr;exact⟨r,⟨0,fun n _=>aY2 hr _ 8 (bXd _)⟩,h⟩
  ·exact h.elim
 cases op with
 |call f args=>
  simp only[WOp]at h
  split at h
  ·rename_i f' a b hf
   split at h
   ·rename_i rs hrs;obtain⟨r,⟨n1,h1⟩,hk⟩:=h
    refine⟨_,⟨n1,fun n hn=>?_⟩,hk⟩
    have:dO (fun x=>snap 8 en x) (a++args.map get++b)=some rs:=aFw (fun x y hx=>wH en 8 x y hx 8 (bXd _)) hrs
    simp only[eval,hf,this,h1 n (by omega)]
   ·exact h.elim
  ·exact h.elim
 |_=>exact oth h
def mX (L:cV)(st:St)(o:bH)(K:St->Res->Prop):Prop:=
 match wanted st.fr o.guard with
 |some true=>match o.op with
  | .icall f args=>WIn L (St.get st.fr f) (args.map (St.get st.fr)) st.en st.cnt fun v en' cnt'=>K ⟨fT st.fr o.dst v,en',cnt'⟩ {v,mem:=some (en',cnt'),unch:=fun k=>aE2 (st.en k) (en' k)}
  |op=>WOp L (o.dst.getD 0) (st.cnt 0 (o.dst.getD 0)) st.en (St.get st.fr) op fun r=>(r.bump&&o.dst.isNone)=false/\
    K ⟨fT st.fr o.dst r.v,W.applyAll st.en r.ws,if r.bump then aQ st.cnt 0 (o.dst.getD 0) (st.cnt 0 (o.dst.getD 0)+1)else st.cnt⟩ r
 |some false=>K ⟨fT st.fr o.dst (.tup []),st.en,st.cnt⟩ {v:= .tup []}
 |none=>False
def jC (L:cV):List bH->St->(St->Prop)->Prop
 |[],st,Q=>Q st
 |o::l,st,Q=>mX L st o fun st' _=>jC L l st' Q
def aAa (L:cV):List bH->St->(St->List Res->Prop)->Prop
 |[],st,Q=>Q st []
 |o::l,st,Q=>mX L st o fun st' r=>aAa L l st' fun st'' rs=>Q st'' (r::rs)
def pJ (cnt:Nat->Nat->Nat):Key:=⟨1,0,cnt 1 0⟩
def Wp (L:cV):cD->St->(Ex->St->Prop)->Prop
 | .skip,st,Q=>Q .normal st
 | .ops l,st,Q=>jC L l st (Q .normal)
 | .draw l pairs,st,Q=>if pairs=[]then jC L l st (Q .normal)else aAa L l st fun st' rs=>nX rs pairs=true/\ Q .normal st'
 | .seq a b,st,Q=>Wp L a st fun e st'=>match e with
  | .normal=>Wp L b st' Q
  | .exit i=>Q (.exit i) st'
  | .ret=>Q .ret st'
 | .cond x a b,st,Q=>match St.get st.fr x with
  | .bool t=>if t=true then Wp L a st Q else Wp L b st Q
  |_=>False
 | .block id b,st,Q=>Wp L b st fun e st'=>match e with
  | .exit id'=>if id'=id then Q .normal st' else Q (.exit id') st'
  | .normal=>Q .normal st'
  | .ret=>Q .ret st'
 | .loop b,st,Q=> ∃e st',Ev L (.loop b) st e st'/\ Q e st'
 | .exit id,st,Q=>Q (.exit id) st
 | .ret,st,Q=>Q .ret st
 | .rangeF g ps a b,st,Q=>
  match St.get st.fr g with
  | .fn f x y=>WIn L (.fn f x y) [.yld (pJ st.cnt)] (st.en.set (pJ st.cnt) (some (.loop st.fr ps a b .ready))) (aQ st.cnt 1 0 (st.cnt 1 0+1)) fun _ en' cnt'=>
   match en' (pJ st.cnt)with
   |some (.loop _ _ _ _ .ready)=>Q .normal ⟨st.fr,en'.set (pJ st.cnt) none,cnt'⟩
   |some (.loop _ _ _ _ (.done e))=>Q e ⟨st.fr,en'.set (pJ st.cnt) none,cnt'⟩
   |_=>False
  |_=>False
theorem bBy {n:Nat}{call:cR}{io:Inl}{st:St}{o:bH}{r:Res}(hne: ∀f a,o.op≠ .icall f a)(hw:wanted st.fr o.guard=some true)
  (he:eval n call 0 (o.dst.getD 0) (st.cnt 0 (o.dst.getD 0)) st.en (St.get st.fr) o.op=some r) (hb:(r.bump&&o.dst.isNone)=false):
  step n call io 0 st o=some (⟨fT st.fr o.dst r.v,W.applyAll st.en r.ws,if r.bump then aQ st.cnt 0 (o.dst.getD 0) (st.cnt 0 (o.dst.getD 0)+1)else st.cnt⟩,r):=by
 obtain⟨dst,op,guard⟩:=o
 simp only at hw he hb hne
 cases op with
 |icall f a=>exact absurd rfl (hne _ _)
 |_=>simp only[step,hw,he,hb,bXc,if_false]
theorem aRi {L:cV}{st:St}{o:bH}{K:St->Res->Prop}(h:mX L st o K):
  ∃st' r,(∃n0,∀n,n0<=n->step 8 (pM L n) (qE L (exec L n)) 0 st o=some (st',r))/\ K st' r:=by
 unfold mX at h
 split at h
 ·rename_i hw
  split at h
  ·rename_i f args hop;obtain⟨v,en',cnt',⟨n0,hn⟩,hk⟩:=h
   refine⟨_,_,⟨n0,fun n hn'=>?_⟩,hk⟩
   simp only[step,hw,hop,hn n hn']
  ·rename_i op hne;obtain⟨r,⟨n0,hn⟩,hb,hk⟩:=bE7 h;exact⟨_,r,⟨n0,fun n hn'=>bBy (fun f a=>hne f a) hw (hn n hn') hb⟩,hk⟩
 ·rename_i hw;exact⟨_,_,⟨0,fun n _=>by simp only[step,hw]⟩,h⟩
 ·exact h.elim
theorem aY3 {L:cV}(l:List bH): ∀{st:St} {Q:St->Prop},jC L l st Q->
  ∃st',(∃n0,∀n,n0<=n->oS 8 (pM L n) (qE L (exec L n)) 0 l st=some st')/\ Q st':=by
 induction l with
 |nil=>intro st Q h;exact⟨st,⟨0,fun n _=>rfl⟩,h⟩
 |cons o l ih=>
  intro st Q h;obtain⟨st1,r,⟨n1,h1⟩,hk⟩:=aRi h;obtain⟨st2,⟨n2,h2⟩,hq⟩:=ih hk;exact⟨st2,⟨max n1 n2,fun n hn=>by simp only[oS,h1 n (by omega),h2 n (by omega)]⟩,hq⟩
theorem bE8 {L:cV}(l:List bH): ∀{st:St} {Q:St->List Res->Prop},aAa L l st Q->
  ∃st' rs,(∃n0,∀n,n0<=n->oT 8 (pM L n) (qE L (exec L n)) 0 l st=some (st',rs))/\ Q st' rs:=by
 induction l with
 |nil=>intro st Q h;exact⟨st,[],⟨0,fun n _=>rfl⟩,h⟩
 |cons o l ih=>
  intro st Q h;obtain⟨st1,r,⟨n1,h1⟩,hk⟩:=aRi h;obtain⟨st2,rs,⟨n2,h2⟩,hq⟩:=ih hk;exact⟨st2,r::rs,⟨max n1 n2,fun n hn=>by simp only[oT,h1 n (by omega),h2 n (by omega)]⟩,hq⟩
theorem aCr {n:Nat}{call:cR}{io:Inl}(l:List bH): ∀{st st':St},oS n call io 0 l st=some st'-> ∃rs,oT n call io 0 l st=some (st',rs):=by
 induction l with
 |nil=>intro st st' h;simp only[oS,bXa]at h;subst h;exact⟨[],rfl⟩
 |cons o l ih=>
  intro st st' h;simp only[oS]at h
  split at h
  ·rename_i st1 r hs;obtain⟨rs,hr⟩:=ih h;exact⟨r::rs,by simp only[oT,hs,hr]⟩
  ·cases h
theorem aMp {L:cV}(c:cD): ∀{st:St} {Q:Ex->St->Prop},Wp L c st Q-> ∃e st',Ev L c st e st'/\ Q e st':=by
 induction c with
 |skip=>intro st Q h;exact⟨.normal,st,⟨1,fun n hn=>by obtain⟨m,rfl⟩: ∃m,n=m+1:=⟨n-1,by omega⟩;rfl⟩,h⟩
 |ops l=>
  intro st Q h;obtain⟨st',⟨n0,h0⟩,hq⟩:=aY3 l h
  refine⟨.normal,st',⟨n0+1,fun n hn=>?_⟩,hq⟩
  obtain⟨m,rfl⟩: ∃m,n=m+1:=⟨n-1,by omega⟩
  have:=h0 m (by omega)
  simp only[pM]at this;simp only[exec,this,Option.map]
 |draw l pairs=>
  intro st Q h;simp only[Wp]at h
  split at h
  ·rename_i hp;obtain⟨st',⟨n0,h0⟩,hq⟩:=aY3 l h
   refine⟨.normal,st',⟨n0+1,fun n hn=>?_⟩,hq⟩
   obtain⟨m,rfl⟩: ∃m,n=m+1:=⟨n-1,by omega⟩
   obtain⟨rs,hr⟩:=aCr l (h0 m (by omega))
   simp only[pM]at hr;simp only[exec,hr,hp,nX,List.all_nil,if_true]
  ·obtain⟨st',rs,⟨n0,h0⟩,hp,hq⟩:=bE8 l h
   refine⟨.normal,st',⟨n0+1,fun n hn=>?_⟩,hq⟩
   obtain⟨m,rfl⟩: ∃m,n=m+1:=⟨n-1,by omega⟩
   have hr:=h0 m (by omega)
   simp only[pM]at hr;simp only[exec,hr,hp,if_true]
 |seq a b iha ihb=>
  intro st Q h;obtain⟨e,st1,⟨n1,h1⟩,hk⟩:=iha h;cases e with
  |normal=>
   obtain⟨e2,st2,⟨n2,h2⟩,hq⟩:=ihb hk
   refine⟨e2,st2,⟨max n1 n2+1,fun n hn=>?_⟩,hq⟩
   obtain⟨m,rfl⟩: ∃m,n=m+1:=⟨n-1,by omega⟩
   simp only[exec,h1 m (by omega),h2 m (by omega)]
  |exit id=>
   refine⟨_,st1,⟨n1+1,fun n hn=>?_⟩,hk⟩
   obtain⟨m,rfl⟩: ∃m,n=m+1:=⟨n-1,by omega⟩
   simp only[exec,h1 m (by omega)]
  |ret=>
   refine⟨_,st1,⟨n1+1,fun n hn=>?_⟩,hk⟩
   obtain⟨m,rfl⟩: ∃m,n=m+1:=⟨n-1,by omega⟩
   simp only[exec,h1 m (by omega)]
 |cond x a b iha ihb=>
  intro st Q h;simp only[Wp]at h
  split at h
  ·rename_i t ht;cases t with
   |true=>
    obtain⟨e,st1,⟨n1,h1⟩,hk⟩:=iha (by simpa using h)
    refine⟨e,st1,⟨n1+1,fun n hn=>?_⟩,hk⟩
    obtain⟨m,rfl⟩: ∃m,n=m+1:=⟨n-1,by omega⟩
    simp only[exec,ht,h1 m (by omega)]
   |false=>
    obtain⟨e,st1,⟨n1,h1⟩,hk⟩:=ihb (by simpa using h)
    refine⟨e,st1,⟨n1+1,fun n hn=>?_⟩,hk⟩
    obtain⟨m,rfl⟩: ∃m,n=m+1:=⟨n-1,by omega⟩
    simp only[exec,ht,h1 m (by omega)]
  ·exact h.elim
 |block id b ih=>
  intro st Q h;obtain⟨e,st1,⟨n1,h1⟩,hk⟩:=ih h;cases e with
  |exit id'=>
   simp only at hk
   by_cases hi:id'=id
   ·rw[if_pos hi]at hk
    refine⟨.normal,st1,⟨n1+1,fun n hn=>?_⟩,hk⟩
    obtain⟨m,rfl⟩: ∃m,n=m+1:=⟨n-1,by omega⟩
    simp only[exec,h1 m (by omega),hi,if_true]
   ·rw[if_neg hi]at hk
    refine⟨.exit id',st1,⟨n1+1,fun n hn=>?_⟩,hk⟩
    obtain⟨m,rfl⟩: ∃m,n=m+1:=⟨n-1,by omega⟩
    simp only[exec,h1 m (by omega),hi,if_false]
  |normal=>
   refine⟨_,st1,⟨n1+1,fun n hn=>?_⟩,hk⟩
   obtain⟨m,rfl⟩: ∃m,n=m+1:=⟨n-1,by omega⟩
   simp only[exec,h1 m (by omega)]
  |ret=>
   refine⟨_,st1,⟨n1+1,fun n hn=>?_⟩,hk⟩
   obtain⟨m,rfl⟩: ∃m,n=m+1:=⟨n-1,by omega⟩
   simp only[exec,h1 m (by omega)]
 |loop b ih=>intro st Q h;exact h
 |exit id=>intro st Q h;exact⟨.exit id,st,⟨1,fun n hn=>by obtain⟨m,rfl⟩: ∃m,n=m+1:=⟨n-1,by omega⟩;rfl⟩,h⟩
 |ret=>intro st Q h;exact⟨.ret,st,⟨1,fun n hn=>by obtain⟨m,rfl⟩: ∃m,n=m+1:=⟨n-1,by omega⟩;rfl⟩,h⟩
 |rangeF g ps a b=>
  intro st Q h;simp only[Wp]at h
  split at h
  ·rename_i f x y hg;obtain⟨v,en',cnt',⟨n1,h1⟩,hk⟩:=h;have run: ∀n,n1+1<=n-> ∀r,(match en' (pJ st.cnt)with
     |some (.loop _ _ _ _ .ready)=>some (Ex.normal,{fr:=st.fr,en:=en'.set (pJ st.cnt) none,cnt:=cnt':St})
     |some (.loop _ _ _ _ (.done e))=>some (e,{fr:=st.fr,en:=en'.set (pJ st.cnt) none,cnt:=cnt'})
     |_=>none)=some r->exec L n (.rangeF g ps a b) st=some r:=by
    intro n hn r hr;obtain⟨m,rfl⟩: ∃m,n=m+1:=⟨n-1,by omega⟩
    have hi:=h1 m (by omega) st.fr
    simp only[Inl.call,qE]at hi;simp only[exec,hg,oU];simp only[pJ]at hi hr;rw[hi];exact hr
   split at hk
   ·rename_i hl;exact⟨_,_,⟨n1+1,fun n hn=>run n hn _ (by simp only[hl])⟩,hk⟩
   ·rename_i hl;exact⟨_,_,⟨n1+1,fun n hn=>run n hn _ (by simp only[hl])⟩,hk⟩
   ·exact hk.elim
  ·exact h.elim
theorem wp_loop {α:Type}{L:cV}{b:cD}{Q:Ex->St->Prop}(I:α->St->Prop)(μ:α->Nat)(x:α){st:St}(h0:I x st)
  (hr: ∀x st,I x st->Wp L b st fun e st'=>match e with
   | .normal=> ∃y,I y st'/\ μ y<μ x
   | .exit i=>Q (.exit i) st'
   | .ret=>Q .ret st'):Wp L (.loop b) st Q:=by
 have key: ∀m x st,μ x=m->I x st-> ∃e st',Ev L (.loop b) st e st'/\ Q e st':=by
  intro m
  induction m using Nat.strongRecOn with
  |_ m ih=>
   intro x st hm hI;obtain⟨e,st1,⟨n1,h1⟩,hk⟩:=aMp b (hr x st hI);cases e with
   |normal=>
    obtain⟨y,hy,hlt⟩:=hk;obtain⟨e2,st2,⟨n2,h2⟩,hq⟩:=ih (μ y) (hm▸hlt) y st1 rfl hy
    refine⟨e2,st2,⟨max n1 n2+1,fun n hn=>?_⟩,hq⟩
    obtain⟨m',rfl⟩: ∃m,n=m+1:=⟨n-1,by omega⟩
    simp only[exec,h1 m' (by omega),h2 m' (by omega)]
   |exit id=>
    refine⟨_,st1,⟨n1+1,fun n hn=>?_⟩,hk⟩
    obtain⟨m',rfl⟩: ∃m,n=m+1:=⟨n-1,by omega⟩
    simp only[exec,h1 m' (by omega)]
   |ret=>
    refine⟨_,st1,⟨n1+1,fun n hn=>?_⟩,hk⟩
    obtain⟨m',rfl⟩: ∃m,n=m+1:=⟨n-1,by omega⟩
    simp only[exec,h1 m' (by omega)]
 exact key _ x st rfl h0
theorem wp_mono {L:cV}(c:cD): ∀{st:St} {Q R:Ex->St->Prop},Wp L c st Q->(∀e st',Q e st'->R e st')->Wp L c st R:=by
 have stp: ∀{st:St} {o:bH} {K K':St->Res->Prop},mX L st o K->(∀s r,K s r->K' s r)->mX L st o K':=by
  intro st o K K' h hk;unfold mX at h⊢;split
  ·rename_i hw;simp only[hw]at h;split
   ·rename_i f args hop;simp only[hop]at h;exact h.mono fun _ _ _=>hk _ _
   ·rename_i op hne;have h':WOp L (o.dst.getD 0) (st.cnt 0 (o.dst.getD 0)) st.en (St.get st.fr) o.op fun r=>(r.bump&&o.dst.isNone)=false/\
      K ⟨fT st.fr o.dst r.v,W.applyAll st.en r.ws,if r.bump then aQ st.cnt 0 (o.dst.getD 0) (st.cnt 0 (o.dst.getD 0)+1)else st.cnt⟩ r:=by
     split at h
     ·rename_i f a hx;exact absurd hx (hne f a)
     ·exact h
    have oth: ∀{K K':Res->Prop},(∀r,K r->K' r)->(match cT (o.dst.getD 0) (st.cnt 0 (o.dst.getD 0)) st.en (St.get st.fr) o.op with|some r=>K r|none=>False)->
      (match cT (o.dst.getD 0) (st.cnt 0 (o.dst.getD 0)) st.en (St.get st.fr) o.op with|some r=>K' r|none=>False):=by
     intro K K' hk h;split<;>rename_i hr<;>simp only[hr]at h;exact hk _ h
    have mono: ∀{K K':Res->Prop},(∀r,K r->K' r)->WOp L (o.dst.getD 0) (st.cnt 0 (o.dst.getD 0)) st.en (St.get st.fr) o.op K->WOp L (o.dst.getD 0) (st.cnt 0 (o.dst.getD 0)) st.en (St.get st.fr) o.op K':=by
     intro K K' hk h;generalize hop:o.op=op at h⊢oth;cases op with
     |call f args=>
      simp only[WOp]at h⊢
      split at h
      ·split at h
       ·obtain⟨r,h1,h2⟩:=h;exact⟨r,h1,hk _ h2⟩
       ·exact h.elim
      ·exact h.elim
     |_=>exact oth hk h
    exact mono (fun r ⟨h1,h2⟩=>⟨h1,hk _ _ h2⟩) h'
  ·rename_i hw;simp only[hw]at h;exact hk _ _ h
  ·rename_i hw;simp only[hw]at h
 have ops: ∀(l:List bH) {st:St} {Q R:St->Prop},jC L l st Q->(∀s,Q s->R s)->jC L l st R:=by
  intro l
  induction l with
  |nil=>intro st Q R h k;exact k _ h
  |cons o l ih=>intro st Q R h k;exact stp h fun s r hs=>ih hs k
 have rec_: ∀(l:List bH) {st:St} {Q R:St->List Res->Prop},aAa L l st Q->(∀s rs,Q s rs->R s rs)->aAa L l st R:=by
  intro l
  induction l with
  |nil=>intro st Q R h k;exact k _ _ h
  |cons o l ih=>intro st Q R h k;exact stp h fun s r hs=>ih hs fun s rs hq=>k _ _ hq
 induction c with
 |skip=>intro st Q R h k;exact k _ _ h
 |ops l=>intro st Q R h k;exact ops l h fun s=>k _ s
 |draw l pairs=>
  intro st Q R h k;simp only[Wp]at h⊢
  split at h
  ·rename_i hp;rw[if_pos hp];exact ops l h fun s=>k _ s
  ·rename_i hp;rw[if_neg hp];exact rec_ l h fun s rs ⟨h1,h2⟩=>⟨h1,k _ _ h2⟩
 |seq a b iha ihb=>
  intro st Q R h k
  refine iha h fun e st' hq=>?_
  cases e with
  |normal=>exact ihb hq k
  |exit i=>exact k _ _ hq
  |ret=>exact k _ _ hq
 |cond x a b iha ihb=>
  intro st Q R h k;simp only[Wp]at h⊢
  split at h
  ·rename_i t ht
   split at h
   ·rename_i htt;rw[if_pos htt];exact iha h k
   ·rename_i htt;rw[if_neg htt];exact ihb h k
  ·exact h.elim
 |block id b ih=>
  intro st Q R h k
  refine ih h fun e st' hq=>?_
  cases e with
  |normal=>exact k _ _ hq
  |exit i=>
   simp only at hq⊢
   split at hq
   ·rename_i hi;rw[if_pos hi];exact k _ _ hq
   ·rename_i hi;rw[if_neg hi];exact k _ _ hq
  |ret=>exact k _ _ hq
 |loop b ih=>intro st Q R h k;obtain⟨e,st',h1,h2⟩:=h;exact⟨e,st',h1,k _ _ h2⟩
 |exit id=>intro st Q R h k;exact k _ _ h
 |ret=>intro st Q R h k;exact k _ _ h
 |rangeF g ps a b=>
  intro st Q R h k;simp only[Wp]at h⊢
  split at h
  ·refine h.mono fun v en' cnt' hq=>?_
   split at hq
   ·exact k _ _ hq
   ·exact k _ _ hq
   ·exact hq.elim
  ·exact h.elim
theorem bE9 {L:cV}{a b:cD}{st:St}{Q:Ex->St->Prop}(M:St->Prop)
  (h:Wp L a st fun e st'=>match e with| .normal=>M st'| .exit i=>Q (.exit i) st'| .ret=>Q .ret st') (k: ∀st',M st'->Wp L b st' Q):Wp L (.seq a b) st Q:=by
 refine wp_mono a h fun e st' hq=>?_
 cases e with
 |normal=>exact k _ hq
 |exit i=>exact hq
 |ret=>exact hq
def bBz (st:St)(lf:aM)(r:Val):Prop:=
 match dO (pH st) lf.res with
 |some vs=>match(if lf.keep then aQ9 st.en (yX vs)else none)with
  |some v=>v=r
  |none=>match snapD 8 st.en (yX vs)with
   |some (v,_)=>(if lf.keep then v else v.wk)=r
   |none=>False
 |none=>False
def bFa (L:cV)(lf:aM)(args:List Val)(r:Val):Prop:= ∃n0,∀n,n0<=n->gR lf 8 (exec L n) args=some r
theorem uI {L:cV}{lf:aM}{args:List Val}{r:Val}(h:Wp L lf.body (start args) fun e st=>e.ends=true/\ bBz st lf r):bFa L lf args r:=by
 obtain⟨e,st,⟨n1,h1⟩,he,h2⟩:=aMp _ h
 refine⟨n1,fun n hm=>?_⟩
 simp only[gR,h1 n (by omega),he,if_true,aAs]
 unfold bBz at h2
 split at h2
 ·rename_i vs hvs;simp only[hvs]
  split at h2
  ·rename_i v hv;rw[hv,h2]
  ·rename_i hv;rw[hv]
   split at h2
   ·rename_i v ks hs;simp only[wH _ _ _ _ hs 8 (bXd _),h2]
   ·exact h2.elim
 ·exact h2.elim
theorem aL {L:cV}{f:Nat}{lf:aM}{args:List Val}{r:Val}(hL:L f=some lf)(hn:args.length=lf.np)(ha:aDk lf args=false)
  (h:Wp L lf.body (start args) fun e st=>e.ends=true/\ bBz st lf r):PC L f args r:=by
 obtain⟨n1,h1⟩:=uI h
 refine⟨n1,fun n hm=>?_⟩
 simp only[pM,kC,hL,hn,if_true,ha,bXc,if_false,h1 n (by omega)]
theorem bB0 {a b:Option Val}{r:Val}(ha:a=some r)(hb:b=some r)(hr:r= .cl [] \/r= .fz []):iK a b=some r:=by
 rcases hr with rfl|rfl<;>simp[ha,hb,iK]
theorem aPk {L:cV}{f:Nat}{lf:aM}{args:List Val}{r:Val}(hL:L f=some lf)(hn:args.length=lf.np)(ha:aDk lf args=true)(hr:r= .cl [] \/r= .fz [])(h1:bFa L lf [.es true] r)(h2:bFa L lf [.es false] r):PC L f args r:=by
 obtain⟨n1,h1⟩:=h1;obtain⟨n2,h2⟩:=h2
 refine⟨max n1 n2,fun n hm=>?_⟩
 simp only[pM,kC,hL,hn,if_true,ha];exact bB0 (h1 n (by omega)) (h2 n (by omega)) hr
theorem mK {L:cV}{f:Nat}{a b:List Val}{lf:aM}{args:List Val}{en:En}{cnt:Nat->Nat->Nat}{Q:Val->En->(Nat->Nat->Nat)->Prop}(hL:L f=some lf)(hn:(a++args++b).length=lf.np)(ha:aDk lf (a++args++b)=false)
  (h:Wp L lf.body ⟨fun i=>(a++args++b).getD i (.tup []),en,cnt⟩ fun e st=>e.ends=true/\ match dO (pH st) lf.res with|some vs=>Q (yX vs) st.en st.cnt|none=>False):WIn L (.fn f a b) args en cnt Q:=by
 obtain⟨e,st,⟨n1,h1⟩,he,h2⟩:=aMp _ h
 split at h2
 ·rename_i vs hvs
  refine⟨_,_,_,⟨n1,fun n hm fr=>?_⟩,h2⟩
  simp only[Inl.call,qE,pI,hL,hn,if_true,ha,bXc,if_false,h1 n hm,he,hvs,Option.map]
 ·exact h2.elim
theorem aEw {L:cV}{k:Key}{args:List Val}{en:En}{cnt:Nat->Nat->Nat}{Q:Val->En->(Nat->Nat->Nat)->Prop}{fr:Nat->Val}{ps:List Nat}{a b:cD}
  (hk:en k=some (.loop fr ps a b .ready)) (hn:args.length=ps.length)
  (h:Wp L a ⟨vZ fr ps args,en,cnt⟩ fun e st=>e= .normal/\ match st.en k with
   |some (.loop fr1 ps1 a1 b1 .ready)=>Wp L b ⟨st.fr,st.en.set k (some (.loop fr1 ps1 a1 b1 .busy)),st.cnt⟩ fun e st=>match st.en k with
    |some (.loop fr2 ps2 a2 b2 .busy)=>Q (.bool (decide (e= .normal))) (st.en.set k (some (.loop fr2 ps2 a2 b2 (if e= .normal then .ready else .done e)))) st.cnt
    |_=>False
   |_=>False):WIn L (.yld k) args en cnt Q:=by
 obtain⟨e,st,⟨n1,h1⟩,rfl,h2⟩:=aMp _ h
 split at h2
 ·rename_i fr1 ps1 a1 b1 hk1;obtain⟨e2,st2,⟨n2,h3⟩,h4⟩:=aMp _ h2
  split at h4
  ·rename_i hk2
   refine⟨_,_,_,⟨max n1 n2,fun n hm fr'=>?_⟩,h4⟩
   simp only[Inl.call,qE,aAt,hk,hn,if_true,h1 n (by omega),hk1,h3 n (by omega),hk2]
  ·exact h4.elim
 ·exact h2.elim
theorem bFb {L:cV}{n f:Nat}{args:List Val}{r:Val}(h:pM L n f args=some r):PC L f args r:=⟨n,fun _ hm=>aY1 hm h⟩
end Go.Abs
namespace Go.Abs
section
variable {L :cV}{fr:Nat->Val}{en:En}{cnt:Nat->Nat->Nat}{Q:St->Prop}{l:List bH}{d:Nat}{dst:Option Nat}
@[go_sem] theorem g_t {i:Nat}:St.get fr (.t i)=fr i:=(rfl)
@[go_sem] theorem g_c {v:Val}:St.get fr (.c v)=v:=(rfl)
@[go_sem] theorem g_f {i:Nat}:St.get fr (.f i)= .fn i [] []:=(rfl)
@[go_sem] theorem bVk {v:Val}:kB fr d v d=v:=by simp[kB]
@[go_sem] theorem bVl {v:Val}{i:Nat}(h: ¬i=d):kB fr d v i=fr i:=by simp[kB,h]
@[go_sem] theorem bHl {v:Val}:fT fr (some d) v=kB fr d v:=(rfl)
@[go_sem] theorem bHm {v:Val}:fT fr none v=fr:=(rfl)
@[go_sem] theorem aRj {k:Key}{e:Option Ent}:En.set en k e k=e:=by simp[En.set]
theorem eE {k k':Key}{e:Option Ent}(h:k'≠k):En.set en k e k'=en k':=by simp[En.set,h]
@[go_sem] theorem aKf {n n' t t' g g':Nat}{e:Option Ent}(h: ¬t'=t):En.set en ⟨n,t,g⟩ e ⟨n',t',g'⟩=en ⟨n',t',g'⟩:=
 eE fun he=>h (by injection he)
@[go_sem] theorem aRk {n n' t t' g g':Nat}{e:Option Ent}(h: ¬g'=g):En.set en ⟨n,t,g⟩ e ⟨n',t',g'⟩=en ⟨n',t',g'⟩:=
 eE fun he=>h (by injection he)
@[go_sem] theorem bFc {n t x:Nat}:aQ cnt n t x n t=x:=by simp[aQ]
@[go_sem] theorem bFd {n t t' x:Nat}(h: ¬t'=t):aQ cnt n t x n t'=cnt n t':=by simp[aQ,h]
@[go_sem] theorem bVm (st:St):jC L [] st Q=Q st:=(rfl)
def LOp.plain :LOp->Bool
 | .call _ _| .icall _ _=>false
 |_=>true
def aFx (L:cV)(l:List bH)(dst:Option Nat)(fr:Nat->Val)(en:En)(cnt:Nat->Nat->Nat)(Q:St->Prop):Option Res->Prop
 |some r=>(r.bump&&dst.isNone)=false/\ jC L l ⟨fT fr dst r.v,W.applyAll en r.ws,if r.bump then aQ cnt 0 (dst.getD 0) (cnt 0 (dst.getD 0)+1)else cnt⟩ Q
 |none=>False
@[go_sem] theorem aIr {v:Val}{ws:List W}{rs:List R}{m:Option (En×(Nat->Nat->Nat))}{u:Key->Bool}:
  aFx L l dst fr en cnt Q (some ⟨v,ws,rs,false,m,u⟩)=jC L l ⟨fT fr dst v,W.applyAll en ws,cnt⟩ Q:=by simp[aFx]
@[go_sem] theorem aCs {v:Val}{ws:List W}{rs:List R}{m:Option (En×(Nat->Nat->Nat))}{u:Key->Bool}:
  aFx L l (some d) fr en cnt Q (some ⟨v,ws,rs,true,m,u⟩)=jC L l ⟨kB fr d v,W.applyAll en ws,aQ cnt 0 d (cnt 0 d+1)⟩ Q:=by simp[aFx,fT]
@[go_sem] theorem bGr :aFx L l dst fr en cnt Q none=False:=(rfl)
@[congr] theorem bFe {r r':Option Res}(h:r=r'):aFx L l dst fr en cnt Q r=aFx L l dst fr en cnt Q r':=by rw[h]
@[congr] theorem bFf {st:St}:jC L l st Q=jC L l st Q:=(rfl)
theorem aMq {op:LOp}(h:op.plain=true):jC L (⟨dst,op,none⟩::l) ⟨fr,en,cnt⟩ Q=
  aFx L l dst fr en cnt Q (cT (dst.getD 0) (cnt 0 (dst.getD 0)) en (St.get fr) op):=by
 cases op<;>first|(simp[LOp.plain]at h;done)|rfl|(simp only[jC,mX,wanted,WOp];rfl)
@[go_sem] theorem bOp {op:LOp}(h:op.plain=true):jC L (⟨some d,op,none⟩::l) ⟨fr,en,cnt⟩ Q=
  aFx L l (some d) fr en cnt Q (cT d (cnt 0 d) en (St.get fr) op):=aMq h
@[go_sem] theorem bOq {op:LOp}(h:op.plain=true):jC L (⟨none,op,none⟩::l) ⟨fr,en,cnt⟩ Q=
  aFx L l none fr en cnt Q (cT 0 (cnt 0 0) en (St.get fr) op):=aMq h
@[go_sem] theorem bVn {x:Opd}:LOp.plain (.mv x)=true:=(rfl)
@[go_sem] theorem bMq {a b c:Opd}:LOp.plain (.pick a b c)=true:=(rfl)
@[go_sem] theorem bHn {z:List Val}:LOp.plain (.alloc z)=true:=(rfl)
@[go_sem] theorem bOr {n:Nat}{x:Opd}:LOp.plain (.box n x)=true:=(rfl)
@[go_sem] theorem bHo {z:List Val}{p:List (Nat×Nat×Opd)}:LOp.plain (.build z p)=true:=(rfl)
@[go_sem] theorem bGs {a b:Nat}{z:List Val}{p:List (Nat×Opd)}:LOp.plain (.bslice a b z p)=true:=(rfl)
@[go_sem] theorem bMr {a:Bool}{n:Nat}{x:Opd}:LOp.plain (.load a n x)=true:=(rfl)
@[go_sem] theorem bHp {n:Nat}{x y:Opd}:LOp.plain (.store n x y)=true:=(rfl)
@[go_sem] theorem bHq {x:Opd}:LOp.plain (.nilck x)=true:=(rfl)
@[go_sem] theorem bOs {b:BinOp}{t:EqT}{x y:Opd}:LOp.plain (.bin b t x y)=true:=(rfl)
@[go_sem] theorem bVo {u:UnOp}{x:Opd}:LOp.plain (.un u x)=true:=(rfl)
@[go_sem] theorem bMs {k:IntKind}{x:Opd}:LOp.plain (.wrap k x)=true:=(rfl)
@[go_sem] theorem bHr {t:Nat}{x:Opd}:LOp.plain (.iface t x)=true:=(rfl)
@[go_sem] theorem bGt {t:Nat}{z:Val}{b:Bool}{x:Opd}:LOp.plain (.assert t z b x)=true:=(rfl)
@[go_sem] theorem bMt {f:Nat}{a b:List Opd}:LOp.plain (.mkfn f a b)=true:=(rfl)
@[go_sem] theorem bHs  :LOp.plain (.mkmap)=true:=(rfl)
@[go_sem] theorem bMu {t:EqT}{a b c:Opd}:LOp.plain (.mput t a b c)=true:=(rfl)
@[go_sem] theorem bMv {t:EqT}{z:Val}{b:Bool}{x y:Opd}:LOp.plain (.mget t z b x y)=true:=(rfl)
@[go_sem] theorem bHt {n:Nat}{z:List Val}{x y:Opd}:LOp.plain (.mklen n z x y)=true:=(rfl)
@[go_sem] theorem bHu {b:Bool}{n:Nat}{x:Opd}{l h m:Option Opd}:LOp.plain (.slice b n x l h m)=true:=(rfl)
@[go_sem] theorem bVp {n:Nat}{x:Opd}:LOp.plain (.fa n x)=true:=(rfl)
@[go_sem] theorem bOt {b:Bool}{n m:Nat}{x:Opd}:LOp.plain (.fld b n m x)=true:=(rfl)
@[go_sem] theorem bVq {n:Nat}{x y:Opd}:LOp.plain (.ia n x y)=true:=(rfl)
@[go_sem] theorem bOu {n m:Nat}{x y:Opd}:LOp.plain (.iaa n m x y)=true:=(rfl)
@[go_sem] theorem bOv {x y:Opd}:LOp.plain (.ixs x y)=true:=(rfl)
@[go_sem] theorem bOw {b:Bool}{n m:Nat}{x y:Opd}:LOp.plain (.ixa b n m x y)=true:=(rfl)
@[go_sem] theorem bOx {n:Nat}{x:Opd}:LOp.plain (.ext n x)=true:=(rfl)
@[go_sem] theorem bOy {t:EqT}{x:Opd}:LOp.plain (.len t x)=true:=(rfl)
theorem dB {n:Nat}{x y:Opd}:LOp.plain (.append n x y)=true:=(rfl)
@[go_sem] theorem bMw {n:Nat}{x y:Opd}:LOp.plain (.copy n x y)=true:=(rfl)
@[go_sem] theorem bGu {b:Bool}{l:List Opd}:LOp.plain (.minmax b l)=true:=(rfl)
@[go_sem] theorem bOz {x:Opd}:LOp.plain (.rng x)=true:=(rfl)
@[go_sem] theorem bO0 {x:Opd}:LOp.plain (.nxt x)=true:=(rfl)
def oA (v:Val)(b:Bool)(yes no:Prop):Prop:=
 match v with
 | .bool b'=>if(b'==b)=true then yes else no
 | .tup []=>no
 |_=>False
@[congr] theorem bDv {v v':Val}{b:Bool}{yes no:Prop}(h:v=v'):oA v b yes no=oA v' b yes no:=by rw[h]
@[go_sem] theorem bB1 {t:Nat}{b:Bool}{op:LOp}:jC L (⟨dst,op,some (t,b)⟩::l) ⟨fr,en,cnt⟩ Q=
  oA (fr t) b (jC L (⟨dst,op,none⟩::l) ⟨fr,en,cnt⟩ Q) (jC L l ⟨fT fr dst (.tup []),en,cnt⟩ Q):=by
 simp only[jC,mX,wanted,oA]
 split<;>rename_i h
 ·split at h
  ·rename_i b' hb;simp only[bXa]at h;simp only[hb,h,if_true]
  ·cases h
  ·cases h
 ·split at h
  ·rename_i b' hb;simp only[bXa]at h;simp only[hb,h,bXc,if_false]
  ·rename_i hb;simp only[hb]
  ·cases h
 ·split at h
  ·cases h
  ·cases h
  ·rename_i h1 h2;split
   ·rename_i b' hb;exact absurd hb (h1 _)
   ·rename_i hb;exact absurd hb h2
   ·rfl
@[go_sem] theorem bHv {yes no:Prop}:oA (.bool true) true yes no=yes:=(rfl)
@[go_sem] theorem bHw {yes no:Prop}:oA (.bool false) false yes no=yes:=(rfl)
@[go_sem] theorem bHx {yes no:Prop}:oA (.bool true) false yes no=no:=(rfl)
@[go_sem] theorem bHy {yes no:Prop}:oA (.bool false) true yes no=no:=(rfl)
@[go_sem] theorem bHz {yes no:Prop}{b:Bool}:oA (.tup []) b yes no=no:=(rfl)
theorem bA {b b':Bool}{yes no:Prop}(h:b=b'->yes)(k:b=!b'->no):oA (.bool b) b' yes no:=by
 cases b<;>cases b'<;>first|exact h rfl|exact k rfl
@[congr] theorem bGv {f:Val}{a:List Val}{K:Val->En->(Nat->Nat->Nat)->Prop}{f':Val}{a':List Val}(h:f=f')(h':a=a'):WIn L f a en cnt K=WIn L f' a' en cnt K:=by rw[h,h']
@[go_sem] theorem bMx {f:Opd}{args:List Opd}:jC L (⟨dst,.icall f args,none⟩::l) ⟨fr,en,cnt⟩ Q=
  WIn L (St.get fr f) (args.map (St.get fr)) en cnt fun v en' cnt'=>jC L l ⟨fT fr dst v,en',cnt'⟩ Q:=(rfl)
def aMr (L:cV)(f:Nat)(args:List Val)(K:Val->Prop):Prop:= ∃r,PC L f args r/\ K r
@[congr] theorem bFg {f:Nat}{a a':List Val}{K:Val->Prop}(h:a=a'):aMr L f a K=aMr L f a' K:=by rw[h]
theorem _root_.Go.Abs.PC.ret {L:cV}{f:Nat}{args:List Val}{r:Val}(h:PC L f args r){K:Val->Prop}:aMr L f args K=K r:=
 propext ⟨fun⟨s,h1,h2⟩=>h.det h1▸h2,fun h2=>⟨r,h,h2⟩⟩
def aDz (L:cV)(f:Nat)(o:Option (List (Val×List Key)))(K:Val->List Key->Prop):Prop:=
 match o with
 |some rs=>aMr L f (rs.map (·.1.wk1)) fun r=>K r (rs.flatMap (·.2))
 |none=>False
@[congr] theorem bDw {f:Nat}{o o':Option (List (Val×List Key))}{K:Val->List Key->Prop}(h:o=o'):aDz L f o K=aDz L f o' K:=by rw[h]
@[go_sem] theorem bVr {f:Nat}{rs:List (Val×List Key)}{K:Val->List Key->Prop}:aDz L f (some rs) K=aMr L f (rs.map (·.1.wk1)) fun r=>K r (rs.flatMap (·.2)):=(rfl)
def yZ (L:cV)(en:En)(f:Val)(args:List Val)(K:Val->List Key->Prop):Prop:=
 match f with
 | .fn f a b=>aDz L f (dO (snapD 8 en) (a++args++b)) K
 |_=>False
@[congr] theorem bDx {f f':Val}{a a':List Val}{K:Val->List Key->Prop}(h:f=f')(h':a=a'):yZ L en f a K=yZ L en f' a' K:=by rw[h,h']
@[go_sem] theorem bO1 {f:Opd}{args:List Opd}:jC L (⟨dst,.call f args,none⟩::l) ⟨fr,en,cnt⟩ Q=
  yZ L en (St.get fr f) (args.map (St.get fr)) fun r ks=>aFx L l dst fr en cnt Q (some (fD 0 (dst.getD 0) (cnt 0 (dst.getD 0)) r ks)):=by
 simp only[jC,mX,wanted,WOp,yZ,aDz,aMr];cases St.get fr f<;>first|rfl|skip
@[go_sem] theorem bVs {f:Nat}{a b args:List Val}{K:Val->List Key->Prop}:yZ L en (.fn f a b) args K=aDz L f (dO (snapD 8 en) (a++args++b)) K:=(rfl)
def oX :Val->Bool
 | .own _ _=>true
 |_=>false
@[go_sem] theorem bDy {me d g sz:Nat}{xs:List Val}{ks:List Key}:fD me d g (.own sz xs) ks=
  {v:= .bl ⟨me,d,g⟩ 0 xs.length,ws:=(if xs.all Val.flat1 then []else ks.map .frz)++[.ent ⟨me,d,g⟩ (some (.blk sz xs false))],rs:=ks.map .val,bump:=true}:=(rfl)
@[go_sem] theorem bDz {me d g:Nat}{v:Val}{ks:List Key}(h:oX v=false):fD me d g v ks={v,ws:=if v.flat then []else ks.map .frz,rs:=ks.map .val}:=by
 cases v<;>first|rfl|cases h
section
variable {k :IntKind}{i:Int}{b:Bool}{x:ByteArray}{xs ys:List Val}{m:Nat}
@[go_sem] theorem bO2 :oX (.int k i)=false:=(rfl)
@[go_sem] theorem bMy :oX (.bool b)=false:=(rfl)
@[go_sem] theorem bO3 :oX (.str x)=false:=(rfl)
@[go_sem] theorem bVt :oX (.fz xs)=false:=(rfl)
@[go_sem] theorem bVu :oX (.cl xs)=false:=(rfl)
@[go_sem] theorem bO4 :oX (.agg xs)=false:=(rfl)
@[go_sem] theorem bO5 :oX (.tup xs)=false:=(rfl)
@[go_sem] theorem bVv :oX (.fp xs m)=false:=(rfl)
@[go_sem] theorem bVw :oX (.fn m xs ys)=false:=(rfl)
@[go_sem] theorem bMz :oX .nili=false:=(rfl)
@[go_sem] theorem bO6 {v:Val}:oX (.ifc m v)=false:=(rfl)
end
@[go_sem] theorem bH0 {α β:Type}{f:α->Option β}:dO f []=some []:=(rfl)
@[go_sem] theorem bGw {α β:Type}{f:α->Option β}{x:α}{xs:List α}:dO f (x::xs)=(match f x with|some y=>(match dO f xs with|some ys=>some (y::ys)|none=>none)|none=>none):=(rfl)
@[go_sem] theorem bGx {cs:List Val}:gD true cs=some (.agg cs):=(rfl)
@[go_sem] theorem bGy {v:Val}:gD false [v]=some v:=(rfl)
attribute [go_sem] o og on ong
def wI (cs:List Val)(off:Nat):Option Val:=cs[off]?
@[go_sem] theorem bH1 {v:Val}{cs:List Val}:wI (v::cs) 0=some v:=(rfl)
@[go_sem] theorem bH2 {v:Val}{cs:List Val}{n:Nat}:wI (v::cs) (n+1)=wI cs n:=(rfl)
section
variable {g :Nat}{get:Opd->Val}
@[go_sem] theorem bVx {x:Opd}:cT d g en get (.mv x)=some {v:=get x}:=(rfl)
def aKg (c a b:Val):Option Res:=match c with| .bool t=>some {v:=if t then a else b}|_=>none
@[go_sem] theorem bM0 {c a b:Opd}:cT d g en get (.pick c a b)=aKg (get c) (get a) (get b):=(rfl)
@[go_sem] theorem bO7 {a b:Val}:aKg (.bool true) a b=some {v:=a}:=(rfl)
@[go_sem] theorem bO8 {a b:Val}:aKg (.bool false) a b=some {v:=b}:=(rfl)
@[go_sem] theorem bO9 {t a b:Bool}:aKg (.bool t) (.bool a) (.bool b)=some {v:= .bool (if t then a else b)}:=by cases t<;>rfl
@[go_sem] theorem bH3 {z:List Val}:cT d g en get (.alloc z)=some {v:= .ptr ⟨0,d,g⟩ 0,ws:=[.ent ⟨0,d,g⟩ (some (.box z false))],bump:=true}:=(rfl)
def oB (d g m:Nat)(x:Val):Option Res:=if x.one=true/\ x.cells.length=m then some {v:= .ptr ⟨0,d,g⟩ 0,ws:=[.ent ⟨0,d,g⟩ (some (.box x.cells false))],bump:=true}else none
@[go_sem] theorem bPa {m:Nat}{x:Opd}:cT d g en get (.box m x)=oB d g m (get x):=(rfl)
@[go_sem] theorem bM1 {m:Nat}{cs:List Val}(h:cs.length=m):oB d g m (.agg cs)=some {v:= .ptr ⟨0,d,g⟩ 0,ws:=[.ent ⟨0,d,g⟩ (some (.box cs false))],bump:=true}:=by simp[oB,Val.one,Val.cells,h]
@[go_sem] theorem bM2 {k:IntKind}{n:Int}:oB d g 1 (.int k n)=some {v:= .ptr ⟨0,d,g⟩ 0,ws:=[.ent ⟨0,d,g⟩ (some (.box [.int k n] false))],bump:=true}:=by simp[oB,Val.one,Val.cells]
@[go_sem] theorem bH4 {b:Bool}:oB d g 1 (.bool b)=some {v:= .ptr ⟨0,d,g⟩ 0,ws:=[.ent ⟨0,d,g⟩ (some (.box [.bool b] false))],bump:=true}:=by simp[oB,Val.one,Val.cells]
@[go_sem] theorem bM3 {b:ByteArray}:oB d g 1 (.str b)=some {v:= .ptr ⟨0,d,g⟩ 0,ws:=[.ent ⟨0,d,g⟩ (some (.box [.str b] false))],bump:=true}:=by simp[oB,Val.one,Val.cells]
@[go_sem] theorem bPb {xs:List Val}:oB d g 1 (.fz xs)=some {v:= .ptr ⟨0,d,g⟩ 0,ws:=[.ent ⟨0,d,g⟩ (some (.box [.fz xs] false))],bump:=true}:=by simp[oB,Val.one,Val.cells]
@[go_sem] theorem bPc {xs:List Val}{i:Nat}:oB d g 1 (.fp xs i)=some {v:= .ptr ⟨0,d,g⟩ 0,ws:=[.ent ⟨0,d,g⟩ (some (.box [.fp xs i] false))],bump:=true}:=by simp[oB,Val.one,Val.cells]
@[go_sem] theorem bM4 {k:Key}{i:Nat}:oB d g 1 (.ptr k i)=some {v:= .ptr ⟨0,d,g⟩ 0,ws:=[.ent ⟨0,d,g⟩ (some (.box [.ptr k i] false))],bump:=true}:=by simp[oB,Val.one,Val.cells]
@[go_sem] theorem bPd {f:Nat}{a b:List Val}:oB d g 1 (.fn f a b)=some {v:= .ptr ⟨0,d,g⟩ 0,ws:=[.ent ⟨0,d,g⟩ (some (.box [.fn f a b] false))],bump:=true}:=by simp[oB,Val.one,Val.cells]
@[go_sem] theorem bH5 {z:List Val}{ps:List (Nat×Nat×Opd)}:cT d g en get (.build z ps)=(pW z (ps.map fun p=>(p.1,p.2.1,get p.2.2))).map fun cs=>{v:= .agg cs}:=(rfl)
@[go_sem] theorem bM5 {agg:Bool}{m:Nat}{a:Opd}:cT d g en get (.load agg m a)=(match oR en (get a) m with|some (cs,rs)=>(gD agg cs).map fun v=>{v,rs}|none=>none):=(rfl)
@[go_sem] theorem bPe {op:BinOp}{t:EqT}{x y:Opd}:cT d g en get (.bin op t x y)=(dA op t (get x) (get y)).map fun v=>{v}:=(rfl)
def aY4 (x:Val):Option Res:=match x with| .bool b=>some {v:= .bool !b}|_=>none
def aY5 (x:Val):Option Res:=match x with| .int k a=>some {v:= .int k (k.wrap (0-a))}|_=>none
@[go_sem] theorem bPf {x:Opd}:cT d g en get (.un .not x)=aY4 (get x):=by
 simp only[cT,eval,aY4];cases get x<;>rfl
@[go_sem] theorem bPg {x:Opd}:cT d g en get (.un .neg x)=aY5 (get x):=by
 simp only[cT,eval,aY5];cases get x<;>rfl
@[go_sem] theorem bVy {b:Bool}:aY4 (.bool b)=some {v:= .bool !b}:=(rfl)
@[go_sem] theorem bVz {k:IntKind}{a:Int}:aY5 (.int k a)=some {v:= .int k (k.wrap (0-a))}:=(rfl)
def aY6 (k:IntKind)(x:Val):Option Res:=match x with| .int _ a=>some {v:= .int k (k.wrap a)}|_=>none
@[go_sem] theorem bM6 {k:IntKind}{x:Opd}:cT d g en get (.wrap k x)=aY6 k (get x):=(rfl)
@[go_sem] theorem bPh {k j:IntKind}{a:Int}:aY6 k (.int j a)=some {v:= .int k (k.wrap a)}:=(rfl)
@[go_sem] theorem bH6 {t:Nat}{x:Opd}:cT d g en get (.iface t x)=if(get x).one=true then some {v:= .ifc t (get x)}else none:=(rfl)
def aA5 (t:Nat)(z:Val)(ok:Bool)(x:Val):Option Res:=match x with
 | .ifc t' v=>if t'=t then some {v:=if ok then .tup [v,.bool true]else v}else if ok then some {v:= .tup [z,.bool false]}else none
 | .nili=>if ok then some {v:= .tup [z,.bool false]}else none
 |_=>none
@[go_sem] theorem bGz {t:Nat}{z:Val}{ok:Bool}{x:Opd}:cT d g en get (.assert t z ok x)=aA5 t z ok (get x):=(rfl)
@[go_sem] theorem bFh {t t':Nat}{z v:Val}:aA5 t z true (.ifc t' v)=some {v:=if t'=t then .tup [v,.bool true]else .tup [z,.bool false]}:=by
 simp only[aA5];split<;>simp
@[go_sem] theorem bFi {t:Nat}{z:Val}:aA5 t z true .nili=some {v:= .tup [z,.bool false]}:=(rfl)
@[go_sem] theorem bM7 {f:Nat}{a b:List Opd}:cT d g en get (.mkfn f a b)=some {v:= .fn f (a.map get) (b.map get)}:=(rfl)
@[go_sem] theorem bH7 :cT d g en get .mkmap=some {v:= .mp ⟨0,d,g⟩,ws:=[.ent ⟨0,d,g⟩ (some (.map [] [] false))],bump:=true}:=(rfl)
def aFy (t:EqT)(en:En)(x:Val):Option Res:=match t with
  | .map=>match x with
   | .mp key=>match en key with
    |some (.map ks _ _)=>some {v:= .int .i64 ks.length,rs:=[.val key]}
    |_=>none
   | .fm ks _=>some {v:= .int .i64 ks.length}
   | .nilm=>some {v:= .int .i64 0}
   |_=>none
  | .str=>match x with
   | .str s=>some {v:= .int .i64 s.size}
   |_=>none
  | .slice=>(vH x).map fun m=>{v:= .int .i64 m}
  |_=>none
@[go_sem] theorem bPi {t:EqT}{x:Opd}:cT d g en get (.len t x)=aFy t en (get x):=(rfl)
@[go_sem] theorem bV0 {x:Val}:aFy .slice en x=(vH x).map fun(m:Nat)=>{v:= .int .i64 (m:Int)}:=by simp only[aFy];cases vH x<;>rfl
@[go_sem] theorem bM8 {s:ByteArray}:aFy .str en (.str s)=some {v:= .int .i64 s.size}:=(rfl)
@[go_sem] theorem bH8 :aFy .map en .nilm=some {v:= .int .i64 0}:=(rfl)
@[go_sem] theorem bPj {ks vs:List Val}:aFy .map en (.fm ks vs)=some {v:= .int .i64 ks.length}:=(rfl)
@[go_sem] theorem bH9 {xs:List Val}:vH (.fz xs)=some xs.length:=(rfl)
@[go_sem] theorem bIa {xs:List Val}:vH (.cl xs)=some xs.length:=(rfl)
@[go_sem] theorem bIb {k:Key}{o n:Nat}:vH (.bl k o n)=some n:=(rfl)
def bD0 (i:Nat)(x:Val):Option Res:=match x with| .tup vs=>(vs[i]?).map fun v=>{v}|_=>none
@[go_sem] theorem bPk {i:Nat}{x:Opd}:cT d g en get (.ext i x)=bD0 i (get x):=(rfl)
@[go_sem] theorem bM9 {i:Nat}{vs:List Val}:bD0 i (.tup vs)=(wI vs i).map fun v=>{v}:=(rfl)
def bB2 (off:Nat)(x:Val):Option Res:=match x with
  | .fp cs o=>some {v:= .fp cs (o+off)}
  | .ptr k o=>some {v:= .ptr k (o+off)}
  | .ep k i o=>some {v:= .ep k i (o+off)}
  |_=>none
@[go_sem] theorem bV1 {off:Nat}{x:Opd}:cT d g en get (.fa off x)=bB2 off (get x):=(rfl)
@[go_sem] theorem bV2 {off o:Nat}{cs:List Val}:bB2 off (.fp cs o)=some {v:= .fp cs (o+off)}:=(rfl)
@[go_sem] theorem bPl {off o:Nat}{k:Key}:bB2 off (.ptr k o)=some {v:= .ptr k (o+off)}:=(rfl)
@[go_sem] theorem bV3 {off o i:Nat}{k:Key}:bB2 off (.ep k i o)=some {v:= .ep k i (o+off)}:=(rfl)
def sP (size:Nat)(en:En)(x i:Val):Option Res:=match i with
  | .int _ j=>
   match x with
   | .fz xs| .cl xs=>if 0<=j then match xs[j.toNat]? with
     |some y=>if y.cells.length=size then some {v:= .fp y.cells 0}else none
     |none=>none else none
   | .bl k off len=>match en k with
    |some (.blk sz _ _)=>if 0<=j/\ j<len/\ sz=size then some {v:= .ep k (off+j.toNat) 0,rs:=[.val k]}else none
    |_=>none
   |_=>none
  |_=>none
@[go_sem] theorem bV4 {size:Nat}{x i:Opd}:cT d g en get (.ia size x i)=sP size en (get x) (get i):=by
 simp only[cT,eval,sP];cases get i<;>rfl
theorem bIc {size:Nat}{xs:List Val}{k:IntKind}{j:Nat}{y:Val}(h:xs[j]?=some y)(hs:y.cells.length=size):sP size en (.fz xs) (.int k j)=some {v:= .fp y.cells 0}:=by
 simp[sP,h,hs]
@[go_sem] theorem bFj {α:Type}{f:α->Val}{size:Nat}{l:List α}{k:IntKind}{j:Nat}(h:j<l.length)(hs:((f l[j]).cells.length==size)=true):sP size en (.fz (l.map f)) (.int k j)=some {v:= .fp (f l[j]).cells 0}:=
 bIc (by simp[h]) (by simpa using hs)
@[go_sem] theorem bG0 {len size:Nat}{z:List Val}{ps:List (Nat×Opd)}:cT d g en get (.bslice len size z ps)=
  if len*size<=16777216 then
   match dO (fun p=>match snapD 8 en (get p.2)with|some r=>some ((p.1,r.1.wk1),r.2)|none=>none) ps with
   |some ps=>match fI (List.replicate len (kN size z false)) size (ps.map (·.1))with
    |some xs=>some {v:= .cl xs,ws:=(ps.flatMap (·.2)).map .frz,rs:=(ps.flatMap (·.2)).map .val}
    |none=>none
   |none=>none
  else none:=(rfl)
def wJ (mx:Bool)(xs:List Val):Option Res:=match xs with
  |[.int j a,.int k b]=>if j=k then some {v:= .int j (if mx then(if b>a then b else a)else(if b<a then b else a))}else none
  |_=>none
@[go_sem] theorem bG1 {mx:Bool}{xs:List Opd}:cT d g en get (.minmax mx xs)=wJ mx (xs.map get):=(rfl)
@[go_sem] theorem bV5 {k:IntKind}{a b:Int}:wJ true [.int k a,.int k b]=some {v:= .int k (max a b)}:=by
 simp only[wJ,if_true,bXa,Res.mk.injEq,Val.int.injEq,true_and,and_true];omega
@[go_sem] theorem bV6 {k:IntKind}{a b:Int}:wJ false [.int k a,.int k b]=some {v:= .int k (min a b)}:=by
 simp only[wJ,if_true,bXc,if_false,bXa,Res.mk.injEq,Val.int.injEq,true_and,and_true];omega
def aA6 (x:Val):Option Res:=match x with
  | .fp cs off=>some {v:= .fp cs off}
  | .ptr k off=>some {v:= .ptr k off}
  | .ep k i off=>some {v:= .ep k i off}
  | .fn f a b=>some {v:= .fn f a b}
  | .ifc t v=>some {v:= .ifc t v}
  |_=>none
@[go_sem] theorem bId {x:Opd}:cT d g en get (.nilck x)=aA6 (get x):=(rfl)
@[go_sem] theorem bIe {cs:List Val}{o:Nat}:aA6 (.fp cs o)=some {v:= .fp cs o}:=(rfl)
@[go_sem] theorem bG2 {k:Key}{o:Nat}:aA6 (.ptr k o)=some {v:= .ptr k o}:=(rfl)
@[go_sem] theorem bIf {f:Nat}{a b:List Val}:aA6 (.fn f a b)=some {v:= .fn f a b}:=(rfl)
@[go_sem] theorem bG3 {t:Nat}{v:Val}:aA6 (.ifc t v)=some {v:= .ifc t v}:=(rfl)
end
@[go_sem] theorem bG4 {xs:List Val}{size:Nat}:fI xs size []=some xs:=(rfl)
@[go_sem] theorem bFk {xs:List Val}{size i:Nat}{v:Val}{rest:List (Nat×Val)}(h1:v.one=true)(h2:v.cells.length=size)(h3:i<xs.length):fI xs size ((i,v)::rest)=fI (xs.set i v) size rest:=by
 simp only[fI,h1,h2,h3,and_self,if_true]
@[go_sem] theorem bV7 {z:Val}:List.replicate 0 z=[]:=(rfl)
@[go_sem] theorem bV8 {z:Val}:List.replicate 1 z=[z]:=(rfl)
@[go_sem] theorem bV9 {z:Val}:List.replicate 2 z=[z,z]:=(rfl)
@[go_sem] theorem bWa {z:Val}:List.replicate 3 z=[z,z,z]:=(rfl)
@[go_sem] theorem bWb {z:Val}:List.replicate 4 z=[z,z,z,z]:=(rfl)
@[go_sem] theorem bWc {z:Val}:List.replicate 5 z=[z,z,z,z,z]:=(rfl)
@[go_sem] theorem bIg {cs:List Val}:pW cs []=some cs:=(rfl)
@[go_sem] theorem bG5 {cs:List Val}{off size:Nat}{v:Val}{rest:List (Nat×Nat×Val)}(h1:v.one=true)(h2:v.cells.length=size)(h3:off+size<=cs.length):pW cs ((off,size,v)::rest)=pW (setCells cs off v.cells) rest:=by
 simp only[pW,h1,h2,h3,and_self,if_true]
@[go_sem] theorem bNa {cs:List Val}{off:Nat}:setCells cs off []=cs:=(rfl)
@[go_sem] theorem bIh {cs:List Val}{off:Nat}{v:Val}{vs:List Val}:setCells cs off (v::vs)=setCells (cs.set off v) (off+1) vs:=(rfl)
attribute [go_sem] List.set_cons_zero List.set_cons_succ
@[go_sem] theorem bPm {size:Nat}{xs:List Val}{k:IntKind}{j:Int}:sP size en (.cl xs) (.int k j)=if 0<=j then(match wI xs j.toNat with|some y=>if y.cells.length=size then some {v:= .fp y.cells 0}else none|none=>none)else none:=(rfl)
section
variable {k :IntKind}{a b:Int}
@[go_sem] theorem bNb :dA .add .num (.int k a) (.int k b)=some (.int k (k.wrap (a+b))):=by simp[dA,qT]
@[go_sem] theorem bNc :dA .sub .num (.int k a) (.int k b)=some (.int k (k.wrap (a-b))):=by simp[dA,qT]
@[go_sem] theorem bNd :dA .mul .num (.int k a) (.int k b)=some (.int k (k.wrap (a*b))):=by simp[dA,qT]
@[go_sem] theorem bNe :dA .quo .num (.int k a) (.int k b)=if b=0 then none else some (.int k (k.wrap (a.tdiv b))):=by simp[dA,qT]
@[go_sem] theorem bNf :dA .rem .num (.int k a) (.int k b)=if b=0 then none else some (.int k (a.tmod b)):=by simp[dA,qT]
@[go_sem] theorem bNg :dA .lss .num (.int k a) (.int k b)=some (.bool (decide (a<b))):=by simp[dA,qT]
@[go_sem] theorem bNh :dA .leq .num (.int k a) (.int k b)=some (.bool (decide (a<=b))):=by simp[dA,qT]
@[go_sem] theorem bNi :dA .gtr .num (.int k a) (.int k b)=some (.bool (decide (b<a))):=by simp[dA,qT]
@[go_sem] theorem bNj :dA .geq .num (.int k a) (.int k b)=some (.bool (decide (b<=a))):=by simp[dA,qT]
@[go_sem] theorem bNk :dA .eql .num (.int k a) (.int k b)=some (.bool (decide (a=b))):=by
 simp only[dA,mV,if_true,bX9];congr 2
@[go_sem] theorem bNl :dA .neq .num (.int k a) (.int k b)=some (.bool (!decide (a=b))):=by
 simp only[dA,mV,if_true,bX9];congr 3
@[go_sem] theorem bNm {x y:Bool}:dA .eql .bool (.bool x) (.bool y)=some (.bool (x==y)):=(rfl)
@[go_sem] theorem bNn {x y:Bool}:dA .neq .bool (.bool x) (.bool y)=some (.bool (!(x==y))):=(rfl)
@[go_sem] theorem bNo {x y:ByteArray}:dA .eql .str (.str x) (.str y)=some (.bool (x.toList==y.toList)):=(rfl)
@[go_sem] theorem bNp {x y:ByteArray}:dA .neq .str (.str x) (.str y)=some (.bool (!(x.toList==y.toList))):=(rfl)
end
@[go_sem] theorem iN :W.applyAll en []=en:=(rfl)
@[go_sem] theorem mY {w:W}{ws:List W}:W.applyAll en (w::ws)=W.applyAll (w.apply en) ws:=(rfl)
@[go_sem] theorem tH {k:Key}{e:Option Ent}:(W.ent k e).apply en=en.set k e:=(rfl)
theorem bIi (cs:List Val)(off:Nat):(if off+1<=cs.length then some ((cs.drop off).take 1)else none)=(cs[off]?).map fun v=>[v]:=by
 by_cases h:off<cs.length
 ·rw[if_pos (by omega),bYs h,bX7 h];rfl
 ·rw[if_neg (by omega),cAb (by omega)];rfl
theorem bIj (cs:List Val)(off:Nat)(rs:List R):(if off+1<=cs.length then some ((cs.drop off).take 1,rs)else none)=(wI cs off).map fun v=>([v],rs):=by
 have:=bIi cs off;unfold wI
 by_cases h:off+1<=cs.length
 ·rw[if_pos h]at this⊢;cases hc:cs[off]? with
  |none=>rw[hc]at this;cases this
  |some v=>rw[hc]at this;simp only[Option.map,bXa]at this⊢;rw[this]
 ·rw[if_neg h]at this⊢;cases hc:cs[off]? with
  |none=>rfl
  |some v=>rw[hc]at this;cases this
@[go_sem] theorem bIk {cs:List Val}{off:Nat}:oR en (.fp cs off) 1=(wI cs off).map fun v=>([v],[]):=bIj cs off []
@[go_sem] theorem bIl {k:Key}{off n:Nat}:oR en (.ptr k off) n=(match en k with|some (.box cs _)=>if off+n<=cs.length then some ((cs.drop off).take n,[.cells k off n])else none|_=>none):=(rfl)
@[go_sem] theorem bNq {cs:List Val}{off n:Nat}:oR en (.fp cs off) n=if off+n<=cs.length then some ((cs.drop off).take n,[])else none:=(rfl)
@[go_sem] theorem bB3 {α β:Type}{f:α->β}{x:α}:(some x).map f=some (f x):=(rfl)
@[go_sem] theorem bB4 {α β:Type}{f:α->β}:(none:Option α).map f=none:=(rfl)
attribute [go_sem] List.drop_zero List.drop_succ_cons bY9 List.take_succ_cons bXu bYb List.take_nil List.drop_nil
section
variable {st :St}{R:Ex->St->Prop}
@[congr] theorem bIm {c:cD}:Wp L c st R=Wp L c st R:=(rfl)
@[go_sem] theorem bIn {c:cD}{args:List Val}:Wp L c (start args) R=Wp L c ⟨fun i=>args.getD i (.tup []),fun _=>none,fun _ _=>0⟩ R:=(rfl)
@[go_sem] theorem bNr :Wp L .skip st R=R .normal st:=(rfl)
@[go_sem] theorem bPn {l:List bH}:Wp L (.ops l) st R=jC L l st (R .normal):=(rfl)
@[go_sem] theorem bNs {l:List bH}:Wp L (.draw l []) st R=jC L l st (R .normal):=by simp[Wp]
theorem qW {a b:cD}:Wp L (.seq a b) st R=Wp L a st fun e st'=>match e with
  | .normal=>Wp L b st' R
  | .exit i=>R (.exit i) st'
  | .ret=>R .ret st':=(rfl)
def aFz (v:Val)(a b:Prop):Prop:=match v with| .bool t=>if t=true then a else b|_=>False
@[go_sem] theorem bNt {x:Opd}{a b:cD}:Wp L (.cond x a b) ⟨fr,en,cnt⟩ R=aFz (St.get fr x) (Wp L a ⟨fr,en,cnt⟩ R) (Wp L b ⟨fr,en,cnt⟩ R):=(rfl)
@[congr] theorem bD1 {v v':Val}{a b:Prop}(h:v=v'):aFz v a b=aFz v' a b:=by rw[h]
@[go_sem] theorem bNu {a b:Prop}:aFz (.bool true) a b=a:=(rfl)
@[go_sem] theorem bNv {a b:Prop}:aFz (.bool false) a b=b:=(rfl)
theorem aV {t:Bool}{a b:Prop}(h:t=true->a)(k:t=false->b):aFz (.bool t) a b:=by cases t<;>first|exact h rfl|exact k rfl
@[go_sem] theorem bIo {id:Nat}{b:cD}:Wp L (.block id b) st R=Wp L b st fun e st'=>match e with
  | .exit id'=>if id'=id then R .normal st' else R (.exit id') st'
  | .normal=>R .normal st'
  | .ret=>R .ret st':=(rfl)
@[go_sem] theorem bNw {id:Nat}:Wp L (.exit id) st R=R (.exit id) st:=(rfl)
@[go_sem] theorem bPo :Wp L .ret st R=R .ret st:=(rfl)
end
attribute [go_sem] Ex.ends bBz pH yX aQ9 bZ8 List.getD_cons_succ List.getD_nil bYa bXv bYx bYw bZg bZ3 bZw
 not_false_eq_true not_true_eq_false ne_eq bX9 bXe List.all_nil true_and and_true bY6 bX0 bYp bX6 if_true if_false bXc bXp bXz bX2 bY2
section
variable {k :IntKind}{i:Int}{b:Bool}{x:ByteArray}{xs ys:List Val}{m:Nat}
@[go_sem] theorem bPp :Val.wk (.int k i)= .int k i:=(rfl)
@[go_sem] theorem bNx :Val.wk (.bool b)= .bool b:=(rfl)
@[go_sem] theorem bPq :Val.wk (.str x)= .str x:=(rfl)
@[go_sem] theorem bWd :Val.wk (.fz xs)= .fz xs:=(rfl)
@[go_sem] theorem bWe :Val.wk (.cl xs)= .fz xs:=(rfl)
@[go_sem] theorem bWf :Val.wk (.fp xs m)= .fp xs m:=(rfl)
@[go_sem] theorem bWg :Val.wk (.fn m xs ys)= .fn m xs ys:=(rfl)
@[go_sem] theorem bNy :Val.wk .nili= .nili:=(rfl)
@[go_sem] theorem bNz :Val.wk .nilp= .nilp:=(rfl)
@[go_sem] theorem bPr {v:Val}:Val.wk (.ifc m v)= .ifc m v:=(rfl)
@[go_sem] theorem bWh :Val.wk (.fm xs ys)= .fm xs ys:=(rfl)
@[go_sem] theorem bPs :Val.wk (.agg xs)= .agg (xs.map Val.wk0):=(rfl)
@[go_sem] theorem bPt :Val.wk (.tup xs)= .tup (xs.map Val.wk1):=(rfl)
@[go_sem] theorem bN0 :Val.wk1 (.int k i)= .int k i:=(rfl)
@[go_sem] theorem bIp :Val.wk1 (.bool b)= .bool b:=(rfl)
@[go_sem] theorem bN1 :Val.wk1 (.str x)= .str x:=(rfl)
@[go_sem] theorem bPu :Val.wk1 (.fz xs)= .fz xs:=(rfl)
@[go_sem] theorem bPv :Val.wk1 (.cl xs)= .fz xs:=(rfl)
@[go_sem] theorem bPw :Val.wk1 (.fp xs m)= .fp xs m:=(rfl)
@[go_sem] theorem bPx :Val.wk1 (.fn m xs ys)= .fn m xs ys:=(rfl)
@[go_sem] theorem bIq :Val.wk1 .nili= .nili:=(rfl)
@[go_sem] theorem bIr :Val.wk1 .nilp= .nilp:=(rfl)
@[go_sem] theorem bIs :Val.wk1 .nilm= .nilm:=(rfl)
@[go_sem] theorem bN2 {v:Val}:Val.wk1 (.ifc m v)= .ifc m v:=(rfl)
@[go_sem] theorem bPy :Val.wk1 (.fm xs ys)= .fm xs ys:=(rfl)
@[go_sem] theorem bN3 :Val.wk1 (.agg xs)= .agg (xs.map Val.wk0):=(rfl)
@[go_sem] theorem bN4 :Val.wk0 (.int k i)= .int k i:=(rfl)
@[go_sem] theorem bIt :Val.wk0 (.bool b)= .bool b:=(rfl)
@[go_sem] theorem bN5 :Val.wk0 (.str x)= .str x:=(rfl)
@[go_sem] theorem bPz :Val.wk0 (.fz xs)= .fz xs:=(rfl)
@[go_sem] theorem bP0 :Val.wk0 (.cl xs)= .fz xs:=(rfl)
@[go_sem] theorem bP1 :Val.wk0 (.fp xs m)= .fp xs m:=(rfl)
@[go_sem] theorem bP2 :Val.wk0 (.fn m xs ys)= .fn m xs ys:=(rfl)
@[go_sem] theorem bIu :Val.wk0 .nili= .nili:=(rfl)
@[go_sem] theorem bIv :Val.wk0 .nilp= .nilp:=(rfl)
@[go_sem] theorem bN6 {v:Val}:Val.wk0 (.ifc m v)= .ifc m v:=(rfl)
@[go_sem] theorem bIw :Val.flat (.int k i)=true:=(rfl)
@[go_sem] theorem bG6 :Val.flat (.bool b)=true:=(rfl)
@[go_sem] theorem bIx :Val.flat (.str x)=true:=(rfl)
@[go_sem] theorem bG7 :Val.cells (.agg xs)=xs:=(rfl)
@[go_sem] theorem bG8 :Val.cells (.int k i)=[.int k i]:=(rfl)
@[go_sem] theorem bFl :Val.cells (.bool b)=[.bool b]:=(rfl)
@[go_sem] theorem bG9 :Val.cells (.str x)=[.str x]:=(rfl)
@[go_sem] theorem bIy :Val.cells (.fz xs)=[.fz xs]:=(rfl)
@[go_sem] theorem bN7 :Val.one (.int k i)=true:=(rfl)
@[go_sem] theorem bIz :Val.one (.bool b)=true:=(rfl)
@[go_sem] theorem bN8 :Val.one (.str x)=true:=(rfl)
@[go_sem] theorem bP3 :Val.one (.fz xs)=true:=(rfl)
@[go_sem] theorem dC :Val.one (.cl xs)=true:=(rfl)
@[go_sem] theorem bN9 :Val.one (.agg xs)=true:=(rfl)
end
section
variable {n :Nat}
@[go_sem] theorem bOa {b:Bool}:snapD (n+1) en (.bool b)=some (.bool b,[]):=(rfl)
@[go_sem] theorem bP4 {k:IntKind}{i:Int}:snapD (n+1) en (.int k i)=some (.int k i,[]):=(rfl)
@[go_sem] theorem bP5 {s:ByteArray}:snapD (n+1) en (.str s)=some (.str s,[]):=(rfl)
@[go_sem] theorem bOb :snapD (n+1) en .nilp=some (.nilp,[]):=(rfl)
@[go_sem] theorem bOc :snapD (n+1) en .nilm=some (.nilm,[]):=(rfl)
@[go_sem] theorem bOd :snapD (n+1) en .nilf=some (.nilf,[]):=(rfl)
@[go_sem] theorem bOe :snapD (n+1) en .nili=some (.nili,[]):=(rfl)
@[go_sem] theorem bWi {xs:List Val}:snapD (n+1) en (.fz xs)=some (.fz xs,[]):=(rfl)
@[go_sem] theorem bWj {xs:List Val}:snapD (n+1) en (.cl xs)=some (.cl xs,[]):=(rfl)
@[go_sem] theorem bWk {xs:List Val}{off:Nat}:snapD (n+1) en (.fp xs off)=some (.fp xs off,[]):=(rfl)
@[go_sem] theorem bWl {xs ys:List Val}:snapD (n+1) en (.fm xs ys)=some (.fm xs ys,[]):=(rfl)
@[go_sem] theorem bP6 {cs:List Val}:snapD (n+1) en (.agg cs)=(match dO (snapD n en) cs with|some rs=>some (.agg (rs.map (·.1)),rs.flatMap (·.2))|none=>none):=(rfl)
@[go_sem] theorem bP7 {cs:List Val}:snapD (n+1) en (.tup cs)=(match dO (snapD n en) cs with|some rs=>some (.tup (rs.map (·.1)),rs.flatMap (·.2))|none=>none):=(rfl)
@[go_sem] theorem bP8 {k:Key}{off:Nat}:snapD (n+1) en (.ptr k off)=(match en k with|some (.box cs _)=>(match dO (snapD n en) cs with|some rs=>some (.fp (rs.map (·.1)) off,k::rs.flatMap (·.2))|none=>none)|_=>none):=(rfl)
@[go_sem] theorem bWm {k:Key}{off len:Nat}:snapD (n+1) en (.bl k off len)=(match en k with|some (.blk _ xs _)=>if off+len<=xs.length then some (.fz ((xs.drop off).take len),[k])else none|_=>none):=(rfl)
end
theorem bD {L:cV}{b:cD}{Q:Ex->St->Prop}{st:St}(n:Nat)(I:Nat->St->Prop)(k0:Nat)(hle:k0<=n)(h0:I k0 st)
  (hr: ∀k st,k<=n->I k st->Wp L b st fun e st'=>match e with
   | .normal=>k<n/\ I (k+1) st'
   | .exit i=>Q (.exit i) st'
   | .ret=>Q .ret st'):Wp L (.loop b) st Q:=
 wp_loop (fun k st=>k<=n/\ I k st) (fun k=>n-k) k0 ⟨hle,h0⟩ fun k st ⟨hk,hI⟩=>wp_mono b (hr k st hk hI) fun e st' h=>by
  cases e with
  |normal=>exact⟨k+1,⟨by omega,h.2⟩,by omega⟩
  |exit i=>exact h
  |ret=>exact h
theorem bY {n:Int}(h: -9223372036854775808<=n/\ n<=9223372036854775807):IntKind.i64.wrap n=n:=IntWalk.i64_in n h
def Few (n:Nat):Prop:=n<=9223372036854775807
@[go_sem] theorem aJ {k n:Nat}(h:k<n)(hn:Few n):IntKind.i64.wrap ((k:Int)+1)=((k+1:Nat):Int):=by
 unfold Few at hn;rw[bY (by omega)];rfl
attribute [go_sem] Int.ofNat_lt Int.ofNat_le Int.ofNat_inj decide_true decide_false bXj
@[go_sem] theorem eq2 {k:IntKind}{a b c d:Int}:dA .eql (.agg [.num,.num]) (.agg [.int k a,.int k b]) (.agg [.int k c,.int k d])=some (.bool (decide (a=c)&&decide (b=d))):=by
 simp only[dA,mV,bXu,bYb,and_self,if_true,iL,vY];have e:(a==c)=decide (a=c):=by by_cases h:a=c<;>simp[h]
 have e':(b==d)=decide (b=d):=by by_cases h:b=d<;>simp[h]
 rw[e,e']
 by_cases h:a=c<;>by_cases h':b=d<;>simp[h,h']
@[go_sem] theorem ne2 {k:IntKind}{a b c d:Int}:dA .neq (.agg [.num,.num]) (.agg [.int k a,.int k b]) (.agg [.int k c,.int k d])=some (.bool (!(decide (a=c)&&decide (b=d)))):=by
 simp only[dA,mV,bXu,bYb,and_self,if_true,iL,vY];have e:(a==c)=decide (a=c):=by by_cases h:a=c<;>simp[h]
 have e':(b==d)=decide (b=d):=by by_cases h:b=d<;>simp[h]
 rw[e,e']
 by_cases h:a=c<;>by_cases h':b=d<;>simp[h,h']
end
end Go.Abs
