/- The interpreter of the translated code, and its proof: part D. -/
import Derived.Test.YthpmfghgoabnhaaGreatHxA
import Derived.Test.YthpmfghgoabnhaaGreatHxC
import Derived.IntWalk
set_option linter.all false
open Bool renaming and_false → bWn, and_true → bW7, false_and → bV5, false_eq_true → bVd, not_false → bVz, not_true → bVq, true_and → bVy
open List renaming all_cons → bVf, append_nil → bWw, cons_append → bXe, drop_eq_getElem_cons → bWc, flatMap_cons → bX0, flatMap_nil → bXu, getD_cons_zero → bX5, getElem?_eq_getElem → bWo, length_cons → bVu, length_map → bVk, length_nil → bWa, map_cons → bV9, map_nil → bVv, nil_append → bWv, take_zero → bXa
open Nat renaming add_zero → bWu, le_refl → bVe, zero_add → bWb
open Option renaming map_eq_some_iff → bVr, map_some → bV8
open Option.some renaming injEq → bVb
namespace Go.Abs
def CLe (c c':cM):Prop:= ∀f a r,c f a=some r->c' f a=some r
def ILe (i j:Inl):Prop:=(∀f a s r,i.fn f a s=some r->j.fn f a s=some r)/\ ∀k a s r,i.yld k a s=some r->j.yld k a s=some r
def XLe (x y:cA->St->Option (Ex×St)):Prop:= ∀c s r,x c s=some r->y c s=some r
theorem aUf {n:Nat}{c c':cM}(h:CLe c c'){me d g:Nat}{en:En}{get:Opd->Val}{op:LOp}{r:Res}(he:eval n c me d g en get op=some r):eval n c' me d g en get op=some r:=by
 by_cases hc: ∃f args,op= .call f args
 ·obtain⟨f,args,rfl⟩:=hc;simp only[eval]at he⊢
  split at he
  case h_2=>cases he
  split at he
  case h_2=>cases he
  split at he
  case h_2=>cases he
  rename_i hv;rw[h _ _ _ hv];exact he
 ·cases op<;>first|exact absurd ⟨_,_,rfl⟩ hc|exact he
theorem aIx {i j:Inl}(h:ILe i j){f:Val}{a:List Val}{s:St}{r:Val×St}(he:i.call f a s=some r):j.call f a s=some r:=by
 cases f<;>simp only[Inl.call,reduceCtorEq]at he⊢
 ·exact h.1 _ _ _ _ he
 ·exact h.2 _ _ _ _ he
theorem aG8 {n:Nat}{c c':cM}{i j:Inl}(hc:CLe c c')(hi:ILe i j){st:St}{o:bE}{r:St×Res}(h:step n c i 0 st o=some r):step n c' j 0 st o=some r:=by
 obtain⟨dst,op,g⟩:=o;simp only[step]at h⊢
 split at h
 ·exact h
 ·cases op with
  |icall f args=>
   simp only at h⊢
   split at h
   case h_2=>cases h
   rename_i hv;rw[aIx hi hv];exact h
  |_=>
   simp only at h⊢
   split at h
   case h_2=>cases h
   rename_i hv;rw[aUf hc hv];exact h
 ·cases h
theorem aCu {n:Nat}{c c':cM}{i j:Inl}(hc:CLe c c')(hi:ILe i j): ∀(l:List bE) {st r:St},oI n c i 0 l st=some r->oI n c' j 0 l st=some r
 |[],_,_,h=>h
 |o::l,st,r,h=>by
  simp only[oI]at h⊢
  split at h
  case h_2=>cases h
  rename_i hs;rw[aG8 hc hi hs];exact aCu hc hi l h
theorem aCv {n:Nat}{c c':cM}{i j:Inl}(hc:CLe c c')(hi:ILe i j): ∀(l:List bE) {st:St} {r:St×List Res},oJ n c i 0 l st=some r->oJ n c' j 0 l st=some r
 |[],_,_,h=>h
 |o::l,st,r,h=>by
  simp only[oJ]at h⊢
  split at h
  case h_2=>cases h
  rename_i hs;rw[aG8 hc hi hs]
  split at h
  case h_2=>cases h
  rename_i hr;simp only[aCv hc hi l hr];exact h
theorem sV {x y:cA->St->Option (Ex×St)}(h:XLe x y){lf:aM}{n:Nat}{a:List Val}{r:Val}(hb:gD lf n x a=some r):gD lf n y a=some r:=by
 simp only[gD]at hb⊢
 split at hb
 case h_2=>cases hb
 rename_i hx;rw[h _ _ _ hx];exact hb
theorem aG9 {a b a' b':Option Val}{r:Val}(ha: ∀r,a=some r->a'=some r)(hb: ∀r,b=some r->b'=some r)(h:iC a b=some r):iC a' b'=some r:=by
 unfold iC at h
 split at h<;>first|(cases h;done)|(rw[ha _ rfl,hb _ rfl];exact h)
theorem aHa {L:cO}{x y:cA->St->Option (Ex×St)}(h:XLe x y){n:Nat}:CLe (jV L n x) (jV L n y):=by
 intro f a r hc;simp only[jV]at hc⊢
 split at hc
 ·cases hc
 split at hc
 case isFalse=>cases hc
 rename_i hl;rw[if_pos hl]
 split at hc
 ·rename_i ha;rw[if_pos ha];exact aG9 (fun _=>sV h) (fun _=>sV h) hc
 ·rename_i ha;rw[if_neg ha];exact sV h hc
theorem aK8 {L:cO}{x y:cA->St->Option (Ex×St)}(h:XLe x y):ILe (pT L x) (pT L y):=by
 refine⟨fun f a s r hc=>?_,fun k a s r hc=>?_⟩
 ·simp only[pT,oW]at hc⊢
  split at hc
  ·cases hc
  split at hc
  case isFalse=>cases hc
  rename_i hl;rw[if_pos hl]
  split at hc
  ·rename_i ha;rw[if_pos ha];obtain⟨v,hv,rfl⟩:=bVr.1 hc;rw[aG9 (fun _=>sV h) (fun _=>sV h) hv];rfl
  ·rename_i ha;rw[if_neg ha]
   split at hc
   case h_2=>cases hc
   rename_i hx;rw[h _ _ _ hx];exact hc
 ·simp only[pT,zT]at hc⊢
  split at hc
  case h_2=>cases hc
  split at hc
  case isFalse=>cases hc
  rename_i hl;rw[if_pos hl]
  split at hc
  case h_2=>cases hc
  rename_i hx;rw[h _ _ _ hx]
  split at hc
  case h_2=>cases hc
  rename_i hk;simp only[hk]
  split at hc
  case h_2=>cases hc
  rename_i hx2;simp only[h _ _ _ hx2];exact hc
theorem aN2 {L:cO}{x y:cA->St->Option (Ex×St)}(h:XLe x y){g:Val}{ps:List Nat}{a b:cA}{st:St}{r:Ex×St}(hr:oK L x g ps a b st=some r):oK L y g ps a b st=some r:=by
 unfold oK at hr⊢
 split at hr
 case h_2=>cases hr
 simp only at hr⊢
 split at hr
 case h_2=>cases hr
 rename_i hx;have:=(aK8 h (L:=L)).1 _ _ _ _ hx;simp only[pT]at this;rw[this];exact hr
theorem aUg (L:cO): ∀n,XLe (exec L n) (exec L (n+1)):=by
 intro n
 induction n with
 |zero=>intro c s r h;simp[exec]at h
 |succ n ih=>
  intro c s r h;have hc:=aHa ih (L:=L) (n:=8);have hi:=aK8 ih (L:=L);cases c with
  |skip=>exact h
  |ops l=>
   rw[exec]at h⊢;obtain⟨st,hs,rfl⟩:=bVr.1 h;rw[aCu hc hi l hs];rfl
  |draw l ps=>
   rw[exec]at h⊢
   split at h
   case h_2=>cases h
   rename_i hs;rw[aCv hc hi l hs];exact h
  |seq a b=>
   rw[exec]at h⊢;cases hx:exec L n a s with
   |none=>rw[hx]at h;cases h
   |some p=>
    obtain⟨e,st⟩:=p;rw[hx]at h;rw[ih _ _ _ hx];cases e with
    |normal=>exact ih _ _ _ h
    |exit i=>exact h
    |ret=>exact h
  |cond z a b=>
   rw[exec]at h⊢
   split at h
   ·exact ih _ _ _ h
   ·exact ih _ _ _ h
   ·cases h
  |block id b=>
   rw[exec]at h⊢;cases hx:exec L n b s with
   |none=>rw[hx]at h;cases h
   |some p=>
    obtain⟨e,st⟩:=p;rw[hx]at h;rw[ih _ _ _ hx];exact h
  |loop b=>
   rw[exec]at h⊢;cases hx:exec L n b s with
   |none=>rw[hx]at h;cases h
   |some p=>
    obtain⟨e,st⟩:=p;rw[hx]at h;rw[ih _ _ _ hx];cases e with
    |normal=>exact ih _ _ _ h
    |exit i=>exact h
    |ret=>exact h
  |exit i=>exact h
  |ret=>exact h
  |rangeF g ps a b=>
   rw[exec]at h⊢;exact aN2 ih h
theorem aZ1 (L:cO){n m:Nat}(h:n<=m):XLe (exec L n) (exec L m):=by
 induction h with
 |refl=>intro c s r h;exact h
 |step _ ih=>intro c s r h;exact aUg L _ _ _ _ (ih _ _ _ h)
theorem aW5 {L:cO}{n m:Nat}(h:n<=m){f:Nat}{a:List Val}{r:Val}(hr:pC L n f a=some r):pC L m f a=some r:=aHa (aZ1 L h) _ _ _ hr
end Go.Abs
namespace Go.Abs
def PC (L:cO)(f:Nat)(args:List Val)(r:Val):Prop:= ∃n0,∀n,n0<=n->pC L n f args=some r
def Ev (L:cO)(c:cA)(st:St)(e:Ex)(st':St):Prop:= ∃n0,∀n,n0<=n->exec L n c st=some (e,st')
def WIn (L:cO)(f:Val)(args:List Val)(en:En)(cnt:Nat->Nat->Nat)(Q:Val->En->(Nat->Nat->Nat)->Prop):Prop:=
 ∃v en' cnt',(∃n0,∀n,n0<=n-> ∀fr,(pT L (exec L n)).call f args ⟨fr,en,cnt⟩=some (v,⟨fr,en',cnt'⟩))/\ Q v en' cnt'
theorem WIn.mono {L:cO}{f:Val}{args:List Val}{en:En}{cnt:Nat->Nat->Nat}{Q R:Val->En->(Nat->Nat->Nat)->Prop}
  (h:WIn L f args en cnt Q) (k: ∀v en' cnt',Q v en' cnt'->R v en' cnt'):WIn L f args en cnt R:=by
 obtain⟨v,en',cnt',h1,h2⟩:=h;exact⟨v,en',cnt',h1,k _ _ _ h2⟩
theorem PC.det {L:cO}{f:Nat}{args:List Val}{r s:Val}(h:PC L f args r)(k:PC L f args s):s=r:=by
 obtain⟨n,h⟩:=h;obtain⟨m,k⟩:=k;have h1:=h (max n m) (by omega);have h2:=k (max n m) (by omega)
 rw[h1]at h2;cases h2;rfl
theorem PC.is {L:cO}{f:Nat}{args:List Val}{r s:Val}(h:PC L f args r):PC L f args s↔s=r:=
 ⟨fun k=>h.det k,fun e=>e▸h⟩
def bDa :cM:=fun _ _=>none
def snapD :Nat->En->Val->Option (Val×List Key)
 |0,_,_=>none
 |n+1,en,v=>
  match v with
  | .ptr k off=>match en k with
   |some (.box cs _)=>match dH (snapD n en) cs with
    |some rs=>some (.fp (rs.map (·.1)) off,k::rs.flatMap (·.2))
    |none=>none
   |_=>none
  | .ep k i off=>match en k with
   |some (.blk _ xs _)=>match xs[i]? with
    |some x=>some (.fp x.cells off,[k])
    |none=>none
   |_=>none
  | .bl k off len=>match en k with
   |some (.blk _ xs _)=>if off+len<=xs.length then some (.fz ((xs.drop off).take len),[k])else none
   |_=>none
  | .mp k=>match en k with
   |some (.map ks vs _)=>some (.fm ks vs,[k])
   |_=>none
  | .yld _| .it _=>none
  | .fn f a b=>match dH (snapD n en) a with
   |some x=>match dH (snapD n en) b with
    |some y=>some (.fn f (x.map (·.1)) (y.map (·.1)),x.flatMap (·.2)++y.flatMap (·.2))
    |none=>none
   |none=>none
  | .ifc t v=>match snapD n en v with
   |some r=>some (.ifc t r.1,r.2)
   |none=>none
  | .agg cs=>match dH (snapD n en) cs with
   |some rs=>some (.agg (rs.map (·.1)),rs.flatMap (·.2))
   |none=>none
  | .tup vs=>match dH (snapD n en) vs with
   |some rs=>some (.tup (rs.map (·.1)),rs.flatMap (·.2))
   |none=>none
  |v=>some (v,[])
theorem aEs {α β:Type}{f g:α->Option β}(h: ∀x y,f x=some y->g x=some y): ∀{l:List α} {r:List β},dH f l=some r->dH g l=some r:=by
 intro l
 induction l with
 |nil=>intro r h';exact h'
 |cons x xs ih=>
  intro r h';simp only[dH]at h'⊢
  split at h'
  ·rename_i y hy
   split at h'
   ·rename_i ys hys;rw[h x y hy,ih hys];exact h'
   ·cases h'
  ·cases h'
theorem vQ (en:En): ∀(n:Nat) (v:Val) (r:Val×List Key),snapD n en v=some r-> ∀m,n<=m->snap m en v=some r:=by
 intro n
 induction n with
 |zero=>intro v r h;simp[snapD]at h
 |succ n ih=>
  intro v r h m hm;obtain⟨m,rfl⟩: ∃k,m=k+1:=⟨m-1,by omega⟩
  have hl: ∀{l:List Val} {rs:List (Val×List Key)},dH (snapD n en) l=some rs->dH (snap m en) l=some rs:=
   fun h=>aEs (fun x y hx=>ih x y hx m (by omega)) h
  cases v with
  |ptr k off=>
   simp only[snapD]at h;simp only[snap]
   split at h
   ·rename_i hk
    split at h
    ·rename_i hrs;simp only[bVb]at h;subst h;simp only[hk,hl hrs,Option.map]
    ·cases h
   ·cases h
  |fn f a b=>
   simp only[snapD]at h;simp only[snap]
   split at h
   ·rename_i hx
    split at h
    ·rename_i hy;simp only[bVb]at h;subst h;simp only[hl hx,hl hy,Option.map]
    ·cases h
   ·cases h
  |ifc t v=>
   simp only[snapD]at h;simp only[snap]
   split at h
   ·rename_i hx;simp only[bVb]at h;subst h;simp only[ih _ _ hx m (by omega),Option.map]
   ·cases h
  |agg cs=>
   simp only[snapD]at h;simp only[snap]
   split at h
   ·rename_i hx;simp only[bVb]at h;subst h;simp only[hl hx,Option.map]
   ·cases h
  |tup vs=>
   simp only[snapD]at h;simp only[snap]
   split at h
   ·rename_i hx;simp only[bVb]at h;subst h;simp only[hl hx,Option.map]
   ·cases h
  |_=>exact h
def cP (d g:Nat)(en:En)(get:Opd->Val):LOp->Option Res
 | .bslice len size z parts=>
  if len*size<=16777216 then
   match dH (fun p=>match snapD 8 en (get p.2)with|some r=>some ((p.1,r.1.wk1),r.2)|none=>none) parts with
   |some ps=>match fC (List.replicate len (kF size z false)) size (ps.map (·.1))with
    |some xs=>some {v:= .cl xs,ws:=(ps.flatMap (·.2)).map .frz,rs:=(ps.flatMap (·.2)).map .val}
    |none=>none
   |none=>none
  else none
 | .store m a x=>
  let v:=get x
  if v.one=true/\ v.cells.length=m then
   match get a with
   | .ptr k off=>match en k with
    |some (.box cs false)=>if off+m<=cs.length then some {v:= .tup [],ws:=[.cells k off v.cells],rs:=[.flag k]}else none
    |_=>none
   | .ep k i off=>match en k with
    |some (.blk _ xs false)=>match xs[i]? with
     |some y=>if off+m<=y.cells.length then
       match snapD 8 en v with
       |some (v',ks)=>if v'.one=true/\ v'.cells.length=m/\ ks.all (fun k'=>decide (k'≠k))=true then some {v:= .tup [],ws:=ks.map .frz++[.elem k i off v'.wk1.cells],rs:= .val k:: .flag k::ks.map .val}else none
       |none=>none
      else none
     |none=>none
    |_=>none
   |_=>none
  else none
 | .call _ _| .icall _ _=>none
 |op=>eval 8 bDa 0 d g en get op
theorem aW6 {d g:Nat}{en:En}{get:Opd->Val}{op:LOp}{r:Res}(h:cP d g en get op=some r)(call:cM)(n:Nat)(hn:8<=n):
  eval n call 0 d g en get op=some r:=by
 cases op with
 |bslice len size z parts=>
  simp only[cP]at h;simp only[eval]
  split at h
  ·rename_i hc;rw[if_pos hc]
   split at h
   ·rename_i ps hps;have:dH (fun p=>(snap n en (get p.2)).map fun r=>((p.1,r.1.wk1),r.2)) parts=some ps:=by
     refine aEs (fun x y hx=>?_) hps
     split at hx
     ·rename_i r hr;simp only[bVb]at hx;subst hx;rw[vQ en 8 _ _ hr n hn];rfl
     ·cases hx
    rw[this];exact h
   ·cases h
  ·cases h
 |store m a x=>
  simp only[cP]at h;simp only[eval]
  split at h
  ·rename_i hc;rw[if_pos hc]
   split at h
   ·rename_i hg;simp only[hg];exact h
   ·rename_i hg;simp only[hg]
    split at h
    ·rename_i he;simp only[he]
     split at h
     ·rename_i hy;simp only[hy]
      split at h
      ·rename_i hl;rw[if_pos hl]
       split at h
       ·rename_i hs;simp only[vQ en 8 _ _ hs n hn];exact h
       ·cases h
      ·cases h
     ·cases h
    ·cases h
   ·cases h
  ·cases h
 |call f a=>simp[cP]at h
 |icall f a=>simp[cP]at h
 |_=>exact h
def WOp (L:cO)(d g:Nat)(en:En)(get:Opd->Val)(op:LOp)(K:Res->Prop):Prop:=
 match op with
 | .call f args=>match get f with
  | .fn f a b=>match dH (snapD 8 en) (a++args.map get++b)with
   |some rs=> ∃r,PC L f (rs.map (·.1.wk1)) r/\ K (eW 0 d g r (rs.flatMap (·.2)))
   |none=>False
  |_=>False
 |op=>match cP d g en get op with
  |some r=>K r
  |none=>False
theorem bDb {L:cO}{d g:Nat}{en:En}{get:Opd->Val}{op:LOp}{K:Res->Prop}(h:WOp L d g en get op K):
  ∃r,(∃n0,∀n,n0<=n->eval 8 (pC L n) 0 d g en get op=some r)/\ K r:=by
 have oth:(match cP d g en get op with|some r=>K r|none=>False)-> ∃r,(∃n0,∀n,n0<=n->eval 8 (pC L n) 0 d g en get op=some r)/\ K r:=by
  intro h
  split at h
  ·rename_i r hr;exact⟨r,⟨0,fun n _=>aW6 hr _ 8 (bVe _)⟩,h⟩
  ·exact h.elim
 cases op with
 |call f args=>
  simp only[WOp]at h
  split at h
  ·rename_i f' a b hf
   split at h
   ·rename_i rs hrs;obtain⟨r,⟨n1,h1⟩,hk⟩:=h
    refine⟨_,⟨n1,fun n hn=>?_⟩,hk⟩
    have:dH (fun x=>snap 8 en x) (a++args.map get++b)=some rs:=aEs (fun x y hx=>vQ en 8 x y hx 8 (bVe _)) hrs
    simp only[eval,hf,this,h1 n (by omega)]
   ·exact h.elim
  ·exact h.elim
 |_=>exact oth h
def mE (L:cO)(st:St)(o:bE)(K:St->Res->Prop):Prop:=
 match wanted st.fr o.guard with
 |some true=>match o.op with
  | .icall f args=>WIn L (St.get st.fr f) (args.map (St.get st.fr)) st.en st.cnt fun v en' cnt'=>K ⟨fN st.fr o.dst v,en',cnt'⟩ {v,mem:=some (en',cnt'),unch:=fun k=>aDy (st.en k) (en' k)}
  |op=>WOp L (o.dst.getD 0) (st.cnt 0 (o.dst.getD 0)) st.en (St.get st.fr) op fun r=>(r.bump&&o.dst.isNone)=false/\
    K ⟨fN st.fr o.dst r.v,W.applyAll st.en r.ws,if r.bump then aP st.cnt 0 (o.dst.getD 0) (st.cnt 0 (o.dst.getD 0)+1)else st.cnt⟩ r
 |some false=>K ⟨fN st.fr o.dst (.tup []),st.en,st.cnt⟩ {v:= .tup []}
 |none=>False
def iV (L:cO):List bE->St->(St->Prop)->Prop
 |[],st,Q=>Q st
 |o::l,st,Q=>mE L st o fun st' _=>iV L l st' Q
def zE (L:cO):List bE->St->(St->List Res->Prop)->Prop
 |[],st,Q=>Q st []
 |o::l,st,Q=>mE L st o fun st' r=>zE L l st' fun st'' rs=>Q st'' (r::rs)
def oX (cnt:Nat->Nat->Nat):Key:=⟨1,0,cnt 1 0⟩
def Wp (L:cO):cA->St->(Ex->St->Prop)->Prop
 | .skip,st,Q=>Q .normal st
 | .ops l,st,Q=>iV L l st (Q .normal)
 | .draw l pairs,st,Q=>if pairs=[]then iV L l st (Q .normal)else zE L l st fun st' rs=>nM rs pairs=true/\ Q .normal st'
 | .seq a b,st,Q=>Wp L a st fun e st'=>match e with
  | .normal=>Wp L b st' Q
  | .exit i=>Q (.exit i) st'
  | .ret=>Q .ret st'
 | .cond x a b,st,Q=>match St.get st.fr x with
  | .bool t=>if t=true then Wp L a st Q else Wp L b st Q
  |_=>False
 | .block id b,st,Q=>Wp L b st fun e st'=>match e with
  | .exit id'=>if id'=id then Q .normal st' else Q (.exit id') st'
  | .normal=>Q .normal st'
  | .ret=>Q .ret st'
 | .loop b,st,Q=> ∃e st',Ev L (.loop b) st e st'/\ Q e st'
 | .exit id,st,Q=>Q (.exit id) st
 | .ret,st,Q=>Q .ret st
 | .rangeF g ps a b,st,Q=>
  match St.get st.fr g with
  | .fn f x y=>WIn L (.fn f x y) [.yld (oX st.cnt)] (st.en.set (oX st.cnt) (some (.loop st.fr ps a b .ready))) (aP st.cnt 1 0 (st.cnt 1 0+1)) fun _ en' cnt'=>
   match en' (oX st.cnt)with
   |some (.loop _ _ _ _ .ready)=>Q .normal ⟨st.fr,en'.set (oX st.cnt) none,cnt'⟩
   |some (.loop _ _ _ _ (.done e))=>Q e ⟨st.fr,en'.set (oX st.cnt) none,cnt'⟩
   |_=>False
  |_=>False
theorem aZ2 {n:Nat}{call:cM}{io:Inl}{st:St}{o:bE}{r:Res}(hne: ∀f a,o.op≠ .icall f a)(hw:wanted st.fr o.guard=some true)
  (he:eval n call 0 (o.dst.getD 0) (st.cnt 0 (o.dst.getD 0)) st.en (St.get st.fr) o.op=some r) (hb:(r.bump&&o.dst.isNone)=false):
  step n call io 0 st o=some (⟨fN st.fr o.dst r.v,W.applyAll st.en r.ws,if r.bump then aP st.cnt 0 (o.dst.getD 0) (st.cnt 0 (o.dst.getD 0)+1)else st.cnt⟩,r):=by
 obtain⟨dst,op,guard⟩:=o
 simp only at hw he hb hne
 cases op with
 |icall f a=>exact absurd rfl (hne _ _)
 |_=>simp only[step,hw,he,hb,bVd,if_false]
theorem aPw {L:cO}{st:St}{o:bE}{K:St->Res->Prop}(h:mE L st o K):
  ∃st' r,(∃n0,∀n,n0<=n->step 8 (pC L n) (pT L (exec L n)) 0 st o=some (st',r))/\ K st' r:=by
 unfold mE at h
 split at h
 ·rename_i hw
  split at h
  ·rename_i f args hop;obtain⟨v,en',cnt',⟨n0,hn⟩,hk⟩:=h
   refine⟨_,_,⟨n0,fun n hn'=>?_⟩,hk⟩
   simp only[step,hw,hop,hn n hn']
  ·rename_i op hne;obtain⟨r,⟨n0,hn⟩,hb,hk⟩:=bDb h;exact⟨_,r,⟨n0,fun n hn'=>aZ2 (fun f a=>hne f a) hw (hn n hn') hb⟩,hk⟩
 ·rename_i hw;exact⟨_,_,⟨0,fun n _=>by simp only[step,hw]⟩,h⟩
 ·exact h.elim
theorem aW7 {L:cO}(l:List bE): ∀{st:St} {Q:St->Prop},iV L l st Q->
  ∃st',(∃n0,∀n,n0<=n->oI 8 (pC L n) (pT L (exec L n)) 0 l st=some st')/\ Q st':=by
 induction l with
 |nil=>intro st Q h;exact⟨st,⟨0,fun n _=>rfl⟩,h⟩
 |cons o l ih=>
  intro st Q h;obtain⟨st1,r,⟨n1,h1⟩,hk⟩:=aPw h;obtain⟨st2,⟨n2,h2⟩,hq⟩:=ih hk;exact⟨st2,⟨max n1 n2,fun n hn=>by simp only[oI,h1 n (by omega),h2 n (by omega)]⟩,hq⟩
theorem bDc {L:cO}(l:List bE): ∀{st:St} {Q:St->List Res->Prop},zE L l st Q->
  ∃st' rs,(∃n0,∀n,n0<=n->oJ 8 (pC L n) (pT L (exec L n)) 0 l st=some (st',rs))/\ Q st' rs:=by
 induction l with
 |nil=>intro st Q h;exact⟨st,[],⟨0,fun n _=>rfl⟩,h⟩
 |cons o l ih=>
  intro st Q h;obtain⟨st1,r,⟨n1,h1⟩,hk⟩:=aPw h;obtain⟨st2,rs,⟨n2,h2⟩,hq⟩:=ih hk;exact⟨st2,r::rs,⟨max n1 n2,fun n hn=>by simp only[oJ,h1 n (by omega),h2 n (by omega)]⟩,hq⟩
theorem aBs {n:Nat}{call:cM}{io:Inl}(l:List bE): ∀{st st':St},oI n call io 0 l st=some st'-> ∃rs,oJ n call io 0 l st=some (st',rs):=by
 induction l with
 |nil=>intro st st' h;simp only[oI,bVb]at h;subst h;exact⟨[],rfl⟩
 |cons o l ih=>
  intro st st' h;simp only[oI]at h
  split at h
  ·rename_i st1 r hs;obtain⟨rs,hr⟩:=ih h;exact⟨r::rs,by simp only[oJ,hs,hr]⟩
  ·cases h
theorem aHb {L:cO}(c:cA): ∀{st:St} {Q:Ex->St->Prop},Wp L c st Q-> ∃e st',Ev L c st e st'/\ Q e st':=by
 induction c with
 |skip=>intro st Q h;exact⟨.normal,st,⟨1,fun n hn=>by obtain⟨m,rfl⟩: ∃m,n=m+1:=⟨n-1,by omega⟩;rfl⟩,h⟩
 |ops l=>
  intro st Q h;obtain⟨st',⟨n0,h0⟩,hq⟩:=aW7 l h
  refine⟨.normal,st',⟨n0+1,fun n hn=>?_⟩,hq⟩
  obtain⟨m,rfl⟩: ∃m,n=m+1:=⟨n-1,by omega⟩
  have:=h0 m (by omega)
  simp only[pC]at this;simp only[exec,this,Option.map]
 |draw l pairs=>
  intro st Q h;simp only[Wp]at h
  split at h
  ·rename_i hp;obtain⟨st',⟨n0,h0⟩,hq⟩:=aW7 l h
   refine⟨.normal,st',⟨n0+1,fun n hn=>?_⟩,hq⟩
   obtain⟨m,rfl⟩: ∃m,n=m+1:=⟨n-1,by omega⟩
   obtain⟨rs,hr⟩:=aBs l (h0 m (by omega))
   simp only[pC]at hr;simp only[exec,hr,hp,nM,List.all_nil,if_true]
  ·obtain⟨st',rs,⟨n0,h0⟩,hp,hq⟩:=bDc l h
   refine⟨.normal,st',⟨n0+1,fun n hn=>?_⟩,hq⟩
   obtain⟨m,rfl⟩: ∃m,n=m+1:=⟨n-1,by omega⟩
   have hr:=h0 m (by omega)
   simp only[pC]at hr;simp only[exec,hr,hp,if_true]
 |seq a b iha ihb=>
  intro st Q h;obtain⟨e,st1,⟨n1,h1⟩,hk⟩:=iha h;cases e with
  |normal=>
   obtain⟨e2,st2,⟨n2,h2⟩,hq⟩:=ihb hk
   refine⟨e2,st2,⟨max n1 n2+1,fun n hn=>?_⟩,hq⟩
   obtain⟨m,rfl⟩: ∃m,n=m+1:=⟨n-1,by omega⟩
   simp only[exec,h1 m (by omega),h2 m (by omega)]
  |exit id=>
   refine⟨_,st1,⟨n1+1,fun n hn=>?_⟩,hk⟩
   obtain⟨m,rfl⟩: ∃m,n=m+1:=⟨n-1,by omega⟩
   simp only[exec,h1 m (by omega)]
  |ret=>
   refine⟨_,st1,⟨n1+1,fun n hn=>?_⟩,hk⟩
   obtain⟨m,rfl⟩: ∃m,n=m+1:=⟨n-1,by omega⟩
   simp only[exec,h1 m (by omega)]
 |cond x a b iha ihb=>
  intro st Q h;simp only[Wp]at h
  split at h
  ·rename_i t ht;cases t with
   |true=>
    obtain⟨e,st1,⟨n1,h1⟩,hk⟩:=iha (by simpa using h)
    refine⟨e,st1,⟨n1+1,fun n hn=>?_⟩,hk⟩
    obtain⟨m,rfl⟩: ∃m,n=m+1:=⟨n-1,by omega⟩
    simp only[exec,ht,h1 m (by omega)]
   |false=>
    obtain⟨e,st1,⟨n1,h1⟩,hk⟩:=ihb (by simpa using h)
    refine⟨e,st1,⟨n1+1,fun n hn=>?_⟩,hk⟩
    obtain⟨m,rfl⟩: ∃m,n=m+1:=⟨n-1,by omega⟩
    simp only[exec,ht,h1 m (by omega)]
  ·exact h.elim
 |block id b ih=>
  intro st Q h;obtain⟨e,st1,⟨n1,h1⟩,hk⟩:=ih h;cases e with
  |exit id'=>
   simp only at hk
   by_cases hi:id'=id
   ·rw[if_pos hi]at hk
    refine⟨.normal,st1,⟨n1+1,fun n hn=>?_⟩,hk⟩
    obtain⟨m,rfl⟩: ∃m,n=m+1:=⟨n-1,by omega⟩
    simp only[exec,h1 m (by omega),hi,if_true]
   ·rw[if_neg hi]at hk
    refine⟨.exit id',st1,⟨n1+1,fun n hn=>?_⟩,hk⟩
    obtain⟨m,rfl⟩: ∃m,n=m+1:=⟨n-1,by omega⟩
    simp only[exec,h1 m (by omega),hi,if_false]
  |normal=>
   refine⟨_,st1,⟨n1+1,fun n hn=>?_⟩,hk⟩
   obtain⟨m,rfl⟩: ∃m,n=m+1:=⟨n-1,by omega⟩
   simp only[exec,h1 m (by omega)]
  |ret=>
   refine⟨_,st1,⟨n1+1,fun n hn=>?_⟩,hk⟩
   obtain⟨m,rfl⟩: ∃m,n=m+1:=⟨n-1,by omega⟩
   simp only[exec,h1 m (by omega)]
 |loop b ih=>intro st Q h;exact h
 |exit id=>intro st Q h;exact⟨.exit id,st,⟨1,fun n hn=>by obtain⟨m,rfl⟩: ∃m,n=m+1:=⟨n-1,by omega⟩;rfl⟩,h⟩
 |ret=>intro st Q h;exact⟨.ret,st,⟨1,fun n hn=>by obtain⟨m,rfl⟩: ∃m,n=m+1:=⟨n-1,by omega⟩;rfl⟩,h⟩
 |rangeF g ps a b=>
  intro st Q h;simp only[Wp]at h
  split at h
  ·rename_i f x y hg;obtain⟨v,en',cnt',⟨n1,h1⟩,hk⟩:=h;have run: ∀n,n1+1<=n-> ∀r,(match en' (oX st.cnt)with
     |some (.loop _ _ _ _ .ready)=>some (Ex.normal,{fr:=st.fr,en:=en'.set (oX st.cnt) none,cnt:=cnt':St})
     |some (.loop _ _ _ _ (.done e))=>some (e,{fr:=st.fr,en:=en'.set (oX st.cnt) none,cnt:=cnt'})
     |_=>none)=some r->exec L n (.rangeF g ps a b) st=some r:=by
    intro n hn r hr;obtain⟨m,rfl⟩: ∃m,n=m+1:=⟨n-1,by omega⟩
    have hi:=h1 m (by omega) st.fr
    simp only[Inl.call,pT]at hi;simp only[exec,hg,oK];simp only[oX]at hi hr;rw[hi];exact hr
   split at hk
   ·rename_i hl;exact⟨_,_,⟨n1+1,fun n hn=>run n hn _ (by simp only[hl])⟩,hk⟩
   ·rename_i hl;exact⟨_,_,⟨n1+1,fun n hn=>run n hn _ (by simp only[hl])⟩,hk⟩
   ·exact hk.elim
  ·exact h.elim
theorem wp_loop {α:Type}{L:cO}{b:cA}{Q:Ex->St->Prop}(I:α->St->Prop)(μ:α->Nat)(x:α){st:St}(h0:I x st)
  (hr: ∀x st,I x st->Wp L b st fun e st'=>match e with
   | .normal=> ∃y,I y st'/\ μ y<μ x
   | .exit i=>Q (.exit i) st'
   | .ret=>Q .ret st'):Wp L (.loop b) st Q:=by
 have key: ∀m x st,μ x=m->I x st-> ∃e st',Ev L (.loop b) st e st'/\ Q e st':=by
  intro m
  induction m using Nat.strongRecOn with
  |_ m ih=>
   intro x st hm hI;obtain⟨e,st1,⟨n1,h1⟩,hk⟩:=aHb b (hr x st hI);cases e with
   |normal=>
    obtain⟨y,hy,hlt⟩:=hk;obtain⟨e2,st2,⟨n2,h2⟩,hq⟩:=ih (μ y) (hm▸hlt) y st1 rfl hy
    refine⟨e2,st2,⟨max n1 n2+1,fun n hn=>?_⟩,hq⟩
    obtain⟨m',rfl⟩: ∃m,n=m+1:=⟨n-1,by omega⟩
    simp only[exec,h1 m' (by omega),h2 m' (by omega)]
   |exit id=>
    refine⟨_,st1,⟨n1+1,fun n hn=>?_⟩,hk⟩
    obtain⟨m',rfl⟩: ∃m,n=m+1:=⟨n-1,by omega⟩
    simp only[exec,h1 m' (by omega)]
   |ret=>
    refine⟨_,st1,⟨n1+1,fun n hn=>?_⟩,hk⟩
    obtain⟨m',rfl⟩: ∃m,n=m+1:=⟨n-1,by omega⟩
    simp only[exec,h1 m' (by omega)]
 exact key _ x st rfl h0
theorem iD {L:cO}{b:cA}{st:St}{Q:Ex->St->Prop}(h:Wp L b st fun e st'=>match e with
  | .normal=>Wp L (.loop b) st' Q
  | .exit i=>Q (.exit i) st'
  | .ret=>Q .ret st'):Wp L (.loop b) st Q:=by
 obtain⟨e,st1,⟨n1,h1⟩,hk⟩:=aHb b h;cases e with
 |normal=>
  obtain⟨e2,st2,⟨n2,h2⟩,hq⟩:=hk
  refine⟨e2,st2,⟨max n1 n2+1,fun n hn=>?_⟩,hq⟩
  obtain⟨m',rfl⟩: ∃m,n=m+1:=⟨n-1,by omega⟩
  simp only[exec,h1 m' (by omega),h2 m' (by omega)]
 |exit id=>
  refine⟨_,st1,⟨n1+1,fun n hn=>?_⟩,hk⟩
  obtain⟨m',rfl⟩: ∃m,n=m+1:=⟨n-1,by omega⟩
  simp only[exec,h1 m' (by omega)]
 |ret=>
  refine⟨_,st1,⟨n1+1,fun n hn=>?_⟩,hk⟩
  obtain⟨m',rfl⟩: ∃m,n=m+1:=⟨n-1,by omega⟩
  simp only[exec,h1 m' (by omega)]
theorem wp_mono {L:cO}(c:cA): ∀{st:St} {Q R:Ex->St->Prop},Wp L c st Q->(∀e st',Q e st'->R e st')->Wp L c st R:=by
 have stp: ∀{st:St} {o:bE} {K K':St->Res->Prop},mE L st o K->(∀s r,K s r->K' s r)->mE L st o K':=by
  intro st o K K' h hk;unfold mE at h⊢;split
  ·rename_i hw;simp only[hw]at h;split
   ·rename_i f args hop;simp only[hop]at h;exact h.mono fun _ _ _=>hk _ _
   ·rename_i op hne;have h':WOp L (o.dst.getD 0) (st.cnt 0 (o.dst.getD 0)) st.en (St.get st.fr) o.op fun r=>(r.bump&&o.dst.isNone)=false/\
      K ⟨fN st.fr o.dst r.v,W.applyAll st.en r.ws,if r.bump then aP st.cnt 0 (o.dst.getD 0) (st.cnt 0 (o.dst.getD 0)+1)else st.cnt⟩ r:=by
     split at h
     ·rename_i f a hx;exact absurd hx (hne f a)
     ·exact h
    have oth: ∀{K K':Res->Prop},(∀r,K r->K' r)->(match cP (o.dst.getD 0) (st.cnt 0 (o.dst.getD 0)) st.en (St.get st.fr) o.op with|some r=>K r|none=>False)->
      (match cP (o.dst.getD 0) (st.cnt 0 (o.dst.getD 0)) st.en (St.get st.fr) o.op with|some r=>K' r|none=>False):=by
     intro K K' hk h;split<;>rename_i hr<;>simp only[hr]at h;exact hk _ h
    have mono: ∀{K K':Res->Prop},(∀r,K r->K' r)->WOp L (o.dst.getD 0) (st.cnt 0 (o.dst.getD 0)) st.en (St.get st.fr) o.op K->WOp L (o.dst.getD 0) (st.cnt 0 (o.dst.getD 0)) st.en (St.get st.fr) o.op K':=by
     intro K K' hk h;generalize hop:o.op=op at h⊢oth;cases op with
     |call f args=>
      simp only[WOp]at h⊢
      split at h
      ·split at h
       ·obtain⟨r,h1,h2⟩:=h;exact⟨r,h1,hk _ h2⟩
       ·exact h.elim
      ·exact h.elim
     |_=>exact oth hk h
    exact mono (fun r ⟨h1,h2⟩=>⟨h1,hk _ _ h2⟩) h'
  ·rename_i hw;simp only[hw]at h;exact hk _ _ h
  ·rename_i hw;simp only[hw]at h
 have ops: ∀(l:List bE) {st:St} {Q R:St->Prop},iV L l st Q->(∀s,Q s->R s)->iV L l st R:=by
  intro l
  induction l with
  |nil=>intro st Q R h k;exact k _ h
  |cons o l ih=>intro st Q R h k;exact stp h fun s r hs=>ih hs k
 have rec_: ∀(l:List bE) {st:St} {Q R:St->List Res->Prop},zE L l st Q->(∀s rs,Q s rs->R s rs)->zE L l st R:=by
  intro l
  induction l with
  |nil=>intro st Q R h k;exact k _ _ h
  |cons o l ih=>intro st Q R h k;exact stp h fun s r hs=>ih hs fun s rs hq=>k _ _ hq
 induction c with
 |skip=>intro st Q R h k;exact k _ _ h
 |ops l=>intro st Q R h k;exact ops l h fun s=>k _ s
 |draw l pairs=>
  intro st Q R h k;simp only[Wp]at h⊢
  split at h
  ·rename_i hp;rw[if_pos hp];exact ops l h fun s=>k _ s
  ·rename_i hp;rw[if_neg hp];exact rec_ l h fun s rs ⟨h1,h2⟩=>⟨h1,k _ _ h2⟩
 |seq a b iha ihb=>
  intro st Q R h k
  refine iha h fun e st' hq=>?_
  cases e with
  |normal=>exact ihb hq k
  |exit i=>exact k _ _ hq
  |ret=>exact k _ _ hq
 |cond x a b iha ihb=>
  intro st Q R h k;simp only[Wp]at h⊢
  split at h
  ·rename_i t ht
   split at h
   ·rename_i htt;rw[if_pos htt];exact iha h k
   ·rename_i htt;rw[if_neg htt];exact ihb h k
  ·exact h.elim
 |block id b ih=>
  intro st Q R h k
  refine ih h fun e st' hq=>?_
  cases e with
  |normal=>exact k _ _ hq
  |exit i=>
   simp only at hq⊢
   split at hq
   ·rename_i hi;rw[if_pos hi];exact k _ _ hq
   ·rename_i hi;rw[if_neg hi];exact k _ _ hq
  |ret=>exact k _ _ hq
 |loop b ih=>intro st Q R h k;obtain⟨e,st',h1,h2⟩:=h;exact⟨e,st',h1,k _ _ h2⟩
 |exit id=>intro st Q R h k;exact k _ _ h
 |ret=>intro st Q R h k;exact k _ _ h
 |rangeF g ps a b=>
  intro st Q R h k;simp only[Wp]at h⊢
  split at h
  ·refine h.mono fun v en' cnt' hq=>?_
   split at hq
   ·exact k _ _ hq
   ·exact k _ _ hq
   ·exact hq.elim
  ·exact h.elim
theorem bDd {L:cO}{a b:cA}{st:St}{Q:Ex->St->Prop}(M:St->Prop)
  (h:Wp L a st fun e st'=>match e with| .normal=>M st'| .exit i=>Q (.exit i) st'| .ret=>Q .ret st') (k: ∀st',M st'->Wp L b st' Q):Wp L (.seq a b) st Q:=by
 refine wp_mono a h fun e st' hq=>?_
 cases e with
 |normal=>exact k _ hq
 |exit i=>exact hq
 |ret=>exact hq
def aZ3 (st:St)(lf:aM)(r:Val):Prop:=
 match dH (oV st) lf.res with
 |some vs=>match(if lf.keep then aPn st.en (yB vs)else none)with
  |some v=>v=r
  |none=>match snapD 8 st.en (yB vs)with
   |some (v,_)=>(if lf.keep then v else v.wk)=r
   |none=>False
 |none=>False
def bDe (L:cO)(lf:aM)(args:List Val)(r:Val):Prop:= ∃n0,∀n,n0<=n->gD lf 8 (exec L n) args=some r
theorem tT {L:cO}{lf:aM}{args:List Val}{r:Val}(h:Wp L lf.body (start args) fun e st=>e.ends=true/\ aZ3 st lf r):bDe L lf args r:=by
 obtain⟨e,st,⟨n1,h1⟩,he,h2⟩:=aHb _ h
 refine⟨n1,fun n hm=>?_⟩
 simp only[gD,h1 n (by omega),he,if_true,zS]
 unfold aZ3 at h2
 split at h2
 ·rename_i vs hvs;simp only[hvs]
  split at h2
  ·rename_i v hv;rw[hv,h2]
  ·rename_i hv;rw[hv]
   split at h2
   ·rename_i v ks hs;simp only[vQ _ _ _ _ hs 8 (bVe _),h2]
   ·exact h2.elim
 ·exact h2.elim
theorem aL {L:cO}{f:Nat}{lf:aM}{args:List Val}{r:Val}(hL:L f=some lf)(hn:args.length=lf.np)(ha:aCh lf args=false)
  (h:Wp L lf.body (start args) fun e st=>e.ends=true/\ aZ3 st lf r):PC L f args r:=by
 obtain⟨n1,h1⟩:=tT h
 refine⟨n1,fun n hm=>?_⟩
 simp only[pC,jV,hL,hn,if_true,ha,bVd,if_false,h1 n (by omega)]
theorem aZ4 {a b:Option Val}{r:Val}(ha:a=some r)(hb:b=some r)(hr:r= .cl [] \/r= .fz []):iC a b=some r:=by
 rcases hr with rfl|rfl<;>simp[ha,hb,iC]
theorem aN3 {L:cO}{f:Nat}{lf:aM}{args:List Val}{r:Val}(hL:L f=some lf)(hn:args.length=lf.np)(ha:aCh lf args=true)(hr:r= .cl [] \/r= .fz [])(h1:bDe L lf [.es true] r)(h2:bDe L lf [.es false] r):PC L f args r:=by
 obtain⟨n1,h1⟩:=h1;obtain⟨n2,h2⟩:=h2
 refine⟨max n1 n2,fun n hm=>?_⟩
 simp only[pC,jV,hL,hn,if_true,ha];exact aZ4 (h1 n (by omega)) (h2 n (by omega)) hr
theorem mX {L:cO}{f:Nat}{a b:List Val}{lf:aM}{args:List Val}{en:En}{cnt:Nat->Nat->Nat}{Q:Val->En->(Nat->Nat->Nat)->Prop}(hL:L f=some lf)(hn:(a++args++b).length=lf.np)(ha:aCh lf (a++args++b)=false)
  (h:Wp L lf.body ⟨fun i=>(a++args++b).getD i (.tup []),en,cnt⟩ fun e st=>e.ends=true/\ match dH (oV st) lf.res with|some vs=>Q (yB vs) st.en st.cnt|none=>False):WIn L (.fn f a b) args en cnt Q:=by
 obtain⟨e,st,⟨n1,h1⟩,he,h2⟩:=aHb _ h
 split at h2
 ·rename_i vs hvs
  refine⟨_,_,_,⟨n1,fun n hm fr=>?_⟩,h2⟩
  simp only[Inl.call,pT,oW,hL,hn,if_true,ha,bVd,if_false,h1 n hm,he,hvs,Option.map]
 ·exact h2.elim
theorem aDq {L:cO}{k:Key}{args:List Val}{en:En}{cnt:Nat->Nat->Nat}{Q:Val->En->(Nat->Nat->Nat)->Prop}{fr:Nat->Val}{ps:List Nat}{a b:cA}
  (hk:en k=some (.loop fr ps a b .ready)) (hn:args.length=ps.length)
  (h:Wp L a ⟨vF fr ps args,en,cnt⟩ fun e st=>e= .normal/\ match st.en k with
   |some (.loop fr1 ps1 a1 b1 .ready)=>Wp L b ⟨st.fr,st.en.set k (some (.loop fr1 ps1 a1 b1 .busy)),st.cnt⟩ fun e st=>match st.en k with
    |some (.loop fr2 ps2 a2 b2 .busy)=>Q (.bool (decide (e= .normal))) (st.en.set k (some (.loop fr2 ps2 a2 b2 (if e= .normal then .ready else .done e)))) st.cnt
    |_=>False
   |_=>False):WIn L (.yld k) args en cnt Q:=by
 obtain⟨e,st,⟨n1,h1⟩,rfl,h2⟩:=aHb _ h
 split at h2
 ·rename_i fr1 ps1 a1 b1 hk1;obtain⟨e2,st2,⟨n2,h3⟩,h4⟩:=aHb _ h2
  split at h4
  ·rename_i hk2
   refine⟨_,_,_,⟨max n1 n2,fun n hm fr'=>?_⟩,h4⟩
   simp only[Inl.call,pT,zT,hk,hn,if_true,h1 n (by omega),hk1,h3 n (by omega),hk2]
  ·exact h4.elim
 ·exact h2.elim
theorem bDf {L:cO}{n f:Nat}{args:List Val}{r:Val}(h:pC L n f args=some r):PC L f args r:=⟨n,fun _ hm=>aW5 hm h⟩
end Go.Abs
namespace Go.Abs
section
variable {L :cO}{fr:Nat->Val}{en:En}{cnt:Nat->Nat->Nat}{Q:St->Prop}{l:List bE}{d:Nat}{dst:Option Nat}
@[go_sem] theorem g_t {i:Nat}:St.get fr (.t i)=fr i:=(rfl)
@[go_sem] theorem g_c {v:Val}:St.get fr (.c v)=v:=(rfl)
@[go_sem] theorem g_f {i:Nat}:St.get fr (.f i)= .fn i [] []:=(rfl)
@[go_sem] theorem bTi {v:Val}:jU fr d v d=v:=by simp[jU]
@[go_sem] theorem bTj {v:Val}{i:Nat}(h: ¬i=d):jU fr d v i=fr i:=by simp[jU,h]
@[go_sem] theorem bFp {v:Val}:fN fr (some d) v=jU fr d v:=(rfl)
@[go_sem] theorem bFq {v:Val}:fN fr none v=fr:=(rfl)
@[go_sem] theorem aPx {k:Key}{e:Option Ent}:En.set en k e k=e:=by simp[En.set]
theorem dZ {k k':Key}{e:Option Ent}(h:k'≠k):En.set en k e k'=en k':=by simp[En.set,h]
@[go_sem] theorem aIy {n n' t t' g g':Nat}{e:Option Ent}(h: ¬t'=t):En.set en ⟨n,t,g⟩ e ⟨n',t',g'⟩=en ⟨n',t',g'⟩:=
 dZ fun he=>h (by injection he)
@[go_sem] theorem aPy {n n' t t' g g':Nat}{e:Option Ent}(h: ¬g'=g):En.set en ⟨n,t,g⟩ e ⟨n',t',g'⟩=en ⟨n',t',g'⟩:=
 dZ fun he=>h (by injection he)
@[go_sem] theorem bDg {n t x:Nat}:aP cnt n t x n t=x:=by simp[aP]
@[go_sem] theorem bDh {n t t' x:Nat}(h: ¬t'=t):aP cnt n t x n t'=cnt n t':=by simp[aP,h]
@[go_sem] theorem bTk (st:St):iV L [] st Q=Q st:=(rfl)
def LOp.plain :LOp->Bool
 | .call _ _| .icall _ _=>false
 |_=>true
def aEt (L:cO)(l:List bE)(dst:Option Nat)(fr:Nat->Val)(en:En)(cnt:Nat->Nat->Nat)(Q:St->Prop):Option Res->Prop
 |some r=>(r.bump&&dst.isNone)=false/\ iV L l ⟨fN fr dst r.v,W.applyAll en r.ws,if r.bump then aP cnt 0 (dst.getD 0) (cnt 0 (dst.getD 0)+1)else cnt⟩ Q
 |none=>False
@[go_sem] theorem aHc {v:Val}{ws:List W}{rs:List R}{m:Option (En×(Nat->Nat->Nat))}{u:Key->Bool}:
  aEt L l dst fr en cnt Q (some ⟨v,ws,rs,false,m,u⟩)=iV L l ⟨fN fr dst v,W.applyAll en ws,cnt⟩ Q:=by simp[aEt]
@[go_sem] theorem aBt {v:Val}{ws:List W}{rs:List R}{m:Option (En×(Nat->Nat->Nat))}{u:Key->Bool}:
  aEt L l (some d) fr en cnt Q (some ⟨v,ws,rs,true,m,u⟩)=iV L l ⟨jU fr d v,W.applyAll en ws,aP cnt 0 d (cnt 0 d+1)⟩ Q:=by simp[aEt,fN]
@[go_sem] theorem bEv :aEt L l dst fr en cnt Q none=False:=(rfl)
@[congr] theorem bDi {r r':Option Res}(h:r=r'):aEt L l dst fr en cnt Q r=aEt L l dst fr en cnt Q r':=by rw[h]
@[congr] theorem bDj {st:St}:iV L l st Q=iV L l st Q:=(rfl)
theorem aK9 {op:LOp}(h:op.plain=true):iV L (⟨dst,op,none⟩::l) ⟨fr,en,cnt⟩ Q=
  aEt L l dst fr en cnt Q (cP (dst.getD 0) (cnt 0 (dst.getD 0)) en (St.get fr) op):=by
 cases op<;>first|(simp[LOp.plain]at h;done)|rfl|(simp only[iV,mE,wanted,WOp];rfl)
@[go_sem] theorem bMr {op:LOp}(h:op.plain=true):iV L (⟨some d,op,none⟩::l) ⟨fr,en,cnt⟩ Q=
  aEt L l (some d) fr en cnt Q (cP d (cnt 0 d) en (St.get fr) op):=aK9 h
@[go_sem] theorem bMs {op:LOp}(h:op.plain=true):iV L (⟨none,op,none⟩::l) ⟨fr,en,cnt⟩ Q=
  aEt L l none fr en cnt Q (cP 0 (cnt 0 0) en (St.get fr) op):=aK9 h
@[go_sem] theorem bTl {x:Opd}:LOp.plain (.mv x)=true:=(rfl)
@[go_sem] theorem bKs {a b c:Opd}:LOp.plain (.pick a b c)=true:=(rfl)
@[go_sem] theorem bFr {z:List Val}:LOp.plain (.alloc z)=true:=(rfl)
@[go_sem] theorem bMt {n:Nat}{x:Opd}:LOp.plain (.box n x)=true:=(rfl)
@[go_sem] theorem bFs {z:List Val}{p:List (Nat×Nat×Opd)}:LOp.plain (.build z p)=true:=(rfl)
@[go_sem] theorem bEw {a b:Nat}{z:List Val}{p:List (Nat×Opd)}:LOp.plain (.bslice a b z p)=true:=(rfl)
@[go_sem] theorem bKt {a:Bool}{n:Nat}{x:Opd}:LOp.plain (.load a n x)=true:=(rfl)
@[go_sem] theorem bFt {n:Nat}{x y:Opd}:LOp.plain (.store n x y)=true:=(rfl)
@[go_sem] theorem bFu {x:Opd}:LOp.plain (.nilck x)=true:=(rfl)
@[go_sem] theorem bMu {b:BinOp}{t:EqT}{x y:Opd}:LOp.plain (.bin b t x y)=true:=(rfl)
@[go_sem] theorem bTm {u:UnOp}{x:Opd}:LOp.plain (.un u x)=true:=(rfl)
@[go_sem] theorem bKu {k:IntKind}{x:Opd}:LOp.plain (.wrap k x)=true:=(rfl)
@[go_sem] theorem bFv {t:Nat}{x:Opd}:LOp.plain (.iface t x)=true:=(rfl)
@[go_sem] theorem bEx {t:Nat}{z:Val}{b:Bool}{x:Opd}:LOp.plain (.assert t z b x)=true:=(rfl)
@[go_sem] theorem bKv {f:Nat}{a b:List Opd}:LOp.plain (.mkfn f a b)=true:=(rfl)
@[go_sem] theorem bFw  :LOp.plain (.mkmap)=true:=(rfl)
@[go_sem] theorem bKw {t:EqT}{a b c:Opd}:LOp.plain (.mput t a b c)=true:=(rfl)
@[go_sem] theorem bKx {t:EqT}{z:Val}{b:Bool}{x y:Opd}:LOp.plain (.mget t z b x y)=true:=(rfl)
@[go_sem] theorem bFx {n:Nat}{z:List Val}{x y:Opd}:LOp.plain (.mklen n z x y)=true:=(rfl)
@[go_sem] theorem bFy {b:Bool}{n:Nat}{x:Opd}{l h m:Option Opd}:LOp.plain (.slice b n x l h m)=true:=(rfl)
@[go_sem] theorem bTn {n:Nat}{x:Opd}:LOp.plain (.fa n x)=true:=(rfl)
@[go_sem] theorem bMv {b:Bool}{n m:Nat}{x:Opd}:LOp.plain (.fld b n m x)=true:=(rfl)
@[go_sem] theorem bTo {n:Nat}{x y:Opd}:LOp.plain (.ia n x y)=true:=(rfl)
@[go_sem] theorem bMw {n m:Nat}{x y:Opd}:LOp.plain (.iaa n m x y)=true:=(rfl)
@[go_sem] theorem bMx {x y:Opd}:LOp.plain (.ixs x y)=true:=(rfl)
@[go_sem] theorem bMy {b:Bool}{n m:Nat}{x y:Opd}:LOp.plain (.ixa b n m x y)=true:=(rfl)
@[go_sem] theorem bMz {n:Nat}{x:Opd}:LOp.plain (.ext n x)=true:=(rfl)
@[go_sem] theorem bM0 {t:EqT}{x:Opd}:LOp.plain (.len t x)=true:=(rfl)
theorem cW {n:Nat}{x y:Opd}:LOp.plain (.append n x y)=true:=(rfl)
@[go_sem] theorem bKy {n:Nat}{x y:Opd}:LOp.plain (.copy n x y)=true:=(rfl)
@[go_sem] theorem bEy {b:Bool}{l:List Opd}:LOp.plain (.minmax b l)=true:=(rfl)
@[go_sem] theorem bM1 {x:Opd}:LOp.plain (.rng x)=true:=(rfl)
@[go_sem] theorem bM2 {x:Opd}:LOp.plain (.nxt x)=true:=(rfl)
def nP (v:Val)(b:Bool)(yes no:Prop):Prop:=
 match v with
 | .bool b'=>if(b'==b)=true then yes else no
 | .tup []=>no
 |_=>False
@[congr] theorem bBy {v v':Val}{b:Bool}{yes no:Prop}(h:v=v'):nP v b yes no=nP v' b yes no:=by rw[h]
@[go_sem] theorem aZ5 {t:Nat}{b:Bool}{op:LOp}:iV L (⟨dst,op,some (t,b)⟩::l) ⟨fr,en,cnt⟩ Q=
  nP (fr t) b (iV L (⟨dst,op,none⟩::l) ⟨fr,en,cnt⟩ Q) (iV L l ⟨fN fr dst (.tup []),en,cnt⟩ Q):=by
 simp only[iV,mE,wanted,nP]
 split<;>rename_i h
 ·split at h
  ·rename_i b' hb;simp only[bVb]at h;simp only[hb,h,if_true]
  ·cases h
  ·cases h
 ·split at h
  ·rename_i b' hb;simp only[bVb]at h;simp only[hb,h,bVd,if_false]
  ·rename_i hb;simp only[hb]
  ·cases h
 ·split at h
  ·cases h
  ·cases h
  ·rename_i h1 h2;split
   ·rename_i b' hb;exact absurd hb (h1 _)
   ·rename_i hb;exact absurd hb h2
   ·rfl
@[go_sem] theorem bFz {yes no:Prop}:nP (.bool true) true yes no=yes:=(rfl)
@[go_sem] theorem bF0 {yes no:Prop}:nP (.bool false) false yes no=yes:=(rfl)
@[go_sem] theorem bF1 {yes no:Prop}:nP (.bool true) false yes no=no:=(rfl)
@[go_sem] theorem bF2 {yes no:Prop}:nP (.bool false) true yes no=no:=(rfl)
@[go_sem] theorem bF3 {yes no:Prop}{b:Bool}:nP (.tup []) b yes no=no:=(rfl)
theorem aY {b b':Bool}{yes no:Prop}(h:b=b'->yes)(k:b=!b'->no):nP (.bool b) b' yes no:=by
 cases b<;>cases b'<;>first|exact h rfl|exact k rfl
@[congr] theorem bEz {f:Val}{a:List Val}{K:Val->En->(Nat->Nat->Nat)->Prop}{f':Val}{a':List Val}(h:f=f')(h':a=a'):WIn L f a en cnt K=WIn L f' a' en cnt K:=by rw[h,h']
@[go_sem] theorem bKz {f:Opd}{args:List Opd}:iV L (⟨dst,.icall f args,none⟩::l) ⟨fr,en,cnt⟩ Q=
  WIn L (St.get fr f) (args.map (St.get fr)) en cnt fun v en' cnt'=>iV L l ⟨fN fr dst v,en',cnt'⟩ Q:=(rfl)
def aLa (L:cO)(f:Nat)(args:List Val)(K:Val->Prop):Prop:= ∃r,PC L f args r/\ K r
@[congr] theorem bDk {f:Nat}{a a':List Val}{K:Val->Prop}(h:a=a'):aLa L f a K=aLa L f a' K:=by rw[h]
theorem _root_.Go.Abs.PC.ret {L:cO}{f:Nat}{args:List Val}{r:Val}(h:PC L f args r){K:Val->Prop}:aLa L f args K=K r:=
 propext ⟨fun⟨s,h1,h2⟩=>h.det h1▸h2,fun h2=>⟨r,h,h2⟩⟩
def aCw (L:cO)(f:Nat)(o:Option (List (Val×List Key)))(K:Val->List Key->Prop):Prop:=
 match o with
 |some rs=>aLa L f (rs.map (·.1.wk1)) fun r=>K r (rs.flatMap (·.2))
 |none=>False
@[congr] theorem bBz {f:Nat}{o o':Option (List (Val×List Key))}{K:Val->List Key->Prop}(h:o=o'):aCw L f o K=aCw L f o' K:=by rw[h]
@[go_sem] theorem bTp {f:Nat}{rs:List (Val×List Key)}{K:Val->List Key->Prop}:aCw L f (some rs) K=aLa L f (rs.map (·.1.wk1)) fun r=>K r (rs.flatMap (·.2)):=(rfl)
def yD (L:cO)(en:En)(f:Val)(args:List Val)(K:Val->List Key->Prop):Prop:=
 match f with
 | .fn f a b=>aCw L f (dH (snapD 8 en) (a++args++b)) K
 |_=>False
@[congr] theorem bB0 {f f':Val}{a a':List Val}{K:Val->List Key->Prop}(h:f=f')(h':a=a'):yD L en f a K=yD L en f' a' K:=by rw[h,h']
@[go_sem] theorem bM3 {f:Opd}{args:List Opd}:iV L (⟨dst,.call f args,none⟩::l) ⟨fr,en,cnt⟩ Q=
  yD L en (St.get fr f) (args.map (St.get fr)) fun r ks=>aEt L l dst fr en cnt Q (some (eW 0 (dst.getD 0) (cnt 0 (dst.getD 0)) r ks)):=by
 simp only[iV,mE,wanted,WOp,yD,aCw,aLa];cases St.get fr f<;>first|rfl|skip
@[go_sem] theorem bTq {f:Nat}{a b args:List Val}{K:Val->List Key->Prop}:yD L en (.fn f a b) args K=aCw L f (dH (snapD 8 en) (a++args++b)) K:=(rfl)
def oN :Val->Bool
 | .own _ _=>true
 |_=>false
@[go_sem] theorem bB1 {me d g sz:Nat}{xs:List Val}{ks:List Key}:eW me d g (.own sz xs) ks=
  {v:= .bl ⟨me,d,g⟩ 0 xs.length,ws:=(if xs.all Val.flat1 then []else ks.map .frz)++[.ent ⟨me,d,g⟩ (some (.blk sz xs false))],rs:=ks.map .val,bump:=true}:=(rfl)
@[go_sem] theorem bB2 {me d g:Nat}{v:Val}{ks:List Key}(h:oN v=false):eW me d g v ks={v,ws:=if v.flat then []else ks.map .frz,rs:=ks.map .val}:=by
 cases v<;>first|rfl|cases h
section
variable {k :IntKind}{i:Int}{b:Bool}{x:ByteArray}{xs ys:List Val}{m:Nat}
@[go_sem] theorem bM4 :oN (.int k i)=false:=(rfl)
@[go_sem] theorem bK0 :oN (.bool b)=false:=(rfl)
@[go_sem] theorem bM5 :oN (.str x)=false:=(rfl)
@[go_sem] theorem bTr :oN (.fz xs)=false:=(rfl)
@[go_sem] theorem bTs :oN (.cl xs)=false:=(rfl)
@[go_sem] theorem bM6 :oN (.agg xs)=false:=(rfl)
@[go_sem] theorem bM7 :oN (.tup xs)=false:=(rfl)
@[go_sem] theorem bTt :oN (.fp xs m)=false:=(rfl)
@[go_sem] theorem bTu :oN (.fn m xs ys)=false:=(rfl)
@[go_sem] theorem bK1 :oN .nili=false:=(rfl)
@[go_sem] theorem bM8 {v:Val}:oN (.ifc m v)=false:=(rfl)
end
@[go_sem] theorem bF4 {α β:Type}{f:α->Option β}:dH f []=some []:=(rfl)
@[go_sem] theorem bE0 {α β:Type}{f:α->Option β}{x:α}{xs:List α}:dH f (x::xs)=(match f x with|some y=>(match dH f xs with|some ys=>some (y::ys)|none=>none)|none=>none):=(rfl)
@[go_sem] theorem bE1 {cs:List Val}:fW true cs=some (.agg cs):=(rfl)
@[go_sem] theorem bE2 {v:Val}:fW false [v]=some v:=(rfl)
attribute [go_sem] o og on ong
def vR (cs:List Val)(off:Nat):Option Val:=cs[off]?
@[go_sem] theorem bF5 {v:Val}{cs:List Val}:vR (v::cs) 0=some v:=(rfl)
@[go_sem] theorem bF6 {v:Val}{cs:List Val}{n:Nat}:vR (v::cs) (n+1)=vR cs n:=(rfl)
section
variable {g :Nat}{get:Opd->Val}
@[go_sem] theorem bTv {x:Opd}:cP d g en get (.mv x)=some {v:=get x}:=(rfl)
def aIz (c a b:Val):Option Res:=match c with| .bool t=>some {v:=if t then a else b}|_=>none
@[go_sem] theorem bK2 {c a b:Opd}:cP d g en get (.pick c a b)=aIz (get c) (get a) (get b):=(rfl)
@[go_sem] theorem bM9 {a b:Val}:aIz (.bool true) a b=some {v:=a}:=(rfl)
@[go_sem] theorem bNa {a b:Val}:aIz (.bool false) a b=some {v:=b}:=(rfl)
@[go_sem] theorem bNb {t a b:Bool}:aIz (.bool t) (.bool a) (.bool b)=some {v:= .bool (if t then a else b)}:=by cases t<;>rfl
@[go_sem] theorem bF7 {z:List Val}:cP d g en get (.alloc z)=some {v:= .ptr ⟨0,d,g⟩ 0,ws:=[.ent ⟨0,d,g⟩ (some (.box z false))],bump:=true}:=(rfl)
def nQ (d g m:Nat)(x:Val):Option Res:=if x.one=true/\ x.cells.length=m then some {v:= .ptr ⟨0,d,g⟩ 0,ws:=[.ent ⟨0,d,g⟩ (some (.box x.cells false))],bump:=true}else none
@[go_sem] theorem bNc {m:Nat}{x:Opd}:cP d g en get (.box m x)=nQ d g m (get x):=(rfl)
@[go_sem] theorem bK3 {m:Nat}{cs:List Val}(h:cs.length=m):nQ d g m (.agg cs)=some {v:= .ptr ⟨0,d,g⟩ 0,ws:=[.ent ⟨0,d,g⟩ (some (.box cs false))],bump:=true}:=by simp[nQ,Val.one,Val.cells,h]
@[go_sem] theorem bK4 {k:IntKind}{n:Int}:nQ d g 1 (.int k n)=some {v:= .ptr ⟨0,d,g⟩ 0,ws:=[.ent ⟨0,d,g⟩ (some (.box [.int k n] false))],bump:=true}:=by simp[nQ,Val.one,Val.cells]
@[go_sem] theorem bF8 {b:Bool}:nQ d g 1 (.bool b)=some {v:= .ptr ⟨0,d,g⟩ 0,ws:=[.ent ⟨0,d,g⟩ (some (.box [.bool b] false))],bump:=true}:=by simp[nQ,Val.one,Val.cells]
@[go_sem] theorem bK5 {b:ByteArray}:nQ d g 1 (.str b)=some {v:= .ptr ⟨0,d,g⟩ 0,ws:=[.ent ⟨0,d,g⟩ (some (.box [.str b] false))],bump:=true}:=by simp[nQ,Val.one,Val.cells]
@[go_sem] theorem bNd {xs:List Val}:nQ d g 1 (.fz xs)=some {v:= .ptr ⟨0,d,g⟩ 0,ws:=[.ent ⟨0,d,g⟩ (some (.box [.fz xs] false))],bump:=true}:=by simp[nQ,Val.one,Val.cells]
@[go_sem] theorem bNe {xs:List Val}{i:Nat}:nQ d g 1 (.fp xs i)=some {v:= .ptr ⟨0,d,g⟩ 0,ws:=[.ent ⟨0,d,g⟩ (some (.box [.fp xs i] false))],bump:=true}:=by simp[nQ,Val.one,Val.cells]
@[go_sem] theorem bK6 {k:Key}{i:Nat}:nQ d g 1 (.ptr k i)=some {v:= .ptr ⟨0,d,g⟩ 0,ws:=[.ent ⟨0,d,g⟩ (some (.box [.ptr k i] false))],bump:=true}:=by simp[nQ,Val.one,Val.cells]
@[go_sem] theorem bNf {f:Nat}{a b:List Val}:nQ d g 1 (.fn f a b)=some {v:= .ptr ⟨0,d,g⟩ 0,ws:=[.ent ⟨0,d,g⟩ (some (.box [.fn f a b] false))],bump:=true}:=by simp[nQ,Val.one,Val.cells]
@[go_sem] theorem bF9 {z:List Val}{ps:List (Nat×Nat×Opd)}:cP d g en get (.build z ps)=(pL z (ps.map fun p=>(p.1,p.2.1,get p.2.2))).map fun cs=>{v:= .agg cs}:=(rfl)
@[go_sem] theorem bK7 {agg:Bool}{m:Nat}{a:Opd}:cP d g en get (.load agg m a)=(match oH en (get a) m with|some (cs,rs)=>(fW agg cs).map fun v=>{v,rs}|none=>none):=(rfl)
@[go_sem] theorem bNg {op:BinOp}{t:EqT}{x y:Opd}:cP d g en get (.bin op t x y)=(cT op t (get x) (get y)).map fun v=>{v}:=(rfl)
def aW8 (x:Val):Option Res:=match x with| .bool b=>some {v:= .bool !b}|_=>none
def aW9 (x:Val):Option Res:=match x with| .int k a=>some {v:= .int k (k.wrap (0-a))}|_=>none
@[go_sem] theorem bNh {x:Opd}:cP d g en get (.un .not x)=aW8 (get x):=by
 simp only[cP,eval,aW8];cases get x<;>rfl
@[go_sem] theorem bNi {x:Opd}:cP d g en get (.un .neg x)=aW9 (get x):=by
 simp only[cP,eval,aW9];cases get x<;>rfl
@[go_sem] theorem bTw {b:Bool}:aW8 (.bool b)=some {v:= .bool !b}:=(rfl)
@[go_sem] theorem bTx {k:IntKind}{a:Int}:aW9 (.int k a)=some {v:= .int k (k.wrap (0-a))}:=(rfl)
def aXa (k:IntKind)(x:Val):Option Res:=match x with| .int _ a=>some {v:= .int k (k.wrap a)}|_=>none
@[go_sem] theorem bK8 {k:IntKind}{x:Opd}:cP d g en get (.wrap k x)=aXa k (get x):=(rfl)
@[go_sem] theorem bNj {k j:IntKind}{a:Int}:aXa k (.int j a)=some {v:= .int k (k.wrap a)}:=(rfl)
@[go_sem] theorem bGa {t:Nat}{x:Opd}:cP d g en get (.iface t x)=if(get x).one=true then some {v:= .ifc t (get x)}else none:=(rfl)
def aAf (t:Nat)(z:Val)(ok:Bool)(x:Val):Option Res:=match x with
 | .ifc t' v=>if t'=t then some {v:=if ok then .tup [v,.bool true]else v}else if ok then some {v:= .tup [z,.bool false]}else none
 | .nili=>if ok then some {v:= .tup [z,.bool false]}else none
 |_=>none
@[go_sem] theorem bE3 {t:Nat}{z:Val}{ok:Bool}{x:Opd}:cP d g en get (.assert t z ok x)=aAf t z ok (get x):=(rfl)
@[go_sem] theorem bDl {t t':Nat}{z v:Val}:aAf t z true (.ifc t' v)=some {v:=if t'=t then .tup [v,.bool true]else .tup [z,.bool false]}:=by
 simp only[aAf];split<;>simp
@[go_sem] theorem bDm {t:Nat}{z:Val}:aAf t z true .nili=some {v:= .tup [z,.bool false]}:=(rfl)
@[go_sem] theorem bK9 {f:Nat}{a b:List Opd}:cP d g en get (.mkfn f a b)=some {v:= .fn f (a.map get) (b.map get)}:=(rfl)
@[go_sem] theorem bGb :cP d g en get .mkmap=some {v:= .mp ⟨0,d,g⟩,ws:=[.ent ⟨0,d,g⟩ (some (.map [] [] false))],bump:=true}:=(rfl)
def aEu (t:EqT)(en:En)(x:Val):Option Res:=match t with
  | .map=>match x with
   | .mp key=>match en key with
    |some (.map ks _ _)=>some {v:= .int .i64 ks.length,rs:=[.val key]}
    |_=>none
   | .fm ks _=>some {v:= .int .i64 ks.length}
   | .nilm=>some {v:= .int .i64 0}
   |_=>none
  | .str=>match x with
   | .str s=>some {v:= .int .i64 s.size}
   |_=>none
  | .slice=>(uR x).map fun m=>{v:= .int .i64 m}
  |_=>none
@[go_sem] theorem bNk {t:EqT}{x:Opd}:cP d g en get (.len t x)=aEu t en (get x):=(rfl)
@[go_sem] theorem bTy {x:Val}:aEu .slice en x=(uR x).map fun(m:Nat)=>{v:= .int .i64 (m:Int)}:=by simp only[aEu];cases uR x<;>rfl
@[go_sem] theorem bLa {s:ByteArray}:aEu .str en (.str s)=some {v:= .int .i64 s.size}:=(rfl)
@[go_sem] theorem bGc :aEu .map en .nilm=some {v:= .int .i64 0}:=(rfl)
@[go_sem] theorem bNl {ks vs:List Val}:aEu .map en (.fm ks vs)=some {v:= .int .i64 ks.length}:=(rfl)
@[go_sem] theorem bGd {xs:List Val}:uR (.fz xs)=some xs.length:=(rfl)
@[go_sem] theorem bGe {xs:List Val}:uR (.cl xs)=some xs.length:=(rfl)
@[go_sem] theorem bGf {k:Key}{o n:Nat}:uR (.bl k o n)=some n:=(rfl)
def bB3 (i:Nat)(x:Val):Option Res:=match x with| .tup vs=>(vs[i]?).map fun v=>{v}|_=>none
@[go_sem] theorem bNm {i:Nat}{x:Opd}:cP d g en get (.ext i x)=bB3 i (get x):=(rfl)
@[go_sem] theorem bLb {i:Nat}{vs:List Val}:bB3 i (.tup vs)=(vR vs i).map fun v=>{v}:=(rfl)
def aZ6 (off:Nat)(x:Val):Option Res:=match x with
  | .fp cs o=>some {v:= .fp cs (o+off)}
  | .ptr k o=>some {v:= .ptr k (o+off)}
  | .ep k i o=>some {v:= .ep k i (o+off)}
  |_=>none
@[go_sem] theorem bTz {off:Nat}{x:Opd}:cP d g en get (.fa off x)=aZ6 off (get x):=(rfl)
@[go_sem] theorem bT0 {off o:Nat}{cs:List Val}:aZ6 off (.fp cs o)=some {v:= .fp cs (o+off)}:=(rfl)
@[go_sem] theorem bNn {off o:Nat}{k:Key}:aZ6 off (.ptr k o)=some {v:= .ptr k (o+off)}:=(rfl)
@[go_sem] theorem bT1 {off o i:Nat}{k:Key}:aZ6 off (.ep k i o)=some {v:= .ep k i (o+off)}:=(rfl)
def rJ (size:Nat)(en:En)(x i:Val):Option Res:=match i with
  | .int _ j=>
   match x with
   | .fz xs| .cl xs=>if 0<=j then match xs[j.toNat]? with
     |some y=>if y.cells.length=size then some {v:= .fp y.cells 0}else none
     |none=>none else none
   | .bl k off len=>match en k with
    |some (.blk sz _ _)=>if 0<=j/\ j<len/\ sz=size then some {v:= .ep k (off+j.toNat) 0,rs:=[.val k]}else none
    |_=>none
   |_=>none
  |_=>none
@[go_sem] theorem bT2 {size:Nat}{x i:Opd}:cP d g en get (.ia size x i)=rJ size en (get x) (get i):=by
 simp only[cP,eval,rJ];cases get i<;>rfl
theorem bGg {size:Nat}{xs:List Val}{k:IntKind}{j:Nat}{y:Val}(h:xs[j]?=some y)(hs:y.cells.length=size):rJ size en (.fz xs) (.int k j)=some {v:= .fp y.cells 0}:=by
 simp[rJ,h,hs]
@[go_sem] theorem bDn {α:Type}{f:α->Val}{size:Nat}{l:List α}{k:IntKind}{j:Nat}(h:j<l.length)(hs:((f l[j]).cells.length==size)=true):rJ size en (.fz (l.map f)) (.int k j)=some {v:= .fp (f l[j]).cells 0}:=
 bGg (by simp[h]) (by simpa using hs)
@[go_sem] theorem bE4 {len size:Nat}{z:List Val}{ps:List (Nat×Opd)}:cP d g en get (.bslice len size z ps)=
  if len*size<=16777216 then
   match dH (fun p=>match snapD 8 en (get p.2)with|some r=>some ((p.1,r.1.wk1),r.2)|none=>none) ps with
   |some ps=>match fC (List.replicate len (kF size z false)) size (ps.map (·.1))with
    |some xs=>some {v:= .cl xs,ws:=(ps.flatMap (·.2)).map .frz,rs:=(ps.flatMap (·.2)).map .val}
    |none=>none
   |none=>none
  else none:=(rfl)
def vS (mx:Bool)(xs:List Val):Option Res:=match xs with
  |[.int j a,.int k b]=>if j=k then some {v:= .int j (if mx then(if b>a then b else a)else(if b<a then b else a))}else none
  |_=>none
@[go_sem] theorem bE5 {mx:Bool}{xs:List Opd}:cP d g en get (.minmax mx xs)=vS mx (xs.map get):=(rfl)
@[go_sem] theorem bT3 {k:IntKind}{a b:Int}:vS true [.int k a,.int k b]=some {v:= .int k (max a b)}:=by
 simp only[vS,if_true,bVb,Res.mk.injEq,Val.int.injEq,true_and,and_true];omega
@[go_sem] theorem bT4 {k:IntKind}{a b:Int}:vS false [.int k a,.int k b]=some {v:= .int k (min a b)}:=by
 simp only[vS,if_true,bVd,if_false,bVb,Res.mk.injEq,Val.int.injEq,true_and,and_true];omega
def aAg (x:Val):Option Res:=match x with
  | .fp cs off=>some {v:= .fp cs off}
  | .ptr k off=>some {v:= .ptr k off}
  | .ep k i off=>some {v:= .ep k i off}
  | .fn f a b=>some {v:= .fn f a b}
  | .ifc t v=>some {v:= .ifc t v}
  |_=>none
@[go_sem] theorem bGh {x:Opd}:cP d g en get (.nilck x)=aAg (get x):=(rfl)
@[go_sem] theorem bGi {cs:List Val}{o:Nat}:aAg (.fp cs o)=some {v:= .fp cs o}:=(rfl)
@[go_sem] theorem bE6 {k:Key}{o:Nat}:aAg (.ptr k o)=some {v:= .ptr k o}:=(rfl)
@[go_sem] theorem bGj {f:Nat}{a b:List Val}:aAg (.fn f a b)=some {v:= .fn f a b}:=(rfl)
@[go_sem] theorem bE7 {t:Nat}{v:Val}:aAg (.ifc t v)=some {v:= .ifc t v}:=(rfl)
end
@[go_sem] theorem bE8 {xs:List Val}{size:Nat}:fC xs size []=some xs:=(rfl)
@[go_sem] theorem bDo {xs:List Val}{size i:Nat}{v:Val}{rest:List (Nat×Val)}(h1:v.one=true)(h2:v.cells.length=size)(h3:i<xs.length):fC xs size ((i,v)::rest)=fC (xs.set i v) size rest:=by
 simp only[fC,h1,h2,h3,and_self,if_true]
@[go_sem] theorem bT5 {z:Val}:List.replicate 0 z=[]:=(rfl)
@[go_sem] theorem bT6 {z:Val}:List.replicate 1 z=[z]:=(rfl)
@[go_sem] theorem bT7 {z:Val}:List.replicate 2 z=[z,z]:=(rfl)
@[go_sem] theorem bT8 {z:Val}:List.replicate 3 z=[z,z,z]:=(rfl)
@[go_sem] theorem bT9 {z:Val}:List.replicate 4 z=[z,z,z,z]:=(rfl)
@[go_sem] theorem bUa {z:Val}:List.replicate 5 z=[z,z,z,z,z]:=(rfl)
@[go_sem] theorem bGk {cs:List Val}:pL cs []=some cs:=(rfl)
@[go_sem] theorem bE9 {cs:List Val}{off size:Nat}{v:Val}{rest:List (Nat×Nat×Val)}(h1:v.one=true)(h2:v.cells.length=size)(h3:off+size<=cs.length):pL cs ((off,size,v)::rest)=pL (setCells cs off v.cells) rest:=by
 simp only[pL,h1,h2,h3,and_self,if_true]
@[go_sem] theorem bLc {cs:List Val}{off:Nat}:setCells cs off []=cs:=(rfl)
@[go_sem] theorem bGl {cs:List Val}{off:Nat}{v:Val}{vs:List Val}:setCells cs off (v::vs)=setCells (cs.set off v) (off+1) vs:=(rfl)
attribute [go_sem] List.set_cons_zero List.set_cons_succ
@[go_sem] theorem bNo {size:Nat}{xs:List Val}{k:IntKind}{j:Int}:rJ size en (.cl xs) (.int k j)=if 0<=j then(match vR xs j.toNat with|some y=>if y.cells.length=size then some {v:= .fp y.cells 0}else none|none=>none)else none:=(rfl)
section
variable {k :IntKind}{a b:Int}
@[go_sem] theorem bLd :cT .add .num (.int k a) (.int k b)=some (.int k (k.wrap (a+b))):=by simp[cT,qI]
@[go_sem] theorem bLe :cT .sub .num (.int k a) (.int k b)=some (.int k (k.wrap (a-b))):=by simp[cT,qI]
@[go_sem] theorem bLf :cT .mul .num (.int k a) (.int k b)=some (.int k (k.wrap (a*b))):=by simp[cT,qI]
@[go_sem] theorem bLg :cT .quo .num (.int k a) (.int k b)=if b=0 then none else some (.int k (k.wrap (a.tdiv b))):=by simp[cT,qI]
@[go_sem] theorem bLh :cT .rem .num (.int k a) (.int k b)=if b=0 then none else some (.int k (a.tmod b)):=by simp[cT,qI]
@[go_sem] theorem bLi :cT .lss .num (.int k a) (.int k b)=some (.bool (decide (a<b))):=by simp[cT,qI]
@[go_sem] theorem bLj :cT .leq .num (.int k a) (.int k b)=some (.bool (decide (a<=b))):=by simp[cT,qI]
@[go_sem] theorem bLk :cT .gtr .num (.int k a) (.int k b)=some (.bool (decide (b<a))):=by simp[cT,qI]
@[go_sem] theorem bLl :cT .geq .num (.int k a) (.int k b)=some (.bool (decide (b<=a))):=by simp[cT,qI]
@[go_sem] theorem bLm :cT .eql .num (.int k a) (.int k b)=some (.bool (decide (a=b))):=by
 simp only[cT,mB,if_true,bV8];congr 2
@[go_sem] theorem bLn :cT .neq .num (.int k a) (.int k b)=some (.bool (!decide (a=b))):=by
 simp only[cT,mB,if_true,bV8];congr 3
@[go_sem] theorem bLo {x y:Bool}:cT .eql .bool (.bool x) (.bool y)=some (.bool (x==y)):=(rfl)
@[go_sem] theorem bLp {x y:Bool}:cT .neq .bool (.bool x) (.bool y)=some (.bool (!(x==y))):=(rfl)
@[go_sem] theorem bLq {x y:ByteArray}:cT .eql .str (.str x) (.str y)=some (.bool (x.toList==y.toList)):=(rfl)
@[go_sem] theorem bLr {x y:ByteArray}:cT .neq .str (.str x) (.str y)=some (.bool (!(x.toList==y.toList))):=(rfl)
end
@[go_sem] theorem iI :W.applyAll en []=en:=(rfl)
@[go_sem] theorem mF {w:W}{ws:List W}:W.applyAll en (w::ws)=W.applyAll (w.apply en) ws:=(rfl)
@[go_sem] theorem sW {k:Key}{e:Option Ent}:(W.ent k e).apply en=en.set k e:=(rfl)
theorem bGm (cs:List Val)(off:Nat):(if off+1<=cs.length then some ((cs.drop off).take 1)else none)=(cs[off]?).map fun v=>[v]:=by
 by_cases h:off<cs.length
 ·rw[if_pos (by omega),bWo h,bWc h];rfl
 ·rw[if_neg (by omega),List.getElem?_eq_none (by omega)];rfl
theorem bGn (cs:List Val)(off:Nat)(rs:List R):(if off+1<=cs.length then some ((cs.drop off).take 1,rs)else none)=(vR cs off).map fun v=>([v],rs):=by
 have:=bGm cs off;unfold vR
 by_cases h:off+1<=cs.length
 ·rw[if_pos h]at this⊢;cases hc:cs[off]? with
  |none=>rw[hc]at this;cases this
  |some v=>rw[hc]at this;simp only[Option.map,bVb]at this⊢;rw[this]
 ·rw[if_neg h]at this⊢;cases hc:cs[off]? with
  |none=>rfl
  |some v=>rw[hc]at this;cases this
@[go_sem] theorem bGo {cs:List Val}{off:Nat}:oH en (.fp cs off) 1=(vR cs off).map fun v=>([v],[]):=bGn cs off []
@[go_sem] theorem bGp {k:Key}{off n:Nat}:oH en (.ptr k off) n=(match en k with|some (.box cs _)=>if off+n<=cs.length then some ((cs.drop off).take n,[.cells k off n])else none|_=>none):=(rfl)
@[go_sem] theorem bLs {cs:List Val}{off n:Nat}:oH en (.fp cs off) n=if off+n<=cs.length then some ((cs.drop off).take n,[])else none:=(rfl)
@[go_sem] theorem aZ7 {α β:Type}{f:α->β}{x:α}:(some x).map f=some (f x):=(rfl)
@[go_sem] theorem aZ8 {α β:Type}{f:α->β}:(none:Option α).map f=none:=(rfl)
attribute [go_sem] List.drop_zero List.drop_succ_cons bXa List.take_succ_cons bVu bWa List.take_nil List.drop_nil
section
variable {st :St}{R:Ex->St->Prop}
@[congr] theorem bGq {c:cA}:Wp L c st R=Wp L c st R:=(rfl)
@[go_sem] theorem bGr {c:cA}{args:List Val}:Wp L c (start args) R=Wp L c ⟨fun i=>args.getD i (.tup []),fun _=>none,fun _ _=>0⟩ R:=(rfl)
@[go_sem] theorem bLt :Wp L .skip st R=R .normal st:=(rfl)
@[go_sem] theorem bNp {l:List bE}:Wp L (.ops l) st R=iV L l st (R .normal):=(rfl)
@[go_sem] theorem bLu {l:List bE}:Wp L (.draw l []) st R=iV L l st (R .normal):=by simp[Wp]
theorem qW {a b:cA}:Wp L (.seq a b) st R=Wp L a st fun e st'=>match e with
  | .normal=>Wp L b st' R
  | .exit i=>R (.exit i) st'
  | .ret=>R .ret st':=(rfl)
def aEv (v:Val)(a b:Prop):Prop:=match v with| .bool t=>if t=true then a else b|_=>False
@[go_sem] theorem bLv {x:Opd}{a b:cA}:Wp L (.cond x a b) ⟨fr,en,cnt⟩ R=aEv (St.get fr x) (Wp L a ⟨fr,en,cnt⟩ R) (Wp L b ⟨fr,en,cnt⟩ R):=(rfl)
@[congr] theorem bB4 {v v':Val}{a b:Prop}(h:v=v'):aEv v a b=aEv v' a b:=by rw[h]
@[go_sem] theorem bLw {a b:Prop}:aEv (.bool true) a b=a:=(rfl)
@[go_sem] theorem bLx {a b:Prop}:aEv (.bool false) a b=b:=(rfl)
theorem aU {t:Bool}{a b:Prop}(h:t=true->a)(k:t=false->b):aEv (.bool t) a b:=by cases t<;>first|exact h rfl|exact k rfl
@[go_sem] theorem bGs {id:Nat}{b:cA}:Wp L (.block id b) st R=Wp L b st fun e st'=>match e with
  | .exit id'=>if id'=id then R .normal st' else R (.exit id') st'
  | .normal=>R .normal st'
  | .ret=>R .ret st':=(rfl)
@[go_sem] theorem bLy {id:Nat}:Wp L (.exit id) st R=R (.exit id) st:=(rfl)
@[go_sem] theorem bNq :Wp L .ret st R=R .ret st:=(rfl)
end
attribute [go_sem] Ex.ends aZ3 oV yB aPn bX5 List.getD_cons_succ List.getD_nil bV9 bVv bWw bWv bXe bX0 bXu
 not_false_eq_true not_true_eq_false ne_eq bV8 bVf List.all_nil true_and and_true bW7 bVy bWn bV5 if_true if_false bVd bVq bVz bWb bWu
section
variable {k :IntKind}{i:Int}{b:Bool}{x:ByteArray}{xs ys:List Val}{m:Nat}
@[go_sem] theorem bNr :Val.wk (.int k i)= .int k i:=(rfl)
@[go_sem] theorem bLz :Val.wk (.bool b)= .bool b:=(rfl)
@[go_sem] theorem bNs :Val.wk (.str x)= .str x:=(rfl)
@[go_sem] theorem bUb :Val.wk (.fz xs)= .fz xs:=(rfl)
@[go_sem] theorem bUc :Val.wk (.cl xs)= .fz xs:=(rfl)
@[go_sem] theorem bUd :Val.wk (.fp xs m)= .fp xs m:=(rfl)
@[go_sem] theorem bUe :Val.wk (.fn m xs ys)= .fn m xs ys:=(rfl)
@[go_sem] theorem bL0 :Val.wk .nili= .nili:=(rfl)
@[go_sem] theorem bL1 :Val.wk .nilp= .nilp:=(rfl)
@[go_sem] theorem bNt {v:Val}:Val.wk (.ifc m v)= .ifc m v:=(rfl)
@[go_sem] theorem bUf :Val.wk (.fm xs ys)= .fm xs ys:=(rfl)
@[go_sem] theorem bNu :Val.wk (.agg xs)= .agg (xs.map Val.wk0):=(rfl)
@[go_sem] theorem bNv :Val.wk (.tup xs)= .tup (xs.map Val.wk1):=(rfl)
@[go_sem] theorem bL2 :Val.wk1 (.int k i)= .int k i:=(rfl)
@[go_sem] theorem bGt :Val.wk1 (.bool b)= .bool b:=(rfl)
@[go_sem] theorem bL3 :Val.wk1 (.str x)= .str x:=(rfl)
@[go_sem] theorem bNw :Val.wk1 (.fz xs)= .fz xs:=(rfl)
@[go_sem] theorem bNx :Val.wk1 (.cl xs)= .fz xs:=(rfl)
@[go_sem] theorem bNy :Val.wk1 (.fp xs m)= .fp xs m:=(rfl)
@[go_sem] theorem bNz :Val.wk1 (.fn m xs ys)= .fn m xs ys:=(rfl)
@[go_sem] theorem bGu :Val.wk1 .nili= .nili:=(rfl)
@[go_sem] theorem bGv :Val.wk1 .nilp= .nilp:=(rfl)
@[go_sem] theorem bGw :Val.wk1 .nilm= .nilm:=(rfl)
@[go_sem] theorem bL4 {v:Val}:Val.wk1 (.ifc m v)= .ifc m v:=(rfl)
@[go_sem] theorem bN0 :Val.wk1 (.fm xs ys)= .fm xs ys:=(rfl)
@[go_sem] theorem bL5 :Val.wk1 (.agg xs)= .agg (xs.map Val.wk0):=(rfl)
@[go_sem] theorem bL6 :Val.wk0 (.int k i)= .int k i:=(rfl)
@[go_sem] theorem bGx :Val.wk0 (.bool b)= .bool b:=(rfl)
@[go_sem] theorem bL7 :Val.wk0 (.str x)= .str x:=(rfl)
@[go_sem] theorem bN1 :Val.wk0 (.fz xs)= .fz xs:=(rfl)
@[go_sem] theorem bN2 :Val.wk0 (.cl xs)= .fz xs:=(rfl)
@[go_sem] theorem bN3 :Val.wk0 (.fp xs m)= .fp xs m:=(rfl)
@[go_sem] theorem bN4 :Val.wk0 (.fn m xs ys)= .fn m xs ys:=(rfl)
@[go_sem] theorem bGy :Val.wk0 .nili= .nili:=(rfl)
@[go_sem] theorem bGz :Val.wk0 .nilp= .nilp:=(rfl)
@[go_sem] theorem bL8 {v:Val}:Val.wk0 (.ifc m v)= .ifc m v:=(rfl)
@[go_sem] theorem bG0 :Val.flat (.int k i)=true:=(rfl)
@[go_sem] theorem bFa :Val.flat (.bool b)=true:=(rfl)
@[go_sem] theorem bG1 :Val.flat (.str x)=true:=(rfl)
@[go_sem] theorem bFb :Val.cells (.agg xs)=xs:=(rfl)
@[go_sem] theorem bFc :Val.cells (.int k i)=[.int k i]:=(rfl)
@[go_sem] theorem bDp :Val.cells (.bool b)=[.bool b]:=(rfl)
@[go_sem] theorem bFd :Val.cells (.str x)=[.str x]:=(rfl)
@[go_sem] theorem bG2 :Val.cells (.fz xs)=[.fz xs]:=(rfl)
@[go_sem] theorem bL9 :Val.one (.int k i)=true:=(rfl)
@[go_sem] theorem bG3 :Val.one (.bool b)=true:=(rfl)
@[go_sem] theorem bMa :Val.one (.str x)=true:=(rfl)
@[go_sem] theorem bN5 :Val.one (.fz xs)=true:=(rfl)
@[go_sem] theorem cX :Val.one (.cl xs)=true:=(rfl)
@[go_sem] theorem bMb :Val.one (.agg xs)=true:=(rfl)
end
section
variable {n :Nat}
@[go_sem] theorem bMc {b:Bool}:snapD (n+1) en (.bool b)=some (.bool b,[]):=(rfl)
@[go_sem] theorem bN6 {k:IntKind}{i:Int}:snapD (n+1) en (.int k i)=some (.int k i,[]):=(rfl)
@[go_sem] theorem bN7 {s:ByteArray}:snapD (n+1) en (.str s)=some (.str s,[]):=(rfl)
@[go_sem] theorem bMd :snapD (n+1) en .nilp=some (.nilp,[]):=(rfl)
@[go_sem] theorem bMe :snapD (n+1) en .nilm=some (.nilm,[]):=(rfl)
@[go_sem] theorem bMf :snapD (n+1) en .nilf=some (.nilf,[]):=(rfl)
@[go_sem] theorem bMg :snapD (n+1) en .nili=some (.nili,[]):=(rfl)
@[go_sem] theorem bUg {xs:List Val}:snapD (n+1) en (.fz xs)=some (.fz xs,[]):=(rfl)
@[go_sem] theorem bUh {xs:List Val}:snapD (n+1) en (.cl xs)=some (.cl xs,[]):=(rfl)
@[go_sem] theorem bUi {xs:List Val}{off:Nat}:snapD (n+1) en (.fp xs off)=some (.fp xs off,[]):=(rfl)
@[go_sem] theorem bUj {xs ys:List Val}:snapD (n+1) en (.fm xs ys)=some (.fm xs ys,[]):=(rfl)
@[go_sem] theorem bN8 {cs:List Val}:snapD (n+1) en (.agg cs)=(match dH (snapD n en) cs with|some rs=>some (.agg (rs.map (·.1)),rs.flatMap (·.2))|none=>none):=(rfl)
@[go_sem] theorem bN9 {cs:List Val}:snapD (n+1) en (.tup cs)=(match dH (snapD n en) cs with|some rs=>some (.tup (rs.map (·.1)),rs.flatMap (·.2))|none=>none):=(rfl)
@[go_sem] theorem bOa {k:Key}{off:Nat}:snapD (n+1) en (.ptr k off)=(match en k with|some (.box cs _)=>(match dH (snapD n en) cs with|some rs=>some (.fp (rs.map (·.1)) off,k::rs.flatMap (·.2))|none=>none)|_=>none):=(rfl)
@[go_sem] theorem bUk {k:Key}{off len:Nat}:snapD (n+1) en (.bl k off len)=(match en k with|some (.blk _ xs _)=>if off+len<=xs.length then some (.fz ((xs.drop off).take len),[k])else none|_=>none):=(rfl)
end
theorem bF {L:cO}{b:cA}{Q:Ex->St->Prop}{st:St}(n:Nat)(I:Nat->St->Prop)(k0:Nat)(hle:k0<=n)(h0:I k0 st)
  (hr: ∀k st,k<=n->I k st->Wp L b st fun e st'=>match e with
   | .normal=>k<n/\ I (k+1) st'
   | .exit i=>Q (.exit i) st'
   | .ret=>Q .ret st'):Wp L (.loop b) st Q:=
 wp_loop (fun k st=>k<=n/\ I k st) (fun k=>n-k) k0 ⟨hle,h0⟩ fun k st ⟨hk,hI⟩=>wp_mono b (hr k st hk hI) fun e st' h=>by
  cases e with
  |normal=>exact⟨k+1,⟨by omega,h.2⟩,by omega⟩
  |exit i=>exact h
  |ret=>exact h
theorem bM {n:Int}(h: -9223372036854775808<=n/\ n<=9223372036854775807):IntKind.i64.wrap n=n:=IntWalk.i64_in n h
def Few (n:Nat):Prop:=n<=9223372036854775807
@[go_sem] theorem aK {k n:Nat}(h:k<n)(hn:Few n):IntKind.i64.wrap ((k:Int)+1)=((k+1:Nat):Int):=by
 unfold Few at hn;rw[bM (by omega)];rfl
attribute [go_sem] Int.ofNat_lt Int.ofNat_le Int.ofNat_inj decide_true decide_false bVk
@[go_sem] theorem eq2 {k:IntKind}{a b c d:Int}:cT .eql (.agg [.num,.num]) (.agg [.int k a,.int k b]) (.agg [.int k c,.int k d])=some (.bool (decide (a=c)&&decide (b=d))):=by
 simp only[cT,mB,bVu,bWa,and_self,if_true,iG,vE];have e:(a==c)=decide (a=c):=by by_cases h:a=c<;>simp[h]
 have e':(b==d)=decide (b=d):=by by_cases h:b=d<;>simp[h]
 rw[e,e']
 by_cases h:a=c<;>by_cases h':b=d<;>simp[h,h']
@[go_sem] theorem ne2 {k:IntKind}{a b c d:Int}:cT .neq (.agg [.num,.num]) (.agg [.int k a,.int k b]) (.agg [.int k c,.int k d])=some (.bool (!(decide (a=c)&&decide (b=d)))):=by
 simp only[cT,mB,bVu,bWa,and_self,if_true,iG,vE];have e:(a==c)=decide (a=c):=by by_cases h:a=c<;>simp[h]
 have e':(b==d)=decide (b=d):=by by_cases h:b=d<;>simp[h]
 rw[e,e']
 by_cases h:a=c<;>by_cases h':b=d<;>simp[h,h']
end
end Go.Abs
