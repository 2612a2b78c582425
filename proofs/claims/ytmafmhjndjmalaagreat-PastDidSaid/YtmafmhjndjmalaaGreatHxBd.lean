import Derived.Test.YtmafmhjndjmalaaGreatHxAd
import Derived.MapKept
import Derived.Laws.Strings
import Derived.OrdersIn
import Derived.LoopNIn
import Derived.RangeFuncNested
import Derived.Scope
set_option linter.all false
open Array renaming getD_eq_getD_getElem? -> bQy, getElem?_append -> bTd, getElem?_eq_getElem -> bQ4, getElem?_eq_some_iff -> bSd, getElem?_mapIdx -> bTt, getElem?_replicate -> bSg, getElem?_setIfInBounds -> bTa, getElem_toList -> bTf, length_toList -> bSt, mapM_eq_mapM_toList -> bT5, size_append -> bTl
open Bool renaming and_eq_true -> bQj, and_false -> bRp, eq_iff_iff -> bSw, false_and -> bQ7, false_eq_true -> bQm, false_or -> bRf, not_eq_true' -> bRw, or_eq_true -> bRr, or_true -> bSj, true_and -> bQ9
open List renaming all_cons -> bSs, all_eq_true -> bQp, any_eq_true -> bTg, append_nil -> bRk, cons_append -> bS2, contains_eq_mem -> bSf, countP_le_length -> bTu, countP_pos_iff -> bT1, drop_eq_getElem_cons -> bRt, drop_eq_nil_iff -> bTs, flatMap_cons -> bS5, foldl_cons -> bSv, foldl_nil -> bS4, getD_cons_zero -> bTi, getD_eq_getElem?_getD -> bQn, getElem?_append -> bTc, getElem?_append_left -> bSq, getElem?_cons_zero -> bS6, getElem?_drop -> bTq, getElem?_eq_getElem -> bRq, getElem?_set -> bTb, getElem_mem -> bQr, isEmpty_iff -> bTn, length_append -> bQ2, length_cons -> bQu, length_eq_zero_iff -> bT2, length_map -> bQl, length_nil -> bQz, length_set -> bSb, map_congr_left -> bSx, map_cons -> bRj, map_nil -> bQ1, mem_append -> bRb, mem_cons -> bRm, mem_cons_of_mem -> bSo, mem_filter -> bR6, mem_flatMap -> bRx, mem_map -> bRe, mem_range -> bRi, nil_append -> bRo, range'_succ -> bTk, range_eq_range' -> bTr, range_succ -> bTp, take_of_length_le -> bQ3
open Nat renaming add_zero -> bR5, le_refl -> bQk, le_trans -> bQv, lt_of_lt_of_le -> bRa, mul_le_mul_right -> bRv, succ_mul -> bR9, zero_add -> bRg
open Option renaming bind_eq_bind -> bQ6, bind_eq_some_iff -> bQx, bind_some -> bTe, getD_some -> bRc, isNone_iff_eq_none -> bTo, isSome_iff_exists -> bSa, map_eq_some_iff -> bQw, map_some -> bRd, pure_def -> bQ8
open Option.some renaming injEq -> bQi
open Prod.mk renaming injEq -> bQo
namespace Go.Abs
open Go.RowKit (Below)
variable [Inhabited mN]
variable {off:Nat}{vs:List Val}
theorem aJb {y:Val}(hl:off+vs.length<=y.cells.length)(h1: ∀v∈vs,v.cells=[v]):(eP y off vs).cells=setCells y.cells off vs:=by
 cases y with
 |agg cs=>rfl
 |_=>
  simp only[Val.cells,bQu,bQz]at hl;rcases vs with _|⟨v,_|⟨v2,vs⟩⟩
  ·cases off<;>simp[eP,setCells,Val.cells]
  ·cases off with
   |zero=>simp only[eP,setCells,if_pos,Val.cells,List.set];exact h1 v (by simp)
   |succ n=>simp at hl
  ·simp only[bQu]at hl;omega
theorem aOq {ks:List Key}{en:En}{k:Key}(h:k∉ks):W.applyAll en (ks.map .frz) k=en k:=by
 induction ks generalizing en with
 |nil=>rfl
 |cons k0 ks ih=>
  simp only[bRm,not_or]at h;have h2:W.applyAll en ((k0::ks).map .frz)=W.applyAll (W.apply en (.frz k0)) (ks.map .frz):=rfl;rw[h2,ih h.2];simp only[W.apply];cases en k0 with
  |none=>rfl
  |some e=>simp only[En.set,if_neg h.1]
variable {G' G:Gh}{Y:Val}{i sz n B N:Nat}{t:TypeId}{x y:Operand}{xs:List Val}{x' y':Opd}{w:World}{P:Program}{r:Res}{Ξ:Env}{S:Nat->Nat->Prop}{st:St}{a:Act}
section
variable {o:Oper}{d:Nat}
theorem aJc {ws0:List W}{u:Val}{k:Key}{rs:List R}(hR':Rel P Ξ B S G' {st with en:=W.applyAll st.en ws0} N a w)
  (ho:o.op= .store t x y) (hi:(P.info? t).isSome=true) (hx:VR (aX B S G' w.heap.size) G' w (.ep k i off) (a.eval x)) (hen:W.applyAll st.en ws0 k=some (.blk sz xs false)) (hY:xs[i]?=some Y) (hl:off+P.cellsOf t<=Y.cells.length)
  (hone:u.one=true) (hwl:u.cells.length=P.cellsOf t) (hv0:VR (aX B S G' w.heap.size) (G'.at k) w u (a.eval y)):
  eR P Ξ B S st N a w o d {v:= .tup [],ws:=ws0++[.elem k i off u.cells],rs:=rs}:=by
 have hy:=hv0.cr hone;generalize hV:u.cells=vs at*;generalize hgx:a.eval x=ux at hx;obtain⟨hi',hgd⟩:=aD4 hY;cases hx with
 |ep _ _ _ b base sz' C hb' hiC=>
 have hE:=hR'.ents k _ hen (Gh.knows_blk hb');cases hE with
 |nul _ _ hb1=>rw[hb']at hb1;cases hb1
 |blk _ _ b1 base1 _ C1 thr c ty hb1 hB hh hC hC' hs1 ho1 hv1 hown hthr=>
  rw[hb']at hb1;simp only[bQi,bQo]at hb1;obtain⟨rfl,rfl,rfl,rfl⟩:=hb1;simp only[bQm,if_false]at hthr;have hthr':=hthr.symm;subst hthr';have hYl:Y.cells.length=sz':=by rw[<-hgd];exact hs1 i hi'
  have hfit:base+i*sz'+off+(a.eval y).cells.toList.length<=c.size:=by
   have h5:i*sz'+sz'<=C*sz':=by rw[<-bR9];exact bRv _ (by omega)
   have h6:(a.eval y).cells.toList.length=P.cellsOf t:=by rw[bSt,hy.size,hwl]
   omega
  have hcell1: ∀v∈vs,v.cells=[v]:=by
   intro v hv;obtain⟨j,hj,rfl⟩:=List.getElem_of_mem hv;have e1:=hy.vr j hj;have e2:=hy.one j hj;rw[show vs.getD j .dead=vs[j]by simp[bQn,hj]]at e1
   have:=e1.not_agg e2;generalize vs[j]=q at this;cases q<;>first|rfl|exact absurd rfl (this _)
  have hpc:(eP Y off vs).cells=setCells Y.cells off vs:=aJb (by omega) hcell1
  have hset: ∀m:Nat,m<xs.length->(xs.set i (eP Y off vs)).getD m .dead=if i=m then eP Y off vs else xs.getD m .dead:=fun m hm=>aI8 hm
  have hyl:(a.eval y).cells.toList.length=vs.length:=by rw[bSt,hy.size]
  have hat: ∀m j,m<xs.length->j<sz'-> ∃u,(wr c (base+i*sz'+off) (a.eval y).cells.toList)[base+m*sz'+j]?=some u/\ fM u=true/\
    VR (aX B S G' w.heap.size) (G'.at k) w (((xs.set i (eP Y off vs)).getD m .dead).cells.getD j .dead) u:=by
   intro m j hm hj;rw[aCz _ _ _ _ hfit,hset m hm];have hin:base+m*sz'+j<c.size:=by
    have h5:m*sz'+sz'<=C*sz':=by rw[<-bR9];exact bRv _ (by omega)
    omega
   by_cases him:i=m
   ·subst him;rw[if_pos rfl,hpc,bQn,yF _ _ _ _ (by omega)]
    by_cases hr:off<=j/\ j<off+vs.length
    ·rw[if_pos (by omega),if_pos hr,show base+i*sz'+j-(base+i*sz'+off)=j-off by omega]
     have hjo:j-off<vs.length:=by omega
     refine⟨(a.eval y).cells.getD (j-off) undef,?_,hy.one _ hjo,?_⟩
     ·have:j-off<(a.eval y).cells.size:=by rw[hy.size];exact hjo
      simp[Array.getElem?_toList,this]
     ·rw[<-bQn];exact hy.vr _ hjo
    ·rw[if_neg (by omega),if_neg hr]
     refine⟨c.getD (base+i*sz'+j) undef,by simp[bQy,hin],ho1 i j hm hj,?_⟩
     rw[<-bQn];have:=hv1 i j hm hj;rw[hgd]at this;exact this
   ·have hdis: ¬(base+i*sz'+off<=base+m*sz'+j/\ base+m*sz'+j<base+i*sz'+off+(a.eval y).cells.toList.length):=by
     rw[hyl];rcases Nat.lt_or_gt_of_ne him with h|h
     ·have:i*sz'+sz'<=m*sz':=by rw[<-bR9];exact bRv _ h
      omega
     ·have:m*sz'+sz'<=i*sz':=by rw[<-bR9];exact bRv _ h
      omega
    rw[if_neg him,if_neg hdis];exact⟨c.getD (base+m*sz'+j) undef,by simp[bQy,hin],ho1 m j hm hj,hv1 m j hm hj⟩
  have hat': ∀m j,m<xs.length->j<sz'->fM ((wr c (base+i*sz'+off) (a.eval y).cells.toList).getD (base+m*sz'+j) undef)=true/\
    VR (aX B S G' w.heap.size) (G'.at k) w (((xs.set i (eP Y off vs)).getD m .dead).cells.getD j .dead) ((wr c (base+i*sz'+off) (a.eval y).cells.toList).getD (base+m*sz'+j) undef):=fun m j hm hj=>by
   obtain⟨u,e1,e2,e3⟩:=hat m j hm hj;simp only[bQy,e1,bRc];exact⟨e2,e3⟩
  have hrel:=hR'.write (e':= .blk sz' (xs.set i (eP Y off vs)) false) (o':= .cells (wr c (base+i*sz'+off) (a.eval y).cells.toList) ty (0,0)) hown hh (fun _ _=> .inl (by simp)) (fun _=>by simp) (fun _ h=>by cases h)
   (fun q hq=>by rw[lZ (kV _ (dX hh)),lZ hh,aCz _ _ _ _ hfit,if_neg (by omega)])
   (fun m=> .blk _ false b base sz' C base _ ty hb' hB (kV _ (dX hh)) (by simpa using hC) (by rw[aD2];exact hC')
    (fun q hq=>by
     simp only[bSb]at hq;rw[hset q hq];split
     ·rw[hpc,oQ];exact hYl
     ·exact hs1 q hq)
    (fun q j hq hj=>(hat' q j (by simpa using hq) hj).1) (fun q j hq hj=>(hat' q j (by simpa using hq) hj).2.mono (m.atq k.n)) hown (by simp))
  refine aOi ?_ (G':=G') (w':=kJ w b (.cells (wr c (base+i*sz'+off) (a.eval y).cells.toList) ty (0,0))) ?_ rfl (tA hB)
  ·have hrun:=aD3 (P:=P) (t:=t) (o:=base+i*sz'+off) (x:=a.eval y) hh (bSa.1 hi) (by rw[hy.size,hwl]) (fun j hj=>hy.one j (by rw[<-hy.size];exact hj)) (by rw[hy.size];simpa[hyl]using hfit)
   simp[execOp,ho,hgx,Instr.storeAt,Instr.sureAddr,hrun]
  ·have:W.applyAll st.en (ws0++[.elem k i off vs])=(W.applyAll st.en ws0).set k (some (.blk sz' (xs.set i (eP Y off vs)) false)):=by
    simp only[W.applyAll,List.foldl_append]at hen⊢;simp only[bSv,bS4,W.apply,hen,hY]
   simp only[St.mem,this];exact hrel
theorem aL5 (hR:Rel P Ξ B S G st N a w){k:Key}{v':Val}{ks:List Key}{rs:List R}(ho:o.op= .store t x y)(hi:(P.info? t).isSome=true)(h1:aO x=some x')(h2:aO y=some y')
  (hX:St.get st.fr x'= .ep k i off) (he:st.en k=some (.blk sz xs false)) (hY:xs[i]?=some Y) (hl:off+P.cellsOf t<=Y.cells.length)
  (hs:snap n st.en (St.get st.fr y')=some (v',ks)) (h3:v'.one=true) (h4:v'.cells.length=P.cellsOf t) (hk:k∉ks):
  eR P Ξ B S st N a w o d {v:= .tup [],ws:=ks.map .frz++[.elem k i off v'.wk1.cells],rs:=rs}:=by
 obtain⟨G',hR',hg,hT,hsnap⟩:=yH hR ks;have hx:=aU hR h1;rw[hX]at hx;have hone:v'.wk1.one=true:=by cases v'<;>first|rfl|simp[Val.one]at h3
 have hwl:v'.wk1.cells.length=P.cellsOf t:=by
  rw[<-h4];cases v'<;>first|rfl|simp[Val.wk1,Val.wk0,Val.cells]
 refine aJc hR' ho hi ?_ (by rw[aOq hk,he]) hY hl hone hwl ((hsnap n _ v' _ ks (aU hR h2) hs fun _ h=>h).wk1.into _)
 generalize a.eval x=ux at hx;cases hx with
 |ep _ _ _ b base sz' C hb hiC=>exact .ep _ _ _ b base sz' C (hg.blk _ _ hb) hiC
theorem aL6 (hR:Rel P Ξ B S G st N a w){k:Key}{rs:List R}(ho:o.op= .store t x y)(hi:(P.info? t).isSome=true)(h1:aO x=some x')(h2:aO y=some y')
  (hX:St.get st.fr x'= .ep k i off) (he:st.en k=some (.blk sz xs false)) (hY:xs[i]?=some Y) (hl:off+P.cellsOf t<=Y.cells.length) (hd:k.deep=true)
  (h3:(St.get st.fr y').one=true) (h4:(St.get st.fr y').cells.length=P.cellsOf t):
  eR P Ξ B S st N a w o d {v:= .tup [],ws:=[.elem k i off (St.get st.fr y').cells],rs:=rs}:=by
 have hx:=aU hR h1;rw[hX]at hx;have hv:=aU hR h2;have:VR (aX B S G w.heap.size) (G.at k) w (St.get st.fr y') (a.eval y):=by
  have:G.at k=G:=by simp only[Key.deep,bT8]at hd;simp[Gh.at,Gh.atq,hd]
  rw[this];exact hv
 exact aJc (ws0:=[]) hR ho hi hx he hY hl h3 h4 this
end
def aD9 (w:World)(S:Nat->Nat->Prop)(w':World)(b o:Nat):Prop:=b<w'.heap.size/\ (b<w.heap.size->S b o)
def bDk (B:Nat)(T:Nat->Nat->Prop)(w:World)(sz:Nat)(xs:List Val)(v:Value):Prop:=
 (xs=[]/\ ∃a,v= .slice a 0 0) \/ ∃(b base C:Nat) (c:Array Value) (t:TypeId),B<=b/\ v= .slice (some ⟨b,base,.none⟩) xs.length C/\ w.heap[b]?=some (.cells c t (0,0))/\ xs.length<=C/\ base+C*sz<=c.size/\
  (∀i,i<xs.length->(xs.getD i .dead).cells.length=sz)/\ (∀i j,i<xs.length->j<sz->fM (c.getD (base+i*sz+j) undef)=true)/\
  ∀i j,i<xs.length->j<sz->VR (fun b' o=>T b' o/\ (b'=b->o<base)) Gh.none w ((xs.getD i .dead).cells.getD j .dead) (c.getD (base+i*sz+j) undef)
def aL7 (B:Nat)(T:Nat->Nat->Prop)(w:World)(r:Val)(v:Value):Prop:=
 match r with
 | .own sz xs=>bDk B T w sz xs v
 |r=>VR T Gh.none w r v
variable {T:Nat->Nat->Prop}
theorem aL7.vr {r:Val}{v:Value}(h:VR T Gh.none w r v):aL7 B T w r v:=by
 cases r<;>first|exact h|cases h
def lK (P:Program)(call:bD):Prop:= ∀f args r,call f args=some r->
 (∃fn,P.funcs[f]?=some fn∧(fn.name== "runtime.NumGoroutine")=false∧fn.body.isNone=false)∧
 ∀(S:Nat->Nat->Prop) (w:World) (vals:Array Value),(∀b o,S b o->b<w.heap.size)->tT S w->vals.size=args.length->
  (∀i,i<args.length->VR S Gh.none w (args.getD i .dead) (vals.getD i undef))->
  Calls P f vals w fun e w'=> ∃v,e= .returned v/\ Below w.heap.size w w'/\ aL7 w.heap.size (aD9 w S w') w' r v
variable {T':Nat->Nat->Prop}{v:Val}{w':World}
theorem yJ {x:Value}(h:VR T G w v x)(hf:v.flat0=true):VR T' G' w' v x:=by
 cases h with
 |fn f a b x y ha hb hx hy=>
  cases a with
  |nil=>cases b with
   |nil=>exact .fn f [] [] x y ha hb (fun i hi=>by simp at hi) (fun i hi=>by simp at hi)
   |cons=>simp[Val.flat0]at hf
  |cons=>simp[Val.flat0]at hf
 |_=>first|(simp[Val.flat0]at hf;done)|constructor
theorem yK {x:Value}(h:VR T G w v x)(hf:v.flat1=true):VR T' G' w' v x:=by
 have agg: ∀{cs:List Val} {x:Value},VR T G w (.agg cs) x->cs.all Val.flat0=true->VR T' G' w' (.agg cs) x:=by
  intro cs x h hf;cases h with
  |agg _ y h1 ho hv=>
   refine .agg cs y h1 ho fun i hi=>yJ (hv i hi) ?_
   have:=bQp.1 hf cs[i] (bQr hi)
   simpa[bQn,hi]using this
 cases v with
 |agg cs=>exact agg h hf
 |ifc t v=>
  cases h with
  |ifc _ _ y h=>
   refine .ifc t v y ?_
   cases v with
   |agg cs=>exact agg h hf
   |_=>exact yJ h hf
 |_=>exact yJ h hf
theorem aMu {x:Value}(h:VR T G w v x)(hf:v.flat=true):VR T' G' w' v x:=by
 cases v with
 |tup vs=>
  cases h with
  |tup _ y h1 hv=>
   refine .tup vs y h1 fun i hi=>yK (hv i hi) ?_
   have:=bQp.1 hf vs[i] (bQr hi)
   simpa[bQn,hi]using this
 |_=>exact yK h hf
variable {m j f:Nat}{ro:Option Nat}{call:bD}{rs:List (Val×List Key)}{A Z:List Val}{F:Operand}{c:Call}{ys:List Opd}{name:String}
section
variable {o:Oper}{d:Nat}
theorem aV0 (hR:Rel P Ξ B S G st N a w){k:Key}{e:Ent}(he:st.en k=some e):Cov (fun b _=>b<w.heap.size) G k e:=by
 by_cases hkn:G.knows k
 case neg=>
  obtain⟨u1,u2,u3⟩:=Gh.not_knows hkn;cases e with
  |box cs f=>intro b hb;rw[u1]at hb;cases hb
  |blk sz xs f=>intro b base sz C hb;rw[u2]at hb;cases hb
  |map ks vs f=>intro r hr;rw[u3]at hr;cases hr
  |loop=>trivial
  |iter=>trivial
 have h:=hR.ents k e he hkn;cases h with
 |box cs frz b c t hb hB hh=>intro b' hb' j _;rw[hb]at hb';simp only[bQi]at hb';subst hb';exact dX hh
 |nul sz frz hn=>intro b base sz C hb i j hi;simp at hi
 |blk xs frz b base sz C thr c t hb hB hh=>
  intro b' base' sz' C' hb' i j hi hj;rw[hb]at hb';simp only[bQi,bQo]at hb';obtain⟨rfl,_⟩:=hb';exact dX hh
 |full xs b base sz c hb hs hh ht=>
  intro b' base' sz' C' hb' i j hi hj;rw[hb]at hb';simp only[bQi,bQo]at hb';obtain⟨rfl,rfl,rfl,rfl⟩:=hb';exact aOf (hh i j hi hj)
 |map ks vs frz r es cl hr hB hh=>intro r' hr';rw[hr]at hr';simp only[bQi]at hr';subst hr';exact dX hh
 |loop=>trivial
 |iter=>trivial
theorem pG {f:FuncId}{args:Array Value}{R:Ending->World->Prop}(h:Calls P f args w R):CallsIn (Fx ro) m P f args w R:=
 (callsIn_wide (n:=m)).2 h
theorem aV1 (hR:Rel P Ξ B S G st N a w)(hb:Below w.heap.size w w'){S':Nat->Nat->Prop}(hS: ∀b o,b<w.heap.size->S' b o->aX B S G w.heap.size b o){v:Value}
  (h:bDk w.heap.size (aD9 w S' w') w' sz xs v):
  ∃G',Rel P Ξ B S G' {fr:=st.fr,en:=st.en.set ⟨0,d,st.cnt 0 d⟩ (some (.blk sz xs false)),cnt:=aC st.cnt 0 d (st.cnt 0 d+1)} N a w'/\ VR (aX B S G' w'.heap.size) G' w' (.bl ⟨0,d,st.cnt 0 d⟩ 0 xs.length) v:=by
 rcases h with⟨rfl,p,rfl⟩|⟨b,base,C,c,t,hB,rfl,hh,hC,hC',hs,ho,hv⟩
 ·obtain⟨G',h1,h2⟩:=aVz (d:=d) (hR.below hb) sz false;exact⟨G',h1,h2 p⟩
 have hf:=hR.freshG ⟨0,d,st.cnt 0 d⟩ (bQk _);have hg:=Gh.le_addBlk (b:=b) (base:=base) (sz:=sz) (C:=C) (thr:=base) hf.2.1;have hlt: ∀{b' k t},G.own b'=some (k,t)->b'<w.heap.size:=fun h=>(hR.own _ _ _ h).2.1
 have hown: ∀b',b'≠b->(G.addBlk ⟨0,d,st.cnt 0 d⟩ b base sz C base).own b'=G.own b':=fun b' hb'=>by simp[Gh.addBlk,hb']
 have hsz:=hR.size;have ht: ∀b' o,aX B S G w.heap.size b' o->aX B S (G.addBlk ⟨0,d,st.cnt 0 d⟩ b base sz C base) w'.heap.size b' o:=by
  intro b' o h
  refine⟨bRa h.1 hb.size,?_⟩
  rw[hown b' (by have:=h.1;omega)];exact h.2
 have m:jN (aX B S G w.heap.size) G w (aX B S (G.addBlk ⟨0,d,st.cnt 0 d⟩ b base sz C base) w'.heap.size) (G.addBlk ⟨0,d,st.cnt 0 d⟩ b base sz C base) w':=
  let mm:=rA (B:=B) (S:=S) (G:=G) hb
  ⟨ht,hg,mm.cell,mm.map,mm.defer,mm.loop⟩
 refine⟨_,hR.change m hb.size (fun k e hk hkn=>?_) (fun k hk=>?_) (fun b' k t hb'=>?_) (hR.virtAt fun k hk=>by simp[Gh.addBlk,hk]),?_⟩
 ·simp only[En.set]at hk
  split at hk
  ·rename_i hkk;subst hkk;simp only[bQi]at hk;subst hk
   refine .blk xs false b base sz C base c t (by simp[Gh.addBlk]) (by omega) hh hC hC' hs ho (fun i j hi hj=>VR.into ((hv i j hi hj).mono ⟨fun b' o h=>?_,Gh.le_refl _,fun _ _ _ _ h=>h,fun _ _ _ _ h=>h,fun _ _ h=>h,fun _ r h=>⟨r,h⟩⟩) _) (by simp[Gh.addBlk]) rfl
   obtain⟨⟨g1,g2⟩,g3⟩:=h
   by_cases hbw:b'<w.heap.size
   ·exact ht _ _ (hS _ _ hbw (g2 hbw))
   ·refine⟨g1,.inr ⟨by omega,?_⟩⟩
    by_cases hbb:b'=b
    ·subst hbb;simp[Gh.addBlk];exact g3 rfl
    ·rw[hown b' hbb];cases hw:G.own b' with
     |none=>trivial
     |some z=>obtain⟨k,t⟩:=z;have:=hlt hw;omega
  ·rename_i hne
   refine(hR.ents k e hk (Gh.knows_of (fun k hk=>by simp[Gh.addBlk,hk]) hne hkn)).mono m.four fun b' _ hb'=>?_
   have h1:=aOg (fun b k t ho=>hlt ho) hb'
   exact⟨hb.block b' h1,hown b' (by omega)⟩
 ·have hne:k≠⟨0,d,st.cnt 0 d⟩:=by rintro rfl;simp only[mK]at hk;omega
  have hle:st.cnt k.n k.t<=k.g:=bQv (oG _ _) hk;obtain⟨f1,f2,f3⟩:=hR.freshG k hle;exact⟨by simp only[En.set,if_neg hne];exact hR.freshEn k hle,f1,by simp only[Gh.addBlk,if_neg hne];exact f2,f3⟩
 ·by_cases hbb:b'=b
  ·subst hbb;simp only[Gh.addBlk,if_true,bQi,bQo]at hb';obtain⟨rfl,_⟩:=hb';exact⟨by omega,dX hh,by simp only[mK];omega⟩
  ·rw[hown b' hbb]at hb';obtain⟨h1,h2,h3⟩:=hR.own _ _ _ hb';exact⟨h1,bRa h2 hb.size,bRa h3 (oG _ _)⟩
 ·have:=VR.bl (T:=aX B S (G.addBlk ⟨0,d,st.cnt 0 d⟩ b base sz C base) w'.heap.size) (G:=G.addBlk ⟨0,d,st.cnt 0 d⟩ b base sz C base) (w:=w') ⟨0,d,st.cnt 0 d⟩ 0 xs.length b base sz C (by simp[Gh.addBlk]) (by omega)
  simpa using this
theorem aQr {x:Val}{v:Value}(hf:x.flat1=true)(hj:j<x.cells.length)(h:VR T G w (x.cells.getD j .dead) v):VR T' G' w' (x.cells.getD j .dead) v:=by
 cases x with
 |agg cs=>
  refine yJ h ?_
  have hj':j<cs.length:=hj;have e:(Val.agg cs).cells.getD j .dead=cs[j]:=by simp[Val.cells,bQn,hj']
  rw[e];exact bQp.1 hf _ (bQr hj')
 |_=>
  simp only[Val.cells,bQu,bQz]at hj
  obtain rfl:j=0:=by omega
  exact yK h hf
theorem bAa {v:Value}(h:bDk B T w sz xs v)(hf:xs.all Val.flat1=true):bDk B T' w sz xs v:=by
 rcases h with h|⟨b,base,C,c,t,hB,e,hh,hC,hC',hs,ho,hv⟩
 ·exact .inl h
 ·refine .inr ⟨b,base,C,c,t,hB,e,hh,hC,hC',hs,ho,fun i j hi hj=>aQr ?_ (by rw[hs i hi];exact hj) (hv i j hi hj)⟩
  have:=bQp.1 hf xs[i] (bQr hi)
  simpa[bQn,hi]using this
theorem aQs (hR:Rel P Ξ B S G st N a w)(hcall:lK P call){X:List Val}{Y:Array Value}
  (hlen:X.length=Y.size) (hvals: ∀i,i<X.length->VR (aX B S G w.heap.size) G w (X.getD i .dead) (Y.getD i undef)) (hrun:(execOp a.eval o).run P w= .ok (.enter f Y) w)
  (hs:cP (fun x=>snap n st.en x) X=some rs) (hr:call f (rs.map (·.1.wk1))=some v):
  eR P Ξ B S st N a w o d (gV 0 d (st.cnt 0 d) v (rs.flatMap (·.2))):=by
 obtain⟨_,hcalls⟩:=hcall _ _ _ hr;obtain⟨s1,s2⟩:=tU hs;have hrl:(rs.map (·.1.wk1)).length=rs.length:=by simp
 have l0:rs.length=X.length:=by rw[<-s1];simp
 have fin: ∀(S':Nat->Nat->Prop),(∀b o,S' b o->b<w.heap.size)->tT S' w->
   (∀i,i<X.length->VR S' Gh.none w ((rs.map (·.1)).getD i .dead) (Y.getD i undef))->
   (∀x w',Below w.heap.size w w'->aL7 w.heap.size (aD9 w S' w') w' v x-> ∃G',Rel P Ξ B S G' (st.mem d (gV 0 d (st.cnt 0 d) v (rs.flatMap (·.2)))) N a w'/\ VR (aX B S G' w'.heap.size) G' w' (gV 0 d (st.cnt 0 d) v (rs.flatMap (·.2))).v x)->
   eR P Ξ B S st N a w o d (gV 0 d (st.cnt 0 d) v (rs.flatMap (·.2))):=by
  intro S' hlt hgl hin hout ro m next Q k
  refine⟨fun _ _=>trivial,?_⟩
  rw[pS hrun (by simp),Oper.uponIn_enter]
  refine⟨fun h=>by simp[Fx,Fence.wide]at h,?_⟩
  refine pG (Calls.mono (hcalls S' w _ hlt hgl (by rw[hrl,l0,hlen]) (fun i hi=>?_)) ?_)
  ·rw[hrl,l0]at hi;have:=(hin i hi).wk1;rw[show rs.map (·.1.wk1)=(rs.map (·.1)).map Val.wk1 by simp]
   rw[aD5];exact this
  ·rintro e w' ⟨x,rfl,hb,hv⟩
   obtain⟨G',g1,g2⟩:=hout x w' hb hv;exact k x w' G' g1 g2 ⟨hb.os,hb.tape,hb.output,hb.size,fun k hk=>hb.block k (bRa hk hR.size)⟩
 have all: ∀i,i<X.length->VR (fun b _=>b<w.heap.size) Gh.none w ((rs.map (·.1)).getD i .dead) (Y.getD i undef):=fun i hi=>by
  obtain⟨ks,e1,_⟩:=s2 i hi;exact yC hR.ents ⟨fun _ _ h=>h.1,G.le_refl,fun _ _ _ _ h=>h,fun _ _ _ _ h=>h,fun _ _ h=>h,fun _ r h=>⟨r,h⟩⟩ n (hvals i hi) e1 fun k _ e he=>aV0 hR he
 obtain⟨G',hR',hg,hT,hsnap⟩:=yH hR (rs.flatMap (·.2));have frz: ∀i,i<X.length->VR (aX B S G' w.heap.size) Gh.none w ((rs.map (·.1)).getD i .dead) (Y.getD i undef):=fun i hi=>by
  obtain⟨ks,e1,e2⟩:=s2 i hi;exact hsnap n _ _ _ ks (hvals i hi) e1 e2
 by_cases hown: ∃sz xs,v= .own sz xs
 ·obtain⟨sz,xs,rfl⟩:=hown
  by_cases hfl:xs.all Val.flat1=true
  ·refine fin (fun b _=>b<w.heap.size) (fun _ _ h=>h) (hR.glob.mono fun _ _ h=>h.1) all fun x w' hb hv=>?_
   obtain⟨G2,h1,h2⟩:=aV1 (d:=d) (S':=fun _ _=>False) hR hb (fun _ _ _ h=>h.elim) (bAa hv hfl)
   exact⟨G2,by simpa[St.mem,gV,hfl,W.applyAll,W.apply]using h1,h2⟩
  ·refine fin (aX B S G' w.heap.size) (fun _ _ h=>h.1) hR'.glob frz fun x w' hb hv=>?_
   obtain⟨G2,h1,h2⟩:=aV1 (d:=d) hR' hb (fun _ _ _ h=>h) hv
   refine⟨G2,?_,h2⟩
   simpa[St.mem,gV,hfl,W.applyAll,W.apply]using h1
 have hcr:gV 0 d (st.cnt 0 d) v (rs.flatMap (·.2))={v:=v,ws:=if v.flat then []else(rs.flatMap (·.2)).map .frz,rs:=(rs.flatMap (·.2)).map .val}:=by
  cases v<;>first|rfl|exact absurd ⟨_,_,rfl⟩ hown
 have hres: ∀{B':Nat} {T:Nat->Nat->Prop} {w':World} {x:Value},aL7 B' T w' v x->VR T Gh.none w' v x:=by
  intro B' T w' x h;cases v<;>first|exact h|exact absurd ⟨_,_,rfl⟩ hown
 by_cases hfl:v.flat=true
 ·refine fin (fun b _=>b<w.heap.size) (fun _ _ h=>h) (hR.glob.mono fun _ _ h=>h.1) all fun x w' hb hv=>⟨G,?_,?_⟩
  ·rw[hcr];simpa[St.mem,hfl,W.applyAll]using hR.below hb
  ·rw[hcr];exact aMu (hres hv) hfl
 ·refine fin (aX B S G' w.heap.size) (fun _ _ h=>h.1) hR'.glob frz fun x w' hb hv=>⟨G',?_,?_⟩
  ·rw[hcr];simpa[St.mem,hfl]using hR'.below hb
  ·rw[hcr]
   refine(hres hv).mono ⟨fun b q h=>?_,Gh.none_le _,fun _ _ _ _ h=>h,fun _ _ _ _ h=>h,fun _ _ h=>h,fun _ r h=>⟨r,h⟩⟩
   by_cases hbw:b<w.heap.size
   ·exact⟨h.1,(h.2 hbw).2⟩
   ·refine⟨h.1,.inr ⟨by have:=hR.size;omega,?_⟩⟩
    cases hown:G'.own b with
    |none=>trivial
    |some z=>obtain⟨k,t⟩:=z;have:=(hR'.own _ _ _ hown).2.1;omega
theorem bDl (hR:Rel P Ξ B S G st N a w)(hcall:lK P call){x:Opd}
  (ho:o.op= .call c) (hc:c.callee= .value F) (h1:aO F=some x) (h2:jK c.args.toList=some ys) (hf:St.get st.fr x= .fn f A Z)
  (hs:cP (fun x=>snap n st.en x) (A++ys.map (St.get st.fr)++Z)=some rs) (hr:call f (rs.map (·.1.wk1))=some v):
  eR P Ξ B S st N a w o d (gV 0 d (st.cnt 0 d) v (rs.flatMap (·.2))):=by
 obtain⟨⟨fn,hfn,hnm,hbody⟩,hcalls⟩:=hcall _ _ _ hr;have hF:=aU hR h1;rw[hf]at hF;obtain⟨ly,vy⟩:=oT hR h2;generalize hgF:a.eval F=uF at hF;cases hF with
 |fn _ _ _ p q hp hq hvp hvq=>
 obtain⟨s1,s2⟩:=tU hs;have hlen:(A++ys.map (St.get st.fr)++Z).length=(p++c.args.map a.eval++q).size:=by simp[hp,hq,ly]
 have hvals: ∀i,i<(A++ys.map (St.get st.fr)++Z).length->VR (aX B S G w.heap.size) G w ((A++ys.map (St.get st.fr)++Z).getD i .dead) ((p++c.args.map a.eval++q).getD i undef):=by
  intro i hi;simp only[bQn,bQy,bTc,bTd,bQ2,bTl,Array.size_map,bQl]at hi⊢;have e1:p.size=A.length:=hp;have e2:c.args.size=ys.length:=by simp[ly]
  rw[e1,e2];split
  ·split
   ·rename_i h;have:=hvp i h;simpa[bQn,bQy]using this
   ·have hi':i-A.length<ys.length:=by omega
    have:=vy (i-A.length) hi';have hi2:i-A.length<c.args.size:=by omega
    simpa[bQn,bQy,hi',hi2]using this
  ·have:=hvq (i-(A.length+ys.length)) (by omega);simpa[bQn,bQy]using this
 have hrun:(execOp a.eval o).run P w= .ok (.enter f (p++c.args.map a.eval++q)) w:=by
  have hnm': ¬fn.name= "runtime.NumGoroutine" :=by simpa using hnm
  have hbody': ¬fn.body=none:=by intro h;rw[h]at hbody;cases hbody
  simp[execOp,ho,resolve,hc,hgF,Deferred.ofValue,invoke,callFunc,hfn,hnm',hbody']
 exact aQs hR hcall hlen hvals hrun hs hr
theorem aTy {tbl:List (Nat×Nat)}{t:Nat}(h:tbl.lookup t=some f):(t,f)∈tbl:=by
 induction tbl with
 |nil=>cases h
 |cons x l ih=>
  obtain⟨t',f'⟩:=x;simp only[List.lookup]at h
  split at h
  ·rename_i he;simp only[bQi]at h;subst h;simp at he;subst he;simp
  ·exact bSo _ (ih h)
theorem aTz (h:aIv P name t=some f)(x:Value)(k:Nat):(method (k+1) t x name).run P w= .ok (f,x) w:=by
 unfold aIv at h
 split at h
 ·rename_i i hi
  split at h
  ·rename_i m hm
   split at h
   ·rename_i hp hf
    split at h
    ·rename_i e hu
     split at h
     ·rename_i hpr;simp only[bQi]at h;subst h;subst hpr;simp[method,typeInfo,hi,hm,hp,hf,follow,receiverAt,run_underlying hu,Place.get]
     ·cases h
    ·rename_i dsc hu hnp
     split at h
     ·cases h
     ·rename_i hpr;simp only[bQi]at h;subst h;have hpr':=eq_false_of_ne_true hpr;subst hpr';have hnp':=run_underlying (w:=w) hnp;cases dsc<;>first|(exact absurd rfl (hu _))|simp[method,typeInfo,hi,hm,hp,hf,follow,receiverAt,hnp',Place.get]
    ·cases h
   ·cases h
  ·cases h
 ·cases h
theorem bGv (hR:Rel P Ξ B S G st N a w)(hcall:lK P call){t:Nat}
  (ho:o.op= .call c) (hc:c.callee= .invoke (.tmp t) name) (h2:jK c.args.toList=some ys) (hf:wS (aBj P name) (st.fr t)= .fn f A Z)
  (hs:cP (fun x=>snap n st.en x) (A++ys.map (St.get st.fr)++Z)=some rs) (hr:call f (rs.map (·.1.wk1))=some v):
  eR P Ξ B S st N a w o d (gV 0 d (st.cnt 0 d) v (rs.flatMap (·.2))):=by
 obtain⟨⟨fn,hfn,hnm,hbody⟩,_⟩:=hcall _ _ _ hr;have hF:=hR.frame t;generalize st.fr t=V at hf hF;cases V<;>simp only[wS,reduceCtorEq]at hf
 rename_i ty u
 split at hf
 case h_2=>cases hf
 rename_i f' hl;simp only[Val.fn.injEq]at hf;obtain⟨rfl,rfl,rfl⟩:=hf;have hm:=aTy hl;simp only[aBj,List.mem_filterMap,bQw,bQo]at hm;obtain⟨t',_,f'',hm,rfl,rfl⟩:=hm;generalize hg:a.tmps.getD t undef=uF at hF;cases hF with
 |ifc _ _ x hx=>
 obtain⟨ly,vy⟩:=oT hR h2
 refine aQs hR hcall (Y:= #[x]++c.args.map a.eval) (by simp[ly];omega) (fun i hi=>?_) ?_ hs hr
 ·simp only[bS2,bRo,bRk,bQu,bQl]at hi;cases i with
  |zero=>simpa[bQy,bTd]using hx
  |succ i=>
   have hi':i<ys.length:=by omega
   have:=vy i hi';have hi2:i<c.args.size:=by rw[ly]at hi';simpa using hi'
   simpa[bQn,bQy,bTd,hi',hi2]using this
 ·have hnm': ¬fn.name= "runtime.NumGoroutine" :=by simpa using hnm
  have hbody': ¬fn.body=none:=by intro h;rw[h]at hbody;cases hbody
  have hrm:=aTz (P:=P) (w:=w) hm x (P.types.size+Made.depth-1);have hne:P.types.size+Made.depth-1+1=P.types.size+Made.depth:=by
   have:0<Made.depth:=by decide
   omega
  rw[hne]at hrm;have hev:a.eval (.tmp t)= .iface t' x:=hg;have e0:(#[Value.iface t' x]++c.args.map a.eval)[0]?=some (.iface t' x):=by simp[bTd]
  have e1:(c.args.map a.eval).extract 0 c.args.size=c.args.map a.eval:=by
   apply Array.ext';simp only[Array.toList_extract,Array.toList_map];rw[List.extract_eq_take_drop]<;>simp[bQ3]
  simp[execOp,ho,resolve,hc,hev,invoke,callMethod,e0,hrm,callFunc,hfn,hnm',hbody',e1]
end
def aOr :EqT->TypeDesc->Prop
 | .num,.int _=>True
 | .str,.string=>True
 | .bool,.bool=>True
 |_,_=>False
variable {e:EqT}
theorem aG4 (h:aFt P t=some e): ∃d,P.underlying t=some d/\ aOr e d:=by
 unfold aFt at h
 split at h<;>simp only[bQi,reduceCtorEq]at h<;>subst h
 ·refine⟨_,by assumption,?_⟩;trivial
 ·refine⟨_,by assumption,?_⟩;trivial
 ·refine⟨_,by assumption,?_⟩;trivial
theorem toList_inj {a b:ByteArray}(h:a.toList=b.toList):a=b:=by
 rw[ByteArray.toList_eq,ByteArray.toList_eq]at h;obtain⟨⟨x⟩⟩:=a;obtain⟨⟨y⟩⟩:=b
 simp only at h;rw[h]
theorem aT0 (a b:ByteArray):(a==b)=(a.toList==b.toList):=by
 rw[bSw,MapKept.bytes_beq];constructor
 ·rintro rfl;simp
 ·intro h;exact toList_inj (by simpa using h)
variable {b:Bool}{d:TypeDesc}{k:Val}{u:Value}
theorem aJd {d:TypeDesc}(hd:aOr e d){x:Val}{v:Value}(hk:VR T G w k u)(hx:VR T' G' w' x v)(h:pE e k x=some b):
  Instr.sameNow d u v=some b:=by
 cases e<;>cases d<;>simp only[aOr]at hd<;>cases k<;>cases x<;>simp only[pE,reduceCtorEq]at h<;>cases hk<;>cases hx
 ·simp only[Instr.sameNow];exact h
 ·simp only[Instr.sameNow,aT0];exact h
 ·simp only[Instr.sameNow];exact h
theorem aJe {d:TypeDesc}(hd:aOr e d)(hk:VR T G w k u):
  ∀(ks:List Val) (es:List MapEntry) (i:Nat) (r:Option Nat),es.length=ks.length->(∀j,j<ks.length->VR T' G' w' (ks.getD j .dead) (es.getD j default).key)->findKey e k ks=some r->
   Instr.findNow d u es i=some (r.map fun j=>(i+j,(es.getD j default).val))/\ ∀j,r=some j->j<ks.length/\ pE e k (ks.getD j .dead)=some true:=by
 intro ks
 induction ks with
 |nil=>
  intro es i r hl hv h;cases es with
  |nil=>simp only[findKey,bQi]at h;subst h;exact⟨rfl,fun j h=>by cases h⟩
  |cons=>simp at hl
 |cons x xs ih=>
  intro es i r hl hv h;cases es with
  |nil=>simp at hl
  |cons y ys=>
   have h0:=hv 0 (by simp)
   simp only[bTi]at h0;have ht: ∀j,j<xs.length->VR T' G' w' (xs.getD j .dead) (ys.getD j default).key:=fun j hj=>by
    have:=hv (j+1) (by simp;omega);simpa only[List.getD_cons_succ]using this
   simp only[findKey]at h
   split at h
   ·rename_i hq;simp only[bQi]at h;subst h
    refine⟨by simp[Instr.findNow,aJd hd hk h0 hq],fun j hj=>?_⟩
    simp only[bQi]at hj;subst hj;exact⟨by simp,by simpa using hq⟩
   ·rename_i hq
    split at h
    ·rename_i j hj;simp only[bQi]at h;subst h;obtain⟨h1,h2⟩:=ih ys (i+1) _ (by simpa using hl) ht hj
     refine⟨by simp only[Instr.findNow,aJd hd hk h0 hq,h1,bRd,List.getD_cons_succ];congr 3;omega,fun j' hj'=>?_⟩
     simp only[bQi]at hj';subst hj';obtain⟨h3,h4⟩:=h2 j rfl;exact⟨by simp;omega,by simpa using h4⟩
    ·rename_i hj;simp only[bQi]at h;subst h;obtain⟨h1,h2⟩:=ih ys (i+1) _ (by simpa using hl) ht hj
     exact⟨by simp only[Instr.findNow,aJd hd hk h0 hq,h1,Option.map_none],fun j h=>by cases h⟩
    ·cases h
   ·cases h
variable {kt:TypeId}
theorem aQt {d:TypeDesc}(hd:P.underlying kt=some d)(hK:aOr e d)(hk:VR T G w k u)(h:tR e k=true)(b:Bool)(n:Nat):
  (Instr.checkKey b (n+1) kt u).run P w'= .ok () w':=by
 unfold Instr.checkKey;simp only[Sem.run_bind,run_underlying hd,Result.andThen];cases e<;>cases d<;>simp only[aOr]at hK<;>rfl
theorem bAb (hk:VR T G w k u)(h:tR e k=true):(Instr.keyThatStays u u).run P w'= .ok u w':=by
 have:Instr.sameBits 10000 u u=true:=by
  cases k<;>simp[tR]at h<;>cases hk<;>simp[Instr.sameBits,MapKept.bytes_beq]
 simp[Instr.keyThatStays,this]
theorem aT1 (hk:VR T G w k u)(h:tR e k=true)(T':Nat->Nat->Prop)(G':Gh)(w':World):VR T' G' w' k u:=by
 cases k<;>simp[tR]at h<;>cases hk
 ·exact .bool _
 ·exact .int _ _
 ·exact .str _
theorem bGw {d:TypeDesc}(hd:aOr e d){x:Val}{v:Value}(hk:VR T G w k u)(hx:VR T' G' w' x v)(h:pE e k x=some true):v=u:=by
 cases e<;>cases d<;>simp only[aOr]at hd<;>cases k<;>cases x<;>simp only[pE,reduceCtorEq]at h<;>cases hk<;>cases hx
 ·split at h
  ·rename_i hj;subst hj;simp at h;rw[h]
  ·cases h
 ·simp at h;rw[toList_inj h]
 ·simp at h;rw[h]
variable {es:Array MapEntry}{et:TypeId}{ks:List Val}{z:Val}
section
variable {o:Oper}{d:Nat}
theorem bAc (hR:Rel P Ξ B S G st N a w)(ho:o.op= .makeMap t none):
  eR P Ξ B S st N a w o d {v:= .mp ⟨0,d,st.cnt 0 d⟩,ws:=[.ent ⟨0,d,st.cnt 0 d⟩ (some (.map [] [] false))],bump:=true}:=by
 have hf:=hR.freshG ⟨0,d,st.cnt 0 d⟩ (bQk _);have hg:=Gh.le_addMp (b:=w.heap.size) hf.2.2;have ho': ∀b,b≠w.heap.size->(G.addMp ⟨0,d,st.cnt 0 d⟩ w.heap.size).own b=G.own b:=fun b hb=>by simp[Gh.addMp,hb]
 refine jW (G':=G.addMp ⟨0,d,st.cnt 0 d⟩ w.heap.size) (w':=w.alloc (.map #[] 0)) (x:= .map (some w.heap.size)) ?_ ?_ (.mp _ _ (by simp[Gh.addMp])) ((Below.refl B w).alloc hR.size _)
 ·simp[execOp,ho,Instr.makeMap]
 ·exact hR.alloc d _ _ _ hg ho' (fun k' hk'=>by simp[Gh.addMp,hk']) (fun k' t h=>by simp[Gh.addMp]at h;exact h.1.symm)
   (.map [] [] false w.heap.size #[] 0 (by simp[Gh.addMp]) hR.size (gF _ _) rfl rfl (fun i hi=>by simp at hi) (fun i hi=>by simp at hi) (by simp[Gh.addMp]))
theorem aBo :es.toList.getD j default=es.getD j default:=by
 simp[bQn,bQy]
def bAd (w:World)(x:Value)(es:Array MapEntry):Prop:=
 match x with
 | .map none=>es= #[]
 | .map (some r)=> ∃clock,w.heap[r]?=some (.map es clock)
 |_=>False
def bFo (vs:List Val)(z:Val)(ok:Bool):Option Nat->Val
 |some i=>if ok then .tup [vs.getD i .dead,.bool true]else vs.getD i .dead
 |none=>if ok then .tup [z,.bool false]else z
theorem aT2 {dd:TypeDesc}(ht:P.underlying t=some (.map kt et))(hd:P.underlying kt=some dd)(hK:aOr e dd)(hz:tS P et=some z){K:Val}
  (hk:VR T G w K u) (hok:tR e K=true)   {x:Value} (hes:bAd w x es)
  (hs:es.size=ks.length) (hl:vs.length=ks.length) (hkv: ∀i,i<ks.length->VR T Gh.none w (ks.getD i .dead) (es.getD i default).key) (hvv: ∀i,i<ks.length->VR T Gh.none w (vs.getD i .dead) (es.getD i default).val)
  {q:Option Nat} (hf:findKey e K ks=some q) (ok:Bool):
  ∃y,(Instr.lookup t x u ok).run P w= .ok y w/\ VR T G w (bFo vs z ok q) y:=by
 have hfind:=aJe hK hk ks es.toList 0 q (by simpa using hs) (fun j hj=>by rw[aBo];exact hkv j hj) hf
 have hik:=fun b=>aQt (w':=w) hd hK hk hok b 9999
 obtain⟨i0,zv,hi0,hzv,hzr⟩:=aG1 (G:=G) (w:=w) (T:=T) hz;have hzero:(zeroValue et).run P w= .ok zv w:=by simp[zeroValue,typeInfo,hi0,hzv]
 have main: ∀(g:Sem (Array MapEntry)),g.run P w= .ok es w->(Instr.lookup t x u ok).run P w=(do
    let .map key elem←underlying t|stuck "Lookup: map type expected"
    let es<-g
    Instr.checkKey es.isEmpty 10000 key u
    let (v,ok')<-match<-Instr.findKey key u es.toList with
     |some (_,v)=>pure (v,true)
     |none=>pure (<-zeroValue elem,false)
    pure (if ok then .tuple #[v,.bool ok']else v):Sem Value).run P w-> ∃y,(Instr.lookup t x u ok).run P w= .ok y w/\ VR T G w (bFo vs z ok q) y:=by
  intro g hg heq;rw[heq];cases q with
  |none=>
   refine⟨if ok then .tuple #[zv,.bool false]else zv,?_,?_⟩
   ·simp only[Sem.run_bind,run_underlying ht,Result.andThen_ok,hg,hik,MapKept.run_findKey hd hfind.1,Option.map_none,hzero,Sem.run_pure]
   ·cases ok
    ·exact hzr
    ·exact hzr.tup2 (.bool _)
  |some j=>
   obtain⟨hj,_⟩:=hfind.2 j rfl
   refine⟨if ok then .tuple #[(es.getD j default).val,.bool true]else(es.getD j default).val,?_,?_⟩
   ·simp only[Sem.run_bind,run_underlying ht,Result.andThen_ok,hg,hik,MapKept.run_findKey hd hfind.1,bRd,aBo,Sem.run_pure]
   ·have hv:VR T G w (vs.getD j .dead) (es.getD j default).val:=(hvv j hj).mono4 ⟨fun _ _ h=>h,G.none_le,fun _ _ _ _ h=>h,fun _ _ _ _ h=>h⟩
    cases ok
    ·exact hv
    ·exact hv.tup2 (.bool _)
 unfold bAd at hes
 split at hes
 ·subst hes;exact main (pure #[]) rfl rfl
 ·rename_i r;obtain⟨clock,hb⟩:=hes;exact main (do
   let .map es _←getObj r|stuck "Lookup: map expected"
   pure es) (by simp[MapKept.run_getObj_map hb]) (by cases q<;>simp only[Instr.lookup,Sem.run_bind,run_underlying ht,Result.andThen_ok,MapKept.run_getObj_map hb,Sem.run_pure,hik,MapKept.run_findKey hd hfind.1,Option.map_none,bRd,hzero])
 ·exact hes.elim
theorem bDm (hR:Rel P Ξ B S G st N a w){ok:Bool}(ho:o.op= .lookup t x y ok)(ht:P.underlying t=some (.map kt et))
  (hK:aFt P kt=some e) (hz:tS P et=some z) (h1:aO x=some x') (h2:aO y=some y') (hev:eval n call 0 d (st.cnt 0 d) st.en (St.get st.fr) (.mget e z ok x' y')=some r):eR P Ξ B S st N a w o d r:=by
 obtain⟨dd,hd,hKd⟩:=aG4 hK;have hx:=aU hR h1;have hy:=aU hR h2;simp only[eval]at hev
 split at hev
 case isFalse=>cases hev
 rename_i hok;have run: ∀{v:Value},(Instr.lookup t (a.eval x) (a.eval y) ok).run P w= .ok v w->(execOp a.eval o).run P w= .ok (.value v) w:=by
  intro v h;simp[execOp,ho,h]
 generalize hg:a.eval x=u at hx run;have fin: ∀{ks vs:List Val} {es:Array MapEntry} {rs:List R},bAd w u es->es.size=ks.length->vs.length=ks.length->
   (∀i,i<ks.length->VR (aX B S G w.heap.size) Gh.none w (ks.getD i .dead) (es.getD i default).key)->(∀i,i<ks.length->VR (aX B S G w.heap.size) Gh.none w (vs.getD i .dead) (es.getD i default).val)->
   (match findKey e (St.get st.fr y') ks with
    |some (some i)=>some (if ok then Val.tup [vs.getD i .dead,.bool true]else vs.getD i .dead)
    |some none=>some (if ok then Val.tup [z,.bool false]else z)
    |none=>none).map (fun v=>({v:=v,rs:=rs}:Res))=some r->eR P Ξ B S st N a w o d r:=by
  intro ks vs es rs hes hs hl hkv hvv hm;cases hf:findKey e (St.get st.fr y') ks with
  |none=>rw[hf]at hm;cases hm
  |some q=>
   obtain⟨v,hrun,hv⟩:=aT2 ht hd hKd hz hy hok hes hs hl hkv hvv hf ok;rw[hf]at hm;cases q with
   |none=>simp only[bRd,bQi]at hm;subst hm;exact cF hR (run hrun) hv
   |some j=>simp only[bRd,bQi]at hm;subst hm;exact cF hR (run hrun) hv
 split at hev
 ·rename_i key hX
  split at hev
  ·rename_i ks vs frz he;rw[hX]at hx;cases hx with
   |mp _ r' hr'=>
    have hE:=hR.ents key _ he (Gh.knows_mp hr');cases hE with
    |map _ _ _ r2 es clock hr2 hB hh hk hl hkv hvv hown=>
     rw[hr']at hr2;simp only[bQi]at hr2;subst hr2;exact fin (rs:=[.val key]) ⟨clock,hh⟩ hk hl hkv hvv hev
  ·cases hev
 ·rename_i ks vs hX;rw[hX]at hx;cases hx with
  |fm _ _ r' es clock hh hT hk hl hkv hvv=>exact fin (rs:=[]) ⟨clock,hh⟩ hk hl hkv hvv hev
 ·rename_i hX;rw[hX]at hx;cases hx with
  |nilm=>exact fin (ks:=[]) (vs:=[]) (rs:=[]) rfl rfl rfl (fun i hi=>by simp at hi) (fun i hi=>by simp at hi) hev
 ·cases hev
theorem aG5 {f:MapEntry->MapEntry}(hi:i<es.size)(hj:j<es.size):(es.modify i f).getD j default=if i=j then f (es.getD i default)else es.getD j default:=by
 simp only[bQy,Array.getElem?_modify]
 by_cases h:i=j
 ·subst h;simp[hi]
 ·simp[h]
theorem aMv {x:MapEntry}(hj:j<es.size+1):(es.push x).getD j default=if j<es.size then es.getD j default else x:=by
 simp only[bQy,Array.getElem?_push]
 by_cases h:j<es.size
 ·rw[if_neg (by omega),if_pos h]
 ·rw[if_pos (by omega),if_neg h];rfl
theorem aQu {x:Val}(hi:i<ks.length):(ks.set i x).getD j .dead=if i=j then x else ks.getD j .dead:=by
 simp only[bQn,bTb]
 by_cases h:i=j
 ·subst h;simp[hi]
 ·simp[h]
theorem aMw {x:Val}(hj:j<ks.length+1):(ks++[x]).getD j .dead=if j<ks.length then ks.getD j .dead else x:=by
 simp only[bQn,bTc]
 by_cases h:j<ks.length
 ·simp[h]
 ·have:j-ks.length=0:=by omega
  simp[h,this]
theorem aV2 (hR:Rel P Ξ B S G st N a w){v:Operand}{v':Opd}(ho:o.op= .mapUpdate t x y v \/o.op= .insert t x y v)(ht:P.underlying t=some (.map kt et))
  (hK:aFt P kt=some e) (h1:aO x=some x') (h2:aO y=some y') (h3:aO v=some v') (hev:eval n call 0 d (st.cnt 0 d) st.en (St.get st.fr) (.mput e x' y' v')=some r):eR P Ξ B S st N a w o d r:=by
 obtain⟨dd,hd,hKd⟩:=aG4 hK;have hx:=aU hR h1;have hy:=aU hR h2;have hv:=aU hR h3;simp only[eval]at hev
 split at hev
 case h_2=>cases hev
 rename_i key hX
 split at hev
 case h_2=>cases hev
 rename_i ks vs he
 split at hev
 case isFalse=>cases hev
 rename_i hcond;simp only[bQj]at hcond;obtain⟨hok,hfl⟩:=hcond;generalize hg:a.eval x=u at hx;rw[hX]at hx;cases hx with
 |mp _ b hr'=>
 have hE:=hR.ents key _ he (Gh.knows_mp hr');cases hE with
 |map _ _ _ r2 es clock hr2 hB hh hk hl hkv hvv hown=>
 rw[hr']at hr2;simp only[bQi]at hr2;subst hr2;simp only[bQm,if_false]at hown;have hik:=fun b=>aQt (w':=w) hd hKd hy hok b 9999
 have hsk: ∀(es':Array MapEntry) (cl:Nat) (ks' vs':List Val) (rs:List R),(Instr.mapUpdate t (.map (some b)) (a.eval y) (a.eval v)).run P w= .ok () (kJ w b (.map es' cl))->es'.size=ks'.length->vs'.length=ks'.length->
   (∀j,j<ks'.length->VR (aX B S G w.heap.size) Gh.none w (ks'.getD j .dead) (es'.getD j default).key)->(∀j,j<ks'.length->VR (aX B S G w.heap.size) Gh.none w (vs'.getD j .dead) (es'.getD j default).val)->
   eR P Ξ B S st N a w o d {v:= .tup [],ws:=[.ent key (some (.map ks' vs' false))],rs:=rs}:=by
  intro es' cl ks' vs' rs hrun hs' hl' hk' hv';have hrel:=hR.write (e':= .map ks' vs' false) (o':= .map es' cl) hown hh (fun _ _=> .inr (bQk 0)) (fun _=>by simp) (fun _ h=>by cases h) (fun off h=>by omega)
   (fun m=> .map _ _ false b es' cl hr' hB (by rw[kV _ (dX hh)]) hs' hl' (fun j hj=>(hk' j hj).mono m.none) (fun j hj=>(hv' j hj).mono m.none) (by simpa using hown))
  refine aOi ?_ (G':=G) (w':=kJ w b (.map es' cl)) ?_ rfl ?_
  ·rcases ho with ho|ho<;>simp[execOp,ho,hg,hrun]
  ·have:W.applyAll st.en [.ent key (some (.map ks' vs' false))]=st.en.set key (some (.map ks' vs' false)):=rfl;simp only[St.mem,this];exact hrel
  ·exact⟨rfl,rfl,rfl,by rw[nS];exact bQk _,fun k hk=>fB _ (by omega)⟩
 have hy0:=aT1 hy hok (aX B S G w.heap.size) Gh.none w;have hv0:VR (aX B S G w.heap.size) Gh.none w _ _:=yK hv hfl
 split at hev
 ·rename_i i hf;simp only[bQi]at hev;subst hev;obtain⟨hfn,hfi⟩:=aJe hKd hy ks es.toList 0 _ (by simpa using hk) (fun j hj=>by rw[aBo];exact hkv j hj) hf
  obtain⟨hi,heq⟩:=hfi i rfl;have hie:i<es.size:=by omega
  have hkeq:(es.getD i default).key=a.eval y:=bGw hKd hy (hkv i hi) heq
  refine hsk (es.modify i fun e=>{e with key:=a.eval y,val:=a.eval v}) clock _ _ _ ?_ (by simp[hk]) (by simp[hl]) (fun j hj=>?_) (fun j hj=>?_)
  ·have hold:((es[i]?).map (·.key)).getD (a.eval y)=a.eval y:=by
    rw[<-hkeq];simp[bQy,hie]
   have hst:(Instr.keyThatStays (((es[i]?).map (·.key)).getD (a.eval y)) (a.eval y)).run P w= .ok (a.eval y) w:=by
    rw[hold];exact bAb hy hok
   simp only[Instr.mapUpdate,Sem.run_bind,run_underlying ht,Result.andThen_ok,MapKept.run_getObj_map hh,hik,MapKept.run_findKey hd hfn,bRd,bRg,hst,MapKept.run_setObj_map _ hh];rfl
  ·rw[bSb]at hj;rw[aG5 hie (by omega),aQu hi]
   split
   ·exact hy0
   ·exact hkv j hj
  ·rw[bSb]at hj;rw[aG5 hie (by omega),aQu (by omega)]
   split
   ·exact hv0
   ·exact hvv j hj
 ·rename_i hf;simp only[bQi]at hev;subst hev;obtain⟨hfn,_⟩:=aJe hKd hy ks es.toList 0 _ (by simpa using hk) (fun j hj=>by rw[aBo];exact hkv j hj) hf
  refine hsk (es.push {key:=a.eval y,val:=a.eval v,born:=clock}) (clock+1) _ _ _ ?_ (by simp[hk]) (by simp[hl]) (fun j hj=>?_) (fun j hj=>?_)
  ·simp only[Instr.mapUpdate,Sem.run_bind,run_underlying ht,Result.andThen_ok,MapKept.run_getObj_map hh,hik,MapKept.run_findKey hd hfn,Option.map_none,MapKept.run_setObj_map _ hh];rfl
  ·simp only[bQ2,bQu,bQz]at hj;rw[aMv (by omega),aMw (by omega),hk]
   split
   ·exact hkv j (by omega)
   ·exact hy0
  ·simp only[bQ2,bQu,bQz]at hj;rw[aMv (by omega),aMw (by omega),hk,hl]
   split
   ·exact hvv j (by omega)
   ·exact hv0
 ·cases hev
theorem aT3 (hR:Rel P Ξ B S G st N a w){ts:Array TypeId}(ho:o.op= .call {callee:= .builtin .len,args:= #[x],argTypes:=ts})(ht:ts[0]?=some t)
  (hu:P.underlying t=some (.map kt et)) (h1:aO x=some x') (hev:eval n call 0 d (st.cnt 0 d) st.en (St.get st.fr) (.len .map x')=some r):eR P Ξ B S st N a w o d r:=by
 have hx:=aU hR h1;generalize hg:a.eval x=u at hx;simp only[eval]at hev
 split at hev
 ·rename_i key hX
  split at hev
  ·rename_i ks vs frz he;simp only[bQi]at hev;subst hev;rw[hX]at hx;cases hx with
   |mp _ b hr'=>
    have hE:=hR.ents key _ he (Gh.knows_mp hr');cases hE with
    |map _ _ _ r2 es clock hr2 hB hh hk hl hkv hvv hown=>
     rw[hr']at hr2;simp only[bQi]at hr2;subst hr2
     refine cF (x:= .int .i64 ks.length) hR ?_ (.int _ _)
     simp[execOp,ho,resolve,invoke,builtin,Builtin.len_,ht,run_underlying hu,hg,goInt,MapKept.run_getObj_map hh,hk]
  ·cases hev
 ·rename_i ks vs hX;simp only[bQi]at hev;subst hev;rw[hX]at hx;cases hx with
  |fm _ _ b es clock hh hT hk hl hkv hvv=>
   refine cF (x:= .int .i64 ks.length) hR ?_ (.int _ _)
   simp[execOp,ho,resolve,invoke,builtin,Builtin.len_,ht,run_underlying hu,hg,goInt,MapKept.run_getObj_map hh,hk]
 ·rename_i hX;simp only[bQi]at hev;subst hev;rw[hX]at hx;cases hx with
  |nilm=>
   refine cF (x:= .int .i64 0) hR ?_ (.int _ _)
   simp[execOp,ho,resolve,invoke,builtin,Builtin.len_,ht,run_underlying hu,hg,goInt]
 ·cases hev
theorem bGx (hR:Rel P Ξ B S G st N a w){s:ByteArray}(ho:o.op= .range t x)(ht:P.underlying t=some .string)(h1:aO x=some x')(hX:St.get st.fr x'= .str s):
  eR P Ξ B S st N a w o d {v:= .it ⟨0,d,st.cnt 0 d⟩,ws:=[.ent ⟨0,d,st.cnt 0 d⟩ (some (.iter s 0))],bump:=true}:=by
 have hx:=aU hR h1;rw[hX]at hx;have hxe:a.eval x= .string s:=by generalize a.eval x=u at hx;cases hx;rfl
 have hf:=hR.freshG ⟨0,d,st.cnt 0 d⟩ (bQk _);have hg:=Gh.le_addMp (b:=w.heap.size) hf.2.2;have ho': ∀b,b≠w.heap.size->(G.addMp ⟨0,d,st.cnt 0 d⟩ w.heap.size).own b=G.own b:=fun b hb=>by simp[Gh.addMp,hb]
 refine jW (G':=G.addMp ⟨0,d,st.cnt 0 d⟩ w.heap.size) (w':=w.alloc (.stringIter s 0)) (x:= .pointer (some ⟨w.heap.size,0,none⟩)) ?_ ?_ (.it _ _ (by simp[Gh.addMp])) ((Below.refl B w).alloc hR.size _)
 ·have hrun:(Instr.range t (.string s)).run P w= .ok (.pointer (some ⟨w.heap.size,0,none⟩)) (w.alloc (.stringIter s 0)):=by
   simp only[Instr.range,Sem.run_bind,run_underlying ht,Result.andThen_ok,Sem.run_pure];rfl
  simp[execOp,ho,hxe,hrun]
 ·exact hR.alloc d _ _ _ hg ho' (fun k' hk'=>by simp[Gh.addMp,hk']) (fun k' t h=>by simp[Gh.addMp]at h;exact h.1.symm)
   (.iter s 0 w.heap.size (by simp[Gh.addMp]) hR.size (gF _ _) (by simp[Gh.addMp]))
theorem bGy (hR:Rel P Ξ B S G st N a w)(ho:o.op= .next x true)(h1:aO x=some x')(hev:eval n call 0 d (st.cnt 0 d) st.en (St.get st.fr) (.nxt x')=some r):eR P Ξ B S st N a w o d r:=by
 have hx:=aU hR h1;simp only[eval]at hev
 split at hev
 case h_2=>cases hev
 rename_i k hX
 split at hev
 case h_2=>cases hev
 rename_i s pos he;generalize hg:a.eval x=u at hx;rw[hX]at hx;cases hx with
 |it _ b hb=>
 have hE:=hR.ents k _ he (Gh.knows_mp hb);cases hE with
 |iter _ _ r' hr' hB hh hown=>
 rw[hb]at hr';simp only[bQi]at hr';subst hr';have hget:(getObj b).run P w= .ok (.stringIter s pos) w:=by simp[getObj,Sem.run,hh]
 have hset: ∀o',(setObj b o').run P w= .ok () (kJ w b o'):=fun o'=>by simp[setObj,Sem.run,hh,kJ]
 split at hev
 ·rename_i hlt;simp only[bQi]at hev;subst hev;have hrel:=hR.write (e':= .iter s (pos+(Utf8.decode s pos).2)) (o':= .stringIter s (pos+(Utf8.decode s pos).2)) hown hh (fun _ _=> .inl (by simp)) (fun _=>by simp) (fun _ h=>by cases h) (fun off h=>by omega)
   (fun m=> .iter s _ b hb hB (kV _ (dX hh)) hown)
  refine jW (x:= .tuple #[.bool true,.int .i64 pos,.int .i32 (Utf8.decode s pos).1]) (G':=G) (w':=kJ w b (.stringIter s (pos+(Utf8.decode s pos).2))) ?_ ?_ ?_ ⟨rfl,rfl,rfl,by rw[nS];exact bQk _,fun k hk=>fB _ (by omega)⟩
  ·have hrun:(Instr.next (.pointer (some ⟨b,0,none⟩)) true o.type).run P w= .ok (.tuple #[.bool true,.int .i64 pos,.int .i32 (Utf8.decode s pos).1]) (kJ w b (.stringIter s (pos+(Utf8.decode s pos).2))):=by
    simp only[Instr.next,Sem.run_bind,hget,Result.andThen_ok,hlt,if_true,hset,Sem.run_pure,goInt]
   simp[execOp,ho,hg,hrun]
  ·have:W.applyAll st.en [.ent k (some (.iter s (pos+(Utf8.decode s pos).2)))]=st.en.set k (some (.iter s (pos+(Utf8.decode s pos).2))):=rfl;simp only[St.mem,this];exact hrel
  ·refine .tup _ _ rfl (fun i hi=>?_)
   match i,hi with
   |0,_=>exact .bool _
   |1,_=>exact .int _ _
   |2,_=>exact .int _ _
 ·rename_i hge;simp only[bQi]at hev;subst hev
  refine cF (x:= .tuple #[.bool false]) hR ?_ (.tup _ _ rfl fun i hi=>?_)
  ·have hrun:(Instr.next (.pointer (some ⟨b,0,none⟩)) true o.type).run P w= .ok (.tuple #[.bool false]) w:=by
    simp only[Instr.next,Sem.run_bind,hget,Result.andThen_ok,hge,if_false,Sem.run_pure]
   simp[execOp,ho,hg,hrun]
  ·match i,hi with
   |0,_=>exact .bool _
end
variable {lop:LOp}{op:Op}{I:Operand->Bool}
section
variable {o:Oper}{d:Nat}
theorem bJc {α:Type}{a:Array α}{x:α}(h:a.toList=[x]):a= #[x]:=by
 cases a;simp at h;subst h;rfl
theorem aQv {α:Type}{a:Array α}{x y:α}(h:a.toList=[x,y]):a= #[x,y]:=by
 cases a;simp at h;subst h;rfl
theorem aXh (hR:Rel P Ξ B S G st N a w)(ho:dO P I o.op=some lop)(hev:eval n call 0 d (st.cnt 0 d) st.en (St.get st.fr) lop=some r)
  (h: ∃t x y,o.op= .indexAddr t x y):eR P Ξ B S st N a w o d r:=by
 obtain⟨t,x,i,hop⟩:=h;rw[hop]at ho;simp only[dO]at ho
 split at ho
 ·rename_i e ht
  split at ho
  ·cases ho
  rename_i he;have he:(P.info? e).isSome=true:=eq_true_of_ne_false he;simp only[bQ6,bQx,bQ8,bQi]at ho;obtain⟨x',h1,i',h2,rfl⟩:=ho;simp only[eval]at hev
  split at hev
  case h_2=>cases hev
  rename_i k j hi;have fz: ∀xs,(St.get st.fr x'= .fz xs \/St.get st.fr x'= .cl xs)->(if 0<=j then(match xs[j.toNat]? with
     |some y=>if y.cells.length=P.cellsOf e then some {v:= .fp y.cells 0}else none
     |none=>none)else none:Option Res)=some r->eR P Ξ B S st N a w o d r:=by
   intro xs hX hev
   split at hev
   case isFalse=>cases hev
   rename_i hj
   split at hev
   case h_2=>cases hev
   rename_i y hy
   split at hev
   case isFalse=>cases hev
   rename_i hl;simp only[bQi]at hev;subst hev;exact aZ2 hR hop ht he h1 h2 hi hj hX hy hl
  split at hev
  ·exact fz _ (.inl (by assumption)) hev
  ·exact fz _ (.inr (by assumption)) hev
  ·rename_i key off len hX
   split at hev
   case h_2=>cases hev
   rename_i sz ys f hen
   split at hev
   case isFalse=>cases hev
   rename_i hc;simp only[bQi]at hev;subst hev;obtain⟨c1,c2,rfl⟩:=hc;exact aZ3 hR hop ht he h1 h2 hi ⟨c1,c2⟩ hX hen
  ·cases hev
 ·cases ho
theorem bAe (hR:Rel P Ξ B S G st N a w)(ho:dO P I o.op=some lop)(hev:eval n call 0 d (st.cnt 0 d) st.en (St.get st.fr) lop=some r)
  (h: ∃t x y,o.op= .index t x y):eR P Ξ B S st N a w o d r:=by
 obtain⟨t,x,i,hop⟩:=h;rw[hop]at ho;simp only[dO]at ho
 split at ho
 ·rename_i ht;simp only[bQ6,bQx,bQ8,bQi]at ho;obtain⟨x',h1,i',h2,rfl⟩:=ho;simp only[eval]at hev
  split at hev
  case h_2=>cases hev
  rename_i s k j hX hi
  split at hev
  case isFalse=>cases hev
  rename_i hj;obtain⟨b,hb,rfl⟩:=bQw.1 hev;exact bGs hR hop ht h1 h2 hi hX hj hb
 ·rename_i m e ht
  split at ho
  ·cases ho
  rename_i he;have he:(P.underlying e).isSome=true:=eq_true_of_ne_false he;simp only[bQ6,bQx,bQ8,bQi]at ho;obtain⟨x',h1,i',h2,rfl⟩:=ho;simp only[eval]at hev
  split at hev
  case h_2=>cases hev
  rename_i cs k j hX hi
  split at hev
  case isFalse=>cases hev
  rename_i hj;obtain⟨v,hv,rfl⟩:=bQw.1 hev;exact bGt hR hop ht he h1 h2 hi hX hj hv
 ·cases ho
theorem bAf (hR:Rel P Ξ B S G st N a w)(ho:dO P I o.op=some lop)(hev:eval n call 0 d (st.cnt 0 d) st.en (St.get st.fr) lop=some r)
  (h: ∃t x y,o.op= .store t x y):eR P Ξ B S st N a w o d r:=by
 obtain⟨t,x,y,hop⟩:=h;rw[hop]at ho;simp only[dO]at ho
 split at ho
 case isFalse=>cases ho
 rename_i hi;simp only[bQ6,bQx,bQ8,bQi]at ho;obtain⟨x',h1,y',h2,rfl⟩:=ho;simp only[eval]at hev
 split at hev
 case isFalse=>cases hev
 rename_i hc
 split at hev
 ·rename_i k off hX
  split at hev
  case h_2=>cases hev
  rename_i cs hen
  split at hev
  case isFalse=>cases hev
  rename_i hl;simp only[bQi]at hev;subst hev;exact aOn hR hop hi h1 h2 hc.1 hc.2 hX hen hl
 ·rename_i k i off hX
  split at hev
  case h_2=>cases hev
  rename_i sz xs hen
  split at hev
  case h_2=>cases hev
  rename_i Y hY
  split at hev
  case isFalse=>cases hev
  rename_i hl
  split at hev
  ·rename_i hd;simp only[bQi]at hev;subst hev;exact aL6 hR hop hi h1 h2 hX hen hY hl hd hc.1 hc.2
  split at hev
  case h_2=>cases hev
  rename_i v' ks hs
  split at hev
  case isFalse=>cases hev
  rename_i hk;simp only[bQi]at hev;subst hev
  refine aL5 hR hop hi h1 h2 hX hen hY hl hs hk.1 hk.2.1 fun hm=>?_
  have:=bQp.1 hk.2.2 k hm
  simp at this
 ·cases hev
theorem bDn (hcall:lK P call)(hR:Rel P Ξ B S G st N a w)(ho:dO P I o.op=some lop)(hev:eval n call 0 d (st.cnt 0 d) st.en (St.get st.fr) lop=some r)
  (hme:lop.me 0=0) (h: ∃c,o.op= .call c):eR P Ξ B S st N a w o d r:=by
 obtain⟨c,hop⟩:=h;rw[hop]at ho;simp only[dO]at ho
 split at ho
 ·rename_i F hc
  split at ho
  ·simp only[bQ6,bQx,bQ8,bQi]at ho;obtain⟨x',h1,ys,h2,rfl⟩:=ho;simp[eval]at hev
  simp only[bQ6,bQx,bQ8,bQi]at ho;obtain⟨x',h1,ys,h2,rfl⟩:=ho;simp only[eval]at hev
  split at hev
  case h_2=>cases hev
  rename_i f A Z hf
  split at hev
  case h_2=>cases hev
  rename_i rs hs
  split at hev
  case h_2=>cases hev
  rename_i v hv;simp only[bQi]at hev;subst hev;exact bDl hR hcall hop hc h1 h2 hf hs hv
 ·rename_i t name hc;simp only[bQ6,bQx,bQ8,bQi]at ho;obtain⟨ys,h2,rfl⟩:=ho;simp only[eval]at hev
  split at hev
  case h_2=>cases hev
  rename_i f A Z hf
  split at hev
  case h_2=>cases hev
  rename_i rs hs
  split at hev
  case h_2=>cases hev
  rename_i v hv;simp only[bQi]at hev;subst hev;exact bGv hR hcall hop hc h2 hf hs hv
 ·rename_i hc;obtain⟨cal,args,ts⟩:=c
  simp only at hc ho;subst hc
  split at ho
  case h_2=>cases ho
  rename_i x hx;have:=bJc hx;subst this
  split at ho
  ·rename_i e ht;obtain⟨t,ht0,ht1⟩:=bQx.1 ht;obtain⟨x',h1,rfl⟩:=bQw.1 ho;simp only[eval]at hev;obtain⟨m,hm,rfl⟩:=bQw.1 hev;simp only[bQ6,bQx,bQ8,bQi]at hm;obtain⟨m',hm,rfl⟩:=hm;exact aOj hR hop ht0 ht1 h1 hm
  ·rename_i ht;obtain⟨t,ht0,ht1⟩:=bQx.1 ht;obtain⟨x',h1,rfl⟩:=bQw.1 ho;simp only[eval]at hev
   split at hev
   case h_2=>cases hev
   rename_i s hs;simp only[bQi]at hev;subst hev;exact aTv hR hop ht0 ht1 h1 hs
  ·rename_i ht;obtain⟨t,ht0,ht1⟩:=bQx.1 ht;obtain⟨x',h1,rfl⟩:=bQw.1 ho;exact aT3 hR hop ht0 ht1 h1 hev
  ·cases ho
 ·rename_i hc;obtain⟨cal,args,ts⟩:=c
  simp only at hc ho;subst hc
  split at ho
  case h_2=>cases ho
  rename_i t t' x y hts hargs;have:=aQv hts;subst this;have:=aQv hargs;subst this
  split at ho
  case h_2=>cases ho
  rename_i e ht
  split at ho
  case isFalse=>cases ho
  rename_i hcond;obtain⟨rfl,hz,hby⟩:=hcond;simp only[bQ6,bQx,bQ8,bQi]at ho;obtain⟨x',h1,y',h2,rfl⟩:=ho
  by_cases hI:I (.const (.bool true))=true
  ·rw[if_pos hI]at hme;simp[LOp.me]at hme
  ·rw[if_neg hI]at hev;exact aXg hR hop ht hz hby h1 h2 hev
 all_goals first
  |(cases ho;done)
  |(rename_i hc
    obtain⟨cal,args,ts⟩:=c
    simp only at hc ho;subst hc
    obtain⟨xs,h1,rfl⟩:=bQw.1 ho;simp only[eval]at hev
    split at hev
    case h_2=>cases hev
    rename_i j m k n hx
    split at hev
    case isFalse=>cases hev
    rename_i hjk;subst hjk;simp only[bQi]at hev;subst hev;rcases xs with _|⟨x',_|⟨y',_|⟨z',xs⟩⟩⟩
    ·simp at hx
    ·simp at hx
    ·simp only[bRj,bQ1,List.cons.injEq,and_true]at hx;obtain⟨l1,l2⟩:=fH h1;rcases hargs:args.toList with _|⟨x,_|⟨y,_|⟨z,as⟩⟩⟩<;>rw[hargs]at l1 l2
     ·simp at l1
     ·simp at l1
     ·have:=aQv hargs;subst this;have e1:=l2 0 (by simp) (by simp)
      have e2:=l2 1 (by simp) (by simp)
      first
       |exact aMs (mx:=true) hR hop e1 e2 hx.1 hx.2
       |exact aMs (mx:=false) hR hop e1 e2 hx.1 hx.2
     ·simp at l1
    ·simp at hx)
theorem aT4 (hcall:lK P call)(hR:Rel P Ξ B S G st N a w)(ho:dO P I o.op=some lop)(hev:eval n call 0 d (st.cnt 0 d) st.en (St.get st.fr) lop=some r)(hme:lop.me 0=0):eR P Ξ B S st N a w o d r:=by
 have ho':=ho;have hev':=hev;cases hop:o.op<;>rw[hop]at ho
 case panic x=>
  obtain⟨x',h1,rfl⟩:=bQw.1 ho;simp[eval]at hev
 case indexAddr t x y=>exact aXh hR ho' hev' ⟨_,_,_,hop⟩
 case index t x y=>exact bAe hR ho' hev' ⟨_,_,_,hop⟩
 case store t x y=>exact bAf hR ho' hev' ⟨_,_,_,hop⟩
 case call c=>exact bDn hcall hR ho' hev' hme ⟨_,hop⟩
 case move x=>
  obtain⟨x',h1,rfl⟩:=bQw.1 ho;simp only[eval,bQi]at hev;subst hev;exact bFn hR (.inl hop) h1
 case assign x=>
  obtain⟨x',h1,rfl⟩:=bQw.1 ho;simp only[eval,bQi]at hev;subst hev;exact bFn hR (.inr hop) h1
 case pick c x y=>
  simp only[dO,bQ6,bQx,bQ8,bQi]at ho;obtain⟨c',h1,x',h2,y',h3,rfl⟩:=ho;simp only[eval]at hev
  split at hev
  case h_2=>cases hev
  rename_i b hb;simp only[bQi]at hev;subst hev;exact bDg hR hop h1 h2 h3 hb
 case alloc t=>
  simp only[dO,bQ6,bQx,bQ8,bQi]at ho;obtain⟨z,h1,rfl⟩:=ho;simp only[eval,bQi]at hev;subst hev;exact aZz hR hop h1
 case box t x=>
  simp only[dO,bQ6,bQx,bQ8,bQi]at ho;obtain⟨x',h1,rfl⟩:=ho;simp only[eval]at hev
  split at hev
  case isFalse=>cases hev
  rename_i hc;simp only[bQi]at hev;subst hev;exact bGo hR hop h1 hc.1
 case build t parts=>
  simp only[dO]at ho
  split at ho
  ·rename_i fs ht
   split at ho
   case isFalse=>cases ho
   rename_i hfs;simp only[bQ6,bQx,bQi]at ho;obtain⟨z,hz,ps,hp,hx⟩:=ho;simp only[bQ8,bQi]at hx;subst hx;simp only[eval]at hev;obtain⟨cs,hcs,rfl⟩:=bQw.1 hev;exact aH0 hR hop ht hfs hz hp hcs
  ·rename_i m e ht
   split at ho
   case isFalse=>cases ho
   rename_i he;simp only[bQ6,bQx,bQi]at ho;obtain⟨z,hz,ps,hp,hx⟩:=ho;simp only[bQ8,bQi]at hx;subst hx;simp only[eval]at hev;obtain⟨cs,hcs,rfl⟩:=bQw.1 hev;exact aI7 hR hop ht he hz hp hcs
  ·cases ho
 case buildSlice t len parts=>
  simp only[dO]at ho
  split at ho
  case h_2=>cases ho
  rename_i e ht;simp only[bQ6,bQx]at ho;obtain⟨z,hz,ho⟩:=ho
  split at ho
  case isFalse=>cases ho
  rename_i hzl;simp only[bQx]at ho;obtain⟨qs,hp,hx⟩:=ho;simp only[bQ8,bQi]at hx;subst hx
  by_cases hI:I (.const (.bool true))=true
  ·rw[if_pos hI]at hev;simp only[eval]at hev
   split at hev
   case isFalse=>cases hev
   rename_i hl
   split at hev
   case h_2=>cases hev
   rename_i ps hs
   split at hev
   case h_2=>cases hev
   rename_i xs hf;simp only[bQi]at hev;subst hev;exact aI9 (F:=id) (fun h=>h) hR hop ht hz hzl hp hl hs hf
  rw[if_neg hI]at hev;simp only[eval]at hev
  split at hev
  case isFalse=>cases hev
  rename_i hl
  split at hev
  case h_2=>cases hev
  rename_i ps hs
  split at hev
  case h_2=>cases hev
  rename_i xs hf;simp only[bQi]at hev;subst hev;exact aI9 (F:=Val.wk1) VR.wk1 hR hop ht hz hzl hp hl hs hf
 case load t x=>
  simp only[dO]at ho
  split at ho
  case isFalse=>cases ho
  rename_i hu;obtain⟨x',h1,rfl⟩:=bQw.1 ho;simp only[eval]at hev
  split at hev
  case h_2=>cases hev
  rename_i cs rs hr;obtain⟨v,hv,rfl⟩:=bQw.1 hev;exact bDj hR hop hu h1 hr hv
 case nilCheck x=>
  obtain⟨x',h1,rfl⟩:=bQw.1 ho;simp only[eval]at hev;obtain⟨v,rfl⟩: ∃v,r={v:=v}:=by
   revert hev;split<;>simp only[bQi,reduceCtorEq,false_implies]<;>(rintro rfl;exact⟨_,rfl⟩)
  exact aZ0 hR hop h1 hev
 case binOp op t x y ty=>
  simp only[dO,bQ6,bQx]at ho;obtain⟨e,ht,ho⟩:=ho
  split at ho
  ·rename_i he;subst he
   split at ho
   ·simp only[bQx,bQ8,bQi]at ho;obtain⟨x',h1,rfl⟩:=ho;simp only[eval]at hev;obtain⟨v,hv,rfl⟩:=bQw.1 hev;exact aTu hR hop ht h1 hv
   ·cases ho
  ·split at ho
   ·cases ho
   rename_i hif;simp only[bQx,bQ8,bQi]at ho;obtain⟨x',h1,y',h2,rfl⟩:=ho;simp only[eval]at hev;obtain⟨v,hv,rfl⟩:=bQw.1 hev;exact bGp hR hop ht (fun he=>by cases hx:nA x<;>cases hy:nA y<;>simp[he,hx,hy]at hif⊢) h1 h2 hv
 case unOp op t x=>
  obtain⟨x',h1,rfl⟩:=bQw.1 ho;simp only[eval]at hev;obtain⟨v,rfl⟩: ∃v,r={v:=v}:=by
   revert hev;split<;>simp only[bQi,reduceCtorEq,false_implies]<;>(rintro rfl;exact⟨_,rfl⟩)
  exact bI9 hR hop h1 (by rw[<-hev];cases op<;>cases St.get st.fr x'<;>rfl)
 case convert s t x=>
  simp only[dO]at ho
  split at ho
  case h_2=>cases ho
  rename_i j k hs ht;obtain⟨x',h1,rfl⟩:=bQw.1 ho;simp only[eval]at hev
  split at hev
  case h_2=>cases hev
  rename_i j m hx;simp only[bQi]at hev;subst hev;exact bDh hR hop hs ht h1 hx
 case makeInterface t x=>
  simp only[dO]at ho
  split at ho
  ·cases ho
  ·cases ho
  ·rename_i h1 h2;obtain⟨x',h3,rfl⟩:=bQw.1 ho;simp only[eval]at hev
   split at hev
   case isFalse=>cases hev
   simp only[bQi]at hev;subst hev;exact aZ1 hR hop h1 h2 h3
 case makeFunc f x y=>
  cases f<;>simp only[dO,reduceCtorEq,bQ6,bQx,bQ8,bQi]at ho
  obtain⟨x',h1,y',h2,rfl⟩:=ho;simp only[eval,bQi]at hev;subst hev;exact bDi hR hop h1 h2
 case makeSlice t x y=>
  simp only[dO]at ho
  split at ho
  case h_2=>cases ho
  rename_i e ht;simp only[bQ6,bQx]at ho;obtain⟨z,hz,ho⟩:=ho
  split at ho
  case isFalse=>cases ho
  rename_i hzl;simp only[bQx,bQ8,bQi]at ho;obtain⟨x',h1,y',h2,rfl⟩:=ho;simp only[eval]at hev
  split at hev
  case h_2=>cases hev
  rename_i m k hx hy
  split at hev
  case isFalse=>cases hev
  rename_i hc;simp only[bQi]at hev;subst hev;obtain⟨rfl,hm⟩:=hc;exact aZ5 hR hop ht hz hzl.1 hzl.2 h1 h2 hx hy (by simpa[small]using hm)
 case slice t x lo hi mx=>
  simp only[dO]at ho
  split at ho
  ·rename_i e ht
   split at ho
   ·cases ho
   rename_i he;simp only[bQ6,bQx,bQ8,bQi]at ho;obtain⟨x',h1,lo',h2,hi',h3,mx',h4,rfl⟩:=ho;exact aZ4 hR hop ht (eq_true_of_ne_false he) h1 h2 h3 h4 hev
  ·rename_i ht
   split at ho
   ·cases ho
   rename_i hmx;simp only[bQ6,bQx,bQ8,bQi]at ho;obtain⟨x',h1,lo',h2,hi',h3,rfl⟩:=ho;have:mx=none:=by cases mx<;>simp at hmx⊢
   subst this;exact aOk hR hop ht h1 h2 h3 hev
  ·cases ho
 case range t x=>
  simp only[dO]at ho
  split at ho
  case h_2=>cases ho
  rename_i ht;obtain⟨x',h1,rfl⟩:=bQw.1 ho;simp only[eval]at hev
  split at hev
  case h_2=>cases hev
  rename_i s hs;simp only[bQi]at hev;subst hev;exact bGx hR hop ht h1 hs
 case next x b=>
  cases b with
  |false=>simp[dO]at ho
  |true=>
   simp only[dO]at ho;obtain⟨x',h1,rfl⟩:=bQw.1 ho;exact bGy hR hop h1 hev
 case makeMap t q=>
  cases q with
  |some _=>simp[dO]at ho
  |none=>
   simp only[dO,bQi]at ho;subst ho;simp only[eval,bQi]at hev;subst hev;exact bAc hR hop
 case lookup t x y ok=>
  simp only[dO]at ho
  split at ho
  case h_2=>cases ho
  rename_i kt et ht;simp only[bQ6,bQx,bQ8,bQi]at ho;obtain⟨e,hK,z,hz,x',h1,y',h2,rfl⟩:=ho;exact bDm hR hop ht hK hz h1 h2 hev
 case mapUpdate t x y v=>
  simp only[dO]at ho
  split at ho
  case h_2=>cases ho
  rename_i kt et ht;simp only[bQ6,bQx,bQ8,bQi]at ho;obtain⟨e,hK,x',h1,y',h2,v',h3,rfl⟩:=ho;exact aV2 hR (.inl hop) ht hK h1 h2 h3 hev
 case insert t x y v=>
  simp only[dO]at ho
  split at ho
  case h_2=>cases ho
  rename_i kt et ht;simp only[bQ6,bQx,bQ8,bQi]at ho;obtain⟨e,hK,x',h1,y',h2,v',h3,rfl⟩:=ho;exact aV2 hR (.inr hop) ht hK h1 h2 h3 hev
 case fieldAddr s x i=>
  simp only[dO]at ho
  split at ho
  case h_2=>cases ho
  rename_i fs hs;simp only[bQ6,bQx]at ho;obtain⟨f,hf,ho⟩:=ho
  split at ho
  ·cases ho
  rename_i hz;simp only[bQx,bQ8,bQi]at ho;obtain⟨x',h1,rfl⟩:=ho;simp only[eval]at hev;obtain⟨v,rfl⟩: ∃v,r={v:=v}:=by
   revert hev;split<;>simp only[bQi,reduceCtorEq,false_implies]<;>(rintro rfl;exact⟨_,rfl⟩)
  exact bJa hR hop hs hf hz h1 hev
 case field s x i=>
  simp only[dO]at ho
  split at ho
  case h_2=>cases ho
  rename_i fs hs;simp only[bQ6,bQx]at ho;obtain⟨f,hf,ho⟩:=ho
  split at ho
  case isFalse=>cases ho
  rename_i hu;simp only[bQx,bQ8,bQi]at ho;obtain⟨x',h1,rfl⟩:=ho;simp only[eval]at hev
  split at hev
  case h_2=>cases hev
  rename_i cs hg
  split at hev
  case isFalse=>cases hev
  rename_i hl;obtain⟨v,hv,rfl⟩:=bQw.1 hev;exact bGr hR hop hs hf hu h1 hg hl hv
 case extract x i=>
  obtain⟨x',h1,rfl⟩:=bQw.1 ho;simp only[eval]at hev
  split at hev
  case h_2=>cases hev
  rename_i vs hg;obtain⟨v,hv,rfl⟩:=bQw.1 hev;exact bGq hR hop h1 hg hv
 case typeAssert x xt t ok=>
  simp only[dO]at ho
  split at ho
  ·cases ho
  ·cases ho
  ·rename_i h1 h2;simp only[bQ6,bQx,bQ8,bQi]at ho;obtain⟨z,hz,x',h3,rfl⟩:=ho;simp only[eval]at hev;obtain⟨v,rfl⟩: ∃v,r={v:=v}:=by
    revert hev
    split
    ·split
     ·simp only[bQi];rintro rfl;exact⟨_,rfl⟩
     ·split
      ·simp only[bQi];rintro rfl;exact⟨_,rfl⟩
      ·intro h;cases h
    ·split
     ·simp only[bQi];rintro rfl;exact⟨_,rfl⟩
     ·intro h;cases h
    ·intro h;cases h
   exact aXe hR hop (Option.isSome_iff_ne_none.2 h2) h1 hz h3 hev
 all_goals (simp[dO]at ho)
theorem aL8 {x y:Opd}(h:dO P I op=some (.appendD sz x y)): ∃t e X Y,op= .call {callee:= .builtin .append,args:= #[X,Y],argTypes:= #[t,t]}/\ P.underlying t=some (.slice e)/\
  (iV P e).map List.length=some (P.cellsOf e)/\ P.bytesOf e<=1048576/\ sz=P.cellsOf e/\ aO X=some x/\ aO Y=some y:=by
 cases op
 case call c=>
  simp only[dO]at h;obtain⟨cal,args,ts⟩:=c;cases cal with
  |builtin b=>
   cases b<;>simp only at h<;>first
    |(cases h;done)
    |skip
   case append=>
    split at h
    case h_2=>cases h
    rename_i t t' X Y hts hargs;have:=aQv hts;subst this;have:=aQv hargs;subst this
    split at h
    case h_2=>cases h
    rename_i e ht
    split at h
    case isFalse=>cases h
    rename_i hcond;obtain⟨rfl,hz,hby⟩:=hcond;simp only[bQ6,bQx,bQ8,bQi]at h;obtain⟨x',h1,y',h2,h⟩:=h
    split at h
    ·simp only[LOp.appendD.injEq]at h;obtain⟨rfl,rfl,rfl⟩:=h;exact⟨_,e,_,_,rfl,ht,hz,hby,rfl,h1,h2⟩
    ·cases h
   all_goals (exfalso;(repeat' split at h)<;>first|contradiction|(simp[bQx,bQw]at h;done))
  |_=>exfalso;simp only at h;(repeat' split at h)<;>first|contradiction|(simp[bQx,bQw]at h;done)
 case binOp op t x y ty=>
  exfalso
  simp only[dO,bQ6,bQx]at h;obtain⟨e,_,h⟩:=h
  split at h
  ·split at h
   ·simp[bQx]at h
   ·cases h
  ·split at h<;>simp[bQx]at h
 case buildSlice t l ps=>
  exfalso
  simp only[dO]at h
  split at h
  ·simp only[bQ6,bQx]at h;obtain⟨z,_,h⟩:=h
   split at h
   ·simp only[bQx,bQ8,bQi]at h;obtain⟨q,_,h⟩:=h
    (repeat' split at h)<;>cases h
   ·cases h
  ·cases h
 all_goals (exfalso;simp only[dO]at h;(repeat' split at h)<;>first|contradiction|(simp[bQx,bQw]at h;done))
theorem aQw (hR:Rel P Ξ B S G st N a w){x y:Opd}(ho:dO P I o.op=some (.appendD sz x y))(hev:eval n call 3 d (st.cnt 3 d) st.en (St.get st.fr) (.appendD sz x y)=some r):eR P Ξ B S st N a w o d r 3:=by
 obtain⟨t,e,X,Y,hop,ht,hz,hby,rfl,h1,h2⟩:=aL8 ho;exact aJa hR hop ht hz hby h1 h2 hev
end
variable {ops:Array Oper}{Q:Exit->Act->World->Prop}{io:Inl}{next:Act->World->Prop}{st':St}
section
variable {o:Oper}
theorem Rel.putO' (h:Rel P Ξ B S G st N a w)(dst:Option Nat){x:Value}(hv:VR (aX B S G w.heap.size) G w v x):
  dst.all (· <N)=true->Rel P Ξ B S G {st with fr:=gZ st.fr dst v} N (a.put dst x) w:=by
 cases dst with
 |none=>exact fun _=>h
 |some d=>exact fun hd=>h.put (by simpa using hd) hv
theorem pT (hR:Rel P Ξ B S G st N a w){g:Option (Nat×Bool)}(hg:aAa ops o.guard=some g)(hw:wanted st.fr g=some b):Region.wanted o (yielded ops a.tmps)=b:=by
 unfold Region.wanted;cases ho:o.guard with
 |none=>
  rw[ho]at hg;simp only[aAa,bQi]at hg;subst hg;simp only[wanted,bQi]at hw;exact hw
 |some p=>
  obtain⟨j,want⟩:=p;rw[ho]at hg;simp only[aAa]at hg
  split at hg
  case h_2=>cases hg
  rename_i t ht;simp only[bQi]at hg;subst hg;simp only[wanted]at hw;have hf:=hR.frame t;simp only[yielded,ht,bTe]
  split at hw
  ·rename_i b' hb;simp only[bQi]at hw;subst hw;rw[hb]at hf;have e:a.tmps.getD t undef= .bool b':=by
    generalize a.tmps.getD t undef=q at hf;cases hf;rfl
   have:a.tmps[t]?=some (.bool b'):=by
    rw[bQy]at e;cases h:a.tmps[t]? with
    |none=>rw[h]at e;simp[undef]at e
    |some u=>rw[h]at e;simp at e;rw[e]
   simp only[this];cases b'<;>cases want<;>rfl
  ·rename_i hb;simp only[bQi]at hw;subst hw;rw[hb]at hf;have e: ∀b',a.tmps[t]?≠some (.bool b'):=by
    intro b' h;rw[bQy,h]at hf;simp only[bRc]at hf;cases hf
   have:(match a.tmps[t]? with|some (.bool b)=>some b|_=>none)=none:=by
    cases h:a.tmps[t]? with
    |none=>rfl
    |some u=>cases u<;>first|rfl|exact absurd h (e _)
   simp only[this];rfl
  ·cases hw
def yL (P:Program)(Ξ:Env)(B:Nat)(S:Nat->Nat->Prop)(st st':St)(N:Nat)(a:Act)(w:World)(v:Val)(e:Ending)(w':World):Prop:=
 ∃x G',e= .returned x/\ Rel P Ξ B S G' {fr:=st.fr,en:=st'.en,cnt:=st'.cnt} N a w'/\ VR (aX B S G' w'.heap.size) G' w' v x/\ Below B w w'
structure wY (P:Program) (io:Inl):Prop where
 fn: ∀f args v (st0 st':St),io.fn f args st0=some (v,st')→(∃fn,P.funcs[f]?=some fn∧(fn.name== "runtime.NumGoroutine")=false∧fn.body.isNone=false)∧
  ∀(Ξ:Env) (B:Nat) (S:Nat->Nat->Prop) (G:Gh) (st:St) (N:Nat) (a:Act) (w:World) (vals:Array Value),Rel P Ξ B S G st N a w->st0.en=st.en->st0.cnt=st.cnt->vals.size=args.length->
   (∀i,i<args.length->VR (aX B S G w.heap.size) G w (args.getD i .dead) (vals.getD i undef))->Calls P f vals w (yL P Ξ B S st st' N a w v)
 yld: ∀k args v (st0 st':St),io.yld k args st0=some (v,st')->
  ∀(Ξ:Env) (B:Nat) (S:Nat->Nat->Prop) (G:Gh) (st:St) (N:Nat) (a:Act) (w:World) (vals:Array Value) (l:Nat) (ro:Option Nat) (m:Nat),Rel P Ξ B S G st N a w->st0.en=st.en->st0.cnt=st.cnt->G.mp k=some l->vals.size=args.length->
   (∀i,i<args.length->VR (aX B S G w.heap.size) G w (args.getD i .dead) (vals.getD i undef))->
   ∃f tmps assign body,(Instr.yield l vals).run P w= .ok (.round l f tmps assign body) w/\ RoundIn (Fx ro) m P l f tmps assign body w (yL P Ξ B S st st' N a w v)
theorem aG6 {f:Opd}(h:dO P I op=some (.icall f ys)): ∃c F,op= .call c/\ c.callee= .value F/\ aO F=some f/\ jK c.args.toList=some ys:=by
 cases op
 case call c=>
  simp only[dO]at h
  split at h
  ·rename_i F hc
   split at h
   ·simp only[bQ6,bQx,bQ8,bQi,LOp.icall.injEq]at h;obtain⟨x',h1,ys',h2,rfl,rfl⟩:=h;exact⟨c,F,rfl,hc,h1,h2⟩
   ·simp[bQx]at h
  all_goals (repeat' split at h)<;>first|(simp[bQx,bQw]at h;done)
 case binOp op t x y ty=>
  exfalso
  simp only[dO,bQ6,bQx]at h;obtain⟨e,_,h⟩:=h
  split at h
  ·split at h
   ·simp[bQx]at h
   ·cases h
  ·split at h<;>simp[bQx]at h
 all_goals (exfalso;simp only[dO]at h;(repeat' split at h)<;>first|contradiction|(simp[bQx,bQw]at h;done))
theorem aQx (hio:wY P io)(hR:Rel P Ξ B S G st N a w){x:Opd}(ho:o.op= .call c)(hc:c.callee= .value F)(h1:aO F=some x)(h2:jK c.args.toList=some ys)
  (hev:io.call (St.get st.fr x) (ys.map (St.get st.fr)) {st with fr:=fun _=> .dead}=some (v,st'))    
  (k: ∀x w' G',Rel P Ξ B S G' {fr:=st.fr,en:=st'.en,cnt:=st'.cnt} N a w'->VR (aX B S G' w'.heap.size) G' w' v x->Below B w w'->next (a.put o.dst x) w'):o.wpIn (Fx ro) m P a w next Q:=by
 have hF:=aU hR h1;obtain⟨ly,vy⟩:=oT hR h2;have conv: ∀i,i<ys.length->VR (aX B S G w.heap.size) G w ((ys.map (St.get st.fr)).getD i .dead) ((c.args.map a.eval).getD i undef):=by
  intro i hi;have:=vy i hi;have hi2:i<c.args.size:=by rw[ly]at hi;simpa using hi
  simpa[bQn,bQy,hi,hi2]using this
 unfold Inl.call at hev
 split at hev
 ·rename_i f A Z hf;rw[hf]at hF;generalize hgF:a.eval F=uF at hF;cases hF with
  |fn _ _ _ p q hp hq hvp hvq=>
  obtain⟨⟨fn,hfn,hnm,hbody⟩,hcalls⟩:=hio.fn _ _ _ _ _ hev;have hlen:(p++c.args.map a.eval++q).size=(A++ys.map (St.get st.fr)++Z).length:=by simp[hp,hq,ly]
  have hvals: ∀i,i<(A++ys.map (St.get st.fr)++Z).length->VR (aX B S G w.heap.size) G w ((A++ys.map (St.get st.fr)++Z).getD i .dead) ((p++c.args.map a.eval++q).getD i undef):=by
   intro i hi;simp only[bQn,bQy,bTc,bTd,bQ2,bTl,Array.size_map,bQl]at hi⊢;have e1:p.size=A.length:=hp;have e2:c.args.size=ys.length:=by simp[ly]
   rw[e1,e2];split
   ·split
    ·rename_i h;have:=hvp i h;simpa[bQn,bQy]using this
    ·have:=conv (i-A.length) (by omega)
     simpa[bQn,bQy]using this
   ·have:=hvq (i-(A.length+ys.length)) (by omega);simpa[bQn,bQy]using this
  have hrun:(execOp a.eval o).run P w= .ok (.enter f (p++c.args.map a.eval++q)) w:=by
   have hnm': ¬fn.name= "runtime.NumGoroutine" :=by simpa using hnm
   have hbody': ¬fn.body=none:=by intro h;rw[h]at hbody;cases hbody
   simp[execOp,ho,resolve,hc,hgF,Deferred.ofValue,invoke,callFunc,hfn,hnm',hbody']
  refine⟨fun _ _=>trivial,?_⟩
  rw[pS hrun (by simp),Oper.uponIn_enter]
  refine⟨fun h=>by simp[Fx,Fence.wide]at h,?_⟩
  refine pG (Calls.mono (hcalls Ξ B S G st N a w _ hR rfl rfl hlen hvals) ?_)
  rintro e w' ⟨x,G',rfl,hR',hv,hb⟩
  exact k x w' G' hR' hv hb
 ·rename_i key hf;rw[hf]at hF;generalize hgF:a.eval F=uF at hF;cases hF with
  |yld _ l hl=>
  obtain⟨f,tmps,as,bd,hy,hround⟩:=hio.yld _ _ _ _ _ hev Ξ B S G st N a w (c.args.map a.eval) l ro (m-1) hR rfl rfl hl (by simp[ly]) (fun i hi=>conv i (by simpa using hi))
  have hrun:(execOp a.eval o).run P w= .ok (.round l f tmps as bd) w:=by
   simp[execOp,ho,resolve,hc,hgF,Deferred.ofValue,invoke,hy]
  refine⟨fun _ _=>trivial,?_⟩
  rw[pS hrun (by simp),Oper.uponIn_round]
  refine⟨fun h=>by simp[Fx,Fence.wide]at h,RoundIn.mono hround ?_⟩
  rintro e w' ⟨x,G',rfl,hR',hv,hb⟩
  exact k x w' G' hR' hv hb
 ·cases hev
theorem oU (hcall:lK P call)(hio:wY P io)(hR:Rel P Ξ B S G st N a w){lo:aL}(hl:fE P I ops o=some lo)(hd:lo.dst.all (· <N)=true)
  (hs:step n call io 0 st lo=some (st',r))     (k: ∀a' w' G',Rel P Ξ B S G' st' N a' w'->Below B w w'->next a' w'):
  if Region.wanted o (yielded ops a.tmps)=true then o.wpIn (Fx ro) m P a w next Q else(∀f,o.about P w a.eval=some f->(Fx ro).fn f)/\ next (a.put o.dst undef) w:=by
 simp only[fE,bQ6,bQx,bQ8,bQi]at hl;obtain⟨lop,hop,g,hg,rfl⟩:=hl;simp only[step]at hs
 split at hs
 ·rename_i hw;simp only[bQi,bQo]at hs;obtain⟨rfl,rfl⟩:=hs;rw[pT hR hg hw,if_neg (by simp)]
  exact⟨fun _ _=>trivial,k _ _ G (hR.putO' o.dst (v:= .tup []) (x:=undef) (.tup [] #[] rfl (fun i hi=>by simp at hi)) hd) (Below.refl _ _)⟩
 ·rename_i hw;rw[pT hR hg hw,if_pos rfl]
  split at hs
  ·rename_i f args
   split at hs
   case h_2=>cases hs
   rename_i v st1 hc;simp only[bQi,bQo]at hs;obtain⟨rfl,rfl⟩:=hs;obtain⟨c,F,e1,e2,e3,e4⟩:=aG6 hop;exact aQx hio hR e1 e2 e3 e4 hc fun x w' G' h1 h2 h3=>k _ _ G' (h1.putO' o.dst h2 hd) h3
  ·split at hs
   case h_2=>cases hs
   rename_i r' hev
   split at hs
   ·cases hs
   simp only[bQi,bQo]at hs;obtain⟨rfl,rfl⟩:=hs
   by_cases hme:lop.me 0=0
   ·rw[hme]at hev k;exact aT4 hcall hR hop hev hme ro m next Q fun x w' G' h1 h2 h3=>k _ _ G' (h1.putO' o.dst h2 hd) h3
   ·cases lop with
    |appendD sz x y=>exact aQw hR hop hev ro m next Q fun x w' G' h1 h2 h3=>k _ _ G' (h1.putO' o.dst h2 hd) h3
    |_=>exact absurd rfl hme
 ·cases hs
end
end Go.Abs
namespace Go.Abs
inductive bAg where
 |box (n:Nat) (f:Bool)
 |blk (f:Bool)
 |map (f:Bool)
 |loop
 |iter
def Ent.shape :Ent->bAg
 | .box cs f=> .box cs.length f
 | .blk _ _ f=> .blk f
 | .map _ _ f=> .map f
 | .loop .. => .loop
 | .iter .. => .iter
def Ent.win (off n:Nat):Ent->Option (List Val)
 | .box cs _=>if off+n<=cs.length then some ((cs.drop off).take n)else none
 |_=>none
def gN (en en':En):R->Prop
 | .val k=>(en k).map Ent.freeze=(en' k).map Ent.freeze
 | .cells k off n=>(en k).map (Ent.win off n)=(en' k).map (Ent.win off n)
 | .flag k=>(en k).map Ent.shape=(en' k).map Ent.shape
theorem gN.refl (en:En)(r:R):gN en en r:=by cases r<;>rfl
variable {en en':En}
theorem gN.symm {r:R}(h:gN en en' r):gN en' en r:=by cases r<;>exact Eq.symm h
theorem gN.trans {a b c:En}{r:R}(h:gN a b r)(k:gN b c r):gN a c r:=by cases r<;>exact Eq.trans h k
variable {cs:List Val}{f:Bool}{k:Key}
theorem gN.box (h:gN en en' (.val k))(he:en k=some (.box cs f)): ∃f',en' k=some (.box cs f'):=by
 simp only[gN,he,bRd,Ent.freeze]at h;cases h':en' k with
 |none=>rw[h']at h;cases h
 |some e=>rw[h']at h;cases e<;>simp[Ent.freeze]at h;subst h;exact⟨_,rfl⟩
variable {sz:Nat}{xs:List Val}
theorem gN.blk (h:gN en en' (.val k))(he:en k=some (.blk sz xs f)): ∃f',en' k=some (.blk sz xs f'):=by
 simp only[gN,he,bRd,Ent.freeze]at h;cases h':en' k with
 |none=>rw[h']at h;cases h
 |some e=>rw[h']at h;cases e<;>simp[Ent.freeze]at h;obtain⟨rfl,rfl⟩:=h;exact⟨_,rfl⟩
variable {vs:List Val}
theorem gN.map {ks:List Val}(h:gN en en' (.val k))(he:en k=some (.map ks vs f)): ∃f',en' k=some (.map ks vs f'):=by
 simp only[gN,he,bRd,Ent.freeze]at h;cases h':en' k with
 |none=>rw[h']at h;cases h
 |some e=>rw[h']at h;cases e<;>simp[Ent.freeze]at h;obtain⟨rfl,rfl⟩:=h;exact⟨_,rfl⟩
theorem gN.iter {s:ByteArray}{pos:Nat}(h:gN en en' (.val k))(he:en k=some (.iter s pos)):en' k=some (.iter s pos):=by
 simp only[gN,he,bRd,Ent.freeze]at h;cases h':en' k with
 |none=>rw[h']at h;cases h
 |some e=>rw[h']at h;cases e<;>simp[Ent.freeze]at h;obtain⟨rfl,rfl⟩:=h;rfl
theorem gN.blkf (h:gN en en' (.val k))(h2:gN en en' (.flag k))(he:en k=some (.blk sz xs f)):en' k=some (.blk sz xs f):=by
 obtain⟨f',h'⟩:=h.blk he;simp only[gN,he,h',bRd,Ent.shape,bQi,bAg.blk.injEq]at h2;subst h2;exact h'
theorem gN.mapf {ks:List Val}(h:gN en en' (.val k))(h2:gN en en' (.flag k))(he:en k=some (.map ks vs f)):en' k=some (.map ks vs f):=by
 obtain⟨f',h'⟩:=h.map he;simp only[gN,he,h',bRd,Ent.shape,bQi,bAg.map.injEq]at h2;subst h2;exact h'
theorem gN.boxl (h2:gN en en' (.flag k))(he:en k=some (.box cs f)): ∃cs',en' k=some (.box cs' f)/\ cs'.length=cs.length:=by
 simp only[gN,he,bRd,Ent.shape]at h2;cases h':en' k with
 |none=>rw[h']at h2;cases h2
 |some e=>rw[h']at h2;cases e<;>simp[Ent.shape]at h2;obtain⟨h3,rfl⟩:=h2;exact⟨_,rfl,h3.symm⟩
variable {n:Nat}
theorem gN.window {off:Nat}(h:gN en en' (.cells k off n))(he:en k=some (.box cs f))(hl:off+n<=cs.length):
  ∃cs' f',en' k=some (.box cs' f')/\ off+n<=cs'.length/\ (cs'.drop off).take n=(cs.drop off).take n:=by
 simp only[gN,he,bRd,Ent.win,if_pos hl]at h;cases h':en' k with
 |none=>rw[h']at h;cases h
 |some e=>
  rw[h']at h;cases e<;>simp only[bRd,Ent.win,bQi,reduceCtorEq]at h
  split at h
  ·rename_i h3;simp only[bQi]at h;exact⟨_,_,rfl,h3,h.symm⟩
  ·cases h
theorem yM (n:Nat): ∀{v v':Val} {ks:List Key},snap n en v=some (v',ks)->(∀k∈ks,gN en en' (.val k))->snap n en' v=some (v',ks):=by
 induction n with
 |zero=>intro v v' ks h _;cases v<;>exact h
 |succ n ih=>
  have lst: ∀(vs:List Val) (rs:List (Val×List Key)),cP (snap n en) vs=some rs->(∀k∈rs.flatMap (·.2),gN en en' (.val k))->cP (snap n en') vs=some rs:=by
   intro vs
   induction vs with
   |nil=>intro rs h _;exact h
   |cons v vs ihv=>
    intro rs h hk;simp only[cP]at h⊢
    split at h
    case h_2=>cases h
    rename_i y hy
    split at h
    case h_2=>cases h
    rename_i ys hys;simp only[bQi]at h;subst h;obtain⟨y1,y2⟩:=y;rw[ih hy fun k hk'=>hk k (by simp[hk']),ihv ys hys fun k hk'=>hk k (by simp only[bS5,bRb];exact .inr hk')]
  have lst2: ∀(vs:List Val) (f:List Val×List Key->Val×List Key) (r:Val×List Key),(∀p k,k∈p.2->k∈(f p).2)->
    ((cP (snap n en) vs).map fun rs=>(rs.map (·.1),rs.flatMap (·.2))).map f=some r->(∀k∈r.2,gN en en' (.val k))->
    ((cP (snap n en') vs).map fun rs=>(rs.map (·.1),rs.flatMap (·.2))).map f=some r:=by
   intro vs f r hf h hk;simp only[Option.map_map,bQw,Function.comp]at h⊢;obtain⟨rs,h1,rfl⟩:=h;exact⟨rs,lst vs rs h1 fun k hk'=>hk k (hf _ k hk'),rfl⟩
  intro v v' ks h hk;cases v with
  |ptr k off=>
   simp only[snap]at h⊢
   split at h
   case h_2=>cases h
   rename_i cs f he;have hk0:k∈ks:=by
    obtain⟨rs,_,h2⟩:=bQw.1 h;simp only[bQo]at h2;rw[<-h2.2];simp
   obtain⟨f',he'⟩:=(hk k hk0).box he;simp only[he'];exact lst2 cs (fun r=>(.fp r.1 off,k::r.2)) (v',ks) (fun p q hq=>bSo _ hq) h hk
  |ep k i off=>
   simp only[snap]at h⊢
   split at h
   case h_2=>cases h
   rename_i sz xs f he
   split at h
   ·cases h
   rename_i hd
   split at h
   case h_2=>cases h
   rename_i x hx;simp only[bQi,bQo]at h;obtain⟨rfl,rfl⟩:=h;obtain⟨f',he'⟩:=(hk k (by simp)).blk he
   simp only[he',hx,if_neg hd]
  |bl k off len=>
   simp only[snap]at h⊢
   split at h
   case h_2=>cases h
   rename_i sz xs f he
   split at h
   case isFalse=>cases h
   rename_i hl
   split at h
   ·rename_i hd;have hk0:k∈ks:=by
     obtain⟨rs,_,h2⟩:=bQw.1 h;simp only[bQo]at h2;rw[<-h2.2];simp
    obtain⟨f',he'⟩:=(hk k hk0).blk he;simp only[he',if_pos hl,if_pos hd];exact lst2 _ (fun r=>(.fz (r.1.map Val.wk1),k::r.2)) (v',ks) (fun p q hq=>bSo _ hq) h hk
   rename_i hd;simp only[bQi,bQo]at h;obtain⟨rfl,rfl⟩:=h;obtain⟨f',he'⟩:=(hk k (by simp)).blk he
   simp only[he',if_pos hl,if_neg hd]
  |mp k=>
   simp only[snap]at h⊢
   split at h
   case h_2=>cases h
   rename_i ks' vs f he;simp only[bQi,bQo]at h;obtain⟨rfl,rfl⟩:=h;obtain⟨f',he'⟩:=(hk k (by simp)).map he
   simp only[he']
  |fn f a b=>
   simp only[snap]at h⊢
   split at h
   case h_2=>cases h
   rename_i x y hx hy;simp only[bQi,bQo]at h;obtain⟨rfl,rfl⟩:=h;simp only[bQw]at hx hy;obtain⟨r1,e1,rfl⟩:=hx;obtain⟨r2,e2,rfl⟩:=hy;rw[lst a r1 e1 fun k hk'=>hk k (bRb.2 (.inl hk')),lst b r2 e2 fun k hk'=>hk k (bRb.2 (.inr hk'))]
   rfl
  |ifc t v=>
   simp only[snap]at h⊢;obtain⟨⟨r1,r2⟩,e1,h2⟩:=bQw.1 h;simp only[bQo]at h2;obtain⟨rfl,rfl⟩:=h2;rw[ih e1 hk];rfl
  |agg cs=>
   simp only[snap]at h⊢;exact lst2 cs (fun r=>(.agg r.1,r.2)) (v',ks) (fun p q hq=>hq) h hk
  |tup cs=>
   simp only[snap]at h⊢;exact lst2 cs (fun r=>(.tup r.1,r.2)) (v',ks) (fun p q hq=>hq) h hk
  |_=>exact h
theorem aQy : ∀{vs:List Val} {rs:List (Val×List Key)},cP (fun x=>snap n en x) vs=some rs->(∀k∈rs.flatMap (·.2),gN en en' (.val k))->cP (fun x=>snap n en' x) vs=some rs:=by
 intro vs
 induction vs with
 |nil=>intro rs h _;exact h
 |cons v vs ihv=>
  intro rs h hk;simp only[cP]at h⊢
  split at h
  case h_2=>cases h
  rename_i y hy
  split at h
  case h_2=>cases h
  rename_i ys hys;simp only[bQi]at h;subst h;obtain⟨y1,y2⟩:=y;rw[yM n hy fun k hk'=>hk k (by simp[hk']),ihv hys fun k hk'=>hk k (by simp only[bS5,bRb];exact .inr hk')]
variable {a:Val}{rs:List R}
theorem aOs (h:qZ en a n=some (cs,rs))(hk: ∀ρ∈rs,gN en en' ρ):qZ en' a n=some (cs,rs):=by
 unfold qZ at h⊢
 split at h
 ·rename_i k off
  split at h
  case h_2=>cases h
  rename_i cs0 f he
  split at h
  case isFalse=>cases h
  rename_i hl;simp only[bQi,bQo]at h;obtain⟨rfl,rfl⟩:=h;obtain⟨cs',f',h1,h2,h3⟩:=(hk (.cells k off n) (by simp)).window he hl
  simp only[h1,if_pos h2,h3]
 ·rename_i k i off
  split at h
  case h_2=>cases h
  rename_i sz xs f he
  split at h
  case h_2=>cases h
  rename_i x hx
  split at h
  case isFalse=>cases h
  rename_i hl;simp only[bQi,bQo]at h;obtain⟨rfl,rfl⟩:=h;obtain⟨f',he'⟩:=(hk (.val k) (by simp)).blk he
  simp only[he',hx,if_pos hl]
 ·exact h
 ·cases h
theorem wE (h:iN en a=some (cs,rs))(hk: ∀ρ∈rs,gN en en' ρ):iN en' a=some (cs,rs):=by
 unfold iN at h⊢
 split at h
 ·exact h
 ·exact h
 ·exact h
 ·rename_i k off len
  split at h
  case h_2=>cases h
  rename_i sz xs f he
  split at h
  case isFalse=>cases h
  rename_i hl;simp only[bQi,bQo]at h;obtain⟨rfl,rfl⟩:=h;obtain⟨f',he'⟩:=(hk (.val k) (by simp)).blk he
  simp only[he',if_pos hl]
 ·cases h
variable {d g me:Nat}{ks:List Key}{v:Val}
theorem aT5 :(gV me d g v ks).rs=ks.map .val:=by cases v<;>rfl
theorem aQz :(gV me d g v ks).mem=none:=by cases v<;>rfl
theorem aXi (h:(gV me d g v ks).bump=false)(g':Nat):gV me d g' v ks=gV me d g v ks:=by
 cases v<;>first|rfl|(simp[gV]at h)
variable {r:Res}
theorem aEa {size:Nat}{X Y:Val}(h:fL me d g en size X (iN en Y)=some r)(hk: ∀ρ∈r.rs,gN en en' ρ):fL me d g en' size X (iN en' Y)=some r:=by
 unfold fL at h⊢
 split at h
 case h_2=>cases h
 rename_i ys rs hel
 split at h
 case isFalse=>cases h
 rename_i hh
 split at h
 ·split at h
  ·rename_i hye;simp only[bQi]at h;subst h;rw[wE hel hk];simp only[if_pos hh,if_pos hye]
  rename_i hye
  split at h
  case isFalse=>cases h
  rename_i hc;simp only[bQi]at h;subst h;rw[wE hel hk];simp only[if_pos hh,if_neg hye,if_pos hc]
 ·rename_i k off len
  split at h
  case h_2=>cases h
  rename_i sz xs f he
  split at h
  case isFalse=>cases h
  rename_i hc;simp only[bQi]at h;subst h;have he':=(hk (.val k) (by simp)).blkf (hk (.flag k) (by simp)) he
  rw[wE hel fun ρ hρ=>hk ρ (by simp[hρ])]
  simp only[if_pos hh,he',if_pos hc]
 ·cases h
variable {call:bD}{get:Opd->Val}{op:LOp}
theorem aT6 {get':Opd->Val}(h:eval n call me d g en get op=some r)
  (hg: ∀x∈op.opds,get' x=get x) (hk: ∀ρ∈r.rs,gN en en' ρ):eval n call me d g en' get' op=some r:=by
 cases op with
 |mv x=>simp only[eval]at h⊢;rw[hg x (by simp[LOp.opds])];exact h
 |pick c x y=>simp only[eval]at h⊢;rw[hg c (by simp[LOp.opds]),hg x (by simp[LOp.opds]),hg y (by simp[LOp.opds])];exact h
 |alloc z=>exact h
 |box m x=>simp only[eval]at h⊢;rw[hg x (by simp[LOp.opds])];exact h
 |build z ps=>
  simp only[eval]at h⊢;rw[show(ps.map fun p=>(p.1,p.2.1,get' p.2.2))=ps.map fun p=>(p.1,p.2.1,get p.2.2)from bSx fun p hp=>by
   rw[hg p.2.2 (by simp only[LOp.opds,bRe];exact⟨p,hp,rfl⟩)]]
  exact h
 |bslice len size z ps=>
  simp only[eval]at h⊢
  split at h
  case isFalse=>cases h
  rename_i hl
  split at h
  case h_2=>cases h
  rename_i qs hq
  split at h
  case h_2=>cases h
  rename_i xs hf;simp only[bQi]at h;subst h;have key: ∀(ps:List (Nat×Opd)) (qs:List ((Nat×Val)×List Key)),(∀x∈ps.map (·.2),get' x=get x)->cP (fun p=>(snap n en (get p.2)).map fun r=>((p.1,r.1.wk1),r.2)) ps=some qs->
    (∀k∈qs.flatMap (·.2),gN en en' (.val k))->cP (fun p=>(snap n en' (get' p.2)).map fun r=>((p.1,r.1.wk1),r.2)) ps=some qs:=by
   intro ps
   induction ps with
   |nil=>intro qs _ h _;exact h
   |cons p ps ih=>
    intro qs hgp h hkk;simp only[cP]at h⊢
    split at h
    case h_2=>cases h
    rename_i y hy
    split at h
    case h_2=>cases h
    rename_i ys hys;simp only[bQi]at h;subst h;obtain⟨⟨r1,r2⟩,e1,rfl⟩:=bQw.1 hy;rw[hgp p.2 (by simp),yM n e1 fun k hk'=>hkk k (by simp[hk'])]
    simp only[bRd];rw[ih ys (fun x hx=>hgp x (by simp only[bRj,bRm];exact .inr hx)) hys fun k hk'=>hkk k (by simp only[bS5,bRb];exact .inr hk')]
  rw[key ps qs (fun x hx=>hg x (by simpa[LOp.opds]using hx)) hq fun k hk'=>hk _ (by simpa using hk')]
  simp only[if_pos hl,hf]
 |bsliceK len size z ps=>
  simp only[eval]at h⊢
  split at h
  case isFalse=>cases h
  rename_i hl
  split at h
  case h_2=>cases h
  rename_i qs hq
  split at h
  case h_2=>cases h
  rename_i xs hf;simp only[bQi]at h;subst h;have key: ∀(ps:List (Nat×Opd)) (qs:List ((Nat×Val)×List Key)),(∀x∈ps.map (·.2),get' x=get x)->cP (fun p=>(snap n en (get p.2)).map fun r=>((p.1,r.1),r.2)) ps=some qs->
    (∀k∈qs.flatMap (·.2),gN en en' (.val k))->cP (fun p=>(snap n en' (get' p.2)).map fun r=>((p.1,r.1),r.2)) ps=some qs:=by
   intro ps
   induction ps with
   |nil=>intro qs _ h _;exact h
   |cons p ps ih=>
    intro qs hgp h hkk;simp only[cP]at h⊢
    split at h
    case h_2=>cases h
    rename_i y hy
    split at h
    case h_2=>cases h
    rename_i ys hys;simp only[bQi]at h;subst h;obtain⟨⟨r1,r2⟩,e1,rfl⟩:=bQw.1 hy;rw[hgp p.2 (by simp),yM n e1 fun k hk'=>hkk k (by simp[hk'])]
    simp only[bRd];rw[ih ys (fun x hx=>hgp x (by simp only[bRj,bRm];exact .inr hx)) hys fun k hk'=>hkk k (by simp only[bS5,bRb];exact .inr hk')]
  rw[key ps qs (fun x hx=>hg x (by simpa[LOp.opds]using hx)) hq fun k hk'=>hk _ (by simpa using hk')]
  simp only[if_pos hl,hf]
 |load ag m x=>
  simp only[eval]at h⊢;rw[hg x (by simp[LOp.opds])]
  split at h
  case h_2=>cases h
  rename_i cs rs hr;obtain⟨v,hv,rfl⟩:=bQw.1 h;rw[aOs hr hk];simp only[hv,bRd]
 |store m x y=>
  simp only[eval]at h⊢;rw[hg x (by simp[LOp.opds]),hg y (by simp[LOp.opds])]
  split at h
  case isFalse=>cases h
  rename_i hc;rw[if_pos hc]
  split at h
  ·rename_i k off hX
   split at h
   case h_2=>cases h
   rename_i cs he
   split at h
   case isFalse=>cases h
   rename_i hl;simp only[bQi]at h;subst h;obtain⟨cs',he',hl'⟩:=(hk (.flag k) (by simp)).boxl he
   simp only[he',hl',if_pos hl]
  ·rename_i k i off hX
   split at h
   case h_2=>cases h
   rename_i sz xs he
   split at h
   case h_2=>cases h
   rename_i Y hY
   split at h
   case isFalse=>cases h
   rename_i hl
   split at h
   ·rename_i hd;simp only[bQi]at h;subst h;have he':=(hk (.val k) (by simp)).blkf (hk (.flag k) (by simp)) he
    simp only[he',hY,if_pos hl,if_pos hd]
   rename_i hd
   split at h
   case h_2=>cases h
   rename_i v' ks hs
   split at h
   case isFalse=>cases h
   rename_i hk2;simp only[bQi]at h;subst h;have he':=(hk (.val k) (by simp)).blkf (hk (.flag k) (by simp)) he
   simp only[he',hY,if_pos hl,if_neg hd,yM n hs fun k' hk'=>hk _ (by simp[hk']),if_pos hk2]
  ·cases h
 |nilck x=>simp only[eval]at h⊢;rw[hg x (by simp[LOp.opds])];exact h
 |bin o t x y=>simp only[eval]at h⊢;rw[hg x (by simp[LOp.opds]),hg y (by simp[LOp.opds])];exact h
 |un o x=>simp only[eval]at h⊢;rw[hg x (by simp[LOp.opds])];exact h
 |wrap k x=>simp only[eval]at h⊢;rw[hg x (by simp[LOp.opds])];exact h
 |iface t x=>simp only[eval]at h⊢;rw[hg x (by simp[LOp.opds])];exact h
 |assert t z ok x=>simp only[eval]at h⊢;rw[hg x (by simp[LOp.opds])];exact h
 |mkfn f a b=>
  simp only[eval]at h⊢;rw[show a.map get'=a.map get from bSx fun p hp=>hg p (by simp[LOp.opds,hp]),show b.map get'=b.map get from bSx fun p hp=>hg p (by simp[LOp.opds,hp])]
  exact h
 |mkmap=>exact h
 |mput t m k x=>
  simp only[eval]at h⊢;rw[hg m (by simp[LOp.opds]),hg k (by simp[LOp.opds]),hg x (by simp[LOp.opds])]
  split at h
  case h_2=>cases h
  rename_i key hm
  split at h
  case h_2=>cases h
  rename_i ks vs he
  split at h
  case isFalse=>cases h
  rename_i hok;have done: ∀e:En->Option Res,(gN en en' (.val key)->gN en en' (.flag key)->en' key=some (.map ks vs false)):=fun _ a b=>a.mapf b he
  split at h
  ·rename_i i hf;simp only[bQi]at h;subst h;have he':=done (fun _=>none) (hk (.val key) (by simp)) (hk (.flag key) (by simp))
   simp only[he',if_pos hok,hf]
  ·rename_i hf;simp only[bQi]at h;subst h;have he':=done (fun _=>none) (hk (.val key) (by simp)) (hk (.flag key) (by simp))
   simp only[he',if_pos hok,hf]
  ·cases h
 |mget t z ok m k=>
  simp only[eval]at h⊢;rw[hg m (by simp[LOp.opds]),hg k (by simp[LOp.opds])]
  split at h
  case isFalse=>cases h
  rename_i hok;rw[if_pos hok]
  split at h
  ·rename_i key hm
   split at h
   case h_2=>cases h
   rename_i ks vs f he;obtain⟨v,hv,rfl⟩:=bQw.1 h;obtain⟨f',he'⟩:=(hk (.val key) (by simp)).map he
   simp only[he',hv,bRd]
  ·exact h
  ·exact h
  ·cases h
 |mklen size z len cap=>simp only[eval]at h⊢;rw[hg len (by simp[LOp.opds]),hg cap (by simp[LOp.opds])];exact h
 |slice str size x lo hi mx=>
  have e1:lo.map get'=lo.map get:=by
   cases lo with
   |none=>rfl
   |some l=>simp only[bRd];rw[hg l (by simp[LOp.opds])]
  have e2:hi.map get'=hi.map get:=by
   cases hi with
   |none=>rfl
   |some l=>simp only[bRd];rw[hg l (by simp[LOp.opds])]
  have e3: ∀m,mx=some m->get' m=get m:=fun m hm=>hg m (by simp[LOp.opds,hm])
  simp only[eval,e1,e2]at h⊢;rw[hg x (by simp[LOp.opds])]
  split at h
  ·rename_i hs;rw[if_pos hs];exact h
  ·rename_i hs;rw[if_neg hs]
   split at h
   ·split at h
    ·exact h
    ·rename_i m;simp only[e3 m rfl];exact h
   ·split at h
    ·exact h
    ·rename_i m;simp only[e3 m rfl];exact h
   ·rename_i k off len hX
    split at h
    case h_2=>cases h
    split at h
    case h_2=>cases h
    rename_i hh hb
    split at h
    case h_2=>cases h
    rename_i ll hlo
    split at h
    case h_2=>cases h
    rename_i sz xs f he
    split at h
    case isFalse=>cases h
    rename_i hc;simp only[bQi]at h;subst h;obtain⟨f',he'⟩:=(hk (.val k) (by simp)).blk he
    simp only[hb,hlo,he',if_pos hc]
   ·cases h
 |fa off x=>simp only[eval]at h⊢;rw[hg x (by simp[LOp.opds])];exact h
 |fld ag off m x=>simp only[eval]at h⊢;rw[hg x (by simp[LOp.opds])];exact h
 |ia size x i=>
  simp only[eval]at h⊢;rw[hg x (by simp[LOp.opds]),hg i (by simp[LOp.opds])]
  split at h
  case h_2=>cases h
  split at h
  ·exact h
  ·exact h
  ·rename_i k off len hX
   split at h
   case h_2=>cases h
   rename_i sz xs f he
   split at h
   case isFalse=>cases h
   rename_i hc;simp only[bQi]at h;subst h;obtain⟨f',he'⟩:=(hk (.val k) (by simp)).blk he
   simp only[he',if_pos hc]
  ·cases h
 |ixs x i=>simp only[eval]at h⊢;rw[hg x (by simp[LOp.opds]),hg i (by simp[LOp.opds])];exact h
 |ixa ag len size x i=>simp only[eval]at h⊢;rw[hg x (by simp[LOp.opds]),hg i (by simp[LOp.opds])];exact h
 |ext i x=>simp only[eval]at h⊢;rw[hg x (by simp[LOp.opds])];exact h
 |call f args=>
  simp only[eval]at h⊢;rw[hg f (by simp[LOp.opds]),show args.map get'=args.map get from bSx fun p hp=>hg p (by simp[LOp.opds,hp])]
  split at h
  case h_2=>cases h
  rename_i f a b hf
  split at h
  case h_2=>cases h
  rename_i rs hs
  split at h
  case h_2=>cases h
  rename_i v hv;simp only[bQi]at h;subst h;rw[aQy hs fun k hk'=>hk _ (by rw[aT5];simpa using hk')]
  simp only[hv]
 |icall f args=>cases h
 |len t x=>
  simp only[eval]at h⊢;rw[hg x (by simp[LOp.opds])]
  split at h
  ·split at h
   ·rename_i key hx
    split at h
    case h_2=>cases h
    rename_i ks vs f he;simp only[bQi]at h;subst h;obtain⟨f',he'⟩:=(hk (.val key) (by simp)).map he
    simp only[he']
   ·exact h
   ·exact h
   ·cases h
  ·exact h
  ·exact h
  ·cases h
 |append size x y=>
  simp only[eval]at h⊢;rw[hg x (by simp[LOp.opds]),hg y (by simp[LOp.opds])]
  exact aEa h hk
 |appendD size x y=>
  simp only[eval]at h⊢;rw[hg x (by simp[LOp.opds]),hg y (by simp[LOp.opds])]
  exact aEa h hk
 |panic x=>simp[eval]at h
 |rng x=>simp only[eval]at h⊢;rw[hg x (by simp[LOp.opds])];exact h
 |nxt x=>
  simp only[eval]at h⊢;rw[hg x (by simp[LOp.opds])]
  split at h
  case h_2=>cases h
  rename_i k hX
  split at h
  case h_2=>cases h
  rename_i s pos he
  split at h
  ·rename_i hlt;simp only[bQi]at h;subst h;have he':=(hk (.val k) (by simp)).iter he
   simp only[he',if_pos hlt]
  ·rename_i hlt;simp only[bQi]at h;subst h;have he':=(hk (.val k) (by simp)).iter he
   simp only[he',if_neg hlt]
 |minmax mx xs=>
  simp only[eval]at h⊢;rw[show xs.map get'=xs.map get from bSx fun p hp=>hg p (by simp[LOp.opds,hp])]
  exact h
theorem aOt (h:eval n call me d g en get op=some r)(hw:op.writesMem=false):r.ws=[]:=by
 cases op<;>first
  |(simp[LOp.writesMem]at hw;done)
  |(simp only[eval,aIt,fL]at h
    (repeat' split at h)<;>first
     |(cases h;done)
     |(simp only[bQi]at h;subst h;rfl)
     |(obtain⟨_,_,rfl⟩:=bQw.1 h;rfl))
theorem aJf (h:eval n call me d g en get op=some r):r.mem=none:=by
 cases op<;>(
  simp only[eval,aIt,fL]at h
  (repeat' split at h)<;>first
   |(cases h;done)
   |(simp only[bQi]at h;subst h;rfl)
   |(simp only[bQi]at h;subst h;exact aQz)
   |(obtain⟨_,_,rfl⟩:=bQw.1 h;rfl))
theorem aQ0 (h:eval n call me d g en get op=some r)(hw:op.writesMem=false):r.bump=false:=by
 cases op<;>first
  |(simp[LOp.writesMem]at hw;done)
  |(simp only[eval,aIt,fL]at h
    (repeat' split at h)<;>first
     |(cases h;done)
     |(simp only[bQi]at h;subst h;rfl)
     |(obtain⟨_,_,rfl⟩:=bQw.1 h;rfl))
theorem aQ1 (h:eval n call me d g en get op=some r)(hw:op.readsMem=false):r.rs=[]:=by
 cases op<;>first
  |(simp[LOp.readsMem]at hw;done)
  |(simp only[eval,aIt,fL]at h
    (repeat' split at h)<;>first
     |(cases h;done)
     |(simp only[bQi]at h;subst h;rfl)
     |(obtain⟨_,_,rfl⟩:=bQw.1 h;rfl))
theorem bGz (h:eval n call me d g en get op=some r)(hw:r.bump=false)(g':Nat):eval n call me d g' en get op=some r:=by
 by_cases hc: ∃f args,op= .call f args
 ·obtain⟨f,args,rfl⟩:=hc;simp only[eval]at h⊢
  split at h
  case h_2=>cases h
  split at h
  case h_2=>cases h
  rename_i hs
  split at h
  case h_2=>cases h
  rename_i hv;simp only[bQi]at h;subst h;rw[aXi hw g']
 cases op<;>first
  |exact absurd ⟨_,_,rfl⟩ hc
  |exact h
  |(exfalso
    simp only[eval,fL]at h
    ((repeat' split at h)<;>first
     |(cases h;done)
     |(simp only[bQi]at h;subst h;cases hw));done)
  |(simp only[eval,fL]at h⊢
    (repeat' split at h)<;>first
     |(cases h;done)
     |(exfalso;simp only[bQi]at h;subst h;cases hw;done)
     |(simp only[*];done)
     |(rename_i hh _ _ _ _;simp only[*,if_true];done)
     |(simp only[*,if_true]at h⊢;done)
     |(simp_all;done))
theorem aEb : ∀(vs:List Val) (cs:List Val) (off i:Nat),(i<off \/off+vs.length<=i)->(setCells cs off vs)[i]?=cs[i]?
 |[],_,_,_,_=>rfl
 |v::vs,cs,off,i,h=>by
  simp only[bQu]at h;rw[setCells,aEb vs _ _ _ (by omega),bTb]
  rw[if_neg (by omega)]
theorem yN : ∀(vs:List Val) (cs:List Val) (off:Nat),(setCells cs off vs).length=cs.length
 |[],_,_=>rfl
 |v::vs,cs,off=>by rw[setCells,yN];simp
theorem aOu (vs:List Val): ∀(cs:List Val) (off i:Nat) (u:Val),(i<off \/off+vs.length<=i)->setCells (cs.set i u) off vs=(setCells cs off vs).set i u:=by
 induction vs with
 |nil=>intro cs off i u _;rfl
 |cons v vs ih=>
  intro cs off i u h;simp only[bQu]at h;rw[setCells,setCells,<-ih _ _ _ _ (by omega)]
  congr 1
  exact List.set_comm _ _ (by omega)
theorem aL9 (us:List Val): ∀(vs cs:List Val) (off off':Nat),(off+us.length<=off' \/off'+vs.length<=off)->setCells (setCells cs off us) off' vs=setCells (setCells cs off' vs) off us:=by
 induction us with
 |nil=>intro vs cs off off' _;rfl
 |cons u us ih=>
  intro vs cs off off' h;simp only[bQu]at h;rw[setCells,setCells,ih _ _ _ _ (by omega),aOu _ _ _ _ _ (by omega)]
def W.onEnt :W->Option Ent->Option Ent
 | .ent _ e=>fun _=>e
 | .cells _ off vs=>fun x=>match x with
  |some (.box cs f)=>some (.box (setCells cs off vs) f)
  |x=>x
 | .elem _ i off vs=>fun x=>match x with
  |some (.blk sz xs f)=>match xs[i]? with
   |some y=>some (.blk sz (xs.set i (eP y off vs)) f)
   |none=>some (.blk sz xs f)
  |x=>x
 | .frz _=>fun x=>x.map Ent.freeze
theorem W.apply_self (en:En)(w:W):W.apply en w w.key=w.onEnt (en w.key):=by
 cases w with
 |ent k' e=>simp[W.apply,W.key,W.onEnt,En.set]
 |cells k off vs=>
  show W.apply en _ k=W.onEnt _ (en k);simp only[W.apply,W.onEnt];cases h:en k with
  |none=>simp[h]
  |some e=>cases e<;>simp[En.set,h]
 |elem k i off vs=>
  show W.apply en _ k=W.onEnt _ (en k);simp only[W.apply,W.onEnt];cases h:en k with
  |none=>simp[h]
  |some e=>
   cases e with
   |blk sz xs f=>cases h':xs[i]?<;>simp[En.set,h,h']
   |_=>simp[h]
 |frz k=>
  show W.apply en _ k=W.onEnt _ (en k);simp only[W.apply,W.onEnt];cases h:en k with
  |none=>simp[h]
  |some e=>simp[En.set]
theorem W.apply_other (en:En)(w:W)(hk:k≠w.key):W.apply en w k=en k:=by
 cases w with
 |ent k' e=>
  have hk:k≠k':=hk;simp[W.apply,En.set,hk]
 |cells k' off vs=>
  have hk:k≠k':=hk;simp only[W.apply];cases h:en k' with
  |none=>rfl
  |some e=>cases e<;>simp[En.set,hk]
 |elem k' i off vs=>
  have hk:k≠k':=hk;simp only[W.apply];cases h:en k' with
  |none=>rfl
  |some e=>
   cases e with
   |blk sz xs f=>cases h':xs[i]?<;>simp[En.set,hk,h']
   |_=>rfl
 |frz k'=>
  have hk:k≠k':=hk;simp only[W.apply];cases h:en k' with
  |none=>rfl
  |some e=>simp[En.set,hk]
theorem W.apply_at (en:En)(w:W)(k:Key):W.apply en w k=if k=w.key then w.onEnt (en k)else en k:=by
 by_cases hk:k=w.key
 ·rw[if_pos hk,hk,W.apply_self]
 ·rw[if_neg hk,W.apply_other en w hk]
variable {w:W}
theorem W.comm {w':W}(h:mY w w'=true)(en:En):W.apply (W.apply en w) w'=W.apply (W.apply en w') w:=by
 have key:w.key≠w'.key->W.apply (W.apply en w) w'=W.apply (W.apply en w') w:=by
  intro hk
  funext k
  simp only[W.apply_at]
  by_cases h1:k=w'.key
  ·subst h1;have h2: ¬w'.key=w.key:=fun e=>hk e.symm
   simp[h2]
  ·simp[h1]
 by_cases hk:w.key=w'.key
 ·cases w<;>cases w'<;>simp only[W.key]at hk<;>subst hk<;>simp[mY,W.key]at h
  ·rename_i k off vs off' vs'
   funext k'
   by_cases hk':k'=k
   ·subst hk';have e1:=W.apply_self (W.apply en (.cells k' off vs)) (.cells k' off' vs');have e2:=W.apply_self en (.cells k' off vs);have e3:=W.apply_self (W.apply en (.cells k' off' vs')) (.cells k' off vs);have e4:=W.apply_self en (.cells k' off' vs');simp only[W.key]at e1 e2 e3 e4;rw[e1,e2,e3,e4];cases en k' with
    |none=>rfl
    |some e=>
     cases e with
     |box cs f=>simp only[W.onEnt];rw[aL9 _ _ _ _ _ h]
     |_=>rfl
   ·rw[W.apply_other _ (.cells k off' vs') hk',W.apply_other _ (.cells k off vs) hk',W.apply_other _ (.cells k off vs) hk',W.apply_other _ (.cells k off' vs') hk']
  ·rfl
 ·exact key hk
variable {ρ:R}
theorem W.same (h:jU w ρ=true)(en:En):gN (W.apply en w) en ρ:=by
 have key:w.key≠ρ.key->gN (W.apply en w) en ρ:=by
  intro hk;have e:W.apply en w ρ.key=en ρ.key:=by rw[W.apply_at,if_neg fun e=>hk e.symm]
  cases ρ<;>simp only[gN,R.key]at e⊢ <;>rw[e]
 by_cases hk:w.key=ρ.key
 ·have e:=W.apply_self en w;cases w<;>cases ρ<;>simp only[W.key,R.key]at hk<;>subst hk<;>simp[jU,W.key,R.key]at h<;>
   simp only[W.key]at e<;>simp only[gN,e,W.onEnt]
  ·rename_i k off vs off' n;cases en k with
   |none=>rfl
   |some e=>
    cases e with
    |box cs f=>
     simp only[bRd,Ent.win,yN];split
     ·congr 2
      apply List.ext_getElem?;intro j;simp only[List.getElem?_take,bTq];split
      ·rw[aEb _ _ _ _ (by omega)]
      ·rfl
     ·rfl
    |_=>rfl
  ·rename_i k off vs;cases en k with
   |none=>rfl
   |some e=>cases e<;>simp[Ent.shape,yN]
  ·rename_i k i off vs;cases en k with
   |none=>rfl
   |some e=>
    cases e with
    |blk sz xs f=>simp only;split<;>rfl
    |_=>rfl
  ·rename_i k;cases en k with
   |none=>rfl
   |some e=>cases e<;>rfl
  ·rename_i k off n;cases en k with
   |none=>rfl
   |some e=>cases e<;>rfl
 ·exact key hk
theorem aOv (ws:List W): ∀(en:En) (w:W),(∀w'∈ws,mY w w'=true)->W.applyAll (W.apply en w) ws=W.apply (W.applyAll en ws) w:=by
 induction ws with
 |nil=>intro en w _;rfl
 |cons w' ws ih=>
  intro en w h;show W.applyAll (W.apply (W.apply en w) w') ws=W.apply (W.applyAll (W.apply en w') ws) w;rw[W.comm (h w' (by simp)),ih _ _ fun x hx=>h x (by simp[hx])]
theorem aMa (ws:List W): ∀(ws':List W) (en:En),(∀w∈ws,∀w'∈ws',mY w w'=true)->W.applyAll (W.applyAll en ws) ws'=W.applyAll (W.applyAll en ws') ws:=by
 induction ws with
 |nil=>intro ws' en _;rfl
 |cons w ws ih=>
  intro ws' en h;show W.applyAll (W.applyAll (W.apply en w) ws) ws'=W.applyAll (W.apply (W.applyAll en ws') w) ws;rw[ih _ _ fun x hx=>h x (by simp[hx]),aOv _ _ _ (h w (by simp))]
theorem aMb (ws:List W): ∀(en:En) (ρ:R),(∀w∈ws,jU w ρ=true)->gN (W.applyAll en ws) en ρ:=by
 induction ws with
 |nil=>intro en ρ _;exact gN.refl _ _
 |cons w ws ih=>
  intro en ρ h;show gN (W.applyAll (W.apply en w) ws) en ρ;exact(ih _ ρ fun x hx=>h x (by simp[hx])).trans (W.same (h w (by simp)) en)
section
variable {σ :Type}(E:Nat->σ->σ)
def dN (L:Nat->Bool)(s:σ):Nat->σ
 |0=>s
 |n+1=>if L n then E n (dN L s n)else dN L s n
variable {E}
theorem cH {L L':Nat->Bool}{s:σ}: ∀{n:Nat},(∀i,i<n->L i=L' i)->dN E L s n=dN E L' s n
 |0,_=>rfl
 |n+1,h=>by simp only[dN];rw[h n (by omega),cH fun i hi=>h i (by omega)]
theorem aFz {L:Nat->Bool}{s:σ}{j:Nat}(hj:L j=false): ∀{n:Nat},j<n->(∀k,j<k->k<n->L k=true-> ∀s,E k (E j s)=E j (E k s))->
  dN E (fun k=>k==j||L k) s n=E j (dN E L s n)
 |0,h,_=>by omega
 |n+1,h,hc=>by
  by_cases hn:j=n
  ·subst hn;simp only[dN,BEq.rfl,Bool.true_or,if_true,hj,bQm,if_false];rw[cH (L':=L) fun i hi=>by
    have:(i==j)=false:=by simp;omega
    simp[this]]
  ·have hlt:j<n:=by omega
   have hne:(n==j)=false:=by simp;omega
   simp only[dN,hne,bRf];rw[aFz hj hlt fun k h1 h2=>hc k h1 (by omega)]
   split
   ·rename_i hL;exact hc n hlt (by omega) hL _
   ·rfl
theorem tY {L:Nat->Bool}{s:σ}{n:Nat}(Eq:σ->σ->Prop)(hrefl: ∀s,Eq s s)(htrans: ∀a b c,Eq a b->Eq b c->Eq a c)(keep:Nat->Bool):
  ∀m,m<=n->(∀j,j<m->L j=true->keep j=false->(∀s,Eq (E j s) s)/\ ∀k,j<k->k<n->L k=true->keep k=true-> ∀s,E k (E j s)=E j (E k s))->
   Eq (dN E (fun k=>L k&&(keep k||k<m)) s n) (dN E (fun k=>L k&&keep k) s n)
 |0,_,_=>by
  rw[cH (L':=fun k=>L k&&keep k) fun i hi=>by simp]
  exact hrefl _
 |m+1,hm,h=>by
  refine htrans _ _ _ ?_ (tY Eq hrefl htrans keep m (by omega) fun j hj=>h j (by omega))
  by_cases hc:L m=true/\ keep m=false
  ·obtain⟨h1,h2⟩:=h m (by omega) hc.1 hc.2
   rw[cH (L':=fun k=>k==m||(L k&&(keep k||k<m))) fun i hi=>by
    by_cases him:i=m
    ·subst him;simp[hc.1]
    ·have e1:(i==m)=false:=by simp[him]
     have e2:decide (i<m+1)=decide (i<m):=by
      by_cases h:i<m
      ·simp[h];omega
      ·simp[h];omega
     simp[e1,e2]]
   rw[aFz (by simp[hc.2]) (by omega) fun k h3 h4 h5 s=>by
    simp only[bQj,bRr,bT8]at h5;rcases h5.2 with h6|h6
    ·exact h2 k h3 h4 h5.1 h6 s
    ·omega]
   exact h1 _
  ·rw[cH (L':=fun k=>L k&&(keep k||k<m)) fun i hi=>by
    by_cases him:i=m
    ·subst him;cases hL:L i with
     |false=>simp
     |true=>cases hk:keep i with
      |false=>exact absurd ⟨hL,hk⟩ hc
      |true=>simp
    ·have e2:decide (i<m+1)=decide (i<m):=by
      by_cases h:i<m
      ·simp[h];omega
      ·simp[h];omega
     simp[e2]]
   exact hrefl _
end
def eK (o:aL)(r:Res)(st:St):St:=
 {fr:=gZ st.fr o.dst r.v,en:=match r.mem with|some p=>fun k=>if r.unch k=true then st.en k else p.1 k|none=>W.applyAll st.en r.ws,cnt:=match r.mem with|some p=>p.2|none=>if r.bump then aC st.cnt (o.op.me 0) (o.dst.getD 0) (st.cnt (o.op.me 0) (o.dst.getD 0)+1)else st.cnt}
def Res.quiet (r:Res):Prop:=r.ws=[]/\ r.bump=false/\ r.mem=none
variable {io:Inl}{st st':St}
theorem rQ {o:aL}(h:step n call io 0 st o=some (st',r)):
  st'=eK o r st/\ (r.bump=true->o.dst.isSome=true)/\ (o.op.writesMem=false->r.quiet)/\ (o.op.readsMem=false->r.rs=[]):=by
 simp only[step]at h
 split at h
 ·simp only[bQi,bQo]at h;obtain⟨rfl,rfl⟩:=h;exact⟨rfl,by simp,fun _=>⟨rfl,rfl,rfl⟩,fun _=>rfl⟩
 ·split at h
  ·rename_i f args hop
   split at h
   case h_2=>cases h
   rename_i v st1 hc;simp only[bQi,bQo]at h;obtain⟨rfl,rfl⟩:=h
   refine⟨?_,by simp,fun hw=>by rw[hop]at hw;simp[LOp.writesMem]at hw,fun _=>rfl⟩
   simp only[eK]
   congr 1
   funext k
   split
   ·rename_i hk;exact(aQj hk).symm
   ·rfl
  ·split at h
   case h_2=>cases h
   rename_i r' hev
   split at h
   ·cases h
   rename_i hb;simp only[bQi,bQo]at h;obtain⟨rfl,rfl⟩:=h
   refine⟨by simp only[eK,aJf hev],fun h=>?_,fun hw=>⟨aOt hev hw,aQ0 hev hw,aJf hev⟩,aQ1 hev⟩
   rw[h]at hb;cases ho:o.dst with
   |none=>rw[ho]at hb;simp at hb
   |some d=>rfl
 ·cases h
structure wF (o:aL) (r:Res) (s s':St):Prop where
 fr: ∀t∈o.uses,s.fr t=s'.fr t
 en: ∀ρ∈r.rs,gN s.en s'.en ρ
 cnt:r.bump=true-> ∀d,o.dst=some d->s.cnt (o.op.me 0) d=s'.cnt (o.op.me 0) d
 all:r.mem.isSome=true->s.en=s'.en/\ s.cnt=s'.cnt
theorem wF.refl (o:aL)(r:Res)(s:St):wF o r s s:=⟨fun _ _=>rfl,fun _ _=>gN.refl _ _,fun _ _ _=>rfl,fun _=>⟨rfl,rfl⟩⟩
variable {b:St}
theorem wF.trans {o:aL}{a c:St}(h:wF o r a b)(k:wF o r b c):wF o r a c:=
 ⟨fun t ht=>(h.fr t ht).trans (k.fr t ht),fun ρ hρ=>(h.en ρ hρ).trans (k.en ρ hρ),fun hb d hd=>(h.cnt hb d hd).trans (k.cnt hb d hd),fun hm=>⟨(h.all hm).1.trans (k.all hm).1,(h.all hm).2.trans (k.all hm).2⟩⟩
theorem wF.symm {o:aL}{a:St}(h:wF o r a b):wF o r b a:=
 ⟨fun t ht=>(h.fr t ht).symm,fun ρ hρ=>(h.en ρ hρ).symm,fun hb d hd=>(h.cnt hb d hd).symm,fun hm=>⟨(h.all hm).1.symm,(h.all hm).2.symm⟩⟩
theorem aXj {st2:St}{o:aL}(h:step n call io 0 st o=some (st',r))(hl:wF o r st st2):step n call io 0 st2 o=some (eK o r st2,r):=by
 have hw:wanted st2.fr o.guard=wanted st.fr o.guard:=by
  cases hg:o.guard with
  |none=>rfl
  |some p=>
   obtain⟨t,b⟩:=p;simp only[wanted];rw[hl.fr t (by simp[aL.uses,hg])]
 have hgt: ∀x∈o.op.opds,St.get st2.fr x=St.get st.fr x:=by
  intro x hx;cases x with
  |t i=>exact(hl.fr i (by simp only[aL.uses,bRb,bRx];exact .inl ⟨_,hx,by simp[Opd.tmp]⟩)).symm
  |c v=>rfl
  |f i=>rfl
  |m tbl i=>simp only[St.get];rw[(hl.fr i (by simp only[aL.uses,bRb,bRx];exact .inl ⟨_,hx,by simp[Opd.tmp]⟩)).symm]
 simp only[step]at h⊢;rw[hw]
 split at h
 ·simp only[bQi,bQo]at h;obtain⟨_,rfl⟩:=h;rfl
 ·split at h
  ·rename_i f args hop
   split at h
   case h_2=>cases h
   rename_i v st1 hc;simp only[bQi,bQo]at h;obtain⟨_,rfl⟩:=h;obtain⟨e1,e2⟩:=hl.all rfl;rw[hgt f (by simp[hop,LOp.opds]),show args.map (St.get st2.fr)=args.map (St.get st.fr)from bSx fun p hp=>hgt p (by simp[hop,LOp.opds,hp]),<-e1,<-e2,hc]
   simp only[eK,<-e1]
   congr 3
   funext k
   split
   ·rename_i hk;exact(aQj hk).symm
   ·rfl
  ·rename_i hni
   split at h
   case h_2=>cases h
   rename_i r' hev
   split at h
   ·cases h
   rename_i hb;simp only[bQi,bQo]at h;obtain⟨_,rfl⟩:=h;have hev2:eval n call (o.op.me 0) (o.dst.getD 0) (st2.cnt (o.op.me 0) (o.dst.getD 0)) st2.en (St.get st2.fr) o.op=some r':=by
    have h1:=aT6 hev hgt hl.en;cases hbb:r'.bump with
    |false=>exact bGz h1 hbb _
    |true=>
     cases hd:o.dst with
     |some d=>rw[hd]at h1;simp only[bRc]at h1⊢;rw[<-hl.cnt hbb d hd];exact h1
     |none=>rw[hd,hbb]at hb;simp at hb
   rw[hev2];simp only[if_neg hb];simp only[eK,aJf hev]
 ·cases h
structure aH2 (o o':aL) (r r':Res):Prop where
 dst: ∀d,o.dst=some d->o'.dst≠some d
 use: ∀d,o.dst=some d->d∉o'.uses
 use': ∀d,o'.dst=some d->d∉o.uses
 ww: ∀w∈r.ws,∀w'∈r'.ws,mY w w'=true
 wr: ∀w∈r.ws,∀ρ∈r'.rs,jU w ρ=true
 rw: ∀w∈r'.ws,∀ρ∈r.rs,jU w ρ=true
 m1:r.mem.isSome=true->r'.quiet/\ ∀ρ∈r'.rs,r.unch ρ.key=true
 m2:r'.mem.isSome=true->r.quiet/\ ∀ρ∈r.rs,r'.unch ρ.key=true
variable {fr:Nat->Val}{u:Val}
theorem aT7 {d':Nat}(h:d≠d'):jD (jD fr d u) d' v=jD (jD fr d' v) d u:=by
 funext i
 simp only[jD]
 by_cases h1:i=d'
 ·subst h1;rw[if_pos rfl,if_neg fun e:i=d=>h e.symm,if_pos rfl]
 ·rw[if_neg h1,if_neg h1]
theorem aC3 {d d':Option Nat}(h: ∀x,d=some x->d'≠some x):gZ (gZ fr d u) d' v=gZ (gZ fr d' v) d u:=by
 cases d with
 |none=>rfl
 |some d=>
  cases d' with
  |none=>rfl
  |some d'=>exact aT7 fun e=>h d rfl (by rw[e])
theorem pH {d:Option Nat}{t:Nat}(h: ∀x,d=some x->t≠x):gZ fr d v t=fr t:=by
 cases d with
 |none=>rfl
 |some d=>simp only[gZ,jD];rw[if_neg (h d rfl)]
variable {o':aL}{r':Res}
theorem aH2.comm {o:aL}(h:aH2 o o' r r')(hb:r.bump=true->o.dst.isSome=true)(hb':r'.bump=true->o'.dst.isSome=true)(s:St):
  eK o' r' (eK o r s)=eK o r (eK o' r' s):=by
 simp only[eK];cases hm:r.mem with
 |some p=>
  obtain⟨⟨q1,q2,q3⟩,_⟩:=h.m1 (by rw[hm];rfl)
  simp only[q1,q2,q3,W.applyAll,bS4,bQm,if_false];rw[aC3 h.dst]
 |none=>
  cases hm':r'.mem with
  |some p=>
   obtain⟨⟨q1,q2,_⟩,_⟩:=h.m2 (by rw[hm'];rfl)
   simp only[q1,q2,W.applyAll,bS4,bQm,if_false];rw[aC3 h.dst]
  |none=>
   simp only
   congr 1
   ·exact aC3 h.dst
   ·exact aMa _ _ _ h.ww
   ·by_cases hbb:r.bump=true
    ·by_cases hbb':r'.bump=true
     ·obtain⟨d,hd⟩:=bSa.1 (hb hbb);obtain⟨d',hd'⟩:=bSa.1 (hb' hbb');have hne:d≠d':=fun e=>h.dst d hd (by rw[hd',e])
      simp only[hbb,hbb',if_true,hd,hd',bRc]
      funext n t
      simp only[aC]
      by_cases h1:n=o'.op.me 0/\ t=d'
      ·obtain⟨rfl,rfl⟩:=h1;have h3: ¬t=d:=fun e=>hne e.symm
       simp[h3]
      ·by_cases h2:n=o.op.me 0/\ t=d
       ·obtain⟨rfl,rfl⟩:=h2;simp[hne]
       ·simp[h1,h2]
     ·simp[hbb']
    ·simp[hbb]
theorem aQ2 (h:en ρ.key=en' ρ.key):gN en en' ρ:=by
 cases ρ<;>simp only[gN,R.key]at h⊢ <;>rw[h]
theorem aQ3 {o:aL}(hd: ∀d,o.dst=some d->o'.dst≠some d)(hu: ∀d,o.dst=some d->d∉o'.uses)(hwr: ∀w∈r.ws,∀ρ∈r'.rs,jU w ρ=true)
  (h1:r.mem.isSome=true->r'.quiet/\ ∀ρ∈r'.rs,r.unch ρ.key=true) (h2:r'.mem.isSome=true->r.quiet/\ ∀ρ∈r.rs,r'.unch ρ.key=true) (hb:r.bump=true->o.dst.isSome=true) (s:St):wF o' r' (eK o r s) s:=by
 refine⟨fun t ht=>?_,fun ρ hρ=>?_,fun hbump d hd'=>?_,fun hm=>?_⟩
 ·exact pH fun x hx e=>hu x hx (e▸ht)
 ·simp only[eK];cases hm:r.mem with
  |some p=>have hu:=(h1 (by rw[hm];rfl)).2 ρ hρ;exact aQ2 (by simp only[hu,if_true])
  |none=>exact aMb _ _ _ fun w hw=>hwr w hw ρ hρ
 ·simp only[eK];cases hm:r.mem with
  |some p=>have:=(h1 (by rw[hm];rfl)).1.2.1;rw[hbump]at this;cases this
  |none=>
   simp only
   split
   ·rename_i hbb;obtain⟨d0,hd0⟩:=bSa.1 (hb hbb);simp only[hd0,bRc,aC];rw[if_neg]
    rintro⟨_,rfl⟩
    exact hd _ hd0 hd'
   ·rfl
 ·obtain⟨⟨q1,q2,q3⟩,_⟩:=h2 hm;simp only[eK,q1,q2,q3,W.applyAll,bS4,bQm,if_false,and_self]
theorem aH2.like {o:aL}(h:aH2 o o' r r')(hb:r.bump=true->o.dst.isSome=true)(s:St):wF o' r' (eK o r s) s:=
 aQ3 h.dst h.use h.wr h.m1 h.m2 hb s
theorem aH2.like' {o:aL}(h:aH2 o o' r r')(hb:r'.bump=true->o'.dst.isSome=true)(s:St):wF o r (eK o' r' s) s:=
 aQ3 (fun d hd hd'=>h.dst d hd' hd) h.use' h.rw h.m2 h.m1 hb s
structure Run (n:Nat) (call:bD) (io:Inl) (l:Nat->aL) (r:Nat->Res) (N:Nat) (st:St) (s:Nat->St):Prop where
 zero:s 0=st
 step: ∀i,i<N->step n call io 0 (s i) (l i)=some (s (i+1),r i)
variable {N:Nat}{l:Nat->aL}{s:Nat->St}
theorem Run.fold {r:Nat->Res}(h:Run n call io l r N st s):
  ∀i,i<=N->s i=dN (fun k=>eK (l k) (r k)) (fun _=>true) st i
 |0,_=>h.zero
 |i+1,hi=>by
  simp only[dN,if_true];rw[<-h.fold i (by omega)]
  exact(rQ (h.step i (by omega))).1
theorem aJg {σ:Type}{E:Nat->σ->σ}{s:σ}{i:Nat}: ∀{N:Nat},i<=N->dN E (fun k=>decide (k<i)) s N=dN E (fun _=>true) s i
 |0,h=>by
  have:i=0:=by omega
  subst this;rfl
 |N+1,h=>by
  by_cases hi:i=N+1
  ·subst hi;exact cH fun k hk=>by simp[hk]
  ·simp only[dN];rw[if_neg (by simp;omega),aJg (by omega)]
theorem aBp {r:Nat->Res}(h:Run n call io l r N st s){ord:Nat->Nat->Prop}(hord: ∀i j,ord i j->i<j)
  (hfree: ∀i j,i<j->j<N-> ¬ord i j->aH2 (l i) (l j) (r i) (r j)) {L:Nat->Bool} (hcl: ∀j,j<N->L j=true-> ∀i,ord i j->L i=true) {i:Nat} (hi:i<N) (hL:L i=false) (hr: ∀k,ord k i->L k=true):
  step n call io 0 (dN (fun k=>eK (l k) (r k)) L st N) (l i)=some (dN (fun k=>eK (l k) (r k)) (fun k=>k==i||L k) st N,r i):=by
 have hb: ∀k,k<N->(r k).bump=true->(l k).dst.isSome=true:=fun k hk=>(rQ (h.step k hk)).2.1
 have comm: ∀j k,j<k->k<N-> ¬ord j k-> ∀s,eK (l k) (r k) (eK (l j) (r j) s)=eK (l j) (r j) (eK (l k) (r k) s):=
  fun j k hjk hk ho s=>(hfree j k hjk hk ho).comm (hb j (by omega)) (hb k hk) s
 have a:wF (l i) (r i) (s i) (dN (fun k=>eK (l k) (r k)) (fun k=>decide (k<i)&&L k) st N):=by
  have h1:=tY (E:=fun k=>eK (l k) (r k)) (L:=fun k=>decide (k<i)) (s:=st) (n:=N) (wF (l i) (r i)) (wF.refl _ _) (fun _ _ _=>wF.trans) L N (bQk _) (fun j hj h1 h2=>by
   simp only[bT8]at h1;have ho: ¬ord j i:=fun ho=>by rw[hr j ho]at h2;cases h2
   refine⟨(hfree j i h1 hi ho).like (hb j hj),fun k hjk hk h3 h4=>comm j k hjk hk fun ho=>?_⟩
   rw[hcl k hk h4 j ho]at h2;cases h2)
  rw[cH (L':=fun k=>decide (k<i)) fun k hk=>by simp[hk],aJg (by omega),<-h.fold i (by omega)]at h1
  exact h1
 have b:wF (l i) (r i) (dN (fun k=>eK (l k) (r k)) L st N) (dN (fun k=>eK (l k) (r k)) (fun k=>decide (k<i)&&L k) st N):=by
  have h1:=tY (E:=fun k=>eK (l k) (r k)) (L:=L) (s:=st) (n:=N) (wF (l i) (r i)) (wF.refl _ _) (fun _ _ _=>wF.trans) (fun k=>decide (k<i)) N (bQk _) (fun j hj h1 h2=>by
   simp only[bT9]at h2;have hne:j≠i:=by rintro rfl;rw[hL]at h1;cases h1
   have hij:i<j:=by omega
   have ho: ¬ord i j:=fun ho=>by rw[hcl j hj h1 i ho]at hL;cases hL
   refine⟨(hfree i j hij hj ho).like' (hb j hj),fun k hjk hk h3 h4=>?_⟩
   simp only[bT8]at h4;omega)
  rw[cH (L':=L) fun k hk=>by simp[hk],cH (L':=fun k=>decide (k<i)&&L k) (fun k hk=>Bool.and_comm _ _)]at h1
  exact h1
 rw[aXj (h.step i hi) (a.trans b.symm)]
 congr 2
 refine(aFz hL hi fun k hik hk hLk s=>comm i k hik hk (fun ho=>?_) s).symm
 rw[hcl k hk hLk i ho]at hL;cases hL
end Go.Abs
namespace Go.Abs
open Go.RowKit (Below)
variable [Inhabited mN]
def bW :Res:={v:= .tup []}
theorem tZ {n:Nat}{call:bD}{io:Inl}: ∀{l:List aL} {st stn:St} {rs:List Res},iU n call io 0 l st=some (stn,rs)->
  rs.length=l.length/\ ∃s,Run n call io (fun i=>l.getD i default) (fun i=>rs.getD i bW) l.length st s/\ s l.length=stn
 |[],st,stn,rs,h=>by
  simp only[iU,bQi,bQo]at h;obtain⟨rfl,rfl⟩:=h;exact⟨rfl,fun _=>st,⟨rfl,fun i hi=>by simp at hi⟩,rfl⟩
 |o::l,st,stn,rs,h=>by
  simp only[iU]at h
  split at h
  case h_2=>cases h
  rename_i st' r hs
  split at h
  case h_2=>cases h
  rename_i st'' rs' hr;simp only[bQi,bQo]at h;obtain⟨rfl,rfl⟩:=h;obtain⟨hl,s,⟨h0,h1⟩,h2⟩:=tZ hr
  refine⟨by simp[hl],fun i=>match i with|0=>st|i+1=>s i,⟨rfl,fun i hi=>?_⟩,h2⟩
  match i with
  |0=>simpa[h0]using hs
  |i+1=>simpa using h1 i (by simpa using hi)
def lL (o:Oper):List Nat:=(o.after.toList.filter (Region.binds .any)).map (·.on)
theorem aG7 : ∀{l:List Oper} {acc an:List (List Nat)},aIw l acc=some an->(∀k,k<acc.length->an.getD k []=acc.getD k [])/\
  ∀m (h:m<l.length),(∀k∈lL l[m],k<acc.length+m)/\ ∀i∈an.getD (acc.length+m) [],∃k∈lL l[m],i=k \/i∈an.getD k []
 |[],acc,an,h=>by
  simp only[aIw,bQi]at h;subst h;exact⟨fun _ _=>rfl,fun m hm=>by simp at hm⟩
 |o::l,acc,an,h=>by
  simp only[aIw]at h
  split at h
  case isFalse=>cases h
  rename_i hd;obtain⟨h1,h2⟩:=aG7 h;have hpre: ∀k,k<acc.length->an.getD k []=acc.getD k []:=fun k hk=>by
   rw[h1 k (by simp;omega)];simp[bQn,bSq hk]
  have hdir: ∀k∈lL o,k<acc.length:=fun k hk=>by simpa using bQp.1 hd k hk
  refine⟨hpre,fun m hm=>?_⟩
  match m with
  |0=>
   refine⟨fun k hk=>by simpa using hdir k hk,fun i hi=>?_⟩
   rw[bR5,h1 acc.length (by simp)]at hi
   simp only[bQn,List.getElem?_append_right (bQk _),Nat.sub_self,bS6,bRc,List.mem_eraseDups,bRb,bRx]at hi;rcases hi with hi|⟨k,hk,hi⟩
   ·exact⟨i,hi,.inl rfl⟩
   ·exact⟨k,hk,.inr (by rw[hpre k (hdir k hk),bQn];exact hi)⟩
  |m+1=>
   have:=h2 m (by simpa using hm)
   simp only[bQ2,bQu,bQz]at this;rw[show acc.length+(0+1)+m=acc.length+(m+1)by omega]at this
   simpa using this
variable {an:List (List Nat)}{j:Nat}{ops:Array Oper}
theorem tB (h:aQm ops=some an){o:Oper}(ho:ops[j]?=some o):
  (∀k∈lL o,k<j)/\ ∀i∈an.getD j [],∃k∈lL o,i=k \/i∈an.getD k []:=by
 obtain⟨hj,ho'⟩:=bSd.1 ho;have:=(aG7 h).2 j (by simpa using hj)
 simpa[ho']using this
theorem aIe (h:aQm ops=some an): ∀j i,j<ops.size->i∈an.getD j []->i<j:=by
 intro j
 induction j using Nat.strongRecOn with
 |ind j ih=>
  intro i hj hi;obtain⟨h1,h2⟩:=tB h (bQ4 hj);obtain⟨k,hk,h3⟩:=h2 i hi;have:=h1 k hk;rcases h3 with rfl|h3
  ·exact this
  ·have:=ih k this i (by omega) h3;omega
def yO (ops:Array Oper)(L:Nat->Bool):Prop:= ∀j o,ops[j]?=some o->L j=true-> ∀k∈lL o,L k=true
theorem gP (h:aQm ops=some an){L:Nat->Bool}(hc:yO ops L): ∀j o,ops[j]?=some o->(∀k∈lL o,L k=true)-> ∀i∈an.getD j [],L i=true:=by
 intro j
 induction j using Nat.strongRecOn with
 |ind j ih=>
  intro o ho hd i hi;obtain⟨h1,h2⟩:=tB h ho;obtain⟨k,hk,h3⟩:=h2 i hi;have hkj:=h1 k hk;have hj:=(bSd.1 ho).1;rcases h3 with rfl|h3
  ·exact hd _ hk
  ·have hok:=bQ4 (xs:=ops) (i:=k) (by omega)
   exact ih k hkj _ hok (hc k _ hok (hd k hk)) i h3
variable {i:Nat}{l:List aL}{ps:List (Nat×Nat)}{rs:List Res}
theorem aIf (hp:fS an l=some ps)(hok:dP rs ps=true)
  (hw: ∀i,i<l.length->((l.getD i default).op.writesMem=false->(rs.getD i bW).quiet)/\ ((l.getD i default).op.readsMem=false->(rs.getD i bW).rs=[]))
  (hlt: ∀j i,j<l.length->i∈an.getD j []->i<j)  (hij:i<j) (hj:j<l.length) (ho: ¬i∈an.getD j []):
  aH2 (l.getD i default) (l.getD j default) (rs.getD i bW) (rs.getD j bW):=by
 have ho': ¬j∈an.getD i []:=fun h=>by have:=hlt i j (by omega) h;omega
 simp only[fS]at hp
 split at hp
 case isFalse=>cases hp
 rename_i hall;simp only[bQi]at hp;have hst: ∀a b,a<l.length->b<l.length->a≠b-> ¬a∈an.getD b []-> ¬b∈an.getD a []-> ∀d,(l.getD a default).dst=some d->(l.getD b default).dst≠some d/\ d∉(l.getD b default).uses:=by
  intro a b ha hb hab h1 h2 d hd;have:=bQp.1 (bQp.1 hall b (bRi.2 hb)) a (bRi.2 ha);simp only[bRr,beq_iff_eq,hab,false_or,hd]at this;simp only[bQj,bne_iff_ne,ne_eq,bRr,bRw,bSf,bT8,bT9]at this;exact⟨this.1,this.2.resolve_right fun h=>h.elim h1 h2⟩
 have hmem:(((l.getD i default).op.writesMem&&((l.getD j default).op.readsMem||(l.getD j default).op.writesMem))||((l.getD j default).op.writesMem&&(l.getD i default).op.readsMem))=true->(i,j)∈ps:=by
  intro hc;rw[<-hp];simp only[bRx,bRi,bRe,bR6,bQj,bRw]
  refine⟨j,hj,i,⟨hij,?_,hc⟩,rfl⟩
  simp only[bSf,Bool.or_eq_false_iff,bT9];exact⟨ho,ho'⟩
 have heff:(∀w∈(rs.getD i bW).ws,∀w'∈(rs.getD j bW).ws,mY w w'=true)/\ (∀w∈(rs.getD i bW).ws,∀ρ∈(rs.getD j bW).rs,jU w ρ=true)/\
   (∀w∈(rs.getD j bW).ws,∀ρ∈(rs.getD i bW).rs,jU w ρ=true)/\ ((rs.getD i bW).mem.isSome=true->(rs.getD j bW).quiet/\ ∀ρ∈(rs.getD j bW).rs,(rs.getD i bW).unch ρ.key=true)/\
   ((rs.getD j bW).mem.isSome=true->(rs.getD i bW).quiet/\ ∀ρ∈(rs.getD i bW).rs,(rs.getD j bW).unch ρ.key=true):=by
  by_cases hc:(((l.getD i default).op.writesMem&&((l.getD j default).op.readsMem||(l.getD j default).op.writesMem))||((l.getD j default).op.writesMem&&(l.getD i default).op.readsMem))=true
  ·have:=bQp.1 hok _ (hmem hc)
   simp only at this
   split at this
   case h_2=>cases this
   rename_i a b ha hb;simp only[bQn,ha,hb,bRc];simp only[aDt]at this
   split at this
   ·rename_i h1;simp only[bQj,Res.still,bTn,bRw,bQp,bTo]at this;obtain⟨⟨e0,⟨q1,q2⟩,q3⟩,q4⟩:=this;rw[e0,q1];exact⟨fun w h=>(by simp at h),fun w h=>(by simp at h),fun w h=>(by simp at h),fun _=>⟨⟨q1,q2,q3⟩,q4⟩,fun h=>(by rw[q3]at h;cases h)⟩
   ·rename_i h1
    split at this
    ·rename_i h2;simp only[bQj,Res.still,bTn,bRw,bQp,bTo]at this;obtain⟨⟨e0,⟨q1,q2⟩,q3⟩,q4⟩:=this;rw[e0,q1];exact⟨fun w h=>(by simp at h),fun w h=>(by simp at h),fun w h=>(by simp at h),fun h=>absurd h h1,fun _=>⟨⟨q1,q2,q3⟩,q4⟩⟩
    ·rename_i h2;simp only[bQj,bQp]at this;obtain⟨t1,t2⟩:=this;exact⟨fun w h w' h'=>(t1 w h).2 w' h',fun w h ρ h'=>(t1 w h).1 ρ h',fun w h ρ h'=>t2 w h ρ h',fun h=>absurd h h1,fun h=>absurd h h2⟩
  ·have hi:=hw i (by omega)
   have hj:=hw j hj;cases h1:(l.getD i default).op.writesMem with
   |false=>
    have q:=hi.1 h1;have e1:=q.1;have e3:=q.2.2;rw[e1,e3]
    refine⟨fun w h=>by simp at h,fun w h=>by simp at h,?_,fun h=>(by cases h),fun h=>⟨q,?_⟩⟩
    ·cases h2:(l.getD j default).op.writesMem with
     |false=>rw[(hj.1 h2).1];intro w h;simp at h
     |true=>
      have:(l.getD i default).op.readsMem=false:=by simp only[h1,h2,bQ7,bQ9,bRf]at hc;simpa using hc
      rw[hi.2 this];intro w _ ρ h;simp at h
    ·cases h2:(l.getD j default).op.writesMem with
     |false=>rw[(hj.1 h2).2.2]at h;cases h
     |true=>
      have:(l.getD i default).op.readsMem=false:=by simp only[h1,h2,bQ7,bQ9,bRf]at hc;simpa using hc
      exact fun ρ hρ=>(by rw[hi.2 this]at hρ;simp at hρ)
   |true=>
    simp only[h1,bQ9,bRr,not_or,bQj]at hc;obtain⟨⟨h2,h3⟩,h4⟩:=hc;have q:=hj.1 (by simpa using h3)
    have e1:=q.1;have e3:=q.2.2;have e2:=hj.2 (by simpa using h2)
    rw[e1,e2,e3];exact⟨fun w _ w' h=>by simp at h,fun w _ ρ h=>by simp at h,fun w h=>by simp at h,fun _=>⟨q,fun ρ hρ=>(by simp at hρ)⟩,fun h=>(by cases h)⟩
 obtain⟨f1,f2,f3,f4,f5⟩:=heff;exact⟨fun d hd=>(hst i j (by omega) hj (by omega) ho ho' d hd).1,fun d hd=>(hst i j (by omega) hj (by omega) ho ho' d hd).2,fun d hd=>(hst j i hj (by omega) (by omega) ho' ho d hd).2,f1,f2,f3,f4,f5⟩
theorem uA (f g:Nat->Bool)(i:Nat)(hf:f i=true)(hg:g i=false)(h: ∀k,k≠i->g k=f k): ∀N,i<N->(List.range N).countP g+1=(List.range N).countP f
 |0,h=>by omega
 |N+1,hi=>by
  simp only[bTp,List.countP_append,List.countP_singleton]
  by_cases hn:i=N
  ·subst hn;have:(List.range i).countP g=(List.range i).countP f:=List.countP_congr fun k hk=>by
    have:=bRi.1 hk;rw[h k (by omega)]
   simp[this,hf,hg]
  ·have:=uA f g i hf hg h N (by omega)
   rw[h N (by omega)]
   omega
variable {Q:Exit->Act->World->Prop}{st stn:St}{I:Operand->Bool}{m n B N:Nat}{ro:Option Nat}{P:Program}{S:Nat->Nat->Prop}{Ξ:Env}{call:bD}{io:Inl}
section
theorem aXk (hcall:lK P call)(hio:wY P io)(hl:cP (fE P I ops) ops.toList=some l)(hd:l.all (fun o=>o.dst.all (· <N))=true):
  ∀(k i:Nat) (st st':St) (G:Gh) (a:Act) (w:World),i+k=ops.size->Rel P Ξ B S G st N a w->gE n call io 0 (l.drop i) st=some st'->
   (∀a' w' G',Rel P Ξ B S G' st' N a' w'->Below B w w'->Q .normal a' w')->wpOpsIn (Fx ro) m P ops Q (List.range' i k) a w:=by
 obtain⟨l1,l2⟩:=fH hl;intro k
 induction k with
 |zero=>
  intro i st st' G a w hik hR hrun hQ;have:l.drop i=[]:=bTs.2 (by rw[l1];simp;omega)
  rw[this]at hrun;simp only[gE,bQi]at hrun;subst hrun;exact hQ a w G hR (Below.refl _ _)
 |succ k ih=>
  intro i st st' G a w hik hR hrun hQ;have hi:i<ops.size:=by omega
  have hil:i<l.length:=by rw[l1];simpa using hi
  rw[bRt hil]at hrun;simp only[gE]at hrun
  split at hrun
  case h_2=>cases hrun
  rename_i st1 r hs;rw[bTk,wpOpsIn_cons];unfold wpOpIn;rw[bQ4 hi];have hlow:=l2 i (by simpa using hi) hil
  simp only[bTf]at hlow;exact oU hcall hio hR hlow (bQp.1 hd _ (bQr hil)) hs fun a' w' G' h1 h2=>
   ih (i+1) st1 st' G' a' w' (by omega) h1 hrun fun a'' w'' G'' h3 h4=>hQ a'' w'' G'' h3 (h2.trans h4)
theorem aXl (hcall:lK P call)(hio:wY P io)(hl:cP (fE P I ops) ops.toList=some l)(hd:l.all (fun o=>o.dst.all (· <N))=true)(han:aQm ops=some an)
   (hps:fS an l=some ps)   (hrun:iU n call io 0 l st=some (stn,rs)) (hok:dP rs ps=true) :
  ∀(fuel:Nat) (listed:Array Bool) (G:Gh) (a:Act) (w:World),listed.size=ops.size->(List.range ops.size).countP (fun i=>!listed.getD i false)<=fuel->yO ops (fun i=>listed.getD i false)->
   Rel P Ξ B S G (dN (fun k=>eK (l.getD k default) (rs.getD k bW)) (fun i=>listed.getD i false) st ops.size) N a w->(∀a' w' G',Rel P Ξ B S G' stn N a' w'->Below B w w'->Q .normal a' w')->
   wpAnyIn (Fx ro) m P .any ops Q fuel listed a w:=by
 obtain⟨l1,l2⟩:=fH hl;have hN:l.length=ops.size:=by rw[l1];simp
 obtain⟨hrl,s,hrun',hsn⟩:=tZ hrun;rw[hN]at hrun' hsn;have hlt:=aIe han;have hw: ∀i,i<l.length->((l.getD i default).op.writesMem=false->(rs.getD i bW).quiet)/\ ((l.getD i default).op.readsMem=false->(rs.getD i bW).rs=[]):=
  fun i hi=>(rQ (hrun'.step i (by omega))).2.2
 have hfree: ∀i j,i<j->j<ops.size-> ¬i∈an.getD j []->aH2 (l.getD i default) (l.getD j default) (rs.getD i bW) (rs.getD j bW):=
  fun i j hij hj ho=>aIf hps hok hw (fun j i hj hi=>hlt j i (by omega) hi) hij (by omega) ho
 have full: ∀(listed:Array Bool),listed.size=ops.size->Region.ready .any ops listed=[]-> ∀i,i<ops.size->listed.getD i false=true:=by
  intro listed hsz hr i
  induction i using Nat.strongRecOn with
  |ind i ih=>
   intro hi;cases hb:listed.getD i false with
   |true=>rfl
   |false=>
    exfalso
    have hm:i∈Region.ready .any ops listed:=by
     rw[mem_ready]
     refine⟨?_,ops[i],bQ4 hi,fun e he hbd=>?_⟩
     ·rw[bQy,bQ4 (by omega)]at hb⊢;simpa using hb
     ·have hk:e.on∈lL ops[i]:=bRe.2 ⟨e,bR6.2 ⟨by simpa using he,hbd⟩,rfl⟩
      have:=(tB han (bQ4 hi)).1 _ hk;exact ih _ this (by omega)
    rw[hr]at hm;simp at hm
 have done: ∀(listed:Array Bool) (G:Gh) (a:Act) (w:World),listed.size=ops.size->Region.ready .any ops listed=[]->
   Rel P Ξ B S G (dN (fun k=>eK (l.getD k default) (rs.getD k bW)) (fun i=>listed.getD i false) st ops.size) N a w->(∀a' w' G',Rel P Ξ B S G' stn N a' w'->Below B w w'->Q .normal a' w')->Q .normal a w:=by
  intro listed G a w hsz hr hR hQ
  refine hQ a w G ?_ (Below.refl _ _)
  rw[cH (L':=fun _=>true) fun i hi=>full listed hsz hr i hi,<-hrun'.fold _ (bQk _),hsn]at hR
  exact hR
 intro fuel
 induction fuel with
 |zero=>
  intro listed G a w hsz hc hcl hR hQ;have hr:Region.ready .any ops listed=[]:=by
   cases h:Region.ready .any ops listed with
   |nil=>rfl
   |cons i rest=>
    exfalso
    have hm:i∈Region.ready .any ops listed:=by rw[h];simp
    obtain⟨h0,o,ho,_⟩:=mem_ready.1 hm;have hi:=(bSd.1 ho).1;have hb:listed.getD i false=false:=by
     rw[bQy,bQ4 (by omega)]at h0⊢;simpa using h0
    have:=bT1 (p:=fun i=>!listed.getD i false) (l:=List.range ops.size)|>.2 ⟨i,bRi.2 hi,by simp only[hb];rfl⟩
    omega
  exact⟨hr,done listed G a w hsz hr hR hQ⟩
 |succ fuel ih=>
  intro listed G a w hsz hc hcl hR hQ
  refine⟨fun hr=>done listed G a w hsz hr hR hQ,fun i hm=>?_⟩
  obtain⟨h0,o,ho,hready⟩:=mem_ready.1 hm;have hi:=(bSd.1 ho).1;have hoi:o=ops[i]:=by rw[bQ4 hi,bQi]at ho;exact ho.symm
  have hb:listed.getD i false=false:=by
   rw[bQy,bQ4 (by omega)]at h0⊢;simpa using h0
  have hdir: ∀k∈lL o,listed.getD k false=true:=by
   intro k hk;obtain⟨e,he,rfl⟩:=bRe.1 hk;obtain⟨he1,he2⟩:=bR6.1 he;exact hready e (by simpa using he1) he2
  have hst:=aBp hrun' (ord:=fun i j=>j<ops.size/\ i∈an.getD j []) (fun i j h=>hlt j i h.1 h.2) (fun i j hij hj ho=>hfree i j hij hj fun h=>ho ⟨hj,h⟩) (L:=fun i=>listed.getD i false)
   (fun j hj hLj i hord=>gP han hcl j _ (bQ4 hj) (hcl j _ (bQ4 hj) hLj) i hord.2) hi hb
   (fun k hk=>gP han hcl i o ho hdir k hk.2)
  have hset: ∀k,(listed.setIfInBounds i true).getD k false=(k==i||listed.getD k false):=by
   intro k
   by_cases hk:k=i
   ·subst hk;simp[show k<listed.size by omega]
   ·rw[getD_set_ne false fun e=>hk e.symm]
    have:(k==i)=false:=by simpa using hk
    rw[this,bRf]
  have hil:i<l.length:=by omega
  have hlow:=l2 i (by simpa using hi) hil
  simp only[bTf]at hlow;have hli:l.getD i default=l[i]:=by simp[bQn,hil]
  rw[hli]at hst;unfold wpOpIn;rw[bQ4 hi]
  refine oU hcall hio hR hlow (bQp.1 hd _ (bQr hil)) hst fun a' w' G' h1 h2=>?_
  refine ih _ G' a' w' (by simpa using hsz) ?_ ?_ ?_ fun a'' w'' G'' h3 h4=>hQ a'' w'' G'' h3 (h2.trans h4)
  ·have:=uA (fun i=>!listed.getD i false) (fun k=>!(listed.setIfInBounds i true).getD k false) i (by simp only[hb];rfl) (by simp only[hset];simp) (fun k hk=>by
    simp only[hset];have:(k==i)=false:=by simpa using hk
    rw[this,bRf]) ops.size hi
   omega
  ·intro j oj hoj hLj k hk;simp only[hset]at hLj⊢
   by_cases hj:j=i
   ·subst hj;rw[ho,bQi]at hoj;subst hoj;rw[hdir k hk,bSj]
   ·have:(j==i)=false:=by simpa using hj
    rw[this,bRf]at hLj;have h5:listed.getD k false=true:=hcl j oj hoj hLj k hk;rw[h5,bSj]
  ·rw[cH (L':=fun k=>k==i||listed.getD k false) fun k _=>hset k]
   exact h1
end
def FV (v:Val)(x:Value):Prop:= ∀(T:Nat->Nat->Prop) (G:Gh) (w:World),VR T G w v x
def yP (x:Value):List PanicEntry:=[{v:=x,recovered:=false}]
def aQ4 (P:Program)(pan:bD):Prop:= ∀f args v,pan f args=some v→(∃fn,P.funcs[f]?=some fn∧(fn.name== "runtime.NumGoroutine")=false∧fn.body.isNone=false)∧
 ∀(S:Nat->Nat->Prop) (w:World) (vals:Array Value),(∀b o,S b o->b<w.heap.size)->tT S w->vals.size=args.length->(∀i,i<args.length->VR S Gh.none w (args.getD i .dead) (vals.getD i undef))->
  Calls P f vals w fun e w'=> ∃x,e= .panicked (yP x)/\ Below w.heap.size w w'/\ FV v x
def bDo (P:Program)(Ξ:Env)(B:Nat)(S:Nat->Nat->Prop)(st st':St)(N:Nat)(a:Act)(w:World)(v:Val)(e:Ending)(w':World):Prop:=
 ∃x G',e= .panicked (yP x)/\ FV v x/\ Rel P Ξ B S G' {fr:=st.fr,en:=st'.en,cnt:=st'.cnt} N a w'/\ Below B w w'
def aQ5 (P:Program)(pin:Nat→List Val→St→Option (Val×St)):Prop:= ∀f args v (st0 st':St),pin f args st0=some (v,st')→(∃fn,P.funcs[f]?=some fn∧(fn.name== "runtime.NumGoroutine")=false∧fn.body.isNone=false)∧
  ∀(Ξ:Env) (B:Nat) (S:Nat->Nat->Prop) (G:Gh) (st:St) (N:Nat) (a:Act) (w:World) (vals:Array Value),Rel P Ξ B S G st N a w->st0.en=st.en->st0.cnt=st.cnt->vals.size=args.length->
   (∀i,i<args.length->VR (aX B S G w.heap.size) G w (args.getD i .dead) (vals.getD i undef))->Calls P f vals w (bDo P Ξ B S st st' N a w v)
variable {op:Op}{ys:List Opd}{f:Nat}{lo:aL}{next:Act->World->Prop}{pan:bD}{pin:Nat->List Val->St->Option (Val×St)}{st':St}{v:Val}{G:Gh}{a:Act}{w:World}
section
variable {o:Oper}
theorem aQ6 {y:Opd}(h:dO P I op=some (.panic y)): ∃x,op= .panic x/\ aO x=some y:=by
 cases op
 case panic x=>
  simp only[dO]at h;obtain⟨z,h1,h2⟩:=bQw.1 h;simp only[LOp.panic.injEq]at h2;exact⟨x,rfl,h2▸h1⟩
 case binOp op t x y ty=>
  exfalso
  simp only[dO,bQ6,bQx]at h;obtain⟨e,_,h⟩:=h
  split at h
  ·split at h
   ·simp[bQx]at h
   ·cases h
  ·split at h<;>simp[bQx]at h
 all_goals (exfalso;simp only[dO]at h;(repeat' split at h)<;>first|contradiction|(simp[bQx,bQw]at h;done))
theorem aT8 {f:Opd}(h:dO P I op=some (.call f ys)): ∃c,op= .call c/\ jK c.args.toList=some ys/\
  ((∃F,c.callee= .value F/\ aO F=some f) \/ ∃t name,c.callee= .invoke (.tmp t) name/\ f= .m (aBj P name) t):=by
 cases op
 case call c=>
  simp only[dO]at h
  split at h
  ·rename_i F hc
   split at h
   ·simp[bQx]at h
   ·simp only[bQ6,bQx,bQ8,bQi,LOp.call.injEq]at h;obtain⟨x',h1,ys',h2,rfl,rfl⟩:=h;exact⟨c,rfl,h2,.inl ⟨F,hc,h1⟩⟩
  ·rename_i t name hc;simp only[bQ6,bQx,bQ8,bQi,LOp.call.injEq]at h;obtain⟨ys',h2,rfl,rfl⟩:=h;exact⟨c,rfl,h2,.inr ⟨t,name,hc,rfl⟩⟩
  all_goals (repeat' split at h)<;>first|(simp[bQx,bQw]at h;done)
 case binOp op t x y ty=>
  exfalso
  simp only[dO,bQ6,bQx]at h;obtain⟨e,_,h⟩:=h
  split at h
  ·split at h
   ·simp[bQx]at h
   ·cases h
  ·split at h<;>simp[bQx]at h
 all_goals (exfalso;simp only[dO]at h;(repeat' split at h)<;>first|contradiction|(simp[bQx,bQw]at h;done))
theorem aG8 (hR:Rel P Ξ B S G st N a w){c:Call}{F:Operand}{x:Opd}{A Z:List Val}(ho:o.op= .call c)(hc:c.callee= .value F)(h1:aO F=some x)(h2:jK c.args.toList=some ys)
  (hf:St.get st.fr x= .fn f A Z) (hfn: ∃fn,P.funcs[f]?=some fn∧(fn.name== "runtime.NumGoroutine")=false∧fn.body.isNone=false):
  ∃Y:Array Value,(execOp a.eval o).run P w= .ok (.enter f Y) w/\ Y.size=(A++ys.map (St.get st.fr)++Z).length/\
   ∀i,i<(A++ys.map (St.get st.fr)++Z).length->VR (aX B S G w.heap.size) G w ((A++ys.map (St.get st.fr)++Z).getD i .dead) (Y.getD i undef):=by
 obtain⟨fn,hfn,hnm,hbody⟩:=hfn;have hF:=aU hR h1;rw[hf]at hF;obtain⟨ly,vy⟩:=oT hR h2;generalize hgF:a.eval F=uF at hF;cases hF with
 |fn _ _ _ p q hp hq hvp hvq=>
 refine⟨p++c.args.map a.eval++q,?_,by simp[hp,hq,ly],?_⟩
 ·have hnm': ¬fn.name= "runtime.NumGoroutine" :=by simpa using hnm
  have hbody': ¬fn.body=none:=by intro h;rw[h]at hbody;cases hbody
  simp[execOp,ho,resolve,hc,hgF,Deferred.ofValue,invoke,callFunc,hfn,hnm',hbody']
 ·intro i hi;simp only[bQn,bQy,bTc,bTd,bQ2,bTl,Array.size_map,bQl]at hi⊢;have e1:p.size=A.length:=hp;have e2:c.args.size=ys.length:=by simp[ly]
  rw[e1,e2];split
  ·split
   ·rename_i h;have:=hvp i h;simpa[bQn,bQy]using this
   ·have hi':i-A.length<ys.length:=by omega
    have:=vy (i-A.length) hi';have hi2:i-A.length<c.args.size:=by omega
    simpa[bQn,bQy,hi',hi2]using this
  ·have:=hvq (i-(A.length+ys.length)) (by omega);simpa[bQn,bQy]using this
theorem wG (hpan:aQ4 P pan)(hpin:aQ5 P pin)(hR:Rel P Ξ B S G st N a w)
  (hl:fE P I ops o=some lo) (hs:dQ n pan pin st lo=some (v,st'))    
  (k: ∀a' w' G' x,FV v x->Rel P Ξ B S G' st' N a' w'->Below B w w'->Q (.panic (yP x)) a' w'):
  Region.wanted o (yielded ops a.tmps)=true/\ o.wpIn (Fx ro) m P a w next Q:=by
 simp only[fE,bQ6,bQx,bQ8,bQi]at hl;obtain⟨lop,hop,g,hg,rfl⟩:=hl;simp only[dQ]at hs
 split at hs
 case h_2=>cases hs
 rename_i hw
 refine⟨pT hR hg hw,?_⟩
 split at hs
 ·rename_i y
  split at hs
  case h_2=>cases hs
  rename_i t u hu
  split at hs
  case isFalse=>cases hs
  rename_i hfl;simp only[bQi,bQo]at hs;obtain⟨rfl,rfl⟩:=hs;obtain⟨x,e1,e2⟩:=aQ6 hop;have hx:=aU hR e2;rw[hu]at hx;generalize hax:a.eval x=z at hx;have hfv:FV (.ifc t u) z:=fun T' G' w'=>aMu hx hfl
  cases hx with
  |ifc _ _ z' hz=>
  have hrun:(execOp a.eval o).run P w= .halt (.panic (.iface t z')) w:=by
   simp[execOp,e1,hax,Instr.panic,goPanic]
  refine⟨fun _ _=>trivial,?_⟩
  rw[Oper.semAt_eq _ _ _ (by simp[e1]),hrun]
  exact k a w G _ hfv hR (Below.refl _ _)
 ·rename_i f args
  split at hs
  case h_2=>cases hs
  rename_i f' A Z hnoM hf
  split at hs
  case h_2=>cases hs
  rename_i rs hsn;obtain⟨v',hv,he⟩:=bQw.1 hs;simp only[bQo]at he;obtain⟨rfl,rfl⟩:=he;obtain⟨hfn,hcalls⟩:=hpan _ _ _ hv;obtain⟨c,e1,e2,e3⟩:=aT8 hop;obtain⟨Y,hrun,hYl,hYv⟩: ∃Y:Array Value,(execOp a.eval o).run P w= .ok (.enter f' Y) w/\ Y.size=(A++args.map (St.get st.fr)++Z).length/\
    ∀i,i<(A++args.map (St.get st.fr)++Z).length->VR (aX B S G w.heap.size) G w ((A++args.map (St.get st.fr)++Z).getD i .dead) (Y.getD i undef):=by
   rcases e3 with⟨F,e3,e4⟩|⟨t,name,e3,rfl⟩
   ·exact aG8 hR e1 e3 e4 e2 hf hfn
   ·cases hnoM
  obtain⟨s1,s2⟩:=tU hsn;have hrl:(rs.map (·.1.wk1)).length=(A++args.map (St.get st.fr)++Z).length:=by rw[<-s1];simp
  refine⟨fun _ _=>trivial,?_⟩
  rw[pS hrun (by simp),Oper.uponIn_enter]
  refine⟨fun h=>by simp[Fx,Fence.wide]at h,?_⟩
  refine pG (Calls.mono (hcalls (fun b _=>b<w.heap.size) w Y (fun _ _ h=>h) (hR.glob.mono fun _ _ h=>h.1) (by rw[hrl,hYl]) (fun i hi=>?_)) ?_)
  ·rw[hrl]at hi;obtain⟨ks,q1,_⟩:=s2 i hi;have:=(yC hR.ents (T':=fun b _=>b<w.heap.size) ⟨fun _ _ h=>h.1,G.le_refl,fun _ _ _ _ h=>h,fun _ _ _ _ h=>h,fun _ _ h=>h,fun _ r h=>⟨r,h⟩⟩ n (hYv i hi) q1 fun k _ e he=>aV0 hR he).wk1
   rw[show rs.map (·.1.wk1)=(rs.map (·.1)).map Val.wk1 by simp]
   rw[aD5];exact this
  ·rintro e w' ⟨x,rfl,hb,hv⟩
   exact k a w' G x hv (hR.below hb) ⟨hb.os,hb.tape,hb.output,hb.size,fun k hk=>hb.block k (bRa hk hR.size)⟩
 ·rename_i f args
  split at hs
  case h_2=>cases hs
  rename_i f' A Z hf
  split at hs
  case h_2=>cases hs
  rename_i v' st1 hv;simp only[bQi,bQo]at hs;obtain⟨rfl,rfl⟩:=hs;obtain⟨hfn,hcalls⟩:=hpin _ _ _ _ _ hv;obtain⟨c,F,e1,e2,e3,e4⟩:=aG6 hop;obtain⟨Y,hrun,hYl,hYv⟩:=aG8 hR e1 e2 e3 e4 hf hfn
  refine⟨fun _ _=>trivial,?_⟩
  rw[pS hrun (by simp),Oper.uponIn_enter]
  refine⟨fun h=>by simp[Fx,Fence.wide]at h,?_⟩
  refine pG (Calls.mono (hcalls Ξ B S G st N a w Y hR rfl rfl hYl hYv) ?_)
  rintro e w' ⟨x,G',rfl,hv,hR',hb⟩
  exact k a w' G' x hv hR' hb
 ·cases hs
end
def Ex.val :Ex->Value->Prop
 | .panic v,x=>FV v x
 |_,_=>True
def aMc (P:Program)(Ξ:Env)(B:Nat)(S:Nat->Nat->Prop)(G:Gh)(st:St)(N:Nat)(e:Ex)(a:Act)(w:World):Prop:=
 ∃tm:Array Value,Rel P Ξ B S G st N {a with tmps:=tm} w/\ (e.calm=true->tm=a.tmps)/\ ∀t,(st.fr t).isUndef=false->tm.getD t undef=a.tmps.getD t undef
theorem Rel.e (h:Rel P Ξ B S G st N a w){e:Ex}:aMc P Ξ B S G st N e a w:=⟨a.tmps,h,fun _=>rfl,fun _ _=>rfl⟩
theorem aMc.rel {e:Ex}(h:aMc P Ξ B S G st N e a w)(hc:e.calm=true):Rel P Ξ B S G st N a w:=by
 obtain⟨tm,h1,h2,_⟩:=h;have:=h2 hc;subst this;exact h1
def Ex.toExit (x:Value):Ex->Exit
 | .normal=> .normal
 | .exit id=> .exit id
 | .ret=> .ret
 | .panic _=> .panic (yP x)
section
theorem aT9 (hcall:lK P call)(hio:wY P io)(hpan:aQ4 P pan)(hpin:aQ5 P pin)(hl:cP (fE P I ops) ops.toList=some l)(hd:l.all (fun o=>o.dst.all (· <N))=true):
  ∀(k i:Nat) (st st':St) (e:Ex) (G:Gh) (a:Act) (w:World),i+k=ops.size->Rel P Ξ B S G st N a w->aDw n call io pan pin (l.drop i) st=some (e,st')->
   (∀a' w' G' x,e.val x->aMc P Ξ B S G' st' N e a' w'->Below B w w'->Q (e.toExit x) a' w')->wpOpsIn (Fx ro) m P ops Q (List.range' i k) a w:=by
 obtain⟨l1,l2⟩:=fH hl;intro k
 induction k with
 |zero=>
  intro i st st' e G a w hik hR hrun hQ;have:l.drop i=[]:=bTs.2 (by rw[l1];simp;omega)
  rw[this]at hrun;simp only[aDw,bQi,bQo]at hrun;obtain⟨rfl,rfl⟩:=hrun;exact hQ a w G undef trivial hR.e (Below.refl _ _)
 |succ k ih=>
  intro i st st' e G a w hik hR hrun hQ;have hi:i<ops.size:=by omega
  have hil:i<l.length:=by rw[l1];simpa using hi
  rw[bRt hil]at hrun;simp only[aDw]at hrun;rw[bTk,wpOpsIn_cons];unfold wpOpIn;rw[bQ4 hi];have hlow:=l2 i (by simpa using hi) hil
  simp only[bTf]at hlow
  split at hrun
  ·rename_i v st1 hp;simp only[bQi,bQo]at hrun;obtain⟨rfl,rfl⟩:=hrun;obtain⟨q1,q2⟩:=wG (ro:=ro) (m:=m) (next:=fun a w=>wpOpsIn (Fx ro) m P ops Q (List.range' (i+1) k) a w) (Q:=Q) hpan hpin hR hlow hp fun a' w' G' x h1 h2 h3=>hQ a' w' G' x h1 h2.e h3
   simp only[q1,if_true];exact q2
  ·split at hrun
   case h_2=>cases hrun
   rename_i st1 r hs;exact oU hcall hio hR hlow (bQp.1 hd _ (bQr hil)) hs fun a' w' G' h1 h2=>
    ih (i+1) st1 st' e G' a' w' (by omega) h1 hrun fun a'' w'' G'' x h3 h4 h5=>hQ a'' w'' G'' x h3 h4 (h2.trans h5)
end
theorem sO :(dB an j l).length=l.length:=by simp[dB]
theorem iD (hi:i<l.length):(dB an j l).getD i default=if behind an j i=true then aIu else if zJ an j l i=true then aGw (l.getD i default)else l.getD i default:=by
 simp[dB,bQn,hi]
theorem tC (hi:i<l.length)(hb: ¬behind an j i=true):((dB an j l).getD i default).dst=(l.getD i default).dst:=by
 rw[iD hi,if_neg hb];split<;>rfl
variable {d:Nat}
theorem aUa (hi:i<l.length)(hb: ¬behind an j i=true)(h:d∈((dB an j l).getD i default).uses):d∈(l.getD i default).uses:=by
 rw[iD hi,if_neg hb]at h
 split at h
 ·simp[aGw,aL.uses,LOp.opds,Opd.tmp]at h
 ·exact h
theorem aMx (hi:i<l.length)(hb: ¬behind an j i=true):
  (((dB an j l).getD i default).op.writesMem=true->(l.getD i default).op.writesMem=true)/\ (((dB an j l).getD i default).op.readsMem=true->(l.getD i default).op.readsMem=true):=by
 rw[iD hi,if_neg hb];split
 ·exact⟨fun h=>by simp[aGw,LOp.writesMem]at h,fun h=>by simp[aGw,LOp.readsMem]at h⟩
 ·exact⟨id,id⟩
theorem aCf (h:fS an l=some ps): ∃ps',fS an (dB an j l)=some ps'/\ ∀p∈ps',p∈ps:=by
 simp only[fS]at h⊢
 split at h
 case isFalse=>cases h
 rename_i hall;simp only[bQi]at h;rw[sO];have hc:((List.range l.length).all fun k=>(List.range l.length).all fun i=>i==k||
   (match((dB an j l).getD i default).dst with
    |some d=>((dB an j l).getD k default).dst !=some d&&(!((dB an j l).getD k default).uses.contains d||((an.getD k []).contains i||(an.getD i []).contains k))
    |none=>true))=true:=by
  rw[bQp];intro k hk;rw[bQp];intro i hi;have hk':=bRi.1 hk;have hi':=bRi.1 hi;have h0:=bQp.1 (bQp.1 hall k hk) i hi
  by_cases hik:(i==k)=true
  ·rw[hik];rfl
  ·simp only[hik,bRf]at h0⊢
   by_cases hbi:behind an j i=true
   ·rw[iD hi',if_pos hbi];rfl
   ·rw[tC hi' hbi];cases hd:(l.getD i default).dst with
    |none=>rfl
    |some d=>
     rw[hd]at h0
     simp only at h0⊢
     by_cases hbk:behind an j k=true
     ·rw[iD hk',if_pos hbk];have e1:aIu.dst=none:=rfl;have e2:aIu.uses=[]:=rfl;rw[e1,e2];simp
     ·rw[tC hk' hbk];rw[bQj]at h0⊢
      refine⟨h0.1,?_⟩
      have h1:=h0.2;rw[bRr]at h1⊢
      refine h1.imp (fun h2=>?_) id
      simp only[bRw,bSf,bT9]at h2⊢;exact fun h3=>h2 (aUa hk' hbk h3)
 refine⟨_,if_pos hc,fun p hp=>?_⟩
 rw[<-h];simp only[bRx,bRi,bRe,bR6,bQj]at hp⊢;obtain⟨k,hk,i,⟨hik,hord,hcond⟩,rfl⟩:=hp
 refine⟨k,hk,i,⟨hik,hord,?_⟩,rfl⟩
 have e1:aIu.op.writesMem=false:=rfl;have e2:aIu.op.readsMem=false:=rfl
 by_cases hbi:behind an j i=true
 ·rw[iD (i:=i) (by omega),if_pos hbi]at hcond
  simp[e1,e2]at hcond
 ·by_cases hbk:behind an j k=true
  ·rw[iD hk,if_pos hbk]at hcond;simp[e1,e2]at hcond
  ·have mi:=aMx (an:=an) (j:=j) (l:=l) (i:=i) (by omega) hbi
   have mk:=aMx (an:=an) (j:=j) (l:=l) hk hbk;simp only[bRr,bQj]at hcond⊢;exact hcond.imp (fun h=>⟨mi.1 h.1,h.2.imp mk.2 mk.1⟩) (fun h=>⟨mk.1 h.1,mi.2 h.2⟩)
theorem aAg {ps':List (Nat×Nat)}(h:dP rs ps=true)(hs: ∀p∈ps',p∈ps):dP rs ps'=true:=by
 simp only[dP,bQp]at h⊢;exact fun p hp=>h p (hs p hp)
variable {st2:St}
theorem sP {s:St}{o:aL}(h:dQ n pan pin st o=some (v,st2))(hen:s.en=st.en)(hcnt:s.cnt=st.cnt)(hfr: ∀t∈o.uses,s.fr t=st.fr t):
  dQ n pan pin s o=some (v,{fr:=s.fr,en:=st2.en,cnt:=st2.cnt})/\ st2.fr=st.fr:=by
 have hw:wanted s.fr o.guard=wanted st.fr o.guard:=by
  cases hg:o.guard with
  |none=>rfl
  |some p=>
   obtain⟨t,b⟩:=p;simp only[wanted];rw[hfr t (by simp[aL.uses,hg])]
 have hgt: ∀x∈o.op.opds,St.get s.fr x=St.get st.fr x:=by
  intro x hx;cases x with
  |t i=>exact hfr i (by simp only[aL.uses,bRb,bRx];exact .inl ⟨_,hx,by simp[Opd.tmp]⟩)
  |c v=>rfl
  |f i=>rfl
  |m tbl i=>simp only[St.get];rw[hfr i (by simp only[aL.uses,bRb,bRx];exact .inl ⟨_,hx,by simp[Opd.tmp]⟩)]
 simp only[dQ]at h⊢;rw[hw]
 split at h
 case h_2=>cases h
 split at h
 ·rename_i x hop;rw[hgt x (by simp[hop,LOp.opds])]
  split at h
  case h_2=>cases h
  split at h
  case isFalse=>cases h
  rename_i hfl;simp only[bQi,bQo]at h;obtain⟨rfl,rfl⟩:=h;rw[if_pos hfl];exact⟨by rw[<-hen,<-hcnt],by first|rfl|trivial⟩
 ·rename_i f args hop;rw[hgt f (by simp[hop,LOp.opds]),show args.map (St.get s.fr)=args.map (St.get st.fr)from bSx fun p hp=>hgt p (by simp[hop,LOp.opds,hp]),hen]
  split at h
  case h_2=>cases h
  split at h
  case h_2=>cases h
  rename_i hs;obtain⟨v',hv,he⟩:=bQw.1 h;simp only[bQo]at he;obtain⟨rfl,rfl⟩:=he;simp only[hs,hv,bRd];exact⟨by rw[<-hen,<-hcnt],by first|rfl|trivial⟩
 ·rename_i f args hop;rw[hgt f (by simp[hop,LOp.opds]),show args.map (St.get s.fr)=args.map (St.get st.fr)from bSx fun p hp=>hgt p (by simp[hop,LOp.opds,hp])]
  split at h
  case h_2=>cases h
  split at h
  case h_2=>cases h
  rename_i hs;simp only[bQi,bQo]at h;obtain⟨rfl,rfl⟩:=h;have e:({s with fr:=fun _=>Val.dead}:St)={st with fr:=fun _=>Val.dead}:=by rw[<-hen,<-hcnt]
  rw[e,hs];exact⟨rfl,rfl⟩
 ·cases h
theorem aBq {l:List aL}{r:Nat->Res}{L:Nat->Bool}{st:St}{t:Nat}: ∀(k:Nat),(∀i,i<k->(l.getD i default).dst≠some t)->(dN (fun k=>eK (l.getD k default) (r k)) L st k).fr t=st.fr t
 |0,_=>rfl
 |k+1,h=>by
  simp only[dN];split
  ·simp only[eK];rw[pH fun x hx e=>h k (by omega) (by rw[hx,e])]
   exact aBq k fun i hi=>h i (by omega)
  ·exact aBq k fun i hi=>h i (by omega)
variable {z:List Val}
theorem aG9 (h:dO P I op=some (.alloc z)): ∃t,op= .alloc t/\ iV P t=some z:=by
 cases op
 case alloc t=>
  simp only[dO,bQ6,bQx,bQ8,bQi,LOp.alloc.injEq]at h;obtain⟨z',h1,rfl⟩:=h;exact⟨t,rfl,h1⟩
 case binOp op t x y ty=>
  exfalso
  simp only[dO,bQ6,bQx]at h;obtain⟨e,_,h⟩:=h
  split at h
  ·split at h
   ·simp[bQx]at h
   ·cases h
  ·split at h<;>simp[bQx]at h
 all_goals (exfalso;simp only[dO]at h;(repeat' split at h)<;>first|contradiction|(simp[bQx,bQw]at h;done))
theorem aJh {o:Oper}
  (hR:Rel P Ξ B S G st N a w)     {r:Res} (hl:fE P I ops o=some lo) (hd:lo.dst.all (· <N)=true) (hlo:(lo.guard.isNone&&(match lo.op with| .alloc _=>true|_=>false))=true)
  (hs:step n call io 0 st (aGw lo)=some (st',r))     (k: ∀a' w' G',Rel P Ξ B S G' st' N a' w'->Below B w w'->next a' w'):
  if Region.wanted o (yielded ops a.tmps)=true then o.wpIn (Fx ro) m P a w next Q else(∀f,o.about P w a.eval=some f->(Fx ro).fn f)/\ next (a.put o.dst undef) w:=by
 simp only[fE,bQ6,bQx,bQ8,bQi]at hl;obtain⟨lop,hop,g,hg,rfl⟩:=hl;simp only[bQj,bTo]at hlo;obtain⟨rfl,hlo⟩:=hlo;have hex: ∃z,lop= .alloc z:=by cases lop<;>first|exact⟨_,rfl⟩|cases hlo
 obtain⟨z,rfl⟩:=hex;obtain⟨t,ho,hz⟩:=aG9 hop;have hw:wanted st.fr none=some true:=rfl;rw[pT hR hg hw,if_pos rfl];have hst:st'={st with fr:=gZ st.fr o.dst .dead}:=by
  simp[step,aGw,wanted,eval,St.get]at hs;exact hs.1.symm
 subst hst;obtain⟨i,v,hi,hz,hs,ho1,hv⟩:=tW (P:=P) (G:=G) (w:=w) (T:=aX B S G w.heap.size) hz
 refine⟨fun _ _=>trivial,?_⟩
 rw[pS (x:= .value (.pointer (some ⟨w.heap.size,0,none⟩))) (w':=w.alloc (.cells v.cells t)) (by simp[execOp,ho,Instr.alloc,iH hi hz,newVar,newRow]) (by simp)]
 have hR':Rel P Ξ B S G st N a (w.alloc (.cells v.cells t)):=hR.below ((Below.refl _ w).alloc (bQk _) _);exact k _ _ G (hR'.putO' o.dst (v:= .dead) (.dead _ rfl) hd) (pF hR _)
variable {G0:Gh}{a0:Act}{w0:World}
section
theorem aUb (hcall:lK P call)(hio:wY P io)(hpan:aQ4 P pan)(hpin:aQ5 P pin)(hl:cP (fE P I ops) ops.toList=some l)(hd:l.all (fun o=>o.dst.all (· <N))=true)(han:aQm ops=some an)
   (hps:fS an l=some ps)   {e:Ex}  (hj:j<l.length) (hrunP:vG n call io pan pin l an ps j st=some (e,st')) 
     (hR0:Rel P Ξ B S G0 st N a0 w0) (hQ: ∀a' w' G' x,e.val x->aMc P Ξ B S G' st' N e a' w'->Below B w0 w'->Q (e.toExit x) a' w'):
  wpAnyIn (Fx ro) m P .any ops Q ops.size (Array.replicate ops.size false) a0 w0:=by
 obtain⟨l1,l2⟩:=fH hl;have hN:l.length=ops.size:=by rw[l1];simp
 simp only[vG]at hrunP
 split at hrunP
 case h_2=>cases hrunP
 rename_i st1 rs hrun
 split at hrunP
 case isFalse=>cases hrunP
 rename_i hck;simp only[jV,bQj,bQp,bRi,bRr]at hck;obtain⟨hok,hstill⟩:=hck
 split at hrunP
 case h_2=>cases hrunP
 rename_i v st2 hpj;simp only[bQi,bQo]at hrunP;obtain⟨rfl,rfl⟩:=hrunP;obtain⟨ps',hps',hsub⟩:=aCf (j:=j) hps;have hok':=aAg hok hsub;obtain⟨hrl,s,hrun',hsn⟩:=tZ hrun;have hN':(dB an j l).length=ops.size:=by rw[sO,hN]
 rw[hN']at hrun' hsn;have hlt:=aIe han;have hw: ∀i,i<(dB an j l).length->(((dB an j l).getD i default).op.writesMem=false->(rs.getD i bW).quiet)/\ (((dB an j l).getD i default).op.readsMem=false->(rs.getD i bW).rs=[]):=
  fun i hi=>(rQ (hrun'.step i (by omega))).2.2
 have hfree: ∀i k,i<k->k<ops.size-> ¬i∈an.getD k []->aH2 ((dB an j l).getD i default) ((dB an j l).getD k default) (rs.getD i bW) (rs.getD k bW):=
  fun i k hik hk ho=>aIf hps' hok' hw (fun j i hj hi=>hlt j i (by omega) hi) hik (by omega) ho
 have hjN:j<ops.size:=by omega
 have atj: ∀(L:Nat->Bool),yO ops L->(∀k,k∈an.getD j []->L k=true)->(∀k,behind an j k=true->L k=false)->
   dQ n pan pin (dN (fun k=>eK ((dB an j l).getD k default) (rs.getD k bW)) L st ops.size) (l.getD j default)=
    some (v,{fr:=(dN (fun k=>eK ((dB an j l).getD k default) (rs.getD k bW)) L st ops.size).fr,en:=st2.en,cnt:=st2.cnt}):=by
  intro L hcl hanc hbeh;have hb: ∀k,k<ops.size->(rs.getD k bW).bump=true->((dB an j l).getD k default).dst.isSome=true:=fun k hk=>(rQ (hrun'.step k hk)).2.1
  have drop:=tY (E:=fun k=>eK ((dB an j l).getD k default) (rs.getD k bW)) (L:=fun _=>true) (s:=st) (n:=ops.size)
   (fun a b=>a.en=b.en/\ a.cnt=b.cnt/\ ∀t∈(l.getD j default).uses,a.fr t=b.fr t) (fun _=>⟨rfl,rfl,fun _ _=>rfl⟩) (fun a b c h k=>⟨h.1.trans k.1,h.2.1.trans k.2.1,fun t ht=>(h.2.2 t ht).trans (k.2.2 t ht)⟩) L ops.size (bQk _) (fun k hk _ hLk=>by
    refine⟨fun s=>?_,fun k2 hk2 hk2N _ hLk2 s=>?_⟩
    ·by_cases hbk:behind an j k=true
     ·have hst:=hrun'.step k hk;rw[iD (by omega),if_pos hbk]at hst
      have hr:rs.getD k bW={v:= .nilp}:=by
       simp only[aIu,step,wanted,eval,St.get,bQi,bQo]at hst
       simp at hst
       exact hst.2.symm
      rw[iD (by omega),if_pos hbk,hr]
      exact⟨rfl,rfl,fun _ _=>rfl⟩
     ·have hnot: ¬k∈an.getD j []:=fun h=>by rw[hanc k h]at hLk;cases hLk
      have h0:=hstill k (by omega)
      simp only[hbk,bQm,false_or,bSf,bT8,hnot]at h0
      split at h0
      case h_2=>cases h0
      rename_i r hr;have hr':rs.getD k bW=r:=by simp[bQn,hr]
      rw[hr'];simp only[Res.still,bQj,bTn,bRw,bTo]at h0;obtain⟨⟨q1,q2⟩,q3⟩:=h0
      refine⟨by simp only[eK,q3,q1,W.applyAll,bS4],by simp only[eK,q3,q2,bQm,if_false],fun t ht=>?_⟩
      simp only[eK];rw[tC (by omega) hbk]
      refine pH fun d hd he=>?_
      subst he;simp only[fS]at hps
      split at hps
      case isFalse=>cases hps
      rename_i hall;have hkj:k≠j:=fun e=>hbk (by simp[behind,e])
      have:=bQp.1 (bQp.1 hall j (bRi.2 (by omega))) k (bRi.2 (by omega))
      simp only[bRr,beq_iff_eq,hkj,false_or,hd]at this;simp only[bQj,bne_iff_ne,ne_eq,bRr,bRw,bSf,bT8,bT9]at this;rcases this.2 with h1|h1|h1
      ·exact h1 ht
      ·exact hnot h1
      ·exact hbk (by simp only[behind,bSf,bRr,bT8];exact .inr h1)
    ·have ho: ¬k∈an.getD k2 []:=fun h=>by
      have:=gP han hcl k2 _ (bQ4 hk2N) (hcl k2 _ (bQ4 hk2N) hLk2) k h;rw[this]at hLk;cases hLk
     exact(hfree k k2 hk2 hk2N ho).comm (hb k (by omega)) (hb k2 hk2N) s)
  have e1:dN (fun k=>eK ((dB an j l).getD k default) (rs.getD k bW)) (fun k=>true&&(L k||decide (k<ops.size))) st ops.size=st1:=by
   rw[cH (L':=fun _=>true) fun i hi=>by simp[hi],<-hrun'.fold _ (bQk _),hsn]
  have e2:dN (fun k=>eK ((dB an j l).getD k default) (rs.getD k bW)) (fun k=>true&&L k) st ops.size=dN (fun k=>eK ((dB an j l).getD k default) (rs.getD k bW)) L st ops.size:=by
   exact cH fun i _=>by simp
  rw[e1,e2]at drop;exact(sP hpj drop.1.symm drop.2.1.symm fun t ht=>(drop.2.2 t ht).symm).1
 have main: ∀(fuel:Nat) (listed:Array Bool) (G:Gh) (a:Act) (w:World),listed.size=ops.size->(List.range ops.size).countP (fun i=>!listed.getD i false)<=fuel->yO ops (fun i=>listed.getD i false)->(∀k,k<ops.size->behind an j k=true->listed.getD k false=false)->
   Rel P Ξ B S G (dN (fun k=>eK ((dB an j l).getD k default) (rs.getD k bW)) (fun i=>listed.getD i false) st ops.size) N a w->Below B w0 w->
   wpAnyIn (Fx ro) m P .any ops Q fuel listed a w:=by
  have jready: ∀(listed:Array Bool),listed.size=ops.size->listed.getD j false=false->Region.ready .any ops listed≠[]:=by
   intro listed hsz hb hr;have: ∀i,i<ops.size->listed.getD i false=true:=by
    intro i
    induction i using Nat.strongRecOn with
    |ind i ih=>
     intro hi;cases hb:listed.getD i false with
     |true=>rfl
     |false=>
      exfalso
      have hm:i∈Region.ready .any ops listed:=by
       rw[mem_ready]
       refine⟨?_,ops[i],bQ4 hi,fun e he hbd=>?_⟩
       ·rw[bQy,bQ4 (by omega)]at hb⊢;simpa using hb
       ·have hk:e.on∈lL ops[i]:=bRe.2 ⟨e,bR6.2 ⟨by simpa using he,hbd⟩,rfl⟩
        have:=(tB han (bQ4 hi)).1 _ hk;exact ih _ this (by omega)
      rw[hr]at hm;simp at hm
   rw[this j hjN]at hb;cases hb
  intro fuel
  induction fuel with
  |zero=>
   intro listed G a w hsz hc hcl hbeh hR hB
   exfalso
   have hb:=hbeh j hjN (by simp[behind])
   have:=bT1 (p:=fun i=>!listed.getD i false) (l:=List.range ops.size)|>.2 ⟨j,bRi.2 hjN,by simp only[hb];rfl⟩
   omega
  |succ fuel ih=>
   intro listed G a w hsz hc hcl hbeh hR hB
   refine⟨fun hr=>absurd hr (jready listed hsz (hbeh j hjN (by simp[behind]))),fun i hm=>?_⟩
   obtain⟨h0,o,ho,hready⟩:=mem_ready.1 hm;have hi:=(bSd.1 ho).1;have hoi:o=ops[i]:=by rw[bQ4 hi,bQi]at ho;exact ho.symm
   have hb:listed.getD i false=false:=by
    rw[bQy,bQ4 (by omega)]at h0⊢;simpa using h0
   have hdir: ∀k∈lL o,listed.getD k false=true:=by
    intro k hk;obtain⟨e,he,rfl⟩:=bRe.1 hk;obtain⟨he1,he2⟩:=bR6.1 he;exact hready e (by simpa using he1) he2
   have hanci: ∀k∈an.getD i [],listed.getD k false=true:=fun k hk=>gP han hcl i o ho hdir k hk
   have hil:i<l.length:=by omega
   have hlow:=l2 i (by simpa using hi) hil
   simp only[bTf]at hlow;have hli:l.getD i default=l[i]:=by simp[bQn,hil]
   unfold wpOpIn;rw[bQ4 hi]
   by_cases hij:i=j
   ·subst hij;have hp:=atj (fun i=>listed.getD i false) hcl hanci (fun k hk=>by
     by_cases hkN:k<ops.size
     ·exact hbeh k hkN hk
     ·rw[bQy,Array.getElem?_eq_none (by omega)];rfl)
    rw[hli]at hp;obtain⟨q1,q2⟩:=wG (ops:=ops) (ro:=ro) (m:=m) (next:=fun a w=>wpAnyIn (Fx ro) m P .any ops Q fuel (listed.setIfInBounds i true) a w) (Q:=Q) hpan hpin hR hlow hp fun a' w' G' x h1 h2 h3=>by
     refine hQ a' w' G' x h1 ?_ (hB.trans h3)
     have hfr:st2.fr=st1.fr:=(sP hpj rfl rfl fun _ _=>rfl).2
     refine⟨a'.tmps.mapIdx fun t y=>if mZ l t then undef else y,?_,fun h=>(by cases h),fun t ht=>?_⟩
     ·refine⟨h2.size,by simpa using h2.tmps,fun t=>?_,h2.marks,h2.ents,h2.freshEn,h2.freshG,h2.own,h2.extra,h2.round,h2.defs,h2.virt⟩
      have hfrm:=h2.frame t
      simp only at hfrm⊢
      by_cases hdt:mZ l t=true
      ·rw[if_pos hdt];have:(a'.tmps.mapIdx fun t y=>if mZ l t then undef else y).getD t undef=undef:=by
        simp only[bQy,bTt];cases a'.tmps[t]? with
        |none=>rfl
        |some y=>simp[hdt]
       rw[this];exact .tup [] #[] rfl (fun i hi=>by simp at hi)
      ·rw[if_neg hdt];have e1:(a'.tmps.mapIdx fun t y=>if mZ l t then undef else y).getD t undef=a'.tmps.getD t undef:=by
        simp only[bQy,bTt];cases a'.tmps[t]? with
        |none=>rfl
        |some y=>simp[hdt]
       have hne: ∀k,k<ops.size->((dB an i l).getD k default).dst≠some t:=by
        intro k hk he
        by_cases hbk:behind an i k=true
        ·rw[iD (by omega),if_pos hbk]at he
         cases he
        ·rw[tC (by omega) hbk]at he
         refine hdt ?_
         simp only[mZ,bTg,beq_iff_eq];exact⟨l[k],bQr (by omega),by simpa[bQn,show k<l.length by omega]using he⟩
       rw[aBq (r:=fun k=>rs.getD k bW) ops.size hne]at hfrm
       have e2:st2.fr t=st.fr t:=by
        rw[hfr,<-hsn,hrun'.fold _ (bQk _)];exact aBq (r:=fun k=>rs.getD k bW) ops.size hne
       rw[e1,e2];exact hfrm
     ·simp only at ht
      split at ht
      ·cases ht
      ·rename_i hdt;simp only[bQy,bTt];cases a'.tmps[t]? with
       |none=>rfl
       |some y=>simp[hdt]
    simp only[q1,if_true];exact q2
   ·have hbi: ¬behind an j i=true:=fun h=>by
     simp only[behind,bSf,bRr,beq_iff_eq,bT8]at h;rcases h with h|h
     ·exact hij h
     ·have:=hanci j h;rw[hbeh j hjN (by simp[behind])]at this;cases this
    have hst:=aBp hrun' (ord:=fun i j=>j<ops.size/\ i∈an.getD j []) (fun i j h=>hlt j i h.1 h.2) (fun i j hij hj ho=>hfree i j hij hj fun h=>ho ⟨hj,h⟩) (L:=fun i=>listed.getD i false)
     (fun j hj hLj i hord=>gP han hcl j _ (bQ4 hj) (hcl j _ (bQ4 hj) hLj) i hord.2) hi hb
     (fun k hk=>hanci k hk.2)
    rw[iD hil,if_neg hbi,hli]at hst;have hset: ∀k,(listed.setIfInBounds i true).getD k false=(k==i||listed.getD k false):=by
     intro k
     by_cases hk:k=i
     ·subst hk;simp[show k<listed.size by omega]
     ·rw[getD_set_ne false fun e=>hk e.symm]
      have:(k==i)=false:=by simpa using hk
      rw[this,bRf]
    have go: ∀a' w' G',Rel P Ξ B S G' (dN (fun k=>eK ((dB an j l).getD k default) (rs.getD k bW)) (fun k=>k==i||listed.getD k false) st ops.size) N a' w'->Below B w w'->wpAnyIn (Fx ro) m P .any ops Q fuel (listed.setIfInBounds i true) a' w':=by
     intro a' w' G' h1 h2
     refine ih _ G' a' w' (by simpa using hsz) ?_ ?_ ?_ ?_ (hB.trans h2)
     ·have:=uA (fun i=>!listed.getD i false) (fun k=>!(listed.setIfInBounds i true).getD k false) i (by simp only[hb];rfl) (by simp only[hset];simp) (fun k hk=>by
       simp only[hset];have:(k==i)=false:=by simpa using hk
       rw[this,bRf]) ops.size hi
      omega
     ·intro j oj hoj hLj k hk;simp only[hset]at hLj⊢
      by_cases hj:j=i
      ·subst hj;rw[ho,bQi]at hoj;subst hoj;rw[hdir k hk,bSj]
      ·have:(j==i)=false:=by simpa using hj
       rw[this,bRf]at hLj;have h5:listed.getD k false=true:=hcl j oj hoj hLj k hk;rw[h5,bSj]
     ·intro k hkN hk;rw[hset];have:(k==i)=false:=by
       simp only[beq_eq_false_iff_ne,ne_eq]
       rintro rfl
       exact hbi hk
      rw[this,bRf];exact hbeh k hkN hk
     ·rw[cH (L':=fun k=>k==i||listed.getD k false) fun k _=>hset k]
      exact h1
    by_cases hlo:zJ an j l i=true
    ·rw[if_pos hlo]at hst;exact aJh hR hlow (bQp.1 hd _ (bQr hil)) (by simp only[zJ,bQj,hli]at hlo⊢;exact⟨hlo.1.2,hlo.2⟩) hst go
    ·rw[if_neg hlo]at hst;exact oU hcall hio hR hlow (bQp.1 hd _ (bQr hil)) hst go
 refine main ops.size (Array.replicate ops.size false) G0 a0 w0 (by simp) (bQv bTu (by simp)) ?_ ?_ ?_ (Below.refl _ _)
 ·intro j o ho hL;simp[bSg]at hL
  split at hL<;>simp at hL
 ·intro k hk _;simp[bQy,bSg,hk]
 ·rw[cH (L':=fun _=>false) fun i _=>by simp[bSg];split<;>simp]
  have: ∀(k:Nat),dN (fun k=>eK ((dB an j l).getD k default) (rs.getD k bW)) (fun _=>false) st k=st:=by
   intro k;induction k with
   |zero=>rfl
   |succ k ih=>simp only[dN,bQm,if_false];exact ih
  rw[this];exact hR0
end
theorem aJi {n:Nat}{call:bD}{io:Inl}{pan:bD}{pin:Nat->List Val->St->Option (Val×St)}: ∀(l:List aL) {i j:Nat} {st:St},pP n call io pan pin l i st=some j->j<i+l.length
 |[],_,_,_,h=>by cases h
 |o::l,i,j,st,h=>by
  simp only[pP]at h
  split at h
  ·simp only[bQi]at h;subst h;simp only[bQu];omega
  ·split at h
   case h_2=>cases h
   have:=aJi l h;simp only[bQu];omega
def wH (P:Program)(L:bG)(n:Nat):Prop:= ∀(I:Operand->Bool) (N:Nat) (c:Code) (st:St) (e:Ex) (st':St) (Ξ:Env) (B:Nat) (S:Nat->Nat->Prop) (G:Gh) (a:Act) (w:World) (Q:Exit->Act->World->Prop) (m:Nat),
 (cB P I c).dstOk N=true->(Ξ.nm=true->(cB P I c).noRg=true)->Rel P Ξ B S G st N a w->exec L n (cB P I c) st=some (e,st')->(∀a' w' G' x,e.val x->aMc P Ξ B S G' st' N e a' w'->Below B w w'->Q (e.toExit x) a' w')->c.wpIn (Fx Ξ.ro) m P Q a w
theorem aXm (hR:Rel P Ξ B S G st N a w){rv:ResultVar}{lr:aW5}(hl:aCy P rv=some lr)(hv:oP st lr=some v):
  ∃x,(match rv with
   | .tmp t=>(pure (a.tmps.getD t undef):Sem Value)
   | .cell c t=>do loadVar t (<-asAddr (a.tmps.getD c undef))).run P w= .ok x w/\ VR (aX B S G w.heap.size) G w v x:=by
 cases rv with
 |tmp t=>
  simp only[aCy,bQi]at hl;subst hl;simp only[oP,bQi]at hv;subst hv;exact⟨_,rfl,hR.frame t⟩
 |cell c t=>
  simp only[aCy]at hl
  split at hl
  case isFalse=>cases hl
  rename_i hu;simp only[bQi]at hl;subst hl;simp only[oP]at hv
  split at hv
  case h_2=>cases hv
  rename_i cs rs hr;obtain⟨b,off,hx,hlen,hc⟩:=aI5 hR (hR.frame c) hr;obtain⟨x,h1,h2⟩:=aAd hu rfl hlen hc hv
  refine⟨x,?_,h2⟩
  simp only[hx,asAddr,Sem.run_bind,Sem.run_pure,Result.andThen_ok,h1]
theorem aJj {P:Program}{Ξ:Env}{B:Nat}{S:Nat->Nat->Prop}{G:Gh}{st:St}{N:Nat}{a:Act}{w:World}(hR:Rel P Ξ B S G st N a w): ∀(rvs:List ResultVar) (lrs:List aW5) (vs:List Val),
  cP (aCy P) rvs=some lrs->cP (oP st) lrs=some vs->
  ∃xs:List Value,(rvs.mapM fun(rv:ResultVar)=>(match rv with
   | .tmp t=>(pure (a.tmps.getD t undef):Sem Value)
   | .cell c t=>do loadVar t (<-asAddr (a.tmps.getD c undef)))).run P w= .ok xs w/\ xs.length=vs.length/\ ∀i,i<vs.length->VR (aX B S G w.heap.size) G w (vs.getD i .dead) (xs.getD i undef)
 |[],lrs,vs,h1,h2=>by
  simp only[cP,bQi]at h1;subst h1;simp only[cP,bQi]at h2;subst h2;exact⟨[],rfl,rfl,fun i hi=>by simp at hi⟩
 |rv::rvs,lrs,vs,h1,h2=>by
  simp only[cP]at h1
  split at h1
  case h_2=>cases h1
  rename_i lr hl
  split at h1
  case h_2=>cases h1
  rename_i lrs' hls;simp only[bQi]at h1;subst h1;simp only[cP]at h2
  split at h2
  case h_2=>cases h2
  rename_i v hv
  split at h2
  case h_2=>cases h2
  rename_i vs' hvs;simp only[bQi]at h2;subst h2;obtain⟨x,e1,e2⟩:=aXm hR hl hv;obtain⟨xs,f1,f2,f3⟩:=aJj hR rvs lrs' vs' hls hvs
  refine⟨x::xs,?_,by simp[f2],fun i hi=>?_⟩
  ·rw[List.mapM_cons,Sem.run_bind,e1,Result.andThen_ok,Sem.run_bind,f1,Result.andThen_ok];rfl
  ·match i with
   |0=>simpa using e2
   |i+1=>simpa using f3 i (by simpa using hi)
variable {fn:Func}
theorem wI (hR:Rel P Ξ B S G st N a w){lrs:List aW5}{vs:List Val}
  (h1:cP (aCy P) fn.results.toList=some lrs) (h2:cP (oP st) lrs=some vs): ∃x,(results fn a.tmps).run P w= .ok x w/\ VR (aX B S G w.heap.size) G w (zI vs) x:=by
 obtain⟨xs,hrun,hxl,hxv⟩:=aJj hR fn.results.toList lrs vs h1 h2
 refine⟨if h:xs.length=1 then xs[0]else .tuple xs.toArray,?_,?_⟩
 ·have:(fn.results.mapM fun(rv:ResultVar)=>(match rv with
   | .tmp t=>(pure (a.tmps.getD t undef):Sem Value)
   | .cell c t=>do loadVar t (<-asAddr (a.tmps.getD c undef)))).run P w= .ok xs.toArray w:=by
   rw[bT5,Sem.run_map,hrun];rfl
  simp only[results,Sem.run_bind]
  refine Eq.trans (congrArg (fun z=>Result.andThen z _) this) ?_
  simp
 ·unfold zI;split
  ·rename_i v1;have h1:xs.length=1:=by simpa using hxl
   rw[dif_pos h1];have:=hxv 0 (by simp)
   simpa[bQn,h1]using this
  ·rename_i hne;have h1: ¬xs.length=1:=by
    rw[hxl];intro h1
    match vs,h1 with
    |[v1],_=>exact hne v1 rfl
   rw[dif_neg h1];exact .tup vs xs.toArray (by simp[hxl]) fun i hi=>by
    have:=hxv i hi
    simpa[bQn,bQy]using this
def lM (w:World):List Nat->World
 |[]=>w
 |D::Ds=>lM (kJ w D (.deferred none)) Ds
theorem aBr (w:World): ∀Ds,(lM w Ds).heap.size=w.heap.size
 |[]=>rfl
 |D::Ds=>by rw[lM,aBr _ Ds,nS]
theorem yQ : ∀(Ds:List Nat) (w:World) {b:Nat},b∉Ds->(lM w Ds).heap[b]?=w.heap[b]?
 |[],_,_,_=>rfl
 |D::Ds,w,b,h=>by
  simp only[bRm,not_or]at h;rw[lM,yQ Ds _ h.2,fB _ h.1]
theorem yR {B:Nat}: ∀(Ds:List Nat) (w:World),(∀D∈Ds,B<=D)->Below B w (lM w Ds)
 |[],w,_=>Below.refl _ _
 |D::Ds,w,h=>(tA (w:=w) (h D (by simp))).trans (yR Ds _ fun D' hD'=>h D' (by simp[hD']))
theorem aHa (w:World)(D:Nat)(o:Obj):w.putObj D o=kJ w D o:=rfl
theorem nX {F:Fence}{n:Nat}{P:Program}{fn:Func}{tmps:Array Value}{R:Ending->World->Prop}{u:FrameMode}(hu:u≠ .run){tl:List Deferred}: ∀(Ds:List Nat) (w:World),Ds.Nodup->(∀D∈Ds,w.heap[D]?=some (.deferred (some [])))->
  LeavesInM F n P fn tmps R tl u (lM w Ds)->LeavesInM F n P fn tmps R (Ds.map mark++tl) u w
 |[],w,_,_,h=>h
 |D::Ds,w,hn,hD,h=>by
  rw[List.nodup_cons]at hn
  refine⟨hu,.inl ⟨D,_,rfl,run_takeDeferred (hD D (by simp)),?_⟩⟩
  rw[aHa]
  refine nX hu Ds _ hn.2 (fun D' hD'=>?_) h
  have hne:D'≠D:=by rintro rfl;exact hn.1 hD'
  rw[fB _ hne];exact hD D' (by simp[hD'])
theorem Rel.shut (hR:Rel P Ξ B S G st N a w):
  ∃Ds:List Nat,a.defers=Ds.map mark++Ξ.tail/\ Ds.Nodup/\ (∀D∈Ds,w.heap[D]?=some (.deferred (some [])))/\ (∀D∈Ds,B<=D)/\ (Ξ.nm=true->Ds=[])/\ Rel P Ξ B S G st N {a with defers:=Ξ.tail} (lM w Ds):=by
 obtain⟨Ds,h1,⟨h2,h2'⟩,h3⟩:=hR.marks;have hoth: ∀{b:Nat} {o:Obj},w.heap[b]?=some o->o≠ .deferred (some [])->(lM w Ds).heap[b]?=some o:=by
  intro b o ho hne;rw[yQ Ds w fun hb=>hne (by rw[(h3 b hb).2.2]at ho;exact(Option.some.inj ho).symm)];exact ho
 have hcell: ∀{b q:Nat} {c:Value},w.cell? ⟨b,q,.none⟩=some c->(lM w Ds).cell? ⟨b,q,.none⟩=some c:=by
  intro b q c hc
  by_cases hb:b∈Ds
  ·simp only[World.cell?,(h3 b hb).2.2]at hc;cases hc
  ·rw[pR (yQ Ds w hb)];exact hc
 have m:zL (aX B S G w.heap.size) G w (aX B S G (lM w Ds).heap.size) G (lM w Ds):=
  ⟨fun b q h=>by rw[aBr];exact h,G.le_refl,fun b q c _ h=>hcell h,fun r es cl _ h=>hoth h (by simp)⟩
 refine⟨Ds,h1,h2,fun D hD=>(h3 D hD).2.2,fun D hD=>(h3 D hD).1,h2',?_⟩
 refine hR.change4 (a':={a with defers:=Ξ.tail}) (G':=G) (en':=st.en) (cnt':=st.cnt) rfl m (by rw[aBr];exact bQk _) (fun k e he hkn=>?_) (fun k hk=>⟨hR.freshEn k hk,hR.freshG k hk⟩) (fun b k t hb=>by rw[aBr];exact hR.own b k t hb)
  (fun _ _ h=>h) ⟨[],rfl,⟨List.nodup_nil,fun _=>rfl⟩,fun D hD=>by simp at hD⟩ (fun l hl=>let ⟨r,hr⟩:=hR.round l hl;⟨r,hoth hr (by simp)⟩) (fun D hD=>?_) hR.virt
 ·have hE:=hR.ents k e he hkn;cases hE with
  |box cs frz b c t hb hB h hs ho hv hown=>exact .box cs frz b c t hb hB (hoth h (by simp)) hs ho (fun j hj=>(hv j hj).mono4 m) hown
  |nul sz frz h=>exact .nul sz frz h
  |blk xs frz b base sz C thr c t hb hB h hC hC' hs ho hv hown hthr=>exact .blk xs frz b base sz C thr c t hb hB (hoth h (by simp)) hC hC' hs ho (fun i j hi hj=>(hv i j hi hj).mono4 (m.at k)) hown hthr
  |full xs b base sz c hb hs h ht ho hv=>exact .full xs b base sz c hb hs (fun i j hi hj=>hcell (h i j hi hj)) (fun i j hi hj=>m.t _ _ (ht i j hi hj)) ho (fun i j hi hj=>(hv i j hi hj).mono4 m.none)
  |map ks vs frz r es clock hr hB h hk hl hkv hvv hown=>exact .map ks vs frz r es clock hr hB (hoth h (by simp)) hk hl (fun i hi=>(hkv i hi).mono4 m.none) (fun i hi=>(hvv i hi).mono4 m.none) hown
  |loop fr ps la lb s l rec I N' hl hB h hps ha hb hN hpN haN hbN hf hst hown=>exact .loop fr ps la lb s l rec I N' hl hB (hoth h (by simp)) hps ha hb hN hpN haN hbN (fun i=>(hf i).mono4 m) hst hown
  |iter s pos r hr hB h hown=>exact .iter s pos r hr hB (hoth h (by simp)) hown
 ·rw[yQ Ds w fun h=>(h3 D h).2.1 hD];exact hR.defs D hD
variable {lf:jC}
theorem wZ {keep amb:Bool}(h:nR P I keep amb fn=some lf):
  ∃c,fn.body=some c∧aD1 P I (aD0 fn.results.toList) c=some lf.body∧lf.body.dstOk fn.ntmps=true∧lf.np≤fn.ntmps∧(fn.name== "runtime.NumGoroutine")=false∧cP (aCy P) fn.results.toList=some lf.res:=by
 simp only[nR]at h
 split at h
 ·cases h
 rename_i c hbody
 split at h
 ·cases h
 rename_i lc hlc
 split at h
 case isFalse=>cases h
 rename_i hck;simp only[bQj,bT8,bne_iff_ne,ne_eq]at hck;obtain⟨lres,hres,rfl⟩:=bQw.1 h;exact⟨c,hbody,hlc,hck.1.1,hck.1.2,by simpa using hck.2,hres⟩
def pU (P:Program)(L:bG):Prop:= ∀f lf,L f=some lf-> ∃fn I keep amb,P.funcs[f]?=some fn/\ nR P I keep amb fn=some lf
def act0 (fn:Func)(vals:Array Value):Act:={tmps:=vals++Array.replicate (fn.ntmps-vals.size) undef,defers:=[]}
def Ex.fin (P:Program)(fn:Func)(a:Act)(w:World)(R:Ending->World->Prop)(x:Value):Ex->Prop
 | .normal| .ret=> ∃y,(results fn a.tmps).run P w= .ok y w/\ R (.returned y) w
 | .panic _=>R (.panicked (yP x)) w
 | .exit _=>False
def aF0 (P:Program)(L:bG)(n:Nat):Prop:= ∀(f:Nat) (fn:Func) (lf:jC) (I:Operand->Bool) (keep amb:Bool) (e:Ex) (st0 st':St) (Ξ:Env) (B:Nat) (S:Nat->Nat->Prop) (G:Gh) (vals:Array Value) (w:World) (R:Ending->World->Prop),
 P.funcs[f]?=some fn->nR P I keep amb fn=some lf->exec L n lf.body st0=some (e,st')->Ξ.ro=none->Ξ.tail=[]->Ξ.nm=false->Rel P Ξ B S G st0 fn.ntmps (act0 fn vals) w->
 (∀a1 w1 G1 x,e.val x->a1.defers=[]->Rel P Ξ B S G1 st' fn.ntmps a1 w1->Below B w w1->e.fin P fn a1 w1 R x)->Calls P f vals w R
variable {G1:Gh}{a1:Act}{w1:World}
theorem aBs {e:Ex}{R:Ending->World->Prop}{x:Value}(ht:Ξ.tail=[])(hx:e.val x)(hR1:aMc P Ξ B S G1 st' fn.ntmps e a1 w1)(hb:Below B w w1)
  (k: ∀a1 w1 G1 x,e.val x->a1.defers=[]->Rel P Ξ B S G1 st' fn.ntmps a1 w1->Below B w w1->e.fin P fn a1 w1 R x):bodyPostM Fence.wide m P fn R (e.toExit x) a1 w1:=by
 obtain⟨tm,hR1,htm,_⟩:=hR1;obtain⟨Ds,q1,q2,q3,q4,_,hR⟩:=hR1.shut;have hk:=k _ _ _ x hx ht hR (hb.trans (yR Ds w1 q4))
 replace q1:a1.defers=Ds.map mark++Ξ.tail:=q1
 cases e with
 |normal=>
  simp only[bodyPostM,Ex.toExit];rw[q1,ht];have:=htm rfl;subst this;exact nX (by simp) Ds w1 q2 q3 hk
 |exit id=>exact hk.elim
 |ret=>
  simp only[bodyPostM,Ex.toExit];rw[q1,ht];have:=htm rfl;subst this;exact nX (by simp) Ds w1 q2 q3 hk
 |panic v=>
  simp only[bodyPostM,Ex.toExit];rw[q1,ht];exact nX (by simp) Ds w1 q2 q3 hk
variable {args:List Val}{vals:Array Value}
theorem aMy (hS: ∀b o,S b o->b<w.heap.size)(hgl:tT S w)(hvl:vals.size=args.length)(hnp:args.length<=fn.ntmps)
  (hv: ∀i,i<args.length->VR S Gh.none w (args.getD i .dead) (vals.getD i undef)):Rel P {prs:=fun _ _=>False,ro:=none,rnd:=fun _=>False,defs:=fun _=>False} w.heap.size S Gh.none (start args) fn.ntmps (act0 fn vals) w:=by
 unfold act0
 refine⟨bQk _,by simp;omega,fun i=>?_,⟨[],rfl,⟨List.nodup_nil,fun _=>rfl⟩,fun D hD=>by simp at hD⟩,fun k e hk=>by simp[start]at hk,fun _ _=>rfl,fun _ _=>⟨rfl,rfl,rfl⟩,fun b k t hb=>by simp[Gh.none]at hb,fun v x h=>(hgl.mono (fun b o h=>⟨hS b o h,.inl ⟨hS b o h,h⟩⟩)) v x (h.resolve_left id),
  fun l hl=>by rcases hl with h|h;cases h;exact h.elim,fun _ h=>h.elim,fun _ h=>h.elim⟩
 simp only[start]
 by_cases hi:i<args.length
 ·have h1:=(hv i hi).mono4 (T':=aX w.heap.size S Gh.none w.heap.size) (G':=Gh.none) (w':=w) ⟨fun b o h=>⟨hS b o h,.inl ⟨hS b o h,h⟩⟩,Gh.le_refl _,fun _ _ _ _ h=>h,fun _ _ _ _ h=>h⟩
  have e1:args.getD i (.tup [])=args.getD i .dead:=by simp[bQn,hi]
  have e2:(vals++Array.replicate (fn.ntmps-vals.size) undef).getD i undef=vals.getD i undef:=by
   simp only[bQy];rw[Array.getElem?_append_left (by omega)]
  rw[e1,e2];exact h1
 ·have e1:args.getD i (.tup [])= .tup []:=by simp[bQn,List.getElem?_eq_none (Nat.le_of_not_lt hi)]
  have e2:(vals++Array.replicate (fn.ntmps-vals.size) undef).getD i undef=undef:=by
   simp only[bQy];rw[Array.getElem?_append_right (by omega)]
   simp only[bSg];split<;>rfl
  rw[e1,e2];exact .tup [] #[] rfl (fun i hi=>by simp at hi)
variable {r:Val}
theorem aF1 {L:bG}(hL:pU P L){k:Nat}(ih:aF0 P L n)(hlf:L f=some lf)(hlen:args.length=lf.np)(h:iS lf k (exec L n) args=some r):
  (∃fn,P.funcs[f]?=some fn∧(fn.name== "runtime.NumGoroutine")=false∧fn.body.isNone=false)∧
  ∀(S:Nat->Nat->Prop) (w:World) (vals:Array Value),(∀b o,S b o->b<w.heap.size)->tT S w->vals.size=args.length->(∀i,i<args.length->VR S Gh.none w (args.getD i .dead) (vals.getD i undef))->
   Calls P f vals w fun e w'=> ∃v,e= .returned v/\ Below w.heap.size w w'/\ aL7 w.heap.size (aD9 w S w') w' r v:=by
 obtain⟨fn,I,keep,amb,hfn,hlow⟩:=hL f lf hlf;obtain⟨c,hbody,hlb,hdst,hnp,hname,hres⟩:=wZ hlow;simp only[iS]at h
 split at h
 case h_2=>cases h
 rename_i e st hx
 split at h
 case isFalse=>cases h
 rename_i hends
 refine⟨⟨fn,hfn,hname,by rw[hbody];rfl⟩,fun S w vals hS hgl hvl hv=>?_⟩
 let Ξ:Env:={prs:=fun _ _=>False,ro:=none,rnd:=fun _=>False,defs:=fun _=>False}
 have hR0:=aMy (P:=P) (fn:=fn) hS hgl hvl (by omega) hv
 refine ih f fn lf I keep amb e (start args) st Ξ w.heap.size S Gh.none vals w _ hfn hlow hx rfl rfl rfl hR0 fun a1 w1 G1 x1 _ _ hR hbl=>?_
 simp only[aDu]at h
 split at h
 case h_2=>cases h
 rename_i vs hvs;obtain⟨x,hrun,hval⟩:=wI hR hres hvs;have ends:aL7 w.heap.size (aD9 w S w1) w1 r x->e.fin P fn a1 w1 (fun e w'=> ∃v,e= .returned v/\ Below w.heap.size w w'/\ aL7 w.heap.size (aD9 w S w') w' r v) x1:=by
  intro hr;cases e with
  |normal=>exact⟨x,hrun,x,rfl,hbl,hr⟩
  |exit id=>cases hends
  |ret=>exact⟨x,hrun,x,rfl,hbl,hr⟩
  |panic v=>cases hends
 split at h
 ·rename_i r' hown;simp only[bQi]at h;subst h
  split at hown
  case isFalse=>cases hown
  have hor:aL7 w.heap.size (aD9 w S w1) w1 r' x:=by
   unfold aVu at hown
   split at hown
   case h_2=>cases hown
   rename_i key n htv
   split at hown
   case h_2=>cases hown
   rename_i sz xs hk
   split at hown
   case isFalse=>cases hown
   rename_i hn;obtain⟨hn,hdp⟩:=hn;simp only[bQi]at hown;subst hown;rw[htv]at hval;have hE:=hR.ents key _ hk hval.knows_bl;cases hval with
   |bl0 _ p hb=>
    cases hE with
    |nul _ _ _=>exact .inl ⟨rfl,p,rfl⟩
    |blk _ _ b base sz C thr c t hb1=>rw[hb]at hb1;cases hb1
   |ble _ p b base sz C hb=>
    rename_i hx0;cases hE with
    |nul _ _ hb1=>rw[hb]at hb1;cases hb1
    |blk _ _ b base sz C' thr c t hb1 _ _ hC=>
     rw[hb]at hb1;simp only[bQi,bQo]at hb1;have hxs:xs=[]:=bT2.1 (by omega)
     exact .inl ⟨hxs,p,rfl⟩
   |bl _ _ _ b base sz' C hb hl=>
    cases hE with
    |nul _ _ hb1=>rw[hb]at hb1;cases hb1
    |blk _ _ b1 base1 _ C1 thr c t hb1 hB hh hC hC' hs ho hv hown hthr=>
     rw[hb]at hb1;simp only[bQi,bQo]at hb1;obtain⟨rfl,rfl,rfl,rfl⟩:=hb1;simp only[bQm,if_false]at hthr;subst hthr;rw[Gh.at_none hdp]at hv
     refine .inr ⟨b,thr,C,c,t,hB,by simp[hn],hh,hC,hC',hs,ho,fun i j hi hj=>(hv i j hi hj).mono ⟨fun b' o hg=>?_,Gh.le_refl _,fun _ _ _ _ h=>h,fun _ _ _ _ h=>h,fun _ _ h=>h,fun _ r h=>⟨r,h⟩⟩⟩
     obtain⟨g1,g2⟩:=hg
     refine⟨⟨g1,fun hlt=>?_⟩,fun hbb=>?_⟩
     ·rcases g2 with g2|g2
      ·exact g2.2
      ·omega
     ·subst hbb;rcases g2 with g2|g2
      ·omega
      ·rw[hown]at g2;exact g2.2
  exact ends hor
 split at h
 case h_2=>cases h
 rename_i v ks hsn;simp only[bQi]at h;have hT: ∀b o,aX w.heap.size S G1 w1.heap.size b o->aD9 w S w1 b o:=by
  rintro b o ⟨h1,h2⟩
  refine⟨h1,fun h3=>?_⟩
  rcases h2 with h2|h2
  ·exact h2.2
  ·omega
 have hcov: ∀k e,st.en k=some e->Cov (aD9 w S w1) G1 k e:=by
  intro k e he
  by_cases hkn:G1.knows k
  case neg=>
   obtain⟨u1,u2,u3⟩:=Gh.not_knows hkn;cases e with
   |box cs f=>intro b hb;rw[u1]at hb;cases hb
   |blk sz xs f=>intro b base sz C hb;rw[u2]at hb;cases hb
   |map ks vs f=>intro r hr;rw[u3]at hr;cases hr
   |loop=>trivial
   |iter=>trivial
  have hE:=hR.ents k e he hkn;cases hE with
  |box cs frz b c t hb hB hh=>intro b' hb' j _;rw[hb]at hb';simp only[bQi]at hb';subst hb';exact⟨dX hh,fun h=>by omega⟩
  |nul sz frz hn=>intro b base sz C hb i j hi;simp at hi
  |blk xs frz b base sz C thr c t hb hB hh=>
   intro b' base' sz' C' hb' i j hi hj;rw[hb]at hb';simp only[bQi,bQo]at hb';obtain⟨rfl,_⟩:=hb';exact⟨dX hh,fun h=>by omega⟩
  |full xs b base sz c hb hs hh ht=>
   intro b' base' sz' C' hb' i j hi hj;rw[hb]at hb';simp only[bQi,bQo]at hb';obtain⟨rfl,rfl,rfl,rfl⟩:=hb';exact hT _ _ (ht i j hi hj)
  |map ks vs frz r es cl hr hB hh=>intro r' hr';rw[hr]at hr';simp only[bQi]at hr';subst hr';exact⟨dX hh,fun h=>by omega⟩
  |loop=>trivial
  |iter=>trivial
 have hfin:=yC hR.ents (T':=aD9 w S w1) ⟨hT,Gh.le_refl _,fun _ _ _ _ h=>h,fun _ _ _ _ h=>h,fun _ _ h=>h,fun _ r h=>⟨r,h⟩⟩ k hval hsn fun k _ e he=>hcov k e he
 have hr:VR (aD9 w S w1) Gh.none w1 r x:=by
  rw[<-h];split
  ·exact hfin
  ·exact hfin.wk
 exact ends (.vr hr)
theorem bAh {T:Nat->Nat->Prop}{x:Val}{v:Value}(h:VR T G w x v)(he:wT x=true): ∃a cap,v= .slice a 0 cap:=by
 cases h<;>simp[wT]at he
 ·exact⟨_,_,rfl⟩
 ·rename_i xs b off sz cap c hc hs hh ht ho hv;cases xs with
  |nil=>exact⟨_,_,rfl⟩
  |cons=>simp[wT]at he
 ·exact⟨_,_,rfl⟩
 ·rename_i xs b off sz c hs hh ht ho hv;cases xs with
  |nil=>exact⟨_,_,rfl⟩
  |cons=>simp[wT]at he
 ·exact⟨_,_,rfl⟩
 ·rename_i k off len b base sz C hb hl;cases len with
  |zero=>exact⟨_,_,rfl⟩
  |succ=>simp[wT]at he
 ·exact⟨_,_,rfl⟩
 ·exact⟨_,_,rfl⟩
variable {b:Option Val}
theorem aUc {a:Option Val}(h:jS a b=some r):a=some r/\ b=some r:=by
 unfold jS at h
 split at h<;>simp only[bQi,reduceCtorEq]at h<;>subst h<;>exact⟨rfl,rfl⟩
theorem aUd {a:Option Val}(h:jS a b=some r):a=some r/\ (r= .cl [] \/r= .fz []):=by
 unfold jS at h
 split at h<;>simp only[bQi,reduceCtorEq]at h<;>subst h
 ·exact⟨rfl,.inl rfl⟩
 ·exact⟨rfl,.inr rfl⟩
theorem aQ7 {L:bG}(hL:pU P L){k:Nat}(ih:aF0 P L n)(hlf:L f=some lf)(hlen:args.length=lf.np)(ha:rO lf args=true)
  (h:jS (iS lf k (exec L n) [.es true]) (iS lf k (exec L n) [.es false])=some r):
  (∃fn,P.funcs[f]?=some fn∧(fn.name== "runtime.NumGoroutine")=false∧fn.body.isNone=false)∧
  ∀(T:Nat->Nat->Prop) (G:Gh) (S:Nat->Nat->Prop) (w:World) (vals:Array Value),(∀b o,S b o->b<w.heap.size)->tT S w->vals.size=args.length->(∀i,i<args.length->VR T G w (args.getD i .dead) (vals.getD i undef))->
   Calls P f vals w fun e w'=> ∃v,e= .returned v/\ Below w.heap.size w w'/\ aL7 w.heap.size (aD9 w S w') w' r v:=by
 obtain⟨h1,h2⟩:=aUc h;simp only[rO,bQj]at ha;obtain⟨_,ha⟩:=ha
 split at ha
 case h_2=>cases ha
 rename_i x;obtain⟨e1,c1⟩:=aF1 (args:=[.es true]) hL ih hlf hlen h1;obtain⟨_,c2⟩:=aF1 (args:=[.es false]) hL ih hlf hlen h2
 refine⟨e1,fun T G S w vals hS hgl hvl hv=>?_⟩
 obtain⟨a,cap,hx⟩:=bAh (hv 0 (by simp)) ha
 have one: ∀(b:Bool),a.isNone=b-> ∀i,i<[Val.es b].length->VR S Gh.none w ([Val.es b].getD i .dead) (vals.getD i undef):=by
  intro b hb i hi;simp only[bQu,bQz]at hi
  obtain rfl:i=0:=by omega
  rw[hx,<-hb];exact .es a cap
 cases hb:a.isNone with
 |true=>exact c1 S w vals hS hgl hvl (one true hb)
 |false=>exact c2 S w vals hS hgl hvl (one false hb)
variable {Ds0:List Nat}{nm:Bool}
theorem aF2 {st0:St}(hR:Rel P Ξ B S G st N a w)
  (hd3: ∀D∈Ds0,B<=D/\ ¬Ξ.defs D/\ w.heap[D]?=some (.deferred (some []))) (hen:st0.en=st.en) (hcnt:st0.cnt=st.cnt) (hvl:vals.size=args.length) (hnp:args.length<=fn.ntmps)
  (hv: ∀i,i<args.length->VR (aX B S G w.heap.size) G w (args.getD i .dead) (vals.getD i undef)) :
  Rel P {prs:=fun u x=>Ξ.prs u x \/ ∃i,u=st.fr i/\ x=a.tmps.getD i undef,ro:=none,rnd:=Ξ.isRnd,defs:=fun D=>Ξ.defs D \/D∈Ds0,nm:=nm,virt:=Ξ.virt} B S G {st0 with fr:=fun i=>args.getD i (.tup [])} fn.ntmps (act0 fn vals) w:=by
 unfold act0
 refine⟨hR.size,by simp;omega,fun i=>?_,⟨[],rfl,⟨List.nodup_nil,fun _=>rfl⟩,fun D hD=>by simp at hD⟩,fun k e' hk hkn=>hR.ents k e' (hen▸hk) hkn,fun k hk=>hen▸hR.freshEn k (by rw[<-hcnt];exact hk),fun k hk=>hR.freshG k (by rw[<-hcnt];exact hk),
  fun b k t hb'=>by have:=hR.own b k t hb';rw[<-hcnt]at this;exact this,fun u x hu=>?_,fun l hl=>hR.round l (hl.resolve_left (by simp)),fun D hD=>hD.elim (hR.defs D) fun h=>(hd3 D h).2.2,fun k hv=>by have:=hR.virt k hv;rw[<-hcnt]at this;exact this⟩
 ·simp only
  by_cases hi:i<args.length
  ·have e1:args.getD i (.tup [])=args.getD i .dead:=by simp[bQn,hi]
   have e2:(vals++Array.replicate (fn.ntmps-vals.size) undef).getD i undef=vals.getD i undef:=by
    simp only[bQy];rw[Array.getElem?_append_left (by omega)]
   rw[e1,e2];exact hv i hi
  ·have e1:args.getD i (.tup [])= .tup []:=by simp[bQn,List.getElem?_eq_none (Nat.le_of_not_lt hi)]
   have e2:(vals++Array.replicate (fn.ntmps-vals.size) undef).getD i undef=undef:=by
    simp only[bQy];rw[Array.getElem?_append_right (by omega)]
    simp only[bSg];split<;>rfl
   rw[e1,e2];exact .tup [] #[] rfl (fun i hi=>by simp at hi)
 ·rcases hu with(hu|⟨i,rfl,rfl⟩)|hu
  ·exact hR.extra u x (.inl hu)
  ·exact hR.frame i
  ·exact hR.extra u x (.inr hu)
theorem aF3 {ste:St}{M:Nat}{tl:List Deferred}(ha:N<=a.tmps.size)
  (hd1:a.defers=Ds0.map mark++Ξ.tail) (hd2:Ds0.Nodup/\ (Ξ.nm=true->Ds0=[])) (hd3: ∀D∈Ds0,B<=D/\ ¬Ξ.defs D)
  (hR2:Rel P {prs:=fun u x=>Ξ.prs u x \/ ∃i,u=st.fr i/\ x=a.tmps.getD i undef,ro:=none,rnd:=Ξ.isRnd,defs:=fun D=>Ξ.defs D \/D∈Ds0,nm:=nm,tail:=tl,virt:=Ξ.virt} B S G1 ste M a1 w1):
  Rel P Ξ B S G1 {fr:=st.fr,en:=ste.en,cnt:=ste.cnt} N a w1:=
 ⟨hR2.size,ha,fun i=>hR2.extra _ _ (.inl (.inr ⟨i,rfl,rfl⟩)),⟨Ds0,hd1,hd2,fun D hD=>⟨(hd3 D hD).1,(hd3 D hD).2,hR2.defs D (.inr hD)⟩⟩,hR2.ents,hR2.freshEn,hR2.freshG,hR2.own,fun u y hu=>hR2.extra u y (hu.imp_left .inl),
  fun l hl=>hR2.round l (.inr hl),fun D hD=>hR2.defs D (.inl hD),hR2.virt⟩
theorem bG0 {L:bG}(hL:pU P L)(ih:aF0 P L n): ∀f args v (st0 st':St),kQ L (exec L n) f args st0=some (v,st')→(∃fn,P.funcs[f]?=some fn∧(fn.name== "runtime.NumGoroutine")=false∧fn.body.isNone=false)∧
  ∀(Ξ:Env) (B:Nat) (S:Nat->Nat->Prop) (G:Gh) (st:St) (N:Nat) (a:Act) (w:World) (vals:Array Value),Rel P Ξ B S G st N a w->st0.en=st.en->st0.cnt=st.cnt->vals.size=args.length->
   (∀i,i<args.length->VR (aX B S G w.heap.size) G w (args.getD i .dead) (vals.getD i undef))->Calls P f vals w (yL P Ξ B S st st' N a w v):=by
 intro f args v st0 st' h;simp only[kQ]at h
 split at h
 ·cases h
 rename_i lf hlf;obtain⟨fn,I,keep,amb,hfn,hlow⟩:=hL f lf hlf;obtain⟨c,hbody,hb,hdst,hnp,hname,hres⟩:=wZ hlow
 split at h
 case isFalse=>cases h
 rename_i hlen
 split at h
 ·rename_i ha;obtain⟨r,hr,he⟩:=bQw.1 h;simp only[bQo]at he;obtain⟨rfl,rfl⟩:=he;obtain⟨e1,c1⟩:=aQ7 hL ih hlf hlen ha hr
  refine⟨e1,fun Ξ B S G st N a w vals hR hen hcnt hvl hv=>?_⟩
  refine Calls.mono (c1 _ _ (aX B S G w.heap.size) w vals (fun _ _ h=>h.1) hR.glob hvl hv) ?_
  rintro e w' ⟨x,rfl,hbl,hv'⟩
  have hv':VR (aD9 w (aX B S G w.heap.size) w') Gh.none w' r x:=by
   obtain⟨h1,h2⟩:=aUd hr;rcases h2 with h2|h2<;>subst h2<;>exact hv'
  have hR':=hR.below hbl
  refine⟨x,G,rfl,?_,hv'.mono ⟨fun b q hg=>?_,Gh.none_le _,fun _ _ _ _ h=>h,fun _ _ _ _ h=>h,fun _ _ h=>h,fun _ r h=>⟨r,h⟩⟩,⟨hbl.os,hbl.tape,hbl.output,hbl.size,fun k hk=>hbl.block k (bRa hk hR.size)⟩⟩
  ·have:({fr:=st.fr,en:=st0.en,cnt:=st0.cnt}:St)=st:=by rw[hen,hcnt]
   rw[this];exact hR'
  ·by_cases hbw:b<w.heap.size
   ·exact⟨hg.1,(hg.2 hbw).2⟩
   ·refine⟨hg.1,.inr ⟨by have:=hR.size;omega,?_⟩⟩
    cases hown:G.own b with
    |none=>trivial
    |some z=>obtain⟨k,t⟩:=z;have:=(hR.own _ _ _ hown).2.1;omega
 split at h
 case h_2=>cases h
 rename_i e ste hx
 split at h
 case isFalse=>cases h
 rename_i hends;obtain⟨vs,hvs,he⟩:=bQw.1 h;simp only[bQo]at he;obtain⟨rfl,rfl⟩:=he
 refine⟨⟨fn,hfn,hname,by rw[hbody];rfl⟩,fun Ξ B S G st N a w vals hR hen hcnt hvl hv=>?_⟩
 obtain⟨Ds0,hd1,hd2,hd3⟩:=hR.marks
 refine ih f fn lf I keep amb e _ ste _ B S G vals w _ hfn hlow hx rfl rfl rfl (aF2 hR hd3 hen hcnt hvl (by omega) hv) fun a1 w1 G1 x1 _ _ hR2 hb2=>?_
 obtain⟨x,hrun,hxv⟩:=wI hR2 hres hvs;have hfin:yL P Ξ B S st {ste with fr:=st0.fr} N a w (zI vs) (.returned x) w1:=⟨x,G1,rfl,aF3 (ste:=ste) hR.tmps hd1 hd2 (fun D hD=>⟨(hd3 D hD).1,(hd3 D hD).2.1⟩) hR2,hxv,hb2⟩
 cases e with
 |normal=>exact⟨x,hrun,hfin⟩
 |exit id=>cases hends
 |ret=>exact⟨x,hrun,hfin⟩
 |panic v=>cases hends
theorem aUe {L:bG}(hL:pU P L)(ih:aF0 P L n):aQ4 P (cM L (exec L n)):=by
 intro f args v h;simp only[cM]at h
 split at h
 ·cases h
 rename_i lf hlf;obtain⟨fn,I,keep,amb,hfn,hlow⟩:=hL f lf hlf;obtain⟨c,hbody,hb,hdst,hnp,hname,hres⟩:=wZ hlow
 split at h
 case isFalse=>cases h
 rename_i hlen
 split at h
 case h_2=>cases h
 rename_i v' st hx;simp only[bQi]at h;subst h
 refine⟨⟨fn,hfn,hname,by rw[hbody];rfl⟩,fun S w vals hS hgl hvl hv=>?_⟩
 refine ih f fn lf I keep amb _ (start args) st {prs:=fun _ _=>False,ro:=none,rnd:=fun _=>False,defs:=fun _=>False} w.heap.size S Gh.none vals w _ hfn hlow hx rfl rfl rfl (aMy hS hgl hvl (by omega) hv) fun a1 w1 G1 x hxv _ hR hbl=>?_
 exact⟨x,rfl,hbl,hxv⟩
theorem aJk {L:bG}(hL:pU P L)(ih:aF0 P L n):aQ5 P (dZ L (exec L n)):=by
 intro f args v st0 st' h;simp only[dZ]at h
 split at h
 ·cases h
 rename_i lf hlf;obtain⟨fn,I,keep,amb,hfn,hlow⟩:=hL f lf hlf;obtain⟨c,hbody,hb,hdst,hnp,hname,hres⟩:=wZ hlow
 split at h
 case isFalse=>cases h
 rename_i hlen
 split at h
 case h_2=>cases h
 rename_i v' ste hx;simp only[bQi,bQo]at h;obtain⟨rfl,rfl⟩:=h
 refine⟨⟨fn,hfn,hname,by rw[hbody];rfl⟩,fun Ξ B S G st N a w vals hR hen hcnt hvl hv=>?_⟩
 obtain⟨Ds0,hd1,hd2,hd3⟩:=hR.marks
 refine ih f fn lf I keep amb _ _ ste _ B S G vals w _ hfn hlow hx rfl rfl rfl (aF2 hR hd3 hen hcnt hvl (by omega) hv) fun a1 w1 G1 x hxv _ hR2 hb2=>?_
 exact⟨x,G1,rfl,hxv,aF3 (ste:=ste) hR.tmps hd1 hd2 (fun D hD=>⟨(hd3 D hD).1,(hd3 D hD).2.1⟩) hR2,hb2⟩
theorem aMz {T:Nat->Nat->Prop}{G:Gh}{w:World}: ∀(ps:List Nat) (args:List Val) (vals:List Value) (fr:Nat->Val) (tmps:Array Value),args.length=ps.length->vals.length=ps.length->(∀p∈ps,p<tmps.size)->
  (∀i,VR T G w (fr i) (tmps.getD i undef))->(∀i,i<args.length->VR T G w (args.getD i .dead) (vals.getD i undef))->
  (∀i,VR T G w (zX fr ps args i) (((ps.zip vals).foldl (fun t (p:Nat×Value)=>t.setIfInBounds p.1 p.2) tmps).getD i undef))/\ ((ps.zip vals).foldl (fun t (p:Nat×Value)=>t.setIfInBounds p.1 p.2) tmps).size=tmps.size
 |[],args,vals,fr,tmps,_,_,_,hf,_=>⟨hf,rfl⟩
 |p::ps,[],_,_,_,h,_,_,_,_=>by simp at h
 |p::ps,v::args,[],_,_,_,h,_,_,_=>by simp at h
 |p::ps,v::args,x::vals,fr,tmps,h1,h2,h3,hf,hv=>by
  simp only[bQu,Nat.add_right_cancel_iff]at h1 h2;have hp:=h3 p (by simp)
  have:=aMz ps args vals (jD fr p v) (tmps.setIfInBounds p x) h1 h2 (fun q hq=>by simpa using h3 q (by simp[hq])) (fun i=>?_) (fun i hi=>by simpa using hv (i+1) (by simpa using hi))
  ·refine⟨this.1,?_⟩
   have e:=this.2;simp only[List.zip_cons_cons,bSv];rw[e];simp
  ·simp only[bQy,bTa,jD]
   by_cases hi:i=p
   ·subst hi;simpa[hp]using hv 0 (by simp)
   ·have hi': ¬p=i:=fun e=>hi e.symm
    simp only[hi,hi',if_false]
    simpa[bQy]using hf i
theorem bDp {L:bG}(ih:wH P L n): ∀k args v (st0 st':St),aDv (exec L n) k args st0=some (v,st')->
  ∀(Ξ:Env) (B:Nat) (S:Nat->Nat->Prop) (G:Gh) (st:St) (N:Nat) (a:Act) (w:World) (vals:Array Value) (l:Nat) (ro:Option Nat) (m:Nat),Rel P Ξ B S G st N a w->st0.en=st.en->st0.cnt=st.cnt->G.mp k=some l->vals.size=args.length->
   (∀i,i<args.length->VR (aX B S G w.heap.size) G w (args.getD i .dead) (vals.getD i undef))->
   ∃f tmps assign body,(Instr.yield l vals).run P w= .ok (.round l f tmps assign body) w/\ RoundIn (Fx ro) m P l f tmps assign body w (yL P Ξ B S st st' N a w v):=by
 intro k args v st0 st' h Ξ B S G st N a w vals l ro m hR hen hcnt hmp hvl hv;simp only[aDv]at h
 split at h
 case h_2=>cases h
 rename_i fr ps la lb he0
 split at h
 case isFalse=>cases h
 rename_i hlen
 split at h
 case h_2=>cases h
 rename_i st1 hx1
 split at h
 case h_2=>cases h
 rename_i fr1 ps1 la1 lb1 he1
 split at h
 case h_2=>cases h
 rename_i e st2 hx2
 split at h
 case h_2=>cases h
 rename_i fr2 ps2 la2 lb2 hcalm he2;simp only[bQi,bQo]at h;obtain⟨rfl,rfl⟩:=h;rw[hen]at he0;have hE:=hR.ents k _ he0 (Gh.knows_mp hmp);cases hE with
 |loop _ _ _ _ _ l0 rec I N' hl hB hh hps ha hb hN hpN haN hbN hf hst hown=>
 rw[hmp]at hl;simp only[bQi]at hl;subst hl;obtain⟨Ds0,hd1,hd2,hd3⟩:=hR.marks;have hpsz:rec.params.size=ps.length:=by rw[<-hps];simp
 have hyd:=run_yield (P:=P) (args:=vals) hh (by rw[hvl,hlen,hpsz])
 refine⟨_,_,_,_,hyd,?_⟩
 have hfold:(rec.params.zip vals).foldl (fun tmps (t,a)=>tmps.setIfInBounds t a) rec.tmps=(ps.zip vals.toList).foldl (fun t (p:Nat×Value)=>t.setIfInBounds p.1 p.2) rec.tmps:=by
  rw[<-Array.foldl_toList,Array.toList_zip,hps]
 rw[hfold];obtain⟨hfr,hfs⟩:=aMz (T:=aX B S G w.heap.size) (G:=G) (w:=w) ps args vals.toList fr rec.tmps hlen (by simp[hvl,hlen]) (fun p hp=>bRa (by simpa using bQp.1 hpN p hp) hN) hf
  (fun i hi=>by simpa[bQn,bQy]using hv i hi)
 let Ξ':Env:={prs:=fun u x=>Ξ.prs u x \/(∃i,u=st.fr i/\ x=a.tmps.getD i undef) \/(u= .yld k/\ x= .func (.yield l) #[] #[]),ro:=some l,rnd:=Ξ.isRnd,defs:=fun D=>Ξ.defs D \/D∈Ds0,virt:=Ξ.virt}
 have hR0:Rel P Ξ' B S G {fr:=zX fr ps args,en:=st0.en,cnt:=st0.cnt} N' {tmps:=(ps.zip vals.toList).foldl (fun t (p:Nat×Value)=>t.setIfInBounds p.1 p.2) rec.tmps,defers:=[]} w:=by
  refine⟨hR.size,by simp only;rw[hfs];exact hN,hfr,⟨[],rfl,⟨List.nodup_nil,fun _=>rfl⟩,fun D hD=>by simp at hD⟩,fun k e' hk hkn=>hR.ents k e' (hen▸hk) hkn,fun k hk=>hen▸hR.freshEn k (by rw[<-hcnt];exact hk),fun k hk=>hR.freshG k (by rw[<-hcnt];exact hk),
   fun b k t hb'=>by have:=hR.own b k t hb';rw[<-hcnt]at this;exact this,fun u x hu=>?_,fun l' hl'=>?_,fun D hD=>hD.elim (hR.defs D) fun h=>(hd3 D h).2.2,fun k hv=>by have:=hR.virt k hv;rw[<-hcnt]at this;exact this⟩
  ·rcases hu with(hu|⟨i,rfl,rfl⟩|⟨rfl,rfl⟩)|hu
   ·exact hR.extra u x (.inl hu)
   ·exact hR.frame i
   ·exact .yld k l hmp
   ·exact hR.extra u x (.inr hu)
  ·rcases hl' with hl'|hl'
   ·simp only[Ξ',bQi]at hl';subst hl';exact⟨rec,hh⟩
   ·exact hR.round l' hl'
 have wrt: ∀{G1:Gh} {s1:St} {a1:Act} {w1:World} {fr1:Nat->Val} {ps1:List Nat} {la1 lb1:aY} {q1:LSt} (q2:LSt),Rel P Ξ' B S G1 s1 N' a1 w1->s1.en k=some (.loop fr1 ps1 la1 lb1 q1)->
   ∃rec1,w1.heap[l]?=some (.loop rec1)/\ aZr q1 rec1/\ B<=l/\ ∀rec2:Loop,rec2.params=rec1.params->rec2.assign=rec1.assign->rec2.body=rec1.body->rec2.tmps=rec1.tmps->aZr q2 rec2->
    Rel P Ξ' B S G1 {s1 with en:=s1.en.set k (some (.loop fr1 ps1 la1 lb1 q2))} N' a1 (kJ w1 l (.loop rec2)):=by
  intro G1 s1 a1 w1 fr1 ps1 la1 lb1 q1 q2 hR1 hk;have hy:=hR1.extra (.yld k) (.func (.yield l) #[] #[]) (.inl (.inr (.inr ⟨rfl,rfl⟩)));cases hy with
  |yld _ _ hmp1=>
  have hE1:=hR1.ents k _ hk (Gh.knows_mp hmp1);cases hE1 with
  |loop _ _ _ _ _ l1 rec1 I1 N1 hl1 hB1 hh1 hps1 ha1 hb1 hN1 hpN1 haN1 hbN1 hf1 hst1 hown1=>
  rw[hmp1]at hl1;simp only[bQi]at hl1;subst hl1
  refine⟨rec1,hh1,hst1,hB1,fun rec2 r1 r2 r3 r4 hq=>?_⟩
  exact hR1.write (e':= .loop fr1 ps1 la1 lb1 q2) hown1 hh1 (fun _ _=> .inl (by simp)) (fun _=>by simp) (fun r _=>⟨rec2,rfl⟩) (fun off h=>by omega)
   (fun m=> .loop fr1 ps1 la1 lb1 q2 l rec2 I1 N1 hmp1 hB1 (kV _ (dX hh1)) (by rw[r1];exact hps1) (by rw[r2];exact ha1) (by rw[r3];exact hb1) (by rw[r4];exact hN1) hpN1 haN1 hbN1 (fun i=>by rw[r4];exact(hf1 i).mono m) hq hown1)
 refine roundIn_of_wpIn (F:=Fx ro) trivial ?_
 refine ih I N' rec.assign _ .normal st1 Ξ' B S G _ w _ m (by rw[ha];exact haN) (fun h=>nomatch h) hR0 (by rw[ha];exact hx1) fun a1 w1 G1 x1 _ hR1 hb1=>?_
 have hR1:=hR1.rel rfl;obtain⟨rec1,hh1,hq1,hBl,hw1⟩:=wrt .busy hR1 he1
 refine⟨_,run_beginRound hh1 hq1.1,?_⟩
 have hR1':=hw1 {rec1 with state:= .busy} rfl rfl rfl rfl ⟨rfl,hq1.2⟩
 refine ih I N' rec.body _ e st2 Ξ' B S G1 a1 _ _ m (by rw[hb];exact hbN) (fun h=>nomatch h) hR1' (by rw[hb];exact hx2) fun a2 w2 G2 x2 _ hR2 hb2=>?_
 have hR2:=hR2.rel hcalm;have fin: ∀(jump:Option Code) (q:LSt),aZr q {state:=if jump.isNone then .ready else .done,pending:=jump,fn:=0,tmps:= #[],params:= #[],assign:= .skip,body:= .skip,defers:=0}->jump.isNone=decide (e= .normal)->q=(if e= .normal then .ready else .done e)->
   ∃v w',(Instr.endRound l jump).run P w2= .ok v w'/\ yL P Ξ B S st {fr:=st0.fr,en:=st2.en.set k (some (.loop fr2 ps2 la2 lb2 (if e= .normal then .ready else .done e))),cnt:=st2.cnt} N a w (.bool (decide (e= .normal))) (.returned v) w':=by
  intro jump q hq hj hqe;obtain⟨rec2,hh2,_,_,hw2⟩:=wrt q hR2 he2;have hR3:=hw2 {rec2 with state:=if jump.isNone then .ready else .done,pending:=jump} rfl rfl rfl rfl (by cases q<;>exact hq)
  refine⟨_,_,run_endRound jump hh2,_,G2,rfl,?_,by rw[hj];exact .bool _,?_⟩
  ·rw[<-hqe];exact⟨hR3.size,hR.tmps,fun i=>hR3.extra _ _ (.inl (.inr (.inl ⟨i,rfl,rfl⟩))),⟨Ds0,hd1,hd2,fun D hD=>⟨(hd3 D hD).1,(hd3 D hD).2.1,hR3.defs D (.inr hD)⟩⟩,hR3.ents,hR3.freshEn,hR3.freshG,hR3.own,fun u y hu=>hR3.extra u y (hu.imp_left .inl),
    fun l' hl'=>hR3.round l' (.inr hl'),fun D hD=>hR3.defs D (.inl hD),hR3.virt⟩
  ·exact((hb1.trans (tA hBl)).trans hb2).trans (tA hBl)
 cases e with
 |normal=>exact fin none .ready ⟨rfl,rfl⟩ rfl rfl
 |exit id=>exact fin (some (.exit id)) (.done (.exit id)) ⟨rfl,rfl,by simp,rfl⟩ (by simp) (by simp)
 |ret=>exact fin (some .ret) (.done .ret) ⟨rfl,rfl,by simp,rfl⟩ (by simp) (by simp)
 |panic v=>cases hcalm
theorem pI {k:Key}: ∀{ks:List Key} {en:En},k∉ks->W.applyAll en (ks.map .frz) k=en k
 |[],_,_=>rfl
 |k'::ks,en,h=>by
  simp only[bRm,not_or]at h;simp only[bRj,W.applyAll,bSv];have:=pI (en:=W.apply en (.frz k')) h.2;simp only[W.applyAll]at this;rw[this];cases he:en k' with
  |none=>simp only[W.apply,he]
  |some e=>simp only[W.apply,he,En.set];rw[if_neg h.1]
variable {k:Key}
section
theorem Rel.norm (hR:Rel P Ξ B S G st N a w){en':En}(h:aDy st.en k=some en'):
  ∃G',Rel P Ξ B S G' {st with en:=en'} N a w/\ ∀v x,VR (aX B S G w.heap.size) G w v x->VR (aX B S G' w.heap.size) G' w v x:=by
 simp only[aDy]at h
 split at h
 case h_2=>cases h
 rename_i cs hk
 split at h
 case h_2=>cases h
 rename_i rs hrs
 split at h
 case isTrue=>cases h
 rename_i hnk;simp only[bQi]at h;have hnk':k∉rs.flatMap (·.2):=by simpa using hnk
 obtain⟨G',hR',hg,hT,hsnap,hbk⟩:=aCe hR (rs.flatMap (·.2));have hmono: ∀v x,VR (aX B S G w.heap.size) G w v x->VR (aX B S G' w.heap.size) G' w v x:=fun v x hv=>hv.mono' ⟨hT,hg,fun _ _ _ _ h=>h,fun _ _ _ _ h=>h⟩
 refine⟨G',?_,hmono⟩
 have hk':W.applyAll st.en ((rs.flatMap (·.2)).map .frz) k=some (.box cs false):=by rw[pI hnk'];exact hk
 obtain⟨l1,l2⟩:=fH hrs;have hnew:G'.knows k->ER P B (aX B S G' w.heap.size) G' w k (.box (rs.map (·.1)) false):=by
  intro hkn';have hE:=hR.ents k _ hk (hbk k hkn');have hE':=hR'.ents k _ hk' hkn';cases hE with
  |box _ _ b c t hb hB hh hs ho hv hown=>
  cases hE' with
  |box _ _ b' c' t' hb' hB' hh' hs' ho' hv' hown'=>
  have hbb:b'=b:=by have:=hg.box _ _ hb;rw[hb']at this;exact Option.some.inj this
  subst hbb
  refine .box _ _ b' c t hb' hB hh (by simp[hs,l1]) (fun j hj=>ho j (by simpa[l1]using hj)) (fun j hj=>?_) hown'
  have hj1:j<cs.length:=by simpa[l1]using hj
  have hj2:j<rs.length:=by rw[l1];exact hj1
  have hpc:=l2 j hj1 hj2;have hvj:=hv j hj1;have e1:cs.getD j .dead=cs[j]:=by simp[bQn,hj1]
  have e2:(rs.map (·.1)).getD j .dead=rs[j].1:=by simp[bQn,hj2]
  rw[e1]at hvj;rw[e2];have oth: ∀(r:Val×List Key),snap 8 st.en cs[j]=some r->rs[j]=(r.1.wk0,r.2)->VR (aX B S G' w.heap.size) G' w rs[j].1 (c.getD j undef):=by
   intro r hr he;have:=hsnap 8 _ _ _ r.2 hvj hr (fun k' hk'=>bRx.2 ⟨rs[j],bQr hj2,by rw[he];exact hk'⟩)
   rw[he];exact this.wk0.mono' ⟨fun _ _ h=>h,Gh.none_le _,fun _ _ _ _ h=>h,fun _ _ _ _ h=>h⟩
  generalize cs[j]=v at hpc hvj oth;unfold aDx at hpc
  split at hpc
  ·simp only[bQi]at hpc;rw[<-hpc];exact hmono _ _ hvj
  ·split at hpc
   case h_2=>cases hpc
   rename_i r hr;simp only[bQi]at hpc;exact oth r hr hpc.symm
 rw[<-h]
 refine⟨hR'.size,hR'.tmps,hR'.frame,hR'.marks,fun k' e he hkn=>?_,fun k' hk2=>?_,hR'.freshG,hR'.own,hR'.extra,hR'.round,hR'.defs,hR'.virt⟩
 ·simp only[En.set]at he
  split at he
  ·rename_i e;subst e;simp only[bQi]at he;subst he;exact hnew hkn
  ·exact hR'.ents k' e he hkn
 ·simp only[En.set];split
  ·rename_i e;subst e;have:=hR.freshEn k' hk2;rw[hk]at this;cases this
  ·exact hR'.freshEn k' hk2
theorem Rel.norms {x:Val}: ∀{ps:List (List Nat)} {G:Gh} {st:St} {en':En},Rel P Ξ B S G st N a w->norms x ps st.en=some en'->
  ∃G',Rel P Ξ B S G' {st with en:=en'} N a w/\ ∀v x,VR (aX B S G w.heap.size) G w v x->VR (aX B S G' w.heap.size) G' w v x
 |[],G,st,en',hR,h=>by
  simp only[Go.Abs.norms,bQi]at h;subst h;exact⟨G,hR,fun _ _ h=>h⟩
 |p::ps,G,st,en',hR,h=>by
  simp only[Go.Abs.norms]at h
  split at h
  case h_2=>cases h
  split at h
  case h_2=>cases h
  rename_i en1 h1;obtain⟨G1,hR1,m1⟩:=hR.norm h1;obtain⟨G2,hR2,m2⟩:=Rel.norms hR1 h;exact⟨G2,hR2,fun v x hv=>m2 v x (m1 v x hv)⟩
end
theorem aOw {L:bG}(hL:pU P L)(ih:aF0 P L n): ∀f args v (st0 st':St),zY L (exec L n) f args st0=some (v,st')→(∃fn,P.funcs[f]?=some fn∧(fn.name== "runtime.NumGoroutine")=false∧fn.body.isNone=false)∧
  ∀(Ξ:Env) (B:Nat) (S:Nat->Nat->Prop) (G:Gh) (st:St) (N:Nat) (a:Act) (w:World) (vals:Array Value),Rel P Ξ B S G st N a w->st0.en=st.en->st0.cnt=st.cnt->vals.size=args.length->
   (∀i,i<args.length->VR (aX B S G w.heap.size) G w (args.getD i .dead) (vals.getD i undef))->Calls P f vals w (yL P Ξ B S st st' N a w v):=by
 intro f args v st0 st' h;simp only[zY]at h
 split at h
 case h_2=>cases h
 rename_i v1 st1 hi
 split at h
 case h_2=>cases h
 rename_i lf hlf
 split at h
 case h_2=>cases h
 rename_i en' hn;simp only[bQi,bQo]at h;obtain⟨rfl,rfl⟩:=h;obtain⟨e1,c1⟩:=bG0 hL ih _ _ _ _ _ hi
 refine⟨e1,fun Ξ B S G st N a w vals hR hen hcnt hvl hv=>?_⟩
 refine Calls.mono (c1 Ξ B S G st N a w vals hR hen hcnt hvl hv) ?_
 rintro e w' ⟨x,G',rfl,hR',hx,hb⟩
 obtain⟨G2,hR2,m⟩:=hR'.norms hn;exact⟨x,G2,rfl,hR2,m _ _ hx,hb⟩
def Env.add (Ξ:Env)(k:Key):Env:={Ξ with virt:=fun k'=>Ξ.virt k' \/k'=k}
section
variable {o:Oper}
theorem Rel.unadd (h:Rel P (Ξ.add k) B S G st N a w):Rel P Ξ B S G st N a w:=
 ⟨h.size,h.tmps,h.frame,h.marks,h.ents,h.freshEn,h.freshG,h.own,h.extra,h.round,h.defs,fun k' hv=>h.virt k' (.inl hv)⟩
theorem Rel.reserve (h:Rel P Ξ B S G st N a w)(hk:k=⟨0,d,st.cnt 0 d⟩):Rel P (Ξ.add k) B S G (vH k z st) N a w:=by
 subst hk;have hf:=h.freshG ⟨0,d,st.cnt 0 d⟩ (bQk _)
 refine⟨h.size,h.tmps,h.frame,h.marks,fun k' e he hkn=>?_,fun k' hk'=>?_,fun k' hk'=>h.freshG k' (bQv (oG _ _) hk'),fun b k' t hb=>?_,h.extra,h.round,h.defs,fun k' hv=>?_⟩
 ·simp only[vH,En.set]at he
  split at he
  ·rename_i hke;subst hke;exact absurd hkn (Gh.knows_not hf)
  ·exact h.ents k' e he hkn
 ·have hne:k'≠⟨0,d,st.cnt 0 d⟩:=by rintro rfl;simp only[vH,mK]at hk';omega
  simp only[vH,En.set,if_neg hne];exact h.freshEn k' (bQv (oG _ _) hk')
 ·obtain⟨h1,h2,h3⟩:=h.own b k' t hb;exact⟨h1,h2,bRa h3 (oG _ _)⟩
 ·rcases hv with hv|rfl
  ·obtain⟨v1,v2⟩:=h.virt k' hv;exact⟨v1,bRa v2 (oG _ _)⟩
  ·exact⟨Gh.knows_not hf,by simp only[vH,mK];omega⟩
theorem Rel.realize (h:Rel P (Ξ.add k) B S G st N a w)(hvk: ¬Ξ.virt k){c:Array Value}{t:TypeId}(he:st.en k=some (.box z false))(hs:c.size=z.length)(ho: ∀j,j<z.length->fM (c.getD j undef)=true)
  (hv: ∀j,j<z.length->VR (aX B S G w.heap.size) G w (z.getD j .dead) (c.getD j undef)):Rel P Ξ B S (G.addBox k w.heap.size) st N a (w.alloc (.cells c t)):=by
 obtain⟨u1,u2⟩:=h.virt k (.inr rfl);have hn:=Gh.not_knows u1;have hg:=Gh.le_addBox (b:=w.heap.size) hn.1;have ho': ∀b,b≠w.heap.size->(G.addBox k w.heap.size).own b=G.own b:=fun b hb=>by simp[Gh.addBox,hb]
 have m:=rB (B:=B) (S:=S) (w:=w) (o:= .cells c t) hg ho';have hkk: ∀k',k'≠k->(G.addBox k w.heap.size).box k'=G.box k'/\ (G.addBox k w.heap.size).blk k'=G.blk k'/\ (G.addBox k w.heap.size).mp k'=G.mp k':=fun k' hk'=>by simp[Gh.addBox,hk']
 refine h.unadd.change m (by rw[size_alloc];omega) (fun k' e' hk' hkn=>?_) (fun k' hk'=>?_) (fun b k' t' hb=>?_) (fun k' hv'=>?_)
 ·by_cases hke:k'=k
  ·subst hke;rw[he,bQi]at hk';subst hk';exact .box z false w.heap.size c t (by simp[Gh.addBox]) h.size (gF _ _) hs ho (fun j hj=>(hv j hj).mono m) (by simp[Gh.addBox])
  ·refine(h.ents k' e' hk' (Gh.knows_of hkk hke hkn)).mono m.four fun b _ hb=>?_
   have hlt:=aOg (fun b k t ho=>(h.own b k t ho).2.1) hb
   exact⟨kU w _ hlt,ho' b (Nat.ne_of_lt hlt)⟩
 ·have hne:k'≠k:=by rintro rfl;omega
  obtain⟨j1,j2,j3⟩:=hkk k' hne;obtain⟨f1,f2,f3⟩:=h.freshG k' hk';exact⟨h.freshEn k' hk',by rw[j1];exact f1,by rw[j2];exact f2,by rw[j3];exact f3⟩
 ·by_cases hb':b=w.heap.size
  ·subst hb';simp only[Gh.addBox,if_true,bQi,bQo]at hb;obtain⟨rfl,_⟩:=hb;exact⟨h.size,by rw[size_alloc];omega,u2⟩
  ·rw[ho' b hb']at hb;obtain⟨h1,h2,h3⟩:=h.own b k' t' hb;exact⟨h1,by rw[size_alloc];omega,h3⟩
 ·obtain⟨v1,v2⟩:=h.virt k' (.inl hv');have hne:k'≠k:=by rintro rfl;exact hvk hv'
  exact⟨fun hkn=>v1 (Gh.knows_of hkk hne hkn),v2⟩
theorem aJl (hR:Rel P (Ξ.add k) B S G st N a w)(hvk: ¬Ξ.virt k)(hl:fE P I ops o=some {dst:=some d,op:= .alloc z,guard:=none})(hd:d<N)(hek:st.en k=some (.box z false))
      (kk: ∀a' w' G',Rel P Ξ B S G' {st with fr:=jD st.fr d (.ptr k 0)} N a' w'->Below B w w'->next a' w'):
  if Region.wanted o (yielded ops a.tmps)=true then o.wpIn (Fx ro) m P a w next Q else(∀f,o.about P w a.eval=some f->(Fx ro).fn f)/\ next (a.put o.dst undef) w:=by
 simp only[fE,bQ6,bQx,bQ8,bQi,aL.mk.injEq]at hl;obtain⟨lop,hop,g,hg,hdst,rfl,rfl⟩:=hl;obtain⟨t,ho,hz⟩:=aG9 hop;have hw:wanted st.fr none=some true:=rfl;rw[pT hR hg hw,if_pos rfl];obtain⟨i,v,hi,hz,hs,ho1,hv⟩:=tW (P:=P) (G:=G) (w:=w) (T:=aX B S G w.heap.size) hz
 refine⟨fun _ _=>trivial,?_⟩
 rw[pS (x:= .value (.pointer (some ⟨w.heap.size,0,none⟩))) (w':=w.alloc (.cells v.cells t)) (by simp[execOp,ho,Instr.alloc,iH hi hz,newVar,newRow]) (by simp)]
 have hR':=hR.realize hvk (t:=t) hek hs ho1 hv;rw[Oper.uponIn_value];rw[hdst];exact kk _ _ _ (hR'.put hd (.ptr k 0 w.heap.size (by simp[Gh.addBox]))) (pF hR _)
end
theorem zM {k:Key}: ∀(ws:List W) (en:En),(ws.all fun w=>decide (w.key≠k))=true->W.applyAll en ws k=en k
 |[],_,_=>rfl
 |x::ws,en,h=>by
  simp only[bSs,bQj,bT8]at h;have e:W.applyAll en (x::ws)=W.applyAll (x.apply en) ws:=rfl;rw[e,zM ws _ h.2];have hk:=h.1;have key: ∀(k1:Key) (e:Option Ent),k1≠k->En.set en k1 e k=en k:=fun k1 e h=>if_neg fun he=>h he.symm
  clear e;cases x with
  |ent k1 e1=>exact key k1 e1 hk
  |cells k1 off vs=>
   simp only[W.apply];cases h1:en k1 with
   |none=>rfl
   |some e1=>cases e1<;>first|exact key k1 _ hk|rfl
  |elem k1 i off vs=>
   simp only[W.apply];cases h1:en k1 with
   |none=>rfl
   |some e1=>
    cases e1 with
    |blk sz xs f=>
     simp only
     cases h2:xs[i]? with
     |none=>rfl
     |some x=>exact key k1 _ hk
    |_=>rfl
  |frz k1=>
   simp only[W.apply];cases h1:en k1 with
   |none=>rfl
   |some e1=>exact key k1 _ hk
theorem aAh {l:Nat->aL}{r:Nat->Res}{L:Nat->Bool}{st:St}{k:Key}: ∀(n:Nat),(∀i,i<n->L i=true->aOc k (r i)=true)->(dN (fun i=>eK (l i) (r i)) L st n).en k=st.en k
 |0,_=>rfl
 |n+1,h=>by
  simp only[dN];have ih:=aAh (l:=l) (r:=r) (L:=L) (st:=st) n fun i hi=>h i (by omega)
  split
  ·rename_i hL;have hl:=h n (by omega) hL
   rw[<-ih];simp only[eK];unfold aOc at hl;cases hm:(r n).mem with
   |some p=>rw[hm]at hl;simp only at hl⊢;rw[if_pos hl]
   |none=>rw[hm]at hl;exact zM _ _ hl
  ·exact ih
variable {l':List aL}
theorem aJm (hlen:l'.length=l.length)(hd: ∀i,i<l.length->(l'.getD i default).dst=(l.getD i default).dst)(hu: ∀i,i<l.length-> ∀d∈(l'.getD i default).uses,d∈(l.getD i default).uses)
  (hm: ∀i,i<l.length->((l'.getD i default).op.writesMem=true->(l.getD i default).op.writesMem=true)/\ ((l'.getD i default).op.readsMem=true->(l.getD i default).op.readsMem=true)) (h:fS an l=some ps):
  ∃ps',fS an l'=some ps'/\ ∀p∈ps',p∈ps:=by
 simp only[fS]at h⊢
 split at h
 case isFalse=>cases h
 rename_i hall;simp only[bQi]at h;rw[hlen];have hc:((List.range l.length).all fun k=>(List.range l.length).all fun i=>i==k||
   (match(l'.getD i default).dst with
    |some d=>(l'.getD k default).dst !=some d&&(!(l'.getD k default).uses.contains d||((an.getD k []).contains i||(an.getD i []).contains k))
    |none=>true))=true:=by
  rw[bQp];intro k hk;rw[bQp];intro i hi;have hk':=bRi.1 hk;have hi':=bRi.1 hi;have h0:=bQp.1 (bQp.1 hall k hk) i hi;rw[bRr]at h0⊢
  refine h0.imp id fun h0=>?_
  rw[hd i hi',hd k hk'];cases hdd:(l.getD i default).dst with
  |none=>rfl
  |some d=>
   rw[hdd]at h0;simp only[bQj]at h0⊢
   refine⟨h0.1,?_⟩
   have h1:=h0.2;rw[bRr]at h1⊢
   refine h1.imp (fun h2=>?_) id
   simp only[bRw,bSf,bT9]at h2⊢;exact fun h3=>h2 (hu k hk' d h3)
 refine⟨_,if_pos hc,fun p hp=>?_⟩
 rw[<-h];simp only[bRx,bRi,bRe,bR6,bQj]at hp⊢;obtain⟨k,hk,i,⟨hik,hord,hcond⟩,rfl⟩:=hp
 refine⟨k,hk,i,⟨hik,hord,?_⟩,rfl⟩
 have mi:=hm i (by omega)
 have mk:=hm k hk;simp only[bRr,bQj]at hcond⊢;exact hcond.imp (fun h=>⟨mi.1 h.1,h.2.imp mk.2 mk.1⟩) (fun h=>⟨mk.1 h.1,mi.2 h.2⟩)
variable {A:Nat}
theorem uB (hA:A<l.length)(i:Nat):(iX A k l).getD i default=if i=A then zK k (l.getD A default)else l.getD i default:=by
 simp only[iX,bQn,bTb]
 by_cases h:A=i
 ·subst h;simp[hA]
 ·rw[if_neg h,if_neg fun e=>h e.symm]
theorem pV :(iX A k l).length=l.length:=by simp[iX]
theorem aJn (hA:A<l.length)(h:fS an l=some ps): ∃ps',fS an (iX A k l)=some ps'/\ ∀p∈ps',p∈ps:=by
 refine aJm pV (fun i hi=>?_) (fun i hi d hd=>?_) (fun i hi=>?_) h
 ·rw[uB hA];split
  ·rename_i e;subst e;rfl
  ·rfl
 ·rw[uB hA]at hd;split at hd
  ·simp[zK,aL.uses,LOp.opds,Opd.tmp]at hd
  ·exact hd
 ·rw[uB hA];split
  ·exact⟨fun h=>by simp[zK,LOp.writesMem]at h,fun h=>by simp[zK,LOp.readsMem]at h⟩
  ·exact⟨id,id⟩
section
theorem bAi (hcall:lK P call)(hio:wY P io)(hl:cP (fE P I ops) ops.toList=some l)(hd:l.all (fun o=>o.dst.all (· <N))=true)(han:aQm ops=some an)
   (hps:fS an l=some ps)   {kA:Key} (hA:A<l.length) (hAo:l.getD A default={dst:=some d,op:= .alloc z,guard:=none}) (hvk: ¬Ξ.virt kA)   (hrun:iU n call io 0 (iX A kA l) st=some (stn,rs)) (hok:dP rs ps=true) (hleft:oR an A kA rs=true) (hek:st.en kA=some (.box z false)) :
  ∀(fuel:Nat) (listed:Array Bool) (G:Gh) (a:Act) (w:World),listed.size=ops.size->(List.range ops.size).countP (fun i=>!listed.getD i false)<=fuel->yO ops (fun i=>listed.getD i false)->
   Rel P (if listed.getD A false=true then Ξ else Ξ.add kA) B S G (dN (fun k=>eK ((iX A kA l).getD k default) (rs.getD k bW)) (fun i=>listed.getD i false) st ops.size) N a w->(∀a' w' G',Rel P Ξ B S G' stn N a' w'->Below B w w'->Q .normal a' w')->
   wpAnyIn (Fx ro) m P .any ops Q fuel listed a w:=by
 obtain⟨l1,l2⟩:=fH hl;have hN:l.length=ops.size:=by rw[l1];simp
 obtain⟨hrl,s,hrun',hsn⟩:=tZ hrun;rw[pV,hN]at hrun' hsn;obtain⟨ps',hps',hsub⟩:=aJn (k:=kA) hA hps;have hok':=aAg hok hsub;have hlt:=aIe han;have hw: ∀i,i<(iX A kA l).length->(((iX A kA l).getD i default).op.writesMem=false->(rs.getD i bW).quiet)/\ (((iX A kA l).getD i default).op.readsMem=false->(rs.getD i bW).rs=[]):=
  fun i hi=>(rQ (hrun'.step i (by rw[pV]at hi;omega))).2.2
 have hfree: ∀i j,i<j->j<ops.size-> ¬i∈an.getD j []->aH2 ((iX A kA l).getD i default) ((iX A kA l).getD j default) (rs.getD i bW) (rs.getD j bW):=
  fun i j hij hj ho=>aIf hps' hok' hw (fun j i hj hi=>hlt j i (by rw[pV]at hj;omega) hi) hij (by rw[pV];omega) ho
 have full: ∀(listed:Array Bool),listed.size=ops.size->Region.ready .any ops listed=[]-> ∀i,i<ops.size->listed.getD i false=true:=by
  intro listed hsz hr i
  induction i using Nat.strongRecOn with
  |ind i ih=>
   intro hi;cases hb:listed.getD i false with
   |true=>rfl
   |false=>
    exfalso
    have hm:i∈Region.ready .any ops listed:=by
     rw[mem_ready]
     refine⟨?_,ops[i],bQ4 hi,fun e he hbd=>?_⟩
     ·rw[bQy,bQ4 (by omega)]at hb⊢;simpa using hb
     ·have hk:e.on∈lL ops[i]:=bRe.2 ⟨e,bR6.2 ⟨by simpa using he,hbd⟩,rfl⟩
      have:=(tB han (bQ4 hi)).1 _ hk;exact ih _ this (by omega)
    rw[hr]at hm;simp at hm
 have done: ∀(listed:Array Bool) (G:Gh) (a:Act) (w:World),listed.size=ops.size->Region.ready .any ops listed=[]->
   Rel P (if listed.getD A false=true then Ξ else Ξ.add kA) B S G (dN (fun k=>eK ((iX A kA l).getD k default) (rs.getD k bW)) (fun i=>listed.getD i false) st ops.size) N a w->(∀a' w' G',Rel P Ξ B S G' stn N a' w'->Below B w w'->Q .normal a' w')->Q .normal a w:=by
  intro listed G a w hsz hr hR hQ
  refine hQ a w G ?_ (Below.refl _ _)
  rw[if_pos (full listed hsz hr A (by omega)),cH (L':=fun _=>true) fun i hi=>full listed hsz hr i hi,<-hrun'.fold _ (bQk _),hsn]at hR
  exact hR
 intro fuel
 induction fuel with
 |zero=>
  intro listed G a w hsz hc hcl hR hQ;have hr:Region.ready .any ops listed=[]:=by
   cases h:Region.ready .any ops listed with
   |nil=>rfl
   |cons i rest=>
    exfalso
    have hm:i∈Region.ready .any ops listed:=by rw[h];simp
    obtain⟨h0,o,ho,_⟩:=mem_ready.1 hm;have hi:=(bSd.1 ho).1;have hb:listed.getD i false=false:=by
     rw[bQy,bQ4 (by omega)]at h0⊢;simpa using h0
    have:=bT1 (p:=fun i=>!listed.getD i false) (l:=List.range ops.size)|>.2 ⟨i,bRi.2 hi,by simp only[hb];rfl⟩
    omega
  exact⟨hr,done listed G a w hsz hr hR hQ⟩
 |succ fuel ih=>
  intro listed G a w hsz hc hcl hR hQ
  refine⟨fun hr=>done listed G a w hsz hr hR hQ,fun i hm=>?_⟩
  obtain⟨h0,o,ho,hready⟩:=mem_ready.1 hm;have hi:=(bSd.1 ho).1;have hoi:o=ops[i]:=by rw[bQ4 hi,bQi]at ho;exact ho.symm
  have hb:listed.getD i false=false:=by
   rw[bQy,bQ4 (by omega)]at h0⊢;simpa using h0
  have hdir: ∀k∈lL o,listed.getD k false=true:=by
   intro k hk;obtain⟨e,he,rfl⟩:=bRe.1 hk;obtain⟨he1,he2⟩:=bR6.1 he;exact hready e (by simpa using he1) he2
  have hst:=aBp hrun' (ord:=fun i j=>j<ops.size/\ i∈an.getD j []) (fun i j h=>hlt j i h.1 h.2) (fun i j hij hj ho=>hfree i j hij hj fun h=>ho ⟨hj,h⟩) (L:=fun i=>listed.getD i false)
   (fun j hj hLj i hord=>gP han hcl j _ (bQ4 hj) (hcl j _ (bQ4 hj) hLj) i hord.2) hi hb
   (fun k hk=>gP han hcl i o ho hdir k hk.2)
  have hset: ∀k,(listed.setIfInBounds i true).getD k false=(k==i||listed.getD k false):=by
   intro k
   by_cases hk:k=i
   ·subst hk;simp[show k<listed.size by omega]
   ·rw[getD_set_ne false fun e=>hk e.symm]
    have:(k==i)=false:=by simpa using hk
    rw[this,bRf]
  have hil:i<l.length:=by omega
  have hlow:=l2 i (by simpa using hi) hil
  simp only[bTf]at hlow;have hli:l.getD i default=l[i]:=by simp[bQn,hil]
  unfold wpOpIn;rw[bQ4 hi];have go: ∀a' w' G',Rel P (if(listed.setIfInBounds i true).getD A false=true then Ξ else Ξ.add kA) B S G' (dN (fun k=>eK ((iX A kA l).getD k default) (rs.getD k bW)) (fun k=>k==i||listed.getD k false) st ops.size) N a' w'->Below B w w'->wpAnyIn (Fx ro) m P .any ops Q fuel (listed.setIfInBounds i true) a' w':=by
   intro a' w' G' h1 h2
   refine ih _ G' a' w' (by simpa using hsz) ?_ ?_ ?_ fun a'' w'' G'' h3 h4=>hQ a'' w'' G'' h3 (h2.trans h4)
   ·have:=uA (fun i=>!listed.getD i false) (fun k=>!(listed.setIfInBounds i true).getD k false) i (by simp only[hb];rfl) (by simp only[hset];simp) (fun k hk=>by
     simp only[hset];have:(k==i)=false:=by simpa using hk
     rw[this,bRf]) ops.size hi
    omega
   ·intro j oj hoj hLj k hk;simp only[hset]at hLj⊢
    by_cases hj:j=i
    ·subst hj;rw[ho,bQi]at hoj;subst hoj;rw[hdir k hk,bSj]
    ·have:(j==i)=false:=by simpa using hj
     rw[this,bRf]at hLj;have h5:listed.getD k false=true:=hcl j oj hoj hLj k hk;rw[h5,bSj]
   ·rw[cH (L':=fun k=>k==i||listed.getD k false) fun k _=>hset k]
    exact h1
  by_cases hiA:i=A
  ·subst hiA;rw[if_neg (by rw[hb];simp)]at hR
   have hset':(listed.setIfInBounds i true).getD i false=true:=by rw[hset];simp
   rw[if_pos hset']at go;rw[uB hA,if_pos rfl]at hst;have hfold:dN (fun k=>eK ((iX i kA l).getD k default) (rs.getD k bW)) (fun k=>k==i||listed.getD k false) st ops.size=
     {dN (fun k=>eK ((iX i kA l).getD k default) (rs.getD k bW)) (fun k=>listed.getD k false) st ops.size with fr:=jD (dN (fun k=>eK ((iX i kA l).getD k default) (rs.getD k bW)) (fun k=>listed.getD k false) st ops.size).fr d (.ptr kA 0)}:=by
    rw[hAo]at hst;have h0: ∀X:St,step n call io 0 X (zK kA {dst:=some d,op:= .alloc z,guard:=none})=some ({X with fr:=jD X.fr d (.ptr kA 0)},{v:= .ptr kA 0}):=fun X=>rfl
    rw[h0]at hst;simp only[bQi,bQo]at hst;exact hst.1.symm
   rw[hfold]at go;have hlow':fE P I ops ops[i]=some {dst:=some d,op:= .alloc z,guard:=none}:=by rw[hlow,<-hli,hAo]
   have hdN:d<N:=by
    have:=bQp.1 hd _ (bQr hil);rw[<-hli,hAo]at this
    simpa using this
   refine aJl hR hvk hlow' hdN ?_ go
   rw[aAh ops.size fun q hq hLq=>?_]
   ·exact hek
   ·have hqi:q≠i:=by rintro rfl;rw[hb]at hLq;cases hLq
    have hqA: ¬i∈an.getD q []:=fun h=>by
     have:=gP han hcl q _ (bQ4 hq) (hcl q _ (bQ4 hq) hLq) i h;rw[hb]at this;cases this
    have:=bQp.1 hleft q (bRi.2 (by rw[hrl,pV,hN];exact hq))
    simp only[bRr,beq_iff_eq,hqi,false_or,bSf,bT8,hqA]at this;have hqr:q<rs.length:=by rw[hrl,pV,hN];exact hq
    rw[bRq hqr]at this
    simpa[bQn,hqr]using this
  ·rw[uB hA,if_neg hiA,hli]at hst;have hset':(listed.setIfInBounds i true).getD A false=listed.getD A false:=by
    rw[hset];have:(A==i)=false:=by simpa using fun e=>hiA e.symm
    rw[this,bRf]
   rw[hset']at go;exact oU hcall hio hR hlow (bQp.1 hd _ (bQr hil)) hst go
theorem aXn (hcall:lK P call)(hio:wY P io)(hpan:aQ4 P pan)(hpin:aQ5 P pin)(hl:cP (fE P I ops) ops.toList=some l)(hd:l.all (fun o=>o.dst.all (· <N))=true)(han:aQm ops=some an)
   (hps:fS an l=some ps)   {kA:Key} (hA:A<l.length) (hAo:l.getD A default={dst:=some d,op:= .alloc z,guard:=none}) (hvk: ¬Ξ.virt kA)  (hl':l'=iX A kA l) {st1:St}    (hj:j<l.length) (hjA:j≠A)
  (hrun:iU n call io 0 (dB an j l') st=some (st1,rs)) (hck:(dP rs ps&&jV an j l' rs)=true) (hleft:oR an A kA rs=true) (hek:st.en kA=some (.box z false)) (hpj:dQ n pan pin st1 (l'.getD j default)=some (v,st2)) 
     (hR0:Rel P (Ξ.add kA) B S G0 st N a0 w0) (hQ: ∀a' w' G' x,(Ex.panic v).val x->aMc P Ξ B S G' {fr:=fun t=>if mZ l' t then .tup []else st2.fr t,en:=st2.en,cnt:=st2.cnt} N (.panic v) a' w'->Below B w0 w'->Q ((Ex.panic v).toExit x) a' w'):
  wpAnyIn (Fx ro) m P .any ops Q ops.size (Array.replicate ops.size false) a0 w0:=by
 obtain⟨l1,l2⟩:=fH hl;have hN:l.length=ops.size:=by rw[l1];simp
 have hlen':l'.length=l.length:=by rw[hl',pV]
 have hget: ∀i,l'.getD i default=if i=A then zK kA (l.getD A default)else l.getD i default:=fun i=>by rw[hl'];exact uB hA i
 obtain⟨ps0,hps0,hsub0⟩:=aJn (k:=kA) hA hps;rw[<-hl']at hps0;simp only[jV,bQj,bQp,bRi,bRr]at hck;obtain⟨hok,hstill⟩:=hck;obtain⟨ps',hps',hsub⟩:=aCf (j:=j) hps0;have hok':=aAg hok fun p hp=>hsub0 p (hsub p hp)
 obtain⟨hrl,s,hrun',hsn⟩:=tZ hrun;have hN':(dB an j l').length=ops.size:=by rw[sO,hlen',hN]
 rw[hN']at hrun' hsn;have hlt:=aIe han;have hw: ∀i,i<(dB an j l').length->(((dB an j l').getD i default).op.writesMem=false->(rs.getD i bW).quiet)/\ (((dB an j l').getD i default).op.readsMem=false->(rs.getD i bW).rs=[]):=
  fun i hi=>(rQ (hrun'.step i (by omega))).2.2
 have hfree: ∀i k,i<k->k<ops.size-> ¬i∈an.getD k []->aH2 ((dB an j l').getD i default) ((dB an j l').getD k default) (rs.getD i bW) (rs.getD k bW):=
  fun i k hik hk ho=>aIf hps' hok' hw (fun j i hj hi=>hlt j i (by omega) hi) hik (by omega) ho
 have hjN:j<ops.size:=by omega
 have atj: ∀(L:Nat->Bool),yO ops L->(∀k,k∈an.getD j []->L k=true)->(∀k,behind an j k=true->L k=false)->
   dQ n pan pin (dN (fun k=>eK ((dB an j l').getD k default) (rs.getD k bW)) L st ops.size) (l'.getD j default)=
    some (v,{fr:=(dN (fun k=>eK ((dB an j l').getD k default) (rs.getD k bW)) L st ops.size).fr,en:=st2.en,cnt:=st2.cnt}):=by
  intro L hcl hanc hbeh;have hb: ∀k,k<ops.size->(rs.getD k bW).bump=true->((dB an j l').getD k default).dst.isSome=true:=fun k hk=>(rQ (hrun'.step k hk)).2.1
  have drop:=tY (E:=fun k=>eK ((dB an j l').getD k default) (rs.getD k bW)) (L:=fun _=>true) (s:=st) (n:=ops.size)
   (fun a b=>a.en=b.en/\ a.cnt=b.cnt/\ ∀t∈(l'.getD j default).uses,a.fr t=b.fr t) (fun _=>⟨rfl,rfl,fun _ _=>rfl⟩) (fun a b c h k=>⟨h.1.trans k.1,h.2.1.trans k.2.1,fun t ht=>(h.2.2 t ht).trans (k.2.2 t ht)⟩) L ops.size (bQk _) (fun k hk _ hLk=>by
    refine⟨fun s=>?_,fun k2 hk2 hk2N _ hLk2 s=>?_⟩
    ·by_cases hbk:behind an j k=true
     ·have hst:=hrun'.step k hk;rw[iD (by omega),if_pos hbk]at hst
      have hr:rs.getD k bW={v:= .nilp}:=by
       simp only[aIu,step,wanted,eval,St.get,bQi,bQo]at hst
       simp at hst
       exact hst.2.symm
      rw[iD (by omega),if_pos hbk,hr]
      exact⟨rfl,rfl,fun _ _=>rfl⟩
     ·have hnot: ¬k∈an.getD j []:=fun h=>by rw[hanc k h]at hLk;cases hLk
      have h0:=hstill k (by omega)
      simp only[hbk,bQm,false_or,bSf,bT8,hnot]at h0
      split at h0
      case h_2=>cases h0
      rename_i r hr;have hr':rs.getD k bW=r:=by simp[bQn,hr]
      rw[hr'];simp only[Res.still,bQj,bTn,bRw,bTo]at h0;obtain⟨⟨q1,q2⟩,q3⟩:=h0
      refine⟨by simp only[eK,q3,q1,W.applyAll,bS4],by simp only[eK,q3,q2,bQm,if_false],fun t ht=>?_⟩
      simp only[eK];rw[tC (by omega) hbk]
      refine pH fun d hd he=>?_
      subst he;simp only[fS]at hps0
      split at hps0
      case isFalse=>cases hps0
      rename_i hall;have hkj:k≠j:=fun e=>hbk (by simp[behind,e])
      have:=bQp.1 (bQp.1 hall j (bRi.2 (by omega))) k (bRi.2 (by omega))
      simp only[bRr,beq_iff_eq,hkj,false_or,hd]at this;simp only[bQj,bne_iff_ne,ne_eq,bRr,bRw,bSf,bT8,bT9]at this;rcases this.2 with h1|h1|h1
      ·exact h1 ht
      ·exact hnot h1
      ·exact hbk (by simp only[behind,bSf,bRr,bT8];exact .inr h1)
    ·have ho: ¬k∈an.getD k2 []:=fun h=>by
      have:=gP han hcl k2 _ (bQ4 hk2N) (hcl k2 _ (bQ4 hk2N) hLk2) k h;rw[this]at hLk;cases hLk
     exact(hfree k k2 hk2 hk2N ho).comm (hb k (by omega)) (hb k2 hk2N) s)
  have e1:dN (fun k=>eK ((dB an j l').getD k default) (rs.getD k bW)) (fun k=>true&&(L k||decide (k<ops.size))) st ops.size=st1:=by
   rw[cH (L':=fun _=>true) fun i hi=>by simp[hi],<-hrun'.fold _ (bQk _),hsn]
  have e2:dN (fun k=>eK ((dB an j l').getD k default) (rs.getD k bW)) (fun k=>true&&L k) st ops.size=dN (fun k=>eK ((dB an j l').getD k default) (rs.getD k bW)) L st ops.size:=by
   exact cH fun i _=>by simp
  rw[e1,e2]at drop;exact(sP hpj drop.1.symm drop.2.1.symm fun t ht=>(drop.2.2 t ht).symm).1
 have main: ∀(fuel:Nat) (listed:Array Bool) (G:Gh) (a:Act) (w:World),listed.size=ops.size->(List.range ops.size).countP (fun i=>!listed.getD i false)<=fuel->yO ops (fun i=>listed.getD i false)->(∀k,k<ops.size->behind an j k=true->listed.getD k false=false)->
   Rel P (if listed.getD A false=true then Ξ else Ξ.add kA) B S G (dN (fun k=>eK ((dB an j l').getD k default) (rs.getD k bW)) (fun i=>listed.getD i false) st ops.size) N a w->Below B w0 w->
   wpAnyIn (Fx ro) m P .any ops Q fuel listed a w:=by
  have jready: ∀(listed:Array Bool),listed.size=ops.size->listed.getD j false=false->Region.ready .any ops listed≠[]:=by
   intro listed hsz hb hr;have: ∀i,i<ops.size->listed.getD i false=true:=by
    intro i
    induction i using Nat.strongRecOn with
    |ind i ih=>
     intro hi;cases hb:listed.getD i false with
     |true=>rfl
     |false=>
      exfalso
      have hm:i∈Region.ready .any ops listed:=by
       rw[mem_ready]
       refine⟨?_,ops[i],bQ4 hi,fun e he hbd=>?_⟩
       ·rw[bQy,bQ4 (by omega)]at hb⊢;simpa using hb
       ·have hk:e.on∈lL ops[i]:=bRe.2 ⟨e,bR6.2 ⟨by simpa using he,hbd⟩,rfl⟩
        have:=(tB han (bQ4 hi)).1 _ hk;exact ih _ this (by omega)
      rw[hr]at hm;simp at hm
   rw[this j hjN]at hb;cases hb
  intro fuel
  induction fuel with
  |zero=>
   intro listed G a w hsz hc hcl hbeh hR hB
   exfalso
   have hb:=hbeh j hjN (by simp[behind])
   have:=bT1 (p:=fun i=>!listed.getD i false) (l:=List.range ops.size)|>.2 ⟨j,bRi.2 hjN,by simp only[hb];rfl⟩
   omega
  |succ fuel ih=>
   intro listed G a w hsz hc hcl hbeh hR hB
   refine⟨fun hr=>absurd hr (jready listed hsz (hbeh j hjN (by simp[behind]))),fun i hm=>?_⟩
   obtain⟨h0,o,ho,hready⟩:=mem_ready.1 hm;have hi:=(bSd.1 ho).1;have hoi:o=ops[i]:=by rw[bQ4 hi,bQi]at ho;exact ho.symm
   have hb:listed.getD i false=false:=by
    rw[bQy,bQ4 (by omega)]at h0⊢;simpa using h0
   have hdir: ∀k∈lL o,listed.getD k false=true:=by
    intro k hk;obtain⟨e,he,rfl⟩:=bRe.1 hk;obtain⟨he1,he2⟩:=bR6.1 he;exact hready e (by simpa using he1) he2
   have hanci: ∀k∈an.getD i [],listed.getD k false=true:=fun k hk=>gP han hcl i o ho hdir k hk
   have hil:i<l.length:=by omega
   have hlow:=l2 i (by simpa using hi) hil
   simp only[bTf]at hlow;have hli:l.getD i default=l[i]:=by simp[bQn,hil]
   unfold wpOpIn;rw[bQ4 hi]
   by_cases hij:i=j
   ·subst hij;have hp:=atj (fun i=>listed.getD i false) hcl hanci (fun k hk=>by
     by_cases hkN:k<ops.size
     ·exact hbeh k hkN hk
     ·rw[bQy,Array.getElem?_eq_none (by omega)];rfl)
    rw[hget,if_neg hjA,hli]at hp;obtain⟨q1,q2⟩:=wG (ops:=ops) (ro:=ro) (m:=m) (next:=fun a w=>wpAnyIn (Fx ro) m P .any ops Q fuel (listed.setIfInBounds i true) a w) (Q:=Q) hpan hpin hR hlow hp fun a' w' G' x h1 h2 h3=>by
     refine hQ a' w' G' x h1 ?_ (hB.trans h3)
     have hun: ∀{Ga:Gh} {sa:St} {aa:Act} {wa:World},Rel P (if listed.getD A false=true then Ξ else Ξ.add kA) B S Ga sa N aa wa->Rel P Ξ B S Ga sa N aa wa:=fun h=>by
      split at h
      ·exact h
      ·exact h.unadd
     replace h2:=hun h2
     have hfr:st2.fr=st1.fr:=(sP hpj rfl rfl fun _ _=>rfl).2
     refine⟨a'.tmps.mapIdx fun t y=>if mZ l' t then undef else y,?_,fun h=>(by cases h),fun t ht=>?_⟩
     ·refine⟨h2.size,by simpa using h2.tmps,fun t=>?_,h2.marks,h2.ents,h2.freshEn,h2.freshG,h2.own,h2.extra,h2.round,h2.defs,h2.virt⟩
      have hfrm:=h2.frame t
      simp only at hfrm⊢
      by_cases hdt:mZ l' t=true
      ·rw[if_pos hdt];have:(a'.tmps.mapIdx fun t y=>if mZ l' t then undef else y).getD t undef=undef:=by
        simp only[bQy,bTt];cases a'.tmps[t]? with
        |none=>rfl
        |some y=>simp[hdt]
       rw[this];exact .tup [] #[] rfl (fun i hi=>by simp at hi)
      ·rw[if_neg hdt];have e1:(a'.tmps.mapIdx fun t y=>if mZ l' t then undef else y).getD t undef=a'.tmps.getD t undef:=by
        simp only[bQy,bTt];cases a'.tmps[t]? with
        |none=>rfl
        |some y=>simp[hdt]
       have hne: ∀k,k<ops.size->((dB an i l').getD k default).dst≠some t:=by
        intro k hk he
        by_cases hbk:behind an i k=true
        ·rw[iD (by omega),if_pos hbk]at he
         cases he
        ·rw[tC (by omega) hbk]at he
         refine hdt ?_
         simp only[mZ,bTg,beq_iff_eq];exact⟨l'[k]'(by omega),bQr (by omega),by simpa[bQn,show k<l'.length by omega]using he⟩
       rw[aBq (r:=fun k=>rs.getD k bW) ops.size hne]at hfrm
       have e2:st2.fr t=st.fr t:=by
        rw[hfr,<-hsn,hrun'.fold _ (bQk _)];exact aBq (r:=fun k=>rs.getD k bW) ops.size hne
       rw[e1,e2];exact hfrm
     ·simp only at ht
      split at ht
      ·cases ht
      ·rename_i hdt;simp only[bQy,bTt];cases a'.tmps[t]? with
       |none=>rfl
       |some y=>simp[hdt]
    simp only[q1,if_true];exact q2
   ·have hbi: ¬behind an j i=true:=fun h=>by
     simp only[behind,bSf,bRr,beq_iff_eq,bT8]at h;rcases h with h|h
     ·exact hij h
     ·have:=hanci j h;rw[hbeh j hjN (by simp[behind])]at this;cases this
    have hst:=aBp hrun' (ord:=fun i j=>j<ops.size/\ i∈an.getD j []) (fun i j h=>hlt j i h.1 h.2) (fun i j hij hj ho=>hfree i j hij hj fun h=>ho ⟨hj,h⟩) (L:=fun i=>listed.getD i false)
     (fun j hj hLj i hord=>gP han hcl j _ (bQ4 hj) (hcl j _ (bQ4 hj) hLj) i hord.2) hi hb
     (fun k hk=>hanci k hk.2)
    rw[iD (by omega),if_neg hbi]at hst
    have hset: ∀k,(listed.setIfInBounds i true).getD k false=(k==i||listed.getD k false):=by
     intro k
     by_cases hk:k=i
     ·subst hk;simp[show k<listed.size by omega]
     ·rw[getD_set_ne false fun e=>hk e.symm]
      have:(k==i)=false:=by simpa using hk
      rw[this,bRf]
    have go: ∀a' w' G',Rel P (if(listed.setIfInBounds i true).getD A false=true then Ξ else Ξ.add kA) B S G' (dN (fun k=>eK ((dB an j l').getD k default) (rs.getD k bW)) (fun k=>k==i||listed.getD k false) st ops.size) N a' w'->Below B w w'->wpAnyIn (Fx ro) m P .any ops Q fuel (listed.setIfInBounds i true) a' w':=by
     intro a' w' G' h1 h2
     refine ih _ G' a' w' (by simpa using hsz) ?_ ?_ ?_ ?_ (hB.trans h2)
     ·have:=uA (fun i=>!listed.getD i false) (fun k=>!(listed.setIfInBounds i true).getD k false) i (by simp only[hb];rfl) (by simp only[hset];simp) (fun k hk=>by
       simp only[hset];have:(k==i)=false:=by simpa using hk
       rw[this,bRf]) ops.size hi
      omega
     ·intro j oj hoj hLj k hk;simp only[hset]at hLj⊢
      by_cases hj:j=i
      ·subst hj;rw[ho,bQi]at hoj;subst hoj;rw[hdir k hk,bSj]
      ·have:(j==i)=false:=by simpa using hj
       rw[this,bRf]at hLj;have h5:listed.getD k false=true:=hcl j oj hoj hLj k hk;rw[h5,bSj]
     ·intro k hkN hk;rw[hset];have:(k==i)=false:=by
       simp only[beq_eq_false_iff_ne,ne_eq]
       rintro rfl
       exact hbi hk
      rw[this,bRf];exact hbeh k hkN hk
     ·rw[cH (L':=fun k=>k==i||listed.getD k false) fun k _=>hset k]
      exact h1
    by_cases hiA:i=A
    ·subst hiA;rw[if_neg (by rw[hb];simp)]at hR
     have hset':(listed.setIfInBounds i true).getD i false=true:=by rw[hset];simp
     rw[if_pos hset']at go;have hnl:zJ an j l' i=false:=by
      unfold zJ;rw[hget,if_pos rfl];simp only[zK,bRp]
     rw[if_neg (by rw[hnl];simp),hget,if_pos rfl]at hst
     have hfold:dN (fun k=>eK ((dB an j l').getD k default) (rs.getD k bW)) (fun k=>k==i||listed.getD k false) st ops.size=
       {dN (fun k=>eK ((dB an j l').getD k default) (rs.getD k bW)) (fun k=>listed.getD k false) st ops.size with fr:=jD (dN (fun k=>eK ((dB an j l').getD k default) (rs.getD k bW)) (fun k=>listed.getD k false) st ops.size).fr d (.ptr kA 0)}:=by
      rw[hAo]at hst;have h0: ∀X:St,step n call io 0 X (zK kA {dst:=some d,op:= .alloc z,guard:=none})=some ({X with fr:=jD X.fr d (.ptr kA 0)},{v:= .ptr kA 0}):=fun X=>rfl
      rw[h0]at hst;simp only[bQi,bQo]at hst;exact hst.1.symm
     rw[hfold]at go;have hlow':fE P I ops ops[i]=some {dst:=some d,op:= .alloc z,guard:=none}:=by rw[hlow,<-hli,hAo]
     have hdN:d<N:=by
      have:=bQp.1 hd _ (bQr hil);rw[<-hli,hAo]at this
      simpa using this
     have hrl':rs.length=ops.size:=by rw[hrl,sO,hlen',hN]
     refine aJl hR hvk hlow' hdN ?_ go
     rw[aAh ops.size fun q hq hLq=>?_]
     ·exact hek
     ·have hqi:q≠i:=by rintro rfl;rw[hb]at hLq;cases hLq
      have hqA: ¬i∈an.getD q []:=fun h=>by
       have:=gP han hcl q _ (bQ4 hq) (hcl q _ (bQ4 hq) hLq) i h;rw[hb]at this;cases this
      have:=bQp.1 hleft q (bRi.2 (by omega))
      simp only[bRr,beq_iff_eq,hqi,false_or,bSf,bT8,hqA]at this;have hqr:q<rs.length:=by omega
      rw[bRq hqr]at this
      simpa[bQn,hqr]using this
    ·have hset':(listed.setIfInBounds i true).getD A false=listed.getD A false:=by
      rw[hset];have:(A==i)=false:=by simpa using fun e=>hiA e.symm
      rw[this,bRf]
     rw[hset']at go;rw[hget,if_neg hiA,hli]at hst
     by_cases hlo:zJ an j l' i=true
     ·rw[if_pos hlo]at hst;exact aJh hR hlow (bQp.1 hd _ (bQr hil)) (by simp only[zJ,bQj,hget,if_neg hiA,hli]at hlo⊢;exact⟨hlo.1.2,hlo.2⟩) hst go
     ·rw[if_neg hlo]at hst;exact oU hcall hio hR hlow (bQp.1 hd _ (bQr hil)) hst go
 refine main ops.size (Array.replicate ops.size false) G0 a0 w0 (by simp) (bQv bTu (by simp)) ?_ ?_ ?_ (Below.refl _ _)
 ·intro j o ho hL;simp[bSg]at hL
  split at hL<;>simp at hL
 ·intro k hk _;simp[bQy,bSg,hk]
 ·rw[cH (L':=fun _=>false) fun i _=>by simp[bSg];split<;>simp]
  have: ∀(k:Nat),dN (fun k=>eK ((dB an j l').getD k default) (rs.getD k bW)) (fun _=>false) st k=st:=by
   intro k;induction k with
   |zero=>rfl
   |succ k ih=>simp only[dN,bQm,if_false];exact ih
  have hf: ¬(Array.replicate ops.size false).getD A false=true:=by
   rw[bQy,bSg]
   split<;>simp
  rw[this,if_neg hf];exact hR0
end
theorem xA {L:bG}{x:Ex×St}(h:exec L n aIx st=some x):False:=by
 cases n<;>simp[aIx,exec,St.get]at h
theorem bAj {L:bG}(hL:pU P L)(hF:aF0 P L n)(ih:wH P L n):wY P (eQ L (exec L n)):=⟨aOw hL hF,bDp ih⟩
variable {ex:aY->St->Option (Ex×St)}
theorem bG1 {L:bG}(h:kQ L ex f args st=some (v,st')):st'.fr=st.fr:=by
 simp only[kQ]at h
 split at h
 ·cases h
 split at h
 case isFalse=>cases h
 split at h
 ·obtain⟨r,_,he⟩:=bQw.1 h;simp only[bQo]at he;rw[<-he.2]
 split at h
 case h_2=>cases h
 split at h
 case isFalse=>cases h
 obtain⟨vs,_,he⟩:=bQw.1 h;simp only[bQo]at he;rw[<-he.2]
theorem bG2 {L:bG}(h:dZ L ex f args st=some (v,st')):st'.fr=st.fr:=by
 simp only[dZ]at h
 split at h
 ·cases h
 split at h
 case isFalse=>cases h
 split at h
 case h_2=>cases h
 simp only[bQi,bQo]at h;rw[<-h.2]
theorem bDq {L:bG}(h:zY L ex f args st=some (v,st')):st'.fr=st.fr:=by
 simp only[zY]at h
 split at h
 case h_2=>cases h
 rename_i hi
 split at h
 case h_2=>cases h
 split at h
 case h_2=>cases h
 simp only[bQi,bQo]at h;have:=bG1 hi;rw[<-h.2];exact this
variable {ca cb:Code}
theorem aJo {L:bG}(hL:pU P L)(hF:aF0 P L n){ps:Array Tmp}{e:Ex}{W0:World}
     {x y:List Val} {p q:Array Value} (hps:ps.toList.all (· <N)=true) (haN:(cB P I ca).dstOk N=true) (hbN:(cB P I cb).dstOk N=true) (hR:Rel P Ξ B S G st N a0 W0) (hB0:Below B w W0)
  (hp:p.size=x.length) (hq:q.size=y.length) (hvp: ∀i,i<x.length->VR (aX B S G W0.heap.size) G W0 (x.getD i .dead) (p.getD i undef)) (hvq: ∀i,i<y.length->VR (aX B S G W0.heap.size) G W0 (y.getD i .dead) (q.getD i undef))
  (hcx:(∃v st2,zY L (exec L n) f (x++[.yld ⟨1,0,st.cnt 1 0⟩]++y) {fr:=st.fr,en:=st.en.set ⟨1,0,st.cnt 1 0⟩ (some (.loop st.fr ps.toList (cB P I ca) (cB P I cb) .ready)),cnt:=aC st.cnt 1 0 (st.cnt 1 0+1)}=some (v,st2)/\
   (match st2.en ⟨1,0,st.cnt 1 0⟩with
   |some (.loop _ _ _ _ .ready)=>some (.normal,{st2 with en:=st2.en.set ⟨1,0,st.cnt 1 0⟩ none})
   |some (.loop _ _ _ _ (.done e))=>some (e,{st2 with en:=st2.en.set ⟨1,0,st.cnt 1 0⟩ none})
   |_=>none:Option (Ex×St))=some (e,st')) \/
   ∃v st2,dZ L (exec L n) f (x++[.yld ⟨1,0,st.cnt 1 0⟩]++y) {fr:=st.fr,en:=st.en.set ⟨1,0,st.cnt 1 0⟩ (some (.loop st.fr ps.toList (cB P I ca) (cB P I cb) .ready)),cnt:=aC st.cnt 1 0 (st.cnt 1 0+1)}=some (v,st2)/\
    e= .panic v/\ st'={st2 with en:=st2.en.set ⟨1,0,st.cnt 1 0⟩ none}) (hQ: ∀a' w' G' x,e.val x->aMc P Ξ B S G' st' N e a' w'->Below B w w'->Q (e.toExit x) a' w') (rec:Loop)
  (hrec:rec.state= .ready/\ rec.pending=none/\ rec.tmps=a0.tmps/\ rec.params=ps/\ rec.assign=ca/\ rec.body=cb) (mm:Nat):
  CallsIn (Fx Ξ.ro) mm P f (p++ #[.func (.yield W0.heap.size) #[] #[]]++q) (W0.alloc (.loop rec)) (rangePost (Fx Ξ.ro) m P W0.heap.size Q a0):=by
 obtain⟨rfl1,rfl2,rfl3,rfl4,rfl5,rfl6⟩:=hrec;obtain⟨k,hk⟩: ∃k:Key,k=⟨1,0,st.cnt 1 0⟩:=⟨_,rfl⟩
 have hf:=hR.freshG ⟨1,0,st.cnt 1 0⟩ (bQk _);have hg:=Gh.le_addMp (b:=W0.heap.size) hf.2.2;have ho': ∀b,b≠W0.heap.size->(G.addMp ⟨1,0,st.cnt 1 0⟩ W0.heap.size).own b=G.own b:=fun b hb=>by simp[Gh.addMp,hb]
 have mm1:=rB (B:=B) (S:=S) (w:=W0) (o:= .loop rec) hg ho';have hnew:(W0.alloc (.loop rec)).heap[W0.heap.size]?=some (.loop rec):=gF _ _;have hsz:N<=rec.tmps.size:=by rw[rfl3];exact hR.tmps
 have hfrm: ∀i,VR (aX B S (G.addMp ⟨1,0,st.cnt 1 0⟩ W0.heap.size) (W0.alloc (.loop rec)).heap.size) (G.addMp ⟨1,0,st.cnt 1 0⟩ W0.heap.size) (W0.alloc (.loop rec)) (st.fr i) (rec.tmps.getD i undef):=fun i=>by rw[rfl3];exact(hR.frame i).mono mm1
 have hmk:(G.addMp ⟨1,0,st.cnt 1 0⟩ W0.heap.size).mp ⟨1,0,st.cnt 1 0⟩=some W0.heap.size:=by simp[Gh.addMp]
 have how:(G.addMp ⟨1,0,st.cnt 1 0⟩ W0.heap.size).own W0.heap.size=some (⟨1,0,st.cnt 1 0⟩,0):=by simp[Gh.addMp]
 have hE:ER P B (aX B S (G.addMp ⟨1,0,st.cnt 1 0⟩ W0.heap.size) (W0.alloc (.loop rec)).heap.size) (G.addMp ⟨1,0,st.cnt 1 0⟩ W0.heap.size) (W0.alloc (.loop rec)) ⟨1,0,st.cnt 1 0⟩ (.loop st.fr ps.toList (cB P I ca) (cB P I cb) .ready):=
  ER.loop st.fr ps.toList (cB P I ca) (cB P I cb) .ready W0.heap.size rec I N hmk hR.size hnew (by rw[rfl4]) (by rw[rfl5]) (by rw[rfl6]) hsz hps haN hbN hfrm ⟨rfl1,rfl2⟩ how
 have hR1:=hR.allocN 1 0 (.loop rec) (.loop st.fr ps.toList (cB P I ca) (cB P I cb) .ready) (G.addMp ⟨1,0,st.cnt 1 0⟩ W0.heap.size) hg ho' (fun k' hk'=>⟨rfl,rfl,by simp[Gh.addMp,hk']⟩) (fun k' t h=>by rw[how]at h;simp only[bQi,bQo]at h;exact h.1.symm) hE
 let Ξ2:Env:={Ξ with prs:=fun u z=>Ξ.prs u z \/(u= .yld ⟨1,0,st.cnt 1 0⟩/\ z= .func (.yield W0.heap.size) #[] #[])}
 have hyl:VR (aX B S (G.addMp ⟨1,0,st.cnt 1 0⟩ W0.heap.size) (W0.alloc (.loop rec)).heap.size) (G.addMp ⟨1,0,st.cnt 1 0⟩ W0.heap.size) (W0.alloc (.loop rec)) (.yld ⟨1,0,st.cnt 1 0⟩) (.func (.yield W0.heap.size) #[] #[]):= .yld _ _ (by simp[Gh.addMp])
 have hR2:Rel P Ξ2 B S (G.addMp ⟨1,0,st.cnt 1 0⟩ W0.heap.size) {fr:=st.fr,en:=st.en.set ⟨1,0,st.cnt 1 0⟩ (some (.loop st.fr ps.toList (cB P I ca) (cB P I cb) .ready)),cnt:=aC st.cnt 1 0 (st.cnt 1 0+1)} N a0 (W0.alloc (.loop rec)):=
  ⟨hR1.size,hR1.tmps,hR1.frame,hR1.marks,hR1.ents,hR1.freshEn,hR1.freshG,hR1.own,fun u z hu=>hu.elim (fun hu=>hu.elim (fun h=>hR1.extra u z (.inl h)) fun h=>by rw[h.1,h.2];exact hyl) fun h=>hR1.extra u z (.inr h),hR1.round,hR1.defs,hR1.virt⟩
 have hszv:(p++ #[Value.func (.yield W0.heap.size) #[] #[]]++q).size=(x++[Val.yld ⟨1,0,st.cnt 1 0⟩]++y).length:=by simp only[bTl,bQ2,hp,hq];rfl
 have hvrs: ∀i,i<(x++[Val.yld ⟨1,0,st.cnt 1 0⟩]++y).length->VR (aX B S (G.addMp ⟨1,0,st.cnt 1 0⟩ W0.heap.size) (W0.alloc (.loop rec)).heap.size) (G.addMp ⟨1,0,st.cnt 1 0⟩ W0.heap.size) (W0.alloc (.loop rec))
   ((x++[Val.yld ⟨1,0,st.cnt 1 0⟩]++y).getD i .dead) ((p++ #[Value.func (.yield W0.heap.size) #[] #[]]++q).getD i undef):=by
  intro i hi;simp only[bQ2,bQu,bQz]at hi;simp only[bQn,bQy,bTc,bTd,bQ2,bTl,bQu,bQz,hp];rw[show(#[Value.func (.yield W0.heap.size) #[] #[]]:Array Value).size=1 from rfl]
  split
  ·split
   ·rename_i h;have:=(hvp i h).mono mm1;simpa[bQn,bQy]using this
   ·have:i-x.length=0:=by omega
    rw[this];exact hyl
  ·have:=(hvq (i-(x.length+(0+1))) (by omega)).mono mm1;simpa[bQn,bQy]using this
 rcases hcx with⟨v,st2,hcall,hx⟩|⟨v,st2,hcall,rfl,rfl⟩
 case inr=>
  obtain⟨_,hcalls⟩:=aJk hL hF _ _ _ _ _ hcall;have hc:=hcalls Ξ2 B S _ _ N a0 _ _ hR2 rfl rfl hszv hvrs
  refine pG (ro:=Ξ.ro) (m:=mm) (Calls.mono hc ?_)
  rintro e1 w3 ⟨z,G3,rfl,hzv,hR3,hb3⟩
  have hb:Below B w w3:=(hB0.trans ((Below.refl B W0).alloc hR.size _)).trans hb3;have hw':=hR3.drop ⟨1,0,st.cnt 1 0⟩;have hfr:=bG2 hcall
  refine hQ a0 w3 G3 z hzv ?_ hb
  have hst:({st2 with en:=st2.en.set ⟨1,0,st.cnt 1 0⟩ none}:St)={fr:=st.fr,en:=st2.en.set ⟨1,0,st.cnt 1 0⟩ none,cnt:=st2.cnt}:=by rw[<-hfr]
  rw[hst]
  refine Rel.e (Ξ:=Ξ) ⟨hw'.size,hw'.tmps,hw'.frame,hw'.marks,hw'.ents,hw'.freshEn,hw'.freshG,hw'.own,fun u z hu=>hw'.extra u z (hu.imp_left .inl),hw'.round,hw'.defs,hw'.virt⟩
 obtain⟨_,hcalls⟩:=aOw hL hF _ _ _ _ _ hcall;have hc:=hcalls Ξ2 B S _ _ N a0 _ _ hR2 rfl rfl hszv hvrs
 refine pG (ro:=Ξ.ro) (m:=mm) (Calls.mono hc ?_)
 ·rintro e1 w3 ⟨z,G3,rfl,hR3,_,hb3⟩
  have hb:Below B w w3:=(hB0.trans ((Below.refl B W0).alloc hR.size _)).trans hb3;have hy3:=hR3.extra (.yld ⟨1,0,st.cnt 1 0⟩) (.func (.yield W0.heap.size) #[] #[]) (.inl (.inr ⟨rfl,rfl⟩));have hfr:=bDq hcall;have done: ∀{fr3:Nat->Val} {ps3:List Nat} {la3 lb3:aY} {q3:LSt},st2.en ⟨1,0,st.cnt 1 0⟩=some (.loop fr3 ps3 la3 lb3 q3)->q3≠ .busy-> ∃rec3,w3.heap[W0.heap.size]?=some (.loop rec3)/\ aZr q3 rec3/\ (rec3.state≠ .busy->
    Rel P Ξ B S G3 {fr:=st.fr,en:=st2.en.set ⟨1,0,st.cnt 1 0⟩ none,cnt:=st2.cnt} N a0 (w3.putObj W0.heap.size (.loop {rec3 with state:= .exhausted}))/\ Below B w (w3.putObj W0.heap.size (.loop {rec3 with state:= .exhausted}))):=by
   intro fr3 ps3 la3 lb3 q3 he3 _;cases hy3 with
   |yld _ _ hmp3=>
   have hE:=hR3.ents _ _ he3 (Gh.knows_mp hmp3);cases hE with
   |loop _ _ _ _ _ l3 rec3 I3 N3 hl3 hB3 hh3 hps3 ha3 hb3' hN3 hpN3 haN3 hbN3 hf3 hst3 hown3=>
   rw[hmp3]at hl3;simp only[bQi]at hl3;subst hl3
   refine⟨rec3,hh3,hst3,fun _=>?_⟩
   have hw:=(hR3.write (e':= .loop fr3 ps3 la3 lb3 .over) (o':= .loop {rec3 with state:= .exhausted}) hown3 hh3 (fun _ _=> .inl (by simp)) (fun _=>by simp) (fun r _=>⟨_,rfl⟩) (fun off h=>by omega)
    (fun m=> .loop fr3 ps3 la3 lb3 .over _ _ I3 N3 hmp3 hB3 (kV _ (dX hh3)) hps3 ha3 hb3' hN3 hpN3 haN3 hbN3 (fun i=>(hf3 i).mono m) rfl hown3)).drop ⟨1,0,st.cnt 1 0⟩
   rw[aHa]
   refine⟨?_,hb.trans (tA hB3)⟩
   have hen:(st2.en.set ⟨1,0,st.cnt 1 0⟩ (some (.loop fr3 ps3 la3 lb3 .over))).set ⟨1,0,st.cnt 1 0⟩ none=st2.en.set ⟨1,0,st.cnt 1 0⟩ none:=by
    funext k';simp only[En.set];split<;>rfl
   have hw':Rel P Ξ2 B S G3 {fr:=st.fr,en:=st2.en.set ⟨1,0,st.cnt 1 0⟩ none,cnt:=st2.cnt} N a0 (kJ w3 W0.heap.size (.loop {rec3 with state:= .exhausted})):=by
    rw[<-hen];exact hw
   exact⟨hw'.size,hw'.tmps,hw'.frame,hw'.marks,hw'.ents,hw'.freshEn,hw'.freshG,hw'.own,fun u z hu=>hw'.extra u z (hu.imp_left .inl),hw'.round,hw'.defs,hw'.virt⟩
  have hst:({fr:=st2.fr,en:=st2.en.set ⟨1,0,st.cnt 1 0⟩ none,cnt:=st2.cnt}:St)={fr:=st.fr,en:=st2.en.set ⟨1,0,st.cnt 1 0⟩ none,cnt:=st2.cnt}:=by rw[hfr]
  split at hx
  ·rename_i he3;obtain⟨rec3,hh3,hq3,hfin⟩:=done he3 (by simp)
   obtain⟨r1,r2⟩:=hfin (by rw[hq3.1];simp)
   simp only[bQi,bQo]at hx;obtain⟨rfl,rfl⟩:=hx
   refine⟨_,_,run_endLoop hh3 (by rw[hq3.1];simp),?_⟩
   have hq:=hQ a0 _ G3 undef trivial (by rw[hst];exact r1.e) r2
   split
   ·exact hq
   ·rename_i c hc;rw[hq3.2]at hc;cases hc
  ·rename_i e3 he3;obtain⟨rec3,hh3,hq3,hfin⟩:=done he3 (by simp)
   obtain⟨r1,r2⟩:=hfin (by rw[hq3.1];simp)
   simp only[bQi,bQo]at hx;obtain⟨rfl,rfl⟩:=hx
   refine⟨_,_,run_endLoop hh3 (by rw[hq3.1];simp),?_⟩
   have hq:=hQ a0 _ G3 undef (by cases e3<;>first|trivial|(have:=hq3.2.2.2;cases this)) (by rw[hst];exact r1.e) r2
   split
   ·rename_i hc;rw[hq3.2.1]at hc;cases hc
   rename_i c hc;rw[hq3.2.1,bQi]at hc;subst hc;cases e3 with
   |normal=>exact absurd rfl hq3.2.2.1
   |panic v=>have:=hq3.2.2.2;cases this
   |exit id=>exact wpIn_exit hq
   |ret=>exact wpIn_ret hq
  ·cases hx
theorem aUf {L:bG}(hL:pU P L)(hF:aF0 P L n){g:Operand}{g':Opd}{ps:Array Tmp}{e:Ex}
    (hg:aO g=some g') (hps:ps.toList.all (· <N)=true) (haN:(cB P I ca).dstOk N=true) (hbN:(cB P I cb).dstOk N=true) (hnm:Ξ.nm=false) (hR:Rel P Ξ B S G st N a w)
  (hx:nQ L (exec L n) (St.get st.fr g') ps.toList (cB P I ca) (cB P I cb) st=some (e,st')) (hQ: ∀a' w' G' x,e.val x->aMc P Ξ B S G' st' N e a' w'->Below B w w'->Q (e.toExit x) a' w'):
  (Code.rangeFunc g ps ca cb).wpIn (Fx Ξ.ro) m P Q a w:=by
 unfold nQ at hx
 split at hx
 case h_2=>cases hx
 rename_i f x y hgv;have hG:=aU hR hg;rw[hgv]at hG;generalize hgF:a.eval g=uF at hG;cases hG with
 |fn _ _ _ p q hp hq hvp hvq=>
 simp only at hx
 obtain⟨⟨fn,hfn,hnm1,hbody⟩,hcx⟩:(∃fn,P.funcs[f]?=some fn∧(fn.name== "runtime.NumGoroutine")=false∧fn.body.isNone=false)∧((∃v st2,zY L (exec L n) f (x++[.yld ⟨1,0,st.cnt 1 0⟩]++y) {fr:=st.fr,en:=st.en.set ⟨1,0,st.cnt 1 0⟩ (some (.loop st.fr ps.toList (cB P I ca) (cB P I cb) .ready)),cnt:=aC st.cnt 1 0 (st.cnt 1 0+1)}=some (v,st2)∧
   (match st2.en ⟨1,0,st.cnt 1 0⟩with
   |some (.loop _ _ _ _ .ready)=>some (.normal,{st2 with en:=st2.en.set ⟨1,0,st.cnt 1 0⟩ none})
   |some (.loop _ _ _ _ (.done e))=>some (e,{st2 with en:=st2.en.set ⟨1,0,st.cnt 1 0⟩ none})
   |_=>none:Option (Ex×St))=some (e,st')) \/
   ∃v st2,dZ L (exec L n) f (x++[.yld ⟨1,0,st.cnt 1 0⟩]++y) {fr:=st.fr,en:=st.en.set ⟨1,0,st.cnt 1 0⟩ (some (.loop st.fr ps.toList (cB P I ca) (cB P I cb) .ready)),cnt:=aC st.cnt 1 0 (st.cnt 1 0+1)}=some (v,st2)/\
    e= .panic v/\ st'={st2 with en:=st2.en.set ⟨1,0,st.cnt 1 0⟩ none}):=by
  split at hx
  ·rename_i v st2 hcall;exact⟨(aOw hL hF _ _ _ _ _ hcall).1,.inl ⟨v,st2,hcall,hx⟩⟩
  ·split at hx
   case h_2=>cases hx
   rename_i v st2 hcall;simp only[bQi,bQo]at hx;exact⟨(aJk hL hF _ _ _ _ _ hcall).1,.inr ⟨v,st2,hcall,hx.1.symm,hx.2.symm⟩⟩
 have hnm': ¬fn.name= "runtime.NumGoroutine" :=by simpa using hnm1
 have hbody': ¬fn.body=none:=by intro h;rw[h]at hbody;cases hbody
 have call: ∀(l:Nat) (W:World),(resolve a.eval (rangeCall g l) 0).run P W= .ok {target:= .fn (.func f) q,args:=p++ #[.func (.yield l) #[] #[]]} W/\
   (invoke (.fn (.func f) q) (p++ #[.func (.yield l) #[] #[]])).run P W= .ok (.enter f (p++ #[.func (.yield l) #[] #[]]++q)) W:=by
  intro l W;constructor
  ·have hc:a.eval (.const (.func (.yield l) #[] #[]))= .func (.yield l) #[] #[]:=rfl;simp[resolve,rangeCall,hgF,Deferred.ofValue,hc]
  ·simp[invoke,callFunc,hfn,hnm',hbody']
 refine wpIn_rangeFunc fun fnid _=>?_
 have below_vr: ∀{W:World},Below w.heap.size w W->(∀i,i<x.length->VR (aX B S G W.heap.size) G W (x.getD i .dead) (p.getD i undef))/\ ∀i,i<y.length->VR (aX B S G W.heap.size) G W (y.getD i .dead) (q.getD i undef):=
  fun hb=>⟨fun i hi=>(hvp i hi).mono (rA hb),fun i hi=>(hvq i hi).mono (rA hb)⟩
 cases hro:Ξ.ro with
 |none=>
  have hb0:Below w.heap.size w (w.alloc (.deferred (some []))):=(Below.refl _ w).alloc (bQk _) _;have hR0:=hR.below hb0;obtain⟨Ds,d1,d2,d3⟩:=hR0.marks;have hnew:(w.alloc (.deferred (some []))).heap[w.heap.size]?=some (.deferred (some [])):=gF _ _;have hold: ∀D∈Ds,D<w.heap.size:=fun D hD=>by
   obtain⟨Ds',d1',d2',d3'⟩:=hR.marks;have:Ds.map mark=Ds'.map mark:=List.append_cancel_right (by rw[<-d1,<-d1'])
   have hm:mark D∈Ds'.map mark:=by rw[<-this];exact bRe.2 ⟨D,hD,rfl⟩
   obtain⟨D',h1,h2⟩:=bRe.1 hm;have:D'=D:=by simpa[mark]using h2
   subst this;exact dX (d3' _ h1).2.2
  have hR1:Rel P Ξ B S G st N {a with defers:=[mark w.heap.size]++a.defers} (w.alloc (.deferred (some []))):=
   ⟨hR0.size,hR0.tmps,hR0.frame,⟨w.heap.size::Ds,by simp[d1],⟨by rw[List.nodup_cons];exact⟨fun h=>by have:=hold _ h;omega,d2.1⟩,fun h=>by rw[hnm]at h;cases h⟩,fun D hD=>by
     rcases bRm.1 hD with rfl|hD
     ·exact⟨hR.size,fun h=>by have:=dX (hR.defs _ h);omega,hnew⟩
     ·exact d3 D hD⟩,hR0.ents,hR0.freshEn,hR0.freshG,hR0.own,hR0.extra,hR0.round,hR0.defs,hR0.virt⟩
  obtain⟨v1,v2⟩:=below_vr hb0
  refine⟨_,_,_,_,_,f,_,_,by rw[show(Fx none).round=none from rfl];exact run_enterLoop_outer fnid a.tmps ps ca cb,(call _ _).1,fun _ _=>trivial,(call _ _).2,fun h=>by simp[Fx,Fence.wide]at h,?_⟩
  have:=aJo hL hF (Q:=Q) (m:=m) hps haN hbN hR1 (Below.mono hb0 hR.size) hp hq v1 v2 hcx hQ {state:= .ready,pending:=none,fn:=fnid,tmps:=a.tmps,params:=ps,assign:=ca,body:=cb,defers:=w.heap.size} ⟨rfl,rfl,rfl,rfl,rfl,rfl⟩ (m-1);rw[hro,size_alloc]at this;exact this
 |some l0=>
  obtain⟨r0,hr0⟩:=hR.round l0 (.inl hro)
  refine⟨_,_,_,_,_,f,_,_,by rw[show(Fx (some l0)).round=some l0 from rfl];exact run_enterLoop_inner hr0 fnid a.tmps ps ca cb,(call _ _).1,fun _ _=>trivial,(call _ _).2,fun h=>by simp[Fx,Fence.wide]at h,?_⟩
  have:=aJo hL hF (Q:=Q) (m:=m) hps haN hbN hR (Below.refl _ _) hp hq hvp hvq hcx hQ {state:= .ready,pending:=none,fn:=fnid,tmps:=a.tmps,params:=ps,assign:=ca,body:=cb,defers:=r0.defers} ⟨rfl,rfl,rfl,rfl,rfl,rfl⟩ (m-1);rw[hro]at this;exact this
variable {c:Code}
section
variable {b:Frame}{k:List Item}{cs:List Frame}{F:Fence}
theorem nY :Go.step P (lone (b.atR a (.code (.scope c)::k)) cs w)= .next (lone (b.atR a (.code c:: .inScope c::k)) cs w):=
 step_lone_go (by simp[stepG,stepG.exec,Frame.atR])
theorem aJp :Go.step P (lone (b.atR a (.inScope c::k)) cs w)= .next (lone (b.atR a k) cs w):=
 step_lone_go (by simp[stepG,stepG.exec,Frame.atR])
theorem aQ8 (h:c.wpIn F n P (Exit.noGoto Q) a w):(Code.scope c).wpIn F n P Q a w:=by
 intro b k cs hro hb hr;have h0:(lone (b.atR a (.code (.scope c)::k)) cs w).fenced P F:=fenced_calm hb hr rfl;obtain⟨e,a₁,w₁,hq,harr⟩:=h b (.inScope c::k) cs hro hb hr;cases e with
 |normal=>exact⟨.normal,a₁,w₁,hq,.head h0 nY (StepsIn.trans harr (.one (fenced_calm hb hr rfl) aJp))⟩
 |exit id'=>
  have hx:exitTo id' (.inScope c::k)=exitTo id' k:=by simp[exitTo]
  exact⟨.exit id',a₁,w₁,hq,fun k' hk=> .head h0 nY (harr.1 k' (by rw[hx];exact hk)),
   fun hr' hk=>let ⟨k₁,h1,h2⟩:=harr.2 hr' (by rw[hx];exact hk);⟨k₁,h1,.head h0 nY h2⟩⟩
 |goto l=>exact hq.elim
 |ret=>exact⟨_,a₁,w₁,hq,.of_steps (.one h0 nY) harr⟩
 |panic ch=>exact⟨_,a₁,w₁,hq,.of_steps (.one h0 nY) harr⟩
 |outgrown=>exact⟨_,a₁,w₁,hq,.of_steps (.one h0 nY) harr⟩
end
theorem aXo (hm:P.follows .mixedOrders=true){L:bG}(hL:pU P L)(hc:lK P (bI L 8 (exec L n)))(hF:aF0 P L n)(ihs: ∀m,m<=n->wH P L m):wH P L (n+1):=by
 have ih:=ihs n (bQk _);have hio:=bAj hL hF ih;intro I N c
 induction c<;>intro st e st' Ξ B S G a w Q m hd hnr hR hx hQ
 case skip=>
  simp only[cB,exec,bQi,bQo]at hx;obtain⟨rfl,rfl⟩:=hx;exact wpIn_skip (hQ a w G undef trivial hR.e (Below.refl _ _))
 case label l=>
  simp only[cB,exec,bQi,bQo]at hx;obtain⟨rfl,rfl⟩:=hx;exact wpIn_label (hQ a w G undef trivial hR.e (Below.refl _ _))
 case region id ops dr=>
  cases dr with
  |false=>
   simp only[cB,bQm,if_false]at hd hx;cases hlow:cP (fE P I ops) ops.toList with
   |none=>rw[hlow]at hx;exact(xA hx).elim
   |some l=>
    rw[hlow]at hx hd;simp only[bRd,bRc]at hx hd;cases hX:l.any (aDz I)with
    |true=>
     simp only[hX,if_true]at hx hd;rw[exec]at hx
     refine wpIn_region ?_
     rw[bTr];exact aT9 hc hio (aUe hL hF) (aJk hL hF) hlow hd ops.size 0 st st' e G a w (by omega) hR (by simpa using hx) hQ
    |false=>
    simp only[hX,bQm,if_false]at hx hd;rw[exec]at hx;obtain⟨s1,hrun,he⟩:=bQw.1 hx;simp only[bQo]at he;obtain⟨rfl,rfl⟩:=he
    refine wpIn_region ?_
    rw[bTr];exact aXk hc hio hlow hd ops.size 0 st s1 G a w (by omega) hR (by simpa using hrun) fun a' w' G' h1 h2=>hQ a' w' G' undef trivial h1.e h2
  |true=>
   simp only[cB,if_true]at hd hx;cases hld:aOd P I ops with
   |none=>rw[hld]at hx;exact(xA hx).elim
   |some c'=>
    rw[hld]at hx hd;simp only[aOd,bQ6,bQx,bQ8,bQi]at hld;obtain⟨l,hlow,an,han,ps,hps,rfl⟩:=hld;have hb:Below w.heap.size w {w with drawn:=w.drawn+1}:=(Below.refl _ w).drew;have hd':l.all (fun o=>o.dst.all (· <N))=true:=by
     cases hX:l.any (aDz I)with
     |false=>simpa[hX,aY.dstOk]using hd
     |true=>
      cases hlt:aTq an l<;>simpa[hX,hlt,aY.dstOk]using hd
    have drawOk: ∀s1 rs,iU 8 (bI L 8 (exec L n)) (eQ L (exec L n)) 0 l st=some (s1,rs)->dP rs ps=true->e= .normal->st'=s1->(Code.region id ops true).wpIn (Fx Ξ.ro) m P Q a w:=by
     rintro s1 rs hrun hok rfl rfl
     refine wpIn_region_any hm (aXl (Ξ:=Ξ) (B:=B) (S:=S) hc hio hlow hd' han hps hrun hok ops.size (Array.replicate ops.size false) G a _ (by simp) ?_ ?_ ?_ ?_)
     ·refine bQv bTu (by simp)
     ·intro j o ho hL;simp[bSg]at hL
      split at hL<;>simp at hL
     ·rw[cH (L':=fun _=>false) fun i _=>by simp[bSg];split<;>simp]
      have: ∀(k:Nat),dN (fun k=>eK (l.getD k default) (rs.getD k bW)) (fun _=>false) st k=st:=by
       intro k;induction k with
       |zero=>rfl
       |succ k ih=>simp only[dN,bQm,if_false];exact ih
      rw[this];exact hR.below hb
     ·exact fun a' w' G' h1 h2=>hQ a' w' G' undef trivial h1.e ⟨h2.os,h2.tape,h2.output,h2.size,h2.block⟩
    cases hX:l.any (aDz I)with
    |true=>
     simp only[hX,if_true,bRc]at hx;cases hlt:aTq an l with
     |some A=>
      simp only[hlt]at hx;rw[exec]at hx;have hlate:=List.find?_some hlt;have hA:A<l.length:=bRi.1 (List.mem_of_find?_eq_some hlt);simp only[aZp,bQj,bTn,bTo,bSa]at hlate;obtain⟨⟨⟨⟨_,hg⟩,hop⟩,d,hdst⟩,_⟩:=hlate;obtain⟨z,hAo⟩: ∃z,l.getD A default={dst:=some d,op:= .alloc z,guard:=none}:=by
       generalize l.getD A default=o at hg hop hdst;obtain⟨od,oo,og⟩:=o
       simp only at hg hop hdst
       subst hg hdst;cases oo<;>first|exact⟨_,rfl⟩|cases hop
      have hkey:iG st (l.getD A default)=⟨0,d,st.cnt 0 d⟩:=by rw[hAo];rfl
      have hz:aMp (l.getD A default).op=z:=by rw[hAo];rfl
      rw[hkey,hz]at hx;have hvk: ¬Ξ.virt ⟨0,d,st.cnt 0 d⟩:=fun hv=>by have:=(hR.virt _ hv).2;simp at this
      have hR':=(hR.below hb).reserve (k:=⟨0,d,st.cnt 0 d⟩) (z:=z) rfl;have hek:(vH ⟨0,d,st.cnt 0 d⟩ z st).en ⟨0,d,st.cnt 0 d⟩=some (.box z false):=by simp[vH,En.set]
      unfold wU at hx
      split at hx
      ·rename_i j hj
       split at hx
       case h_2=>cases hx
       rename_i s1 rs hrun
       split at hx
       case isFalse=>cases hx
       rename_i hck;rw[bQj]at hck
       split at hx
       case h_2=>cases hx
       rename_i v s2 hpj;simp only[bQi,bQo]at hx;obtain⟨rfl,rfl⟩:=hx;have hjl:j<l.length:=by have:=aJi _ hj;rw[pV]at this;omega
       have hjA:j≠A:=by
        rintro rfl
        rw[uB hA,if_pos rfl]at hpj;simp[dQ,zK,wanted]at hpj
       exact wpIn_region_any hm (aXn (Ξ:=Ξ) (B:=B) (S:=S) hc hio (aUe hL hF) (aJk hL hF) hlow hd' han hps hA hAo hvk rfl hjl hjA hrun hck.1 hck.2 hek hpj hR'
        fun a' w' G' x h1 h2 h3=>hQ a' w' G' x h1 h2 ⟨h3.os,h3.tape,h3.output,h3.size,h3.block⟩)
      ·split at hx
       case h_2=>cases hx
       rename_i s1 rs hrun
       split at hx
       case isFalse=>cases hx
       rename_i hck;rw[bQj]at hck;simp only[bQi,bQo]at hx;obtain⟨rfl,rfl⟩:=hx
       refine wpIn_region_any hm (bAi (Ξ:=Ξ) (B:=B) (S:=S) hc hio hlow hd' han hps hA hAo hvk hrun hck.1 hck.2 hek ops.size (Array.replicate ops.size false) G a _ (by simp) ?_ ?_ ?_ ?_)
       ·refine bQv bTu (by simp)
       ·intro j o ho hL;simp[bSg]at hL
        split at hL<;>simp at hL
       ·rw[cH (L':=fun _=>false) fun i _=>by simp[bSg];split<;>simp]
        have: ∀(k:Nat),dN (fun k=>eK ((iX A ⟨0,d,st.cnt 0 d⟩ l).getD k default) (rs.getD k bW)) (fun _=>false) (vH ⟨0,d,st.cnt 0 d⟩ z st) k=vH ⟨0,d,st.cnt 0 d⟩ z st:=by
         intro k;induction k with
         |zero=>rfl
         |succ k ih=>simp only[dN,bQm,if_false];exact ih
        have hf: ¬(Array.replicate ops.size false).getD A false=true:=by
         rw[bQy,bSg]
         split<;>simp
        rw[this,if_neg hf];exact hR'
       ·exact fun a' w' G' h1 h2=>hQ a' w' G' undef trivial h1.e ⟨h2.os,h2.tape,h2.output,h2.size,h2.block⟩
     |none=>
     simp only[hlt]at hx;rw[exec]at hx
     split at hx
     ·rename_i j hj;exact wpIn_region_any hm (aUb (Ξ:=Ξ) (B:=B) (S:=S) hc hio (aUe hL hF) (aJk hL hF) hlow hd' han hps (by have:=aJi _ hj;omega) hx (hR.below hb)
       fun a' w' G' x h1 h2 h3=>hQ a' w' G' x h1 h2 ⟨h3.os,h3.tape,h3.output,h3.size,h3.block⟩)
     ·split at hx
      case h_2=>cases hx
      rename_i s1 rs hrun
      split at hx
      case isFalse=>cases hx
      rename_i hok;simp only[bQi,bQo]at hx;exact drawOk s1 rs hrun hok hx.1.symm hx.2.symm
    |false=>
     simp only[hX,bQm,if_false,bRc]at hx;rw[exec]at hx
     split at hx
     case h_2=>cases hx
     rename_i s1 rs hrun
     split at hx
     case isFalse=>cases hx
     rename_i hok;simp only[bQi,bQo]at hx;exact drawOk s1 rs hrun hok hx.1.symm hx.2.symm
 case seq x y _ _=>
  simp only[cB,aY.dstOk,bQj]at hd;simp only[cB,exec]at hx
  refine wpIn_seq ?_
  cases h1:exec L n (cB P I x) st with
  |none=>rw[h1]at hx;cases hx
  |some p=>
   obtain⟨e1,s1⟩:=p;rw[h1]at hx;have hnr1:Ξ.nm=true->(cB P I x).noRg=true/\ (cB P I y).noRg=true:=fun h=>by simpa[cB,aY.noRg]using hnr h
   refine ih I N x st e1 s1 Ξ B S G a w _ m hd.1 (fun h=>(hnr1 h).1) hR h1 fun a1 w1 G1 x1 hx1 hR1 hb1=>?_
   cases e1 with
   |panic v=>simp only[bQi,bQo]at hx;obtain⟨rfl,rfl⟩:=hx;exact hQ a1 w1 G1 x1 hx1 hR1 hb1
   |normal=>exact ih I N y s1 e st' Ξ B S G1 a1 w1 _ m hd.2 (fun h=>(hnr1 h).2) (hR1.rel rfl) hx fun a2 w2 G2 x2 hx2 hR2 hb2=>hQ a2 w2 G2 x2 hx2 hR2 (hb1.trans hb2)
   |exit id=>simp only[bQi,bQo]at hx;obtain⟨rfl,rfl⟩:=hx;exact hQ a1 w1 G1 x1 trivial hR1 hb1
   |ret=>simp only[bQi,bQo]at hx;obtain⟨rfl,rfl⟩:=hx;exact hQ a1 w1 G1 x1 trivial hR1 hb1
 case cond z x y _ _=>
  simp only[cB]at hd hx;cases hz':aO z with
  |none=>rw[hz']at hx;exact(xA hx).elim
  |some z'=>
   rw[hz']at hx hd;simp only[aY.dstOk,bQj]at hd;have hnr1:Ξ.nm=true->(cB P I x).noRg=true/\ (cB P I y).noRg=true:=fun h=>by simpa[cB,hz',aY.noRg]using hnr h
   simp only[exec]at hx;have hv:=aU hR hz'
   split at hx
   ·rename_i hz;rw[hz]at hv;have:a.eval z= .bool true:=by generalize a.eval z=q at hv;cases hv;rfl
    exact wpIn_cond_true this (ih I N x st e st' Ξ B S G a w Q m hd.1 (fun h=>(hnr1 h).1) hR hx hQ)
   ·rename_i hz;rw[hz]at hv;have:a.eval z= .bool false:=by generalize a.eval z=q at hv;cases hv;rfl
    exact wpIn_cond_false this (ih I N y st e st' Ξ B S G a w Q m hd.2 (fun h=>(hnr1 h).2) hR hx hQ)
   ·cases hx
 case block id x _=>
  simp only[cB,aY.dstOk]at hd;simp only[cB,exec]at hx
  refine wpIn_block ?_
  cases h1:exec L n (cB P I x) st with
  |none=>rw[h1]at hx;cases hx
  |some p=>
   obtain⟨e1,s1⟩:=p;rw[h1]at hx
   refine ih I N x st e1 s1 Ξ B S G a w _ m hd (fun h=>by simpa[cB,aY.noRg]using hnr h) hR h1 fun a1 w1 G1 x1 hx1 hR1 hb1=>?_
   cases e1 with
   |panic v=>simp only[bQi,bQo]at hx;obtain⟨rfl,rfl⟩:=hx;exact hQ a1 w1 G1 x1 hx1 hR1 hb1
   |normal=>simp only[bQi,bQo]at hx;obtain⟨rfl,rfl⟩:=hx;exact hQ a1 w1 G1 x1 trivial hR1 hb1
   |exit id'=>
    simp only at hx
    simp only[Ex.toExit,Exit.inBlock]
    split at hx
    ·rename_i he;rw[if_pos he];simp only[bQi,bQo]at hx;obtain⟨rfl,rfl⟩:=hx;exact hQ a1 w1 G1 x1 trivial hR1 hb1
    ·rename_i he;rw[if_neg he];simp only[bQi,bQo]at hx;obtain⟨rfl,rfl⟩:=hx;exact hQ a1 w1 G1 x1 trivial hR1 hb1
   |ret=>simp only[bQi,bQo]at hx;obtain⟨rfl,rfl⟩:=hx;exact hQ a1 w1 G1 x1 trivial hR1 hb1
 case loop x _=>
  simp only[cB,aY.dstOk]at hd;simp only[cB]at hx;have key: ∀k s1 G1 a1 w1,k<=n+1->Rel P Ξ B S G1 s1 N a1 w1->exec L k (.loop (cB P I x)) s1=some (e,st')->Below B w w1->Code.roundsIn (Fx Ξ.ro) m P x Q k a1 w1:=by
   intro k
   induction k with
   |zero=>intro s1 G1 a1 w1 _ _ hx1 _;simp[exec]at hx1
   |succ k ihk=>
    intro s1 G1 a1 w1 hk hR1 hx1 hb1;simp only[exec]at hx1;rw[roundsIn_succ];cases h1:exec L k (cB P I x) s1 with
    |none=>rw[h1]at hx1;cases hx1
    |some p=>
     obtain⟨e1,s2⟩:=p;rw[h1]at hx1
     refine ihs k (by omega) I N x s1 e1 s2 Ξ B S G1 a1 w1 _ m hd (fun h=>by simpa[cB,aY.noRg]using hnr h) hR1 h1 fun a2 w2 G2 x2 hx2 hR2 hb2=>?_
     cases e1 with
     |panic v=>simp only[bQi,bQo]at hx1;obtain⟨rfl,rfl⟩:=hx1;exact hQ a2 w2 G2 x2 hx2 hR2 (hb1.trans hb2)
     |normal=>exact ihk s2 G2 a2 w2 (by omega) (hR2.rel rfl) hx1 (hb1.trans hb2)
     |exit id=>simp only[bQi,bQo]at hx1;obtain⟨rfl,rfl⟩:=hx1;exact hQ a2 w2 G2 x2 trivial hR2 (hb1.trans hb2)
     |ret=>simp only[bQi,bQo]at hx1;obtain⟨rfl,rfl⟩:=hx1;exact hQ a2 w2 G2 x2 trivial hR2 (hb1.trans hb2)
  exact wpIn_loop_rounds (n+1) (key (n+1) st G a w (bQk _) hR hx (Below.refl _ _))
 case exit id=>
  simp only[cB,exec,bQi,bQo]at hx;obtain⟨rfl,rfl⟩:=hx;exact wpIn_exit (hQ a w G undef trivial hR.e (Below.refl _ _))
 case ret=>
  simp only[cB,exec,bQi,bQo]at hx;obtain⟨rfl,rfl⟩:=hx;exact wpIn_ret (hQ a w G undef trivial hR.e (Below.refl _ _))
 case rangeFunc g ps ca cb _ _=>
  simp only[cB]at hd hx;cases hg:aO g with
  |none=>rw[hg]at hx;exact(xA hx).elim
  |some g'=>
   rw[hg]at hx hd;simp only[aY.dstOk,bQj]at hd;simp only[exec]at hx;have hnm:Ξ.nm=false:=by
    cases h:Ξ.nm with
    |false=>rfl
    |true=>have:=hnr h;simp[cB,hg,aY.noRg]at this
   exact aUf hL hF hg hd.1.1 hd.1.2 hd.2 hnm hR hx hQ
 case scope x ihx=>
  refine aQ8 (ihx st e st' Ξ B S G a w _ m hd hnr hR hx fun a1 w1 G1 x1 hx1 hR1 hb1=>?_)
  have:=hQ a1 w1 G1 x1 hx1 hR1 hb1;cases e<;>exact this
 all_goals (simp only[cB]at hx;exact(xA hx).elim)
end Go.Abs
